/- page.Differ. -/
import Derived.Test.YtccgncjncklheaaAlign1
import Derived.Test.YtccgncjncklheaaCountLaw
namespace Go.Proofs.Ytccgncjncklheaa
open Go.RowKit

def diffErr (aW aH bW bH : Int) (an bn : Nat) : Int := firstNZ [pageErr aW aH an, pageErr bW bH bn, whenI (aW != bW || aH != bH) 11]
theorem diffErr_zero {aW aH bW bH : Int} {an bn : Nat} (h : diffErr aW aH bW bH an bn = 0) : pageErr aW aH an = 0 ∧ pageErr bW bH bn = 0 ∧ aW = bW ∧ aH = bH := by
  unfold diffErr at h
  by_cases h1 : pageErr aW aH an = 0
  · by_cases h2 : pageErr bW bH bn = 0
    · by_cases h3 : aW = bW
      · by_cases h4 : aH = bH
        · exact ⟨h1, h2, h3, h4⟩
        · have h5 : (aW != bW || aH != bH) = true := by simp [h4]
          simp only [firstNZ, if_pos h1, if_pos h2, h5, whenI, if_true] at h
          rw [if_neg (by decide)] at h; exact absurd h (by decide)
      · have h5 : (aW != bW || aH != bH) = true := by simp [h3]
        simp only [firstNZ, if_pos h1, if_pos h2, h5, whenI, if_true] at h
        rw [if_neg (by decide)] at h; exact absurd h (by decide)
    · simp only [firstNZ, if_pos h1, if_neg h2] at h; exact absurd h h2
  · simp only [firstNZ, if_neg h1] at h; exact absurd h h1
theorem differs0 (bs cs : List Bool) (W H i : Nat) (hi : i < W * H) : differs bs cs W H 0 0 i = (bs.getD i false != cs.getD i false) := by
  obtain ⟨h1, h2, h3⟩ := place_parts hi
  unfold differs
  rw [Int.sub_zero, Int.sub_zero, atI_in cs W H _ _ h1 h2, pix_place hi]

set_option maxRecDepth 100000 in
set_option maxHeartbeats 2000000 in
theorem differ_bad1 (aW aH bW bH : Int) (A C : Option Addr) (an ac bn cc : Nat) (w : World) (h : pageErr aW aH an ≠ 0) :
    Calls Try.prog 79 #[.agg #[.int .i64 aW, .int .i64 aH, .slice A an ac], .agg #[.int .i64 bW, .int .i64 bH, .slice C bn cc]] w
      fun e w' => e = .returned (.tuple #[.int .i64 0, .int .i64 (pageErr aW aH an)]) ∧ Bl w w' := by
  let w3 := (((w).alloc (.cells #[.int .i64 aW, .int .i64 aH, .slice A an ac] 39)).alloc (.cells #[.int .i64 bW, .int .i64 bH, .slice C bn cc] 39)).alloc (.cells #[.int .i64 aW, .int .i64 aH, .slice A an ac, .int .i64 bW, .int .i64 bH, .slice C bn cc] 39)
  have w3b : Bl w w3 := (((Bl.refl w).alloc _).alloc _).alloc _
  have w31 : Blk w3 (w.heap.size) 39 #[.int .i64 aW, .int .i64 aH, .slice A an ac] := by
    have h0 := Blk.new (w) 39 #[.int .i64 aW, .int .i64 aH, .slice A an ac]
    exact ((h0.alloc _).alloc _)
  have w32 : Blk w3 (w.heap.size + 1) 39 #[.int .i64 bW, .int .i64 bH, .slice C bn cc] := by
    have h0 := Blk.new ((w).alloc (.cells #[.int .i64 aW, .int .i64 aH, .slice A an ac] 39)) 39 #[.int .i64 bW, .int .i64 bH, .slice C bn cc]
    simp only [World.size_alloc] at h0
    exact (h0.alloc _)
  have w33 : Blk w3 (w.heap.size + 1 + 1) 39 #[.int .i64 aW, .int .i64 aH, .slice A an ac, .int .i64 bW, .int .i64 bH, .slice C bn cc] := by
    have h0 := Blk.new (((w).alloc (.cells #[.int .i64 aW, .int .i64 aH, .slice A an ac] 39)).alloc (.cells #[.int .i64 bW, .int .i64 bH, .slice C bn cc] 39)) 39 #[.int .i64 aW, .int .i64 aH, .slice A an ac, .int .i64 bW, .int .i64 bH, .slice C bn cc]
    simp only [World.size_alloc] at h0
    exact h0
  have hq : (pageErr aW aH an != 0) = true := by simp [h]
  clear h
  go_enter Try.func79, Try.ntmps79
  go_wp2_with fail
  refine wp_loop_rounds 3 ?_
  rw [rounds_succ]
  go_wp2_with fail
  refine (checkBits_any _ _ _ _ _ _).mono ?_
  rintro e w7 ⟨rfl, hb7⟩
  have hb67 : Bl w3 w7 := ((Bl.refl w3).alloc _).trans hb7
  have a6 := (w33.bl hb67).all6
  have l7 : w.heap.size + 2 < w7.heap.size := by have := (w33.bl hb67).lt; simpa using this
  go_wp2_with fail
  refine bodyPost_ret (v := .tuple #[.int .i64 0, .int .i64 (pageErr aW aH an)]) (by simp [results, Try.results79, go_sem]) rfl ⟨rfl, w3b.trans hb67⟩

set_option maxRecDepth 100000 in
set_option maxHeartbeats 2000000 in
theorem differ_bad2 (aW aH bW bH : Int) (A C : Option Addr) (an ac bn cc : Nat) (w : World) (h0 : pageErr aW aH an = 0) (h : pageErr bW bH bn ≠ 0) :
    Calls Try.prog 79 #[.agg #[.int .i64 aW, .int .i64 aH, .slice A an ac], .agg #[.int .i64 bW, .int .i64 bH, .slice C bn cc]] w
      fun e w' => e = .returned (.tuple #[.int .i64 0, .int .i64 (pageErr bW bH bn)]) ∧ Bl w w' := by
  let w3 := (((w).alloc (.cells #[.int .i64 aW, .int .i64 aH, .slice A an ac] 39)).alloc (.cells #[.int .i64 bW, .int .i64 bH, .slice C bn cc] 39)).alloc (.cells #[.int .i64 aW, .int .i64 aH, .slice A an ac, .int .i64 bW, .int .i64 bH, .slice C bn cc] 39)
  have w3b : Bl w w3 := (((Bl.refl w).alloc _).alloc _).alloc _
  have w31 : Blk w3 (w.heap.size) 39 #[.int .i64 aW, .int .i64 aH, .slice A an ac] := by
    have h0 := Blk.new (w) 39 #[.int .i64 aW, .int .i64 aH, .slice A an ac]
    exact ((h0.alloc _).alloc _)
  have w32 : Blk w3 (w.heap.size + 1) 39 #[.int .i64 bW, .int .i64 bH, .slice C bn cc] := by
    have h0 := Blk.new ((w).alloc (.cells #[.int .i64 aW, .int .i64 aH, .slice A an ac] 39)) 39 #[.int .i64 bW, .int .i64 bH, .slice C bn cc]
    simp only [World.size_alloc] at h0
    exact (h0.alloc _)
  have w33 : Blk w3 (w.heap.size + 1 + 1) 39 #[.int .i64 aW, .int .i64 aH, .slice A an ac, .int .i64 bW, .int .i64 bH, .slice C bn cc] := by
    have h0 := Blk.new (((w).alloc (.cells #[.int .i64 aW, .int .i64 aH, .slice A an ac] 39)).alloc (.cells #[.int .i64 bW, .int .i64 bH, .slice C bn cc] 39)) 39 #[.int .i64 aW, .int .i64 aH, .slice A an ac, .int .i64 bW, .int .i64 bH, .slice C bn cc]
    simp only [World.size_alloc] at h0
    exact h0
  have hq : (pageErr bW bH bn != 0) = true := by simp [h]
  clear h
  go_enter Try.func79, Try.ntmps79
  go_wp2_with fail
  refine wp_loop_rounds 3 ?_
  rw [rounds_succ]
  go_wp2_with fail
  refine (checkBits_any _ _ _ _ _ _).mono ?_
  rintro e w7 ⟨rfl, hb7⟩
  have hb67 : Bl w3 w7 := ((Bl.refl w3).alloc _).trans hb7
  have a6 := (w33.bl hb67).all6
  have l7 : w.heap.size + 2 < w7.heap.size := by have := (w33.bl hb67).lt; simpa using this
  go_wp2_with fail
  rw [rounds_succ]
  go_wp2_with fail
  refine (checkBits_any _ _ _ _ _ _).mono ?_
  rintro e w8 ⟨rfl, hb8⟩
  have hb68 : Bl w3 w8 := (hb67.alloc _).trans hb8
  have q1 := (w31.bl hb68).all3
  have q2 := (w32.bl hb68).all3
  have hb8w := w3b.trans hb68
  go_wp2_with fail
  refine bodyPost_ret (v := .tuple #[.int .i64 0, .int .i64 (pageErr bW bH bn)]) (by simp [results, Try.results79, go_sem]) rfl ⟨rfl, hb8w⟩

set_option maxRecDepth 100000 in
set_option maxHeartbeats 2000000 in
theorem differ_conf (aW aH bW bH : Int) (A C : Option Addr) (an ac bn cc : Nat) (w : World) (h0 : pageErr aW aH an = 0) (h1 : pageErr bW bH bn = 0) (h : ¬ (aW = bW ∧ aH = bH)) :
    Calls Try.prog 79 #[.agg #[.int .i64 aW, .int .i64 aH, .slice A an ac], .agg #[.int .i64 bW, .int .i64 bH, .slice C bn cc]] w
      fun e w' => e = .returned (.tuple #[.int .i64 0, .int .i64 (11)]) ∧ Bl w w' := by
  let w3 := (((w).alloc (.cells #[.int .i64 aW, .int .i64 aH, .slice A an ac] 39)).alloc (.cells #[.int .i64 bW, .int .i64 bH, .slice C bn cc] 39)).alloc (.cells #[.int .i64 aW, .int .i64 aH, .slice A an ac, .int .i64 bW, .int .i64 bH, .slice C bn cc] 39)
  have w3b : Bl w w3 := (((Bl.refl w).alloc _).alloc _).alloc _
  have w31 : Blk w3 (w.heap.size) 39 #[.int .i64 aW, .int .i64 aH, .slice A an ac] := by
    have h0 := Blk.new (w) 39 #[.int .i64 aW, .int .i64 aH, .slice A an ac]
    exact ((h0.alloc _).alloc _)
  have w32 : Blk w3 (w.heap.size + 1) 39 #[.int .i64 bW, .int .i64 bH, .slice C bn cc] := by
    have h0 := Blk.new ((w).alloc (.cells #[.int .i64 aW, .int .i64 aH, .slice A an ac] 39)) 39 #[.int .i64 bW, .int .i64 bH, .slice C bn cc]
    simp only [World.size_alloc] at h0
    exact (h0.alloc _)
  have w33 : Blk w3 (w.heap.size + 1 + 1) 39 #[.int .i64 aW, .int .i64 aH, .slice A an ac, .int .i64 bW, .int .i64 bH, .slice C bn cc] := by
    have h0 := Blk.new (((w).alloc (.cells #[.int .i64 aW, .int .i64 aH, .slice A an ac] 39)).alloc (.cells #[.int .i64 bW, .int .i64 bH, .slice C bn cc] 39)) 39 #[.int .i64 aW, .int .i64 aH, .slice A an ac, .int .i64 bW, .int .i64 bH, .slice C bn cc]
    simp only [World.size_alloc] at h0
    exact h0
  have hc : ((aW != bW) = true ∧ True) ∨ ((aW != bW) = false ∧ (aH != bH) = true) := by
    by_cases e : aW = bW
    · exact Or.inr ⟨by simp [e], by simp; exact fun e2 => h ⟨e, e2⟩⟩
    · exact Or.inl ⟨by simp [e], trivial⟩
  clear h
  go_enter Try.func79, Try.ntmps79
  go_wp2_with fail
  refine wp_loop_rounds 3 ?_
  rw [rounds_succ]
  go_wp2_with fail
  refine (checkBits_any _ _ _ _ _ _).mono ?_
  rintro e w7 ⟨rfl, hb7⟩
  have hb67 : Bl w3 w7 := ((Bl.refl w3).alloc _).trans hb7
  have a6 := (w33.bl hb67).all6
  have l7 : w.heap.size + 2 < w7.heap.size := by have := (w33.bl hb67).lt; simpa using this
  go_wp2_with fail
  rw [rounds_succ]
  go_wp2_with fail
  refine (checkBits_any _ _ _ _ _ _).mono ?_
  rintro e w8 ⟨rfl, hb8⟩
  have hb68 : Bl w3 w8 := (hb67.alloc _).trans hb8
  have q1 := (w31.bl hb68).all3
  have q2 := (w32.bl hb68).all3
  have hb8w := w3b.trans hb68
  go_wp2_with fail
  rw [rounds_succ]
  rcases hc with ⟨c1, c2⟩ | ⟨c1, c2⟩
  all_goals
    go_wp2_with fail
    refine bodyPost_ret (v := .tuple #[.int .i64 0, .int .i64 (11)]) (by simp [results, Try.results79, go_sem]) rfl ⟨rfl, hb8w⟩

set_option maxRecDepth 100000 in
set_option maxHeartbeats 2000000 in
theorem differ_ok (W H : Nat) (A C : Option Addr) (ac cc : Nat) (bs cs : List Bool) (w : World) (hA : Reads w 1 A (W * H) (bs.map .bool)) (hC : Reads w 1 C (W * H) (cs.map .bool)) (h0 : pageErr W H (W * H) = 0) :
    Calls Try.prog 79 #[.agg #[.int .i64 W, .int .i64 H, .slice A (W * H) ac], .agg #[.int .i64 W, .int .i64 H, .slice C (W * H) cc]] w
      fun e w' => e = .returned (.tuple #[.int .i64 (cntD bs cs W H 0 0 (W * H)), .int .i64 0]) ∧ Bl w w' := by
  have hbd : W * H ≤ 1048576 := by
    obtain ⟨W', H', e1, e2, e3, _, _, u3⟩ := page_nat h0
    omega
  let w3 := (((w).alloc (.cells #[.int .i64 W, .int .i64 H, .slice A (W * H) ac] 39)).alloc (.cells #[.int .i64 W, .int .i64 H, .slice C (W * H) cc] 39)).alloc (.cells #[.int .i64 W, .int .i64 H, .slice A (W * H) ac, .int .i64 W, .int .i64 H, .slice C (W * H) cc] 39)
  have w3b : Bl w w3 := (((Bl.refl w).alloc _).alloc _).alloc _
  have w31 : Blk w3 (w.heap.size) 39 #[.int .i64 W, .int .i64 H, .slice A (W * H) ac] := by
    have h0 := Blk.new (w) 39 #[.int .i64 W, .int .i64 H, .slice A (W * H) ac]
    exact ((h0.alloc _).alloc _)
  have w32 : Blk w3 (w.heap.size + 1) 39 #[.int .i64 W, .int .i64 H, .slice C (W * H) cc] := by
    have h0 := Blk.new ((w).alloc (.cells #[.int .i64 W, .int .i64 H, .slice A (W * H) ac] 39)) 39 #[.int .i64 W, .int .i64 H, .slice C (W * H) cc]
    simp only [World.size_alloc] at h0
    exact (h0.alloc _)
  have w33 : Blk w3 (w.heap.size + 1 + 1) 39 #[.int .i64 W, .int .i64 H, .slice A (W * H) ac, .int .i64 W, .int .i64 H, .slice C (W * H) cc] := by
    have h0 := Blk.new (((w).alloc (.cells #[.int .i64 W, .int .i64 H, .slice A (W * H) ac] 39)).alloc (.cells #[.int .i64 W, .int .i64 H, .slice C (W * H) cc] 39)) 39 #[.int .i64 W, .int .i64 H, .slice A (W * H) ac, .int .i64 W, .int .i64 H, .slice C (W * H) cc]
    simp only [World.size_alloc] at h0
    exact h0
  go_enter Try.func79, Try.ntmps79
  go_wp2_with fail
  refine wp_loop_rounds 3 ?_
  rw [rounds_succ]
  go_wp2_with fail
  refine (checkBits_any _ _ _ _ _ _).mono ?_
  rintro e w7 ⟨rfl, hb7⟩
  have hb67 : Bl w3 w7 := ((Bl.refl w3).alloc _).trans hb7
  have a6 := (w33.bl hb67).all6
  have l7 : w.heap.size + 2 < w7.heap.size := by have := (w33.bl hb67).lt; simpa using this
  go_wp2_with fail
  rw [rounds_succ]
  go_wp2_with fail
  refine (checkBits_any _ _ _ _ _ _).mono ?_
  rintro e w8 ⟨rfl, hb8⟩
  have hb68 : Bl w3 w8 := (hb67.alloc _).trans hb8
  have q1 := (w31.bl hb68).all3
  have q2 := (w32.bl hb68).all3
  have hb8w := w3b.trans hb68
  have B1 := w31.bl hb68
  have B2 := w32.bl hb68
  have hA8 := hA.bl hb8w
  have hC8 := hC.bl hb8w
  have HA8 := Lib.hid hA8; have HC8 := Lib.hid hC8
  clear hA8 hC8 hA hC
  go_wp2_with fail
  rw [rounds_succ]
  go_wp2_with fail
  go_loop [9, 41] (fun n u => ∃ i : Nat, i ≤ W * H ∧ u = .int .i64 i ∧ n = .int .i64 (cntD bs cs W H 0 0 i)) (fun _ u => W * H - (intOf u).toNat)
  case atStart => exact ⟨0, Nat.zero_le _, rfl, rfl⟩
  case round =>
    obtain ⟨i, hi, rfl, rfl⟩ := hrel
    by_cases hlt : i < W * H
    · have il : (i : Int) < (W : Int) * (H : Int) := by have := Int.natCast_mul W H; omega
      obtain ⟨ad, ua, eA, hu, hca⟩ := HA8.out.at_ hlt
      obtain ⟨cd, uc, eC, hv, hcc⟩ := HC8.out.at_ hlt
      have hua : ua = .bool (bs.getD i false) := by
        simp only [List.getElem?_map, Option.map_eq_some_iff] at hu
        obtain ⟨b, hb1, hb2⟩ := hu
        rw [← hb2, List.getD, hb1]; rfl
      have huc : uc = .bool (cs.getD i false) := by
        simp only [List.getElem?_map, Option.map_eq_some_iff] at hv
        obtain ⟨b, hb1, hb2⟩ := hv
        rw [← hb2, List.getD, hb1]; rfl
      clear hu hv
      subst hua huc eA eC
      have hst : cntD bs cs W H 0 0 (i + 1) = cntD bs cs W H 0 0 i + (if (bs.getD i false != cs.getD i false) = true then 1 else 0) := by rw [← differs0 bs cs W H i hlt]; rfl
      have hle := cntD_le bs cs W H 0 0 i
      obtain ⟨n, hn⟩ : ∃ n, n = cntD bs cs W H 0 0 i := ⟨_, rfl⟩
      obtain ⟨va, hva⟩ : ∃ v, v = bs.getD i false := ⟨_, rfl⟩
      obtain ⟨vb, hvb⟩ : ∃ v, v = cs.getD i false := ⟨_, rfl⟩
      rw [← hn] at hst hle ⊢
      rw [← hva, ← hvb] at hst
      rw [← hva] at hca
      rw [← hvb] at hcc
      have Hst := Lib.hid hst
      clear hn hva hvb hst
      cases va <;> cases vb
      all_goals
        go_wp2_with fail
        exact ⟨⟨i + 1, hlt, by go_num, by rw [Hst.out]; simp⟩, by simp [intOf]; omega⟩
    · obtain rfl : i = W * H := by omega
      go_wp2_with fail
      refine bodyPost_ret (v := .tuple #[.int .i64 (cntD bs cs W H 0 0 (W * H)), .int .i64 0]) (by simp [results, Try.results79, go_sem]) rfl ⟨rfl, hb8w⟩

theorem differ_any (aW aH bW bH : Int) (A C : Option Addr) (an ac bn cc : Nat) (bs cs : List Bool) (w : World) (hA : Reads w 1 A an (bs.map .bool)) (hC : Reads w 1 C bn (cs.map .bool)) :
    Calls Try.prog 79 #[.agg #[.int .i64 aW, .int .i64 aH, .slice A an ac], .agg #[.int .i64 bW, .int .i64 bH, .slice C bn cc]] w
      fun e w' => ∃ n : Nat, e = .returned (.tuple #[.int .i64 n, .int .i64 (diffErr aW aH bW bH an bn)]) ∧ (diffErr aW aH bW bH an bn ≠ 0 → n = 0) ∧ (diffErr aW aH bW bH an bn = 0 → n = cntD bs cs aW.toNat aH.toNat 0 0 (aW.toNat * aH.toNat)) ∧ Bl w w' := by
  by_cases h1 : pageErr aW aH an = 0
  · by_cases h2 : pageErr bW bH bn = 0
    · by_cases h3 : aW = bW ∧ aH = bH
      · have e : diffErr aW aH bW bH an bn = 0 := by
          unfold diffErr
          simp only [firstNZ, if_pos h1, if_pos h2]
          simp [whenI, h3.1, h3.2]
        rw [e]
        obtain ⟨rfl, rfl⟩ := h3
        obtain ⟨W, H, rfl, rfl, rfl, _⟩ := page_nat h1
        obtain rfl : bn = W * H := by
          have := (pageErr_zero h2).2
          have := Int.natCast_mul W H
          omega
        refine (differ_ok W H A C ac cc bs cs w hA hC h1).mono ?_
        rintro e w' ⟨rfl, hb⟩
        exact ⟨_, rfl, fun h => absurd rfl h, fun _ => by simp, hb⟩
      · have e : diffErr aW aH bW bH an bn = 11 := by
          have h3' : (aW != bW || aH != bH) = true := by
            by_cases a : aW = bW <;> by_cases b : aH = bH
            · exact absurd ⟨a, b⟩ h3
            · simp [b]
            · simp [a]
            · simp [a]
          unfold diffErr; simp only [firstNZ, h1, h2, h3', whenI, if_true]; simp
        rw [e]
        refine (differ_conf aW aH bW bH A C an ac bn cc w h1 h2 h3).mono ?_
        rintro e w' ⟨rfl, hb⟩
        exact ⟨0, rfl, fun _ => rfl, fun h => absurd h (by decide), hb⟩
    · have e : diffErr aW aH bW bH an bn = pageErr bW bH bn := by unfold diffErr; simp [firstNZ, h1, h2]
      rw [e]
      refine (differ_bad2 aW aH bW bH A C an ac bn cc w h1 h2).mono ?_
      rintro e w' ⟨rfl, hb⟩
      exact ⟨0, rfl, fun _ => rfl, fun h => absurd h h2, hb⟩
  · have e : diffErr aW aH bW bH an bn = pageErr aW aH an := by unfold diffErr; simp [firstNZ, h1]
    rw [e]
    refine (differ_bad1 aW aH bW bH A C an ac bn cc w h1).mono ?_
    rintro e w' ⟨rfl, hb⟩
    exact ⟨0, rfl, fun _ => rfl, fun h => absurd h h1, hb⟩

end Go.Proofs.Ytccgncjncklheaa
