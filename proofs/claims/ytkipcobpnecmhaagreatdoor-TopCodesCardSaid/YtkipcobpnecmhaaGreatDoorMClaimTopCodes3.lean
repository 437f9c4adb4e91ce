/- page.made, page.Paste and page.Turn of right pages: the pages' caps are their lengths. -/
import Derived.Test.YtkipcobpnecmhaaGreatDoorMClaimTopCodes1
import Derived.Laws.BitsLemmas
import Derived.Laws.EntriesVeiled

namespace Go.Proofs.YtkipcobpnecmhaaGreatDoor
open Go.RowKit

theorem i64_and3 (n : Int) : bits .and .i64 n 3 = n % 4 := by
  have h127 : (BitVec.ofInt 64 3).toNat = 2 ^ 2 - 1 := by decide
  have key : (BitVec.ofInt 64 n &&& BitVec.ofInt 64 3).toNat = (n % ((2 ^ 64 : Nat) : Int)).toNat % 2 ^ 2 := by
    rw [BitVec.toNat_and, BitVec.toNat_ofInt, h127, Nat.and_two_pow_sub_one_eq_mod]
  show IntKind.i64.wrap ((BitVec.ofInt 64 n &&& BitVec.ofInt 64 3).toNat : Nat) = n % 4
  rw [key, IntKind.wrap_i64]
  omega

def tP (W H k x y : Nat) : Int := ((tF (fun x y => y * W + x) k W H x y : Nat) : Int)
def tN (W H k x y : Nat) : Nat := tF (fun x y => y * W + x) k W H x y
theorem tP_tN (W H k x y : Nat) : tP W H k x y = (tN W H k x y : Int) := rfl
theorem tN_lt {W H k x y : Nat} (hx : x < tW k W H) (hy : y < tH k W H) : tN W H k x y < W * H := t_in k W H x y hx hy
theorem pix_tN (bs : List Bool) (W H k x y : Nat) : bs.getD (tN W H k x y) false = tF (pix bs W) k W H x y := by
  unfold tN tF pix
  split
  · rfl
  · split
    · rfl
    · split <;> rfl
set_option maxRecDepth 100000 in
set_option maxHeartbeats 1000000 in
theorem turned_any (W H : Nat) (q : Int) (w : World) (hW : W ≤ 4000) (hH : H ≤ 4000) :
    Calls Tryz.prog 39 #[.int .i64 W, .int .i64 H, .int .i64 q] w fun e w' => ∃ kf cap, e = .returned (.tuple #[.int .i64 (tW (quarter q) W H), .int .i64 (tH (quarter q) W H), .func (.func kf) #[] cap]) ∧
      Paints Tryz.prog kf cap (Value.int .i64) w' (tW (quarter q) W H) (tH (quarter q) W H) (tP W H (quarter q)) ∧ Bl w w' := by
  let w2 := ((w).alloc (.cells #[.int .i64 W] 3)).alloc (.cells #[.int .i64 H] 3)
  have w2b : Bl w w2 := ((Bl.refl w).alloc _).alloc _
  have w21 : Blk w2 (w.heap.size) 3 #[.int .i64 W] := by
    have h0 := Blk.new (w) 3 #[.int .i64 W]
    exact (h0.alloc _)
  have w22 : Blk w2 (w.heap.size + 1) 3 #[.int .i64 H] := by
    have h0 := Blk.new ((w).alloc (.cells #[.int .i64 W] 3)) 3 #[.int .i64 H]
    simp only [World.size_alloc] at h0
    exact h0
  have hand := i64_and3 q
  have hm : (q % 4 = 1 ∧ quarter q = 1) ∨ (q % 4 = 2 ∧ quarter q = 2) ∨ (q % 4 = 3 ∧ quarter q = 3) ∨ (q % 4 = 0 ∧ quarter q = 0) := by unfold quarter; omega

  rcases hm with ⟨hq, hk⟩ | ⟨hq, hk⟩ | ⟨hq, hk⟩ | ⟨hq, hk⟩
  · have Hk := Lib.hid hk
    rw [hk]
    rw [hq] at hand
    clear hq hk
    have hP : Paints Tryz.prog 69 #[.pointer (some ⟨w.heap.size + 1, 0, none⟩), .pointer (some ⟨w.heap.size, 0, none⟩)] (Value.int .i64) w2.drew (tW 1 W H) (tH 1 W H) (tP W H 1) :=
      ⟨enters Tryz.func69 (by kernel_rfl) rfl, fun wx x y hb hx hy => turned1_any _ _ W H x y wx (w22.drew.bl hb) (w21.drew.bl hb) hW hH (by simpa [tW] using hx) (by simpa [tH] using hy)⟩
    have HP := Lib.hid hP
    clear hP
    go_enter Tryz.func39, Tryz.ntmps39
    go_wp2_with fail
    refine wp_region_flow [(true, 0), (true, 1), (true, 2), (true, 3), (true, 4), (true, 5)] (fun _ => false) (by kernel_rfl) (by kernel_rfl) (by kernel_rfl) (by kernel_rfl) ?_
    iterate 2
      apply Flow.calm2 _ _ rfl rfl
      · intro w' hb' K' hK'
        obtain ⟨hc', hf'⟩ := hb'.rule
        go_simp
        try go_ints
        exact hK'
      · intro K' hK'
        simp only [Act.put, List.setIfInBounds_toArray, List.set_cons_zero, List.set_cons_succ]
        exact hK'
    iterate 1
      apply Flow.calm2 _ _ rfl rfl
      · intro w' hb' K' hK'
        obtain ⟨hc', hf'⟩ := hb'.rule
        go_simp
        try go_ints
        exact hK'
      · intro K' hK'
        simp only [Act.put, List.setIfInBounds_toArray, List.set_cons_zero, List.set_cons_succ]
        exact hK'
    iterate 3
      apply Flow.asg _ rfl
      · intro K' hK'
        simp only [Act.put, Act.eval, List.setIfInBounds_toArray, List.set_cons_zero, List.set_cons_succ, arr_getD, List.getD_cons_zero, List.getD_cons_succ]
        exact hK'
    refine Flow.done ?_
    go_wp2_with fail
    first | go_ret2 | go_ret | (refine bodyPost_ret (v := .tuple #[.int .i64 (tW 1 W H), .int .i64 (tH 1 W H), .func (.func 69) #[] #[.pointer (some ⟨w.heap.size + 1, 0, none⟩), .pointer (some ⟨w.heap.size, 0, none⟩)]]) (by simp [results, Tryz.results39, go_sem, tW, tH]) rfl ?_)
    exact ⟨_, _, rfl, HP.out, w2b.drew⟩
  · have Hk := Lib.hid hk
    rw [hk]
    rw [hq] at hand
    clear hq hk
    have hP : Paints Tryz.prog 70 #[.pointer (some ⟨w.heap.size + 1, 0, none⟩), .pointer (some ⟨w.heap.size, 0, none⟩)] (Value.int .i64) w2.drew (tW 2 W H) (tH 2 W H) (tP W H 2) :=
      ⟨enters Tryz.func70 (by kernel_rfl) rfl, fun wx x y hb hx hy => turned2_any _ _ W H x y wx (w22.drew.bl hb) (w21.drew.bl hb) hW hH (by simpa [tW] using hx) (by simpa [tH] using hy)⟩
    have HP := Lib.hid hP
    clear hP
    go_enter Tryz.func39, Tryz.ntmps39
    go_wp2_with fail
    refine wp_region_flow [(true, 0), (true, 1), (true, 2), (true, 3), (true, 4), (true, 5)] (fun _ => false) (by kernel_rfl) (by kernel_rfl) (by kernel_rfl) (by kernel_rfl) ?_
    iterate 2
      apply Flow.calm2 _ _ rfl rfl
      · intro w' hb' K' hK'
        obtain ⟨hc', hf'⟩ := hb'.rule
        go_simp
        try go_ints
        exact hK'
      · intro K' hK'
        simp only [Act.put, List.setIfInBounds_toArray, List.set_cons_zero, List.set_cons_succ]
        exact hK'
    iterate 1
      apply Flow.calm2 _ _ rfl rfl
      · intro w' hb' K' hK'
        obtain ⟨hc', hf'⟩ := hb'.rule
        go_simp
        try go_ints
        exact hK'
      · intro K' hK'
        simp only [Act.put, List.setIfInBounds_toArray, List.set_cons_zero, List.set_cons_succ]
        exact hK'
    iterate 3
      apply Flow.asg _ rfl
      · intro K' hK'
        simp only [Act.put, Act.eval, List.setIfInBounds_toArray, List.set_cons_zero, List.set_cons_succ, arr_getD, List.getD_cons_zero, List.getD_cons_succ]
        exact hK'
    refine Flow.done ?_
    go_wp2_with fail
    first | go_ret2 | go_ret | (refine bodyPost_ret (v := .tuple #[.int .i64 (tW 2 W H), .int .i64 (tH 2 W H), .func (.func 70) #[] #[.pointer (some ⟨w.heap.size + 1, 0, none⟩), .pointer (some ⟨w.heap.size, 0, none⟩)]]) (by simp [results, Tryz.results39, go_sem, tW, tH]) rfl ?_)
    exact ⟨_, _, rfl, HP.out, w2b.drew⟩
  · have Hk := Lib.hid hk
    rw [hk]
    rw [hq] at hand
    clear hq hk
    have hP : Paints Tryz.prog 71 #[.pointer (some ⟨w.heap.size, 0, none⟩)] (Value.int .i64) w2.drew (tW 3 W H) (tH 3 W H) (tP W H 3) :=
      ⟨enters Tryz.func71 (by kernel_rfl) rfl, fun wx x y hb hx hy => turned3_any _ W H x y wx (w21.drew.bl hb) hW hH (by simpa [tW] using hx) (by simpa [tH] using hy)⟩
    have HP := Lib.hid hP
    clear hP
    go_enter Tryz.func39, Tryz.ntmps39
    go_wp2_with fail
    refine wp_region_flow [(true, 0), (true, 1), (true, 2), (true, 3), (true, 4), (true, 5)] (fun _ => false) (by kernel_rfl) (by kernel_rfl) (by kernel_rfl) (by kernel_rfl) ?_
    iterate 2
      apply Flow.calm2 _ _ rfl rfl
      · intro w' hb' K' hK'
        obtain ⟨hc', hf'⟩ := hb'.rule
        go_simp
        try go_ints
        exact hK'
      · intro K' hK'
        simp only [Act.put, List.setIfInBounds_toArray, List.set_cons_zero, List.set_cons_succ]
        exact hK'
    iterate 1
      apply Flow.calm2 _ _ rfl rfl
      · intro w' hb' K' hK'
        obtain ⟨hc', hf'⟩ := hb'.rule
        go_simp
        try go_ints
        exact hK'
      · intro K' hK'
        simp only [Act.put, List.setIfInBounds_toArray, List.set_cons_zero, List.set_cons_succ]
        exact hK'
    iterate 3
      apply Flow.asg _ rfl
      · intro K' hK'
        simp only [Act.put, Act.eval, List.setIfInBounds_toArray, List.set_cons_zero, List.set_cons_succ, arr_getD, List.getD_cons_zero, List.getD_cons_succ]
        exact hK'
    refine Flow.done ?_
    go_wp2_with fail
    first | go_ret2 | go_ret | (refine bodyPost_ret (v := .tuple #[.int .i64 (tW 3 W H), .int .i64 (tH 3 W H), .func (.func 71) #[] #[.pointer (some ⟨w.heap.size, 0, none⟩)]]) (by simp [results, Tryz.results39, go_sem, tW, tH]) rfl ?_)
    exact ⟨_, _, rfl, HP.out, w2b.drew⟩
  · have Hk := Lib.hid hk
    rw [hk]
    rw [hq] at hand
    clear hq hk
    have hP : Paints Tryz.prog 72 #[.pointer (some ⟨w.heap.size, 0, none⟩)] (Value.int .i64) w2.drew (tW 0 W H) (tH 0 W H) (tP W H 0) :=
      ⟨enters Tryz.func72 (by kernel_rfl) rfl, fun wx x y hb hx hy => turned4_any _ W H x y wx (w21.drew.bl hb) hW hH (by simpa [tW] using hx) (by simpa [tH] using hy)⟩
    have HP := Lib.hid hP
    clear hP
    go_enter Tryz.func39, Tryz.ntmps39
    go_wp2_with fail
    refine wp_region_flow [(true, 0), (true, 1), (true, 2), (true, 3), (true, 4), (true, 5)] (fun _ => false) (by kernel_rfl) (by kernel_rfl) (by kernel_rfl) (by kernel_rfl) ?_
    iterate 2
      apply Flow.calm2 _ _ rfl rfl
      · intro w' hb' K' hK'
        obtain ⟨hc', hf'⟩ := hb'.rule
        go_simp
        try go_ints
        exact hK'
      · intro K' hK'
        simp only [Act.put, List.setIfInBounds_toArray, List.set_cons_zero, List.set_cons_succ]
        exact hK'
    iterate 1
      apply Flow.calm2 _ _ rfl rfl
      · intro w' hb' K' hK'
        obtain ⟨hc', hf'⟩ := hb'.rule
        go_simp
        try go_ints
        exact hK'
      · intro K' hK'
        simp only [Act.put, List.setIfInBounds_toArray, List.set_cons_zero, List.set_cons_succ]
        exact hK'
    iterate 3
      apply Flow.asg _ rfl
      · intro K' hK'
        simp only [Act.put, Act.eval, List.setIfInBounds_toArray, List.set_cons_zero, List.set_cons_succ, arr_getD, List.getD_cons_zero, List.getD_cons_succ]
        exact hK'
    refine Flow.done ?_
    go_wp2_with fail
    first | go_ret2 | go_ret | (refine bodyPost_ret (v := .tuple #[.int .i64 (tW 0 W H), .int .i64 (tH 0 W H), .func (.func 72) #[] #[.pointer (some ⟨w.heap.size, 0, none⟩)]]) (by simp [results, Tryz.results39, go_sem, tW, tH]) rfl ?_)
    exact ⟨_, _, rfl, HP.out, w2b.drew⟩

set_option maxRecDepth 100000 in
set_option maxHeartbeats 400000 in
theorem turn1_any (pb pt : Nat) (kf : FuncId) (cap : Array Value) (W H k : Nat) (A : Option Addr) (c : Nat) (bs : List Bool) (x y : Nat) (w : World) (hb : Blk w pb 28 #[.int .i64 W, .int .i64 H, .slice A (W * H) c]) (ht : Blk w pt 64 #[.func (.func kf) #[] cap])
    (hk : Paints Tryz.prog kf cap (Value.int .i64) w (tW k W H) (tH k W H) (tP W H k)) (hr : Reads w 1 A (W * H) (bs.map .bool)) (hx : x < tW k W H) (hy : y < tH k W H) :
    Calls Tryz.prog 40 #[.int .i64 x, .int .i64 y, .pointer (some ⟨pb, 0, none⟩), .pointer (some ⟨pt, 0, none⟩)] w fun e w' => e = .returned (.bool (tF (pix bs W) k W H x y)) ∧ Bl w w' := by
  have kb := hb.all3
  have kt := ht.all1
  have hent := hk.1
  have hn := tN_lt hx hy
  have hpos : 0 < W * H := by omega
  obtain ⟨ad, u, rfl, hu, hc⟩ := hr.at_ hn
  have hl : tN W H k x y < bs.length := by have := hr.1; simp at this; omega
  have hu' : u = .bool (bs.getD (tN W H k x y) false) := by simpa [valOf, List.getD, hl] using hu.symm
  subst hu'
  rw [pix_tN] at hc
  have ep := tP_tN W H k x y
  obtain ⟨j, hj⟩ : ∃ j, j = tN W H k x y := ⟨_, rfl⟩
  rw [← hj] at hc hn ep
  have hkl : (j : Int) < (W : Int) * (H : Int) := by have := Int.natCast_mul W H; omega
  have hcall := hk.2 _ _ _ (Bl.refl w).drew hx hy
  rw [ep] at hcall
  have Hc := Lib.hid hcall
  have Hn := Lib.hid hn; have Hep := Lib.hid ep
  clear hj hu hcall hpos hl hk hr hn ep
  go_enter Tryz.func40, Tryz.ntmps40
  go_wp2_with fail
  refine wp_region_flow [(true, 0), (true, 1), (true, 2), (true, 3), (true, 4), (false, 5), (true, 6), (true, 7), (true, 8)] (fun _ => false) (by kernel_rfl) (by kernel_rfl) (by kernel_rfl) (by kernel_rfl) ?_
  iterate 1
    apply Flow.calm2 _ _ rfl rfl
    · intro w' hb' K' hK'
      obtain ⟨hc', hf'⟩ := hb'.rule
      go_simp
      try go_ints
      exact hK'
    · intro K' hK'
      simp only [Act.put, List.setIfInBounds_toArray, List.set_cons_zero, List.set_cons_succ]
      exact hK'
  iterate 2
    apply Flow.calm2 _ _ rfl rfl
    · intro w' hb' K' hK'
      obtain ⟨hc', hf'⟩ := hb'.rule
      go_simp
      try go_ints
      exact hK'
    · intro K' hK'
      simp only [Act.put, List.setIfInBounds_toArray, List.set_cons_zero, List.set_cons_succ]
      exact hK'
  iterate 2
    apply Flow.mv _ rfl
    · intro K' hK'
      simp only [Act.put, Act.eval, List.setIfInBounds_toArray, List.set_cons_zero, List.set_cons_succ, arr_getD, List.getD_cons_zero, List.getD_cons_succ]
      exact hK'
  apply Flow.move rfl
  go_wp2_with fail
  refine Hc.out.mono ?_
  rintro e w3 ⟨rfl, HB1⟩
  obtain ⟨hc3, hf3⟩ := HB1.rule
  go_wp2_with fail
  refine ⟨fun _ => (by first | exact HB1 | exact Bl.refl _), ?_⟩
  iterate 1
    apply Flow.calm2 _ _ rfl rfl
    · intro w' hb' K' hK'
      obtain ⟨hc', hf'⟩ := hb'.rule
      go_simp
      try go_ints
      exact hK'
    · intro K' hK'
      simp only [Act.put, List.setIfInBounds_toArray, List.set_cons_zero, List.set_cons_succ]
      exact hK'
  iterate 1
    apply Flow.calm2 _ _ rfl rfl
    · intro w' hb' K' hK'
      obtain ⟨hc', hf'⟩ := hb'.rule
      go_simp
      try go_ints
      exact hK'
    · intro K' hK'
      simp only [Act.put, List.setIfInBounds_toArray, List.set_cons_zero, List.set_cons_succ]
      exact hK'
  iterate 1
    apply Flow.asg _ rfl
    · intro K' hK'
      simp only [Act.put, Act.eval, List.setIfInBounds_toArray, List.set_cons_zero, List.set_cons_succ, arr_getD, List.getD_cons_zero, List.getD_cons_succ]
      exact hK'
  refine Flow.done ?_
  go_wp2_with fail
  go_ret
  exact ⟨rfl, ((Bl.refl _).drew).trans HB1⟩


theorem t_le {k W H : Nat} (hW : W ≤ 4000) (hH : H ≤ 4000) : tW k W H ≤ 4000 ∧ tH k W H ≤ 4000 := by
  unfold tW tH
  split <;> omega


end Go.Proofs.YtkipcobpnecmhaaGreatDoor


/-! page.made, page.Paste and page.Turn of right pages: the pages' caps are their lengths. -/
namespace Go.Proofs.YtkipcobpnecmhaaGreatDoor
open Go.RowKit

/-- A page in new memory, its row no longer than it is. -/
def CPage (B : Nat) (w : World) (v : Value) (W H : Nat) (cells : List Value) : Prop := ∃ A, v = .agg #[.int .i64 W, .int .i64 H, .slice A (W * H) (W * H)] ∧ Reads w 1 A (W * H) cells ∧ ∀ ad, A = some ad → B ≤ ad.block

set_option maxRecDepth 100000 in
set_option maxHeartbeats 1000000 in
theorem madeC_any (W H : Nat) (f : Nat → Nat → Bool) (k : FuncId) (cap : Array Value) (w : World) (hW : W ≤ 1048576) (hH : H ≤ 1048576) (hWH : W * H ≤ 1048576) (hk : Paints Tryz.prog k cap Value.bool w W H f) :
    Calls Tryz.prog 37 #[.int .i64 W, .int .i64 H, .func (.func k) #[] cap] w fun e w' => ∃ v, e = .returned v ∧ CPage w.heap.size w' v W H ((grid W H f).map Value.bool) ∧ Bl w w' := by
  have hmk := run_make_row' (P := Tryz.prog) 26 4 (.bool false) 1 Tryz.underlying26 info_bool rfl .i64 .i64 (W * H) (by omega) (by omega)
  have hent := hk.1
  have eWH : (W : Int) * (H : Int) = ((W * H : Nat) : Int) := by simp
  have h1 : (0:Int) ≤ (W:Int) * (H:Int) := by omega
  have h2 : (W:Int) * (H:Int) ≤ 1048576 := by omega
  rw [← eWH] at hmk
  have EWH := Lib.hid eWH; clear eWH
  have inv0 := Lib.hid (madeInv.start w W H f)
  go_enter Tryz.func37, Tryz.ntmps37
  go_wp2_with fail
  go_loopw [18] (fun v wr => ∃ y : Nat, y ≤ H ∧ v = .int .i64 y ∧ madeInv w W H f wr (y * W)) (fun v _ => H - (intOf v).toNat)
  case atStart => exact ⟨0, Nat.zero_le _, rfl, by simpa using inv0.out⟩
  case round =>
    obtain ⟨y, hy, rfl, hinv⟩ := hrel
    by_cases hlt : y < H
    · go_wp2_with fail
      go_loopw [22] (fun v w2 => ∃ x : Nat, x ≤ W ∧ v = .int .i64 x ∧ madeInv w W H f w2 (y * W + x)) (fun v _ => W - (intOf v).toNat)
      case atStart => exact ⟨0, Nat.zero_le _, rfl, by simpa using hinv⟩
      case round =>
        obtain ⟨x, hx, rfl, hinv2⟩ := hrel
        by_cases hlt2 : x < W
        · obtain ⟨hbl, ⟨cs, hblk, hsz, hcs⟩, hb2, hb0⟩ := hinv2
          have ex : (y * W + x) % W = x := by rw [Nat.mul_comm, Nat.mul_add_mod, Nat.mod_eq_of_lt hlt2]
          have ey : (y * W + x) / W = y := by rw [Nat.mul_comm, Nat.mul_add_div (by omega), Nat.div_eq_of_lt hlt2, Nat.add_zero]
          have hilt := place_lt hlt2 hlt
          obtain ⟨i, hi⟩ : ∃ i, i = y * W + x := ⟨_, rfl⟩
          have e1 : (y : Int) * (W : Int) + (x : Int) = (i : Int) := by rw [hi]; simp
          rw [← hi] at hilt ex ey hcs
          have k2 := hb2.all3
          obtain ⟨vi, ci⟩ : ∃ v, wr.cell? ⟨w.heap.size + 1, i, none⟩ = some v := ⟨cs[i]'(by omega), by rw [hblk.cell]; simp⟩
          have fi := hblk.frozen i
          have hi2 : (i:Int) < (W:Int) * (H:Int) := by have := EWH.out; omega
          have h3 : (0:Int) ≤ (y:Int) * (W:Int) ∧ (y:Int) * (W:Int) ≤ 1048576 := by have := Int.natCast_mul y W; have := EWH.out; omega
          have Hi := Lib.hid hi; have Hcs := Lib.hid hcs; have Hex := Lib.hid ex; have Hey := Lib.hid ey
          clear hi hcs ex ey
          go_wp2_with fail
          refine wp_region_flow [(true, 0), (true, 1), (true, 2), (true, 3), (true, 4), (true, 5), (true, 6), (true, 7), (true, 8), (true, 9), (false, 10), (true, 11), (false, 12)] (fun i => i == 12) (by kernel_rfl) (by kernel_rfl) (by kernel_rfl) (by kernel_rfl) ?_
          iterate 1
            apply Flow.calm2 _ _ rfl rfl
            · intro w' hb' K' hK'
              obtain ⟨hc', hf'⟩ := hb'.rule
              go_simp
              try go_ints
              exact hK'
            · intro K' hK'
              simp only [Act.put, List.setIfInBounds_toArray, List.set_cons_zero, List.set_cons_succ]
              exact hK'
          iterate 1
            apply Flow.calm2 _ _ rfl rfl
            · intro w' hb' K' hK'
              obtain ⟨hc', hf'⟩ := hb'.rule
              go_simp
              try go_ints
              exact hK'
            · intro K' hK'
              simp only [Act.put, List.setIfInBounds_toArray, List.set_cons_zero, List.set_cons_succ]
              exact hK'
          iterate 2
            apply Flow.mv _ rfl
            · intro K' hK'
              simp only [Act.put, Act.eval, List.setIfInBounds_toArray, List.set_cons_zero, List.set_cons_succ, arr_getD, List.getD_cons_zero, List.getD_cons_succ]
              exact hK'
          iterate 1
            apply Flow.calm2 _ _ rfl rfl
            · intro w' hb' K' hK'
              obtain ⟨hc', hf'⟩ := hb'.rule
              go_simp
              try go_ints
              exact hK'
            · intro K' hK'
              simp only [Act.put, List.setIfInBounds_toArray, List.set_cons_zero, List.set_cons_succ]
              exact hK'
          iterate 1
            apply Flow.mv _ rfl
            · intro K' hK'
              simp only [Act.put, Act.eval, List.setIfInBounds_toArray, List.set_cons_zero, List.set_cons_succ, arr_getD, List.getD_cons_zero, List.getD_cons_succ]
              exact hK'
          iterate 1
            apply Flow.calm2 _ _ rfl rfl
            · intro w' hb' K' hK'
              obtain ⟨hc', hf'⟩ := hb'.rule
              go_simp
              try go_ints
              exact hK'
            · intro K' hK'
              simp only [Act.put, List.setIfInBounds_toArray, List.set_cons_zero, List.set_cons_succ]
              exact hK'
          iterate 3
            apply Flow.mv _ rfl
            · intro K' hK'
              simp only [Act.put, Act.eval, List.setIfInBounds_toArray, List.set_cons_zero, List.set_cons_succ, arr_getD, List.getD_cons_zero, List.getD_cons_succ]
              exact hK'
          apply Flow.move rfl
          go_wp2_with fail
          refine (hk.2 _ _ _ (hbl.trans (Bl.refl _).drew) hlt2 hlt).mono ?_
          rintro e w3 ⟨rfl, HB1⟩
          obtain ⟨hc3, hf3⟩ := HB1.rule
          go_wp2_with fail
          refine ⟨fun _ => (by first | exact HB1 | exact Bl.refl _), ?_⟩
          iterate 1
            apply Flow.calm2 _ _ rfl rfl
            · intro w' hb' K' hK'
              obtain ⟨hc', hf'⟩ := hb'.rule
              go_simp
              try go_ints
              exact hK'
            · intro K' hK'
              simp only [Act.put, List.setIfInBounds_toArray, List.set_cons_zero, List.set_cons_succ]
              exact hK'
          refine Flow.tail _ rfl ?_
          go_wp2_with fail
          have hb4 : Bl wr w3 := ((Bl.refl _).drew).trans HB1
          have hst : madeInv w W H f (w3.setCell ⟨w.heap.size + 1, i, none⟩ (Value.bool (f x y))) (i + 1) := by
            refine ⟨(hbl.trans hb4).setCell (by simp) _, ⟨_, (hblk.bl hb4).set_ i _, by simpa using hsz, fun j hj => ?_⟩, (hb2.bl hb4).far (by simp) _, (hb0.bl hb4).far (by simp) _⟩
            by_cases e : i = j
            · subst e
              rw [Hex.out, Hey.out]
              simp [hsz, hilt]
            · rw [Array.getElem?_setIfInBounds_ne e]; exact Hcs.out j (by omega)
          have Hst := Lib.hid hst; clear hst
          exact ⟨⟨x + 1, hlt2, by go_num, by have := Hst.out; rw [Hi.out] at this; simpa [Nat.add_assoc, Hi.out] using this⟩, by simp [intOf]; omega⟩
        · go_wp2_with fail
          exact ⟨⟨y + 1, hlt, by go_num, by rw [Nat.add_mul, Nat.one_mul]; rwa [show x = W by omega] at hinv2⟩, by simp [intOf]; omega⟩
    · have k2 := hinv.2.2.1.all3
      have k0 := hinv.2.2.2.all3
      go_wp2_with fail
      refine bodyPost_ret (v := .agg #[.int .i64 W, .int .i64 H, .slice (some ⟨w.heap.size + 1, 0, none⟩) (W * H) (W * H)]) (by simp [results, Tryz.results37, go_sem, k0]) rfl ?_
      obtain ⟨hbl, ⟨cs, hblk, hsz, hcs⟩, _, _⟩ := hinv
      refine ⟨_, rfl, ⟨_, rfl, ?_, fun ad h => by injection h with h; subst h; simp⟩, ?_⟩
      · have hb' := ((hblk.far (p := ⟨w.heap.size, 0, none⟩) (by simp) (.int .i64 W)).far (p := ⟨w.heap.size, 1, none⟩) (by simp) (.int .i64 H)).far (p := ⟨w.heap.size, 2, none⟩) (by simp) (.slice (some ⟨w.heap.size + 1, 0, none⟩) (W * H) (W * H))
        have hl : cs.toList = (grid W H f).map Value.bool := by
          apply List.ext_getElem?
          intro i
          rcases Nat.lt_or_ge i (W * H) with h | h
          · rw [List.getElem?_map, grid_at W H f i h]
            have := hcs i (by have := Nat.mul_comm W H; rw [show y = H by omega]; omega)
            simpa using this
          · rw [List.getElem?_eq_none (by simpa [hsz] using h), List.getElem?_eq_none (by simpa [grid_length] using h)]
        rw [← hl]
        exact hb'.reads (W * H) 1 (by omega)
      · exact ((hbl.setCell (by simp) _).setCell (by simp) _).setCell (by simp) _

set_option maxRecDepth 100000 in
set_option maxHeartbeats 2000000 in
theorem pasteC_any (bW bH cW cH : Nat) (bv cv : Value) (bs cs : List Bool) (x y : Int) (w : World) (hA : IsPage w bv bW bH (bs.map .bool)) (hC : IsPage w cv cW cH (cs.map .bool))
    (e1 : sizeErr bW bH = 0) (e2 : sizeErr cW cH = 0) (_hx : -9223372036854775808 ≤ x ∧ x ≤ 9223372036854775807) (_hy : -9223372036854775808 ≤ y ∧ y ≤ 9223372036854775807) :
    Calls Tryz.prog 10 #[bv, cv, .int .i64 x, .int .i64 y] w fun e w' => ∃ v, e = .returned (.tuple #[v, .int .i64 0]) ∧ CPage w.heap.size w' v bW bH ((grid bW bH (pasteF bs cs bW bH cW cH x y)).map .bool) ∧ Bl w w' := by
  obtain ⟨A, bc, rfl, hA⟩ := hA
  obtain ⟨C, cc, rfl, hC⟩ := hC
  have z1 := sizeErr_zero e1
  have z2 := sizeErr_zero e2
  have p1 : pageErr bW bH (bW * bH) = 0 := by unfold pageErr; rw [if_pos e1, if_pos (by simp)]
  have p2 : pageErr cW cH (cW * cH) = 0 := by unfold pageErr; rw [if_pos e2, if_pos (by simp)]
  have hbd : bW * bH ≤ 1048576 := by have := Int.natCast_mul bW bH; omega
  have ub1 : 1 ≤ bW ∧ bW ≤ 4000 := by omega
  have ub2 : 1 ≤ bH ∧ bH ≤ 4000 := by omega
  have uc1 : 1 ≤ cW ∧ cW ≤ 4000 := by omega
  have uc2 : 1 ≤ cH ∧ cH ≤ 4000 := by omega
  have E1 := Lib.hid e1; have E2 := Lib.hid e2; have P1 := Lib.hid p1; have P2 := Lib.hid p2
  clear e1 e2 z1 z2
  let w6 := ((((((w).alloc (.cells #[.int .i64 bW, .int .i64 bH, .slice A (bW * bH) bc] 28)).alloc (.cells #[.int .i64 cW, .int .i64 cH, .slice C (cW * cH) cc] 28)).alloc (.cells #[.int .i64 x] 3)).alloc (.cells #[.int .i64 y] 3)).alloc (.cells #[.int .i64 0, .int .i64 0, .slice none 0 0] 28)).alloc (.cells #[.int .i64 bW, .int .i64 bH, .slice A (bW * bH) bc, .int .i64 cW, .int .i64 cH, .slice C (cW * cH) cc] 28)
  have w6b : Bl w w6 := ((((((Bl.refl w).alloc _).alloc _).alloc _).alloc _).alloc _).alloc _
  have w61 : Blk w6 (w.heap.size) 28 #[.int .i64 bW, .int .i64 bH, .slice A (bW * bH) bc] := by
    have h0 := Blk.new (w) 28 #[.int .i64 bW, .int .i64 bH, .slice A (bW * bH) bc]
    exact (((((h0.alloc _).alloc _).alloc _).alloc _).alloc _)
  have w62 : Blk w6 (w.heap.size + 1) 28 #[.int .i64 cW, .int .i64 cH, .slice C (cW * cH) cc] := by
    have h0 := Blk.new ((w).alloc (.cells #[.int .i64 bW, .int .i64 bH, .slice A (bW * bH) bc] 28)) 28 #[.int .i64 cW, .int .i64 cH, .slice C (cW * cH) cc]
    simp only [World.size_alloc] at h0
    exact ((((h0.alloc _).alloc _).alloc _).alloc _)
  have w63 : Blk w6 (w.heap.size + 1 + 1) 3 #[.int .i64 x] := by
    have h0 := Blk.new (((w).alloc (.cells #[.int .i64 bW, .int .i64 bH, .slice A (bW * bH) bc] 28)).alloc (.cells #[.int .i64 cW, .int .i64 cH, .slice C (cW * cH) cc] 28)) 3 #[.int .i64 x]
    simp only [World.size_alloc] at h0
    exact (((h0.alloc _).alloc _).alloc _)
  have w64 : Blk w6 (w.heap.size + 1 + 1 + 1) 3 #[.int .i64 y] := by
    have h0 := Blk.new ((((w).alloc (.cells #[.int .i64 bW, .int .i64 bH, .slice A (bW * bH) bc] 28)).alloc (.cells #[.int .i64 cW, .int .i64 cH, .slice C (cW * cH) cc] 28)).alloc (.cells #[.int .i64 x] 3)) 3 #[.int .i64 y]
    simp only [World.size_alloc] at h0
    exact ((h0.alloc _).alloc _)
  have w65 : Blk w6 (w.heap.size + 1 + 1 + 1 + 1) 28 #[.int .i64 0, .int .i64 0, .slice none 0 0] := by
    have h0 := Blk.new (((((w).alloc (.cells #[.int .i64 bW, .int .i64 bH, .slice A (bW * bH) bc] 28)).alloc (.cells #[.int .i64 cW, .int .i64 cH, .slice C (cW * cH) cc] 28)).alloc (.cells #[.int .i64 x] 3)).alloc (.cells #[.int .i64 y] 3)) 28 #[.int .i64 0, .int .i64 0, .slice none 0 0]
    simp only [World.size_alloc] at h0
    exact (h0.alloc _)
  have w66 : Blk w6 (w.heap.size + 1 + 1 + 1 + 1 + 1) 28 #[.int .i64 bW, .int .i64 bH, .slice A (bW * bH) bc, .int .i64 cW, .int .i64 cH, .slice C (cW * cH) cc] := by
    have h0 := Blk.new ((((((w).alloc (.cells #[.int .i64 bW, .int .i64 bH, .slice A (bW * bH) bc] 28)).alloc (.cells #[.int .i64 cW, .int .i64 cH, .slice C (cW * cH) cc] 28)).alloc (.cells #[.int .i64 x] 3)).alloc (.cells #[.int .i64 y] 3)).alloc (.cells #[.int .i64 0, .int .i64 0, .slice none 0 0] 28)) 28 #[.int .i64 bW, .int .i64 bH, .slice A (bW * bH) bc, .int .i64 cW, .int .i64 cH, .slice C (cW * cH) cc]
    simp only [World.size_alloc] at h0
    exact h0
  go_enter Tryz.func10, Tryz.ntmps10
  go_wp2_with fail
  refine wp_loop_rounds 3 ?_
  rw [rounds_succ]
  go_wp2_with fail
  refine (checkBits_any _ _ _ _ _ _).mono ?_
  rintro e w7 ⟨rfl, hb7⟩
  have hb67 : Bl w6 w7 := ((Bl.refl w6).alloc _).trans hb7
  have a6 := (w66.bl hb67).all6
  have l7 : w.heap.size + 5 < w7.heap.size := by have := (w66.bl hb67).lt; simpa using this
  go_wp2_with fail
  rw [rounds_succ]
  go_wp2_with fail
  refine (checkBits_any _ _ _ _ _ _).mono ?_
  rintro e w8 ⟨rfl, hb8⟩
  have hb68 : Bl w6 w8 := (hb67.alloc _).trans hb8
  have q1 := (w61.bl hb68).all3
  have q2 := (w62.bl hb68).all3
  have q3 := (w63.bl hb68).all1
  have q4 := (w64.bl hb68).all1
  have q5 := w65.bl hb68
  have hr := q5.all3
  have l1 := (w61.bl hb68).lt
  have l2 := (w62.bl hb68).lt
  have l3 := (w63.bl hb68).lt
  have l4 := (w64.bl hb68).lt
  have l5 := q5.lt
  have hPA := (hA.bl (w6b.trans hb68))
  have hPC := (hC.bl (w6b.trans hb68))
  have hb8w := w6b.trans hb68
  generalize hB1 : w61.bl hb68 = B1
  clear hB1 a6 l7
  have B2 := w62.bl hb68
  have B3 := w63.bl hb68
  have B4 := w64.bl hb68
  go_wp2_with fail
  rw [rounds_succ]
  have tok : True := trivial
  have hP := fun (ap : Bool) (hap : ap = isApart bW bH cW cH x y) => (⟨enters Tryz.func38 (by kernel_rfl) rfl, fun wx u v hb hu hv => by
    subst hap
    have hb' : Bl w8 wx := ((Bl.refl w8).alloc _).trans hb
    have q2 : Blk (w8.alloc (.cells #[.bool (isApart bW bH cW cH x y)] 4)) w8.heap.size 4 #[.bool (isApart bW bH cW cH x y)] := Blk.new _ _ _
    exact paste1_any _ _ _ _ _ bW bH cW cH A C bc cc bs cs x y u v wx (B1.bl hb') (q2.bl hb) (B3.bl hb') (B4.bl hb') (B2.bl hb') (hPA.bl hb') (hPC.bl hb') ub1.2 ub2.2 uc1.2 uc2.2 hu hv⟩ :
    Paints Tryz.prog 38 #[.pointer (some ⟨w.heap.size, 0, none⟩), .pointer (some ⟨w8.heap.size, 0, none⟩), .pointer (some ⟨w.heap.size + 1 + 1, 0, none⟩), .pointer (some ⟨w.heap.size + 1 + 1 + 1, 0, none⟩), .pointer (some ⟨w.heap.size + 1, 0, none⟩)] Value.bool (w8.alloc (.cells #[.bool ap] 4)) bW bH (pasteF bs cs bW bH cW cH x y))
  have HP := Lib.hid hP; clear hP
  have HPA := Lib.hid hPA; have HPC := Lib.hid hPC
  clear hPA hPC B1 B2 B3 B4
  go_wp2_with fail
  all_goals
    refine (madeC_any bW bH _ _ _ _ (by omega) (by omega) hbd (HP.out _ (by first | (unfold isApart; rfl) | (simp [isApart]; omega)))).mono ?_
    rintro e w9 ⟨r, rfl, hpg, hb9⟩
    have kr := ((q5.alloc _).bl hb9).all3
    obtain ⟨R, rfl, hR, hRn⟩ := hpg
    have hb8' := hb8w.le
    have hRn' : ∀ ad, R = some ad → w.heap.size + 5 ≤ ad.block := fun ad h => by have := hRn ad h; simp at this; omega
    have HR := Lib.hid hR; have HRn := Lib.hid hRn'
    clear hR hRn hRn'
    go_wp2_with fail
    refine bodyPost_ret (v := .tuple #[.agg #[.int .i64 bW, .int .i64 bH, .slice R (bW * bH) (bW * bH)], .int .i64 0]) (by simp [results, Tryz.results10, go_sem, kr]) rfl ⟨_, rfl, ⟨R, rfl, ?_, fun ad h => by have := HRn.out ad h; omega⟩, ?_⟩
    · exact ((HR.out.store HRn.out (by simp) _).store HRn.out (by simp) _).store HRn.out (by simp) _
    · exact ((((hb8w.alloc _).trans hb9).setCell (by simp; omega) _).setCell (by simp; omega) _).setCell (by simp; omega) _

set_option maxRecDepth 100000 in
set_option maxHeartbeats 2000000 in
theorem turnC_any (W H : Nat) (A : Option Addr) (c : Nat) (bs : List Bool) (q : Int) (w : World) (hr : Reads w 1 A (W * H) (bs.map .bool)) (hp : pageErr (W : Int) (H : Int) (W * H) = 0) :
    Calls Tryz.prog 11 #[.agg #[.int .i64 W, .int .i64 H, .slice A (W * H) c], .int .i64 q] w fun e w' => ∃ v, e = .returned (.tuple #[v, .int .i64 0]) ∧ CPage w.heap.size w' v (tW (quarter q) W H) (tH (quarter q) W H) ((grid (tW (quarter q) W H) (tH (quarter q) W H) (tF (pix bs W) (quarter q) W H)).map .bool) ∧ Bl w w' := by
  let w2 := ((w).alloc (.cells #[.int .i64 W, .int .i64 H, .slice A (W * H) c] 28)).alloc (.cells #[.int .i64 0, .int .i64 0, .slice none 0 0] 28)
  have w2b : Bl w w2 := ((Bl.refl w).alloc _).alloc _
  have w21 : Blk w2 (w.heap.size) 28 #[.int .i64 W, .int .i64 H, .slice A (W * H) c] := by
    have h0 := Blk.new (w) 28 #[.int .i64 W, .int .i64 H, .slice A (W * H) c]
    exact (h0.alloc _)
  have w22 : Blk w2 (w.heap.size + 1) 28 #[.int .i64 0, .int .i64 0, .slice none 0 0] := by
    have h0 := Blk.new ((w).alloc (.cells #[.int .i64 W, .int .i64 H, .slice A (W * H) c] 28)) 28 #[.int .i64 0, .int .i64 0, .slice none 0 0]
    simp only [World.size_alloc] at h0
    exact h0
  obtain ⟨k, hk⟩ : ∃ k, k = quarter q := ⟨_, rfl⟩
  rw [← hk]
  have Hk := Lib.hid hk
  clear hk
  obtain ⟨hs, hn⟩ := pageErr_zero hp
  have hz' := sizeErr_zero hs
  have hW4 : W ≤ 4000 ∧ 1 ≤ W := by omega
  have hH4 : H ≤ 4000 ∧ 1 ≤ H := by omega
  have hbd : W * H ≤ 1048576 := by have := Int.natCast_mul W H; omega
  have Hs := Lib.hid hs
  clear hs hz' hn
  go_enter Tryz.func11, Tryz.ntmps11
  go_wp2_with fail
  refine (checkBits_any _ _ _ _ _ _).mono ?_
  rintro e w3 ⟨rfl, hb3⟩
  rw [hp]
  have k1 := (w21.bl hb3).all3
  have hle := w2b.trans hb3
  go_wp2_with fail
  have ht := turned_any W H q w3 hW4.1 hH4.1
  rw [← Hk.out] at ht
  refine ht.mono ?_
  rintro e w4 ⟨kf, cap, rfl, hkp, hb4⟩
  clear ht
  have ub := t_le (k := k) hW4.1 hH4.1
  have us : tW k W H * tH k W H ≤ 1048576 := by rw [t_size]; exact hbd
  have hb5 : Bl w2 (w4.alloc (.cells #[.func (.func kf) #[] cap] 64)) := (hb3.trans hb4).alloc _
  have bt := Blk.new w4 64 #[.func (.func kf) #[] cap]
  have hle5 := w2b.trans hb5
  have hP : Paints Tryz.prog 40 #[.pointer (some ⟨w.heap.size, 0, none⟩), .pointer (some ⟨w4.heap.size, 0, none⟩)] Value.bool (w4.alloc (.cells #[.func (.func kf) #[] cap] 64)) (tW k W H) (tH k W H) (tF (pix bs W) k W H) :=
    ⟨enters Tryz.func40 (by kernel_rfl) rfl, fun wx x y hb hx hy => turn1_any _ _ kf cap W H k A c _ x y wx ((w21.bl hb5).bl hb) (bt.bl hb) ((hkp.bl ((Bl.refl w4).alloc _)).bl hb) ((hr.bl hle5).bl hb) hx hy⟩
  have HP := Lib.hid hP
  clear hP
  have hle4 := w2b.trans (hb3.trans hb4)
  clear hkp
  go_wp2_with fail
  refine (madeC_any (tW k W H) (tH k W H) _ _ _ _ (by omega) (by omega) us HP.out).mono ?_
  rintro e w6 ⟨r, rfl, hpg, hb6⟩
  have k2 := ((w22.bl hb5).bl hb6).all3
  have hle6 := hle5.trans hb6
  have hsz3 := (w22.bl hb5).lt
  obtain ⟨R, rfl, hR, hRn⟩ := hpg
  have hRn' : ∀ ad, R = some ad → w.heap.size + 2 ≤ ad.block := fun ad h => by have := hRn ad h; omega
  have HR := Lib.hid hR; have HRn := Lib.hid hRn'
  clear hR hRn hRn' hr
  go_wp2_with fail
  refine bodyPost_ret (v := .tuple #[.agg #[.int .i64 (tW k W H), .int .i64 (tH k W H), .slice R (tW k W H * tH k W H) (tW k W H * tH k W H)], .int .i64 0]) (by simp [results, Tryz.results11, go_sem, k2]) rfl ⟨_, rfl, ⟨R, rfl, ?_, fun ad h => by have := HRn.out ad h; omega⟩, ?_⟩
  · exact ((HR.out.store HRn.out (by simp) _).store HRn.out (by simp) _).store HRn.out (by simp) _
  · exact ((hle6.setCell (by simp) _).setCell (by simp) _).setCell (by simp) _

end Go.Proofs.YtkipcobpnecmhaaGreatDoor
