/- page.turned, Turn, TurnGray, Mirror, Invert. -/
import Derived.Test.YtldmofdidgibhaaTurn1
import Derived.Laws.BitsLemmas
import Derived.Laws.EntriesVeiled
namespace Go.Proofs.Ytldmofdidgibhaa
open Go.RowKit

theorem i64_and3 (n : Int) : bits .and .i64 n 3 = n % 4 := by
  have h127 : (BitVec.ofInt 64 3).toNat = 2 ^ 2 - 1 := by decide
  have key : (BitVec.ofInt 64 n &&& BitVec.ofInt 64 3).toNat = (n % ((2 ^ 64 : Nat) : Int)).toNat % 2 ^ 2 := by
    rw [BitVec.toNat_and, BitVec.toNat_ofInt, h127, Nat.and_two_pow_sub_one_eq_mod]
  show IntKind.i64.wrap ((BitVec.ofInt 64 n &&& BitVec.ofInt 64 3).toNat : Nat) = n % 4
  rw [key, IntKind.wrap_i64]
  omega

def tP (W H k x y : Nat) : Int := ((tF (fun x y => y * W + x) k W H x y : Nat) : Int)
def tN (W H k x y : Nat) : Nat := tF (fun x y => y * W + x) k W H x y
theorem tP_tN (W H k x y : Nat) : tP W H k x y = (tN W H k x y : Int) := rfl
theorem tN_lt {W H k x y : Nat} (hx : x < tW k W H) (hy : y < tH k W H) : tN W H k x y < W * H := t_in k W H x y hx hy
theorem pix_tN (bs : List Bool) (W H k x y : Nat) : bs.getD (tN W H k x y) false = tF (pix bs W) k W H x y := by
  unfold tN tF pix
  split
  · rfl
  · split
    · rfl
    · split <;> rfl
theorem vix_tN (zs : List Int) (W H k x y : Nat) : valOf zs (tN W H k x y) = tF (vix zs W) k W H x y := by
  unfold tN tF vix
  split
  · rfl
  · split
    · rfl
    · split <;> rfl

set_option maxRecDepth 100000 in
set_option maxHeartbeats 1000000 in
theorem turned_any (W H : Nat) (q : Int) (w : World) (hW : W ≤ 4000) (hH : H ≤ 4000) :
    Calls Try.prog 108 #[.int .i64 W, .int .i64 H, .int .i64 q] w fun e w' => ∃ kf cap, e = .returned (.tuple #[.int .i64 (tW (quarter q) W H), .int .i64 (tH (quarter q) W H), .func (.func kf) #[] cap]) ∧
      Paints Try.prog kf cap (Value.int .i64) w' (tW (quarter q) W H) (tH (quarter q) W H) (tP W H (quarter q)) ∧ Bl w w' := by
  let w2 := ((w).alloc (.cells #[.int .i64 W] 3)).alloc (.cells #[.int .i64 H] 3)
  have w2b : Bl w w2 := ((Bl.refl w).alloc _).alloc _
  have w21 : Blk w2 (w.heap.size) 3 #[.int .i64 W] := by
    have h0 := Blk.new (w) 3 #[.int .i64 W]
    exact (h0.alloc _)
  have w22 : Blk w2 (w.heap.size + 1) 3 #[.int .i64 H] := by
    have h0 := Blk.new ((w).alloc (.cells #[.int .i64 W] 3)) 3 #[.int .i64 H]
    simp only [World.size_alloc] at h0
    exact h0
  have hand := i64_and3 q
  have hm : (q % 4 = 1 ∧ quarter q = 1) ∨ (q % 4 = 2 ∧ quarter q = 2) ∨ (q % 4 = 3 ∧ quarter q = 3) ∨ (q % 4 = 0 ∧ quarter q = 0) := by unfold quarter; omega

  rcases hm with ⟨hq, hk⟩ | ⟨hq, hk⟩ | ⟨hq, hk⟩ | ⟨hq, hk⟩
  · have Hk := Lib.hid hk
    rw [hk]
    rw [hq] at hand
    clear hq hk
    have hP : Paints Try.prog 150 #[.pointer (some ⟨w.heap.size + 1, 0, none⟩), .pointer (some ⟨w.heap.size, 0, none⟩)] (Value.int .i64) w2.drew (tW 1 W H) (tH 1 W H) (tP W H 1) :=
      ⟨enters Try.func150 (by kernel_rfl) rfl, fun wx x y hb hx hy => turned1_any _ _ W H x y wx (w22.drew.bl hb) (w21.drew.bl hb) hW hH (by simpa [tW] using hx) (by simpa [tH] using hy)⟩
    have HP := Lib.hid hP
    clear hP
    go_enter Try.func108, Try.ntmps108
    go_wp2_with fail
    refine wp_region_flow [(true, 0), (true, 1), (true, 2), (true, 3), (true, 4), (true, 5)] (fun _ => false) (by kernel_rfl) (by kernel_rfl) (by kernel_rfl) (by kernel_rfl) ?_
    iterate 2
      apply Flow.calm2 _ _ rfl rfl
      · intro w' hb' K' hK'
        obtain ⟨hc', hf'⟩ := hb'.rule
        go_simp
        try go_ints
        exact hK'
      · intro K' hK'
        simp only [Act.put, List.setIfInBounds_toArray, List.set_cons_zero, List.set_cons_succ]
        exact hK'
    iterate 1
      apply Flow.calm2 _ _ rfl rfl
      · intro w' hb' K' hK'
        obtain ⟨hc', hf'⟩ := hb'.rule
        go_simp
        try go_ints
        exact hK'
      · intro K' hK'
        simp only [Act.put, List.setIfInBounds_toArray, List.set_cons_zero, List.set_cons_succ]
        exact hK'
    iterate 3
      apply Flow.asg _ rfl
      · intro K' hK'
        simp only [Act.put, Act.eval, List.setIfInBounds_toArray, List.set_cons_zero, List.set_cons_succ, arr_getD, List.getD_cons_zero, List.getD_cons_succ]
        exact hK'
    refine Flow.done ?_
    go_wp2_with fail
    first | go_ret2 | go_ret | (refine bodyPost_ret (v := .tuple #[.int .i64 (tW 1 W H), .int .i64 (tH 1 W H), .func (.func 150) #[] #[.pointer (some ⟨w.heap.size + 1, 0, none⟩), .pointer (some ⟨w.heap.size, 0, none⟩)]]) (by simp [results, Try.results108, go_sem, tW, tH]) rfl ?_)
    exact ⟨_, _, rfl, HP.out, w2b.drew⟩
  · have Hk := Lib.hid hk
    rw [hk]
    rw [hq] at hand
    clear hq hk
    have hP : Paints Try.prog 151 #[.pointer (some ⟨w.heap.size + 1, 0, none⟩), .pointer (some ⟨w.heap.size, 0, none⟩)] (Value.int .i64) w2.drew (tW 2 W H) (tH 2 W H) (tP W H 2) :=
      ⟨enters Try.func151 (by kernel_rfl) rfl, fun wx x y hb hx hy => turned2_any _ _ W H x y wx (w22.drew.bl hb) (w21.drew.bl hb) hW hH (by simpa [tW] using hx) (by simpa [tH] using hy)⟩
    have HP := Lib.hid hP
    clear hP
    go_enter Try.func108, Try.ntmps108
    go_wp2_with fail
    refine wp_region_flow [(true, 0), (true, 1), (true, 2), (true, 3), (true, 4), (true, 5)] (fun _ => false) (by kernel_rfl) (by kernel_rfl) (by kernel_rfl) (by kernel_rfl) ?_
    iterate 2
      apply Flow.calm2 _ _ rfl rfl
      · intro w' hb' K' hK'
        obtain ⟨hc', hf'⟩ := hb'.rule
        go_simp
        try go_ints
        exact hK'
      · intro K' hK'
        simp only [Act.put, List.setIfInBounds_toArray, List.set_cons_zero, List.set_cons_succ]
        exact hK'
    iterate 1
      apply Flow.calm2 _ _ rfl rfl
      · intro w' hb' K' hK'
        obtain ⟨hc', hf'⟩ := hb'.rule
        go_simp
        try go_ints
        exact hK'
      · intro K' hK'
        simp only [Act.put, List.setIfInBounds_toArray, List.set_cons_zero, List.set_cons_succ]
        exact hK'
    iterate 3
      apply Flow.asg _ rfl
      · intro K' hK'
        simp only [Act.put, Act.eval, List.setIfInBounds_toArray, List.set_cons_zero, List.set_cons_succ, arr_getD, List.getD_cons_zero, List.getD_cons_succ]
        exact hK'
    refine Flow.done ?_
    go_wp2_with fail
    first | go_ret2 | go_ret | (refine bodyPost_ret (v := .tuple #[.int .i64 (tW 2 W H), .int .i64 (tH 2 W H), .func (.func 151) #[] #[.pointer (some ⟨w.heap.size + 1, 0, none⟩), .pointer (some ⟨w.heap.size, 0, none⟩)]]) (by simp [results, Try.results108, go_sem, tW, tH]) rfl ?_)
    exact ⟨_, _, rfl, HP.out, w2b.drew⟩
  · have Hk := Lib.hid hk
    rw [hk]
    rw [hq] at hand
    clear hq hk
    have hP : Paints Try.prog 152 #[.pointer (some ⟨w.heap.size, 0, none⟩)] (Value.int .i64) w2.drew (tW 3 W H) (tH 3 W H) (tP W H 3) :=
      ⟨enters Try.func152 (by kernel_rfl) rfl, fun wx x y hb hx hy => turned3_any _ W H x y wx (w21.drew.bl hb) hW hH (by simpa [tW] using hx) (by simpa [tH] using hy)⟩
    have HP := Lib.hid hP
    clear hP
    go_enter Try.func108, Try.ntmps108
    go_wp2_with fail
    refine wp_region_flow [(true, 0), (true, 1), (true, 2), (true, 3), (true, 4), (true, 5)] (fun _ => false) (by kernel_rfl) (by kernel_rfl) (by kernel_rfl) (by kernel_rfl) ?_
    iterate 2
      apply Flow.calm2 _ _ rfl rfl
      · intro w' hb' K' hK'
        obtain ⟨hc', hf'⟩ := hb'.rule
        go_simp
        try go_ints
        exact hK'
      · intro K' hK'
        simp only [Act.put, List.setIfInBounds_toArray, List.set_cons_zero, List.set_cons_succ]
        exact hK'
    iterate 1
      apply Flow.calm2 _ _ rfl rfl
      · intro w' hb' K' hK'
        obtain ⟨hc', hf'⟩ := hb'.rule
        go_simp
        try go_ints
        exact hK'
      · intro K' hK'
        simp only [Act.put, List.setIfInBounds_toArray, List.set_cons_zero, List.set_cons_succ]
        exact hK'
    iterate 3
      apply Flow.asg _ rfl
      · intro K' hK'
        simp only [Act.put, Act.eval, List.setIfInBounds_toArray, List.set_cons_zero, List.set_cons_succ, arr_getD, List.getD_cons_zero, List.getD_cons_succ]
        exact hK'
    refine Flow.done ?_
    go_wp2_with fail
    first | go_ret2 | go_ret | (refine bodyPost_ret (v := .tuple #[.int .i64 (tW 3 W H), .int .i64 (tH 3 W H), .func (.func 152) #[] #[.pointer (some ⟨w.heap.size, 0, none⟩)]]) (by simp [results, Try.results108, go_sem, tW, tH]) rfl ?_)
    exact ⟨_, _, rfl, HP.out, w2b.drew⟩
  · have Hk := Lib.hid hk
    rw [hk]
    rw [hq] at hand
    clear hq hk
    have hP : Paints Try.prog 153 #[.pointer (some ⟨w.heap.size, 0, none⟩)] (Value.int .i64) w2.drew (tW 0 W H) (tH 0 W H) (tP W H 0) :=
      ⟨enters Try.func153 (by kernel_rfl) rfl, fun wx x y hb hx hy => turned4_any _ W H x y wx (w21.drew.bl hb) hW hH (by simpa [tW] using hx) (by simpa [tH] using hy)⟩
    have HP := Lib.hid hP
    clear hP
    go_enter Try.func108, Try.ntmps108
    go_wp2_with fail
    refine wp_region_flow [(true, 0), (true, 1), (true, 2), (true, 3), (true, 4), (true, 5)] (fun _ => false) (by kernel_rfl) (by kernel_rfl) (by kernel_rfl) (by kernel_rfl) ?_
    iterate 2
      apply Flow.calm2 _ _ rfl rfl
      · intro w' hb' K' hK'
        obtain ⟨hc', hf'⟩ := hb'.rule
        go_simp
        try go_ints
        exact hK'
      · intro K' hK'
        simp only [Act.put, List.setIfInBounds_toArray, List.set_cons_zero, List.set_cons_succ]
        exact hK'
    iterate 1
      apply Flow.calm2 _ _ rfl rfl
      · intro w' hb' K' hK'
        obtain ⟨hc', hf'⟩ := hb'.rule
        go_simp
        try go_ints
        exact hK'
      · intro K' hK'
        simp only [Act.put, List.setIfInBounds_toArray, List.set_cons_zero, List.set_cons_succ]
        exact hK'
    iterate 3
      apply Flow.asg _ rfl
      · intro K' hK'
        simp only [Act.put, Act.eval, List.setIfInBounds_toArray, List.set_cons_zero, List.set_cons_succ, arr_getD, List.getD_cons_zero, List.getD_cons_succ]
        exact hK'
    refine Flow.done ?_
    go_wp2_with fail
    first | go_ret2 | go_ret | (refine bodyPost_ret (v := .tuple #[.int .i64 (tW 0 W H), .int .i64 (tH 0 W H), .func (.func 153) #[] #[.pointer (some ⟨w.heap.size, 0, none⟩)]]) (by simp [results, Try.results108, go_sem, tW, tH]) rfl ?_)
    exact ⟨_, _, rfl, HP.out, w2b.drew⟩

set_option maxRecDepth 100000 in
set_option maxHeartbeats 400000 in
theorem turn1_any (pb pt : Nat) (kf : FuncId) (cap : Array Value) (W H k : Nat) (A : Option Addr) (c : Nat) (bs : List Bool) (x y : Nat) (w : World) (hb : Blk w pb 39 #[.int .i64 W, .int .i64 H, .slice A (W * H) c]) (ht : Blk w pt 34 #[.func (.func kf) #[] cap])
    (hk : Paints Try.prog kf cap (Value.int .i64) w (tW k W H) (tH k W H) (tP W H k)) (hr : Reads w 1 A (W * H) (bs.map .bool)) (hx : x < tW k W H) (hy : y < tH k W H) :
    Calls Try.prog 109 #[.int .i64 x, .int .i64 y, .pointer (some ⟨pb, 0, none⟩), .pointer (some ⟨pt, 0, none⟩)] w fun e w' => e = .returned (.bool (tF (pix bs W) k W H x y)) ∧ Bl w w' := by
  have kb := hb.all3
  have kt := ht.all1
  have hent := hk.1
  have hn := tN_lt hx hy
  have hpos : 0 < W * H := by omega
  obtain ⟨ad, u, rfl, hu, hc⟩ := hr.at_ hn
  have hl : tN W H k x y < bs.length := by have := hr.1; simp at this; omega
  have hu' : u = .bool (bs.getD (tN W H k x y) false) := by simpa [valOf, List.getD, hl] using hu.symm
  subst hu'
  rw [pix_tN] at hc
  have ep := tP_tN W H k x y
  obtain ⟨j, hj⟩ : ∃ j, j = tN W H k x y := ⟨_, rfl⟩
  rw [← hj] at hc hn ep
  have hkl : (j : Int) < (W : Int) * (H : Int) := by have := Int.natCast_mul W H; omega
  have hcall := hk.2 _ _ _ (Bl.refl w).drew hx hy
  rw [ep] at hcall
  have Hc := Lib.hid hcall
  have Hn := Lib.hid hn; have Hep := Lib.hid ep
  clear hj hu hcall hpos hl hk hr hn ep
  go_enter Try.func109, Try.ntmps109
  go_wp2_with fail
  refine wp_region_flow [(true, 0), (true, 1), (true, 2), (true, 3), (true, 4), (false, 5), (true, 6), (true, 7), (true, 8)] (fun _ => false) (by kernel_rfl) (by kernel_rfl) (by kernel_rfl) (by kernel_rfl) ?_
  iterate 1
    apply Flow.calm2 _ _ rfl rfl
    · intro w' hb' K' hK'
      obtain ⟨hc', hf'⟩ := hb'.rule
      go_simp
      try go_ints
      exact hK'
    · intro K' hK'
      simp only [Act.put, List.setIfInBounds_toArray, List.set_cons_zero, List.set_cons_succ]
      exact hK'
  iterate 2
    apply Flow.calm2 _ _ rfl rfl
    · intro w' hb' K' hK'
      obtain ⟨hc', hf'⟩ := hb'.rule
      go_simp
      try go_ints
      exact hK'
    · intro K' hK'
      simp only [Act.put, List.setIfInBounds_toArray, List.set_cons_zero, List.set_cons_succ]
      exact hK'
  iterate 2
    apply Flow.mv _ rfl
    · intro K' hK'
      simp only [Act.put, Act.eval, List.setIfInBounds_toArray, List.set_cons_zero, List.set_cons_succ, arr_getD, List.getD_cons_zero, List.getD_cons_succ]
      exact hK'
  apply Flow.move rfl
  go_wp2_with fail
  refine Hc.out.mono ?_
  rintro e w3 ⟨rfl, HB1⟩
  obtain ⟨hc3, hf3⟩ := HB1.rule
  go_wp2_with fail
  refine ⟨fun _ => (by first | exact HB1 | exact Bl.refl _), ?_⟩
  iterate 1
    apply Flow.calm2 _ _ rfl rfl
    · intro w' hb' K' hK'
      obtain ⟨hc', hf'⟩ := hb'.rule
      go_simp
      try go_ints
      exact hK'
    · intro K' hK'
      simp only [Act.put, List.setIfInBounds_toArray, List.set_cons_zero, List.set_cons_succ]
      exact hK'
  iterate 1
    apply Flow.calm2 _ _ rfl rfl
    · intro w' hb' K' hK'
      obtain ⟨hc', hf'⟩ := hb'.rule
      go_simp
      try go_ints
      exact hK'
    · intro K' hK'
      simp only [Act.put, List.setIfInBounds_toArray, List.set_cons_zero, List.set_cons_succ]
      exact hK'
  iterate 1
    apply Flow.asg _ rfl
    · intro K' hK'
      simp only [Act.put, Act.eval, List.setIfInBounds_toArray, List.set_cons_zero, List.set_cons_succ, arr_getD, List.getD_cons_zero, List.getD_cons_succ]
      exact hK'
  refine Flow.done ?_
  go_wp2_with fail
  go_ret
  exact ⟨rfl, ((Bl.refl _).drew).trans HB1⟩


set_option maxRecDepth 100000 in
set_option maxHeartbeats 400000 in
theorem turnGray1_any (pb pt : Nat) (kf : FuncId) (cap : Array Value) (W H k : Nat) (A : Option Addr) (c : Nat) (zs : List Int) (x y : Nat) (w : World) (hb : Blk w pb 24 #[.int .i64 W, .int .i64 H, .slice A (W * H) c]) (ht : Blk w pt 34 #[.func (.func kf) #[] cap])
    (hk : Paints Try.prog kf cap (Value.int .i64) w (tW k W H) (tH k W H) (tP W H k)) (hr : Reads w 1 A (W * H) (zs.map (.int .u8))) (hx : x < tW k W H) (hy : y < tH k W H) :
    Calls Try.prog 112 #[.int .i64 x, .int .i64 y, .pointer (some ⟨pb, 0, none⟩), .pointer (some ⟨pt, 0, none⟩)] w fun e w' => e = .returned (.int .u8 (tF (vix zs W) k W H x y)) ∧ Bl w w' := by
  have kb := hb.all3
  have kt := ht.all1
  have hent := hk.1
  have hn := tN_lt hx hy
  have hpos : 0 < W * H := by omega
  obtain ⟨ad, u, rfl, hu, hc⟩ := hr.at_ hn
  have hl : tN W H k x y < zs.length := by have := hr.1; simp at this; omega
  have hu' : u = .int .u8 (valOf zs (tN W H k x y)) := by simpa [valOf, List.getD, hl] using hu.symm
  subst hu'
  rw [vix_tN] at hc
  have ep := tP_tN W H k x y
  obtain ⟨j, hj⟩ : ∃ j, j = tN W H k x y := ⟨_, rfl⟩
  rw [← hj] at hc hn ep
  have hkl : (j : Int) < (W : Int) * (H : Int) := by have := Int.natCast_mul W H; omega
  have hcall := hk.2 _ _ _ (Bl.refl w).drew hx hy
  rw [ep] at hcall
  have Hc := Lib.hid hcall
  have Hn := Lib.hid hn; have Hep := Lib.hid ep
  clear hj hu hcall hpos hl hk hr hn ep
  go_enter Try.func112, Try.ntmps112
  go_wp2_with fail
  refine wp_region_flow [(true, 0), (true, 1), (true, 2), (true, 3), (true, 4), (false, 5), (true, 6), (true, 7), (true, 8)] (fun _ => false) (by kernel_rfl) (by kernel_rfl) (by kernel_rfl) (by kernel_rfl) ?_
  iterate 1
    apply Flow.calm2 _ _ rfl rfl
    · intro w' hb' K' hK'
      obtain ⟨hc', hf'⟩ := hb'.rule
      go_simp
      try go_ints
      exact hK'
    · intro K' hK'
      simp only [Act.put, List.setIfInBounds_toArray, List.set_cons_zero, List.set_cons_succ]
      exact hK'
  iterate 2
    apply Flow.calm2 _ _ rfl rfl
    · intro w' hb' K' hK'
      obtain ⟨hc', hf'⟩ := hb'.rule
      go_simp
      try go_ints
      exact hK'
    · intro K' hK'
      simp only [Act.put, List.setIfInBounds_toArray, List.set_cons_zero, List.set_cons_succ]
      exact hK'
  iterate 2
    apply Flow.mv _ rfl
    · intro K' hK'
      simp only [Act.put, Act.eval, List.setIfInBounds_toArray, List.set_cons_zero, List.set_cons_succ, arr_getD, List.getD_cons_zero, List.getD_cons_succ]
      exact hK'
  apply Flow.move rfl
  go_wp2_with fail
  refine Hc.out.mono ?_
  rintro e w3 ⟨rfl, HB1⟩
  obtain ⟨hc3, hf3⟩ := HB1.rule
  go_wp2_with fail
  refine ⟨fun _ => (by first | exact HB1 | exact Bl.refl _), ?_⟩
  iterate 1
    apply Flow.calm2 _ _ rfl rfl
    · intro w' hb' K' hK'
      obtain ⟨hc', hf'⟩ := hb'.rule
      go_simp
      try go_ints
      exact hK'
    · intro K' hK'
      simp only [Act.put, List.setIfInBounds_toArray, List.set_cons_zero, List.set_cons_succ]
      exact hK'
  iterate 1
    apply Flow.calm2 _ _ rfl rfl
    · intro w' hb' K' hK'
      obtain ⟨hc', hf'⟩ := hb'.rule
      go_simp
      try go_ints
      exact hK'
    · intro K' hK'
      simp only [Act.put, List.setIfInBounds_toArray, List.set_cons_zero, List.set_cons_succ]
      exact hK'
  iterate 1
    apply Flow.asg _ rfl
    · intro K' hK'
      simp only [Act.put, Act.eval, List.setIfInBounds_toArray, List.set_cons_zero, List.set_cons_succ, arr_getD, List.getD_cons_zero, List.getD_cons_succ]
      exact hK'
  refine Flow.done ?_
  go_wp2_with fail
  go_ret
  exact ⟨rfl, ((Bl.refl _).drew).trans HB1⟩


def mirF (bs : List Bool) (W x y : Nat) : Bool := pix bs W (W - 1 - x) y
def invF (bs : List Bool) (W x y : Nat) : Bool := !pix bs W x y
theorem t_le {k W H : Nat} (hW : W ≤ 4000) (hH : H ≤ 4000) : tW k W H ≤ 4000 ∧ tH k W H ≤ 4000 := by
  unfold tW tH
  split <;> omega


set_option maxRecDepth 100000 in
set_option maxHeartbeats 1000000 in
theorem mirror_any (W H : Int) (A : Option Addr) (n c : Nat) (bs : List Bool) (w : World) (hr : Reads w 1 A n (bs.map .bool)) :
    Calls Try.prog 32 #[.agg #[.int .i64 W, .int .i64 H, .slice A n c]] w fun e w' => ∃ a b R m d, e = .returned (.tuple #[.agg #[.int .i64 a, .int .i64 b, .slice R m d], .int .i64 (pageErr W H n)]) ∧
      Res w.heap.size w' (pageErr W H n) W.toNat H.toNat ((grid W.toNat H.toNat (mirF bs W.toNat)).map .bool) a b R m d ∧ Bl w w' := by
  let w2 := ((w).alloc (.cells #[.int .i64 W, .int .i64 H, .slice A n c] 39)).alloc (.cells #[.int .i64 0, .int .i64 0, .slice none 0 0] 39)
  have w2b : Bl w w2 := ((Bl.refl w).alloc _).alloc _
  have w21 : Blk w2 (w.heap.size) 39 #[.int .i64 W, .int .i64 H, .slice A n c] := by
    have h0 := Blk.new (w) 39 #[.int .i64 W, .int .i64 H, .slice A n c]
    exact (h0.alloc _)
  have w22 : Blk w2 (w.heap.size + 1) 39 #[.int .i64 0, .int .i64 0, .slice none 0 0] := by
    have h0 := Blk.new ((w).alloc (.cells #[.int .i64 W, .int .i64 H, .slice A n c] 39)) 39 #[.int .i64 0, .int .i64 0, .slice none 0 0]
    simp only [World.size_alloc] at h0
    exact h0
  by_cases h : pageErr W H n = 0
  · obtain ⟨hs, hn⟩ := pageErr_zero h
    have hz' := sizeErr_zero hs
    have hp := h
    obtain ⟨W, rfl⟩ := Int.eq_ofNat_of_zero_le (show 0 ≤ W by omega)
    obtain ⟨H, rfl⟩ := Int.eq_ofNat_of_zero_le (show 0 ≤ H by omega)
    obtain rfl : n = W * H := by have := Int.natCast_mul W H; omega
    have hW4 : W ≤ 4000 ∧ 1 ≤ W := by omega
    have hH4 : H ≤ 4000 ∧ 1 ≤ H := by omega
    have hbd : W * H ≤ 1048576 := by have := Int.natCast_mul W H; omega
    rw [Int.toNat_natCast, Int.toNat_natCast, hp]
    have Hs := Lib.hid hs
    clear hs hz' h hn
    go_enter Try.func32, Try.ntmps32
    go_wp2_with fail
    refine (checkBits_any _ _ _ _ _ _).mono ?_
    rintro e w3 ⟨rfl, hb3⟩
    rw [hp]
    have k1 := (w21.bl hb3).all3
    have hle := w2b.trans hb3
    have hP : Paints Try.prog 110 #[.pointer (some ⟨w.heap.size, 0, none⟩)] Value.bool w3 W H (mirF bs W) :=
      ⟨enters Try.func110 (by kernel_rfl) rfl, fun wx x y hb hx hy => mirror1_any _ W H A c bs x y wx ((w21.bl hb3).bl hb) ((hr.bl hle).bl hb) hW4.1 hH4.1 hx hy⟩
    have HP := Lib.hid hP
    clear hP
    go_wp2_with fail
    refine (made_any W H _ _ _ _ (by omega) (by omega) hbd HP.out).mono ?_
    rintro e w4 ⟨r, rfl, hpg, hb4⟩
    have k2 := ((w22.bl hb3).bl hb4).all3
    have hle4 := hle.trans hb4
    have hsz3 := (w22.bl hb3).lt
    obtain ⟨R, rc, rfl, hR, hRn⟩ := hpg
    have hRn' : ∀ ad, R = some ad → w.heap.size + 2 ≤ ad.block := fun ad h => by have := hRn ad h; omega
    have HR := Lib.hid hR; have HRn := Lib.hid hRn'
    clear hR hRn hRn' hr
    go_wp2_with fail
    refine bodyPost_ret (v := .tuple #[.agg #[.int .i64 W, .int .i64 H, .slice R (W * H) rc], .int .i64 0]) (by simp [results, Try.results32, go_sem, k2]) rfl ⟨_, _, R, _, rc, rfl, Res.page rfl ?_ (fun ad h => by have := HRn.out ad h; omega), ?_⟩
    · exact ((HR.out.store HRn.out (by simp) _).store HRn.out (by simp) _).store HRn.out (by simp) _
    · exact ((hle4.setCell (by simp) _).setCell (by simp) _).setCell (by simp) _
  · have hq : (pageErr W H n != 0) = true := by simp [h]
    have Hh := Lib.hid h
    clear h
    go_enter Try.func32, Try.ntmps32
    go_wp2_with fail
    refine (checkBits_any _ _ _ _ _ _).mono ?_
    rintro e w3 ⟨rfl, hb3⟩
    have k2 := (w22.bl hb3).all3
    have hle := w2b.trans hb3
    go_wp2_with fail
    refine bodyPost_ret (v := .tuple #[.agg #[.int .i64 0, .int .i64 0, .slice none 0 0], .int .i64 (pageErr W H n)]) (by simp [results, Try.results32, go_sem, k2]) rfl ⟨0, 0, none, 0, 0, rfl, Res.zero _ _ _ _ _ Hh.out, ?_⟩
    exact ((hle.setCell (by simp) _).setCell (by simp) _).setCell (by simp) _


set_option maxRecDepth 100000 in
set_option maxHeartbeats 1000000 in
theorem invert_any (W H : Int) (A : Option Addr) (n c : Nat) (bs : List Bool) (w : World) (hr : Reads w 1 A n (bs.map .bool)) :
    Calls Try.prog 33 #[.agg #[.int .i64 W, .int .i64 H, .slice A n c]] w fun e w' => ∃ a b R m d, e = .returned (.tuple #[.agg #[.int .i64 a, .int .i64 b, .slice R m d], .int .i64 (pageErr W H n)]) ∧
      Res w.heap.size w' (pageErr W H n) W.toNat H.toNat ((grid W.toNat H.toNat (invF bs W.toNat)).map .bool) a b R m d ∧ Bl w w' := by
  let w2 := ((w).alloc (.cells #[.int .i64 W, .int .i64 H, .slice A n c] 39)).alloc (.cells #[.int .i64 0, .int .i64 0, .slice none 0 0] 39)
  have w2b : Bl w w2 := ((Bl.refl w).alloc _).alloc _
  have w21 : Blk w2 (w.heap.size) 39 #[.int .i64 W, .int .i64 H, .slice A n c] := by
    have h0 := Blk.new (w) 39 #[.int .i64 W, .int .i64 H, .slice A n c]
    exact (h0.alloc _)
  have w22 : Blk w2 (w.heap.size + 1) 39 #[.int .i64 0, .int .i64 0, .slice none 0 0] := by
    have h0 := Blk.new ((w).alloc (.cells #[.int .i64 W, .int .i64 H, .slice A n c] 39)) 39 #[.int .i64 0, .int .i64 0, .slice none 0 0]
    simp only [World.size_alloc] at h0
    exact h0
  by_cases h : pageErr W H n = 0
  · obtain ⟨hs, hn⟩ := pageErr_zero h
    have hz' := sizeErr_zero hs
    have hp := h
    obtain ⟨W, rfl⟩ := Int.eq_ofNat_of_zero_le (show 0 ≤ W by omega)
    obtain ⟨H, rfl⟩ := Int.eq_ofNat_of_zero_le (show 0 ≤ H by omega)
    obtain rfl : n = W * H := by have := Int.natCast_mul W H; omega
    have hW4 : W ≤ 4000 ∧ 1 ≤ W := by omega
    have hH4 : H ≤ 4000 ∧ 1 ≤ H := by omega
    have hbd : W * H ≤ 1048576 := by have := Int.natCast_mul W H; omega
    rw [Int.toNat_natCast, Int.toNat_natCast, hp]
    have Hs := Lib.hid hs
    clear hs hz' h hn
    go_enter Try.func33, Try.ntmps33
    go_wp2_with fail
    refine (checkBits_any _ _ _ _ _ _).mono ?_
    rintro e w3 ⟨rfl, hb3⟩
    rw [hp]
    have k1 := (w21.bl hb3).all3
    have hle := w2b.trans hb3
    have hP : Paints Try.prog 111 #[.pointer (some ⟨w.heap.size, 0, none⟩)] Value.bool w3 W H (invF bs W) :=
      ⟨enters Try.func111 (by kernel_rfl) rfl, fun wx x y hb hx hy => invert1_any _ W H A c bs x y wx ((w21.bl hb3).bl hb) ((hr.bl hle).bl hb) hW4.1 hH4.1 hx hy⟩
    have HP := Lib.hid hP
    clear hP
    go_wp2_with fail
    refine (made_any W H _ _ _ _ (by omega) (by omega) hbd HP.out).mono ?_
    rintro e w4 ⟨r, rfl, hpg, hb4⟩
    have k2 := ((w22.bl hb3).bl hb4).all3
    have hle4 := hle.trans hb4
    have hsz3 := (w22.bl hb3).lt
    obtain ⟨R, rc, rfl, hR, hRn⟩ := hpg
    have hRn' : ∀ ad, R = some ad → w.heap.size + 2 ≤ ad.block := fun ad h => by have := hRn ad h; omega
    have HR := Lib.hid hR; have HRn := Lib.hid hRn'
    clear hR hRn hRn' hr
    go_wp2_with fail
    refine bodyPost_ret (v := .tuple #[.agg #[.int .i64 W, .int .i64 H, .slice R (W * H) rc], .int .i64 0]) (by simp [results, Try.results33, go_sem, k2]) rfl ⟨_, _, R, _, rc, rfl, Res.page rfl ?_ (fun ad h => by have := HRn.out ad h; omega), ?_⟩
    · exact ((HR.out.store HRn.out (by simp) _).store HRn.out (by simp) _).store HRn.out (by simp) _
    · exact ((hle4.setCell (by simp) _).setCell (by simp) _).setCell (by simp) _
  · have hq : (pageErr W H n != 0) = true := by simp [h]
    have Hh := Lib.hid h
    clear h
    go_enter Try.func33, Try.ntmps33
    go_wp2_with fail
    refine (checkBits_any _ _ _ _ _ _).mono ?_
    rintro e w3 ⟨rfl, hb3⟩
    have k2 := (w22.bl hb3).all3
    have hle := w2b.trans hb3
    go_wp2_with fail
    refine bodyPost_ret (v := .tuple #[.agg #[.int .i64 0, .int .i64 0, .slice none 0 0], .int .i64 (pageErr W H n)]) (by simp [results, Try.results33, go_sem, k2]) rfl ⟨0, 0, none, 0, 0, rfl, Res.zero _ _ _ _ _ Hh.out, ?_⟩
    exact ((hle.setCell (by simp) _).setCell (by simp) _).setCell (by simp) _


set_option maxRecDepth 100000 in
set_option maxHeartbeats 1000000 in
theorem turn_any (W H : Int) (A : Option Addr) (n c : Nat) (bs : List Bool) (q : Int) (w : World) (hr : Reads w 1 A n (bs.map .bool)) :
    Calls Try.prog 31 #[.agg #[.int .i64 W, .int .i64 H, .slice A n c], .int .i64 q] w fun e w' => ∃ a b R m d, e = .returned (.tuple #[.agg #[.int .i64 a, .int .i64 b, .slice R m d], .int .i64 (pageErr W H n)]) ∧
      Res w.heap.size w' (pageErr W H n) (tW (quarter q) W.toNat H.toNat) (tH (quarter q) W.toNat H.toNat) ((grid (tW (quarter q) W.toNat H.toNat) (tH (quarter q) W.toNat H.toNat) (tF (pix bs W.toNat) (quarter q) W.toNat H.toNat)).map .bool) a b R m d ∧ Bl w w' := by
  let w2 := ((w).alloc (.cells #[.int .i64 W, .int .i64 H, .slice A n c] 39)).alloc (.cells #[.int .i64 0, .int .i64 0, .slice none 0 0] 39)
  have w2b : Bl w w2 := ((Bl.refl w).alloc _).alloc _
  have w21 : Blk w2 (w.heap.size) 39 #[.int .i64 W, .int .i64 H, .slice A n c] := by
    have h0 := Blk.new (w) 39 #[.int .i64 W, .int .i64 H, .slice A n c]
    exact (h0.alloc _)
  have w22 : Blk w2 (w.heap.size + 1) 39 #[.int .i64 0, .int .i64 0, .slice none 0 0] := by
    have h0 := Blk.new ((w).alloc (.cells #[.int .i64 W, .int .i64 H, .slice A n c] 39)) 39 #[.int .i64 0, .int .i64 0, .slice none 0 0]
    simp only [World.size_alloc] at h0
    exact h0
  obtain ⟨k, hk⟩ : ∃ k, k = quarter q := ⟨_, rfl⟩
  rw [← hk]
  have Hk := Lib.hid hk
  clear hk
  by_cases h : pageErr W H n = 0
  · obtain ⟨hs, hn⟩ := pageErr_zero h
    have hz' := sizeErr_zero hs
    have hp := h
    obtain ⟨W, rfl⟩ := Int.eq_ofNat_of_zero_le (show 0 ≤ W by omega)
    obtain ⟨H, rfl⟩ := Int.eq_ofNat_of_zero_le (show 0 ≤ H by omega)
    obtain rfl : n = W * H := by have := Int.natCast_mul W H; omega
    have hW4 : W ≤ 4000 ∧ 1 ≤ W := by omega
    have hH4 : H ≤ 4000 ∧ 1 ≤ H := by omega
    have hbd : W * H ≤ 1048576 := by have := Int.natCast_mul W H; omega
    rw [Int.toNat_natCast, Int.toNat_natCast, hp]
    have Hs := Lib.hid hs
    clear hs hz' h hn
    go_enter Try.func31, Try.ntmps31
    go_wp2_with fail
    refine (checkBits_any _ _ _ _ _ _).mono ?_
    rintro e w3 ⟨rfl, hb3⟩
    rw [hp]
    have k1 := (w21.bl hb3).all3
    have hle := w2b.trans hb3
    go_wp2_with fail
    have ht := turned_any W H q w3 hW4.1 hH4.1
    rw [← Hk.out] at ht
    refine ht.mono ?_
    rintro e w4 ⟨kf, cap, rfl, hkp, hb4⟩
    clear ht
    have ub := t_le (k := k) hW4.1 hH4.1
    have us : tW k W H * tH k W H ≤ 1048576 := by rw [t_size]; exact hbd
    have hb5 : Bl w2 (w4.alloc (.cells #[.func (.func kf) #[] cap] 34)) := (hb3.trans hb4).alloc _
    have bt := Blk.new w4 34 #[.func (.func kf) #[] cap]
    have hle5 := w2b.trans hb5
    have hP : Paints Try.prog 109 #[.pointer (some ⟨w.heap.size, 0, none⟩), .pointer (some ⟨w4.heap.size, 0, none⟩)] Value.bool (w4.alloc (.cells #[.func (.func kf) #[] cap] 34)) (tW k W H) (tH k W H) (tF (pix bs W) k W H) :=
      ⟨enters Try.func109 (by kernel_rfl) rfl, fun wx x y hb hx hy => turn1_any _ _ kf cap W H k A c _ x y wx ((w21.bl hb5).bl hb) (bt.bl hb) ((hkp.bl ((Bl.refl w4).alloc _)).bl hb) ((hr.bl hle5).bl hb) hx hy⟩
    have HP := Lib.hid hP
    clear hP
    have hle4 := w2b.trans (hb3.trans hb4)
    clear hkp
    go_wp2_with fail
    refine (made_any (tW k W H) (tH k W H) _ _ _ _ (by omega) (by omega) us HP.out).mono ?_
    rintro e w6 ⟨r, rfl, hpg, hb6⟩
    have k2 := ((w22.bl hb5).bl hb6).all3
    have hle6 := hle5.trans hb6
    have hsz3 := (w22.bl hb5).lt
    obtain ⟨R, rc, rfl, hR, hRn⟩ := hpg
    have hRn' : ∀ ad, R = some ad → w.heap.size + 2 ≤ ad.block := fun ad h => by have := hRn ad h; omega
    have HR := Lib.hid hR; have HRn := Lib.hid hRn'
    clear hR hRn hRn' hr
    go_wp2_with fail
    refine bodyPost_ret (v := .tuple #[.agg #[.int .i64 (tW k W H), .int .i64 (tH k W H), .slice R (tW k W H * tH k W H) rc], .int .i64 0]) (by simp [results, Try.results31, go_sem, k2]) rfl ⟨_, _, R, _, rc, rfl, Res.page rfl ?_ (fun ad h => by have := HRn.out ad h; omega), ?_⟩
    · exact ((HR.out.store HRn.out (by simp) _).store HRn.out (by simp) _).store HRn.out (by simp) _
    · exact ((hle6.setCell (by simp) _).setCell (by simp) _).setCell (by simp) _
  · have hq : (pageErr W H n != 0) = true := by simp [h]
    have Hh := Lib.hid h
    clear h
    go_enter Try.func31, Try.ntmps31
    go_wp2_with fail
    refine (checkBits_any _ _ _ _ _ _).mono ?_
    rintro e w3 ⟨rfl, hb3⟩
    have k2 := (w22.bl hb3).all3
    have hle := w2b.trans hb3
    go_wp2_with fail
    refine bodyPost_ret (v := .tuple #[.agg #[.int .i64 0, .int .i64 0, .slice none 0 0], .int .i64 (pageErr W H n)]) (by simp [results, Try.results31, go_sem, k2]) rfl ⟨0, 0, none, 0, 0, rfl, Res.zero _ _ _ _ _ Hh.out, ?_⟩
    exact ((hle.setCell (by simp) _).setCell (by simp) _).setCell (by simp) _


set_option maxRecDepth 100000 in
set_option maxHeartbeats 1000000 in
theorem turnGray_any (W H : Int) (A : Option Addr) (n c : Nat) (zs : List Int) (q : Int) (w : World) (hr : Reads w 1 A n (zs.map (.int .u8))) :
    Calls Try.prog 41 #[.agg #[.int .i64 W, .int .i64 H, .slice A n c], .int .i64 q] w fun e w' => ∃ a b R m d, e = .returned (.tuple #[.agg #[.int .i64 a, .int .i64 b, .slice R m d], .int .i64 (pageErr W H n)]) ∧
      Res w.heap.size w' (pageErr W H n) (tW (quarter q) W.toNat H.toNat) (tH (quarter q) W.toNat H.toNat) ((grid (tW (quarter q) W.toNat H.toNat) (tH (quarter q) W.toNat H.toNat) (tF (vix zs W.toNat) (quarter q) W.toNat H.toNat)).map (.int .u8)) a b R m d ∧ Bl w w' := by
  let w2 := ((w).alloc (.cells #[.int .i64 W, .int .i64 H, .slice A n c] 24)).alloc (.cells #[.int .i64 0, .int .i64 0, .slice none 0 0] 24)
  have w2b : Bl w w2 := ((Bl.refl w).alloc _).alloc _
  have w21 : Blk w2 (w.heap.size) 24 #[.int .i64 W, .int .i64 H, .slice A n c] := by
    have h0 := Blk.new (w) 24 #[.int .i64 W, .int .i64 H, .slice A n c]
    exact (h0.alloc _)
  have w22 : Blk w2 (w.heap.size + 1) 24 #[.int .i64 0, .int .i64 0, .slice none 0 0] := by
    have h0 := Blk.new ((w).alloc (.cells #[.int .i64 W, .int .i64 H, .slice A n c] 24)) 24 #[.int .i64 0, .int .i64 0, .slice none 0 0]
    simp only [World.size_alloc] at h0
    exact h0
  obtain ⟨k, hk⟩ : ∃ k, k = quarter q := ⟨_, rfl⟩
  rw [← hk]
  have Hk := Lib.hid hk
  clear hk
  by_cases h : pageErr W H n = 0
  · obtain ⟨hs, hn⟩ := pageErr_zero h
    have hz' := sizeErr_zero hs
    have hp := h
    obtain ⟨W, rfl⟩ := Int.eq_ofNat_of_zero_le (show 0 ≤ W by omega)
    obtain ⟨H, rfl⟩ := Int.eq_ofNat_of_zero_le (show 0 ≤ H by omega)
    obtain rfl : n = W * H := by have := Int.natCast_mul W H; omega
    have hW4 : W ≤ 4000 ∧ 1 ≤ W := by omega
    have hH4 : H ≤ 4000 ∧ 1 ≤ H := by omega
    have hbd : W * H ≤ 1048576 := by have := Int.natCast_mul W H; omega
    rw [Int.toNat_natCast, Int.toNat_natCast, hp]
    have Hs := Lib.hid hs
    clear hs hz' h hn
    go_enter Try.func41, Try.ntmps41
    go_wp2_with fail
    refine (checkGray_any _ _ _ _ _ _).mono ?_
    rintro e w3 ⟨rfl, hb3⟩
    rw [hp]
    have k1 := (w21.bl hb3).all3
    have hle := w2b.trans hb3
    go_wp2_with fail
    have ht := turned_any W H q w3 hW4.1 hH4.1
    rw [← Hk.out] at ht
    refine ht.mono ?_
    rintro e w4 ⟨kf, cap, rfl, hkp, hb4⟩
    clear ht
    have ub := t_le (k := k) hW4.1 hH4.1
    have us : tW k W H * tH k W H ≤ 1048576 := by rw [t_size]; exact hbd
    have hb5 : Bl w2 (w4.alloc (.cells #[.func (.func kf) #[] cap] 34)) := (hb3.trans hb4).alloc _
    have bt := Blk.new w4 34 #[.func (.func kf) #[] cap]
    have hle5 := w2b.trans hb5
    have hP : Paints Try.prog 112 #[.pointer (some ⟨w.heap.size, 0, none⟩), .pointer (some ⟨w4.heap.size, 0, none⟩)] (Value.int .u8) (w4.alloc (.cells #[.func (.func kf) #[] cap] 34)) (tW k W H) (tH k W H) (tF (vix zs W) k W H) :=
      ⟨enters Try.func112 (by kernel_rfl) rfl, fun wx x y hb hx hy => turnGray1_any _ _ kf cap W H k A c _ x y wx ((w21.bl hb5).bl hb) (bt.bl hb) ((hkp.bl ((Bl.refl w4).alloc _)).bl hb) ((hr.bl hle5).bl hb) hx hy⟩
    have HP := Lib.hid hP
    clear hP
    have hle4 := w2b.trans (hb3.trans hb4)
    clear hkp
    go_wp2_with fail
    refine (madeGray_any (tW k W H) (tH k W H) _ _ _ _ (by omega) (by omega) us HP.out).mono ?_
    rintro e w6 ⟨r, rfl, hpg, hb6⟩
    have k2 := ((w22.bl hb5).bl hb6).all3
    have hle6 := hle5.trans hb6
    have hsz3 := (w22.bl hb5).lt
    obtain ⟨R, rc, rfl, hR, hRn⟩ := hpg
    have hRn' : ∀ ad, R = some ad → w.heap.size + 2 ≤ ad.block := fun ad h => by have := hRn ad h; omega
    have HR := Lib.hid hR; have HRn := Lib.hid hRn'
    clear hR hRn hRn' hr
    go_wp2_with fail
    refine bodyPost_ret (v := .tuple #[.agg #[.int .i64 (tW k W H), .int .i64 (tH k W H), .slice R (tW k W H * tH k W H) rc], .int .i64 0]) (by simp [results, Try.results41, go_sem, k2]) rfl ⟨_, _, R, _, rc, rfl, Res.page rfl ?_ (fun ad h => by have := HRn.out ad h; omega), ?_⟩
    · exact ((HR.out.store HRn.out (by simp) _).store HRn.out (by simp) _).store HRn.out (by simp) _
    · exact ((hle6.setCell (by simp) _).setCell (by simp) _).setCell (by simp) _
  · have hq : (pageErr W H n != 0) = true := by simp [h]
    have Hh := Lib.hid h
    clear h
    go_enter Try.func41, Try.ntmps41
    go_wp2_with fail
    refine (checkGray_any _ _ _ _ _ _).mono ?_
    rintro e w3 ⟨rfl, hb3⟩
    have k2 := (w22.bl hb3).all3
    have hle := w2b.trans hb3
    go_wp2_with fail
    refine bodyPost_ret (v := .tuple #[.agg #[.int .i64 0, .int .i64 0, .slice none 0 0], .int .i64 (pageErr W H n)]) (by simp [results, Try.results41, go_sem, k2]) rfl ⟨0, 0, none, 0, 0, rfl, Res.zero _ _ _ _ _ Hh.out, ?_⟩
    exact ((hle.setCell (by simp) _).setCell (by simp) _).setCell (by simp) _


end Go.Proofs.Ytldmofdidgibhaa
