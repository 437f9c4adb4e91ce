/- page.ToBits, page.ToGray, and the function values of the law on counts. -/
import Derived.Test.YtecfjdladcmhjaaCountLaw
import Derived.Test.YtecfjdladcmhjaaPages
import Derived.Test.YtecfjdladcmhjaaSame
namespace Go.Proofs.Ytecfjdladcmhjaa
open Go.RowKit

def lvlErr (W H : Int) (k : Nat) (n : Int) : Int := firstNZ [pageErr W H k, whenI (!inB n 0 256) 3]
theorem lvlErr_zero {W H : Int} {k : Nat} {n : Int} (h : lvlErr W H k n = 0) : pageErr W H k = 0 ∧ (0 ≤ n ∧ n ≤ 256) := by
  unfold lvlErr firstNZ at h
  split at h
  · rename_i h0
    refine ⟨h0, ?_⟩
    cases hi : inB n 0 256
    · rw [hi] at h; simp [firstNZ, whenI] at h
    · exact inB_true.1 hi
  · contradiction
def bitF (zs : List Int) (W : Nat) (level : Int) (x y : Nat) : Bool := decide (vix zs W x y < level)
def grayF (bs : List Bool) (W : Nat) (x y : Nat) : Int := if pix bs W x y then 0 else 255

set_option maxRecDepth 100000 in
set_option maxHeartbeats 1000000 in
theorem toBits1_any (p q W H : Nat) (A : Option Addr) (ac : Nat) (zs : List Int) (level : Int) (x y : Nat) (w : World) (hp : Blk w p 24 #[.int .i64 W, .int .i64 H, .slice A (W * H) ac]) (hq : Blk w q 3 #[.int .i64 level])
    (hA : Reads w 1 A (W * H) (zs.map (.int .u8))) (hz : Bytes zs) (hW : W ≤ 4000) (hH : H ≤ 4000) (hx : x < W) (hy : y < H) :
    Calls Try.prog 43 #[.int .i64 x, .int .i64 y, .pointer (some ⟨p, 0, none⟩), .pointer (some ⟨q, 0, none⟩)] w fun e w' => e = .returned (.bool (bitF zs W level x y)) ∧ Bl w w' := by
  have kp := hp.all3
  have kq := hq.all1
  obtain ⟨ad, rfl, hc⟩ := hA.vplace hx hy
  have hk := place_lt hx hy
  have hvb : 0 ≤ vix zs W x y ∧ vix zs W x y ≤ 255 := hz.at _
  obtain ⟨k, hkk⟩ : ∃ k, k = y * W + x := ⟨_, rfl⟩
  rw [← hkk] at hc hk
  have f1 : (y : Int) * (W : Int) + (x : Int) = (k : Int) := by rw [hkk]; simp
  have f2 : (k : Int) < (W : Int) * (H : Int) := by have := Int.natCast_mul W H; omega
  have f3 : (0 : Int) ≤ (y : Int) * (W : Int) ∧ (y : Int) * (W : Int) ≤ 16000000 := by
    have := Int.natCast_mul y W
    have := Nat.mul_le_mul (show y ≤ 4000 by omega) hW
    omega
  unfold bitF
  obtain ⟨v, hv⟩ : ∃ v, v = vix zs W x y := ⟨_, rfl⟩
  rw [← hv] at hc hvb ⊢
  have Hkk := Lib.hid hkk
  clear hv hkk hA hz
  go_enter Try.func43, Try.ntmps43
  go_wp2_with fail
  refine wp_region_flow [(true, 0), (true, 1), (true, 2), (true, 3), (true, 4), (true, 5), (true, 6), (true, 7), (true, 8), (true, 9), (true, 10), (true, 11), (true, 12), (true, 13)] (fun _ => false) (by kernel_rfl) (by kernel_rfl) (by kernel_rfl) (by kernel_rfl) ?_
  iterate 1
    apply Flow.calm2 _ _ rfl rfl
    · intro w' hb' K' hK'
      obtain ⟨hc', hf'⟩ := hb'.rule
      go_simp
      try go_ints
      exact hK'
    · intro K' hK'
      simp only [Act.put, List.setIfInBounds_toArray, List.set_cons_zero, List.set_cons_succ]
      exact hK'
  iterate 1
    apply Flow.calm2 _ _ rfl rfl
    · intro w' hb' K' hK'
      obtain ⟨hc', hf'⟩ := hb'.rule
      go_simp
      try go_ints
      exact hK'
    · intro K' hK'
      simp only [Act.put, List.setIfInBounds_toArray, List.set_cons_zero, List.set_cons_succ]
      exact hK'
  iterate 1
    apply Flow.mv _ rfl
    · intro K' hK'
      simp only [Act.put, Act.eval, List.setIfInBounds_toArray, List.set_cons_zero, List.set_cons_succ, arr_getD, List.getD_cons_zero, List.getD_cons_succ]
      exact hK'
  iterate 1
    apply Flow.calm2 _ _ rfl rfl
    · intro w' hb' K' hK'
      obtain ⟨hc', hf'⟩ := hb'.rule
      go_simp
      try go_ints
      exact hK'
    · intro K' hK'
      simp only [Act.put, List.setIfInBounds_toArray, List.set_cons_zero, List.set_cons_succ]
      exact hK'
  iterate 1
    apply Flow.calm2 _ _ rfl rfl
    · intro w' hb' K' hK'
      obtain ⟨hc', hf'⟩ := hb'.rule
      go_simp
      try go_ints
      exact hK'
    · intro K' hK'
      simp only [Act.put, List.setIfInBounds_toArray, List.set_cons_zero, List.set_cons_succ]
      exact hK'
  iterate 1
    apply Flow.calm2 _ _ rfl rfl
    · intro w' hb' K' hK'
      obtain ⟨hc', hf'⟩ := hb'.rule
      go_simp
      try go_ints
      exact hK'
    · intro K' hK'
      simp only [Act.put, List.setIfInBounds_toArray, List.set_cons_zero, List.set_cons_succ]
      exact hK'
  iterate 1
    apply Flow.mv _ rfl
    · intro K' hK'
      simp only [Act.put, Act.eval, List.setIfInBounds_toArray, List.set_cons_zero, List.set_cons_succ, arr_getD, List.getD_cons_zero]
      exact hK'
  iterate 1
    apply Flow.calm2 _ _ rfl rfl
    · intro w' hb' K' hK'
      obtain ⟨hc', hf'⟩ := hb'.rule
      go_simp
      try go_ints
      exact hK'
    · intro K' hK'
      simp only [Act.put, List.setIfInBounds_toArray, List.set_cons_zero, List.set_cons_succ]
      exact hK'
  iterate 1
    apply Flow.calm2 _ _ rfl rfl
    · intro w' hb' K' hK'
      obtain ⟨hc', hf'⟩ := hb'.rule
      go_simp
      try go_ints
      exact hK'
    · intro K' hK'
      simp only [Act.put, List.setIfInBounds_toArray, List.set_cons_zero, List.set_cons_succ]
      exact hK'
  iterate 1
    apply Flow.calm2 _ _ rfl rfl
    · intro w' hb' K' hK'
      obtain ⟨hc', hf'⟩ := hb'.rule
      go_simp
      try go_ints
      exact hK'
    · intro K' hK'
      simp only [Act.put, List.setIfInBounds_toArray, List.set_cons_zero, List.set_cons_succ]
      exact hK'
  iterate 1
    apply Flow.calm2 _ _ rfl rfl
    · intro w' hb' K' hK'
      obtain ⟨hc', hf'⟩ := hb'.rule
      go_simp
      try go_ints
      exact hK'
    · intro K' hK'
      simp only [Act.put, List.setIfInBounds_toArray, List.set_cons_zero, List.set_cons_succ]
      exact hK'
  iterate 1
    apply Flow.calm2 _ _ rfl rfl
    · intro w' hb' K' hK'
      obtain ⟨hc', hf'⟩ := hb'.rule
      go_simp
      try go_ints
      exact hK'
    · intro K' hK'
      simp only [Act.put, List.setIfInBounds_toArray, List.set_cons_zero, List.set_cons_succ]
      exact hK'
  iterate 1
    apply Flow.calm2 _ _ rfl rfl
    · intro w' hb' K' hK'
      obtain ⟨hc', hf'⟩ := hb'.rule
      go_simp
      try go_ints
      exact hK'
    · intro K' hK'
      simp only [Act.put, List.setIfInBounds_toArray, List.set_cons_zero, List.set_cons_succ]
      exact hK'
  iterate 1
    apply Flow.asg _ rfl
    · intro K' hK'
      simp only [Act.put, Act.eval, List.setIfInBounds_toArray, List.set_cons_zero, List.set_cons_succ, arr_getD, List.getD_cons_zero, List.getD_cons_succ]
      exact hK'
  refine Flow.done ?_
  go_wp2_with fail
  go_ret
  exact ⟨rfl, (Bl.refl _).drew⟩

set_option maxRecDepth 100000 in
set_option maxHeartbeats 2000000 in
theorem toBits_any (W H : Int) (A : Option Addr) (an ac : Nat) (zs : List Int) (level : Int) (w : World) (hA : Reads w 1 A an (zs.map (.int .u8))) (hz : Bytes zs) :
    Calls Try.prog 21 #[.agg #[.int .i64 W, .int .i64 H, .slice A an ac], .int .i64 level] w fun e w' => ∃ a b R m d, e = .returned (.tuple #[.agg #[.int .i64 a, .int .i64 b, .slice R m d], .int .i64 (lvlErr W H an level)]) ∧
      Res w.heap.size w' (lvlErr W H an level) W.toNat H.toNat ((grid W.toNat H.toNat (bitF zs W.toNat level)).map .bool) a b R m d ∧ Bl w w' := by
  let w2 := (((w).alloc (.cells #[.int .i64 W, .int .i64 H, .slice A an ac] 24)).alloc (.cells #[.int .i64 level] 3)).alloc (.cells #[.int .i64 0, .int .i64 0, .slice none 0 0] 27)
  have w2b : Bl w w2 := (((Bl.refl w).alloc _).alloc _).alloc _
  have w21 : Blk w2 (w.heap.size) 24 #[.int .i64 W, .int .i64 H, .slice A an ac] := by
    have h0 := Blk.new (w) 24 #[.int .i64 W, .int .i64 H, .slice A an ac]
    exact ((h0.alloc _).alloc _)
  have w22 : Blk w2 (w.heap.size + 1) 3 #[.int .i64 level] := by
    have h0 := Blk.new ((w).alloc (.cells #[.int .i64 W, .int .i64 H, .slice A an ac] 24)) 3 #[.int .i64 level]
    simp only [World.size_alloc] at h0
    exact (h0.alloc _)
  have w23 : Blk w2 (w.heap.size + 1 + 1) 27 #[.int .i64 0, .int .i64 0, .slice none 0 0] := by
    have h0 := Blk.new (((w).alloc (.cells #[.int .i64 W, .int .i64 H, .slice A an ac] 24)).alloc (.cells #[.int .i64 level] 3)) 27 #[.int .i64 0, .int .i64 0, .slice none 0 0]
    simp only [World.size_alloc] at h0
    exact h0
  have k1 := w21.all3
  by_cases hp : pageErr W H an = 0
  · rcases (show level < 0 ∨ (¬ level < 0 ∧ 256 < level) ∨ (0 ≤ level ∧ level ≤ 256) by omega) with h | ⟨h, h'⟩ | h
    · have e : lvlErr W H an level = 3 := by unfold lvlErr; rw [hp, inB_false.2 (by omega)]; rfl
      rw [e]
      clear e
      go_enter Try.func21, Try.ntmps21
      go_wp2_with fail
      refine (checkGray_any _ _ _ _ _ _).mono ?_
      rintro e w3 ⟨rfl, hb3⟩
      have k2 := (w22.bl hb3).all1
      have k3 := (w23.bl hb3).all3
      go_wp2_with fail
      refine bodyPost_ret (v := .tuple #[.agg #[.int .i64 0, .int .i64 0, .slice none 0 0], .int .i64 3]) (by simp [results, Try.results21, go_sem, k3]) rfl ⟨_, _, _, _, _, rfl, Res.zero _ _ _ _ _ (by decide), ?_⟩
      exact ((((w2b.trans hb3).setCell (by simp; omega) _).setCell (by simp; omega) _).setCell (by simp; omega) _)
    · have e : lvlErr W H an level = 3 := by unfold lvlErr; rw [hp, inB_false.2 (by omega)]; rfl
      rw [e]
      clear e
      go_enter Try.func21, Try.ntmps21
      go_wp2_with fail
      refine (checkGray_any _ _ _ _ _ _).mono ?_
      rintro e w3 ⟨rfl, hb3⟩
      have k2 := (w22.bl hb3).all1
      have k3 := (w23.bl hb3).all3
      go_wp2_with fail
      refine bodyPost_ret (v := .tuple #[.agg #[.int .i64 0, .int .i64 0, .slice none 0 0], .int .i64 3]) (by simp [results, Try.results21, go_sem, k3]) rfl ⟨_, _, _, _, _, rfl, Res.zero _ _ _ _ _ (by decide), ?_⟩
      exact ((((w2b.trans hb3).setCell (by simp; omega) _).setCell (by simp; omega) _).setCell (by simp; omega) _)
    · have e : lvlErr W H an level = 0 := by unfold lvlErr; rw [hp, inB_true.2 (by omega)]; rfl
      rw [e]
      clear e
      obtain ⟨W, H, rfl, rfl, rfl, u1, u2, u3⟩ := page_nat hp
      rw [Int.toNat_natCast, Int.toNat_natCast]
      have hA2 := hA.bl w2b
      have HA := Lib.hid hA2; have Hz := Lib.hid hz
      clear hA hA2 hz
      go_enter Try.func21, Try.ntmps21
      go_wp2_with fail
      refine (checkGray_any _ _ _ _ _ _).mono ?_
      rintro e w3 ⟨rfl, hb3⟩
      have k1 := (w21.bl hb3).all3
      have k2 := (w22.bl hb3).all1
      have hle := w2b.trans hb3
      have hP : Paints Try.prog 43 #[.pointer (some ⟨w.heap.size, 0, none⟩), .pointer (some ⟨w.heap.size + 1, 0, none⟩)] Value.bool w3 W H (bitF zs W level) :=
        ⟨enters Try.func43 (by kernel_rfl) rfl, fun wx x y hb hx hy => toBits1_any _ _ W H A ac zs level x y wx ((w21.bl hb3).bl hb) ((w22.bl hb3).bl hb) ((HA.out.bl hb3).bl hb) Hz.out u1 u2 hx hy⟩
      have HP := Lib.hid hP
      clear hP
      go_wp2_with fail
      refine (made_any W H _ _ _ _ (by omega) (by omega) u3 HP.out).mono ?_
      rintro e w6 ⟨r, rfl, hpg, hb6⟩
      have k3 := (w23.bl (hb3.trans hb6)).all3
      have hle6 := hle.trans hb6
      have hsz3 := (w23.bl hb3).lt
      obtain ⟨R, rc, rfl, hR, hRn⟩ := hpg
      have hRn' : ∀ ad, R = some ad → w.heap.size + 3 ≤ ad.block := fun ad h => by have := hRn ad h; omega
      have HR := Lib.hid hR; have HRn := Lib.hid hRn'
      clear hR hRn hRn'
      go_wp2_with fail
      refine bodyPost_ret (v := .tuple #[.agg #[.int .i64 W, .int .i64 H, .slice R (W * H) rc], .int .i64 0]) (by simp [results, Try.results21, go_sem, k3]) rfl ⟨_, _, R, _, rc, rfl, Res.page rfl ?_ (fun ad h => by have := HRn.out ad h; omega), ?_⟩
      · exact ((HR.out.store HRn.out (by simp) _).store HRn.out (by simp) _).store HRn.out (by simp) _
      · exact (((hle6.setCell (by simp; omega) _).setCell (by simp; omega) _).setCell (by simp; omega) _)
  · have e : lvlErr W H an level = pageErr W H an := by unfold lvlErr; simp [firstNZ, hp]
    have hq : (pageErr W H an != 0) = true := by simp [hp]
    rw [e]
    have Hp := Lib.hid hp
    clear e hp
    go_enter Try.func21, Try.ntmps21
    go_wp2_with fail
    refine (checkGray_any _ _ _ _ _ _).mono ?_
    rintro e w3 ⟨rfl, hb3⟩
    have k3 := (w23.bl hb3).all3
    go_wp2_with fail
    refine bodyPost_ret (v := .tuple #[.agg #[.int .i64 0, .int .i64 0, .slice none 0 0], .int .i64 (pageErr W H an)]) (by simp [results, Try.results21, go_sem, k3]) rfl ⟨_, _, _, _, _, rfl, Res.zero _ _ _ _ _ Hp.out, ?_⟩
    exact ((((w2b.trans hb3).setCell (by simp; omega) _).setCell (by simp; omega) _).setCell (by simp; omega) _)

/-! ### ToGray -/
end Go.Proofs.Ytecfjdladcmhjaa
