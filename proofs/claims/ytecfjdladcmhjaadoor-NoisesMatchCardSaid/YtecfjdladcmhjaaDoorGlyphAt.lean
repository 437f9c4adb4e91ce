/- Which letter has a text: glyph.at, and the reference's closures. -/
import Derived.Test.YtecfjdladcmhjaaDoorSameFont
namespace Go.Proofs.YtecfjdladcmhjaaDoor
open Go.RowKit

set_option maxRecDepth 100000 in
set_option maxHeartbeats 1000000 in
theorem atIs_any (b : Nat) (t : List UInt8) (y : Ltr) (w : World) (hb : Blk w b 9 #[.string ⟨t.toArray⟩]) :
    Calls Tryd.prog 182 #[y.val, .pointer (some ⟨b, 0, none⟩)] w fun e w' => e = .returned (.bool (decide (y.text = t))) ∧ Bl w w' := by
  have k1 := hb.all1
  have hlt := hb.lt
  unfold Ltr.val
  by_cases he : y.text = t
  · rw [decide_eq_true he]
    go_enter Tryd.func182, Tryd.ntmps182
    go_wp2_with fail
    go_ret
    exact ⟨by simp [he], (Bl.refl _).alloc _⟩
  · rw [decide_eq_false he]
    go_enter Tryd.func182, Tryd.ntmps182
    go_wp2_with fail
    go_ret
    exact ⟨by simp [he], (Bl.refl _).alloc _⟩
theorem atIs_tests (b : Nat) (t : List UInt8) (ls : List Ltr) (w : World) (hb : Blk w b 9 #[.string ⟨t.toArray⟩]) : Tests Tryd.prog 182 #[.pointer (some ⟨b, 0, none⟩)] w ls (fun y => decide (y.text = t)) :=
  ⟨enters Tryd.func182 (by kernel_rfl) rfl, fun wy y hy _ => atIs_any b t y wy (hb.bl hy)⟩
set_option maxRecDepth 100000 in
set_option maxHeartbeats 1000000 in
theorem learnIs_any (b : Nat) (t : List UInt8) (y : Ltr) (w : World) (hb : Blk w b 9 #[.string ⟨t.toArray⟩]) :
    Calls Tryd.prog 130 #[y.val, .pointer (some ⟨b, 0, none⟩)] w fun e w' => e = .returned (.bool (decide (y.text = t))) ∧ Bl w w' := by
  have k1 := hb.all1
  have hlt := hb.lt
  unfold Ltr.val
  by_cases he : y.text = t
  · rw [decide_eq_true he]
    go_enter Tryd.func130, Tryd.ntmps130
    go_wp2_with fail
    go_ret
    exact ⟨by simp [he], (Bl.refl _).alloc _⟩
  · rw [decide_eq_false he]
    go_enter Tryd.func130, Tryd.ntmps130
    go_wp2_with fail
    go_ret
    exact ⟨by simp [he], (Bl.refl _).alloc _⟩
theorem learnIs_tests (b : Nat) (t : List UInt8) (ls : List Ltr) (w : World) (hb : Blk w b 9 #[.string ⟨t.toArray⟩]) : Tests Tryd.prog 130 #[.pointer (some ⟨b, 0, none⟩)] w ls (fun y => decide (y.text = t)) :=
  ⟨enters Tryd.func130 (by kernel_rfl) rfl, fun wy y hy _ => learnIs_any b t y wy (hb.bl hy)⟩

set_option maxRecDepth 100000 in
set_option maxHeartbeats 1000000 in
theorem at_letter_any (nm : ByteArray) (ht gap sp : Int) (L : Option Addr) (c : Nat) (ls : List Ltr) (t : List UInt8) (w : World) (hL : LtrsAt w L ls) (hn : ls.length ≤ 9223372036854775807) :
    Calls Tryd.prog 124 #[.agg #[.string nm, .int .i64 ht, .int .i64 gap, .int .i64 sp, .slice L ls.length c], .string ⟨t.toArray⟩] w fun e w' => ∃ i : Int, e = .returned (.int .i64 i) ∧ FirstIs ls (fun y => decide (y.text = t)) i ∧ Bl w w' := by
  let w2 := ((w).alloc (.cells #[.string nm, .int .i64 ht, .int .i64 gap, .int .i64 sp, .slice L ls.length c] 67)).alloc (.cells #[.string ⟨t.toArray⟩] 9)
  have w2b : Bl w w2 := ((Bl.refl w).alloc _).alloc _
  have w21 : Blk w2 (w.heap.size) 67 #[.string nm, .int .i64 ht, .int .i64 gap, .int .i64 sp, .slice L ls.length c] := by
    have h0 := Blk.new (w) 67 #[.string nm, .int .i64 ht, .int .i64 gap, .int .i64 sp, .slice L ls.length c]
    exact (h0.alloc _)
  have w22 : Blk w2 (w.heap.size + 1) 9 #[.string ⟨t.toArray⟩] := by
    have h0 := Blk.new ((w).alloc (.cells #[.string nm, .int .i64 ht, .int .i64 gap, .int .i64 sp, .slice L ls.length c] 67)) 9 #[.string ⟨t.toArray⟩]
    simp only [World.size_alloc] at h0
    exact h0
  have hc := ltrIndex_any L c ls _ _ _ w2 (hL.bl w2b) (atIs_tests _ t ls w2 w22) hn
  have Hc := Lib.hid hc
  have k1 := w21.all5
  clear hc hL
  go_enter Tryd.func124, Tryd.ntmps124
  go_wp2_with fail
  refine Hc.out.mono ?_
  rintro e w1 ⟨i, rfl, hi, hb⟩
  have Hi := Lib.hid hi
  clear hi
  go_wp2_with fail
  go_ret
  exact ⟨i, rfl, Hi.out, w2b.trans hb⟩

theorem FirstIs.unique {ls ls' : List Ltr} {t : List UInt8} {i i' : Int} (hf : ls.map Ltr.face = ls'.map Ltr.face) (h : FirstIs ls (fun y => decide (y.text = t)) i) (h' : FirstIs ls' (fun y => decide (y.text = t)) i') : i = i' := by
  have htx : ls.map Ltr.text = ls'.map Ltr.text := by
    have := congrArg (List.map (fun (f : List UInt8 × Int × Int × Nat × List Bool) => f.1)) hf
    rw [List.map_map, List.map_map] at this
    exact this
  have key : ∀ {xs ys : List Ltr} {j : Nat} {a : Ltr}, xs.map Ltr.text = ys.map Ltr.text → xs[j]? = some a → ∃ b, ys[j]? = some b ∧ b.text = a.text := fun {xs ys j a} he ha => by
    have e1 : (xs.map Ltr.text)[j]? = some a.text := by rw [List.getElem?_map, ha]; rfl
    rw [he, List.getElem?_map] at e1
    rcases hb : ys[j]? with _ | b
    · rw [hb] at e1; cases e1
    · rw [hb] at e1; exact ⟨b, rfl, Option.some.inj e1⟩
  rcases h with ⟨rfl, hn⟩ | ⟨j, l, rfl, hl, hp, hno⟩
  · rcases h' with ⟨rfl, _⟩ | ⟨j', l', rfl, hl', hp', _⟩
    · rfl
    · obtain ⟨b, hb, e⟩ := key htx.symm hl'
      have : decide (b.text = t) = false := hn b (List.mem_of_getElem? hb)
      rw [decide_eq_true (e.trans (of_decide_eq_true hp'))] at this
      cases this
  · rcases h' with ⟨rfl, hn'⟩ | ⟨j', l', rfl, hl', hp', hno'⟩
    · obtain ⟨b, hb, e⟩ := key htx hl
      have : decide (b.text = t) = false := hn' b (List.mem_of_getElem? hb)
      rw [decide_eq_true (e.trans (of_decide_eq_true hp))] at this
      cases this
    · rcases Nat.lt_trichotomy j j' with h | rfl | h
      · obtain ⟨b, hb, e⟩ := key htx hl
        have : decide (b.text = t) = false := hno' j b h hb
        rw [decide_eq_true (e.trans (of_decide_eq_true hp))] at this
        cases this
      · rfl
      · obtain ⟨b, hb, e⟩ := key htx.symm hl'
        have : decide (b.text = t) = false := hno j' b h hb
        rw [decide_eq_true (e.trans (of_decide_eq_true hp'))] at this
        cases this

end Go.Proofs.YtecfjdladcmhjaaDoor
