/- bedref2.FontError is fontErr. -/
import Derived.Test.YtecfjdladcmhjaaDoorFontText
import Derived.Test.YtecfjdladcmhjaaDoorNameOf
import Derived.Test.YtecfjdladcmhjaaDoorInkOf
namespace Go.Proofs.YtecfjdladcmhjaaDoor
open Go.RowKit

theorem Blk.all5 {w : World} {g : Nat} {t : TypeId} {x y z u v : Value} (h : Blk w g t #[x, y, z, u, v]) : w.cell? ⟨g, 0, none⟩ = some x ∧ w.cell? ⟨g, 1, none⟩ = some y ∧ w.cell? ⟨g, 2, none⟩ = some z ∧ w.cell? ⟨g, 3, none⟩ = some u ∧ w.cell? ⟨g, 4, none⟩ = some v ∧ ∀ i, w.frozen? ⟨g, i, none⟩ = false := ⟨h.cell 0, h.cell 1, h.cell 2, h.cell 3, h.cell 4, h.frozen⟩
theorem first5_any (e1 e2 e3 e4 e5 : Int) (g : Nat) (w : World) (h : Blk w g 30 #[.int .i64 e1, .int .i64 e2, .int .i64 e3, .int .i64 e4, .int .i64 e5]) :
    Calls Tryd.prog 25 #[.slice (some ⟨g, 0, none⟩) 5 5] w fun e w' => e = .returned (.int .i64 (firstNZ [e1, e2, e3, e4, e5])) ∧ w = w' :=
  first_any (some ⟨g, 0, none⟩) 5 [e1, e2, e3, e4, e5] w (h.reads 5 1 rfl) (by simp)
theorem firstNZ_append (a b : List Int) : firstNZ (a ++ b) = if firstNZ a = 0 then firstNZ b else firstNZ a := by
  induction a with
  | nil => simp [firstNZ]
  | cons x a ih =>
    show (if x = 0 then firstNZ (a ++ b) else x) = _
    by_cases h : x = 0
    · rw [if_pos h, ih]
      show _ = if (if x = 0 then firstNZ a else x) = 0 then _ else (if x = 0 then firstNZ a else x)
      rw [if_pos h]
    · rw [if_neg h]
      show _ = if (if x = 0 then firstNZ a else x) = 0 then _ else (if x = 0 then firstNZ a else x)
      rw [if_neg h, if_neg h]
/-- What is asked of a letter first .. -/
def ltrE1 (prev : List (List UInt8)) (l : Ltr) : Int := firstNZ [whenI (!textB l.text) 2, whenI (decide (l.text ∈ prev)) 6, pageErr l.W l.H l.m]
/-- .. and then. -/
def ltrE2 (ht : Int) (l : Ltr) : Int := firstNZ [whenI (l.H != ht) 11, whenI (decide (64 < l.W)) 4, whenI (bareB l.bs l.W.toNat l.H.toNat) 2]
theorem ltrErr_parts (ht : Int) (prev : List (List UInt8)) (l : Ltr) : ltrErr ht prev l = if ltrE1 prev l = 0 then ltrE2 ht l else ltrE1 prev l :=
  firstNZ_append [whenI (!textB l.text) 2, whenI (decide (l.text ∈ prev)) 6, pageErr l.W l.H l.m] _
theorem ltrE1_zero {prev : List (List UInt8)} {l : Ltr} (h : ltrE1 prev l = 0) : pageErr l.W l.H l.m = 0 := by
  unfold ltrE1 at h
  have h2 := firstNZ_append [whenI (!textB l.text) 2, whenI (decide (l.text ∈ prev)) 6] [pageErr l.W l.H l.m]
  rw [show [whenI (!textB l.text) 2, whenI (decide (l.text ∈ prev)) 6] ++ [pageErr l.W l.H l.m] = [whenI (!textB l.text) 2, whenI (decide (l.text ∈ prev)) 6, pageErr l.W l.H l.m] from rfl, h] at h2
  split at h2
  · simp only [firstNZ] at h2
    by_cases h3 : pageErr l.W l.H l.m = 0
    · exact h3
    · rw [if_neg h3] at h2; exact h2.symm
  · rename_i h3; exact absurd h2.symm h3

set_option maxRecDepth 100000 in
set_option maxHeartbeats 1000000 in
theorem fontError1_any (b : Nat) (l y : Ltr) (w : World) (hb : Blk w b 99 #[.string ⟨l.text.toArray⟩, .int .i64 l.W, .int .i64 l.H, .slice l.A l.m l.c]) :
    Calls Tryd.prog 135 #[y.val, .pointer (some ⟨b, 0, none⟩)] w fun e w' => e = .returned (.bool (decide (y.text = l.text))) ∧ Bl w w' := by
  have k1 := hb.all4
  have hlt := hb.lt
  unfold Ltr.val
  by_cases he : y.text = l.text
  · rw [decide_eq_true he]
    go_enter Tryd.func135, Tryd.ntmps135
    go_wp2_with fail
    go_ret
    exact ⟨by simp [he], (Bl.refl _).alloc _⟩
  · rw [decide_eq_false he]
    go_enter Tryd.func135, Tryd.ntmps135
    go_wp2_with fail
    go_ret
    exact ⟨by simp [he], (Bl.refl _).alloc _⟩

end Go.Proofs.YtecfjdladcmhjaaDoor
