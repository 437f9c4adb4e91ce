/- glyph.spelled. -/
import Derived.Test.YtpjemcfcheijkaaDoorMClaimVotes19
import Derived.Test.YtpjemcfcheijkaaDoorMClaimVotes7

namespace Go.Proofs.YtpjemcfcheijkaaDoor
open Go.RowKit Go.Shelf

/-- What is said of spelled's answer. -/
def SpgRes (ls : List Ltr) (gap sp : Nat) (t : List UInt8) (w : World) (e : Ending) (w' : World) : Prop := ∃ R m d wd err, e = .returned (.tuple #[.slice R m d, .int .i64 wd, .int .i64 err]) ∧ err = textErr ls t ∧ (err ≠ 0 → wd = 0) ∧
    (err = 0 → ∀ l, spelt ls t = some l → wd = ((goAll ls gap sp (0, false) l).1 : Int) ∧ m = (putAt ls gap sp (0, false) l).length ∧ m ≤ t.length ∧ Reads w' 2 R m (placedCells (putAt ls gap sp (0, false) l))) ∧ Bl w w'
theorem spg_bad {ls : List Ltr} {gap sp : Nat} {t : List UInt8} {w w' : World} {err : Int} (h : textErr ls t = err) (hz : err ≠ 0) (hb : Bl w w') : SpgRes ls gap sp t w (.returned (.tuple #[.slice none 0 0, .int .i64 0, .int .i64 err])) w' :=
  ⟨none, 0, 0, 0, err, rfl, h.symm, fun _ => rfl, fun h => absurd h hz, hb⟩
theorem putAt_len {ls : List Ltr} {gap sp : Nat} : ∀ (l : List (Option Nat)) (s : Spot), (putAt ls gap sp s l).length ≤ l.length
  | [], _ => Nat.le_refl _
  | none :: l, _ => Nat.le_succ_of_le (putAt_len l _)
  | some _ :: l, _ => Nat.succ_le_succ (putAt_len l _)
theorem bytes_at {t : List UInt8} {i : Nat} {b : UInt8} (h : t[i]? = some b) : ∃ hi : i < (⟨t.toArray⟩ : ByteArray).size, (⟨t.toArray⟩ : ByteArray)[i]'hi = b := by
  have hl := (List.getElem?_eq_some_iff.1 h).1
  have hi : i < (⟨t.toArray⟩ : ByteArray).size := by rw [Lib.size_mk]; exact hl
  exact ⟨hi, Option.some.inj ((Lib.getElem_mk t i hi).symm.trans h)⟩

end Go.Proofs.YtpjemcfcheijkaaDoor
