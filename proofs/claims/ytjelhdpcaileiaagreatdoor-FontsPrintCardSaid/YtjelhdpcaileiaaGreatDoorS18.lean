/- bedref2.SetOf. -/
import Derived.Test.YtjelhdpcaileiaaGreatDoorS17
import Derived.Test.YtjelhdpcaileiaaGreatDoorS10
import Derived.Test.YtjelhdpcaileiaaGreatDoorS2
import Derived.Test.YtjelhdpcaileiaaGreatDoorS16

namespace Go.Proofs.YtjelhdpcaileiaaGreatDoor
open Go.RowKit Go.Shelf

/-- Where a letter of a text lies. -/
def ptrCell (ad : Addr) : Option Nat → Value
  | none => .pointer none
  | some k => .pointer (some (ad.add (k * 4)))
/-- What is said of Spelled's answer. -/
def SpRes (ls : List Ltr) (t : List UInt8) (adl : Addr) (w : World) (e : Ending) (w' : World) : Prop := ∃ R m d, e = .returned (.tuple #[.slice R m d, .bool (spelt ls t).isSome]) ∧
      (∀ l, spelt ls t = some l → m = l.length ∧ l.length ≤ t.length ∧ Reads w' 1 R l.length (l.map (ptrCell adl))) ∧ Bl w w'
theorem drop_len {rest : List UInt8} (k : Nat) : (rest.drop k).length = rest.length - k := List.length_drop
end Go.Proofs.YtjelhdpcaileiaaGreatDoor


/-! bedref2.WidthOf. -/
namespace Go.Proofs.YtjelhdpcaileiaaGreatDoor
open Go.RowKit Go.Shelf

/-- What of a right font the walks of spelling lean on. -/
structure Right (ht : Nat) (gap sp : Nat) (ls : List Ltr) : Prop where
  texts : Texts ls
  many : 1 ≤ ls.length ∧ ls.length ≤ 200
  ht1 : 1 ≤ ht ∧ ht ≤ 64
  gap1 : 1 ≤ gap ∧ gap ≤ 16
  sp1 : 1 ≤ sp ∧ sp ≤ 64
  wide : gap < sp
  wd : ∀ k (h : k < ls.length), (ls[k]'h).W = (wdOf ls k : Int) ∧ 1 ≤ wdOf ls k ∧ wdOf ls k ≤ 64
  hts : ∀ k (h : k < ls.length), (ls[k]'h).H = (ht : Int)
  ms : ∀ k (h : k < ls.length), (ls[k]'h).m = wdOf ls k * ht
theorem Right.wd_le {ht gap sp : Nat} {ls : List Ltr} (h : Right ht gap sp ls) (k : Nat) : wdOf ls k ≤ 64 := by
  rcases Nat.lt_or_ge k ls.length with h1 | h1
  · exact (h.wd k h1).2.2
  · rw [wdOf_out h1]; omega
end Go.Proofs.YtjelhdpcaileiaaGreatDoor


/-! bedref2.SetOf. -/
namespace Go.Proofs.YtjelhdpcaileiaaGreatDoor
open Go.RowKit Go.Shelf

theorem ltr_at {w : World} {L : Option Addr} {ls : List Ltr} {k : Nat} (h : LtrsAt w L ls) (hk : k < ls.length) : ∃ ad, L = some ad ∧ w.cell? (ad.add (k * 4)) = some (.string ⟨(txtOf ls k).toArray⟩) ∧ w.cell? ⟨(ad.add (k * 4)).block, (ad.add (k * 4)).off + 1, none⟩ = some (.int .i64 (ls[k]'hk).W) ∧
    w.cell? ⟨(ad.add (k * 4)).block, (ad.add (k * 4)).off + 2, none⟩ = some (.int .i64 (ls[k]'hk).H) ∧ w.cell? ⟨(ad.add (k * 4)).block, (ad.add (k * 4)).off + 3, none⟩ = some (.slice (ls[k]'hk).A (ls[k]'hk).m (ls[k]'hk).c) ∧ Reads w 1 (ls[k]'hk).A (ls[k]'hk).m ((bsOf ls k).map .bool) := by
  have hg : ls[k]? = some ls[k] := List.getElem?_eq_getElem hk
  obtain ⟨ad, e, h1, h2, h3, h4⟩ := h.at_ hg
  exact ⟨ad, e, by rw [txtOf_at hg]; exact h1, h2, h3, h4, by rw [bsOf_at hg]; exact (h.2 _ (List.getElem_mem hk)).1⟩
/-- What is said of a page that is set. -/
def SetRes (W ht : Nat) (cells : List Value) (w : World) (e : Ending) (w' : World) : Prop := ∃ R rc, e = .returned (.agg #[.int .i64 W, .int .i64 ht, .slice R (W * ht) rc]) ∧
      Reads w' 1 R (W * ht) cells ∧ (∀ ad, R = some ad → w.heap.size ≤ ad.block) ∧ Bl w w'
end Go.Proofs.YtjelhdpcaileiaaGreatDoor
