/- bedref2.WidthOf. -/
import Derived.Test.YtjelhdpcaileiaaDoorU31
import Derived.Test.YtjelhdpcaileiaaDoorU13
import Derived.Test.YtjelhdpcaileiaaDoorU33
import Derived.Test.YtjelhdpcaileiaaDoorU3

namespace Go.Proofs.YtjelhdpcaileiaaDoor
open Go.RowKit Go.Shelf

/-- Where a letter of a text lies. -/
def ptrCell (ad : Addr) : Option Nat → Value
  | none => .pointer none
  | some k => .pointer (some (ad.add (k * 4)))
/-- What is said of Spelled's answer. -/
def SpRes (ls : List Ltr) (t : List UInt8) (adl : Addr) (w : World) (e : Ending) (w' : World) : Prop := ∃ R m d, e = .returned (.tuple #[.slice R m d, .bool (spelt ls t).isSome]) ∧
      (∀ l, spelt ls t = some l → m = l.length ∧ l.length ≤ t.length ∧ Reads w' 1 R l.length (l.map (ptrCell adl))) ∧ Bl w w'
theorem drop_len {rest : List UInt8} (k : Nat) : (rest.drop k).length = rest.length - k := List.length_drop
end Go.Proofs.YtjelhdpcaileiaaDoor


/-! bedref2.WidthOf. -/
namespace Go.Proofs.YtjelhdpcaileiaaDoor
open Go.RowKit Go.Shelf

/-- What of a right font the walks of spelling lean on. -/
structure Right (ht : Nat) (gap sp : Nat) (ls : List Ltr) : Prop where
  texts : Texts ls
  many : 1 ≤ ls.length ∧ ls.length ≤ 200
  ht1 : 1 ≤ ht ∧ ht ≤ 64
  gap1 : 1 ≤ gap ∧ gap ≤ 16
  sp1 : 1 ≤ sp ∧ sp ≤ 64
  wide : gap < sp
  wd : ∀ k (h : k < ls.length), (ls[k]'h).W = (wdOf ls k : Int) ∧ 1 ≤ wdOf ls k ∧ wdOf ls k ≤ 64
  hts : ∀ k (h : k < ls.length), (ls[k]'h).H = (ht : Int)
  ms : ∀ k (h : k < ls.length), (ls[k]'h).m = wdOf ls k * ht
theorem Right.wd_le {ht gap sp : Nat} {ls : List Ltr} (h : Right ht gap sp ls) (k : Nat) : wdOf ls k ≤ 64 := by
  rcases Nat.lt_or_ge k ls.length with h1 | h1
  · exact (h.wd k h1).2.2
  · rw [wdOf_out h1]; omega
end Go.Proofs.YtjelhdpcaileiaaDoor
