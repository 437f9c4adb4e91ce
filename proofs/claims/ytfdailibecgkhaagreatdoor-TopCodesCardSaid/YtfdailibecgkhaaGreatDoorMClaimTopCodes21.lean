/- glyph.Fit. -/
import Derived.Test.YtfdailibecgkhaaGreatDoorMClaimTopCodes14
import Derived.Test.YtfdailibecgkhaaGreatDoorMClaimTopCodes1
import Derived.Test.YtfdailibecgkhaaGreatDoorMClaimTopCodes11
import Derived.Shelf.Strings.Split
import Derived.Lib.Split
import Derived.Lib.CountLaws
import Derived.Lib.IndexMore
import Derived.Lib.Strings

namespace Go.Proofs
open Go.Shelf
end Go.Proofs
namespace Go.Proofs.YtfdailibecgkhaaGreatDoor
open Go.RowKit Go.Shelf

theorem info_str : (Tryz.prog.info? 9).map (fun i => (i.zero, i.size, i.bytes)) = some (some (.string ByteArray.empty), 1, 16) := by kernel_rfl
def strOf (l : List UInt8) : Value := .string ⟨l.toArray⟩
def strCells' (ts : List (List UInt8)) : List Value := ts.map strOf
theorem str_at {w : World} {A : Option Addr} {ts : List (List UInt8)} {i : Nat} {x : List UInt8} (h : Reads w 1 A ts.length (strCells' ts)) (hi : ts[i]? = some x) : ∃ ad, A = some ad ∧ w.cell? (ad.add i) = some (.string ⟨x.toArray⟩) := by
  have hlt := (List.getElem?_eq_some_iff.1 hi).1
  obtain ⟨ad, u, e, hu, hc⟩ := h.at_ hlt
  unfold strCells' at hu
  rw [List.getElem?_map, hi] at hu
  have hu' : strOf x = u := Option.some.inj hu
  subst hu'
  exact ⟨ad, e, hc⟩

end Go.Proofs.YtfdailibecgkhaaGreatDoor


/-! glyph.Fit. -/
namespace Go.Proofs.YtfdailibecgkhaaGreatDoor
open Go.RowKit Go.Shelf

theorem own_cap {w : World} {base : Nat} {e : TypeId} {size n m cap : Nat} {A : Option Addr} {xs : List Value} (h : w.ownsRow base e size (.slice A m cap) n xs) : n ≤ cap := by
  rcases h.2 with ⟨hv, hn⟩ | ⟨g', cap', cur, hv, -, hg, hn, -⟩
  · injection hv with h1 h2 h3
    omega
  · injection hv with h1 h2 h3
    omega

end Go.Proofs.YtfdailibecgkhaaGreatDoor
