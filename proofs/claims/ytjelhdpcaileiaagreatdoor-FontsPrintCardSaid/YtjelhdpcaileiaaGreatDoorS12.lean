/- bedref2.NoiseOf. -/
import Derived.Test.YtjelhdpcaileiaaGreatDoorS11
import Derived.Test.YtjelhdpcaileiaaGreatDoorS1
import Derived.Lib.SliceRun

namespace Go.Proofs.YtjelhdpcaileiaaGreatDoor
open Go.RowKit

theorem own_mono {w : World} {base base' : Nat} {e : TypeId} {size : Nat} {v : Value} {n : Nat} {xs : List Value} (h : w.ownsRow base e size v n xs) (hb : base' ≤ base) : w.ownsRow base' e size v n xs := by
  refine ⟨h.1, ?_⟩
  rcases h.2 with h2 | ⟨g, cap, cur, hv, hg, r⟩
  · exact .inl h2
  · exact .inr ⟨g, cap, cur, hv, Nat.le_trans hb hg, r⟩
end Go.Proofs.YtjelhdpcaileiaaGreatDoor


/-! glyph.Noise. -/
namespace Go.Proofs.YtjelhdpcaileiaaGreatDoor
open Go.RowKit

def noiseN (bs : List Bool) (s p : Int) (i : Nat) : Bool := bs.getD i false != decide (chanceI s (i : Int) < p)
def noiseF (bs : List Bool) (W : Nat) (s p : Int) (x y : Nat) : Bool := noiseN bs s p (y * W + x)
def noiseErr (W H : Int) (n : Nat) (p : Int) : Int := firstNZ [pageErr W H n, whenI (!inB p 0 1000) 3]

theorem Blk.readsTo {w : World} {g : Nat} {t : TypeId} {cs : Array Value} {n : Nat} {xs : List Value} (h : Blk w g t cs) (hl : xs.length = n) (hx : ∀ (i : Nat) (u : Value), xs[i]? = some u → cs[i]? = some u) : Reads w 1 (some ⟨g, 0, none⟩) n xs :=
  ⟨by rw [hl, Nat.mul_one], fun _ => ⟨_, rfl, fun j u hj => by
    have e : (⟨g, 0, none⟩ : Addr).add j = ⟨g, j, none⟩ := by unfold Addr.add; split <;> simp_all
    rw [e, h.cell]; exact hx j u hj⟩⟩
end Go.Proofs.YtjelhdpcaileiaaGreatDoor


/-! bedref2.NoiseOf. -/
namespace Go.Proofs.YtjelhdpcaileiaaGreatDoor
open Go.RowKit

end Go.Proofs.YtjelhdpcaileiaaGreatDoor
