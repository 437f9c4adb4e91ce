/- Profile, Score, skews. -/
import Derived.Test.YtecfjdladcmhjaaDoorSkew3
namespace Go.Proofs.YtecfjdladcmhjaaDoor
open Go.RowKit

def profI (bs : List Bool) (W H : Nat) (n : Int) (k : Nat) : Int := ((profN bs W H n k : Nat) : Int)
def scoreI (bs : List Bool) (W H : Nat) (n : Int) : Int := sqN (profI bs W H n) (2 * H)
/-- A profile if the error is 0, nothing else. -/
def ProfRes (w : World) (err : Int) (bs : List Bool) (W H : Int) (n : Int) (P : Option Addr) (m : Nat) : Prop :=
  (err = 0 → m = 2 * H.toNat ∧ Reads w 1 P m ((tabL m (profI bs W.toNat H.toNat n)).map (.int .i64))) ∧ (err ≠ 0 → m = 0 ∧ P = none)
theorem ProfRes.bl {w w' : World} {err : Int} {bs : List Bool} {W H n : Int} {P : Option Addr} {m : Nat} (h : ProfRes w err bs W H n P m) (hb : Bl w w') : ProfRes w' err bs W H n P m :=
  ⟨fun e => ⟨(h.1 e).1, (h.1 e).2.bl hb⟩, h.2⟩
theorem prof_count (bs : List Bool) (W H : Nat) (n : Int) (k : Nat) : (((spotL bs (W * H)).countP (profK W H n k) : Nat) : Int) = profI bs W H n k := by
  unfold profI profN
  rw [spotL_count]

theorem profI_bd {bs : List Bool} {W H : Nat} {n : Int} (h : W * H ≤ 1048576) (k : Nat) : 0 ≤ profI bs W H n k ∧ profI bs W H n k ≤ 1048576 := by
  have := profN_le bs W H n k
  unfold profI
  omega

theorem score_one : scoreI [true] 1 1 0 = 1 := by decide
end Go.Proofs.YtecfjdladcmhjaaDoor
