/- skew.Lean and skew.Slant. -/
import Derived.Test.YtecfjdladcmhjaaMoved
import Derived.Test.YtecfjdladcmhjaaSkew1
import Derived.Test.YtecfjdladcmhjaaPages
import Derived.Laws.EntriesVeiled
namespace Go.Proofs.Ytecfjdladcmhjaa
open Go.RowKit

def leanF (bs : List Bool) (W H : Nat) (n : Int) (x y : Nat) : Bool := atI bs W H (x : Int) ((y : Int) - leanI W n x)
def slantF (bs : List Bool) (W H : Nat) (n : Int) (x y : Nat) : Bool := atI bs W H ((x : Int) - slantI H n y) (y : Int)

theorem lean_cells (bs : List Bool) (W H : Nat) (n : Int) : ((List.range (W * H)).map (hitTo bs W (fun x y => ((x : Int), (y : Int) + leanI W n x)) (W * H))) = grid W H (leanF bs W H n) :=
  List.map_congr_left fun k hk => by
    have hk := List.mem_range.1 hk
    rw [hit_lean bs W H (leanI W n) k hk]
    rfl
theorem slant_cells (bs : List Bool) (W H : Nat) (n : Int) : ((List.range (W * H)).map (hitTo bs W (fun x y => ((x : Int) + slantI H n y, (y : Int))) (W * H))) = grid W H (slantF bs W H n) :=
  List.map_congr_left fun k hk => by
    have hk := List.mem_range.1 hk
    rw [hit_slant bs W H (slantI H n) k hk]
    rfl
end Go.Proofs.Ytecfjdladcmhjaa
