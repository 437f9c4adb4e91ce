/- The scores: Find$1, FindSlant$1, FindOf$1, FindSlantOf$1. -/
import Derived.Test.YtecfjdladcmhjaaDoorFindLaw
import Derived.Test.YtecfjdladcmhjaaDoorCount2
import Derived.Test.YtecfjdladcmhjaaDoorInkOf
namespace Go.Proofs.YtecfjdladcmhjaaDoor
open Go.RowKit

def slantS (bs : List Bool) (W H : Nat) (n : Int) : Int := sqN (colI (grid W H (slantF bs W H n)) W H) W

set_option maxRecDepth 100000 in
set_option maxHeartbeats 1000000 in
theorem find1_any (p W H : Nat) (A : Option Addr) (an ac : Nat) (bs : List Bool) (P : Option Addr) (c : Nat) (n : Int) (w : World) (hp : Blk w p 24 #[.int .i64 W, .int .i64 H, .slice A an ac]) (hP : PtReads w P W (spotL bs (W * H))) (hW : 1 ≤ W ∧ W ≤ 4000) (hH : 1 ≤ H ∧ H ≤ 4000) (hbd : W * H ≤ 1048576) (hn : -256 ≤ n ∧ n ≤ 256) :
    Calls Tryd.prog 175 #[.slice P (spotL bs (W * H)).length c, .int .i64 n, .pointer (some ⟨p, 0, none⟩)] w fun e w' => e = .returned (.int .i64 (scoreI bs W H n)) ∧ Bl w w' := by
  have kp := hp.all3
  have hsl := spotL_lt bs (W * H)
  have hsn := spotL_len bs (W * H)
  have Hsl := Lib.hid hsl; have HP := Lib.hid hP
  have hsn2 : (spotL bs (W * H)).length ≤ 1048576 := by omega
  clear hsl hP hsn
  go_enter Tryd.func175, Tryd.ntmps175
  go_wp2_with fail
  refine (profile_any W H A an ac n (spotL bs (W * H)) P c w HP.out Hsl.out hsn2 hW hH hn).mono ?_
  rintro e w1 ⟨g, rfl, hg, hbk, hb1⟩
  have e : tabI (2 * H) (fun k => (((spotL bs (W * H)).countP (profK W H n k) : Nat) : Int)) = tabI (2 * H) (profI bs W H n) := tabI_congr fun k _ => prof_count bs W H n k
  rw [e] at hbk
  have Hr := Lib.hid hbk.tabReads
  clear e hbk
  go_wp2_with fail
  refine (squares_any (some ⟨g, 0, none⟩) (2 * H) (2 * H) (profI bs W H n) w1 Hr.out (by omega) (profI_bd hbd)).mono ?_
  rintro e w2 ⟨rfl, rfl⟩
  go_wp2_with fail
  go_ret
  exact ⟨rfl, hb1⟩

end Go.Proofs.YtecfjdladcmhjaaDoor
