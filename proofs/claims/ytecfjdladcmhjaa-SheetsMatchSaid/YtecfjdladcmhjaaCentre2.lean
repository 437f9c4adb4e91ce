/- The law's function value on what is put in the middle; the errors of skew.Centre. -/
import Derived.Test.YtecfjdladcmhjaaCentre
namespace Go.Proofs.Ytecfjdladcmhjaa
open Go.RowKit

set_option maxRecDepth 100000 in
set_option maxHeartbeats 1000000 in
theorem sheets1_makes (p q r W H w' h' : Nat) (A : Option Addr) (ac : Nat) (bs : List Bool) (X Y BW BH : Nat) (w : World) (hp : Blk w p 27 #[.int .i64 W, .int .i64 H, .slice A (W * H) ac]) (hq : Blk w q 3 #[.int .i64 w']) (hr : Blk w r 3 #[.int .i64 h'])
    (hA : Reads w 1 A (W * H) (bs.map .bool)) (hW : W ≤ 4000) (hH : H ≤ 4000) (hw : w' ≤ 4000) (hh : h' ≤ 4000) (hb : BoundsIs bs W H true X Y BW BH) :
    MakesPage Try.prog 18 #[.pointer (some ⟨p, 0, none⟩), .pointer (some ⟨q, 0, none⟩), .pointer (some ⟨r, 0, none⟩)] w w' h' ((grid w' h' (centreF bs W X Y BW BH w' h')).map .bool) := by
  refine ⟨enters Try.func18 (by kernel_rfl) rfl, fun wx hx => ?_⟩
  have hb5 : Bl wx (wx.alloc (.cells #[.int .i64 0, .int .i64 0, .slice none 0 0] 27)) := (Bl.refl wx).alloc _
  have b5 := Blk.new wx 27 #[.int .i64 0, .int .i64 0, .slice none 0 0]
  have hxx := hx.trans hb5
  have k1 := (hp.bl hx).all3
  have k2 := (hq.bl hx).all1
  have k3 := (hr.bl hx).all1
  have l1 := (hp.bl hx).lt
  have l2 := (hq.bl hx).lt
  have l3 := (hr.bl hx).lt
  have hcall := centreOf_any W H w' h' A ac bs X Y BW BH (wx.alloc (.cells #[.int .i64 0, .int .i64 0, .slice none 0 0] 27)) (hA.bl hxx) hW hH hw hh hb
  have Hcall := Lib.hid hcall
  clear hcall hA hb
  go_enter Try.func18, Try.ntmps18
  go_wp2_with fail
  refine Hcall.out.mono ?_
  rintro e w6 ⟨R, rc, rfl, hR, hRn, hb6⟩
  have kr3 := (b5.bl hb6).all3
  have hle6 := hb5.trans hb6
  have hRn' : ∀ ad, R = some ad → wx.heap.size + 1 ≤ ad.block := fun ad h => by have := hRn ad h; simp at this; omega
  have HR := Lib.hid hR; have HRn := Lib.hid hRn'
  clear hR hRn hRn'
  go_wp2_with fail
  refine bodyPost_ret (v := .agg #[.int .i64 w', .int .i64 h', .slice R (w' * h') rc]) (by simp [results, Try.results18, go_sem, kr3]) rfl ⟨_, rfl, ⟨R, rc, rfl, ?_⟩, ?_⟩
  · exact ((HR.out.store HRn.out (by simp) _).store HRn.out (by simp) _).store HRn.out (by simp) _
  · exact ((hle6.setCell (by simp) _).setCell (by simp) _).setCell (by simp) _

end Go.Proofs.Ytecfjdladcmhjaa
