/- glyph.set. -/
import Derived.Test.YtkipcobpnecmhaaGreatDoorMClaimTopCodes1
import Derived.Test.YtkipcobpnecmhaaGreatDoorMClaimTopCodes12
import Derived.Test.YtkipcobpnecmhaaGreatDoorMClaimTopCodes2
import Derived.Test.YtkipcobpnecmhaaGreatDoorMClaimTopCodes4
import Derived.Test.YtkipcobpnecmhaaGreatDoorMClaimTopCodes0
import Derived.Lib.IndexMore
import Derived.Lib.Strings

namespace Go.Proofs.YtkipcobpnecmhaaGreatDoor
open Go.RowKit Go.Shelf

theorem bytes_at {t : List UInt8} {i : Nat} {b : UInt8} (h : t[i]? = some b) : ∃ hi : i < (⟨t.toArray⟩ : ByteArray).size, (⟨t.toArray⟩ : ByteArray)[i]'hi = b := by
  have hl := (List.getElem?_eq_some_iff.1 h).1
  have hi : i < (⟨t.toArray⟩ : ByteArray).size := by rw [Lib.size_mk]; exact hl
  exact ⟨hi, Option.some.inj ((Lib.getElem_mk t i hi).symm.trans h)⟩

end Go.Proofs.YtkipcobpnecmhaaGreatDoor


/-! glyph.set. -/
namespace Go.Proofs.YtkipcobpnecmhaaGreatDoor
open Go.RowKit Go.Shelf

set_option maxRecDepth 100000 in
set_option maxHeartbeats 400000 in
theorem blank_new (W H : Nat) (w : World) (hs : sizeErr W H = 0) :
    Calls Tryz.prog 9 #[.int .i64 W, .int .i64 H] w fun e w' =>
      ∃ g, e = .returned (.tuple #[.agg #[.int .i64 W, .int .i64 H, .slice (some ⟨g, 0, none⟩) (W * H) (W * H)], .int .i64 0]) ∧ w.heap.size ≤ g ∧ Blk w' g 4 (tabB (W * H) fun _ => false) ∧ Bl w w' := by
  have hz' := sizeErr_zero hs
  have hWH : (W : Int) * (H : Int) = ((W * H : Nat) : Int) := by simp
  have h1 : (0:Int) ≤ (W:Int) * (H:Int) := by omega
  have h2 : (W:Int) * (H:Int) ≤ 1048576 := by omega
  have hN : W * H ≤ 1048576 := by omega
  have hmk := run_make_row' (P := Tryz.prog) 26 4 (.bool false) 1 Tryz.underlying26 info_bool rfl .i64 .i64 (W * H) (by omega) (by omega)
  rw [← hWH] at hmk
  have hq : (sizeErr W H != 0) = false := by simp [hs]
  have HS := Lib.hid hs; have HWH := Lib.hid hWH
  clear hs hWH
  go_enter Tryz.func9, Tryz.ntmps9
  go_wp2_with (go_at_call 35; refine (checkSize_any _ _ _).mono ?_; rintro e w1 ⟨rfl, rfl⟩)
  rw [tabB_made]
  refine bodyPost_ret (v := .tuple #[.agg #[.int .i64 W, .int .i64 H, .slice (some ⟨w.heap.size + 1, 0, none⟩) (W * H) (W * H)], .int .i64 0]) (by simp [results, Tryz.results9, go_sem]) rfl ⟨_, rfl, ?_, ?_, ?_⟩
  · simp
  · have hb := Blk.new (w.alloc (.cells #[.int .i64 W, .int .i64 H, .slice (some ⟨w.heap.size + 1, 0, none⟩) (W * H) (W * H)] 28)) 4 (tabB (W * H) fun _ => false)
    simpa using hb
  · repeat' (first | exact Bl.refl _ | refine Bl.drew ?_ | refine Bl.setCell ?_ (by simp) _ | refine Bl.alloc ?_ _)


end Go.Proofs.YtkipcobpnecmhaaGreatDoor
