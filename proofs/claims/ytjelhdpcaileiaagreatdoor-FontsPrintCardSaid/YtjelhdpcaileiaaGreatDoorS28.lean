/- glyph.Parse's closure: the next line of the text. -/
import Derived.Test.YtjelhdpcaileiaaGreatDoorS25
import Derived.Test.YtjelhdpcaileiaaGreatDoorS27

namespace Go.Proofs.YtjelhdpcaileiaaGreatDoor
open Go.RowKit Go.Shelf

theorem Blk.one {w : World} {g : Nat} {t : TypeId} {x y : Value} (h : Blk w g t #[x]) : Blk (w.setCell ⟨g, 0, none⟩ y) g t #[y] := by
  have := h.set_ 0 y
  simpa using this
/-- What the closure 'next' does: it answers the line and leaves what is behind it in the text's box. -/
def NextRes (g : Nat) (t : List UInt8) (w : World) (e : Ending) (w' : World) : Prop :=
  ∃ wx, e = .returned (.tuple #[.string ⟨(Lib.cut t [10]).1.toArray⟩, .bool (Lib.cut t [10]).2.2]) ∧ Bl w wx ∧ w' = wx.setCell ⟨g, 0, none⟩ (.string ⟨(Lib.cut t [10]).2.1.toArray⟩)

set_option maxRecDepth 100000 in
set_option maxHeartbeats 1000000 in
theorem next_any (g : Nat) (t : List UInt8) (w : World) (hb : Blk w g 9 #[.string ⟨t.toArray⟩]) (hl : t.length ≤ 1048576) (hC : CutOk w) :
    Calls Tryz.prog 80 #[.pointer (some ⟨g, 0, none⟩)] w (NextRes g t w) := by
  obtain ⟨l, hll⟩ : ∃ x, x = (Lib.cut t [10]).1 := ⟨_, rfl⟩
  obtain ⟨r, hrr⟩ : ∃ x, x = (Lib.cut t [10]).2.1 := ⟨_, rfl⟩
  obtain ⟨b, hbb⟩ : ∃ x, x = (Lib.cut t [10]).2.2 := ⟨_, rfl⟩
  have C := Lib.hid (show Calls Tryz.prog 81 #[.string ⟨t.toArray⟩, .string ⟨#[10]⟩] w (fun e w' => e = .returned (.tuple #[.string ⟨l.toArray⟩, .string ⟨r.toArray⟩, .bool b]) ∧ Bl w w') from by
    rw [hll, hrr, hbb]; exact cutS_any t 10 w (by omega) hC)
  have k1 := hb.all1
  have HB := Lib.hid hb
  unfold NextRes
  rw [← hll, ← hrr, ← hbb]
  clear hll hrr hbb hb hC
  go_enter Tryz.func80, Tryz.ntmps80
  go_wp2_with (go_at_call 81; refine C.out.mono ?_; rintro e w2 ⟨rfl, hb2⟩; refine Hid.out ?_)
  refine Lib.hid ?_
  have k2 := (HB.out.bl hb2).all1
  clear k1
  go_wp2_with fail
  go_ret2
  exact ⟨w2, rfl, hb2, rfl⟩
end Go.Proofs.YtjelhdpcaileiaaGreatDoor
