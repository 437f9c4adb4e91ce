/- bedref2.Printed: a page as a text. -/
import Derived.Test.YtjelhdpcaileiaaGreatDoorS7
import Derived.Test.YtjelhdpcaileiaaGreatDoorS1
import Derived.Test.YtjelhdpcaileiaaGreatDoorS30

namespace Go.Proofs.YtjelhdpcaileiaaGreatDoor
open Go.RowKit Go.Shelf

set_option maxRecDepth 100000 in
set_option maxHeartbeats 4000000 in
theorem printed_any (W H : Nat) (A : Option Addr) (ac : Nat) (bs : List Bool) (w : World) (hA : Reads w 1 A (W * H) (bs.map .bool)) (hW : W ≤ 200) (hH : H ≤ 200) :
    Calls Tryz.prog 79 #[.agg #[.int .i64 W, .int .i64 H, .slice A (W * H) ac]] w fun e w' => e = .returned (.string ⟨(prL bs W H).toArray⟩) ∧ Bl w w' := by
  let w2 := (w).alloc (.cells #[.int .i64 W, .int .i64 H, .slice A (W * H) ac] 28)
  have w2b : Bl w w2 := (Bl.refl w).alloc _
  have w21 : Blk w2 (w.heap.size) 28 #[.int .i64 W, .int .i64 H, .slice A (W * H) ac] := by
    have h0 := Blk.new (w) 28 #[.int .i64 W, .int .i64 H, .slice A (W * H) ac]
    exact h0
  have k1 := w21.all3
  have lw2 : w2.heap.size = w.heap.size + 1 := by simp [w2]
  have HA := Lib.hid (hA.bl w2b)
  have hi0 : Bui (w.heap.size + 1) (prL bs W 0) (w2.alloc (.cells #[.pointer none, .slice none 0 0] 115)) := by
    have h := builder_fresh w2
    rw [lw2] at h
    exact h
  have Hi0 := Lib.hid hi0
  clear hA hi0
  go_enter Tryz.func79, Tryz.ntmps79
  go_wp2_with fail
  go_loopw [8] (fun u wr => ∃ y : Nat, y ≤ H ∧ u = .int .i64 y ∧ Bl w2 wr ∧ Bui (w.heap.size + 1) (prL bs W y) wr) (fun u _ => H - (intOf u).toNat)
  case atStart => exact ⟨0, Nat.zero_le _, rfl, (Bl.refl _).alloc _, Hi0.out⟩
  case round =>
    obtain ⟨y, hy, rfl, hbr, hI⟩ := hrel
    clear k1
    have hpl := prL_len bs W y
    have hpm : y * (W + 1) ≤ 200 * 201 := Nat.mul_le_mul (by omega) (by omega)
    have Hpl := Lib.hid (show (prL bs W y).length ≤ 40200 by omega)
    clear hpl hpm
    by_cases hlt : y < H
    · have kb := (w21.bl hbr).all3
      have HB := Lib.hid hbr; have HI := Lib.hid hI
      clear hbr hI
      go_wp2_with fail
      go_loopw [13] (fun u wx => ∃ x : Nat, x ≤ W ∧ u = .int .i64 x ∧ Bl w2 wx ∧ Bui (w.heap.size + 1) (prL bs W y ++ rowTo bs W y x) wx) (fun u _ => W - (intOf u).toNat)
      case atStart => exact ⟨0, Nat.zero_le _, rfl, HB.out, by have h := HI.out; simpa [rowTo] using h⟩
      case round =>
        rename World => wx
        obtain ⟨x, hx, rfl, hbx, hIx⟩ := hrel
        clear kb HI
        have hlx : (prL bs W y ++ rowTo bs W y x).length ≤ 40400 := by rw [List.length_append, rowTo_len]; have := Hpl.out; omega
        have HLx := Lib.hid hlx; have HBx := Lib.hid hbx; have HIx := Lib.hid hIx
        have hsz : w.heap.size + 1 ≤ wx.heap.size := by have := hbx.le; omega
        have Hsz := Lib.hid hsz
        clear hlx hIx hsz
        by_cases hxl : x < W
        · have kx := (w21.bl hbx).all3
          have hat := at_any W H A ac bs x y
          have hai := atI_in bs W H x y hxl hlt
          have Hat := Lib.hid hat; have Hai := Lib.hid hai
          clear hbx hat hai
          go_wp2_with fail
          refine (Hat.out _ (HA.out.bl HBx.out) (by omega) (by omega)).mono ?_
          rintro e w4 ⟨rfl, hb4⟩
          rw [Hai.out]
          have HI4 := Lib.hid (builder_bl HIx.out hb4)
          have hs4 : w.heap.size + 1 ≤ w4.heap.size := by have := Hsz.out; have := hb4.le; omega
          have Hs4 := Lib.hid hs4; have Hb4 := Lib.hid hb4
          have HR := Lib.hid (rowTo_succ bs W y x)
          clear hs4 hb4 kx
          obtain ⟨v, hv⟩ : ∃ v, v = pix bs W x y := ⟨_, rfl⟩
          rw [← hv] at HR ⊢
          clear hv
          cases v
          · go_wp2_with fail
            refine (writeByte_any (w.heap.size + 1) (prL bs W y ++ rowTo bs W y x) 46 _ HI4.out (by have := HLx.out; omega) Hs4.out).mono ?_
            rintro e w5 ⟨rfl, hI5, hb5⟩
            have HI5 := Lib.hid hI5
            have Hb5 := Lib.hid ((HBx.out.trans Hb4.out).trans' lw2 hb5)
            clear hI5 hb5
            go_wp2_with fail
            exact ⟨⟨x + 1, hxl, by go_num, Hb5.out, by rw [HR.out, ← List.append_assoc]; exact HI5.out⟩, by simp [intOf]; omega⟩
          · go_wp2_with fail
            refine (writeByte_any (w.heap.size + 1) (prL bs W y ++ rowTo bs W y x) 35 _ HI4.out (by have := HLx.out; omega) Hs4.out).mono ?_
            rintro e w5 ⟨rfl, hI5, hb5⟩
            have HI5 := Lib.hid hI5
            have Hb5 := Lib.hid ((HBx.out.trans Hb4.out).trans' lw2 hb5)
            clear hI5 hb5
            go_wp2_with fail
            exact ⟨⟨x + 1, hxl, by go_num, Hb5.out, by rw [HR.out, ← List.append_assoc]; exact HI5.out⟩, by simp [intOf]; omega⟩
        · obtain rfl : x = W := by omega
          clear hbx
          go_wp2_with fail
          refine (writeByte_any (w.heap.size + 1) (prL bs x y ++ rowTo bs x y x) 10 _ HIx.out (by have := HLx.out; omega) Hsz.out).mono ?_
          rintro e w5 ⟨rfl, hI5, hb5⟩
          have HI5 := Lib.hid hI5
          have Hb5 := Lib.hid (HBx.out.trans' lw2 hb5)
          clear hI5 hb5
          go_wp2_with fail
          exact ⟨⟨y + 1, hlt, by go_num, Hb5.out, HI5.out⟩, by simp [intOf]; omega⟩
    · obtain rfl : y = H := by omega
      have HB := Lib.hid hbr; have HI := Lib.hid hI
      have hsz : w.heap.size + 1 ≤ wr.heap.size := by have := hbr.le; omega
      have Hsz := Lib.hid hsz
      have kb := (w21.bl hbr).all3
      clear hbr hI hsz
      go_wp2_with fail
      refine (builderString_any _ _ _ HI.out Hsz.out).mono ?_
      rintro e w5 ⟨rfl, hb5⟩
      have hbl5 : Bl w2 w5 := HB.out.trans' lw2 hb5
      go_wp2_with fail
      go_ret
      exact ⟨rfl, w2b.trans hbl5⟩

end Go.Proofs.YtjelhdpcaileiaaGreatDoor
