/- bedref2.TextError of a right font. -/
import Derived.Test.YtkhajhcfplicpaaDoorS56

namespace Go.Proofs.YtkhajhcfplicpaaDoor
open Go.RowKit Go.Shelf

set_option maxRecDepth 100000 in
set_option maxHeartbeats 4000000 in
theorem textError_any (nm : List UInt8) (ht gap sp : Nat) (adl : Addr) (c : Nat) (ls : List Ltr) (t : List UInt8) (w : World) (hL : LtrsAt w (some adl) ls) (hR : Right ht gap sp ls) (htl : t.length ≤ 1048576) (hv : SubOk w) :
    Calls Tryd.prog 84 #[.agg #[.string ⟨nm.toArray⟩, .int .i64 ht, .int .i64 gap, .int .i64 sp, .slice (some adl) ls.length c], .string ⟨t.toArray⟩] w fun e w' => e = .returned (.int .i64 (textErr ls t)) ∧ Bl w w' := by
  let w2 := (w).alloc (.cells #[.string ⟨nm.toArray⟩, .int .i64 ht, .int .i64 gap, .int .i64 sp, .slice (some adl) ls.length c] 67)
  have w2b : Bl w w2 := (Bl.refl w).alloc _
  have w21 : Blk w2 (w.heap.size) 67 #[.string ⟨nm.toArray⟩, .int .i64 ht, .int .i64 gap, .int .i64 sp, .slice (some adl) ls.length c] := by
    have h0 := Blk.new (w) 67 #[.string ⟨nm.toArray⟩, .int .i64 ht, .int .i64 gap, .int .i64 sp, .slice (some adl) ls.length c]
    exact h0
  have HL := Lib.hid (hL.bl w2b); have HR := Lib.hid hR
  have HV := Lib.hid (hv.bl w2b)
  have hct := contains_any t [32, 32] w2 (by omega) (hv.bl w2b)
  have hhp := hasPrefix_any t [32] w2
  have hhs := hasSuffix_any t [32] w2 (by omega)
  have Hct := Lib.hid hct; have Hhp := Lib.hid hhp; have Hhs := Lib.hid hhs
  have hsz : (⟨t.toArray⟩ : ByteArray).size = t.length := Lib.size_mk t
  clear hL hR hv hct hhp hhs
  go_enter Tryd.func84, Tryd.ntmps84
  go_upto_region 1 with fail
  have hem : t.isEmpty = decide (t = []) := by cases t <;> rfl
  have HEm := Lib.hid hem
  have HLn := Lib.hid (show decide (200 < t.length) = decide ((200 : Int) < (t.length : Int)) by rw [decide_eq_decide]; omega)
  clear hem
  go_cut [5] from 8 to 27 (fun s5 wc => s5 = .int .i64 (lineErr t) ∧ Bl w2 wc)
  case first =>
    go_wp2_with fail
    refine (when_any _ _ _).mono ?_
    rintro e w' ⟨rfl, rfl⟩
    go_wp2_with fail
    refine (when_any _ _ _).mono ?_
    rintro e w' ⟨rfl, rfl⟩
    cases hp : Lib.hasPrefix t [32]
    · cases hs : Lib.hasSuffix t [32]
      · have HFb := Lib.hid (show formB t = Lib.contains t [32, 32] by unfold formB; rw [hp, hs]; rfl)
        have HP := Lib.hid hp; have HS := Lib.hid hs
        clear hp hs
        go_wp2_with fail
        refine Hhp.out.mono ?_
        rintro e w' ⟨rfl, rfl⟩
        rw [HP.out]
        go_wp2_with fail
        refine Hhs.out.mono ?_
        rintro e w' ⟨rfl, rfl⟩
        rw [HS.out]
        go_wp2_with fail
        refine Hct.out.mono ?_
        rintro e w' ⟨rfl, rfl⟩
        go_wp2_with fail
        refine (when_any _ _ _).mono ?_
        rintro e w' ⟨rfl, rfl⟩
        go_wp2_with fail
        refine (first3_any _ _ _ _ _ (Blk.new _ _ _)).mono ?_
        rintro e w' ⟨rfl, rfl⟩
        go_wp2_with fail
        go_meet
        case rel => exact ⟨by unfold lineErr; rw [HFb.out, ← HEm.out, HLn.out], (Bl.refl _).alloc _⟩
      · have HFb := Lib.hid (show formB t = true by unfold formB; rw [hp, hs]; rfl)
        have HP := Lib.hid hp; have HS := Lib.hid hs
        clear hp hs
        go_wp2_with fail
        refine Hhp.out.mono ?_
        rintro e w' ⟨rfl, rfl⟩
        rw [HP.out]
        go_wp2_with fail
        refine Hhs.out.mono ?_
        rintro e w' ⟨rfl, rfl⟩
        rw [HS.out]
        go_wp2_with fail
        refine (when_any _ _ _).mono ?_
        rintro e w' ⟨rfl, rfl⟩
        go_wp2_with fail
        refine (first3_any _ _ _ _ _ (Blk.new _ _ _)).mono ?_
        rintro e w' ⟨rfl, rfl⟩
        go_wp2_with fail
        go_meet
        case rel => exact ⟨by unfold lineErr; rw [HFb.out, ← HEm.out, HLn.out], (Bl.refl _).alloc _⟩
    · have HFb := Lib.hid (show formB t = true by unfold formB; rw [hp]; rfl)
      have HP := Lib.hid hp
      clear hp
      go_wp2_with fail
      refine Hhp.out.mono ?_
      rintro e w' ⟨rfl, rfl⟩
      rw [HP.out]
      go_wp2_with fail
      refine (when_any _ _ _).mono ?_
      rintro e w' ⟨rfl, rfl⟩
      go_wp2_with fail
      refine (first3_any _ _ _ _ _ (Blk.new _ _ _)).mono ?_
      rintro e w' ⟨rfl, rfl⟩
      go_wp2_with fail
      go_meet
      case rel => exact ⟨by unfold lineErr; rw [HFb.out, ← HEm.out, HLn.out], (Bl.refl _).alloc _⟩
  case rest =>
    obtain ⟨rfl, hbc⟩ := hcut
    rename World => w3
    have k1 := (w21.bl hbc).all5
    have hs := spelledOf_any nm ht gap sp adl c ls t w3 (HL.out.bl hbc) HR.out.texts HR.out.many.2 htl
    have Hs := Lib.hid hs
    clear hs
    go_wp2_with fail
    refine Hs.out.mono ?_
    rintro e w4 ⟨R, m, d, rfl, -, hb4⟩
    obtain ⟨is, his⟩ : ∃ b, b = (spelt ls t).isSome := ⟨_, rfl⟩
    have HIs := Lib.hid (show textErr ls t = firstNZ [lineErr t, whenI (!is) 10] by rw [his]; rfl)
    rw [← his]
    clear his k1 Hs
    go_wp2_with fail
    refine (when_any _ _ _).mono ?_
    rintro e w' ⟨rfl, rfl⟩
    go_wp2_with fail
    refine (first2_any _ _ _ _ (Blk.new _ _ _)).mono ?_
    rintro e w' ⟨rfl, rfl⟩
    go_wp2_with fail
    go_ret
    exact ⟨ret_int HIs.out.symm, w2b.trans (hbc.trans (hb4.alloc _))⟩

end Go.Proofs.YtkhajhcfplicpaaDoor
