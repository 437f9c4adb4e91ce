/- The law FontsPrint answers true. -/
import Derived.Test.YtjelhdpcaileiaaGreatDoorS37
import Derived.Test.YtjelhdpcaileiaaGreatDoorS14
import Derived.Shelf.Strings.Count

namespace Go.Proofs
open Go.Shelf
def Tryz.laysCntF_ren : Go.Shelf.Ren := ⟨fun | 138 => 25 | 195 => 88 | 218 => 89 | 143 => 90 | 219 => 160 | 217 => 131 | 225 => 235 | 224 => 236 | 267 => 237 | 266 => 219 | 314 => 306 | n => n, fun | 9 => 9 | 3 => 3 | 4 => 4 | 5 => 5 | 0 => 0 | 46 => 41 | 146 => 268 | 51 => 267 | n => n, fun | 1 => 0 | n => n⟩
theorem Tryz.laysCntF : Go.Proofs.Lays.n138 Tryz.prog Tryz.laysCntF_ren := {
  mixed := by kernel_rfl
  f138 := Tryz.func25.trans (congrArg some (by kernel_rfl))
  f143 := Tryz.func90.trans (congrArg some (by kernel_rfl))
  f195 := Tryz.func88.trans (congrArg some (by kernel_rfl))
  f217 := Tryz.func131.trans (congrArg some (by kernel_rfl))
  f218 := Tryz.func89.trans (congrArg some (by kernel_rfl))
  f219 := Tryz.func160.trans (congrArg some (by kernel_rfl))
  f224 := Tryz.func236.trans (congrArg some (by kernel_rfl))
  f225 := Tryz.func235.trans (congrArg some (by kernel_rfl))
  f266 := Tryz.func219.trans (congrArg some (by kernel_rfl))
  f267 := Tryz.func237.trans (congrArg some (by kernel_rfl))
  f314 := Tryz.func306.trans (congrArg some (by kernel_rfl))
  t0 := Tryz.underlying0
  a0 := Tryz.isAgg0
  z0 := Tryz.sizeOf0
  v0 := Tryz.zeroValue0
  t3 := Tryz.underlying3
  a3 := Tryz.isAgg3
  z3 := Tryz.sizeOf3
  v3 := Tryz.zeroValue3
  t4 := Tryz.underlying4
  a4 := Tryz.isAgg4
  z4 := Tryz.sizeOf4
  v4 := Tryz.zeroValue4
  t5 := Tryz.underlying5
  a5 := Tryz.isAgg5
  z5 := Tryz.sizeOf5
  v5 := Tryz.zeroValue5
  t9 := Tryz.underlying9
  a9 := Tryz.isAgg9
  z9 := Tryz.sizeOf9
  v9 := Tryz.zeroValue9
  t46 := Tryz.underlying41
  a46 := Tryz.isAgg41
  z46 := Tryz.sizeOf41
  v46 := Tryz.zeroValue41
  t51 := Tryz.underlying267
  a51 := Tryz.isAgg267
  z51 := Tryz.sizeOf267
  v51 := Tryz.zeroValue267
  t146 := Tryz.underlying268
  a146 := Tryz.isAgg268
  z146 := Tryz.sizeOf268
  v146 := Tryz.zeroValue268
  g1 := by kernel_rfl }

end Go.Proofs
namespace Go.Proofs.YtjelhdpcaileiaaGreatDoor
open Go.RowKit Go.Shelf

theorem cntF_any (l : List UInt8) (c : UInt8) (w : World) : Calls Tryz.prog 25 #[.string ⟨l.toArray⟩, .string ⟨#[c]⟩] w fun e w' => e = .returned (.int .i64 (l.count c : Nat)) ∧ w = w' := by
  have h := Any.strings_Count_one Tryz.laysCntF ⟨l.toArray⟩ c w
  refine Calls.mono (R := fun e w' => e = .returned (.int .i64 (Lib.countByte l c)) ∧ w' = w) h ?_
  rintro e w' ⟨rfl, rfl⟩
  exact ⟨rfl, rfl⟩
theorem ltrTx_face {a b : Ltr} (h : a.face = b.face) : ltrTx a = ltrTx b := by
  unfold Ltr.face at h
  simp only [Prod.mk.injEq] at h
  obtain ⟨h1, h2, h3, -, h5⟩ := h
  unfold ltrTx
  rw [h1, h2, h3, h5]
theorem ltrsTx_face : ∀ {a b : List Ltr}, a.map Ltr.face = b.map Ltr.face → ltrsTx a = ltrsTx b
  | [], [], _ => rfl
  | [], _ :: _, h => by cases h
  | _ :: _, [], h => by cases h
  | x :: a, y :: b, h => by
    rw [List.map_cons, List.map_cons] at h
    injection h with h1 h2
    show ltrTx x ++ ltrsTx a = ltrTx y ++ ltrsTx b
    rw [ltrTx_face h1, ltrsTx_face h2]
theorem fontTx_face {nm : List UInt8} {x y z : Nat} {a b : List Ltr} (h : a.map Ltr.face = b.map Ltr.face) : fontTx nm x y z a = fontTx nm x y z b := by
  unfold fontTx
  rw [ltrsTx_face h]
theorem face_nil {a : List Ltr} (h : a.map Ltr.face = ([] : List Ltr).map Ltr.face) : a = [] := by
  cases a with
  | nil => rfl
  | cons _ _ => cases h
theorem reads_bits {w : World} {l : Ltr} (h : Reads w 1 l.A l.m (l.bs.map .bool)) : l.bs.length = l.m := by
  have := h.1
  simpa using this
end Go.Proofs.YtjelhdpcaileiaaGreatDoor


/-! The law FontsPrint answers true. -/
namespace Go.Proofs.YtjelhdpcaileiaaGreatDoor
open Go.RowKit Go.Shelf

set_option maxRecDepth 100000 in
set_option maxHeartbeats 8000000 in
theorem lawFP_any (nm : List UInt8) (ht gap sp : Int) (L : Option Addr) (c : Nat) (ls : List Ltr) (t : List UInt8) (w : World) (hL : LtrsAt w L ls) (hnm : nm.length ≤ 9223372036854775807) (hn : ls.length ≤ 9223372036854775807) (hc : ls.length ≤ c) (ht63 : t.length ≤ 9223372036854775807) (hN : NumOk w) (hC : CutOk w) :
    Calls Tryz.prog 4 #[.agg #[.string ⟨nm.toArray⟩, .int .i64 ht, .int .i64 gap, .int .i64 sp, .slice L ls.length c], .string ⟨t.toArray⟩] w fun e w' => e = .returned (.bool true) ∧ Bl w w' := by
  let w1 := (w).alloc (.cells #[.string ⟨nm.toArray⟩, .int .i64 ht, .int .i64 gap, .int .i64 sp, .slice L ls.length c] 45)
  have w1b : Bl w w1 := (Bl.refl w).alloc _
  have w11 : Blk w1 (w.heap.size) 45 #[.string ⟨nm.toArray⟩, .int .i64 ht, .int .i64 gap, .int .i64 sp, .slice L ls.length c] := by
    have h0 := Blk.new (w) 45 #[.string ⟨nm.toArray⟩, .int .i64 ht, .int .i64 gap, .int .i64 sp, .slice L ls.length c]
    exact h0
  have HL := Lib.hid (hL.bl w1b); have HN := Lib.hid (hN.bl w1b); have HC := Lib.hid (hC.bl w1b)
  have k1 := w11.all5
  obtain ⟨fe, hfe⟩ : ∃ x, x = fontErr (nameB nm) ht gap sp ls := ⟨_, rfl⟩
  have hP := fprint_any nm ht gap sp L c ls w1 (hL.bl w1b) hnm hn (hN.bl w1b)
  unfold FPrint at hP
  have hE := fun wx (hx : Bl w1 wx) => fontError_any nm ht gap sp L c ls wx ((hL.bl w1b).bl hx) hnm hn hc
  rw [← hfe] at hP hE
  have Hfe := Lib.hid hfe; have HP := Lib.hid hP; have HE := Lib.hid hE
  clear hL hN hC hfe hP hE
  go_enter Tryz.func4, Tryz.ntmps4
  go_wp2_with fail
  refine HP.out.mono ?_
  rintro e w2 ⟨s, rfl, hs1, hs0, hb2⟩
  have k2 := (w11.bl hb2).all5
  clear k1
  have Hs1 := Lib.hid hs1; have Hs0 := Lib.hid hs0
  clear hs1 hs0
  go_wp2_with fail
  refine (HE.out _ hb2).mono ?_
  rintro e w3 ⟨rfl, hb23⟩
  have hb3 := hb2.trans hb23
  have k3 := (w11.bl hb3).all5
  clear k2 hb2 hb23
  clear_value w1
  by_cases hz : fe = 0
  case neg =>
    obtain rfl := Hs1.out hz
    have hq : (fe == 0) = false := by simp [hz]
    have hq2 : (fe != 0) = true := by simp [hz]
    clear hz
    go_wp2_with fail
    refine (glyphs_any _).mono ?_
    rintro e w4 ⟨rfl, hb34⟩
    have hb4 := hb3.trans hb34
    have Hb4 := Lib.hid hb4
    clear k3 hb3 hb34
    go_upto_region 11 with fail
    have hpt := fparse_any t w4 (HN.out.bl Hb4.out) (HC.out.bl Hb4.out) ht63
    unfold FParse at hpt
    have Hpt := Lib.hid hpt
    clear hpt
    go_wp2_with fail
    refine Hpt.out.mono ?_
    rintro e wp ⟨nm2, a2, b2, c2, ls2, lz, L2, cc2, k2', err, rfl, hfo, hfc, hL2, hcc, hbp⟩
    have hbt := Hb4.out.trans hbp
    have HL2 := Lib.hid hL2; have HFo := Lib.hid hfo; have HFc := Lib.hid hfc; have Hbt := Lib.hid hbt
    have HN2 := Lib.hid (HN.out.bl hbt)
    clear hL2 hfo hfc hbp Hpt hbt
    go_upto_region 12 with fail
    obtain ⟨wq, hwq⟩ : ∃ x, x = wp.alloc (.cells #[.string ⟨nm2.toArray⟩, .int .i64 a2, .int .i64 b2, .int .i64 c2, .slice L2 ls2.length cc2] 45) := ⟨_, rfl⟩
    have bq : Blk wq wp.heap.size 45 #[.string ⟨nm2.toArray⟩, .int .i64 a2, .int .i64 b2, .int .i64 c2, .slice L2 ls2.length cc2] := by rw [hwq]; exact Blk.new _ _ _
    have hbq : Bl wp wq := by rw [hwq]; exact (Bl.refl _).alloc _
    rw [← hwq]
    have HLq := Lib.hid (HL2.out.bl hbq); have HNq := Lib.hid (HN2.out.bl hbq); have Hbq := Lib.hid (Hbt.out.trans hbq)
    have kq := bq.all5
    have Bq := Lib.hid bq
    clear hwq hbq bq
    by_cases he : err = 0
    case pos =>
      subst he
      obtain ⟨hk0, hfe2, htx2, htl⟩ := fontOf_ok HFo.out
      subst hk0
      have hfe3 : fontErr (nameB nm2) a2 b2 c2 ls2 = 0 := (fontErr_key (keys_eq HFc.out)).trans hfe2
      have htx3 : fontTx nm2 a2 b2 c2 ls2 = t := (fontTx_face HFc.out).trans htx2
      obtain ⟨h', g', s', e1, e2, e3, -, hfit2⟩ := fontFit_of hfe3
      have e1' : h' = a2 := by omega
      have e2' : g' = b2 := by omega
      have e3' : s' = c2 := by omega
      subst e1' e2' e3'
      have hE := fun wx (hx : Bl wq wx) => fontError_any nm2 h' g' s' L2 cc2 ls2 wx (HLq.out.bl hx) (by have := hfit2.bnm; omega) (by have := hfit2.bn; omega) hcc
      rw [hfe3] at hE
      have hT := fun wx (hx : Bl wq wx) => fontText_any nm2 h' g' s' L2 cc2 ls2 wx (HLq.out.bl hx) hfit2 (HNq.out.bl hx)
      rw [htx3] at hT
      have HE := Lib.hid hE; have HT := Lib.hid hT
      clear hE hT hfe2 htx2 htl hfe3 htx3 e1 e2 e3 hfit2
      go_wp2_with fail
      refine (HE.out _ (Bl.refl _)).mono ?_
      rintro e wr ⟨rfl, hbr⟩
      have kr := (Bq.out.bl hbr).all5
      clear kq
      go_wp2_with fail
      refine (HT.out _ hbr).mono ?_
      rintro e ws ⟨rfl, hbs⟩
      go_wp2_with fail
      go_ret
      exact ⟨by simp, w1b.trans (Hbq.out.trans (hbr.trans hbs))⟩
    case neg =>
      obtain ⟨⟨rfl, rfl, rfl, rfl, rfl⟩, hkc, h80⟩ := fontOf_bad HFo.out he
      have hl2 := face_nil HFc.out
      subst hl2
      have hq : (err == 0) = false := by simp [he]
      have hS := fun wx (hx : Bl wq wx) => sameFont_any ⟨#[]⟩ 0 0 0 L2 none cc2 0 [] [] wx rfl (HLq.out.bl hx) (LtrsAt.none _) (by decide) (fun l hl => by cases hl)
      have HS := Lib.hid hS
      have hcl : t.count 10 ≤ t.length := List.count_le_length
      clear hS he
      have hin : inB (k2' : Nat) 0 (t.count 10 : Nat) = true := inB_true.2 ⟨by omega, by omega⟩
      have Hin := Lib.hid hin
      clear hin
      by_cases h8 : err = 8
      · subst h8
        go_wp2_with fail
        refine (HS.out _ (Bl.refl _)).mono ?_
        rintro e wr ⟨rfl, hbr⟩
        go_wp2_with fail
        refine (cntF_any t 10 _).mono ?_
        rintro e w' ⟨rfl, rfl⟩
        go_wp2_with fail
        refine (in_any _ _ _ _).mono ?_
        rintro e w' ⟨rfl, rfl⟩
        rw [Hin.out]
        go_wp2_with fail
        go_ret
        exact ⟨by simp, w1b.trans (Hbq.out.trans hbr)⟩
      · have hk0 : k2' = 0 := h80.resolve_left h8
        subst hk0
        have hq8 : (err == 8) = false := by simp [h8]
        clear h8 h80
        go_wp2_with fail
        refine (HS.out _ (Bl.refl _)).mono ?_
        rintro e wr ⟨rfl, hbr⟩
        go_wp2_with fail
        refine (cntF_any t 10 _).mono ?_
        rintro e w' ⟨rfl, rfl⟩
        go_wp2_with fail
        refine (in_any _ _ _ _).mono ?_
        rintro e w' ⟨rfl, rfl⟩
        rw [show inB 0 0 ((t.count 10 : Nat) : Int) = true from Hin.out]
        go_wp2_with fail
        go_ret
        exact ⟨by simp, w1b.trans (Hbq.out.trans hbr)⟩
  case pos =>
    subst hz
    obtain rfl := Hs0.out rfl
    obtain ⟨h', g', s', rfl, rfl, rfl, h1, hfit⟩ := fontFit_of Hfe.out.symm
    simp only [Int.toNat_natCast]
    have hbn : ∀ l ∈ ls, l.bs.length = l.m := fun l hl => reads_bits (HL.out.2 l hl).1
    have hlen := fontTx_len hfit
    obtain ⟨hfo1, hfa1⟩ := fontOf_printed Hfe.out.symm hbn (by omega)
    have hm1 : ∀ l ∈ ls, l.m ≤ 1099511627776 := fun l hl => by
      obtain ⟨-, WW, -, -, x1, x2, x3, -⟩ := hfit.bl l hl
      have h4 := Nat.mul_le_mul x2 hfit.bht
      omega
    have hT := fun wx (hx : Bl w1 wx) => fontText_any nm h' g' s' L c ls wx (HL.out.bl hx) hfit (HN.out.bl hx)
    obtain ⟨tx, htx⟩ : ∃ x, x = fontTx nm h' g' s' ls := ⟨_, rfl⟩
    rw [← htx] at hlen hfo1 hT ⊢
    have hPr := fun wx (hx : Bl w1 wx) => fparse_any tx wx (HN.out.bl hx) (HC.out.bl hx) (by omega)
    unfold FParse at hPr
    have HT := Lib.hid hT; have HFo1 := Lib.hid hfo1; have HFa1 := Lib.hid hfa1; have HPr := Lib.hid hPr; have HM1 := Lib.hid hm1
    have hsz : (⟨tx.toArray⟩ : ByteArray).size = tx.length := Lib.size_mk tx
    have hq1 : ¬ (1048576 < (tx.length : Int)) := by omega
    have hln : ls.length ≤ 200 := hfit.bn
    clear hT hfo1 hfa1 hPr hm1 htx hfit hbn hlen
    go_wp2_with fail
    refine (HT.out _ hb3).mono ?_
    rintro e w4 ⟨rfl, hb34⟩
    have hb4 := hb3.trans hb34
    go_wp2_with fail
    refine (when_any _ _ _).mono ?_
    rintro e w' ⟨rfl, rfl⟩
    rw [show whenI (decide (1048576 < (tx.length : Int))) 4 = 0 by rw [decide_eq_false (by omega)]; rfl]
    go_wp2_with fail
    refine (glyphs_any _).mono ?_
    rintro e w5 ⟨rfl, hb45⟩
    have hb5 := hb4.trans hb45
    clear k3 hb3 hb34 hb4 hb45
    have k5 := (w11.bl hb5).all5
    go_wp2_with fail
    refine (HPr.out _ hb5).mono ?_
    rintro e w6 ⟨nm3, a3, b3, c3, ls3, lz3, L3, cc3, k3', err3, rfl, hfo3, hfc3, hL3, hcc3, hb56⟩
    rw [HFo1.out] at hfo3
    simp only [Prod.mk.injEq] at hfo3
    obtain ⟨rfl, rfl, rfl, rfl, rfl, rfl, rfl⟩ := hfo3
    have hb6 := hb5.trans hb56
    have hfc4 := (hfc3.trans HFa1.out).symm
    have HL3 := Lib.hid hL3; have HFc4 := Lib.hid hfc4; have Hb6 := Lib.hid hb6
    clear k5 hL3 hfc3 hfc4 hb5 hb56 hb6
    go_upto_region 9 with fail
    obtain ⟨w7, hw7⟩ : ∃ x, x = w6.alloc (.cells #[.string ⟨nm.toArray⟩, .int .i64 h', .int .i64 g', .int .i64 s', .slice L3 ls3.length cc3] 45) := ⟨_, rfl⟩
    have b7 : Blk w7 w6.heap.size 45 #[.string ⟨nm.toArray⟩, .int .i64 h', .int .i64 g', .int .i64 s', .slice L3 ls3.length cc3] := by rw [hw7]; exact Blk.new _ _ _
    have hb67 : Bl w6 w7 := by rw [hw7]; exact (Bl.refl _).alloc _
    rw [← hw7]
    have hb7 := Hb6.out.trans hb67
    have k7 := (w11.bl hb7).all5
    have B7 := Lib.hid b7; have HL7 := Lib.hid (HL3.out.bl hb67)
    clear hw7 b7 hb67
    go_wp2_with fail
    refine (HT.out _ hb7).mono ?_
    rintro e w8 ⟨rfl, hb78⟩
    have hb8 := hb7.trans hb78
    have k8 := (w11.bl hb8).all5
    have k8' := (B7.out.bl hb78).all5
    have HL8 := Lib.hid (HL7.out.bl hb78)
    have Hb8 := Lib.hid hb8
    clear k7 hb7 hb78 hb8
    go_wp2_with fail
    refine (sameFont_any ⟨nm.toArray⟩ h' g' s' L L3 c cc3 ls ls3 w8 HFc4.out (HL.out.bl Hb8.out) HL8.out (by omega) HM1.out).mono ?_
    rintro e w9 ⟨rfl, hb89⟩
    have Hb9 := Lib.hid (Hb8.out.trans hb89)
    clear k8 k8' hb89
    go_upto_region 11 with fail
    have hpt := fparse_any t w9 (HN.out.bl Hb9.out) (HC.out.bl Hb9.out) ht63
    unfold FParse at hpt
    have Hpt := Lib.hid hpt
    clear hpt
    go_wp2_with fail
    refine Hpt.out.mono ?_
    rintro e wp ⟨nm2, a2, b2, c2, ls2, lz, L2, cc2, k2', err, rfl, hfo, hfc, hL2, hcc, hbp⟩
    have hbt := Hb9.out.trans hbp
    have HL2 := Lib.hid hL2; have HFo := Lib.hid hfo; have HFc := Lib.hid hfc; have Hbt := Lib.hid hbt
    have HN2 := Lib.hid (HN.out.bl hbt)
    clear hL2 hfo hfc hbp Hpt hbt
    go_upto_region 12 with fail
    obtain ⟨wq, hwq⟩ : ∃ x, x = wp.alloc (.cells #[.string ⟨nm2.toArray⟩, .int .i64 a2, .int .i64 b2, .int .i64 c2, .slice L2 ls2.length cc2] 45) := ⟨_, rfl⟩
    have bq : Blk wq wp.heap.size 45 #[.string ⟨nm2.toArray⟩, .int .i64 a2, .int .i64 b2, .int .i64 c2, .slice L2 ls2.length cc2] := by rw [hwq]; exact Blk.new _ _ _
    have hbq : Bl wp wq := by rw [hwq]; exact (Bl.refl _).alloc _
    rw [← hwq]
    have HLq := Lib.hid (HL2.out.bl hbq); have HNq := Lib.hid (HN2.out.bl hbq); have Hbq := Lib.hid (Hbt.out.trans hbq)
    have kq := bq.all5
    have Bq := Lib.hid bq
    clear hwq hbq bq
    by_cases he : err = 0
    case pos =>
      subst he
      obtain ⟨hk0, hfe2, htx2, htl⟩ := fontOf_ok HFo.out
      subst hk0
      have hfe3 : fontErr (nameB nm2) a2 b2 c2 ls2 = 0 := (fontErr_key (keys_eq HFc.out)).trans hfe2
      have htx3 : fontTx nm2 a2 b2 c2 ls2 = t := (fontTx_face HFc.out).trans htx2
      obtain ⟨h', g', s', e1, e2, e3, -, hfit2⟩ := fontFit_of hfe3
      have e1' : h' = a2 := by omega
      have e2' : g' = b2 := by omega
      have e3' : s' = c2 := by omega
      subst e1' e2' e3'
      have hE := fun wx (hx : Bl wq wx) => fontError_any nm2 h' g' s' L2 cc2 ls2 wx (HLq.out.bl hx) (by have := hfit2.bnm; omega) (by have := hfit2.bn; omega) hcc
      rw [hfe3] at hE
      have hT := fun wx (hx : Bl wq wx) => fontText_any nm2 h' g' s' L2 cc2 ls2 wx (HLq.out.bl hx) hfit2 (HNq.out.bl hx)
      rw [htx3] at hT
      have HE := Lib.hid hE; have HT := Lib.hid hT
      clear hE hT hfe2 htx2 htl hfe3 htx3 e1 e2 e3 hfit2
      go_wp2_with fail
      refine (HE.out _ (Bl.refl _)).mono ?_
      rintro e wr ⟨rfl, hbr⟩
      have kr := (Bq.out.bl hbr).all5
      clear kq
      go_wp2_with fail
      refine (HT.out _ hbr).mono ?_
      rintro e ws ⟨rfl, hbs⟩
      go_wp2_with fail
      go_ret
      exact ⟨by simp, w1b.trans (Hbq.out.trans (hbr.trans hbs))⟩
    case neg =>
      obtain ⟨⟨rfl, rfl, rfl, rfl, rfl⟩, hkc, h80⟩ := fontOf_bad HFo.out he
      have hl2 := face_nil HFc.out
      subst hl2
      have hq : (err == 0) = false := by simp [he]
      have hS := fun wx (hx : Bl wq wx) => sameFont_any ⟨#[]⟩ 0 0 0 L2 none cc2 0 [] [] wx rfl (HLq.out.bl hx) (LtrsAt.none _) (by decide) (fun l hl => by cases hl)
      have HS := Lib.hid hS
      have hcl : t.count 10 ≤ t.length := List.count_le_length
      clear hS he
      have hin : inB (k2' : Nat) 0 (t.count 10 : Nat) = true := inB_true.2 ⟨by omega, by omega⟩
      have Hin := Lib.hid hin
      clear hin
      by_cases h8 : err = 8
      · subst h8
        go_wp2_with fail
        refine (HS.out _ (Bl.refl _)).mono ?_
        rintro e wr ⟨rfl, hbr⟩
        go_wp2_with fail
        refine (cntF_any t 10 _).mono ?_
        rintro e w' ⟨rfl, rfl⟩
        go_wp2_with fail
        refine (in_any _ _ _ _).mono ?_
        rintro e w' ⟨rfl, rfl⟩
        rw [Hin.out]
        go_wp2_with fail
        go_ret
        exact ⟨by simp, w1b.trans (Hbq.out.trans hbr)⟩
      · have hk0 : k2' = 0 := h80.resolve_left h8
        subst hk0
        have hq8 : (err == 8) = false := by simp [h8]
        clear h8 h80
        go_wp2_with fail
        refine (HS.out _ (Bl.refl _)).mono ?_
        rintro e wr ⟨rfl, hbr⟩
        go_wp2_with fail
        refine (cntF_any t 10 _).mono ?_
        rintro e w' ⟨rfl, rfl⟩
        go_wp2_with fail
        refine (in_any _ _ _ _).mono ?_
        rintro e w' ⟨rfl, rfl⟩
        rw [show inB 0 0 ((t.count 10 : Nat) : Int) = true from Hin.out]
        go_wp2_with fail
        go_ret
        exact ⟨by simp, w1b.trans (Hbq.out.trans hbr)⟩
end Go.Proofs.YtjelhdpcaileiaaGreatDoor
