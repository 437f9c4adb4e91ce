/- bedref2.FontText: the text of a right font. -/
import Derived.Test.YtjelhdpcaileiaaGreatDoorS28
import Derived.Test.YtjelhdpcaileiaaGreatDoorS33
import Derived.Test.YtjelhdpcaileiaaGreatDoorS34
import Derived.Test.YtjelhdpcaileiaaGreatDoorS36
import Derived.Test.YtjelhdpcaileiaaGreatDoorS14
import Derived.Test.YtjelhdpcaileiaaGreatDoorS11
import Derived.Test.YtjelhdpcaileiaaGreatDoorS2

namespace Go.Proofs.YtjelhdpcaileiaaGreatDoor
open Go.RowKit Go.Shelf

/-! ### plain -/
theorem fontLine_eq (nm : List UInt8) (a b c : Nat) : fontLine nm a b c = fontK ++ 32 :: (nm ++ 32 :: (Lib.decDigits a ++ 32 :: (Lib.decDigits b ++ 32 :: Lib.decDigits c))) := rfl
theorem dec_len2 {n : Nat} (h : n ≤ 64) : (Lib.decDigits n).length ≤ 4 := dec_len (by omega)
/-- What is known of a right font. -/
structure FontFit (nm : List UInt8) (ht gap sp : Nat) (ls : List Ltr) : Prop where
  bnm : nm.length ≤ 40
  bht : ht ≤ 64
  bgap : gap ≤ 64
  bsp : sp ≤ 64
  bn : ls.length ≤ 200
  bl : ∀ l ∈ ls, l.text.length ≤ 4 ∧ ∃ W : Nat, l.W = (W : Int) ∧ l.H = (ht : Int) ∧ 1 ≤ W ∧ W ≤ 64 ∧ l.m = W * ht ∧ printErr l.W l.H l.m = 0
theorem fontFit_of {nm : List UInt8} {ht gap sp : Int} {ls : List Ltr} (h : fontErr (nameB nm) ht gap sp ls = 0) : ∃ h' g' s' : Nat, ht = (h' : Int) ∧ gap = (g' : Int) ∧ sp = (s' : Int) ∧ 1 ≤ h' ∧ FontFit nm h' g' s' ls := by
  obtain ⟨⟨hnm, hrg, hgs, hl0, hl2, h1, h2⟩, hl⟩ := fontErr_zero h
  have hrg2 : 1 ≤ gap ∧ gap ≤ 16 ∧ 1 ≤ sp ∧ sp ≤ 64 := by
    unfold rangeB at hrg
    simp only [Bool.and_eq_true] at hrg
    have h3 := inB_true.1 hrg.2.1
    have h4 := inB_true.1 hrg.2.2
    omega
  obtain ⟨h', rfl⟩ : ∃ n : Nat, ht = (n : Int) := ⟨ht.toNat, by omega⟩
  obtain ⟨g', rfl⟩ : ∃ n : Nat, gap = (n : Int) := ⟨gap.toNat, by omega⟩
  obtain ⟨s', rfl⟩ : ∃ n : Nat, sp = (n : Int) := ⟨sp.toNat, by omega⟩
  refine ⟨h', g', s', rfl, rfl, rfl, by omega, ?_, by omega, by omega, by omega, hl2, fun l hl' => ?_⟩
  · unfold nameB at hnm
    exact (of_decide_eq_true hnm).2.1
  · obtain ⟨a1, a2, a3, a4⟩ := hl l hl'
    obtain ⟨W, H, e1, e2, e3, -, -, -⟩ := page_nat a2
    have hsz := sizeErr_zero (pageErr_zero a2).1
    have hHt : H = h' := by rw [e2] at a3; omega
    have hW : W ≤ 64 := by omega
    refine ⟨?_, W, e1, a3, by omega, hW, by rw [e3, hHt], ?_⟩
    · unfold textB at a1
      simp only [Bool.and_eq_true, decide_eq_true_eq] at a1
      exact a1.2.2
    · unfold printErr
      rw [a2, decide_eq_false (by omega), decide_eq_false (by omega)]
      rfl
theorem ltrTx_len {nm : List UInt8} {ht gap sp : Nat} {ls : List Ltr} (h : FontFit nm ht gap sp ls) {l : Ltr} (hl : l ∈ ls) : (ltrTx l).length ≤ 4200 := by
  obtain ⟨h1, W, h2, h3, h4, h5, h6, -⟩ := h.bl l hl
  unfold ltrTx
  rw [List.length_append, List.length_append, List.length_cons, prL_len, h2, h3, Int.toNat_natCast, Int.toNat_natCast]
  have : ht * (W + 1) ≤ 64 * 65 := Nat.mul_le_mul h.bht (by omega)
  have h7 : letK.length = 7 := rfl
  omega
theorem ltrsTx_len (ls : List Ltr) (h : ∀ l ∈ ls, (ltrTx l).length ≤ 4200) : (ltrsTx ls).length ≤ ls.length * 4200 := by
  induction ls with
  | nil => exact Nat.zero_le _
  | cons l ls ih =>
    show (ltrTx l ++ ltrsTx ls).length ≤ (ls.length + 1) * 4200
    rw [List.length_append]
    have h1 := h l (by simp)
    have h2 := ih fun x hx => h x (List.mem_cons_of_mem _ hx)
    omega
theorem fontLine_len {nm : List UInt8} {ht gap sp : Nat} {ls : List Ltr} (h : FontFit nm ht gap sp ls) : (fontLine nm ht gap sp).length ≤ 100 := by
  rw [fontLine_eq]
  have h1 := dec_len2 h.bht
  have h2 := dec_len2 h.bgap
  have h3 := dec_len2 h.bsp
  have h4 := h.bnm
  have h5 : fontK.length = 4 := rfl
  simp only [List.length_append, List.length_cons]
  omega
theorem fontTx_take {nm : List UInt8} {ht gap sp : Nat} {ls : List Ltr} (h : FontFit nm ht gap sp ls) (i : Nat) : (fontTx nm ht gap sp (ls.take i)).length ≤ 900000 := by
  have h1 := fontLine_len h
  have h2 := ltrsTx_len (ls.take i) fun l hl => ltrTx_len h (List.mem_of_mem_take hl)
  have h3 : (ls.take i).length ≤ 200 := by rw [List.length_take]; have := h.bn; omega
  unfold fontTx
  rw [List.length_append, List.length_cons]
  omega
theorem fontTx_len {nm : List UInt8} {ht gap sp : Nat} {ls : List Ltr} (h : FontFit nm ht gap sp ls) : (fontTx nm ht gap sp ls).length ≤ 900000 := by
  have := fontTx_take h ls.length
  rwa [List.take_length] at this
end Go.Proofs.YtjelhdpcaileiaaGreatDoor


/-! glyph.Print: the walk. -/
namespace Go.Proofs.YtjelhdpcaileiaaGreatDoor
open Go.RowKit Go.Shelf

theorem Bl.trans2 {a w w' : World} {B : Nat} (h : Bl a w) (hle : a.heap.size ≤ B) (hb : Below B w w') : Bl a w' := Below.trans h (Below.mono hb hle)
def FPrint (fe : Int) (tx : List UInt8) (w : World) (e : Ending) (w' : World) : Prop :=
  ∃ s : ByteArray, e = .returned (.tuple #[.string s, .int .i64 fe]) ∧ (fe ≠ 0 → s = ⟨#[]⟩) ∧ (fe = 0 → s = ⟨tx.toArray⟩) ∧ Bl w w'

set_option maxRecDepth 100000 in
set_option maxHeartbeats 4000000 in
theorem fprint_any (nm : List UInt8) (ht gap sp : Int) (L : Option Addr) (c : Nat) (ls : List Ltr) (w : World) (hL : LtrsAt w L ls) (hnm : nm.length ≤ 9223372036854775807) (hn : ls.length ≤ 9223372036854775807) (hN : NumOk w) :
    Calls Tryz.prog 17 #[.agg #[.string ⟨nm.toArray⟩, .int .i64 ht, .int .i64 gap, .int .i64 sp, .slice L ls.length c]] w (FPrint (fontErr (nameB nm) ht gap sp ls) (fontTx nm ht.toNat gap.toNat sp.toNat ls) w) := by
  obtain ⟨NB, hNB⟩ : ∃ r : ByteArray, r = ⟨nm.toArray⟩ := ⟨_, rfl⟩
  have hck0 := fun w h => check_any nm ht gap sp L c ls w h hnm hn
  rw [← hNB] at hck0 ⊢
  let w1 := (w).alloc (.cells #[.string NB, .int .i64 ht, .int .i64 gap, .int .i64 sp, .slice L ls.length c] 45)
  have w1b : Bl w w1 := (Bl.refl w).alloc _
  have w11 : Blk w1 (w.heap.size) 45 #[.string NB, .int .i64 ht, .int .i64 gap, .int .i64 sp, .slice L ls.length c] := by
    have h0 := Blk.new (w) 45 #[.string NB, .int .i64 ht, .int .i64 gap, .int .i64 sp, .slice L ls.length c]
    exact h0
  have HL := Lib.hid (hL.bl w1b); have HN := Lib.hid (hN.bl w1b)
  obtain ⟨E, hE⟩ : ∃ E, E = fontErr (nameB nm) ht gap sp ls := ⟨_, rfl⟩
  have hck := hck0 w1 (hL.bl w1b)
  rw [← hE] at hck ⊢
  have Hck := Lib.hid hck; have HE := Lib.hid hE
  have k1 := w11.all5
  have lw1 : w1.heap.size = w.heap.size + 1 := by simp [w1]
  clear hL hN hck hE hck0
  by_cases he : E = 0
  · have hq : (E != 0) = false := by simp [he]
    obtain ⟨h', g', s', rfl, rfl, rfl, h1, hfit⟩ := fontFit_of (HE.out.symm.trans he)
    have hlines := fontLine_len hfit
    obtain ⟨a, ha⟩ : ∃ r : ByteArray, r = ⟨(Lib.itoa h').toArray⟩ := ⟨_, rfl⟩
    obtain ⟨b, hb⟩ : ∃ r : ByteArray, r = ⟨(Lib.itoa g').toArray⟩ := ⟨_, rfl⟩
    obtain ⟨d, hd⟩ : ∃ r : ByteArray, r = ⟨(Lib.itoa s').toArray⟩ := ⟨_, rfl⟩
    have hA := Lib.hid (fun w hN => show Calls Tryz.prog 69 #[.int .i64 h'] w (fun e w' => e = .returned (.string a) ∧ Bl w w') from by
      rw [ha]; exact itoa_any h' (by omega) (by have := hfit.bht; omega) w hN)
    have hB := Lib.hid (fun w hN => show Calls Tryz.prog 69 #[.int .i64 g'] w (fun e w' => e = .returned (.string b) ∧ Bl w w') from by
      rw [hb]; exact itoa_any g' (by omega) (by have := hfit.bgap; omega) w hN)
    have hD := Lib.hid (fun w hN => show Calls Tryz.prog 69 #[.int .i64 s'] w (fun e w' => e = .returned (.string d) ∧ Bl w w') from by
      rw [hd]; exact itoa_any s' (by omega) (by have := hfit.bsp; omega) w hN)
    have ln : NB.size ≤ 40 := by rw [hNB, Lib.size_mk]; exact hfit.bnm
    have la : a.size ≤ 21 := by rw [ha, Lib.size_mk]; exact itoa_len _ (by omega) (by have := hfit.bht; omega)
    have lb : b.size ≤ 21 := by rw [hb, Lib.size_mk]; exact itoa_len _ (by omega) (by have := hfit.bgap; omega)
    have ld : d.size ≤ 21 := by rw [hd, Lib.size_mk]; exact itoa_len _ (by omega) (by have := hfit.bsp; omega)
    have HLn : Hid (⟨#[102, 111, 110, 116, 32]⟩ ++ NB ++ ⟨#[32]⟩ ++ a ++ ⟨#[32]⟩ ++ b ++ ⟨#[32]⟩ ++ d ++ ⟨#[10]⟩ = ⟨(fontTx nm h' g' s' []).toArray⟩) := Lib.hid (by
      rw [hNB, ha, hb, hd]
      show (⟨[102, 111, 110, 116, 32].toArray⟩ : ByteArray) ++ _ ++ ⟨[32].toArray⟩ ++ _ ++ ⟨[32].toArray⟩ ++ _ ++ ⟨[32].toArray⟩ ++ _ ++ ⟨[10].toArray⟩ = _
      simp only [bap, itoa_nat]
      unfold fontTx
      rw [fontLine_eq]
      simp [fontK, ltrsTx])
    have s1 : ¬ (9223372036854775807 < 5 + NB.size) := by omega
    have s2 : ¬ (9223372036854775807 < 5 + NB.size + 1) := by omega
    have s3 : ¬ (9223372036854775807 < 5 + NB.size + 1 + a.size) := by omega
    have s4 : ¬ (9223372036854775807 < 5 + NB.size + 1 + a.size + 1) := by omega
    have s5 : ¬ (9223372036854775807 < 5 + NB.size + 1 + a.size + 1 + b.size) := by omega
    have s6 : ¬ (9223372036854775807 < 5 + NB.size + 1 + a.size + 1 + b.size + 1) := by omega
    have s7 : ¬ (9223372036854775807 < 5 + NB.size + 1 + a.size + 1 + b.size + 1 + d.size) := by omega
    have s8 : ¬ (9223372036854775807 < 5 + NB.size + 1 + a.size + 1 + b.size + 1 + d.size + 1) := by omega
    have Hfit := Lib.hid hfit
    have He := Lib.hid he
    have HNB := Lib.hid hNB
    clear ha hb hd hfit he hNB hlines
    go_enter Tryz.func17, Tryz.ntmps17
    go_wp2_with fail
    refine Hck.out.mono ?_
    rintro e w3 ⟨rfl, hb3⟩
    have hB0 := builder_fresh w3
    have hb4 : Bl w1 (w3.alloc (.cells #[.pointer none, .slice none 0 0] 115)) := hb3.alloc _
    have hgb : w1.heap.size ≤ w3.heap.size := hb3.le
    have hgl : w3.heap.size < (w3.alloc (.cells #[.pointer none, .slice none 0 0] 115)).heap.size := by simp
    clear k1
    go_upto_region 5 with fail
    generalize hg : w3.heap.size = gb at hB0 hgb hgl ⊢
    generalize hw4 : w3.alloc (.cells #[.pointer none, .slice none 0 0] 115) = w4 at hB0 hb4 hgl ⊢
    have k4 := (w11.bl hb4).all5
    clear hg hw4 hb3
    refine wp_region_flow [(true, 0), (true, 1), (true, 2), (true, 3), (true, 4), (true, 5), (true, 9), (true, 10), (true, 14), (true, 15), (false, 6), (true, 7), (true, 8), (false, 11), (true, 12), (true, 13), (false, 16), (true, 17), (true, 18), (false, 19)] (fun i => i == 19) (by kernel_rfl) (by kernel_rfl) (by kernel_rfl) (by kernel_rfl) ?_
    iterate 1
      apply Flow.calm2 _ _ rfl rfl
      · intro w' hb' K' hK'
        obtain ⟨hc', hf'⟩ := hb'.rule
        go_simp
        try go_ints
        exact hK'
      · intro K' hK'
        simp only [Act.put, List.setIfInBounds_toArray, List.set_cons_zero, List.set_cons_succ]
        exact hK'
    iterate 1
      apply Flow.calm2 _ _ rfl rfl
      · intro w' hb' K' hK'
        obtain ⟨hc', hf'⟩ := hb'.rule
        go_simp
        try go_ints
        exact hK'
      · intro K' hK'
        simp only [Act.put, List.setIfInBounds_toArray, List.set_cons_zero, List.set_cons_succ]
        exact hK'
    iterate 2
      apply Flow.calm2 _ _ rfl rfl
      · intro w' hb' K' hK'
        obtain ⟨hc', hf'⟩ := hb'.rule
        go_simp
        try go_ints
        exact hK'
      · intro K' hK'
        simp only [Act.put, List.setIfInBounds_toArray, List.set_cons_zero, List.set_cons_succ]
        exact hK'
    iterate 1
      apply Flow.calm2 _ _ rfl rfl
      · intro w' hb' K' hK'
        obtain ⟨hc', hf'⟩ := hb'.rule
        go_simp
        try go_ints
        exact hK'
      · intro K' hK'
        simp only [Act.put, List.setIfInBounds_toArray, List.set_cons_zero, List.set_cons_succ]
        exact hK'
    iterate 1
      apply Flow.calm2 _ _ rfl rfl
      · intro w' hb' K' hK'
        obtain ⟨hc', hf'⟩ := hb'.rule
        go_simp
        try go_ints
        exact hK'
      · intro K' hK'
        simp only [Act.put, List.setIfInBounds_toArray, List.set_cons_zero, List.set_cons_succ]
        exact hK'
    iterate 1
      apply Flow.calm2 _ _ rfl rfl
      · intro w' hb' K' hK'
        obtain ⟨hc', hf'⟩ := hb'.rule
        go_simp
        try go_ints
        exact hK'
      · intro K' hK'
        simp only [Act.put, List.setIfInBounds_toArray, List.set_cons_zero, List.set_cons_succ]
        exact hK'
    iterate 1
      apply Flow.calm2 _ _ rfl rfl
      · intro w' hb' K' hK'
        obtain ⟨hc', hf'⟩ := hb'.rule
        go_simp
        try go_ints
        exact hK'
      · intro K' hK'
        simp only [Act.put, List.setIfInBounds_toArray, List.set_cons_zero, List.set_cons_succ]
        exact hK'
    iterate 1
      apply Flow.calm2 _ _ rfl rfl
      · intro w' hb' K' hK'
        obtain ⟨hc', hf'⟩ := hb'.rule
        go_simp
        try go_ints
        exact hK'
      · intro K' hK'
        simp only [Act.put, List.setIfInBounds_toArray, List.set_cons_zero, List.set_cons_succ]
        exact hK'
    iterate 1
      apply Flow.calm2 _ _ rfl rfl
      · intro w' hb' K' hK'
        obtain ⟨hc', hf'⟩ := hb'.rule
        go_simp
        try go_ints
        exact hK'
      · intro K' hK'
        simp only [Act.put, List.setIfInBounds_toArray, List.set_cons_zero, List.set_cons_succ]
        exact hK'
    apply Flow.move rfl
    go_wp2_with fail
    refine (hA.out _ (HN.out.bl hb4.drew)).mono ?_
    rintro e w5 ⟨rfl, HB1⟩
    have hc5 : Bl w1 w5 := hb4.trans (Bl.ofDrew HB1)
    go_wp2_with fail
    refine ⟨fun _ => (by first | exact HB1 | exact Bl.refl _), ?_⟩
    iterate 2
      apply Flow.calm2 _ _ rfl rfl
      · intro w' hb' K' hK'
        obtain ⟨hc', hf'⟩ := hb'.rule
        go_simp
        try go_ints
        exact hK'
      · intro K' hK'
        simp only [Act.put, List.setIfInBounds_toArray, List.set_cons_zero, List.set_cons_succ]
        exact hK'
    apply Flow.move rfl
    go_wp2_with fail
    refine (hB.out _ (HN.out.bl hc5)).mono ?_
    rintro e w6 ⟨rfl, HB2⟩
    go_wp2_with fail
    refine ⟨fun _ => (by first | exact HB2 | exact Bl.refl _), ?_⟩
    iterate 2
      apply Flow.calm2 _ _ rfl rfl
      · intro w' hb' K' hK'
        obtain ⟨hc', hf'⟩ := hb'.rule
        go_simp
        try go_ints
        exact hK'
      · intro K' hK'
        simp only [Act.put, List.setIfInBounds_toArray, List.set_cons_zero, List.set_cons_succ]
        exact hK'
    apply Flow.move rfl
    go_wp2_with fail
    refine (hD.out _ (HN.out.bl (hc5.trans HB2))).mono ?_
    rintro e w7 ⟨rfl, HB3⟩
    go_wp2_with fail
    refine ⟨fun _ => (by first | exact HB3 | exact Bl.refl _), ?_⟩
    iterate 2
      apply Flow.calm2 _ _ rfl rfl
      · intro w' hb' K' hK'
        obtain ⟨hc', hf'⟩ := hb'.rule
        go_simp
        try go_ints
        exact hK'
      · intro K' hK'
        simp only [Act.put, List.setIfInBounds_toArray, List.set_cons_zero, List.set_cons_succ]
        exact hK'
    refine Flow.tail _ rfl ?_
    have hc7 := (hc5.trans HB2).trans HB3
    have hB7 := builder_bl hB0 ((Bl.ofDrew HB1).trans (HB2.trans HB3))
    have hgb7 : gb ≤ w7.heap.size := by have := ((Bl.ofDrew HB1).trans (HB2.trans HB3)).le; omega
    have Hc7 := Lib.hid hc7; have HB7 := Lib.hid hB7
    have Hl0 := Lib.hid (show (fontTx nm h' g' s' []).length ≤ 900000 by have := fontTx_take Hfit.out 0; rwa [List.take_zero] at this)
    clear hc5 HB1 HB2 HB3 hB0 hb4 k4 hc7 hB7 hgl
    go_wp2_with (go_at_call 68; rw [HLn.out]; refine (writeString_any gb [] (fontTx nm h' g' s' []) _ HB7.out (by have := Hl0.out; simp only [List.length_nil]; omega) hgb7).mono ?_; rintro e w8 ⟨rfl, hI8, hb8⟩; refine Hid.out ?_)
    refine Lib.hid ?_
    rw [List.nil_append] at hI8
    have hc8 : Bl w1 w8 := Hc7.out.trans2 hgb hb8
    have k8 := (w11.bl hc8).all5
    have Hc8 := Lib.hid hc8; have HI8 := Lib.hid hI8; have Hb8 := Lib.hid hb8
    have Hgb := Lib.hid hgb
    have Hg8 := Lib.hid (Nat.le_trans hgb7 hb8.size)
    clear hc8 hI8 hb8 hgb7 s1 s2 s3 s4 s5 s6 s7 s8 ln la lb ld
    go_wp2_with fail
    go_loopw [38] (fun v wr => ∃ i : Nat, i ≤ ls.length ∧ v = .int .i64 i ∧ Bl w1 wr ∧ Bui gb (fontTx nm h' g' s' (ls.take i)) wr ∧ gb ≤ wr.heap.size) (fun v _ => ls.length - (RowKit.intOf v).toNat)
    case atStart => exact ⟨0, Nat.zero_le _, rfl, Hc8.out, by rw [List.take_zero]; exact HI8.out, Hg8.out⟩
    case round =>
      obtain ⟨i, hi, rfl, hbr, hIr, hgr⟩ := hrel
      by_cases hlt : i < ls.length
      · have hg : ls[i]? = some ls[i] := List.getElem?_eq_getElem hlt
        obtain ⟨l, hl⟩ : ∃ l, l = ls[i] := ⟨_, rfl⟩
        rw [← hl] at hg
        obtain ⟨ad, rfl, j1, j2, j3, j4⟩ := (HL.out.bl hbr).at_ hg
        have hmem : l ∈ ls := List.mem_of_getElem? hg
        have HA := Lib.hid (HL.out.2 l hmem)
        obtain ⟨hltx, WW, hW1, hH1, hW2, hW3, hm, hpe⟩ := Hfit.out.bl l hmem
        have htk : fontTx nm h' g' s' (ls.take (i + 1)) = fontTx nm h' g' s' (ls.take i) ++ ltrTx l := by
          rw [List.take_add_one, hg]
          unfold fontTx
          rw [show (ls.take i ++ (some l).toList) = ls.take i ++ [l] from rfl, ltrsTx_snoc]
          simp
        have Hlen := Lib.hid (show (fontTx nm h' g' s' (ls.take i) ++ ltrTx l).length ≤ 900000 by rw [← htk]; exact fontTx_take Hfit.out (i + 1))
        have Htk := Lib.hid htk
        have Hpr := Lib.hid (fun wx (hb : Bl w1 wx) => print_any l.W l.H l.A l.m l.c l.bs wx (HA.out.1.bl hb))
        obtain ⟨TB, hTB⟩ : ∃ r : ByteArray, r = ⟨l.text.toArray⟩ := ⟨_, rfl⟩
        have lt : TB.size ≤ 4 := by rw [hTB, Lib.size_mk]; exact hltx
        rw [← hTB] at j1
        have HTB := Lib.hid hTB
        have Hpe := Lib.hid hpe; have HIr := Lib.hid hIr
        clear hg hl hmem hW1 hH1 hW2 hW3 hm hpe htk hTB hIr
        go_upto_region 9 with fail
        obtain ⟨w9, hw9⟩ : ∃ x, x = wr.alloc (.cells #[.string TB, .int .i64 l.W, .int .i64 l.H, .slice l.A l.m l.c] 122) := ⟨_, rfl⟩
        have b9 : Blk w9 wr.heap.size 122 #[.string TB, .int .i64 l.W, .int .i64 l.H, .slice l.A l.m l.c] := by rw [hw9]; exact Blk.new _ _ _
        have hb9 : Bl w1 w9 := by rw [hw9]; exact hbr.alloc _
        have HI9 := Lib.hid (show Bui gb (fontTx nm h' g' s' (ls.take i)) w9 from by rw [hw9]; exact builder_bl HIr.out ((Bl.refl _).alloc _))
        have hg9 : gb ≤ w9.heap.size := by rw [hw9]; simp; omega
        rw [← hw9]
        have k9 := b9.all4
        clear hw9 j1 j2 j3 j4 HIr
        go_wp2_with fail
        refine (Hpr.out _ hb9).mono ?_
        rintro e w10 ⟨PB, rfl, -, hPB, hb10⟩
        have HPB := Lib.hid (hPB Hpe.out)
        have k10 := (b9.bl hb10).all4
        have hc10 := hb9.trans hb10
        have HI10 := Lib.hid (builder_bl HI9.out hb10)
        have hg10 : gb ≤ w10.heap.size := Nat.le_trans hg9 hb10.le
        have lp : PB.size ≤ 900000 := by
          have h1 := Hlen.out
          rw [HPB.out, Lib.size_mk]
          unfold ltrTx at h1
          simp only [List.length_append, List.length_cons] at h1
          omega
        have r1 : ¬ (9223372036854775807 < 7 + TB.size) := by omega
        have r2 : ¬ (9223372036854775807 < 7 + TB.size + 1) := by omega
        have r3 : ¬ (9223372036854775807 < 7 + TB.size + 1 + PB.size) := by omega
        have HLn2 : Hid (⟨#[108, 101, 116, 116, 101, 114, 32]⟩ ++ TB ++ ⟨#[10]⟩ ++ PB = ⟨(ltrTx l).toArray⟩) := Lib.hid (by
          rw [HTB.out, HPB.out]
          show (⟨[108, 101, 116, 116, 101, 114, 32].toArray⟩ : ByteArray) ++ _ ++ ⟨[10].toArray⟩ ++ _ = _
          simp only [bap]
          unfold ltrTx
          simp [letK])
        clear hPB k9
        go_wp2_with (go_at_call 68; rw [HLn2.out]; refine (writeString_any gb (fontTx nm h' g' s' (ls.take i)) (ltrTx l) _ HI10.out (by have := Hlen.out; rw [List.length_append] at this; omega) hg10).mono ?_; rintro e w11' ⟨rfl, hI11, hb11⟩; refine Hid.out ?_)
        refine Lib.hid ?_
        have hc11 := Hid.out (Lib.hid hc10) |>.trans2 Hgb.out hb11
        have hI12 := Lib.hid (show Bui gb (fontTx nm h' g' s' (ls.take (i + 1))) w11' from by rw [Htk.out]; exact hI11)
        have hg11 := Nat.le_trans hg10 hb11.size
        clear r1 r2 r3 hI11
        go_wp2_with fail
        exact ⟨⟨i + 1, hlt, by go_num, hc11, hI12.out, hg11⟩, by simp [RowKit.intOf]; omega⟩
      · obtain rfl : i = ls.length := by omega
        rw [List.take_length] at hIr
        have hlen := fontTx_len Hfit.out
        obtain ⟨TX, hTX⟩ : ∃ r, r = fontTx nm h' g' s' ls := ⟨_, rfl⟩
        rw [← hTX] at hIr hlen
        have HTX := Lib.hid hTX
        have HIr := Lib.hid hIr
        clear hIr hTX
        have hq2 : ¬ (1048576 < (TX.length : Int)) := by omega
        go_wp2_with fail
        refine (builderLen_any gb TX _ HIr.out).mono ?_
        rintro e w13 ⟨rfl, rfl⟩
        go_wp2_with fail
        refine (builderString_any gb TX _ HIr.out hgr).mono ?_
        rintro e w14 ⟨rfl, hb14⟩
        go_wp2_with fail
        go_ret2
        exact ⟨⟨TX.toArray⟩, by rw [He.out]; rfl, fun h => absurd He.out h, fun _ => by rw [HTX.out]; simp, w1b.trans (hbr.trans2 Hgb.out hb14)⟩
  · have hq : (E != 0) = true := by simp [he]
    have He := Lib.hid he
    clear he hNB
    go_enter Tryz.func17, Tryz.ntmps17
    go_wp2_with fail
    refine Hck.out.mono ?_
    rintro e w3 ⟨rfl, hb3⟩
    go_wp2_with fail
    go_ret2
    exact ⟨⟨#[]⟩, rfl, fun _ => rfl, fun h => absurd h He.out, w1b.trans hb3⟩
end Go.Proofs.YtjelhdpcaileiaaGreatDoor


/-! glyph.Parse: what the call holds while it reads. -/
namespace Go.Proofs.YtjelhdpcaileiaaGreatDoor
open Go.RowKit Go.Shelf

theorem ownsRow_grown2 {w w' : World} {base : Nat} {e : TypeId} {size n : Nat} {v : Value} {xs : List Value} {row : Option Nat} (h : w.ownsRow base e size v n xs) (hb : w.grownBy w' row) (hn : ∀ g, v.ownBlock = some g → some g ≠ row) : w'.ownsRow base e size v n xs := by
  refine ⟨h.1, ?_⟩
  rcases h.2 with h2 | ⟨g, cap, cur, rfl, hb', hg, r⟩
  · exact .inl h2
  · exact .inr ⟨g, cap, cur, rfl, hb', (hb.block g (Array.getElem?_eq_some_iff.1 hg).1 (hn g rfl)).trans hg, r⟩
theorem own_parted {w : World} {b1 b2 : Nat} {e1 e2 : TypeId} {s1 s2 n1 n2 : Nat} {v1 v2 : Value} {xs ys : List Value} (h : w.ownsRow b1 e1 s1 v1 n1 xs) (k : w.ownsRow b2 e2 s2 v2 n2 ys) (hne : e1 ≠ e2) : ∀ g, v1.ownBlock = some g → some g ≠ v2.ownBlock := by
  intro g hg e
  rcases h.2 with ⟨rfl, -⟩ | ⟨g1, c1, cur1, rfl, -, h1, -⟩
  · cases hg
  · rcases k.2 with ⟨rfl, -⟩ | ⟨g2, c2, cur2, rfl, -, h2, -⟩
    · cases e
    · have a1 : g1 = g := Option.some.inj hg
      have a2 : g = g2 := Option.some.inj e
      subst a1 a2
      rw [h1] at h2
      injection h2 with h2
      injection h2 with h3 h4
      exact hne h4
/-- A letter whose pixels the call laid. -/
def LtrIn (w : World) (B : Nat) (y : Ltr) : Prop := w.ownsRow B 4 1 (.slice y.A y.m y.c) y.m (y.bs.map .bool)
theorem LtrIn.reads {w : World} {B : Nat} {y : Ltr} (h : LtrIn w B y) : Reads w 1 y.A y.m (y.bs.map .bool) := by
  obtain ⟨A, c, e, hr⟩ := own_reads h
  injection e with e1 _ _
  rw [e1]
  exact hr
/-- All that the call holds: the text's box, the answer's, the font's, and its letters. -/
structure PSt (w wr : World) (g9 B : Nat) (t : List UInt8) (nb : ByteArray) (ht gap sp : Nat) (V : Value) (ls : List Ltr) : Prop where
  bl : Bl w wr
  b1 : Blk wr w.heap.size 9 #[.string ⟨t.toArray⟩]
  b2 : Blk wr (w.heap.size + 1) 45 #[.string ⟨#[]⟩, .int .i64 0, .int .i64 0, .int .i64 0, .slice none 0 0]
  b9 : Blk wr g9 45 #[.string nb, .int .i64 ht, .int .i64 gap, .int .i64 sp, V]
  own : wr.ownsRow B 122 4 V ls.length (ltrCells ls)
  all : ∀ l ∈ ls, LtrIn wr B l
  g9B : w.heap.size + 2 ≤ g9 ∧ g9 + 1 ≤ B
  sz : B ≤ wr.heap.size
section
variable {w wr wx : World} {g9 B : Nat} {t : List UInt8} {nb : ByteArray} {ht gap sp : Nat} {V : Value} {ls : List Ltr}
theorem PSt.on (h : PSt w wr g9 B t nb ht gap sp V ls) (hb : Bl wr wx) : PSt w wx g9 B t nb ht gap sp V ls :=
  ⟨h.bl.trans hb, h.b1.bl hb, h.b2.bl hb, h.b9.bl hb, own_bl h.own hb, fun l hl => own_bl (h.all l hl) hb, h.g9B, Nat.le_trans h.sz hb.le⟩
/-- No block of the letters. -/
def Clr (V : Value) (ls : List Ltr) (g : Nat) : Prop := V.ownBlock ≠ some g ∧ ∀ l ∈ ls, (Value.slice l.A l.m l.c).ownBlock ≠ some g
theorem PSt.clr (h : PSt w wr g9 B t nb ht gap sp V ls) {g : Nat} (hg : wr.heap.size ≤ g) : Clr V ls g := by
  refine ⟨fun e => ?_, fun l hl e => ?_⟩
  · have := (h.own.lt g e).2
    omega
  · have := ((h.all l hl).lt g e).2
    omega
theorem PSt.next (h : PSt w wr g9 B t nb ht gap sp V ls) (hb : Bl wr wx) (t2 : List UInt8) : PSt w (wx.setCell ⟨w.heap.size, 0, none⟩ (.string ⟨t2.toArray⟩)) g9 B t2 nb ht gap sp V ls := by
  have k := h.on hb
  have hg := k.g9B
  exact ⟨k.bl.setCell (Nat.le_refl _) _, Blk.one k.b1, k.b2.far (by show w.heap.size + 1 ≠ w.heap.size; omega) _, k.b9.far (by show g9 ≠ w.heap.size; omega) _, ownsRow_setCell_below k.own (by show w.heap.size < B; omega) _, fun l hl => ownsRow_setCell_below (k.all l hl) (by show w.heap.size < B; omega) _, hg, by simpa using k.sz⟩
theorem PSt.far (h : PSt w wr g9 B t nb ht gap sp V ls) {p : Addr} (hB : B ≤ p.block) (hc : Clr V ls p.block) (u : Value) : PSt w (wr.setCell p u) g9 B t nb ht gap sp V ls := by
  have hg := h.g9B
  exact ⟨h.bl.setCell (by omega) _, h.b1.far (by omega) _, h.b2.far (by omega) _, h.b9.far (by omega) _, ownsRow_setCell_other h.own hc.1 _, fun l hl => ownsRow_setCell_other (h.all l hl) (hc.2 l hl) _, hg, by simpa using h.sz⟩
theorem PSt.grown (h : PSt w wr g9 B t nb ht gap sp V ls) {row : Option Nat} (hb : wr.grownBy wx row) (hbl : Bl w wx) (hr : ∀ g, row = some g → B ≤ g ∧ Clr V ls g) : PSt w wx g9 B t nb ht gap sp V ls := by
  have hg := h.g9B
  have low : ∀ g, g < B → some g ≠ row := fun g hlt e => by have := (hr g e.symm).1; omega
  exact ⟨hbl, h.b1.grown hb (low _ (by omega)), h.b2.grown hb (low _ (by omega)), h.b9.grown hb (low _ (by omega)), ownsRow_grown2 h.own hb (fun g hv e => (hr g e.symm).2.1 hv), fun l hl => ownsRow_grown2 (h.all l hl) hb (fun g hv e => (hr g e.symm).2.2 l hl hv), hg, Nat.le_trans h.sz hb.size⟩
/-- A letter more. -/
theorem PSt.push (h : PSt w wr g9 B t nb ht gap sp V ls) {l : Ltr} {V' : Value} (hl : LtrIn wr B l) (hb : wr.grownBy wx V.ownBlock) (hbl : Bl w wx) (hown : wx.ownsRow B 122 4 V' (ls.length + 1) (ltrCells ls ++ l.cells)) : PSt w (wx.setCell ⟨g9, 4, none⟩ V') g9 B t nb ht gap sp V' (ls ++ [l]) := by
  have hg := h.g9B
  have low : ∀ g, g < B → some g ≠ V.ownBlock := fun g hlt e => by have := (h.own.lt g e.symm).1; omega
  have hall : ∀ x ∈ ls ++ [l], LtrIn wx B x := fun x hx => by
    have hx' : LtrIn wr B x := by
      rcases List.mem_append.1 hx with hx | hx
      · exact h.all x hx
      · rw [List.mem_singleton.1 hx]; exact hl
    exact ownsRow_grown2 hx' hb (own_parted hx' h.own (by decide))
  refine ⟨hbl.setCell (by show w.heap.size ≤ g9; omega) _, (h.b1.grown hb (low _ (by omega))).far (by show w.heap.size ≠ g9; omega) _, (h.b2.grown hb (low _ (by omega))).far (by show w.heap.size + 1 ≠ g9; omega) _, by simpa using (h.b9.grown hb (low _ (by omega))).set_ 4 V', ?_, fun x hx => ownsRow_setCell_below (hall x hx) (by show g9 < B; omega) _, hg, by simpa using Nat.le_trans h.sz hb.size⟩
  rw [List.length_append, ltrCells_append]
  have e : ltrCells [l] = l.cells := by unfold ltrCells; simp
  rw [e]
  exact ownsRow_setCell_below hown (by show g9 < B; omega) _
end
theorem own_cap {w : World} {base : Nat} {e : TypeId} {size n c : Nat} {A : Option Addr} {xs : List Value} (h : w.ownsRow base e size (.slice A n c) n xs) : n ≤ c := by
  rcases h.2 with ⟨hv, h0⟩ | ⟨g, cap, cur, hv, -, -, hc, -⟩
  · omega
  · injection hv with _ _ h3
    omega
/-- What glyph.Parse answers. -/
def FParse (t : List UInt8) (w : World) (e : Ending) (w' : World) : Prop :=
  ∃ (nm : List UInt8) (a b c : Nat) (ls ls0 : List Ltr) (L : Option Addr) (cc k : Nat) (err : Int), e = .returned (.tuple #[.agg #[.string ⟨nm.toArray⟩, .int .i64 a, .int .i64 b, .int .i64 c, .slice L ls.length cc], .int .i64 k, .int .i64 err]) ∧
    fontOf t = (err, k, nm, a, b, c, ls0) ∧ ls.map Ltr.face = ls0.map Ltr.face ∧ LtrsAt w' L ls ∧ ls.length ≤ cc ∧ Bl w w'
theorem fparse_zero {t : List UInt8} {w w' : World} {err : Int} {k : Nat} (h : fontOf t = zeroF err k) (hb : Bl w w') : FParse t w (.returned (.tuple #[.agg #[.string ⟨#[]⟩, .int .i64 0, .int .i64 0, .int .i64 0, .slice none 0 0], .int .i64 k, .int .i64 err])) w' :=
  ⟨[], 0, 0, 0, [], [], none, 0, k, err, rfl, h, rfl, LtrsAt.none _, Nat.le_refl _, hb⟩
end Go.Proofs.YtjelhdpcaileiaaGreatDoor


/-! glyph.Parse: the walk. -/
namespace Go.Proofs.YtjelhdpcaileiaaGreatDoor
open Go.RowKit Go.Shelf

theorem trimHd2_any (l : List UInt8) (w : World) (hlen : l.length ≤ 1048576) :
    Calls Tryz.prog 59 #[.string ⟨l.toArray⟩, .string ⟨#[35, 46]⟩] w fun e w' => ∃ r : ByteArray, e = .returned (.string r) ∧ r.toList.isEmpty = dotL l ∧ Bl w w' := by
  have h := Any.strings_Trim_laid Tryz.lays160 (by kernel_rfl) ⟨l.toArray⟩ ⟨#[35, 46]⟩ w (by rw [Lib.size_mk]; omega) (by decide) (ascii_of_all (by decide))
  refine Calls.mono (R := fun e w' => e = .returned (.string ⟨(Lib.trimS l [35, 46]).toArray⟩) ∧ Below w.heap.size w w') h ?_
  rintro e w' ⟨rfl, hb⟩
  refine ⟨_, rfl, ?_, hb⟩
  rw [Lib.toList_data]
  show (Lib.trimS l [35, 46]).isEmpty = _
  rw [Bool.eq_iff_iff, List.isEmpty_iff, trimS_nil_iff]
  unfold dotL
  rw [decide_eq_true_eq]
/-- What is read behind the first line. -/
def fontRest (nm : List UInt8) (a b c : Nat) (r : List UInt8) : FontR := match leftL a r 1 [] with
  | .inl k => zeroF 8 k
  | .inr ls => if fontErr (nameB nm) a b c ls = 0 then (0, 0, nm, a, b, c, ls) else zeroF (fontErr (nameB nm) a b c ls) 0
theorem fontOf_none {t : List UInt8} (h : ¬ 1048576 < t.length) (hH : headF (Lib.cut t [10]).1 = none) : fontOf t = zeroF 8 0 := by
  unfold fontOf
  rw [if_neg h, hH]
theorem fontOf_some {t nm : List UInt8} {a b c : Nat} (h : ¬ 1048576 < t.length) (hH : headF (Lib.cut t [10]).1 = some (nm, a, b, c)) : fontOf t = if (Lib.cut t [10]).2.2 = false then zeroF 8 0 else fontRest nm a b c (Lib.cut t [10]).2.1 := by
  unfold fontOf
  rw [if_neg h, hH]
  rfl
theorem fontRest_inl {nm : List UInt8} {a b c k : Nat} {r : List UInt8} (h : leftL a r 1 [] = .inl k) : fontRest nm a b c r = zeroF 8 k := by
  unfold fontRest
  rw [h]
theorem fontRest_ok {nm : List UInt8} {a b c : Nat} {r : List UInt8} {ls : List Ltr} (h : leftL a r 1 [] = .inr ls) (he : fontErr (nameB nm) a b c ls = 0) : fontRest nm a b c r = (0, 0, nm, a, b, c, ls) := by
  unfold fontRest
  rw [h]
  exact if_pos he
theorem fontRest_err {nm : List UInt8} {a b c : Nat} {r : List UInt8} {ls : List Ltr} (h : leftL a r 1 [] = .inr ls) (he : fontErr (nameB nm) a b c ls ≠ 0) : fontRest nm a b c r = zeroF (fontErr (nameB nm) a b c ls) 0 := by
  unfold fontRest
  rw [h]
  exact if_neg he

theorem rowsF_bad {a y : Nat} {t : List UInt8} {W : Nat} {P : List Bool} (h : y < a) (hb : badLine t W y = true) : rowsF (a - y) y t W P = .inl y := by
  obtain ⟨k, hk⟩ : ∃ k, a - y = k + 1 := ⟨a - y - 1, by omega⟩
  rw [hk]
  unfold rowsF
  rw [if_pos hb]
theorem rowsF_go {a y : Nat} {t : List UInt8} {W : Nat} {P : List Bool} (h : y < a) (hb : ¬ badLine t W y = true) : rowsF (a - y) y t W P = rowsF (a - (y + 1)) (y + 1) (Lib.cut t [10]).2.1 (Lib.cut t [10]).1.length (P ++ (Lib.cut t [10]).1.map (· == 35)) := by
  obtain ⟨k, hk⟩ : ∃ k, a - y = k + 1 := ⟨a - y - 1, by omega⟩
  rw [hk, show a - (y + 1) = k by omega]
  conv => lhs; unfold rowsF
  rw [if_neg hb]
theorem rowsF_end {a : Nat} {t : List UInt8} {W : Nat} {P : List Bool} : rowsF (a - a) a t W P = .inr (t, W, P) := by rw [Nat.sub_self]; rfl
theorem own_more {w : World} {base : Nat} {e : TypeId} {size : Nat} {v : Value} {n : Nat} {xs : List Value} (h : w.ownsRow base e size v n xs) {b : Nat} (hb : b ≤ base) : w.ownsRow b e size v n xs := by
  refine ⟨h.1, ?_⟩
  rcases h.2 with h2 | ⟨g, cap, cur, hv, hg, r⟩
  · exact .inl h2
  · exact .inr ⟨g, cap, cur, hv, Nat.le_trans hb hg, r⟩
theorem keys_eq : ∀ {a b : List Ltr}, a.map Ltr.face = b.map Ltr.face → a.map Ltr.key = b.map Ltr.key
  | [], [], _ => rfl
  | [], _ :: _, h => by cases h
  | _ :: _, [], h => by cases h
  | x :: a, y :: b, h => by
    rw [List.map_cons, List.map_cons] at h
    injection h with h1 h2
    rw [List.map_cons, List.map_cons, key_of_face h1, keys_eq h2]
theorem headF_nm {l nm : List UInt8} {a b c : Nat} (h : headF l = some (nm, a, b, c)) : nm.length ≤ l.length := by
  obtain ⟨hw, -⟩ := headF_iff.1 h
  have hj := (wordsOf_spec _ l (Nat.le_refl _)).2.1
  have := words_le (wordsOf l) nm (by rw [hw]; simp)
  rwa [hj] at this
/-- The letters as the call owns them. -/
def LtrsOwn (w : World) (B : Nat) (V : Value) (ls : List Ltr) : Prop := w.ownsRow B 122 4 V ls.length (ltrCells ls) ∧ ∀ l ∈ ls, LtrIn w B l
theorem LtrsOwn.set {w : World} {B : Nat} {V : Value} {ls : List Ltr} (h : LtrsOwn w B V ls) {p : Addr} (hp : p.block < B) (u : Value) : LtrsOwn (w.setCell p u) B V ls := ⟨ownsRow_setCell_below h.1 hp u, fun l hl => ownsRow_setCell_below (h.2 l hl) hp u⟩
theorem LtrsOwn.at_ {w : World} {B n c : Nat} {L : Option Addr} {ls : List Ltr} (h : LtrsOwn w B (.slice L n c) ls) (hx : ∀ l ∈ ls, l.text.length ≤ 1048576) : LtrsAt w L ls := by
  obtain ⟨A, c2, e, hr⟩ := own_reads h.1
  injection e with e1 _ _
  rw [e1]
  exact ⟨hr, fun l hl => ⟨(h.2 l hl).reads, by have := hx l hl; omega⟩⟩
/-- How long the text in a box is. -/
def boxLen (w : World) (g : Nat) : Nat := match w.cell? ⟨g, 0, none⟩ with
  | some (.string s) => s.size
  | _ => 0
theorem boxLen_at {w : World} {g : Nat} {t : TypeId} {s : List UInt8} (h : Blk w g t #[.string ⟨s.toArray⟩]) : boxLen w g = s.length := by
  unfold boxLen
  rw [h.cell 0]
  exact Lib.size_mk s
set_option maxRecDepth 100000 in
set_option maxHeartbeats 8000000 in
theorem fparse_any (t : List UInt8) (w : World) (hN : NumOk w) (hC : CutOk w) (h63 : t.length ≤ 9223372036854775807) :
    Calls Tryz.prog 22 #[.string ⟨t.toArray⟩] w (FParse t w) := by
  have hsz : (⟨t.toArray⟩ : ByteArray).size = t.length := Lib.size_mk t
  let w1 := ((w).alloc (.cells #[.string ⟨t.toArray⟩] 9)).alloc (.cells #[.string ⟨#[]⟩, .int .i64 0, .int .i64 0, .int .i64 0, .slice none 0 0] 45)
  have w1b : Bl w w1 := ((Bl.refl w).alloc _).alloc _
  have w11 : Blk w1 (w.heap.size) 9 #[.string ⟨t.toArray⟩] := by
    have h0 := Blk.new (w) 9 #[.string ⟨t.toArray⟩]
    exact (h0.alloc _)
  have w12 : Blk w1 (w.heap.size + 1) 45 #[.string ⟨#[]⟩, .int .i64 0, .int .i64 0, .int .i64 0, .slice none 0 0] := by
    have h0 := Blk.new ((w).alloc (.cells #[.string ⟨t.toArray⟩] 9)) 45 #[.string ⟨#[]⟩, .int .i64 0, .int .i64 0, .int .i64 0, .slice none 0 0]
    simp only [World.size_alloc] at h0
    exact h0
  have lw1 : w1.heap.size = w.heap.size + 2 := by simp [w1]
  have k1 := w11.all1
  have k2 := w12.all5
  have Lw1 := Lib.hid lw1
  clear lw1
  by_cases hlong : 1048576 < t.length
  · have HX := Lib.hid (show fontOf t = zeroF 4 0 by unfold fontOf; rw [if_pos hlong])
    have hl2 : 1048576 < (t.length : Int) := by omega
    clear hN hC
    go_enter Tryz.func22, Tryz.ntmps22
    go_wp2_with fail
    refine bodyPost_ret (v := .tuple #[.agg #[.string ⟨#[]⟩, .int .i64 0, .int .i64 0, .int .i64 0, .slice none 0 0], .int .i64 0, .int .i64 4]) (by simp [results, Tryz.results22, go_sem]) rfl ?_
    exact fparse_zero (k := 0) HX.out w1b
  · have hl2 : ¬ 1048576 < (t.length : Int) := by omega
    have HN := Lib.hid hN; have HC := Lib.hid hC
    have HFo1 := Lib.hid (fun h => fontOf_none hlong h); have HFo2 := Lib.hid (fun nm a b c h => fontOf_some (nm := nm) (a := a) (b := b) (c := c) hlong h)
    have hcl := fun h => cut_len (t := t) h
    have hcl2 := cut_le t 10
    have hnx := next_any w.heap.size t w1 w11 (by omega) (hC.bl w1b)
    unfold NextRes at hnx
    obtain ⟨l0, hl0⟩ : ∃ x, x = (Lib.cut t [10]).1 := ⟨_, rfl⟩
    obtain ⟨r0, hr0⟩ : ∃ x, x = (Lib.cut t [10]).2.1 := ⟨_, rfl⟩
    obtain ⟨e0, he0⟩ : ∃ x, x = (Lib.cut t [10]).2.2 := ⟨_, rfl⟩
    rw [← hl0, ← hr0, ← he0] at hnx
    rw [← hl0, ← hr0] at hcl2
    have Hnx := Lib.hid hnx
    have hl0l : l0.length ≤ 1048576 := by omega
    have hr0l : r0.length ≤ 1048576 := by omega
    rw [← hl0] at HFo1 HFo2
    rw [← he0, ← hr0] at HFo2
    clear hN hC hl0 hr0 he0 hcl hcl2 hnx
    go_enter Tryz.func22, Tryz.ntmps22
    go_wp2_with fail
    refine Hnx.out.mono ?_
    rintro e wz ⟨wx, rfl, hbx, hwz⟩
    have hb3 : Bl w wz := by rw [hwz]; exact (w1b.trans hbx).setCell (by simp) _
    have b31 : Blk wz w.heap.size 9 #[.string ⟨r0.toArray⟩] := by rw [hwz]; exact Blk.one (w11.bl hbx)
    have b32 : Blk wz (w.heap.size + 1) 45 #[.string ⟨#[]⟩, .int .i64 0, .int .i64 0, .int .i64 0, .slice none 0 0] := by rw [hwz]; exact (w12.bl hbx).far (by simp) _
    have lwz : w.heap.size + 2 ≤ wz.heap.size := by rw [hwz]; have := hbx.le; have := Lw1.out; simp; omega
    have hhd := heading_any l0 wz (by omega) (HN.out.bl hb3) (HC.out.bl hb3)
    unfold HeadF at hhd
    clear hwz hbx
    go_wp2_with fail
    refine hhd.mono ?_
    rintro e w4 ⟨hs, v1, v2, v3, rfl, hv, hb34⟩
    have hb4 := hb3.trans hb34
    have b41 := b31.bl hb34
    have b42 := b32.bl hb34
    have lw4 := Nat.le_trans lwz hb34.le
    clear hb3 b31 b32 lwz hb34 hsz k1 k2
    have HV := Lib.hid hv
    clear hv
    go_upto_region 7 with fail
    obtain ⟨w5, hw5⟩ : ∃ x, x = w4.alloc (.cells #[.string hs, .int .i64 v1, .int .i64 v2, .int .i64 v3, .slice none 0 0] 45) := ⟨_, rfl⟩
    obtain ⟨g9, hg9⟩ : ∃ x, x = w4.heap.size := ⟨_, rfl⟩
    have b59 : Blk w5 g9 45 #[.string hs, .int .i64 v1, .int .i64 v2, .int .i64 v3, .slice none 0 0] := by rw [hw5, hg9]; exact Blk.new _ _ _
    have hb5 : Bl w w5 := by rw [hw5]; exact hb4.alloc _
    have b51 : Blk w5 w.heap.size 9 #[.string ⟨r0.toArray⟩] := by rw [hw5]; exact b41.alloc _
    have b52 : Blk w5 (w.heap.size + 1) 45 #[.string ⟨#[]⟩, .int .i64 0, .int .i64 0, .int .i64 0, .slice none 0 0] := by rw [hw5]; exact b42.alloc _
    have lw5 : w5.heap.size = g9 + 1 := by rw [hw5, hg9]; simp
    have lg9 : w.heap.size + 2 ≤ g9 := by rw [hg9]; exact lw4
    rw [← hw5, ← hg9]
    have kz := b52.all5
    have Lw5 := Lib.hid lw5; have Lg9 := Lib.hid lg9; have Hb5 := Lib.hid hb5; have B51 := Lib.hid b51; have B52 := Lib.hid b52; have B59 := Lib.hid b59
    clear hw5 hg9 hb4 b41 b42 lw4 lw5 lg9 hb5 b51 b52 b59
    cases hH : headF l0 with
    | none =>
      have HX := Lib.hid (HFo1.out hH)
      clear hH
      cases e0
      all_goals
        go_wp2_with fail
        refine bodyPost_ret (v := .tuple #[.agg #[.string ⟨#[]⟩, .int .i64 0, .int .i64 0, .int .i64 0, .slice none 0 0], .int .i64 0, .int .i64 8]) (by simp [results, Tryz.results22, go_sem, kz]) rfl ?_
        exact fparse_zero (k := 0) HX.out (bl_five (g := w.heap.size + 1) Hb5.out (Nat.le_succ _) _ _ _ _ _)
    | some p =>
      obtain ⟨nm, a, b, c⟩ := p
      obtain ⟨rfl, rfl, rfl, rfl⟩ := HV.out nm a b c hH
      clear HV
      rw [show (some (nm, a, b, c)).isSome = true from rfl]
      cases e0
      · have HX := Lib.hid ((HFo2.out nm a b c hH).trans (if_pos rfl))
        clear hH
        go_wp2_with fail
        refine bodyPost_ret (v := .tuple #[.agg #[.string ⟨#[]⟩, .int .i64 0, .int .i64 0, .int .i64 0, .slice none 0 0], .int .i64 0, .int .i64 8]) (by simp [results, Tryz.results22, go_sem, kz]) rfl ?_
        exact fparse_zero (k := 0) HX.out (bl_five (g := w.heap.size + 1) Hb5.out (Nat.le_succ _) _ _ _ _ _)
      · have hnm := headF_nm hH
        have HNm := Lib.hid (show nm.length ≤ 1048576 by omega)
        clear hnm
        have HX := Lib.hid ((HFo2.out nm a b c hH).trans (if_neg (by decide)))
        have HP0 := Lib.hid (show PSt w w5 g9 (g9 + 1) r0 ⟨nm.toArray⟩ a b c (.slice none 0 0) [] from
          ⟨Hb5.out, B51.out, B52.out, B59.out, World.ownsRow_nil _ _ _ _, (fun l hl => by cases hl), ⟨Lg9.out, Nat.le_refl _⟩, by rw [Lw5.out]; exact Nat.le_refl _⟩)
        clear hH kz
        go_wp2_with fail
        go_loopw [5] (fun u wr => ∃ (t' : List UInt8) (a0 : Nat) (ls ls0 : List Ltr) (V : Value), u = .int .i64 a0 ∧ leftL a t' a0 ls0 = leftL a r0 1 [] ∧ ls.map Ltr.face = ls0.map Ltr.face ∧ PSt w wr g9 (g9 + 1) t' ⟨nm.toArray⟩ a b c V ls ∧ a0 + t'.length ≤ 1048577 ∧ ls.length + t'.length ≤ 1048576 ∧ ∀ l ∈ ls, l.text.length ≤ 1048576) (fun _ wr => boxLen wr w.heap.size)
        case atStart => exact ⟨r0, 1, [], [], _, rfl, rfl, rfl, HP0.out, by omega, by simpa using hr0l, fun l hl => by cases hl⟩
        case round =>
          obtain ⟨t', a0, ls, ls0, V, rfl, hleft, hface, hP, hA0, hLn, hTx⟩ := hrel
          clear HP0
          have HTx := Lib.hid hTx; have HLeft := Lib.hid hleft; have HFace := Lib.hid hface; have HP := Lib.hid hP
          have kb := hP.b1.all1
          have k9 := hP.b9.all5
          clear hleft hface hP hTx
          cases he : t'.isEmpty with
          | false =>
            have hnx := next_any w.heap.size t' wr HP.out.b1 (by omega) (HC.out.bl HP.out.bl)
            unfold NextRes at hnx
            have hcl := fun h => cut_len (t := t') h
            have hcl2 := cut_le t' 10
            have hbd : badLetter t' = (!(Lib.cut t' [10]).2.2 || (!Lib.hasPrefix (Lib.cut t' [10]).1 letK || ((Lib.trimPrefix (Lib.cut t' [10]).1 letK).isEmpty || !printB (Lib.trimPrefix (Lib.cut t' [10]).1 letK)))) := rfl
            have hgo := fun (hb : ¬ badLetter t' = true) r (hr : rowsF a 0 (Lib.cut t' [10]).2.1 0 [] = .inr r) => leftL_go (a := a0) (ls := ls0) he hb hr
            have hrw := fun (hb : ¬ badLetter t' = true) y (hr : rowsF a 0 (Lib.cut t' [10]).2.1 0 [] = .inl y) => leftL_row (a := a0) (ls := ls0) he hb hr
            obtain ⟨ln, hln⟩ : ∃ x, x = (Lib.cut t' [10]).1 := ⟨_, rfl⟩
            obtain ⟨rs, hrs⟩ : ∃ x, x = (Lib.cut t' [10]).2.1 := ⟨_, rfl⟩
            obtain ⟨fd, hfd⟩ : ∃ x, x = (Lib.cut t' [10]).2.2 := ⟨_, rfl⟩
            rw [← hln, ← hrs, ← hfd] at hnx
            rw [← hln, ← hfd] at hbd
            rw [← hfd, ← hln, ← hrs] at hcl
            rw [← hln, ← hrs] at hcl2
            rw [← hrs] at hrw
            rw [← hrs, ← hln] at hgo
            have hbadl : badLetter t' = true → fontOf t = zeroF 8 a0 := fun h => HX.out.trans (fontRest_inl (HLeft.out.symm.trans (leftL_bad he h)))
            obtain ⟨tp, htp⟩ : ∃ x, x = Lib.trimPrefix ln letK := ⟨_, rfl⟩
            obtain ⟨hp, hhp⟩ : ∃ x, x = Lib.hasPrefix ln letK := ⟨_, rfl⟩
            have htl : tp.length ≤ 1048576 := by rw [htp]; have := Lib.trimPrefix_le ln letK; omega
            have hCP := fun wx => cutPre_any ln letK wx
            rw [← htp, ← hhp] at hbd hCP
            rw [← htp] at hgo
            have Hnx := Lib.hid hnx; have Hcl := Lib.hid hcl; have Hbd := Lib.hid hbd; have Hgo := Lib.hid hgo; have Hrw := Lib.hid hrw; have HbadL := Lib.hid hbadl; have HCP := Lib.hid hCP
            have lln : ln.length ≤ 1048576 := by omega
            have lrs : rs.length ≤ t'.length := by omega
            clear hnx hcl hbd hgo hrw hbadl hCP hln hrs hfd htp hhp hcl2
            go_wp2_with fail
            refine Hnx.out.mono ?_
            rintro e wz ⟨wx, rfl, hbx, hwz⟩
            have hP2 : PSt w wz g9 (g9 + 1) rs ⟨nm.toArray⟩ a b c V ls := by rw [hwz]; exact HP.out.next hbx rs
            have HP2 := Lib.hid hP2
            clear hwz hbx hP2 kb k9
            go_wp2_with fail
            refine (HCP.out _).mono ?_
            rintro e w' ⟨rfl, rfl⟩
            have kz := HP2.out.b2.all5
            have k9 := HP2.out.b9.all5
            cases fd with
            | false =>
              have HY := Lib.hid (HbadL.out (by rw [Hbd.out]; rfl))
              go_wp2_with fail
              refine bodyPost_ret (v := .tuple #[.agg #[.string ⟨#[]⟩, .int .i64 0, .int .i64 0, .int .i64 0, .slice none 0 0], .int .i64 a0, .int .i64 8]) (by simp [results, Tryz.results22, go_sem, kz]) rfl ?_
              exact fparse_zero (k := a0) HY.out (bl_five (g := w.heap.size + 1) HP2.out.bl (Nat.le_succ _) _ _ _ _ _)
            | true =>
            cases hp with
            | false =>
              have HY := Lib.hid (HbadL.out (by rw [Hbd.out]; rfl))
              go_wp2_with fail
              refine bodyPost_ret (v := .tuple #[.agg #[.string ⟨#[]⟩, .int .i64 0, .int .i64 0, .int .i64 0, .slice none 0 0], .int .i64 a0, .int .i64 8]) (by simp [results, Tryz.results22, go_sem, kz]) rfl ?_
              exact fparse_zero (k := a0) HY.out (bl_five (g := w.heap.size + 1) HP2.out.bl (Nat.le_succ _) _ _ _ _ _)
            | true =>
            cases hse : tp.isEmpty with
            | true =>
              have HY := Lib.hid (HbadL.out (by rw [Hbd.out, hse]; rfl))
              go_wp2_with fail
              refine bodyPost_ret (v := .tuple #[.agg #[.string ⟨#[]⟩, .int .i64 0, .int .i64 0, .int .i64 0, .slice none 0 0], .int .i64 a0, .int .i64 8]) (by simp [results, Tryz.results22, go_sem, kz]) rfl ?_
              exact fparse_zero (k := a0) HY.out (bl_five (g := w.heap.size + 1) HP2.out.bl (Nat.le_succ _) _ _ _ _ _)
            | false =>
            cases hpr : printB tp with
            | false =>
              have HY := Lib.hid (HbadL.out (by rw [Hbd.out, hse, hpr]; rfl))
              go_wp2_with (go_at_call 84; refine (printable_any tp _ (by omega)).mono ?_; rintro e w' ⟨rfl, rfl⟩)
              refine bodyPost_ret (v := .tuple #[.agg #[.string ⟨#[]⟩, .int .i64 0, .int .i64 0, .int .i64 0, .slice none 0 0], .int .i64 a0, .int .i64 8]) (by simp [results, Tryz.results22, go_sem, kz]) rfl ?_
              exact fparse_zero (k := a0) HY.out (bl_five (g := w.heap.size + 1) HP2.out.bl (Nat.le_succ _) _ _ _ _ _)
            | true =>
              have HG := Lib.hid (show ¬ badLetter t' = true by rw [Hbd.out, hse, hpr]; decide)
              have Hpr := Lib.hid hpr
              clear hpr
              go_upto_region 14 with fail
              go_wp2_with (go_at_call 84; refine (printable_any tp _ (by omega)).mono ?_; rintro e w' ⟨rfl, rfl⟩; rw [Hpr.out]; refine Hid.out ?_)
              refine Lib.hid ?_
              go_upto_region 17 with fail
              obtain ⟨w6, hw6⟩ : ∃ x, x = w'.alloc (.cells #[.string ⟨tp.toArray⟩, .int .i64 0, .int .i64 a, .slice none 0 0] 122) := ⟨_, rfl⟩
              obtain ⟨g15, hg15⟩ : ∃ x, x = w'.heap.size := ⟨_, rfl⟩
              have hClr : ∀ g, g15 ≤ g → Clr V ls g := fun g hg => HP2.out.clr (by rw [hg15] at hg; exact hg)
              have h15 : g9 + 1 ≤ g15 := by rw [hg15]; exact HP2.out.sz
              have hP6 : PSt w w6 g9 (g9 + 1) rs ⟨nm.toArray⟩ a b c V ls := by rw [hw6]; exact HP2.out.on ((Bl.refl _).alloc _)
              have b615 : Blk w6 g15 122 #[.string ⟨tp.toArray⟩, .int .i64 ((0 : Nat) : Int), .int .i64 a, .slice none 0 0] := by rw [hw6, hg15]; exact Blk.new _ _ _
              have l615 : g15 + 1 ≤ w6.heap.size := by rw [hw6, hg15]; simp
              rw [← hw6, ← hg15]
              have k9 := hP6.b9.all5
              have HClr := Lib.hid hClr; have H15 := Lib.hid h15; have HP6 := Lib.hid hP6; have B615 := Lib.hid b615; have L615 := Lib.hid l615
              clear hw6 hg15 hClr h15 hP6 b615 l615 HP2 kz
              go_wp2_with fail
              go_loopw [5, 81] (fun u v wr => ∃ (y : Nat) (t2 : List UInt8) (Wd : Nat) (P : List Bool) (R : Value), v = .int .i64 y ∧ y ≤ a ∧ u = .int .i64 ((a0 + y : Nat) : Int) ∧ rowsF (a - y) y t2 Wd P = rowsF a 0 rs 0 [] ∧ PSt w wr g9 (g9 + 1) t2 ⟨nm.toArray⟩ a b c V ls ∧
                Blk wr g15 122 #[.string ⟨tp.toArray⟩, .int .i64 (Wd : Nat), .int .i64 a, R] ∧ wr.ownsRow (g15 + 1) 4 1 R P.length (P.map .bool) ∧ g15 + 1 ≤ wr.heap.size ∧ y + t2.length ≤ rs.length ∧ P.length + t2.length ≤ rs.length ∧ Wd ≤ 1048576) (fun _ v _ => a - (RowKit.intOf v).toNat)
              case atStart => exact ⟨0, rs, 0, [], _, rfl, Nat.zero_le _, rfl, rfl, HP6.out, B615.out, World.ownsRow_nil _ _ _ _, L615.out, by omega, by simp, by omega⟩
              case round =>
                obtain ⟨y, t2, Wd, P, R, rfl, hy, rfl, hrow, hPr, hb15, hown, hsz15, hyl, hPl, hWd⟩ := hrel
                clear HP6 B615 L615 k9
                obtain ⟨RA, cR, rfl, -⟩ := own_reads hown
                have HRow := Lib.hid hrow; have HPr := Lib.hid hPr; have HB15 := Lib.hid hb15; have HOwn := Lib.hid hown; have HSz := Lib.hid hsz15
                have k9 := hPr.b9.all5
                clear hrow hPr hb15 hown hsz15
                by_cases hlt : y < a
                · have hnx := next_any w.heap.size t2 wr HPr.out.b1 (by omega) (HC.out.bl HPr.out.bl)
                  unfold NextRes at hnx
                  have hcl := fun h => cut_len (t := t2) h
                  have hcl2 := cut_le t2 10
                  have hbd : badLine t2 Wd y = (!(Lib.cut t2 [10]).2.2 || ((Lib.cut t2 [10]).1.isEmpty || (!dotL (Lib.cut t2 [10]).1 || (decide (0 < y) && !decide ((Lib.cut t2 [10]).1.length = Wd))))) := rfl
                  have hgo2 := fun (hb : ¬ badLine t2 Wd y = true) => (rowsF_go (P := P) hlt hb).symm.trans HRow.out
                  have hbad2 : badLine t2 Wd y = true → fontOf t = zeroF 8 (a0 + y + 1) := fun hb => HX.out.trans (fontRest_inl (HLeft.out.symm.trans (Hrw.out HG.out y (HRow.out.symm.trans (rowsF_bad hlt hb)))))
                  obtain ⟨l2, hl2'⟩ : ∃ x, x = (Lib.cut t2 [10]).1 := ⟨_, rfl⟩
                  obtain ⟨r2, hr2'⟩ : ∃ x, x = (Lib.cut t2 [10]).2.1 := ⟨_, rfl⟩
                  obtain ⟨f2, hf2'⟩ : ∃ x, x = (Lib.cut t2 [10]).2.2 := ⟨_, rfl⟩
                  rw [← hl2', ← hr2', ← hf2'] at hnx hcl
                  rw [← hl2', ← hf2'] at hbd
                  rw [← hl2', ← hr2'] at hcl2 hgo2
                  have ll2 : l2.length ≤ 1048576 := by omega
                  have lr2 : r2.length ≤ t2.length := by omega
                  have Hnx2 := Lib.hid hnx; have Hcl2 := Lib.hid hcl; have Hbd2 := Lib.hid hbd; have Hgo2 := Lib.hid hgo2; have Hbad2 := Lib.hid hbad2
                  clear hnx hcl hbd hgo2 hbad2 hl2' hr2' hf2' hcl2
                  go_wp2_with fail
                  refine Hnx2.out.mono ?_
                  rintro e wz ⟨wx, rfl, hbx, hwz⟩
                  have hP7 : PSt w wz g9 (g9 + 1) r2 ⟨nm.toArray⟩ a b c V ls := by rw [hwz]; exact HPr.out.next hbx r2
                  have hg90 := hP7.g9B
                  have b715 : Blk wz g15 122 #[.string ⟨tp.toArray⟩, .int .i64 (Wd : Nat), .int .i64 a, .slice RA P.length cR] := by rw [hwz]; exact (HB15.out.bl hbx).far (by have := H15.out; show g15 ≠ w.heap.size; omega) _
                  have ho7 : wz.ownsRow (g15 + 1) 4 1 (.slice RA P.length cR) P.length (P.map .bool) := by rw [hwz]; exact ownsRow_setCell_below (own_bl HOwn.out hbx) (by have := H15.out; show w.heap.size < g15 + 1; omega) _
                  have ls7 : g15 + 1 ≤ wz.heap.size := by rw [hwz]; have := HSz.out; have := hbx.le; simp; omega
                  have HP7 := Lib.hid hP7; have B715 := Lib.hid b715; have HO7 := Lib.hid ho7; have LS7 := Lib.hid ls7
                  clear hwz hbx hP7 b715 ho7 ls7 hg90 k9
                  have kz := HP7.out.b2.all5
                  have k15 := B715.out.all4
                  cases f2 with
                  | false =>
                    have HY := Lib.hid (Hbad2.out (by rw [Hbd2.out]; rfl))
                    go_wp2_with fail
                    refine bodyPost_ret (v := .tuple #[.agg #[.string ⟨#[]⟩, .int .i64 0, .int .i64 0, .int .i64 0, .slice none 0 0], .int .i64 (a0 + y + 1), .int .i64 8]) (by simp [results, Tryz.results22, go_sem, kz]) rfl ?_
                    exact fparse_zero (k := (a0 + y + 1)) HY.out (bl_five (g := w.heap.size + 1) HP7.out.bl (Nat.le_succ _) _ _ _ _ _)
                  | true =>
                  have HL2r := Lib.hid (Hcl2.out rfl)
                  clear Hcl2
                  cases hle : l2.isEmpty with
                  | true =>
                    have HY := Lib.hid (Hbad2.out (by rw [Hbd2.out, hle]; rfl))
                    go_wp2_with fail
                    refine bodyPost_ret (v := .tuple #[.agg #[.string ⟨#[]⟩, .int .i64 0, .int .i64 0, .int .i64 0, .slice none 0 0], .int .i64 (a0 + y + 1), .int .i64 8]) (by simp [results, Tryz.results22, go_sem, kz]) rfl ?_
                    exact fparse_zero (k := (a0 + y + 1)) HY.out (bl_five (g := w.heap.size + 1) HP7.out.bl (Nat.le_succ _) _ _ _ _ _)
                  | false =>
                  go_upto_region 22 with fail
                  have Htr := Lib.hid (trimHd2_any l2 wz ll2)
                  cases hd : dotL l2 with
                  | false =>
                    have HY := Lib.hid (Hbad2.out (by rw [Hbd2.out, hle, hd]; rfl))
                    go_wp2_with fail
                    refine Htr.out.mono ?_
                    rintro e w7 ⟨r, rfl, hr, hb7⟩
                    rw [hd] at hr
                    have kz := (HP7.out.on hb7).b2.all5
                    have Hb7 := Lib.hid hb7
                    clear hb7
                    go_wp2_with fail
                    refine bodyPost_ret (v := .tuple #[.agg #[.string ⟨#[]⟩, .int .i64 0, .int .i64 0, .int .i64 0, .slice none 0 0], .int .i64 (a0 + y + 1), .int .i64 8]) (by simp [results, Tryz.results22, go_sem, kz]) rfl ?_
                    exact fparse_zero (k := (a0 + y + 1)) HY.out (bl_five (g := w.heap.size + 1) (HP7.out.on Hb7.out).bl (Nat.le_succ _) _ _ _ _ _)
                  | true =>
                  by_cases hw : 0 < y ∧ l2.length ≠ Wd
                  · have hx1 : 0 < (y : Int) := by omega
                    have hx2 : ((l2.length : Int) != (Wd : Int)) = true := by simp; omega
                    have hx3 : (⟨l2.toArray⟩ : ByteArray).size = l2.length := Lib.size_mk l2
                    have HY := Lib.hid (Hbad2.out (by rw [Hbd2.out, hle, hd, decide_eq_true hw.1, decide_eq_false hw.2]; rfl))
                    go_wp2_with fail
                    refine Htr.out.mono ?_
                    rintro e w7 ⟨r, rfl, hr, hb7⟩
                    rw [hd] at hr
                    have kz := (HP7.out.on hb7).b2.all5
                    have k15 := (B715.out.bl hb7).all4
                    have Hb7 := Lib.hid hb7
                    clear hb7
                    go_wp2_with fail
                    refine bodyPost_ret (v := .tuple #[.agg #[.string ⟨#[]⟩, .int .i64 0, .int .i64 0, .int .i64 0, .slice none 0 0], .int .i64 (a0 + y + 1), .int .i64 8]) (by simp [results, Tryz.results22, go_sem, kz]) rfl ?_
                    exact fparse_zero (k := (a0 + y + 1)) HY.out (bl_five (g := w.heap.size + 1) (HP7.out.on Hb7.out).bl (Nat.le_succ _) _ _ _ _ _)
                  · have HX2 := Lib.hid (Hgo2.out (by
                      rw [Hbd2.out, hd, hle]
                      rcases Nat.eq_zero_or_pos y with h | h
                      · rw [h]; simp
                      · have : l2.length = Wd := by
                          by_cases h2 : l2.length = Wd
                          · exact h2
                          · exact absurd ⟨h, h2⟩ hw
                        simp [this]))
                    have hgd : (¬ 0 < (y : Int) ∧ True) ∨ (0 < (y : Int) ∧ ((l2.length : Int) != (Wd : Int)) = false) := by
                      rcases Nat.eq_zero_or_pos y with h | h
                      · exact Or.inl ⟨by omega, trivial⟩
                      · refine Or.inr ⟨by omega, ?_⟩
                        have : l2.length = Wd := by
                          by_cases h2 : l2.length = Wd
                          · exact h2
                          · exact absurd ⟨h, h2⟩ hw
                        simp [this]
                    have hx3 : (⟨l2.toArray⟩ : ByteArray).size = l2.length := Lib.size_mk l2
                    have hl2r := HL2r.out
                    clear hw hl2r
                    rcases hgd with ⟨hx1, _⟩ | ⟨hx1, hx2⟩
                    all_goals
                      go_wp2_with fail
                      refine Htr.out.mono ?_
                      rintro e w7 ⟨r, rfl, hr, hb7⟩
                      rw [hd] at hr
                      have b815 := (B715.out.bl hb7).set_ 1 (.int .i64 (l2.length : Int))
                      simp only [List.setIfInBounds_toArray, List.set_cons_zero, List.set_cons_succ] at b815
                      have hP8 := (HP7.out.on hb7).far (p := ⟨g15, 1, none⟩) H15.out (HClr.out g15 (Nat.le_refl _)) (.int .i64 (l2.length : Int))
                      have ho8 := ownsRow_setCell_below (own_bl HO7.out hb7) (a := ⟨g15, 1, none⟩) (Nat.lt_succ_self _) (.int .i64 (l2.length : Int))
                      have ls8 : g15 + 1 ≤ (w7.setCell ⟨g15, 1, none⟩ (.int .i64 (l2.length : Int))).heap.size := by have := LS7.out; have := hb7.le; simp; omega
                      have k15 := (B715.out.bl hb7).all4
                      have HP8 := Lib.hid hP8; have B815 := Lib.hid b815; have HO8 := Lib.hid ho8; have LS8 := Lib.hid ls8
                      clear hb7 b815 hP8 ho8 ls8 kz
                      go_wp2_with fail
                      go_loopw [122] (fun v wi => ∃ (i : Nat) (R' : Value), i ≤ l2.length ∧ v = .int .i64 i ∧ PSt w wi g9 (g9 + 1) r2 ⟨nm.toArray⟩ a b c V ls ∧ Blk wi g15 122 #[.string ⟨tp.toArray⟩, .int .i64 (l2.length : Nat), .int .i64 a, R'] ∧
                        wi.ownsRow (g15 + 1) 4 1 R' (P.length + i) ((P ++ (l2.take i).map (· == 35)).map .bool) ∧ g15 + 1 ≤ wi.heap.size) (fun v _ => l2.length - (RowKit.intOf v).toNat)
                      case atStart => exact ⟨0, _, Nat.zero_le _, rfl, HP8.out, B815.out, by simpa using HO8.out, LS8.out⟩
                      case round =>
                        rename World => wi
                        obtain ⟨i, R', hi, rfl, hPi, hbi, hoi, hwi⟩ := hrel
                        clear k15 HP8 B815 HO8 LS8
                        have HPi := Lib.hid hPi
                        clear hPi
                        by_cases hli : i < l2.length
                        · have hgx : ∀ h, l2[i]? = some ((⟨l2.toArray⟩ : ByteArray)[i]'h) := fun h => Lib.getElem_mk l2 i h
                          have hih : i < (⟨l2.toArray⟩ : ByteArray).size := by rw [hx3]; exact hli
                          have hgi := hgx hih
                          obtain ⟨ch, hc⟩ : ∃ c, c = (⟨l2.toArray⟩ : ByteArray)[i]'hih := ⟨_, rfl⟩
                          rw [← hc] at hgi
                          have htk : (P ++ (l2.take (i + 1)).map (· == 35)).map Value.bool = (P ++ (l2.take i).map (· == 35)).map Value.bool ++ [.bool ((ch.toNat : Int) == 35)] := by
                            rw [List.take_add_one, hgi, u8_is35]
                            simp
                          have Htk := Lib.hid htk
                          have ki := hbi.all4
                          have Hbi := Lib.hid hbi; have Hwi := Lib.hid hwi; have Hoi := Lib.hid hoi
                          clear htk hgx hgi hbi hwi
                          have hc' := hc.symm
                          clear hc
                          go_upto_region 28 with fail
                          refine wp_region_flow [(true, 0), (true, 1), (true, 2), (true, 3), (true, 4), (true, 5), (true, 6), (false, 7), (false, 8), (true, 9), (true, 10), (false, 11)] (fun i => i == 8 || i == 11) (by kernel_rfl) (by kernel_rfl) (by kernel_rfl) (by kernel_rfl) ?_
                          iterate 2
                            apply Flow.calm2 _ _ rfl rfl
                            · intro w' hb' K' hK'
                              obtain ⟨hc', hf'⟩ := hb'.rule
                              go_simp
                              try go_ints
                              exact hK'
                            · intro K' hK'
                              simp only [Act.put, List.setIfInBounds_toArray, List.set_cons_zero, List.set_cons_succ]
                              exact hK'
                          iterate 1
                            apply Flow.calm2 _ _ rfl rfl
                            · intro w' hb' K' hK'
                              obtain ⟨hc', hf'⟩ := hb'.rule
                              go_simp
                              try go_ints
                              exact hK'
                            · intro K' hK'
                              simp only [Act.put, List.setIfInBounds_toArray, List.set_cons_zero, List.set_cons_succ]
                              exact hK'
                          iterate 2
                            apply Flow.mv _ rfl
                            · intro K' hK'
                              simp only [Act.put, Act.eval, List.setIfInBounds_toArray, List.set_cons_zero, List.set_cons_succ, arr_getD, List.getD_cons_zero, List.getD_cons_succ]
                              exact hK'
                          iterate 1
                            apply Flow.calm2 _ _ rfl rfl
                            · intro w' hb' K' hK'
                              obtain ⟨hc', hf'⟩ := hb'.rule
                              go_simp
                              try go_ints
                              exact hK'
                            · intro K' hK'
                              simp only [Act.put, List.setIfInBounds_toArray, List.set_cons_zero, List.set_cons_succ]
                              exact hK'
                          iterate 1
                            apply Flow.calm2 _ _ rfl rfl
                            · intro w' hb' K' hK'
                              obtain ⟨hc', hf'⟩ := hb'.rule
                              go_simp
                              try go_ints
                              exact hK'
                            · intro K' hK'
                              simp only [Act.put, List.setIfInBounds_toArray, List.set_cons_zero, List.set_cons_succ]
                              exact hK'
                          apply Flow.move rfl
                          go_wp2_with fail
                          first | refine ⟨fun _ => ?_, ?_⟩ | refine ⟨?_, ?_⟩
                          · repeat' (first | exact Bl.refl _ | refine Bl.drewL ?_ | refine Bl.drew ?_ | refine Bl.alloc ?_ _)
                          apply Flow.move rfl
                          refine wpList_append_one (w1 := w) rfl (.tmp 127) (.tmp 132) 26 rfl 4 (.bool false) 1 Tryz.underlying26 info_bool rfl (g15 + 1) R' (P.length + i) _ rfl _ rfl rfl HPi.out.bl.drew (by have := HPi.out.g9B; have := H15.out; omega) Hwi.out (own_bl hoi (Bl.refl _).drew) (by omega) (by unfold maxLen; omega) ?_
                          intro v' w8 hown' hbw8 hg8
                          obtain ⟨A', c8, rfl, _⟩ := own_reads hown'
                          have hrow : ∀ g, R'.ownBlock = some g → g15 + 1 ≤ g := fun g hg => (Hoi.out.lt g hg).1
                          have hP9 : PSt w w8 g9 (g9 + 1) r2 ⟨nm.toArray⟩ a b c V ls := (HPi.out.on ((Bl.refl _).drew.alloc _)).grown hg8 hbw8 (fun g hg => ⟨by have := hrow g hg; have := H15.out; omega, HClr.out g (by have := hrow g hg; omega)⟩)
                          have hb9' := (Hbi.out.drew.alloc _).grown hg8 (fun e => by have := hrow g15 e.symm; omega)
                          have k8 := hb9'.all4
                          have hs8 : g15 + 1 ≤ w8.heap.size := by have h5 := hg8.size; have := Hwi.out; simp at h5; omega
                          have hst : PSt w (w8.setCell ⟨g15, 3, none⟩ (.slice A' (P.length + i + 1) c8)) g9 (g9 + 1) r2 ⟨nm.toArray⟩ a b c V ls ∧ Blk (w8.setCell ⟨g15, 3, none⟩ (.slice A' (P.length + i + 1) c8)) g15 122 #[.string ⟨tp.toArray⟩, .int .i64 (l2.length : Nat), .int .i64 a, .slice A' (P.length + i + 1) c8] ∧
                              (w8.setCell ⟨g15, 3, none⟩ (.slice A' (P.length + i + 1) c8)).ownsRow (g15 + 1) 4 1 (.slice A' (P.length + i + 1) c8) (P.length + (i + 1)) ((P ++ (l2.take (i + 1)).map (· == 35)).map .bool) ∧ g15 + 1 ≤ (w8.setCell ⟨g15, 3, none⟩ (.slice A' (P.length + i + 1) c8)).heap.size := by
                            refine ⟨hP9.far H15.out (HClr.out g15 (Nat.le_refl _)) _, by simpa using hb9'.set_ 3 (.slice A' (P.length + i + 1) c8), ?_, by simpa using hs8⟩
                            rw [Htk.out]
                            exact ownsRow_setCell_below hown' (Nat.lt_succ_self _) _
                          have Hst := Lib.hid hst
                          clear hst hb9' hown' hg8 hrow hbw8 hs8 hP9 hoi
                          go_wp2_with fail
                          refine ⟨fun hcl => absurd hcl (by decide), ?_⟩
                          iterate 2
                            apply Flow.calm2 _ _ rfl rfl
                            · intro w' hb' K' hK'
                              obtain ⟨hc', hf'⟩ := hb'.rule
                              go_simp
                              try go_ints
                              exact hK'
                            · intro K' hK'
                              simp only [Act.put, List.setIfInBounds_toArray, List.set_cons_zero, List.set_cons_succ]
                              exact hK'
                          refine Flow.tail _ rfl ?_
                          go_wp2_with fail
                          exact ⟨⟨i + 1, _, hli, by go_num, Hst.out⟩, by simp [RowKit.intOf]; omega⟩
                        · obtain rfl : i = l2.length := by omega
                          rw [List.take_length] at hoi
                          have e : (P ++ l2.map (· == 35)).length = P.length + l2.length := by simp
                          rw [← e] at hoi
                          have Hst := Lib.hid (And.intro hbi (And.intro hoi hwi))
                          have Hln := Lib.hid e
                          clear hbi hoi hwi e
                          go_wp2_with fail
                          exact ⟨⟨y + 1, r2, l2.length, P ++ l2.map (· == 35), R', by go_num, hlt, by go_num, HX2.out, HPi.out, Hst.out.1, Hst.out.2.1, Hst.out.2.2, by have := HL2r.out; omega, by rw [Hln.out]; have := HL2r.out; omega, ll2⟩, by simp [RowKit.intOf]; omega⟩
                · obtain rfl : a = y := by omega
                  have hst := Hgo.out HG.out _ (HRow.out.symm.trans rowsF_end)
                  have k15 := HB15.out.all4
                  have hLI : LtrIn wr (g9 + 1) ⟨tp, Wd, a, RA, P.length, cR, P⟩ := own_more HOwn.out (by have := H15.out; omega)
                  have HLI := Lib.hid hLI; have HSt := Lib.hid hst
                  have HCl := Lib.hid (Hcl.out trivial)
                  clear hst hLI Hcl
                  go_wp2_with (at_builtin; refine wpList_append_bl (w1 := w) rfl (.tmp 139) (.tmp 141) 43 rfl 122 (.agg #[.string ⟨#[]⟩, .int .i64 0, .int .i64 0, .slice none 0 0]) 4 56 Tryz.underlying43 info_ltr rfl (by omega) (g9 + 1) V ls.length (ltrCells ls) rfl ?hb ?hB ?hBr ?hown (some ⟨wr.heap.size, 0, none⟩) 1 1 [.string ⟨tp.toArray⟩, .int .i64 (Wd : Nat), .int .i64 a, .slice RA P.length cR] rfl ?hr ?h1 ?c1 ?c2 ?_)
                  case hb => exact HPr.out.bl.alloc _
                  case hB => have := HPr.out.g9B; omega
                  case hBr => have := HPr.out.sz; simp; omega
                  case hown => exact HPr.out.own.alloc _
                  case hr => exact (Blk.new wr _ _).reads 1 4 rfl
                  case h1 => simp [Value.oneCell']
                  case c1 => unfold maxLen; omega
                  case c2 => omega
                  intro v' w8 hown8 hb8 hg8
                  obtain ⟨RV, cv, rfl, -⟩ := own_reads hown8
                  have hP9 := (HPr.out.on ((Bl.refl _).alloc (.cells #[.string ⟨tp.toArray⟩, .int .i64 (Wd : Nat), .int .i64 a, .slice RA P.length cR] 122))).push (l := ⟨tp, Wd, a, RA, P.length, cR, P⟩) (V' := .slice RV (ls.length + 1) cv) (own_bl HLI.out ((Bl.refl _).alloc _)) hg8 hb8 hown8
                  have k9 := ((HPr.out.b9.alloc (.cells #[.string ⟨tp.toArray⟩, .int .i64 (Wd : Nat), .int .i64 a, .slice RA P.length cR] 122)).grown hg8 (fun e => by have := (HPr.out.own.lt g9 e.symm).1; omega)).all5
                  have HP9 := Lib.hid hP9
                  clear hown8 hb8 hg8 hP9 k15
                  go_wp2_with fail
                  have hfc : (ls ++ [(⟨tp, Wd, a, RA, P.length, cR, P⟩ : Ltr)]).map Ltr.face = (ls0 ++ [mkLtr a tp Wd P]).map Ltr.face := by
                    rw [List.map_append, List.map_append, HFace.out]
                    congr 1
                  refine ⟨⟨t2, a0 + a + 1, ls ++ [⟨tp, Wd, a, RA, P.length, cR, P⟩], ls0 ++ [mkLtr a tp Wd P], _, ?_, HSt.out.symm.trans HLeft.out, hfc, HP9.out, ?_, ?_, fun x hx => ?_⟩, ?_⟩
                  · go_num
                  · have := HCl.out; omega
                  · rw [List.length_append]; have := HCl.out; simp; omega
                  · rcases List.mem_append.1 hx with hx | hx
                    · exact HTx.out x hx
                    · rw [List.mem_singleton.1 hx]; exact htl
                  · rw [boxLen_at HP9.out.b1, boxLen_at HP.out.b1]
                    have := HCl.out
                    omega
          | true =>
            obtain ⟨L, cc, e1, -⟩ := own_reads HP.out.own
            subst e1
            have hLO : LtrsOwn wr (g9 + 1) (.slice L ls.length cc) ls := ⟨HP.out.own, HP.out.all⟩
            have hck := check_any nm a b c L cc ls wr (hLO.at_ HTx.out) (by have := HNm.out; omega) (by omega)
            have hfe : fontErr (nameB nm) a b c ls = fontErr (nameB nm) a b c ls0 := fontErr_key (keys_eq HFace.out)
            have hX2 : leftL a r0 1 [] = .inr ls0 := HLeft.out.symm.trans (leftL_nil he)
            obtain ⟨fe, hfe2⟩ : ∃ x, x = fontErr (nameB nm) a b c ls := ⟨_, rfl⟩
            rw [← hfe2] at hck hfe
            have Hck := Lib.hid hck; have Hfe := Lib.hid hfe; have HX2 := Lib.hid hX2; have HLO := Lib.hid hLO
            clear hck hfe hfe2 hX2 hLO
            go_wp2_with fail
            refine Hck.out.mono ?_
            rintro e w7 ⟨rfl, hb7⟩
            have hP7 := HP.out.on hb7
            have kz := hP7.b2.all5
            have k9 := hP7.b9.all5
            have HP7 := Lib.hid hP7
            clear hb7 hP7 kb
            by_cases hz : fe = 0
            case neg =>
              have hq : (fe != 0) = true := by simp [hz]
              have HY := Lib.hid (show fontOf t = zeroF fe 0 from HX.out.trans ((fontRest_err HX2.out (by rw [← Hfe.out]; exact hz)).trans (by rw [← Hfe.out])))
              clear hz
              go_wp2_with fail
              refine bodyPost_ret (v := .tuple #[.agg #[.string ⟨#[]⟩, .int .i64 0, .int .i64 0, .int .i64 0, .slice none 0 0], .int .i64 0, .int .i64 fe]) (by simp [results, Tryz.results22, go_sem, kz]) rfl ?_
              exact fparse_zero (k := 0) HY.out (bl_five (g := w.heap.size + 1) HP7.out.bl (Nat.le_succ _) _ _ _ _ _)
            case pos =>
              subst hz
              have HY := Lib.hid (HX.out.trans (fontRest_ok HX2.out Hfe.out.symm))
              go_wp2_with fail
              have hg := HP7.out.g9B
              have hfin := (((((show LtrsOwn w7 (g9 + 1) (.slice L ls.length cc) ls from ⟨HP7.out.own, HP7.out.all⟩).set (p := ⟨w.heap.size + 1, 0, none⟩) (by show w.heap.size + 1 < g9 + 1; omega) (.string ⟨nm.toArray⟩)).set (p := ⟨w.heap.size + 1, 1, none⟩) (by show w.heap.size + 1 < g9 + 1; omega) (.int .i64 a)).set (p := ⟨w.heap.size + 1, 2, none⟩) (by show w.heap.size + 1 < g9 + 1; omega) (.int .i64 b)).set (p := ⟨w.heap.size + 1, 3, none⟩) (by show w.heap.size + 1 < g9 + 1; omega) (.int .i64 c)).set (p := ⟨w.heap.size + 1, 4, none⟩) (by show w.heap.size + 1 < g9 + 1; omega) (.slice L ls.length cc)
              refine bodyPost_ret (v := .tuple #[.agg #[.string ⟨nm.toArray⟩, .int .i64 a, .int .i64 b, .int .i64 c, .slice L ls.length cc], .int .i64 0, .int .i64 0]) (by simp [results, Tryz.results22, go_sem, kz]) rfl ?_
              exact ⟨nm, a, b, c, ls, ls0, L, cc, 0, 0, rfl, HY.out, HFace.out, hfin.at_ HTx.out, own_cap hfin.1, bl_five (g := w.heap.size + 1) HP7.out.bl (Nat.le_succ _) _ _ _ _ _⟩
end Go.Proofs.YtjelhdpcaileiaaGreatDoor


/-! bedref2.FontText: the text of a right font. -/
namespace Go.Proofs.YtjelhdpcaileiaaGreatDoor
open Go.RowKit Go.Shelf

def headTo (nm : List UInt8) (ns : List Nat) : List UInt8 := [102, 111, 110, 116, 32] ++ nm ++ ns.flatMap (fun n => 32 :: Lib.decDigits n)
theorem headTo_snoc (nm : List UInt8) (ns : List Nat) (n : Nat) : headTo nm (ns ++ [n]) = headTo nm ns ++ (32 :: Lib.decDigits n) := by
  unfold headTo
  rw [List.flatMap_append]
  simp
theorem headTo_full (nm : List UInt8) (a b c : Nat) : headTo nm [a, b, c] ++ [10] = fontTx nm a b c [] := by
  unfold headTo fontTx
  rw [fontLine_eq]
  simp [fontK, ltrsTx]
theorem headTo_len {nm : List UInt8} {ht gap sp : Nat} {ls : List Ltr} (h : FontFit nm ht gap sp ls) (k : Nat) : (headTo nm ([ht, gap, sp].take k)).length ≤ 200 := by
  have h1 := h.bnm
  have h2 := dec_len2 h.bht
  have h3 := dec_len2 h.bgap
  have h4 := dec_len2 h.bsp
  unfold headTo
  rcases k with _ | _ | _ | k
  · simp; omega
  · simp; omega
  · simp; omega
  · simp; omega

set_option maxRecDepth 100000 in
set_option maxHeartbeats 4000000 in
theorem fontText_any (nm : List UInt8) (ht gap sp : Nat) (L : Option Addr) (c : Nat) (ls : List Ltr) (w : World) (hL : LtrsAt w L ls) (hF : FontFit nm ht gap sp ls) (hN : NumOk w) :
    Calls Tryz.prog 20 #[.agg #[.string ⟨nm.toArray⟩, .int .i64 ht, .int .i64 gap, .int .i64 sp, .slice L ls.length c]] w fun e w' => e = .returned (.string ⟨(fontTx nm ht gap sp ls).toArray⟩) ∧ Bl w w' := by
  obtain ⟨NB, hNB⟩ : ∃ r : ByteArray, r = ⟨nm.toArray⟩ := ⟨_, rfl⟩
  rw [← hNB]
  let w1 := (w).alloc (.cells #[.string NB, .int .i64 ht, .int .i64 gap, .int .i64 sp, .slice L ls.length c] 45)
  have w1b : Bl w w1 := (Bl.refl w).alloc _
  have w11 : Blk w1 (w.heap.size) 45 #[.string NB, .int .i64 ht, .int .i64 gap, .int .i64 sp, .slice L ls.length c] := by
    have h0 := Blk.new (w) 45 #[.string NB, .int .i64 ht, .int .i64 gap, .int .i64 sp, .slice L ls.length c]
    exact h0
  have HL := Lib.hid (hL.bl w1b); have HN := Lib.hid (hN.bl w1b); have HF := Lib.hid hF; have HNB := Lib.hid hNB
  have k1 := w11.all5
  have ln : NB.size ≤ 40 := by rw [hNB, Lib.size_mk]; exact hF.bnm
  have s1 : ¬ (9223372036854775807 < 5 + NB.size) := by omega
  have hln : ls.length ≤ 200 := hF.bn
  have lw1 : w1.heap.size = w.heap.size + 1 := by simp [w1]
  have bI := Blk.new w1 3 #[.int .i64 ht, .int .i64 gap, .int .i64 sp]
  have hR := bI.reads 3 1 rfl
  rw [lw1] at hR
  have hb2 : Bl w1 (w1.alloc (.cells #[.int .i64 ht, .int .i64 gap, .int .i64 sp] 3)) := (Bl.refl _).alloc _
  have k2 := (w11.bl hb2).all5
  have HR := Lib.hid hR; have Hb2 := Lib.hid hb2
  have HS0 := Lib.hid (show (⟨#[102, 111, 110, 116, 32]⟩ : ByteArray) ++ NB = ⟨(headTo nm ([ht, gap, sp].take 0)).toArray⟩ by
    rw [hNB]
    show (⟨[102, 111, 110, 116, 32].toArray⟩ : ByteArray) ++ _ = _
    simp only [bap]
    unfold headTo
    simp)
  clear hL hN hF hNB bI hR hb2
  go_enter Tryz.func20, Tryz.ntmps20
  go_wp2_with fail
  go_loopw [3, 19] (fun u v wr => ∃ k : Nat, k ≤ 3 ∧ v = .int .i64 k ∧ u = .string ⟨(headTo nm ([ht, gap, sp].take k)).toArray⟩ ∧ Bl w1 wr ∧ Reads wr 1 (some ⟨w.heap.size + 1, 0, none⟩) 3 [.int .i64 ht, .int .i64 gap, .int .i64 sp]) (fun _ v _ => 3 - (RowKit.intOf v).toNat)
  case atStart => exact ⟨0, Nat.zero_le _, rfl, by rw [HS0.out], Hb2.out, HR.out⟩
  case round =>
    obtain ⟨k, hk, rfl, rfl, hbr, hrd⟩ := hrel
    clear k1 k2 HS0 Hb2 HR
    clear_value w1
    obtain ⟨S, hS⟩ : ∃ r : ByteArray, r = ⟨(headTo nm ([ht, gap, sp].take k)).toArray⟩ := ⟨_, rfl⟩
    have lS : S.size ≤ 200 := by rw [hS, Lib.size_mk]; exact headTo_len HF.out k
    rw [← hS]
    have HSe := Lib.hid hS
    clear hS s1
    by_cases hlt : k < 3
    · have hkn : k < [ht, gap, sp].length := hlt
      obtain ⟨n, hn⟩ : ∃ n, [ht, gap, sp][k]? = some n := ⟨_, List.getElem?_eq_getElem hkn⟩
      have hn64 : n ≤ 64 := by
        have := List.mem_of_getElem? hn
        simp only [List.mem_cons, List.not_mem_nil, or_false] at this
        have h1 := HF.out.bht; have h2 := HF.out.bgap; have h3 := HF.out.bsp
        rcases this with rfl | rfl | rfl <;> assumption
      obtain ⟨ad, u, e1, e2, e3⟩ := hrd.at_ hlt
      have hu : u = .int .i64 n := by
        have : ([.int .i64 ht, .int .i64 gap, .int .i64 sp] : List Value) = [ht, gap, sp].map (fun (x : Nat) => Value.int .i64 x) := rfl
        rw [this, List.getElem?_map, hn] at e2
        exact (Option.some.inj e2).symm
      subst hu
      injection e1 with e1
      subst e1
      rw [add_flat] at e3
      have Hrd := Lib.hid hrd
      have hsn : headTo nm ([ht, gap, sp].take (k + 1)) = headTo nm ([ht, gap, sp].take k) ++ (32 :: Lib.decDigits n) := by
        rw [List.take_add_one, hn]
        exact headTo_snoc nm _ n
      obtain ⟨a, ha⟩ : ∃ r : ByteArray, r = ⟨(Lib.itoa n).toArray⟩ := ⟨_, rfl⟩
      have hA := Lib.hid (fun w hN => show Calls Tryz.prog 69 #[.int .i64 n] w (fun e w' => e = .returned (.string a) ∧ Bl w w') from by
        rw [ha]; exact itoa_any n (by omega) (by omega) w hN)
      have la : a.size ≤ 21 := by rw [ha, Lib.size_mk]; exact itoa_len _ (by omega) (by omega)
      have q1 : ¬ (9223372036854775807 < 1 + a.size) := by omega
      have q2 : ¬ (9223372036854775807 < S.size + (1 + a.size)) := by omega
      have HSn := Lib.hid (show S ++ (⟨#[32]⟩ ++ a) = ⟨(headTo nm ([ht, gap, sp].take (k + 1))).toArray⟩ by
        rw [hsn, HSe.out, ha]
        show _ ++ ((⟨[32].toArray⟩ : ByteArray) ++ _) = _
        simp only [bap, itoa_nat]
        rfl)
      clear hsn ha hkn hn e2 hn64 hrd
      go_wp2_with fail
      refine (hA.out _ (HN.out.bl hbr)).mono ?_
      rintro e w3 ⟨rfl, hb3⟩
      go_wp2_with fail
      exact ⟨⟨k + 1, by omega, by go_num, by rw [HSn.out], hbr.trans hb3, Hrd.out.bl hb3⟩, by simp [RowKit.intOf]; omega⟩
    · obtain rfl : k = 3 := by omega
      rw [show ((3 : Nat) : Int) = (3 : Int) from rfl]
      have k1 := (w11.bl hbr).all5
      have q1 : ¬ (9223372036854775807 < S.size + 1) := by omega
      have HS1 := Lib.hid (show S ++ ⟨#[10]⟩ = ⟨(fontTx nm ht gap sp (ls.take 0)).toArray⟩ by
        rw [HSe.out, List.take_zero, ← headTo_full]
        show _ ++ (⟨[10].toArray⟩ : ByteArray) = _
        simp only [bap]
        rfl)
      rename World => w4
      have Hc4 := Lib.hid hbr
      clear hbr hrd
      go_wp2_with fail
      go_loopw [3, 34] (fun u v wr => ∃ i : Nat, i ≤ ls.length ∧ v = .int .i64 i ∧ u = .string ⟨(fontTx nm ht gap sp (ls.take i)).toArray⟩ ∧ Bl w1 wr) (fun _ v _ => ls.length - (RowKit.intOf v).toNat)
      case atStart => exact ⟨0, Nat.zero_le _, rfl, by rw [HS1.out], Hc4.out⟩
      case round =>
        obtain ⟨i, hi, rfl, rfl, hbr⟩ := hrel
        clear k1 HS1 q1 HSe lS
        obtain ⟨S2, hS2⟩ : ∃ r : ByteArray, r = ⟨(fontTx nm ht gap sp (ls.take i)).toArray⟩ := ⟨_, rfl⟩
        have lS2 : S2.size ≤ 900000 := by rw [hS2, Lib.size_mk]; exact fontTx_take HF.out i
        by_cases hlt : i < ls.length
        · have hg : ls[i]? = some ls[i] := List.getElem?_eq_getElem hlt
          obtain ⟨l, hl⟩ : ∃ l, l = ls[i] := ⟨_, rfl⟩
          rw [← hl] at hg
          obtain ⟨ad, rfl, j1, j2, j3, j4⟩ := (HL.out.bl hbr).at_ hg
          have hmem : l ∈ ls := List.mem_of_getElem? hg
          have hA1 := (HL.out.2 l hmem).1
          obtain ⟨hltx, WW, hW1, hH1, hW2, hW3, hm, -⟩ := HF.out.bl l hmem
          have hht := HF.out.bht
          rw [hm] at hA1
          have Hpr := Lib.hid (fun wx (hb : Bl w1 wx) => printed_any WW ht l.A l.c l.bs wx (hA1.bl hb) (by omega) (by omega))
          have htk : fontTx nm ht gap sp (ls.take (i + 1)) = fontTx nm ht gap sp (ls.take i) ++ ltrTx l := by
            rw [List.take_add_one, hg]
            unfold fontTx
            rw [show (ls.take i ++ (some l).toList) = ls.take i ++ [l] from rfl, ltrsTx_snoc]
            simp
          obtain ⟨TB, hTB⟩ : ∃ r : ByteArray, r = ⟨l.text.toArray⟩ := ⟨_, rfl⟩
          have lt : TB.size ≤ 4 := by rw [hTB, Lib.size_mk]; exact hltx
          obtain ⟨PB, hPB⟩ : ∃ r : ByteArray, r = ⟨(prL l.bs WW ht).toArray⟩ := ⟨_, rfl⟩
          have lp : PB.size ≤ 5000 := by
            rw [hPB, Lib.size_mk, prL_len]
            have : ht * (WW + 1) ≤ 64 * 65 := Nat.mul_le_mul hht (by omega)
            omega
          rw [← hPB] at Hpr
          rw [← hTB] at j1
          rw [hW1] at j2
          rw [hH1] at j3
          rw [hm] at j4
          have r1 : ¬ (9223372036854775807 < 7 + TB.size) := by omega
          have r2 : ¬ (9223372036854775807 < 7 + TB.size + 1) := by omega
          have r3 : ¬ (9223372036854775807 < 7 + TB.size + 1 + PB.size) := by omega
          have r4 : ¬ (9223372036854775807 < S2.size + (7 + TB.size + 1 + PB.size)) := by omega
          have HSn := Lib.hid (show S2 ++ (⟨#[108, 101, 116, 116, 101, 114, 32]⟩ ++ TB ++ ⟨#[10]⟩ ++ PB) = ⟨(fontTx nm ht gap sp (ls.take (i + 1))).toArray⟩ by
            rw [htk, hS2, hTB, hPB]
            show _ ++ ((⟨[108, 101, 116, 116, 101, 114, 32].toArray⟩ : ByteArray) ++ _ ++ ⟨[10].toArray⟩ ++ _) = _
            simp only [bap]
            unfold ltrTx
            rw [hW1, hH1]
            simp [letK])
          rw [← hS2]
          clear hg hl hmem hW1 hH1 hW2 hW3 hm htk hTB hPB hS2 hA1
          go_upto_region 11 with fail
          obtain ⟨w9, hw9⟩ : ∃ x, x = wr.alloc (.cells #[.string TB, .int .i64 WW, .int .i64 ht, .slice l.A (WW * ht) l.c] 122) := ⟨_, rfl⟩
          have b9 : Blk w9 wr.heap.size 122 #[.string TB, .int .i64 WW, .int .i64 ht, .slice l.A (WW * ht) l.c] := by rw [hw9]; exact Blk.new _ _ _
          have hb9 : Bl w1 w9 := by rw [hw9]; exact hbr.alloc _
          rw [← hw9]
          have k9 := b9.all4
          clear hw9 j1 j2 j3 j4
          refine wp_region_flow [(true, 0), (true, 1), (true, 2), (true, 3), (true, 4), (true, 5), (true, 6), (false, 7), (true, 8), (true, 9), (true, 10)] (fun _ => false) (by kernel_rfl) (by kernel_rfl) (by kernel_rfl) (by kernel_rfl) ?_
          iterate 1
            apply Flow.mv _ rfl
            · intro K' hK'
              simp only [Act.put, Act.eval, List.setIfInBounds_toArray, List.set_cons_zero, List.set_cons_succ, arr_getD, List.getD_cons_zero, List.getD_cons_succ]
              exact hK'
          iterate 1
            apply Flow.calm2 _ _ rfl rfl
            · intro w' hb' K' hK'
              obtain ⟨hc', hf'⟩ := hb'.rule
              go_simp
              try go_ints
              exact hK'
            · intro K' hK'
              simp only [Act.put, List.setIfInBounds_toArray, List.set_cons_zero, List.set_cons_succ]
              exact hK'
          iterate 1
            apply Flow.calm2 _ _ rfl rfl
            · intro w' hb' K' hK'
              obtain ⟨hc', hf'⟩ := hb'.rule
              go_simp
              try go_ints
              exact hK'
            · intro K' hK'
              simp only [Act.put, List.setIfInBounds_toArray, List.set_cons_zero, List.set_cons_succ]
              exact hK'
          iterate 2
            apply Flow.calm2 _ _ rfl rfl
            · intro w' hb' K' hK'
              obtain ⟨hc', hf'⟩ := hb'.rule
              go_simp
              try go_ints
              exact hK'
            · intro K' hK'
              simp only [Act.put, List.setIfInBounds_toArray, List.set_cons_zero, List.set_cons_succ]
              exact hK'
          iterate 1
            apply Flow.calm2 _ _ rfl rfl
            · intro w' hb' K' hK'
              obtain ⟨hc', hf'⟩ := hb'.rule
              go_simp
              try go_ints
              exact hK'
            · intro K' hK'
              simp only [Act.put, List.setIfInBounds_toArray, List.set_cons_zero, List.set_cons_succ]
              exact hK'
          iterate 1
            apply Flow.calm2 _ _ rfl rfl
            · intro w' hb' K' hK'
              obtain ⟨hc', hf'⟩ := hb'.rule
              go_simp
              try go_ints
              exact hK'
            · intro K' hK'
              simp only [Act.put, List.setIfInBounds_toArray, List.set_cons_zero, List.set_cons_succ]
              exact hK'
          apply Flow.move rfl
          go_wp2_with fail
          refine (Hpr.out _ hb9.drew).mono ?_
          rintro e w10 ⟨rfl, HB1⟩
          go_wp2_with fail
          refine ⟨fun _ => (by first | exact HB1 | exact Bl.refl _), ?_⟩
          iterate 2
            apply Flow.calm2 _ _ rfl rfl
            · intro w' hb' K' hK'
              obtain ⟨hc', hf'⟩ := hb'.rule
              go_simp
              try go_ints
              exact hK'
            · intro K' hK'
              simp only [Act.put, List.setIfInBounds_toArray, List.set_cons_zero, List.set_cons_succ]
              exact hK'
          iterate 1
            apply Flow.asg _ rfl
            · intro K' hK'
              simp only [Act.put, Act.eval, List.setIfInBounds_toArray, List.set_cons_zero, List.set_cons_succ, arr_getD, List.getD_cons_zero, List.getD_cons_succ]
              exact hK'
          refine Flow.done ?_
          have hc10 := hb9.trans (Bl.ofDrew HB1)
          go_wp2_with fail
          exact ⟨⟨i + 1, hlt, by go_num, by rw [HSn.out], hc10⟩, by simp [RowKit.intOf]; omega⟩
        · obtain rfl : i = ls.length := by omega
          rw [List.take_length] at hS2
          rw [List.take_length]
          have Hbr := Lib.hid hbr
          clear hS2
          go_wp2_with fail
          go_ret
          exact ⟨rfl, w1b.trans Hbr.out⟩
end Go.Proofs.YtjelhdpcaileiaaGreatDoor
