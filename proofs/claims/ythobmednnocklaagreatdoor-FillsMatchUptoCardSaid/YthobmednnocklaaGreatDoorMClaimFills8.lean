/- bedref2.TextError of a right font. -/
import Derived.Test.YthobmednnocklaaGreatDoorMClaimFills7
import Derived.Test.YthobmednnocklaaGreatDoorMClaimFills4
import Derived.Test.YthobmednnocklaaGreatDoorMClaimFills3

namespace Go.Proofs.YthobmednnocklaaGreatDoor
open Go.RowKit Go.Shelf

theorem info_placed : (Tryz.prog.info? 358).map (fun i => (i.zero, i.size, i.bytes)) = some (some (.agg #[.int .i64 0, .int .i64 0]), 2, 16) := by kernel_rfl
/-- What is said of spelled's answer. -/
def SpgRes (ls : List Ltr) (gap sp : Nat) (t : List UInt8) (w : World) (e : Ending) (w' : World) : Prop := ∃ R m d wd err, e = .returned (.tuple #[.slice R m d, .int .i64 wd, .int .i64 err]) ∧ err = textErr ls t ∧ (err ≠ 0 → wd = 0) ∧
 (err = 0 → ∀ l, spelt ls t = some l → wd = ((goAll ls gap sp (0, false) l).1 : Int) ∧ m = (putAt ls gap sp (0, false) l).length ∧ m ≤ t.length ∧ Reads w' 2 R m (placedCells (putAt ls gap sp (0, false) l))) ∧ Bl w w'
theorem spg_bad {ls : List Ltr} {gap sp : Nat} {t : List UInt8} {w w' : World} {err : Int} (h : textErr ls t = err) (hz : err ≠ 0) (hb : Bl w w') : SpgRes ls gap sp t w (.returned (.tuple #[.slice none 0 0, .int .i64 0, .int .i64 err])) w' :=
 ⟨none, 0, 0, 0, err, rfl, h.symm, fun _ => rfl, fun h => absurd h hz, hb⟩
theorem putAt_len {ls : List Ltr} {gap sp : Nat} : ∀ (l : List (Option Nat)) (s : Spot), (putAt ls gap sp s l).length ≤ l.length
 | [], _ => Nat.le_refl _
 | none :: l, _ => Nat.le_succ_of_le (putAt_len l _)
 | some _ :: l, _ => Nat.succ_le_succ (putAt_len l _)
theorem bytes_at {t : List UInt8} {i : Nat} {b : UInt8} (h : t[i]? = some b) : ∃ hi : i < (⟨t.toArray⟩ : ByteArray).size, (⟨t.toArray⟩ : ByteArray)[i]'hi = b := by
 have hl := (List.getElem?_eq_some_iff.1 h).1
 have hi : i < (⟨t.toArray⟩ : ByteArray).size := by rw [Lib.size_mk]; exact hl
 exact ⟨hi, Option.some.inj ((Lib.getElem_mk t i hi).symm.trans h)⟩

set_option maxRecDepth 100000 in
set_option maxHeartbeats 8000000 in
theorem spelledG_any (nm : List UInt8) (ht gap sp : Nat) (adl : Addr) (c : Nat) (ls : List Ltr) (t : List UInt8) (w : World) (hL : LtrsAt w (some adl) ls) (hR : Right ht gap sp ls) (htl : t.length ≤ 9223372036854775807) (hv : SubOk w) :
 Calls Tryz.prog 283 #[.agg #[.string ⟨nm.toArray⟩, .int .i64 ht, .int .i64 gap, .int .i64 sp, .slice (some adl) ls.length c], .string ⟨t.toArray⟩] w (SpgRes ls gap sp t w) := by
 let w2 := (w).alloc (.cells #[.string ⟨nm.toArray⟩, .int .i64 ht, .int .i64 gap, .int .i64 sp, .slice (some adl) ls.length c] 29)
 have w2b : Bl w w2 := (Bl.refl w).alloc _
 have w21 : Blk w2 (w.heap.size) 29 #[.string ⟨nm.toArray⟩, .int .i64 ht, .int .i64 gap, .int .i64 sp, .slice (some adl) ls.length c] := by
  have h0 := Blk.new (w) 29 #[.string ⟨nm.toArray⟩, .int .i64 ht, .int .i64 gap, .int .i64 sp, .slice (some adl) ls.length c]
  exact h0
 have HL := Lib.hid (hL.bl w2b); have HR := Lib.hid hR
 have HV := Lib.hid (hv.bl w2b)
 have hg := hR.gap1
 have hsp := hR.sp1
 have hmany := hR.many
 have h0 : w2.ownsRow w2.heap.size 358 2 (.slice none 0 0) (putAt ls gap sp (0, false) []).length (placedCells (putAt ls gap sp (0, false) [])) := World.ownsRow_nil _ _ _ _
 have H0 := Lib.hid h0
 clear hL hR h0 hv
 have hszt : (⟨t.toArray⟩ : ByteArray).size = t.length := Lib.size_mk t
 go_enter Tryz.func283, Tryz.ntmps283
 by_cases hnil : t = []
 · have HE := Lib.hid (show textErr ls t = 9 by rw [textErr_line (by rw [lineErr_nil hnil]; decide), lineErr_nil hnil])
   subst hnil
   go_wp2_with fail
   try simp only [Exit.inBlock, Exit.then]
   exact bodyPost_ret (v := .tuple #[.slice none 0 0, .int .i64 0, .int .i64 9]) (by simp [results, Tryz.results283, go_sem]) rfl (spg_bad HE.out (by decide) w2b)
 · obtain ⟨b0, r0, ht0⟩ : ∃ b r, t = b :: r := by
    cases t with
    | nil => exact absurd rfl hnil
    | cons b r => exact ⟨b, r, rfl⟩
   have hemp : t.isEmpty = false := by rw [ht0]; rfl
   have hpos : 0 < t.length := by rw [ht0]; simp
   have HT0 := Lib.hid ht0; have HNil := Lib.hid hnil
   by_cases hlong : 200 < t.length
   · have HE := Lib.hid (show textErr ls t = 4 by rw [textErr_line (by rw [lineErr_long hnil hlong]; decide), lineErr_long hnil hlong])
     clear ht0 hnil
     go_wp2_with fail
     try simp only [Exit.inBlock, Exit.then]
     exact bodyPost_ret (v := .tuple #[.slice none 0 0, .int .i64 0, .int .i64 4]) (by simp [results, Tryz.results283, go_sem]) rfl (spg_bad HE.out (by decide) w2b)
   · obtain ⟨n, hn⟩ : ∃ n, n = t.length - 1 := ⟨_, rfl⟩
     have hlen1 : (t.length : Int) - 1 = (n : Int) := by omega
     have hnlt : n < t.length := by omega
     obtain ⟨hi0, hb0⟩ := bytes_at (t := t) (i := 0) (b := b0) (by rw [ht0]; rfl)
     obtain ⟨hin, hbn⟩ := bytes_at (t := t) (i := n) (b := t[n]) (List.getElem?_eq_getElem hnlt)
     obtain ⟨bn, hbn2⟩ : ∃ b, b = t[n] := ⟨_, rfl⟩
     rw [← hbn2] at hbn
     have hfb : formB t = (decide (b0 = 32) || (decide (bn = 32) || Lib.contains t [32, 32])) := by
      unfold formB
      have e1 : Lib.hasPrefix t [32] = decide (b0 = 32) := by
       rw [ht0]
       unfold Lib.hasPrefix
       rw [Bool.eq_iff_iff]
       simp
       exact eq_comm
      have e2 : Lib.hasSuffix t [32] = decide (bn = 32) := by
       unfold Lib.hasSuffix
       rw [Bool.eq_iff_iff, List.isSuffixOf_iff_suffix, decide_eq_true_eq]
       have hlast : t = t.take n ++ [bn] := by
        rw [hbn2]
        conv => lhs; rw [← List.take_append_drop n t]
        rw [List.drop_eq_getElem_cons hnlt, List.drop_eq_nil_of_le (by omega)]
       constructor
       · rintro ⟨p, hp⟩
         rw [hlast] at hp
         have := (List.append_inj' hp rfl).2
         simpa using this.symm
       · intro h
         exact ⟨t.take n, by rw [← h]; exact hlast.symm⟩
      rw [e1, e2]
     have HFb := Lib.hid hfb
     have hct := contains_any t [32, 32] w2 (by omega) HV.out
     have Hct := Lib.hid hct
     clear ht0 hnil hn hbn2 hfb hct
     go_upto_region 5 with fail
     go_cut [17] from 18 to 32 (fun s17 wc => s17 = .bool (formB t) ∧ wc = w2)
     case first =>
      by_cases c0 : b0 = 32
      · have hq : ((b0.toNat : Int) == 32) = true := by rw [c0]; rfl
        have HW := Lib.hid (show formB t = true by rw [HFb.out, decide_eq_true c0]; rfl)
        clear c0
        go_wp2_with fail
        go_meet
        case rel => exact ⟨by rw [HW.out], rfl⟩
      · have hq : ((b0.toNat : Int) == 32) = false := by
         have : b0.toNat ≠ 32 := fun h => c0 (UInt8.toNat_inj.1 h)
         simp; omega
        by_cases c1 : bn = 32
        · have hq1 : ((bn.toNat : Int) == 32) = true := by rw [c1]; rfl
          have HW := Lib.hid (show formB t = true by rw [HFb.out, decide_eq_true c1]; simp)
          clear c0 c1
          go_wp2_with fail
          go_meet
          case rel => exact ⟨by rw [HW.out], rfl⟩
        · have hq1 : ((bn.toNat : Int) == 32) = false := by
           have : bn.toNat ≠ 32 := fun h => c1 (UInt8.toNat_inj.1 h)
           simp; omega
          have HW := Lib.hid (show formB t = Lib.contains t [32, 32] by rw [HFb.out, decide_eq_false c0, decide_eq_false c1]; rfl)
          clear c0 c1
          go_wp2_with fail
          refine Hct.out.mono ?_
          rintro e w' ⟨rfl, rfl⟩
          go_wp2_with fail
          go_meet
          case rel => exact ⟨by rw [HW.out], rfl⟩
     case rest =>
      obtain ⟨rfl, rfl⟩ := hcut
      clear hb0 hbn hi0 hin
      cases hform : formB t with
      | true =>
       have HE := Lib.hid (show textErr ls t = 2 by rw [textErr_line (by rw [lineErr_form HNil.out hlong hform]; decide), lineErr_form HNil.out hlong hform])
       clear hform
       go_wp2_with fail
       try simp only [Exit.inBlock, Exit.then]
       exact bodyPost_ret (v := .tuple #[.slice none 0 0, .int .i64 0, .int .i64 2]) (by simp [results, Tryz.results283, go_sem]) rfl (spg_bad HE.out (by decide) w2b)
      | false =>
       have HE := Lib.hid (lineErr_ok HNil.out hlong hform)
       have HF := Lib.hid hform
       clear hform
       go_wp2_with fail
       go_loopw [1, 4, 5] (fun u v x wr => ∃ (dn : List (Option Nat)) (rest : List UInt8), u = .string ⟨rest.toArray⟩ ∧ x = .int .i64 ((goAll ls gap sp (0, false) dn).1 : Int) ∧ Hid (spelt ls t = (spelt ls rest).map (dn ++ ·)) ∧ Hid (∃ pre, t = pre ++ rest) ∧ dn.length + rest.length ≤ t.length ∧ Hid ((dn = [] ∧ rest = t) ∨ ((goAll ls gap sp (0, false) dn).2 = true ∧ 1 ≤ (goAll ls gap sp (0, false) dn).1)) ∧ Bl w2 wr ∧
        wr.ownsRow w2.heap.size 358 2 v (putAt ls gap sp (0, false) dn).length (placedCells (putAt ls gap sp (0, false) dn))) (fun u _ _ _ => strLen u)
       case atStart => exact ⟨[], t, rfl, rfl, Lib.hid (by cases spelt ls t <;> rfl), Lib.hid ⟨[], rfl⟩, by simp, Lib.hid (.inl ⟨rfl, rfl⟩), Bl.refl _, H0.out⟩
       case round =>
        obtain ⟨dn, rest, rfl, rfl, hsp2, hpre, hlen, hside, hbr, hown⟩ := hrel
        obtain ⟨R1, c1, rfl, -, -⟩ := own_new hown
        have k1 := (w21.bl hbr).all5
        have HOw := Lib.hid hown
        have hpn := putAt_len (ls := ls) (gap := gap) (sp := sp) dn (0, false)
        have hle := goAll_le (by omega) (by omega) HR.out.wd_le (ls := ls) (gap := gap) (sp := sp) dn (0, false)
        obtain ⟨pn, hpn2⟩ : ∃ n, n = (putAt ls gap sp (0, false) dn).length := ⟨_, rfl⟩
        rw [← hpn2] at hpn
        have HOw := Lib.hid (show wr.ownsRow w2.heap.size 358 2 (.slice R1 pn c1) pn (placedCells (putAt ls gap sp (0, false) dn)) by rw [hpn2]; exact HOw.out)
        rw [← hpn2]
        have HPn := Lib.hid hpn2
        clear hown hpn2
        by_cases hnil : rest = []
        · subst hnil
          have HS := Lib.hid (show spelt ls t = some dn by rw [hsp2.out, spelt_nil]; simp)
          obtain ⟨A2, c2, e2, hr2⟩ := own_reads HOw.out
          injection e2 with q1 _ q3
          subst q1
          subst q3
          have HRd := Lib.hid hr2
          clear hr2
          go_wp2_with fail
          refine bodyPost_ret (v := .tuple #[.slice R1 pn c1, .int .i64 ((goAll ls gap sp (0, false) dn).1 : Int), .int .i64 0]) (by simp [results, Tryz.results283, go_sem]) rfl ⟨R1, pn, c1, _, 0, rfl, (textErr_some HE.out HS.out).symm, fun h => absurd rfl h, fun _ l hl => ?_, w2b.trans hbr⟩
          rw [HS.out] at hl
          obtain rfl := Option.some.inj hl
          exact ⟨rfl, HPn.out, by omega, HRd.out⟩
        · obtain ⟨b, r, hrs⟩ : ∃ b r, rest = b :: r := by
           cases rest with
           | nil => exact absurd rfl hnil
           | cons b r => exact ⟨b, r, rfl⟩
          have hrl : rest.length = r.length + 1 := by rw [hrs]; rfl
          have hsz : (⟨rest.toArray⟩ : ByteArray).size = rest.length := Lib.size_mk rest
          obtain ⟨hih, hg0⟩ := bytes_at (t := rest) (i := 0) (b := b) (by rw [hrs]; rfl)
          have hemp : rest.isEmpty = false := by rw [hrs]; rfl
          have hpos : 0 < rest.length := by omega
          have HRl := Lib.hid hrl; have HRs := Lib.hid hrs
          obtain ⟨n, sd, hns⟩ : ∃ n sd, goAll ls gap sp (0, false) dn = (n, sd) := ⟨_, _, rfl⟩
          have HNs := Lib.hid hns
          rw [hns] at hle ⊢
          have hle2 : n ≤ 80 * 1048576 := by simp only at hle; omega
          have hside2 := hside.out
          rw [hns] at hside2
          have HSd := Lib.hid (show (dn = [] ∧ rest = t) ∨ (sd = true ∧ 1 ≤ n) from hside2)
          clear hrl hrs hns hle hside2 hside
          go_upto_region 8 with fail
          obtain ⟨t1, ht1⟩ : ∃ x, x = (decide (0 < n) && decide (b = 32)) := ⟨_, rfl⟩
          have HT1 := Lib.hid ht1
          clear ht1
          go_cut [41] from 35 to 41 (fun s41 wc => s41 = .bool t1 ∧ wc = wr)
          case first =>
           by_cases hn0 : 0 < n
           · by_cases hb32 : b = 32
             · have hq : ((b.toNat : Int) == 32) = true := by rw [hb32]; rfl
               have HW := Lib.hid (show t1 = true by rw [HT1.out, decide_eq_true hn0, decide_eq_true hb32]; rfl)
               clear hb32
               go_wp2_with fail
               go_meet
               case rel => exact ⟨by rw [HW.out], rfl⟩
             · have hq : ((b.toNat : Int) == 32) = false := by
                have : b.toNat ≠ 32 := fun h => hb32 (UInt8.toNat_inj.1 h)
                simp; omega
               have HW := Lib.hid (show t1 = false by rw [HT1.out, decide_eq_false hb32]; simp)
               clear hb32
               go_wp2_with fail
               go_meet
               case rel => exact ⟨by rw [HW.out], rfl⟩
           · have HW := Lib.hid (show t1 = false by rw [HT1.out, decide_eq_false hn0]; simp)
             have hn1 : ¬ (0 : Int) < (n : Int) := by omega
             go_wp2_with fail
             go_meet
             case rel => exact ⟨by rw [HW.out], rfl⟩
          case rest =>
           obtain ⟨rfl, rfl⟩ := hcut
           clear hg0 hih
           go_upto_if 41 with fail
           go_cut [1, 5] from 42 to 53 (fun s1 s5 wx => ∃ (dn2 : List (Option Nat)) (r2 : List UInt8) (at_ : Nat), s1 = .string ⟨r2.toArray⟩ ∧ s5 = .int .i64 (at_ : Int) ∧ Hid (at_ = spotOf gap (goAll ls gap sp (0, false) dn2)) ∧ Hid (spelt ls t = (spelt ls r2).map (dn2 ++ ·)) ∧ Hid (∃ pre, t = pre ++ r2) ∧ dn2.length + r2.length ≤ t.length ∧ Hid (∃ b r, r2 = b :: r ∧ b ≠ 32) ∧ Hid (putAt ls gap sp (0, false) dn2 = putAt ls gap sp (0, false) dn) ∧ r2.length ≤ rest.length ∧ at_ ≤ 90000000 ∧ wx = wc)
           case first =>
            cases t1
            · by_cases hn0 : 0 < n
              · have hb32 : b ≠ 32 := fun h => by
                 have h1 := HT1.out
                 rw [decide_eq_true hn0, decide_eq_true h] at h1
                 cases h1
                have hsd : sd = true := by
                 rcases HSd.out with ⟨h1, -⟩ | ⟨h1, -⟩
                 · have h2 := HNs.out
                   rw [h1] at h2
                   injection h2 with h3 _
                   omega
                 · exact h1
                have HA := Lib.hid (show n + gap = spotOf gap (goAll ls gap sp (0, false) dn) by rw [HNs.out, hsd]; rfl)
                have HB := Lib.hid hb32
                have hn1 : (0 : Int) < (n : Int) := by omega
                clear hb32 hsd
                go_wp2_with fail
                go_meet
                case rel => exact ⟨dn, rest, n + gap, rfl, by simp, HA, hsp2, hpre, hlen, Lib.hid ⟨b, r, HRs.out, HB.out⟩, Lib.hid rfl, Nat.le_refl _, by omega, rfl⟩
              · have hdn : dn = [] ∧ rest = t := by
                 rcases HSd.out with h1 | ⟨-, h1⟩
                 · exact h1
                 · omega
                have HA := Lib.hid (show n = spotOf gap (goAll ls gap sp (0, false) dn) by
                 have h2 := HNs.out
                 rw [hdn.1] at h2 ⊢
                 injection h2 with h3 _
                 rw [← h3]
                 rfl)
                have HB := Lib.hid (no_first HF.out (show t = b :: r by rw [← hdn.2]; exact HRs.out))
                have hn1 : ¬ (0 : Int) < (n : Int) := by omega
                clear hdn
                go_wp2_with fail
                go_meet
                case rel => exact ⟨dn, rest, n, rfl, rfl, HA, hsp2, hpre, hlen, Lib.hid ⟨b, r, HRs.out, HB.out⟩, Lib.hid rfl, Nat.le_refl _, by omega, rfl⟩
            · have hb : b = 32 := by
               have h1 := HT1.out
               by_cases h : b = 32
               · exact h
               · rw [decide_eq_false h] at h1
                 simp at h1
              have HA := Lib.hid (show n + sp = spotOf gap (goAll ls gap sp (0, false) (dn ++ [none])) by rw [goAll_none, HNs.out]; rfl)
              have HS2 := Lib.hid (show spelt ls t = (spelt ls r).map ((dn ++ [none]) ++ ·) by
               rw [hsp2.out, HRs.out, hb, spelt_space]
               cases spelt ls r <;> simp)
              obtain ⟨pre, hpre2⟩ := hpre.out
              rw [HRs.out, hb] at hpre2
              have HP2 := Lib.hid (show ∃ pre, t = pre ++ r from ⟨pre ++ [32], by rw [hpre2]; simp⟩)
              have HB := Lib.hid (show ∃ b r', r = b :: r' ∧ b ≠ 32 by
               cases hr : r with
               | nil => rw [hr] at hpre2; exact (no_last HF.out hpre2).elim
               | cons b' r' =>
                refine ⟨b', r', rfl, fun h => ?_⟩
                rw [hr, h] at hpre2
                exact no_twice HF.out hpre2)
              have HPt := Lib.hid (putAt_none (ls := ls) (gap := gap) (sp := sp) (s := (0, false)) dn)
              have h1r : (1 : Int) ≤ (rest.length : Int) := by omega
              have hex : (⟨rest.toArray⟩ : ByteArray).extract 1 rest.length = ⟨r.toArray⟩ := by rw [extract_drop, HRs.out]; rfl
              clear hb hpre2
              go_wp2_with fail
              go_meet
              case rel => exact ⟨dn ++ [none], r, n + sp, rfl, by simp, HA, HS2, HP2, by have := HRl.out; rw [List.length_append]; simp; omega, HB, HPt, by have := HRl.out; omega, by omega, rfl⟩
           case rest =>
            obtain ⟨dn2, r2, at_, rfl, rfl, hat, hsp3, hpre3, hlen3, hb3, hput, hr2, hatl, rfl⟩ := hcut
            clear hnil hsz hemp
            obtain ⟨b2, r3, hr3, hb32⟩ := hb3.out
            have hsz2 : (⟨r2.toArray⟩ : ByteArray).size = r2.length := Lib.size_mk r2
            have HR3 := Lib.hid hr3; have HB32 := Lib.hid hb32
            clear hr3 hb32 k1
            rename World => wr
            have k1 := (w21.bl hbr).all5
            go_wp2_with fail
            go_loopw [57, 7] (fun u v wx => ∃ j : Nat, j ≤ ls.length ∧ u = .int .i64 j ∧ v = .int .i64 (longest ls r2 j) ∧ Bl wr wx) (fun u _ _ => ls.length - (RowKit.intOf u).toNat)
            case atStart => exact ⟨0, Nat.zero_le _, rfl, rfl, Bl.refl _⟩
            case round =>
             rename World => wx
             clear k1
             obtain ⟨j, hj, rfl, rfl, hbx⟩ := hrel
             have hbxx := hbr.trans hbx
             have k1 := (w21.bl hbxx).all5
             have hli := longest_in ls r2 j
             by_cases hlt : j < ls.length
             · have hg : ls[j]? = some ls[j] := List.getElem?_eq_getElem hlt
               obtain ⟨l, hl⟩ : ∃ l, l = ls[j] := ⟨_, rfl⟩
               rw [← hl] at hg
               have hstep : longest ls r2 (j + 1) = if Lib.hasPrefix r2 l.text = true ∧ (longest ls r2 j < 0 ∨ (txtOf ls (longest ls r2 j).toNat).length < l.text.length) then (j : Int) else longest ls r2 j := by
                conv => lhs; unfold longest
                rw [txtOf_at hg]
               obtain ⟨ad, e, j1, j2, j3, j4⟩ := (HL.out.bl hbxx).at_ hg
               injection e with e
               subst e
               obtain ⟨m, hm⟩ : ∃ m, m = longest ls r2 j := ⟨_, rfl⟩
               rw [← hm] at hstep hli ⊢
               have HSt := Lib.hid hstep
               clear hstep hm hl hg
               go_upto_region 17 with fail
               obtain ⟨wy, hwy⟩ : ∃ x, x = wx.alloc (.cells #[.string ⟨l.text.toArray⟩, .int .i64 l.W, .int .i64 l.H, .slice l.A l.m l.c] 88) := ⟨_, rfl⟩
               obtain ⟨q, hq⟩ : ∃ x, x = wx.heap.size := ⟨_, rfl⟩
               have bq : Blk wy q 88 #[.string ⟨l.text.toArray⟩, .int .i64 l.W, .int .i64 l.H, .slice l.A l.m l.c] := by rw [hwy, hq]; exact Blk.new _ _ _
               have hbq : Bl wx wy := by rw [hwy]; exact (Bl.refl _).alloc _
               rw [← hwy, ← hq]
               clear hwy hq j1 j2 j3 j4 k1
               have hby := hbx.trans hbq
               have hbyy := hbr.trans hby
               have k1 := (w21.bl hbyy).all5
               have k2 := bq.all4
               have hs1 : (⟨l.text.toArray⟩ : ByteArray).size = l.text.length := Lib.size_mk l.text
               have Hp := Lib.hid (hasPrefix_any r2 l.text)
               cases hp : Lib.hasPrefix r2 l.text
               · have HN := Lib.hid (show longest ls r2 (j + 1) = m by rw [HSt.out, if_neg (fun h => by rw [hp] at h; exact absurd h.1 (by decide))])
                 have HP := Lib.hid hp
                 clear hp
                 refine wp_region_flow [(true, 0), (true, 1), (true, 2), (false, 3), (true, 4), (true, 5), (true, 6), (true, 7), (true, 8), (true, 9), (true, 10), (true, 11), (true, 12), (true, 13), (true, 14), (true, 15), (true, 16), (true, 17), (true, 18), (true, 19), (true, 20)] (fun _ => false) (by kernel_rfl) (by kernel_rfl) (by kernel_rfl) (by kernel_rfl) ?_
                 iterate 1
                  apply Flow.mv _ rfl
                  · intro K' hK'
                    simp only [sqA, Act.eval, arr_getD, List.getD_cons_zero, List.getD_cons_succ]
                    exact hK'
                 iterate 2
                  apply Flow.calm2 _ _ rfl rfl
                  · intro w' hb' K' hK'
                    obtain ⟨hc', hf'⟩ := hb'.rule
                    go_simp
                    try go_ints
                    exact hK'
                  · intro K' hK'
                    simp only [sqA]
                    exact hK'
                 apply Flow.move rfl
                 go_wp2_with fail
                 refine (Hp.out _).mono ?_
                 rintro e w' ⟨rfl, rfl⟩
                 rw [HP.out]
                 go_wp2_with fail
                 refine ⟨fun _ => (by first | exact HB1 | exact Bl.refl _), ?_⟩
                 iterate 1
                  apply Flow.mv _ rfl
                  · intro K' hK'
                    simp only [sqA, Act.eval, arr_getD, List.getD_cons_zero, List.getD_cons_succ]
                    exact hK'
                 iterate 15
                  first
                   | (apply Flow.pass rfl (by rfl))
                   | (apply Flow.calmG _ rfl (by rfl)
                      · intro w' hb'
                        obtain ⟨hc', hf'⟩ := hb'.rule
                        go_simp
                        all_goals (try rfl))
                  simp only [sqA]
                  try go_ints
                 iterate 1
                  apply Flow.calm2 _ _ rfl rfl
                  · intro w' hb' K' hK'
                    obtain ⟨hc', hf'⟩ := hb'.rule
                    go_simp
                    try go_ints
                    exact hK'
                  · intro K' hK'
                    simp only [sqA]
                    exact hK'
                 refine Flow.done ?_
                 go_wp2_with fail
                 exact ⟨⟨j + 1, hlt, by go_num, by rw [HN.out], hby.drew⟩, by simp [RowKit.intOf] <;> omega⟩
               · have HP := Lib.hid hp
                 by_cases hm : m < 0
                 · have HN := Lib.hid (show longest ls r2 (j + 1) = (j : Int) by rw [HSt.out, if_pos ⟨hp, .inl hm⟩])
                   clear hp
                   refine wp_region_flow [(true, 0), (true, 1), (true, 2), (false, 3), (true, 4), (true, 5), (true, 6), (true, 7), (true, 8), (true, 9), (true, 10), (true, 11), (true, 12), (true, 13), (true, 14), (true, 15), (true, 16), (true, 17), (true, 18), (true, 19), (true, 20)] (fun _ => false) (by kernel_rfl) (by kernel_rfl) (by kernel_rfl) (by kernel_rfl) ?_
                   iterate 1
                    apply Flow.mv _ rfl
                    · intro K' hK'
                      simp only [sqA, Act.eval, arr_getD, List.getD_cons_zero, List.getD_cons_succ]
                      exact hK'
                   iterate 2
                    apply Flow.calm2 _ _ rfl rfl
                    · intro w' hb' K' hK'
                      obtain ⟨hc', hf'⟩ := hb'.rule
                      go_simp
                      try go_ints
                      exact hK'
                    · intro K' hK'
                      simp only [sqA]
                      exact hK'
                   apply Flow.move rfl
                   go_wp2_with fail
                   refine (Hp.out _).mono ?_
                   rintro e w' ⟨rfl, rfl⟩
                   rw [HP.out]
                   go_wp2_with fail
                   refine ⟨fun _ => (by first | exact HB1 | exact Bl.refl _), ?_⟩
                   iterate 1
                    apply Flow.mv _ rfl
                    · intro K' hK'
                      simp only [sqA, Act.eval, arr_getD, List.getD_cons_zero, List.getD_cons_succ]
                      exact hK'
                   iterate 15
                    first
                     | (apply Flow.pass rfl (by rfl))
                     | (apply Flow.calmG _ rfl (by rfl)
                        · intro w' hb'
                          obtain ⟨hc', hf'⟩ := hb'.rule
                          go_simp
                          all_goals (try rfl))
                    simp only [sqA]
                    try go_ints
                   iterate 1
                    apply Flow.calm2 _ _ rfl rfl
                    · intro w' hb' K' hK'
                      obtain ⟨hc', hf'⟩ := hb'.rule
                      go_simp
                      try go_ints
                      exact hK'
                    · intro K' hK'
                      simp only [sqA]
                      exact hK'
                   refine Flow.done ?_
                   go_wp2_with fail
                   exact ⟨⟨j + 1, hlt, by go_num, by rw [HN.out], hby.drew⟩, by simp [RowKit.intOf] <;> omega⟩
                 · obtain ⟨kb, hkb, rfl, -⟩ : ∃ k : Nat, k < j ∧ m = (k : Int) ∧ Lib.hasPrefix r2 (txtOf ls k) = true := by
                    rcases hli with h | h
                    · omega
                    · exact h
                   obtain ⟨ad, e, j1, -⟩ := txt_at (HL.out.bl hbyy) (show kb < ls.length by omega)
                   injection e with e
                   subst e
                   have hs2 : (⟨(txtOf ls kb).toArray⟩ : ByteArray).size = (txtOf ls kb).length := Lib.size_mk _
                   have hkl : (kb : Int) < (ls.length : Int) := by omega
                   by_cases hcmp : (txtOf ls kb).length < l.text.length
                   · have HN := Lib.hid (show longest ls r2 (j + 1) = (j : Int) by rw [HSt.out, if_pos ⟨hp, .inr (by simpa using hcmp)⟩])
                     clear hp
                     refine wp_region_flow [(true, 0), (true, 1), (true, 2), (false, 3), (true, 4), (true, 5), (true, 6), (true, 7), (true, 8), (true, 9), (true, 10), (true, 11), (true, 12), (true, 13), (true, 14), (true, 15), (true, 16), (true, 17), (true, 18), (true, 19), (true, 20)] (fun _ => false) (by kernel_rfl) (by kernel_rfl) (by kernel_rfl) (by kernel_rfl) ?_
                     iterate 1
                      apply Flow.mv _ rfl
                      · intro K' hK'
                        simp only [sqA, Act.eval, arr_getD, List.getD_cons_zero, List.getD_cons_succ]
                        exact hK'
                     iterate 2
                      apply Flow.calm2 _ _ rfl rfl
                      · intro w' hb' K' hK'
                        obtain ⟨hc', hf'⟩ := hb'.rule
                        go_simp
                        try go_ints
                        exact hK'
                      · intro K' hK'
                        simp only [sqA]
                        exact hK'
                     apply Flow.move rfl
                     go_wp2_with fail
                     refine (Hp.out _).mono ?_
                     rintro e w' ⟨rfl, rfl⟩
                     rw [HP.out]
                     go_wp2_with fail
                     refine ⟨fun _ => (by first | exact HB1 | exact Bl.refl _), ?_⟩
                     iterate 1
                      apply Flow.mv _ rfl
                      · intro K' hK'
                        simp only [sqA, Act.eval, arr_getD, List.getD_cons_zero, List.getD_cons_succ]
                        exact hK'
                     iterate 15
                      first
                       | (apply Flow.pass rfl (by rfl))
                       | (apply Flow.calmG _ rfl (by rfl)
                          · intro w' hb'
                            obtain ⟨hc', hf'⟩ := hb'.rule
                            go_simp
                            all_goals (try rfl))
                      simp only [sqA]
                      try go_ints
                     iterate 1
                      apply Flow.calm2 _ _ rfl rfl
                      · intro w' hb' K' hK'
                        obtain ⟨hc', hf'⟩ := hb'.rule
                        go_simp
                        try go_ints
                        exact hK'
                      · intro K' hK'
                        simp only [sqA]
                        exact hK'
                     refine Flow.done ?_
                     go_wp2_with fail
                     exact ⟨⟨j + 1, hlt, by go_num, by rw [HN.out], hby.drew⟩, by simp [RowKit.intOf] <;> omega⟩
                   · have HN := Lib.hid (show longest ls r2 (j + 1) = (kb : Int) by rw [HSt.out, if_neg (fun h => h.2.elim hm (fun h2 => hcmp (by simpa using h2)))])
                     clear hp
                     refine wp_region_flow [(true, 0), (true, 1), (true, 2), (false, 3), (true, 4), (true, 5), (true, 6), (true, 7), (true, 8), (true, 9), (true, 10), (true, 11), (true, 12), (true, 13), (true, 14), (true, 15), (true, 16), (true, 17), (true, 18), (true, 19), (true, 20)] (fun _ => false) (by kernel_rfl) (by kernel_rfl) (by kernel_rfl) (by kernel_rfl) ?_
                     iterate 1
                      apply Flow.mv _ rfl
                      · intro K' hK'
                        simp only [sqA, Act.eval, arr_getD, List.getD_cons_zero, List.getD_cons_succ]
                        exact hK'
                     iterate 2
                      apply Flow.calm2 _ _ rfl rfl
                      · intro w' hb' K' hK'
                        obtain ⟨hc', hf'⟩ := hb'.rule
                        go_simp
                        try go_ints
                        exact hK'
                      · intro K' hK'
                        simp only [sqA]
                        exact hK'
                     apply Flow.move rfl
                     go_wp2_with fail
                     refine (Hp.out _).mono ?_
                     rintro e w' ⟨rfl, rfl⟩
                     rw [HP.out]
                     go_wp2_with fail
                     refine ⟨fun _ => (by first | exact HB1 | exact Bl.refl _), ?_⟩
                     iterate 1
                      apply Flow.mv _ rfl
                      · intro K' hK'
                        simp only [sqA, Act.eval, arr_getD, List.getD_cons_zero, List.getD_cons_succ]
                        exact hK'
                     iterate 15
                      first
                       | (apply Flow.pass rfl (by rfl))
                       | (apply Flow.calmG _ rfl (by rfl)
                          · intro w' hb'
                            obtain ⟨hc', hf'⟩ := hb'.rule
                            go_simp
                            all_goals (try rfl))
                      simp only [sqA]
                      try go_ints
                     iterate 1
                      apply Flow.calm2 _ _ rfl rfl
                      · intro w' hb' K' hK'
                        obtain ⟨hc', hf'⟩ := hb'.rule
                        go_simp
                        try go_ints
                        exact hK'
                      · intro K' hK'
                        simp only [sqA]
                        exact hK'
                     refine Flow.done ?_
                     go_wp2_with fail
                     exact ⟨⟨j + 1, hlt, by go_num, by rw [HN.out], hby.drew⟩, by simp [RowKit.intOf] <;> omega⟩
             · obtain rfl : j = ls.length := by omega
               obtain ⟨m, hm⟩ : ∃ m, m = longest ls r2 ls.length := ⟨_, rfl⟩
               rw [← hm] at hli ⊢
               have HM := Lib.hid (show headOf ls r2 = m from hm.symm)
               clear hm
               by_cases hm0 : m < 0
               · have HS := Lib.hid (show spelt ls t = none by
                  have h1 := HM.out
                  rw [HR3.out] at h1
                  rw [hsp3.out, HR3.out, spelt_none HB32.out (by rw [h1]; exact hm0)]
                  rfl)
                 clear hli
                 go_wp2_with fail
                 exact bodyPost_ret (v := .tuple #[.slice none 0 0, .int .i64 0, .int .i64 10]) (by simp [results, Tryz.results283, go_sem]) rfl (spg_bad (textErr_none HE.out HS.out) (by decide) (w2b.trans hbxx))
               · obtain ⟨kb, hkb, rfl, hpre⟩ : ∃ k : Nat, k < ls.length ∧ m = (k : Int) ∧ Lib.hasPrefix r2 (txtOf ls k) = true := by
                  rcases hli with h | h
                  · omega
                  · exact h
                 have hpl := hasPrefix_len hpre
                 have htk := HR.out.texts kb hkb
                 have hwk := HR.out.wd kb hkb
                 obtain ⟨kl, hkl⟩ : ∃ x, x = (txtOf ls kb).length := ⟨_, rfl⟩
                 obtain ⟨wk, hwk2⟩ : ∃ x, x = wdOf ls kb := ⟨_, rfl⟩
                 rw [← hwk2] at hwk
                 have HS2 := Lib.hid (show spelt ls t = (spelt ls (r2.drop kl)).map ((dn2 ++ [some kb]) ++ ·) by
                  have h1 := HM.out
                  rw [HR3.out] at h1
                  rw [hsp3.out, HR3.out, spelt_letter HR.out.texts HB32.out h1 hkb, hkl]
                  cases spelt ls (List.drop (txtOf ls kb).length (b2 :: r3)) <;> simp)
                 have HP2 := Lib.hid (show ∃ pre, t = pre ++ r2.drop kl by
                  obtain ⟨pre, hp⟩ := hpre3.out
                  exact ⟨pre ++ r2.take kl, by rw [List.append_assoc, List.take_append_drop]; exact hp⟩)
                 have HGo := Lib.hid (show goAll ls gap sp (0, false) (dn2 ++ [some kb]) = (at_ + wk, true) by rw [goAll_some, ← hat.out, hwk2])
                 have HPu := Lib.hid (show putAt ls gap sp (0, false) (dn2 ++ [some kb]) = putAt ls gap sp (0, false) dn ++ [(kb, at_)] by rw [putAt_some, ← hat.out, hput.out])
                 have hs2 : (⟨(txtOf ls kb).toArray⟩ : ByteArray).size = kl := by rw [hkl]; exact Lib.size_mk _
                 have hkl2 : (kb : Int) < (ls.length : Int) := by omega
                 have h1r : (kl : Int) ≤ (r2.length : Int) := by omega
                 have hex : (⟨r2.toArray⟩ : ByteArray).extract kl r2.length = ⟨(r2.drop kl).toArray⟩ := extract_drop r2 kl
                 have hkl1 : 1 ≤ kl := by omega
                 have hw1 := hwk.1
                 have hw2 := hwk.2
                 have HOx := Lib.hid (own_bl HOw.out hbx)
                 have HW1 := Lib.hid hw1
                 clear hli hpre htk hkl hwk hw1 hwk2
                 go_upto_region 23 with (at_builtin; refine wpList_append_bl (w1 := w2) rfl (.tmp 87) (.tmp 91) 354 rfl 358 (.agg #[.int .i64 0, .int .i64 0]) 2 16 Tryz.underlying354 info_placed rfl (by omega) w2.heap.size _ pn (placedCells (putAt ls gap sp (0, false) dn)) rfl (hbxx.alloc _) (Nat.le_refl _) ?hBr (HOx.out.alloc _) (some ⟨wx.heap.size, 0, none⟩) 1 1 [.int .i64 kb, .int .i64 at_] rfl ((Blk.new _ _ _).reads 1 2 rfl) ?h1 ?c1 ?c2 ?_)
                 case hBr => have := hbxx.le; first | omega | (simp; omega)
                 case h1 => simp [Value.oneCell']
                 case c1 => unfold maxLen; omega
                 case c2 => omega
                 intro v' w8 hown8 hb8 hg8
                 have hown9 : w8.ownsRow w2.heap.size 358 2 v' (putAt ls gap sp (0, false) (dn2 ++ [some kb])).length (placedCells (putAt ls gap sp (0, false) (dn2 ++ [some kb]))) := by
                  rw [HPu.out, placed_append, List.length_append, ← HPn.out]
                  exact hown8
                 have HO9 := Lib.hid hown9; have HB8 := Lib.hid hb8
                 obtain ⟨ad, e, j1, j2⟩ := txt_at (HL.out.bl hb8) hkb
                 injection e with e
                 subst e
                 rw [HW1.out] at j2
                 have k8 := (w21.bl hb8).all5
                 clear hown8 hown9 hg8 k1
                 go_wp2_with fail
                 exact ⟨⟨dn2 ++ [some kb], r2.drop kl, rfl, by rw [HGo.out]; simp, HS2, HP2, by rw [List.length_append, List.length_drop]; simp; omega, Lib.hid (.inr ⟨by rw [HGo.out], by rw [HGo.out]; show 1 ≤ at_ + wk; omega⟩), HB8.out, HO9.out⟩, by simp [strLen, ByteArray.size]; omega⟩

end Go.Proofs.YthobmednnocklaaGreatDoor


/-! glyph.set. -/
namespace Go.Proofs.YthobmednnocklaaGreatDoor
open Go.RowKit Go.Shelf

set_option maxRecDepth 100000 in
set_option maxHeartbeats 400000 in
theorem blank_new (W H : Nat) (w : World) (hs : sizeErr W H = 0) :
 Calls Tryz.prog 86 #[.int .i64 W, .int .i64 H] w fun e w' =>
  ∃ g, e = .returned (.tuple #[.agg #[.int .i64 W, .int .i64 H, .slice (some ⟨g, 0, none⟩) (W * H) (W * H)], .int .i64 0]) ∧ w.heap.size ≤ g ∧ Blk w' g 4 (tabB (W * H) fun _ => false) ∧ Bl w w' := by
 have hz' := sizeErr_zero hs
 have hWH : (W : Int) * (H : Int) = ((W * H : Nat) : Int) := by simp
 have h1 : (0:Int) ≤ (W:Int) * (H:Int) := by omega
 have h2 : (W:Int) * (H:Int) ≤ 1048576 := by omega
 have hN : W * H ≤ 1048576 := by omega
 have hmk := run_make_row' (P := Tryz.prog) 22 4 (.bool false) 1 Tryz.underlying22 info_bool rfl .i64 .i64 (W * H) (by omega) (by omega)
 rw [← hWH] at hmk
 have hq : (sizeErr W H != 0) = false := by simp [hs]
 have HS := Lib.hid hs; have HWH := Lib.hid hWH
 clear hs hWH
 go_enter Tryz.func86, Tryz.ntmps86
 go_wp2_with (go_at_call 117; refine (checkSize_any _ _ _).mono ?_; rintro e w1 ⟨rfl, rfl⟩)
 rw [tabB_made]
 refine bodyPost_ret (v := .tuple #[.agg #[.int .i64 W, .int .i64 H, .slice (some ⟨w.heap.size + 1, 0, none⟩) (W * H) (W * H)], .int .i64 0]) (by simp [results, Tryz.results86, go_sem]) rfl ⟨_, rfl, ?_, ?_, ?_⟩
 · simp
 · have hb := Blk.new (w.alloc (.cells #[.int .i64 W, .int .i64 H, .slice (some ⟨w.heap.size + 1, 0, none⟩) (W * H) (W * H)] 24)) 4 (tabB (W * H) fun _ => false)
   simpa using hb
 · repeat' (first | exact Bl.refl _ | refine Bl.drew ?_ | refine Bl.setCell ?_ (by simp) _ | refine Bl.alloc ?_ _)


/-- A text's letters, how wide it is, what is wrong with it when it is set, and its pixels. -/
def itemsOf (ls : List Ltr) (t : List UInt8) : List (Option Nat) := (spelt ls t).getD []
def wideOf (ls : List Ltr) (gap sp : Nat) (t : List UInt8) : Nat := (goAll ls gap sp (0, false) (itemsOf ls t)).1
def setErr (ls : List Ltr) (ht gap sp : Nat) (t : List UInt8) : Int := if textErr ls t = 0 then sizeErr (wideOf ls gap sp t) ht else textErr ls t
def setCells (ls : List Ltr) (ht gap sp : Nat) (t : List UInt8) : List Bool := grid (wideOf ls gap sp t) ht (setF ls (putAt ls gap sp (0, false) (itemsOf ls t)))
theorem itemsOf_some {ls : List Ltr} {t : List UInt8} {l : List (Option Nat)} (h : spelt ls t = some l) : itemsOf ls t = l := by unfold itemsOf; rw [h]; rfl
theorem putAt_in {ls : List Ltr} {gap sp : Nat} : ∀ (l : List (Option Nat)) (s : Spot), (∀ k, some k ∈ l → k < ls.length) → ∀ p ∈ putAt ls gap sp s l, p.1 < ls.length
 | [], _, _, p, hp => by cases hp
 | none :: l, _, h, p, hp => putAt_in l _ (fun k hk => h k (List.mem_cons_of_mem _ hk)) p hp
 | some k :: l, s, h, p, hp => by
  rcases List.mem_cons.1 hp with rfl | hp
  · exact h k (List.mem_cons_self ..)
  · exact putAt_in l _ (fun k hk => h k (List.mem_cons_of_mem _ hk)) p hp
/-- What is said of set's answer. -/
def SetGRes (ls : List Ltr) (ht gap sp : Nat) (t : List UInt8) (w : World) (e : Ending) (w' : World) : Prop := ∃ a b R m d, e = .returned (.tuple #[.agg #[.int .i64 a, .int .i64 b, .slice R m d], .int .i64 (setErr ls ht gap sp t)]) ∧
 Res w.heap.size w' (setErr ls ht gap sp t) (wideOf ls gap sp t) ht ((setCells ls ht gap sp t).map .bool) a b R m d ∧ Bl w w'

set_option maxRecDepth 100000 in
set_option maxHeartbeats 8000000 in
theorem setG_any (nm : List UInt8) (ht gap sp : Nat) (adl : Addr) (c : Nat) (ls : List Ltr) (t : List UInt8) (w : World) (hL : LtrsAt w (some adl) ls) (hR : Right ht gap sp ls) (htl : t.length ≤ 9223372036854775807) (hv : SubOk w) :
 Calls Tryz.prog 205 #[.agg #[.string ⟨nm.toArray⟩, .int .i64 ht, .int .i64 gap, .int .i64 sp, .slice (some adl) ls.length c], .string ⟨t.toArray⟩] w (SetGRes ls ht gap sp t w) := by
 let w2 := ((w).alloc (.cells #[.string ⟨nm.toArray⟩, .int .i64 ht, .int .i64 gap, .int .i64 sp, .slice (some adl) ls.length c] 29)).alloc (.cells #[.int .i64 0, .int .i64 0, .slice none 0 0] 24)
 have w2b : Bl w w2 := ((Bl.refl w).alloc _).alloc _
 have w21 : Blk w2 (w.heap.size) 29 #[.string ⟨nm.toArray⟩, .int .i64 ht, .int .i64 gap, .int .i64 sp, .slice (some adl) ls.length c] := by
  have h0 := Blk.new (w) 29 #[.string ⟨nm.toArray⟩, .int .i64 ht, .int .i64 gap, .int .i64 sp, .slice (some adl) ls.length c]
  exact (h0.alloc _)
 have w22 : Blk w2 (w.heap.size + 1) 24 #[.int .i64 0, .int .i64 0, .slice none 0 0] := by
  have h0 := Blk.new ((w).alloc (.cells #[.string ⟨nm.toArray⟩, .int .i64 ht, .int .i64 gap, .int .i64 sp, .slice (some adl) ls.length c] 29)) 24 #[.int .i64 0, .int .i64 0, .slice none 0 0]
  simp only [World.size_alloc] at h0
  exact h0
 have lw2 : w2.heap.size = w.heap.size + 2 := by simp [w2]
 have HL := Lib.hid (hL.bl w2b); have HR := Lib.hid hR
 have hs := spelledG_any nm ht gap sp adl c ls t w2 (hL.bl w2b) hR htl (hv.bl w2b)
 have Hs := Lib.hid hs
 have k1 := w21.all5
 have kz := w22.all3
 clear hL hR hs hv
 go_enter Tryz.func205, Tryz.ntmps205
 go_wp2_with fail
 refine Hs.out.mono ?_
 rintro e w3 ⟨R, m, d, wd, err, rfl, herr, hbad, hok, hb3⟩
 clear_value w2
 have HOk := Lib.hid hok
 have HErr := Lib.hid herr
 have hle3 := hb3.le
 clear k1 kz Hs hbad hok herr
 by_cases hz : err = 0
 case neg =>
  have hq : (err != 0) = true := by simp [hz]
  have hq2 : (err == 0) = false := by simp [hz]
  have HZ := Lib.hid hz
  have hse : setErr ls ht gap sp t = err := by
   unfold setErr
   rw [← HErr.out, if_neg hz]
  have HSe := Lib.hid hse
  have kz := (w22.bl hb3).all3
  clear hz hse
  go_wp2_with fail
  refine bodyPost_ret (v := .tuple #[.agg #[.int .i64 0, .int .i64 0, .slice none 0 0], .int .i64 err]) (by simp [results, Tryz.results205, go_sem, kz]) rfl ⟨0, 0, none, 0, 0, by rw [HSe.out], by rw [HSe.out]; exact Res.zero _ _ _ _ _ HZ.out, ?_⟩
  exact (((w2b.trans hb3).setCell (by simp) _).setCell (by simp) _).setCell (by simp) _
 case pos =>
  subst hz
  obtain ⟨-, l, hl⟩ := textErr_zero HErr.out.symm
  obtain ⟨rfl, rfl, hmt, hrd⟩ := HOk.out rfl l hl
  have hin := putAt_in (gap := gap) (sp := sp) l (0, false) (spelt_in hl)
  have hend := putAt_end (ls := ls) (gap := gap) (sp := sp) l (0, false)
  obtain ⟨W, hW⟩ : ∃ W, W = (goAll ls gap sp (0, false) l).1 := ⟨_, rfl⟩
  obtain ⟨pl, hpl⟩ : ∃ pl, pl = putAt ls gap sp (0, false) l := ⟨_, rfl⟩
  have hwo : wideOf ls gap sp t = W := by unfold wideOf; rw [itemsOf_some hl, hW]
  have hse : setErr ls ht gap sp t = sizeErr W ht := by unfold setErr; rw [← HErr.out, if_pos rfl, hwo]
  have hsc : setCells ls ht gap sp t = grid W ht (setF ls pl) := by unfold setCells; rw [hwo, itemsOf_some hl, hpl]
  rw [← hpl] at hrd hin hend hmt ⊢
  rw [← hW] at hend ⊢
  have HRd := Lib.hid hrd; have HIn := Lib.hid hin; have HEnd := Lib.hid hend; have HWo := Lib.hid hwo; have HSe := Lib.hid hse; have HSc := Lib.hid hsc
  clear hrd hin hend hwo hse hsc hl hpl hW
  have k1 := (w21.bl hb3).all5
  by_cases hse : sizeErr (W : Int) (ht : Int) = 0
  case neg =>
   have hq : (sizeErr (W : Int) (ht : Int) != 0) = true := by simp [hse]
   have hq2 : (sizeErr (W : Int) (ht : Int) == 0) = false := by simp [hse]
   have Hb := Lib.hid (blank_bad (W : Int) (ht : Int) w3 hse)
   have HZ := Lib.hid hse
   clear hse
   go_wp2_with fail
   refine Hb.out.mono ?_
   rintro e w4 ⟨rfl, hb4⟩
   clear k1
   go_upto_region 5 with fail
   obtain ⟨w5, hw5⟩ : ∃ x, x = w4.alloc (.cells #[.int .i64 0, .int .i64 0, .slice none 0 0] 24) := ⟨_, rfl⟩
   have hb45 : Bl w4 w5 := by rw [hw5]; exact (Bl.refl _).alloc _
   rw [← hw5]
   clear hw5
   have hb5 := hb3.trans (hb4.trans hb45)
   have kz := (w22.bl hb5).all3
   go_wp2_with fail
   refine bodyPost_ret (v := .tuple #[.agg #[.int .i64 0, .int .i64 0, .slice none 0 0], .int .i64 (sizeErr (W : Int) (ht : Int))]) (by simp [results, Tryz.results205, go_sem, kz]) rfl ⟨0, 0, none, 0, 0, by rw [HSe.out], by rw [HSe.out]; exact Res.zero _ _ _ _ _ HZ.out, ?_⟩
   exact (((w2b.trans hb5).setCell (by simp) _).setCell (by simp) _).setCell (by simp) _
  case pos =>
   have hsz := sizeErr_zero hse
   have hb := blank_new W ht w3 hse
   have hWH : W * ht ≤ 1048576 := by
    have h1 := hsz.2.2.2.2
    have h2 : ((W * ht : Nat) : Int) = (W : Int) * (ht : Int) := by simp
    omega
   have hW4 : 1 ≤ W ∧ W ≤ 4000 := by omega
   have hH4 : 1 ≤ ht ∧ ht ≤ 4000 := by omega
   have Hb := Lib.hid hb; have HZ := Lib.hid hse
   clear hse hb hsz
   go_wp2_with fail
   refine Hb.out.mono ?_
   rintro e w4 ⟨g, rfl, hg3, hbg, hb4⟩
   clear k1
   go_upto_region 5 with fail
   obtain ⟨w5, hw5⟩ : ∃ x, x = w4.alloc (.cells #[.int .i64 W, .int .i64 ht, .slice (some ⟨g, 0, none⟩) (W * ht) (W * ht)] 24) := ⟨_, rfl⟩
   obtain ⟨p, hp⟩ : ∃ x, x = w4.heap.size := ⟨_, rfl⟩
   have bp5 : Blk w5 p 24 #[.int .i64 W, .int .i64 ht, .slice (some ⟨g, 0, none⟩) (W * ht) (W * ht)] := by rw [hw5, hp]; exact Blk.new _ _ _
   have hb45 : Bl w4 w5 := by rw [hw5]; exact (Bl.refl _).alloc _
   have hpg : p ≠ g := by have := hbg.lt; omega
   have hp3 : w3.heap.size ≤ p := by have := hb4.le; omega
   rw [← hw5, ← hp]
   clear hw5 hp
   have hb35 := hb4.trans hb45
   have bg5 : Blk w5 g 4 (tabB (W * ht) fun k => setF ls (pl.take 0) (k % W) (k / W)) := hbg.bl hb45
   have HG := Lib.hid bg5
   clear hbg bg5
   go_wp2_with fail
   go_loopw [36] (fun u wr => ∃ i : Nat, i ≤ pl.length ∧ u = .int .i64 i ∧ Bl w3 wr ∧ Blk wr p 24 #[.int .i64 W, .int .i64 ht, .slice (some ⟨g, 0, none⟩) (W * ht) (W * ht)] ∧ Blk wr g 4 (tabB (W * ht) fun k => setF ls (pl.take i) (k % W) (k / W))) (fun u _ => pl.length - (RowKit.intOf u).toNat)
   case atStart => exact ⟨0, Nat.zero_le _, rfl, hb35, bp5, HG.out⟩
   case round =>
    obtain ⟨i, hi, rfl, hbr, hbp, hbg⟩ := hrel
    by_cases hlt : i < pl.length
    · have hgi : pl[i]? = some pl[i] := List.getElem?_eq_getElem hlt
      obtain ⟨x, hx⟩ : ∃ x, x = pl[i] := ⟨_, rfl⟩
      rw [← hx] at hgi
      obtain ⟨k, at_⟩ := x
      have hk : k < ls.length := HIn.out _ (List.mem_of_getElem? hgi)
      have hae : at_ + wdOf ls k ≤ W := HEnd.out _ (List.mem_of_getElem? hgi)
      obtain ⟨adp, hR, hcp⟩ := (HRd.out.bl hbr).2 (by omega)
      subst hR
      have c0 := hcp (i * 2 + 0) _ (by rw [placed_at hgi 0 (by omega)]; rfl)
      have c1 := hcp (i * 2 + 1) _ (by rw [placed_at hgi 1 (by omega)]; rfl)
      rw [Nat.add_zero] at c0
      rw [← add_of_add, Addr.add_succ'] at c1
      have htk : pl.take (i + 1) = pl.take i ++ [(k, at_)] := by rw [List.take_add_one, hgi]; rfl
      have hcg : tabB (W * ht) (putF (fun j => setF ls (pl.take i) (j % W) (j / W)) (bsOf ls k) (wdOf ls k) ht at_ 0 W) = tabB (W * ht) (fun j => setF ls (pl.take (i + 1)) (j % W) (j / W)) := tabB_congr fun j hj => by
       rw [htk, setF_append, setF_one]
       have hjy : j / W < ht := Nat.div_lt_of_lt_mul hj
       show (setF ls (pl.take i) (j % W) (j / W) || (winB (wdOf ls k) ht at_ 0 (j % W) (j / W) && pix (bsOf ls k) (wdOf ls k) (j % W - at_) (j / W - 0))) = (setF ls (pl.take i) (j % W) (j / W) || (decide (at_ ≤ j % W) && (decide (j % W < at_ + wdOf ls k) && pix (bsOf ls k) (wdOf ls k) (j % W - at_) (j / W))))
       congr 1
       rw [Nat.sub_zero, ← Bool.and_assoc]
       congr 1
       unfold winB
       rw [Bool.eq_iff_iff]
       simp
       omega
      obtain ⟨-, -, -, -, -, -, hbits⟩ := ltr_at (HL.out.bl hb3) hk
      have hwk := HR.out.wd k hk
      rw [HR.out.ms k hk] at hbits
      obtain ⟨wk, hwk2⟩ : ∃ x, x = wdOf ls k := ⟨_, rfl⟩
      obtain ⟨la, hla⟩ : ∃ x, x = (ls[k]'hk).A := ⟨_, rfl⟩
      obtain ⟨lc, hlc⟩ : ∃ x, x = (ls[k]'hk).c := ⟨_, rfl⟩
      rw [← hwk2] at hbits hae hcg
      rw [← hla] at hbits
      have hwk3 : 1 ≤ wk ∧ wk ≤ 64 := by rw [hwk2]; exact hwk.2
      have hput : ∀ wy, Bl w3 wy → Blk wy g 4 (tabB (W * ht) fun j => setF ls (pl.take i) (j % W) (j / W)) → Calls Tryz.prog 284 #[.agg #[.int .i64 W, .int .i64 ht, .slice (some ⟨g, 0, none⟩) (W * ht) (W * ht)], .agg #[.int .i64 wk, .int .i64 ht, .slice la (wk * ht) lc], .int .i64 at_, .int .i64 0] wy (PutRes w3 g (tabB (W * ht) fun j => setF ls (pl.take (i + 1)) (j % W) (j / W)) wy) := fun wy h1 h2 => by
       have h := put_any W ht wk ht at_ 0 g (W * ht) la lc (bsOf ls k) (fun j => setF ls (pl.take i) (j % W) (j / W)) w3 wy h1 hg3 h2 hbits hW4.2 hH4.2 hWH hae (by omega) hwk3.1
       rw [hcg] at h
       exact h
      have HPut := Lib.hid hput; have HBg := Lib.hid hbg; have HW2 := Lib.hid hwk2; have HLa := Lib.hid hla; have HLc := Lib.hid hlc
      clear hgi hx hcp htk hcg hbits hwk hwk2 hla hlc hput hbg
      go_upto_region 10 with fail
      obtain ⟨w6, hw6⟩ : ∃ x, x = wr.alloc (.cells #[.int .i64 k, .int .i64 at_] 358) := ⟨_, rfl⟩
      obtain ⟨q, hq⟩ : ∃ x, x = wr.heap.size := ⟨_, rfl⟩
      have bq : Blk w6 q 358 #[.int .i64 k, .int .i64 at_] := by rw [hw6, hq]; exact Blk.new _ _ _
      have hb6 : Bl wr w6 := by rw [hw6]; exact (Bl.refl _).alloc _
      rw [← hw6, ← hq]
      clear hw6 hq c0 c1
      have hbr6 := hbr.trans hb6
      have hbp6 := hbp.bl hb6
      have HBg6 := Lib.hid (HBg.out.bl hb6)
      have k1 := (w21.bl (hb3.trans hbr6)).all5
      have kq := bq.all2
      have k7 := hbp6.all3
      obtain ⟨ad2, e, -, j2, j3, j4, -⟩ := ltr_at (HL.out.bl (hb3.trans hbr6)) hk
      injection e with e
      subst e
      rw [(HR.out.wd k hk).1, ← HW2.out] at j2
      rw [HR.out.hts k hk] at j3
      rw [HR.out.ms k hk, ← HW2.out, ← HLa.out, ← HLc.out] at j4
      have hkl : (k : Int) < (ls.length : Int) := by omega
      refine wp_region_flow [(true, 0), (true, 1), (true, 2), (true, 3), (true, 4), (true, 5), (true, 6), (true, 7), (true, 8), (true, 9), (false, 10)] (fun i => i == 10) (by kernel_rfl) (by kernel_rfl) (by kernel_rfl) (by kernel_rfl) ?_
      iterate 10
       apply Flow.calm2 _ _ rfl rfl
       · intro w' hb' K' hK'
         obtain ⟨hc', hf'⟩ := hb'.rule
         go_simp
         try go_ints
         exact hK'
       · intro K' hK'
         simp only [sqA]
         exact hK'
      refine Flow.tail _ rfl ?_
      go_wp2_with fail
      refine (HPut.out _ hbr6.drew HBg6.out.drew).mono ?_
      rintro e wz ⟨rfl, hz1, hz2, -, hz4⟩
      have HZ1 := Lib.hid hz1; have HZ2 := Lib.hid hz2
      have HZ4 := Lib.hid (hz4 p _ _ hpg hbp6.drew)
      clear hz1 hz2 hz4 k1 kq k7 j2 j3 j4
      go_wp2_with fail
      exact ⟨⟨i + 1, hlt, by go_num, HZ2.out, HZ4.out, HZ1.out⟩, by simp [RowKit.intOf] <;> omega⟩
    · obtain rfl : i = pl.length := by omega
      rw [List.take_length] at hbg
      have HBg := Lib.hid hbg
      have k7 := hbp.all3
      have kz := (w22.bl (hb3.trans hbr)).all3
      have hpz : ¬ (p = w.heap.size + 1) := by omega
      clear hbg
      go_wp2_with fail
      refine bodyPost_ret (v := .tuple #[.agg #[.int .i64 W, .int .i64 ht, .slice (some ⟨g, 0, none⟩) (W * ht) (W * ht)], .int .i64 0]) (by simp [results, Tryz.results205, go_sem, kz]) rfl ⟨W, ht, _, _, _, by rw [HSe.out, HZ.out], ?_, ?_⟩
      · rw [HSe.out, HWo.out, HSc.out]
        have h := HBg.out.tabReadsB
        have e : (List.range (W * ht)).map (fun k => setF ls pl (k % W) (k / W)) = grid W ht (setF ls pl) := rfl
        rw [e] at h
        have hn : ∀ ad, some (⟨g, 0, none⟩ : Addr) = some ad → w.heap.size + 2 ≤ ad.block := fun ad h => by injection h with h; subst h; show w.heap.size + 2 ≤ g; omega
        refine Res.page HZ.out (((h.store hn (by simp) _).store hn (by simp) _).store hn (by simp) _) ?_
        intro ad h
        have := hn ad h
        omega
      · exact (((w2b.trans (hb3.trans hbr)).setCell (by simp) _).setCell (by simp) _).setCell (by simp) _

end Go.Proofs.YthobmednnocklaaGreatDoor


/-! bedref2.TextError of a right font. -/
namespace Go.Proofs.YthobmednnocklaaGreatDoor
open Go.RowKit Go.Shelf

set_option maxRecDepth 100000 in
set_option maxHeartbeats 4000000 in
theorem textError_any (nm : List UInt8) (ht gap sp : Nat) (adl : Addr) (c : Nat) (ls : List Ltr) (t : List UInt8) (w : World) (hL : LtrsAt w (some adl) ls) (hR : Right ht gap sp ls) (htl : t.length ≤ 1048576) (hv : SubOk w) :
 Calls Tryz.prog 148 #[.agg #[.string ⟨nm.toArray⟩, .int .i64 ht, .int .i64 gap, .int .i64 sp, .slice (some adl) ls.length c], .string ⟨t.toArray⟩] w fun e w' => e = .returned (.int .i64 (textErr ls t)) ∧ Bl w w' := by
 let w2 := (w).alloc (.cells #[.string ⟨nm.toArray⟩, .int .i64 ht, .int .i64 gap, .int .i64 sp, .slice (some adl) ls.length c] 29)
 have w2b : Bl w w2 := (Bl.refl w).alloc _
 have w21 : Blk w2 (w.heap.size) 29 #[.string ⟨nm.toArray⟩, .int .i64 ht, .int .i64 gap, .int .i64 sp, .slice (some adl) ls.length c] := by
  have h0 := Blk.new (w) 29 #[.string ⟨nm.toArray⟩, .int .i64 ht, .int .i64 gap, .int .i64 sp, .slice (some adl) ls.length c]
  exact h0
 have HL := Lib.hid (hL.bl w2b); have HR := Lib.hid hR
 have HV := Lib.hid (hv.bl w2b)
 have hct := contains_any t [32, 32] w2 (by omega) (hv.bl w2b)
 have hhp := hasPrefix_any t [32] w2
 have hhs := hasSuffix_any t [32] w2 (by omega)
 have Hct := Lib.hid hct; have Hhp := Lib.hid hhp; have Hhs := Lib.hid hhs
 have hsz : (⟨t.toArray⟩ : ByteArray).size = t.length := Lib.size_mk t
 clear hL hR hv hct hhp hhs
 go_enter Tryz.func148, Tryz.ntmps148
 go_upto_region 1 with fail
 have hem : t.isEmpty = decide (t = []) := by cases t <;> rfl
 have HEm := Lib.hid hem
 have HLn := Lib.hid (show decide (200 < t.length) = decide ((200 : Int) < (t.length : Int)) by rw [decide_eq_decide]; omega)
 clear hem
 go_cut [5] from 8 to 27 (fun s5 wc => s5 = .int .i64 (lineErr t) ∧ Bl w2 wc)
 case first =>
  go_wp2_with fail
  refine (when_any _ _ _).mono ?_
  rintro e w' ⟨rfl, rfl⟩
  go_wp2_with fail
  refine (when_any _ _ _).mono ?_
  rintro e w' ⟨rfl, rfl⟩
  cases hp : Lib.hasPrefix t [32]
  · cases hs : Lib.hasSuffix t [32]
    · have HFb := Lib.hid (show formB t = Lib.contains t [32, 32] by unfold formB; rw [hp, hs]; rfl)
      have HP := Lib.hid hp; have HS := Lib.hid hs
      clear hp hs
      go_wp2_with fail
      refine Hhp.out.mono ?_
      rintro e w' ⟨rfl, rfl⟩
      rw [HP.out]
      go_wp2_with fail
      refine Hhs.out.mono ?_
      rintro e w' ⟨rfl, rfl⟩
      rw [HS.out]
      go_wp2_with fail
      refine Hct.out.mono ?_
      rintro e w' ⟨rfl, rfl⟩
      go_wp2_with fail
      refine (when_any _ _ _).mono ?_
      rintro e w' ⟨rfl, rfl⟩
      go_wp2_with fail
      refine (first3_any _ _ _ _ _ (Blk.new _ _ _)).mono ?_
      rintro e w' ⟨rfl, rfl⟩
      go_wp2_with fail
      go_meet
      case rel => exact ⟨by unfold lineErr; rw [HFb.out, ← HEm.out, HLn.out], (Bl.refl _).alloc _⟩
    · have HFb := Lib.hid (show formB t = true by unfold formB; rw [hp, hs]; rfl)
      have HP := Lib.hid hp; have HS := Lib.hid hs
      clear hp hs
      go_wp2_with fail
      refine Hhp.out.mono ?_
      rintro e w' ⟨rfl, rfl⟩
      rw [HP.out]
      go_wp2_with fail
      refine Hhs.out.mono ?_
      rintro e w' ⟨rfl, rfl⟩
      rw [HS.out]
      go_wp2_with fail
      refine (when_any _ _ _).mono ?_
      rintro e w' ⟨rfl, rfl⟩
      go_wp2_with fail
      refine (first3_any _ _ _ _ _ (Blk.new _ _ _)).mono ?_
      rintro e w' ⟨rfl, rfl⟩
      go_wp2_with fail
      go_meet
      case rel => exact ⟨by unfold lineErr; rw [HFb.out, ← HEm.out, HLn.out], (Bl.refl _).alloc _⟩
  · have HFb := Lib.hid (show formB t = true by unfold formB; rw [hp]; rfl)
    have HP := Lib.hid hp
    clear hp
    go_wp2_with fail
    refine Hhp.out.mono ?_
    rintro e w' ⟨rfl, rfl⟩
    rw [HP.out]
    go_wp2_with fail
    refine (when_any _ _ _).mono ?_
    rintro e w' ⟨rfl, rfl⟩
    go_wp2_with fail
    refine (first3_any _ _ _ _ _ (Blk.new _ _ _)).mono ?_
    rintro e w' ⟨rfl, rfl⟩
    go_wp2_with fail
    go_meet
    case rel => exact ⟨by unfold lineErr; rw [HFb.out, ← HEm.out, HLn.out], (Bl.refl _).alloc _⟩
 case rest =>
  obtain ⟨rfl, hbc⟩ := hcut
  rename World => w3
  have k1 := (w21.bl hbc).all5
  have hs := spelledOf_any nm ht gap sp adl c ls t w3 (HL.out.bl hbc) HR.out.texts HR.out.many.2 htl
  have Hs := Lib.hid hs
  clear hs
  go_wp2_with fail
  refine Hs.out.mono ?_
  rintro e w4 ⟨R, m, d, rfl, -, hb4⟩
  obtain ⟨is, his⟩ : ∃ b, b = (spelt ls t).isSome := ⟨_, rfl⟩
  have HIs := Lib.hid (show textErr ls t = firstNZ [lineErr t, whenI (!is) 10] by rw [his]; rfl)
  rw [← his]
  clear his k1 Hs
  go_wp2_with fail
  refine (when_any _ _ _).mono ?_
  rintro e w' ⟨rfl, rfl⟩
  go_wp2_with fail
  refine (first2_any _ _ _ _ (Blk.new _ _ _)).mono ?_
  rintro e w' ⟨rfl, rfl⟩
  go_wp2_with fail
  go_ret
  exact ⟨ret_int HIs.out.symm, w2b.trans (hbc.trans (hb4.alloc _))⟩

end Go.Proofs.YthobmednnocklaaGreatDoor
