/- bedref2.SetOf. -/
import Derived.Test.YthobmednnocklaaGreatDoorMClaimFills6
import Derived.Test.YthobmednnocklaaGreatDoorMClaimFills5
import Derived.Test.YthobmednnocklaaGreatDoorMClaimFills2
import Derived.Test.YthobmednnocklaaGreatDoorMClaimFills1
import Derived.Test.YthobmednnocklaaGreatDoorMClaimFills3

namespace Go.Proofs.YthobmednnocklaaGreatDoor
open Go.RowKit Go.Shelf

theorem info_ptr : (Tryz.prog.info? 317).map (fun i => (i.zero, i.size, i.bytes)) = some (some (.pointer none), 1, 8) := by kernel_rfl
/-- Where a letter of a text lies. -/
def ptrCell (ad : Addr) : Option Nat → Value
 | none => .pointer none
 | some k => .pointer (some (ad.add (k * 4)))
/-- What is said of Spelled's answer. -/
def SpRes (ls : List Ltr) (t : List UInt8) (adl : Addr) (w : World) (e : Ending) (w' : World) : Prop := ∃ R m d, e = .returned (.tuple #[.slice R m d, .bool (spelt ls t).isSome]) ∧
      (∀ l, spelt ls t = some l → m = l.length ∧ l.length ≤ t.length ∧ Reads w' 1 R l.length (l.map (ptrCell adl))) ∧ Bl w w'
set_option maxRecDepth 100000 in
set_option maxHeartbeats 8000000 in
theorem spelledOf_any (nm : List UInt8) (ht gap sp : Int) (adl : Addr) (c : Nat) (ls : List Ltr) (t : List UInt8) (w : World) (hL : LtrsAt w (some adl) ls) (hT : Texts ls) (hn : ls.length ≤ 200) (htl : t.length ≤ 1048576) :
 Calls Tryz.prog 231 #[.agg #[.string ⟨nm.toArray⟩, .int .i64 ht, .int .i64 gap, .int .i64 sp, .slice (some adl) ls.length c], .string ⟨t.toArray⟩] w (SpRes ls t adl w) := by
 let w2 := (w).alloc (.cells #[.string ⟨nm.toArray⟩, .int .i64 ht, .int .i64 gap, .int .i64 sp, .slice (some adl) ls.length c] 29)
 have w2b : Bl w w2 := (Bl.refl w).alloc _
 have w21 : Blk w2 (w.heap.size) 29 #[.string ⟨nm.toArray⟩, .int .i64 ht, .int .i64 gap, .int .i64 sp, .slice (some adl) ls.length c] := by
  have h0 := Blk.new (w) 29 #[.string ⟨nm.toArray⟩, .int .i64 ht, .int .i64 gap, .int .i64 sp, .slice (some adl) ls.length c]
  exact h0
 have HL := Lib.hid (hL.bl w2b); have HT := Lib.hid hT
 have h0 : w2.ownsRow w2.heap.size 317 1 (.slice none 0 0) ([] : List (Option Nat)).length (([] : List (Option Nat)).map (ptrCell adl)) := World.ownsRow_nil _ _ _ _
 have H0 := Lib.hid h0
 have k1 := w21.all5
 clear hL hT h0
 go_enter Tryz.func231, Tryz.ntmps231
 go_wp2_with fail
 go_loopw [1, 6] (fun u v wr => ∃ (dn : List (Option Nat)) (rest : List UInt8), u = .string ⟨rest.toArray⟩ ∧ Hid (spelt ls t = (spelt ls rest).map (dn ++ ·)) ∧ dn.length + rest.length ≤ t.length ∧ Bl w2 wr ∧ wr.ownsRow w2.heap.size 317 1 v dn.length (dn.map (ptrCell adl))) (fun u _ _ => strLen u)
 case atStart => exact ⟨[], t, rfl, Lib.hid (by cases spelt ls t <;> rfl), by simp, Bl.refl _, H0.out⟩
 case round =>
  clear k1
  obtain ⟨dn, rest, rfl, hsp, hlen, hbr, hown⟩ := hrel
  obtain ⟨R1, c1, rfl, -, -⟩ := own_new hown
  have k1 := (w21.bl hbr).all5
  have HOw := Lib.hid hown
  clear hown
  by_cases hnil : rest = []
  · subst hnil
    have HE := Lib.hid (show spelt ls t = some dn by rw [hsp.out, spelt_nil]; simp)
    obtain ⟨A2, c2, e2, hr2⟩ := own_reads HOw.out
    injection e2 with q1 _ q3
    subst q1
    subst q3
    have HR := Lib.hid hr2
    clear hr2
    go_wp2_with fail
    refine bodyPost_ret (v := .tuple #[.slice R1 dn.length c1, .bool true]) (by simp [results, Tryz.results231, go_sem]) rfl ⟨R1, dn.length, c1, by rw [HE.out]; rfl, ?_, w2b.trans hbr⟩
    intro l hl
    rw [HE.out] at hl
    obtain rfl := Option.some.inj hl
    simp only [List.length_nil] at hlen
    exact ⟨rfl, by omega, HR.out⟩
  · obtain ⟨b, r, hrs⟩ : ∃ b r, rest = b :: r := by
     cases rest with
     | nil => exact absurd rfl hnil
     | cons b r => exact ⟨b, r, rfl⟩
    have hrl : rest.length = r.length + 1 := by rw [hrs]; rfl
    have hsz : (⟨rest.toArray⟩ : ByteArray).size = rest.length := Lib.size_mk rest
    have hih : 0 < (⟨rest.toArray⟩ : ByteArray).size := by rw [hsz]; omega
    have hg0 : (⟨rest.toArray⟩ : ByteArray)[0]'hih = b := by
     have h := Lib.getElem_mk rest 0 hih
     have h2 : rest[0]? = some b := by rw [hrs]; rfl
     exact Option.some.inj (h.symm.trans h2)
    have hemp : rest.isEmpty = false := by rw [hrs]; rfl
    have hpos : 0 < rest.length := by omega
    have HRl := Lib.hid hrl; have HRs := Lib.hid hrs
    clear hrl hrs
    by_cases hb32 : b = 32
    · have hq : ((b.toNat : Int) == 32) = true := by rw [hb32]; rfl
      have HSp := Lib.hid (show spelt ls t = (spelt ls r).map ((dn ++ [none]) ++ ·) by
       rw [hsp.out, HRs.out, hb32, spelt_space]
       cases spelt ls r <;> simp)
      have h1r : (1 : Int) ≤ (rest.length : Int) := by omega
      have hex : (⟨rest.toArray⟩ : ByteArray).extract 1 rest.length = ⟨r.toArray⟩ := by rw [extract_drop, HRs.out]; rfl
      clear hb32
      go_upto_region 4 with fail
      refine wp_region_flowS (Bl w2) [(true, 0), (true, 3), (true, 4), (false, 1), (false, 2), (true, 5), (true, 6)] (by kernel_rfl) (by kernel_rfl) (by kernel_rfl) (by kernel_rfl) (Bl.drew hbr) ?_
      iterate 2
       apply FlowS.mv _ rfl
       · intro K' hK'
         simp only [sqA, Act.eval, arr_getD, List.getD_cons_zero, List.getD_cons_succ]
         exact hK'
      iterate 1
       apply FlowS.calm2 _ _ rfl rfl
       · intro w' hb' K' hK'
         obtain ⟨hc', hf'⟩ := hb'.rule
         go_simp
         try go_ints
         exact hK'
       · intro K' hK'
         simp only [sqA]
         exact hK'
      apply FlowS.move rfl
      go_wp2_with fail
      refine ⟨(by first | assumption | (repeat' (first | assumption | refine Bl.drew ?_ | refine Bl.alloc ?_ _))), ?_⟩
      apply FlowS.move rfl
      go_wp2_with (at_builtin; refine wpList_append_one (w1 := w2) rfl (.tmp 15) (.tmp 16) 314 rfl 317 (.pointer none) 8 Tryz.underlying314 info_ptr rfl w2.heap.size _ dn.length (dn.map (ptrCell adl)) rfl (.pointer none) rfl rfl hbr.drew (Nat.le_refl _) (by have := hbr.le; first | omega | (simp; omega)) (own_bl HOw.out (Bl.refl _).drew) (by omega) (by unfold maxLen; omega) ?_; intro v' w8 hown8 hb8 hg8)
      go_wp2_with fail
      refine ⟨(by first | assumption | (repeat' (first | assumption | refine Bl.drew ?_ | refine Bl.alloc ?_ _))), ?_⟩
      iterate 2
       apply FlowS.asg _ rfl
       · intro K' hK'
         simp only [sqA, Act.eval, arr_getD, List.getD_cons_zero, List.getD_cons_succ]
         exact hK'
      refine FlowS.done ?_
      have hown9 : w8.ownsRow w2.heap.size 317 1 v' (dn ++ [none]).length ((dn ++ [none]).map (ptrCell adl)) := by
       rw [List.map_append, List.length_append]
       exact hown8
      have HO9 := Lib.hid hown9; have HB8 := Lib.hid hb8
      clear hown8 hown9 hb8 hg8 hex h1r hg0 hq
      go_wp2_with fail
      exact ⟨⟨dn ++ [none], r, rfl, HSp, by have := HRl.out; rw [List.length_append]; simp; omega, HB8.out, HO9.out⟩, by have := HRl.out; simp [strLen, ByteArray.size]; omega⟩
    · have hq : ((b.toNat : Int) == 32) = false := by
       have : b.toNat ≠ 32 := fun h => hb32 (UInt8.toNat_inj.1 h)
       simp; omega
      have HB32 := Lib.hid hb32
      clear hb32
      go_upto_region 5 with fail
      clear hq hg0
      go_wp2_with fail
      go_loopw [23, 7] (fun u v wx => ∃ j : Nat, j ≤ ls.length ∧ u = .int .i64 j ∧ v = .int .i64 (longest ls rest j) ∧ Bl wr wx) (fun u _ _ => ls.length - (RowKit.intOf u).toNat)
      case atStart => exact ⟨0, Nat.zero_le _, rfl, rfl, Bl.refl _⟩
      case round =>
       rename World => wx
       clear k1
       obtain ⟨j, hj, rfl, rfl, hbx⟩ := hrel
       have hbxx := hbr.trans hbx
       have k1 := (w21.bl hbxx).all5
       have hli := longest_in ls rest j
       by_cases hlt : j < ls.length
       · have hg : ls[j]? = some ls[j] := List.getElem?_eq_getElem hlt
         obtain ⟨l, hl⟩ : ∃ l, l = ls[j] := ⟨_, rfl⟩
         rw [← hl] at hg
         have hstep : longest ls rest (j + 1) = if Lib.hasPrefix rest l.text = true ∧ (longest ls rest j < 0 ∨ (txtOf ls (longest ls rest j).toNat).length < l.text.length) then (j : Int) else longest ls rest j := by
          conv => lhs; unfold longest
          rw [txtOf_at hg]
         obtain ⟨ad, e, j1, j2, j3, j4⟩ := (HL.out.bl hbxx).at_ hg
         injection e with e
         subst e
         obtain ⟨m, hm⟩ : ∃ m, m = longest ls rest j := ⟨_, rfl⟩
         rw [← hm] at hstep hli ⊢
         have HSt := Lib.hid hstep
         clear hstep hm hl hg
         go_upto_region 9 with fail
         obtain ⟨wy, hwy⟩ : ∃ x, x = wx.alloc (.cells #[.string ⟨l.text.toArray⟩, .int .i64 l.W, .int .i64 l.H, .slice l.A l.m l.c] 88) := ⟨_, rfl⟩
         obtain ⟨q, hq⟩ : ∃ x, x = wx.heap.size := ⟨_, rfl⟩
         have bq : Blk wy q 88 #[.string ⟨l.text.toArray⟩, .int .i64 l.W, .int .i64 l.H, .slice l.A l.m l.c] := by rw [hwy, hq]; exact Blk.new _ _ _
         have hbq : Bl wx wy := by rw [hwy]; exact (Bl.refl _).alloc _
         rw [← hwy, ← hq]
         clear hwy hq j1 j2 j3 j4 k1
         have hby := hbx.trans hbq
         have hbyy := hbr.trans hby
         have k1 := (w21.bl hbyy).all5
         have k2 := bq.all4
         have hs1 : (⟨l.text.toArray⟩ : ByteArray).size = l.text.length := Lib.size_mk l.text
         have Hp := Lib.hid (hasPrefix_any rest l.text)
         cases hp : Lib.hasPrefix rest l.text
         · have HN := Lib.hid (show longest ls rest (j + 1) = m by rw [HSt.out, if_neg (fun h => by rw [hp] at h; exact absurd h.1 (by decide))])
           have HP := Lib.hid hp
           clear hp
           refine wp_region_flow [(true, 0), (true, 1), (true, 2), (false, 3), (true, 4), (true, 5), (true, 6), (true, 7), (true, 8), (true, 9), (true, 10), (true, 11), (true, 12), (true, 13), (true, 14), (true, 15), (true, 16), (true, 17), (true, 18), (true, 19), (true, 20)] (fun _ => false) (by kernel_rfl) (by kernel_rfl) (by kernel_rfl) (by kernel_rfl) ?_
           iterate 1
            apply Flow.mv _ rfl
            · intro K' hK'
              simp only [sqA, Act.eval, arr_getD, List.getD_cons_zero, List.getD_cons_succ]
              exact hK'
           iterate 2
            apply Flow.calm2 _ _ rfl rfl
            · intro w' hb' K' hK'
              obtain ⟨hc', hf'⟩ := hb'.rule
              go_simp
              try go_ints
              exact hK'
            · intro K' hK'
              simp only [sqA]
              exact hK'
           apply Flow.move rfl
           go_wp2_with fail
           refine (Hp.out _).mono ?_
           rintro e w' ⟨rfl, rfl⟩
           rw [HP.out]
           go_wp2_with fail
           refine ⟨fun _ => (by first | exact HB1 | exact Bl.refl _), ?_⟩
           iterate 1
            apply Flow.mv _ rfl
            · intro K' hK'
              simp only [sqA, Act.eval, arr_getD, List.getD_cons_zero, List.getD_cons_succ]
              exact hK'
           iterate 15
            first
             | (apply Flow.pass rfl (by rfl))
             | (apply Flow.calmG _ rfl (by rfl)
                · intro w' hb'
                  obtain ⟨hc', hf'⟩ := hb'.rule
                  go_simp
                  all_goals (try rfl))
            simp only [sqA]
            try go_ints
           iterate 1
            apply Flow.calm2 _ _ rfl rfl
            · intro w' hb' K' hK'
              obtain ⟨hc', hf'⟩ := hb'.rule
              go_simp
              try go_ints
              exact hK'
            · intro K' hK'
              simp only [sqA]
              exact hK'
           refine Flow.done ?_
           go_wp2_with fail
           exact ⟨⟨j + 1, hlt, by go_num, by rw [HN.out], hby.drew⟩, by simp [RowKit.intOf] <;> omega⟩
         · have HP := Lib.hid hp
           by_cases hm : m < 0
           · have HN := Lib.hid (show longest ls rest (j + 1) = (j : Int) by rw [HSt.out, if_pos ⟨hp, .inl hm⟩])
             clear hp
             refine wp_region_flow [(true, 0), (true, 1), (true, 2), (false, 3), (true, 4), (true, 5), (true, 6), (true, 7), (true, 8), (true, 9), (true, 10), (true, 11), (true, 12), (true, 13), (true, 14), (true, 15), (true, 16), (true, 17), (true, 18), (true, 19), (true, 20)] (fun _ => false) (by kernel_rfl) (by kernel_rfl) (by kernel_rfl) (by kernel_rfl) ?_
             iterate 1
              apply Flow.mv _ rfl
              · intro K' hK'
                simp only [sqA, Act.eval, arr_getD, List.getD_cons_zero, List.getD_cons_succ]
                exact hK'
             iterate 2
              apply Flow.calm2 _ _ rfl rfl
              · intro w' hb' K' hK'
                obtain ⟨hc', hf'⟩ := hb'.rule
                go_simp
                try go_ints
                exact hK'
              · intro K' hK'
                simp only [sqA]
                exact hK'
             apply Flow.move rfl
             go_wp2_with fail
             refine (Hp.out _).mono ?_
             rintro e w' ⟨rfl, rfl⟩
             rw [HP.out]
             go_wp2_with fail
             refine ⟨fun _ => (by first | exact HB1 | exact Bl.refl _), ?_⟩
             iterate 1
              apply Flow.mv _ rfl
              · intro K' hK'
                simp only [sqA, Act.eval, arr_getD, List.getD_cons_zero, List.getD_cons_succ]
                exact hK'
             iterate 15
              first
               | (apply Flow.pass rfl (by rfl))
               | (apply Flow.calmG _ rfl (by rfl)
                  · intro w' hb'
                    obtain ⟨hc', hf'⟩ := hb'.rule
                    go_simp
                    all_goals (try rfl))
              simp only [sqA]
              try go_ints
             iterate 1
              apply Flow.calm2 _ _ rfl rfl
              · intro w' hb' K' hK'
                obtain ⟨hc', hf'⟩ := hb'.rule
                go_simp
                try go_ints
                exact hK'
              · intro K' hK'
                simp only [sqA]
                exact hK'
             refine Flow.done ?_
             go_wp2_with fail
             exact ⟨⟨j + 1, hlt, by go_num, by rw [HN.out], hby.drew⟩, by simp [RowKit.intOf] <;> omega⟩
           · obtain ⟨kb, hkb, rfl, -⟩ : ∃ k : Nat, k < j ∧ m = (k : Int) ∧ Lib.hasPrefix rest (txtOf ls k) = true := by
              rcases hli with h | h
              · omega
              · exact h
             obtain ⟨ad, e, j1, -⟩ := txt_at (HL.out.bl hbyy) (show kb < ls.length by omega)
             injection e with e
             subst e
             have hs2 : (⟨(txtOf ls kb).toArray⟩ : ByteArray).size = (txtOf ls kb).length := Lib.size_mk _
             have hkl : (kb : Int) < (ls.length : Int) := by omega
             by_cases hcmp : (txtOf ls kb).length < l.text.length
             · have HN := Lib.hid (show longest ls rest (j + 1) = (j : Int) by rw [HSt.out, if_pos ⟨hp, .inr (by simpa using hcmp)⟩])
               clear hp
               refine wp_region_flow [(true, 0), (true, 1), (true, 2), (false, 3), (true, 4), (true, 5), (true, 6), (true, 7), (true, 8), (true, 9), (true, 10), (true, 11), (true, 12), (true, 13), (true, 14), (true, 15), (true, 16), (true, 17), (true, 18), (true, 19), (true, 20)] (fun _ => false) (by kernel_rfl) (by kernel_rfl) (by kernel_rfl) (by kernel_rfl) ?_
               iterate 1
                apply Flow.mv _ rfl
                · intro K' hK'
                  simp only [sqA, Act.eval, arr_getD, List.getD_cons_zero, List.getD_cons_succ]
                  exact hK'
               iterate 2
                apply Flow.calm2 _ _ rfl rfl
                · intro w' hb' K' hK'
                  obtain ⟨hc', hf'⟩ := hb'.rule
                  go_simp
                  try go_ints
                  exact hK'
                · intro K' hK'
                  simp only [sqA]
                  exact hK'
               apply Flow.move rfl
               go_wp2_with fail
               refine (Hp.out _).mono ?_
               rintro e w' ⟨rfl, rfl⟩
               rw [HP.out]
               go_wp2_with fail
               refine ⟨fun _ => (by first | exact HB1 | exact Bl.refl _), ?_⟩
               iterate 1
                apply Flow.mv _ rfl
                · intro K' hK'
                  simp only [sqA, Act.eval, arr_getD, List.getD_cons_zero, List.getD_cons_succ]
                  exact hK'
               iterate 15
                first
                 | (apply Flow.pass rfl (by rfl))
                 | (apply Flow.calmG _ rfl (by rfl)
                    · intro w' hb'
                      obtain ⟨hc', hf'⟩ := hb'.rule
                      go_simp
                      all_goals (try rfl))
                simp only [sqA]
                try go_ints
               iterate 1
                apply Flow.calm2 _ _ rfl rfl
                · intro w' hb' K' hK'
                  obtain ⟨hc', hf'⟩ := hb'.rule
                  go_simp
                  try go_ints
                  exact hK'
                · intro K' hK'
                  simp only [sqA]
                  exact hK'
               refine Flow.done ?_
               go_wp2_with fail
               exact ⟨⟨j + 1, hlt, by go_num, by rw [HN.out], hby.drew⟩, by simp [RowKit.intOf] <;> omega⟩
             · have HN := Lib.hid (show longest ls rest (j + 1) = (kb : Int) by rw [HSt.out, if_neg (fun h => h.2.elim hm (fun h2 => hcmp (by simpa using h2)))])
               clear hp
               refine wp_region_flow [(true, 0), (true, 1), (true, 2), (false, 3), (true, 4), (true, 5), (true, 6), (true, 7), (true, 8), (true, 9), (true, 10), (true, 11), (true, 12), (true, 13), (true, 14), (true, 15), (true, 16), (true, 17), (true, 18), (true, 19), (true, 20)] (fun _ => false) (by kernel_rfl) (by kernel_rfl) (by kernel_rfl) (by kernel_rfl) ?_
               iterate 1
                apply Flow.mv _ rfl
                · intro K' hK'
                  simp only [sqA, Act.eval, arr_getD, List.getD_cons_zero, List.getD_cons_succ]
                  exact hK'
               iterate 2
                apply Flow.calm2 _ _ rfl rfl
                · intro w' hb' K' hK'
                  obtain ⟨hc', hf'⟩ := hb'.rule
                  go_simp
                  try go_ints
                  exact hK'
                · intro K' hK'
                  simp only [sqA]
                  exact hK'
               apply Flow.move rfl
               go_wp2_with fail
               refine (Hp.out _).mono ?_
               rintro e w' ⟨rfl, rfl⟩
               rw [HP.out]
               go_wp2_with fail
               refine ⟨fun _ => (by first | exact HB1 | exact Bl.refl _), ?_⟩
               iterate 1
                apply Flow.mv _ rfl
                · intro K' hK'
                  simp only [sqA, Act.eval, arr_getD, List.getD_cons_zero, List.getD_cons_succ]
                  exact hK'
               iterate 15
                first
                 | (apply Flow.pass rfl (by rfl))
                 | (apply Flow.calmG _ rfl (by rfl)
                    · intro w' hb'
                      obtain ⟨hc', hf'⟩ := hb'.rule
                      go_simp
                      all_goals (try rfl))
                simp only [sqA]
                try go_ints
               iterate 1
                apply Flow.calm2 _ _ rfl rfl
                · intro w' hb' K' hK'
                  obtain ⟨hc', hf'⟩ := hb'.rule
                  go_simp
                  try go_ints
                  exact hK'
                · intro K' hK'
                  simp only [sqA]
                  exact hK'
               refine Flow.done ?_
               go_wp2_with fail
               exact ⟨⟨j + 1, hlt, by go_num, by rw [HN.out], hby.drew⟩, by simp [RowKit.intOf] <;> omega⟩
       · obtain rfl : j = ls.length := by omega
         obtain ⟨m, hm⟩ : ∃ m, m = longest ls rest ls.length := ⟨_, rfl⟩
         rw [← hm] at hli ⊢
         have HM := Lib.hid (show headOf ls rest = m from hm.symm)
         clear hm
         by_cases hm0 : m < 0
         · have HE := Lib.hid (show spelt ls t = none by
            have h1 := HM.out
            rw [HRs.out] at h1
            rw [hsp.out, HRs.out, spelt_none HB32.out (by rw [h1]; exact hm0)]
            rfl)
           clear hli
           go_wp2_with fail
           refine bodyPost_ret (v := .tuple #[.slice none 0 0, .bool false]) (by simp [results, Tryz.results231, go_sem]) rfl ⟨none, 0, 0, by rw [HE.out]; rfl, fun l hl => ?_, w2b.trans hbxx⟩
           rw [HE.out] at hl
           cases hl
         · obtain ⟨kb, hkb, rfl, hpre⟩ : ∃ k : Nat, k < ls.length ∧ m = (k : Int) ∧ Lib.hasPrefix rest (txtOf ls k) = true := by
            rcases hli with h | h
            · omega
            · exact h
           have hpl := hasPrefix_len hpre
           have htk := HT.out kb hkb
           obtain ⟨kl, hkl⟩ : ∃ x, x = (txtOf ls kb).length := ⟨_, rfl⟩
           have HSp := Lib.hid (show spelt ls t = (spelt ls (rest.drop kl)).map ((dn ++ [some kb]) ++ ·) by
            have h1 := HM.out
            rw [HRs.out] at h1
            rw [hsp.out, HRs.out, spelt_letter HT.out HB32.out h1 hkb, hkl]
            cases spelt ls (List.drop (txtOf ls kb).length (b :: r)) <;> simp)
           obtain ⟨ad, e, j1, -⟩ := txt_at HL.out hkb
           injection e with e
           subst e
           have hs2 : (⟨(txtOf ls kb).toArray⟩ : ByteArray).size = kl := by rw [hkl]; exact Lib.size_mk _
           have hkl2 : (kb : Int) < (ls.length : Int) := by omega
           have h1r : (kl : Int) ≤ (rest.length : Int) := by omega
           have hex : (⟨rest.toArray⟩ : ByteArray).extract kl rest.length = ⟨(rest.drop kl).toArray⟩ := extract_drop rest kl
           have hkl1 : 1 ≤ kl := by omega
           clear hli hpre htk hkl k1
           have k1 := w21.all5
           have hown0 := own_bl HOw.out hbx
           have HOx := Lib.hid hown0
           clear hown0
           go_upto_region 14 with fail
           refine wp_region_flowS (Bl w2) [(true, 0), (true, 1), (true, 2), (true, 3), (true, 4), (true, 7), (true, 8), (true, 9), (true, 10), (true, 11), (true, 12), (true, 13), (true, 14), (true, 15), (false, 5), (false, 6), (true, 16), (true, 17)] (by kernel_rfl) (by kernel_rfl) (by kernel_rfl) (by kernel_rfl) (Bl.drew hbxx) ?_
           iterate 1
            apply FlowS.mv _ rfl
            · intro K' hK'
              simp only [sqA, Act.eval, arr_getD, List.getD_cons_zero, List.getD_cons_succ]
              exact hK'
           iterate 2
            apply FlowS.calm2 _ _ rfl rfl
            · intro w' hb' K' hK'
              obtain ⟨hc', hf'⟩ := hb'.rule
              go_simp
              try go_ints
              exact hK'
            · intro K' hK'
              simp only [sqA]
              exact hK'
           iterate 1
            apply FlowS.mv _ rfl
            · intro K' hK'
              simp only [sqA, Act.eval, arr_getD, List.getD_cons_zero, List.getD_cons_succ]
              exact hK'
           iterate 1
            apply FlowS.calm2 _ _ rfl rfl
            · intro w' hb' K' hK'
              obtain ⟨hc', hf'⟩ := hb'.rule
              go_simp
              try go_ints
              exact hK'
            · intro K' hK'
              simp only [sqA]
              exact hK'
           iterate 1
            apply FlowS.mv _ rfl
            · intro K' hK'
              simp only [sqA, Act.eval, arr_getD, List.getD_cons_zero, List.getD_cons_succ]
              exact hK'
           iterate 2
            apply FlowS.calm2 _ _ rfl rfl
            · intro w' hb' K' hK'
              obtain ⟨hc', hf'⟩ := hb'.rule
              go_simp
              try go_ints
              exact hK'
            · intro K' hK'
              simp only [sqA]
              exact hK'
           iterate 1
            apply FlowS.mv _ rfl
            · intro K' hK'
              simp only [sqA, Act.eval, arr_getD, List.getD_cons_zero, List.getD_cons_succ]
              exact hK'
           iterate 5
            apply FlowS.calm2 _ _ rfl rfl
            · intro w' hb' K' hK'
              obtain ⟨hc', hf'⟩ := hb'.rule
              go_simp
              try go_ints
              exact hK'
            · intro K' hK'
              simp only [sqA]
              exact hK'
           apply FlowS.move rfl
           go_wp2_with fail
           refine ⟨(by first | assumption | (repeat' (first | assumption | refine Bl.drew ?_ | refine Bl.alloc ?_ _))), ?_⟩
           apply FlowS.move rfl
           go_wp2_with (at_builtin; refine wpList_append_one (w1 := w2) rfl (.tmp 53) (.tmp 58) 314 rfl 317 (.pointer none) 8 Tryz.underlying314 info_ptr rfl w2.heap.size _ dn.length (dn.map (ptrCell adl)) rfl (.pointer (some (adl.add (kb * 4)))) rfl rfl hbxx.drew (Nat.le_refl _) (by have := hbxx.le; first | omega | (simp; omega)) (own_bl HOx.out (Bl.refl _).drew) (by omega) (by unfold maxLen; omega) ?_; intro v' w8 hown8 hb8 hg8)
           go_wp2_with fail
           refine ⟨(by first | assumption | (repeat' (first | assumption | refine Bl.drew ?_ | refine Bl.alloc ?_ _))), ?_⟩
           iterate 2
            apply FlowS.asg _ rfl
            · intro K' hK'
              simp only [sqA, Act.eval, arr_getD, List.getD_cons_zero, List.getD_cons_succ]
              exact hK'
           refine FlowS.done ?_
           have hown9 : w8.ownsRow w2.heap.size 317 1 v' (dn ++ [some kb]).length ((dn ++ [some kb]).map (ptrCell adl)) := by
            rw [List.map_append, List.length_append]
            exact hown8
           have HO9 := Lib.hid hown9; have HB8 := Lib.hid hb8
           clear hown8 hown9 hb8 hg8 hex h1r hs2
           go_wp2_with fail
           exact ⟨⟨dn ++ [some kb], rest.drop kl, rfl, HSp, by rw [List.length_append, List.length_drop]; simp; omega, HB8.out, HO9.out⟩, by simp [strLen, ByteArray.size]; omega⟩

end Go.Proofs.YthobmednnocklaaGreatDoor


/-! bedref2.WidthOf. -/
namespace Go.Proofs.YthobmednnocklaaGreatDoor
open Go.RowKit Go.Shelf

/-- What of a right font the walks of spelling lean on. -/
structure Right (ht : Nat) (gap sp : Nat) (ls : List Ltr) : Prop where
 texts : Texts ls
 many : 1 ≤ ls.length ∧ ls.length ≤ 200
 ht1 : 1 ≤ ht ∧ ht ≤ 64
 gap1 : 1 ≤ gap ∧ gap ≤ 16
 sp1 : 1 ≤ sp ∧ sp ≤ 64
 wide : gap < sp
 wd : ∀ k (h : k < ls.length), (ls[k]'h).W = (wdOf ls k : Int) ∧ 1 ≤ wdOf ls k ∧ wdOf ls k ≤ 64
 hts : ∀ k (h : k < ls.length), (ls[k]'h).H = (ht : Int)
 ms : ∀ k (h : k < ls.length), (ls[k]'h).m = wdOf ls k * ht
theorem Right.wd_le {ht gap sp : Nat} {ls : List Ltr} (h : Right ht gap sp ls) (k : Nat) : wdOf ls k ≤ 64 := by
 rcases Nat.lt_or_ge k ls.length with h1 | h1
 · exact (h.wd k h1).2.2
 · rw [wdOf_out h1]; omega
set_option maxRecDepth 100000 in
set_option maxHeartbeats 4000000 in
theorem widthOf_any (nm : List UInt8) (ht gap sp : Nat) (adl : Addr) (c : Nat) (ls : List Ltr) (t : List UInt8) (l : List (Option Nat)) (w : World) (hL : LtrsAt w (some adl) ls) (hR : Right ht gap sp ls) (htl : t.length ≤ 1048576) (hl : spelt ls t = some l) :
 Calls Tryz.prog 149 #[.agg #[.string ⟨nm.toArray⟩, .int .i64 ht, .int .i64 gap, .int .i64 sp, .slice (some adl) ls.length c], .string ⟨t.toArray⟩] w fun e w' => e = .returned (.int .i64 (goAll ls gap sp (0, false) l).1) ∧ Bl w w' := by
 let w2 := (w).alloc (.cells #[.string ⟨nm.toArray⟩, .int .i64 ht, .int .i64 gap, .int .i64 sp, .slice (some adl) ls.length c] 29)
 have w2b : Bl w w2 := (Bl.refl w).alloc _
 have w21 : Blk w2 (w.heap.size) 29 #[.string ⟨nm.toArray⟩, .int .i64 ht, .int .i64 gap, .int .i64 sp, .slice (some adl) ls.length c] := by
  have h0 := Blk.new (w) 29 #[.string ⟨nm.toArray⟩, .int .i64 ht, .int .i64 gap, .int .i64 sp, .slice (some adl) ls.length c]
  exact h0
 have HL := Lib.hid (hL.bl w2b); have HR := Lib.hid hR
 have hs := spelledOf_any nm ht gap sp adl c ls t w2 (hL.bl w2b) hR.texts hR.many.2 htl
 have hg := hR.gap1
 have hsp := hR.sp1
 have Hs := Lib.hid hs; have Hl := Lib.hid hl
 have k1 := w21.all5
 clear hL hR hs hl
 go_enter Tryz.func149, Tryz.ntmps149
 go_wp2_with fail
 refine Hs.out.mono ?_
 rintro e w3 ⟨R, m, d, rfl, hres, hb3⟩
 clear_value w2
 obtain ⟨rfl, hll, hrd⟩ := hres l Hl.out
 have HRd := Lib.hid hrd
 have hin := spelt_in Hl.out
 have HIn := Lib.hid hin
 clear hres hrd hin Hs k1
 go_wp2_with fail
 go_loopw [19, 7, 8] (fun u v x wr => ∃ i : Nat, i ≤ l.length ∧ u = .int .i64 i ∧ v = .int .i64 (goAll ls gap sp (0, false) (l.take i)).1 ∧ x = .bool (goAll ls gap sp (0, false) (l.take i)).2 ∧ Bl w3 wr) (fun u _ _ _ => l.length - (RowKit.intOf u).toNat)
 case atStart => exact ⟨0, Nat.zero_le _, rfl, rfl, rfl, Bl.refl _⟩
 case round =>
  obtain ⟨i, hi, rfl, rfl, rfl, hbr⟩ := hrel
  have k1 := (w21.bl (hb3.trans hbr)).all5
  have hle := goAll_le (by omega) (by omega) HR.out.wd_le (ls := ls) (gap := gap) (sp := sp) (l.take i) (0, false)
  rw [List.length_take] at hle
  by_cases hlt : i < l.length
  · have hg : l[i]? = some l[i] := List.getElem?_eq_getElem hlt
    obtain ⟨x, hx⟩ : ∃ x, x = l[i] := ⟨_, rfl⟩
    rw [← hx] at hg
    have hst := goAll_succ (ls := ls) (gap := gap) (sp := sp) (s := (0, false)) hg
    obtain ⟨ad, u, rfl, hu, hc⟩ := (HRd.out.bl hbr).at_ hlt
    rw [List.getElem?_map, hg] at hu
    have hu' : ptrCell adl x = u := Option.some.inj hu
    obtain ⟨n, sd, hns⟩ : ∃ n sd, goAll ls gap sp (0, false) (l.take i) = (n, sd) := ⟨_, _, rfl⟩
    rw [hns] at hst hle ⊢
    have hle2 : n ≤ 80 * 1048576 := by simp only at hle; omega
    have HSt := Lib.hid hst
    subst hu'
    clear hu hst hns hle hx
    cases x with
    | none =>
     have HN := Lib.hid (show goAll ls gap sp (0, false) (l.take (i + 1)) = (n + sp, false) from HSt.out)
     change _ = some (Value.pointer none) at hc
     go_wp2_with fail
     exact ⟨⟨i + 1, hlt, by go_num, by rw [HN.out] <;> simp, by rw [HN.out], hbr⟩, by simp [RowKit.intOf] <;> omega⟩
    | some k =>
     have hk := HIn.out k (List.mem_of_getElem? hg)
     obtain ⟨ad2, e, -, j2⟩ := txt_at (HL.out.bl (hb3.trans hbr)) hk
     injection e with e
     subst e
     have hwk := HR.out.wd k hk
     rw [hwk.1] at j2
     have hwk2 := hwk.2.2
     have HN := Lib.hid (show goAll ls gap sp (0, false) (l.take (i + 1)) = (spotOf gap (n, sd) + wdOf ls k, true) from HSt.out)
     change _ = some (Value.pointer (some (adl.add (k * 4)))) at hc
     obtain ⟨wk, hwk3⟩ : ∃ x, x = wdOf ls k := ⟨_, rfl⟩
     rw [← hwk3] at j2 hwk2
     have HW3 := Lib.hid hwk3
     clear hg hwk hwk3
     cases sd
     · go_wp2_with fail
       exact ⟨⟨i + 1, hlt, by go_num, by rw [HN.out, ← HW3.out]; simp [spotOf], by rw [HN.out], hbr⟩, by simp [RowKit.intOf] <;> omega⟩
     · go_wp2_with fail
       exact ⟨⟨i + 1, hlt, by go_num, by rw [HN.out, ← HW3.out]; simp [spotOf], by rw [HN.out], hbr⟩, by simp [RowKit.intOf] <;> omega⟩
  · obtain rfl : i = l.length := by omega
    rw [List.take_length]
    go_wp2_with fail
    go_ret
    exact ⟨rfl, w2b.trans (hb3.trans hbr)⟩

end Go.Proofs.YthobmednnocklaaGreatDoor


/-! bedref2.SetOf. -/
namespace Go.Proofs.YthobmednnocklaaGreatDoor
open Go.RowKit Go.Shelf

theorem ltr_at {w : World} {L : Option Addr} {ls : List Ltr} {k : Nat} (h : LtrsAt w L ls) (hk : k < ls.length) : ∃ ad, L = some ad ∧ w.cell? (ad.add (k * 4)) = some (.string ⟨(txtOf ls k).toArray⟩) ∧ w.cell? ⟨(ad.add (k * 4)).block, (ad.add (k * 4)).off + 1, none⟩ = some (.int .i64 (ls[k]'hk).W) ∧
 w.cell? ⟨(ad.add (k * 4)).block, (ad.add (k * 4)).off + 2, none⟩ = some (.int .i64 (ls[k]'hk).H) ∧ w.cell? ⟨(ad.add (k * 4)).block, (ad.add (k * 4)).off + 3, none⟩ = some (.slice (ls[k]'hk).A (ls[k]'hk).m (ls[k]'hk).c) ∧ Reads w 1 (ls[k]'hk).A (ls[k]'hk).m ((bsOf ls k).map .bool) := by
 have hg : ls[k]? = some ls[k] := List.getElem?_eq_getElem hk
 obtain ⟨ad, e, h1, h2, h3, h4⟩ := h.at_ hg
 exact ⟨ad, e, by rw [txtOf_at hg]; exact h1, h2, h3, h4, by rw [bsOf_at hg]; exact (h.2 _ (List.getElem_mem hk)).1⟩
/-- What is said of a page that is set. -/
def SetRes (W ht : Nat) (cells : List Value) (w : World) (e : Ending) (w' : World) : Prop := ∃ R rc, e = .returned (.agg #[.int .i64 W, .int .i64 ht, .slice R (W * ht) rc]) ∧
      Reads w' 1 R (W * ht) cells ∧ (∀ ad, R = some ad → w.heap.size ≤ ad.block) ∧ Bl w w'
set_option maxRecDepth 100000 in
set_option maxHeartbeats 8000000 in
theorem setOf_any (nm : List UInt8) (ht gap sp : Nat) (adl : Addr) (c : Nat) (ls : List Ltr) (t : List UInt8) (l : List (Option Nat)) (W : Nat) (w : World) (hL : LtrsAt w (some adl) ls) (hR : Right ht gap sp ls) (htl : t.length ≤ 1048576) (hl : spelt ls t = some l)
 (hW : W = (goAll ls gap sp (0, false) l).1) (hW4 : W ≤ 4000) :
 Calls Tryz.prog 150 #[.agg #[.string ⟨nm.toArray⟩, .int .i64 ht, .int .i64 gap, .int .i64 sp, .slice (some adl) ls.length c], .string ⟨t.toArray⟩] w (SetRes W ht ((grid W ht (setF ls (putAt ls gap sp (0, false) l))).map .bool) w) := by
 let w2 := ((w).alloc (.cells #[.string ⟨nm.toArray⟩, .int .i64 ht, .int .i64 gap, .int .i64 sp, .slice (some adl) ls.length c] 29)).alloc (.cells #[.int .i64 0, .int .i64 0, .slice none 0 0] 24)
 have w2b : Bl w w2 := ((Bl.refl w).alloc _).alloc _
 have w21 : Blk w2 (w.heap.size) 29 #[.string ⟨nm.toArray⟩, .int .i64 ht, .int .i64 gap, .int .i64 sp, .slice (some adl) ls.length c] := by
  have h0 := Blk.new (w) 29 #[.string ⟨nm.toArray⟩, .int .i64 ht, .int .i64 gap, .int .i64 sp, .slice (some adl) ls.length c]
  exact (h0.alloc _)
 have w22 : Blk w2 (w.heap.size + 1) 24 #[.int .i64 0, .int .i64 0, .slice none 0 0] := by
  have h0 := Blk.new ((w).alloc (.cells #[.string ⟨nm.toArray⟩, .int .i64 ht, .int .i64 gap, .int .i64 sp, .slice (some adl) ls.length c] 29)) 24 #[.int .i64 0, .int .i64 0, .slice none 0 0]
  simp only [World.size_alloc] at h0
  exact h0
 have lw2 : w2.heap.size = w.heap.size + 2 := by simp [w2]
 have HL := Lib.hid (hL.bl w2b); have HR := Lib.hid hR
 have hs := spelledOf_any nm ht gap sp adl c ls t w2 (hL.bl w2b) hR.texts hR.many.2 htl
 have hg := hR.gap1
 have hsp := hR.sp1
 have hht := hR.ht1
 have hN : W * ht ≤ 256000 := by have := Nat.mul_le_mul hW4 hht.2; omega
 have Hs := Lib.hid hs; have Hl := Lib.hid hl; have HWd := Lib.hid hW
 have k1 := w21.all5
 clear hL hR hs hl hW
 go_enter Tryz.func150, Tryz.ntmps150
 go_wp2_with fail
 refine Hs.out.mono ?_
 rintro e w3 ⟨R, m, d, rfl, hres, hb3⟩
 clear_value w2
 obtain ⟨rfl, hll, hrd⟩ := hres l Hl.out
 have HRd := Lib.hid hrd
 have hin := spelt_in Hl.out
 have HIn := Lib.hid hin
 have hle3 := hb3.le
 clear hres hrd hin Hs k1
 go_upto_region 2 with fail
 have k1 := (w21.bl hb3).all5
 go_cut [7] from 14 to 25 (fun s7 wc => ∃ p, s7 = .pointer (some ⟨p, 0, none⟩) ∧ w3.heap.size ≤ p ∧ Blk wc p 24 #[.int .i64 W, .int .i64 ht, .slice none 0 0] ∧ Bl w3 wc)
 case first =>
  have hw := fun wx (hx : Bl w3 wx) => widthOf_any nm ht gap sp adl c ls t l wx (HL.out.bl (hb3.trans hx)) HR.out htl Hl.out
  rw [← HWd.out] at hw
  have Hw := Lib.hid hw
  clear hw
  refine wp_region_fork [(true, 0), (true, 1), (true, 3), (true, 4)] 2 [(true, 5), (false, 6), (false, 7)] 6 [(false, 2), (true, 5), (false, 7)] (fun i => i == 7) (by kernel_rfl) (by kernel_rfl) (by kernel_rfl) (by kernel_rfl) ?_
  iterate 1
   apply Flow.calm2 _ _ rfl rfl
   · intro w' hb' K' hK'
     obtain ⟨hc', hf'⟩ := hb'.rule
     go_simp
     try go_ints
     exact hK'
   · intro K' hK'
     simp only [sqA]
     exact hK'
  iterate 1
   apply Flow.mv _ rfl
   · intro K' hK'
     simp only [sqA, Act.eval, arr_getD, List.getD_cons_zero, List.getD_cons_succ]
     exact hK'
  iterate 2
   apply Flow.calm2 _ _ rfl rfl
   · intro w' hb' K' hK'
     obtain ⟨hc', hf'⟩ := hb'.rule
     go_simp
     try go_ints
     exact hK'
   · intro K' hK'
     simp only [sqA]
     exact hK'
  refine Flow.fork ?_
  refine ⟨?_, ?_⟩
  · apply Flow.move rfl
    go_wp2_with fail
    refine (Hw.out _ (Bl.refl _).drew).mono ?_
    rintro e w4 ⟨rfl, HB1⟩
    go_wp2_with fail
    refine ⟨fun _ => (by first | exact HB1 | exact Bl.refl _), ?_⟩
    iterate 1
     apply Flow.calm2 _ _ rfl rfl
     · intro w' hb' K' hK'
       obtain ⟨hc', hf'⟩ := hb'.rule
       go_simp
       try go_ints
       exact hK'
     · intro K' hK'
       simp only [sqA]
       exact hK'
    apply Flow.move rfl
    go_wp2_with fail
    first | refine ⟨fun _ => ?_, ?_⟩ | refine ⟨?_, ?_⟩
    · repeat' (first | exact Bl.refl _ | refine Bl.drewL ?_ | refine Bl.drew ?_ | refine Bl.alloc ?_ _)
    refine Flow.tail _ rfl ?_
    go_wp2_with fail
    go_meet
    case rel =>
     have hb34 : Bl w3 w4 := Bl.ofDrew HB1
     refine ⟨w4.heap.size, rfl, by have := hb34.le; omega, ?_, ?_⟩
     · exact Blk.new w4 24 #[.int .i64 W, .int .i64 ht, .slice none 0 0]
     · exact hb34.alloc _
  · apply Flow.move rfl
    go_wp2_with fail
    first | refine ⟨fun _ => ?_, ?_⟩ | refine ⟨?_, ?_⟩
    · repeat' (first | exact Bl.refl _ | refine Bl.drewL ?_ | refine Bl.drew ?_ | refine Bl.alloc ?_ _)
    apply Flow.move rfl
    go_wp2_with fail
    refine (Hw.out _ ((Bl.refl _).drew.alloc _)).mono ?_
    rintro e w4 ⟨rfl, HB2⟩
    go_wp2_with fail
    refine ⟨fun _ => (by first | exact HB2 | exact Bl.refl _), ?_⟩
    iterate 1
     apply Flow.calm2 _ _ rfl rfl
     · intro w' hb' K' hK'
       obtain ⟨hc', hf'⟩ := hb'.rule
       go_simp
       try go_ints
       exact hK'
     · intro K' hK'
       simp only [sqA]
       exact hK'
    refine Flow.tail _ rfl ?_
    have b0 : Blk w4 w3.heap.size 24 #[.int .i64 0, .int .i64 0, .slice none 0 0] := (Blk.new w3.drew 24 #[.int .i64 0, .int .i64 0, .slice none 0 0]).bl HB2
    have k7 := b0.all3
    go_wp2_with fail
    go_meet
    case rel =>
     have hb34 : Bl w3 w4 := ((Bl.refl w3).drew.alloc _).trans HB2
     have hge : w3.heap.size ≤ w3.heap.size := Nat.le_refl _
     refine ⟨w3.heap.size, rfl, by omega, ?_, ?_⟩
     · exact ((b0.set_ 0 _).set_ 1 _).set_ 2 _
     · exact ((hb34.setCell hge _).setCell hge _).setCell hge _
 case rest =>
  obtain ⟨p, rfl, hp, hbp, hb34⟩ := hcut
  rename World => w4
  have hb4 := hb3.trans hb34
  clear k1
  have k7 := hbp.all3
  have hWH : (W : Int) * (ht : Int) = ((W * ht : Nat) : Int) := by simp
  have hmk := run_make_row' (P := Tryz.prog) 22 4 (.bool false) 1 Tryz.underlying22 info_bool rfl .i64 .i64 (W * ht) (by omega) (by omega)
  rw [tabB_made, ← hWH] at hmk
  have HWH := Lib.hid hWH
  have hz : 0 ≤ (W : Int) * (ht : Int) ∧ (W : Int) * (ht : Int) ≤ 256000 := by omega
  clear hWH
  have hpl := hbp.lt
  go_upto_region 4 with fail
  obtain ⟨g, hgq⟩ : ∃ x, x = w4.heap.size := ⟨_, rfl⟩
  obtain ⟨w5, hw5⟩ : ∃ x, x = (w4.setCell ⟨p, 2, none⟩ (.slice (some ⟨g, 0, none⟩) (W * ht) (W * ht))).alloc (.cells (tabB (W * ht) fun _ => false) 4) := ⟨_, rfl⟩
  have hpg : p ≠ g := by omega
  have hle4 := hb34.le
  have hg3 : w3.heap.size ≤ g := by omega
  have bg5 : Blk w5 g 4 (tabB (W * ht) fun k => setF ls (putAt ls gap sp (0, false) (l.take 0)) (k % W) (k / W)) := by
   rw [hw5, hgq]
   have h := Blk.new (w4.setCell ⟨p, 2, none⟩ (.slice (some ⟨w4.heap.size, 0, none⟩) (W * ht) (W * ht))) 4 (tabB (W * ht) fun _ => false)
   rw [World.size_setCell] at h
   exact h
  have bp5 : Blk w5 p 24 #[.int .i64 W, .int .i64 ht, .slice (some ⟨g, 0, none⟩) (W * ht) (W * ht)] := by rw [hw5]; exact (hbp.set_ 2 _).alloc _
  have hb35 : Bl w3 w5 := by rw [hw5]; exact (hb34.setCell (by show w3.heap.size ≤ p; exact hp) _).alloc _
  rw [← hgq, ← hw5]
  have HG := Lib.hid bg5; have HP := Lib.hid bp5; have HB5 := Lib.hid hb35
  clear hgq hw5 k7 hmk hpl hbp hb34 hb4 bg5 bp5 hb35 hle4
  go_wp2_with fail
  go_loopw [35, 8, 9] (fun u v x wr => ∃ i : Nat, i ≤ l.length ∧ u = .int .i64 i ∧ v = .int .i64 (goAll ls gap sp (0, false) (l.take i)).1 ∧ x = .bool (goAll ls gap sp (0, false) (l.take i)).2 ∧ Bl w3 wr ∧ Blk wr p 24 #[.int .i64 W, .int .i64 ht, .slice (some ⟨g, 0, none⟩) (W * ht) (W * ht)] ∧ Blk wr g 4 (tabB (W * ht) fun k => setF ls (putAt ls gap sp (0, false) (l.take i)) (k % W) (k / W))) (fun u _ _ _ => l.length - (RowKit.intOf u).toNat)
  case atStart => exact ⟨0, Nat.zero_le _, rfl, rfl, rfl, HB5.out, HP.out, HG.out⟩
  case round =>
   obtain ⟨i, hi, rfl, rfl, rfl, hbr, hbp, hbg⟩ := hrel
   have k1 := (w21.bl (hb3.trans hbr)).all5
   have hle := goAll_le (by omega) (by omega) HR.out.wd_le (ls := ls) (gap := gap) (sp := sp) (l.take i) (0, false)
   rw [List.length_take] at hle
   by_cases hlt : i < l.length
   · have hgi : l[i]? = some l[i] := List.getElem?_eq_getElem hlt
     obtain ⟨x, hx⟩ : ∃ x, x = l[i] := ⟨_, rfl⟩
     rw [← hx] at hgi
     have hst := goAll_succ (ls := ls) (gap := gap) (sp := sp) (s := (0, false)) hgi
     have htk := goAll_take (ls := ls) (gap := gap) (sp := sp) l (0, false) (i + 1)
     have hpe := putAt_end (ls := ls) (gap := gap) (sp := sp) (l.take i) (0, false)
     rw [← HWd.out] at htk
     obtain ⟨ad, u, rfl, hu, hc⟩ := (HRd.out.bl hbr).at_ hlt
     rw [List.getElem?_map, hgi] at hu
     have hu' : ptrCell adl x = u := Option.some.inj hu
     have hpn := fun (e : x = none) => putAt_succ_none (ls := ls) (gap := gap) (sp := sp) (s := (0, false)) (l := l) (i := i) (by rw [hgi, e])
     have hps := fun k (e : x = some k) => putAt_succ_some (ls := ls) (gap := gap) (sp := sp) (s := (0, false)) (l := l) (i := i) (k := k) (by rw [hgi, e])
     obtain ⟨n, sd, hns⟩ : ∃ n sd, goAll ls gap sp (0, false) (l.take i) = (n, sd) := ⟨_, _, rfl⟩
     obtain ⟨pl, hpl⟩ : ∃ pl, pl = putAt ls gap sp (0, false) (l.take i) := ⟨_, rfl⟩
     rw [hns] at hst hle hpe ⊢
     rw [← hpl] at hpe hbg
     simp only [hns, ← hpl] at hpn hps
     have hle2 : n ≤ 80 * 1048576 := by simp only at hle; omega
     have HSt := Lib.hid hst; have HTk := Lib.hid htk; have HPe := Lib.hid hpe; have HPn := Lib.hid hpn; have HPs := Lib.hid hps
     subst hu'
     clear hu hst hns hle hx htk hpe hpn hps hpl
     cases x with
     | none =>
      have HN := Lib.hid (show goAll ls gap sp (0, false) (l.take (i + 1)) = (n + sp, false) from HSt.out)
      change _ = some (Value.pointer none) at hc
      go_wp2_with fail
      exact ⟨⟨i + 1, hlt, by go_num, by rw [HN.out] <;> simp, by rw [HN.out], hbr, hbp, by rw [HPn.out rfl]; exact hbg⟩, by simp [RowKit.intOf] <;> omega⟩
     | some k =>
      have hk := HIn.out k (List.mem_of_getElem? hgi)
      obtain ⟨ad2, e, -, j2, j3, j4, -⟩ := ltr_at (HL.out.bl (hb3.trans hbr)) hk
      obtain ⟨-, -, -, -, -, -, hbits3⟩ := ltr_at (HL.out.bl hb3) hk
      injection e with e
      subst e
      have hwk := HR.out.wd k hk
      rw [hwk.1] at j2
      rw [HR.out.hts k hk] at j3
      rw [HR.out.ms k hk] at j4 hbits3
      have HN := Lib.hid (show goAll ls gap sp (0, false) (l.take (i + 1)) = (spotOf gap (n, sd) + wdOf ls k, true) from HSt.out)
      have htk := HTk.out
      rw [HN.out] at htk
      have htk2 : spotOf gap (n, sd) + wdOf ls k ≤ W := htk
      change _ = some (Value.pointer (some (adl.add (k * 4)))) at hc
      obtain ⟨wk, hwk3⟩ : ∃ x, x = wdOf ls k := ⟨_, rfl⟩
      obtain ⟨la, hla⟩ : ∃ x, x = (ls[k]'hk).A := ⟨_, rfl⟩
      obtain ⟨lc, hlc⟩ : ∃ x, x = (ls[k]'hk).c := ⟨_, rfl⟩
      rw [← hwk3] at j2 j4 hbits3 htk2
      rw [← hla, ← hlc] at j4
      rw [← hla] at hbits3
      have hwk2 : 1 ≤ wk ∧ wk ≤ 64 := by rw [hwk3]; exact hwk.2
      obtain ⟨at_, hat⟩ : ∃ x, x = spotOf gap (n, sd) := ⟨_, rfl⟩
      rw [← hat] at htk2
      have hpe2 : ∀ p ∈ pl, p.2 + wdOf ls p.1 ≤ at_ := fun q hq => by
       have h1 := HPe.out q hq
       have h2 : n ≤ at_ := by rw [hat]; unfold spotOf; split <;> simp
       exact Nat.le_trans h1 h2
      have hps := HPs.out k rfl
      rw [← hat] at hps
      have HW3 := Lib.hid hwk3; have HLa := Lib.hid hla; have HLc := Lib.hid hlc; have HAt := Lib.hid hat; have HBits := Lib.hid hbits3; have HPe2 := Lib.hid hpe2; have HPs2 := Lib.hid hps
      have hst0 : Blk wr g 4 (tabB (W * ht) (midF ls pl (k, at_) W 0 0)) := by
       have e : tabB (W * ht) (midF ls pl (k, at_) W 0 0) = tabB (W * ht) (fun k => setF ls pl (k % W) (k / W)) := tabB_congr fun j _ => midF_start ls pl (k, at_) W j
       rw [e]
       exact hbg
      have HG0 := Lib.hid hst0; have HBp := Lib.hid hbp; have HBr := Lib.hid hbr; have HC := Lib.hid hc
      have hW1 : 1 ≤ W := by omega
      clear hgi hwk hwk3 hla hlc hat hpe2 hps htk hst0 hbg hbits3 hle2
      go_upto_if 45 with fail
      go_cut [8] from 46 to 49 (fun s8 wc => s8 = .int .i64 at_ ∧ wc = wr)
      case first =>
       cases sd
       · have HV := Lib.hid (show at_ = n from HAt.out)
         go_wp2_with fail
         go_meet
         case rel => exact ⟨by rw [HV.out], rfl⟩
       · have HV := Lib.hid (show at_ = n + gap from HAt.out)
         have hnl : n ≤ 4000 := by have := HV.out; omega
         go_wp2_with fail
         go_meet
         case rel => exact ⟨by rw [HV.out] <;> simp, rfl⟩
      case rest =>
       obtain ⟨rfl, rfl⟩ := hcut
       have k7 := HBp.out.all3
       go_wp2_with fail
       go_loopw [52] (fun u wy => ∃ y : Nat, y ≤ ht ∧ u = .int .i64 y ∧ Bl w3 wy ∧ Blk wy p 24 #[.int .i64 W, .int .i64 ht, .slice (some ⟨g, 0, none⟩) (W * ht) (W * ht)] ∧ Blk wy g 4 (tabB (W * ht) (midF ls pl (k, at_) W y 0))) (fun u _ => ht - (RowKit.intOf u).toNat)
       case atStart => exact ⟨0, Nat.zero_le _, rfl, HBr.out, HBp.out, HG0.out⟩
       case round =>
        rename World => wy
        clear k1 k7 hc j2 j3 j4
        obtain ⟨y, hy, rfl, hby, hbp, hbg⟩ := hrel
        obtain ⟨ad, e, -, j2, j3, j4, -⟩ := ltr_at (HL.out.bl (hb3.trans hby)) hk
        injection e with e
        subst e
        rw [(HR.out.wd k hk).1, ← HW3.out] at j2
        rw [HR.out.hts k hk] at j3
        rw [HR.out.ms k hk, ← HW3.out] at j4
        rw [← HLa.out, ← HLc.out] at j4
        by_cases hyl : y < ht
        · have HG1 := Lib.hid hbg; have HP1 := Lib.hid hbp; have HY1 := Lib.hid hby
          clear hbg
          go_wp2_with fail
          go_loopw [60] (fun u wx => ∃ x : Nat, x ≤ wk ∧ u = .int .i64 x ∧ Bl w3 wx ∧ Blk wx p 24 #[.int .i64 W, .int .i64 ht, .slice (some ⟨g, 0, none⟩) (W * ht) (W * ht)] ∧ Blk wx g 4 (tabB (W * ht) (midF ls pl (k, at_) W y x))) (fun u _ => wk - (RowKit.intOf u).toNat)
          case atStart => exact ⟨0, Nat.zero_le _, rfl, HY1.out, HP1.out, HG1.out⟩
          case round =>
           rename World => wx
           clear j2 j3 j4 hby hbp
           obtain ⟨x, hx, rfl, hbx, hbp, hbg⟩ := hrel
           have hbits := HBits.out.bl hbx
           have hst := fun (h1 : at_ + x < W) (h2 : x < wdOf ls k) => midF_step (ls := ls) (pl := pl) (l := k) (at_ := at_) (W := W) (y := y) (i := x) h1 h2 HPe2.out
           by_cases hxl : x < wk
           · have hst2 := hst (by omega) (by rw [← HW3.out]; exact hxl)
             rw [← HW3.out] at hst2
             have hat := fun wv (hv : Bl wx wv) => at_any wk ht la lc (bsOf ls k) x y wv (hbits.bl hv) (by omega) (by omega)
             simp only [atI_in (bsOf ls k) wk ht x y hxl hyl] at hat
             obtain ⟨ad, e, -, j2, j3, j4, -⟩ := ltr_at (HL.out.bl (hb3.trans hbx)) hk
             injection e with e
             subst e
             rw [(HR.out.wd k hk).1, ← HW3.out] at j2
             rw [HR.out.hts k hk] at j3
             rw [HR.out.ms k hk, ← HW3.out, ← HLa.out, ← HLc.out] at j4
             have k7 := hbp.all3
             obtain ⟨q, hq⟩ : ∃ q : Nat, q = y * W := ⟨_, rfl⟩
             have hqW : (y : Int) * (W : Int) = (q : Int) := by rw [hq]; simp
             have hrow : q + W ≤ W * ht := by rw [hq, ← Nat.succ_mul, Nat.mul_comm W ht]; exact Nat.mul_le_mul_right W hyl
             have hto : ((q : Int) + (at_ : Int) + (x : Int)).toNat = q + at_ + x := by omega
             have hi1 : (q : Int) + (at_ : Int) + (x : Int) < (W : Int) * (ht : Int) := by
              have h1 : ((W * ht : Nat) : Int) = (W : Int) * (ht : Int) := by simp
              rw [← h1]
              omega
             have hq3 : q ≤ 256000 := by omega
             rw [← hq] at hst2
             obtain ⟨pv, hpv⟩ : ∃ pv, pv = pix (bsOf ls k) wk x y := ⟨_, rfl⟩
             simp only [← hpv] at hat
             rw [← hpv] at hst2
             have hcell : wx.cell? ⟨g, q + at_ + x, none⟩ = some (.bool (midF ls pl (k, at_) W y x (q + at_ + x))) := hbg.tabAtB (by omega)
             have hfz := hbg.frozen
             have hgl := hbg.lt
             have Hat := Lib.hid hat; have HSt2 := Lib.hid hst2; have HBg := Lib.hid hbg; have HBp := Lib.hid hbp; have HBx := Lib.hid hbx
             have hc := HC.out
             clear hat hst hst2 hq hpv hbits
             go_upto_region 18 with fail
             refine wp_region_flow [(true, 0), (true, 1), (true, 2), (true, 3), (true, 4), (true, 5), (true, 6), (true, 7), (true, 8), (true, 9), (true, 10), (true, 11), (true, 12), (true, 13), (true, 14), (true, 15), (false, 16), (true, 17), (false, 18)] (fun i => i == 18) (by kernel_rfl) (by kernel_rfl) (by kernel_rfl) (by kernel_rfl) ?_
             iterate 2
              apply Flow.calm2 _ _ rfl rfl
              · intro w' hb' K' hK'
                obtain ⟨hc', hf'⟩ := hb'.rule
                go_simp
                try go_ints
                exact hK'
              · intro K' hK'
                simp only [sqA]
                exact hK'
             iterate 1
              apply Flow.mv _ rfl
              · intro K' hK'
                simp only [sqA, Act.eval, arr_getD, List.getD_cons_zero, List.getD_cons_succ]
                exact hK'
             iterate 3
              apply Flow.calm2 _ _ rfl rfl
              · intro w' hb' K' hK'
                obtain ⟨hc', hf'⟩ := hb'.rule
                go_simp
                try go_ints
                exact hK'
              · intro K' hK'
                simp only [sqA]
                exact hK'
             iterate 2
              iterate 1
               apply Flow.mv _ rfl
               · intro K' hK'
                 simp only [sqA, Act.eval, arr_getD, List.getD_cons_zero, List.getD_cons_succ]
                 exact hK'
              iterate 1
               apply Flow.calm2 _ _ rfl rfl
               · intro w' hb' K' hK'
                 obtain ⟨hc', hf'⟩ := hb'.rule
                 go_simp
                 try go_ints
                 exact hK'
               · intro K' hK'
                 simp only [sqA]
                 exact hK'
             iterate 1
              apply Flow.mv _ rfl
              · intro K' hK'
                simp only [sqA, Act.eval, arr_getD, List.getD_cons_zero, List.getD_cons_succ]
                exact hK'
             iterate 3
              apply Flow.calm2 _ _ rfl rfl
              · intro w' hb' K' hK'
                obtain ⟨hc', hf'⟩ := hb'.rule
                go_simp
                try go_ints
                exact hK'
              · intro K' hK'
                simp only [sqA]
                exact hK'
             iterate 2
              apply Flow.mv _ rfl
              · intro K' hK'
                simp only [sqA, Act.eval, arr_getD, List.getD_cons_zero, List.getD_cons_succ]
                exact hK'
             apply Flow.move rfl
             go_wp2_with fail
             refine (Hat.out _ (Bl.refl _).drew).mono ?_
             rintro e wz ⟨rfl, HB1⟩
             have hbz : Bl wx wz := Bl.ofDrew HB1
             have hcz := hbz.at hcell
             have hfz2 := (HBg.out.bl hbz).frozen
             go_wp2_with fail
             refine ⟨fun _ => (by first | exact HB1 | exact Bl.refl _), ?_⟩
             iterate 1
              apply Flow.calm2 _ _ rfl rfl
              · intro w' hb' K' hK'
                obtain ⟨hc', hf'⟩ := hb'.rule
                go_simp
                try go_ints
                exact hK'
              · intro K' hK'
                simp only [sqA]
                exact hK'
             refine Flow.tail _ rfl ?_
             have hg3' : w3.heap.size ≤ (⟨g, q + at_ + x, none⟩ : Addr).block := hg3
             go_wp2_with fail
             exact ⟨⟨x + 1, hxl, by go_num, (HBx.out.trans hbz).setCell hg3' _, (HBp.out.bl hbz).far (by show p ≠ g; exact hpg) _, (HBg.out.bl hbz).tabSetB _ _ (fun j _ => HSt2.out j)⟩, by simp [RowKit.intOf] <;> omega⟩
           · obtain rfl : x = wk := by omega
             have hrw : tabB (W * ht) (midF ls pl (k, at_) W y x) = tabB (W * ht) (midF ls pl (k, at_) W (y + 1) 0) := tabB_congr fun j _ => by rw [midF_row, HW3.out]
             rw [hrw] at hbg
             have HBg := Lib.hid hbg
             clear hbg hrw hst
             go_wp2_with fail
             exact ⟨⟨y + 1, hyl, by go_num, hbx, hbp, HBg.out⟩, by simp [RowKit.intOf] <;> omega⟩
        · obtain rfl : y = ht := by omega
          have hend : tabB (W * y) (midF ls pl (k, at_) W y 0) = tabB (W * y) (fun j => setF ls (putAt ls gap sp (0, false) (l.take (i + 1))) (j % W) (j / W)) := tabB_congr fun j hj => by
           rw [midF_end (Nat.div_lt_of_lt_mul hj), HPs2.out]
          rw [hend] at hbg
          have HBg := Lib.hid hbg
          clear hbg hend
          go_wp2_with fail
          exact ⟨⟨i + 1, hlt, by go_num, by rw [HN.out, ← HW3.out, ← HAt.out]; simp, by rw [HN.out], hby, hbp, HBg.out⟩, by simp [RowKit.intOf] <;> omega⟩
   · obtain rfl : i = l.length := by omega
     rw [List.take_length] at hbg
     have HBg := Lib.hid hbg
     have k7 := hbp.all3
     have kz := (w22.bl (hb3.trans hbr)).all3
     have hpz : ¬ (p = w.heap.size + 1) := by omega
     clear hbg
     go_wp2_with fail
     refine bodyPost_ret (v := .agg #[.int .i64 W, .int .i64 ht, .slice (some ⟨g, 0, none⟩) (W * ht) (W * ht)]) (by simp [results, Tryz.results150, go_sem, kz]) rfl ⟨_, _, rfl, ?_, ?_, ?_⟩
     · have h := HBg.out.tabReadsB
       have e : (List.range (W * ht)).map (fun k => setF ls (putAt ls gap sp (0, false) l) (k % W) (k / W)) = grid W ht (setF ls (putAt ls gap sp (0, false) l)) := rfl
       rw [e] at h
       have hn : ∀ ad, some (⟨g, 0, none⟩ : Addr) = some ad → w.heap.size + 2 ≤ ad.block := fun ad h => by injection h with h; subst h; show w.heap.size + 2 ≤ g; omega
       exact ((h.store hn (by simp) _).store hn (by simp) _).store hn (by simp) _
     · intro ad h
       injection h with h
       subst h
       show w.heap.size ≤ g
       omega
     · exact (((w2b.trans (hb3.trans hbr)).setCell (by simp) _).setCell (by simp) _).setCell (by simp) _

end Go.Proofs.YthobmednnocklaaGreatDoor
