/- bedref2.WidthOf. -/
import Derived.Test.YtkhajhcfplicpaaDoorS51
import Derived.Test.YtkhajhcfplicpaaDoorS33
import Derived.Test.YtkhajhcfplicpaaDoorS52
import Derived.Test.YtkhajhcfplicpaaDoorS31

namespace Go.Proofs.YtkhajhcfplicpaaDoor
open Go.RowKit Go.Shelf

theorem info_ptr : (Tryd.prog.info? 209).map (fun i => (i.zero, i.size, i.bytes)) = some (some (.pointer none), 1, 8) := by kernel_rfl
/-- Where a letter of a text lies. -/
def ptrCell (ad : Addr) : Option Nat → Value
  | none => .pointer none
  | some k => .pointer (some (ad.add (k * 4)))
/-- What is said of Spelled's answer. -/
def SpRes (ls : List Ltr) (t : List UInt8) (adl : Addr) (w : World) (e : Ending) (w' : World) : Prop := ∃ R m d, e = .returned (.tuple #[.slice R m d, .bool (spelt ls t).isSome]) ∧
      (∀ l, spelt ls t = some l → m = l.length ∧ l.length ≤ t.length ∧ Reads w' 1 R l.length (l.map (ptrCell adl))) ∧ Bl w w'
theorem drop_len {rest : List UInt8} (k : Nat) : (rest.drop k).length = rest.length - k := List.length_drop
set_option maxRecDepth 100000 in
set_option maxHeartbeats 8000000 in
theorem spelledOf_any (nm : List UInt8) (ht gap sp : Int) (adl : Addr) (c : Nat) (ls : List Ltr) (t : List UInt8) (w : World) (hL : LtrsAt w (some adl) ls) (hT : Texts ls) (hn : ls.length ≤ 200) (htl : t.length ≤ 1048576) :
    Calls Tryd.prog 180 #[.agg #[.string ⟨nm.toArray⟩, .int .i64 ht, .int .i64 gap, .int .i64 sp, .slice (some adl) ls.length c], .string ⟨t.toArray⟩] w (SpRes ls t adl w) := by
  let w2 := (w).alloc (.cells #[.string ⟨nm.toArray⟩, .int .i64 ht, .int .i64 gap, .int .i64 sp, .slice (some adl) ls.length c] 67)
  have w2b : Bl w w2 := (Bl.refl w).alloc _
  have w21 : Blk w2 (w.heap.size) 67 #[.string ⟨nm.toArray⟩, .int .i64 ht, .int .i64 gap, .int .i64 sp, .slice (some adl) ls.length c] := by
    have h0 := Blk.new (w) 67 #[.string ⟨nm.toArray⟩, .int .i64 ht, .int .i64 gap, .int .i64 sp, .slice (some adl) ls.length c]
    exact h0
  have HL := Lib.hid (hL.bl w2b); have HT := Lib.hid hT
  have h0 : w2.ownsRow w2.heap.size 209 1 (.slice none 0 0) ([] : List (Option Nat)).length (([] : List (Option Nat)).map (ptrCell adl)) := World.ownsRow_nil _ _ _ _
  have H0 := Lib.hid h0
  have k1 := w21.all5
  clear hL hT h0
  go_enter Tryd.func180, Tryd.ntmps180
  go_wp2_with fail
  go_loopw [1, 6] (fun u v wr => ∃ (dn : List (Option Nat)) (rest : List UInt8), u = .string ⟨rest.toArray⟩ ∧ Hid (spelt ls t = (spelt ls rest).map (dn ++ ·)) ∧ dn.length + rest.length ≤ t.length ∧ Bl w2 wr ∧ wr.ownsRow w2.heap.size 209 1 v dn.length (dn.map (ptrCell adl))) (fun u _ _ => strLen u)
  case atStart => exact ⟨[], t, rfl, Lib.hid (by cases spelt ls t <;> rfl), by simp, Bl.refl _, H0.out⟩
  case round =>
    clear k1
    obtain ⟨dn, rest, rfl, hsp, hlen, hbr, hown⟩ := hrel
    obtain ⟨R1, c1, rfl, -, -⟩ := own_new hown
    have k1 := (w21.bl hbr).all5
    have HOw := Lib.hid hown
    clear hown
    by_cases hnil : rest = []
    · subst hnil
      have HE := Lib.hid (show spelt ls t = some dn by rw [hsp.out, spelt_nil]; simp)
      obtain ⟨A2, c2, e2, hr2⟩ := own_reads HOw.out
      injection e2 with q1 _ q3
      subst q1
      subst q3
      have HR := Lib.hid hr2
      clear hr2
      go_wp2_with fail
      refine bodyPost_ret (v := .tuple #[.slice R1 dn.length c1, .bool true]) (by simp [results, Tryd.results180, go_sem]) rfl ⟨R1, dn.length, c1, by rw [HE.out]; rfl, ?_, w2b.trans hbr⟩
      intro l hl
      rw [HE.out] at hl
      obtain rfl := Option.some.inj hl
      simp only [List.length_nil] at hlen
      exact ⟨rfl, by omega, HR.out⟩
    · obtain ⟨b, r, hrs⟩ : ∃ b r, rest = b :: r := by
        cases rest with
        | nil => exact absurd rfl hnil
        | cons b r => exact ⟨b, r, rfl⟩
      have hrl : rest.length = r.length + 1 := by rw [hrs]; rfl
      have hsz : (⟨rest.toArray⟩ : ByteArray).size = rest.length := Lib.size_mk rest
      have hih : 0 < (⟨rest.toArray⟩ : ByteArray).size := by rw [hsz]; omega
      have hg0 : (⟨rest.toArray⟩ : ByteArray)[0]'hih = b := by
        have h := Lib.getElem_mk rest 0 hih
        have h2 : rest[0]? = some b := by rw [hrs]; rfl
        exact Option.some.inj (h.symm.trans h2)
      have hemp : rest.isEmpty = false := by rw [hrs]; rfl
      have hpos : 0 < rest.length := by omega
      have HRl := Lib.hid hrl; have HRs := Lib.hid hrs
      clear hrl hrs
      by_cases hb32 : b = 32
      · have hq : ((b.toNat : Int) == 32) = true := by rw [hb32]; rfl
        have HSp := Lib.hid (show spelt ls t = (spelt ls r).map ((dn ++ [none]) ++ ·) by
          rw [hsp.out, HRs.out, hb32, spelt_space]
          cases spelt ls r <;> simp)
        have h1r : (1 : Int) ≤ (rest.length : Int) := by omega
        have hex : (⟨rest.toArray⟩ : ByteArray).extract 1 rest.length = ⟨r.toArray⟩ := by rw [extract_drop, HRs.out]; rfl
        clear hb32
        go_upto_region 4 with fail
        refine wp_region_flowS (Bl w2) [(true, 0), (true, 3), (true, 4), (false, 1), (false, 2), (true, 5), (true, 6)] (by kernel_rfl) (by kernel_rfl) (by kernel_rfl) (by kernel_rfl) (Bl.drew hbr) ?_
        iterate 2
          apply FlowS.mv _ rfl
          · intro K' hK'
            simp only [Act.put, Act.eval, List.setIfInBounds_toArray, List.set_cons_zero, List.set_cons_succ, arr_getD, List.getD_cons_zero, List.getD_cons_succ]
            exact hK'
        iterate 1
          apply FlowS.calm2 _ _ rfl rfl
          · intro w' hb' K' hK'
            obtain ⟨hc', hf'⟩ := hb'.rule
            go_simp
            try go_ints
            exact hK'
          · intro K' hK'
            simp only [Act.put, List.setIfInBounds_toArray, List.set_cons_zero, List.set_cons_succ]
            exact hK'
        apply FlowS.move rfl
        go_wp2_with fail
        refine ⟨(by first | assumption | (repeat' (first | assumption | refine Bl.drew ?_ | refine Bl.alloc ?_ _))), ?_⟩
        apply FlowS.move rfl
        go_wp2_with (at_builtin; refine wpList_append_one (w1 := w2) rfl (.tmp 15) (.tmp 16) 206 rfl 209 (.pointer none) 8 Tryd.underlying206 info_ptr rfl w2.heap.size _ dn.length (dn.map (ptrCell adl)) rfl (.pointer none) rfl rfl hbr.drew (Nat.le_refl _) (by have := hbr.le; first | omega | (simp; omega)) (own_bl HOw.out (Bl.refl _).drew) (by omega) (by unfold maxLen; omega) ?_; intro v' w8 hown8 hb8 hg8)
        go_wp2_with fail
        refine ⟨(by first | assumption | (repeat' (first | assumption | refine Bl.drew ?_ | refine Bl.alloc ?_ _))), ?_⟩
        iterate 2
          apply FlowS.asg _ rfl
          · intro K' hK'
            simp only [Act.put, Act.eval, List.setIfInBounds_toArray, List.set_cons_zero, List.set_cons_succ, arr_getD, List.getD_cons_zero, List.getD_cons_succ]
            exact hK'
        refine FlowS.done ?_
        have hown9 : w8.ownsRow w2.heap.size 209 1 v' (dn ++ [none]).length ((dn ++ [none]).map (ptrCell adl)) := by
          rw [List.map_append, List.length_append]
          exact hown8
        have HO9 := Lib.hid hown9; have HB8 := Lib.hid hb8
        clear hown8 hown9 hb8 hg8 hex h1r hg0 hq
        go_wp2_with fail
        exact ⟨⟨dn ++ [none], r, rfl, HSp, by have := HRl.out; rw [List.length_append]; simp; omega, HB8.out, HO9.out⟩, by have := HRl.out; simp [strLen, ByteArray.size]; omega⟩
      · have hq : ((b.toNat : Int) == 32) = false := by
          have : b.toNat ≠ 32 := fun h => hb32 (UInt8.toNat_inj.1 h)
          simp; omega
        have HB32 := Lib.hid hb32
        clear hb32
        go_upto_region 5 with fail
        clear hq hg0
        go_wp2_with fail
        go_loopw [23, 7] (fun u v wx => ∃ j : Nat, j ≤ ls.length ∧ u = .int .i64 j ∧ v = .int .i64 (longest ls rest j) ∧ Bl wr wx) (fun u _ _ => ls.length - (RowKit.intOf u).toNat)
        case atStart => exact ⟨0, Nat.zero_le _, rfl, rfl, Bl.refl _⟩
        case round =>
          rename World => wx
          clear k1
          obtain ⟨j, hj, rfl, rfl, hbx⟩ := hrel
          have hbxx := hbr.trans hbx
          have k1 := (w21.bl hbxx).all5
          have hli := longest_in ls rest j
          by_cases hlt : j < ls.length
          · have hg : ls[j]? = some ls[j] := List.getElem?_eq_getElem hlt
            obtain ⟨l, hl⟩ : ∃ l, l = ls[j] := ⟨_, rfl⟩
            rw [← hl] at hg
            have hstep : longest ls rest (j + 1) = if Lib.hasPrefix rest l.text = true ∧ (longest ls rest j < 0 ∨ (txtOf ls (longest ls rest j).toNat).length < l.text.length) then (j : Int) else longest ls rest j := by
              conv => lhs; unfold longest
              rw [txtOf_at hg]
            obtain ⟨ad, e, j1, j2, j3, j4⟩ := (HL.out.bl hbxx).at_ hg
            injection e with e
            subst e
            obtain ⟨m, hm⟩ : ∃ m, m = longest ls rest j := ⟨_, rfl⟩
            rw [← hm] at hstep hli ⊢
            have HSt := Lib.hid hstep
            clear hstep hm hl hg
            go_upto_region 9 with fail
            obtain ⟨wy, hwy⟩ : ∃ x, x = wx.alloc (.cells #[.string ⟨l.text.toArray⟩, .int .i64 l.W, .int .i64 l.H, .slice l.A l.m l.c] 111) := ⟨_, rfl⟩
            obtain ⟨q, hq⟩ : ∃ x, x = wx.heap.size := ⟨_, rfl⟩
            have bq : Blk wy q 111 #[.string ⟨l.text.toArray⟩, .int .i64 l.W, .int .i64 l.H, .slice l.A l.m l.c] := by rw [hwy, hq]; exact Blk.new _ _ _
            have hbq : Bl wx wy := by rw [hwy]; exact (Bl.refl _).alloc _
            rw [← hwy, ← hq]
            clear hwy hq j1 j2 j3 j4 k1
            have hby := hbx.trans hbq
            have hbyy := hbr.trans hby
            have k1 := (w21.bl hbyy).all5
            have k2 := bq.all4
            have hs1 : (⟨l.text.toArray⟩ : ByteArray).size = l.text.length := Lib.size_mk l.text
            have Hp := Lib.hid (hasPrefix_any rest l.text)
            cases hp : Lib.hasPrefix rest l.text
            · have HN := Lib.hid (show longest ls rest (j + 1) = m by rw [HSt.out, if_neg (fun h => by rw [hp] at h; exact absurd h.1 (by decide))])
              have HP := Lib.hid hp
              clear hp
              refine wp_region_flow [(true, 0), (true, 1), (true, 2), (false, 3), (true, 4), (true, 5), (true, 6), (true, 7), (true, 8), (true, 9), (true, 10), (true, 11), (true, 12), (true, 13), (true, 14), (true, 15), (true, 16), (true, 17), (true, 18), (true, 19), (true, 20)] (fun _ => false) (by kernel_rfl) (by kernel_rfl) (by kernel_rfl) (by kernel_rfl) ?_
              iterate 1
                apply Flow.mv _ rfl
                · intro K' hK'
                  simp only [Act.put, Act.eval, List.setIfInBounds_toArray, List.set_cons_zero, List.set_cons_succ, arr_getD, List.getD_cons_zero, List.getD_cons_succ]
                  exact hK'
              iterate 1
                apply Flow.calm2 _ _ rfl rfl
                · intro w' hb' K' hK'
                  obtain ⟨hc', hf'⟩ := hb'.rule
                  go_simp
                  try go_ints
                  exact hK'
                · intro K' hK'
                  simp only [Act.put, List.setIfInBounds_toArray, List.set_cons_zero, List.set_cons_succ]
                  exact hK'
              iterate 1
                apply Flow.calm2 _ _ rfl rfl
                · intro w' hb' K' hK'
                  obtain ⟨hc', hf'⟩ := hb'.rule
                  go_simp
                  try go_ints
                  exact hK'
                · intro K' hK'
                  simp only [Act.put, List.setIfInBounds_toArray, List.set_cons_zero, List.set_cons_succ]
                  exact hK'
              apply Flow.move rfl
              go_wp2_with fail
              refine (Hp.out _).mono ?_
              rintro e w' ⟨rfl, rfl⟩
              rw [HP.out]
              go_wp2_with fail
              refine ⟨fun _ => (by first | exact HB1 | exact Bl.refl _), ?_⟩
              iterate 1
                apply Flow.mv _ rfl
                · intro K' hK'
                  simp only [Act.put, Act.eval, List.setIfInBounds_toArray, List.set_cons_zero, List.set_cons_succ, arr_getD, List.getD_cons_zero, List.getD_cons_succ]
                  exact hK'
              first
                | (apply Flow.pass rfl (by rfl))
                | (apply Flow.calmG _ rfl (by rfl)
                   · intro w' hb'
                     obtain ⟨hc', hf'⟩ := hb'.rule
                     go_simp
                     all_goals (try rfl))
              simp only [Act.put, List.setIfInBounds_toArray, List.set_cons_zero, List.set_cons_succ]
              try go_ints
              first
                | (apply Flow.pass rfl (by rfl))
                | (apply Flow.calmG _ rfl (by rfl)
                   · intro w' hb'
                     obtain ⟨hc', hf'⟩ := hb'.rule
                     go_simp
                     all_goals (try rfl))
              simp only [Act.put, List.setIfInBounds_toArray, List.set_cons_zero, List.set_cons_succ]
              try go_ints
              first
                | (apply Flow.pass rfl (by rfl))
                | (apply Flow.calmG _ rfl (by rfl)
                   · intro w' hb'
                     obtain ⟨hc', hf'⟩ := hb'.rule
                     go_simp
                     all_goals (try rfl))
              simp only [Act.put, List.setIfInBounds_toArray, List.set_cons_zero, List.set_cons_succ]
              try go_ints
              first
                | (apply Flow.pass rfl (by rfl))
                | (apply Flow.calmG _ rfl (by rfl)
                   · intro w' hb'
                     obtain ⟨hc', hf'⟩ := hb'.rule
                     go_simp
                     all_goals (try rfl))
              simp only [Act.put, List.setIfInBounds_toArray, List.set_cons_zero, List.set_cons_succ]
              try go_ints
              first
                | (apply Flow.pass rfl (by rfl))
                | (apply Flow.calmG _ rfl (by rfl)
                   · intro w' hb'
                     obtain ⟨hc', hf'⟩ := hb'.rule
                     go_simp
                     all_goals (try rfl))
              simp only [Act.put, List.setIfInBounds_toArray, List.set_cons_zero, List.set_cons_succ]
              try go_ints
              first
                | (apply Flow.pass rfl (by rfl))
                | (apply Flow.calmG _ rfl (by rfl)
                   · intro w' hb'
                     obtain ⟨hc', hf'⟩ := hb'.rule
                     go_simp
                     all_goals (try rfl))
              simp only [Act.put, List.setIfInBounds_toArray, List.set_cons_zero, List.set_cons_succ]
              try go_ints
              first
                | (apply Flow.pass rfl (by rfl))
                | (apply Flow.calmG _ rfl (by rfl)
                   · intro w' hb'
                     obtain ⟨hc', hf'⟩ := hb'.rule
                     go_simp
                     all_goals (try rfl))
              simp only [Act.put, List.setIfInBounds_toArray, List.set_cons_zero, List.set_cons_succ]
              try go_ints
              first
                | (apply Flow.pass rfl (by rfl))
                | (apply Flow.calmG _ rfl (by rfl)
                   · intro w' hb'
                     obtain ⟨hc', hf'⟩ := hb'.rule
                     go_simp
                     all_goals (try rfl))
              simp only [Act.put, List.setIfInBounds_toArray, List.set_cons_zero, List.set_cons_succ]
              try go_ints
              first
                | (apply Flow.pass rfl (by rfl))
                | (apply Flow.calmG _ rfl (by rfl)
                   · intro w' hb'
                     obtain ⟨hc', hf'⟩ := hb'.rule
                     go_simp
                     all_goals (try rfl))
              simp only [Act.put, List.setIfInBounds_toArray, List.set_cons_zero, List.set_cons_succ]
              try go_ints
              first
                | (apply Flow.pass rfl (by rfl))
                | (apply Flow.calmG _ rfl (by rfl)
                   · intro w' hb'
                     obtain ⟨hc', hf'⟩ := hb'.rule
                     go_simp
                     all_goals (try rfl))
              simp only [Act.put, List.setIfInBounds_toArray, List.set_cons_zero, List.set_cons_succ]
              try go_ints
              first
                | (apply Flow.pass rfl (by rfl))
                | (apply Flow.calmG _ rfl (by rfl)
                   · intro w' hb'
                     obtain ⟨hc', hf'⟩ := hb'.rule
                     go_simp
                     all_goals (try rfl))
              simp only [Act.put, List.setIfInBounds_toArray, List.set_cons_zero, List.set_cons_succ]
              try go_ints
              first
                | (apply Flow.pass rfl (by rfl))
                | (apply Flow.calmG _ rfl (by rfl)
                   · intro w' hb'
                     obtain ⟨hc', hf'⟩ := hb'.rule
                     go_simp
                     all_goals (try rfl))
              simp only [Act.put, List.setIfInBounds_toArray, List.set_cons_zero, List.set_cons_succ]
              try go_ints
              first
                | (apply Flow.pass rfl (by rfl))
                | (apply Flow.calmG _ rfl (by rfl)
                   · intro w' hb'
                     obtain ⟨hc', hf'⟩ := hb'.rule
                     go_simp
                     all_goals (try rfl))
              simp only [Act.put, List.setIfInBounds_toArray, List.set_cons_zero, List.set_cons_succ]
              try go_ints
              first
                | (apply Flow.pass rfl (by rfl))
                | (apply Flow.calmG _ rfl (by rfl)
                   · intro w' hb'
                     obtain ⟨hc', hf'⟩ := hb'.rule
                     go_simp
                     all_goals (try rfl))
              simp only [Act.put, List.setIfInBounds_toArray, List.set_cons_zero, List.set_cons_succ]
              try go_ints
              first
                | (apply Flow.pass rfl (by rfl))
                | (apply Flow.calmG _ rfl (by rfl)
                   · intro w' hb'
                     obtain ⟨hc', hf'⟩ := hb'.rule
                     go_simp
                     all_goals (try rfl))
              simp only [Act.put, List.setIfInBounds_toArray, List.set_cons_zero, List.set_cons_succ]
              try go_ints
              iterate 1
                apply Flow.calm2 _ _ rfl rfl
                · intro w' hb' K' hK'
                  obtain ⟨hc', hf'⟩ := hb'.rule
                  go_simp
                  try go_ints
                  exact hK'
                · intro K' hK'
                  simp only [Act.put, List.setIfInBounds_toArray, List.set_cons_zero, List.set_cons_succ]
                  exact hK'
              refine Flow.done ?_
              go_wp2_with fail
              exact ⟨⟨j + 1, hlt, by go_num, by rw [HN.out], hby.drew⟩, by simp [RowKit.intOf] <;> omega⟩
            · have HP := Lib.hid hp
              by_cases hm : m < 0
              · have HN := Lib.hid (show longest ls rest (j + 1) = (j : Int) by rw [HSt.out, if_pos ⟨hp, .inl hm⟩])
                clear hp
                refine wp_region_flow [(true, 0), (true, 1), (true, 2), (false, 3), (true, 4), (true, 5), (true, 6), (true, 7), (true, 8), (true, 9), (true, 10), (true, 11), (true, 12), (true, 13), (true, 14), (true, 15), (true, 16), (true, 17), (true, 18), (true, 19), (true, 20)] (fun _ => false) (by kernel_rfl) (by kernel_rfl) (by kernel_rfl) (by kernel_rfl) ?_
                iterate 1
                  apply Flow.mv _ rfl
                  · intro K' hK'
                    simp only [Act.put, Act.eval, List.setIfInBounds_toArray, List.set_cons_zero, List.set_cons_succ, arr_getD, List.getD_cons_zero, List.getD_cons_succ]
                    exact hK'
                iterate 1
                  apply Flow.calm2 _ _ rfl rfl
                  · intro w' hb' K' hK'
                    obtain ⟨hc', hf'⟩ := hb'.rule
                    go_simp
                    try go_ints
                    exact hK'
                  · intro K' hK'
                    simp only [Act.put, List.setIfInBounds_toArray, List.set_cons_zero, List.set_cons_succ]
                    exact hK'
                iterate 1
                  apply Flow.calm2 _ _ rfl rfl
                  · intro w' hb' K' hK'
                    obtain ⟨hc', hf'⟩ := hb'.rule
                    go_simp
                    try go_ints
                    exact hK'
                  · intro K' hK'
                    simp only [Act.put, List.setIfInBounds_toArray, List.set_cons_zero, List.set_cons_succ]
                    exact hK'
                apply Flow.move rfl
                go_wp2_with fail
                refine (Hp.out _).mono ?_
                rintro e w' ⟨rfl, rfl⟩
                rw [HP.out]
                go_wp2_with fail
                refine ⟨fun _ => (by first | exact HB1 | exact Bl.refl _), ?_⟩
                iterate 1
                  apply Flow.mv _ rfl
                  · intro K' hK'
                    simp only [Act.put, Act.eval, List.setIfInBounds_toArray, List.set_cons_zero, List.set_cons_succ, arr_getD, List.getD_cons_zero, List.getD_cons_succ]
                    exact hK'
                first
                  | (apply Flow.pass rfl (by rfl))
                  | (apply Flow.calmG _ rfl (by rfl)
                     · intro w' hb'
                       obtain ⟨hc', hf'⟩ := hb'.rule
                       go_simp
                       all_goals (try rfl))
                simp only [Act.put, List.setIfInBounds_toArray, List.set_cons_zero, List.set_cons_succ]
                try go_ints
                first
                  | (apply Flow.pass rfl (by rfl))
                  | (apply Flow.calmG _ rfl (by rfl)
                     · intro w' hb'
                       obtain ⟨hc', hf'⟩ := hb'.rule
                       go_simp
                       all_goals (try rfl))
                simp only [Act.put, List.setIfInBounds_toArray, List.set_cons_zero, List.set_cons_succ]
                try go_ints
                first
                  | (apply Flow.pass rfl (by rfl))
                  | (apply Flow.calmG _ rfl (by rfl)
                     · intro w' hb'
                       obtain ⟨hc', hf'⟩ := hb'.rule
                       go_simp
                       all_goals (try rfl))
                simp only [Act.put, List.setIfInBounds_toArray, List.set_cons_zero, List.set_cons_succ]
                try go_ints
                first
                  | (apply Flow.pass rfl (by rfl))
                  | (apply Flow.calmG _ rfl (by rfl)
                     · intro w' hb'
                       obtain ⟨hc', hf'⟩ := hb'.rule
                       go_simp
                       all_goals (try rfl))
                simp only [Act.put, List.setIfInBounds_toArray, List.set_cons_zero, List.set_cons_succ]
                try go_ints
                first
                  | (apply Flow.pass rfl (by rfl))
                  | (apply Flow.calmG _ rfl (by rfl)
                     · intro w' hb'
                       obtain ⟨hc', hf'⟩ := hb'.rule
                       go_simp
                       all_goals (try rfl))
                simp only [Act.put, List.setIfInBounds_toArray, List.set_cons_zero, List.set_cons_succ]
                try go_ints
                first
                  | (apply Flow.pass rfl (by rfl))
                  | (apply Flow.calmG _ rfl (by rfl)
                     · intro w' hb'
                       obtain ⟨hc', hf'⟩ := hb'.rule
                       go_simp
                       all_goals (try rfl))
                simp only [Act.put, List.setIfInBounds_toArray, List.set_cons_zero, List.set_cons_succ]
                try go_ints
                first
                  | (apply Flow.pass rfl (by rfl))
                  | (apply Flow.calmG _ rfl (by rfl)
                     · intro w' hb'
                       obtain ⟨hc', hf'⟩ := hb'.rule
                       go_simp
                       all_goals (try rfl))
                simp only [Act.put, List.setIfInBounds_toArray, List.set_cons_zero, List.set_cons_succ]
                try go_ints
                first
                  | (apply Flow.pass rfl (by rfl))
                  | (apply Flow.calmG _ rfl (by rfl)
                     · intro w' hb'
                       obtain ⟨hc', hf'⟩ := hb'.rule
                       go_simp
                       all_goals (try rfl))
                simp only [Act.put, List.setIfInBounds_toArray, List.set_cons_zero, List.set_cons_succ]
                try go_ints
                first
                  | (apply Flow.pass rfl (by rfl))
                  | (apply Flow.calmG _ rfl (by rfl)
                     · intro w' hb'
                       obtain ⟨hc', hf'⟩ := hb'.rule
                       go_simp
                       all_goals (try rfl))
                simp only [Act.put, List.setIfInBounds_toArray, List.set_cons_zero, List.set_cons_succ]
                try go_ints
                first
                  | (apply Flow.pass rfl (by rfl))
                  | (apply Flow.calmG _ rfl (by rfl)
                     · intro w' hb'
                       obtain ⟨hc', hf'⟩ := hb'.rule
                       go_simp
                       all_goals (try rfl))
                simp only [Act.put, List.setIfInBounds_toArray, List.set_cons_zero, List.set_cons_succ]
                try go_ints
                first
                  | (apply Flow.pass rfl (by rfl))
                  | (apply Flow.calmG _ rfl (by rfl)
                     · intro w' hb'
                       obtain ⟨hc', hf'⟩ := hb'.rule
                       go_simp
                       all_goals (try rfl))
                simp only [Act.put, List.setIfInBounds_toArray, List.set_cons_zero, List.set_cons_succ]
                try go_ints
                first
                  | (apply Flow.pass rfl (by rfl))
                  | (apply Flow.calmG _ rfl (by rfl)
                     · intro w' hb'
                       obtain ⟨hc', hf'⟩ := hb'.rule
                       go_simp
                       all_goals (try rfl))
                simp only [Act.put, List.setIfInBounds_toArray, List.set_cons_zero, List.set_cons_succ]
                try go_ints
                first
                  | (apply Flow.pass rfl (by rfl))
                  | (apply Flow.calmG _ rfl (by rfl)
                     · intro w' hb'
                       obtain ⟨hc', hf'⟩ := hb'.rule
                       go_simp
                       all_goals (try rfl))
                simp only [Act.put, List.setIfInBounds_toArray, List.set_cons_zero, List.set_cons_succ]
                try go_ints
                first
                  | (apply Flow.pass rfl (by rfl))
                  | (apply Flow.calmG _ rfl (by rfl)
                     · intro w' hb'
                       obtain ⟨hc', hf'⟩ := hb'.rule
                       go_simp
                       all_goals (try rfl))
                simp only [Act.put, List.setIfInBounds_toArray, List.set_cons_zero, List.set_cons_succ]
                try go_ints
                first
                  | (apply Flow.pass rfl (by rfl))
                  | (apply Flow.calmG _ rfl (by rfl)
                     · intro w' hb'
                       obtain ⟨hc', hf'⟩ := hb'.rule
                       go_simp
                       all_goals (try rfl))
                simp only [Act.put, List.setIfInBounds_toArray, List.set_cons_zero, List.set_cons_succ]
                try go_ints
                iterate 1
                  apply Flow.calm2 _ _ rfl rfl
                  · intro w' hb' K' hK'
                    obtain ⟨hc', hf'⟩ := hb'.rule
                    go_simp
                    try go_ints
                    exact hK'
                  · intro K' hK'
                    simp only [Act.put, List.setIfInBounds_toArray, List.set_cons_zero, List.set_cons_succ]
                    exact hK'
                refine Flow.done ?_
                go_wp2_with fail
                exact ⟨⟨j + 1, hlt, by go_num, by rw [HN.out], hby.drew⟩, by simp [RowKit.intOf] <;> omega⟩
              · obtain ⟨kb, hkb, rfl, -⟩ : ∃ k : Nat, k < j ∧ m = (k : Int) ∧ Lib.hasPrefix rest (txtOf ls k) = true := by
                  rcases hli with h | h
                  · omega
                  · exact h
                obtain ⟨ad, e, j1, -⟩ := txt_at (HL.out.bl hbyy) (show kb < ls.length by omega)
                injection e with e
                subst e
                have hs2 : (⟨(txtOf ls kb).toArray⟩ : ByteArray).size = (txtOf ls kb).length := Lib.size_mk _
                have hkl : (kb : Int) < (ls.length : Int) := by omega
                by_cases hcmp : (txtOf ls kb).length < l.text.length
                · have HN := Lib.hid (show longest ls rest (j + 1) = (j : Int) by rw [HSt.out, if_pos ⟨hp, .inr (by simpa using hcmp)⟩])
                  clear hp
                  refine wp_region_flow [(true, 0), (true, 1), (true, 2), (false, 3), (true, 4), (true, 5), (true, 6), (true, 7), (true, 8), (true, 9), (true, 10), (true, 11), (true, 12), (true, 13), (true, 14), (true, 15), (true, 16), (true, 17), (true, 18), (true, 19), (true, 20)] (fun _ => false) (by kernel_rfl) (by kernel_rfl) (by kernel_rfl) (by kernel_rfl) ?_
                  iterate 1
                    apply Flow.mv _ rfl
                    · intro K' hK'
                      simp only [Act.put, Act.eval, List.setIfInBounds_toArray, List.set_cons_zero, List.set_cons_succ, arr_getD, List.getD_cons_zero, List.getD_cons_succ]
                      exact hK'
                  iterate 1
                    apply Flow.calm2 _ _ rfl rfl
                    · intro w' hb' K' hK'
                      obtain ⟨hc', hf'⟩ := hb'.rule
                      go_simp
                      try go_ints
                      exact hK'
                    · intro K' hK'
                      simp only [Act.put, List.setIfInBounds_toArray, List.set_cons_zero, List.set_cons_succ]
                      exact hK'
                  iterate 1
                    apply Flow.calm2 _ _ rfl rfl
                    · intro w' hb' K' hK'
                      obtain ⟨hc', hf'⟩ := hb'.rule
                      go_simp
                      try go_ints
                      exact hK'
                    · intro K' hK'
                      simp only [Act.put, List.setIfInBounds_toArray, List.set_cons_zero, List.set_cons_succ]
                      exact hK'
                  apply Flow.move rfl
                  go_wp2_with fail
                  refine (Hp.out _).mono ?_
                  rintro e w' ⟨rfl, rfl⟩
                  rw [HP.out]
                  go_wp2_with fail
                  refine ⟨fun _ => (by first | exact HB1 | exact Bl.refl _), ?_⟩
                  iterate 1
                    apply Flow.mv _ rfl
                    · intro K' hK'
                      simp only [Act.put, Act.eval, List.setIfInBounds_toArray, List.set_cons_zero, List.set_cons_succ, arr_getD, List.getD_cons_zero, List.getD_cons_succ]
                      exact hK'
                  first
                    | (apply Flow.pass rfl (by rfl))
                    | (apply Flow.calmG _ rfl (by rfl)
                       · intro w' hb'
                         obtain ⟨hc', hf'⟩ := hb'.rule
                         go_simp
                         all_goals (try rfl))
                  simp only [Act.put, List.setIfInBounds_toArray, List.set_cons_zero, List.set_cons_succ]
                  try go_ints
                  first
                    | (apply Flow.pass rfl (by rfl))
                    | (apply Flow.calmG _ rfl (by rfl)
                       · intro w' hb'
                         obtain ⟨hc', hf'⟩ := hb'.rule
                         go_simp
                         all_goals (try rfl))
                  simp only [Act.put, List.setIfInBounds_toArray, List.set_cons_zero, List.set_cons_succ]
                  try go_ints
                  first
                    | (apply Flow.pass rfl (by rfl))
                    | (apply Flow.calmG _ rfl (by rfl)
                       · intro w' hb'
                         obtain ⟨hc', hf'⟩ := hb'.rule
                         go_simp
                         all_goals (try rfl))
                  simp only [Act.put, List.setIfInBounds_toArray, List.set_cons_zero, List.set_cons_succ]
                  try go_ints
                  first
                    | (apply Flow.pass rfl (by rfl))
                    | (apply Flow.calmG _ rfl (by rfl)
                       · intro w' hb'
                         obtain ⟨hc', hf'⟩ := hb'.rule
                         go_simp
                         all_goals (try rfl))
                  simp only [Act.put, List.setIfInBounds_toArray, List.set_cons_zero, List.set_cons_succ]
                  try go_ints
                  first
                    | (apply Flow.pass rfl (by rfl))
                    | (apply Flow.calmG _ rfl (by rfl)
                       · intro w' hb'
                         obtain ⟨hc', hf'⟩ := hb'.rule
                         go_simp
                         all_goals (try rfl))
                  simp only [Act.put, List.setIfInBounds_toArray, List.set_cons_zero, List.set_cons_succ]
                  try go_ints
                  first
                    | (apply Flow.pass rfl (by rfl))
                    | (apply Flow.calmG _ rfl (by rfl)
                       · intro w' hb'
                         obtain ⟨hc', hf'⟩ := hb'.rule
                         go_simp
                         all_goals (try rfl))
                  simp only [Act.put, List.setIfInBounds_toArray, List.set_cons_zero, List.set_cons_succ]
                  try go_ints
                  first
                    | (apply Flow.pass rfl (by rfl))
                    | (apply Flow.calmG _ rfl (by rfl)
                       · intro w' hb'
                         obtain ⟨hc', hf'⟩ := hb'.rule
                         go_simp
                         all_goals (try rfl))
                  simp only [Act.put, List.setIfInBounds_toArray, List.set_cons_zero, List.set_cons_succ]
                  try go_ints
                  first
                    | (apply Flow.pass rfl (by rfl))
                    | (apply Flow.calmG _ rfl (by rfl)
                       · intro w' hb'
                         obtain ⟨hc', hf'⟩ := hb'.rule
                         go_simp
                         all_goals (try rfl))
                  simp only [Act.put, List.setIfInBounds_toArray, List.set_cons_zero, List.set_cons_succ]
                  try go_ints
                  first
                    | (apply Flow.pass rfl (by rfl))
                    | (apply Flow.calmG _ rfl (by rfl)
                       · intro w' hb'
                         obtain ⟨hc', hf'⟩ := hb'.rule
                         go_simp
                         all_goals (try rfl))
                  simp only [Act.put, List.setIfInBounds_toArray, List.set_cons_zero, List.set_cons_succ]
                  try go_ints
                  first
                    | (apply Flow.pass rfl (by rfl))
                    | (apply Flow.calmG _ rfl (by rfl)
                       · intro w' hb'
                         obtain ⟨hc', hf'⟩ := hb'.rule
                         go_simp
                         all_goals (try rfl))
                  simp only [Act.put, List.setIfInBounds_toArray, List.set_cons_zero, List.set_cons_succ]
                  try go_ints
                  first
                    | (apply Flow.pass rfl (by rfl))
                    | (apply Flow.calmG _ rfl (by rfl)
                       · intro w' hb'
                         obtain ⟨hc', hf'⟩ := hb'.rule
                         go_simp
                         all_goals (try rfl))
                  simp only [Act.put, List.setIfInBounds_toArray, List.set_cons_zero, List.set_cons_succ]
                  try go_ints
                  first
                    | (apply Flow.pass rfl (by rfl))
                    | (apply Flow.calmG _ rfl (by rfl)
                       · intro w' hb'
                         obtain ⟨hc', hf'⟩ := hb'.rule
                         go_simp
                         all_goals (try rfl))
                  simp only [Act.put, List.setIfInBounds_toArray, List.set_cons_zero, List.set_cons_succ]
                  try go_ints
                  first
                    | (apply Flow.pass rfl (by rfl))
                    | (apply Flow.calmG _ rfl (by rfl)
                       · intro w' hb'
                         obtain ⟨hc', hf'⟩ := hb'.rule
                         go_simp
                         all_goals (try rfl))
                  simp only [Act.put, List.setIfInBounds_toArray, List.set_cons_zero, List.set_cons_succ]
                  try go_ints
                  first
                    | (apply Flow.pass rfl (by rfl))
                    | (apply Flow.calmG _ rfl (by rfl)
                       · intro w' hb'
                         obtain ⟨hc', hf'⟩ := hb'.rule
                         go_simp
                         all_goals (try rfl))
                  simp only [Act.put, List.setIfInBounds_toArray, List.set_cons_zero, List.set_cons_succ]
                  try go_ints
                  first
                    | (apply Flow.pass rfl (by rfl))
                    | (apply Flow.calmG _ rfl (by rfl)
                       · intro w' hb'
                         obtain ⟨hc', hf'⟩ := hb'.rule
                         go_simp
                         all_goals (try rfl))
                  simp only [Act.put, List.setIfInBounds_toArray, List.set_cons_zero, List.set_cons_succ]
                  try go_ints
                  iterate 1
                    apply Flow.calm2 _ _ rfl rfl
                    · intro w' hb' K' hK'
                      obtain ⟨hc', hf'⟩ := hb'.rule
                      go_simp
                      try go_ints
                      exact hK'
                    · intro K' hK'
                      simp only [Act.put, List.setIfInBounds_toArray, List.set_cons_zero, List.set_cons_succ]
                      exact hK'
                  refine Flow.done ?_
                  go_wp2_with fail
                  exact ⟨⟨j + 1, hlt, by go_num, by rw [HN.out], hby.drew⟩, by simp [RowKit.intOf] <;> omega⟩
                · have HN := Lib.hid (show longest ls rest (j + 1) = (kb : Int) by rw [HSt.out, if_neg (fun h => h.2.elim hm (fun h2 => hcmp (by simpa using h2)))])
                  clear hp
                  refine wp_region_flow [(true, 0), (true, 1), (true, 2), (false, 3), (true, 4), (true, 5), (true, 6), (true, 7), (true, 8), (true, 9), (true, 10), (true, 11), (true, 12), (true, 13), (true, 14), (true, 15), (true, 16), (true, 17), (true, 18), (true, 19), (true, 20)] (fun _ => false) (by kernel_rfl) (by kernel_rfl) (by kernel_rfl) (by kernel_rfl) ?_
                  iterate 1
                    apply Flow.mv _ rfl
                    · intro K' hK'
                      simp only [Act.put, Act.eval, List.setIfInBounds_toArray, List.set_cons_zero, List.set_cons_succ, arr_getD, List.getD_cons_zero, List.getD_cons_succ]
                      exact hK'
                  iterate 1
                    apply Flow.calm2 _ _ rfl rfl
                    · intro w' hb' K' hK'
                      obtain ⟨hc', hf'⟩ := hb'.rule
                      go_simp
                      try go_ints
                      exact hK'
                    · intro K' hK'
                      simp only [Act.put, List.setIfInBounds_toArray, List.set_cons_zero, List.set_cons_succ]
                      exact hK'
                  iterate 1
                    apply Flow.calm2 _ _ rfl rfl
                    · intro w' hb' K' hK'
                      obtain ⟨hc', hf'⟩ := hb'.rule
                      go_simp
                      try go_ints
                      exact hK'
                    · intro K' hK'
                      simp only [Act.put, List.setIfInBounds_toArray, List.set_cons_zero, List.set_cons_succ]
                      exact hK'
                  apply Flow.move rfl
                  go_wp2_with fail
                  refine (Hp.out _).mono ?_
                  rintro e w' ⟨rfl, rfl⟩
                  rw [HP.out]
                  go_wp2_with fail
                  refine ⟨fun _ => (by first | exact HB1 | exact Bl.refl _), ?_⟩
                  iterate 1
                    apply Flow.mv _ rfl
                    · intro K' hK'
                      simp only [Act.put, Act.eval, List.setIfInBounds_toArray, List.set_cons_zero, List.set_cons_succ, arr_getD, List.getD_cons_zero, List.getD_cons_succ]
                      exact hK'
                  first
                    | (apply Flow.pass rfl (by rfl))
                    | (apply Flow.calmG _ rfl (by rfl)
                       · intro w' hb'
                         obtain ⟨hc', hf'⟩ := hb'.rule
                         go_simp
                         all_goals (try rfl))
                  simp only [Act.put, List.setIfInBounds_toArray, List.set_cons_zero, List.set_cons_succ]
                  try go_ints
                  first
                    | (apply Flow.pass rfl (by rfl))
                    | (apply Flow.calmG _ rfl (by rfl)
                       · intro w' hb'
                         obtain ⟨hc', hf'⟩ := hb'.rule
                         go_simp
                         all_goals (try rfl))
                  simp only [Act.put, List.setIfInBounds_toArray, List.set_cons_zero, List.set_cons_succ]
                  try go_ints
                  first
                    | (apply Flow.pass rfl (by rfl))
                    | (apply Flow.calmG _ rfl (by rfl)
                       · intro w' hb'
                         obtain ⟨hc', hf'⟩ := hb'.rule
                         go_simp
                         all_goals (try rfl))
                  simp only [Act.put, List.setIfInBounds_toArray, List.set_cons_zero, List.set_cons_succ]
                  try go_ints
                  first
                    | (apply Flow.pass rfl (by rfl))
                    | (apply Flow.calmG _ rfl (by rfl)
                       · intro w' hb'
                         obtain ⟨hc', hf'⟩ := hb'.rule
                         go_simp
                         all_goals (try rfl))
                  simp only [Act.put, List.setIfInBounds_toArray, List.set_cons_zero, List.set_cons_succ]
                  try go_ints
                  first
                    | (apply Flow.pass rfl (by rfl))
                    | (apply Flow.calmG _ rfl (by rfl)
                       · intro w' hb'
                         obtain ⟨hc', hf'⟩ := hb'.rule
                         go_simp
                         all_goals (try rfl))
                  simp only [Act.put, List.setIfInBounds_toArray, List.set_cons_zero, List.set_cons_succ]
                  try go_ints
                  first
                    | (apply Flow.pass rfl (by rfl))
                    | (apply Flow.calmG _ rfl (by rfl)
                       · intro w' hb'
                         obtain ⟨hc', hf'⟩ := hb'.rule
                         go_simp
                         all_goals (try rfl))
                  simp only [Act.put, List.setIfInBounds_toArray, List.set_cons_zero, List.set_cons_succ]
                  try go_ints
                  first
                    | (apply Flow.pass rfl (by rfl))
                    | (apply Flow.calmG _ rfl (by rfl)
                       · intro w' hb'
                         obtain ⟨hc', hf'⟩ := hb'.rule
                         go_simp
                         all_goals (try rfl))
                  simp only [Act.put, List.setIfInBounds_toArray, List.set_cons_zero, List.set_cons_succ]
                  try go_ints
                  first
                    | (apply Flow.pass rfl (by rfl))
                    | (apply Flow.calmG _ rfl (by rfl)
                       · intro w' hb'
                         obtain ⟨hc', hf'⟩ := hb'.rule
                         go_simp
                         all_goals (try rfl))
                  simp only [Act.put, List.setIfInBounds_toArray, List.set_cons_zero, List.set_cons_succ]
                  try go_ints
                  first
                    | (apply Flow.pass rfl (by rfl))
                    | (apply Flow.calmG _ rfl (by rfl)
                       · intro w' hb'
                         obtain ⟨hc', hf'⟩ := hb'.rule
                         go_simp
                         all_goals (try rfl))
                  simp only [Act.put, List.setIfInBounds_toArray, List.set_cons_zero, List.set_cons_succ]
                  try go_ints
                  first
                    | (apply Flow.pass rfl (by rfl))
                    | (apply Flow.calmG _ rfl (by rfl)
                       · intro w' hb'
                         obtain ⟨hc', hf'⟩ := hb'.rule
                         go_simp
                         all_goals (try rfl))
                  simp only [Act.put, List.setIfInBounds_toArray, List.set_cons_zero, List.set_cons_succ]
                  try go_ints
                  first
                    | (apply Flow.pass rfl (by rfl))
                    | (apply Flow.calmG _ rfl (by rfl)
                       · intro w' hb'
                         obtain ⟨hc', hf'⟩ := hb'.rule
                         go_simp
                         all_goals (try rfl))
                  simp only [Act.put, List.setIfInBounds_toArray, List.set_cons_zero, List.set_cons_succ]
                  try go_ints
                  first
                    | (apply Flow.pass rfl (by rfl))
                    | (apply Flow.calmG _ rfl (by rfl)
                       · intro w' hb'
                         obtain ⟨hc', hf'⟩ := hb'.rule
                         go_simp
                         all_goals (try rfl))
                  simp only [Act.put, List.setIfInBounds_toArray, List.set_cons_zero, List.set_cons_succ]
                  try go_ints
                  first
                    | (apply Flow.pass rfl (by rfl))
                    | (apply Flow.calmG _ rfl (by rfl)
                       · intro w' hb'
                         obtain ⟨hc', hf'⟩ := hb'.rule
                         go_simp
                         all_goals (try rfl))
                  simp only [Act.put, List.setIfInBounds_toArray, List.set_cons_zero, List.set_cons_succ]
                  try go_ints
                  first
                    | (apply Flow.pass rfl (by rfl))
                    | (apply Flow.calmG _ rfl (by rfl)
                       · intro w' hb'
                         obtain ⟨hc', hf'⟩ := hb'.rule
                         go_simp
                         all_goals (try rfl))
                  simp only [Act.put, List.setIfInBounds_toArray, List.set_cons_zero, List.set_cons_succ]
                  try go_ints
                  first
                    | (apply Flow.pass rfl (by rfl))
                    | (apply Flow.calmG _ rfl (by rfl)
                       · intro w' hb'
                         obtain ⟨hc', hf'⟩ := hb'.rule
                         go_simp
                         all_goals (try rfl))
                  simp only [Act.put, List.setIfInBounds_toArray, List.set_cons_zero, List.set_cons_succ]
                  try go_ints
                  iterate 1
                    apply Flow.calm2 _ _ rfl rfl
                    · intro w' hb' K' hK'
                      obtain ⟨hc', hf'⟩ := hb'.rule
                      go_simp
                      try go_ints
                      exact hK'
                    · intro K' hK'
                      simp only [Act.put, List.setIfInBounds_toArray, List.set_cons_zero, List.set_cons_succ]
                      exact hK'
                  refine Flow.done ?_
                  go_wp2_with fail
                  exact ⟨⟨j + 1, hlt, by go_num, by rw [HN.out], hby.drew⟩, by simp [RowKit.intOf] <;> omega⟩
          · obtain rfl : j = ls.length := by omega
            obtain ⟨m, hm⟩ : ∃ m, m = longest ls rest ls.length := ⟨_, rfl⟩
            rw [← hm] at hli ⊢
            have HM := Lib.hid (show headOf ls rest = m from hm.symm)
            clear hm
            by_cases hm0 : m < 0
            · have HE := Lib.hid (show spelt ls t = none by
                have h1 := HM.out
                rw [HRs.out] at h1
                rw [hsp.out, HRs.out, spelt_none HB32.out (by rw [h1]; exact hm0)]
                rfl)
              clear hli
              go_wp2_with fail
              refine bodyPost_ret (v := .tuple #[.slice none 0 0, .bool false]) (by simp [results, Tryd.results180, go_sem]) rfl ⟨none, 0, 0, by rw [HE.out]; rfl, fun l hl => ?_, w2b.trans hbxx⟩
              rw [HE.out] at hl
              cases hl
            · obtain ⟨kb, hkb, rfl, hpre⟩ : ∃ k : Nat, k < ls.length ∧ m = (k : Int) ∧ Lib.hasPrefix rest (txtOf ls k) = true := by
                rcases hli with h | h
                · omega
                · exact h
              have hpl := hasPrefix_len hpre
              have htk := HT.out kb hkb
              obtain ⟨kl, hkl⟩ : ∃ x, x = (txtOf ls kb).length := ⟨_, rfl⟩
              have HSp := Lib.hid (show spelt ls t = (spelt ls (rest.drop kl)).map ((dn ++ [some kb]) ++ ·) by
                have h1 := HM.out
                rw [HRs.out] at h1
                rw [hsp.out, HRs.out, spelt_letter HT.out HB32.out h1 hkb, hkl]
                cases spelt ls (List.drop (txtOf ls kb).length (b :: r)) <;> simp)
              obtain ⟨ad, e, j1, -⟩ := txt_at HL.out hkb
              injection e with e
              subst e
              have hs2 : (⟨(txtOf ls kb).toArray⟩ : ByteArray).size = kl := by rw [hkl]; exact Lib.size_mk _
              have hkl2 : (kb : Int) < (ls.length : Int) := by omega
              have h1r : (kl : Int) ≤ (rest.length : Int) := by omega
              have hex : (⟨rest.toArray⟩ : ByteArray).extract kl rest.length = ⟨(rest.drop kl).toArray⟩ := extract_drop rest kl
              have hkl1 : 1 ≤ kl := by omega
              clear hli hpre htk hkl k1
              have k1 := w21.all5
              have hown0 := own_bl HOw.out hbx
              have HOx := Lib.hid hown0
              clear hown0
              go_upto_region 14 with fail
              refine wp_region_flowS (Bl w2) [(true, 0), (true, 1), (true, 2), (true, 3), (true, 4), (true, 7), (true, 8), (true, 9), (true, 10), (true, 11), (true, 12), (true, 13), (true, 14), (true, 15), (false, 5), (false, 6), (true, 16), (true, 17)] (by kernel_rfl) (by kernel_rfl) (by kernel_rfl) (by kernel_rfl) (Bl.drew hbxx) ?_
              iterate 1
                apply FlowS.mv _ rfl
                · intro K' hK'
                  simp only [Act.put, Act.eval, List.setIfInBounds_toArray, List.set_cons_zero, List.set_cons_succ, arr_getD, List.getD_cons_zero, List.getD_cons_succ]
                  exact hK'
              iterate 1
                apply FlowS.calm2 _ _ rfl rfl
                · intro w' hb' K' hK'
                  obtain ⟨hc', hf'⟩ := hb'.rule
                  go_simp
                  try go_ints
                  exact hK'
                · intro K' hK'
                  simp only [Act.put, List.setIfInBounds_toArray, List.set_cons_zero, List.set_cons_succ]
                  exact hK'
              iterate 1
                apply FlowS.calm2 _ _ rfl rfl
                · intro w' hb' K' hK'
                  obtain ⟨hc', hf'⟩ := hb'.rule
                  go_simp
                  try go_ints
                  exact hK'
                · intro K' hK'
                  simp only [Act.put, List.setIfInBounds_toArray, List.set_cons_zero, List.set_cons_succ]
                  exact hK'
              iterate 1
                apply FlowS.mv _ rfl
                · intro K' hK'
                  simp only [Act.put, Act.eval, List.setIfInBounds_toArray, List.set_cons_zero, List.set_cons_succ, arr_getD, List.getD_cons_zero, List.getD_cons_succ]
                  exact hK'
              iterate 1
                apply FlowS.calm2 _ _ rfl rfl
                · intro w' hb' K' hK'
                  obtain ⟨hc', hf'⟩ := hb'.rule
                  go_simp
                  try go_ints
                  exact hK'
                · intro K' hK'
                  simp only [Act.put, List.setIfInBounds_toArray, List.set_cons_zero, List.set_cons_succ]
                  exact hK'
              iterate 1
                apply FlowS.mv _ rfl
                · intro K' hK'
                  simp only [Act.put, Act.eval, List.setIfInBounds_toArray, List.set_cons_zero, List.set_cons_succ, arr_getD, List.getD_cons_zero, List.getD_cons_succ]
                  exact hK'
              iterate 1
                apply FlowS.calm2 _ _ rfl rfl
                · intro w' hb' K' hK'
                  obtain ⟨hc', hf'⟩ := hb'.rule
                  go_simp
                  try go_ints
                  exact hK'
                · intro K' hK'
                  simp only [Act.put, List.setIfInBounds_toArray, List.set_cons_zero, List.set_cons_succ]
                  exact hK'
              iterate 1
                apply FlowS.calm2 _ _ rfl rfl
                · intro w' hb' K' hK'
                  obtain ⟨hc', hf'⟩ := hb'.rule
                  go_simp
                  try go_ints
                  exact hK'
                · intro K' hK'
                  simp only [Act.put, List.setIfInBounds_toArray, List.set_cons_zero, List.set_cons_succ]
                  exact hK'
              iterate 1
                apply FlowS.mv _ rfl
                · intro K' hK'
                  simp only [Act.put, Act.eval, List.setIfInBounds_toArray, List.set_cons_zero, List.set_cons_succ, arr_getD, List.getD_cons_zero, List.getD_cons_succ]
                  exact hK'
              iterate 1
                apply FlowS.calm2 _ _ rfl rfl
                · intro w' hb' K' hK'
                  obtain ⟨hc', hf'⟩ := hb'.rule
                  go_simp
                  try go_ints
                  exact hK'
                · intro K' hK'
                  simp only [Act.put, List.setIfInBounds_toArray, List.set_cons_zero, List.set_cons_succ]
                  exact hK'
              iterate 1
                apply FlowS.calm2 _ _ rfl rfl
                · intro w' hb' K' hK'
                  obtain ⟨hc', hf'⟩ := hb'.rule
                  go_simp
                  try go_ints
                  exact hK'
                · intro K' hK'
                  simp only [Act.put, List.setIfInBounds_toArray, List.set_cons_zero, List.set_cons_succ]
                  exact hK'
              iterate 1
                apply FlowS.calm2 _ _ rfl rfl
                · intro w' hb' K' hK'
                  obtain ⟨hc', hf'⟩ := hb'.rule
                  go_simp
                  try go_ints
                  exact hK'
                · intro K' hK'
                  simp only [Act.put, List.setIfInBounds_toArray, List.set_cons_zero, List.set_cons_succ]
                  exact hK'
              iterate 1
                apply FlowS.calm2 _ _ rfl rfl
                · intro w' hb' K' hK'
                  obtain ⟨hc', hf'⟩ := hb'.rule
                  go_simp
                  try go_ints
                  exact hK'
                · intro K' hK'
                  simp only [Act.put, List.setIfInBounds_toArray, List.set_cons_zero, List.set_cons_succ]
                  exact hK'
              iterate 1
                apply FlowS.calm2 _ _ rfl rfl
                · intro w' hb' K' hK'
                  obtain ⟨hc', hf'⟩ := hb'.rule
                  go_simp
                  try go_ints
                  exact hK'
                · intro K' hK'
                  simp only [Act.put, List.setIfInBounds_toArray, List.set_cons_zero, List.set_cons_succ]
                  exact hK'
              apply FlowS.move rfl
              go_wp2_with fail
              refine ⟨(by first | assumption | (repeat' (first | assumption | refine Bl.drew ?_ | refine Bl.alloc ?_ _))), ?_⟩
              apply FlowS.move rfl
              go_wp2_with (at_builtin; refine wpList_append_one (w1 := w2) rfl (.tmp 53) (.tmp 58) 206 rfl 209 (.pointer none) 8 Tryd.underlying206 info_ptr rfl w2.heap.size _ dn.length (dn.map (ptrCell adl)) rfl (.pointer (some (adl.add (kb * 4)))) rfl rfl hbxx.drew (Nat.le_refl _) (by have := hbxx.le; first | omega | (simp; omega)) (own_bl HOx.out (Bl.refl _).drew) (by omega) (by unfold maxLen; omega) ?_; intro v' w8 hown8 hb8 hg8)
              go_wp2_with fail
              refine ⟨(by first | assumption | (repeat' (first | assumption | refine Bl.drew ?_ | refine Bl.alloc ?_ _))), ?_⟩
              iterate 2
                apply FlowS.asg _ rfl
                · intro K' hK'
                  simp only [Act.put, Act.eval, List.setIfInBounds_toArray, List.set_cons_zero, List.set_cons_succ, arr_getD, List.getD_cons_zero, List.getD_cons_succ]
                  exact hK'
              refine FlowS.done ?_
              have hown9 : w8.ownsRow w2.heap.size 209 1 v' (dn ++ [some kb]).length ((dn ++ [some kb]).map (ptrCell adl)) := by
                rw [List.map_append, List.length_append]
                exact hown8
              have HO9 := Lib.hid hown9; have HB8 := Lib.hid hb8
              clear hown8 hown9 hb8 hg8 hex h1r hs2
              go_wp2_with fail
              exact ⟨⟨dn ++ [some kb], rest.drop kl, rfl, HSp, by rw [List.length_append, List.length_drop]; simp; omega, HB8.out, HO9.out⟩, by simp [strLen, ByteArray.size]; omega⟩

end Go.Proofs.YtkhajhcfplicpaaDoor


/-! bedref2.WidthOf. -/
namespace Go.Proofs.YtkhajhcfplicpaaDoor
open Go.RowKit Go.Shelf

/-- What of a right font the walks of spelling lean on. -/
structure Right (ht : Nat) (gap sp : Nat) (ls : List Ltr) : Prop where
  texts : Texts ls
  many : 1 ≤ ls.length ∧ ls.length ≤ 200
  ht1 : 1 ≤ ht ∧ ht ≤ 64
  gap1 : 1 ≤ gap ∧ gap ≤ 16
  sp1 : 1 ≤ sp ∧ sp ≤ 64
  wide : gap < sp
  wd : ∀ k (h : k < ls.length), (ls[k]'h).W = (wdOf ls k : Int) ∧ 1 ≤ wdOf ls k ∧ wdOf ls k ≤ 64
  hts : ∀ k (h : k < ls.length), (ls[k]'h).H = (ht : Int)
  ms : ∀ k (h : k < ls.length), (ls[k]'h).m = wdOf ls k * ht
theorem Right.wd_le {ht gap sp : Nat} {ls : List Ltr} (h : Right ht gap sp ls) (k : Nat) : wdOf ls k ≤ 64 := by
  rcases Nat.lt_or_ge k ls.length with h1 | h1
  · exact (h.wd k h1).2.2
  · rw [wdOf_out h1]; omega
set_option maxRecDepth 100000 in
set_option maxHeartbeats 4000000 in
theorem widthOf_any (nm : List UInt8) (ht gap sp : Nat) (adl : Addr) (c : Nat) (ls : List Ltr) (t : List UInt8) (l : List (Option Nat)) (w : World) (hL : LtrsAt w (some adl) ls) (hR : Right ht gap sp ls) (htl : t.length ≤ 1048576) (hl : spelt ls t = some l) :
    Calls Tryd.prog 85 #[.agg #[.string ⟨nm.toArray⟩, .int .i64 ht, .int .i64 gap, .int .i64 sp, .slice (some adl) ls.length c], .string ⟨t.toArray⟩] w fun e w' => e = .returned (.int .i64 (goAll ls gap sp (0, false) l).1) ∧ Bl w w' := by
  let w2 := (w).alloc (.cells #[.string ⟨nm.toArray⟩, .int .i64 ht, .int .i64 gap, .int .i64 sp, .slice (some adl) ls.length c] 67)
  have w2b : Bl w w2 := (Bl.refl w).alloc _
  have w21 : Blk w2 (w.heap.size) 67 #[.string ⟨nm.toArray⟩, .int .i64 ht, .int .i64 gap, .int .i64 sp, .slice (some adl) ls.length c] := by
    have h0 := Blk.new (w) 67 #[.string ⟨nm.toArray⟩, .int .i64 ht, .int .i64 gap, .int .i64 sp, .slice (some adl) ls.length c]
    exact h0
  have HL := Lib.hid (hL.bl w2b); have HR := Lib.hid hR
  have hs := spelledOf_any nm ht gap sp adl c ls t w2 (hL.bl w2b) hR.texts hR.many.2 htl
  have hg := hR.gap1
  have hsp := hR.sp1
  have Hs := Lib.hid hs; have Hl := Lib.hid hl
  have k1 := w21.all5
  clear hL hR hs hl
  go_enter Tryd.func85, Tryd.ntmps85
  go_wp2_with fail
  refine Hs.out.mono ?_
  rintro e w3 ⟨R, m, d, rfl, hres, hb3⟩
  clear_value w2
  obtain ⟨rfl, hll, hrd⟩ := hres l Hl.out
  have HRd := Lib.hid hrd
  have hin := spelt_in Hl.out
  have HIn := Lib.hid hin
  clear hres hrd hin Hs k1
  go_wp2_with fail
  go_loopw [19, 7, 8] (fun u v x wr => ∃ i : Nat, i ≤ l.length ∧ u = .int .i64 i ∧ v = .int .i64 (goAll ls gap sp (0, false) (l.take i)).1 ∧ x = .bool (goAll ls gap sp (0, false) (l.take i)).2 ∧ Bl w3 wr) (fun u _ _ _ => l.length - (RowKit.intOf u).toNat)
  case atStart => exact ⟨0, Nat.zero_le _, rfl, rfl, rfl, Bl.refl _⟩
  case round =>
    obtain ⟨i, hi, rfl, rfl, rfl, hbr⟩ := hrel
    have k1 := (w21.bl (hb3.trans hbr)).all5
    have hle := goAll_le (by omega) (by omega) HR.out.wd_le (ls := ls) (gap := gap) (sp := sp) (l.take i) (0, false)
    rw [List.length_take] at hle
    by_cases hlt : i < l.length
    · have hg : l[i]? = some l[i] := List.getElem?_eq_getElem hlt
      obtain ⟨x, hx⟩ : ∃ x, x = l[i] := ⟨_, rfl⟩
      rw [← hx] at hg
      have hst := goAll_succ (ls := ls) (gap := gap) (sp := sp) (s := (0, false)) hg
      obtain ⟨ad, u, rfl, hu, hc⟩ := (HRd.out.bl hbr).at_ hlt
      rw [List.getElem?_map, hg] at hu
      have hu' : ptrCell adl x = u := Option.some.inj hu
      obtain ⟨n, sd, hns⟩ : ∃ n sd, goAll ls gap sp (0, false) (l.take i) = (n, sd) := ⟨_, _, rfl⟩
      rw [hns] at hst hle ⊢
      have hle2 : n ≤ 80 * 1048576 := by simp only at hle; omega
      have HSt := Lib.hid hst
      subst hu'
      clear hu hst hns hle hx
      cases x with
      | none =>
        have HN := Lib.hid (show goAll ls gap sp (0, false) (l.take (i + 1)) = (n + sp, false) from HSt.out)
        change _ = some (Value.pointer none) at hc
        go_wp2_with fail
        exact ⟨⟨i + 1, hlt, by go_num, by rw [HN.out] <;> simp, by rw [HN.out], hbr⟩, by simp [RowKit.intOf] <;> omega⟩
      | some k =>
        have hk := HIn.out k (List.mem_of_getElem? hg)
        obtain ⟨ad2, e, -, j2⟩ := txt_at (HL.out.bl (hb3.trans hbr)) hk
        injection e with e
        subst e
        have hwk := HR.out.wd k hk
        rw [hwk.1] at j2
        have hwk2 := hwk.2.2
        have HN := Lib.hid (show goAll ls gap sp (0, false) (l.take (i + 1)) = (spotOf gap (n, sd) + wdOf ls k, true) from HSt.out)
        change _ = some (Value.pointer (some (adl.add (k * 4)))) at hc
        obtain ⟨wk, hwk3⟩ : ∃ x, x = wdOf ls k := ⟨_, rfl⟩
        rw [← hwk3] at j2 hwk2
        have HW3 := Lib.hid hwk3
        clear hg hwk hwk3
        cases sd
        · go_wp2_with fail
          exact ⟨⟨i + 1, hlt, by go_num, by rw [HN.out, ← HW3.out]; simp [spotOf], by rw [HN.out], hbr⟩, by simp [RowKit.intOf] <;> omega⟩
        · go_wp2_with fail
          exact ⟨⟨i + 1, hlt, by go_num, by rw [HN.out, ← HW3.out]; simp [spotOf], by rw [HN.out], hbr⟩, by simp [RowKit.intOf] <;> omega⟩
    · obtain rfl : i = l.length := by omega
      rw [List.take_length]
      go_wp2_with fail
      go_ret
      exact ⟨rfl, w2b.trans (hb3.trans hbr)⟩

end Go.Proofs.YtkhajhcfplicpaaDoor
