/- bedref2.text39: the text of modules. -/
import Derived.Test.YtkipcobpnecmhaaGreatDoorMClaimBarCodes33
import Derived.Test.YtkipcobpnecmhaaGreatDoorMClaimBarCodes5

namespace Go.Proofs.YtkipcobpnecmhaaGreatDoor
open Go.RowKit Go.Shelf

def natV (n : Nat) : Value := .int .i64 (n : Int)
theorem nat_cell {w : World} {ad : Addr} {m : Nat} {rs : List Nat} {i n : Nat} (h : Reads w 1 (some ad) m (natCells rs)) (hi : rs[i]? = some n) : w.cell? (ad.add i) = some (.int .i64 (n : Int)) := by
  have hlt := (List.getElem?_eq_some_iff.1 hi).1
  have hl : (natCells rs).length = rs.length := natCells_len rs
  have hm := h.1
  obtain ⟨ad', e, hc⟩ := h.2 (by omega)
  obtain rfl := Option.some.inj e
  refine hc i _ ?_
  unfold natCells
  rw [List.getElem?_map, hi]
  rfl
set_option maxRecDepth 1000000 in
set_option maxHeartbeats 16000000 in
theorem read39_any (s : List UInt8) (w : World) (hl : s.length ≤ 1048576) (hT : SpOk w) :
    Calls Tryz.prog 117 #[.string ⟨s.toArray⟩] w fun e w' => e = .returned (.tuple #[.string ⟨(rd39 s).1.toArray⟩, .int .i64 (rd39 s).2]) ∧ Bl w w' := by
  have HT := Lib.hid hT
  have Hle := Lib.hid (lengths_any s w hl)
  clear hT
  go_enter Tryz.func117, Tryz.ntmps117
  go_wp2_with fail
  refine Hle.out.mono ?_
  rintro e w1 ⟨R, m, d, rfl, hbad, hgood, hb1⟩
  cases hok : lenOK s with
  | false =>
    obtain ⟨rfl, rfl⟩ := hbad hok
    have HR := Lib.hid (rd_none (s := s) (by unfold outR; rw [hok, if_neg (by decide)]))
    clear hok hbad hgood Hle
    go_wp2_with fail
    exact bodyPost_ret (v := .tuple #[.string ⟨#[]⟩, .int .i64 2]) (by simp [results, Tryz.results117, go_sem]) rfl ⟨by rw [HR.out], hb1⟩
  | true =>
    obtain ⟨hm, hrd, hmd⟩ := hgood hok
    have hOut : outR s = (decP (runsM s)).map txt := by unfold outR; rw [hok, if_pos rfl]
    obtain ⟨rs, hrs⟩ : ∃ rs, rs = runsM s := ⟨_, rfl⟩
    rw [← hrs] at hm hrd hOut
    have hlen := rn_len s s.length
    have hml : m ≤ 1048577 := by
      rw [hm, hrs]
      unfold runsM
      rw [List.length_append, List.length_singleton]
      omega
    have HOut := Lib.hid hOut; have HRd := Lib.hid hrd; have HM := Lib.hid hm; have HB1 := Lib.hid hb1
    by_cases h9 : m % 10 = 9
    · obtain ⟨ad, u0, rfl, -, -⟩ := hrd.at_ (k := 0) (by omega)
      have hm9 : (m : Int) % 10 = 9 := by omega
      have HM9 := Lib.hid h9
      clear hbad hgood hok hrd hOut hrs hlen hm hb1 Hle h9
      have hmm := @run_makeMap Tryz.prog
      have hmt := Tryz.underlying162
      go_wp2_with fail
      obtain ⟨b0, hb0⟩ : ∃ b, b = w1.heap.size := ⟨_, rfl⟩
      have hm0 : MapL strV natV (w1.alloc (.map #[] 0)) b0 ([] : List (List UInt8 × Nat)) := by rw [hb0]; exact MapL.new _
      have hb2 : Bl w1 (w1.alloc (.map #[] 0)) := (Bl.refl _).alloc _
      have HB0 := Lib.hid (show w1.heap.size ≤ b0 by rw [hb0]; exact Nat.le_refl _)
      rw [← hb0]
      generalize w1.alloc (.map #[] 0) = w2 at hm0 hb2 ⊢
      clear hb0 hmm
      refine (pieces_any _ (HT.out.bl (HB1.out.trans hb2))).mono ?_
      rintro e w3 ⟨gp, rfl, hr3, hb3⟩
      have hm3 := hm0.bl hb3
      have HGb := Lib.hid (show gp ≠ b0 from by
        obtain ⟨es, c, h1⟩ := hm3.block
        exact map_ne h1 hr3 (by decide))
      have HSt := Lib.hid (And.intro (hb2.trans hb3) (And.intro hr3 hm3))
      clear hm0 hb2 hr3 hb3 hm3
      go_wp2_with fail
      go_loopw [35] (fun v wr => ∃ d : Nat, d ≤ 44 ∧ v = .int .i64 d ∧ Bl w1 wr ∧ Reads wr 1 (some ⟨gp, 0, none⟩) pieceC.length (strCells' pieceC) ∧ MapL strV natV wr b0 (tabN d)) (fun v _ => 44 - (RowKit.intOf v).toNat)
      case atStart => exact ⟨0, Nat.zero_le _, rfl, HSt.out.1, HSt.out.2.1, HSt.out.2.2⟩
      case round =>
        rename World => wr
        obtain ⟨k, hk, rfl, hbr, hrr, hmr⟩ := hrel
        by_cases hlt : k < 44
        · obtain ⟨ad', ea, c0⟩ := str_at hrr (pieceC_at k hlt)
          obtain rfl := Option.some.inj ea
          rw [add_flat] at c0
          have hkI : (k : Int) < (pieceC.length : Int) := by show (k : Int) < 44; omega
          obtain ⟨w10, hu1, hm10, ho10⟩ := hmr.update (string_kind (P := Tryz.prog) Tryz.underlying9) hmt (pieceK k) k
          obtain ⟨P, hP⟩ : ∃ P, P = pieceK k := ⟨_, rfl⟩
          have hst : tabN (k + 1) = (pieceK k, k) :: tabN k := rfl
          rw [← hst] at hm10
          have hu1' : (Instr.mapUpdate 162 (.map (some b0)) (.string ⟨P.toArray⟩) (.int .i64 (k : Int))).run Tryz.prog wr = .ok () w10 := by rw [hP]; exact hu1
          rw [← hP] at c0
          have HM12 := Lib.hid hm10
          have HB12 := Lib.hid (ho10.2.2 w1 hbr HB0.out)
          have HR12 := Lib.hid (reads_heap hrr (ho10.1 gp HGb.out))
          clear hu1 hm10 ho10 hbr hrr hmr hP hst
          go_wp2_with fail
          exact ⟨⟨k + 1, by omega, by go_num, HB12.out, HR12.out, HM12.out⟩, by simp [RowKit.intOf] <;> omega⟩
        · obtain rfl : k = 44 := by omega
          have hkI : ¬ ((44 : Int) < (pieceC.length : Int)) := by show ¬ ((44 : Int) < 44); decide
          have HMp := Lib.hid hmr; have HBr := Lib.hid hbr
          clear hmr hbr hrr
          go_wp2_with fail
          have hmt2 := Tryz.underlying163
          go_loopw [9, 10] (fun s9 s10 wx => ∃ (j : Nat) (ks : List Nat), 10 * j ≤ m + 1 ∧ s10 = .int .i64 ((10 * j : Nat) : Int) ∧ partsP rs j = some ks ∧ s9 = .string ⟨(txt ks).toArray⟩ ∧ Bl wr wx) (fun _ v _ => m + 10 - (RowKit.intOf v).toNat)
          case atStart => exact ⟨0, [], by omega, rfl, rfl, rfl, Bl.refl _⟩
          case round =>
            rename World => wx
            obtain ⟨j, ks, hj, rfl, hps, rfl, hbx⟩ := hrel
            obtain ⟨hkl, hk44⟩ := partsP_lt hps
            obtain ⟨i, hi⟩ : ∃ i, i = 10 * j := ⟨_, rfl⟩
            rw [← hi] at hj ⊢
            have HPs := Lib.hid hps; have HBx := Lib.hid hbx; have HI := Lib.hid hi; have HK44 := Lib.hid hk44
            have htl := txt_len ks
            obtain ⟨T, hT⟩ : ∃ T, T = txt ks := ⟨_, rfl⟩
            rw [← hT] at htl ⊢
            have HTx := Lib.hid hT
            have hTl : T.length ≤ 1048577 := by omega
            clear hps hbx hT hk44
            by_cases hlt : i < m
            · have hm9 := HM9.out
              have hi9 : i + 9 ≤ m := by omega
              have hid : i + 9 ≤ d := by omega
              have hltI : (i : Int) < (m : Int) := by omega
              have HKl := Lib.hid hkl; have HTl := Lib.hid htl
              clear hi hkl htl hm9
              go_upto_region 15 with fail
              go_wp2_with fail
              try rw [show i + 9 - i = 9 from Nat.add_sub_cancel_left _ _]
              go_loopw [11, 56] (fun s11 s56 wy => ∃ x : Nat, x ≤ 9 ∧ s56 = .int .i64 (x : Int) ∧ s11 = .string ⟨(pat ((rs.drop i).take x)).toArray⟩ ∧ ((rs.drop i).take x).all (fun n => n == 1 || n == 3) = true ∧ Bl wx wy) (fun _ v _ => 9 - (RowKit.intOf v).toNat)
              case atStart => exact ⟨0, Nat.zero_le _, rfl, rfl, rfl, Bl.refl _⟩
              case round =>
                rename World => wy
                obtain ⟨x, hx, rfl, rfl, hall, hby⟩ := hrel
                have HAl := Lib.hid hall; have HBy := Lib.hid hby
                by_cases hxt : x < 9
                · have hixm : i + x < rs.length := by have := HM.out; omega
                  obtain ⟨n, hn⟩ : ∃ n, rs[i + x]? = some n := ⟨_, List.getElem?_eq_getElem hixm⟩
                  have hcx := nat_cell (HRd.out.bl (HBr.out.trans (HBx.out.trans hby))) hn
                  have hcx2 : wy.cell? ((ad.add i).add x) = some (.int .i64 (n : Int)) := by rw [add_of_add]; exact hcx
                  have hgx : (rs.drop i)[x]? = some n := by rw [List.getElem?_drop]; exact hn
                  have HTk := Lib.hid (show (rs.drop i).take (x + 1) = (rs.drop i).take x ++ [n] by rw [List.take_add_one, hgx]; rfl)
                  have hpt : pat ((rs.drop i).take (x + 1)) = pat ((rs.drop i).take x) ++ [if n = 3 then 119 else 110] := by rw [HTk.out]; unfold pat; rw [List.map_append]; rfl
                  obtain ⟨M, hM⟩ : ∃ M, M = pat ((rs.drop i).take x) := ⟨_, rfl⟩
                  have hMl : M.length ≤ 9 := by rw [hM]; unfold pat; rw [List.length_map, List.length_take]; omega
                  rw [← hM] at hpt ⊢
                  have hsM : (⟨M.toArray⟩ : ByteArray).size = M.length := Lib.size_mk M
                  have HPt := Lib.hid hpt
                  have HGx := Lib.hid hgx
                  clear hpt hM hn hgx hall hby
                  by_cases h1 : n = 1
                  · obtain rfl : n = 1 := h1
                    have HSt := Lib.hid (show pat ((rs.drop i).take (x + 1)) = M ++ [110] from HPt.out)
                    have HAl2 := Lib.hid (show ((rs.drop i).take (x + 1)).all (fun n => n == 1 || n == 3) = true by rw [HTk.out, List.all_append, HAl.out]; rfl)
                    have hoM : ¬ (9223372036854775807 < M.length + 1) := by omega
                    have hcat : (⟨M.toArray⟩ : ByteArray) ++ ⟨#[110]⟩ = ⟨(M ++ [110]).toArray⟩ := cat_two M [110]
                    clear HPt
                    go_upto_region 20 with fail
                    obtain ⟨K, hK⟩ : ∃ K, K = wy.heap.size := ⟨_, rfl⟩
                    have q0 : MapL (fun z : Int => .int .i64 z) strV (wy.alloc (.map #[] 0)) K ([] : List (Int × List UInt8)) := by rw [hK]; exact MapL.new _
                    have q1 : Bl wy (wy.alloc (.map #[] 0)) := (Bl.refl _).alloc _
                    have hKl : wy.heap.size ≤ K := by rw [hK]; exact Nat.le_refl _
                    have hmk : ∀ t, (Instr.makeMap t none).run Tryz.prog wy = .ok (.map (some K)) (wy.alloc (.map #[] 0)) := fun t => by rw [hK]; exact run_makeMap t wy
                    generalize wy.alloc (.map #[] 0) = w20 at q0 q1 hmk
                    obtain ⟨w21, q2, q3, q4⟩ := q0.update (int_kind (P := Tryz.prog) Tryz.underlying3) hmt2 1 [110]
                    obtain ⟨w22, q5, q6, q7⟩ := q3.update (int_kind (P := Tryz.prog) Tryz.underlying3) hmt2 3 [119]
                    have q2' : (Instr.mapUpdate 163 (.map (some K)) (.int .i64 1) (.string ⟨#[110]⟩)).run Tryz.prog w20 = .ok () w21 := q2
                    have q5' : (Instr.mapUpdate 163 (.map (some K)) (.int .i64 3) (.string ⟨#[119]⟩)).run Tryz.prog w21 = .ok () w22 := q5
                    have q8 := q6.lookup1 (int_kind (P := Tryz.prog) Tryz.underlying3) hmt2 (Tryz.zeroValue9 w22) 1
                    have q8' : (Instr.lookup 163 (.map (some K)) (.int .i64 1) false).run Tryz.prog w22 = .ok (.string ⟨#[110]⟩) w22 := q8
                    have HB22 := Lib.hid (HBy.out.trans (q7.2.2 wy (q4.2.2 wy q1 hKl) hKl))
                    clear q0 q1 q2 q3 q4 q5 q6 q7 q8 hK hKl
                    go_wp2_with fail
                    exact ⟨⟨x + 1, by omega, by go_num, by rw [HSt.out, ← hcat], HAl2.out, HB22.out⟩, by simp [RowKit.intOf] <;> omega⟩
                  · by_cases h3 : n = 3
                    · obtain rfl : n = 3 := h3
                      have HSt := Lib.hid (show pat ((rs.drop i).take (x + 1)) = M ++ [119] from HPt.out)
                      have HAl2 := Lib.hid (show ((rs.drop i).take (x + 1)).all (fun n => n == 1 || n == 3) = true by rw [HTk.out, List.all_append, HAl.out]; rfl)
                      have hoM : ¬ (9223372036854775807 < M.length + 1) := by omega
                      have hcat : (⟨M.toArray⟩ : ByteArray) ++ ⟨#[119]⟩ = ⟨(M ++ [119]).toArray⟩ := cat_two M [119]
                      clear HPt
                      go_upto_region 20 with fail
                      obtain ⟨K, hK⟩ : ∃ K, K = wy.heap.size := ⟨_, rfl⟩
                      have q0 : MapL (fun z : Int => .int .i64 z) strV (wy.alloc (.map #[] 0)) K ([] : List (Int × List UInt8)) := by rw [hK]; exact MapL.new _
                      have q1 : Bl wy (wy.alloc (.map #[] 0)) := (Bl.refl _).alloc _
                      have hKl : wy.heap.size ≤ K := by rw [hK]; exact Nat.le_refl _
                      have hmk : ∀ t, (Instr.makeMap t none).run Tryz.prog wy = .ok (.map (some K)) (wy.alloc (.map #[] 0)) := fun t => by rw [hK]; exact run_makeMap t wy
                      generalize wy.alloc (.map #[] 0) = w20 at q0 q1 hmk
                      obtain ⟨w21, q2, q3, q4⟩ := q0.update (int_kind (P := Tryz.prog) Tryz.underlying3) hmt2 1 [110]
                      obtain ⟨w22, q5, q6, q7⟩ := q3.update (int_kind (P := Tryz.prog) Tryz.underlying3) hmt2 3 [119]
                      have q2' : (Instr.mapUpdate 163 (.map (some K)) (.int .i64 1) (.string ⟨#[110]⟩)).run Tryz.prog w20 = .ok () w21 := q2
                      have q5' : (Instr.mapUpdate 163 (.map (some K)) (.int .i64 3) (.string ⟨#[119]⟩)).run Tryz.prog w21 = .ok () w22 := q5
                      have q8 := q6.lookup1 (int_kind (P := Tryz.prog) Tryz.underlying3) hmt2 (Tryz.zeroValue9 w22) 3
                      have q8' : (Instr.lookup 163 (.map (some K)) (.int .i64 3) false).run Tryz.prog w22 = .ok (.string ⟨#[119]⟩) w22 := q8
                      have HB22 := Lib.hid (HBy.out.trans (q7.2.2 wy (q4.2.2 wy q1 hKl) hKl))
                      clear q0 q1 q2 q3 q4 q5 q6 q7 q8 hK hKl
                      go_wp2_with fail
                      exact ⟨⟨x + 1, by omega, by go_num, by rw [HSt.out, ← hcat], HAl2.out, HB22.out⟩, by simp [RowKit.intOf] <;> omega⟩
                    · have HR := Lib.hid (rd_none (s := s) (by
                        have hg : gP rs j = none := by
                          unfold gP
                          rw [if_neg]
                          rintro ⟨ha, -⟩
                          rw [← HI.out] at ha
                          have hx9 : ((rs.drop i).take 9)[x]? = some n := by rw [List.getElem?_take_of_lt hxt]; exact HGx.out
                          have := List.all_eq_true.1 ha n (List.mem_of_getElem? hx9)
                          simp [h1, h3] at this
                        rw [HOut.out, parts_none_dec (by rw [← HI.out, ← HM.out]; exact hlt) hg]
                        rfl))
                      have n1 : ¬ ((n : Int) = 1) := by omega
                      have n3 : ¬ ((n : Int) = 3) := by omega
                      have n1b : ((n : Int) == 1) = false := by rw [beq_eq_false_iff_ne]; exact n1
                      have n3b : ((n : Int) == 3) = false := by rw [beq_eq_false_iff_ne]; exact n3
                      clear HPt
                      have key : ¬ (((n : Int) != 1) = false ∨ ((n : Int) != 3) = false) := by
                        rintro (h | h)
                        · rw [bne_eq_false_iff_eq] at h; exact n1 h
                        · rw [bne_eq_false_iff_eq] at h; exact n3 h
                      have Key := Lib.hid key
                      clear key
                      go_wp2_with fail
                      all_goals first
                        | (exact bodyPost_ret (v := .tuple #[.string ⟨#[]⟩, .int .i64 2]) (by simp [results, Tryz.results117, go_sem]) rfl ⟨by rw [HR.out], HB1.out.trans (HBr.out.trans (HBx.out.trans HBy.out))⟩)
                        | exact absurd (by assumption) Key.out
                · obtain rfl : x = 9 := by omega
                  obtain ⟨G, hG⟩ : ∃ G, G = (rs.drop i).take 9 := ⟨_, rfl⟩
                  rw [← hG] at hall ⊢
                  have hGl : G.length ≤ 9 := by rw [hG, List.length_take]; omega
                  obtain ⟨M, hM⟩ : ∃ M, M = pat G := ⟨_, rfl⟩
                  rw [← hM]
                  have hlk0 := (HMp.out.bl (HBx.out.trans hby)).lookup2 (string_kind (P := Tryz.prog) Tryz.underlying9) hmt (Tryz.zeroValue3 wy) M
                  rw [tabN_find] at hlk0
                  have hgp : gP rs j = if (G.all fun n => n == 1 || n == 3) = true ∧ (i + 9 < rs.length → rs.getD (i + 9) 0 = 1) then (List.range 44).find? fun k => pieceK k == M else none := by
                    unfold gP
                    rw [← HI.out, ← hG, ← hM]
                  have HGp := Lib.hid hgp; have HG1 := Lib.hid hall
                  clear hG hM hgp hall
                  cases hf : (List.range 44).find? fun k => pieceK k == M with
                  | none =>
                    rw [hf] at hlk0
                    have hlk : (Instr.lookup 162 (.map (some b0)) (.string ⟨M.toArray⟩) true).run Tryz.prog wy = .ok (.tuple #[.int .i64 0, .bool false]) wy := hlk0
                    have HR := Lib.hid (rd_none (s := s) (by
                      have hg : gP rs j = none := by
                        rw [HGp.out]
                        split
                        · exact hf
                        · rfl
                      rw [HOut.out, parts_none_dec (by rw [← HI.out, ← HM.out]; exact hlt) hg]
                      rfl))
                    clear hlk0 hf hby
                    go_wp2_with fail
                    exact bodyPost_ret (v := .tuple #[.string ⟨#[]⟩, .int .i64 2]) (by simp [results, Tryz.results117, go_sem]) rfl ⟨by rw [HR.out], HB1.out.trans (HBr.out.trans (HBx.out.trans HBy.out))⟩
                  | some k =>
                    rw [hf] at hlk0
                    have hlk : (Instr.lookup 162 (.map (some b0)) (.string ⟨M.toArray⟩) true).run Tryz.prog wy = .ok (.tuple #[.int .i64 (k : Int), .bool true]) wy := hlk0
                    have hk4 := (find_range hf).1
                    have hex := letOf lets44 k 44 hk4 (by decide)
                    obtain ⟨X, hX⟩ : ∃ X, X = [lets44.getD k 0] := ⟨_, rfl⟩
                    rw [← hX] at hex
                    have hX1 : X.length = 1 := by rw [hX]; rfl
                    unfold lets44 at hex
                    have hsT : (⟨T.toArray⟩ : ByteArray).size = T.length := Lib.size_mk T
                    have hsX : (⟨X.toArray⟩ : ByteArray).size = X.length := Lib.size_mk X
                    have hoT : ¬ (9223372036854775807 < T.length + X.length) := by omega
                    have hcat := cat_two T X
                    have HXt := Lib.hid (show txt (ks ++ [k]) = T ++ X by rw [txt_add, HTx.out, hX])
                    have HFf := Lib.hid hf
                    clear hlk0 hf hX
                    by_cases h9 : i + 9 < m
                    · have h9I : (i : Int) + 9 < (m : Int) := by omega
                      have h9d : i + 9 < d := by omega
                      obtain ⟨n, hn⟩ : ∃ n, rs[i + 9]? = some n := ⟨_, List.getElem?_eq_getElem (by have := HM.out; omega)⟩
                      have hcx := nat_cell (HRd.out.bl (HBr.out.trans (HBx.out.trans hby))) hn
                      have hcx3 : wy.cell? ⟨ad.block, ad.off + (i + 8 + 1), none⟩ = some (.int .i64 (n : Int)) := hcx
                      have hgn : rs.getD (i + 9) 0 = n := by rw [List.getD_eq_getElem?_getD, hn]; rfl
                      have HGn := Lib.hid hgn
                      clear hn hgn hby
                      by_cases h1 : n = 1
                      · subst h1
                        have HNx := Lib.hid (partsP_step HPs.out (show gP rs j = some k by rw [HGp.out, if_pos ⟨HG1.out, fun _ => HGn.out⟩]; exact HFf.out))
                        go_wp2_with fail
                        exact ⟨⟨j + 1, ks ++ [k], by have := HI.out; omega, by rw [show (10 * (j + 1) : Nat) = i + 10 by rw [HI.out]; omega]; simp, HNx.out, by rw [HXt.out, ← hcat], HBx.out.trans HBy.out⟩, by simp [RowKit.intOf] <;> omega⟩
                      · have HR := Lib.hid (rd_none (s := s) (by
                          have hg : gP rs j = none := by
                            rw [HGp.out, if_neg]
                            rintro ⟨-, hb⟩
                            exact h1 (HGn.out.symm.trans (hb (by have := HM.out; omega)))
                          rw [HOut.out, parts_none_dec (by rw [← HI.out, ← HM.out]; exact hlt) hg]
                          rfl))
                        have n1 : ¬ ((n : Int) = 1) := by omega
                        have n1b : ((n : Int) == 1) = false := by rw [beq_eq_false_iff_ne]; exact n1
                        go_wp2_with fail
                        exact bodyPost_ret (v := .tuple #[.string ⟨#[]⟩, .int .i64 2]) (by simp [results, Tryz.results117, go_sem]) rfl ⟨by rw [HR.out], HB1.out.trans (HBr.out.trans (HBx.out.trans HBy.out))⟩
                    · have h9I : ¬ ((i : Int) + 9 < (m : Int)) := by omega
                      have HNx := Lib.hid (partsP_step HPs.out (show gP rs j = some k by rw [HGp.out, if_pos ⟨HG1.out, fun h => absurd h (by have := HM.out; omega)⟩]; exact HFf.out))
                      have h9m : i + 9 = m := by omega
                      have H9 := Lib.hid h9m
                      clear h9 hby h9m
                      go_wp2_with fail
                      exact ⟨⟨j + 1, ks ++ [k], by have := HI.out; have := H9.out; omega, by rw [show (10 * (j + 1) : Nat) = i + 10 by rw [HI.out]; omega]; simp, HNx.out, by rw [HXt.out, ← hcat], HBx.out.trans HBy.out⟩, by simp [RowKit.intOf] <;> omega⟩
            · have hjm : 10 * j = m + 1 := by have := HM9.out; omega
              have hdk : decP rs = some ks := by
                unfold decP
                rw [← HM.out, if_pos HM9.out, show (m + 1) / 10 = j by omega]
                exact HPs.out
              have hout : outR s = some T := by rw [HOut.out, hdk, HTx.out]; rfl
              have hTm : ∀ c ∈ T, c ∈ lets44 := by rw [HTx.out]; exact txt_mem HK44.out
              have HO := Lib.hid hout; have HTm := Lib.hid hTm
              have hltI : ¬ ((i : Int) < (m : Int)) := by omega
              have hsT : (⟨T.toArray⟩ : ByteArray).size = T.length := Lib.size_mk T
              have hD : shpT T = (decide (4 ≤ T.length) && (decide (T.length ≤ 43) && (T.getD 0 0 == 42 && (T.getD (T.length - 1) 0 == 42 && !(midT T).contains 42)))) := rfl
              have HD := Lib.hid hD
              clear hjm hdk hout hTm hi hkl htl hj hD
              by_cases h4 : 4 ≤ T.length
              · by_cases h43 : T.length ≤ 43
                · obtain ⟨n, hn⟩ : ∃ n, T.length = n + 3 := ⟨T.length - 3, by omega⟩
                  have hmany : (T.length : Int) - 3 = (n : Int) := by omega
                  have hn1 : ¬ ((n : Int) < 1) := by omega
                  have hn40 : ¬ ((40 : Int) < (n : Int)) := by omega
                  have hn1N : ¬ (n = 0) := by omega
                  have hn40N : ¬ (40 < n) := by omega
                  obtain ⟨a, ha⟩ : ∃ a, T[0]? = some a := ⟨_, List.getElem?_eq_getElem (by omega)⟩
                  obtain ⟨L, hL⟩ : ∃ L, L = T.length - 1 := ⟨_, rfl⟩
                  obtain ⟨z, hz⟩ : ∃ z, T[L]? = some z := ⟨_, List.getElem?_eq_getElem (by omega)⟩
                  have hLI : (T.length : Int) - 1 = (L : Int) := by omega
                  have hLs : (L : Int) < (T.length : Int) := by omega
                  obtain ⟨a1, a2⟩ := bytes_at ha
                  obtain ⟨z1, z2⟩ := bytes_at hz
                  have hga : T.getD 0 0 = a := by rw [List.getD_eq_getElem?_getD, ha]; rfl
                  have hgz : T.getD (T.length - 1) 0 = z := by rw [← hL, List.getD_eq_getElem?_getD, hz]; rfl
                  have HD2 := Lib.hid (show shpT T = (a == 42 && (z == 42 && !(midT T).contains 42)) by rw [HD.out, decide_eq_true h4, decide_eq_true h43, hga, hgz]; rfl)
                  have HC3 := Lib.hid (fun (h1 : a = 42) (h2 : z = 42) => count_three h4 (hga.trans h1) (hgz.trans h2))
                  have hex1 : (⟨T.toArray⟩ : ByteArray).extract 1 (1 + n) = ⟨(bodyT T).toArray⟩ := by
                    rw [slice_ab]
                    unfold bodyT
                    rw [show 1 + n - 1 = T.length - 3 by omega]
                  have hex2 : (⟨T.toArray⟩ : ByteArray).extract (1 + n) (2 + n) = ⟨(lastT T).toArray⟩ := by
                    rw [slice_ab]
                    unfold lastT
                    rw [show 2 + n - (1 + n) = 1 by omega, show 1 + n = T.length - 2 by omega]
                  have HN := Lib.hid hn; have HLn := Lib.hid hL
                  have H43 := Lib.hid (And.intro h4 h43)
                  clear hga hgz ha hz hL h4 h43 HD hn
                  cases h42 : (a == 42) with
                  | false =>
                    have ha42 : ¬ ((a.toNat : Int) = 42) := fun e => by
                      have : a = 42 := UInt8.toNat_inj.1 (by have : (42 : UInt8).toNat = 42 := rfl; omega)
                      rw [this] at h42; cases h42
                    have hab : ((a.toNat : Int) == 42) = false := by rw [beq_eq_false_iff_ne]; exact ha42
                    have HR := Lib.hid (rd_shape HO.out (by rw [HD2.out, h42]; rfl))
                    clear h42 hex1 hex2
                    go_wp2_with fail
                    exact bodyPost_ret (v := .tuple #[.string ⟨#[]⟩, .int .i64 2]) (by simp [results, Tryz.results117, go_sem]) rfl ⟨by rw [HR.out], HB1.out.trans (HBr.out.trans HBx.out)⟩
                  | true =>
                    have hae : a = 42 := by simpa using h42
                    cases hz2 : (z == 42) with
                    | false =>
                      have hz42 : ¬ ((z.toNat : Int) = 42) := fun e => by
                        have : z = 42 := UInt8.toNat_inj.1 (by have : (42 : UInt8).toNat = 42 := rfl; omega)
                        rw [this] at hz2; cases hz2
                      have hzb : ((z.toNat : Int) == 42) = false := by rw [beq_eq_false_iff_ne]; exact hz42
                      have HR := Lib.hid (rd_shape HO.out (by rw [HD2.out, h42, hz2]; rfl))
                      clear h42 hz2 hex1 hex2
                      subst hae
                      go_wp2_with fail
                      exact bodyPost_ret (v := .tuple #[.string ⟨#[]⟩, .int .i64 2]) (by simp [results, Tryz.results117, go_sem]) rfl ⟨by rw [HR.out], HB1.out.trans (HBr.out.trans HBx.out)⟩
                    | true =>
                      have hze : z = 42 := by simpa using hz2
                      have hc3 := HC3.out hae hze
                      have HCt := Lib.hid (fun wx => cntB_any T 42 wx)
                      obtain ⟨cn, hcn⟩ : ∃ c, c = Lib.countByte T 42 := ⟨_, rfl⟩
                      rw [← hcn] at hc3 HCt
                      by_cases hq : cn = 2
                      · have hmid := hc3.1 hq
                        have hsh : shpT T = true := by rw [HD2.out, h42, hz2, hmid]; rfl
                        have hbo := body_ok HTm.out hsh
                        have hrd := rd_some HO.out hsh
                        have hcl := fun wx => checkLet_any (bodyT T) wx (by have := hbo.2.2.1; omega)
                        rw [hbo.2.2.2] at hcl
                        obtain ⟨V, hV⟩ : ∃ V, V = letVal (bodyT T) := ⟨_, rfl⟩
                        obtain ⟨Z, hZ⟩ : ∃ V, V = lastT T := ⟨_, rfl⟩
                        obtain ⟨Bd, hBd⟩ : ∃ V, V = bodyT T := ⟨_, rfl⟩
                        rw [← hV, ← hZ, ← hBd] at hrd
                        rw [← hZ] at hex2
                        rw [← hBd] at hex1
                        rw [← hV, ← hBd] at hcl
                        have HCl := Lib.hid hcl; have HRd := Lib.hid hrd
                        subst hq
                        clear h42 hz2 hc3 hmid hsh hbo hrd hcl hV hZ hBd hcn
                        subst hae
                        subst hze
                        go_wp2_with fail
                        refine (HCt.out _).mono ?_
                        rintro e w' ⟨rfl, hw⟩
                        subst hw
                        go_wp2_with fail
                        refine (HCl.out _).mono ?_
                        rintro e w7 ⟨rfl, hb7⟩
                        have HB7 := Lib.hid ((HB1.out.trans (HBr.out.trans HBx.out)).trans hb7)
                        clear hb7
                        cases hvz : (V == Z) with
                        | true =>
                          have HR := Lib.hid (HRd.out.trans (if_pos (by simpa using hvz)))
                          go_wp2_with fail
                          exact bodyPost_ret (v := .tuple #[.string ⟨Bd.toArray⟩, .int .i64 0]) (by simp [results, Tryz.results117, go_sem]; exact hex1) rfl ⟨by rw [HR.out], HB7.out⟩
                        | false =>
                          have HR := Lib.hid (HRd.out.trans (if_neg (by simpa using hvz)))
                          go_wp2_with fail
                          exact bodyPost_ret (v := .tuple #[.string ⟨#[]⟩, .int .i64 14]) (by simp [results, Tryz.results117, go_sem]) rfl ⟨by rw [HR.out], HB7.out⟩
                      · have hmid : (midT T).contains 42 = true := by
                          cases hx : (midT T).contains 42 with
                          | true => rfl
                          | false => exact absurd (hc3.2 hx) hq
                        have HR := Lib.hid (rd_shape HO.out (by rw [HD2.out, h42, hz2, hmid]; rfl))
                        have hq1 : ¬ ((cn : Int) = 2) := by omega
                        have hqb : ((cn : Int) == 2) = false := by rw [beq_eq_false_iff_ne]; exact hq1
                        clear h42 hz2 hex1 hex2 hc3 hmid hcn
                        subst hae
                        subst hze
                        go_wp2_with fail
                        refine (HCt.out _).mono ?_
                        rintro e w' ⟨rfl, hw⟩
                        subst hw
                        go_wp2_with fail
                        exact bodyPost_ret (v := .tuple #[.string ⟨#[]⟩, .int .i64 2]) (by simp [results, Tryz.results117, go_sem]) rfl ⟨by rw [HR.out], HB1.out.trans (HBr.out.trans HBx.out)⟩
                · have HR := Lib.hid (rd_shape HO.out (by rw [HD.out, decide_eq_false h43, Bool.false_and, Bool.and_false]))
                  have h1 : ¬ ((T.length : Int) - 3 < 1) := by omega
                  have h2 : (40 : Int) < (T.length : Int) - 3 := by omega
                  clear h4 h43 HD
                  go_wp2_with fail
                  exact bodyPost_ret (v := .tuple #[.string ⟨#[]⟩, .int .i64 2]) (by simp [results, Tryz.results117, go_sem]) rfl ⟨by rw [HR.out], HB1.out.trans (HBr.out.trans HBx.out)⟩
              · have HR := Lib.hid (rd_shape HO.out (by rw [HD.out, decide_eq_false h4, Bool.false_and]))
                have h1 : (T.length : Int) - 3 < 1 := by omega
                clear h4 HD
                go_wp2_with fail
                exact bodyPost_ret (v := .tuple #[.string ⟨#[]⟩, .int .i64 2]) (by simp [results, Tryz.results117, go_sem]) rfl ⟨by rw [HR.out], HB1.out.trans (HBr.out.trans HBx.out)⟩
    · have hdn : decP rs = none := by unfold decP; rw [← hm, if_neg h9]
      have HR := Lib.hid (rd_none (s := s) (by rw [hOut, hdn]; rfl))
      obtain ⟨q, hq⟩ : ∃ q, q = m % 10 := ⟨_, rfl⟩
      have hqm : (m : Int) % 10 = (q : Int) := by omega
      have hq9 : ¬ ((q : Int) = 9) := by omega
      have hq9b : ((q : Int) == 9) = false := by rw [beq_eq_false_iff_ne]; exact hq9
      clear hok hbad hgood Hle hdn hOut hrs hlen hm hrd hq h9
      go_wp2_with fail
      exact bodyPost_ret (v := .tuple #[.string ⟨#[]⟩, .int .i64 2]) (by simp [results, Tryz.results117, go_sem]) rfl ⟨by rw [HR.out], HB1.out⟩

end Go.Proofs.YtkipcobpnecmhaaGreatDoor


/-! bedref2.text39: the text of modules. -/
namespace Go.Proofs.YtkipcobpnecmhaaGreatDoor
open Go.RowKit Go.Shelf Go.Sort

def t39 (s : List UInt8) : List UInt8 × Bool := match outR s with
  | none => ([], false)
  | some t => if shpT t = true then (midT t, true) else ([], false)
theorem t39_none {s : List UInt8} (h : outR s = none) : t39 s = ([], false) := by unfold t39; rw [h]
theorem t39_shape {s t : List UInt8} (h : outR s = some t) (hs : shpT t = false) : t39 s = ([], false) := by unfold t39; rw [h]; simp only [hs]; rfl
theorem t39_some {s t : List UInt8} (h : outR s = some t) (hs : shpT t = true) : t39 s = (midT t, true) := by unfold t39; rw [h]; simp only [hs]; rfl
/-- Whether letter k stands at a place. -/
def hit (m : List UInt8) (i k : Nat) : Bool := Lib.hasPrefix (m.drop i) (modK k) && (decide (i + 15 = m.length) || (m.getD (i + 15) 0 == 48))
/-- The letter found of the first n. -/
def fnd (m : List UInt8) (i : Nat) : Nat → Int × Int
  | 0 => (-1, 0)
  | n + 1 => if hit m i n = true then ((n : Int), 15) else fnd m i n
theorem prefix_take {l p : List UInt8} {n : Nat} (hp : p.length = n) : Lib.hasPrefix l p = true ↔ l.take n = p := by
  unfold Lib.hasPrefix
  rw [List.isPrefixOf_iff_prefix]
  constructor
  · rintro ⟨r, rfl⟩
    rw [List.take_left' hp]
  · intro h
    rw [← h]
    exact List.take_prefix _ _
theorem hit_iff {m : List UInt8} {j k : Nat} (hk : k < 44) : hit m (16 * j) k = true ↔ (m.length = 16 * j + 15 ∨ m[16 * j + 15]? = some 48) ∧ (m.drop (16 * j)).take 15 = modK k := by
  unfold hit
  rw [Bool.and_eq_true, prefix_take (modK_all k hk).1, Bool.or_eq_true, decide_eq_true_eq, beq_iff_eq]
  constructor
  · rintro ⟨h1, h2⟩
    refine ⟨?_, h1⟩
    rcases h2 with h2 | h2
    · exact .inl h2.symm
    · refine .inr ?_
      have : 16 * j + 15 < m.length := by
        rcases Nat.lt_or_ge (16 * j + 15) m.length with h | h
        · exact h
        · rw [List.getD_eq_getElem?_getD, List.getElem?_eq_none h] at h2
          cases h2
      rw [List.getD_eq_getElem?_getD, List.getElem?_eq_getElem this] at h2
      rw [List.getElem?_eq_getElem this]
      exact congrArg some h2
  · rintro ⟨h1, h2⟩
    refine ⟨h2, ?_⟩
    rcases h1 with h1 | h1
    · exact .inl h1.symm
    · refine .inr ?_
      rw [List.getD_eq_getElem?_getD, h1]
      rfl
theorem fnd_spec (m : List UInt8) (j : Nat) : ∀ n, n ≤ 44 → fnd m (16 * j) n = match (List.range n).find? (fun k => hit m (16 * j) k) with | some k => ((k : Int), 15) | none => (-1, 0)
  | 0, _ => rfl
  | n + 1, hn => by
    have ih := fnd_spec m j n (by omega)
    rw [List.range_succ, List.find?_append]
    unfold fnd
    by_cases h : hit m (16 * j) n = true
    · rw [if_pos h]
      have hno : (List.range n).find? (fun k => hit m (16 * j) k) = none := by
        rw [List.find?_eq_none]
        intro k hk hh
        have hk' := List.mem_range.1 hk
        have h1 := ((hit_iff (m := m) (j := j) (show k < 44 by omega)).1 hh).2
        have h2 := ((hit_iff (m := m) (j := j) (show n < 44 by omega)).1 h).2
        have := modK_inj k (by omega) n (by omega) (h1.symm.trans h2)
        omega
      rw [hno, Option.none_or, List.find?_cons_of_pos h]
    · rw [if_neg h, ih]
      cases (List.range n).find? (fun k => hit m (16 * j) k) with
      | some k => rfl
      | none =>
        rw [Option.none_or, List.find?_cons_of_neg h]
        rfl
theorem fnd_gR (m : List UInt8) (j : Nat) : fnd m (16 * j) 44 = match gR m j with | some k => ((k : Int), 15) | none => (-1, 0) := by
  rw [fnd_spec m j 44 (Nat.le_refl _)]
  cases hf : (List.range 44).find? (fun k => hit m (16 * j) k) with
  | some k =>
    obtain ⟨h1, h2⟩ := find_range hf
    obtain ⟨h3, h4⟩ := (hit_iff h1).1 h2
    rw [(gR_iff m j k).2 ⟨h3, h1, h4⟩]
  | none =>
    cases hg : gR m j with
    | none => rfl
    | some k =>
      obtain ⟨h3, h1, h4⟩ := (gR_iff m j k).1 hg
      have := List.find?_eq_none.1 hf k (List.mem_range.2 h1)
      exact absurd ((hit_iff h1).2 ⟨h3, h4⟩) this
theorem partsR_step {m : List UInt8} {j : Nat} {ks : List Nat} {k : Nat} (h : partsR m j = some ks) (hg : gR m j = some k) : partsR m (j + 1) = some (ks ++ [k]) := by
  rw [partsR_eq] at h ⊢
  exact partsG_some h hg
theorem partsR_lt {m : List UInt8} {j : Nat} {ks : List Nat} (h : partsR m j = some ks) : ks.length = j ∧ ∀ k ∈ ks, k < 44 := by
  rw [partsR_eq, partsG_iff] at h
  refine ⟨h.1, fun k hk => ?_⟩
  obtain ⟨i, hi, rfl⟩ := List.getElem_of_mem hk
  exact ((gR_iff _ _ _).1 (h.2 i _ (List.getElem?_eq_getElem hi))).2.1
/-- A group that is none: no code; for there is no end before it. -/
theorem decM_none {m : List UInt8} {j : Nat} (hj : 16 * j < m.length ∨ j = 0) (hg : gR m j = none) : decM m = none := by
  unfold decM
  by_cases h : (m.length + 1) % 16 = 0
  · rw [if_pos h, partsR_eq]
    exact partsG_none_of (by omega) hg
  · rw [if_neg h]
theorem decM_end {m : List UInt8} {j : Nat} (hj : m.length = 16 * j) : decM m = none := by
  unfold decM
  rw [if_neg (by omega)]
set_option maxRecDepth 1000000 in
set_option maxHeartbeats 16000000 in
theorem text39_any (s : List UInt8) (w : World) (hl : s.length ≤ 1048576) (hT : SpOk w) :
    Calls Tryz.prog 86 #[.string ⟨s.toArray⟩] w fun e w' => e = .returned (.tuple #[.string ⟨(t39 s).1.toArray⟩, .bool (t39 s).2]) ∧ Bl w w' := by
  have HT := Lib.hid hT
  have Ht := Lib.hid (trim_any s [48, 49] w (by omega) (by decide) (by
    intro j b h
    have : ∀ b ∈ ([48, 49] : List UInt8), b.toNat < 128 := by decide
    exact this b (List.mem_of_getElem? h)))
  have hsz : (⟨s.toArray⟩ : ByteArray).size = s.length := Lib.size_mk s
  clear hT
  go_enter Tryz.func86, Tryz.ntmps86
  cases hmd : madeOf s [48, 49] with
  | false =>
    have htr : (Lib.trimS s [48, 49]).isEmpty = false := by rw [trim_made, hmd]
    have HR := Lib.hid (t39_none (outR_not hmd))
    clear hmd
    go_wp2_with fail
    refine Ht.out.mono ?_
    rintro e w1 ⟨rfl, hb1⟩
    go_wp2_with fail
    exact bodyPost_ret (v := .tuple #[.string ⟨#[]⟩, .bool false]) (by simp [results, Tryz.results86, go_sem]) rfl ⟨by rw [HR.out], hb1⟩
  | true =>
    have htr : (Lib.trimS s [48, 49]).isEmpty = true := by rw [trim_made, hmd]
    have HO := Lib.hid (outR_made hmd)
    clear hmd
    go_wp2_with fail
    refine Ht.out.mono ?_
    rintro e w1 ⟨rfl, hb1⟩
    have HB1 := Lib.hid hb1
    clear hb1 Ht
    go_wp2_with fail
    go_loopw [4, 5] (fun s4 s5 wr => ∃ (j : Nat) (ks : List Nat), (16 * j < s.length ∨ j = 0) ∧ s5 = .int .i64 ((16 * j : Nat) : Int) ∧ partsR s j = some ks ∧ s4 = .string ⟨(txt ks).toArray⟩ ∧ Bl w1 wr) (fun _ v _ => s.length + 16 - (RowKit.intOf v).toNat)
    case atStart => exact ⟨0, [], .inr rfl, rfl, rfl, rfl, Bl.refl _⟩
    case round =>
      rename World => wr
      obtain ⟨j, ks, hj, rfl, hps, rfl, hbr⟩ := hrel
      obtain ⟨hkl, hk44⟩ := partsR_lt hps
      obtain ⟨i, hi⟩ : ∃ i, i = 16 * j := ⟨_, rfl⟩
      have his : i ≤ s.length := by omega
      have hfin := fnd_gR s j
      rw [← hi] at hj hfin ⊢
      have HPs := Lib.hid hps; have HBr := Lib.hid hbr; have HI := Lib.hid hi; have HK44 := Lib.hid hk44; have HFin := Lib.hid hfin; have HJ := Lib.hid hj
      have htl := txt_len ks
      obtain ⟨T, hTx⟩ : ∃ T, T = txt ks := ⟨_, rfl⟩
      rw [← hTx] at htl ⊢
      have HTx := Lib.hid hTx
      have hTl : T.length ≤ 1048576 := by omega
      clear hps hbr hTx hk44 hfin hj hi hkl htl
      have Hw := Lib.hid (wide39_any wr (HT.out.bl (HB1.out.trans HBr.out)))
      go_wp2_with fail
      refine Hw.out.mono ?_
      rintro e w2 ⟨gp, rfl, hr2, hb2⟩
      have HR2 := Lib.hid hr2; have HB2 := Lib.hid hb2
      clear hr2 hb2 Hw
      go_wp2_with fail
      go_loopw [6, 7, 19] (fun s6 s7 s19 wx => ∃ n : Nat, n ≤ 44 ∧ s19 = .int .i64 (n : Int) ∧ s6 = .int .i64 (fnd s i n).1 ∧ s7 = .int .i64 (fnd s i n).2 ∧ Bl w2 wx) (fun _ _ v _ => 44 - (RowKit.intOf v).toNat)
      case atStart => exact ⟨0, Nat.zero_le _, rfl, rfl, rfl, Bl.refl _⟩
      case round =>
        rename World => w5
        obtain ⟨k, hk, rfl, rfl, rfl, hb5⟩ := hrel
        by_cases hk44 : k < 44
        · obtain ⟨q, hq⟩ : ∃ q, q = pieceK k := ⟨_, rfl⟩
          have HQ := Lib.hid hq
          obtain ⟨adp, eap, cp0⟩ := str_at (HR2.out.bl hb5) (hq ▸ pieceC_at k hk44)
          obtain rfl := Option.some.inj eap
          rw [add_flat] at cp0
          have hkI : (k : Int) < (pieceC.length : Int) := by show (k : Int) < 44; omega
          have hst : fnd s i (k + 1) = if hit s i k = true then ((k : Int), 15) else fnd s i k := rfl
          obtain ⟨f1, hf1⟩ : ∃ f, f = (fnd s i k).1 := ⟨_, rfl⟩
          obtain ⟨f2, hf2⟩ : ∃ f, f = (fnd s i k).2 := ⟨_, rfl⟩
          rw [← hf1, ← hf2]
          have HF1 := Lib.hid hf1; have HF2 := Lib.hid hf2; have HSf := Lib.hid hst
          have HB5 := Lib.hid hb5
          clear hq hst hf1 hf2
          go_upto_region 12 with fail
          have hsq : (⟨q.toArray⟩ : ByteArray).size = 9 := by rw [Lib.size_mk, HQ.out]; exact (modK_all k hk44).2.2.2
          obtain ⟨K, hK⟩ : ∃ K, K = w5.heap.size := ⟨_, rfl⟩
          obtain ⟨w6, hw6⟩ : ∃ x, x = w5.iter ⟨q.toArray⟩ 0 := ⟨_, rfl⟩
          have hit : w6.heap[K]? = some (.stringIter ⟨q.toArray⟩ 0) := by
            rw [hw6, hK]
            exact heap_alloc_new w5 (.stringIter ⟨q.toArray⟩ 0)
          have hb6 : Bl w5 w6 := by rw [hw6]; exact (Bl.refl w5).alloc _
          rw [← hw6]
          try rw [← hK]
          have HK := Lib.hid hK
          have Hst0 := Lib.hid (And.intro hit hb6)
          clear hw6 hK hit hb6
          go_wp2_with fail
          go_loopw [10] (fun s6 wi => ∃ j : Nat, j ≤ 9 ∧ s6 = .string ⟨(modFrom 0 (q.take j)).toArray⟩ ∧ wi.heap[K]? = some (.stringIter ⟨q.toArray⟩ j) ∧ Bl w5 wi) (fun _ wi => 9 - wi.iterPos K)
          case atStart => exact ⟨0, Nat.zero_le _, rfl, Hst0.out⟩
          case round =>
            rename World => wi
            obtain ⟨j, hj, rfl, hit, hbi⟩ := hrel
            by_cases hjt : j < 9
            · have hjh : j < (⟨q.toArray⟩ : ByteArray).size := by rw [hsq]; exact hjt
              have hgj := Lib.getElem_mk q j hjh
              obtain ⟨p, hp⟩ : ∃ p, p = (⟨q.toArray⟩ : ByteArray)[j]'hjh := ⟨_, rfl⟩
              rw [← hp] at hgj
              obtain ⟨p', hp', hp2⟩ := piece_at hk44 hjt
              rw [← HQ.out, hgj] at hp'
              obtain rfl := Option.some.inj hp'
              have hnx0 := fun ty => Lib.run_next_ascii_at (P := Tryz.prog) wi K ⟨q.toArray⟩ j ty hit hjh (by rw [← hp]; rcases hp2 with rfl | rfl <;> decide)
              have h7b : Bl w5 (wi.iterAt K ⟨q.toArray⟩ (j + 1)) := Lib.below_iterAt hbi (k := K) (by have := HK.out; omega) _ _
              have h7i := Lib.iterAt_heap wi K ⟨q.toArray⟩ j (j + 1) hit
              rw [← hp] at hnx0
              generalize wi.iterAt K ⟨q.toArray⟩ (j + 1) = w7 at hnx0 h7b h7i
              have hnx : ∀ ty, (Instr.next (.pointer (some ⟨K, 0, none⟩)) true ty).run Tryz.prog wi = .ok (.tuple #[.bool true, .int .i64 (j : Int), .int .i32 (p.toNat : Int)]) w7 := hnx0
              have hms := modFrom_take hgj
              have hml := modFrom_len (q.take j) 0
              rw [List.length_take] at hml
              obtain ⟨M, hM⟩ : ∃ M, M = modFrom 0 (q.take j) := ⟨_, rfl⟩
              rw [← hM] at hms hml ⊢
              have hMl : M.length ≤ 27 := by omega
              have hsM : (⟨M.toArray⟩ : ByteArray).size = M.length := Lib.size_mk M
              have HMs := Lib.hid hms
              have HN := Lib.hid (And.intro h7i h7b); have Hit := Lib.hid hit
              have ht0 := ten0; have ht1 := ten1
              clear hms hM hml hp hnx0 h7b h7i hit hbi hgj hp'
              by_cases hpar : j % 2 = 0
              · rcases hp2 with rfl | rfl
                · have HB := Lib.hid (show bitAt j = 49 by unfold bitAt; rw [if_pos hpar])
                  have hmr : (j : Int) % 2 = 0 := by omega
                  have hrep := fun wx => repeat_any 49 (.inr rfl) 3 (by decide) (by decide) wx
                  obtain ⟨rp, hrp⟩ : ∃ r, r = List.replicate 3 (49 : UInt8) := ⟨_, rfl⟩
                  have hrl : rp.length = 3 := by rw [hrp]; rfl
                  simp only [← hrp] at hrep
                  have Hrep := Lib.hid hrep
                  have HRp := Lib.hid hrp
                  have hsR : (⟨rp.toArray⟩ : ByteArray).size = rp.length := Lib.size_mk rp
                  have hoR : ¬ (9223372036854775807 < M.length + rp.length) := by omega
                  have hcat := cat_two M rp
                  clear hrep hrp
                  go_wp2_with fail
                  refine (Hrep.out _).mono ?_
                  rintro e w8 ⟨rfl, hb8⟩
                  have hkl : K < w7.heap.size := (Array.getElem?_eq_some_iff.1 HN.out.1).1
                  have HN8 := Lib.hid (show w8.heap[K]? = some (.stringIter ⟨q.toArray⟩ (j + 1)) from (Below.block hb8 K hkl).trans HN.out.1)
                  have HB8 := Lib.hid (HN.out.2.trans hb8)
                  clear hb8 hkl
                  go_wp2_with fail
                  exact ⟨⟨j + 1, by omega, by rw [HMs.out, HB.out, show runOf 119 = 3 from rfl, ← HRp.out, ← hcat], HN8.out, HB8.out⟩, by simp only [World.iterPos, HN8.out, Hit.out]; omega⟩
                · have HB := Lib.hid (show bitAt j = 49 by unfold bitAt; rw [if_pos hpar])
                  have hmr : (j : Int) % 2 = 0 := by omega
                  have hoR : ¬ (9223372036854775807 < M.length + 1) := by omega
                  have hcat : (⟨M.toArray⟩ : ByteArray) ++ ⟨#[49]⟩ = ⟨(M ++ [49]).toArray⟩ := cat_two M [49]
                  go_wp2_with fail
                  exact ⟨⟨j + 1, by omega, by rw [HMs.out, HB.out, show List.replicate (runOf 110) (49 : UInt8) = [49] from rfl, ← hcat], HN.out.1, HN.out.2⟩, by simp only [World.iterPos, HN.out.1, Hit.out]; omega⟩
              · rcases hp2 with rfl | rfl
                · have HB := Lib.hid (show bitAt j = 48 by unfold bitAt; rw [if_neg (by omega)])
                  have hmr : (j : Int) % 2 = 1 := by omega
                  have hrep := fun wx => repeat_any 48 (.inl rfl) 3 (by decide) (by decide) wx
                  obtain ⟨rp, hrp⟩ : ∃ r, r = List.replicate 3 (48 : UInt8) := ⟨_, rfl⟩
                  have hrl : rp.length = 3 := by rw [hrp]; rfl
                  simp only [← hrp] at hrep
                  have Hrep := Lib.hid hrep
                  have HRp := Lib.hid hrp
                  have hsR : (⟨rp.toArray⟩ : ByteArray).size = rp.length := Lib.size_mk rp
                  have hoR : ¬ (9223372036854775807 < M.length + rp.length) := by omega
                  have hcat := cat_two M rp
                  clear hrep hrp
                  go_wp2_with fail
                  refine (Hrep.out _).mono ?_
                  rintro e w8 ⟨rfl, hb8⟩
                  have hkl : K < w7.heap.size := (Array.getElem?_eq_some_iff.1 HN.out.1).1
                  have HN8 := Lib.hid (show w8.heap[K]? = some (.stringIter ⟨q.toArray⟩ (j + 1)) from (Below.block hb8 K hkl).trans HN.out.1)
                  have HB8 := Lib.hid (HN.out.2.trans hb8)
                  clear hb8 hkl
                  go_wp2_with fail
                  exact ⟨⟨j + 1, by omega, by rw [HMs.out, HB.out, show runOf 119 = 3 from rfl, ← HRp.out, ← hcat], HN8.out, HB8.out⟩, by simp only [World.iterPos, HN8.out, Hit.out]; omega⟩
                · have HB := Lib.hid (show bitAt j = 48 by unfold bitAt; rw [if_neg (by omega)])
                  have hmr : (j : Int) % 2 = 1 := by omega
                  have hoR : ¬ (9223372036854775807 < M.length + 1) := by omega
                  have hcat : (⟨M.toArray⟩ : ByteArray) ++ ⟨#[48]⟩ = ⟨(M ++ [48]).toArray⟩ := cat_two M [48]
                  go_wp2_with fail
                  exact ⟨⟨j + 1, by omega, by rw [HMs.out, HB.out, show List.replicate (runOf 110) (48 : UInt8) = [48] from rfl, ← hcat], HN.out.1, HN.out.2⟩, by simp only [World.iterPos, HN.out.1, Hit.out]; omega⟩
            · obtain rfl : j = 9 := by omega
              have hnx : ∀ ty, (Instr.next (.pointer (some ⟨K, 0, none⟩)) true ty).run Tryz.prog wi = .ok (.tuple #[.bool false]) wi := fun ty => Lib.run_next_end_at wi K ⟨q.toArray⟩ 9 ty hit (by rw [hsq]; omega)
              have hm9 : modFrom 0 (q.take 9) = modK k := by
                rw [HQ.out, List.take_of_length_le (by rw [(modK_all k hk44).2.2.2]; omega)]
                rfl
              rw [hm9]
              have HBi := Lib.hid (HB5.out.trans hbi)
              clear hm9 hit hbi
              obtain ⟨M, hM⟩ : ∃ M, M = modK k := ⟨_, rfl⟩
              have hM15 : M.length = 15 := by rw [hM]; exact (modK_all k hk44).1
              have hM15I : (M.length : Int) = 15 := by omega
              have hsM : (⟨M.toArray⟩ : ByteArray).size = M.length := Lib.size_mk M
              have hHit : hit s i k = (Lib.hasPrefix (s.drop i) M && (decide (i + 15 = s.length) || (s.getD (i + 15) 0 == 48))) := by rw [hM]; rfl
              rw [← hM]
              have hex := extract_drop s i
              obtain ⟨D, hD⟩ : ∃ D, D = s.drop i := ⟨_, rfl⟩
              rw [← hD] at hex hHit
              have hiI : (i : Int) ≤ (s.length : Int) := by omega
              have Hpf := Lib.hid (fun wx => hasPrefix_any D M wx)
              have HHit := Lib.hid hHit
              have HDd := Lib.hid hD
              clear hM hHit hD hM15
              cases hpf : Lib.hasPrefix D M with
              | false =>
                have HN := Lib.hid (HSf.out.trans (if_neg (by rw [HHit.out, hpf]; simp)))
                rw [hpf] at Hpf
                clear hpf
                go_wp2_with fail
                refine (Hpf.out _).mono ?_
                rintro e w' ⟨rfl, hw⟩
                subst hw
                go_wp2_with fail
                exact ⟨⟨k + 1, by omega, by go_num, by rw [HN.out, HF1.out], by rw [HN.out, HF2.out], HBi.out⟩, by simp [RowKit.intOf] <;> omega⟩
              | true =>
                have hpl : i + 15 ≤ s.length := by
                  unfold Lib.hasPrefix at hpf
                  have h1 := (List.isPrefixOf_iff_prefix.1 hpf).length_le
                  rw [HDd.out, List.length_drop] at h1
                  omega
                rw [hpf] at Hpf
                by_cases he : i + 15 = s.length
                · have HN := Lib.hid (HSf.out.trans (if_pos (by rw [HHit.out, hpf, decide_eq_true he]; rfl)))
                  have heI : (i : Int) + 15 = (s.length : Int) := by omega
                  have heb : ((i : Int) + 15 == (s.length : Int)) = true := by rw [beq_iff_eq]; exact heI
                  clear hpf he
                  go_wp2_with fail
                  refine (Hpf.out _).mono ?_
                  rintro e w' ⟨rfl, hw⟩
                  subst hw
                  go_wp2_with fail
                  exact ⟨⟨k + 1, by omega, by go_num, by rw [HN.out], by rw [HN.out], HBi.out⟩, by simp [RowKit.intOf] <;> omega⟩
                · have hil : i + 15 < s.length := by omega
                  obtain ⟨c, hc⟩ : ∃ c, s[i + 15]? = some c := ⟨_, List.getElem?_eq_getElem hil⟩
                  obtain ⟨c1, c2⟩ := bytes_at hc
                  have hgc : s.getD (i + 15) 0 = c := by rw [List.getD_eq_getElem?_getD, hc]; rfl
                  have heI : ¬ ((i : Int) + 15 = (s.length : Int)) := by omega
                  have heb : ((i : Int) + 15 == (s.length : Int)) = false := by rw [beq_eq_false_iff_ne]; exact heI
                  have hilI : (i : Int) + 15 < (s.length : Int) := by omega
                  cases h48 : (c == 48) with
                  | true =>
                    have HN := Lib.hid (HSf.out.trans (if_pos (by rw [HHit.out, hpf, hgc, h48]; simp)))
                    have hce : c = 48 := by simpa using h48
                    clear hpf hgc hc h48
                    subst hce
                    go_wp2_with fail
                    refine (Hpf.out _).mono ?_
                    rintro e w' ⟨rfl, hw⟩
                    subst hw
                    go_wp2_with fail
                    exact ⟨⟨k + 1, by omega, by go_num, by rw [HN.out], by rw [HN.out], HBi.out⟩, by simp [RowKit.intOf] <;> omega⟩
                  | false =>
                    have HN := Lib.hid (HSf.out.trans (if_neg (by rw [HHit.out, hpf, hgc, h48, decide_eq_false he]; simp)))
                    have hcn : ¬ ((c.toNat : Int) = 48) := fun e => by
                      have : c = 48 := UInt8.toNat_inj.1 (by have : (48 : UInt8).toNat = 48 := rfl; omega)
                      rw [this] at h48; cases h48
                    have hcb : ((c.toNat : Int) == 48) = false := by rw [beq_eq_false_iff_ne]; exact hcn
                    clear hpf hgc hc h48 he
                    go_wp2_with fail
                    refine (Hpf.out _).mono ?_
                    rintro e w' ⟨rfl, hw⟩
                    subst hw
                    go_wp2_with fail
                    exact ⟨⟨k + 1, by omega, by go_num, by rw [HN.out, HF1.out], by rw [HN.out, HF2.out], HBi.out⟩, by simp [RowKit.intOf] <;> omega⟩
        · obtain rfl : k = 44 := by omega
          have HB5 := Lib.hid hb5
          clear hb5
          cases hg : gR s j with
          | none =>
            have HR := Lib.hid (t39_none (s := s) (by
              rw [HO.out, decM_none (j := j) (by have := HJ.out; rw [← HI.out]; exact this) hg]
              rfl))
            have hfe := HFin.out
            rw [hg] at hfe
            rw [hfe]
            clear hfe hg
            go_wp2_with fail
            exact bodyPost_ret (v := .tuple #[.string ⟨#[]⟩, .bool false]) (by simp [results, Tryz.results86, go_sem]) rfl ⟨by rw [HR.out], HB1.out.trans (HBr.out.trans (HB2.out.trans HB5.out))⟩
          | some n =>
            have hfe := HFin.out
            rw [hg] at hfe
            rw [hfe]
            obtain ⟨hg1, hn44, -⟩ := (gR_iff s j n).1 hg
            rw [← HI.out] at hg1
            have hpl : i + 15 ≤ s.length := by
              rcases hg1 with h | h
              · omega
              · have := (List.getElem?_eq_some_iff.1 h).1; omega
            have hex := letOf lets44 n 44 hn44 (by decide)
            obtain ⟨X, hX⟩ : ∃ X, X = [lets44.getD n 0] := ⟨_, rfl⟩
            rw [← hX] at hex
            have hX1 : X.length = 1 := by rw [hX]; rfl
            unfold lets44 at hex
            have hsT : (⟨T.toArray⟩ : ByteArray).size = T.length := Lib.size_mk T
            have hsX : (⟨X.toArray⟩ : ByteArray).size = X.length := Lib.size_mk X
            have hoT : ¬ (9223372036854775807 < T.length + X.length) := by omega
            have hcat := cat_two T X
            have HXt := Lib.hid (show txt (ks ++ [n]) = T ++ X by rw [txt_add, HTx.out, hX])
            have HNx := Lib.hid (partsR_step HPs.out hg)
            have hnI : (n : Int) + 1 ≤ 44 := by omega
            clear hfe hg hX hg1
            by_cases he : i + 15 = s.length
            · have heI : (i : Int) + 15 = (s.length : Int) := by omega
              have heb : ((i : Int) + 15 == (s.length : Int)) = true := by rw [beq_iff_eq]; exact heI
              have hout : outR s = some (T ++ X) := by
                rw [HO.out, ← HXt.out]
                unfold decM
                rw [if_pos (by have := HI.out; omega), show (s.length + 1) / 16 = j + 1 by have := HI.out; omega, HNx.out]
                rfl
              obtain ⟨U, hU⟩ : ∃ U, U = T ++ X := ⟨_, rfl⟩
              rw [← hU] at hout hcat
              have HOut := Lib.hid hout
              clear hout hU HXt HNx he hTl
              have hsU : (⟨U.toArray⟩ : ByteArray).size = U.length := Lib.size_mk U
              go_upto_region 29 with fail
              have hD : shpT U = (decide (4 ≤ U.length) && (decide (U.length ≤ 43) && (U.getD 0 0 == 42 && (U.getD (U.length - 1) 0 == 42 && !(midT U).contains 42)))) := rfl
              have HD := Lib.hid hD
              clear hD
              by_cases h4 : 4 ≤ U.length
              · have h4I : ¬ ((U.length : Int) < 4) := by omega
                have h4N : ¬ (U.length < 4) := by omega
                by_cases h43 : U.length ≤ 43
                · have h43I : ¬ ((43 : Int) < (U.length : Int)) := by omega
                  have h43N : ¬ (43 < U.length) := by omega
                  obtain ⟨a, ha⟩ : ∃ a, U[0]? = some a := ⟨_, List.getElem?_eq_getElem (by omega)⟩
                  obtain ⟨L, hL⟩ : ∃ L, L = U.length - 1 := ⟨_, rfl⟩
                  obtain ⟨z, hz⟩ : ∃ z, U[L]? = some z := ⟨_, List.getElem?_eq_getElem (by omega)⟩
                  have hLI : (U.length : Int) - 1 = (L : Int) := by omega
                  have hLs : (L : Int) < (U.length : Int) := by omega
                  have hL1 : (1 : Int) ≤ (L : Int) := by omega
                  obtain ⟨a1, a2⟩ := bytes_at ha
                  obtain ⟨z1, z2⟩ := bytes_at hz
                  have hga : U.getD 0 0 = a := by rw [List.getD_eq_getElem?_getD, ha]; rfl
                  have hgz : U.getD (U.length - 1) 0 = z := by rw [← hL, List.getD_eq_getElem?_getD, hz]; rfl
                  have HD2 := Lib.hid (show shpT U = (a == 42 && (z == 42 && !(midT U).contains 42)) by rw [HD.out, decide_eq_true h4, decide_eq_true h43, hga, hgz]; rfl)
                  have hex1 : (⟨U.toArray⟩ : ByteArray).extract 1 L = ⟨(midT U).toArray⟩ := by
                    rw [slice_ab]
                    unfold midT
                    rw [show L - 1 = U.length - 2 by omega]
                  have HLn := Lib.hid hL
                  clear hga hgz ha hz hL h4 h43 HD
                  cases h42 : (a == 42) with
                  | false =>
                    have ha42 : ¬ ((a.toNat : Int) = 42) := fun e => by
                      have : a = 42 := UInt8.toNat_inj.1 (by have : (42 : UInt8).toNat = 42 := rfl; omega)
                      rw [this] at h42; cases h42
                    have hab : ((a.toNat : Int) == 42) = false := by rw [beq_eq_false_iff_ne]; exact ha42
                    have HR := Lib.hid (t39_shape HOut.out (by rw [HD2.out, h42]; rfl))
                    clear h42 hex1
                    go_wp2_with fail
                    exact bodyPost_ret (v := .tuple #[.string ⟨#[]⟩, .bool false]) (by simp [results, Tryz.results86, go_sem]) rfl ⟨by rw [HR.out], HB1.out.trans (HBr.out.trans (HB2.out.trans HB5.out))⟩
                  | true =>
                    have hae : a = 42 := by simpa using h42
                    cases hz2 : (z == 42) with
                    | false =>
                      have hz42 : ¬ ((z.toNat : Int) = 42) := fun e => by
                        have : z = 42 := UInt8.toNat_inj.1 (by have : (42 : UInt8).toNat = 42 := rfl; omega)
                        rw [this] at hz2; cases hz2
                      have hzb : ((z.toNat : Int) == 42) = false := by rw [beq_eq_false_iff_ne]; exact hz42
                      have HR := Lib.hid (t39_shape HOut.out (by rw [HD2.out, h42, hz2]; rfl))
                      clear h42 hz2 hex1
                      subst hae
                      go_wp2_with fail
                      exact bodyPost_ret (v := .tuple #[.string ⟨#[]⟩, .bool false]) (by simp [results, Tryz.results86, go_sem]) rfl ⟨by rw [HR.out], HB1.out.trans (HBr.out.trans (HB2.out.trans HB5.out))⟩
                    | true =>
                      have hze : z = 42 := by simpa using hz2
                      have hcn := fun wx => conB_any (midT U) 42 wx
                      have hcd : decide (0 ≤ Lib.indexByte (midT U) 42) = (midT U).contains 42 := by
                        rw [Bool.eq_iff_iff, decide_eq_true_eq, ixB_mem]
                        simp
                      simp only [hcd] at hcn
                      obtain ⟨Y, hY⟩ : ∃ Y, Y = midT U := ⟨_, rfl⟩
                      rw [← hY] at hcn hex1
                      cases hct : Y.contains 42 with
                      | true =>
                        have HR := Lib.hid (t39_shape HOut.out (by rw [HD2.out, h42, hz2, ← hY, hct]; rfl))
                        simp only [hct] at hcn
                        have Hcn := Lib.hid hcn
                        clear h42 hz2 hcn hcd hY hct
                        subst hae
                        subst hze
                        go_wp2_with fail
                        refine (Hcn.out _).mono ?_
                        rintro e w' ⟨rfl, hw⟩
                        subst hw
                        go_wp2_with fail
                        exact bodyPost_ret (v := .tuple #[.string ⟨#[]⟩, .bool false]) (by simp [results, Tryz.results86, go_sem]) rfl ⟨by rw [HR.out], HB1.out.trans (HBr.out.trans (HB2.out.trans HB5.out))⟩
                      | false =>
                        have HR := Lib.hid ((t39_some HOut.out (by rw [HD2.out, h42, hz2, ← hY, hct]; rfl)).trans (by rw [← hY]))
                        simp only [hct] at hcn
                        have Hcn := Lib.hid hcn
                        clear h42 hz2 hcn hcd hY hct
                        subst hae
                        subst hze
                        go_wp2_with fail
                        refine (Hcn.out _).mono ?_
                        rintro e w' ⟨rfl, hw⟩
                        subst hw
                        go_wp2_with fail
                        exact bodyPost_ret (v := .tuple #[.string ⟨Y.toArray⟩, .bool true]) (by simp [results, Tryz.results86, go_sem]; try exact hex1) rfl ⟨by rw [HR.out], HB1.out.trans (HBr.out.trans (HB2.out.trans HB5.out))⟩
                · have HR := Lib.hid (t39_shape HOut.out (by rw [HD.out, decide_eq_false h43, Bool.false_and, Bool.and_false]))
                  have h2 : (43 : Int) < (U.length : Int) := by omega
                  have h2N : 43 < U.length := by omega
                  clear h4 h43 HD
                  go_wp2_with fail
                  exact bodyPost_ret (v := .tuple #[.string ⟨#[]⟩, .bool false]) (by simp [results, Tryz.results86, go_sem]) rfl ⟨by rw [HR.out], HB1.out.trans (HBr.out.trans (HB2.out.trans HB5.out))⟩
              · have HR := Lib.hid (t39_shape HOut.out (by rw [HD.out, decide_eq_false h4, Bool.false_and]))
                have h1 : (U.length : Int) < 4 := by omega
                have h1N : U.length < 4 := by omega
                clear h4 HD
                go_wp2_with fail
                exact bodyPost_ret (v := .tuple #[.string ⟨#[]⟩, .bool false]) (by simp [results, Tryz.results86, go_sem]) rfl ⟨by rw [HR.out], HB1.out.trans (HBr.out.trans (HB2.out.trans HB5.out))⟩
            · have heI : ¬ ((i : Int) + 15 = (s.length : Int)) := by omega
              have heb : ((i : Int) + 15 == (s.length : Int)) = false := by rw [beq_eq_false_iff_ne]; exact heI
              by_cases he2 : i + 16 = s.length
              · have HR := Lib.hid (t39_none (s := s) (by
                  rw [HO.out, decM_end (j := j + 1) (by have := HI.out; omega)]
                  rfl))
                have heI2 : (i : Int) + 15 + 1 = (s.length : Int) := by omega
                have heb2 : ((i : Int) + 15 + 1 == (s.length : Int)) = true := by rw [beq_iff_eq]; exact heI2
                clear he he2
                go_wp2_with fail
                exact bodyPost_ret (v := .tuple #[.string ⟨#[]⟩, .bool false]) (by simp [results, Tryz.results86, go_sem]) rfl ⟨by rw [HR.out], HB1.out.trans (HBr.out.trans (HB2.out.trans HB5.out))⟩
              · have heI2 : ¬ ((i : Int) + 15 + 1 = (s.length : Int)) := by omega
                have heb2 : ((i : Int) + 15 + 1 == (s.length : Int)) = false := by rw [beq_eq_false_iff_ne]; exact heI2
                have HL := Lib.hid (show i + 16 < s.length by omega)
                clear he he2
                go_wp2_with fail
                exact ⟨⟨j + 1, ks ++ [n], by have := HI.out; have := HL.out; omega, by rw [show (16 * (j + 1) : Nat) = i + 16 by rw [HI.out]; omega]; simp; omega, HNx.out, by rw [HXt.out, ← hcat], HBr.out.trans (HB2.out.trans HB5.out)⟩, by have := HL.out; simp [RowKit.intOf] <;> omega⟩

end Go.Proofs.YtkipcobpnecmhaaGreatDoor
