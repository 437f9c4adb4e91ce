/- The law EANsMatch answers true. -/
import Derived.Test.YtjelhdpcaileiaaDoorU52

namespace Go.Proofs.YtjelhdpcaileiaaDoor
open Go.RowKit Go.Shelf

def digR (m : List UInt8) : List UInt8 × Bool := match digsE m with
  | none => ([], false)
  | some d => (d, true)
theorem digR_none {m : List UInt8} (h : digsE m = none) : digR m = ([], false) := by unfold digR; rw [h]
theorem enc_digit (k : Nat) (hk : k < 10) : Utf8.encode (48 + (k : Int)) = ⟨[UInt8.ofNat (48 + k)].toArray⟩ := by
  have : ∀ k < 10, Utf8.encode (48 + ((k : Nat) : Int)) = ⟨[UInt8.ofNat (48 + k)].toArray⟩ := by decide +kernel
  exact this k hk
/-- What the search has told of a group: the digits, the kinds (of the left half). -/
def rowIf (i : Nat) (r : List UInt8) : List UInt8 := if i < 6 then r else []
theorem hits_lenK (i : Nat) (s : List UInt8) : ∀ k, (outOf (hitsE i s k)).length ≤ k ∧ (rowOf (hitsE i s k)).length ≤ k
  | 0 => ⟨Nat.le_refl _, Nat.le_refl _⟩
  | k + 1 => by
    obtain ⟨h1, h2⟩ := hits_lenK i s k
    have e : hitsE i s (k + 1) = hitsE i s k ++ (match kindR i s k with | some c => [(c, [UInt8.ofNat (48 + k)])] | none => []) := rfl
    rw [e]
    cases kindR i s k with
    | none => simp only [List.append_nil]; omega
    | some c =>
      simp only [(parts_out _ _).1, (parts_out _ _).2, List.length_append, List.length_singleton]
      omega
theorem hits_step_some {i k : Nat} {s : List UInt8} {c : UInt8} (h : kindR i s k = some c) : hitsE i s (k + 1) = hitsE i s k ++ [(c, [UInt8.ofNat (48 + k)])] := by
  show hitsE i s k ++ (match kindR i s k with | some c => [(c, [UInt8.ofNat (48 + k)])] | none => []) = _
  rw [h]
theorem hits_step_none {i k : Nat} {s : List UInt8} (h : kindR i s k = none) : hitsE i s (k + 1) = hitsE i s k := by
  show hitsE i s k ++ (match kindR i s k with | some c => [(c, [UInt8.ofNat (48 + k)])] | none => []) = _
  rw [h]
  exact List.append_nil _
set_option maxRecDepth 1000000 in
set_option maxHeartbeats 8000000 in
theorem digitsOf_any (m : List UInt8) (w : World) (_hl : m.length ≤ 9223372036854775807) (hT : SpOk w) :
    Calls Tryd.prog 137 #[.string ⟨m.toArray⟩] w fun e w' => e = .returned (.tuple #[.string ⟨(digR m).1.toArray⟩, .bool (digR m).2]) ∧ Bl w w' := by
  have hsz : (⟨m.toArray⟩ : ByteArray).size = m.length := Lib.size_mk m
  have HT := Lib.hid hT
  clear hT
  go_enter Tryd.func137, Tryd.ntmps137
  by_cases h95 : m.length = 95
  · have hq95 : ((m.length : Int) == 95) = true := by rw [beq_iff_eq]; omega
    have hlI : (m.length : Int) = 95 := by omega
    have hx3 : (⟨m.toArray⟩ : ByteArray).extract 0 3 = ⟨(m.take 3).toArray⟩ := slice_ab m 0 3
    have hx5 : (⟨m.toArray⟩ : ByteArray).extract 45 50 = ⟨((m.drop 45).take 5).toArray⟩ := slice_ab m 45 50
    have hx9 : (⟨m.toArray⟩ : ByteArray).extract 92 m.length = ⟨(m.drop 92).toArray⟩ := extract_drop m 92
    have hhead : headOK m = ((m.take 3 == endE) && (((m.drop 45).take 5 == midE) && (m.drop 92 == endE))) := by
      unfold headOK
      rw [decide_eq_true h95, Bool.true_and, dec_beq, dec_beq, dec_beq]
    obtain ⟨X3, hX3⟩ : ∃ X, X = m.take 3 := ⟨_, rfl⟩
    obtain ⟨X5, hX5⟩ : ∃ X, X = (m.drop 45).take 5 := ⟨_, rfl⟩
    obtain ⟨X9, hX9⟩ : ∃ X, X = m.drop 92 := ⟨_, rfl⟩
    rw [← hX3] at hx3 hhead
    rw [← hX5] at hx5 hhead
    rw [← hX9] at hx9 hhead
    unfold endE midE at hhead
    have HHd := Lib.hid hhead
    have HL := Lib.hid h95
    clear hhead hX3 hX5 hX9 h95
    cases h3 : (X3 == [49, 48, 49]) with
    | true =>
      cases h5 : (X5 == [48, 49, 48, 49, 48]) with
      | true =>
        cases h9 : (X9 == [49, 48, 49]) with
        | true =>
          have HH := Lib.hid (show headOK m = true by rw [HHd.out, h3, h5, h9]; rfl)
          clear HHd
          go_wp2_with fail
          go_loopw [4, 5, 32] (fun s4 s5 s32 wx => ∃ (i : Nat) (ps : List (UInt8 × List UInt8)), i ≤ 12 ∧ s32 = .int .i64 (i : Int) ∧ partsE m i = some ps ∧ s5 = .string ⟨(outOf ps).toArray⟩ ∧ s4 = .string ⟨((rowOf ps).take 6).toArray⟩ ∧ Bl w wx) (fun _ _ v _ => 12 - (RowKit.intOf v).toNat)
          case atStart => exact ⟨0, [], Nat.zero_le _, rfl, rfl, rfl, rfl, Bl.refl _⟩
          case round =>
            rename World => wx
            obtain ⟨i, ps, hi, rfl, hps, rfl, rfl, hbx⟩ := hrel
            obtain ⟨hol, hrl⟩ := outOf_len hps
            by_cases hlt : i < 12
            · have HPs := Lib.hid hps; have HBx := Lib.hid hbx
              have hi12 : (i : Int) < 12 := by omega
              have hdec : partsE m (i + 1) = (match dec1 i (gAt m i) with | none => none | some p => some (ps ++ [p])) := by
                show (match partsE m i with | none => none | some ps => match dec1 i (gAt m i) with | none => none | some p => some (ps ++ [p])) = _
                rw [hps]
              obtain ⟨a, ha⟩ : ∃ a : Nat, a = gFrom i := ⟨_, rfl⟩
              have ha7 : (a : Int) + 7 ≤ 95 := by rw [ha]; unfold gFrom; split <;> omega
              obtain ⟨s, hs⟩ : ∃ s, s = gAt m i := ⟨_, rfl⟩
              have hex : (⟨m.toArray⟩ : ByteArray).extract a (a + 7) = ⟨s.toArray⟩ := by
                rw [slice_ab, hs, show a + 7 - a = 7 by omega]
                unfold gAt
                rw [ha]
              have HA := Lib.hid ha
              have hall := hits_all i s
              rw [← hs] at hdec
              obtain ⟨P, hP⟩ : ∃ P, P = outOf ps := ⟨_, rfl⟩
              obtain ⟨R, hRw⟩ : ∃ P, P = (rowOf ps).take 6 := ⟨_, rfl⟩
              have hRl : R.length ≤ 6 := by rw [hRw, List.length_take]; omega
              rw [← hP] at hol ⊢
              rw [← hRw]
              have HP := Lib.hid hP; have HRw := Lib.hid hRw; have HSg := Lib.hid hs; have HDec := Lib.hid hdec; have HAll := Lib.hid hall
              clear hps hbx hdec hP hRw hs ha hall
              by_cases h6 : i < 6
              · have h6I : (i : Int) < 6 := by omega
                have h6N : ¬ ((6 : Int) ≤ (i : Int)) := by omega
                have hai : (3 : Int) + 7 * (i : Int) = (a : Int) := by have := HA.out; rw [this]; unfold gFrom; rw [if_neg (by omega)]; omega
                go_upto_region 10 with fail
                try rw [hai]
                clear hai
                go_wp2_with fail
                refine (left_any _ (HT.out.bl HBx.out)).mono ?_
                rintro e w5 ⟨g, rfl, hr5, hb5⟩
                have HR5 := Lib.hid hr5; have HB5 := Lib.hid hb5
                clear hr5 hb5
                go_wp2_with fail
                go_loopw [4, 5, 9, 49] (fun s4 s5 s9 s49 wy => ∃ k : Nat, k ≤ 10 ∧ s49 = .int .i64 (k : Int) ∧ s5 = .string ⟨(P ++ outOf (hitsE i s k)).toArray⟩ ∧ s4 = .string ⟨(R ++ rowOf (hitsE i s k)).toArray⟩ ∧ s9 = .bool (!(hitsE i s k).isEmpty) ∧ Bl w5 wy) (fun _ _ _ v _ => 10 - (RowKit.intOf v).toNat)
                case atStart => exact ⟨0, Nat.zero_le _, rfl, by rw [show outOf (hitsE i s 0) = [] from rfl, List.append_nil], by rw [show rowOf (hitsE i s 0) = [] from rfl, List.append_nil], rfl, Bl.refl _⟩
                case round =>
                  rename World => wy
                  obtain ⟨k, hk, rfl, rfl, rfl, rfl, hby⟩ := hrel
                  obtain ⟨hlo, hlr⟩ := hits_lenK i s k
                  obtain ⟨H, hH⟩ : ∃ H, H = hitsE i s k := ⟨_, rfl⟩
                  rw [← hH] at hlo hlr ⊢
                  by_cases hkt : k < 10
                  · obtain ⟨ad, ea, c0⟩ := str_at (HR5.out.bl hby) (leftC_at k hkt)
                    obtain rfl := Option.some.inj ea
                    rw [add_flat] at c0
                    have HBy := Lib.hid hby
                    have hE7 := ex_len k hkt
                    have hcE := fun wx => right_any k hkt wx
                    have hcF := fun wx => flip_any (exB (leftC.getD k [])) wx (by omega)
                    unfold FlipRes at hcF
                    have hkI : (k : Int) < (leftC.length : Int) := by show (k : Int) < 10; omega
                    have henc := enc_digit k hkt
                    obtain ⟨N, hN⟩ : ∃ N, N = [UInt8.ofNat (48 + k)] := ⟨_, rfl⟩
                    rw [← hN] at henc
                    have hN1 : N.length = 1 := by rw [hN]; rfl
                    have hss := fun c (h : kindR i s k = some c) => (hits_step_some h).trans (by rw [← hN, ← hH])
                    have hsn := fun (h : kindR i s k = none) => (hits_step_none h).trans hH.symm
                    have hkr : kindR i s k = if s = codeOf 76 k then some 76 else if s = codeOf 71 k then some 71 else none := by unfold kindR; rw [if_neg (by omega)]
                    rw [codeOf_left, codeOf_g] at hkr
                    obtain ⟨E, hE⟩ : ∃ E, E = exB (leftC.getD k []) := ⟨_, rfl⟩
                    obtain ⟨F, hF⟩ : ∃ F, F = E.reverse := ⟨_, rfl⟩
                    rw [← hE] at hcE hcF hkr
                    rw [← hF] at hcF hkr
                    obtain ⟨L, hL⟩ : ∃ L, L = leftC.getD k [] := ⟨_, rfl⟩
                    rw [← hL] at hcE c0 hkr
                    have HcE := Lib.hid hcE; have HcF := Lib.hid hcF; have HSs := Lib.hid hss; have HSn := Lib.hid hsn; have HKr := Lib.hid hkr
                    obtain ⟨Q, hQ⟩ : ∃ Q, Q = P ++ outOf H := ⟨_, rfl⟩
                    have hQl : Q.length ≤ 40 := by rw [hQ, List.length_append]; omega
                    rw [← hQ]
                    have HQ := Lib.hid hQ
                    have hsQ : (⟨Q.toArray⟩ : ByteArray).size = Q.length := Lib.size_mk Q
                    have hsN : (⟨N.toArray⟩ : ByteArray).size = N.length := Lib.size_mk N
                    have hoQ : ¬ (9223372036854775807 < Q.length + N.length) := by omega
                    have hcat := cat_two Q N
                    obtain ⟨T, hTT⟩ : ∃ Q, Q = R ++ rowOf H := ⟨_, rfl⟩
                    have hTl : T.length ≤ 40 := by rw [hTT, List.length_append]; omega
                    rw [← hTT]
                    have HTT := Lib.hid hTT
                    have hsT : (⟨T.toArray⟩ : ByteArray).size = T.length := Lib.size_mk T
                    have hoT : ¬ (9223372036854775807 < T.length + 1) := by omega
                    clear hN hss hsn hkr hE hF hL hcE hcF hQ hby hTT
                    cases hqL : (s == L) with
                    | true =>
                      have HSt := Lib.hid (HSs.out 76 (HKr.out.trans (by rw [if_pos (by simpa using hqL)])))
                      have hcT : (⟨T.toArray⟩ : ByteArray) ++ ⟨#[76]⟩ = ⟨(T ++ [76]).toArray⟩ := cat_two T [76]
                      clear HSs HSn HKr hH
                      go_wp2_with fail
                      exact ⟨⟨k + 1, by omega, by go_num, by rw [HSt.out, (parts_out _ _).1, ← List.append_assoc, ← HQ.out, ← hcat], by rw [HSt.out, (parts_out _ _).2, ← List.append_assoc, ← HTT.out, ← hcT], by rw [HSt.out]; simp, HBy.out⟩, by simp [RowKit.intOf] <;> omega⟩
                    | false =>
                      cases hqF : (s == F) with
                      | true =>
                        have HSt := Lib.hid (HSs.out 71 (HKr.out.trans (by rw [if_neg (by simpa using hqL), if_pos (by simpa using hqF)])))
                        have hcT : (⟨T.toArray⟩ : ByteArray) ++ ⟨#[71]⟩ = ⟨(T ++ [71]).toArray⟩ := cat_two T [71]
                        clear HSs HSn HKr hH
                        go_wp2_with fail
                        refine (HcE.out _).mono ?_
                        rintro e w8 ⟨rfl, hb8⟩
                        have HB8 := Lib.hid (HBy.out.trans hb8)
                        clear hb8
                        go_wp2_with fail
                        refine (HcF.out _).mono ?_
                        rintro e w9 ⟨rfl, hb9⟩
                        have HB9 := Lib.hid (HB8.out.trans hb9)
                        clear hb9
                        go_wp2_with fail
                        exact ⟨⟨k + 1, by omega, by go_num, by rw [HSt.out, (parts_out _ _).1, ← List.append_assoc, ← HQ.out, ← hcat], by rw [HSt.out, (parts_out _ _).2, ← List.append_assoc, ← HTT.out, ← hcT], by rw [HSt.out]; simp, HB9.out⟩, by simp [RowKit.intOf] <;> omega⟩
                      | false =>
                        have HSt := Lib.hid (HSn.out (HKr.out.trans (by rw [if_neg (by simpa using hqL), if_neg (by simpa using hqF)])))
                        clear HSs HSn HKr hH
                        go_wp2_with fail
                        refine (HcE.out _).mono ?_
                        rintro e w8 ⟨rfl, hb8⟩
                        have HB8 := Lib.hid (HBy.out.trans hb8)
                        clear hb8
                        go_wp2_with fail
                        refine (HcF.out _).mono ?_
                        rintro e w9 ⟨rfl, hb9⟩
                        have HB9 := Lib.hid (HB8.out.trans hb9)
                        clear hb9
                        go_wp2_with fail
                        exact ⟨⟨k + 1, by omega, by go_num, by rw [HSt.out, ← HQ.out], by rw [HSt.out, ← HTT.out], by rw [HSt.out], HB9.out⟩, by simp [RowKit.intOf] <;> omega⟩
                  · obtain rfl : k = 10 := by omega
                    rw [hH, HAll.out]
                    have hb5 := HB5.out
                    cases hd : dec1 i s with
                    | none =>
                      have HRd := Lib.hid (show digR m = ([], false) from digR_none (by unfold digsE; rw [if_pos HH.out, parts_none12 hlt (show dec1 i (gAt m i) = none by rw [← HSg.out]; exact hd)]))
                      clear hH hd
                      go_wp2_with fail
                      exact bodyPost_ret (v := .tuple #[.string ⟨#[]⟩, .bool false]) (by simp [results, Tryd.results137, go_sem]) rfl ⟨by rw [HRd.out], (HBx.out.trans hb5).trans hby⟩
                    | some p =>
                      obtain ⟨c, n⟩ := p
                      have hst := HDec.out
                      rw [hd] at hst
                      have HSt := Lib.hid (show partsE m (i + 1) = some (ps ++ [(c, n)]) from hst)
                      have hp1 := (parts_out (ps := ps) c n).1
                      have hp2 := (parts_out (ps := ps) c n).2
                      rw [← HP.out] at hp1
                      have hq1 : P ++ outOf (Option.some (c, n)).toList = outOf (ps ++ [(c, n)]) := by rw [hp1]; unfold outOf; simp
                      have hR0 : R = rowOf ps := by rw [HRw.out, List.take_of_length_le (by omega)]
                      have hq2 : R ++ rowOf (Option.some (c, n)).toList = (rowOf (ps ++ [(c, n)])).take 6 := by
                        rw [hp2, hR0, List.take_of_length_le (by rw [List.length_append, List.length_singleton]; omega)]
                        rfl
                      rw [hq1, hq2]
                      clear hp1 hp2 hq1 hq2 hst hH hd hR0
                      go_wp2_with fail
                      exact ⟨⟨i + 1, _, by omega, by go_num, HSt.out, rfl, rfl, (HBx.out.trans hb5).trans hby⟩, by simp [RowKit.intOf] <;> omega⟩
              · have h6I : (6 : Int) ≤ (i : Int) := by omega
                have h6N : ¬ ((i : Int) < 6) := by omega
                have hai : (3 : Int) + 7 * (i : Int) + 5 = (a : Int) := by have := HA.out; rw [this]; unfold gFrom; rw [if_pos (by omega)]; omega
                go_upto_region 10 with fail
                try rw [hai]
                clear hai
                go_wp2_with fail
                refine (left_any _ (HT.out.bl HBx.out)).mono ?_
                rintro e w5 ⟨g, rfl, hr5, hb5⟩
                have HR5 := Lib.hid hr5; have HB5 := Lib.hid hb5
                clear hr5 hb5
                go_wp2_with fail
                go_loopw [4, 5, 9, 49] (fun s4 s5 s9 s49 wy => ∃ k : Nat, k ≤ 10 ∧ s49 = .int .i64 (k : Int) ∧ s5 = .string ⟨(P ++ outOf (hitsE i s k)).toArray⟩ ∧ s4 = .string ⟨R.toArray⟩ ∧ s9 = .bool (!(hitsE i s k).isEmpty) ∧ Bl w5 wy) (fun _ _ _ v _ => 10 - (RowKit.intOf v).toNat)
                case atStart => exact ⟨0, Nat.zero_le _, rfl, by rw [show outOf (hitsE i s 0) = [] from rfl, List.append_nil], rfl, rfl, Bl.refl _⟩
                case round =>
                  rename World => wy
                  obtain ⟨k, hk, rfl, rfl, rfl, rfl, hby⟩ := hrel
                  obtain ⟨hlo, hlr⟩ := hits_lenK i s k
                  obtain ⟨H, hH⟩ : ∃ H, H = hitsE i s k := ⟨_, rfl⟩
                  rw [← hH] at hlo hlr ⊢
                  by_cases hkt : k < 10
                  · obtain ⟨ad, ea, c0⟩ := str_at (HR5.out.bl hby) (leftC_at k hkt)
                    obtain rfl := Option.some.inj ea
                    rw [add_flat] at c0
                    have HBy := Lib.hid hby
                    have hE7 := ex_len k hkt
                    have hcE := fun wx => right_any k hkt wx
                    have hcF := fun wx => flip_any (exB (leftC.getD k [])) wx (by omega)
                    unfold FlipRes at hcF
                    have hkI : (k : Int) < (leftC.length : Int) := by show (k : Int) < 10; omega
                    have henc := enc_digit k hkt
                    obtain ⟨N, hN⟩ : ∃ N, N = [UInt8.ofNat (48 + k)] := ⟨_, rfl⟩
                    rw [← hN] at henc
                    have hN1 : N.length = 1 := by rw [hN]; rfl
                    have hss := fun c (h : kindR i s k = some c) => (hits_step_some h).trans (by rw [← hN, ← hH])
                    have hsn := fun (h : kindR i s k = none) => (hits_step_none h).trans hH.symm
                    have hkr : kindR i s k = if s = codeOf 82 k then some 82 else none := by unfold kindR; rw [if_pos (by omega)]
                    rw [codeOf_right] at hkr
                    obtain ⟨E, hE⟩ : ∃ E, E = exB (leftC.getD k []) := ⟨_, rfl⟩
                    obtain ⟨F, hF⟩ : ∃ F, F = E.reverse := ⟨_, rfl⟩
                    rw [← hE] at hcE hcF hkr
                    rw [← hF] at hcF
                    obtain ⟨L, hL⟩ : ∃ L, L = leftC.getD k [] := ⟨_, rfl⟩
                    rw [← hL] at hcE c0
                    have HcE := Lib.hid hcE; have HcF := Lib.hid hcF; have HSs := Lib.hid hss; have HSn := Lib.hid hsn; have HKr := Lib.hid hkr
                    obtain ⟨Q, hQ⟩ : ∃ Q, Q = P ++ outOf H := ⟨_, rfl⟩
                    have hQl : Q.length ≤ 40 := by rw [hQ, List.length_append]; omega
                    rw [← hQ]
                    have HQ := Lib.hid hQ
                    have hsQ : (⟨Q.toArray⟩ : ByteArray).size = Q.length := Lib.size_mk Q
                    have hsN : (⟨N.toArray⟩ : ByteArray).size = N.length := Lib.size_mk N
                    have hoQ : ¬ (9223372036854775807 < Q.length + N.length) := by omega
                    have hcat := cat_two Q N
                    clear hN hss hsn hkr hE hF hL hcE hcF hQ hby
                    cases hqE : (s == E) with
                    | true =>
                      have HSt := Lib.hid (HSs.out 82 (HKr.out.trans (by rw [if_pos (by simpa using hqE)])))
                      clear HSs HSn HKr hH
                      go_wp2_with fail
                      refine (HcE.out _).mono ?_
                      rintro e w8 ⟨rfl, hb8⟩
                      have HB8 := Lib.hid (HBy.out.trans hb8)
                      clear hb8
                      go_wp2_with fail
                      exact ⟨⟨k + 1, by omega, by go_num, by rw [HSt.out, (parts_out _ _).1, ← List.append_assoc, ← HQ.out, ← hcat], rfl, by rw [HSt.out]; simp, HB8.out⟩, by simp [RowKit.intOf] <;> omega⟩
                    | false =>
                      have HSt := Lib.hid (HSn.out (HKr.out.trans (by rw [if_neg (by simpa using hqE)])))
                      clear HSs HSn HKr hH
                      go_wp2_with fail
                      refine (HcE.out _).mono ?_
                      rintro e w8 ⟨rfl, hb8⟩
                      have HB8 := Lib.hid (HBy.out.trans hb8)
                      clear hb8
                      go_wp2_with fail
                      exact ⟨⟨k + 1, by omega, by go_num, by rw [HSt.out, ← HQ.out], rfl, by rw [HSt.out], HB8.out⟩, by simp [RowKit.intOf] <;> omega⟩
                  · obtain rfl : k = 10 := by omega
                    rw [hH, HAll.out]
                    have hb5 := HB5.out
                    cases hd : dec1 i s with
                    | none =>
                      have HRd := Lib.hid (show digR m = ([], false) from digR_none (by unfold digsE; rw [if_pos HH.out, parts_none12 hlt (show dec1 i (gAt m i) = none by rw [← HSg.out]; exact hd)]))
                      clear hH hd
                      go_wp2_with fail
                      exact bodyPost_ret (v := .tuple #[.string ⟨#[]⟩, .bool false]) (by simp [results, Tryd.results137, go_sem]) rfl ⟨by rw [HRd.out], (HBx.out.trans hb5).trans hby⟩
                    | some p =>
                      obtain ⟨c, n⟩ := p
                      have hst := HDec.out
                      rw [hd] at hst
                      have HSt := Lib.hid (show partsE m (i + 1) = some (ps ++ [(c, n)]) from hst)
                      have hp1 := (parts_out (ps := ps) c n).1
                      have hp2 := (parts_out (ps := ps) c n).2
                      rw [← HP.out] at hp1
                      have hq1 : P ++ outOf (Option.some (c, n)).toList = outOf (ps ++ [(c, n)]) := by rw [hp1]; unfold outOf; simp
                      have hq2 : R = (rowOf (ps ++ [(c, n)])).take 6 := by
                        rw [hp2, HRw.out, List.take_append_of_le_length (by omega)]
                      have HQ2 := Lib.hid hq2
                      rw [hq1]
                      clear hp1 hp2 hq1 hq2 hst hH hd
                      go_wp2_with fail
                      exact ⟨⟨i + 1, _, by omega, by go_num, HSt.out, rfl, by rw [← HQ2.out], (HBx.out.trans hb5).trans hby⟩, by simp [RowKit.intOf] <;> omega⟩
            · obtain rfl : i = 12 := by omega
              obtain ⟨P, hP⟩ : ∃ P, P = outOf ps := ⟨_, rfl⟩
              obtain ⟨R, hRw⟩ : ∃ P, P = rowOf ps := ⟨_, rfl⟩
              obtain ⟨X, hX⟩ : ∃ X, X = R.take 6 := ⟨_, rfl⟩
              have HDg := Lib.hid (digs_ok HH.out hps hP hRw hX)
              rw [← hP] at hol ⊢
              rw [← hRw, ← hX]
              have HBx := Lib.hid hbx
              have hrw5 := rowsE_any wx (HT.out.bl hbx)
              have HRw := Lib.hid hrw5
              have HIx := Lib.hid (firstIdx_any X)
              clear hps hP hRw hbx hX hrw5 hrl
              cases hf : firstAt X with
              | none =>
                have hV : idxV X = -1 := by unfold idxV; rw [hf]
                rw [hV] at HIx
                have HRd := Lib.hid (digR_none (HDg.out.trans (by rw [hf]; rfl)))
                clear hV hf
                go_wp2_with fail
                refine HRw.out.mono ?_
                rintro e w5 ⟨g5, rfl, hr5, hb5⟩
                go_wp2_with fail
                refine (HIx.out g5 w5 hr5).mono ?_
                rintro e w6 ⟨rfl, hw6⟩
                subst hw6
                go_wp2_with fail
                exact bodyPost_ret (v := .tuple #[.string ⟨#[]⟩, .bool false]) (by simp [results, Tryd.results137, go_sem]) rfl ⟨by rw [HRd.out], HBx.out.trans hb5⟩
              | some f =>
                have hV : idxV X = (f : Int) := by unfold idxV; rw [hf]
                rw [hV] at HIx
                have hf10 : f < 10 := by
                  unfold firstAt at hf
                  exact (List.findIdx?_eq_some_iff_findIdx_eq.1 hf).1
                have hdg : digsE m = some (UInt8.ofNat (48 + f) :: P) := HDg.out.trans (by rw [hf]; rfl)
                have henc := enc_digit f hf10
                obtain ⟨N, hN⟩ : ∃ N, N = [UInt8.ofNat (48 + f)] := ⟨_, rfl⟩
                rw [← hN] at henc
                have hlN : N.length = 1 := by rw [hN]; rfl
                have hsN : (⟨N.toArray⟩ : ByteArray).size = N.length := Lib.size_mk N
                have hcat := cat_two N P
                have hsPP : (⟨P.toArray⟩ : ByteArray).size = P.length := Lib.size_mk P
                have hoN : ¬ (9223372036854775807 < N.length + P.length) := by omega
                obtain ⟨D, hD⟩ : ∃ D, D = N ++ P := ⟨_, rfl⟩
                rw [← hD] at hcat
                have HRd := Lib.hid (show digR m = (D, true) by unfold digR; rw [hdg, hD, hN]; rfl)
                clear hV hf hdg hN hD HDg
                go_wp2_with fail
                refine HRw.out.mono ?_
                rintro e w5 ⟨g5, rfl, hr5, hb5⟩
                go_wp2_with fail
                refine (HIx.out g5 w5 hr5).mono ?_
                rintro e w6 ⟨rfl, hw6⟩
                subst hw6
                go_wp2_with fail
                exact bodyPost_ret (v := .tuple #[.string ⟨D.toArray⟩, .bool true]) (by simp [results, Tryd.results137, go_sem]) rfl ⟨by rw [HRd.out], HBx.out.trans hb5⟩
        | false =>
          have HR := Lib.hid (digR_none (head_bad (m := m) (by rw [HHd.out, h3, h5, h9]; rfl)))
          clear HHd
          go_wp2_with fail
          exact bodyPost_ret (v := .tuple #[.string ⟨#[]⟩, .bool false]) (by simp [results, Tryd.results137, go_sem]) rfl ⟨by rw [HR.out], Bl.refl _⟩
      | false =>
        have HR := Lib.hid (digR_none (head_bad (m := m) (by rw [HHd.out, h3, h5]; rfl)))
        clear HHd
        go_wp2_with fail
        exact bodyPost_ret (v := .tuple #[.string ⟨#[]⟩, .bool false]) (by simp [results, Tryd.results137, go_sem]) rfl ⟨by rw [HR.out], Bl.refl _⟩
    | false =>
      have HR := Lib.hid (digR_none (head_bad (m := m) (by rw [HHd.out, h3]; rfl)))
      clear HHd
      go_wp2_with fail
      exact bodyPost_ret (v := .tuple #[.string ⟨#[]⟩, .bool false]) (by simp [results, Tryd.results137, go_sem]) rfl ⟨by rw [HR.out], Bl.refl _⟩
  · have hq95 : ((m.length : Int) == 95) = false := by rw [beq_eq_false_iff_ne]; omega
    have hlI : (m.length : Int) ≠ 95 := by omega
    have HR := Lib.hid (digR_none (head_bad (m := m) (by unfold headOK; rw [decide_eq_false h95]; rfl)))
    clear h95
    go_wp2_with fail
    exact bodyPost_ret (v := .tuple #[.string ⟨#[]⟩, .bool false]) (by simp [results, Tryd.results137, go_sem]) rfl ⟨by rw [HR.out], Bl.refl _⟩

end Go.Proofs.YtjelhdpcaileiaaDoor


/-! bedref2.ReadEANOf: what is read of modules, as they are or turned round. -/
namespace Go.Proofs.YtjelhdpcaileiaaDoor
open Go.RowKit Go.Shelf

theorem made_take {l cs : List UInt8} (hm : madeOf l cs = true) (n : Nat) : madeOf (l.take n) cs = true := by
  unfold madeOf at hm ⊢
  rw [List.all_eq_true] at hm
  rw [List.all_eq_true]
  exact fun b hb => hm b (List.mem_of_mem_take hb)
theorem eitherG_some {m : List UInt8} (h : (readE m).2 ≠ 2) : eitherG readE m = readE m := by unfold eitherG; rw [if_neg h]
theorem eitherG_none {m : List UInt8} (h : digsE m = none) : eitherG readE m = readE m.reverse := by unfold eitherG; rw [read_none h, if_pos rfl]
set_option maxRecDepth 100000 in
set_option maxHeartbeats 4000000 in
theorem readEANOf_any (m : List UInt8) (w : World) (hl : m.length ≤ 9223372036854775807) (hT : SpOk w) :
    Calls Tryd.prog 60 #[.string ⟨m.toArray⟩] w fun e w' => e = .returned (.tuple #[.string ⟨(eitherG readE m).1.toArray⟩, .int .i64 (eitherG readE m).2]) ∧ Bl w w' := by
  have hf := flip_any m w hl
  unfold FlipRes at hf
  have Hf := Lib.hid hf
  have HT := Lib.hid hT
  have hrl : m.reverse.length ≤ 9223372036854775807 := by rw [List.length_reverse]; exact hl
  obtain ⟨r, hr⟩ : ∃ r, r = m.reverse := ⟨_, rfl⟩
  rw [← hr] at Hf hrl
  have HRv := Lib.hid hr
  clear hf hT hr
  go_enter Tryd.func60, Tryd.ntmps60
  go_wp2_with fail
  refine Hf.out.mono ?_
  rintro e w1 ⟨rfl, hb1⟩
  clear Hf
  go_wp2_with fail
  have hbk := Blk.new w1 9 #[.string ⟨m.toArray⟩, .string ⟨r.toArray⟩]
  have hb2 : Bl w (w1.alloc (.cells #[.string ⟨m.toArray⟩, .string ⟨r.toArray⟩] 9)) := hb1.alloc _
  obtain ⟨kb, hkb⟩ : ∃ k, k = w1.heap.size := ⟨_, rfl⟩
  rw [← hkb] at hbk ⊢
  generalize w1.alloc (.cells #[.string ⟨m.toArray⟩, .string ⟨r.toArray⟩] 9) = w2 at hbk hb2 ⊢
  have k1 := hbk.all2
  have HBk := Lib.hid hbk
  have Hm := Lib.hid (digitsOf_any m w2 hl (HT.out.bl hb2))
  clear hkb hb1 hbk
  refine wp_loop_rounds 3 ?_
  rw [rounds_succ]
  cases hd : digsE m with
  | some D =>
    have hg : digR m = (D, true) := by unfold digR; rw [hd]
    rw [hg] at Hm
    clear hg
    go_wp2_with fail
    refine Hm.out.mono ?_
    rintro e w3 ⟨rfl, hb3⟩
    clear k1 Hm
    obtain ⟨hD13, hDm⟩ := digs_digits hd
    have hsD : (⟨D.toArray⟩ : ByteArray).size = D.length := Lib.size_mk D
    have hD13I : (D.length : Int) = 13 := by omega
    have hck := fun wx => checkOfR_any (D.take 12) wx (by rw [List.length_take]; omega) (made_take hDm 12)
    have hex12 : (⟨D.toArray⟩ : ByteArray).extract 0 12 = ⟨(D.take 12).toArray⟩ := slice_ab D 0 12
    obtain ⟨b12, hg12, hb12, hd12⟩ := digit_byte hDm (i := 12) (by omega)
    obtain ⟨k1, k2⟩ := bytes_at hg12
    have hrd : readE m = if checkOf (D.take 12) = digOf D 12 then (D, 0) else ([], 14) := by unfold readE; rw [hd]
    obtain ⟨ck, hckk⟩ : ∃ ck, ck = checkOf (D.take 12) := ⟨_, rfl⟩
    obtain ⟨d12, hd12e⟩ : ∃ d, d = digOf D 12 := ⟨_, rfl⟩
    rw [← hckk] at hck hrd
    rw [← hd12e] at hb12 hd12 hrd
    have Hck := Lib.hid hck; have HRd := Lib.hid hrd
    clear hDm hg12 hckk hd12e hck hrd
    clear hd
    go_upto_region 6 with fail
    refine wp_region_flow [(true, 0), (true, 1), (true, 2), (true, 3), (true, 4), (true, 5), (false, 6), (true, 7)] (fun _ => false) (by kernel_rfl) (by kernel_rfl) (by kernel_rfl) (by kernel_rfl) ?_
    iterate 1
      apply Flow.mv _ rfl
      · intro K' hK'
        simp only [Act.put, Act.eval, List.setIfInBounds_toArray, List.set_cons_zero, List.set_cons_succ, arr_getD, List.getD_cons_zero, List.getD_cons_succ]
        exact hK'
    iterate 1
      apply Flow.calm2 _ _ rfl rfl
      · intro w' hb' K' hK'
        obtain ⟨hc', hf'⟩ := hb'.rule
        go_simp
        try go_ints
        exact hK'
      · intro K' hK'
        simp only [Act.put, List.setIfInBounds_toArray, List.set_cons_zero, List.set_cons_succ]
        exact hK'
    iterate 1
      apply Flow.calm2 _ _ rfl rfl
      · intro w' hb' K' hK'
        obtain ⟨hc', hf'⟩ := hb'.rule
        go_simp
        try go_ints
        exact hK'
      · intro K' hK'
        simp only [Act.put, List.setIfInBounds_toArray, List.set_cons_zero, List.set_cons_succ]
        exact hK'
    iterate 1
      apply Flow.calm2 _ _ rfl rfl
      · intro w' hb' K' hK'
        obtain ⟨hc', hf'⟩ := hb'.rule
        go_simp
        try go_ints
        exact hK'
      · intro K' hK'
        simp only [Act.put, List.setIfInBounds_toArray, List.set_cons_zero, List.set_cons_succ]
        exact hK'
    iterate 1
      apply Flow.mv _ rfl
      · intro K' hK'
        simp only [Act.put, Act.eval, List.setIfInBounds_toArray, List.set_cons_zero, List.set_cons_succ, arr_getD, List.getD_cons_zero, List.getD_cons_succ]
        exact hK'
    iterate 1
      apply Flow.calm2 _ _ rfl rfl
      · intro w' hb' K' hK'
        obtain ⟨hc', hf'⟩ := hb'.rule
        go_simp
        try go_ints
        exact hK'
      · intro K' hK'
        simp only [Act.put, List.setIfInBounds_toArray, List.set_cons_zero, List.set_cons_succ]
        exact hK'
    apply Flow.move rfl
    go_wp2_with fail
    refine (Hck.out _).mono ?_
    rintro e w8 ⟨rfl, HB1⟩
    go_wp2_with fail
    refine ⟨fun _ => (by first | exact HB1 | exact Bl.refl _), ?_⟩
    iterate 1
      apply Flow.calm2 _ _ rfl rfl
      · intro w' hb' K' hK'
        obtain ⟨hc', hf'⟩ := hb'.rule
        go_simp
        try go_ints
        exact hK'
      · intro K' hK'
        simp only [Act.put, List.setIfInBounds_toArray, List.set_cons_zero, List.set_cons_succ]
        exact hK'
    refine Flow.done ?_
    have HB8 := Lib.hid ((hb2.trans hb3).trans (Bl.ofDrew HB1))
    clear HB1 Hck
    by_cases hq : ck = d12
    · have HR2 := Lib.hid (HRd.out.trans (if_pos hq))
      have HF := Lib.hid (show eitherG readE m = (D, 0) by rw [eitherG_some (by rw [HR2.out]; exact (by decide : (0 : Int) ≠ 2)), HR2.out])
      subst hq
      clear HRd
      go_wp2_with fail
      exact bodyPost_ret (v := .tuple #[.string ⟨D.toArray⟩, .int .i64 0]) (by simp [results, Tryd.results60, go_sem]) rfl ⟨by rw [HF.out], HB8.out⟩
    · have HR2 := Lib.hid (HRd.out.trans (if_neg hq))
      have HF := Lib.hid (show eitherG readE m = ([], 14) by rw [eitherG_some (by rw [HR2.out]; exact (by decide : (14 : Int) ≠ 2)), HR2.out])
      have hq' : (d12 : Int) ≠ (ck : Int) := by omega
      clear HRd hq
      go_wp2_with fail
      exact bodyPost_ret (v := .tuple #[.string ⟨#[]⟩, .int .i64 14]) (by simp [results, Tryd.results60, go_sem]) rfl ⟨by rw [HF.out], HB8.out⟩
  | none =>
    have hg : digR m = ([], false) := digR_none hd
    rw [hg] at Hm
    have HE := Lib.hid ((eitherG_none hd).trans (by rw [← HRv.out]))
    clear hg hd
    go_wp2_with fail
    refine Hm.out.mono ?_
    rintro e w3 ⟨rfl, hb3⟩
    have hb23 := hb2.trans hb3
    have Hr := Lib.hid (digitsOf_any r w3 hrl (HT.out.bl hb23))
    have k3 := (HBk.out.bl hb3).all2
    clear k1 Hm hb2
    go_wp2_with fail
    rw [rounds_succ]
    cases hd : digsE r with
    | some D =>
      have hg : digR r = (D, true) := by unfold digR; rw [hd]
      rw [hg] at Hr
      clear hg
      go_wp2_with fail
      refine Hr.out.mono ?_
      rintro e w4 ⟨rfl, hb4⟩
      clear k3 Hr
      obtain ⟨hD13, hDm⟩ := digs_digits hd
      have hsD : (⟨D.toArray⟩ : ByteArray).size = D.length := Lib.size_mk D
      have hD13I : (D.length : Int) = 13 := by omega
      have hck := fun wx => checkOfR_any (D.take 12) wx (by rw [List.length_take]; omega) (made_take hDm 12)
      have hex12 : (⟨D.toArray⟩ : ByteArray).extract 0 12 = ⟨(D.take 12).toArray⟩ := slice_ab D 0 12
      obtain ⟨b12, hg12, hb12, hd12⟩ := digit_byte hDm (i := 12) (by omega)
      obtain ⟨k1, k2⟩ := bytes_at hg12
      have hrd : readE r = if checkOf (D.take 12) = digOf D 12 then (D, 0) else ([], 14) := by unfold readE; rw [hd]
      obtain ⟨ck, hckk⟩ : ∃ ck, ck = checkOf (D.take 12) := ⟨_, rfl⟩
      obtain ⟨d12, hd12e⟩ : ∃ d, d = digOf D 12 := ⟨_, rfl⟩
      rw [← hckk] at hck hrd
      rw [← hd12e] at hb12 hd12 hrd
      have Hck := Lib.hid hck; have HRd := Lib.hid hrd
      clear hDm hg12 hckk hd12e hck hrd
      clear hd
      go_upto_region 6 with fail
      refine wp_region_flow [(true, 0), (true, 1), (true, 2), (true, 3), (true, 4), (true, 5), (false, 6), (true, 7)] (fun _ => false) (by kernel_rfl) (by kernel_rfl) (by kernel_rfl) (by kernel_rfl) ?_
      iterate 1
        apply Flow.mv _ rfl
        · intro K' hK'
          simp only [Act.put, Act.eval, List.setIfInBounds_toArray, List.set_cons_zero, List.set_cons_succ, arr_getD, List.getD_cons_zero, List.getD_cons_succ]
          exact hK'
      iterate 1
        apply Flow.calm2 _ _ rfl rfl
        · intro w' hb' K' hK'
          obtain ⟨hc', hf'⟩ := hb'.rule
          go_simp
          try go_ints
          exact hK'
        · intro K' hK'
          simp only [Act.put, List.setIfInBounds_toArray, List.set_cons_zero, List.set_cons_succ]
          exact hK'
      iterate 1
        apply Flow.calm2 _ _ rfl rfl
        · intro w' hb' K' hK'
          obtain ⟨hc', hf'⟩ := hb'.rule
          go_simp
          try go_ints
          exact hK'
        · intro K' hK'
          simp only [Act.put, List.setIfInBounds_toArray, List.set_cons_zero, List.set_cons_succ]
          exact hK'
      iterate 1
        apply Flow.calm2 _ _ rfl rfl
        · intro w' hb' K' hK'
          obtain ⟨hc', hf'⟩ := hb'.rule
          go_simp
          try go_ints
          exact hK'
        · intro K' hK'
          simp only [Act.put, List.setIfInBounds_toArray, List.set_cons_zero, List.set_cons_succ]
          exact hK'
      iterate 1
        apply Flow.mv _ rfl
        · intro K' hK'
          simp only [Act.put, Act.eval, List.setIfInBounds_toArray, List.set_cons_zero, List.set_cons_succ, arr_getD, List.getD_cons_zero, List.getD_cons_succ]
          exact hK'
      iterate 1
        apply Flow.calm2 _ _ rfl rfl
        · intro w' hb' K' hK'
          obtain ⟨hc', hf'⟩ := hb'.rule
          go_simp
          try go_ints
          exact hK'
        · intro K' hK'
          simp only [Act.put, List.setIfInBounds_toArray, List.set_cons_zero, List.set_cons_succ]
          exact hK'
      apply Flow.move rfl
      go_wp2_with fail
      refine (Hck.out _).mono ?_
      rintro e w8 ⟨rfl, HB1⟩
      go_wp2_with fail
      refine ⟨fun _ => (by first | exact HB1 | exact Bl.refl _), ?_⟩
      iterate 1
        apply Flow.calm2 _ _ rfl rfl
        · intro w' hb' K' hK'
          obtain ⟨hc', hf'⟩ := hb'.rule
          go_simp
          try go_ints
          exact hK'
        · intro K' hK'
          simp only [Act.put, List.setIfInBounds_toArray, List.set_cons_zero, List.set_cons_succ]
          exact hK'
      refine Flow.done ?_
      have HB8 := Lib.hid ((hb23.trans hb4).trans (Bl.ofDrew HB1))
      clear HB1 Hck
      by_cases hq : ck = d12
      · have HR2 := Lib.hid (HRd.out.trans (if_pos hq))
        have HF := Lib.hid (show eitherG readE m = (D, 0) by rw [HE.out, HR2.out])
        subst hq
        clear HRd
        go_wp2_with fail
        exact bodyPost_ret (v := .tuple #[.string ⟨D.toArray⟩, .int .i64 0]) (by simp [results, Tryd.results60, go_sem]) rfl ⟨by rw [HF.out], HB8.out⟩
      · have HR2 := Lib.hid (HRd.out.trans (if_neg hq))
        have HF := Lib.hid (show eitherG readE m = ([], 14) by rw [HE.out, HR2.out])
        have hq' : (d12 : Int) ≠ (ck : Int) := by omega
        clear HRd hq
        go_wp2_with fail
        exact bodyPost_ret (v := .tuple #[.string ⟨#[]⟩, .int .i64 14]) (by simp [results, Tryd.results60, go_sem]) rfl ⟨by rw [HF.out], HB8.out⟩
    | none =>
      have hg : digR r = ([], false) := digR_none hd
      rw [hg] at Hr
      have HF := Lib.hid (HE.out.trans (read_none hd))
      clear hg hd
      go_wp2_with fail
      refine Hr.out.mono ?_
      rintro e w4 ⟨rfl, hb4⟩
      clear k3 Hr
      go_wp2_with fail
      rw [rounds_succ]
      go_wp2_with fail
      exact bodyPost_ret (v := .tuple #[.string ⟨#[]⟩, .int .i64 2]) (by simp [results, Tryd.results60, go_sem]) rfl ⟨by rw [HF.out], hb23.trans hb4⟩

end Go.Proofs.YtjelhdpcaileiaaDoor


/-! The law EANsMatch answers true. -/
namespace Go.Proofs.YtjelhdpcaileiaaDoor
open Go.RowKit Go.Shelf

theorem eanPart_bound {l : List UInt8} (hm : madeOf l digits10 = true) : (eanOf l).length ≤ 9223372036854775807 := by
  have h := eanPart_len l (digOf_le hm) 12
  show (eanPart l 12 ++ endE).length ≤ _
  rw [List.length_append]
  have : endE.length = 3 := rfl
  omega
set_option maxRecDepth 100000 in
set_option maxHeartbeats 8000000 in
theorem lawEans_any (l q : List UInt8) (w : World) (hl : l.length ≤ 9223372036854775807) (hql : q.length ≤ 9223372036854775807) (hT : SpOk w) :
    Calls Tryd.prog 7 #[.string ⟨l.toArray⟩, .string ⟨q.toArray⟩] w fun e w' => e = .returned (.bool true) ∧ Bl w w' := by
  have HT := Lib.hid hT
  have hsz : (⟨l.toArray⟩ : ByteArray).size = l.length := Lib.size_mk l
  have hcd := checkDigit_any l w hl
  have hd12 := fun wx => digitsR_any l 12 wx hl (by decide)
  have hd13 := fun wx => digitsR_any l 13 wx hl (by decide)
  have hean := fun wx => ean_any l wx hl
  have Hr1 := Lib.hid (fun wx => readEANx_any q wx hql)
  have Hr2 := Lib.hid (fun wx h => readEANOf_any q wx hql h)
  obtain ⟨ra, hra⟩ : ∃ x, x = (eitherG readE q).1 := ⟨_, rfl⟩
  obtain ⟨rb, hrb⟩ : ∃ x, x = (eitherG readE q).2 := ⟨_, rfl⟩
  rw [← hra, ← hrb] at Hr1 Hr2
  clear hra hrb hT
  have h12 : digB l 12 = true → l.length = 12 ∧ madeOf l digits10 = true := fun h => by
    unfold digB at h
    simpa using h
  have h13 : digB l 13 = true → l.length = 13 ∧ madeOf l digits10 = true := fun h => by
    unfold digB at h
    simpa using h
  cases hd : digB l 12 with
  | true =>
    obtain ⟨hlen, hmd⟩ := h12 hd
    have hdx : digB l 13 = false := by
      cases hx : digB l 13 with
      | false => rfl
      | true => have := (h13 hx).1; omega
    have hee : eanErr l = 2 := by unfold eanErr; rw [hdx]; rfl
    have hev : eanVal l = [] := by unfold eanVal; rw [hee]; rfl
    have Hco := Lib.hid (fun wx => checkOfR_any l wx hlen hmd)
    simp only [hd, if_true] at hcd hd12
    simp only [hdx] at hd13
    simp only [hee, hev] at hean
    obtain ⟨ck, hck⟩ : ∃ c, c = checkOf l := ⟨_, rfl⟩
    rw [← hck] at hcd Hco
    have Hcd := Lib.hid hcd; have Hd12 := Lib.hid hd12; have Hd13 := Lib.hid hd13; have Hean := Lib.hid hean
    clear hcd hd12 hd13 hean hd hdx hee hev hlen hmd hck h12 h13
    go_enter Tryd.func7, Tryd.ntmps7
    go_wp2_with fail
    refine Hcd.out.mono ?_
    rintro e w1 ⟨rfl, hb1⟩
    go_wp2_with fail
    refine (Hd12.out _).mono ?_
    rintro e w2 ⟨rfl, hb2⟩
    have HB2 := Lib.hid (hb1.trans hb2)
    clear hb1 hb2 Hcd Hd12
    go_wp2_with fail
    refine (when_any _ _ _).mono ?_
    rintro e w' ⟨rfl, hw⟩
    subst hw
    rw [show whenI false 2 = 0 from rfl]
    go_wp2_with fail
    refine (bars_any _).mono ?_
    rintro e w3 ⟨rfl, hb3⟩
    have HB3 := Lib.hid (HB2.out.trans hb3)
    clear hb3 HB2
    go_wp2_with fail
    refine (Hco.out _).mono ?_
    rintro e w4 ⟨rfl, hb4⟩
    have HB4 := Lib.hid (HB3.out.trans hb4)
    clear hb4 HB3 Hco
    go_wp2_with fail
    refine (Hean.out _).mono ?_
    rintro e w5 ⟨rfl, hb5⟩
    have HB5 := Lib.hid (HB4.out.trans hb5)
    clear hb5 HB4 Hean
    go_wp2_with fail
    refine (Hd13.out _).mono ?_
    rintro e w6 ⟨rfl, hb6⟩
    have HB6 := Lib.hid (HB5.out.trans hb6)
    clear hb6 HB5 Hd13
    go_wp2_with fail
    refine (when_any _ _ _).mono ?_
    rintro e w' ⟨rfl, hw⟩
    subst hw
    rw [show whenI true 2 = 2 from rfl]
    go_wp2_with fail
    refine (Hr1.out _).mono ?_
    rintro e w10 ⟨rfl, hb10⟩
    have HB10 := Lib.hid (HB6.out.trans hb10)
    clear hb10 Hr1
    go_wp2_with fail
    refine (Hr2.out _ (HT.out.bl HB10.out)).mono ?_
    rintro e w11 ⟨rfl, hb11⟩
    have HB11 := Lib.hid (HB10.out.trans hb11)
    clear hb11 Hr2
    go_wp2_with fail
    go_ret
    exact ⟨by simp, HB11.out⟩
  | false =>
    simp only [hd] at hcd hd12
    rw [if_neg (by decide), if_neg (by decide)] at hcd
    cases hd3 : digB l 13 with
    | false =>
      have hee : eanErr l = 2 := by unfold eanErr; rw [hd3]; rfl
      have hev : eanVal l = [] := by unfold eanVal; rw [hee]; rfl
      simp only [hd3] at hd13
      simp only [hee, hev] at hean
      have Hcd := Lib.hid hcd; have Hd12 := Lib.hid hd12; have Hd13 := Lib.hid hd13; have Hean := Lib.hid hean
      clear hcd hd12 hd13 hean hd hd3 hee hev h12 h13
      go_enter Tryd.func7, Tryd.ntmps7
      go_wp2_with fail
      refine Hcd.out.mono ?_
      rintro e w1 ⟨rfl, hb1⟩
      go_wp2_with fail
      refine (Hd12.out _).mono ?_
      rintro e w2 ⟨rfl, hb2⟩
      have HB2 := Lib.hid (hb1.trans hb2)
      clear hb1 hb2 Hcd Hd12
      go_wp2_with fail
      refine (when_any _ _ _).mono ?_
      rintro e w' ⟨rfl, hw⟩
      subst hw
      rw [show whenI true 2 = 2 from rfl]
      go_wp2_with fail
      refine (bars_any _).mono ?_
      rintro e w3 ⟨rfl, hb3⟩
      have HB3 := Lib.hid (HB2.out.trans hb3)
      clear hb3 HB2
      go_wp2_with fail
      refine (Hean.out _).mono ?_
      rintro e w5 ⟨rfl, hb5⟩
      have HB5 := Lib.hid (HB3.out.trans hb5)
      clear hb5 HB3 Hean
      go_wp2_with fail
      refine (Hd13.out _).mono ?_
      rintro e w6 ⟨rfl, hb6⟩
      have HB6 := Lib.hid (HB5.out.trans hb6)
      clear hb6 HB5 Hd13
      go_wp2_with fail
      refine (when_any _ _ _).mono ?_
      rintro e w' ⟨rfl, hw⟩
      subst hw
      rw [show whenI true 2 = 2 from rfl]
      go_wp2_with fail
      refine (Hr1.out _).mono ?_
      rintro e w10 ⟨rfl, hb10⟩
      have HB10 := Lib.hid (HB6.out.trans hb10)
      clear hb10 Hr1
      go_wp2_with fail
      refine (Hr2.out _ (HT.out.bl HB10.out)).mono ?_
      rintro e w11 ⟨rfl, hb11⟩
      have HB11 := Lib.hid (HB10.out.trans hb11)
      clear hb11 Hr2
      go_wp2_with fail
      go_ret
      exact ⟨by simp, HB11.out⟩
    | true =>
      obtain ⟨hlen, hmd⟩ := h13 hd3
      have hlenI : (l.length : Int) = 13 := by omega
      have hee : eanErr l = if checkOf (l.take 12) = digOf l 12 then 0 else 14 := by unfold eanErr; rw [hd3]; rfl
      have Hco := Lib.hid (fun wx => checkOfR_any (l.take 12) wx (by rw [List.length_take]; omega) (made_take hmd 12))
      have hex12 : (⟨l.toArray⟩ : ByteArray).extract 0 12 = ⟨(l.take 12).toArray⟩ := slice_ab l 0 12
      obtain ⟨b12, hg12, hb12, hd9⟩ := digit_byte hmd (i := 12) (by omega)
      obtain ⟨k1, k2⟩ := bytes_at hg12
      have hread := ean_read l hlen hmd
      have hbd := eanPart_bound hmd
      have Heo := Lib.hid (fun wx h => eanOf_any l wx hlen hmd h)
      obtain ⟨ck, hckk⟩ : ∃ ck, ck = checkOf (l.take 12) := ⟨_, rfl⟩
      obtain ⟨d12, hd12e⟩ : ∃ d, d = digOf l 12 := ⟨_, rfl⟩
      rw [← hckk] at Hco hee hread
      rw [← hd12e] at hb12 hd9 hee hread
      simp only [hd3] at hd13
      have Hcd := Lib.hid hcd; have Hd12 := Lib.hid hd12; have Hd13 := Lib.hid hd13; have HRead := Lib.hid hread
      by_cases hq : ck = d12
      · rw [if_pos hq] at hee
        have hev : eanVal l = eanOf l := by unfold eanVal; rw [hee]; rfl
        simp only [hee, hev] at hean
        obtain ⟨m, hm⟩ : ∃ m, m = eanOf l := ⟨_, rfl⟩
        have HRd := Lib.hid (hread hq)
        rw [← hm] at hean Heo hbd HRd
        have hrb : m.reverse.length ≤ 9223372036854775807 := by rw [List.length_reverse]; exact hbd
        have Hm1 := Lib.hid (fun wx => show Calls Tryd.prog 58 #[.string ⟨m.toArray⟩] wx fun e w' => e = .returned (.tuple #[.string ⟨l.toArray⟩, .int .i64 0]) ∧ Bl wx w' from by have h := readEANx_any m wx hbd; rw [show eitherG readE m = (l, 0) from HRd.out.1] at h; exact h)
        have Hm2 := Lib.hid (fun wx => show Calls Tryd.prog 58 #[.string ⟨m.reverse.toArray⟩] wx fun e w' => e = .returned (.tuple #[.string ⟨l.toArray⟩, .int .i64 0]) ∧ Bl wx w' from by have h := readEANx_any m.reverse wx hrb; rw [show eitherG readE m.reverse = (l, 0) from HRd.out.2] at h; exact h)
        have hfl := fun wx => flip_any m wx hbd
        unfold FlipRes at hfl
        obtain ⟨r, hr⟩ : ∃ r, r = m.reverse := ⟨_, rfl⟩
        rw [← hr] at Hm2 hfl
        have Hfl := Lib.hid hfl; have Hean := Lib.hid hean
        subst hq
        clear hcd hd12 hd13 hean hd hd3 hee hev h12 h13 hlen hmd hread hbd hrb hfl hm hr hg12 hckk hd12e HRd HRead
        go_enter Tryd.func7, Tryd.ntmps7
        go_wp2_with fail
        refine Hcd.out.mono ?_
        rintro e w1 ⟨rfl, hb1⟩
        go_wp2_with fail
        refine (Hd12.out _).mono ?_
        rintro e w2 ⟨rfl, hb2⟩
        have HB2 := Lib.hid (hb1.trans hb2)
        clear hb1 hb2 Hcd Hd12
        go_wp2_with fail
        refine (when_any _ _ _).mono ?_
        rintro e w' ⟨rfl, hw⟩
        subst hw
        rw [show whenI true 2 = 2 from rfl]
        go_wp2_with fail
        refine (bars_any _).mono ?_
        rintro e w3 ⟨rfl, hb3⟩
        have HB3 := Lib.hid (HB2.out.trans hb3)
        clear hb3 HB2
        go_wp2_with fail
        refine (Hean.out _).mono ?_
        rintro e w5 ⟨rfl, hb5⟩
        have HB5 := Lib.hid (HB3.out.trans hb5)
        clear hb5 HB3 Hean
        go_wp2_with fail
        refine (Hd13.out _).mono ?_
        rintro e w6 ⟨rfl, hb6⟩
        have HB6 := Lib.hid (HB5.out.trans hb6)
        clear hb6 HB5 Hd13
        go_wp2_with fail
        refine (when_any _ _ _).mono ?_
        rintro e w' ⟨rfl, hw⟩
        subst hw
        rw [show whenI false 2 = 0 from rfl]
        go_upto_region 8 with fail
        refine wp_region_flow [(true, 0), (true, 1), (true, 2), (true, 3), (true, 4), (true, 5), (false, 6), (true, 7), (false, 8), (true, 9)] (fun _ => false) (by kernel_rfl) (by kernel_rfl) (by kernel_rfl) (by kernel_rfl) ?_
        iterate 1
          apply Flow.mv _ rfl
          · intro K' hK'
            simp only [Act.put, Act.eval, List.setIfInBounds_toArray, List.set_cons_zero, List.set_cons_succ, arr_getD, List.getD_cons_zero]
            exact hK'
        iterate 1
          apply Flow.calm2 _ _ rfl rfl
          · intro w' hb' K' hK'
            obtain ⟨hc', hf'⟩ := hb'.rule
            go_simp
            try go_ints
            exact hK'
          · intro K' hK'
            simp only [Act.put, List.setIfInBounds_toArray, List.set_cons_zero, List.set_cons_succ]
            exact hK'
        iterate 1
          apply Flow.calm2 _ _ rfl rfl
          · intro w' hb' K' hK'
            obtain ⟨hc', hf'⟩ := hb'.rule
            go_simp
            try go_ints
            exact hK'
          · intro K' hK'
            simp only [Act.put, List.setIfInBounds_toArray, List.set_cons_zero, List.set_cons_succ]
            exact hK'
        iterate 1
          apply Flow.calm2 _ _ rfl rfl
          · intro w' hb' K' hK'
            obtain ⟨hc', hf'⟩ := hb'.rule
            go_simp
            try go_ints
            exact hK'
          · intro K' hK'
            simp only [Act.put, List.setIfInBounds_toArray, List.set_cons_zero, List.set_cons_succ]
            exact hK'
        iterate 1
          apply Flow.mv _ rfl
          · intro K' hK'
            simp only [Act.put, Act.eval, List.setIfInBounds_toArray, List.set_cons_zero, List.set_cons_succ, arr_getD, List.getD_cons_zero]
            exact hK'
        iterate 1
          apply Flow.calm2 _ _ rfl rfl
          · intro w' hb' K' hK'
            obtain ⟨hc', hf'⟩ := hb'.rule
            go_simp
            try go_ints
            exact hK'
          · intro K' hK'
            simp only [Act.put, List.setIfInBounds_toArray, List.set_cons_zero, List.set_cons_succ]
            exact hK'
        apply Flow.move rfl
        go_wp2_with fail
        refine (Hco.out _).mono ?_
        rintro e w8 ⟨rfl, HB1⟩
        go_wp2_with fail
        refine ⟨fun _ => (by first | exact HB1 | exact Bl.refl _), ?_⟩
        iterate 1
          apply Flow.calm2 _ _ rfl rfl
          · intro w' hb' K' hK'
            obtain ⟨hc', hf'⟩ := hb'.rule
            go_simp
            try go_ints
            exact hK'
          · intro K' hK'
            simp only [Act.put, List.setIfInBounds_toArray, List.set_cons_zero, List.set_cons_succ]
            exact hK'
        apply Flow.move rfl
        go_wp2_with fail
        refine (when_any _ _ _).mono ?_
        rintro e w9 ⟨rfl, hw9⟩
        subst hw9
        rw [show whenI ((48 : Int) + (ck : Int) - 48 != (ck : Int)) 14 = 0 by rw [show (48 : Int) + (ck : Int) - 48 = (ck : Int) by omega]; unfold whenI; simp]
        have HB2 := HB1
        go_wp2_with fail
        refine ⟨fun _ => (by first | exact HB2 | exact Bl.refl _), ?_⟩
        iterate 1
          apply Flow.asg _ rfl
          · intro K' hK'
            simp only [Act.put, Act.eval, List.setIfInBounds_toArray, List.set_cons_zero, List.set_cons_succ, arr_getD, List.getD_cons_zero, List.getD_cons_succ]
            exact hK'
        refine Flow.done ?_
        have HB8 := Lib.hid (HB6.out.trans (Bl.ofDrew HB1))
        clear HB1 HB2 HB6 Hco
        go_wp2_with fail
        refine (Hfl.out _).mono ?_
        rintro e w12 ⟨rfl, hb12⟩
        have HB12 := Lib.hid (HB8.out.trans hb12)
        clear hb12 HB8 Hfl
        go_wp2_with fail
        have hbk := Blk.new w12 9 #[.string ⟨m.toArray⟩, .string ⟨r.toArray⟩]
        have hb13 : Bl w (w12.alloc (.cells #[.string ⟨m.toArray⟩, .string ⟨r.toArray⟩] 9)) := HB12.out.alloc _
        obtain ⟨kb, hkb⟩ : ∃ k, k = w12.heap.size := ⟨_, rfl⟩
        rw [← hkb] at hbk ⊢
        generalize w12.alloc (.cells #[.string ⟨m.toArray⟩, .string ⟨r.toArray⟩] 9) = w13 at hbk hb13 ⊢
        have kc := hbk.all2
        have HBk := Lib.hid hbk; have HB13 := Lib.hid hb13
        clear hkb hb13 HB12
        refine wp_loop_rounds 3 ?_
        rw [rounds_succ]
        go_wp2_with fail
        refine (Hm1.out _).mono ?_
        rintro e w14 ⟨rfl, hb14⟩
        go_wp2_with fail
        refine (Heo.out _ (HT.out.bl (HB13.out.trans hb14))).mono ?_
        rintro e w15 ⟨rfl, hb15⟩
        have HB15 := Lib.hid (hb14.trans hb15)
        clear hb14 hb15 kc
        have kc := (HBk.out.bl HB15.out).all2
        go_wp2_with fail
        rw [rounds_succ]
        go_wp2_with fail
        refine (Hm2.out _).mono ?_
        rintro e w16 ⟨rfl, hb16⟩
        have HB16 := Lib.hid (HB13.out.trans (HB15.out.trans hb16))
        clear hb16 kc
        go_wp2_with fail
        refine (Heo.out _ (HT.out.bl HB16.out)).mono ?_
        rintro e w17 ⟨rfl, hb17⟩
        have HB17 := Lib.hid (HB16.out.trans hb17)
        clear hb17
        go_wp2_with fail
        rw [rounds_succ]
        go_wp2_with fail
        refine (Hr1.out _).mono ?_
        rintro e w10 ⟨rfl, hb10⟩
        have HB10 := Lib.hid (HB17.out.trans hb10)
        clear hb10 Hr1
        go_wp2_with fail
        refine (Hr2.out _ (HT.out.bl HB10.out)).mono ?_
        rintro e w11 ⟨rfl, hb11⟩
        have HB11 := Lib.hid (HB10.out.trans hb11)
        clear hb11 Hr2
        go_wp2_with fail
        go_ret
        exact ⟨by simp, HB11.out⟩
      · rw [if_neg hq] at hee
        have hev : eanVal l = [] := by unfold eanVal; rw [hee]; rfl
        simp only [hee, hev] at hean
        have Hean := Lib.hid hean
        have hq' : ((d12 : Int) != (ck : Int)) = true := by rw [bne_iff_ne]; omega
        clear hcd hd12 hd13 hean hd hd3 hee hev h12 h13 hlen hmd hread hbd hg12 hckk hd12e HRead Heo hq
        go_enter Tryd.func7, Tryd.ntmps7
        go_wp2_with fail
        refine Hcd.out.mono ?_
        rintro e w1 ⟨rfl, hb1⟩
        go_wp2_with fail
        refine (Hd12.out _).mono ?_
        rintro e w2 ⟨rfl, hb2⟩
        have HB2 := Lib.hid (hb1.trans hb2)
        clear hb1 hb2 Hcd Hd12
        go_wp2_with fail
        refine (when_any _ _ _).mono ?_
        rintro e w' ⟨rfl, hw⟩
        subst hw
        rw [show whenI true 2 = 2 from rfl]
        go_wp2_with fail
        refine (bars_any _).mono ?_
        rintro e w3 ⟨rfl, hb3⟩
        have HB3 := Lib.hid (HB2.out.trans hb3)
        clear hb3 HB2
        go_wp2_with fail
        refine (Hean.out _).mono ?_
        rintro e w5 ⟨rfl, hb5⟩
        have HB5 := Lib.hid (HB3.out.trans hb5)
        clear hb5 HB3 Hean
        go_wp2_with fail
        refine (Hd13.out _).mono ?_
        rintro e w6 ⟨rfl, hb6⟩
        have HB6 := Lib.hid (HB5.out.trans hb6)
        clear hb6 HB5 Hd13
        go_wp2_with fail
        refine (when_any _ _ _).mono ?_
        rintro e w' ⟨rfl, hw⟩
        subst hw
        rw [show whenI false 2 = 0 from rfl]
        go_upto_region 8 with fail
        refine wp_region_flow [(true, 0), (true, 1), (true, 2), (true, 3), (true, 4), (true, 5), (false, 6), (true, 7), (false, 8), (true, 9)] (fun _ => false) (by kernel_rfl) (by kernel_rfl) (by kernel_rfl) (by kernel_rfl) ?_
        iterate 1
          apply Flow.mv _ rfl
          · intro K' hK'
            simp only [Act.put, Act.eval, List.setIfInBounds_toArray, List.set_cons_zero, List.set_cons_succ, arr_getD, List.getD_cons_zero]
            exact hK'
        iterate 1
          apply Flow.calm2 _ _ rfl rfl
          · intro w' hb' K' hK'
            obtain ⟨hc', hf'⟩ := hb'.rule
            go_simp
            try go_ints
            exact hK'
          · intro K' hK'
            simp only [Act.put, List.setIfInBounds_toArray, List.set_cons_zero, List.set_cons_succ]
            exact hK'
        iterate 1
          apply Flow.calm2 _ _ rfl rfl
          · intro w' hb' K' hK'
            obtain ⟨hc', hf'⟩ := hb'.rule
            go_simp
            try go_ints
            exact hK'
          · intro K' hK'
            simp only [Act.put, List.setIfInBounds_toArray, List.set_cons_zero, List.set_cons_succ]
            exact hK'
        iterate 1
          apply Flow.calm2 _ _ rfl rfl
          · intro w' hb' K' hK'
            obtain ⟨hc', hf'⟩ := hb'.rule
            go_simp
            try go_ints
            exact hK'
          · intro K' hK'
            simp only [Act.put, List.setIfInBounds_toArray, List.set_cons_zero, List.set_cons_succ]
            exact hK'
        iterate 1
          apply Flow.mv _ rfl
          · intro K' hK'
            simp only [Act.put, Act.eval, List.setIfInBounds_toArray, List.set_cons_zero, List.set_cons_succ, arr_getD, List.getD_cons_zero]
            exact hK'
        iterate 1
          apply Flow.calm2 _ _ rfl rfl
          · intro w' hb' K' hK'
            obtain ⟨hc', hf'⟩ := hb'.rule
            go_simp
            try go_ints
            exact hK'
          · intro K' hK'
            simp only [Act.put, List.setIfInBounds_toArray, List.set_cons_zero, List.set_cons_succ]
            exact hK'
        apply Flow.move rfl
        go_wp2_with fail
        refine (Hco.out _).mono ?_
        rintro e w8 ⟨rfl, HB1⟩
        go_wp2_with fail
        refine ⟨fun _ => (by first | exact HB1 | exact Bl.refl _), ?_⟩
        iterate 1
          apply Flow.calm2 _ _ rfl rfl
          · intro w' hb' K' hK'
            obtain ⟨hc', hf'⟩ := hb'.rule
            go_simp
            try go_ints
            exact hK'
          · intro K' hK'
            simp only [Act.put, List.setIfInBounds_toArray, List.set_cons_zero, List.set_cons_succ]
            exact hK'
        apply Flow.move rfl
        go_wp2_with fail
        refine (when_any _ _ _).mono ?_
        rintro e w9 ⟨rfl, hw9⟩
        subst hw9
        rw [show whenI ((48 : Int) + (d12 : Int) - 48 != (ck : Int)) 14 = 14 by rw [show (48 : Int) + (d12 : Int) - 48 = (d12 : Int) by omega, hq']; rfl]
        have HB2 := HB1
        go_wp2_with fail
        refine ⟨fun _ => (by first | exact HB2 | exact Bl.refl _), ?_⟩
        iterate 1
          apply Flow.asg _ rfl
          · intro K' hK'
            simp only [Act.put, Act.eval, List.setIfInBounds_toArray, List.set_cons_zero, List.set_cons_succ, arr_getD, List.getD_cons_zero, List.getD_cons_succ]
            exact hK'
        refine Flow.done ?_
        have HB8 := Lib.hid (HB6.out.trans (Bl.ofDrew HB1))
        clear HB1 HB2 HB6 Hco
        go_wp2_with fail
        refine (Hr1.out _).mono ?_
        rintro e w10 ⟨rfl, hb10⟩
        have HB10 := Lib.hid (HB8.out.trans hb10)
        clear hb10 Hr1
        go_wp2_with fail
        refine (Hr2.out _ (HT.out.bl HB10.out)).mono ?_
        rintro e w11 ⟨rfl, hb11⟩
        have HB11 := Lib.hid (HB10.out.trans hb11)
        clear hb11 Hr2
        go_wp2_with fail
        go_ret
        exact ⟨by simp, HB11.out⟩

end Go.Proofs.YtjelhdpcaileiaaDoor
