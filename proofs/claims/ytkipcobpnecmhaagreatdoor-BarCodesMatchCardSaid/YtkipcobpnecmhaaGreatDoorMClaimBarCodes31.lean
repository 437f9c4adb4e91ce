/- bedref2.digitsOf: the digits of modules. -/
import Derived.Test.YtkipcobpnecmhaaGreatDoorMClaimBarCodes5
import Derived.Test.YtkipcobpnecmhaaGreatDoorMClaimBarCodes30

namespace Go.Proofs.YtkipcobpnecmhaaGreatDoor
open Go.RowKit Go.Shelf

def strV (s : List UInt8) : Value := .string ⟨s.toArray⟩
theorem lookup_find {α β : Type} [BEq α] [LawfulBEq α] (x : α) : ∀ l : List (α × β), l.lookup x = (l.find? fun e => e.1 == x).map (·.2)
  | [] => rfl
  | (k, v) :: l => by
    rw [List.lookup, List.find?_cons]
    by_cases h : x = k
    · subst h
      simp
    · have h1 : (x == k) = false := by simpa using h
      have h2 : (k == x) = false := by simpa using fun e => h e.symm
      rw [h1]
      simp only [h2]
      exact lookup_find x l
theorem look_tab (x : List UInt8) : (tabE 10).lookup x = lookE x := lookup_find x (tabE 10)
theorem outOf_len {m : List UInt8} {n : Nat} {ps : List (UInt8 × List UInt8)} (h : partsE m n = some ps) : (outOf ps).length = n ∧ (rowOf ps).length = n := by
  have hl := parts_len h
  refine ⟨?_, by unfold rowOf; rw [List.length_map, hl]⟩
  have key : ∀ qs : List (UInt8 × List UInt8), (∀ p ∈ qs, p.2.length = 1) → (outOf qs).length = qs.length := by
    intro qs
    induction qs with
    | nil => intro _; rfl
    | cons q qs ih =>
      intro hq
      have e : outOf (q :: qs) = q.2 ++ outOf qs := by unfold outOf; rw [List.flatMap_cons]
      rw [e, List.length_append, hq q (List.mem_cons_self ..), ih fun p hp => hq p (List.mem_cons_of_mem _ hp), List.length_cons]
      omega
  rw [key ps fun p hp => ?_, hl]
  obtain ⟨i, hi, rfl⟩ := List.getElem_of_mem hp
  have hd := parts_at h i _ (List.getElem?_eq_getElem hi)
  obtain ⟨d, -, -, hn, -, -⟩ := dec_mem (k := ps[i].1) (n := ps[i].2) hd
  rw [hn]
  rfl
theorem parts_out {ps : List (UInt8 × List UInt8)} (k : UInt8) (n : List UInt8) : outOf (ps ++ [(k, n)]) = outOf ps ++ n ∧ rowOf (ps ++ [(k, n)]) = rowOf ps ++ [k] := by
  unfold outOf rowOf
  rw [List.flatMap_append, List.map_append]
  exact ⟨by simp, rfl⟩
theorem read_none {m : List UInt8} (h : digsE m = none) : readE m = ([], 2) := by unfold readE; rw [h]
theorem head_bad {m : List UInt8} (h : headOK m = false) : digsE m = none := by unfold digsE; rw [if_neg (by rw [h]; decide)]
theorem dec_beq (a b : List UInt8) : decide (a = b) = (a == b) := by rw [Bool.eq_iff_iff]; simp
theorem reads_heap {w w' : World} {g n : Nat} {xs : List Value} (h : Reads w 1 (some ⟨g, 0, none⟩) n xs) (hb : w'.heap[g]? = w.heap[g]?) : Reads w' 1 (some ⟨g, 0, none⟩) n xs :=
  ⟨h.1, fun hn => by
    obtain ⟨ad, e, hc⟩ := h.2 hn
    obtain rfl := Option.some.inj e
    refine ⟨_, rfl, fun j u hu => ?_⟩
    have h1 := hc j u hu
    rw [add_flat] at h1 ⊢
    unfold World.cell? at h1 ⊢
    rw [hb]
    exact h1⟩
theorem map_ne {w : World} {b g n : Nat} {xs : List Value} {es : Array MapEntry} {c : Nat} (hm : w.heap[b]? = some (.map es c)) (h : Reads w 1 (some ⟨g, 0, none⟩) n xs) (hn : 0 < n) : g ≠ b := fun e => by
  subst e
  obtain ⟨ad, u, e1, hu, hc⟩ := h.at_ hn
  obtain rfl := Option.some.inj e1
  rw [add_flat] at hc
  unfold World.cell? at hc
  rw [hm] at hc
  cases hc
set_option maxRecDepth 100000 in
/-- The text of one byte. -/
theorem one_byte (w : World) (g cap d : Nat) (hd : d < 10) (hc : w.cell? ⟨g, 0, none⟩ = some (.int .u8 (48 + (d : Int)))) :
    (convert 40 9 (.slice (some ⟨g, 0, none⟩) 1 cap)).run Tryz.prog w = .ok (.string ⟨[UInt8.ofNat (48 + d)].toArray⟩) w := by
  have h8 : ((UInt8.ofNat (48 + d)).toNat : Int) = 48 + (d : Int) := by
    have : ∀ d < 10, (UInt8.ofNat (48 + d)).toNat = 48 + d := by decide
    rw [this d hd]; omega
  exact run_convert_bytes_back (P := Tryz.prog) w 40 9 5 ⟨g, 0, none⟩ cap [UInt8.ofNat (48 + d)] Tryz.underlying40 Tryz.underlying5 Tryz.underlying9 (fun j hj => by
    have hj0 : j = 0 := by simp at hj; omega
    subst hj0
    show w.cell? ((⟨g, 0, none⟩ : Addr).add 0) = _
    rw [show (⟨g, 0, none⟩ : Addr).add 0 = ⟨g, 0, none⟩ by (unfold Addr.add; simp), hc]
    show _ = some (Value.int .u8 ((UInt8.ofNat (48 + d)).toNat : Int))
    rw [h8])

theorem byte_cell (W : World) (v : Value) : (W.alloc (.cells #[v] 5)).cell? ⟨W.heap.size, 0, none⟩ = some v := by
  have h := Blk.new W 5 #[v]
  obtain ⟨ad, e, hc⟩ := (h.reads 1 1 rfl).2 (by decide)
  obtain rfl := Option.some.inj e
  exact hc 0 _ rfl
theorem digB_take {l : List UInt8} (hlen : l.length = 13) (hm : madeOf l digits10 = true) : digB (l.take 12) 12 = true := by
  unfold digB
  rw [decide_eq_true (by rw [List.length_take]; omega)]
  unfold madeOf at hm ⊢
  rw [List.all_eq_true] at hm
  show ((l.take 12).all fun b => digits10.contains b) = true
  rw [List.all_eq_true]
  exact fun b hb => hm b (List.mem_of_mem_take hb)
theorem digs_ok {m : List UInt8} {ps : List (UInt8 × List UInt8)} {P R X : List UInt8} (hh : headOK m = true) (hp : partsE m 12 = some ps) (hP : P = outOf ps) (hR : R = rowOf ps) (hX : X = R.take 6) : digsE m = (firstAt X).map fun f => UInt8.ofNat (48 + f) :: P := by
  unfold digsE
  rw [if_pos hh, hX, hR, hP]
  simp only [hp]
def idxV (X : List UInt8) : Int := match firstAt X with | some k => (k : Int) | none => -1
theorem firstIdx_any (X : List UInt8) (g : Nat) (w : World) (hr : Reads w 1 (some ⟨g, 0, none⟩) firstC.length (strCells' firstC)) :
    Calls Tryz.prog 121 #[.slice (some ⟨g, 0, none⟩) firstC.length firstC.length, .string ⟨X.toArray⟩] w fun e w' => e = .returned (.int .i64 (idxV X)) ∧ w = w' :=
  indexRow_any g firstC X w hr (by decide)
set_option maxRecDepth 100000 in
set_option maxHeartbeats 8000000 in
theorem readEAN_any (m : List UInt8) (w : World) (hl : m.length ≤ 9223372036854775807) :
    Calls Tryz.prog 116 #[.string ⟨m.toArray⟩] w fun e w' => e = .returned (.tuple #[.string ⟨(readE m).1.toArray⟩, .int .i64 (readE m).2]) ∧ Bl w w' := by
  have Ht := Lib.hid (trim_any m [48, 49] w hl (by decide) (by
    intro j b h
    have : ∀ b ∈ ([48, 49] : List UInt8), b.toNat < 128 := by decide
    exact this b (List.mem_of_getElem? h)))
  have hsz : (⟨m.toArray⟩ : ByteArray).size = m.length := Lib.size_mk m
  go_enter Tryz.func116, Tryz.ntmps116
  by_cases h95 : m.length = 95
  · have hq95 : ((m.length : Int) == 95) = true := by rw [beq_iff_eq]; omega
    have hlI : (m.length : Int) = 95 := by omega
    cases hmd : madeOf m [48, 49] with
    | false =>
      have HR := Lib.hid (read_none (digs_made hmd))
      have htr : (Lib.trimS m [48, 49]).isEmpty = false := by rw [trim_made, hmd]
      clear hmd
      go_wp2_with fail
      refine Ht.out.mono ?_
      rintro e w1 ⟨rfl, hb1⟩
      go_wp2_with fail
      exact bodyPost_ret (v := .tuple #[.string ⟨#[]⟩, .int .i64 2]) (by simp [results, Tryz.results116, go_sem]) rfl ⟨by rw [HR.out], hb1⟩
    | true =>
      have htr : (Lib.trimS m [48, 49]).isEmpty = true := by rw [trim_made, hmd]
      have HMd := Lib.hid hmd
      clear hmd
      have hx3 : (⟨m.toArray⟩ : ByteArray).extract 0 3 = ⟨(m.take 3).toArray⟩ := slice_ab m 0 3
      have hx5 : (⟨m.toArray⟩ : ByteArray).extract 45 50 = ⟨((m.drop 45).take 5).toArray⟩ := slice_ab m 45 50
      have hx9 : (⟨m.toArray⟩ : ByteArray).extract 92 m.length = ⟨(m.drop 92).toArray⟩ := extract_drop m 92
      have hhead : headOK m = ((m.take 3 == endE) && (((m.drop 45).take 5 == midE) && (m.drop 92 == endE))) := by
        unfold headOK
        rw [decide_eq_true h95, Bool.true_and, dec_beq, dec_beq, dec_beq]
      obtain ⟨X3, hX3⟩ : ∃ X, X = m.take 3 := ⟨_, rfl⟩
      obtain ⟨X5, hX5⟩ : ∃ X, X = (m.drop 45).take 5 := ⟨_, rfl⟩
      obtain ⟨X9, hX9⟩ : ∃ X, X = m.drop 92 := ⟨_, rfl⟩
      rw [← hX3] at hx3 hhead
      rw [← hX5] at hx5 hhead
      rw [← hX9] at hx9 hhead
      unfold endE midE at hhead
      have HHd := Lib.hid hhead
      have HL := Lib.hid h95
      clear hhead hX3 hX5 hX9 h95
      cases h3 : (X3 == [49, 48, 49]) with
      | true =>
        cases h5 : (X5 == [48, 49, 48, 49, 48]) with
        | true =>
          cases h9 : (X9 == [49, 48, 49]) with
          | true =>
            have HH := Lib.hid (show headOK m = true by rw [HHd.out, h3, h5, h9]; rfl)
            clear HHd
            have hmm := @run_makeMap Tryz.prog
            have hmt := Tryz.underlying159
            go_wp2_with fail
            refine Ht.out.mono ?_
            rintro e w1 ⟨rfl, hb1⟩
            clear Ht
            go_wp2_with fail
            clear hmm
            obtain ⟨b0, hb0⟩ : ∃ b, b = w1.heap.size := ⟨_, rfl⟩
            have hm0 : MapL strV strV (w1.alloc (.map #[] 0)) b0 ([] : List (List UInt8 × List UInt8)) := by rw [hb0]; exact MapL.new _
            have hb2 : Bl w (w1.alloc (.map #[] 0)) := hb1.alloc _
            have HB0 := Lib.hid (show w.heap.size ≤ b0 by rw [hb0]; exact hb1.le)
            rw [← hb0]
            generalize w1.alloc (.map #[] 0) = w2 at hm0 hb2 ⊢
            clear hb0 hb1
            refine (leftCodes_any _).mono ?_
            rintro e w3 ⟨g, rfl, hr3, hb3⟩
            have hm3 := hm0.bl hb3
            have HGb := Lib.hid (show g ≠ b0 from by
              obtain ⟨es, c, h1⟩ := hm3.block
              exact map_ne h1 hr3 (by decide))
            have HSt := Lib.hid (And.intro (hb2.trans hb3) (And.intro hr3 hm3))
            clear hm0 hb2 hr3 hb3 hm3
            go_wp2_with fail
            go_loopw [47] (fun v wr => ∃ d : Nat, d ≤ 10 ∧ v = .int .i64 d ∧ Bl w wr ∧ Reads wr 1 (some ⟨g, 0, none⟩) leftC.length (strCells' leftC) ∧ MapL strV strV wr b0 (tabE d)) (fun v _ => 10 - (RowKit.intOf v).toNat)
            case atStart => exact ⟨0, Nat.zero_le _, rfl, HSt.out.1, HSt.out.2.1, HSt.out.2.2⟩
            case round =>
              rename World => wr
              obtain ⟨d, hd, rfl, hbr, hrr, hmr⟩ := hrel
              by_cases hlt : d < 10
              · obtain ⟨ad, ea, c0⟩ := str_at hrr (leftC_at d hlt)
                obtain rfl := Option.some.inj ea
                rw [add_flat] at c0
                have hL7 := codeOf_len 76 d hlt
                rw [codeOf_left] at hL7
                have hE7 := ex_len d hlt
                have hF7 : (exB (leftC.getD d [])).reverse.length = 7 := by rw [List.length_reverse]; exact hE7
                have hcE := fun wx => exchanged_any d hlt wx
                have hcF := fun wx => backwards_any (exB (leftC.getD d [])) wx (by omega)
                unfold FlipRes at hcF
                obtain ⟨N, hN⟩ : ∃ N, N = [UInt8.ofNat (48 + d)] := ⟨_, rfl⟩
                have hst : tabE (d + 1) = (71 :: (exB (leftC.getD d [])).reverse, N) :: (82 :: exB (leftC.getD d []), N) :: (76 :: leftC.getD d [], N) :: tabE d := by rw [hN]; rfl
                obtain ⟨E, hE⟩ : ∃ E, E = exB (leftC.getD d []) := ⟨_, rfl⟩
                obtain ⟨F, hF⟩ : ∃ F, F = E.reverse := ⟨_, rfl⟩
                rw [← hE] at hE7 hF7 hcE hcF hst
                rw [← hF] at hF7 hcF hst
                obtain ⟨L, hL⟩ : ∃ L, L = leftC.getD d [] := ⟨_, rfl⟩
                rw [← hL] at hL7 hcE c0 hst
                have HcE := Lib.hid hcE; have HcF := Lib.hid hcF; have HStep := Lib.hid hst
                have hsL : (⟨L.toArray⟩ : ByteArray).size = L.length := Lib.size_mk L
                have hsE : (⟨E.toArray⟩ : ByteArray).size = E.length := Lib.size_mk E
                have hsF : (⟨F.toArray⟩ : ByteArray).size = F.length := Lib.size_mk F
                have hoL : ¬ (9223372036854775807 < 1 + L.length) := by omega
                have hoE : ¬ (9223372036854775807 < 1 + E.length) := by omega
                have hoF : ¬ (9223372036854775807 < 1 + F.length) := by omega
                have hkL : (⟨#[76]⟩ : ByteArray) ++ ⟨L.toArray⟩ = ⟨(76 :: L).toArray⟩ := cat_two [76] L
                have hkE : (⟨#[82]⟩ : ByteArray) ++ ⟨E.toArray⟩ = ⟨(82 :: E).toArray⟩ := cat_two [82] E
                have hkF : (⟨#[71]⟩ : ByteArray) ++ ⟨F.toArray⟩ = ⟨(71 :: F).toArray⟩ := cat_two [71] F
                obtain ⟨KL, hKL⟩ : ∃ K, K = 76 :: L := ⟨_, rfl⟩
                obtain ⟨KE, hKE⟩ : ∃ K, K = 82 :: E := ⟨_, rfl⟩
                obtain ⟨KF, hKF⟩ : ∃ K, K = 71 :: F := ⟨_, rfl⟩
                rw [← hKL] at hkL
                rw [← hKE] at hkE
                rw [← hKF] at hkF
                have HK := Lib.hid (show tabE (d + 1) = (KF, N) :: (KE, N) :: (KL, N) :: tabE d by rw [HStep.out, hKL, hKE, hKF])
                have hcv0 := one_byte (wr.alloc (.cells #[.int .u8 (48 + (d : Int))] 5)) wr.heap.size 1 d hlt (by
                  have h := Blk.new wr 5 #[.int .u8 (48 + (d : Int))]
                  exact (h.reads 1 1 rfl).2 (by decide) |>.elim fun ad h => by
                    obtain ⟨e, hc⟩ := h
                    obtain rfl := Option.some.inj e
                    exact hc 0 _ rfl)
                rw [← hN] at hcv0
                have Hb6 := Lib.hid (Bl.alloc (Bl.refl wr) (.cells #[.int .u8 (48 + (d : Int))] 5))
                have HRd := Lib.hid (And.intro hbr (And.intro hrr hmr))
                clear hN hst hE hF hL hKL hKE hKF hcE hcF HStep hbr hrr hmr
                go_upto_region 7 with fail
                go_wp2_with fail
                generalize wr.alloc (.cells #[.int .u8 (48 + (d : Int))] 5) = w6 at Hb6 ⊢
                refine (HcE.out _).mono ?_
                rintro e w7 ⟨rfl, hb7⟩
                go_wp2_with fail
                refine (HcE.out _).mono ?_
                rintro e w8 ⟨rfl, hb8⟩
                go_wp2_with fail
                refine (HcF.out _).mono ?_
                rintro e w9 ⟨rfl, hb9⟩
                have hb69 := Bl.trans (Bl.trans (Bl.trans Hb6.out hb7) hb8) hb9
                have hm9 := HRd.out.2.2.bl hb69
                obtain ⟨w10, hu1, hm10, ho10⟩ := hm9.update (string_kind (P := Tryz.prog) Tryz.underlying9) hmt KL N
                obtain ⟨w11, hu2, hm11, ho11⟩ := hm10.update (string_kind (P := Tryz.prog) Tryz.underlying9) hmt KE N
                obtain ⟨w12, hu3, hm12, ho12⟩ := hm11.update (string_kind (P := Tryz.prog) Tryz.underlying9) hmt KF N
                have hu1' : (Instr.mapUpdate 159 (.map (some b0)) (.string ⟨KL.toArray⟩) (.string ⟨N.toArray⟩)).run Tryz.prog w9 = .ok () w10 := hu1
                have hu2' : (Instr.mapUpdate 159 (.map (some b0)) (.string ⟨KE.toArray⟩) (.string ⟨N.toArray⟩)).run Tryz.prog w10 = .ok () w11 := hu2
                have hu3' : (Instr.mapUpdate 159 (.map (some b0)) (.string ⟨KF.toArray⟩) (.string ⟨N.toArray⟩)).run Tryz.prog w11 = .ok () w12 := hu3
                rw [← HK.out] at hm12
                have HM12 := Lib.hid hm12
                have HB12 := Lib.hid (ho12.2.2 w (ho11.2.2 w (ho10.2.2 w (HRd.out.1.trans hb69) HB0.out) HB0.out) HB0.out)
                have HR12 := Lib.hid (reads_heap (reads_heap (reads_heap (HRd.out.2.1.bl hb69) (ho10.1 g HGb.out)) (ho11.1 g HGb.out)) (ho12.1 g HGb.out))
                clear hu1 hu2 hu3 hm9 hm10 hm11 hm12 ho10 ho11 ho12 hb69 hb7 hb8 hb9 Hb6 HcE HcF HRd HK
                go_wp2_with fail
                exact ⟨⟨d + 1, by omega, by go_num, HB12.out, HR12.out, HM12.out⟩, by simp [RowKit.intOf] <;> omega⟩
              · obtain rfl : d = 10 := by omega
                have HM := Lib.hid hmr; have HBr := Lib.hid hbr
                clear hmr hbr hrr
                go_wp2_with fail
                have HS0 := Lib.hid (And.intro HBr.out HM.out)
                go_loopw [8, 9, 73] (fun s8 s9 s73 wx => ∃ (i : Nat) (ps : List (UInt8 × List UInt8)), i ≤ 12 ∧ s73 = .int .i64 (i : Int) ∧ partsE m i = some ps ∧ s8 = .string ⟨(outOf ps).toArray⟩ ∧ s9 = .string ⟨(rowOf ps).toArray⟩ ∧ Bl wr wx) (fun _ _ v _ => 12 - (RowKit.intOf v).toNat)
                case atStart => exact ⟨0, [], Nat.zero_le _, rfl, rfl, rfl, rfl, Bl.refl _⟩
                case round =>
                  rename World => wx
                  obtain ⟨i, ps, hi, rfl, hps, rfl, rfl, hbx⟩ := hrel
                  obtain ⟨hol, hrl⟩ := outOf_len hps
                  by_cases hlt : i < 12
                  · have HPs := Lib.hid hps; have HBx := Lib.hid hbx
                    have hi12 : (i : Int) < 12 := by omega
                    have hdec : partsE m (i + 1) = (match dec1 i (gAt m i) with | none => none | some p => some (ps ++ [p])) := by
                      show (match partsE m i with | none => none | some ps => match dec1 i (gAt m i) with | none => none | some p => some (ps ++ [p])) = _
                      rw [hps]
                    have HDec := Lib.hid hdec
                    obtain ⟨P, hP⟩ : ∃ P, P = outOf ps := ⟨_, rfl⟩
                    obtain ⟨R, hRw⟩ : ∃ P, P = rowOf ps := ⟨_, rfl⟩
                    rw [← hP] at hol ⊢
                    rw [← hRw] at hrl ⊢
                    have HP := Lib.hid hP; have HRw := Lib.hid hRw
                    have hsP : (⟨P.toArray⟩ : ByteArray).size = P.length := Lib.size_mk P
                    have hsR : (⟨R.toArray⟩ : ByteArray).size = R.length := Lib.size_mk R
                    clear hps hbx hdec hP hRw
                    by_cases h6 : i < 6
                    · have h6I : (i : Int) < 6 := by omega
                      go_upto_region 20 with fail
                      obtain ⟨a, ha⟩ : ∃ a : Nat, a = gFrom i := ⟨_, rfl⟩
                      have hai : (3 : Int) + 7 * (i : Int) = (a : Int) := by rw [ha]; unfold gFrom; rw [if_neg (by omega)]; omega
                      have ha7 : (a : Int) + 7 ≤ 95 := by omega
                      rw [hai]
                      obtain ⟨s, hs⟩ : ∃ s, s = gAt m i := ⟨_, rfl⟩
                      have hex : (⟨m.toArray⟩ : ByteArray).extract a (a + 7) = ⟨s.toArray⟩ := by
                        rw [slice_ab, hs, show a + 7 - a = 7 by omega]
                        unfold gAt
                        rw [ha]
                      have hs7 : s.length = 7 := by
                        rw [hs]
                        unfold gAt
                        rw [List.length_take, List.length_drop, ← ha, HL.out]
                        omega
                      have hss : (⟨s.toArray⟩ : ByteArray).size = s.length := Lib.size_mk s
                      have hos : ¬ (9223372036854775807 < 1 + s.length) := by omega
                      have hoR : ¬ (9223372036854775807 < R.length + 1) := by omega
                      rw [← hs] at HDec
                      have HSg := Lib.hid hs
                      clear hai ha hs
                      have hbk := Blk.new wx 9 #[.string ⟨#[76]⟩, .string ⟨#[71]⟩]
                      have hb5 : Bl wr (wx.alloc (.cells #[.string ⟨#[76]⟩, .string ⟨#[71]⟩] 9)) := Bl.alloc HBx.out _
                      have hkc := hbk.all2
                      obtain ⟨kb, hkb⟩ : ∃ k, k = wx.heap.size := ⟨_, rfl⟩
                      rw [← hkb] at hkc ⊢
                      generalize wx.alloc (.cells #[.string ⟨#[76]⟩, .string ⟨#[71]⟩] 9) = w5 at hkc hb5 ⊢
                      have HB5 := Lib.hid hb5
                      have hkL : (⟨#[76]⟩ : ByteArray) ++ ⟨s.toArray⟩ = ⟨(76 :: s).toArray⟩ := cat_two [76] s
                      have hlL0 := (HM.out.bl hb5).lookup2 (string_kind (P := Tryz.prog) Tryz.underlying9) hmt (Tryz.zeroValue9 w5) (76 :: s)
                      rw [look_tab] at hlL0
                      obtain ⟨KL, hKL⟩ : ∃ K, K = 76 :: s := ⟨_, rfl⟩
                      have hkG : (⟨#[71]⟩ : ByteArray) ++ ⟨s.toArray⟩ = ⟨(71 :: s).toArray⟩ := cat_two [71] s
                      have hlG0 := (HM.out.bl hb5).lookup2 (string_kind (P := Tryz.prog) Tryz.underlying9) hmt (Tryz.zeroValue9 w5) (71 :: s)
                      rw [look_tab] at hlG0
                      obtain ⟨KG, hKG⟩ : ∃ K, K = 71 :: s := ⟨_, rfl⟩
                      rw [← hKL] at hkL
                      rw [← hKG] at hkG
                      cases hL : lookE (76 :: s) with
                      | some n =>
                        have hG := look_one hL
                        have hlL : (Instr.lookup 159 (.map (some b0)) (.string ⟨KL.toArray⟩) true).run Tryz.prog w5 = .ok (.tuple #[.string ⟨n.toArray⟩, .bool true]) w5 := by rw [hKL]; rw [hL] at hlL0; exact hlL0
                        have hlG : (Instr.lookup 159 (.map (some b0)) (.string ⟨KG.toArray⟩) true).run Tryz.prog w5 = .ok (.tuple #[.string ⟨#[]⟩, .bool false]) w5 := by rw [hKG]; rw [hG] at hlG0; exact hlG0
                        have hn1 : n.length = 1 := by
                          obtain ⟨d, -, -, hn⟩ := look_mem hL
                          rw [hn]
                          rfl
                        have hsn : (⟨n.toArray⟩ : ByteArray).size = n.length := Lib.size_mk n
                        have hon : ¬ (9223372036854775807 < P.length + n.length) := by omega
                        have hcn := cat_two P n
                        have hcr : (⟨R.toArray⟩ : ByteArray) ++ ⟨#[76]⟩ = ⟨(R ++ [76]).toArray⟩ := cat_two R [76]
                        have HNx := Lib.hid (show partsE m (i + 1) = some (ps ++ [(76, n)]) by rw [HDec.out, show dec1 i s = some (76, n) from by unfold dec1; rw [if_neg (by omega), hL]])
                        clear hlL0 hlG0 hL hG hKL hKG hbk hkb hb5
                        go_wp2_with fail
                        refine wp_loop_rounds 3 ?_
                        rw [rounds_succ]
                        go_wp2_with fail
                        rw [rounds_succ]
                        go_wp2_with fail
                        rw [rounds_succ]
                        go_wp2_with fail
                        exact ⟨⟨i + 1, ps ++ [(76, n)], by omega, by go_num, HNx.out, by rw [(parts_out _ _).1, ← HP.out, ← hcn], by rw [(parts_out _ _).2, ← HRw.out, ← hcr], HB5.out⟩, by simp [RowKit.intOf] <;> omega⟩
                      | none =>
                        cases hG : lookE (71 :: s) with
                        | some n =>
                          have hlL : (Instr.lookup 159 (.map (some b0)) (.string ⟨KL.toArray⟩) true).run Tryz.prog w5 = .ok (.tuple #[.string ⟨#[]⟩, .bool false]) w5 := by rw [hKL]; rw [hL] at hlL0; exact hlL0
                          have hlG : (Instr.lookup 159 (.map (some b0)) (.string ⟨KG.toArray⟩) true).run Tryz.prog w5 = .ok (.tuple #[.string ⟨n.toArray⟩, .bool true]) w5 := by rw [hKG]; rw [hG] at hlG0; exact hlG0
                          have hn1 : n.length = 1 := by
                            obtain ⟨d, -, -, hn⟩ := look_mem hG
                            rw [hn]
                            rfl
                          have hsn : (⟨n.toArray⟩ : ByteArray).size = n.length := Lib.size_mk n
                          have hon : ¬ (9223372036854775807 < P.length + n.length) := by omega
                          have hcn := cat_two P n
                          have hcr : (⟨R.toArray⟩ : ByteArray) ++ ⟨#[71]⟩ = ⟨(R ++ [71]).toArray⟩ := cat_two R [71]
                          have HNx := Lib.hid (show partsE m (i + 1) = some (ps ++ [(71, n)]) by rw [HDec.out, show dec1 i s = some (71, n) from by unfold dec1; rw [if_neg (by omega), hL, hG]; rfl])
                          clear hlL0 hlG0 hL hG hKL hKG hbk hkb hb5
                          go_wp2_with fail
                          refine wp_loop_rounds 3 ?_
                          rw [rounds_succ]
                          go_wp2_with fail
                          rw [rounds_succ]
                          go_wp2_with fail
                          rw [rounds_succ]
                          go_wp2_with fail
                          exact ⟨⟨i + 1, ps ++ [(71, n)], by omega, by go_num, HNx.out, by rw [(parts_out _ _).1, ← HP.out, ← hcn], by rw [(parts_out _ _).2, ← HRw.out, ← hcr], HB5.out⟩, by simp [RowKit.intOf] <;> omega⟩
                        | none =>
                          have hlL : (Instr.lookup 159 (.map (some b0)) (.string ⟨KL.toArray⟩) true).run Tryz.prog w5 = .ok (.tuple #[.string ⟨#[]⟩, .bool false]) w5 := by rw [hKL]; rw [hL] at hlL0; exact hlL0
                          have hlG : (Instr.lookup 159 (.map (some b0)) (.string ⟨KG.toArray⟩) true).run Tryz.prog w5 = .ok (.tuple #[.string ⟨#[]⟩, .bool false]) w5 := by rw [hKG]; rw [hG] at hlG0; exact hlG0
                          have HRd := Lib.hid (show readE m = ([], 2) from read_none (by unfold digsE; rw [if_pos HH.out, parts_none12 hlt (show dec1 i (gAt m i) = none by rw [← HSg.out]; unfold dec1; rw [if_neg (by omega), hL, hG]; rfl)]))
                          clear hlL0 hlG0 hL hG hKL hKG hbk hkb hb5
                          go_wp2_with fail
                          refine wp_loop_rounds 3 ?_
                          rw [rounds_succ]
                          go_wp2_with fail
                          rw [rounds_succ]
                          go_wp2_with fail
                          rw [rounds_succ]
                          go_wp2_with fail
                          exact bodyPost_ret (v := .tuple #[.string ⟨#[]⟩, .int .i64 2]) (by simp [results, Tryz.results116, go_sem]) rfl ⟨by rw [HRd.out], HBr.out.trans HB5.out⟩
                    · have h6I : (6 : Int) ≤ (i : Int) := by omega
                      go_upto_region 20 with fail
                      obtain ⟨a, ha⟩ : ∃ a : Nat, a = gFrom i := ⟨_, rfl⟩
                      have hai : (3 : Int) + 7 * (i : Int) + 5 = (a : Int) := by rw [ha]; unfold gFrom; rw [if_pos (by omega)]; omega
                      have ha7 : (a : Int) + 7 ≤ 95 := by omega
                      rw [hai]
                      obtain ⟨s, hs⟩ : ∃ s, s = gAt m i := ⟨_, rfl⟩
                      have hex : (⟨m.toArray⟩ : ByteArray).extract a (a + 7) = ⟨s.toArray⟩ := by
                        rw [slice_ab, hs, show a + 7 - a = 7 by omega]
                        unfold gAt
                        rw [ha]
                      have hs7 : s.length = 7 := by
                        rw [hs]
                        unfold gAt
                        rw [List.length_take, List.length_drop, ← ha, HL.out]
                        omega
                      have hss : (⟨s.toArray⟩ : ByteArray).size = s.length := Lib.size_mk s
                      have hos : ¬ (9223372036854775807 < 1 + s.length) := by omega
                      have hoR : ¬ (9223372036854775807 < R.length + 1) := by omega
                      rw [← hs] at HDec
                      have HSg := Lib.hid hs
                      clear hai ha hs
                      have hs4 : (wx.alloc (.cells #[.string ⟨#[76]⟩, .string ⟨#[71]⟩] 9)).heap.size = wx.heap.size + 1 := World.size_alloc _ _
                      have hb4 : Bl wr (wx.alloc (.cells #[.string ⟨#[76]⟩, .string ⟨#[71]⟩] 9)) := Bl.alloc HBx.out _
                      rw [← hs4]
                      generalize wx.alloc (.cells #[.string ⟨#[76]⟩, .string ⟨#[71]⟩] 9) = w4 at hb4 ⊢
                      clear hs4
                      have hbk := Blk.new w4 9 #[.string ⟨#[82]⟩]
                      have hb5 : Bl wr (w4.alloc (.cells #[.string ⟨#[82]⟩] 9)) := Bl.alloc hb4 _
                      have hkc := hbk.all1
                      obtain ⟨kb, hkb⟩ : ∃ k, k = w4.heap.size := ⟨_, rfl⟩
                      rw [← hkb] at hkc ⊢
                      generalize w4.alloc (.cells #[.string ⟨#[82]⟩] 9) = w5 at hkc hb5 ⊢
                      have HB5 := Lib.hid hb5
                      have hkR : (⟨#[82]⟩ : ByteArray) ++ ⟨s.toArray⟩ = ⟨(82 :: s).toArray⟩ := cat_two [82] s
                      have hlR0 := (HM.out.bl hb5).lookup2 (string_kind (P := Tryz.prog) Tryz.underlying9) hmt (Tryz.zeroValue9 w5) (82 :: s)
                      rw [look_tab] at hlR0
                      obtain ⟨KR, hKR⟩ : ∃ K, K = 82 :: s := ⟨_, rfl⟩
                      rw [← hKR] at hkR
                      cases hR : lookE (82 :: s) with
                      | some n =>
                        have hlR : (Instr.lookup 159 (.map (some b0)) (.string ⟨KR.toArray⟩) true).run Tryz.prog w5 = .ok (.tuple #[.string ⟨n.toArray⟩, .bool true]) w5 := by rw [hKR]; rw [hR] at hlR0; exact hlR0
                        have hn1 : n.length = 1 := by
                          obtain ⟨d, -, -, hn⟩ := look_mem hR
                          rw [hn]
                          rfl
                        have hsn : (⟨n.toArray⟩ : ByteArray).size = n.length := Lib.size_mk n
                        have hon : ¬ (9223372036854775807 < P.length + n.length) := by omega
                        have hcn := cat_two P n
                        have hcr : (⟨R.toArray⟩ : ByteArray) ++ ⟨#[82]⟩ = ⟨(R ++ [82]).toArray⟩ := cat_two R [82]
                        have HNx := Lib.hid (show partsE m (i + 1) = some (ps ++ [(82, n)]) by rw [HDec.out, show dec1 i s = some (82, n) from by unfold dec1; rw [if_pos (by omega), hR]; rfl])
                        clear hlR0 hR hKR hbk hkb hb5 hb4
                        go_wp2_with fail
                        refine wp_loop_rounds 2 ?_
                        rw [rounds_succ]
                        go_wp2_with fail
                        rw [rounds_succ]
                        go_wp2_with fail
                        exact ⟨⟨i + 1, ps ++ [(82, n)], by omega, by go_num, HNx.out, by rw [(parts_out _ _).1, ← HP.out, ← hcn], by rw [(parts_out _ _).2, ← HRw.out, ← hcr], HB5.out⟩, by simp [RowKit.intOf] <;> omega⟩
                      | none =>
                        have hlR : (Instr.lookup 159 (.map (some b0)) (.string ⟨KR.toArray⟩) true).run Tryz.prog w5 = .ok (.tuple #[.string ⟨#[]⟩, .bool false]) w5 := by rw [hKR]; rw [hR] at hlR0; exact hlR0
                        have HRd := Lib.hid (show readE m = ([], 2) from read_none (by unfold digsE; rw [if_pos HH.out, parts_none12 hlt (show dec1 i (gAt m i) = none by rw [← HSg.out]; unfold dec1; rw [if_pos (by omega), hR]; rfl)]))
                        clear hlR0 hR hKR hbk hkb hb5 hb4
                        go_wp2_with fail
                        refine wp_loop_rounds 2 ?_
                        rw [rounds_succ]
                        go_wp2_with fail
                        rw [rounds_succ]
                        go_wp2_with fail
                        exact bodyPost_ret (v := .tuple #[.string ⟨#[]⟩, .int .i64 2]) (by simp [results, Tryz.results116, go_sem]) rfl ⟨by rw [HRd.out], HBr.out.trans HB5.out⟩
                  · obtain rfl : i = 12 := by omega
                    obtain ⟨P, hP⟩ : ∃ P, P = outOf ps := ⟨_, rfl⟩
                    obtain ⟨R, hRw⟩ : ∃ P, P = rowOf ps := ⟨_, rfl⟩
                    obtain ⟨X, hX⟩ : ∃ X, X = R.take 6 := ⟨_, rfl⟩
                    have HDg := Lib.hid (digs_ok HH.out hps hP hRw hX)
                    rw [← hP] at hol ⊢
                    rw [← hRw] at hrl ⊢
                    have hsR : (⟨R.toArray⟩ : ByteArray).size = R.length := Lib.size_mk R
                    have hx6 : (⟨R.toArray⟩ : ByteArray).extract 0 6 = ⟨(R.take 6).toArray⟩ := slice_ab R 0 6
                    rw [← hX] at hx6
                    have HBx := Lib.hid hbx
                    have HIx := Lib.hid (firstIdx_any X)
                    clear hps hP hRw hbx hX
                    cases hf : firstAt X with
                    | none =>
                      have hV : idxV X = -1 := by unfold idxV; rw [hf]
                      rw [hV] at HIx
                      have HRd := Lib.hid (read_none (HDg.out.trans (by rw [hf]; rfl)))
                      clear hV hf
                      go_upto_region 32 with fail
                      refine wp_region_flow [(true, 1), (true, 2), (false, 0), (false, 3), (true, 4)] (fun _ => false) (by kernel_rfl) (by kernel_rfl) (by kernel_rfl) (by kernel_rfl) ?_
                      iterate 1
                        apply Flow.mv _ rfl
                        · intro K' hK'
                          simp only [Act.put, Act.eval, List.setIfInBounds_toArray, List.set_cons_zero, List.set_cons_succ, arr_getD, List.getD_cons_zero, List.getD_cons_succ]
                          exact hK'
                      iterate 1
                        apply Flow.calm2 _ _ rfl rfl
                        · intro w' hb' K' hK'
                          obtain ⟨hc', hf'⟩ := hb'.rule
                          go_simp
                          try go_ints
                          exact hK'
                        · intro K' hK'
                          simp only [Act.put, List.setIfInBounds_toArray, List.set_cons_zero, List.set_cons_succ]
                          exact hK'
                      apply Flow.move rfl
                      go_wp2_with fail
                      refine (firstCodes_any _).mono ?_
                      rintro e w5 ⟨g5, rfl, hr5, HB1⟩
                      go_wp2_with fail
                      refine ⟨fun _ => (by first | exact HB1 | exact Bl.refl _), ?_⟩
                      apply Flow.move rfl
                      go_wp2_with fail
                      refine (HIx.out g5 w5 hr5).mono ?_
                      rintro e w6 ⟨rfl, hw6⟩
                      subst hw6
                      have HB2 := HB1
                      go_wp2_with fail
                      refine ⟨fun _ => (by first | exact HB2 | exact Bl.refl _), ?_⟩
                      iterate 1
                        apply Flow.asg _ rfl
                        · intro K' hK'
                          simp only [Act.put, Act.eval, List.setIfInBounds_toArray, List.set_cons_zero, List.set_cons_succ, arr_getD, List.getD_cons_zero, List.getD_cons_succ]
                          exact hK'
                      refine Flow.done ?_
                      have HB5 := Lib.hid (HBx.out.trans (Bl.ofDrew HB1))
                      clear hr5 HB1 HB2 HBx
                      go_wp2_with fail
                      exact bodyPost_ret (v := .tuple #[.string ⟨#[]⟩, .int .i64 2]) (by simp [results, Tryz.results116, go_sem]) rfl ⟨by rw [HRd.out], HBr.out.trans HB5.out⟩
                    | some f =>
                      have hV : idxV X = (f : Int) := by unfold idxV; rw [hf]
                      rw [hV] at HIx
                      have hf10 : f < 10 := by
                        unfold firstAt at hf
                        exact (List.findIdx?_eq_some_iff_findIdx_eq.1 hf).1
                      have hdg : digsE m = some (UInt8.ofNat (48 + f) :: P) := HDg.out.trans (by rw [hf]; rfl)
                      have hcv := fun (W : World) => one_byte (W.alloc (.cells #[.int .u8 (48 + (f : Int))] 5)) W.heap.size 1 f hf10 (byte_cell W _)
                      obtain ⟨N, hN⟩ : ∃ N, N = [UInt8.ofNat (48 + f)] := ⟨_, rfl⟩
                      rw [← hN] at hcv
                      have hlN : N.length = 1 := by rw [hN]; rfl
                      have hsN : (⟨N.toArray⟩ : ByteArray).size = N.length := Lib.size_mk N
                      have hcat := cat_two N P
                      have hsPP : (⟨P.toArray⟩ : ByteArray).size = P.length := Lib.size_mk P
                      have hoN : ¬ (9223372036854775807 < N.length + P.length) := by omega
                      obtain ⟨D, hD⟩ : ∃ D, D = N ++ P := ⟨_, rfl⟩
                      rw [← hD] at hcat
                      have hdD : digsE m = some D := by rw [hdg, hD, hN]; rfl
                      obtain ⟨hD13, hDm⟩ := digs_digits hdD
                      have hsD : (⟨D.toArray⟩ : ByteArray).size = D.length := Lib.size_mk D
                      have hD13I : (D.length : Int) = 13 := by omega
                      have hck := fun wx => checkDigit_any (D.take 12) wx (by rw [List.length_take]; omega)
                      rw [digB_take hD13 hDm] at hck
                      simp only [if_true] at hck
                      have hex12 : (⟨D.toArray⟩ : ByteArray).extract 0 12 = ⟨(D.take 12).toArray⟩ := slice_ab D 0 12
                      obtain ⟨b12, hg12, hb12, hd12⟩ := digit_byte hDm (i := 12) (by omega)
                      obtain ⟨k1, k2⟩ := bytes_at hg12
                      have hrd : readE m = if checkOf (D.take 12) = digOf D 12 then (D, 0) else ([], 14) := by unfold readE; rw [hdD]
                      obtain ⟨ck, hckk⟩ : ∃ ck, ck = checkOf (D.take 12) := ⟨_, rfl⟩
                      obtain ⟨d12, hd12e⟩ : ∃ d, d = digOf D 12 := ⟨_, rfl⟩
                      rw [← hckk] at hck hrd
                      rw [← hd12e] at hb12 hd12 hrd
                      have Hck := Lib.hid hck; have HRd := Lib.hid hrd
                      clear hV hf hdg hN hD hdD hDm hg12 hckk hd12e hck hrd HDg
                      go_upto_region 32 with fail
                      refine wp_region_flow [(true, 1), (true, 2), (false, 0), (false, 3), (true, 4)] (fun _ => false) (by kernel_rfl) (by kernel_rfl) (by kernel_rfl) (by kernel_rfl) ?_
                      iterate 1
                        apply Flow.mv _ rfl
                        · intro K' hK'
                          simp only [Act.put, Act.eval, List.setIfInBounds_toArray, List.set_cons_zero, List.set_cons_succ, arr_getD, List.getD_cons_zero, List.getD_cons_succ]
                          exact hK'
                      iterate 1
                        apply Flow.calm2 _ _ rfl rfl
                        · intro w' hb' K' hK'
                          obtain ⟨hc', hf'⟩ := hb'.rule
                          go_simp
                          try go_ints
                          exact hK'
                        · intro K' hK'
                          simp only [Act.put, List.setIfInBounds_toArray, List.set_cons_zero, List.set_cons_succ]
                          exact hK'
                      apply Flow.move rfl
                      go_wp2_with fail
                      refine (firstCodes_any _).mono ?_
                      rintro e w5 ⟨g5, rfl, hr5, HB1⟩
                      go_wp2_with fail
                      refine ⟨fun _ => (by first | exact HB1 | exact Bl.refl _), ?_⟩
                      apply Flow.move rfl
                      go_wp2_with fail
                      refine (HIx.out g5 w5 hr5).mono ?_
                      rintro e w6 ⟨rfl, hw6⟩
                      subst hw6
                      have HB2 := HB1
                      go_wp2_with fail
                      refine ⟨fun _ => (by first | exact HB2 | exact Bl.refl _), ?_⟩
                      iterate 1
                        apply Flow.asg _ rfl
                        · intro K' hK'
                          simp only [Act.put, Act.eval, List.setIfInBounds_toArray, List.set_cons_zero, List.set_cons_succ, arr_getD, List.getD_cons_zero, List.getD_cons_succ]
                          exact hK'
                      refine Flow.done ?_
                      have HB5 := Lib.hid (HBx.out.trans (Bl.ofDrew HB1))
                      clear hr5 HB1 HB2 HBx
                      go_wp2_with fail
                      refine (Hck.out _).mono ?_
                      rintro e w7 ⟨rfl, hb7⟩
                      have HB7 := Lib.hid ((HBr.out.trans (HB5.out.alloc _)).trans hb7)
                      clear hb7 hcv
                      by_cases hq : ck = d12
                      · have HR2 := Lib.hid (HRd.out.trans (if_pos hq))
                        subst hq
                        clear HRd
                        go_wp2_with fail
                        exact bodyPost_ret (v := .tuple #[.string ⟨D.toArray⟩, .int .i64 0]) (by simp [results, Tryz.results116, go_sem]) rfl ⟨by rw [HR2.out], HB7.out⟩
                      · have HR2 := Lib.hid (HRd.out.trans (if_neg hq))
                        have hq' : (ck : Int) ≠ (d12 : Int) := by omega
                        clear HRd hq
                        go_wp2_with fail
                        exact bodyPost_ret (v := .tuple #[.string ⟨#[]⟩, .int .i64 14]) (by simp [results, Tryz.results116, go_sem]) rfl ⟨by rw [HR2.out], HB7.out⟩
          | false =>
            have HR := Lib.hid (read_none (head_bad (m := m) (by rw [HHd.out, h3, h5, h9]; rfl)))
            clear HHd
            go_wp2_with fail
            refine Ht.out.mono ?_
            rintro e w1 ⟨rfl, hb1⟩
            go_wp2_with fail
            exact bodyPost_ret (v := .tuple #[.string ⟨#[]⟩, .int .i64 2]) (by simp [results, Tryz.results116, go_sem]) rfl ⟨by rw [HR.out], hb1⟩
        | false =>
          have HR := Lib.hid (read_none (head_bad (m := m) (by rw [HHd.out, h3, h5]; rfl)))
          clear HHd
          go_wp2_with fail
          refine Ht.out.mono ?_
          rintro e w1 ⟨rfl, hb1⟩
          go_wp2_with fail
          exact bodyPost_ret (v := .tuple #[.string ⟨#[]⟩, .int .i64 2]) (by simp [results, Tryz.results116, go_sem]) rfl ⟨by rw [HR.out], hb1⟩
      | false =>
        have HR := Lib.hid (read_none (head_bad (m := m) (by rw [HHd.out, h3]; rfl)))
        clear HHd
        go_wp2_with fail
        refine Ht.out.mono ?_
        rintro e w1 ⟨rfl, hb1⟩
        go_wp2_with fail
        exact bodyPost_ret (v := .tuple #[.string ⟨#[]⟩, .int .i64 2]) (by simp [results, Tryz.results116, go_sem]) rfl ⟨by rw [HR.out], hb1⟩
  · have hq95 : ((m.length : Int) == 95) = false := by rw [beq_eq_false_iff_ne]; omega
    have hlI : (m.length : Int) ≠ 95 := by omega
    have HR := Lib.hid (read_none (head_bad (m := m) (by unfold headOK; rw [decide_eq_false h95]; rfl)))
    clear h95
    go_wp2_with fail
    exact bodyPost_ret (v := .tuple #[.string ⟨#[]⟩, .int .i64 2]) (by simp [results, Tryz.results116, go_sem]) rfl ⟨by rw [HR.out], Bl.refl _⟩

end Go.Proofs.YtkipcobpnecmhaaGreatDoor


/-! bar.either, bar.ReadEAN; bedref2.digitsOf, bedref2.ReadEANOf. -/
namespace Go.Proofs.YtkipcobpnecmhaaGreatDoor
open Go.RowKit Go.Shelf

def eitherG (rd : List UInt8 → List UInt8 × Int) (m : List UInt8) : List UInt8 × Int := if (rd m).2 = 2 then rd m.reverse else rd m
set_option maxRecDepth 100000 in
set_option maxHeartbeats 2000000 in
theorem either_any (g : Nat) (rd : List UInt8 → List UInt8 × Int) (eg : ∀ args w, (callFunc g args).run Tryz.prog w = .ok (.enter g args) w) (M : Nat) (hM : M ≤ 9223372036854775807)
    (hr : ∀ (m : List UInt8) (W : World), m.length ≤ M → Calls Tryz.prog g #[.string ⟨m.toArray⟩] W fun e w' => e = .returned (.tuple #[.string ⟨(rd m).1.toArray⟩, .int .i64 (rd m).2]) ∧ Bl W w')
    (m : List UInt8) (hl : m.length ≤ M) (w : World) :
    Calls Tryz.prog 115 #[.string ⟨m.toArray⟩, .func (.func g) #[] #[]] w fun e w' => e = .returned (.tuple #[.string ⟨(eitherG rd m).1.toArray⟩, .int .i64 (eitherG rd m).2]) ∧ Bl w w' := by
  have H1 := Lib.hid (hr m)
  have H2 := Lib.hid (hr m.reverse)
  have hb := fun wx => backwards_any m wx (by omega)
  unfold FlipRes at hb
  have Hb := Lib.hid hb
  obtain ⟨a, ha⟩ : ∃ a, a = (rd m).1 := ⟨_, rfl⟩
  obtain ⟨e1, he1⟩ : ∃ a, a = (rd m).2 := ⟨_, rfl⟩
  rw [← ha, ← he1] at H1
  obtain ⟨b, hb2⟩ : ∃ a, a = (rd m.reverse).1 := ⟨_, rfl⟩
  obtain ⟨e2, he2⟩ : ∃ a, a = (rd m.reverse).2 := ⟨_, rfl⟩
  rw [← hb2, ← he2] at H2
  obtain ⟨r, hrv⟩ : ∃ r, r = m.reverse := ⟨_, rfl⟩
  have hrl : r.length ≤ M := by rw [hrv, List.length_reverse]; exact hl
  by_cases hq : e1 = 2
  · have hE : eitherG rd m = rd m.reverse := by unfold eitherG; rw [← he1, if_pos hq]
    have HA := Lib.hid (show (eitherG rd m).1 = b from by rw [hE, hb2])
    have HB := Lib.hid (show (eitherG rd m).2 = e2 from by rw [hE, he2])
    rw [← hrv] at Hb H2
    subst hq
    clear hE ha he1 hb2 he2 hb hr hrv
    go_enter Tryz.func115, Tryz.ntmps115
    go_wp2_with fail
    refine (H1.out _ hl).mono ?_
    rintro e w1 ⟨rfl, hb1⟩
    go_wp2_with fail
    refine (Hb.out _).mono ?_
    rintro e w2 ⟨rfl, hb2⟩
    go_wp2_with fail
    refine (H2.out _ hrl).mono ?_
    rintro e w3 ⟨rfl, hb3⟩
    go_wp2_with fail
    exact bodyPost_ret (v := .tuple #[.string ⟨b.toArray⟩, .int .i64 e2]) (by simp [results, Tryz.results115, go_sem]) rfl ⟨by rw [HA.out, HB.out], (hb1.trans hb2).trans hb3⟩
  · have hE : eitherG rd m = rd m := by unfold eitherG; rw [← he1, if_neg hq]
    have HA := Lib.hid (show (eitherG rd m).1 = a from by rw [hE, ha])
    have HB := Lib.hid (show (eitherG rd m).2 = e1 from by rw [hE, he1])
    have hqb : (e1 == 2) = false := by rw [beq_eq_false_iff_ne]; exact hq
    clear hE ha he1 hb2 he2 hb hr hrv hq
    go_enter Tryz.func115, Tryz.ntmps115
    go_wp2_with fail
    refine (H1.out _ hl).mono ?_
    rintro e w1 ⟨rfl, hb1⟩
    go_wp2_with fail
    exact bodyPost_ret (v := .tuple #[.string ⟨a.toArray⟩, .int .i64 e1]) (by simp [results, Tryz.results115, go_sem]) rfl ⟨by rw [HA.out, HB.out], hb1⟩
set_option maxRecDepth 100000 in
theorem readEANx_any (m : List UInt8) (w : World) (hl : m.length ≤ 9223372036854775807) :
    Calls Tryz.prog 77 #[.string ⟨m.toArray⟩] w fun e w' => e = .returned (.tuple #[.string ⟨(eitherG readE m).1.toArray⟩, .int .i64 (eitherG readE m).2]) ∧ Bl w w' := by
  have H := Lib.hid (either_any 116 readE (enters Tryz.func116 (by kernel_rfl) rfl) 9223372036854775807 (Nat.le_refl _) (fun m W h => readEAN_any m W h) m hl w)
  obtain ⟨a, ha⟩ : ∃ a, a = (eitherG readE m).1 := ⟨_, rfl⟩
  obtain ⟨e1, he1⟩ : ∃ a, a = (eitherG readE m).2 := ⟨_, rfl⟩
  rw [← ha, ← he1] at H ⊢
  clear ha he1
  go_enter Tryz.func77, Tryz.ntmps77
  go_wp2_with fail
  refine H.out.mono ?_
  rintro e w1 ⟨rfl, hb1⟩
  go_wp2_with fail
  exact bodyPost_ret (v := .tuple #[.string ⟨a.toArray⟩, .int .i64 e1]) (by simp [results, Tryz.results77, go_sem]) rfl ⟨rfl, hb1⟩

end Go.Proofs.YtkipcobpnecmhaaGreatDoor


/-! bedref2.digitsOf: the digits of modules. -/
namespace Go.Proofs.YtkipcobpnecmhaaGreatDoor
open Go.RowKit Go.Shelf

def digR (m : List UInt8) : List UInt8 × Bool := match digsE m with
  | none => ([], false)
  | some d => (d, true)
theorem digR_none {m : List UInt8} (h : digsE m = none) : digR m = ([], false) := by unfold digR; rw [h]
theorem enc_digit (k : Nat) (hk : k < 10) : Utf8.encode (48 + (k : Int)) = ⟨[UInt8.ofNat (48 + k)].toArray⟩ := by
  have : ∀ k < 10, Utf8.encode (48 + ((k : Nat) : Int)) = ⟨[UInt8.ofNat (48 + k)].toArray⟩ := by decide +kernel
  exact this k hk
theorem hits_lenK (i : Nat) (s : List UInt8) : ∀ k, (outOf (hitsE i s k)).length ≤ k ∧ (rowOf (hitsE i s k)).length ≤ k
  | 0 => ⟨Nat.le_refl _, Nat.le_refl _⟩
  | k + 1 => by
    obtain ⟨h1, h2⟩ := hits_lenK i s k
    have e : hitsE i s (k + 1) = hitsE i s k ++ (match kindR i s k with | some c => [(c, [UInt8.ofNat (48 + k)])] | none => []) := rfl
    rw [e]
    cases kindR i s k with
    | none => simp only [List.append_nil]; omega
    | some c =>
      simp only [(parts_out _ _).1, (parts_out _ _).2, List.length_append, List.length_singleton]
      omega
theorem hits_step_some {i k : Nat} {s : List UInt8} {c : UInt8} (h : kindR i s k = some c) : hitsE i s (k + 1) = hitsE i s k ++ [(c, [UInt8.ofNat (48 + k)])] := by
  show hitsE i s k ++ (match kindR i s k with | some c => [(c, [UInt8.ofNat (48 + k)])] | none => []) = _
  rw [h]
theorem hits_step_none {i k : Nat} {s : List UInt8} (h : kindR i s k = none) : hitsE i s (k + 1) = hitsE i s k := by
  show hitsE i s k ++ (match kindR i s k with | some c => [(c, [UInt8.ofNat (48 + k)])] | none => []) = _
  rw [h]
  exact List.append_nil _
set_option maxRecDepth 1000000 in
set_option maxHeartbeats 8000000 in
theorem digitsOf_any (m : List UInt8) (w : World) (_hl : m.length ≤ 9223372036854775807) (hT : SpOk w) :
    Calls Tryz.prog 84 #[.string ⟨m.toArray⟩] w fun e w' => e = .returned (.tuple #[.string ⟨(digR m).1.toArray⟩, .bool (digR m).2]) ∧ Bl w w' := by
  have hsz : (⟨m.toArray⟩ : ByteArray).size = m.length := Lib.size_mk m
  have HT := Lib.hid hT
  clear hT
  go_enter Tryz.func84, Tryz.ntmps84
  by_cases h95 : m.length = 95
  · have hq95 : ((m.length : Int) == 95) = true := by rw [beq_iff_eq]; omega
    have hlI : (m.length : Int) = 95 := by omega
    have hx3 : (⟨m.toArray⟩ : ByteArray).extract 0 3 = ⟨(m.take 3).toArray⟩ := slice_ab m 0 3
    have hx5 : (⟨m.toArray⟩ : ByteArray).extract 45 50 = ⟨((m.drop 45).take 5).toArray⟩ := slice_ab m 45 50
    have hx9 : (⟨m.toArray⟩ : ByteArray).extract 92 m.length = ⟨(m.drop 92).toArray⟩ := extract_drop m 92
    have hhead : headOK m = ((m.take 3 == endE) && (((m.drop 45).take 5 == midE) && (m.drop 92 == endE))) := by
      unfold headOK
      rw [decide_eq_true h95, Bool.true_and, dec_beq, dec_beq, dec_beq]
    obtain ⟨X3, hX3⟩ : ∃ X, X = m.take 3 := ⟨_, rfl⟩
    obtain ⟨X5, hX5⟩ : ∃ X, X = (m.drop 45).take 5 := ⟨_, rfl⟩
    obtain ⟨X9, hX9⟩ : ∃ X, X = m.drop 92 := ⟨_, rfl⟩
    rw [← hX3] at hx3 hhead
    rw [← hX5] at hx5 hhead
    rw [← hX9] at hx9 hhead
    unfold endE midE at hhead
    have HHd := Lib.hid hhead
    have HL := Lib.hid h95
    clear hhead hX3 hX5 hX9 h95
    cases h3 : (X3 == [49, 48, 49]) with
    | true =>
      cases h5 : (X5 == [48, 49, 48, 49, 48]) with
      | true =>
        cases h9 : (X9 == [49, 48, 49]) with
        | true =>
          have HH := Lib.hid (show headOK m = true by rw [HHd.out, h3, h5, h9]; rfl)
          clear HHd
          go_wp2_with fail
          go_loopw [4, 5, 32] (fun s4 s5 s32 wx => ∃ (i : Nat) (ps : List (UInt8 × List UInt8)), i ≤ 12 ∧ s32 = .int .i64 (i : Int) ∧ partsE m i = some ps ∧ s5 = .string ⟨(outOf ps).toArray⟩ ∧ s4 = .string ⟨((rowOf ps).take 6).toArray⟩ ∧ Bl w wx) (fun _ _ v _ => 12 - (RowKit.intOf v).toNat)
          case atStart => exact ⟨0, [], Nat.zero_le _, rfl, rfl, rfl, rfl, Bl.refl _⟩
          case round =>
            rename World => wx
            obtain ⟨i, ps, hi, rfl, hps, rfl, rfl, hbx⟩ := hrel
            obtain ⟨hol, hrl⟩ := outOf_len hps
            by_cases hlt : i < 12
            · have HPs := Lib.hid hps; have HBx := Lib.hid hbx
              have hi12 : (i : Int) < 12 := by omega
              have hdec : partsE m (i + 1) = (match dec1 i (gAt m i) with | none => none | some p => some (ps ++ [p])) := by
                show (match partsE m i with | none => none | some ps => match dec1 i (gAt m i) with | none => none | some p => some (ps ++ [p])) = _
                rw [hps]
              obtain ⟨a, ha⟩ : ∃ a : Nat, a = gFrom i := ⟨_, rfl⟩
              have ha7 : (a : Int) + 7 ≤ 95 := by rw [ha]; unfold gFrom; split <;> omega
              obtain ⟨s, hs⟩ : ∃ s, s = gAt m i := ⟨_, rfl⟩
              have hex : (⟨m.toArray⟩ : ByteArray).extract a (a + 7) = ⟨s.toArray⟩ := by
                rw [slice_ab, hs, show a + 7 - a = 7 by omega]
                unfold gAt
                rw [ha]
              have HA := Lib.hid ha
              have hall := hits_all i s
              rw [← hs] at hdec
              obtain ⟨P, hP⟩ : ∃ P, P = outOf ps := ⟨_, rfl⟩
              obtain ⟨R, hRw⟩ : ∃ P, P = (rowOf ps).take 6 := ⟨_, rfl⟩
              have hRl : R.length ≤ 6 := by rw [hRw, List.length_take]; omega
              rw [← hP] at hol ⊢
              rw [← hRw]
              have HP := Lib.hid hP; have HRw := Lib.hid hRw; have HSg := Lib.hid hs; have HDec := Lib.hid hdec; have HAll := Lib.hid hall
              clear hps hbx hdec hP hRw hs ha hall
              by_cases h6 : i < 6
              · have h6I : (i : Int) < 6 := by omega
                have h6N : ¬ ((6 : Int) ≤ (i : Int)) := by omega
                have hai : (3 : Int) + 7 * (i : Int) = (a : Int) := by have := HA.out; rw [this]; unfold gFrom; rw [if_neg (by omega)]; omega
                go_upto_region 10 with fail
                try rw [hai]
                clear hai
                go_wp2_with fail
                refine (left_any _ (HT.out.bl HBx.out)).mono ?_
                rintro e w5 ⟨g, rfl, hr5, hb5⟩
                have HR5 := Lib.hid hr5; have HB5 := Lib.hid hb5
                clear hr5 hb5
                go_wp2_with fail
                go_loopw [4, 5, 9, 49] (fun s4 s5 s9 s49 wy => ∃ k : Nat, k ≤ 10 ∧ s49 = .int .i64 (k : Int) ∧ s5 = .string ⟨(P ++ outOf (hitsE i s k)).toArray⟩ ∧ s4 = .string ⟨(R ++ rowOf (hitsE i s k)).toArray⟩ ∧ s9 = .bool (!(hitsE i s k).isEmpty) ∧ Bl w5 wy) (fun _ _ _ v _ => 10 - (RowKit.intOf v).toNat)
                case atStart => exact ⟨0, Nat.zero_le _, rfl, by rw [show outOf (hitsE i s 0) = [] from rfl, List.append_nil], by rw [show rowOf (hitsE i s 0) = [] from rfl, List.append_nil], rfl, Bl.refl _⟩
                case round =>
                  rename World => wy
                  obtain ⟨k, hk, rfl, rfl, rfl, rfl, hby⟩ := hrel
                  obtain ⟨hlo, hlr⟩ := hits_lenK i s k
                  obtain ⟨H, hH⟩ : ∃ H, H = hitsE i s k := ⟨_, rfl⟩
                  rw [← hH] at hlo hlr ⊢
                  by_cases hkt : k < 10
                  · obtain ⟨ad, ea, c0⟩ := str_at (HR5.out.bl hby) (leftC_at k hkt)
                    obtain rfl := Option.some.inj ea
                    rw [add_flat] at c0
                    have HBy := Lib.hid hby
                    have hE7 := ex_len k hkt
                    have hcE := fun wx => right_any k hkt wx
                    have hcF := fun wx => flip_any (exB (leftC.getD k [])) wx (by omega)
                    unfold FlipRes at hcF
                    have hkI : (k : Int) < (leftC.length : Int) := by show (k : Int) < 10; omega
                    have henc := enc_digit k hkt
                    obtain ⟨N, hN⟩ : ∃ N, N = [UInt8.ofNat (48 + k)] := ⟨_, rfl⟩
                    rw [← hN] at henc
                    have hN1 : N.length = 1 := by rw [hN]; rfl
                    have hss := fun c (h : kindR i s k = some c) => (hits_step_some h).trans (by rw [← hN, ← hH])
                    have hsn := fun (h : kindR i s k = none) => (hits_step_none h).trans hH.symm
                    have hkr : kindR i s k = if s = codeOf 76 k then some 76 else if s = codeOf 71 k then some 71 else none := by unfold kindR; rw [if_neg (by omega)]
                    rw [codeOf_left, codeOf_g] at hkr
                    obtain ⟨E, hE⟩ : ∃ E, E = exB (leftC.getD k []) := ⟨_, rfl⟩
                    obtain ⟨F, hF⟩ : ∃ F, F = E.reverse := ⟨_, rfl⟩
                    rw [← hE] at hcE hcF hkr
                    rw [← hF] at hcF hkr
                    obtain ⟨L, hL⟩ : ∃ L, L = leftC.getD k [] := ⟨_, rfl⟩
                    rw [← hL] at hcE c0 hkr
                    have HcE := Lib.hid hcE; have HcF := Lib.hid hcF; have HSs := Lib.hid hss; have HSn := Lib.hid hsn; have HKr := Lib.hid hkr
                    obtain ⟨Q, hQ⟩ : ∃ Q, Q = P ++ outOf H := ⟨_, rfl⟩
                    have hQl : Q.length ≤ 40 := by rw [hQ, List.length_append]; omega
                    rw [← hQ]
                    have HQ := Lib.hid hQ
                    have hsQ : (⟨Q.toArray⟩ : ByteArray).size = Q.length := Lib.size_mk Q
                    have hsN : (⟨N.toArray⟩ : ByteArray).size = N.length := Lib.size_mk N
                    have hoQ : ¬ (9223372036854775807 < Q.length + N.length) := by omega
                    have hcat := cat_two Q N
                    obtain ⟨T, hTT⟩ : ∃ Q, Q = R ++ rowOf H := ⟨_, rfl⟩
                    have hTl : T.length ≤ 40 := by rw [hTT, List.length_append]; omega
                    rw [← hTT]
                    have HTT := Lib.hid hTT
                    have hsT : (⟨T.toArray⟩ : ByteArray).size = T.length := Lib.size_mk T
                    have hoT : ¬ (9223372036854775807 < T.length + 1) := by omega
                    clear hN hss hsn hkr hE hF hL hcE hcF hQ hby hTT
                    cases hqL : (s == L) with
                    | true =>
                      have HSt := Lib.hid (HSs.out 76 (HKr.out.trans (by rw [if_pos (by simpa using hqL)])))
                      have hcT : (⟨T.toArray⟩ : ByteArray) ++ ⟨#[76]⟩ = ⟨(T ++ [76]).toArray⟩ := cat_two T [76]
                      clear HSs HSn HKr hH
                      go_wp2_with fail
                      exact ⟨⟨k + 1, by omega, by go_num, by rw [HSt.out, (parts_out _ _).1, ← List.append_assoc, ← HQ.out, ← hcat], by rw [HSt.out, (parts_out _ _).2, ← List.append_assoc, ← HTT.out, ← hcT], by rw [HSt.out]; simp, HBy.out⟩, by simp [RowKit.intOf] <;> omega⟩
                    | false =>
                      cases hqF : (s == F) with
                      | true =>
                        have HSt := Lib.hid (HSs.out 71 (HKr.out.trans (by rw [if_neg (by simpa using hqL), if_pos (by simpa using hqF)])))
                        have hcT : (⟨T.toArray⟩ : ByteArray) ++ ⟨#[71]⟩ = ⟨(T ++ [71]).toArray⟩ := cat_two T [71]
                        clear HSs HSn HKr hH
                        go_wp2_with fail
                        refine (HcE.out _).mono ?_
                        rintro e w8 ⟨rfl, hb8⟩
                        have HB8 := Lib.hid (HBy.out.trans hb8)
                        clear hb8
                        go_wp2_with fail
                        refine (HcF.out _).mono ?_
                        rintro e w9 ⟨rfl, hb9⟩
                        have HB9 := Lib.hid (HB8.out.trans hb9)
                        clear hb9
                        go_wp2_with fail
                        exact ⟨⟨k + 1, by omega, by go_num, by rw [HSt.out, (parts_out _ _).1, ← List.append_assoc, ← HQ.out, ← hcat], by rw [HSt.out, (parts_out _ _).2, ← List.append_assoc, ← HTT.out, ← hcT], by rw [HSt.out]; simp, HB9.out⟩, by simp [RowKit.intOf] <;> omega⟩
                      | false =>
                        have HSt := Lib.hid (HSn.out (HKr.out.trans (by rw [if_neg (by simpa using hqL), if_neg (by simpa using hqF)])))
                        clear HSs HSn HKr hH
                        go_wp2_with fail
                        refine (HcE.out _).mono ?_
                        rintro e w8 ⟨rfl, hb8⟩
                        have HB8 := Lib.hid (HBy.out.trans hb8)
                        clear hb8
                        go_wp2_with fail
                        refine (HcF.out _).mono ?_
                        rintro e w9 ⟨rfl, hb9⟩
                        have HB9 := Lib.hid (HB8.out.trans hb9)
                        clear hb9
                        go_wp2_with fail
                        exact ⟨⟨k + 1, by omega, by go_num, by rw [HSt.out, ← HQ.out], by rw [HSt.out, ← HTT.out], by rw [HSt.out], HB9.out⟩, by simp [RowKit.intOf] <;> omega⟩
                  · obtain rfl : k = 10 := by omega
                    rw [hH, HAll.out]
                    have hb5 := HB5.out
                    cases hd : dec1 i s with
                    | none =>
                      have HRd := Lib.hid (show digR m = ([], false) from digR_none (by unfold digsE; rw [if_pos HH.out, parts_none12 hlt (show dec1 i (gAt m i) = none by rw [← HSg.out]; exact hd)]))
                      clear hH hd
                      go_wp2_with fail
                      exact bodyPost_ret (v := .tuple #[.string ⟨#[]⟩, .bool false]) (by simp [results, Tryz.results84, go_sem]) rfl ⟨by rw [HRd.out], (HBx.out.trans hb5).trans hby⟩
                    | some p =>
                      obtain ⟨c, n⟩ := p
                      have hst := HDec.out
                      rw [hd] at hst
                      have HSt := Lib.hid (show partsE m (i + 1) = some (ps ++ [(c, n)]) from hst)
                      have hp1 := (parts_out (ps := ps) c n).1
                      have hp2 := (parts_out (ps := ps) c n).2
                      rw [← HP.out] at hp1
                      have hq1 : P ++ outOf (Option.some (c, n)).toList = outOf (ps ++ [(c, n)]) := by rw [hp1]; unfold outOf; simp
                      have hR0 : R = rowOf ps := by rw [HRw.out, List.take_of_length_le (by omega)]
                      have hq2 : R ++ rowOf (Option.some (c, n)).toList = (rowOf (ps ++ [(c, n)])).take 6 := by
                        rw [hp2, hR0, List.take_of_length_le (by rw [List.length_append, List.length_singleton]; omega)]
                        rfl
                      rw [hq1, hq2]
                      clear hp1 hp2 hq1 hq2 hst hH hd hR0
                      go_wp2_with fail
                      exact ⟨⟨i + 1, _, by omega, by go_num, HSt.out, rfl, rfl, (HBx.out.trans hb5).trans hby⟩, by simp [RowKit.intOf] <;> omega⟩
              · have h6I : (6 : Int) ≤ (i : Int) := by omega
                have h6N : ¬ ((i : Int) < 6) := by omega
                have hai : (3 : Int) + 7 * (i : Int) + 5 = (a : Int) := by have := HA.out; rw [this]; unfold gFrom; rw [if_pos (by omega)]; omega
                go_upto_region 10 with fail
                try rw [hai]
                clear hai
                go_wp2_with fail
                refine (left_any _ (HT.out.bl HBx.out)).mono ?_
                rintro e w5 ⟨g, rfl, hr5, hb5⟩
                have HR5 := Lib.hid hr5; have HB5 := Lib.hid hb5
                clear hr5 hb5
                go_wp2_with fail
                go_loopw [4, 5, 9, 49] (fun s4 s5 s9 s49 wy => ∃ k : Nat, k ≤ 10 ∧ s49 = .int .i64 (k : Int) ∧ s5 = .string ⟨(P ++ outOf (hitsE i s k)).toArray⟩ ∧ s4 = .string ⟨R.toArray⟩ ∧ s9 = .bool (!(hitsE i s k).isEmpty) ∧ Bl w5 wy) (fun _ _ _ v _ => 10 - (RowKit.intOf v).toNat)
                case atStart => exact ⟨0, Nat.zero_le _, rfl, by rw [show outOf (hitsE i s 0) = [] from rfl, List.append_nil], rfl, rfl, Bl.refl _⟩
                case round =>
                  rename World => wy
                  obtain ⟨k, hk, rfl, rfl, rfl, rfl, hby⟩ := hrel
                  obtain ⟨hlo, hlr⟩ := hits_lenK i s k
                  obtain ⟨H, hH⟩ : ∃ H, H = hitsE i s k := ⟨_, rfl⟩
                  rw [← hH] at hlo hlr ⊢
                  by_cases hkt : k < 10
                  · obtain ⟨ad, ea, c0⟩ := str_at (HR5.out.bl hby) (leftC_at k hkt)
                    obtain rfl := Option.some.inj ea
                    rw [add_flat] at c0
                    have HBy := Lib.hid hby
                    have hE7 := ex_len k hkt
                    have hcE := fun wx => right_any k hkt wx
                    have hcF := fun wx => flip_any (exB (leftC.getD k [])) wx (by omega)
                    unfold FlipRes at hcF
                    have hkI : (k : Int) < (leftC.length : Int) := by show (k : Int) < 10; omega
                    have henc := enc_digit k hkt
                    obtain ⟨N, hN⟩ : ∃ N, N = [UInt8.ofNat (48 + k)] := ⟨_, rfl⟩
                    rw [← hN] at henc
                    have hN1 : N.length = 1 := by rw [hN]; rfl
                    have hss := fun c (h : kindR i s k = some c) => (hits_step_some h).trans (by rw [← hN, ← hH])
                    have hsn := fun (h : kindR i s k = none) => (hits_step_none h).trans hH.symm
                    have hkr : kindR i s k = if s = codeOf 82 k then some 82 else none := by unfold kindR; rw [if_pos (by omega)]
                    rw [codeOf_right] at hkr
                    obtain ⟨E, hE⟩ : ∃ E, E = exB (leftC.getD k []) := ⟨_, rfl⟩
                    obtain ⟨F, hF⟩ : ∃ F, F = E.reverse := ⟨_, rfl⟩
                    rw [← hE] at hcE hcF hkr
                    rw [← hF] at hcF
                    obtain ⟨L, hL⟩ : ∃ L, L = leftC.getD k [] := ⟨_, rfl⟩
                    rw [← hL] at hcE c0
                    have HcE := Lib.hid hcE; have HcF := Lib.hid hcF; have HSs := Lib.hid hss; have HSn := Lib.hid hsn; have HKr := Lib.hid hkr
                    obtain ⟨Q, hQ⟩ : ∃ Q, Q = P ++ outOf H := ⟨_, rfl⟩
                    have hQl : Q.length ≤ 40 := by rw [hQ, List.length_append]; omega
                    rw [← hQ]
                    have HQ := Lib.hid hQ
                    have hsQ : (⟨Q.toArray⟩ : ByteArray).size = Q.length := Lib.size_mk Q
                    have hsN : (⟨N.toArray⟩ : ByteArray).size = N.length := Lib.size_mk N
                    have hoQ : ¬ (9223372036854775807 < Q.length + N.length) := by omega
                    have hcat := cat_two Q N
                    clear hN hss hsn hkr hE hF hL hcE hcF hQ hby
                    cases hqE : (s == E) with
                    | true =>
                      have HSt := Lib.hid (HSs.out 82 (HKr.out.trans (by rw [if_pos (by simpa using hqE)])))
                      clear HSs HSn HKr hH
                      go_wp2_with fail
                      refine (HcE.out _).mono ?_
                      rintro e w8 ⟨rfl, hb8⟩
                      have HB8 := Lib.hid (HBy.out.trans hb8)
                      clear hb8
                      go_wp2_with fail
                      exact ⟨⟨k + 1, by omega, by go_num, by rw [HSt.out, (parts_out _ _).1, ← List.append_assoc, ← HQ.out, ← hcat], rfl, by rw [HSt.out]; simp, HB8.out⟩, by simp [RowKit.intOf] <;> omega⟩
                    | false =>
                      have HSt := Lib.hid (HSn.out (HKr.out.trans (by rw [if_neg (by simpa using hqE)])))
                      clear HSs HSn HKr hH
                      go_wp2_with fail
                      refine (HcE.out _).mono ?_
                      rintro e w8 ⟨rfl, hb8⟩
                      have HB8 := Lib.hid (HBy.out.trans hb8)
                      clear hb8
                      go_wp2_with fail
                      exact ⟨⟨k + 1, by omega, by go_num, by rw [HSt.out, ← HQ.out], rfl, by rw [HSt.out], HB8.out⟩, by simp [RowKit.intOf] <;> omega⟩
                  · obtain rfl : k = 10 := by omega
                    rw [hH, HAll.out]
                    have hb5 := HB5.out
                    cases hd : dec1 i s with
                    | none =>
                      have HRd := Lib.hid (show digR m = ([], false) from digR_none (by unfold digsE; rw [if_pos HH.out, parts_none12 hlt (show dec1 i (gAt m i) = none by rw [← HSg.out]; exact hd)]))
                      clear hH hd
                      go_wp2_with fail
                      exact bodyPost_ret (v := .tuple #[.string ⟨#[]⟩, .bool false]) (by simp [results, Tryz.results84, go_sem]) rfl ⟨by rw [HRd.out], (HBx.out.trans hb5).trans hby⟩
                    | some p =>
                      obtain ⟨c, n⟩ := p
                      have hst := HDec.out
                      rw [hd] at hst
                      have HSt := Lib.hid (show partsE m (i + 1) = some (ps ++ [(c, n)]) from hst)
                      have hp1 := (parts_out (ps := ps) c n).1
                      have hp2 := (parts_out (ps := ps) c n).2
                      rw [← HP.out] at hp1
                      have hq1 : P ++ outOf (Option.some (c, n)).toList = outOf (ps ++ [(c, n)]) := by rw [hp1]; unfold outOf; simp
                      have hq2 : R = (rowOf (ps ++ [(c, n)])).take 6 := by
                        rw [hp2, HRw.out, List.take_append_of_le_length (by omega)]
                      have HQ2 := Lib.hid hq2
                      rw [hq1]
                      clear hp1 hp2 hq1 hq2 hst hH hd
                      go_wp2_with fail
                      exact ⟨⟨i + 1, _, by omega, by go_num, HSt.out, rfl, by rw [← HQ2.out], (HBx.out.trans hb5).trans hby⟩, by simp [RowKit.intOf] <;> omega⟩
            · obtain rfl : i = 12 := by omega
              obtain ⟨P, hP⟩ : ∃ P, P = outOf ps := ⟨_, rfl⟩
              obtain ⟨R, hRw⟩ : ∃ P, P = rowOf ps := ⟨_, rfl⟩
              obtain ⟨X, hX⟩ : ∃ X, X = R.take 6 := ⟨_, rfl⟩
              have HDg := Lib.hid (digs_ok HH.out hps hP hRw hX)
              rw [← hP] at hol ⊢
              rw [← hRw, ← hX]
              have HBx := Lib.hid hbx
              have hrw5 := rowsE_any wx (HT.out.bl hbx)
              have HRw := Lib.hid hrw5
              have HIx := Lib.hid (firstIdx_any X)
              clear hps hP hRw hbx hX hrw5 hrl
              cases hf : firstAt X with
              | none =>
                have hV : idxV X = -1 := by unfold idxV; rw [hf]
                rw [hV] at HIx
                have HRd := Lib.hid (digR_none (HDg.out.trans (by rw [hf]; rfl)))
                clear hV hf
                go_wp2_with fail
                refine HRw.out.mono ?_
                rintro e w5 ⟨g5, rfl, hr5, hb5⟩
                go_wp2_with fail
                refine (HIx.out g5 w5 hr5).mono ?_
                rintro e w6 ⟨rfl, hw6⟩
                subst hw6
                go_wp2_with fail
                exact bodyPost_ret (v := .tuple #[.string ⟨#[]⟩, .bool false]) (by simp [results, Tryz.results84, go_sem]) rfl ⟨by rw [HRd.out], HBx.out.trans hb5⟩
              | some f =>
                have hV : idxV X = (f : Int) := by unfold idxV; rw [hf]
                rw [hV] at HIx
                have hf10 : f < 10 := by
                  unfold firstAt at hf
                  exact (List.findIdx?_eq_some_iff_findIdx_eq.1 hf).1
                have hdg : digsE m = some (UInt8.ofNat (48 + f) :: P) := HDg.out.trans (by rw [hf]; rfl)
                have henc := enc_digit f hf10
                obtain ⟨N, hN⟩ : ∃ N, N = [UInt8.ofNat (48 + f)] := ⟨_, rfl⟩
                rw [← hN] at henc
                have hlN : N.length = 1 := by rw [hN]; rfl
                have hsN : (⟨N.toArray⟩ : ByteArray).size = N.length := Lib.size_mk N
                have hcat := cat_two N P
                have hsPP : (⟨P.toArray⟩ : ByteArray).size = P.length := Lib.size_mk P
                have hoN : ¬ (9223372036854775807 < N.length + P.length) := by omega
                obtain ⟨D, hD⟩ : ∃ D, D = N ++ P := ⟨_, rfl⟩
                rw [← hD] at hcat
                have HRd := Lib.hid (show digR m = (D, true) by unfold digR; rw [hdg, hD, hN]; rfl)
                clear hV hf hdg hN hD HDg
                go_wp2_with fail
                refine HRw.out.mono ?_
                rintro e w5 ⟨g5, rfl, hr5, hb5⟩
                go_wp2_with fail
                refine (HIx.out g5 w5 hr5).mono ?_
                rintro e w6 ⟨rfl, hw6⟩
                subst hw6
                go_wp2_with fail
                exact bodyPost_ret (v := .tuple #[.string ⟨D.toArray⟩, .bool true]) (by simp [results, Tryz.results84, go_sem]) rfl ⟨by rw [HRd.out], HBx.out.trans hb5⟩
        | false =>
          have HR := Lib.hid (digR_none (head_bad (m := m) (by rw [HHd.out, h3, h5, h9]; rfl)))
          clear HHd
          go_wp2_with fail
          exact bodyPost_ret (v := .tuple #[.string ⟨#[]⟩, .bool false]) (by simp [results, Tryz.results84, go_sem]) rfl ⟨by rw [HR.out], Bl.refl _⟩
      | false =>
        have HR := Lib.hid (digR_none (head_bad (m := m) (by rw [HHd.out, h3, h5]; rfl)))
        clear HHd
        go_wp2_with fail
        exact bodyPost_ret (v := .tuple #[.string ⟨#[]⟩, .bool false]) (by simp [results, Tryz.results84, go_sem]) rfl ⟨by rw [HR.out], Bl.refl _⟩
    | false =>
      have HR := Lib.hid (digR_none (head_bad (m := m) (by rw [HHd.out, h3]; rfl)))
      clear HHd
      go_wp2_with fail
      exact bodyPost_ret (v := .tuple #[.string ⟨#[]⟩, .bool false]) (by simp [results, Tryz.results84, go_sem]) rfl ⟨by rw [HR.out], Bl.refl _⟩
  · have hq95 : ((m.length : Int) == 95) = false := by rw [beq_eq_false_iff_ne]; omega
    have hlI : (m.length : Int) ≠ 95 := by omega
    have HR := Lib.hid (digR_none (head_bad (m := m) (by unfold headOK; rw [decide_eq_false h95]; rfl)))
    clear h95
    go_wp2_with fail
    exact bodyPost_ret (v := .tuple #[.string ⟨#[]⟩, .bool false]) (by simp [results, Tryz.results84, go_sem]) rfl ⟨by rw [HR.out], Bl.refl _⟩

end Go.Proofs.YtkipcobpnecmhaaGreatDoor
