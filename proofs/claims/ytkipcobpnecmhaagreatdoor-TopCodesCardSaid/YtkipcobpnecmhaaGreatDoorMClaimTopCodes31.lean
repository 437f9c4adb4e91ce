/- Code 39 in plain lists: what is drawn of a text is read as this text, also backwards. -/
import Derived.Test.YtkipcobpnecmhaaGreatDoorMClaimTopCodes30
import Derived.Test.YtkipcobpnecmhaaGreatDoorMClaimTopCodes6

namespace Go.Proofs.YtkipcobpnecmhaaGreatDoor
open Go.RowKit

def txt (ks : List Nat) : List UInt8 := ks.map fun k => lets44.getD k 0
def outR (s : List UInt8) : Option (List UInt8) := if lenOK s = true then (decP (runsM s)).map txt else none
def midT (t : List UInt8) : List UInt8 := (t.drop 1).take (t.length - 2)
def bodyT (t : List UInt8) : List UInt8 := (t.drop 1).take (t.length - 3)
def lastT (t : List UInt8) : List UInt8 := (t.drop (t.length - 2)).take 1
def shpT (t : List UInt8) : Bool := decide (4 ≤ t.length) && (decide (t.length ≤ 43) && (t.getD 0 0 == 42 && (t.getD (t.length - 1) 0 == 42 && !(midT t).contains 42)))
def rd39 (s : List UInt8) : List UInt8 × Int := match outR s with
  | none => ([], 2)
  | some t => if shpT t = true then (if letVal (bodyT t) = lastT t then (bodyT t, 0) else ([], 14)) else ([], 2)
theorem outR_made {s : List UInt8} (h : madeOf s [48, 49] = true) : outR s = (decM s).map txt := by
  unfold outR
  cases hl : lenOK s with
  | true => rw [if_pos rfl, dec_same (runsM_spec hl).2 (runsM_spec hl).1]
  | false => rw [if_neg (by decide), decM_bad h hl]; rfl
theorem lenOK_made {s : List UInt8} (h : madeOf s [48, 49] = false) : lenOK s = false := by
  unfold lenOK
  rw [h]
  simp
theorem outR_not {s : List UInt8} (h : madeOf s [48, 49] = false) : outR s = none := by
  unfold outR
  rw [lenOK_made h, if_neg (by decide)]
theorem rd_none {s : List UInt8} (h : outR s = none) : rd39 s = ([], 2) := by unfold rd39; rw [h]
theorem rd_shape {s t : List UInt8} (h : outR s = some t) (hs : shpT t = false) : rd39 s = ([], 2) := by unfold rd39; rw [h]; simp only [hs]; rfl
theorem rd_some {s t : List UInt8} (h : outR s = some t) (hs : shpT t = true) : rd39 s = if letVal (bodyT t) = lastT t then (bodyT t, 0) else ([], 14) := by unfold rd39; rw [h]; simp only [hs]; rfl
theorem txt_len (ks : List Nat) : (txt ks).length = ks.length := by unfold txt; rw [List.length_map]
theorem txt_add (ks : List Nat) (k : Nat) : txt (ks ++ [k]) = txt ks ++ [lets44.getD k 0] := by unfold txt; rw [List.map_append]; rfl
/-- A text of three parts. -/
theorem three {t : List UInt8} (h : 4 ≤ t.length) : t = t.getD 0 0 :: (midT t ++ [t.getD (t.length - 1) 0]) := by
  have h0 : t[0]? = some (t.getD 0 0) := by rw [List.getD_eq_getElem?_getD, List.getElem?_eq_getElem (by omega)]; rfl
  have hz : t[t.length - 1]? = some (t.getD (t.length - 1) 0) := by rw [List.getD_eq_getElem?_getD, List.getElem?_eq_getElem (by omega)]; rfl
  apply List.ext_getElem?
  intro i
  cases i with
  | zero => exact h0
  | succ i =>
    rw [List.getElem?_cons_succ]
    have hm : (midT t).length = t.length - 2 := by unfold midT; rw [List.length_take, List.length_drop]; omega
    by_cases h1 : i < t.length - 2
    · rw [List.getElem?_append_left (by omega)]
      unfold midT
      rw [List.getElem?_take_of_lt h1, List.getElem?_drop, Nat.add_comm]
    · rw [List.getElem?_append_right (by omega), hm]
      by_cases h2 : i = t.length - 2
      · rw [h2, Nat.sub_self, show t.length - 2 + 1 = t.length - 1 by omega, hz]
        rfl
      · rw [List.getElem?_eq_none (by omega), List.getElem?_eq_none (by simp; omega)]
theorem count_three {t : List UInt8} (h : 4 ≤ t.length) (h0 : t.getD 0 0 = 42) (hz : t.getD (t.length - 1) 0 = 42) : (Lib.countByte t 42 = 2) ↔ (midT t).contains 42 = false := by
  unfold Lib.countByte
  have e := three h
  rw [h0, hz] at e
  have hc : t.count 42 = (midT t).count 42 + 2 := by
    conv => lhs; rw [e]
    rw [List.count_cons_self, List.count_append]
    rfl
  rw [hc]
  constructor
  · intro h
    have : (midT t).count 42 = 0 := by omega
    have := List.count_eq_zero.1 this
    simpa using this
  · intro h
    have : 42 ∉ midT t := by simpa using h
    rw [List.count_eq_zero.2 this]
theorem txt_mem {ks : List Nat} (h : ∀ k ∈ ks, k < 44) : ∀ c ∈ txt ks, c ∈ lets44 := by
  intro c hc
  obtain ⟨k, hk, rfl⟩ := List.mem_map.1 hc
  have : ∀ k < 44, lets44.getD k 0 ∈ lets44 := by decide +kernel
  exact this k (h k hk)
theorem let_or : ∀ c ∈ lets44, c = 42 ∨ isLet c = true := by
  have : ∀ c ∈ lets44, (c == 42 || isLet c) = true := by decide +kernel
  intro c hc
  simpa using this c hc
theorem mid_ok {t : List UInt8} (hm : ∀ c ∈ t, c ∈ lets44) (h : (midT t).contains 42 = false) : lettersOk (midT t) = true := by
  unfold lettersOk
  rw [List.all_eq_true]
  intro c hc
  have hct : c ∈ t := by unfold midT at hc; exact List.mem_of_mem_drop (List.mem_of_mem_take hc)
  rcases let_or c (hm c hct) with rfl | h'
  · have : 42 ∉ midT t := by simpa using h
    exact absurd hc this
  · exact h'
theorem body_mid {t : List UInt8} (h : 4 ≤ t.length) : bodyT t = (midT t).take (t.length - 3) ∧ midT t = bodyT t ++ lastT t := by
  constructor
  · unfold bodyT midT
    rw [List.take_take, Nat.min_eq_left (by omega)]
  · unfold midT bodyT lastT
    obtain ⟨n, hn⟩ : ∃ n, t.length = n + 3 := ⟨t.length - 3, by omega⟩
    rw [hn, show n + 3 - 2 = n + 1 by omega, show n + 3 - 3 = n by omega, List.take_add_one, List.getElem?_drop, show 1 + n = n + 1 by omega]
    congr 1
    rw [List.take_one, List.head?_drop]
theorem body_ok {t : List UInt8} (hm : ∀ c ∈ t, c ∈ lets44) (hs : shpT t = true) : lettersOk (bodyT t) = true ∧ 1 ≤ (bodyT t).length ∧ (bodyT t).length ≤ 40 ∧ letErr (bodyT t) = 0 := by
  unfold shpT at hs
  simp only [Bool.and_eq_true, decide_eq_true_eq, beq_iff_eq, Bool.not_eq_true'] at hs
  obtain ⟨h4, h43, h0, hz, hc⟩ := hs
  have h1 := mid_ok hm hc
  have hb : lettersOk (bodyT t) = true := by
    rw [(body_mid h4).1]
    unfold lettersOk at h1 ⊢
    rw [List.all_eq_true] at h1 ⊢
    exact fun x hx => h1 x (List.mem_of_mem_take hx)
  have hl : (bodyT t).length = t.length - 3 := by unfold bodyT; rw [List.length_take, List.length_drop]; omega
  refine ⟨hb, by omega, by omega, ?_⟩
  unfold letErr
  rw [if_neg (fun e => by rw [e] at hl; simp at hl; omega), if_neg (by omega), if_pos hb]
/-! the map of the pieces -/
def tabN : Nat → List (List UInt8 × Nat)
  | 0 => []
  | k + 1 => (pieceK k, k) :: tabN k
theorem tabN_look (p : List UInt8) : ∀ n, n ≤ 44 → ∀ j, (tabN n).lookup p = some j ↔ j < n ∧ pieceK j = p
  | 0, _, j => by simp [tabN]
  | n + 1, hn, j => by
    have ih := tabN_look p n (by omega) j
    unfold tabN
    rw [List.lookup]
    by_cases h : p = pieceK n
    · subst h
      simp only [beq_self_eq_true]
      constructor
      · intro e; obtain rfl := Option.some.inj e; exact ⟨by omega, rfl⟩
      · rintro ⟨h1, h2⟩; rw [pieceK_inj j (by omega) n (by omega) h2]
    · have hb : (p == pieceK n) = false := by simpa using h
      simp only [hb]
      rw [ih]
      constructor
      · rintro ⟨h1, h2⟩; exact ⟨by omega, h2⟩
      · rintro ⟨h1, h2⟩
        refine ⟨?_, h2⟩
        rcases Nat.lt_or_ge j n with h3 | h3
        · exact h3
        · exact absurd (by rw [show j = n by omega] at h2; exact h2.symm) h
theorem tabN_find (p : List UInt8) : (tabN 44).lookup p = (List.range 44).find? fun k => pieceK k == p := by
  cases hf : (List.range 44).find? fun k => pieceK k == p with
  | some k =>
    obtain ⟨h1, h2⟩ := find_range hf
    exact (tabN_look p 44 (Nat.le_refl _) k).2 ⟨h1, by simpa using h2⟩
  | none =>
    cases hl : (tabN 44).lookup p with
    | none => rfl
    | some j =>
      obtain ⟨h1, h2⟩ := (tabN_look p 44 (Nat.le_refl _) j).1 hl
      have := List.find?_eq_none.1 hf j (List.mem_range.2 h1)
      exact absurd (by simpa using h2) this
theorem parts_none_dec {rs : List Nat} {j : Nat} (hj : 10 * j < rs.length) (hg : gP rs j = none) : decP rs = none := by
  unfold decP
  by_cases h : rs.length % 10 = 9
  · rw [if_pos h, partsP_eq]
    exact partsG_none_of (by omega) hg
  · rw [if_neg h]
theorem partsP_step {rs : List Nat} {j : Nat} {ks : List Nat} {k : Nat} (h : partsP rs j = some ks) (hg : gP rs j = some k) : partsP rs (j + 1) = some (ks ++ [k]) := by
  rw [partsP_eq] at h ⊢
  exact partsG_some h hg
theorem partsP_lt {rs : List Nat} {j : Nat} {ks : List Nat} (h : partsP rs j = some ks) : ks.length = j ∧ ∀ k ∈ ks, k < 44 := by
  rw [partsP_eq, partsG_iff] at h
  refine ⟨h.1, fun k hk => ?_⟩
  obtain ⟨i, hi, rfl⟩ := List.getElem_of_mem hk
  exact ((gP_iff _ _ _).1 (h.2 i _ (List.getElem?_eq_getElem hi))).2.1

end Go.Proofs.YtkipcobpnecmhaaGreatDoor


/-! bar.read39: what is read of modules as they are. -/
namespace Go.Proofs.YtkipcobpnecmhaaGreatDoor
open Go.RowKit Go.Shelf

def natV (n : Nat) : Value := .int .i64 (n : Int)
theorem nat_cell {w : World} {ad : Addr} {m : Nat} {rs : List Nat} {i n : Nat} (h : Reads w 1 (some ad) m (natCells rs)) (hi : rs[i]? = some n) : w.cell? (ad.add i) = some (.int .i64 (n : Int)) := by
  have hlt := (List.getElem?_eq_some_iff.1 hi).1
  have hl : (natCells rs).length = rs.length := natCells_len rs
  have hm := h.1
  obtain ⟨ad', e, hc⟩ := h.2 (by omega)
  obtain rfl := Option.some.inj e
  refine hc i _ ?_
  unfold natCells
  rw [List.getElem?_map, hi]
  rfl
set_option maxRecDepth 1000000 in
set_option maxHeartbeats 16000000 in
theorem read39_any (s : List UInt8) (w : World) (hl : s.length ≤ 1048576) (hT : SpOk w) :
    Calls Tryz.prog 117 #[.string ⟨s.toArray⟩] w fun e w' => e = .returned (.tuple #[.string ⟨(rd39 s).1.toArray⟩, .int .i64 (rd39 s).2]) ∧ Bl w w' := by
  have HT := Lib.hid hT
  have Hle := Lib.hid (lengths_any s w hl)
  clear hT
  go_enter Tryz.func117, Tryz.ntmps117
  go_wp2_with fail
  refine Hle.out.mono ?_
  rintro e w1 ⟨R, m, d, rfl, hbad, hgood, hb1⟩
  cases hok : lenOK s with
  | false =>
    obtain ⟨rfl, rfl⟩ := hbad hok
    have HR := Lib.hid (rd_none (s := s) (by unfold outR; rw [hok, if_neg (by decide)]))
    clear hok hbad hgood Hle
    go_wp2_with fail
    exact bodyPost_ret (v := .tuple #[.string ⟨#[]⟩, .int .i64 2]) (by simp [results, Tryz.results117, go_sem]) rfl ⟨by rw [HR.out], hb1⟩
  | true =>
    obtain ⟨hm, hrd, hmd⟩ := hgood hok
    have hOut : outR s = (decP (runsM s)).map txt := by unfold outR; rw [hok, if_pos rfl]
    obtain ⟨rs, hrs⟩ : ∃ rs, rs = runsM s := ⟨_, rfl⟩
    rw [← hrs] at hm hrd hOut
    have hlen := rn_len s s.length
    have hml : m ≤ 1048577 := by
      rw [hm, hrs]
      unfold runsM
      rw [List.length_append, List.length_singleton]
      omega
    have HOut := Lib.hid hOut; have HRd := Lib.hid hrd; have HM := Lib.hid hm; have HB1 := Lib.hid hb1
    by_cases h9 : m % 10 = 9
    · obtain ⟨ad, u0, rfl, -, -⟩ := hrd.at_ (k := 0) (by omega)
      have hm9 : (m : Int) % 10 = 9 := by omega
      have HM9 := Lib.hid h9
      clear hbad hgood hok hrd hOut hrs hlen hm hb1 Hle h9
      have hmm := @run_makeMap Tryz.prog
      have hmt := Tryz.underlying162
      go_wp2_with fail
      obtain ⟨b0, hb0⟩ : ∃ b, b = w1.heap.size := ⟨_, rfl⟩
      have hm0 : MapL strV natV (w1.alloc (.map #[] 0)) b0 ([] : List (List UInt8 × Nat)) := by rw [hb0]; exact MapL.new _
      have hb2 : Bl w1 (w1.alloc (.map #[] 0)) := (Bl.refl _).alloc _
      have HB0 := Lib.hid (show w1.heap.size ≤ b0 by rw [hb0]; exact Nat.le_refl _)
      rw [← hb0]
      generalize w1.alloc (.map #[] 0) = w2 at hm0 hb2 ⊢
      clear hb0 hmm
      refine (pieces_any _ (HT.out.bl (HB1.out.trans hb2))).mono ?_
      rintro e w3 ⟨gp, rfl, hr3, hb3⟩
      have hm3 := hm0.bl hb3
      have HGb := Lib.hid (show gp ≠ b0 from by
        obtain ⟨es, c, h1⟩ := hm3.block
        exact map_ne h1 hr3 (by decide))
      have HSt := Lib.hid (And.intro (hb2.trans hb3) (And.intro hr3 hm3))
      clear hm0 hb2 hr3 hb3 hm3
      go_wp2_with fail
      go_loopw [35] (fun v wr => ∃ d : Nat, d ≤ 44 ∧ v = .int .i64 d ∧ Bl w1 wr ∧ Reads wr 1 (some ⟨gp, 0, none⟩) pieceC.length (strCells' pieceC) ∧ MapL strV natV wr b0 (tabN d)) (fun v _ => 44 - (RowKit.intOf v).toNat)
      case atStart => exact ⟨0, Nat.zero_le _, rfl, HSt.out.1, HSt.out.2.1, HSt.out.2.2⟩
      case round =>
        rename World => wr
        obtain ⟨k, hk, rfl, hbr, hrr, hmr⟩ := hrel
        by_cases hlt : k < 44
        · obtain ⟨ad', ea, c0⟩ := str_at hrr (pieceC_at k hlt)
          obtain rfl := Option.some.inj ea
          rw [add_flat] at c0
          have hkI : (k : Int) < (pieceC.length : Int) := by show (k : Int) < 44; omega
          obtain ⟨w10, hu1, hm10, ho10⟩ := hmr.update (string_kind (P := Tryz.prog) Tryz.underlying9) hmt (pieceK k) k
          obtain ⟨P, hP⟩ : ∃ P, P = pieceK k := ⟨_, rfl⟩
          have hst : tabN (k + 1) = (pieceK k, k) :: tabN k := rfl
          rw [← hst] at hm10
          have hu1' : (Instr.mapUpdate 162 (.map (some b0)) (.string ⟨P.toArray⟩) (.int .i64 (k : Int))).run Tryz.prog wr = .ok () w10 := by rw [hP]; exact hu1
          rw [← hP] at c0
          have HM12 := Lib.hid hm10
          have HB12 := Lib.hid (ho10.2.2 w1 hbr HB0.out)
          have HR12 := Lib.hid (reads_heap hrr (ho10.1 gp HGb.out))
          clear hu1 hm10 ho10 hbr hrr hmr hP hst
          go_wp2_with fail
          exact ⟨⟨k + 1, by omega, by go_num, HB12.out, HR12.out, HM12.out⟩, by simp [RowKit.intOf] <;> omega⟩
        · obtain rfl : k = 44 := by omega
          have hkI : ¬ ((44 : Int) < (pieceC.length : Int)) := by show ¬ ((44 : Int) < 44); decide
          have HMp := Lib.hid hmr; have HBr := Lib.hid hbr
          clear hmr hbr hrr
          go_wp2_with fail
          have hmt2 := Tryz.underlying163
          go_loopw [9, 10] (fun s9 s10 wx => ∃ (j : Nat) (ks : List Nat), 10 * j ≤ m + 1 ∧ s10 = .int .i64 ((10 * j : Nat) : Int) ∧ partsP rs j = some ks ∧ s9 = .string ⟨(txt ks).toArray⟩ ∧ Bl wr wx) (fun _ v _ => m + 10 - (RowKit.intOf v).toNat)
          case atStart => exact ⟨0, [], by omega, rfl, rfl, rfl, Bl.refl _⟩
          case round =>
            rename World => wx
            obtain ⟨j, ks, hj, rfl, hps, rfl, hbx⟩ := hrel
            obtain ⟨hkl, hk44⟩ := partsP_lt hps
            obtain ⟨i, hi⟩ : ∃ i, i = 10 * j := ⟨_, rfl⟩
            rw [← hi] at hj ⊢
            have HPs := Lib.hid hps; have HBx := Lib.hid hbx; have HI := Lib.hid hi; have HK44 := Lib.hid hk44
            have htl := txt_len ks
            obtain ⟨T, hT⟩ : ∃ T, T = txt ks := ⟨_, rfl⟩
            rw [← hT] at htl ⊢
            have HTx := Lib.hid hT
            have hTl : T.length ≤ 1048577 := by omega
            clear hps hbx hT hk44
            by_cases hlt : i < m
            · have hm9 := HM9.out
              have hi9 : i + 9 ≤ m := by omega
              have hid : i + 9 ≤ d := by omega
              have hltI : (i : Int) < (m : Int) := by omega
              have HKl := Lib.hid hkl; have HTl := Lib.hid htl
              clear hi hkl htl hm9
              go_upto_region 15 with fail
              go_wp2_with fail
              try rw [show i + 9 - i = 9 from Nat.add_sub_cancel_left _ _]
              go_loopw [11, 56] (fun s11 s56 wy => ∃ x : Nat, x ≤ 9 ∧ s56 = .int .i64 (x : Int) ∧ s11 = .string ⟨(pat ((rs.drop i).take x)).toArray⟩ ∧ ((rs.drop i).take x).all (fun n => n == 1 || n == 3) = true ∧ Bl wx wy) (fun _ v _ => 9 - (RowKit.intOf v).toNat)
              case atStart => exact ⟨0, Nat.zero_le _, rfl, rfl, rfl, Bl.refl _⟩
              case round =>
                rename World => wy
                obtain ⟨x, hx, rfl, rfl, hall, hby⟩ := hrel
                have HAl := Lib.hid hall; have HBy := Lib.hid hby
                by_cases hxt : x < 9
                · have hixm : i + x < rs.length := by have := HM.out; omega
                  obtain ⟨n, hn⟩ : ∃ n, rs[i + x]? = some n := ⟨_, List.getElem?_eq_getElem hixm⟩
                  have hcx := nat_cell (HRd.out.bl (HBr.out.trans (HBx.out.trans hby))) hn
                  have hcx2 : wy.cell? ((ad.add i).add x) = some (.int .i64 (n : Int)) := by rw [add_of_add]; exact hcx
                  have hgx : (rs.drop i)[x]? = some n := by rw [List.getElem?_drop]; exact hn
                  have HTk := Lib.hid (show (rs.drop i).take (x + 1) = (rs.drop i).take x ++ [n] by rw [List.take_add_one, hgx]; rfl)
                  have hpt : pat ((rs.drop i).take (x + 1)) = pat ((rs.drop i).take x) ++ [if n = 3 then 119 else 110] := by rw [HTk.out]; unfold pat; rw [List.map_append]; rfl
                  obtain ⟨M, hM⟩ : ∃ M, M = pat ((rs.drop i).take x) := ⟨_, rfl⟩
                  have hMl : M.length ≤ 9 := by rw [hM]; unfold pat; rw [List.length_map, List.length_take]; omega
                  rw [← hM] at hpt ⊢
                  have hsM : (⟨M.toArray⟩ : ByteArray).size = M.length := Lib.size_mk M
                  have HPt := Lib.hid hpt
                  have HGx := Lib.hid hgx
                  clear hpt hM hn hgx hall hby
                  by_cases h1 : n = 1
                  · obtain rfl : n = 1 := h1
                    have HSt := Lib.hid (show pat ((rs.drop i).take (x + 1)) = M ++ [110] from HPt.out)
                    have HAl2 := Lib.hid (show ((rs.drop i).take (x + 1)).all (fun n => n == 1 || n == 3) = true by rw [HTk.out, List.all_append, HAl.out]; rfl)
                    have hoM : ¬ (9223372036854775807 < M.length + 1) := by omega
                    have hcat : (⟨M.toArray⟩ : ByteArray) ++ ⟨#[110]⟩ = ⟨(M ++ [110]).toArray⟩ := cat_two M [110]
                    clear HPt
                    go_upto_region 20 with fail
                    obtain ⟨K, hK⟩ : ∃ K, K = wy.heap.size := ⟨_, rfl⟩
                    have q0 : MapL (fun z : Int => .int .i64 z) strV (wy.alloc (.map #[] 0)) K ([] : List (Int × List UInt8)) := by rw [hK]; exact MapL.new _
                    have q1 : Bl wy (wy.alloc (.map #[] 0)) := (Bl.refl _).alloc _
                    have hKl : wy.heap.size ≤ K := by rw [hK]; exact Nat.le_refl _
                    have hmk : ∀ t, (Instr.makeMap t none).run Tryz.prog wy = .ok (.map (some K)) (wy.alloc (.map #[] 0)) := fun t => by rw [hK]; exact run_makeMap t wy
                    generalize wy.alloc (.map #[] 0) = w20 at q0 q1 hmk
                    obtain ⟨w21, q2, q3, q4⟩ := q0.update (int_kind (P := Tryz.prog) Tryz.underlying3) hmt2 1 [110]
                    obtain ⟨w22, q5, q6, q7⟩ := q3.update (int_kind (P := Tryz.prog) Tryz.underlying3) hmt2 3 [119]
                    have q2' : (Instr.mapUpdate 163 (.map (some K)) (.int .i64 1) (.string ⟨#[110]⟩)).run Tryz.prog w20 = .ok () w21 := q2
                    have q5' : (Instr.mapUpdate 163 (.map (some K)) (.int .i64 3) (.string ⟨#[119]⟩)).run Tryz.prog w21 = .ok () w22 := q5
                    have q8 := q6.lookup1 (int_kind (P := Tryz.prog) Tryz.underlying3) hmt2 (Tryz.zeroValue9 w22) 1
                    have q8' : (Instr.lookup 163 (.map (some K)) (.int .i64 1) false).run Tryz.prog w22 = .ok (.string ⟨#[110]⟩) w22 := q8
                    have HB22 := Lib.hid (HBy.out.trans (q7.2.2 wy (q4.2.2 wy q1 hKl) hKl))
                    clear q0 q1 q2 q3 q4 q5 q6 q7 q8 hK hKl
                    go_wp2_with fail
                    exact ⟨⟨x + 1, by omega, by go_num, by rw [HSt.out, ← hcat], HAl2.out, HB22.out⟩, by simp [RowKit.intOf] <;> omega⟩
                  · by_cases h3 : n = 3
                    · obtain rfl : n = 3 := h3
                      have HSt := Lib.hid (show pat ((rs.drop i).take (x + 1)) = M ++ [119] from HPt.out)
                      have HAl2 := Lib.hid (show ((rs.drop i).take (x + 1)).all (fun n => n == 1 || n == 3) = true by rw [HTk.out, List.all_append, HAl.out]; rfl)
                      have hoM : ¬ (9223372036854775807 < M.length + 1) := by omega
                      have hcat : (⟨M.toArray⟩ : ByteArray) ++ ⟨#[119]⟩ = ⟨(M ++ [119]).toArray⟩ := cat_two M [119]
                      clear HPt
                      go_upto_region 20 with fail
                      obtain ⟨K, hK⟩ : ∃ K, K = wy.heap.size := ⟨_, rfl⟩
                      have q0 : MapL (fun z : Int => .int .i64 z) strV (wy.alloc (.map #[] 0)) K ([] : List (Int × List UInt8)) := by rw [hK]; exact MapL.new _
                      have q1 : Bl wy (wy.alloc (.map #[] 0)) := (Bl.refl _).alloc _
                      have hKl : wy.heap.size ≤ K := by rw [hK]; exact Nat.le_refl _
                      have hmk : ∀ t, (Instr.makeMap t none).run Tryz.prog wy = .ok (.map (some K)) (wy.alloc (.map #[] 0)) := fun t => by rw [hK]; exact run_makeMap t wy
                      generalize wy.alloc (.map #[] 0) = w20 at q0 q1 hmk
                      obtain ⟨w21, q2, q3, q4⟩ := q0.update (int_kind (P := Tryz.prog) Tryz.underlying3) hmt2 1 [110]
                      obtain ⟨w22, q5, q6, q7⟩ := q3.update (int_kind (P := Tryz.prog) Tryz.underlying3) hmt2 3 [119]
                      have q2' : (Instr.mapUpdate 163 (.map (some K)) (.int .i64 1) (.string ⟨#[110]⟩)).run Tryz.prog w20 = .ok () w21 := q2
                      have q5' : (Instr.mapUpdate 163 (.map (some K)) (.int .i64 3) (.string ⟨#[119]⟩)).run Tryz.prog w21 = .ok () w22 := q5
                      have q8 := q6.lookup1 (int_kind (P := Tryz.prog) Tryz.underlying3) hmt2 (Tryz.zeroValue9 w22) 3
                      have q8' : (Instr.lookup 163 (.map (some K)) (.int .i64 3) false).run Tryz.prog w22 = .ok (.string ⟨#[119]⟩) w22 := q8
                      have HB22 := Lib.hid (HBy.out.trans (q7.2.2 wy (q4.2.2 wy q1 hKl) hKl))
                      clear q0 q1 q2 q3 q4 q5 q6 q7 q8 hK hKl
                      go_wp2_with fail
                      exact ⟨⟨x + 1, by omega, by go_num, by rw [HSt.out, ← hcat], HAl2.out, HB22.out⟩, by simp [RowKit.intOf] <;> omega⟩
                    · have HR := Lib.hid (rd_none (s := s) (by
                        have hg : gP rs j = none := by
                          unfold gP
                          rw [if_neg]
                          rintro ⟨ha, -⟩
                          rw [← HI.out] at ha
                          have hx9 : ((rs.drop i).take 9)[x]? = some n := by rw [List.getElem?_take_of_lt hxt]; exact HGx.out
                          have := List.all_eq_true.1 ha n (List.mem_of_getElem? hx9)
                          simp [h1, h3] at this
                        rw [HOut.out, parts_none_dec (by rw [← HI.out, ← HM.out]; exact hlt) hg]
                        rfl))
                      have n1 : ¬ ((n : Int) = 1) := by omega
                      have n3 : ¬ ((n : Int) = 3) := by omega
                      have n1b : ((n : Int) == 1) = false := by rw [beq_eq_false_iff_ne]; exact n1
                      have n3b : ((n : Int) == 3) = false := by rw [beq_eq_false_iff_ne]; exact n3
                      clear HPt
                      have key : ¬ (((n : Int) != 1) = false ∨ ((n : Int) != 3) = false) := by
                        rintro (h | h)
                        · rw [bne_eq_false_iff_eq] at h; exact n1 h
                        · rw [bne_eq_false_iff_eq] at h; exact n3 h
                      have Key := Lib.hid key
                      clear key
                      go_wp2_with fail
                      all_goals first
                        | (exact bodyPost_ret (v := .tuple #[.string ⟨#[]⟩, .int .i64 2]) (by simp [results, Tryz.results117, go_sem]) rfl ⟨by rw [HR.out], HB1.out.trans (HBr.out.trans (HBx.out.trans HBy.out))⟩)
                        | exact absurd (by assumption) Key.out
                · obtain rfl : x = 9 := by omega
                  obtain ⟨G, hG⟩ : ∃ G, G = (rs.drop i).take 9 := ⟨_, rfl⟩
                  rw [← hG] at hall ⊢
                  have hGl : G.length ≤ 9 := by rw [hG, List.length_take]; omega
                  obtain ⟨M, hM⟩ : ∃ M, M = pat G := ⟨_, rfl⟩
                  rw [← hM]
                  have hlk0 := (HMp.out.bl (HBx.out.trans hby)).lookup2 (string_kind (P := Tryz.prog) Tryz.underlying9) hmt (Tryz.zeroValue3 wy) M
                  rw [tabN_find] at hlk0
                  have hgp : gP rs j = if (G.all fun n => n == 1 || n == 3) = true ∧ (i + 9 < rs.length → rs.getD (i + 9) 0 = 1) then (List.range 44).find? fun k => pieceK k == M else none := by
                    unfold gP
                    rw [← HI.out, ← hG, ← hM]
                  have HGp := Lib.hid hgp; have HG1 := Lib.hid hall
                  clear hG hM hgp hall
                  cases hf : (List.range 44).find? fun k => pieceK k == M with
                  | none =>
                    rw [hf] at hlk0
                    have hlk : (Instr.lookup 162 (.map (some b0)) (.string ⟨M.toArray⟩) true).run Tryz.prog wy = .ok (.tuple #[.int .i64 0, .bool false]) wy := hlk0
                    have HR := Lib.hid (rd_none (s := s) (by
                      have hg : gP rs j = none := by
                        rw [HGp.out]
                        split
                        · exact hf
                        · rfl
                      rw [HOut.out, parts_none_dec (by rw [← HI.out, ← HM.out]; exact hlt) hg]
                      rfl))
                    clear hlk0 hf hby
                    go_wp2_with fail
                    exact bodyPost_ret (v := .tuple #[.string ⟨#[]⟩, .int .i64 2]) (by simp [results, Tryz.results117, go_sem]) rfl ⟨by rw [HR.out], HB1.out.trans (HBr.out.trans (HBx.out.trans HBy.out))⟩
                  | some k =>
                    rw [hf] at hlk0
                    have hlk : (Instr.lookup 162 (.map (some b0)) (.string ⟨M.toArray⟩) true).run Tryz.prog wy = .ok (.tuple #[.int .i64 (k : Int), .bool true]) wy := hlk0
                    have hk4 := (find_range hf).1
                    have hex := letOf lets44 k 44 hk4 (by decide)
                    obtain ⟨X, hX⟩ : ∃ X, X = [lets44.getD k 0] := ⟨_, rfl⟩
                    rw [← hX] at hex
                    have hX1 : X.length = 1 := by rw [hX]; rfl
                    unfold lets44 at hex
                    have hsT : (⟨T.toArray⟩ : ByteArray).size = T.length := Lib.size_mk T
                    have hsX : (⟨X.toArray⟩ : ByteArray).size = X.length := Lib.size_mk X
                    have hoT : ¬ (9223372036854775807 < T.length + X.length) := by omega
                    have hcat := cat_two T X
                    have HXt := Lib.hid (show txt (ks ++ [k]) = T ++ X by rw [txt_add, HTx.out, hX])
                    have HFf := Lib.hid hf
                    clear hlk0 hf hX
                    by_cases h9 : i + 9 < m
                    · have h9I : (i : Int) + 9 < (m : Int) := by omega
                      have h9d : i + 9 < d := by omega
                      obtain ⟨n, hn⟩ : ∃ n, rs[i + 9]? = some n := ⟨_, List.getElem?_eq_getElem (by have := HM.out; omega)⟩
                      have hcx := nat_cell (HRd.out.bl (HBr.out.trans (HBx.out.trans hby))) hn
                      have hcx3 : wy.cell? ⟨ad.block, ad.off + (i + 8 + 1), none⟩ = some (.int .i64 (n : Int)) := hcx
                      have hgn : rs.getD (i + 9) 0 = n := by rw [List.getD_eq_getElem?_getD, hn]; rfl
                      have HGn := Lib.hid hgn
                      clear hn hgn hby
                      by_cases h1 : n = 1
                      · subst h1
                        have HNx := Lib.hid (partsP_step HPs.out (show gP rs j = some k by rw [HGp.out, if_pos ⟨HG1.out, fun _ => HGn.out⟩]; exact HFf.out))
                        go_wp2_with fail
                        exact ⟨⟨j + 1, ks ++ [k], by have := HI.out; omega, by rw [show (10 * (j + 1) : Nat) = i + 10 by rw [HI.out]; omega]; simp, HNx.out, by rw [HXt.out, ← hcat], HBx.out.trans HBy.out⟩, by simp [RowKit.intOf] <;> omega⟩
                      · have HR := Lib.hid (rd_none (s := s) (by
                          have hg : gP rs j = none := by
                            rw [HGp.out, if_neg]
                            rintro ⟨-, hb⟩
                            exact h1 (HGn.out.symm.trans (hb (by have := HM.out; omega)))
                          rw [HOut.out, parts_none_dec (by rw [← HI.out, ← HM.out]; exact hlt) hg]
                          rfl))
                        have n1 : ¬ ((n : Int) = 1) := by omega
                        have n1b : ((n : Int) == 1) = false := by rw [beq_eq_false_iff_ne]; exact n1
                        go_wp2_with fail
                        exact bodyPost_ret (v := .tuple #[.string ⟨#[]⟩, .int .i64 2]) (by simp [results, Tryz.results117, go_sem]) rfl ⟨by rw [HR.out], HB1.out.trans (HBr.out.trans (HBx.out.trans HBy.out))⟩
                    · have h9I : ¬ ((i : Int) + 9 < (m : Int)) := by omega
                      have HNx := Lib.hid (partsP_step HPs.out (show gP rs j = some k by rw [HGp.out, if_pos ⟨HG1.out, fun h => absurd h (by have := HM.out; omega)⟩]; exact HFf.out))
                      have h9m : i + 9 = m := by omega
                      have H9 := Lib.hid h9m
                      clear h9 hby h9m
                      go_wp2_with fail
                      exact ⟨⟨j + 1, ks ++ [k], by have := HI.out; have := H9.out; omega, by rw [show (10 * (j + 1) : Nat) = i + 10 by rw [HI.out]; omega]; simp, HNx.out, by rw [HXt.out, ← hcat], HBx.out.trans HBy.out⟩, by simp [RowKit.intOf] <;> omega⟩
            · have hjm : 10 * j = m + 1 := by have := HM9.out; omega
              have hdk : decP rs = some ks := by
                unfold decP
                rw [← HM.out, if_pos HM9.out, show (m + 1) / 10 = j by omega]
                exact HPs.out
              have hout : outR s = some T := by rw [HOut.out, hdk, HTx.out]; rfl
              have hTm : ∀ c ∈ T, c ∈ lets44 := by rw [HTx.out]; exact txt_mem HK44.out
              have HO := Lib.hid hout; have HTm := Lib.hid hTm
              have hltI : ¬ ((i : Int) < (m : Int)) := by omega
              have hsT : (⟨T.toArray⟩ : ByteArray).size = T.length := Lib.size_mk T
              have hD : shpT T = (decide (4 ≤ T.length) && (decide (T.length ≤ 43) && (T.getD 0 0 == 42 && (T.getD (T.length - 1) 0 == 42 && !(midT T).contains 42)))) := rfl
              have HD := Lib.hid hD
              clear hjm hdk hout hTm hi hkl htl hj hD
              by_cases h4 : 4 ≤ T.length
              · by_cases h43 : T.length ≤ 43
                · obtain ⟨n, hn⟩ : ∃ n, T.length = n + 3 := ⟨T.length - 3, by omega⟩
                  have hmany : (T.length : Int) - 3 = (n : Int) := by omega
                  have hn1 : ¬ ((n : Int) < 1) := by omega
                  have hn40 : ¬ ((40 : Int) < (n : Int)) := by omega
                  have hn1N : ¬ (n = 0) := by omega
                  have hn40N : ¬ (40 < n) := by omega
                  obtain ⟨a, ha⟩ : ∃ a, T[0]? = some a := ⟨_, List.getElem?_eq_getElem (by omega)⟩
                  obtain ⟨L, hL⟩ : ∃ L, L = T.length - 1 := ⟨_, rfl⟩
                  obtain ⟨z, hz⟩ : ∃ z, T[L]? = some z := ⟨_, List.getElem?_eq_getElem (by omega)⟩
                  have hLI : (T.length : Int) - 1 = (L : Int) := by omega
                  have hLs : (L : Int) < (T.length : Int) := by omega
                  obtain ⟨a1, a2⟩ := bytes_at ha
                  obtain ⟨z1, z2⟩ := bytes_at hz
                  have hga : T.getD 0 0 = a := by rw [List.getD_eq_getElem?_getD, ha]; rfl
                  have hgz : T.getD (T.length - 1) 0 = z := by rw [← hL, List.getD_eq_getElem?_getD, hz]; rfl
                  have HD2 := Lib.hid (show shpT T = (a == 42 && (z == 42 && !(midT T).contains 42)) by rw [HD.out, decide_eq_true h4, decide_eq_true h43, hga, hgz]; rfl)
                  have HC3 := Lib.hid (fun (h1 : a = 42) (h2 : z = 42) => count_three h4 (hga.trans h1) (hgz.trans h2))
                  have hex1 : (⟨T.toArray⟩ : ByteArray).extract 1 (1 + n) = ⟨(bodyT T).toArray⟩ := by
                    rw [slice_ab]
                    unfold bodyT
                    rw [show 1 + n - 1 = T.length - 3 by omega]
                  have hex2 : (⟨T.toArray⟩ : ByteArray).extract (1 + n) (2 + n) = ⟨(lastT T).toArray⟩ := by
                    rw [slice_ab]
                    unfold lastT
                    rw [show 2 + n - (1 + n) = 1 by omega, show 1 + n = T.length - 2 by omega]
                  have HN := Lib.hid hn; have HLn := Lib.hid hL
                  have H43 := Lib.hid (And.intro h4 h43)
                  clear hga hgz ha hz hL h4 h43 HD hn
                  cases h42 : (a == 42) with
                  | false =>
                    have ha42 : ¬ ((a.toNat : Int) = 42) := fun e => by
                      have : a = 42 := UInt8.toNat_inj.1 (by have : (42 : UInt8).toNat = 42 := rfl; omega)
                      rw [this] at h42; cases h42
                    have hab : ((a.toNat : Int) == 42) = false := by rw [beq_eq_false_iff_ne]; exact ha42
                    have HR := Lib.hid (rd_shape HO.out (by rw [HD2.out, h42]; rfl))
                    clear h42 hex1 hex2
                    go_wp2_with fail
                    exact bodyPost_ret (v := .tuple #[.string ⟨#[]⟩, .int .i64 2]) (by simp [results, Tryz.results117, go_sem]) rfl ⟨by rw [HR.out], HB1.out.trans (HBr.out.trans HBx.out)⟩
                  | true =>
                    have hae : a = 42 := by simpa using h42
                    cases hz2 : (z == 42) with
                    | false =>
                      have hz42 : ¬ ((z.toNat : Int) = 42) := fun e => by
                        have : z = 42 := UInt8.toNat_inj.1 (by have : (42 : UInt8).toNat = 42 := rfl; omega)
                        rw [this] at hz2; cases hz2
                      have hzb : ((z.toNat : Int) == 42) = false := by rw [beq_eq_false_iff_ne]; exact hz42
                      have HR := Lib.hid (rd_shape HO.out (by rw [HD2.out, h42, hz2]; rfl))
                      clear h42 hz2 hex1 hex2
                      subst hae
                      go_wp2_with fail
                      exact bodyPost_ret (v := .tuple #[.string ⟨#[]⟩, .int .i64 2]) (by simp [results, Tryz.results117, go_sem]) rfl ⟨by rw [HR.out], HB1.out.trans (HBr.out.trans HBx.out)⟩
                    | true =>
                      have hze : z = 42 := by simpa using hz2
                      have hc3 := HC3.out hae hze
                      have HCt := Lib.hid (fun wx => cntB_any T 42 wx)
                      obtain ⟨cn, hcn⟩ : ∃ c, c = Lib.countByte T 42 := ⟨_, rfl⟩
                      rw [← hcn] at hc3 HCt
                      by_cases hq : cn = 2
                      · have hmid := hc3.1 hq
                        have hsh : shpT T = true := by rw [HD2.out, h42, hz2, hmid]; rfl
                        have hbo := body_ok HTm.out hsh
                        have hrd := rd_some HO.out hsh
                        have hcl := fun wx => checkLet_any (bodyT T) wx (by have := hbo.2.2.1; omega)
                        rw [hbo.2.2.2] at hcl
                        obtain ⟨V, hV⟩ : ∃ V, V = letVal (bodyT T) := ⟨_, rfl⟩
                        obtain ⟨Z, hZ⟩ : ∃ V, V = lastT T := ⟨_, rfl⟩
                        obtain ⟨Bd, hBd⟩ : ∃ V, V = bodyT T := ⟨_, rfl⟩
                        rw [← hV, ← hZ, ← hBd] at hrd
                        rw [← hZ] at hex2
                        rw [← hBd] at hex1
                        rw [← hV, ← hBd] at hcl
                        have HCl := Lib.hid hcl; have HRd := Lib.hid hrd
                        subst hq
                        clear h42 hz2 hc3 hmid hsh hbo hrd hcl hV hZ hBd hcn
                        subst hae
                        subst hze
                        go_wp2_with fail
                        refine (HCt.out _).mono ?_
                        rintro e w' ⟨rfl, hw⟩
                        subst hw
                        go_wp2_with fail
                        refine (HCl.out _).mono ?_
                        rintro e w7 ⟨rfl, hb7⟩
                        have HB7 := Lib.hid ((HB1.out.trans (HBr.out.trans HBx.out)).trans hb7)
                        clear hb7
                        cases hvz : (V == Z) with
                        | true =>
                          have HR := Lib.hid (HRd.out.trans (if_pos (by simpa using hvz)))
                          go_wp2_with fail
                          exact bodyPost_ret (v := .tuple #[.string ⟨Bd.toArray⟩, .int .i64 0]) (by simp [results, Tryz.results117, go_sem]; exact hex1) rfl ⟨by rw [HR.out], HB7.out⟩
                        | false =>
                          have HR := Lib.hid (HRd.out.trans (if_neg (by simpa using hvz)))
                          go_wp2_with fail
                          exact bodyPost_ret (v := .tuple #[.string ⟨#[]⟩, .int .i64 14]) (by simp [results, Tryz.results117, go_sem]) rfl ⟨by rw [HR.out], HB7.out⟩
                      · have hmid : (midT T).contains 42 = true := by
                          cases hx : (midT T).contains 42 with
                          | true => rfl
                          | false => exact absurd (hc3.2 hx) hq
                        have HR := Lib.hid (rd_shape HO.out (by rw [HD2.out, h42, hz2, hmid]; rfl))
                        have hq1 : ¬ ((cn : Int) = 2) := by omega
                        have hqb : ((cn : Int) == 2) = false := by rw [beq_eq_false_iff_ne]; exact hq1
                        clear h42 hz2 hex1 hex2 hc3 hmid hcn
                        subst hae
                        subst hze
                        go_wp2_with fail
                        refine (HCt.out _).mono ?_
                        rintro e w' ⟨rfl, hw⟩
                        subst hw
                        go_wp2_with fail
                        exact bodyPost_ret (v := .tuple #[.string ⟨#[]⟩, .int .i64 2]) (by simp [results, Tryz.results117, go_sem]) rfl ⟨by rw [HR.out], HB1.out.trans (HBr.out.trans HBx.out)⟩
                · have HR := Lib.hid (rd_shape HO.out (by rw [HD.out, decide_eq_false h43, Bool.false_and, Bool.and_false]))
                  have h1 : ¬ ((T.length : Int) - 3 < 1) := by omega
                  have h2 : (40 : Int) < (T.length : Int) - 3 := by omega
                  clear h4 h43 HD
                  go_wp2_with fail
                  exact bodyPost_ret (v := .tuple #[.string ⟨#[]⟩, .int .i64 2]) (by simp [results, Tryz.results117, go_sem]) rfl ⟨by rw [HR.out], HB1.out.trans (HBr.out.trans HBx.out)⟩
              · have HR := Lib.hid (rd_shape HO.out (by rw [HD.out, decide_eq_false h4, Bool.false_and]))
                have h1 : (T.length : Int) - 3 < 1 := by omega
                clear h4 HD
                go_wp2_with fail
                exact bodyPost_ret (v := .tuple #[.string ⟨#[]⟩, .int .i64 2]) (by simp [results, Tryz.results117, go_sem]) rfl ⟨by rw [HR.out], HB1.out.trans (HBr.out.trans HBx.out)⟩
    · have hdn : decP rs = none := by unfold decP; rw [← hm, if_neg h9]
      have HR := Lib.hid (rd_none (s := s) (by rw [hOut, hdn]; rfl))
      obtain ⟨q, hq⟩ : ∃ q, q = m % 10 := ⟨_, rfl⟩
      have hqm : (m : Int) % 10 = (q : Int) := by omega
      have hq9 : ¬ ((q : Int) = 9) := by omega
      have hq9b : ((q : Int) == 9) = false := by rw [beq_eq_false_iff_ne]; exact hq9
      clear hok hbad hgood Hle hdn hOut hrs hlen hm hrd hq h9
      go_wp2_with fail
      exact bodyPost_ret (v := .tuple #[.string ⟨#[]⟩, .int .i64 2]) (by simp [results, Tryz.results117, go_sem]) rfl ⟨by rw [HR.out], HB1.out⟩

end Go.Proofs.YtkipcobpnecmhaaGreatDoor


/-! bedref2.text39: the text of modules. -/
namespace Go.Proofs.YtkipcobpnecmhaaGreatDoor
open Go.RowKit Go.Shelf Go.Sort

def t39 (s : List UInt8) : List UInt8 × Bool := match outR s with
  | none => ([], false)
  | some t => if shpT t = true then (midT t, true) else ([], false)
theorem t39_none {s : List UInt8} (h : outR s = none) : t39 s = ([], false) := by unfold t39; rw [h]
theorem t39_shape {s t : List UInt8} (h : outR s = some t) (hs : shpT t = false) : t39 s = ([], false) := by unfold t39; rw [h]; simp only [hs]; rfl
/-- Whether letter k stands at a place. -/
def hit (m : List UInt8) (i k : Nat) : Bool := Lib.hasPrefix (m.drop i) (modK k) && (decide (i + 15 = m.length) || (m.getD (i + 15) 0 == 48))
end Go.Proofs.YtkipcobpnecmhaaGreatDoor


/-! bar.Read39, bedref2.Read39Of. -/
namespace Go.Proofs.YtkipcobpnecmhaaGreatDoor
open Go.RowKit Go.Shelf

set_option maxRecDepth 100000 in
set_option maxHeartbeats 2000000 in
theorem eitherW_any (g : Nat) (rd : List UInt8 → List UInt8 × Int) (eg : ∀ args w, (callFunc g args).run Tryz.prog w = .ok (.enter g args) w) (M : Nat) (hM : M ≤ 9223372036854775807)
    (w : World) (hr : ∀ (m : List UInt8) (W : World), m.length ≤ M → Bl w W → Calls Tryz.prog g #[.string ⟨m.toArray⟩] W fun e w' => e = .returned (.tuple #[.string ⟨(rd m).1.toArray⟩, .int .i64 (rd m).2]) ∧ Bl W w')
    (m : List UInt8) (hl : m.length ≤ M) :
    Calls Tryz.prog 115 #[.string ⟨m.toArray⟩, .func (.func g) #[] #[]] w fun e w' => e = .returned (.tuple #[.string ⟨(eitherG rd m).1.toArray⟩, .int .i64 (eitherG rd m).2]) ∧ Bl w w' := by
  have H1 := Lib.hid (hr m)
  have H2 := Lib.hid (hr m.reverse)
  have hb := fun wx => backwards_any m wx (by omega)
  unfold FlipRes at hb
  have Hb := Lib.hid hb
  obtain ⟨a, ha⟩ : ∃ a, a = (rd m).1 := ⟨_, rfl⟩
  obtain ⟨e1, he1⟩ : ∃ a, a = (rd m).2 := ⟨_, rfl⟩
  rw [← ha, ← he1] at H1
  obtain ⟨b, hb2⟩ : ∃ a, a = (rd m.reverse).1 := ⟨_, rfl⟩
  obtain ⟨e2, he2⟩ : ∃ a, a = (rd m.reverse).2 := ⟨_, rfl⟩
  rw [← hb2, ← he2] at H2
  obtain ⟨r, hrv⟩ : ∃ r, r = m.reverse := ⟨_, rfl⟩
  have hrl : r.length ≤ M := by rw [hrv, List.length_reverse]; exact hl
  by_cases hq : e1 = 2
  · have hE : eitherG rd m = rd m.reverse := by unfold eitherG; rw [← he1, if_pos hq]
    have HA := Lib.hid (show (eitherG rd m).1 = b from by rw [hE, hb2])
    have HB := Lib.hid (show (eitherG rd m).2 = e2 from by rw [hE, he2])
    rw [← hrv] at Hb H2
    subst hq
    clear hE ha he1 hb2 he2 hb hr hrv
    go_enter Tryz.func115, Tryz.ntmps115
    go_wp2_with fail
    refine (H1.out _ hl (Bl.refl _)).mono ?_
    rintro e w1 ⟨rfl, hb1⟩
    go_wp2_with fail
    refine (Hb.out _).mono ?_
    rintro e w2 ⟨rfl, hb2⟩
    go_wp2_with fail
    refine (H2.out _ hrl (hb1.trans hb2)).mono ?_
    rintro e w3 ⟨rfl, hb3⟩
    go_wp2_with fail
    exact bodyPost_ret (v := .tuple #[.string ⟨b.toArray⟩, .int .i64 e2]) (by simp [results, Tryz.results115, go_sem]) rfl ⟨by rw [HA.out, HB.out], (hb1.trans hb2).trans hb3⟩
  · have hE : eitherG rd m = rd m := by unfold eitherG; rw [← he1, if_neg hq]
    have HA := Lib.hid (show (eitherG rd m).1 = a from by rw [hE, ha])
    have HB := Lib.hid (show (eitherG rd m).2 = e1 from by rw [hE, he1])
    have hqb : (e1 == 2) = false := by rw [beq_eq_false_iff_ne]; exact hq
    clear hE ha he1 hb2 he2 hb hr hrv hq
    go_enter Tryz.func115, Tryz.ntmps115
    go_wp2_with fail
    refine (H1.out _ hl (Bl.refl _)).mono ?_
    rintro e w1 ⟨rfl, hb1⟩
    go_wp2_with fail
    exact bodyPost_ret (v := .tuple #[.string ⟨a.toArray⟩, .int .i64 e1]) (by simp [results, Tryz.results115, go_sem]) rfl ⟨by rw [HA.out, HB.out], hb1⟩
set_option maxRecDepth 100000 in
theorem read39x_any (m : List UInt8) (w : World) (hl : m.length ≤ 1048576) (hT : SpOk w) :
    Calls Tryz.prog 78 #[.string ⟨m.toArray⟩] w fun e w' => e = .returned (.tuple #[.string ⟨(eitherG rd39 m).1.toArray⟩, .int .i64 (eitherG rd39 m).2]) ∧ Bl w w' := by
  have H := Lib.hid (eitherW_any 117 rd39 (enters Tryz.func117 (by kernel_rfl) rfl) 1048576 (by decide) w (fun m W h hb => read39_any m W h (hT.bl hb)) m hl)
  obtain ⟨a, ha⟩ : ∃ a, a = (eitherG rd39 m).1 := ⟨_, rfl⟩
  obtain ⟨e1, he1⟩ : ∃ a, a = (eitherG rd39 m).2 := ⟨_, rfl⟩
  rw [← ha, ← he1] at H ⊢
  clear ha he1 hT
  go_enter Tryz.func78, Tryz.ntmps78
  go_wp2_with fail
  refine H.out.mono ?_
  rintro e w1 ⟨rfl, hb1⟩
  go_wp2_with fail
  exact bodyPost_ret (v := .tuple #[.string ⟨a.toArray⟩, .int .i64 e1]) (by simp [results, Tryz.results78, go_sem]) rfl ⟨rfl, hb1⟩
theorem t39_cases (s : List UInt8) : (∃ T, outR s = some T ∧ shpT T = true) ∨ (t39 s = ([], false) ∧ rd39 s = ([], 2)) := by
  cases h : outR s with
  | none => exact .inr ⟨t39_none h, rd_none h⟩
  | some T =>
    cases hs : shpT T with
    | true => exact .inl ⟨T, rfl, hs⟩
    | false => exact .inr ⟨t39_shape h hs, rd_shape h hs⟩
theorem shp_len {T : List UInt8} (h : shpT T = true) : 4 ≤ T.length ∧ T.length ≤ 43 := by
  unfold shpT at h
  simp only [Bool.and_eq_true, decide_eq_true_eq] at h
  exact ⟨h.1, h.2.1⟩
theorem eitherR_two {s : List UInt8} (h : rd39 s = ([], 2)) : eitherG rd39 s = rd39 s.reverse := by unfold eitherG; rw [h, if_pos rfl]
theorem eitherR_not {s : List UInt8} (h : (rd39 s).2 ≠ 2) : eitherG rd39 s = rd39 s := by unfold eitherG; rw [if_neg h]
end Go.Proofs.YtkipcobpnecmhaaGreatDoor


/-! Code 39 in plain lists: what is drawn of a text is read as this text, also backwards. -/
namespace Go.Proofs.YtkipcobpnecmhaaGreatDoor
open Go.RowKit

set_option maxRecDepth 100000 in
theorem modK_made : ∀ k < 44, madeOf (modK k) [48, 49] = true := by decide +kernel
theorem made_app {a b cs : List UInt8} (h1 : madeOf a cs = true) (h2 : madeOf b cs = true) : madeOf (a ++ b) cs = true := by
  unfold madeOf at h1 h2 ⊢
  rw [List.all_append, h1, h2]
  rfl
theorem joinC_made : ∀ {ks : List Nat}, (∀ k ∈ ks, k < 44) → madeOf (joinC ks) [48, 49] = true
  | [], _ => rfl
  | [k], h => modK_made k (h k (List.mem_cons_self ..))
  | k :: k' :: ks, h => by
    have ih := joinC_made (ks := k' :: ks) (fun x hx => h x (List.mem_cons_of_mem _ hx))
    show madeOf (modK k ++ 48 :: joinC (k' :: ks)) [48, 49] = true
    exact made_app (modK_made k (h k (List.mem_cons_self ..))) (by
      show (([48, 49] : List UInt8).contains 48 && madeOf (joinC (k' :: ks)) [48, 49]) = true
      rw [ih]
      rfl)
set_option maxRecDepth 100000 in
theorem num_back : ∀ c ∈ lets44, lets44.getD (num44 c) 0 = c := by decide +kernel
theorem txt_whole {l : List UInt8} (h : lettersOk l = true) : txt (ksL l) = wholeL l := by
  unfold txt ksL
  rw [List.map_map]
  conv => rhs; rw [← List.map_id (wholeL l)]
  exact List.map_congr_left fun c hc => num_back c (whole_mem h c hc)
theorem ksL_ne (l : List UInt8) : ksL l ≠ [] := by unfold ksL wholeL; simp
theorem outR_code {l : List UInt8} (h : lettersOk l = true) : outR (code39 l) = some (wholeL l) := by
  show outR (joinC (ksL l)) = _
  rw [outR_made (joinC_made (ksL_lt h))]
  rw [decM_join (ksL_ne l) (ksL_lt h), ← txt_whole h]
  rfl
theorem no_star {l : List UInt8} (h : lettersOk l = true) : (42 : UInt8) ∉ l ++ chkL l := by
  have hs : (42 : UInt8) ∉ lets43 := by decide
  intro hm
  rcases List.mem_append.1 hm with hm | hm
  · have := List.all_eq_true.1 h _ hm
    unfold isLet at this
    exact hs (by simpa using this)
  · unfold chkL at hm
    have : ∀ r < 43, lets44.getD r 0 ≠ 42 := by decide +kernel
    exact this _ (Nat.mod_lt (sumL l l.length) (by decide)) (List.mem_singleton.1 hm).symm
theorem whole_parts (l : List UInt8) : midT (wholeL l) = l ++ chkL l ∧ bodyT (wholeL l) = l ∧ lastT (wholeL l) = chkL l ∧ (wholeL l).getD 0 0 = 42 ∧ (wholeL l).getD ((wholeL l).length - 1) 0 = 42 := by
  have hl := whole_len l
  obtain ⟨x, hx⟩ : ∃ x, chkL l = [x] := ⟨_, rfl⟩
  have hw : wholeL l = 42 :: (l ++ [x] ++ [42]) := by unfold wholeL; rw [hx]
  refine ⟨?_, ?_, ?_, rfl, ?_⟩
  · unfold midT
    rw [hl, hw, hx]
    show (l ++ [x] ++ [42]).take (l.length + 3 - 2) = _
    rw [List.take_left' (by simp)]
  · unfold bodyT
    rw [hl, hw]
    show (l ++ [x] ++ [42]).take (l.length + 3 - 3) = _
    rw [List.append_assoc, List.take_left' (by simp)]
  · unfold lastT
    rw [hl, hw, hx, show l.length + 3 - 2 = l.length + 1 by omega]
    show ((l ++ [x] ++ [42]).drop l.length).take 1 = _
    rw [List.append_assoc, List.drop_left' rfl]
    rfl
  · rw [hl, hw, List.getD_eq_getElem?_getD, show l.length + 3 - 1 = (l ++ [x]).length + 1 by simp]
    rw [List.getElem?_cons_succ, List.getElem?_append_right (Nat.le_refl _), Nat.sub_self]
    rfl
theorem letErr_ok {l : List UInt8} (h : letErr l = 0) : lettersOk l = true ∧ 1 ≤ l.length ∧ l.length ≤ 40 := by
  unfold letErr at h
  by_cases a : l = []
  · rw [if_pos a] at h; cases h
  · rw [if_neg a] at h
    by_cases b : 40 < l.length
    · rw [if_pos b] at h; cases h
    · rw [if_neg b] at h
      refine ⟨?_, List.length_pos_iff.2 a, by omega⟩
      cases hx : lettersOk l with
      | true => rfl
      | false => rw [hx] at h; cases h
theorem shp_whole {l : List UInt8} (h : letErr l = 0) : shpT (wholeL l) = true := by
  obtain ⟨hok, h1, h40⟩ := letErr_ok h
  obtain ⟨p1, p2, p3, p4, p5⟩ := whole_parts l
  unfold shpT
  rw [p1, p4, p5, whole_len, decide_eq_true (by omega), decide_eq_true (by omega)]
  have : (l ++ chkL l).contains 42 = false := by
    have := no_star hok
    simpa using this
  rw [this]
  rfl
theorem rd_code {l : List UInt8} (h : letErr l = 0) : rd39 (code39 l) = (l, 0) := by
  obtain ⟨hok, h1, h40⟩ := letErr_ok h
  obtain ⟨p1, p2, p3, p4, p5⟩ := whole_parts l
  rw [rd_some (outR_code hok) (shp_whole h), p2, p3]
  unfold letVal
  rw [if_pos h, if_pos rfl]
set_option maxRecDepth 100000 in
theorem star_back : (modK 43).reverse = modK 25 := by decide +kernel
end Go.Proofs.YtkipcobpnecmhaaGreatDoor
