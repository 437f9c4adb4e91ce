/- bedref2.UnitsOf. -/
import Derived.Test.YtkipcobpnecmhaaGreatDoorMClaimBarCodes27

namespace Go.Proofs.YtkipcobpnecmhaaGreatDoor
open Go.RowKit Go.Shelf

theorem cat_bytes (a b : List UInt8) : (⟨a.toArray⟩ : ByteArray) ++ ⟨b.toArray⟩ = ⟨(a ++ b).toArray⟩ := by
  apply ByteArray.ext
  simp [ByteArray.data_append]
set_option maxRecDepth 100000 in
set_option maxHeartbeats 8000000 in
theorem unitsOf_any (zs : List Int) (L : Option Addr) (c : Nat) (kind : Int) (w : World) (hx : Reads w 1 L zs.length (intCells zs)) (hn : zs.length ≤ 1048576) (hc : zs.length ≤ c) :
    Calls Tryz.prog 47 #[.slice L zs.length c, .int .i64 kind] w (UnitsRes zs kind w) := by
  have HX := Lib.hid hx
  clear hx
  obtain ⟨n, hnn⟩ : ∃ n, n = zs.length := ⟨_, rfl⟩
  have HN := Lib.hid hnn
  rw [← hnn] at HX hn hc ⊢
  clear hnn
  go_enter Tryz.func47, Tryz.ntmps47
  by_cases hk : kind ≠ 1 ∧ kind ≠ 2
  · have HE := Lib.hid (show unitErr zs kind = 1 by unfold unitErr; rw [if_pos hk])
    have h1 : (kind != 1) = true := by rw [bne_iff_ne]; exact hk.1
    have h2 : (kind != 2) = true := by rw [bne_iff_ne]; exact hk.2
    have h3 : (kind != 1 && kind != 2) = true := by rw [h1, h2]; rfl
    clear hk
    go_wp2_with fail
    try simp only [Exit.inBlock, Exit.then]
    exact bodyPost_ret (v := .tuple #[.string ⟨#[]⟩, .int .i64 1]) (by simp [results, Tryz.results47, go_sem]) rfl (units_bad HE.out (by decide) (Bl.refl _))
  · obtain ⟨lb, hlb⟩ : ∃ b, b = lenB n kind := ⟨_, rfl⟩
    have HE0 := Lib.hid (show unitErr zs kind = if lb = false then 2 else if okTo zs zs.length = false then 2 else 0 by unfold unitErr; rw [if_neg hk, ← HN.out, hlb])
    have HLB := Lib.hid hlb
    have hk12 : kind = 1 ∨ kind = 2 := by omega
    clear hk hlb
    rcases hk12 with rfl | rfl
    · go_upto_region 3 with fail
      go_cut [6] from 23 to 44 (fun s6 wc => s6 = .bool lb ∧ wc = w)
      case first =>
        by_cases h59 : n = 59
        · have HV := Lib.hid (show lb = true by rw [HLB.out]; unfold lenB; rw [decide_eq_true (show (1 : Int) = 1 ∧ n = 59 from ⟨rfl, h59⟩)]; rfl)
          have h59i : (n : Int) = 59 := by omega
          clear h59
          go_wp2_with fail
          go_meet
          case rel => exact ⟨by rw [HV.out], rfl⟩
        · have HV := Lib.hid (show lb = false by rw [HLB.out]; unfold lenB; rw [decide_eq_false (fun h => h59 h.2), decide_eq_false (fun h => absurd h.1 (by decide))]; rfl)
          have h59i : ((n : Int) == 59) = false := by simp; omega
          clear h59
          go_wp2_with fail
          go_meet
          case rel => exact ⟨by rw [HV.out], rfl⟩
      case rest =>
        obtain ⟨rfl, rfl⟩ := hcut
        rename World => w
        go_wp2_with fail
        go_loopw [47, 6, 7] (fun u x v wr => ∃ i : Nat, i ≤ n ∧ u = .int .i64 i ∧ x = .bool (lb && okTo zs i) ∧ v = .int .i64 ((clipSum zs i : Nat) : Int) ∧ wr = w) (fun u _ _ _ => n - (RowKit.intOf u).toNat)
        case atStart => exact ⟨0, Nat.zero_le _, rfl, by rw [show okTo zs 0 = true from rfl, Bool.and_true], rfl, by trivial⟩
        case round =>
          obtain ⟨i, hi, rfl, rfl, rfl, rfl⟩ := hrel
          by_cases hlt : i < n
          · obtain ⟨z, hz⟩ : ∃ z, zs[i]? = some z := ⟨_, List.getElem?_eq_getElem (by have := HN.out; omega)⟩
            have hxx := HX.out
            rw [HN.out] at hxx
            obtain ⟨ad, rfl, c0⟩ := int_at hxx hz
            have hos := okTo_succ hz
            have hcs := clipSum_succ hz
            have hcl := clipSum_le zs i
            obtain ⟨S, hS⟩ : ∃ S, S = clipSum zs i := ⟨_, rfl⟩
            rw [← hS] at hcs hcl ⊢
            have hcC : min (max z 0) 4000 = ((clip z : Nat) : Int) := by unfold clip; omega
            have hcC4 : clip z ≤ 4000 := by unfold clip; omega
            obtain ⟨C, hC⟩ : ∃ C, C = clip z := ⟨_, rfl⟩
            rw [← hC] at hcC hcC4 hcs
            have hin := in_any z 1 4000 wr
            obtain ⟨ib, hib⟩ : ∃ b, b = inB z 1 4000 := ⟨_, rfl⟩
            have hrk : runOk z = ib := by rw [hib]; unfold runOk inB; rw [Bool.eq_iff_iff, Bool.and_eq_true, decide_eq_true_eq, decide_eq_true_eq, decide_eq_true_eq]
            rw [← hib] at hin
            rw [hrk] at hos
            obtain ⟨b, hb⟩ : ∃ b, b = (lb && okTo zs i) := ⟨_, rfl⟩
            have hb2 : (lb && okTo zs (i + 1)) = (b && ib) := by rw [hos, ← Bool.and_assoc, hb]
            rw [← hb]
            have HCs := Lib.hid hcs; have HIn := Lib.hid hin; have HB2 := Lib.hid hb2
            clear hos hcs hS hz hxx hC hin hib hrk hb hb2
            cases b with
            | false =>
              go_wp2_with fail
              exact ⟨⟨i + 1, hlt, by go_num, by rw [HB2.out]; rfl, by rw [HCs.out]; go_num, by trivial⟩, by simp [RowKit.intOf] <;> omega⟩
            | true =>
              go_wp2_with fail
              refine HIn.out.mono ?_
              rintro e w' ⟨rfl, rfl⟩
              go_wp2_with fail
              exact ⟨⟨i + 1, hlt, by go_num, by rw [HB2.out]; simp, by rw [HCs.out]; go_num, by trivial⟩, by simp [RowKit.intOf] <;> omega⟩
          · obtain rfl : i = n := by omega
            obtain ⟨n, hnd⟩ : ∃ n, n = i := ⟨_, rfl⟩
            subst hnd
            obtain ⟨b, hb⟩ : ∃ b, b = (lb && okTo zs n) := ⟨_, rfl⟩
            rw [← hb]
            rw [HN.out] at hb
            cases b with
            | false =>
              have HE := Lib.hid (show unitErr zs 1 = 2 by
                rw [HE0.out]
                cases lb with
                | false => rfl
                | true => rw [if_neg (by decide), if_pos (by simpa using hb.symm)])
              clear hb
              go_wp2_with fail
              try simp only [Exit.inBlock, Exit.then]
              exact bodyPost_ret (v := .tuple #[.string ⟨#[]⟩, .int .i64 2]) (by simp [results, Tryz.results47, go_sem]) rfl (units_bad HE.out (by decide) (Bl.refl _))
            | true =>
              have hlt2 : lb = true ∧ okTo zs zs.length = true := by simpa using hb.symm
              have HE := Lib.hid (show unitErr zs 1 = 0 by rw [HE0.out, hlt2.1, hlt2.2, if_neg (by decide), if_neg (by decide)])
              have HOk := Lib.hid (okTo_mem hlt2.2)
              have hlen := HLB.out
              rw [hlt2.1] at hlen
              have hlenn : n = 59 := by
                unfold lenB at hlen
                have h := hlen.symm
                simp only [Bool.or_eq_true, decide_eq_true_eq] at h
                omega
              have hsp := clipSum_pos (by rw [← HN.out]; omega) (okTo_mem hlt2.2)
              rw [← HN.out] at hsp
              have hsl := clipSum_le zs n
              obtain ⟨S, hS⟩ : ∃ S, S = clipSum zs n := ⟨_, rfl⟩
              rw [← hS] at hsp hsl ⊢
              have HS := Lib.hid hS
              have HLen := Lib.hid hlenn
              have hn29 : 29 ≤ n := by omega
              clear hb hlt2 hlen hlenn hS
              go_wp2_with fail
              go_loopw [66, 10] (fun u v wq => ∃ i : Nat, i ≤ n ∧ u = .int .i64 i ∧ v = .string ⟨(unitsTo zs 1 S i).toArray⟩ ∧ Bl wr wq) (fun u _ _ => n - (RowKit.intOf u).toNat)
              case atStart => exact ⟨0, Nat.zero_le _, rfl, rfl, Bl.refl _⟩
              case round =>
                rename World => wq
                obtain ⟨i, hi, rfl, rfl, hbq⟩ := hrel
                by_cases hlt : i < n
                · obtain ⟨z, hg⟩ : ∃ z, zs[i]? = some z := ⟨_, List.getElem?_eq_getElem (by have := HN.out; omega)⟩
                  have hxx := HX.out.bl hbq
                  rw [HN.out] at hxx
                  obtain ⟨ad, rfl, c0⟩ := int_at hxx hg
                  have hz := HOk.out z (List.mem_of_getElem? hg)
                  have HG := Lib.hid hg
                  have hst : unitsTo zs 1 S (i + 1) = unitsTo zs 1 S i ++ List.replicate (unitK zs 1 S i) (moduleOf i) := rfl
                  have hk14 := unitK_in zs 1 S i
                  have hul := unitsTo_len zs 1 S i
                  obtain ⟨l, hl⟩ : ∃ l, l = unitsTo zs 1 S i := ⟨_, rfl⟩
                  rw [← hl] at hul hst ⊢
                  have HSt := Lib.hid hst
                  clear hxx hg hst hl
                  have hr2 : i % 2 = 0 ∨ i % 2 = 1 := by omega
                  obtain ⟨r, hr⟩ : ∃ r, r = i % 2 := ⟨_, rfl⟩
                  have hrI : (i : Int) % 2 = (r : Int) := by omega
                  have hmo : moduleOf i = if r = 0 then 49 else 48 := by unfold moduleOf; rw [hr]
                  rw [← hr] at hr2
                  clear hr
                  rcases hr2 with rfl | rfl
                  · have HMo := Lib.hid (show moduleOf i = 49 from hmo)
                    clear hmo
                    have hR := round_any (z * 95) (S : Int) wq (by omega) (by omega) (by omega) (by omega)
                    obtain ⟨R, hRR⟩ : ∃ R, R = roundI (z * 95) (S : Int) := ⟨_, rfl⟩
                    rw [← hRR] at hR
                    have hK : unitK zs 1 S i = (min 4 (max 1 R)).toNat := by unfold unitK; rw [if_pos rfl, List.getD_eq_getElem?_getD, HG.out, hRR]; rfl
                    have hKI : min 4 (max 1 R) = ((unitK zs 1 S i : Nat) : Int) := by rw [hK]; omega
                    have hKJ : min (max R 1) 4 = ((unitK zs 1 S i : Nat) : Int) := by rw [hK]; omega
                    have hKL : min (max 1 R) 4 = ((unitK zs 1 S i : Nat) : Int) := by rw [hK]; omega
                    obtain ⟨k, hk⟩ : ∃ k, k = unitK zs 1 S i := ⟨_, rfl⟩
                    rw [← hk] at hKI hKJ hKL hk14 HSt
                    have HR := Lib.hid hR
                    clear hR hRR hK hk
                    obtain ⟨rep, hrep⟩ : ∃ r, r = List.replicate k (moduleOf i) := ⟨_, rfl⟩
                    have hrl : rep.length = k := by rw [hrep, List.length_replicate]
                    have Hrp := Lib.hid (show Calls Tryz.prog 32 #[.string ⟨#[49]⟩, .int .i64 k] wq (fun e w' => e = .returned (.string ⟨rep.toArray⟩) ∧ Bl wq w') from by rw [hrep, HMo.out]; exact repeat_any 49 (.inr rfl) k hk14.1 hk14.2 wq)
                    rw [← hrep] at HSt
                    have hsl : (⟨l.toArray⟩ : ByteArray).size = l.length := Lib.size_mk l
                    have hsx : (⟨rep.toArray⟩ : ByteArray).size = rep.length := Lib.size_mk rep
                    have hs1 : ¬ (9223372036854775807 < l.length + rep.length) := by omega
                    have hcat := cat_bytes l rep
                    clear hrep hrl
                    go_wp2_with fail
                    refine HR.out.mono ?_
                    rintro e w' ⟨rfl, rfl⟩
                    go_wp2_with fail
                    refine Hrp.out.mono ?_
                    rintro e w5 ⟨rfl, hb5⟩
                    have HB5 := Lib.hid (hbq.trans hb5)
                    clear Hrp hb5
                    go_wp2_with fail
                    exact ⟨⟨i + 1, hlt, by go_num, by rw [HSt.out, ← hcat], HB5.out⟩, by simp [RowKit.intOf] <;> omega⟩
                  · have HMo := Lib.hid (show moduleOf i = 48 from hmo)
                    clear hmo
                    have hR := round_any (z * 95) (S : Int) wq (by omega) (by omega) (by omega) (by omega)
                    obtain ⟨R, hRR⟩ : ∃ R, R = roundI (z * 95) (S : Int) := ⟨_, rfl⟩
                    rw [← hRR] at hR
                    have hK : unitK zs 1 S i = (min 4 (max 1 R)).toNat := by unfold unitK; rw [if_pos rfl, List.getD_eq_getElem?_getD, HG.out, hRR]; rfl
                    have hKI : min 4 (max 1 R) = ((unitK zs 1 S i : Nat) : Int) := by rw [hK]; omega
                    have hKJ : min (max R 1) 4 = ((unitK zs 1 S i : Nat) : Int) := by rw [hK]; omega
                    have hKL : min (max 1 R) 4 = ((unitK zs 1 S i : Nat) : Int) := by rw [hK]; omega
                    obtain ⟨k, hk⟩ : ∃ k, k = unitK zs 1 S i := ⟨_, rfl⟩
                    rw [← hk] at hKI hKJ hKL hk14 HSt
                    have HR := Lib.hid hR
                    clear hR hRR hK hk
                    obtain ⟨rep, hrep⟩ : ∃ r, r = List.replicate k (moduleOf i) := ⟨_, rfl⟩
                    have hrl : rep.length = k := by rw [hrep, List.length_replicate]
                    have Hrp := Lib.hid (show Calls Tryz.prog 32 #[.string ⟨#[48]⟩, .int .i64 k] wq (fun e w' => e = .returned (.string ⟨rep.toArray⟩) ∧ Bl wq w') from by rw [hrep, HMo.out]; exact repeat_any 48 (.inl rfl) k hk14.1 hk14.2 wq)
                    rw [← hrep] at HSt
                    have hsl : (⟨l.toArray⟩ : ByteArray).size = l.length := Lib.size_mk l
                    have hsx : (⟨rep.toArray⟩ : ByteArray).size = rep.length := Lib.size_mk rep
                    have hs1 : ¬ (9223372036854775807 < l.length + rep.length) := by omega
                    have hcat := cat_bytes l rep
                    clear hrep hrl
                    go_wp2_with fail
                    refine HR.out.mono ?_
                    rintro e w' ⟨rfl, rfl⟩
                    go_wp2_with fail
                    refine Hrp.out.mono ?_
                    rintro e w5 ⟨rfl, hb5⟩
                    have HB5 := Lib.hid (hbq.trans hb5)
                    clear Hrp hb5
                    go_wp2_with fail
                    exact ⟨⟨i + 1, hlt, by go_num, by rw [HSt.out, ← hcat], HB5.out⟩, by simp [RowKit.intOf] <;> omega⟩
                · obtain rfl : i = n := by omega
                  go_wp2_with fail
                  refine bodyPost_ret (v := .tuple #[.string ⟨(unitsTo zs 1 S i).toArray⟩, .int .i64 0]) (by simp [results, Tryz.results47, go_sem]) rfl ⟨?_, hbq⟩
                  rw [HE.out, if_pos rfl, ← HN.out, ← HS.out]
    · go_upto_region 3 with fail
      go_cut [6] from 23 to 44 (fun s6 wc => s6 = .bool lb ∧ wc = w)
      case first =>
        by_cases h29 : n < 29
        · have HV := Lib.hid (show lb = false by rw [HLB.out]; unfold lenB; rw [decide_eq_false (fun h => absurd h.1 (by decide)), decide_eq_false (fun h => by omega)]; rfl)
          go_wp2_with fail
          go_meet
          case rel => exact ⟨by rw [HV.out], rfl⟩
        · have hm : (n : Int) % 10 = ((n % 10 : Nat) : Int) := by omega
          obtain ⟨m, hmm⟩ : ∃ m, m = n % 10 := ⟨_, rfl⟩
          rw [← hmm] at hm
          by_cases h9 : m = 9
          · have HV := Lib.hid (show lb = true by rw [HLB.out]; unfold lenB; rw [decide_eq_true (show (2 : Int) = 2 ∧ 29 ≤ n ∧ n % 10 = 9 from ⟨rfl, by omega, by omega⟩), Bool.or_true])
            subst h9
            clear hmm
            go_wp2_with fail
            go_meet
            case rel => exact ⟨by rw [HV.out], rfl⟩
          · have HV := Lib.hid (show lb = false by rw [HLB.out]; unfold lenB; rw [decide_eq_false (fun h => absurd h.1 (by decide)), decide_eq_false (fun h => by omega)]; rfl)
            have h9i : ((m : Int) == 9) = false := by simp; omega
            clear h9 hmm
            go_wp2_with fail
            go_meet
            case rel => exact ⟨by rw [HV.out], rfl⟩
      case rest =>
        obtain ⟨rfl, rfl⟩ := hcut
        rename World => w
        go_wp2_with fail
        go_loopw [47, 6, 7] (fun u x v wr => ∃ i : Nat, i ≤ n ∧ u = .int .i64 i ∧ x = .bool (lb && okTo zs i) ∧ v = .int .i64 ((clipSum zs i : Nat) : Int) ∧ wr = w) (fun u _ _ _ => n - (RowKit.intOf u).toNat)
        case atStart => exact ⟨0, Nat.zero_le _, rfl, by rw [show okTo zs 0 = true from rfl, Bool.and_true], rfl, by trivial⟩
        case round =>
          obtain ⟨i, hi, rfl, rfl, rfl, rfl⟩ := hrel
          by_cases hlt : i < n
          · obtain ⟨z, hz⟩ : ∃ z, zs[i]? = some z := ⟨_, List.getElem?_eq_getElem (by have := HN.out; omega)⟩
            have hxx := HX.out
            rw [HN.out] at hxx
            obtain ⟨ad, rfl, c0⟩ := int_at hxx hz
            have hos := okTo_succ hz
            have hcs := clipSum_succ hz
            have hcl := clipSum_le zs i
            obtain ⟨S, hS⟩ : ∃ S, S = clipSum zs i := ⟨_, rfl⟩
            rw [← hS] at hcs hcl ⊢
            have hcC : min (max z 0) 4000 = ((clip z : Nat) : Int) := by unfold clip; omega
            have hcC4 : clip z ≤ 4000 := by unfold clip; omega
            obtain ⟨C, hC⟩ : ∃ C, C = clip z := ⟨_, rfl⟩
            rw [← hC] at hcC hcC4 hcs
            have hin := in_any z 1 4000 wr
            obtain ⟨ib, hib⟩ : ∃ b, b = inB z 1 4000 := ⟨_, rfl⟩
            have hrk : runOk z = ib := by rw [hib]; unfold runOk inB; rw [Bool.eq_iff_iff, Bool.and_eq_true, decide_eq_true_eq, decide_eq_true_eq, decide_eq_true_eq]
            rw [← hib] at hin
            rw [hrk] at hos
            obtain ⟨b, hb⟩ : ∃ b, b = (lb && okTo zs i) := ⟨_, rfl⟩
            have hb2 : (lb && okTo zs (i + 1)) = (b && ib) := by rw [hos, ← Bool.and_assoc, hb]
            rw [← hb]
            have HCs := Lib.hid hcs; have HIn := Lib.hid hin; have HB2 := Lib.hid hb2
            clear hos hcs hS hz hxx hC hin hib hrk hb hb2
            cases b with
            | false =>
              go_wp2_with fail
              exact ⟨⟨i + 1, hlt, by go_num, by rw [HB2.out]; rfl, by rw [HCs.out]; go_num, by trivial⟩, by simp [RowKit.intOf] <;> omega⟩
            | true =>
              go_wp2_with fail
              refine HIn.out.mono ?_
              rintro e w' ⟨rfl, rfl⟩
              go_wp2_with fail
              exact ⟨⟨i + 1, hlt, by go_num, by rw [HB2.out]; simp, by rw [HCs.out]; go_num, by trivial⟩, by simp [RowKit.intOf] <;> omega⟩
          · obtain rfl : i = n := by omega
            obtain ⟨n, hnd⟩ : ∃ n, n = i := ⟨_, rfl⟩
            subst hnd
            obtain ⟨b, hb⟩ : ∃ b, b = (lb && okTo zs n) := ⟨_, rfl⟩
            rw [← hb]
            rw [HN.out] at hb
            cases b with
            | false =>
              have HE := Lib.hid (show unitErr zs 2 = 2 by
                rw [HE0.out]
                cases lb with
                | false => rfl
                | true => rw [if_neg (by decide), if_pos (by simpa using hb.symm)])
              clear hb
              go_wp2_with fail
              try simp only [Exit.inBlock, Exit.then]
              exact bodyPost_ret (v := .tuple #[.string ⟨#[]⟩, .int .i64 2]) (by simp [results, Tryz.results47, go_sem]) rfl (units_bad HE.out (by decide) (Bl.refl _))
            | true =>
              have hlt2 : lb = true ∧ okTo zs zs.length = true := by simpa using hb.symm
              have HE := Lib.hid (show unitErr zs 2 = 0 by rw [HE0.out, hlt2.1, hlt2.2, if_neg (by decide), if_neg (by decide)])
              have HOk := Lib.hid (okTo_mem hlt2.2)
              have hlen := HLB.out
              rw [hlt2.1] at hlen
              have hlenn : 29 ≤ n ∧ n % 10 = 9 := by
                unfold lenB at hlen
                have h := hlen.symm
                simp only [Bool.or_eq_true, decide_eq_true_eq] at h
                omega
              have hsp := clipSum_pos (by rw [← HN.out]; omega) (okTo_mem hlt2.2)
              rw [← HN.out] at hsp
              have hsl := clipSum_le zs n
              obtain ⟨S, hS⟩ : ∃ S, S = clipSum zs n := ⟨_, rfl⟩
              rw [← hS] at hsp hsl ⊢
              have HS := Lib.hid hS
              have HLen := Lib.hid hlenn
              have hn29 : 29 ≤ n := by omega
              clear hb hlt2 hlen hlenn hS
              go_wp2_with fail
              go_loopw [66, 10] (fun u v wq => ∃ i : Nat, i ≤ n ∧ u = .int .i64 i ∧ v = .string ⟨(unitsTo zs 2 S i).toArray⟩ ∧ Bl wr wq) (fun u _ _ => n - (RowKit.intOf u).toNat)
              case atStart => exact ⟨0, Nat.zero_le _, rfl, rfl, Bl.refl _⟩
              case round =>
                rename World => wq
                obtain ⟨i, hi, rfl, rfl, hbq⟩ := hrel
                by_cases hlt : i < n
                · obtain ⟨z, hg⟩ : ∃ z, zs[i]? = some z := ⟨_, List.getElem?_eq_getElem (by have := HN.out; omega)⟩
                  have hxx := HX.out.bl hbq
                  rw [HN.out] at hxx
                  obtain ⟨ad, rfl, c0⟩ := int_at hxx hg
                  have hz := HOk.out z (List.mem_of_getElem? hg)
                  have HG := Lib.hid hg
                  have hst : unitsTo zs 2 S (i + 1) = unitsTo zs 2 S i ++ List.replicate (unitK zs 2 S i) (moduleOf i) := rfl
                  have hk14 := unitK_in zs 2 S i
                  have hul := unitsTo_len zs 2 S i
                  obtain ⟨l, hl⟩ : ∃ l, l = unitsTo zs 2 S i := ⟨_, rfl⟩
                  rw [← hl] at hul hst ⊢
                  have HSt := Lib.hid hst
                  clear hxx hg hst hl
                  have hr2 : i % 2 = 0 ∨ i % 2 = 1 := by omega
                  obtain ⟨r, hr⟩ : ∃ r, r = i % 2 := ⟨_, rfl⟩
                  have hrI : (i : Int) % 2 = (r : Int) := by omega
                  have hmo : moduleOf i = if r = 0 then 49 else 48 := by unfold moduleOf; rw [hr]
                  rw [← hr] at hr2
                  have hlen10 := HLen.out.2
                  clear hr
                  rcases hr2 with rfl | rfl
                  · have HMo := Lib.hid (show moduleOf i = 49 from hmo)
                    clear hmo
                    obtain ⟨m, hm⟩ : ∃ m, m = i % 10 := ⟨_, rfl⟩
                    have hmI : (i : Int) % 10 = (m : Int) := by omega
                    by_cases hm9 : m < 9
                    · have hs9 : i / 10 * 10 + 9 ≤ n := by omega
                      obtain ⟨q, hq⟩ : ∃ q, q = i / 10 * 10 := ⟨_, rfl⟩
                      have hsI : (i : Int) - (m : Int) = (q : Int) := by omega
                      rw [← hq] at hs9
                      have hbl : blockOf zs i = (zs.drop q).take 9 := by unfold blockOf; rw [hq]
                      have hbll : (blockOf zs i).length = 9 := by rw [hbl, List.length_take, List.length_drop, ← HN.out]; omega
                      have hrd : Reads wq 1 (some (ad.add q)) (blockOf zs i).length (intCells (blockOf zs i)) := by
                        have h := Reads.sub (HX.out.bl hbq) hs9
                        rw [hbll, hbl]
                        unfold intCells at h ⊢
                        rw [← List.map_drop, ← List.map_take] at h
                        exact h
                      have hbo : ∀ y ∈ blockOf zs i, 1 ≤ y ∧ y ≤ 4000 := fun y hy => HOk.out y (List.mem_of_mem_drop (List.mem_of_mem_take (by rw [← hbl]; exact hy)))
                      have hmin := min_any (some (ad.add q)) (c - q) (blockOf zs i) wq hrd (by omega) (by omega)
                      have hmax := max_any (some (ad.add q)) (c - q) (blockOf zs i) wq hrd (by omega) (by omega)
                      rw [hbll] at hmin hmax
                      have hmm := minmax_in (by omega) hbo
                      obtain ⟨lo, hlo⟩ : ∃ x, x = minL (blockOf zs i) := ⟨_, rfl⟩
                      obtain ⟨hi', hhi⟩ : ∃ x, x = maxL (blockOf zs i) := ⟨_, rfl⟩
                      rw [← hlo] at hmin
                      rw [← hhi] at hmax
                      have hwb : wideB z (blockOf zs i) = decide (lo + hi' < 2 * z) := by unfold wideB; rw [hlo, hhi]
                      rw [← hlo, ← hhi] at hmm
                      have hK : unitK zs 2 S i = if lo + hi' < 2 * z then 3 else 1 := by
                        unfold unitK
                        rw [if_neg (by decide), List.getD_eq_getElem?_getD, HG.out]
                        show (if i % 10 < 9 ∧ wideB z (blockOf zs i) = true then 3 else 1) = _
                        rw [hwb]
                        by_cases h : lo + hi' < 2 * z
                        · rw [if_pos h, if_pos ⟨by omega, decide_eq_true h⟩]
                        · rw [if_neg h, if_neg (fun hh => h (of_decide_eq_true hh.2))]
                      have hqq : q + 9 - q = 9 := by omega
                      have hqc : q + 9 ≤ c := by omega
                      have hmlt : (m : Int) < 9 := by omega
                      have HMin := Lib.hid hmin; have HMax := Lib.hid hmax
                      rw [hK] at HSt
                      clear hmin hmax hwb hlo hhi hK hbl hbll hrd hbo hq hm
                      by_cases hw3 : lo + hi' < 2 * z
                      · rw [if_pos hw3] at HSt
                        obtain ⟨rep, hrep⟩ : ∃ r, r = List.replicate 3 (moduleOf i) := ⟨_, rfl⟩
                        have hrl : rep.length = 3 := by rw [hrep, List.length_replicate]
                        have Hrp := Lib.hid (show Calls Tryz.prog 32 #[.string ⟨#[49]⟩, .int .i64 3] wq (fun e w' => e = .returned (.string ⟨rep.toArray⟩) ∧ Bl wq w') from by rw [hrep, HMo.out]; exact repeat_any 49 (.inr rfl) 3 (by decide) (by decide) wq)
                        rw [← hrep] at HSt
                        have hsl : (⟨l.toArray⟩ : ByteArray).size = l.length := Lib.size_mk l
                        have hsx : (⟨rep.toArray⟩ : ByteArray).size = rep.length := Lib.size_mk rep
                        have hs1 : ¬ (9223372036854775807 < l.length + rep.length) := by omega
                        have hcat := cat_bytes l rep
                        clear hrep hrl
                        go_wp2_with fail
                        first | rw [hqq] | skip
                        refine HMin.out.mono ?_
                        rintro e w' ⟨rfl, rfl⟩
                        go_wp2_with fail
                        first | rw [hqq] | skip
                        refine HMax.out.mono ?_
                        rintro e w' ⟨rfl, rfl⟩
                        go_wp2_with fail
                        refine Hrp.out.mono ?_
                        rintro e w5 ⟨rfl, hb5⟩
                        have HB5 := Lib.hid (hbq.trans hb5)
                        clear Hrp hb5
                        go_wp2_with fail
                        exact ⟨⟨i + 1, hlt, by go_num, by rw [HSt.out, ← hcat], HB5.out⟩, by simp [RowKit.intOf] <;> omega⟩
                      · rw [if_neg hw3] at HSt
                        obtain ⟨rep, hrep⟩ : ∃ r, r = List.replicate 1 (moduleOf i) := ⟨_, rfl⟩
                        have hrl : rep.length = 1 := by rw [hrep, List.length_replicate]
                        have Hrp := Lib.hid (show Calls Tryz.prog 32 #[.string ⟨#[49]⟩, .int .i64 1] wq (fun e w' => e = .returned (.string ⟨rep.toArray⟩) ∧ Bl wq w') from by rw [hrep, HMo.out]; exact repeat_any 49 (.inr rfl) 1 (by decide) (by decide) wq)
                        rw [← hrep] at HSt
                        have hsl : (⟨l.toArray⟩ : ByteArray).size = l.length := Lib.size_mk l
                        have hsx : (⟨rep.toArray⟩ : ByteArray).size = rep.length := Lib.size_mk rep
                        have hs1 : ¬ (9223372036854775807 < l.length + rep.length) := by omega
                        have hcat := cat_bytes l rep
                        clear hrep hrl
                        go_wp2_with fail
                        first | rw [hqq] | skip
                        refine HMin.out.mono ?_
                        rintro e w' ⟨rfl, rfl⟩
                        go_wp2_with fail
                        first | rw [hqq] | skip
                        refine HMax.out.mono ?_
                        rintro e w' ⟨rfl, rfl⟩
                        go_wp2_with fail
                        refine Hrp.out.mono ?_
                        rintro e w5 ⟨rfl, hb5⟩
                        have HB5 := Lib.hid (hbq.trans hb5)
                        clear Hrp hb5
                        go_wp2_with fail
                        exact ⟨⟨i + 1, hlt, by go_num, by rw [HSt.out, ← hcat], HB5.out⟩, by simp [RowKit.intOf] <;> omega⟩
                    · have hK : unitK zs 2 S i = 1 := by
                        unfold unitK
                        rw [if_neg (by decide), if_neg (fun hh => by omega)]
                      have hmlt : ¬ ((m : Int) < 9) := by omega
                      rw [hK] at HSt
                      clear hK hm
                      obtain ⟨rep, hrep⟩ : ∃ r, r = List.replicate 1 (moduleOf i) := ⟨_, rfl⟩
                      have hrl : rep.length = 1 := by rw [hrep, List.length_replicate]
                      have Hrp := Lib.hid (show Calls Tryz.prog 32 #[.string ⟨#[49]⟩, .int .i64 1] wq (fun e w' => e = .returned (.string ⟨rep.toArray⟩) ∧ Bl wq w') from by rw [hrep, HMo.out]; exact repeat_any 49 (.inr rfl) 1 (by decide) (by decide) wq)
                      rw [← hrep] at HSt
                      have hsl : (⟨l.toArray⟩ : ByteArray).size = l.length := Lib.size_mk l
                      have hsx : (⟨rep.toArray⟩ : ByteArray).size = rep.length := Lib.size_mk rep
                      have hs1 : ¬ (9223372036854775807 < l.length + rep.length) := by omega
                      have hcat := cat_bytes l rep
                      clear hrep hrl
                      go_wp2_with fail
                      refine Hrp.out.mono ?_
                      rintro e w5 ⟨rfl, hb5⟩
                      have HB5 := Lib.hid (hbq.trans hb5)
                      clear Hrp hb5
                      go_wp2_with fail
                      exact ⟨⟨i + 1, hlt, by go_num, by rw [HSt.out, ← hcat], HB5.out⟩, by simp [RowKit.intOf] <;> omega⟩
                  · have HMo := Lib.hid (show moduleOf i = 48 from hmo)
                    clear hmo
                    obtain ⟨m, hm⟩ : ∃ m, m = i % 10 := ⟨_, rfl⟩
                    have hmI : (i : Int) % 10 = (m : Int) := by omega
                    by_cases hm9 : m < 9
                    · have hs9 : i / 10 * 10 + 9 ≤ n := by omega
                      obtain ⟨q, hq⟩ : ∃ q, q = i / 10 * 10 := ⟨_, rfl⟩
                      have hsI : (i : Int) - (m : Int) = (q : Int) := by omega
                      rw [← hq] at hs9
                      have hbl : blockOf zs i = (zs.drop q).take 9 := by unfold blockOf; rw [hq]
                      have hbll : (blockOf zs i).length = 9 := by rw [hbl, List.length_take, List.length_drop, ← HN.out]; omega
                      have hrd : Reads wq 1 (some (ad.add q)) (blockOf zs i).length (intCells (blockOf zs i)) := by
                        have h := Reads.sub (HX.out.bl hbq) hs9
                        rw [hbll, hbl]
                        unfold intCells at h ⊢
                        rw [← List.map_drop, ← List.map_take] at h
                        exact h
                      have hbo : ∀ y ∈ blockOf zs i, 1 ≤ y ∧ y ≤ 4000 := fun y hy => HOk.out y (List.mem_of_mem_drop (List.mem_of_mem_take (by rw [← hbl]; exact hy)))
                      have hmin := min_any (some (ad.add q)) (c - q) (blockOf zs i) wq hrd (by omega) (by omega)
                      have hmax := max_any (some (ad.add q)) (c - q) (blockOf zs i) wq hrd (by omega) (by omega)
                      rw [hbll] at hmin hmax
                      have hmm := minmax_in (by omega) hbo
                      obtain ⟨lo, hlo⟩ : ∃ x, x = minL (blockOf zs i) := ⟨_, rfl⟩
                      obtain ⟨hi', hhi⟩ : ∃ x, x = maxL (blockOf zs i) := ⟨_, rfl⟩
                      rw [← hlo] at hmin
                      rw [← hhi] at hmax
                      have hwb : wideB z (blockOf zs i) = decide (lo + hi' < 2 * z) := by unfold wideB; rw [hlo, hhi]
                      rw [← hlo, ← hhi] at hmm
                      have hK : unitK zs 2 S i = if lo + hi' < 2 * z then 3 else 1 := by
                        unfold unitK
                        rw [if_neg (by decide), List.getD_eq_getElem?_getD, HG.out]
                        show (if i % 10 < 9 ∧ wideB z (blockOf zs i) = true then 3 else 1) = _
                        rw [hwb]
                        by_cases h : lo + hi' < 2 * z
                        · rw [if_pos h, if_pos ⟨by omega, decide_eq_true h⟩]
                        · rw [if_neg h, if_neg (fun hh => h (of_decide_eq_true hh.2))]
                      have hqq : q + 9 - q = 9 := by omega
                      have hqc : q + 9 ≤ c := by omega
                      have hmlt : (m : Int) < 9 := by omega
                      have HMin := Lib.hid hmin; have HMax := Lib.hid hmax
                      rw [hK] at HSt
                      clear hmin hmax hwb hlo hhi hK hbl hbll hrd hbo hq hm
                      by_cases hw3 : lo + hi' < 2 * z
                      · rw [if_pos hw3] at HSt
                        obtain ⟨rep, hrep⟩ : ∃ r, r = List.replicate 3 (moduleOf i) := ⟨_, rfl⟩
                        have hrl : rep.length = 3 := by rw [hrep, List.length_replicate]
                        have Hrp := Lib.hid (show Calls Tryz.prog 32 #[.string ⟨#[48]⟩, .int .i64 3] wq (fun e w' => e = .returned (.string ⟨rep.toArray⟩) ∧ Bl wq w') from by rw [hrep, HMo.out]; exact repeat_any 48 (.inl rfl) 3 (by decide) (by decide) wq)
                        rw [← hrep] at HSt
                        have hsl : (⟨l.toArray⟩ : ByteArray).size = l.length := Lib.size_mk l
                        have hsx : (⟨rep.toArray⟩ : ByteArray).size = rep.length := Lib.size_mk rep
                        have hs1 : ¬ (9223372036854775807 < l.length + rep.length) := by omega
                        have hcat := cat_bytes l rep
                        clear hrep hrl
                        go_wp2_with fail
                        first | rw [hqq] | skip
                        refine HMin.out.mono ?_
                        rintro e w' ⟨rfl, rfl⟩
                        go_wp2_with fail
                        first | rw [hqq] | skip
                        refine HMax.out.mono ?_
                        rintro e w' ⟨rfl, rfl⟩
                        go_wp2_with fail
                        refine Hrp.out.mono ?_
                        rintro e w5 ⟨rfl, hb5⟩
                        have HB5 := Lib.hid (hbq.trans hb5)
                        clear Hrp hb5
                        go_wp2_with fail
                        exact ⟨⟨i + 1, hlt, by go_num, by rw [HSt.out, ← hcat], HB5.out⟩, by simp [RowKit.intOf] <;> omega⟩
                      · rw [if_neg hw3] at HSt
                        obtain ⟨rep, hrep⟩ : ∃ r, r = List.replicate 1 (moduleOf i) := ⟨_, rfl⟩
                        have hrl : rep.length = 1 := by rw [hrep, List.length_replicate]
                        have Hrp := Lib.hid (show Calls Tryz.prog 32 #[.string ⟨#[48]⟩, .int .i64 1] wq (fun e w' => e = .returned (.string ⟨rep.toArray⟩) ∧ Bl wq w') from by rw [hrep, HMo.out]; exact repeat_any 48 (.inl rfl) 1 (by decide) (by decide) wq)
                        rw [← hrep] at HSt
                        have hsl : (⟨l.toArray⟩ : ByteArray).size = l.length := Lib.size_mk l
                        have hsx : (⟨rep.toArray⟩ : ByteArray).size = rep.length := Lib.size_mk rep
                        have hs1 : ¬ (9223372036854775807 < l.length + rep.length) := by omega
                        have hcat := cat_bytes l rep
                        clear hrep hrl
                        go_wp2_with fail
                        first | rw [hqq] | skip
                        refine HMin.out.mono ?_
                        rintro e w' ⟨rfl, rfl⟩
                        go_wp2_with fail
                        first | rw [hqq] | skip
                        refine HMax.out.mono ?_
                        rintro e w' ⟨rfl, rfl⟩
                        go_wp2_with fail
                        refine Hrp.out.mono ?_
                        rintro e w5 ⟨rfl, hb5⟩
                        have HB5 := Lib.hid (hbq.trans hb5)
                        clear Hrp hb5
                        go_wp2_with fail
                        exact ⟨⟨i + 1, hlt, by go_num, by rw [HSt.out, ← hcat], HB5.out⟩, by simp [RowKit.intOf] <;> omega⟩
                    · have hK : unitK zs 2 S i = 1 := by
                        unfold unitK
                        rw [if_neg (by decide), if_neg (fun hh => by omega)]
                      have hmlt : ¬ ((m : Int) < 9) := by omega
                      rw [hK] at HSt
                      clear hK hm
                      obtain ⟨rep, hrep⟩ : ∃ r, r = List.replicate 1 (moduleOf i) := ⟨_, rfl⟩
                      have hrl : rep.length = 1 := by rw [hrep, List.length_replicate]
                      have Hrp := Lib.hid (show Calls Tryz.prog 32 #[.string ⟨#[48]⟩, .int .i64 1] wq (fun e w' => e = .returned (.string ⟨rep.toArray⟩) ∧ Bl wq w') from by rw [hrep, HMo.out]; exact repeat_any 48 (.inl rfl) 1 (by decide) (by decide) wq)
                      rw [← hrep] at HSt
                      have hsl : (⟨l.toArray⟩ : ByteArray).size = l.length := Lib.size_mk l
                      have hsx : (⟨rep.toArray⟩ : ByteArray).size = rep.length := Lib.size_mk rep
                      have hs1 : ¬ (9223372036854775807 < l.length + rep.length) := by omega
                      have hcat := cat_bytes l rep
                      clear hrep hrl
                      go_wp2_with fail
                      refine Hrp.out.mono ?_
                      rintro e w5 ⟨rfl, hb5⟩
                      have HB5 := Lib.hid (hbq.trans hb5)
                      clear Hrp hb5
                      go_wp2_with fail
                      exact ⟨⟨i + 1, hlt, by go_num, by rw [HSt.out, ← hcat], HB5.out⟩, by simp [RowKit.intOf] <;> omega⟩
                · obtain rfl : i = n := by omega
                  go_wp2_with fail
                  refine bodyPost_ret (v := .tuple #[.string ⟨(unitsTo zs 2 S i).toArray⟩, .int .i64 0]) (by simp [results, Tryz.results47, go_sem]) rfl ⟨?_, hbq⟩
                  rw [HE.out, if_pos rfl, ← HN.out, ← HS.out]
end Go.Proofs.YtkipcobpnecmhaaGreatDoor
