/- bar.Units and bedref2.UnitsOf. -/
import Derived.Test.YtkipcobpnecmhaaGreatDoorMClaimBarCodes20
import Derived.Test.YtkipcobpnecmhaaGreatDoorMClaimBarCodes18
import Derived.Test.YtkipcobpnecmhaaGreatDoorMClaimBarCodes1
import Derived.Test.YtkipcobpnecmhaaGreatDoorMClaimBarCodes0
import Derived.Test.YtkipcobpnecmhaaGreatDoorMClaimBarCodes12
import Derived.Test.YtkipcobpnecmhaaGreatDoorMClaimBarCodes11
import Derived.Test.YtkipcobpnecmhaaGreatDoorMClaimBarCodes2
import Derived.Test.YtkipcobpnecmhaaGreatDoorMClaimBarCodes3
import Derived.Test.YtkipcobpnecmhaaGreatDoorMClaimBarCodes9
import Derived.Shelf.Strings.Split
import Derived.Lib.Split
import Derived.Lib.CountLaws
import Derived.Lib.IndexMore
import Derived.Lib.Strings

namespace Go.Proofs.YtkipcobpnecmhaaGreatDoor
open Go.RowKit Go.Shelf

def lenB (n : Nat) (kind : Int) : Bool := decide (kind = 1 ∧ n = 59) || decide (kind = 2 ∧ 29 ≤ n ∧ n % 10 = 9)
def runOk (z : Int) : Bool := decide (1 ≤ z ∧ z ≤ 4000)
def okTo (zs : List Int) (k : Nat) : Bool := (zs.take k).all runOk
theorem okTo_succ {zs : List Int} {k : Nat} {z : Int} (h : zs[k]? = some z) : okTo zs (k + 1) = (okTo zs k && runOk z) := by
  unfold okTo
  rw [List.take_add_one, h, List.all_append]
  simp
theorem okTo_no {zs : List Int} {k : Nat} (h : okTo zs k = false) : okTo zs zs.length = false := by
  unfold okTo at h ⊢
  rw [List.take_length]
  rw [Bool.eq_false_iff] at h ⊢
  intro h2
  exact h (List.all_eq_true.2 fun x hx => List.all_eq_true.1 h2 x (List.mem_of_mem_take hx))
theorem okTo_mem {zs : List Int} (h : okTo zs zs.length = true) : ∀ z ∈ zs, 1 ≤ z ∧ z ≤ 4000 := by
  unfold okTo at h
  rw [List.take_length] at h
  exact fun z hz => of_decide_eq_true (List.all_eq_true.1 h z hz)
def clip (z : Int) : Nat := (min (max z 0) 4000).toNat
def clipSum (zs : List Int) : Nat → Nat
  | 0 => 0
  | k + 1 => clipSum zs k + clip (zs.getD k 0)
theorem clipSum_succ {zs : List Int} {k : Nat} {z : Int} (h : zs[k]? = some z) : clipSum zs (k + 1) = clipSum zs k + clip z := by
  show clipSum zs k + clip (zs.getD k 0) = _
  rw [List.getD_eq_getElem?_getD, h]
  rfl
theorem clipSum_le (zs : List Int) : ∀ k, clipSum zs k ≤ k * 4000
  | 0 => Nat.le_refl _
  | k + 1 => by
    have ih := clipSum_le zs k
    have h : clip (zs.getD k 0) ≤ 4000 := by unfold clip; omega
    show clipSum zs k + clip (zs.getD k 0) ≤ _
    omega
theorem clipSum_pos {zs : List Int} (hp : 1 ≤ zs.length) (h : ∀ z ∈ zs, 1 ≤ z ∧ z ≤ 4000) : 1 ≤ clipSum zs zs.length := by
  obtain ⟨n, hn⟩ : ∃ n, zs.length = n + 1 := ⟨zs.length - 1, by omega⟩
  have hg : zs[n]? = some zs[n] := List.getElem?_eq_getElem (by omega)
  have h1 := h _ (List.mem_of_getElem? hg)
  rw [hn, clipSum_succ hg]
  have : 1 ≤ clip zs[n] := by unfold clip; omega
  omega
def unitErr (zs : List Int) (kind : Int) : Int := if kind ≠ 1 ∧ kind ≠ 2 then 1 else if lenB zs.length kind = false then 2 else if okTo zs zs.length = false then 2 else 0
def blockOf (zs : List Int) (i : Nat) : List Int := (zs.drop (i / 10 * 10)).take 9
def unitK (zs : List Int) (kind : Int) (sum i : Nat) : Nat := if kind = 1 then (min 4 (max 1 (roundI (zs.getD i 0 * 95) sum))).toNat else if i % 10 < 9 ∧ wideB (zs.getD i 0) (blockOf zs i) = true then 3 else 1
theorem unitK_in (zs : List Int) (kind : Int) (sum i : Nat) : 1 ≤ unitK zs kind sum i ∧ unitK zs kind sum i ≤ 4 := by
  unfold unitK
  split
  · omega
  · split <;> omega
def moduleOf (i : Nat) : UInt8 := if i % 2 = 0 then 49 else 48
def unitsTo (zs : List Int) (kind : Int) (sum : Nat) : Nat → List UInt8
  | 0 => []
  | i + 1 => unitsTo zs kind sum i ++ List.replicate (unitK zs kind sum i) (moduleOf i)
theorem unitsTo_len (zs : List Int) (kind : Int) (sum : Nat) : ∀ i, (unitsTo zs kind sum i).length ≤ i * 4
  | 0 => Nat.le_refl _
  | i + 1 => by
    have ih := unitsTo_len zs kind sum i
    have h := (unitK_in zs kind sum i).2
    show (unitsTo zs kind sum i ++ List.replicate (unitK zs kind sum i) (moduleOf i)).length ≤ _
    rw [List.length_append, List.length_replicate]
    omega
def UnitsRes (zs : List Int) (kind : Int) (w : World) (e : Ending) (w' : World) : Prop := e = .returned (.tuple #[.string ⟨(if unitErr zs kind = 0 then unitsTo zs kind (clipSum zs zs.length) zs.length else []).toArray⟩, .int .i64 (unitErr zs kind)]) ∧ Bl w w'
theorem units_bad {zs : List Int} {kind : Int} {w w' : World} {err : Int} (h : unitErr zs kind = err) (hz : err ≠ 0) (hb : Bl w w') : UnitsRes zs kind w (.returned (.tuple #[.string ⟨#[]⟩, .int .i64 err])) w' := by
  unfold UnitsRes
  rw [h, if_neg hz]
  exact ⟨rfl, hb⟩

set_option maxRecDepth 100000 in
set_option maxHeartbeats 8000000 in
theorem units_any (zs : List Int) (L : Option Addr) (c : Nat) (kind : Int) (w : World) (hx : Reads w 1 L zs.length (intCells zs)) (hn : zs.length ≤ 1048576) (hc : zs.length ≤ c) :
    Calls Tryz.prog 76 #[.slice L zs.length c, .int .i64 kind] w (UnitsRes zs kind w) := by
  have HX := Lib.hid hx
  clear hx
  obtain ⟨n, hnn⟩ : ∃ n, n = zs.length := ⟨_, rfl⟩
  have HN := Lib.hid hnn
  rw [← hnn] at HX hn hc ⊢
  clear hnn
  go_enter Tryz.func76, Tryz.ntmps76
  by_cases hk : kind ≠ 1 ∧ kind ≠ 2
  · have HE := Lib.hid (show unitErr zs kind = 1 by unfold unitErr; rw [if_pos hk])
    have h1 : (kind != 1) = true := by rw [bne_iff_ne]; exact hk.1
    have h2 : (kind != 2) = true := by rw [bne_iff_ne]; exact hk.2
    have h3 : (kind != 1 && kind != 2) = true := by rw [h1, h2]; rfl
    clear hk
    go_wp2_with fail
    try simp only [Exit.inBlock, Exit.then]
    exact bodyPost_ret (v := .tuple #[.string ⟨#[]⟩, .int .i64 1]) (by simp [results, Tryz.results76, go_sem]) rfl (units_bad HE.out (by decide) (Bl.refl _))
  · by_cases hl : lenB n kind = false
    · have HE := Lib.hid (show unitErr zs kind = 2 by unfold unitErr; rw [if_neg hk, ← HN.out, if_pos hl])
      have hcase : (kind = 1 ∧ n ≠ 59) ∨ (kind = 2 ∧ (n % 10 ≠ 9 ∨ n < 29)) := by
        unfold lenB at hl
        simp only [Bool.or_eq_false_iff, decide_eq_false_iff_not] at hl
        omega
      clear hk hl
      rcases hcase with ⟨rfl, h⟩ | ⟨rfl, h⟩
      · have h1 : (n : Int) ≠ 59 := by omega
        clear h
        go_wp2_with fail
        try simp only [Exit.inBlock, Exit.then]
        exact bodyPost_ret (v := .tuple #[.string ⟨#[]⟩, .int .i64 2]) (by simp [results, Tryz.results76, go_sem]) rfl (units_bad HE.out (by decide) (Bl.refl _))
      · have hm : (n : Int) % 10 = ((n % 10 : Nat) : Int) := by omega
        obtain ⟨m, hmm⟩ : ∃ m, m = n % 10 := ⟨_, rfl⟩
        rw [← hmm] at hm h
        clear hmm
        by_cases h9 : m = 9
        · subst h9
          have h1 : (n : Int) < 29 := by omega
          clear h
          go_wp2_with fail
          try simp only [Exit.inBlock, Exit.then]
          exact bodyPost_ret (v := .tuple #[.string ⟨#[]⟩, .int .i64 2]) (by simp [results, Tryz.results76, go_sem]) rfl (units_bad HE.out (by decide) (Bl.refl _))
        · have h1 : (m : Int) ≠ 9 := by omega
          clear h h9
          go_wp2_with fail
          try simp only [Exit.inBlock, Exit.then]
          exact bodyPost_ret (v := .tuple #[.string ⟨#[]⟩, .int .i64 2]) (by simp [results, Tryz.results76, go_sem]) rfl (units_bad HE.out (by decide) (Bl.refl _))
    · have HE0 := Lib.hid (show unitErr zs kind = if okTo zs zs.length = false then 2 else 0 by unfold unitErr; rw [if_neg hk, ← HN.out, if_neg hl])
      have hkind : (kind = 1 ∧ n = 59) ∨ (kind = 2 ∧ 29 ≤ n ∧ n % 10 = 9) := by
        unfold lenB at hl
        simp only [Bool.not_eq_false, Bool.or_eq_true, decide_eq_true_eq] at hl
        exact hl
      have hn29 : 29 ≤ n := by omega
      clear hk hl
      rcases hkind with ⟨rfl, hlen⟩ | ⟨rfl, hlen29, hlen10⟩
      · have h59 : (n : Int) = 59 := by omega
        clear hlen
        go_upto_region 6 with fail
        clear h59
        go_wp2_with fail
        go_loopw [6, 43] (fun u v wr => ∃ i : Nat, i ≤ n ∧ v = .int .i64 i ∧ u = .int .i64 ((clipSum zs i : Nat) : Int) ∧ Bl w wr ∧ Hid (okTo zs i = true)) (fun _ v _ => n - (RowKit.intOf v).toNat)
        case atStart => exact ⟨0, Nat.zero_le _, rfl, rfl, Bl.refl _, Lib.hid rfl⟩
        case round =>
          obtain ⟨i, hi, rfl, rfl, hbr, hok⟩ := hrel
          by_cases hlt : i < n
          · obtain ⟨z, hz⟩ : ∃ z, zs[i]? = some z := ⟨_, List.getElem?_eq_getElem (by have := HN.out; omega)⟩
            have hxx := HX.out.bl hbr
            rw [HN.out] at hxx
            obtain ⟨ad, rfl, c0⟩ := int_at hxx hz
            have hos := okTo_succ hz
            have hcs := clipSum_succ hz
            have hcl := clipSum_le zs i
            obtain ⟨S, hS⟩ : ∃ S, S = clipSum zs i := ⟨_, rfl⟩
            rw [← hS] at hcs hcl ⊢
            have HOs := Lib.hid hos; have HCs := Lib.hid hcs
            clear hos hcs hS hz hxx
            by_cases h1 : z < 1
            · have HE := Lib.hid (show unitErr zs 1 = 2 by
                rw [HE0.out, if_pos (okTo_no (k := i + 1) (by rw [HOs.out]; unfold runOk; rw [decide_eq_false (by omega), Bool.and_false]))])
              go_wp2_with fail
              try simp only [Exit.inBlock, Exit.then]
              exact bodyPost_ret (v := .tuple #[.string ⟨#[]⟩, .int .i64 2]) (by simp [results, Tryz.results76, go_sem]) rfl (units_bad HE.out (by decide) hbr)
            · by_cases h2 : 4000 < z
              · have HE := Lib.hid (show unitErr zs 1 = 2 by
                  rw [HE0.out, if_pos (okTo_no (k := i + 1) (by rw [HOs.out]; unfold runOk; rw [decide_eq_false (by omega), Bool.and_false]))])
                go_wp2_with fail
                try simp only [Exit.inBlock, Exit.then]
                exact bodyPost_ret (v := .tuple #[.string ⟨#[]⟩, .int .i64 2]) (by simp [results, Tryz.results76, go_sem]) rfl (units_bad HE.out (by decide) hbr)
              · have hcz : (S : Int) + z = ((clipSum zs (i + 1) : Nat) : Int) := by rw [HCs.out]; unfold clip; omega
                have HCz := Lib.hid hcz
                have HO2 := Lib.hid (show okTo zs (i + 1) = true by rw [HOs.out, hok.out]; unfold runOk; rw [decide_eq_true ⟨by omega, by omega⟩]; rfl)
                clear hcz
                go_wp2_with fail
                exact ⟨⟨i + 1, hlt, by go_num, by rw [HCz.out], hbr, HO2⟩, by simp [RowKit.intOf] <;> omega⟩
          · obtain rfl : i = n := by omega
            have hok1 := hok.out
            rw [HN.out] at hok1
            have HE := Lib.hid (show unitErr zs 1 = 0 by rw [HE0.out, if_neg (by rw [hok1]; decide)])
            have HOk := Lib.hid (okTo_mem hok1)
            have hsp := clipSum_pos (by rw [← HN.out]; omega) (okTo_mem hok1)
            rw [← HN.out] at hsp
            have hsl := clipSum_le zs i
            obtain ⟨n, hnd⟩ : ∃ n, n = i := ⟨_, rfl⟩
            subst hnd
            obtain ⟨S, hS⟩ : ∃ S, S = clipSum zs n := ⟨_, rfl⟩
            rw [← hS] at hsp hsl ⊢
            have HS := Lib.hid hS
            clear hok hok1 hS
            go_upto_region 15 with fail
            obtain ⟨w3, hw3⟩ : ∃ x, x = wr.alloc (.cells #[.pointer none, .slice none 0 0] 88) := ⟨_, rfl⟩
            have hb3 : Bl wr w3 := by rw [hw3]; exact (Bl.refl _).alloc _
            obtain ⟨B, hB⟩ : ∃ x, x = wr.heap.size := ⟨_, rfl⟩
            have H0 := Lib.hid (show Bui B (unitsTo zs 1 S 0) w3 by rw [hw3, hB]; exact builder_fresh wr)
            have hle3 : B ≤ w3.heap.size := by rw [hB]; exact hb3.le
            rw [← hw3, ← hB]
            have HB := Lib.hid hB
            clear hw3 hB
            go_wp2_with fail
            go_loopw [59] (fun v wq => ∃ i : Nat, i ≤ n ∧ v = .int .i64 i ∧ Bl wr wq ∧ B ≤ wq.heap.size ∧ Hid (Bui B (unitsTo zs 1 S i) wq)) (fun v _ => n - (RowKit.intOf v).toNat)
            case atStart => exact ⟨0, Nat.zero_le _, rfl, hb3, hle3, H0⟩
            case round =>
              rename World => wq
              obtain ⟨i, hi, rfl, hbq, hBq, hbu⟩ := hrel
              by_cases hlt : i < n
              · obtain ⟨z, hg⟩ : ∃ z, zs[i]? = some z := ⟨_, List.getElem?_eq_getElem (by have := HN.out; omega)⟩
                have hxx := HX.out.bl (hbr.trans hbq)
                rw [HN.out] at hxx
                obtain ⟨ad, rfl, c0⟩ := int_at hxx hg
                have hz := HOk.out z (List.mem_of_getElem? hg)
                have HG := Lib.hid hg
                have hst : unitsTo zs 1 S (i + 1) = unitsTo zs 1 S i ++ List.replicate (unitK zs 1 S i) (moduleOf i) := rfl
                have hk14 := unitK_in zs 1 S i
                have hul := unitsTo_len zs 1 S i
                have HSt := Lib.hid hst
                clear hxx hg hst
                have hr2 : i % 2 = 0 ∨ i % 2 = 1 := by omega
                obtain ⟨r, hr⟩ : ∃ r, r = i % 2 := ⟨_, rfl⟩
                have hrI : (i : Int) % 2 = (r : Int) := by omega
                have hmo : moduleOf i = if r = 0 then 49 else 48 := by unfold moduleOf; rw [hr]
                rw [← hr] at hr2
                clear hr
                rcases hr2 with rfl | rfl
                · have HMo := Lib.hid (show moduleOf i = 49 from hmo)
                  clear hmo
                  have hR := rounded_any (z * 95) (S : Int) wq (by omega) (by omega) (by omega) (by omega)
                  obtain ⟨R, hRR⟩ : ∃ R, R = roundI (z * 95) (S : Int) := ⟨_, rfl⟩
                  rw [← hRR] at hR
                  have hK : unitK zs 1 S i = (min 4 (max 1 R)).toNat := by unfold unitK; rw [if_pos rfl, List.getD_eq_getElem?_getD, HG.out, hRR]; rfl
                  have hKI : min (max R 1) 4 = ((unitK zs 1 S i : Nat) : Int) := by rw [hK]; omega
                  obtain ⟨k, hk⟩ : ∃ k, k = unitK zs 1 S i := ⟨_, rfl⟩
                  rw [← hk] at hKI hk14 HSt
                  have HR := Lib.hid hR
                  clear hR hRR hK hk
                  have Hrp := Lib.hid (show Calls Tryz.prog 32 #[.string ⟨#[49]⟩, .int .i64 k] wq (fun e w' => e = .returned (.string ⟨(List.replicate k (moduleOf i)).toArray⟩) ∧ Bl wq w') from by rw [HMo.out]; exact repeat_any 49 (.inr rfl) k hk14.1 hk14.2 wq)
                  go_wp2_with fail
                  refine HR.out.mono ?_
                  rintro e w' ⟨rfl, rfl⟩
                  go_wp2_with fail
                  refine Hrp.out.mono ?_
                  rintro e w5 ⟨rfl, hb5⟩
                  have hbu5 := builder_bl hbu.out hb5
                  have hBq5 : B ≤ w5.heap.size := Nat.le_trans hBq hb5.le
                  have Hw := Lib.hid (writeString_any B _ (List.replicate k (moduleOf i)) w5 hbu5 (by rw [List.length_replicate]; omega) hBq5)
                  have HB5 := Lib.hid (hbq.trans hb5)
                  clear Hrp hbu5 hb5
                  go_wp2_with fail
                  refine Hw.out.mono ?_
                  rintro e w6 ⟨rfl, hbu6, hbe6⟩
                  rw [← HSt.out] at hbu6
                  have HBu6 := Lib.hid hbu6
                  have HB6 := Lib.hid (Bl.trans' HB5.out HB.out.symm hbe6)
                  have hBq6 : B ≤ w6.heap.size := Nat.le_trans hBq5 hbe6.size
                  clear Hw hbu6 hbe6
                  go_wp2_with fail
                  exact ⟨⟨i + 1, hlt, by go_num, HB6.out, hBq6, HBu6⟩, by simp [RowKit.intOf] <;> omega⟩
                · have HMo := Lib.hid (show moduleOf i = 48 from hmo)
                  clear hmo
                  have hR := rounded_any (z * 95) (S : Int) wq (by omega) (by omega) (by omega) (by omega)
                  obtain ⟨R, hRR⟩ : ∃ R, R = roundI (z * 95) (S : Int) := ⟨_, rfl⟩
                  rw [← hRR] at hR
                  have hK : unitK zs 1 S i = (min 4 (max 1 R)).toNat := by unfold unitK; rw [if_pos rfl, List.getD_eq_getElem?_getD, HG.out, hRR]; rfl
                  have hKI : min (max R 1) 4 = ((unitK zs 1 S i : Nat) : Int) := by rw [hK]; omega
                  obtain ⟨k, hk⟩ : ∃ k, k = unitK zs 1 S i := ⟨_, rfl⟩
                  rw [← hk] at hKI hk14 HSt
                  have HR := Lib.hid hR
                  clear hR hRR hK hk
                  have Hrp := Lib.hid (show Calls Tryz.prog 32 #[.string ⟨#[48]⟩, .int .i64 k] wq (fun e w' => e = .returned (.string ⟨(List.replicate k (moduleOf i)).toArray⟩) ∧ Bl wq w') from by rw [HMo.out]; exact repeat_any 48 (.inl rfl) k hk14.1 hk14.2 wq)
                  go_wp2_with fail
                  refine HR.out.mono ?_
                  rintro e w' ⟨rfl, rfl⟩
                  go_wp2_with fail
                  refine Hrp.out.mono ?_
                  rintro e w5 ⟨rfl, hb5⟩
                  have hbu5 := builder_bl hbu.out hb5
                  have hBq5 : B ≤ w5.heap.size := Nat.le_trans hBq hb5.le
                  have Hw := Lib.hid (writeString_any B _ (List.replicate k (moduleOf i)) w5 hbu5 (by rw [List.length_replicate]; omega) hBq5)
                  have HB5 := Lib.hid (hbq.trans hb5)
                  clear Hrp hbu5 hb5
                  go_wp2_with fail
                  refine Hw.out.mono ?_
                  rintro e w6 ⟨rfl, hbu6, hbe6⟩
                  rw [← HSt.out] at hbu6
                  have HBu6 := Lib.hid hbu6
                  have HB6 := Lib.hid (Bl.trans' HB5.out HB.out.symm hbe6)
                  have hBq6 : B ≤ w6.heap.size := Nat.le_trans hBq5 hbe6.size
                  clear Hw hbu6 hbe6
                  go_wp2_with fail
                  exact ⟨⟨i + 1, hlt, by go_num, HB6.out, hBq6, HBu6⟩, by simp [RowKit.intOf] <;> omega⟩
              · obtain rfl : i = n := by omega
                have Hst := Lib.hid (builderString_any B _ wq hbu.out hBq)
                clear hbu
                go_wp2_with fail
                refine Hst.out.mono ?_
                rintro e w5 ⟨rfl, hbe5⟩
                have HB5 := Lib.hid (Bl.trans' hbq HB.out.symm hbe5)
                clear Hst hbe5
                go_wp2_with fail
                refine bodyPost_ret (v := .tuple #[.string ⟨(unitsTo zs 1 S i).toArray⟩, .int .i64 0]) (by simp [results, Tryz.results76, go_sem]) rfl ⟨?_, hbr.trans HB5.out⟩
                rw [HE.out, if_pos rfl, ← HN.out, ← HS.out]
      · have h10 : (n : Int) % 10 = 9 := by omega
        have h29 : ¬ ((n : Int) < 29) := by omega
        go_upto_region 6 with fail
        go_wp2_with fail
        go_loopw [6, 43] (fun u v wr => ∃ i : Nat, i ≤ n ∧ v = .int .i64 i ∧ u = .int .i64 ((clipSum zs i : Nat) : Int) ∧ Bl w wr ∧ Hid (okTo zs i = true)) (fun _ v _ => n - (RowKit.intOf v).toNat)
        case atStart => exact ⟨0, Nat.zero_le _, rfl, rfl, Bl.refl _, Lib.hid rfl⟩
        case round =>
          obtain ⟨i, hi, rfl, rfl, hbr, hok⟩ := hrel
          by_cases hlt : i < n
          · obtain ⟨z, hz⟩ : ∃ z, zs[i]? = some z := ⟨_, List.getElem?_eq_getElem (by have := HN.out; omega)⟩
            have hxx := HX.out.bl hbr
            rw [HN.out] at hxx
            obtain ⟨ad, rfl, c0⟩ := int_at hxx hz
            have hos := okTo_succ hz
            have hcs := clipSum_succ hz
            have hcl := clipSum_le zs i
            obtain ⟨S, hS⟩ : ∃ S, S = clipSum zs i := ⟨_, rfl⟩
            rw [← hS] at hcs hcl ⊢
            have HOs := Lib.hid hos; have HCs := Lib.hid hcs
            clear hos hcs hS hz hxx
            by_cases h1 : z < 1
            · have HE := Lib.hid (show unitErr zs 2 = 2 by
                rw [HE0.out, if_pos (okTo_no (k := i + 1) (by rw [HOs.out]; unfold runOk; rw [decide_eq_false (by omega), Bool.and_false]))])
              go_wp2_with fail
              try simp only [Exit.inBlock, Exit.then]
              exact bodyPost_ret (v := .tuple #[.string ⟨#[]⟩, .int .i64 2]) (by simp [results, Tryz.results76, go_sem]) rfl (units_bad HE.out (by decide) hbr)
            · by_cases h2 : 4000 < z
              · have HE := Lib.hid (show unitErr zs 2 = 2 by
                  rw [HE0.out, if_pos (okTo_no (k := i + 1) (by rw [HOs.out]; unfold runOk; rw [decide_eq_false (by omega), Bool.and_false]))])
                go_wp2_with fail
                try simp only [Exit.inBlock, Exit.then]
                exact bodyPost_ret (v := .tuple #[.string ⟨#[]⟩, .int .i64 2]) (by simp [results, Tryz.results76, go_sem]) rfl (units_bad HE.out (by decide) hbr)
              · have hcz : (S : Int) + z = ((clipSum zs (i + 1) : Nat) : Int) := by rw [HCs.out]; unfold clip; omega
                have HCz := Lib.hid hcz
                have HO2 := Lib.hid (show okTo zs (i + 1) = true by rw [HOs.out, hok.out]; unfold runOk; rw [decide_eq_true ⟨by omega, by omega⟩]; rfl)
                clear hcz
                go_wp2_with fail
                exact ⟨⟨i + 1, hlt, by go_num, by rw [HCz.out], hbr, HO2⟩, by simp [RowKit.intOf] <;> omega⟩
          · obtain rfl : i = n := by omega
            have hok1 := hok.out
            rw [HN.out] at hok1
            have HE := Lib.hid (show unitErr zs 2 = 0 by rw [HE0.out, if_neg (by rw [hok1]; decide)])
            have HOk := Lib.hid (okTo_mem hok1)
            have hsp := clipSum_pos (by rw [← HN.out]; omega) (okTo_mem hok1)
            rw [← HN.out] at hsp
            have hsl := clipSum_le zs i
            obtain ⟨n, hnd⟩ : ∃ n, n = i := ⟨_, rfl⟩
            subst hnd
            obtain ⟨S, hS⟩ : ∃ S, S = clipSum zs n := ⟨_, rfl⟩
            rw [← hS] at hsp hsl ⊢
            have HS := Lib.hid hS
            clear hok hok1 hS
            go_upto_region 15 with fail
            obtain ⟨w3, hw3⟩ : ∃ x, x = wr.alloc (.cells #[.pointer none, .slice none 0 0] 88) := ⟨_, rfl⟩
            have hb3 : Bl wr w3 := by rw [hw3]; exact (Bl.refl _).alloc _
            obtain ⟨B, hB⟩ : ∃ x, x = wr.heap.size := ⟨_, rfl⟩
            have H0 := Lib.hid (show Bui B (unitsTo zs 2 S 0) w3 by rw [hw3, hB]; exact builder_fresh wr)
            have hle3 : B ≤ w3.heap.size := by rw [hB]; exact hb3.le
            rw [← hw3, ← hB]
            have HB := Lib.hid hB
            clear hw3 hB
            go_wp2_with fail
            go_loopw [59] (fun v wq => ∃ i : Nat, i ≤ n ∧ v = .int .i64 i ∧ Bl wr wq ∧ B ≤ wq.heap.size ∧ Hid (Bui B (unitsTo zs 2 S i) wq)) (fun v _ => n - (RowKit.intOf v).toNat)
            case atStart => exact ⟨0, Nat.zero_le _, rfl, hb3, hle3, H0⟩
            case round =>
              rename World => wq
              obtain ⟨i, hi, rfl, hbq, hBq, hbu⟩ := hrel
              by_cases hlt : i < n
              · obtain ⟨z, hg⟩ : ∃ z, zs[i]? = some z := ⟨_, List.getElem?_eq_getElem (by have := HN.out; omega)⟩
                have hxx := HX.out.bl (hbr.trans hbq)
                rw [HN.out] at hxx
                obtain ⟨ad, rfl, c0⟩ := int_at hxx hg
                have hz := HOk.out z (List.mem_of_getElem? hg)
                have HG := Lib.hid hg
                have hst : unitsTo zs 2 S (i + 1) = unitsTo zs 2 S i ++ List.replicate (unitK zs 2 S i) (moduleOf i) := rfl
                have hk14 := unitK_in zs 2 S i
                have hul := unitsTo_len zs 2 S i
                have HSt := Lib.hid hst
                clear hxx hg hst
                have hr2 : i % 2 = 0 ∨ i % 2 = 1 := by omega
                obtain ⟨r, hr⟩ : ∃ r, r = i % 2 := ⟨_, rfl⟩
                have hrI : (i : Int) % 2 = (r : Int) := by omega
                have hmo : moduleOf i = if r = 0 then 49 else 48 := by unfold moduleOf; rw [hr]
                rw [← hr] at hr2
                clear hr
                rcases hr2 with rfl | rfl
                · have HMo := Lib.hid (show moduleOf i = 49 from hmo)
                  clear hmo
                  obtain ⟨m, hm⟩ : ∃ m, m = i % 10 := ⟨_, rfl⟩
                  have hmI : (i : Int) % 10 = (m : Int) := by omega
                  obtain ⟨d, hd⟩ : ∃ d, d = i / 10 := ⟨_, rfl⟩
                  have hdI : (i : Int) / 10 = (d : Int) := by omega
                  by_cases hm9 : m < 9
                  · have hs9 : d * 10 + 9 ≤ n := by omega
                    have hsI : (d : Int) * 10 = ((d * 10 : Nat) : Int) := by omega
                    obtain ⟨q, hq⟩ : ∃ q, q = d * 10 := ⟨_, rfl⟩
                    rw [← hq] at hs9 hsI
                    have hbl : blockOf zs i = (zs.drop q).take 9 := by unfold blockOf; rw [hq, hd]
                    have hbll : (blockOf zs i).length = 9 := by rw [hbl, List.length_take, List.length_drop, ← HN.out]; omega
                    have hrd : Reads wq 1 (some (ad.add q)) (blockOf zs i).length (intCells (blockOf zs i)) := by
                      have h := Reads.sub (HX.out.bl (hbr.trans hbq)) hs9
                      rw [hbll, hbl]
                      unfold intCells at h ⊢
                      rw [← List.map_drop, ← List.map_take] at h
                      exact h
                    have hbo : ∀ y ∈ blockOf zs i, 1 ≤ y ∧ y ≤ 4000 := fun y hy => HOk.out y (List.mem_of_mem_drop (List.mem_of_mem_take (by rw [← hbl]; exact hy)))
                    have hwd := wide_any z (some (ad.add q)) (c - q) (blockOf zs i) wq hz hrd (by omega) (by omega) hbo
                    rw [hbll] at hwd
                    obtain ⟨wb, hwb⟩ : ∃ b, b = wideB z (blockOf zs i) := ⟨_, rfl⟩
                    rw [← hwb] at hwd
                    have hK : unitK zs 2 S i = if wb = true then 3 else 1 := by
                      unfold unitK
                      rw [if_neg (by decide), List.getD_eq_getElem?_getD, HG.out]
                      show (if i % 10 < 9 ∧ wideB z (blockOf zs i) = true then 3 else 1) = _
                      rw [← hwb]
                      by_cases h : wb = true
                      · rw [if_pos h, if_pos ⟨by omega, h⟩]
                      · rw [if_neg h, if_neg (fun hh => h hh.2)]
                    have hqq : q + 9 - q = 9 := by omega
                    have hqc : q + 9 ≤ c := by omega
                    have hmlt : (m : Int) < 9 := by omega
                    have HWd := Lib.hid hwd
                    rw [hK] at HSt
                    clear hwd hwb hK hbl hbll hrd hbo hq hd hm
                    cases wb with
                    | true =>
                      rw [if_pos rfl] at HSt
                      have Hrp := Lib.hid (show Calls Tryz.prog 32 #[.string ⟨#[49]⟩, .int .i64 3] wq (fun e w' => e = .returned (.string ⟨(List.replicate 3 (moduleOf i)).toArray⟩) ∧ Bl wq w') from by rw [HMo.out]; exact repeat_any 49 (.inr rfl) 3 (by decide) (by decide) wq)
                      go_wp2_with fail
                      first | rw [hqq] | skip
                      refine HWd.out.mono ?_
                      rintro e w' ⟨rfl, rfl⟩
                      go_wp2_with fail
                      refine Hrp.out.mono ?_
                      rintro e w5 ⟨rfl, hb5⟩
                      have hbu5 := builder_bl hbu.out hb5
                      have hBq5 : B ≤ w5.heap.size := Nat.le_trans hBq hb5.le
                      have Hw := Lib.hid (writeString_any B _ (List.replicate 3 (moduleOf i)) w5 hbu5 (by rw [List.length_replicate]; omega) hBq5)
                      have HB5 := Lib.hid (hbq.trans hb5)
                      clear Hrp hbu5 hb5
                      go_wp2_with fail
                      refine Hw.out.mono ?_
                      rintro e w6 ⟨rfl, hbu6, hbe6⟩
                      rw [← HSt.out] at hbu6
                      have HBu6 := Lib.hid hbu6
                      have HB6 := Lib.hid (Bl.trans' HB5.out HB.out.symm hbe6)
                      have hBq6 : B ≤ w6.heap.size := Nat.le_trans hBq5 hbe6.size
                      clear Hw hbu6 hbe6
                      go_wp2_with fail
                      exact ⟨⟨i + 1, hlt, by go_num, HB6.out, hBq6, HBu6⟩, by simp [RowKit.intOf] <;> omega⟩
                    | false =>
                      rw [if_neg (by decide)] at HSt
                      have Hrp := Lib.hid (show Calls Tryz.prog 32 #[.string ⟨#[49]⟩, .int .i64 1] wq (fun e w' => e = .returned (.string ⟨(List.replicate 1 (moduleOf i)).toArray⟩) ∧ Bl wq w') from by rw [HMo.out]; exact repeat_any 49 (.inr rfl) 1 (by decide) (by decide) wq)
                      go_wp2_with fail
                      first | rw [hqq] | skip
                      refine HWd.out.mono ?_
                      rintro e w' ⟨rfl, rfl⟩
                      go_wp2_with fail
                      refine Hrp.out.mono ?_
                      rintro e w5 ⟨rfl, hb5⟩
                      have hbu5 := builder_bl hbu.out hb5
                      have hBq5 : B ≤ w5.heap.size := Nat.le_trans hBq hb5.le
                      have Hw := Lib.hid (writeString_any B _ (List.replicate 1 (moduleOf i)) w5 hbu5 (by rw [List.length_replicate]; omega) hBq5)
                      have HB5 := Lib.hid (hbq.trans hb5)
                      clear Hrp hbu5 hb5
                      go_wp2_with fail
                      refine Hw.out.mono ?_
                      rintro e w6 ⟨rfl, hbu6, hbe6⟩
                      rw [← HSt.out] at hbu6
                      have HBu6 := Lib.hid hbu6
                      have HB6 := Lib.hid (Bl.trans' HB5.out HB.out.symm hbe6)
                      have hBq6 : B ≤ w6.heap.size := Nat.le_trans hBq5 hbe6.size
                      clear Hw hbu6 hbe6
                      go_wp2_with fail
                      exact ⟨⟨i + 1, hlt, by go_num, HB6.out, hBq6, HBu6⟩, by simp [RowKit.intOf] <;> omega⟩
                  · have hK : unitK zs 2 S i = 1 := by
                      unfold unitK
                      rw [if_neg (by decide), if_neg (fun hh => by omega)]
                    have hmlt : ¬ ((m : Int) < 9) := by omega
                    rw [hK] at HSt
                    clear hK hd hm
                    have Hrp := Lib.hid (show Calls Tryz.prog 32 #[.string ⟨#[49]⟩, .int .i64 1] wq (fun e w' => e = .returned (.string ⟨(List.replicate 1 (moduleOf i)).toArray⟩) ∧ Bl wq w') from by rw [HMo.out]; exact repeat_any 49 (.inr rfl) 1 (by decide) (by decide) wq)
                    go_wp2_with fail
                    refine Hrp.out.mono ?_
                    rintro e w5 ⟨rfl, hb5⟩
                    have hbu5 := builder_bl hbu.out hb5
                    have hBq5 : B ≤ w5.heap.size := Nat.le_trans hBq hb5.le
                    have Hw := Lib.hid (writeString_any B _ (List.replicate 1 (moduleOf i)) w5 hbu5 (by rw [List.length_replicate]; omega) hBq5)
                    have HB5 := Lib.hid (hbq.trans hb5)
                    clear Hrp hbu5 hb5
                    go_wp2_with fail
                    refine Hw.out.mono ?_
                    rintro e w6 ⟨rfl, hbu6, hbe6⟩
                    rw [← HSt.out] at hbu6
                    have HBu6 := Lib.hid hbu6
                    have HB6 := Lib.hid (Bl.trans' HB5.out HB.out.symm hbe6)
                    have hBq6 : B ≤ w6.heap.size := Nat.le_trans hBq5 hbe6.size
                    clear Hw hbu6 hbe6
                    go_wp2_with fail
                    exact ⟨⟨i + 1, hlt, by go_num, HB6.out, hBq6, HBu6⟩, by simp [RowKit.intOf] <;> omega⟩
                · have HMo := Lib.hid (show moduleOf i = 48 from hmo)
                  clear hmo
                  obtain ⟨m, hm⟩ : ∃ m, m = i % 10 := ⟨_, rfl⟩
                  have hmI : (i : Int) % 10 = (m : Int) := by omega
                  obtain ⟨d, hd⟩ : ∃ d, d = i / 10 := ⟨_, rfl⟩
                  have hdI : (i : Int) / 10 = (d : Int) := by omega
                  by_cases hm9 : m < 9
                  · have hs9 : d * 10 + 9 ≤ n := by omega
                    have hsI : (d : Int) * 10 = ((d * 10 : Nat) : Int) := by omega
                    obtain ⟨q, hq⟩ : ∃ q, q = d * 10 := ⟨_, rfl⟩
                    rw [← hq] at hs9 hsI
                    have hbl : blockOf zs i = (zs.drop q).take 9 := by unfold blockOf; rw [hq, hd]
                    have hbll : (blockOf zs i).length = 9 := by rw [hbl, List.length_take, List.length_drop, ← HN.out]; omega
                    have hrd : Reads wq 1 (some (ad.add q)) (blockOf zs i).length (intCells (blockOf zs i)) := by
                      have h := Reads.sub (HX.out.bl (hbr.trans hbq)) hs9
                      rw [hbll, hbl]
                      unfold intCells at h ⊢
                      rw [← List.map_drop, ← List.map_take] at h
                      exact h
                    have hbo : ∀ y ∈ blockOf zs i, 1 ≤ y ∧ y ≤ 4000 := fun y hy => HOk.out y (List.mem_of_mem_drop (List.mem_of_mem_take (by rw [← hbl]; exact hy)))
                    have hwd := wide_any z (some (ad.add q)) (c - q) (blockOf zs i) wq hz hrd (by omega) (by omega) hbo
                    rw [hbll] at hwd
                    obtain ⟨wb, hwb⟩ : ∃ b, b = wideB z (blockOf zs i) := ⟨_, rfl⟩
                    rw [← hwb] at hwd
                    have hK : unitK zs 2 S i = if wb = true then 3 else 1 := by
                      unfold unitK
                      rw [if_neg (by decide), List.getD_eq_getElem?_getD, HG.out]
                      show (if i % 10 < 9 ∧ wideB z (blockOf zs i) = true then 3 else 1) = _
                      rw [← hwb]
                      by_cases h : wb = true
                      · rw [if_pos h, if_pos ⟨by omega, h⟩]
                      · rw [if_neg h, if_neg (fun hh => h hh.2)]
                    have hqq : q + 9 - q = 9 := by omega
                    have hqc : q + 9 ≤ c := by omega
                    have hmlt : (m : Int) < 9 := by omega
                    have HWd := Lib.hid hwd
                    rw [hK] at HSt
                    clear hwd hwb hK hbl hbll hrd hbo hq hd hm
                    cases wb with
                    | true =>
                      rw [if_pos rfl] at HSt
                      have Hrp := Lib.hid (show Calls Tryz.prog 32 #[.string ⟨#[48]⟩, .int .i64 3] wq (fun e w' => e = .returned (.string ⟨(List.replicate 3 (moduleOf i)).toArray⟩) ∧ Bl wq w') from by rw [HMo.out]; exact repeat_any 48 (.inl rfl) 3 (by decide) (by decide) wq)
                      go_wp2_with fail
                      first | rw [hqq] | skip
                      refine HWd.out.mono ?_
                      rintro e w' ⟨rfl, rfl⟩
                      go_wp2_with fail
                      refine Hrp.out.mono ?_
                      rintro e w5 ⟨rfl, hb5⟩
                      have hbu5 := builder_bl hbu.out hb5
                      have hBq5 : B ≤ w5.heap.size := Nat.le_trans hBq hb5.le
                      have Hw := Lib.hid (writeString_any B _ (List.replicate 3 (moduleOf i)) w5 hbu5 (by rw [List.length_replicate]; omega) hBq5)
                      have HB5 := Lib.hid (hbq.trans hb5)
                      clear Hrp hbu5 hb5
                      go_wp2_with fail
                      refine Hw.out.mono ?_
                      rintro e w6 ⟨rfl, hbu6, hbe6⟩
                      rw [← HSt.out] at hbu6
                      have HBu6 := Lib.hid hbu6
                      have HB6 := Lib.hid (Bl.trans' HB5.out HB.out.symm hbe6)
                      have hBq6 : B ≤ w6.heap.size := Nat.le_trans hBq5 hbe6.size
                      clear Hw hbu6 hbe6
                      go_wp2_with fail
                      exact ⟨⟨i + 1, hlt, by go_num, HB6.out, hBq6, HBu6⟩, by simp [RowKit.intOf] <;> omega⟩
                    | false =>
                      rw [if_neg (by decide)] at HSt
                      have Hrp := Lib.hid (show Calls Tryz.prog 32 #[.string ⟨#[48]⟩, .int .i64 1] wq (fun e w' => e = .returned (.string ⟨(List.replicate 1 (moduleOf i)).toArray⟩) ∧ Bl wq w') from by rw [HMo.out]; exact repeat_any 48 (.inl rfl) 1 (by decide) (by decide) wq)
                      go_wp2_with fail
                      first | rw [hqq] | skip
                      refine HWd.out.mono ?_
                      rintro e w' ⟨rfl, rfl⟩
                      go_wp2_with fail
                      refine Hrp.out.mono ?_
                      rintro e w5 ⟨rfl, hb5⟩
                      have hbu5 := builder_bl hbu.out hb5
                      have hBq5 : B ≤ w5.heap.size := Nat.le_trans hBq hb5.le
                      have Hw := Lib.hid (writeString_any B _ (List.replicate 1 (moduleOf i)) w5 hbu5 (by rw [List.length_replicate]; omega) hBq5)
                      have HB5 := Lib.hid (hbq.trans hb5)
                      clear Hrp hbu5 hb5
                      go_wp2_with fail
                      refine Hw.out.mono ?_
                      rintro e w6 ⟨rfl, hbu6, hbe6⟩
                      rw [← HSt.out] at hbu6
                      have HBu6 := Lib.hid hbu6
                      have HB6 := Lib.hid (Bl.trans' HB5.out HB.out.symm hbe6)
                      have hBq6 : B ≤ w6.heap.size := Nat.le_trans hBq5 hbe6.size
                      clear Hw hbu6 hbe6
                      go_wp2_with fail
                      exact ⟨⟨i + 1, hlt, by go_num, HB6.out, hBq6, HBu6⟩, by simp [RowKit.intOf] <;> omega⟩
                  · have hK : unitK zs 2 S i = 1 := by
                      unfold unitK
                      rw [if_neg (by decide), if_neg (fun hh => by omega)]
                    have hmlt : ¬ ((m : Int) < 9) := by omega
                    rw [hK] at HSt
                    clear hK hd hm
                    have Hrp := Lib.hid (show Calls Tryz.prog 32 #[.string ⟨#[48]⟩, .int .i64 1] wq (fun e w' => e = .returned (.string ⟨(List.replicate 1 (moduleOf i)).toArray⟩) ∧ Bl wq w') from by rw [HMo.out]; exact repeat_any 48 (.inl rfl) 1 (by decide) (by decide) wq)
                    go_wp2_with fail
                    refine Hrp.out.mono ?_
                    rintro e w5 ⟨rfl, hb5⟩
                    have hbu5 := builder_bl hbu.out hb5
                    have hBq5 : B ≤ w5.heap.size := Nat.le_trans hBq hb5.le
                    have Hw := Lib.hid (writeString_any B _ (List.replicate 1 (moduleOf i)) w5 hbu5 (by rw [List.length_replicate]; omega) hBq5)
                    have HB5 := Lib.hid (hbq.trans hb5)
                    clear Hrp hbu5 hb5
                    go_wp2_with fail
                    refine Hw.out.mono ?_
                    rintro e w6 ⟨rfl, hbu6, hbe6⟩
                    rw [← HSt.out] at hbu6
                    have HBu6 := Lib.hid hbu6
                    have HB6 := Lib.hid (Bl.trans' HB5.out HB.out.symm hbe6)
                    have hBq6 : B ≤ w6.heap.size := Nat.le_trans hBq5 hbe6.size
                    clear Hw hbu6 hbe6
                    go_wp2_with fail
                    exact ⟨⟨i + 1, hlt, by go_num, HB6.out, hBq6, HBu6⟩, by simp [RowKit.intOf] <;> omega⟩
              · obtain rfl : i = n := by omega
                have Hst := Lib.hid (builderString_any B _ wq hbu.out hBq)
                clear hbu
                go_wp2_with fail
                refine Hst.out.mono ?_
                rintro e w5 ⟨rfl, hbe5⟩
                have HB5 := Lib.hid (Bl.trans' hbq HB.out.symm hbe5)
                clear Hst hbe5
                go_wp2_with fail
                refine bodyPost_ret (v := .tuple #[.string ⟨(unitsTo zs 2 S i).toArray⟩, .int .i64 0]) (by simp [results, Tryz.results76, go_sem]) rfl ⟨?_, hbr.trans HB5.out⟩
                rw [HE.out, if_pos rfl, ← HN.out, ← HS.out]

end Go.Proofs.YtkipcobpnecmhaaGreatDoor
