/- The law TopCodes answers true. -/
import Derived.Test.YtkipcobpnecmhaaGreatDoorMClaimTopCodes35
import Derived.Test.YtkipcobpnecmhaaGreatDoorMClaimTopCodes3
import Derived.Test.YtkipcobpnecmhaaGreatDoorMClaimTopCodes1
import Derived.Test.YtkipcobpnecmhaaGreatDoorMClaimTopCodes18
import Derived.Test.YtkipcobpnecmhaaGreatDoorMClaimTopCodes4

namespace Go.Proofs.YtkipcobpnecmhaaGreatDoor
open Go.RowKit Go.Shelf

theorem size3 {W : Nat} (h1 : 1 ≤ W) (h2 : W ≤ 4000) : sizeErr (W : Int) 3 = 0 := by
  unfold sizeErr
  rw [if_pos (by omega), if_neg (by omega)]
theorem draw_err {m : List UInt8} {u q : Nat} (hm : m ≠ []) (hmade : madeOf m [48, 49] = true) (hu : 1 ≤ u) (hu8 : u ≤ 8) (hq : q ≤ 50) : drawErr m u 3 q = sizeErr ((2 * q + u * m.length : Nat) : Int) 3 := by
  unfold drawErr
  rw [if_neg hm, if_neg (by show ¬ madeOf m [48, 49] = false; rw [hmade]; decide)]
  have hr : drawRange u 3 q = true := by
    unfold drawRange
    rw [inB_true.2 (by omega), inB_true.2 (by omega), inB_true.2 (by omega)]
    rfl
  rw [hr, if_neg (by decide), show 2 * (q : Int) + (u : Int) * (m.length : Int) = ((2 * q + u * m.length : Nat) : Int) by rw [Int.natCast_add, Int.natCast_mul, Int.natCast_mul]; rfl]
def PageIs (W : Nat) (bs : List Bool) (w : World) (e : Ending) (w' : World) : Prop := ∃ R rc, e = .returned (.tuple #[.agg #[.int .i64 W, .int .i64 3, .slice R (W * 3) rc], .int .i64 0]) ∧ Reads w' 1 R (W * 3) (bs.map .bool) ∧ Bl w w'
theorem draw_good {m : List UInt8} {u q aW : Nat} (w : World) (hm : m.length ≤ 1048576) (he : drawErr m u 3 q = 0) (ha : aW = 2 * q + u * m.length) :
    Calls Tryz.prog 8 #[.string ⟨m.toArray⟩, .int .i64 u, .int .i64 3, .int .i64 q] w (PageIs aW (grid aW 3 (drawF m u q)) w) := by
  refine (draw_any m u 3 q w hm).mono ?_
  rintro e w' ⟨a, b, R, n, d, err, rfl, herr, hres, hb⟩
  have h0 : err = 0 := herr.trans he
  have eW : (2 * (q : Int) + (u : Int) * (m.length : Int)).toNat = aW := by
    rw [show 2 * (q : Int) + (u : Int) * (m.length : Int) = ((2 * q + u * m.length : Nat) : Int) by rw [Int.natCast_add, Int.natCast_mul, Int.natCast_mul]; rfl, Int.toNat_natCast, ha]
  rw [eW, Int.toNat_natCast, Int.toNat_natCast] at hres
  obtain ⟨A, c, hv, hr, -⟩ := hres.1 h0
  rw [hv, h0]
  exact ⟨A, c, rfl, hr, hb⟩
theorem draw_bad2 {m : List UInt8} {u q : Nat} (w : World) (hm : m.length ≤ 1048576) (he : drawErr m u 3 q ≠ 0) :
    Calls Tryz.prog 8 #[.string ⟨m.toArray⟩, .int .i64 u, .int .i64 3, .int .i64 q] w fun e w' => e = .returned (.tuple #[.agg #[.int .i64 0, .int .i64 0, .slice none 0 0], .int .i64 (drawErr m u 3 q)]) ∧ Bl w w' := by
  refine (draw_any m u 3 q w hm).mono ?_
  rintro e w' ⟨a, b, R, n, d, err, rfl, herr, hres, hb⟩
  obtain ⟨rfl, rfl, rfl, rfl, rfl⟩ := hres.2 (by rw [herr]; exact he)
  exact ⟨by rw [herr], hb⟩
theorem blank_good {W : Nat} (w : World) (h1 : 1 ≤ W) (h2 : W ≤ 4000) :
    Calls Tryz.prog 9 #[.int .i64 W, .int .i64 3] w (PageIs W (List.replicate (W * 3) false) w) := by
  refine (blank_any W 3 w).mono ?_
  rintro e w' ⟨a, b, R, m, d, rfl, -, hok, hb⟩
  obtain ⟨rfl, rfl, hm, hr⟩ := hok (size3 h1 h2)
  obtain rfl : m = W * 3 := by omega
  rw [size3 h1 h2]
  exact ⟨R, d, rfl, hr, hb⟩
def GoodC (ds t : List UInt8) (c : Cd) : Prop := c.n = 3 ∧ (c.k = 1 → c.t = ds) ∧ (c.k = 2 → c.t = t)
def FoundTwo (ds t : List UInt8) (w : World) (e : Ending) (w' : World) : Prop := ∃ R c A B, e = .returned (.tuple #[.slice R 2 c, .int .i64 0]) ∧ Reads w' 6 R 2 (cdCells [A, B]) ∧ GoodC ds t A ∧ GoodC ds t B ∧ Bl w w'
theorem find_two {W : Nat} {R : Option Addr} {bs : List Bool} {ds t : List UInt8} {w : World} (h1 : 1 ≤ W) (h4 : W ≤ 4000) (hr : Reads w 1 R (W * 3) (bs.map .bool)) (hT : SpOk w) (hg : GoodOut ds t (codesTo bs W 1 (rowsN 3 1))) :
    Calls Tryz.prog 12 #[.agg #[.int .i64 W, .int .i64 3, .slice R (W * 3) (W * 3)], .int .i64 1] w (FoundTwo ds t w) := by
  obtain ⟨hv, hl, hc⟩ := hg
  have hp : pageErr (W : Int) ((3 : Nat) : Int) (W * 3) = 0 := page_ok h1 h4 (by decide) (by decide) (by omega)
  have he : findErr (pageErr (W : Int) 3 (W * 3)) 1 = 0 := by
    rw [show pageErr (W : Int) 3 (W * 3) = 0 from hp]
    rfl
  refine (findC_any (W : Int) 3 R (W * 3) (W * 3) bs 1 w hr (Nat.le_refl _) hT).mono ?_
  intro e w' hres
  rcases hres with ⟨h0, -⟩ | ⟨-, hvr⟩
  · exact absurd he h0
  · have hvr2 : VoteRes (codesTo bs W 1 (rowsN 3 1)) w e w' := hvr
    rcases hvr2 with ⟨h0, -⟩ | ⟨-, R2, c2, hin, rfl, hrd, hb⟩
    · exact absurd hv h0
    · have hsl := sortedCd_len (groupC (codesTo bs W 1 (rowsN 3 1))) hin
      have hsm := fun c h => hc c (sorted_mem (h := hin) c h)
      obtain ⟨S, hS⟩ : ∃ S, S = sortedCd (groupC (codesTo bs W 1 (rowsN 3 1))) hin := ⟨_, rfl⟩
      rw [← hS] at hsl hsm hrd
      rw [hl] at hsl hrd ⊢
      match S, hsl with
      | [A, B], _ => exact ⟨R2, c2, A, B, rfl, hrd, hsm A (by simp), hsm B (by simp), hb⟩
theorem pick13 (x : Int) : ∃ k : Nat, wrap64 ((IntKind.u64.wrap x).tmod 13) = (k : Int) ∧ k < 13 := by
  have h := wrap_u64_nonneg x
  obtain ⟨z, hz⟩ : ∃ z, z = IntKind.u64.wrap x := ⟨_, rfl⟩
  rw [← hz] at h ⊢
  rw [Int.tmod_eq_emod_of_nonneg h]
  refine ⟨(z % 13).toNat, ?_, by omega⟩
  unfold wrap64
  omega
theorem pick9 (x : Int) : ∃ c : Nat, IntKind.u8.wrap ((IntKind.u64.wrap x).tmod 9) = (c : Int) ∧ c < 9 := by
  have h := wrap_u64_nonneg x
  obtain ⟨z, hz⟩ : ∃ z, z = IntKind.u64.wrap x := ⟨_, rfl⟩
  rw [← hz] at h ⊢
  rw [Int.tmod_eq_emod_of_nonneg h, show ∀ n, IntKind.u8.wrap n = n % 256 from fun n => by simp [IntKind.wrap, IntKind.bits, IntKind.signed]]
  exact ⟨(z % 9).toNat, by omega, by omega⟩
end Go.Proofs.YtkipcobpnecmhaaGreatDoor


/-! The law TopCodes answers true. -/
namespace Go.Proofs.YtkipcobpnecmhaaGreatDoor
open Go.RowKit Go.Shelf

set_option maxRecDepth 100000 in
set_option maxHeartbeats 1000000 in
theorem landed3_any (w : World) : Calls Tryz.prog 5 #[] w fun e w' => e = .returned (.bool true) ∧ Bl w w' := by
  have h := fun w => isName_any ⟨#[97]⟩ w (by decide)
  have hn : nameB (⟨#[97]⟩ : ByteArray).data.toList = true := by decide
  rw [hn] at h
  go_enter Tryz.func5, Tryz.ntmps5
  go_wp2_with fail
  refine (h _).mono ?_
  rintro e w1 ⟨rfl, hb⟩
  go_wp2_with fail
  go_ret
  exact ⟨rfl, hb⟩
set_option maxRecDepth 100000 in
set_option maxHeartbeats 8000000 in
theorem lawTopCodes_any (ds t : List UInt8) (unit other quiet at_ by_ : Int) (w : World) (hds : ds.length ≤ 9223372036854775807) (ht : t.length ≤ 9223372036854775807)
    (ha : -9223372036854775808 ≤ at_ ∧ at_ ≤ 9223372036854775807) (hb : -9223372036854775808 ≤ by_ ∧ by_ ≤ 9223372036854775807) (hT : SpOk w) :
    Calls Tryz.prog 3 #[.string ⟨ds.toArray⟩, .string ⟨t.toArray⟩, .int .i64 unit, .int .i64 other, .int .i64 quiet, .int .i64 at_, .int .i64 by_] w fun e w' => e = .returned (.bool true) ∧ Bl w w' := by
  have HT := Lib.hid hT
  clear hT
  have HA := Lib.hid ha; have HB := Lib.hid hb
  obtain ⟨E1, hE1⟩ : ∃ E, E = eanErr ds := ⟨_, rfl⟩
  obtain ⟨E2, hE2⟩ : ∃ E, E = letErr t := ⟨_, rfl⟩
  obtain ⟨m, hm⟩ : ∃ m, m = eanVal ds := ⟨_, rfl⟩
  obtain ⟨n, hn⟩ : ∃ n, n = codeRes t := ⟨_, rfl⟩
  have Cea := Lib.hid (fun wx => show Calls Tryz.prog 6 #[.string ⟨ds.toArray⟩] wx (fun e w' => e = .returned (.tuple #[.string ⟨m.toArray⟩, .int .i64 E1]) ∧ Bl wx w') from by rw [hm, hE1]; exact ean_any ds wx hds)
  have Cco := Lib.hid (fun wx (hx : Bl w wx) => show Calls Tryz.prog 7 #[.string ⟨t.toArray⟩] wx (fun e w' => e = .returned (.tuple #[.string ⟨n.toArray⟩, .int .i64 E2]) ∧ Bl wx w') from by rw [hn, hE2]; exact code39_any t wx ht (HT.out.bl hx))
  have HE1 := Lib.hid hE1; have HE2 := Lib.hid hE2; have HM := Lib.hid hm; have HN := Lib.hid hn
  clear ha hb hE1 hE2 hm hn
  go_enter Tryz.func3, Tryz.ntmps3
  go_wp2_with fail
  refine (landed3_any _).mono ?_
  rintro e w1 ⟨rfl, hb1⟩
  go_wp2_with fail
  refine (Cea.out _).mono ?_
  rintro e w2 ⟨rfl, hb2⟩
  go_wp2_with fail
  refine (Cco.out _ (hb1.trans hb2)).mono ?_
  rintro e w3 ⟨rfl, hb3⟩
  have hb03 := (hb1.trans hb2).trans hb3
  clear Cea Cco hb1 hb2 hb3
  obtain ⟨ok, hok⟩ : ∃ b, b = decide (E1 = 0 ∧ E2 = 0 ∧ (1 ≤ unit ∧ unit ≤ 8) ∧ (1 ≤ other ∧ other ≤ 8) ∧ 1 ≤ quiet ∧ quiet ≤ 50) := ⟨_, rfl⟩
  have HOk := Lib.hid hok
  clear hok
  go_upto_region 5 with fail
  go_cut [74] from 45 to 74 (fun s74 wc => s74 = .bool (!ok) ∧ wc = w3)
  case first =>
    by_cases h1 : E1 = 0
    · subst h1
      by_cases h2 : E2 = 0
      · subst h2
        by_cases h3 : unit < 1
        · have hv : ok = false := by rw [HOk.out]; exact decide_eq_false (by omega)
          subst hv
          go_wp2_with fail
          go_meet
          case rel => exact ⟨by first | rfl | simp, by first | rfl | trivial⟩
        · by_cases h4 : 8 < unit
          · have hv : ok = false := by rw [HOk.out]; exact decide_eq_false (by omega)
            subst hv
            go_wp2_with fail
            go_meet
            case rel => exact ⟨by first | rfl | simp, by first | rfl | trivial⟩
          · by_cases h5 : other < 1
            · have hv : ok = false := by rw [HOk.out]; exact decide_eq_false (by omega)
              subst hv
              go_wp2_with fail
              go_meet
              case rel => exact ⟨by first | rfl | simp, by first | rfl | trivial⟩
            · by_cases h6 : 8 < other
              · have hv : ok = false := by rw [HOk.out]; exact decide_eq_false (by omega)
                subst hv
                go_wp2_with fail
                go_meet
                case rel => exact ⟨by first | rfl | simp, by first | rfl | trivial⟩
              · by_cases h7 : quiet < 1
                · have hv : ok = false := by rw [HOk.out]; exact decide_eq_false (by omega)
                  subst hv
                  go_wp2_with fail
                  go_meet
                  case rel => exact ⟨by first | rfl | simp, by first | rfl | trivial⟩
                · by_cases h8 : 50 < quiet
                  · have hv : ok = false := by rw [HOk.out]; exact decide_eq_false (by omega)
                    subst hv
                    go_wp2_with fail
                    go_meet
                    case rel => exact ⟨by first | rfl | simp, by first | rfl | trivial⟩
                  · have hv : ok = true := by rw [HOk.out]; exact decide_eq_true (by omega)
                    subst hv
                    go_wp2_with fail
                    go_meet
                    case rel => exact ⟨by first | rfl | simp, by first | rfl | trivial⟩
      · have hv : ok = false := by rw [HOk.out]; exact decide_eq_false (fun h => h2 h.2.1)
        subst hv
        have hq : (E2 != 0) = true := by simp [h2]
        clear h2
        go_wp2_with fail
        go_meet
        case rel => exact ⟨by first | rfl | simp, by first | rfl | trivial⟩
    · have hv : ok = false := by rw [HOk.out]; exact decide_eq_false (fun h => h1 h.1)
      subst hv
      have hq : (E1 != 0) = true := by simp [h1]
      clear h1
      go_wp2_with fail
      go_meet
      case rel => exact ⟨by first | rfl | simp, by first | rfl | trivial⟩
  case rest =>
    obtain ⟨rfl, rfl⟩ := hcut
    rename World => w3
    cases ok with
    | false =>
      go_wp2_with fail
      go_ret
      exact ⟨rfl, hb03⟩
    | true =>
      obtain ⟨h1, h2, ⟨h3, h4⟩, ⟨h5, h6⟩, h7, h8⟩ := of_decide_eq_true HOk.out.symm
      obtain ⟨hEan, hmv⟩ := ean_ok_of (HE1.out.symm.trans h1)
      obtain ⟨hKs, hCo, hnv⟩ := code_ok_of (HE2.out.symm.trans h2)
      subst h1 h2
      obtain ⟨u, rfl⟩ : ∃ u : Nat, unit = (u : Int) := ⟨unit.toNat, by omega⟩
      obtain ⟨o, rfl⟩ : ∃ o : Nat, other = (o : Int) := ⟨other.toNat, by omega⟩
      obtain ⟨q, rfl⟩ : ∃ q : Nat, quiet = (q : Int) := ⟨quiet.toNat, by omega⟩
      have hu1 : 1 ≤ u := by omega
      have hu8 : u ≤ 8 := by omega
      have ho1 : 1 ≤ o := by omega
      have ho8 : o ≤ 8 := by omega
      have hq1 : 1 ≤ q := by omega
      have hq50 : q ≤ 50 := by omega
      clear h3 h4 h5 h6 h7 h8 HOk
      have hme : m = eanOf ds := HM.out.trans hmv
      have hne : n = joinC (ksL t) := HN.out.trans hnv
      have hml : m.length = 95 := by rw [hme]; exact (head_parts (ean_head ds (digOf_le hEan.2.1)).1).1
      have hnl : n.length + 1 = 16 * (ksL t).length := by rw [hne]; exact join_len (by rw [hKs.1]; simp) hKs.lt
      have hkl := hKs.len
      have hnl1 : 1 ≤ n.length := by omega
      have hn688 : n.length ≤ 1048576 := by
        have h40 := (letErr_ok (HE2.out.symm)).2.2
        have hk2 : (ksL t).length = t.length + 3 := by unfold ksL; rw [List.length_map, whole_len]
        omega
      obtain ⟨aW, haW⟩ : ∃ a, a = 2 * q + u * m.length := ⟨_, rfl⟩
      obtain ⟨bW, hbW⟩ : ∃ a, a = 2 * q + o * n.length := ⟨_, rfl⟩
      have huM : u * m.length ≤ 8 * 95 := Nat.mul_le_mul hu8 (by omega)
      have hoN : 1 * 1 ≤ o * n.length := Nat.mul_le_mul ho1 hnl1
      have ha4 : aW ≤ 860 := by omega
      have ha1 : 1 ≤ aW := by omega
      have hb1 : 1 ≤ bW := by omega
      have hda : drawErr m u 3 q = 0 := by
        rw [draw_err (by intro e; rw [e] at hml; simp at hml) (by rw [hme, ← (ean_runs (digOf_le hEan.2.1)).1]; exact List.all_eq_true.2 fun b hb => by rcases expand_bits 0 _ b hb with rfl | rfl <;> rfl) hu1 hu8 hq50, ← haW]
        exact size3 ha1 (by omega)
      have hdb : drawErr n o 3 q = sizeErr (bW : Int) 3 := by
        rw [draw_err (by intro e; rw [e] at hnl1; simp at hnl1) (by rw [hne]; exact joinC_made hKs.lt) ho1 ho8 hq50, ← hbW]
      have Cda := Lib.hid (fun wx => draw_good wx (by omega) hda haW)
      have hgood := fun W hW hW4 => top_good (aW := aW) (bW := bW) (W := W) hEan hKs hCo hu1 hu8 ho1 ho8 hq1 (by rw [← hme]; exact haW) (by rw [← hne]; exact hbW) hW hW4
      rw [← hme, ← hne] at hgood
      have HGood := Lib.hid hgood; have HEan := Lib.hid hEan
      unfold PageIs at Cda
      clear hgood hEan hKs hCo hmv hnv hme hne hml hnl hkl huM hoN HM HN HE1 HE2 hda haW
      go_wp2_with fail
      refine (Cda.out _).mono ?_
      rintro e w4 ⟨R1, c1, rfl, hr1, hb4⟩
      clear Cda
      obtain ⟨w5, hw5⟩ : ∃ x, x = w4.alloc (.cells #[.int .i64 aW, .int .i64 3, .slice R1 (aW * 3) c1] 28) := ⟨_, rfl⟩
      obtain ⟨gA, hgA⟩ : ∃ x, x = w4.heap.size := ⟨_, rfl⟩
      have bA : Blk w5 gA 28 #[.int .i64 aW, .int .i64 3, .slice R1 (aW * 3) c1] := by rw [hw5, hgA]; exact Blk.new _ _ _
      have hb45 : Bl w4 w5 := by rw [hw5]; exact (Bl.refl _).alloc _
      go_upto_region 8 with fail
      rw [← hw5, ← hgA]
      clear hw5 hgA
      have HR1 := Lib.hid (hr1.bl hb45)
      have HBA := Lib.hid bA
      have hb05 := hb03.trans (hb4.trans hb45)
      clear hr1 bA
      by_cases hbe : drawErr n o 3 q = 0
      case neg =>
        obtain ⟨E3, hE3⟩ : ∃ E, E = drawErr n o 3 q := ⟨_, rfl⟩
        have Cdb := Lib.hid (draw_bad2 (m := n) (u := o) (q := q) w5 hn688 hbe)
        rw [← hE3] at Cdb hbe
        have hq3 : (E3 != 0) = true := by simp [hbe]
        clear hE3 hbe hdb
        go_wp2_with fail
        refine Cdb.out.mono ?_
        rintro e w6 ⟨rfl, hb6⟩
        go_wp2_with fail
        go_ret
        exact ⟨rfl, (hb05.trans hb6).alloc _⟩
      case pos =>
        have hb4000 : bW ≤ 4000 := by
          rw [hdb] at hbe
          have := sizeErr_zero hbe
          omega
        have Cdb := Lib.hid (fun wx => draw_good (m := n) (u := o) (q := q) wx hn688 hbe hbW)
        unfold PageIs at Cdb
        clear hbe hdb hbW
        go_wp2_with fail
        refine (Cdb.out _).mono ?_
        rintro e w6 ⟨R2, c2, rfl, hr2, hb6⟩
        clear Cdb
        obtain ⟨w7, hw7⟩ : ∃ x, x = w6.alloc (.cells #[.int .i64 bW, .int .i64 3, .slice R2 (bW * 3) c2] 28) := ⟨_, rfl⟩
        obtain ⟨gB, hgB⟩ : ∃ x, x = w6.heap.size := ⟨_, rfl⟩
        have bB : Blk w7 gB 28 #[.int .i64 bW, .int .i64 3, .slice R2 (bW * 3) c2] := by rw [hw7, hgB]; exact Blk.new _ _ _
        have hb67 : Bl w6 w7 := by rw [hw7]; exact (Bl.refl _).alloc _
        go_upto_region 9 with fail
        rw [← hw7, ← hgB]
        clear hw7 hgB
        have hb57 := hb6.trans hb67
        have HR2 := Lib.hid (hr2.bl hb67)
        have HBB := Lib.hid bB
        have HR1b := Lib.hid (HR1.out.bl hb57)
        have bA7 := HBA.out.bl hb57
        have kA := bA7.all3
        have kB := bB.all3
        have HBA7 := Lib.hid bA7
        have hb07 := hb05.trans hb57
        clear hr2 bB bA7 HR1 HBA hb6 hb67 hb57
        by_cases hsum : aW + bW ≤ 4000
        case neg =>
          have c4 : (4000 : Int) < (aW : Int) + (bW : Int) := by omega
          go_wp2_with fail
          go_ret
          exact ⟨rfl, hb07⟩
        case pos =>
          have c4 : ¬ (4000 : Int) < (aW : Int) + (bW : Int) := by omega
          obtain ⟨W, hW⟩ : ∃ W, W = aW + bW := ⟨_, rfl⟩
          have eW : (aW : Int) + (bW : Int) = (W : Int) := by omega
          have hW4 : W ≤ 4000 := by omega
          have hW1 : 1 ≤ W := by omega
          have haWW : aW ≤ W := by omega
          have hp3 := page_ok (W := W) (H := 3) hW1 hW4 (by decide) (by decide) (by omega)
          obtain ⟨hgF, hgB2⟩ := HGood.out W hW hW4
          have HF := Lib.hid hgF; have HB2 := Lib.hid hgB2
          have Cbl := Lib.hid (fun wx => blank_good (W := W) wx hW1 hW4)
          unfold PageIs at Cbl
          have HP3 := Lib.hid hp3
          have hW64 : (W : Int) ≤ 4000 := by omega
          rw [eW] at c4
          have hb4 := hb4000
          clear hgF hgB2 HGood hW hsum hb4000 hp3
          go_upto_region 11 with fail
          go_wp2_with fail
          refine (Cbl.out _).mono ?_
          rintro e w8 ⟨R3, c3, rfl, hr3, hb8⟩
          clear Cbl kA kB
          obtain ⟨w9, hw9⟩ : ∃ x, x = w8.alloc (.cells #[.int .i64 W, .int .i64 3, .slice R3 (W * 3) c3] 28) := ⟨_, rfl⟩
          obtain ⟨gP, hgP⟩ : ∃ x, x = w8.heap.size := ⟨_, rfl⟩
          have bP : Blk w9 gP 28 #[.int .i64 W, .int .i64 3, .slice R3 (W * 3) c3] := by rw [hw9, hgP]; exact Blk.new _ _ _
          have hb89 : Bl w8 w9 := by rw [hw9]; exact (Bl.refl _).alloc _
          have hgPw : w7.heap.size ≤ gP := by have := hb8.le; omega
          go_upto_region 12 with fail
          rw [← hw9, ← hgP]
          clear hw9 hgP
          have hb79 := hb8.trans hb89
          have HR3 := Lib.hid (hr3.bl hb89)
          have kP := bP.all3
          have kA := (HBA7.out.bl hb79).all3
          have HBP := Lib.hid bP
          have Cp1 := Lib.hid (pasteC_any W 3 aW 3 (.agg #[.int .i64 W, .int .i64 3, .slice R3 (W * 3) c3]) (.agg #[.int .i64 aW, .int .i64 3, .slice R1 (aW * 3) c1]) (List.replicate (W * 3) false) (grid aW 3 (drawF m u q)) 0 0 w9 ⟨R3, c3, rfl, HR3.out⟩ ⟨R1, c1, rfl, HR1b.out.bl hb79⟩ (size3 hW1 hW4) (size3 ha1 (by omega)) (by decide) (by decide))
          clear hr3 bP hb8 hb89
          go_wp2_with fail
          refine Cp1.out.mono ?_
          rintro e w10 ⟨v1, rfl, ⟨R4, rfl, hr4, hn4⟩, hb10⟩
          clear Cp1 kP kA
          obtain ⟨w11, hw11⟩ : ∃ x, x = ((w10.setCell ⟨gP, 0, none⟩ (.int .i64 W)).setCell ⟨gP, 1, none⟩ (.int .i64 3)).setCell ⟨gP, 2, none⟩ (.slice R4 (W * 3) (W * 3)) := ⟨_, rfl⟩
          have kP := (HBP.out.bl hb10).all3
          have hb711 : Bl w7 w11 := by rw [hw11]; exact (((hb79.trans hb10).setCell hgPw _).setCell hgPw _).setCell hgPw _
          have bP : Blk w11 gP 28 #[.int .i64 W, .int .i64 3, .slice R4 (W * 3) (W * 3)] := by rw [hw11]; exact (((HBP.out.bl hb10).set_ 0 _).set_ 1 _).set_ 2 _
          have hgP9 : gP < w9.heap.size := HBP.out.lt
          have hR4 : Reads w11 1 R4 (W * 3) ((page1 m u q aW W).map .bool) := by
            rw [hw11]
            have hr4' : Reads w10 1 R4 (W * 3) ((page1 m u q aW W).map .bool) := hr4
            exact ((hr4'.store hn4 hgP9 _).store hn4 hgP9 _).store hn4 hgP9 _
          have HR4 := Lib.hid hR4
          clear hr4 hn4 hR4
          go_upto_region 13 with fail
          rw [← hw11]
          have HBP2 := Lib.hid bP
          clear hw11 kP bP hb79 hb10 HBP HR3
          have kP := HBP2.out.all3
          have kA := (HBA7.out.bl hb711).all3
          have kB := (HBB.out.bl hb711).all3
          have Cp2 := Lib.hid (pasteC_any W 3 bW 3 (.agg #[.int .i64 W, .int .i64 3, .slice R4 (W * 3) (W * 3)]) (.agg #[.int .i64 bW, .int .i64 3, .slice R2 (bW * 3) c2]) (page1 m u q aW W) (grid bW 3 (drawF n o q)) (aW : Int) 0 w11 ⟨R4, _, rfl, HR4.out⟩ ⟨R2, c2, rfl, HR2.out.bl hb711⟩ (size3 hW1 hW4) (size3 hb1 hb4) ⟨by omega, by omega⟩ (by decide))
          go_wp2_with fail
          refine Cp2.out.mono ?_
          rintro e w12 ⟨v2, rfl, ⟨R5, rfl, hr5, hn5⟩, hb12⟩
          clear Cp2 kP kA kB
          obtain ⟨w13, hw13⟩ : ∃ x, x = ((w12.setCell ⟨gP, 0, none⟩ (.int .i64 W)).setCell ⟨gP, 1, none⟩ (.int .i64 3)).setCell ⟨gP, 2, none⟩ (.slice R5 (W * 3) (W * 3)) := ⟨_, rfl⟩
          have kP := (HBP2.out.bl hb12).all3
          have hb713 : Bl w7 w13 := by rw [hw13]; exact (((hb711.trans hb12).setCell hgPw _).setCell hgPw _).setCell hgPw _
          have bP : Blk w13 gP 28 #[.int .i64 W, .int .i64 3, .slice R5 (W * 3) (W * 3)] := by rw [hw13]; exact (((HBP2.out.bl hb12).set_ 0 _).set_ 1 _).set_ 2 _
          have hgP11 : gP < w11.heap.size := HBP2.out.lt
          have hR5 : Reads w13 1 R5 (W * 3) ((page2 m n u o q aW bW W).map .bool) := by
            rw [hw13]
            have hr5' : Reads w12 1 R5 (W * 3) ((page2 m n u o q aW bW W).map .bool) := hr5
            exact ((hr5'.store hn5 hgP11 _).store hn5 hgP11 _).store hn5 hgP11 _
          have HR5 := Lib.hid hR5
          clear hr5 hn5 hR5
          go_upto_region 14 with fail
          rw [← hw13]
          have HBP3 := Lib.hid bP
          clear hw13 kP bP hb12 HBP2 HR4 hb711
          have kP := HBP3.out.all3
          have Ctu := Lib.hid (show Calls Tryz.prog 11 #[.agg #[.int .i64 W, .int .i64 3, .slice R5 (W * 3) (W * 3)], .int .i64 2] w13 (fun e w' => ∃ v, e = .returned (.tuple #[v, .int .i64 0]) ∧ CPage w13.heap.size w' v W 3 ((grid W 3 (tF (pix (page2 m n u o q aW bW W) W) 2 W 3)).map .bool) ∧ Bl w13 w') from turnC_any W 3 R5 (W * 3) (page2 m n u o q aW bW W) 2 w13 HR5.out HP3.out)
          go_wp2_with fail
          refine Ctu.out.mono ?_
          rintro e w14 ⟨v3, rfl, ⟨R6, rfl, hr6, -⟩, hb14⟩
          clear Ctu kP
          obtain ⟨w15, hw15⟩ : ∃ x, x = w14.alloc (.cells #[.int .i64 W, .int .i64 3, .slice R6 (W * 3) (W * 3)] 28) := ⟨_, rfl⟩
          obtain ⟨gU, hgU⟩ : ∃ x, x = w14.heap.size := ⟨_, rfl⟩
          have bU : Blk w15 gU 28 #[.int .i64 W, .int .i64 3, .slice R6 (W * 3) (W * 3)] := by rw [hw15, hgU]; exact Blk.new _ _ _
          have hb1415 : Bl w14 w15 := by rw [hw15]; exact (Bl.refl _).alloc _
          go_upto_region 15 with fail
          rw [← hw15, ← hgU]
          clear hw15 hgU
          have hb1315 := hb14.trans hb1415
          have hb015 := hb07.trans (hb713.trans hb1315)
          have HR6 := Lib.hid (hr6.bl hb1415)
          have HR5b := Lib.hid (HR5.out.bl hb1315)
          have kU := bU.all3
          have kP := (HBP3.out.bl hb1315).all3
          clear hr6 HR5 hb14 hb1415 hb713 HBP3 bU hb03 hb05 hb07
          go_upto_region 17 with fail
          obtain ⟨w16, hw16⟩ : ∃ x, x = w15.alloc (.cells #[.int .i64 W, .int .i64 3, .slice R5 (W * 3) (W * 3), .int .i64 W, .int .i64 3, .slice R6 (W * 3) (W * 3)] 28) := ⟨_, rfl⟩
          obtain ⟨g16, hg16⟩ : ∃ x, x = w15.heap.size := ⟨_, rfl⟩
          have b16 : Blk w16 g16 28 #[.int .i64 W, .int .i64 3, .slice R5 (W * 3) (W * 3), .int .i64 W, .int .i64 3, .slice R6 (W * 3) (W * 3)] := by rw [hw16, hg16]; exact Blk.new _ _ _
          have hb1516 : Bl w15 w16 := by rw [hw16]; exact (Bl.refl _).alloc _
          have hb016 := hb015.trans hb1516
          have HT16 := Lib.hid (HT.out.bl hb016)
          have HB16 := Lib.hid b16
          go_wp2_with fail
          rw [← hw16, ← hg16]
          clear hw16 hg16 b16 kU kP
          refine wp_loop_rounds 3 ?_
          rw [rounds_succ]
          have k16 := HB16.out.all6
          go_upto_region 20 with fail
          obtain ⟨wa1, hwa⟩ : ∃ x, x = w16.alloc (.cells #[.int .i64 W, .int .i64 3, .slice R5 (W * 3) (W * 3)] 28) := ⟨_, rfl⟩
          obtain ⟨gX1, hgX⟩ : ∃ x, x = w16.heap.size := ⟨_, rfl⟩
          have bX : Blk wa1 gX1 28 #[.int .i64 W, .int .i64 3, .slice R5 (W * 3) (W * 3)] := by rw [hwa, hgX]; exact Blk.new _ _ _
          have hba1 : Bl w16 wa1 := by rw [hwa]; exact (Bl.refl w16).alloc _
          rw [← hwa, ← hgX]
          clear hwa hgX k16
          have kX := bX.all3
          have Cfi := Lib.hid (find_two (R := R5) (w := wa1) hW1 hW4 (HR5b.out.bl (hb1516.trans hba1)) (HT16.out.bl hba1) HF.out)
          unfold FoundTwo at Cfi
          clear bX
          go_wp2_with fail
          refine Cfi.out.mono ?_
          rintro e wb1 ⟨S1, c1, A1x, B1x, rfl, hrd, hgA1, hgB1, hbb⟩
          clear Cfi kX
          have HRd1 := Lib.hid hrd
          have hbb1 : Bl w16 wb1 := hba1.trans hbb
          have HGood1 := Lib.hid (show ∀ c ∈ [A1x, B1x], GoodC ds t c from fun c hc => by
            rcases List.mem_cons.1 hc with rfl | hc
            · exact hgA1
            · rw [List.mem_singleton.1 hc]; exact hgB1)
          obtain ⟨cs1, hcs⟩ : ∃ cs, cs = [A1x, B1x] := ⟨_, rfl⟩
          have HL1 := Lib.hid (show cs1.length = 2 by rw [hcs]; rfl)
          rw [← hcs] at HRd1 HGood1
          clear hrd hbb hgA1 hgB1 hcs
          go_wp2_with fail
          go_loopw [167] (fun s wr => ∃ i : Nat, i ≤ 2 ∧ s = .int .i64 i ∧ Bl wb1 wr) (fun s _ => 2 - (intOf s).toNat)
          case atStart => exact ⟨0, by decide, rfl, Bl.refl _⟩
          case round =>
            rename World => wr
            obtain ⟨i, hi, rfl, hbr⟩ := hrel
            by_cases hlt : i < 2
            · obtain ⟨c, hc⟩ : ∃ c, cs1[i]? = some c := ⟨_, List.getElem?_eq_getElem (by rw [HL1.out]; exact hlt)⟩
              have hrd2 : Reads wr 6 S1 cs1.length (cdCells cs1) := by rw [HL1.out]; exact HRd1.out.bl hbr
              obtain ⟨ad, rfl, q0, q1, q2, q3, q4, q5⟩ := cd_at hrd2 hc
              have hgc := HGood1.out c (List.mem_of_getElem? hc)
              have hin : (i : Int) < 2 := by omega
              clear hc hrd2
              go_upto_region 26 with fail
              obtain ⟨wc1, hwc⟩ : ∃ x, x = wr.alloc (.cells #[.int .i64 c.k, .string ⟨c.t.toArray⟩, .int .i64 c.X, .int .i64 c.Y, .int .i64 c.W, .int .i64 c.n] 39) := ⟨_, rfl⟩
              obtain ⟨gc1, hgc2⟩ : ∃ x, x = wr.heap.size := ⟨_, rfl⟩
              have bC : Blk wc1 gc1 39 #[.int .i64 c.k, .string ⟨c.t.toArray⟩, .int .i64 c.X, .int .i64 c.Y, .int .i64 c.W, .int .i64 c.n] := by rw [hwc, hgc2]; exact Blk.new _ _ _
              have hbc : Bl wr wc1 := by rw [hwc]; exact (Bl.refl _).alloc _
              rw [← hwc, ← hgc2]
              clear hwc hgc2 q0 q1 q2 q3 q4 q5
              have kC := bC.all6'
              obtain ⟨hc3, hcd, hct⟩ := hgc
              rw [hc3] at kC
              have HCd := Lib.hid hcd; have HCt := Lib.hid hct
              clear hc3 hcd hct bC
              go_cut [195] from 171 to 195 (fun s wz => s = .bool false ∧ wz = wc1)
              case first =>
                by_cases k1 : c.k = 1
                · have e1 := HCd.out k1
                  rw [k1, e1] at kC
                  clear k1 e1
                  go_wp2_with fail
                  go_meet
                  case rel => exact ⟨by first | rfl | simp, by first | rfl | trivial⟩
                · have b1 : (c.k == 1) = false := by simp [k1]
                  by_cases k2 : c.k = 2
                  · have e2 := HCt.out k2
                    rw [k2, e2] at kC
                    clear k1 b1 k2 e2
                    go_wp2_with fail
                    go_meet
                    case rel => exact ⟨by first | rfl | simp, by first | rfl | trivial⟩
                  · have b2 : (c.k == 2) = false := by simp [k2]
                    clear k1 k2
                    go_wp2_with fail
                    go_meet
                    case rel => exact ⟨by first | rfl | simp, by first | rfl | trivial⟩
              case rest =>
                obtain ⟨rfl, rfl⟩ := hcut
                rename World => wz
                go_wp2_with fail
                exact ⟨⟨i + 1, hlt, by go_num, hbr.trans hbc⟩, by simp [intOf] <;> omega⟩
            · obtain rfl : i = 2 := by omega
              rename World => wr
              have hbr1 : Bl w16 wr := hbb1.trans hbr
              clear hbr
              go_wp2_with fail
              rw [rounds_succ]
              have k16 := (HB16.out.bl hbr1).all6
              go_upto_region 20 with fail
              obtain ⟨wa2, hwa⟩ : ∃ x, x = wr.alloc (.cells #[.int .i64 W, .int .i64 3, .slice R6 (W * 3) (W * 3)] 28) := ⟨_, rfl⟩
              obtain ⟨gX2, hgX⟩ : ∃ x, x = wr.heap.size := ⟨_, rfl⟩
              have bX : Blk wa2 gX2 28 #[.int .i64 W, .int .i64 3, .slice R6 (W * 3) (W * 3)] := by rw [hwa, hgX]; exact Blk.new _ _ _
              have hba2 : Bl w16 wa2 := by rw [hwa]; exact hbr1.alloc _
              rw [← hwa, ← hgX]
              clear hwa hgX k16
              have kX := bX.all3
              have Cfi := Lib.hid (find_two (R := R6) (w := wa2) hW1 hW4 (HR6.out.bl (hb1516.trans hba2)) (HT16.out.bl hba2) HB2.out)
              unfold FoundTwo at Cfi
              clear bX
              go_wp2_with fail
              refine Cfi.out.mono ?_
              rintro e wb2 ⟨S2, c2, A2x, B2x, rfl, hrd, hgA2, hgB2, hbb⟩
              clear Cfi kX
              have HRd2 := Lib.hid hrd
              have hbb2 : Bl w16 wb2 := hba2.trans hbb
              have HGood2 := Lib.hid (show ∀ c ∈ [A2x, B2x], GoodC ds t c from fun c hc => by
                rcases List.mem_cons.1 hc with rfl | hc
                · exact hgA2
                · rw [List.mem_singleton.1 hc]; exact hgB2)
              obtain ⟨cs2, hcs⟩ : ∃ cs, cs = [A2x, B2x] := ⟨_, rfl⟩
              have HL2 := Lib.hid (show cs2.length = 2 by rw [hcs]; rfl)
              rw [← hcs] at HRd2 HGood2
              clear hrd hbb hgA2 hgB2 hcs
              go_wp2_with fail
              go_loopw [167] (fun s wr => ∃ i : Nat, i ≤ 2 ∧ s = .int .i64 i ∧ Bl wb2 wr) (fun s _ => 2 - (intOf s).toNat)
              case atStart => exact ⟨0, by decide, rfl, Bl.refl _⟩
              case round =>
                rename World => wr
                obtain ⟨i, hi, rfl, hbr⟩ := hrel
                by_cases hlt : i < 2
                · obtain ⟨c, hc⟩ : ∃ c, cs2[i]? = some c := ⟨_, List.getElem?_eq_getElem (by rw [HL2.out]; exact hlt)⟩
                  have hrd2 : Reads wr 6 S2 cs2.length (cdCells cs2) := by rw [HL2.out]; exact HRd2.out.bl hbr
                  obtain ⟨ad, rfl, q0, q1, q2, q3, q4, q5⟩ := cd_at hrd2 hc
                  have hgc := HGood2.out c (List.mem_of_getElem? hc)
                  have hin : (i : Int) < 2 := by omega
                  clear hc hrd2
                  go_upto_region 26 with fail
                  obtain ⟨wc2, hwc⟩ : ∃ x, x = wr.alloc (.cells #[.int .i64 c.k, .string ⟨c.t.toArray⟩, .int .i64 c.X, .int .i64 c.Y, .int .i64 c.W, .int .i64 c.n] 39) := ⟨_, rfl⟩
                  obtain ⟨gc2, hgc2⟩ : ∃ x, x = wr.heap.size := ⟨_, rfl⟩
                  have bC : Blk wc2 gc2 39 #[.int .i64 c.k, .string ⟨c.t.toArray⟩, .int .i64 c.X, .int .i64 c.Y, .int .i64 c.W, .int .i64 c.n] := by rw [hwc, hgc2]; exact Blk.new _ _ _
                  have hbc : Bl wr wc2 := by rw [hwc]; exact (Bl.refl _).alloc _
                  rw [← hwc, ← hgc2]
                  clear hwc hgc2 q0 q1 q2 q3 q4 q5
                  have kC := bC.all6'
                  obtain ⟨hc3, hcd, hct⟩ := hgc
                  rw [hc3] at kC
                  have HCd := Lib.hid hcd; have HCt := Lib.hid hct
                  clear hc3 hcd hct bC
                  go_cut [195] from 171 to 195 (fun s wz => s = .bool false ∧ wz = wc2)
                  case first =>
                    by_cases k1 : c.k = 1
                    · have e1 := HCd.out k1
                      rw [k1, e1] at kC
                      clear k1 e1
                      go_wp2_with fail
                      go_meet
                      case rel => exact ⟨by first | rfl | simp, by first | rfl | trivial⟩
                    · have b1 : (c.k == 1) = false := by simp [k1]
                      by_cases k2 : c.k = 2
                      · have e2 := HCt.out k2
                        rw [k2, e2] at kC
                        clear k1 b1 k2 e2
                        go_wp2_with fail
                        go_meet
                        case rel => exact ⟨by first | rfl | simp, by first | rfl | trivial⟩
                      · have b2 : (c.k == 2) = false := by simp [k2]
                        clear k1 k2
                        go_wp2_with fail
                        go_meet
                        case rel => exact ⟨by first | rfl | simp, by first | rfl | trivial⟩
                  case rest =>
                    obtain ⟨rfl, rfl⟩ := hcut
                    rename World => wz
                    go_wp2_with fail
                    exact ⟨⟨i + 1, hlt, by go_num, hbr.trans hbc⟩, by simp [intOf] <;> omega⟩
                · obtain rfl : i = 2 := by omega
                  rename World => wr
                  have hbr2 : Bl w16 wr := hbb2.trans hbr
                  clear hbr
                  go_wp2_with fail
                  rw [rounds_succ]
                  go_wp2_with fail
                  have h13 := HEan.out.1
                  rw [Lib.run_convert_string_bytes wr 9 40 5 ⟨ds.toArray⟩ Tryz.underlying9 Tryz.underlying40 Tryz.underlying5, Lib.size_mk, h13]
                  have hH := holds_bytes wr 5 ds
                  have hbd := bl_bytes wr 5 ⟨ds.toArray⟩
                  obtain ⟨wd, hwd⟩ : ∃ x, x = Lib.bytesWorld wr 5 ⟨ds.toArray⟩ := ⟨_, rfl⟩
                  obtain ⟨cp, hcp⟩ : ∃ x, x = grownCap wr 13 0 5 := ⟨_, rfl⟩
                  obtain ⟨gD, hgD⟩ : ∃ x, x = wr.heap.size := ⟨_, rfl⟩
                  rw [← hwd] at hH hbd
                  rw [← hgD] at hH
                  rw [← hwd, ← hcp, ← hgD]
                  have HH := Lib.hid hH
                  have H13 := Lib.hid h13
                  clear hwd hcp hH h13
                  go_upto_region 32 with fail
                  obtain ⟨k, hk, hk13⟩ := pick13 at_
                  obtain ⟨c9, hc9, hc99⟩ := pick9 by_
                  rw [hk, ← hgD]
                  obtain ⟨b, hb⟩ : ∃ b, ds[k]? = some b := ⟨_, List.getElem?_eq_getElem (by rw [H13.out]; exact hk13)⟩
                  have hbm := made_at HEan.out.2.1 hb
                  have hcell : wd.cell? ⟨gD, k, none⟩ = some (.int .u8 (b.toNat : Int)) := by
                    have h := (HH.out k (by rw [List.size_toArray, H13.out]; exact hk13)).1
                    rw [Nat.zero_add] at h
                    rw [h]
                    have hk2 : k < ds.length := by rw [H13.out]; exact hk13
                    have : ds[k] = b := by rw [List.getElem?_eq_getElem hk2] at hb; exact Option.some.inj hb
                    unfold encB
                    simp [getElem!_pos, hk2, this]
                  have hfrz : wd.frozen? ⟨gD, k, none⟩ = false := by
                    have h := (HH.out k (by rw [List.size_toArray, H13.out]; exact hk13)).2
                    rwa [Nat.zero_add] at h
                  have hk13i : (k : Int) < 13 := by omega
                  obtain ⟨bn, hbn⟩ : ∃ n, n = b.toNat := ⟨_, rfl⟩
                  rw [← hbn] at hbm hcell
                  have HBn := Lib.hid hbn
                  have HK := Lib.hid hk
                  have HGd := Lib.hid hgD
                  have HBb := Lib.hid hb
                  clear hk hbn hgD hb
                  go_upto_region 33 with fail
                  obtain ⟨we, hwe⟩ : ∃ x, x = wd.setCell ⟨gD, k, none⟩ (.int .u8 (48 + ((bn : Int) - 48 + 1 + (c9 : Int)) % 10)) := ⟨_, rfl⟩
                  obtain ⟨nb, hnb⟩ : ∃ x, x = UInt8.ofNat (48 + (digOf ds k + 1 + c9) % 10) := ⟨_, rfl⟩
                  have hdk : digOf ds k = bn - 48 := by
                    unfold digOf
                    rw [List.getD_eq_getElem?_getD, HBb.out, HBn.out]
                    rfl
                  have hnv : (48 + ((bn : Int) - 48 + 1 + (c9 : Int)) % 10) = ((nb.toNat : Nat) : Int) := by
                    rw [hnb, UInt8.toNat_ofNat', hdk]
                    omega
                  have hch := ean_changed HEan.out hk13 hc99
                  rw [← hnb] at hch
                  have hcells : ∀ j (hj : j < (ds.set k nb).length), we.cell? ((⟨gD, 0, none⟩ : Addr).add j) = some (.int .u8 ((ds.set k nb)[j].toNat : Int)) := by
                    intro j hj
                    have hj13 : j < ds.length := by rw [List.length_set] at hj; exact hj
                    rw [show (⟨gD, 0, none⟩ : Addr).add j = ⟨gD, j, none⟩ by (unfold Addr.add; simp; omega), hwe]
                    by_cases e : k = j
                    · subst e
                      rw [World.cell?_setCell_same' wd _ _ (by rw [hcell]; rfl), hnv, List.getElem_set_self]
                    · rw [World.cell?_setCell_other wd ⟨gD, k, none⟩ ⟨gD, j, none⟩ _ (fun h => e (by injection h))]
                      have h := (HH.out j (by simpa using hj13)).1
                      rw [Nat.zero_add] at h
                      rw [h, List.getElem_set_ne e]
                      unfold encB
                      simp [getElem!_pos, hj13]
                  have hbe : Bl wr we := by
                    rw [hwe]
                    exact hbd.setCell (by rw [HGd.out]; exact Nat.le_refl _) _
                  have hcv := run_convert_bytes_back (P := Tryz.prog) we 40 9 5 ⟨gD, 0, none⟩ cp (ds.set k nb) Tryz.underlying40 Tryz.underlying5 Tryz.underlying9 hcells
                  have hel : (ds.set k nb).length ≤ 9223372036854775807 := by rw [List.length_set, H13.out]; decide
                  have Cfin := Lib.hid (ean_any (ds.set k nb) we hel)
                  rw [List.length_set, H13.out] at hcv
                  rw [hch] at Cfin
                  rw [← hwe]
                  obtain ⟨ev, hev⟩ : ∃ v, v = eanVal (ds.set k nb) := ⟨_, rfl⟩
                  obtain ⟨dc, hdc⟩ : ∃ v, v = ds.set k nb := ⟨_, rfl⟩
                  rw [← hev] at Cfin
                  rw [← hdc] at Cfin hcv
                  clear hcells hnv hch hwe hnb hdk hcell hfrz hel hev hdc hbm
                  go_wp2_with fail
                  refine Cfin.out.mono ?_
                  rintro e w99 ⟨rfl, hb99⟩
                  go_wp2_with fail
                  go_ret
                  exact ⟨by first | rfl | simp, hb016.trans (hbr2.trans (hbe.trans hb99))⟩
end Go.Proofs.YtkipcobpnecmhaaGreatDoor
