/- slices.Min and slices.Max of ints; bar.wide. -/
import Derived.Test.YtkipcobpnecmhaaGreatDoorMClaimBarCodes8
import Derived.Test.YtkipcobpnecmhaaGreatDoorMClaimBarCodes1
import Derived.Test.YtkipcobpnecmhaaGreatDoorMClaimBarCodes13

namespace Go.Proofs.YtkipcobpnecmhaaGreatDoor
open Go.RowKit

def runsErr (pe H y : Int) : Int := firstNZ [pe, whenI (!inB y 0 (H - 1)) 13]
def RunsRes (W H : Int) (an : Nat) (bs : List Bool) (y : Int) (w : World) (e : Ending) (w' : World) : Prop := ∃ R m d err, e = .returned (.tuple #[.slice R m d, .int .i64 err]) ∧ err = runsErr (pageErr W H an) H y ∧ (err ≠ 0 → R = none ∧ m = 0) ∧
    (err = 0 → m = (runsL (fun x => pix bs W.toNat x y.toNat) W.toNat).length ∧ Reads w' 1 R m (natCells (runsL (fun x => pix bs W.toNat x y.toNat) W.toNat)) ∧ m ≤ d) ∧ Bl w w'
theorem runs_bad {W H : Int} {an : Nat} {bs : List Bool} {y : Int} {w w' : World} {err : Int} (h : runsErr (pageErr W H an) H y = err) (hz : err ≠ 0) (hb : Bl w w') : RunsRes W H an bs y w (.returned (.tuple #[.slice none 0 0, .int .i64 err])) w' :=
  ⟨none, 0, 0, err, rfl, h.symm, fun _ => ⟨rfl, rfl⟩, fun h => absurd h hz, hb⟩

set_option maxRecDepth 100000 in
set_option maxHeartbeats 4000000 in
theorem runs_any (W H : Int) (A : Option Addr) (an ac : Nat) (bs : List Bool) (y : Int) (w : World) (hA : Reads w 1 A an (bs.map .bool)) (hac : an ≤ ac) :
    Calls Tryz.prog 43 #[.agg #[.int .i64 W, .int .i64 H, .slice A an ac], .int .i64 y] w (RunsRes W H an bs y w) := by
  let w2 := (w).alloc (.cells #[.int .i64 W, .int .i64 H, .slice A an ac] 28)
  have w2b : Bl w w2 := (Bl.refl w).alloc _
  have w21 : Blk w2 (w.heap.size) 28 #[.int .i64 W, .int .i64 H, .slice A an ac] := by
    have h0 := Blk.new (w) 28 #[.int .i64 W, .int .i64 H, .slice A an ac]
    exact h0
  have HA := Lib.hid (hA.bl w2b)
  have k1 := w21.all3
  clear hA
  go_enter Tryz.func43, Tryz.ntmps43
  go_wp2_with fail
  refine (checkBits_any _ _ _ _ _ _).mono ?_
  rintro e w3 ⟨rfl, hb3'⟩
  have hb3 : Bl w2 w3 := hb3'
  clear hb3' k1
  clear_value w2
  obtain ⟨pe, hpe⟩ : ∃ pe, pe = pageErr W H an := ⟨_, rfl⟩
  rw [← hpe]
  have HPe := Lib.hid hpe
  clear hpe
  by_cases hz : pe = 0
  case neg =>
    have hq : (pe != 0) = true := by simp [hz]
    have HZ := Lib.hid hz
    have HE := Lib.hid (show runsErr (pageErr W H an) H y = pe by
      rw [← HPe.out]
      show (if pe = 0 then _ else pe) = pe
      rw [if_neg hz])
    clear hz
    go_wp2_with fail
    exact bodyPost_ret (v := .tuple #[.slice none 0 0, .int .i64 pe]) (by simp [results, Tryz.results43, go_sem]) rfl (runs_bad HE.out HZ.out (w2b.trans hb3))
  case pos =>
    obtain ⟨W', H', rfl, rfl, rfl, hW4, hH4, hWH⟩ := page_nat (HPe.out.symm.trans hz)
    subst hz
    have hsz := sizeErr_zero (pageErr_zero HPe.out.symm).1
    have HE0 := Lib.hid (show runsErr (pageErr (W' : Int) (H' : Int) (W' * H')) (H' : Int) y = whenI (!inB y 0 ((H' : Int) - 1)) 13 by
      rw [← HPe.out]
      unfold runsErr
      cases inB y 0 ((H' : Int) - 1) <;> rfl)
    have k1 := (w21.bl hb3).all3
    by_cases c1 : y < 0
    · have HE := Lib.hid (show runsErr (pageErr (W' : Int) (H' : Int) (W' * H')) (H' : Int) y = 13 by
        rw [HE0.out, inB_false.2 (.inl c1)]; rfl)
      go_wp2_with fail
      exact bodyPost_ret (v := .tuple #[.slice none 0 0, .int .i64 13]) (by simp [results, Tryz.results43, go_sem]) rfl (runs_bad HE.out (by decide) (w2b.trans hb3))
    · by_cases c2 : (H' : Int) ≤ y
      · have HE := Lib.hid (show runsErr (pageErr (W' : Int) (H' : Int) (W' * H')) (H' : Int) y = 13 by
          rw [HE0.out, inB_false.2 (.inr (by omega))]; rfl)
        go_wp2_with fail
        exact bodyPost_ret (v := .tuple #[.slice none 0 0, .int .i64 13]) (by simp [results, Tryz.results43, go_sem]) rfl (runs_bad HE.out (by decide) (w2b.trans hb3))
      · have HE := Lib.hid (show runsErr (pageErr (W' : Int) (H' : Int) (W' * H')) (H' : Int) y = 0 by
          rw [HE0.out, inB_true.2 ⟨by omega, by omega⟩]; rfl)
        obtain ⟨Y, rfl⟩ := Int.eq_ofNat_of_zero_le (show 0 ≤ y by omega)
        have hY : Y < H' := by omega
        obtain ⟨q, hq⟩ : ∃ q, q = Y * W' := ⟨_, rfl⟩
        have hqI : (Y : Int) * (W' : Int) = (q : Int) := by rw [hq, Int.natCast_mul]
        have hqI2 : ((Y : Int) + 1) * (W' : Int) = (q : Int) + (W' : Int) := by rw [Int.add_mul, hqI, Int.one_mul]
        have hrow : q + W' ≤ W' * H' := by rw [hq, ← Nat.succ_mul, Nat.mul_comm W' H']; exact Nat.mul_le_mul_right W' hY
        have hW1 : 1 ≤ W' := by omega
        have hqc : q + W' ≤ ac := by omega
        obtain ⟨ad, hAd, hcells⟩ : ∃ ad, A = some ad ∧ ∀ x, x < W' → w2.cell? (ad.add (q + x)) = some (.bool (pix bs W' x Y)) := by
          obtain ⟨ad, u, e, -, -⟩ := HA.out.at_ (k := q) (by omega)
          refine ⟨ad, e, fun x hx => ?_⟩
          obtain ⟨ad', e', h⟩ := pix_cell HA.out (k := q + x) (by omega)
          rw [e] at e'
          obtain rfl := Option.some.inj e'
          rw [h]
          unfold pix
          rw [hq]
        subst hAd
        have HCl := Lib.hid hcells
        obtain ⟨f, hf⟩ : ∃ f, f = fun x => pix bs W' x Y := ⟨_, rfl⟩
        have HF := Lib.hid hf
        have hn1 : decide ((Y : Int) < 0) = false := decide_eq_false c1
        have hn2 : ¬ (H' ≤ Y) := by omega
        have hn3 : ¬ ((H' : Int) ≤ (Y : Int)) := by omega
        clear c1 c2 HE0 hcells hf hq
        go_upto_region 7 with fail
        obtain ⟨w4, hw4⟩ : ∃ x, x = w3.alloc (.cells #[.int .i64 0] 3) := ⟨_, rfl⟩
        have hb4 : Bl w3 w4 := by rw [hw4]; exact (Bl.refl _).alloc _
        have h0 : w4.ownsRow w3.heap.size 3 1 (.slice (some ⟨w3.heap.size, 0, none⟩) 1 1) 1 (runCells (runsTo f 0)) := by rw [hw4]; exact own_lit
        rw [← hw4]
        clear hw4
        have H0 := Lib.hid h0
        clear h0 k1
        have hb24 := hb3.trans hb4
        have k1 := (w21.bl hb24).all3
        go_wp2_with fail
        rw [show q + W' - q = W' from Nat.add_sub_cancel_left _ _]
        go_loopw [38, 7, 8] (fun u v x wr => ∃ k : Nat, k ≤ W' ∧ u = .int .i64 k ∧ x = .bool (inkAt f k) ∧ Bl w3 wr ∧ Hid (wr.ownsRow w3.heap.size 3 1 v ((runsTo f k).1.length + 1) (runCells (runsTo f k)))) (fun u _ _ _ => W' - (RowKit.intOf u).toNat)
        case atStart => exact ⟨0, Nat.zero_le _, rfl, rfl, hb4, H0⟩
        case round =>
          clear k1
          obtain ⟨k, hk, rfl, rfl, hbr, hown⟩ := hrel
          obtain ⟨g, cap, rfl, hgB, hcap⟩ := own_some hown.out (by omega)
          have HCap := Lib.hid hcap
          clear hcap
          by_cases hlt : k < W'
          · have hle := runsTo_le f k
            have hpx : wr.cell? (ad.add (q + k)) = some (.bool (f k)) := by
              have h := (hb3.trans hbr).at (HCl.out k hlt)
              rw [HF.out]
              exact h
            have hpx2 : wr.cell? ((ad.add q).add k) = some (.bool (f k)) := by rw [add_of_add]; exact hpx
            obtain ⟨l, hl⟩ : ∃ l, l = (runsTo f k).1 := ⟨_, rfl⟩
            obtain ⟨c, hc⟩ : ∃ c, c = (runsTo f k).2 := ⟨_, rfl⟩
            have hrc : runCells (runsTo f k) = natCells l ++ [.int .i64 c] := by rw [hl, hc]; rfl
            have hown2 := hown.out
            rw [hrc, ← hl] at hown2
            have hs1 := runs_same (f := f) (k := k)
            have hs2 := runs_new (f := f) (k := k)
            rw [← hl, ← hc] at hs1 hs2 hle
            rw [← hl]
            have hin : inkAt f (k + 1) = f k := rfl
            obtain ⟨n, hn⟩ : ∃ n, n = l.length := ⟨_, rfl⟩
            rw [← hn] at hown2 hle ⊢
            have HOw := Lib.hid hown2; have HIn := Lib.hid hin; have HNl := Lib.hid hn; have HBr := Lib.hid hbr
            obtain ⟨p, hp⟩ : ∃ p, p = f k := ⟨_, rfl⟩
            rw [← hp] at HIn hs1 hs2 hpx hpx2
            obtain ⟨q', hq'⟩ : ∃ q', q' = inkAt f k := ⟨_, rfl⟩
            rw [← hq'] at hs1 hs2 ⊢
            have hkn : ((n + 1 : Nat) : Int) - 1 = (n : Int) := by omega
            clear hown2 hown hrc hl hc hn hp hq' hin hbr
            by_cases hpq : p = q'
            · have HS := Lib.hid (hs1 hpq)
              have hcl : wr.cell? ⟨g, n, none⟩ = some (.int .i64 c) := own_cellAt HOw.out (by rw [List.getElem?_append_right (by rw [natCells_len, HNl.out]; omega), natCells_len, HNl.out, Nat.sub_self]; rfl)
              have hfz := (own_blk HOw.out).2
              have HSet := Lib.hid (show (wr.setCell ⟨g, n, none⟩ (.int .i64 ((c : Int) + 1))).ownsRow w3.heap.size 3 1 (.slice (some ⟨g, 0, none⟩) (n + 1) cap) ((runsTo f (k + 1)).1.length + 1) (runCells (runsTo f (k + 1))) by
                have h := ownsRow_set HOw.out n (.int .i64 ((c + 1 : Nat) : Int))
                rw [HNl.out, run_last, ← HNl.out] at h
                rw [HS.out]
                show World.ownsRow _ _ _ _ _ (l.length + 1) (natCells l ++ [.int .i64 ((c + 1 : Nat) : Int)])
                rw [← HNl.out]
                exact h)
              clear hs1 hs2
              go_wp2_with fail
              exact ⟨⟨k + 1, hlt, by go_num, by rw [HIn.out, hpq], HBr.out.setCell hgB _, HSet⟩, by simp [RowKit.intOf] <;> omega⟩
            · have HS := Lib.hid (hs2 hpq)
              have hbne : (p != q') = true := by rw [bne_iff_ne]; exact hpq
              have hpe : (p == q') = false := by rw [beq_eq_false_iff_ne]; exact hpq
              have hbr2 := HBr.out
              have t1 : w3.heap.size ≤ wr.heap.size := hbr2.le
              have t2 : (n + 1 + 1) * 8 ≤ 140737488355328 := by omega
              have t3 : n + 1 + 1 ≤ maxLen := by unfold maxLen; omega
              clear hs1 hs2
              go_wp2_with (at_builtin; refine wpList_append_one (w1 := w3) rfl (.tmp 45) (.tmp 46) 68 rfl 3 (.int .i64 0) 8 Tryz.underlying68 info_int rfl w3.heap.size _ (n + 1) (natCells l ++ [.int .i64 c]) rfl (.int .i64 0) rfl ?a1 ?a2 ?a3 ?a4 ?a5 ?a6 ?a7 ?a8; exact rfl; exact hbr2; exact Nat.le_refl _; exact t1; exact HOw.out; exact t2; exact t3; intro v' w8 hown8 hb8 hg8; obtain ⟨g2, cap2, rfl, hg2, -⟩ := own_some hown8 (by omega); have HOw8 := Lib.hid hown8; have HB8 := Lib.hid hb8; have hcl : w8.cell? ⟨g2, n + 1, none⟩ = some (.int .i64 0) := own_cellAt HOw8.out (run_at2 HNl.out c _); have hfz := (own_blk HOw8.out).2; clear hown8 hb8 hg8)
              have HSet := Lib.hid (show (w8.setCell ⟨g2, n + 1, none⟩ (.int .i64 1)).ownsRow w3.heap.size 3 1 (.slice (some ⟨g2, 0, none⟩) (n + 1 + 1) cap2) ((runsTo f (k + 1)).1.length + 1) (runCells (runsTo f (k + 1))) by
                have h := ownsRow_set HOw8.out (n + 1) (.int .i64 ((1 : Nat) : Int))
                have e := run_last2 l c 0 1
                rw [← HNl.out] at e
                rw [show (Value.int .i64 (0 : Int)) = Value.int .i64 ((0 : Nat) : Int) from rfl, e] at h
                rw [HS.out]
                show World.ownsRow _ _ _ _ _ ((l ++ [c]).length + 1) (natCells (l ++ [c]) ++ [.int .i64 ((1 : Nat) : Int)])
                rw [List.length_append, List.length_singleton, ← HNl.out]
                exact h)
              go_wp2_with fail
              exact ⟨⟨k + 1, hlt, by go_num, by rw [HIn.out], HB8.out.setCell hg2 _, HSet⟩, by simp [RowKit.intOf] <;> omega⟩
          · obtain rfl : k = W' := by omega
            obtain ⟨A2, c2, e2, hr2⟩ := own_reads hown.out
            injection e2 with q1 _ q3
            subst q1
            subst q3
            have HRr := Lib.hid hr2
            clear hr2 hown
            have hll : (runsL f k).length = (runsTo f k).1.length + 1 := by unfold runsL; rw [List.length_append, List.length_singleton]
            go_wp2_with fail
            refine bodyPost_ret (v := .tuple #[.slice (some ⟨g, 0, none⟩) ((runsTo f k).1.length + 1) cap, .int .i64 0]) (by simp [results, Tryz.results43, go_sem]) rfl ⟨some ⟨g, 0, none⟩, _, cap, 0, rfl, HE.out.symm, fun h => absurd rfl h, fun _ => ?_, w2b.trans (hb3.trans hbr)⟩
            simp only [Int.toNat_natCast]
            rw [← HF.out]
            refine ⟨hll.symm, ?_, HCap.out⟩
            rw [← runCells_list]
            exact HRr.out

end Go.Proofs.YtkipcobpnecmhaaGreatDoor


/-! slices.Min and slices.Max of ints; bar.wide. -/
namespace Go.Proofs.YtkipcobpnecmhaaGreatDoor
open Go.RowKit

theorem Reads.sub {w : World} {n : Nat} {ad : Addr} {xs : List Value} (h : Reads w 1 (some ad) n xs) {s m : Nat} (hs : s + m ≤ n) : Reads w 1 (some (ad.add s)) m ((xs.drop s).take m) := by
  have hl := h.1
  refine ⟨by rw [List.length_take, List.length_drop]; omega, fun hm => ⟨_, rfl, fun j u hj => ?_⟩⟩
  have hjm : j < m := by
    have := (List.getElem?_eq_some_iff.1 hj).1
    rw [List.length_take] at this
    omega
  rw [List.getElem?_take_of_lt hjm, List.getElem?_drop] at hj
  obtain ⟨ad', e, hc⟩ := h.2 (by omega)
  obtain rfl := Option.some.inj e
  rw [add_of_add]
  exact hc _ _ hj
def intCells (zs : List Int) : List Value := zs.map (.int .i64)
theorem int_at {w : World} {A : Option Addr} {zs : List Int} {i : Nat} {z : Int} (h : Reads w 1 A zs.length (intCells zs)) (hi : zs[i]? = some z) : ∃ ad, A = some ad ∧ w.cell? (ad.add i) = some (.int .i64 z) := by
  obtain ⟨ad, u, e, hu, hc⟩ := h.at_ (List.getElem?_eq_some_iff.1 hi).1
  unfold intCells at hu
  rw [List.getElem?_map, hi] at hu
  obtain rfl := Option.some.inj hu
  exact ⟨ad, e, hc⟩
theorem fold_step (f : Int → Int → Int) (z0 : Int) (r : List Int) {j : Nat} {x : Int} (h : r[j]? = some x) : (r.take (j + 1)).foldl f z0 = f ((r.take j).foldl f z0) x := by
  rw [List.take_add_one, h, List.foldl_append]
  rfl
def minL : List Int → Int
  | [] => 0
  | z :: r => r.foldl min z
def maxL : List Int → Int
  | [] => 0
  | z :: r => r.foldl max z
set_option maxRecDepth 100000 in
set_option maxHeartbeats 1000000 in
theorem min_any (A : Option Addr) (c : Nat) (zs : List Int) (w : World) (hx : Reads w 1 A zs.length (intCells zs)) (hp : 1 ≤ zs.length) (hl : zs.length ≤ 1048576) :
    Calls Tryz.prog 81 #[.slice A zs.length c] w fun e w' => e = .returned (.int .i64 (minL zs)) ∧ w = w' := by
  obtain ⟨z0, r, hzr⟩ : ∃ z r, zs = z :: r := by
    cases zs with
    | nil => simp at hp
    | cons z r => exact ⟨z, r, rfl⟩
  have hlen : zs.length = r.length + 1 := by rw [hzr]; rfl
  obtain ⟨ad, rfl, c0⟩ := int_at hx (i := 0) (z := z0) (by rw [hzr]; rfl)
  rw [Addr.add_zero'] at c0
  obtain ⟨n, hn⟩ : ∃ n, n = zs.length := ⟨_, rfl⟩
  have HX := Lib.hid hx; have HZ := Lib.hid hzr; have HN := Lib.hid hn
  rw [← hn] at hlen hp hl ⊢
  have hlt1 : ¬ ((n : Int) < 1) := by omega
  have HLen := Lib.hid hlen
  have hrl : r.length ≤ 1048576 := by omega
  clear hx hzr hn hlen
  go_enter Tryz.func81, Tryz.ntmps81
  go_wp2_with fail
  go_loopw [4, 3] (fun u v wr => ∃ j : Nat, j ≤ r.length ∧ u = .int .i64 ((j + 1 : Nat) : Int) ∧ v = .int .i64 ((r.take j).foldl min z0) ∧ wr = w) (fun u _ _ => n - (RowKit.intOf u).toNat)
  case atStart => exact ⟨0, Nat.zero_le _, rfl, rfl, by trivial⟩
  case round =>
    obtain ⟨j, hj, rfl, rfl, rfl⟩ := hrel
    by_cases hlt : j < r.length
    · obtain ⟨x, hx⟩ : ∃ x, r[j]? = some x := ⟨_, List.getElem?_eq_getElem hlt⟩
      obtain ⟨ad', e, c1⟩ := int_at HX.out (i := j + 1) (z := x) (by rw [HZ.out]; exact hx)
      obtain rfl := Option.some.inj e
      rw [Addr.add_succ'] at c1
      have hst := fold_step min z0 r hx
      obtain ⟨m, hm⟩ : ∃ m, m = (r.take j).foldl min z0 := ⟨_, rfl⟩
      rw [← hm] at hst ⊢
      have HSt := Lib.hid hst
      have hjI : ((j + 1 : Nat) : Int) < (n : Int) := by have := HLen.out; omega
      clear hst hm hx e
      go_wp2_with fail
      exact ⟨⟨j + 1, hlt, by go_num, by rw [HSt.out], by trivial⟩, by have := HLen.out; simp [RowKit.intOf] <;> omega⟩
    · obtain rfl : j = r.length := by omega
      have hall : r.take r.length = r := List.take_length
      rw [hall]
      have HE := Lib.hid (show r.foldl min z0 = minL zs by rw [HZ.out]; rfl)
      have hjI : ¬ (((r.length + 1 : Nat) : Int) < (n : Int)) := by have := HLen.out; omega
      clear hall
      go_wp2_with fail
      go_ret
      exact ⟨ret_int HE.out, rfl⟩
set_option maxRecDepth 100000 in
set_option maxHeartbeats 1000000 in
theorem max_any (A : Option Addr) (c : Nat) (zs : List Int) (w : World) (hx : Reads w 1 A zs.length (intCells zs)) (hp : 1 ≤ zs.length) (hl : zs.length ≤ 1048576) :
    Calls Tryz.prog 82 #[.slice A zs.length c] w fun e w' => e = .returned (.int .i64 (maxL zs)) ∧ w = w' := by
  obtain ⟨z0, r, hzr⟩ : ∃ z r, zs = z :: r := by
    cases zs with
    | nil => simp at hp
    | cons z r => exact ⟨z, r, rfl⟩
  have hlen : zs.length = r.length + 1 := by rw [hzr]; rfl
  obtain ⟨ad, rfl, c0⟩ := int_at hx (i := 0) (z := z0) (by rw [hzr]; rfl)
  rw [Addr.add_zero'] at c0
  obtain ⟨n, hn⟩ : ∃ n, n = zs.length := ⟨_, rfl⟩
  have HX := Lib.hid hx; have HZ := Lib.hid hzr; have HN := Lib.hid hn
  rw [← hn] at hlen hp hl ⊢
  have hlt1 : ¬ ((n : Int) < 1) := by omega
  have HLen := Lib.hid hlen
  have hrl : r.length ≤ 1048576 := by omega
  clear hx hzr hn hlen
  go_enter Tryz.func82, Tryz.ntmps82
  go_wp2_with fail
  go_loopw [4, 3] (fun u v wr => ∃ j : Nat, j ≤ r.length ∧ u = .int .i64 ((j + 1 : Nat) : Int) ∧ v = .int .i64 ((r.take j).foldl max z0) ∧ wr = w) (fun u _ _ => n - (RowKit.intOf u).toNat)
  case atStart => exact ⟨0, Nat.zero_le _, rfl, rfl, by trivial⟩
  case round =>
    obtain ⟨j, hj, rfl, rfl, rfl⟩ := hrel
    by_cases hlt : j < r.length
    · obtain ⟨x, hx⟩ : ∃ x, r[j]? = some x := ⟨_, List.getElem?_eq_getElem hlt⟩
      obtain ⟨ad', e, c1⟩ := int_at HX.out (i := j + 1) (z := x) (by rw [HZ.out]; exact hx)
      obtain rfl := Option.some.inj e
      rw [Addr.add_succ'] at c1
      have hst := fold_step max z0 r hx
      obtain ⟨m, hm⟩ : ∃ m, m = (r.take j).foldl max z0 := ⟨_, rfl⟩
      rw [← hm] at hst ⊢
      have HSt := Lib.hid hst
      have hjI : ((j + 1 : Nat) : Int) < (n : Int) := by have := HLen.out; omega
      clear hst hm hx e
      go_wp2_with fail
      exact ⟨⟨j + 1, hlt, by go_num, by rw [HSt.out], by trivial⟩, by have := HLen.out; simp [RowKit.intOf] <;> omega⟩
    · obtain rfl : j = r.length := by omega
      have hall : r.take r.length = r := List.take_length
      rw [hall]
      have HE := Lib.hid (show r.foldl max z0 = maxL zs by rw [HZ.out]; rfl)
      have hjI : ¬ (((r.length + 1 : Nat) : Int) < (n : Int)) := by have := HLen.out; omega
      clear hall
      go_wp2_with fail
      go_ret
      exact ⟨ret_int HE.out, rfl⟩
/-- The least and the greatest lie within what all lie in. -/
theorem fold_in (f : Int → Int → Int) (hf : ∀ a b, f a b = a ∨ f a b = b) (lo hi : Int) : ∀ (r : List Int) (z : Int), (lo ≤ z ∧ z ≤ hi) → (∀ x ∈ r, lo ≤ x ∧ x ≤ hi) → lo ≤ r.foldl f z ∧ r.foldl f z ≤ hi
  | [], _, h, _ => h
  | x :: r, z, h, hr => by
    refine fold_in f hf lo hi r (f z x) ?_ fun y hy => hr y (List.mem_cons_of_mem _ hy)
    rcases hf z x with e | e
    · rw [e]; exact h
    · rw [e]; exact hr x (List.mem_cons_self ..)
theorem minmax_in {zs : List Int} (hp : 1 ≤ zs.length) (h : ∀ z ∈ zs, 1 ≤ z ∧ z ≤ 4000) : (1 ≤ minL zs ∧ minL zs ≤ 4000) ∧ (1 ≤ maxL zs ∧ maxL zs ≤ 4000) := by
  cases zs with
  | nil => simp at hp
  | cons z r =>
    have h1 := h z (List.mem_cons_self ..)
    have h2 : ∀ x ∈ r, 1 ≤ x ∧ x ≤ 4000 := fun x hx => h x (List.mem_cons_of_mem _ hx)
    exact ⟨fold_in min (fun a b => by omega) 1 4000 r z h1 h2, fold_in max (fun a b => by omega) 1 4000 r z h1 h2⟩
def wideB (r : Int) (zs : List Int) : Bool := decide (minL zs + maxL zs < 2 * r)
set_option maxRecDepth 100000 in
set_option maxHeartbeats 1000000 in
theorem wide_any (r : Int) (A : Option Addr) (c : Nat) (zs : List Int) (w : World) (hr : 1 ≤ r ∧ r ≤ 4000) (hx : Reads w 1 A zs.length (intCells zs)) (hp : 1 ≤ zs.length) (hl : zs.length ≤ 1048576) (h : ∀ z ∈ zs, 1 ≤ z ∧ z ≤ 4000) :
    Calls Tryz.prog 114 #[.int .i64 r, .slice A zs.length c] w fun e w' => e = .returned (.bool (wideB r zs)) ∧ w = w' := by
  have hmm := minmax_in hp h
  have h1 := min_any A c zs w hx hp hl
  have h2 := max_any A c zs w hx hp hl
  obtain ⟨lo, hlo⟩ : ∃ x, x = minL zs := ⟨_, rfl⟩
  obtain ⟨hi, hhi⟩ : ∃ x, x = maxL zs := ⟨_, rfl⟩
  rw [← hlo] at h1
  rw [← hhi] at h2
  rw [← hlo, ← hhi] at hmm
  have HD := Lib.hid (show wideB r zs = decide (lo + hi < 2 * r) by rw [hlo, hhi]; rfl)
  have H1 := Lib.hid h1; have H2 := Lib.hid h2
  clear h1 h2 hlo hhi hx h
  go_enter Tryz.func114, Tryz.ntmps114
  go_wp2_with fail
  refine H1.out.mono ?_
  rintro e w' ⟨rfl, rfl⟩
  go_wp2_with fail
  refine H2.out.mono ?_
  rintro e w' ⟨rfl, rfl⟩
  go_wp2_with fail
  go_ret
  exact ⟨ret_bool HD.out.symm, rfl⟩

end Go.Proofs.YtkipcobpnecmhaaGreatDoor
