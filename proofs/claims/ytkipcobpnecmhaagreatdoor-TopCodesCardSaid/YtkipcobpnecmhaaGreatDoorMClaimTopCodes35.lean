/- What the pages of the law TopCodes have, in plain lists. -/
import Derived.Test.YtkipcobpnecmhaaGreatDoorMClaimTopCodes34
import Derived.Test.YtkipcobpnecmhaaGreatDoorMClaimTopCodes26
import Derived.Test.YtkipcobpnecmhaaGreatDoorMClaimTopCodes17
import Derived.Test.YtkipcobpnecmhaaGreatDoorMClaimTopCodes1

namespace Go.Proofs.YtkipcobpnecmhaaGreatDoor
open Go.RowKit

/-- The letters of a text of Code 39, as numbers: stars about them, none among them. -/
def Ks (ks qs : List Nat) : Prop := ks = 43 :: (qs ++ [43]) ∧ 2 ≤ qs.length ∧ ∀ q ∈ qs, q < 43
theorem Ks.lt {ks qs : List Nat} (h : Ks ks qs) : ∀ k ∈ ks, k < 44 := by
  intro k hk
  rw [h.1] at hk
  rcases List.mem_cons.1 hk with rfl | hk
  · decide
  · rcases List.mem_append.1 hk with hk | hk
    · have := h.2.2 k hk; omega
    · rw [List.mem_singleton.1 hk]; decide
theorem Ks.len {ks qs : List Nat} (h : Ks ks qs) : ks.length = qs.length + 2 := by rw [h.1]; simp
def bsF (ks : List Nat) : List (List Nat) := ks.map runK
def bsB (ks : List Nat) : List (List Nat) := (ks.map fun k => (runK k).reverse).reverse
theorem bsF_good {ks : List Nat} (h : ∀ k ∈ ks, k < 44) : ∀ b ∈ bsF ks, GoodB b := by
  intro b hb
  obtain ⟨k, hk, rfl⟩ := List.mem_map.1 hb
  exact runK_good k (h k hk)
theorem bsB_good {ks : List Nat} (h : ∀ k ∈ ks, k < 44) : ∀ b ∈ bsB ks, GoodB b := by
  intro b hb
  obtain ⟨k, hk, rfl⟩ := List.mem_map.1 (List.mem_reverse.1 hb)
  exact good_rev (runK_good k (h k hk))
theorem joinB (ks : List Nat) : joinR (bsB ks) = (joinR (bsF ks)).reverse := by
  rw [joinR_rev]
  unfold bsB bsF
  rw [List.map_map]
  rfl
theorem expF {ks : List Nat} (h : ∀ k ∈ ks, k < 44) : expand 0 (joinR (bsF ks)) = joinC ks := by
  unfold bsF
  rw [← runJ_join, expand_runJ h]
theorem expB {ks : List Nat} (hne : ks ≠ []) (h : ∀ k ∈ ks, k < 44) : expand 0 (joinR (bsB ks)) = (joinC ks).reverse := by
  have hl := joinR_len (bs := bsF ks) (by unfold bsF; simpa using hne) (fun b hb => (bsF_good h b hb).1)
  rw [joinB, ← expand_back (by omega), expF h]
theorem bsF_take (ks : List Nat) (m : Nat) : (bsF ks).take m = bsF (ks.take m) := by unfold bsF; rw [List.map_take]
theorem bsB_take (ks : List Nat) (m : Nat) : (bsB ks).take m = bsB (ks.drop (ks.length - m)) := by
  unfold bsB
  rw [List.take_reverse, List.length_map, List.map_drop]
/-- The first m letters of runs, tried. -/
theorem hit_at {bs : List (List Nat)} {o m : Nat} {rest : List Int} (ho : 1 ≤ o) (ho8 : o ≤ 8) (hb : ∀ b ∈ bs, GoodB b) (h3 : 3 ≤ m) (hm : m ≤ bs.length) :
    10 * m - 1 ≤ (zWide o (joinR bs) ++ rest).length ∧ hit39 (zWide o (joinR bs) ++ rest) m = if (eitherG rd39 (expand 0 (joinR (bs.take m)))).2 = 0 then some (eitherG rd39 (expand 0 (joinR (bs.take m)))).1 else none := by
  have hne : bs ≠ [] := by intro e; rw [e] at hm; simp at hm; omega
  have hb9 : ∀ b ∈ bs, b.length = 9 := fun b h => (hb b h).1
  have hl := joinR_len hne hb9
  have hle : 10 * m - 1 ≤ (zWide o (joinR bs)).length := by rw [zWide_len]; omega
  refine ⟨by rw [List.length_append]; omega, ?_⟩
  have ht := joinR_take m hb9 (by omega) hm []
  rw [List.append_nil] at ht
  unfold hit39
  rw [List.take_append_of_le_length hle, zWide_take, ht]
  obtain ⟨h1, h2⟩ := units_39 (bs := bs.take m) ho ho8 (fun b h => hb b (List.mem_of_mem_take h)) (by rw [List.length_take]; omega)
  unfold tryC
  rw [if_pos h1, h2]
  rfl
theorem Ks.take {ks qs : List Nat} (h : Ks ks qs) {m : Nat} (h3 : 3 ≤ m) (hm : m < ks.length) : ∃ q r, q < 43 ∧ ks.take m = 43 :: (r ++ [q]) := by
  have hl := h.len
  obtain ⟨q, hq⟩ : ∃ q, qs[m - 2]? = some q := ⟨_, List.getElem?_eq_getElem (by omega)⟩
  refine ⟨q, qs.take (m - 2), h.2.2 q (List.mem_of_getElem? hq), ?_⟩
  obtain ⟨m', rfl⟩ : ∃ m', m = m' + 2 := ⟨m - 2, by omega⟩
  rw [h.1]
  show 43 :: (qs ++ [43]).take (m' + 1) = _
  rw [List.take_append_of_le_length (by omega), List.take_add_one, show m' + 2 - 2 = m' by omega, show qs[m']? = some q from hq]
  rfl
theorem Ks.drop {ks qs : List Nat} (h : Ks ks qs) {m : Nat} (h3 : 3 ≤ m) (hm : m < ks.length) : ∃ q r, q < 43 ∧ ks.drop (ks.length - m) = q :: (r ++ [43]) := by
  have hl := h.len
  obtain ⟨j, hj⟩ : ∃ j, ks.length - m = j + 1 := ⟨ks.length - m - 1, by omega⟩
  have hjl : j < qs.length := by omega
  refine ⟨qs[j], qs.drop (j + 1), h.2.2 _ (List.getElem_mem hjl), ?_⟩
  rw [hj, h.1]
  show (qs ++ [43]).drop j = _
  rw [List.drop_append_of_le_length (by omega), List.drop_eq_getElem_cons hjl]
  rfl
theorem either_none {m : List UInt8} (h1 : rd39 m = ([], 2)) (h2 : rd39 m.reverse = ([], 2)) : (eitherG rd39 m).2 ≠ 0 := by
  unfold eitherG
  rw [h1, if_pos rfl, h2]
  decide
theorem noF {ks qs : List Nat} (h : Ks ks qs) {m : Nat} (h3 : 3 ≤ m) (hm : m < ks.length) : (eitherG rd39 (expand 0 (joinR ((bsF ks).take m)))).2 ≠ 0 := by
  have hlt : ∀ k ∈ ks.take m, k < 44 := fun k hk => h.lt k (List.mem_of_mem_take hk)
  obtain ⟨q, r, hq, hks⟩ := h.take h3 hm
  rw [bsF_take, expF hlt]
  rw [hks] at hlt ⊢
  exact either_none (rd_last (ks := 43 :: r) hlt (by omega)) (rd_back_first (by simp) fun k hk => hlt k (List.mem_cons_of_mem _ hk))
theorem noB {ks qs : List Nat} (h : Ks ks qs) {m : Nat} (h3 : 3 ≤ m) (hm : m < ks.length) : (eitherG rd39 (expand 0 (joinR ((bsB ks).take m)))).2 ≠ 0 := by
  have hlt : ∀ k ∈ ks.drop (ks.length - m), k < 44 := fun k hk => h.lt k (List.mem_of_mem_drop hk)
  obtain ⟨q, r, hq, hks⟩ := h.drop h3 hm
  rw [bsB_take, expB (by rw [hks]; simp) hlt]
  rw [hks] at hlt ⊢
  exact either_none (rd_back_last (q :: r)) (by rw [List.reverse_reverse]; exact rd_first hlt (by omega))
theorem from_hit {zs : List Int} {L : Nat} {t : List UInt8} (hl : 10 * L - 1 ≤ zs.length) (hh : hit39 zs L = some t) (hno : ∀ m, 3 ≤ m → m < L → hit39 zs m = none) : ∀ k m, m + k = L → 3 ≤ m → from39 zs m = some (L, t)
  | 0, m, hk, h3 => by
    obtain rfl : m = L := by omega
    exact from39_hit hl hh
  | k + 1, m, hk, h3 => by
    rw [from39_miss (by omega) (hno m h3 (by omega))]
    exact from_hit hl hh hno k (m + 1) (by omega) (by omega)
theorem codeP_letters {bs : List (List Nat)} {o : Nat} {rest : List Int} {t : List UInt8} (ho : 1 ≤ o) (ho8 : o ≤ 8) (hb : ∀ b ∈ bs, GoodB b) (h4 : 4 ≤ bs.length)
    (hE : hitE (zWide o (joinR bs) ++ rest) = none) (ht : eitherG rd39 (expand 0 (joinR bs)) = (t, 0)) (hno : ∀ m, 3 ≤ m → m < bs.length → (eitherG rd39 (expand 0 (joinR (bs.take m)))).2 ≠ 0) :
    codeP (zWide o (joinR bs) ++ rest) = some (2, t, 10 * bs.length - 1) := by
  have hL := hit_at (rest := rest) ho ho8 hb (m := bs.length) (by omega) (Nat.le_refl _)
  rw [List.take_length, ht, if_pos rfl] at hL
  refine codeP_39 hE (from_hit hL.1 hL.2 (fun m h3 hm => ?_) (bs.length - 3) 3 (by omega) (Nat.le_refl _))
  rw [(hit_at (rest := rest) ho ho8 hb h3 (by omega)).2, if_neg (hno m h3 hm)]
theorem noE_letters {bs : List (List Nat)} {o w : Nat} {rest : List Int} (hb : ∀ b ∈ bs, GoodB b) (h4 : 4 ≤ bs.length) (hw : w < 3) (h3w : (joinR bs)[w]? = some 3) : hitE (zWide o (joinR bs) ++ rest) = none := by
  unfold hitE
  by_cases h59 : 59 ≤ (zWide o (joinR bs) ++ rest).length
  · rw [if_pos h59]
    have hl := joinR_len (bs := bs) (by intro e; rw [e] at h4; simp at h4) fun b h => (hb b h).1
    have hg : ∀ i, i ≤ 9 → ∃ r, (joinR bs)[i]? = some r ∧ ((zWide o (joinR bs) ++ rest).take 59).getD i 0 = ((r * o : Nat) : Int) := fun i hi => by
      obtain ⟨r, hr⟩ : ∃ r, (joinR bs)[i]? = some r := ⟨_, List.getElem?_eq_getElem (by omega)⟩
      refine ⟨r, hr, ?_⟩
      rw [List.getD_eq_getElem?_getD, List.getElem?_take_of_lt (by omega), List.getElem?_append_left (by rw [zWide_len]; omega), zWide_at hr]
      rfl
    refine no_ean (w := w) (by rw [List.length_take]; omega) hw fun i hi => ?_
    obtain ⟨r, hr, e1⟩ := hg i hi
    obtain ⟨r2, hr2, e2⟩ := hg w (by omega)
    rw [h3w] at hr2
    obtain rfl := Option.some.inj hr2
    rw [e1, e2]
    have hr3 : r ≤ 3 := by rcases joinR_pos hb r (List.mem_of_getElem? hr) with rfl | rfl <;> omega
    have := Nat.mul_le_mul_right o hr3
    omega
  · rw [if_neg h59]
theorem headF {ks qs : List Nat} (h : Ks ks qs) : (joinR (bsF ks))[1]? = some 3 := by
  rw [h.1]
  unfold bsF
  rw [List.map_cons, joinR_cons _ (by simp)]
  rfl
theorem headB {ks qs : List Nat} (h : Ks ks qs) : (joinR (bsB ks))[2]? = some 3 := by
  rw [h.1]
  unfold bsB
  rw [List.map_cons, List.map_append, List.reverse_cons, List.reverse_append]
  show (joinR ((runK 43).reverse :: ((qs.map fun k => (runK k).reverse).reverse ++ [(runK 43).reverse])))[2]? = some 3
  rw [joinR_cons _ (by simp)]
  rfl
/-- A text whose letters these are. -/
def CodeOk (t : List UInt8) (ks : List Nat) : Prop := rd39 (joinC ks) = (t, 0)
theorem foundF {ks qs : List Nat} {t : List UInt8} {o : Nat} {rest : List Int} (h : Ks ks qs) (ht : CodeOk t ks) (ho : 1 ≤ o) (ho8 : o ≤ 8) : codeP (zWide o (joinR (bsF ks)) ++ rest) = some (2, t, 10 * ks.length - 1) := by
  have hl : (bsF ks).length = ks.length := List.length_map ..
  have hk := h.len
  have hq := h.2.1
  have hg := bsF_good h.lt
  rw [← hl]
  refine codeP_letters ho ho8 hg (by omega) (noE_letters (w := 1) hg (by omega) (by decide) (headF h)) ?_ fun m h3 hm => noF h h3 (by omega)
  rw [expF h.lt, eitherR_not (by rw [ht]; exact (by decide : (0 : Int) ≠ 2)), ht]
theorem foundB {ks qs : List Nat} {t : List UInt8} {o : Nat} {rest : List Int} (h : Ks ks qs) (ht : CodeOk t ks) (ho : 1 ≤ o) (ho8 : o ≤ 8) : codeP (zWide o (joinR (bsB ks)) ++ rest) = some (2, t, 10 * ks.length - 1) := by
  have hl : (bsB ks).length = ks.length := by unfold bsB; rw [List.length_reverse, List.length_map]
  have hk := h.len
  have hq := h.2.1
  have hg := bsB_good h.lt
  rw [← hl]
  refine codeP_letters ho ho8 hg (by omega) (noE_letters (w := 2) hg (by omega) (by decide) (headB h)) ?_ fun m h3 hm => noB h h3 (by omega)
  rw [expB (by rw [h.1]; simp) h.lt]
  have hb : rd39 (joinC ks).reverse = ([], 2) := by rw [h.1]; exact rd_back_last (43 :: qs)
  rw [eitherR_two hb, List.reverse_reverse, ht]
/-! ### a row of two codes -/
def rowF (q u o : Nat) (E C : List Nat) : List Nat := [q] ++ (wideR u E ++ ([2 * q] ++ (wideR o C ++ [q])))
theorem rowF_z (q u o : Nat) (E C : List Nat) : zRuns (rowF q u o E C) = zRuns [q] ++ (zWide u E ++ (zRuns [2 * q] ++ (zWide o C ++ zRuns [q]))) := by
  unfold rowF zWide
  rw [zRuns_append, zRuns_append, zRuns_append, zRuns_append]
theorem two_codes {zs a b : List Int} {y : Int} {k1 k2 : Int} {t1 t2 : List UInt8} {p1 p2 p3 : Int} (hz : zs = [p1] ++ (a ++ ([p2] ++ (b ++ [p3])))) (h1 : codeP (a ++ ([p2] ++ (b ++ [p3]))) = some (k1, t1, a.length)) (h2 : codeP (b ++ [p3]) = some (k2, t2, b.length)) :
    ∃ X1 W1 X2 W2, rowC zs y = [⟨k1, t1, X1, y, W1, 1⟩, ⟨k2, t2, X2, y, W2, 1⟩] := by
  have hl : zs.length = a.length + b.length + 3 := by rw [hz]; simp; omega
  refine ⟨sumI zs 1, sumI zs (1 + a.length) - sumI zs 1, sumI zs (1 + a.length + 1), sumI zs (1 + a.length + 1 + b.length) - sumI zs (1 + a.length + 1), ?_⟩
  rw [← rowAt_one, rowAt_code (by omega) (show codeP (zs.drop 1) = _ by rw [hz]; exact h1)]
  rw [rowAt_code (by omega) (show codeP (zs.drop (1 + a.length + 1)) = some (k2, t2, b.length) by
    rw [hz, show [p1] ++ (a ++ ([p2] ++ (b ++ [p3]))) = ([p1] ++ a ++ [p2]) ++ (b ++ [p3]) by simp, List.drop_left' (by simp; omega)]
    exact h2)]
  rw [rowAt_end (by omega)]
theorem row_forward {ds t : List UInt8} {ks qs : List Nat} {q u o : Nat} {y : Int} (hd : EanOk ds) (h : Ks ks qs) (ht : CodeOk t ks) (hu : 1 ≤ u) (hu8 : u ≤ 8) (ho : 1 ≤ o) (ho8 : o ≤ 8) :
    ∃ X1 W1 X2 W2, rowC (zRuns (rowF q u o (eanRuns ds) (joinR (bsF ks)))) y = [⟨1, ds, X1, y, W1, 1⟩, ⟨2, t, X2, y, W2, 1⟩] := by
  have hg := bsF_good h.lt
  have hl := joinR_len (bs := bsF ks) (by rw [h.1]; simp [bsF]) fun b hb => (hg b hb).1
  have hl2 : (bsF ks).length = ks.length := List.length_map ..
  have he := (ean_runs (digOf_le hd.2.1)).2.1
  refine two_codes (rowF_z q u o _ _) ?_ ?_
  · rw [zWide_len, he]
    exact codeP_ean (ean_hit hd hu hu8 _).1
  · rw [zWide_len, show (joinR (bsF ks)).length = 10 * ks.length - 1 by omega]
    exact foundF h ht ho ho8
theorem row_back {ds t : List UInt8} {ks qs : List Nat} {q u o : Nat} {y : Int} (hd : EanOk ds) (h : Ks ks qs) (ht : CodeOk t ks) (hu : 1 ≤ u) (hu8 : u ≤ 8) (ho : 1 ≤ o) (ho8 : o ≤ 8) :
    ∃ X1 W1 X2 W2, rowC (zRuns (rowF q o u (joinR (bsB ks)) (eanRuns ds).reverse)) y = [⟨2, t, X1, y, W1, 1⟩, ⟨1, ds, X2, y, W2, 1⟩] := by
  have hg := bsB_good h.lt
  have hl := joinR_len (bs := bsB ks) (by rw [h.1]; simp [bsB]) fun b hb => (hg b hb).1
  have hl2 : (bsB ks).length = ks.length := by unfold bsB; rw [List.length_reverse, List.length_map]
  have he := (ean_runs (digOf_le hd.2.1)).2.1
  refine two_codes (rowF_z q o u _ _) ?_ ?_
  · rw [zWide_len, show (joinR (bsB ks)).length = 10 * ks.length - 1 by omega]
    exact foundB h ht ho ho8
  · rw [zWide_len, List.length_reverse, he]
    exact codeP_ean (ean_hit hd hu hu8 _).2
end Go.Proofs.YtkipcobpnecmhaaGreatDoor


/-! bar.Find and bedref2.CodesOf: the codes of a page. -/
namespace Go.Proofs.YtkipcobpnecmhaaGreatDoor
open Go.RowKit Go.Shelf

def findErr (pe step : Int) : Int := firstNZ [pe, whenI (!inB step 1 4000) 3]
theorem cdCells_one (cs : List Cd) : ∀ u ∈ cdCells cs, u.oneCell' = true := by
  intro u hu
  unfold cdCells at hu
  obtain ⟨c, -, h⟩ := List.mem_flatMap.1 hu
  exact code_one c u h
def FindRes (W H : Int) (an : Nat) (bs : List Bool) (step : Int) (w : World) (e : Ending) (w' : World) : Prop :=
  (findErr (pageErr W H an) step ≠ 0 ∧ e = .returned (.tuple #[.slice none 0 0, .int .i64 (findErr (pageErr W H an) step)]) ∧ Bl w w') ∨
  (findErr (pageErr W H an) step = 0 ∧ VoteRes (codesTo bs W.toNat step.toNat (rowsN H.toNat step.toNat)) w e w')
theorem find_bad {W H : Int} {an : Nat} {bs : List Bool} {step : Int} {w w' : World} {err : Int} (h : findErr (pageErr W H an) step = err) (hz : err ≠ 0) (hb : Bl w w') : FindRes W H an bs step w (.returned (.tuple #[.slice none 0 0, .int .i64 err])) w' :=
  .inl ⟨by rw [h]; exact hz, by rw [h], hb⟩
set_option maxRecDepth 100000 in
set_option maxHeartbeats 4000000 in
theorem findC_any (W H : Int) (A : Option Addr) (an ac : Nat) (bs : List Bool) (step : Int) (w : World) (hA : Reads w 1 A an (bs.map .bool)) (hac : an ≤ ac) (hT : SpOk w) :
    Calls Tryz.prog 12 #[.agg #[.int .i64 W, .int .i64 H, .slice A an ac], .int .i64 step] w (FindRes W H an bs step w) := by
  let w2 := (w).alloc (.cells #[.int .i64 W, .int .i64 H, .slice A an ac] 28)
  have w2b : Bl w w2 := (Bl.refl w).alloc _
  have w21 : Blk w2 (w.heap.size) 28 #[.int .i64 W, .int .i64 H, .slice A an ac] := by
    have h0 := Blk.new (w) 28 #[.int .i64 W, .int .i64 H, .slice A an ac]
    exact h0
  have HA := Lib.hid (hA.bl w2b)
  have HT := Lib.hid (hT.bl w2b)
  have k1 := w21.all3
  clear hA hT
  go_enter Tryz.func12, Tryz.ntmps12
  go_wp2_with fail
  refine (checkBits_any _ _ _ _ _ _).mono ?_
  rintro e w3 ⟨rfl, hb3'⟩
  have hb3 : Bl w2 w3 := hb3'
  clear hb3' k1
  clear_value w2
  have HW3 := Lib.hid (w2b.trans hb3)
  obtain ⟨pe, hpe⟩ : ∃ pe, pe = pageErr W H an := ⟨_, rfl⟩
  rw [← hpe]
  have HPe := Lib.hid hpe
  clear hpe
  by_cases hz : pe = 0
  case neg =>
    have hq : (pe != 0) = true := by simp [hz]
    have HZ := Lib.hid hz
    have HE := Lib.hid (show findErr (pageErr W H an) step = pe by
      rw [← HPe.out]
      show (if pe = 0 then _ else pe) = pe
      rw [if_neg hz])
    clear hz
    go_wp2_with fail
    exact bodyPost_ret (v := .tuple #[.slice none 0 0, .int .i64 pe]) (by simp [results, Tryz.results12, go_sem]) rfl (find_bad HE.out HZ.out HW3.out)
  case pos =>
    have HE0 := Lib.hid (show findErr (pageErr W H an) step = whenI (!inB step 1 4000) 3 by
      rw [← HPe.out, hz]
      unfold findErr
      cases inB step 1 4000 <;> rfl)
    subst hz
    by_cases c1 : step < 1
    · have HE := Lib.hid (show findErr (pageErr W H an) step = 3 by rw [HE0.out, inB_false.2 (.inl c1)]; rfl)
      go_wp2_with fail
      exact bodyPost_ret (v := .tuple #[.slice none 0 0, .int .i64 3]) (by simp [results, Tryz.results12, go_sem]) rfl (find_bad HE.out (by decide) HW3.out)
    · by_cases c2 : 4000 < step
      · have HE := Lib.hid (show findErr (pageErr W H an) step = 3 by rw [HE0.out, inB_false.2 (.inr c2)]; rfl)
        go_wp2_with fail
        exact bodyPost_ret (v := .tuple #[.slice none 0 0, .int .i64 3]) (by simp [results, Tryz.results12, go_sem]) rfl (find_bad HE.out (by decide) HW3.out)
      · have HE := Lib.hid (show findErr (pageErr W H an) step = 0 by rw [HE0.out, inB_true.2 (by omega)]; rfl)
        obtain ⟨Wn, Hn, rfl, rfl, rfl, hW4, hH4, hWH⟩ := page_nat HPe.out.symm
        obtain ⟨st, rfl⟩ : ∃ st : Nat, step = (st : Int) := ⟨step.toNat, by omega⟩
        have hst1 : 1 ≤ st := by omega
        have hst4 : st ≤ 4000 := by omega
        obtain ⟨J, hJ⟩ : ∃ J, J = rowsN Hn st := ⟨_, rfl⟩
        have HJ := Lib.hid (show ∀ j, j * st < Hn ↔ j < J from fun j => by rw [hJ]; exact rowsN_lt hst1 j)
        have HFin := Lib.hid (fun (e : Ending) (w' : World) (h : VoteRes (codesTo bs Wn st J) w e w') => show FindRes (Wn : Int) (Hn : Int) (Wn * Hn) bs (st : Int) w e w' from .inr ⟨HE.out, by
          simp only [Int.toNat_natCast]
          rw [← hJ]
          exact h⟩)
        have HRow := Lib.hid (fun (y : Nat) (hy : y < Hn) (wx : World) (hx : Bl w2 wx) => show Calls Tryz.prog 15 #[.agg #[.int .i64 Wn, .int .i64 Hn, .slice A (Wn * Hn) ac], .int .i64 y] wx (fun e w' => ∃ R d, e = .returned (.tuple #[.slice R (rowAtY bs Wn y).length d, .int .i64 0]) ∧ Reads w' 6 R (rowAtY bs Wn y).length (cdCells (rowAtY bs Wn y)) ∧ Bl wx w') from
          (readRow_any (Wn : Int) (Hn : Int) A (Wn * Hn) ac bs (y : Int) wx (HA.out.bl hx) hac (HT.out.bl hx)).mono (by
            rintro e w' ⟨R, m, d, err, rfl, herr, -, hok, hb⟩
            have h0 : err = 0 := by
              rw [herr]
              unfold runsErr
              rw [← HPe.out, inB_true.2 (by omega)]
              rfl
            subst h0
            obtain ⟨rfl, hr⟩ := hok rfl
            simp only [Int.toNat_natCast] at hr ⊢
            exact ⟨R, d, rfl, hr, hb⟩))
        have HLen := Lib.hid (show ∀ j, j ≤ J → (codesTo bs Wn st j).length ≤ 600000 ∧ (rowAtY bs Wn (j * st)).length ≤ 200 from fun j hj => by
          have h1 := codesTo_len bs Wn st j
          have h2 := rowAtY_len bs Wn (j * st)
          have h3 : j ≤ 4000 := by
            rcases Nat.eq_zero_or_pos j with h | h
            · omega
            · have := (HJ.out (j - 1)).2 (by omega)
              have h4 : (j - 1) * 1 ≤ (j - 1) * st := Nat.mul_le_mul_left _ hst1
              omega
          have h5 : j * (Wn + 1) ≤ 4000 * 4001 := Nat.mul_le_mul h3 (by omega)
          omega)
        have HTx := Lib.hid (show ∀ c ∈ codesTo bs Wn st J, c.t.length ≤ 9223372036854775807 from fun c hc => by
          have := (codesTo_ok hW4 hH4 J (fun i hi => (HJ.out i).2 hi) c hc).2
          omega)
        have k1 := (w21.bl hb3).all3
        clear hJ HE0 HE HPe c1 c2 hWH
        go_wp2_with fail
        go_loopw [7, 8] (fun s7 s8 wr => ∃ j : Nat, j ≤ J ∧ s8 = .int .i64 ((j * st : Nat) : Int) ∧ Bl w3 wr ∧ Hid (wr.ownsRow w3.heap.size 39 6 s7 (codesTo bs Wn st j).length (cdCells (codesTo bs Wn st j)))) (fun _ s8 _ => 10000 - (intOf s8).toNat)
        case atStart => exact ⟨0, Nat.zero_le _, by rw [Nat.zero_mul]; rfl, Bl.refl _, Lib.hid (World.ownsRow_nil _ _ _ 6)⟩
        case round =>
          rename World => wr
          clear k1
          obtain ⟨j, hj, rfl, hbr, hown⟩ := hrel
          have k1 := (w21.bl (hb3.trans hbr)).all3
          obtain ⟨y, hy⟩ : ∃ y, y = j * st := ⟨_, rfl⟩
          have HY := Lib.hid hy
          have hjJ := HJ.out j
          rw [← hy] at hjJ ⊢
          by_cases hlt : y < Hn
          · have hyi : (y : Int) < (Hn : Int) := by omega
            have hj1 := hjJ.1 hlt
            have hl := HLen.out j hj
            have HC := Lib.hid (show codesTo bs Wn st (j + 1) = codesTo bs Wn st j ++ rowAtY bs Wn y by rw [hy]; rfl)
            rw [← hy] at hl
            obtain ⟨cs, hcs⟩ : ∃ cs, cs = codesTo bs Wn st j := ⟨_, rfl⟩
            rw [← hcs] at hown HC hl
            obtain ⟨rs, hrs⟩ : ∃ rs, rs = rowAtY bs Wn y := ⟨_, rfl⟩
            have hrow := fun wx hx => HRow.out y hlt wx hx
            rw [← hrs] at HC hl hrow
            have Hrow := Lib.hid hrow
            clear hcs hrs hrow hjJ hy
            go_wp2_with fail
            refine (Hrow.out _ (hb3.trans hbr)).mono ?_
            rintro e w5 ⟨R, d, rfl, hr, hb5⟩
            have HRd := Lib.hid hr
            have HOw := Lib.hid (own_bl hown.out hb5)
            have hb35 := hbr.trans hb5
            clear hr Hrow
            go_wp2_with (at_builtin; refine wpList_append_bl (w1 := w3) rfl (.tmp 35) (.tmp 36) 35 rfl 39 (.agg #[.int .i64 0, .string ⟨#[]⟩, .int .i64 0, .int .i64 0, .int .i64 0, .int .i64 0]) 6 56 Tryz.underlying35 info_code rfl (by omega) w3.heap.size _ cs.length (cdCells cs) rfl hb35 (Nat.le_refl _) hb35.le HOw.out R rs.length d (cdCells rs) rfl HRd.out (cdCells_one rs) (by unfold maxLen; omega) (by omega) ?_; intro v' w8 hown8 hb8 hg8; have HOw8 := Lib.hid hown8)
            have HO8 := Lib.hid (show w8.ownsRow w3.heap.size 39 6 v' (codesTo bs Wn st (j + 1)).length (cdCells (codesTo bs Wn st (j + 1))) by
              rw [HC.out, cdCells_append, List.length_append]
              exact HOw8.out)
            have HB8 := Lib.hid hb8
            clear hown8 hb8 hg8 HOw8
            go_wp2_with fail
            have hy := HY.out
            have hy2 : (j + 1) * st = y + st := by rw [Nat.add_mul, ← hy, Nat.one_mul]
            exact ⟨⟨j + 1, hj1, by rw [hy2]; go_num, HB8.out, HO8⟩, by simp [intOf] <;> omega⟩
          · have hyi : ¬ (y : Int) < (Hn : Int) := by omega
            obtain rfl : j = J := by
              have : ¬ j < J := fun h => hlt (hjJ.2 h)
              omega
            obtain ⟨R, d, rfl, hrd⟩ := own_reads hown.out
            have hl := HLen.out j hj
            have hvo := vote_any R d (codesTo bs Wn st j) wr hrd (by omega) HTx.out
            have HVo := Lib.hid hvo
            clear hvo hrd hown
            go_wp2_with fail
            refine HVo.out.mono ?_
            rintro e w9 hv
            rcases hv with ⟨h1, rfl, hb⟩ | ⟨h1, R3, c3, hin, rfl, hr, hb⟩
            · have HV := Lib.hid (HFin.out _ w9 (Or.inl ⟨h1, rfl, (HW3.out.trans hbr).trans hb⟩))
              clear h1 hb HVo
              go_wp2_with fail
              exact bodyPost_ret (v := .tuple #[.slice none 0 0, .int .i64 (voteErr (codesTo bs Wn st j))]) (by simp [results, Tryz.results12, go_sem]) rfl HV.out
            · have HV := Lib.hid (HFin.out _ w9 (Or.inr ⟨h1, R3, c3, hin, rfl, hr, (HW3.out.trans hbr).trans hb⟩))
              obtain ⟨q, hq⟩ : ∃ q, q = (groupC (codesTo bs Wn st j)).length := ⟨_, rfl⟩
              rw [← hq] at HV ⊢
              clear h1 hb HVo hr hq
              go_wp2_with fail
              exact bodyPost_ret (v := .tuple #[.slice R3 q c3, .int .i64 0]) (by simp [results, Tryz.results12, go_sem]) rfl HV.out

end Go.Proofs.YtkipcobpnecmhaaGreatDoor


/-! Six codes of two keys are put together to two; a digit that is changed breaks the check digit. -/
namespace Go.Proofs.YtkipcobpnecmhaaGreatDoor
open Go.RowKit Go.Shelf Go.Sort Go.Lib

theorem add_first {P Q c : Cd} (hk : c.k = P.k) (ht : c.t = P.t) : addC [P, Q] c = [mergeC P c, Q] := by
  have hf : ([P, Q] : List Cd).findIdx? (sameKey c) = some 0 := by
    simp [List.findIdx?_cons, sameKey, hk, ht]
  rw [addC_some hf rfl]
  rfl
theorem add_second {P Q c : Cd} (hne : P.k ≠ Q.k) (hk : c.k = Q.k) (ht : c.t = Q.t) : addC [P, Q] c = [P, mergeC Q c] := by
  have hf : ([P, Q] : List Cd).findIdx? (sameKey c) = some 1 := by
    simp [List.findIdx?_cons, sameKey, hk, ht, hne]
  rw [addC_some hf rfl]
  rfl
theorem add_start {P c : Cd} (hne : P.k ≠ c.k) : addC [P] c = [P, c] := by
  have hf : ([P] : List Cd).findIdx? (sameKey c) = none := by
    simp [List.findIdx?_cons, sameKey, hne]
  rw [addC_none hf]
  rfl
theorem group_six {k1 k2 : Int} {t1 t2 : List UInt8} (hne : k1 ≠ k2) (X0 Y0 W0 x0 y0 w0 X1 Y1 W1 x1 y1 w1 X2 Y2 W2 x2 y2 w2 : Int) :
    ∃ P Q : Cd, groupC [⟨k1, t1, X0, Y0, W0, 1⟩, ⟨k2, t2, x0, y0, w0, 1⟩, ⟨k1, t1, X1, Y1, W1, 1⟩, ⟨k2, t2, x1, y1, w1, 1⟩, ⟨k1, t1, X2, Y2, W2, 1⟩, ⟨k2, t2, x2, y2, w2, 1⟩] = [P, Q] ∧ (P.k = k1 ∧ P.t = t1 ∧ P.n = 3) ∧ Q.k = k2 ∧ Q.t = t2 ∧ Q.n = 3 := by
  refine ⟨mergeC (mergeC ⟨k1, t1, X0, Y0, W0, 1⟩ ⟨k1, t1, X1, Y1, W1, 1⟩) ⟨k1, t1, X2, Y2, W2, 1⟩, mergeC (mergeC ⟨k2, t2, x0, y0, w0, 1⟩ ⟨k2, t2, x1, y1, w1, 1⟩) ⟨k2, t2, x2, y2, w2, 1⟩, ?_, ⟨rfl, rfl, rfl⟩, rfl, rfl, rfl⟩
  unfold groupC
  simp only [List.foldl_cons, List.foldl_nil]
  have s0 := add_start (P := ⟨k1, t1, X0, Y0, W0, 1⟩) (c := ⟨k2, t2, x0, y0, w0, 1⟩) hne
  have s1 := add_first (P := ⟨k1, t1, X0, Y0, W0, 1⟩) (Q := ⟨k2, t2, x0, y0, w0, 1⟩) (c := ⟨k1, t1, X1, Y1, W1, 1⟩) rfl rfl
  have s2 := add_second (P := mergeC ⟨k1, t1, X0, Y0, W0, 1⟩ ⟨k1, t1, X1, Y1, W1, 1⟩) (Q := ⟨k2, t2, x0, y0, w0, 1⟩) (c := ⟨k2, t2, x1, y1, w1, 1⟩) hne rfl rfl
  have s3 := add_first (P := mergeC ⟨k1, t1, X0, Y0, W0, 1⟩ ⟨k1, t1, X1, Y1, W1, 1⟩) (Q := mergeC ⟨k2, t2, x0, y0, w0, 1⟩ ⟨k2, t2, x1, y1, w1, 1⟩) (c := ⟨k1, t1, X2, Y2, W2, 1⟩) rfl rfl
  have s4 := add_second (P := mergeC (mergeC ⟨k1, t1, X0, Y0, W0, 1⟩ ⟨k1, t1, X1, Y1, W1, 1⟩) ⟨k1, t1, X2, Y2, W2, 1⟩) (Q := mergeC ⟨k2, t2, x0, y0, w0, 1⟩ ⟨k2, t2, x1, y1, w1, 1⟩) (c := ⟨k2, t2, x2, y2, w2, 1⟩) hne rfl rfl
  rw [show addC [] ⟨k1, t1, X0, Y0, W0, 1⟩ = [⟨k1, t1, X0, Y0, W0, 1⟩] from rfl, s0, s1, s2, s3, s4]
theorem sorted_mem {out : List Cd} {h : ∀ e ∈ out, CdIn e} : ∀ c ∈ sortedCd out h, c ∈ out := by
  intro c hc
  obtain ⟨hsz, -, hp⟩ := (pdq_sorts (ltOf cfRS) cfRS_swo (toS out h).toArray 0 (toS out h).toArray.size (Lib.bitLen (toS out h).toArray.size) true true (Nat.zero_le _) (Nat.le_refl _) (Or.inl rfl)).1
  unfold sortedCd at hc
  obtain ⟨x, hx, rfl⟩ := List.mem_map.1 hc
  generalize pdq (ltOf cfRS) (toS out h).toArray 0 (toS out h).toArray.size (Lib.bitLen (toS out h).toArray.size) true true = d' at hsz hp hx
  have e1 : (d'.extract 0 (toS out h).toArray.size).toList = d'.toList := by
    rw [Array.toList_extract, List.extract_eq_take_drop, List.drop_zero, Nat.sub_zero, List.take_of_length_le (by rw [Array.length_toList, hsz]; exact Nat.le_refl _)]
  have e2 : ((toS out h).toArray.extract 0 (toS out h).toArray.size).toList = toS out h := by
    rw [Array.toList_extract, List.extract_eq_take_drop, List.drop_zero, Nat.sub_zero, List.take_of_length_le (by simp)]
  rw [e1, e2] at hp
  have hx2 := hp.subset hx
  unfold toS at hx2
  obtain ⟨a, ha, rfl⟩ := List.mem_pmap.1 hx2
  exact ha
/-! ### the digit that is changed -/
theorem digOf_set_ne {ds : List UInt8} {k i : Nat} {c : UInt8} (h : i ≠ k) : digOf (ds.set k c) i = digOf ds i := by
  unfold digOf
  rw [List.getD_eq_getElem?_getD, List.getD_eq_getElem?_getD, List.getElem?_set_ne (fun e => h e.symm)]
theorem digOf_set {ds : List UInt8} {k : Nat} {c : UInt8} (h : k < ds.length) : digOf (ds.set k c) k = c.toNat - 48 := by
  unfold digOf
  rw [List.getD_eq_getElem?_getD, List.getElem?_set_self h]
  rfl
theorem checkSum_set {ds : List UInt8} {k : Nat} {c : UInt8} (hk : k < ds.length) : ∀ n, checkSum (ds.set k c) n + (if k < n then digOf ds k * (1 + k % 2 * 2) else 0) = checkSum ds n + (if k < n then (c.toNat - 48) * (1 + k % 2 * 2) else 0)
  | 0 => rfl
  | n + 1 => by
    have ih := checkSum_set (c := c) hk n
    show checkSum (ds.set k c) n + digOf (ds.set k c) n * (1 + n % 2 * 2) + _ = checkSum ds n + digOf ds n * (1 + n % 2 * 2) + _
    by_cases hn : n = k
    · subst hn
      rw [digOf_set hk]
      rw [if_neg (by omega), if_neg (by omega)] at ih
      rw [if_pos (by omega), if_pos (by omega)]
      omega
    · rw [digOf_set_ne hn]
      by_cases hlt : k < n
      · rw [if_pos hlt, if_pos hlt] at ih
        rw [if_pos (by omega), if_pos (by omega)]
        omega
      · rw [if_neg hlt, if_neg hlt] at ih
        rw [if_neg (by omega), if_neg (by omega)]
        omega
theorem ean_changed {ds : List UInt8} (h : EanOk ds) {k b : Nat} (hk : k < 13) (hb : b < 9) : eanErr (ds.set k (UInt8.ofNat (48 + (digOf ds k + 1 + b) % 10))) = 14 := by
  obtain ⟨h13, hm, hc⟩ := h
  have hd := digOf_le hm
  obtain ⟨v, hv⟩ : ∃ v, v = (digOf ds k + 1 + b) % 10 := ⟨_, rfl⟩
  rw [← hv]
  have hv9 : v ≤ 9 := by omega
  have hdk := hd k
  have hne : v ≠ digOf ds k := by omega
  have hcv : (UInt8.ofNat (48 + v)).toNat = 48 + v := by rw [UInt8.toNat_ofNat']; omega
  obtain ⟨c, hcc⟩ : ∃ c, c = UInt8.ofNat (48 + v) := ⟨_, rfl⟩
  rw [← hcc] at hcv ⊢
  have hdig : digB (ds.set k c) 13 = true := by
    unfold digB
    rw [List.length_set, decide_eq_true h13, Bool.true_and]
    unfold madeOf at hm ⊢
    rw [List.all_eq_true] at hm ⊢
    intro x hx
    rcases List.mem_or_eq_of_mem_set hx with hx | rfl
    · exact hm x hx
    · have h10 : ∀ q ≤ 9, digits10.contains (UInt8.ofNat (48 + q)) = true := by decide
      rw [hcc]; exact h10 v hv9
  unfold eanErr
  rw [if_pos hdig, if_neg]
  intro he
  unfold checkOf at he hc
  rw [checkSum_take _ _ _ (Nat.le_refl _)] at he hc
  have hs := checkSum_set (ds := ds) (c := c) (k := k) (by omega) 12
  rw [hcv, show 48 + v - 48 = v by omega] at hs
  by_cases h12 : k = 12
  · subst h12
    rw [if_neg (by omega), if_neg (by omega)] at hs
    rw [digOf_set (by omega), hcv] at he
    omega
  · rw [digOf_set_ne (by omega)] at he
    rw [if_pos (by omega), if_pos (by omega)] at hs
    rcases Nat.mod_two_eq_zero_or_one k with h2 | h2
    · rw [h2] at hs
      omega
    · rw [h2] at hs
      omega
end Go.Proofs.YtkipcobpnecmhaaGreatDoor


/-! The rows of a page on which two codes are drawn side by side, and of this page upside down. -/
namespace Go.Proofs.YtkipcobpnecmhaaGreatDoor
open Go.RowKit

theorem range_map_add {α : Type} (a b : Nat) (f : Nat → α) : (List.range (a + b)).map f = (List.range a).map f ++ (List.range b).map (fun x => f (a + x)) := by
  rw [List.range_add, List.map_append, List.map_map]
  rfl
theorem range_const {α : Type} (n : Nat) {f : Nat → α} {c : α} (h : ∀ i, i < n → f i = c) : (List.range n).map f = List.replicate n c := by
  apply List.ext_getElem?
  intro i
  by_cases hi : i < n
  · rw [List.getElem?_map, List.getElem?_range hi, List.getElem?_replicate, if_pos hi]
    exact congrArg some (h i hi)
  · rw [List.getElem?_eq_none (by rw [List.length_map, List.length_range]; omega), List.getElem?_eq_none (by rw [List.length_replicate]; omega)]
theorem range_div {α : Type} {u : Nat} (hu : 1 ≤ u) (g : Nat → α) : ∀ L, (List.range (L * u)).map (fun k => g (k / u)) = (List.range L).flatMap fun i => List.replicate u (g i)
  | 0 => by simp
  | L + 1 => by
    rw [Nat.add_mul, Nat.one_mul, range_map_add, range_div hu g L, List.range_succ, List.flatMap_append]
    congr 1
    rw [range_const u (c := g L) (fun j hj => by
      congr 1
      rw [Nat.mul_comm, Nat.mul_add_div (by omega), Nat.div_eq_of_lt hj, Nat.add_zero])]
    simp
/-- Each sign u times. -/
def timesB (u : Nat) (m : List UInt8) : List UInt8 := m.flatMap (List.replicate u)
theorem timesB_append (u : Nat) (a b : List UInt8) : timesB u (a ++ b) = timesB u a ++ timesB u b := by unfold timesB; rw [List.flatMap_append]
theorem timesB_rep (u n : Nat) (b : UInt8) : timesB u (List.replicate n b) = List.replicate (n * u) b := by
  induction n with
  | zero => rw [Nat.zero_mul]; rfl
  | succ n ih =>
    rw [List.replicate_succ, show (b :: List.replicate n b) = [b] ++ List.replicate n b from rfl, timesB_append, ih, Nat.add_mul, Nat.one_mul, Nat.add_comm (n * u) u, ← List.replicate_append_replicate]
    congr 1
    unfold timesB
    simp
theorem expand_wide (u : Nat) : ∀ (rs : List Nat) (i : Nat), expand i (wideR u rs) = timesB u (expand i rs)
  | [], _ => rfl
  | n :: rs, i => by
    show List.replicate (n * u) (bitAt i) ++ expand (i + 1) (wideR u rs) = timesB u (List.replicate n (bitAt i) ++ expand (i + 1) rs)
    rw [timesB_append, timesB_rep, expand_wide u rs (i + 1)]
theorem range_list {α β : Type} (l : List α) (d : α) (f : α → β) : (List.range l.length).map (fun i => f (l.getD i d)) = l.map f := by
  apply List.ext_getElem?
  intro i
  by_cases hi : i < l.length
  · rw [List.getElem?_map, List.getElem?_range hi, List.getElem?_map, List.getElem?_eq_getElem hi]
    show some (f (l.getD i d)) = some (f l[i])
    rw [List.getD_eq_getElem?_getD, List.getElem?_eq_getElem hi]
    rfl
  · rw [List.getElem?_eq_none (by rw [List.length_map, List.length_range]; omega), List.getElem?_eq_none (by rw [List.length_map]; omega)]
/-- A row that is drawn. -/
theorem draw_row {m : List UInt8} {u q : Nat} (y : Nat) (hu : 1 ≤ u) (hm : ∀ b ∈ m, b = 48 ∨ b = 49) : (List.range (2 * q + u * m.length)).map (fun x => inkB (drawF m u q x y)) = List.replicate q 48 ++ (timesB u m ++ List.replicate q 48) := by
  rw [show 2 * q + u * m.length = q + (m.length * u + q) by rw [Nat.mul_comm u]; omega, range_map_add, range_map_add]
  congr 1
  · refine range_const q fun i hi => ?_
    unfold drawF
    rw [decide_eq_false (by omega)]
    rfl
  · congr 1
    · have h1 : (List.range (m.length * u)).map (fun x => inkB (drawF m u q (q + x) y)) = (List.range (m.length * u)).map (fun k => (fun i => inkB ((m.getD i 0).toNat == 49)) (k / u)) := by
        refine List.map_congr_left fun x hx => ?_
        have hx' := List.mem_range.1 hx
        unfold drawF
        rw [decide_eq_true (by omega), Bool.true_and, show q + x - q = x by omega]
      refine h1.trans ((range_div hu (fun i => inkB ((m.getD i 0).toNat == 49)) m.length).trans ?_)
      have h2 : ((List.range m.length).flatMap fun i => List.replicate u (inkB ((m.getD i 0).toNat == 49))) = ((List.range m.length).map fun i => (fun b : UInt8 => List.replicate u (inkB (b.toNat == 49))) (m.getD i 0)).flatten := by
        rw [List.flatMap_def]
      rw [h2, range_list m 0 (fun b : UInt8 => List.replicate u (inkB (b.toNat == 49)))]
      unfold timesB
      rw [List.flatMap_def]
      congr 1
      refine List.map_congr_left fun b hb => ?_
      rcases hm b hb with rfl | rfl <;> rfl
    · refine range_const q fun i hi => ?_
      unfold drawF
      rw [decide_eq_false (by omega)]
      rfl
theorem expand_bits (i : Nat) : ∀ (rs : List Nat), ∀ b ∈ expand i rs, b = 48 ∨ b = 49
  | [], b, h => by cases h
  | n :: rs, b, h => by
    rcases List.mem_append.1 h with h | h
    · rw [List.eq_of_mem_replicate h]
      unfold bitAt
      split
      · exact .inr rfl
      · exact .inl rfl
    · exact expand_bits (i + 1) rs b h
theorem expand_row {q u o : Nat} {E C : List Nat} (hE : E.length % 2 = 1) (hC : C.length % 2 = 1) : expand 1 (rowF q u o E C) = (List.replicate q 48 ++ (timesB u (expand 0 E) ++ List.replicate q 48)) ++ (List.replicate q 48 ++ (timesB o (expand 0 C) ++ List.replicate q 48)) := by
  have hEw : (wideR u E).length = E.length := List.length_map ..
  have hCw : (wideR o C).length = C.length := List.length_map ..
  have one : ∀ i n, i % 2 = 1 → expand i [n] = List.replicate n 48 := fun i n hi => by
    rw [expand_par (show i % 2 = 1 % 2 from hi)]
    show List.replicate n (bitAt 1) ++ [] = _
    rw [List.append_nil]
    rfl
  unfold rowF
  rw [expand_append, expand_append, expand_append, expand_append, hEw, hCw]
  simp only [List.length_singleton]
  rw [one 1 q rfl, one _ (2 * q) (by omega), one _ q (by omega), expand_par (show (1 + 1) % 2 = 0 % 2 from rfl) (wideR u E), expand_par (show (1 + 1 + E.length + 1) % 2 = 0 % 2 by omega) (wideR o C), expand_wide, expand_wide, Nat.two_mul, ← List.replicate_append_replicate]
  simp only [List.append_assoc]
theorem rowF_len {q u o : Nat} {E C : List Nat} : (rowF q u o E C).length = E.length + C.length + 3 := by
  unfold rowF
  have hEw : (wideR u E).length = E.length := List.length_map ..
  have hCw : (wideR o C).length = C.length := List.length_map ..
  simp only [List.length_append, List.length_singleton, hEw, hCw]
  omega
theorem rowF_rev (q u o : Nat) (E C : List Nat) : (rowF q u o E C).reverse = rowF q o u C.reverse E.reverse := by
  unfold rowF wideR
  simp [List.map_reverse]
theorem rowF_pos {q u o : Nat} {E C : List Nat} (hq : 1 ≤ q) (hu : 1 ≤ u) (ho : 1 ≤ o) (hE : ∀ r ∈ E, 1 ≤ r) (hC : ∀ r ∈ C, 1 ≤ r) : ∀ r ∈ rowF q u o E C, 1 ≤ r := by
  intro r hr
  have w : ∀ (v : Nat) (l : List Nat), 1 ≤ v → (∀ x ∈ l, 1 ≤ x) → ∀ x ∈ wideR v l, 1 ≤ x := fun v l hv hl x hx => by
    obtain ⟨z, hz, rfl⟩ := List.mem_map.1 hx
    exact Nat.mul_le_mul (hl z hz) hv
  unfold rowF at hr
  rcases List.mem_append.1 hr with hr | hr
  · rw [List.mem_singleton.1 hr]; exact hq
  · rcases List.mem_append.1 hr with hr | hr
    · exact w u E hu hE r hr
    · rcases List.mem_append.1 hr with hr | hr
      · rw [List.mem_singleton.1 hr]; omega
      · rcases List.mem_append.1 hr with hr | hr
        · exact w o C ho hC r hr
        · rw [List.mem_singleton.1 hr]; exact hq
theorem range_rev {α : Type} (n : Nat) (f : Nat → α) : (List.range n).map (fun x => f (n - 1 - x)) = ((List.range n).map f).reverse := by
  apply List.ext_getElem?
  intro i
  by_cases hi : i < n
  · rw [List.getElem?_map, List.getElem?_range hi, List.getElem?_reverse (by rw [List.length_map, List.length_range]; exact hi), List.length_map, List.length_range, List.getElem?_map, List.getElem?_range (by omega)]
    rfl
  · rw [List.getElem?_eq_none (by rw [List.length_map, List.length_range]; omega), List.getElem?_eq_none (by rw [List.length_reverse, List.length_map, List.length_range]; omega)]
/-- The ink of the page of two codes. -/
def twoF (m n : List UInt8) (u o q aW x y : Nat) : Bool := if x < aW then drawF m u q x y else drawF n o q (x - aW) y
theorem two_runs {E C : List Nat} {m n : List UInt8} {u o q aW W : Nat} (y : Nat) (hm : m = expand 0 E) (hn : n = expand 0 C) (ha : aW = 2 * q + u * m.length) (hW : W = aW + (2 * q + o * n.length)) (hq : 1 ≤ q) (hu : 1 ≤ u) (ho : 1 ≤ o) (hE : ∀ r ∈ E, 1 ≤ r) (hC : ∀ r ∈ C, 1 ≤ r) (hE2 : E.length % 2 = 1) (hC2 : C.length % 2 = 1) :
    runsL (fun x => twoF m n u o q aW x y) W = rowF q u o E C ∧ runsL (fun x => twoF m n u o q aW (W - 1 - x) y) W = rowF q o u C.reverse E.reverse := by
  have hrow : (List.range W).map (fun x => inkB (twoF m n u o q aW x y)) = expand 1 (rowF q u o E C) := by
    rw [expand_row hE2 hC2, hW, range_map_add, ← hm, ← hn]
    congr 1
    · rw [← draw_row y hu (by rw [hm]; exact expand_bits 0 E), ← ha]
      exact List.map_congr_left fun x hx => by unfold twoF; rw [if_pos (List.mem_range.1 hx)]
    · rw [← draw_row y ho (by rw [hn]; exact expand_bits 0 C)]
      exact List.map_congr_left fun x hx => by unfold twoF; rw [if_neg (by omega), show aW + x - aW = x by omega]
  have h0 : twoF m n u o q aW 0 y = false := by
    unfold twoF drawF
    rw [if_pos (by omega), decide_eq_false (by omega)]
    rfl
  have hz : twoF m n u o q aW (W - 1) y = false := by
    unfold twoF drawF
    rw [if_neg (by omega), decide_eq_false (by rw [Nat.mul_comm n.length o]; omega)]
    rfl
  refine ⟨runs_are h0 (by omega) (rowF_pos hq hu ho hE hC) hrow, ?_⟩
  refine runs_are (by show twoF m n u o q aW (W - 1 - 0) y = false; exact hz) (by omega) ?_ ?_
  · exact rowF_pos hq ho hu (fun r hr => hC r (List.mem_reverse.1 hr)) (fun r hr => hE r (List.mem_reverse.1 hr))
  · rw [range_rev W (fun x => inkB (twoF m n u o q aW x y)), hrow, expand_rev, rowF_len, rowF_rev]
    exact expand_par (by omega) _
end Go.Proofs.YtkipcobpnecmhaaGreatDoor


/-! What the pages of the law TopCodes have, in plain lists. -/
namespace Go.Proofs.YtkipcobpnecmhaaGreatDoor
open Go.RowKit

theorem ean_ok_of {ds : List UInt8} (h : eanErr ds = 0) : EanOk ds ∧ eanVal ds = eanOf ds := by
  refine ⟨?_, by unfold eanVal; rw [if_pos h]⟩
  unfold eanErr at h
  by_cases hd : digB ds 13 = true
  · rw [if_pos hd] at h
    unfold digB at hd
    simp only [Bool.and_eq_true, decide_eq_true_eq] at hd
    by_cases hc : checkOf (ds.take 12) = digOf ds 12
    · exact ⟨hd.1, hd.2, hc⟩
    · rw [if_neg hc] at h; cases h
  · rw [if_neg hd] at h; cases h
set_option maxRecDepth 100000 in
theorem code_ok_of {t : List UInt8} (h : letErr t = 0) : Ks (ksL t) ((t ++ chkL t).map num44) ∧ CodeOk t (ksL t) ∧ codeRes t = joinC (ksL t) := by
  obtain ⟨hok, h1, h40⟩ := letErr_ok h
  have hn : num44 42 = 43 := by decide +kernel
  have hks : ksL t = 43 :: ((t ++ chkL t).map num44 ++ [43]) := by
    unfold ksL wholeL
    rw [List.map_cons, List.map_append, hn]
    rfl
  refine ⟨⟨hks, ?_, fun q hq => ?_⟩, rd_code h, by unfold codeRes; rw [if_pos h]; rfl⟩
  · rw [List.length_map, List.length_append]
    unfold chkL
    simp
    omega
  · obtain ⟨c, hc, rfl⟩ := List.mem_map.1 hq
    have hw : c ∈ wholeL t := List.mem_cons_of_mem _ (List.mem_append_left _ hc)
    have hlt := ksL_lt hok (num44 c) (List.mem_map.2 ⟨c, hw, rfl⟩)
    rcases Nat.lt_or_ge (num44 c) 43 with h2 | h2
    · exact h2
    · exfalso
      have h3 := num_back c (whole_mem hok c hw)
      rw [show num44 c = 43 by omega] at h3
      have h42 : c = 42 := h3.symm.trans (by decide)
      rw [h42] at hc
      exact no_star hok hc
theorem runsTo_congr {f g : Nat → Bool} : ∀ k, (∀ x, x < k → f x = g x) → runsTo f k = runsTo g k
  | 0, _ => rfl
  | k + 1, h => by
    have ih := runsTo_congr k fun x hx => h x (by omega)
    have hi : inkAt f k = inkAt g k := by
      cases k with
      | zero => rfl
      | succ k => exact h k (by omega)
    have hk := h k (by omega)
    by_cases hs : f k = inkAt f k
    · rw [runs_same hs, runs_same (show g k = inkAt g k by rw [← hk, ← hi]; exact hs), ih]
    · rw [runs_new hs, runs_new (show g k ≠ inkAt g k by rw [← hk, ← hi]; exact hs), ih]
theorem runsL_congr {f g : Nat → Bool} {k : Nat} (h : ∀ x, x < k → f x = g x) : runsL f k = runsL g k := by
  unfold runsL
  rw [runsTo_congr k h]
/-- Two codes, each of three rows, of these texts. -/
def GoodOut (ds t : List UInt8) (cs : List Cd) : Prop := voteErr cs = 0 ∧ (groupC cs).length = 2 ∧ ∀ c ∈ groupC cs, c.n = 3 ∧ (c.k = 1 → c.t = ds) ∧ (c.k = 2 → c.t = t)
theorem good_of_rows {bs : List Bool} {W : Nat} {ds t : List UInt8} {k1 k2 : Int} {t1 t2 : List UInt8} (hW : W ≤ 4000) (hne : k1 ≠ k2) (h1 : (k1 = 1 → t1 = ds) ∧ (k1 = 2 → t1 = t)) (h2 : (k2 = 1 → t2 = ds) ∧ (k2 = 2 → t2 = t))
    (hr : ∀ y, y < 3 → ∃ X1 W1 X2 W2, rowAtY bs W y = [⟨k1, t1, X1, y, W1, 1⟩, ⟨k2, t2, X2, y, W2, 1⟩]) : GoodOut ds t (codesTo bs W 1 (rowsN 3 1)) := by
  obtain ⟨A0, B0, C0, D0, e0⟩ := hr 0 (by decide)
  obtain ⟨A1, B1, C1, D1, e1⟩ := hr 1 (by decide)
  obtain ⟨A2, B2, C2, D2, e2⟩ := hr 2 (by decide)
  have hc : codesTo bs W 1 (rowsN 3 1) = [⟨k1, t1, A0, ((0 : Nat) : Int), B0, 1⟩, ⟨k2, t2, C0, ((0 : Nat) : Int), D0, 1⟩, ⟨k1, t1, A1, ((1 : Nat) : Int), B1, 1⟩, ⟨k2, t2, C1, ((1 : Nat) : Int), D1, 1⟩, ⟨k1, t1, A2, ((2 : Nat) : Int), B2, 1⟩, ⟨k2, t2, C2, ((2 : Nat) : Int), D2, 1⟩] := by
    show (([] ++ rowAtY bs W (0 * 1)) ++ rowAtY bs W (1 * 1)) ++ rowAtY bs W (2 * 1) = _
    rw [show 0 * 1 = 0 from rfl, show 1 * 1 = 1 from rfl, show 2 * 1 = 2 from rfl, e0, e1, e2]
    rfl
  have hv : voteErr (codesTo bs W 1 (rowsN 3 1)) = 0 := by
    rw [vote_good (fun c h => (codesTo_ok (H := 3) hW (by decide) (rowsN 3 1) (fun i hi => (rowsN_lt (by decide) i).2 hi) c h).1), hc]
    rfl
  refine ⟨hv, ?_⟩
  obtain ⟨P, Q, hg, ⟨p1, p2, p3⟩, q1, q2, q3⟩ := group_six (t1 := t1) (t2 := t2) hne A0 ((0 : Nat) : Int) B0 C0 ((0 : Nat) : Int) D0 A1 ((1 : Nat) : Int) B1 C1 ((1 : Nat) : Int) D1 A2 ((2 : Nat) : Int) B2 C2 ((2 : Nat) : Int) D2
  rw [hc, hg]
  refine ⟨rfl, fun c hc => ?_⟩
  rcases List.mem_cons.1 hc with rfl | hc
  · exact ⟨p3, fun h => p2.trans (h1.1 (p1.symm.trans h)), fun h => p2.trans (h1.2 (p1.symm.trans h))⟩
  · rw [List.mem_singleton.1 hc]
    exact ⟨q3, fun h => q2.trans (h2.1 (q1.symm.trans h)), fun h => q2.trans (h2.2 (q1.symm.trans h))⟩
/-- The pages: blank, with one code, with both. -/
def page1 (m : List UInt8) (u q aW W : Nat) : List Bool := grid W 3 (pasteF (List.replicate (W * 3) false) (grid aW 3 (drawF m u q)) W 3 aW 3 0 0)
def page2 (m n : List UInt8) (u o q aW bW W : Nat) : List Bool := grid W 3 (pasteF (page1 m u q aW W) (grid bW 3 (drawF n o q)) W 3 bW 3 (aW : Int) 0)
theorem pix_blank (W n x y : Nat) : pix (List.replicate n false) W x y = false := by
  unfold pix
  rw [List.getD_eq_getElem?_getD, List.getElem?_replicate]
  split <;> rfl
theorem pix_page1 {m : List UInt8} {u q aW W x y : Nat} (ha : 1 ≤ aW) (_haW : aW ≤ W) (hx : x < W) (hy : y < 3) : pix (page1 m u q aW W) W x y = if x < aW then drawF m u q x y else false := by
  unfold page1
  rw [pix_grid W 3 _ x y hx hy]
  unfold pasteF
  rw [pix_blank, Bool.false_or, show isApart W 3 aW 3 0 0 = false by unfold isApart; simp; omega]
  show atI (grid aW 3 (drawF m u q)) aW ((3 : Nat) : Int) ((x : Int) - 0) ((y : Int) - 0) = _
  rw [Int.sub_zero, Int.sub_zero]
  by_cases h : x < aW
  · rw [if_pos h, atI_in _ _ _ _ _ h hy, pix_grid aW 3 _ x y h hy]
  · rw [if_neg h, atI_out _ _ _ _ _ (by omega)]
theorem pix_page2 {m n : List UInt8} {u o q aW bW W x y : Nat} (ha : 1 ≤ aW) (hb : 1 ≤ bW) (hW : W = aW + bW) (hx : x < W) (hy : y < 3) : pix (page2 m n u o q aW bW W) W x y = twoF m n u o q aW x y := by
  unfold page2
  rw [pix_grid W 3 _ x y hx hy]
  unfold pasteF twoF
  rw [pix_page1 ha (by omega) hx hy, show isApart W 3 bW 3 (aW : Int) 0 = false by unfold isApart; simp; omega]
  show ((if x < aW then drawF m u q x y else false) || atI (grid bW 3 (drawF n o q)) bW ((3 : Nat) : Int) ((x : Int) - (aW : Int)) ((y : Int) - 0)) = _
  rw [Int.sub_zero]
  by_cases h : x < aW
  · rw [if_pos h, if_pos h, atI_out _ _ _ _ _ (by omega), Bool.or_false]
  · rw [if_neg h, if_neg h, Bool.false_or, show (x : Int) - (aW : Int) = ((x - aW : Nat) : Int) by omega, atI_in _ _ _ _ _ (by omega) hy, pix_grid bW 3 _ (x - aW) y (by omega) hy]
theorem top_good {ds t : List UInt8} {ks qs : List Nat} {u o q aW bW W : Nat} (hd : EanOk ds) (h : Ks ks qs) (ht : CodeOk t ks) (hu : 1 ≤ u) (hu8 : u ≤ 8) (ho : 1 ≤ o) (ho8 : o ≤ 8) (hq : 1 ≤ q)
    (ha : aW = 2 * q + u * (eanOf ds).length) (hb : bW = 2 * q + o * (joinC ks).length) (hW : W = aW + bW) (hW4 : W ≤ 4000) :
    GoodOut ds t (codesTo (page2 (eanOf ds) (joinC ks) u o q aW bW W) W 1 (rowsN 3 1)) ∧ GoodOut ds t (codesTo (grid W 3 (tF (pix (page2 (eanOf ds) (joinC ks) u o q aW bW W) W) 2 W 3)) W 1 (rowsN 3 1)) := by
  obtain ⟨e1, e2, e3, -⟩ := ean_runs (digOf_le hd.2.1)
  have hg := bsF_good h.lt
  have hl := joinR_len (bs := bsF ks) (by rw [h.1]; simp [bsF]) fun b hb => (hg b hb).1
  have htr := fun y => two_runs (E := eanRuns ds) (C := joinR (bsF ks)) (m := eanOf ds) (n := joinC ks) (u := u) (o := o) (q := q) (aW := aW) (W := W) y e1.symm (expF h.lt).symm ha (by omega) hq hu ho (fun r hr => (e3 r hr).1) (fun r hr => by rcases joinR_pos hg r hr with rfl | rfl <;> omega) (by omega) (by omega)
  constructor
  · refine good_of_rows hW4 (k1 := 1) (k2 := 2) (t1 := ds) (t2 := t) (by decide) ⟨fun _ => rfl, fun h => (by cases h)⟩ ⟨fun h => (by cases h), fun _ => rfl⟩ fun y hy => ?_
    unfold rowAtY
    rw [runsL_congr (g := fun x => twoF (eanOf ds) (joinC ks) u o q aW x y) fun x hx => pix_page2 (by omega) (by omega) hW hx hy, (htr y).1]
    exact row_forward hd h ht hu hu8 ho ho8
  · refine good_of_rows hW4 (k1 := 2) (k2 := 1) (t1 := t) (t2 := ds) (by decide) ⟨fun h => (by cases h), fun _ => rfl⟩ ⟨fun _ => rfl, fun h => (by cases h)⟩ fun y hy => ?_
    unfold rowAtY
    rw [runsL_congr (g := fun x => twoF (eanOf ds) (joinC ks) u o q aW (W - 1 - x) (3 - 1 - y)) fun x hx => (pix_grid W 3 _ x y hx hy).trans (pix_page2 (by omega) (by omega) hW (by omega) (by omega)), (htr (3 - 1 - y)).2, ← joinB]
    exact row_back hd h ht hu hu8 ho ho8
end Go.Proofs.YtkipcobpnecmhaaGreatDoor
