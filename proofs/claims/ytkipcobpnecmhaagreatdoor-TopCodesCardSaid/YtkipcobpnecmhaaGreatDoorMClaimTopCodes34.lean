/- A row on which two codes are drawn side by side has these two codes, in plain lists. -/
import Derived.Test.YtkipcobpnecmhaaGreatDoorMClaimTopCodes32
import Derived.Test.YtkipcobpnecmhaaGreatDoorMClaimTopCodes26
import Derived.Test.YtkipcobpnecmhaaGreatDoorMClaimTopCodes0
import Derived.Test.YtkipcobpnecmhaaGreatDoorMClaimTopCodes1
import Derived.Test.YtkipcobpnecmhaaGreatDoorMClaimTopCodes17

namespace Go.Proofs.YtkipcobpnecmhaaGreatDoor
open Go.RowKit Go.Shelf

/-- The runs as whole numbers. -/
def zRuns (l : List Nat) : List Int := l.map fun (n : Nat) => (n : Int)
theorem zRuns_len (l : List Nat) : (zRuns l).length = l.length := List.length_map ..
theorem zRuns_cells (l : List Nat) : intCells (zRuns l) = natCells l := by
  unfold intCells zRuns natCells
  rw [List.map_map]
  rfl
theorem runsTo_sum (f : Nat → Bool) : ∀ k, (runsTo f k).1.sum + (runsTo f k).2 = k
  | 0 => rfl
  | k + 1 => by
    have ih := runsTo_sum f k
    by_cases hs : f k = inkAt f k
    · rw [runs_same hs]
      show (runsTo f k).1.sum + ((runsTo f k).2 + 1) = k + 1
      omega
    · rw [runs_new hs]
      show ((runsTo f k).1 ++ [(runsTo f k).2]).sum + 1 = k + 1
      rw [List.sum_append]
      simp
      omega
theorem runsL_sum (f : Nat → Bool) (k : Nat) : (runsL f k).sum = k := by
  unfold runsL
  rw [List.sum_append]
  have := runsTo_sum f k
  simpa using this
theorem take_sum_le (l : List Nat) (i : Nat) : (l.take i).sum ≤ l.sum := by
  have h := congrArg List.sum (List.take_append_drop i l)
  rw [List.sum_append] at h
  omega
theorem sumI_nat (l : List Nat) (i : Nat) : sumI (zRuns l) i = (((l.take i).sum : Nat) : Int) := by
  unfold sumI zRuns
  rw [← List.map_take]
  generalize l.take i = k
  induction k with
  | nil => rfl
  | cons a k ih => simp only [List.map_cons, List.sum_cons, ih]; omega
theorem take_sum_succ {l : List Nat} {i a : Nat} (h : l[i]? = some a) : (l.take (i + 1)).sum = (l.take i).sum + a := by
  rw [List.take_add_one, h, List.sum_append]
  simp
theorem code_one (c : Cd) : ∀ u ∈ c.cells, u.oneCell' = true := by simp [Cd.cells, Value.oneCell']
end Go.Proofs.YtkipcobpnecmhaaGreatDoor


/-! Letters as blocks of runs, in plain lists: their units, and what is read of some of them. -/
namespace Go.Proofs.YtkipcobpnecmhaaGreatDoor
open Go.RowKit

def joinR : List (List Nat) → List Nat
  | [] => []
  | [b] => b
  | b :: b' :: bs => b ++ 1 :: joinR (b' :: bs)
def GoodB (b : List Nat) : Prop := b.length = 9 ∧ (∀ r ∈ b, r = 1 ∨ r = 3) ∧ 1 ∈ b ∧ 3 ∈ b
theorem runJ_join : ∀ ks : List Nat, runJ ks = joinR (ks.map runK)
  | [] => rfl
  | [k] => rfl
  | k :: k' :: ks => by
    show runK k ++ 1 :: runJ (k' :: ks) = runK k ++ 1 :: joinR ((k' :: ks).map runK)
    rw [runJ_join (k' :: ks)]
theorem joinR_cons (b : List Nat) {bs : List (List Nat)} (h : bs ≠ []) : joinR (b :: bs) = b ++ 1 :: joinR bs := by
  cases bs with
  | nil => exact absurd rfl h
  | cons b' bs => rfl
theorem joinR_snoc : ∀ (bs : List (List Nat)) (b : List Nat), bs ≠ [] → joinR (bs ++ [b]) = joinR bs ++ 1 :: b
  | [], _, h => absurd rfl h
  | [a], b, _ => rfl
  | a :: a' :: bs, b, _ => by
    show a ++ 1 :: joinR (a' :: bs ++ [b]) = (a ++ 1 :: joinR (a' :: bs)) ++ 1 :: b
    rw [joinR_snoc (a' :: bs) b (by simp)]
    simp
theorem joinR_rev : ∀ bs : List (List Nat), (joinR bs).reverse = joinR (bs.map List.reverse).reverse
  | [] => rfl
  | [b] => rfl
  | b :: b' :: bs => by
    show (b ++ 1 :: joinR (b' :: bs)).reverse = _
    rw [List.map_cons, List.reverse_cons, joinR_snoc _ _ (by simp), ← joinR_rev (b' :: bs)]
    simp
theorem joinR_len : ∀ {bs : List (List Nat)}, bs ≠ [] → (∀ b ∈ bs, b.length = 9) → (joinR bs).length + 1 = 10 * bs.length
  | [], h, _ => absurd rfl h
  | [b], _, h => by
    show b.length + 1 = 10
    rw [h b (List.mem_singleton.2 rfl)]
  | b :: b' :: bs, _, h => by
    have h1 := h b (List.mem_cons_self ..)
    have ih := joinR_len (bs := b' :: bs) (by simp) fun x hx => h x (List.mem_cons_of_mem _ hx)
    show (b ++ 1 :: joinR (b' :: bs)).length + 1 = _
    rw [List.length_append, List.length_cons, h1, ih]
    simp only [List.length_cons]
    omega
theorem joinR_pos : ∀ {bs : List (List Nat)}, (∀ b ∈ bs, GoodB b) → ∀ r ∈ joinR bs, r = 1 ∨ r = 3
  | [], _, r, h => by cases h
  | [b], hb, r, h => (hb b (List.mem_singleton.2 rfl)).2.1 r h
  | b :: b' :: bs, hb, r, h => by
    rcases List.mem_append.1 h with h | h
    · exact (hb b (List.mem_cons_self ..)).2.1 r h
    · rcases List.mem_cons.1 h with rfl | h
      · exact .inl rfl
      · exact joinR_pos (fun x hx => hb x (List.mem_cons_of_mem _ hx)) r h
/-- The runs behind j blocks. -/
theorem joinR_drop : ∀ {bs : List (List Nat)} (j : Nat), (∀ b ∈ bs, b.length = 9) → j < bs.length → (joinR bs).drop (10 * j) = joinR (bs.drop j)
  | [], _, _, h => by simp at h
  | _ :: _, 0, _, _ => rfl
  | [b], j + 1, _, h => by simp at h
  | b :: b' :: bs, j + 1, hb, h => by
    have h1 := hb b (List.mem_cons_self ..)
    have hl : (b ++ [1]).length = 10 := by rw [List.length_append, h1]; rfl
    show (b ++ 1 :: joinR (b' :: bs)).drop (10 * (j + 1)) = joinR ((b' :: bs).drop j)
    rw [show b ++ 1 :: joinR (b' :: bs) = (b ++ [1]) ++ joinR (b' :: bs) by simp, show 10 * (j + 1) = 10 + 10 * j by omega, ← List.drop_drop, List.drop_left' hl]
    exact joinR_drop j (fun x hx => hb x (List.mem_cons_of_mem _ hx)) (by simp only [List.length_cons] at h ⊢; omega)
theorem joinR_take : ∀ {bs : List (List Nat)} (m : Nat), (∀ b ∈ bs, b.length = 9) → 1 ≤ m → m ≤ bs.length → ∀ rest, (joinR bs ++ rest).take (10 * m - 1) = joinR (bs.take m)
  | [], _, _, h, h', _ => by simp at h'; omega
  | [b], m, hb, h, h', rest => by
    have h1 := hb b (List.mem_singleton.2 rfl)
    obtain rfl : m = 1 := by simp at h'; omega
    show (b ++ rest).take 9 = b
    exact List.take_left' h1
  | b :: b' :: bs, m, hb, h, h', rest => by
    have h1 := hb b (List.mem_cons_self ..)
    by_cases hm : m = 1
    · subst hm
      show ((b ++ 1 :: joinR (b' :: bs)) ++ rest).take 9 = b
      rw [List.append_assoc]
      exact List.take_left' h1
    · obtain ⟨m', rfl⟩ : ∃ m', m = m' + 1 := ⟨m - 1, by omega⟩
      have hl : (b ++ [1]).length = 10 := by rw [List.length_append, h1]; rfl
      have ih := joinR_take (bs := b' :: bs) m' (fun x hx => hb x (List.mem_cons_of_mem _ hx)) (by omega) (by simp only [List.length_cons] at h' ⊢; omega) rest
      show ((b ++ 1 :: joinR (b' :: bs)) ++ rest).take (10 * (m' + 1) - 1) = joinR (b :: (b' :: bs).take m')
      rw [joinR_cons b (by cases m' with | zero => omega | succ q => simp)]
      rw [show (b ++ 1 :: joinR (b' :: bs)) ++ rest = (b ++ [1]) ++ (joinR (b' :: bs) ++ rest) by simp, show 10 * (m' + 1) - 1 = (b ++ [1]).length + (10 * m' - 1) by rw [hl]; omega, List.take_length_add_append, ih]
      simp
/-- Run i of the blocks. -/
theorem joinR_at {bs : List (List Nat)} (hb : ∀ b ∈ bs, b.length = 9) {j : Nat} {b : List Nat} (hj : bs[j]? = some b) : ((joinR bs).drop (10 * j)).take 9 = b ∧ (j + 1 < bs.length → (joinR bs)[10 * j + 9]? = some 1) := by
  have hlt := (List.getElem?_eq_some_iff.1 hj).1
  have hbl := hb b (List.mem_of_getElem? hj)
  rw [joinR_drop j hb hlt]
  have hd : bs.drop j = b :: bs.drop (j + 1) := by
    rw [List.drop_eq_getElem_cons hlt]
    congr 1
    rw [List.getElem?_eq_getElem hlt] at hj
    exact Option.some.inj hj
  constructor
  · rw [hd]
    by_cases hn : bs.drop (j + 1) = []
    · rw [hn]; exact List.take_of_length_le (by show b.length ≤ 9; omega)
    · rw [joinR_cons b hn]; exact List.take_left' hbl
  · intro h2
    have hn : bs.drop (j + 1) ≠ [] := by
      intro e
      have := congrArg List.length e
      rw [List.length_drop] at this
      simp at this
      omega
    have h3 : ((joinR bs).drop (10 * j))[9]? = some 1 := by
      rw [joinR_drop j hb hlt, hd, joinR_cons b hn, List.getElem?_append_right (by omega), hbl]
      rfl
    rwa [List.getElem?_drop] at h3
end Go.Proofs.YtkipcobpnecmhaaGreatDoor


/-! The units of drawn codes, in plain lists. -/
namespace Go.Proofs.YtkipcobpnecmhaaGreatDoor
open Go.RowKit

theorem foldmin_le : ∀ (r : List Int) (z : Int), r.foldl min z ≤ z ∧ (∀ x ∈ r, r.foldl min z ≤ x) ∧ (r.foldl min z = z ∨ r.foldl min z ∈ r)
  | [], z => ⟨Int.le_refl _, fun x h => (by cases h), .inl rfl⟩
  | a :: r, z => by
    obtain ⟨h1, h2, h3⟩ := foldmin_le r (min z a)
    show r.foldl min (min z a) ≤ z ∧ _
    refine ⟨by omega, fun x hx => ?_, ?_⟩
    · rcases List.mem_cons.1 hx with rfl | hx
      · show r.foldl min (min z x) ≤ x; omega
      · exact h2 x hx
    · show r.foldl min (min z a) = z ∨ r.foldl min (min z a) ∈ a :: r
      rcases h3 with h3 | h3
      · by_cases hza : z ≤ a
        · left; rw [h3]; omega
        · right; rw [h3, show min z a = a by omega]; exact List.mem_cons_self ..
      · exact .inr (List.mem_cons_of_mem _ h3)
theorem foldmax_ge : ∀ (r : List Int) (z : Int), z ≤ r.foldl max z ∧ (∀ x ∈ r, x ≤ r.foldl max z) ∧ (r.foldl max z = z ∨ r.foldl max z ∈ r)
  | [], z => ⟨Int.le_refl _, fun x h => (by cases h), .inl rfl⟩
  | a :: r, z => by
    obtain ⟨h1, h2, h3⟩ := foldmax_ge r (max z a)
    show z ≤ r.foldl max (max z a) ∧ _
    refine ⟨by omega, fun x hx => ?_, ?_⟩
    · rcases List.mem_cons.1 hx with rfl | hx
      · show x ≤ r.foldl max (max z x); omega
      · exact h2 x hx
    · show r.foldl max (max z a) = z ∨ r.foldl max (max z a) ∈ a :: r
      rcases h3 with h3 | h3
      · by_cases hza : a ≤ z
        · left; rw [h3]; omega
        · right; rw [h3, show max z a = a by omega]; exact List.mem_cons_self ..
      · exact .inr (List.mem_cons_of_mem _ h3)
theorem minL_two {zs : List Int} {a b : Int} (hab : a ≤ b) (h : ∀ z ∈ zs, z = a ∨ z = b) (ha : a ∈ zs) : minL zs = a := by
  cases zs with
  | nil => cases ha
  | cons z r =>
    obtain ⟨h1, h2, h3⟩ := foldmin_le r z
    show r.foldl min z = a
    have hle : r.foldl min z ≤ a := by
      rcases List.mem_cons.1 ha with rfl | ha
      · exact h1
      · exact h2 a ha
    have hge : a ≤ r.foldl min z := by
      have : r.foldl min z ∈ z :: r := by
        rcases h3 with h3 | h3
        · rw [h3]; exact List.mem_cons_self ..
        · exact List.mem_cons_of_mem _ h3
      rcases h _ this with h | h <;> omega
    omega
theorem maxL_two {zs : List Int} {a b : Int} (hab : a ≤ b) (h : ∀ z ∈ zs, z = a ∨ z = b) (hb : b ∈ zs) : maxL zs = b := by
  cases zs with
  | nil => cases hb
  | cons z r =>
    obtain ⟨h1, h2, h3⟩ := foldmax_ge r z
    show r.foldl max z = b
    have hge : b ≤ r.foldl max z := by
      rcases List.mem_cons.1 hb with rfl | hb
      · exact h1
      · exact h2 b hb
    have hle : r.foldl max z ≤ b := by
      have : r.foldl max z ∈ z :: r := by
        rcases h3 with h3 | h3
        · rw [h3]; exact List.mem_cons_self ..
        · exact List.mem_cons_of_mem _ h3
      rcases h _ this with h | h <;> omega
    omega
/-! ### runs times a unit -/
def zWide (u : Nat) (rs : List Nat) : List Int := zRuns (wideR u rs)
theorem zWide_len (u : Nat) (rs : List Nat) : (zWide u rs).length = rs.length := by unfold zWide wideR; rw [zRuns_len, List.length_map]
theorem zWide_at {u : Nat} {rs : List Nat} {i r : Nat} (h : rs[i]? = some r) : (zWide u rs)[i]? = some ((r * u : Nat) : Int) := by
  unfold zWide wideR zRuns
  rw [List.getElem?_map, List.getElem?_map, h]
  rfl
theorem zWide_mem {u : Nat} {rs : List Nat} {z : Int} : z ∈ zWide u rs ↔ ∃ r ∈ rs, z = ((r * u : Nat) : Int) := by
  unfold zWide wideR zRuns
  rw [List.map_map, List.mem_map]
  constructor
  · rintro ⟨r, h, rfl⟩; exact ⟨r, h, rfl⟩
  · rintro ⟨r, h, rfl⟩; exact ⟨r, h, rfl⟩
theorem zWide_take (u m : Nat) (rs : List Nat) : (zWide u rs).take m = zWide u (rs.take m) := by
  unfold zWide wideR zRuns
  rw [← List.map_take, ← List.map_take]
theorem zWide_drop (u m : Nat) (rs : List Nat) : (zWide u rs).drop m = zWide u (rs.drop m) := by
  unfold zWide wideR zRuns
  rw [← List.map_drop, ← List.map_drop]
theorem zRuns_append (a b : List Nat) : zRuns (a ++ b) = zRuns a ++ zRuns b := by unfold zRuns; rw [List.map_append]
theorem okTo_true {zs : List Int} (h : ∀ z ∈ zs, 1 ≤ z ∧ z ≤ 4000) : okTo zs zs.length = true := by
  unfold okTo
  rw [List.take_length]
  exact List.all_eq_true.2 fun z hz => decide_eq_true (h z hz)
theorem units_ok {zs : List Int} {kind : Int} (hk : kind = 1 ∨ kind = 2) (hl : lenB zs.length kind = true) (h : ∀ z ∈ zs, 1 ≤ z ∧ z ≤ 4000) : unitErr zs kind = 0 := by
  unfold unitErr
  rw [if_neg (by omega), if_neg (by rw [hl]; decide), if_neg (by rw [okTo_true h]; decide)]
theorem uM_expand {zs : List Int} {kind : Int} (h : unitErr zs kind = 0) : uM zs kind = expand 0 ((List.range zs.length).map (unitK zs kind (clipSum zs zs.length))) := by
  unfold uM
  rw [if_pos h, units_expand]
theorem ks_are {zs : List Int} {kind : Int} {s : Nat} {rs : List Nat} (hl : rs.length = zs.length) (h : ∀ i r, rs[i]? = some r → unitK zs kind s i = r) : (List.range zs.length).map (unitK zs kind s) = rs := by
  apply List.ext_getElem?
  intro i
  by_cases hi : i < zs.length
  · obtain ⟨r, hr⟩ : ∃ r, rs[i]? = some r := ⟨_, List.getElem?_eq_getElem (by omega)⟩
    rw [List.getElem?_map, List.getElem?_range hi, hr]
    exact congrArg some (h i r hr)
  · rw [List.getElem?_eq_none (by rw [List.length_map, List.length_range]; omega), List.getElem?_eq_none (by omega)]
theorem lenB_59 : lenB 59 1 = true := by decide
theorem lenB_tens {m : Nat} (h : 3 ≤ m) : lenB (10 * m - 1) 2 = true := by
  unfold lenB
  simp
  omega
/-! ### a code of letters -/
theorem units_39 {bs : List (List Nat)} {o : Nat} (ho : 1 ≤ o) (ho8 : o ≤ 8) (hb : ∀ b ∈ bs, GoodB b) (h3 : 3 ≤ bs.length) :
    unitErr (zWide o (joinR bs)) 2 = 0 ∧ uM (zWide o (joinR bs)) 2 = expand 0 (joinR bs) := by
  have hne : bs ≠ [] := by intro e; rw [e] at h3; simp at h3
  have hb9 : ∀ b ∈ bs, b.length = 9 := fun b h => (hb b h).1
  have hlen := joinR_len hne hb9
  have hok : ∀ z ∈ zWide o (joinR bs), 1 ≤ z ∧ z ≤ 4000 := by
    intro z hz
    obtain ⟨r, hr, rfl⟩ := zWide_mem.1 hz
    rcases joinR_pos hb r hr with rfl | rfl <;> omega
  have he : unitErr (zWide o (joinR bs)) 2 = 0 := units_ok (.inr rfl) (by rw [zWide_len, show (joinR bs).length = 10 * bs.length - 1 by omega]; exact lenB_tens h3) hok
  refine ⟨he, ?_⟩
  rw [uM_expand he, ks_are (zWide_len o (joinR bs)).symm]
  intro i r hi
  have hil := (List.getElem?_eq_some_iff.1 hi).1
  obtain ⟨j, t, hj, ht⟩ : ∃ j t, i = 10 * j + t ∧ t < 10 := ⟨i / 10, i % 10, by omega, by omega⟩
  have hjl : j < bs.length := by omega
  obtain ⟨b, hbj⟩ : ∃ b, bs[j]? = some b := ⟨_, List.getElem?_eq_getElem hjl⟩
  obtain ⟨hB1, hB2⟩ := joinR_at hb9 hbj
  have hgood := hb b (List.mem_of_getElem? hbj)
  unfold unitK
  rw [if_neg (by decide)]
  by_cases h9 : t = 9
  · rw [if_neg (by omega)]
    have := hB2 (by omega)
    rw [show 10 * j + 9 = i by omega, hi] at this
    exact (Option.some.inj this).symm
  · have hbt : b[t]? = some r := by
      rw [← hB1, List.getElem?_take_of_lt (by omega), List.getElem?_drop, ← hj]
      exact hi
    have hblk : blockOf (zWide o (joinR bs)) i = zWide o b := by
      unfold blockOf
      rw [show i / 10 * 10 = 10 * j by omega, zWide_drop, zWide_take, hB1]
    have hz : (zWide o (joinR bs)).getD i 0 = ((r * o : Nat) : Int) := by rw [List.getD_eq_getElem?_getD, zWide_at hi]; rfl
    have hm1 : minL (zWide o b) = (o : Int) := minL_two (a := (o : Int)) (b := ((3 * o : Nat) : Int)) (by omega) (fun z hz => by
      obtain ⟨q, hq, rfl⟩ := zWide_mem.1 hz
      rcases hgood.2.1 q hq with rfl | rfl
      · left; omega
      · right; rfl) (zWide_mem.2 ⟨1, hgood.2.2.1, by omega⟩)
    have hm2 : maxL (zWide o b) = ((3 * o : Nat) : Int) := maxL_two (a := (o : Int)) (b := ((3 * o : Nat) : Int)) (by omega) (fun z hz => by
      obtain ⟨q, hq, rfl⟩ := zWide_mem.1 hz
      rcases hgood.2.1 q hq with rfl | rfl
      · left; omega
      · right; rfl) (zWide_mem.2 ⟨3, hgood.2.2.2, rfl⟩)
    have hw : wideB ((zWide o (joinR bs)).getD i 0) (blockOf (zWide o (joinR bs)) i) = decide (r = 3) := by
      rw [hblk, hz]
      unfold wideB
      rw [hm1, hm2, decide_eq_decide]
      rcases hgood.2.1 r (List.mem_of_getElem? hbt) with rfl | rfl <;> omega
    rw [hw]
    rcases hgood.2.1 r (List.mem_of_getElem? hbt) with rfl | rfl
    · rw [if_neg (by simp)]
    · rw [if_pos ⟨by omega, by decide⟩]
/-! ### a code of 59 runs -/
theorem clip_sum {l : List Nat} (h : ∀ n ∈ l, 1 ≤ n ∧ n ≤ 4000) : ∀ k, k ≤ l.length → clipSum (zRuns l) k = (l.take k).sum
  | 0, _ => rfl
  | k + 1, hk => by
    obtain ⟨a, ha⟩ : ∃ a, l[k]? = some a := ⟨_, List.getElem?_eq_getElem (by omega)⟩
    have hz : (zRuns l)[k]? = some (a : Int) := by unfold zRuns; rw [List.getElem?_map, ha]; rfl
    have h1 := h a (List.mem_of_getElem? ha)
    rw [clipSum_succ hz, take_sum_succ ha, clip_sum h k (by omega)]
    unfold clip
    omega
theorem wide_sum (u : Nat) (l : List Nat) : (wideR u l).sum = l.sum * u := by
  unfold wideR
  induction l with
  | nil => simp
  | cons a l ih => rw [List.map_cons, List.sum_cons, ih, List.sum_cons, Nat.add_mul]
theorem units_ean {rs : List Nat} {u : Nat} (hu : 1 ≤ u) (hu8 : u ≤ 8) (hl : rs.length = 59) (hr : ∀ r ∈ rs, 1 ≤ r ∧ r ≤ 4) (hs : rs.sum = 95) :
    unitErr (zWide u rs) 1 = 0 ∧ uM (zWide u rs) 1 = expand 0 rs := by
  have hok : ∀ n ∈ wideR u rs, 1 ≤ n ∧ n ≤ 4000 := by
    intro n hn
    obtain ⟨r, hr', rfl⟩ := List.mem_map.1 hn
    have h1 := hr r hr'
    have h2 : 1 * 1 ≤ r * u := Nat.mul_le_mul h1.1 hu
    have h3 : r * u ≤ 4 * 8 := Nat.mul_le_mul h1.2 hu8
    omega
  have hok2 : ∀ z ∈ zWide u rs, 1 ≤ z ∧ z ≤ 4000 := by
    intro z hz
    obtain ⟨n, hn, rfl⟩ := List.mem_map.1 hz
    have := hok n hn
    omega
  have he : unitErr (zWide u rs) 1 = 0 := units_ok (.inl rfl) (by rw [zWide_len, hl]; exact lenB_59) hok2
  refine ⟨he, ?_⟩
  have hcs : clipSum (zWide u rs) (zWide u rs).length = 95 * u := by
    rw [zWide_len]
    have hwl : (wideR u rs).length = rs.length := List.length_map ..
    have h := clip_sum hok rs.length (by omega)
    rw [List.take_of_length_le (by omega), wide_sum, hs] at h
    exact h
  rw [uM_expand he, hcs, ks_are (zWide_len u rs).symm]
  intro i r hi
  have h1 := hr r (List.mem_of_getElem? hi)
  unfold unitK
  rw [if_pos rfl, List.getD_eq_getElem?_getD, zWide_at hi]
  show (min 4 (max 1 (roundI (((r * u : Nat) : Int) * 95) ((95 * u : Nat) : Int)))).toNat = r
  have hrd : roundI (((r * u : Nat) : Int) * 95) ((95 * u : Nat) : Int) = (r : Int) := by
    unfold roundI
    have e1 : ((95 * u : Nat) : Int) * (2 * (r : Int) + 1) = 2 * (((r * u : Nat) : Int) * 95) + ((95 * u : Nat) : Int) := by
      rw [Int.mul_add, Int.mul_one, Int.natCast_mul, Int.natCast_mul, Int.mul_assoc, Int.mul_left_comm (u : Int) 2 (r : Int), Int.mul_comm (u : Int) (r : Int)]
      obtain ⟨p, hp⟩ : ∃ p, p = (r : Int) * (u : Int) := ⟨_, rfl⟩
      rw [← hp]
      omega
    rw [← e1, Int.mul_comm 2 ((95 * u : Nat) : Int), Int.mul_ediv_mul_of_pos _ _ (by omega)]
    omega
  rw [hrd]
  omega
end Go.Proofs.YtkipcobpnecmhaaGreatDoor


/-! Which drawn runs are read as a code, and which are not, in plain lists. -/
namespace Go.Proofs.YtkipcobpnecmhaaGreatDoor
open Go.RowKit

/-! ### runs of letters are no code of 59 runs -/
theorem code_ends : ∀ d < 10, ((codeOf 76 d)[0]? = some 48 ∧ (codeOf 76 d)[6]? = some 49) ∧ ((codeOf 71 d)[0]? = some 48 ∧ (codeOf 71 d)[6]? = some 49) ∧ ((codeOf 82 d)[0]? = some 49 ∧ (codeOf 82 d)[6]? = some 48) := by decide +kernel
def ShapeE (m : List UInt8) : Prop := m.take 3 = endE ∧ m[3]? = some 48 ∧ m[9]? = some 49
theorem digs_parts {m d : List UInt8} (h : digsE m = some d) : headOK m = true ∧ ∃ ps, partsE m 12 = some ps := by
  unfold digsE at h
  by_cases hh : headOK m = true
  · rw [if_pos hh] at h
    cases hp : partsE m 12 with
    | none => rw [hp] at h; cases h
    | some ps => exact ⟨hh, ps, rfl⟩
  · rw [if_neg hh] at h; cases h
theorem head_parts {m : List UInt8} (h : headOK m = true) : m.length = 95 ∧ m.take 3 = endE ∧ m.drop 92 = endE := by
  unfold headOK at h
  simp only [Bool.and_eq_true, decide_eq_true_eq] at h
  exact ⟨h.1, h.2.1, h.2.2.2⟩
theorem shape_of {m d : List UInt8} (h : digsE m = some d) : ShapeE m := by
  obtain ⟨hh, ps, hp⟩ := digs_parts h
  obtain ⟨-, h3, -⟩ := head_parts hh
  have hl := parts_len hp
  obtain ⟨p, hp0⟩ : ∃ p, ps[0]? = some p := ⟨_, List.getElem?_eq_getElem (by omega)⟩
  obtain ⟨k, n⟩ := p
  obtain ⟨d, hd, hg, -, -, hk⟩ := dec_mem (parts_at hp 0 _ hp0)
  have hc := code_ends d hd
  have e : ∀ j, j < 7 → (gAt m 0)[j]? = m[3 + j]? := fun j hj => by
    unfold gAt
    rw [List.getElem?_take_of_lt hj, List.getElem?_drop]
    rfl
  have e0 := e 0 (by decide); have e6 := e 6 (by decide)
  rw [hg] at e0 e6
  rcases hk (by decide) with rfl | rfl
  · exact ⟨h3, e0.symm.trans hc.1.1, e6.symm.trans hc.1.2⟩
  · exact ⟨h3, e0.symm.trans hc.2.1.1, e6.symm.trans hc.2.1.2⟩
theorem shape_back {m d : List UInt8} (h : digsE m.reverse = some d) : ShapeE m := by
  obtain ⟨hh, ps, hp⟩ := digs_parts h
  obtain ⟨h95, -, h9⟩ := head_parts hh
  rw [List.length_reverse] at h95
  have h3 : m.take 3 = endE := by
    rw [List.drop_reverse, h95] at h9
    have := congrArg List.reverse h9
    rw [List.reverse_reverse] at this
    exact this
  have hl := parts_len hp
  obtain ⟨p, hp0⟩ : ∃ p, ps[11]? = some p := ⟨_, List.getElem?_eq_getElem (by omega)⟩
  obtain ⟨k, n⟩ := p
  obtain ⟨d, hd, hg, -, hk, -⟩ := dec_mem (parts_at hp 11 _ hp0)
  obtain rfl := hk (by decide)
  have hc := (code_ends d hd).2.2
  have e : ∀ j, j < 7 → (gAt m.reverse 11)[j]? = m[9 - j]? := fun j hj => by
    unfold gAt
    rw [List.getElem?_take_of_lt hj, List.getElem?_drop, show gFrom 11 = 85 from rfl, List.getElem?_reverse (by omega), h95]
    congr 1
    omega
  have e0 := e 0 (by decide); have e6 := e 6 (by decide)
  rw [hg] at e0 e6
  exact ⟨h3, e6.symm.trans hc.2, e0.symm.trans hc.1⟩
theorem either_shape {m : List UInt8} (h : (eitherG readE m).2 = 0) : ShapeE m := by
  have key : ∀ s : List UInt8, (readE s).2 = 0 → ∃ d, digsE s = some d := fun s hs => by
    cases hd : digsE s with
    | none => rw [read_none hd] at hs; cases hs
    | some d => exact ⟨d, rfl⟩
  unfold eitherG at h
  split at h
  · obtain ⟨d, hd⟩ := key _ h
    exact shape_back hd
  · obtain ⟨d, hd⟩ := key _ h
    exact shape_of hd
theorem units_alt {g : Nat → Nat} (h1 : ∀ i, 1 ≤ g i) (hs : ShapeE (expand 0 ((List.range 59).map g))) : g 0 = 1 ∧ g 1 = 1 ∧ g 2 = 1 ∧ ¬ ∀ i, i ≤ 9 → g i = 1 := by
  obtain ⟨a, b, c⟩ := hs
  have hr : (List.range 59).map g = g 0 :: g 1 :: g 2 :: g 3 :: g 4 :: g 5 :: g 6 :: g 7 :: g 8 :: g 9 :: ((List.range' 10 49).map g) := rfl
  obtain ⟨m, hm⟩ : ∃ m, m = expand 0 ((List.range 59).map g) := ⟨_, rfl⟩
  rw [← hm] at a b c
  have a1 : m[1]? = some 48 := by have := congrArg (·[1]?) a; simpa [endE] using this
  have a2 : m[2]? = some 49 := by have := congrArg (·[2]?) a; simpa [endE] using this
  rw [hr] at hm
  have g0 : g 0 = 1 := by
    have := h1 0
    rcases Nat.lt_or_ge 1 (g 0) with h | h
    · obtain ⟨k, hk⟩ : ∃ k, g 0 = k + 2 := ⟨g 0 - 2, by omega⟩
      rw [hk] at hm
      rw [hm] at a1
      have : (some 49 : Option UInt8) = some 48 := a1
      cases this
    · omega
  rw [g0] at hm
  have g1 : g 1 = 1 := by
    have := h1 1
    rcases Nat.lt_or_ge 1 (g 1) with h | h
    · obtain ⟨k, hk⟩ : ∃ k, g 1 = k + 2 := ⟨g 1 - 2, by omega⟩
      rw [hk] at hm
      rw [hm] at a2
      have : (some 48 : Option UInt8) = some 49 := a2
      cases this
    · omega
  rw [g1] at hm
  have g2 : g 2 = 1 := by
    have := h1 2
    rcases Nat.lt_or_ge 1 (g 2) with h | h
    · obtain ⟨k, hk⟩ : ∃ k, g 2 = k + 2 := ⟨g 2 - 2, by omega⟩
      rw [hk] at hm
      rw [hm] at b
      have : (some 49 : Option UInt8) = some 48 := b
      cases this
    · omega
  refine ⟨g0, g1, g2, fun hall => ?_⟩
  rw [g2, hall 3 (by decide), hall 4 (by decide), hall 5 (by decide), hall 6 (by decide), hall 7 (by decide), hall 8 (by decide), hall 9 (by decide)] at hm
  rw [hm] at c
  have : (some 48 : Option UInt8) = some 49 := c
  cases this
theorem round_mono {a b : Int} (s : Nat) (h : a ≤ b) : roundI a s ≤ roundI b s := by
  unfold roundI
  rcases Nat.eq_zero_or_pos s with rfl | hs
  · simp
  · exact Int.ediv_le_ediv (by omega) (by omega)
theorem no_ean {zs : List Int} {w : Nat} (hl : zs.length = 59) (hw : w < 3) (h : ∀ i, i ≤ 9 → zs.getD i 0 ≤ zs.getD w 0) : tryC zs 1 = none := by
  cases ht : tryC zs 1 with
  | none => rfl
  | some t =>
    exfalso
    have hu := tryC_len ht
    unfold tryC at ht
    rw [if_pos hu] at ht
    by_cases h0 : (rdK 1 (uM zs 1)).2 = 0
    · have h0' : (eitherG readE (uM zs 1)).2 = 0 := h0
      have hsh := either_shape h0'
      rw [uM_expand hu, hl] at hsh
      have hg := fun i => (unitK_in zs 1 (clipSum zs 59) i).1
      obtain ⟨g0, g1, g2, gn⟩ := units_alt hg hsh
      have gw : unitK zs 1 (clipSum zs 59) w = 1 := by
        have : w = 0 ∨ w = 1 ∨ w = 2 := by omega
        rcases this with rfl | rfl | rfl
        · exact g0
        · exact g1
        · exact g2
      refine gn fun i hi => ?_
      have h1 := hg i
      have hm := round_mono (clipSum zs 59) (show zs.getD i 0 * 95 ≤ zs.getD w 0 * 95 by have := h i hi; omega)
      unfold unitK at gw h1 ⊢
      rw [if_pos rfl] at gw h1 ⊢
      omega
    · rw [if_neg h0] at ht; cases ht
/-! ### what is read of letters -/
theorem runK_good : ∀ k < 44, GoodB (runK k) := by
  have h : ∀ k < 44, (runK k).length = 9 ∧ ((runK k).all fun r => r == 1 || r == 3) = true ∧ (runK k).contains 1 = true ∧ (runK k).contains 3 = true := by decide +kernel
  intro k hk
  obtain ⟨h1, h2, h3, h4⟩ := h k hk
  exact ⟨h1, fun r hr => by simpa using List.all_eq_true.1 h2 r hr, by simpa using h3, by simpa using h4⟩
theorem good_rev {b : List Nat} (h : GoodB b) : GoodB b.reverse := ⟨by rw [List.length_reverse]; exact h.1, fun r hr => h.2.1 r (List.mem_reverse.1 hr), List.mem_reverse.2 h.2.2.1, List.mem_reverse.2 h.2.2.2⟩
theorem outR_join {ks : List Nat} (hne : ks ≠ []) (hk : ∀ k ∈ ks, k < 44) : outR (joinC ks) = some (txt ks) := by
  rw [outR_made (joinC_made hk), decM_join hne hk]
  rfl
theorem star_only : ∀ k < 44, lets44.getD k 0 = 42 → k = 43 := by decide +kernel
theorem join_len {ks : List Nat} (hne : ks ≠ []) (hk : ∀ k ∈ ks, k < 44) : (joinC ks).length + 1 = 16 * ks.length := ((decM_iff _ _).1 (decM_join hne hk)).1
theorem rd_first {k : Nat} {ks : List Nat} (hk : ∀ x ∈ k :: ks, x < 44) (h : k ≠ 43) : rd39 (joinC (k :: ks)) = ([], 2) := by
  refine rd_shape (outR_join (by simp) hk) ?_
  cases hs : shpT (txt (k :: ks)) with
  | false => rfl
  | true =>
    exfalso
    unfold shpT at hs
    simp only [Bool.and_eq_true, beq_iff_eq] at hs
    exact h (star_only k (hk k (List.mem_cons_self ..)) hs.2.2.1)
theorem rd_last {k : Nat} {ks : List Nat} (hk : ∀ x ∈ ks ++ [k], x < 44) (h : k ≠ 43) : rd39 (joinC (ks ++ [k])) = ([], 2) := by
  refine rd_shape (outR_join (by simp) hk) ?_
  cases hs : shpT (txt (ks ++ [k])) with
  | false => rfl
  | true =>
    exfalso
    unfold shpT at hs
    simp only [Bool.and_eq_true, beq_iff_eq] at hs
    have h2 := hs.2.2.2.1
    rw [txt_add, List.length_append, List.getD_eq_getElem?_getD, List.getElem?_append_right (by simp)] at h2
    rw [show (txt ks).length + [lets44.getD k 0].length - 1 - (txt ks).length = 0 by simp] at h2
    exact h (star_only k (hk k (by simp)) h2)
/-- Backwards, a code that ends with a star begins with no star. -/
theorem rd_back_last (ks : List Nat) : rd39 (joinC (ks ++ [43])).reverse = ([], 2) := by
  have hA : ∃ A, joinC (ks ++ [43]) = A ++ modK 43 := by
    rcases List.eq_nil_or_concat ks with rfl | ⟨q, k, rfl⟩
    · exact ⟨[], rfl⟩
    · rw [joinC_Z, List.map_append]
      show ∃ A, joinZ (List.map modK (q.concat k) ++ [modK 43]) = A ++ modK 43
      rw [joinZ_append _ _ (by simp)]
      exact ⟨joinZ (List.map modK (q.concat k)) ++ [48], by rw [List.append_assoc]; rfl⟩
  rcases t39_cases (joinC (ks ++ [43])).reverse with ⟨T, hT1, hT2⟩ | ⟨-, h⟩
  · exfalso
    obtain ⟨A, hA⟩ := hA
    have hmd : madeOf (joinC (ks ++ [43])).reverse [48, 49] = true := by
      cases hx : madeOf (joinC (ks ++ [43])).reverse [48, 49] with
      | true => rfl
      | false => rw [outR_not hx] at hT1; cases hT1
    rw [outR_made hmd] at hT1
    obtain ⟨ls, hls, rfl⟩ := Option.map_eq_some_iff.1 hT1
    have hne := decM_ne hls
    obtain ⟨l, ls', rfl⟩ : ∃ l ls', ls = l :: ls' := by
      cases ls with
      | nil => exact absurd rfl hne
      | cons l ls' => exact ⟨l, ls', rfl⟩
    obtain ⟨-, hk, hg⟩ := (gR_iff _ _ _).1 (((decM_iff _ _).1 hls).2 0 l rfl)
    rw [hA, List.reverse_append, star_back] at hg
    have hg2 : (modK 25 ++ A.reverse).take 15 = modK l := hg
    rw [List.take_left' (modK_all 25 (by decide)).1] at hg2
    obtain rfl := modK_inj l hk 25 (by decide) hg2.symm
    unfold shpT at hT2
    simp only [Bool.and_eq_true, beq_iff_eq] at hT2
    have := hT2.2.2.1
    have h80 : (txt (25 :: ls')).getD 0 0 = 80 := rfl
    rw [h80] at this
    cases this
  · exact h
/-- Backwards, a code that begins with a star ends with no star. -/
theorem rd_back_first {ks : List Nat} (hne : ks ≠ []) (hk : ∀ k ∈ ks, k < 44) : rd39 (joinC (43 :: ks)).reverse = ([], 2) := by
  have hs : joinC (43 :: ks) = modK 43 ++ 48 :: joinC ks := by
    cases ks with
    | nil => exact absurd rfl hne
    | cons k ks => rfl
  rcases t39_cases (joinC (43 :: ks)).reverse with ⟨T, hT1, hT2⟩ | ⟨-, h⟩
  · exfalso
    have hmd : madeOf (joinC (43 :: ks)).reverse [48, 49] = true := by
      cases hx : madeOf (joinC (43 :: ks)).reverse [48, 49] with
      | true => rfl
      | false => rw [outR_not hx] at hT1; cases hT1
    rw [outR_made hmd] at hT1
    obtain ⟨ls, hls, rfl⟩ := Option.map_eq_some_iff.1 hT1
    obtain ⟨hl1, hl2⟩ := (decM_iff _ _).1 hls
    have hjl := join_len hne hk
    rw [List.length_reverse, hs, List.length_append, List.length_cons, (modK_all 43 (by decide)).1] at hl1
    have hn : ls.length = ks.length + 1 := by omega
    obtain ⟨l, hl⟩ : ∃ l, ls[ks.length]? = some l := ⟨_, List.getElem?_eq_getElem (by omega)⟩
    obtain ⟨-, hlk, hg⟩ := (gR_iff _ _ _).1 (hl2 ks.length l hl)
    have hd : (joinC (43 :: ks)).reverse.drop (16 * ks.length) = modK 25 := by
      rw [hs, List.reverse_append, List.reverse_cons, star_back]
      exact List.drop_left' (by rw [List.length_append, List.length_reverse]; exact hjl)
    rw [hd, List.take_of_length_le (by rw [(modK_all 25 (by decide)).1]; exact Nat.le_refl _)] at hg
    obtain rfl := modK_inj l hlk 25 (by decide) hg.symm
    unfold shpT at hT2
    simp only [Bool.and_eq_true, beq_iff_eq] at hT2
    have h2 := hT2.2.2.2.1
    rw [txt_len, hn, List.getD_eq_getElem?_getD] at h2
    unfold txt at h2
    rw [List.getElem?_map, show ks.length + 1 - 1 = ks.length by omega, hl] at h2
    exact absurd h2 (by decide)
  · exact h
end Go.Proofs.YtkipcobpnecmhaaGreatDoor


/-! bar.ReadRow: the codes of a row. -/
namespace Go.Proofs.YtkipcobpnecmhaaGreatDoor
open Go.RowKit Go.Shelf

theorem reads_drop {w : World} {ad : Addr} {zs : List Int} {i : Nat} (h : Reads w 1 (some ad) zs.length (intCells zs)) (hi : i ≤ zs.length) : Reads w 1 (some (ad.add i)) (zs.length - i) (intCells (zs.drop i)) := by
  have h1 := reads_sub (i := i) (m := zs.length - i) h (by omega)
  have e : (zs.drop i).take (zs.length - i) = zs.drop i := List.take_of_length_le (by rw [List.length_drop]; omega)
  rwa [e] at h1
theorem take_over {l : List Nat} {i : Nat} (h : l.length ≤ i) : (l.take i).sum = l.sum := by rw [List.take_of_length_le h]
theorem runs_zeroR {W H : Int} {an : Nat} {y : Int} (hz : runsErr (pageErr W H an) H y = 0) : ∃ Wn Hn yn : Nat, W = (Wn : Int) ∧ H = (Hn : Int) ∧ y = (yn : Int) ∧ an = Wn * Hn ∧ Wn ≤ 4000 ∧ Hn ≤ 4000 ∧ yn < Hn := by
  have h1 := firstNZ_zero hz _ (List.mem_cons_self ..)
  have h2 := firstNZ_zero hz (whenI (!inB y 0 (H - 1)) 13) (by simp)
  have hin : inB y 0 (H - 1) = true := by
    cases h : inB y 0 (H - 1)
    · rw [h] at h2; exact absurd h2 (by decide)
    · rfl
  rw [inB_true] at hin
  have hs : sizeErr W H = 0 := by
    unfold pageErr at h1
    by_cases h2 : sizeErr W H = 0
    · exact h2
    · rw [if_neg h2] at h1
      exact h1
  have hz2 := sizeErr_zero hs
  unfold pageErr at h1
  rw [if_pos hs] at h1
  have han : (an : Int) = W * H := by
    by_cases h : (an : Int) = W * H
    · exact h
    · rw [if_neg h] at h1; exact absurd h1 (by decide)
  obtain ⟨Wn, rfl⟩ := Int.eq_ofNat_of_zero_le (show 0 ≤ W by omega)
  obtain ⟨Hn, rfl⟩ := Int.eq_ofNat_of_zero_le (show 0 ≤ H by omega)
  obtain ⟨yn, rfl⟩ := Int.eq_ofNat_of_zero_le hin.1
  exact ⟨Wn, Hn, yn, rfl, rfl, rfl, by exact_mod_cast han, by omega, by omega, by omega⟩
def ReadRowRes (W H : Int) (an : Nat) (bs : List Bool) (y : Int) (w : World) (e : Ending) (w' : World) : Prop := ∃ R m d err, e = .returned (.tuple #[.slice R m d, .int .i64 err]) ∧ err = runsErr (pageErr W H an) H y ∧ (err ≠ 0 → R = none ∧ m = 0) ∧
    (err = 0 → m = (rowC (zRuns (runsL (fun x => pix bs W.toNat x y.toNat) W.toNat)) y).length ∧ Reads w' 6 R m (cdCells (rowC (zRuns (runsL (fun x => pix bs W.toNat x y.toNat) W.toNat)) y))) ∧ Bl w w'
theorem readRow_bad {W H : Int} {an : Nat} {bs : List Bool} {y : Int} {w w' : World} {err : Int} (h : err = runsErr (pageErr W H an) H y) (hz : err ≠ 0) (hb : Bl w w') : ReadRowRes W H an bs y w (.returned (.tuple #[.slice none 0 0, .int .i64 err])) w' :=
  ⟨none, 0, 0, err, rfl, h, fun _ => ⟨rfl, rfl⟩, fun h => absurd h hz, hb⟩

set_option maxRecDepth 100000 in
set_option maxHeartbeats 8000000 in
theorem readRow_any (W H : Int) (A : Option Addr) (an ac : Nat) (bs : List Bool) (y : Int) (w : World) (hA : Reads w 1 A an (bs.map .bool)) (hac : an ≤ ac) (hT : SpOk w) :
    Calls Tryz.prog 15 #[.agg #[.int .i64 W, .int .i64 H, .slice A an ac], .int .i64 y] w (ReadRowRes W H an bs y w) := by
  let w2 := (w).alloc (.cells #[.int .i64 W, .int .i64 H, .slice A an ac] 28)
  have w2b : Bl w w2 := (Bl.refl w).alloc _
  have w21 : Blk w2 (w.heap.size) 28 #[.int .i64 W, .int .i64 H, .slice A an ac] := by
    have h0 := Blk.new (w) 28 #[.int .i64 W, .int .i64 H, .slice A an ac]
    exact h0
  have HT := Lib.hid (hT.bl w2b)
  have hru := runs_any W H A an ac bs y w2 (hA.bl w2b) hac
  unfold RunsRes at hru
  obtain ⟨E, hE⟩ : ∃ E, E = runsErr (pageErr W H an) H y := ⟨_, rfl⟩
  rw [← hE] at hru
  have Hru := Lib.hid hru
  have HE := Lib.hid hE
  have k1 := w21.all3
  clear hA hT hru hE
  go_enter Tryz.func15, Tryz.ntmps15
  go_wp2_with fail
  refine Hru.out.mono ?_
  rintro e w3 ⟨R, m, d, E', rfl, rfl, hbad, hok, hb3'⟩
  rename Int => E
  have hb3 : Bl w2 w3 := hb3'
  clear hb3' Hru k1
  clear_value w2
  have HW3 := Lib.hid (w2b.trans hb3)
  by_cases hz : E = 0
  case neg =>
    have hq : (E != 0) = true := by simp [hz]
    have HZ := Lib.hid hz
    clear hz hbad hok
    go_wp2_with fail
    exact bodyPost_ret (v := .tuple #[.slice none 0 0, .int .i64 E]) (by simp [results, Tryz.results15, go_sem]) rfl (readRow_bad HE.out HZ.out HW3.out)
  case pos =>
    obtain ⟨Wn, Hn, yn, rfl, rfl, rfl, rfl, hW4, hH4, hy⟩ := runs_zeroR (HE.out.symm.trans hz)
    obtain ⟨hm2, hrd, hd⟩ := hok hz
    subst hz
    simp only [Int.toNat_natCast] at hm2 hrd
    obtain ⟨l, hl⟩ : ∃ l, l = runsL (fun x => pix bs Wn x yn) Wn := ⟨_, rfl⟩
    have hls : l.sum ≤ 4000 := by rw [hl, runsL_sum]; exact hW4
    have hll : l.length ≤ 4001 := by
      rw [hl]
      unfold runsL
      have := (runsTo_le (fun x => pix bs Wn x yn) Wn).1
      rw [List.length_append, List.length_singleton]
      omega
    have hl0 : 0 < l.length := by rw [hl]; unfold runsL; simp
    rw [← hl] at hm2 hrd
    obtain ⟨n, hn⟩ : ∃ n, n = l.length := ⟨_, rfl⟩
    rw [← hn] at hll hl0 hm2
    subst hm2
    obtain ⟨ad, rfl, -⟩ := hrd.2 hl0
    obtain ⟨zs, hzs⟩ : ∃ zs, zs = zRuns l := ⟨_, rfl⟩
    have HZl := Lib.hid (show zs.length = m by rw [hzs, zRuns_len, ← hn])
    have HRz := Lib.hid (show Reads w3 1 (some ad) zs.length (intCells zs) by rw [HZl.out, hzs, zRuns_cells]; exact hrd)
    have HSum := Lib.hid (show ∀ k, sumI zs k = (((l.take k).sum : Nat) : Int) ∧ (l.take k).sum ≤ 4000 from fun k => ⟨by rw [hzs]; exact sumI_nat l k, by have := take_sum_le l k; omega⟩)
    have HFin := Lib.hid (fun (cs : List Cd) (h : cs = rowC zs yn) => show cs = rowC (zRuns (runsL (fun x => pix bs ((Wn : Int)).toNat x ((yn : Int)).toNat) ((Wn : Int)).toNat)) (yn : Int) by
      simp only [Int.toNat_natCast]
      rw [← hl, ← hzs]
      exact h)
    have HN := Lib.hid hn; have HD := Lib.hid hd
    have HCell := Lib.hid (fun (i a : Nat) (hi : l[i]? = some a) (wx : World) (hx : Bl w3 wx) => show wx.cell? (ad.add i) = some (.int .i64 a) by
      obtain ⟨ad', e', hc⟩ := (hrd.bl hx).2 hl0
      injection e' with e'
      subst e'
      exact hc i _ (by unfold natCells; rw [List.getElem?_map, hi]; rfl))
    have HT3 := Lib.hid (HT.out.bl hb3)
    obtain ⟨a0, ha0⟩ : ∃ a, l[0]? = some a := ⟨_, List.getElem?_eq_getElem (by rw [← hn]; exact hl0)⟩
    have hc0 := HCell.out 0 a0 ha0 w3 (Bl.refl _)
    have hs1 : (l.take 1).sum = a0 := by rw [take_sum_succ ha0]; simp
    have HS1 := Lib.hid hs1
    rw [show ad.add 0 = ad by unfold Addr.add; simp] at hc0
    clear hs1 ha0 hn hd hzs hrd hl hok hbad hls HT
    go_wp2_with fail
    go_loopw [8, 9, 10] (fun s8 s9 s10 wr => ∃ (i : Nat) (out : List Cd), 1 ≤ i ∧ i ≤ m + 2 ∧ s10 = .int .i64 i ∧ s9 = .int .i64 (((l.take i).sum : Nat) : Int) ∧ Bl w3 wr ∧ Hid (RowC wr w3.heap.size s8 out) ∧ Hid (out ++ rowAt zs yn i = rowC zs yn ∧ out.length * 30 ≤ i)) (fun _ _ s10 _ => 5000 - (intOf s10).toNat)
    case atStart => exact ⟨1, [], by decide, by omega, rfl, by rw [HS1.out], Bl.refl _, Lib.hid (RowC.nil _ _), Lib.hid ⟨rowAt_one zs yn, by decide⟩⟩
    case round =>
      rename World => wr
      clear hc0
      obtain ⟨i, out, hi1, hin, rfl, rfl, hbr, HRow, HOut⟩ := hrel
      obtain ⟨u, hu⟩ : ∃ u, u = (l.take i).sum := ⟨_, rfl⟩
      have hu4 : u ≤ 4000 := by have := (HSum.out i).2; omega
      have HU := Lib.hid hu
      rw [← hu]
      clear hu
      by_cases hlt : i < m
      · have hlti : (i : Int) < (m : Int) := by omega
        have hdl : (zs.drop i).length = m - i := by rw [List.length_drop, HZl.out]
        have hca := codeAt_any (zs.drop i) (some (ad.add i)) (d - i) wr (by rw [hdl]; have h := reads_drop (HRz.out.bl hbr) (show i ≤ zs.length by rw [HZl.out]; omega); rw [HZl.out] at h; exact h) (by omega) (by have := HD.out; omega) (HT3.out.bl hbr)
        rw [hdl] at hca
        have Hca := Lib.hid hca
        have HDl := Lib.hid hdl
        have hdm := HD.out
        clear hca hdl
        go_wp2_with fail
        refine Hca.out.mono ?_
        rintro e w4 hres
        have hP : ∃ kd t many, e = .returned (.tuple #[.agg #[.int .i64 kd, .string ⟨t.toArray⟩, .int .i64 0, .int .i64 0, .int .i64 0, .int .i64 0], .int .i64 ((many : Nat) : Int)]) ∧ (codeP (zs.drop i) = some (kd, t, many) ∨ (many = 0 ∧ codeP (zs.drop i) = none)) ∧ Bl wr w4 := by
          rcases hres with ⟨kd, t, many, hc, he, hb⟩ | ⟨hc, he, hb⟩
          · exact ⟨kd, t, many, he, .inl hc, hb⟩
          · exact ⟨0, [], 0, he, .inr ⟨rfl, hc⟩, hb⟩
        obtain ⟨kd, t, many, rfl, hP, hb4⟩ := hP
        clear hres Hca hdm
        have HP := Lib.hid hP
        clear hP
        go_upto_region 9 with fail
        obtain ⟨w5, hw5⟩ : ∃ x, x = w4.alloc (.cells #[.int .i64 kd, .string ⟨t.toArray⟩, .int .i64 0, .int .i64 0, .int .i64 0, .int .i64 0] 39) := ⟨_, rfl⟩
        obtain ⟨gc, hgc⟩ : ∃ x, x = w4.heap.size := ⟨_, rfl⟩
        have bC : Blk w5 gc 39 #[.int .i64 kd, .string ⟨t.toArray⟩, .int .i64 0, .int .i64 0, .int .i64 0, .int .i64 0] := by rw [hw5, hgc]; exact Blk.new _ _ _
        have hb45 : Bl w4 w5 := by rw [hw5]; exact (Bl.refl _).alloc _
        have hgc4 : w4.heap.size ≤ gc := by omega
        have hb3_4 := hbr.trans hb4
        have HR4 := Lib.hid (HRow.out.bl hb4)
        rw [← hw5, ← hgc]
        clear hw5 hgc
        go_upto_if 41 with fail
        go_cut [8, 13, 15] from 41 to 69 (fun s8 s13 s15 wc => ∃ (out2 : List Cd) (st : Nat), s13 = .int .i64 st ∧ 2 ≤ st ∧ i + st ≤ m + 2 ∧ Bl w3 wc ∧ Hid (RowC wc w3.heap.size s8 out2) ∧ Hid (out2 ++ rowAt zs yn (i + st) = rowC zs yn ∧ out2.length * 30 ≤ i + st))
        case first =>
          rcases HP.out with hc | ⟨rfl, hc⟩
          · obtain ⟨hk12, hmn29, hmnl⟩ := codeP_many hc
            rw [HDl.out] at hmnl
            have hm0 : (0 : Int) < (many : Int) := by omega
            have cc := bC.all6'
            have HC := Lib.hid hc
            clear hc HP
            go_upto_region 12 with fail
            obtain ⟨w6, hw6⟩ : ∃ x, x = ((w5.setCell ⟨gc, 2, none⟩ (.int .i64 u)).setCell ⟨gc, 3, none⟩ (.int .i64 yn)).setCell ⟨gc, 5, none⟩ (.int .i64 1) := ⟨_, rfl⟩
            have bC6 : Blk w6 gc 39 #[.int .i64 kd, .string ⟨t.toArray⟩, .int .i64 u, .int .i64 yn, .int .i64 0, .int .i64 1] := by rw [hw6]; exact ((bC.set_ 2 _).set_ 3 _).set_ 5 _
            have hb46 : Bl w4 w6 := by rw [hw6]; exact ((hb45.setCell hgc4 _).setCell hgc4 _).setCell hgc4 _
            rw [← hw6]
            have HBC := Lib.hid bC6
            clear hw6 bC cc bC6
            have hd2 := HD.out
            go_wp2_with fail
            go_loopw [54] (fun s54 wx => ∃ j : Nat, j ≤ many ∧ s54 = .int .i64 j ∧ Bl w4 wx ∧ Blk wx gc 39 #[.int .i64 kd, .string ⟨t.toArray⟩, .int .i64 u, .int .i64 yn, .int .i64 ((((l.take (i + j)).sum : Nat) : Int) - (u : Int)), .int .i64 1]) (fun s54 _ => many - (intOf s54).toNat)
            case atStart => exact ⟨0, Nat.zero_le _, rfl, hb46, by rw [Nat.add_zero, ← HU.out, Int.sub_self]; exact HBC.out⟩
            case round =>
              rename World => wx
              obtain ⟨j, hj, rfl, hbx, hbC⟩ := hrel
              have cc := hbC.all6'
              have hb3x := hb3_4.trans hbx
              by_cases hjl : j < many
              · obtain ⟨a, ha⟩ : ∃ a, l[i + j]? = some a := ⟨_, List.getElem?_eq_getElem (by rw [← HN.out]; omega)⟩
                have hcj := HCell.out (i + j) a ha wx hb3x
                rw [← add_of_add] at hcj
                have hss := take_sum_succ ha
                have hs1 := (HSum.out (i + j)).2
                have hs2 := (HSum.out (i + j + 1)).2
                obtain ⟨s, hs⟩ : ∃ s, s = (l.take (i + j)).sum := ⟨_, rfl⟩
                rw [← hs] at hss hs1 cc hbC
                have HSs := Lib.hid hss
                have hset := hbC.set_ 4 (.int .i64 ((s : Int) - (u : Int) + (a : Int)))
                have HSet := Lib.hid (show Blk (wx.setCell ⟨gc, 4, none⟩ (.int .i64 ((s : Int) - (u : Int) + (a : Int)))) gc 39 #[.int .i64 kd, .string ⟨t.toArray⟩, .int .i64 u, .int .i64 yn, .int .i64 ((((l.take (i + (j + 1))).sum : Nat) : Int) - (u : Int)), .int .i64 1] by
                  rw [show i + (j + 1) = i + j + 1 by omega, HSs.out, show (((s + a : Nat) : Int) - (u : Int)) = (s : Int) - (u : Int) + (a : Int) by omega]
                  exact hset)
                have hjlt : (j : Int) < (many : Int) := by omega
                have ha4 : a ≤ 4000 := by omega
                clear hs hss hset ha hbC
                go_wp2_with fail
                exact ⟨⟨j + 1, hjl, by go_num, hbx.setCell hgc4 _, HSet.out⟩, by simp [intOf] <;> omega⟩
              · obtain rfl : many = j := by omega
                have hjlt : ¬ (many : Int) < (many : Int) := by omega
                obtain ⟨v, hv⟩ : ∃ v, v = (l.take (i + many)).sum := ⟨_, rfl⟩
                rw [← hv] at cc hbC
                have HNew := Lib.hid (show (out ++ [⟨kd, t, u, yn, (v : Int) - u, 1⟩]) ++ rowAt zs yn (i + (many + 1)) = rowC zs yn by
                  rw [List.append_assoc, ← HOut.out.1, rowAt_code (by rw [HZl.out]; exact hlt) HC.out, (HSum.out i).1, (HSum.out (i + many)).1, ← HU.out, ← hv]
                  rfl)
                have ho := HOut.out.2
                have HRx := Lib.hid (HR4.out.bl hbx)
                clear hv hbC
                go_wp2_with (at_builtin; refine wpList_append_bl (w1 := w3) rfl (.tmp 64) (.tmp 66) 35 rfl 39 (.agg #[.int .i64 0, .string ⟨#[]⟩, .int .i64 0, .int .i64 0, .int .i64 0, .int .i64 0]) 6 56 Tryz.underlying35 info_code rfl (by omega) w3.heap.size _ out.length (cdCells out) rfl (hb3x.alloc _) (Nat.le_refl _) ((hb3x.alloc _).le) (own_bl HRx.out.1 ((Bl.refl wx).alloc _)) (some ⟨wx.heap.size, 0, none⟩) 1 1 (Cd.cells ⟨kd, t, u, yn, (v : Int) - u, 1⟩) rfl ((Blk.new _ _ _).reads 1 6 rfl) (code_one _) (by unfold maxLen; omega) (by omega) ?_; intro v' w8 hown8 hb8 hg8; have HOw8 := Lib.hid hown8)
                have HR8 := Lib.hid (show RowC w8 w3.heap.size v' (out ++ [⟨kd, t, u, yn, (v : Int) - u, 1⟩]) from ⟨by
                  rw [cdCells_append, List.length_append]
                  simpa [cdCells] using HOw8.out, fun e => by simp at e⟩)
                have HB8 := Lib.hid hb8
                clear hown8 hb8 hg8 HOw8 cc
                go_wp2_with fail
                go_meet
                case rel => exact ⟨_, many + 1, by go_num, by omega, by omega, HB8.out, HR8, Lib.hid ⟨HNew.out, by simp; omega⟩⟩
          · have HC := Lib.hid hc
            clear hc HP
            go_wp2_with fail
            go_meet
            case rel => exact ⟨out, 2, rfl, by omega, by omega, hb3_4.trans hb45, Lib.hid (HR4.out.bl hb45), Lib.hid ⟨by rw [← rowAt_none (by rw [HZl.out]; exact hlt) HC.out]; exact HOut.out.1, by have := HOut.out.2; omega⟩⟩
        case rest =>
          obtain ⟨out2, st, rfl, h2st, hst, hbc, HRow2, HOut2⟩ := hcut
          rename World => w7
          clear bC hb45 HP
          have HCc := Lib.hid hbc
          clear hbc
          have hst4 : st ≤ 5000 := by omega
          go_wp2_with fail
          go_loopw [9, 16] (fun s9 s16 wx => ∃ k : Nat, i ≤ k ∧ k ≤ i + st ∧ k ≤ max i m ∧ s16 = .int .i64 k ∧ s9 = .int .i64 (((l.take k).sum : Nat) : Int) ∧ w7 = wx) (fun _ s16 _ => 10000 - (intOf s16).toNat)
          case atStart => exact ⟨i, Nat.le_refl _, by omega, by omega, rfl, by rw [HU.out], rfl⟩
          case round =>
            obtain ⟨k, hik, hks, hkm, rfl, rfl, rfl⟩ := hrel
            by_cases hq : i + st ≤ m
            · have q1 : ¬ (m : Int) < (i : Int) + (st : Int) := by omega
              by_cases hk : k < i + st
              · have q2 : (k : Int) < (i : Int) + (st : Int) := by omega
                obtain ⟨a, ha⟩ : ∃ a, l[k]? = some a := ⟨_, List.getElem?_eq_getElem (by rw [← HN.out]; omega)⟩
                have hcj := HCell.out k a ha w7 HCc.out
                have hss := take_sum_succ ha
                have hs1 := (HSum.out k).2
                have hs2 := (HSum.out (k + 1)).2
                have hkm1 : (k : Int) < (m : Int) := by omega
                obtain ⟨s, hs⟩ : ∃ s, s = (l.take k).sum := ⟨_, rfl⟩
                rw [← hs] at hss hs1 ⊢
                have ha4 : a ≤ 4000 := by omega
                have HSs := Lib.hid hss
                clear hs hss ha
                go_wp2_with fail
                exact ⟨⟨k + 1, by omega, by omega, by omega, by go_num, by rw [HSs.out]; go_num, by first | rfl | trivial⟩, by simp [intOf] <;> omega⟩
              · obtain rfl : k = i + st := by omega
                have q2 : ¬ ((i + st : Nat) : Int) < (i : Int) + (st : Int) := by omega
                go_wp2_with fail
                exact ⟨⟨i + st, out2, by omega, hst, by go_num, rfl, HCc.out, HRow2, HOut2⟩, by simp [intOf] <;> omega⟩
            · have q1 : (m : Int) < (i : Int) + (st : Int) := by omega
              by_cases hk : k < m
              · have q2 : (k : Int) < (m : Int) := by omega
                obtain ⟨a, ha⟩ : ∃ a, l[k]? = some a := ⟨_, List.getElem?_eq_getElem (by rw [← HN.out]; omega)⟩
                have hcj := HCell.out k a ha w7 HCc.out
                have hss := take_sum_succ ha
                have hs1 := (HSum.out k).2
                have hs2 := (HSum.out (k + 1)).2
                have hkm1 : (k : Int) < (m : Int) := by omega
                obtain ⟨s, hs⟩ : ∃ s, s = (l.take k).sum := ⟨_, rfl⟩
                rw [← hs] at hss hs1 ⊢
                have ha4 : a ≤ 4000 := by omega
                have HSs := Lib.hid hss
                clear hs hss ha
                go_wp2_with fail
                exact ⟨⟨k + 1, by omega, by omega, by omega, by go_num, by rw [HSs.out]; go_num, by first | rfl | trivial⟩, by simp [intOf] <;> omega⟩
              · obtain rfl : k = m := by omega
                have HOv := Lib.hid (show (l.take k).sum = (l.take (i + st)).sum by rw [take_over (show l.length ≤ k by rw [← HN.out]; exact Nat.le_refl _), take_over (show l.length ≤ i + st by rw [← HN.out]; omega)])
                have q2 : ¬ (k : Int) < (k : Int) := by omega
                go_wp2_with fail
                exact ⟨⟨i + st, out2, by omega, hst, by go_num, by rw [HOv.out], HCc.out, HRow2, HOut2⟩, by simp [intOf] <;> omega⟩
      · obtain ⟨A', c', rfl, hrd⟩ := own_reads HRow.out.1
        have hout : out = rowC zs yn := by
          have h := HOut.out.1
          rw [rowAt_end (by rw [HZl.out]; omega), List.append_nil] at h
          exact h
        have HRd := Lib.hid hrd
        have HO := Lib.hid hout
        clear hrd hout
        have hlti : ¬ (i : Int) < (m : Int) := by omega
        go_wp2_with fail
        refine bodyPost_ret (v := .tuple #[.slice A' out.length c', .int .i64 0]) (by simp [results, Tryz.results15, go_sem]) rfl ⟨A', _, c', 0, rfl, HE.out, fun h => absurd rfl h, fun _ => ?_, HW3.out.trans hbr⟩
        rw [← HFin.out out HO.out]
        exact ⟨rfl, HRd.out⟩
end Go.Proofs.YtkipcobpnecmhaaGreatDoor


/-! Codes of rows: how many, and that they are right. -/
namespace Go.Proofs.YtkipcobpnecmhaaGreatDoor
open Go.RowKit

theorem rowFrom_len (zs : List Int) (y : Int) : ∀ k i, i ≤ zs.length + 1 → (rowFrom zs y k i).length * 30 ≤ zs.length + 1 - i
  | 0, _, _ => Nat.zero_le _
  | k + 1, i, h => by
    show (if i < zs.length then _ else _ : List Cd).length * 30 ≤ _
    by_cases hi : i < zs.length
    · rw [if_pos hi]
      cases hc : codeP (zs.drop i) with
      | none =>
        simp only
        have := rowFrom_len zs y k (i + 2)
        by_cases h2 : i + 2 ≤ zs.length + 1
        · have := this h2; omega
        · have e : rowFrom zs y k (i + 2) = [] := by
            cases k with
            | zero => rfl
            | succ k => show (if _ then _ else _) = []; rw [if_neg (by omega)]
          rw [e]; exact Nat.zero_le _
      | some x =>
        obtain ⟨kd, t, many⟩ := x
        obtain ⟨-, h29, hm⟩ := codeP_many hc
        rw [List.length_drop] at hm
        have := rowFrom_len zs y k (i + many + 1) (by omega)
        simp only [List.length_cons]
        omega
    · rw [if_neg hi]; exact Nat.zero_le _
theorem rowC_len2 (zs : List Int) (y : Int) : (rowC zs y).length * 30 ≤ zs.length := by
  have := rowFrom_len zs y zs.length 1 (by omega)
  unfold rowC
  omega
/-! ### what a text of a code may be long -/
theorem out_len : ∀ {ps : List (UInt8 × List UInt8)}, (∀ p ∈ ps, p.2.length = 1) → (outOf ps).length = ps.length
  | [], _ => rfl
  | p :: ps, h => by
    unfold outOf
    rw [List.flatMap_cons, List.length_append, h p (List.mem_cons_self ..), List.length_cons]
    have := out_len (ps := ps) fun q hq => h q (List.mem_cons_of_mem _ hq)
    unfold outOf at this
    omega
theorem digs_len {m d : List UInt8} (h : digsE m = some d) : d.length = 13 := by
  unfold digsE at h
  by_cases hh : headOK m = true
  · rw [if_pos hh] at h
    cases hp : partsE m 12 with
    | none => rw [hp] at h; cases h
    | some ps =>
      rw [hp] at h
      obtain ⟨f, -, rfl⟩ := Option.map_eq_some_iff.1 h
      rw [List.length_cons, out_len, parts_len hp]
      intro p hpm
      obtain ⟨i, hi⟩ := List.getElem?_of_mem hpm
      obtain ⟨d, -, -, hn, -⟩ := dec_mem (k := p.1) (n := p.2) (parts_at hp i p hi)
      rw [hn]; rfl
  · rw [if_neg hh] at h; cases h
theorem readE_len (m : List UInt8) : (readE m).1.length ≤ 13 := by
  unfold readE
  cases h : digsE m with
  | none => exact Nat.zero_le _
  | some d =>
    simp only
    have := digs_len h
    split
    · show d.length ≤ 13; omega
    · exact Nat.zero_le _
theorem rd39_len (m : List UInt8) : (rd39 m).1.length ≤ 43 := by
  rcases t39_cases m with ⟨T, hT1, hT2⟩ | ⟨-, h⟩
  · have h43 := (shp_len hT2).2
    rw [rd_some hT1 hT2]
    split
    · show (bodyT T).length ≤ 43
      unfold bodyT
      rw [List.length_take, List.length_drop]
      omega
    · exact Nat.zero_le _
  · rw [h]; exact Nat.zero_le _
theorem rdK_len (kind : Int) (m : List UInt8) : (rdK kind m).1.length ≤ 43 := by
  unfold rdK eitherG
  have h1 := readE_len m; have h2 := readE_len m.reverse
  have h3 := rd39_len m; have h4 := rd39_len m.reverse
  split
  · split <;> omega
  · split <;> omega
theorem tryC_text {zs : List Int} {kind : Int} {t : List UInt8} (h : tryC zs kind = some t) : t.length ≤ 43 := by
  unfold tryC at h
  split at h
  · split at h
    · rw [← Option.some.inj h]; exact rdK_len _ _
    · cases h
  · cases h
theorem codeP_text {zs : List Int} {kd : Int} {t : List UInt8} {many : Nat} (h : codeP zs = some (kd, t, many)) : t.length ≤ 43 := by
  cases he : hitE zs with
  | some t' =>
    rw [codeP_ean he] at h
    obtain ⟨rfl, h2⟩ := Prod.mk.inj (Option.some.inj h)
    obtain ⟨rfl, rfl⟩ := Prod.mk.inj h2
    unfold hitE at he
    split at he
    · exact tryC_text he
    · cases he
  | none =>
    cases hf : from39 zs 3 with
    | none => rw [codeP_none he hf] at h; cases h
    | some x =>
      obtain ⟨m, t'⟩ := x
      rw [codeP_39 he hf] at h
      obtain ⟨rfl, h2⟩ := Prod.mk.inj (Option.some.inj h)
      obtain ⟨rfl, rfl⟩ := Prod.mk.inj h2
      exact tryC_text (find39_in hf).2.2
theorem rowFrom_ok {zs : List Int} {y : Int} (hs : ∀ i j, i ≤ j → 0 ≤ sumI zs i ∧ sumI zs i ≤ sumI zs j ∧ sumI zs j ≤ 4000) (hy : 0 ≤ y ∧ y ≤ 4000) : ∀ k i, ∀ c ∈ rowFrom zs y k i, cdErr c = 0 ∧ c.t.length ≤ 43
  | 0, _, c, h => by cases h
  | k + 1, i, c, h => by
    have h : c ∈ (if i < zs.length then (match codeP (zs.drop i) with
      | some (kd, t, many) => ⟨kd, t, sumI zs i, y, sumI zs (i + many) - sumI zs i, 1⟩ :: rowFrom zs y k (i + many + 1)
      | none => rowFrom zs y k (i + 2)) else [] : List Cd) := h
    by_cases hi : i < zs.length
    · rw [if_pos hi] at h
      cases hc : codeP (zs.drop i) with
      | none => rw [hc] at h; exact rowFrom_ok hs hy k (i + 2) c h
      | some x =>
        obtain ⟨kd, t, many⟩ := x
        rw [hc] at h
        rcases List.mem_cons.1 h with rfl | h
        · obtain ⟨hk, -, -⟩ := codeP_many hc
          have h1 := hs i (i + many) (by omega)
          have h0 := hs 0 i (by omega)
          refine ⟨?_, codeP_text hc⟩
          unfold cdErr
          rw [if_neg (by show ¬ (kd ≠ 1 ∧ kd ≠ 2); omega)]
          have : cdRange ⟨kd, t, sumI zs i, y, sumI zs (i + many) - sumI zs i, 1⟩ = true := by
            unfold cdRange
            simp only [Bool.and_eq_true]
            exact ⟨inB_true.2 (by omega), inB_true.2 hy, inB_true.2 (by omega), inB_true.2 (by omega)⟩
          rw [this]
          rfl
        · exact rowFrom_ok hs hy k (i + many + 1) c h
    · rw [if_neg hi] at h; cases h
theorem rowC_ok {l : List Nat} {y : Int} (hl : l.sum ≤ 4000) (hy : 0 ≤ y ∧ y ≤ 4000) : ∀ c ∈ rowC (zRuns l) y, cdErr c = 0 ∧ c.t.length ≤ 43 := by
  refine rowFrom_ok (fun i j hij => ?_) hy _ _
  rw [sumI_nat, sumI_nat]
  have h1 := take_sum_le l j
  have h2 : (l.take i).sum ≤ (l.take j).sum := by
    have := take_sum_le (l.take j) i
    rwa [List.take_take, Nat.min_eq_left hij] at this
  omega
/-! ### the codes of some rows -/
def rowAtY (bs : List Bool) (W y : Nat) : List Cd := rowC (zRuns (runsL (fun x => pix bs W x y) W)) (y : Int)
def codesTo (bs : List Bool) (W step : Nat) : Nat → List Cd
  | 0 => []
  | j + 1 => codesTo bs W step j ++ rowAtY bs W (j * step)
theorem rowAtY_ok {bs : List Bool} {W y : Nat} (hW : W ≤ 4000) (hy : y ≤ 4000) : ∀ c ∈ rowAtY bs W y, cdErr c = 0 ∧ c.t.length ≤ 43 := rowC_ok (by rw [runsL_sum]; exact hW) (by omega)
theorem runsL_len (f : Nat → Bool) (k : Nat) : (runsL f k).length ≤ k + 1 := by
  unfold runsL
  have := (runsTo_le f k).1
  rw [List.length_append, List.length_singleton]
  omega
theorem rowAtY_len (bs : List Bool) (W y : Nat) : (rowAtY bs W y).length * 30 ≤ W + 1 := by
  have h := rowC_len2 (zRuns (runsL (fun x => pix bs W x y) W)) (y : Int)
  rw [zRuns_len] at h
  have := runsL_len (fun x => pix bs W x y) W
  unfold rowAtY
  omega
theorem codesTo_len (bs : List Bool) (W step : Nat) : ∀ j, (codesTo bs W step j).length * 30 ≤ j * (W + 1)
  | 0 => Nat.zero_le _
  | j + 1 => by
    have h1 := codesTo_len bs W step j
    have h2 := rowAtY_len bs W (j * step)
    show (codesTo bs W step j ++ rowAtY bs W (j * step)).length * 30 ≤ _
    rw [List.length_append, Nat.add_mul, Nat.add_mul]
    omega
theorem codesTo_ok {bs : List Bool} {W step H : Nat} (hW : W ≤ 4000) (hH : H ≤ 4000) : ∀ j, (∀ i, i < j → i * step < H) → ∀ c ∈ codesTo bs W step j, cdErr c = 0 ∧ c.t.length ≤ 43
  | 0, _, c, h => by cases h
  | j + 1, hj, c, h => by
    rcases List.mem_append.1 h with h | h
    · exact codesTo_ok hW hH j (fun i hi => hj i (by omega)) c h
    · exact rowAtY_ok hW (by have := hj j (by omega); omega) c h
/-- How many rows are read. -/
def rowsN (H step : Nat) : Nat := (H + step - 1) / step
theorem rowsN_lt {H step : Nat} (hs : 1 ≤ step) (j : Nat) : j * step < H ↔ j < rowsN H step := by
  unfold rowsN
  rw [Nat.lt_iff_add_one_le (m := j), Nat.le_div_iff_mul_le (by omega), Nat.add_mul]
  omega
theorem vote_good {cs : List Cd} (h : ∀ c ∈ cs, cdErr c = 0) : voteErr cs = whenI (decide (10000 < (cs.length : Int))) 4 := by
  unfold voteErr
  rw [if_pos]
  have : ∀ l : List Cd, (∀ c ∈ l, cdErr c = 0) → firstNZ (l.map cdErr) = 0 := by
    intro l
    induction l with
    | nil => intro _; rfl
    | cons c l ih =>
      intro hl
      show (if cdErr c = 0 then firstNZ (l.map cdErr) else cdErr c) = 0
      rw [if_pos (hl c (List.mem_cons_self ..))]
      exact ih fun x hx => hl x (List.mem_cons_of_mem _ hx)
  exact this cs h
end Go.Proofs.YtkipcobpnecmhaaGreatDoor


/-! A row on which two codes are drawn side by side has these two codes, in plain lists. -/
namespace Go.Proofs.YtkipcobpnecmhaaGreatDoor
open Go.RowKit

/-! ### the runs of 13 digits -/
def eR (k : UInt8) (d : Nat) : List Nat := runsM (codeOf k d)
theorem eR_all : ∀ d < 10, (codeOf 76 d = expand 1 (eR 76 d) ∧ codeOf 71 d = expand 1 (eR 71 d) ∧ codeOf 82 d = expand 0 (eR 82 d)) ∧ ((eR 76 d).length = 4 ∧ (eR 71 d).length = 4 ∧ (eR 82 d).length = 4) ∧
    ((eR 76 d).all fun n => decide (1 ≤ n ∧ n ≤ 4)) = true ∧ ((eR 71 d).all fun n => decide (1 ≤ n ∧ n ≤ 4)) = true ∧ ((eR 82 d).all fun n => decide (1 ≤ n ∧ n ≤ 4)) = true := by decide +kernel
def eRow (ds : List UInt8) (i : Nat) : List Nat := eR (kindE ds i) (digOf ds i)
theorem eRow_low {ds : List UInt8} (hd : ∀ i, digOf ds i ≤ 9) {i : Nat} (hi : i < 6) : expand 1 (eRow ds (i + 1)) = codeOf (kindE ds (i + 1)) (digOf ds (i + 1)) ∧ (eRow ds (i + 1)).length = 4 ∧ ∀ r ∈ eRow ds (i + 1), 1 ≤ r ∧ r ≤ 4 := by
  obtain ⟨⟨a1, a2, a3⟩, ⟨b1, b2, b3⟩, c1, c2, c3⟩ := eR_all (digOf ds (i + 1)) (by have := hd (i + 1); omega)
  unfold eRow
  rcases kindE_low ds (hd 0) i hi with e | e
  · rw [e]; exact ⟨a1.symm, b1, fun r hr => of_decide_eq_true (List.all_eq_true.1 c1 r hr)⟩
  · rw [e]; exact ⟨a2.symm, b2, fun r hr => of_decide_eq_true (List.all_eq_true.1 c2 r hr)⟩
theorem eRow_high {ds : List UInt8} (hd : ∀ i, digOf ds i ≤ 9) {i : Nat} (hi : 6 ≤ i) : expand 0 (eRow ds (i + 1)) = codeOf (kindE ds (i + 1)) (digOf ds (i + 1)) ∧ (eRow ds (i + 1)).length = 4 ∧ ∀ r ∈ eRow ds (i + 1), 1 ≤ r ∧ r ≤ 4 := by
  obtain ⟨⟨a1, a2, a3⟩, ⟨b1, b2, b3⟩, c1, c2, c3⟩ := eR_all (digOf ds (i + 1)) (by have := hd (i + 1); omega)
  unfold eRow
  rw [kindE_high ds i hi]
  exact ⟨a3.symm, b3, fun r hr => of_decide_eq_true (List.all_eq_true.1 c3 r hr)⟩
theorem flat_len : ∀ {rows : List (List Nat)}, (∀ r ∈ rows, r.length = 4) → rows.flatten.length = 4 * rows.length
  | [], _ => rfl
  | r :: rows, h => by
    rw [List.flatten_cons, List.length_append, h r (List.mem_cons_self ..), flat_len (rows := rows) fun x hx => h x (List.mem_cons_of_mem _ hx), List.length_cons]
    omega
theorem flat_expand (p : Nat) : ∀ {rows : List (List Nat)}, (∀ r ∈ rows, r.length = 4) → expand p rows.flatten = (rows.map (expand p)).flatten
  | [], _ => rfl
  | r :: rows, h => by
    rw [List.flatten_cons, expand_append, h r (List.mem_cons_self ..), expand_par (show (p + 4) % 2 = p % 2 by omega), flat_expand p (rows := rows) fun x hx => h x (List.mem_cons_of_mem _ hx)]
    rfl
def lowsE (ds : List UInt8) : List (List Nat) := (List.range 6).map fun i => eRow ds (i + 1)
def highsE (ds : List UInt8) : List (List Nat) := (List.range 6).map fun i => eRow ds (i + 6 + 1)
def eanRuns (ds : List UInt8) : List Nat := [1, 1, 1] ++ ((lowsE ds).flatten ++ ([1, 1, 1, 1, 1] ++ ((highsE ds).flatten ++ [1, 1, 1])))
theorem expand_len (i : Nat) : ∀ rs : List Nat, (expand i rs).length = rs.sum
  | [] => rfl
  | n :: rs => by
    show (List.replicate n (bitAt i) ++ expand (i + 1) rs).length = _
    rw [List.length_append, List.length_replicate, expand_len (i + 1) rs, List.sum_cons]
theorem ean_runs {ds : List UInt8} (hd : ∀ i, digOf ds i ≤ 9) : expand 0 (eanRuns ds) = eanOf ds ∧ (eanRuns ds).length = 59 ∧ (∀ r ∈ eanRuns ds, 1 ≤ r ∧ r ≤ 4) ∧ (eanRuns ds).sum = 95 := by
  have hL : ∀ r ∈ lowsE ds, r.length = 4 := fun r hr => by
    obtain ⟨i, hi, rfl⟩ := List.mem_map.1 hr
    exact (eRow_low hd (List.mem_range.1 hi)).2.1
  have hH : ∀ r ∈ highsE ds, r.length = 4 := fun r hr => by
    obtain ⟨i, hi, rfl⟩ := List.mem_map.1 hr
    exact (eRow_high hd (by omega)).2.1
  have lL : (lowsE ds).flatten.length = 24 := by rw [flat_len hL]; unfold lowsE; rw [List.length_map, List.length_range]
  have lH : (highsE ds).flatten.length = 24 := by rw [flat_len hH]; unfold highsE; rw [List.length_map, List.length_range]
  have h1 : expand 0 (eanRuns ds) = eanOf ds := by
    unfold eanRuns
    rw [expand_append, expand_append, expand_append, expand_append, lL, lH]
    rw [expand_par (show (0 + ([1, 1, 1] : List Nat).length) % 2 = 1 % 2 from rfl) (lowsE ds).flatten, flat_expand 1 hL]
    rw [expand_par (show (0 + ([1, 1, 1] : List Nat).length + 24) % 2 = 1 % 2 from rfl) [1, 1, 1, 1, 1]]
    rw [expand_par (show (0 + ([1, 1, 1] : List Nat).length + 24 + ([1, 1, 1, 1, 1] : List Nat).length) % 2 = 0 % 2 from rfl) (highsE ds).flatten, flat_expand 0 hH]
    rw [expand_par (show (0 + ([1, 1, 1] : List Nat).length + 24 + ([1, 1, 1, 1, 1] : List Nat).length + 24) % 2 = 0 % 2 from rfl) [1, 1, 1]]
    have mL : (lowsE ds).map (expand 1) = (List.range 6).map fun i => codeOf (kindE ds (i + 1)) (digOf ds (i + 1)) := by
      unfold lowsE
      rw [List.map_map]
      exact List.map_congr_left fun i hi => (eRow_low hd (List.mem_range.1 hi)).1
    have mH : (highsE ds).map (expand 0) = (List.range 6).map fun i => codeOf (kindE ds (i + 6 + 1)) (digOf ds (i + 6 + 1)) := by
      unfold highsE
      rw [List.map_map]
      exact List.map_congr_left fun i hi => (eRow_high hd (by omega)).1
    rw [mL, mH, eanOf_laid]
    unfold laid12
    show expand 0 [1, 1, 1] ++ ([codeOf (kindE ds 1) (digOf ds 1), codeOf (kindE ds 2) (digOf ds 2), codeOf (kindE ds 3) (digOf ds 3), codeOf (kindE ds 4) (digOf ds 4), codeOf (kindE ds 5) (digOf ds 5), codeOf (kindE ds 6) (digOf ds 6)].flatten ++ (expand 1 [1, 1, 1, 1, 1] ++ ([codeOf (kindE ds 7) (digOf ds 7), codeOf (kindE ds 8) (digOf ds 8), codeOf (kindE ds 9) (digOf ds 9), codeOf (kindE ds 10) (digOf ds 10), codeOf (kindE ds 11) (digOf ds 11), codeOf (kindE ds 12) (digOf ds 12)].flatten ++ expand 0 [1, 1, 1]))) = _
    rw [show expand 0 [1, 1, 1] = endE from rfl, show expand 1 [1, 1, 1, 1, 1] = midE from rfl]
    simp only [List.flatten_cons, List.flatten_nil, List.append_nil, List.append_assoc]
  refine ⟨h1, ?_, ?_, ?_⟩
  · unfold eanRuns
    rw [List.length_append, List.length_append, List.length_append, List.length_append, lL, lH]
    rfl
  · intro r hr
    unfold eanRuns at hr
    rcases List.mem_append.1 hr with hr | hr
    · have : r = 1 := by simpa using hr
      omega
    · rcases List.mem_append.1 hr with hr | hr
      · obtain ⟨b, hb, hr⟩ := List.mem_flatten.1 hr
        obtain ⟨i, hi, rfl⟩ := List.mem_map.1 hb
        exact (eRow_low hd (List.mem_range.1 hi)).2.2 r hr
      · rcases List.mem_append.1 hr with hr | hr
        · have : r = 1 := by simpa using hr
          omega
        · rcases List.mem_append.1 hr with hr | hr
          · obtain ⟨b, hb, hr⟩ := List.mem_flatten.1 hr
            obtain ⟨i, hi, rfl⟩ := List.mem_map.1 hb
            exact (eRow_high hd (by omega)).2.2 r hr
          · have : r = 1 := by simpa using hr
            omega
  · rw [← expand_len 0, h1]
    exact (head_parts (ean_head ds hd).1).1
/-- 13 digits with their check digit. -/
def EanOk (ds : List UInt8) : Prop := ds.length = 13 ∧ madeOf ds digits10 = true ∧ checkOf (ds.take 12) = digOf ds 12
theorem hitE_at {zs a rest : List Int} (hz : zs = a ++ rest) (hl : a.length = 59) : hitE zs = tryC a 1 := by
  unfold hitE
  rw [hz, List.length_append, if_pos (by omega), List.take_left' hl]
theorem ean_hit {ds : List UInt8} (h : EanOk ds) {u : Nat} (hu : 1 ≤ u) (hu8 : u ≤ 8) (rest : List Int) : hitE (zWide u (eanRuns ds) ++ rest) = some ds ∧ hitE (zWide u (eanRuns ds).reverse ++ rest) = some ds := by
  obtain ⟨h13, hm, hc⟩ := h
  have hd := digOf_le hm
  obtain ⟨e1, e2, e3, e4⟩ := ean_runs hd
  obtain ⟨r1, r2⟩ := ean_read ds h13 hm hc
  have key : ∀ rs : List Nat, rs.length = 59 → (∀ r ∈ rs, 1 ≤ r ∧ r ≤ 4) → rs.sum = 95 → eitherE (expand 0 rs) = (ds, 0) → hitE (zWide u rs ++ rest) = some ds := fun rs q1 q2 q3 q4 => by
    rw [hitE_at rfl (by rw [zWide_len, q1])]
    obtain ⟨hu1, hu2⟩ := units_ean hu hu8 q1 q2 q3
    have hr : rdK 1 (uM (zWide u rs) 1) = (ds, 0) := by rw [hu2]; exact q4
    rw [tryC_yes hu1 (by rw [hr]), hr]
  refine ⟨key _ e2 e3 e4 (by rw [e1]; exact r1), key _ (by rw [List.length_reverse]; exact e2) (fun r hr => e3 r (List.mem_reverse.1 hr)) ?_ (by rw [← expand_back (by omega), e1]; exact r2)⟩
  rw [← expand_len 0, ← expand_back (by omega), List.length_reverse, expand_len, e4]
end Go.Proofs.YtkipcobpnecmhaaGreatDoor
