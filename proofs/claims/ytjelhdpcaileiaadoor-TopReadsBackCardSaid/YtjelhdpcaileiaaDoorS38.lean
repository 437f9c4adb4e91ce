/- Plain: lines that are filled: each is a right text and not wider than the whole; one that is too wide is one word; the next line's first word had no room; the lines joined are the text. -/
import Derived.Test.YtjelhdpcaileiaaDoorS36
import Derived.Lib.IndexMore

namespace Go.Proofs.YtjelhdpcaileiaaDoor
open Go.RowKit

/-! ### the first word -/
def firstW (q : List UInt8) : List UInt8 := (Lib.cut q [32]).1
theorem firstW_eq (q : List UInt8) : firstW q = q.takeWhile (fun b => b != 32) := by
  unfold firstW Lib.cut
  rcases index_space q with ⟨h, hn⟩ | ⟨i, h, hi, e, hn⟩
  · rw [h, if_neg (by decide)]
    show q = _
    have h1 := List.takeWhile_append_of_pos (p := fun b : UInt8 => b != 32) (l₁ := q) (l₂ := []) (fun b hb => by simpa using hn b hb)
    rw [List.append_nil] at h1
    rw [h1]
    simp
  · rw [h, if_pos (by omega)]
    show q.take ((i : Int)).toNat = _
    rw [Int.toNat_natCast]
    conv => rhs; rw [e]
    rw [List.takeWhile_append_of_pos (fun b hb => by simpa using hn b hb)]
    simp
theorem firstW_word {w : List UInt8} (h : ∀ b ∈ w, b ≠ 32) : firstW w = w := by
  rw [firstW_eq]
  have h1 := List.takeWhile_append_of_pos (p := fun b : UInt8 => b != 32) (l₁ := w) (l₂ := []) (fun b hb => by simpa using h b hb)
  rw [List.append_nil] at h1
  rw [h1]
  simp
theorem firstW_more (l w : List UInt8) : firstW (l ++ 32 :: w) = firstW l := by
  rw [firstW_eq, firstW_eq]
  rcases index_space l with ⟨-, hn⟩ | ⟨i, -, hi, e, hn⟩
  · rw [List.takeWhile_append_of_pos (fun b hb => by simpa using hn b hb)]
    have h1 := List.takeWhile_append_of_pos (p := fun b : UInt8 => b != 32) (l₁ := l) (l₂ := []) (fun b hb => by simpa using hn b hb)
    rw [List.append_nil] at h1
    rw [h1]
    simp
  · obtain ⟨a, ha⟩ : ∃ a, a = l.take i := ⟨_, rfl⟩
    obtain ⟨r, hr⟩ : ∃ r, r = l.drop (i + 1) := ⟨_, rfl⟩
    rw [← ha, ← hr] at e
    rw [← ha] at hn
    rw [e, List.append_assoc, List.takeWhile_append_of_pos (p := fun b : UInt8 => b != 32) (l₁ := a) (fun b hb => by simpa using hn b hb), List.takeWhile_append_of_pos (p := fun b : UInt8 => b != 32) (l₁ := a) (fun b hb => by simpa using hn b hb)]
    simp

/-! ### one beside the other -/
def chainB (P : List UInt8 → List UInt8 → Prop) : List (List UInt8) → Prop
  | [] => True
  | [_] => True
  | p :: q :: l => P p q ∧ chainB P (q :: l)
theorem chain_snoc {P : List UInt8 → List UInt8 → Prop} : ∀ {pre : List (List UInt8)} {l w : List UInt8}, chainB P (pre ++ [l]) → P l w → chainB P (pre ++ [l] ++ [w])
  | [], _, _, _, h => ⟨h, trivial⟩
  | [_], _, _, h1, h => ⟨h1.1, chain_snoc (pre := []) h1.2 h⟩
  | _ :: b :: pre, _, _, h1, h => ⟨h1.1, chain_snoc (pre := b :: pre) h1.2 h⟩
theorem chain_last {P : List UInt8 → List UInt8 → Prop} : ∀ {pre : List (List UInt8)} {l l' : List UInt8}, chainB P (pre ++ [l]) → (∀ p, P p l → P p l') → chainB P (pre ++ [l'])
  | [], _, _, _, _ => trivial
  | [a], _, _, h1, h => ⟨h a h1.1, trivial⟩
  | _ :: b :: pre, _, _, h1, h => ⟨h1.1, chain_last (pre := b :: pre) h1.2 h⟩
theorem chain_at {P : List UInt8 → List UInt8 → Prop} : ∀ {out : List (List UInt8)} {j : Nat} {p q : List UInt8}, chainB P out → out[j]? = some p → out[j + 1]? = some q → P p q
  | [], j, p, q, _, h, _ => by simp at h
  | [a], j, p, q, _, _, h => by simp at h
  | a :: b :: l, 0, p, q, h, h1, h2 => by
    obtain rfl := Option.some.inj h1
    obtain rfl := Option.some.inj h2
    exact h.1
  | a :: b :: l, j + 1, p, q, h, h1, h2 => chain_at (out := b :: l) (j := j) h.2 h1 h2

/-! ### widths -/
theorem goAll_shift {ls : List Ltr} {gap sp : Nat} (m : Nat) : ∀ (l : List (Option Nat)) (n : Nat) (b : Bool), goAll ls gap sp (m + n, b) l = (m + (goAll ls gap sp (n, b) l).1, (goAll ls gap sp (n, b) l).2)
  | [], n, b => rfl
  | none :: l, n, b => by
    have ih := goAll_shift (ls := ls) (gap := gap) (sp := sp) m l (n + sp) false
    show goAll ls gap sp (m + n + sp, false) l = (m + (goAll ls gap sp (n + sp, false) l).1, (goAll ls gap sp (n + sp, false) l).2)
    rw [Nat.add_assoc, ih]
  | some k :: l, n, b => by
    have ih := goAll_shift (ls := ls) (gap := gap) (sp := sp) m l (spotOf gap (n, b) + wdOf ls k) true
    show goAll ls gap sp (spotOf gap (m + n, b) + wdOf ls k, true) l = (m + (goAll ls gap sp (spotOf gap (n, b) + wdOf ls k, true) l).1, (goAll ls gap sp (spotOf gap (n, b) + wdOf ls k, true) l).2)
    rw [← ih]
    congr 2
    unfold spotOf
    cases b
    · simp; omega
    · simp; omega
theorem wide_two {ls : List Ltr} (hT : Texts ls) {gap sp : Nat} {a b : List UInt8} (ha : (spelt ls a).isSome = true) (hb : (spelt ls b).isSome = true) : wideOf ls gap sp (a ++ 32 :: b) = wideOf ls gap sp a + sp + wideOf ls gap sp b := by
  obtain ⟨x, hx⟩ := Option.isSome_iff_exists.1 ha
  obtain ⟨y, hy⟩ := Option.isSome_iff_exists.1 hb
  have hab : spelt ls (a ++ 32 :: b) = some (x ++ none :: y) := by rw [spelt_word hT, hx, hy]; rfl
  unfold wideOf
  rw [itemsOf_some hx, itemsOf_some hy, itemsOf_some hab, goAll_append]
  show (goAll ls gap sp ((goAll ls gap sp (0, false) x).1 + sp, false) y).1 = _
  have h := goAll_shift (ls := ls) (gap := gap) (sp := sp) ((goAll ls gap sp (0, false) x).1 + sp) y 0 false
  rw [Nat.add_zero] at h
  rw [h]
theorem wide_drop {ls : List Ltr} (hT : Texts ls) {gap sp : Nat} : ∀ (u v : List (List UInt8)), WordsOk ls (u ++ v) → wideOf ls gap sp (joinW v) ≤ wideOf ls gap sp (joinW (u ++ v))
  | [], v, _ => Nat.le_refl _
  | x :: u, v, h => by
    have ih := wide_drop hT (gap := gap) (sp := sp) u v (fun y hy => h y (List.mem_cons_of_mem _ hy))
    have hr : WordsOk ls (u ++ v) := fun y hy => h y (List.mem_cons_of_mem _ hy)
    cases e : u ++ v with
    | nil =>
      rw [e] at ih
      have h0 : wideOf ls gap sp (joinW []) = 0 := rfl
      rw [h0] at ih
      omega
    | cons y l =>
      rw [List.cons_append, e]
      rw [e] at ih hr
      have e2 : joinW (x :: y :: l) = x ++ 32 :: joinW (y :: l) := rfl
      rw [e2, wide_two hT (h x (List.mem_cons_self ..)).2.2 (joinW_spelt hT _ hr)]
      omega
theorem wide_take {ls : List Ltr} (hT : Texts ls) {gap sp : Nat} : ∀ (u v : List (List UInt8)), WordsOk ls (u ++ v) → wideOf ls gap sp (joinW u) ≤ wideOf ls gap sp (joinW (u ++ v))
  | [], v, _ => Nat.zero_le _
  | [x], [], _ => Nat.le_refl _
  | [x], y :: v, h => by
    have e2 : joinW ([x] ++ y :: v) = x ++ 32 :: joinW (y :: v) := rfl
    have e3 : joinW [x] = x := rfl
    have h1 : WordsOk ls (y :: v) := fun z hz => h z (List.mem_cons_of_mem _ hz)
    rw [e2, e3, wide_two hT (h x (List.mem_cons_self ..)).2.2 (joinW_spelt hT _ h1)]
    omega
  | x :: y :: u, v, h => by
    have ih := wide_take hT (gap := gap) (sp := sp) (y :: u) v (fun z hz => h z (List.mem_cons_of_mem _ hz))
    have e2 : joinW (x :: y :: u ++ v) = x ++ 32 :: joinW (y :: u ++ v) := rfl
    have e3 : joinW (x :: y :: u) = x ++ 32 :: joinW (y :: u) := rfl
    have hs := (h x (List.mem_cons_self ..)).2.2
    have h1 : WordsOk ls (y :: u ++ v) := fun z hz => h z (List.mem_cons_of_mem _ hz)
    have h2 : WordsOk ls (y :: u) := fun z hz => h1 z (List.mem_append_left _ hz)
    rw [e2, e3, wide_two hT hs (joinW_spelt hT _ h1), wide_two hT hs (joinW_spelt hT _ h2)]
    omega
theorem wide_pos {ht gap sp : Nat} {ls : List Ltr} (hR : Right ht gap sp ls) {x : List UInt8} (hx : x ≠ []) (hs : (spelt ls x).isSome = true) : 1 ≤ wideOf ls gap sp x := by
  obtain ⟨l, hl⟩ := Option.isSome_iff_exists.1 hs
  unfold wideOf
  rw [itemsOf_some hl]
  have hin := spelt_in hl
  cases l with
  | nil =>
    cases x with
    | nil => exact absurd rfl hx
    | cons c t =>
      exfalso
      rw [spelt_cons] at hl
      split at hl
      · obtain ⟨l', -, h⟩ := Option.map_eq_some_iff.1 hl
        cases h
      · split at hl
        · cases hl
        · obtain ⟨l', -, h⟩ := Option.map_eq_some_iff.1 hl
          cases h
  | cons a l =>
    have h1 : (goOn ls gap sp (0, false) a).1 ≤ (goAll ls gap sp (goOn ls gap sp (0, false) a) l).1 := goAll_mono l _
    have h2 : 1 ≤ (goOn ls gap sp (0, false) a).1 := by
      cases a with
      | none => show 1 ≤ 0 + sp; have := hR.sp1; omega
      | some k =>
        have := (hR.wd k (hin k (List.mem_cons_self ..))).2.1
        show 1 ≤ spotOf gap (0, false) + wdOf ls k
        omega
    exact Nat.le_trans h2 h1

/-! ### the lines -/
def LineGood (ls : List Ltr) (gap sp : Nat) (most : Int) (l : List UInt8) : Prop := (∀ b ∈ l, b ≠ 32) ∨ (wideOf ls gap sp l : Int) ≤ most
def NoRoom (ls : List Ltr) (gap sp : Nat) (most : Int) (p q : List UInt8) : Prop := most < (wideOf ls gap sp (p ++ 32 :: firstW q) : Int)
theorem fit_inv (ls : List Ltr) (gap sp : Nat) (most : Int) (ws : List (List UInt8)) (hw : ∀ x ∈ ws, ∀ b ∈ x, b ≠ 32) : ∀ i, i ≤ ws.length → (∀ l ∈ fitTo ls gap sp most ws i, LineGood ls gap sp most l) ∧ chainB (NoRoom ls gap sp most) (fitTo ls gap sp most ws i)
  | 0, _ => ⟨fun l hl => absurd hl (by unfold fitTo; simp), trivial⟩
  | i + 1, hi => by
    obtain ⟨h1, h2⟩ := fit_inv ls gap sp most ws hw i (by omega)
    have hg : ws[i]? = some ws[i] := List.getElem?_eq_getElem (by omega)
    obtain ⟨w, hww⟩ : ∃ w, w = ws[i] := ⟨_, rfl⟩
    rw [← hww] at hg
    have hwn := hw w (List.mem_of_getElem? hg)
    rw [fitTo_succ hg]
    rcases List.eq_nil_or_concat (fitTo ls gap sp most ws i) with h0 | ⟨pre, l, h0⟩
    · rw [h0, fitStep_nil]
      exact ⟨fun x hx => by rw [List.mem_singleton.1 hx]; exact .inl hwn, trivial⟩
    · rw [List.concat_eq_append] at h0
      rw [h0] at h1 h2 ⊢
      rw [fitStep_last]
      split
      · rename_i hfit
        refine ⟨fun x hx => ?_, chain_last h2 fun p hp => ?_⟩
        · rcases List.mem_append.1 hx with hx | hx
          · exact h1 x (List.mem_append_left _ hx)
          · rw [List.mem_singleton.1 hx]; exact .inr hfit
        · unfold NoRoom at hp ⊢
          rw [firstW_more]
          exact hp
      · rename_i hfit
        refine ⟨fun x hx => ?_, chain_snoc h2 ?_⟩
        · rcases List.mem_append.1 hx with hx | hx
          · exact h1 x hx
          · rw [List.mem_singleton.1 hx]; exact .inl hwn
        · unfold NoRoom
          rw [firstW_word hwn]
          omega
theorem joinW_flat : ∀ (gs : List (List (List UInt8))), (∀ g ∈ gs, g ≠ []) → joinW (gs.map joinW) = joinW gs.flatten
  | [], _ => rfl
  | [g], _ => by rw [List.flatten_cons, List.flatten_nil, List.append_nil]; rfl
  | g :: h :: gs, hn => by
    have ih := joinW_flat (h :: gs) (fun x hx => hn x (List.mem_cons_of_mem _ hx))
    have hne : (h :: gs).flatten ≠ [] := by
      rw [List.flatten_cons]
      have := hn h (by simp)
      intro e
      exact this (List.append_eq_nil_iff.1 e).1
    have key : ∀ (a b : List (List UInt8)), a ≠ [] → b ≠ [] → joinW (a ++ b) = joinW a ++ 32 :: joinW b := by
      intro a
      induction a with
      | nil => intro b h; exact absurd rfl h
      | cons x a iha =>
        intro b _ hb
        cases a with
        | nil =>
          cases b with
          | nil => exact absurd rfl hb
          | cons y b => rfl
        | cons y a =>
          have h1 := iha b (by simp) hb
          show x ++ 32 :: joinW (y :: a ++ b) = (x ++ 32 :: joinW (y :: a)) ++ 32 :: joinW b
          rw [h1]
          simp
    show joinW g ++ 32 :: joinW ((h :: gs).map joinW) = joinW (g ++ (h :: gs).flatten)
    rw [ih, key g _ (hn g (by simp)) hne]
theorem fit_back {ht gap sp : Nat} {ls : List Ltr} (hR : Right ht gap sp ls) {t : List UInt8} (h : textErr ls t = 0) (hs : sizeErr (wideOf ls gap sp t) ht = 0) (most : Int) {out : List (List UInt8)} (ho : out = fitTo ls gap sp most (wordsOf t) (wordsOf t).length) :
    (∀ s ∈ out, setErr ls ht gap sp s = 0 ∧ s.length ≤ 200 ∧ LineGood ls gap sp most s) ∧ (∀ j p q, out[j]? = some p → out[j + 1]? = some q → NoRoom ls gap sp most p q) ∧ joinW out = t := by
  have hT := hR.texts
  obtain ⟨hne, hj, hok⟩ := words_ok hT h
  obtain ⟨h1, -⟩ := textErr_zero h
  obtain ⟨-, ht2, -⟩ := lineErr_zero h1
  obtain ⟨a1, a2⟩ := fit_inv ls gap sp most (wordsOf t) (fun x hx => (hok x hx).2.1) _ (Nat.le_refl _)
  obtain ⟨gs, e1, e2, e3⟩ := groups_fit ls gap sp most (wordsOf t) _ (Nat.le_refl _)
  rw [← ho] at a1 a2 e1
  rw [List.take_length] at e2
  refine ⟨fun s hs' => ?_, fun j p q hp hq => chain_at a2 hp hq, ?_⟩
  · have hgood := a1 s hs'
    rw [e1] at hs'
    obtain ⟨g, hg, rfl⟩ := List.mem_map.1 hs'
    obtain ⟨u, v, huv⟩ := List.append_of_mem hg
    have e4 : wordsOf t = u.flatten ++ (g ++ v.flatten) := by rw [← e2, huv]; simp
    have hokg : WordsOk ls (g ++ v.flatten) := fun x hx => hok x (by rw [e4]; exact List.mem_append_right _ hx)
    have hokg2 : WordsOk ls g := fun x hx => hokg x (List.mem_append_left _ hx)
    have hgn := e3 g hg
    have l1 := joinW_drop u.flatten (g ++ v.flatten)
    have l2 := joinW_take g v.flatten
    rw [← e4, hj] at l1
    have w1 := wide_drop hT (gap := gap) (sp := sp) u.flatten (g ++ v.flatten) (by rw [← e4]; exact hok)
    have w2 := wide_take hT (gap := gap) (sp := sp) g v.flatten hokg
    rw [← e4, hj] at w1
    have hte := joinW_right hT hokg2 hgn (by omega)
    have hp := wide_pos hR (joinW_ne hokg2 hgn) (joinW_spelt hT g hokg2)
    have hz := sizeErr_zero hs
    have hse : sizeErr (wideOf ls gap sp (joinW g)) ht = 0 := by
      unfold sizeErr
      have hm : wideOf ls gap sp (joinW g) * ht ≤ wideOf ls gap sp t * ht := Nat.mul_le_mul_right _ (by omega)
      have hm2 : ((wideOf ls gap sp (joinW g) * ht : Nat) : Int) ≤ ((wideOf ls gap sp t * ht : Nat) : Int) := by omega
      rw [Int.natCast_mul, Int.natCast_mul] at hm2
      rw [if_pos ⟨by omega, by omega, by omega, by omega⟩, if_neg (by omega)]
    refine ⟨?_, by omega, hgood⟩
    unfold setErr
    rw [if_pos hte, hse]
  · rw [e1, joinW_flat gs e3, e2, hj]

end Go.Proofs.YtjelhdpcaileiaaDoor
