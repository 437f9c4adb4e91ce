/- The plain law of fonts as texts: what is printed is read as it was. -/
import Derived.Test.YtjelhdpcaileiaaGreatDoorS15
import Derived.Test.YtjelhdpcaileiaaGreatDoorS21

namespace Go.Proofs.YtjelhdpcaileiaaGreatDoor
open Go.RowKit

def mkLtr (h : Nat) (s : List UInt8) (W : Nat) (P : List Bool) : Ltr := ⟨s, W, h, none, P.length, 0, P⟩
def badLetter (t : List UInt8) : Bool := !(Lib.cut t [10]).2.2 || (!Lib.hasPrefix (Lib.cut t [10]).1 letK || ((Lib.trimPrefix (Lib.cut t [10]).1 letK).isEmpty || !printB (Lib.trimPrefix (Lib.cut t [10]).1 letK)))
def ltrsF : Nat → Nat → List UInt8 → Nat → List Ltr → Nat ⊕ List Ltr
  | 0, _, _, a, _ => .inl a
  | f + 1, h, t, a, ls => if t.isEmpty = true then .inr ls else if badLetter t = true then .inl a else
    match rowsF h 0 (Lib.cut t [10]).2.1 0 [] with
    | .inl y => .inl (a + y + 1)
    | .inr r => ltrsF f h r.1 (a + h + 1) (ls ++ [mkLtr h (Lib.trimPrefix (Lib.cut t [10]).1 letK) r.2.1 r.2.2])
theorem letter_of_not {t : List UInt8} (h : ¬ badLetter t = true) : (Lib.cut t [10]).2.2 = true ∧ Lib.hasPrefix (Lib.cut t [10]).1 letK = true ∧ (Lib.trimPrefix (Lib.cut t [10]).1 letK).isEmpty = false ∧ printB (Lib.trimPrefix (Lib.cut t [10]).1 letK) = true := by
  unfold badLetter at h
  simp only [Bool.or_eq_true, Bool.not_eq_true', not_or, Bool.not_eq_false, Bool.not_eq_true] at h
  exact ⟨h.1, h.2.1, h.2.2.1, h.2.2.2⟩
theorem rowsF_len {k y : Nat} {t : List UInt8} {W : Nat} {P : List Bool} {r : List UInt8 × Nat × List Bool} (h : rowsF k y t W P = .inr r) : r.1.length ≤ t.length := by
  obtain ⟨t', W', P'⟩ := r
  obtain ⟨-, -, Q, -, -, e⟩ := rowsF_text k y t W P t' W' P' h
  rw [e, List.length_append]
  exact Nat.le_add_left _ _
theorem ltrsF_enough : ∀ (f g h : Nat) (t : List UInt8) (a : Nat) (ls : List Ltr), t.length < f → t.length < g → ltrsF f h t a ls = ltrsF g h t a ls
  | 0, _, _, _, _, _, h, _ => absurd h (Nat.not_lt_zero _)
  | _ + 1, 0, _, _, _, _, _, h => absurd h (Nat.not_lt_zero _)
  | f + 1, g + 1, h, t, a, ls, hf, hg => by
    unfold ltrsF
    split
    · rfl
    · split
      · rfl
      · rename_i hb
        have hl := cut_len (letter_of_not hb).1
        cases hr : rowsF h 0 (Lib.cut t [10]).2.1 0 [] with
        | inl y => rfl
        | inr r =>
          have := rowsF_len hr
          exact ltrsF_enough f g h r.1 _ _ (by omega) (by omega)
/-- What is left of the letters. -/
def leftL (h : Nat) (t : List UInt8) (a : Nat) (ls : List Ltr) : Nat ⊕ List Ltr := ltrsF (t.length + 1) h t a ls
theorem leftL_nil {h : Nat} {t : List UInt8} {a : Nat} {ls : List Ltr} (he : t.isEmpty = true) : leftL h t a ls = .inr ls := by
  unfold leftL ltrsF
  rw [if_pos he]
theorem leftL_bad {h : Nat} {t : List UInt8} {a : Nat} {ls : List Ltr} (he : t.isEmpty = false) (hb : badLetter t = true) : leftL h t a ls = .inl a := by
  unfold leftL ltrsF
  rw [if_neg (by rw [he]; decide), if_pos hb]
theorem leftL_row {h : Nat} {t : List UInt8} {a y : Nat} {ls : List Ltr} (he : t.isEmpty = false) (hb : ¬ badLetter t = true) (hr : rowsF h 0 (Lib.cut t [10]).2.1 0 [] = .inl y) : leftL h t a ls = .inl (a + y + 1) := by
  unfold leftL ltrsF
  rw [if_neg (by rw [he]; decide), if_neg hb, hr]
theorem leftL_go {h : Nat} {t : List UInt8} {a : Nat} {ls : List Ltr} {r : List UInt8 × Nat × List Bool} (he : t.isEmpty = false) (hb : ¬ badLetter t = true) (hr : rowsF h 0 (Lib.cut t [10]).2.1 0 [] = .inr r) :
    leftL h t a ls = leftL h r.1 (a + h + 1) (ls ++ [mkLtr h (Lib.trimPrefix (Lib.cut t [10]).1 letK) r.2.1 r.2.2]) := by
  have hl := cut_len (letter_of_not hb).1
  have := rowsF_len hr
  unfold leftL
  rw [ltrsF, if_neg (by rw [he]; decide), if_neg hb, hr]
  exact ltrsF_enough _ _ _ _ _ _ (by omega) (by omega)

/-- The text of a letter, and of a font. -/
def ltrTx (l : Ltr) : List UInt8 := letK ++ (l.text ++ 10 :: prL l.bs l.W.toNat l.H.toNat)
def ltrsTx (ls : List Ltr) : List UInt8 := ls.flatMap ltrTx
def fontTx (nm : List UInt8) (a b c : Nat) (ls : List Ltr) : List UInt8 := fontLine nm a b c ++ 10 :: ltrsTx ls
theorem ltrsTx_snoc (ls : List Ltr) (l : Ltr) : ltrsTx (ls ++ [l]) = ltrsTx ls ++ ltrTx l := by unfold ltrsTx; rw [List.flatMap_append]; simp
theorem letter_text {h : Nat} {t : List UInt8} {r : List UInt8 × Nat × List Bool} (hb : ¬ badLetter t = true) (hr : rowsF h 0 (Lib.cut t [10]).2.1 0 [] = .inr r) : t = ltrTx (mkLtr h (Lib.trimPrefix (Lib.cut t [10]).1 letK) r.2.1 r.2.2) ++ r.1 := by
  obtain ⟨g1, g2, -, -⟩ := letter_of_not hb
  obtain ⟨t', W', P'⟩ := r
  obtain ⟨-, -, Q, hP, hq, e⟩ := rowsF_text h 0 _ 0 [] t' W' P' hr
  rw [List.nil_append] at hP
  subst hP
  have hc := (cut_spec g1).1
  have hp := hasPre_iff.1 g2
  have hpr : prL P' W' h = rowsL W' h P' := prL_rows hq
  show t = letK ++ (Lib.trimPrefix (Lib.cut t [10]).1 letK ++ 10 :: prL P' (W' : Int).toNat (h : Int).toNat) ++ t'
  rw [Int.toNat_natCast, Int.toNat_natCast, hpr]
  conv => lhs; rw [hc, e]
  conv => lhs; rw [hp]
  simp only [List.append_assoc, List.cons_append]
theorem leftL_text (h : Nat) : ∀ (n : Nat) (t : List UInt8) (a : Nat) (ls out : List Ltr), t.length ≤ n → leftL h t a ls = .inr out → ∃ more, out = ls ++ more ∧ t = ltrsTx more := by
  intro n
  induction n with
  | zero =>
    intro t a ls out hn ho
    have : t = [] := List.eq_nil_of_length_eq_zero (by omega)
    subst this
    rw [leftL_nil rfl] at ho
    exact ⟨[], by rw [List.append_nil]; exact (Sum.inr.inj ho).symm, rfl⟩
  | succ n ih =>
    intro t a ls out hn ho
    cases he : t.isEmpty with
    | true =>
      rw [leftL_nil he] at ho
      exact ⟨[], by rw [List.append_nil]; exact (Sum.inr.inj ho).symm, by rw [List.isEmpty_iff.1 he]; rfl⟩
    | false =>
      by_cases hb : badLetter t = true
      · rw [leftL_bad he hb] at ho; cases ho
      · cases hr : rowsF h 0 (Lib.cut t [10]).2.1 0 [] with
        | inl y => rw [leftL_row he hb hr] at ho; cases ho
        | inr r =>
          rw [leftL_go he hb hr] at ho
          have hl := cut_len (letter_of_not hb).1
          have hl2 := rowsF_len hr
          obtain ⟨more, rfl, e⟩ := ih r.1 _ _ _ (by omega) ho
          refine ⟨_ :: more, by rw [List.append_assoc]; rfl, ?_⟩
          have := letter_text hb hr
          rw [e] at this
          exact this
theorem leftL_count (h : Nat) : ∀ (n : Nat) (t : List UInt8) (a k : Nat) (ls : List Ltr), t.length ≤ n → leftL h t a ls = .inl k → k ≤ a + t.count 10 := by
  intro n
  induction n with
  | zero =>
    intro t a k ls hn ho
    have : t = [] := List.eq_nil_of_length_eq_zero (by omega)
    subst this
    rw [leftL_nil rfl] at ho; cases ho
  | succ n ih =>
    intro t a k ls hn ho
    cases he : t.isEmpty with
    | true => rw [leftL_nil he] at ho; cases ho
    | false =>
      by_cases hb : badLetter t = true
      · rw [leftL_bad he hb] at ho
        have := Sum.inl.inj ho
        omega
      · have hc := count_cut (letter_of_not hb).1
        have hrc := rowsF_count h 0 (Lib.cut t [10]).2.1 0 []
        cases hr : rowsF h 0 (Lib.cut t [10]).2.1 0 [] with
        | inl y =>
          rw [leftL_row he hb hr] at ho
          have h1 := Sum.inl.inj ho
          have h2 := hrc.1 y hr
          omega
        | inr r =>
          rw [leftL_go he hb hr] at ho
          have hl := cut_len (letter_of_not hb).1
          have hl2 := rowsF_len hr
          have h1 := ih r.1 _ k _ (by omega) ho
          have h2 := hrc.2 r hr
          omega

/-! ### the whole -/
abbrev FontR := Int × Nat × List UInt8 × Nat × Nat × Nat × List Ltr
def zeroF (e : Int) (a : Nat) : FontR := (e, a, [], 0, 0, 0, [])
def fontOf (t : List UInt8) : FontR := if 1048576 < t.length then zeroF 4 0 else
  match headF (Lib.cut t [10]).1 with
  | none => zeroF 8 0
  | some (nm, a, b, c) => if (Lib.cut t [10]).2.2 = false then zeroF 8 0 else
    match leftL a (Lib.cut t [10]).2.1 1 [] with
    | .inl k => zeroF 8 k
    | .inr ls => if fontErr (nameB nm) a b c ls = 0 then (0, 0, nm, a, b, c, ls) else zeroF (fontErr (nameB nm) a b c ls) 0
theorem zeroF_no {e : Int} {k at' a b c : Nat} {nm : List UInt8} {ls : List Ltr} {p : Prop} (he : e ≠ 0) (h : zeroF e k = (0, at', nm, a, b, c, ls)) : p := absurd (congrArg Prod.fst h) he
/-- What is read is printed as it was. -/
theorem fontOf_ok {t nm : List UInt8} {at' a b c : Nat} {ls : List Ltr} (h : fontOf t = (0, at', nm, a, b, c, ls)) : at' = 0 ∧ fontErr (nameB nm) a b c ls = 0 ∧ fontTx nm a b c ls = t ∧ t.length ≤ 1048576 := by
  unfold fontOf at h
  split at h
  · exact zeroF_no (by decide) h
  · rename_i hlen
    split at h
    · exact zeroF_no (by decide) h
    · rename_i nm' a' b' c' hh
      split at h
      · exact zeroF_no (by decide) h
      · rename_i hc
        split at h
        · exact zeroF_no (by decide) h
        · rename_i ls' hl
          split at h
          · rename_i he
            simp only [Prod.mk.injEq, true_and] at h
            obtain ⟨rfl, rfl, rfl, rfl, rfl, rfl⟩ := h
            obtain ⟨more, hm, ht⟩ := leftL_text a' _ _ _ _ _ (Nat.le_refl _) hl
            rw [List.nil_append] at hm
            subst hm
            have hc' : (Lib.cut t [10]).2.2 = true := by
              cases hx : (Lib.cut t [10]).2.2 with
              | true => rfl
              | false => exact absurd hx hc
            refine ⟨rfl, he, ?_, by omega⟩
            have hw := (wordsOf_iff.1 (headF_iff.1 hh).1).2.1
            have hs := (cut_spec hc').1
            conv => rhs; rw [hs, hw, ht]
            rfl
          · rename_i he
            exact absurd (congrArg Prod.fst h) he
theorem fontOf_bad {t nm : List UInt8} {e : Int} {at' a b c : Nat} {ls : List Ltr} (h : fontOf t = (e, at', nm, a, b, c, ls)) (he : e ≠ 0) : (nm = [] ∧ a = 0 ∧ b = 0 ∧ c = 0 ∧ ls = []) ∧ at' ≤ t.count 10 ∧ (e = 8 ∨ at' = 0) := by
  have key : ∀ (k : Nat) (x : Int), zeroF x k = (e, at', nm, a, b, c, ls) → k ≤ t.count 10 → (x = 8 ∨ k = 0) → (nm = [] ∧ a = 0 ∧ b = 0 ∧ c = 0 ∧ ls = []) ∧ at' ≤ t.count 10 ∧ (e = 8 ∨ at' = 0) := by
    intro k x hz h1 h2
    unfold zeroF at hz
    simp only [Prod.mk.injEq] at hz
    obtain ⟨rfl, rfl, rfl, rfl, rfl, rfl, rfl⟩ := hz
    exact ⟨⟨rfl, rfl, rfl, rfl, rfl⟩, h1, h2⟩
  unfold fontOf at h
  split at h
  · exact key _ _ h (Nat.zero_le _) (.inr rfl)
  · split at h
    · exact key _ _ h (Nat.zero_le _) (.inr rfl)
    · split at h
      · exact key _ _ h (Nat.zero_le _) (.inr rfl)
      · rename_i hc
        have hc' : (Lib.cut t [10]).2.2 = true := by
          cases hx : (Lib.cut t [10]).2.2 with
          | true => rfl
          | false => exact absurd hx hc
        split at h
        · rename_i k hl
          have h1 := leftL_count _ _ _ _ _ _ (Nat.le_refl _) hl
          have h2 := count_cut hc'
          exact key _ _ h (by omega) (.inl rfl)
        · split at h
          · exact absurd (congrArg Prod.fst h).symm he
          · exact key _ _ h (Nat.zero_le _) (.inr rfl)
end Go.Proofs.YtjelhdpcaileiaaGreatDoor


/-! The plain law of fonts as texts: what is printed is read as it was. -/
namespace Go.Proofs.YtjelhdpcaileiaaGreatDoor
open Go.RowKit

/-- Letters as they are read. -/
def asRead (h : Nat) (l : Ltr) : Ltr := mkLtr h l.text l.W.toNat l.bs
structure LtrFit (h : Nat) (l : Ltr) : Prop where
  txt : textB l.text = true
  W : 1 ≤ l.W
  H : l.H = (h : Int)
  m : l.m = l.bs.length
  n : l.bs.length = h * l.W.toNat
theorem face_read {h : Nat} {l : Ltr} (hf : LtrFit h l) : (asRead h l).face = l.face := by
  obtain ⟨t, W, H, A, m, c, bs⟩ := l
  obtain ⟨-, h1, h2, h3, -⟩ := hf
  simp only at h1 h2 h3
  unfold asRead mkLtr Ltr.face
  simp only [Prod.mk.injEq, true_and, and_true]
  exact ⟨by omega, h2.symm, h3.symm⟩
theorem text_parts {s : List UInt8} (h : textB s = true) : printB s = true ∧ s ≠ [] ∧ (10 : UInt8) ∉ s := by
  unfold textB at h
  simp only [Bool.and_eq_true, decide_eq_true_eq] at h
  refine ⟨decide_eq_true h.1, fun e => by rw [e] at h; exact absurd h.2.1 (by decide), fun hm => ?_⟩
  have := h.1 10 hm
  exact absurd this.1 (by decide)
theorem leftL_read (h : Nat) (h0 : 1 ≤ h) : ∀ (ls : List Ltr) (a : Nat) (done : List Ltr), (∀ l ∈ ls, LtrFit h l) → leftL h (ltrsTx ls) a done = .inr (done ++ ls.map (asRead h))
  | [], a, done, _ => by rw [show ltrsTx [] = [] from rfl, leftL_nil rfl]; simp
  | l :: ls, a, done, hf => by
    have hl := hf l (by simp)
    obtain ⟨t1, t2, t3⟩ := text_parts hl.txt
    have hW : 1 ≤ l.W.toNat := by have := hl.W; omega
    have hH : l.H.toNat = h := by rw [hl.H]; rfl
    have htx : ltrsTx (l :: ls) = (letK ++ l.text) ++ 10 :: (rowsL l.W.toNat h l.bs ++ ltrsTx ls) := by
      show ltrTx l ++ ltrsTx ls = _
      unfold ltrTx
      rw [hH, prL_rows hl.n]
      simp only [List.append_assoc, List.cons_append]
    have hcut : Lib.cut (ltrsTx (l :: ls)) [10] = (letK ++ l.text, rowsL l.W.toNat h l.bs ++ ltrsTx ls, true) := by
      rw [htx]
      refine cut_at fun hm => ?_
      rcases List.mem_append.1 hm with hm | hm
      · exact absurd hm (by decide)
      · exact t3 hm
    obtain ⟨p1, p2⟩ := pre_app letK l.text
    have he : (ltrsTx (l :: ls)).isEmpty = false := by rw [htx]; rfl
    have hb : ¬ badLetter (ltrsTx (l :: ls)) = true := by
      unfold badLetter
      rw [hcut]
      simp only [p1, p2, t1]
      have : l.text.isEmpty = false := by
        cases hx : l.text with
        | nil => exact absurd hx t2
        | cons _ _ => rfl
      rw [this]
      decide
    have hr : rowsF h 0 (Lib.cut (ltrsTx (l :: ls)) [10]).2.1 0 [] = .inr (ltrsTx ls, l.W.toNat, l.bs) := by
      rw [hcut]
      have := rowsF_read h 0 l.W.toNat l.bs [] (ltrsTx ls) 0 hW hl.n (fun h => absurd h (Nat.lt_irrefl 0))
      rw [if_neg (by omega), List.nil_append] at this
      exact this
    rw [leftL_go he hb hr, hcut]
    simp only [p2]
    rw [leftL_read h h0 ls _ _ (fun x hx => hf x (List.mem_cons_of_mem _ hx)), List.append_assoc]
    rfl
theorem fontOf_printed {nm : List UInt8} {ht gap sp : Nat} {ls : List Ltr} (h : fontErr (nameB nm) ht gap sp ls = 0) (hm : ∀ l ∈ ls, l.bs.length = l.m) (hlen : (fontTx nm ht gap sp ls).length ≤ 1048576) :
    fontOf (fontTx nm ht gap sp ls) = (0, 0, nm, ht, gap, sp, ls.map (asRead ht)) ∧ (ls.map (asRead ht)).map Ltr.face = ls.map Ltr.face := by
  obtain ⟨⟨hnm, hrg, hgs, hl0, hl2, h1, h2⟩, hl⟩ := fontErr_zero h
  have hrg2 : gap ≤ 16 ∧ sp ≤ 64 := by
    unfold rangeB at hrg
    simp only [Bool.and_eq_true] at hrg
    have h3 := inB_true.1 hrg.2.1
    have h4 := inB_true.1 hrg.2.2
    omega
  have hfit : ∀ l ∈ ls, LtrFit ht l := fun l hl' => by
    obtain ⟨a1, a2, a3, a4⟩ := hl l hl'
    obtain ⟨W, H, e1, e2, e3, -, -, -⟩ := page_nat a2
    have hsz := sizeErr_zero (pageErr_zero a2).1
    have hmm := hm l hl'
    have hHt : H = ht := by rw [e2] at a3; omega
    refine ⟨a1, by omega, a3, hmm.symm, ?_⟩
    rw [hmm, e3, e1, hHt, Int.toNat_natCast, Nat.mul_comm]
  have hface : (ls.map (asRead ht)).map Ltr.face = ls.map Ltr.face := by
    rw [List.map_map]
    exact List.map_congr_left fun l hl' => face_read (hfit l hl')
  have hkey : (ls.map (asRead ht)).map Ltr.key = ls.map Ltr.key := by
    rw [List.map_map]
    exact List.map_congr_left fun l hl' => key_of_face (face_read (hfit l hl'))
  refine ⟨?_, hface⟩
  have hnb := name_byte hnm
  have hcut : Lib.cut (fontTx nm ht gap sp ls) [10] = (fontLine nm ht gap sp, ltrsTx ls, true) := cut_at (fontLine_nl fun hx => (hnb 10 hx).2 rfl)
  have hhead : headF (fontLine nm ht gap sp) = some (nm, ht, gap, sp) := headF_iff.2 ⟨fontLine_words fun x hx => (hnb x hx).1, name_some hnm, by omega, by omega, by omega⟩
  unfold fontOf
  rw [if_neg (by omega), hcut]
  simp only [hhead]
  rw [if_neg (by decide), leftL_read ht (by omega) ls 1 [] hfit]
  simp only [List.nil_append]
  rw [fontErr_key hkey, if_pos h]
end Go.Proofs.YtjelhdpcaileiaaGreatDoor
