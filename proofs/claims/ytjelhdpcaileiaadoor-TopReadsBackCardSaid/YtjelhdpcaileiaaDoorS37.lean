/- glyph.Distance of right pages; bedtop.apart: letters that are told apart. -/
import Derived.Test.YtjelhdpcaileiaaDoorS33
import Derived.Test.YtjelhdpcaileiaaDoorS30
import Derived.Test.YtjelhdpcaileiaaDoorS27
import Derived.Test.YtjelhdpcaileiaaDoorS36

namespace Go.Proofs.YtjelhdpcaileiaaDoor
open Go.RowKit Go.Shelf

/-! ### what is spelled is the text -/
def itemText (ls : List Ltr) : Option Nat → List UInt8
  | none => [32]
  | some k => txtOf ls k
def itemsText (ls : List Ltr) (l : List (Option Nat)) : List UInt8 := l.flatMap (itemText ls)
theorem speltN_text {ls : List Ltr} : ∀ (n : Nat) (t : List UInt8) (l : List (Option Nat)), speltN ls n t = some l → itemsText ls l = t := by
  intro n
  induction n with
  | zero =>
    intro t l h
    cases t with
    | nil => have h := Option.some.inj h; subst h; rfl
    | cons c t => cases h
  | succ n ih =>
    intro t l h
    cases t with
    | nil => have h := Option.some.inj h; subst h; rfl
    | cons c t =>
      unfold speltN at h
      split at h
      · rename_i hc
        obtain ⟨l', h1, rfl⟩ := Option.map_eq_some_iff.1 h
        show [32] ++ itemsText ls l' = c :: t
        rw [ih _ _ h1, hc]
        rfl
      · split at h
        · cases h
        · rename_i h0
          obtain ⟨l', h1, rfl⟩ := Option.map_eq_some_iff.1 h
          obtain ⟨k, hk, e, hp⟩ := headOf_in ls (c :: t) (by omega)
          rw [e] at h1 ⊢
          simp only [Int.toNat_natCast] at h1 ⊢
          show txtOf ls k ++ itemsText ls l' = c :: t
          rw [ih _ _ h1]
          unfold Lib.hasPrefix at hp
          obtain ⟨r, hr⟩ := List.isPrefixOf_iff_prefix.1 hp
          rw [← hr, List.drop_left]
theorem spelt_text {ls : List Ltr} {t : List UInt8} {l : List (Option Nat)} (h : spelt ls t = some l) : itemsText ls l = t := speltN_text _ _ _ h
/-- No space at either end, none beside another one; the flag: a letter stands ahead. -/
def okItems : Bool → List (Option Nat) → Prop
  | b, [] => b = true
  | b, none :: l => b = true ∧ okItems false l
  | _, some _ :: l => okItems true l
theorem ok_items {ls : List Ltr} : ∀ (l : List (Option Nat)) (b : Bool), (b = false → itemsText ls l ≠ [] ∧ ∀ r, itemsText ls l ≠ 32 :: r) → (∀ p, itemsText ls l ≠ p ++ [32]) → (∀ p r, itemsText ls l ≠ p ++ 32 :: 32 :: r) → okItems b l
  | [], b, h1, _, _ => by
    cases b
    · exact absurd rfl (h1 rfl).1
    · rfl
  | none :: l, b, h1, h2, h3 => by
    have e : itemsText ls (none :: l) = 32 :: itemsText ls l := rfl
    rw [e] at h1 h2 h3
    refine ⟨?_, ok_items l false (fun _ => ⟨fun h => h2 [] (by rw [h]; rfl), fun r h => h3 [] r (by rw [h]; rfl)⟩) (fun p h => h2 (32 :: p) (by rw [h]; rfl)) (fun p r h => h3 (32 :: p) r (by rw [h]; rfl))⟩
    cases b
    · exact absurd rfl ((h1 rfl).2 _)
    · rfl
  | some k :: l, b, h1, h2, h3 => by
    have e : itemsText ls (some k :: l) = txtOf ls k ++ itemsText ls l := rfl
    rw [e] at h1 h2 h3
    exact ok_items l true (fun h => absurd h (by decide)) (fun p h => h2 (txtOf ls k ++ p) (by rw [h, List.append_assoc])) (fun p r h => h3 (txtOf ls k ++ p) r (by rw [h, List.append_assoc]))
theorem ok_text {ls : List Ltr} {t : List UInt8} {l : List (Option Nat)} (h : spelt ls t = some l) (hn : t ≠ []) (hf : formB t = false) : okItems false l := by
  have e := spelt_text h
  have hb := bad_form hf
  unfold BadForm at hb
  refine ok_items (ls := ls) l false (fun _ => ⟨by rw [e]; exact hn, fun r hr => hb (.inl ⟨r, by rw [← e]; exact hr⟩)⟩) (fun p hp => hb (.inr (.inl ⟨p, by rw [← e]; exact hp⟩))) (fun p r hp => hb (.inr (.inr ⟨p, r, by rw [← e]; exact hp⟩)))

/-! ### where letters stand -/
def boxOf (ls : List Ltr) (p : Nat × Nat) : Piece := (p.2, wdOf ls p.1)
theorem putAt_start {ls : List Ltr} {gap sp : Nat} : ∀ (l : List (Option Nat)) (s : Spot), ∀ p ∈ putAt ls gap sp s l, s.1 ≤ p.2
  | [], _, p, hp => by cases hp
  | none :: l, s, p, hp => by
    have h : s.1 + sp ≤ p.2 := putAt_start l (goOn ls gap sp s none) p hp
    omega
  | some k :: l, s, p, hp => by
    have h0 : s.1 ≤ spotOf gap s := by unfold spotOf; split <;> omega
    rcases List.mem_cons.1 hp with rfl | hp
    · exact h0
    · have h : spotOf gap s + wdOf ls k ≤ p.2 := putAt_start l (goOn ls gap sp s (some k)) p hp
      omega
theorem putAt_letters {ls : List Ltr} {gap sp : Nat} : ∀ (l : List (Option Nat)) (s : Spot), ∀ p ∈ putAt ls gap sp s l, some p.1 ∈ l
  | [], _, p, hp => by cases hp
  | none :: l, s, p, hp => List.mem_cons_of_mem _ (putAt_letters l _ p hp)
  | some k :: l, s, p, hp => by
    rcases List.mem_cons.1 hp with rfl | hp
    · exact List.mem_cons_self ..
    · exact List.mem_cons_of_mem _ (putAt_letters l _ p hp)
theorem setF_before {ls : List Ltr} {pl : List (Nat × Nat)} {x y : Nat} (h : ∀ p ∈ pl, x < p.2) : setF ls pl x y = false := by
  unfold setF
  rw [List.any_eq_false]
  intro p hp
  have := h p hp
  unfold litAt
  simp
  omega
theorem setF_own {ls : List Ltr} {gap sp : Nat} : ∀ (l : List (Option Nat)) (s : Spot) (p : Nat × Nat), p ∈ putAt ls gap sp s l → ∀ i y, i < wdOf ls p.1 → setF ls (putAt ls gap sp s l) (p.2 + i) y = pix (bsOf ls p.1) (wdOf ls p.1) i y
  | [], _, p, hp, _, _, _ => by cases hp
  | none :: l, s, p, hp, i, y, hi => setF_own l (goOn ls gap sp s none) p hp i y hi
  | some k :: l, s, p, hp, i, y, hi => by
    have e : putAt ls gap sp s (some k :: l) = [(k, spotOf gap s)] ++ putAt ls gap sp (goOn ls gap sp s (some k)) l := rfl
    rw [e, setF_append, setF_one]
    have hst := putAt_start (ls := ls) (gap := gap) (sp := sp) l (goOn ls gap sp s (some k))
    have hgo : (goOn ls gap sp s (some k)).1 = spotOf gap s + wdOf ls k := rfl
    rw [hgo] at hst
    rcases List.mem_cons.1 hp with rfl | hp
    · rw [litAt_in hi, setF_before (fun q hq => by have := hst q hq; have hi' : i < wdOf ls k := hi; show spotOf gap s + i < q.2; omega), Bool.or_false]
    · have hp2 := hst p hp
      have hl : litAt ls (k, spotOf gap s) (p.2 + i) y = false := by
        unfold litAt
        rw [decide_eq_false (show ¬ (p.2 + i < spotOf gap s + wdOf ls k) by omega)]
        simp
      rw [hl, Bool.false_or]
      exact setF_own l _ p hp i y hi

/-! ### pieces -/
theorem pieces_blank {f : Nat → Nat} {a : Nat} : ∀ m, (∀ x, a ≤ x → x < a + m → f x = 0) → piecesTo f (a + m) = piecesTo f a
  | 0, _ => rfl
  | m + 1, h => by
    show (if f (a + m) = 0 then piecesTo f (a + m) else _) = _
    rw [if_pos (h _ (by omega) (by omega))]
    exact pieces_blank m (fun x h1 h2 => h x h1 (by omega))
theorem pieces_inked {f : Nat → Nat} {a : Nat} (ha : ahead f a = false) : ∀ m, (∀ x, a ≤ x → x < a + (m + 1) → 0 < f x) → piecesTo f (a + (m + 1)) = piecesTo f a ++ [(a, m + 1)]
  | 0, h => by
    have h0 := h a (by omega) (by omega)
    show (if f a = 0 then piecesTo f a else if ahead f a = true then wider (piecesTo f a) else piecesTo f a ++ [(a, 1)]) = _
    rw [if_neg (by omega), if_neg (by rw [ha]; decide)]
  | m + 1, h => by
    have ih := pieces_inked ha m (fun x h1 h2 => h x h1 (by omega))
    have h1 := h (a + (m + 1)) (by omega) (by omega)
    have h2 : ahead f (a + (m + 1)) = true := decide_eq_true (h (a + m) (by omega) (by omega))
    show (if f (a + (m + 1)) = 0 then piecesTo f (a + (m + 1)) else if ahead f (a + (m + 1)) = true then wider (piecesTo f (a + (m + 1))) else piecesTo f (a + (m + 1)) ++ [(a + (m + 1), 1)]) = _
    rw [if_neg (by omega), if_pos h2, ih, wider_append]
theorem ahead_blank {f : Nat → Nat} {a : Nat} (ha : 1 ≤ a) (h : f (a - 1) = 0) : ahead f a = false := by
  obtain ⟨b, rfl⟩ : ∃ b, a = b + 1 := ⟨a - 1, by omega⟩
  exact decide_eq_false (by rw [Nat.add_sub_cancel] at h; omega)
theorem ahead_inked {f : Nat → Nat} {a : Nat} (ha : 1 ≤ a) (h : 0 < f (a - 1)) : ahead f a = true := by
  obtain ⟨b, rfl⟩ : ∃ b, a = b + 1 := ⟨a - 1, by omega⟩
  exact decide_eq_true (by rw [Nat.add_sub_cancel] at h; exact h)
theorem pieces_put {ls : List Ltr} {gap sp : Nat} {f : Nat → Nat} (hg : 1 ≤ gap) (hs : 1 ≤ sp) : ∀ (l : List (Option Nat)) (s : Spot), (∀ k, some k ∈ l → 1 ≤ wdOf ls k) → ahead f s.1 = s.2 →
    (∀ x, s.1 ≤ x → x < (goAll ls gap sp s l).1 → (0 < f x ↔ ∃ p ∈ putAt ls gap sp s l, p.2 ≤ x ∧ x < p.2 + wdOf ls p.1)) → piecesTo f (goAll ls gap sp s l).1 = piecesTo f s.1 ++ (putAt ls gap sp s l).map (boxOf ls)
  | [], s, _, _, _ => by show piecesTo f s.1 = piecesTo f s.1 ++ []; rw [List.append_nil]
  | none :: l, s, hw, ha, hf => by
    have e1 : goAll ls gap sp s (none :: l) = goAll ls gap sp (s.1 + sp, false) l := rfl
    have e2 : putAt ls gap sp s (none :: l) = putAt ls gap sp (s.1 + sp, false) l := rfl
    rw [e1, e2] at hf ⊢
    have hm : s.1 + sp ≤ (goAll ls gap sp (s.1 + sp, false) l).1 := goAll_mono l (s.1 + sp, false)
    have hbl : ∀ x, s.1 ≤ x → x < s.1 + sp → f x = 0 := fun x h1 h2 => by
      have h3 := hf x h1 (by omega)
      rcases Nat.eq_zero_or_pos (f x) with h4 | h4
      · exact h4
      · obtain ⟨p, hp, h5, -⟩ := h3.1 h4
        have h6 : s.1 + sp ≤ p.2 := putAt_start l (s.1 + sp, false) p hp
        omega
    rw [pieces_put hg hs l (s.1 + sp, false) (fun k hk => hw k (List.mem_cons_of_mem _ hk)) (ahead_blank (by show 1 ≤ s.1 + sp; omega) (hbl _ (by show s.1 ≤ s.1 + sp - 1; omega) (by show s.1 + sp - 1 < s.1 + sp; omega))) (fun x h1 h2 => hf x (by have h1' : s.1 + sp ≤ x := h1; omega) h2)]
    show piecesTo f (s.1 + sp) ++ _ = _
    rw [pieces_blank sp hbl]
  | some k :: l, s, hw, ha, hf => by
    obtain ⟨a, haa⟩ : ∃ a, a = spotOf gap s := ⟨_, rfl⟩
    have hwk := hw k (List.mem_cons_self ..)
    obtain ⟨m, hm⟩ : ∃ m, wdOf ls k = m + 1 := ⟨wdOf ls k - 1, by omega⟩
    have e1 : goAll ls gap sp s (some k :: l) = goAll ls gap sp (a + (m + 1), true) l := by rw [← hm, haa]; rfl
    have e2 : putAt ls gap sp s (some k :: l) = (k, a) :: putAt ls gap sp (a + (m + 1), true) l := by rw [← hm, haa]; rfl
    rw [e1, e2] at hf
    rw [e1, e2]
    have hsa : s.1 ≤ a := by rw [haa]; unfold spotOf; split <;> omega
    have hmo : a + (m + 1) ≤ (goAll ls gap sp (a + (m + 1), true) l).1 := goAll_mono l (a + (m + 1), true)
    have hst : ∀ p ∈ putAt ls gap sp (a + (m + 1), true) l, a + (m + 1) ≤ p.2 := putAt_start l (a + (m + 1), true)
    have hbl : ∀ x, s.1 ≤ x → x < s.1 + (a - s.1) → f x = 0 := fun x h1 h2 => by
      have h3 := hf x h1 (by omega)
      rcases Nat.eq_zero_or_pos (f x) with h4 | h4
      · exact h4
      · obtain ⟨p, hp, h5, -⟩ := h3.1 h4
        rcases List.mem_cons.1 hp with rfl | hp
        · have h5' : a ≤ x := h5
          omega
        · have := hst p hp
          omega
    have hin : ∀ x, a ≤ x → x < a + (m + 1) → 0 < f x := fun x h1 h2 => (hf x (by omega) (by omega)).2 ⟨(k, a), List.mem_cons_self .., h1, by show x < a + wdOf ls k; omega⟩
    have haf : ahead f a = false := by
      cases h2 : s.2 with
      | true =>
        have h3 : a = s.1 + gap := by rw [haa]; unfold spotOf; rw [if_pos h2]
        exact ahead_blank (by omega) (hbl _ (by omega) (by omega))
      | false =>
        have h3 : a = s.1 := by rw [haa]; unfold spotOf; rw [h2]; rfl
        rw [h3, ha, h2]
    have hpa : piecesTo f a = piecesTo f s.1 := by
      have h := pieces_blank (a - s.1) hbl
      rw [show s.1 + (a - s.1) = a by omega] at h
      exact h
    rw [pieces_put hg hs l (a + (m + 1), true) (fun k hk => hw k (List.mem_cons_of_mem _ hk)) (ahead_inked (by show 1 ≤ a + (m + 1); omega) (hin _ (by show a ≤ a + (m + 1) - 1; omega) (by show a + (m + 1) - 1 < a + (m + 1); omega)))
      (fun x h1 h2 => by
        have h1' : a + (m + 1) ≤ x := h1
        refine (hf x (by omega) h2).trans ⟨fun ⟨p, hp, h3, h4⟩ => ?_, fun ⟨p, hp, h3, h4⟩ => ⟨p, List.mem_cons_of_mem _ hp, h3, h4⟩⟩
        rcases List.mem_cons.1 hp with rfl | hp
        · have h4' : x < a + wdOf ls k := h4
          omega
        · exact ⟨p, hp, h3, h4⟩)]
    show piecesTo f (a + (m + 1)) ++ _ = _
    rw [pieces_inked haf m hin, hpa, List.map_cons, List.append_assoc]
    have e3 : boxOf ls (k, a) = (a, m + 1) := by unfold boxOf; rw [hm]
    rw [e3]
    rfl

/-! ### the line -/
theorem line_back {see : Piece → List Value} {gs : Int} {H : Nat} {ps : List Piece} {ls : List Ltr} {gap sp : Nat} (hg1 : (gap : Int) < gs) (hg2 : gs ≤ (sp : Int)) : ∀ (l : List (Option Nat)) (s : Spot) (i : Nat) (ss0 : List Sn), okItems s.2 l → i ≤ ps.length →
    ps.drop i = (putAt ls gap sp s l).map (boxOf ls) → lineTo see gs H ps i = ss0.map Sn.cells → (i = 0 ∧ s = (0, false) ∨ 0 < i ∧ endAt ps (i - 1) = if s.2 = true then (s.1 : Int) else (s.1 : Int) - (sp : Int)) →
    (∀ p ∈ putAt ls gap sp s l, ∃ sn : Sn, see (boxOf ls p) = sn.cells ∧ sn.t = txtOf ls p.1 ∧ sn.t.length ≤ 4) →
    ∃ ss : List Sn, lineTo see gs H ps ps.length = (ss0 ++ ss).map Sn.cells ∧ textOf ss = (if 0 < i ∧ s.2 = false then [32] else []) ++ itemsText ls l ∧ ∀ x ∈ ss, x.t.length ≤ 4
  | [], s, i, ss0, hok, hi, hd, hl, _, _ => by
    have hd' : ps.drop i = [] := hd
    have h1 : ps.length ≤ i := List.drop_eq_nil_iff.1 hd'
    have h2 : i = ps.length := by omega
    have h3 : s.2 = true := hok
    refine ⟨[], by rw [← h2, hl, List.append_nil], ?_, fun x hx => absurd hx (by simp)⟩
    rw [if_neg (by rw [h3]; simp)]
    rfl
  | none :: l, s, i, ss0, hok, hi, hd, hl, hinv, hsee => by
    have h3 : s.2 = true := hok.1
    have hpos : 0 < i ∧ endAt ps (i - 1) = (s.1 : Int) := by
      rcases hinv with ⟨-, h⟩ | ⟨h1, h2⟩
      · rw [h] at h3; cases h3
      · rw [if_pos h3] at h2; exact ⟨h1, h2⟩
    obtain ⟨ss, h4, h5, h6⟩ := line_back hg1 hg2 l (s.1 + sp, false) i ss0 hok.2 hi hd hl (.inr ⟨hpos.1, by rw [if_neg (by simp), hpos.2]; show (s.1 : Int) = ((s.1 + sp : Nat) : Int) - (sp : Int); omega⟩) hsee
    refine ⟨ss, h4, ?_, h6⟩
    rw [h5, if_pos ⟨hpos.1, rfl⟩, if_neg (by rw [h3]; simp)]
    rfl
  | some k :: l, s, i, ss0, hok, hi, hd, hl, hinv, hsee => by
    obtain ⟨a, haa⟩ : ∃ a, a = spotOf gap s := ⟨_, rfl⟩
    have e2 : putAt ls gap sp s (some k :: l) = (k, a) :: putAt ls gap sp (a + wdOf ls k, true) l := by rw [haa]; rfl
    rw [e2] at hd hsee
    rw [List.map_cons] at hd
    have hlt : i < ps.length := by
      rcases Nat.lt_or_ge i ps.length with h | h
      · exact h
      · rw [List.drop_eq_nil_of_le h] at hd; cases hd
    rw [List.drop_eq_getElem_cons hlt] at hd
    injection hd with hd1 hd2
    have hpa : pieceAt ps i = (a, wdOf ls k) := by
      unfold pieceAt
      rw [List.getD_eq_getElem?_getD, List.getElem?_eq_getElem hlt, hd1]
      rfl
    obtain ⟨sn, hs1, hs2, hs3⟩ := hsee (k, a) (List.mem_cons_self ..)
    have hs1' : see (pieceAt ps i) = sn.cells := by rw [hpa]; exact hs1
    have hend : endAt ps (i + 1 - 1) = ((a + wdOf ls k : Nat) : Int) := by
      unfold endAt
      rw [Nat.add_sub_cancel, hpa]
      show (a : Int) + (wdOf ls k : Int) = _
      omega
    have hinv2 : i + 1 = 0 ∧ ((a + wdOf ls k, true) : Spot) = (0, false) ∨ 0 < i + 1 ∧ endAt ps (i + 1 - 1) = if ((a + wdOf ls k, true) : Spot).2 = true then (((a + wdOf ls k, true) : Spot).1 : Int) else (((a + wdOf ls k, true) : Spot).1 : Int) - (sp : Int) :=
      .inr ⟨by omega, by rw [if_pos rfl]; exact hend⟩
    have hgap : gapAt ps i = (a : Int) - endAt ps (i - 1) := by unfold gapAt; rw [hpa]
    have e3 : lineTo see gs H ps (i + 1) = lineTo see gs H ps i ++ (if 0 < i ∧ gs ≤ gapAt ps i then [spaceCells (endAt ps (i - 1)) (gapAt ps i) H] else []) ++ [see (pieceAt ps i)] := rfl
    by_cases hc : 0 < i ∧ s.2 = false
    · have hge : gs ≤ gapAt ps i := by
        rcases hinv with ⟨h, -⟩ | ⟨-, h⟩
        · omega
        · rw [if_neg (by rw [hc.2]; simp)] at h
          have h7 : a = s.1 := by rw [haa]; unfold spotOf; rw [hc.2]; rfl
          rw [hgap, h, h7]
          omega
      rw [if_pos ⟨hc.1, hge⟩, hl, hs1'] at e3
      obtain ⟨ss, h4, h5, h6⟩ := line_back hg1 hg2 l (a + wdOf ls k, true) (i + 1) (ss0 ++ [⟨[32], endAt ps (i - 1), 0, gapAt ps i, H, 0, -1⟩] ++ [sn]) hok (by omega) hd2 (by rw [e3, List.map_append, List.map_append]; rfl) hinv2 (fun p hp => hsee p (List.mem_cons_of_mem _ hp))
      refine ⟨⟨[32], endAt ps (i - 1), 0, gapAt ps i, H, 0, -1⟩ :: sn :: ss, by rw [h4]; simp, ?_, ?_⟩
      · rw [if_neg (by simp)] at h5
        rw [if_pos hc]
        show [32] ++ (sn.t ++ textOf ss) = [32] ++ (txtOf ls k ++ itemsText ls l)
        rw [h5, hs2]
        rfl
      · intro x hx
        rcases List.mem_cons.1 hx with rfl | hx
        · show 1 ≤ 4; omega
        · rcases List.mem_cons.1 hx with rfl | hx
          · exact hs3
          · exact h6 x hx
    · have hge : ¬ (0 < i ∧ gs ≤ gapAt ps i) := by
        rintro ⟨h0, h1⟩
        have h2 : s.2 = true := by
          cases h : s.2
          · exact absurd ⟨h0, h⟩ hc
          · rfl
        rcases hinv with ⟨h, -⟩ | ⟨-, h⟩
        · omega
        · rw [if_pos h2] at h
          have h7 : a = s.1 + gap := by rw [haa]; unfold spotOf; rw [if_pos h2]
          rw [hgap, h, h7] at h1
          omega
      rw [if_neg hge, hl, hs1', List.append_nil] at e3
      obtain ⟨ss, h4, h5, h6⟩ := line_back hg1 hg2 l (a + wdOf ls k, true) (i + 1) (ss0 ++ [sn]) hok (by omega) hd2 (by rw [e3, List.map_append]; rfl) hinv2 (fun p hp => hsee p (List.mem_cons_of_mem _ hp))
      refine ⟨sn :: ss, by rw [h4]; simp, ?_, ?_⟩
      · rw [if_neg (by simp)] at h5
        rw [if_neg hc]
        show sn.t ++ textOf ss = [] ++ (txtOf ls k ++ itemsText ls l)
        rw [h5, hs2]
        rfl
      · intro x hx
        rcases List.mem_cons.1 hx with rfl | hx
        · exact hs3
        · exact h6 x hx

/-! ### distances -/
theorem mostN_ge {f : Nat → Nat} : ∀ {n i : Nat}, i < n → f i ≤ mostN f n
  | 0, i, h => absurd h (Nat.not_lt_zero _)
  | n + 1, i, h => by
    show f i ≤ max (mostN f n) (f n)
    by_cases e : i = n
    · rw [e]; omega
    · have := mostN_ge (f := f) (n := n) (i := i) (by omega)
      omega
theorem both_self (A : Int → Int → Bool) (W H : Nat) : bothN A A W H W H 0 0 = inkA A W H := by
  unfold bothN inkA overN
  rw [show max (0 : Int) 0 = 0 by omega, show (min (W : Int) ((W : Int) + 0) - 0).toNat = W by omega, show (min (H : Int) ((H : Int) + 0) - 0).toNat = H by omega]
  refine win2_congr fun x y => ?_
  rw [Int.sub_zero, Int.sub_zero, Bool.and_self]
theorem far_self {W H : Nat} (bs : List Bool) (hW : W ≤ 4000) (hH : H ≤ 4000) : farN (inkF bs W H) (inkF bs W H) W H W H 1 = 0 := by
  have h1 := (far_range (W := W) (H := H) (W' := W) (H' := H) (r := 1) (cs := bs) (bs := bs) hW hH hW hH).1
  have h2 : shifted (inkF bs W H) (inkF bs W H) W H W H 1 4 = inkA (inkF bs W H) W H := by
    unfold shifted
    rw [show shiftX 1 4 = 0 from rfl, show shiftY 1 4 = 0 from rfl, both_self]
  have h3 := mostN_ge (f := shifted (inkF bs W H) (inkF bs W H) W H W H 1) (n := (2 * 1 + 1) * (2 * 1 + 1)) (i := 4) (by decide)
  rw [h2] at h3
  unfold farN at h1 ⊢
  omega
theorem both_sym (A B : Int → Int → Bool) (W H W' H' : Nat) (dx dy : Int) : bothN A B W H W' H' dx dy = bothN B A W' H' W H (-dx) (-dy) := by
  unfold bothN overN
  have e : (fun x y => b1 (A x y && B (x - dx) (y - dy))) = fun x y => (fun z t => b1 (B z t && A (z - -dx) (t - -dy))) (x - dx) (y - dy) := by
    funext x y
    show b1 (A x y && B (x - dx) (y - dy)) = b1 (B (x - dx) (y - dy) && A (x - dx - -dx) (y - dy - -dy))
    rw [show x - dx - -dx = x by omega, show y - dy - -dy = y by omega, Bool.and_comm]
  rw [e, win2_shift (fun z t => b1 (B z t && A (z - -dx) (t - -dy)))]
  rw [show max 0 dx - dx = max 0 (-dx) by omega, show max 0 dy - dy = max 0 (-dy) by omega]
  rw [show (min (W : Int) ((W' : Int) + dx) - max 0 dx).toNat = (min (W' : Int) ((W : Int) + -dx) - max 0 (-dx)).toNat by omega, show (min (H : Int) ((H' : Int) + dy) - max 0 dy).toNat = (min (H' : Int) ((H : Int) + -dy) - max 0 (-dy)).toNat by omega]
theorem shift_sym (A B : Int → Int → Bool) (W H W' H' : Nat) {i : Nat} (hi : i < 9) : shifted A B W H W' H' 1 i = shifted B A W' H' W H 1 (8 - i) := by
  unfold shifted
  rw [both_sym]
  have e1 : -(shiftX 1 i) = shiftX 1 (8 - i) := by
    unfold shiftX
    show -(((i % 3 : Nat) : Int) - 1) = (((8 - i) % 3 : Nat) : Int) - 1
    omega
  have e2 : -(shiftY 1 i) = shiftY 1 (8 - i) := by
    unfold shiftY
    show -(((i / 3 : Nat) : Int) - 1) = (((8 - i) / 3 : Nat) : Int) - 1
    omega
  rw [e1, e2]
theorem far_sym (A B : Int → Int → Bool) (W H W' H' : Nat) : farN A B W H W' H' 1 = farN B A W' H' W H 1 := by
  have h : ∀ (A B : Int → Int → Bool) (W H W' H' : Nat), mostN (shifted A B W H W' H' 1) ((2 * 1 + 1) * (2 * 1 + 1)) ≤ mostN (shifted B A W' H' W H 1) ((2 * 1 + 1) * (2 * 1 + 1)) := fun A B W H W' H' => mostN_le fun i hi => by
    have hi' : i < 9 := hi
    rw [shift_sym A B W H W' H' hi']
    exact mostN_ge (by show 8 - i < 9; omega)
  have h1 := h A B W H W' H'
  have h2 := h B A W' H' W H
  unfold farN
  omega
/-- How far two letters are from each other. -/
def farLL (x y : Ltr) : Int := farL x.bs x.W.toNat x.H.toNat y
theorem farLL_sym (x y : Ltr) : farLL x y = farLL y x := far_sym _ _ _ _ _ _
/-- No letter is read as an earlier one. -/
def Told (ls : List Ltr) : Prop := ∀ (i j : Nat) (x y : Ltr), ls[i]? = some x → ls[j]? = some y → j < i → -2 ≤ x.W - y.W → x.W - y.W ≤ 2 → farLL x y ≠ 0
theorem best_own {ls : List Ltr} (hT : Told ls) (hl : ∀ l ∈ ls, l.W ≤ 64 ∧ l.H ≤ 4000 ∧ 0 ≤ l.W) {k : Nat} {l : Ltr} (hk : ls[k]? = some l) :
    ∀ i, i ≤ ls.length → (k < i → (bestOf l.bs l.W.toNat l.H.toNat [] (ls.take i)).1 = l.text ∧ (bestOf l.bs l.W.toNat l.H.toNat [] (ls.take i)).2.1 = 0) ∧ (i ≤ k → (bestOf l.bs l.W.toNat l.H.toNat [] (ls.take i)).2.1 ≠ 0)
  | 0, _ => ⟨fun h => absurd h (Nat.not_lt_zero _), fun _ => by show (-1 : Int) ≠ 0; decide⟩
  | i + 1, hi => by
    obtain ⟨h1, h2⟩ := best_own hT hl hk i (by omega)
    have hg : ls[i]? = some ls[i] := List.getElem?_eq_getElem (by omega)
    obtain ⟨x, hx⟩ : ∃ x, x = ls[i] := ⟨_, rfl⟩
    rw [← hx] at hg
    rw [bestOf_succ hg]
    obtain ⟨b, hb⟩ : ∃ b, b = bestOf l.bs l.W.toNat l.H.toNat [] (ls.take i) := ⟨_, rfl⟩
    rw [← hb] at h1 h2 ⊢
    have hlk := hl l (List.mem_of_getElem? hk)
    have hlx := hl x (List.mem_of_getElem? hg)
    have hW : ((l.W.toNat : Nat) : Int) = l.W := by omega
    have hr : 0 ≤ farL l.bs l.W.toNat l.H.toNat x := (far_range (by omega) (by omega) (by omega) (by omega)).1
    by_cases hik : i = k
    · subst hik
      obtain rfl : x = l := Option.some.inj (hg.symm.trans hk)
      have h0 : farL x.bs x.W.toNat x.H.toNat x = 0 := far_self x.bs (by omega) (by omega)
      refine ⟨fun _ => ?_, fun h => absurd h (by omega)⟩
      have hne := h2 (Nat.le_refl _)
      unfold bestStep
      rw [if_neg (by rw [hW]; omega), h0, if_pos (by omega)]
      exact ⟨rfl, rfl⟩
    · have hfar : -2 ≤ x.W - l.W → x.W - l.W ≤ 2 → farL l.bs l.W.toNat l.H.toNat x ≠ 0 := fun h3 h4 => by
        rcases Nat.lt_or_ge i k with h5 | h5
        · exact hT k i l x hk hg h5 (by omega) (by omega)
        · have h6 := hT i k x l hg hk (by omega) h3 h4
          rw [farLL_sym] at h6
          exact h6
      unfold bestStep
      by_cases hw : x.W - ((l.W.toNat : Nat) : Int) < -2 ∨ 2 < x.W - ((l.W.toNat : Nat) : Int)
      · rw [if_pos hw]
        exact ⟨fun h => h1 (by omega), fun h => h2 (by omega)⟩
      · rw [if_neg hw]
        rw [hW] at hw
        have hf := hfar (by omega) (by omega)
        rcases Nat.lt_or_ge k i with h5 | h5
        · obtain ⟨h6, h7⟩ := h1 h5
          refine ⟨fun _ => ?_, fun h => absurd h (by omega)⟩
          rw [if_neg (by omega)]
          split
          · exact ⟨h6, h7⟩
          · exact ⟨h6, h7⟩
        · refine ⟨fun h => absurd h (by omega), fun _ => ?_⟩
          have h6 := h2 h5
          split
          · exact hf
          · split
            · exact h6
            · exact h6

/-! ### all together -/
/-- What else is known of the letters of a right font. -/
structure Inked (ht : Nat) (ls : List Ltr) : Prop where
  col : ∀ k, k < ls.length → ∀ x, x < wdOf ls k → ∃ y, y < ht ∧ pix (bsOf ls k) (wdOf ls k) x y = true
  len : ∀ k, k < ls.length → (bsOf ls k).length = wdOf ls k * ht
theorem bare_zero {ht : Int} {ls : List Ltr} : ∀ {prev : List (List UInt8)}, ltrsErr ht prev ls = 0 → ∀ l ∈ ls, bareB l.bs l.W.toNat l.H.toNat = false := by
  induction ls with
  | nil => intro prev _ l hl; cases hl
  | cons x ls ih =>
    intro prev h l hl
    have h' : (if ltrErr ht prev x = 0 then ltrsErr ht (prev ++ [x.text]) ls else ltrErr ht prev x) = 0 := h
    by_cases h0 : ltrErr ht prev x = 0
    · rw [if_pos h0] at h'
      rcases List.mem_cons.1 hl with rfl | hl
      · exact whenI_zero (firstNZ_zero h0 (whenI (bareB l.bs l.W.toNat l.H.toNat) 2) (by simp)) (by decide)
      · exact ih h' l hl
    · rw [if_neg h0] at h'
      exact absurd h' h0
theorem inked_of {nm : Bool} {ht gap sp : Nat} {ls : List Ltr} {w : World} {L : Option Addr} (hL : LtrsAt w L ls) (hR : Right ht gap sp ls) (h : fontErr nm ht gap sp ls = 0) : Inked ht ls := by
  have hlt : ltrsErr ht [] ls = 0 := by
    have h' : (if fontHead nm ht gap sp ls.length = 0 then ltrsErr ht [] ls else fontHead nm ht gap sp ls.length) = 0 := h
    by_cases h0 : fontHead nm ht gap sp ls.length = 0
    · rw [if_pos h0] at h'; exact h'
    · rw [if_neg h0] at h'; exact absurd h' h0
  refine ⟨fun k hk x hx => ?_, fun k hk => ?_⟩
  · have hg : ls[k]? = some ls[k] := List.getElem?_eq_getElem hk
    have hb := bare_zero hlt _ (List.getElem_mem hk)
    have hW : (ls[k]).W.toNat = wdOf ls k := (wdOf_at hg).symm
    have hH : (ls[k]).H.toNat = ht := by rw [hR.hts k hk]; rfl
    rw [hW, hH] at hb
    unfold bareB at hb
    have hb' := of_decide_eq_false hb
    rw [bsOf_at hg]
    refine (colN_pos _ _ _ _).1 ?_
    rcases Nat.eq_zero_or_pos (colN (ls[k]).bs (wdOf ls k) ht x) with h0 | h0
    · exact absurd ⟨x, hx, h0⟩ hb'
    · exact h0
  · have hg : ls[k]? = some ls[k] := List.getElem?_eq_getElem hk
    have h1 := (hL.2 _ (List.getElem_mem hk)).1.1
    rw [List.length_map, Nat.mul_one, hR.ms k hk] at h1
    rw [bsOf_at hg]
    exact h1
theorem read_back {ht gap sp : Nat} {ls : List Ltr} (hR : Right ht gap sp ls) (hI : Inked ht ls) (hT : Told ls) {t : List UInt8} {l : List (Option Nat)} (hl : spelt ls t = some l) (hn : t ≠ []) (hf : formB t = false) {W : Nat} (hW : W = (goAll ls gap sp (0, false) l).1) {bs : List Bool} (hbs : bs = grid W ht (setF ls (putAt ls gap sp (0, false) l))) :
    ∃ ss : List Sn, lineTo (seeOf bs W ht ls 0 ht) (((gap : Int) + (sp : Int) + 1) / 2) ht (piecesTo (colN bs W ht) W) (piecesTo (colN bs W ht) W).length = ss.map Sn.cells ∧ textOf ss = t ∧ ∀ x ∈ ss, x.t.length ≤ 4 := by
  have hin := spelt_in hl
  have hend := putAt_end (ls := ls) (gap := gap) (sp := sp) l (0, false)
  rw [← hW] at hend
  have hcol : ∀ x, 0 ≤ x → x < (goAll ls gap sp (0, false) l).1 → (0 < colN bs W ht x ↔ ∃ p ∈ putAt ls gap sp (0, false) l, p.2 ≤ x ∧ x < p.2 + wdOf ls p.1) := fun x _ hx => by
    rw [← hW] at hx
    rw [colN_pos]
    constructor
    · rintro ⟨y, hy, hp⟩
      rw [hbs, pix_grid W ht _ x y hx hy] at hp
      unfold setF at hp
      obtain ⟨p, hp1, hp2⟩ := List.any_eq_true.1 hp
      refine ⟨p, hp1, ?_⟩
      unfold litAt at hp2
      simp only [Bool.and_eq_true, decide_eq_true_eq] at hp2
      exact ⟨hp2.1, hp2.2.1⟩
    · rintro ⟨p, hp, h1, h2⟩
      obtain ⟨y, hy, hpx⟩ := hI.col p.1 (hin _ (putAt_letters l _ p hp)) (x - p.2) (by omega)
      refine ⟨y, hy, ?_⟩
      rw [hbs, pix_grid W ht _ x y hx hy]
      have h3 := setF_own l (0, false) p hp (x - p.2) y (by omega)
      rw [show p.2 + (x - p.2) = x by omega] at h3
      rw [h3]
      exact hpx
  have hps : piecesTo (colN bs W ht) W = (putAt ls gap sp (0, false) l).map (boxOf ls) := by
    have h := pieces_put (ls := ls) (gap := gap) (sp := sp) (f := colN bs W ht) hR.gap1.1 hR.sp1.1 l (0, false) (fun k hk => (hR.wd k (hin k hk)).2.1) rfl hcol
    rw [← hW] at h
    rw [h]
    rfl
  obtain ⟨ps, hps2⟩ : ∃ ps, ps = piecesTo (colN bs W ht) W := ⟨_, rfl⟩
  rw [← hps2] at hps ⊢
  have hlr : ∀ l ∈ ls, l.W ≤ 64 ∧ l.H ≤ 4000 ∧ 0 ≤ l.W := fun x hx => by
    obtain ⟨k, hk, rfl⟩ := List.mem_iff_getElem.1 hx
    have h1 := hR.wd k hk
    have h2 := hR.hts k hk
    have h3 := hR.ht1
    omega
  obtain ⟨ss, h1, h2, h3⟩ := line_back (see := seeOf bs W ht ls 0 ht) (gs := ((gap : Int) + (sp : Int) + 1) / 2) (H := ht) (ps := ps) (ls := ls) (gap := gap) (sp := sp) (by have := hR.wide; omega) (by have := hR.wide; omega) l (0, false) 0 []
    (ok_text hl hn hf) (Nat.zero_le _) (by rw [List.drop_zero]; exact hps) rfl (.inl ⟨rfl, rfl⟩) (fun p hp => by
      have hk := hin _ (putAt_letters l _ p hp)
      have hg : ls[p.1]? = some ls[p.1] := List.getElem?_eq_getElem hk
      have hWk : (ls[p.1]).W.toNat = wdOf ls p.1 := (wdOf_at hg).symm
      have hHk : (ls[p.1]).H.toNat = ht := by rw [hR.hts p.1 hk]; rfl
      have hcs : grid (wdOf ls p.1) ht (cutF bs W p.2 0) = (ls[p.1]).bs := by
        have hb := grid_pix (wdOf ls p.1) ht (bsOf ls p.1) (hI.len p.1 hk)
        rw [← bsOf_at hg]
        conv => rhs; rw [← hb]
        refine grid_congr _ _ _ _ fun x y hx hy => ?_
        unfold cutF
        have he := hend p hp
        rw [Nat.zero_add, hbs, pix_grid W ht _ _ _ (by omega) hy]
        exact setF_own l (0, false) p hp x y hx
      obtain ⟨h4, h5⟩ := (best_own hT hlr hg ls.length (Nat.le_refl _)).1 hk
      rw [List.take_length, hWk, hHk] at h4 h5
      have hse : seeOf bs W ht ls 0 ht (boxOf ls p) = seenCells (bestOf (ls[p.1]).bs (wdOf ls p.1) ht [] ls) p.2 (wdOf ls p.1) ht 0 ht := by
        show seenCells (bestOf (grid (wdOf ls p.1) ht (cutF bs W p.2 0)) (wdOf ls p.1) ht [] ls) p.2 (wdOf ls p.1) ht 0 ht = _
        rw [hcs]
      have hfo : farOff (bestOf (ls[p.1]).bs (wdOf ls p.1) ht [] ls) 0 ht (wdOf ls p.1) = false := by
        unfold farOff
        rw [h5]
        refine decide_eq_false ?_
        simp
      refine ⟨⟨(bestOf (ls[p.1]).bs (wdOf ls p.1) ht [] ls).1, p.2, 0, wdOf ls p.1, ht, (bestOf (ls[p.1]).bs (wdOf ls p.1) ht [] ls).2.1, (bestOf (ls[p.1]).bs (wdOf ls p.1) ht [] ls).2.2⟩, ?_, ?_, ?_⟩
      · rw [hse]
        unfold seenCells
        rw [hfo]
        rfl
      · show (bestOf (ls[p.1]).bs (wdOf ls p.1) ht [] ls).1 = txtOf ls p.1
        rw [h4, txtOf_at hg]
      · show (bestOf (ls[p.1]).bs (wdOf ls p.1) ht [] ls).1.length ≤ 4
        rw [h4, ← txtOf_at hg]
        exact (hR.texts p.1 hk).2.1)
  refine ⟨ss, h1, ?_, h3⟩
  rw [h2, if_neg (by simp), List.nil_append, spelt_text hl]

end Go.Proofs.YtjelhdpcaileiaaDoor


/-! glyph.Distance of right pages; bedtop.apart: letters that are told apart. -/
namespace Go.Proofs.YtjelhdpcaileiaaDoor
open Go.RowKit

theorem badReach_ok (r : Nat) (w : World) (hr : r ≤ 4) : Calls Tryd.prog 120 #[.int .i64 r] w fun e w' => e = .returned (.bool false) ∧ w = w' := by
  have h1 : ¬ ((r : Int) < 0) := by omega
  have h2 : ¬ ((4 : Int) < (r : Int)) := by omega
  go_enter Tryd.func120, Tryd.ntmps120
  go_wp2_with fail
  go_ret
  exact ⟨by first | rfl | (simp; omega), rfl⟩
set_option maxRecDepth 100000 in
set_option maxHeartbeats 2000000 in
theorem distanceG_any (W H W' H' r : Nat) (A B : Option Addr) (ac bc : Nat) (cs bs : List Bool) (w : World) (hA : Reads w 1 A (W * H) (cs.map .bool)) (hB : Reads w 1 B (W' * H') (bs.map .bool)) (e1 : sizeErr W H = 0) (e2 : sizeErr W' H' = 0) (hr : r ≤ 4) :
    Calls Tryd.prog 44 #[.agg #[.int .i64 W, .int .i64 H, .slice A (W * H) ac], .agg #[.int .i64 W', .int .i64 H', .slice B (W' * H') bc], .int .i64 r] w fun e w' => e = .returned (.tuple #[.int .i64 (farN (inkF cs W H) (inkF bs W' H') W H W' H' r), .int .i64 0]) ∧ Bl w w' := by
  have z1 := sizeErr_zero e1
  have z2 := sizeErr_zero e2
  have p1 : pageErr W H (W * H) = 0 := by unfold pageErr; rw [if_pos e1, if_pos (by simp)]
  have p2 : pageErr W' H' (W' * H') = 0 := by unfold pageErr; rw [if_pos e2, if_pos (by simp)]
  let w2 := ((w).alloc (.cells #[.int .i64 W, .int .i64 H, .slice A (W * H) ac] 27)).alloc (.cells #[.int .i64 W', .int .i64 H', .slice B (W' * H') bc] 27)
  have w2b : Bl w w2 := ((Bl.refl w).alloc _).alloc _
  have w21 : Blk w2 (w.heap.size) 27 #[.int .i64 W, .int .i64 H, .slice A (W * H) ac] := by
    have h0 := Blk.new (w) 27 #[.int .i64 W, .int .i64 H, .slice A (W * H) ac]
    exact (h0.alloc _)
  have w22 : Blk w2 (w.heap.size + 1) 27 #[.int .i64 W', .int .i64 H', .slice B (W' * H') bc] := by
    have h0 := Blk.new ((w).alloc (.cells #[.int .i64 W, .int .i64 H, .slice A (W * H) ac] 27)) 27 #[.int .i64 W', .int .i64 H', .slice B (W' * H') bc]
    simp only [World.size_alloc] at h0
    exact h0
  have hcall := fun wx (hx : Bl w2 wx) => distance_any W H W' H' r A B ac bc cs bs wx ((hA.bl w2b).bl hx) ((hB.bl w2b).bl hx) (by omega) (by omega) (by omega) (by omega) hr
  obtain ⟨F, hF⟩ : ∃ F, F = farN (inkF cs W H) (inkF bs W' H') W H W' H' r := ⟨_, rfl⟩
  simp only [← hF] at hcall ⊢
  have Hc := Lib.hid hcall; have P1 := Lib.hid p1; have P2 := Lib.hid p2
  have k1 := w21.all3
  have k2 := w22.all3
  have i0 : ∀ w : World, (Instr.index 157 (.agg #[.int .i64 W, .int .i64 H, .slice A (W * H) ac, .int .i64 W', .int .i64 H', .slice B (W' * H') bc]) (.int .i64 0)).run Tryd.prog w = .ok (.agg #[.int .i64 W, .int .i64 H, .slice A (W * H) ac]) w := fun _ => by kernel_rfl
  have i1 : ∀ w : World, (Instr.index 157 (.agg #[.int .i64 W, .int .i64 H, .slice A (W * H) ac, .int .i64 W', .int .i64 H', .slice B (W' * H') bc]) (.int .i64 1)).run Tryd.prog w = .ok (.agg #[.int .i64 W', .int .i64 H', .slice B (W' * H') bc]) w := fun _ => by kernel_rfl
  clear hcall z1 z2 e1 e2 p1 p2 hF hA hB
  go_enter Tryd.func44, Tryd.ntmps44
  go_wp2_with fail
  refine wp_loop_rounds 3 ?_
  rw [rounds_succ]
  go_wp2_with fail
  refine (checkBits_any _ _ _ _ _ _).mono ?_
  rintro e w7 ⟨rfl, hb7⟩
  rw [P1.out]
  have hb27 : Bl w2 w7 := ((Bl.refl w2).alloc _).trans hb7
  clear k1 k2
  go_wp2_with fail
  rw [rounds_succ]
  go_wp2_with fail
  refine (checkBits_any _ _ _ _ _ _).mono ?_
  rintro e w8 ⟨rfl, hb8⟩
  rw [P2.out]
  have hb28 : Bl w2 w8 := (hb27.alloc _).trans hb8
  have k1 := (w21.bl hb28).all3
  have k2 := (w22.bl hb28).all3
  go_wp2_with fail
  rw [rounds_succ]
  go_wp2_with fail
  refine (badReach_ok r _ hr).mono ?_
  rintro e w9 ⟨rfl, rfl⟩
  go_wp2_with fail
  refine (Hc.out _ hb28).mono ?_
  rintro e w10 ⟨rfl, hb10⟩
  go_wp2_with fail
  exact bodyPost_ret (v := .tuple #[.int .i64 F, .int .i64 0]) (by simp [results, Tryd.results44, go_sem]) rfl ⟨rfl, w2b.trans (hb28.trans hb10)⟩

def ToldTo (ls : List Ltr) (n : Nat) : Prop := ∀ (i j : Nat) (x y : Ltr), i < n → ls[i]? = some x → ls[j]? = some y → j < i → -2 ≤ x.W - y.W → x.W - y.W ≤ 2 → farLL x y ≠ 0
def ToldAt (ls : List Ltr) (x : Ltr) (n : Nat) : Prop := ∀ (j : Nat) (y : Ltr), j < n → ls[j]? = some y → -2 ≤ x.W - y.W → x.W - y.W ≤ 2 → farLL x y ≠ 0
theorem told_more {ls : List Ltr} {i : Nat} {x : Ltr} (h : ToldTo ls i) (hx : ls[i]? = some x) (h2 : ToldAt ls x i) : ToldTo ls (i + 1) := by
  intro i' j x' y hi hx' hy hj h3 h4
  by_cases e : i' = i
  · subst e
    obtain rfl := Option.some.inj (hx'.symm.trans hx)
    exact h2 j y hj hy h3 h4
  · exact h i' j x' y (by omega) hx' hy hj h3 h4
theorem told_end {ls : List Ltr} (h : ToldTo ls ls.length) : Told ls := fun i j x y hx hy hj h3 h4 => h i j x y (List.getElem?_eq_some_iff.1 hx).1 hx hy hj h3 h4
theorem ltr_size {ht gap sp : Nat} {ls : List Ltr} (hR : Right ht gap sp ls) {k : Nat} {l : Ltr} (h : ls[k]? = some l) : ∃ W : Nat, l.W = (W : Int) ∧ l.H = (ht : Int) ∧ l.m = W * ht ∧ W ≤ 64 ∧ sizeErr W ht = 0 := by
  have hk := (List.getElem?_eq_some_iff.1 h).1
  have e := (List.getElem?_eq_some_iff.1 h).2
  have h1 := hR.wd k hk
  have h2 := hR.hts k hk
  have h3 := hR.ms k hk
  have h4 := hR.ht1
  rw [e] at h1 h2 h3
  refine ⟨wdOf ls k, h1.1, h2, h3, h1.2.2, ?_⟩
  have hm : wdOf ls k * ht ≤ 64 * 64 := Nat.mul_le_mul h1.2.2 h4.2
  have hm2 : ((wdOf ls k * ht : Nat) : Int) ≤ 4096 := by omega
  rw [Int.natCast_mul] at hm2
  unfold sizeErr
  rw [if_pos ⟨by omega, by omega, by omega, by omega⟩, if_neg (by omega)]

set_option maxRecDepth 100000 in
set_option maxHeartbeats 4000000 in
theorem apart_any (nm : List UInt8) (ht gap sp : Nat) (adl : Addr) (c : Nat) (ls : List Ltr) (w : World) (hL : LtrsAt w (some adl) ls) (hR : Right ht gap sp ls) (hc : ls.length ≤ c) :
    Calls Tryd.prog 25 #[.agg #[.string ⟨nm.toArray⟩, .int .i64 ht, .int .i64 gap, .int .i64 sp, .slice (some adl) ls.length c]] w fun e w' => ∃ b, e = .returned (.bool b) ∧ (b = true → Told ls) ∧ Bl w w' := by
  let w2 := (w).alloc (.cells #[.string ⟨nm.toArray⟩, .int .i64 ht, .int .i64 gap, .int .i64 sp, .slice (some adl) ls.length c] 24)
  have w2b : Bl w w2 := (Bl.refl w).alloc _
  have w21 : Blk w2 (w.heap.size) 24 #[.string ⟨nm.toArray⟩, .int .i64 ht, .int .i64 gap, .int .i64 sp, .slice (some adl) ls.length c] := by
    have h0 := Blk.new (w) 24 #[.string ⟨nm.toArray⟩, .int .i64 ht, .int .i64 gap, .int .i64 sp, .slice (some adl) ls.length c]
    exact h0
  have HL := Lib.hid (hL.bl w2b); have HR := Lib.hid hR
  have k1 := w21.all5
  have hmany := hR.many
  clear hL hR
  go_enter Tryd.func25, Tryd.ntmps25
  go_wp2_with fail
  go_loopw [13] (fun u wr => ∃ i : Nat, i ≤ ls.length ∧ u = .int .i64 i ∧ Bl w2 wr ∧ Hid (ToldTo ls i)) (fun u _ => ls.length - (RowKit.intOf u).toNat)
  case atStart => exact ⟨0, Nat.zero_le _, rfl, Bl.refl w2, Lib.hid fun i j x y h => absurd h (Nat.not_lt_zero _)⟩
  case round =>
    clear k1
    obtain ⟨i, hi, rfl, hbr, hto⟩ := hrel
    have k1 := (w21.bl hbr).all5
    by_cases hlt : i < ls.length
    · have hg : ls[i]? = some ls[i] := List.getElem?_eq_getElem hlt
      obtain ⟨x, hx⟩ : ∃ x, x = ls[i] := ⟨_, rfl⟩
      rw [← hx] at hg
      obtain ⟨ad, e, j1, j2, j3, j4⟩ := (HL.out.bl hbr).at_ hg
      injection e with e
      subst e
      obtain ⟨W, hW1, hW2, hW3, hW4, hW5⟩ := ltr_size HR.out hg
      have hrx := ((HL.out.bl hbr).2 x (List.mem_of_getElem? hg)).1
      rw [hW3] at hrx
      rw [hW1] at j2
      rw [hW2] at j3
      rw [hW3] at j4
      have HG := Lib.hid hg; have HW := Lib.hid (And.intro hW1 (And.intro hW2 hW5)); have HRx := Lib.hid hrx; have HTo := hto
      clear hg hx hW1 hW2 hW3 hW5 hrx hto
      go_upto_region 4 with fail
      obtain ⟨w3, hw3⟩ : ∃ y, y = wr.alloc (.cells #[.string ⟨x.text.toArray⟩, .int .i64 W, .int .i64 ht, .slice x.A (W * ht) x.c] 93) := ⟨_, rfl⟩
      obtain ⟨o, ho⟩ : ∃ y, y = wr.heap.size := ⟨_, rfl⟩
      have bo : Blk w3 o 93 #[.string ⟨x.text.toArray⟩, .int .i64 W, .int .i64 ht, .slice x.A (W * ht) x.c] := by rw [hw3, ho]; exact Blk.new _ _ _
      have hb3 : Bl wr w3 := by rw [hw3]; exact (Bl.refl _).alloc _
      rw [← hw3, ← ho]
      clear hw3 ho k1 j1 j2 j3 j4
      have hb23 := hbr.trans hb3
      have k1 := (w21.bl hb23).all5
      have hic : i ≤ c := by omega
      go_wp2_with fail
      go_loopw [23] (fun u wq => ∃ j : Nat, j ≤ i ∧ u = .int .i64 j ∧ Bl w3 wq ∧ Hid (ToldAt ls x j)) (fun u _ => i - (RowKit.intOf u).toNat)
      case atStart => exact ⟨0, Nat.zero_le _, rfl, Bl.refl w3, Lib.hid fun j y h => absurd h (Nat.not_lt_zero _)⟩
      case round =>
        clear k1
        rename World => wq
        obtain ⟨j, hj, rfl, hbq, hat⟩ := hrel
        by_cases hjl : j < i
        · have hjg : ls[j]? = some ls[j] := List.getElem?_eq_getElem (by omega)
          obtain ⟨y, hy⟩ : ∃ y, y = ls[j] := ⟨_, rfl⟩
          rw [← hy] at hjg
          have hb2q := hb23.trans hbq
          obtain ⟨ad, e, j1, j2, j3, j4⟩ := (HL.out.bl hb2q).at_ hjg
          injection e with e
          subst e
          obtain ⟨V, hV1, hV2, hV3, hV4, hV5⟩ := ltr_size HR.out hjg
          have hry := ((HL.out.bl hb2q).2 y (List.mem_of_getElem? hjg)).1
          rw [hV3] at hry
          rw [hV1] at j2
          rw [hV2] at j3
          rw [hV3] at j4
          have k9 := (bo.bl hbq).all4
          have HJ := Lib.hid hjg; have HV := Lib.hid (And.intro hV1 (And.intro hV2 hV5)); have HRy := Lib.hid hry; have HAt := hat; have HBq := Lib.hid hbq
          clear hjg hy hV1 hV2 hV3 hV5 hry hat
          go_upto_region 7 with fail
          obtain ⟨w4, hw4⟩ : ∃ z, z = wq.alloc (.cells #[.string ⟨y.text.toArray⟩, .int .i64 V, .int .i64 ht, .slice y.A (V * ht) y.c] 93) := ⟨_, rfl⟩
          obtain ⟨p, hp⟩ : ∃ z, z = wq.heap.size := ⟨_, rfl⟩
          have bp : Blk w4 p 93 #[.string ⟨y.text.toArray⟩, .int .i64 V, .int .i64 ht, .slice y.A (V * ht) y.c] := by rw [hw4, hp]; exact Blk.new _ _ _
          have hb4 : Bl wq w4 := by rw [hw4]; exact (Bl.refl _).alloc _
          rw [← hw4, ← hp]
          clear hw4 hp j1 j2 j3 j4 k9
          have hb34 := HBq.out.trans hb4
          have k9 := (bo.bl hb34).all4
          have k8 := bp.all4
          have HB34 := Lib.hid hb34
          by_cases hn : (W : Int) - (V : Int) < -2
          · have HA2 := Lib.hid (show ToldAt ls x (j + 1) from fun j' y' hj' hy' h3 h4 => by
              by_cases e : j' = j
              · subst e
                obtain rfl := Option.some.inj (hy'.symm.trans HJ.out)
                have := HW.out.1
                have := HV.out.1
                omega
              · exact HAt.out j' y' (by omega) hy' h3 h4)
            clear hbq
            go_wp2_with fail
            exact ⟨⟨j + 1, hjl, by go_num, HB34.out, HA2⟩, by simp [RowKit.intOf] <;> omega⟩
          · by_cases hn2 : 2 < (W : Int) - (V : Int)
            · have HA2 := Lib.hid (show ToldAt ls x (j + 1) from fun j' y' hj' hy' h3 h4 => by
                by_cases e : j' = j
                · subst e
                  obtain rfl := Option.some.inj (hy'.symm.trans HJ.out)
                  have := HW.out.1
                  have := HV.out.1
                  omega
                · exact HAt.out j' y' (by omega) hy' h3 h4)
              clear hbq
              go_wp2_with fail
              exact ⟨⟨j + 1, hjl, by go_num, HB34.out, HA2⟩, by simp [RowKit.intOf] <;> omega⟩
            · have hds := distanceG_any W ht V ht 1 x.A y.A x.c y.c x.bs y.bs w4 (HRx.out.bl (hb3.trans hb34)) (HRy.out.bl hb4) HW.out.2.2 HV.out.2.2 (by omega)
              have hfl : farN (inkF x.bs W ht) (inkF y.bs V ht) W ht V ht 1 = farLL x y := by
                unfold farLL farL
                rw [HW.out.1, HW.out.2.1, HV.out.1, HV.out.2.1]
                rfl
              rw [hfl] at hds
              obtain ⟨F, hF⟩ : ∃ F, F = farLL x y := ⟨_, rfl⟩
              rw [← hF] at hds
              have Hds := Lib.hid hds; have HF := Lib.hid hF
              clear hds hfl hF hbq
              go_wp2_with fail
              refine Hds.out.mono ?_
              rintro e w5 ⟨rfl, hb5⟩
              clear Hds
              by_cases hz : F = 0
              · subst hz
                go_wp2_with fail
                go_ret
                exact ⟨false, rfl, fun h => (by cases h), w2b.trans (hb23.trans (HB34.out.trans hb5))⟩
              · have hq : (F == 0) = false := by simp [hz]
                have HA2 := Lib.hid (show ToldAt ls x (j + 1) from fun j' y' hj' hy' h3 h4 => by
                  by_cases e : j' = j
                  · subst e
                    obtain rfl := Option.some.inj (hy'.symm.trans HJ.out)
                    rw [← HF.out]
                    exact hz
                  · exact HAt.out j' y' (by omega) hy' h3 h4)
                clear hz
                go_wp2_with fail
                exact ⟨⟨j + 1, hjl, by go_num, HB34.out.trans hb5, HA2⟩, by simp [RowKit.intOf] <;> omega⟩
        · obtain rfl : j = i := by omega
          have HT2 := Lib.hid (told_more HTo.out HG.out hat.out)
          clear hat
          go_wp2_with fail
          exact ⟨⟨j + 1, hlt, by go_num, hb23.trans hbq, HT2⟩, by simp [RowKit.intOf] <;> omega⟩
    · obtain rfl : i = ls.length := by omega
      go_wp2_with fail
      go_ret
      exact ⟨true, rfl, fun _ => told_end hto.out, w2b.trans hbr⟩

end Go.Proofs.YtjelhdpcaileiaaDoor
