/- Code 39 in plain lists: the modules of letters, and what is read of modules. -/
import Derived.Test.YtjelhdpcaileiaaDoorU0

namespace Go.Proofs.YtjelhdpcaileiaaDoor

def lets44 : List UInt8 := [48, 49, 50, 51, 52, 53, 54, 55, 56, 57, 65, 66, 67, 68, 69, 70, 71, 72, 73, 74, 75, 76, 77, 78, 79, 80, 81, 82, 83, 84, 85, 86, 87, 88, 89, 90, 45, 46, 32, 36, 47, 43, 37, 42]
def pieceC : List (List UInt8) := [[110, 110, 110, 119, 119, 110, 119, 110, 110], [119, 110, 110, 119, 110, 110, 110, 110, 119], [110, 110, 119, 119, 110, 110, 110, 110, 119], [119, 110, 119, 119, 110, 110, 110, 110, 110], [110, 110, 110, 119, 119, 110, 110, 110, 119], [119, 110, 110, 119, 119, 110, 110, 110, 110], [110, 110, 119, 119, 119, 110, 110, 110, 110], [110, 110, 110, 119, 110, 110, 119, 110, 119], [119, 110, 110, 119, 110, 110, 119, 110, 110], [110, 110, 119, 119, 110, 110, 119, 110, 110], [119, 110, 110, 110, 110, 119, 110, 110, 119], [110, 110, 119, 110, 110, 119, 110, 110, 119], [119, 110, 119, 110, 110, 119, 110, 110, 110], [110, 110, 110, 110, 119, 119, 110, 110, 119], [119, 110, 110, 110, 119, 119, 110, 110, 110], [110, 110, 119, 110, 119, 119, 110, 110, 110], [110, 110, 110, 110, 110, 119, 119, 110, 119], [119, 110, 110, 110, 110, 119, 119, 110, 110], [110, 110, 119, 110, 110, 119, 119, 110, 110], [110, 110, 110, 110, 119, 119, 119, 110, 110], [119, 110, 110, 110, 110, 110, 110, 119, 119], [110, 110, 119, 110, 110, 110, 110, 119, 119], [119, 110, 119, 110, 110, 110, 110, 119, 110], [110, 110, 110, 110, 119, 110, 110, 119, 119], [119, 110, 110, 110, 119, 110, 110, 119, 110], [110, 110, 119, 110, 119, 110, 110, 119, 110], [110, 110, 110, 110, 110, 110, 119, 119, 119], [119, 110, 110, 110, 110, 110, 119, 119, 110], [110, 110, 119, 110, 110, 110, 119, 119, 110], [110, 110, 110, 110, 119, 110, 119, 119, 110], [119, 119, 110, 110, 110, 110, 110, 110, 119], [110, 119, 119, 110, 110, 110, 110, 110, 119], [119, 119, 119, 110, 110, 110, 110, 110, 110], [110, 119, 110, 110, 119, 110, 110, 110, 119], [119, 119, 110, 110, 119, 110, 110, 110, 110], [110, 119, 119, 110, 119, 110, 110, 110, 110], [110, 119, 110, 110, 110, 110, 119, 110, 119], [119, 119, 110, 110, 110, 110, 119, 110, 110], [110, 119, 119, 110, 110, 110, 119, 110, 110], [110, 119, 110, 119, 110, 119, 110, 110, 110], [110, 119, 110, 119, 110, 110, 110, 119, 110], [110, 119, 110, 110, 110, 119, 110, 119, 110], [110, 110, 110, 119, 110, 119, 110, 119, 110], [110, 119, 110, 110, 119, 110, 119, 110, 110]]
def pieceS : List UInt8 := [110, 110, 110, 119, 119, 110, 119, 110, 110, 32, 119, 110, 110, 119, 110, 110, 110, 110, 119, 32, 110, 110, 119, 119, 110, 110, 110, 110, 119, 32, 119, 110, 119, 119, 110, 110, 110, 110, 110, 32, 110, 110, 110, 119, 119, 110, 110, 110, 119, 32, 119, 110, 110, 119, 119, 110, 110, 110, 110, 32, 110, 110, 119, 119, 119, 110, 110, 110, 110, 32, 110, 110, 110, 119, 110, 110, 119, 110, 119, 32, 119, 110, 110, 119, 110, 110, 119, 110, 110, 32, 110, 110, 119, 119, 110, 110, 119, 110, 110, 32, 119, 110, 110, 110, 110, 119, 110, 110, 119, 32, 110, 110, 119, 110, 110, 119, 110, 110, 119, 32, 119, 110, 119, 110, 110, 119, 110, 110, 110, 32, 110, 110, 110, 110, 119, 119, 110, 110, 119, 32, 119, 110, 110, 110, 119, 119, 110, 110, 110, 32, 110, 110, 119, 110, 119, 119, 110, 110, 110, 32, 110, 110, 110, 110, 110, 119, 119, 110, 119, 32, 119, 110, 110, 110, 110, 119, 119, 110, 110, 32, 110, 110, 119, 110, 110, 119, 119, 110, 110, 32, 110, 110, 110, 110, 119, 119, 119, 110, 110, 32, 119, 110, 110, 110, 110, 110, 110, 119, 119, 32, 110, 110, 119, 110, 110, 110, 110, 119, 119, 32, 119, 110, 119, 110, 110, 110, 110, 119, 110, 32, 110, 110, 110, 110, 119, 110, 110, 119, 119, 32, 119, 110, 110, 110, 119, 110, 110, 119, 110, 32, 110, 110, 119, 110, 119, 110, 110, 119, 110, 32, 110, 110, 110, 110, 110, 110, 119, 119, 119, 32, 119, 110, 110, 110, 110, 110, 119, 119, 110, 32, 110, 110, 119, 110, 110, 110, 119, 119, 110, 32, 110, 110, 110, 110, 119, 110, 119, 119, 110, 32, 119, 119, 110, 110, 110, 110, 110, 110, 119, 32, 110, 119, 119, 110, 110, 110, 110, 110, 119, 32, 119, 119, 119, 110, 110, 110, 110, 110, 110, 32, 110, 119, 110, 110, 119, 110, 110, 110, 119, 32, 119, 119, 110, 110, 119, 110, 110, 110, 110, 32, 110, 119, 119, 110, 119, 110, 110, 110, 110, 32, 110, 119, 110, 110, 110, 110, 119, 110, 119, 32, 119, 119, 110, 110, 110, 110, 119, 110, 110, 32, 110, 119, 119, 110, 110, 110, 119, 110, 110, 32, 110, 119, 110, 119, 110, 119, 110, 110, 110, 32, 110, 119, 110, 119, 110, 110, 110, 119, 110, 32, 110, 119, 110, 110, 110, 119, 110, 119, 110, 32, 110, 110, 110, 119, 110, 119, 110, 119, 110, 32, 110, 119, 110, 110, 119, 110, 119, 110, 110]
/-! letters and their modules -/
def bitAt (i : Nat) : UInt8 := if i % 2 = 0 then 49 else 48
def runOf (c : UInt8) : Nat := if c = 119 then 3 else 1
def modFrom : Nat → List UInt8 → List UInt8
  | _, [] => []
  | i, c :: p => List.replicate (runOf c) (bitAt i) ++ modFrom (i + 1) p
def pieceK (k : Nat) : List UInt8 := pieceC.getD k []
def modK (k : Nat) : List UInt8 := modFrom 0 (pieceK k)
def joinC : List Nat → List UInt8
  | [] => []
  | [k] => modK k
  | k :: k' :: ks => modK k ++ 48 :: joinC (k' :: ks)
set_option maxRecDepth 100000 in
theorem modK_all : ∀ k < 44, (modK k).length = 15 ∧ (modK k).getD 0 0 = 49 ∧ (modK k).getD 14 0 = 49 ∧ (pieceK k).length = 9 := by decide +kernel
set_option maxRecDepth 100000 in
theorem modK_inj : ∀ k < 44, ∀ j < 44, modK k = modK j → k = j := by decide +kernel
set_option maxRecDepth 100000 in
theorem pieceK_inj : ∀ k < 44, ∀ j < 44, pieceK k = pieceK j → k = j := by decide +kernel
/-! the reference's way: groups of 16 modules -/
def gR (m : List UInt8) (j : Nat) : Option Nat :=
  if m.length = 16 * j + 15 ∨ m[16 * j + 15]? = some 48 then (List.range 44).find? fun k => modK k == (m.drop (16 * j)).take 15 else none
def partsR (m : List UInt8) : Nat → Option (List Nat)
  | 0 => some []
  | n + 1 => match partsR m n with
    | none => none
    | some ks => match gR m n with
      | none => none
      | some k => some (ks ++ [k])
def decM (m : List UInt8) : Option (List Nat) := if (m.length + 1) % 16 = 0 then partsR m ((m.length + 1) / 16) else none
/-! the program's way: groups of 10 runs -/
def pat (rs : List Nat) : List UInt8 := rs.map fun n => if n = 3 then 119 else 110
def gP (rs : List Nat) (j : Nat) : Option Nat :=
  if (((rs.drop (10 * j)).take 9).all fun n => n == 1 || n == 3) = true ∧ (10 * j + 9 < rs.length → rs.getD (10 * j + 9) 0 = 1) then (List.range 44).find? fun k => pieceK k == pat ((rs.drop (10 * j)).take 9) else none
def partsP (rs : List Nat) : Nat → Option (List Nat)
  | 0 => some []
  | n + 1 => match partsP rs n with
    | none => none
    | some ks => match gP rs n with
      | none => none
      | some k => some (ks ++ [k])
def decP (rs : List Nat) : Option (List Nat) := if rs.length % 10 = 9 then partsP rs ((rs.length + 1) / 10) else none
/-! group by group -/
section
variable {g : Nat → Option Nat}
def partsG (g : Nat → Option Nat) : Nat → Option (List Nat)
  | 0 => some []
  | n + 1 => match partsG g n with
    | none => none
    | some ks => match g n with
      | none => none
      | some k => some (ks ++ [k])
theorem partsR_eq (m : List UInt8) : ∀ n, partsR m n = partsG (gR m) n
  | 0 => rfl
  | n + 1 => by unfold partsR partsG; rw [partsR_eq m n]
theorem partsP_eq (rs : List Nat) : ∀ n, partsP rs n = partsG (gP rs) n
  | 0 => rfl
  | n + 1 => by unfold partsP partsG; rw [partsP_eq rs n]
theorem partsG_some {n : Nat} {ks : List Nat} {k : Nat} (h : partsG g n = some ks) (hd : g n = some k) : partsG g (n + 1) = some (ks ++ [k]) := by
  show (match partsG g n with | none => none | some ks => match g n with | none => none | some p => some (ks ++ [p])) = _
  rw [h]
  simp only [hd]
theorem partsG_none {n : Nat} (hd : g n = none) : ∀ k, partsG g (n + 1 + k) = none
  | 0 => by
    show (match partsG g n with | none => none | some ps => match g n with | none => none | some p => some (ps ++ [p])) = _
    cases partsG g n with
    | none => rfl
    | some ps => simp only [hd]
  | k + 1 => by
    show (match partsG g (n + 1 + k) with | none => none | some ps => match g (n + 1 + k) with | none => none | some p => some (ps ++ [p])) = _
    rw [partsG_none hd k]
theorem partsG_none_of {n N : Nat} (hn : n < N) (hd : g n = none) : partsG g N = none := by
  have := partsG_none hd (N - (n + 1))
  rwa [show n + 1 + (N - (n + 1)) = N by omega] at this
theorem partsG_iff (ks : List Nat) : ∀ n, partsG g n = some ks ↔ ks.length = n ∧ ∀ j k, ks[j]? = some k → g j = some k := by
  intro n
  induction n generalizing ks with
  | zero =>
    constructor
    · intro h
      obtain rfl := Option.some.inj h
      exact ⟨rfl, fun j k h => by simp at h⟩
    · rintro ⟨h, -⟩
      obtain rfl := List.length_eq_zero_iff.1 h
      rfl
  | succ n ih =>
    constructor
    · intro h
      cases hp : partsG g n with
      | none => unfold partsG at h; rw [hp] at h; cases h
      | some q =>
        cases hg : g n with
        | none => unfold partsG at h; rw [hp] at h; simp only [hg] at h; cases h
        | some k =>
          rw [partsG_some hp hg] at h
          obtain rfl := Option.some.inj h
          obtain ⟨h1, h2⟩ := (ih q).1 hp
          refine ⟨by rw [List.length_append, h1]; rfl, fun j k' hj => ?_⟩
          by_cases hlt : j < n
          · rw [List.getElem?_append_left (by omega)] at hj
            exact h2 j k' hj
          · have hib : j < (q ++ [k]).length := (List.getElem?_eq_some_iff.1 hj).1
            rw [List.length_append, List.length_singleton] at hib
            obtain rfl : j = n := by omega
            rw [List.getElem?_append_right (by omega), h1, Nat.sub_self] at hj
            rw [hg, ← hj]
            rfl
    · rintro ⟨h1, h2⟩
      rcases List.eq_nil_or_concat ks with rfl | ⟨q, k, rfl⟩
      · cases h1
      · rw [List.concat_eq_append] at h1 h2 ⊢
        rw [List.length_append, List.length_singleton] at h1
        refine partsG_some ((ih q).2 ⟨by omega, fun j k' hj => h2 j k' ?_⟩) (h2 n k ?_)
        · rw [List.getElem?_append_left (List.getElem?_eq_some_iff.1 hj).1]; exact hj
        · rw [List.getElem?_append_right (by omega), show n - q.length = 0 by omega]; rfl
end
theorem decM_iff (m : List UInt8) (ks : List Nat) : decM m = some ks ↔ m.length + 1 = 16 * ks.length ∧ ∀ j k, ks[j]? = some k → gR m j = some k := by
  unfold decM
  by_cases h : (m.length + 1) % 16 = 0
  · rw [if_pos h, partsR_eq, partsG_iff]
    constructor
    · rintro ⟨h1, h2⟩; exact ⟨by omega, h2⟩
    · rintro ⟨h1, h2⟩; exact ⟨by omega, h2⟩
  · rw [if_neg h]
    constructor
    · intro h'; cases h'
    · rintro ⟨h1, -⟩; omega
theorem decP_iff (rs : List Nat) (ks : List Nat) : decP rs = some ks ↔ rs.length + 1 = 10 * ks.length ∧ ∀ j k, ks[j]? = some k → gP rs j = some k := by
  unfold decP
  by_cases h : rs.length % 10 = 9
  · rw [if_pos h, partsP_eq, partsG_iff]
    constructor
    · rintro ⟨h1, h2⟩; exact ⟨by omega, h2⟩
    · rintro ⟨h1, h2⟩; exact ⟨by omega, h2⟩
  · rw [if_neg h]
    constructor
    · intro h'; cases h'
    · rintro ⟨h1, -⟩; omega
theorem find_range {p : Nat → Bool} {k : Nat} (h : (List.range 44).find? p = some k) : k < 44 ∧ p k = true := ⟨List.mem_range.1 (List.mem_of_find?_eq_some h), List.find?_some h⟩
theorem find_uniq {p : Nat → Bool} {k : Nat} (hk : k < 44) (hp : p k = true) (hu : ∀ j < 44, p j = true → j = k) : (List.range 44).find? p = some k := by
  cases hf : (List.range 44).find? p with
  | none =>
    have := List.find?_eq_none.1 hf k (List.mem_range.2 hk)
    exact absurd hp this
  | some j =>
    obtain ⟨h1, h2⟩ := find_range hf
    rw [hu j h1 h2]
theorem gR_iff (m : List UInt8) (j k : Nat) : gR m j = some k ↔ (m.length = 16 * j + 15 ∨ m[16 * j + 15]? = some 48) ∧ k < 44 ∧ (m.drop (16 * j)).take 15 = modK k := by
  unfold gR
  by_cases h : m.length = 16 * j + 15 ∨ m[16 * j + 15]? = some 48
  · rw [if_pos h]
    constructor
    · intro hf
      obtain ⟨h1, h2⟩ := find_range hf
      exact ⟨h, h1, (beq_iff_eq.1 h2).symm⟩
    · rintro ⟨-, h1, h2⟩
      exact find_uniq h1 (beq_iff_eq.2 h2.symm) fun i hi hp => modK_inj i hi k h1 ((beq_iff_eq.1 hp).trans h2)
  · rw [if_neg h]
    constructor
    · intro h'; cases h'
    · rintro ⟨h', -⟩; exact absurd h' h
def okRun (rs : List Nat) (j : Nat) : Prop := (((rs.drop (10 * j)).take 9).all fun n => n == 1 || n == 3) = true ∧ (10 * j + 9 < rs.length → rs.getD (10 * j + 9) 0 = 1)
theorem gP_iff (rs : List Nat) (j k : Nat) : gP rs j = some k ↔ ((((rs.drop (10 * j)).take 9).all fun n => n == 1 || n == 3) = true ∧ (10 * j + 9 < rs.length → rs.getD (10 * j + 9) 0 = 1)) ∧ k < 44 ∧ pat ((rs.drop (10 * j)).take 9) = pieceK k := by
  unfold gP
  by_cases h : (((rs.drop (10 * j)).take 9).all fun n => n == 1 || n == 3) = true ∧ (10 * j + 9 < rs.length → rs.getD (10 * j + 9) 0 = 1)
  · rw [if_pos h]
    constructor
    · intro hf
      obtain ⟨h1, h2⟩ := find_range hf
      exact ⟨h, h1, (beq_iff_eq.1 h2).symm⟩
    · rintro ⟨-, h1, h2⟩
      exact find_uniq h1 (beq_iff_eq.2 h2.symm) fun i hi hp => pieceK_inj i hi k h1 ((beq_iff_eq.1 hp).trans h2)
  · rw [if_neg h]
    constructor
    · intro h'; cases h'
    · rintro ⟨h', -⟩; exact absurd h' h
/-! runs -/
def expand : Nat → List Nat → List UInt8
  | _, [] => []
  | i, n :: rs => List.replicate n (bitAt i) ++ expand (i + 1) rs
theorem bitAt_two (i : Nat) : bitAt (i + 2) = bitAt i := by unfold bitAt; rw [show (i + 2) % 2 = i % 2 by omega]
theorem expand_two (i : Nat) : ∀ rs, expand (i + 2) rs = expand i rs
  | [] => rfl
  | n :: rs => by
    show List.replicate n (bitAt (i + 2)) ++ expand (i + 1 + 2) rs = List.replicate n (bitAt i) ++ expand (i + 1) rs
    rw [bitAt_two, expand_two (i + 1) rs]
theorem expand_append (i : Nat) : ∀ a b, expand i (a ++ b) = expand i a ++ expand (i + a.length) b
  | [], b => rfl
  | n :: a, b => by
    show List.replicate n (bitAt i) ++ expand (i + 1) (a ++ b) = (List.replicate n (bitAt i) ++ expand (i + 1) a) ++ expand (i + (a.length + 1)) b
    rw [expand_append (i + 1) a b, List.append_assoc, show i + 1 + a.length = i + (a.length + 1) by omega]
theorem bitAt_ne (i : Nat) : bitAt i ≠ bitAt (i + 1) := by
  unfold bitAt
  rcases Nat.mod_two_eq_zero_or_one i with h | h
  · rw [if_pos h, if_neg (by omega)]; decide
  · rw [if_neg (by omega), if_pos (by omega)]; decide
theorem expand_head {i : Nat} {rs : List Nat} {b : UInt8} (h1 : ∀ n ∈ rs, 1 ≤ n) (h : (expand i rs)[0]? = some b) : b = bitAt i := by
  cases rs with
  | nil => cases h
  | cons n rs =>
    have := h1 n (List.mem_cons_self ..)
    obtain ⟨n', rfl⟩ : ∃ n', n = n' + 1 := ⟨n - 1, by omega⟩
    unfold expand at h
    rw [List.replicate_succ] at h
    exact (Option.some.inj h).symm
theorem rep_split {a b c : UInt8} (hbc : b ≠ c) : ∀ {n n' : Nat} {s s' : List UInt8}, (∀ x, s[0]? = some x → x = c) → (∀ x, s'[0]? = some x → x = c) → List.replicate n b ++ s = List.replicate n' b ++ s' → n = n' ∧ s = s'
  | 0, 0, s, s', _, _, h => ⟨rfl, h⟩
  | 0, n' + 1, s, s', h1, _, h => by
    exfalso
    simp only [List.replicate_zero, List.nil_append, List.replicate_succ, List.cons_append] at h
    exact hbc (h1 b (by rw [h]; rfl))
  | n + 1, 0, s, s', _, h2, h => by
    exfalso
    simp only [List.replicate_zero, List.nil_append, List.replicate_succ, List.cons_append] at h
    exact hbc (h2 b (by rw [← h]; rfl))
  | n + 1, n' + 1, s, s', h1, h2, h => by
    simp only [List.replicate_succ, List.cons_append, List.cons.injEq, true_and] at h
    obtain ⟨e1, e2⟩ := rep_split (a := a) hbc h1 h2 h
    exact ⟨by omega, e2⟩
theorem expand_inj : ∀ {rs rs' : List Nat} {i : Nat}, (∀ n ∈ rs, 1 ≤ n) → (∀ n ∈ rs', 1 ≤ n) → expand i rs = expand i rs' → rs = rs'
  | [], [], _, _, _, _ => rfl
  | [], n :: rs', i, _, h2, h => by
    exfalso
    have := h2 n (List.mem_cons_self ..)
    have hl := congrArg List.length h
    unfold expand at hl
    rw [List.length_append, List.length_replicate] at hl
    simp at hl
    omega
  | n :: rs, [], i, h1, _, h => by
    exfalso
    have := h1 n (List.mem_cons_self ..)
    have hl := congrArg List.length h
    unfold expand at hl
    rw [List.length_append, List.length_replicate] at hl
    simp at hl
    omega
  | n :: rs, n' :: rs', i, h1, h2, h => by
    have g1 : ∀ m ∈ rs, 1 ≤ m := fun m hm => h1 m (List.mem_cons_of_mem _ hm)
    have g2 : ∀ m ∈ rs', 1 ≤ m := fun m hm => h2 m (List.mem_cons_of_mem _ hm)
    obtain ⟨e1, e2⟩ := rep_split (a := 0) (bitAt_ne i) (fun x hx => expand_head g1 hx) (fun x hx => expand_head g2 hx) h
    rw [e1, expand_inj g1 g2 e2]
/-- The runs of a letter. -/
def runK (k : Nat) : List Nat := (pieceK k).map runOf
def runJ : List Nat → List Nat
  | [] => []
  | [k] => runK k
  | k :: k' :: ks => runK k ++ 1 :: runJ (k' :: ks)
theorem expand_map (i : Nat) : ∀ p, expand i (p.map runOf) = modFrom i p
  | [] => rfl
  | c :: p => by
    show List.replicate (runOf c) (bitAt i) ++ expand (i + 1) (p.map runOf) = List.replicate (runOf c) (bitAt i) ++ modFrom (i + 1) p
    rw [expand_map (i + 1) p]
theorem expand_ten (i : Nat) (rs : List Nat) : expand (i + 10) rs = expand i rs := by
  rw [show i + 10 = i + 8 + 2 by omega, expand_two, show i + 8 = i + 6 + 2 by omega, expand_two, show i + 6 = i + 4 + 2 by omega, expand_two, show i + 4 = i + 2 + 2 by omega, expand_two, expand_two]
theorem runK_len {k : Nat} (h : k < 44) : (runK k).length = 9 := by unfold runK; rw [List.length_map]; exact (modK_all k h).2.2.2
theorem runOf_pos (c : UInt8) : 1 ≤ runOf c := by unfold runOf; split <;> decide
theorem expand_cons {k : Nat} (h : k < 44) (rs : List Nat) : expand 0 (runK k ++ 1 :: rs) = modK k ++ 48 :: expand 0 rs := by
  rw [expand_append, runK_len h]
  have e1 : expand 0 (runK k) = modK k := expand_map 0 _
  rw [e1]
  show modK k ++ (List.replicate 1 (bitAt 9) ++ expand (0 + 10) rs) = _
  rw [expand_ten]
  rfl
theorem expand_runJ : ∀ {ks : List Nat}, (∀ k ∈ ks, k < 44) → expand 0 (runJ ks) = joinC ks
  | [], _ => rfl
  | [k], _ => expand_map 0 _
  | k :: k' :: ks, h => by
    show expand 0 (runK k ++ 1 :: runJ (k' :: ks)) = modK k ++ 48 :: joinC (k' :: ks)
    rw [expand_cons (h k (List.mem_cons_self ..)), expand_runJ (fun x hx => h x (List.mem_cons_of_mem _ hx))]
theorem runJ_pos : ∀ {ks : List Nat}, ∀ n ∈ runJ ks, 1 ≤ n
  | [], n, h => by cases h
  | [k], n, h => by
    obtain ⟨c, -, rfl⟩ := List.mem_map.1 h
    exact runOf_pos c
  | k :: k' :: ks, n, h => by
    rcases List.mem_append.1 h with h | h
    · obtain ⟨c, -, rfl⟩ := List.mem_map.1 h
      exact runOf_pos c
    · rcases List.mem_cons.1 h with rfl | h
      · exact Nat.le_refl _
      · exact runJ_pos n h
/-! the two ways meet in joinC -/
theorem gR_shift {k : Nat} (hk : k < 44) (m : List UInt8) (j : Nat) : gR (modK k ++ 48 :: m) (j + 1) = gR m j := by
  have hl : (modK k ++ [48]).length = 16 := by rw [List.length_append, (modK_all k hk).1]; rfl
  have e : modK k ++ 48 :: m = (modK k ++ [48]) ++ m := by simp
  unfold gR
  rw [e, List.length_append, hl, show 16 * (j + 1) = 16 + 16 * j by omega, ← List.drop_drop, List.drop_left' hl, show 16 + 16 * j + 15 = 16 + (16 * j + 15) by omega, List.getElem?_append_right (by omega), hl, show 16 + (16 * j + 15) - 16 = 16 * j + 15 by omega]
  have : (16 + m.length = 16 + (16 * j + 15) ∨ m[16 * j + 15]? = some 48) ↔ (m.length = 16 * j + 15 ∨ m[16 * j + 15]? = some 48) := by
    constructor
    · rintro (h | h); exact .inl (by omega); exact .inr h
    · rintro (h | h); exact .inl (by omega); exact .inr h
  simp only [this]
theorem gP_shift {k : Nat} (hk : k < 44) (rs : List Nat) (j : Nat) : gP (runK k ++ 1 :: rs) (j + 1) = gP rs j := by
  have hl : (runK k ++ [1]).length = 10 := by rw [List.length_append, runK_len hk]; rfl
  have e : runK k ++ 1 :: rs = (runK k ++ [1]) ++ rs := by simp
  unfold gP
  rw [e, List.length_append, hl, show 10 * (j + 1) = 10 + 10 * j by omega, ← List.drop_drop, List.drop_left' hl, show 10 + 10 * j + 9 = 10 + (10 * j + 9) by omega, List.getD_eq_getElem?_getD, List.getElem?_append_right (by omega), hl, show 10 + (10 * j + 9) - 10 = 10 * j + 9 by omega, ← List.getD_eq_getElem?_getD]
  have : ((10 + (10 * j + 9) < 10 + rs.length) → rs.getD (10 * j + 9) 0 = 1) ↔ ((10 * j + 9 < rs.length) → rs.getD (10 * j + 9) 0 = 1) := by
    constructor
    · intro h h'; exact h (by omega)
    · intro h h'; exact h (by omega)
  simp only [this]
theorem decM_join : ∀ {ks : List Nat}, ks ≠ [] → (∀ k ∈ ks, k < 44) → decM (joinC ks) = some ks
  | [], h, _ => absurd rfl h
  | [k], _, h => by
    have hk := h k (List.mem_cons_self ..)
    rw [decM_iff]
    show (modK k).length + 1 = 16 ∧ _
    refine ⟨by rw [(modK_all k hk).1], fun j k' hj => ?_⟩
    have hj0 : j = 0 := by have := (List.getElem?_eq_some_iff.1 hj).1; simp at this; omega
    subst hj0
    obtain rfl := Option.some.inj hj
    rw [gR_iff]
    exact ⟨.inl (modK_all k hk).1, hk, List.take_of_length_le (by show (modK k).length ≤ 15; rw [(modK_all k hk).1]; omega)⟩
  | k :: k' :: ks, _, h => by
    have hk := h k (List.mem_cons_self ..)
    obtain ⟨h1, h2⟩ := (decM_iff _ _).1 (decM_join (ks := k' :: ks) (by simp) (fun x hx => h x (List.mem_cons_of_mem _ hx)))
    rw [decM_iff]
    refine ⟨?_, fun j k0 hj => ?_⟩
    · show (modK k ++ 48 :: joinC (k' :: ks)).length + 1 = _
      rw [List.length_append, List.length_cons, (modK_all k hk).1, h1]
      simp only [List.length_cons]
      omega
    · cases j with
      | zero =>
        obtain rfl := Option.some.inj hj
        rw [gR_iff]
        refine ⟨.inr ?_, hk, ?_⟩
        · show (modK k ++ 48 :: joinC (k' :: ks))[15]? = some 48
          rw [List.getElem?_append_right (by rw [(modK_all k hk).1]; omega), (modK_all k hk).1]
          rfl
        · show (modK k ++ 48 :: joinC (k' :: ks)).take 15 = modK k
          rw [List.take_left' (modK_all k hk).1]
      | succ j =>
        show gR (modK k ++ 48 :: joinC (k' :: ks)) (j + 1) = _
        rw [gR_shift hk]
        exact h2 j k0 hj
theorem pat_runK (k : Nat) : pat (runK k) = pat ((pieceK k).map runOf) := rfl
set_option maxRecDepth 100000 in
theorem runK_all : ∀ k < 44, ((runK k).all fun n => n == 1 || n == 3) = true ∧ pat (runK k) = pieceK k := by decide +kernel
theorem decP_run : ∀ {ks : List Nat}, ks ≠ [] → (∀ k ∈ ks, k < 44) → decP (runJ ks) = some ks
  | [], h, _ => absurd rfl h
  | [k], _, h => by
    have hk := h k (List.mem_cons_self ..)
    rw [decP_iff]
    show (runK k).length + 1 = 10 ∧ _
    refine ⟨by rw [runK_len hk], fun j k' hj => ?_⟩
    have hj0 : j = 0 := by have := (List.getElem?_eq_some_iff.1 hj).1; simp at this; omega
    subst hj0
    obtain rfl := Option.some.inj hj
    rw [gP_iff]
    have e : ((runJ [k]).drop (10 * 0)).take 9 = runK k := List.take_of_length_le (by show (runK k).length ≤ 9; rw [runK_len hk]; omega)
    rw [e]
    exact ⟨⟨(runK_all k hk).1, fun h => absurd h (by show ¬ 10 * 0 + 9 < (runK k).length; rw [runK_len hk]; omega)⟩, hk, (runK_all k hk).2⟩
  | k :: k' :: ks, _, h => by
    have hk := h k (List.mem_cons_self ..)
    obtain ⟨h1, h2⟩ := (decP_iff _ _).1 (decP_run (ks := k' :: ks) (by simp) (fun x hx => h x (List.mem_cons_of_mem _ hx)))
    rw [decP_iff]
    refine ⟨?_, fun j k0 hj => ?_⟩
    · show (runK k ++ 1 :: runJ (k' :: ks)).length + 1 = _
      rw [List.length_append, List.length_cons, runK_len hk, h1]
      simp only [List.length_cons]
      omega
    · cases j with
      | zero =>
        obtain rfl := Option.some.inj hj
        rw [gP_iff]
        have e : ((runJ (k :: k' :: ks)).drop (10 * 0)).take 9 = runK k := by
          show (runK k ++ 1 :: runJ (k' :: ks)).take 9 = runK k
          rw [List.take_left' (runK_len hk)]
        rw [e]
        refine ⟨⟨(runK_all k hk).1, fun _ => ?_⟩, hk, (runK_all k hk).2⟩
        show (runK k ++ 1 :: runJ (k' :: ks)).getD 9 0 = 1
        rw [List.getD_eq_getElem?_getD, List.getElem?_append_right (by rw [runK_len hk]; omega), runK_len hk]
        rfl
      | succ j =>
        show gP (runK k ++ 1 :: runJ (k' :: ks)) (j + 1) = _
        rw [gP_shift hk]
        exact h2 j k0 hj
theorem decM_lt {m : List UInt8} {ks : List Nat} (h : decM m = some ks) : ∀ k ∈ ks, k < 44 := fun k hk => by
  obtain ⟨j, hj, rfl⟩ := List.getElem_of_mem hk
  exact ((gR_iff _ _ _).1 (((decM_iff _ _).1 h).2 j _ (List.getElem?_eq_getElem hj))).2.1
theorem decP_lt {rs : List Nat} {ks : List Nat} (h : decP rs = some ks) : ∀ k ∈ ks, k < 44 := fun k hk => by
  obtain ⟨j, hj, rfl⟩ := List.getElem_of_mem hk
  exact ((gP_iff _ _ _).1 (((decP_iff _ _).1 h).2 j _ (List.getElem?_eq_getElem hj))).2.1
theorem decM_ne {m : List UInt8} {ks : List Nat} (h : decM m = some ks) : ks ≠ [] := fun e => by
  have := ((decM_iff _ _).1 h).1
  rw [e] at this
  simp at this
theorem decP_ne {rs : List Nat} {ks : List Nat} (h : decP rs = some ks) : ks ≠ [] := fun e => by
  have := ((decP_iff _ _).1 h).1
  rw [e] at this
  simp at this
theorem join_decM : ∀ {ks : List Nat} {m : List UInt8}, decM m = some ks → m = joinC ks
  | [], m, h => absurd rfl (decM_ne h)
  | [k], m, h => by
    obtain ⟨h1, h2⟩ := (decM_iff _ _).1 h
    obtain ⟨-, -, h5⟩ := (gR_iff _ _ _).1 (h2 0 k rfl)
    have hl : m.length = 15 := by simp at h1; omega
    have : (m.drop (16 * 0)).take 15 = m := List.take_of_length_le (by show m.length ≤ 15; omega)
    rw [this] at h5
    exact h5
  | k :: k' :: ks, m, h => by
    obtain ⟨h1, h2⟩ := (decM_iff _ _).1 h
    obtain ⟨h3, hk, h5⟩ := (gR_iff _ _ _).1 (h2 0 k rfl)
    simp only [List.length_cons] at h1
    have h48 : m[15]? = some 48 := by
      rcases h3 with h3 | h3
      · omega
      · exact h3
    have hm : m = modK k ++ 48 :: m.drop 16 := by
      have h5' : m.take 15 = modK k := h5
      conv => lhs; rw [← List.take_append_drop 15 m, h5']
      congr 1
      have h15 : 15 < m.length := by omega
      rw [List.drop_eq_getElem_cons h15]
      rw [List.getElem?_eq_getElem h15] at h48
      rw [Option.some.inj h48]
    have hr : decM (m.drop 16) = some (k' :: ks) := by
      rw [decM_iff]
      refine ⟨by rw [List.length_drop]; simp only [List.length_cons]; omega, fun j k0 hj => ?_⟩
      have := h2 (j + 1) k0 hj
      rw [hm, gR_shift hk] at this
      exact this
    rw [hm]
    show _ = modK k ++ 48 :: joinC (k' :: ks)
    rw [← join_decM hr]
theorem pat_run {rs : List Nat} (h : (rs.all fun n => n == 1 || n == 3) = true) : (pat rs).map runOf = rs := by
  unfold pat
  rw [List.map_map]
  conv => rhs; rw [← List.map_id rs]
  apply List.map_congr_left
  intro n hn
  have := List.all_eq_true.1 h n hn
  simp only [Bool.or_eq_true, beq_iff_eq] at this
  rcases this with rfl | rfl <;> rfl
theorem join_decP : ∀ {ks : List Nat} {rs : List Nat}, decP rs = some ks → rs = runJ ks
  | [], rs, h => absurd rfl (decP_ne h)
  | [k], rs, h => by
    obtain ⟨h1, h2⟩ := (decP_iff _ _).1 h
    obtain ⟨⟨h3, -⟩, -, h5⟩ := (gP_iff _ _ _).1 (h2 0 k rfl)
    have hl : rs.length = 9 := by simp at h1; omega
    have e : (rs.drop (10 * 0)).take 9 = rs := List.take_of_length_le (by show rs.length ≤ 9; omega)
    rw [e] at h3 h5
    show rs = (pieceK k).map runOf
    rw [← h5, pat_run h3]
  | k :: k' :: ks, rs, h => by
    obtain ⟨h1, h2⟩ := (decP_iff _ _).1 h
    obtain ⟨⟨h3, h4⟩, hk, h5⟩ := (gP_iff _ _ _).1 (h2 0 k rfl)
    simp only [List.length_cons] at h1
    have h9 : 9 < rs.length := by omega
    have hx : rs[9] = 1 := by
      have := h4 (by omega)
      rw [List.getD_eq_getElem?_getD, List.getElem?_eq_getElem h9] at this
      exact this
    have hm : rs = runK k ++ 1 :: rs.drop 10 := by
      have e : rs.take 9 = runK k := by
        have h5' : pat (rs.take 9) = pieceK k := h5
        show rs.take 9 = (pieceK k).map runOf
        rw [← h5']
        exact (pat_run h3).symm
      conv => lhs; rw [← List.take_append_drop 9 rs, e]
      congr 1
      rw [List.drop_eq_getElem_cons h9, hx]
    have hr : decP (rs.drop 10) = some (k' :: ks) := by
      rw [decP_iff]
      refine ⟨by rw [List.length_drop]; simp only [List.length_cons]; omega, fun j k0 hj => ?_⟩
      have := h2 (j + 1) k0 hj
      rw [hm, gP_shift hk] at this
      exact this
    rw [hm]
    show _ = runK k ++ 1 :: runJ (k' :: ks)
    rw [← join_decP hr]
/-- Both ways tell the same. -/
theorem dec_same {m : List UInt8} {rs : List Nat} (h1 : ∀ n ∈ rs, 1 ≤ n) (he : expand 0 rs = m) : decP rs = decM m := by
  cases hp : decP rs with
  | some ks =>
    have e := join_decP hp
    have hlt := decP_lt hp
    rw [← he, e, expand_runJ hlt, decM_join (decP_ne hp) hlt]
  | none =>
    cases hm : decM m with
    | none => rfl
    | some ks =>
      exfalso
      have e := join_decM hm
      have hlt := decM_lt hm
      have : rs = runJ ks := expand_inj h1 runJ_pos (by rw [he, e, expand_runJ hlt])
      rw [this, decP_run (decM_ne hm) hlt] at hp
      cases hp

end Go.Proofs.YtjelhdpcaileiaaDoor
