/- Rows of texts in memory. -/
import Derived.Test.YtkipcobpnecmhabGreatDoorMClaimBests0

namespace Go.Proofs.YtkipcobpnecmhabGreatDoor

def le3 (num far : Nat → Nat) (i j : Nat) : Prop := num i < num j ∨ (num i = num j ∧ (far i < far j ∨ (far i = far j ∧ i ≤ j)))
theorem le3.anti {num far : Nat → Nat} {i j : Nat} (h : le3 num far i j) (k : le3 num far j i) : i = j := by
  unfold le3 at h k
  omega
def BestA (num far : Nat → Nat) (m b : Nat) : Prop := b < m ∧ ∀ j, j < m → le3 num far b j
theorem BestA.start (num far : Nat → Nat) : BestA num far 1 0 :=
  ⟨by omega, fun j hj => by obtain rfl : j = 0 := by omega
                            unfold le3; omega⟩
theorem BestA.take {num far : Nat → Nat} {m b : Nat} (h : BestA num far m b) (hm : num m < num b ∨ (num m = num b ∧ far m < far b)) : BestA num far (m + 1) m := by
  refine ⟨by omega, fun j hj => ?_⟩
  rcases Nat.lt_or_ge j m with hl | hl
  · have := h.2 j hl
    unfold le3 at this ⊢
    omega
  · obtain rfl : j = m := by omega
    unfold le3; omega
theorem BestA.keep {num far : Nat → Nat} {m b : Nat} (h : BestA num far m b) (hm : ¬ (num m < num b ∨ (num m = num b ∧ far m < far b))) : BestA num far (m + 1) b := by
  have hb := h.1
  refine ⟨by omega, fun j hj => ?_⟩
  rcases Nat.lt_or_ge j m with hl | hl
  · exact h.2 j hl
  · obtain rfl : j = m := by omega
    unfold le3; omega

def Seen (far : Nat → Nat) (K f m j : Nat) : Prop := j < K ∧ (far j < f ∨ (far j = f ∧ j < m))
def BestN (num far : Nat → Nat) (K f m b : Nat) : Prop := Seen far K f m b ∧ ∀ j, Seen far K f m j → le3 num far b j
theorem BestN.skip {num far : Nat → Nat} {K f m b : Nat} (h : BestN num far K f m b) (hf : far m ≠ f) : BestN num far K f (m + 1) b := by
  refine ⟨?_, fun j hj => h.2 j ?_⟩
  · have := h.1; unfold Seen at this ⊢; omega
  · unfold Seen at hj ⊢
    rcases Nat.lt_or_ge j m with hl | hl
    · omega
    · rcases hj with ⟨h1, h2 | ⟨h2, h3⟩⟩
      · omega
      · obtain rfl : j = m := by omega
        exact absurd h2 hf
theorem Seen.skip {far : Nat → Nat} {K f m : Nat} (h : ∀ j, ¬ Seen far K f m j) (hf : far m ≠ f) : ∀ j, ¬ Seen far K f (m + 1) j := by
  intro j hj
  refine h j ?_
  unfold Seen at hj ⊢
  rcases Nat.lt_or_ge j m with hl | hl
  · omega
  · rcases hj with ⟨h1, h2 | ⟨h2, h3⟩⟩
    · omega
    · obtain rfl : j = m := by omega
      exact absurd h2 hf
theorem BestN.first {num far : Nat → Nat} {K f m : Nat} (h : ∀ j, ¬ Seen far K f m j) (hm : m < K) (hf : far m = f) : BestN num far K f (m + 1) m := by
  refine ⟨⟨hm, Or.inr ⟨hf, by omega⟩⟩, fun j hj => ?_⟩
  have hn := h j
  unfold Seen at hj hn
  obtain rfl : j = m := by omega
  unfold le3; omega
theorem BestN.take {num far : Nat → Nat} {K f m b : Nat} (h : BestN num far K f m b) (hm : m < K) (hf : far m = f) (hn : num m < num b) : BestN num far K f (m + 1) m := by
  refine ⟨⟨hm, Or.inr ⟨hf, by omega⟩⟩, fun j hj => ?_⟩
  by_cases hs : Seen far K f m j
  · have := h.2 j hs
    unfold le3 at this ⊢
    omega
  · unfold Seen at hj hs
    obtain rfl : j = m := by omega
    unfold le3; omega
theorem BestN.keep {num far : Nat → Nat} {K f m b : Nat} (h : BestN num far K f m b) (hf : far m = f) (hn : ¬ num m < num b) : BestN num far K f (m + 1) b := by
  have hb := h.1
  refine ⟨by unfold Seen at hb ⊢; omega, fun j hj => ?_⟩
  by_cases hs : Seen far K f m j
  · exact h.2 j hs
  · unfold Seen at hj hs hb
    obtain rfl : j = m := by omega
    unfold le3; omega
theorem BestN.level {num far : Nat → Nat} {K f b : Nat} (h : BestN num far K f K b) : BestN num far K (f + 1) 0 b := by
  refine ⟨by have := h.1; unfold Seen at this ⊢; omega, fun j hj => h.2 j (by unfold Seen at hj ⊢; omega)⟩
theorem Seen.level {far : Nat → Nat} {K f : Nat} (h : ∀ j, ¬ Seen far K f K j) : ∀ j, ¬ Seen far K (f + 1) 0 j :=
  fun j hj => h j (by unfold Seen at hj ⊢; omega)
/-- Both are the same place. -/
theorem best_same {num far : Nat → Nat} {K f b c : Nat} (h : BestA num far K b) (k : BestN num far K f 0 c) (hf : ∀ j, j < K → far j < f) : b = c :=
  le3.anti (h.2 c k.1.1) (k.2 b ⟨h.1, Or.inl (hf b h.1)⟩)
theorem seen_all {far : Nat → Nat} {K f : Nat} (h : ∀ j, ¬ Seen far K f 0 j) (hK : 0 < K) (hf : ∀ j, j < K → far j < f) : False := h 0 ⟨hK, Or.inl (hf 0 hK)⟩

/-! ### places by number -/
def dxOf (r j : Nat) : Int := ((j % (2 * r + 1) : Nat) : Int) - r
def dyOf (r j : Nat) : Int := ((j / (2 * r + 1) : Nat) : Int) - r
def farOf (r j : Nat) : Nat := (dxOf r j).natAbs + (dyOf r j).natAbs
theorem dxOf_at (r v u : Nat) (hu : u < 2 * r + 1) : dxOf r (v * (2 * r + 1) + u) = (u : Int) - r := by
  unfold dxOf
  rw [Nat.mul_comm, Nat.mul_add_mod, Nat.mod_eq_of_lt hu]
theorem dyOf_at (r v u : Nat) (hu : u < 2 * r + 1) : dyOf r (v * (2 * r + 1) + u) = (v : Int) - r := by
  unfold dyOf
  rw [Nat.mul_comm, Nat.mul_add_div (by omega), Nat.div_eq_of_lt hu, Nat.add_zero]
theorem farOf_lt (r j : Nat) (hj : j < (2 * r + 1) * (2 * r + 1)) : farOf r j < 2 * r + 1 := by
  have h1 : j % (2 * r + 1) < 2 * r + 1 := Nat.mod_lt _ (by omega)
  have h2 : j / (2 * r + 1) < 2 * r + 1 := Nat.div_lt_of_lt_mul hj
  unfold farOf dxOf dyOf
  generalize j % (2 * r + 1) = a at h1 ⊢
  generalize j / (2 * r + 1) = b at h2 ⊢
  omega

/-- How many of the first n places differ. -/
def differs (bs cs : List Bool) (W H : Nat) (dx dy : Int) (i : Nat) : Bool := bs.getD i false != atI cs W H (((i % W : Nat) : Int) - dx) (((i / W : Nat) : Int) - dy)
def cntD (bs cs : List Bool) (W H : Nat) (dx dy : Int) : Nat → Nat
  | 0 => 0
  | n + 1 => cntD bs cs W H dx dy n + (if differs bs cs W H dx dy n then 1 else 0)
theorem cntD_le (bs cs : List Bool) (W H : Nat) (dx dy : Int) (n : Nat) : cntD bs cs W H dx dy n ≤ n := by
  induction n with
  | zero => exact Nat.le_refl 0
  | succ n ih => unfold cntD; split <;> omega
/-! ### the state of the two searches -/
def StA (num : Nat → Nat) (r m : Nat) (x y n : Int) : Prop :=
  (m = 0 ∧ x = 0 ∧ y = 0 ∧ n = -1) ∨ ∃ b, BestA num (farOf r) m b ∧ x = dxOf r b ∧ y = dyOf r b ∧ n = num b
def StN (num : Nat → Nat) (r f m : Nat) (x y n : Int) (found : Bool) : Prop :=
  (found = false ∧ n = 0 ∧ ∀ j, ¬ Seen (farOf r) ((2 * r + 1) * (2 * r + 1)) f m j) ∨ (found = true ∧ ∃ b, BestN num (farOf r) ((2 * r + 1) * (2 * r + 1)) f m b ∧ x = dxOf r b ∧ y = dyOf r b ∧ n = num b)
theorem StA.same {num : Nat → Nat} {r : Nat} {x y n x' y' n' : Int} {found : Bool} (h : StA num r ((2 * r + 1) * (2 * r + 1)) x y n) (k : StN num r (2 * r + 1) 0 x' y' n' found) : x = x' ∧ y = y' ∧ n = n' := by
  have hK : 0 < (2 * r + 1) * (2 * r + 1) := Nat.mul_pos (by omega) (by omega)
  rcases h with ⟨h, _⟩ | ⟨b, hb, rfl, rfl, rfl⟩
  · omega
  · rcases k with ⟨_, _, k⟩ | ⟨_, c, hc, rfl, rfl, rfl⟩
    · exact absurd (seen_all k hK (farOf_lt r)) id
    · rw [best_same hb hc (farOf_lt r)]
      exact ⟨rfl, rfl, rfl⟩
/-- One place more in Align. -/
theorem StA.step {num : Nat → Nat} {r m : Nat} {x y n : Int} (h : StA num r m x y n) :
    (n < 0 ∨ (num m : Int) < n ∨ ((num m : Int) = n ∧ (farOf r m : Int) < x.natAbs + y.natAbs) → StA num r (m + 1) (dxOf r m) (dyOf r m) (num m)) ∧
    (¬ (n < 0 ∨ (num m : Int) < n ∨ ((num m : Int) = n ∧ (farOf r m : Int) < x.natAbs + y.natAbs)) → StA num r (m + 1) x y n) := by
  rcases h with ⟨rfl, rfl, rfl, rfl⟩ | ⟨b, hb, rfl, rfl, rfl⟩
  · exact ⟨fun _ => Or.inr ⟨0, BestA.start num _, rfl, rfl, rfl⟩, fun hn => absurd (Or.inl (by decide)) hn⟩
  · have e : ((dxOf r b).natAbs : Int) + (dyOf r b).natAbs = (farOf r b : Int) := by unfold farOf; simp
    rw [e]
    refine ⟨fun hc => Or.inr ⟨m, hb.take ?_, rfl, rfl, rfl⟩, fun hc => Or.inr ⟨b, hb.keep ?_, rfl, rfl, rfl⟩⟩
    · rcases hc with hc | hc | ⟨hc, hd⟩ <;> omega
    · omega
/-- One place more in Nearest. -/
theorem StN.skip {num : Nat → Nat} {r f m : Nat} {x y n : Int} {found : Bool} (h : StN num r f m x y n found) (hf : farOf r m ≠ f) : StN num r f (m + 1) x y n found := by
  rcases h with ⟨h1, h2, h3⟩ | ⟨h1, b, hb, h2⟩
  · exact Or.inl ⟨h1, h2, Seen.skip h3 hf⟩
  · exact Or.inr ⟨h1, b, hb.skip hf, h2⟩
theorem StN.take {num : Nat → Nat} {r f m : Nat} {x y n : Int} {found : Bool} (h : StN num r f m x y n found) (hm : m < (2 * r + 1) * (2 * r + 1)) (hf : farOf r m = f) (hc : found = false ∨ (num m : Int) < n) : StN num r f (m + 1) (dxOf r m) (dyOf r m) (num m) true := by
  rcases h with ⟨h1, h2, h3⟩ | ⟨h1, b, hb, rfl, rfl, rfl⟩
  · exact Or.inr ⟨rfl, m, BestN.first h3 hm hf, rfl, rfl, rfl⟩
  · have hlt : num m < num b := by
      rcases hc with hc | hc
      · simp [h1] at hc
      · omega
    exact Or.inr ⟨rfl, m, hb.take hm hf hlt, rfl, rfl, rfl⟩
theorem StN.keep {num : Nat → Nat} {r f m : Nat} {x y n : Int} {found : Bool} (h : StN num r f m x y n found) (hf : farOf r m = f) (hc : ¬ (found = false ∨ (num m : Int) < n)) : StN num r f (m + 1) x y n found := by
  rcases h with ⟨h1, h2, h3⟩ | ⟨h1, b, hb, rfl, rfl, rfl⟩
  · exact absurd (Or.inl h1) hc
  · exact Or.inr ⟨h1, b, hb.keep hf (by omega), rfl, rfl, rfl⟩
theorem StN.level {num : Nat → Nat} {r f : Nat} {x y n : Int} {found : Bool} (h : StN num r f ((2 * r + 1) * (2 * r + 1)) x y n found) : StN num r (f + 1) 0 x y n found := by
  rcases h with ⟨h1, h2, h3⟩ | ⟨h1, b, hb, h2⟩
  · exact Or.inl ⟨h1, h2, Seen.level h3⟩
  · exact Or.inr ⟨h1, b, hb.level, h2⟩
theorem StN.start (num : Nat → Nat) (r : Nat) (x y : Int) : StN num r 0 0 x y 0 false :=
  Or.inl ⟨rfl, rfl, fun j hj => by unfold Seen at hj; omega⟩

end Go.Proofs.YtkipcobpnecmhabGreatDoor


/-! The plain law of forms.find and bedref2.FoundOf: of the places that count, both find the one with the least number, the nearest of those, the first of those. -/
namespace Go.Proofs.YtkipcobpnecmhabGreatDoor

def BestO (ok : Nat → Bool) (num far : Nat → Nat) (m b : Nat) : Prop := b < m ∧ ok b = true ∧ ∀ j, j < m → ok j = true → le3 num far b j
/-- The state of forms.find. -/
def StO (ok : Nat → Bool) (num : Nat → Nat) (r m : Nat) (x y n : Int) : Prop :=
  ((∀ j, j < m → ok j = false) ∧ x = 0 ∧ y = 0 ∧ n = -1) ∨ ∃ b, BestO ok num (farOf r) m b ∧ x = dxOf r b ∧ y = dyOf r b ∧ n = num b
theorem StO.start (ok : Nat → Bool) (num : Nat → Nat) (r : Nat) : StO ok num r 0 0 0 (-1) := .inl ⟨fun _j hj => absurd hj (Nat.not_lt_zero _), rfl, rfl, rfl⟩
theorem StO.skip {ok : Nat → Bool} {num : Nat → Nat} {r m : Nat} {x y n : Int} (h : StO ok num r m x y n) (hk : ok m = false) : StO ok num r (m + 1) x y n := by
  rcases h with ⟨h1, h2⟩ | ⟨b, ⟨hb, hb2, hb3⟩, h2⟩
  · refine .inl ⟨fun j hj => ?_, h2⟩
    rcases Nat.lt_succ_iff_lt_or_eq.1 hj with hl | rfl
    · exact h1 j hl
    · exact hk
  · refine .inr ⟨b, ⟨by omega, hb2, fun j hj hj2 => ?_⟩, h2⟩
    rcases Nat.lt_succ_iff_lt_or_eq.1 hj with hl | rfl
    · exact hb3 j hl hj2
    · rw [hk] at hj2; cases hj2
theorem StO.step {ok : Nat → Bool} {num : Nat → Nat} {r m : Nat} {x y n : Int} (h : StO ok num r m x y n) (hk : ok m = true) :
    (n < 0 ∨ (num m : Int) < n ∨ ((num m : Int) = n ∧ (farOf r m : Int) < x.natAbs + y.natAbs) → StO ok num r (m + 1) (dxOf r m) (dyOf r m) (num m)) ∧
    (¬ (n < 0 ∨ (num m : Int) < n ∨ ((num m : Int) = n ∧ (farOf r m : Int) < x.natAbs + y.natAbs)) → StO ok num r (m + 1) x y n) := by
  rcases h with ⟨h1, rfl, rfl, rfl⟩ | ⟨b, ⟨hb, hb2, hb3⟩, rfl, rfl, rfl⟩
  · refine ⟨fun _ => .inr ⟨m, ⟨by omega, hk, fun j hj hj2 => ?_⟩, rfl, rfl, rfl⟩, fun hn => absurd (Or.inl (by decide)) hn⟩
    rcases Nat.lt_succ_iff_lt_or_eq.1 hj with hl | rfl
    · rw [h1 j hl] at hj2; cases hj2
    · unfold le3; omega
  · have e : ((dxOf r b).natAbs : Int) + (dyOf r b).natAbs = (farOf r b : Int) := by unfold farOf; simp
    rw [e]
    refine ⟨fun hc => .inr ⟨m, ⟨by omega, hk, fun j hj hj2 => ?_⟩, rfl, rfl, rfl⟩, fun hc => .inr ⟨b, ⟨by omega, hb2, fun j hj hj2 => ?_⟩, rfl, rfl, rfl⟩⟩
    · rcases Nat.lt_succ_iff_lt_or_eq.1 hj with hl | rfl
      · have := hb3 j hl hj2
        unfold le3 at this ⊢
        omega
      · unfold le3; omega
    · rcases Nat.lt_succ_iff_lt_or_eq.1 hj with hl | rfl
      · exact hb3 j hl hj2
      · unfold le3; omega
/-- The search as a function. -/
def stepO (ok : Nat → Bool) (num : Nat → Nat) (r m : Nat) (p : Int × Int × Int) : Int × Int × Int :=
  if ok m = true ∧ (p.2.2 < 0 ∨ (num m : Int) < p.2.2 ∨ ((num m : Int) = p.2.2 ∧ (farOf r m : Int) < p.1.natAbs + p.2.1.natAbs)) then (dxOf r m, dyOf r m, (num m : Int)) else p
def findF (ok : Nat → Bool) (num : Nat → Nat) (r : Nat) : Nat → Int × Int × Int
  | 0 => (0, 0, -1)
  | m + 1 => stepO ok num r m (findF ok num r m)
theorem findF_st (ok : Nat → Bool) (num : Nat → Nat) (r : Nat) : ∀ m, StO ok num r m (findF ok num r m).1 (findF ok num r m).2.1 (findF ok num r m).2.2
  | 0 => StO.start ok num r
  | m + 1 => by
    have ih := findF_st ok num r m
    show StO ok num r (m + 1) (stepO ok num r m (findF ok num r m)).1 (stepO ok num r m (findF ok num r m)).2.1 (stepO ok num r m (findF ok num r m)).2.2
    generalize findF ok num r m = p at ih
    unfold stepO
    by_cases hk : ok m = true
    · by_cases hc : p.2.2 < 0 ∨ (num m : Int) < p.2.2 ∨ ((num m : Int) = p.2.2 ∧ (farOf r m : Int) < p.1.natAbs + p.2.1.natAbs)
      · rw [if_pos ⟨hk, hc⟩]
        exact (ih.step hk).1 hc
      · rw [if_neg (fun h => hc h.2)]
        exact (ih.step hk).2 hc
    · rw [if_neg (fun h => hk h.1)]
      exact ih.skip (by simpa using hk)
/-- The bounds of what is found. -/
theorem StO.bd {ok : Nat → Bool} {num : Nat → Nat} {r m : Nat} {x y n : Int} (h : StO ok num r m x y n) (hm : m ≤ (2 * r + 1) * (2 * r + 1)) (hr : r ≤ 40) : (-40 ≤ x ∧ x ≤ 40) ∧ (-40 ≤ y ∧ y ≤ 40) := by
  rcases h with ⟨_, rfl, rfl, _⟩ | ⟨b, hb, rfl, rfl, _⟩
  · omega
  · have h1 : b % (2 * r + 1) < 2 * r + 1 := Nat.mod_lt _ (by omega)
    have h2 : b / (2 * r + 1) < 2 * r + 1 := Nat.div_lt_of_lt_mul (Nat.lt_of_lt_of_le hb.1 hm)
    unfold dxOf dyOf
    generalize b % (2 * r + 1) = p at h1 ⊢
    generalize b / (2 * r + 1) = q at h2 ⊢
    omega
/-! ### bedref2.Nearest -/
def SeenO (ok : Nat → Bool) (far : Nat → Nat) (K f m j : Nat) : Prop := Seen far K f m j ∧ ok j = true
def BestP (ok : Nat → Bool) (num far : Nat → Nat) (K f m b : Nat) : Prop := SeenO ok far K f m b ∧ ∀ j, SeenO ok far K f m j → le3 num far b j
def StP (ok : Nat → Bool) (num : Nat → Nat) (r f m : Nat) (x y n : Int) (found : Bool) : Prop :=
  (found = false ∧ x = 0 ∧ y = 0 ∧ n = 0 ∧ ∀ j, ¬ SeenO ok (farOf r) ((2 * r + 1) * (2 * r + 1)) f m j) ∨ (found = true ∧ ∃ b, BestP ok num (farOf r) ((2 * r + 1) * (2 * r + 1)) f m b ∧ x = dxOf r b ∧ y = dyOf r b ∧ n = num b)
/-- Nothing new is seen at m: the state stays. -/
theorem Seen.succ {far : Nat → Nat} {K f m j : Nat} (h : Seen far K f (m + 1) j) : Seen far K f m j ∨ (j = m ∧ far m = f) := by
  unfold Seen at h ⊢
  rcases h with ⟨h1, h2 | ⟨h2, h3⟩⟩
  · exact .inl ⟨h1, .inl h2⟩
  · rcases Nat.lt_succ_iff_lt_or_eq.1 h3 with h | rfl
    · exact .inl ⟨h1, .inr ⟨h2, h⟩⟩
    · exact .inr ⟨rfl, h2⟩
theorem Seen.mono {far : Nat → Nat} {K f m j : Nat} (h : Seen far K f m j) : Seen far K f (m + 1) j := by
  unfold Seen at h ⊢
  omega
theorem StP.skip {ok : Nat → Bool} {num : Nat → Nat} {r f m : Nat} {x y n : Int} {found : Bool} (h : StP ok num r f m x y n found) (hf : farOf r m ≠ f ∨ ok m = false) : StP ok num r f (m + 1) x y n found := by
  have key : ∀ j, SeenO ok (farOf r) ((2 * r + 1) * (2 * r + 1)) f (m + 1) j → SeenO ok (farOf r) ((2 * r + 1) * (2 * r + 1)) f m j := fun j hj => by
    rcases hj.1.succ with h1 | ⟨rfl, h2⟩
    · exact ⟨h1, hj.2⟩
    · rcases hf with hf | hf
      · exact absurd h2 hf
      · have h3 := hj.2
        rw [hf] at h3; cases h3
  rcases h with ⟨h1, h2, h3, h4, h5⟩ | ⟨h1, b, ⟨hb, hb2⟩, h2⟩
  · exact .inl ⟨h1, h2, h3, h4, fun j hj => h5 j (key j hj)⟩
  · exact .inr ⟨h1, b, ⟨⟨hb.1.mono, hb.2⟩, fun j hj => hb2 j (key j hj)⟩, h2⟩
theorem StP.take {ok : Nat → Bool} {num : Nat → Nat} {r f m : Nat} {x y n : Int} {found : Bool} (h : StP ok num r f m x y n found) (hm : m < (2 * r + 1) * (2 * r + 1)) (hf : farOf r m = f) (hk : ok m = true) (hc : found = false ∨ (num m : Int) < n) : StP ok num r f (m + 1) (dxOf r m) (dyOf r m) (num m) true := by
  refine .inr ⟨rfl, m, ⟨⟨⟨hm, .inr ⟨hf, by omega⟩⟩, hk⟩, fun j hj => ?_⟩, rfl, rfl, rfl⟩
  rcases hj.1.succ with h1 | ⟨rfl, -⟩
  · rcases h with ⟨-, -, -, -, h5⟩ | ⟨hfd, b, ⟨hb, hb2⟩, -, -, hn⟩
    · exact absurd ⟨h1, hj.2⟩ (h5 j)
    · have hl := hb2 j ⟨h1, hj.2⟩
      have hlt : num m < num b := by
        rcases hc with hc | hc
        · rw [hfd] at hc; cases hc
        · omega
      unfold le3 at hl ⊢
      omega
  · unfold le3; omega
theorem StP.keep {ok : Nat → Bool} {num : Nat → Nat} {r f m : Nat} {x y n : Int} {found : Bool} (h : StP ok num r f m x y n found) (hf : farOf r m = f) (hc : ¬ (found = false ∨ (num m : Int) < n)) : StP ok num r f (m + 1) x y n found := by
  rcases h with ⟨h1, -⟩ | ⟨h1, b, ⟨hb, hb2⟩, rfl, rfl, rfl⟩
  · exact absurd (Or.inl h1) hc
  · refine .inr ⟨h1, b, ⟨⟨hb.1.mono, hb.2⟩, fun j hj => ?_⟩, rfl, rfl, rfl⟩
    rcases hj.1.succ with h2 | ⟨rfl, h2⟩
    · exact hb2 j ⟨h2, hj.2⟩
    · have hb3 := hb.1
      unfold Seen at hb3
      unfold le3
      omega
theorem StP.level {ok : Nat → Bool} {num : Nat → Nat} {r f : Nat} {x y n : Int} {found : Bool} (h : StP ok num r f ((2 * r + 1) * (2 * r + 1)) x y n found) : StP ok num r (f + 1) 0 x y n found := by
  have key : ∀ j, Seen (farOf r) ((2 * r + 1) * (2 * r + 1)) f ((2 * r + 1) * (2 * r + 1)) j ↔ Seen (farOf r) ((2 * r + 1) * (2 * r + 1)) (f + 1) 0 j := fun j => by unfold Seen; omega
  rcases h with ⟨h1, h2, h3, h4, h5⟩ | ⟨h1, b, ⟨hb, hb2⟩, h2⟩
  · exact .inl ⟨h1, h2, h3, h4, fun j hj => h5 j ⟨(key j).2 hj.1, hj.2⟩⟩
  · exact .inr ⟨h1, b, ⟨⟨(key b).1 hb.1, hb.2⟩, fun j hj => hb2 j ⟨(key j).2 hj.1, hj.2⟩⟩, h2⟩
theorem StP.start (ok : Nat → Bool) (num : Nat → Nat) (r : Nat) : StP ok num r 0 0 0 0 0 false :=
  .inl ⟨rfl, rfl, rfl, rfl, fun j hj => by have := hj.1; unfold Seen at this; omega⟩
theorem StP.bd {ok : Nat → Bool} {num : Nat → Nat} {r f m : Nat} {x y n : Int} {found : Bool} (h : StP ok num r f m x y n found) (hr : r ≤ 40) : (-40 ≤ x ∧ x ≤ 40) ∧ (-40 ≤ y ∧ y ≤ 40) := by
  rcases h with ⟨_, rfl, rfl, _⟩ | ⟨_, b, hb, rfl, rfl, _⟩
  · omega
  · have hK := hb.1.1.1
    have h1 : b % (2 * r + 1) < 2 * r + 1 := Nat.mod_lt _ (by omega)
    have h2 : b / (2 * r + 1) < 2 * r + 1 := Nat.div_lt_of_lt_mul hK
    unfold dxOf dyOf
    generalize b % (2 * r + 1) = p at h1 ⊢
    generalize b / (2 * r + 1) = q at h2 ⊢
    omega
/-- Both searches find the same, if any place counts. -/
theorem StO.same {ok : Nat → Bool} {num : Nat → Nat} {r : Nat} {x y n x' y' n' : Int} {found : Bool} (h : StO ok num r ((2 * r + 1) * (2 * r + 1)) x y n) (k : StP ok num r (2 * r + 1) 0 x' y' n' found) (hex : ∃ j, j < (2 * r + 1) * (2 * r + 1) ∧ ok j = true) : x = x' ∧ y = y' ∧ n = n' ∧ 0 ≤ n := by
  obtain ⟨j, hj, hk⟩ := hex
  rcases h with ⟨h, _⟩ | ⟨b, ⟨hb, hb2, hb3⟩, rfl, rfl, rfl⟩
  · rw [h j hj] at hk; cases hk
  · rcases k with ⟨-, -, -, -, k⟩ | ⟨-, c, ⟨⟨hc1, hc2⟩, hc3⟩, rfl, rfl, rfl⟩
    · exact absurd ⟨⟨hj, .inl (farOf_lt r j hj)⟩, hk⟩ (k j)
    · have e : b = c := le3.anti (hb3 c hc1.1 hc2) (hc3 b ⟨⟨hb, .inl (farOf_lt r b hb)⟩, hb2⟩)
      subst e
      exact ⟨rfl, rfl, rfl, by omega⟩
/-- What bedref2.Nearest finds is what the function says. -/
theorem StP.eq {ok : Nat → Bool} {num : Nat → Nat} {r : Nat} {x y n : Int} {found : Bool} (k : StP ok num r (2 * r + 1) 0 x y n found) (hex : ∃ j, j < (2 * r + 1) * (2 * r + 1) ∧ ok j = true) : (x, y, n) = findF ok num r ((2 * r + 1) * (2 * r + 1)) ∧ 0 ≤ n := by
  obtain ⟨e1, e2, e3, e4⟩ := (findF_st ok num r ((2 * r + 1) * (2 * r + 1))).same k hex
  refine ⟨?_, by omega⟩
  rw [← e1, ← e2, ← e3]
end Go.Proofs.YtkipcobpnecmhabGreatDoor


/-! Sums of numbers, tables of numbers in memory. -/
namespace Go.Proofs.YtkipcobpnecmhabGreatDoor
open Go.RowKit

/-! ### sums -/
def sumN (f : Nat → Nat) : Nat → Nat
  | 0 => 0
  | n + 1 => sumN f n + f n
/-! ### a table of numbers in memory -/
def tabL (N : Nat) (f : Nat → Int) : List Int := (List.range N).map f
end Go.Proofs.YtkipcobpnecmhabGreatDoor


/-! The plain law of leaning and of profiles. -/
namespace Go.Proofs.YtkipcobpnecmhabGreatDoor
open Go.RowKit

/-! ### a number that leans -/
def shiftI (n : Int) : Int := if n < 0 then -roundI (-n) 1024 else roundI n 1024
def leanI (W : Nat) (n : Int) (x : Nat) : Int := shiftI (n * ((x : Int) - ((W : Int) - 1) / 2))
/-! ### places of ink -/
def spotL (bs : List Bool) : Nat → List Nat
  | 0 => []
  | m + 1 => spotL bs m ++ (if bs.getD m false then [m] else [])
def b1 (b : Bool) : Nat := if b then 1 else 0
/-- The place in the profile. -/
def profAt (W H : Nat) (n : Int) (i : Nat) : Int := ((H / 2 : Nat) : Int) + ((i / W : Nat) : Int) + leanI W n (i % W)
def profK (W H : Nat) (n : Int) (k i : Nat) : Bool := decide (profAt W H n i = (k : Int))
/-- How much ink row k of the profile has. -/
def profN (bs : List Bool) (W H : Nat) (n : Int) (k : Nat) : Nat := sumN (fun i => b1 (bs.getD i false && profK W H n k i)) (W * H)
end Go.Proofs.YtkipcobpnecmhabGreatDoor


/-! The plain law of ink that is moved place by place. -/
namespace Go.Proofs.YtkipcobpnecmhabGreatDoor
open Go.RowKit

/-! ### a table of bools in memory -/
/-! ### moving -/
theorem place_parts {W H k : Nat} (hk : k < W * H) : k % W < W ∧ k / W < H ∧ (k / W) * W + k % W = k := by
  have hW : 0 < W := by rcases Nat.eq_zero_or_pos W with h0 | h0; (subst h0; simp at hk); exact h0
  exact ⟨Nat.mod_lt _ hW, Nat.div_lt_of_lt_mul hk, by have := Nat.div_add_mod k W; rw [Nat.mul_comm] at this; exact this⟩
theorem at_parts {W x : Nat} (y : Nat) (hx : x < W) : (y * W + x) % W = x ∧ (y * W + x) / W = y :=
  ⟨by rw [Nat.mul_comm, Nat.mul_add_mod, Nat.mod_eq_of_lt hx], by rw [Nat.mul_comm, Nat.mul_add_div (by omega), Nat.div_eq_of_lt hx, Nat.add_zero]⟩
end Go.Proofs.YtkipcobpnecmhabGreatDoor


/-! The plain law of counts and of bounds. -/
namespace Go.Proofs.YtkipcobpnecmhabGreatDoor
open Go.RowKit

/-! ### counts -/
def rowN (bs : List Bool) (W y : Nat) : Nat := sumN (fun x => b1 (pix bs W x y)) W
def colN (bs : List Bool) (W H x : Nat) : Nat := sumN (fun y => b1 (pix bs W x y)) H
theorem sumN_pos (f : Nat → Nat) : ∀ n, 0 < sumN f n ↔ ∃ i, i < n ∧ 0 < f i
  | 0 => by simp [sumN]
  | n + 1 => by
    have ih := sumN_pos f n
    simp only [sumN]
    constructor
    · intro h
      by_cases h2 : 0 < f n
      · exact ⟨n, by omega, h2⟩
      · obtain ⟨i, hi, h3⟩ := ih.1 (by omega)
        exact ⟨i, by omega, h3⟩
    · rintro ⟨i, hi, h3⟩
      by_cases h2 : i = n
      · subst h2; omega
      · have := ih.2 ⟨i, by omega, h3⟩; omega
theorem b1_pos (b : Bool) : 0 < b1 b ↔ b = true := by cases b <;> simp [b1]
theorem rowN_pos (bs : List Bool) (W y : Nat) : 0 < rowN bs W y ↔ ∃ x, x < W ∧ pix bs W x y = true := by
  unfold rowN; rw [sumN_pos]; simp only [b1_pos]
theorem colN_pos (bs : List Bool) (W H x : Nat) : 0 < colN bs W H x ↔ ∃ y, y < H ∧ pix bs W x y = true := by
  unfold colN; rw [sumN_pos]; simp only [b1_pos]

/-! ### ends -/
def Ends (f : Nat → Nat) (N x r : Nat) : Prop := (x < N ∧ 0 < f x ∧ ∀ j, j < x → f j = 0) ∧ (r < N ∧ 0 < f r ∧ ∀ j, r < j → j < N → f j = 0)
def NoEnds (f : Nat → Nat) (N : Nat) : Prop := ∀ j, j < N → f j = 0
theorem Ends.same {f : Nat → Nat} {N x r x' r' : Nat} (h : Ends f N x r) (k : Ends f N x' r') : x = x' ∧ r = r' := by
  obtain ⟨⟨h1, h2, h3⟩, h4, h5, h6⟩ := h
  obtain ⟨⟨k1, k2, k3⟩, k4, k5, k6⟩ := k
  constructor
  · rcases Nat.lt_trichotomy x x' with c | c | c
    · have := k3 x c; omega
    · exact c
    · have := h3 x' c; omega
  · rcases Nat.lt_trichotomy r r' with c | c | c
    · have := h6 r' c k4; omega
    · exact c
    · have := k6 r c h4; omega
theorem Ends.not {f : Nat → Nat} {N x r : Nat} (h : Ends f N x r) (k : NoEnds f N) : False := by
  have := k x h.1.1
  have := h.1.2.1
  omega

/-! ### bounds -/
def BoundsIs (bs : List Bool) (W H : Nat) (is : Bool) (X Y BW BH : Int) : Prop :=
  (is = false ∧ NoEnds (colN bs W H) W ∧ X = 0 ∧ Y = 0 ∧ BW = 0 ∧ BH = 0) ∨
  (is = true ∧ ∃ l r t b : Nat, Ends (colN bs W H) W l r ∧ Ends (rowN bs W) H t b ∧ X = l ∧ Y = t ∧ BW = (r : Int) - l + 1 ∧ BH = (b : Int) - t + 1)
theorem BoundsIs.same {bs : List Bool} {W H : Nat} {is is' : Bool} {X Y BW BH X' Y' BW' BH' : Int} (h : BoundsIs bs W H is X Y BW BH) (k : BoundsIs bs W H is' X' Y' BW' BH') : is = is' ∧ X = X' ∧ Y = Y' ∧ BW = BW' ∧ BH = BH' := by
  rcases h with ⟨h1, h2, h3, h4, h5, h6⟩ | ⟨h1, l, r, t, b, h2, h3, h4, h5, h6, h7⟩ <;> rcases k with ⟨k1, k2, k3, k4, k5, k6⟩ | ⟨k1, l', r', t', b', k2, k3, k4, k5, k6, k7⟩
  · exact ⟨by rw [h1, k1], by omega, by omega, by omega, by omega⟩
  · exact (k2.not h2).elim
  · exact (h2.not k2).elim
  · obtain ⟨e1, e2⟩ := h2.same k2
    obtain ⟨e3, e4⟩ := h3.same k3
    exact ⟨by rw [h1, k1], by omega, by omega, by omega, by omega⟩
theorem BoundsIs.bd {bs : List Bool} {W H : Nat} {is : Bool} {X Y BW BH : Int} (h : BoundsIs bs W H is X Y BW BH) : (0 ≤ X ∧ X ≤ W) ∧ (0 ≤ Y ∧ Y ≤ H) ∧ (0 ≤ BW ∧ BW ≤ W) ∧ (0 ≤ BH ∧ BH ≤ H) ∧ (is = true → X + BW ≤ W ∧ Y + BH ≤ H ∧ 1 ≤ BW ∧ 1 ≤ BH) := by
  rcases h with ⟨h1, h2, h3, h4, h5, h6⟩ | ⟨h1, l, r, t, b, h2, h3, h4, h5, h6, h7⟩
  · refine ⟨by omega, by omega, by omega, by omega, fun h => ?_⟩
    rw [h1] at h; cases h
  · have a1 := h2.1.1
    have a2 := h2.2.1
    have a3 := h3.1.1
    have a4 := h3.2.1
    have a5 : l ≤ r := by
      rcases Nat.lt_or_ge r l with c | c
      · have := h2.1.2.2 r c; have := h2.2.2.1; omega
      · exact c
    have a6 : t ≤ b := by
      rcases Nat.lt_or_ge b t with c | c
      · have := h3.1.2.2 b c; have := h3.2.2.1; omega
      · exact c
    exact ⟨by omega, by omega, by omega, by omega, fun _ => by omega⟩

/-- The bounds so far. -/
def BInv (bs : List Bool) (W H m : Nat) (l t r b : Int) : Prop :=
  ((∀ i, i < m → bs.getD i false = false) ∧ l = W ∧ t = H ∧ r = -1 ∧ b = -1) ∨
  ((∃ i, i < m ∧ bs.getD i false = true ∧ l = ((i % W : Nat) : Int)) ∧ (∃ i, i < m ∧ bs.getD i false = true ∧ t = ((i / W : Nat) : Int)) ∧ (∃ i, i < m ∧ bs.getD i false = true ∧ r = ((i % W : Nat) : Int)) ∧ (∃ i, i < m ∧ bs.getD i false = true ∧ b = ((i / W : Nat) : Int)) ∧
    ∀ i, i < m → bs.getD i false = true → l ≤ ((i % W : Nat) : Int) ∧ ((i % W : Nat) : Int) ≤ r ∧ t ≤ ((i / W : Nat) : Int) ∧ ((i / W : Nat) : Int) ≤ b)
theorem BInv.start (bs : List Bool) (W H : Nat) : BInv bs W H 0 W H (-1) (-1) := Or.inl ⟨fun i hi => by omega, rfl, rfl, rfl, rfl⟩
theorem BInv.no {bs : List Bool} {W H m : Nat} {l t r b : Int} (h : BInv bs W H m l t r b) (hm : bs.getD m false = false) : BInv bs W H (m + 1) l t r b := by
  rcases h with ⟨h1, h2⟩ | ⟨⟨i1, a1, b1', c1⟩, ⟨i2, a2, b2, c2⟩, ⟨i3, a3, b3, c3⟩, ⟨i4, a4, b4, c4⟩, h5⟩
  · refine Or.inl ⟨fun i hi => ?_, h2⟩
    rcases Nat.lt_or_ge i m with c | c
    · exact h1 i c
    · obtain rfl : i = m := by omega
      exact hm
  · refine Or.inr ⟨⟨i1, by omega, b1', c1⟩, ⟨i2, by omega, b2, c2⟩, ⟨i3, by omega, b3, c3⟩, ⟨i4, by omega, b4, c4⟩, fun i hi hb => ?_⟩
    rcases Nat.lt_or_ge i m with c | c
    · exact h5 i c hb
    · obtain rfl : i = m := by omega
      rw [hm] at hb; cases hb
theorem BInv.yes {bs : List Bool} {W H m : Nat} {l t r b : Int} (h : BInv bs W H m l t r b) (hm : bs.getD m false = true) (hx : m % W < W) (hy : m / W < H) {l' t' r' b' : Int}
    (el : l' = if ((m % W : Nat) : Int) < l then ((m % W : Nat) : Int) else l) (et : t' = if ((m / W : Nat) : Int) < t then ((m / W : Nat) : Int) else t)
    (er : r' = if r < ((m % W : Nat) : Int) then ((m % W : Nat) : Int) else r) (eb : b' = if b < ((m / W : Nat) : Int) then ((m / W : Nat) : Int) else b) : BInv bs W H (m + 1) l' t' r' b' := by
  obtain ⟨x, hx'⟩ : ∃ x, x = m % W := ⟨_, rfl⟩
  obtain ⟨y, hy'⟩ : ∃ y, y = m / W := ⟨_, rfl⟩
  rw [← hx'] at el er hx
  rw [← hy'] at et eb hy
  rcases h with ⟨h1, rfl, rfl, rfl, rfl⟩ | ⟨⟨i1, a1, b1', c1⟩, ⟨i2, a2, b2, c2⟩, ⟨i3, a3, b3, c3⟩, ⟨i4, a4, b4, c4⟩, h5⟩
  · rw [if_pos (by omega)] at el et er eb
    refine Or.inr ⟨⟨m, by omega, hm, by rw [← hx']; exact el⟩, ⟨m, by omega, hm, by rw [← hy']; exact et⟩, ⟨m, by omega, hm, by rw [← hx']; exact er⟩, ⟨m, by omega, hm, by rw [← hy']; exact eb⟩, fun i hi hb => ?_⟩
    rcases Nat.lt_or_ge i m with c | c
    · rw [h1 i c] at hb; cases hb
    · obtain rfl : i = m := by omega
      rw [← hx', ← hy']; omega
  · refine Or.inr ⟨?_, ?_, ?_, ?_, fun i hi hb => ?_⟩
    · by_cases c : (x : Int) < l
      · rw [if_pos c] at el; exact ⟨m, by omega, hm, by rw [← hx']; exact el⟩
      · rw [if_neg c] at el; exact ⟨i1, by omega, b1', by rw [el]; exact c1⟩
    · by_cases c : (y : Int) < t
      · rw [if_pos c] at et; exact ⟨m, by omega, hm, by rw [← hy']; exact et⟩
      · rw [if_neg c] at et; exact ⟨i2, by omega, b2, by rw [et]; exact c2⟩
    · by_cases c : r < (x : Int)
      · rw [if_pos c] at er; exact ⟨m, by omega, hm, by rw [← hx']; exact er⟩
      · rw [if_neg c] at er; exact ⟨i3, by omega, b3, by rw [er]; exact c3⟩
    · by_cases c : b < (y : Int)
      · rw [if_pos c] at eb; exact ⟨m, by omega, hm, by rw [← hy']; exact eb⟩
      · rw [if_neg c] at eb; exact ⟨i4, by omega, b4, by rw [eb]; exact c4⟩
    · have key : (l' ≤ l ∧ l' ≤ x) ∧ (t' ≤ t ∧ t' ≤ y) ∧ (r ≤ r' ∧ (x : Int) ≤ r') ∧ (b ≤ b' ∧ (y : Int) ≤ b') := by
        refine ⟨?_, ?_, ?_, ?_⟩
        · split at el <;> omega
        · split at et <;> omega
        · split at er <;> omega
        · split at eb <;> omega
      rcases Nat.lt_or_ge i m with c | c
      · have := h5 i c hb; omega
      · obtain rfl : i = m := by omega
        rw [← hx', ← hy']; omega
theorem BInv.bd {bs : List Bool} {W H m : Nat} {l t r b : Int} (h : BInv bs W H m l t r b) (hm : m ≤ W * H) : (0 ≤ l ∧ l ≤ W) ∧ (0 ≤ t ∧ t ≤ H) ∧ (-1 ≤ r ∧ r < W) ∧ (-1 ≤ b ∧ b < H) := by
  have hp : ∀ i, i < m → i % W < W ∧ i / W < H := fun i hi => by
    obtain ⟨a, b, _⟩ := place_parts (show i < W * H by omega)
    exact ⟨a, b⟩
  rcases h with ⟨h1, rfl, rfl, rfl, rfl⟩ | ⟨⟨i1, a1, b1', c1⟩, ⟨i2, a2, b2, c2⟩, ⟨i3, a3, b3, c3⟩, ⟨i4, a4, b4, c4⟩, h5⟩
  · omega
  · have p1 := (hp i1 a1).1; have p2 := (hp i2 a2).2; have p3 := (hp i3 a3).1; have p4 := (hp i4 a4).2
    clear h5 hp
    generalize i1 % W = x1 at c1 p1
    generalize i2 / W = y2 at c2 p2
    generalize i3 % W = x3 at c3 p3
    generalize i4 / W = y4 at c4 p4
    omega
theorem pix_place {bs : List Bool} {W H i : Nat} (hi : i < W * H) : pix bs W (i % W) (i / W) = bs.getD i false := by
  unfold pix; rw [(place_parts hi).2.2]
/-- What comes out. -/
theorem BInv.done {bs : List Bool} {W H : Nat} {l t r b : Int} (h : BInv bs W H (W * H) l t r b) :
    (r < 0 ∧ BoundsIs bs W H false 0 0 0 0) ∨ (¬ r < 0 ∧ BoundsIs bs W H true l t (r - l + 1) (b - t + 1)) := by
  rcases h with ⟨h1, rfl, rfl, rfl, rfl⟩ | ⟨⟨i1, a1, b1', c1⟩, ⟨i2, a2, b2, c2⟩, ⟨i3, a3, b3, c3⟩, ⟨i4, a4, b4, c4⟩, h5⟩
  · refine Or.inl ⟨by omega, Or.inl ⟨rfl, fun x hx => ?_, rfl, rfl, rfl, rfl⟩⟩
    rcases Nat.eq_zero_or_pos (colN bs W H x) with e | e
    · exact e
    · obtain ⟨y, hy, hp⟩ := (colN_pos bs W H x).1 e
      have := h1 (y * W + x) (place_lt hx hy)
      unfold pix at hp
      rw [this] at hp; cases hp
  · have q1 := place_parts a1; have q2 := place_parts a2; have q3 := place_parts a3; have q4 := place_parts a4
    have all : ∀ x y, x < W → y < H → pix bs W x y = true → l ≤ x ∧ (x : Int) ≤ r ∧ t ≤ y ∧ (y : Int) ≤ b := fun x y hx hy hp => by
      have := h5 (y * W + x) (place_lt hx hy) hp
      rwa [(at_parts y hx).1, (at_parts y hx).2] at this
    refine Or.inr ⟨by omega, Or.inr ⟨rfl, i1 % W, i3 % W, i2 / W, i4 / W, ⟨⟨q1.1, (colN_pos _ _ _ _).2 ⟨i1 / W, q1.2.1, by rw [pix_place a1]; exact b1'⟩, fun j hj => ?_⟩, q3.1, (colN_pos _ _ _ _).2 ⟨i3 / W, q3.2.1, by rw [pix_place a3]; exact b3⟩, fun j hj hj2 => ?_⟩,
      ⟨⟨q2.2.1, (rowN_pos _ _ _).2 ⟨i2 % W, q2.1, by rw [pix_place a2]; exact b2⟩, fun j hj => ?_⟩, q4.2.1, (rowN_pos _ _ _).2 ⟨i4 % W, q4.1, by rw [pix_place a4]; exact b4⟩, fun j hj hj2 => ?_⟩, c1, c2, by rw [c1, c3], by rw [c2, c4]⟩⟩
    · rcases Nat.eq_zero_or_pos (colN bs W H j) with e | e
      · exact e
      · obtain ⟨y, hy, hp⟩ := (colN_pos bs W H j).1 e
        have := all j y (by omega) hy hp; omega
    · rcases Nat.eq_zero_or_pos (colN bs W H j) with e | e
      · exact e
      · obtain ⟨y, hy, hp⟩ := (colN_pos bs W H j).1 e
        have := all j y (by omega) hy hp; omega
    · rcases Nat.eq_zero_or_pos (rowN bs W j) with e | e
      · exact e
      · obtain ⟨x, hx, hp⟩ := (rowN_pos bs W j).1 e
        have := all x j hx (by omega) hp; omega
    · rcases Nat.eq_zero_or_pos (rowN bs W j) with e | e
      · exact e
      · obtain ⟨x, hx, hp⟩ := (rowN_pos bs W j).1 e
        have := all x j hx (by omega) hp; omega

/-! ### values -/
end Go.Proofs.YtkipcobpnecmhabGreatDoor


/-! The plain law of fonts: what is wrong with one; how letters lie in memory. -/
namespace Go.Proofs.YtkipcobpnecmhabGreatDoor
open Go.RowKit

/-- A letter: its text, its page's size, where the page's pixels lie, and what they are. -/
structure Ltr where
  text : List UInt8
  W : Int
  H : Int
  A : Option Addr
  m : Nat
  c : Nat
  bs : List Bool
def Ltr.cells (l : Ltr) : List Value := [.string ⟨l.text.toArray⟩, .int .i64 l.W, .int .i64 l.H, .slice l.A l.m l.c]
def ltrCells (ls : List Ltr) : List Value := ls.flatMap Ltr.cells
theorem ltrCells_len (ls : List Ltr) : (ltrCells ls).length = ls.length * 4 := by
  unfold ltrCells
  induction ls with
  | nil => rfl
  | cons l ls ih =>
    rw [List.flatMap_cons, List.length_append, ih, List.length_cons]
    show 4 + ls.length * 4 = (ls.length + 1) * 4
    omega
theorem ltrCells_append (a b : List Ltr) : ltrCells (a ++ b) = ltrCells a ++ ltrCells b := by unfold ltrCells; rw [List.flatMap_append]
theorem ltrCells_at {ls : List Ltr} {i : Nat} {l : Ltr} (h : ls[i]? = some l) (j : Nat) (hj : j < 4) : (ltrCells ls)[i * 4 + j]? = l.cells[j]? := by
  induction ls generalizing i with
  | nil => simp at h
  | cons x ls ih =>
    unfold ltrCells
    rw [List.flatMap_cons]
    rcases i with _ | i
    · simp only [List.getElem?_cons_zero, Option.some.injEq] at h
      subst h
      rw [List.getElem?_append_left (by show 0 * 4 + j < 4; omega)]
      simp
    · rw [List.getElem?_append_right (by show 4 ≤ (i + 1) * 4 + j; omega)]
      have e : (i + 1) * 4 + j - x.cells.length = i * 4 + j := by
        show (i + 1) * 4 + j - 4 = i * 4 + j
        omega
      rw [e]
      exact ih (by simpa using h)
/-- The letters lie there. -/
def LtrsAt (w : World) (L : Option Addr) (ls : List Ltr) : Prop := Reads w 4 L ls.length (ltrCells ls) ∧ ∀ l ∈ ls, Reads w 1 l.A l.m (l.bs.map .bool) ∧ l.text.length ≤ 9223372036854775807
theorem LtrsAt.bl {w w' : World} {L : Option Addr} {ls : List Ltr} (h : LtrsAt w L ls) (hb : Bl w w') : LtrsAt w' L ls := ⟨h.1.bl hb, fun l hl => ⟨(h.2 l hl).1.bl hb, (h.2 l hl).2⟩⟩
theorem LtrsAt.at_ {w : World} {L : Option Addr} {ls : List Ltr} {i : Nat} {l : Ltr} (h : LtrsAt w L ls) (hi : ls[i]? = some l) : ∃ ad, L = some ad ∧ w.cell? (ad.add (i * 4)) = some (.string ⟨l.text.toArray⟩) ∧ w.cell? ⟨(ad.add (i * 4)).block, (ad.add (i * 4)).off + 1, none⟩ = some (.int .i64 l.W) ∧
    w.cell? ⟨(ad.add (i * 4)).block, (ad.add (i * 4)).off + 2, none⟩ = some (.int .i64 l.H) ∧ w.cell? ⟨(ad.add (i * 4)).block, (ad.add (i * 4)).off + 3, none⟩ = some (.slice l.A l.m l.c) := by
  have hlt : i < ls.length := (List.getElem?_eq_some_iff.1 hi).1
  obtain ⟨ad, e, hc⟩ := h.1.2 (by omega)
  have key : ∀ j v, j < 4 → l.cells[j]? = some v → w.cell? ((ad.add (i * 4)).add j) = some v := fun j v hj hv => by
    rw [add_of_add]
    exact hc _ _ (by rw [ltrCells_at hi j hj]; exact hv)
  have k0 := key 0 _ (by omega) rfl
  have k1 := key 1 _ (by omega) rfl
  have k2 := key 2 _ (by omega) rfl
  have k3 := key 3 _ (by omega) rfl
  rw [Addr.add_zero'] at k0
  rw [Addr.add_succ'] at k1 k2 k3
  exact ⟨ad, e, k0, k1, k2, k3⟩
theorem LtrsAt.take {w : World} {L : Option Addr} {ls : List Ltr} (h : LtrsAt w L ls) (i : Nat) (hi : i ≤ ls.length) : LtrsAt w L (ls.take i) := by
  have hl : (ls.take i).length = i := by simp; omega
  refine ⟨⟨ltrCells_len _, fun hn => ?_⟩, fun l hm => h.2 l (List.mem_of_mem_take hm)⟩
  obtain ⟨ad, e, hc⟩ := h.1.2 (by omega)
  refine ⟨ad, e, fun j u hj => hc j u ?_⟩
  have e2 : ltrCells ls = ltrCells (ls.take i) ++ ltrCells (ls.drop i) := by rw [← ltrCells_append, List.take_append_drop]
  rw [e2, List.getElem?_append_left (List.getElem?_eq_some_iff.1 hj).1]
  exact hj

/-! ### what is wrong -/
end Go.Proofs.YtkipcobpnecmhabGreatDoor


/-! page.counted, Rows, Columns, Histogram. -/
namespace Go.Proofs.YtkipcobpnecmhabGreatDoor
open Go.RowKit

/-- A table of numbers if the error is 0, nothing else. -/
def TabRes (w : World) (err : Int) (N : Nat) (f : Nat → Int) (P : Option Addr) (m : Nat) : Prop :=
  (err = 0 → m = N ∧ Reads w 1 P m ((tabL m f).map (.int .i64))) ∧ (err ≠ 0 → m = 0 ∧ P = none)
theorem TabRes.bl {w w' : World} {err : Int} {N : Nat} {f : Nat → Int} {P : Option Addr} {m : Nat} (h : TabRes w err N f P m) (hb : Bl w w') : TabRes w' err N f P m :=
  ⟨fun e => ⟨(h.1 e).1, (h.1 e).2.bl hb⟩, h.2⟩
/-! ### Histogram -/
end Go.Proofs.YtkipcobpnecmhabGreatDoor


/-! What holds of a font whose error is 0. -/
namespace Go.Proofs.YtkipcobpnecmhabGreatDoor
open Go.RowKit

theorem firstNZ_zero {es : List Int} (h : firstNZ es = 0) : ∀ e ∈ es, e = 0 := by
  induction es with
  | nil => intro e he; cases he
  | cons x es ih =>
    have h' : (if x = 0 then firstNZ es else x) = 0 := h
    by_cases h0 : x = 0
    · rw [if_pos h0] at h'
      intro e he
      rcases List.mem_cons.1 he with rfl | he
      · exact h0
      · exact ih h' e he
    · rw [if_neg h0] at h'
      exact absurd h' h0
end Go.Proofs.YtkipcobpnecmhabGreatDoor


/-! boxes in pages, Cut and Ink. -/
namespace Go.Proofs.YtkipcobpnecmhabGreatDoor
open Go.RowKit

/-! ### boxes -/
def inPageB (X Y BW BH W H : Int) : Bool := decide (0 ≤ X ∧ X < W ∧ 0 ≤ Y ∧ Y < H ∧ 1 ≤ BW ∧ BW ≤ W - X ∧ 1 ≤ BH ∧ BH ≤ H - Y)
def inPageW (X Y BW BH W H : Int) : Bool := inB X 0 (wrap64 (W - 1)) && (inB Y 0 (wrap64 (H - 1)) && (inB BW 1 (wrap64 (W - X)) && inB BH 1 (wrap64 (H - Y))))
theorem inPageW_eq {X Y BW BH W H : Int} (hW : 1 ≤ W ∧ W ≤ 4000) (hH : 1 ≤ H ∧ H ≤ 4000) : inPageW X Y BW BH W H = inPageB X Y BW BH W H := by
  have e1 : wrap64 (W - 1) = W - 1 := by unfold wrap64; omega
  have e2 : wrap64 (H - 1) = H - 1 := by unfold wrap64; omega
  rw [Bool.eq_iff_iff]
  unfold inPageW inPageB
  simp only [e1, e2, Bool.and_eq_true, inB_true, decide_eq_true_eq]
  constructor
  · rintro ⟨h1, h2, h3, h4⟩
    have e3 : wrap64 (W - X) = W - X := by unfold wrap64; omega
    have e4 : wrap64 (H - Y) = H - Y := by unfold wrap64; omega
    rw [e3] at h3
    rw [e4] at h4
    omega
  · rintro ⟨h1, h2, h3, h4, h5⟩
    have e3 : wrap64 (W - X) = W - X := by unfold wrap64; omega
    have e4 : wrap64 (H - Y) = H - Y := by unfold wrap64; omega
    rw [e3, e4]
    omega

set_option maxHeartbeats 1000000 in
theorem inPageOf_any (X Y BW BH W H : Int) (w : World) :
    Calls Tryz.prog 24 #[.agg #[.int .i64 X, .int .i64 Y, .int .i64 BW, .int .i64 BH], .int .i64 W, .int .i64 H] w fun e w' => e = .returned (.bool (inPageW X Y BW BH W H)) ∧ Bl w w' := by
  unfold inPageW
  cases h1 : inB X 0 (wrap64 (W - 1))
  case false =>
    go_enter Tryz.func24, Tryz.ntmps24
    go_wp2_with (go_at_call 22; refine (in_any _ _ _ _).mono ?_; rintro e w' ⟨rfl, rfl⟩)
    go_ret
    exact ⟨rfl, (Bl.refl _).alloc _⟩
  case true =>
    cases h2 : inB Y 0 (wrap64 (H - 1))
    case false =>
      go_enter Tryz.func24, Tryz.ntmps24
      go_wp2_with (go_at_call 22; refine (in_any _ _ _ _).mono ?_; rintro e w' ⟨rfl, rfl⟩)
      go_ret
      exact ⟨rfl, (Bl.refl _).alloc _⟩
    case true =>
      cases h3 : inB BW 1 (wrap64 (W - X))
      case false =>
        go_enter Tryz.func24, Tryz.ntmps24
        go_wp2_with (go_at_call 22; refine (in_any _ _ _ _).mono ?_; rintro e w' ⟨rfl, rfl⟩)
        go_ret
        exact ⟨rfl, (Bl.refl _).alloc _⟩
      case true =>
        go_enter Tryz.func24, Tryz.ntmps24
        go_wp2_with (go_at_call 22; refine (in_any _ _ _ _).mono ?_; rintro e w' ⟨rfl, rfl⟩)
        go_ret
        exact ⟨by simp, (Bl.refl _).alloc _⟩

set_option maxRecDepth 100000 in
set_option maxHeartbeats 2000000 in
theorem inPage_any (X Y BW BH : Int) (W H : Nat) (w : World) (hW : 1 ≤ W ∧ W ≤ 4000) (hH : 1 ≤ H ∧ H ≤ 4000) :
    Calls Tryz.prog 74 #[.agg #[.int .i64 X, .int .i64 Y, .int .i64 BW, .int .i64 BH], .int .i64 W, .int .i64 H] w fun e w' => e = .returned (.int .i64 (whenI (!inPageB X Y BW BH W H) 13)) ∧ Bl w w' := by
  by_cases hall : 0 ≤ X ∧ X < W ∧ 0 ≤ Y ∧ Y < H ∧ 1 ≤ BW ∧ BW ≤ W - X ∧ 1 ≤ BH ∧ BH ≤ H - Y
  · have e : inPageB X Y BW BH W H = true := by unfold inPageB; exact decide_eq_true hall
    rw [e]
    clear e
    obtain ⟨c1, c2, c3, c4, c5, c6, c7, c8⟩ := hall
    go_enter Tryz.func74, Tryz.ntmps74
    go_wp2_with fail
    go_ret
    exact ⟨rfl, (Bl.refl _).alloc _⟩
  · have e : inPageB X Y BW BH W H = false := by unfold inPageB; exact decide_eq_false hall
    rw [e]
    clear e
    rcases (show BW < 1 ∨ (¬ BW < 1 ∧ BH < 1) ∨ (¬ BW < 1 ∧ ¬ BH < 1 ∧ X < 0) ∨ (¬ BW < 1 ∧ ¬ BH < 1 ∧ ¬ X < 0 ∧ Y < 0) ∨ (¬ BW < 1 ∧ ¬ BH < 1 ∧ ¬ X < 0 ∧ ¬ Y < 0 ∧ (W : Int) ≤ X) ∨ (¬ BW < 1 ∧ ¬ BH < 1 ∧ ¬ X < 0 ∧ ¬ Y < 0 ∧ ¬ (W : Int) ≤ X ∧ (H : Int) ≤ Y) ∨
      (¬ BW < 1 ∧ ¬ BH < 1 ∧ ¬ X < 0 ∧ ¬ Y < 0 ∧ ¬ (W : Int) ≤ X ∧ ¬ (H : Int) ≤ Y ∧ (W : Int) - X < BW) ∨ (¬ BW < 1 ∧ ¬ BH < 1 ∧ ¬ X < 0 ∧ ¬ Y < 0 ∧ ¬ (W : Int) ≤ X ∧ ¬ (H : Int) ≤ Y ∧ ¬ (W : Int) - X < BW ∧ (H : Int) - Y < BH) by omega) with
      c1 | ⟨c1, c2⟩ | ⟨c1, c2, c3⟩ | ⟨c1, c2, c3, c4⟩ | ⟨c1, c2, c3, c4, c5⟩ | ⟨c1, c2, c3, c4, c5, c6⟩ | ⟨c1, c2, c3, c4, c5, c6, c7⟩ | ⟨c1, c2, c3, c4, c5, c6, c7, c8⟩
    all_goals
      clear hall
      go_enter Tryz.func74, Tryz.ntmps74
      go_wp2_with fail
      go_ret
      exact ⟨rfl, (Bl.refl _).alloc _⟩

/-! ### Cut -/
def cutF (bs : List Bool) (W X Y x y : Nat) : Bool := pix bs W (X + x) (Y + y)
/-! ### Ink -/
end Go.Proofs.YtkipcobpnecmhabGreatDoor


/-! page.Bounds, boxes in pages, Cut and Ink. -/
namespace Go.Proofs.YtkipcobpnecmhabGreatDoor
open Go.RowKit

/-! ### Bounds -/
set_option maxRecDepth 100000 in
set_option maxHeartbeats 4000000 in
theorem bounds_any (W H : Int) (A : Option Addr) (an ac : Nat) (bs : List Bool) (w : World) (hA : Reads w 1 A an (bs.map .bool)) :
    Calls Tryz.prog 73 #[.agg #[.int .i64 W, .int .i64 H, .slice A an ac]] w fun e w' =>
      ∃ X Y BW BH err, e = .returned (.tuple #[.agg #[.int .i64 X, .int .i64 Y, .int .i64 BW, .int .i64 BH], .int .i64 err]) ∧ (pageErr W H an ≠ 0 → err = pageErr W H an ∧ X = 0 ∧ Y = 0 ∧ BW = 0 ∧ BH = 0) ∧
        (pageErr W H an = 0 → ∃ is, BoundsIs bs W.toNat H.toNat is X Y BW BH ∧ err = whenI (!is) 10) ∧ Bl w w' := by
  let w2 := ((w).alloc (.cells #[.int .i64 W, .int .i64 H, .slice A an ac] 25)).alloc (.cells #[.int .i64 0, .int .i64 0, .int .i64 0, .int .i64 0] 65)
  have w2b : Bl w w2 := ((Bl.refl w).alloc _).alloc _
  have w21 : Blk w2 (w.heap.size) 25 #[.int .i64 W, .int .i64 H, .slice A an ac] := by
    have h0 := Blk.new (w) 25 #[.int .i64 W, .int .i64 H, .slice A an ac]
    exact (h0.alloc _)
  have w22 : Blk w2 (w.heap.size + 1) 65 #[.int .i64 0, .int .i64 0, .int .i64 0, .int .i64 0] := by
    have h0 := Blk.new ((w).alloc (.cells #[.int .i64 W, .int .i64 H, .slice A an ac] 25)) 65 #[.int .i64 0, .int .i64 0, .int .i64 0, .int .i64 0]
    simp only [World.size_alloc] at h0
    exact h0
  have k1 := w21.all3
  by_cases hp : pageErr W H an = 0
  · have Hp := Lib.hid hp
    obtain ⟨W, H, rfl, rfl, rfl, u1, u2, u3⟩ := page_nat hp
    have HA := Lib.hid (hA.bl w2b)
    have St := Lib.hid (BInv.start bs W H)
    clear hA
    go_enter Tryz.func73, Tryz.ntmps73
    go_wp2_with fail
    refine (checkBits_any _ _ _ _ _ _).mono ?_
    rintro e w3 ⟨rfl, hb3⟩
    have k3 := (w21.bl hb3).all3
    clear k1
    go_upto_region 4 with fail
    refine wp_region_flow [(true, 0), (true, 1), (true, 2), (true, 3), (true, 4), (true, 5), (true, 6), (true, 7)] (fun _ => false) (by kernel_rfl) (by kernel_rfl) (by kernel_rfl) (by kernel_rfl) ?_
    iterate 1
      apply Flow.calm2 _ _ rfl rfl
      · intro w' hb' K' hK'
        obtain ⟨hc', hf'⟩ := hb'.rule
        go_simp
        try go_ints
        exact hK'
      · intro K' hK'
        simp only [Act.put, List.setIfInBounds_toArray, List.set_cons_zero, List.set_cons_succ]
        exact hK'
    iterate 1
      apply Flow.calm2 _ _ rfl rfl
      · intro w' hb' K' hK'
        obtain ⟨hc', hf'⟩ := hb'.rule
        go_simp
        try go_ints
        exact hK'
      · intro K' hK'
        simp only [Act.put, List.setIfInBounds_toArray, List.set_cons_zero, List.set_cons_succ]
        exact hK'
    iterate 1
      apply Flow.calm2 _ _ rfl rfl
      · intro w' hb' K' hK'
        obtain ⟨hc', hf'⟩ := hb'.rule
        go_simp
        try go_ints
        exact hK'
      · intro K' hK'
        simp only [Act.put, List.setIfInBounds_toArray, List.set_cons_zero, List.set_cons_succ]
        exact hK'
    iterate 1
      apply Flow.calm2 _ _ rfl rfl
      · intro w' hb' K' hK'
        obtain ⟨hc', hf'⟩ := hb'.rule
        go_simp
        try go_ints
        exact hK'
      · intro K' hK'
        simp only [Act.put, List.setIfInBounds_toArray, List.set_cons_zero, List.set_cons_succ]
        exact hK'
    iterate 4
      apply Flow.asg _ rfl
      · intro K' hK'
        simp only [Act.put, Act.eval, List.setIfInBounds_toArray, List.set_cons_zero, List.set_cons_succ, arr_getD, List.getD_cons_zero, List.getD_cons_succ]
        exact hK'
    refine Flow.done ?_
    clear hp
    go_wp2_with fail
    go_loopw [5, 6, 7, 8, 26] (fun a b c d u wr => ∃ (i : Nat) (l t r z : Int), i ≤ W * H ∧ u = .int .i64 i ∧ a = .int .i64 l ∧ b = .int .i64 t ∧ c = .int .i64 r ∧ d = .int .i64 z ∧ Hid (BInv bs W H i l t r z) ∧ Bl w3 wr) (fun _ _ _ _ u _ => W * H - (intOf u).toNat)
    case atStart => exact ⟨0, _, _, _, _, Nat.zero_le _, rfl, rfl, rfl, rfl, rfl, St, (Bl.refl _).drew⟩
    case round =>
      clear k3
      obtain ⟨i, l, t, r, z, hi, rfl, rfl, rfl, rfl, rfl, hinv, hbr⟩ := hrel
      have k3 := ((w21.bl hb3).bl hbr).all3
      by_cases hlt : i < W * H
      · have hWp : ¬ (W = 0) := by rintro rfl; simp at hlt
        have il : (i : Int) < (W : Int) * (H : Int) := by have := Int.natCast_mul W H; omega
        obtain ⟨ad, ua, eA, hu, hca⟩ := ((HA.out.bl hb3).bl hbr).at_ hlt
        have hua : ua = .bool (bs.getD i false) := by
          simp only [List.getElem?_map, Option.map_eq_some_iff] at hu
          obtain ⟨b, hb1, hb2⟩ := hu
          rw [← hb2, List.getD, hb1]; rfl
        clear hu
        subst hua eA
        cases hva : bs.getD i false
        · have hn := hinv.out.no hva
          have Hn := Lib.hid hn
          rw [hva] at hca
          clear hn hva hinv
          go_wp2_with fail
          exact ⟨⟨i + 1, _, _, _, _, hlt, by go_num, rfl, rfl, rfl, rfl, Hn, hbr⟩, by simp [intOf]; omega⟩
        · obtain ⟨mlt, dlt, _⟩ := place_parts hlt
          have hy := fun l' t' r' z' e1 e2 e3 e4 => hinv.out.yes (l' := l') (t' := t') (r' := r') (b' := z') hva mlt dlt e1 e2 e3 e4
          rw [hva] at hca
          obtain ⟨xi, hxi⟩ : ∃ n, n = i % W := ⟨_, rfl⟩
          obtain ⟨yi, hyi⟩ : ∃ n, n = i / W := ⟨_, rfl⟩
          have e1 : (i : Int) % (W : Int) = (xi : Int) := by rw [hxi]; simp
          have e2 : (i : Int) / (W : Int) = (yi : Int) := by rw [hyi]; simp
          have e3 := hxi.symm
          have e4 := hyi.symm
          rw [← hxi] at mlt
          rw [← hyi] at dlt
          simp only [← hxi, ← hyi] at hy
          have hbd := hinv.out.bd hi
          obtain ⟨l', hl'⟩ : ∃ l', l' = if (xi : Int) < l then (xi : Int) else l := ⟨_, rfl⟩
          obtain ⟨t', ht'⟩ : ∃ t', t' = if (yi : Int) < t then (yi : Int) else t := ⟨_, rfl⟩
          obtain ⟨r', hr'⟩ : ∃ r', r' = if r < (xi : Int) then (xi : Int) else r := ⟨_, rfl⟩
          obtain ⟨z', hz'⟩ : ∃ z', z' = if z < (yi : Int) then (yi : Int) else z := ⟨_, rfl⟩
          have Hn := Lib.hid (hy l' t' r' z' hl' ht' hr' hz')
          have f1 := hl'.symm
          have f2 := ht'.symm
          have f3 := hr'.symm
          have f4 := hz'.symm
          have g1 : (if l < (xi : Int) then l else (xi : Int)) = l' := by rw [hl']; split <;> split <;> omega
          have g2 : (if t < (yi : Int) then t else (yi : Int)) = t' := by rw [ht']; split <;> split <;> omega
          have g3 : (if (xi : Int) < r then r else (xi : Int)) = r' := by rw [hr']; split <;> split <;> omega
          have g4 : (if (yi : Int) < z then z else (yi : Int)) = z' := by rw [hz']; split <;> split <;> omega
          clear hxi hyi hy hinv hva hl' ht' hr' hz'
          go_upto_region 9 with fail
          refine wp_region_flow [(true, 0), (true, 1), (true, 2), (true, 3), (true, 4), (true, 5), (true, 6), (true, 7), (true, 8), (true, 9)] (fun _ => false) (by kernel_rfl) (by kernel_rfl) (by kernel_rfl) (by kernel_rfl) ?_
          iterate 1
            apply Flow.mv _ rfl
            · intro K' hK'
              simp only [Act.put, Act.eval, List.setIfInBounds_toArray, List.set_cons_zero, List.set_cons_succ, arr_getD, List.getD_cons_zero, List.getD_cons_succ]
              exact hK'
          iterate 1
            apply Flow.calm2 _ _ rfl rfl
            · intro w' hb' K' hK'
              obtain ⟨hc', hf'⟩ := hb'.rule
              go_simp
              try go_ints
              exact hK'
            · intro K' hK'
              simp only [Act.put, List.setIfInBounds_toArray, List.set_cons_zero, List.set_cons_succ]
              exact hK'
          iterate 1
            apply Flow.calm2 _ _ rfl rfl
            · intro w' hb' K' hK'
              obtain ⟨hc', hf'⟩ := hb'.rule
              go_simp
              try go_ints
              exact hK'
            · intro K' hK'
              simp only [Act.put, List.setIfInBounds_toArray, List.set_cons_zero, List.set_cons_succ]
              exact hK'
          iterate 1
            apply Flow.calm2 _ _ rfl rfl
            · intro w' hb' K' hK'
              obtain ⟨hc', hf'⟩ := hb'.rule
              go_simp
              try go_ints
              exact hK'
            · intro K' hK'
              simp only [Act.put, List.setIfInBounds_toArray, List.set_cons_zero, List.set_cons_succ]
              exact hK'
          iterate 1
            apply Flow.mv _ rfl
            · intro K' hK'
              simp only [Act.put, Act.eval, List.setIfInBounds_toArray, List.set_cons_zero, List.set_cons_succ, arr_getD, List.getD_cons_zero, List.getD_cons_succ]
              exact hK'
          iterate 1
            apply Flow.calm2 _ _ rfl rfl
            · intro w' hb' K' hK'
              obtain ⟨hc', hf'⟩ := hb'.rule
              go_simp
              try go_ints
              exact hK'
            · intro K' hK'
              simp only [Act.put, List.setIfInBounds_toArray, List.set_cons_zero, List.set_cons_succ]
              exact hK'
          iterate 1
            apply Flow.calm2 _ _ rfl rfl
            · intro w' hb' K' hK'
              obtain ⟨hc', hf'⟩ := hb'.rule
              go_simp
              try go_ints
              exact hK'
            · intro K' hK'
              simp only [Act.put, List.setIfInBounds_toArray, List.set_cons_zero, List.set_cons_succ]
              exact hK'
          iterate 1
            apply Flow.calm2 _ _ rfl rfl
            · intro w' hb' K' hK'
              obtain ⟨hc', hf'⟩ := hb'.rule
              go_simp
              try go_ints
              exact hK'
            · intro K' hK'
              simp only [Act.put, List.setIfInBounds_toArray, List.set_cons_zero, List.set_cons_succ]
              exact hK'
          iterate 2
            apply Flow.asg _ rfl
            · intro K' hK'
              simp only [Act.put, Act.eval, List.setIfInBounds_toArray, List.set_cons_zero, List.set_cons_succ, arr_getD, List.getD_cons_zero, List.getD_cons_succ]
              exact hK'
          refine Flow.done ?_
          go_wp2_with fail
          exact ⟨⟨i + 1, _, _, _, _, hlt, by go_num, rfl, rfl, rfl, rfl, Hn, hbr.drew⟩, by simp [intOf]; omega⟩
      · obtain rfl : i = W * H := by omega
        have hbd := hinv.out.bd (Nat.le_refl _)
        have k2 := ((w22.bl hb3).bl hbr).all4
        have hle := (w2b.trans hb3).trans hbr
        rcases hinv.out.done with ⟨hr, hbi⟩ | ⟨hr, hbi⟩
        · have Hbi := Lib.hid hbi
          clear hinv hbi
          go_wp2_with fail
          have hp := Hp.out
          refine bodyPost_ret (v := .tuple #[.agg #[.int .i64 0, .int .i64 0, .int .i64 0, .int .i64 0], .int .i64 10]) (by simp [results, Tryz.results73, go_sem, k2]) rfl ⟨_, _, _, _, _, rfl, fun h => absurd hp h, fun _ => by first | exact ⟨false, by simpa using Hbi.out, rfl⟩ | exact Or.inl ⟨by simpa using Hbi.out, rfl⟩, ?_⟩
          exact ((((hle.setCell (by simp) _).setCell (by simp) _).setCell (by simp) _).setCell (by simp) _)
        · have Hbi := Lib.hid hbi
          clear hinv hbi
          go_wp2_with fail
          have hp := Hp.out
          refine bodyPost_ret (v := .tuple #[.agg #[.int .i64 l, .int .i64 t, .int .i64 (r - l + 1), .int .i64 (z - t + 1)], .int .i64 0]) (by simp [results, Tryz.results73, go_sem, k2]) rfl ⟨_, _, _, _, _, rfl, fun h => absurd hp h, fun _ => by first | exact ⟨true, by simpa using Hbi.out, rfl⟩ | exact Or.inr ⟨by simpa using Hbi.out, rfl⟩, ?_⟩
          exact ((((hle.setCell (by simp) _).setCell (by simp) _).setCell (by simp) _).setCell (by simp) _)
  · have hq : (pageErr W H an != 0) = true := by simp [hp]
    have Hp := Lib.hid hp
    clear hp
    go_enter Tryz.func73, Tryz.ntmps73
    go_wp2_with fail
    refine (checkBits_any _ _ _ _ _ _).mono ?_
    rintro e w3 ⟨rfl, hb3⟩
    have k2 := (w22.bl hb3).all4
    go_wp2_with fail
    refine bodyPost_ret (v := .tuple #[.agg #[.int .i64 0, .int .i64 0, .int .i64 0, .int .i64 0], .int .i64 (pageErr W H an)]) (by simp [results, Tryz.results73, go_sem, k2]) rfl ⟨_, _, _, _, _, rfl, fun _ => ⟨rfl, rfl, rfl, rfl, rfl⟩, fun h => absurd h Hp.out, ?_⟩
    exact (((((w2b.trans hb3).setCell (by simp) _).setCell (by simp) _).setCell (by simp) _).setCell (by simp) _)

end Go.Proofs.YtkipcobpnecmhabGreatDoor


/-! spots, profile, Profile, Score, skews. -/
namespace Go.Proofs.YtkipcobpnecmhabGreatDoor
open Go.RowKit

/-- A slice of places. -/
def PtReads (w : World) (P : Option Addr) (W : Nat) (l : List Nat) : Prop := 0 < l.length → ∃ g, P = some ⟨g, 0, none⟩ ∧ ∀ j i, l[j]? = some i → w.cell? ⟨g, j * 2, none⟩ = some (.int .i64 ((i % W : Nat) : Int)) ∧ w.cell? ⟨g, j * 2 + 1, none⟩ = some (.int .i64 ((i / W : Nat) : Int))
theorem PtReads.bl {w w' : World} {P : Option Addr} {W : Nat} {l : List Nat} (h : PtReads w P W l) (hb : Bl w w') : PtReads w' P W l := fun h0 =>
  let ⟨g, e, hc⟩ := h h0
  ⟨g, e, fun j i hi => ⟨hb.at (hc j i hi).1, hb.at (hc j i hi).2⟩⟩
end Go.Proofs.YtkipcobpnecmhabGreatDoor


/-! Profile, Score, skews. -/
namespace Go.Proofs.YtkipcobpnecmhabGreatDoor
open Go.RowKit

def profI (bs : List Bool) (W H : Nat) (n : Int) (k : Nat) : Int := ((profN bs W H n k : Nat) : Int)
/-- A profile if the error is 0, nothing else. -/
def ProfRes (w : World) (err : Int) (bs : List Bool) (W H : Int) (n : Int) (P : Option Addr) (m : Nat) : Prop :=
  (err = 0 → m = 2 * H.toNat ∧ Reads w 1 P m ((tabL m (profI bs W.toNat H.toNat n)).map (.int .i64))) ∧ (err ≠ 0 → m = 0 ∧ P = none)
theorem ProfRes.bl {w w' : World} {err : Int} {bs : List Bool} {W H n : Int} {P : Option Addr} {m : Nat} (h : ProfRes w err bs W H n P m) (hb : Bl w w') : ProfRes w' err bs W H n P m :=
  ⟨fun e => ⟨(h.1 e).1, (h.1 e).2.bl hb⟩, h.2⟩
end Go.Proofs.YtkipcobpnecmhabGreatDoor


/-! abs, size, DifferOf, and the closures of the law on aligning. -/
namespace Go.Proofs.YtkipcobpnecmhabGreatDoor
open Go.RowKit

set_option maxHeartbeats 400000 in
theorem abs_any (n : Int) (w : World) (h : -1000000 ≤ n ∧ n ≤ 1000000) : Calls Tryz.prog 83 #[.int .i64 n] w fun e w' => e = .returned (.int .i64 (n.natAbs : Int)) ∧ w = w' := by
  have h1 : (if n < -n then -n else n) = (n.natAbs : Int) := by split <;> omega
  have h2 : (if -n < n then n else -n) = (n.natAbs : Int) := by split <;> omega
  go_enter Tryz.func83, Tryz.ntmps83
  go_wp2
  go_ret
  exact ⟨rfl, rfl⟩
theorem cntD_succ (bs cs : List Bool) (W H : Nat) (dx dy : Int) (x y : Nat) (hx : x < W) (hy : y < H) :
    cntD bs cs W H dx dy (y * W + x + 1) = cntD bs cs W H dx dy (y * W + x) + (if (atI bs W H x y != atI cs W H ((x : Int) - dx) ((y : Int) - dy)) = true then 1 else 0) := by
  have ex : (y * W + x) % W = x := by rw [Nat.mul_comm, Nat.mul_add_mod, Nat.mod_eq_of_lt hx]
  have ey : (y * W + x) / W = y := by rw [Nat.mul_comm, Nat.mul_add_div (by omega), Nat.div_eq_of_lt hx, Nat.add_zero]
  have e : differs bs cs W H dx dy (y * W + x) = (atI bs W H x y != atI cs W H ((x : Int) - dx) ((y : Int) - dy)) := by
    unfold differs
    rw [ex, ey, atI_in bs W H x y hx hy]
    rfl
  rw [cntD, e]

set_option maxRecDepth 100000 in
set_option maxHeartbeats 1000000 in
theorem differOf_any (W H : Nat) (A C : Option Addr) (ac cc : Nat) (bs cs : List Bool) (dx dy : Int) (w : World) (hA : Reads w 1 A (W * H) (bs.map .bool)) (hC : Reads w 1 C (W * H) (cs.map .bool)) (hW : W ≤ 4000) (hH : H ≤ 4000)
    (hx : -8 ≤ dx ∧ dx ≤ 8) (hy : -8 ≤ dy ∧ dy ≤ 8) :
    Calls Tryz.prog 62 #[.agg #[.int .i64 W, .int .i64 H, .slice A (W * H) ac], .agg #[.int .i64 W, .int .i64 H, .slice C (W * H) cc], .int .i64 dx, .int .i64 dy] w
      fun e w' => e = .returned (.int .i64 (cntD bs cs W H dx dy (W * H))) ∧ Bl w w' := by
  let w2 := ((w).alloc (.cells #[.int .i64 W, .int .i64 H, .slice A (W * H) ac] 25)).alloc (.cells #[.int .i64 W, .int .i64 H, .slice C (W * H) cc] 25)
  have w2b : Bl w w2 := ((Bl.refl w).alloc _).alloc _
  have w21 : Blk w2 (w.heap.size) 25 #[.int .i64 W, .int .i64 H, .slice A (W * H) ac] := by
    have h0 := Blk.new (w) 25 #[.int .i64 W, .int .i64 H, .slice A (W * H) ac]
    exact (h0.alloc _)
  have w22 : Blk w2 (w.heap.size + 1) 25 #[.int .i64 W, .int .i64 H, .slice C (W * H) cc] := by
    have h0 := Blk.new ((w).alloc (.cells #[.int .i64 W, .int .i64 H, .slice A (W * H) ac] 25)) 25 #[.int .i64 W, .int .i64 H, .slice C (W * H) cc]
    simp only [World.size_alloc] at h0
    exact h0
  have k1 := w21.all3
  have hbd : W * H ≤ 16000000 := by have := Nat.mul_le_mul hW hH; omega
  go_enter Tryz.func62, Tryz.ntmps62
  go_wp2_with fail
  go_loopw [9, 14] (fun n u wr => ∃ y : Nat, y ≤ H ∧ u = .int .i64 y ∧ n = .int .i64 (cntD bs cs W H dx dy (y * W)) ∧ Bl w2 wr) (fun _ u _ => H - (intOf u).toNat)
  case atStart => exact ⟨0, Nat.zero_le _, rfl, by rw [Nat.zero_mul]; rfl, Bl.refl _⟩
  case round =>
    obtain ⟨y, hy1, rfl, rfl, hbr⟩ := hrel
    have k1 := (w21.bl hbr).all3
    by_cases hlt : y < H
    · go_wp2_with fail
      go_loopw [9, 19] (fun n u wr => ∃ x : Nat, x ≤ W ∧ u = .int .i64 x ∧ n = .int .i64 (cntD bs cs W H dx dy (y * W + x)) ∧ Bl w2 wr) (fun _ u _ => W - (intOf u).toNat)
      case atStart => exact ⟨0, Nat.zero_le _, rfl, rfl, hbr⟩
      case round =>
        clear k1 hbr
        rename_i wo _ _ _
        obtain ⟨x, hx1, rfl, rfl, hbr⟩ := hrel
        have k1 := (w21.bl hbr).all3
        have k2 := (w22.bl hbr).all3
        by_cases hlt2 : x < W
        · have hs := cntD_succ bs cs W H dx dy x y hlt2 hlt
          have hp := place_lt hlt2 hlt
          have hc := cntD_le bs cs W H dx dy (y * W + x)
          have ha1 := at_any W H A ac bs (x : Int) (y : Int) wr.drew (((hA.bl w2b).bl hbr).bl (Bl.refl _).drew) hW hH
          have ha2 := fun (w1 : World) (hb : Bl wr.drew w1) => at_any W H C cc cs ((x : Int) - dx) ((y : Int) - dy) w1 ((((hC.bl w2b).bl hbr).bl (Bl.refl _).drew).bl hb) hW hH
          obtain ⟨va, hva⟩ : ∃ v, v = atI bs W H x y := ⟨_, rfl⟩
          obtain ⟨vb, hvb⟩ : ∃ v, v = atI cs W H ((x : Int) - dx) ((y : Int) - dy) := ⟨_, rfl⟩
          obtain ⟨n0, hn0⟩ : ∃ n, n = cntD bs cs W H dx dy (y * W + x) := ⟨_, rfl⟩
          rw [← hva] at ha1
          rw [← hvb] at ha2
          rw [← hva, ← hvb, ← hn0] at hs
          rw [← hn0] at hc ⊢
          have Ha1 := Lib.hid ha1; have Ha2 := Lib.hid ha2; have Hs := Lib.hid hs; have Hn := Lib.hid hn0
          clear ha1 ha2 hva hvb hs hn0
          cases va <;> cases vb
          all_goals
            go_wp2_with fail
            refine wp_region_flow [(true, 0), (true, 1), (true, 2), (true, 4), (true, 5), (true, 6), (true, 7), (true, 8), (true, 9), (true, 10), (false, 3), (false, 11), (true, 12)] (fun _ => false) (by kernel_rfl) (by kernel_rfl) (by kernel_rfl) (by kernel_rfl) ?_
            iterate 1
              apply Flow.calm2 _ _ rfl rfl
              · intro w' hb' K' hK'
                obtain ⟨hc', hf'⟩ := hb'.rule
                go_simp
                try go_ints
                exact hK'
              · intro K' hK'
                simp only [Act.put, List.setIfInBounds_toArray, List.set_cons_zero, List.set_cons_succ]
                exact hK'
            iterate 2
              apply Flow.mv _ rfl
              · intro K' hK'
                simp only [Act.put, Act.eval, List.setIfInBounds_toArray, List.set_cons_zero, List.set_cons_succ, arr_getD, List.getD_cons_zero, List.getD_cons_succ]
                exact hK'
            iterate 1
              apply Flow.calm2 _ _ rfl rfl
              · intro w' hb' K' hK'
                obtain ⟨hc', hf'⟩ := hb'.rule
                go_simp
                try go_ints
                exact hK'
              · intro K' hK'
                simp only [Act.put, List.setIfInBounds_toArray, List.set_cons_zero, List.set_cons_succ]
                exact hK'
            iterate 2
              apply Flow.mv _ rfl
              · intro K' hK'
                simp only [Act.put, Act.eval, List.setIfInBounds_toArray, List.set_cons_zero, List.set_cons_succ, arr_getD, List.getD_cons_zero, List.getD_cons_succ]
                exact hK'
            iterate 1
              apply Flow.calm2 _ _ rfl rfl
              · intro w' hb' K' hK'
                obtain ⟨hc', hf'⟩ := hb'.rule
                go_simp
                try go_ints
                exact hK'
              · intro K' hK'
                simp only [Act.put, List.setIfInBounds_toArray, List.set_cons_zero, List.set_cons_succ]
                exact hK'
            iterate 2
              apply Flow.mv _ rfl
              · intro K' hK'
                simp only [Act.put, Act.eval, List.setIfInBounds_toArray, List.set_cons_zero, List.set_cons_succ, arr_getD, List.getD_cons_zero, List.getD_cons_succ]
                exact hK'
            iterate 1
              apply Flow.calm2 _ _ rfl rfl
              · intro w' hb' K' hK'
                obtain ⟨hc', hf'⟩ := hb'.rule
                go_simp
                try go_ints
                exact hK'
              · intro K' hK'
                simp only [Act.put, List.setIfInBounds_toArray, List.set_cons_zero, List.set_cons_succ]
                exact hK'
            apply Flow.move rfl
            go_wp2_with fail
            refine Ha1.out.mono ?_
            rintro e w1 ⟨rfl, HB1⟩
            go_wp2_with fail
            refine ⟨fun _ => (by first | exact HB1 | exact Bl.refl _), ?_⟩
            apply Flow.move rfl
            go_wp2_with fail
            refine (Ha2.out _ HB1).mono ?_
            rintro e w3 ⟨rfl, HB2⟩
            go_wp2_with fail
            refine ⟨fun _ => (by first | exact HB2 | exact Bl.refl _), ?_⟩
            iterate 1
              apply Flow.calm2 _ _ rfl rfl
              · intro w' hb' K' hK'
                obtain ⟨hc', hf'⟩ := hb'.rule
                go_simp
                try go_ints
                exact hK'
              · intro K' hK'
                simp only [Act.put, List.setIfInBounds_toArray, List.set_cons_zero, List.set_cons_succ]
                exact hK'
            refine Flow.done ?_
            go_wp2_with fail
            exact ⟨⟨x + 1, hlt2, by go_num, by have := Hs.out; simp at this; rw [← Nat.add_assoc, this]; try simp, ((hbr.trans (Bl.refl _).drew).trans HB1).trans HB2⟩, by simp [intOf]; omega⟩
        · go_wp2_with fail
          obtain rfl : x = W := by omega
          exact ⟨⟨y + 1, hlt, by go_num, by rw [Nat.add_mul, Nat.one_mul], hbr⟩, by simp [intOf]; omega⟩
    · obtain rfl : y = H := by omega
      go_wp2_with fail
      go_ret
      exact ⟨ret_int (by rw [Nat.mul_comm]), w2b.trans hbr⟩

end Go.Proofs.YtkipcobpnecmhabGreatDoor


/-! page.Differ. -/
namespace Go.Proofs.YtkipcobpnecmhabGreatDoor
open Go.RowKit

theorem differs0 (bs cs : List Bool) (W H i : Nat) (hi : i < W * H) : differs bs cs W H 0 0 i = (bs.getD i false != cs.getD i false) := by
  obtain ⟨h1, h2, h3⟩ := place_parts hi
  unfold differs
  rw [Int.sub_zero, Int.sub_zero, atI_in cs W H _ _ h1 h2, pix_place hi]

end Go.Proofs.YtkipcobpnecmhabGreatDoor


/-! bedref2.CutOf. -/
namespace Go.Proofs.YtkipcobpnecmhabGreatDoor
open Go.RowKit

set_option maxRecDepth 100000 in
set_option maxHeartbeats 1000000 in
theorem cutOf1_any (p q W H X Y BW BH : Nat) (A : Option Addr) (ac : Nat) (bs : List Bool) (x y : Nat) (w : World) (hp : Blk w p 25 #[.int .i64 W, .int .i64 H, .slice A (W * H) ac]) (hq : Blk w q 65 #[.int .i64 X, .int .i64 Y, .int .i64 BW, .int .i64 BH])
    (hA : Reads w 1 A (W * H) (bs.map .bool)) (hW : W ≤ 4000) (hH : H ≤ 4000) (hx : x < BW) (hy : y < BH) (hX : X + BW ≤ W) (hY : Y + BH ≤ H) :
    Calls Tryz.prog 86 #[.int .i64 x, .int .i64 y, .pointer (some ⟨p, 0, none⟩), .pointer (some ⟨q, 0, none⟩)] w fun e w' => e = .returned (.bool (cutF bs W X Y x y)) ∧ Bl w w' := by
  have kp := hp.all3
  have kq := hq.all4
  have hat := at_any W H A ac bs ((X + x : Nat) : Int) ((Y + y : Nat) : Int) w hA hW hH
  rw [atI_in bs W H _ _ (by omega) (by omega)] at hat
  have e1 : ((X + x : Nat) : Int) = (X : Int) + (x : Int) := by simp
  have e2 : ((Y + y : Nat) : Int) = (Y : Int) + (y : Int) := by simp
  rw [e1, e2] at hat
  have Hat := Lib.hid hat
  clear hat hA e1 e2
  go_enter Tryz.func86, Tryz.ntmps86
  go_wp2_with fail
  refine Hat.out.mono ?_
  rintro e w1 ⟨rfl, hb1⟩
  go_wp2_with fail
  go_ret
  exact ⟨rfl, hb1⟩
set_option maxRecDepth 100000 in
set_option maxHeartbeats 1000000 in
theorem cutOf_any (W H X Y BW BH : Nat) (A : Option Addr) (ac : Nat) (bs : List Bool) (w : World) (hA : Reads w 1 A (W * H) (bs.map .bool)) (hW : W ≤ 4000) (hH : H ≤ 4000) (hX : X + BW ≤ W) (hY : Y + BH ≤ H) :
    Calls Tryz.prog 63 #[.agg #[.int .i64 W, .int .i64 H, .slice A (W * H) ac], .agg #[.int .i64 X, .int .i64 Y, .int .i64 BW, .int .i64 BH]] w fun e w' => ∃ R rc, e = .returned (.agg #[.int .i64 BW, .int .i64 BH, .slice R (BW * BH) rc]) ∧ Reads w' 1 R (BW * BH) ((grid BW BH (cutF bs W X Y)).map .bool) ∧ (∀ ad, R = some ad → w.heap.size + 3 ≤ ad.block) ∧ Bl w w' := by
  let w2 := (((w).alloc (.cells #[.int .i64 W, .int .i64 H, .slice A (W * H) ac] 25)).alloc (.cells #[.int .i64 X, .int .i64 Y, .int .i64 BW, .int .i64 BH] 65)).alloc (.cells #[.int .i64 0, .int .i64 0, .slice none 0 0] 25)
  have w2b : Bl w w2 := (((Bl.refl w).alloc _).alloc _).alloc _
  have w21 : Blk w2 (w.heap.size) 25 #[.int .i64 W, .int .i64 H, .slice A (W * H) ac] := by
    have h0 := Blk.new (w) 25 #[.int .i64 W, .int .i64 H, .slice A (W * H) ac]
    exact ((h0.alloc _).alloc _)
  have w22 : Blk w2 (w.heap.size + 1) 65 #[.int .i64 X, .int .i64 Y, .int .i64 BW, .int .i64 BH] := by
    have h0 := Blk.new ((w).alloc (.cells #[.int .i64 W, .int .i64 H, .slice A (W * H) ac] 25)) 65 #[.int .i64 X, .int .i64 Y, .int .i64 BW, .int .i64 BH]
    simp only [World.size_alloc] at h0
    exact (h0.alloc _)
  have w23 : Blk w2 (w.heap.size + 1 + 1) 25 #[.int .i64 0, .int .i64 0, .slice none 0 0] := by
    have h0 := Blk.new (((w).alloc (.cells #[.int .i64 W, .int .i64 H, .slice A (W * H) ac] 25)).alloc (.cells #[.int .i64 X, .int .i64 Y, .int .i64 BW, .int .i64 BH] 65)) 25 #[.int .i64 0, .int .i64 0, .slice none 0 0]
    simp only [World.size_alloc] at h0
    exact h0
  have hbd : BW * BH ≤ 16000000 := by have := Nat.mul_le_mul (show BW ≤ 4000 by omega) (show BH ≤ 4000 by omega); omega
  have hP : Paints Tryz.prog 86 #[.pointer (some ⟨w.heap.size, 0, none⟩), .pointer (some ⟨w.heap.size + 1, 0, none⟩)] Value.bool w2 BW BH (cutF bs W X Y) :=
    ⟨enters Tryz.func86 (by kernel_rfl) rfl, fun wy x y hb hx hy => cutOf1_any _ _ W H X Y BW BH A ac bs x y wy (w21.bl hb) (w22.bl hb) ((hA.bl w2b).bl hb) hW hH hx hy hX hY⟩
  have HP := Lib.hid hP
  clear hP hA
  have k2 := w22.all4
  go_enter Tryz.func63, Tryz.ntmps63
  go_wp2_with fail
  refine (Made_any BW BH _ _ _ _ (by omega) (by omega) (by omega) HP.out).mono ?_
  rintro e w6 ⟨r, rfl, hpg, hb6⟩
  have kr3 := (w23.bl hb6).all3
  have hsz3 := w23.lt
  have hle6 := w2b.trans hb6
  obtain ⟨R, rc, rfl, hR, hRn⟩ := hpg
  have hRn' : ∀ ad, R = some ad → w.heap.size + 3 ≤ ad.block := fun ad h => by have := hRn ad h; omega
  have HR := Lib.hid hR; have HRn := Lib.hid hRn'
  clear hR hRn hRn'
  go_wp2_with fail
  refine bodyPost_ret (v := .agg #[.int .i64 BW, .int .i64 BH, .slice R (BW * BH) rc]) (by simp [results, Tryz.results63, go_sem, kr3]) rfl ⟨R, rc, rfl, ?_, HRn.out, ?_⟩
  · exact ((HR.out.store HRn.out (by simp) _).store HRn.out (by simp) _).store HRn.out (by simp) _
  · exact (((hle6.setCell (by simp; omega) _).setCell (by simp; omega) _).setCell (by simp; omega) _)

end Go.Proofs.YtkipcobpnecmhabGreatDoor


/-! Rows of texts in memory. -/
namespace Go.Proofs.YtkipcobpnecmhabGreatDoor
open Go.RowKit

theorem info_str : (Tryz.prog.info? 9).map (fun i => (i.zero, i.size, i.bytes)) = some (some (.string ByteArray.empty), 1, 16) := by kernel_rfl
def strOf (l : List UInt8) : Value := .string ⟨l.toArray⟩
def strCells' (ts : List (List UInt8)) : List Value := ts.map strOf
theorem str_at {w : World} {A : Option Addr} {ts : List (List UInt8)} {i : Nat} {x : List UInt8} (h : Reads w 1 A ts.length (strCells' ts)) (hi : ts[i]? = some x) : ∃ ad, A = some ad ∧ w.cell? (ad.add i) = some (.string ⟨x.toArray⟩) := by
  have hlt := (List.getElem?_eq_some_iff.1 hi).1
  obtain ⟨ad, u, e, hu, hc⟩ := h.at_ hlt
  unfold strCells' at hu
  rw [List.getElem?_map, hi] at hu
  have hu' : strOf x = u := Option.some.inj hu
  subst hu'
  exact ⟨ad, e, hc⟩

end Go.Proofs.YtkipcobpnecmhabGreatDoor
