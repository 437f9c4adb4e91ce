/- The plain law of Align and Nearest: both find the least number, the nearest of those, the first of those. -/
import Derived.Test.YtccgncjncklheaaPages
namespace Go.Proofs.Ytccgncjncklheaa

def le3 (num far : Nat → Nat) (i j : Nat) : Prop := num i < num j ∨ (num i = num j ∧ (far i < far j ∨ (far i = far j ∧ i ≤ j)))
theorem le3.anti {num far : Nat → Nat} {i j : Nat} (h : le3 num far i j) (k : le3 num far j i) : i = j := by
  unfold le3 at h k
  omega
def BestA (num far : Nat → Nat) (m b : Nat) : Prop := b < m ∧ ∀ j, j < m → le3 num far b j
theorem BestA.start (num far : Nat → Nat) : BestA num far 1 0 :=
  ⟨by omega, fun j hj => by obtain rfl : j = 0 := by omega
                            unfold le3; omega⟩
theorem BestA.take {num far : Nat → Nat} {m b : Nat} (h : BestA num far m b) (hm : num m < num b ∨ (num m = num b ∧ far m < far b)) : BestA num far (m + 1) m := by
  refine ⟨by omega, fun j hj => ?_⟩
  rcases Nat.lt_or_ge j m with hl | hl
  · have := h.2 j hl
    unfold le3 at this ⊢
    omega
  · obtain rfl : j = m := by omega
    unfold le3; omega
theorem BestA.keep {num far : Nat → Nat} {m b : Nat} (h : BestA num far m b) (hm : ¬ (num m < num b ∨ (num m = num b ∧ far m < far b))) : BestA num far (m + 1) b := by
  have hb := h.1
  refine ⟨by omega, fun j hj => ?_⟩
  rcases Nat.lt_or_ge j m with hl | hl
  · exact h.2 j hl
  · obtain rfl : j = m := by omega
    unfold le3; omega

def Seen (far : Nat → Nat) (K f m j : Nat) : Prop := j < K ∧ (far j < f ∨ (far j = f ∧ j < m))
def BestN (num far : Nat → Nat) (K f m b : Nat) : Prop := Seen far K f m b ∧ ∀ j, Seen far K f m j → le3 num far b j
theorem BestN.skip {num far : Nat → Nat} {K f m b : Nat} (h : BestN num far K f m b) (hf : far m ≠ f) : BestN num far K f (m + 1) b := by
  refine ⟨?_, fun j hj => h.2 j ?_⟩
  · have := h.1; unfold Seen at this ⊢; omega
  · unfold Seen at hj ⊢
    rcases Nat.lt_or_ge j m with hl | hl
    · omega
    · rcases hj with ⟨h1, h2 | ⟨h2, h3⟩⟩
      · omega
      · obtain rfl : j = m := by omega
        exact absurd h2 hf
theorem Seen.skip {far : Nat → Nat} {K f m : Nat} (h : ∀ j, ¬ Seen far K f m j) (hf : far m ≠ f) : ∀ j, ¬ Seen far K f (m + 1) j := by
  intro j hj
  refine h j ?_
  unfold Seen at hj ⊢
  rcases Nat.lt_or_ge j m with hl | hl
  · omega
  · rcases hj with ⟨h1, h2 | ⟨h2, h3⟩⟩
    · omega
    · obtain rfl : j = m := by omega
      exact absurd h2 hf
theorem BestN.first {num far : Nat → Nat} {K f m : Nat} (h : ∀ j, ¬ Seen far K f m j) (hm : m < K) (hf : far m = f) : BestN num far K f (m + 1) m := by
  refine ⟨⟨hm, Or.inr ⟨hf, by omega⟩⟩, fun j hj => ?_⟩
  have hn := h j
  unfold Seen at hj hn
  obtain rfl : j = m := by omega
  unfold le3; omega
theorem BestN.take {num far : Nat → Nat} {K f m b : Nat} (h : BestN num far K f m b) (hm : m < K) (hf : far m = f) (hn : num m < num b) : BestN num far K f (m + 1) m := by
  refine ⟨⟨hm, Or.inr ⟨hf, by omega⟩⟩, fun j hj => ?_⟩
  by_cases hs : Seen far K f m j
  · have := h.2 j hs
    unfold le3 at this ⊢
    omega
  · unfold Seen at hj hs
    obtain rfl : j = m := by omega
    unfold le3; omega
theorem BestN.keep {num far : Nat → Nat} {K f m b : Nat} (h : BestN num far K f m b) (hf : far m = f) (hn : ¬ num m < num b) : BestN num far K f (m + 1) b := by
  have hb := h.1
  refine ⟨by unfold Seen at hb ⊢; omega, fun j hj => ?_⟩
  by_cases hs : Seen far K f m j
  · exact h.2 j hs
  · unfold Seen at hj hs hb
    obtain rfl : j = m := by omega
    unfold le3; omega
theorem BestN.level {num far : Nat → Nat} {K f b : Nat} (h : BestN num far K f K b) : BestN num far K (f + 1) 0 b := by
  refine ⟨by have := h.1; unfold Seen at this ⊢; omega, fun j hj => h.2 j (by unfold Seen at hj ⊢; omega)⟩
theorem Seen.level {far : Nat → Nat} {K f : Nat} (h : ∀ j, ¬ Seen far K f K j) : ∀ j, ¬ Seen far K (f + 1) 0 j :=
  fun j hj => h j (by unfold Seen at hj ⊢; omega)
/-- Both are the same place. -/
theorem best_same {num far : Nat → Nat} {K f b c : Nat} (h : BestA num far K b) (k : BestN num far K f 0 c) (hf : ∀ j, j < K → far j < f) : b = c :=
  le3.anti (h.2 c k.1.1) (k.2 b ⟨h.1, Or.inl (hf b h.1)⟩)
theorem seen_all {far : Nat → Nat} {K f : Nat} (h : ∀ j, ¬ Seen far K f 0 j) (hK : 0 < K) (hf : ∀ j, j < K → far j < f) : False := h 0 ⟨hK, Or.inl (hf 0 hK)⟩

/-! ### places by number -/
def dxOf (r j : Nat) : Int := ((j % (2 * r + 1) : Nat) : Int) - r
def dyOf (r j : Nat) : Int := ((j / (2 * r + 1) : Nat) : Int) - r
def farOf (r j : Nat) : Nat := (dxOf r j).natAbs + (dyOf r j).natAbs
theorem dxOf_at (r v u : Nat) (hu : u < 2 * r + 1) : dxOf r (v * (2 * r + 1) + u) = (u : Int) - r := by
  unfold dxOf
  rw [Nat.mul_comm, Nat.mul_add_mod, Nat.mod_eq_of_lt hu]
theorem dyOf_at (r v u : Nat) (hu : u < 2 * r + 1) : dyOf r (v * (2 * r + 1) + u) = (v : Int) - r := by
  unfold dyOf
  rw [Nat.mul_comm, Nat.mul_add_div (by omega), Nat.div_eq_of_lt hu, Nat.add_zero]
theorem farOf_lt (r j : Nat) (hj : j < (2 * r + 1) * (2 * r + 1)) : farOf r j < 2 * r + 1 := by
  have h1 : j % (2 * r + 1) < 2 * r + 1 := Nat.mod_lt _ (by omega)
  have h2 : j / (2 * r + 1) < 2 * r + 1 := Nat.div_lt_of_lt_mul hj
  unfold farOf dxOf dyOf
  generalize j % (2 * r + 1) = a at h1 ⊢
  generalize j / (2 * r + 1) = b at h2 ⊢
  omega

/-- How many of the first n places differ. -/
def differs (bs cs : List Bool) (W H : Nat) (dx dy : Int) (i : Nat) : Bool := bs.getD i false != atI cs W H (((i % W : Nat) : Int) - dx) (((i / W : Nat) : Int) - dy)
def cntD (bs cs : List Bool) (W H : Nat) (dx dy : Int) : Nat → Nat
  | 0 => 0
  | n + 1 => cntD bs cs W H dx dy n + (if differs bs cs W H dx dy n then 1 else 0)
theorem cntD_le (bs cs : List Bool) (W H : Nat) (dx dy : Int) (n : Nat) : cntD bs cs W H dx dy n ≤ n := by
  induction n with
  | zero => exact Nat.le_refl 0
  | succ n ih => unfold cntD; split <;> omega
def numD (bs cs : List Bool) (W H r j : Nat) : Nat := cntD bs cs W H (dxOf r j) (dyOf r j) (W * H)

/-! ### the state of the two searches -/
def StA (num : Nat → Nat) (r m : Nat) (x y n : Int) : Prop :=
  (m = 0 ∧ x = 0 ∧ y = 0 ∧ n = -1) ∨ ∃ b, BestA num (farOf r) m b ∧ x = dxOf r b ∧ y = dyOf r b ∧ n = num b
def StN (num : Nat → Nat) (r f m : Nat) (x y n : Int) (found : Bool) : Prop :=
  (found = false ∧ n = 0 ∧ ∀ j, ¬ Seen (farOf r) ((2 * r + 1) * (2 * r + 1)) f m j) ∨ (found = true ∧ ∃ b, BestN num (farOf r) ((2 * r + 1) * (2 * r + 1)) f m b ∧ x = dxOf r b ∧ y = dyOf r b ∧ n = num b)
theorem StA.same {num : Nat → Nat} {r : Nat} {x y n x' y' n' : Int} {found : Bool} (h : StA num r ((2 * r + 1) * (2 * r + 1)) x y n) (k : StN num r (2 * r + 1) 0 x' y' n' found) : x = x' ∧ y = y' ∧ n = n' := by
  have hK : 0 < (2 * r + 1) * (2 * r + 1) := Nat.mul_pos (by omega) (by omega)
  rcases h with ⟨h, _⟩ | ⟨b, hb, rfl, rfl, rfl⟩
  · omega
  · rcases k with ⟨_, _, k⟩ | ⟨_, c, hc, rfl, rfl, rfl⟩
    · exact absurd (seen_all k hK (farOf_lt r)) id
    · rw [best_same hb hc (farOf_lt r)]
      exact ⟨rfl, rfl, rfl⟩
/-- One place more in Align. -/
theorem StA.step {num : Nat → Nat} {r m : Nat} {x y n : Int} (h : StA num r m x y n) :
    (n < 0 ∨ (num m : Int) < n ∨ ((num m : Int) = n ∧ (farOf r m : Int) < x.natAbs + y.natAbs) → StA num r (m + 1) (dxOf r m) (dyOf r m) (num m)) ∧
    (¬ (n < 0 ∨ (num m : Int) < n ∨ ((num m : Int) = n ∧ (farOf r m : Int) < x.natAbs + y.natAbs)) → StA num r (m + 1) x y n) := by
  rcases h with ⟨rfl, rfl, rfl, rfl⟩ | ⟨b, hb, rfl, rfl, rfl⟩
  · exact ⟨fun _ => Or.inr ⟨0, BestA.start num _, rfl, rfl, rfl⟩, fun hn => absurd (Or.inl (by decide)) hn⟩
  · have e : ((dxOf r b).natAbs : Int) + (dyOf r b).natAbs = (farOf r b : Int) := by unfold farOf; simp
    rw [e]
    refine ⟨fun hc => Or.inr ⟨m, hb.take ?_, rfl, rfl, rfl⟩, fun hc => Or.inr ⟨b, hb.keep ?_, rfl, rfl, rfl⟩⟩
    · rcases hc with hc | hc | ⟨hc, hd⟩ <;> omega
    · omega
/-- One place more in Nearest. -/
theorem StN.skip {num : Nat → Nat} {r f m : Nat} {x y n : Int} {found : Bool} (h : StN num r f m x y n found) (hf : farOf r m ≠ f) : StN num r f (m + 1) x y n found := by
  rcases h with ⟨h1, h2, h3⟩ | ⟨h1, b, hb, h2⟩
  · exact Or.inl ⟨h1, h2, Seen.skip h3 hf⟩
  · exact Or.inr ⟨h1, b, hb.skip hf, h2⟩
theorem StN.take {num : Nat → Nat} {r f m : Nat} {x y n : Int} {found : Bool} (h : StN num r f m x y n found) (hm : m < (2 * r + 1) * (2 * r + 1)) (hf : farOf r m = f) (hc : found = false ∨ (num m : Int) < n) : StN num r f (m + 1) (dxOf r m) (dyOf r m) (num m) true := by
  rcases h with ⟨h1, h2, h3⟩ | ⟨h1, b, hb, rfl, rfl, rfl⟩
  · exact Or.inr ⟨rfl, m, BestN.first h3 hm hf, rfl, rfl, rfl⟩
  · have hlt : num m < num b := by
      rcases hc with hc | hc
      · simp [h1] at hc
      · omega
    exact Or.inr ⟨rfl, m, hb.take hm hf hlt, rfl, rfl, rfl⟩
theorem StN.keep {num : Nat → Nat} {r f m : Nat} {x y n : Int} {found : Bool} (h : StN num r f m x y n found) (hf : farOf r m = f) (hc : ¬ (found = false ∨ (num m : Int) < n)) : StN num r f (m + 1) x y n found := by
  rcases h with ⟨h1, h2, h3⟩ | ⟨h1, b, hb, rfl, rfl, rfl⟩
  · exact absurd (Or.inl h1) hc
  · exact Or.inr ⟨h1, b, hb.keep hf (by omega), rfl, rfl, rfl⟩
theorem StN.level {num : Nat → Nat} {r f : Nat} {x y n : Int} {found : Bool} (h : StN num r f ((2 * r + 1) * (2 * r + 1)) x y n found) : StN num r (f + 1) 0 x y n found := by
  rcases h with ⟨h1, h2, h3⟩ | ⟨h1, b, hb, h2⟩
  · exact Or.inl ⟨h1, h2, Seen.level h3⟩
  · exact Or.inr ⟨h1, b, hb.level, h2⟩
theorem StN.start (num : Nat → Nat) (r : Nat) (x y : Int) : StN num r 0 0 x y 0 false :=
  Or.inl ⟨rfl, rfl, fun j hj => by unfold Seen at hj; omega⟩

end Go.Proofs.Ytccgncjncklheaa
