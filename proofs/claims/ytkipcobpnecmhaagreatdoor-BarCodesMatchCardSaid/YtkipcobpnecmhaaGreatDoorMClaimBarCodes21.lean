/- From a statement's row to a walk: fonts and samples that read as data are opened. No condition. -/
import Derived.Test.YtkipcobpnecmhaaGreatDoorMClaimBarCodes15
import Derived.Test.YtkipcobpnecmhaaGreatDoorMClaimBarCodes13

namespace Go.Proofs.YtkipcobpnecmhaaGreatDoor
open Go.ChangeShapes Go.WideShapes Go.ChangeAt Go.RowKit Go.Joins

section
variable {H : Type} {enc : TypeId × Value → H} {P : Program} {w : World} {base : Nat} {spare : Nat → Bool} {held : Bool}
theorem cells_split {a : Addr} {n : Nat} {cs : List Value} (h : w.cells? base a n = some cs) : cs.length = n ∧ ∀ (j : Nat) u, cs[j]? = some u → w.cell? (a.add j) = some u := by
  unfold World.cells? at h
  split at h
  · have key : ∀ (m : Nat) (l : List Nat) (cs : List Value), l = (List.range' m (n - m)) → m ≤ n → l.mapM (fun i => w.cell? (a.add i)) = some cs → cs.length = n - m ∧ ∀ (j : Nat) u, cs[j]? = some u → w.cell? (a.add (m + j)) = some u := by
      intro m l
      induction l generalizing m with
      | nil =>
        intro cs hl hm hc
        simp at hc
        subst hc
        have : n - m = 0 := by
          have := congrArg List.length hl
          simpa using this.symm
        exact ⟨by simp [this], fun j u hj => by simp at hj⟩
      | cons x l ih =>
        intro cs hl hm hc
        have hlt : m < n := by
          have := congrArg List.length hl
          simp at this
          omega
        have e : n - m = (n - (m + 1)) + 1 := by omega
        rw [e, List.range'_succ] at hl
        injection hl with h1 h2
        subst h1
        simp only [List.mapM_cons, Option.bind_eq_bind, Option.bind_eq_some_iff, Option.pure_def, Option.some.injEq] at hc
        obtain ⟨v, hv, vs, hvs, rfl⟩ := hc
        obtain ⟨k1, k2⟩ := ih (x + 1) vs h2 (by omega) hvs
        refine ⟨by simp [k1]; omega, fun j u hj => ?_⟩
        rcases j with _ | j
        · simp at hj
          subst hj
          exact hv
        · have := k2 j u (by simpa using hj)
          rw [show x + (j + 1) = x + 1 + j by omega]
          exact this
    have := key 0 (List.range n) cs (by rw [List.range_eq_range']; rfl) (Nat.zero_le _) h
    simpa using this
  · cases h
theorem rd_cells {t e : TypeId} {fuel : Nat} {a0 : Option Addr} {len cap : Nat} {x : DataW H × List MemPlace} (ht : P.underlying t = some (.slice e)) (h : DataW.trod enc P w base spare held fuel t [.slice a0 len cap] = some x) :
    (a0 = none ∧ len = 0 ∧ cap = 0) ∨ ∃ a n', a0 = some a ∧ len ≤ cap ∧ cap ≤ maxLen ∧ ∀ i, i < len → ∃ cs x', cs.length = P.cellsOf e ∧ (∀ (j : Nat) u, cs[j]? = some u → w.cell? (a.add (i * P.cellsOf e + j)) = some u) ∧ DataW.trod enc P w base spare held n' e cs = some x' := by
  rcases DataW.trod_slice ht h with ⟨hcs, _⟩ | ⟨a, len', cap', elems, rest, n, _, hcs, _, _, hl, hm, hlen, hel, _⟩
  · simp at hcs
    exact .inl hcs
  · simp at hcs
    obtain ⟨rfl, rfl, rfl⟩ := hcs
    refine .inr ⟨a, n, rfl, hl, hm, fun i hi => ?_⟩
    have h1 := hel i hi
    rw [List.getElem?_eq_getElem (by omega)] at h1
    obtain ⟨cs, hcs, htr⟩ := Option.bind_eq_some_iff.1 h1
    obtain ⟨k1, k2⟩ := cells_split hcs
    refine ⟨cs, _, k1, fun j u hj => ?_, htr⟩
    have := k2 j u hj
    rwa [add_of_add] at this
end

section
variable {H : Type} {enc : TypeId × Value → H} {w : World} {base b0 : Nat} {spare : Nat → Bool} {held : Bool} {r : Reach}
end

end Go.Proofs.YtkipcobpnecmhaaGreatDoor
