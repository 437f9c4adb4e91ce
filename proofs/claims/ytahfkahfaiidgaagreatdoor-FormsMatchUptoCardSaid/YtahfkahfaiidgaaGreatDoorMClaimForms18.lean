/- From a statement's row to a walk: fonts and samples that read as data are opened. No condition. -/
import Derived.Test.YtahfkahfaiidgaaGreatDoorMClaimForms16
import Derived.Test.YtahfkahfaiidgaaGreatDoorMClaimForms14

namespace Go.Proofs.YtahfkahfaiidgaaGreatDoor
open Go.ChangeShapes Go.WideShapes Go.ChangeAt Go.RowKit Go.Joins

theorem build_list {α : Type} {Q : Nat → α → Prop} : ∀ (n : Nat), (∀ i, i < n → ∃ y, Q i y) → ∃ ys : List α, ys.length = n ∧ ∀ (i : Nat) y, ys[i]? = some y → Q i y
  | 0, _ => ⟨[], rfl, fun i y h => by simp at h⟩
  | n + 1, h => by
    obtain ⟨ys, hl, hy⟩ := build_list n fun i hi => h i (by omega)
    obtain ⟨z, hz⟩ := h n (by omega)
    refine ⟨ys ++ [z], by simp [hl], fun i y hi => ?_⟩
    rcases Nat.lt_or_ge i ys.length with h1 | h1
    · rw [List.getElem?_append_left h1] at hi
      exact hy i y hi
    · have hlt := (List.getElem?_eq_some_iff.1 hi).1
      have e : i = ys.length := by simp at hlt; omega
      subst e
      rw [List.getElem?_append_right (Nat.le_refl _), Nat.sub_self] at hi
      injection hi with hi
      subst hi
      rw [hl]
      exact hz
section
variable {H : Type} {enc : TypeId × Value → H} {P : Program} {w : World} {base : Nat} {spare : Nat → Bool} {held : Bool}
theorem cells_split {a : Addr} {n : Nat} {cs : List Value} (h : w.cells? base a n = some cs) : cs.length = n ∧ ∀ (j : Nat) u, cs[j]? = some u → w.cell? (a.add j) = some u := by
  unfold World.cells? at h
  split at h
  · have key : ∀ (m : Nat) (l : List Nat) (cs : List Value), l = (List.range' m (n - m)) → m ≤ n → l.mapM (fun i => w.cell? (a.add i)) = some cs → cs.length = n - m ∧ ∀ (j : Nat) u, cs[j]? = some u → w.cell? (a.add (m + j)) = some u := by
      intro m l
      induction l generalizing m with
      | nil =>
        intro cs hl hm hc
        simp at hc
        subst hc
        have : n - m = 0 := by
          have := congrArg List.length hl
          simpa using this.symm
        exact ⟨by simp [this], fun j u hj => by simp at hj⟩
      | cons x l ih =>
        intro cs hl hm hc
        have hlt : m < n := by
          have := congrArg List.length hl
          simp at this
          omega
        have e : n - m = (n - (m + 1)) + 1 := by omega
        rw [e, List.range'_succ] at hl
        injection hl with h1 h2
        subst h1
        simp only [List.mapM_cons, Option.bind_eq_bind, Option.bind_eq_some_iff, Option.pure_def, Option.some.injEq] at hc
        obtain ⟨v, hv, vs, hvs, rfl⟩ := hc
        obtain ⟨k1, k2⟩ := ih (x + 1) vs h2 (by omega) hvs
        refine ⟨by simp [k1]; omega, fun j u hj => ?_⟩
        rcases j with _ | j
        · simp at hj
          subst hj
          exact hv
        · have := k2 j u (by simpa using hj)
          rw [show x + (j + 1) = x + 1 + j by omega]
          exact this
    have := key 0 (List.range n) cs (by rw [List.range_eq_range']; rfl) (Nat.zero_le _) h
    simpa using this
  · cases h
theorem rd_cells {t e : TypeId} {fuel : Nat} {a0 : Option Addr} {len cap : Nat} {x : DataW H × List MemPlace} (ht : P.underlying t = some (.slice e)) (h : DataW.trod enc P w base spare held fuel t [.slice a0 len cap] = some x) :
    (a0 = none ∧ len = 0 ∧ cap = 0) ∨ ∃ a n', a0 = some a ∧ len ≤ cap ∧ cap ≤ maxLen ∧ ∀ i, i < len → ∃ cs x', cs.length = P.cellsOf e ∧ (∀ (j : Nat) u, cs[j]? = some u → w.cell? (a.add (i * P.cellsOf e + j)) = some u) ∧ DataW.trod enc P w base spare held n' e cs = some x' := by
  rcases DataW.trod_slice ht h with ⟨hcs, _⟩ | ⟨a, len', cap', elems, rest, n, _, hcs, _, _, hl, hm, hlen, hel, _⟩
  · simp at hcs
    exact .inl hcs
  · simp at hcs
    obtain ⟨rfl, rfl, rfl⟩ := hcs
    refine .inr ⟨a, n, rfl, hl, hm, fun i hi => ?_⟩
    have h1 := hel i hi
    rw [List.getElem?_eq_getElem (by omega)] at h1
    obtain ⟨cs, hcs, htr⟩ := Option.bind_eq_some_iff.1 h1
    obtain ⟨k1, k2⟩ := cells_split hcs
    refine ⟨cs, _, k1, fun j u hj => ?_, htr⟩
    have := k2 j u hj
    rwa [add_of_add] at this
end

section
variable {H : Type} {enc : TypeId × Value → H} {w : World} {base b0 : Nat} {spare : Nat → Bool} {held : Bool} {r : Reach}
theorem cells_str : Tryz.prog.cellsOf 9 = 1 := by kernel_rfl
theorem cells_int : Tryz.prog.cellsOf 3 = 1 := by kernel_rfl
theorem cells_bools : Tryz.prog.cellsOf 40 = 1 := by kernel_rfl
theorem cells_bits : Tryz.prog.cellsOf 42 = 3 := by kernel_rfl
set_option maxRecDepth 100000 in
theorem rd_page {fuel : Nat} {cs : List Value} {x : DataW H × List MemPlace} (h : DataW.trod enc Tryz.prog w base spare held fuel 42 cs = some x) : ∃ p : Pg, cs = p.cells ∧ p.bs.length = p.m ∧ Reads w 1 p.A p.m (p.bs.map .bool) := by
  obtain ⟨y0, y1, y2, n, _, hl, h0, h1, h2⟩ := Go.Deep.trod_struct3 Tryz.underlying42 h
  rw [cells_bits] at hl
  match cs, hl with
  | [c0, c1, c2], _ =>
    simp only [cells_int, cells_bools, List.drop_zero, List.drop_succ_cons, List.take_succ_cons, List.take_zero] at h0 h1 h2
    obtain ⟨W, e0, _, w0⟩ := DataW.trod_int Tryz.underlying3 h0
    obtain ⟨Ht, e1, _, w1⟩ := DataW.trod_int Tryz.underlying3 h1
    obtain ⟨A, m, c, rfl⟩ := slice_of_trod Tryz.underlying40 h2
    simp at e0 e1
    subst e0 e1
    obtain ⟨bs, hz, hr, hm⟩ := rd_bools Tryz.underlying40 Tryz.underlying4 (by kernel_rfl) h2
    exact ⟨⟨W, Ht, A, m, c, bs⟩, rfl, hz, hr⟩
end

end Go.Proofs.YtahfkahfaiidgaaGreatDoor
