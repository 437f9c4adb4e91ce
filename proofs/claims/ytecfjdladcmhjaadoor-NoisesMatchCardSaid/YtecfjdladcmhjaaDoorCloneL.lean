/- slices.Clone of letters; a letter put in the place of another. -/
import Derived.Test.YtecfjdladcmhjaaDoorLearnLaw2
import Derived.Test.YtecfjdladcmhjaaDoorClone
namespace Go.Proofs.YtecfjdladcmhjaaDoor
open Go.RowKit

theorem info_ltr : (Tryd.prog.info? 99).map (fun i => (i.zero, i.size, i.bytes)) = some (some (.agg #[.string ⟨#[]⟩, .int .i64 0, .int .i64 0, .slice none 0 0]), 4, 56) := by kernel_rfl
theorem Ltr.oneCell (l : Ltr) : ∀ u ∈ l.cells, u.oneCell' = true := by
  intro u hu
  unfold Ltr.cells at hu
  simp only [List.mem_cons, List.not_mem_nil, or_false] at hu
  rcases hu with rfl | rfl | rfl | rfl <;> rfl
theorem ltrCells_one (ls : List Ltr) : ∀ u ∈ ltrCells ls, u.oneCell' = true := by
  intro u hu
  unfold ltrCells at hu
  obtain ⟨l, _, h⟩ := List.mem_flatMap.1 hu
  exact l.oneCell u h
set_option maxRecDepth 100000 in
set_option maxHeartbeats 1000000 in
theorem cloneL_any (L : Option Addr) (c : Nat) (ls : List Ltr) (w : World) (hL : LtrsAt w L ls) (hn : ls.length ≤ 1000) :
    Calls Tryd.prog 129 #[.slice L ls.length c] w fun e w' => ∃ v, e = .returned v ∧ w'.ownsRow w.heap.size 99 4 v ls.length (ltrCells ls) ∧ Bl w w' := by
  rcases L with _ | ad
  · have h0 : ls = [] := by
      cases ls with
      | nil => rfl
      | cons l ls => obtain ⟨ad, e, _⟩ := hL.1.2 (by simp); cases e
    subst h0
    have q22 := fun w => Lib.run_eql_slice_nil (P := Tryd.prog) w 65 _ none 0 c 0 0 Tryd.underlying65
    go_enter Tryd.func129, Tryd.ntmps129
    go_wp2_with fail
    go_ret
    exact ⟨_, rfl, World.ownsRow_nil _ _ _ _, Bl.refl _⟩
  · have HA := Lib.hid hL.1
    have H1 := Lib.hid (ltrCells_one ls)
    clear hL
    have q22 := fun w => Lib.run_eql_slice_nil (P := Tryd.prog) w 65 _ (some ad) ls.length c 0 0 Tryd.underlying65
    go_enter Tryd.func129, Tryd.ntmps129
    go_wp2_with (at_builtin; refine wpList_append_bl rfl (.tmp 5) (.tmp 6) 65 rfl 99 (.agg #[.string ⟨#[]⟩, .int .i64 0, .int .i64 0, .slice none 0 0]) 4 56 Tryd.underlying65 info_ltr rfl (by omega) w.heap.size _ 0 [] rfl ?hb (Nat.le_refl _) ?hB ?hown _ ls.length c _ rfl ?hr H1.out ?c1 ?c2 ?_)
    case hb => exact (Bl.refl _).alloc _
    case hB => simp
    case hown => exact ⟨rfl, Or.inr ⟨w.heap.size, 0, #[], rfl, Nat.le_refl _, MapKept.heap_alloc w _ |>.1, Nat.le_refl _, Nat.zero_le _, rfl, rfl⟩⟩
    case hr => exact HA.out.bl ((Bl.refl _).alloc _)
    case c1 => unfold maxLen; omega
    case c2 => omega
    intro v' w' hown hb' _
    go_wp2_with fail
    go_ret
    exact ⟨_, rfl, by simpa using hown, hb'⟩

/-! ### a cell of an owned row is set -/
theorem ownsRow_set {w : World} {base : Nat} {e : TypeId} {size n g cap : Nat} {xs : List Value} (h : w.ownsRow base e size (.slice (some ⟨g, 0, none⟩) n cap) n xs) (j : Nat) (u : Value) : (w.setCell ⟨g, j, none⟩ u).ownsRow base e size (.slice (some ⟨g, 0, none⟩) n cap) n (xs.set j u) := by
  refine ⟨by rw [List.length_set]; exact h.1, ?_⟩
  rcases h.2 with ⟨hv, _⟩ | ⟨g', cap', cur, hv, hb, hg, hn, hc, hs, ht⟩
  · cases hv
  · injection hv with h1 h2 h3
    injection h1 with h1
    injection h1 with h1
    subst h1
    subst h3
    refine .inr ⟨g, cap, cur.setIfInBounds j u, rfl, hb, ?_, hn, hc, by simpa using hs, ?_⟩
    · simp [World.setCell, Array.getElem?_modify, hg]
    · rw [Array.toList_setIfInBounds, List.take_set, ht]
theorem set_mid {α : Type} (a : List α) (x y : α) (b : List α) (i : Nat) (h : i = a.length) : (a ++ x :: b).set i y = a ++ y :: b := by
  subst h
  rw [List.set_append_right _ _ (Nat.le_refl _), Nat.sub_self]
  rfl
theorem ltrCells_set {ls : List Ltr} {k : Nat} {l0 : Ltr} (l : Ltr) (hk : ls[k]? = some l0) :
    ((((ltrCells ls).set (k * 4) (.string ⟨l.text.toArray⟩)).set (k * 4 + 1) (.int .i64 l.W)).set (k * 4 + 2) (.int .i64 l.H)).set (k * 4 + 3) (.slice l.A l.m l.c) = ltrCells (ls.set k l) := by
  have hlt : k < ls.length := (List.getElem?_eq_some_iff.1 hk).1
  have e : ls = ls.take k ++ l0 :: ls.drop (k + 1) := by
    have h2 : ls.drop k = l0 :: ls.drop (k + 1) := by
      rw [List.drop_eq_getElem_cons hlt]
      congr 1
      exact (List.getElem?_eq_some_iff.1 hk).2
    rw [← h2, List.take_append_drop]
  have hl : (ls.take k).length = k := by simp; omega
  have e2 : ls.set k l = ls.take k ++ l :: ls.drop (k + 1) := by
    conv => lhs; rw [e]
    exact set_mid _ _ _ _ _ hl.symm
  rw [e2]
  conv => lhs; rw [e]
  obtain ⟨a, ha⟩ : ∃ a, a = ls.take k := ⟨_, rfl⟩
  obtain ⟨b, hb⟩ : ∃ b, b = ls.drop (k + 1) := ⟨_, rfl⟩
  rw [← ha] at hl ⊢
  rw [← hb]
  have hca : (ltrCells a).length = k * 4 := by rw [ltrCells_len, hl]
  rw [ltrCells_append, ltrCells_append]
  show ((((ltrCells a ++ (.string ⟨l0.text.toArray⟩ :: .int .i64 l0.W :: .int .i64 l0.H :: .slice l0.A l0.m l0.c :: ltrCells b)).set (k * 4) (.string ⟨l.text.toArray⟩)).set (k * 4 + 1) (.int .i64 l.W)).set (k * 4 + 2) (.int .i64 l.H)).set (k * 4 + 3) (.slice l.A l.m l.c) =
    ltrCells a ++ (.string ⟨l.text.toArray⟩ :: .int .i64 l.W :: .int .i64 l.H :: .slice l.A l.m l.c :: ltrCells b)
  rw [set_mid _ _ _ _ _ hca.symm]
  rw [List.append_cons (ltrCells a), set_mid _ _ _ _ _ (by simp [hca])]
  rw [List.append_cons (ltrCells a ++ [_]), set_mid _ _ _ _ _ (by simp [hca])]
  rw [List.append_cons (ltrCells a ++ [_] ++ [_]), set_mid _ _ _ _ _ (by simp [hca])]
  simp
theorem add_flat (g i : Nat) : (⟨g, 0, none⟩ : Addr).add i = ⟨g, i, none⟩ := by unfold Addr.add; split <;> simp_all
/-- A letter whole. -/
theorem own_letter {w : World} {base g cap : Nat} {e : TypeId} {ls : List Ltr} {k : Nat} {l0 : Ltr} (l : Ltr) (h : w.ownsRow base e 4 (.slice (some ⟨g, 0, none⟩) ls.length cap) ls.length (ltrCells ls)) (hk : ls[k]? = some l0) :
    ((((w.setCell ⟨g, k * 4, none⟩ (.string ⟨l.text.toArray⟩)).setCell ⟨g, k * 4 + 1, none⟩ (.int .i64 l.W)).setCell ⟨g, k * 4 + 2, none⟩ (.int .i64 l.H)).setCell ⟨g, k * 4 + 3, none⟩ (.slice l.A l.m l.c)).ownsRow base e 4 (.slice (some ⟨g, 0, none⟩) ls.length cap) ls.length (ltrCells (ls.set k l)) := by
  rw [← ltrCells_set l hk]
  exact ownsRow_set (ownsRow_set (ownsRow_set (ownsRow_set h _ _) _ _) _ _) _ _
/-- A letter but its text. -/
theorem own_bits {w : World} {base g cap : Nat} {e : TypeId} {ls : List Ltr} {k : Nat} {l0 : Ltr} (l : Ltr) (h : w.ownsRow base e 4 (.slice (some ⟨g, 0, none⟩) ls.length cap) ls.length (ltrCells ls)) (hk : ls[k]? = some l0) (ht : l.text = l0.text) :
    (((w.setCell ⟨g, k * 4 + 1, none⟩ (.int .i64 l.W)).setCell ⟨g, k * 4 + 2, none⟩ (.int .i64 l.H)).setCell ⟨g, k * 4 + 3, none⟩ (.slice l.A l.m l.c)).ownsRow base e 4 (.slice (some ⟨g, 0, none⟩) ls.length cap) ls.length (ltrCells (ls.set k l)) := by
  rw [← ltrCells_set l hk]
  have e0 : (ltrCells ls).set (k * 4) (.string ⟨l.text.toArray⟩) = ltrCells ls := by
    have h0 : (ltrCells ls)[k * 4]? = some (.string ⟨l.text.toArray⟩) := by
      have := ltrCells_at hk 0 (by omega)
      rw [Nat.add_zero] at this
      rw [this, ht]
      rfl
    obtain ⟨h1, h2⟩ := List.getElem?_eq_some_iff.1 h0
    rw [← h2]
    exact List.set_getElem_self h1
  rw [e0]
  exact ownsRow_set (ownsRow_set (ownsRow_set h _ _) _ _) _ _
theorem LtrsAt.of_own {w : World} {base : Nat} {e : TypeId} {v : Value} {ls : List Ltr} (h : w.ownsRow base e 4 v ls.length (ltrCells ls)) (hl : ∀ l ∈ ls, Reads w 1 l.A l.m (l.bs.map .bool) ∧ l.text.length ≤ 9223372036854775807) : ∃ R c, v = .slice R ls.length c ∧ LtrsAt w R ls := by
  obtain ⟨R, c, rfl, hr⟩ := own_reads h
  exact ⟨R, c, rfl, hr, hl⟩

end Go.Proofs.YtecfjdladcmhjaaDoor
