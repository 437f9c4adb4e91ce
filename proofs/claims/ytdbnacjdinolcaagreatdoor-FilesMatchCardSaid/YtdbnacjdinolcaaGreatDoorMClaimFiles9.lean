/- Bytes that a conversion has laid, appended to: the row's frozen range lies behind its cells. -/
import Derived.Test.YtdbnacjdinolcaaGreatDoorMClaimFiles8
import Derived.Lib.FrozenHead2

namespace Go.Proofs.YtdbnacjdinolcaaGreatDoor
open Go.RowKit Go.Shelf

/-- None of the cells is frozen. -/
def NoFz (k : Nat) (fz : Nat × Nat) : Prop := ∀ i, i < k → (decide (fz.1 ≤ i) && decide (i < fz.2)) = false
def OwnT (w : World) (base : Nat) (e : TypeId) (v : Value) (n : Nat) (xs : List Value) : Prop :=
  xs.length = n ∧ ∃ g cap cur fz, v = .slice (some ⟨g, 0, none⟩) n cap ∧ base ≤ g ∧ w.heap[g]? = some (.cells cur e fz) ∧ NoFz cur.size fz ∧ n ≤ cap ∧ cap ≤ maxLen ∧ cur.size = cap ∧ cur.toList.take n = xs
theorem OwnT.cells {w : World} {base : Nat} {e : TypeId} {n : Nat} {v : Value} {xs : List Value} (h : OwnT w base e v n xs) : ∃ g cap, v = .slice (some ⟨g, 0, none⟩) n cap ∧ base ≤ g ∧ g < w.heap.size ∧ n ≤ cap ∧ ∀ j u, xs[j]? = some u → w.cell? ((⟨g, 0, none⟩ : Addr).add j) = some u := by
  obtain ⟨hl, g, cap, cur, fz, rfl, hb, hg, -, hn, -, -, ht⟩ := h
  refine ⟨g, cap, rfl, hb, (Array.getElem?_eq_some_iff.1 hg).1, hn, fun j u hu => ?_⟩
  have hadd : (⟨g, 0, none⟩ : Addr).add j = ⟨g, j, none⟩ := by unfold Addr.add; split <;> simp_all
  rw [hadd, cell_of_row w g j cur e fz hg]
  rw [← ht, List.getElem?_take] at hu
  split at hu
  · simpa using hu
  · cases hu
theorem OwnT.brow {w : World} {base : Nat} {e : TypeId} {n : Nat} {v : Value} {xs : List Value} (h : OwnT w base e v n xs) : ∃ A c, v = .slice A n c ∧ Reads w 1 A n xs ∧ n ≤ c ∧ (A = none → c = 0) ∧ ∀ ad, A = some ad → base ≤ ad.block := by
  obtain ⟨g, cap, rfl, hb, -, hn, hc⟩ := h.cells
  exact ⟨_, _, rfl, ⟨by rw [h.1, Nat.mul_one], fun _ => ⟨_, rfl, hc⟩⟩, hn, (fun h => by cases h), (fun ad h => by injection h with h; subst h; exact hb)⟩
theorem OwnT.bl {w w' : World} {base : Nat} {e : TypeId} {n : Nat} {v : Value} {xs : List Value} (h : OwnT w base e v n xs) (hb : Bl w w') : OwnT w' base e v n xs := by
  obtain ⟨hl, g, cap, cur, fz, hv, hg, hh, r⟩ := h
  exact ⟨hl, g, cap, cur, fz, hv, hg, (Below.block hb g (Array.getElem?_eq_some_iff.1 hh).1).trans hh, r⟩
theorem OwnT.lt {w : World} {base : Nat} {e : TypeId} {n : Nat} {v : Value} {xs : List Value} (h : OwnT w base e v n xs) : ∀ k, v.ownBlock = some k → base ≤ k ∧ k < w.heap.size := by
  obtain ⟨hl, g, cap, cur, fz, rfl, hb, hg, r⟩ := h
  intro k hk
  simp [Value.ownBlock] at hk
  subst hk
  exact ⟨hb, (Array.getElem?_eq_some_iff.1 hg).1⟩
theorem OwnT.mono {w : World} {base base' : Nat} {e : TypeId} {n : Nat} {v : Value} {xs : List Value} (h : OwnT w base e v n xs) (hb : base' ≤ base) : OwnT w base' e v n xs := by
  obtain ⟨hl, g, cap, cur, fz, hv, hg, r⟩ := h
  exact ⟨hl, g, cap, cur, fz, hv, Nat.le_trans hb hg, r⟩
/-- What a conversion lays. -/
theorem ownT_bytes (w : World) (e : TypeId) (l : List UInt8) (hl : l.length ≤ maxLen) : OwnT (Lib.bytesWorld w e ⟨l.toArray⟩) w.heap.size e (.slice (some ⟨w.heap.size, 0, none⟩) l.length (grownCap w l.length 0 e)) l.length (l.map encB) := by
  have hge := grownCap_ge w l.length 0 e
  have hcm := grownCap_le_maxLen w l.length 0 e hl
  have hsz : (Lib.bytesCells w e ⟨l.toArray⟩).size = grownCap w l.length 0 e := by
    unfold Lib.bytesCells
    simp [ByteArray.size]
    omega
  refine ⟨by simp, w.heap.size, _, _, _, rfl, Nat.le_refl _, Lib.bytesWorld_at_new w e _, fun i hi => ?_, hge, hcm, hsz, ?_⟩
  · simp only [Bool.and_eq_false_iff, decide_eq_false_iff_not]
    left
    omega
  · unfold Lib.bytesCells
    rw [Array.toList_append, List.take_append_of_le_length (by simp), List.take_of_length_le (by simp)]
    simp [encB]

theorem run_storeCells_noFz (P : Program) (g : Nat) (t : TypeId) (fz : Nat × Nat) (o : Nat) : ∀ (vs : List Value) (i : Nat) (cur : Array Value) (w : World), w.heap[g]? = some (.cells cur t fz) → NoFz cur.size fz → o + i + vs.length ≤ cur.size → (∀ v ∈ vs, v.oneCell' = true) →
    (storeCells ⟨g, o, none⟩ vs i).run P w = .ok () (w.setRow g (cur.toList.take (o + i) ++ vs ++ cur.toList.drop (o + i + vs.length)).toArray)
  | [], i, cur, w, hg, _, _, _ => by
    simp only [storeCells, List.append_nil, List.length_nil, Nat.add_zero, List.take_append_drop, Array.toArray_toList]
    rw [setRow_self w g cur t fz hg]
    rfl
  | v :: rest, i, cur, w, hg, hfz, hl, h1 => by
    have hi : o + i < cur.size := by simp at hl; omega
    have hadd : (⟨g, o, none⟩ : Addr).add i = ⟨g, o + i, none⟩ := by unfold Addr.add; split <;> simp_all
    have hcell : w.cell? ⟨g, o + i, none⟩ = some cur[o + i] := by simp [World.cell?, hg, hi]
    have hfro : w.frozen? ⟨g, o + i, none⟩ = false := by
      have h := hfz (o + i) hi
      obtain ⟨lo, hi'⟩ := fz
      simp only [World.frozen?, hg]
      exact h
    have hst : (store ((⟨g, o, none⟩ : Addr).add i) v).run P w = .ok () (w.setRow g (cur.setIfInBounds (o + i) v)) := by
      rw [hadd, run_store P w _ v _ (h1 v (by simp)), hcell]
      simp [hfro, setCell_eq_setRow w g (o + i) cur t fz v hg]
    have ih := run_storeCells_noFz P g t fz o rest (i + 1) (cur.setIfInBounds (o + i) v) (w.setRow g (cur.setIfInBounds (o + i) v)) (setRow_heap w g cur _ t _ hg) (by rw [Array.size_setIfInBounds]; exact hfz) (by simp at hl ⊢; omega) (fun x hx => h1 x (by simp [hx]))
    simp only [storeCells, Sem.run_bind, hst, Result.andThen_ok, ih, setRow_setRow]
    congr 3
    have e := list_seg_step cur.toList (o + i) v rest (by simp at hl ⊢; omega)
    simpa [Array.toList_setIfInBounds, Nat.add_assoc] using e
theorem run_append_T {P : Program} (w : World) (base : Nat) (t ty e : TypeId) (z : Value) (ht : P.underlying t = some (.slice e)) (hi : (P.info? e).map (fun i => (i.zero, i.size, i.bytes)) = some (some z, 1, 1)) (hzs : z.cells.size = 1)
    (v : Value) (n : Nat) (xs : List Value) (hown : OwnT w base e v n xs)
    (A : Option Addr) (m c : Nat) (news : List Value) (hr : Reads w 1 A m news) (h1 : ∀ u ∈ news, u.oneCell' = true)
    (h63 : n + m ≤ 1099511627776) (hbase : base ≤ w.heap.size) :
    ∃ v' w', (Builtin.append_ #[t, t] ty #[v, .slice A m c]).run P w = .ok v' w' ∧ OwnT w' base e v' (n + m) (xs ++ news) ∧ w.grownBy w' v.ownBlock := by
  obtain ⟨i, hi', hz, hsize, hby⟩ := info_parts hi
  have hmx : n + m ≤ maxLen := by unfold maxLen; omega
  have hl : news.length = m := by have := hr.1; omega
  rcases A with _ | ad
  · have hm : m = 0 := by
      rcases Nat.eq_zero_or_pos m with h0 | h0
      · exact h0
      · obtain ⟨ad, h, _⟩ := hr.2 h0
        cases h
    subst hm
    have hn : news = [] := List.eq_nil_of_length_eq_zero hl
    subst hn
    refine ⟨v, w, ?_, by simpa using hown, World.grownBy.refl w _⟩
    obtain ⟨_, g, cap, cur, fz, rfl, _, _, _, hnc, _⟩ := hown
    simp [Builtin.append_, run_underlying ht, sizeOf, typeInfo, hi', Builtin.lenOf, Builtin.firstCells, hnc, storeCells]
  · have hcells : ∀ j u, news[j]? = some u → w.cell? (ad.add j) = some u := by
      intro j u hu
      have hj := (List.getElem?_eq_some_iff.1 hu).1
      obtain ⟨ad', h, hc⟩ := hr.2 (by omega)
      injection h with h
      subst h
      exact hc j u hu
    obtain ⟨_, _, _, _, _, hold⟩ := hown.cells
    obtain ⟨hxl, g, cap, cur, fz, rfl, hbg, hg, hfz, hnc, hcm, hcs, htake⟩ := hown
    have hlen : (xs ++ news).length = n + m := by rw [List.length_append, hxl, hl]
    by_cases hroom : n + m ≤ cap
    · have hf := run_firstCells_some (P := P) w i.size m ad m c news (by rw [hsize, Nat.mul_one]; exact hl) hcells
      have hst := run_storeCells_noFz P g e fz n news 0 cur w hg hfz (by omega) h1
      simp only [Nat.add_zero] at hst
      refine ⟨.slice (some ⟨g, 0, none⟩) (n + m) cap, w.setRow g (cur.toList.take n ++ news ++ cur.toList.drop (n + news.length)).toArray, ?_, ⟨hlen, g, cap, _, fz, rfl, hbg, setRow_heap w g cur _ e fz hg, ?_, hroom, hcm, ?_, ?_⟩, ⟨rfl, rfl, rfl, by simp, fun k _ hk => setRow_other w g k _ (fun e => hk (by simp [Value.ownBlock, e]))⟩⟩
      · simp [Builtin.append_, run_underlying ht, sizeOf, typeInfo, hi', hsize, Builtin.lenOf, hroom, Addr.add_lit]
        rw [hsize] at hf
        simp [hf, hst]
      · have : (cur.toList.take n ++ news ++ cur.toList.drop (n + news.length)).toArray.size = cur.size := by simp; omega
        rw [this]; exact hfz
      · simp; omega
      · rw [htake, ← hlen]
        exact List.take_left
    · have holds : ∀ j u, xs[j]? = some u → w.cell? ((⟨g, 0, none⟩ : Addr).add j) = some u := by
        intro j u hu
        have hadd : (⟨g, 0, none⟩ : Addr).add j = ⟨g, j, none⟩ := by unfold Addr.add; split <;> simp_all
        rw [hadd, cell_of_row w g j cur e fz hg]
        rw [← htake, List.getElem?_take] at hu
        split at hu
        · simpa using hu
        · cases hu
      have hrun := run_append_grow (P := P) w t ty e i z ht hi' hz ⟨g, 0, none⟩ n cap xs (by rw [hsize, Nat.mul_one]; exact hxl) holds ad m c news (by rw [hsize, Nat.mul_one]; exact hl) hcells (by omega) (by omega) (growslice_fits (by omega) (by rw [hby]; omega))
      have hge := grownCap_ge w (n + m) cap e
      have hcm2 : grownCap w (n + m) cap e ≤ maxLen := grownCap_le_maxLen w (n + m) cap e hmx
      refine ⟨_, _, hrun, ⟨hlen, w.heap.size, _, _, (0, 0), rfl, hbase, heap_alloc_new w.drew _, fun i _ => ?_, hge, hcm2, ?_, ?_⟩, ⟨rfl, rfl, rfl, by simp, fun k hk _ => heap_alloc_old w.drew _ hk⟩⟩
      · simp
      · simp only [Array.size_append, List.size_toArray, size_zeroCells, hzs, hxl, hl]
        omega
      · simp only [Array.toList_append, List.append_assoc]
        rw [← List.append_assoc, ← hlen]
        exact List.take_left
/-- .. for the walk. -/
theorem wpList_append_T {P : Program} {w1 wr : World} {ops : Array Oper} {rest : List Oper} {o : Oper} {a : Act} {Q : Exit → Act → World → Prop} (hgd : o.guard = none) (s x : Operand) (t : TypeId)
    (ho : o.op = .call { callee := .builtin .append, args := #[s, x], argTypes := #[t, t] })
    (e : TypeId) (z : Value) (ht : P.underlying t = some (.slice e)) (hi : (P.info? e).map (fun i => (i.zero, i.size, i.bytes)) = some (some z, 1, 1))
    (hzs : z.cells.size = 1) (B : Nat)
    (v : Value) (n : Nat) (xs : List Value) (hs : a.eval s = v) (hb : Bl w1 wr) (hB : w1.heap.size ≤ B) (hBr : B ≤ wr.heap.size) (hown : OwnT wr B e v n xs)
    (A : Option Addr) (m c : Nat) (news : List Value) (hx : a.eval x = .slice A m c) (hr : Reads wr 1 A m news) (h1 : ∀ u ∈ news, u.oneCell' = true)
    (h63 : n + m ≤ 1099511627776)
    (h : ∀ v' w', OwnT w' B e v' (n + m) (xs ++ news) → Bl w1 w' → wr.grownBy w' v.ownBlock → wpList P ops Q rest (a.put o.dst v') w') : wpList P ops Q (o :: rest) a wr := by
  refine wpList_plain hgd fun K hK => ?_
  obtain ⟨v', w', hrun, h2, h3⟩ := run_append_T (P := P) wr B t o.type e z ht hi hzs v n xs hown A m c news hr h1 h63 hBr
  have hbl : Bl w1 w' := Below.grown hb h3 (Nat.le_trans hB hBr) (fun k hk => Nat.le_trans hB (hown.lt k hk).1)
  unfold Oper.wp execOp
  simp only [ho, resolve, invoke, builtin, Sem.run_bind, Sem.run_pure, Result.andThen_ok, List.map_toArray, List.map_cons, List.map_nil, hs, hx, hrun]
  exact hK _ _ (h v' w' h2 hbl h3)
theorem wpList_append_T1 {P : Program} {w1 wr : World} {ops : Array Oper} {rest : List Oper} {o : Oper} {a : Act} {Q : Exit → Act → World → Prop} (hgd : o.guard = none) (s x : Operand) (t : TypeId)
    (ho : o.op = .call { callee := .builtin .append, args := #[s, x], argTypes := #[t, t] })
    (e : TypeId) (z : Value) (ht : P.underlying t = some (.slice e)) (hi : (P.info? e).map (fun i => (i.zero, i.size, i.bytes)) = some (some z, 1, 1))
    (hzs : z.cells.size = 1) (B : Nat)
    (v : Value) (n : Nat) (xs : List Value) (hs : a.eval s = v) (u : Value) (hx : a.eval x = .slice (some ⟨wr.heap.size, 0, none⟩) 1 1) (h1 : u.oneCell' = true)
    (hb : Bl w1 wr) (hB : w1.heap.size ≤ B) (hBr : B ≤ wr.heap.size) (hown : OwnT wr B e v n xs)
    (h63 : n + 1 ≤ 1099511627776)
    (h : ∀ v' w', OwnT w' B e v' (n + 1) (xs ++ [u]) → Bl w1 w' → (wr.alloc (.cells #[u] e)).grownBy w' v.ownBlock → wpList P ops Q rest (a.put o.dst v') w') : wpList P ops Q (o :: rest) a (wr.alloc (.cells #[u] e)) :=
  wpList_append_T hgd s x t ho e z ht hi hzs B v n xs hs (hb.alloc _) hB (by simp; omega) (hown.bl ((Bl.refl _).alloc _)) _ 1 1 [u] hx (Reads.lit (Blk.new _ _ _) rfl)
    (fun y hy => by rw [List.mem_singleton.1 hy]; exact h1) h63 h
end Go.Proofs.YtdbnacjdinolcaaGreatDoor
