/- From a statement's row to a walk: fonts and samples that read as data are opened. No condition. -/
import Derived.Test.YtjelhdpcaileiaaGreatDoorS41
import Derived.Test.YtjelhdpcaileiaaGreatDoorS14

namespace Go.Proofs.YtjelhdpcaileiaaGreatDoor
open Go.ChangeShapes Go.WideShapes Go.ChangeAt Go.RowKit Go.Joins

theorem build_list {α : Type} {Q : Nat → α → Prop} : ∀ (n : Nat), (∀ i, i < n → ∃ y, Q i y) → ∃ ys : List α, ys.length = n ∧ ∀ (i : Nat) y, ys[i]? = some y → Q i y
  | 0, _ => ⟨[], rfl, fun i y h => by simp at h⟩
  | n + 1, h => by
    obtain ⟨ys, hl, hy⟩ := build_list n fun i hi => h i (by omega)
    obtain ⟨z, hz⟩ := h n (by omega)
    refine ⟨ys ++ [z], by simp [hl], fun i y hi => ?_⟩
    rcases Nat.lt_or_ge i ys.length with h1 | h1
    · rw [List.getElem?_append_left h1] at hi
      exact hy i y hi
    · have hlt := (List.getElem?_eq_some_iff.1 hi).1
      have e : i = ys.length := by simp at hlt; omega
      subst e
      rw [List.getElem?_append_right (Nat.le_refl _), Nat.sub_self] at hi
      injection hi with hi
      subst hi
      rw [hl]
      exact hz
section
variable {H : Type} {enc : TypeId × Value → H} {P : Program} {w : World} {base : Nat} {spare : Nat → Bool} {held : Bool}
theorem cells_split {a : Addr} {n : Nat} {cs : List Value} (h : w.cells? base a n = some cs) : cs.length = n ∧ ∀ (j : Nat) u, cs[j]? = some u → w.cell? (a.add j) = some u := by
  unfold World.cells? at h
  split at h
  · have key : ∀ (m : Nat) (l : List Nat) (cs : List Value), l = (List.range' m (n - m)) → m ≤ n → l.mapM (fun i => w.cell? (a.add i)) = some cs → cs.length = n - m ∧ ∀ (j : Nat) u, cs[j]? = some u → w.cell? (a.add (m + j)) = some u := by
      intro m l
      induction l generalizing m with
      | nil =>
        intro cs hl hm hc
        simp at hc
        subst hc
        have : n - m = 0 := by
          have := congrArg List.length hl
          simpa using this.symm
        exact ⟨by simp [this], fun j u hj => by simp at hj⟩
      | cons x l ih =>
        intro cs hl hm hc
        have hlt : m < n := by
          have := congrArg List.length hl
          simp at this
          omega
        have e : n - m = (n - (m + 1)) + 1 := by omega
        rw [e, List.range'_succ] at hl
        injection hl with h1 h2
        subst h1
        simp only [List.mapM_cons, Option.bind_eq_bind, Option.bind_eq_some_iff, Option.pure_def, Option.some.injEq] at hc
        obtain ⟨v, hv, vs, hvs, rfl⟩ := hc
        obtain ⟨k1, k2⟩ := ih (x + 1) vs h2 (by omega) hvs
        refine ⟨by simp [k1]; omega, fun j u hj => ?_⟩
        rcases j with _ | j
        · simp at hj
          subst hj
          exact hv
        · have := k2 j u (by simpa using hj)
          rw [show x + (j + 1) = x + 1 + j by omega]
          exact this
    have := key 0 (List.range n) cs (by rw [List.range_eq_range']; rfl) (Nat.zero_le _) h
    simpa using this
  · cases h
theorem rd_cells {t e : TypeId} {fuel : Nat} {a0 : Option Addr} {len cap : Nat} {x : DataW H × List MemPlace} (ht : P.underlying t = some (.slice e)) (h : DataW.trod enc P w base spare held fuel t [.slice a0 len cap] = some x) :
    (a0 = none ∧ len = 0 ∧ cap = 0) ∨ ∃ a n', a0 = some a ∧ len ≤ cap ∧ cap ≤ maxLen ∧ ∀ i, i < len → ∃ cs x', cs.length = P.cellsOf e ∧ (∀ (j : Nat) u, cs[j]? = some u → w.cell? (a.add (i * P.cellsOf e + j)) = some u) ∧ DataW.trod enc P w base spare held n' e cs = some x' := by
  rcases DataW.trod_slice ht h with ⟨hcs, _⟩ | ⟨a, len', cap', elems, rest, n, _, hcs, _, _, hl, hm, hlen, hel, _⟩
  · simp at hcs
    exact .inl hcs
  · simp at hcs
    obtain ⟨rfl, rfl, rfl⟩ := hcs
    refine .inr ⟨a, n, rfl, hl, hm, fun i hi => ?_⟩
    have h1 := hel i hi
    rw [List.getElem?_eq_getElem (by omega)] at h1
    obtain ⟨cs, hcs, htr⟩ := Option.bind_eq_some_iff.1 h1
    obtain ⟨k1, k2⟩ := cells_split hcs
    refine ⟨cs, _, k1, fun j u hj => ?_, htr⟩
    have := k2 j u hj
    rwa [add_of_add] at this
end

section
variable {H : Type} {enc : TypeId × Value → H} {w : World} {base b0 : Nat} {spare : Nat → Bool} {held : Bool} {r : Reach}
theorem cells_str : Tryz.prog.cellsOf 9 = 1 := by kernel_rfl
theorem cells_int : Tryz.prog.cellsOf 3 = 1 := by kernel_rfl
theorem cells_bools : Tryz.prog.cellsOf 26 = 1 := by kernel_rfl
theorem cells_ltrs : Tryz.prog.cellsOf 43 = 1 := by kernel_rfl
theorem cells_bits : Tryz.prog.cellsOf 28 = 3 := by kernel_rfl
theorem cells_ltr : Tryz.prog.cellsOf 122 = 4 := by kernel_rfl
theorem cells_font : Tryz.prog.cellsOf 45 = 5 := by kernel_rfl
set_option maxRecDepth 100000 in
theorem rd_page {fuel : Nat} {cs : List Value} {x : DataW H × List MemPlace} (h : DataW.trod enc Tryz.prog w base spare held fuel 28 cs = some x) : ∃ p : Pg, cs = p.cells ∧ p.bs.length = p.m ∧ Reads w 1 p.A p.m (p.bs.map .bool) := by
  obtain ⟨y0, y1, y2, n, _, hl, h0, h1, h2⟩ := Go.Deep.trod_struct3 Tryz.underlying28 h
  rw [cells_bits] at hl
  match cs, hl with
  | [c0, c1, c2], _ =>
    simp only [cells_int, cells_bools, List.drop_zero, List.drop_succ_cons, List.take_succ_cons, List.take_zero] at h0 h1 h2
    obtain ⟨W, e0, _, w0⟩ := DataW.trod_int Tryz.underlying3 h0
    obtain ⟨Ht, e1, _, w1⟩ := DataW.trod_int Tryz.underlying3 h1
    obtain ⟨A, m, c, rfl⟩ := slice_of_trod Tryz.underlying26 h2
    simp at e0 e1
    subst e0 e1
    obtain ⟨bs, hz, hr, hm⟩ := rd_bools Tryz.underlying26 Tryz.underlying4 (by kernel_rfl) h2
    exact ⟨⟨W, Ht, A, m, c, bs⟩, rfl, hz, hr⟩
set_option maxRecDepth 100000 in
theorem rd_letter {fuel : Nat} {cs : List Value} {x : DataW H × List MemPlace} (h : DataW.trod enc Tryz.prog w base spare held fuel 122 cs = some x) : ∃ l : Ltr, cs = l.cells ∧ l.bs.length = l.m ∧ Reads w 1 l.A l.m (l.bs.map .bool) ∧ l.text.length ≤ 9223372036854775807 := by
  obtain ⟨y0, y1, n, _, hl, h0, h1⟩ := trod_struct2 Tryz.underlying122 h
  rw [cells_ltr] at hl
  match cs, hl with
  | [c0, c1, c2, c3], _ =>
    simp only [cells_str, cells_bits, List.drop_zero, List.drop_succ_cons, List.take_succ_cons, List.take_zero] at h0 h1
    obtain ⟨s, e0, _, w0⟩ := DataW.trod_string Tryz.underlying9 h0
    obtain ⟨p, e1, hb, hr⟩ := rd_page h1
    obtain ⟨t, rfl⟩ := string_mk s
    simp at e0
    subst e0
    unfold Pg.cells at e1
    simp at e1
    obtain ⟨rfl, rfl, rfl⟩ := e1
    exact ⟨⟨t, p.W, p.H, p.A, p.m, p.c, p.bs⟩, rfl, hb, hr, by rw [Lib.size_mk] at w0; exact w0⟩
theorem mod3 (j : Nat) : j = j / 3 * 3 + j % 3 := by omega
theorem mod4 (j : Nat) : j = j / 4 * 4 + j % 4 := by omega
set_option maxRecDepth 100000 in
theorem rd_pages {fuel : Nat} {a0 : Option Addr} {len cap : Nat} {x : DataW H × List MemPlace} (h : DataW.trod enc Tryz.prog w base spare held fuel 34 [.slice a0 len cap] = some x) : ∃ ps : List Pg, ps.length = len ∧ PgsAt w a0 ps ∧ len ≤ 9223372036854775807 ∧ len ≤ cap := by
  rcases rd_cells Tryz.underlying34 h with ⟨rfl, rfl, rfl⟩ | ⟨a, n', rfl, hlc, hcm, hel⟩
  · exact ⟨[], rfl, ⟨⟨rfl, fun h => absurd h (by decide)⟩, fun p hp => by cases hp⟩, by omega, by omega⟩
  · obtain ⟨ps, hl, hps⟩ := build_list (Q := fun i (p : Pg) => (∀ (j : Nat) u, p.cells[j]? = some u → w.cell? (a.add (i * 3 + j)) = some u) ∧ Reads w 1 p.A p.m (p.bs.map .bool)) len (fun i hi => by
      obtain ⟨cs, x', _, hc, ht⟩ := hel i hi
      obtain ⟨p, rfl, _, hr⟩ := rd_page ht
      rw [cells_bits] at hc
      exact ⟨p, hc, hr⟩)
    refine ⟨ps, hl, ⟨⟨pgCells_len ps, fun _ => ⟨a, rfl, fun j u hj => ?_⟩⟩, fun p hp => ?_⟩, by unfold maxLen at hcm; omega, hlc⟩
    · have hlt : j < ps.length * 3 := by rw [← pgCells_len]; exact (List.getElem?_eq_some_iff.1 hj).1
      have hi : j / 3 < ps.length := by omega
      have hg : ps[j / 3]? = some ps[j / 3] := List.getElem?_eq_getElem hi
      rw [mod3 j] at hj ⊢
      rw [pgCells_at hg (j % 3) (Nat.mod_lt _ (by decide))] at hj
      exact (hps _ _ hg).1 _ _ hj
    · obtain ⟨i, hi⟩ := List.getElem?_of_mem hp
      exact (hps i p hi).2
set_option maxRecDepth 100000 in
theorem rd_letters {fuel : Nat} {a0 : Option Addr} {len cap : Nat} {x : DataW H × List MemPlace} (h : DataW.trod enc Tryz.prog w base spare held fuel 43 [.slice a0 len cap] = some x) : ∃ ls : List Ltr, ls.length = len ∧ LtrsAt w a0 ls ∧ len ≤ 9223372036854775807 ∧ len ≤ cap := by
  rcases rd_cells Tryz.underlying43 h with ⟨rfl, rfl, rfl⟩ | ⟨a, n', rfl, hlc, hcm, hel⟩
  · exact ⟨[], rfl, LtrsAt.none _, by omega, by omega⟩
  · obtain ⟨ls, hl, hls⟩ := build_list (Q := fun i (l : Ltr) => (∀ (j : Nat) u, l.cells[j]? = some u → w.cell? (a.add (i * 4 + j)) = some u) ∧ Reads w 1 l.A l.m (l.bs.map .bool) ∧ l.text.length ≤ 9223372036854775807) len (fun i hi => by
      obtain ⟨cs, x', _, hc, ht⟩ := hel i hi
      obtain ⟨l, rfl, _, hr, hx⟩ := rd_letter ht
      rw [cells_ltr] at hc
      exact ⟨l, hc, hr, hx⟩)
    refine ⟨ls, hl, ⟨⟨ltrCells_len ls, fun _ => ⟨a, rfl, fun j u hj => ?_⟩⟩, fun l hp => ?_⟩, by unfold maxLen at hcm; omega, hlc⟩
    · have hlt : j < ls.length * 4 := by rw [← ltrCells_len]; exact (List.getElem?_eq_some_iff.1 hj).1
      have hi : j / 4 < ls.length := by omega
      have hg : ls[j / 4]? = some ls[j / 4] := List.getElem?_eq_getElem hi
      rw [mod4 j] at hj ⊢
      rw [ltrCells_at hg (j % 4) (Nat.mod_lt _ (by decide))] at hj
      exact (hls _ _ hg).1 _ _ hj
    · obtain ⟨i, hi⟩ := List.getElem?_of_mem hp
      exact (hls i l hi).2
theorem array5 {α : Type} {cs : Array α} (h : cs.size = 5) : ∃ c0 c1 c2 c3 c4, cs = #[c0, c1, c2, c3, c4] := by
  obtain ⟨l⟩ := cs
  match l, h with
  | [c0, c1, c2, c3, c4], _ => exact ⟨c0, c1, c2, c3, c4, rfl⟩
set_option maxRecDepth 100000 in
theorem open_font {v : Value} {d : DataW H} {p : List MemPlace} (hv : Value.okWide Tryz.prog w r b0 45 v) (h : DataW.Trod enc Tryz.prog w base spare held 45 v d p) :
    ∃ (nm : List UInt8) (ht gap sp : Int) (L : Option Addr) (c : Nat) (ls : List Ltr), v = .agg #[.string ⟨nm.toArray⟩, .int .i64 ht, .int .i64 gap, .int .i64 sp, .slice L ls.length c] ∧ LtrsAt w L ls ∧ nm.length ≤ 9223372036854775807 ∧ ls.length ≤ 9223372036854775807 ∧ ls.length ≤ c := by
  obtain ⟨cs, rfl, hsz⟩ := okWide_struct Tryz.underlying45 hv
  obtain ⟨c0, c1, c2, c3, c4, rfl⟩ := array5 (hsz.trans cells_font)
  obtain ⟨fuel, hf⟩ := h
  obtain ⟨xs, n, _, _, _, hlen, hfs⟩ := DataW.trod_struct Tryz.underlying45 hf
  match xs, hlen with
  | [y0, y1, y2, y3, y4], _ =>
    have h0 := hfs 0 _ rfl
    have h1 := hfs 1 _ rfl
    have h2 := hfs 2 _ rfl
    have h3 := hfs 3 _ rfl
    have h4 := hfs 4 _ rfl
    simp only [Value.cells, List.getElem?_cons_zero, List.getElem?_cons_succ] at h0 h1 h2 h3 h4
    obtain ⟨s, e0, _, w0⟩ := DataW.trod_string Tryz.underlying9 h0
    obtain ⟨a, e1, _, _⟩ := DataW.trod_int Tryz.underlying3 h1
    obtain ⟨b, e2, _, _⟩ := DataW.trod_int Tryz.underlying3 h2
    obtain ⟨c, e3, _, _⟩ := DataW.trod_int Tryz.underlying3 h3
    obtain ⟨A, m, cc, rfl⟩ := slice_of_trod Tryz.underlying43 h4
    obtain ⟨t, rfl⟩ := string_mk s
    simp [cells_str, cells_int] at e0 e1 e2 e3
    subst e0 e1 e2 e3
    obtain ⟨ls, rfl, hL, hn, hc⟩ := rd_letters h4
    exact ⟨t, a, b, c, A, cc, ls, rfl, hL, by rw [Lib.size_mk] at w0; exact w0, hn, hc⟩
set_option maxRecDepth 100000 in
theorem open_pages {v : Value} {d : DataW H} {p : List MemPlace} (hv : Value.okWide Tryz.prog w r b0 34 v) (h : DataW.Trod enc Tryz.prog w base spare held 34 v d p) :
    ∃ (S : Option Addr) (c : Nat) (ps : List Pg), v = .slice S ps.length c ∧ PgsAt w S ps ∧ ps.length ≤ 9223372036854775807 := by
  obtain ⟨A, n, c, rfl⟩ := okWide_slice Tryz.underlying34 hv
  obtain ⟨fuel, hf⟩ := h
  obtain ⟨ps, rfl, hS, hn, _⟩ := rd_pages hf
  exact ⟨A, c, ps, rfl, hS, hn⟩
end

end Go.Proofs.YtjelhdpcaileiaaGreatDoor
