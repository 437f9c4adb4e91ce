/- From a statement's row to a walk: how long the texts of a form's rules are by the data's bulk; lists of forms, and values, are opened. No condition. -/
import Derived.Test.YtahfkahfaiidgaaGreatDoorMClaimForms18
import Derived.Test.YtahfkahfaiidgaaGreatDoorMClaimForms19

namespace Go.Proofs.YtahfkahfaiidgaaGreatDoor
open Go.ChangeShapes Go.WideShapes Go.ChangeAt Go.RowKit Go.Joins

section
variable {H : Type} {enc : TypeId × Value → H} {P : Program} {w : World} {base : Nat} {spare : Nat → Bool} {held : Bool}
/-- A slice of structs, by what is known of one. -/
theorem rd_list {α : Type} (f : α → List Value) (k : Nat) (hf : ∀ a, (f a).length = k) (Q : α → Prop) {t e : TypeId} (ht : P.underlying t = some (.slice e)) (hk : P.cellsOf e = k) {fuel : Nat} {a0 : Option Addr} {len cap : Nat} {x : DataW H × List MemPlace}
    (hel : ∀ n' cs x', DataW.trod enc P w base spare held n' e cs = some x' → ∃ a, cs = f a ∧ Q a) (h : DataW.trod enc P w base spare held fuel t [.slice a0 len cap] = some x) :
    ∃ l : List α, l.length = len ∧ Reads w k a0 len (l.flatMap f) ∧ (∀ a ∈ l, Q a) ∧ len ≤ 9223372036854775807 ∧ len ≤ cap := by
  rcases rd_cells ht h with ⟨rfl, rfl, rfl⟩ | ⟨a, n', rfl, hlc, hcm, hel'⟩
  · exact ⟨[], rfl, ⟨by simp, fun h => absurd h (by decide)⟩, (fun p hp => by cases hp), by omega, by omega⟩
  · obtain ⟨l, hl, hls⟩ := build_list (Q := fun i (b : α) => (∀ (j : Nat) u, (f b)[j]? = some u → w.cell? (a.add (i * k + j)) = some u) ∧ Q b) len (fun i hi => by
      obtain ⟨cs, x', _, hc, htr⟩ := hel' i hi
      obtain ⟨b, rfl, hq⟩ := hel _ _ _ htr
      rw [hk] at hc
      exact ⟨b, hc, hq⟩)
    refine ⟨l, hl, ⟨by rw [flat_len f k hf, hl], fun _ => ⟨a, rfl, fun j u hj => ?_⟩⟩, fun b hb => ?_, by unfold maxLen at hcm; omega, hlc⟩
    · have hlt : j < l.length * k := by rw [← flat_len f k hf]; exact (List.getElem?_eq_some_iff.1 hj).1
      have hk0 : 0 < k := by
        rcases Nat.eq_zero_or_pos k with h0 | h0
        · rw [h0] at hlt; omega
        · exact h0
      have hi : j / k < l.length := (Nat.div_lt_iff_lt_mul hk0).2 hlt
      have hg : l[j / k]? = some l[j / k] := List.getElem?_eq_getElem hi
      have em : j = j / k * k + j % k := by rw [Nat.mul_comm]; exact (Nat.div_add_mod j k).symm
      rw [em] at hj ⊢
      rw [flat_at f k hf hg (j % k) (Nat.mod_lt _ hk0)] at hj
      exact (hls _ _ hg).1 _ _ hj
    · obtain ⟨i, hi⟩ := List.getElem?_of_mem hb
      exact (hls i b hi).2
end
section
variable {H : Type} {enc : TypeId × Value → H} {w : World} {base b0 : Nat} {spare : Nat → Bool} {held : Bool} {r : Reach}
theorem cells_bool : Tryz.prog.cellsOf 4 = 1 := by kernel_rfl
theorem cells_box : Tryz.prog.cellsOf 79 = 4 := by kernel_rfl
theorem cells_boxes : Tryz.prog.cellsOf 80 = 1 := by kernel_rfl
theorem cells_anc : Tryz.prog.cellsOf 60 = 5 := by kernel_rfl
theorem cells_ancs : Tryz.prog.cellsOf 22 = 1 := by kernel_rfl
theorem cells_fld : Tryz.prog.cellsOf 82 = 9 := by kernel_rfl
theorem cells_flds : Tryz.prog.cellsOf 23 = 1 := by kernel_rfl
theorem cells_rul : Tryz.prog.cellsOf 76 = 4 := by kernel_rfl
theorem cells_ruls : Tryz.prog.cellsOf 24 = 1 := by kernel_rfl
theorem cells_form : Tryz.prog.cellsOf 26 = 8 := by kernel_rfl
set_option maxRecDepth 100000 in
theorem rd_box {fuel : Nat} {cs : List Value} {x : DataW H × List MemPlace} (h : DataW.trod enc Tryz.prog w base spare held fuel 79 cs = some x) : ∃ b : Bx, cs = b.cells := by
  obtain ⟨xs, n, _, _, hl, hlen, hfs⟩ := DataW.trod_struct Tryz.underlying79 h
  rw [cells_box] at hl
  match cs, hl, xs, hlen with
  | [c0, c1, c2, c3], _, [y0, y1, y2, y3], _ =>
    have h0 : DataW.trod enc Tryz.prog w base spare held n 3 ((List.drop 0 [c0, c1, c2, c3]).take (Tryz.prog.cellsOf 3)) = some y0 := hfs 0 _ rfl
    have h1 : DataW.trod enc Tryz.prog w base spare held n 3 ((List.drop 1 [c0, c1, c2, c3]).take (Tryz.prog.cellsOf 3)) = some y1 := hfs 1 _ rfl
    have h2 : DataW.trod enc Tryz.prog w base spare held n 3 ((List.drop 2 [c0, c1, c2, c3]).take (Tryz.prog.cellsOf 3)) = some y2 := hfs 2 _ rfl
    have h3 : DataW.trod enc Tryz.prog w base spare held n 3 ((List.drop 3 [c0, c1, c2, c3]).take (Tryz.prog.cellsOf 3)) = some y3 := hfs 3 _ rfl
    simp only [cells_int, List.drop_zero, List.drop_succ_cons, List.take_succ_cons, List.take_zero] at h0 h1 h2 h3
    obtain ⟨a, e0, _, _⟩ := DataW.trod_int Tryz.underlying3 h0
    obtain ⟨b, e1, _, _⟩ := DataW.trod_int Tryz.underlying3 h1
    obtain ⟨c, e2, _, _⟩ := DataW.trod_int Tryz.underlying3 h2
    obtain ⟨d, e3, _, _⟩ := DataW.trod_int Tryz.underlying3 h3
    simp at e0 e1 e2 e3
    subst e0 e1 e2 e3
    exact ⟨⟨a, b, c, d⟩, rfl⟩
set_option maxRecDepth 100000 in
theorem rd_anchor {fuel : Nat} {cs : List Value} {x : DataW H × List MemPlace} (h : DataW.trod enc Tryz.prog w base spare held fuel 60 cs = some x) : ∃ a : Anc, cs = a.cells ∧ Reads w 1 a.A a.m (a.bs.map .bool) := by
  obtain ⟨xs, n, _, _, hl, hlen, hfs⟩ := DataW.trod_struct Tryz.underlying60 h
  rw [cells_anc] at hl
  match cs, hl, xs, hlen with
  | [c0, c1, c2, c3, c4], _, [y0, y1, y2], _ =>
    have h0 : DataW.trod enc Tryz.prog w base spare held n 42 ((List.drop 0 [c0, c1, c2, c3, c4]).take (Tryz.prog.cellsOf 42)) = some y0 := hfs 0 _ rfl
    have h1 : DataW.trod enc Tryz.prog w base spare held n 3 ((List.drop 3 [c0, c1, c2, c3, c4]).take (Tryz.prog.cellsOf 3)) = some y1 := hfs 1 _ rfl
    have h2 : DataW.trod enc Tryz.prog w base spare held n 3 ((List.drop 4 [c0, c1, c2, c3, c4]).take (Tryz.prog.cellsOf 3)) = some y2 := hfs 2 _ rfl
    simp only [cells_int, cells_bits, List.drop_zero, List.drop_succ_cons, List.take_succ_cons, List.take_zero] at h0 h1 h2
    obtain ⟨p, e0, _, hr⟩ := rd_page h0
    obtain ⟨b, e1, _, _⟩ := DataW.trod_int Tryz.underlying3 h1
    obtain ⟨c, e2, _, _⟩ := DataW.trod_int Tryz.underlying3 h2
    unfold Pg.cells at e0
    simp at e0 e1 e2
    obtain ⟨rfl, rfl, rfl⟩ := e0
    subst e1 e2
    exact ⟨⟨p.W, p.H, p.A, p.m, p.c, p.bs, b, c⟩, rfl, hr⟩
set_option maxRecDepth 100000 in
theorem rd_field {fuel : Nat} {cs : List Value} {x : DataW H × List MemPlace} (h : DataW.trod enc Tryz.prog w base spare held fuel 82 cs = some x) : ∃ f : Fld, cs = f.cells ∧ (BxsAt w f.M f.marks ∧ f.marks.length ≤ f.mc ∧ f.marks.length ≤ 9223372036854775807 ∧ f.name.length ≤ 9223372036854775807) := by
  obtain ⟨xs, n, _, _, hl, hlen, hfs⟩ := DataW.trod_struct Tryz.underlying82 h
  rw [cells_fld] at hl
  match cs, hl, xs, hlen with
  | [c0, c1, c2, c3, c4, c5, c6, c7, c8], _, [y0, y1, y2, y3, y4, y5], _ =>
    have h0 : DataW.trod enc Tryz.prog w base spare held n 9 ((List.drop 0 [c0, c1, c2, c3, c4, c5, c6, c7, c8]).take (Tryz.prog.cellsOf 9)) = some y0 := hfs 0 _ rfl
    have h1 : DataW.trod enc Tryz.prog w base spare held n 3 ((List.drop 1 [c0, c1, c2, c3, c4, c5, c6, c7, c8]).take (Tryz.prog.cellsOf 3)) = some y1 := hfs 1 _ rfl
    have h2 : DataW.trod enc Tryz.prog w base spare held n 79 ((List.drop 2 [c0, c1, c2, c3, c4, c5, c6, c7, c8]).take (Tryz.prog.cellsOf 79)) = some y2 := hfs 2 _ rfl
    have h3 : DataW.trod enc Tryz.prog w base spare held n 80 ((List.drop 6 [c0, c1, c2, c3, c4, c5, c6, c7, c8]).take (Tryz.prog.cellsOf 80)) = some y3 := hfs 3 _ rfl
    have h4 : DataW.trod enc Tryz.prog w base spare held n 3 ((List.drop 7 [c0, c1, c2, c3, c4, c5, c6, c7, c8]).take (Tryz.prog.cellsOf 3)) = some y4 := hfs 4 _ rfl
    have h5 : DataW.trod enc Tryz.prog w base spare held n 4 ((List.drop 8 [c0, c1, c2, c3, c4, c5, c6, c7, c8]).take (Tryz.prog.cellsOf 4)) = some y5 := hfs 5 _ rfl
    simp only [cells_int, cells_str, cells_box, cells_boxes, cells_bool, List.drop_zero, List.drop_succ_cons, List.take_succ_cons, List.take_zero] at h0 h1 h2 h3 h4 h5
    obtain ⟨s, e0, _, w0⟩ := DataW.trod_string Tryz.underlying9 h0
    obtain ⟨k, e1, _, _⟩ := DataW.trod_int Tryz.underlying3 h1
    obtain ⟨b, e2⟩ := rd_box h2
    obtain ⟨A, m, cc, rfl⟩ := slice_of_trod Tryz.underlying80 h3
    obtain ⟨mo, e4, _, _⟩ := DataW.trod_int Tryz.underlying3 h4
    obtain ⟨nd, e5, _⟩ := DataW.trod_bool Tryz.underlying4 h5
    obtain ⟨t, rfl⟩ := string_mk s
    unfold Bx.cells at e2
    simp at e0 e1 e2 e4 e5
    obtain ⟨rfl, rfl, rfl, rfl⟩ := e2
    subst e0 e1 e4 e5
    obtain ⟨l, rfl, hr, -, hn, hc⟩ := rd_list Bx.cells 4 (fun _ => rfl) (fun _ => True) Tryz.underlying80 cells_box (fun n' cs x' h => by obtain ⟨b, e⟩ := rd_box h; exact ⟨b, e, trivial⟩) h3
    exact ⟨⟨t, k, b, A, cc, l, mo, nd⟩, rfl, hr, hc, hn, by rw [Lib.size_mk] at w0; exact w0⟩
set_option maxRecDepth 100000 in
theorem rd_rule {fuel : Nat} {cs : List Value} {x : DataW H × List MemPlace} (h : DataW.trod enc Tryz.prog w base spare held fuel 76 cs = some x) : ∃ r : Rul, cs = r.cells ∧ (r.field.length ≤ 9223372036854775807 ∧ r.other.length ≤ 9223372036854775807 ∧ r.text.length ≤ 9223372036854775807) := by
  obtain ⟨xs, n, _, _, hl, hlen, hfs⟩ := DataW.trod_struct Tryz.underlying76 h
  rw [cells_rul] at hl
  match cs, hl, xs, hlen with
  | [c0, c1, c2, c3], _, [y0, y1, y2, y3], _ =>
    have h0 : DataW.trod enc Tryz.prog w base spare held n 3 ((List.drop 0 [c0, c1, c2, c3]).take (Tryz.prog.cellsOf 3)) = some y0 := hfs 0 _ rfl
    have h1 : DataW.trod enc Tryz.prog w base spare held n 9 ((List.drop 1 [c0, c1, c2, c3]).take (Tryz.prog.cellsOf 9)) = some y1 := hfs 1 _ rfl
    have h2 : DataW.trod enc Tryz.prog w base spare held n 9 ((List.drop 2 [c0, c1, c2, c3]).take (Tryz.prog.cellsOf 9)) = some y2 := hfs 2 _ rfl
    have h3 : DataW.trod enc Tryz.prog w base spare held n 9 ((List.drop 3 [c0, c1, c2, c3]).take (Tryz.prog.cellsOf 9)) = some y3 := hfs 3 _ rfl
    simp only [cells_int, cells_str, List.drop_zero, List.drop_succ_cons, List.take_succ_cons, List.take_zero] at h0 h1 h2 h3
    obtain ⟨k, e0, _, _⟩ := DataW.trod_int Tryz.underlying3 h0
    obtain ⟨s1, e1, _, w1⟩ := DataW.trod_string Tryz.underlying9 h1
    obtain ⟨s2, e2, _, w2⟩ := DataW.trod_string Tryz.underlying9 h2
    obtain ⟨s3, e3, _, w3⟩ := DataW.trod_string Tryz.underlying9 h3
    obtain ⟨t1, rfl⟩ := string_mk s1
    obtain ⟨t2, rfl⟩ := string_mk s2
    obtain ⟨t3, rfl⟩ := string_mk s3
    simp at e0 e1 e2 e3
    subst e0 e1 e2 e3
    rw [Lib.size_mk] at w1 w2 w3
    exact ⟨⟨k, t1, t2, t3⟩, rfl, w1, w2, w3⟩
set_option maxRecDepth 100000 in
theorem rd_form {fuel : Nat} {cs : List Value} {x : DataW H × List MemPlace} (h : DataW.trod enc Tryz.prog w base spare held fuel 26 cs = some x) : ∃ f : Frm, cs = f.cells ∧ FrmAt w f := by
  obtain ⟨xs, n, _, _, hl, hlen, hfs⟩ := DataW.trod_struct Tryz.underlying26 h
  rw [cells_form] at hl
  match cs, hl, xs, hlen with
  | [c0, c1, c2, c3, c4, c5, c6, c7], _, [y0, y1, y2, y3, y4, y5, y6, y7], _ =>
    have h0 : DataW.trod enc Tryz.prog w base spare held n 9 ((List.drop 0 [c0, c1, c2, c3, c4, c5, c6, c7]).take (Tryz.prog.cellsOf 9)) = some y0 := hfs 0 _ rfl
    have h1 : DataW.trod enc Tryz.prog w base spare held n 3 ((List.drop 1 [c0, c1, c2, c3, c4, c5, c6, c7]).take (Tryz.prog.cellsOf 3)) = some y1 := hfs 1 _ rfl
    have h2 : DataW.trod enc Tryz.prog w base spare held n 3 ((List.drop 2 [c0, c1, c2, c3, c4, c5, c6, c7]).take (Tryz.prog.cellsOf 3)) = some y2 := hfs 2 _ rfl
    have h3 : DataW.trod enc Tryz.prog w base spare held n 3 ((List.drop 3 [c0, c1, c2, c3, c4, c5, c6, c7]).take (Tryz.prog.cellsOf 3)) = some y3 := hfs 3 _ rfl
    have h4 : DataW.trod enc Tryz.prog w base spare held n 3 ((List.drop 4 [c0, c1, c2, c3, c4, c5, c6, c7]).take (Tryz.prog.cellsOf 3)) = some y4 := hfs 4 _ rfl
    have h5 : DataW.trod enc Tryz.prog w base spare held n 22 ((List.drop 5 [c0, c1, c2, c3, c4, c5, c6, c7]).take (Tryz.prog.cellsOf 22)) = some y5 := hfs 5 _ rfl
    have h6 : DataW.trod enc Tryz.prog w base spare held n 23 ((List.drop 6 [c0, c1, c2, c3, c4, c5, c6, c7]).take (Tryz.prog.cellsOf 23)) = some y6 := hfs 6 _ rfl
    have h7 : DataW.trod enc Tryz.prog w base spare held n 24 ((List.drop 7 [c0, c1, c2, c3, c4, c5, c6, c7]).take (Tryz.prog.cellsOf 24)) = some y7 := hfs 7 _ rfl
    simp only [cells_int, cells_str, cells_ancs, cells_flds, cells_ruls, List.drop_zero, List.drop_succ_cons, List.take_succ_cons, List.take_zero] at h0 h1 h2 h3 h4 h5 h6 h7
    obtain ⟨s, e0, _, w0⟩ := DataW.trod_string Tryz.underlying9 h0
    obtain ⟨a, e1, _, _⟩ := DataW.trod_int Tryz.underlying3 h1
    obtain ⟨b, e2, _, _⟩ := DataW.trod_int Tryz.underlying3 h2
    obtain ⟨c, e3, _, _⟩ := DataW.trod_int Tryz.underlying3 h3
    obtain ⟨d, e4, _, _⟩ := DataW.trod_int Tryz.underlying3 h4
    obtain ⟨A1, m1, q1, rfl⟩ := slice_of_trod Tryz.underlying22 h5
    obtain ⟨A2, m2, q2, rfl⟩ := slice_of_trod Tryz.underlying23 h6
    obtain ⟨A3, m3, q3, rfl⟩ := slice_of_trod Tryz.underlying24 h7
    obtain ⟨t, rfl⟩ := string_mk s
    simp at e0 e1 e2 e3 e4
    subst e0 e1 e2 e3 e4
    obtain ⟨l1, rfl, hr1, hq1, hn1, hc1⟩ := rd_list Anc.cells 5 (fun _ => rfl) (fun a => Reads w 1 a.A a.m (a.bs.map .bool)) Tryz.underlying22 cells_anc (fun n' cs x' h => rd_anchor h) h5
    obtain ⟨l2, rfl, hr2, hq2, hn2, hc2⟩ := rd_list Fld.cells 9 (fun _ => rfl) (fun f => BxsAt w f.M f.marks ∧ f.marks.length ≤ f.mc ∧ f.marks.length ≤ 9223372036854775807 ∧ f.name.length ≤ 9223372036854775807) Tryz.underlying23 cells_fld (fun n' cs x' h => rd_field h) h6
    obtain ⟨l3, rfl, hr3, hq3, hn3, hc3⟩ := rd_list Rul.cells 4 (fun _ => rfl) (fun r => r.field.length ≤ 9223372036854775807 ∧ r.other.length ≤ 9223372036854775807 ∧ r.text.length ≤ 9223372036854775807) Tryz.underlying24 cells_rul (fun n' cs x' h => rd_rule h) h7
    exact ⟨⟨t, a, b, c, d, A1, q1, l1, A2, q2, l2, A3, q3, l3⟩, rfl, ⟨⟨hr1, hq1⟩, ⟨hr2, hq2⟩, ⟨hr3, hq3⟩, by rw [Lib.size_mk] at w0; exact w0, ⟨hc1, hn1⟩, ⟨hc2, hn2⟩, ⟨hc3, hn3⟩⟩⟩
end
end Go.Proofs.YtahfkahfaiidgaaGreatDoor


/-! From a statement's row to a walk: how long the texts of a form's rules are by the data's bulk; lists of forms, and values, are opened. No condition. -/
namespace Go.Proofs.YtahfkahfaiidgaaGreatDoor
open Go.ChangeShapes Go.WideShapes Go.ChangeAt Go.RowKit Go.Joins

section
variable {H : Type} {enc : TypeId × Value → H} {P : Program} {w : World} {base b0 : Nat} {spare : Nat → Bool} {held : Bool} {r : Reach}
theorem bulk_mem {d : DataW H} {l : List (DataW H)} (h : d ∈ l) : Rows.uptoBulk d ≤ Rows.uptoBulkAll l := by
  induction l with
  | nil => cases h
  | cons x r ih =>
    simp only [Rows.uptoBulkAll]
    cases List.mem_cons.1 h with
    | inl e => subst e; omega
    | inr e => have := ih e; omega
theorem bulk_agg {x : DataW H} {l : List (DataW H × List MemPlace)} {y : DataW H × List MemPlace} (hx : x = .agg (l.map (·.1))) (hy : y ∈ l) : Rows.uptoBulk y.1 ≤ Rows.uptoBulk x := by
  have h := bulk_mem (List.mem_map_of_mem (f := (·.1)) hy)
  subst hx
  simp only [Rows.uptoBulk]
  omega
/-- The cells of one element are those that lie there. -/
theorem cells_same {α : Type} (f : α → List Value) (k : Nat) (hf : ∀ a, (f a).length = k) {A : Addr} {l : List α} {i : Nat} {a : α} {cs : List Value} (hr : Reads w k (some A) l.length (l.flatMap f)) (hi : l[i]? = some a) (hc : w.cells? base (A.add (i * k)) k = some cs) : cs = f a := by
  obtain ⟨ad, e, key⟩ := reads_flat f k hf hr hi
  obtain rfl := Option.some.inj e
  obtain ⟨k1, k2⟩ := cells_split hc
  refine List.ext_getElem? fun j => ?_
  rcases Nat.lt_or_ge j k with hj | hj
  · have h1 : cs[j]? = some cs[j] := List.getElem?_eq_getElem (by omega)
    have h2 : (f a)[j]? = some ((f a)[j]'(by rw [hf]; exact hj)) := List.getElem?_eq_getElem _
    have e1 := k2 j _ h1
    have e2 := key j _ hj h2
    rw [e1] at e2
    rw [h1, h2, e2]
  · rw [List.getElem?_eq_none (by omega), List.getElem?_eq_none (by rw [hf]; exact hj)]
/-- What is true of the bulk of each element is true of the slice's. -/
theorem slice_bulk {α : Type} (f : α → List Value) (k : Nat) (hf : ∀ a, (f a).length = k) (Q : α → Nat → Prop) (hm : ∀ a m n, m ≤ n → Q a m → Q a n) {t e : TypeId} (ht : P.underlying t = some (.slice e)) (hk : P.cellsOf e = k) {fuel : Nat} {A : Option Addr} {l : List α} {c : Nat} {x : DataW H × List MemPlace}
    (hel : ∀ a ∈ l, ∀ n' x', DataW.trod enc P w base spare held n' e (f a) = some x' → Q a (Rows.uptoBulk x'.1)) (h : DataW.trod enc P w base spare held fuel t [.slice A l.length c] = some x) (hr : Reads w k A l.length (l.flatMap f)) : ∀ a ∈ l, Q a (Rows.uptoBulk x.1) := by
  rcases DataW.trod_slice ht h with ⟨hcs, _⟩ | ⟨a, len', cap', elems, rest, n, _, hcs, hx, _, hl, hmx, hlen, hee, _⟩
  · simp only [List.cons.injEq, Value.slice.injEq, and_true] at hcs
    have : l = [] := List.eq_nil_of_length_eq_zero hcs.2.1
    intro a ha
    rw [this] at ha
    cases ha
  · simp only [List.cons.injEq, Value.slice.injEq, and_true] at hcs
    obtain ⟨rfl, rfl, rfl⟩ := hcs
    intro b hb
    obtain ⟨i, hi⟩ := List.getElem?_of_mem hb
    have hlt := (List.getElem?_eq_some_iff.1 hi).1
    have h1 := hee i hlt
    rw [List.getElem?_eq_getElem (by omega)] at h1
    obtain ⟨cs, hcs, htr⟩ := Option.bind_eq_some_iff.1 h1
    rw [hk] at hcs
    obtain rfl := cells_same f k hf hr hi hcs
    refine hm b _ _ ?_ (hel b hb _ _ htr)
    have h2 := bulk_mem (List.mem_map_of_mem (f := (·.1)) (List.getElem_mem (l := elems) (n := i) (by omega)))
    rw [hx]
    simp only [Rows.uptoBulk]
    omega
end
section
variable {H : Type} {enc : TypeId × Value → H} {w : World} {base b0 : Nat} {spare : Nat → Bool} {held : Bool} {r : Reach}
set_option maxRecDepth 100000 in
theorem rule_bulk {fuel : Nat} {r : Rul} {x : DataW H × List MemPlace} (h : DataW.trod enc Tryz.prog w base spare held fuel 76 r.cells = some x) : r.text.length ≤ Rows.uptoBulk x.1 := by
  obtain ⟨xs, n, _, hx, hl, hlen, hfs⟩ := DataW.trod_struct Tryz.underlying76 h
  have h3 : DataW.trod enc Tryz.prog w base spare held n 9 ((r.cells.drop 3).take (Tryz.prog.cellsOf 9)) = xs[3]? := hfs 3 _ rfl
  match xs, hlen with
  | [y0, y1, y2, y3], _ =>
    unfold Rul.cells at h3
    simp only [cells_str, List.drop_zero, List.drop_succ_cons, List.take_succ_cons, List.take_zero, List.getElem?_cons_zero, List.getElem?_cons_succ] at h3
    obtain ⟨s, e0, e1, w0⟩ := DataW.trod_string Tryz.underlying9 h3
    have hb := bulk_agg (x := x.1) (l := [y0, y1, y2, y3]) (y := y3) (by rw [hx]) (by simp)
    simp only [List.cons.injEq, and_true, Value.string.injEq] at e0
    subst e0
    rw [e1] at hb
    simp only [Rows.uptoBulk] at hb
    omega
set_option maxRecDepth 100000 in
theorem form_bulk {fuel : Nat} {f : Frm} {x : DataW H × List MemPlace} (h : DataW.trod enc Tryz.prog w base spare held fuel 26 f.cells = some x) (hF : FrmAt w f) : ∀ r ∈ f.lr, r.text.length ≤ Rows.uptoBulk x.1 := by
  obtain ⟨xs, n, _, hx, hl, hlen, hfs⟩ := DataW.trod_struct Tryz.underlying26 h
  have h7 : DataW.trod enc Tryz.prog w base spare held n 24 ((f.cells.drop 7).take (Tryz.prog.cellsOf 24)) = xs[7]? := hfs 7 _ rfl
  match xs, hlen with
  | [y0, y1, y2, y3, y4, y5, y6, y7], _ =>
    unfold Frm.cells at h7
    simp only [cells_ruls, List.drop_zero, List.drop_succ_cons, List.take_succ_cons, List.take_zero, List.getElem?_cons_zero, List.getElem?_cons_succ] at h7
    have hb := bulk_agg (x := x.1) (l := [y0, y1, y2, y3, y4, y5, y6, y7]) (y := y7) (by rw [hx]) (by simp)
    intro r hr
    have := slice_bulk Rul.cells 4 (fun _ => rfl) (fun a k => a.text.length ≤ k) (fun a m n h1 h2 => Nat.le_trans h2 h1) Tryz.underlying24 cells_rul (fun a _ n' x' h' => rule_bulk h') h7 hF.ruls.1 r hr
    omega
set_option maxRecDepth 100000 in
theorem open_formU {v : Value} {d : DataW H} {p : List MemPlace} (hv : Value.okWide Tryz.prog w r b0 26 v) (h : DataW.Trod enc Tryz.prog w base spare held 26 v d p) : ∃ f : Frm, v = f.val ∧ FrmAt w f ∧ f.small (Rows.uptoBulk d) := by
  obtain ⟨cs, rfl, hsz⟩ := okWide_struct Tryz.underlying26 hv
  obtain ⟨fuel, hf⟩ := h
  obtain ⟨f, e, hF⟩ := rd_form hf
  rw [e] at hf
  refine ⟨f, ?_, hF, form_bulk hf hF⟩
  have e2 : cs = f.cells.toArray := by
    have : (Value.agg cs).cells.toList = cs.toList := rfl
    rw [this] at e
    rw [← e]
  rw [e2]
  rfl
/-! ### lists of forms -/
def FrmsAt (w : World) (L : Option Addr) (l : List Frm) : Prop := Reads w 8 L l.length (l.flatMap Frm.cells) ∧ ∀ f ∈ l, FrmAt w f
theorem FrmsAt.bl {w w' : World} {L : Option Addr} {l : List Frm} (h : FrmsAt w L l) (hb : Bl w w') : FrmsAt w' L l := ⟨h.1.bl hb, fun f hf => (h.2 f hf).bl hb⟩
theorem FrmsAt.at_ {w : World} {L : Option Addr} {l : List Frm} {i : Nat} {f : Frm} (h : FrmsAt w L l) (hi : l[i]? = some f) : ∃ ad, L = some ad ∧ w.cell? (ad.add (i * 8)) = some (.string ⟨f.name.toArray⟩) ∧ w.cell? ⟨(ad.add (i * 8)).block, (ad.add (i * 8)).off + 1, none⟩ = some (.int .i64 f.W) ∧
    w.cell? ⟨(ad.add (i * 8)).block, (ad.add (i * 8)).off + 2, none⟩ = some (.int .i64 f.H) ∧ w.cell? ⟨(ad.add (i * 8)).block, (ad.add (i * 8)).off + 3, none⟩ = some (.int .i64 f.reach) ∧ w.cell? ⟨(ad.add (i * 8)).block, (ad.add (i * 8)).off + 4, none⟩ = some (.int .i64 f.dark) ∧
    w.cell? ⟨(ad.add (i * 8)).block, (ad.add (i * 8)).off + 5, none⟩ = some (.slice f.AL f.la.length f.ac) ∧ w.cell? ⟨(ad.add (i * 8)).block, (ad.add (i * 8)).off + 6, none⟩ = some (.slice f.FL f.lf.length f.fc) ∧ w.cell? ⟨(ad.add (i * 8)).block, (ad.add (i * 8)).off + 7, none⟩ = some (.slice f.RL f.lr.length f.rc) := by
  obtain ⟨ad, e, key⟩ := reads_flat Frm.cells 8 (fun _ => rfl) h.1 hi
  have k0 := key 0 _ (by omega) rfl
  have k1 := key 1 _ (by omega) rfl
  have k2 := key 2 _ (by omega) rfl
  have k3 := key 3 _ (by omega) rfl
  have k4 := key 4 _ (by omega) rfl
  have k5 := key 5 _ (by omega) rfl
  have k6 := key 6 _ (by omega) rfl
  have k7 := key 7 _ (by omega) rfl
  rw [Addr.add_zero'] at k0
  rw [Addr.add_succ'] at k1 k2 k3 k4 k5 k6 k7
  exact ⟨ad, e, k0, k1, k2, k3, k4, k5, k6, k7⟩
end
end Go.Proofs.YtahfkahfaiidgaaGreatDoor
