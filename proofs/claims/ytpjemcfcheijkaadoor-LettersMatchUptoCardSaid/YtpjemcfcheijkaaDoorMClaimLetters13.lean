/- bar.Runs and bedref2.RunsOf. -/
import Derived.Test.YtpjemcfcheijkaaDoorMClaimLetters3
import Derived.Test.YtpjemcfcheijkaaDoorMClaimLetters12
import Derived.Test.YtpjemcfcheijkaaDoorMClaimLetters2
import Derived.Test.YtpjemcfcheijkaaDoorMClaimLetters1
import Derived.Laws.StructEq

namespace Go.Proofs.YtpjemcfcheijkaaDoor
open Go.RowKit Go.Shelf

/-- What is seen of a piece. -/
structure Sn where
  t : List UInt8
  X : Int
  Y : Int
  W : Int
  H : Int
  d : Int
  e : Int
theorem Blk.all7' {w : World} {g : Nat} {t : TypeId} {a b c d e f h : Value} (k : Blk w g t #[a, b, c, d, e, f, h]) : w.cell? ⟨g, 0, none⟩ = some a ∧ w.cell? ⟨g, 1, none⟩ = some b ∧ w.cell? ⟨g, 2, none⟩ = some c ∧ w.cell? ⟨g, 3, none⟩ = some d ∧ w.cell? ⟨g, 4, none⟩ = some e ∧ w.cell? ⟨g, 5, none⟩ = some f ∧ w.cell? ⟨g, 6, none⟩ = some h ∧ ∀ i, w.frozen? ⟨g, i, none⟩ = false :=
  ⟨k.cell 0, k.cell 1, k.cell 2, k.cell 3, k.cell 4, k.cell 5, k.cell 6, k.frozen⟩
def Sn.cells (s : Sn) : List Value := [.string ⟨s.t.toArray⟩, .int .i64 s.X, .int .i64 s.Y, .int .i64 s.W, .int .i64 s.H, .int .i64 s.d, .int .i64 s.e]
def snCells (ss : List Sn) : List Value := ss.flatMap Sn.cells
theorem snCells_len (ss : List Sn) : (snCells ss).length = ss.length * 7 := by
  unfold snCells
  induction ss with
  | nil => rfl
  | cons l ls ih =>
    rw [List.flatMap_cons, List.length_append, ih, List.length_cons]
    show 7 + ls.length * 7 = (ls.length + 1) * 7
    omega
theorem snCells_at {ls : List Sn} {i : Nat} {l : Sn} (h : ls[i]? = some l) (j : Nat) (hj : j < 7) : (snCells ls)[i * 7 + j]? = l.cells[j]? := by
  induction ls generalizing i with
  | nil => simp at h
  | cons x ls ih =>
    unfold snCells
    rw [List.flatMap_cons]
    rcases i with _ | i
    · simp only [List.getElem?_cons_zero, Option.some.injEq] at h
      subst h
      rw [List.getElem?_append_left (by show 0 * 7 + j < 7; omega)]
      simp
    · rw [List.getElem?_append_right (by show 7 ≤ (i + 1) * 7 + j; omega)]
      have e : (i + 1) * 7 + j - x.cells.length = i * 7 + j := by
        show (i + 1) * 7 + j - 7 = i * 7 + j
        omega
      rw [e]
      exact ih (by simpa using h)
theorem sn_at {w : World} {A : Option Addr} {ss : List Sn} {i : Nat} {s : Sn} (h : Reads w 7 A ss.length (snCells ss)) (hi : ss[i]? = some s) : ∃ ad, A = some ad ∧ w.cell? (ad.add (i * 7)) = some (.string ⟨s.t.toArray⟩) ∧ w.cell? ⟨(ad.add (i * 7)).block, (ad.add (i * 7)).off + 1, none⟩ = some (.int .i64 s.X) ∧
    w.cell? ⟨(ad.add (i * 7)).block, (ad.add (i * 7)).off + 2, none⟩ = some (.int .i64 s.Y) ∧ w.cell? ⟨(ad.add (i * 7)).block, (ad.add (i * 7)).off + 3, none⟩ = some (.int .i64 s.W) ∧ w.cell? ⟨(ad.add (i * 7)).block, (ad.add (i * 7)).off + 4, none⟩ = some (.int .i64 s.H) ∧
    w.cell? ⟨(ad.add (i * 7)).block, (ad.add (i * 7)).off + 5, none⟩ = some (.int .i64 s.d) ∧ w.cell? ⟨(ad.add (i * 7)).block, (ad.add (i * 7)).off + 6, none⟩ = some (.int .i64 s.e) := by
  have hlt : i < ss.length := (List.getElem?_eq_some_iff.1 hi).1
  obtain ⟨ad, e, hc⟩ := h.2 (by omega)
  have key : ∀ j v, j < 7 → s.cells[j]? = some v → w.cell? ((ad.add (i * 7)).add j) = some v := fun j v hj hv => by
    rw [add_of_add]
    exact hc _ _ (by rw [snCells_at hi j hj]; exact hv)
  have k0 := key 0 _ (by omega) rfl
  have k1 := key 1 _ (by omega) rfl
  have k2 := key 2 _ (by omega) rfl
  have k3 := key 3 _ (by omega) rfl
  have k4 := key 4 _ (by omega) rfl
  have k5 := key 5 _ (by omega) rfl
  have k6 := key 6 _ (by omega) rfl
  rw [Addr.add_zero'] at k0
  rw [Addr.add_succ'] at k1 k2 k3 k4 k5 k6
  exact ⟨ad, e, k0, k1, k2, k3, k4, k5, k6⟩

set_option maxRecDepth 100000 in
theorem eq_box (n : Nat) (a b c d : Int) (w : World) : (Op.equalIn (n + 1 + 1) 50 (.agg #[.int .i64 a, .int .i64 b, .int .i64 c, .int .i64 d]) (.agg #[.int .i64 a, .int .i64 b, .int .i64 c, .int .i64 d])).run Tryd.prog w = .ok true w := by
  have u3 := Tryd.underlying3
  have a3 := Tryd.isAgg3
  have z3 := Tryd.sizeOf3
  rw [run_equalIn_agg w (n + 1) _ _ _ (by kernel_rfl) (by kernel_rfl)]
  simp only [Program.fieldsOf, Tryd.underlying50]
  go_simp
/-! ### texts -/
def textOf (ss : List Sn) : List UInt8 := ss.flatMap Sn.t
theorem textOf_len {ss : List Sn} (h : ∀ s ∈ ss, s.t.length ≤ 4) : (textOf ss).length ≤ ss.length * 4 := by
  unfold textOf
  induction ss with
  | nil => exact Nat.le_refl _
  | cons x ss ih =>
    have h1 := h x (List.mem_cons_self ..)
    have h2 := ih fun s hs => h s (List.mem_cons_of_mem _ hs)
    rw [List.flatMap_cons, List.length_append, List.length_cons]
    omega
theorem textOf_succ {ss : List Sn} {i : Nat} {s : Sn} (h : ss[i]? = some s) : textOf (ss.take (i + 1)) = textOf (ss.take i) ++ s.t := by
  unfold textOf
  rw [List.take_add_one, h, List.flatMap_append]
  simp
theorem take_in {ss : List Sn} (h : ∀ s ∈ ss, s.t.length ≤ 4) (i : Nat) : (textOf (ss.take i)).length ≤ ss.length * 4 := by
  have h1 := textOf_len (ss := ss.take i) fun s hs => h s (List.mem_of_mem_take hs)
  have h2 : (ss.take i).length ≤ ss.length := by rw [List.length_take]; omega
  omega

set_option maxHeartbeats 2000000 in
set_option maxRecDepth 100000 in
theorem writeString_any (B : Nat) (l t : List UInt8) (w : World) (h : Bui B l w) (hlen : l.length + t.length ≤ 140737488355328) (hBw : B ≤ w.heap.size) :
    Calls Tryd.prog 117 #[.pointer (some ⟨B, 0, none⟩), .string ⟨t.toArray⟩] w fun e w' => e = .returned (.tuple #[.int .i64 t.length, .nilIface]) ∧ Bui B (l ++ t) w' ∧ Below B w w' := by
  obtain ⟨i0, hi, hz0, hz1, hz2⟩ := info_parts info_u8
  have hbc : Lib.byteCells (l ++ t) = Lib.byteCells l ++ Lib.byteCells t := Lib.byteCells_append l t
  have hbl : (Lib.byteCells l).length = l.length := Lib.byteCells_length l
  have htl : (Lib.byteCells t).length = t.length := Lib.byteCells_length t
  have Hbc := Lib.hid hbc; have Hbl := Lib.hid hbl; have Htl := Lib.hid htl
  have Hts := Lib.hid (show (ByteArray.mk t.toArray).size = t.length by simp [ByteArray.size])
  clear hbc hbl htl
  obtain ⟨bs, hbs⟩ : ∃ bs, bs = Lib.byteCells l := ⟨_, rfl⟩
  have hck := builderCheck_any B l w h
  rw [← hbs] at hck Hbc Hbl
  have Hck := Lib.hid hck
  clear hbs hck h
  go_enter Tryd.func117, Tryd.ntmps117
  go_wp2_with (go_at_call 153; refine Hck.out.mono ?_)
  rintro e w1 ⟨rfl, h1, hb1⟩
  obtain ⟨hB, v, hbk, hown, hne⟩ := h1
  have c0 : w1.cell? ⟨B, 0, none⟩ = some (.pointer (some ⟨B, 0, none⟩)) := by rw [Lib.cell_of_heap hbk]; rfl
  have c1 : w1.cell? ⟨B, 1, none⟩ = some v := by rw [Lib.cell_of_heap hbk]; rfl
  go_wp2_with (at_builtin; refine Lib.wpList_append_own_stringF _ rfl _ _ 92 9 rfl B 5 i0 Tryd.underlying92 Tryd.underlying9 hi hz0 hz1 hz2 _ _ _ rfl hown ⟨t.toArray⟩ rfl ?c3 ?c4 ?c5 ?_)
  case c3 => unfold maxLen; have := Hbl.out; rw [Hts.out]; omega
  case c4 => have := Hbl.out; rw [Hts.out]; omega
  case c5 => have := hb1.size; omega
  intro v' w2 hown' hgrow _
  have hlt : B < w1.heap.size := by
    rcases Nat.lt_or_ge B w1.heap.size with h' | h'
    · exact h'
    · simp [Array.getElem?_eq_none h'] at hbk
  have hb2 : w2.heap[B]? = some (.cells #[.pointer (some ⟨B, 0, none⟩), v] 139 (0, 0)) := by
    rw [hgrow.block B hlt (fun e => hne e.symm)]
    exact hbk
  have d0 : w2.cell? ⟨B, 0, none⟩ = some (.pointer (some ⟨B, 0, none⟩)) := by rw [Lib.cell_of_heap hb2]; rfl
  have d1 : w2.cell? ⟨B, 1, none⟩ = some v := by rw [Lib.cell_of_heap hb2]; rfl
  have f1 : w2.frozen? ⟨B, 1, none⟩ = false := Lib.frozen_of_heap hb2 1
  obtain ⟨ao, n', cap, rfl⟩ : ∃ ao n' cap, v' = .slice ao n' cap := by
    rcases hown'.2 with ⟨hv, _⟩ | ⟨g, cap, cur, fz, hv, _⟩
    · exact ⟨_, _, _, hv⟩
    · exact ⟨_, _, _, hv⟩
  have hsc : Lib.strCells ⟨t.toArray⟩ = Lib.byteCells t := rfl
  have hput := Lib.BuilderAtF.put (T := 139) (e := 5) hB hb2 (bs' := bs ++ Lib.strCells ⟨t.toArray⟩) (by simpa [Lib.strCells_length, ByteArray.size] using hown') (by decide)
  have hbel := (hb1.grown hgrow (by have := hb1.size; omega) (fun k hk => (hown.lt k hk).1)).setCell (p := ⟨B, 1, none⟩) hB (.slice ao n' cap)
  rw [hsc] at hput
  have Hput := Lib.hid hput; have Hbel := Lib.hid hbel
  clear hput hbel hown' hgrow hown hbk hb2 hlt hb1 hne hsc
  go_wp2
  go_ret2
  exact ⟨rfl, by show Lib.IsBuilderF _ _ B B (Lib.byteCells (l ++ t)) _; rw [Hbc.out]; exact Or.inr Hput.out, Hbel.out⟩

/-! ### doubts -/
def doubtB (m : Int) (s : Sn) : Bool := decide (s.t ≠ [32]) && (decide (s.d < 0) || (decide (0 ≤ s.e) && decide (s.e - s.d ≤ m)))
def doubtsTo (m : Int) (ss : List Sn) : Nat → List Nat
  | 0 => []
  | i + 1 => if (ss[i]?.map (doubtB m)).getD false = true then doubtsTo m ss i ++ [i] else doubtsTo m ss i
theorem doubts_len (m : Int) (ss : List Sn) : ∀ i, (doubtsTo m ss i).length ≤ i
  | 0 => Nat.le_refl _
  | i + 1 => by
    have ih := doubts_len m ss i
    show (if _ then doubtsTo m ss i ++ [i] else doubtsTo m ss i).length ≤ i + 1
    split
    · rw [List.length_append]; simp; exact ih
    · omega
theorem doubts_succ {m : Int} {ss : List Sn} {i : Nat} {s : Sn} (h : ss[i]? = some s) : doubtsTo m ss (i + 1) = if doubtB m s = true then doubtsTo m ss i ++ [i] else doubtsTo m ss i := by
  show (if (ss[i]?.map (doubtB m)).getD false = true then _ else _) = _
  rw [h]
  rfl
def natCells (l : List Nat) : List Value := l.map fun (n : Nat) => .int .i64 (n : Int)

end Go.Proofs.YtpjemcfcheijkaaDoor


/-! bar.Runs and bedref2.RunsOf. -/
namespace Go.Proofs.YtpjemcfcheijkaaDoor
open Go.RowKit

def inkAt (f : Nat → Bool) : Nat → Bool
  | 0 => false
  | k + 1 => f k
/-- The runs ahead of the last one, and the last one. -/
def runsTo (f : Nat → Bool) : Nat → List Nat × Nat
  | 0 => ([], 0)
  | k + 1 => if f k = inkAt f k then ((runsTo f k).1, (runsTo f k).2 + 1) else ((runsTo f k).1 ++ [(runsTo f k).2], 1)
def runsL (f : Nat → Bool) (k : Nat) : List Nat := (runsTo f k).1 ++ [(runsTo f k).2]
theorem runsTo_le (f : Nat → Bool) : ∀ k, (runsTo f k).1.length ≤ k ∧ (runsTo f k).2 ≤ k
  | 0 => ⟨Nat.le_refl _, Nat.le_refl _⟩
  | k + 1 => by
    have ih := runsTo_le f k
    show ((if f k = inkAt f k then ((runsTo f k).1, (runsTo f k).2 + 1) else ((runsTo f k).1 ++ [(runsTo f k).2], 1)) : List Nat × Nat).1.length ≤ k + 1 ∧ ((if f k = inkAt f k then ((runsTo f k).1, (runsTo f k).2 + 1) else ((runsTo f k).1 ++ [(runsTo f k).2], 1)) : List Nat × Nat).2 ≤ k + 1
    split
    · exact ⟨by show (runsTo f k).1.length ≤ k + 1; omega, by show (runsTo f k).2 + 1 ≤ k + 1; omega⟩
    · refine ⟨?_, by show 1 ≤ k + 1; omega⟩
      show ((runsTo f k).1 ++ [(runsTo f k).2]).length ≤ k + 1
      rw [List.length_append, List.length_singleton]
      omega
theorem runs_same {f : Nat → Bool} {k : Nat} (h : f k = inkAt f k) : runsTo f (k + 1) = ((runsTo f k).1, (runsTo f k).2 + 1) := if_pos h
theorem runs_new {f : Nat → Bool} {k : Nat} (h : f k ≠ inkAt f k) : runsTo f (k + 1) = ((runsTo f k).1 ++ [(runsTo f k).2], 1) := if_neg h
def runCells (r : List Nat × Nat) : List Value := natCells r.1 ++ [.int .i64 r.2]
theorem runCells_list (f : Nat → Bool) (k : Nat) : runCells (runsTo f k) = natCells (runsL f k) := by unfold runCells runsL natCells; rw [List.map_append]; rfl
theorem natCells_len (l : List Nat) : (natCells l).length = l.length := by unfold natCells; rw [List.length_map]
theorem run_last (l : List Nat) (c d : Nat) : (natCells l ++ [Value.int .i64 c]).set l.length (.int .i64 d) = natCells l ++ [Value.int .i64 d] := by
  rw [List.set_append_right _ _ (by rw [natCells_len]; omega), natCells_len, Nat.sub_self]
  rfl
theorem run_last2 (l : List Nat) (c e d : Nat) : (natCells l ++ [Value.int .i64 c] ++ [Value.int .i64 e]).set (l.length + 1) (.int .i64 d) = natCells (l ++ [c]) ++ [Value.int .i64 d] := by
  rw [List.set_append_right _ _ (by rw [List.length_append, natCells_len, List.length_singleton]; omega), List.length_append, natCells_len, List.length_singleton, Nat.sub_self]
  unfold natCells
  rw [List.map_append]
  rfl
theorem run_at2 {l : List Nat} {n : Nat} (h : n = l.length) (c : Nat) (e : Value) : (natCells l ++ [Value.int .i64 c] ++ [e])[n + 1]? = some e := by
  subst h
  have e1 : (natCells l ++ [Value.int .i64 c]).length = l.length + 1 := by rw [List.length_append, natCells_len]; rfl
  rw [List.getElem?_append_right (by omega), e1, Nat.sub_self]
  rfl
theorem own_lit {w : World} {t : TypeId} {u : Value} : (w.alloc (.cells #[u] t)).ownsRow w.heap.size t 1 (.slice (some ⟨w.heap.size, 0, none⟩) 1 1) 1 [u] :=
  ⟨rfl, .inr ⟨w.heap.size, 1, #[u], rfl, Nat.le_refl _, heap_alloc_new w _, Nat.le_refl _, by unfold maxLen; omega, rfl, rfl⟩⟩
def RunsOfRes (l : List Nat) (w : World) (e : Ending) (w' : World) : Prop := ∃ R d, e = .returned (.slice R l.length d) ∧ Reads w' 1 R l.length (natCells l) ∧ Bl w w'
theorem own_cellAt {w : World} {base : Nat} {e : TypeId} {n g cap : Nat} {xs : List Value} (h : w.ownsRow base e 1 (.slice (some ⟨g, 0, none⟩) n cap) n xs) {j : Nat} {u : Value} (hj : xs[j]? = some u) : w.cell? ⟨g, j, none⟩ = some u := by
  obtain ⟨A, c, e2, hr⟩ := own_reads h
  injection e2 with e1 _ _
  subst e1
  have hl := (List.getElem?_eq_some_iff.1 hj).1
  have hlen := hr.1
  obtain ⟨ad, e3, hc⟩ := hr.2 (by omega)
  injection e3 with e3
  subst e3
  have h1 := hc j u hj
  have e4 : (⟨g, 0, none⟩ : Addr).add j = ⟨g, j, none⟩ := by unfold Addr.add; split <;> simp_all
  rw [e4] at h1
  exact h1

end Go.Proofs.YtpjemcfcheijkaaDoor
