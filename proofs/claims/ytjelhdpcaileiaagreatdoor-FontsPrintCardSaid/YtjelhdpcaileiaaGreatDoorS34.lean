/- Rows of what is seen: slices.Equal, glyph.Text, glyph.Doubt. -/
import Derived.Test.YtjelhdpcaileiaaGreatDoorS3
import Derived.Test.YtjelhdpcaileiaaGreatDoorS2
import Derived.Test.YtjelhdpcaileiaaGreatDoorS30
import Derived.Laws.StructEq

namespace Go.Proofs.YtjelhdpcaileiaaGreatDoor
open Go.RowKit Go.Shelf

/-- What is seen of a piece. -/
structure Sn where
  t : List UInt8
  X : Int
  Y : Int
  W : Int
  H : Int
  d : Int
  e : Int
theorem Blk.all7' {w : World} {g : Nat} {t : TypeId} {a b c d e f h : Value} (k : Blk w g t #[a, b, c, d, e, f, h]) : w.cell? ⟨g, 0, none⟩ = some a ∧ w.cell? ⟨g, 1, none⟩ = some b ∧ w.cell? ⟨g, 2, none⟩ = some c ∧ w.cell? ⟨g, 3, none⟩ = some d ∧ w.cell? ⟨g, 4, none⟩ = some e ∧ w.cell? ⟨g, 5, none⟩ = some f ∧ w.cell? ⟨g, 6, none⟩ = some h ∧ ∀ i, w.frozen? ⟨g, i, none⟩ = false :=
  ⟨k.cell 0, k.cell 1, k.cell 2, k.cell 3, k.cell 4, k.cell 5, k.cell 6, k.frozen⟩
def Sn.cells (s : Sn) : List Value := [.string ⟨s.t.toArray⟩, .int .i64 s.X, .int .i64 s.Y, .int .i64 s.W, .int .i64 s.H, .int .i64 s.d, .int .i64 s.e]
def snCells (ss : List Sn) : List Value := ss.flatMap Sn.cells
theorem snCells_len (ss : List Sn) : (snCells ss).length = ss.length * 7 := by
  unfold snCells
  induction ss with
  | nil => rfl
  | cons l ls ih =>
    rw [List.flatMap_cons, List.length_append, ih, List.length_cons]
    show 7 + ls.length * 7 = (ls.length + 1) * 7
    omega
theorem snCells_at {ls : List Sn} {i : Nat} {l : Sn} (h : ls[i]? = some l) (j : Nat) (hj : j < 7) : (snCells ls)[i * 7 + j]? = l.cells[j]? := by
  induction ls generalizing i with
  | nil => simp at h
  | cons x ls ih =>
    unfold snCells
    rw [List.flatMap_cons]
    rcases i with _ | i
    · simp only [List.getElem?_cons_zero, Option.some.injEq] at h
      subst h
      rw [List.getElem?_append_left (by show 0 * 7 + j < 7; omega)]
      simp
    · rw [List.getElem?_append_right (by show 7 ≤ (i + 1) * 7 + j; omega)]
      have e : (i + 1) * 7 + j - x.cells.length = i * 7 + j := by
        show (i + 1) * 7 + j - 7 = i * 7 + j
        omega
      rw [e]
      exact ih (by simpa using h)
theorem sn_at {w : World} {A : Option Addr} {ss : List Sn} {i : Nat} {s : Sn} (h : Reads w 7 A ss.length (snCells ss)) (hi : ss[i]? = some s) : ∃ ad, A = some ad ∧ w.cell? (ad.add (i * 7)) = some (.string ⟨s.t.toArray⟩) ∧ w.cell? ⟨(ad.add (i * 7)).block, (ad.add (i * 7)).off + 1, none⟩ = some (.int .i64 s.X) ∧
    w.cell? ⟨(ad.add (i * 7)).block, (ad.add (i * 7)).off + 2, none⟩ = some (.int .i64 s.Y) ∧ w.cell? ⟨(ad.add (i * 7)).block, (ad.add (i * 7)).off + 3, none⟩ = some (.int .i64 s.W) ∧ w.cell? ⟨(ad.add (i * 7)).block, (ad.add (i * 7)).off + 4, none⟩ = some (.int .i64 s.H) ∧
    w.cell? ⟨(ad.add (i * 7)).block, (ad.add (i * 7)).off + 5, none⟩ = some (.int .i64 s.d) ∧ w.cell? ⟨(ad.add (i * 7)).block, (ad.add (i * 7)).off + 6, none⟩ = some (.int .i64 s.e) := by
  have hlt : i < ss.length := (List.getElem?_eq_some_iff.1 hi).1
  obtain ⟨ad, e, hc⟩ := h.2 (by omega)
  have key : ∀ j v, j < 7 → s.cells[j]? = some v → w.cell? ((ad.add (i * 7)).add j) = some v := fun j v hj hv => by
    rw [add_of_add]
    exact hc _ _ (by rw [snCells_at hi j hj]; exact hv)
  have k0 := key 0 _ (by omega) rfl
  have k1 := key 1 _ (by omega) rfl
  have k2 := key 2 _ (by omega) rfl
  have k3 := key 3 _ (by omega) rfl
  have k4 := key 4 _ (by omega) rfl
  have k5 := key 5 _ (by omega) rfl
  have k6 := key 6 _ (by omega) rfl
  rw [Addr.add_zero'] at k0
  rw [Addr.add_succ'] at k1 k2 k3 k4 k5 k6
  exact ⟨ad, e, k0, k1, k2, k3, k4, k5, k6⟩

set_option maxRecDepth 100000 in
theorem eq_box (n : Nat) (a b c d : Int) (w : World) : (Op.equalIn (n + 1 + 1) 81 (.agg #[.int .i64 a, .int .i64 b, .int .i64 c, .int .i64 d]) (.agg #[.int .i64 a, .int .i64 b, .int .i64 c, .int .i64 d])).run Tryz.prog w = .ok true w := by
  have u3 := Tryz.underlying3
  have a3 := Tryz.isAgg3
  have z3 := Tryz.sizeOf3
  rw [run_equalIn_agg w (n + 1) _ _ _ (by kernel_rfl) (by kernel_rfl)]
  simp only [Program.fieldsOf, Tryz.underlying81]
  go_simp
set_option maxRecDepth 100000 in
theorem neq_seen (t : ByteArray) (a b c d e f : Int) (w : World) : (binOp .neq 90 (.agg #[.string t, .int .i64 a, .int .i64 b, .int .i64 c, .int .i64 d, .int .i64 e, .int .i64 f]) (.agg #[.string t, .int .i64 a, .int .i64 b, .int .i64 c, .int .i64 d, .int .i64 e, .int .i64 f])).run Tryz.prog w = .ok (.bool false) w := by
  have u3 := Tryz.underlying3
  have a3 := Tryz.isAgg3
  have z3 := Tryz.sizeOf3
  have u9 := Tryz.underlying9
  have a9 := Tryz.isAgg9
  have z9 := Tryz.sizeOf9
  have aB := Tryz.isAgg81
  have zB := Tryz.sizeOf81
  have hb := eq_box 9997 a b c d
  rw [run_neq_struct, show (10000 : Nat) = 9997 + 1 + 1 + 1 from rfl, run_equalIn_agg w (9997 + 1 + 1) _ _ _ (by kernel_rfl) (by kernel_rfl)]
  simp only [Program.fieldsOf, Tryz.underlying90]
  go_simp

set_option maxRecDepth 100000 in
set_option maxHeartbeats 1000000 in
theorem equalSeen_any (A B : Option Addr) (c d : Nat) (ss : List Sn) (w : World) (hx : Reads w 7 A ss.length (snCells ss)) (hy : Reads w 7 B ss.length (snCells ss)) (hl : ss.length ≤ 1099511627776) :
    Calls Tryz.prog 41 #[.slice A ss.length c, .slice B ss.length d] w fun e w' => e = .returned (.bool true) ∧ Bl w w' := by
  have Hx := Lib.hid hx; have Hy := Lib.hid hy
  clear hx hy
  go_enter Tryz.func41, Tryz.ntmps41
  go_wp2
  go_loopw [13] (fun v wr => ∃ k : Nat, k ≤ ss.length ∧ v = .int .i64 k ∧ Bl w wr) (fun v _ => ss.length - (intOf v).toNat)
  case atStart => exact ⟨0, Nat.zero_le _, rfl, Bl.refl _⟩
  case round =>
    obtain ⟨k, hk, rfl, hbr⟩ := hrel
    by_cases hlt : k < ss.length
    · have hg : ss[k]? = some ss[k] := List.getElem?_eq_getElem hlt
      obtain ⟨s, hs⟩ : ∃ s, s = ss[k] := ⟨_, rfl⟩
      rw [← hs] at hg
      obtain ⟨ad, rfl, c0, c1, c2, c3, c4, c5, c6⟩ := sn_at (Hx.out.bl hbr) hg
      obtain ⟨bd, rfl, d0, d1, d2, d3, d4, d5, d6⟩ := sn_at (Hy.out.bl hbr) hg
      have hne := fun w' => neq_seen ⟨s.t.toArray⟩ s.X s.Y s.W s.H s.d s.e w'
      have hi : (k : Int) < (ss.length : Int) := by omega
      clear hs hg
      go_wp2
      refine wp_region_flow [(true, 0), (true, 1), (true, 2), (true, 3), (true, 4), (true, 5), (true, 6), (true, 7), (true, 8)] (fun _ => false) (by kernel_rfl) (by kernel_rfl) (by kernel_rfl) (by kernel_rfl) ?_
      iterate 2
        apply Flow.mv _ rfl
        · intro K' hK'
          simp only [Act.put, Act.eval, List.setIfInBounds_toArray, List.set_cons_zero, List.set_cons_succ, arr_getD, List.getD_cons_zero, List.getD_cons_succ]
          exact hK'
      iterate 1
        apply Flow.calm2 _ _ rfl rfl
        · intro w' hb' K' hK'
          obtain ⟨hc', hf'⟩ := hb'.rule
          go_simp
          try go_ints
          exact hK'
        · intro K' hK'
          simp only [Act.put, List.setIfInBounds_toArray, List.set_cons_zero, List.set_cons_succ]
          exact hK'
      iterate 1
        apply Flow.calm2 _ _ rfl rfl
        · intro w' hb' K' hK'
          obtain ⟨hc', hf'⟩ := hb'.rule
          go_simp
          try go_ints
          exact hK'
        · intro K' hK'
          simp only [Act.put, List.setIfInBounds_toArray, List.set_cons_zero, List.set_cons_succ]
          exact hK'
      iterate 2
        apply Flow.mv _ rfl
        · intro K' hK'
          simp only [Act.put, Act.eval, List.setIfInBounds_toArray, List.set_cons_zero, List.set_cons_succ, arr_getD, List.getD_cons_zero, List.getD_cons_succ]
          exact hK'
      iterate 1
        apply Flow.calm2 _ _ rfl rfl
        · intro w' hb' K' hK'
          obtain ⟨hc', hf'⟩ := hb'.rule
          go_simp
          try go_ints
          exact hK'
        · intro K' hK'
          simp only [Act.put, List.setIfInBounds_toArray, List.set_cons_zero, List.set_cons_succ]
          exact hK'
      iterate 1
        apply Flow.calm2 _ _ rfl rfl
        · intro w' hb' K' hK'
          obtain ⟨hc', hf'⟩ := hb'.rule
          go_simp
          try go_ints
          exact hK'
        · intro K' hK'
          simp only [Act.put, List.setIfInBounds_toArray, List.set_cons_zero, List.set_cons_succ]
          exact hK'
      iterate 1
        apply Flow.calm2 _ _ rfl rfl
        · intro w' hb' K' hK'
          obtain ⟨hc', hf'⟩ := hb'.rule
          go_simp
          try go_ints
          exact hK'
        · intro K' hK'
          simp only [Act.put, List.setIfInBounds_toArray, List.set_cons_zero, List.set_cons_succ]
          exact hK'
      refine Flow.done ?_
      go_wp2
      exact ⟨⟨k + 1, hlt, by go_num, hbr.drew⟩, by simp [intOf]; omega⟩
    · go_wp2
      go_ret
      exact ⟨rfl, hbr⟩

/-! ### texts -/
def textOf (ss : List Sn) : List UInt8 := ss.flatMap Sn.t
theorem textOf_len {ss : List Sn} (h : ∀ s ∈ ss, s.t.length ≤ 4) : (textOf ss).length ≤ ss.length * 4 := by
  unfold textOf
  induction ss with
  | nil => exact Nat.le_refl _
  | cons x ss ih =>
    have h1 := h x (List.mem_cons_self ..)
    have h2 := ih fun s hs => h s (List.mem_cons_of_mem _ hs)
    rw [List.flatMap_cons, List.length_append, List.length_cons]
    omega
theorem textOf_succ {ss : List Sn} {i : Nat} {s : Sn} (h : ss[i]? = some s) : textOf (ss.take (i + 1)) = textOf (ss.take i) ++ s.t := by
  unfold textOf
  rw [List.take_add_one, h, List.flatMap_append]
  simp
theorem take_in {ss : List Sn} (h : ∀ s ∈ ss, s.t.length ≤ 4) (i : Nat) : (textOf (ss.take i)).length ≤ ss.length * 4 := by
  have h1 := textOf_len (ss := ss.take i) fun s hs => h s (List.mem_of_mem_take hs)
  have h2 : (ss.take i).length ≤ ss.length := by rw [List.length_take]; omega
  omega

set_option maxHeartbeats 2000000 in
set_option maxRecDepth 100000 in
theorem writeString_any (B : Nat) (l t : List UInt8) (w : World) (h : Bui B l w) (hlen : l.length + t.length ≤ 140737488355328) (hBw : B ≤ w.heap.size) :
    Calls Tryz.prog 68 #[.pointer (some ⟨B, 0, none⟩), .string ⟨t.toArray⟩] w fun e w' => e = .returned (.tuple #[.int .i64 t.length, .nilIface]) ∧ Bui B (l ++ t) w' ∧ Below B w w' := by
  obtain ⟨i0, hi, hz0, hz1, hz2⟩ := info_parts info_u8
  have hbc : Lib.byteCells (l ++ t) = Lib.byteCells l ++ Lib.byteCells t := Lib.byteCells_append l t
  have hbl : (Lib.byteCells l).length = l.length := Lib.byteCells_length l
  have htl : (Lib.byteCells t).length = t.length := Lib.byteCells_length t
  have Hbc := Lib.hid hbc; have Hbl := Lib.hid hbl; have Htl := Lib.hid htl
  have Hts := Lib.hid (show (ByteArray.mk t.toArray).size = t.length by simp [ByteArray.size])
  clear hbc hbl htl
  obtain ⟨bs, hbs⟩ : ∃ bs, bs = Lib.byteCells l := ⟨_, rfl⟩
  have hck := builderCheck_any B l w h
  rw [← hbs] at hck Hbc Hbl
  have Hck := Lib.hid hck
  clear hbs hck h
  go_enter Tryz.func68, Tryz.ntmps68
  go_wp2_with (go_at_call 150; refine Hck.out.mono ?_)
  rintro e w1 ⟨rfl, h1, hb1⟩
  obtain ⟨hB, v, hbk, hown, hne⟩ := h1
  have c0 : w1.cell? ⟨B, 0, none⟩ = some (.pointer (some ⟨B, 0, none⟩)) := by rw [Lib.cell_of_heap hbk]; rfl
  have c1 : w1.cell? ⟨B, 1, none⟩ = some v := by rw [Lib.cell_of_heap hbk]; rfl
  go_wp2_with (at_builtin; refine Lib.wpList_append_own_stringF _ rfl _ _ 40 9 rfl B 5 i0 Tryz.underlying40 Tryz.underlying9 hi hz0 hz1 hz2 _ _ _ rfl hown ⟨t.toArray⟩ rfl ?c3 ?c4 ?c5 ?_)
  case c3 => unfold maxLen; have := Hbl.out; rw [Hts.out]; omega
  case c4 => have := Hbl.out; rw [Hts.out]; omega
  case c5 => have := hb1.size; omega
  intro v' w2 hown' hgrow _
  have hlt : B < w1.heap.size := by
    rcases Nat.lt_or_ge B w1.heap.size with h' | h'
    · exact h'
    · simp [Array.getElem?_eq_none h'] at hbk
  have hb2 : w2.heap[B]? = some (.cells #[.pointer (some ⟨B, 0, none⟩), v] 115 (0, 0)) := by
    rw [hgrow.block B hlt (fun e => hne e.symm)]
    exact hbk
  have d0 : w2.cell? ⟨B, 0, none⟩ = some (.pointer (some ⟨B, 0, none⟩)) := by rw [Lib.cell_of_heap hb2]; rfl
  have d1 : w2.cell? ⟨B, 1, none⟩ = some v := by rw [Lib.cell_of_heap hb2]; rfl
  have f1 : w2.frozen? ⟨B, 1, none⟩ = false := Lib.frozen_of_heap hb2 1
  obtain ⟨ao, n', cap, rfl⟩ : ∃ ao n' cap, v' = .slice ao n' cap := by
    rcases hown'.2 with ⟨hv, _⟩ | ⟨g, cap, cur, fz, hv, _⟩
    · exact ⟨_, _, _, hv⟩
    · exact ⟨_, _, _, hv⟩
  have hsc : Lib.strCells ⟨t.toArray⟩ = Lib.byteCells t := rfl
  have hput := Lib.BuilderAtF.put (T := 115) (e := 5) hB hb2 (bs' := bs ++ Lib.strCells ⟨t.toArray⟩) (by simpa [Lib.strCells_length, ByteArray.size] using hown') (by decide)
  have hbel := (hb1.grown hgrow (by have := hb1.size; omega) (fun k hk => (hown.lt k hk).1)).setCell (p := ⟨B, 1, none⟩) hB (.slice ao n' cap)
  rw [hsc] at hput
  have Hput := Lib.hid hput; have Hbel := Lib.hid hbel
  clear hput hbel hown' hgrow hown hbk hb2 hlt hb1 hne hsc
  go_wp2
  go_ret2
  exact ⟨rfl, by show Lib.IsBuilderF _ _ B B (Lib.byteCells (l ++ t)) _; rw [Hbc.out]; exact Or.inr Hput.out, Hbel.out⟩

/-! ### doubts -/
def doubtB (m : Int) (s : Sn) : Bool := decide (s.t ≠ [32]) && (decide (s.d < 0) || (decide (0 ≤ s.e) && decide (s.e - s.d ≤ m)))
def doubtsTo (m : Int) (ss : List Sn) : Nat → List Nat
  | 0 => []
  | i + 1 => if (ss[i]?.map (doubtB m)).getD false = true then doubtsTo m ss i ++ [i] else doubtsTo m ss i
theorem doubts_len (m : Int) (ss : List Sn) : ∀ i, (doubtsTo m ss i).length ≤ i
  | 0 => Nat.le_refl _
  | i + 1 => by
    have ih := doubts_len m ss i
    show (if _ then doubtsTo m ss i ++ [i] else doubtsTo m ss i).length ≤ i + 1
    split
    · rw [List.length_append]; simp; exact ih
    · omega
theorem doubts_succ {m : Int} {ss : List Sn} {i : Nat} {s : Sn} (h : ss[i]? = some s) : doubtsTo m ss (i + 1) = if doubtB m s = true then doubtsTo m ss i ++ [i] else doubtsTo m ss i := by
  show (if (ss[i]?.map (doubtB m)).getD false = true then _ else _) = _
  rw [h]
  rfl
def natCells (l : List Nat) : List Value := l.map fun (n : Nat) => .int .i64 (n : Int)

end Go.Proofs.YtjelhdpcaileiaaGreatDoor
