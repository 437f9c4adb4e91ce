/- strings.Builder at this program: copyCheck, WriteByte, String. -/
import Derived.Test.YtjelhdpcaileiaaDoorU0
import Derived.WalkKit
import Derived.Ground.NamesProg
import Derived.Shelf.Lay
import Derived.Shelf.Strings.Builder1
import Derived.Shelf.Strings.BuilderF
import Derived.Shelf.Strings.BuilderK

namespace Go.Proofs
open Go.Shelf
def Tryd.lays169_ren : Go.Shelf.Ren := ⟨fun | 169 => 100 | n => n, fun | 70 => 134 | 9 => 9 | 0 => 0 | 72 => 137 | 37 => 135 | 127 => 189 | 3 => 3 | 5 => 5 | n => n, fun | n => n⟩
theorem Tryd.lays169 : Go.Proofs.Lays.n169 Tryd.prog Tryd.lays169_ren := {
  mixed := by kernel_rfl
  f169 := Tryd.func100.trans (congrArg some (by kernel_rfl))
  t0 := Tryd.underlying0
  a0 := Tryd.isAgg0
  z0 := Tryd.sizeOf0
  v0 := Tryd.zeroValue0
  t3 := Tryd.underlying3
  a3 := Tryd.isAgg3
  z3 := Tryd.sizeOf3
  v3 := Tryd.zeroValue3
  t9 := Tryd.underlying9
  a9 := Tryd.isAgg9
  z9 := Tryd.sizeOf9
  v9 := Tryd.zeroValue9
  t37 := Tryd.underlying135
  a37 := Tryd.isAgg135
  z37 := Tryd.sizeOf135
  v37 := Tryd.zeroValue135
  t70 := Tryd.underlying134
  a70 := Tryd.isAgg134
  z70 := Tryd.sizeOf134
  v70 := Tryd.zeroValue134
  t72 := Tryd.underlying137
  a72 := Tryd.isAgg137
  z72 := Tryd.sizeOf137
  v72 := Tryd.zeroValue137
  t127 := Tryd.underlying189
  a127 := Tryd.isAgg189
  z127 := Tryd.sizeOf189
  v127 := Tryd.zeroValue189 }

theorem Tryd.builderExtra : Builder.Extra Tryd.prog Tryd.lays169_ren where
  sizeBuilder := by kernel_rfl
  liesBuilder := by kernel_rfl
  t5 := Tryd.underlying5
  a5 := Tryd.isAgg5
  z5 := Tryd.sizeOf5
  v5 := Tryd.zeroValue5
  infoByte := by kernel_rfl
  cellsByte := by kernel_rfl
  sizeByte := by kernel_rfl
  neB5 := by decide
end Go.Proofs
namespace Go.Proofs.YtjelhdpcaileiaaDoor
open Go.RowKit Go.Shelf

theorem builder_size : (Tryd.prog.info? 137).map (·.size) = some 2 := by kernel_rfl
theorem builder_lies : liesAt Tryd.prog Tryd.prog.depth 137 (2 / Tryd.prog.cellsOf 137) 0 137 1 = true := by kernel_rfl

set_option maxHeartbeats 1000000 in
set_option maxRecDepth 100000 in
theorem check_used (b : Nat) (w : World) (h0 : w.cell? ⟨b, 0, none⟩ = some (.pointer (some ⟨b, 0, none⟩))) :
    Calls Tryd.prog 165 #[.pointer (some ⟨b, 0, none⟩)] w fun e w' => e = .returned (.tuple #[]) ∧ w' = w := by
  obtain ⟨j, hj, _⟩ := Option.map_eq_some_iff.1 builder_size
  go_enter Tryd.func165, Tryd.ntmps165
  go_wp2
  rw [Lib.run_neq_ptr_same w _ Tryd.underlying134 hj]
  go_wp2
  go_end0
  exact ⟨rfl, rfl⟩

set_option maxHeartbeats 1000000 in
set_option maxRecDepth 100000 in
theorem check_fresh (b : Nat) (w : World) (h0 : w.cell? ⟨b, 0, none⟩ = some (.pointer none)) (hsh : w.shape? b = some (137, 2)) (hfz : w.frozen? ⟨b, 0, none⟩ = false) :
    Calls Tryd.prog 165 #[.pointer (some ⟨b, 0, none⟩)] w fun e w' => e = .returned (.tuple #[]) ∧ w' = w.setCell ⟨b, 0, none⟩ (.pointer (some ⟨b, 0, none⟩)) := by
  obtain ⟨j, hj, hjs⟩ := Option.map_eq_some_iff.1 builder_size
  go_enter Tryd.func165, Tryd.ntmps165
  go_wp2
  rw [Lib.run_to_unsafe w ⟨b, 0, none⟩ Tryd.underlying134 Tryd.underlying217 hj (by rw [hjs]; decide) hsh (Nat.zero_lt_succ 1)]
  simp only [Result.andThen]
  rw [Oper.upon_value]
  go_wp2
  rw [run_callFunc_extern Tryd.func199 (by kernel_rfl) (by kernel_rfl) (by kernel_rfl) (e := Extern.AbiNoEscape.same) (by kernel_rfl)]
  rw [Lib.run_noEscape]
  simp only [Result.andThen]
  rw [Oper.upon_value]
  go_wp2
  rw [Lib.run_from_unsafe w ⟨b, 0, none⟩ Tryd.underlying217 Tryd.underlying134 hj hsh builder_lies]
  simp only [Result.andThen]
  rw [Oper.upon_value]
  go_wp2
  go_end0
  exact ⟨rfl, rfl⟩

/-- The builder that this call has made: it holds the bytes l. -/
abbrev Bui (B : Nat) (l : List UInt8) (w : World) : Prop := Lib.IsBuilderF 137 5 B B (Lib.byteCells l) w
theorem builderCheck_any (B : Nat) (l : List UInt8) (w : World) (h : Bui B l w) :
    Calls Tryd.prog 165 #[.pointer (some ⟨B, 0, none⟩)] w fun e w' => e = .returned (.tuple #[]) ∧ Lib.BuilderAtF 137 5 B B (.pointer (some ⟨B, 0, none⟩)) (Lib.byteCells l) w' ∧ Below B w w' := by
  rcases h with h | h
  · refine (check_fresh B w h.cell0 h.shape h.frozen0).mono ?_
    rintro e w' ⟨rfl, rfl⟩
    exact ⟨rfl, h.used _, (Below.refl B w).setCell (p := ⟨B, 0, none⟩) (Nat.le_refl _) _⟩
  · refine (check_used B w h.cell0).mono ?_
    rintro e w' ⟨rfl, rfl⟩
    exact ⟨rfl, h, Below.refl B _⟩

set_option maxHeartbeats 2000000 in
set_option maxRecDepth 100000 in
theorem writeByte_any (B : Nat) (l : List UInt8) (c : UInt8) (w : World) (h : Bui B l w) (hlen : l.length + 1 ≤ 140737488355328) (hBw : B ≤ w.heap.size) :
    Calls Tryd.prog 217 #[.pointer (some ⟨B, 0, none⟩), .int .u8 (c.toNat : Int)] w fun e w' => e = .returned .nilIface ∧ Bui B (l ++ [c]) w' ∧ Below B w w' := by
  obtain ⟨i0, hi, hz0, hz1, hz2⟩ := info_parts info_u8
  obtain ⟨cv, hcv⟩ : ∃ cv : Int, cv = (c.toNat : Int) := ⟨_, rfl⟩
  have hbc : Lib.byteCells (l ++ [c]) = Lib.byteCells l ++ [.int .u8 cv] := by rw [Lib.byteCells_append, hcv]; rfl
  have hbl : (Lib.byteCells l).length = l.length := Lib.byteCells_length l
  rw [← hcv]
  have Hbc := Lib.hid hbc; have Hbl := Lib.hid hbl
  clear hbc hbl hcv
  obtain ⟨bs, hbs⟩ : ∃ bs, bs = Lib.byteCells l := ⟨_, rfl⟩
  have hck := builderCheck_any B l w h
  rw [← hbs] at hck Hbc Hbl
  have Hck := Lib.hid hck
  clear hbs hck h
  go_enter Tryd.func217, Tryd.ntmps217
  go_wp2_with (go_at_call 165; refine Hck.out.mono ?_)
  rintro e w1 ⟨rfl, h1, hb1⟩
  obtain ⟨hB, v, hbk, hown, hne⟩ := h1
  have c0 : w1.cell? ⟨B, 0, none⟩ = some (.pointer (some ⟨B, 0, none⟩)) := by rw [Lib.cell_of_heap hbk]; rfl
  have c1 : w1.cell? ⟨B, 1, none⟩ = some v := by rw [Lib.cell_of_heap hbk]; rfl
  go_wp2_with (at_builtin; refine wpList_append_ownF _ rfl _ _ 135 rfl B 5 i0 (.int .u8 0) 1 1 Tryd.underlying135 hi hz0 hz1 hz2 rfl (by decide) _ _ _ rfl (hown.alloc _) ⟨w1.heap.size, 0, none⟩ 1 1 [.int .u8 cv] rfl rfl ?c1 ?c2 ?c3 ?c4 ?c5 ?_)
  case c1 =>
    intro j u hj
    match j, hj with
    | 0, hj => simp at hj; subst hj; simp [Addr.add]
  case c2 => intro u hu; simp at hu; subst hu; rfl
  case c3 => unfold maxLen; have := Hbl.out; omega
  case c4 => have := Hbl.out; omega
  case c5 => have := hb1.size; simp; omega
  intro v' w2 hown' hgrow _
  have hlt : B < w1.heap.size := by
    rcases Nat.lt_or_ge B w1.heap.size with h' | h'
    · exact h'
    · simp [Array.getElem?_eq_none h'] at hbk
  have hb2 : w2.heap[B]? = some (.cells #[.pointer (some ⟨B, 0, none⟩), v] 137 (0, 0)) := by
    rw [hgrow.block B (by simp; omega) (fun e => hne e.symm), Lib.alloc_old w1 _ B hlt]
    exact hbk
  have d0 : w2.cell? ⟨B, 0, none⟩ = some (.pointer (some ⟨B, 0, none⟩)) := by rw [Lib.cell_of_heap hb2]; rfl
  have d1 : w2.cell? ⟨B, 1, none⟩ = some v := by rw [Lib.cell_of_heap hb2]; rfl
  have f1 : w2.frozen? ⟨B, 1, none⟩ = false := Lib.frozen_of_heap hb2 1
  obtain ⟨g, cap, rfl⟩ : ∃ g cap, v' = .slice (some ⟨g, 0, none⟩) (bs.length + 1) cap := by
    rcases hown'.2 with ⟨_, h0⟩ | ⟨g, cap, cur, fz, hv, _⟩
    · omega
    · exact ⟨g, cap, hv⟩
  have hput := Lib.BuilderAtF.put (T := 137) (e := 5) hB hb2 (bs' := bs ++ [.int .u8 cv]) (by simpa using hown') (by decide)
  have hbel : Below B w (w2.setCell ⟨B, 1, none⟩ (.slice (some ⟨g, 0, none⟩) (bs.length + 1) cap)) := ((hb1.alloc (by have := hb1.size; omega) _).grown hgrow (by have := hb1.size; simp; omega) (fun k hk => (hown.lt k hk).1)).setCell (p := ⟨B, 1, none⟩) hB _
  have Hput := Lib.hid hput; have Hbel := Lib.hid hbel
  clear hput hbel hown' hgrow hown hbk hb2 hlt hb1 hne
  go_wp2
  go_ret
  exact ⟨rfl, by show Lib.IsBuilderF _ _ B B (Lib.byteCells (l ++ [c])) _; rw [Hbc.out]; exact Or.inr Hput.out, Hbel.out⟩
theorem builderString_any (B : Nat) (l : List UInt8) (w : World) (h : Bui B l w) (hBw : B ≤ w.heap.size) :
    Calls Tryd.prog 100 #[.pointer (some ⟨B, 0, none⟩)] w fun e w' => e = .returned (.string ⟨l.toArray⟩) ∧ Below B w w' := by
  refine (Any.Builder_String_any_k Tryd.lays169 Tryd.builderExtra B B l w h hBw).mono ?_
  rintro e w' ⟨rfl, _, h2, _⟩
  exact ⟨rfl, h2⟩
theorem builder_bl {B : Nat} {l : List UInt8} {w w' : World} (h : Bui B l w) (hb : Bl w w') : Bui B l w' := by
  have own : ∀ {v : Value} {n : Nat}, w.ownsRowF B 5 1 v n (Lib.byteCells l) → w'.ownsRowF B 5 1 v n (Lib.byteCells l) := fun {v n} ho => by
    refine ⟨ho.1, ?_⟩
    rcases ho.2 with h2 | ⟨g, cap, cur, fz, hv, hg, hh, r⟩
    · exact .inl h2
    · exact .inr ⟨g, cap, cur, fz, hv, hg, (Below.block hb g (Array.getElem?_eq_some_iff.1 hh).1).trans hh, r⟩
  have at_ : ∀ {p : Value}, Lib.BuilderAtF 137 5 B B p (Lib.byteCells l) w → Lib.BuilderAtF 137 5 B B p (Lib.byteCells l) w' := fun {p} ⟨hB, v, hh, ho, hne⟩ =>
    ⟨hB, v, (Below.block hb B (Array.getElem?_eq_some_iff.1 hh).1).trans hh, own ho, hne⟩
  exact h.elim (fun x => .inl (at_ x)) (fun x => .inr (at_ x))
theorem builder_fresh (w : World) : Bui w.heap.size [] (w.alloc (.cells #[.pointer none, .slice none 0 0] 137)) := Lib.IsBuilderF.of (Lib.fresh_isBuilder 137 5 w)
theorem Bl.trans' {a w w' : World} {B : Nat} (h : Bl a w) (e : a.heap.size = B) (hb : Below B w w') : Bl a w' := by
  subst e
  exact Below.trans h hb

end Go.Proofs.YtjelhdpcaileiaaDoor
