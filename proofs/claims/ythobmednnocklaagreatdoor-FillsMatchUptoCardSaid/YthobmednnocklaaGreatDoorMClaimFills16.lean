/- The plain law of rules: which of them values break. -/
import Derived.Test.YthobmednnocklaaGreatDoorMClaimFills15
import Derived.Test.YthobmednnocklaaGreatDoorMClaimFills12
import Derived.Test.YthobmednnocklaaGreatDoorMClaimFills11
import Derived.Test.YthobmednnocklaaGreatDoorMClaimFills2
import Derived.Test.YthobmednnocklaaGreatDoorMClaimFills14
import Derived.Test.YthobmednnocklaaGreatDoorMClaimFills4
import Derived.Test.YthobmednnocklaaGreatDoorMClaimFills9
import Derived.Carry
import Derived.MapFrom

namespace Go.Proofs.YthobmednnocklaaGreatDoor
open Go.RowKit Go.Shelf

theorem info_bx : (Tryz.prog.info? 26).map (fun i => (i.zero, i.size, i.bytes)) = some (some (.agg #[.int .i64 0, .int .i64 0, .int .i64 0, .int .i64 0]), 4, 32) := by kernel_rfl
theorem bx_one (l : List Bx) : ∀ u ∈ bxCells l, u.oneCell' = true := by
 intro u hu
 unfold bxCells at hu
 obtain ⟨b, _, h⟩ := List.mem_flatMap.1 hu
 unfold Bx.cells at h
 simp only [List.mem_cons, List.not_mem_nil, or_false] at h
 rcases h with rfl | rfl | rfl | rfl <;> rfl
theorem bxCells_append (a b : List Bx) : bxCells (a ++ b) = bxCells a ++ bxCells b := List.flatMap_append
/-- A row and a map lie apart. -/
theorem map_apart {w : World} {b base : Nat} {e : TypeId} {size n : Nat} {v : Value} {xs : List Value} {ks : List (List UInt8)} (hm : MapAt w b ks) (h : w.ownsRow base e size v n xs) : some b ≠ v.ownBlock := by
 obtain ⟨es, c, h1, -, -⟩ := hm
 rcases h.2 with ⟨rfl, -⟩ | ⟨g, cap, cur, rfl, -, hg, -⟩
 · intro h; cases h
 · intro hx
   have hx : b = g := Option.some.inj hx
   subst hx
   rw [h1] at hg
   cases hg
theorem MapAt.grown {w w' : World} {b : Nat} {ks : List (List UInt8)} {row : Option Nat} (h : MapAt w b ks) (hb : w.grownBy w' row) (hne : some b ≠ row) : MapAt w' b ks := by
 obtain ⟨es, c, h1, h2, h3⟩ := h
 exact ⟨es, c, (hb.block b (Array.getElem?_eq_some_iff.1 h1).1 hne).trans h1, h2, h3⟩
set_option maxRecDepth 100000 in
/-- The update, and that all else lies as it did. -/
theorem MapAt.update2 {w : World} {b : Nat} {ks : List (List UInt8)} (h : MapAt w b ks) (s : List UInt8) : ∃ w', (Instr.mapUpdate 130 (.map (some b)) (.string ⟨s.toArray⟩) (.bool true)).run Tryz.prog w = .ok () w' ∧ MapAt w' b (ks ++ [s]) ∧ (∀ w0, Bl w0 w → w0.heap.size ≤ b → Bl w0 w') ∧ ∀ k, k ≠ b → w'.heap[k]? = w.heap[k]? := by
 obtain ⟨es, c, h1, h2, h3⟩ := h
 have hk : MapKept.IsKey .string (.string ⟨s.toArray⟩) := trivial
 have hks : ∀ x ∈ es.toList, MapKept.IsKey .string x.key := fun x hx => by obtain ⟨t, _, e, _⟩ := h2 x hx; rw [e]; trivial
 obtain ⟨w', hr, hM, hB⟩ := MapAt.update ⟨es, c, h1, h2, h3⟩ s
 refine ⟨w', hr, hM, hB, fun k hkb => ?_⟩
 rcases MapKept.findNow_spec hk es.toList 0 hks with ⟨hf, hno⟩ | ⟨j, e, hf, hj, he⟩
 · have e2 : (Instr.mapUpdate 130 (.map (some b)) (.string ⟨s.toArray⟩) (.bool true)).run Tryz.prog w = .ok () { w with heap := w.heap.setIfInBounds b (.map (es.push ⟨.string ⟨s.toArray⟩, .bool true, c⟩) (c + 1)) } := by
    simp [Instr.mapUpdate, run_underlying Tryz.underlying130, MapKept.run_getObj_map h1, MapKept.run_checkKey Tryz.underlying9 hk, MapKept.run_findKey Tryz.underlying9 hf, MapKept.run_setObj_map _ h1, Result.andThen]
   obtain ⟨-, e3⟩ := Result.ok.inj (hr.symm.trans e2)
   rw [e3]
   exact Array.getElem?_setIfInBounds_ne (by omega)
 · have hj' : es[j]? = some e := by simpa using hj
   have e2 : (Instr.mapUpdate 130 (.map (some b)) (.string ⟨s.toArray⟩) (.bool true)).run Tryz.prog w = .ok () { w with heap := w.heap.setIfInBounds b (.map (es.modify j (fun e' => { e' with key := .string ⟨s.toArray⟩, val := .bool true })) c) } := by
    simp [Instr.mapUpdate, run_underlying Tryz.underlying130, MapKept.run_getObj_map h1, MapKept.run_checkKey Tryz.underlying9 hk, MapKept.run_findKey Tryz.underlying9 hf, hj', he, MapKept.run_keyThatStays hk, MapKept.run_setObj_map _ h1, Result.andThen]
   obtain ⟨-, e3⟩ := Result.ok.inj (hr.symm.trans e2)
   rw [e3]
   exact Array.getElem?_setIfInBounds_ne (by omega)
/-- A row that lies apart from the block that was changed. -/
theorem own_other {w w' : World} {base b : Nat} {e : TypeId} {size n : Nat} {v : Value} {xs : List Value} (h : w.ownsRow base e size v n xs) (hk : ∀ k, k ≠ b → w'.heap[k]? = w.heap[k]?) (hne : some b ≠ v.ownBlock) : w'.ownsRow base e size v n xs := by
 refine ⟨h.1, ?_⟩
 rcases h.2 with h2 | ⟨g, cap, cur, rfl, hg, hh, r⟩
 · exact .inl h2
 · refine .inr ⟨g, cap, cur, rfl, hg, (hk g ?_).trans hh, r⟩
   intro hx
   exact hne (by rw [hx]; rfl)
theorem any_over (a : Bx) (l : List Bx) : decide (∃ b ∈ l, a.over b = true) = l.any fun b => a.over b := by
 rw [Bool.eq_iff_iff, decide_eq_true_eq, List.any_eq_true]
theorem BxsAt.take {w : World} {L : Option Addr} {l : List Bx} (h : BxsAt w L l) (i : Nat) (hi : i ≤ l.length) : BxsAt w L (l.take i) := by
 have e : (l.take i).flatMap Bx.cells = (l.flatMap Bx.cells).take (i * 4) := by
  conv => rhs; rw [← List.take_append_drop i l, List.flatMap_append]
  rw [List.take_left' (by rw [flat_len Bx.cells 4 (fun _ => rfl), List.length_take]; omega)]
 unfold BxsAt
 rw [e]
 refine ⟨by rw [List.length_take, flat_len Bx.cells 4 (fun _ => rfl), List.length_take]; omega, fun hp => ?_⟩
 obtain ⟨ad, e1, hc⟩ := h.2 (by rw [List.length_take] at hp; omega)
 refine ⟨ad, e1, fun j u hj => hc j u ?_⟩
 rw [List.getElem?_take] at hj
 split at hj
 · exact hj
 · cases hj
end Go.Proofs.YthobmednnocklaaGreatDoor


/-! forms.checkValue. -/
namespace Go.Proofs.YthobmednnocklaaGreatDoor
open Go.RowKit Go.Shelf

/-- What checkValue leaves: all that lay in w0, and every block but the map's. -/
def VPost (w0 w : World) (gm : Nat) (ks : List (List UInt8)) (nm : List UInt8) (e : Int) (w' : World) : Prop :=
 (e = 0 → MapAt w' gm (ks ++ [nm])) ∧ Bl w0 w' ∧ ∀ k, k < w.heap.size → k ≠ gm → w'.heap[k]? = w.heap[k]?
theorem bl_block {w w' : World} (h : Bl w w') : ∀ k, k < w.heap.size → w'.heap[k]? = w.heap[k]? := fun k hk => Below.block h k hk
end Go.Proofs.YthobmednnocklaaGreatDoor


/-! bedref2.boxesOf, fieldError. -/
namespace Go.Proofs.YthobmednnocklaaGreatDoor
open Go.RowKit Go.Shelf

theorem firstNZ_nest (a b : List Int) : firstNZ (firstNZ a :: b) = firstNZ (a ++ b) := by
 induction a with
 | nil => exact firstNZ_0
 | cons x a ih =>
  by_cases hx : x = 0
  · rw [firstNZ_eq hx, List.cons_append, firstNZ_eq hx, ih]
  · rw [List.cons_append, firstNZ_stop hx, firstNZ_stop hx, firstNZ_stop hx]
theorem firstNZ_snoc (l m : List Int) : firstNZ (l ++ [firstNZ m]) = firstNZ (l ++ m) := by
 induction l with
 | nil =>
  show (if firstNZ m = 0 then 0 else firstNZ m) = firstNZ m
  split
  · rename_i h; rw [h]
  · rfl
 | cons x l ih =>
  by_cases hx : x = 0
  · rw [List.cons_append, firstNZ_eq hx, List.cons_append, firstNZ_eq hx, ih]
  · rw [List.cons_append, List.cons_append, firstNZ_stop hx, firstNZ_stop hx]
/-- The three parts of a field's error. -/
theorem fldE_parts (W H : Int) (tw : Bool) (f : Fld) : fldE W H tw f = firstNZ [firstNZ [whenI (!nameB f.name) 5, whenI tw 6, whenI (!inB f.kind 1 4) 1], firstNZ [firstNZ [firstNZ [(if marksB f.kind then whenI (!decide (f.box = Bx.zero)) 2 else whenI (!f.box.inP W H) 13), whenI (marksB f.kind != decide (0 < f.marks.length)) 2, whenI (decide (20 < f.marks.length)) 4], placesErr W H f.marks], whenI (!inB f.most 0 1000) 3, whenI (!decide (f.kind = 1) && !decide (f.most = 0)) 2]] := by
 have h1 : ∀ (c : List Int) (p r1 r2 : Int), firstNZ [firstNZ [firstNZ c, p], r1, r2] = firstNZ (c ++ [p, r1, r2]) := fun c p r1 r2 => by
  rw [firstNZ_nest, List.cons_append, firstNZ_nest]; rfl
 rw [h1, firstNZ_nest, firstNZ_snoc]
 rfl
/-- The error of places, one by one. -/
def placesTo (e : Int) (W H : Int) (l : List Bx) : Int := firstNZ [e, placesErr W H l]
theorem placesErr_snoc (W H : Int) (l : List Bx) (b : Bx) : firstNZ [placesErr W H l, whenI (!b.inP W H) 13] = placesErr W H (l ++ [b]) := by
 unfold placesErr
 rw [List.any_append]
 cases h1 : (l.any fun b => !b.inP W H) <;> cases h2 : b.inP W H <;> simp [h2, whenI, firstNZ]
theorem placesTo_snoc (e W H : Int) (l : List Bx) (b : Bx) : firstNZ [placesTo e W H l, whenI (!b.inP W H) 13] = placesTo e W H (l ++ [b]) := by
 unfold placesTo
 rw [← placesErr_snoc]
 by_cases h : e = 0
 · rw [firstNZ_eq h, firstNZ_eq h, firstNZ_nest, firstNZ_nest]; simp [firstNZ]
 · rw [firstNZ_stop h, firstNZ_stop h, firstNZ_stop h]
theorem prev_names (fs : List Fld) (t : List UInt8) : decide (∃ l ∈ fs, isName t l = true) = decide (t ∈ fs.map Fld.name) := by
 apply decide_eq_decide.2
 constructor
 · rintro ⟨l, hl, h⟩
   exact List.mem_map.2 ⟨l, hl, of_decide_eq_true h⟩
 · intro h
   obtain ⟨l, hl, h2⟩ := List.mem_map.1 h
   exact ⟨l, hl, decide_eq_true h2⟩
theorem FldsAt.take {w : World} {L : Option Addr} {l : List Fld} (h : FldsAt w L l) (i : Nat) (hi : i ≤ l.length) : FldsAt w L (l.take i) := by
 have e : (l.take i).flatMap Fld.cells = (l.flatMap Fld.cells).take (i * 9) := by
  conv => rhs; rw [← List.take_append_drop i l, List.flatMap_append]
  rw [List.take_left' (by rw [flat_len Fld.cells 9 (fun _ => rfl), List.length_take]; omega)]
 refine ⟨?_, fun f hf => h.2 f (List.mem_of_mem_take hf)⟩
 rw [e]
 refine ⟨by rw [List.length_take, flat_len Fld.cells 9 (fun _ => rfl), List.length_take]; omega, fun hp => ?_⟩
 obtain ⟨ad, e1, hc⟩ := h.1.2 (by rw [List.length_take] at hp; omega)
 refine ⟨ad, e1, fun j u hj => hc j u ?_⟩
 rw [List.getElem?_take] at hj
 split at hj
 · exact hj
 · cases hj
set_option maxRecDepth 100000 in
set_option maxHeartbeats 1000000 in
theorem fieldError1_any (b : Nat) (x y : Fld) (w : World) (hb : Blk w b 136 #[.string ⟨x.name.toArray⟩, .int .i64 x.kind, .int .i64 x.box.X, .int .i64 x.box.Y, .int .i64 x.box.W, .int .i64 x.box.H, .slice x.M x.marks.length x.mc, .int .i64 x.most, .bool x.needed]) :
 Calls Tryz.prog 137 #[y.val, .pointer (some ⟨b, 0, none⟩)] w fun e w' => e = .returned (.bool (isName x.name y)) ∧ Bl w w' := by
 have k1 := hb.all9
 have hlt := hb.lt
 obtain ⟨nm, hnm⟩ : ∃ n, n = x.name := ⟨_, rfl⟩
 rw [← hnm] at k1 ⊢
 clear hnm hb
 unfold Fld.val isName
 by_cases he : y.name = nm
 · rw [decide_eq_true he]
   go_enter Tryz.func137, Tryz.ntmps137
   go_wp2_with fail
   go_ret
   exact ⟨by simp [he], (Bl.refl _).alloc _⟩
 · rw [decide_eq_false he]
   go_enter Tryz.func137, Tryz.ntmps137
   go_wp2_with fail
   go_ret
   exact ⟨by simp [he], (Bl.refl _).alloc _⟩
/-- Was the name met before? -/
theorem field_twice (L : Option Addr) (c : Nat) (fs : List Fld) (i : Nat) (hi : i ≤ fs.length) (b : Nat) (x : Fld) (w : World) (hL : FldsAt w L fs) (hb : Blk w b 136 #[.string ⟨x.name.toArray⟩, .int .i64 x.kind, .int .i64 x.box.X, .int .i64 x.box.Y, .int .i64 x.box.W, .int .i64 x.box.H, .slice x.M x.marks.length x.mc, .int .i64 x.most, .bool x.needed]) (hn : fs.length ≤ 9223372036854775807) :
 ∀ wx, Bl w wx → Calls Tryz.prog 136 #[.slice L i c, .func (.func 137) #[] #[.pointer (some ⟨b, 0, none⟩)]] wx fun e w' => e = .returned (.bool (decide (x.name ∈ (fs.take i).map Fld.name))) ∧ Bl wx w' := by
 intro wx hx
 have hl : (fs.take i).length = i := by simp; omega
 have hT : TestsG Fld.val Tryz.prog 137 #[.pointer (some ⟨b, 0, none⟩)] wx (fs.take i) (isName x.name) :=
  ⟨enters Tryz.func137 (by kernel_rfl) rfl, fun wy y hy _ => fieldError1_any b x y wy (hb.bl (hx.trans hy))⟩
 have h := fldContains_any L c (fs.take i) _ _ _ wx ((hL.bl hx).take i hi) hT (by omega)
 rw [hl] at h
 rw [← prev_names]
 exact h

set_option maxRecDepth 100000 in
set_option maxHeartbeats 8000000 in
theorem fieldError_any (f : Frm) (i : Nat) (x : Fld) (W H : Nat) (w : World) (hfW : f.W = (W : Int)) (hfH : f.H = (H : Int)) (hW : 1 ≤ W ∧ W ≤ 4000) (hH : 1 ≤ H ∧ H ≤ 4000) (hF : FrmAt w f) (hx : f.lf[i]? = some x) :
 Calls Tryz.prog 70 #[f.val, .int .i64 i] w fun e w' => e = .returned (.int .i64 (fldErr W H ((f.lf.take i).map Fld.name) x)) ∧ Bl w w' := by
 obtain ⟨nm, fW, fH, reach, dark, AL, ac, la, FL, fc, lf, RL, rc, lr⟩ := f
 simp only at hfW hfH hx
 subst hfW hfH
 obtain ⟨FE, hFE⟩ : ∃ y, y = fldErr W H ((lf.take i).map Fld.name) x := ⟨_, rfl⟩
 show Calls _ _ _ w fun e w' => e = .returned (.int .i64 (fldErr W H ((lf.take i).map Fld.name) x)) ∧ Bl w w'
 rw [← hFE]
 obtain ⟨tw, htw⟩ : ∃ y, y = decide (x.name ∈ (lf.take i).map Fld.name) := ⟨_, rfl⟩
 have hFE2 : FE = fldE W H tw x := by rw [hFE, htw]; rfl
 have HFE := Lib.hid hFE2
 have hilt : i < lf.length := (List.getElem?_eq_some_iff.1 hx).1
 have hfn := hF.fn
 have hfn2 : lf.length ≤ fc ∧ lf.length ≤ 9223372036854775807 := hF.fn
 obtain ⟨hM, hmc, hml, hnl⟩ := hF.flds.2 x (List.mem_of_getElem? hx)
 let w1 := (w).alloc (.cells #[.string ⟨nm.toArray⟩, .int .i64 W, .int .i64 H, .int .i64 reach, .int .i64 dark, .slice AL la.length ac, .slice FL lf.length fc, .slice RL lr.length rc] 75)
 have w1b : Bl w w1 := (Bl.refl w).alloc _
 have w11 : Blk w1 (w.heap.size) 75 #[.string ⟨nm.toArray⟩, .int .i64 W, .int .i64 H, .int .i64 reach, .int .i64 dark, .slice AL la.length ac, .slice FL lf.length fc, .slice RL lr.length rc] := by
  have h0 := Blk.new (w) 75 #[.string ⟨nm.toArray⟩, .int .i64 W, .int .i64 H, .int .i64 reach, .int .i64 dark, .slice AL la.length ac, .slice FL lf.length fc, .slice RL lr.length rc]
  exact h0
 have hFl : FldsAt w1 FL lf := FldsAt.bl hF.flds w1b
 obtain ⟨ad, e1, j1, j2, j3, j4, j5, j6, j7, j8, j9⟩ := hFl.at_ hx
 have hnm := fun wx => nameOf_any ⟨x.name.toArray⟩ wx (by rw [Lib.size_mk]; exact hnl)
 have HNm := Lib.hid hnm; have HFl := Lib.hid hFl; have HM := Lib.hid (hM.bl w1b); have Htw := Lib.hid htw
 have k1 := w11.all8
 have HW1b := Lib.hid w1b
 unfold Frm.val
 clear hF hnm hFl hM hFE hFE2 htw w1b hfn hx
 subst e1
 go_enter Tryz.func70, Tryz.ntmps70
 go_upto_region 1 with fail
 rw [show w.alloc (.cells #[.string ⟨nm.toArray⟩, .int .i64 W, .int .i64 H, .int .i64 reach, .int .i64 dark, .slice AL la.length ac, .slice (some ad) lf.length fc, .slice RL lr.length rc] 75) = w1 from rfl]
 clear_value w1
 go_upto_region 2 with fail
 obtain ⟨w2, hw2⟩ : ∃ y, y = w1.alloc (.cells #[.string ⟨x.name.toArray⟩, .int .i64 x.kind, .int .i64 x.box.X, .int .i64 x.box.Y, .int .i64 x.box.W, .int .i64 x.box.H, .slice x.M x.marks.length x.mc, .int .i64 x.most, .bool x.needed] 136) := ⟨_, rfl⟩
 have b2 : Blk w2 w1.heap.size 136 #[.string ⟨x.name.toArray⟩, .int .i64 x.kind, .int .i64 x.box.X, .int .i64 x.box.Y, .int .i64 x.box.W, .int .i64 x.box.H, .slice x.M x.marks.length x.mc, .int .i64 x.most, .bool x.needed] := by rw [hw2]; exact Blk.new _ _ _
 have hb2 : Bl w1 w2 := by rw [hw2]; exact (Bl.refl _).alloc _
 rw [← hw2]
 have k1 := (w11.bl hb2).all8
 have k2 := b2.all9
 have htwi := field_twice (some ad) fc lf i (by omega) w1.heap.size x w2 (HFl.out.bl hb2) b2 hfn2.2
 rw [← Htw.out] at htwi
 have Htwi := Lib.hid htwi
 have hic : (i : Int) ≤ (fc : Int) := by omega
 obtain ⟨E1, hE1⟩ : ∃ e, e = firstNZ [whenI (!nameB x.name) 5, whenI tw 6, whenI (!inB x.kind 1 4) 1] := ⟨_, rfl⟩
 have HE1 := Lib.hid hE1
 have B2 := Lib.hid b2; have Hb2 := Lib.hid hb2
 clear hw2 htwi hE1 b2 hb2 j1 j2 j3 j4 j5 j6 j7 j8 j9
 refine wp_region_flow [(true, 0), (true, 1), (true, 5), (true, 6), (true, 7), (true, 8), (true, 9), (true, 12), (true, 13), (false, 2), (true, 3), (false, 4), (false, 10), (false, 11), (false, 14), (true, 15), (false, 16), (false, 17), (false, 18), (true, 19)] (fun _ => false) (by kernel_rfl) (by kernel_rfl) (by kernel_rfl) (by kernel_rfl) ?_
 iterate 4
  apply Flow.calm2 _ _ rfl rfl
  · intro w' hb' K' hK'
    obtain ⟨hc', hf'⟩ := hb'.rule
    go_simp
    try go_ints
    exact hK'
  · intro K' hK'
    simp only [sqA]
    exact hK'
 iterate 1
  apply Flow.mv _ rfl
  · intro K' hK'
    simp only [sqA, Act.eval, arr_getD, List.getD_cons_zero, List.getD_cons_succ]
    exact hK'
 iterate 4
  apply Flow.calm2 _ _ rfl rfl
  · intro w' hb' K' hK'
    obtain ⟨hc', hf'⟩ := hb'.rule
    go_simp
    try go_ints
    exact hK'
  · intro K' hK'
    simp only [sqA]
    exact hK'
 apply Flow.move rfl
 go_wp2_with fail
 refine (HNm.out _).mono ?_
 rintro e w3 ⟨rfl, HB1⟩
 have hb3 : Bl w2 w3 := Bl.ofDrew HB1
 have k1 := (w11.bl (Hb2.out.trans hb3)).all8
 have k2 := (B2.out.bl hb3).all9
 go_wp2_with fail
 refine ⟨fun _ => (by first | exact HB1 | exact Bl.refl _), ?_⟩
 iterate 1
  apply Flow.calm2 _ _ rfl rfl
  · intro w' hb' K' hK'
    obtain ⟨hc', hf'⟩ := hb'.rule
    go_simp
    try go_ints
    exact hK'
  · intro K' hK'
    simp only [sqA]
    exact hK'
 apply Flow.move rfl
 go_wp2_with fail
 refine (when_any _ _ _).mono ?_
 rintro e w' ⟨rfl, rfl⟩
 go_wp2_with fail
 refine ⟨fun _ => (by first | exact HB2 | exact Bl.refl _), ?_⟩
 apply Flow.move rfl
 go_wp2_with fail
 refine (Htwi.out _ hb3).mono ?_
 rintro e w4 ⟨rfl, HB3⟩
 have hb4 : Bl w2 w4 := hb3.trans HB3
 have k1 := (w11.bl (Hb2.out.trans hb4)).all8
 have k2 := (B2.out.bl hb4).all9
 go_wp2_with fail
 refine ⟨fun _ => (by first | exact HB3 | exact Bl.refl _), ?_⟩
 apply Flow.move rfl
 go_wp2_with fail
 refine (when_any _ _ _).mono ?_
 rintro e w' ⟨rfl, rfl⟩
 go_wp2_with fail
 refine ⟨fun _ => (by first | exact HB4 | exact Bl.refl _), ?_⟩
 apply Flow.move rfl
 go_wp2_with fail
 refine (in_any _ _ _ _).mono ?_
 rintro e w' ⟨rfl, rfl⟩
 go_wp2_with fail
 refine ⟨fun _ => (by first | exact HB5 | exact Bl.refl _), ?_⟩
 iterate 1
  apply Flow.calm2 _ _ rfl rfl
  · intro w' hb' K' hK'
    obtain ⟨hc', hf'⟩ := hb'.rule
    go_simp
    try go_ints
    exact hK'
  · intro K' hK'
    simp only [sqA]
    exact hK'
 apply Flow.move rfl
 go_wp2_with fail
 refine (when_any _ _ _).mono ?_
 rintro e w' ⟨rfl, rfl⟩
 go_wp2_with fail
 refine ⟨fun _ => (by first | exact HB6 | exact Bl.refl _), ?_⟩
 apply Flow.move rfl
 go_wp2_with fail
 first | refine ⟨fun _ => ?_, ?_⟩ | refine ⟨?_, ?_⟩
 · repeat' (first | exact Bl.refl _ | refine Bl.drewL ?_ | refine Bl.drew ?_ | refine Bl.alloc ?_ _)
 apply Flow.move rfl
 go_wp2_with fail
 refine (first3_any _ _ _ _ _ (Blk.new _ _ _)).mono ?_
 rintro e w' ⟨rfl, rfl⟩
 go_wp2_with fail
 refine ⟨fun _ => (by first | exact HB8 | exact Bl.refl _), ?_⟩
 iterate 1
  apply Flow.asg _ rfl
  · intro K' hK'
    simp only [sqA, Act.eval, arr_getD, List.getD_cons_zero, List.getD_cons_succ]
    exact hK'
 refine Flow.done ?_
 rw [← HE1.out]
 have hb5 : Bl w2 (w4.alloc (.cells #[.int .i64 (whenI (!nameB x.name) 5), .int .i64 (whenI tw 6), .int .i64 (whenI (!inB x.kind 1 4) 1)] 31)) := hb4.alloc _
 obtain ⟨w5, hw5⟩ : ∃ y, y = w4.alloc (.cells #[.int .i64 (whenI (!nameB x.name) 5), .int .i64 (whenI tw 6), .int .i64 (whenI (!inB x.kind 1 4) 1)] 31) := ⟨_, rfl⟩
 rw [← hw5] at hb5 ⊢
 have Hb5 := Lib.hid hb5
 have k1 := (w11.bl (Hb2.out.trans hb5)).all8
 have k2 := (B2.out.bl hb5).all9
 have HE2 := Lib.hid (HFE.out.trans (fldE_parts W H tw x))
 clear hb3 hb4 hb5 HB1 HB3 hw5
 by_cases hz1 : E1 = 0
 case neg =>
  have hq : (E1 != 0) = true := by simp [hz1]
  have HX := Lib.hid (show FE = E1 by rw [HE2.out, ← HE1.out, firstNZ_stop hz1])
  clear hz1
  go_wp2_with fail
  go_ret
  exact ⟨by rw [HX.out]; rfl, HW1b.out.trans (Hb2.out.trans Hb5.out)⟩
 have hq : (E1 != 0) = false := by simp [hz1]
 obtain ⟨mk, hmk⟩ : ∃ b, b = marksB x.kind := ⟨_, rfl⟩
 have hmr := fun wx => marksR_any x.kind wx
 rw [← hmk] at hmr
 obtain ⟨E4, hE4⟩ : ∃ e, e = (if mk = true then whenI (!decide (x.box = Bx.zero)) 2 else whenI (!x.box.inP W H) 13) := ⟨_, rfl⟩
 obtain ⟨E5, hE5⟩ : ∃ e, e = firstNZ [E4, whenI (mk != decide (0 < x.marks.length)) 2, whenI (decide (20 < x.marks.length)) 4] := ⟨_, rfl⟩
 have HE3 := Lib.hid (show FE = firstNZ [placesTo E5 W H x.marks, whenI (!inB x.most 0 1000) 3, whenI (!decide (x.kind = 1) && !decide (x.most = 0)) 2] by
  rw [HE2.out, ← HE1.out, hz1, firstNZ_0, ← hmk, ← hE4, ← hE5]
  generalize whenI (!inB x.most 0 1000) 3 = r1
  generalize whenI (!decide (x.kind = 1) && !decide (x.most = 0)) 2 = r2
  show (if firstNZ [placesTo E5 W H x.marks, r1, r2] = 0 then 0 else firstNZ [placesTo E5 W H x.marks, r1, r2]) = _
  split
  · rename_i h; rw [h]
  · rfl)
 have Hmr := Lib.hid hmr; have HE4 := Lib.hid hE4; have HE5 := Lib.hid hE5
 clear hz1 hmr hmk hE4 hE5 HE2
 go_upto_if 39 with (go_at_call 79; refine (Hmr.out _).mono ?_; rintro e w' ⟨rfl, rfl⟩)
 go_cut [7] from 40 to 54 (fun s wc => s = .int .i64 E4 ∧ Bl w5 wc)
 case first =>
  cases mk with
  | true =>
   have hne0 := fun w' => neq_bx x.box ⟨0, 0, 0, 0⟩ w'
   obtain ⟨bz, hbz⟩ : ∃ b, b = (!decide (x.box = ⟨0, 0, 0, 0⟩)) := ⟨_, rfl⟩
   rw [← hbz] at hne0
   have HX := Lib.hid (show E4 = whenI bz 2 by rw [HE4.out, if_pos rfl, hbz]; try rfl)
   clear hbz
   go_wp2_with (go_at_call 10; refine (when_any _ _ _).mono ?_; rintro e w' ⟨rfl, rfl⟩)
   go_meet
   case rel => exact ⟨by rw [HX.out], Bl.refl _⟩
  | false =>
   have hip := fun wx => inPageOf_any x.box.X x.box.Y x.box.W x.box.H W H wx
   rw [inPageW_eq (show 1 ≤ (W : Int) ∧ (W : Int) ≤ 4000 by omega) (show 1 ≤ (H : Int) ∧ (H : Int) ≤ 4000 by omega)] at hip
   have Hip := Lib.hid hip
   have HX := Lib.hid (show E4 = whenI (!x.box.inP W H) 13 by rw [HE4.out]; rfl)
   clear hip
   go_wp2_with fail
   refine (Hip.out _).mono ?_
   rintro e w6 ⟨rfl, hb6⟩
   go_wp2_with (go_at_call 10; refine (when_any _ _ _).mono ?_; rintro e w' ⟨rfl, rfl⟩)
   go_meet
   case rel => exact ⟨by rw [HX.out]; rfl, hb6⟩
 case rest =>
 rename World => w6
 obtain ⟨rfl, hb6⟩ := hcut
 have Hb6 := Lib.hid (Hb5.out.trans hb6)
 have k1 := (w11.bl (Hb2.out.trans Hb6.out)).all8
 have k2 := (B2.out.bl Hb6.out).all9
 have len20 : decide (20 < (x.marks.length : Int)) = decide (20 < x.marks.length) := decide_eq_decide.2 (by omega)
 have hf5 : firstNZ [E4, whenI (!mk == decide (0 < x.marks.length)) 2, whenI (decide (20 < (x.marks.length : Int))) 4] = E5 := by rw [HE5.out, len20]; cases mk <;> cases decide (0 < x.marks.length) <;> rfl
 have HF5 := Lib.hid hf5
 clear len20 hf5 hb6
 go_upto_region 9 with fail
 refine wp_region_flow [(true, 0), (true, 1), (true, 2), (true, 4), (true, 5), (true, 6), (true, 7), (true, 10), (true, 11), (true, 12), (true, 13), (false, 3), (true, 8), (false, 9), (false, 14), (false, 15), (false, 16), (true, 17)] (fun _ => false) (by kernel_rfl) (by kernel_rfl) (by kernel_rfl) (by kernel_rfl) ?_
 iterate 1
  apply Flow.mv _ rfl
  · intro K' hK'
    simp only [sqA, Act.eval, arr_getD, List.getD_cons_zero, List.getD_cons_succ]
    exact hK'
 iterate 10
  apply Flow.calm2 _ _ rfl rfl
  · intro w' hb' K' hK'
    obtain ⟨hc', hf'⟩ := hb'.rule
    go_simp
    try go_ints
    exact hK'
  · intro K' hK'
    simp only [sqA]
    exact hK'
 apply Flow.move rfl
 go_wp2_with fail
 refine (Hmr.out _).mono ?_
 rintro e w' ⟨rfl, rfl⟩
 go_wp2_with fail
 refine ⟨fun _ => (by first | exact HB1 | exact Bl.refl _), ?_⟩
 iterate 1
  apply Flow.calm2 _ _ rfl rfl
  · intro w' hb' K' hK'
    obtain ⟨hc', hf'⟩ := hb'.rule
    go_simp
    try go_ints
    exact hK'
  · intro K' hK'
    simp only [sqA]
    exact hK'
 apply Flow.move rfl
 go_wp2_with fail
 refine (when_any _ _ _).mono ?_
 rintro e w' ⟨rfl, rfl⟩
 go_wp2_with fail
 refine ⟨fun _ => (by first | exact HB2 | exact Bl.refl _), ?_⟩
 apply Flow.move rfl
 go_wp2_with fail
 refine (when_any _ _ _).mono ?_
 rintro e w' ⟨rfl, rfl⟩
 go_wp2_with fail
 refine ⟨fun _ => (by first | exact HB3 | exact Bl.refl _), ?_⟩
 apply Flow.move rfl
 go_wp2_with fail
 first | refine ⟨fun _ => ?_, ?_⟩ | refine ⟨?_, ?_⟩
 · repeat' (first | exact Bl.refl _ | refine Bl.drewL ?_ | refine Bl.drew ?_ | refine Bl.alloc ?_ _)
 apply Flow.move rfl
 go_wp2_with fail
 refine (first3_any _ _ _ _ _ (Blk.new _ _ _).drew).mono ?_
 rintro e w' ⟨rfl, rfl⟩
 go_wp2_with fail
 refine ⟨fun _ => (by first | exact HB5 | exact Bl.refl _), ?_⟩
 iterate 1
  apply Flow.asg _ rfl
  · intro K' hK'
    simp only [sqA, Act.eval, arr_getD, List.getD_cons_zero, List.getD_cons_succ]
    exact hK'
 refine Flow.done ?_
 rw [HF5.out]
 obtain ⟨w7, hw7⟩ : ∃ y, y = (w6.alloc (.cells #[.int .i64 E4, .int .i64 (whenI (!mk == decide (0 < x.marks.length)) 2), .int .i64 (whenI (decide (20 < (x.marks.length : Int))) 4)] 31)).drew := ⟨_, rfl⟩
 have hb7 : Bl w6 w7 := by rw [hw7]; exact ((Bl.refl _).alloc _).drew
 rw [← hw7]
 have Hb7 := Lib.hid (Hb6.out.trans hb7)
 have k1 := (w11.bl (Hb2.out.trans Hb7.out)).all8
 have k2 := (B2.out.bl Hb7.out).all9
 have HMx := Lib.hid (BxsAt.bl HM.out (Hb2.out.trans Hb7.out))
 have him := fun (b : Bx) wx => inPageOf_any b.X b.Y b.W b.H W H wx
 simp only [inPageW_eq (show 1 ≤ (W : Int) ∧ (W : Int) ≤ 4000 by omega) (show 1 ≤ (H : Int) ∧ (H : Int) ≤ 4000 by omega)] at him
 have Him := Lib.hid him
 have Hp0 := Lib.hid (show E5 = placesTo E5 W H (x.marks.take 0) by
  unfold placesTo placesErr
  simp only [List.take_zero, List.any_nil, whenI_false]
  show E5 = if E5 = 0 then 0 else E5
  split
  · rename_i h; exact h
  · rfl)
 clear hw7 hb7 him Hmr Htwi HNm HF5
 go_wp2_with fail
 go_loopw [7, 74] (fun p u wr => ∃ i : Nat, i ≤ x.marks.length ∧ u = .int .i64 i ∧ p = .int .i64 (placesTo E5 W H (x.marks.take i)) ∧ Bl w7 wr) (fun _ u _ => x.marks.length - (RowKit.intOf u).toNat)
 case atStart => exact ⟨0, Nat.zero_le _, rfl, by rw [← Hp0.out], Bl.refl _⟩
 case round =>
  clear k1 k2
  obtain ⟨k, hk, rfl, rfl, hbr⟩ := hrel
  have k1 := (w11.bl (Hb2.out.trans (Hb7.out.trans hbr))).all8
  have k2 := (B2.out.bl (Hb7.out.trans hbr)).all9
  by_cases hlt : k < x.marks.length
  · have hg : x.marks[k]? = some x.marks[k] := List.getElem?_eq_getElem hlt
    obtain ⟨b, hb⟩ : ∃ l, l = x.marks[k] := ⟨_, rfl⟩
    rw [← hb] at hg
    obtain ⟨adM, e1, j1, j2, j3, j4⟩ := BxsAt.at_ (BxsAt.bl HMx.out hbr) hg
    have hst := placesTo_snoc E5 W H (x.marks.take k) b
    rw [← take_snoc hg] at hst
    obtain ⟨PE, hPE⟩ : ∃ e, e = placesTo E5 W H (x.marks.take k) := ⟨_, rfl⟩
    rw [← hPE] at hst ⊢
    have Hst := Lib.hid hst; have Hbr := Lib.hid hbr
    clear hg hb hst hPE hbr
    rw [e1] at k2 ⊢
    go_upto_region 13 with fail
    obtain ⟨w8, hw8⟩ : ∃ y, y = wr.alloc (.cells #[.int .i64 b.X, .int .i64 b.Y, .int .i64 b.W, .int .i64 b.H] 26) := ⟨_, rfl⟩
    have b8 : Blk w8 wr.heap.size 26 #[.int .i64 b.X, .int .i64 b.Y, .int .i64 b.W, .int .i64 b.H] := by rw [hw8]; exact Blk.new _ _ _
    have hb8 : Bl wr w8 := by rw [hw8]; exact (Bl.refl _).alloc _
    rw [← hw8]
    have Hb8 := Lib.hid (Hbr.out.trans hb8)
    have k1 := (w11.bl (Hb2.out.trans (Hb7.out.trans Hb8.out))).all8
    have k3 := b8.all4
    clear hw8 b8 hb8 j1 j2 j3 j4
    go_wp2_with fail
    refine (Him.out b _).mono ?_
    rintro e w9 ⟨rfl, hb9⟩
    have Hb9 := Lib.hid (Hb8.out.trans hb9)
    clear hb9 k3
    rw [← e1]
    go_wp2_with (first | (go_at_call 10; refine (when_any _ _ _).mono ?_; rintro e w' ⟨rfl, rfl⟩) | (go_at_call 7; refine (first2_any _ _ _ _ (Blk.new _ _ _)).mono ?_; rintro e w' ⟨rfl, rfl⟩))
    exact ⟨⟨k + 1, hlt, by go_num, by rw [← Hst.out]; rfl, Hb9.out.alloc _⟩, by simp [RowKit.intOf]; omega⟩
  · obtain rfl : k = x.marks.length := by omega
    rw [List.take_length]
    have HK1 := Lib.hid k1
    go_upto_region 15 with fail
    by_cases c1 : x.kind = 1
    · have q1 : (x.kind != 1) = false := by simp [c1]
      have hf : firstNZ [placesTo E5 W H x.marks, whenI (!inB x.most 0 1000) 3, whenI false 2] = FE := by rw [HE3.out, decide_eq_true c1]; rfl
      have HFL := Lib.hid hf
      clear hf
      refine wp_region_flow [(true, 0), (true, 1), (true, 2), (true, 6), (true, 7), (true, 8), (false, 3), (true, 4), (false, 5), (true, 9), (true, 10), (true, 11), (true, 12), (true, 13), (false, 14), (false, 15), (false, 16), (true, 17)] (fun _ => false) (by kernel_rfl) (by kernel_rfl) (by kernel_rfl) (by kernel_rfl) ?_
      iterate 1
       apply Flow.mv _ rfl
       · intro K' hK'
         simp only [sqA, Act.eval, arr_getD, List.getD_cons_zero, List.getD_cons_succ]
         exact hK'
      iterate 5
       apply Flow.calm2 _ _ rfl rfl
       · intro w' hb' K' hK'
         obtain ⟨hc', hf'⟩ := hb'.rule
         go_simp
         try go_ints
         exact hK'
       · intro K' hK'
         simp only [sqA]
         exact hK'
      apply Flow.move rfl
      go_wp2_with fail
      refine (in_any _ _ _ _).mono ?_
      rintro e w' ⟨rfl, rfl⟩
      go_wp2_with fail
      refine ⟨fun _ => (by first | exact HB1 | exact Bl.refl _), ?_⟩
      iterate 1
       apply Flow.calm2 _ _ rfl rfl
       · intro w' hb' K' hK'
         obtain ⟨hc', hf'⟩ := hb'.rule
         go_simp
         try go_ints
         exact hK'
       · intro K' hK'
         simp only [sqA]
         exact hK'
      apply Flow.move rfl
      go_wp2_with fail
      refine (when_any _ _ _).mono ?_
      rintro e w' ⟨rfl, rfl⟩
      go_wp2_with fail
      refine ⟨fun _ => (by first | exact HB2 | exact Bl.refl _), ?_⟩
      iterate 1
       apply Flow.mv _ rfl
       · intro K' hK'
         simp only [sqA, Act.eval, arr_getD, List.getD_cons_zero, List.getD_cons_succ]
         exact hK'
      iterate 3
       first
        | (apply Flow.pass rfl (by rfl))
        | (apply Flow.calmG _ rfl (by rfl)
           · intro w' hb'
             obtain ⟨hc', hf'⟩ := hb'.rule
             go_simp
             all_goals (try rfl))
       simp only [sqA]
       try go_ints
      iterate 1
       apply Flow.calm2 _ _ rfl rfl
       · intro w' hb' K' hK'
         obtain ⟨hc', hf'⟩ := hb'.rule
         go_simp
         try go_ints
         exact hK'
       · intro K' hK'
         simp only [sqA]
         exact hK'
      apply Flow.move rfl
      go_wp2_with fail
      refine (when_any _ _ _).mono ?_
      rintro e w' ⟨rfl, rfl⟩
      go_wp2_with fail
      refine ⟨fun _ => (by first | exact HB3 | exact Bl.refl _), ?_⟩
      apply Flow.move rfl
      go_wp2_with fail
      first | refine ⟨fun _ => ?_, ?_⟩ | refine ⟨?_, ?_⟩
      · repeat' (first | exact Bl.refl _ | refine Bl.drewL ?_ | refine Bl.drew ?_ | refine Bl.alloc ?_ _)
      apply Flow.move rfl
      go_wp2_with fail
      refine (first3_any _ _ _ _ _ (Blk.new _ _ _).drew).mono ?_
      rintro e w' ⟨rfl, rfl⟩
      go_wp2_with fail
      refine ⟨fun _ => (by first | exact HB5 | exact Bl.refl _), ?_⟩
      iterate 1
       apply Flow.asg _ rfl
       · intro K' hK'
         simp only [sqA, Act.eval, arr_getD, List.getD_cons_zero, List.getD_cons_succ]
         exact hK'
      refine Flow.done ?_
      rw [HFL.out]
      go_wp2_with fail
      go_ret
      exact ⟨rfl, HW1b.out.trans (Hb2.out.trans (((Hb7.out.trans hbr).alloc _).drew))⟩
    · have q1 : (x.kind != 1) = true := by simp [c1]
      by_cases c2 : x.most = 0
      · have q2 : (x.most != 0) = false := by simp [c2]
        have hf : firstNZ [placesTo E5 W H x.marks, whenI (!inB x.most 0 1000) 3, whenI false 2] = FE := by rw [HE3.out, decide_eq_false c1, decide_eq_true c2]; rfl
        have HFL := Lib.hid hf
        clear hf c2
        refine wp_region_flow [(true, 0), (true, 1), (true, 2), (true, 6), (true, 7), (true, 8), (false, 3), (true, 4), (false, 5), (true, 9), (true, 10), (true, 11), (true, 12), (true, 13), (false, 14), (false, 15), (false, 16), (true, 17)] (fun _ => false) (by kernel_rfl) (by kernel_rfl) (by kernel_rfl) (by kernel_rfl) ?_
        iterate 1
         apply Flow.mv _ rfl
         · intro K' hK'
           simp only [sqA, Act.eval, arr_getD, List.getD_cons_zero, List.getD_cons_succ]
           exact hK'
        iterate 5
         apply Flow.calm2 _ _ rfl rfl
         · intro w' hb' K' hK'
           obtain ⟨hc', hf'⟩ := hb'.rule
           go_simp
           try go_ints
           exact hK'
         · intro K' hK'
           simp only [sqA]
           exact hK'
        apply Flow.move rfl
        go_wp2_with fail
        refine (in_any _ _ _ _).mono ?_
        rintro e w' ⟨rfl, rfl⟩
        go_wp2_with fail
        refine ⟨fun _ => (by first | exact HB1 | exact Bl.refl _), ?_⟩
        iterate 1
         apply Flow.calm2 _ _ rfl rfl
         · intro w' hb' K' hK'
           obtain ⟨hc', hf'⟩ := hb'.rule
           go_simp
           try go_ints
           exact hK'
         · intro K' hK'
           simp only [sqA]
           exact hK'
        apply Flow.move rfl
        go_wp2_with fail
        refine (when_any _ _ _).mono ?_
        rintro e w' ⟨rfl, rfl⟩
        go_wp2_with fail
        refine ⟨fun _ => (by first | exact HB2 | exact Bl.refl _), ?_⟩
        iterate 1
         apply Flow.mv _ rfl
         · intro K' hK'
           simp only [sqA, Act.eval, arr_getD, List.getD_cons_zero, List.getD_cons_succ]
           exact hK'
        iterate 3
         first
          | (apply Flow.pass rfl (by rfl))
          | (apply Flow.calmG _ rfl (by rfl)
             · intro w' hb'
               obtain ⟨hc', hf'⟩ := hb'.rule
               go_simp
               all_goals (try rfl))
         simp only [sqA]
         try go_ints
        iterate 1
         apply Flow.calm2 _ _ rfl rfl
         · intro w' hb' K' hK'
           obtain ⟨hc', hf'⟩ := hb'.rule
           go_simp
           try go_ints
           exact hK'
         · intro K' hK'
           simp only [sqA]
           exact hK'
        apply Flow.move rfl
        go_wp2_with fail
        refine (when_any _ _ _).mono ?_
        rintro e w' ⟨rfl, rfl⟩
        go_wp2_with fail
        refine ⟨fun _ => (by first | exact HB3 | exact Bl.refl _), ?_⟩
        apply Flow.move rfl
        go_wp2_with fail
        first | refine ⟨fun _ => ?_, ?_⟩ | refine ⟨?_, ?_⟩
        · repeat' (first | exact Bl.refl _ | refine Bl.drewL ?_ | refine Bl.drew ?_ | refine Bl.alloc ?_ _)
        apply Flow.move rfl
        go_wp2_with fail
        refine (first3_any _ _ _ _ _ (Blk.new _ _ _).drew).mono ?_
        rintro e w' ⟨rfl, rfl⟩
        go_wp2_with fail
        refine ⟨fun _ => (by first | exact HB5 | exact Bl.refl _), ?_⟩
        iterate 1
         apply Flow.asg _ rfl
         · intro K' hK'
           simp only [sqA, Act.eval, arr_getD, List.getD_cons_zero, List.getD_cons_succ]
           exact hK'
        refine Flow.done ?_
        rw [HFL.out]
        go_wp2_with fail
        go_ret
        exact ⟨rfl, HW1b.out.trans (Hb2.out.trans (((Hb7.out.trans hbr).alloc _).drew))⟩
      · have q2 : (x.most != 0) = true := by simp [c2]
        have hf : firstNZ [placesTo E5 W H x.marks, whenI (!inB x.most 0 1000) 3, whenI true 2] = FE := by rw [HE3.out, decide_eq_false c1, decide_eq_false c2]; rfl
        have HFL := Lib.hid hf
        clear hf c2
        refine wp_region_flow [(true, 0), (true, 1), (true, 2), (true, 6), (true, 7), (true, 8), (false, 3), (true, 4), (false, 5), (true, 9), (true, 10), (true, 11), (true, 12), (true, 13), (false, 14), (false, 15), (false, 16), (true, 17)] (fun _ => false) (by kernel_rfl) (by kernel_rfl) (by kernel_rfl) (by kernel_rfl) ?_
        iterate 1
         apply Flow.mv _ rfl
         · intro K' hK'
           simp only [sqA, Act.eval, arr_getD, List.getD_cons_zero, List.getD_cons_succ]
           exact hK'
        iterate 5
         apply Flow.calm2 _ _ rfl rfl
         · intro w' hb' K' hK'
           obtain ⟨hc', hf'⟩ := hb'.rule
           go_simp
           try go_ints
           exact hK'
         · intro K' hK'
           simp only [sqA]
           exact hK'
        apply Flow.move rfl
        go_wp2_with fail
        refine (in_any _ _ _ _).mono ?_
        rintro e w' ⟨rfl, rfl⟩
        go_wp2_with fail
        refine ⟨fun _ => (by first | exact HB1 | exact Bl.refl _), ?_⟩
        iterate 1
         apply Flow.calm2 _ _ rfl rfl
         · intro w' hb' K' hK'
           obtain ⟨hc', hf'⟩ := hb'.rule
           go_simp
           try go_ints
           exact hK'
         · intro K' hK'
           simp only [sqA]
           exact hK'
        apply Flow.move rfl
        go_wp2_with fail
        refine (when_any _ _ _).mono ?_
        rintro e w' ⟨rfl, rfl⟩
        go_wp2_with fail
        refine ⟨fun _ => (by first | exact HB2 | exact Bl.refl _), ?_⟩
        iterate 1
         apply Flow.mv _ rfl
         · intro K' hK'
           simp only [sqA, Act.eval, arr_getD, List.getD_cons_zero, List.getD_cons_succ]
           exact hK'
        iterate 3
         first
          | (apply Flow.pass rfl (by rfl))
          | (apply Flow.calmG _ rfl (by rfl)
             · intro w' hb'
               obtain ⟨hc', hf'⟩ := hb'.rule
               go_simp
               all_goals (try rfl))
         simp only [sqA]
         try go_ints
        iterate 1
         apply Flow.calm2 _ _ rfl rfl
         · intro w' hb' K' hK'
           obtain ⟨hc', hf'⟩ := hb'.rule
           go_simp
           try go_ints
           exact hK'
         · intro K' hK'
           simp only [sqA]
           exact hK'
        apply Flow.move rfl
        go_wp2_with fail
        refine (when_any _ _ _).mono ?_
        rintro e w' ⟨rfl, rfl⟩
        go_wp2_with fail
        refine ⟨fun _ => (by first | exact HB3 | exact Bl.refl _), ?_⟩
        apply Flow.move rfl
        go_wp2_with fail
        first | refine ⟨fun _ => ?_, ?_⟩ | refine ⟨?_, ?_⟩
        · repeat' (first | exact Bl.refl _ | refine Bl.drewL ?_ | refine Bl.drew ?_ | refine Bl.alloc ?_ _)
        apply Flow.move rfl
        go_wp2_with fail
        refine (first3_any _ _ _ _ _ (Blk.new _ _ _).drew).mono ?_
        rintro e w' ⟨rfl, rfl⟩
        go_wp2_with fail
        refine ⟨fun _ => (by first | exact HB5 | exact Bl.refl _), ?_⟩
        iterate 1
         apply Flow.asg _ rfl
         · intro K' hK'
           simp only [sqA, Act.eval, arr_getD, List.getD_cons_zero, List.getD_cons_succ]
           exact hK'
        refine Flow.done ?_
        rw [HFL.out]
        go_wp2_with fail
        go_ret
        exact ⟨rfl, HW1b.out.trans (Hb2.out.trans (((Hb7.out.trans hbr).alloc _).drew))⟩

set_option maxRecDepth 100000 in
set_option maxHeartbeats 8000000 in
theorem boxesOf_any (f : Frm) (w : World) (hF : FrmAt w f) (ha : f.la.length ≤ 10) (hf : f.lf.length ≤ 50) (hm : ∀ x ∈ f.lf, x.marks.length ≤ 20) :
 Calls Tryz.prog 71 #[f.val] w fun e w' => ∃ A c, e = .returned (.slice A (boxesB f.la f.lf).length c) ∧ BxsAt w' A (boxesB f.la f.lf) ∧ (boxesB f.la f.lf).length ≤ 1100 ∧ Bl w w' := by
 obtain ⟨nm, fW, fH, reach, dark, AL, ac, la, FL, fc, lf, RL, rc, lr⟩ := f
 simp only at ha hf hm
 let w1 := (w).alloc (.cells #[.string ⟨nm.toArray⟩, .int .i64 fW, .int .i64 fH, .int .i64 reach, .int .i64 dark, .slice AL la.length ac, .slice FL lf.length fc, .slice RL lr.length rc] 75)
 have w1b : Bl w w1 := (Bl.refl w).alloc _
 have w11 : Blk w1 (w.heap.size) 75 #[.string ⟨nm.toArray⟩, .int .i64 fW, .int .i64 fH, .int .i64 reach, .int .i64 dark, .slice AL la.length ac, .slice FL lf.length fc, .slice RL lr.length rc] := by
  have h0 := Blk.new (w) 75 #[.string ⟨nm.toArray⟩, .int .i64 fW, .int .i64 fH, .int .i64 reach, .int .i64 dark, .slice AL la.length ac, .slice FL lf.length fc, .slice RL lr.length rc]
  exact h0
 have HF := Lib.hid (hF.bl w1b); have Hm := Lib.hid hm
 have hla := hF.an.2
 have hlf := hF.fn.2
 have k1 := w11.all8
 have HW1b := Lib.hid w1b
 have HFA := Lib.hid (AncsAt.bl hF.ancs w1b); have HFF := Lib.hid (FldsAt.bl hF.flds w1b)
 unfold Frm.val
 clear hF hm w1b
 show Calls _ _ _ w fun e w' => ∃ A c, e = .returned (.slice A (boxesB la lf).length c) ∧ BxsAt w' A (boxesB la lf) ∧ (boxesB la lf).length ≤ 1100 ∧ Bl w w'
 go_enter Tryz.func71, Tryz.ntmps71
 go_upto_region 2 with fail
 rw [show w.alloc (.cells #[.string ⟨nm.toArray⟩, .int .i64 fW, .int .i64 fH, .int .i64 reach, .int .i64 dark, .slice AL la.length ac, .slice FL lf.length fc, .slice RL lr.length rc] 75) = w1 from rfl]
 clear_value w1
 go_wp2_with fail
 go_loopw [3, 11] (fun b u wr => ∃ i : Nat, i ≤ la.length ∧ u = .int .i64 i ∧ Bl w1 wr ∧ wr.ownsRow w1.heap.size 26 4 b i (bxCells ((la.take i).map Anc.box))) (fun _ u _ => la.length - (RowKit.intOf u).toNat)
 case atStart => exact ⟨0, Nat.zero_le _, rfl, Bl.refl _, World.ownsRow_nil _ _ _ _⟩
 case round =>
  obtain ⟨i, hi, rfl, hbr, hown⟩ := hrel
  clear k1
  by_cases hlt : i < la.length
  · have hg : la[i]? = some la[i] := List.getElem?_eq_getElem hlt
    obtain ⟨a, ha⟩ : ∃ l, l = la[i] := ⟨_, rfl⟩
    rw [← ha] at hg
    obtain ⟨ad, e1, j1, j2, j3, j4, j5⟩ := (HFA.out.bl hbr).at_ hg
    have HG := Lib.hid hg; have HOw := Lib.hid hown; have Hbr := Lib.hid hbr
    have hbsz := hbr.le
    clear hg ha hown
    rw [e1]
    go_upto_region 5 with fail
    obtain ⟨w5, hw5⟩ : ∃ x, x = wr.alloc (.cells #[.int .i64 a.W, .int .i64 a.H, .slice a.A a.m a.c, .int .i64 a.X, .int .i64 a.Y] 141) := ⟨_, rfl⟩
    have b5 : Blk w5 wr.heap.size 141 #[.int .i64 a.W, .int .i64 a.H, .slice a.A a.m a.c, .int .i64 a.X, .int .i64 a.Y] := by rw [hw5]; exact Blk.new _ _ _
    have hb5 : Bl wr w5 := by rw [hw5]; exact (Bl.refl _).alloc _
    rw [← hw5]
    have HO5 := Lib.hid (own_bl HOw.out hb5); have Hb5 := Lib.hid (hbr.trans hb5)
    have hle5 := (hbr.trans hb5).le
    have k2 := b5.all5
    clear hw5 b5 hb5 j1 j2 j3 j4 j5 hbr
    rw [← e1]
    go_wp2_with (at_builtin; refine wpList_append_bl (w1 := w1) rfl (.tmp 15) (.tmp 27) 134 rfl 26 (.agg #[.int .i64 0, .int .i64 0, .int .i64 0, .int .i64 0]) 4 32 Tryz.underlying134 info_bx rfl (by omega) w1.heap.size _ i (bxCells ((la.take i).map Anc.box)) rfl (Hb5.out.alloc _) (Nat.le_refl _) (by simp; omega) (HO5.out.alloc _) (some ⟨w5.heap.size, 0, none⟩) 1 1 [.int .i64 a.X, .int .i64 a.Y, .int .i64 a.W, .int .i64 a.H] rfl ((Blk.new w5 _ _).reads 1 4 rfl) (by simp [Value.oneCell']) (by unfold maxLen; omega) (by omega) ?_; intro v' w8 hown8 hb8 hg8; have HOw8 := Lib.hid hown8; have Hb8 := Lib.hid hb8; clear hown8 hb8 hg8)
    exact ⟨⟨i + 1, hlt, by go_num, Hb8.out, by rw [take_snoc HG.out, List.map_append, bxCells_append]; exact HOw8.out⟩, by simp [RowKit.intOf]; omega⟩
  · obtain rfl : i = la.length := by omega
    rw [List.take_length] at hown
    have k1 := (w11.bl hbr).all8
    have hbx0 : boxesTo la lf 0 = la.map Anc.box := by simp [boxesTo, boxesB]
    have hl0 : (boxesTo la lf 0).length = la.length := by rw [hbx0, List.length_map]
    rw [← hbx0] at hown
    have hown2 : wr.ownsRow w1.heap.size 26 4 u3 (boxesTo la lf 0).length (bxCells (boxesTo la lf 0)) := by rw [hl0]; exact hown
    have HOw := Lib.hid hown2; have Hbr := Lib.hid hbr
    have H10f := Lib.hid (show (boxesTo la lf 0).length ≤ 10 by rw [hl0]; exact ha)
    clear hown hown2 hbx0 hl0 hi hlt
    go_wp2_with fail
    go_loopw [3, 33] (fun b u wq => ∃ i : Nat, i ≤ lf.length ∧ u = .int .i64 i ∧ Bl w1 wq ∧ wq.ownsRow w1.heap.size 26 4 b (boxesTo la lf i).length (bxCells (boxesTo la lf i)) ∧ (boxesTo la lf i).length ≤ 10 + 21 * i) (fun _ u _ => lf.length - (RowKit.intOf u).toNat)
    case atStart => exact ⟨0, Nat.zero_le _, rfl, hbr, HOw.out, H10f.out⟩
    case round =>
     clear Hbr hbr k1 HOw H10f
     obtain ⟨i, hi, rfl, hbr, hown, hbl⟩ := hrel
     by_cases hlt : i < lf.length
     · have hg : lf[i]? = some lf[i] := List.getElem?_eq_getElem hlt
       obtain ⟨x, hx⟩ : ∃ l, l = lf[i] := ⟨_, rfl⟩
       rw [← hx] at hg
       obtain ⟨ad, e1, j1, j2, j3, j4, j5, j6, j7, j8, j9⟩ := (HFF.out.bl hbr).at_ hg
       obtain ⟨hM, hmc, hml, hnl⟩ := HFF.out.2 x (List.mem_of_getElem? hg)
       have hm20 := Hm.out x (List.mem_of_getElem? hg)
       have HG := Lib.hid hg; have HOw := Lib.hid hown; have Hbr := Lib.hid hbr; have HM := Lib.hid hM
       have hgx := (show ∀ k, u3.ownBlock = some k → k < wr.heap.size from fun k hk => (hown.lt k hk).2)
       have Hgx := Lib.hid hgx
       clear hg hx hown hM hgx
       rw [e1]
       go_upto_region 10 with fail
       obtain ⟨w5, hw5⟩ : ∃ y, y = wr.alloc (.cells #[.string ⟨x.name.toArray⟩, .int .i64 x.kind, .int .i64 x.box.X, .int .i64 x.box.Y, .int .i64 x.box.W, .int .i64 x.box.H, .slice x.M x.marks.length x.mc, .int .i64 x.most, .bool x.needed] 136) := ⟨_, rfl⟩
       have b5 : Blk w5 wr.heap.size 136 #[.string ⟨x.name.toArray⟩, .int .i64 x.kind, .int .i64 x.box.X, .int .i64 x.box.Y, .int .i64 x.box.W, .int .i64 x.box.H, .slice x.M x.marks.length x.mc, .int .i64 x.most, .bool x.needed] := by rw [hw5]; exact Blk.new _ _ _
       have hb5 : Bl wr w5 := by rw [hw5]; exact (Bl.refl _).alloc _
       rw [← hw5]
       have hO5 := own_bl HOw.out hb5
       have hb15 := hbr.trans hb5
       have hle5 := hb15.le
       have k2 := b5.all9
       obtain ⟨n, hn⟩ : ∃ n, n = (boxesTo la lf i).length := ⟨_, rfl⟩
       have hbi : n ≤ 10 + 21 * i := by rw [hn]; exact hbl
       rw [← hn] at hO5
       have B5 := Lib.hid b5; have HO5 := Lib.hid hO5; have Hb5 := Lib.hid hb15; have Hn := Lib.hid hn
       have HX5 := Lib.hid (BxsAt.bl HM.out hb15)
       have Hbs := Lib.hid (boxesTo_succ (la := la) HG.out)
       clear hw5 b5 hb5 hO5 hb15 hn hbl j1 j2 j3 j4 j5 j6 j7 j8 j9 hbr
       rw [← e1]
       go_wp2_with fail
       refine (marksR_any _ _).mono ?_
       rintro e w' ⟨rfl, rfl⟩
       cases hmk : marksB x.kind with
       | true =>
        have HFB := Lib.hid (show fldBoxes x = x.marks by unfold fldBoxes; rw [hmk]; rfl)
        go_wp2_with (at_builtin; refine wpList_append_bl (w1 := w1) rfl (.tmp 46) (.tmp 48) 134 rfl 26 (.agg #[.int .i64 0, .int .i64 0, .int .i64 0, .int .i64 0]) 4 32 Tryz.underlying134 info_bx rfl (by omega) w1.heap.size u3 n (bxCells (boxesTo la lf i)) rfl Hb5.out (Nat.le_refl _) hle5 HO5.out x.M x.marks.length x.mc (bxCells x.marks) rfl HX5.out (bx_one x.marks) (by unfold maxLen; omega) (by omega) ?_; intro v9 w9 hown9 hb9 hg9)
        have HO9 := Lib.hid hown9; have Hb9 := Lib.hid hb9
        clear hown9 hb9 hg9
        have hlen : (boxesTo la lf (i + 1)).length = n + x.marks.length := by rw [Hbs.out, List.length_append, ← Hn.out, HFB.out]
        exact ⟨⟨i + 1, hlt, by go_num, Hb9.out, by rw [hlen, Hbs.out, bxCells_append, HFB.out]; exact HO9.out, by rw [hlen]; omega⟩, by simp [RowKit.intOf]; omega⟩
       | false =>
        have HFB := Lib.hid (show fldBoxes x = x.box :: x.marks by unfold fldBoxes; rw [hmk]; rfl)
        go_upto_region 12 with (at_builtin; refine wpList_append_bl (w1 := w1) rfl (.tmp 41) (.tmp 44) 134 rfl 26 (.agg #[.int .i64 0, .int .i64 0, .int .i64 0, .int .i64 0]) 4 32 Tryz.underlying134 info_bx rfl (by omega) w1.heap.size u3 n (bxCells (boxesTo la lf i)) rfl (Hb5.out.alloc _) (Nat.le_refl _) (by simp; omega) (HO5.out.alloc _) (some ⟨w5.heap.size, 0, none⟩) 1 1 [.int .i64 x.box.X, .int .i64 x.box.Y, .int .i64 x.box.W, .int .i64 x.box.H] rfl ((Blk.new w5 _ _).reads 1 4 rfl) (by simp [Value.oneCell']) (by unfold maxLen; omega) (by omega) ?_; intro v8 w8 hown8 hb8 hg8)
        have hle8 := hb8.le
        have HO8 := Lib.hid hown8; have Hb8 := Lib.hid hb8; have HX8 := Lib.hid (BxsAt.bl HM.out hb8)
        have k4 := ((B5.out.alloc _).grown hg8 (fun e => Nat.ne_of_lt (Hgx.out _ e.symm) rfl)).all9
        clear hown8 hb8 hg8 k2
        go_wp2_with (at_builtin; refine wpList_append_bl (w1 := w1) rfl (.tmp 46) (.tmp 48) 134 rfl 26 (.agg #[.int .i64 0, .int .i64 0, .int .i64 0, .int .i64 0]) 4 32 Tryz.underlying134 info_bx rfl (by omega) w1.heap.size v8 (n + 1) (bxCells (boxesTo la lf i) ++ [.int .i64 x.box.X, .int .i64 x.box.Y, .int .i64 x.box.W, .int .i64 x.box.H]) rfl Hb8.out (Nat.le_refl _) hle8 HO8.out x.M x.marks.length x.mc (bxCells x.marks) rfl HX8.out (bx_one x.marks) (by unfold maxLen; omega) (by omega) ?_; intro v9 w9 hown9 hb9 hg9)
        have HO9 := Lib.hid hown9; have Hb9 := Lib.hid hb9
        clear hown9 hb9 hg9
        have hlen : (boxesTo la lf (i + 1)).length = n + 1 + x.marks.length := by rw [Hbs.out, List.length_append, ← Hn.out, HFB.out, List.length_cons]; omega
        exact ⟨⟨i + 1, hlt, by go_num, Hb9.out, by rw [hlen, Hbs.out, bxCells_append, HFB.out, show bxCells (x.box :: x.marks) = [.int .i64 x.box.X, .int .i64 x.box.Y, .int .i64 x.box.W, .int .i64 x.box.H] ++ bxCells x.marks from rfl, ← List.append_assoc]; exact HO9.out, by rw [hlen]; omega⟩, by simp [RowKit.intOf]; omega⟩
     · obtain rfl : i = lf.length := by omega
       have hbe : boxesTo la lf lf.length = boxesB la lf := by unfold boxesTo; rw [List.take_length]
       rw [hbe] at hown hbl
       obtain ⟨A, c, rfl, hr, -⟩ := own_new hown
       have HR := Lib.hid hr
       clear hown hr hbe
       go_wp2_with fail
       go_ret
       exact ⟨A, c, rfl, HR.out, by omega, HW1b.out.trans hbr⟩
end Go.Proofs.YthobmednnocklaaGreatDoor


/-! bedref2.valueError, ValuesError. -/
namespace Go.Proofs.YthobmednnocklaaGreatDoor
open Go.RowKit Go.Shelf

theorem firstNZ_pair0 (a : Int) : firstNZ [a] = a := by show (if a = 0 then 0 else a) = a; split <;> simp_all
def isField (nm : List UInt8) (v : Vlu) : Bool := decide (v.field = nm)
theorem prev_fields (l : List Vlu) (t : List UInt8) : decide (∃ v ∈ l, isField t v = true) = decide (t ∈ l.map Vlu.field) := by
 apply decide_eq_decide.2
 constructor
 · rintro ⟨v, hv, h⟩
   exact List.mem_map.2 ⟨v, hv, of_decide_eq_true h⟩
 · intro h
   obtain ⟨v, hv, h2⟩ := List.mem_map.1 h
   exact ⟨v, hv, decide_eq_true h2⟩
theorem VlusAt.take {w : World} {L : Option Addr} {l : List Vlu} (h : VlusAt w L l) (i : Nat) (hi : i ≤ l.length) : VlusAt w L (l.take i) := by
 have e : (l.take i).flatMap Vlu.cells = (l.flatMap Vlu.cells).take (i * 4) := by
  conv => rhs; rw [← List.take_append_drop i l, List.flatMap_append]
  rw [List.take_left' (by rw [flat_len Vlu.cells 4 (fun _ => rfl), List.length_take]; omega)]
 refine ⟨?_, fun f hf => h.2 f (List.mem_of_mem_take hf)⟩
 rw [e]
 refine ⟨by rw [List.length_take, flat_len Vlu.cells 4 (fun _ => rfl), List.length_take]; omega, fun hp => ?_⟩
 obtain ⟨ad, e1, hc⟩ := h.1.2 (by rw [List.length_take] at hp; omega)
 refine ⟨ad, e1, fun j u hj => hc j u ?_⟩
 rw [List.getElem?_take] at hj
 split at hj
 · exact hj
 · cases hj
set_option maxRecDepth 100000 in
set_option maxHeartbeats 1000000 in
theorem valueError1_any (b : Nat) (v y : Vlu) (w : World) (hb : Blk w b 132 #[.string ⟨v.field.toArray⟩, .string ⟨v.text.toArray⟩, .slice v.M v.marks.length v.mc, .int .i64 v.sure]) :
 Calls Tryz.prog 145 #[y.val, .pointer (some ⟨b, 0, none⟩)] w fun e w' => e = .returned (.bool (isField v.field y)) ∧ Bl w w' := by
 have k1 := hb.all4
 have hlt := hb.lt
 obtain ⟨nm, hnm⟩ : ∃ n, n = v.field := ⟨_, rfl⟩
 rw [← hnm] at k1 ⊢
 clear hnm hb
 unfold Vlu.val isField
 by_cases he : y.field = nm
 · rw [decide_eq_true he]
   go_enter Tryz.func145, Tryz.ntmps145
   go_wp2_with fail
   go_ret
   exact ⟨by simp [he], (Bl.refl _).alloc _⟩
 · rw [decide_eq_false he]
   go_enter Tryz.func145, Tryz.ntmps145
   go_wp2_with fail
   go_ret
   exact ⟨by simp [he], (Bl.refl _).alloc _⟩
theorem value_twice (L : Option Addr) (c : Nat) (l : List Vlu) (i : Nat) (hi : i ≤ l.length) (b : Nat) (v : Vlu) (w : World) (hL : VlusAt w L l) (hb : Blk w b 132 #[.string ⟨v.field.toArray⟩, .string ⟨v.text.toArray⟩, .slice v.M v.marks.length v.mc, .int .i64 v.sure]) (hn : l.length ≤ 9223372036854775807) :
 ∀ wx, Bl w wx → Calls Tryz.prog 144 #[.slice L i c, .func (.func 145) #[] #[.pointer (some ⟨b, 0, none⟩)]] wx fun e w' => e = .returned (.bool (decide (v.field ∈ (l.take i).map Vlu.field))) ∧ Bl wx w' := by
 intro wx hx
 have hl : (l.take i).length = i := by simp; omega
 have hT : TestsG Vlu.val Tryz.prog 145 #[.pointer (some ⟨b, 0, none⟩)] wx (l.take i) (isField v.field) :=
  ⟨enters Tryz.func145 (by kernel_rfl) rfl, fun wy y hy _ => valueError1_any b v y wy (hb.bl (hx.trans hy))⟩
 have h := vluContains_any L c (l.take i) _ _ _ wx ((hL.bl hx).take i hi) hT (by omega)
 rw [hl] at h
 rw [← prev_fields]
 exact h
end Go.Proofs.YthobmednnocklaaGreatDoor


/-! A map of values by their fields, as forms.Rules keeps it. -/
namespace Go.Proofs.YthobmednnocklaaGreatDoor
open Go.RowKit Go.Shelf

/-- The map at b has these values, each by its field. -/
def MapV (w : World) (b : Nat) (vs : List Vlu) : Prop := ∃ es clock, w.heap[b]? = some (.map es clock) ∧ (∀ x ∈ es.toList, ∃ s v, x.key = .string ⟨List.toArray s⟩ ∧ vs.find? (isField s) = some v ∧ x.val = v.val) ∧ ∀ v ∈ vs, ∃ x ∈ es.toList, x.key = .string ⟨v.field.toArray⟩
theorem MapV.new (w : World) : MapV (w.alloc (.map #[] 0)) w.heap.size [] := ⟨#[], 0, (MapKept.heap_alloc w _).1, by simp, by simp⟩
theorem MapV.bl {w w' : World} {b : Nat} {vs : List Vlu} (h : MapV w b vs) (hb : Bl w w') : MapV w' b vs := by
 obtain ⟨es, c, h1, h2, h3⟩ := h
 exact ⟨es, c, (Below.block hb b (Array.getElem?_eq_some_iff.1 h1).1).trans h1, h2, h3⟩
theorem MapV.same {w w' : World} {b : Nat} {vs : List Vlu} (h : MapV w b vs) (hb : w'.heap[b]? = w.heap[b]?) : MapV w' b vs := by
 obtain ⟨es, c, h1, h2, h3⟩ := h
 exact ⟨es, c, hb.trans h1, h2, h3⟩
end Go.Proofs.YthobmednnocklaaGreatDoor


/-! The plain law of rules: which of them values break. -/
namespace Go.Proofs.YthobmednnocklaaGreatDoor

structure Brk where
 rule : Nat
 field : List UInt8
def Brk.cells (b : Brk) : List Value := [.int .i64 b.rule, .string ⟨b.field.toArray⟩]
def Brk.val (b : Brk) : Value := .agg #[.int .i64 b.rule, .string ⟨b.field.toArray⟩]
theorem whenI_no {b : Bool} {e : Int} (he : e ≠ 0) (h : whenI b e = 0) : b = false := by
 cases b with
 | false => rfl
 | true => exact absurd h he
theorem rulsErr_ok {fs : List Fld} {l : List Rul} (h : rulsErr fs l = 0) : ∀ r ∈ l, rulErr fs r = 0 := by
 induction l with
 | nil => intro a ha; cases ha
 | cons x l ih =>
  unfold rulsErr at h
  by_cases h1 : rulErr fs x = 0
  · rw [if_pos h1] at h
    intro a ha
    rcases List.mem_cons.1 ha with rfl | ha
    · exact h1
    · exact ih h a ha
  · rw [if_neg h1] at h
    exact absurd h h1
theorem frm_ok {f : Frm} (h : f.err = 0) : f.lf.length ≤ 50 ∧ f.lr.length ≤ 50 ∧ (∀ r ∈ f.lr, rulErr f.lf r = 0) ∧ fldsErr f.W f.H [] f.lf = 0 := by
 unfold Frm.err formErr at h
 have hz := firstNZ_zero h
 have h1 := whenI_no (by decide) (hz (whenI (decide (50 < f.lf.length)) 4) (by simp))
 have h2 := whenI_no (by decide) (hz (whenI (decide (50 < f.lr.length)) 4) (by simp))
 have h3 := hz (rulsErr f.lf f.lr) (by simp)
 exact ⟨by simpa using h1, by simpa using h2, rulsErr_ok h3, hz (fldsErr f.W f.H [] f.lf) (by simp)⟩
end Go.Proofs.YthobmednnocklaaGreatDoor
