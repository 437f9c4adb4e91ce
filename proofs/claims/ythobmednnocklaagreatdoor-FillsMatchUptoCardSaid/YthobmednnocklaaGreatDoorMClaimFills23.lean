/- forms.drawn: what is drawn of a value's text. -/
import Derived.Test.YthobmednnocklaaGreatDoorMClaimFills20
import Derived.Test.YthobmednnocklaaGreatDoorMClaimFills9
import Derived.Test.YthobmednnocklaaGreatDoorMClaimFills14
import Derived.Test.YthobmednnocklaaGreatDoorMClaimFills8
import Derived.Test.YthobmednnocklaaGreatDoorMClaimFills22
import Derived.Test.YthobmednnocklaaGreatDoorMClaimFills10
import Derived.Test.YthobmednnocklaaGreatDoorMClaimFills11
import Derived.LaidSub
import Derived.OpenShut
import Derived.ProofKit
import Derived.LaidMore
import Derived.Lay

namespace Go.Proofs.YthobmednnocklaaGreatDoor
open Go.ChangeShapes Go.WideShapes Go.ChangeAt Go.RowKit Go.Joins

theorem space_list : (Rows.laid_strings_asciiSpace : DataW Unit) = .agg ((List.range 256).map fun c => .lit (.int .u8 (if Lib.isSp (UInt8.ofNat c) then 1 else 0))) := by kernel_rfl
set_option maxRecDepth 100000 in
theorem spOk_of_laid {l : List (String × DataW Unit)} {W : World} (hl : (l.filter fun e => e.1 == "strings.asciiSpace") = [("strings.asciiSpace", Rows.laid_strings_asciiSpace)]) (h : laidMetH Tryz.prog l W) : SpOk W := by
 have h := h.filter (fun e => e.1 == "strings.asciiSpace")
 rw [hl, MakeChecks.laidMetH_plain _ _ _ (by kernel_rfl)] at h
 obtain ⟨ps, ⟨g, t, cs, fuel, p, q, hg, ht, hv, hd, _, _⟩, _, _⟩ := h
 have hG : Tryz.prog.globalNamed "strings.asciiSpace" = some (Tryz.lays157_ren.g 0) := by kernel_rfl
 obtain rfl := Option.some.inj (hG.symm.trans hg)
 obtain rfl := Option.some.inj ((show (Tryz.prog.globals[Tryz.lays157_ren.g 0]?).map (·.type) = some 385 by kernel_rfl).symm.trans ht)
 obtain ⟨xs, m, _, ex, _, hlx, hel⟩ := DataW.trod_array Tryz.underlying385 hd
 have c5 : Tryz.prog.cellsOf 5 = 1 := by kernel_rfl
 intro r hr
 have hE := hel r hr
 rw [c5, Nat.mul_one, List.getElem?_eq_getElem (by omega)] at hE
 obtain ⟨z, e1, e2, _⟩ := DataW.trod_int Tryz.underlying5 hE
 have e3 : (xs.map (·.1)) = (List.range 256).map fun c => .lit (.int .u8 (if Lib.isSp (UInt8.ofNat c) then 1 else 0)) := (DataW.agg.inj ((space_list.symm.trans (Prod.mk.inj ex).1))).symm
 have e4 : (xs.map (·.1))[r]? = ((List.range 256).map fun c => (DataW.lit (.int .u8 (if Lib.isSp (UInt8.ofNat c) then 1 else 0)) : DataW Unit))[r]? := by rw [e3]
 rw [List.getElem?_map, List.getElem?_map, List.getElem?_eq_getElem (by omega : r < xs.length), List.getElem?_range hr, e2] at e4
 have hz : z = if Lib.isSp (UInt8.ofNat r) then 1 else 0 := by
  simp only [Option.map_some, Option.some.injEq, DataW.lit.injEq, Lit.int.injEq, true_and] at e4
  exact e4
 rw [World.var?_cell hG hv r, ← hz]
 have : cs.toList[r]? = some (.int .u8 z) := by
  have h0 : ((cs.toList.drop r).take 1)[0]? = some (.int .u8 z) := by rw [e1]; rfl
  simpa using h0
 simpa using this

end Go.Proofs.YthobmednnocklaaGreatDoor


/-! The plain law of forms that are filled: what is drawn of a value, and the whole form. -/
namespace Go.Proofs.YthobmednnocklaaGreatDoor

/-! ### codes are modules -/
theorem madeOf_app (a b cs : List UInt8) : madeOf (a ++ b) cs = (madeOf a cs && madeOf b cs) := by unfold madeOf; rw [List.all_append]
set_option maxRecDepth 100000 in
theorem modK_bits : ∀ k < 44, madeOf (modK k) bits01 = true := by decide +kernel
theorem joinC_bits : ∀ ks : List Nat, (∀ k ∈ ks, k < 44) → madeOf (joinC ks) bits01 = true
 | [], _ => rfl
 | [k], h => modK_bits k (h k (List.mem_singleton.2 rfl))
 | k :: k' :: ks, h => by
  show madeOf (modK k ++ ([48] ++ joinC (k' :: ks))) bits01 = true
  rw [madeOf_app, madeOf_app, modK_bits k (h k (List.mem_cons_self ..)), joinC_bits (k' :: ks) (fun x hx => h x (List.mem_cons_of_mem _ hx))]
  decide
theorem code39_bits {l : List UInt8} (h : lettersOk l = true) : madeOf (code39 l) bits01 = true := joinC_bits _ (ksL_lt h)
set_option maxRecDepth 100000 in
theorem leftC_bits : ∀ d < 10, madeOf (leftC.getD d []) bits01 = true ∧ madeOf (exB (leftC.getD d [])) bits01 = true ∧ madeOf (exB (leftC.getD d [])).reverse bits01 = true ∧ (leftC.getD d []).length = 7 := by decide +kernel
theorem codeOf_made (k : UInt8) {d : Nat} (h : d < 10) : madeOf (codeOf k d) bits01 = true ∧ (codeOf k d).length = 7 := by
 obtain ⟨h1, h2, h3, h4⟩ := leftC_bits d h
 unfold codeOf
 split
 · exact ⟨h2, by unfold exB; rw [List.length_map, h4]⟩
 · split
   · exact ⟨h3, by rw [List.length_reverse]; unfold exB; rw [List.length_map, h4]⟩
   · exact ⟨h1, h4⟩
theorem eanPart_bits {ds : List UInt8} (hm : madeOf ds digits10 = true) : ∀ i, i ≤ 12 → madeOf (eanPart ds i) bits01 = true ∧ (eanPart ds i).length = 3 + 7 * i + (if 6 < i then 5 else 0)
 | 0, _ => ⟨show madeOf endE bits01 = true by decide, rfl⟩
 | i + 1, hi => by
  obtain ⟨h1, h2⟩ := eanPart_bits hm i (by omega)
  obtain ⟨h3, h4⟩ := codeOf_made (kindE ds (i + 1)) (d := digOf ds (i + 1)) (by have := digOf_le hm (i + 1); omega)
  show madeOf (eanPart ds i ++ (if i = 6 then midE else []) ++ codeOf (kindE ds (i + 1)) (digOf ds (i + 1))) bits01 = true ∧ (eanPart ds i ++ (if i = 6 then midE else []) ++ codeOf (kindE ds (i + 1)) (digOf ds (i + 1))).length = _
  rw [madeOf_app, madeOf_app, h1, h3, List.length_append, List.length_append, h2, h4]
  by_cases h6 : i = 6
  · rw [if_pos h6, if_neg (by omega), if_pos (by omega)]
    refine ⟨by decide, ?_⟩
    show _ + 5 + 7 = _
    omega
  · rw [if_neg h6]
    refine ⟨by decide, ?_⟩
    show _ + 0 + 7 = _
    by_cases h7 : 6 < i
    · rw [if_pos h7, if_pos (by omega)]; omega
    · rw [if_neg h7, if_neg (by omega)]; omega
theorem eanOf_bits {ds : List UInt8} (hm : madeOf ds digits10 = true) : madeOf (eanOf ds) bits01 = true ∧ (eanOf ds).length = 95 := by
 obtain ⟨h1, h2⟩ := eanPart_bits hm 12 (Nat.le_refl _)
 unfold eanOf
 rw [madeOf_app, h1, List.length_append, h2]
 exact ⟨by decide, rfl⟩
theorem code39_ne {l : List UInt8} (h : lettersOk l = true) : code39 l ≠ [] := by
 unfold code39
 have hlt := ksL_lt h
 have hn : ksL l ≠ [] := by
  unfold ksL
  intro e
  have := congrArg List.length e
  rw [List.length_map, whole_len] at this
  simp at this
 cases hk : ksL l with
 | nil => exact absurd hk hn
 | cons k ks =>
  have h15 := (modK_all k (hlt k (by rw [hk]; exact List.mem_cons_self ..))).1
  cases ks with
  | nil => intro e; have := congrArg List.length e; rw [show joinC [k] = modK k from rfl, h15] at this; simp at this
  | cons k' ks => intro e; have := congrArg List.length e; rw [show joinC (k :: k' :: ks) = modK k ++ 48 :: joinC (k' :: ks) from rfl, List.length_append, h15] at this; simp at this

/-! ### what is drawn -/
def codeErr (t : List UInt8) : Int := if digB t 13 = true then eanErr t else letErr t
def codeM (t : List UInt8) : List UInt8 := if digB t 13 = true then eanOf t else code39 t
theorem eanErr_ok {t : List UInt8} (h : eanErr t = 0) : t.length = 13 ∧ madeOf t digits10 = true := by
 unfold eanErr at h
 split at h
 · rename_i hd
   unfold digB at hd
   simp at hd
   exact hd
 · exact absurd h (by decide)
theorem letErr_ok {t : List UInt8} (h : letErr t = 0) : t.length ≤ 40 ∧ lettersOk t = true := by
 unfold letErr at h
 split at h
 · exact absurd h (by decide)
 · split at h
   · exact absurd h (by decide)
   · split at h
     · rename_i h1 h2
       exact ⟨by omega, h2⟩
     · exact absurd h (by decide)
theorem codeM_ok {t : List UInt8} (h : codeErr t = 0) : madeOf (codeM t) bits01 = true ∧ codeM t ≠ [] ∧ (codeM t).length ≤ 4000 := by
 unfold codeErr at h
 unfold codeM
 split at h
 · rename_i hd
   rw [if_pos hd]
   obtain ⟨h1, h2⟩ := eanErr_ok h
   obtain ⟨h3, h4⟩ := eanOf_bits h2
   refine ⟨h3, ?_, by omega⟩
   intro e
   rw [e] at h4
   cases h4
 · rename_i hd
   rw [if_neg hd]
   obtain ⟨h1, h2⟩ := letErr_ok h
   have h3 := code39_len h2
   exact ⟨code39_bits h2, code39_ne h2, by omega⟩
section
variable (ls : List Ltr) (ht gap sp : Nat)
def drawnE (x : Fld) (t : List UInt8) : Int :=
 if x.kind = 1 then (if setErr ls ht gap sp t = 0 then whenI (decide (x.box.W < (wideOf ls gap sp t : Int)) || decide (x.box.H < (ht : Int))) 15 else setErr ls ht gap sp t)
 else (if codeErr t = 0 then whenI (decide (x.box.W < ((codeM t).length : Int))) 15 else codeErr t)
def drawnW (x : Fld) (t : List UInt8) : Nat := if x.kind = 1 then wideOf ls gap sp t else (codeM t).length
def drawnH (x : Fld) : Nat := if x.kind = 1 then ht else x.box.H.toNat
def drawnB (x : Fld) (t : List UInt8) : List Bool := if x.kind = 1 then setCells ls ht gap sp t else grid (codeM t).length x.box.H.toNat (drawF (codeM t) 1 0)
/-- A value is filled in. -/
def fillV (W H : Nat) (fs : List Fld) (tw : Bool) (v : Vlu) (pg : List Bool) : Int × List Bool := match fldOf fs v.field with
 | none => (10, [])
 | some x => if vluErrS fs tw v = 0 then (if v.text = [] then (0, marksTo W H x v.marks pg v.marks.length)
  else if drawnE ls ht gap sp x v.text = 0 then (0, grid W H (pasteF (marksTo W H x v.marks pg v.marks.length) (drawnB ls ht gap sp x v.text) W H (drawnW ls gap sp x v.text) (drawnH ht x) x.box.X x.box.Y)) else (drawnE ls ht gap sp x v.text, []))
  else (vluErrS fs tw v, [])
def fillR (W H : Nat) (fs : List Fld) : List (List UInt8) → List Vlu → List Bool → Int × List Bool
 | _, [], pg => (0, pg)
 | prev, v :: l, pg => if (fillV ls ht gap sp W H fs (decide (v.field ∈ prev)) v pg).1 = 0 then fillR W H fs (prev ++ [v.field]) l (fillV ls ht gap sp W H fs (decide (v.field ∈ prev)) v pg).2 else ((fillV ls ht gap sp W H fs (decide (v.field ∈ prev)) v pg).1, [])
end
theorem fillR_from {ls : List Ltr} {ht gap sp W H : Nat} {fs : List Fld} {l : List Vlu} {i : Nat} {v : Vlu} {pg : List Bool} (h : l[i]? = some v) : fillR ls ht gap sp W H fs ((l.take i).map Vlu.field) (l.drop i) pg =
 if (fillV ls ht gap sp W H fs (decide (v.field ∈ (l.take i).map Vlu.field)) v pg).1 = 0 then fillR ls ht gap sp W H fs ((l.take (i + 1)).map Vlu.field) (l.drop (i + 1)) (fillV ls ht gap sp W H fs (decide (v.field ∈ (l.take i).map Vlu.field)) v pg).2 else ((fillV ls ht gap sp W H fs (decide (v.field ∈ (l.take i).map Vlu.field)) v pg).1, []) := by
 rw [drop_cons h, take_snoc h, List.map_append]; rfl
end Go.Proofs.YthobmednnocklaaGreatDoor


/-! forms.drawn: what is drawn of a value's text. -/
namespace Go.Proofs.YthobmednnocklaaGreatDoor
open Go.RowKit Go.Shelf

/-- What forms.drawn says is wrong: ahead of the look at the box of a field of text. -/
def drawnE0 (ls : List Ltr) (ht gap sp : Nat) (x : Fld) (t : List UInt8) : Int :=
 if x.kind = 1 then setErr ls ht gap sp t else (if codeErr t = 0 then whenI (decide (x.box.W < ((codeM t).length : Int))) 15 else codeErr t)
def DrawnRes (B : Nat) (E : Int) (W H : Nat) (bs : List Bool) (e : Ending) (w' : World) : Prop := ∃ a b R m d, e = .returned (.tuple #[.agg #[.int .i64 a, .int .i64 b, .slice R m d], .int .i64 E]) ∧ Res B w' E W H (bs.map .bool) a b R m d
theorem draw_right {m : List UInt8} {h : Nat} {bW : Int} (hm : madeOf m bits01 = true) (hn : m ≠ []) (hl : (m.length : Int) ≤ bW) (hW : bW ≤ 4000) (hh : 1 ≤ h ∧ h ≤ 4000) (hWH : bW * (h : Int) ≤ 1048576) : drawErr m 1 h 0 = 0 := by
 unfold drawErr
 rw [if_neg hn, if_neg (by rw [hm]; decide)]
 have hr : drawRange 1 h 0 = true := by
  unfold drawRange
  rw [inB_true.2 (show (1 : Int) ≤ 1 ∧ (1 : Int) ≤ 8 by omega), inB_true.2 (show (1 : Int) ≤ (h : Int) ∧ (h : Int) ≤ 4000 by omega), inB_true.2 (show (0 : Int) ≤ 0 ∧ (0 : Int) ≤ 200 by omega)]
  rfl
 rw [if_neg (by rw [hr]; decide)]
 have hlen : 1 ≤ m.length := by cases m with | nil => exact absurd rfl hn | cons => simp
 have hmul : (m.length : Int) * (h : Int) ≤ bW * (h : Int) := Int.mul_le_mul_of_nonneg_right hl (by omega)
 unfold sizeErr
 rw [show (2 * 0 + 1 * (m.length : Int)) = (m.length : Int) by omega, if_pos (by omega), if_neg (by omega)]
set_option maxRecDepth 100000 in
set_option maxHeartbeats 8000000 in
theorem drawn_any (x : Fld) (t : List UInt8) (nm : List UInt8) (ht gap sp : Nat) (adl : Addr) (c : Nat) (ls : List Ltr) (w : World) (hL : LtrsAt w (some adl) ls) (hnm : nm.length ≤ 9223372036854775807) (hn : ls.length ≤ 9223372036854775807) (hfe : fontErr (nameB nm) ht gap sp ls = 0) (htl : t.length ≤ 1048576) (hv : SubOk w) (hT : SpOk w)
 (hbox : x.kind ≠ 1 → ∃ h : Nat, x.box.H = (h : Int) ∧ (1 ≤ h ∧ h ≤ 4000) ∧ x.box.W ≤ 4000 ∧ x.box.W * (h : Int) ≤ 1048576) :
 Calls Tryz.prog 67 #[x.val, .string ⟨t.toArray⟩, .agg #[.string ⟨nm.toArray⟩, .int .i64 ht, .int .i64 gap, .int .i64 sp, .slice (some adl) ls.length c]] w fun e w' => DrawnRes w.heap.size (drawnE0 ls ht gap sp x t) (drawnW ls gap sp x t) (drawnH ht x) (drawnB ls ht gap sp x t) e w' ∧ Bl w w' := by
 have hset := fun wx hL hv => fset_any nm ht gap sp (some adl) c ls t wx hL hnm hn (by omega) hv
 rw [hfe] at hset
 obtain ⟨DE, hDE⟩ : ∃ e, e = drawnE0 ls ht gap sp x t := ⟨_, rfl⟩
 obtain ⟨DW, hDW⟩ : ∃ e, e = drawnW ls gap sp x t := ⟨_, rfl⟩
 obtain ⟨DH, hDH⟩ : ∃ e, e = drawnH ht x := ⟨_, rfl⟩
 obtain ⟨DB, hDB⟩ : ∃ e, e = drawnB ls ht gap sp x t := ⟨_, rfl⟩
 rw [← hDE, ← hDW, ← hDH, ← hDB]
 have HDE := Lib.hid hDE; have HDW := Lib.hid hDW; have HDH := Lib.hid hDH; have HDB := Lib.hid hDB
 let w1 := (((w).alloc (.cells #[.string ⟨x.name.toArray⟩, .int .i64 x.kind, .int .i64 x.box.X, .int .i64 x.box.Y, .int .i64 x.box.W, .int .i64 x.box.H, .slice x.M x.marks.length x.mc, .int .i64 x.most, .bool x.needed] 136)).alloc (.cells #[.string ⟨nm.toArray⟩, .int .i64 ht, .int .i64 gap, .int .i64 sp, .slice (some adl) ls.length c] 29)).alloc (.cells #[.int .i64 0, .int .i64 0, .slice none 0 0] 24)
 have w1b : Bl w w1 := (((Bl.refl w).alloc _).alloc _).alloc _
 have w11 : Blk w1 (w.heap.size) 136 #[.string ⟨x.name.toArray⟩, .int .i64 x.kind, .int .i64 x.box.X, .int .i64 x.box.Y, .int .i64 x.box.W, .int .i64 x.box.H, .slice x.M x.marks.length x.mc, .int .i64 x.most, .bool x.needed] := by
  have h0 := Blk.new (w) 136 #[.string ⟨x.name.toArray⟩, .int .i64 x.kind, .int .i64 x.box.X, .int .i64 x.box.Y, .int .i64 x.box.W, .int .i64 x.box.H, .slice x.M x.marks.length x.mc, .int .i64 x.most, .bool x.needed]
  exact ((h0.alloc _).alloc _)
 have w12 : Blk w1 (w.heap.size + 1) 29 #[.string ⟨nm.toArray⟩, .int .i64 ht, .int .i64 gap, .int .i64 sp, .slice (some adl) ls.length c] := by
  have h0 := Blk.new ((w).alloc (.cells #[.string ⟨x.name.toArray⟩, .int .i64 x.kind, .int .i64 x.box.X, .int .i64 x.box.Y, .int .i64 x.box.W, .int .i64 x.box.H, .slice x.M x.marks.length x.mc, .int .i64 x.most, .bool x.needed] 136)) 29 #[.string ⟨nm.toArray⟩, .int .i64 ht, .int .i64 gap, .int .i64 sp, .slice (some adl) ls.length c]
  simp only [World.size_alloc] at h0
  exact (h0.alloc _)
 have w13 : Blk w1 (w.heap.size + 1 + 1) 24 #[.int .i64 0, .int .i64 0, .slice none 0 0] := by
  have h0 := Blk.new (((w).alloc (.cells #[.string ⟨x.name.toArray⟩, .int .i64 x.kind, .int .i64 x.box.X, .int .i64 x.box.Y, .int .i64 x.box.W, .int .i64 x.box.H, .slice x.M x.marks.length x.mc, .int .i64 x.most, .bool x.needed] 136)).alloc (.cells #[.string ⟨nm.toArray⟩, .int .i64 ht, .int .i64 gap, .int .i64 sp, .slice (some adl) ls.length c] 29)) 24 #[.int .i64 0, .int .i64 0, .slice none 0 0]
  simp only [World.size_alloc] at h0
  exact h0
 have sz1 : w1.heap.size = w.heap.size + 1 + 1 + 1 := by simp [w1]
 have Hset := Lib.hid (hset w1 (hL.bl w1b) (hv.bl w1b)); have HT := Lib.hid (hT.bl w1b); have Hbox := Lib.hid hbox
 have k1 := w11.all9
 have k2 := w12.all5
 have k3 := w13.all3
 have HW1b := Lib.hid w1b
 unfold Fld.val
 clear hset hL hv hT hbox w1b hDE hDW hDH hDB hfe
 go_enter Tryz.func67, Tryz.ntmps67
 go_upto_region 1 with fail
 rw [show ((w.alloc (.cells #[.string ⟨x.name.toArray⟩, .int .i64 x.kind, .int .i64 x.box.X, .int .i64 x.box.Y, .int .i64 x.box.W, .int .i64 x.box.H, .slice x.M x.marks.length x.mc, .int .i64 x.most, .bool x.needed] 136)).alloc (.cells #[.string ⟨nm.toArray⟩, .int .i64 ht, .int .i64 gap, .int .i64 sp, .slice (some adl) ls.length c] 29)).alloc (.cells #[.int .i64 0, .int .i64 0, .slice none 0 0] 24) = w1 from rfl]
 clear_value w1
 by_cases hk : x.kind = 1
 · have q : (x.kind == 1) = true := by simpa using hk
   have HE := Lib.hid (show DE = setErr ls ht gap sp t by rw [HDE.out]; unfold drawnE0; rw [if_pos hk])
   have HWW := Lib.hid (show DW = wideOf ls gap sp t by rw [HDW.out]; unfold drawnW; rw [if_pos hk])
   have HHH := Lib.hid (show DH = ht by rw [HDH.out]; unfold drawnH; rw [if_pos hk])
   have HBB := Lib.hid (show DB = setCells ls ht gap sp t by rw [HDB.out]; unfold drawnB; rw [if_pos hk])
   clear hk
   go_wp2_with fail
   refine Hset.out.mono ?_
   rintro e w2 ⟨a, b, R, m, d, rfl, hres, hb2⟩
   have hres2 : Res w1.heap.size w2 DE DW DH (DB.map .bool) a b R m d := by
    have h := hres
    unfold fsetErr at h
    rw [if_pos rfl, Int.toNat_natCast, Int.toNat_natCast, Int.toNat_natCast] at h
    rw [HE.out, HWW.out, HHH.out, HBB.out]
    exact h
   have hfs : fsetErr 0 ls ht gap sp t = DE := by
    unfold fsetErr
    rw [if_pos rfl, Int.toNat_natCast, Int.toNat_natCast, Int.toNat_natCast, HE.out]
   rw [hfs]
   have Hres := Lib.hid hres2; have Hb2 := Lib.hid (HW1b.out.trans hb2)
   have B3 := Lib.hid (w13.bl hb2)
   have k3 := B3.out.all3
   clear hres hres2 hfs hb2 k1 k2
   go_wp2_with fail
   obtain ⟨wS, hwS⟩ : ∃ x, x = ((w2.setCell ⟨w.heap.size + 1 + 1, 0, none⟩ (.int .i64 a)).setCell ⟨w.heap.size + 1 + 1, 1, none⟩ (.int .i64 b)).setCell ⟨w.heap.size + 1 + 1, 2, none⟩ (.slice R m d) := ⟨_, rfl⟩
   have bS : Blk wS (w.heap.size + 1 + 1) 24 #[.int .i64 a, .int .i64 b, .slice R m d] := by rw [hwS]; exact ((B3.out.set_ 0 _).set_ 1 _).set_ 2 _
   have hS : Bl w wS := by rw [hwS]; exact ((Hb2.out.setCell (by show _ ≤ _ + 1 + 1; omega) _).setCell (by show _ ≤ _ + 1 + 1; omega) _).setCell (by show _ ≤ _ + 1 + 1; omega) _
   have rS : Res w1.heap.size wS DE DW DH (DB.map .bool) a b R m d := by rw [hwS]; exact ((Hres.out.store (by show _ + 1 + 1 < _; omega) _).store (by show _ + 1 + 1 < _; omega) _).store (by show _ + 1 + 1 < _; omega) _
   rw [← hwS]
   have kF := bS.all3
   refine bodyPost_ret (v := .tuple #[.agg #[.int .i64 a, .int .i64 b, .slice R m d], .int .i64 DE]) (by simp [results, Tryz.results67, go_sem, kF]) rfl ⟨⟨a, b, R, m, d, rfl, rS.mono (by omega)⟩, hS⟩
 · have q : (x.kind == 1) = false := by simpa using hk
   have HE := Lib.hid (show DE = if codeErr t = 0 then whenI (decide (x.box.W < ((codeM t).length : Int))) 15 else codeErr t by rw [HDE.out]; unfold drawnE0; rw [if_neg hk])
   have HWW := Lib.hid (show DW = (codeM t).length by rw [HDW.out]; unfold drawnW; rw [if_neg hk])
   have HHH := Lib.hid (show DH = x.box.H.toNat by rw [HDH.out]; unfold drawnH; rw [if_neg hk])
   have HBB := Lib.hid (show DB = grid (codeM t).length x.box.H.toNat (drawF (codeM t) 1 0) by rw [HDB.out]; unfold drawnB; rw [if_neg hk])
   obtain ⟨h, hxH, hh, hxW, hWH⟩ := Hbox.out hk
   have htr := Lib.hid (fun wx => trim_any t digits10 wx (by omega) (by decide) digits_ascii)
   have Hean := Lib.hid (fun wx => ean_any t wx (by omega))
   have H39 := Lib.hid (fun wx hT => code39_any t wx (by omega) hT)
   have hd : digB t 13 = (decide (t.length = 13) && (Lib.trimS t digits10).isEmpty) := by unfold digB; rw [trim_made]
   obtain ⟨db, hdb⟩ : ∃ b, b = digB t 13 := ⟨_, rfl⟩
   rw [← hdb] at hd
   obtain ⟨CE, hCE⟩ : ∃ b, b = codeErr t := ⟨_, rfl⟩
   obtain ⟨CM, hCM⟩ : ∃ b, b = codeM t := ⟨_, rfl⟩
   have hCok : CE = 0 → madeOf CM bits01 = true ∧ CM ≠ [] ∧ CM.length ≤ 4000 := fun h => by rw [hCM]; exact codeM_ok (hCE.symm.trans h)
   rw [← hCE, ← hCM] at HE
   rw [← hCM] at HWW HBB
   have HCe := Lib.hid (show CE = if db = true then eanErr t else letErr t by rw [hCE, hdb]; rfl)
   have HCm := Lib.hid (show CM = if db = true then eanOf t else code39 t by rw [hCM, hdb]; rfl)
   have Hd := Lib.hid hd; have HCok := Lib.hid hCok
   have HxH := Lib.hid hxH; have HWH := Lib.hid hWH
   have hsz : (⟨t.toArray⟩ : ByteArray).size = t.length := Lib.size_mk t
   have Hdb := Lib.hid hdb
   clear hk hd hCE hCM hCok hWH hdb hxH
   go_upto_region 4 with fail
   go_cut [26] from 19 to 27 (fun s wc => s = .bool db ∧ Bl w1 wc)
   case first =>
    by_cases h13 : t.length = 13
    · obtain ⟨te, hte⟩ : ∃ b, (Lib.trimS t digits10).isEmpty = b := ⟨_, rfl⟩
      have HX := Lib.hid (show db = te by rw [Hd.out, decide_eq_true h13, hte]; rfl)
      have q3 : ((t.length : Int) == 13) = true := by simp [h13]
      clear h13
      go_wp2_with (go_at_call 130; refine (htr.out _).mono ?_; rintro e wa ⟨rfl, hba⟩)
      go_meet
      case rel => exact ⟨by rw [HX.out], hba⟩
    · have HX := Lib.hid (show db = false by rw [Hd.out, decide_eq_false h13]; rfl)
      have q3 : ((t.length : Int) == 13) = false := by rw [beq_eq_false_iff_ne]; omega
      clear h13
      go_wp2_with fail
      go_meet
      case rel => exact ⟨by rw [HX.out], Bl.refl _⟩
   case rest =>
   rename World => w2
   obtain ⟨rfl, hb2⟩ := hcut
   have Hb2 := Lib.hid hb2
   clear hb2 k1 k2 k3
   cases db with
   | true =>
    have HCm2 := Lib.hid (show CM = eanOf t from HCm.out)
    have HCe2 := Lib.hid (show CE = eanErr t from HCe.out)
    have hev : CE = 0 → eanVal t = CM := fun h => by rw [HCm2.out]; unfold eanVal; rw [if_pos (HCe2.out.symm.trans h)]
    have hean := Hean.out
    rw [← HCe2.out] at hean
    obtain ⟨EV, hEV⟩ : ∃ v, v = eanVal t := ⟨_, rfl⟩
    rw [← hEV] at hean hev
    have Hean := Lib.hid hean; have Hev := Lib.hid hev
    clear hean hev hEV
    go_upto_region 7 with (go_at_call 131; refine (Hean.out _).mono ?_; rintro e w3 ⟨rfl, hb3⟩)
    have Hb3 := Lib.hid (HW1b.out.trans (Hb2.out.trans hb3))
    have B3 := Lib.hid (w13.bl (Hb2.out.trans hb3))
    have k1 := (w11.bl (Hb2.out.trans hb3)).all9
    have hle3 := (Hb2.out.trans hb3).le
    clear hb3
    by_cases hz1 : CE = 0
    · obtain rfl := Hev.out hz1
      clear hz1
      by_cases hz : CE ≠ 0
      · have q2 : (CE != 0) = true := by simp [hz]
        have HX := Lib.hid (show DE = CE by rw [HE.out, if_neg hz])
        have Hz := Lib.hid hz
        have k3 := B3.out.all3
        clear hz
        go_wp2_with fail
        obtain ⟨wS, hwS⟩ : ∃ x, x = ((w3.setCell ⟨w.heap.size + 1 + 1, 0, none⟩ (.int .i64 0)).setCell ⟨w.heap.size + 1 + 1, 1, none⟩ (.int .i64 0)).setCell ⟨w.heap.size + 1 + 1, 2, none⟩ (.slice none 0 0) := ⟨_, rfl⟩
        have bS : Blk wS (w.heap.size + 1 + 1) 24 #[.int .i64 0, .int .i64 0, .slice none 0 0] := by rw [hwS]; exact ((B3.out.set_ 0 _).set_ 1 _).set_ 2 _
        have hS : Bl w wS := by rw [hwS]; exact ((Hb3.out.setCell (by show _ ≤ _ + 1 + 1; omega) _).setCell (by show _ ≤ _ + 1 + 1; omega) _).setCell (by show _ ≤ _ + 1 + 1; omega) _
        rw [← hwS]
        have kF := bS.all3
        refine bodyPost_ret (v := .tuple #[.agg #[.int .i64 0, .int .i64 0, .slice none 0 0], .int .i64 CE]) (by simp [results, Tryz.results67, go_sem, kF]) rfl ⟨⟨0, 0, none, 0, 0, by rw [HX.out], Res.zero _ _ _ _ _ (by rw [HX.out]; exact Hz.out)⟩, hS⟩
      · have hz0 : CE = 0 := Classical.not_not.1 hz
        have q2 : (CE != 0) = false := by simp [hz0]
        obtain ⟨c1, c2, c3⟩ := HCok.out hz0
        have HE2 := Lib.hid (show DE = whenI (decide (x.box.W < (EV.length : Int))) 15 by rw [HE.out, if_pos hz0])
        have k3 := B3.out.all3
        clear hz hz0
        by_cases hw : x.box.W < (EV.length : Int)
        · have HX := Lib.hid (show DE = 15 by rw [HE2.out, decide_eq_true hw]; rfl)
          go_wp2_with fail
          obtain ⟨wS, hwS⟩ : ∃ x, x = ((w3.setCell ⟨w.heap.size + 1 + 1, 0, none⟩ (.int .i64 0)).setCell ⟨w.heap.size + 1 + 1, 1, none⟩ (.int .i64 0)).setCell ⟨w.heap.size + 1 + 1, 2, none⟩ (.slice none 0 0) := ⟨_, rfl⟩
          have bS : Blk wS (w.heap.size + 1 + 1) 24 #[.int .i64 0, .int .i64 0, .slice none 0 0] := by rw [hwS]; exact ((B3.out.set_ 0 _).set_ 1 _).set_ 2 _
          have hS : Bl w wS := by rw [hwS]; exact ((Hb3.out.setCell (by show _ ≤ _ + 1 + 1; omega) _).setCell (by show _ ≤ _ + 1 + 1; omega) _).setCell (by show _ ≤ _ + 1 + 1; omega) _
          rw [← hwS]
          have kF := bS.all3
          refine bodyPost_ret (v := .tuple #[.agg #[.int .i64 0, .int .i64 0, .slice none 0 0], .int .i64 15]) (by simp [results, Tryz.results67, go_sem, kF]) rfl ⟨⟨0, 0, none, 0, 0, by rw [HX.out], Res.zero _ _ _ _ _ (by rw [HX.out]; exact (by decide))⟩, hS⟩
        · have HX := Lib.hid (show DE = 0 by rw [HE2.out, decide_eq_false hw]; rfl)
          have hdr := Lib.hid (draw_right c1 c2 (by omega) hxW hh HWH.out)
          have Hdr := Lib.hid (fun wx => draw_any EV 1 x.box.H 0 wx (by omega))
          clear c1 c2
          go_upto_region 11 with fail
          go_wp2_with fail
          refine (Hdr.out _).mono ?_
          rintro e w4 ⟨a, b, R, n, d, err, rfl, he, hres, hb4⟩
          have he0 : err = 0 := by rw [HxH.out] at he; exact he.trans hdr.out
          subst he0
          have hres2 : Res w3.heap.size w4 0 DW DH (DB.map .bool) a b R n d := by
           have h1 := hres
           rw [show ((2 : Int) * 0 + 1 * (EV.length : Int)).toNat = EV.length by omega, HxH.out, Int.toNat_natCast] at h1
           rw [HWW.out, HHH.out, HBB.out, HxH.out, Int.toNat_natCast]
           exact h1
          have Hres := Lib.hid hres2; have Hb4 := Lib.hid (Hb3.out.trans hb4)
          have B4 := Lib.hid (B3.out.bl hb4)
          have k3 := B4.out.all3
          have hle4 := hle3
          clear hres hres2 he hb4
          go_wp2_with fail
          obtain ⟨wS, hwS⟩ : ∃ x, x = ((w4.setCell ⟨w.heap.size + 1 + 1, 0, none⟩ (.int .i64 a)).setCell ⟨w.heap.size + 1 + 1, 1, none⟩ (.int .i64 b)).setCell ⟨w.heap.size + 1 + 1, 2, none⟩ (.slice R n d) := ⟨_, rfl⟩
          have bS : Blk wS (w.heap.size + 1 + 1) 24 #[.int .i64 a, .int .i64 b, .slice R n d] := by rw [hwS]; exact ((B4.out.set_ 0 _).set_ 1 _).set_ 2 _
          have hS : Bl w wS := by rw [hwS]; exact ((Hb4.out.setCell (by show _ ≤ _ + 1 + 1; omega) _).setCell (by show _ ≤ _ + 1 + 1; omega) _).setCell (by show _ ≤ _ + 1 + 1; omega) _
          have rS : Res w3.heap.size wS 0 DW DH (DB.map .bool) a b R n d := by rw [hwS]; exact ((Hres.out.store (by show _ + 1 + 1 < _; omega) _).store (by show _ + 1 + 1 < _; omega) _).store (by show _ + 1 + 1 < _; omega) _
          rw [← hwS]
          have kF := bS.all3
          refine bodyPost_ret (v := .tuple #[.agg #[.int .i64 a, .int .i64 b, .slice R n d], .int .i64 0]) (by simp [results, Tryz.results67, go_sem, kF]) rfl ⟨⟨a, b, R, n, d, by rw [HX.out], by rw [HX.out]; exact rS.mono (by omega)⟩, hS⟩
    · clear Hev
      have q2 : (CE != 0) = true := by simp [hz1]
      have HX := Lib.hid (show DE = CE by rw [HE.out, if_neg hz1])
      have Hz := Lib.hid hz1
      have k3 := B3.out.all3
      clear hz1
      go_wp2_with fail
      obtain ⟨wS, hwS⟩ : ∃ x, x = ((w3.setCell ⟨w.heap.size + 1 + 1, 0, none⟩ (.int .i64 0)).setCell ⟨w.heap.size + 1 + 1, 1, none⟩ (.int .i64 0)).setCell ⟨w.heap.size + 1 + 1, 2, none⟩ (.slice none 0 0) := ⟨_, rfl⟩
      have bS : Blk wS (w.heap.size + 1 + 1) 24 #[.int .i64 0, .int .i64 0, .slice none 0 0] := by rw [hwS]; exact ((B3.out.set_ 0 _).set_ 1 _).set_ 2 _
      have hS : Bl w wS := by rw [hwS]; exact ((Hb3.out.setCell (by show _ ≤ _ + 1 + 1; omega) _).setCell (by show _ ≤ _ + 1 + 1; omega) _).setCell (by show _ ≤ _ + 1 + 1; omega) _
      rw [← hwS]
      have kF := bS.all3
      refine bodyPost_ret (v := .tuple #[.agg #[.int .i64 0, .int .i64 0, .slice none 0 0], .int .i64 CE]) (by simp [results, Tryz.results67, go_sem, kF]) rfl ⟨⟨0, 0, none, 0, 0, by rw [HX.out], Res.zero _ _ _ _ _ (by rw [HX.out]; exact Hz.out)⟩, hS⟩
   | false =>
    have HCm2 := Lib.hid (show CM = code39 t from HCm.out)
    have HCe2 := Lib.hid (show CE = letErr t from HCe.out)
    have hev : CE = 0 → codeRes t = CM := fun h => by rw [HCm2.out]; unfold codeRes; rw [if_pos (HCe2.out.symm.trans h)]
    have h39 := fun wx hT => H39.out wx hT
    rw [← HCe2.out] at h39
    obtain ⟨EV, hEV⟩ : ∃ v, v = codeRes t := ⟨_, rfl⟩
    rw [← hEV] at h39 hev
    have H39 := Lib.hid h39; have Hev := Lib.hid hev
    clear h39 hev hEV
    go_upto_region 7 with (go_at_call 129; refine (H39.out _ (HT.out.bl Hb2.out)).mono ?_; rintro e w3 ⟨rfl, hb3⟩)
    have Hb3 := Lib.hid (HW1b.out.trans (Hb2.out.trans hb3))
    have B3 := Lib.hid (w13.bl (Hb2.out.trans hb3))
    have k1 := (w11.bl (Hb2.out.trans hb3)).all9
    have hle3 := (Hb2.out.trans hb3).le
    clear hb3
    by_cases hz1 : CE = 0
    · obtain rfl := Hev.out hz1
      clear hz1
      by_cases hz : CE ≠ 0
      · have q2 : (CE != 0) = true := by simp [hz]
        have HX := Lib.hid (show DE = CE by rw [HE.out, if_neg hz])
        have Hz := Lib.hid hz
        have k3 := B3.out.all3
        clear hz
        go_wp2_with fail
        obtain ⟨wS, hwS⟩ : ∃ x, x = ((w3.setCell ⟨w.heap.size + 1 + 1, 0, none⟩ (.int .i64 0)).setCell ⟨w.heap.size + 1 + 1, 1, none⟩ (.int .i64 0)).setCell ⟨w.heap.size + 1 + 1, 2, none⟩ (.slice none 0 0) := ⟨_, rfl⟩
        have bS : Blk wS (w.heap.size + 1 + 1) 24 #[.int .i64 0, .int .i64 0, .slice none 0 0] := by rw [hwS]; exact ((B3.out.set_ 0 _).set_ 1 _).set_ 2 _
        have hS : Bl w wS := by rw [hwS]; exact ((Hb3.out.setCell (by show _ ≤ _ + 1 + 1; omega) _).setCell (by show _ ≤ _ + 1 + 1; omega) _).setCell (by show _ ≤ _ + 1 + 1; omega) _
        rw [← hwS]
        have kF := bS.all3
        refine bodyPost_ret (v := .tuple #[.agg #[.int .i64 0, .int .i64 0, .slice none 0 0], .int .i64 CE]) (by simp [results, Tryz.results67, go_sem, kF]) rfl ⟨⟨0, 0, none, 0, 0, by rw [HX.out], Res.zero _ _ _ _ _ (by rw [HX.out]; exact Hz.out)⟩, hS⟩
      · have hz0 : CE = 0 := Classical.not_not.1 hz
        have q2 : (CE != 0) = false := by simp [hz0]
        obtain ⟨c1, c2, c3⟩ := HCok.out hz0
        have HE2 := Lib.hid (show DE = whenI (decide (x.box.W < (EV.length : Int))) 15 by rw [HE.out, if_pos hz0])
        have k3 := B3.out.all3
        clear hz hz0
        by_cases hw : x.box.W < (EV.length : Int)
        · have HX := Lib.hid (show DE = 15 by rw [HE2.out, decide_eq_true hw]; rfl)
          go_wp2_with fail
          obtain ⟨wS, hwS⟩ : ∃ x, x = ((w3.setCell ⟨w.heap.size + 1 + 1, 0, none⟩ (.int .i64 0)).setCell ⟨w.heap.size + 1 + 1, 1, none⟩ (.int .i64 0)).setCell ⟨w.heap.size + 1 + 1, 2, none⟩ (.slice none 0 0) := ⟨_, rfl⟩
          have bS : Blk wS (w.heap.size + 1 + 1) 24 #[.int .i64 0, .int .i64 0, .slice none 0 0] := by rw [hwS]; exact ((B3.out.set_ 0 _).set_ 1 _).set_ 2 _
          have hS : Bl w wS := by rw [hwS]; exact ((Hb3.out.setCell (by show _ ≤ _ + 1 + 1; omega) _).setCell (by show _ ≤ _ + 1 + 1; omega) _).setCell (by show _ ≤ _ + 1 + 1; omega) _
          rw [← hwS]
          have kF := bS.all3
          refine bodyPost_ret (v := .tuple #[.agg #[.int .i64 0, .int .i64 0, .slice none 0 0], .int .i64 15]) (by simp [results, Tryz.results67, go_sem, kF]) rfl ⟨⟨0, 0, none, 0, 0, by rw [HX.out], Res.zero _ _ _ _ _ (by rw [HX.out]; exact (by decide))⟩, hS⟩
        · have HX := Lib.hid (show DE = 0 by rw [HE2.out, decide_eq_false hw]; rfl)
          have hdr := Lib.hid (draw_right c1 c2 (by omega) hxW hh HWH.out)
          have Hdr := Lib.hid (fun wx => draw_any EV 1 x.box.H 0 wx (by omega))
          clear c1 c2
          go_upto_region 11 with fail
          go_wp2_with fail
          refine (Hdr.out _).mono ?_
          rintro e w4 ⟨a, b, R, n, d, err, rfl, he, hres, hb4⟩
          have he0 : err = 0 := by rw [HxH.out] at he; exact he.trans hdr.out
          subst he0
          have hres2 : Res w3.heap.size w4 0 DW DH (DB.map .bool) a b R n d := by
           have h1 := hres
           rw [show ((2 : Int) * 0 + 1 * (EV.length : Int)).toNat = EV.length by omega, HxH.out, Int.toNat_natCast] at h1
           rw [HWW.out, HHH.out, HBB.out, HxH.out, Int.toNat_natCast]
           exact h1
          have Hres := Lib.hid hres2; have Hb4 := Lib.hid (Hb3.out.trans hb4)
          have B4 := Lib.hid (B3.out.bl hb4)
          have k3 := B4.out.all3
          have hle4 := hle3
          clear hres hres2 he hb4
          go_wp2_with fail
          obtain ⟨wS, hwS⟩ : ∃ x, x = ((w4.setCell ⟨w.heap.size + 1 + 1, 0, none⟩ (.int .i64 a)).setCell ⟨w.heap.size + 1 + 1, 1, none⟩ (.int .i64 b)).setCell ⟨w.heap.size + 1 + 1, 2, none⟩ (.slice R n d) := ⟨_, rfl⟩
          have bS : Blk wS (w.heap.size + 1 + 1) 24 #[.int .i64 a, .int .i64 b, .slice R n d] := by rw [hwS]; exact ((B4.out.set_ 0 _).set_ 1 _).set_ 2 _
          have hS : Bl w wS := by rw [hwS]; exact ((Hb4.out.setCell (by show _ ≤ _ + 1 + 1; omega) _).setCell (by show _ ≤ _ + 1 + 1; omega) _).setCell (by show _ ≤ _ + 1 + 1; omega) _
          have rS : Res w3.heap.size wS 0 DW DH (DB.map .bool) a b R n d := by rw [hwS]; exact ((Hres.out.store (by show _ + 1 + 1 < _; omega) _).store (by show _ + 1 + 1 < _; omega) _).store (by show _ + 1 + 1 < _; omega) _
          rw [← hwS]
          have kF := bS.all3
          refine bodyPost_ret (v := .tuple #[.agg #[.int .i64 a, .int .i64 b, .slice R n d], .int .i64 0]) (by simp [results, Tryz.results67, go_sem, kF]) rfl ⟨⟨a, b, R, n, d, by rw [HX.out], by rw [HX.out]; exact rS.mono (by omega)⟩, hS⟩
    · clear Hev
      have q2 : (CE != 0) = true := by simp [hz1]
      have HX := Lib.hid (show DE = CE by rw [HE.out, if_neg hz1])
      have Hz := Lib.hid hz1
      have k3 := B3.out.all3
      clear hz1
      go_wp2_with fail
      obtain ⟨wS, hwS⟩ : ∃ x, x = ((w3.setCell ⟨w.heap.size + 1 + 1, 0, none⟩ (.int .i64 0)).setCell ⟨w.heap.size + 1 + 1, 1, none⟩ (.int .i64 0)).setCell ⟨w.heap.size + 1 + 1, 2, none⟩ (.slice none 0 0) := ⟨_, rfl⟩
      have bS : Blk wS (w.heap.size + 1 + 1) 24 #[.int .i64 0, .int .i64 0, .slice none 0 0] := by rw [hwS]; exact ((B3.out.set_ 0 _).set_ 1 _).set_ 2 _
      have hS : Bl w wS := by rw [hwS]; exact ((Hb3.out.setCell (by show _ ≤ _ + 1 + 1; omega) _).setCell (by show _ ≤ _ + 1 + 1; omega) _).setCell (by show _ ≤ _ + 1 + 1; omega) _
      rw [← hwS]
      have kF := bS.all3
      refine bodyPost_ret (v := .tuple #[.agg #[.int .i64 0, .int .i64 0, .slice none 0 0], .int .i64 CE]) (by simp [results, Tryz.results67, go_sem, kF]) rfl ⟨⟨0, 0, none, 0, 0, by rw [HX.out], Res.zero _ _ _ _ _ (by rw [HX.out]; exact Hz.out)⟩, hS⟩
end Go.Proofs.YthobmednnocklaaGreatDoor
