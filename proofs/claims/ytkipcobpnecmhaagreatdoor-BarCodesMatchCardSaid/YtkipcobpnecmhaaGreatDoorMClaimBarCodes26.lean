/- bar.Vote. -/
import Derived.Test.YtkipcobpnecmhaaGreatDoorMClaimBarCodes23
import Derived.Test.YtkipcobpnecmhaaGreatDoorMClaimBarCodes6
import Derived.Shelf.SlSortCmp.NoneTotal
import Derived.Shelf.SlicesQ.IndexFunc
import Derived.Ground.SlgfProg

namespace Go.Proofs
open Go.Shelf
def Tryz.laysIdxCd_ren : Go.Shelf.Ren := ⟨fun | 6 => 88 | n => n, fun | 22 => 35 | 23 => 39 | 25 => 115 | 3 => 3 | 0 => 0 | 4 => 4 | n => n, fun | n => n⟩
theorem Tryz.laysIdxCd : Go.Proofs.SlLaysH0.n6 Tryz.prog Tryz.laysIdxCd_ren := {
  mixed := by kernel_rfl
  f6 := ⟨Tryz.f88.name, by decide, Tryz.func88.trans (congrArg some (by kernel_rfl))⟩
  t0 := Tryz.underlying0
  a0 := Tryz.isAgg0
  z0 := Tryz.sizeOf0
  v0 := Tryz.zeroValue0
  t3 := Tryz.underlying3
  a3 := Tryz.isAgg3
  z3 := Tryz.sizeOf3
  v3 := Tryz.zeroValue3
  t4 := Tryz.underlying4
  a4 := Tryz.isAgg4
  z4 := Tryz.sizeOf4
  v4 := Tryz.zeroValue4
  t22 := Tryz.underlying35
  a22 := Tryz.isAgg35
  z22 := Tryz.sizeOf35
  v22 := Tryz.zeroValue35
  t25 := Tryz.underlying115
  a25 := Tryz.isAgg115
  z25 := Tryz.sizeOf115
  v25 := Tryz.zeroValue115 }

end Go.Proofs
namespace Go.Proofs.YtkipcobpnecmhaaGreatDoor
open Go.RowKit Go.Shelf Go.Sort Go.Lib

def toS (out : List Cd) (h : ∀ e ∈ out, CdIn e) : List CdS := out.pmap Subtype.mk h
theorem toS_len (out : List Cd) (h : ∀ e ∈ out, CdIn e) : (toS out h).length = out.length := List.length_pmap ..
theorem toS_at {out : List Cd} (h : ∀ e ∈ out, CdIn e) {i : Nat} {e : Cd} (hi : out[i]? = some e) : ∃ p, (toS out h)[i]? = some ⟨e, p⟩ := by
  obtain ⟨hl, he⟩ := List.getElem?_eq_some_iff.1 hi
  refine ⟨h e (List.mem_of_getElem? hi), ?_⟩
  rw [List.getElem?_eq_getElem (by rw [toS_len]; exact hl)]
  congr 1
  apply Subtype.ext
  unfold toS
  rw [List.getElem_pmap]
  exact he
def sortedCd (out : List Cd) (h : ∀ e ∈ out, CdIn e) : List Cd := (pdq (ltOf cfRS) (toS out h).toArray 0 (toS out h).toArray.size (Lib.bitLen (toS out h).toArray.size) true true).toList.map (·.1)
theorem holdsK_cd {w : World} {B blk cap : Nat} {T : TypeId} {out : List Cd} (h : ∀ e ∈ out, CdIn e) (hown : w.ownsRow B T 6 (.slice (some ⟨blk, 0, none⟩) out.length cap) out.length (cdCells out)) : HoldsK encS 6 w blk 0 (toS out h).toArray := by
  intro j hj
  rw [size_flatK, List.size_toArray, toS_len] at hj
  rw [get_flatK _ _ _ _ (by rw [List.size_toArray, toS_len]; exact hj), Nat.zero_add]
  obtain ⟨e, he⟩ : ∃ e, out[j / 6]? = some e := ⟨_, List.getElem?_eq_getElem (by omega)⟩
  obtain ⟨p, hp⟩ := toS_at h he
  have h1 : (toS out h).toArray[j / 6]! = ⟨e, p⟩ := by
    rw [List.getElem!_toArray, List.getElem!_eq_getElem?_getD, hp]
    rfl
  rw [h1]
  have hc := cdCells_at he (j % 6) (by omega)
  rw [show j / 6 * 6 + j % 6 = j by omega] at hc
  have hl : j % 6 < e.cells.length := by show j % 6 < 6; omega
  rw [List.getElem?_eq_getElem hl] at hc
  refine ⟨?_, (own_blk hown).2 j⟩
  rw [own_cell hown hc]
  show some (e.cells[j % 6]) = some (id (e.cells[j % 6]!))
  rw [List.getElem!_eq_getElem?_getD, List.getElem?_eq_getElem hl]
  rfl
theorem reads_holdsK {w : World} {blk : Nat} {d : Array CdS} (h : HoldsK encS 6 w blk 0 d) : Reads w 6 (some ⟨blk, 0, none⟩) d.size (cdCells (d.toList.map (·.1))) := by
  refine ⟨by rw [cdCells_len]; simp, fun _ => ⟨_, rfl, fun j u hu => ?_⟩⟩
  have hj : j < d.size * 6 := by
    have := (List.getElem?_eq_some_iff.1 hu).1
    rw [cdCells_len] at this
    simpa using this
  have hi : j / 6 < d.size := by omega
  have he : (d.toList.map (·.1))[j / 6]? = some (d[j / 6]!).1 := by
    rw [List.getElem?_map, Array.getElem?_toList, Array.getElem?_eq_getElem hi, getElem!_pos d _ hi]
    rfl
  have hc := cdCells_at he (j % 6) (by omega)
  rw [show j / 6 * 6 + j % 6 = j by omega, hu] at hc
  have := HoldsK.cells h (fun _ => rfl) hi (j % 6) u hc.symm
  rw [Addr.add_lit] at this
  rw [Addr.add_lit, Nat.zero_add]
  rw [Nat.zero_add, show j / 6 * 6 + j % 6 = j by omega] at this
  exact this
theorem bl_sortWorld {w0 w : World} {blk n : Nat} {d : Array CdS} {os : Array Obj} (h : Bl w0 w) (hb : w0.heap.size ≤ blk) : Bl w0 (sortWorldK encS 6 w blk 0 n d os) := by
  have h1 : Bl w0 (putRowK encS 6 (Sort.ahead w n) blk 0 d) := Lib.below_putRow (q := n) h hb
  refine ⟨h1.os, h1.tape, h1.output, ?_, fun k hk => ?_⟩
  · have := Below.size h1
    show _ ≤ ((putRowK encS 6 (Sort.ahead w n) blk 0 d).heap ++ os).size
    simp
    omega
  · have h2 := Below.block h1 k hk
    have h3 := Below.size h1
    show ((putRowK encS 6 (Sort.ahead w n) blk 0 d).heap ++ os)[k]? = _
    rw [Array.getElem?_append_left (by omega)]
    exact h2
theorem sort_any (g : Nat) (cf : CdS → CdS → Int) (hlt : ltOf cf = ltOf cfRS) (eg : ∀ args w, (callFunc g args).run Tryz.prog w = .ok (.enter g args) w)
    (hc : ∀ (x y : CdS) (w : World), Calls Tryz.prog g #[.agg (encS x).toArray, .agg (encS y).toArray] w fun e w' => e = .returned (.int .i64 (cf x y)) ∧ ∃ q os', w' = grow (w.drewN q) os')
    (B blk cap : Nat) (T : TypeId) (out : List Cd) (h : ∀ e ∈ out, CdIn e) (w : World) (hown : w.ownsRow B T 6 (.slice (some ⟨blk, 0, none⟩) out.length cap) out.length (cdCells out)) (hn : out.length ≤ 1000000) :
    Calls Tryz.prog 74 #[.slice (some ⟨blk, 0, none⟩) out.length cap, .func (.func g) #[] #[]] w fun e w' => e = .returned (.tuple #[]) ∧ Reads w' 6 (some ⟨blk, 0, none⟩) out.length (cdCells (sortedCd out h)) ∧ ∀ w0, Bl w0 w → w0.heap.size ≤ blk → Bl w0 w' := by
  have hs : (toS out h).toArray.size = out.length := by rw [List.size_toArray, toS_len]
  have hblk : blk < w.heap.size := own_lt hown
  have hH := holdsK_cd h hown
  have hO : SWO (ltOf cf) := by rw [hlt]; exact cfRS_swo
  have hcmp : CmpLays Tryz.prog g #[] encS 6 cf blk 0 (toS out h).toArray.size w := fun _ _ _ _ x y => hc x y _
  have hcon := AnyQ.slices_SortFunc_eq Tryz.laysSortCd 6 Tryz.isAgg39 Tryz.sizeOf39 encS (fun _ => rfl) (fun x v hv => by
    have hv : v ∈ ([.int .i64 x.1.k, .string ⟨x.1.t.toArray⟩, .int .i64 x.1.X, .int .i64 x.1.Y, .int .i64 x.1.W, .int .i64 x.1.n] : List Value) := hv
    simp only [List.mem_cons, List.not_mem_nil, or_false] at hv
    rcases hv with rfl | rfl | rfl | rfl | rfl | rfl <;> rfl) cf hO g #[] blk 0 cap (toS out h).toArray w eg hcmp hH hblk (by omega)
  rw [hlt, hs] at hcon
  refine Calls.mono (R := fun e w' => e = .returned (.tuple #[]) ∧ ∃ n os, w' = sortWorldK encS 6 w blk 0 n (pdq (ltOf cfRS) (toS out h).toArray 0 out.length (Lib.bitLen out.length) true true) os) hcon ?_
  rintro e w' ⟨rfl, n, os, rfl⟩
  have hps := (pdq_sorts (ltOf cfRS) cfRS_swo (toS out h).toArray 0 (toS out h).toArray.size (Lib.bitLen (toS out h).toArray.size) true true (Nat.zero_le _) (Nat.le_refl _) (Or.inl rfl)).1.1
  have hsw : SWK encS 6 w blk 0 (pdq (ltOf cfRS) (toS out h).toArray 0 out.length (Lib.bitLen out.length) true true) (sortWorldK encS 6 w blk 0 n (pdq (ltOf cfRS) (toS out h).toArray 0 out.length (Lib.bitLen out.length) true true) os) := ⟨n, os, rfl⟩
  have hsz : (pdq (ltOf cfRS) (toS out h).toArray 0 out.length (Lib.bitLen out.length) true true).size = (toS out h).toArray.size := by rw [hs] at hps; rw [hps, hs]
  have hR := reads_holdsK (hsw.holds hblk hH hsz)
  rw [hsz, hs] at hR
  refine ⟨rfl, ?_, fun w0 h0 hb => bl_sortWorld h0 hb⟩
  unfold sortedCd
  rw [hs]
  exact hR
theorem sortNone_any (fv : Value) (c : Nat) (w : World) : Calls Tryz.prog 74 #[.slice none 0 c, fv] w fun e w' => e = .returned (.tuple #[]) ∧ w' = w := by
  have h := AnyF.slices_SortFunc_none { Tryz.laysSortCd with } none c fv w
  exact h
/-! ### slices.IndexFunc -/
theorem idxFunc_any (g : Nat) (lb : Array Value) (p : Cd → Bool) (eg : ∀ args w, (callFunc g args).run Tryz.prog w = .ok (.enter g args) w) (w : World)
    (hp : ∀ (W : World) (x : Cd), Bl w W → Calls Tryz.prog g (#[.agg x.cells.toArray] ++ lb) W fun e w' => e = .returned (.bool (p x)) ∧ Bl W w')
    (B blk cap : Nat) (T : TypeId) (out : List Cd) (hown : w.ownsRow B T 6 (.slice (some ⟨blk, 0, none⟩) out.length cap) out.length (cdCells out)) (hn : out.length ≤ 1000000) :
    Calls Tryz.prog 88 #[.slice (some ⟨blk, 0, none⟩) out.length cap, .func (.func g) #[] lb] w fun e w' => e = .returned (.int .i64 (match out.findIdx? p with | some k => (k : Int) | none => -1)) ∧ Bl w w' := by
  have hcon := AnyQ.slices_IndexFunc Tryz.laysIdxCd 6 Tryz.isAgg39 Tryz.sizeOf39 Cd.cells (fun _ => rfl) p g lb eg blk 0 out.length cap out w (fun W x hb => (hp W x hb).mono fun _ _ ⟨he, hb'⟩ => ⟨he, Bl.trans hb hb'⟩) (Nat.le_refl _) (by omega) (own_lt hown) (fun j hj i v hv => by
    obtain ⟨e, he⟩ : ∃ e, out[j]? = some e := ⟨_, List.getElem?_eq_getElem hj⟩
    have h1 : out[j]! = e := by rw [List.getElem!_eq_getElem?_getD, he]; rfl
    rw [h1] at hv
    have hi : i < 6 := (List.getElem?_eq_some_iff.1 hv).1
    rw [Nat.zero_add]
    exact own_cell hown (by rw [cdCells_at he i hi]; exact hv))
  rw [List.take_length, idxBy_find] at hcon
  exact hcon

end Go.Proofs.YtkipcobpnecmhaaGreatDoor


/-! bedref2.VoteOf. -/
namespace Go.Proofs.YtkipcobpnecmhaaGreatDoor
open Go.RowKit Go.Shelf Go.Sort Go.Lib

theorem info_code : (Tryz.prog.info? 39).map (fun i => (i.zero, i.size, i.bytes)) = some (some (.agg #[.int .i64 0, .string ⟨#[]⟩, .int .i64 0, .int .i64 0, .int .i64 0, .int .i64 0]), 6, 56) := by kernel_rfl
set_option maxRecDepth 100000 in
theorem idxFuncNil_any (fv : Value) (w : World) : Calls Tryz.prog 88 #[.slice none 0 0, fv] w fun e w' => e = .returned (.int .i64 (-1)) ∧ w = w' := by
  go_enter Tryz.func88, Tryz.ntmps88
  go_wp2_with fail
  refine wp_loop_rounds 1 ?_
  rw [rounds_succ]
  go_wp2_with fail
  go_ret
  exact ⟨rfl, rfl⟩
/-- A row of codes that grows; nil as long as it is empty. -/
def RowC (w : World) (B : Nat) (v : Value) (out : List Cd) : Prop := w.ownsRow B 39 6 v out.length (cdCells out) ∧ (out = [] → v = .slice none 0 0)
theorem RowC.nil (w : World) (B : Nat) : RowC w B (.slice none 0 0) [] := ⟨World.ownsRow_nil w B _ 6, fun _ => rfl⟩
theorem RowC.bl {w w' : World} {B : Nat} {v : Value} {out : List Cd} (h : RowC w B v out) (hb : Bl w w') : RowC w' B v out := ⟨own_bl h.1 hb, h.2⟩
theorem RowC.got {w : World} {B : Nat} {v : Value} {out : List Cd} (h : RowC w B v out) (hn : out ≠ []) : ∃ g cap, v = .slice (some ⟨g, 0, none⟩) out.length cap ∧ B ≤ g := by
  obtain ⟨g, cap, hv, hb, _⟩ := own_some h.1 (List.length_pos_iff.2 hn)
  exact ⟨g, cap, hv, hb⟩
theorem idxRow_any (g : Nat) (lb : Array Value) (p : Cd → Bool) (eg : ∀ args w, (callFunc g args).run Tryz.prog w = .ok (.enter g args) w) (w : World)
    (hp : ∀ (W : World) (x : Cd), Bl w W → Calls Tryz.prog g (#[.agg x.cells.toArray] ++ lb) W fun e w' => e = .returned (.bool (p x)) ∧ Bl W w')
    (B : Nat) (v : Value) (out : List Cd) (hown : RowC w B v out) (hn : out.length ≤ 1000000) :
    Calls Tryz.prog 88 #[v, .func (.func g) #[] lb] w fun e w' => e = .returned (.int .i64 (match out.findIdx? p with | some k => (k : Int) | none => -1)) ∧ Bl w w' := by
  by_cases h0 : out = []
  · rw [hown.2 h0, h0]
    refine (idxFuncNil_any _ w).mono ?_
    rintro e w' ⟨rfl, rfl⟩
    exact ⟨rfl, Bl.refl _⟩
  · obtain ⟨gg, cap, rfl, hB⟩ := hown.got h0
    exact idxFunc_any g lb p eg w hp B gg cap _ out hown.1 hn
theorem cdCells_set1 {out : List Cd} {i : Nat} {o : Cd} (h : out[i]? = some o) (j : Nat) (hj : j < 6) (u : Value) : (cdCells out).set (i * 6 + j) u = (out.take i).flatMap Cd.cells ++ o.cells.set j u ++ (out.drop (i + 1)).flatMap Cd.cells := by
  induction out generalizing i with
  | nil => simp at h
  | cons y out ih =>
    unfold cdCells
    rw [List.flatMap_cons]
    cases i with
    | zero =>
      simp only [List.getElem?_cons_zero, Option.some.injEq] at h
      subst h
      rw [List.set_append_left _ _ (by show 0 * 6 + j < 6; omega)]
      simp
    | succ i =>
      rw [List.set_append_right _ _ (by show 6 ≤ (i + 1) * 6 + j; omega)]
      rw [show (i + 1) * 6 + j - y.cells.length = i * 6 + j by show (i + 1) * 6 + j - 6 = _; omega]
      have := ih (i := i) (by simpa using h)
      unfold cdCells at this
      rw [this]
      simp
theorem flat_split {out : List Cd} {i : Nat} {o : Cd} (h : out[i]? = some o) (c : Cd) : cdCells (out.set i c) = (out.take i).flatMap Cd.cells ++ c.cells ++ (out.drop (i + 1)).flatMap Cd.cells := by
  induction out generalizing i with
  | nil => simp at h
  | cons y out ih =>
    unfold cdCells
    cases i with
    | zero => simp
    | succ i =>
      have := ih (i := i) (by simpa using h)
      unfold cdCells at this
      rw [List.set_cons_succ, List.flatMap_cons, this]
      simp
theorem cdCells_set {out : List Cd} {i : Nat} {o : Cd} (h : out[i]? = some o) (X Y W n : Int) :
    ((((cdCells out).set (i * 6 + 2) (.int .i64 X)).set (i * 6 + 3) (.int .i64 Y)).set (i * 6 + 5) (.int .i64 n)).set (i * 6 + 4) (.int .i64 W) = cdCells (out.set i ⟨o.k, o.t, X, Y, W, n⟩) := by
  have hl : i < out.length := (List.getElem?_eq_some_iff.1 h).1
  have e1 : (cdCells out).set (i * 6 + 2) (.int .i64 X) = cdCells (out.set i ⟨o.k, o.t, X, o.Y, o.W, o.n⟩) := by rw [cdCells_set1 h 2 (by omega), flat_split h]; rfl
  have h1 : (out.set i ⟨o.k, o.t, X, o.Y, o.W, o.n⟩)[i]? = some ⟨o.k, o.t, X, o.Y, o.W, o.n⟩ := by rw [List.getElem?_set_self hl]
  have e2 : (cdCells (out.set i ⟨o.k, o.t, X, o.Y, o.W, o.n⟩)).set (i * 6 + 3) (.int .i64 Y) = cdCells (out.set i ⟨o.k, o.t, X, Y, o.W, o.n⟩) := by rw [cdCells_set1 h1 3 (by omega)]; exact (flat_split h1 ⟨o.k, o.t, X, Y, o.W, o.n⟩).symm.trans (by rw [List.set_set])
  have h2 : (out.set i ⟨o.k, o.t, X, Y, o.W, o.n⟩)[i]? = some ⟨o.k, o.t, X, Y, o.W, o.n⟩ := by rw [List.getElem?_set_self hl]
  have e3 : (cdCells (out.set i ⟨o.k, o.t, X, Y, o.W, o.n⟩)).set (i * 6 + 5) (.int .i64 n) = cdCells (out.set i ⟨o.k, o.t, X, Y, o.W, n⟩) := by rw [cdCells_set1 h2 5 (by omega)]; exact (flat_split h2 ⟨o.k, o.t, X, Y, o.W, n⟩).symm.trans (by rw [List.set_set])
  have h3 : (out.set i ⟨o.k, o.t, X, Y, o.W, n⟩)[i]? = some ⟨o.k, o.t, X, Y, o.W, n⟩ := by rw [List.getElem?_set_self hl]
  have e4 : (cdCells (out.set i ⟨o.k, o.t, X, Y, o.W, n⟩)).set (i * 6 + 4) (.int .i64 W) = cdCells (out.set i ⟨o.k, o.t, X, Y, W, n⟩) := by rw [cdCells_set1 h3 4 (by omega)]; exact (flat_split h3 ⟨o.k, o.t, X, Y, W, n⟩).symm.trans (by rw [List.set_set])
  rw [e1, e2, e3, e4]
theorem RowC.set {w : World} {B g cap i : Nat} {out : List Cd} {o : Cd} (h : RowC w B (.slice (some ⟨g, 0, none⟩) out.length cap) out) (hi : out[i]? = some o) (X Y W n : Int) :
    RowC ((((w.setCell ⟨g, i * 6 + 2, none⟩ (.int .i64 X)).setCell ⟨g, i * 6 + 3, none⟩ (.int .i64 Y)).setCell ⟨g, i * 6 + 5, none⟩ (.int .i64 n)).setCell ⟨g, i * 6 + 4, none⟩ (.int .i64 W)) B (.slice (some ⟨g, 0, none⟩) (out.set i ⟨o.k, o.t, X, Y, W, n⟩).length cap) (out.set i ⟨o.k, o.t, X, Y, W, n⟩) := by
  refine ⟨?_, fun e => ?_⟩
  · rw [← cdCells_set hi, List.length_set]
    exact ownsRow_set (ownsRow_set (ownsRow_set (ownsRow_set h.1 _ _) _ _) _ _) _ _
  · have hl : i < out.length := (List.getElem?_eq_some_iff.1 hi).1
    have := congrArg List.length e
    rw [List.length_set, List.length_nil] at this
    omega
theorem sortedCd_len (out : List Cd) (h : ∀ e ∈ out, CdIn e) : (sortedCd out h).length = out.length := by
  have hps := (pdq_sorts (ltOf cfRS) cfRS_swo (toS out h).toArray 0 (toS out h).toArray.size (Lib.bitLen (toS out h).toArray.size) true true (Nat.zero_le _) (Nat.le_refl _) (Or.inl rfl)).1.1
  unfold sortedCd
  rw [List.length_map, Array.length_toList, hps, List.size_toArray, toS_len]
theorem cdCells_append (a b : List Cd) : cdCells (a ++ b) = cdCells a ++ cdCells b := by unfold cdCells; rw [List.flatMap_append]

set_option maxRecDepth 100000 in
set_option maxHeartbeats 4000000 in
theorem voteOf_any (A : Option Addr) (d : Nat) (cs : List Cd) (w : World) (hx : Reads w 6 A cs.length (cdCells cs)) (hl : cs.length ≤ 10000) (hok : ∀ c ∈ cs, CdOk 1 c) :
    Calls Tryz.prog 50 #[.slice A cs.length d] w fun e w' => ∃ R c h, e = .returned (.slice R (groupC cs).length c) ∧ Reads w' 6 R (groupC cs).length (cdCells (sortedCd (groupC cs) h)) ∧ Bl w w' := by
  have HX := Lib.hid hx
  have HOK := Lib.hid (groupC_ok hok)
  have HCk := Lib.hid hok
  clear hx hok
  go_enter Tryz.func50, Tryz.ntmps50
  go_wp2_with fail
  go_loopw [3, 11] (fun s3 s11 wr => ∃ (i : Nat) (v : Value), i ≤ cs.length ∧ s11 = .int .i64 i ∧ v = s3 ∧ Bl w wr ∧ RowC wr w.heap.size v (groupC (cs.take i))) (fun _ s11 _ => cs.length - (RowKit.intOf s11).toNat)
  case atStart => exact ⟨0, _, Nat.zero_le _, rfl, rfl, Bl.refl _, RowC.nil _ _⟩
  case round =>
    obtain ⟨i, v, hi, rfl, rfl, hbr, hrow⟩ := hrel
    have HRow := Lib.hid hrow
    clear hrow
    by_cases hlt : i < cs.length
    · obtain ⟨c, hc⟩ : ∃ c, cs[i]? = some c := ⟨_, List.getElem?_eq_getElem hlt⟩
      obtain ⟨ad, rfl, k0, k1, k2, k3, k4, k5⟩ := cd_at (HX.out.bl hbr) hc
      have hin : (i : Int) < (cs.length : Int) := by omega
      have HG := Lib.hid (groupC_succ hc)
      have HC1 := Lib.hid (HCk.out c (List.mem_of_getElem? hc))
      obtain ⟨out, hout⟩ : ∃ out, out = groupC (cs.take i) := ⟨_, rfl⟩
      rw [← hout] at HRow HG
      have HO := Lib.hid (show (∀ e ∈ out, CdOk i e) ∧ out.length ≤ i from hout ▸ HOK.out i hi)
      clear hc hout
      go_upto_region 5 with fail
      obtain ⟨w5, hw5⟩ : ∃ x, x = wr.alloc (.cells #[.int .i64 c.k, .string ⟨c.t.toArray⟩, .int .i64 c.X, .int .i64 c.Y, .int .i64 c.W, .int .i64 c.n] 39) := ⟨_, rfl⟩
      obtain ⟨o, ho⟩ : ∃ x, x = wr.heap.size := ⟨_, rfl⟩
      have bO : Blk w5 o 39 #[.int .i64 c.k, .string ⟨c.t.toArray⟩, .int .i64 c.X, .int .i64 c.Y, .int .i64 c.W, .int .i64 c.n] := by rw [hw5, ho]; exact Blk.new _ _ _
      have hb5 : Bl wr w5 := by rw [hw5]; exact (Bl.refl _).alloc _
      rw [← hw5, ← ho]
      have HLt := Lib.hid (show ∀ g, v.ownBlock = some g → g < o from fun g hg => by rw [ho]; exact (HRow.out.1.lt g hg).2)
      have HBO := Lib.hid bO
      have HB5 := Lib.hid (Bl.trans hbr hb5)
      have HR5 := Lib.hid (HRow.out.bl hb5)
      have Hidx := Lib.hid (idxRow_any 89 #[.pointer (some ⟨o, 0, none⟩)] (sameKey c) (enters Tryz.func89 (by kernel_rfl) rfl) w5 (fun W x hb => voteOf1_any o c x W (bO.bl hb)) w.heap.size v out HR5.out (by have := HO.out.2; omega))
      clear hw5 ho k0 k1 k2 k3 k4 k5 bO hb5 HRow hbr
      go_wp2_with fail
      refine Hidx.out.mono ?_
      rintro e w6 ⟨rfl, hb6⟩
      clear Hidx
      have HB6 := Lib.hid (Bl.trans HB5.out hb6)
      have HR6 := Lib.hid (HR5.out.bl hb6)
      have bO6 := HBO.out.bl hb6
      have kO := bO6.all6'
      have HBO6 := Lib.hid bO6
      clear hb6 HR5 HB5 bO6 HBO
      cases hf : out.findIdx? (sameKey c) with
      | none =>
        have HA := Lib.hid (addC_none hf)
        clear hf
        have HB1 := Lib.hid (show w.heap.size ≤ w6.heap.size from HB6.out.le)
        have HL := Lib.hid (show out.length ≤ 10000 by have := HO.out.2; omega)
        go_wp2_with (at_builtin; refine wpList_append_bl (w1 := w) rfl (.tmp 20) (.tmp 22) 35 rfl 39 (.agg #[.int .i64 0, .string ⟨#[]⟩, .int .i64 0, .int .i64 0, .int .i64 0, .int .i64 0]) 6 56 Tryz.underlying35 info_code rfl (by omega) w.heap.size v out.length (cdCells out) rfl (HB6.out.alloc _) (Nat.le_refl _) ?hBr (HR6.out.1.alloc _) (some ⟨w6.heap.size, 0, none⟩) 1 1 c.cells rfl ((Blk.new _ _ _).reads 1 6 rfl) ?h1 ?c1 ?c2 ?_)
        case hBr => have := HB1.out; simp; omega
        case h1 => simp [Cd.cells, Value.oneCell']
        case c1 => have := HL.out; unfold maxLen; omega
        case c2 => have := HL.out; omega
        intro v' w8 hown8 hb8 hg8
        have HR8 := Lib.hid (show RowC w8 w.heap.size v' (groupC (cs.take (i + 1))) by
          rw [HG.out, HA.out]
          refine ⟨?_, fun e => by simp at e⟩
          rw [cdCells_append, List.length_append]
          simpa [cdCells] using hown8)
        have HB8 := Lib.hid hb8
        clear hown8 hb8 hg8
        go_wp2_with fail
        exact ⟨⟨i + 1, v', hlt, by go_num, rfl, HB8.out, HR8.out⟩, by simp [RowKit.intOf] <;> omega⟩
      | some k =>
        have hkl := find_lt hf
        obtain ⟨e, he⟩ : ∃ e, out[k]? = some e := ⟨_, List.getElem?_eq_getElem hkl⟩
        obtain ⟨g, cap, rfl, hBg⟩ := HR6.out.got (fun h => by rw [h] at he; simp at he)
        have HA := Lib.hid (addC_some hf he)
        have HE := Lib.hid (HO.out.1 e (List.mem_of_getElem? he))
        have HSet := Lib.hid he
        have hcell : ∀ j u, j < 6 → e.cells[j]? = some u → w6.cell? ⟨g, k * 6 + j, none⟩ = some u := fun j u hj hu => own_cell HR6.out.1 (by rw [cdCells_at he j hj]; exact hu)
        have m2 : w6.cell? ⟨g, k * 6 + 2, none⟩ = some (.int .i64 e.X) := hcell 2 _ (by omega) rfl
        have m3 : w6.cell? ⟨g, k * 6 + 3, none⟩ = some (.int .i64 e.Y) := hcell 3 _ (by omega) rfl
        have m4 : w6.cell? ⟨g, k * 6 + 4, none⟩ = some (.int .i64 e.W) := hcell 4 _ (by omega) rfl
        have m5 : w6.cell? ⟨g, k * 6 + 5, none⟩ = some (.int .i64 e.n) := hcell 5 _ (by omega) rfl
        have mf := (own_blk HR6.out.1).2
        have hkI : (k : Int) < (out.length : Int) := by omega
        have hk0 : ¬ ((k : Int) < 0) := by omega
        have hne : g ≠ o := Nat.ne_of_lt (HLt.out g rfl)
        obtain ⟨-, hX0, hX1, hY0, hY1, hW0, hW1, hn0, hn1, -⟩ := HE.out
        obtain ⟨-, cX0, cX1, cY0, cY1, cW0, cW1, cn0, cn1, -⟩ := HC1.out
        have hi4 : (i : Int) ≤ 10000 := by omega
        clear hf hcell he
        obtain ⟨mx, hmx⟩ : ∃ z, max (e.X + e.W) (c.X + c.W) = z := ⟨_, rfl⟩
        obtain ⟨mn, hmn⟩ : ∃ z, min e.X c.X = z := ⟨_, rfl⟩
        obtain ⟨my, hmy⟩ : ∃ z, min e.Y c.Y = z := ⟨_, rfl⟩
        have hm0 : 0 ≤ mx := by omega
        have hm1 : mx ≤ 8000 := by omega
        have hm2 : 0 ≤ mn := by omega
        have hm3 : mn ≤ 4000 := by omega
        have hset := HR6.out.set HSet.out mn my (mx - mn) (e.n + c.n)
        have HS := Lib.hid (show RowC ((((w6.setCell ⟨g, k * 6 + 2, none⟩ (.int .i64 mn)).setCell ⟨g, k * 6 + 3, none⟩ (.int .i64 my)).setCell ⟨g, k * 6 + 5, none⟩ (.int .i64 (e.n + c.n))).setCell ⟨g, k * 6 + 4, none⟩ (.int .i64 (mx - mn))) w.heap.size (.slice (some ⟨g, 0, none⟩) out.length cap) (groupC (cs.take (i + 1))) by
          rw [HG.out, HA.out]
          unfold mergeC
          rw [hmx, hmn, hmy]
          rw [List.length_set] at hset
          exact hset)
        have HBl := Lib.hid (show Bl w ((((w6.setCell ⟨g, k * 6 + 2, none⟩ (.int .i64 mn)).setCell ⟨g, k * 6 + 3, none⟩ (.int .i64 my)).setCell ⟨g, k * 6 + 5, none⟩ (.int .i64 (e.n + c.n))).setCell ⟨g, k * 6 + 4, none⟩ (.int .i64 (mx - mn))) from (((HB6.out.setCell hBg _).setCell hBg _).setCell hBg _).setCell hBg _)
        have HN2 := Lib.hid (show (((w6.setCell ⟨g, k * 6 + 2, none⟩ (.int .i64 mn)).setCell ⟨g, k * 6 + 3, none⟩ (.int .i64 my)).setCell ⟨g, k * 6 + 5, none⟩ (.int .i64 (e.n + c.n))).cell? ⟨g, k * 6 + 2, none⟩ = some (.int .i64 mn) by
          rw [World.cell?_setCell_other _ _ _ _ (by simp), World.cell?_setCell_other _ _ _ _ (by simp)]
          exact World.cell?_setCell_same' _ _ _ (by rw [m2]; rfl))
        have HN4 := Lib.hid (show (((w6.setCell ⟨g, k * 6 + 2, none⟩ (.int .i64 mn)).setCell ⟨g, k * 6 + 3, none⟩ (.int .i64 my)).setCell ⟨g, k * 6 + 5, none⟩ (.int .i64 (e.n + c.n))).cell? ⟨g, k * 6 + 4, none⟩ = some (.int .i64 e.W) by
          rw [World.cell?_setCell_other _ _ _ _ (by simp), World.cell?_setCell_other _ _ _ _ (by simp), World.cell?_setCell_other _ _ _ _ (by simp)]
          exact m4)
        have HNf := Lib.hid (show ∀ j, (((w6.setCell ⟨g, k * 6 + 2, none⟩ (.int .i64 mn)).setCell ⟨g, k * 6 + 3, none⟩ (.int .i64 my)).setCell ⟨g, k * 6 + 5, none⟩ (.int .i64 (e.n + c.n))).frozen? ⟨g, j, none⟩ = false from fun j => by
          rw [World.frozen?_setCell, World.frozen?_setCell, World.frozen?_setCell]
          exact mf j)
        clear hset
        go_upto_region 9 with fail
        go_cut [8] from 27 to 41 (fun s8 wc => s8 = .int .i64 mx ∧ wc = w6.drew)
        case first =>
          refine wp_region_flow [(true, 0), (true, 1), (true, 2), (true, 3), (true, 4), (true, 5), (true, 6), (true, 7), (true, 8), (true, 9), (true, 10), (true, 11), (true, 12), (true, 13), (true, 14), (true, 15)] (fun _ => false) (by kernel_rfl) (by kernel_rfl) (by kernel_rfl) (by kernel_rfl) ?_
          iterate 1
            apply Flow.mv _ rfl
            · intro K' hK'
              simp only [Act.put, Act.eval, List.setIfInBounds_toArray, List.set_cons_zero, List.set_cons_succ, arr_getD, List.getD_cons_zero, List.getD_cons_succ]
              exact hK'
          iterate 1
            apply Flow.calm2 _ _ rfl rfl
            · intro w' hb' K' hK'
              obtain ⟨hc', hf'⟩ := hb'.rule
              go_simp
              try go_ints
              exact hK'
            · intro K' hK'
              simp only [Act.put, List.setIfInBounds_toArray, List.set_cons_zero, List.set_cons_succ]
              exact hK'
          iterate 1
            apply Flow.calm2 _ _ rfl rfl
            · intro w' hb' K' hK'
              obtain ⟨hc', hf'⟩ := hb'.rule
              go_simp
              try go_ints
              exact hK'
            · intro K' hK'
              simp only [Act.put, List.setIfInBounds_toArray, List.set_cons_zero, List.set_cons_succ]
              exact hK'
          iterate 1
            apply Flow.calm2 _ _ rfl rfl
            · intro w' hb' K' hK'
              obtain ⟨hc', hf'⟩ := hb'.rule
              go_simp
              try go_ints
              exact hK'
            · intro K' hK'
              simp only [Act.put, List.setIfInBounds_toArray, List.set_cons_zero, List.set_cons_succ]
              exact hK'
          iterate 1
            apply Flow.mv _ rfl
            · intro K' hK'
              simp only [Act.put, Act.eval, List.setIfInBounds_toArray, List.set_cons_zero, List.set_cons_succ, arr_getD, List.getD_cons_zero, List.getD_cons_succ]
              exact hK'
          iterate 1
            apply Flow.calm2 _ _ rfl rfl
            · intro w' hb' K' hK'
              obtain ⟨hc', hf'⟩ := hb'.rule
              go_simp
              try go_ints
              exact hK'
            · intro K' hK'
              simp only [Act.put, List.setIfInBounds_toArray, List.set_cons_zero, List.set_cons_succ]
              exact hK'
          iterate 1
            apply Flow.calm2 _ _ rfl rfl
            · intro w' hb' K' hK'
              obtain ⟨hc', hf'⟩ := hb'.rule
              go_simp
              try go_ints
              exact hK'
            · intro K' hK'
              simp only [Act.put, List.setIfInBounds_toArray, List.set_cons_zero, List.set_cons_succ]
              exact hK'
          iterate 1
            apply Flow.calm2 _ _ rfl rfl
            · intro w' hb' K' hK'
              obtain ⟨hc', hf'⟩ := hb'.rule
              go_simp
              try go_ints
              exact hK'
            · intro K' hK'
              simp only [Act.put, List.setIfInBounds_toArray, List.set_cons_zero, List.set_cons_succ]
              exact hK'
          iterate 1
            apply Flow.calm2 _ _ rfl rfl
            · intro w' hb' K' hK'
              obtain ⟨hc', hf'⟩ := hb'.rule
              go_simp
              try go_ints
              exact hK'
            · intro K' hK'
              simp only [Act.put, List.setIfInBounds_toArray, List.set_cons_zero, List.set_cons_succ]
              exact hK'
          iterate 1
            apply Flow.calm2 _ _ rfl rfl
            · intro w' hb' K' hK'
              obtain ⟨hc', hf'⟩ := hb'.rule
              go_simp
              try go_ints
              exact hK'
            · intro K' hK'
              simp only [Act.put, List.setIfInBounds_toArray, List.set_cons_zero, List.set_cons_succ]
              exact hK'
          iterate 1
            apply Flow.calm2 _ _ rfl rfl
            · intro w' hb' K' hK'
              obtain ⟨hc', hf'⟩ := hb'.rule
              go_simp
              try go_ints
              exact hK'
            · intro K' hK'
              simp only [Act.put, List.setIfInBounds_toArray, List.set_cons_zero, List.set_cons_succ]
              exact hK'
          iterate 1
            apply Flow.calm2 _ _ rfl rfl
            · intro w' hb' K' hK'
              obtain ⟨hc', hf'⟩ := hb'.rule
              go_simp
              try go_ints
              exact hK'
            · intro K' hK'
              simp only [Act.put, List.setIfInBounds_toArray, List.set_cons_zero, List.set_cons_succ]
              exact hK'
          iterate 1
            apply Flow.calm2 _ _ rfl rfl
            · intro w' hb' K' hK'
              obtain ⟨hc', hf'⟩ := hb'.rule
              go_simp
              try go_ints
              exact hK'
            · intro K' hK'
              simp only [Act.put, List.setIfInBounds_toArray, List.set_cons_zero, List.set_cons_succ]
              exact hK'
          iterate 1
            apply Flow.calm2 _ _ rfl rfl
            · intro w' hb' K' hK'
              obtain ⟨hc', hf'⟩ := hb'.rule
              go_simp
              try go_ints
              exact hK'
            · intro K' hK'
              simp only [Act.put, List.setIfInBounds_toArray, List.set_cons_zero, List.set_cons_succ]
              exact hK'
          iterate 1
            apply Flow.calm2 _ _ rfl rfl
            · intro w' hb' K' hK'
              obtain ⟨hc', hf'⟩ := hb'.rule
              go_simp
              try go_ints
              exact hK'
            · intro K' hK'
              simp only [Act.put, List.setIfInBounds_toArray, List.set_cons_zero, List.set_cons_succ]
              exact hK'
          iterate 1
            apply Flow.asg _ rfl
            · intro K' hK'
              simp only [Act.put, Act.eval, List.setIfInBounds_toArray, List.set_cons_zero, List.set_cons_succ, arr_getD, List.getD_cons_zero, List.getD_cons_succ]
              exact hK'
          refine Flow.done ?_
          go_wp2_with fail
          go_meet
          case rel => exact ⟨rfl, rfl⟩
        case rest =>
        obtain ⟨rfl, rfl⟩ := hcut
        go_upto_region 10 with fail
        go_cut [] from 42 to 71 (fun wc => wc = ((((w6.setCell ⟨g, k * 6 + 2, none⟩ (.int .i64 mn)).setCell ⟨g, k * 6 + 3, none⟩ (.int .i64 my)).setCell ⟨g, k * 6 + 5, none⟩ (.int .i64 (e.n + c.n))).drew).drew)
        case first =>
          go_big_region
          go_wp2_with fail
          go_meet
          case rel => rfl
        case rest =>
        subst hcut
        generalize ((w6.setCell ⟨g, k * 6 + 2, none⟩ (.int .i64 mn)).setCell ⟨g, k * 6 + 3, none⟩ (.int .i64 my)).setCell ⟨g, k * 6 + 5, none⟩ (.int .i64 (e.n + c.n)) = w9 at HS HBl HN2 HN4 HNf ⊢
        have n2 := HN2.out
        have n4 := HN4.out
        have nf := HNf.out
        clear m2 m3 m4 m5 mf kO hmx hmn hmy
        go_wp2_with fail
        exact ⟨⟨i + 1, _, hlt, by go_num, rfl, HBl.out.drew.drew, HS.out.bl (Bl.refl _).drew.drew⟩, by simp [RowKit.intOf] <;> omega⟩
    · obtain rfl : i = cs.length := by omega
      have hrow := HRow.out
      have hgo := HOK.out cs.length (Nat.le_refl _)
      rw [List.take_length] at hrow hgo
      have HIn := Lib.hid (show ∀ e ∈ groupC cs, CdIn e from fun e he => (hgo.1 e he).in_)
      have HL := Lib.hid hgo.2
      clear hgo HRow
      by_cases h0 : groupC cs = []
      · obtain rfl := hrow.2 h0
        have HN := Lib.hid (sortNone_any (.func (.func 90) #[] #[]) 0 wr)
        have HH0 := Lib.hid h0
        clear hrow h0
        go_wp2_with fail
        refine HN.out.mono ?_
        rintro e w' ⟨rfl, rfl⟩
        go_wp2_with fail
        go_ret
        refine ⟨none, 0, HIn.out, by rw [HH0.out]; rfl, ?_, hbr⟩
        have e1 : ∀ (l : List Cd) (h : ∀ e ∈ l, CdIn e), l = [] → cdCells (sortedCd l h) = [] := fun l h e => by
          have hl : (sortedCd l h).length = 0 := by rw [sortedCd_len, e]; rfl
          rw [List.eq_nil_of_length_eq_zero hl]
          rfl
        rw [e1 _ _ HH0.out, HH0.out]
        exact Reads.none_
      · obtain ⟨g, cap, rfl, hBg⟩ := hrow.got h0
        have HS := Lib.hid (sort_any 90 cfRS rfl (enters Tryz.func90 (by kernel_rfl) rfl) voteOf2_any w.heap.size g cap _ (groupC cs) HIn.out wr hrow.1 (by have := HL.out; omega))
        clear hrow h0
        go_wp2_with fail
        refine HS.out.mono ?_
        rintro e w1 ⟨rfl, hr1, hb1⟩
        have hb2 := hb1 w hbr hBg
        go_wp2_with fail
        go_ret
        exact ⟨_, _, HIn.out, rfl, hr1, hb2⟩

end Go.Proofs.YtkipcobpnecmhaaGreatDoor


/-! The key of bar.Vote's map: the model's comparison, and rows of codes beside a map. -/
namespace Go.Proofs.YtkipcobpnecmhaaGreatDoor
open Go.RowKit Go.Shelf

def encKey (x : Int × List UInt8) : Value := .agg #[.int .i64 x.1, .string ⟨x.2.toArray⟩]
theorem encKey_inj (a b : Int × List UInt8) (h : encKey a = encKey b) : a = b := by
  obtain ⟨a1, a2⟩ := a
  obtain ⟨b1, b2⟩ := b
  unfold encKey at h
  simp at h
  obtain ⟨h1, h2⟩ := h
  rw [h1, h2]
theorem key_equal (a b : Int × List UInt8) (w : World) : (Op.equal 106 (encKey a) (encKey b)).run Tryz.prog w = .ok (decide (a = b)) w := by
  have hS : Tryz.prog.underlying 106 = some (.struct (Tryz.prog.fieldsOf 106)) := by kernel_rfl
  have hp : Tryz.prog.stoodInHeld 106 = false := by kernel_rfl
  obtain ⟨a1, a2⟩ := a
  obtain ⟨b1, b2⟩ := b
  have u3 := Tryz.underlying3
  have u9 := Tryz.underlying9
  unfold encKey Op.equal Op.maxDepth
  rw [show (10000 : Nat) = 9999 + 1 from rfl, run_equalIn_agg w 9999 106 _ _ hS hp]
  simp only [Program.fieldsOf, Tryz.underlying106]
  go_simp
  by_cases h1 : a1 = b1 <;> by_cases h2 : a2 = b2 <;> simp [h1, h2]
theorem key_asking (w : World) (k : Int × List UInt8) : ∀ (l : List MapEntry) (i : Nat), (∀ x ∈ l, ∃ a, x.key = encKey a) →
    (∃ j e, (Instr.findAsking 106 (encKey k) l i).run Tryz.prog w = .ok (some (i + j, e.val)) w ∧ l[j]? = some e ∧ e.key = encKey k) ∨ ((Instr.findAsking 106 (encKey k) l i).run Tryz.prog w = .ok none w ∧ ∀ x ∈ l, x.key ≠ encKey k)
  | [], i, _ => .inr ⟨rfl, fun x hx => by cases hx⟩
  | e :: l, i, h => by
    obtain ⟨a, ha⟩ := h e (.head _)
    have he := key_equal k a w
    by_cases hk : k = a
    · rw [decide_eq_true hk] at he
      refine .inl ⟨0, e, ?_, rfl, by rw [ha, hk]⟩
      simp [Instr.findAsking, ha, he, Result.andThen]
    · rw [decide_eq_false hk] at he
      have hne : e.key ≠ encKey k := fun h => hk (encKey_inj _ _ (ha.symm.trans h)).symm
      rcases key_asking w k l (i + 1) (fun x hx => h x (.tail _ hx)) with ⟨j, e', h1, h2, h3⟩ | ⟨h1, h2⟩
      · refine .inl ⟨j + 1, e', ?_, by simpa using h2, h3⟩
        rw [show i + (j + 1) = i + 1 + j by omega, ← h1]
        simp [Instr.findAsking, ha, he, Result.andThen]
      · refine .inr ⟨?_, fun x hx => ?_⟩
        · rw [← h1]
          simp [Instr.findAsking, ha, he, Result.andThen]
        · cases hx with
          | head => exact hne
          | tail _ hx => exact h2 x hx
theorem key_kind : KeyKind Tryz.prog 106 encKey where
  find w k l hl := by
    cases l with
    | nil =>
      refine .inr ⟨?_, fun x hx => by cases hx⟩
      simp [Instr.findKey, run_underlying Tryz.underlying106, Instr.findNow, Result.andThen]
    | cons e l =>
      obtain ⟨a, ha⟩ := hl e (.head _)
      have hr : (Instr.findKey 106 (encKey k) (e :: l)).run Tryz.prog w = (Instr.findAsking 106 (encKey k) (e :: l)).run Tryz.prog w := by
        simp only [Instr.findKey, Sem.run_bind, run_underlying Tryz.underlying106, Result.andThen_ok, Instr.findNow, ha]
        rfl
      rw [hr]
      rcases key_asking w k (e :: l) 0 hl with ⟨j, e', h1, h2, h3⟩ | h
      · rw [Nat.zero_add] at h1
        exact .inl ⟨j, e', h1, h2, h3⟩
      · exact .inr h
  check w e k := by
    unfold encKey
    have c3 : ∀ n, (Instr.checkKey e (n + 1) 3 (.int .i64 k.1)).run Tryz.prog w = .ok () w := fun n => MapKept.run_checkKey (k := .int .i64 k.1) Tryz.underlying3 (show IntKind.i64 = IntKind.i64 from rfl) e n
    have c9 : ∀ n, (Instr.checkKey e (n + 1) 9 (.string ⟨k.2.toArray⟩)).run Tryz.prog w = .ok () w := fun n => MapKept.run_checkKey (k := .string ⟨k.2.toArray⟩) Tryz.underlying9 (show True from trivial) e n
    have p3 : (part 3 #[.int .i64 k.1, .string ⟨k.2.toArray⟩] 0).run Tryz.prog w = .ok (.int .i64 k.1) w := by go_simp
    have p9 : (part 9 #[.int .i64 k.1, .string ⟨k.2.toArray⟩] 1).run Tryz.prog w = .ok (.string ⟨k.2.toArray⟩) w := by go_simp
    rw [show (10000 : Nat) = 9998 + 1 + 1 from rfl]
    unfold Instr.checkKey
    simp only [Sem.run_bind, run_underlying Tryz.underlying106, Result.andThen_ok]
    rw [← Array.forIn_toList]
    simp only [List.forIn_cons, List.forIn_nil, Sem.run_bind]
    simp [p3, p9, c3, c9, Result.andThen]
  stays w k := by
    unfold encKey
    have hb : ((⟨k.2.toArray⟩ : ByteArray) == ⟨k.2.toArray⟩) = true := (MapKept.bytes_beq _ _).2 rfl
    simp [Instr.keyThatStays, Instr.sameBits, hb]
  inj := encKey_inj
theorem RowC.of_heap {w w' : World} {B : Nat} {v : Value} {out : List Cd} (h : RowC w B v out) (hb : ∀ g, v.ownBlock = some g → w'.heap[g]? = w.heap[g]?) : RowC w' B v out := by
  refine ⟨⟨h.1.1, ?_⟩, h.2⟩
  rcases h.1.2 with h2 | ⟨g, cap, cur, hv, hg, hh, r⟩
  · exact .inl h2
  · subst hv
    exact .inr ⟨g, cap, cur, rfl, hg, (hb g rfl).trans hh, r⟩

end Go.Proofs.YtkipcobpnecmhaaGreatDoor


/-! bar.Vote. -/
namespace Go.Proofs.YtkipcobpnecmhaaGreatDoor
open Go.RowKit Go.Shelf Go.Sort Go.Lib

set_option maxRecDepth 100000 in
set_option maxHeartbeats 2000000 in
/-- The checks. -/
theorem cdErr_bad {cs : List Cd} {i : Nat} {c : Cd} (h0 : firstNZ ((cs.take i).map cdErr) = 0) (hc : cs[i]? = some c) (h : cdErr c ≠ 0) : voteErr cs = cdErr c := by
  unfold voteErr
  rw [firstNZ_at cdErr cs i c h0 hc h, if_neg h]
def VoteRes (cs : List Cd) (w : World) (e : Ending) (w' : World) : Prop :=
  (voteErr cs ≠ 0 ∧ e = .returned (.tuple #[.slice none 0 0, .int .i64 (voteErr cs)]) ∧ Bl w w') ∨
  (voteErr cs = 0 ∧ ∃ R c h, e = .returned (.tuple #[.slice R (groupC cs).length c, .int .i64 0]) ∧ Reads w' 6 R (groupC cs).length (cdCells (sortedCd (groupC cs) h)) ∧ Bl w w')

set_option maxRecDepth 100000 in
set_option maxHeartbeats 4000000 in
theorem vote_any (A : Option Addr) (d : Nat) (cs : List Cd) (w : World) (hx : Reads w 6 A cs.length (cdCells cs)) (hl : cs.length ≤ 9223372036854775807) (ht : ∀ c ∈ cs, c.t.length ≤ 9223372036854775807) :
    Calls Tryz.prog 41 #[.slice A cs.length d] w (VoteRes cs w) := by
  have HX := Lib.hid hx
  have HT := Lib.hid ht
  clear hx ht
  have HSd := Lib.hid side_any
  go_enter Tryz.func41, Tryz.ntmps41
  go_wp2_with fail
  go_loopw [18] (fun s18 wr => ∃ i : Nat, i ≤ cs.length ∧ s18 = .int .i64 i ∧ Bl w wr ∧ Hid (firstNZ ((cs.take i).map cdErr) = 0)) (fun s18 _ => cs.length - (RowKit.intOf s18).toNat)
  case atStart => exact ⟨0, Nat.zero_le _, rfl, Bl.refl _, Lib.hid rfl⟩
  case round =>
    obtain ⟨i, hi, rfl, hbr, H0⟩ := hrel
    by_cases hlt : i < cs.length
    · obtain ⟨c, hc⟩ : ∃ c, cs[i]? = some c := ⟨_, List.getElem?_eq_getElem hlt⟩
      obtain ⟨ad, rfl, k0, k1, k2, k3, k4, k5⟩ := cd_at (HX.out.bl hbr) hc
      have HBad := Lib.hid (fun (h : cdErr c ≠ 0) => cdErr_bad H0.out hc h)
      have HGood := Lib.hid (fun (h : cdErr c = 0) => firstNZ_step cdErr cs i c H0.out hc h)
      have hin : (i : Int) < (cs.length : Int) := by omega
      clear hc
      go_upto_region 5 with fail
      obtain ⟨w5, hw5⟩ : ∃ x, x = wr.alloc (.cells #[.int .i64 c.k, .string ⟨c.t.toArray⟩, .int .i64 c.X, .int .i64 c.Y, .int .i64 c.W, .int .i64 c.n] 39) := ⟨_, rfl⟩
      obtain ⟨o, ho⟩ : ∃ x, x = wr.heap.size := ⟨_, rfl⟩
      have bO : Blk w5 o 39 #[.int .i64 c.k, .string ⟨c.t.toArray⟩, .int .i64 c.X, .int .i64 c.Y, .int .i64 c.W, .int .i64 c.n] := by rw [hw5, ho]; exact Blk.new _ _ _
      have hb5 : Bl w w5 := by rw [hw5]; exact hbr.alloc _
      rw [← hw5, ← ho]
      clear hw5 ho k0 k1 k2 k3 k4 k5
      have kO := bO.all6'
      obtain ⟨kb, hkb⟩ : ∃ b, b = decide (c.k ≠ 1 ∧ c.k ≠ 2) := ⟨_, rfl⟩
      have HKb := Lib.hid hkb
      clear hkb
      go_cut [22] from 22 to 30 (fun s22 wc => s22 = .bool kb ∧ wc = w5)
      case first =>
        by_cases hk1 : c.k = 1
        · have h1 : (c.k != 1) = false := by rw [bne_eq_false_iff_eq]; exact hk1
          have HV := Lib.hid (show kb = false by rw [HKb.out]; exact decide_eq_false (fun h => h.1 hk1))
          clear hk1
          go_wp2_with fail
          go_meet
          case rel => exact ⟨by rw [HV.out], rfl⟩
        · have h1 : (c.k != 1) = true := by rw [bne_iff_ne]; exact hk1
          by_cases hk2 : c.k = 2
          · have h2 : (c.k != 2) = false := by rw [bne_eq_false_iff_eq]; exact hk2
            have HV := Lib.hid (show kb = false by rw [HKb.out]; exact decide_eq_false (fun h => h.2 hk2))
            clear hk1 hk2
            go_wp2_with fail
            go_meet
            case rel => exact ⟨by rw [HV.out], rfl⟩
          · have h2 : (c.k != 2) = true := by rw [bne_iff_ne]; exact hk2
            have HV := Lib.hid (show kb = true by rw [HKb.out]; exact decide_eq_true ⟨hk1, hk2⟩)
            clear hk1 hk2
            go_wp2_with fail
            go_meet
            case rel => exact ⟨by rw [HV.out], rfl⟩
      case rest =>
        obtain ⟨rfl, rfl⟩ := hcut
        rename World => w5
        cases kb with
        | true =>
          have hk := of_decide_eq_true HKb.out.symm
          have HE := Lib.hid (show voteErr cs = 1 by rw [HBad.out (by unfold cdErr; rw [if_pos hk]; decide)]; unfold cdErr; rw [if_pos hk])
          clear hk
          go_wp2_with fail
          refine bodyPost_ret (v := .tuple #[.slice none 0 0, .int .i64 1]) (by simp [results, Tryz.results41, go_sem]) rfl (Or.inl ⟨by rw [HE.out]; decide, by rw [HE.out], hb5⟩)
        | false =>
          have hk := of_decide_eq_false HKb.out.symm
          have HErr := Lib.hid (show cdErr c = if cdRange c = false then 3 else 0 by unfold cdErr; rw [if_neg hk])
          clear hk
          have H3 := Lib.hid (fun (h : cdRange c = false) => (show voteErr cs = 3 by rw [HBad.out (by rw [HErr.out, h]; decide), HErr.out, h]; rfl))
          cases hX : inB c.X 0 4000
          · have HE := Lib.hid (H3.out (by unfold cdRange; rw [hX]; rfl))
            go_wp2_with fail
            refine (HSd.out _ _).mono ?_
            rintro e w' ⟨rfl, rfl⟩
            go_wp2_with fail
            refine bodyPost_ret (v := .tuple #[.slice none 0 0, .int .i64 3]) (by simp [results, Tryz.results41, go_sem]) rfl (Or.inl ⟨by rw [HE.out]; decide, by rw [HE.out], hb5⟩)
          · cases hY : inB c.Y 0 4000
            · have HE := Lib.hid (H3.out (by unfold cdRange; rw [hX, hY]; rfl))
              go_wp2_with fail
              refine (HSd.out _ _).mono ?_
              rintro e w' ⟨rfl, rfl⟩
              go_wp2_with fail
              refine (HSd.out _ _).mono ?_
              rintro e w' ⟨rfl, rfl⟩
              go_wp2_with fail
              refine bodyPost_ret (v := .tuple #[.slice none 0 0, .int .i64 3]) (by simp [results, Tryz.results41, go_sem]) rfl (Or.inl ⟨by rw [HE.out]; decide, by rw [HE.out], hb5⟩)
            · cases hW : inB c.W 0 4000
              · have HE := Lib.hid (H3.out (by unfold cdRange; rw [hX, hY, hW]; rfl))
                go_wp2_with fail
                refine (HSd.out _ _).mono ?_
                rintro e w' ⟨rfl, rfl⟩
                go_wp2_with fail
                refine (HSd.out _ _).mono ?_
                rintro e w' ⟨rfl, rfl⟩
                go_wp2_with fail
                refine (HSd.out _ _).mono ?_
                rintro e w' ⟨rfl, rfl⟩
                go_wp2_with fail
                refine bodyPost_ret (v := .tuple #[.slice none 0 0, .int .i64 3]) (by simp [results, Tryz.results41, go_sem]) rfl (Or.inl ⟨by rw [HE.out]; decide, by rw [HE.out], hb5⟩)
              · by_cases hn1 : c.n < 1
                · have HE := Lib.hid (H3.out (by unfold cdRange; rw [hX, hY, hW]; show inB c.n 1 1000000 = false; unfold inB; simp; omega))
                  go_wp2_with fail
                  refine (HSd.out _ _).mono ?_
                  rintro e w' ⟨rfl, rfl⟩
                  go_wp2_with fail
                  refine (HSd.out _ _).mono ?_
                  rintro e w' ⟨rfl, rfl⟩
                  go_wp2_with fail
                  refine (HSd.out _ _).mono ?_
                  rintro e w' ⟨rfl, rfl⟩
                  go_wp2_with fail
                  refine bodyPost_ret (v := .tuple #[.slice none 0 0, .int .i64 3]) (by simp [results, Tryz.results41, go_sem]) rfl (Or.inl ⟨by rw [HE.out]; decide, by rw [HE.out], hb5⟩)
                · by_cases hn2 : 1000000 < c.n
                  · have HE := Lib.hid (H3.out (by unfold cdRange; rw [hX, hY, hW]; show inB c.n 1 1000000 = false; unfold inB; simp; omega))
                    go_wp2_with fail
                    refine (HSd.out _ _).mono ?_
                    rintro e w' ⟨rfl, rfl⟩
                    go_wp2_with fail
                    refine (HSd.out _ _).mono ?_
                    rintro e w' ⟨rfl, rfl⟩
                    go_wp2_with fail
                    refine (HSd.out _ _).mono ?_
                    rintro e w' ⟨rfl, rfl⟩
                    go_wp2_with fail
                    refine bodyPost_ret (v := .tuple #[.slice none 0 0, .int .i64 3]) (by simp [results, Tryz.results41, go_sem]) rfl (Or.inl ⟨by rw [HE.out]; decide, by rw [HE.out], hb5⟩)
                  · have HG2 := Lib.hid (HGood.out (by rw [HErr.out]; unfold cdRange; rw [hX, hY, hW, show inB c.n 1 1000000 = true by unfold inB; simp; omega]; rfl))
                    clear H3 HBad HGood
                    go_wp2_with fail
                    refine (HSd.out _ _).mono ?_
                    rintro e w' ⟨rfl, rfl⟩
                    go_wp2_with fail
                    refine (HSd.out _ _).mono ?_
                    rintro e w' ⟨rfl, rfl⟩
                    go_wp2_with fail
                    refine (HSd.out _ _).mono ?_
                    rintro e w' ⟨rfl, rfl⟩
                    go_wp2_with fail
                    exact ⟨⟨i + 1, hlt, by go_num, hb5, HG2⟩, by simp [RowKit.intOf] <;> omega⟩
    · obtain rfl : i = cs.length := by omega
      have h0 := H0.out
      rw [List.take_length] at h0
      have HV := Lib.hid (show voteErr cs = whenI (decide (10000 < (cs.length : Int))) 4 by unfold voteErr; rw [if_pos h0])
      have hall : ∀ c ∈ cs, CdOk 1 c := fun c hc => cdOk_of_err (by
        have key : ∀ l : List Cd, firstNZ (l.map cdErr) = 0 → ∀ c ∈ l, cdErr c = 0 := fun l => by
          induction l with
          | nil => intro _ c hc; cases hc
          | cons x l ih =>
            intro h c hc
            have h' : (if cdErr x = 0 then firstNZ (l.map cdErr) else cdErr x) = 0 := h
            by_cases hx : cdErr x = 0
            · rw [if_pos hx] at h'
              rcases List.mem_cons.1 hc with rfl | hc
              · exact hx
              · exact ih h' c hc
            · rw [if_neg hx] at h'; exact absurd h' hx
        exact key cs h0 c hc) (HT.out c hc)
      have HOK := Lib.hid (groupC_ok hall)
      have HCk := Lib.hid hall
      clear h0 hall H0
      by_cases hlen : (10000 : Int) < (cs.length : Int)
      · have HE := Lib.hid (show voteErr cs = 4 by rw [HV.out, decide_eq_true hlen]; rfl)
        go_wp2_with fail
        refine bodyPost_ret (v := .tuple #[.slice none 0 0, .int .i64 4]) (by simp [results, Tryz.results41, go_sem]) rfl (Or.inl ⟨by rw [HE.out]; decide, by rw [HE.out], hbr⟩)
      · have HE := Lib.hid (show voteErr cs = 0 by rw [HV.out, decide_eq_false hlen]; rfl)
        have hl4 : cs.length ≤ 10000 := by omega
        clear HV
        have hmm := @run_makeMap Tryz.prog
        have hmt := Tryz.underlying104
        go_wp2_with fail
        clear hmm
        obtain ⟨b0, hb0⟩ : ∃ b, b = wr.heap.size := ⟨_, rfl⟩
        have hm0 : MapL encKey (fun z : Int => .int .i64 z) (wr.alloc (.map #[] 0)) b0 [] := by rw [hb0]; exact MapL.new _
        have hb1 : Bl w (wr.alloc (.map #[] 0)) := hbr.alloc _
        have HB0 := Lib.hid (show w.heap.size ≤ b0 by rw [hb0]; exact hbr.le)
        rw [← hb0]
        generalize wr.alloc (.map #[] 0) = w1 at hm0 hb1 ⊢
        clear hb0 hbr
        have HSt := Lib.hid (And.intro hb1 (And.intro (RowC.nil w1 (b0 + 1)) (And.intro hm0 PlacesOf.nil)))
        clear hm0 hb1
        go_wp2_with fail
        go_loopw [8, 68] (fun s8 s68 wr => ∃ (i : Nat) (v : Value) (m : List ((Int × List UInt8) × Int)), i ≤ cs.length ∧ s68 = .int .i64 i ∧ v = s8 ∧ Bl w wr ∧ RowC wr (b0 + 1) v (groupC (cs.take i)) ∧ MapL encKey (fun z : Int => .int .i64 z) wr b0 m ∧ PlacesOf m (groupC (cs.take i))) (fun _ s68 _ => cs.length - (RowKit.intOf s68).toNat)
        case atStart => exact ⟨0, _, [], Nat.zero_le _, rfl, rfl, HSt.out.1, HSt.out.2.1, HSt.out.2.2.1, HSt.out.2.2.2⟩
        case round =>
          rename World => wr
          obtain ⟨i, v, m, hi, rfl, rfl, hbr, hrow, hmap, hpl⟩ := hrel
          have HRow := Lib.hid hrow; have HMap := Lib.hid hmap; have HP := Lib.hid hpl
          clear hrow hmap hpl HSt
          by_cases hlt : i < cs.length
          · obtain ⟨c, hc⟩ : ∃ c, cs[i]? = some c := ⟨_, List.getElem?_eq_getElem hlt⟩
            obtain ⟨ad, rfl, k0, k1, k2, k3, k4, k5⟩ := cd_at (HX.out.bl hbr) hc
            have hin : (i : Int) < (cs.length : Int) := by omega
            have HG := Lib.hid (groupC_succ hc)
            have HC1 := Lib.hid (HCk.out c (List.mem_of_getElem? hc))
            obtain ⟨out, hout⟩ : ∃ out, out = groupC (cs.take i) := ⟨_, rfl⟩
            rw [← hout] at HRow HG HP
            have HO := Lib.hid (show (∀ e ∈ out, CdOk i e) ∧ out.length ≤ i from hout ▸ HOK.out i hi)
            clear hc hout
            go_upto_region 18 with fail
            obtain ⟨w6, hw6⟩ : ∃ x, x = (wr.alloc (.cells #[.int .i64 c.k, .string ⟨c.t.toArray⟩, .int .i64 c.X, .int .i64 c.Y, .int .i64 c.W, .int .i64 c.n] 39)).alloc (.cells #[.int .i64 c.k, .string ⟨c.t.toArray⟩] 106) := ⟨_, rfl⟩
            obtain ⟨o, ho⟩ : ∃ x, x = wr.heap.size := ⟨_, rfl⟩
            have bO6 : Blk w6 o 39 #[.int .i64 c.k, .string ⟨c.t.toArray⟩, .int .i64 c.X, .int .i64 c.Y, .int .i64 c.W, .int .i64 c.n] := by rw [hw6, ho]; exact (Blk.new _ _ _).alloc _
            have bK6 : Blk w6 (o + 1) 106 #[.int .i64 c.k, .string ⟨c.t.toArray⟩] := by
              have h := Blk.new (wr.alloc (.cells #[.int .i64 c.k, .string ⟨c.t.toArray⟩, .int .i64 c.X, .int .i64 c.Y, .int .i64 c.W, .int .i64 c.n] 39)) 106 #[.int .i64 c.k, .string ⟨c.t.toArray⟩]
              rw [World.size_alloc] at h
              rw [hw6, ho]
              exact h
            have hb6 : Bl wr w6 := by rw [hw6]; exact ((Bl.refl _).alloc _).alloc _
            rw [← hw6, ← ho]
            have HLt := Lib.hid (show ∀ g, v.ownBlock = some g → g < o from fun g hg => by rw [ho]; exact (HRow.out.1.lt g hg).2)
            have HBo := Lib.hid (show b0 < o by rw [ho]; exact HMap.out.lt)
            have HBO6 := Lib.hid bO6
            have HB6 := Lib.hid (Bl.trans hbr hb6)
            have HR6 := Lib.hid (HRow.out.bl hb6)
            have HM6 := Lib.hid (HMap.out.bl hb6)
            have kO := bO6.all6'
            have kK := bK6.all2
            clear hw6 ho k0 k1 k2 k3 k4 k5 bO6 bK6 hb6 HRow hbr HMap
            have hlk0 := HM6.out.lookup2 key_kind hmt (Tryz.zeroValue3 w6) (keyC c)
            have hpc := HP.out c
            cases hf : out.findIdx? (sameKey c) with
            | none =>
              rw [hf] at hpc
              rw [hpc] at hlk0
              have hlk : (Instr.lookup 104 (.map (some b0)) (.agg #[.int .i64 c.k, .string ⟨c.t.toArray⟩]) true).run Tryz.prog w6 = .ok (.tuple #[.int .i64 0, .bool false]) w6 := hlk0
              have HA := Lib.hid (addC_none hf)
              have HPl := Lib.hid (HP.out.append hf)
              obtain ⟨w7, hup0, hm7, hon7⟩ := HM6.out.update key_kind hmt (keyC c) (out.length : Int)
              have hup : (Instr.mapUpdate 104 (.map (some b0)) (.agg #[.int .i64 c.k, .string ⟨c.t.toArray⟩]) (.int .i64 (out.length : Int))).run Tryz.prog w6 = .ok () w7 := hup0
              have bO7 : Blk w7 o 39 #[.int .i64 c.k, .string ⟨c.t.toArray⟩, .int .i64 c.X, .int .i64 c.Y, .int .i64 c.W, .int .i64 c.n] := (hon7.1 o (by have := HBo.out; omega)).trans HBO6.out
              have kO7 := bO7.all6'
              have HR7 := Lib.hid (HR6.out.of_heap (w' := w7) fun g hg => hon7.1 g (by have h1 := (HR6.out.1.lt g hg).1; omega))
              have HM7 := Lib.hid hm7
              have HB7 := Lib.hid (hon7.2.2 w HB6.out HB0.out)
              have HB0' := Lib.hid (show b0 + 1 ≤ w7.heap.size by have := hm7.lt; omega)
              obtain ⟨A1, c1, hv1⟩ : ∃ A1 c1, v = .slice A1 out.length c1 := by
                obtain ⟨A1, c1, h1, _⟩ := own_reads HR7.out.1
                exact ⟨A1, c1, h1⟩
              subst hv1
              have HL := Lib.hid (show out.length ≤ 10000 by have := HO.out.2; omega)
              clear hf hpc hlk0 hup0 hm7 hon7 bO7
              go_wp2_with (at_builtin; refine wpList_append_bl (w1 := w) rfl (.tmp 89) (.tmp 91) 35 rfl 39 (.agg #[.int .i64 0, .string ⟨#[]⟩, .int .i64 0, .int .i64 0, .int .i64 0, .int .i64 0]) 6 56 Tryz.underlying35 info_code rfl (by omega) (b0 + 1) _ out.length (cdCells out) rfl (HB7.out.alloc _) ?hB ?hBr (HR7.out.1.alloc _) (some ⟨w7.heap.size, 0, none⟩) 1 1 c.cells rfl ((Blk.new _ _ _).reads 1 6 rfl) ?h1 ?c1 ?c2 ?_)
              case hB => have := HB0.out; omega
              case hBr => have := HB0'.out; simp; omega
              case h1 => simp [Cd.cells, Value.oneCell']
              case c1 => have := HL.out; unfold maxLen; omega
              case c2 => have := HL.out; omega
              intro v' w8 hown8 hb8 hg8
              have HM8 := Lib.hid (HM7.out.other (w' := w8) (by
                have h1 := hg8.block b0 (by have := HB0'.out; simp; omega) (fun e => by have := (HR7.out.1.lt b0 e.symm).1; omega)
                rw [h1]
                exact Below.heap_alloc w7 _ b0 (by have := HB0'.out; omega)))
              have HR8 := Lib.hid (show RowC w8 (b0 + 1) v' (groupC (cs.take (i + 1))) by
                rw [HG.out, HA.out]
                refine ⟨?_, fun e => by simp at e⟩
                rw [cdCells_append, List.length_append]
                simpa [cdCells] using hown8)
              have HP8 := Lib.hid (show PlacesOf ((keyC c, (out.length : Int)) :: m) (groupC (cs.take (i + 1))) by
                rw [HG.out, HA.out]
                exact HPl.out)
              have HB8 := Lib.hid hb8
              clear hown8 hb8 hg8
              go_wp2_with fail
              exact ⟨⟨i + 1, v', _, hlt, by go_num, rfl, HB8.out, HR8.out, HM8.out, HP8.out⟩, by simp [RowKit.intOf] <;> omega⟩
            | some k =>
              rw [hf] at hpc
              rw [hpc] at hlk0
              have hlk : (Instr.lookup 104 (.map (some b0)) (.agg #[.int .i64 c.k, .string ⟨c.t.toArray⟩]) true).run Tryz.prog w6 = .ok (.tuple #[.int .i64 (k : Int), .bool true]) w6 := hlk0
              clear hlk0 hpc
              have hkl := find_lt hf
              obtain ⟨e, he⟩ : ∃ e, out[k]? = some e := ⟨_, List.getElem?_eq_getElem hkl⟩
              obtain ⟨g, cap, rfl, hBg⟩ := HR6.out.got (fun h => by rw [h] at he; simp at he)
              have hBg' : w.heap.size ≤ g := by have := HB0.out; omega
              have HPl := Lib.hid (HP.out.set (c := c) he)
              rw [← addC_some hf he, ← HG.out] at HPl
              have HA := Lib.hid (addC_some hf he)
              have HE := Lib.hid (HO.out.1 e (List.mem_of_getElem? he))
              have HSet := Lib.hid he
              have hcell : ∀ j u, j < 6 → e.cells[j]? = some u → w6.cell? ⟨g, k * 6 + j, none⟩ = some u := fun j u hj hu => own_cell HR6.out.1 (by rw [cdCells_at he j hj]; exact hu)
              have m2 : w6.cell? ⟨g, k * 6 + 2, none⟩ = some (.int .i64 e.X) := hcell 2 _ (by omega) rfl
              have m3 : w6.cell? ⟨g, k * 6 + 3, none⟩ = some (.int .i64 e.Y) := hcell 3 _ (by omega) rfl
              have m4 : w6.cell? ⟨g, k * 6 + 4, none⟩ = some (.int .i64 e.W) := hcell 4 _ (by omega) rfl
              have m5 : w6.cell? ⟨g, k * 6 + 5, none⟩ = some (.int .i64 e.n) := hcell 5 _ (by omega) rfl
              have mf := (own_blk HR6.out.1).2
              have hkI : (k : Int) < (out.length : Int) := by omega
              have hk0 : ¬ ((k : Int) < 0) := by omega
              have hne : g ≠ o := Nat.ne_of_lt (HLt.out g rfl)
              obtain ⟨-, hX0, hX1, hY0, hY1, hW0, hW1, hn0, hn1, -⟩ := HE.out
              obtain ⟨-, cX0, cX1, cY0, cY1, cW0, cW1, cn0, cn1, -⟩ := HC1.out
              have hi4 : (i : Int) ≤ 10000 := by omega
              clear hf hcell he
              obtain ⟨mx, hmx⟩ : ∃ z, max (e.X + e.W) (c.X + c.W) = z := ⟨_, rfl⟩
              obtain ⟨mn, hmn⟩ : ∃ z, min e.X c.X = z := ⟨_, rfl⟩
              obtain ⟨my, hmy⟩ : ∃ z, min e.Y c.Y = z := ⟨_, rfl⟩
              have hm0 : 0 ≤ mx := by omega
              have hm1 : mx ≤ 8000 := by omega
              have hm2 : 0 ≤ mn := by omega
              have hm3 : mn ≤ 4000 := by omega
              have hset := HR6.out.set HSet.out mn my (mx - mn) (e.n + c.n)
              have HS := Lib.hid (show RowC ((((w6.setCell ⟨g, k * 6 + 2, none⟩ (.int .i64 mn)).setCell ⟨g, k * 6 + 3, none⟩ (.int .i64 my)).setCell ⟨g, k * 6 + 5, none⟩ (.int .i64 (e.n + c.n))).setCell ⟨g, k * 6 + 4, none⟩ (.int .i64 (mx - mn))) (b0 + 1) (.slice (some ⟨g, 0, none⟩) out.length cap) (groupC (cs.take (i + 1))) by
                rw [HG.out, HA.out]
                unfold mergeC
                rw [hmx, hmn, hmy]
                rw [List.length_set] at hset
                exact hset)
              have HBl := Lib.hid (show Bl w ((((w6.setCell ⟨g, k * 6 + 2, none⟩ (.int .i64 mn)).setCell ⟨g, k * 6 + 3, none⟩ (.int .i64 my)).setCell ⟨g, k * 6 + 5, none⟩ (.int .i64 (e.n + c.n))).setCell ⟨g, k * 6 + 4, none⟩ (.int .i64 (mx - mn))) from (((HB6.out.setCell hBg' _).setCell hBg' _).setCell hBg' _).setCell hBg' _)
              have HMp := Lib.hid (HM6.out.other (w' := (((w6.setCell ⟨g, k * 6 + 2, none⟩ (.int .i64 mn)).setCell ⟨g, k * 6 + 3, none⟩ (.int .i64 my)).setCell ⟨g, k * 6 + 5, none⟩ (.int .i64 (e.n + c.n))).setCell ⟨g, k * 6 + 4, none⟩ (.int .i64 (mx - mn))) (by
                have hgb : b0 ≠ g := by omega
                rw [Below.heap_setCell _ _ _ _ hgb, Below.heap_setCell _ _ _ _ hgb, Below.heap_setCell _ _ _ _ hgb, Below.heap_setCell _ _ _ _ hgb]))
              have HN2 := Lib.hid (show (((w6.setCell ⟨g, k * 6 + 2, none⟩ (.int .i64 mn)).setCell ⟨g, k * 6 + 3, none⟩ (.int .i64 my)).setCell ⟨g, k * 6 + 5, none⟩ (.int .i64 (e.n + c.n))).cell? ⟨g, k * 6 + 2, none⟩ = some (.int .i64 mn) by
                rw [World.cell?_setCell_other _ _ _ _ (by simp), World.cell?_setCell_other _ _ _ _ (by simp)]
                exact World.cell?_setCell_same' _ _ _ (by rw [m2]; rfl))
              have HN4 := Lib.hid (show (((w6.setCell ⟨g, k * 6 + 2, none⟩ (.int .i64 mn)).setCell ⟨g, k * 6 + 3, none⟩ (.int .i64 my)).setCell ⟨g, k * 6 + 5, none⟩ (.int .i64 (e.n + c.n))).cell? ⟨g, k * 6 + 4, none⟩ = some (.int .i64 e.W) by
                rw [World.cell?_setCell_other _ _ _ _ (by simp), World.cell?_setCell_other _ _ _ _ (by simp), World.cell?_setCell_other _ _ _ _ (by simp)]
                exact m4)
              have HNf := Lib.hid (show ∀ j, (((w6.setCell ⟨g, k * 6 + 2, none⟩ (.int .i64 mn)).setCell ⟨g, k * 6 + 3, none⟩ (.int .i64 my)).setCell ⟨g, k * 6 + 5, none⟩ (.int .i64 (e.n + c.n))).frozen? ⟨g, j, none⟩ = false from fun j => by
                rw [World.frozen?_setCell, World.frozen?_setCell, World.frozen?_setCell]
                exact mf j)
              clear hset
              go_upto_region 23 with fail
              go_cut [15] from 96 to 110 (fun s15 wc => s15 = .int .i64 mx ∧ wc = w6.drew)
              case first =>
                refine wp_region_flow [(true, 0), (true, 1), (true, 2), (true, 3), (true, 4), (true, 5), (true, 6), (true, 7), (true, 8), (true, 9), (true, 10), (true, 11), (true, 12), (true, 13), (true, 14), (true, 15)] (fun _ => false) (by kernel_rfl) (by kernel_rfl) (by kernel_rfl) (by kernel_rfl) ?_
                iterate 1
                  apply Flow.mv _ rfl
                  · intro K' hK'
                    simp only [Act.put, Act.eval, List.setIfInBounds_toArray, List.set_cons_zero, List.set_cons_succ, arr_getD, List.getD_cons_zero, List.getD_cons_succ]
                    exact hK'
                iterate 1
                  apply Flow.calm2 _ _ rfl rfl
                  · intro w' hb' K' hK'
                    obtain ⟨hc', hf'⟩ := hb'.rule
                    go_simp
                    try go_ints
                    exact hK'
                  · intro K' hK'
                    simp only [Act.put, List.setIfInBounds_toArray, List.set_cons_zero, List.set_cons_succ]
                    exact hK'
                iterate 1
                  apply Flow.calm2 _ _ rfl rfl
                  · intro w' hb' K' hK'
                    obtain ⟨hc', hf'⟩ := hb'.rule
                    go_simp
                    try go_ints
                    exact hK'
                  · intro K' hK'
                    simp only [Act.put, List.setIfInBounds_toArray, List.set_cons_zero, List.set_cons_succ]
                    exact hK'
                iterate 1
                  apply Flow.calm2 _ _ rfl rfl
                  · intro w' hb' K' hK'
                    obtain ⟨hc', hf'⟩ := hb'.rule
                    go_simp
                    try go_ints
                    exact hK'
                  · intro K' hK'
                    simp only [Act.put, List.setIfInBounds_toArray, List.set_cons_zero, List.set_cons_succ]
                    exact hK'
                iterate 1
                  apply Flow.mv _ rfl
                  · intro K' hK'
                    simp only [Act.put, Act.eval, List.setIfInBounds_toArray, List.set_cons_zero, List.set_cons_succ, arr_getD, List.getD_cons_zero, List.getD_cons_succ]
                    exact hK'
                iterate 1
                  apply Flow.calm2 _ _ rfl rfl
                  · intro w' hb' K' hK'
                    obtain ⟨hc', hf'⟩ := hb'.rule
                    go_simp
                    try go_ints
                    exact hK'
                  · intro K' hK'
                    simp only [Act.put, List.setIfInBounds_toArray, List.set_cons_zero, List.set_cons_succ]
                    exact hK'
                iterate 1
                  apply Flow.calm2 _ _ rfl rfl
                  · intro w' hb' K' hK'
                    obtain ⟨hc', hf'⟩ := hb'.rule
                    go_simp
                    try go_ints
                    exact hK'
                  · intro K' hK'
                    simp only [Act.put, List.setIfInBounds_toArray, List.set_cons_zero, List.set_cons_succ]
                    exact hK'
                iterate 1
                  apply Flow.calm2 _ _ rfl rfl
                  · intro w' hb' K' hK'
                    obtain ⟨hc', hf'⟩ := hb'.rule
                    go_simp
                    try go_ints
                    exact hK'
                  · intro K' hK'
                    simp only [Act.put, List.setIfInBounds_toArray, List.set_cons_zero, List.set_cons_succ]
                    exact hK'
                iterate 1
                  apply Flow.calm2 _ _ rfl rfl
                  · intro w' hb' K' hK'
                    obtain ⟨hc', hf'⟩ := hb'.rule
                    go_simp
                    try go_ints
                    exact hK'
                  · intro K' hK'
                    simp only [Act.put, List.setIfInBounds_toArray, List.set_cons_zero, List.set_cons_succ]
                    exact hK'
                iterate 1
                  apply Flow.calm2 _ _ rfl rfl
                  · intro w' hb' K' hK'
                    obtain ⟨hc', hf'⟩ := hb'.rule
                    go_simp
                    try go_ints
                    exact hK'
                  · intro K' hK'
                    simp only [Act.put, List.setIfInBounds_toArray, List.set_cons_zero, List.set_cons_succ]
                    exact hK'
                iterate 1
                  apply Flow.calm2 _ _ rfl rfl
                  · intro w' hb' K' hK'
                    obtain ⟨hc', hf'⟩ := hb'.rule
                    go_simp
                    try go_ints
                    exact hK'
                  · intro K' hK'
                    simp only [Act.put, List.setIfInBounds_toArray, List.set_cons_zero, List.set_cons_succ]
                    exact hK'
                iterate 1
                  apply Flow.calm2 _ _ rfl rfl
                  · intro w' hb' K' hK'
                    obtain ⟨hc', hf'⟩ := hb'.rule
                    go_simp
                    try go_ints
                    exact hK'
                  · intro K' hK'
                    simp only [Act.put, List.setIfInBounds_toArray, List.set_cons_zero, List.set_cons_succ]
                    exact hK'
                iterate 1
                  apply Flow.calm2 _ _ rfl rfl
                  · intro w' hb' K' hK'
                    obtain ⟨hc', hf'⟩ := hb'.rule
                    go_simp
                    try go_ints
                    exact hK'
                  · intro K' hK'
                    simp only [Act.put, List.setIfInBounds_toArray, List.set_cons_zero, List.set_cons_succ]
                    exact hK'
                iterate 1
                  apply Flow.calm2 _ _ rfl rfl
                  · intro w' hb' K' hK'
                    obtain ⟨hc', hf'⟩ := hb'.rule
                    go_simp
                    try go_ints
                    exact hK'
                  · intro K' hK'
                    simp only [Act.put, List.setIfInBounds_toArray, List.set_cons_zero, List.set_cons_succ]
                    exact hK'
                iterate 1
                  apply Flow.calm2 _ _ rfl rfl
                  · intro w' hb' K' hK'
                    obtain ⟨hc', hf'⟩ := hb'.rule
                    go_simp
                    try go_ints
                    exact hK'
                  · intro K' hK'
                    simp only [Act.put, List.setIfInBounds_toArray, List.set_cons_zero, List.set_cons_succ]
                    exact hK'
                iterate 1
                  apply Flow.asg _ rfl
                  · intro K' hK'
                    simp only [Act.put, Act.eval, List.setIfInBounds_toArray, List.set_cons_zero, List.set_cons_succ, arr_getD, List.getD_cons_zero, List.getD_cons_succ]
                    exact hK'
                refine Flow.done ?_
                go_wp2_with fail
                go_meet
                case rel => exact ⟨rfl, rfl⟩
              case rest =>
              obtain ⟨rfl, rfl⟩ := hcut
              go_upto_region 24 with fail
              go_cut [] from 111 to 140 (fun wc => wc = ((((w6.setCell ⟨g, k * 6 + 2, none⟩ (.int .i64 mn)).setCell ⟨g, k * 6 + 3, none⟩ (.int .i64 my)).setCell ⟨g, k * 6 + 5, none⟩ (.int .i64 (e.n + c.n))).drew).drew)
              case first =>
                go_big_region
                go_wp2_with fail
                go_meet
                case rel => rfl
              case rest =>
              subst hcut
              generalize ((w6.setCell ⟨g, k * 6 + 2, none⟩ (.int .i64 mn)).setCell ⟨g, k * 6 + 3, none⟩ (.int .i64 my)).setCell ⟨g, k * 6 + 5, none⟩ (.int .i64 (e.n + c.n)) = w9 at HS HBl HMp HN2 HN4 HNf ⊢
              have n2 := HN2.out
              have n4 := HN4.out
              have nf := HNf.out
              clear m2 m3 m4 m5 mf kO hmx hmn hmy
              go_wp2_with fail
              exact ⟨⟨i + 1, _, _, hlt, by go_num, rfl, HBl.out.drew.drew, HS.out.bl (Bl.refl _).drew.drew, HMp.out.drew.drew, HPl.out⟩, by simp [RowKit.intOf] <;> omega⟩
          · obtain rfl : i = cs.length := by omega
            have hrow := HRow.out
            have hgo := HOK.out cs.length (Nat.le_refl _)
            rw [List.take_length] at hrow hgo
            have HIn := Lib.hid (show ∀ e ∈ groupC cs, CdIn e from fun e he => (hgo.1 e he).in_)
            have HL := Lib.hid hgo.2
            clear hgo HRow
            by_cases h0 : groupC cs = []
            · obtain rfl := hrow.2 h0
              have HN := Lib.hid (sortNone_any (.func (.func 75) #[] #[]) 0 wr)
              have HH0 := Lib.hid h0
              clear hrow h0
              go_wp2_with fail
              refine HN.out.mono ?_
              rintro e w' ⟨rfl, rfl⟩
              go_wp2_with fail
              refine bodyPost_ret (v := .tuple #[.slice none 0 0, .int .i64 0]) (by simp [results, Tryz.results41, go_sem]) rfl (Or.inr ⟨HE.out, none, 0, HIn.out, by rw [HH0.out]; rfl, ?_, hbr⟩)
              have e1 : ∀ (l : List Cd) (h : ∀ e ∈ l, CdIn e), l = [] → cdCells (sortedCd l h) = [] := fun l h e => by
                have hl : (sortedCd l h).length = 0 := by rw [sortedCd_len, e]; rfl
                rw [List.eq_nil_of_length_eq_zero hl]
                rfl
              rw [e1 _ _ HH0.out, HH0.out]
              exact Reads.none_
            · obtain ⟨g, cap, rfl, hBg⟩ := hrow.got h0
              have HS := Lib.hid (sort_any 75 cfPS lt_sameS (enters Tryz.func75 (by kernel_rfl) rfl) order_any (b0 + 1) g cap _ (groupC cs) HIn.out wr hrow.1 (by have := HL.out; omega))
              have hBg2 : w.heap.size ≤ g := by have := HB0.out; omega
              clear hrow h0
              go_wp2_with fail
              refine HS.out.mono ?_
              rintro e w1 ⟨rfl, hr1, hb1⟩
              have hb2 := hb1 w hbr hBg2
              go_wp2_with fail
              refine bodyPost_ret (v := .tuple #[.slice (some ⟨g, 0, none⟩) (groupC cs).length cap, .int .i64 0]) (by simp [results, Tryz.results41, go_sem]) rfl (Or.inr ⟨HE.out, _, _, HIn.out, rfl, hr1, hb2⟩)

end Go.Proofs.YtkipcobpnecmhaaGreatDoor
