/- slices.SortFunc and slices.IndexFunc at codes. -/
import Derived.Test.YtjelhdpcaileiaaDoorU10
import Derived.Test.YtjelhdpcaileiaaDoorU14
import Derived.Shelf.SlSortCmp.NoneTotal
import Derived.Shelf.SlicesQ.IndexFunc
import Derived.Ground.SlgfProg

namespace Go.Proofs
open Go.Shelf
def Tryd.laysIdxCd_ren : Go.Shelf.Ren := ⟨fun | 6 => 141 | n => n, fun | 22 => 100 | 23 => 106 | 25 => 175 | 3 => 3 | 0 => 0 | 4 => 4 | n => n, fun | n => n⟩
theorem Tryd.laysIdxCd : Go.Proofs.SlLaysH0.n6 Tryd.prog Tryd.laysIdxCd_ren := {
  mixed := by kernel_rfl
  f6 := ⟨Tryd.f141.name, by decide, Tryd.func141.trans (congrArg some (by kernel_rfl))⟩
  t0 := Tryd.underlying0
  a0 := Tryd.isAgg0
  z0 := Tryd.sizeOf0
  v0 := Tryd.zeroValue0
  t3 := Tryd.underlying3
  a3 := Tryd.isAgg3
  z3 := Tryd.sizeOf3
  v3 := Tryd.zeroValue3
  t4 := Tryd.underlying4
  a4 := Tryd.isAgg4
  z4 := Tryd.sizeOf4
  v4 := Tryd.zeroValue4
  t22 := Tryd.underlying100
  a22 := Tryd.isAgg100
  z22 := Tryd.sizeOf100
  v22 := Tryd.zeroValue100
  t25 := Tryd.underlying175
  a25 := Tryd.isAgg175
  z25 := Tryd.sizeOf175
  v25 := Tryd.zeroValue175 }

end Go.Proofs
namespace Go.Proofs.YtjelhdpcaileiaaDoor
open Go.RowKit Go.Shelf Go.Sort Go.Lib

def toS (out : List Cd) (h : ∀ e ∈ out, CdIn e) : List CdS := out.pmap Subtype.mk h
theorem toS_len (out : List Cd) (h : ∀ e ∈ out, CdIn e) : (toS out h).length = out.length := List.length_pmap ..
theorem toS_at {out : List Cd} (h : ∀ e ∈ out, CdIn e) {i : Nat} {e : Cd} (hi : out[i]? = some e) : ∃ p, (toS out h)[i]? = some ⟨e, p⟩ := by
  obtain ⟨hl, he⟩ := List.getElem?_eq_some_iff.1 hi
  refine ⟨h e (List.mem_of_getElem? hi), ?_⟩
  rw [List.getElem?_eq_getElem (by rw [toS_len]; exact hl)]
  congr 1
  apply Subtype.ext
  unfold toS
  rw [List.getElem_pmap]
  exact he
def sortedCd (out : List Cd) (h : ∀ e ∈ out, CdIn e) : List Cd := (pdq (ltOf cfRS) (toS out h).toArray 0 (toS out h).toArray.size (Lib.bitLen (toS out h).toArray.size) true true).toList.map (·.1)
theorem holdsK_cd {w : World} {B blk cap : Nat} {T : TypeId} {out : List Cd} (h : ∀ e ∈ out, CdIn e) (hown : w.ownsRow B T 6 (.slice (some ⟨blk, 0, none⟩) out.length cap) out.length (cdCells out)) : HoldsK encS 6 w blk 0 (toS out h).toArray := by
  intro j hj
  rw [size_flatK, List.size_toArray, toS_len] at hj
  rw [get_flatK _ _ _ _ (by rw [List.size_toArray, toS_len]; exact hj), Nat.zero_add]
  obtain ⟨e, he⟩ : ∃ e, out[j / 6]? = some e := ⟨_, List.getElem?_eq_getElem (by omega)⟩
  obtain ⟨p, hp⟩ := toS_at h he
  have h1 : (toS out h).toArray[j / 6]! = ⟨e, p⟩ := by
    rw [List.getElem!_toArray, List.getElem!_eq_getElem?_getD, hp]
    rfl
  rw [h1]
  have hc := cdCells_at he (j % 6) (by omega)
  rw [show j / 6 * 6 + j % 6 = j by omega] at hc
  have hl : j % 6 < e.cells.length := by show j % 6 < 6; omega
  rw [List.getElem?_eq_getElem hl] at hc
  refine ⟨?_, (own_blk hown).2 j⟩
  rw [own_cell hown hc]
  show some (e.cells[j % 6]) = some (id (e.cells[j % 6]!))
  rw [List.getElem!_eq_getElem?_getD, List.getElem?_eq_getElem hl]
  rfl
theorem reads_holdsK {w : World} {blk : Nat} {d : Array CdS} (h : HoldsK encS 6 w blk 0 d) : Reads w 6 (some ⟨blk, 0, none⟩) d.size (cdCells (d.toList.map (·.1))) := by
  refine ⟨by rw [cdCells_len]; simp, fun _ => ⟨_, rfl, fun j u hu => ?_⟩⟩
  have hj : j < d.size * 6 := by
    have := (List.getElem?_eq_some_iff.1 hu).1
    rw [cdCells_len] at this
    simpa using this
  have hi : j / 6 < d.size := by omega
  have he : (d.toList.map (·.1))[j / 6]? = some (d[j / 6]!).1 := by
    rw [List.getElem?_map, Array.getElem?_toList, Array.getElem?_eq_getElem hi, getElem!_pos d _ hi]
    rfl
  have hc := cdCells_at he (j % 6) (by omega)
  rw [show j / 6 * 6 + j % 6 = j by omega, hu] at hc
  have := HoldsK.cells h (fun _ => rfl) hi (j % 6) u hc.symm
  rw [Addr.add_lit] at this
  rw [Addr.add_lit, Nat.zero_add]
  rw [Nat.zero_add, show j / 6 * 6 + j % 6 = j by omega] at this
  exact this
theorem bl_sortWorld {w0 w : World} {blk n : Nat} {d : Array CdS} {os : Array Obj} (h : Bl w0 w) (hb : w0.heap.size ≤ blk) : Bl w0 (sortWorldK encS 6 w blk 0 n d os) := by
  have h1 : Bl w0 (putRowK encS 6 (Sort.ahead w n) blk 0 d) := Lib.below_putRow (q := n) h hb
  refine ⟨h1.os, h1.tape, h1.output, ?_, fun k hk => ?_⟩
  · have := Below.size h1
    show _ ≤ ((putRowK encS 6 (Sort.ahead w n) blk 0 d).heap ++ os).size
    simp
    omega
  · have h2 := Below.block h1 k hk
    have h3 := Below.size h1
    show ((putRowK encS 6 (Sort.ahead w n) blk 0 d).heap ++ os)[k]? = _
    rw [Array.getElem?_append_left (by omega)]
    exact h2
theorem sort_any (g : Nat) (cf : CdS → CdS → Int) (hlt : ltOf cf = ltOf cfRS) (eg : ∀ args w, (callFunc g args).run Tryd.prog w = .ok (.enter g args) w)
    (hc : ∀ (x y : CdS) (w : World), Calls Tryd.prog g #[.agg (encS x).toArray, .agg (encS y).toArray] w fun e w' => e = .returned (.int .i64 (cf x y)) ∧ ∃ q os', w' = grow (w.drewN q) os')
    (B blk cap : Nat) (T : TypeId) (out : List Cd) (h : ∀ e ∈ out, CdIn e) (w : World) (hown : w.ownsRow B T 6 (.slice (some ⟨blk, 0, none⟩) out.length cap) out.length (cdCells out)) (hn : out.length ≤ 1000000) :
    Calls Tryd.prog 139 #[.slice (some ⟨blk, 0, none⟩) out.length cap, .func (.func g) #[] #[]] w fun e w' => e = .returned (.tuple #[]) ∧ Reads w' 6 (some ⟨blk, 0, none⟩) out.length (cdCells (sortedCd out h)) ∧ ∀ w0, Bl w0 w → w0.heap.size ≤ blk → Bl w0 w' := by
  have hs : (toS out h).toArray.size = out.length := by rw [List.size_toArray, toS_len]
  have hblk : blk < w.heap.size := own_lt hown
  have hH := holdsK_cd h hown
  have hO : SWO (ltOf cf) := by rw [hlt]; exact cfRS_swo
  have hcmp : CmpLays Tryd.prog g #[] encS 6 cf blk 0 (toS out h).toArray.size w := fun _ _ _ _ x y => hc x y _
  have hcon := AnyQ.slices_SortFunc_eq Tryd.laysSortCd 6 Tryd.isAgg106 Tryd.sizeOf106 encS (fun _ => rfl) (fun x v hv => by
    have hv : v ∈ ([.int .i64 x.1.k, .string ⟨x.1.t.toArray⟩, .int .i64 x.1.X, .int .i64 x.1.Y, .int .i64 x.1.W, .int .i64 x.1.n] : List Value) := hv
    simp only [List.mem_cons, List.not_mem_nil, or_false] at hv
    rcases hv with rfl | rfl | rfl | rfl | rfl | rfl <;> rfl) cf hO g #[] blk 0 cap (toS out h).toArray w eg hcmp hH hblk (by omega)
  rw [hlt, hs] at hcon
  refine Calls.mono (R := fun e w' => e = .returned (.tuple #[]) ∧ ∃ n os, w' = sortWorldK encS 6 w blk 0 n (pdq (ltOf cfRS) (toS out h).toArray 0 out.length (Lib.bitLen out.length) true true) os) hcon ?_
  rintro e w' ⟨rfl, n, os, rfl⟩
  have hps := (pdq_sorts (ltOf cfRS) cfRS_swo (toS out h).toArray 0 (toS out h).toArray.size (Lib.bitLen (toS out h).toArray.size) true true (Nat.zero_le _) (Nat.le_refl _) (Or.inl rfl)).1.1
  have hsw : SWK encS 6 w blk 0 (pdq (ltOf cfRS) (toS out h).toArray 0 out.length (Lib.bitLen out.length) true true) (sortWorldK encS 6 w blk 0 n (pdq (ltOf cfRS) (toS out h).toArray 0 out.length (Lib.bitLen out.length) true true) os) := ⟨n, os, rfl⟩
  have hsz : (pdq (ltOf cfRS) (toS out h).toArray 0 out.length (Lib.bitLen out.length) true true).size = (toS out h).toArray.size := by rw [hs] at hps; rw [hps, hs]
  have hR := reads_holdsK (hsw.holds hblk hH hsz)
  rw [hsz, hs] at hR
  refine ⟨rfl, ?_, fun w0 h0 hb => bl_sortWorld h0 hb⟩
  unfold sortedCd
  rw [hs]
  exact hR
theorem sortNone_any (fv : Value) (c : Nat) (w : World) : Calls Tryd.prog 139 #[.slice none 0 c, fv] w fun e w' => e = .returned (.tuple #[]) ∧ w' = w := by
  have h := AnyF.slices_SortFunc_none { Tryd.laysSortCd with } none c fv w
  exact h
/-! ### slices.IndexFunc -/
theorem idxFunc_any (g : Nat) (lb : Array Value) (p : Cd → Bool) (eg : ∀ args w, (callFunc g args).run Tryd.prog w = .ok (.enter g args) w) (w : World)
    (hp : ∀ (W : World) (x : Cd), Bl w W → Calls Tryd.prog g (#[.agg x.cells.toArray] ++ lb) W fun e w' => e = .returned (.bool (p x)) ∧ Bl W w')
    (B blk cap : Nat) (T : TypeId) (out : List Cd) (hown : w.ownsRow B T 6 (.slice (some ⟨blk, 0, none⟩) out.length cap) out.length (cdCells out)) (hn : out.length ≤ 1000000) :
    Calls Tryd.prog 141 #[.slice (some ⟨blk, 0, none⟩) out.length cap, .func (.func g) #[] lb] w fun e w' => e = .returned (.int .i64 (match out.findIdx? p with | some k => (k : Int) | none => -1)) ∧ Bl w w' := by
  have hcon := AnyQ.slices_IndexFunc Tryd.laysIdxCd 6 Tryd.isAgg106 Tryd.sizeOf106 Cd.cells (fun _ => rfl) p g lb eg blk 0 out.length cap out w (fun W x hb => (hp W x hb).mono fun _ _ ⟨he, hb'⟩ => ⟨he, Bl.trans hb hb'⟩) (Nat.le_refl _) (by omega) (own_lt hown) (fun j hj i v hv => by
    obtain ⟨e, he⟩ : ∃ e, out[j]? = some e := ⟨_, List.getElem?_eq_getElem hj⟩
    have h1 : out[j]! = e := by rw [List.getElem!_eq_getElem?_getD, he]; rfl
    rw [h1] at hv
    have hi : i < 6 := (List.getElem?_eq_some_iff.1 hv).1
    rw [Nat.zero_add]
    exact own_cell hown (by rw [cdCells_at he i hi]; exact hv))
  rw [List.take_length, idxBy_find] at hcon
  exact hcon

end Go.Proofs.YtjelhdpcaileiaaDoor
