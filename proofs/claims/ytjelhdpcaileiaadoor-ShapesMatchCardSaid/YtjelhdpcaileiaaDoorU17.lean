/- glyph.Apart. -/
import Derived.Test.YtjelhdpcaileiaaDoorU4
import Derived.Test.YtjelhdpcaileiaaDoorU15
import Derived.Test.YtjelhdpcaileiaaDoorU6
import Derived.Test.YtjelhdpcaileiaaDoorU2
import Derived.Test.YtjelhdpcaileiaaDoorU3
import Derived.Test.YtjelhdpcaileiaaDoorU16
import Derived.Test.YtjelhdpcaileiaaDoorU13

namespace Go.Proofs.YtjelhdpcaileiaaDoor
open Go.RowKit Go.Shelf Go.Sort Go.Lib

def mtCells (ss : List Mt) : List Value := ss.flatMap encM
theorem mtCells_len (ss : List Mt) : (mtCells ss).length = ss.length * 2 := by
  unfold mtCells
  induction ss with
  | nil => rfl
  | cons l ls ih =>
    rw [List.flatMap_cons, List.length_append, ih, List.length_cons]
    show 2 + ls.length * 2 = (ls.length + 1) * 2
    omega
theorem mtCells_at {ls : List Mt} {i : Nat} {l : Mt} (h : ls[i]? = some l) (j : Nat) (hj : j < 2) : (mtCells ls)[i * 2 + j]? = (encM l)[j]? := by
  induction ls generalizing i with
  | nil => simp at h
  | cons x ls ih =>
    unfold mtCells
    rw [List.flatMap_cons]
    rcases i with _ | i
    · simp only [List.getElem?_cons_zero, Option.some.injEq] at h
      subst h
      rw [List.getElem?_append_left (by show 0 * 2 + j < 2; omega)]
      simp
    · rw [List.getElem?_append_right (by show 2 ≤ (i + 1) * 2 + j; omega)]
      have e : (i + 1) * 2 + j - (encM x).length = i * 2 + j := by
        show (i + 1) * 2 + j - 2 = i * 2 + j
        omega
      rw [e]
      exact ih (by simpa using h)
theorem mt_at {w : World} {A : Option Addr} {ss : List Mt} {i : Nat} {c : Mt} (h : Reads w 2 A ss.length (mtCells ss)) (hi : ss[i]? = some c) : ∃ ad, A = some ad ∧ w.cell? (ad.add (i * 2)) = some (.string ⟨c.t.toArray⟩) ∧ w.cell? ⟨(ad.add (i * 2)).block, (ad.add (i * 2)).off + 1, none⟩ = some (.int .i64 c.d) := by
  have hlt : i < ss.length := (List.getElem?_eq_some_iff.1 hi).1
  obtain ⟨ad, e, hc⟩ := h.2 (by omega)
  have key : ∀ j v, j < 2 → (encM c)[j]? = some v → w.cell? ((ad.add (i * 2)).add j) = some v := fun j v hj hv => by
    rw [add_of_add]
    exact hc _ _ (by rw [mtCells_at hi j hj]; exact hv)
  have k0 := key 0 _ (by omega) rfl
  have k1 := key 1 _ (by omega) rfl
  rw [Addr.add_zero'] at k0
  rw [Addr.add_succ'] at k1
  exact ⟨ad, e, k0, k1⟩
theorem mtCells_append (a b : List Mt) : mtCells (a ++ b) = mtCells a ++ mtCells b := by unfold mtCells; exact List.flatMap_append
theorem mtCells_succ (ls : List Mt) {i : Nat} {m : Mt} (h : ls[i]? = some m) : mtCells (ls.take (i + 1)) = mtCells (ls.take i) ++ encM m := by
  rw [List.take_add_one, h, mtCells_append]
  simp [mtCells]

theorem world2 (w : World) (a b : Obj) : (w.alloc a).alloc b = grow (w.drewN 0) #[a, b] := by
  rw [alloc_eq_grow, alloc_eq_grow, grow_grow]
  rfl
set_option maxRecDepth 100000 in
set_option maxHeartbeats 4000000 in
theorem matchCmp_any (x y : Mt) (w : World) :
    Calls Tryd.prog 123 #[.agg (encM x).toArray, .agg (encM y).toArray] w fun e w' => e = .returned (.int .i64 (cfM x y)) ∧ ∃ q os', w' = grow (w.drewN q) os' := by
  obtain ⟨t1, d1, l1, h1⟩ := x
  obtain ⟨t2, d2, l2, h2⟩ := y
  show Calls Tryd.prog 123 #[.agg #[.string ⟨t1.toArray⟩, .int .i64 d1], .agg #[.string ⟨t2.toArray⟩, .int .i64 d2]] w fun e w' => e = .returned (.int .i64 (d1 - d2)) ∧ ∃ q os', w' = grow (w.drewN q) os'
  have hw : wrap64 (d1 - d2) = d1 - d2 := by unfold wrap64; omega
  go_enter Tryd.func123, Tryd.ntmps123
  go_wp2_with fail
  go_ret
  exact ⟨rfl, _, _, world2 _ _ _⟩
set_option maxRecDepth 100000 in
set_option maxHeartbeats 4000000 in
theorem matchesCmp_any (x y : Mt) (w : World) :
    Calls Tryd.prog 124 #[.agg (encM x).toArray, .agg (encM y).toArray] w fun e w' => e = .returned (.int .i64 (cfM x y)) ∧ ∃ q os', w' = grow (w.drewN q) os' := by
  obtain ⟨t1, d1, l1, h1⟩ := x
  obtain ⟨t2, d2, l2, h2⟩ := y
  show Calls Tryd.prog 124 #[.agg #[.string ⟨t1.toArray⟩, .int .i64 d1], .agg #[.string ⟨t2.toArray⟩, .int .i64 d2]] w fun e w' => e = .returned (.int .i64 (d1 - d2)) ∧ ∃ q os', w' = grow (w.drewN q) os'
  have hw : wrap64 (d1 - d2) = d1 - d2 := by unfold wrap64; omega
  go_enter Tryd.func124, Tryd.ntmps124
  go_wp2_with fail
  go_ret
  exact ⟨rfl, _, _, world2 _ _ _⟩

theorem holdsK_mt {w : World} {B blk cap : Nat} {T : TypeId} {out : List Mt} (hown : w.ownsRow B T 2 (.slice (some ⟨blk, 0, none⟩) out.length cap) out.length (mtCells out)) : HoldsK encM 2 w blk 0 out.toArray := by
  intro j hj
  rw [size_flatK, List.size_toArray] at hj
  rw [get_flatK _ _ _ _ (by rw [List.size_toArray]; exact hj), Nat.zero_add]
  obtain ⟨e, he⟩ : ∃ e, out[j / 2]? = some e := ⟨_, List.getElem?_eq_getElem (by omega)⟩
  have h1 : out.toArray[j / 2]! = e := by
    rw [List.getElem!_toArray, List.getElem!_eq_getElem?_getD, he]
    rfl
  rw [h1]
  have hc := mtCells_at he (j % 2) (by omega)
  rw [show j / 2 * 2 + j % 2 = j by omega] at hc
  have hl : j % 2 < (encM e).length := by show j % 2 < 2; omega
  rw [List.getElem?_eq_getElem hl] at hc
  refine ⟨?_, (own_blk hown).2 j⟩
  rw [own_cell hown hc]
  show some ((encM e)[j % 2]) = some (id ((encM e)[j % 2]!))
  rw [List.getElem!_eq_getElem?_getD, List.getElem?_eq_getElem hl]
  rfl
theorem reads_holdsM {w : World} {blk : Nat} {d : Array Mt} (h : HoldsK encM 2 w blk 0 d) : Reads w 2 (some ⟨blk, 0, none⟩) d.size (mtCells d.toList) := by
  refine ⟨by rw [mtCells_len]; simp, fun _ => ⟨_, rfl, fun j u hu => ?_⟩⟩
  have hj : j < d.size * 2 := by
    have := (List.getElem?_eq_some_iff.1 hu).1
    rw [mtCells_len] at this
    simpa using this
  have hi : j / 2 < d.size := by omega
  have he : d.toList[j / 2]? = some d[j / 2]! := by
    rw [Array.getElem?_toList, Array.getElem?_eq_getElem hi, getElem!_pos d _ hi]
  have hc := mtCells_at he (j % 2) (by omega)
  rw [show j / 2 * 2 + j % 2 = j by omega, hu] at hc
  have := HoldsK.cells h (fun _ => rfl) hi (j % 2) u hc.symm
  rw [Addr.add_lit] at this
  rw [Addr.add_lit, Nat.zero_add]
  rw [Nat.zero_add, show j / 2 * 2 + j % 2 = j by omega] at this
  exact this
theorem bl_sortWorldM {w0 w : World} {blk n : Nat} {d : Array Mt} {os : Array Obj} (h : Bl w0 w) (hb : w0.heap.size ≤ blk) : Bl w0 (sortWorldK encM 2 w blk 0 n d os) := by
  have h1 : Bl w0 (putRowK encM 2 (Sort.ahead w n) blk 0 d) := Lib.below_putRow (q := n) h hb
  refine ⟨h1.os, h1.tape, h1.output, ?_, fun k hk => ?_⟩
  · have := Below.size h1
    show _ ≤ ((putRowK encM 2 (Sort.ahead w n) blk 0 d).heap ++ os).size
    simp
    omega
  · have h2 := Below.block h1 k hk
    have h3 := Below.size h1
    show ((putRowK encM 2 (Sort.ahead w n) blk 0 d).heap ++ os)[k]? = _
    rw [Array.getElem?_append_left (by omega)]
    exact h2
theorem stableP_size {d : Array Mt} : (stableP (ltOf cfM) d).size = d.size := by
  unfold stableP
  rw [stbF_size, blkF_size swoM _ _ _ (Nat.zero_le _)]
def stableL (l : List Mt) : List Mt := (stableP (ltOf cfM) l.toArray).toList
theorem stableL_len (l : List Mt) : (stableL l).length = l.length := by
  unfold stableL
  rw [Array.length_toList, stableP_size, List.size_toArray]
set_option maxRecDepth 100000 in
set_option maxHeartbeats 4000000 in
theorem sortStable_any (g : Nat) (eg : ∀ args w, (callFunc g args).run Tryd.prog w = .ok (.enter g args) w)
    (hc : ∀ (x y : Mt) (w : World), Calls Tryd.prog g #[.agg (encM x).toArray, .agg (encM y).toArray] w fun e w' => e = .returned (.int .i64 (cfM x y)) ∧ ∃ q os', w' = grow (w.drewN q) os')
    (B blk cap : Nat) (T : TypeId) (out : List Mt) (w : World) (hown : w.ownsRow B T 2 (.slice (some ⟨blk, 0, none⟩) out.length cap) out.length (mtCells out)) (hn : out.length < 1000000) :
    Calls Tryd.prog 122 #[.slice (some ⟨blk, 0, none⟩) out.length cap, .func (.func g) #[] #[]] w fun e w' => e = .returned (.tuple #[]) ∧ Reads w' 2 (some ⟨blk, 0, none⟩) out.length (mtCells (stableL out)) ∧ ∀ w0, Bl w0 w → w0.heap.size ≤ blk → Bl w0 w' := by
  have hblk : blk < w.heap.size := own_lt hown
  have hH := holdsK_mt hown
  have hcmp : CmpLays Tryd.prog g #[] encM 2 cfM blk 0 out.toArray.size w := fun _ _ _ _ x y => hc x y _
  have R : RowK encM 2 w blk 0 out.toArray := ⟨fun _ => rfl, fun x v hv => by
    have hv : v ∈ ([.string ⟨x.t.toArray⟩, .int .i64 x.d] : List Value) := hv
    simp only [List.mem_cons, List.not_mem_nil, or_false] at hv
    rcases hv with rfl | rfl <;> rfl, hH, hblk⟩
  have hst := stable_any 2 Tryd.sizeOf81 g #[] blk cap out.toArray w eg hcmp R (by rw [List.size_toArray]; omega)
  rw [List.size_toArray] at hst
  obtain ⟨D, hD⟩ : ∃ D, D = stableP (ltOf cfM) out.toArray := ⟨_, rfl⟩
  rw [← hD] at hst
  have hDs : D.size = out.toArray.size := by rw [hD]; exact stableP_size
  have hDl : stableL out = D.toList := by unfold stableL; rw [hD]
  rw [hDl]
  have Hst := Lib.hid hst; have HR := Lib.hid R; have HDs := Lib.hid hDs
  clear hst hown hH hcmp R hD hDs hDl hc
  go_enter Tryd.func122, Tryd.ntmps122
  go_wp2_with fail
  refine Hst.out.mono ?_
  rintro e w5 ⟨rfl, S⟩
  have HS := Lib.hid S
  clear S
  go_wp2_with fail
  go_end0
  have S := HS.out
  refine ⟨rfl, ?_, fun w0 h0 hb => ?_⟩
  · have hr := reads_holdsM (S.holds hblk HR.out.hH HDs.out)
    rw [HDs.out, List.size_toArray] at hr
    exact hr
  · obtain ⟨n, os, rfl⟩ := S
    exact bl_sortWorldM h0 hb

set_option maxRecDepth 100000 in
theorem neq_match (t : ByteArray) (a : Int) (w : World) : (binOp .neq 81 (.agg #[.string t, .int .i64 a]) (.agg #[.string t, .int .i64 a])).run Tryd.prog w = .ok (.bool false) w := by
  have u3 := Tryd.underlying3
  have a3 := Tryd.isAgg3
  have z3 := Tryd.sizeOf3
  have u9 := Tryd.underlying9
  have a9 := Tryd.isAgg9
  have z9 := Tryd.sizeOf9
  rw [run_neq_struct, show (10000 : Nat) = 9999 + 1 from rfl, run_equalIn_agg w 9999 _ _ _ (by kernel_rfl) (by kernel_rfl)]
  simp only [Program.fieldsOf, Tryd.underlying81]
  go_simp
set_option maxRecDepth 100000 in
theorem neq_box (a b c d : Int) (w : World) : (binOp .neq 88 (.agg #[.int .i64 a, .int .i64 b, .int .i64 c, .int .i64 d]) (.agg #[.int .i64 a, .int .i64 b, .int .i64 c, .int .i64 d])).run Tryd.prog w = .ok (.bool false) w := by
  have u3 := Tryd.underlying3
  have a3 := Tryd.isAgg3
  have z3 := Tryd.sizeOf3
  rw [run_neq_struct, show (10000 : Nat) = 9999 + 1 from rfl, run_equalIn_agg w 9999 _ _ _ (by kernel_rfl) (by kernel_rfl)]
  simp only [Program.fieldsOf, Tryd.underlying88]
  go_simp
set_option maxRecDepth 100000 in
set_option maxHeartbeats 1000000 in
theorem equalMatches_any (A B : Option Addr) (c d : Nat) (ss : List Mt) (w : World) (hx : Reads w 2 A ss.length (mtCells ss)) (hy : Reads w 2 B ss.length (mtCells ss)) (hl : ss.length ≤ 1099511627776) :
    Calls Tryd.prog 47 #[.slice A ss.length c, .slice B ss.length d] w fun e w' => e = .returned (.bool true) ∧ Bl w w' := by
  have Hx := Lib.hid hx; have Hy := Lib.hid hy
  clear hx hy
  go_enter Tryd.func47, Tryd.ntmps47
  go_wp2
  go_loopw [13] (fun v wr => ∃ k : Nat, k ≤ ss.length ∧ v = .int .i64 k ∧ Bl w wr) (fun v _ => ss.length - (RowKit.intOf v).toNat)
  case atStart => exact ⟨0, Nat.zero_le _, rfl, Bl.refl _⟩
  case round =>
    obtain ⟨k, hk, rfl, hbr⟩ := hrel
    by_cases hlt : k < ss.length
    · obtain ⟨s, hg⟩ : ∃ s, ss[k]? = some s := ⟨_, List.getElem?_eq_getElem hlt⟩
      obtain ⟨ad, rfl, c0, c1⟩ := mt_at (Hx.out.bl hbr) hg
      obtain ⟨bd, rfl, d0, d1⟩ := mt_at (Hy.out.bl hbr) hg
      have hne := fun w' => neq_match ⟨s.t.toArray⟩ s.d w'
      have hi : (k : Int) < (ss.length : Int) := by omega
      clear hg
      go_wp2
      refine wp_region_flow [(true, 0), (true, 1), (true, 2), (true, 3), (true, 4), (true, 5), (true, 6), (true, 7), (true, 8)] (fun _ => false) (by kernel_rfl) (by kernel_rfl) (by kernel_rfl) (by kernel_rfl) ?_
      iterate 2
        apply Flow.mv _ rfl
        · intro K' hK'
          simp only [Act.put, Act.eval, List.setIfInBounds_toArray, List.set_cons_zero, List.set_cons_succ, arr_getD, List.getD_cons_zero, List.getD_cons_succ]
          exact hK'
      iterate 1
        apply Flow.calm2 _ _ rfl rfl
        · intro w' hb' K' hK'
          obtain ⟨hc', hf'⟩ := hb'.rule
          go_simp
          try go_ints
          exact hK'
        · intro K' hK'
          simp only [Act.put, List.setIfInBounds_toArray, List.set_cons_zero, List.set_cons_succ]
          exact hK'
      iterate 1
        apply Flow.calm2 _ _ rfl rfl
        · intro w' hb' K' hK'
          obtain ⟨hc', hf'⟩ := hb'.rule
          go_simp
          try go_ints
          exact hK'
        · intro K' hK'
          simp only [Act.put, List.setIfInBounds_toArray, List.set_cons_zero, List.set_cons_succ]
          exact hK'
      iterate 2
        apply Flow.mv _ rfl
        · intro K' hK'
          simp only [Act.put, Act.eval, List.setIfInBounds_toArray, List.set_cons_zero, List.set_cons_succ, arr_getD, List.getD_cons_zero, List.getD_cons_succ]
          exact hK'
      iterate 1
        apply Flow.calm2 _ _ rfl rfl
        · intro w' hb' K' hK'
          obtain ⟨hc', hf'⟩ := hb'.rule
          go_simp
          try go_ints
          exact hK'
        · intro K' hK'
          simp only [Act.put, List.setIfInBounds_toArray, List.set_cons_zero, List.set_cons_succ]
          exact hK'
      iterate 1
        apply Flow.calm2 _ _ rfl rfl
        · intro w' hb' K' hK'
          obtain ⟨hc', hf'⟩ := hb'.rule
          go_simp
          try go_ints
          exact hK'
        · intro K' hK'
          simp only [Act.put, List.setIfInBounds_toArray, List.set_cons_zero, List.set_cons_succ]
          exact hK'
      iterate 1
        apply Flow.calm2 _ _ rfl rfl
        · intro w' hb' K' hK'
          obtain ⟨hc', hf'⟩ := hb'.rule
          go_simp
          try go_ints
          exact hK'
        · intro K' hK'
          simp only [Act.put, List.setIfInBounds_toArray, List.set_cons_zero, List.set_cons_succ]
          exact hK'
      refine Flow.done ?_
      go_wp2
      exact ⟨⟨k + 1, hlt, by go_num, hbr.drew⟩, by simp [RowKit.intOf] <;> omega⟩
    · go_wp2
      go_ret
      exact ⟨rfl, hbr⟩
theorem box_at4 {w : World} {A : Option Addr} {H : Nat} {ps : List Piece} {i : Nat} {p : Piece} (h : Reads w 4 A ps.length (boxCells H ps)) (hi : ps[i]? = some p) : ∃ ad, A = some ad ∧ w.cell? (ad.add (i * 4)) = some (.int .i64 p.1) ∧ w.cell? ⟨(ad.add (i * 4)).block, (ad.add (i * 4)).off + 1, none⟩ = some (.int .i64 0) ∧
    w.cell? ⟨(ad.add (i * 4)).block, (ad.add (i * 4)).off + 2, none⟩ = some (.int .i64 p.2) ∧ w.cell? ⟨(ad.add (i * 4)).block, (ad.add (i * 4)).off + 3, none⟩ = some (.int .i64 H) := by
  have hlt : i < ps.length := (List.getElem?_eq_some_iff.1 hi).1
  obtain ⟨ad, e, hc⟩ := h.2 (by omega)
  have key : ∀ j v, j < 4 → ([.int .i64 p.1, .int .i64 0, .int .i64 p.2, .int .i64 H] : List Value)[j]? = some v → w.cell? ((ad.add (i * 4)).add j) = some v := fun j v hj hv => by
    rw [add_of_add]
    exact hc _ _ (by rw [boxCells_at hi j hj]; exact hv)
  have k0 := key 0 _ (by omega) rfl
  have k1 := key 1 _ (by omega) rfl
  have k2 := key 2 _ (by omega) rfl
  have k3 := key 3 _ (by omega) rfl
  rw [Addr.add_zero'] at k0
  rw [Addr.add_succ'] at k1 k2 k3
  exact ⟨ad, e, k0, k1, k2, k3⟩
set_option maxRecDepth 100000 in
set_option maxHeartbeats 1000000 in
theorem equalBoxes_any (A B : Option Addr) (c d H : Nat) (ss : List Piece) (w : World) (hx : Reads w 4 A ss.length (boxCells H ss)) (hy : Reads w 4 B ss.length (boxCells H ss)) (hl : ss.length ≤ 1099511627776) :
    Calls Tryd.prog 50 #[.slice A ss.length c, .slice B ss.length d] w fun e w' => e = .returned (.bool true) ∧ Bl w w' := by
  have Hx := Lib.hid hx; have Hy := Lib.hid hy
  clear hx hy
  go_enter Tryd.func50, Tryd.ntmps50
  go_wp2
  go_loopw [13] (fun v wr => ∃ k : Nat, k ≤ ss.length ∧ v = .int .i64 k ∧ Bl w wr) (fun v _ => ss.length - (RowKit.intOf v).toNat)
  case atStart => exact ⟨0, Nat.zero_le _, rfl, Bl.refl _⟩
  case round =>
    obtain ⟨k, hk, rfl, hbr⟩ := hrel
    by_cases hlt : k < ss.length
    · obtain ⟨s, hg⟩ : ∃ s, ss[k]? = some s := ⟨_, List.getElem?_eq_getElem hlt⟩
      obtain ⟨ad, rfl, c0, c1, c2, c3⟩ := box_at4 (Hx.out.bl hbr) hg
      obtain ⟨bd, rfl, d0, d1, d2, d3⟩ := box_at4 (Hy.out.bl hbr) hg
      have hne := fun w' => neq_box s.1 0 s.2 H w'
      have hi : (k : Int) < (ss.length : Int) := by omega
      clear hg
      go_wp2
      refine wp_region_flow [(true, 0), (true, 1), (true, 2), (true, 3), (true, 4), (true, 5), (true, 6), (true, 7), (true, 8)] (fun _ => false) (by kernel_rfl) (by kernel_rfl) (by kernel_rfl) (by kernel_rfl) ?_
      iterate 2
        apply Flow.mv _ rfl
        · intro K' hK'
          simp only [Act.put, Act.eval, List.setIfInBounds_toArray, List.set_cons_zero, List.set_cons_succ, arr_getD, List.getD_cons_zero, List.getD_cons_succ]
          exact hK'
      iterate 1
        apply Flow.calm2 _ _ rfl rfl
        · intro w' hb' K' hK'
          obtain ⟨hc', hf'⟩ := hb'.rule
          go_simp
          try go_ints
          exact hK'
        · intro K' hK'
          simp only [Act.put, List.setIfInBounds_toArray, List.set_cons_zero, List.set_cons_succ]
          exact hK'
      iterate 1
        apply Flow.calm2 _ _ rfl rfl
        · intro w' hb' K' hK'
          obtain ⟨hc', hf'⟩ := hb'.rule
          go_simp
          try go_ints
          exact hK'
        · intro K' hK'
          simp only [Act.put, List.setIfInBounds_toArray, List.set_cons_zero, List.set_cons_succ]
          exact hK'
      iterate 2
        apply Flow.mv _ rfl
        · intro K' hK'
          simp only [Act.put, Act.eval, List.setIfInBounds_toArray, List.set_cons_zero, List.set_cons_succ, arr_getD, List.getD_cons_zero, List.getD_cons_succ]
          exact hK'
      iterate 1
        apply Flow.calm2 _ _ rfl rfl
        · intro w' hb' K' hK'
          obtain ⟨hc', hf'⟩ := hb'.rule
          go_simp
          try go_ints
          exact hK'
        · intro K' hK'
          simp only [Act.put, List.setIfInBounds_toArray, List.set_cons_zero, List.set_cons_succ]
          exact hK'
      iterate 1
        apply Flow.calm2 _ _ rfl rfl
        · intro w' hb' K' hK'
          obtain ⟨hc', hf'⟩ := hb'.rule
          go_simp
          try go_ints
          exact hK'
        · intro K' hK'
          simp only [Act.put, List.setIfInBounds_toArray, List.set_cons_zero, List.set_cons_succ]
          exact hK'
      iterate 1
        apply Flow.calm2 _ _ rfl rfl
        · intro w' hb' K' hK'
          obtain ⟨hc', hf'⟩ := hb'.rule
          go_simp
          try go_ints
          exact hK'
        · intro K' hK'
          simp only [Act.put, List.setIfInBounds_toArray, List.set_cons_zero, List.set_cons_succ]
          exact hK'
      refine Flow.done ?_
      go_wp2
      exact ⟨⟨k + 1, hlt, by go_num, hbr.drew⟩, by simp [RowKit.intOf] <;> omega⟩
    · go_wp2
      go_ret
      exact ⟨rfl, hbr⟩

end Go.Proofs.YtjelhdpcaileiaaDoor


/-! glyph.Distance of any pages, glyph.Match, bedref2.MatchesOf. -/
namespace Go.Proofs.YtjelhdpcaileiaaDoor
open Go.RowKit Go.Shelf Go.Sort Go.Lib

def reachB (r : Int) : Bool := decide (r < 0 ∨ 4 < r)
theorem reach_in {r : Int} : (!inB r 0 4) = reachB r := by
  unfold reachB
  by_cases h : 0 ≤ r ∧ r ≤ 4
  · rw [inB_true.2 h, decide_eq_false (by omega)]; rfl
  · rw [inB_false.2 (by omega), decide_eq_true (by omega)]; rfl
theorem badReachG_any (r : Int) (w : World) : Calls Tryd.prog 120 #[.int .i64 r] w fun e w' => e = .returned (.bool (reachB r)) ∧ w = w' := by
  unfold reachB
  by_cases h1 : r < 0
  · rw [decide_eq_true (by omega)]
    go_enter Tryd.func120, Tryd.ntmps120
    go_wp2_with fail
    go_ret
    exact ⟨by first | rfl | (simp; omega), rfl⟩
  · by_cases h2 : 4 < r
    · rw [decide_eq_true (by omega)]
      go_enter Tryd.func120, Tryd.ntmps120
      go_wp2_with fail
      go_ret
      exact ⟨by first | rfl | (simp; omega), rfl⟩
    · rw [decide_eq_false (by omega)]
      go_enter Tryd.func120, Tryd.ntmps120
      go_wp2_with fail
      go_ret
      exact ⟨by first | rfl | (simp; omega), rfl⟩
theorem reach_ok {r : Int} (h : reachB r = false) : ∃ n : Nat, r = (n : Int) ∧ n ≤ 4 := by
  unfold reachB at h
  have := of_decide_eq_false h
  exact ⟨r.toNat, by omega, by omega⟩

/-! ### glyph.Distance -/
def distErr (a b r : Int) : Int := firstNZ [a, b, whenI (reachB r) 3]
theorem distErr_a {a b r : Int} (h : a ≠ 0) : distErr a b r = a := by
  show (if a = 0 then _ else a) = a
  rw [if_neg h]
theorem distErr_b {b r : Int} (h : b ≠ 0) : distErr 0 b r = b := by
  show (if b = 0 then _ else b) = b
  rw [if_neg h]
theorem distErr_r {r : Int} : distErr 0 0 r = whenI (reachB r) 3 := by
  unfold distErr
  cases reachB r <;> rfl
def DistRes (W H : Int) (an : Nat) (cs : List Bool) (W' H' : Int) (bn : Nat) (bs : List Bool) (r : Int) (n err : Int) : Prop :=
  err = distErr (pageErr W H an) (pageErr W' H' bn) r ∧ (err ≠ 0 → n = 0) ∧ (err = 0 → n = farN (inkF cs W.toNat H.toNat) (inkF bs W'.toNat H'.toNat) W.toNat H.toNat W'.toNat H'.toNat r.toNat)
set_option maxRecDepth 100000 in
set_option maxHeartbeats 4000000 in
theorem distAny_any (W H W' H' r : Int) (A B : Option Addr) (an bn ac bc : Nat) (cs bs : List Bool) (w : World) (hA : Reads w 1 A an (cs.map .bool)) (hB : Reads w 1 B bn (bs.map .bool)) :
    Calls Tryd.prog 44 #[.agg #[.int .i64 W, .int .i64 H, .slice A an ac], .agg #[.int .i64 W', .int .i64 H', .slice B bn bc], .int .i64 r] w fun e w' => ∃ n err, e = .returned (.tuple #[.int .i64 n, .int .i64 err]) ∧ DistRes W H an cs W' H' bn bs r n err ∧ Bl w w' := by
  let w2 := ((w).alloc (.cells #[.int .i64 W, .int .i64 H, .slice A an ac] 27)).alloc (.cells #[.int .i64 W', .int .i64 H', .slice B bn bc] 27)
  have w2b : Bl w w2 := ((Bl.refl w).alloc _).alloc _
  have w21 : Blk w2 (w.heap.size) 27 #[.int .i64 W, .int .i64 H, .slice A an ac] := by
    have h0 := Blk.new (w) 27 #[.int .i64 W, .int .i64 H, .slice A an ac]
    exact (h0.alloc _)
  have w22 : Blk w2 (w.heap.size + 1) 27 #[.int .i64 W', .int .i64 H', .slice B bn bc] := by
    have h0 := Blk.new ((w).alloc (.cells #[.int .i64 W, .int .i64 H, .slice A an ac] 27)) 27 #[.int .i64 W', .int .i64 H', .slice B bn bc]
    simp only [World.size_alloc] at h0
    exact h0
  have HA := Lib.hid (hA.bl w2b); have HB := Lib.hid (hB.bl w2b)
  obtain ⟨pa, hpa⟩ : ∃ x, x = pageErr W H an := ⟨_, rfl⟩
  obtain ⟨pb, hpb⟩ : ∃ x, x = pageErr W' H' bn := ⟨_, rfl⟩
  have HPa := Lib.hid hpa; have HPb := Lib.hid hpb
  have Hca := Lib.hid (fun wx => checkBits_any W H A an ac wx)
  have Hcb := Lib.hid (fun wx => checkBits_any W' H' B bn bc wx)
  unfold DistRes
  rw [← hpa] at Hca ⊢
  rw [← hpb] at Hcb ⊢
  have k1 := w21.all3
  have k2 := w22.all3
  have i0 : ∀ w : World, (Instr.index 157 (.agg #[.int .i64 W, .int .i64 H, .slice A an ac, .int .i64 W', .int .i64 H', .slice B bn bc]) (.int .i64 0)).run Tryd.prog w = .ok (.agg #[.int .i64 W, .int .i64 H, .slice A an ac]) w := fun _ => by kernel_rfl
  have i1 : ∀ w : World, (Instr.index 157 (.agg #[.int .i64 W, .int .i64 H, .slice A an ac, .int .i64 W', .int .i64 H', .slice B bn bc]) (.int .i64 1)).run Tryd.prog w = .ok (.agg #[.int .i64 W', .int .i64 H', .slice B bn bc]) w := fun _ => by kernel_rfl
  clear hpa hpb hA hB
  go_enter Tryd.func44, Tryd.ntmps44
  go_wp2_with fail
  refine wp_loop_rounds 3 ?_
  rw [rounds_succ]
  go_wp2_with fail
  refine (Hca.out _).mono ?_
  rintro e w7 ⟨rfl, hb7⟩
  have hb27 : Bl w2 w7 := ((Bl.refl w2).alloc _).trans hb7
  clear k1 k2
  by_cases za : pa = 0
  case neg =>
    have hq : (pa == 0) = false := by simp [za]
    have HZ := Lib.hid za
    clear za
    go_wp2_with fail
    refine bodyPost_ret (v := .tuple #[.int .i64 0, .int .i64 pa]) (by simp [results, Tryd.results44, go_sem]) rfl ⟨0, pa, rfl, ⟨(distErr_a HZ.out).symm, fun _ => rfl, fun h => absurd h HZ.out⟩, w2b.trans hb27⟩
  case pos =>
    subst za
    go_wp2_with fail
    rw [rounds_succ]
    go_wp2_with fail
    refine (Hcb.out _).mono ?_
    rintro e w8 ⟨rfl, hb8⟩
    have hb28 : Bl w2 w8 := (hb27.alloc _).trans hb8
    by_cases zb : pb = 0
    case neg =>
      have hq : (pb == 0) = false := by simp [zb]
      have HZ := Lib.hid zb
      clear zb
      go_wp2_with fail
      refine bodyPost_ret (v := .tuple #[.int .i64 0, .int .i64 pb]) (by simp [results, Tryd.results44, go_sem]) rfl ⟨0, pb, rfl, ⟨(distErr_b HZ.out).symm, fun _ => rfl, fun h => absurd h HZ.out⟩, w2b.trans hb28⟩
    case pos =>
      subst zb
      have k1 := (w21.bl hb28).all3
      have k2 := (w22.bl hb28).all3
      obtain ⟨W, H, rfl, rfl, rfl, hW, hH, hWH⟩ := page_nat HPa.out.symm
      obtain ⟨W', H', rfl, rfl, rfl, hW', hH', hWH'⟩ := page_nat HPb.out.symm
      simp only at k1 k2 ⊢
      go_wp2_with fail
      rw [rounds_succ]
      go_wp2_with fail
      refine (badReachG_any _ _).mono ?_
      rintro e w9 ⟨rfl, rfl⟩
      obtain ⟨rb, hrb⟩ : ∃ x, x = reachB r := ⟨_, rfl⟩
      have hde : distErr 0 0 r = whenI rb 3 := by rw [hrb]; exact distErr_r
      rw [← hrb]
      have HDe := Lib.hid hde; have HRb := Lib.hid hrb
      clear hde hrb
      cases rb
      · obtain ⟨n, rfl, hn⟩ := reach_ok HRb.out.symm
        have hcall := distance_any W H W' H' n A B ac bc cs bs w8 (HA.out.bl hb28) (HB.out.bl hb28) hW hH hW' hH' hn
        obtain ⟨F, hF⟩ : ∃ F, F = farN (inkF cs W H) (inkF bs W' H') W H W' H' n := ⟨_, rfl⟩
        simp only
        simp only [← hF] at hcall ⊢
        have Hc := Lib.hid hcall
        have HF := Lib.hid hF
        clear hcall hF
        go_wp2_with fail
        refine (Hc.out).mono ?_
        rintro e w10 ⟨rfl, hb10⟩
        go_wp2_with fail
        exact bodyPost_ret (v := .tuple #[.int .i64 F, .int .i64 0]) (by simp [results, Tryd.results44, go_sem]) rfl ⟨F, 0, rfl, ⟨by rw [HDe.out]; rfl, fun h => absurd rfl h, fun _ => by simp only [Int.toNat_natCast]; exact HF.out⟩, w2b.trans (hb28.trans hb10)⟩
      · go_wp2_with fail
        exact bodyPost_ret (v := .tuple #[.int .i64 0, .int .i64 3]) (by simp [results, Tryd.results44, go_sem]) rfl ⟨0, 3, rfl, ⟨by rw [HDe.out]; rfl, fun _ => rfl, fun h => absurd h (by decide)⟩, w2b.trans hb28⟩

/-! ### rows of matches -/
def farR (cs : List Bool) (W H r : Nat) (l : Ltr) : Int := farN (inkF cs W H) (inkF l.bs l.W.toNat l.H.toNat) W H l.W.toNat l.H.toNat r
def mtOf (cs : List Bool) (W H r : Nat) (l : Ltr) : Mt := ⟨l.text, max (-4611686018427387904) (min (farR cs W H r l) 4611686018427387903), by omega, by omega⟩
theorem mtOf_d {cs : List Bool} {W H r : Nat} {l : Ltr} (hW : W ≤ 4000) (hH : H ≤ 4000) (h1 : l.W.toNat ≤ 4000) (h2 : l.H.toNat ≤ 4000) : (mtOf cs W H r l).d = farR cs W H r l := by
  have h := far_range (r := r) (cs := cs) (bs := l.bs) hW hH h1 h2
  show max (-4611686018427387904) (min (farR cs W H r l) 4611686018427387903) = farR cs W H r l
  unfold farR
  omega
def mtsOf (cs : List Bool) (W H r : Nat) (ls : List Ltr) : List Mt := ls.map (mtOf cs W H r)
theorem info_match : (Tryd.prog.info? 81).map (fun i => (i.zero, i.size, i.bytes)) = some (some (.agg #[.string ⟨#[]⟩, .int .i64 0]), 2, 24) := by kernel_rfl

def MatchRes (w : World) (fe : Int) (ls : List Ltr) (W H : Int) (an : Nat) (cs : List Bool) (r : Int) (R : Option Addr) (m : Nat) (err : Int) : Prop :=
  err = distErr fe (pageErr W H an) r ∧ (err ≠ 0 → R = none ∧ m = 0) ∧ (err = 0 → m = ls.length ∧ Reads w 2 R m (mtCells (stableL (mtsOf cs W.toNat H.toNat r.toNat ls))))
set_option maxRecDepth 100000 in
set_option maxHeartbeats 8000000 in
theorem match_any (nm : List UInt8) (ht gap sp : Int) (L : Option Addr) (c : Nat) (ls : List Ltr) (W H : Int) (A : Option Addr) (an ac : Nat) (cs : List Bool) (r : Int) (w : World) (hL : LtrsAt w L ls) (hA : Reads w 1 A an (cs.map .bool)) (hnm : nm.length ≤ 9223372036854775807) (hn : ls.length ≤ 9223372036854775807) :
    Calls Tryd.prog 46 #[.agg #[.string ⟨nm.toArray⟩, .int .i64 ht, .int .i64 gap, .int .i64 sp, .slice L ls.length c], .agg #[.int .i64 W, .int .i64 H, .slice A an ac], .int .i64 r] w fun e w' => ∃ R m d err, e = .returned (.tuple #[.slice R m d, .int .i64 err]) ∧ MatchRes w' (fontErr (nameB nm) ht gap sp ls) ls W H an cs r R m err ∧ Bl w w' := by
  let w2 := ((w).alloc (.cells #[.string ⟨nm.toArray⟩, .int .i64 ht, .int .i64 gap, .int .i64 sp, .slice L ls.length c] 24)).alloc (.cells #[.int .i64 W, .int .i64 H, .slice A an ac] 27)
  have w2b : Bl w w2 := ((Bl.refl w).alloc _).alloc _
  have w21 : Blk w2 (w.heap.size) 24 #[.string ⟨nm.toArray⟩, .int .i64 ht, .int .i64 gap, .int .i64 sp, .slice L ls.length c] := by
    have h0 := Blk.new (w) 24 #[.string ⟨nm.toArray⟩, .int .i64 ht, .int .i64 gap, .int .i64 sp, .slice L ls.length c]
    exact (h0.alloc _)
  have w22 : Blk w2 (w.heap.size + 1) 27 #[.int .i64 W, .int .i64 H, .slice A an ac] := by
    have h0 := Blk.new ((w).alloc (.cells #[.string ⟨nm.toArray⟩, .int .i64 ht, .int .i64 gap, .int .i64 sp, .slice L ls.length c] 24)) 27 #[.int .i64 W, .int .i64 H, .slice A an ac]
    simp only [World.size_alloc] at h0
    exact h0
  have HL := Lib.hid (hL.bl w2b); have HA := Lib.hid (hA.bl w2b)
  obtain ⟨fe, hfe⟩ : ∃ x, x = fontErr (nameB nm) ht gap sp ls := ⟨_, rfl⟩
  have hck := check_any nm ht gap sp L c ls w2 (hL.bl w2b) hnm hn
  unfold MatchRes
  rw [← hfe] at hck ⊢
  obtain ⟨pe, hpe⟩ : ∃ x, x = pageErr W H an := ⟨_, rfl⟩
  rw [← hpe]
  have Hck := Lib.hid hck; have HFe := Lib.hid hfe; have HPe := Lib.hid hpe
  have k1 := w21.all5
  clear hL hA hck hfe hpe
  go_enter Tryd.func46, Tryd.ntmps46
  go_wp2_with fail
  refine Hck.out.mono ?_
  rintro e w3 ⟨rfl, hb3⟩
  clear_value w2
  clear k1 Hck
  by_cases hz : fe = 0
  case neg =>
    have hq : (fe == 0) = false := by simp [hz]
    have HZ := Lib.hid hz
    clear hz
    go_wp2_with fail
    try simp only [Exit.inBlock, Exit.then]
    refine bodyPost_ret (v := .tuple #[.slice none 0 0, .int .i64 fe]) (by simp [results, Tryd.results46, go_sem]) rfl ⟨none, 0, 0, fe, rfl, ⟨(distErr_a HZ.out).symm, fun _ => ⟨rfl, rfl⟩, fun h => absurd h HZ.out⟩, w2b.trans hb3⟩
  case pos =>
    subst hz
    have k2 := (w22.bl hb3).all3
    have Hpc := Lib.hid (checkBits_any W H A an ac w3)
    rw [← HPe.out] at Hpc
    go_wp2_with fail
    refine Hpc.out.mono ?_
    rintro e w4 ⟨rfl, hb4⟩
    have hb24 := hb3.trans hb4
    clear k2 Hpc
    by_cases hz : pe = 0
    case neg =>
      have hq : (pe == 0) = false := by simp [hz]
      have HZ := Lib.hid hz
      clear hz
      go_wp2_with fail
      try simp only [Exit.inBlock, Exit.then]
      refine bodyPost_ret (v := .tuple #[.slice none 0 0, .int .i64 pe]) (by simp [results, Tryd.results46, go_sem]) rfl ⟨none, 0, 0, pe, rfl, ⟨(distErr_b HZ.out).symm, fun _ => ⟨rfl, rfl⟩, fun h => absurd h HZ.out⟩, w2b.trans hb24⟩
    case pos =>
      subst hz
      obtain ⟨W, H, rfl, rfl, rfl, hW, hH, hWH⟩ := page_nat HPe.out.symm
      simp only
      obtain ⟨rb, hrb⟩ : ∃ x, x = reachB r := ⟨_, rfl⟩
      have hde : distErr 0 0 r = whenI rb 3 := by rw [hrb]; exact distErr_r
      have Hbr := Lib.hid (fun wx => badReachG_any r wx)
      rw [← hrb] at Hbr
      have HDe := Lib.hid hde; have HRb := Lib.hid hrb
      clear hde hrb
      go_wp2_with fail
      refine (Hbr.out _).mono ?_
      rintro e w' ⟨rfl, rfl⟩
      clear Hbr
      cases rb
      case true =>
        go_wp2_with fail
        try simp only [Exit.inBlock, Exit.then]
        exact bodyPost_ret (v := .tuple #[.slice none 0 0, .int .i64 3]) (by simp [results, Tryd.results46, go_sem]) rfl ⟨none, 0, 0, 3, rfl, ⟨by rw [HDe.out]; rfl, fun _ => ⟨rfl, rfl⟩, fun h => absurd h (by decide)⟩, w2b.trans hb24⟩
      case false =>
        obtain ⟨r, rfl, hr⟩ := reach_ok HRb.out.symm
        simp only
        obtain ⟨⟨-, -, -, hls0, hls, -, -⟩, hltr⟩ := fontErr_zero HFe.out.symm
        have k1 := (w21.bl hb24).all5
        have k2 := (w22.bl hb24).all3
        obtain ⟨mts, hmts⟩ : ∃ x, x = mtsOf cs W H r ls := ⟨_, rfl⟩
        have hml : mts.length = ls.length := by rw [hmts]; exact List.length_map ..
        have hma : ∀ i l, ls[i]? = some l → ∃ m : Mt, mts[i]? = some m ∧ m.t = l.text ∧ m.d = farR cs W H r l := fun i l h => by
          obtain ⟨h1, h2, h3, h4⟩ := hltr l (List.mem_of_getElem? h)
          obtain ⟨V, U, e1, e2, e3, hV, hU, -⟩ := page_nat h2
          exact ⟨mtOf cs W H r l, by rw [hmts]; unfold mtsOf; rw [List.getElem?_map, h]; rfl, rfl, mtOf_d hW hH (by rw [e1]; simp; omega) (by rw [e2]; simp; omega)⟩
        have h0 : w4.ownsRow w4.heap.size 81 2 (.slice none 0 0) 0 (mtCells (mts.take 0)) := World.ownsRow_nil _ _ _ _
        have HMts := Lib.hid hmts; have HMa := Lib.hid hma; have HLt := Lib.hid hltr
        clear hma hmts hltr
        go_wp2_with fail
        go_loopw [28, 10] (fun u v wr => ∃ i : Nat, i ≤ ls.length ∧ u = .int .i64 i ∧ Bl w4 wr ∧ wr.ownsRow w4.heap.size 81 2 v i (mtCells (mts.take i))) (fun u _ _ => ls.length - (RowKit.intOf u).toNat)
        case atStart => exact ⟨0, Nat.zero_le _, rfl, Bl.refl _, h0⟩
        case round =>
          obtain ⟨i, hi, rfl, hbr, hown⟩ := hrel
          clear k1 k2
          by_cases hlt : i < ls.length
          · have hg : ls[i]? = some ls[i] := List.getElem?_eq_getElem hlt
            obtain ⟨x, hx⟩ : ∃ x, x = ls[i] := ⟨_, rfl⟩
            rw [← hx] at hg
            obtain ⟨ad, rfl, j1, j2, j3, j4⟩ := (HL.out.bl (hb24.trans hbr)).at_ hg
            have hrx := ((HL.out.bl (hb24.trans hbr)).2 x (List.mem_of_getElem? hg)).1
            obtain ⟨m, hm, hm1, hm2⟩ := HMa.out i x hg
            obtain ⟨x1, x2, x3, x4⟩ := HLt.out x (List.mem_of_getElem? hg)
            obtain ⟨V, U, e1, e2, e3, hV, hU, -⟩ := page_nat x2
            rw [e3] at hrx
            rw [e1] at j2
            rw [e2] at j3
            rw [e3] at j4
            have hfr : farR cs W H r x = farN (inkF cs W H) (inkF x.bs V U) W H V U r := by unfold farR; rw [e1, e2]; rfl
            have hst := mtCells_succ mts hm
            obtain ⟨F, hF⟩ : ∃ F, F = farR cs W H r x := ⟨_, rfl⟩
            have henc : encM m = [.string ⟨x.text.toArray⟩, .int .i64 F] := by unfold encM; rw [hm1, hm2, hF]
            have hcall := fun wx (hx : Bl wr wx) => distance_any W H V U r A x.A ac x.c cs x.bs wx ((HA.out.bl (hb24.trans hbr)).bl hx) (hrx.bl hx) hW hH hV hU hr
            rw [henc] at hst
            rw [← hfr, ← hF] at hcall
            have HSt := Lib.hid hst; have Hc := Lib.hid hcall; have HOw := Lib.hid hown
            clear hg hx hrx hm hm1 hm2 x1 x2 x3 x4 e1 e2 e3 hfr hst henc hcall hF hown h0
            have k1 := (w21.bl (hb24.trans hbr)).all5
            go_upto_region 13 with fail
            obtain ⟨w5, hw5⟩ : ∃ y, y = wr.alloc (.cells #[.string ⟨x.text.toArray⟩, .int .i64 V, .int .i64 U, .slice x.A (V * U) x.c] 93) := ⟨_, rfl⟩
            obtain ⟨o, ho⟩ : ∃ y, y = wr.heap.size := ⟨_, rfl⟩
            have bo : Blk w5 o 93 #[.string ⟨x.text.toArray⟩, .int .i64 V, .int .i64 U, .slice x.A (V * U) x.c] := by rw [hw5, ho]; exact Blk.new _ _ _
            have hb5 : Bl wr w5 := by rw [hw5]; exact (Bl.refl _).alloc _
            have HOw5 := Lib.hid (own_bl HOw.out hb5)
            rw [← hw5, ← ho]
            clear hw5 ho k1 j1 j2 j3 j4
            have k1 := (w21.bl (hb24.trans (hbr.trans hb5))).all5
            have k2 := (w22.bl (hb24.trans (hbr.trans hb5))).all3
            have k9 := bo.all4
            refine wp_region_flow [(true, 0), (true, 1), (true, 2), (true, 3), (true, 4), (true, 5), (true, 6), (false, 7), (true, 8), (false, 9), (false, 10), (true, 11)] (fun i => i == 10) (by kernel_rfl) (by kernel_rfl) (by kernel_rfl) (by kernel_rfl) ?_
            iterate 1
              apply Flow.mv _ rfl
              · intro K' hK'
                simp only [Act.put, Act.eval, List.setIfInBounds_toArray, List.set_cons_zero, List.set_cons_succ, arr_getD, List.getD_cons_zero, List.getD_cons_succ]
                exact hK'
            iterate 1
              apply Flow.calm2 _ _ rfl rfl
              · intro w' hb' K' hK'
                obtain ⟨hc', hf'⟩ := hb'.rule
                go_simp
                try go_ints
                exact hK'
              · intro K' hK'
                simp only [Act.put, List.setIfInBounds_toArray, List.set_cons_zero, List.set_cons_succ]
                exact hK'
            iterate 2
              apply Flow.calm2 _ _ rfl rfl
              · intro w' hb' K' hK'
                obtain ⟨hc', hf'⟩ := hb'.rule
                go_simp
                try go_ints
                exact hK'
              · intro K' hK'
                simp only [Act.put, List.setIfInBounds_toArray, List.set_cons_zero, List.set_cons_succ]
                exact hK'
            iterate 1
              apply Flow.calm2 _ _ rfl rfl
              · intro w' hb' K' hK'
                obtain ⟨hc', hf'⟩ := hb'.rule
                go_simp
                try go_ints
                exact hK'
              · intro K' hK'
                simp only [Act.put, List.setIfInBounds_toArray, List.set_cons_zero, List.set_cons_succ]
                exact hK'
            iterate 1
              apply Flow.calm2 _ _ rfl rfl
              · intro w' hb' K' hK'
                obtain ⟨hc', hf'⟩ := hb'.rule
                go_simp
                try go_ints
                exact hK'
              · intro K' hK'
                simp only [Act.put, List.setIfInBounds_toArray, List.set_cons_zero, List.set_cons_succ]
                exact hK'
            iterate 1
              apply Flow.mv _ rfl
              · intro K' hK'
                simp only [Act.put, Act.eval, List.setIfInBounds_toArray, List.set_cons_zero, List.set_cons_succ, arr_getD, List.getD_cons_zero, List.getD_cons_succ]
                exact hK'
            apply Flow.move rfl
            go_wp2_with fail
            refine (Hc.out _ (hb5.trans (Bl.refl _).drew)).mono ?_
            rintro e w6 ⟨rfl, HB1⟩
            go_wp2_with fail
            refine ⟨fun _ => (by first | exact HB1 | exact Bl.refl _), ?_⟩
            iterate 1
              apply Flow.calm2 _ _ rfl rfl
              · intro w' hb' K' hK'
                obtain ⟨hc', hf'⟩ := hb'.rule
                go_simp
                try go_ints
                exact hK'
              · intro K' hK'
                simp only [Act.put, List.setIfInBounds_toArray, List.set_cons_zero, List.set_cons_succ]
                exact hK'
            apply Flow.move rfl
            go_wp2_with fail
            refine ⟨fun _ => ?_, ?_⟩
            · repeat' (first | exact Bl.refl _ | refine Bl.drewL ?_ | refine Bl.drew ?_ | refine Bl.alloc ?_ _)
            apply Flow.move rfl
            refine wpList_append_bl rfl (.tmp 32) (.tmp 41) 76 rfl 81 (.agg #[.string ⟨#[]⟩, .int .i64 0]) 2 24 Tryd.underlying76 info_match rfl (by omega) w4.heap.size _ i (mtCells (mts.take i)) rfl (hbr.trans ((hb5.drew.trans HB1).alloc _)) (Nat.le_refl _) (by have := (hbr.trans (hb5.drew.trans HB1)).le; simp; omega) (own_bl HOw5.out (((Bl.refl w5).drew.trans HB1).alloc _)) (some ⟨w6.heap.size, 0, none⟩) 1 1 [.string ⟨x.text.toArray⟩, .int .i64 F] rfl ((Blk.new _ _ _).reads 1 2 rfl) (by simp [Value.oneCell']) (by unfold maxLen; omega) (by omega) ?_
            intro v' w8 hown8 hb8 hg8
            have hfin : w8.ownsRow w4.heap.size 81 2 v' (i + 1) (mtCells (mts.take (i + 1))) := by
              rw [HSt.out]
              exact hown8
            have HFin := Lib.hid hfin; have Hb8 := Lib.hid hb8
            clear hown8 hfin hb8 hg8
            go_wp2_with fail
            refine ⟨fun hcl => absurd hcl (by decide), ?_⟩
            iterate 1
              apply Flow.asg _ rfl
              · intro K' hK'
                simp only [Act.put, Act.eval, List.setIfInBounds_toArray, List.set_cons_zero, List.set_cons_succ, arr_getD, List.getD_cons_zero, List.getD_cons_succ]
                exact hK'
            refine Flow.done ?_
            go_wp2_with fail
            exact ⟨⟨i + 1, hlt, by go_num, Hb8.out, HFin.out⟩, by simp [RowKit.intOf] <;> omega⟩
          · obtain rfl : i = ls.length := by omega
            rw [List.take_of_length_le (by omega)] at hown
            obtain ⟨g, cap, rfl, hgB, -⟩ := own_some hown (by omega)
            have hst := sortStable_any 123 (enters Tryd.func123 (by kernel_rfl) rfl) matchCmp_any w4.heap.size g cap _ mts wr (by rw [hml]; exact hown) (by omega)
            rw [hml] at hst
            have HS := Lib.hid hst
            clear hst hown h0
            go_wp2_with fail
            refine HS.out.mono ?_
            rintro e w9 ⟨rfl, hr9, hb9⟩
            have HR9 := Lib.hid hr9; have Hb9 := Lib.hid (hb9 _ hbr hgB)
            clear hr9 hb9
            go_wp2_with fail
            refine bodyPost_ret (v := .tuple #[.slice (some ⟨g, 0, none⟩) ls.length cap, .int .i64 0]) (by simp [results, Tryd.results46, go_sem]) rfl ⟨some ⟨g, 0, none⟩, ls.length, cap, 0, rfl, ⟨by rw [HDe.out]; rfl, fun h => absurd rfl h, fun _ => ⟨rfl, by simp only [Int.toNat_natCast]; rw [← HMts.out]; exact HR9.out⟩⟩, w2b.trans (hb24.trans Hb9.out)⟩

set_option maxRecDepth 100000 in
set_option maxHeartbeats 8000000 in
theorem matchesOf_any (nm : List UInt8) (ht gap sp : Int) (L : Option Addr) (c : Nat) (ls : List Ltr) (W H : Nat) (A : Option Addr) (ac : Nat) (cs : List Bool) (r : Nat) (w : World) (hL : LtrsAt w L ls) (hA : Reads w 1 A (W * H) (cs.map .bool)) (hW : W ≤ 4000) (hH : H ≤ 4000) (hr : r ≤ 4) (hls0 : ls.length ≠ 0) (hls : ls.length ≤ 200)
    (hltr : ∀ l ∈ ls, textB l.text = true ∧ pageErr l.W l.H l.m = 0 ∧ l.H = ht ∧ l.W ≤ 64) :
    Calls Tryd.prog 48 #[.agg #[.string ⟨nm.toArray⟩, .int .i64 ht, .int .i64 gap, .int .i64 sp, .slice L ls.length c], .agg #[.int .i64 W, .int .i64 H, .slice A (W * H) ac], .int .i64 r] w fun e w' => ∃ R d, e = .returned (.slice R ls.length d) ∧ Reads w' 2 R ls.length (mtCells (stableL (mtsOf cs W H r ls))) ∧ Bl w w' := by
  let w2 := ((w).alloc (.cells #[.string ⟨nm.toArray⟩, .int .i64 ht, .int .i64 gap, .int .i64 sp, .slice L ls.length c] 24)).alloc (.cells #[.int .i64 W, .int .i64 H, .slice A (W * H) ac] 27)
  have w2b : Bl w w2 := ((Bl.refl w).alloc _).alloc _
  have w21 : Blk w2 (w.heap.size) 24 #[.string ⟨nm.toArray⟩, .int .i64 ht, .int .i64 gap, .int .i64 sp, .slice L ls.length c] := by
    have h0 := Blk.new (w) 24 #[.string ⟨nm.toArray⟩, .int .i64 ht, .int .i64 gap, .int .i64 sp, .slice L ls.length c]
    exact (h0.alloc _)
  have w22 : Blk w2 (w.heap.size + 1) 27 #[.int .i64 W, .int .i64 H, .slice A (W * H) ac] := by
    have h0 := Blk.new ((w).alloc (.cells #[.string ⟨nm.toArray⟩, .int .i64 ht, .int .i64 gap, .int .i64 sp, .slice L ls.length c] 24)) 27 #[.int .i64 W, .int .i64 H, .slice A (W * H) ac]
    simp only [World.size_alloc] at h0
    exact h0
  have HL := Lib.hid (hL.bl w2b); have HA := Lib.hid (hA.bl w2b)
  have k1 := w21.all5
  have k2 := w22.all3
  have hb22 : Bl w2 w2 := Bl.refl w2
  clear hL hA
  go_enter Tryd.func48, Tryd.ntmps48
  obtain ⟨mts, hmts⟩ : ∃ x, x = mtsOf cs W H r ls := ⟨_, rfl⟩
  have hml : mts.length = ls.length := by rw [hmts]; exact List.length_map ..
  have hma : ∀ i l, ls[i]? = some l → ∃ m : Mt, mts[i]? = some m ∧ m.t = l.text ∧ m.d = farR cs W H r l := fun i l h => by
    obtain ⟨h1, h2, h3, h4⟩ := hltr l (List.mem_of_getElem? h)
    obtain ⟨V, U, e1, e2, e3, hV, hU, -⟩ := page_nat h2
    exact ⟨mtOf cs W H r l, by rw [hmts]; unfold mtsOf; rw [List.getElem?_map, h]; rfl, rfl, mtOf_d hW hH (by rw [e1]; simp; omega) (by rw [e2]; simp; omega)⟩
  have h0 : w2.ownsRow w2.heap.size 81 2 (.slice none 0 0) 0 (mtCells (mts.take 0)) := World.ownsRow_nil _ _ _ _
  have HMts := Lib.hid hmts; have HMa := Lib.hid hma; have HLt := Lib.hid hltr
  clear hma hmts hltr
  go_wp2_with fail
  go_loopw [13, 7] (fun u v wr => ∃ i : Nat, i ≤ ls.length ∧ u = .int .i64 i ∧ Bl w2 wr ∧ wr.ownsRow w2.heap.size 81 2 v i (mtCells (mts.take i))) (fun u _ _ => ls.length - (RowKit.intOf u).toNat)
  case atStart => exact ⟨0, Nat.zero_le _, rfl, Bl.refl _, h0⟩
  case round =>
    obtain ⟨i, hi, rfl, hbr, hown⟩ := hrel
    clear k1 k2
    by_cases hlt : i < ls.length
    · have hg : ls[i]? = some ls[i] := List.getElem?_eq_getElem hlt
      obtain ⟨x, hx⟩ : ∃ x, x = ls[i] := ⟨_, rfl⟩
      rw [← hx] at hg
      obtain ⟨ad, rfl, j1, j2, j3, j4⟩ := (HL.out.bl (hb22.trans hbr)).at_ hg
      have hrx := ((HL.out.bl (hb22.trans hbr)).2 x (List.mem_of_getElem? hg)).1
      obtain ⟨m, hm, hm1, hm2⟩ := HMa.out i x hg
      obtain ⟨x1, x2, x3, x4⟩ := HLt.out x (List.mem_of_getElem? hg)
      obtain ⟨V, U, e1, e2, e3, hV, hU, -⟩ := page_nat x2
      rw [e3] at hrx
      rw [e1] at j2
      rw [e2] at j3
      rw [e3] at j4
      have hfr : farR cs W H r x = farN (inkF cs W H) (inkF x.bs V U) W H V U r := by unfold farR; rw [e1, e2]; rfl
      have hst := mtCells_succ mts hm
      obtain ⟨F, hF⟩ : ∃ F, F = farR cs W H r x := ⟨_, rfl⟩
      have henc : encM m = [.string ⟨x.text.toArray⟩, .int .i64 F] := by unfold encM; rw [hm1, hm2, hF]
      have hcall := fun wx (hx : Bl wr wx) => farOf_any W H V U r A x.A ac x.c cs x.bs wx ((HA.out.bl (hb22.trans hbr)).bl hx) (hrx.bl hx) hW hH hV hU hr
      rw [henc] at hst
      rw [← hfr, ← hF] at hcall
      have HSt := Lib.hid hst; have Hc := Lib.hid hcall; have HOw := Lib.hid hown
      clear hg hx hrx hm hm1 hm2 x1 x2 x3 x4 e1 e2 e3 hfr hst henc hcall hF hown h0
      have k1 := (w21.bl (hb22.trans hbr)).all5
      go_upto_region 5 with fail
      obtain ⟨w5, hw5⟩ : ∃ y, y = wr.alloc (.cells #[.string ⟨x.text.toArray⟩, .int .i64 V, .int .i64 U, .slice x.A (V * U) x.c] 93) := ⟨_, rfl⟩
      obtain ⟨o, ho⟩ : ∃ y, y = wr.heap.size := ⟨_, rfl⟩
      have bo : Blk w5 o 93 #[.string ⟨x.text.toArray⟩, .int .i64 V, .int .i64 U, .slice x.A (V * U) x.c] := by rw [hw5, ho]; exact Blk.new _ _ _
      have hb5 : Bl wr w5 := by rw [hw5]; exact (Bl.refl _).alloc _
      have HOw5 := Lib.hid (own_bl HOw.out hb5)
      rw [← hw5, ← ho]
      clear hw5 ho k1 j1 j2 j3 j4
      have k1 := (w21.bl (hb22.trans (hbr.trans hb5))).all5
      have k2 := (w22.bl (hb22.trans (hbr.trans hb5))).all3
      have k9 := bo.all4
      refine wp_region_flow [(true, 0), (true, 1), (true, 2), (true, 3), (true, 4), (true, 5), (true, 6), (false, 7), (true, 8), (false, 9), (false, 10), (true, 11)] (fun i => i == 10) (by kernel_rfl) (by kernel_rfl) (by kernel_rfl) (by kernel_rfl) ?_
      iterate 1
        apply Flow.mv _ rfl
        · intro K' hK'
          simp only [Act.put, Act.eval, List.setIfInBounds_toArray, List.set_cons_zero, List.set_cons_succ, arr_getD, List.getD_cons_zero, List.getD_cons_succ]
          exact hK'
      iterate 1
        apply Flow.calm2 _ _ rfl rfl
        · intro w' hb' K' hK'
          obtain ⟨hc', hf'⟩ := hb'.rule
          go_simp
          try go_ints
          exact hK'
        · intro K' hK'
          simp only [Act.put, List.setIfInBounds_toArray, List.set_cons_zero, List.set_cons_succ]
          exact hK'
      iterate 2
        apply Flow.calm2 _ _ rfl rfl
        · intro w' hb' K' hK'
          obtain ⟨hc', hf'⟩ := hb'.rule
          go_simp
          try go_ints
          exact hK'
        · intro K' hK'
          simp only [Act.put, List.setIfInBounds_toArray, List.set_cons_zero, List.set_cons_succ]
          exact hK'
      iterate 1
        apply Flow.calm2 _ _ rfl rfl
        · intro w' hb' K' hK'
          obtain ⟨hc', hf'⟩ := hb'.rule
          go_simp
          try go_ints
          exact hK'
        · intro K' hK'
          simp only [Act.put, List.setIfInBounds_toArray, List.set_cons_zero, List.set_cons_succ]
          exact hK'
      iterate 1
        apply Flow.calm2 _ _ rfl rfl
        · intro w' hb' K' hK'
          obtain ⟨hc', hf'⟩ := hb'.rule
          go_simp
          try go_ints
          exact hK'
        · intro K' hK'
          simp only [Act.put, List.setIfInBounds_toArray, List.set_cons_zero, List.set_cons_succ]
          exact hK'
      iterate 1
        apply Flow.mv _ rfl
        · intro K' hK'
          simp only [Act.put, Act.eval, List.setIfInBounds_toArray, List.set_cons_zero, List.set_cons_succ, arr_getD, List.getD_cons_zero, List.getD_cons_succ]
          exact hK'
      apply Flow.move rfl
      go_wp2_with fail
      refine (Hc.out _ (hb5.trans (Bl.refl _).drew)).mono ?_
      rintro e w6 ⟨rfl, HB1⟩
      go_wp2_with fail
      refine ⟨fun _ => (by first | exact HB1 | exact Bl.refl _), ?_⟩
      iterate 1
        apply Flow.calm2 _ _ rfl rfl
        · intro w' hb' K' hK'
          obtain ⟨hc', hf'⟩ := hb'.rule
          go_simp
          try go_ints
          exact hK'
        · intro K' hK'
          simp only [Act.put, List.setIfInBounds_toArray, List.set_cons_zero, List.set_cons_succ]
          exact hK'
      apply Flow.move rfl
      go_wp2_with fail
      refine ⟨fun _ => ?_, ?_⟩
      · repeat' (first | exact Bl.refl _ | refine Bl.drewL ?_ | refine Bl.drew ?_ | refine Bl.alloc ?_ _)
      apply Flow.move rfl
      refine wpList_append_bl rfl (.tmp 17) (.tmp 26) 76 rfl 81 (.agg #[.string ⟨#[]⟩, .int .i64 0]) 2 24 Tryd.underlying76 info_match rfl (by omega) w2.heap.size _ i (mtCells (mts.take i)) rfl (hbr.trans ((hb5.drew.trans HB1).alloc _)) (Nat.le_refl _) (by have := (hbr.trans (hb5.drew.trans HB1)).le; simp; omega) (own_bl HOw5.out (((Bl.refl w5).drew.trans HB1).alloc _)) (some ⟨w6.heap.size, 0, none⟩) 1 1 [.string ⟨x.text.toArray⟩, .int .i64 F] rfl ((Blk.new _ _ _).reads 1 2 rfl) (by simp [Value.oneCell']) (by unfold maxLen; omega) (by omega) ?_
      intro v' w8 hown8 hb8 hg8
      have hfin : w8.ownsRow w2.heap.size 81 2 v' (i + 1) (mtCells (mts.take (i + 1))) := by
        rw [HSt.out]
        exact hown8
      have HFin := Lib.hid hfin; have Hb8 := Lib.hid hb8
      clear hown8 hfin hb8 hg8
      go_wp2_with fail
      refine ⟨fun hcl => absurd hcl (by decide), ?_⟩
      iterate 1
        apply Flow.asg _ rfl
        · intro K' hK'
          simp only [Act.put, Act.eval, List.setIfInBounds_toArray, List.set_cons_zero, List.set_cons_succ, arr_getD, List.getD_cons_zero, List.getD_cons_succ]
          exact hK'
      refine Flow.done ?_
      go_wp2_with fail
      exact ⟨⟨i + 1, hlt, by go_num, Hb8.out, HFin.out⟩, by simp [RowKit.intOf] <;> omega⟩
    · obtain rfl : i = ls.length := by omega
      rw [List.take_of_length_le (by omega)] at hown
      obtain ⟨g, cap, rfl, hgB, -⟩ := own_some hown (by omega)
      have hst := sortStable_any 124 (enters Tryd.func124 (by kernel_rfl) rfl) matchesCmp_any w2.heap.size g cap _ mts wr (by rw [hml]; exact hown) (by omega)
      rw [hml] at hst
      have HS := Lib.hid hst
      clear hst hown h0
      go_wp2_with fail
      refine HS.out.mono ?_
      rintro e w9 ⟨rfl, hr9, hb9⟩
      have HR9 := Lib.hid hr9; have Hb9 := Lib.hid (hb9 _ hbr hgB)
      clear hr9 hb9
      go_wp2_with fail
      go_ret
      refine ⟨some ⟨g, 0, none⟩, cap, rfl, ?_, w2b.trans Hb9.out⟩
      have := HR9.out
      rw [← HMts.out]
      exact this

end Go.Proofs.YtjelhdpcaileiaaDoor


/-! glyph.Apart. -/
namespace Go.Proofs.YtjelhdpcaileiaaDoor
open Go.RowKit Go.Shelf Go.Lib

abbrev Ap := Int × List UInt8 × List UInt8
def far0 (x y : Ltr) : Int := farR x.bs x.W.toNat x.H.toNat 0 y
def apStep (b : Ap) (x y : Ltr) : Ap := if b.1 < 0 ∨ far0 x y < b.1 then (far0 x y, x.text, y.text) else b
def apIn (ls : List Ltr) (x : Ltr) (i : Nat) (b : Ap) : Nat → Ap
  | 0 => b
  | n + 1 => match ls[i + 1 + n]? with
    | some y => apStep (apIn ls x i b n) x y
    | none => apIn ls x i b n
def apOut (ls : List Ltr) : Nat → Ap
  | 0 => (-1, [], [])
  | i + 1 => match ls[i]? with
    | some x => apIn ls x i (apOut ls i) (ls.length - (i + 1))
    | none => apOut ls i
theorem apIn_succ {ls : List Ltr} {x y : Ltr} {i n : Nat} {b : Ap} (h : ls[i + 1 + n]? = some y) : apIn ls x i b (n + 1) = apStep (apIn ls x i b n) x y := by
  rw [apIn, h]
theorem apOut_succ {ls : List Ltr} {x : Ltr} {i : Nat} (h : ls[i]? = some x) : apOut ls (i + 1) = apIn ls x i (apOut ls i) (ls.length - (i + 1)) := by
  rw [apOut, h]
theorem LtrsAt.drop {w : World} {ad : Addr} {ls : List Ltr} (h : LtrsAt w (some ad) ls) (i : Nat) : LtrsAt w (some (ad.add (i * 4))) (ls.drop i) := by
  have hl : (ls.drop i).length = ls.length - i := List.length_drop
  refine ⟨⟨ltrCells_len _, fun hn => ?_⟩, fun l hm => h.2 l (List.mem_of_mem_drop hm)⟩
  obtain ⟨ad', e, hc⟩ := h.1.2 (by omega)
  injection e with e
  subst e
  refine ⟨_, rfl, fun j u hj => ?_⟩
  rw [add_of_add]
  refine hc _ u ?_
  have e2 : ltrCells ls = ltrCells (ls.take i) ++ ltrCells (ls.drop i) := by rw [← ltrCells_append, List.take_append_drop]
  have e3 : (ltrCells (ls.take i)).length = i * 4 := by rw [ltrCells_len, List.length_take]; congr 1; omega
  rw [e2, List.getElem?_append_right (by omega), e3, Nat.add_sub_cancel_left]
  exact hj
theorem apStep_lt {b : Ap} {x y : Ltr} (h : b.1 < 0 ∨ far0 x y < b.1) : apStep b x y = (far0 x y, x.text, y.text) := if_pos h
theorem apStep_ge {b : Ap} {x y : Ltr} (h1 : ¬ b.1 < 0) (h2 : ¬ far0 x y < b.1) : apStep b x y = b := if_neg (by rintro (h | h); exact h1 h; exact h2 h)
def apErr (fe : Int) (n : Nat) : Int := if fe ≠ 0 then fe else if n < 2 then 9 else 0
def ApRes (fe : Int) (ls : List Ltr) (n : Int) (s t : List UInt8) (err : Int) : Prop :=
  err = apErr fe ls.length ∧ (err ≠ 0 → n = 0 ∧ s = [] ∧ t = []) ∧ (err = 0 → (n, s, t) = apOut ls ls.length)
set_option maxRecDepth 100000 in
set_option maxHeartbeats 8000000 in
theorem apartG_any (nm : List UInt8) (ht gap sp : Int) (L : Option Addr) (c : Nat) (ls : List Ltr) (w : World) (hL : LtrsAt w L ls) (hnm : nm.length ≤ 9223372036854775807) (hn : ls.length ≤ 9223372036854775807) (hc : ls.length ≤ c) :
    Calls Tryd.prog 52 #[.agg #[.string ⟨nm.toArray⟩, .int .i64 ht, .int .i64 gap, .int .i64 sp, .slice L ls.length c]] w fun e w' => ∃ n s t err, e = .returned (.tuple #[.int .i64 n, .string ⟨s.toArray⟩, .string ⟨t.toArray⟩, .int .i64 err]) ∧ ApRes (fontErr (nameB nm) ht gap sp ls) ls n s t err ∧ Bl w w' := by
  let w2 := (w).alloc (.cells #[.string ⟨nm.toArray⟩, .int .i64 ht, .int .i64 gap, .int .i64 sp, .slice L ls.length c] 24)
  have w2b : Bl w w2 := (Bl.refl w).alloc _
  have w21 : Blk w2 (w.heap.size) 24 #[.string ⟨nm.toArray⟩, .int .i64 ht, .int .i64 gap, .int .i64 sp, .slice L ls.length c] := by
    have h0 := Blk.new (w) 24 #[.string ⟨nm.toArray⟩, .int .i64 ht, .int .i64 gap, .int .i64 sp, .slice L ls.length c]
    exact h0
  have HL := Lib.hid (hL.bl w2b)
  obtain ⟨fe, hfe⟩ : ∃ x, x = fontErr (nameB nm) ht gap sp ls := ⟨_, rfl⟩
  have hck := check_any nm ht gap sp L c ls w2 (hL.bl w2b) hnm hn
  unfold ApRes
  rw [← hfe] at hck ⊢
  have Hck := Lib.hid hck; have HFe := Lib.hid hfe
  have k1 := w21.all5
  clear hL hck hfe
  go_enter Tryd.func52, Tryd.ntmps52
  go_wp2_with fail
  refine Hck.out.mono ?_
  rintro e w3 ⟨rfl, hb3⟩
  clear_value w2
  clear k1 Hck
  by_cases hz : fe = 0
  case neg =>
    have hq : (fe == 0) = false := by simp [hz]
    have HZ := Lib.hid hz
    clear hz
    go_wp2_with fail
    try simp only [Exit.inBlock, Exit.then]
    refine bodyPost_ret (v := .tuple #[.int .i64 0, .string ⟨#[]⟩, .string ⟨#[]⟩, .int .i64 fe]) (by simp [results, Tryd.results52, go_sem]) rfl ⟨0, [], [], fe, rfl, ⟨(if_pos HZ.out).symm, fun _ => ⟨rfl, rfl, rfl⟩, fun h => absurd h HZ.out⟩, w2b.trans hb3⟩
  case pos =>
    subst hz
    obtain ⟨⟨-, -, -, hls0, hls, -, -⟩, hltr⟩ := fontErr_zero HFe.out.symm
    have k1 := (w21.bl hb3).all5
    by_cases h2 : ls.length < 2
    · go_wp2_with fail
      try simp only [Exit.inBlock, Exit.then]
      refine bodyPost_ret (v := .tuple #[.int .i64 0, .string ⟨#[]⟩, .string ⟨#[]⟩, .int .i64 9]) (by simp [results, Tryd.results52, go_sem]) rfl ⟨0, [], [], 9, rfl, ⟨(by unfold apErr; rw [if_neg (by simp), if_pos h2]), fun _ => ⟨rfl, rfl, rfl⟩, fun h => absurd h (by decide)⟩, w2b.trans hb3⟩
    · have HLt := Lib.hid hltr
      clear hltr
      obtain ⟨ad0, rfl, -⟩ := HL.out.1.2 (by omega)
      go_wp2_with fail
      go_loopw [27, 7, 8, 9] (fun u a s t wr => ∃ (i : Nat), i ≤ ls.length ∧ u = .int .i64 i ∧ a = .int .i64 (apOut ls i).1 ∧ s = .string ⟨(apOut ls i).2.1.toArray⟩ ∧ t = .string ⟨(apOut ls i).2.2.toArray⟩ ∧ Bl w2 wr) (fun u _ _ _ _ => ls.length - (RowKit.intOf u).toNat)
      case atStart => exact ⟨0, Nat.zero_le _, rfl, rfl, rfl, rfl, hb3⟩
      case round =>
        clear k1
        rename World => wr
        obtain ⟨i, hi, rfl, rfl, rfl, rfl, hbr⟩ := hrel
        have k1 := (w21.bl hbr).all5
        by_cases hlt : i < ls.length
        · have hg : ls[i]? = some ls[i] := List.getElem?_eq_getElem hlt
          obtain ⟨x, hx⟩ : ∃ x, x = ls[i] := ⟨_, rfl⟩
          rw [← hx] at hg
          obtain ⟨ad, e, j1, j2, j3, j4⟩ := (HL.out.bl hbr).at_ hg
          injection e with e
          subst e
          have hrx := ((HL.out.bl hbr).2 x (List.mem_of_getElem? hg)).1
          obtain ⟨x1, x2, x3, x4⟩ := HLt.out x (List.mem_of_getElem? hg)
          obtain ⟨V, U, e1, e2, e3, hV, hU, -⟩ := page_nat x2
          rw [e3] at hrx
          rw [e1] at j2
          rw [e2] at j3
          rw [e3] at j4
          have hso := apOut_succ hg
          obtain ⟨b0, hb0⟩ : ∃ b, b = apOut ls i := ⟨_, rfl⟩
          rw [← hb0] at hso ⊢
          have HG := Lib.hid hg; have HE := Lib.hid (And.intro e1 (And.intro e2 e3)); have HRx := Lib.hid hrx; have HSo := Lib.hid hso
          clear hg hx e1 e2 e3 hrx x1 x2 x3 x4 hso hb0
          go_upto_region 10 with fail
          obtain ⟨w3', hw3⟩ : ∃ y, y = wr.alloc (.cells #[.string ⟨x.text.toArray⟩, .int .i64 V, .int .i64 U, .slice x.A (V * U) x.c] 93) := ⟨_, rfl⟩
          obtain ⟨o, ho⟩ : ∃ y, y = wr.heap.size := ⟨_, rfl⟩
          have bo : Blk w3' o 93 #[.string ⟨x.text.toArray⟩, .int .i64 V, .int .i64 U, .slice x.A (V * U) x.c] := by rw [hw3, ho]; exact Blk.new _ _ _
          have hbw : Bl wr w3' := by rw [hw3]; exact (Bl.refl _).alloc _
          rw [← hw3, ← ho]
          clear hw3 ho k1 j1 j2 j3 j4
          have hb23 := hbr.trans hbw
          have k1 := (w21.bl hb23).all5
          have hi1 : i + 1 ≤ ls.length := hlt
          have hi1c : i + 1 ≤ c := by omega
          have hdl : (ls.drop (i + 1)).length = ls.length - (i + 1) := List.length_drop
          go_cut [36, 37, 38] from 32 to 38 (fun s36 s37 s38 wc => ∃ P q, s36 = .slice P (ls.drop (i + 1)).length q ∧ s37 = .int .i64 (ls.drop (i + 1)).length ∧ s38 = .int .i64 ((0 : Nat) : Int) ∧ LtrsAt wc P (ls.drop (i + 1)) ∧ w3' = wc)
          case first =>
            by_cases hci : c = i + 1
            · go_wp2_with fail
              go_meet
              case rel => exact ⟨_, _, by rw [hdl], by rw [hdl], rfl, by
                have h0 : ls.drop (i + 1) = [] := List.eq_nil_of_length_eq_zero (by omega)
                rw [h0]
                exact ⟨⟨rfl, fun h => absurd h (by decide)⟩, fun l hl => absurd hl (by simp)⟩, rfl⟩
            · go_wp2_with fail
              go_meet
              case rel => exact ⟨_, _, by rw [hdl], by rw [hdl], rfl, (HL.out.bl hb23).drop (i + 1), rfl⟩
          case rest =>
            obtain ⟨P, q, rfl, rfl, rfl, hLd, rfl⟩ := hcut
            have HLd := Lib.hid hLd
            obtain ⟨ds, hds⟩ : ∃ ds, ds = ls.drop (i + 1) := ⟨_, rfl⟩
            have hdg : ∀ n, ls[i + 1 + n]? = ds[n]? := fun n => by rw [hds, List.getElem?_drop]
            have hdm : ∀ y ∈ ds, y ∈ ls := fun y hy => by rw [hds] at hy; exact List.mem_of_mem_drop hy
            rw [← hds] at HLd hdl ⊢
            have HDg := Lib.hid hdg; have HDm := Lib.hid hdm
            have hdl2 : ds.length ≤ 200 := by omega
            have HDl := Lib.hid hdl
            clear hLd hds hdg hdm k1 hdl
            go_wp2_with fail
            go_loopw [38, 7, 8, 9] (fun u a s t wq => ∃ (j : Nat), j ≤ ds.length ∧ u = .int .i64 j ∧ a = .int .i64 (apIn ls x i b0 j).1 ∧ s = .string ⟨(apIn ls x i b0 j).2.1.toArray⟩ ∧ t = .string ⟨(apIn ls x i b0 j).2.2.toArray⟩ ∧ Bl w3' wq) (fun u _ _ _ _ => ds.length - (RowKit.intOf u).toNat)
            case atStart => exact ⟨0, Nat.zero_le _, rfl, rfl, rfl, rfl, Bl.refl _⟩
            case round =>
              rename World => wq
              obtain ⟨j, hj, rfl, rfl, rfl, rfl, hbq⟩ := hrel
              by_cases hjl : j < ds.length
              · have hjg : ds[j]? = some ds[j] := List.getElem?_eq_getElem hjl
                obtain ⟨y, hy⟩ : ∃ y, y = ds[j] := ⟨_, rfl⟩
                rw [← hy] at hjg
                obtain ⟨adj, rfl, j1, j2, j3, j4⟩ := (HLd.out.bl hbq).at_ hjg
                have hry := ((HLd.out.bl hbq).2 y (List.mem_of_getElem? hjg)).1
                obtain ⟨y1, y2, y3, y4⟩ := HLt.out y (HDm.out y (List.mem_of_getElem? hjg))
                obtain ⟨V2, U2, f1, f2, f3, hV2, hU2, -⟩ := page_nat y2
                rw [f3] at hry
                rw [f1] at j2
                rw [f2] at j3
                rw [f3] at j4
                have hsi : apIn ls x i b0 (j + 1) = apStep (apIn ls x i b0 j) x y := apIn_succ (by rw [HDg.out]; exact hjg)
                have hfr : far0 x y = farN (inkF x.bs V U) (inkF y.bs V2 U2) V U V2 U2 0 := by unfold far0 farR; rw [HE.out.1, HE.out.2.1, f1, f2]; rfl
                obtain ⟨b1, hb1⟩ : ∃ b, b = apIn ls x i b0 j := ⟨_, rfl⟩
                obtain ⟨bn, bs1, bs2⟩ := b1
                rw [← hb1] at hsi ⊢
                have k9 := (bo.bl hbq).all4
                have HSi := Lib.hid hsi; have HFr := Lib.hid hfr; have HRy := Lib.hid hry
                clear hjg hy f1 f2 f3 hry y1 y2 y3 y4 hsi hfr hb1
                go_upto_region 13 with fail
                obtain ⟨w4, hw4⟩ : ∃ z, z = wq.alloc (.cells #[.string ⟨y.text.toArray⟩, .int .i64 V2, .int .i64 U2, .slice y.A (V2 * U2) y.c] 93) := ⟨_, rfl⟩
                obtain ⟨p, hp⟩ : ∃ z, z = wq.heap.size := ⟨_, rfl⟩
                have bp : Blk w4 p 93 #[.string ⟨y.text.toArray⟩, .int .i64 V2, .int .i64 U2, .slice y.A (V2 * U2) y.c] := by rw [hw4, hp]; exact Blk.new _ _ _
                have hb4 : Bl wq w4 := by rw [hw4]; exact (Bl.refl _).alloc _
                rw [← hw4, ← hp]
                clear hw4 hp j1 j2 j3 j4 k9
                have hb34 := hbq.trans hb4
                have k9 := (bo.bl hb34).all4
                have k8 := bp.all4
                have hds := distance_any V U V2 U2 0 x.A y.A x.c y.c x.bs y.bs w4 (HRx.out.bl (hbw.trans hb34)) (HRy.out.bl hb4) hV hU hV2 hU2 (by omega)
                rw [← HFr.out] at hds
                obtain ⟨F, hF⟩ : ∃ F, F = far0 x y := ⟨_, rfl⟩
                rw [← hF] at hds
                have Hds := Lib.hid hds; have HF := Lib.hid hF
                clear hds hF
                go_wp2_with fail
                refine Hds.out.mono ?_
                rintro e w5 ⟨rfl, hb5⟩
                clear Hds k9 k8
                have hb35 := hb34.trans hb5
                have k9 := (bo.bl hb35).all4
                have k8 := (bp.bl hb5).all4
                by_cases c1 : bn < 0
                · have HR := Lib.hid (show apIn ls x i b0 (j + 1) = (F, x.text, y.text) by rw [HSi.out, apStep_lt (.inl c1), HF.out])
                  go_upto_region 15 with fail
                  refine wp_region_flow [(true, 0), (true, 1), (true, 2), (true, 3), (true, 4), (true, 5), (true, 6), (true, 7)] (fun _ => false) (by kernel_rfl) (by kernel_rfl) (by kernel_rfl) (by kernel_rfl) ?_
                  iterate 1
                    apply Flow.mv _ rfl
                    · intro K' hK'
                      simp only [Act.put, Act.eval, List.setIfInBounds_toArray, List.set_cons_zero, List.set_cons_succ, arr_getD, List.getD_cons_zero, List.getD_cons_succ]
                      exact hK'
                  iterate 1
                    apply Flow.calm2 _ _ rfl rfl
                    · intro w' hb' K' hK'
                      obtain ⟨hc', hf'⟩ := hb'.rule
                      go_simp
                      try go_ints
                      exact hK'
                    · intro K' hK'
                      simp only [Act.put, List.setIfInBounds_toArray, List.set_cons_zero, List.set_cons_succ]
                      exact hK'
                  iterate 1
                    apply Flow.calm2 _ _ rfl rfl
                    · intro w' hb' K' hK'
                      obtain ⟨hc', hf'⟩ := hb'.rule
                      go_simp
                      try go_ints
                      exact hK'
                    · intro K' hK'
                      simp only [Act.put, List.setIfInBounds_toArray, List.set_cons_zero, List.set_cons_succ]
                      exact hK'
                  iterate 1
                    apply Flow.calm2 _ _ rfl rfl
                    · intro w' hb' K' hK'
                      obtain ⟨hc', hf'⟩ := hb'.rule
                      go_simp
                      try go_ints
                      exact hK'
                    · intro K' hK'
                      simp only [Act.put, List.setIfInBounds_toArray, List.set_cons_zero, List.set_cons_succ]
                      exact hK'
                  iterate 1
                    apply Flow.calm2 _ _ rfl rfl
                    · intro w' hb' K' hK'
                      obtain ⟨hc', hf'⟩ := hb'.rule
                      go_simp
                      try go_ints
                      exact hK'
                    · intro K' hK'
                      simp only [Act.put, List.setIfInBounds_toArray, List.set_cons_zero, List.set_cons_succ]
                      exact hK'
                  iterate 3
                    apply Flow.asg _ rfl
                    · intro K' hK'
                      simp only [Act.put, Act.eval, List.setIfInBounds_toArray, List.set_cons_zero, List.set_cons_succ, arr_getD, List.getD_cons_zero, List.getD_cons_succ]
                      exact hK'
                  refine Flow.done ?_
                  go_wp2_with fail
                  exact ⟨⟨j + 1, hjl, by go_num, by rw [HR.out], by rw [HR.out], by rw [HR.out], hb35.drew⟩, by simp [RowKit.intOf] <;> omega⟩
                · by_cases c2 : F < bn
                  · have HR := Lib.hid (show apIn ls x i b0 (j + 1) = (F, x.text, y.text) by rw [HSi.out, apStep_lt (.inr (by rw [← HF.out]; exact c2)), HF.out])
                    go_upto_region 15 with fail
                    refine wp_region_flow [(true, 0), (true, 1), (true, 2), (true, 3), (true, 4), (true, 5), (true, 6), (true, 7)] (fun _ => false) (by kernel_rfl) (by kernel_rfl) (by kernel_rfl) (by kernel_rfl) ?_
                    iterate 1
                      apply Flow.mv _ rfl
                      · intro K' hK'
                        simp only [Act.put, Act.eval, List.setIfInBounds_toArray, List.set_cons_zero, List.set_cons_succ, arr_getD, List.getD_cons_zero, List.getD_cons_succ]
                        exact hK'
                    iterate 1
                      apply Flow.calm2 _ _ rfl rfl
                      · intro w' hb' K' hK'
                        obtain ⟨hc', hf'⟩ := hb'.rule
                        go_simp
                        try go_ints
                        exact hK'
                      · intro K' hK'
                        simp only [Act.put, List.setIfInBounds_toArray, List.set_cons_zero, List.set_cons_succ]
                        exact hK'
                    iterate 1
                      apply Flow.calm2 _ _ rfl rfl
                      · intro w' hb' K' hK'
                        obtain ⟨hc', hf'⟩ := hb'.rule
                        go_simp
                        try go_ints
                        exact hK'
                      · intro K' hK'
                        simp only [Act.put, List.setIfInBounds_toArray, List.set_cons_zero, List.set_cons_succ]
                        exact hK'
                    iterate 1
                      apply Flow.calm2 _ _ rfl rfl
                      · intro w' hb' K' hK'
                        obtain ⟨hc', hf'⟩ := hb'.rule
                        go_simp
                        try go_ints
                        exact hK'
                      · intro K' hK'
                        simp only [Act.put, List.setIfInBounds_toArray, List.set_cons_zero, List.set_cons_succ]
                        exact hK'
                    iterate 1
                      apply Flow.calm2 _ _ rfl rfl
                      · intro w' hb' K' hK'
                        obtain ⟨hc', hf'⟩ := hb'.rule
                        go_simp
                        try go_ints
                        exact hK'
                      · intro K' hK'
                        simp only [Act.put, List.setIfInBounds_toArray, List.set_cons_zero, List.set_cons_succ]
                        exact hK'
                    iterate 3
                      apply Flow.asg _ rfl
                      · intro K' hK'
                        simp only [Act.put, Act.eval, List.setIfInBounds_toArray, List.set_cons_zero, List.set_cons_succ, arr_getD, List.getD_cons_zero, List.getD_cons_succ]
                        exact hK'
                    refine Flow.done ?_
                    go_wp2_with fail
                    exact ⟨⟨j + 1, hjl, by go_num, by rw [HR.out], by rw [HR.out], by rw [HR.out], hb35.drew⟩, by simp [RowKit.intOf] <;> omega⟩
                  · have HR := Lib.hid (show apIn ls x i b0 (j + 1) = (bn, bs1, bs2) by rw [HSi.out, apStep_ge c1 (by rw [← HF.out]; exact c2)])
                    go_wp2_with fail
                    exact ⟨⟨j + 1, hjl, by go_num, by rw [HR.out], by rw [HR.out], by rw [HR.out], hb35⟩, by simp [RowKit.intOf] <;> omega⟩
              · obtain rfl : j = ds.length := by omega
                have hso2 : apOut ls (i + 1) = apIn ls x i b0 ds.length := by rw [HSo.out, HDl.out]
                have HSo2 := Lib.hid hso2
                clear hso2
                go_wp2_with fail
                exact ⟨⟨i + 1, hlt, by go_num, by rw [HSo2.out], by rw [HSo2.out], by rw [HSo2.out], hb23.trans hbq⟩, by simp [RowKit.intOf] <;> omega⟩
        · obtain rfl : i = ls.length := by omega
          go_wp2_with fail
          obtain ⟨B0, hB0⟩ : ∃ b, b = apOut ls ls.length := ⟨_, rfl⟩
          obtain ⟨n, s, t⟩ := B0
          have HB0 := Lib.hid hB0
          rw [← hB0]
          clear hB0
          refine bodyPost_ret (v := .tuple #[.int .i64 n, .string ⟨s.toArray⟩, .string ⟨t.toArray⟩, .int .i64 0]) (by simp [results, Tryd.results52, go_sem]) rfl ⟨n, s, t, 0, rfl, ⟨(by unfold apErr; rw [if_neg (by simp), if_neg h2]), fun h => absurd rfl h, fun _ => by first | rfl | exact HB0.out⟩, w2b.trans hbr⟩

end Go.Proofs.YtjelhdpcaileiaaDoor
