/- bedref2.FitOf. -/
import Derived.Test.YtkhajhcfplicpaaDoorS64
import Derived.Test.YtkhajhcfplicpaaDoorS58
import Derived.Shelf.Strings.Split

namespace Go.Proofs
open Go.Shelf
def Tryd.lays146_ren : Go.Shelf.Ren := ⟨fun | 146 => 166 | 221 => 239 | 268 => 272 | 138 => 265 | 143 => 167 | 195 => 300 | 197 => 267 | 218 => 301 | 219 => 240 | 260 => 302 | 217 => 263 | 225 => 273 | 224 => 274 | 267 => 275 | 266 => 299 | 314 => 305 | n => n, fun | 9 => 9 | 31 => 93 | 3 => 3 | 4 => 4 | 0 => 0 | 105 => 274 | 21 => 21 | 5 => 5 | 46 => 249 | 119 => 293 | 139 => 321 | 138 => 320 | 146 => 284 | 51 => 68 | n => n, fun | 1 => 0 | 3 => 3 | 4 => 4 | n => n⟩
theorem Tryd.lays146 : Go.Proofs.Lays.n146 Tryd.prog Tryd.lays146_ren := {
  mixed := by kernel_rfl
  f138 := Tryd.func265.trans (congrArg some (by kernel_rfl))
  f143 := Tryd.func167.trans (congrArg some (by kernel_rfl))
  f146 := Tryd.func166.trans (congrArg some (by kernel_rfl))
  f195 := Tryd.func300.trans (congrArg some (by kernel_rfl))
  f197 := Tryd.func267.trans (congrArg some (by kernel_rfl))
  f217 := Tryd.func263.trans (congrArg some (by kernel_rfl))
  f218 := Tryd.func301.trans (congrArg some (by kernel_rfl))
  f219 := Tryd.func240.trans (congrArg some (by kernel_rfl))
  f221 := Tryd.func239.trans (congrArg some (by kernel_rfl))
  f224 := Tryd.func274.trans (congrArg some (by kernel_rfl))
  f225 := Tryd.func273.trans (congrArg some (by kernel_rfl))
  f260 := Tryd.func302.trans (congrArg some (by kernel_rfl))
  f266 := Tryd.func299.trans (congrArg some (by kernel_rfl))
  f267 := Tryd.func275.trans (congrArg some (by kernel_rfl))
  f268 := Tryd.func272.trans (congrArg some (by kernel_rfl))
  f314 := Tryd.func305.trans (congrArg some (by kernel_rfl))
  t0 := Tryd.underlying0
  a0 := Tryd.isAgg0
  z0 := Tryd.sizeOf0
  v0 := Tryd.zeroValue0
  t3 := Tryd.underlying3
  a3 := Tryd.isAgg3
  z3 := Tryd.sizeOf3
  v3 := Tryd.zeroValue3
  t4 := Tryd.underlying4
  a4 := Tryd.isAgg4
  z4 := Tryd.sizeOf4
  v4 := Tryd.zeroValue4
  t5 := Tryd.underlying5
  a5 := Tryd.isAgg5
  z5 := Tryd.sizeOf5
  v5 := Tryd.zeroValue5
  t9 := Tryd.underlying9
  a9 := Tryd.isAgg9
  z9 := Tryd.sizeOf9
  v9 := Tryd.zeroValue9
  t21 := Tryd.underlying21
  a21 := Tryd.isAgg21
  z21 := Tryd.sizeOf21
  v21 := Tryd.zeroValue21
  t31 := Tryd.underlying93
  a31 := Tryd.isAgg93
  z31 := Tryd.sizeOf93
  v31 := Tryd.zeroValue93
  t46 := Tryd.underlying249
  a46 := Tryd.isAgg249
  z46 := Tryd.sizeOf249
  v46 := Tryd.zeroValue249
  t51 := Tryd.underlying68
  a51 := Tryd.isAgg68
  z51 := Tryd.sizeOf68
  v51 := Tryd.zeroValue68
  t105 := Tryd.underlying274
  a105 := Tryd.isAgg274
  z105 := Tryd.sizeOf274
  v105 := Tryd.zeroValue274
  t119 := Tryd.underlying293
  a119 := Tryd.isAgg293
  z119 := Tryd.sizeOf293
  t138 := Tryd.underlying320
  a138 := Tryd.isAgg320
  z138 := Tryd.sizeOf320
  v138 := Tryd.zeroValue320
  t139 := Tryd.underlying321
  a139 := Tryd.isAgg321
  z139 := Tryd.sizeOf321
  v139 := Tryd.zeroValue321
  t146 := Tryd.underlying284
  a146 := Tryd.isAgg284
  z146 := Tryd.sizeOf284
  v146 := Tryd.zeroValue284
  g1 := by kernel_rfl
  g3 := by kernel_rfl
  g4 := by kernel_rfl }

end Go.Proofs
namespace Go.Proofs.YtkhajhcfplicpaaDoor
open Go.RowKit Go.Shelf

theorem info_str : (Tryd.prog.info? 9).map (fun i => (i.zero, i.size, i.bytes)) = some (some (.string ByteArray.empty), 1, 16) := by kernel_rfl
def strOf (l : List UInt8) : Value := .string ⟨l.toArray⟩
def strCells' (ts : List (List UInt8)) : List Value := ts.map strOf
/-- The words of a text, in new memory. -/
theorem split_any (t : List UInt8) (w : World) (hs : t.length < 4294967281) (hm : SubOk w) :
    Calls Tryd.prog 166 #[.string ⟨t.toArray⟩, .string ⟨#[32]⟩] w fun e w' => ∃ c, e = .returned (.slice (some ⟨w.heap.size, 0, none⟩) (wordsOf t).length c) ∧ Reads w' 1 (some ⟨w.heap.size, 0, none⟩) (wordsOf t).length (strCells' (wordsOf t)) ∧ Bl w w' := by
  obtain ⟨m, hm⟩ := hm
  have hd := Lib.splitB_data ⟨#[32]⟩ 0 (Lib.countB ⟨t.toArray⟩ ⟨#[32]⟩) ⟨t.toArray⟩
  have hl := Lib.splitB_all ⟨#[32]⟩ (by decide) 0 _ ⟨t.toArray⟩ rfl
  have hw : (Lib.splitB ⟨#[32]⟩ 0 (Lib.countB ⟨t.toArray⟩ ⟨#[32]⟩) ⟨t.toArray⟩).map (·.data.toList) = wordsOf t := hd
  have hlen : (wordsOf t).length = Lib.countB ⟨t.toArray⟩ ⟨#[32]⟩ + 1 := by rw [← hw, List.length_map, hl]
  have hc : (Lib.splitB ⟨#[32]⟩ 0 (Lib.countB ⟨t.toArray⟩ ⟨#[32]⟩) ⟨t.toArray⟩).map Value.string = strCells' (wordsOf t) := by
    rw [← hw]
    unfold strCells'
    rw [List.map_map]
    refine List.map_congr_left fun x _ => ?_
    show Value.string x = Value.string ⟨x.data.toList.toArray⟩
    cases x
    simp
  have h := Any.strings_Split Tryd.lays146 info_str ⟨t.toArray⟩ ⟨#[32]⟩ m w (by rw [Lib.size_mk]; exact hs) hm (by decide)
  refine Calls.mono (R := fun e w' => e = .returned (.slice (some ⟨w.heap.size, 0, none⟩) (Lib.countB ⟨t.toArray⟩ ⟨#[32]⟩ + 1) (Lib.countB ⟨t.toArray⟩ ⟨#[32]⟩ + 1)) ∧ w' = w.alloc (.cells ((Lib.splitB ⟨#[32]⟩ 0 (Lib.countB ⟨t.toArray⟩ ⟨#[32]⟩) ⟨t.toArray⟩).map Value.string).toArray 9)) h ?_
  rintro e w' ⟨rfl, rfl⟩
  refine ⟨_, by rw [hlen], ?_, (Bl.refl _).alloc _⟩
  rw [hc]
  have hb := Blk.new w 9 (strCells' (wordsOf t)).toArray
  have hr := hb.reads (wordsOf t).length 1 (by simp [strCells'])
  simpa using hr
theorem str_at {w : World} {A : Option Addr} {ts : List (List UInt8)} {i : Nat} {x : List UInt8} (h : Reads w 1 A ts.length (strCells' ts)) (hi : ts[i]? = some x) : ∃ ad, A = some ad ∧ w.cell? (ad.add i) = some (.string ⟨x.toArray⟩) := by
  have hlt := (List.getElem?_eq_some_iff.1 hi).1
  obtain ⟨ad, u, e, hu, hc⟩ := h.at_ hlt
  unfold strCells' at hu
  rw [List.getElem?_map, hi] at hu
  have hu' : strOf x = u := Option.some.inj hu
  subst hu'
  exact ⟨ad, e, hc⟩

set_option maxRecDepth 100000 in
set_option maxHeartbeats 1000000 in
theorem equalStrs_any (A B : Option Addr) (c d : Nat) (ts : List (List UInt8)) (w : World) (hx : Reads w 1 A ts.length (strCells' ts)) (hy : Reads w 1 B ts.length (strCells' ts)) (hl : ts.length ≤ 1099511627776) :
    Calls Tryd.prog 101 #[.slice A ts.length c, .slice B ts.length d] w fun e w' => e = .returned (.bool true) ∧ Bl w w' := by
  have Hx := Lib.hid hx; have Hy := Lib.hid hy
  clear hx hy
  go_enter Tryd.func101, Tryd.ntmps101
  go_wp2
  go_loopw [13] (fun v wr => ∃ k : Nat, k ≤ ts.length ∧ v = .int .i64 k ∧ Bl w wr) (fun v _ => ts.length - (intOf v).toNat)
  case atStart => exact ⟨0, Nat.zero_le _, rfl, Bl.refl _⟩
  case round =>
    obtain ⟨k, hk, rfl, hbr⟩ := hrel
    by_cases hlt : k < ts.length
    · have hg : ts[k]? = some ts[k] := List.getElem?_eq_getElem hlt
      obtain ⟨s, hs⟩ : ∃ s, s = ts[k] := ⟨_, rfl⟩
      rw [← hs] at hg
      obtain ⟨ad, rfl, c0⟩ := str_at (Hx.out.bl hbr) hg
      obtain ⟨bd, rfl, d0⟩ := str_at (Hy.out.bl hbr) hg
      have hi : (k : Int) < (ts.length : Int) := by omega
      clear hs hg
      go_wp2
      refine wp_region_flow [(true, 0), (true, 1), (true, 2), (true, 3), (true, 4), (true, 5), (true, 6), (true, 7), (true, 8)] (fun _ => false) (by kernel_rfl) (by kernel_rfl) (by kernel_rfl) (by kernel_rfl) ?_
      iterate 2
        apply Flow.mv _ rfl
        · intro K' hK'
          simp only [Act.put, Act.eval, List.setIfInBounds_toArray, List.set_cons_zero, List.set_cons_succ, arr_getD, List.getD_cons_zero, List.getD_cons_succ]
          exact hK'
      iterate 1
        apply Flow.calm2 _ _ rfl rfl
        · intro w' hb' K' hK'
          obtain ⟨hc', hf'⟩ := hb'.rule
          go_simp
          try go_ints
          exact hK'
        · intro K' hK'
          simp only [Act.put, List.setIfInBounds_toArray, List.set_cons_zero, List.set_cons_succ]
          exact hK'
      iterate 1
        apply Flow.calm2 _ _ rfl rfl
        · intro w' hb' K' hK'
          obtain ⟨hc', hf'⟩ := hb'.rule
          go_simp
          try go_ints
          exact hK'
        · intro K' hK'
          simp only [Act.put, List.setIfInBounds_toArray, List.set_cons_zero, List.set_cons_succ]
          exact hK'
      iterate 2
        apply Flow.mv _ rfl
        · intro K' hK'
          simp only [Act.put, Act.eval, List.setIfInBounds_toArray, List.set_cons_zero, List.set_cons_succ, arr_getD, List.getD_cons_zero, List.getD_cons_succ]
          exact hK'
      iterate 1
        apply Flow.calm2 _ _ rfl rfl
        · intro w' hb' K' hK'
          obtain ⟨hc', hf'⟩ := hb'.rule
          go_simp
          try go_ints
          exact hK'
        · intro K' hK'
          simp only [Act.put, List.setIfInBounds_toArray, List.set_cons_zero, List.set_cons_succ]
          exact hK'
      iterate 1
        apply Flow.calm2 _ _ rfl rfl
        · intro w' hb' K' hK'
          obtain ⟨hc', hf'⟩ := hb'.rule
          go_simp
          try go_ints
          exact hK'
        · intro K' hK'
          simp only [Act.put, List.setIfInBounds_toArray, List.set_cons_zero, List.set_cons_succ]
          exact hK'
      iterate 1
        apply Flow.calm2 _ _ rfl rfl
        · intro w' hb' K' hK'
          obtain ⟨hc', hf'⟩ := hb'.rule
          go_simp
          try go_ints
          exact hK'
        · intro K' hK'
          simp only [Act.put, List.setIfInBounds_toArray, List.set_cons_zero, List.set_cons_succ]
          exact hK'
      refine Flow.done ?_
      go_wp2
      exact ⟨⟨k + 1, hlt, by go_num, hbr.drew⟩, by simp [intOf]; omega⟩
    · go_wp2
      go_ret
      exact ⟨rfl, hbr⟩

end Go.Proofs.YtkhajhcfplicpaaDoor


/-! bedref2.FitOf. -/
namespace Go.Proofs.YtkhajhcfplicpaaDoor
open Go.RowKit Go.Shelf

theorem cat_ba (a b : List UInt8) : (ByteArray.mk a.toArray ++ ByteArray.mk b.toArray) = ByteArray.mk (a ++ b).toArray := by
  apply ByteArray.ext
  simp [ByteArray.data_append]
theorem cat_word (l w : List UInt8) : (ByteArray.mk l.toArray ++ ByteArray.mk #[32]) ++ ByteArray.mk w.toArray = ByteArray.mk (l ++ 32 :: w).toArray := by
  rw [show ByteArray.mk #[32] = ByteArray.mk [32].toArray from rfl, cat_ba, cat_ba]
  simp
theorem cat_word2 (l w : List UInt8) : ByteArray.mk l.toArray ++ (ByteArray.mk #[32] ++ ByteArray.mk w.toArray) = ByteArray.mk (l ++ 32 :: w).toArray := by
  rw [show ByteArray.mk #[32] = ByteArray.mk [32].toArray from rfl, cat_ba, cat_ba]
  simp
theorem own_at {w : World} {base : Nat} {e : TypeId} {n g cap : Nat} {xs : List Value} (h : w.ownsRow base e 1 (.slice (some ⟨g, 0, none⟩) n cap) n xs) {j : Nat} {u : Value} (hj : xs[j]? = some u) : w.cell? ⟨g, j, none⟩ = some u := by
  obtain ⟨A, c, e2, hr⟩ := own_reads h
  injection e2 with e1 _ _
  subst e1
  have hlt : j < xs.length := (List.getElem?_eq_some_iff.1 hj).1
  have hn : 0 < n := by
    rcases Nat.eq_zero_or_pos n with h0 | h0
    · have := hr.1; rw [h0, Nat.zero_mul] at this; omega
    · exact h0
  obtain ⟨ad, e3, hc⟩ := hr.2 hn
  injection e3 with e3
  subst e3
  have := hc j u hj
  rwa [add_flat] at this
theorem words_len {ls : List Ltr} {t : List UInt8} (h : textErr ls t = 0) : (wordsOf t).length ≤ 201 := by
  obtain ⟨h1, -⟩ := textErr_zero h
  obtain ⟨-, h2, -⟩ := lineErr_zero h1
  have key : ∀ (ws : List (List UInt8)), ws.length ≤ (joinW ws).length + 1 := by
    intro ws
    induction ws with
    | nil => simp
    | cons x l ih =>
      cases l with
      | nil => simp
      | cons y l =>
        show (y :: l).length + 1 ≤ (x ++ 32 :: joinW (y :: l)).length + 1
        rw [List.length_append, List.length_cons (a := 32)]
        omega
  have h3 := key (wordsOf t)
  rw [(wordsOf_spec _ t (Nat.le_refl _)).2.1] at h3
  omega
theorem fit_len (ls : List Ltr) (gap sp : Nat) (most : Int) (ws : List (List UInt8)) : ∀ i, i ≤ ws.length → (fitTo ls gap sp most ws i).length ≤ i
  | 0, _ => Nat.le_refl _
  | i + 1, hi => by
    have ih := fit_len ls gap sp most ws i (by omega)
    rw [fitTo_succ (List.getElem?_eq_getElem (by omega))]
    rcases List.eq_nil_or_concat (fitTo ls gap sp most ws i) with e | ⟨pre, l, e⟩
    · rw [e, fitStep_nil]; simp
    · rw [List.concat_eq_append] at e
      rw [e] at ih ⊢
      rw [fitStep_last]
      rw [List.length_append] at ih
      simp at ih
      split <;> simp <;> omega

set_option maxRecDepth 100000 in
set_option maxHeartbeats 1000000 in
theorem fitOf_any (nm : List UInt8) (ht gap sp : Nat) (adl : Addr) (c : Nat) (ls : List Ltr) (t : List UInt8) (most : Int) (w : World) (hL : LtrsAt w (some adl) ls) (hR : Right ht gap sp ls) (hte : textErr ls t = 0) (hv : SubOk w) :
    Calls Tryd.prog 102 #[.agg #[.string ⟨nm.toArray⟩, .int .i64 ht, .int .i64 gap, .int .i64 sp, .slice (some adl) ls.length c], .string ⟨t.toArray⟩, .int .i64 most] w fun e w' => ∃ v, e = .returned v ∧ w'.ownsRow w.heap.size 9 1 v (fitTo ls gap sp most (wordsOf t) (wordsOf t).length).length (strCells' (fitTo ls gap sp most (wordsOf t) (wordsOf t).length)) ∧ Bl w w' := by
  let w2 := (w).alloc (.cells #[.string ⟨nm.toArray⟩, .int .i64 ht, .int .i64 gap, .int .i64 sp, .slice (some adl) ls.length c] 67)
  have w2b : Bl w w2 := (Bl.refl w).alloc _
  have w21 : Blk w2 (w.heap.size) 67 #[.string ⟨nm.toArray⟩, .int .i64 ht, .int .i64 gap, .int .i64 sp, .slice (some adl) ls.length c] := by
    have h0 := Blk.new (w) 67 #[.string ⟨nm.toArray⟩, .int .i64 ht, .int .i64 gap, .int .i64 sp, .slice (some adl) ls.length c]
    exact h0
  have lw2 : w2.heap.size = w.heap.size + 1 := by simp [w2]
  have HL := Lib.hid (hL.bl w2b); have HR := Lib.hid hR; have HTe := Lib.hid hte
  have htl := (lineErr_zero (textErr_zero hte).1).2.1
  have hsp := split_any t w2 (by omega) (hv.bl w2b)
  have hwl := words_len hte
  obtain ⟨ws, hws⟩ : ∃ ws, ws = wordsOf t := ⟨_, rfl⟩
  rw [← hws] at hsp hwl
  have Hsp := Lib.hid hsp; have HWs := Lib.hid hws
  clear hL hR hv hte hsp hws
  go_enter Tryd.func102, Tryd.ntmps102
  go_wp2_with fail
  refine Hsp.out.mono ?_
  rintro e w3 ⟨sc, rfl, hrd, hb3⟩
  clear_value w2
  have HRd := Lib.hid hrd
  have hle3 := hb3.le
  have h0 : w3.ownsRow w3.heap.size 9 1 (.slice none 0 0) (fitTo ls gap sp most ws 0).length (strCells' (fitTo ls gap sp most ws 0)) := World.ownsRow_nil _ _ _ _
  have H0 := Lib.hid h0
  clear hrd Hsp h0
  go_wp2_with fail
  go_loopw [14, 7] (fun u v wr => ∃ i : Nat, i ≤ ws.length ∧ u = .int .i64 i ∧ Bl w3 wr ∧ wr.ownsRow w3.heap.size 9 1 v (fitTo ls gap sp most ws i).length (strCells' (fitTo ls gap sp most ws i))) (fun u _ _ => ws.length - (RowKit.intOf u).toNat)
  case atStart => exact ⟨0, Nat.zero_le _, rfl, Bl.refl _, H0.out⟩
  case round =>
    obtain ⟨i, hi, rfl, hbr, hown⟩ := hrel
    obtain ⟨R1, c1, rfl, -, -⟩ := own_new hown
    have hfl := fit_len ls gap sp most ws i hi
    obtain ⟨n, hn⟩ : ∃ n, n = (fitTo ls gap sp most ws i).length := ⟨_, rfl⟩
    rw [← hn] at hfl
    have HOw := Lib.hid (show wr.ownsRow w3.heap.size 9 1 (.slice R1 n c1) n (strCells' (fitTo ls gap sp most ws i)) by rw [hn]; exact hown)
    rw [← hn]
    have HNn := Lib.hid hn
    clear hown hn
    have k1 := (w21.bl (hb3.trans hbr)).all5
    by_cases hlt : i < ws.length
    · have hg : ws[i]? = some ws[i] := List.getElem?_eq_getElem hlt
      obtain ⟨x, hx⟩ : ∃ x, x = ws[i] := ⟨_, rfl⟩
      rw [← hx] at hg
      have hst := fitTo_succ (ls := ls) (gap := gap) (sp := sp) (most := most) hg
      obtain ⟨adw, hR0, c0⟩ := str_at (HRd.out.bl hbr) hg
      injection hR0 with hR0
      subst hR0
      rw [add_flat, lw2] at c0
      have HSt := Lib.hid hst; have HG := Lib.hid hg
      clear hst hg hx
      rcases List.eq_nil_or_concat (fitTo ls gap sp most ws i) with hnil | ⟨pre, l, hpre⟩
      · have hn0 : n = 0 := by rw [HNn.out, hnil]; rfl
        subst hn0
        have HN := Lib.hid (show fitTo ls gap sp most ws (i + 1) = [x] by rw [HSt.out, hnil]; rfl)
        have hcs : strCells' (fitTo ls gap sp most ws i) = [] := by rw [hnil]; rfl
        have HOw2 := Lib.hid (show wr.ownsRow w3.heap.size 9 1 (.slice R1 0 c1) 0 [] by rw [← hcs]; exact HOw.out)
        clear hnil hcs HOw
        go_upto_region 6 with fail
        refine wp_region_flow [(true, 0), (true, 1), (true, 2), (true, 3), (true, 4), (true, 5), (true, 6), (true, 7), (true, 8), (true, 9), (true, 10), (true, 12), (false, 11), (true, 13), (true, 14)] (fun _ => false) (by kernel_rfl) (by kernel_rfl) (by kernel_rfl) (by kernel_rfl) ?_
        iterate 1
          apply Flow.mv _ rfl
          · intro K' hK'
            simp only [Act.put, Act.eval, List.setIfInBounds_toArray, List.set_cons_zero, List.set_cons_succ, arr_getD, List.getD_cons_zero, List.getD_cons_succ]
            exact hK'
        iterate 1
          apply Flow.calm2 _ _ rfl rfl
          · intro w' hb' K' hK'
            obtain ⟨hc', hf'⟩ := hb'.rule
            go_simp
            try go_ints
            exact hK'
          · intro K' hK'
            simp only [Act.put, List.setIfInBounds_toArray, List.set_cons_zero, List.set_cons_succ]
            exact hK'
        iterate 1
          apply Flow.mv _ rfl
          · intro K' hK'
            simp only [Act.put, Act.eval, List.setIfInBounds_toArray, List.set_cons_zero, List.set_cons_succ, arr_getD, List.getD_cons_zero, List.getD_cons_succ]
            exact hK'
        first
          | (apply Flow.pass rfl (by rfl))
          | (apply Flow.calmG _ rfl (by rfl)
             · intro w' hb'
               obtain ⟨hc', hf'⟩ := hb'.rule
               go_simp
               all_goals (try rfl))
        simp only [Act.put, List.setIfInBounds_toArray, List.set_cons_zero, List.set_cons_succ]
        try go_ints
        first
          | (apply Flow.pass rfl (by rfl))
          | (apply Flow.calmG _ rfl (by rfl)
             · intro w' hb'
               obtain ⟨hc', hf'⟩ := hb'.rule
               go_simp
               all_goals (try rfl))
        simp only [Act.put, List.setIfInBounds_toArray, List.set_cons_zero, List.set_cons_succ]
        try go_ints
        first
          | (apply Flow.pass rfl (by rfl))
          | (apply Flow.calmG _ rfl (by rfl)
             · intro w' hb'
               obtain ⟨hc', hf'⟩ := hb'.rule
               go_simp
               all_goals (try rfl))
        simp only [Act.put, List.setIfInBounds_toArray, List.set_cons_zero, List.set_cons_succ]
        try go_ints
        first
          | (apply Flow.pass rfl (by rfl))
          | (apply Flow.calmG _ rfl (by rfl)
             · intro w' hb'
               obtain ⟨hc', hf'⟩ := hb'.rule
               go_simp
               all_goals (try rfl))
        simp only [Act.put, List.setIfInBounds_toArray, List.set_cons_zero, List.set_cons_succ]
        try go_ints
        first
          | (apply Flow.pass rfl (by rfl))
          | (apply Flow.calmG _ rfl (by rfl)
             · intro w' hb'
               obtain ⟨hc', hf'⟩ := hb'.rule
               go_simp
               all_goals (try rfl))
        simp only [Act.put, List.setIfInBounds_toArray, List.set_cons_zero, List.set_cons_succ]
        try go_ints
        first
          | (apply Flow.pass rfl (by rfl))
          | (apply Flow.calmG _ rfl (by rfl)
             · intro w' hb'
               obtain ⟨hc', hf'⟩ := hb'.rule
               go_simp
               all_goals (try rfl))
        simp only [Act.put, List.setIfInBounds_toArray, List.set_cons_zero, List.set_cons_succ]
        try go_ints
        first
          | (apply Flow.pass rfl (by rfl))
          | (apply Flow.calmG _ rfl (by rfl)
             · intro w' hb'
               obtain ⟨hc', hf'⟩ := hb'.rule
               go_simp
               all_goals (try rfl))
        simp only [Act.put, List.setIfInBounds_toArray, List.set_cons_zero, List.set_cons_succ]
        try go_ints
        first
          | (apply Flow.pass rfl (by rfl))
          | (apply Flow.calmG _ rfl (by rfl)
             · intro w' hb'
               obtain ⟨hc', hf'⟩ := hb'.rule
               go_simp
               all_goals (try rfl))
        simp only [Act.put, List.setIfInBounds_toArray, List.set_cons_zero, List.set_cons_succ]
        try go_ints
        first
          | (apply Flow.pass rfl (by rfl))
          | (apply Flow.calmG _ rfl (by rfl)
             · intro w' hb'
               obtain ⟨hc', hf'⟩ := hb'.rule
               go_simp
               all_goals (try rfl))
        simp only [Act.put, List.setIfInBounds_toArray, List.set_cons_zero, List.set_cons_succ]
        try go_ints
        -- a guarded mover
        apply Flow.move rfl
        go_wp2_with fail
        refine ⟨fun _ => Bl.refl _, ?_⟩
        first
          | (apply Flow.pass rfl (by rfl))
          | (apply Flow.calmG _ rfl (by rfl)
             · intro w' hb'
               obtain ⟨hc', hf'⟩ := hb'.rule
               go_simp
               all_goals (try rfl))
        simp only [Act.put, List.setIfInBounds_toArray, List.set_cons_zero, List.set_cons_succ]
        try go_ints
        iterate 1
          apply Flow.calm2 _ _ rfl rfl
          · intro w' hb' K' hK'
            obtain ⟨hc', hf'⟩ := hb'.rule
            go_simp
            try go_ints
            exact hK'
          · intro K' hK'
            simp only [Act.put, List.setIfInBounds_toArray, List.set_cons_zero, List.set_cons_succ]
            exact hK'
        refine Flow.done ?_
        go_wp2_with (at_builtin; refine wpList_append_one (w1 := w3) rfl (.tmp 44) (.tmp 46) 93 rfl 9 (.string ByteArray.empty) 16 Tryd.underlying93 info_str rfl w3.heap.size _ 0 [] rfl (.string ⟨x.toArray⟩) rfl rfl hbr.drew (Nat.le_refl _) (by have := hbr.le; first | omega | (simp; omega)) (own_bl HOw2.out (Bl.refl _).drew) (by omega) (by unfold maxLen; omega) ?_; intro v' w8 hown8 hb8 hg8)
        have h9 : w8.ownsRow w3.heap.size 9 1 v' (fitTo ls gap sp most ws (i + 1)).length (strCells' (fitTo ls gap sp most ws (i + 1))) := by rw [HN.out]; exact hown8
        have H9 := Lib.hid h9; have HB8 := Lib.hid hb8
        clear h9 hown8 hb8 hg8
        go_wp2_with fail
        exact ⟨⟨i + 1, hlt, by go_num, HB8.out, H9.out⟩, by simp [RowKit.intOf] <;> omega⟩
      · rw [List.concat_eq_append] at hpre
        obtain ⟨N, hN⟩ : ∃ N, N = pre.length := ⟨_, rfl⟩
        have hn1 : n = N + 1 := by rw [HNn.out, hpre, hN, List.length_append]; rfl
        have hr := fit_right HR.out.texts (gap := gap) (sp := sp) (most := most) HTe.out (i := i) (w := x) (by rw [← HWs.out]; exact HG.out) (pre := pre) (l := l) (by rw [← HWs.out]; exact hpre)
        obtain ⟨-, y, hy⟩ := textErr_zero hr.1
        have hr2 := hr.2
        rw [List.length_append, List.length_cons] at hr2
        have hll : l.length ≤ 200 := by omega
        have hxl : x.length ≤ 200 := by omega
        have hsl : (⟨l.toArray⟩ : ByteArray).size = l.length := Lib.size_mk l
        have hsx : (⟨x.toArray⟩ : ByteArray).size = x.length := Lib.size_mk x
        have hs1 : ¬ (9223372036854775807 < l.length + 1) := by omega
        have hs2 : ¬ (9223372036854775807 < l.length + 1 + x.length) := by omega
        have hs3 : ¬ (9223372036854775807 < 1 + x.length) := by omega
        have hs4 : ¬ (9223372036854775807 < l.length + (1 + x.length)) := by omega
        have hwd := fun wx (hx : Bl w2 wx) => widthOf_any nm ht gap sp adl c ls (l ++ 32 :: x) y wx (HL.out.bl hx) HR.out (by omega) hy
        have hwo : wideOf ls gap sp (l ++ 32 :: x) = (goAll ls gap sp (0, false) y).1 := by unfold wideOf; rw [itemsOf_some hy]
        rw [← hwo] at hwd
        obtain ⟨V, hV⟩ : ∃ V, V = wideOf ls gap sp (l ++ 32 :: x) := ⟨_, rfl⟩
        rw [← hV] at hwd
        have hst := HSt.out
        rw [hpre, fitStep_last, ← hV] at hst
        obtain ⟨g, cap, e, hgB, -⟩ := own_some HOw.out (by omega)
        injection e with q1 _ q3
        subst q1
        subst q3
        have hxs : strCells' (fitTo ls gap sp most ws i) = strCells' pre ++ [strOf l] := by rw [hpre]; unfold strCells'; rw [List.map_append]; rfl
        have hown := HOw.out
        rw [hxs] at hown
        have hpl : (strCells' pre).length = N := by rw [hN]; unfold strCells'; rw [List.length_map]
        have hcl : wr.cell? ⟨g, N, none⟩ = some (.string ⟨l.toArray⟩) := own_at hown (by rw [List.getElem?_append_right (by omega), hpl, Nat.sub_self]; rfl)
        have hfz := (own_blk hown).2
        have hk1 : (n : Int) - 1 = (N : Int) := by omega
        have hkn : (N : Int) < (n : Int) := by omega
        have hcat := cat_word l x
        have hcat2 := cat_word2 l x
        have Hwd := Lib.hid hwd; have HSt2 := Lib.hid hst; have HOw3 := Lib.hid hown; have HPl := Lib.hid hpl; have HNN := Lib.hid hn1; have HPre := Lib.hid hN
        clear hwd hwo hV hy hr hpre hst hxs hown hpl hn1 hN HOw
        have hbrr := hb3.trans hbr
        by_cases hm : (V : Int) ≤ most
        · have HE := Lib.hid (HSt2.out.trans (if_pos hm))
          go_upto_region 6 with fail
          refine wp_region_flow [(true, 0), (true, 1), (true, 2), (true, 3), (true, 4), (true, 5), (true, 6), (true, 7), (true, 8), (true, 9), (true, 10), (true, 12), (false, 11), (true, 13), (true, 14)] (fun _ => false) (by kernel_rfl) (by kernel_rfl) (by kernel_rfl) (by kernel_rfl) ?_
          iterate 1
            apply Flow.mv _ rfl
            · intro K' hK'
              simp only [Act.put, Act.eval, List.setIfInBounds_toArray, List.set_cons_zero, List.set_cons_succ, arr_getD, List.getD_cons_zero, List.getD_cons_succ]
              exact hK'
          iterate 1
            apply Flow.calm2 _ _ rfl rfl
            · intro w' hb' K' hK'
              obtain ⟨hc', hf'⟩ := hb'.rule
              go_simp
              try go_ints
              exact hK'
            · intro K' hK'
              simp only [Act.put, List.setIfInBounds_toArray, List.set_cons_zero, List.set_cons_succ]
              exact hK'
          iterate 1
            apply Flow.mv _ rfl
            · intro K' hK'
              simp only [Act.put, Act.eval, List.setIfInBounds_toArray, List.set_cons_zero, List.set_cons_succ, arr_getD, List.getD_cons_zero, List.getD_cons_succ]
              exact hK'
          first
            | (apply Flow.pass rfl (by rfl))
            | (apply Flow.calmG _ rfl (by rfl)
               · intro w' hb'
                 obtain ⟨hc', hf'⟩ := hb'.rule
                 go_simp
                 all_goals (try rfl))
          simp only [Act.put, List.setIfInBounds_toArray, List.set_cons_zero, List.set_cons_succ]
          try go_ints
          first
            | (apply Flow.pass rfl (by rfl))
            | (apply Flow.calmG _ rfl (by rfl)
               · intro w' hb'
                 obtain ⟨hc', hf'⟩ := hb'.rule
                 go_simp
                 all_goals (try rfl))
          simp only [Act.put, List.setIfInBounds_toArray, List.set_cons_zero, List.set_cons_succ]
          try go_ints
          first
            | (apply Flow.pass rfl (by rfl))
            | (apply Flow.calmG _ rfl (by rfl)
               · intro w' hb'
                 obtain ⟨hc', hf'⟩ := hb'.rule
                 go_simp
                 all_goals (try rfl))
          simp only [Act.put, List.setIfInBounds_toArray, List.set_cons_zero, List.set_cons_succ]
          try go_ints
          first
            | (apply Flow.pass rfl (by rfl))
            | (apply Flow.calmG _ rfl (by rfl)
               · intro w' hb'
                 obtain ⟨hc', hf'⟩ := hb'.rule
                 go_simp
                 all_goals (try rfl))
          simp only [Act.put, List.setIfInBounds_toArray, List.set_cons_zero, List.set_cons_succ]
          try go_ints
          first
            | (apply Flow.pass rfl (by rfl))
            | (apply Flow.calmG _ rfl (by rfl)
               · intro w' hb'
                 obtain ⟨hc', hf'⟩ := hb'.rule
                 go_simp
                 all_goals (try rfl))
          simp only [Act.put, List.setIfInBounds_toArray, List.set_cons_zero, List.set_cons_succ]
          try go_ints
          first
            | (apply Flow.pass rfl (by rfl))
            | (apply Flow.calmG _ rfl (by rfl)
               · intro w' hb'
                 obtain ⟨hc', hf'⟩ := hb'.rule
                 go_simp
                 all_goals (try rfl))
          simp only [Act.put, List.setIfInBounds_toArray, List.set_cons_zero, List.set_cons_succ]
          try go_ints
          first
            | (apply Flow.pass rfl (by rfl))
            | (apply Flow.calmG _ rfl (by rfl)
               · intro w' hb'
                 obtain ⟨hc', hf'⟩ := hb'.rule
                 go_simp
                 all_goals (try rfl))
          simp only [Act.put, List.setIfInBounds_toArray, List.set_cons_zero, List.set_cons_succ]
          try go_ints
          first
            | (apply Flow.pass rfl (by rfl))
            | (apply Flow.calmG _ rfl (by rfl)
               · intro w' hb'
                 obtain ⟨hc', hf'⟩ := hb'.rule
                 go_simp
                 all_goals (try rfl))
          simp only [Act.put, List.setIfInBounds_toArray, List.set_cons_zero, List.set_cons_succ]
          try go_ints
          first
            | (apply Flow.pass rfl (by rfl))
            | (apply Flow.calmG _ rfl (by rfl)
               · intro w' hb'
                 obtain ⟨hc', hf'⟩ := hb'.rule
                 go_simp
                 all_goals (try rfl))
          simp only [Act.put, List.setIfInBounds_toArray, List.set_cons_zero, List.set_cons_succ]
          try go_ints
          -- a guarded mover
          apply Flow.move rfl
          go_wp2_with fail
          refine (Hwd.out _ (hbrr.trans (Bl.refl _).drew)).mono ?_
          rintro e w6 ⟨rfl, HB1⟩
          go_wp2_with fail
          refine ⟨fun _ => (by first | exact HB1 | exact Bl.refl _), ?_⟩
          first
            | (apply Flow.pass rfl (by rfl))
            | (apply Flow.calmG _ rfl (by rfl)
               · intro w' hb'
                 obtain ⟨hc', hf'⟩ := hb'.rule
                 go_simp
                 all_goals (try rfl))
          simp only [Act.put, List.setIfInBounds_toArray, List.set_cons_zero, List.set_cons_succ]
          try go_ints
          iterate 1
            apply Flow.calm2 _ _ rfl rfl
            · intro w' hb' K' hK'
              obtain ⟨hc', hf'⟩ := hb'.rule
              go_simp
              try go_ints
              exact hK'
            · intro K' hK'
              simp only [Act.put, List.setIfInBounds_toArray, List.set_cons_zero, List.set_cons_succ]
              exact hK'
          refine Flow.done ?_
          have hbl : Bl wr w6 := Bl.ofDrew HB1
          have ho6 := own_bl HOw3.out hbl
          have hcl6 := hbl.at hcl
          have hfz6 := (own_blk ho6).2
          have hset := ownsRow_set ho6 N (strOf (l ++ 32 :: x))
          rw [List.set_append_right _ _ (by have := HPl.out; omega), HPl.out, Nat.sub_self] at hset
          have h9 : (w6.setCell ⟨g, N, none⟩ (strOf (l ++ 32 :: x))).ownsRow w3.heap.size 9 1 (.slice (some ⟨g, 0, none⟩) n c1) (fitTo ls gap sp most ws (i + 1)).length (strCells' (fitTo ls gap sp most ws (i + 1))) := by
            rw [HE.out]
            have e1 : (pre ++ [l ++ 32 :: x]).length = n := by rw [List.length_append, ← HPre.out, HNN.out]; rfl
            have e2 : strCells' (pre ++ [l ++ 32 :: x]) = strCells' pre ++ [strOf (l ++ 32 :: x)] := by unfold strCells'; rw [List.map_append]; rfl
            rw [e1, e2]
            exact hset
          have H9 := Lib.hid h9; have HBL := Lib.hid (hbr.trans hbl)
          clear h9 hset ho6 HB1 hcl hfz
          go_wp2_with fail
          exact ⟨⟨i + 1, hlt, by go_num, HBL.out.setCell hgB _, H9.out⟩, by simp [RowKit.intOf] <;> omega⟩
        · have HE := Lib.hid (HSt2.out.trans (if_neg hm))
          go_upto_region 6 with fail
          refine wp_region_flow [(true, 0), (true, 1), (true, 2), (true, 3), (true, 4), (true, 5), (true, 6), (true, 7), (true, 8), (true, 9), (true, 10), (true, 12), (false, 11), (true, 13), (true, 14)] (fun _ => false) (by kernel_rfl) (by kernel_rfl) (by kernel_rfl) (by kernel_rfl) ?_
          iterate 1
            apply Flow.mv _ rfl
            · intro K' hK'
              simp only [Act.put, Act.eval, List.setIfInBounds_toArray, List.set_cons_zero, List.set_cons_succ, arr_getD, List.getD_cons_zero, List.getD_cons_succ]
              exact hK'
          iterate 1
            apply Flow.calm2 _ _ rfl rfl
            · intro w' hb' K' hK'
              obtain ⟨hc', hf'⟩ := hb'.rule
              go_simp
              try go_ints
              exact hK'
            · intro K' hK'
              simp only [Act.put, List.setIfInBounds_toArray, List.set_cons_zero, List.set_cons_succ]
              exact hK'
          iterate 1
            apply Flow.mv _ rfl
            · intro K' hK'
              simp only [Act.put, Act.eval, List.setIfInBounds_toArray, List.set_cons_zero, List.set_cons_succ, arr_getD, List.getD_cons_zero, List.getD_cons_succ]
              exact hK'
          first
            | (apply Flow.pass rfl (by rfl))
            | (apply Flow.calmG _ rfl (by rfl)
               · intro w' hb'
                 obtain ⟨hc', hf'⟩ := hb'.rule
                 go_simp
                 all_goals (try rfl))
          simp only [Act.put, List.setIfInBounds_toArray, List.set_cons_zero, List.set_cons_succ]
          try go_ints
          first
            | (apply Flow.pass rfl (by rfl))
            | (apply Flow.calmG _ rfl (by rfl)
               · intro w' hb'
                 obtain ⟨hc', hf'⟩ := hb'.rule
                 go_simp
                 all_goals (try rfl))
          simp only [Act.put, List.setIfInBounds_toArray, List.set_cons_zero, List.set_cons_succ]
          try go_ints
          first
            | (apply Flow.pass rfl (by rfl))
            | (apply Flow.calmG _ rfl (by rfl)
               · intro w' hb'
                 obtain ⟨hc', hf'⟩ := hb'.rule
                 go_simp
                 all_goals (try rfl))
          simp only [Act.put, List.setIfInBounds_toArray, List.set_cons_zero, List.set_cons_succ]
          try go_ints
          first
            | (apply Flow.pass rfl (by rfl))
            | (apply Flow.calmG _ rfl (by rfl)
               · intro w' hb'
                 obtain ⟨hc', hf'⟩ := hb'.rule
                 go_simp
                 all_goals (try rfl))
          simp only [Act.put, List.setIfInBounds_toArray, List.set_cons_zero, List.set_cons_succ]
          try go_ints
          first
            | (apply Flow.pass rfl (by rfl))
            | (apply Flow.calmG _ rfl (by rfl)
               · intro w' hb'
                 obtain ⟨hc', hf'⟩ := hb'.rule
                 go_simp
                 all_goals (try rfl))
          simp only [Act.put, List.setIfInBounds_toArray, List.set_cons_zero, List.set_cons_succ]
          try go_ints
          first
            | (apply Flow.pass rfl (by rfl))
            | (apply Flow.calmG _ rfl (by rfl)
               · intro w' hb'
                 obtain ⟨hc', hf'⟩ := hb'.rule
                 go_simp
                 all_goals (try rfl))
          simp only [Act.put, List.setIfInBounds_toArray, List.set_cons_zero, List.set_cons_succ]
          try go_ints
          first
            | (apply Flow.pass rfl (by rfl))
            | (apply Flow.calmG _ rfl (by rfl)
               · intro w' hb'
                 obtain ⟨hc', hf'⟩ := hb'.rule
                 go_simp
                 all_goals (try rfl))
          simp only [Act.put, List.setIfInBounds_toArray, List.set_cons_zero, List.set_cons_succ]
          try go_ints
          first
            | (apply Flow.pass rfl (by rfl))
            | (apply Flow.calmG _ rfl (by rfl)
               · intro w' hb'
                 obtain ⟨hc', hf'⟩ := hb'.rule
                 go_simp
                 all_goals (try rfl))
          simp only [Act.put, List.setIfInBounds_toArray, List.set_cons_zero, List.set_cons_succ]
          try go_ints
          first
            | (apply Flow.pass rfl (by rfl))
            | (apply Flow.calmG _ rfl (by rfl)
               · intro w' hb'
                 obtain ⟨hc', hf'⟩ := hb'.rule
                 go_simp
                 all_goals (try rfl))
          simp only [Act.put, List.setIfInBounds_toArray, List.set_cons_zero, List.set_cons_succ]
          try go_ints
          -- a guarded mover
          apply Flow.move rfl
          go_wp2_with fail
          refine (Hwd.out _ (hbrr.trans (Bl.refl _).drew)).mono ?_
          rintro e w6 ⟨rfl, HB1⟩
          go_wp2_with fail
          refine ⟨fun _ => (by first | exact HB1 | exact Bl.refl _), ?_⟩
          first
            | (apply Flow.pass rfl (by rfl))
            | (apply Flow.calmG _ rfl (by rfl)
               · intro w' hb'
                 obtain ⟨hc', hf'⟩ := hb'.rule
                 go_simp
                 all_goals (try rfl))
          simp only [Act.put, List.setIfInBounds_toArray, List.set_cons_zero, List.set_cons_succ]
          try go_ints
          iterate 1
            apply Flow.calm2 _ _ rfl rfl
            · intro w' hb' K' hK'
              obtain ⟨hc', hf'⟩ := hb'.rule
              go_simp
              try go_ints
              exact hK'
            · intro K' hK'
              simp only [Act.put, List.setIfInBounds_toArray, List.set_cons_zero, List.set_cons_succ]
              exact hK'
          refine Flow.done ?_
          have hbl : Bl wr w6 := Bl.ofDrew HB1
          have ho6 := Lib.hid (own_bl HOw3.out hbl)
          have hb36 := hbr.trans hbl
          clear hcl hfz HB1
          go_wp2_with (at_builtin; refine wpList_append_one (w1 := w3) rfl (.tmp 44) (.tmp 46) 93 rfl 9 (.string ByteArray.empty) 16 Tryd.underlying93 info_str rfl w3.heap.size _ n (strCells' pre ++ [strOf l]) rfl (.string ⟨x.toArray⟩) rfl rfl hb36 (Nat.le_refl _) (by have := hb36.le; first | omega | (simp; omega)) ho6.out (by omega) (by unfold maxLen; omega) ?_; intro v' w8 hown8 hb8 hg8)
          have h9 : w8.ownsRow w3.heap.size 9 1 v' (fitTo ls gap sp most ws (i + 1)).length (strCells' (fitTo ls gap sp most ws (i + 1))) := by
            rw [HE.out]
            have e1 : (pre ++ [l] ++ [x]).length = n + 1 := by rw [List.length_append, List.length_append, ← HPre.out, HNN.out]; rfl
            have e2 : strCells' (pre ++ [l] ++ [x]) = strCells' pre ++ [strOf l] ++ [strOf x] := by unfold strCells'; rw [List.map_append, List.map_append]; rfl
            rw [e1, e2]
            exact hown8
          have H9 := Lib.hid h9; have HB8 := Lib.hid hb8
          clear h9 hown8 hb8 hg8
          go_wp2_with fail
          exact ⟨⟨i + 1, hlt, by go_num, HB8.out, H9.out⟩, by simp [RowKit.intOf] <;> omega⟩
    · obtain rfl : i = ws.length := by omega
      go_wp2_with fail
      go_ret
      refine ⟨_, rfl, ?_, w2b.trans (hb3.trans hbr)⟩
      rw [← HWs.out, ← HNn.out]
      have ho := HOw.out
      refine ⟨ho.1, ?_⟩
      rcases ho.2 with h2 | ⟨g, cap, cur, hv, hg, r⟩
      · exact .inl h2
      · exact .inr ⟨g, cap, cur, hv, by omega, r⟩

end Go.Proofs.YtkhajhcfplicpaaDoor
