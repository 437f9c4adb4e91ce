/- Black-and-white pages out of bytes: page.Unpack. -/
import Derived.Test.YtdbnacjdinolcaaGreatDoorMClaimFiles13
import Derived.Test.YtdbnacjdinolcaaGreatDoorMClaimFiles1
import Derived.Test.YtdbnacjdinolcaaGreatDoorMClaimFiles5
import Derived.Lib.SliceRun

namespace Go.Proofs.YtdbnacjdinolcaaGreatDoor
open Go.RowKit Go.Shelf

def p5K : List UInt8 := [80, 53]
def p5T : List UInt8 := [50, 53, 53, 10]
set_option maxRecDepth 100000 in
set_option maxHeartbeats 1000000 in
theorem bclone_any (A : Option Addr) (n c : Nat) (xs : List UInt8) (w : World) (hA : Reads w 1 A n (xs.map encB)) (hn : n ≤ 1099511627776) :
    Calls Tryz.prog 47 #[.slice A n c] w fun e w' => ∃ v, e = .returned v ∧ w'.ownsRow w.heap.size 5 1 v n (xs.map encB) ∧ Bl w w' := by
  rcases A with _ | ad
  · have h0 : n = 0 := by
      rcases Nat.eq_zero_or_pos n with h | h
      · exact h
      · obtain ⟨ad, e, _⟩ := hA.2 h; cases e
    subst h0
    have hx : xs = [] := List.eq_nil_of_length_eq_zero (by simpa using hA.1)
    subst hx
    have q22 := fun w => Lib.run_eql_slice_nil (P := Tryz.prog) w 22 _ none 0 c 0 0 Tryz.underlying22
    go_enter Tryz.func47, Tryz.ntmps47
    go_wp2_with fail
    go_ret
    exact ⟨_, rfl, World.ownsRow_nil _ _ _ _, Bl.refl _⟩
  · have HA := Lib.hid hA
    have h1 : ∀ u ∈ xs.map encB, u.oneCell' = true := fun u hu => by obtain ⟨b, _, rfl⟩ := List.mem_map.1 hu; rfl
    have H1 := Lib.hid h1
    clear hA h1
    have q22 := fun w => Lib.run_eql_slice_nil (P := Tryz.prog) w 22 _ (some ad) n c 0 0 Tryz.underlying22
    go_enter Tryz.func47, Tryz.ntmps47
    go_wp2_with (at_builtin; refine wpList_append_bl rfl (.tmp 5) (.tmp 6) 22 rfl 5 (.int .u8 0) 1 1 Tryz.underlying22 info_u8 rfl (by omega) w.heap.size _ 0 [] rfl ?hb (Nat.le_refl _) ?hB ?hown _ n c _ rfl ?hr H1.out ?c1 ?c2 ?_)
    case hb => exact (Bl.refl _).alloc _
    case hB => simp
    case hown => exact ⟨rfl, Or.inr ⟨w.heap.size, 0, #[], rfl, Nat.le_refl _, MapKept.heap_alloc w _ |>.1, Nat.le_refl _, Nat.zero_le _, rfl, rfl⟩⟩
    case hr => exact HA.out.bl ((Bl.refl _).alloc _)
    case c1 => unfold maxLen; omega
    case c2 => omega
    intro v' w' hown hb' _
    go_wp2_with fail
    go_ret
    exact ⟨_, rfl, hown, hb'⟩
theorem enc_one {xs : List UInt8} : ∀ u ∈ xs.map encB, u.oneCell' = true := fun u hu => by obtain ⟨b, _, rfl⟩ := List.mem_map.1 hu; rfl

/-- What page.Encode and page.Pack answer. -/
def EncRes (err : Int) (out : List UInt8) (w : World) (e : Ending) (w' : World) : Prop :=
  ∃ A n c, e = .returned (.tuple #[.slice A n c, .int .i64 err]) ∧ (err ≠ 0 → n = 0) ∧ (err = 0 → BRow w' A n c out) ∧ Bl w w'
theorem headL_len (kind tail : List UInt8) (W H : Int) (hk : kind.length ≤ 100) (ht : tail.length ≤ 100) (W0 : -9223372036854775808 ≤ W) (W1 : W ≤ 9223372036854775807) (H0 : -9223372036854775808 ≤ H) (H1 : H ≤ 9223372036854775807) : (headL kind tail W H).length ≤ 300 := by
  have h1 := itoa_len W W0 W1
  have h2 := itoa_len H H0 H1
  unfold headL
  simp only [List.length_append, List.length_cons, List.length_nil]
  omega

set_option maxRecDepth 100000 in
set_option maxHeartbeats 2000000 in
theorem encode_any (W H : Int) (G : Option Addr) (gn gc : Nat) (gs : List UInt8) (w : World) (hG : Reads w 1 G gn (gs.map encB)) (hN : NumOk w) :
    Calls Tryz.prog 7 #[.agg #[.int .i64 W, .int .i64 H, .slice G gn gc]] w (EncRes (pageErr W H gn) (canonF p5K p5T W.toNat H.toNat gs) w) := by
  let w1 := (w).alloc (.cells #[.int .i64 W, .int .i64 H, .slice G gn gc] 24)
  have w1b : Bl w w1 := (Bl.refl w).alloc _
  have w11 : Blk w1 (w.heap.size) 24 #[.int .i64 W, .int .i64 H, .slice G gn gc] := by
    have h0 := Blk.new (w) 24 #[.int .i64 W, .int .i64 H, .slice G gn gc]
    exact h0
  have HG := Lib.hid (hG.bl w1b); have HN := Lib.hid (hN.bl w1b)
  clear hG hN
  have k1 := w11.all3
  obtain ⟨E, hE⟩ : ∃ E, E = pageErr W H gn := ⟨_, rfl⟩
  have hck := fun w => checkGray_any W H G gn gc w
  rw [← hE] at hck ⊢
  have Hck := Lib.hid hck; have HE := Lib.hid hE
  clear hck hE
  by_cases he : E = 0
  · have hq : (E != 0) = false := by simp [he]
    have hp := HE.out.symm.trans he
    have hz := sizeErr_zero (pageErr_zero hp).1
    obtain ⟨W, H, rfl, rfl, rfl, u1, u2, u3⟩ := page_nat hp
    have Hu3 := Lib.hid u3
    have Hz := Lib.hid hz
    have He := Lib.hid he
    have Hhd := Lib.hid (fun w h => pageHead_any p5K p5T W H (by omega) (by omega) (by omega) (by omega) w h (by decide) (by decide))
    have Hln := Lib.hid (headL_len p5K p5T W H (by decide) (by decide) (by omega) (by omega) (by omega) (by omega))
    clear hp hz he u1 u2 u3
    go_enter Tryz.func7, Tryz.ntmps7
    go_wp2_with fail
    refine (Hck.out _).mono ?_
    rintro e w2 ⟨rfl, hb2⟩
    have k2 := (w11.bl hb2).all3
    clear k1
    go_wp2_with fail
    refine wp_region_flow [(true, 0), (true, 1), (true, 2), (true, 3), (true, 5), (true, 6), (false, 4), (false, 7), (true, 8), (true, 9)] (fun i => i == 7) (by kernel_rfl) (by kernel_rfl) (by kernel_rfl) (by kernel_rfl) ?_
    iterate 1
      apply Flow.calm2 _ _ rfl rfl
      · intro w' hb' K' hK'
        obtain ⟨hc', hf'⟩ := hb'.rule
        go_simp
        try go_ints
        exact hK'
      · intro K' hK'
        simp only [Act.put, List.setIfInBounds_toArray, List.set_cons_zero, List.set_cons_succ]
        exact hK'
    iterate 1
      apply Flow.calm2 _ _ rfl rfl
      · intro w' hb' K' hK'
        obtain ⟨hc', hf'⟩ := hb'.rule
        go_simp
        try go_ints
        exact hK'
      · intro K' hK'
        simp only [Act.put, List.setIfInBounds_toArray, List.set_cons_zero, List.set_cons_succ]
        exact hK'
    iterate 1
      apply Flow.calm2 _ _ rfl rfl
      · intro w' hb' K' hK'
        obtain ⟨hc', hf'⟩ := hb'.rule
        go_simp
        try go_ints
        exact hK'
      · intro K' hK'
        simp only [Act.put, List.setIfInBounds_toArray, List.set_cons_zero, List.set_cons_succ]
        exact hK'
    iterate 1
      apply Flow.calm2 _ _ rfl rfl
      · intro w' hb' K' hK'
        obtain ⟨hc', hf'⟩ := hb'.rule
        go_simp
        try go_ints
        exact hK'
      · intro K' hK'
        simp only [Act.put, List.setIfInBounds_toArray, List.set_cons_zero, List.set_cons_succ]
        exact hK'
    iterate 1
      apply Flow.calm2 _ _ rfl rfl
      · intro w' hb' K' hK'
        obtain ⟨hc', hf'⟩ := hb'.rule
        go_simp
        try go_ints
        exact hK'
      · intro K' hK'
        simp only [Act.put, List.setIfInBounds_toArray, List.set_cons_zero, List.set_cons_succ]
        exact hK'
    iterate 1
      apply Flow.calm2 _ _ rfl rfl
      · intro w' hb' K' hK'
        obtain ⟨hc', hf'⟩ := hb'.rule
        go_simp
        try go_ints
        exact hK'
      · intro K' hK'
        simp only [Act.put, List.setIfInBounds_toArray, List.set_cons_zero, List.set_cons_succ]
        exact hK'
    apply Flow.move rfl
    go_wp2_with fail
    refine (Hhd.out _ (HN.out.bl (hb2.drew))).mono ?_
    rintro e w3 ⟨wx, hbx, rfl, hw3⟩
    have HB1 : Bl w2.drew w3 := by rw [hw3]; exact hbx.trans (bl_bytes _ _ _)
    have hown := (ownT_bytes wx 5 (headL p5K p5T (W : Int) (H : Int)) (by unfold maxLen; have := Hln.out; omega)).mono (base' := w2.heap.size) hbx.le
    rw [← hw3] at hown
    clear hw3
    go_wp2_with fail
    refine ⟨fun _ => (by first | exact HB1 | exact Bl.refl _), ?_⟩
    apply Flow.move rfl
    refine wpList_append_T rfl (.tmp 14) (.tmp 16) 22 rfl 5 (.int .u8 0) Tryz.underlying22 info_u8 rfl w2.heap.size _ _ _ rfl (Bl.ofDrew HB1) (Nat.le_refl _) HB1.le hown _ _ _ _ rfl (HG.out.bl (hb2.trans (Bl.ofDrew HB1))) enc_one (by have := Hln.out; have := Hu3.out; omega) ?_
    intro v' w4 hown' hbw4 hg4
    go_wp2_with fail
    refine ⟨fun hcl => absurd hcl (by decide), ?_⟩
    iterate 2
      apply Flow.asg _ rfl
      · intro K' hK'
        simp only [Act.put, Act.eval, List.setIfInBounds_toArray, List.set_cons_zero, List.set_cons_succ, arr_getD, List.getD_cons_zero, List.getD_cons_succ]
        exact hK'
    refine Flow.done ?_
    go_wp2_with fail
    go_ret2
    obtain ⟨A, c, rfl, hr, hnc, hno, -⟩ := hown'.brow
    refine ⟨A, _, c, ?_, fun h => absurd He.out h, fun _ => ⟨?_, hnc, hno⟩, (w1b.trans hb2).trans hbw4⟩
    · rw [He.out]; rfl
    · rw [← List.map_append, headL_canon] at hr
      simpa using hr
  · have hq : (E != 0) = true := by simp [he]
    have He := Lib.hid he
    clear he
    go_enter Tryz.func7, Tryz.ntmps7
    go_wp2_with fail
    refine (Hck.out _).mono ?_
    rintro e w2 ⟨rfl, hb2⟩
    clear k1
    go_wp2_with fail
    go_ret2
    exact ⟨none, 0, 0, rfl, fun _ => rfl, fun h => absurd h He.out, w1b.trans hb2⟩

set_option maxRecDepth 100000 in
set_option maxHeartbeats 2000000 in
theorem encodedGray_any (W H : Nat) (G : Option Addr) (gc : Nat) (gs : List UInt8) (w : World) (hG : Reads w 1 G (W * H) (gs.map encB)) (hN : NumOk w) (hW : W ≤ 4000) (hH : H ≤ 4000) :
    Calls Tryz.prog 14 #[.agg #[.int .i64 W, .int .i64 H, .slice G (W * H) gc]] w fun e w' => ∃ A n c, e = .returned (.slice A n c) ∧ Reads w' 1 A n ((canonF p5K p5T W H gs).map encB) ∧ Bl w w' := by
  let w1 := (w).alloc (.cells #[.int .i64 W, .int .i64 H, .slice G (W * H) gc] 24)
  have w1b : Bl w w1 := (Bl.refl w).alloc _
  have w11 : Blk w1 (w.heap.size) 24 #[.int .i64 W, .int .i64 H, .slice G (W * H) gc] := by
    have h0 := Blk.new (w) 24 #[.int .i64 W, .int .i64 H, .slice G (W * H) gc]
    exact h0
  have HG := Lib.hid (hG.bl w1b); have HN := Lib.hid (hN.bl w1b)
  clear hG hN
  have k1 := w11.all3
  have hWH : W * H ≤ 16000000 := Nat.le_trans (Nat.mul_le_mul hW hH) (by decide)
  have Hhd := Lib.hid (fun w h => size_any W H (by omega) (by omega) (by omega) (by omega) w h)
  have Hln := Lib.hid (headL_len p5K p5T W H (by decide) (by decide) (by omega) (by omega) (by omega) (by omega))
  obtain ⟨sz, hsz⟩ : ∃ r : ByteArray, r = ⟨(Lib.itoa W ++ 32 :: (Lib.itoa H ++ [10])).toArray⟩ := ⟨_, rfl⟩
  have lsz : sz.size ≤ 100 := by
    have h1 := itoa_len W (by omega) (by omega)
    have h2 := itoa_len H (by omega) (by omega)
    rw [hsz, Lib.size_mk]
    simp only [List.length_append, List.length_cons, List.length_nil]
    omega
  have HL : Hid (⟨#[80, 53, 10]⟩ ++ sz ++ ⟨#[50, 53, 53, 10]⟩ = ⟨(headL p5K p5T W H).toArray⟩) := Lib.hid (by
    rw [hsz]
    show (⟨[80, 53, 10].toArray⟩ : ByteArray) ++ _ ++ ⟨[50, 53, 53, 10].toArray⟩ = _
    rw [bap, bap]
    unfold headL p5K p5T
    simp)
  rw [← hsz] at Hhd
  have hs1 : ¬ (9223372036854775807 < 3 + sz.size) := by omega
  have hs2 : ¬ (9223372036854775807 < 3 + sz.size + 4) := by omega
  have Hsz := Lib.hid hsz
  have HWH := Lib.hid hWH
  clear hsz hWH hW hH
  go_enter Tryz.func14, Tryz.ntmps14
  go_wp2_with fail
  refine wp_region_flow [(true, 0), (true, 1), (true, 2), (true, 3), (true, 8), (true, 9), (false, 4), (true, 5), (true, 6), (false, 7), (false, 10), (true, 11)] (fun i => i == 10) (by kernel_rfl) (by kernel_rfl) (by kernel_rfl) (by kernel_rfl) ?_
  iterate 1
    apply Flow.calm2 _ _ rfl rfl
    · intro w' hb' K' hK'
      obtain ⟨hc', hf'⟩ := hb'.rule
      go_simp
      try go_ints
      exact hK'
    · intro K' hK'
      simp only [Act.put, List.setIfInBounds_toArray, List.set_cons_zero, List.set_cons_succ]
      exact hK'
  iterate 1
    apply Flow.calm2 _ _ rfl rfl
    · intro w' hb' K' hK'
      obtain ⟨hc', hf'⟩ := hb'.rule
      go_simp
      try go_ints
      exact hK'
    · intro K' hK'
      simp only [Act.put, List.setIfInBounds_toArray, List.set_cons_zero, List.set_cons_succ]
      exact hK'
  iterate 1
    apply Flow.calm2 _ _ rfl rfl
    · intro w' hb' K' hK'
      obtain ⟨hc', hf'⟩ := hb'.rule
      go_simp
      try go_ints
      exact hK'
    · intro K' hK'
      simp only [Act.put, List.setIfInBounds_toArray, List.set_cons_zero, List.set_cons_succ]
      exact hK'
  iterate 1
    apply Flow.calm2 _ _ rfl rfl
    · intro w' hb' K' hK'
      obtain ⟨hc', hf'⟩ := hb'.rule
      go_simp
      try go_ints
      exact hK'
    · intro K' hK'
      simp only [Act.put, List.setIfInBounds_toArray, List.set_cons_zero, List.set_cons_succ]
      exact hK'
  iterate 1
    apply Flow.calm2 _ _ rfl rfl
    · intro w' hb' K' hK'
      obtain ⟨hc', hf'⟩ := hb'.rule
      go_simp
      try go_ints
      exact hK'
    · intro K' hK'
      simp only [Act.put, List.setIfInBounds_toArray, List.set_cons_zero, List.set_cons_succ]
      exact hK'
  iterate 1
    apply Flow.calm2 _ _ rfl rfl
    · intro w' hb' K' hK'
      obtain ⟨hc', hf'⟩ := hb'.rule
      go_simp
      try go_ints
      exact hK'
    · intro K' hK'
      simp only [Act.put, List.setIfInBounds_toArray, List.set_cons_zero, List.set_cons_succ]
      exact hK'
  apply Flow.move rfl
  go_wp2_with fail
  refine (Hhd.out _ (HN.out.bl ((Bl.refl _).drew))).mono ?_
  rintro e w3 ⟨rfl, HB1⟩
  go_wp2_with fail
  refine ⟨fun _ => (by first | exact HB1 | exact Bl.refl _), ?_⟩
  iterate 2
    apply Flow.calm2 _ _ rfl rfl
    · intro w' hb' K' hK'
      obtain ⟨hc', hf'⟩ := hb'.rule
      go_simp
      try go_ints
      exact hK'
    · intro K' hK'
      simp only [Act.put, List.setIfInBounds_toArray, List.set_cons_zero, List.set_cons_succ]
      exact hK'
  apply Flow.move rfl
  go_wp2_with fail
  rw [HL.out, Lib.run_convert_string_bytes w3 9 22 5 ⟨(headL p5K p5T W H).toArray⟩ Tryz.underlying9 Tryz.underlying22 Tryz.underlying5, Lib.size_mk]
  have HB2 : Bl w3 (Lib.bytesWorld w3 5 ⟨(headL p5K p5T W H).toArray⟩) := bl_bytes _ _ _
  have hown := ownT_bytes w3 5 (headL p5K p5T W H) (by unfold maxLen; have := Hln.out; omega)
  generalize Lib.bytesWorld w3 5 ⟨(headL p5K p5T W H).toArray⟩ = w4 at HB2 hown ⊢
  generalize grownCap w3 (headL p5K p5T W H).length 0 5 = cp4 at hown ⊢
  go_wp2_with fail
  refine ⟨fun _ => (by first | exact HB2 | exact Bl.refl _), ?_⟩
  apply Flow.move rfl
  refine wpList_append_T rfl (.tmp 10) (.tmp 12) 22 rfl 5 (.int .u8 0) Tryz.underlying22 info_u8 rfl w3.heap.size _ _ _ rfl (Bl.trans (Bl.ofDrew HB1) HB2) (by have := HB1.le; exact this) HB2.le hown _ _ _ _ rfl (HG.out.bl (Bl.trans (Bl.ofDrew HB1) HB2)) enc_one (by have := Hln.out; have := HWH.out; omega) ?_
  intro v' w5 hown' hbw5 hg5
  go_wp2_with fail
  refine ⟨fun hcl => absurd hcl (by decide), ?_⟩
  iterate 1
    apply Flow.asg _ rfl
    · intro K' hK'
      simp only [Act.put, Act.eval, List.setIfInBounds_toArray, List.set_cons_zero, List.set_cons_succ, arr_getD, List.getD_cons_zero, List.getD_cons_succ]
      exact hK'
  refine Flow.done ?_
  go_wp2_with fail
  go_ret
  obtain ⟨A, c, rfl, hr, -, -, -⟩ := hown'.brow
  refine ⟨A, _, c, rfl, ?_, w1b.trans hbw5⟩
  rw [← List.map_append, headL_canon] at hr
  exact hr
end Go.Proofs.YtdbnacjdinolcaaGreatDoor


/-! page.Pack: a black-and-white page as bytes. -/
namespace Go.Proofs.YtdbnacjdinolcaaGreatDoor
open Go.RowKit Go.Shelf

def p4K : List UInt8 := [80, 52]
/-- A row of m bytes. -/
def ByteTab (w : World) (g m : Nat) (f : Nat → Nat) : Prop := ∃ cs : Array Value, Blk w g 5 cs ∧ cs.size = m ∧ ∀ j, j < m → cs[j]? = some (.int .u8 ((f j : Nat) : Int))
theorem ByteTab.bl {w w' : World} {g m : Nat} {f : Nat → Nat} (h : ByteTab w g m f) (hb : Bl w w') : ByteTab w' g m f := let ⟨cs, h1, h2, h3⟩ := h; ⟨cs, h1.bl hb, h2, h3⟩
theorem ByteTab.congr {w : World} {g m : Nat} {f f' : Nat → Nat} (h : ByteTab w g m f) (e : ∀ j, j < m → f' j = f j) : ByteTab w g m f' := let ⟨cs, h1, h2, h3⟩ := h; ⟨cs, h1, h2, fun j hj => by rw [h3 j hj, e j hj]⟩
theorem ByteTab.made (w : World) (m : Nat) : ByteTab (w.alloc (.cells (madeCells #[.int .u8 0] m) 5)) w.heap.size m (fun _ => 0) :=
  ⟨_, Blk.new w 5 _, size_madeCells _ _, fun j hj => by simp [madeCells, hj, Nat.mod_one]⟩
theorem ByteTab.at {w : World} {g m : Nat} {f : Nat → Nat} (h : ByteTab w g m f) {j : Nat} (hj : j < m) : w.cell? ⟨g, j, none⟩ = some (.int .u8 ((f j : Nat) : Int)) ∧ w.frozen? ⟨g, j, none⟩ = false := by
  obtain ⟨cs, h1, h2, h3⟩ := h
  exact ⟨by rw [h1.cell]; exact h3 j hj, h1.frozen j⟩
theorem ByteTab.set {w : World} {g m : Nat} {f f' : Nat → Nat} (h : ByteTab w g m f) (j : Nat) (hj : j < m) (hs : ∀ k, k < m → k ≠ j → f' k = f k) : ByteTab (w.setCell ⟨g, j, none⟩ (.int .u8 ((f' j : Nat) : Int))) g m f' := by
  obtain ⟨cs, h1, h2, h3⟩ := h
  refine ⟨_, h1.set_ j _, by simpa using h2, fun k hk => ?_⟩
  by_cases e : j = k
  · subst e
    simp [h2, hj]
  · rw [Array.getElem?_setIfInBounds_ne e, h3 k hk, hs k hk (fun h => e h.symm)]
theorem ByteTab.reads {w : World} {g m : Nat} {f : Nat → Nat} (h : ByteTab w g m f) : Reads w 1 (some ⟨g, 0, none⟩) m ((List.range m).map fun j => .int .u8 ((f j : Nat) : Int)) := by
  refine ⟨by simp, fun _ => ⟨_, rfl, fun j u hu => ?_⟩⟩
  have hj : j < m := by
    have := (List.getElem?_eq_some_iff.1 hu).1
    simpa using this
  have e : (⟨g, 0, none⟩ : Addr).add j = ⟨g, j, none⟩ := by unfold Addr.add; split <;> simp_all
  rw [e, (h.at hj).1, ← hu]
  simp [hj]
theorem pack_cells (W H : Nat) (bs : List Bool) : ((List.range (longOf W * H)).map fun j => Value.int .u8 ((packTo W bs (W * H) j : Nat) : Int)) = (packB W H bs).map encB := by
  unfold packB
  rw [List.map_map]
  refine List.map_congr_left fun j hj => ?_
  rw [packTo_all W H bs (List.mem_range.1 hj)]
  show _ = Value.int .u8 ((UInt8.ofNat _).toNat : Int)
  rw [ofNat_lt (packAt_lt ..)]

set_option maxRecDepth 100000 in
set_option maxHeartbeats 4000000 in
theorem pack_any (W H : Int) (A : Option Addr) (an ac : Nat) (bs : List Bool) (w : World) (hA : Reads w 1 A an (bs.map .bool)) (hN : NumOk w) :
    Calls Tryz.prog 8 #[.agg #[.int .i64 W, .int .i64 H, .slice A an ac]] w (EncRes (pageErr W H an) (canonF p4K [] W.toNat H.toNat (packB W.toNat H.toNat bs)) w) := by
  let w1 := (w).alloc (.cells #[.int .i64 W, .int .i64 H, .slice A an ac] 27)
  have w1b : Bl w w1 := (Bl.refl w).alloc _
  have w11 : Blk w1 (w.heap.size) 27 #[.int .i64 W, .int .i64 H, .slice A an ac] := by
    have h0 := Blk.new (w) 27 #[.int .i64 W, .int .i64 H, .slice A an ac]
    exact h0
  have HA := Lib.hid (hA.bl w1b); have HN := Lib.hid (hN.bl w1b)
  clear hA hN
  have k1 := w11.all3
  obtain ⟨E, hE⟩ : ∃ E, E = pageErr W H an := ⟨_, rfl⟩
  have hck := fun w => checkBits_any W H A an ac w
  rw [← hE] at hck ⊢
  have Hck := Lib.hid hck; have HE := Lib.hid hE
  clear hck hE
  by_cases he : E = 0
  · have hq : (E != 0) = false := by simp [he]
    have hp := HE.out.symm.trans he
    have hz := sizeErr_zero (pageErr_zero hp).1
    obtain ⟨W, H, rfl, rfl, rfl, u1, u2, u3⟩ := page_nat hp
    have hW1 : 1 ≤ W := by omega
    have hH1 : 1 ≤ H := by omega
    have He := Lib.hid he
    have Hhd := Lib.hid (fun w h => pageHead_any p4K [] W H (by omega) (by omega) (by omega) (by omega) w h (by decide) (by decide))
    have Hln := Lib.hid (headL_len p4K [] W H (by decide) (by decide) (by omega) (by omega) (by omega) (by omega))
    obtain ⟨L, hL⟩ : ∃ L, L = longOf W := ⟨_, rfl⟩
    have e1 : ((W : Int) + 7) / 8 = (L : Int) := by rw [hL]; unfold longOf; omega
    have hL1 : 1 ≤ L := by rw [hL]; exact longOf_pos hW1
    have hLW : L ≤ W := by rw [hL]; unfold longOf; omega
    have hLH : L * H ≤ 1048576 := Nat.le_trans (Nat.mul_le_mul_right H hLW) u3
    have hmk := run_make_row' (P := Tryz.prog) 22 5 (.int .u8 0) 1 Tryz.underlying22 info_u8 rfl .i64 .i64 (L * H) (by omega) (by omega)
    have eLH : (L : Int) * (H : Int) = ((L * H : Nat) : Int) := by simp
    have h1 : (0:Int) ≤ (L:Int) * (H:Int) ∧ (L:Int) * (H:Int) ≤ 1048576 := by omega
    rw [← eLH] at hmk
    have hWp : ¬ (W = 0) := by omega
    have HLn := Lib.hid hL
    have HeLH := Lib.hid eLH
    clear hp hz he hL eLH
    go_enter Tryz.func8, Tryz.ntmps8
    go_wp2_with fail
    refine (Hck.out _).mono ?_
    rintro e w2 ⟨rfl, hb2⟩
    have k2 := (w11.bl hb2).all3
    have k2m := (w11.bl (hb2.alloc (.cells (madeCells #[.int .u8 0] (L * H)) 5))).all3
    clear k1
    go_wp2_with fail
    rw [e1]
    have E1 := Lib.hid e1
    clear e1
    have Hst := Lib.hid ((ByteTab.made w2 (L * H)).congr (f' := packTo W bs 0) fun j _ => packTo_zero W bs j)
    go_loopw [27] (fun u wr => ∃ i : Nat, i ≤ W * H ∧ u = .int .i64 i ∧ Bl w2 wr ∧ ByteTab wr w2.heap.size (L * H) (packTo W bs i)) (fun u _ => W * H - (intOf u).toNat)
    case atStart => exact ⟨0, Nat.zero_le _, rfl, (Bl.refl _).alloc _, Hst.out⟩
    case round =>
      clear k2 k2m hmk
      obtain ⟨i, hi, rfl, hbr, hbo⟩ := hrel
      have k1 := (w11.bl (hb2.trans hbr)).all3
      by_cases hlt : i < W * H
      · have il : (i : Int) < (W : Int) * (H : Int) := by have := Int.natCast_mul W H; omega
        obtain ⟨ad, ua, eA, hu, hca⟩ := (HA.out.bl (hb2.trans hbr)).at_ hlt
        have hua : ua = .bool (bs.getD i false) := by
          simp only [List.getElem?_map, Option.map_eq_some_iff] at hu
          obtain ⟨b, hb1, hb2⟩ := hu
          rw [← hb2, List.getD, hb1]; rfl
        clear hu
        subst hua eA
        obtain ⟨yy, hyy⟩ : ∃ y, y = i / W := ⟨_, rfl⟩
        obtain ⟨xx, hxx⟩ : ∃ x, x = i % W := ⟨_, rfl⟩
        obtain ⟨cc, hcc⟩ : ∃ c, c = xx / 8 := ⟨_, rfl⟩
        obtain ⟨rr, hrr⟩ : ∃ r, r = xx % 8 := ⟨_, rfl⟩
        have hxW : xx < W := by rw [hxx]; exact Nat.mod_lt _ hW1
        have hyH : yy < H := by rw [hyy]; exact Nat.div_lt_of_lt_mul hlt
        have hcL : cc < L := by rw [hcc, HLn.out]; exact col_lt hxW
        have hr8 : rr < 8 := by rw [hrr]; exact Nat.mod_lt _ (by decide)
        obtain ⟨va, hva⟩ : ∃ v, v = bs.getD i false := ⟨_, rfl⟩
        rw [← hva] at hca
        have Hoth := Lib.hid (fun (h : va = false) j => packTo_other (W := W) (i := i) (j := j) bs (.inl (by rw [← hva]; exact h)))
        have Hothj := Lib.hid (fun j (h : j ≠ yy * L + cc) => packTo_other (W := W) (i := i) (j := j) bs (.inr (by rw [← HLn.out, ← hyy, ← hxx, ← hcc]; exact h)))
        have Hhere := Lib.hid (fun (h : va = true) => show packTo W bs (i + 1) (yy * L + cc) = packTo W bs i (yy * L + cc) ||| 128 / 2 ^ rr by
          have := packTo_here (W := W) (i := i) bs hW1 (by rw [← hva]; exact h)
          rw [← HLn.out, ← hyy, ← hxx, ← hcc, ← hrr] at this
          exact this)
        have e2 : (i : Int) % (W : Int) = (xx : Int) := by rw [hxx]; simp
        have e3 : (i : Int) / (W : Int) = (yy : Int) := by rw [hyy]; simp
        have e4 : (xx : Int) / 8 = (cc : Int) := by rw [hcc]; simp
        have e5 : (xx : Int) % 8 = (rr : Int) := by rw [hrr]; simp
        have hjL := place_lt (W := L) (H := H) hcL hyH
        obtain ⟨j0, hj0⟩ : ∃ j, j = yy * L + cc := ⟨_, rfl⟩
        have e6 : (yy : Int) * (L : Int) + (cc : Int) = (j0 : Int) := by rw [hj0]; simp
        have e7 : (0 : Int) ≤ (yy : Int) * (L : Int) ∧ (yy : Int) * (L : Int) ≤ 1048576 := by
          have h5 := Int.natCast_mul yy L
          have h6 : yy * L ≤ L * H := by rw [Nat.mul_comm]; exact Nat.mul_le_mul_left L (by omega)
          omega
        have e8 : (j0 : Int) < (L : Int) * (H : Int) := by have := HeLH.out; omega
        rw [← hj0] at hjL Hothj Hhere
        clear hva hyy hxx hcc hrr hj0
        cases va
        · have hbo' := hbo.congr (f' := packTo W bs (i + 1)) fun j _ => Hoth.out rfl j
          have Hbo' := Lib.hid hbo'
          clear hbo hbo' Hoth Hothj Hhere
          go_wp2_with fail
          exact ⟨⟨i + 1, hlt, by go_num, hbr, Hbo'.out⟩, by simp [intOf]; omega⟩
        · obtain ⟨kc, kf⟩ := hbo.at hjL
          obtain ⟨a, ha⟩ : ∃ a, a = packTo W bs i j0 := ⟨_, rfl⟩
          obtain ⟨sv, hsv⟩ : ∃ s, s = 128 / 2 ^ rr := ⟨_, rfl⟩
          obtain ⟨q, hq'⟩ : ∃ q, q = packTo W bs (i + 1) j0 := ⟨_, rfl⟩
          have ha256 : a < 256 := by rw [ha]; exact packTo_lt ..
          have hsv256 : sv < 256 := by rw [hsv]; exact Nat.lt_of_le_of_lt (Nat.div_le_self _ _) (by decide)
          have hor : bits .or .u8 (a : Int) (128 / 2 ^ rr : Int) = (q : Int) := by
            have e : (128 / 2 ^ rr : Int) = (sv : Int) := by rw [hsv]; simp
            rw [e, u8_or_nat a sv ha256 hsv256, hq', Hhere.out rfl, ha, hsv]
          have hset := hbo.set (f' := packTo W bs (i + 1)) j0 hjL (fun k _ hk => Hothj.out k hk)
          rw [← ha] at kc
          rw [← hq'] at hset
          have Hset := Lib.hid hset
          clear hset hbo ha hsv hq' Hoth Hothj Hhere
          go_wp2_with fail
          refine wp_region_flow [(true, 0), (true, 1), (true, 2), (true, 3), (true, 4), (true, 5), (true, 6), (true, 7), (true, 8), (true, 9), (true, 10), (true, 11), (true, 12), (true, 13), (true, 14), (true, 15), (true, 16), (false, 17)] (fun i => i == 17) (by kernel_rfl) (by kernel_rfl) (by kernel_rfl) (by kernel_rfl) ?_
          iterate 2
            apply Flow.mv _ rfl
            · intro K' hK'
              simp only [Act.put, Act.eval, List.setIfInBounds_toArray, List.set_cons_zero, List.set_cons_succ, arr_getD, List.getD_cons_zero, List.getD_cons_succ]
              exact hK'
          iterate 1
            apply Flow.calm2 _ _ rfl rfl
            · intro w' hb' K' hK'
              obtain ⟨hc', hf'⟩ := hb'.rule
              go_simp
              try go_ints
              exact hK'
            · intro K' hK'
              simp only [Act.put, List.setIfInBounds_toArray, List.set_cons_zero, List.set_cons_succ]
              exact hK'
          iterate 1
            apply Flow.calm2 _ _ rfl rfl
            · intro w' hb' K' hK'
              obtain ⟨hc', hf'⟩ := hb'.rule
              go_simp
              try go_ints
              exact hK'
            · intro K' hK'
              simp only [Act.put, List.setIfInBounds_toArray, List.set_cons_zero, List.set_cons_succ]
              exact hK'
          iterate 1
            apply Flow.calm2 _ _ rfl rfl
            · intro w' hb' K' hK'
              obtain ⟨hc', hf'⟩ := hb'.rule
              go_simp
              try go_ints
              exact hK'
            · intro K' hK'
              simp only [Act.put, List.setIfInBounds_toArray, List.set_cons_zero, List.set_cons_succ]
              exact hK'
          iterate 1
            apply Flow.mv _ rfl
            · intro K' hK'
              simp only [Act.put, Act.eval, List.setIfInBounds_toArray, List.set_cons_zero, List.set_cons_succ, arr_getD, List.getD_cons_zero, List.getD_cons_succ]
              exact hK'
          iterate 1
            apply Flow.calm2 _ _ rfl rfl
            · intro w' hb' K' hK'
              obtain ⟨hc', hf'⟩ := hb'.rule
              go_simp
              try go_ints
              exact hK'
            · intro K' hK'
              simp only [Act.put, List.setIfInBounds_toArray, List.set_cons_zero, List.set_cons_succ]
              exact hK'
          iterate 1
            apply Flow.mv _ rfl
            · intro K' hK'
              simp only [Act.put, Act.eval, List.setIfInBounds_toArray, List.set_cons_zero, List.set_cons_succ, arr_getD, List.getD_cons_zero, List.getD_cons_succ]
              exact hK'
          iterate 2
            apply Flow.calm2 _ _ rfl rfl
            · intro w' hb' K' hK'
              obtain ⟨hc', hf'⟩ := hb'.rule
              go_simp
              try go_ints
              exact hK'
            · intro K' hK'
              simp only [Act.put, List.setIfInBounds_toArray, List.set_cons_zero, List.set_cons_succ]
              exact hK'
          iterate 1
            apply Flow.calm2 _ _ rfl rfl
            · intro w' hb' K' hK'
              obtain ⟨hc', hf'⟩ := hb'.rule
              go_simp
              try go_ints
              exact hK'
            · intro K' hK'
              simp only [Act.put, List.setIfInBounds_toArray, List.set_cons_zero, List.set_cons_succ]
              exact hK'
          iterate 1
            apply Flow.calm2 _ _ rfl rfl
            · intro w' hb' K' hK'
              obtain ⟨hc', hf'⟩ := hb'.rule
              go_simp
              try go_ints
              exact hK'
            · intro K' hK'
              simp only [Act.put, List.setIfInBounds_toArray, List.set_cons_zero, List.set_cons_succ]
              exact hK'
          iterate 1
            apply Flow.mv _ rfl
            · intro K' hK'
              simp only [Act.put, Act.eval, List.setIfInBounds_toArray, List.set_cons_zero, List.set_cons_succ, arr_getD, List.getD_cons_zero, List.getD_cons_succ]
              exact hK'
          iterate 3
            apply Flow.calm2 _ _ rfl rfl
            · intro w' hb' K' hK'
              obtain ⟨hc', hf'⟩ := hb'.rule
              go_simp
              try go_ints
              exact hK'
            · intro K' hK'
              simp only [Act.put, List.setIfInBounds_toArray, List.set_cons_zero, List.set_cons_succ]
              exact hK'
          iterate 1
            apply Flow.calm2 _ _ rfl rfl
            · intro w' hb' K' hK'
              obtain ⟨hc', hf'⟩ := hb'.rule
              go_simp
              try go_ints
              exact hK'
            · intro K' hK'
              simp only [Act.put, List.setIfInBounds_toArray, List.set_cons_zero, List.set_cons_succ]
              exact hK'
          refine Flow.tail _ rfl ?_
          go_wp2_with fail
          exact ⟨⟨i + 1, hlt, by go_num, hbr.drew.setCell (by simp) _, Hset.out⟩, by simp [intOf]; omega⟩
      · obtain rfl : i = W * H := by omega
        have hrd := hbo.reads
        rw [HLn.out] at hrd
        rw [pack_cells W H bs, ← HLn.out] at hrd
        have Hrd := Lib.hid hrd
        clear hrd hbo
        go_wp2_with (go_at_call 41; refine (Hhd.out _ (HN.out.bl (hb2.trans hbr))).mono ?_; rintro e w3 ⟨wx, hbx, rfl, hw3⟩; have Hw3 := Lib.hid hw3; clear hw3; refine Hid.out ?_)
        refine Lib.hid ?_
        have hw3 := Hw3.out
        have hb3 : Bl wr w3 := by rw [hw3]; exact hbx.trans (bl_bytes _ _ _)
        have hown := (ownT_bytes wx 5 (headL p4K [] (W : Int) (H : Int)) (by unfold maxLen; have := Hln.out; omega)).mono (base' := w2.heap.size) (Nat.le_trans hbr.le hbx.le)
        rw [← hw3] at hown
        clear hw3 Hw3 hbx
        have Hown := Lib.hid hown
        have Hrd3 := Lib.hid (Hrd.out.bl hb3)
        clear hown Hrd
        go_wp2_with (at_builtin; refine wpList_append_T rfl (.tmp 59) (.tmp 60) 22 rfl 5 (.int .u8 0) Tryz.underlying22 info_u8 rfl w2.heap.size _ _ _ rfl (hbr.trans hb3) (Nat.le_refl _) ?hB Hown.out _ _ _ _ rfl Hrd3.out enc_one ?hc ?_)
        case hB => exact (hbr.trans hb3).le
        case hc => have := Hln.out; omega
        intro v' w4 hown' hbw4 hg4
        go_wp2_with fail
        go_ret2
        obtain ⟨A, c, rfl, hr, hnc, hno, -⟩ := hown'.brow
        refine ⟨A, _, c, ?_, fun h => absurd He.out h, fun _ => ⟨?_, hnc, hno⟩, (w1b.trans hb2).trans hbw4⟩
        · rw [He.out]; rfl
        · rw [← List.map_append, headL_canon] at hr
          simpa using hr
  · have hq : (E != 0) = true := by simp [he]
    have He := Lib.hid he
    clear he
    go_enter Tryz.func8, Tryz.ntmps8
    go_wp2_with fail
    refine (Hck.out _).mono ?_
    rintro e w2 ⟨rfl, hb2⟩
    clear k1
    go_wp2_with fail
    go_ret2
    exact ⟨none, 0, 0, rfl, fun _ => rfl, fun h => absurd h He.out, w1b.trans hb2⟩
end Go.Proofs.YtdbnacjdinolcaaGreatDoor


/-! bedref2.PackedBits. -/
namespace Go.Proofs.YtdbnacjdinolcaaGreatDoor
open Go.RowKit Go.Shelf

set_option maxRecDepth 100000 in
set_option maxHeartbeats 1000000 in
theorem atBig_any (W H : Nat) (A : Option Addr) (c : Nat) (bs : List Bool) (x y : Int) (w : World) (hr : Reads w 1 A (W * H) (bs.map .bool)) (hW : W ≤ 10000) (hH : H ≤ 10000) :
    Calls Tryz.prog 52 #[.agg #[.int .i64 W, .int .i64 H, .slice A (W * H) c], .int .i64 x, .int .i64 y] w fun e w' => e = .returned (.bool (atI bs W H x y)) ∧ Bl w w' := by
  cases h1 : inB x 0 ((W : Int) - 1)
  case false =>
    have ha : atI bs W H x y = false := atI_out _ _ _ _ _ (by have := inB_false.1 h1; omega)
    have Ha := Lib.hid ha; clear ha hr
    go_enter Tryz.func52, Tryz.ntmps52
    go_wp2_with (go_at_call 28; refine (in_any _ _ _ _).mono ?_; rintro e w' ⟨rfl, rfl⟩)
    go_ret
    exact ⟨ret_bool Ha.out.symm, (Bl.refl _).alloc _⟩
  case true =>
    cases h2 : inB y 0 ((H : Int) - 1)
    case false =>
      have ha : atI bs W H x y = false := atI_out _ _ _ _ _ (by have := inB_false.1 h2; omega)
      have Ha := Lib.hid ha; clear ha hr
      go_enter Tryz.func52, Tryz.ntmps52
      go_wp2_with (go_at_call 28; refine (in_any _ _ _ _).mono ?_; rintro e w' ⟨rfl, rfl⟩)
      go_ret
      exact ⟨ret_bool Ha.out.symm, (Bl.refl _).alloc _⟩
    case true =>
      obtain ⟨a1, a2⟩ := inB_true.1 h1
      obtain ⟨b1, b2⟩ := inB_true.1 h2
      obtain ⟨x, rfl⟩ := Int.eq_ofNat_of_zero_le a1
      obtain ⟨y, rfl⟩ := Int.eq_ofNat_of_zero_le b1
      have hx : x < W := by omega
      have hy : y < H := by omega
      have ha := atI_in bs W H x y hx hy
      obtain ⟨ad, rfl, hc⟩ := hr.place hx hy
      have hk := place_lt hx hy
      obtain ⟨k, hkk⟩ : ∃ k, k = y * W + x := ⟨_, rfl⟩
      rw [← hkk] at hc hk
      have ek : (y : Int) * (W : Int) + (x : Int) = (k : Int) := by rw [hkk]; simp
      have hkl : (k : Int) < (W : Int) * (H : Int) := by have := Int.natCast_mul W H; omega
      have hq : (0 : Int) ≤ (y : Int) * (W : Int) ∧ (y : Int) * (W : Int) ≤ 100000000 := by
        have h5 := Int.natCast_mul y W
        have h6 := Nat.mul_le_mul (show y ≤ 10000 by omega) hW
        omega
      have hlt : ad.block < w.heap.size := by have := World.block_lt_of_cell? w _ hc; rwa [block_of_add] at this
      have hc' : ∀ o, (w.alloc o).cell? (ad.add k) = some (.bool (pix bs W x y)) := fun o => ((Bl.refl w).alloc o).at hc
      have Ha := Lib.hid ha; have Hkk := Lib.hid hkk
      clear ha hkk hr
      go_enter Tryz.func52, Tryz.ntmps52
      go_wp2_with (go_at_call 28; refine (in_any _ _ _ _).mono ?_; rintro e w' ⟨rfl, rfl⟩)
      go_ret
      exact ⟨ret_bool Ha.out.symm, (Bl.refl _).alloc _⟩

theorem shl_u8 (v : Nat) (hv : v < 128) : Op.shift .shl .u8 (v : Int) .u64 1 = pure (.int .u8 ((2 * v : Nat) : Int)) := by
  unfold Op.shift
  rw [if_neg (by decide)]
  show pure (Value.int .u8 (IntKind.u8.wrap ((v : Int) * 2 ^ (min (1 : Int).toNat 8)))) = _
  rw [show min (1 : Int).toNat 8 = 1 from rfl, IntKind.wrap_u8]
  congr 2
  omega
theorem packF_at (W H : Nat) (bs : List Bool) (c k y : Nat) (hy : y < H) : atI bs W H (((c * 8 + k : Nat)) : Int) (y : Int) = (decide (c * 8 + k < W) && pix bs W (c * 8 + k) y) := by
  by_cases h : c * 8 + k < W
  · rw [atI_in bs W H _ _ h hy, decide_eq_true h, Bool.true_and]
  · rw [atI_out bs W H _ _ (by omega), decide_eq_false h, Bool.false_and]

set_option maxRecDepth 100000 in
set_option maxHeartbeats 4000000 in
theorem packedBits_any (W H : Nat) (A : Option Addr) (ac : Nat) (bs : List Bool) (w : World) (hA : Reads w 1 A (W * H) (bs.map .bool)) (hN : NumOk w) (hW1 : 1 ≤ W) (hW : W ≤ 9999) (hH : H ≤ 9999) (hLH : longOf W * H ≤ 1048606) :
    Calls Tryz.prog 17 #[.agg #[.int .i64 W, .int .i64 H, .slice A (W * H) ac]] w fun e w' => ∃ A n c, e = .returned (.slice A n c) ∧ Reads w' 1 A n ((canonF p4K [] W H (packB W H bs)).map encB) ∧ Bl w w' := by
  let w1 := (w).alloc (.cells #[.int .i64 W, .int .i64 H, .slice A (W * H) ac] 27)
  have w1b : Bl w w1 := (Bl.refl w).alloc _
  have w11 : Blk w1 (w.heap.size) 27 #[.int .i64 W, .int .i64 H, .slice A (W * H) ac] := by
    have h0 := Blk.new (w) 27 #[.int .i64 W, .int .i64 H, .slice A (W * H) ac]
    exact h0
  have HA := Lib.hid (hA.bl w1b); have HN := Lib.hid (hN.bl w1b)
  clear hA hN
  have k1 := w11.all3
  have Hhd := Lib.hid (fun w h => size_any W H (by omega) (by omega) (by omega) (by omega) w h)
  have Hln := Lib.hid (headL_len p4K [] W H (by decide) (by decide) (by omega) (by omega) (by omega) (by omega))
  obtain ⟨sz, hsz⟩ : ∃ r : ByteArray, r = ⟨(Lib.itoa W ++ 32 :: (Lib.itoa H ++ [10])).toArray⟩ := ⟨_, rfl⟩
  have lsz : sz.size ≤ 100 := by
    have h1 := itoa_len W (by omega) (by omega)
    have h2 := itoa_len H (by omega) (by omega)
    rw [hsz, Lib.size_mk]
    simp only [List.length_append, List.length_cons, List.length_nil]
    omega
  have HL : Hid (⟨#[80, 52, 10]⟩ ++ sz = ⟨(headL p4K [] W H).toArray⟩) := Lib.hid (by
    rw [hsz]
    show (⟨[80, 52, 10].toArray⟩ : ByteArray) ++ _ = _
    rw [bap]
    unfold headL p4K
    simp)
  rw [← hsz] at Hhd
  obtain ⟨L, hL⟩ : ∃ L, L = longOf W := ⟨_, rfl⟩
  have HLn := Lib.hid (show L = longOf W ∧ W ≤ L * 8 ∧ L * 8 < W + 8 ∧ L * H ≤ 1048606 from ⟨hL, by rw [hL]; unfold longOf; omega, by rw [hL]; unfold longOf; omega, by rw [hL]; exact hLH⟩)
  obtain ⟨hd, hhd⟩ : ∃ x, x = headL p4K [] W H := ⟨_, rfl⟩
  rw [← hhd] at HL Hln
  have Hhdl := Lib.hid hhd
  have HLH := Lib.hid hLH
  clear hsz hL hLH hhd
  go_enter Tryz.func17, Tryz.ntmps17
  go_wp2_with (go_at_call 48; refine (Hhd.out _ HN.out).mono ?_; rintro e w2 ⟨rfl, hb2⟩; refine Hid.out ?_)
  refine Lib.hid ?_
  have k2 := (w11.bl hb2).all3
  clear k1
  go_wp2_with fail
  rw [HL.out, Lib.run_convert_string_bytes w2 9 22 5 ⟨hd.toArray⟩ Tryz.underlying9 Tryz.underlying22 Tryz.underlying5, Lib.size_mk]
  have hb3 : Bl w2 (Lib.bytesWorld w2 5 ⟨hd.toArray⟩) := bl_bytes _ _ _
  have hown := ownT_bytes w2 5 hd (by unfold maxLen; have := Hln.out; omega)
  generalize Lib.bytesWorld w2 5 ⟨hd.toArray⟩ = w3 at hb3 hown ⊢
  generalize grownCap w2 hd.length 0 5 = cp3 at hown ⊢
  have Hown := Lib.hid hown
  have k3 := (w11.bl (hb2.trans hb3)).all3
  clear hown k2
  go_wp2_with fail
  go_loopw [3, 17] (fun out u wr => ∃ y : Nat, y ≤ H ∧ u = .int .i64 y ∧ Bl w2 wr ∧ w2.heap.size ≤ wr.heap.size ∧ OwnT wr w2.heap.size 5 out (hd.length + y * L) ((hd ++ packTake W bs (y * L)).map encB)) (fun _ u _ => H - (intOf u).toNat)
  case atStart => exact ⟨0, Nat.zero_le _, rfl, hb3, hb3.le, by rw [Nat.zero_mul, Nat.add_zero, show packTake W bs 0 = [] from rfl, List.append_nil]; exact Hown.out⟩
  case round =>
    clear k3
    obtain ⟨y, hy, rfl, hbr, hsz, hown⟩ := hrel
    have k1 := (w11.bl (hb2.trans hbr)).all3
    by_cases hlt : y < H
    · have hyi : (y : Int) < (H : Int) := by omega
      have Hown2 := Lib.hid hown
      clear hown
      go_wp2_with fail
      go_loopw [3, 5] (fun out u wr => ∃ c : Nat, c ≤ L ∧ u = .int .i64 ((c * 8 : Nat) : Int) ∧ Bl w2 wr ∧ w2.heap.size ≤ wr.heap.size ∧ OwnT wr w2.heap.size 5 out (hd.length + (y * L + c)) ((hd ++ packTake W bs (y * L + c)).map encB)) (fun _ u _ => L * 8 - (intOf u).toNat)
      case atStart => exact ⟨0, Nat.zero_le _, by simp, hbr, hsz, Hown2.out⟩
      case round =>
        clear k1 hbr hsz Hown2
        obtain ⟨c, hc, rfl, hbr, hsz, hown⟩ := hrel
        have k1 := (w11.bl (hb2.trans hbr)).all3
        obtain ⟨x, hx⟩ : ∃ x, x = c * 8 := ⟨_, rfl⟩
        rw [← hx]
        by_cases hcl : c < L
        · have hxw : x < W := by have := HLn.out; omega
          have hxi : (x : Int) < (W : Int) := by omega
          have Hx := Lib.hid hx
          have Hown3 := Lib.hid hown
          clear hown hx
          go_wp2_with fail
          go_loopw [6, 26] (fun n u wx => ∃ k : Nat, k ≤ 8 ∧ u = .int .i64 k ∧ n = .int .u8 ((byteN (fun k => decide (c * 8 + k < W) && pix bs W (c * 8 + k) y) k : Nat) : Int) ∧ Bl wr wx) (fun _ u _ => 8 - (intOf u).toNat)
          case atStart => exact ⟨0, Nat.zero_le _, rfl, rfl, Bl.refl _⟩
          case round =>
            clear k1
            obtain ⟨k, hk, rfl, rfl, hbx⟩ := hrel
            have k1 := (w11.bl ((hb2.trans hbr).trans hbx)).all3
            obtain ⟨v, hv⟩ : ∃ v, v = byteN (fun k => decide (c * 8 + k < W) && pix bs W (c * 8 + k) y) k := ⟨_, rfl⟩
            rw [← hv]
            by_cases hk8 : k < 8
            · have hat := atBig_any W H A ac bs (((c * 8 + k : Nat)) : Int) (y : Int) _ (HA.out.bl ((hb2.trans hbr).trans hbx)) (by omega) (by omega)
              rw [packF_at W H bs c k y hlt] at hat
              have hst : byteN (fun k => decide (c * 8 + k < W) && pix bs W (c * 8 + k) y) (k + 1) = 2 * v + (decide (c * 8 + k < W) && pix bs W (c * 8 + k) y).toNat := by rw [hv]; rfl
              obtain ⟨va, hva⟩ : ∃ b, b = (decide (c * 8 + k < W) && pix bs W (c * 8 + k) y) := ⟨_, rfl⟩
              rw [← hva] at hat hst
              have hv128 : v < 128 := by
                have := byteN_lt (fun k => decide (c * 8 + k < W) && pix bs W (c * 8 + k) y) k
                have h2 : 2 ^ k ≤ 2 ^ 7 := Nat.pow_le_pow_right (by decide) (by omega)
                omega
              have hshl := shl_u8 v hv128
              have ek : ((c * 8 + k : Nat) : Int) = (x : Int) + (k : Int) := by rw [Hx.out]; simp
              rw [ek] at hat
              obtain ⟨v2, hv2⟩ : ∃ v2, v2 = 2 * v := ⟨_, rfl⟩
              rw [← hv2] at hshl hst
              have hv2b : v2 < 256 := by omega
              have hv2e : v2 < 255 := by omega
              have Hat := Lib.hid hat; have Hstp := Lib.hid hst
              clear hat hst hva hv hv2 ek
              cases va
              all_goals
                go_wp2_with fail
                refine Hat.out.mono ?_
                rintro e wz ⟨rfl, hbz⟩
                go_wp2_with fail
                exact ⟨⟨k + 1, hk8, by go_num, by rw [Hstp.out]; first | (congr 1; done) | (congr 1; simp; done) | (congr 1; simp; omega), hbx.trans hbz⟩, by simp [intOf]; omega⟩
            · obtain rfl : k = 8 := by omega
              have hvp : v = packAt W bs c y := hv
              have hv256 : v < 256 := by rw [hvp]; exact packAt_lt ..
              have Hvp := Lib.hid hvp
              have hm : hd.length + (y * L + c) + 1 ≤ 1099511627776 := by
                have h1 := Hln.out
                have h2 := HLn.out.2.2.2
                have h3 := place_lt (W := L) (H := H) hcl hlt
                omega
              have Hm := Lib.hid hm
              have hbw : Bl w2 _ := hbr.trans hbx
              clear hv hvp hm
              go_wp2_with (at_builtin; refine wpList_append_T1 rfl (.tmp 40) (.tmp 42) 22 rfl 5 (.int .u8 0) Tryz.underlying22 info_u8 rfl w2.heap.size _ _ _ rfl _ rfl rfl hbw (Nat.le_refl _) hbw.le (Hown3.out.bl hbx) Hm.out ?_)
              intro v' w5 hown' hbw5 hg5
              have hnext : OwnT w5 w2.heap.size 5 v' (hd.length + (y * L + (c + 1))) ((hd ++ packTake W bs (y * L + (c + 1))).map encB) := by
                have h := hown'
                have e : (hd ++ packTake W bs (y * L + c)).map encB ++ [Value.int .u8 (v : Int)] = (hd ++ packTake W bs (y * L + (c + 1))).map encB := by
                  have h3 := packTake_succ (W := W) bs (c := c) (y := y) (by rw [← HLn.out.1]; exact hcl)
                  rw [← HLn.out.1] at h3
                  rw [show y * L + (c + 1) = y * L + c + 1 from rfl, h3, ← List.append_assoc, List.map_append (l₁ := hd ++ _)]
                  congr 1
                  show _ = [Value.int .u8 ((UInt8.ofNat _).toNat : Int)]
                  rw [ofNat_lt (packAt_lt ..), Hvp.out]
                rw [← e, List.map_append, List.append_assoc]
                exact h
              have Hnext := Lib.hid hnext
              have hx8 : (x : Int) + 8 = (((c + 1) * 8 : Nat) : Int) := by rw [Hx.out]; omega
              have Hx8 := Lib.hid hx8
              clear hown' hnext hx8 k1
              go_wp2_with fail
              exact ⟨⟨c + 1, hcl, by rw [← Hx8.out], hbw5, hbw5.le, Hnext.out⟩, by have := Hx.out; simp [intOf]; omega⟩
        · have hcL : c = L := by omega
          have hxw : ¬ x < W := by have := HLn.out; omega
          have hxi : ¬ (x : Int) < (W : Int) := by omega
          have Hown3 := Lib.hid hown
          have HcL := Lib.hid hcL
          clear hown hx hcL
          go_wp2_with fail
          exact ⟨⟨y + 1, hlt, by go_num, hbr, hsz, by have := Hown3.out; rw [HcL.out] at this; rw [Nat.add_mul, Nat.one_mul]; exact this⟩, by simp [intOf]; omega⟩
    · obtain rfl : y = H := by omega
      have Hown2 := Lib.hid hown
      clear hown
      go_wp2_with fail
      go_ret
      obtain ⟨A', c', rfl, hr, -, -, -⟩ := Hown2.out.brow
      refine ⟨A', _, c', rfl, ?_, (w1b.trans hb2).trans hbr⟩
      have e : hd ++ packTake W bs (y * L) = canonF p4K [] W y (packB W y bs) := by
        rw [← headL_canon, ← Hhdl.out, ← packTake_all, HLn.out.1, Nat.mul_comm]
      rw [e] at hr
      exact hr
end Go.Proofs.YtdbnacjdinolcaaGreatDoor


/-! Grey pages out of bytes: page.Decode and bedref2.DecodedGray. -/
namespace Go.Proofs.YtdbnacjdinolcaaGreatDoor
open Go.RowKit Go.Shelf

def decG (f : List UInt8) : Int × Nat × Nat × List UInt8 :=
  if 1048606 < f.length then (4, 0, 0, []) else
  match headPv p5K p5T f with
  | none => (8, 0, 0, [])
  | some (W, H, rest) => if rest.length = W * H then (if sizeErr W H = 0 then (0, W, H, rest) else (sizeErr W H, 0, 0, [])) else (8, 0, 0, [])
/-- What Decode answers. -/
def GrayAns (r : Int × Nat × Nat × List UInt8) (w : World) (e : Ending) (w' : World) : Prop :=
  ∃ v, e = .returned (.tuple #[v, .int .i64 r.1]) ∧ IsPage w' v r.2.1 r.2.2.1 (r.2.2.2.map encB) ∧ Bl w w'
theorem grayAns_bad {r : Int × Nat × Nat × List UInt8} {E : Int} {w w' : World} (h : r = (E, 0, 0, [])) (hb : Bl w w') : GrayAns r w (.returned (.tuple #[.agg #[.int .i64 0, .int .i64 0, .slice none 0 0], .int .i64 E])) w' := by
  subst h
  exact ⟨_, rfl, ⟨none, 0, rfl, Reads.none_⟩, hb⟩
theorem grayAns_ok {r : Int × Nat × Nat × List UInt8} {W H n c : Nat} {A : Option Addr} {rest : List UInt8} {w w' : World} (h : r = (0, W, H, rest)) (hn : n = W * H) (hr : Reads w' 1 A n (rest.map encB)) (hb : Bl w w') : GrayAns r w (.returned (.tuple #[.agg #[.int .i64 W, .int .i64 H, .slice A n c], .int .i64 0])) w' := by
  subst h hn
  exact ⟨_, rfl, ⟨A, c, rfl, hr⟩, hb⟩
theorem fileErr_zero {kind tail f : List UInt8} (h : fileErr kind tail f = 0) : f.length ≤ 1048606 ∧ ∃ W H rest, headPv kind tail f = some (W, H, rest) := by
  unfold fileErr at h
  by_cases hb : 1048606 < f.length
  · rw [if_pos hb] at h; cases h
  · rw [if_neg hb] at h
    cases hp : headPv kind tail f with
    | none => rw [hp] at h; cases h
    | some x => exact ⟨by omega, x.1, x.2.1, x.2.2, rfl⟩
theorem fileErr_bad {kind tail f : List UInt8} (h : fileErr kind tail f ≠ 0) : (1048606 < f.length ∧ fileErr kind tail f = 4) ∨ (¬ 1048606 < f.length ∧ headPv kind tail f = none ∧ fileErr kind tail f = 8) := by
  unfold fileErr at h ⊢
  by_cases hb : 1048606 < f.length
  · exact .inl ⟨hb, by rw [if_pos hb]⟩
  · rw [if_neg hb] at h ⊢
    cases hp : headPv kind tail f with
    | none => exact .inr ⟨hb, rfl, rfl⟩
    | some x => rw [hp] at h; exact absurd rfl h
theorem decG_bad {f : List UInt8} (h : fileErr p5K p5T f ≠ 0) : decG f = (fileErr p5K p5T f, 0, 0, []) := by
  unfold decG
  rcases fileErr_bad h with ⟨h1, h2⟩ | ⟨h1, h2, h3⟩
  · rw [if_pos h1, h2]
  · rw [if_neg h1, h2, h3]
theorem decG_head {f rest : List UInt8} {W H : Nat} (hl : f.length ≤ 1048606) (h : headPv p5K p5T f = some (W, H, rest)) : decG f = if rest.length = W * H then (if sizeErr W H = 0 then (0, W, H, rest) else (sizeErr W H, 0, 0, [])) else (8, 0, 0, []) := by
  unfold decG
  rw [if_neg (by omega), h]

set_option maxRecDepth 100000 in
set_option maxHeartbeats 2000000 in
theorem decode_any (bs : List UInt8) (A : Option Addr) (n c : Nat) (w : World) (hA : BRow w A n c bs) (hN : NumOk w) (hC : CutOk w) (hl : n ≤ 9223372036854775807) :
    Calls Tryz.prog 12 #[.slice A n c] w (GrayAns (decG bs) w) := by
  let w1 := (w).alloc (.cells #[.int .i64 0, .int .i64 0, .slice none 0 0] 24)
  have w1b : Bl w w1 := (Bl.refl w).alloc _
  have w11 : Blk w1 (w.heap.size) 24 #[.int .i64 0, .int .i64 0, .slice none 0 0] := by
    have h0 := Blk.new (w) 24 #[.int .i64 0, .int .i64 0, .slice none 0 0]
    exact h0
  have lw1 : w1.heap.size = w.heap.size + 1 := by simp [w1]
  have Lw1 := Lib.hid lw1
  have hB := behind_any p5K p5T bs A n c w1 (hA.bl w1b) (hN.bl w1b) (hC.bl w1b) hl (by decide) (by decide)
  obtain ⟨E, hE⟩ : ∃ E, E = fileErr p5K p5T bs := ⟨_, rfl⟩
  have hB' : Calls Tryz.prog 45 #[.slice A n c, .string ⟨#[80, 53]⟩, .string ⟨#[50, 53, 53, 10]⟩] w1 (Behind p5K p5T bs w1) := hB
  unfold Behind at hB'
  rw [← hE] at hB'
  have HB' := Lib.hid hB'
  have HE := Lib.hid hE
  clear hA hN hC hB hB' hE lw1
  by_cases he : E = 0
  · have hq : (E != 0) = false := by simp [he]
    obtain ⟨hlen, W, H, rest, hhd⟩ := fileErr_zero (HE.out.symm.trans he)
    obtain ⟨⟨a1, a2⟩, ⟨a3, a4⟩, -⟩ := headP_iff.1 hhd
    have hWH : W * H ≤ 9999 * 9999 := Nat.mul_le_mul a2 a4
    have hDG := decG_head hlen hhd
    obtain ⟨S, hS⟩ : ∃ S, S = sizeErr W H := ⟨_, rfl⟩
    have hck := fun w => checkSize_any W H w
    rw [← hS] at hck hDG
    have Hck := Lib.hid hck
    have HS := Lib.hid hS
    have HDG := Lib.hid hDG
    have Hhd := Lib.hid hhd
    have He := Lib.hid he
    have hW4 : (0 : Int) ≤ (W : Int) * (H : Int) ∧ (W : Int) * (H : Int) ≤ 99980001 := by have := Int.natCast_mul W H; omega
    clear hck hS hDG hhd he hWH
    go_enter Tryz.func12, Tryz.ntmps12
    go_wp2_with (go_at_call 45; refine HB'.out.mono ?_; rintro e w2 ⟨v1, v2, A2, n2, c2, rfl, hres, hb2⟩; refine Hid.out ?_)
    refine Lib.hid ?_
    obtain ⟨rfl, rfl, hrow⟩ := hres W H rest Hhd.out He.out
    have hn2 := hrow.len
    have kr := (w11.bl hb2).all3
    have Hrow := Lib.hid hrow
    have Hn2 := Lib.hid hn2
    clear hrow hn2 hres
    by_cases hlw : n2 = W * H
    · have hq2 : ((n2 : Int) != (W : Int) * (H : Int)) = false := by rw [hlw]; simp
      have Hlw := Lib.hid hlw
      clear hlw
      by_cases hs : S = 0
      · have hq3 : (S != 0) = false := by simp [hs]
        have hz := sizeErr_zero (HS.out.symm.trans hs)
        have Hs := Lib.hid hs
        clear hs
        have hn40 : n2 ≤ 1099511627776 := by have := Hlw.out; have := Int.natCast_mul W H; omega
        have Hn40 := Lib.hid hn40
        clear hn40 hz
        go_wp2_with (go_at_call 46; refine (Hck.out _).mono ?_; rintro e w3 ⟨rfl, rfl⟩)
        go_wp2_with (go_at_call 47; refine (bclone_any A2 n2 c2 rest _ Hrow.out.1 Hn40.out).mono ?_; rintro e w4 ⟨v, rfl, hown, hb4⟩; refine Hid.out ?_)
        refine Lib.hid ?_
        obtain ⟨A3, c3, rfl, hr3, hr3n⟩ := own_new hown
        have kr4 := (w11.bl (hb2.trans hb4)).all3
        have hlt : w.heap.size < w2.heap.size := by have := hb2.le; have := Lw1.out; omega
        have HR := Lib.hid hr3; have HRn := Lib.hid hr3n
        clear hr3 hr3n hown kr
        go_wp2_with fail
        refine bodyPost_ret (v := .tuple #[.agg #[.int .i64 W, .int .i64 H, .slice A3 n2 c3], .int .i64 0]) (by simp [results, Tryz.results12, go_sem, kr4]) rfl ?_
        refine grayAns_ok ?_ Hlw.out (((HR.out.store HRn.out hlt _).store HRn.out hlt _).store HRn.out hlt _) ?_
        · rw [HDG.out, Hn2.out, if_pos Hlw.out, if_pos Hs.out]
        · exact ((((w1b.trans hb2).trans hb4).setCell (Nat.le_refl _) _).setCell (Nat.le_refl _) _).setCell (Nat.le_refl _) _
      · have hq3 : (S != 0) = true := by simp [hs]
        have Hs := Lib.hid hs
        clear hs
        go_wp2_with (go_at_call 46; refine (Hck.out _).mono ?_; rintro e w3 ⟨rfl, rfl⟩)
        refine bodyPost_ret (v := .tuple #[.agg #[.int .i64 0, .int .i64 0, .slice none 0 0], .int .i64 S]) (by simp [results, Tryz.results12, go_sem, kr]) rfl ?_
        refine grayAns_bad ?_ ((((w1b.trans hb2).setCell (Nat.le_refl _) _).setCell (Nat.le_refl _) _).setCell (Nat.le_refl _) _)
        rw [HDG.out, Hn2.out, if_pos Hlw.out, if_neg Hs.out]
    · have hq2 : ((n2 : Int) != (W : Int) * (H : Int)) = true := by rw [bne_iff_ne]; intro h; apply hlw; have := Int.natCast_mul W H; omega
      have Hlw := Lib.hid hlw
      clear hlw
      go_wp2_with fail
      refine bodyPost_ret (v := .tuple #[.agg #[.int .i64 0, .int .i64 0, .slice none 0 0], .int .i64 8]) (by simp [results, Tryz.results12, go_sem, kr]) rfl ?_
      refine grayAns_bad ?_ ((((w1b.trans hb2).setCell (Nat.le_refl _) _).setCell (Nat.le_refl _) _).setCell (Nat.le_refl _) _)
      rw [HDG.out, Hn2.out, if_neg Hlw.out]
  · have hq : (E != 0) = true := by simp [he]
    have HDG := Lib.hid (decG_bad (f := bs) (by rw [← HE.out]; exact he))
    clear he
    go_enter Tryz.func12, Tryz.ntmps12
    go_wp2_with (go_at_call 45; refine HB'.out.mono ?_; rintro e w2 ⟨v1, v2, A2, n2, c2, rfl, hres, hb2⟩; refine Hid.out ?_)
    refine Lib.hid ?_
    have kr := (w11.bl hb2).all3
    clear hres
    go_wp2_with fail
    refine bodyPost_ret (v := .tuple #[.agg #[.int .i64 0, .int .i64 0, .slice none 0 0], .int .i64 E]) (by simp [results, Tryz.results12, go_sem, kr]) rfl ?_
    refine grayAns_bad ?_ ((((w1b.trans hb2).setCell (Nat.le_refl _) _).setCell (Nat.le_refl _) _).setCell (Nat.le_refl _) _)
    rw [HDG.out, ← HE.out]

set_option maxRecDepth 100000 in
set_option maxHeartbeats 2000000 in
theorem decodedGray_any (bs : List UInt8) (A : Option Addr) (n c : Nat) (w : World) (hA : Reads w 1 A n (bs.map encB)) (hN : NumOk w) (hC : CutOk w) (hl : n ≤ 9223372036854775807) :
    Calls Tryz.prog 19 #[.slice A n c] w (GrayAns (decG bs) w) := by
  have hn : bs.length = n := by have := hA.1; simpa using this
  let w1 := (w).alloc (.cells #[.int .i64 0, .int .i64 0, .slice none 0 0] 24)
  have w1b : Bl w w1 := (Bl.refl w).alloc _
  have w11 : Blk w1 (w.heap.size) 24 #[.int .i64 0, .int .i64 0, .slice none 0 0] := by
    have h0 := Blk.new (w) 24 #[.int .i64 0, .int .i64 0, .slice none 0 0]
    exact h0
  have lw1 : w1.heap.size = w.heap.size + 1 := by simp [w1]
  have Lw1 := Lib.hid lw1
  clear lw1
  by_cases hbig : 1048606 < n
  · have HDG := Lib.hid (show decG bs = (4, 0, 0, []) by unfold decG; rw [if_pos (by omega)])
    have kr := w11.all3
    have HL := Lib.hid hl
    clear hA hN hC hn
    go_enter Tryz.func19, Tryz.ntmps19
    go_wp2_with fail
    refine bodyPost_ret (v := .tuple #[.agg #[.int .i64 0, .int .i64 0, .slice none 0 0], .int .i64 4]) (by simp [results, Tryz.results19, go_sem]) rfl ?_
    exact grayAns_bad HDG.out w1b
  · have hH := headR_any p5K p5T bs A n c w1 (hA.bl w1b) (hN.bl w1b) (hC.bl w1b) (by omega) (by decide)
    have hH' : Calls Tryz.prog 54 #[.slice A n c, .string ⟨#[80, 53]⟩, .string ⟨#[50, 53, 53, 10]⟩] w1 (HeadR p5K p5T bs w1) := hH
    unfold HeadR at hH'
    rw [← head_same] at hH'
    have HH := Lib.hid hH'
    have HLen := Lib.hid (show bs.length ≤ 1048606 by omega)
    clear hA hN hC hn hH hH'
    cases hhd : headPv p5K p5T bs with
    | none =>
      have HDG := Lib.hid (show decG bs = (8, 0, 0, []) by unfold decG; rw [if_neg (by have := HLen.out; omega), hhd])
      rw [hhd] at HH
      clear hhd
      go_enter Tryz.func19, Tryz.ntmps19
      go_wp2_with (go_at_call 54; refine HH.out.mono ?_; rintro e w2 ⟨v1, v2, b, r, wx, rfl, rfl, -, hbx, hw2⟩; have Hw2 := Lib.hid hw2; clear hw2; refine Hid.out ?_)
      refine Lib.hid ?_
      have hb2 : Bl w1 w2 := by rw [Hw2.out]; exact hbx.trans (bl_bytes _ _ _)
      have kr := (w11.bl hb2).all3
      clear Hw2
      go_wp2_with fail
      refine bodyPost_ret (v := .tuple #[.agg #[.int .i64 0, .int .i64 0, .slice none 0 0], .int .i64 8]) (by simp [results, Tryz.results19, go_sem, kr]) rfl ?_
      exact grayAns_bad HDG.out ((((w1b.trans hb2).setCell (Nat.le_refl _) _).setCell (Nat.le_refl _) _).setCell (Nat.le_refl _) _)
    | some x =>
      obtain ⟨W, H, rest⟩ := x
      obtain ⟨⟨a1, a2⟩, ⟨a3, a4⟩, hcan⟩ := headP_iff.1 hhd
      have hWH : W * H ≤ 9999 * 9999 := Nat.mul_le_mul a2 a4
      have hDG := decG_head HLen.out hhd
      have hrl : rest.length ≤ bs.length := by rw [hcan]; unfold canonF; simp only [List.length_append, List.length_cons]; omega
      have Hrl := Lib.hid hrl
      obtain ⟨S, hS⟩ : ∃ S, S = sizeErr W H := ⟨_, rfl⟩
      have hck := fun w => sizeError_any W H w
      rw [← hS] at hck hDG
      have Hck := Lib.hid hck
      have HDG := Lib.hid hDG
      have hW4 : (0 : Int) ≤ (W : Int) * (H : Int) ∧ (W : Int) * (H : Int) ≤ 99980001 := by have := Int.natCast_mul W H; omega
      have Hhd := Lib.hid hhd
      rw [hhd] at HH
      clear hck hS hDG hhd hWH hcan hrl
      go_enter Tryz.func19, Tryz.ntmps19
      go_wp2_with (go_at_call 54; refine HH.out.mono ?_; rintro e w2 ⟨v1, v2, b, r, wx, rfl, rfl, hres, hbx, hw2⟩; have Hw2 := Lib.hid hw2; clear hw2; refine Hid.out ?_)
      refine Lib.hid ?_
      obtain ⟨rfl, rfl, rfl⟩ := hres W H rest rfl
      have hb2 : Bl w1 w2 := by rw [Hw2.out]; exact hbx.trans (bl_bytes _ _ _)
      have hr2 : Reads w2 1 (some ⟨wx.heap.size, 0, none⟩) r.length (r.map encB) := by rw [Hw2.out]; exact reads_bytes _ _ _ (by have := Hrl.out; have := HLen.out; unfold maxLen; omega)
      have hlt : w.heap.size < wx.heap.size := by have := hbx.le; have := Lw1.out; omega
      have kr := (w11.bl hb2).all3
      have Hr2 := Lib.hid hr2
      obtain ⟨m, hm⟩ : ∃ m, m = r.length := ⟨_, rfl⟩
      rw [← hm] at Hr2 HDG ⊢
      have Hm := Lib.hid hm
      generalize grownCap wx m 0 5 = cp
      clear Hw2 hr2 hm hres HH
      by_cases hlw : m = W * H
      · have hq2 : ((m : Int) != (W : Int) * (H : Int)) = false := by rw [hlw]; simp
        have Hlw := Lib.hid hlw
        clear hlw
        by_cases hs : S = 0
        · have hq3 : (S != 0) = false := by simp [hs]
          have Hs := Lib.hid hs
          clear hs
          go_wp2_with (go_at_call 43; refine (Hck.out _).mono ?_; rintro e w3 ⟨rfl, hb3⟩; refine Hid.out ?_)
          refine Lib.hid ?_
          have kr3 := (w11.bl (hb2.trans hb3)).all3
          have HR := Lib.hid (Hr2.out.bl hb3)
          have HRn : Hid (∀ ad, some (⟨wx.heap.size, 0, none⟩ : Addr) = some ad → wx.heap.size ≤ ad.block) := Lib.hid fun ad h => by injection h with h; subst h; exact Nat.le_refl _
          clear kr
          go_wp2_with fail
          refine bodyPost_ret (v := .tuple #[.agg #[.int .i64 W, .int .i64 H, .slice (some ⟨wx.heap.size, 0, none⟩) m cp], .int .i64 0]) (by simp [results, Tryz.results19, go_sem, kr3]) rfl ?_
          refine grayAns_ok ?_ Hlw.out (((HR.out.store HRn.out hlt _).store HRn.out hlt _).store HRn.out hlt _) ?_
          · rw [HDG.out, if_pos Hlw.out, if_pos Hs.out]
          · exact ((((w1b.trans hb2).trans hb3).setCell (Nat.le_refl _) _).setCell (Nat.le_refl _) _).setCell (Nat.le_refl _) _
        · have hq3 : (S != 0) = true := by simp [hs]
          have Hs := Lib.hid hs
          clear hs
          go_wp2_with (go_at_call 43; refine (Hck.out _).mono ?_; rintro e w3 ⟨rfl, hb3⟩; refine Hid.out ?_)
          refine Lib.hid ?_
          have kr3 := (w11.bl (hb2.trans hb3)).all3
          clear kr
          go_wp2_with fail
          refine bodyPost_ret (v := .tuple #[.agg #[.int .i64 0, .int .i64 0, .slice none 0 0], .int .i64 S]) (by simp [results, Tryz.results19, go_sem, kr3]) rfl ?_
          refine grayAns_bad ?_ (((((w1b.trans hb2).trans hb3).setCell (Nat.le_refl _) _).setCell (Nat.le_refl _) _).setCell (Nat.le_refl _) _)
          rw [HDG.out, if_pos Hlw.out, if_neg Hs.out]
      · have hq2 : ((m : Int) != (W : Int) * (H : Int)) = true := by rw [bne_iff_ne]; intro h; apply hlw; have := Int.natCast_mul W H; omega
        have Hlw := Lib.hid hlw
        clear hlw
        go_wp2_with fail
        refine bodyPost_ret (v := .tuple #[.agg #[.int .i64 0, .int .i64 0, .slice none 0 0], .int .i64 8]) (by simp [results, Tryz.results19, go_sem, kr]) rfl ?_
        refine grayAns_bad ?_ ((((w1b.trans hb2).setCell (Nat.le_refl _) _).setCell (Nat.le_refl _) _).setCell (Nat.le_refl _) _)
        rw [HDG.out, if_neg Hlw.out]
end Go.Proofs.YtdbnacjdinolcaaGreatDoor


/-! Black-and-white pages out of bytes: page.Unpack. -/
namespace Go.Proofs.YtdbnacjdinolcaaGreatDoor
open Go.RowKit Go.Shelf

/-! ### plain -/
def spareOk (W : Nat) (r : List UInt8) : Bool := (List.range r.length).all fun j => !(decide (j % longOf W = longOf W - 1) && (decide (W % 8 ≠ 0) && decide ((r.getD j 0).toNat &&& 255 / 2 ^ (W % 8) ≠ 0)))
theorem spareOk_iff (W : Nat) (r : List UInt8) : spareOk W r = true ↔ spareB W r := by
  unfold spareOk spareB
  rw [List.all_eq_true]
  constructor
  · intro h j hj h1 h2
    have h3 := h j (List.mem_range.2 hj)
    rw [decide_eq_true h1, decide_eq_true h2] at h3
    simpa using h3
  · intro h j hj
    have h3 := h j (List.mem_range.1 hj)
    by_cases h1 : j % longOf W = longOf W - 1
    · by_cases h2 : W % 8 ≠ 0
      · rw [decide_eq_true h1, decide_eq_true h2]
        simpa using h3 h1 h2
      · rw [decide_eq_false h2, Bool.false_and, Bool.and_false]; rfl
    · rw [decide_eq_false h1, Bool.false_and]; rfl
def unpB (f : List UInt8) : Int × Nat × Nat × List Bool :=
  if 1048606 < f.length then (4, 0, 0, []) else
  match headPv p4K [] f with
  | none => (8, 0, 0, [])
  | some (W, H, rest) => if rest.length = longOf W * H then (if spareOk W rest = true then (if sizeErr W H = 0 then (0, W, H, grid W H (bitF (longOf W) rest)) else (sizeErr W H, 0, 0, [])) else (8, 0, 0, [])) else (8, 0, 0, [])
/-- What Unpack answers. -/
def BitsAns (r : Int × Nat × Nat × List Bool) (w : World) (e : Ending) (w' : World) : Prop :=
  ∃ v, e = .returned (.tuple #[v, .int .i64 r.1]) ∧ IsPage w' v r.2.1 r.2.2.1 (r.2.2.2.map .bool) ∧ Bl w w'
theorem bitsAns_bad {r : Int × Nat × Nat × List Bool} {E : Int} {w w' : World} (h : r = (E, 0, 0, [])) (hb : Bl w w') : BitsAns r w (.returned (.tuple #[.agg #[.int .i64 0, .int .i64 0, .slice none 0 0], .int .i64 E])) w' := by
  subst h
  exact ⟨_, rfl, ⟨none, 0, rfl, Reads.none_⟩, hb⟩
theorem bitsAns_ok {r : Int × Nat × Nat × List Bool} {W H c : Nat} {A : Option Addr} {bs : List Bool} {w w' : World} (h : r = (0, W, H, bs)) (hr : Reads w' 1 A (W * H) (bs.map .bool)) (hb : Bl w w') : BitsAns r w (.returned (.tuple #[.agg #[.int .i64 W, .int .i64 H, .slice A (W * H) c], .int .i64 0])) w' := by
  subst h
  exact ⟨_, rfl, ⟨A, c, rfl, hr⟩, hb⟩
theorem unpB_bad {f : List UInt8} (h : fileErr p4K [] f ≠ 0) : unpB f = (fileErr p4K [] f, 0, 0, []) := by
  unfold unpB
  rcases fileErr_bad h with ⟨h1, h2⟩ | ⟨h1, h2, h3⟩
  · rw [if_pos h1, h2]
  · rw [if_neg h1, h2, h3]
theorem unpB_head {f rest : List UInt8} {W H : Nat} (hl : f.length ≤ 1048606) (h : headPv p4K [] f = some (W, H, rest)) : unpB f = if rest.length = longOf W * H then (if spareOk W rest = true then (if sizeErr W H = 0 then (0, W, H, grid W H (bitF (longOf W) rest)) else (sizeErr W H, 0, 0, [])) else (8, 0, 0, [])) else (8, 0, 0, []) := by
  unfold unpB
  rw [if_neg (by omega), h]

/-- What a place of rows of bytes is read of. -/
theorem bit_cell {w : World} {A : Option Addr} {n : Nat} {r : List UInt8} (h : Reads w 1 A n (r.map encB)) {j : Nat} (hj : j < n) : ∃ ad, A = some ad ∧ w.cell? (ad.add j) = some (.int .u8 (((r.getD j 0).toNat : Nat) : Int)) := by
  obtain ⟨ad, u, e, hu, hc⟩ := h.at_ hj
  refine ⟨ad, e, ?_⟩
  rw [hc]
  have hl : j < r.length := by have := h.1; simp at this; omega
  rw [List.getElem?_map, List.getElem?_eq_getElem hl] at hu
  rw [← Option.some.inj hu]
  simp [encB, List.getD, hl]

set_option maxRecDepth 100000 in
set_option maxHeartbeats 1000000 in
theorem unpack1_any (gr gl : Nat) (A : Option Addr) (n c L W H x y : Nat) (r : List UInt8) (w : World) (h1 : Blk w gr 22 #[.slice A n c]) (h2 : Blk w gl 3 #[.int .i64 L]) (hR : Reads w 1 A n (r.map encB)) (hn : n = L * H) (hLH : L * H ≤ 1048606) (hx : x < W) (hy : y < H) (hL : L = longOf W) (hW : W ≤ 9999) :
    Calls Tryz.prog 51 #[.int .i64 x, .int .i64 y, .pointer (some ⟨gr, 0, none⟩), .pointer (some ⟨gl, 0, none⟩)] w fun e w' => e = .returned (.bool (bitF L r x y)) ∧ Bl w w' := by
  have k1 := h1.all1
  have k2 := h2.all1
  obtain ⟨cc, hcc⟩ : ∃ c, c = x / 8 := ⟨_, rfl⟩
  obtain ⟨rr, hrr⟩ : ∃ r, r = x % 8 := ⟨_, rfl⟩
  have hcL : cc < L := by rw [hcc, hL]; exact col_lt hx
  have hr8 : rr < 8 := by rw [hrr]; exact Nat.mod_lt _ (by decide)
  have e4 : (x : Int) / 8 = (cc : Int) := by rw [hcc]; simp
  have e5 : (x : Int) % 8 = (rr : Int) := by rw [hrr]; simp
  have hjL := place_lt (W := L) (H := H) hcL hy
  obtain ⟨ad, rfl, hcell⟩ := bit_cell hR (j := y * L + cc) (by omega)
  have hlt := World.block_lt_of_cell? w _ hcell
  obtain ⟨v, hv⟩ : ∃ v, v = (r.getD (y * L + cc) 0).toNat := ⟨_, rfl⟩
  have hv256 : v < 256 := by rw [hv]; exact UInt8.toNat_lt _
  have hbit : bitF L r x y = bitAt v rr := by unfold bitF; rw [← hcc, ← hrr, ← hv]
  rw [← hv] at hcell
  obtain ⟨j0, hj0⟩ : ∃ j, j = y * L + cc := ⟨_, rfl⟩
  rw [← hj0] at hcell hjL
  have e6 : (y : Int) * (L : Int) + (cc : Int) = (j0 : Int) := by rw [hj0]; simp
  have e7 : (0 : Int) ≤ (y : Int) * (L : Int) ∧ (y : Int) * (L : Int) ≤ 1048606 := by
    have h5 := Int.natCast_mul y L
    have h6 : y * L ≤ L * H := by rw [Nat.mul_comm]; exact Nat.mul_le_mul_left L (by omega)
    omega
  have e8 : (j0 : Int) < (n : Int) := by omega
  obtain ⟨q, hq⟩ : ∃ q, q = v &&& 128 / 2 ^ rr := ⟨_, rfl⟩
  have hand : bits .and .u8 (v : Int) (128 / 2 ^ rr : Int) = (q : Int) := by
    have e : (128 / 2 ^ rr : Int) = ((128 / 2 ^ rr : Nat) : Int) := by simp
    rw [e, u8_and_nat v _ hv256 (Nat.lt_of_le_of_lt (Nat.div_le_self _ _) (by decide)), hq]
  have hbn : (q != 0) = bitAt v rr := by rw [hq]; exact and_bits v hv256 rr hr8
  have hne : ((q : Int) != 0) = bitF L r x y := by
    rw [hbit, ← hbn]
    cases q <;> rfl
  have Hne := Lib.hid hne
  clear hcc hrr hv hbit hj0 hq hbn hne hR hn hL
  go_enter Tryz.func51, Tryz.ntmps51
  go_wp2_with fail
  refine wp_region_flow [(true, 0), (true, 1), (true, 2), (true, 3), (true, 4), (true, 5), (true, 6), (true, 7), (true, 8), (true, 9), (true, 10), (true, 11), (true, 12), (true, 13), (true, 14)] (fun _ => false) (by kernel_rfl) (by kernel_rfl) (by kernel_rfl) (by kernel_rfl) ?_
  iterate 1
    apply Flow.calm2 _ _ rfl rfl
    · intro w' hb' K' hK'
      obtain ⟨hc', hf'⟩ := hb'.rule
      go_simp
      try go_ints
      exact hK'
    · intro K' hK'
      simp only [Act.put, List.setIfInBounds_toArray, List.set_cons_zero, List.set_cons_succ]
      exact hK'
  iterate 1
    apply Flow.mv _ rfl
    · intro K' hK'
      simp only [Act.put, Act.eval, List.setIfInBounds_toArray, List.set_cons_zero, List.set_cons_succ, arr_getD, List.getD_cons_zero, List.getD_cons_succ]
      exact hK'
  iterate 1
    apply Flow.calm2 _ _ rfl rfl
    · intro w' hb' K' hK'
      obtain ⟨hc', hf'⟩ := hb'.rule
      go_simp
      try go_ints
      exact hK'
    · intro K' hK'
      simp only [Act.put, List.setIfInBounds_toArray, List.set_cons_zero, List.set_cons_succ]
      exact hK'
  iterate 1
    apply Flow.calm2 _ _ rfl rfl
    · intro w' hb' K' hK'
      obtain ⟨hc', hf'⟩ := hb'.rule
      go_simp
      try go_ints
      exact hK'
    · intro K' hK'
      simp only [Act.put, List.setIfInBounds_toArray, List.set_cons_zero, List.set_cons_succ]
      exact hK'
  iterate 1
    apply Flow.mv _ rfl
    · intro K' hK'
      simp only [Act.put, Act.eval, List.setIfInBounds_toArray, List.set_cons_zero, List.set_cons_succ, arr_getD, List.getD_cons_zero]
      exact hK'
  iterate 2
    apply Flow.calm2 _ _ rfl rfl
    · intro w' hb' K' hK'
      obtain ⟨hc', hf'⟩ := hb'.rule
      go_simp
      try go_ints
      exact hK'
    · intro K' hK'
      simp only [Act.put, List.setIfInBounds_toArray, List.set_cons_zero, List.set_cons_succ]
      exact hK'
  iterate 1
    apply Flow.calm2 _ _ rfl rfl
    · intro w' hb' K' hK'
      obtain ⟨hc', hf'⟩ := hb'.rule
      go_simp
      try go_ints
      exact hK'
    · intro K' hK'
      simp only [Act.put, List.setIfInBounds_toArray, List.set_cons_zero, List.set_cons_succ]
      exact hK'
  iterate 1
    apply Flow.calm2 _ _ rfl rfl
    · intro w' hb' K' hK'
      obtain ⟨hc', hf'⟩ := hb'.rule
      go_simp
      try go_ints
      exact hK'
    · intro K' hK'
      simp only [Act.put, List.setIfInBounds_toArray, List.set_cons_zero, List.set_cons_succ]
      exact hK'
  iterate 1
    apply Flow.mv _ rfl
    · intro K' hK'
      simp only [Act.put, Act.eval, List.setIfInBounds_toArray, List.set_cons_zero, List.set_cons_succ, arr_getD, List.getD_cons_zero]
      exact hK'
  iterate 4
    apply Flow.calm2 _ _ rfl rfl
    · intro w' hb' K' hK'
      obtain ⟨hc', hf'⟩ := hb'.rule
      go_simp
      try go_ints
      exact hK'
    · intro K' hK'
      simp only [Act.put, List.setIfInBounds_toArray, List.set_cons_zero, List.set_cons_succ]
      exact hK'
  iterate 1
    apply Flow.asg _ rfl
    · intro K' hK'
      simp only [Act.put, Act.eval, List.setIfInBounds_toArray, List.set_cons_zero, List.set_cons_succ, arr_getD, List.getD_cons_zero, List.getD_cons_succ]
      exact hK'
  refine Flow.done ?_
  go_wp2_with fail
  go_ret
  exact ⟨ret_bool Hne.out, (Bl.refl _).drew⟩
theorem unpack1_paints (gr gl : Nat) (A : Option Addr) (n c L W H : Nat) (r : List UInt8) (w : World) (h1 : Blk w gr 22 #[.slice A n c]) (h2 : Blk w gl 3 #[.int .i64 L]) (hR : Reads w 1 A n (r.map encB)) (hn : n = L * H) (hLH : L * H ≤ 1048606) (hL : L = longOf W) (hW : W ≤ 9999) :
    Paints Tryz.prog 51 #[.pointer (some ⟨gr, 0, none⟩), .pointer (some ⟨gl, 0, none⟩)] Value.bool w W H (bitF L r) :=
  ⟨enters Tryz.func51 (by kernel_rfl) rfl, fun wx x y hb hx hy => unpack1_any gr gl A n c L W H x y r wx (h1.bl hb) (h2.bl hb) (hR.bl hb) hn hLH hx hy hL hW⟩
end Go.Proofs.YtdbnacjdinolcaaGreatDoor
