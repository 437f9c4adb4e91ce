/- The law on halving and pasting. -/
import Derived.Test.YtldmofdidgibhaaHalve2
import Derived.Test.YtldmofdidgibhaaPaste3
import Derived.Test.YtldmofdidgibhaaLib1
namespace Go.Proofs.Ytldmofdidgibhaa
open Go.RowKit

/-! ### both outcomes under one roof -/
def ZeroPage (a b : Int) (R : Option Addr) (n c : Nat) : Prop := a = 0 ∧ b = 0 ∧ R = none ∧ n = 0 ∧ c = 0

def HalvePost (w w' : World) (W H : Int) (n : Nat) (zs : List Int) (a b : Int) (R : Option Addr) (m c : Nat) : Prop :=
  if pageErr W H n = 0 then NPage w.heap.size w' (.agg #[.int .i64 a, .int .i64 b, .slice R m c]) ((W.toNat + 1) / 2) ((H.toNat + 1) / 2) ((grid ((W.toNat + 1) / 2) ((H.toNat + 1) / 2) (halfAt zs W.toNat H.toNat)).map (.int .u8))
  else ZeroPage a b R m c

theorem halve_any (W H : Int) (A : Option Addr) (n c : Nat) (zs : List Int) (w : World) (hr : Reads w 1 A n (zs.map (.int .u8))) (hz : Bytes zs) :
    Calls Try.prog 19 #[.agg #[.int .i64 W, .int .i64 H, .slice A n c]] w fun e w' => ∃ a b R m d, e = .returned (.tuple #[.agg #[.int .i64 a, .int .i64 b, .slice R m d], .int .i64 (pageErr W H n)]) ∧ HalvePost w w' W H n zs a b R m d ∧ Bl w w' := by
  by_cases h : pageErr W H n = 0
  · obtain ⟨hs, hn⟩ := pageErr_zero h
    have hz' := sizeErr_zero hs
    obtain ⟨W', rfl⟩ := Int.eq_ofNat_of_zero_le (show 0 ≤ W by omega)
    obtain ⟨H', rfl⟩ := Int.eq_ofNat_of_zero_le (show 0 ≤ H by omega)
    obtain rfl : n = W' * H' := by have := Int.natCast_mul W' H'; omega
    refine (halve_ok W' H' _ zs w ⟨A, c, rfl, hr⟩ hz hs).mono ?_
    rintro e w' ⟨u, rfl, hu, hb⟩
    obtain ⟨R, d, rfl, hR, hn⟩ := id hu
    refine ⟨_, _, R, _, d, by rw [h], ?_, hb⟩
    unfold HalvePost
    rw [if_pos h]
    exact hu
  · refine (halve_bad W H A n c w h).mono ?_
    rintro e w' ⟨rfl, hb⟩
    refine ⟨0, 0, none, 0, 0, rfl, ?_, hb⟩
    unfold HalvePost
    rw [if_neg h]
    exact ⟨rfl, rfl, rfl, rfl, rfl⟩

set_option maxRecDepth 100000 in
set_option maxHeartbeats 2000000 in
theorem paste_bad (bW bH cW cH : Int) (A C : Option Addr) (bn bc cn cc : Nat) (x y : Int) (w : World) (h : firstNZ [pageErr bW bH bn, pageErr cW cH cn] ≠ 0) :
    Calls Try.prog 25 #[.agg #[.int .i64 bW, .int .i64 bH, .slice A bn bc], .agg #[.int .i64 cW, .int .i64 cH, .slice C cn cc], .int .i64 x, .int .i64 y] w
      fun e w' => e = .returned (.tuple #[.agg #[.int .i64 0, .int .i64 0, .slice none 0 0], .int .i64 (firstNZ [pageErr bW bH bn, pageErr cW cH cn])]) ∧ Bl w w' := by
  let w6 := ((((((w).alloc (.cells #[.int .i64 bW, .int .i64 bH, .slice A bn bc] 39)).alloc (.cells #[.int .i64 cW, .int .i64 cH, .slice C cn cc] 39)).alloc (.cells #[.int .i64 x] 3)).alloc (.cells #[.int .i64 y] 3)).alloc (.cells #[.int .i64 0, .int .i64 0, .slice none 0 0] 39)).alloc (.cells #[.int .i64 bW, .int .i64 bH, .slice A bn bc, .int .i64 cW, .int .i64 cH, .slice C cn cc] 39)
  have w6b : Bl w w6 := ((((((Bl.refl w).alloc _).alloc _).alloc _).alloc _).alloc _).alloc _
  have w61 : Blk w6 (w.heap.size) 39 #[.int .i64 bW, .int .i64 bH, .slice A bn bc] := by
    have h0 := Blk.new (w) 39 #[.int .i64 bW, .int .i64 bH, .slice A bn bc]
    exact (((((h0.alloc _).alloc _).alloc _).alloc _).alloc _)
  have w62 : Blk w6 (w.heap.size + 1) 39 #[.int .i64 cW, .int .i64 cH, .slice C cn cc] := by
    have h0 := Blk.new ((w).alloc (.cells #[.int .i64 bW, .int .i64 bH, .slice A bn bc] 39)) 39 #[.int .i64 cW, .int .i64 cH, .slice C cn cc]
    simp only [World.size_alloc] at h0
    exact ((((h0.alloc _).alloc _).alloc _).alloc _)
  have w63 : Blk w6 (w.heap.size + 1 + 1) 3 #[.int .i64 x] := by
    have h0 := Blk.new (((w).alloc (.cells #[.int .i64 bW, .int .i64 bH, .slice A bn bc] 39)).alloc (.cells #[.int .i64 cW, .int .i64 cH, .slice C cn cc] 39)) 3 #[.int .i64 x]
    simp only [World.size_alloc] at h0
    exact (((h0.alloc _).alloc _).alloc _)
  have w64 : Blk w6 (w.heap.size + 1 + 1 + 1) 3 #[.int .i64 y] := by
    have h0 := Blk.new ((((w).alloc (.cells #[.int .i64 bW, .int .i64 bH, .slice A bn bc] 39)).alloc (.cells #[.int .i64 cW, .int .i64 cH, .slice C cn cc] 39)).alloc (.cells #[.int .i64 x] 3)) 3 #[.int .i64 y]
    simp only [World.size_alloc] at h0
    exact ((h0.alloc _).alloc _)
  have w65 : Blk w6 (w.heap.size + 1 + 1 + 1 + 1) 39 #[.int .i64 0, .int .i64 0, .slice none 0 0] := by
    have h0 := Blk.new (((((w).alloc (.cells #[.int .i64 bW, .int .i64 bH, .slice A bn bc] 39)).alloc (.cells #[.int .i64 cW, .int .i64 cH, .slice C cn cc] 39)).alloc (.cells #[.int .i64 x] 3)).alloc (.cells #[.int .i64 y] 3)) 39 #[.int .i64 0, .int .i64 0, .slice none 0 0]
    simp only [World.size_alloc] at h0
    exact (h0.alloc _)
  have w66 : Blk w6 (w.heap.size + 1 + 1 + 1 + 1 + 1) 39 #[.int .i64 bW, .int .i64 bH, .slice A bn bc, .int .i64 cW, .int .i64 cH, .slice C cn cc] := by
    have h0 := Blk.new ((((((w).alloc (.cells #[.int .i64 bW, .int .i64 bH, .slice A bn bc] 39)).alloc (.cells #[.int .i64 cW, .int .i64 cH, .slice C cn cc] 39)).alloc (.cells #[.int .i64 x] 3)).alloc (.cells #[.int .i64 y] 3)).alloc (.cells #[.int .i64 0, .int .i64 0, .slice none 0 0] 39)) 39 #[.int .i64 bW, .int .i64 bH, .slice A bn bc, .int .i64 cW, .int .i64 cH, .slice C cn cc]
    simp only [World.size_alloc] at h0
    exact h0
  by_cases hb : pageErr bW bH bn = 0
  · have hf : firstNZ [pageErr bW bH bn, pageErr cW cH cn] = pageErr cW cH cn := by
      simp only [firstNZ, hb, if_true]; split <;> simp_all
    rw [hf] at h
    have hq : (pageErr cW cH cn != 0) = true := by simp [h]
    have hq1 : (pageErr bW bH bn != 0) = false := by simp [hb]
    have Hf := Lib.hid hf
    have Hb := Lib.hid hb
    clear h hf hb
    go_enter Try.func25, Try.ntmps25
    go_wp2_with fail
    refine wp_loop_rounds 3 ?_
    rw [rounds_succ]
    go_wp2_with fail
    refine (checkBits_any _ _ _ _ _ _).mono ?_
    rintro e w7 ⟨rfl, hb7⟩
    have hb67 : Bl w6 w7 := ((Bl.refl w6).alloc _).trans hb7
    have a6 := (w66.bl hb67).all6
    have l7 : w.heap.size + 5 < w7.heap.size := by have := (w66.bl hb67).lt; simpa using this
    go_wp2_with fail
    rw [rounds_succ]
    go_wp2_with fail
    refine (checkBits_any _ _ _ _ _ _).mono ?_
    rintro e w8 ⟨rfl, hb8⟩
    have hb68 : Bl w6 w8 := (hb67.alloc _).trans hb8
    have hr := (w65.bl hb68).all3
    have hb8w := w6b.trans hb68
    go_wp2_with fail
    refine bodyPost_ret (v := .tuple #[.agg #[.int .i64 0, .int .i64 0, .slice none 0 0], .int .i64 (pageErr cW cH cn)]) (by simp [results, Try.results25, go_sem, hr]) rfl ⟨by rw [Hf.out], ?_⟩
    exact ((hb8w.setCell (by simp; omega) _).setCell (by simp; omega) _).setCell (by simp; omega) _
  · have hf : firstNZ [pageErr bW bH bn, pageErr cW cH cn] = pageErr bW bH bn := by simp [firstNZ, hb]
    have hq : (pageErr bW bH bn != 0) = true := by simp [hb]
    have Hf := Lib.hid hf
    clear h hf hb
    go_enter Try.func25, Try.ntmps25
    go_wp2_with fail
    refine wp_loop_rounds 3 ?_
    rw [rounds_succ]
    go_wp2_with fail
    refine (checkBits_any _ _ _ _ _ _).mono ?_
    rintro e w7 ⟨rfl, hb7⟩
    have hb67 : Bl w6 w7 := ((Bl.refl w6).alloc _).trans hb7
    have hr := (w65.bl hb67).all3
    have hb8w := w6b.trans hb67
    go_wp2_with fail
    refine bodyPost_ret (v := .tuple #[.agg #[.int .i64 0, .int .i64 0, .slice none 0 0], .int .i64 (pageErr bW bH bn)]) (by simp [results, Try.results25, go_sem, hr]) rfl ⟨by rw [Hf.out], ?_⟩
    exact ((hb8w.setCell (by simp; omega) _).setCell (by simp; omega) _).setCell (by simp; omega) _

def PastePost (w w' : World) (bW bH cW cH : Int) (bn cn : Nat) (bs cs : List Bool) (x y : Int) (a b : Int) (R : Option Addr) (m c : Nat) : Prop :=
  if firstNZ [pageErr bW bH bn, pageErr cW cH cn] = 0 then NPage w.heap.size w' (.agg #[.int .i64 a, .int .i64 b, .slice R m c]) bW.toNat bH.toNat ((grid bW.toNat bH.toNat (pasteF bs cs bW.toNat bH.toNat cW.toNat cH.toNat x y)).map .bool)
  else ZeroPage a b R m c
theorem firstNZ2 {a b : Int} (h : firstNZ [a, b] = 0) : a = 0 ∧ b = 0 := by
  unfold firstNZ at h
  split at h
  · rename_i ha
    refine ⟨ha, ?_⟩
    unfold firstNZ at h
    split at h
    · assumption
    · exact h
  · contradiction

theorem paste_any (bW bH cW cH : Int) (A C : Option Addr) (bn bc cn cc : Nat) (bs cs : List Bool) (x y : Int) (w : World) (hA : Reads w 1 A bn (bs.map .bool)) (hC : Reads w 1 C cn (cs.map .bool))
    (hx : -9223372036854775808 ≤ x ∧ x ≤ 9223372036854775807) (hy : -9223372036854775808 ≤ y ∧ y ≤ 9223372036854775807) :
    Calls Try.prog 25 #[.agg #[.int .i64 bW, .int .i64 bH, .slice A bn bc], .agg #[.int .i64 cW, .int .i64 cH, .slice C cn cc], .int .i64 x, .int .i64 y] w
      fun e w' => ∃ a b R m d, e = .returned (.tuple #[.agg #[.int .i64 a, .int .i64 b, .slice R m d], .int .i64 (firstNZ [pageErr bW bH bn, pageErr cW cH cn])]) ∧ PastePost w w' bW bH cW cH bn cn bs cs x y a b R m d ∧ Bl w w' := by
  by_cases h : firstNZ [pageErr bW bH bn, pageErr cW cH cn] = 0
  · obtain ⟨h1, h2⟩ := firstNZ2 h
    obtain ⟨hs1, hn1⟩ := pageErr_zero h1
    obtain ⟨hs2, hn2⟩ := pageErr_zero h2
    have z1 := sizeErr_zero hs1
    have z2 := sizeErr_zero hs2
    obtain ⟨bW', rfl⟩ := Int.eq_ofNat_of_zero_le (show 0 ≤ bW by omega)
    obtain ⟨bH', rfl⟩ := Int.eq_ofNat_of_zero_le (show 0 ≤ bH by omega)
    obtain ⟨cW', rfl⟩ := Int.eq_ofNat_of_zero_le (show 0 ≤ cW by omega)
    obtain ⟨cH', rfl⟩ := Int.eq_ofNat_of_zero_le (show 0 ≤ cH by omega)
    obtain rfl : bn = bW' * bH' := by have := Int.natCast_mul bW' bH'; omega
    obtain rfl : cn = cW' * cH' := by have := Int.natCast_mul cW' cH'; omega
    refine (paste_ok bW' bH' cW' cH' _ _ bs cs x y w ⟨A, bc, rfl, hA⟩ ⟨C, cc, rfl, hC⟩ hs1 hs2 hx hy).mono ?_
    rintro e w' ⟨u, rfl, hu, hb⟩
    obtain ⟨R, d, rfl, hR, hn⟩ := id hu
    refine ⟨_, _, R, _, d, by rw [h], ?_, hb⟩
    unfold PastePost
    rw [if_pos h]
    exact hu
  · refine (paste_bad bW bH cW cH A C bn bc cn cc x y w h).mono ?_
    rintro e w' ⟨rfl, hb⟩
    refine ⟨0, 0, none, 0, 0, rfl, ?_, hb⟩
    unfold PastePost
    rw [if_neg h]
    exact ⟨rfl, rfl, rfl, rfl, rfl⟩

/-! ### the law -/
set_option maxRecDepth 100000 in
set_option maxHeartbeats 1000000 in
theorem mixes2_makes (p1 p2 p3 p4 : Nat) (bW bH cW cH : Nat) (A C : Option Addr) (bc cc : Nat) (bs cs : List Bool) (x y : Int) (w : World)
    (h1 : Blk w p1 39 #[.int .i64 bW, .int .i64 bH, .slice A (bW * bH) bc]) (h2 : Blk w p2 39 #[.int .i64 cW, .int .i64 cH, .slice C (cW * cH) cc]) (h3 : Blk w p3 3 #[.int .i64 x]) (h4 : Blk w p4 3 #[.int .i64 y])
    (hA : Reads w 1 A (bW * bH) (bs.map .bool)) (hC : Reads w 1 C (cW * cH) (cs.map .bool)) (b1 : bW ≤ 4000) (b2 : bH ≤ 4000) (b3 : cW ≤ 4000) (b4 : cH ≤ 4000) :
    MakesPage Try.prog 28 #[.pointer (some ⟨p1, 0, none⟩), .pointer (some ⟨p2, 0, none⟩), .pointer (some ⟨p3, 0, none⟩), .pointer (some ⟨p4, 0, none⟩)] w bW bH ((grid bW bH (pasteF bs cs bW bH cW cH x y)).map .bool) := by
  refine ⟨enters Try.func28 (by kernel_rfl) rfl, fun wx hx => ?_⟩
  have hb5 : Bl wx (wx.alloc (.cells #[.int .i64 0, .int .i64 0, .slice none 0 0] 39)) := (Bl.refl wx).alloc _
  have k1 := ((h1.bl hx).bl hb5).all3
  have k2 := ((h2.bl hx).bl hb5).all3
  have k3 := ((h3.bl hx).bl hb5).all1
  have k4 := ((h4.bl hx).bl hb5).all1
  have l1 := (h1.bl hx).lt
  have l2 := (h2.bl hx).lt
  have l3 := (h3.bl hx).lt
  have l4 := (h4.bl hx).lt
  have kr := Blk.new wx 39 #[.int .i64 0, .int .i64 0, .slice none 0 0]
  have hq := pasteOf_any bW bH cW cH (.agg #[.int .i64 bW, .int .i64 bH, .slice A (bW * bH) bc]) (.agg #[.int .i64 cW, .int .i64 cH, .slice C (cW * cH) cc]) bs cs x y _ ⟨A, bc, rfl, (hA.bl hx).bl hb5⟩ ⟨C, cc, rfl, (hC.bl hx).bl hb5⟩ b1 b2 b3 b4
  have Hq := Lib.hid hq
  clear hq h1 h2 h3 h4 hA hC
  go_enter Try.func28, Try.ntmps28
  go_wp2_with fail
  refine Hq.out.mono ?_
  rintro e w6 ⟨r, rfl, hpg, hb6⟩
  have kr3 := (kr.bl hb6).all3
  obtain ⟨R, rc, rfl, hR, hRn⟩ := hpg
  have hRn' : ∀ ad, R = some ad → wx.heap.size + 1 ≤ ad.block := by simpa using hRn
  go_wp2_with fail
  refine bodyPost_ret (v := .agg #[.int .i64 bW, .int .i64 bH, .slice R (bW * bH) rc]) (by simp [results, Try.results28, go_sem, kr3]) rfl ⟨_, rfl, ⟨R, rc, rfl, ?_⟩, ?_⟩
  · exact ((hR.store hRn' (by simp) _).store hRn' (by simp) _).store hRn' (by simp) _
  · exact ((((hb5.trans hb6).setCell (by simp) _).setCell (by simp) _).setCell (by simp) _)

set_option maxRecDepth 100000 in
set_option maxHeartbeats 2000000 in
theorem lawMixes_any (gW gH bW bH cW cH : Int) (G A C : Option Addr) (gn gc bn bc cn cc : Nat) (zs : List Int) (bs cs : List Bool) (x y : Int) (w : World) (hG : Reads w 1 G gn (zs.map (.int .u8))) (hz : Bytes zs) (hA : Reads w 1 A bn (bs.map .bool)) (hC : Reads w 1 C cn (cs.map .bool))
    (hx : -9223372036854775808 ≤ x ∧ x ≤ 9223372036854775807) (hy : -9223372036854775808 ≤ y ∧ y ≤ 9223372036854775807) :
    Calls Try.prog 4 #[.agg #[.int .i64 gW, .int .i64 gH, .slice G gn gc], .agg #[.int .i64 bW, .int .i64 bH, .slice A bn bc], .agg #[.int .i64 cW, .int .i64 cH, .slice C cn cc], .int .i64 x, .int .i64 y] w
      fun e w' => e = .returned (.bool true) ∧ Bl w w' := by
  let w5 := (((((w).alloc (.cells #[.int .i64 gW, .int .i64 gH, .slice G gn gc] 24)).alloc (.cells #[.int .i64 bW, .int .i64 bH, .slice A bn bc] 39)).alloc (.cells #[.int .i64 cW, .int .i64 cH, .slice C cn cc] 39)).alloc (.cells #[.int .i64 x] 3)).alloc (.cells #[.int .i64 y] 3)
  have w5b : Bl w w5 := (((((Bl.refl w).alloc _).alloc _).alloc _).alloc _).alloc _
  have w51 : Blk w5 (w.heap.size) 24 #[.int .i64 gW, .int .i64 gH, .slice G gn gc] := by
    have h0 := Blk.new (w) 24 #[.int .i64 gW, .int .i64 gH, .slice G gn gc]
    exact ((((h0.alloc _).alloc _).alloc _).alloc _)
  have w52 : Blk w5 (w.heap.size + 1) 39 #[.int .i64 bW, .int .i64 bH, .slice A bn bc] := by
    have h0 := Blk.new ((w).alloc (.cells #[.int .i64 gW, .int .i64 gH, .slice G gn gc] 24)) 39 #[.int .i64 bW, .int .i64 bH, .slice A bn bc]
    simp only [World.size_alloc] at h0
    exact (((h0.alloc _).alloc _).alloc _)
  have w53 : Blk w5 (w.heap.size + 1 + 1) 39 #[.int .i64 cW, .int .i64 cH, .slice C cn cc] := by
    have h0 := Blk.new (((w).alloc (.cells #[.int .i64 gW, .int .i64 gH, .slice G gn gc] 24)).alloc (.cells #[.int .i64 bW, .int .i64 bH, .slice A bn bc] 39)) 39 #[.int .i64 cW, .int .i64 cH, .slice C cn cc]
    simp only [World.size_alloc] at h0
    exact ((h0.alloc _).alloc _)
  have w54 : Blk w5 (w.heap.size + 1 + 1 + 1) 3 #[.int .i64 x] := by
    have h0 := Blk.new ((((w).alloc (.cells #[.int .i64 gW, .int .i64 gH, .slice G gn gc] 24)).alloc (.cells #[.int .i64 bW, .int .i64 bH, .slice A bn bc] 39)).alloc (.cells #[.int .i64 cW, .int .i64 cH, .slice C cn cc] 39)) 3 #[.int .i64 x]
    simp only [World.size_alloc] at h0
    exact (h0.alloc _)
  have w55 : Blk w5 (w.heap.size + 1 + 1 + 1 + 1) 3 #[.int .i64 y] := by
    have h0 := Blk.new (((((w).alloc (.cells #[.int .i64 gW, .int .i64 gH, .slice G gn gc] 24)).alloc (.cells #[.int .i64 bW, .int .i64 bH, .slice A bn bc] 39)).alloc (.cells #[.int .i64 cW, .int .i64 cH, .slice C cn cc] 39)).alloc (.cells #[.int .i64 x] 3)) 3 #[.int .i64 y]
    simp only [World.size_alloc] at h0
    exact h0
  have hh := halve_any gW gH G gn gc zs w5 (hG.bl w5b) hz
  have Hh := Lib.hid hh
  clear hh
  go_enter Try.func4, Try.ntmps4
  go_wp2_with fail
  refine Hh.out.mono ?_
  rintro e w6 ⟨ha, hb, HR, hm, hd, rfl, hpost, hb6⟩
  have kh6 := Blk.new w6 24 #[.int .i64 ha, .int .i64 hb, .slice HR hm hd]
  have kg6 := ((w51.bl hb6).alloc (.cells #[.int .i64 ha, .int .i64 hb, .slice HR hm hd] 24)).all3
  go_upto_if 24 with (go_at_call 13; refine (grayError_any _ _ _ _ _ _).mono ?_; rintro e w7 ⟨rfl, hb7⟩)
  have hb57 : Bl w5 w7 := (hb6.alloc _).trans hb7
  have hb7x : Bl w6 w7 := ((Bl.refl _).alloc _).trans hb7
  have k1 := (w51.bl hb57).all3
  have kh7 := (kh6.bl hb7).all3
  go_cut [] from 16 (fun wc => Bl w5 wc)
  case first =>
    by_cases hp : pageErr gW gH gn = 0
    · have hq : (pageErr gW gH gn != 0) = false := by simp [hp]
      unfold HalvePost at hpost
      rw [if_pos hp] at hpost
      obtain ⟨hs, hn⟩ := pageErr_zero hp
      have hz' := sizeErr_zero hs
      obtain ⟨W, rfl⟩ := Int.eq_ofNat_of_zero_le (show 0 ≤ gW by omega)
      obtain ⟨H, rfl⟩ := Int.eq_ofNat_of_zero_le (show 0 ≤ gH by omega)
      obtain rfl : gn = W * H := by have := Int.natCast_mul W H; omega
      have hW4 : W ≤ 4000 ∧ 1 ≤ W := by omega
      have hH4 : H ≤ 4000 ∧ 1 ≤ H := by omega
      have hbd : W * H ≤ 1048576 := by have := Int.natCast_mul W H; omega
      rw [Int.toNat_natCast, Int.toNat_natCast] at hpost
      obtain ⟨nw, enw⟩ : ∃ h, h = (W + 1) / 2 := ⟨_, rfl⟩
      obtain ⟨nh, enh⟩ : ∃ h, h = (H + 1) / 2 := ⟨_, rfl⟩
      have e1 : ((W : Int) + 1) / 2 = (nw : Int) := by omega
      have e2 : ((H : Int) + 1) / 2 = (nh : Int) := by omega
      rw [← enw, ← enh] at hpost
      have hle1 : nw ≤ W := by omega
      have hle2 : nh ≤ H := by omega
      have hbd2 : nw * nh ≤ 1048576 := Nat.le_trans (Nat.mul_le_mul hle1 hle2) hbd
      have Hp := Lib.hid hp; have Hs := Lib.hid hs; have Hpost := Lib.hid hpost; have Ew := Lib.hid enw; have Eh := Lib.hid enh
      clear hp hs hn hz' hpost enw enh
      cases hsm : smallB W H
      · have Hsm := Lib.hid hsm; clear hsm
        go_wp2_with (go_at_call 21; refine (small_any _ _ _).mono ?_; rintro e w' ⟨rfl, rfl⟩; rw [Hsm.out])
        go_meet
        case rel => exact hb57
      · have Hsm := Lib.hid hsm; clear hsm
        go_wp2_with (go_at_call 21; refine (small_any _ _ _).mono ?_; rintro e w' ⟨rfl, rfl⟩; rw [Hsm.out])
        have hP : Paints Try.prog 24 #[.pointer (some ⟨w.heap.size, 0, none⟩)] (Value.int .u8) w7 nw nh (halfAt zs W H) :=
          ⟨enters Try.func24 (by kernel_rfl) rfl, fun wx x y hb hx hy => mixes1_any _ W H G gc zs x y wx ((w51.bl hb57).bl hb) (((hG.bl w5b).bl hb57).bl hb) hz hW4.1 hH4.1 (by rw [← Ew.out]; exact hx) (by rw [← Eh.out]; exact hy)⟩
        have HP := Lib.hid hP
        clear hP
        refine wp_region_flow [(true, 0), (true, 1), (true, 2), (true, 3), (true, 4), (true, 5), (true, 6), (true, 7), (true, 8), (true, 9), (true, 10), (true, 11), (true, 12), (false, 13), (false, 14), (true, 15), (true, 16)] (fun _ => false) (by kernel_rfl) (by kernel_rfl) (by kernel_rfl) (by kernel_rfl) ?_
        iterate 1
          apply Flow.mv _ rfl
          · intro K' hK'
            simp only [Act.put, Act.eval, List.setIfInBounds_toArray, List.set_cons_zero, List.set_cons_succ, arr_getD, List.getD_cons_zero, List.getD_cons_succ]
            exact hK'
        iterate 1
          apply Flow.calm2 _ _ rfl rfl
          · intro w' hb' K' hK'
            obtain ⟨hc', hf'⟩ := hb'.rule
            go_simp
            try go_ints
            exact hK'
          · intro K' hK'
            simp only [Act.put, List.setIfInBounds_toArray, List.set_cons_zero, List.set_cons_succ]
            exact hK'
        iterate 1
          apply Flow.mv _ rfl
          · intro K' hK'
            simp only [Act.put, Act.eval, List.setIfInBounds_toArray, List.set_cons_zero, List.set_cons_succ, arr_getD, List.getD_cons_zero, List.getD_cons_succ]
            exact hK'
        first
          | (apply Flow.pass rfl (by rfl))
          | (apply Flow.calmG _ rfl (by rfl)
             · intro w' hb'
               obtain ⟨hc', hf'⟩ := hb'.rule
               go_simp
               all_goals (try rfl))
        simp only [Act.put, List.setIfInBounds_toArray, List.set_cons_zero, List.set_cons_succ]
        try go_ints
        first
          | (apply Flow.pass rfl (by rfl))
          | (apply Flow.calmG _ rfl (by rfl)
             · intro w' hb'
               obtain ⟨hc', hf'⟩ := hb'.rule
               go_simp
               all_goals (try rfl))
        simp only [Act.put, List.setIfInBounds_toArray, List.set_cons_zero, List.set_cons_succ]
        try go_ints
        first
          | (apply Flow.pass rfl (by rfl))
          | (apply Flow.calmG _ rfl (by rfl)
             · intro w' hb'
               obtain ⟨hc', hf'⟩ := hb'.rule
               go_simp
               all_goals (try rfl))
        simp only [Act.put, List.setIfInBounds_toArray, List.set_cons_zero, List.set_cons_succ]
        try go_ints
        first
          | (apply Flow.pass rfl (by rfl))
          | (apply Flow.calmG _ rfl (by rfl)
             · intro w' hb'
               obtain ⟨hc', hf'⟩ := hb'.rule
               go_simp
               all_goals (try rfl))
        simp only [Act.put, List.setIfInBounds_toArray, List.set_cons_zero, List.set_cons_succ]
        try go_ints
        first
          | (apply Flow.pass rfl (by rfl))
          | (apply Flow.calmG _ rfl (by rfl)
             · intro w' hb'
               obtain ⟨hc', hf'⟩ := hb'.rule
               go_simp
               all_goals (try rfl))
        simp only [Act.put, List.setIfInBounds_toArray, List.set_cons_zero, List.set_cons_succ]
        try go_ints
        first
          | (apply Flow.pass rfl (by rfl))
          | (apply Flow.calmG _ rfl (by rfl)
             · intro w' hb'
               obtain ⟨hc', hf'⟩ := hb'.rule
               go_simp
               all_goals (try rfl))
        simp only [Act.put, List.setIfInBounds_toArray, List.set_cons_zero, List.set_cons_succ]
        try go_ints
        first
          | (apply Flow.pass rfl (by rfl))
          | (apply Flow.calmG _ rfl (by rfl)
             · intro w' hb'
               obtain ⟨hc', hf'⟩ := hb'.rule
               go_simp
               all_goals (try rfl))
        simp only [Act.put, List.setIfInBounds_toArray, List.set_cons_zero, List.set_cons_succ]
        try go_ints
        first
          | (apply Flow.pass rfl (by rfl))
          | (apply Flow.calmG _ rfl (by rfl)
             · intro w' hb'
               obtain ⟨hc', hf'⟩ := hb'.rule
               go_simp
               all_goals (try rfl))
        simp only [Act.put, List.setIfInBounds_toArray, List.set_cons_zero, List.set_cons_succ]
        try go_ints
        first
          | (apply Flow.pass rfl (by rfl))
          | (apply Flow.calmG _ rfl (by rfl)
             · intro w' hb'
               obtain ⟨hc', hf'⟩ := hb'.rule
               go_simp
               all_goals (try rfl))
        simp only [Act.put, List.setIfInBounds_toArray, List.set_cons_zero, List.set_cons_succ]
        try go_ints
        first
          | (apply Flow.pass rfl (by rfl))
          | (apply Flow.calmG _ rfl (by rfl)
             · intro w' hb'
               obtain ⟨hc', hf'⟩ := hb'.rule
               go_simp
               all_goals (try rfl))
        simp only [Act.put, List.setIfInBounds_toArray, List.set_cons_zero, List.set_cons_succ]
        try go_ints
        -- a guarded mover
        apply Flow.move rfl
        go_wp2_with fail
        refine (MadeGray_any nw nh _ _ _ _ (by omega) (by omega) (by omega) (HP.out.bl (Bl.refl _).drew)).mono ?_
        rintro e w8 ⟨r, rfl, hpg, HB1⟩
        go_wp2_with fail
        refine ⟨fun _ => (by first | exact HB1 | exact Bl.refl _), ?_⟩
        -- a guarded mover
        apply Flow.move rfl
        go_wp2_with fail
        refine (sameGray_any nw nh _ _ _ _ ((Hpost.out.is.bl ((hb7x).trans (Bl.refl _).drew)).bl HB1) hpg.is (by omega)).mono ?_
        rintro e w9 ⟨rfl, HB2⟩
        go_wp2_with fail
        refine ⟨fun _ => (by first | exact HB2 | exact Bl.refl _), ?_⟩
        first
          | (apply Flow.pass rfl (by rfl))
          | (apply Flow.calmG _ rfl (by rfl)
             · intro w' hb'
               obtain ⟨hc', hf'⟩ := hb'.rule
               go_simp
               all_goals (try rfl))
        simp only [Act.put, List.setIfInBounds_toArray, List.set_cons_zero, List.set_cons_succ]
        try go_ints
        iterate 1
          apply Flow.calm2 _ _ rfl rfl
          · intro w' hb' K' hK'
            obtain ⟨hc', hf'⟩ := hb'.rule
            go_simp
            try go_ints
            exact hK'
          · intro K' hK'
            simp only [Act.put, List.setIfInBounds_toArray, List.set_cons_zero, List.set_cons_succ]
            exact hK'
        refine Flow.done ?_
        go_wp2_with fail
        go_meet
        case rel => exact ((hb57.trans (Bl.refl _).drew).trans HB1).trans HB2
    · have hq : (pageErr gW gH gn != 0) = true := by simp [hp]
      unfold HalvePost at hpost
      rw [if_neg hp] at hpost
      obtain ⟨rfl, rfl, rfl, rfl, rfl⟩ := hpost
      clear hp
      go_wp2_with fail
      refine (noGray_zero _).mono ?_
      rintro e w8 ⟨rfl, hb8⟩
      go_wp2_with fail
      go_meet
      case rel => exact hb57.trans hb8
  case rest =>
    have k2 := (w52.bl hcut).all3
    have k3 := (w53.bl hcut).all3
    have k4 := (w54.bl hcut).all1
    have k5 := (w55.bl hcut).all1
    have hq := paste_any bW bH cW cH A C bn bc cn cc bs cs x y wc ((hA.bl w5b).bl hcut) ((hC.bl w5b).bl hcut) hx hy
    have Hq := Lib.hid hq
    clear hq kh6 kg6 k1 kh7 hpost
    go_wp2_with fail
    refine Hq.out.mono ?_
    rintro e w8 ⟨pa, pb, PR, pm, pd, rfl, ppost, hb8⟩
    have kp := Blk.new w8 39 #[.int .i64 pa, .int .i64 pb, .slice PR pm pd]
    have hb9 : Bl w5 (w8.alloc (.cells #[.int .i64 pa, .int .i64 pb, .slice PR pm pd] 39)) := (hcut.trans hb8).alloc _
    have k2 := (w52.bl hb9).all3
    have k3 := (w53.bl hb9).all3
    go_wp2_with fail
    refine wp_region_flow [(true, 0), (true, 2), (false, 1), (false, 3), (false, 4), (false, 5), (true, 6)] (fun _ => false) (by kernel_rfl) (by kernel_rfl) (by kernel_rfl) (by kernel_rfl) ?_
    iterate 2
      apply Flow.calm2 _ _ rfl rfl
      · intro w' hb' K' hK'
        obtain ⟨hc', hf'⟩ := hb'.rule
        go_simp
        try go_ints
        exact hK'
      · intro K' hK'
        simp only [Act.put, List.setIfInBounds_toArray, List.set_cons_zero, List.set_cons_succ]
        exact hK'
    apply Flow.move rfl
    go_wp2_with fail
    refine (bitsError_any _ _ _ _ _ _).mono ?_
    rintro e w9 ⟨rfl, HB1⟩
    have k3 := ((w53.bl hb9).bl ((Bl.refl _).drew.trans HB1)).all3
    go_wp2_with fail
    refine ⟨fun _ => (by first | exact HB1 | exact Bl.refl _), ?_⟩
    apply Flow.move rfl
    go_wp2_with fail
    refine (bitsError_any _ _ _ _ _ _).mono ?_
    rintro e w10 ⟨rfl, HB2⟩
    go_wp2_with fail
    refine ⟨fun _ => (by first | exact HB2 | exact Bl.refl _), ?_⟩
    apply Flow.move rfl
    go_wp2_with fail
    refine ⟨fun _ => ?_, ?_⟩
    · repeat' (first | exact Bl.refl _ | refine Bl.drewL ?_ | refine Bl.drew ?_ | refine Bl.alloc ?_ _)
    apply Flow.move rfl
    go_wp2_with fail
    refine (first2_any _ _ _ _ (Blk.new _ _ _)).mono ?_
    rintro e w11 ⟨rfl, rfl⟩
    go_wp2_with fail
    refine ⟨fun _ => (by first | exact HB4 | exact Bl.refl _), ?_⟩
    iterate 1
      apply Flow.asg _ rfl
      · intro K' hK'
        simp only [Act.put, Act.eval, List.setIfInBounds_toArray, List.set_cons_zero, List.set_cons_succ, arr_getD, List.getD_cons_zero, List.getD_cons_succ]
        exact hK'
    refine Flow.done ?_
    have hbA := (((Bl.refl _).drew.trans HB1).trans HB2).alloc (.cells #[.int .i64 (pageErr bW bH bn), .int .i64 (pageErr cW cH cn)] 26)
    have hbB := hb9.trans hbA
    have kp2 := (kp.bl hbA)
    clear kp k2 k3 k4 k5
    by_cases hf : firstNZ [pageErr bW bH bn, pageErr cW cH cn] = 0
    · have Hf := Lib.hid hf
      unfold PastePost at ppost
      rw [if_pos hf] at ppost
      obtain ⟨e1, e2⟩ := firstNZ2 hf
      obtain ⟨s1, n1⟩ := pageErr_zero e1
      obtain ⟨s2, n2⟩ := pageErr_zero e2
      have z1 := sizeErr_zero s1
      have z2 := sizeErr_zero s2
      obtain ⟨bW, rfl⟩ := Int.eq_ofNat_of_zero_le (show 0 ≤ bW by omega)
      obtain ⟨bH, rfl⟩ := Int.eq_ofNat_of_zero_le (show 0 ≤ bH by omega)
      obtain ⟨cW, rfl⟩ := Int.eq_ofNat_of_zero_le (show 0 ≤ cW by omega)
      obtain ⟨cH, rfl⟩ := Int.eq_ofNat_of_zero_le (show 0 ≤ cH by omega)
      obtain rfl : bn = bW * bH := by have := Int.natCast_mul bW bH; omega
      obtain rfl : cn = cW * cH := by have := Int.natCast_mul cW cH; omega
      rw [Int.toNat_natCast, Int.toNat_natCast, Int.toNat_natCast, Int.toNat_natCast] at ppost
      have ub : bW ≤ 4000 ∧ bH ≤ 4000 ∧ cW ≤ 4000 ∧ cH ≤ 4000 := by omega
      have hbd : bW * bH ≤ 1048576 := by have := Int.natCast_mul bW bH; omega
      have Pp := Lib.hid ppost; have S1 := Lib.hid s1; have S2 := Lib.hid s2
      clear ppost e1 e2 s1 s2 n1 n2 z1 z2 hf
      generalize hfe : firstNZ [pageErr bW bH (bW * bH), pageErr cW cH (cW * cH)] = f at Hf ⊢
      obtain rfl : f = 0 := Hf.out
      clear hfe
      go_wp2_with fail
      refine (pages_any _).mono ?_
      rintro e w12 ⟨rfl, hb12⟩
      have k2 := ((w52.bl hbB).bl hb12).all3
      have kp3 := (kp2.bl hb12).all3
      cases hsm : smallB bW bH
      · have Hsm := Lib.hid hsm; clear hsm
        go_wp2_with (go_at_call 21; refine (small_any _ _ _).mono ?_; rintro e w' ⟨rfl, rfl⟩; rw [Hsm.out])
        refine (pages_any _).mono ?_
        rintro e w13 ⟨rfl, hb13⟩
        go_wp2_with fail
        go_ret
        exact ⟨rfl, (((w5b.trans hbB).trans hb12).trans hb13)⟩
      · have Hsm := Lib.hid hsm; clear hsm
        have hbC := hbB.trans hb12
        have hm := mixes2_makes _ _ _ _ bW bH cW cH A C bc cc bs cs x y w12 (w52.bl hbC) (w53.bl hbC) (w54.bl hbC) (w55.bl hbC) ((hA.bl w5b).bl hbC) ((hC.bl w5b).bl hbC) ub.1 ub.2.1 ub.2.2.1 ub.2.2.2
        have Hm := Lib.hid hm; clear hm
        go_wp2_with (go_at_call 21; refine (small_any _ _ _).mono ?_; rintro e w' ⟨rfl, rfl⟩; rw [Hsm.out])
        refine (bitsIs_ok bW bH _ _ _ _ _ (Pp.out.is.bl ((((Bl.refl _).alloc _).trans hbA).trans hb12)) Hm.out (by omega)).mono ?_
        rintro e w13 ⟨rfl, hb13⟩
        go_wp2_with fail
        go_ret
        exact ⟨rfl, (((w5b.trans hbB).trans hb12).trans hb13)⟩
    · have hq : (firstNZ [pageErr bW bH bn, pageErr cW cH cn] == 0) = false := by simp [hf]
      unfold PastePost at ppost
      rw [if_neg hf] at ppost
      obtain ⟨rfl, rfl, rfl, rfl, rfl⟩ := ppost
      generalize hfe : firstNZ [pageErr bW bH bn, pageErr cW cH cn] = f at hf hq ⊢
      have Hf := Lib.hid hf
      clear hfe hf
      go_wp2_with fail
      refine (pages_any _).mono ?_
      rintro e w12 ⟨rfl, hb12⟩
      have kp3 := (kp2.bl hb12).all3
      go_wp2_with fail
      refine (bitsIs_bad _ _ _ Hf.out).mono ?_
      rintro e w13 ⟨rfl, hb13⟩
      go_wp2_with fail
      go_ret
      exact ⟨rfl, (((w5b.trans hbB).trans hb12).trans hb13)⟩

end Go.Proofs.Ytldmofdidgibhaa
