/- glyph.Set and glyph.Letter of any font; bedref2.TextError. -/
import Derived.Test.YtjelhdpcaileiaaDoorS27
import Derived.Test.YtjelhdpcaileiaaDoorS7
import Derived.Test.YtjelhdpcaileiaaDoorS10

namespace Go.Proofs.YtjelhdpcaileiaaDoor
open Go.RowKit Go.Shelf

def FSetRes (fe : Int) (ls : List Ltr) (ht gap sp : Int) (t : List UInt8) (w : World) (e : Ending) (w' : World) : Prop := ∃ a b R m d, e = .returned (.tuple #[.agg #[.int .i64 a, .int .i64 b, .slice R m d], .int .i64 (fsetErr fe ls ht gap sp t)]) ∧
    Res w.heap.size w' (fsetErr fe ls ht gap sp t) (wideOf ls gap.toNat sp.toNat t) ht.toNat ((setCells ls ht.toNat gap.toNat sp.toNat t).map .bool) a b R m d ∧ Bl w w'
set_option maxRecDepth 100000 in
set_option maxHeartbeats 4000000 in
theorem fset_any (nm : List UInt8) (ht gap sp : Int) (L : Option Addr) (c : Nat) (ls : List Ltr) (t : List UInt8) (w : World) (hL : LtrsAt w L ls) (hnm : nm.length ≤ 9223372036854775807) (hn : ls.length ≤ 9223372036854775807) (htl : t.length ≤ 9223372036854775807) (hv : SubOk w) :
    Calls Tryd.prog 24 #[.agg #[.string ⟨nm.toArray⟩, .int .i64 ht, .int .i64 gap, .int .i64 sp, .slice L ls.length c], .string ⟨t.toArray⟩] w (FSetRes (fontErr (nameB nm) ht gap sp ls) ls ht gap sp t w) := by
  let w2 := ((w).alloc (.cells #[.string ⟨nm.toArray⟩, .int .i64 ht, .int .i64 gap, .int .i64 sp, .slice L ls.length c] 24)).alloc (.cells #[.int .i64 0, .int .i64 0, .slice none 0 0] 27)
  have w2b : Bl w w2 := ((Bl.refl w).alloc _).alloc _
  have w21 : Blk w2 (w.heap.size) 24 #[.string ⟨nm.toArray⟩, .int .i64 ht, .int .i64 gap, .int .i64 sp, .slice L ls.length c] := by
    have h0 := Blk.new (w) 24 #[.string ⟨nm.toArray⟩, .int .i64 ht, .int .i64 gap, .int .i64 sp, .slice L ls.length c]
    exact (h0.alloc _)
  have w22 : Blk w2 (w.heap.size + 1) 27 #[.int .i64 0, .int .i64 0, .slice none 0 0] := by
    have h0 := Blk.new ((w).alloc (.cells #[.string ⟨nm.toArray⟩, .int .i64 ht, .int .i64 gap, .int .i64 sp, .slice L ls.length c] 24)) 27 #[.int .i64 0, .int .i64 0, .slice none 0 0]
    simp only [World.size_alloc] at h0
    exact h0
  have lw2 : w2.heap.size = w.heap.size + 2 := by simp [w2]
  have HL := Lib.hid (hL.bl w2b)
  have HV := Lib.hid (hv.bl w2b)
  obtain ⟨fe, hfe⟩ : ∃ x, x = fontErr (nameB nm) ht gap sp ls := ⟨_, rfl⟩
  have hck := check_any nm ht gap sp L c ls w2 (hL.bl w2b) hnm hn
  rw [← hfe] at hck ⊢
  have Hck := Lib.hid hck; have HFe := Lib.hid hfe
  have k1 := w21.all5
  clear hL hck hfe hv
  go_enter Tryd.func24, Tryd.ntmps24
  go_wp2_with fail
  refine Hck.out.mono ?_
  rintro e w3 ⟨rfl, hb3⟩
  clear_value w2
  clear k1 Hck
  have kz := (w22.bl hb3).all3
  by_cases hz : fe = 0
  case neg =>
    have hq : (fe != 0) = true := by simp [hz]
    have hq2 : (fe == 0) = false := by simp [hz]
    have HZ := Lib.hid hz
    have HE := Lib.hid (show fsetErr fe ls ht gap sp t = fe from if_neg hz)
    clear hz
    go_wp2_with fail
    refine bodyPost_ret (v := .tuple #[.agg #[.int .i64 0, .int .i64 0, .slice none 0 0], .int .i64 fe]) (by simp [results, Tryd.results24, go_sem, kz]) rfl ⟨0, 0, none, 0, 0, by rw [HE.out], by rw [HE.out]; exact Res.zero _ _ _ _ _ HZ.out, ?_⟩
    exact (((w2b.trans hb3).setCell (by simp) _).setCell (by simp) _).setCell (by simp) _
  case pos =>
    subst hz
    obtain ⟨ht', gap', sp', rfl, rfl, rfl, hR⟩ := right_of HFe.out.symm
    obtain ⟨adl, rfl⟩ := some_at HL.out hR.many.1
    have hs := setG_any nm ht' gap' sp' adl c ls t w3 (HL.out.bl hb3) hR htl (HV.out.bl hb3)
    have Hs := Lib.hid hs; have HR := Lib.hid hR
    have k1 := (w21.bl hb3).all5
    clear hs hR kz
    go_wp2_with fail
    refine Hs.out.mono ?_
    rintro e w4 ⟨a, b, R, m, d, rfl, hres, hb4⟩
    have hfs : fsetErr 0 ls ht' gap' sp' t = setErr ls ht' gap' sp' t := by unfold fsetErr; rw [if_pos rfl]; simp
    have HFs := Lib.hid hfs; have HRes := Lib.hid hres
    have hle := hb3.le
    have kz := (w22.bl (hb3.trans hb4)).all3
    clear hfs hres k1 Hs
    go_wp2_with fail
    refine bodyPost_ret (v := .tuple #[.agg #[.int .i64 a, .int .i64 b, .slice R m d], .int .i64 (setErr ls ht' gap' sp' t)]) (by simp [results, Tryd.results24, go_sem, kz]) rfl ⟨a, b, R, m, d, by rw [HFs.out], ?_, ?_⟩
    · rw [HFs.out]
      simp only [Int.toNat_natCast]
      have hB : w.heap.size + 2 ≤ w3.heap.size := by omega
      exact ((((HRes.out.mono hB).store (by simp) _).store (by simp) _).store (by simp) _).mono (by omega)
    · exact (((w2b.trans (hb3.trans hb4)).setCell (by simp) _).setCell (by simp) _).setCell (by simp) _

/-- What is said of Letter's answer. -/
def LetterRes (fe : Int) (ls : List Ltr) (t : List UInt8) (w : World) (e : Ending) (w' : World) : Prop := ∃ (tx : List UInt8) (a b : Int) (R : Option Addr) (m d : Nat) (err : Int), e = .returned (.tuple #[.agg #[.string ⟨tx.toArray⟩, .int .i64 a, .int .i64 b, .slice R m d], .int .i64 err]) ∧
    (∀ i, FirstIs ls (fun y => decide (y.text = t)) i → err = firstNZ [fe, whenI (decide (i < 0)) 10]) ∧ (err ≠ 0 → tx = [] ∧ a = 0 ∧ b = 0 ∧ R = none ∧ m = 0 ∧ d = 0) ∧ (err = 0 → ∀ (k : Nat) l, FirstIs ls (fun y => decide (y.text = t)) (k : Int) → ls[k]? = some l → tx = t ∧ a = l.W ∧ b = l.H ∧ m = l.m ∧ Reads w' 1 R l.m (l.bs.map .bool)) ∧ Bl w w'
end Go.Proofs.YtjelhdpcaileiaaDoor
