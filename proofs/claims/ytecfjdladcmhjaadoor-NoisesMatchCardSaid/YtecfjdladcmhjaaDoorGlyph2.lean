/- glyph.checkLetter is ltrErr. -/
import Derived.Test.YtecfjdladcmhjaaDoorGlyph1
namespace Go.Proofs.YtecfjdladcmhjaaDoor
open Go.RowKit

set_option maxRecDepth 100000 in
set_option maxHeartbeats 4000000 in
theorem checkLetter_any (nm : List UInt8) (ht gap sp : Int) (L : Option Addr) (n c : Nat) (prev : List (List UInt8)) (l : Ltr) (w : World) (hA : Reads w 1 l.A l.m (l.bs.map .bool)) (hlen : l.text.length ≤ 9223372036854775807) :
    Calls Tryd.prog 146 #[.agg #[.string ⟨nm.toArray⟩, .int .i64 ht, .int .i64 gap, .int .i64 sp, .slice L n c], l.val, .bool (decide (l.text ∈ prev))] w fun e w' => e = .returned (.int .i64 (ltrErr ht prev l)) ∧ Bl w w' := by
  unfold Ltr.val
  let w1 := ((w).alloc (.cells #[.string ⟨nm.toArray⟩, .int .i64 ht, .int .i64 gap, .int .i64 sp, .slice L n c] 67)).alloc (.cells #[.string ⟨l.text.toArray⟩, .int .i64 l.W, .int .i64 l.H, .slice l.A l.m l.c] 99)
  have w1b : Bl w w1 := ((Bl.refl w).alloc _).alloc _
  have w11 : Blk w1 (w.heap.size) 67 #[.string ⟨nm.toArray⟩, .int .i64 ht, .int .i64 gap, .int .i64 sp, .slice L n c] := by
    have h0 := Blk.new (w) 67 #[.string ⟨nm.toArray⟩, .int .i64 ht, .int .i64 gap, .int .i64 sp, .slice L n c]
    exact (h0.alloc _)
  have w12 : Blk w1 (w.heap.size + 1) 99 #[.string ⟨l.text.toArray⟩, .int .i64 l.W, .int .i64 l.H, .slice l.A l.m l.c] := by
    have h0 := Blk.new ((w).alloc (.cells #[.string ⟨nm.toArray⟩, .int .i64 ht, .int .i64 gap, .int .i64 sp, .slice L n c] 67)) 99 #[.string ⟨l.text.toArray⟩, .int .i64 l.W, .int .i64 l.H, .slice l.A l.m l.c]
    simp only [World.size_alloc] at h0
    exact h0
  have k1 := w11.all5
  have k2 := w12.all4
  have HA := Lib.hid (hA.bl w1b)
  have htx := fun w => isText_any l.text w hlen
  cases hb : textB l.text
  · rw [hb] at htx
    have HE := Lib.hid (show ltrErr ht prev l = 2 by unfold ltrErr; rw [hb]; rfl)
    have Htx := Lib.hid htx
    clear hb htx hA
    go_enter Tryd.func146, Tryd.ntmps146
    go_wp2_with fail
    refine (Htx.out _).mono ?_
    rintro e w' ⟨rfl, rfl⟩
    go_wp2_with fail
    go_ret
    exact ⟨by rw [HE.out]; rfl, w1b⟩
  · rw [hb] at htx
    cases hp : decide (l.text ∈ prev)
    · have HE := Lib.hid (show ltrErr ht prev l = firstNZ [pageErr l.W l.H l.m, whenI (l.H != ht) 11, whenI (decide (64 < l.W)) 4, whenI (bareB l.bs l.W.toNat l.H.toNat) 2] by unfold ltrErr; rw [hb, hp]; rfl)
      have Htx := Lib.hid htx
      clear hb hp htx hA
      have hcol := columns_any l.W l.H l.A l.m l.c l.bs w1 HA.out
      have Hcol := Lib.hid hcol
      clear hcol
      by_cases hz : pageErr l.W l.H l.m = 0
      · obtain ⟨W', H', eW, eH, em, hW, hH, -⟩ := page_nat hz
        have HE2 := Lib.hid (show ltrErr ht prev l = firstNZ [whenI (l.H != ht) 11, whenI (decide (64 < l.W)) 4, whenI (bareB l.bs l.W.toNat l.H.toNat) 2] by rw [HE.out, hz]; rfl)
        have HZ := Lib.hid hz
        have HW := Lib.hid (show l.W.toNat ≤ 4000 by omega)
        have hq0 : (pageErr l.W l.H l.m == 0) = true := by simp [hz]
        clear eW eH em hW hH hz
        by_cases h1 : l.H = ht
        · have q1 : (l.H == ht) = true := by simp [h1]
          by_cases h2 : 64 < l.W
          · have HE3 := Lib.hid (show ltrErr ht prev l = 4 by rw [HE2.out]; simp [firstNZ, whenI, h1, h2])
            clear h1
            go_enter Tryd.func146, Tryd.ntmps146
            go_wp2_with fail
            refine (Htx.out _).mono ?_
            rintro e w' ⟨rfl, rfl⟩
            go_wp2_with fail
            refine Hcol.out.mono ?_
            rintro e w3 ⟨P, m, d, rfl, -, hb3⟩
            have k1 := (w11.bl hb3).all5
            have k2 := (w12.bl hb3).all4
            go_wp2_with fail
            go_ret
            exact ⟨by rw [HE3.out]; rfl, w1b.trans hb3⟩
          · have HE3 := Lib.hid (show ltrErr ht prev l = whenI (bareB l.bs l.W.toNat l.H.toNat) 2 by rw [HE2.out]; simp [firstNZ, whenI, h1, h2])
            clear h1
            go_enter Tryd.func146, Tryd.ntmps146
            go_wp2_with fail
            refine (Htx.out _).mono ?_
            rintro e w' ⟨rfl, rfl⟩
            go_wp2_with fail
            refine Hcol.out.mono ?_
            rintro e w3 ⟨P, m, d, rfl, hT, hb3⟩
            obtain ⟨rfl, hR⟩ := hT.1 HZ.out
            have hcon := fun wy (hy : Bl w3 wy) => containsI_any P l.W.toNat d _ 0 wy (hR.bl hy) (by have := HW.out; omega)
            simp only [bare_mem] at hcon
            have Hcon := Lib.hid hcon
            have k1 := (w11.bl hb3).all5
            have k2 := (w12.bl hb3).all4
            clear hcon hT hR
            go_wp2_with fail
            refine (Hcon.out _ (Bl.refl _)).mono ?_
            rintro e w4 ⟨rfl, rfl⟩
            cases hbr : bareB l.bs l.W.toNat l.H.toNat
            · have HF := Lib.hid (show ltrErr ht prev l = 0 by rw [HE3.out, hbr]; rfl)
              go_wp2_with fail
              go_ret
              exact ⟨by rw [HF.out]; rfl, w1b.trans hb3⟩
            · have HF := Lib.hid (show ltrErr ht prev l = 2 by rw [HE3.out, hbr]; rfl)
              go_wp2_with fail
              go_ret
              exact ⟨by rw [HF.out]; rfl, w1b.trans hb3⟩
        · have q1 : (l.H == ht) = false := by simp [h1]
          have HE3 := Lib.hid (show ltrErr ht prev l = 11 by rw [HE2.out]; simp [firstNZ, whenI, h1])
          clear h1
          go_enter Tryd.func146, Tryd.ntmps146
          go_wp2_with fail
          refine (Htx.out _).mono ?_
          rintro e w' ⟨rfl, rfl⟩
          go_wp2_with fail
          refine Hcol.out.mono ?_
          rintro e w3 ⟨P, m, d, rfl, -, hb3⟩
          have k1 := (w11.bl hb3).all5
          have k2 := (w12.bl hb3).all4
          go_wp2_with fail
          go_ret
          exact ⟨by rw [HE3.out]; rfl, w1b.trans hb3⟩
      · have hq0 : (pageErr l.W l.H l.m == 0) = false := by simp [hz]
        have HE2 := Lib.hid (show ltrErr ht prev l = pageErr l.W l.H l.m by rw [HE.out]; simp [firstNZ, hz])
        clear hz
        go_enter Tryd.func146, Tryd.ntmps146
        go_wp2_with fail
        refine (Htx.out _).mono ?_
        rintro e w' ⟨rfl, rfl⟩
        go_wp2_with fail
        refine Hcol.out.mono ?_
        rintro e w3 ⟨P, m, d, rfl, -, hb3⟩
        have k1 := (w11.bl hb3).all5
        have k2 := (w12.bl hb3).all4
        go_wp2_with fail
        go_ret
        exact ⟨by rw [HE2.out]; rfl, w1b.trans hb3⟩
    · have HE := Lib.hid (show ltrErr ht prev l = 6 by unfold ltrErr; rw [hb, hp]; rfl)
      have Htx := Lib.hid htx
      clear hb hp htx hA
      go_enter Tryd.func146, Tryd.ntmps146
      go_wp2_with fail
      refine (Htx.out _).mono ?_
      rintro e w' ⟨rfl, rfl⟩
      go_wp2_with fail
      go_ret
      exact ⟨by rw [HE.out]; rfl, w1b⟩

end Go.Proofs.YtecfjdladcmhjaaDoor
