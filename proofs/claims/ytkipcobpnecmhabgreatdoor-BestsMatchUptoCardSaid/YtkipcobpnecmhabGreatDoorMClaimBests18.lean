/- forms.checkField. -/
import Derived.Test.YtkipcobpnecmhabGreatDoorMClaimBests16
import Derived.Test.YtkipcobpnecmhabGreatDoorMClaimBests1
import Derived.Test.YtkipcobpnecmhabGreatDoorMClaimBests4
import Derived.Test.YtkipcobpnecmhabGreatDoorMClaimBests7
import Derived.Laws.EntriesVeiled

namespace Go.Proofs.YtkipcobpnecmhabGreatDoor
open Go.RowKit

set_option maxRecDepth 100000 in
set_option maxHeartbeats 4000000 in
theorem nearestO_any (r : Nat) (G : Int → Int → Bool) (F : Int → Int → Nat) (kg : FuncId) (capg : Array Value) (kf : FuncId) (cap : Array Value) (w : World) (hr : r ≤ 8) (hentg : ∀ args w, (callFunc kg args).run Tryz.prog w = .ok (.enter kg args) w) (hent : ∀ args w, (callFunc kf args).run Tryz.prog w = .ok (.enter kf args) w)
    (hG : ∀ wx (x y : Int), Bl w wx → -8 ≤ x ∧ x ≤ 8 → -8 ≤ y ∧ y ≤ 8 → Calls Tryz.prog kg (#[.int .i64 x, .int .i64 y] ++ capg) wx fun e w' => e = .returned (.bool (G x y)) ∧ Bl wx w')
    (hF : ∀ wx (x y : Int), Bl w wx → -8 ≤ x ∧ x ≤ 8 → -8 ≤ y ∧ y ≤ 8 → G x y = true → Calls Tryz.prog kf (#[.int .i64 x, .int .i64 y] ++ cap) wx fun e w' => e = .returned (.int .i64 (F x y)) ∧ Bl wx w') :
    Calls Tryz.prog 60 #[.int .i64 r, .func (.func kg) #[] capg, .func (.func kf) #[] cap] w
      fun e w' => ∃ X Y N fd, e = .returned (.tuple #[.int .i64 X, .int .i64 Y, .int .i64 N]) ∧ StP (fun j => G (dxOf r j) (dyOf r j)) (fun j => F (dxOf r j) (dyOf r j)) r (2 * r + 1) 0 X Y N fd ∧ Bl w w' := by
  obtain ⟨ok, hok⟩ : ∃ o : Nat → Bool, o = fun j => G (dxOf r j) (dyOf r j) := ⟨_, rfl⟩
  obtain ⟨num, hnum⟩ : ∃ o : Nat → Nat, o = fun j => F (dxOf r j) (dyOf r j) := ⟨_, rfl⟩
  rw [← hok, ← hnum]
  have HG := Lib.hid hG; have HF := Lib.hid hF
  have HOk := Lib.hid (show ∀ j, ok j = G (dxOf r j) (dyOf r j) from fun j => by rw [hok]); have HNum := Lib.hid (show ∀ j, num j = F (dxOf r j) (dyOf r j) from fun j => by rw [hnum])
  have St0 := Lib.hid (StP.start ok num r)
  clear hG hF hok hnum
  go_enter Tryz.func60, Tryz.ntmps60
  go_wp2_with fail
  go_loopw [9, 10, 11, 12, 13] (fun a b c d u wr => ∃ (f : Nat) (X Y N : Int) (fd : Bool), f ≤ 2 * r + 1 ∧ u = .int .i64 f ∧ a = .int .i64 X ∧ b = .int .i64 Y ∧ c = .int .i64 N ∧ d = .bool fd ∧ Hid (StP ok num r f 0 X Y N fd) ∧ Bl w wr) (fun _ _ _ _ u _ => 2 * r + 1 - (intOf u).toNat)
  case atStart => exact ⟨0, 0, 0, 0, false, Nat.zero_le _, rfl, rfl, rfl, rfl, rfl, St0, Bl.refl _⟩
  case round =>
    obtain ⟨f, X, Y, N, fd, hf, rfl, rfl, rfl, rfl, rfl, hst, hbr⟩ := hrel
    by_cases hlt : f < 2 * r + 1
    · have d1 : decide ((f : Int) ≤ 2 * (r : Int)) = true := by simp; omega
      go_wp2_with fail
      go_loopw [9, 10, 11, 12, 14] (fun a b c d u wr => ∃ (v : Nat) (X Y N : Int) (fd : Bool), v ≤ 2 * r + 1 ∧ u = .int .i64 ((v : Int) - r) ∧ a = .int .i64 X ∧ b = .int .i64 Y ∧ c = .int .i64 N ∧ d = .bool fd ∧ Hid (StP ok num r f (v * (2 * r + 1)) X Y N fd) ∧ Bl w wr) (fun _ _ _ _ u _ => (r + 1 - intOf u).toNat)
      case atStart => exact ⟨0, X, Y, N, fd, Nat.zero_le _, by simp, rfl, rfl, rfl, rfl, by rw [Nat.zero_mul]; exact hst, hbr⟩
      case round =>
        clear hst hbr
        rename_i wo _ _ _ _ _ _ _
        obtain ⟨v, X, Y, N, fd, hv, rfl, rfl, rfl, rfl, rfl, hst, hbr⟩ := hrel
        by_cases hlt2 : v < 2 * r + 1
        · have d2 : decide ((v : Int) - (r : Int) ≤ (r : Int)) = true := by simp; omega
          go_wp2_with fail
          go_loopw [9, 10, 11, 12, 15] (fun a b c d u wr => ∃ (x : Nat) (X Y N : Int) (fd : Bool), x ≤ 2 * r + 1 ∧ u = .int .i64 ((x : Int) - r) ∧ a = .int .i64 X ∧ b = .int .i64 Y ∧ c = .int .i64 N ∧ d = .bool fd ∧ Hid (StP ok num r f (v * (2 * r + 1) + x) X Y N fd) ∧ Bl w wr) (fun _ _ _ _ u _ => (r + 1 - intOf u).toNat)
          case atStart => exact ⟨0, X, Y, N, fd, Nat.zero_le _, by simp, rfl, rfl, rfl, rfl, hst, hbr⟩
          case round =>
            clear hst hbr
            rename_i wo2 _ _ _ _ _ _ _
            obtain ⟨x, X, Y, N, fd, hx, rfl, rfl, rfl, rfl, rfl, hst, hbr⟩ := hrel
            by_cases hlt3 : x < 2 * r + 1
            · obtain ⟨q, hq⟩ : ∃ q, q = farOf r (v * (2 * r + 1) + x) := ⟨_, rfl⟩
              have edx := dxOf_at r v x hlt3
              have edy := dyOf_at r v x hlt3
              have eq : (((x : Int) - r).natAbs : Int) + (((v : Int) - r).natAbs : Int) = (q : Int) := by
                rw [hq]; unfold farOf; rw [edx, edy]; simp
              have hm : v * (2 * r + 1) + x < (2 * r + 1) * (2 * r + 1) := place_lt hlt3 hlt2
              have hokj := HOk.out (v * (2 * r + 1) + x)
              have hnumj := HNum.out (v * (2 * r + 1) + x)
              rw [edx, edy] at hokj hnumj
              have hokc := HG.out wr ((x : Int) - r) ((v : Int) - r) hbr (by omega) (by omega)
              have hcall := fun wx (hx : Bl w wx) (hg : G ((x : Int) - r) ((v : Int) - r) = true) => HF.out wx ((x : Int) - r) ((v : Int) - r) hx (by omega) (by omega) hg
              rw [← hnumj] at hcall
              rw [← hokj] at hokc hcall
              obtain ⟨n, hn⟩ : ∃ n, n = num (v * (2 * r + 1) + x) := ⟨_, rfl⟩
              rw [← hn] at hcall
              obtain ⟨bk, hbk⟩ : ∃ b, b = ok (v * (2 * r + 1) + x) := ⟨_, rfl⟩
              rw [← hbk] at hokc hcall
              have b1 : -1000000 ≤ (x : Int) - r ∧ (x : Int) - r ≤ 1000000 := by omega
              have b2 : -1000000 ≤ (v : Int) - r ∧ (v : Int) - r ≤ 1000000 := by omega
              have Hokc := Lib.hid hokc; have Hq := Lib.hid hq; have Hm := Lib.hid hm; have Edx := Lib.hid edx; have Edy := Lib.hid edy; have Hn := Lib.hid hn; have Hbk := Lib.hid hbk; have Hcl := Lib.hid hcall
              clear hokc hq hm edx edy hn hnumj hokj hbk hcall
              by_cases hfar : q = f
              · subst hfar
                cases bk with
                | false =>
                  have Hs := Lib.hid (hst.out.skip (.inr Hbk.out.symm))
                  go_wp2_with (go_at_call 83; refine (abs_any _ _ (by omega)).mono ?_; rintro e w' ⟨rfl, rfl⟩)
                  refine Hokc.out.mono ?_
                  rintro e w1 ⟨rfl, hb1⟩
                  go_wp2_with fail
                  exact ⟨⟨x + 1, _, _, _, fd, hlt3, by go_num, rfl, rfl, rfl, rfl, Hs, hbr.trans hb1⟩, by simp [intOf]; omega⟩
                | true =>
                  have Hcall := Lib.hid (fun wx hx => Hcl.out wx hx rfl)
                  clear Hcl
                  cases fd
                  · have hs := hst.out.take Hm.out Hq.out.symm Hbk.out.symm (Or.inl rfl)
                    rw [Edx.out, Edy.out, ← Hn.out] at hs
                    have Hs := Lib.hid hs
                    clear hs
                    go_wp2_with (go_at_call 83; refine (abs_any _ _ (by omega)).mono ?_; rintro e w' ⟨rfl, rfl⟩)
                    refine Hokc.out.mono ?_
                    rintro e w1 ⟨rfl, hb1⟩
                    go_wp2_with fail
                    refine (Hcall.out w1 (hbr.trans hb1)).mono ?_
                    rintro e w2 ⟨rfl, hb2⟩
                    go_wp2_with fail
                    exact ⟨⟨x + 1, _, _, _, true, hlt3, by go_num, rfl, rfl, rfl, rfl, Hs, (hbr.trans hb1).trans hb2⟩, by simp [intOf]; omega⟩
                  · by_cases hlt4 : (n : Int) < N
                    · have hs := hst.out.take Hm.out Hq.out.symm Hbk.out.symm (Or.inr (by rw [← Hn.out]; exact hlt4))
                      rw [Edx.out, Edy.out, ← Hn.out] at hs
                      have Hs := Lib.hid hs
                      clear hs
                      go_wp2_with (go_at_call 83; refine (abs_any _ _ (by omega)).mono ?_; rintro e w' ⟨rfl, rfl⟩)
                      refine Hokc.out.mono ?_
                      rintro e w1 ⟨rfl, hb1⟩
                      go_wp2_with fail
                      refine (Hcall.out w1 (hbr.trans hb1)).mono ?_
                      rintro e w2 ⟨rfl, hb2⟩
                      go_wp2_with fail
                      exact ⟨⟨x + 1, _, _, _, true, hlt3, by go_num, rfl, rfl, rfl, rfl, Hs, (hbr.trans hb1).trans hb2⟩, by simp [intOf]; omega⟩
                    · have hs := hst.out.keep Hq.out.symm (by rw [← Hn.out]; simp only [Bool.true_eq_false, false_or]; exact hlt4)
                      have Hs := Lib.hid hs
                      clear hs
                      go_wp2_with (go_at_call 83; refine (abs_any _ _ (by omega)).mono ?_; rintro e w' ⟨rfl, rfl⟩)
                      refine Hokc.out.mono ?_
                      rintro e w1 ⟨rfl, hb1⟩
                      go_wp2_with fail
                      refine (Hcall.out w1 (hbr.trans hb1)).mono ?_
                      rintro e w2 ⟨rfl, hb2⟩
                      go_wp2_with fail
                      exact ⟨⟨x + 1, _, _, _, true, hlt3, by go_num, rfl, rfl, rfl, rfl, Hs, (hbr.trans hb1).trans hb2⟩, by simp [intOf]; omega⟩
              · have hs := hst.out.skip (.inl (by rw [← Hq.out]; exact hfar))
                have Hs := Lib.hid hs
                have hne : ((q : Int) != (f : Int)) = true := by simp; omega
                clear hs
                go_wp2_with (go_at_call 83; refine (abs_any _ _ (by omega)).mono ?_; rintro e w' ⟨rfl, rfl⟩)
                exact ⟨⟨x + 1, _, _, _, fd, hlt3, by go_num, rfl, rfl, rfl, rfl, Hs, hbr⟩, by simp [intOf]; omega⟩
            · obtain rfl : x = 2 * r + 1 := by omega
              go_wp2_with fail
              exact ⟨⟨v + 1, X, Y, N, fd, hlt2, by go_num, rfl, rfl, rfl, rfl, by rw [Nat.add_mul, Nat.one_mul]; exact hst, hbr⟩, by simp [intOf]; omega⟩
        · obtain rfl : v = 2 * r + 1 := by omega
          go_wp2_with fail
          exact ⟨⟨f + 1, X, Y, N, fd, hlt, by go_num, rfl, rfl, rfl, rfl, Lib.hid hst.out.level, hbr⟩, by simp [intOf]; omega⟩
    · obtain rfl : f = 2 * r + 1 := by omega
      go_wp2_with fail
      refine bodyPost_ret (v := .tuple #[.int .i64 X, .int .i64 Y, .int .i64 N]) (by simp [results, Tryz.results60, go_sem]) rfl ⟨X, Y, N, fd, rfl, hst.out, hbr⟩

/-- Where anchors and pages lie. -/
def AncB (w : World) (g : Nat) (a : Anc) : Prop := Blk w g 57 #[.int .i64 a.W, .int .i64 a.H, .slice a.A a.m a.c, .int .i64 a.X, .int .i64 a.Y]
def FrmB (w : World) (g : Nat) (f : Frm) : Prop := Blk w g 34 #[.string ⟨f.name.toArray⟩, .int .i64 f.W, .int .i64 f.H, .int .i64 f.reach, .int .i64 f.dark, .slice f.AL f.la.length f.ac, .slice f.FL f.lf.length f.fc, .slice f.RL f.lr.length f.rc]
set_option maxRecDepth 100000 in
set_option maxHeartbeats 2000000 in
theorem foundOf1_any (f : Frm) (a : Anc) (ga gf W H : Nat) (x y : Int) (w : World) (hfW : f.W = (W : Int)) (hfH : f.H = (H : Int)) (hW : 1 ≤ W ∧ W ≤ 4000) (hH : 1 ≤ H ∧ H ≤ 4000) (hA : AncB w ga a) (hF : FrmB w gf f) (hX : 0 ≤ a.X ∧ a.X ≤ 4000) (hY : 0 ≤ a.Y ∧ a.Y ≤ 4000) (hx : -8 ≤ x ∧ x ≤ 8) (hy : -8 ≤ y ∧ y ≤ 8) :
    Calls Tryz.prog 59 #[.int .i64 x, .int .i64 y, .pointer (some ⟨ga, 0, none⟩), .pointer (some ⟨gf, 0, none⟩)] w fun e w' => e = .returned (.bool (inPageB (a.X + x) (a.Y + y) a.W a.H W H)) ∧ Bl w w' := by
  obtain ⟨nm, fW, fH, reach, dark, AL, ac, la, FL, fc, lf, RL, rc, lr⟩ := f
  obtain ⟨aW, aH, A, am, aC, bs, X, Y⟩ := a
  simp only at hfW hfH hX hY
  subst hfW hfH
  unfold AncB at hA
  unfold FrmB at hF
  have hip := fun wx => inPageOf_any (X + x) (Y + y) aW aH W H wx
  simp only [inPageW_eq (show 1 ≤ (W : Int) ∧ (W : Int) ≤ 4000 by omega) (show 1 ≤ (H : Int) ∧ (H : Int) ≤ 4000 by omega)] at hip
  have Hip := Lib.hid hip
  have k1 := hA.all5
  have k2 := hF.all8
  simp only at k1 k2
  clear hip hA hF
  go_enter Tryz.func59, Tryz.ntmps59
  go_wp2_with fail
  refine (Hip.out _).mono ?_
  rintro e w1 ⟨rfl, hb1⟩
  go_wp2_with fail
  go_ret
  exact ⟨rfl, hb1⟩
set_option maxRecDepth 100000 in
set_option maxHeartbeats 2000000 in
theorem foundOf2_any (a : Anc) (ga gb W H BW BH PX PY : Nat) (C : Option Addr) (cc : Nat) (cs : List Bool) (x y : Int) (w : World) (hW : W ≤ 4000) (hH : H ≤ 4000) (haW : a.W = (BW : Int)) (haH : a.H = (BH : Int)) (ham : a.m = BW * BH) (hA : AncB w ga a) (hB : Blk w gb 25 #[.int .i64 W, .int .i64 H, .slice C (W * H) cc]) (hR : Reads w 1 a.A a.m (a.bs.map .bool)) (hC : Reads w 1 C (W * H) (cs.map .bool))
    (hX : a.X + x = (PX : Int)) (hY : a.Y + y = (PY : Int)) (hx : -8 ≤ x ∧ x ≤ 8) (hy : -8 ≤ y ∧ y ≤ 8) (h1 : PX + BW ≤ W) (h2 : PY + BH ≤ H) :
    Calls Tryz.prog 61 #[.int .i64 x, .int .i64 y, .pointer (some ⟨ga, 0, none⟩), .pointer (some ⟨gb, 0, none⟩)] w fun e w' => e = .returned (.int .i64 (cntD a.bs (grid BW BH (cutF cs W PX PY)) BW BH 0 0 (BW * BH))) ∧ Bl w w' := by
  obtain ⟨aW, aH, A, am, aC, bs, X, Y⟩ := a
  simp only at haW haH ham hX hY hR
  subst haW haH ham
  unfold AncB at hA
  have hct := fun wx (h : Bl w wx) => cutOf_any W H PX PY BW BH C cc cs wx (hC.bl h) hW hH h1 h2
  have hdf := fun (R : Option Addr) (rc : Nat) wx (hr : Reads wx 1 A (BW * BH) (bs.map .bool)) (hq : Reads wx 1 R (BW * BH) ((grid BW BH (cutF cs W PX PY)).map .bool)) => differOf_any BW BH A R aC rc bs (grid BW BH (cutF cs W PX PY)) 0 0 wx hr hq (by omega) (by omega) (by omega) (by omega)
  obtain ⟨gr, hgr⟩ : ∃ l, l = grid BW BH (cutF cs W PX PY) := ⟨_, rfl⟩
  rw [← hgr] at hct hdf ⊢
  have Hct := Lib.hid hct; have Hdf := Lib.hid hdf; have HR := Lib.hid hR
  have k1 := hA.all5
  have k2 := hB.all3
  simp only at k1
  have bX : -5000 ≤ X ∧ X ≤ 5000 := by omega
  have bY : -5000 ≤ Y ∧ Y ≤ 5000 := by omega
  clear hct hdf hA hB hR hC hgr
  go_enter Tryz.func61, Tryz.ntmps61
  go_upto_region 1 with fail
  refine wp_region_flow [(true, 0), (true, 1), (true, 2), (true, 3), (true, 4), (true, 5), (true, 6), (true, 7), (true, 8), (true, 9), (true, 10), (true, 11), (true, 12), (true, 13), (true, 14), (true, 15), (true, 16), (true, 17), (false, 18), (false, 19), (true, 20)] (fun _ => false) (by kernel_rfl) (by kernel_rfl) (by kernel_rfl) (by kernel_rfl) ?_
  iterate 1
    apply Flow.calm2 _ _ rfl rfl
    · intro w' hb' K' hK'
      obtain ⟨hc', hf'⟩ := hb'.rule
      go_simp
      try go_ints
      exact hK'
    · intro K' hK'
      simp only [Act.put, List.setIfInBounds_toArray, List.set_cons_zero, List.set_cons_succ]
      exact hK'
  iterate 2
    apply Flow.calm2 _ _ rfl rfl
    · intro w' hb' K' hK'
      obtain ⟨hc', hf'⟩ := hb'.rule
      go_simp
      try go_ints
      exact hK'
    · intro K' hK'
      simp only [Act.put, List.setIfInBounds_toArray, List.set_cons_zero, List.set_cons_succ]
      exact hK'
  iterate 1
    apply Flow.calm2 _ _ rfl rfl
    · intro w' hb' K' hK'
      obtain ⟨hc', hf'⟩ := hb'.rule
      go_simp
      try go_ints
      exact hK'
    · intro K' hK'
      simp only [Act.put, List.setIfInBounds_toArray, List.set_cons_zero, List.set_cons_succ]
      exact hK'
  iterate 1
    apply Flow.calm2 _ _ rfl rfl
    · intro w' hb' K' hK'
      obtain ⟨hc', hf'⟩ := hb'.rule
      go_simp
      try go_ints
      exact hK'
    · intro K' hK'
      simp only [Act.put, List.setIfInBounds_toArray, List.set_cons_zero, List.set_cons_succ]
      exact hK'
  iterate 1
    apply Flow.mv _ rfl
    · intro K' hK'
      simp only [Act.put, Act.eval, List.setIfInBounds_toArray, List.set_cons_zero, List.set_cons_succ, arr_getD, List.getD_cons_zero]
      exact hK'
  iterate 1
    apply Flow.calm2 _ _ rfl rfl
    · intro w' hb' K' hK'
      obtain ⟨hc', hf'⟩ := hb'.rule
      go_simp
      try go_ints
      exact hK'
    · intro K' hK'
      simp only [Act.put, List.setIfInBounds_toArray, List.set_cons_zero, List.set_cons_succ]
      exact hK'
  iterate 1
    apply Flow.calm2 _ _ rfl rfl
    · intro w' hb' K' hK'
      obtain ⟨hc', hf'⟩ := hb'.rule
      go_simp
      try go_ints
      exact hK'
    · intro K' hK'
      simp only [Act.put, List.setIfInBounds_toArray, List.set_cons_zero, List.set_cons_succ]
      exact hK'
  iterate 1
    apply Flow.calm2 _ _ rfl rfl
    · intro w' hb' K' hK'
      obtain ⟨hc', hf'⟩ := hb'.rule
      go_simp
      try go_ints
      exact hK'
    · intro K' hK'
      simp only [Act.put, List.setIfInBounds_toArray, List.set_cons_zero, List.set_cons_succ]
      exact hK'
  iterate 1
    apply Flow.mv _ rfl
    · intro K' hK'
      simp only [Act.put, Act.eval, List.setIfInBounds_toArray, List.set_cons_zero, List.set_cons_succ, arr_getD, List.getD_cons_zero, List.getD_cons_succ]
      exact hK'
  iterate 1
    apply Flow.calm2 _ _ rfl rfl
    · intro w' hb' K' hK'
      obtain ⟨hc', hf'⟩ := hb'.rule
      go_simp
      try go_ints
      exact hK'
    · intro K' hK'
      simp only [Act.put, List.setIfInBounds_toArray, List.set_cons_zero, List.set_cons_succ]
      exact hK'
  iterate 2
    apply Flow.calm2 _ _ rfl rfl
    · intro w' hb' K' hK'
      obtain ⟨hc', hf'⟩ := hb'.rule
      go_simp
      try go_ints
      exact hK'
    · intro K' hK'
      simp only [Act.put, List.setIfInBounds_toArray, List.set_cons_zero, List.set_cons_succ]
      exact hK'
  iterate 1
    apply Flow.calm2 _ _ rfl rfl
    · intro w' hb' K' hK'
      obtain ⟨hc', hf'⟩ := hb'.rule
      go_simp
      try go_ints
      exact hK'
    · intro K' hK'
      simp only [Act.put, List.setIfInBounds_toArray, List.set_cons_zero, List.set_cons_succ]
      exact hK'
  iterate 2
    apply Flow.calm2 _ _ rfl rfl
    · intro w' hb' K' hK'
      obtain ⟨hc', hf'⟩ := hb'.rule
      go_simp
      try go_ints
      exact hK'
    · intro K' hK'
      simp only [Act.put, List.setIfInBounds_toArray, List.set_cons_zero, List.set_cons_succ]
      exact hK'
  iterate 1
    apply Flow.calm2 _ _ rfl rfl
    · intro w' hb' K' hK'
      obtain ⟨hc', hf'⟩ := hb'.rule
      go_simp
      try go_ints
      exact hK'
    · intro K' hK'
      simp only [Act.put, List.setIfInBounds_toArray, List.set_cons_zero, List.set_cons_succ]
      exact hK'
  iterate 1
    apply Flow.calm2 _ _ rfl rfl
    · intro w' hb' K' hK'
      obtain ⟨hc', hf'⟩ := hb'.rule
      go_simp
      try go_ints
      exact hK'
    · intro K' hK'
      simp only [Act.put, List.setIfInBounds_toArray, List.set_cons_zero, List.set_cons_succ]
      exact hK'
  apply Flow.move rfl
  go_wp2_with fail
  refine (Hct.out _ (Bl.refl _).drew).mono ?_
  rintro e w1 ⟨R, rc, rfl, hr1, -, HB1⟩
  have hb1 : Bl w w1 := Bl.ofDrew HB1
  go_wp2_with fail
  refine ⟨fun _ => (by first | exact HB1 | exact Bl.refl _), ?_⟩
  apply Flow.move rfl
  go_wp2_with fail
  refine (Hdf.out R rc _ (HR.out.bl hb1) hr1).mono ?_
  rintro e w2 ⟨rfl, HB2⟩
  go_wp2_with fail
  refine ⟨fun _ => (by first | exact HB2 | exact Bl.refl _), ?_⟩
  iterate 1
    apply Flow.asg _ rfl
    · intro K' hK'
      simp only [Act.put, Act.eval, List.setIfInBounds_toArray, List.set_cons_zero, List.set_cons_succ, arr_getD, List.getD_cons_zero, List.getD_cons_succ]
      exact hK'
  refine Flow.done ?_
  go_wp2_with fail
  go_ret
  exact ⟨rfl, hb1.trans HB2⟩

set_option maxRecDepth 100000 in
set_option maxHeartbeats 4000000 in
theorem foundOf_any (f : Frm) (a : Anc) (C : Option Addr) (cc : Nat) (cs : List Bool) (W H BW BH r : Nat) (w : World) (hfW : f.W = (W : Int)) (hfH : f.H = (H : Int)) (hfr : f.reach = (r : Int)) (haW : a.W = (BW : Int)) (haH : a.H = (BH : Int)) (ham : a.m = BW * BH) (hr : r ≤ 8)
    (hW : 1 ≤ W ∧ W ≤ 4000) (hH : 1 ≤ H ∧ H ≤ 4000) (hin : a.box.inP f.W f.H = true) (hA : Reads w 1 a.A a.m (a.bs.map .bool)) (hC : Reads w 1 C (W * H) (cs.map .bool)) :
    Calls Tryz.prog 29 #[f.val, a.val, .agg #[.int .i64 W, .int .i64 H, .slice C (W * H) cc]] w
      fun e w' => e = .returned (.agg #[.int .i64 (foundA f cs a).1, .int .i64 (foundA f cs a).2.1, .int .i64 (foundA f cs a).2.2]) ∧ Bl w w' := by
  obtain ⟨FX, hFX⟩ : ∃ o, o = foundA f cs a := ⟨_, rfl⟩
  rw [← hFX]
  have hin2 := of_decide_eq_true (show decide (0 ≤ a.X ∧ a.X < f.W ∧ 0 ≤ a.Y ∧ a.Y < f.H ∧ 1 ≤ a.W ∧ a.W ≤ f.W - a.X ∧ 1 ≤ a.H ∧ a.H ≤ f.H - a.Y) = true from hin)
  rw [hfW, hfH] at hin2
  obtain ⟨nm, fW, fH, reach, dark, AL, ac, la, FL, fc, lf, RL, rc, lr⟩ := f
  simp only at hfW hfH hfr hin
  subst hfW hfH hfr
  let w4 := ((((w).alloc (.cells #[.string ⟨nm.toArray⟩, .int .i64 W, .int .i64 H, .int .i64 r, .int .i64 dark, .slice AL la.length ac, .slice FL lf.length fc, .slice RL lr.length rc] 34)).alloc (.cells #[.int .i64 a.W, .int .i64 a.H, .slice a.A a.m a.c, .int .i64 a.X, .int .i64 a.Y] 57)).alloc (.cells #[.int .i64 W, .int .i64 H, .slice C (W * H) cc] 25)).alloc (.cells #[.int .i64 0, .int .i64 0, .int .i64 0] 55)
  have w4b : Bl w w4 := ((((Bl.refl w).alloc _).alloc _).alloc _).alloc _
  have w41 : Blk w4 (w.heap.size) 34 #[.string ⟨nm.toArray⟩, .int .i64 W, .int .i64 H, .int .i64 r, .int .i64 dark, .slice AL la.length ac, .slice FL lf.length fc, .slice RL lr.length rc] := by
    have h0 := Blk.new (w) 34 #[.string ⟨nm.toArray⟩, .int .i64 W, .int .i64 H, .int .i64 r, .int .i64 dark, .slice AL la.length ac, .slice FL lf.length fc, .slice RL lr.length rc]
    exact (((h0.alloc _).alloc _).alloc _)
  have w42 : Blk w4 (w.heap.size + 1) 57 #[.int .i64 a.W, .int .i64 a.H, .slice a.A a.m a.c, .int .i64 a.X, .int .i64 a.Y] := by
    have h0 := Blk.new ((w).alloc (.cells #[.string ⟨nm.toArray⟩, .int .i64 W, .int .i64 H, .int .i64 r, .int .i64 dark, .slice AL la.length ac, .slice FL lf.length fc, .slice RL lr.length rc] 34)) 57 #[.int .i64 a.W, .int .i64 a.H, .slice a.A a.m a.c, .int .i64 a.X, .int .i64 a.Y]
    simp only [World.size_alloc] at h0
    exact ((h0.alloc _).alloc _)
  have w43 : Blk w4 (w.heap.size + 1 + 1) 25 #[.int .i64 W, .int .i64 H, .slice C (W * H) cc] := by
    have h0 := Blk.new (((w).alloc (.cells #[.string ⟨nm.toArray⟩, .int .i64 W, .int .i64 H, .int .i64 r, .int .i64 dark, .slice AL la.length ac, .slice FL lf.length fc, .slice RL lr.length rc] 34)).alloc (.cells #[.int .i64 a.W, .int .i64 a.H, .slice a.A a.m a.c, .int .i64 a.X, .int .i64 a.Y] 57)) 25 #[.int .i64 W, .int .i64 H, .slice C (W * H) cc]
    simp only [World.size_alloc] at h0
    exact (h0.alloc _)
  have w44 : Blk w4 (w.heap.size + 1 + 1 + 1) 55 #[.int .i64 0, .int .i64 0, .int .i64 0] := by
    have h0 := Blk.new ((((w).alloc (.cells #[.string ⟨nm.toArray⟩, .int .i64 W, .int .i64 H, .int .i64 r, .int .i64 dark, .slice AL la.length ac, .slice FL lf.length fc, .slice RL lr.length rc] 34)).alloc (.cells #[.int .i64 a.W, .int .i64 a.H, .slice a.A a.m a.c, .int .i64 a.X, .int .i64 a.Y] 57)).alloc (.cells #[.int .i64 W, .int .i64 H, .slice C (W * H) cc] 25)) 55 #[.int .i64 0, .int .i64 0, .int .i64 0]
    simp only [World.size_alloc] at h0
    exact h0
  have hnr := nearestO_any r (fun x y => inPageB (a.X + x) (a.Y + y) a.W a.H W H) (fun x y => cntD a.bs (grid BW BH (cutF cs W (a.X + x).toNat (a.Y + y).toNat)) BW BH 0 0 (BW * BH)) 59 #[.pointer (some ⟨w.heap.size + 1, 0, none⟩), .pointer (some ⟨w.heap.size, 0, none⟩)] 61 #[.pointer (some ⟨w.heap.size + 1, 0, none⟩), .pointer (some ⟨w.heap.size + 1 + 1, 0, none⟩)] w4 hr
    (enters Tryz.func59 (by kernel_rfl) rfl) (enters Tryz.func61 (by kernel_rfl) rfl)
    (fun wx x y hb hx hy => foundOf1_any ⟨nm, W, H, r, dark, AL, ac, la, FL, fc, lf, RL, rc, lr⟩ a _ _ W H x y wx rfl rfl hW hH (w42.bl hb) (w41.bl hb) (by omega) (by omega) hx hy)
    (fun wx x y hb hx hy hg => by
      have hg2 := of_decide_eq_true (show decide (0 ≤ a.X + x ∧ a.X + x < (W : Int) ∧ 0 ≤ a.Y + y ∧ a.Y + y < (H : Int) ∧ 1 ≤ a.W ∧ a.W ≤ (W : Int) - (a.X + x) ∧ 1 ≤ a.H ∧ a.H ≤ (H : Int) - (a.Y + y)) = true from hg)
      rw [haW, haH] at hg2
      exact foundOf2_any a _ _ W H BW BH (a.X + x).toNat (a.Y + y).toNat C cc cs x y wx hW.2 hH.2 haW haH ham (w42.bl hb) (w43.bl hb) ((hA.bl w4b).bl hb) ((hC.bl w4b).bl hb) (by omega) (by omega) hx hy (by omega) (by omega))
  have hfin : ∀ X Y N fd, StP (fun j => inPageB (a.X + dxOf r j) (a.Y + dyOf r j) a.W a.H W H) (fun j => cntD a.bs (grid BW BH (cutF cs W (a.X + dxOf r j).toNat (a.Y + dyOf r j).toNat)) BW BH 0 0 (BW * BH)) r (2 * r + 1) 0 X Y N fd → (X, Y, N) = FX := fun X Y N fd st => by
    have e := (st.eq (by
      obtain ⟨j, hj, hk⟩ := okA_mid r hin
      exact ⟨j, hj, hk⟩)).1
    rw [e, hFX]
    unfold foundA
    simp only [Int.toNat_natCast]
    unfold places
    congr 1
    · funext j
      unfold numA
      rw [haW, haH, Int.toNat_natCast, Int.toNat_natCast]
  have Hnr := Lib.hid hnr; have Hfin := Lib.hid hfin
  have k1 := w41.all8
  have k4 := w44.all3
  have hlt4 := w44.lt
  have W44 := Lib.hid w44; have W4b := Lib.hid w4b
  unfold Frm.val Anc.val
  clear hnr hfin hin hin2 hA hC hFX haW haH ham w4b
  go_enter Tryz.func29, Tryz.ntmps29
  go_wp2_with fail
  refine Hnr.out.mono ?_
  rintro e w5 ⟨X, Y, N, fd, rfl, hst, hb5⟩
  have HX := Lib.hid (Hfin.out X Y N fd hst)
  have B44 := Lib.hid (W44.out.bl hb5)
  have k4 := B44.out.all3
  have Hb5 := Lib.hid (W4b.out.trans hb5)
  clear hst hb5
  go_wp2_with fail
  refine bodyPost_ret (v := .agg #[.int .i64 X, .int .i64 Y, .int .i64 N]) (by simp [results, Tryz.results29, go_sem, k4]) rfl ⟨by rw [← HX.out], ?_⟩
  repeat' (first | exact Hb5.out | refine Bl.setCell ?_ (by simp; try omega) _)

/-- What of a form and a page is leaned on. -/
structure Fits (f : Frm) (W H r : Nat) : Prop where
  fW : f.W = (W : Int)
  fH : f.H = (H : Int)
  fr : f.reach = (r : Int)
  hW : 1 ≤ W ∧ W ≤ 4000
  hH : 1 ≤ H ∧ H ≤ 4000
  hWH : W * H ≤ 1048576
  hr : r ≤ 40
  hla : f.la.length ≤ 10
  anc : ∀ a ∈ f.la, ancErr W H a = 0
/-- What is known of each anchor. -/
theorem Fits.at_ {f : Frm} {W H r : Nat} (h : Fits f W H r) {a : Anc} (ha : a ∈ f.la) : ∃ BW BH : Nat, a.W = (BW : Int) ∧ a.H = (BH : Int) ∧ a.m = BW * BH ∧ a.box.inP f.W f.H = true ∧ 1 ≤ BW * BH ∧ BW * BH ≤ 1048576 ∧ BW ≤ 4000 ∧ BH ≤ 4000 := by
  obtain ⟨h1, -, h3⟩ := ancErr_ok (h.anc a ha)
  have hs : sizeErr a.W a.H = 0 := by
    apply Classical.byContradiction
    intro hne
    unfold pageErr at h1
    rw [if_neg hne] at h1
    exact hne h1
  have hz := sizeErr_zero hs
  obtain ⟨BW, BH, q1, q2, q3, -, -, -⟩ := page_nat h1
  rw [q1, q2] at hz
  have e := Int.natCast_mul BW BH
  refine ⟨BW, BH, q1, q2, q3, by rw [h.fW, h.fH]; exact h3, Nat.mul_pos (by omega) (by omega), by omega, by omega, by omega⟩
theorem Fits.dist {f : Frm} {W H r : Nat} (h : Fits f W H r) (cs : List Bool) : ∀ a ∈ f.la, 0 ≤ distA f cs a ∧ distA f cs a ≤ 1048576 := fun a ha => by
  obtain ⟨BW, BH, q1, q2, q3, q4, q5, q6, -⟩ := h.at_ ha
  have := foundA_bd (cs := cs) q4 (by rw [h.fr, Int.toNat_natCast]; exact h.hr)
  unfold distA
  rw [q1, q2, Int.toNat_natCast, Int.toNat_natCast] at this
  omega
theorem Fits.area {f : Frm} {W H r : Nat} (h : Fits f W H r) : ∀ a ∈ f.la, 1 ≤ areaA a ∧ areaA a ≤ 1048576 := fun a ha => by
  obtain ⟨BW, BH, q1, q2, q3, q4, q5, q6, -⟩ := h.at_ ha
  unfold areaA
  rw [q1, q2]
  have e := Int.natCast_mul BW BH
  omega
set_option maxRecDepth 100000 in
set_option maxHeartbeats 4000000 in
theorem scoreOf_any (f : Frm) (C : Option Addr) (cc : Nat) (cs : List Bool) (W H r : Nat) (w : World) (hfit : Fits f W H r) (hr : r ≤ 8) (hF : FrmAt w f) (hC : Reads w 1 C (W * H) (cs.map .bool)) :
    Calls Tryz.prog 11 #[f.val, .agg #[.int .i64 W, .int .i64 H, .slice C (W * H) cc]] w fun e w' => e = .returned (.int .i64 (scoreF f cs)) ∧ Bl w w' := by
  obtain ⟨SC, hSC⟩ : ∃ o, o = scoreF f cs := ⟨_, rfl⟩
  rw [← hSC]
  have hfo := fun (a : Anc) (BW BH : Nat) wx (q1 : a.W = (BW : Int)) (q2 : a.H = (BH : Int)) (q3 : a.m = BW * BH) (q4 : a.box.inP f.W f.H = true) hA hC => foundOf_any f a C cc cs W H BW BH r wx hfit.fW hfit.fH hfit.fr q1 q2 q3 hr hfit.hW hfit.hH q4 hA hC
  have hat := fun (a : Anc) (ha : a ∈ f.la) => hfit.at_ ha
  have hds := sumTo_bd (hfit.dist cs)
  have har := sumTo_bd hfit.area
  obtain ⟨D, hD⟩ : ∃ D, D = distA f cs := ⟨_, rfl⟩
  have hDv : ∀ a, D a = (foundA f cs a).2.2 := fun a => by rw [hD]; rfl
  have hSC2 : SC = if f.la.length = 0 then 1000 else 1000 * sumTo D f.la f.la.length / sumTo areaA f.la f.la.length := by rw [hSC, hD]; rfl
  rw [← hD] at hds
  have hl10 : f.la.length ≤ 10 := hfit.hla
  obtain ⟨nm, fW, fH, reach, dark, AL, ac, la, FL, fc, lf, RL, rc, lr⟩ := f
  have e1 := hfit.fW
  have e2 := hfit.fH
  have e3 := hfit.fr
  simp only at e1 e2 e3 hl10
  subst e1 e2 e3
  have HFA := Lib.hid (AncsAt.bl hF.ancs (Bl.refl w))
  have HC := Lib.hid hC; have HSC := Lib.hid hSC2; have Hds := Lib.hid hds; have Har := Lib.hid har; have HDv := Lib.hid hDv; have Hat := Lib.hid hat
  let w1 := ((w).alloc (.cells #[.string ⟨nm.toArray⟩, .int .i64 W, .int .i64 H, .int .i64 r, .int .i64 dark, .slice AL la.length ac, .slice FL lf.length fc, .slice RL lr.length rc] 34)).alloc (.cells #[.int .i64 W, .int .i64 H, .slice C (W * H) cc] 25)
  have w1b : Bl w w1 := ((Bl.refl w).alloc _).alloc _
  have w11 : Blk w1 (w.heap.size) 34 #[.string ⟨nm.toArray⟩, .int .i64 W, .int .i64 H, .int .i64 r, .int .i64 dark, .slice AL la.length ac, .slice FL lf.length fc, .slice RL lr.length rc] := by
    have h0 := Blk.new (w) 34 #[.string ⟨nm.toArray⟩, .int .i64 W, .int .i64 H, .int .i64 r, .int .i64 dark, .slice AL la.length ac, .slice FL lf.length fc, .slice RL lr.length rc]
    exact (h0.alloc _)
  have w12 : Blk w1 (w.heap.size + 1) 25 #[.int .i64 W, .int .i64 H, .slice C (W * H) cc] := by
    have h0 := Blk.new ((w).alloc (.cells #[.string ⟨nm.toArray⟩, .int .i64 W, .int .i64 H, .int .i64 r, .int .i64 dark, .slice AL la.length ac, .slice FL lf.length fc, .slice RL lr.length rc] 34)) 25 #[.int .i64 W, .int .i64 H, .slice C (W * H) cc]
    simp only [World.size_alloc] at h0
    exact h0
  unfold Frm.val Anc.val at hfo
  have Hfo := Lib.hid hfo
  have k1 := w11.all8
  have k2 := w12.all3
  have HW1b := Lib.hid w1b
  unfold Frm.val
  clear hF hC hfit hfo hat hds har hD hDv hSC hSC2 w1b
  go_enter Tryz.func11, Tryz.ntmps11
  go_upto_region 1 with fail
  rw [show (w.alloc (.cells #[.string ⟨nm.toArray⟩, .int .i64 W, .int .i64 H, .int .i64 r, .int .i64 dark, .slice AL la.length ac, .slice FL lf.length fc, .slice RL lr.length rc] 34)).alloc (.cells #[.int .i64 W, .int .i64 H, .slice C (W * H) cc] 25) = w1 from rfl]
  clear_value w1
  go_wp2_with fail
  go_loopw [5, 6, 12] (fun s p u wr => ∃ i : Nat, i ≤ la.length ∧ u = .int .i64 i ∧ s = .int .i64 (sumTo D la i) ∧ p = .int .i64 (sumTo areaA la i) ∧ Bl w1 wr) (fun _ _ u _ => la.length - (RowKit.intOf u).toNat)
  case atStart => exact ⟨0, Nat.zero_le _, rfl, rfl, rfl, Bl.refl _⟩
  case round =>
    clear k1 k2
    obtain ⟨i, hi, rfl, rfl, rfl, hbr⟩ := hrel
    have hd := Hds.out i hi
    have ha := Har.out i hi
    by_cases hlt : i < la.length
    · have hg : la[i]? = some la[i] := List.getElem?_eq_getElem hlt
      obtain ⟨a, ha2⟩ : ∃ l, l = la[i] := ⟨_, rfl⟩
      rw [← ha2] at hg
      obtain ⟨ad, e1, j1, j2, j3, j4, j5⟩ := (HFA.out.bl (HW1b.out.trans hbr)).at_ hg
      subst e1
      obtain ⟨BW, BH, q1, q2, q3, q4, q5, q6, q7, q8⟩ := Hat.out a (List.mem_of_getElem? hg)
      have hs1 := sumTo_succ (g := D) hg
      have hs2 := sumTo_succ (g := areaA) hg
      have hd1 := Hds.out (i + 1) hlt
      have ea : areaA a = ((BW * BH : Nat) : Int) := by unfold areaA; rw [q1, q2]; simp
      rw [hs1] at hd1
      rw [ea] at hs2
      obtain ⟨s1, hs1'⟩ : ∃ s, s = sumTo D la i := ⟨_, rfl⟩
      obtain ⟨s2, hs2'⟩ : ∃ s, s = sumTo areaA la i := ⟨_, rfl⟩
      obtain ⟨dd, hdd⟩ : ∃ s, s = D a := ⟨_, rfl⟩
      obtain ⟨M, hM⟩ : ∃ s, s = BW * BH := ⟨_, rfl⟩
      have eM : (BW : Int) * (BH : Int) = (M : Int) := by rw [hM]; simp
      rw [← hM] at hs2 q5 q6
      rw [← hs1'] at hs1 hd1 hd ⊢
      rw [← hs2'] at hs2 ha ⊢
      rw [← hdd] at hs1 hd1
      have hAr := HFA.out.2 a (List.mem_of_getElem? hg)
      have HAr := Lib.hid hAr
      have hfo2 := fun wx hA hC => Hfo.out a BW BH wx q1 q2 q3 q4 hA hC
      rw [show (foundA ⟨nm, W, H, r, dark, some ad, ac, la, FL, fc, lf, RL, rc, lr⟩ cs a).2.2 = dd by rw [hdd, HDv.out]] at hfo2
      generalize (foundA ⟨nm, W, H, r, dark, some ad, ac, la, FL, fc, lf, RL, rc, lr⟩ cs a).1 = fx at hfo2
      generalize (foundA ⟨nm, W, H, r, dark, some ad, ac, la, FL, fc, lf, RL, rc, lr⟩ cs a).2.1 = fy at hfo2
      rw [q1, q2] at hfo2
      rw [q1] at j1
      rw [q2] at j2
      have Hfo2 := Lib.hid hfo2; have Hs1 := Lib.hid hs1; have Hs2 := Lib.hid hs2; have Hbr := Lib.hid hbr
      have k1 := (w11.bl hbr).all8
      have bd1 : -1000000000 ≤ s1 ∧ s1 ≤ 1000000000 := by omega
      have bd2 : -1000000000 ≤ s2 ∧ s2 ≤ 1000000000 := by omega
      have bd3 : -1000000000 ≤ s1 + dd ∧ s1 + dd ≤ 1000000000 := by omega
      clear hg ha2 hs1 hs2 hs1' hs2' hdd hM hAr hfo2 hbr q1 q2 q3 q4 ea hd ha hd1
      have hfd : ∀ (a b c : Value) wx, (Instr.field 55 (.agg #[a, b, c]) 2).run Tryz.prog wx = .ok c wx := fun _ _ _ _ => by kernel_rfl
      go_upto_region 5 with fail
      obtain ⟨w5, hw5⟩ : ∃ x, x = wr.alloc (.cells #[.int .i64 BW, .int .i64 BH, .slice a.A a.m a.c, .int .i64 a.X, .int .i64 a.Y] 57) := ⟨_, rfl⟩
      have b5 : Blk w5 wr.heap.size 57 #[.int .i64 BW, .int .i64 BH, .slice a.A a.m a.c, .int .i64 a.X, .int .i64 a.Y] := by rw [hw5]; exact Blk.new _ _ _
      have hb5 : Bl wr w5 := by rw [hw5]; exact (Bl.refl _).alloc _
      rw [← hw5]
      have B5 := Lib.hid b5; have Hb5 := Lib.hid (Hbr.out.trans hb5)
      have k1 := (w11.bl Hb5.out).all8
      have k2 := (w12.bl Hb5.out).all3
      have k3 := b5.all5
      clear hw5 b5 hb5 j1 j2 j3 j4 j5
      go_wp2_with fail
      refine (Hfo2.out _ (HAr.out.bl (HW1b.out.trans Hb5.out)) (HC.out.bl (HW1b.out.trans Hb5.out))).mono ?_
      rintro e w6 ⟨rfl, hb6⟩
      have Hb6 := Lib.hid (Hb5.out.trans hb6)
      have k3 := (B5.out.bl hb6).all5
      clear k1 k2 hb6
      go_wp2_with fail
      exact ⟨⟨i + 1, hlt, by go_num, by rw [Hs1.out], by rw [Hs2.out], Hb6.out⟩, by simp [RowKit.intOf]; omega⟩
    · obtain rfl : i = la.length := by omega
      by_cases h0 : la.length = 0
      · have HX := Lib.hid (show SC = 1000 by rw [HSC.out]; exact if_pos h0)
        have ez : sumTo areaA la la.length = 0 := by rw [h0]; rfl
        have q0 : (sumTo areaA la la.length == 0) = true := by rw [ez]; rfl
        clear h0 ez
        go_wp2_with fail
        go_ret
        exact ⟨by rw [HX.out]; rfl, HW1b.out.trans hbr⟩
      · have HX := Lib.hid (show SC = 1000 * sumTo D la la.length / sumTo areaA la la.length by rw [HSC.out]; exact if_neg h0)
        obtain ⟨s1, hs1'⟩ : ∃ s, s = sumTo D la la.length := ⟨_, rfl⟩
        obtain ⟨s2, hs2'⟩ : ∃ s, s = sumTo areaA la la.length := ⟨_, rfl⟩
        rw [← hs1'] at HX hd ⊢
        rw [← hs2'] at HX ha ⊢
        have q0 : (s2 == 0) = false := by simp; omega
        have b1 : 0 ≤ s1 ∧ s1 ≤ 1000000000 := by omega
        have b2 : 1 ≤ s2 ∧ s2 ≤ 1000000000 := by omega
        clear hs1' hs2' h0 hd ha
        go_wp2_with fail
        go_ret
        exact ⟨by rw [HX.out]; rfl, HW1b.out.trans hbr⟩
end Go.Proofs.YtkipcobpnecmhabGreatDoor


/-! forms.checkAnchor, forms.checkField. -/
namespace Go.Proofs.YtkipcobpnecmhabGreatDoor
open Go.RowKit

theorem ink_mem {bs : List Bool} {W H : Nat} {is : Bool} {X Y BW BH : Int} (h : BoundsIs bs W H is X Y BW BH) (hl : bs.length = W * H) : is = decide (true ∈ bs) := by
  rw [inkB_is h]
  unfold inkB
  refine decide_eq_decide.2 ⟨fun h0 => ?_, fun hm => ?_⟩
  · apply Classical.byContradiction
    intro hn
    have : (spotL bs (W * H)).length = 0 := spotL_none.2 fun i hi => by
      cases hb : bs.getD i false with
      | false => rfl
      | true =>
        rw [List.getD_eq_getElem?_getD] at hb
        cases hx : bs[i]? with
        | none => rw [hx] at hb; cases hb
        | some v =>
          rw [hx] at hb
          have hv : v = true := hb
          subst hv
          exact absurd (List.mem_of_getElem? hx) hn
    omega
  · obtain ⟨i, hi⟩ := List.getElem?_of_mem hm
    have hlt := (List.getElem?_eq_some_iff.1 hi).1
    rcases Nat.eq_zero_or_pos (spotL bs (W * H)).length with h0 | h0
    · have := spotL_none.1 h0 i (by omega)
      rw [List.getD_eq_getElem?_getD, hi] at this
      cases this
    · exact h0
set_option maxRecDepth 100000 in
set_option maxHeartbeats 2000000 in
theorem checkAnchor_any (f : Frm) (a : Anc) (W H : Nat) (w : World) (hfW : f.W = (W : Int)) (hfH : f.H = (H : Int)) (hW : 1 ≤ W ∧ W ≤ 4000) (hH : 1 ≤ H ∧ H ≤ 4000) (hA : Reads w 1 a.A a.m (a.bs.map .bool)) :
    Calls Tryz.prog 43 #[f.val, a.val] w fun e w' => e = .returned (.int .i64 (ancErr W H a)) ∧ Bl w w' := by
  obtain ⟨nm, fW, fH, reach, dark, AL, ac, la, FL, fc, lf, RL, rc, lr⟩ := f
  simp only at hfW hfH
  subst hfW hfH
  let w1 := ((w).alloc (.cells #[.string ⟨nm.toArray⟩, .int .i64 W, .int .i64 H, .int .i64 reach, .int .i64 dark, .slice AL la.length ac, .slice FL lf.length fc, .slice RL lr.length rc] 34)).alloc (.cells #[.int .i64 a.W, .int .i64 a.H, .slice a.A a.m a.c, .int .i64 a.X, .int .i64 a.Y] 57)
  have w1b : Bl w w1 := ((Bl.refl w).alloc _).alloc _
  have w11 : Blk w1 (w.heap.size) 34 #[.string ⟨nm.toArray⟩, .int .i64 W, .int .i64 H, .int .i64 reach, .int .i64 dark, .slice AL la.length ac, .slice FL lf.length fc, .slice RL lr.length rc] := by
    have h0 := Blk.new (w) 34 #[.string ⟨nm.toArray⟩, .int .i64 W, .int .i64 H, .int .i64 reach, .int .i64 dark, .slice AL la.length ac, .slice FL lf.length fc, .slice RL lr.length rc]
    exact (h0.alloc _)
  have w12 : Blk w1 (w.heap.size + 1) 57 #[.int .i64 a.W, .int .i64 a.H, .slice a.A a.m a.c, .int .i64 a.X, .int .i64 a.Y] := by
    have h0 := Blk.new ((w).alloc (.cells #[.string ⟨nm.toArray⟩, .int .i64 W, .int .i64 H, .int .i64 reach, .int .i64 dark, .slice AL la.length ac, .slice FL lf.length fc, .slice RL lr.length rc] 34)) 57 #[.int .i64 a.W, .int .i64 a.H, .slice a.A a.m a.c, .int .i64 a.X, .int .i64 a.Y]
    simp only [World.size_alloc] at h0
    exact h0
  have hbd := bounds_any a.W a.H a.A a.m a.c a.bs w1 (hA.bl w1b)
  have hbl : a.bs.length = a.m := by have := hA.1; simpa using this
  have Hbd := Lib.hid hbd; have Hbl := Lib.hid hbl
  have k1 := w11.all8
  have k2 := w12.all5
  obtain ⟨AE, hAE⟩ : ∃ x, x = ancErr W H a := ⟨_, rfl⟩
  rw [← hAE]
  have HAE := Lib.hid hAE
  unfold Frm.val Anc.val
  clear hA hbd hbl hAE
  go_enter Tryz.func43, Tryz.ntmps43
  go_wp2_with fail
  refine Hbd.out.mono ?_
  rintro e w2 ⟨X, Y, BW, BH, err, rfl, he1, he2, hb2⟩
  have HE1 := Lib.hid he1; have HE2 := Lib.hid he2
  clear he1 he2
  have B1 := Lib.hid (w11.bl hb2); have B2 := Lib.hid (w12.bl hb2)
  have Hb2 := Lib.hid (w1b.trans hb2)
  have k1 := B1.out.all8
  have k2 := B2.out.all5
  clear hb2
  by_cases hp : pageErr a.W a.H a.m = 0
  · obtain ⟨is, hbi, rfl⟩ := HE2.out hp
    obtain ⟨W', H', q1, q2, q3, -, -, -⟩ := page_nat hp
    have his : is = decide (true ∈ a.bs) := ink_mem hbi (by rw [Hbl.out, q3, q1, q2, Int.toNat_natCast, Int.toNat_natCast])
    have hanc : ancErr W H a = if is = true then whenI (!a.box.inP W H) 13 else 10 := by
      unfold ancErr
      rw [hp, ← his]
      cases is
      · rfl
      · cases hc : a.box.inP W H <;> rfl
    have Hanc := Lib.hid (HAE.out.trans hanc)
    clear hanc his hbi hp q1 q2 q3
    cases is
    · go_wp2_with fail
      go_ret
      exact ⟨by rw [Hanc.out]; rfl, Hb2.out.alloc _⟩
    · have hbx := fun wx => anchorBox_any a wx
      unfold Anc.val Bx.val at hbx
      have hin := fun wx => inPage_any a.X a.Y a.W a.H W H wx hW hH
      have Hbx := Lib.hid hbx; have Hin := Lib.hid hin
      clear hbx hin
      go_upto_region 4 with fail
      obtain ⟨w3, hw3⟩ : ∃ x, x = w2.alloc (.cells #[.int .i64 X, .int .i64 Y, .int .i64 BW, .int .i64 BH] 65) := ⟨_, rfl⟩
      have hb23 : Bl w2 w3 := by rw [hw3]; exact (Bl.refl _).alloc _
      rw [← hw3]
      have k1 := (B1.out.bl hb23).all8
      have k2 := (B2.out.bl hb23).all5
      have Hb3 := Lib.hid (Hb2.out.trans hb23)
      clear hw3 hb23
      refine wp_region_flow [(true, 0), (true, 2), (true, 3), (true, 4), (true, 5), (false, 1), (false, 6), (true, 7)] (fun _ => false) (by kernel_rfl) (by kernel_rfl) (by kernel_rfl) (by kernel_rfl) ?_
      iterate 1
        apply Flow.calm2 _ _ rfl rfl
        · intro w' hb' K' hK'
          obtain ⟨hc', hf'⟩ := hb'.rule
          go_simp
          try go_ints
          exact hK'
        · intro K' hK'
          simp only [Act.put, List.setIfInBounds_toArray, List.set_cons_zero, List.set_cons_succ]
          exact hK'
      iterate 1
        apply Flow.calm2 _ _ rfl rfl
        · intro w' hb' K' hK'
          obtain ⟨hc', hf'⟩ := hb'.rule
          go_simp
          try go_ints
          exact hK'
        · intro K' hK'
          simp only [Act.put, List.setIfInBounds_toArray, List.set_cons_zero, List.set_cons_succ]
          exact hK'
      iterate 1
        apply Flow.calm2 _ _ rfl rfl
        · intro w' hb' K' hK'
          obtain ⟨hc', hf'⟩ := hb'.rule
          go_simp
          try go_ints
          exact hK'
        · intro K' hK'
          simp only [Act.put, List.setIfInBounds_toArray, List.set_cons_zero, List.set_cons_succ]
          exact hK'
      iterate 1
        apply Flow.calm2 _ _ rfl rfl
        · intro w' hb' K' hK'
          obtain ⟨hc', hf'⟩ := hb'.rule
          go_simp
          try go_ints
          exact hK'
        · intro K' hK'
          simp only [Act.put, List.setIfInBounds_toArray, List.set_cons_zero, List.set_cons_succ]
          exact hK'
      iterate 1
        apply Flow.calm2 _ _ rfl rfl
        · intro w' hb' K' hK'
          obtain ⟨hc', hf'⟩ := hb'.rule
          go_simp
          try go_ints
          exact hK'
        · intro K' hK'
          simp only [Act.put, List.setIfInBounds_toArray, List.set_cons_zero, List.set_cons_succ]
          exact hK'
      apply Flow.move rfl
      go_wp2_with fail
      refine (Hbx.out _).mono ?_
      rintro e w4 ⟨rfl, HB1⟩
      go_wp2_with fail
      refine ⟨fun _ => (by first | exact HB1 | exact Bl.refl _), ?_⟩
      apply Flow.move rfl
      go_wp2_with fail
      refine (Hin.out _).mono ?_
      rintro e w5 ⟨rfl, HB2⟩
      go_wp2_with fail
      refine ⟨fun _ => (by first | exact HB2 | exact Bl.refl _), ?_⟩
      iterate 1
        apply Flow.asg _ rfl
        · intro K' hK'
          simp only [Act.put, Act.eval, List.setIfInBounds_toArray, List.set_cons_zero, List.set_cons_succ, arr_getD, List.getD_cons_zero, List.getD_cons_succ]
          exact hK'
      refine Flow.done ?_
      go_wp2_with fail
      go_ret
      exact ⟨by rw [Hanc.out]; rfl, Hb3.out.trans ((Bl.ofDrew HB1).trans HB2)⟩
  · obtain ⟨rfl, -⟩ := HE1.out hp
    have hq : (pageErr a.W a.H a.m != 0) = true := by simp [hp]
    have hanc : ancErr W H a = pageErr a.W a.H a.m := by
      unfold ancErr
      simp only [firstNZ, if_neg hp]
    have Hanc := Lib.hid (HAE.out.trans hanc)
    clear hanc hp
    go_wp2_with fail
    go_ret
    exact ⟨by rw [Hanc.out]; rfl, Hb2.out.alloc _⟩
end Go.Proofs.YtkipcobpnecmhabGreatDoor


/-! forms.checkField. -/
namespace Go.Proofs.YtkipcobpnecmhabGreatDoor
open Go.RowKit

theorem places_no {W H : Int} {l : List Bx} (h : ∀ b ∈ l, b.inP W H = true) : placesErr W H l = 0 := by
  unfold placesErr
  have : (l.any fun b => !b.inP W H) = false := by
    rw [List.any_eq_false]
    intro b hb
    rw [h b hb]
    decide
  rw [this]
  rfl
theorem places_bad {W H : Int} {l : List Bx} {b : Bx} (hb : b ∈ l) (h : b.inP W H = false) : placesErr W H l = 13 := by
  unfold placesErr
  have : (l.any fun b => !b.inP W H) = true := List.any_eq_true.2 ⟨b, hb, by rw [h]; rfl⟩
  rw [this]
  rfl
set_option maxRecDepth 100000 in
theorem neq_bx (a b : Bx) (w : World) : (binOp .neq 65 (.agg #[.int .i64 a.X, .int .i64 a.Y, .int .i64 a.W, .int .i64 a.H]) (.agg #[.int .i64 b.X, .int .i64 b.Y, .int .i64 b.W, .int .i64 b.H])).run Tryz.prog w = .ok (.bool (!decide (a = b))) w := by
  obtain ⟨a1, a2, a3, a4⟩ := a
  obtain ⟨b1, b2, b3, b4⟩ := b
  have key : decide ((⟨a1, a2, a3, a4⟩ : Bx) = ⟨b1, b2, b3, b4⟩) = ((a1 == b1) && ((a2 == b2) && ((a3 == b3) && (a4 == b4)))) := by
    rw [Bool.eq_iff_iff]
    simp [Bx.mk.injEq]
  rw [key]
  have un := Tryz.underlying3
  have ag := Tryz.isAgg3
  have sz := Tryz.sizeOf3
  rw [run_neq_struct, show (10000 : Nat) = 9999 + 1 from rfl, run_equalIn_agg w 9999 _ _ _ (by kernel_rfl) (by kernel_rfl)]
  simp only [Program.fieldsOf, Tryz.underlying65]
  cases h1 : (a1 == b1) <;> cases h2 : (a2 == b2) <;> cases h3 : (a3 == b3) <;> cases h4 : (a4 == b4) <;> go_simp
/-- What comes behind the marks' places. -/
def fldTail (x : Fld) : Int := firstNZ [whenI (!inB x.most 0 1000) 3, whenI (!decide (x.kind = 1) && !decide (x.most = 0)) 2]
theorem fldE_tail {W H : Int} {tw : Bool} {x : Fld} (h1 : nameB x.name = true) (h2 : tw = false) (h3 : inB x.kind 1 4 = true) (h4 : (if marksB x.kind then whenI (!decide (x.box = Bx.zero)) 2 else whenI (!x.box.inP W H) 13) = 0) (h5 : marksB x.kind = decide (0 < x.marks.length)) (h6 : ¬ 20 < x.marks.length) (h7 : placesErr W H x.marks = 0) : fldE W H tw x = fldTail x := by
  unfold fldE fldTail
  rw [h1, h2, h3, h4, h5, decide_eq_false h6, h7]
  simp only [firstNZ, whenI, Bool.not_true, bne_self_eq_false, Bool.false_eq_true, if_false, if_true]
theorem fldE_place {W H : Int} {tw : Bool} {x : Fld} (h1 : nameB x.name = true) (h2 : tw = false) (h3 : inB x.kind 1 4 = true) (h4 : (if marksB x.kind then whenI (!decide (x.box = Bx.zero)) 2 else whenI (!x.box.inP W H) 13) = 0) (h5 : marksB x.kind = decide (0 < x.marks.length)) (h6 : ¬ 20 < x.marks.length) (h7 : placesErr W H x.marks = 13) : fldE W H tw x = 13 := by
  unfold fldE
  rw [h1, h2, h3, h4, h5, decide_eq_false h6, h7]
  simp only [firstNZ, whenI, Bool.not_true, bne_self_eq_false, Bool.false_eq_true, if_false, if_true]
  rfl

set_option maxRecDepth 100000 in
set_option maxHeartbeats 4000000 in
theorem checkField_any (f : Frm) (x : Fld) (tw : Bool) (W H : Nat) (w : World) (hfW : f.W = (W : Int)) (hfH : f.H = (H : Int)) (hW : 1 ≤ W ∧ W ≤ 4000) (hH : 1 ≤ H ∧ H ≤ 4000) (hM : BxsAt w x.M x.marks) (hnm : x.name.length ≤ 9223372036854775807) (hml : x.marks.length ≤ 9223372036854775807) :
    Calls Tryz.prog 45 #[f.val, x.val, .bool tw] w fun e w' => e = .returned (.int .i64 (fldE W H tw x)) ∧ Bl w w' := by
  obtain ⟨nm, fW, fH, reach, dark, AL, ac, la, FL, fc, lf, RL, rc, lr⟩ := f
  simp only at hfW hfH
  subst hfW hfH
  obtain ⟨FE, hFE⟩ : ∃ y, y = fldE W H tw x := ⟨_, rfl⟩
  rw [← hFE]
  have HFE := Lib.hid hFE
  let w1 := ((w).alloc (.cells #[.string ⟨nm.toArray⟩, .int .i64 W, .int .i64 H, .int .i64 reach, .int .i64 dark, .slice AL la.length ac, .slice FL lf.length fc, .slice RL lr.length rc] 34)).alloc (.cells #[.string ⟨x.name.toArray⟩, .int .i64 x.kind, .int .i64 x.box.X, .int .i64 x.box.Y, .int .i64 x.box.W, .int .i64 x.box.H, .slice x.M x.marks.length x.mc, .int .i64 x.most, .bool x.needed] 82)
  have w1b : Bl w w1 := ((Bl.refl w).alloc _).alloc _
  have w11 : Blk w1 (w.heap.size) 34 #[.string ⟨nm.toArray⟩, .int .i64 W, .int .i64 H, .int .i64 reach, .int .i64 dark, .slice AL la.length ac, .slice FL lf.length fc, .slice RL lr.length rc] := by
    have h0 := Blk.new (w) 34 #[.string ⟨nm.toArray⟩, .int .i64 W, .int .i64 H, .int .i64 reach, .int .i64 dark, .slice AL la.length ac, .slice FL lf.length fc, .slice RL lr.length rc]
    exact (h0.alloc _)
  have w12 : Blk w1 (w.heap.size + 1) 82 #[.string ⟨x.name.toArray⟩, .int .i64 x.kind, .int .i64 x.box.X, .int .i64 x.box.Y, .int .i64 x.box.W, .int .i64 x.box.H, .slice x.M x.marks.length x.mc, .int .i64 x.most, .bool x.needed] := by
    have h0 := Blk.new ((w).alloc (.cells #[.string ⟨nm.toArray⟩, .int .i64 W, .int .i64 H, .int .i64 reach, .int .i64 dark, .slice AL la.length ac, .slice FL lf.length fc, .slice RL lr.length rc] 34)) 82 #[.string ⟨x.name.toArray⟩, .int .i64 x.kind, .int .i64 x.box.X, .int .i64 x.box.Y, .int .i64 x.box.W, .int .i64 x.box.H, .slice x.M x.marks.length x.mc, .int .i64 x.most, .bool x.needed]
    simp only [World.size_alloc] at h0
    exact h0
  have HM := Lib.hid (hM.bl w1b)
  have hin := fun wx => isName_any ⟨x.name.toArray⟩ wx (by rw [Lib.size_mk]; exact hnm)
  have hip := fun wx => inPage_any x.box.X x.box.Y x.box.W x.box.H W H wx hW hH
  have him := fun (b : Bx) wx => inPage_any b.X b.Y b.W b.H W H wx hW hH
  have Hin := Lib.hid hin; have Hip := Lib.hid hip; have Him := Lib.hid him
  have k1 := w11.all8
  have k2 := w12.all9
  unfold Frm.val Fld.val
  clear hM hin hip him hFE
  go_enter Tryz.func45, Tryz.ntmps45
  go_wp2_with fail
  refine (hasMarks_any _ _).mono ?_
  rintro e w' ⟨rfl, rfl⟩
  go_wp2_with fail
  refine (Hin.out _).mono ?_
  rintro e w2 ⟨rfl, hb2⟩
  have B1 := Lib.hid (w11.bl hb2); have B2 := Lib.hid (w12.bl hb2)
  have Hb2 := Lib.hid (w1b.trans hb2); have Hb12 := Lib.hid hb2
  have k1 := B1.out.all8
  have k2 := B2.out.all9
  clear hb2
  obtain ⟨mk, hmk⟩ : ∃ y, y = marksB x.kind := ⟨_, rfl⟩
  rw [← hmk]
  have Hmk := Lib.hid hmk
  clear hmk
  cases hN : nameB x.name with
  | false =>
    have HX := Lib.hid (show fldE W H tw x = 5 by unfold fldE; rw [hN]; rfl)
    clear hN
    go_wp2_with fail
    go_ret
    exact ⟨by rw [HFE.out, HX.out]; rfl, Hb2.out⟩
  | true =>
  have HNm := Lib.hid hN
  clear hN
  cases tw with
  | true =>
    have HX := Lib.hid (show fldE W H true x = 6 by unfold fldE; rw [HNm.out]; rfl)
    go_wp2_with fail
    go_ret
    exact ⟨by rw [HFE.out, HX.out]; rfl, Hb2.out⟩
  | false =>
  by_cases hk1 : x.kind < 1
  · have HX := Lib.hid (show fldE W H false x = 1 by unfold fldE; rw [HNm.out, inB_false.2 (.inl hk1)]; rfl)
    go_wp2_with fail
    go_ret
    exact ⟨by rw [HFE.out, HX.out]; rfl, Hb2.out⟩
  by_cases hk4 : 4 < x.kind
  · have HX := Lib.hid (show fldE W H false x = 1 by unfold fldE; rw [HNm.out, inB_false.2 (.inr hk4)]; rfl)
    go_wp2_with fail
    go_ret
    exact ⟨by rw [HFE.out, HX.out]; rfl, Hb2.out⟩
  have HK := Lib.hid (inB_true.2 (show 1 ≤ x.kind ∧ x.kind ≤ 4 by omega))
  go_upto_region 8 with fail
  cases mk with
  | false =>
    cases hip : x.box.inP W H with
    | false =>
      have HX := Lib.hid (show fldE W H false x = 13 by unfold fldE; rw [HNm.out, HK.out, ← Hmk.out, hip]; rfl)
      have Hip2 := Lib.hid (show inPageB x.box.X x.box.Y x.box.W x.box.H W H = false from hip)
      clear hip
      go_wp2_with fail
      refine (Hip.out _).mono ?_
      rintro e w3 ⟨rfl, hb3⟩
      rw [Hip2.out]
      go_wp2_with fail
      go_ret
      exact ⟨by rw [HFE.out, HX.out]; rfl, Hb2.out.trans hb3⟩
    | true =>
      have Hip2 := Lib.hid (show inPageB x.box.X x.box.Y x.box.W x.box.H W H = true from hip)
      have H4 := Lib.hid (show (if marksB x.kind then whenI (!decide (x.box = Bx.zero)) 2 else whenI (!x.box.inP W H) 13) = 0 by rw [← Hmk.out, hip]; rfl)
      clear hip
      go_wp2_with fail
      refine (Hip.out _).mono ?_
      rintro e w3 ⟨rfl, hb3⟩
      rw [Hip2.out]
      have HX1 := Lib.hid (B1.out.bl hb3); have HX2 := Lib.hid (B2.out.bl hb3); have HW := Lib.hid (Hb12.out.trans hb3); have Hb3 := Lib.hid (Hb2.out.trans hb3)
      have k1 := HX1.out.all8
      have k2 := HX2.out.all9
      clear hb3
      go_upto_region 10 with fail
      by_cases hl0 : 0 < x.marks.length
      · have hl0i : 0 < (x.marks.length : Int) := by omega
        have HX := Lib.hid (show fldE W H false x = 2 by unfold fldE; rw [HNm.out, HK.out, H4.out, ← Hmk.out, decide_eq_true hl0]; rfl)
        go_wp2_with fail
        go_ret
        exact ⟨by rw [HFE.out, HX.out]; rfl, Hb3.out⟩
      · have hl0i : ¬ 0 < (x.marks.length : Int) := by omega
        have H5 := Lib.hid (show marksB x.kind = decide (0 < x.marks.length) by rw [← Hmk.out, decide_eq_false hl0])
        by_cases h20 : 20 < x.marks.length
        · exact absurd h20 (by omega)
        · have h20i : ¬ 20 < (x.marks.length : Int) := by omega
          have H20 := Lib.hid h20
          clear h20
          go_wp2_with fail
          go_loopw [65] (fun v wr => ∃ i : Nat, i ≤ x.marks.length ∧ v = .int .i64 i ∧ Bl w3 wr ∧ ∀ j b, j < i → x.marks[j]? = some b → b.inP W H = true) (fun v _ => x.marks.length - (RowKit.intOf v).toNat)
          case atStart => exact ⟨0, Nat.zero_le _, rfl, Bl.refl _, fun j b hj => absurd hj (Nat.not_lt_zero _)⟩
          case round =>
            obtain ⟨i, hi, rfl, hbr, hall⟩ := hrel
            have HAll := Lib.hid hall; have Hbr := Lib.hid hbr
            have k1 := (HX1.out.bl hbr).all8
            have k2 := (HX2.out.bl hbr).all9
            clear hall hbr
            by_cases hlt : i < x.marks.length
            · exact absurd hlt (by omega)
            · obtain rfl : i = x.marks.length := by omega
              have hpl : placesErr W H x.marks = 0 := places_no fun b hb => by
                obtain ⟨j, hj⟩ := List.getElem?_of_mem hb
                exact HAll.out j b (List.getElem?_eq_some_iff.1 hj).1 hj
              have HT := Lib.hid (HFE.out.trans (fldE_tail (tw := false) HNm.out rfl HK.out H4.out H5.out H20.out hpl))
              clear hpl
              by_cases m0 : x.most < 0
              · have HX := Lib.hid (show fldTail x = 3 by unfold fldTail; rw [inB_false.2 (.inl m0)]; rfl)
                go_wp2_with fail
                go_ret
                exact ⟨by rw [HT.out, HX.out]; rfl, (Hb3.out).trans Hbr.out⟩
              by_cases m1 : 1000 < x.most
              · have HX := Lib.hid (show fldTail x = 3 by unfold fldTail; rw [inB_false.2 (.inr m1)]; rfl)
                go_wp2_with fail
                go_ret
                exact ⟨by rw [HT.out, HX.out]; rfl, (Hb3.out).trans Hbr.out⟩
              have hmi := inB_true.2 (show 0 ≤ x.most ∧ x.most ≤ 1000 by omega)
              by_cases c1 : x.kind = 1
              · have HX := Lib.hid (show fldTail x = 0 by unfold fldTail; rw [hmi, decide_eq_true c1]; rfl)
                have q1 : (x.kind != 1) = false := by simp [c1]
                clear hmi c1
                go_wp2_with fail
                go_ret
                exact ⟨by rw [HT.out, HX.out]; rfl, (Hb3.out).trans Hbr.out⟩
              have q1 : (x.kind != 1) = true := by simp [c1]
              by_cases c2 : x.most = 0
              · have HX := Lib.hid (show fldTail x = 0 by unfold fldTail; rw [hmi, decide_eq_false c1, decide_eq_true c2]; rfl)
                have q2 : (x.most != 0) = false := by simp [c2]
                clear hmi c1 c2
                go_wp2_with fail
                go_ret
                exact ⟨by rw [HT.out, HX.out]; rfl, (Hb3.out).trans Hbr.out⟩
              · have HX := Lib.hid (show fldTail x = 2 by unfold fldTail; rw [hmi, decide_eq_false c1, decide_eq_false c2]; rfl)
                have q2 : (x.most != 0) = true := by simp [c2]
                clear hmi c1 c2
                go_wp2_with fail
                go_ret
                exact ⟨by rw [HT.out, HX.out]; rfl, (Hb3.out).trans Hbr.out⟩
  | true =>
    have hne0 := fun w' => neq_bx x.box ⟨0, 0, 0, 0⟩ w'
    by_cases hz : x.box = ⟨0, 0, 0, 0⟩
    · rw [decide_eq_true hz] at hne0
      have hne := hne0
      simp only [Bool.not_true] at hne
      clear hne0
      have H4 := Lib.hid (show (if marksB x.kind then whenI (!decide (x.box = Bx.zero)) 2 else whenI (!x.box.inP W H) 13) = 0 by rw [← Hmk.out, if_pos rfl, decide_eq_true (show x.box = Bx.zero from hz)]; rfl)
      have HX1 := Lib.hid B1.out; have HX2 := Lib.hid B2.out; have HW := Lib.hid Hb12.out
      clear hz
      go_upto_region 10 with fail
      by_cases hl0 : 0 < x.marks.length
      · have hl0i : 0 < (x.marks.length : Int) := by omega
        have H5 := Lib.hid (show marksB x.kind = decide (0 < x.marks.length) by rw [← Hmk.out, decide_eq_true hl0])
        by_cases h20 : 20 < x.marks.length
        · have h20i : 20 < (x.marks.length : Int) := by omega
          have HX := Lib.hid (show fldE W H false x = 4 by unfold fldE; rw [HNm.out, HK.out, H4.out, H5.out, decide_eq_true h20]; simp [firstNZ, whenI])
          go_wp2_with fail
          go_ret
          exact ⟨by rw [HFE.out, HX.out]; rfl, Hb2.out⟩
        · have h20i : ¬ 20 < (x.marks.length : Int) := by omega
          have H20 := Lib.hid h20
          clear h20
          go_wp2_with fail
          go_loopw [65] (fun v wr => ∃ i : Nat, i ≤ x.marks.length ∧ v = .int .i64 i ∧ Bl w2 wr ∧ ∀ j b, j < i → x.marks[j]? = some b → b.inP W H = true) (fun v _ => x.marks.length - (RowKit.intOf v).toNat)
          case atStart => exact ⟨0, Nat.zero_le _, rfl, Bl.refl _, fun j b hj => absurd hj (Nat.not_lt_zero _)⟩
          case round =>
            obtain ⟨i, hi, rfl, hbr, hall⟩ := hrel
            have HAll := Lib.hid hall; have Hbr := Lib.hid hbr
            have k1 := (HX1.out.bl hbr).all8
            have k2 := (HX2.out.bl hbr).all9
            clear hall hbr
            by_cases hlt : i < x.marks.length
            · have hg : x.marks[i]? = some x.marks[i] := List.getElem?_eq_getElem hlt
              obtain ⟨b, hb⟩ : ∃ l, l = x.marks[i] := ⟨_, rfl⟩
              rw [← hb] at hg
              obtain ⟨ad, e1, j1, j2, j3, j4⟩ := BxsAt.at_ ((HM.out.bl HW.out).bl Hbr.out) hg
              have HG := Lib.hid hg
              clear hg hb
              rw [e1] at k2 ⊢
              go_upto_region 18 with fail
              obtain ⟨w4, hw4⟩ : ∃ y, y = wr.alloc (.cells #[.int .i64 b.X, .int .i64 b.Y, .int .i64 b.W, .int .i64 b.H] 65) := ⟨_, rfl⟩
              have b4 : Blk w4 wr.heap.size 65 #[.int .i64 b.X, .int .i64 b.Y, .int .i64 b.W, .int .i64 b.H] := by rw [hw4]; exact Blk.new _ _ _
              have hb4 : Bl wr w4 := by rw [hw4]; exact (Bl.refl _).alloc _
              rw [← hw4]
              have k3 := b4.all4
              have k1 := (HX1.out.bl (Hbr.out.trans hb4)).all8
              have Hb4 := Lib.hid hb4
              clear hw4 b4 j1 j2 j3 j4 hb4
              go_wp2_with fail
              refine (Him.out b _).mono ?_
              rintro e w5 ⟨rfl, hb5⟩
              have Hb5 := Lib.hid (Hbr.out.trans (Hb4.out.trans hb5))
              clear hb5 k3
              cases hip : b.inP W H with
              | false =>
                have HX := Lib.hid (fldE_place (tw := false) HNm.out rfl HK.out H4.out H5.out H20.out (places_bad (List.mem_of_getElem? HG.out) hip))
                rw [show inPageB b.X b.Y b.W b.H W H = false from hip]
                clear hip
                go_wp2_with fail
                go_ret
                exact ⟨by rw [HFE.out, HX.out]; rfl, (Hb2.out).trans Hb5.out⟩
              | true =>
                have Hi := Lib.hid hip
                rw [show inPageB b.X b.Y b.W b.H W H = true from hip]
                clear hip
                go_wp2_with fail
                exact ⟨⟨i + 1, hlt, by go_num, Hb5.out, fun j b' hj hb' => by
                  rcases Nat.lt_succ_iff_lt_or_eq.1 hj with h | rfl
                  · exact HAll.out j b' h hb'
                  · rw [HG.out] at hb'
                    obtain rfl := Option.some.inj hb'
                    exact Hi.out⟩, by simp [RowKit.intOf]; omega⟩
            · obtain rfl : i = x.marks.length := by omega
              have hpl : placesErr W H x.marks = 0 := places_no fun b hb => by
                obtain ⟨j, hj⟩ := List.getElem?_of_mem hb
                exact HAll.out j b (List.getElem?_eq_some_iff.1 hj).1 hj
              have HT := Lib.hid (HFE.out.trans (fldE_tail (tw := false) HNm.out rfl HK.out H4.out H5.out H20.out hpl))
              clear hpl
              by_cases m0 : x.most < 0
              · have HX := Lib.hid (show fldTail x = 3 by unfold fldTail; rw [inB_false.2 (.inl m0)]; rfl)
                go_wp2_with fail
                go_ret
                exact ⟨by rw [HT.out, HX.out]; rfl, (Hb2.out).trans Hbr.out⟩
              by_cases m1 : 1000 < x.most
              · have HX := Lib.hid (show fldTail x = 3 by unfold fldTail; rw [inB_false.2 (.inr m1)]; rfl)
                go_wp2_with fail
                go_ret
                exact ⟨by rw [HT.out, HX.out]; rfl, (Hb2.out).trans Hbr.out⟩
              have hmi := inB_true.2 (show 0 ≤ x.most ∧ x.most ≤ 1000 by omega)
              by_cases c1 : x.kind = 1
              · have HX := Lib.hid (show fldTail x = 0 by unfold fldTail; rw [hmi, decide_eq_true c1]; rfl)
                have q1 : (x.kind != 1) = false := by simp [c1]
                clear hmi c1
                go_wp2_with fail
                go_ret
                exact ⟨by rw [HT.out, HX.out]; rfl, (Hb2.out).trans Hbr.out⟩
              have q1 : (x.kind != 1) = true := by simp [c1]
              by_cases c2 : x.most = 0
              · have HX := Lib.hid (show fldTail x = 0 by unfold fldTail; rw [hmi, decide_eq_false c1, decide_eq_true c2]; rfl)
                have q2 : (x.most != 0) = false := by simp [c2]
                clear hmi c1 c2
                go_wp2_with fail
                go_ret
                exact ⟨by rw [HT.out, HX.out]; rfl, (Hb2.out).trans Hbr.out⟩
              · have HX := Lib.hid (show fldTail x = 2 by unfold fldTail; rw [hmi, decide_eq_false c1, decide_eq_false c2]; rfl)
                have q2 : (x.most != 0) = true := by simp [c2]
                clear hmi c1 c2
                go_wp2_with fail
                go_ret
                exact ⟨by rw [HT.out, HX.out]; rfl, (Hb2.out).trans Hbr.out⟩
      · have hl0i : ¬ 0 < (x.marks.length : Int) := by omega
        have HX := Lib.hid (show fldE W H false x = 2 by unfold fldE; rw [HNm.out, HK.out, H4.out, ← Hmk.out, decide_eq_false hl0]; rfl)
        go_wp2_with fail
        go_ret
        exact ⟨by rw [HFE.out, HX.out]; rfl, Hb2.out⟩
    · rw [decide_eq_false hz] at hne0
      have hne := hne0
      simp only [Bool.not_false] at hne
      clear hne0
      have HX := Lib.hid (show fldE W H false x = 2 by unfold fldE; rw [HNm.out, HK.out, ← Hmk.out, if_pos rfl, decide_eq_false (show ¬ x.box = Bx.zero from hz)]; rfl)
      clear hz
      go_wp2_with fail
      go_ret
      exact ⟨by rw [HFE.out, HX.out]; rfl, Hb2.out⟩
end Go.Proofs.YtkipcobpnecmhabGreatDoor
