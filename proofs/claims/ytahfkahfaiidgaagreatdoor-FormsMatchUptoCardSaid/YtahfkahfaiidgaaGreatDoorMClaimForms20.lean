/- The plain law of an empty form, and of a page moved to where its form is. -/
import Derived.Test.YtahfkahfaiidgaaGreatDoorMClaimForms19
import Derived.Test.YtahfkahfaiidgaaGreatDoorMClaimForms2
import Derived.Test.YtahfkahfaiidgaaGreatDoorMClaimForms1
import Derived.Laws.EntriesVeiled

namespace Go.Proofs.YtahfkahfaiidgaaGreatDoor
open Go.RowKit

set_option maxRecDepth 100000 in
set_option maxHeartbeats 4000000 in
theorem nearestO_any (r : Nat) (G : Int → Int → Bool) (F : Int → Int → Nat) (kg : FuncId) (capg : Array Value) (kf : FuncId) (cap : Array Value) (w : World) (hr : r ≤ 8) (hentg : ∀ args w, (callFunc kg args).run Tryz.prog w = .ok (.enter kg args) w) (hent : ∀ args w, (callFunc kf args).run Tryz.prog w = .ok (.enter kf args) w)
    (hG : ∀ wx (x y : Int), Bl w wx → -8 ≤ x ∧ x ≤ 8 → -8 ≤ y ∧ y ≤ 8 → Calls Tryz.prog kg (#[.int .i64 x, .int .i64 y] ++ capg) wx fun e w' => e = .returned (.bool (G x y)) ∧ Bl wx w')
    (hF : ∀ wx (x y : Int), Bl w wx → -8 ≤ x ∧ x ≤ 8 → -8 ≤ y ∧ y ≤ 8 → G x y = true → Calls Tryz.prog kf (#[.int .i64 x, .int .i64 y] ++ cap) wx fun e w' => e = .returned (.int .i64 (F x y)) ∧ Bl wx w') :
    Calls Tryz.prog 69 #[.int .i64 r, .func (.func kg) #[] capg, .func (.func kf) #[] cap] w
      fun e w' => ∃ X Y N fd, e = .returned (.tuple #[.int .i64 X, .int .i64 Y, .int .i64 N]) ∧ StP (fun j => G (dxOf r j) (dyOf r j)) (fun j => F (dxOf r j) (dyOf r j)) r (2 * r + 1) 0 X Y N fd ∧ Bl w w' := by
  obtain ⟨ok, hok⟩ : ∃ o : Nat → Bool, o = fun j => G (dxOf r j) (dyOf r j) := ⟨_, rfl⟩
  obtain ⟨num, hnum⟩ : ∃ o : Nat → Nat, o = fun j => F (dxOf r j) (dyOf r j) := ⟨_, rfl⟩
  rw [← hok, ← hnum]
  have HG := Lib.hid hG; have HF := Lib.hid hF
  have HOk := Lib.hid (show ∀ j, ok j = G (dxOf r j) (dyOf r j) from fun j => by rw [hok]); have HNum := Lib.hid (show ∀ j, num j = F (dxOf r j) (dyOf r j) from fun j => by rw [hnum])
  have St0 := Lib.hid (StP.start ok num r)
  clear hG hF hok hnum
  go_enter Tryz.func69, Tryz.ntmps69
  go_wp2_with fail
  go_loopw [9, 10, 11, 12, 13] (fun a b c d u wr => ∃ (f : Nat) (X Y N : Int) (fd : Bool), f ≤ 2 * r + 1 ∧ u = .int .i64 f ∧ a = .int .i64 X ∧ b = .int .i64 Y ∧ c = .int .i64 N ∧ d = .bool fd ∧ Hid (StP ok num r f 0 X Y N fd) ∧ Bl w wr) (fun _ _ _ _ u _ => 2 * r + 1 - (intOf u).toNat)
  case atStart => exact ⟨0, 0, 0, 0, false, Nat.zero_le _, rfl, rfl, rfl, rfl, rfl, St0, Bl.refl _⟩
  case round =>
    obtain ⟨f, X, Y, N, fd, hf, rfl, rfl, rfl, rfl, rfl, hst, hbr⟩ := hrel
    by_cases hlt : f < 2 * r + 1
    · have d1 : decide ((f : Int) ≤ 2 * (r : Int)) = true := by simp; omega
      go_wp2_with fail
      go_loopw [9, 10, 11, 12, 14] (fun a b c d u wr => ∃ (v : Nat) (X Y N : Int) (fd : Bool), v ≤ 2 * r + 1 ∧ u = .int .i64 ((v : Int) - r) ∧ a = .int .i64 X ∧ b = .int .i64 Y ∧ c = .int .i64 N ∧ d = .bool fd ∧ Hid (StP ok num r f (v * (2 * r + 1)) X Y N fd) ∧ Bl w wr) (fun _ _ _ _ u _ => (r + 1 - intOf u).toNat)
      case atStart => exact ⟨0, X, Y, N, fd, Nat.zero_le _, by simp, rfl, rfl, rfl, rfl, by rw [Nat.zero_mul]; exact hst, hbr⟩
      case round =>
        clear hst hbr
        rename_i wo _ _ _ _ _ _ _
        obtain ⟨v, X, Y, N, fd, hv, rfl, rfl, rfl, rfl, rfl, hst, hbr⟩ := hrel
        by_cases hlt2 : v < 2 * r + 1
        · have d2 : decide ((v : Int) - (r : Int) ≤ (r : Int)) = true := by simp; omega
          go_wp2_with fail
          go_loopw [9, 10, 11, 12, 15] (fun a b c d u wr => ∃ (x : Nat) (X Y N : Int) (fd : Bool), x ≤ 2 * r + 1 ∧ u = .int .i64 ((x : Int) - r) ∧ a = .int .i64 X ∧ b = .int .i64 Y ∧ c = .int .i64 N ∧ d = .bool fd ∧ Hid (StP ok num r f (v * (2 * r + 1) + x) X Y N fd) ∧ Bl w wr) (fun _ _ _ _ u _ => (r + 1 - intOf u).toNat)
          case atStart => exact ⟨0, X, Y, N, fd, Nat.zero_le _, by simp, rfl, rfl, rfl, rfl, hst, hbr⟩
          case round =>
            clear hst hbr
            rename_i wo2 _ _ _ _ _ _ _
            obtain ⟨x, X, Y, N, fd, hx, rfl, rfl, rfl, rfl, rfl, hst, hbr⟩ := hrel
            by_cases hlt3 : x < 2 * r + 1
            · obtain ⟨q, hq⟩ : ∃ q, q = farOf r (v * (2 * r + 1) + x) := ⟨_, rfl⟩
              have edx := dxOf_at r v x hlt3
              have edy := dyOf_at r v x hlt3
              have eq : (((x : Int) - r).natAbs : Int) + (((v : Int) - r).natAbs : Int) = (q : Int) := by
                rw [hq]; unfold farOf; rw [edx, edy]; simp
              have hm : v * (2 * r + 1) + x < (2 * r + 1) * (2 * r + 1) := place_lt hlt3 hlt2
              have hokj := HOk.out (v * (2 * r + 1) + x)
              have hnumj := HNum.out (v * (2 * r + 1) + x)
              rw [edx, edy] at hokj hnumj
              have hokc := HG.out wr ((x : Int) - r) ((v : Int) - r) hbr (by omega) (by omega)
              have hcall := fun wx (hx : Bl w wx) (hg : G ((x : Int) - r) ((v : Int) - r) = true) => HF.out wx ((x : Int) - r) ((v : Int) - r) hx (by omega) (by omega) hg
              rw [← hnumj] at hcall
              rw [← hokj] at hokc hcall
              obtain ⟨n, hn⟩ : ∃ n, n = num (v * (2 * r + 1) + x) := ⟨_, rfl⟩
              rw [← hn] at hcall
              obtain ⟨bk, hbk⟩ : ∃ b, b = ok (v * (2 * r + 1) + x) := ⟨_, rfl⟩
              rw [← hbk] at hokc hcall
              have b1 : -1000000 ≤ (x : Int) - r ∧ (x : Int) - r ≤ 1000000 := by omega
              have b2 : -1000000 ≤ (v : Int) - r ∧ (v : Int) - r ≤ 1000000 := by omega
              have Hokc := Lib.hid hokc; have Hq := Lib.hid hq; have Hm := Lib.hid hm; have Edx := Lib.hid edx; have Edy := Lib.hid edy; have Hn := Lib.hid hn; have Hbk := Lib.hid hbk; have Hcl := Lib.hid hcall
              clear hokc hq hm edx edy hn hnumj hokj hbk hcall
              by_cases hfar : q = f
              · subst hfar
                cases bk with
                | false =>
                  have Hs := Lib.hid (hst.out.skip (.inr Hbk.out.symm))
                  go_wp2_with (go_at_call 104; refine (abs_any _ _ (by omega)).mono ?_; rintro e w' ⟨rfl, rfl⟩)
                  refine Hokc.out.mono ?_
                  rintro e w1 ⟨rfl, hb1⟩
                  go_wp2_with fail
                  exact ⟨⟨x + 1, _, _, _, fd, hlt3, by go_num, rfl, rfl, rfl, rfl, Hs, hbr.trans hb1⟩, by simp [intOf]; omega⟩
                | true =>
                  have Hcall := Lib.hid (fun wx hx => Hcl.out wx hx rfl)
                  clear Hcl
                  cases fd
                  · have hs := hst.out.take Hm.out Hq.out.symm Hbk.out.symm (Or.inl rfl)
                    rw [Edx.out, Edy.out, ← Hn.out] at hs
                    have Hs := Lib.hid hs
                    clear hs
                    go_wp2_with (go_at_call 104; refine (abs_any _ _ (by omega)).mono ?_; rintro e w' ⟨rfl, rfl⟩)
                    refine Hokc.out.mono ?_
                    rintro e w1 ⟨rfl, hb1⟩
                    go_wp2_with fail
                    refine (Hcall.out w1 (hbr.trans hb1)).mono ?_
                    rintro e w2 ⟨rfl, hb2⟩
                    go_wp2_with fail
                    exact ⟨⟨x + 1, _, _, _, true, hlt3, by go_num, rfl, rfl, rfl, rfl, Hs, (hbr.trans hb1).trans hb2⟩, by simp [intOf]; omega⟩
                  · by_cases hlt4 : (n : Int) < N
                    · have hs := hst.out.take Hm.out Hq.out.symm Hbk.out.symm (Or.inr (by rw [← Hn.out]; exact hlt4))
                      rw [Edx.out, Edy.out, ← Hn.out] at hs
                      have Hs := Lib.hid hs
                      clear hs
                      go_wp2_with (go_at_call 104; refine (abs_any _ _ (by omega)).mono ?_; rintro e w' ⟨rfl, rfl⟩)
                      refine Hokc.out.mono ?_
                      rintro e w1 ⟨rfl, hb1⟩
                      go_wp2_with fail
                      refine (Hcall.out w1 (hbr.trans hb1)).mono ?_
                      rintro e w2 ⟨rfl, hb2⟩
                      go_wp2_with fail
                      exact ⟨⟨x + 1, _, _, _, true, hlt3, by go_num, rfl, rfl, rfl, rfl, Hs, (hbr.trans hb1).trans hb2⟩, by simp [intOf]; omega⟩
                    · have hs := hst.out.keep Hq.out.symm (by rw [← Hn.out]; simp only [Bool.true_eq_false, false_or]; exact hlt4)
                      have Hs := Lib.hid hs
                      clear hs
                      go_wp2_with (go_at_call 104; refine (abs_any _ _ (by omega)).mono ?_; rintro e w' ⟨rfl, rfl⟩)
                      refine Hokc.out.mono ?_
                      rintro e w1 ⟨rfl, hb1⟩
                      go_wp2_with fail
                      refine (Hcall.out w1 (hbr.trans hb1)).mono ?_
                      rintro e w2 ⟨rfl, hb2⟩
                      go_wp2_with fail
                      exact ⟨⟨x + 1, _, _, _, true, hlt3, by go_num, rfl, rfl, rfl, rfl, Hs, (hbr.trans hb1).trans hb2⟩, by simp [intOf]; omega⟩
              · have hs := hst.out.skip (.inl (by rw [← Hq.out]; exact hfar))
                have Hs := Lib.hid hs
                have hne : ((q : Int) != (f : Int)) = true := by simp; omega
                clear hs
                go_wp2_with (go_at_call 104; refine (abs_any _ _ (by omega)).mono ?_; rintro e w' ⟨rfl, rfl⟩)
                exact ⟨⟨x + 1, _, _, _, fd, hlt3, by go_num, rfl, rfl, rfl, rfl, Hs, hbr⟩, by simp [intOf]; omega⟩
            · obtain rfl : x = 2 * r + 1 := by omega
              go_wp2_with fail
              exact ⟨⟨v + 1, X, Y, N, fd, hlt2, by go_num, rfl, rfl, rfl, rfl, by rw [Nat.add_mul, Nat.one_mul]; exact hst, hbr⟩, by simp [intOf]; omega⟩
        · obtain rfl : v = 2 * r + 1 := by omega
          go_wp2_with fail
          exact ⟨⟨f + 1, X, Y, N, fd, hlt, by go_num, rfl, rfl, rfl, rfl, Lib.hid hst.out.level, hbr⟩, by simp [intOf]; omega⟩
    · obtain rfl : f = 2 * r + 1 := by omega
      go_wp2_with fail
      refine bodyPost_ret (v := .tuple #[.int .i64 X, .int .i64 Y, .int .i64 N]) (by simp [results, Tryz.results69, go_sem]) rfl ⟨X, Y, N, fd, rfl, hst.out, hbr⟩

/-- Where anchors and pages lie. -/
def AncB (w : World) (g : Nat) (a : Anc) : Prop := Blk w g 60 #[.int .i64 a.W, .int .i64 a.H, .slice a.A a.m a.c, .int .i64 a.X, .int .i64 a.Y]
def FrmB (w : World) (g : Nat) (f : Frm) : Prop := Blk w g 26 #[.string ⟨f.name.toArray⟩, .int .i64 f.W, .int .i64 f.H, .int .i64 f.reach, .int .i64 f.dark, .slice f.AL f.la.length f.ac, .slice f.FL f.lf.length f.fc, .slice f.RL f.lr.length f.rc]
set_option maxRecDepth 100000 in
set_option maxHeartbeats 2000000 in
theorem foundOf1_any (f : Frm) (a : Anc) (ga gf W H : Nat) (x y : Int) (w : World) (hfW : f.W = (W : Int)) (hfH : f.H = (H : Int)) (hW : 1 ≤ W ∧ W ≤ 4000) (hH : 1 ≤ H ∧ H ≤ 4000) (hA : AncB w ga a) (hF : FrmB w gf f) (hX : 0 ≤ a.X ∧ a.X ≤ 4000) (hY : 0 ≤ a.Y ∧ a.Y ≤ 4000) (hx : -8 ≤ x ∧ x ≤ 8) (hy : -8 ≤ y ∧ y ≤ 8) :
    Calls Tryz.prog 68 #[.int .i64 x, .int .i64 y, .pointer (some ⟨ga, 0, none⟩), .pointer (some ⟨gf, 0, none⟩)] w fun e w' => e = .returned (.bool (inPageB (a.X + x) (a.Y + y) a.W a.H W H)) ∧ Bl w w' := by
  obtain ⟨nm, fW, fH, reach, dark, AL, ac, la, FL, fc, lf, RL, rc, lr⟩ := f
  obtain ⟨aW, aH, A, am, aC, bs, X, Y⟩ := a
  simp only at hfW hfH hX hY
  subst hfW hfH
  unfold AncB at hA
  unfold FrmB at hF
  have hip := fun wx => inPageOf_any (X + x) (Y + y) aW aH W H wx
  simp only [inPageW_eq (show 1 ≤ (W : Int) ∧ (W : Int) ≤ 4000 by omega) (show 1 ≤ (H : Int) ∧ (H : Int) ≤ 4000 by omega)] at hip
  have Hip := Lib.hid hip
  have k1 := hA.all5
  have k2 := hF.all8
  simp only at k1 k2
  clear hip hA hF
  go_enter Tryz.func68, Tryz.ntmps68
  go_wp2_with fail
  refine (Hip.out _).mono ?_
  rintro e w1 ⟨rfl, hb1⟩
  go_wp2_with fail
  go_ret
  exact ⟨rfl, hb1⟩
set_option maxRecDepth 100000 in
set_option maxHeartbeats 2000000 in
theorem foundOf2_any (a : Anc) (ga gb W H BW BH PX PY : Nat) (C : Option Addr) (cc : Nat) (cs : List Bool) (x y : Int) (w : World) (hW : W ≤ 4000) (hH : H ≤ 4000) (haW : a.W = (BW : Int)) (haH : a.H = (BH : Int)) (ham : a.m = BW * BH) (hA : AncB w ga a) (hB : Blk w gb 42 #[.int .i64 W, .int .i64 H, .slice C (W * H) cc]) (hR : Reads w 1 a.A a.m (a.bs.map .bool)) (hC : Reads w 1 C (W * H) (cs.map .bool))
    (hX : a.X + x = (PX : Int)) (hY : a.Y + y = (PY : Int)) (hx : -8 ≤ x ∧ x ≤ 8) (hy : -8 ≤ y ∧ y ≤ 8) (h1 : PX + BW ≤ W) (h2 : PY + BH ≤ H) :
    Calls Tryz.prog 70 #[.int .i64 x, .int .i64 y, .pointer (some ⟨ga, 0, none⟩), .pointer (some ⟨gb, 0, none⟩)] w fun e w' => e = .returned (.int .i64 (cntD a.bs (grid BW BH (cutF cs W PX PY)) BW BH 0 0 (BW * BH))) ∧ Bl w w' := by
  obtain ⟨aW, aH, A, am, aC, bs, X, Y⟩ := a
  simp only at haW haH ham hX hY hR
  subst haW haH ham
  unfold AncB at hA
  have hct := fun wx (h : Bl w wx) => cutOf_any W H PX PY BW BH C cc cs wx (hC.bl h) hW hH h1 h2
  have hdf := fun (R : Option Addr) (rc : Nat) wx (hr : Reads wx 1 A (BW * BH) (bs.map .bool)) (hq : Reads wx 1 R (BW * BH) ((grid BW BH (cutF cs W PX PY)).map .bool)) => differOf_any BW BH A R aC rc bs (grid BW BH (cutF cs W PX PY)) 0 0 wx hr hq (by omega) (by omega) (by omega) (by omega)
  obtain ⟨gr, hgr⟩ : ∃ l, l = grid BW BH (cutF cs W PX PY) := ⟨_, rfl⟩
  rw [← hgr] at hct hdf ⊢
  have Hct := Lib.hid hct; have Hdf := Lib.hid hdf; have HR := Lib.hid hR
  have k1 := hA.all5
  have k2 := hB.all3
  simp only at k1
  have bX : -5000 ≤ X ∧ X ≤ 5000 := by omega
  have bY : -5000 ≤ Y ∧ Y ≤ 5000 := by omega
  clear hct hdf hA hB hR hC hgr
  go_enter Tryz.func70, Tryz.ntmps70
  go_upto_region 1 with fail
  refine wp_region_flow [(true, 0), (true, 1), (true, 2), (true, 3), (true, 4), (true, 5), (true, 6), (true, 7), (true, 8), (true, 9), (true, 10), (true, 11), (true, 12), (true, 13), (true, 14), (true, 15), (true, 16), (true, 17), (false, 18), (false, 19), (true, 20)] (fun _ => false) (by kernel_rfl) (by kernel_rfl) (by kernel_rfl) (by kernel_rfl) ?_
  iterate 1
    apply Flow.calm2 _ _ rfl rfl
    · intro w' hb' K' hK'
      obtain ⟨hc', hf'⟩ := hb'.rule
      go_simp
      try go_ints
      exact hK'
    · intro K' hK'
      simp only [Act.put, List.setIfInBounds_toArray, List.set_cons_zero, List.set_cons_succ]
      exact hK'
  iterate 2
    apply Flow.calm2 _ _ rfl rfl
    · intro w' hb' K' hK'
      obtain ⟨hc', hf'⟩ := hb'.rule
      go_simp
      try go_ints
      exact hK'
    · intro K' hK'
      simp only [Act.put, List.setIfInBounds_toArray, List.set_cons_zero, List.set_cons_succ]
      exact hK'
  iterate 1
    apply Flow.calm2 _ _ rfl rfl
    · intro w' hb' K' hK'
      obtain ⟨hc', hf'⟩ := hb'.rule
      go_simp
      try go_ints
      exact hK'
    · intro K' hK'
      simp only [Act.put, List.setIfInBounds_toArray, List.set_cons_zero, List.set_cons_succ]
      exact hK'
  iterate 1
    apply Flow.calm2 _ _ rfl rfl
    · intro w' hb' K' hK'
      obtain ⟨hc', hf'⟩ := hb'.rule
      go_simp
      try go_ints
      exact hK'
    · intro K' hK'
      simp only [Act.put, List.setIfInBounds_toArray, List.set_cons_zero, List.set_cons_succ]
      exact hK'
  iterate 1
    apply Flow.mv _ rfl
    · intro K' hK'
      simp only [Act.put, Act.eval, List.setIfInBounds_toArray, List.set_cons_zero, List.set_cons_succ, arr_getD, List.getD_cons_zero]
      exact hK'
  iterate 1
    apply Flow.calm2 _ _ rfl rfl
    · intro w' hb' K' hK'
      obtain ⟨hc', hf'⟩ := hb'.rule
      go_simp
      try go_ints
      exact hK'
    · intro K' hK'
      simp only [Act.put, List.setIfInBounds_toArray, List.set_cons_zero, List.set_cons_succ]
      exact hK'
  iterate 1
    apply Flow.calm2 _ _ rfl rfl
    · intro w' hb' K' hK'
      obtain ⟨hc', hf'⟩ := hb'.rule
      go_simp
      try go_ints
      exact hK'
    · intro K' hK'
      simp only [Act.put, List.setIfInBounds_toArray, List.set_cons_zero, List.set_cons_succ]
      exact hK'
  iterate 1
    apply Flow.calm2 _ _ rfl rfl
    · intro w' hb' K' hK'
      obtain ⟨hc', hf'⟩ := hb'.rule
      go_simp
      try go_ints
      exact hK'
    · intro K' hK'
      simp only [Act.put, List.setIfInBounds_toArray, List.set_cons_zero, List.set_cons_succ]
      exact hK'
  iterate 1
    apply Flow.mv _ rfl
    · intro K' hK'
      simp only [Act.put, Act.eval, List.setIfInBounds_toArray, List.set_cons_zero, List.set_cons_succ, arr_getD, List.getD_cons_zero, List.getD_cons_succ]
      exact hK'
  iterate 1
    apply Flow.calm2 _ _ rfl rfl
    · intro w' hb' K' hK'
      obtain ⟨hc', hf'⟩ := hb'.rule
      go_simp
      try go_ints
      exact hK'
    · intro K' hK'
      simp only [Act.put, List.setIfInBounds_toArray, List.set_cons_zero, List.set_cons_succ]
      exact hK'
  iterate 2
    apply Flow.calm2 _ _ rfl rfl
    · intro w' hb' K' hK'
      obtain ⟨hc', hf'⟩ := hb'.rule
      go_simp
      try go_ints
      exact hK'
    · intro K' hK'
      simp only [Act.put, List.setIfInBounds_toArray, List.set_cons_zero, List.set_cons_succ]
      exact hK'
  iterate 1
    apply Flow.calm2 _ _ rfl rfl
    · intro w' hb' K' hK'
      obtain ⟨hc', hf'⟩ := hb'.rule
      go_simp
      try go_ints
      exact hK'
    · intro K' hK'
      simp only [Act.put, List.setIfInBounds_toArray, List.set_cons_zero, List.set_cons_succ]
      exact hK'
  iterate 2
    apply Flow.calm2 _ _ rfl rfl
    · intro w' hb' K' hK'
      obtain ⟨hc', hf'⟩ := hb'.rule
      go_simp
      try go_ints
      exact hK'
    · intro K' hK'
      simp only [Act.put, List.setIfInBounds_toArray, List.set_cons_zero, List.set_cons_succ]
      exact hK'
  iterate 1
    apply Flow.calm2 _ _ rfl rfl
    · intro w' hb' K' hK'
      obtain ⟨hc', hf'⟩ := hb'.rule
      go_simp
      try go_ints
      exact hK'
    · intro K' hK'
      simp only [Act.put, List.setIfInBounds_toArray, List.set_cons_zero, List.set_cons_succ]
      exact hK'
  iterate 1
    apply Flow.calm2 _ _ rfl rfl
    · intro w' hb' K' hK'
      obtain ⟨hc', hf'⟩ := hb'.rule
      go_simp
      try go_ints
      exact hK'
    · intro K' hK'
      simp only [Act.put, List.setIfInBounds_toArray, List.set_cons_zero, List.set_cons_succ]
      exact hK'
  apply Flow.move rfl
  go_wp2_with fail
  refine (Hct.out _ (Bl.refl _).drew).mono ?_
  rintro e w1 ⟨R, rc, rfl, hr1, -, HB1⟩
  have hb1 : Bl w w1 := Bl.ofDrew HB1
  go_wp2_with fail
  refine ⟨fun _ => (by first | exact HB1 | exact Bl.refl _), ?_⟩
  apply Flow.move rfl
  go_wp2_with fail
  refine (Hdf.out R rc _ (HR.out.bl hb1) hr1).mono ?_
  rintro e w2 ⟨rfl, HB2⟩
  go_wp2_with fail
  refine ⟨fun _ => (by first | exact HB2 | exact Bl.refl _), ?_⟩
  iterate 1
    apply Flow.asg _ rfl
    · intro K' hK'
      simp only [Act.put, Act.eval, List.setIfInBounds_toArray, List.set_cons_zero, List.set_cons_succ, arr_getD, List.getD_cons_zero, List.getD_cons_succ]
      exact hK'
  refine Flow.done ?_
  go_wp2_with fail
  go_ret
  exact ⟨rfl, hb1.trans HB2⟩

set_option maxRecDepth 100000 in
set_option maxHeartbeats 4000000 in
theorem foundOf_any (f : Frm) (a : Anc) (C : Option Addr) (cc : Nat) (cs : List Bool) (W H BW BH r : Nat) (w : World) (hfW : f.W = (W : Int)) (hfH : f.H = (H : Int)) (hfr : f.reach = (r : Int)) (haW : a.W = (BW : Int)) (haH : a.H = (BH : Int)) (ham : a.m = BW * BH) (hr : r ≤ 8)
    (hW : 1 ≤ W ∧ W ≤ 4000) (hH : 1 ≤ H ∧ H ≤ 4000) (hin : a.box.inP f.W f.H = true) (hA : Reads w 1 a.A a.m (a.bs.map .bool)) (hC : Reads w 1 C (W * H) (cs.map .bool)) :
    Calls Tryz.prog 22 #[f.val, a.val, .agg #[.int .i64 W, .int .i64 H, .slice C (W * H) cc]] w
      fun e w' => e = .returned (.agg #[.int .i64 (foundA f cs a).1, .int .i64 (foundA f cs a).2.1, .int .i64 (foundA f cs a).2.2]) ∧ Bl w w' := by
  obtain ⟨FX, hFX⟩ : ∃ o, o = foundA f cs a := ⟨_, rfl⟩
  rw [← hFX]
  have hin2 := of_decide_eq_true (show decide (0 ≤ a.X ∧ a.X < f.W ∧ 0 ≤ a.Y ∧ a.Y < f.H ∧ 1 ≤ a.W ∧ a.W ≤ f.W - a.X ∧ 1 ≤ a.H ∧ a.H ≤ f.H - a.Y) = true from hin)
  rw [hfW, hfH] at hin2
  obtain ⟨nm, fW, fH, reach, dark, AL, ac, la, FL, fc, lf, RL, rc, lr⟩ := f
  simp only at hfW hfH hfr hin
  subst hfW hfH hfr
  let w4 := ((((w).alloc (.cells #[.string ⟨nm.toArray⟩, .int .i64 W, .int .i64 H, .int .i64 r, .int .i64 dark, .slice AL la.length ac, .slice FL lf.length fc, .slice RL lr.length rc] 26)).alloc (.cells #[.int .i64 a.W, .int .i64 a.H, .slice a.A a.m a.c, .int .i64 a.X, .int .i64 a.Y] 60)).alloc (.cells #[.int .i64 W, .int .i64 H, .slice C (W * H) cc] 42)).alloc (.cells #[.int .i64 0, .int .i64 0, .int .i64 0] 62)
  have w4b : Bl w w4 := ((((Bl.refl w).alloc _).alloc _).alloc _).alloc _
  have w41 : Blk w4 (w.heap.size) 26 #[.string ⟨nm.toArray⟩, .int .i64 W, .int .i64 H, .int .i64 r, .int .i64 dark, .slice AL la.length ac, .slice FL lf.length fc, .slice RL lr.length rc] := by
    have h0 := Blk.new (w) 26 #[.string ⟨nm.toArray⟩, .int .i64 W, .int .i64 H, .int .i64 r, .int .i64 dark, .slice AL la.length ac, .slice FL lf.length fc, .slice RL lr.length rc]
    exact (((h0.alloc _).alloc _).alloc _)
  have w42 : Blk w4 (w.heap.size + 1) 60 #[.int .i64 a.W, .int .i64 a.H, .slice a.A a.m a.c, .int .i64 a.X, .int .i64 a.Y] := by
    have h0 := Blk.new ((w).alloc (.cells #[.string ⟨nm.toArray⟩, .int .i64 W, .int .i64 H, .int .i64 r, .int .i64 dark, .slice AL la.length ac, .slice FL lf.length fc, .slice RL lr.length rc] 26)) 60 #[.int .i64 a.W, .int .i64 a.H, .slice a.A a.m a.c, .int .i64 a.X, .int .i64 a.Y]
    simp only [World.size_alloc] at h0
    exact ((h0.alloc _).alloc _)
  have w43 : Blk w4 (w.heap.size + 1 + 1) 42 #[.int .i64 W, .int .i64 H, .slice C (W * H) cc] := by
    have h0 := Blk.new (((w).alloc (.cells #[.string ⟨nm.toArray⟩, .int .i64 W, .int .i64 H, .int .i64 r, .int .i64 dark, .slice AL la.length ac, .slice FL lf.length fc, .slice RL lr.length rc] 26)).alloc (.cells #[.int .i64 a.W, .int .i64 a.H, .slice a.A a.m a.c, .int .i64 a.X, .int .i64 a.Y] 60)) 42 #[.int .i64 W, .int .i64 H, .slice C (W * H) cc]
    simp only [World.size_alloc] at h0
    exact (h0.alloc _)
  have w44 : Blk w4 (w.heap.size + 1 + 1 + 1) 62 #[.int .i64 0, .int .i64 0, .int .i64 0] := by
    have h0 := Blk.new ((((w).alloc (.cells #[.string ⟨nm.toArray⟩, .int .i64 W, .int .i64 H, .int .i64 r, .int .i64 dark, .slice AL la.length ac, .slice FL lf.length fc, .slice RL lr.length rc] 26)).alloc (.cells #[.int .i64 a.W, .int .i64 a.H, .slice a.A a.m a.c, .int .i64 a.X, .int .i64 a.Y] 60)).alloc (.cells #[.int .i64 W, .int .i64 H, .slice C (W * H) cc] 42)) 62 #[.int .i64 0, .int .i64 0, .int .i64 0]
    simp only [World.size_alloc] at h0
    exact h0
  have hnr := nearestO_any r (fun x y => inPageB (a.X + x) (a.Y + y) a.W a.H W H) (fun x y => cntD a.bs (grid BW BH (cutF cs W (a.X + x).toNat (a.Y + y).toNat)) BW BH 0 0 (BW * BH)) 68 #[.pointer (some ⟨w.heap.size + 1, 0, none⟩), .pointer (some ⟨w.heap.size, 0, none⟩)] 70 #[.pointer (some ⟨w.heap.size + 1, 0, none⟩), .pointer (some ⟨w.heap.size + 1 + 1, 0, none⟩)] w4 hr
    (enters Tryz.func68 (by kernel_rfl) rfl) (enters Tryz.func70 (by kernel_rfl) rfl)
    (fun wx x y hb hx hy => foundOf1_any ⟨nm, W, H, r, dark, AL, ac, la, FL, fc, lf, RL, rc, lr⟩ a _ _ W H x y wx rfl rfl hW hH (w42.bl hb) (w41.bl hb) (by omega) (by omega) hx hy)
    (fun wx x y hb hx hy hg => by
      have hg2 := of_decide_eq_true (show decide (0 ≤ a.X + x ∧ a.X + x < (W : Int) ∧ 0 ≤ a.Y + y ∧ a.Y + y < (H : Int) ∧ 1 ≤ a.W ∧ a.W ≤ (W : Int) - (a.X + x) ∧ 1 ≤ a.H ∧ a.H ≤ (H : Int) - (a.Y + y)) = true from hg)
      rw [haW, haH] at hg2
      exact foundOf2_any a _ _ W H BW BH (a.X + x).toNat (a.Y + y).toNat C cc cs x y wx hW.2 hH.2 haW haH ham (w42.bl hb) (w43.bl hb) ((hA.bl w4b).bl hb) ((hC.bl w4b).bl hb) (by omega) (by omega) hx hy (by omega) (by omega))
  have hfin : ∀ X Y N fd, StP (fun j => inPageB (a.X + dxOf r j) (a.Y + dyOf r j) a.W a.H W H) (fun j => cntD a.bs (grid BW BH (cutF cs W (a.X + dxOf r j).toNat (a.Y + dyOf r j).toNat)) BW BH 0 0 (BW * BH)) r (2 * r + 1) 0 X Y N fd → (X, Y, N) = FX := fun X Y N fd st => by
    have e := (st.eq (by
      obtain ⟨j, hj, hk⟩ := okA_mid r hin
      exact ⟨j, hj, hk⟩)).1
    rw [e, hFX]
    unfold foundA
    simp only [Int.toNat_natCast]
    unfold places
    congr 1
    · funext j
      unfold numA
      rw [haW, haH, Int.toNat_natCast, Int.toNat_natCast]
  have Hnr := Lib.hid hnr; have Hfin := Lib.hid hfin
  have k1 := w41.all8
  have k4 := w44.all3
  have hlt4 := w44.lt
  have W44 := Lib.hid w44; have W4b := Lib.hid w4b
  unfold Frm.val Anc.val
  clear hnr hfin hin hin2 hA hC hFX haW haH ham w4b
  go_enter Tryz.func22, Tryz.ntmps22
  go_wp2_with fail
  refine Hnr.out.mono ?_
  rintro e w5 ⟨X, Y, N, fd, rfl, hst, hb5⟩
  have HX := Lib.hid (Hfin.out X Y N fd hst)
  have B44 := Lib.hid (W44.out.bl hb5)
  have k4 := B44.out.all3
  have Hb5 := Lib.hid (W4b.out.trans hb5)
  clear hst hb5
  go_wp2_with fail
  refine bodyPost_ret (v := .agg #[.int .i64 X, .int .i64 Y, .int .i64 N]) (by simp [results, Tryz.results22, go_sem, k4]) rfl ⟨by rw [← HX.out], ?_⟩
  repeat' (first | exact Hb5.out | refine Bl.setCell ?_ (by simp; try omega) _)

/-- What of a form and a page is leaned on. -/
structure Fits (f : Frm) (W H r : Nat) : Prop where
  fW : f.W = (W : Int)
  fH : f.H = (H : Int)
  fr : f.reach = (r : Int)
  hW : 1 ≤ W ∧ W ≤ 4000
  hH : 1 ≤ H ∧ H ≤ 4000
  hWH : W * H ≤ 1048576
  hr : r ≤ 40
  hla : f.la.length ≤ 10
  anc : ∀ a ∈ f.la, ancErr W H a = 0
/-- What is known of each anchor. -/
theorem Fits.at_ {f : Frm} {W H r : Nat} (h : Fits f W H r) {a : Anc} (ha : a ∈ f.la) : ∃ BW BH : Nat, a.W = (BW : Int) ∧ a.H = (BH : Int) ∧ a.m = BW * BH ∧ a.box.inP f.W f.H = true ∧ 1 ≤ BW * BH ∧ BW * BH ≤ 1048576 ∧ BW ≤ 4000 ∧ BH ≤ 4000 := by
  obtain ⟨h1, -, h3⟩ := ancErr_ok (h.anc a ha)
  have hs : sizeErr a.W a.H = 0 := by
    apply Classical.byContradiction
    intro hne
    unfold pageErr at h1
    rw [if_neg hne] at h1
    exact hne h1
  have hz := sizeErr_zero hs
  obtain ⟨BW, BH, q1, q2, q3, -, -, -⟩ := page_nat h1
  rw [q1, q2] at hz
  have e := Int.natCast_mul BW BH
  refine ⟨BW, BH, q1, q2, q3, by rw [h.fW, h.fH]; exact h3, Nat.mul_pos (by omega) (by omega), by omega, by omega, by omega⟩
end Go.Proofs.YtahfkahfaiidgaaGreatDoor


/-! The plain law of where a page lies on a form: the middle of what each anchor says. -/
namespace Go.Proofs.YtahfkahfaiidgaaGreatDoor

def offX (f : Frm) (cs : List Bool) : List Int := f.la.map fun a => (foundA f cs a).1
def offY (f : Frm) (cs : List Bool) : List Int := f.la.map fun a => (foundA f cs a).2.1
def medI (l : List Int) : Int := (sortI l).getD ((l.length - 1) / 2) 0
theorem medI_bd {l : List Int} {m : Int} (hm : 0 ≤ m) (h : ∀ x ∈ l, -m ≤ x ∧ x ≤ m) : -m ≤ medI l ∧ medI l ≤ m := by
  unfold medI
  rw [List.getD_eq_getElem?_getD]
  cases hg : (sortI l)[(l.length - 1) / 2]? with
  | none => exact ⟨by show -m ≤ 0; omega, hm⟩
  | some x => exact h x (sortI_mem.1 (List.mem_of_getElem? hg))
theorem offX_bd {f : Frm} {cs : List Bool} {W H r : Nat} (h : Fits f W H r) : -40 ≤ medI (offX f cs) ∧ medI (offX f cs) ≤ 40 :=
  medI_bd (m := 40) (by decide) fun x hx => by
    obtain ⟨a, ha, rfl⟩ := List.mem_map.1 hx
    obtain ⟨BW, BH, -, -, -, q, -⟩ := h.at_ ha
    exact (foundA_bd q (by rw [h.fr]; exact h.hr)).2.2.1
theorem offY_bd {f : Frm} {cs : List Bool} {W H r : Nat} (h : Fits f W H r) : -40 ≤ medI (offY f cs) ∧ medI (offY f cs) ≤ 40 :=
  medI_bd (m := 40) (by decide) fun x hx => by
    obtain ⟨a, ha, rfl⟩ := List.mem_map.1 hx
    obtain ⟨BW, BH, -, -, -, q, -⟩ := h.at_ ha
    exact (foundA_bd q (by rw [h.fr]; exact h.hr)).2.2.2
theorem medI_at {l : List Int} (h : 0 < l.length) : (sortI l)[(l.length - 1) / 2]? = some (medI l) := by
  have hlt : (l.length - 1) / 2 < (sortI l).length := by rw [sortI_len]; omega
  unfold medI
  rw [List.getD_eq_getElem?_getD, List.getElem?_eq_getElem hlt]
  rfl
theorem medI_nil : medI [] = 0 := by simp [medI, sortI]
end Go.Proofs.YtahfkahfaiidgaaGreatDoor


/-! The plain law of an empty form, and of a page moved to where its form is. -/
namespace Go.Proofs.YtahfkahfaiidgaaGreatDoor

def paperTo (W H : Nat) (la : List Anc) : Nat → List Bool
  | 0 => List.replicate (W * H) false
  | i + 1 => match la[i]? with
    | none => paperTo W H la i
    | some a => grid W H (pasteF (paperTo W H la i) a.bs W H a.W.toNat a.H.toNat a.X a.Y)
theorem paperTo_succ {W H : Nat} {la : List Anc} {i : Nat} {a : Anc} {BW BH : Nat} (h : la[i]? = some a) (hW : a.W = (BW : Int)) (hH : a.H = (BH : Int)) : paperTo W H la (i + 1) = grid W H (pasteF (paperTo W H la i) a.bs W H BW BH a.X a.Y) := by
  show (match la[i]? with | none => _ | some a => _) = _
  rw [h]
  simp only [hW, hH, Int.toNat_natCast]
theorem grid_false (W H : Nat) : grid W H (fun _ _ => false) = List.replicate (W * H) false := by
  unfold grid
  refine List.ext_getElem? fun i => ?_
  rw [List.getElem?_map, List.getElem?_replicate]
  by_cases h : i < W * H
  · rw [if_pos h, List.getElem?_range h]; rfl
  · rw [if_neg h, List.getElem?_eq_none (by simpa using h)]; rfl
def paperB (f : Frm) : List Bool := paperTo f.W.toNat f.H.toNat f.la f.la.length
/-- A page in its place. -/
def placeB (f : Frm) (cs : List Bool) : List Bool := grid f.W.toNat f.H.toNat (movedF cs f.W.toNat f.H.toNat (-(medI (offX f cs))) (-(medI (offY f cs))))
theorem pasteF_blank (cs : List Bool) (W H : Nat) (x y : Int) (u v : Nat) (hu : u < W) (hv : v < H) : pasteF (List.replicate (W * H) false) cs W H W H x y u v = movedF cs W H x y u v := by
  have hp : pix (List.replicate (W * H) false) W u v = false := by
    unfold pix
    rw [List.getD_eq_getElem?_getD, List.getElem?_replicate]
    split <;> rfl
  cases ha : isApart W H W H x y with
  | true =>
    rw [pasteF_apart hp ha]
    unfold movedF
    cases hc : atI cs W H ((u : Int) - x) ((v : Int) - y) with
    | false => rfl
    | true =>
      exfalso
      have h : 0 ≤ (u : Int) - x ∧ (u : Int) - x < W ∧ 0 ≤ (v : Int) - y ∧ (v : Int) - y < H := by
        apply Classical.byContradiction
        intro hn
        rw [atI_out _ _ _ _ _ hn] at hc
        cases hc
      unfold isApart at ha
      simp at ha
      omega
  | false => rw [pasteF_at hp ha]; rfl
end Go.Proofs.YtahfkahfaiidgaaGreatDoor
