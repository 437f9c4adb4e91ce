/- The law on turning, mirroring, inverting and growing. -/
import Derived.Test.YtldmofdidgibhaaTurn4
import Derived.Test.YtldmofdidgibhaaLib1
namespace Go.Proofs.Ytldmofdidgibhaa
open Go.RowKit

theorem page_nat {W H : Int} {n : Nat} (h : pageErr W H n = 0) : ∃ W' H' : Nat, W = (W' : Int) ∧ H = (H' : Int) ∧ n = W' * H' ∧ W' ≤ 4000 ∧ H' ≤ 4000 ∧ W' * H' ≤ 1048576 := by
  obtain ⟨hs, hn⟩ := pageErr_zero h
  have hz' := sizeErr_zero hs
  obtain ⟨W, rfl⟩ := Int.eq_ofNat_of_zero_le (show 0 ≤ W by omega)
  obtain ⟨H, rfl⟩ := Int.eq_ofNat_of_zero_le (show 0 ≤ H by omega)
  have := Int.natCast_mul W H
  exact ⟨W, H, rfl, rfl, by omega, by omega, by omega, by omega⟩

/-- A box that holds a page of ink, turned. -/
def TurnedIn (w : World) (g : Nat) (bs : List Bool) (k W H : Nat) : Prop :=
  ∃ R rc, Blk w g 39 #[.int .i64 (tW k W H), .int .i64 (tH k W H), .slice R (tW k W H * tH k W H) rc] ∧ Reads w 1 R (tW k W H * tH k W H) ((grid (tW k W H) (tH k W H) (tF (pix bs W) k W H)).map .bool)
theorem TurnedIn.bl {w w' : World} {g : Nat} {bs : List Bool} {k W H : Nat} (h : TurnedIn w g bs k W H) (hb : Bl w w') : TurnedIn w' g bs k W H :=
  let ⟨R, rc, hk, hr⟩ := h
  ⟨R, rc, hk.bl hb, hr.bl hb⟩
theorem TurnedIn.start {w : World} {g W H c : Nat} {bs : List Bool} {A : Option Addr} (hb : Blk w g 39 #[.int .i64 W, .int .i64 H, .slice A (W * H) c]) (hr : Reads w 1 A (W * H) (bs.map .bool)) : TurnedIn w g bs 0 W H := by
  have hl : bs.length = W * H := by have := hr.1; simpa using this
  refine ⟨A, c, by simpa [tW, tH] using hb, ?_⟩
  have e : grid (tW 0 W H) (tH 0 W H) (tF (pix bs W) 0 W H) = bs := by
    have e2 : tF (pix bs W) 0 W H = pix bs W := by funext x y; simp [tF]
    rw [e2]
    simp only [tW, tH]
    exact grid_pix W H bs hl
  rw [e]
  simpa [tW, tH] using hr
theorem turn_step (bs : List Bool) (j W H : Nat) (hj : j < 3) : grid (tH j W H) (tW j W H) (turnF (grid (tW j W H) (tH j W H) (tF (pix bs W) j W H)) (tW j W H) (tH j W H)) = grid (tW (j + 1) W H) (tH (j + 1) W H) (tF (pix bs W) (j + 1) W H) := by
  obtain ⟨e1, e2⟩ := tW_succ j W H hj
  rw [e1, e2]
  apply grid_congr
  intro x y hx hy
  unfold turnF
  rw [pix_grid _ _ _ _ _ hy (by omega)]
  exact tF_succ (pix bs W) j W H x y hj (by rw [e1]; exact hx) (by rw [e2]; exact hy)

/-- A box that holds a page in grey, turned. -/
def TurnedGray (w : World) (g : Nat) (zs : List Int) (k W H : Nat) : Prop :=
  ∃ R rc, Blk w g 24 #[.int .i64 (tW k W H), .int .i64 (tH k W H), .slice R (tW k W H * tH k W H) rc] ∧ Reads w 1 R (tW k W H * tH k W H) ((grid (tW k W H) (tH k W H) (tF (vix zs W) k W H)).map (.int .u8))
theorem TurnedGray.bl {w w' : World} {g : Nat} {zs : List Int} {k W H : Nat} (h : TurnedGray w g zs k W H) (hb : Bl w w') : TurnedGray w' g zs k W H :=
  let ⟨R, rc, hk, hr⟩ := h
  ⟨R, rc, hk.bl hb, hr.bl hb⟩
theorem TurnedGray.start {w : World} {g W H c : Nat} {zs : List Int} {A : Option Addr} (hb : Blk w g 24 #[.int .i64 W, .int .i64 H, .slice A (W * H) c]) (hr : Reads w 1 A (W * H) (zs.map (.int .u8))) : TurnedGray w g zs 0 W H := by
  have hl : zs.length = W * H := by have := hr.1; simpa using this
  refine ⟨A, c, by simpa [tW, tH] using hb, ?_⟩
  have e : grid (tW 0 W H) (tH 0 W H) (tF (vix zs W) 0 W H) = zs := by
    have e2 : tF (vix zs W) 0 W H = vix zs W := by funext x y; simp [tF]
    rw [e2]
    simp only [tW, tH]
    exact grid_vix W H zs hl
  rw [e]
  simpa [tW, tH] using hr
def turnV (zs : List Int) (W H x y : Nat) : Int := vix zs W y (H - 1 - x)
theorem turnV_step (zs : List Int) (j W H : Nat) (hj : j < 3) : grid (tH j W H) (tW j W H) (turnV (grid (tW j W H) (tH j W H) (tF (vix zs W) j W H)) (tW j W H) (tH j W H)) = grid (tW (j + 1) W H) (tH (j + 1) W H) (tF (vix zs W) (j + 1) W H) := by
  obtain ⟨e1, e2⟩ := tW_succ j W H hj
  rw [e1, e2]
  apply grid_congr
  intro x y hx hy
  unfold turnV
  rw [vix_grid _ _ _ _ _ hy (by omega)]
  exact tF_succ (vix zs W) j W H x y hj (by rw [e1]; exact hx) (by rw [e2]; exact hy)

/-! ### what the law's functions make, whatever the page -/
section
variable {bW bH : Int} {A : Option Addr} {bn bc p : Nat} {bs : List Bool} {w : World}
theorem mk1 {g k : Nat} (ht : TurnedIn w g bs k bW.toNat bH.toNat) :
    MakesPage Try.prog 34 #[.pointer (some ⟨g, 0, none⟩)] w (tW k bW.toNat bH.toNat) (tH k bW.toNat bH.toNat) ((grid (tW k bW.toNat bH.toNat) (tH k bW.toNat bH.toNat) (tF (pix bs bW.toNat) k bW.toNat bH.toNat)).map .bool) := by
  obtain ⟨R, rc, hk, hr⟩ := ht
  exact turns1_makes g _ _ R rc _ w hk hr
theorem mk2 (h : pageErr bW bH bn = 0) (hp : Blk w p 39 #[.int .i64 bW, .int .i64 bH, .slice A bn bc]) (hr : Reads w 1 A bn (bs.map .bool)) :
    MakesPage Try.prog 35 #[.pointer (some ⟨p, 0, none⟩)] w bW.toNat bH.toNat ((grid bW.toNat bH.toNat (mirF bs bW.toNat)).map .bool) := by
  obtain ⟨W, H, rfl, rfl, rfl, u1, u2, _⟩ := page_nat h
  exact turns2_makes p W H A bc bs w hp hr u1 u2
theorem mk3 (h : pageErr bW bH bn = 0) (hp : Blk w p 39 #[.int .i64 bW, .int .i64 bH, .slice A bn bc]) (hr : Reads w 1 A bn (bs.map .bool)) :
    MakesPage Try.prog 39 #[.pointer (some ⟨p, 0, none⟩)] w bW.toNat bH.toNat ((grid bW.toNat bH.toNat (invF bs bW.toNat)).map .bool) := by
  obtain ⟨W, H, rfl, rfl, rfl, u1, u2, _⟩ := page_nat h
  exact turns3_makes p W H A bc bs w hp hr u1 u2
theorem mk5 {t : Int} {pt : Nat} (h : growErr bW bH bn t = 0) (hp : Blk w p 39 #[.int .i64 bW, .int .i64 bH, .slice A bn bc]) (ht : Blk w pt 3 #[.int .i64 t]) (hr : Reads w 1 A bn (bs.map .bool)) :
    MakesPage Try.prog 45 #[.pointer (some ⟨p, 0, none⟩), .pointer (some ⟨pt, 0, none⟩)] w (bW * t).toNat (bH * t).toNat ((grid (bW * t).toNat (bH * t).toNat (growF bs bW.toNat t.toNat)).map .bool) := by
  obtain ⟨h1, h2, _⟩ := growErr_zero h
  have h2 := inB_true.1 h2
  obtain ⟨W, H, rfl, rfl, rfl, u1, u2, _⟩ := page_nat h1
  obtain ⟨t, rfl⟩ := Int.eq_ofNat_of_zero_le (show 0 ≤ t by omega)
  exact turns5_makes p pt W H t _ _ A bc bs w hp ht hr u1 u2 (by omega) (by omega) (by rw [← Int.natCast_mul, Int.toNat_natCast]) (by rw [← Int.natCast_mul, Int.toNat_natCast])
theorem t_bound {k : Nat} (h : pageErr bW bH bn = 0) : tW k bW.toNat bH.toNat * tH k bW.toNat bH.toNat ≤ 1099511627776 := by
  rw [t_size]
  obtain ⟨W, H, rfl, rfl, rfl, u1, u2, u3⟩ := page_nat h
  simp only [Int.toNat_natCast]
  omega
theorem p_bound (h : pageErr bW bH bn = 0) : bW.toNat * bH.toNat ≤ 1099511627776 := by
  obtain ⟨W, H, rfl, rfl, rfl, u1, u2, u3⟩ := page_nat h
  simp only [Int.toNat_natCast]
  omega
theorem g_bound {t : Int} (h : growErr bW bH bn t = 0) : (bW * t).toNat * (bH * t).toNat ≤ 1099511627776 := by
  obtain ⟨h1, h2, h3⟩ := growErr_zero h
  have hz := sizeErr_zero h3
  obtain ⟨X, hX⟩ := Int.eq_ofNat_of_zero_le (show 0 ≤ bW * t by omega)
  obtain ⟨Y, hY⟩ := Int.eq_ofNat_of_zero_le (show 0 ≤ bH * t by omega)
  rw [hX, hY] at hz ⊢
  have := Int.natCast_mul X Y
  simp only [Int.toNat_natCast]
  omega
end

theorem Res.store {B : Nat} {w : World} {err : Int} {W H : Nat} {cells : List Value} {a b : Int} {R : Option Addr} {m c : Nat} (h : Res B w err W H cells a b R m c) {p : Addr} (hp : p.block < B) (u : Value) : Res B (w.setCell p u) err W H cells a b R m c :=
  ⟨fun e => (h.1 e).store hp u, h.2⟩
theorem tmod_quarter (q : Int) : ∃ (r : Int) (k : Nat), q.tmod 4 = r ∧ -3 ≤ r ∧ r ≤ 3 ∧ (r + 4).tmod 4 = (k : Int) ∧ k < 4 ∧ k = quarter q := by
  refine ⟨q.tmod 4, quarter q, rfl, ?_⟩
  have h : q.tmod 4 = if 0 ≤ q then q % 4 else -((-q) % 4) := by
    split
    · rename_i h; exact Int.tmod_eq_emod_of_nonneg h
    · rename_i h
      rw [← Int.tmod_eq_emod_of_nonneg (show 0 ≤ -q by omega), Int.neg_tmod, Int.neg_neg]
  have hb : -3 ≤ q.tmod 4 ∧ q.tmod 4 ≤ 3 := by rw [h]; split <;> omega
  refine ⟨hb.1, hb.2, ?_, quarter_lt q, rfl⟩
  rw [Int.tmod_eq_emod_of_nonneg (by omega), h]
  unfold quarter
  split <;> omega

set_option maxRecDepth 100000 in
set_option maxHeartbeats 40000000 in
theorem lawTurns_any (bW bH gW gH : Int) (A G : Option Addr) (bn bc gn gc : Nat) (bs : List Bool) (zs : List Int) (q t : Int) (w : World) (hA : Reads w 1 A bn (bs.map .bool)) (hG : Reads w 1 G gn (zs.map (.int .u8))) :
    Calls Try.prog 5 #[.agg #[.int .i64 bW, .int .i64 bH, .slice A bn bc], .agg #[.int .i64 gW, .int .i64 gH, .slice G gn gc], .int .i64 q, .int .i64 t] w
      fun e w' => e = .returned (.bool true) ∧ Bl w w' := by
  let w3 := (((w).alloc (.cells #[.int .i64 bW, .int .i64 bH, .slice A bn bc] 39)).alloc (.cells #[.int .i64 gW, .int .i64 gH, .slice G gn gc] 24)).alloc (.cells #[.int .i64 t] 3)
  have w3b : Bl w w3 := (((Bl.refl w).alloc _).alloc _).alloc _
  have w31 : Blk w3 (w.heap.size) 39 #[.int .i64 bW, .int .i64 bH, .slice A bn bc] := by
    have h0 := Blk.new (w) 39 #[.int .i64 bW, .int .i64 bH, .slice A bn bc]
    exact ((h0.alloc _).alloc _)
  have w32 : Blk w3 (w.heap.size + 1) 24 #[.int .i64 gW, .int .i64 gH, .slice G gn gc] := by
    have h0 := Blk.new ((w).alloc (.cells #[.int .i64 bW, .int .i64 bH, .slice A bn bc] 39)) 24 #[.int .i64 gW, .int .i64 gH, .slice G gn gc]
    simp only [World.size_alloc] at h0
    exact (h0.alloc _)
  have w33 : Blk w3 (w.heap.size + 1 + 1) 3 #[.int .i64 t] := by
    have h0 := Blk.new (((w).alloc (.cells #[.int .i64 bW, .int .i64 bH, .slice A bn bc] 39)).alloc (.cells #[.int .i64 gW, .int .i64 gH, .slice G gn gc] 24)) 3 #[.int .i64 t]
    simp only [World.size_alloc] at h0
    exact h0
  go_enter Try.func5, Try.ntmps5
  go_upto_region 2 with (go_at_call 26; refine (bitsError_any _ _ _ _ _ _).mono ?_; rintro e w4 ⟨rfl, hb4⟩)
  have k1 := (w31.bl hb4).all3
  have k2 := (w32.bl hb4).all3
  go_cut [47] from 23 (fun s47 wc => (∃ b, s47 = .bool b) ∧ Bl w3 wc)
  case first =>
    by_cases hp : pageErr bW bH bn = 0
    · have hp1 : (pageErr bW bH bn == 0) = true := by simp [hp]
      have Hp := Lib.hid hp; clear hp
      cases hs1 : smallB bW bH
      · have Hs1 := Lib.hid hs1; clear hs1
        go_wp2_with (go_at_call 21; refine (small_any _ _ _).mono ?_; rintro e w' ⟨rfl, rfl⟩; rw [Hs1.out])
        go_meet
        case rel => exact ⟨⟨_, rfl⟩, hb4⟩
      · have Hs1 := Lib.hid hs1; clear hs1
        go_wp2_with (first | (go_at_call 21; refine (small_any _ _ _).mono ?_; rintro e w' ⟨rfl, rfl⟩; rw [Hs1.out]))
        refine (grayError_any _ _ _ _ _ _).mono ?_
        rintro e w5 ⟨rfl, hb5⟩
        have k2 := ((w32.bl hb4).bl hb5).all3
        by_cases hg : pageErr gW gH gn = 0
        · have hg1 : (pageErr gW gH gn == 0) = true := by simp [hg]
          have Hg := Lib.hid hg; clear hg
          go_wp2_with (go_at_call 21; refine (small_any _ _ _).mono ?_; rintro e w' ⟨rfl, rfl⟩)
          go_meet
          case rel => exact ⟨⟨_, rfl⟩, hb4.trans hb5⟩
        · have hg1 : (pageErr gW gH gn == 0) = false := by simp [hg]
          have Hg := Lib.hid hg; clear hg
          go_wp2_with fail
          go_meet
          case rel => exact ⟨⟨_, rfl⟩, hb4.trans hb5⟩
    · have hp1 : (pageErr bW bH bn == 0) = false := by simp [hp]
      have Hp := Lib.hid hp; clear hp
      go_wp2_with fail
      refine (grayError_any _ _ _ _ _ _).mono ?_
      rintro e w5 ⟨rfl, hb5⟩
      have k2 := ((w32.bl hb4).bl hb5).all3
      by_cases hg : pageErr gW gH gn = 0
      · have hg1 : (pageErr gW gH gn == 0) = true := by simp [hg]
        have Hg := Lib.hid hg; clear hg
        go_wp2_with (go_at_call 21; refine (small_any _ _ _).mono ?_; rintro e w' ⟨rfl, rfl⟩)
        go_meet
        case rel => exact ⟨⟨_, rfl⟩, hb4.trans hb5⟩
      · have hg1 : (pageErr gW gH gn == 0) = false := by simp [hg]
        have Hg := Lib.hid hg; clear hg
        go_wp2_with fail
        go_meet
        case rel => exact ⟨⟨_, rfl⟩, hb4.trans hb5⟩
  case rest =>
    obtain ⟨⟨big, rfl⟩, hbc⟩ := hcut
    clear k1 k2
    cases big
    case true =>
      go_wp2_with fail
      refine (pages_any _).mono ?_
      rintro e w5 ⟨rfl, hb5⟩
      go_wp2_with fail
      go_ret
      exact ⟨rfl, (w3b.trans hbc).trans hb5⟩
    case false =>
      have k1 := (w31.bl hbc).all3
      obtain ⟨r, k, hr, hr1, hr2, hk, hk4, hkq⟩ := tmod_quarter q
      have Hkq := Lib.hid hkq
      clear hkq
      go_upto_if 55 with fail
      go_cut [] from 23 (fun wd => Bl wc wd ∧ (pageErr bW bH bn = 0 → TurnedIn wd wc.heap.size bs k bW.toNat bH.toNat))
      case first =>
        by_cases hp : pageErr bW bH bn = 0
        · have hp1 : (pageErr bW bH bn == 0) = true := by simp [hp]
          rw [hp1]
          obtain ⟨W, H, eW, eH, en, u1, u2, u3⟩ := page_nat hp
          have hst : TurnedIn (wc.alloc (.cells #[.int .i64 bW, .int .i64 bH, .slice A bn bc] 39)) wc.heap.size bs 0 bW.toNat bH.toNat := by
            subst eW eH en
            simp only [Int.toNat_natCast]
            exact TurnedIn.start (Blk.new wc _ _) (((hA.bl w3b).bl hbc).bl ((Bl.refl _).alloc _))
          have Hst := Lib.hid hst
          have ub : bW.toNat ≤ 4000 ∧ bH.toNat ≤ 4000 := by omega
          have Hp := Lib.hid hp
          clear hst hp eW eH en u1 u2 u3
          go_wp2_with fail
          go_loopw [57] (fun u wr => ∃ j : Nat, j ≤ k ∧ u = .int .i64 j ∧ Bl wc wr ∧ TurnedIn wr wc.heap.size bs j bW.toNat bH.toNat) (fun u _ => k - (intOf u).toNat)
          case atStart => exact ⟨0, Nat.zero_le _, rfl, (Bl.refl _).alloc _, Hst.out⟩
          case round =>
            obtain ⟨j, hj, rfl, hbr, htr⟩ := hrel
            by_cases hlt : j < k
            · obtain ⟨R, rc, hblk, hrd⟩ := htr
              have k3 := hblk.all3
              have ubj := t_le (k := j) ub.1 ub.2
              have hcl := turnOf_any _ _ R rc _ wr hrd ubj.1 ubj.2
              rw [turn_step bs j _ _ (by omega)] at hcl
              have Hcl := Lib.hid hcl
              have ltb := hblk.lt
              clear hcl hrd
              go_wp2_with fail
              refine Hcl.out.mono ?_
              rintro e w6 ⟨R', rc', rfl, hrd', hn', hb6⟩
              have hbk6 := hblk.bl hb6
              have k6 := hbk6.all3
              have Hrd := Lib.hid hrd'; have Hn := Lib.hid hn'
              clear hrd' hn'
              go_wp2_with fail
              obtain ⟨e1, e2⟩ := tW_succ j bW.toNat bH.toNat (by omega)
              refine ⟨⟨j + 1, hlt, by go_num, (((hbr.trans hb6).setCell (by simp) _).setCell (by simp) _).setCell (by simp) _, R', rc', ?_, ?_⟩, by simp [intOf]; omega⟩
              · rw [e1, e2]
                exact ((hbk6.set_ 0 _).set_ 1 _).set_ 2 _
              · have hn2 : ∀ ad, R' = some ad → wc.heap.size + 1 ≤ ad.block := fun ad h => by have := Hn.out ad h; omega
                have h3 := Hrd.out
                rw [e1, e2]
                rw [e1, e2] at h3
                exact ((h3.store hn2 (by simp) _).store hn2 (by simp) _).store hn2 (by simp) _
            · obtain rfl : j = k := by omega
              go_wp2_with fail
              go_meet
              case rel => exact ⟨hbr, fun _ => htr⟩
        · have hp1 : (pageErr bW bH bn == 0) = false := by simp [hp]
          have Hp := Lib.hid hp
          clear hp
          go_wp2_with fail
          go_meet
          case rel => exact ⟨(Bl.refl _).alloc _, fun h => absurd h Hp.out⟩
      case rest =>
        rename World => wd
        obtain ⟨hbd, hturn⟩ := hcut
        have Hturn := Lib.hid hturn
        clear hturn k1
        have hb0 := hbc.trans hbd
        have k1 := (w31.bl hb0).all3
        go_wp2_with fail
        refine (turn_any bW bH A bn bc bs q wd ((hA.bl w3b).bl hb0)).mono ?_
        rintro e w5 ⟨x1, x2, xR, xn, xc, rfl, xres, hb5⟩
        have bx := Blk.new w5 39 #[.int .i64 x1, .int .i64 x2, .slice xR xn xc]
        have hb5a := (hb0.trans hb5).alloc (.cells #[.int .i64 x1, .int .i64 x2, .slice xR xn xc] 39)
        have l5 := (hb0.trans hb5).le
        have k1 := (w31.bl hb5a).all3
        go_wp2_with fail
        refine (mirror_any bW bH A bn bc bs _ ((hA.bl w3b).bl hb5a)).mono ?_
        rintro e w6 ⟨m1, m2, mR, mn, mc, rfl, mres, hb6⟩
        have bm := Blk.new w6 39 #[.int .i64 m1, .int .i64 m2, .slice mR mn mc]
        have hb56 := hb6.alloc (.cells #[.int .i64 m1, .int .i64 m2, .slice mR mn mc] 39)
        have hb6a := hb5a.trans hb56
        have k1 := (w31.bl hb6a).all3
        go_wp2_with fail
        refine (invert_any bW bH A bn bc bs _ ((hA.bl w3b).bl hb6a)).mono ?_
        rintro e w7 ⟨i1, i2, iR, in', ic, rfl, ires, hb7⟩
        have bi := Blk.new w7 39 #[.int .i64 i1, .int .i64 i2, .slice iR in' ic]
        have hb67 := hb7.alloc (.cells #[.int .i64 i1, .int .i64 i2, .slice iR in' ic] 39)
        have hb7a := hb6a.trans hb67
        have hb57 := hb56.trans hb67
        go_wp2_with fail
        refine (pages_any _).mono ?_
        rintro e w8 ⟨rfl, hb8⟩
        have kx := ((bx.bl hb57).bl hb8).all3
        have t8 := fun h => (((Hturn.out h).bl ((hb5.alloc _).trans hb57)).bl hb8)
        have T8 := Lib.hid t8
        clear t8
        go_wp2_with fail
        refine (bitsIs_any _ _ _ _ _ _ _ _ _ _ _ _ _ (xres.bl ((((Bl.refl w5).alloc _).trans hb57).trans hb8)) (fun h => by rw [← Hkq.out]; exact mk1 (T8.out h)) (fun h => t_bound h)).mono ?_
        rintro e w9 ⟨rfl, hb9⟩
        have km := (((bm.bl hb67).bl hb8).bl hb9).all3
        have hb9a := (hb7a.trans hb8).trans hb9
        have b9 := w31.bl hb9a
        go_wp2_with fail
        refine (bitsIs_any _ _ _ _ _ _ _ _ _ _ _ _ _ (mres.bl (((((Bl.refl w6).alloc _).trans hb67).trans hb8).trans hb9)) (fun h => mk2 h b9 ((hA.bl w3b).bl hb9a)) (fun h => p_bound h)).mono ?_
        rintro e w10 ⟨rfl, hb10⟩
        have ki := (((bi.bl hb8).bl hb9).bl hb10).all3
        have hb10a := hb9a.trans hb10
        have b10 := w31.bl hb10a
        go_wp2_with fail
        refine (bitsIs_any _ _ _ _ _ _ _ _ _ _ _ _ _ (ires.bl (((((Bl.refl w7).alloc _).trans hb8).trans hb9).trans hb10)) (fun h => mk3 h b10 ((hA.bl w3b).bl hb10a)) (fun h => p_bound h)).mono ?_
        rintro e w11 ⟨rfl, hb11⟩
        have hb11a := hb10a.trans hb11
        have k2 := (w32.bl hb11a).all3
        have hbx11 := (((hb57.trans hb8).trans hb9).trans hb10).trans hb11
        clear k1 km ki kx xres mres ires bm bi b9 b10
        go_wp2_with fail
        refine (turnGray_any gW gH G gn gc zs q w11 ((hG.bl w3b).bl hb11a)).mono ?_
        rintro e w12 ⟨y1, y2, yR, yn, yc, rfl, yres, hb12⟩
        have by' := Blk.new w12 24 #[.int .i64 y1, .int .i64 y2, .slice yR yn yc]
        have hb12a := (hb11a.trans hb12).alloc (.cells #[.int .i64 y1, .int .i64 y2, .slice yR yn yc] 24)
        have hbx12 := (hbx11.trans hb12).alloc (.cells #[.int .i64 y1, .int .i64 y2, .slice yR yn yc] 24)
        have k2 := (w32.bl hb12a).all3
        go_upto_if 113 with (go_at_call 13; refine (grayError_any _ _ _ _ _ _).mono ?_; rintro e w13 ⟨rfl, hb13⟩)
        have hb13a := hb12a.trans hb13
        have hbx13 := hbx12.trans hb13
        have ky := (by'.bl hb13).all3
        have k2 := (w32.bl hb13a).all3
        have yres13 := yres.bl (((Bl.refl w12).alloc _).trans hb13)
        go_cut [] from 23 (fun we => Bl w13 we)
        case first =>
          by_cases hg : pageErr gW gH gn = 0
          · have hg1 : (pageErr gW gH gn != 0) = false := by simp [hg]
            rw [hg1]
            obtain ⟨W, H, eW, eH, en, u1, u2, u3⟩ := page_nat hg
            have hst : TurnedGray (w13.alloc (.cells #[.int .i64 gW, .int .i64 gH, .slice G gn gc] 24)) w13.heap.size zs 0 gW.toNat gH.toNat := by
              subst eW eH en
              simp only [Int.toNat_natCast]
              exact TurnedGray.start (Blk.new w13 _ _) (((hG.bl w3b).bl hb13a).bl ((Bl.refl _).alloc _))
            have hy := (yres13.1 hg).is
            rw [← Hkq.out] at hy
            have Hst := Lib.hid hst; have Hy := Lib.hid hy
            have ub : gW.toNat ≤ 4000 ∧ gH.toNat ≤ 4000 := by omega
            have Hg := Lib.hid hg
            clear hst hg hy eW eH en u1 u2 u3 yres13 yres
            go_wp2_with fail
            go_loopw [124] (fun u wr => ∃ j : Nat, j ≤ k ∧ u = .int .i64 j ∧ Bl w13 wr ∧ TurnedGray wr w13.heap.size zs j gW.toNat gH.toNat) (fun u _ => k - (intOf u).toNat)
            case atStart => exact ⟨0, Nat.zero_le _, rfl, (Bl.refl _).alloc _, Hst.out⟩
            case round =>
              obtain ⟨j, hj, rfl, hbr, htr⟩ := hrel
              by_cases hlt : j < k
              · obtain ⟨R, rc, hblk, hrd⟩ := htr
                have k3 := hblk.all3
                have ubj := t_le (k := j) ub.1 ub.2
                have hbu : Bl wr (wr.alloc (.cells #[.int .i64 (tW j gW.toNat gH.toNat), .int .i64 (tH j gW.toNat gH.toNat), .slice R (tW j gW.toNat gH.toNat * tH j gW.toNat gH.toNat) rc] 24)) := (Bl.refl _).alloc _
                have hbn := Blk.new wr 24 #[.int .i64 (tW j gW.toNat gH.toNat), .int .i64 (tH j gW.toNat gH.toNat), .slice R (tW j gW.toNat gH.toNat * tH j gW.toNat gH.toNat) rc]
                have hP : Paints Try.prog 42 #[.pointer (some ⟨wr.heap.size, 0, none⟩)] (Value.int .u8) (wr.alloc (.cells #[.int .i64 (tW j gW.toNat gH.toNat), .int .i64 (tH j gW.toNat gH.toNat), .slice R (tW j gW.toNat gH.toNat * tH j gW.toNat gH.toNat) rc] 24)) (tH j gW.toNat gH.toNat) (tW j gW.toNat gH.toNat) (turnV (grid (tW j gW.toNat gH.toNat) (tH j gW.toNat gH.toNat) (tF (vix zs gW.toNat) j gW.toNat gH.toNat)) (tW j gW.toNat gH.toNat) (tH j gW.toNat gH.toNat)) :=
                  ⟨enters Try.func42 (by kernel_rfl) rfl, fun wx x y hb hx hy => turns4_any _ _ _ R rc _ x y wx (hbn.bl hb) ((hrd.bl hbu).bl hb) ubj.1 ubj.2 hx hy⟩
                have usz : tH j gW.toNat gH.toNat * tW j gW.toNat gH.toNat ≤ 16000000 := by have := Nat.mul_le_mul ubj.2 ubj.1; omega
                have hcl := MadeGray_any _ _ _ _ _ _ (by omega) (by omega) (by omega) hP
                rw [turnV_step zs j _ _ (by omega)] at hcl
                have Hcl := Lib.hid hcl
                have ltb := hblk.lt
                clear hcl hrd hP hbn
                go_wp2_with fail
                refine Hcl.out.mono ?_
                rintro e w16 ⟨r', rfl, hpg, hb16⟩
                obtain ⟨R', rc', rfl, hrd', hn'⟩ := hpg
                have hbk6 := (hblk.bl hbu).bl hb16
                have k6 := hbk6.all3
                have Hrd := Lib.hid hrd'
                have hn2 : ∀ ad, R' = some ad → wr.heap.size + 1 ≤ ad.block := by simpa using hn'
                have Hn := Lib.hid hn2
                clear hrd' hn' hn2
                go_wp2_with fail
                obtain ⟨e1, e2⟩ := tW_succ j gW.toNat gH.toNat (by omega)
                refine ⟨⟨j + 1, hlt, by go_num, ((((hbr.trans hbu).trans hb16).setCell (by simp) _).setCell (by simp) _).setCell (by simp) _, R', rc', ?_, ?_⟩, by simp [intOf]; omega⟩
                · rw [e1, e2]
                  exact ((hbk6.set_ 0 _).set_ 1 _).set_ 2 _
                · have hn2 : ∀ ad, R' = some ad → w13.heap.size + 1 ≤ ad.block := fun ad h => by have := Hn.out ad h; omega
                  have h3 := Hrd.out
                  rw [e1, e2]
                  rw [e1, e2] at h3
                  exact ((h3.store hn2 (by simp) _).store hn2 (by simp) _).store hn2 (by simp) _
              · obtain rfl : j = k := by omega
                obtain ⟨R, rc, hblk, hrd⟩ := htr
                have k3 := hblk.all3
                have ky' := (((by'.bl hb13).bl hbr)).all3
                have hy2 := Hy.out.bl hbr
                have hz2 : IsPage wr (.agg #[.int .i64 (tW j gW.toNat gH.toNat), .int .i64 (tH j gW.toNat gH.toNat), .slice R (tW j gW.toNat gH.toNat * tH j gW.toNat gH.toNat) rc]) _ _ _ := ⟨R, rc, rfl, hrd⟩
                have hsg := sameGray_any _ _ _ _ _ wr hy2 hz2 (t_bound Hg.out)
                have Hsg := Lib.hid hsg
                clear hsg hy2 hz2 hrd
                go_wp2_with fail
                refine Hsg.out.mono ?_
                rintro e w16 ⟨rfl, hb16⟩
                go_wp2_with fail
                go_meet
                case rel => exact hbr.trans hb16
          · have hg1 : (pageErr gW gH gn != 0) = true := by simp [hg]
            obtain ⟨rfl, rfl, rfl, rfl, rfl⟩ := yres13.2 hg
            clear yres13 yres hg
            go_wp2_with fail
            refine (noGray_zero _).mono ?_
            rintro e w16 ⟨rfl, hb16⟩
            go_wp2_with fail
            go_meet
            case rel => exact hb16
        case rest =>
          rename World => we
          have hb14a := hb13a.trans hcut
          have hbx14 := hbx13.trans hcut
          have k1 := (w31.bl hb14a).all3
          have kt := (w33.bl hb14a).all1
          clear yres13 yres ky k2 by' hcut
          go_wp2_with fail
          refine (grow_any bW bH A bn bc bs t we ((hA.bl w3b).bl hb14a)).mono ?_
          rintro e w14 ⟨g1, g2, gR, gn', gc', rfl, gres, hb14⟩
          have bx14 := (bx.bl hbx14).bl hb14
          have kx := bx14.all3
          have hb15a := ((((hb14a.trans hb14)).setCell (p := ⟨w5.heap.size, 0, none⟩) l5 (.int .i64 g1)).setCell (p := ⟨w5.heap.size, 1, none⟩) l5 (.int .i64 g2)).setCell (p := ⟨w5.heap.size, 2, none⟩) l5 (.slice gR gn' gc')
          have bx15 : Blk (((w14.setCell ⟨w5.heap.size, 0, none⟩ (.int .i64 g1)).setCell ⟨w5.heap.size, 1, none⟩ (.int .i64 g2)).setCell ⟨w5.heap.size, 2, none⟩ (.slice gR gn' gc')) w5.heap.size 39 #[.int .i64 g1, .int .i64 g2, .slice gR gn' gc'] := ((bx14.set_ 0 _).set_ 1 _).set_ 2 _
          have hlt5 : w5.heap.size < we.heap.size := (bx.bl hbx14).lt
          have gres15 := ((gres.store (p := ⟨w5.heap.size, 0, none⟩) hlt5 (.int .i64 g1)).store (p := ⟨w5.heap.size, 1, none⟩) hlt5 (.int .i64 g2)).store (p := ⟨w5.heap.size, 2, none⟩) hlt5 (.slice gR gn' gc')
          go_upto_region 30 with fail
          generalize hw15 : ((w14.setCell ⟨w5.heap.size, 0, none⟩ (.int .i64 g1)).setCell ⟨w5.heap.size, 1, none⟩ (.int .i64 g2)).setCell ⟨w5.heap.size, 2, none⟩ (.slice gR gn' gc') = w15 at hb15a bx15 gres15 ⊢
          have t15 := w33.bl hb15a
          have b15 := w31.bl hb15a
          have k15 := b15.all3
          have kt15 := t15.all1
          have kx15 := bx15.all3
          have lx15 := bx15.lt
          have lb15 := b15.lt
          have lt15 := t15.lt
          clear k1 kt kx gres bx14 hw15 hb14
          by_cases hp : pageErr bW bH bn = 0
          · cases hi : inB t 1 16
            · have hge : growErr bW bH bn t = 3 := by unfold growErr; rw [if_pos hp, hi]; rfl
              have hf : firstNZ [0, whenI true 3] = 3 := rfl
              have Ge := Lib.hid hge
              rw [hge] at gres15 ⊢
              clear hge
              go_wp2_with (first | (go_at_call 15; refine (in_any _ _ _ _).mono ?_; rintro e w' ⟨rfl, rfl⟩) | (go_at_call 14; refine (when_any _ _ _).mono ?_; rintro e w' ⟨rfl, rfl⟩) | (go_at_call 12; refine (first2_any _ _ _ _ (Blk.new _ _ _)).mono ?_; rintro e w' ⟨rfl, rfl⟩))
              have hbe := (Bl.refl w15).alloc (.cells #[.int .i64 0, .int .i64 3] 26)
              refine (bitsIs_any _ _ _ _ _ _ _ _ _ _ _ _ _ (gres15.bl hbe) (fun h => mk5 (Ge.out.trans h) (b15.bl hbe) (t15.bl hbe) (((hA.bl w3b).bl hb15a).bl hbe)) (fun h => g_bound (Ge.out.trans h))).mono ?_
              rintro e w17 ⟨rfl, hb17⟩
              go_wp2_with fail
              go_ret
              exact ⟨rfl, ((w3b.trans hb15a).trans hbe).trans hb17⟩
            · have hge : growErr bW bH bn t = sizeErr (bW * t) (bH * t) := by unfold growErr; rw [if_pos hp, hi]; rfl
              have hf : firstNZ [0, whenI false 3] = 0 := rfl
              have ht16 := inB_true.1 hi
              obtain ⟨W, H, eW, eH, en, u1, u2, u3⟩ := page_nat hp
              have q1 : 0 ≤ bW * t ∧ bW * t ≤ 64000 := ⟨Int.mul_nonneg (by omega) (by omega), by have := Int.mul_le_mul (show bW ≤ 4000 by omega) ht16.2 (by omega) (by omega); omega⟩
              have q2 : 0 ≤ bH * t ∧ bH * t ≤ 64000 := ⟨Int.mul_nonneg (by omega) (by omega), by have := Int.mul_le_mul (show bH ≤ 4000 by omega) ht16.2 (by omega) (by omega); omega⟩
              clear eW eH en u1 u2 u3
              have Ge := Lib.hid hge
              rw [hge] at gres15 ⊢
              clear hge
              go_wp2_with (first | (go_at_call 15; refine (in_any _ _ _ _).mono ?_; rintro e w' ⟨rfl, rfl⟩) | (go_at_call 14; refine (when_any _ _ _).mono ?_; rintro e w' ⟨rfl, rfl⟩) | (go_at_call 12; refine (first2_any _ _ _ _ (Blk.new _ _ _)).mono ?_; rintro e w' ⟨rfl, rfl⟩))
              refine (sizeError_any _ _ _).mono ?_
              rintro e w16 ⟨rfl, hb16⟩
              have hbe := ((Bl.refl _).alloc (.cells #[.int .i64 0, .int .i64 0] 26)).trans hb16
              have kxe := (bx15.bl hbe).all3
              go_wp2_with fail
              refine (bitsIs_any _ _ _ _ _ _ _ _ _ _ _ _ _ (gres15.bl hbe) (fun h => mk5 (Ge.out.trans h) (b15.bl hbe) (t15.bl hbe) (((hA.bl w3b).bl hb15a).bl hbe)) (fun h => g_bound (Ge.out.trans h))).mono ?_
              rintro e w17 ⟨rfl, hb17⟩
              go_wp2_with fail
              go_ret
              exact ⟨rfl, ((w3b.trans hb15a).trans hbe).trans hb17⟩
          · have hge : growErr bW bH bn t = pageErr bW bH bn := by unfold growErr; rw [if_neg hp]
            have hf : ∀ x, firstNZ [pageErr bW bH bn, x] = pageErr bW bH bn := fun x => by simp [firstNZ, hp]
            have hq0 : (pageErr bW bH bn == 0) = false := by simp [hp]
            have Hp := Lib.hid hp
            clear hp
            have Ge := Lib.hid hge
            rw [hge] at gres15 ⊢
            clear hge
            go_wp2_with (first | (go_at_call 15; refine (in_any _ _ _ _).mono ?_; rintro e w' ⟨rfl, rfl⟩) | (go_at_call 14; refine (when_any _ _ _).mono ?_; rintro e w' ⟨rfl, rfl⟩) | (go_at_call 12; refine (first2_any _ _ _ _ (Blk.new _ _ _)).mono ?_; rintro e w' ⟨rfl, rfl⟩))
            have hbe := (Bl.refl w15).alloc (.cells #[.int .i64 (pageErr bW bH bn), .int .i64 (whenI (!inB t 1 16) 3)] 26)
            refine (bitsIs_any _ _ _ _ _ _ _ _ _ _ _ _ _ (gres15.bl hbe) (fun h => mk5 (Ge.out.trans h) (b15.bl hbe) (t15.bl hbe) (((hA.bl w3b).bl hb15a).bl hbe)) (fun h => g_bound (Ge.out.trans h))).mono ?_
            rintro e w17 ⟨rfl, hb17⟩
            go_wp2_with fail
            go_ret
            exact ⟨rfl, ((w3b.trans hb15a).trans hbe).trans hb17⟩

end Go.Proofs.Ytldmofdidgibhaa
