/- The reference's vote. -/
import Derived.Test.YtjelhdpcaileiaaDoorS12
import Derived.Test.YtjelhdpcaileiaaDoorS6
import Derived.Test.YtjelhdpcaileiaaDoorS10

namespace Go.Proofs.YtjelhdpcaileiaaDoor
open Go.RowKit

theorem learn_zero {w : World} {nm : List UInt8} {ht gap sp : Int} {ls : List Ltr} {t : List UInt8} {ps : List Pg} {err : Int} (h : err = learnErr (fontErr (nameB nm) ht gap sp ls) t ps.length (smpsErr ht (wide0 ps) ps)) (hn : err ≠ 0) :
    LearnRes w nm ht gap sp ls t ps [] 0 0 0 none 0 err := ⟨fun _ => ⟨h, rfl, rfl, rfl, rfl, rfl, rfl⟩, fun h0 => absurd (h.trans h0) hn⟩
theorem learnErr_fe {fe : Int} (h : fe ≠ 0) (t : List UInt8) (n : Nat) (se : Int) : learnErr fe t n se = fe := by
  unfold learnErr
  show (if fe = 0 then _ else fe) = fe
  rw [if_neg h]
theorem learnErr_tx {t : List UInt8} (h : textB t = false) (n : Nat) (se : Int) : learnErr 0 t n se = 2 := by
  unfold learnErr
  rw [h]
  rfl
theorem learnErr_n0 {t : List UInt8} (h : textB t = true) {n : Nat} (hn : n = 0) (se : Int) : learnErr 0 t n se = 9 := by
  unfold learnErr
  rw [h, decide_eq_true hn]
  rfl
theorem learnErr_n1 {t : List UInt8} (h : textB t = true) {n : Nat} (hn : n ≠ 0) (h2 : 100 < n) (se : Int) : learnErr 0 t n se = 4 := by
  unfold learnErr
  rw [h, decide_eq_false hn, decide_eq_true h2]
  rfl
theorem learnErr_se {t : List UInt8} (h : textB t = true) {n : Nat} (hn : n ≠ 0) (h2 : ¬ 100 < n) (se : Int) : learnErr 0 t n se = se := by
  unfold learnErr
  rw [h, decide_eq_false hn, decide_eq_false h2]
  show (if se = 0 then 0 else se) = se
  split
  · rename_i h; exact h.symm
  · rfl
theorem own_types {w : World} {b1 b2 : Nat} {e1 e2 : TypeId} {s1 s2 n1 n2 g1 g2 c1 c2 : Nat} {xs ys : List Value} (h : w.ownsRow b1 e1 s1 (.slice (some ⟨g1, 0, none⟩) n1 c1) n1 xs) (k : w.ownsRow b2 e2 s2 (.slice (some ⟨g2, 0, none⟩) n2 c2) n2 ys) (hne : e1 ≠ e2) : g1 ≠ g2 := by
  rcases h.2 with ⟨hv, -⟩ | ⟨g', cap', cur, hv, -, hg, -⟩
  · cases hv
  · rcases k.2 with ⟨kv, -⟩ | ⟨k', kap', kur, kv, -, kg, -⟩
    · cases kv
    · injection hv with q1 q2 q3
      injection q1 with q1
      injection q1 with q1
      injection kv with r1 r2 r3
      injection r1 with r1
      injection r1 with r1
      subst q1
      subst r1
      intro e
      subst e
      rw [hg] at kg
      injection kg with kg
      injection kg with kg1 kg2
      exact hne kg2
theorem own_grown {w w' : World} {base : Nat} {e : TypeId} {size n g cap : Nat} {xs : List Value} {row : Option Nat} (h : w.ownsRow base e size (.slice (some ⟨g, 0, none⟩) n cap) n xs) (hb : w.grownBy w' row) (hn : some g ≠ row) : w'.ownsRow base e size (.slice (some ⟨g, 0, none⟩) n cap) n xs := by
  refine ⟨h.1, ?_⟩
  have hlt := own_lt h
  rcases h.2 with ⟨hv, -⟩ | ⟨g', cap', cur, hv, hb', hg, r⟩
  · cases hv
  · have e := hv
    injection e with q1 q2 q3
    injection q1 with q1
    injection q1 with q1
    subst q1
    exact .inr ⟨g, cap', cur, hv, hb', (hb.block g hlt hn).trans hg, r⟩
/-- A letter whose pixels the call owns. -/
def Owned (w : World) (base : Nat) (y : Ltr) : Prop := ∃ g, y.A = some ⟨g, 0, none⟩ ∧ w.ownsRow base 4 1 (.slice (some ⟨g, 0, none⟩) y.m y.c) y.m (y.bs.map .bool)
theorem Owned.reads {w : World} {base : Nat} {y : Ltr} (h : Owned w base y) : Reads w 1 y.A y.m (y.bs.map .bool) ∧ ∀ a, y.A = some a → base ≤ a.block := by
  obtain ⟨g, e, ho⟩ := h
  obtain ⟨A, c, e2, hr, hb⟩ := own_new ho
  injection e2 with e2
  subst e2
  rw [e]
  exact ⟨hr, hb⟩
theorem Owned.bl {w w' : World} {base : Nat} {y : Ltr} (h : Owned w base y) (hb : Bl w w') : Owned w' base y := ⟨h.choose, h.choose_spec.1, own_bl h.choose_spec.2 hb⟩
theorem own_ne {w : World} {base : Nat} {e : TypeId} {size n : Nat} {v : Value} {xs : List Value} (h : w.ownsRow base e size v n xs) {x : Nat} (hx : x < base) : some x ≠ v.ownBlock := fun h2 => by have := (h.lt x h2.symm).1; omega
theorem Owned.ne {w : World} {base base' n : Nat} {v : Value} {xs : List Value} {y : Ltr} {g : Nat} (ho : w.ownsRow base 4 1 (.slice (some ⟨g, 0, none⟩) y.m y.c) y.m (y.bs.map .bool)) (hv : w.ownsRow base' 93 4 v n xs) : some g ≠ v.ownBlock := by
  rcases hv.2 with ⟨rfl, -⟩ | ⟨gv, cap, cur, rfl, -⟩
  · intro h; cases h
  · have := own_types ho hv (by decide)
    intro h
    injection h with h
    exact this h
theorem Owned.grown {w w' : World} {base base' n : Nat} {v : Value} {xs : List Value} {y : Ltr} (h : Owned w base y) (hg : w.grownBy w' v.ownBlock) (hv : w.ownsRow base' 93 4 v n xs) : Owned w' base y := by
  obtain ⟨g, e, ho⟩ := h
  exact ⟨g, e, own_grown ho hg (Owned.ne ho hv)⟩
theorem Owned.below {w : World} {base : Nat} {y : Ltr} (h : Owned w base y) {p : Addr} (hp : p.block < base) (u : Value) : Owned (w.setCell p u) base y := by
  obtain ⟨g, e, ho⟩ := h
  exact ⟨g, e, ownsRow_setCell_below ho hp u⟩
theorem Owned.row {w : World} {base base' n gv cap : Nat} {xs : List Value} {y : Ltr} (h : Owned w base y) (hv : w.ownsRow base' 93 4 (.slice (some ⟨gv, 0, none⟩) n cap) n xs) (j : Nat) (u : Value) : Owned (w.setCell ⟨gv, j, none⟩ u) base y := by
  obtain ⟨g, e, ho⟩ := h
  exact ⟨g, e, ownsRow_setCell_other ho (by intro h2; injection h2 with h2; exact own_types ho hv (by decide) h2) u⟩
theorem face_at {a b : List Ltr} (h : a.map Ltr.face = b.map Ltr.face) {k : Nat} {y : Ltr} (hy : b[k]? = some y) : ∃ x, a[k]? = some x ∧ x.face = y.face := by
  have e1 : (a.map Ltr.face)[k]? = some y.face := by rw [h, List.getElem?_map, hy]; rfl
  rw [List.getElem?_map] at e1
  rcases hx : a[k]? with _ | x
  · rw [hx] at e1; cases e1
  · rw [hx] at e1; exact ⟨x, rfl, Option.some.inj e1⟩
theorem keys_of_faces {a b : List Ltr} (h : a.map Ltr.face = b.map Ltr.face) : a.map Ltr.key = b.map Ltr.key := by
  apply List.ext_getElem?
  intro i
  rw [List.getElem?_map, List.getElem?_map]
  have hl : a.length = b.length := by have := congrArg List.length h; simpa using this
  rcases hb : b[i]? with _ | y
  · have : a[i]? = none := List.getElem?_eq_none (by have := List.getElem?_eq_none_iff.1 hb; omega)
    rw [this]
  · obtain ⟨x, hx, hf⟩ := face_at h hb
    rw [hx]
    show some x.key = some y.key
    rw [key_of_face hf]
theorem votes_at (ps : List Pg) (W0 H0 : Nat) (i : Nat) (h : i < W0 * H0) : (votes ps W0 H0)[i]? = some (voteB ps i) := by
  unfold votes
  rw [grid_at _ _ _ _ h]
  unfold voteF
  rw [show i / W0 * W0 + i % W0 = i by rw [Nat.mul_comm]; exact Nat.div_add_mod i W0]
theorem votes_eq {ps : List Pg} {W0 H0 : Nat} {xs : List Value} (hl : xs.length = W0 * H0) (h : ∀ j, j < W0 * H0 → xs[j]? = some (.bool (voteB ps j))) : xs = (votes ps W0 H0).map .bool := by
  apply List.ext_getElem?
  intro i
  rcases Nat.lt_or_ge i (W0 * H0) with hi | hi
  · rw [h i hi, List.getElem?_map, votes_at ps W0 H0 i hi]
    rfl
  · rw [List.getElem?_eq_none (by omega), List.getElem?_eq_none (by rw [List.length_map]; unfold votes; rw [grid_length]; exact hi)]

set_option maxRecDepth 100000 in
set_option maxHeartbeats 8000000 in
theorem learn_any (nm : List UInt8) (ht gap sp : Int) (L : Option Addr) (c : Nat) (ls : List Ltr) (t : List UInt8) (S : Option Addr) (sc : Nat) (ps : List Pg) (w : World) (hL : LtrsAt w L ls) (hS : PgsAt w S ps)
    (hnm : nm.length ≤ 9223372036854775807) (ht' : t.length ≤ 9223372036854775807) (hn : ls.length ≤ 9223372036854775807) (hps : ps.length ≤ 9223372036854775807) :
    Calls Tryd.prog 20 #[.agg #[.string ⟨nm.toArray⟩, .int .i64 ht, .int .i64 gap, .int .i64 sp, .slice L ls.length c], .string ⟨t.toArray⟩, .slice S ps.length sc] w fun e w' =>
      ∃ nm' h' g' s' R m d err, e = .returned (.tuple #[.agg #[.string ⟨nm'.toArray⟩, .int .i64 h', .int .i64 g', .int .i64 s', .slice R m d], .int .i64 err]) ∧ LearnRes w' nm ht gap sp ls t ps nm' h' g' s' R m err ∧ Bl w w' := by
  let w1 := ((w).alloc (.cells #[.string ⟨nm.toArray⟩, .int .i64 ht, .int .i64 gap, .int .i64 sp, .slice L ls.length c] 24)).alloc (.cells #[.string ⟨#[]⟩, .int .i64 0, .int .i64 0, .int .i64 0, .slice none 0 0] 24)
  have w1b : Bl w w1 := ((Bl.refl w).alloc _).alloc _
  have w11 : Blk w1 (w.heap.size) 24 #[.string ⟨nm.toArray⟩, .int .i64 ht, .int .i64 gap, .int .i64 sp, .slice L ls.length c] := by
    have h0 := Blk.new (w) 24 #[.string ⟨nm.toArray⟩, .int .i64 ht, .int .i64 gap, .int .i64 sp, .slice L ls.length c]
    exact (h0.alloc _)
  have w12 : Blk w1 (w.heap.size + 1) 24 #[.string ⟨#[]⟩, .int .i64 0, .int .i64 0, .int .i64 0, .slice none 0 0] := by
    have h0 := Blk.new ((w).alloc (.cells #[.string ⟨nm.toArray⟩, .int .i64 ht, .int .i64 gap, .int .i64 sp, .slice L ls.length c] 24)) 24 #[.string ⟨#[]⟩, .int .i64 0, .int .i64 0, .int .i64 0, .slice none 0 0]
    simp only [World.size_alloc] at h0
    exact h0
  have lw1 : w1.heap.size = w.heap.size + 2 := by simp [w1]
  have HL := Lib.hid (hL.bl w1b)
  have HS := Lib.hid (hS.bl w1b)
  have hck := check_any nm ht gap sp L c ls w1 (hL.bl w1b) hnm hn
  obtain ⟨fe, hfe'⟩ : ∃ x, x = fontErr (nameB nm) ht gap sp ls := ⟨_, rfl⟩
  rw [← hfe'] at hck
  have Hck := Lib.hid hck; have HFe := Lib.hid hfe'
  have k1 := w11.all5
  have htx := isText_any t
  have Htx := Lib.hid (fun wx => htx wx ht')
  clear hL hS hck hfe' htx
  go_enter Tryd.func20, Tryd.ntmps20
  go_wp2_with fail
  refine Hck.out.mono ?_
  rintro e w2 ⟨rfl, hb2⟩
  clear_value w1
  have k1 := (w11.bl hb2).all5
  by_cases hz : fe = 0
  case neg =>
    have hq : (fe == 0) = false := by simp [hz]
    have HNZ := Lib.hid hz
    clear hz
    have kz := (w12.bl hb2).all5
    go_wp2_with fail
    try simp only [Exit.inBlock, Exit.then]
    refine bodyPost_ret (v := .tuple #[.agg #[.string ⟨#[]⟩, .int .i64 0, .int .i64 0, .int .i64 0, .slice none 0 0], .int .i64 fe]) (by simp [results, Tryd.results20, go_sem, kz]) rfl ⟨[], 0, 0, 0, none, 0, 0, fe, rfl, learn_zero (by rw [← HFe.out, learnErr_fe HNZ.out]) HNZ.out, ?_⟩
    exact ((((((w1b.trans hb2).setCell (by simp) _).setCell (by simp) _).setCell (by simp) _).setCell (by simp) _).setCell (by simp) _)
  case pos =>
    subst hz
    go_wp2_with fail
    refine (Htx.out _).mono ?_
    rintro e w' ⟨rfl, rfl⟩
    cases hT : textB t
    case false =>
      have kz := (w12.bl hb2).all5
      go_wp2_with fail
      try simp only [Exit.inBlock, Exit.then]
      refine bodyPost_ret (v := .tuple #[.agg #[.string ⟨#[]⟩, .int .i64 0, .int .i64 0, .int .i64 0, .slice none 0 0], .int .i64 2]) (by simp [results, Tryd.results20, go_sem, kz]) rfl ⟨[], 0, 0, 0, none, 0, 0, 2, rfl, learn_zero (by rw [← HFe.out, learnErr_tx hT]) (by decide), ?_⟩
      exact ((((((w1b.trans hb2).setCell (by simp) _).setCell (by simp) _).setCell (by simp) _).setCell (by simp) _).setCell (by simp) _)
    case true =>
      have HT := Lib.hid hT
      clear hT
      by_cases c0 : ps.length = 0
      · have HC0 := Lib.hid c0
        have q0 : ((ps.length : Int) == 0) = true := by rw [len0]; exact decide_eq_true c0
        clear c0
        have kz := (w12.bl hb2).all5
        go_wp2_with fail
        try simp only [Exit.inBlock, Exit.then]
        refine bodyPost_ret (v := .tuple #[.agg #[.string ⟨#[]⟩, .int .i64 0, .int .i64 0, .int .i64 0, .slice none 0 0], .int .i64 9]) (by simp [results, Tryd.results20, go_sem, kz]) rfl ⟨[], 0, 0, 0, none, 0, 0, 9, rfl, learn_zero (by rw [← HFe.out, learnErr_n0 HT.out HC0.out]) (by decide), ?_⟩
        exact ((((((w1b.trans hb2).setCell (by simp) _).setCell (by simp) _).setCell (by simp) _).setCell (by simp) _).setCell (by simp) _)
      · by_cases c1 : 100 < (ps.length : Int)
        · have q0 : ((ps.length : Int) == 0) = false := by rw [len0]; exact decide_eq_false c0
          have HC0 := Lib.hid c0
          clear c0
          have kz := (w12.bl hb2).all5
          go_wp2_with fail
          try simp only [Exit.inBlock, Exit.then]
          refine bodyPost_ret (v := .tuple #[.agg #[.string ⟨#[]⟩, .int .i64 0, .int .i64 0, .int .i64 0, .slice none 0 0], .int .i64 4]) (by simp [results, Tryd.results20, go_sem, kz]) rfl ⟨[], 0, 0, 0, none, 0, 0, 4, rfl, learn_zero (by rw [← HFe.out, learnErr_n1 HT.out HC0.out (by omega)]) (by decide), ?_⟩
          exact ((((((w1b.trans hb2).setCell (by simp) _).setCell (by simp) _).setCell (by simp) _).setCell (by simp) _).setCell (by simp) _)
        · have q0 : ((ps.length : Int) == 0) = false := by rw [len0]; exact decide_eq_false c0
          have HLE := Lib.hid (show learnErr (fontErr (nameB nm) ht gap sp ls) t ps.length (smpsErr ht (wide0 ps) ps) = smpsErr ht (wide0 ps) ps by rw [← HFe.out, learnErr_se HT.out c0 (by omega)])
          have hp1 : 0 < ps.length := by omega
          clear c0
          obtain ⟨p0, hp0⟩ : ∃ l, ps[0]? = some l := ⟨ps[0], List.getElem?_eq_getElem hp1⟩
          have hw0 : wide0 ps = p0.W := by unfold wide0; rw [List.head?_eq_getElem?, hp0]; rfl
          have Hp0 := Lib.hid hp0; have Hw0 := Lib.hid hw0
          clear hp0 hw0
          go_wp2_with fail
          go_loopw [47] (fun u wr => ∃ i : Nat, i ≤ ps.length ∧ u = .int .i64 i ∧ smpsErr ht p0.W (ps.drop i) = smpsErr ht p0.W ps ∧ Bl w1 wr) (fun u _ => ps.length - (RowKit.intOf u).toNat)
          case atStart => exact ⟨0, Nat.zero_le _, rfl, by rw [List.drop_zero], hb2⟩
          case round =>
            clear k1
            obtain ⟨i, hi, rfl, hE, hbr⟩ := hrel
            have HE := Lib.hid hE
            clear hE
            by_cases hlt : i < ps.length
            · have hg : ps[i]? = some ps[i] := List.getElem?_eq_getElem hlt
              obtain ⟨p, hp⟩ : ∃ l, l = ps[i] := ⟨_, rfl⟩
              rw [← hp] at hg
              have hst := smpsErr_from (ht := ht) (W0 := p0.W) hg
              rw [HE.out] at hst
              obtain ⟨ad, rfl, j1, j2, j3⟩ := (HS.out.bl hbr).at_ hg
              have HS0 := Lib.hid (fun wx (hb : Bl w1 wx) => (HS.out.bl hb).at_ Hp0.out)
              have Hst := Lib.hid hst
              clear hst hg hp
              go_wp2_with fail
              obtain ⟨w5, hw5⟩ : ∃ x, x = wr.alloc (.cells #[.int .i64 p.W, .int .i64 p.H, .slice p.A p.m p.c] 27) := ⟨_, rfl⟩
              have b5 : Blk w5 wr.heap.size 27 #[.int .i64 p.W, .int .i64 p.H, .slice p.A p.m p.c] := by rw [hw5]; exact Blk.new _ _ _
              have hb5 : Bl w1 w5 := by rw [hw5]; exact hbr.alloc _
              rw [← hw5]
              clear hw5 j1 j2 j3
              obtain ⟨pe, hpe⟩ : ∃ x, x = pageErr p.W p.H p.m := ⟨_, rfl⟩
              have hcb := checkBits_any p.W p.H p.A p.m p.c w5
              rw [← hpe] at hcb
              have HPe := Lib.hid hpe
              have Hcb := Lib.hid hcb
              have B5 := Lib.hid b5
              clear hpe hcb b5
              refine Hcb.out.mono ?_
              rintro e w7 ⟨rfl, hb57⟩
              have hb7 := hb5.trans hb57
              have k1 := (w11.bl hb7).all5
              have k6 := (B5.out.bl hb57).all3
              have o1 : w7.cell? ad = some (.int .i64 p0.W) := by
                obtain ⟨ad', e, o1, -, -⟩ := HS0.out w7 hb7
                injection e with e
                subst e
                rw [Nat.zero_mul, Addr.add_zero'] at o1
                exact o1
              by_cases hz : pe = 0
              case neg =>
                have hq : (pe == 0) = false := by simp [hz]
                have HNZ := Lib.hid hz
                have HX := Lib.hid (show pe = smpsErr ht p0.W ps by
                  rw [Hst.out]
                  unfold smpErr
                  rw [← HPe.out, if_neg hz, if_neg hz])
                clear hz
                have kz := (w12.bl hb7).all5
                go_wp2_with fail
                try simp only [Exit.inBlock, Exit.then]
                refine bodyPost_ret (v := .tuple #[.agg #[.string ⟨#[]⟩, .int .i64 0, .int .i64 0, .int .i64 0, .slice none 0 0], .int .i64 pe]) (by simp [results, Tryd.results20, go_sem, kz]) rfl ⟨[], 0, 0, 0, none, 0, 0, pe, rfl, learn_zero (by rw [HLE.out, Hw0.out]; exact HX.out) HNZ.out, ?_⟩
                exact ((((((w1b.trans hb7).setCell (by simp) _).setCell (by simp) _).setCell (by simp) _).setCell (by simp) _).setCell (by simp) _)
              case pos =>
                subst hz
                go_upto_region 16 with fail
                by_cases c2 : p.H = ht
                case neg =>
                  have q1 : (p.H != ht) = true := by simp [c2]
                  have HX := Lib.hid (show (11 : Int) = smpsErr ht p0.W ps by
                    rw [Hst.out]
                    unfold smpErr
                    rw [← HPe.out, q1]
                    rfl)
                  clear c2
                  refine wp_region_flow [(true, 0), (true, 1), (true, 2), (true, 3), (true, 4), (true, 5), (true, 6), (true, 7), (true, 8), (true, 9), (true, 10), (true, 11), (true, 12), (true, 13)] (fun _ => false) (by kernel_rfl) (by kernel_rfl) (by kernel_rfl) (by kernel_rfl) ?_
                  iterate 1
                    apply Flow.calm2 _ _ rfl rfl
                    · intro w' hb' K' hK'
                      obtain ⟨hc', hf'⟩ := hb'.rule
                      go_simp
                      try go_ints
                      exact hK'
                    · intro K' hK'
                      simp only [Act.put, List.setIfInBounds_toArray, List.set_cons_zero, List.set_cons_succ]
                      exact hK'
                  iterate 1
                    apply Flow.calm2 _ _ rfl rfl
                    · intro w' hb' K' hK'
                      obtain ⟨hc', hf'⟩ := hb'.rule
                      go_simp
                      try go_ints
                      exact hK'
                    · intro K' hK'
                      simp only [Act.put, List.setIfInBounds_toArray, List.set_cons_zero, List.set_cons_succ]
                      exact hK'
                  iterate 1
                    apply Flow.calm2 _ _ rfl rfl
                    · intro w' hb' K' hK'
                      obtain ⟨hc', hf'⟩ := hb'.rule
                      go_simp
                      try go_ints
                      exact hK'
                    · intro K' hK'
                      simp only [Act.put, List.setIfInBounds_toArray, List.set_cons_zero, List.set_cons_succ]
                      exact hK'
                  iterate 1
                    apply Flow.calm2 _ _ rfl rfl
                    · intro w' hb' K' hK'
                      obtain ⟨hc', hf'⟩ := hb'.rule
                      go_simp
                      try go_ints
                      exact hK'
                    · intro K' hK'
                      simp only [Act.put, List.setIfInBounds_toArray, List.set_cons_zero, List.set_cons_succ]
                      exact hK'
                  iterate 1
                    apply Flow.calm2 _ _ rfl rfl
                    · intro w' hb' K' hK'
                      obtain ⟨hc', hf'⟩ := hb'.rule
                      go_simp
                      try go_ints
                      exact hK'
                    · intro K' hK'
                      simp only [Act.put, List.setIfInBounds_toArray, List.set_cons_zero, List.set_cons_succ]
                      exact hK'
                  iterate 1
                    apply Flow.mv _ rfl
                    · intro K' hK'
                      simp only [Act.put, Act.eval, List.setIfInBounds_toArray, List.set_cons_zero, List.set_cons_succ, arr_getD, List.getD_cons_zero, List.getD_cons_succ]
                      exact hK'
                  first
                    | (apply Flow.pass rfl (by rfl))
                    | (apply Flow.calmG _ rfl (by rfl)
                       · intro w' hb'
                         obtain ⟨hc', hf'⟩ := hb'.rule
                         go_simp
                         all_goals (try rfl))
                  simp only [Act.put, List.setIfInBounds_toArray, List.set_cons_zero, List.set_cons_succ]
                  try go_ints
                  first
                    | (apply Flow.pass rfl (by rfl))
                    | (apply Flow.calmG _ rfl (by rfl)
                       · intro w' hb'
                         obtain ⟨hc', hf'⟩ := hb'.rule
                         go_simp
                         all_goals (try rfl))
                  simp only [Act.put, List.setIfInBounds_toArray, List.set_cons_zero, List.set_cons_succ]
                  try go_ints
                  first
                    | (apply Flow.pass rfl (by rfl))
                    | (apply Flow.calmG _ rfl (by rfl)
                       · intro w' hb'
                         obtain ⟨hc', hf'⟩ := hb'.rule
                         go_simp
                         all_goals (try rfl))
                  simp only [Act.put, List.setIfInBounds_toArray, List.set_cons_zero, List.set_cons_succ]
                  try go_ints
                  first
                    | (apply Flow.pass rfl (by rfl))
                    | (apply Flow.calmG _ rfl (by rfl)
                       · intro w' hb'
                         obtain ⟨hc', hf'⟩ := hb'.rule
                         go_simp
                         all_goals (try rfl))
                  simp only [Act.put, List.setIfInBounds_toArray, List.set_cons_zero, List.set_cons_succ]
                  try go_ints
                  first
                    | (apply Flow.pass rfl (by rfl))
                    | (apply Flow.calmG _ rfl (by rfl)
                       · intro w' hb'
                         obtain ⟨hc', hf'⟩ := hb'.rule
                         go_simp
                         all_goals (try rfl))
                  simp only [Act.put, List.setIfInBounds_toArray, List.set_cons_zero, List.set_cons_succ]
                  try go_ints
                  first
                    | (apply Flow.pass rfl (by rfl))
                    | (apply Flow.calmG _ rfl (by rfl)
                       · intro w' hb'
                         obtain ⟨hc', hf'⟩ := hb'.rule
                         go_simp
                         all_goals (try rfl))
                  simp only [Act.put, List.setIfInBounds_toArray, List.set_cons_zero, List.set_cons_succ]
                  try go_ints
                  first
                    | (apply Flow.pass rfl (by rfl))
                    | (apply Flow.calmG _ rfl (by rfl)
                       · intro w' hb'
                         obtain ⟨hc', hf'⟩ := hb'.rule
                         go_simp
                         all_goals (try rfl))
                  simp only [Act.put, List.setIfInBounds_toArray, List.set_cons_zero, List.set_cons_succ]
                  try go_ints
                  iterate 1
                    apply Flow.calm2 _ _ rfl rfl
                    · intro w' hb' K' hK'
                      obtain ⟨hc', hf'⟩ := hb'.rule
                      go_simp
                      try go_ints
                      exact hK'
                    · intro K' hK'
                      simp only [Act.put, List.setIfInBounds_toArray, List.set_cons_zero, List.set_cons_succ]
                      exact hK'
                  refine Flow.done ?_
                  have kz := (w12.bl hb7).all5
                  go_wp2_with fail
                  try simp only [Exit.inBlock, Exit.then]
                  refine bodyPost_ret (v := .tuple #[.agg #[.string ⟨#[]⟩, .int .i64 0, .int .i64 0, .int .i64 0, .slice none 0 0], .int .i64 11]) (by simp [results, Tryd.results20, go_sem, kz]) rfl ⟨[], 0, 0, 0, none, 0, 0, 11, rfl, learn_zero (by rw [HLE.out, Hw0.out]; exact HX.out) (by decide), ?_⟩
                  exact ((((((w1b.trans hb7.drew).setCell (by simp) _).setCell (by simp) _).setCell (by simp) _).setCell (by simp) _).setCell (by simp) _)
                case pos =>
                  have q1 : (p.H != ht) = false := by simp [c2]
                  by_cases c3 : p.W = p0.W
                  case neg =>
                    have q2 : (p.W != p0.W) = true := by simp [c3]
                    have HX := Lib.hid (show (11 : Int) = smpsErr ht p0.W ps by
                      rw [Hst.out]
                      unfold smpErr
                      rw [← HPe.out, q1, q2]
                      rfl)
                    clear c2 c3
                    refine wp_region_flow [(true, 0), (true, 1), (true, 2), (true, 3), (true, 4), (true, 5), (true, 6), (true, 7), (true, 8), (true, 9), (true, 10), (true, 11), (true, 12), (true, 13)] (fun _ => false) (by kernel_rfl) (by kernel_rfl) (by kernel_rfl) (by kernel_rfl) ?_
                    iterate 1
                      apply Flow.calm2 _ _ rfl rfl
                      · intro w' hb' K' hK'
                        obtain ⟨hc', hf'⟩ := hb'.rule
                        go_simp
                        try go_ints
                        exact hK'
                      · intro K' hK'
                        simp only [Act.put, List.setIfInBounds_toArray, List.set_cons_zero, List.set_cons_succ]
                        exact hK'
                    iterate 1
                      apply Flow.calm2 _ _ rfl rfl
                      · intro w' hb' K' hK'
                        obtain ⟨hc', hf'⟩ := hb'.rule
                        go_simp
                        try go_ints
                        exact hK'
                      · intro K' hK'
                        simp only [Act.put, List.setIfInBounds_toArray, List.set_cons_zero, List.set_cons_succ]
                        exact hK'
                    iterate 1
                      apply Flow.calm2 _ _ rfl rfl
                      · intro w' hb' K' hK'
                        obtain ⟨hc', hf'⟩ := hb'.rule
                        go_simp
                        try go_ints
                        exact hK'
                      · intro K' hK'
                        simp only [Act.put, List.setIfInBounds_toArray, List.set_cons_zero, List.set_cons_succ]
                        exact hK'
                    iterate 1
                      apply Flow.calm2 _ _ rfl rfl
                      · intro w' hb' K' hK'
                        obtain ⟨hc', hf'⟩ := hb'.rule
                        go_simp
                        try go_ints
                        exact hK'
                      · intro K' hK'
                        simp only [Act.put, List.setIfInBounds_toArray, List.set_cons_zero, List.set_cons_succ]
                        exact hK'
                    iterate 1
                      apply Flow.calm2 _ _ rfl rfl
                      · intro w' hb' K' hK'
                        obtain ⟨hc', hf'⟩ := hb'.rule
                        go_simp
                        try go_ints
                        exact hK'
                      · intro K' hK'
                        simp only [Act.put, List.setIfInBounds_toArray, List.set_cons_zero, List.set_cons_succ]
                        exact hK'
                    iterate 1
                      apply Flow.mv _ rfl
                      · intro K' hK'
                        simp only [Act.put, Act.eval, List.setIfInBounds_toArray, List.set_cons_zero, List.set_cons_succ, arr_getD, List.getD_cons_zero, List.getD_cons_succ]
                        exact hK'
                    first
                      | (apply Flow.pass rfl (by rfl))
                      | (apply Flow.calmG _ rfl (by rfl)
                         · intro w' hb'
                           obtain ⟨hc', hf'⟩ := hb'.rule
                           go_simp
                           all_goals (try rfl))
                    simp only [Act.put, List.setIfInBounds_toArray, List.set_cons_zero, List.set_cons_succ]
                    try go_ints
                    first
                      | (apply Flow.pass rfl (by rfl))
                      | (apply Flow.calmG _ rfl (by rfl)
                         · intro w' hb'
                           obtain ⟨hc', hf'⟩ := hb'.rule
                           go_simp
                           all_goals (try rfl))
                    simp only [Act.put, List.setIfInBounds_toArray, List.set_cons_zero, List.set_cons_succ]
                    try go_ints
                    first
                      | (apply Flow.pass rfl (by rfl))
                      | (apply Flow.calmG _ rfl (by rfl)
                         · intro w' hb'
                           obtain ⟨hc', hf'⟩ := hb'.rule
                           go_simp
                           all_goals (try rfl))
                    simp only [Act.put, List.setIfInBounds_toArray, List.set_cons_zero, List.set_cons_succ]
                    try go_ints
                    first
                      | (apply Flow.pass rfl (by rfl))
                      | (apply Flow.calmG _ rfl (by rfl)
                         · intro w' hb'
                           obtain ⟨hc', hf'⟩ := hb'.rule
                           go_simp
                           all_goals (try rfl))
                    simp only [Act.put, List.setIfInBounds_toArray, List.set_cons_zero, List.set_cons_succ]
                    try go_ints
                    first
                      | (apply Flow.pass rfl (by rfl))
                      | (apply Flow.calmG _ rfl (by rfl)
                         · intro w' hb'
                           obtain ⟨hc', hf'⟩ := hb'.rule
                           go_simp
                           all_goals (try rfl))
                    simp only [Act.put, List.setIfInBounds_toArray, List.set_cons_zero, List.set_cons_succ]
                    try go_ints
                    first
                      | (apply Flow.pass rfl (by rfl))
                      | (apply Flow.calmG _ rfl (by rfl)
                         · intro w' hb'
                           obtain ⟨hc', hf'⟩ := hb'.rule
                           go_simp
                           all_goals (try rfl))
                    simp only [Act.put, List.setIfInBounds_toArray, List.set_cons_zero, List.set_cons_succ]
                    try go_ints
                    first
                      | (apply Flow.pass rfl (by rfl))
                      | (apply Flow.calmG _ rfl (by rfl)
                         · intro w' hb'
                           obtain ⟨hc', hf'⟩ := hb'.rule
                           go_simp
                           all_goals (try rfl))
                    simp only [Act.put, List.setIfInBounds_toArray, List.set_cons_zero, List.set_cons_succ]
                    try go_ints
                    iterate 1
                      apply Flow.calm2 _ _ rfl rfl
                      · intro w' hb' K' hK'
                        obtain ⟨hc', hf'⟩ := hb'.rule
                        go_simp
                        try go_ints
                        exact hK'
                      · intro K' hK'
                        simp only [Act.put, List.setIfInBounds_toArray, List.set_cons_zero, List.set_cons_succ]
                        exact hK'
                    refine Flow.done ?_
                    have kz := (w12.bl hb7).all5
                    go_wp2_with fail
                    try simp only [Exit.inBlock, Exit.then]
                    refine bodyPost_ret (v := .tuple #[.agg #[.string ⟨#[]⟩, .int .i64 0, .int .i64 0, .int .i64 0, .slice none 0 0], .int .i64 11]) (by simp [results, Tryd.results20, go_sem, kz]) rfl ⟨[], 0, 0, 0, none, 0, 0, 11, rfl, learn_zero (by rw [HLE.out, Hw0.out]; exact HX.out) (by decide), ?_⟩
                    exact ((((((w1b.trans hb7.drew).setCell (by simp) _).setCell (by simp) _).setCell (by simp) _).setCell (by simp) _).setCell (by simp) _)
                  case pos =>
                    have q2 : (p.W != p0.W) = false := by simp [c3]
                    have HX := Lib.hid (show smpsErr ht p0.W (ps.drop (i + 1)) = smpsErr ht p0.W ps by
                      rw [Hst.out]
                      unfold smpErr
                      rw [← HPe.out, q1, q2]
                      rfl)
                    clear c2 c3
                    refine wp_region_flow [(true, 0), (true, 1), (true, 2), (true, 3), (true, 4), (true, 5), (true, 6), (true, 7), (true, 8), (true, 9), (true, 10), (true, 11), (true, 12), (true, 13)] (fun _ => false) (by kernel_rfl) (by kernel_rfl) (by kernel_rfl) (by kernel_rfl) ?_
                    iterate 1
                      apply Flow.calm2 _ _ rfl rfl
                      · intro w' hb' K' hK'
                        obtain ⟨hc', hf'⟩ := hb'.rule
                        go_simp
                        try go_ints
                        exact hK'
                      · intro K' hK'
                        simp only [Act.put, List.setIfInBounds_toArray, List.set_cons_zero, List.set_cons_succ]
                        exact hK'
                    iterate 1
                      apply Flow.calm2 _ _ rfl rfl
                      · intro w' hb' K' hK'
                        obtain ⟨hc', hf'⟩ := hb'.rule
                        go_simp
                        try go_ints
                        exact hK'
                      · intro K' hK'
                        simp only [Act.put, List.setIfInBounds_toArray, List.set_cons_zero, List.set_cons_succ]
                        exact hK'
                    iterate 1
                      apply Flow.calm2 _ _ rfl rfl
                      · intro w' hb' K' hK'
                        obtain ⟨hc', hf'⟩ := hb'.rule
                        go_simp
                        try go_ints
                        exact hK'
                      · intro K' hK'
                        simp only [Act.put, List.setIfInBounds_toArray, List.set_cons_zero, List.set_cons_succ]
                        exact hK'
                    iterate 1
                      apply Flow.calm2 _ _ rfl rfl
                      · intro w' hb' K' hK'
                        obtain ⟨hc', hf'⟩ := hb'.rule
                        go_simp
                        try go_ints
                        exact hK'
                      · intro K' hK'
                        simp only [Act.put, List.setIfInBounds_toArray, List.set_cons_zero, List.set_cons_succ]
                        exact hK'
                    iterate 1
                      apply Flow.calm2 _ _ rfl rfl
                      · intro w' hb' K' hK'
                        obtain ⟨hc', hf'⟩ := hb'.rule
                        go_simp
                        try go_ints
                        exact hK'
                      · intro K' hK'
                        simp only [Act.put, List.setIfInBounds_toArray, List.set_cons_zero, List.set_cons_succ]
                        exact hK'
                    iterate 1
                      apply Flow.mv _ rfl
                      · intro K' hK'
                        simp only [Act.put, Act.eval, List.setIfInBounds_toArray, List.set_cons_zero, List.set_cons_succ, arr_getD, List.getD_cons_zero, List.getD_cons_succ]
                        exact hK'
                    first
                      | (apply Flow.pass rfl (by rfl))
                      | (apply Flow.calmG _ rfl (by rfl)
                         · intro w' hb'
                           obtain ⟨hc', hf'⟩ := hb'.rule
                           go_simp
                           all_goals (try rfl))
                    simp only [Act.put, List.setIfInBounds_toArray, List.set_cons_zero, List.set_cons_succ]
                    try go_ints
                    first
                      | (apply Flow.pass rfl (by rfl))
                      | (apply Flow.calmG _ rfl (by rfl)
                         · intro w' hb'
                           obtain ⟨hc', hf'⟩ := hb'.rule
                           go_simp
                           all_goals (try rfl))
                    simp only [Act.put, List.setIfInBounds_toArray, List.set_cons_zero, List.set_cons_succ]
                    try go_ints
                    first
                      | (apply Flow.pass rfl (by rfl))
                      | (apply Flow.calmG _ rfl (by rfl)
                         · intro w' hb'
                           obtain ⟨hc', hf'⟩ := hb'.rule
                           go_simp
                           all_goals (try rfl))
                    simp only [Act.put, List.setIfInBounds_toArray, List.set_cons_zero, List.set_cons_succ]
                    try go_ints
                    first
                      | (apply Flow.pass rfl (by rfl))
                      | (apply Flow.calmG _ rfl (by rfl)
                         · intro w' hb'
                           obtain ⟨hc', hf'⟩ := hb'.rule
                           go_simp
                           all_goals (try rfl))
                    simp only [Act.put, List.setIfInBounds_toArray, List.set_cons_zero, List.set_cons_succ]
                    try go_ints
                    first
                      | (apply Flow.pass rfl (by rfl))
                      | (apply Flow.calmG _ rfl (by rfl)
                         · intro w' hb'
                           obtain ⟨hc', hf'⟩ := hb'.rule
                           go_simp
                           all_goals (try rfl))
                    simp only [Act.put, List.setIfInBounds_toArray, List.set_cons_zero, List.set_cons_succ]
                    try go_ints
                    first
                      | (apply Flow.pass rfl (by rfl))
                      | (apply Flow.calmG _ rfl (by rfl)
                         · intro w' hb'
                           obtain ⟨hc', hf'⟩ := hb'.rule
                           go_simp
                           all_goals (try rfl))
                    simp only [Act.put, List.setIfInBounds_toArray, List.set_cons_zero, List.set_cons_succ]
                    try go_ints
                    first
                      | (apply Flow.pass rfl (by rfl))
                      | (apply Flow.calmG _ rfl (by rfl)
                         · intro w' hb'
                           obtain ⟨hc', hf'⟩ := hb'.rule
                           go_simp
                           all_goals (try rfl))
                    simp only [Act.put, List.setIfInBounds_toArray, List.set_cons_zero, List.set_cons_succ]
                    try go_ints
                    iterate 1
                      apply Flow.calm2 _ _ rfl rfl
                      · intro w' hb' K' hK'
                        obtain ⟨hc', hf'⟩ := hb'.rule
                        go_simp
                        try go_ints
                        exact hK'
                      · intro K' hK'
                        simp only [Act.put, List.setIfInBounds_toArray, List.set_cons_zero, List.set_cons_succ]
                        exact hK'
                    refine Flow.done ?_
                    go_wp2_with fail
                    exact ⟨⟨i + 1, hlt, by go_num, HX.out, hb7.drew⟩, by simp [RowKit.intOf] <;> omega⟩
            · obtain rfl : i = ps.length := by omega
              have hse : smpsErr ht p0.W ps = 0 := by rw [← HE.out, List.drop_length]; rfl
              have HLn := Lib.hid (HLE.out.trans (show smpsErr ht (wide0 ps) ps = 0 by rw [Hw0.out]; exact hse))
              clear HE HLE
              have hall := smpsErr_zero hse
              obtain ⟨hz0, eH0, eW0⟩ := smpErr_zero (hall p0 (List.mem_of_getElem? Hp0.out))
              obtain ⟨W0, H0, eW, eH, em, hW0, hH0, hWH⟩ := page_nat hz0
              have hsz := sizeErr_zero (pageErr_zero hz0).1
              rw [eW, eH] at hsz
              have hfz := (fontErr_zero HFe.out.symm).1
              have hls : ls.length ≤ 200 := hfz.2.2.2.2.1
              have hls0 : 0 < ls.length := by have := hfz.2.2.2.1; omega
              have hltr := (fontErr_zero HFe.out.symm).2
              have hht : ht = (H0 : Int) := eH0.symm.trans eH
              have hwd : wide0 ps = (W0 : Int) := Hw0.out.trans eW
              subst hht
              have hps2 : ∀ p ∈ ps, p.W = (W0 : Int) ∧ p.H = (H0 : Int) ∧ p.m = W0 * H0 := fun p hp => by
                obtain ⟨a1, a2, a3⟩ := smpErr_zero (hall p hp)
                obtain ⟨W', H', b1, b2, b3, -, -, -⟩ := page_nat a1
                rw [eW] at a3
                have e1 : W' = W0 := by omega
                have e2 : H' = H0 := by omega
                exact ⟨a3, a2, by rw [b3, e1, e2]⟩
              obtain ⟨ad, rfl, o1, o2, o3⟩ := (HS.out.bl hbr).at_ Hp0.out
              rw [eW, Nat.zero_mul, Addr.add_zero'] at o1
              rw [eH, Nat.zero_mul, Addr.add_zero'] at o2
              rw [em, Nat.zero_mul, Addr.add_zero'] at o3
              have hr0 := (HS.out.bl hbr).2 p0 (List.mem_of_getElem? Hp0.out)
              rw [em] at hr0
              have Hcl := Lib.hid (cloned_any (W0 : Int) (H0 : Int) p0.A (W0 * H0) p0.c p0.bs wr hr0 (by omega))
              have Hps := Lib.hid hps2; have Hwd := Lib.hid hwd; have Hltr := Lib.hid hltr
              have h11 : 1 ≤ W0 ∧ 1 ≤ H0 := by omega
              have hpos : 0 < W0 * H0 := Nat.mul_pos h11.1 h11.2
              clear hse hall hz0 eH0 eW0 eW eH em hsz hps2 hfz hwd hr0 hltr
              go_wp2_with fail
              refine Hcl.out.mono ?_
              rintro e w6 ⟨R, d, rfl, hown, hb6⟩
              obtain ⟨g, cap, e, hgB, hcap⟩ := own_some hown hpos
              injection e with e1 e2 e3
              subst e1
              subst e3
              have hb16 := hbr.trans hb6
              have hgw : w1.heap.size ≤ g := Nat.le_trans hbr.le hgB
              obtain ⟨q, hqq⟩ : ∃ q, q = w6.heap.size := ⟨_, rfl⟩
              have hgq : g < q := by rw [hqq]; exact own_lt hown
              have HOwn := Lib.hid (own_mono hown (show w1.heap.size ≤ _ from hbr.le))
              clear hown Hcl o1 o2 o3
              go_upto_region 20 with fail
              obtain ⟨w8, hw8⟩ : ∃ x, x = w6.alloc (.cells #[.int .i64 W0, .int .i64 H0, .slice (some ⟨g, 0, none⟩) (W0 * H0) d] 27) := ⟨_, rfl⟩
              have b8 : Blk w8 q 27 #[.int .i64 W0, .int .i64 H0, .slice (some ⟨g, 0, none⟩) (W0 * H0) d] := by rw [hw8, hqq]; exact Blk.new _ _ _
              have hb8 : Bl w1 w8 := by rw [hw8]; exact hb16.alloc _
              have hO8 : w8.ownsRow w1.heap.size 4 1 (.slice (some ⟨g, 0, none⟩) (W0 * H0) d) (W0 * H0) (p0.bs.map .bool) := by rw [hw8]; exact HOwn.out.alloc _
              rw [← hw8, ← hqq]
              have hq1 : w1.heap.size ≤ q := by rw [hqq]; exact hb16.le
              have k8 := b8.all3
              clear hw8 hqq HOwn hb16 hb6 hgB
              go_wp2_with fail
              go_loopw [80] (fun u wr => ∃ i : Nat, i ≤ W0 * H0 ∧ u = .int .i64 i ∧ Bl w1 wr ∧ Blk wr q 27 #[.int .i64 W0, .int .i64 H0, .slice (some ⟨g, 0, none⟩) (W0 * H0) d] ∧ ∃ xs, wr.ownsRow w1.heap.size 4 1 (.slice (some ⟨g, 0, none⟩) (W0 * H0) d) (W0 * H0) xs ∧ ∀ j, j < i → xs[j]? = some (.bool (voteB ps j))) (fun u _ => W0 * H0 - (RowKit.intOf u).toNat)
              case atStart => exact ⟨0, Nat.zero_le _, rfl, hb8, b8, _, hO8, fun j hj => absurd hj (Nat.not_lt_zero _)⟩
              case round =>
                clear k8 hb8 b8 hO8 hbr k1
                obtain ⟨i, hi, rfl, hbr, hbq, xs, hO, hdone⟩ := hrel
                have HO := Lib.hid hO; have HD := Lib.hid hdone
                clear hO hdone
                have k8 := hbq.all3
                by_cases hlt : i < W0 * H0
                · go_wp2_with fail
                  go_loopw [85, 14] (fun u v wx => ∃ j : Nat, j ≤ ps.length ∧ u = .int .i64 j ∧ v = .int .i64 (voteN (ps.take j) i : Nat) ∧ Bl wr wx) (fun u _ _ => ps.length - (RowKit.intOf u).toNat)
                  case atStart => exact ⟨0, Nat.zero_le _, rfl, rfl, Bl.refl _⟩
                  case round =>
                    rename World => wx
                    obtain ⟨j, hj, rfl, rfl, hbx⟩ := hrel
                    clear k8
                    have hvn : voteN (ps.take j) i ≤ 1000 := by have := voteN_le (ps.take j) i; have := List.length_take_le j ps; omega
                    by_cases hjl : j < ps.length
                    · have hg : ps[j]? = some ps[j] := List.getElem?_eq_getElem hjl
                      obtain ⟨p, hpp⟩ : ∃ p, p = ps[j] := ⟨_, rfl⟩
                      rw [← hpp] at hg
                      obtain ⟨eW, eH, em⟩ := Hps.out p (List.mem_of_getElem? hg)
                      have hsu := voteN_succ hg i
                      obtain ⟨ad', e', j1, j2, j3⟩ := (HS.out.bl (hbr.trans hbx)).at_ hg
                      injection e' with e'
                      subst e'
                      rw [eW] at j1
                      rw [eH] at j2
                      rw [em] at j3
                      have hr := (HS.out.bl (hbr.trans hbx)).2 p (List.mem_of_getElem? hg)
                      rw [em] at hr
                      obtain ⟨pa, pu, hpa, hpu, hpc⟩ := (hr.bl ((Bl.refl _).alloc (.cells #[.int .i64 W0, .int .i64 H0, .slice p.A (W0 * H0) p.c] 27))).at_ hlt
                      rw [hpa] at j3 hpc
                      have hpu' : pu = .bool (p.bs.getD i false) := by
                        simp only [List.getElem?_map, Option.map_eq_some_iff] at hpu
                        obtain ⟨b, hb1, hb2⟩ := hpu
                        rw [← hb2, List.getD, hb1]; rfl
                      subst hpu'
                      obtain ⟨v, hv⟩ : ∃ v, v = voteN (ps.take j) i := ⟨_, rfl⟩
                      obtain ⟨bt, hbt⟩ : ∃ b, b = p.bs.getD i false := ⟨_, rfl⟩
                      rw [← hv] at hsu hvn ⊢
                      rw [← hbt] at hsu hpc
                      have Hsu := Lib.hid hsu
                      clear hsu hv hg hpp hr eW eH em hpu hpa hbt
                      cases bt
                      · have HN := Lib.hid (show voteN (ps.take (j + 1)) i = v by rw [Hsu.out]; rfl)
                        go_wp2_with fail
                        exact ⟨⟨j + 1, hjl, by go_num, by rw [HN.out], hbx.alloc _⟩, by simp [RowKit.intOf] <;> omega⟩
                      · have HN := Lib.hid (show voteN (ps.take (j + 1)) i = v + 1 by rw [Hsu.out]; rfl)
                        go_wp2_with fail
                        exact ⟨⟨j + 1, hjl, by go_num, by rw [HN.out]; go_num, hbx.alloc _⟩, by simp [RowKit.intOf] <;> omega⟩
                    · obtain rfl : j = ps.length := by omega
                      rw [List.take_length] at hvn ⊢
                      have hbq2 := hbq.bl hbx
                      have k8 := hbq2.all3
                      have hO2 := own_bl HO.out hbx
                      obtain ⟨hcs, hfz⟩ := own_blk hO2
                      obtain ⟨v0, hc0⟩ := hcs i (by omega)
                      have fi := hfz i
                      have hvt : voteB ps i = decide ((ps.length : Int) < 2 * (voteN ps i : Int)) := rfl
                      obtain ⟨v, hv⟩ : ∃ v, v = voteN ps i := ⟨_, rfl⟩
                      rw [← hv] at hvt hvn ⊢
                      have HO2 := Lib.hid hO2; have HVt := Lib.hid hvt
                      clear hcs hfz hO2 hvt hv
                      go_wp2_with fail
                      refine ⟨⟨i + 1, hlt, by go_num, (hbr.trans hbx).setCell (by simpa using hgw) _, hbq2.far (by simp; omega) _, _, ownsRow_set HO2.out i _, fun j hj => ?_⟩, by simp [RowKit.intOf] <;> omega⟩
                      by_cases e : i = j
                      · subst e
                        rw [HVt.out, List.getElem?_set_self (by have := HO2.out.1; omega)]
                      · rw [List.getElem?_set_ne e]
                        exact HD.out j (by omega)
                · obtain rfl : i = W0 * H0 := by omega
                  have hxs := votes_eq (ps := ps) (by have := HO.out.1; omega) HD.out
                  have hO := HO.out
                  rw [hxs] at hO
                  obtain ⟨A', c', e', hR⟩ := own_reads hO
                  injection e' with e1 _ e3
                  subst e1
                  subst e3
                  have HR := Lib.hid hR
                  have Hbd := Lib.hid (bounds_any (W0 : Int) (H0 : Int) (some ⟨g, 0, none⟩) (W0 * H0) d (votes ps W0 H0) wr hR)
                  clear hxs hO hR HO HD
                  have hpz : pageErr (W0 : Int) (H0 : Int) (W0 * H0) = 0 := page_ok (by omega) (by omega) (by omega) (by omega) (by omega)
                  go_wp2_with fail
                  refine Hbd.out.mono ?_
                  rintro e w9 ⟨X, Y, BW, BH, err, rfl, -, hB, hb9⟩
                  obtain ⟨is, hBI, rfl⟩ := hB hpz
                  simp only [Int.toNat_natCast] at hBI
                  have hbr9 := hbr.trans hb9
                  have hbq9 := hbq.bl hb9
                  have k8 := hbq9.all3
                  have k1 := (w11.bl hbr9).all5
                  have HR9 := Lib.hid (HR.out.bl hb9)
                  have HBI := Lib.hid hBI
                  clear hBI Hbd HR hB
                  go_upto_if 113 with fail
                  obtain ⟨wT, hwT⟩ : ∃ x, x = w9.alloc (.cells #[.int .i64 X, .int .i64 Y, .int .i64 BW, .int .i64 BH] 88) := ⟨_, rfl⟩
                  obtain ⟨bx, hbx⟩ : ∃ x, x = w9.heap.size := ⟨_, rfl⟩
                  have bT : Blk wT bx 88 #[.int .i64 X, .int .i64 Y, .int .i64 BW, .int .i64 BH] := by rw [hwT, hbx]; exact Blk.new _ _ _
                  have hb9T : Bl w9 wT := by rw [hwT]; exact (Bl.refl _).alloc _
                  rw [← hwT, ← hbx]
                  have hbrT := hbr9.trans hb9T
                  have hbqT := hbq9.bl hb9T
                  have HRT := Lib.hid (HR9.out.bl hb9T)
                  clear hwT k8 k1 hbr9 hbq9 HR9 hb9T hbx hb9
                  have k8 := hbqT.all3
                  have k1 := (w11.bl hbrT).all5
                  have k9 := bT.all4
                  go_cut [18] from 24 to 175 (fun _ wc => ∃ l : Ltr, Blk wc q 27 #[.int .i64 l.W, .int .i64 l.H, .slice l.A l.m l.c] ∧ l.text = t ∧ NewKey t ps W0 H0 l.key ∧ Reads wc 1 l.A l.m (l.bs.map .bool) ∧ (∀ a, l.A = some a → w1.heap.size ≤ a.block) ∧ Bl w1 wc)
                  case first =>
                    rcases HBI.out with ⟨rfl, hno, rfl, rfl, rfl, rfl⟩ | ⟨rfl, x, r, tt, bb, hen, -, rfl, rfl, rfl, rfl⟩
                    · have HNo := Lib.hid hno
                      have hw10 : whenI (!false) 10 = 10 := rfl
                      rw [hw10]
                      clear hno hw10
                      go_wp2_with fail
                      go_meet
                      case rel =>
                        refine ⟨⟨t, 0, H0, none, 0, 0, []⟩, ((hbqT.set_ 0 (.int .i64 0)).set_ 1 (.int .i64 H0)).set_ 2 (.slice none 0 0), rfl, .inl ⟨HNo.out, ?_⟩, Reads.none_, (fun a h => by cases h), ?_⟩
                        · simp [Ltr.key, pageErr, sizeErr]
                        · exact ((hbrT.setCell hq1 _).setCell hq1 _).setCell hq1 _
                    · have hxr : x ≤ r := by
                        rcases Nat.lt_or_ge r x with h | h
                        · have := hen.1.2.2 r h
                          have := hen.2.2.1
                          omega
                        · exact h
                      have hrW := hen.2.1
                      obtain ⟨bw, hbw⟩ : ∃ n, n = r - x + 1 := ⟨_, rfl⟩
                      have e1 : (r : Int) - (x : Int) + 1 = (bw : Int) := by omega
                      have hbW : x + bw ≤ W0 := by omega
                      have hmul : bw * H0 ≤ W0 * H0 := Nat.mul_le_mul (by omega) (Nat.le_refl _)
                      have hw10 : whenI (!true) 10 = 0 := rfl
                      rw [hw10]
                      rw [e1]
                      have hce : cutErr (W0 : Int) (H0 : Int) (W0 * H0) (x : Int) 0 (bw : Int) (H0 : Int) = 0 := by
                        unfold cutErr
                        rw [hpz]
                        have hin : inPageB (x : Int) 0 (bw : Int) (H0 : Int) (W0 : Int) (H0 : Int) = true := decide_eq_true (by omega)
                        rw [hin]
                        rfl
                      have hct := cut_any (W0 : Int) (H0 : Int) (some ⟨g, 0, none⟩) (W0 * H0) d (votes ps W0 H0) (x : Int) 0 (bw : Int) (H0 : Int)
                      rw [hce] at hct
                      simp only [Int.toNat_natCast] at hct
                      have Hct := Lib.hid hct
                      have HEn := Lib.hid hen; have Hbw := Lib.hid hbw; have HHpz := Lib.hid hpz
                      clear hen hbw hce hct hw10 hpz
                      go_wp2_with fail
                      refine (Hct.out _ HRT.out).mono ?_
                      rintro e wc ⟨ca, cb, cR, cm, cd, rfl, hres, hbc⟩
                      have hnp := hres.1 rfl
                      obtain ⟨R', rc', e', hR', hRn'⟩ := hnp
                      injection e' with e'
                      simp only [Array.mk.injEq, List.cons.injEq, Value.int.injEq, Value.slice.injEq, true_and, and_true] at e'
                      obtain ⟨rfl, rfl, rfl, rfl, rfl⟩ := e'
                      have hbq10 : Blk wc q 27 #[.int .i64 W0, .int .i64 H0, .slice (some ⟨g, 0, none⟩) (W0 * H0) d] := (hbqT).bl hbc
                      have hbr10 : Bl w1 wc := (hbrT).trans hbc
                      have hq9 := hbqT.lt
                      clear k8
                      have k8 := hbq10.all3
                      have HR' := Lib.hid hR'
                      have HRn' := Lib.hid (show ∀ a, cR = some a → wT.heap.size ≤ a.block from fun a h => hRn' a h)
                      clear hR' hRn' hres
                      go_wp2_with fail
                      go_meet
                      case rel =>
                        refine ⟨⟨t, bw, H0, cR, bw * H0, cd, grid bw H0 (cutF (votes ps W0 H0) W0 x 0)⟩, ((hbq10.set_ 0 (.int .i64 bw)).set_ 1 (.int .i64 H0)).set_ 2 (.slice cR (bw * H0) cd), rfl, .inr ⟨x, r, HEn.out, ?_⟩, ?_, fun a h => ?_, ?_⟩
                        · have hpz : pageErr (bw : Int) (H0 : Int) (bw * H0) = 0 := page_ok (by omega) (by omega) (by omega) (by omega) (by omega)
                          simp only [Ltr.key, hpz, if_true]
                          rw [← Hbw.out]
                        · exact ((HR'.out.store (B := wT.heap.size) HRn'.out (by show q < _; omega) _).store (B := wT.heap.size) HRn'.out (by show q < _; omega) _).store (B := wT.heap.size) HRn'.out (by show q < _; omega) _
                        · have := HRn'.out a h
                          have := hbrT.le
                          omega
                        · exact ((hbr10.setCell hq1 _).setCell hq1 _).setCell hq1 _
                  case rest =>
                    obtain ⟨l, hbq, hlt, hNK, hlA, hlB, hbd⟩ := hcut
                    rename World => wd
                    have k1 := (w11.bl hbd).all5
                    have hlAlt : ∀ a, l.A = some a → 0 < l.m → a.block < wd.heap.size := hlA.lt
                    have Hlt := Lib.hid hlt; have HNK := Lib.hid hNK; have HlA := Lib.hid hlA; have HlB := Lib.hid hlB; have HbQ := Lib.hid hbq
                    have hqlt := hbq.lt
                    clear k8 hbqT HBI HRT hbrT hbr hlt hNK hlA hlB hbq hpz bT k9
                    obtain ⟨o, ho⟩ : ∃ o, o = wd.heap.size := ⟨_, rfl⟩
                    have ho1 : w1.heap.size ≤ o := by rw [ho]; exact hbd.le
                    go_upto_region 38 with fail
                    obtain ⟨wO, hwO⟩ : ∃ x, x = wd.alloc (.cells #[.string ⟨nm.toArray⟩, .int .i64 H0, .int .i64 gap, .int .i64 sp, .slice none 0 0] 24) := ⟨_, rfl⟩
                    have bO : Blk wO o 24 #[.string ⟨nm.toArray⟩, .int .i64 H0, .int .i64 gap, .int .i64 sp, .slice none 0 0] := by rw [hwO, ho]; exact Blk.new _ _ _
                    have hbO : Bl wd wO := by rw [hwO]; exact (Bl.refl _).alloc _
                    rw [← hwO, ← ho]
                    have ho2 : wd.heap.size ≤ o := by omega
                    clear hwO ho
                    have k1 := (w11.bl (hbd.trans hbO)).all5
                    go_wp2_with fail
                    go_loopw [134] (fun u wr => ∃ (i : Nat) (v : Value) (cs : List Ltr), i ≤ ls.length ∧ u = .int .i64 i ∧ Bl wd wr ∧ Blk wr o 24 #[.string ⟨nm.toArray⟩, .int .i64 H0, .int .i64 gap, .int .i64 sp, v] ∧ wr.ownsRow (o + 1) 93 4 v i (ltrCells cs) ∧ cs.map Ltr.face = (ls.take i).map Ltr.face ∧ ∀ y ∈ cs, Owned wr (o + 1) y) (fun u _ => ls.length - (RowKit.intOf u).toNat)
                    case atStart => exact ⟨0, _, [], Nat.zero_le _, rfl, hbO, bO, World.ownsRow_nil _ _ _ _, rfl, fun y hy => by cases hy⟩
                    case round =>
                      clear k1 bO hbO
                      obtain ⟨i, v, cs, hi, rfl, hbr, hbo, hown, hfc, hcs⟩ := hrel
                      have k1 := (w11.bl (hbd.trans hbr)).all5
                      have hob := hbo.lt
                      have HOwn := Lib.hid hown; have HFc := Lib.hid hfc; have HCs := Lib.hid hcs
                      clear hown hfc hcs
                      by_cases hlt : i < ls.length
                      · have hg : ls[i]? = some ls[i] := List.getElem?_eq_getElem hlt
                        obtain ⟨y, hy⟩ : ∃ y, y = ls[i] := ⟨_, rfl⟩
                        rw [← hy] at hg
                        obtain ⟨adl, rfl, j1, j2, j3, j4⟩ := (HL.out.bl (hbd.trans hbr)).at_ hg
                        obtain ⟨-, hyz, -, -⟩ := Hltr.out y (List.mem_of_getElem? hg)
                        obtain ⟨yW, yH, eyW, eyH, eym, hyW, hyH, hyWH⟩ := page_nat hyz
                        have hysz := sizeErr_zero (pageErr_zero hyz).1
                        rw [eyW, eyH] at hysz
                        have hym : 0 < y.m := by rw [eym]; exact Nat.mul_pos (by omega) (by omega)
                        have hym2 : y.m ≤ 1048576 := by omega
                        have hyA := (HL.out.2 y (List.mem_of_getElem? hg)).1
                        have HG := Lib.hid hg; have HyA := Lib.hid hyA
                        clear hyz eyW eyH eym hyW hyH hyWH hysz hyA hg hy
                        go_upto_region 41 with fail
                        obtain ⟨w5, hw5⟩ : ∃ x, x = wr.alloc (.cells #[.string ⟨y.text.toArray⟩, .int .i64 y.W, .int .i64 y.H, .slice y.A y.m y.c] 93) := ⟨_, rfl⟩
                        have b5 : Blk w5 wr.heap.size 93 #[.string ⟨y.text.toArray⟩, .int .i64 y.W, .int .i64 y.H, .slice y.A y.m y.c] := by rw [hw5]; exact Blk.new _ _ _
                        have hb5 : Bl wr w5 := by rw [hw5]; exact (Bl.refl _).alloc _
                        rw [← hw5]
                        clear hw5 j1 j2 j3 j4 k1
                        have k6 := b5.all4
                        have k7 := (hbo.bl hb5).all5
                        have Hcl := Lib.hid (cloned_any y.W y.H y.A y.m y.c y.bs w5.drew (HyA.out.bl ((hbd.trans hbr).trans hb5.drew)) (by omega))
                        have B5 := Lib.hid b5; have HBO := Lib.hid hbo
                        clear b5 hbo
                        refine wp_region_flow [(true, 0), (true, 1), (true, 2), (true, 3), (true, 4), (true, 5), (false, 6), (true, 7), (false, 8), (false, 9), (true, 10), (false, 11)] (fun i => i == 9 || i == 11) (by kernel_rfl) (by kernel_rfl) (by kernel_rfl) (by kernel_rfl) ?_
                        iterate 1
                          apply Flow.calm2 _ _ rfl rfl
                          · intro w' hb' K' hK'
                            obtain ⟨hc', hf'⟩ := hb'.rule
                            go_simp
                            try go_ints
                            exact hK'
                          · intro K' hK'
                            simp only [Act.put, List.setIfInBounds_toArray, List.set_cons_zero, List.set_cons_succ]
                            exact hK'
                        iterate 1
                          apply Flow.calm2 _ _ rfl rfl
                          · intro w' hb' K' hK'
                            obtain ⟨hc', hf'⟩ := hb'.rule
                            go_simp
                            try go_ints
                            exact hK'
                          · intro K' hK'
                            simp only [Act.put, List.setIfInBounds_toArray, List.set_cons_zero, List.set_cons_succ]
                            exact hK'
                        iterate 1
                          apply Flow.calm2 _ _ rfl rfl
                          · intro w' hb' K' hK'
                            obtain ⟨hc', hf'⟩ := hb'.rule
                            go_simp
                            try go_ints
                            exact hK'
                          · intro K' hK'
                            simp only [Act.put, List.setIfInBounds_toArray, List.set_cons_zero, List.set_cons_succ]
                            exact hK'
                        iterate 1
                          apply Flow.calm2 _ _ rfl rfl
                          · intro w' hb' K' hK'
                            obtain ⟨hc', hf'⟩ := hb'.rule
                            go_simp
                            try go_ints
                            exact hK'
                          · intro K' hK'
                            simp only [Act.put, List.setIfInBounds_toArray, List.set_cons_zero, List.set_cons_succ]
                            exact hK'
                        iterate 1
                          apply Flow.calm2 _ _ rfl rfl
                          · intro w' hb' K' hK'
                            obtain ⟨hc', hf'⟩ := hb'.rule
                            go_simp
                            try go_ints
                            exact hK'
                          · intro K' hK'
                            simp only [Act.put, List.setIfInBounds_toArray, List.set_cons_zero, List.set_cons_succ]
                            exact hK'
                        iterate 1
                          apply Flow.calm2 _ _ rfl rfl
                          · intro w' hb' K' hK'
                            obtain ⟨hc', hf'⟩ := hb'.rule
                            go_simp
                            try go_ints
                            exact hK'
                          · intro K' hK'
                            simp only [Act.put, List.setIfInBounds_toArray, List.set_cons_zero, List.set_cons_succ]
                            exact hK'
                        apply Flow.move rfl
                        go_wp2_with fail
                        refine Hcl.out.mono ?_
                        rintro e w7 ⟨R, d7, rfl, hown7, HB1⟩
                        obtain ⟨g7, cap7, e7, hgB7, -⟩ := own_some hown7 hym
                        injection e7 with e1 _ e3
                        subst e1
                        subst e3
                        have hb57 : Bl w5 w7 := Bl.ofDrew HB1
                        have hbw7 : Bl wd w7 := (hbr.trans hb5).trans hb57
                        have k7 := (HBO.out.bl (hb5.trans hb57)).all5
                        have HO7 := Lib.hid hown7
                        have hsz7 : o + 1 ≤ w7.heap.size := by have := hb57.le; have := hb5.le; omega
                        have hsz5 : o + 1 ≤ w5.heap.size := by have := hb5.le; omega
                        clear hown7
                        go_wp2_with fail
                        refine ⟨fun _ => (by first | exact HB1 | exact Bl.refl _), ?_⟩
                        iterate 1
                          apply Flow.calm2 _ _ rfl rfl
                          · intro w' hb' K' hK'
                            obtain ⟨hc', hf'⟩ := hb'.rule
                            go_simp
                            try go_ints
                            exact hK'
                          · intro K' hK'
                            simp only [Act.put, List.setIfInBounds_toArray, List.set_cons_zero, List.set_cons_succ]
                            exact hK'
                        apply Flow.move rfl
                        go_wp2_with fail
                        refine ⟨fun _ => ?_, ?_⟩
                        · repeat' (first | exact Bl.refl _ | refine Bl.drewL ?_ | refine Bl.drew ?_ | refine Bl.alloc ?_ _)
                        apply Flow.move rfl
                        refine wpList_append_bl (w1 := wd) rfl (.tmp 139) (.tmp 146) 22 rfl 93 (.agg #[.string ⟨#[]⟩, .int .i64 0, .int .i64 0, .slice none 0 0]) 4 56 Tryd.underlying22 info_ltr rfl (by omega) (o + 1) v i (ltrCells cs) rfl (hbw7.alloc _) (by omega) (by simp; omega) ((own_bl HOwn.out (hb5.trans hb57)).alloc _) (some ⟨w7.heap.size, 0, none⟩) 1 1 [.string ⟨y.text.toArray⟩, .int .i64 y.W, .int .i64 y.H, .slice (some ⟨g7, 0, none⟩) y.m d7] rfl ((Blk.new w7 _ _).reads 1 4 rfl) (by simp [Value.oneCell']) (by unfold maxLen; omega) (by omega) ?_
                        intro v' w8 hown8 hb8 hg8
                        have hvr := (own_bl HOwn.out (hb5.trans hb57)).alloc (.cells #[.string ⟨y.text.toArray⟩, .int .i64 y.W, .int .i64 y.H, .slice (some ⟨g7, 0, none⟩) y.m d7] 93)
                        have hbo8 := ((HBO.out.bl (hb5.trans hb57)).alloc (.cells #[.string ⟨y.text.toArray⟩, .int .i64 y.W, .int .i64 y.H, .slice (some ⟨g7, 0, none⟩) y.m d7] 93)).grown hg8 (own_ne hvr (by omega))
                        have HCs8 := Lib.hid (fun z (hz : z ∈ cs) => ((HCs.out z hz).bl ((hb5.trans hb57).alloc _)).grown hg8 hvr)
                        have hnew : Owned w7 (o + 1) ⟨y.text, y.W, y.H, some ⟨g7, 0, none⟩, y.m, d7, y.bs⟩ := ⟨g7, rfl, own_mono HO7.out hsz5⟩
                        have HNew := Lib.hid ((hnew.bl ((Bl.refl _).alloc _)).grown hg8 hvr)
                        obtain ⟨g8, cap8, rfl, -, -⟩ := own_some hown8 (by omega)
                        have HO8 := Lib.hid hown8
                        have k8 := hbo8.all5
                        clear hnew hvr hown8
                        go_wp2_with fail
                        refine ⟨fun hcl => absurd hcl (by decide), ?_⟩
                        iterate 1
                          apply Flow.calm2 _ _ rfl rfl
                          · intro w' hb' K' hK'
                            obtain ⟨hc', hf'⟩ := hb'.rule
                            go_simp
                            try go_ints
                            exact hK'
                          · intro K' hK'
                            simp only [Act.put, List.setIfInBounds_toArray, List.set_cons_zero, List.set_cons_succ]
                            exact hK'
                        refine Flow.tail _ rfl ?_
                        go_wp2_with fail
                        refine ⟨⟨i + 1, _, cs ++ [⟨y.text, y.W, y.H, some ⟨g7, 0, none⟩, y.m, d7, y.bs⟩], hlt, by go_num, hb8.setCell ho2 _, hbo8.set_ 4 _, ?_, ?_, ?_⟩, by simp [RowKit.intOf] <;> omega⟩
                        · rw [ltrCells_append]
                          exact ownsRow_setCell_below HO8.out (by show o < o + 1; omega) _
                        · rw [List.map_append, HFc.out, List.take_add_one, HG.out, List.map_append]
                          rfl
                        · intro z hz
                          rcases List.mem_append.1 hz with h | h
                          · exact (HCs8.out z h).below (by show o < o + 1; omega) _
                          · rw [List.mem_singleton.1 h]
                            exact HNew.out.below (by show o < o + 1; omega) _
                      · obtain rfl : i = ls.length := by omega
                        have hfc := HFc.out
                        rw [List.take_length] at hfc
                        have hcl : cs.length = ls.length := by have := congrArg List.length hfc; simpa using this
                        have hkeys := keys_of_faces hfc
                        have hat := at_letter_any ⟨nm.toArray⟩ (H0 : Int) gap sp L c ls t wr (HL.out.bl (hbd.trans hbr)) (by omega)
                        have Hat := Lib.hid hat; have HF2 := Lib.hid hfc; have HK2 := Lib.hid hkeys; have HCl := Lib.hid hcl
                        clear hfc hkeys hat hcl HFc
                        go_wp2_with fail
                        refine Hat.out.mono ?_
                        rintro e wA ⟨ix, rfl, hFI, hbA⟩
                        have hbw := hbr.trans hbA
                        have hboA := hbo.bl hbA
                        have k19 := hboA.all5
                        have hqA := HbQ.out.bl hbw
                        have k12 := hqA.all3
                        have hob := hboA.lt
                        have HOA := Lib.hid (own_bl HOwn.out hbA)
                        have HCsA := Lib.hid (fun z (hz : z ∈ cs) => (HCs.out z hz).bl hbA)
                        have HlA2 := Lib.hid (HlA.out.bl hbw)
                        have HFI := Lib.hid hFI
                        clear hFI Hat k1 HOwn HCs hbr hbo hqA
                        go_upto_if 154 with fail
                        go_cut [22] from 24 to 175 (fun _ wc => ∃ (v : Value) (ls2 : List Ltr), Blk wc o 24 #[.string ⟨nm.toArray⟩, .int .i64 H0, .int .i64 gap, .int .i64 sp, v] ∧ wc.ownsRow (o + 1) 93 4 v ls2.length (ltrCells ls2) ∧ ls2.length ≤ 1000 ∧ 0 < ls2.length ∧ Placed ls t l.key (ls2.map Ltr.key) ∧
                          (∀ y ∈ ls2, (Reads wc 1 y.A y.m (y.bs.map .bool) ∧ y.text.length ≤ 9223372036854775807) ∧ ∀ a, y.A = some a → w1.heap.size ≤ a.block) ∧ Bl wd wc)
                        case first =>
                          have htxc : ∀ y ∈ cs, y.text.length ≤ 9223372036854775807 := fun y hy => by
                            obtain ⟨j, hj⟩ := List.getElem?_of_mem hy
                            obtain ⟨x, hx, hf⟩ := face_at HF2.out.symm hj
                            have e : x.text = y.text := congrArg Prod.fst hf
                            rw [← e]
                            exact (HL.out.2 x (List.mem_of_getElem? hx)).2
                          have HTxc := Lib.hid htxc
                          clear htxc
                          rcases HFI.out with ⟨rfl, hno⟩ | ⟨k, l0, rfl, hk, hpk, hbe⟩
                          · have HNo := Lib.hid hno
                            clear hno
                            go_wp2_with (at_builtin; refine wpList_append_bl (w1 := wd) rfl (.tmp 162) (.tmp 166) 22 rfl 93 (.agg #[.string ⟨#[]⟩, .int .i64 0, .int .i64 0, .slice none 0 0]) 4 56 Tryd.underlying22 info_ltr rfl (by omega) (o + 1) v ls.length (ltrCells cs) rfl (hbw.alloc _) ?hB ?hBr (HOA.out.alloc _) (some ⟨wA.heap.size, 0, none⟩) 1 1 [.string ⟨t.toArray⟩, .int .i64 l.W, .int .i64 l.H, .slice l.A l.m l.c] rfl ((Blk.new wA _ _).reads 1 4 rfl) ?h1 ?c1 ?c2 ?_)
                            case hB => omega
                            case hBr => first | omega | (simp; omega)
                            case h1 => simp [Value.oneCell']
                            case c1 => unfold maxLen; omega
                            case c2 => omega
                            intro v' w8 hown8 hb8 hg8
                            have hvr := HOA.out.alloc (.cells #[.string ⟨t.toArray⟩, .int .i64 l.W, .int .i64 l.H, .slice l.A l.m l.c] 93)
                            have hbo8 := (hboA.alloc (.cells #[.string ⟨t.toArray⟩, .int .i64 l.W, .int .i64 l.H, .slice l.A l.m l.c] 93)).grown hg8 (own_ne hvr (by omega))
                            have hl8 := (HlA2.out.bl ((Bl.refl _).alloc (.cells #[.string ⟨t.toArray⟩, .int .i64 l.W, .int .i64 l.H, .slice l.A l.m l.c] 93))).grown hg8 (fun a ha hm => own_ne hvr (by have := hlAlt a ha hm; omega))
                            obtain ⟨g8, cap8, rfl, -, -⟩ := own_some hown8 (by omega)
                            have HO8 := Lib.hid hown8; have HVr := Lib.hid hvr; have HL8 := Lib.hid hl8
                            clear k19 hown8 hvr hl8
                            have k19 := hbo8.all5
                            have hnews : [.string ⟨t.toArray⟩, .int .i64 l.W, .int .i64 l.H, .slice l.A l.m l.c] = ltrCells [l] := by rw [← Hlt.out]; rfl
                            have HNews := Lib.hid hnews
                            clear hnews
                            go_wp2_with fail
                            go_meet
                            case rel =>
                              refine ⟨_, cs ++ [l], hbo8.set_ 4 _, ?_, by rw [List.length_append, HCl.out]; simp; omega, by simp, ⟨-1, .inl ⟨rfl, HNo.out⟩, ?_⟩, ?_, hb8.setCell ho2 _⟩
                              · rw [ltrCells_append, List.length_append, HCl.out, ← HNews.out]
                                exact ownsRow_setCell_below HO8.out (by show o < o + 1; omega) _
                              · rw [List.map_append, HK2.out]
                                rfl
                              · intro y hy
                                rcases List.mem_append.1 hy with h | h
                                · have hy2 := ((((HCsA.out y h).bl ((Bl.refl _).alloc _)).grown hg8 HVr.out).below (p := ⟨o, 4, none⟩) (by show o < o + 1; omega) (.slice (some ⟨g8, 0, none⟩) (ls.length + 1) cap8)).reads
                                  exact ⟨⟨hy2.1, HTxc.out y h⟩, fun a ha => by have := hy2.2 a ha; omega⟩
                                · rw [List.mem_singleton.1 h]
                                  exact ⟨⟨HL8.out.far (fun a ha hm => by have := hlAlt a ha hm; show a.block ≠ o; omega) _, by rw [Hlt.out]; exact ht'⟩, HlB.out⟩
                          · obtain ⟨z0, hz0, hzf⟩ := face_at HF2.out hk
                            have hzt : l.text = z0.text := by
                              have e : z0.text = l0.text := congrArg Prod.fst hzf
                              rw [e, of_decide_eq_true hpk, Hlt.out]
                            have hkl : k < ls.length := (List.getElem?_eq_some_iff.1 hk).1
                            have hoa := HOA.out
                            rw [← HCl.out] at hoa
                            obtain ⟨gv, cap, rfl, hgv, -⟩ := own_some hoa (by rw [HCl.out]; omega)
                            obtain ⟨hcc, hff⟩ := own_blk hoa
                            obtain ⟨v1, hc1⟩ := hcc (k * 4 + 1) (by rw [HCl.out]; omega)
                            obtain ⟨v2, hc2⟩ := hcc (k * 4 + 2) (by rw [HCl.out]; omega)
                            obtain ⟨v3, hc3⟩ := hcc (k * 4 + 3) (by rw [HCl.out]; omega)
                            have HB3 := Lib.hid (own_bits l hoa hz0 hzt)
                            have HOa2 := Lib.hid hoa
                            have HKk := Lib.hid hk; have HPk := Lib.hid hpk; have HBe := Lib.hid hbe
                            have nz : o ≠ gv := by omega
                            have hgd : wd.heap.size ≤ gv := by omega
                            have hn1000 : ls.length ≤ 1000 := by omega
                            have hcl2 := HCl.out
                            rw [hcl2] at k19 hboA
                            clear hk hpk hbe hcc hoa hzt hz0 hzf
                            go_wp2_with fail
                            go_meet
                            case rel =>
                              have hbz : Bl wd (((wA.setCell ⟨gv, k * 4 + 1, none⟩ (.int .i64 l.W)).setCell ⟨gv, k * 4 + 2, none⟩ (.int .i64 l.H)).setCell ⟨gv, k * 4 + 3, none⟩ (.slice l.A l.m l.c)) := ((hbw.setCell hgd _).setCell hgd _).setCell hgd _
                              refine ⟨.slice (some ⟨gv, 0, none⟩) cs.length cap, cs.set k l, ?_, ?_, ?_, ?_, ⟨(k : Int), .inr ⟨k, l0, rfl, HKk.out, HPk.out, HBe.out⟩, ?_⟩, ?_, hbz⟩
                              · rw [hcl2]
                                exact ((hboA.far (p := ⟨gv, k * 4 + 1, none⟩) nz _).far (p := ⟨gv, k * 4 + 2, none⟩) nz _).far (p := ⟨gv, k * 4 + 3, none⟩) nz _
                              · rw [List.length_set]
                                have h := HB3.out
                                rw [hcl2] at h ⊢
                                exact h
                              · rw [List.length_set, hcl2]; exact hn1000
                              · rw [List.length_set, hcl2]; exact hls0
                              · rw [if_pos (Int.natCast_nonneg k), ← HK2.out]
                                simp [List.map_set]
                              · intro y hy
                                rcases List.mem_or_eq_of_mem_set hy with h | h
                                · have hy2 := ((((HCsA.out y h).row HOa2.out (k * 4 + 1) (.int .i64 l.W)).row (ownsRow_set HOa2.out _ _) (k * 4 + 2) (.int .i64 l.H)).row (ownsRow_set (ownsRow_set HOa2.out _ _) _ _) (k * 4 + 3) (.slice l.A l.m l.c)).reads
                                  exact ⟨⟨hy2.1, HTxc.out y h⟩, fun a ha => Nat.le_trans ho1 (Nat.le_of_succ_le (hy2.2 a ha))⟩
                                · rw [h]
                                  have hx : ∀ a, l.A = some a → 0 < l.m → a.block ≠ gv := fun a ha hm => by have := hlAlt a ha hm; show a.block ≠ gv; omega
                                  exact ⟨⟨((HlA2.out.far hx _).far hx _).far hx _, by rw [Hlt.out]; exact ht'⟩, HlB.out⟩
                        case rest =>
                          clear k19 k12 hboA HOA HCsA HlA2 HFI hob HF2 HK2 HCl hbw hbA
                          obtain ⟨v, ls2, hbo, hO, hl1, hl0, hpl, hmem, hbE⟩ := hcut
                          rename World => wE
                          obtain ⟨g2, cap2, rfl, hg2, hcap2⟩ := own_some hO hl0
                          have hLE : LtrsAt wE (some ⟨g2, 0, none⟩) ls2 := by
                            obtain ⟨R2, c2, e2, h2⟩ := LtrsAt.of_own hO (fun y hy => (hmem y hy).1)
                            injection e2 with e2
                            subst e2
                            exact h2
                          obtain ⟨E2, hE2⟩ : ∃ x, x = fontErr (nameB nm) H0 gap sp ls2 := ⟨_, rfl⟩
                          have hck := check_any nm H0 gap sp (some ⟨g2, 0, none⟩) cap2 ls2 wE hLE hnm (by omega)
                          rw [← hE2] at hck
                          have Hck2 := Lib.hid hck; have HE2 := Lib.hid hE2; have HPl := Lib.hid hpl; have HLE := Lib.hid hLE; have HMem := Lib.hid hmem
                          have k19 := hbo.all5
                          clear hck hE2 hpl hLE hmem hO
                          go_wp2_with fail
                          refine Hck2.out.mono ?_
                          rintro e wG ⟨rfl, hbG⟩
                          have kz := (w12.bl ((hbd.trans hbE).trans hbG)).all5
                          clear k19
                          have k19 := (hbo.bl hbG).all5
                          have hbw := w1b.trans ((hbd.trans hbE).trans hbG)
                          have HLG := Lib.hid (HLE.out.bl hbG)
                          have hgx : g2 ≠ w.heap.size + 1 := by omega
                          have HLw := Lib.hid lw1
                          clear hgw hgq hq1 hpos h11 hW0 hH0 hWH hls hls0 ho1 ho2 hqlt hg2 hcap2 hl1 hl0 hlAlt hbE hbd hbo hp1 q0 c1 lw1
                          by_cases hz : E2 = 0
                          case neg =>
                            have hq : (E2 == 0) = false := by simp [hz]
                            have HNZ := Lib.hid hz
                            clear hz
                            go_upto_region 49 with fail
                            go_cut [7] from 8 to 175 (fun s7 wc => s7 = .int .i64 E2 ∧ wc = (((((wG.setCell ⟨w.heap.size + 1, 0, none⟩ (.string ⟨#[]⟩)).setCell ⟨w.heap.size + 1, 1, none⟩ (.int .i64 0)).setCell ⟨w.heap.size + 1, 2, none⟩ (.int .i64 0)).setCell ⟨w.heap.size + 1, 3, none⟩ (.int .i64 0)).setCell ⟨w.heap.size + 1, 4, none⟩ (.slice none 0 0)))
                            case first =>
                              go_wp2_with fail
                              go_meet
                              case rel => exact ⟨rfl, rfl⟩
                            obtain ⟨rfl, rfl⟩ := hcut
                            go_step
                            go_step
                            try simp only [Exit.then]
                            refine bodyPost_ret (v := .tuple #[.agg #[.string ⟨#[]⟩, .int .i64 0, .int .i64 0, .int .i64 0, .slice none 0 0], .int .i64 E2]) (by simp [results, Tryd.results20, go_sem, kz]) rfl ⟨[], 0, 0, 0, none, 0, 0, E2, rfl, ?_, ?_⟩
                            · exact ⟨fun h => absurd HLn.out h, fun _ => ⟨ls2, l.key, by rw [Hwd.out]; simpa using HNK.out, HPl.out, HE2.out, fun h => absurd h HNZ.out, fun _ => ⟨rfl, rfl, rfl, rfl, rfl, rfl⟩⟩⟩
                            · exact ((((hbw.setCell (by simp) _).setCell (by simp) _).setCell (by simp) _).setCell (by simp) _).setCell (by simp) _
                          case pos =>
                            subst hz
                            go_upto_region 50 with fail
                            go_cut [7] from 8 to 175 (fun s7 wc => s7 = .int .i64 0 ∧ wc = (((((wG.setCell ⟨w.heap.size + 1, 0, none⟩ (.string ⟨nm.toArray⟩)).setCell ⟨w.heap.size + 1, 1, none⟩ (.int .i64 H0)).setCell ⟨w.heap.size + 1, 2, none⟩ (.int .i64 gap)).setCell ⟨w.heap.size + 1, 3, none⟩ (.int .i64 sp)).setCell ⟨w.heap.size + 1, 4, none⟩ (.slice (some ⟨g2, 0, none⟩) ls2.length cap2)))
                            case first =>
                              go_wp2_with fail
                              go_meet
                              case rel => exact ⟨rfl, rfl⟩
                            obtain ⟨rfl, rfl⟩ := hcut
                            go_step
                            go_step
                            try simp only [Exit.then]
                            refine bodyPost_ret (v := .tuple #[.agg #[.string ⟨nm.toArray⟩, .int .i64 H0, .int .i64 gap, .int .i64 sp, .slice (some ⟨g2, 0, none⟩) ls2.length cap2], .int .i64 0]) (by simp [results, Tryd.results20, go_sem, kz]) rfl ⟨nm, H0, gap, sp, some ⟨g2, 0, none⟩, ls2.length, cap2, 0, rfl, ?_, ?_⟩
                            · refine ⟨fun h => absurd HLn.out h, fun _ => ⟨ls2, l.key, by rw [Hwd.out]; simpa using HNK.out, HPl.out, HE2.out, fun _ => ⟨⟨rfl, rfl, rfl, rfl, rfl⟩, ?_⟩, fun h => absurd rfl h⟩⟩
                              have hg : ∀ a, some (⟨g2, 0, none⟩ : Addr) = some a → 0 < ls2.length → a.block ≠ w.heap.size + 1 := fun a ha _ => by injection ha with ha; subst ha; exact hgx
                              refine ⟨(((((HLG.out.1).far hg _).far hg _).far hg _).far hg _).far hg _, fun y hy => ?_⟩
                              have hx : ∀ a, y.A = some a → 0 < y.m → a.block ≠ w.heap.size + 1 := fun a ha _ => by have := (HMem.out y hy).2 a ha; have := HLw.out; omega
                              exact ⟨(((((((HMem.out y hy).1.1.bl hbG).far hx _).far hx _).far hx _).far hx _).far hx _), (HMem.out y hy).1.2⟩
                            · exact ((((hbw.setCell (by simp) _).setCell (by simp) _).setCell (by simp) _).setCell (by simp) _).setCell (by simp) _

end Go.Proofs.YtjelhdpcaileiaaDoor


/-! The reference's vote. -/
namespace Go.Proofs.YtjelhdpcaileiaaDoor
open Go.RowKit

set_option maxRecDepth 100000 in
set_option maxHeartbeats 2000000 in
theorem learnOf1_any (b : Nat) (S : Option Addr) (c : Nat) (ps : List Pg) (W H x y : Nat) (w : World) (hb : Blk w b 29 #[.slice S ps.length c]) (hS : PgsAt w S ps) (hn : ps.length ≤ 1000) (hp : ∀ p ∈ ps, p.W = W ∧ p.H = H ∧ p.m = W * H) (hW : W ≤ 4000) (hH : H ≤ 4000) (hx : x < W) (hy : y < H) :
    Calls Tryd.prog 87 #[.int .i64 x, .int .i64 y, .pointer (some ⟨b, 0, none⟩)] w fun e w' => e = .returned (.bool (voteF ps W x y)) ∧ Bl w w' := by
  have k1 := hb.all1
  have HB := Lib.hid hb; have HS := Lib.hid hS; have HP := Lib.hid hp
  clear hb hS hp
  go_enter Tryd.func87, Tryd.ntmps87
  go_wp2_with fail
  go_loopw [6, 11] (fun n u wr => ∃ i : Nat, i ≤ ps.length ∧ n = .int .i64 (voteN (ps.take i) (y * W + x) : Nat) ∧ u = .int .i64 i ∧ Bl w wr) (fun _ u _ => ps.length - (RowKit.intOf u).toNat)
  case atStart => exact ⟨0, Nat.zero_le _, rfl, rfl, Bl.refl _⟩
  case round =>
    obtain ⟨i, hi, rfl, rfl, hbr⟩ := hrel
    have hvn : voteN (ps.take i) (y * W + x) ≤ 1000 := by have := voteN_le (ps.take i) (y * W + x); have := List.length_take_le i ps; omega
    by_cases hlt : i < ps.length
    · have hg : ps[i]? = some ps[i] := List.getElem?_eq_getElem hlt
      obtain ⟨p, hpp⟩ : ∃ p, p = ps[i] := ⟨_, rfl⟩
      rw [← hpp] at hg
      obtain ⟨eW, eH, em⟩ := HP.out p (List.mem_of_getElem? hg)
      have hsu := voteN_succ hg (y * W + x)
      obtain ⟨ad, rfl, j1, j2, j3⟩ := (HS.out.bl hbr).at_ hg
      rw [eW] at j1
      rw [eH] at j2
      rw [em] at j3
      have hr := HS.out.2 p (List.mem_of_getElem? hg)
      rw [em] at hr
      have hat := fun wx (hx' : Bl w wx) => at_any W H p.A p.c p.bs (x : Int) (y : Int) wx (hr.bl hx') hW hH
      rw [atI_in p.bs W H x y hx hy] at hat
      have hpx : pix p.bs W x y = p.bs.getD (y * W + x) false := rfl
      rw [hpx] at hat
      obtain ⟨v, hv⟩ : ∃ v, v = voteN (ps.take i) (y * W + x) := ⟨_, rfl⟩
      rw [← hv] at hsu hvn ⊢
      have Hat := Lib.hid hat; have Hsu := Lib.hid hsu
      clear hat hsu hv hg hpp hr eW eH em hpx
      go_wp2_with fail
      refine (Hat.out _ (hbr.alloc _)).mono ?_
      rintro e w1 ⟨rfl, hb1⟩
      cases hbit : p.bs.getD (y * W + x) false
      · have HN := Lib.hid (show voteN (ps.take (i + 1)) (y * W + x) = v by rw [Hsu.out, hbit]; rfl)
        go_wp2_with fail
        exact ⟨⟨i + 1, hlt, by rw [HN.out], by go_num, (hbr.alloc _).trans hb1⟩, by simp [RowKit.intOf]; omega⟩
      · have HN := Lib.hid (show voteN (ps.take (i + 1)) (y * W + x) = v + 1 by rw [Hsu.out, hbit]; rfl)
        go_wp2_with fail
        exact ⟨⟨i + 1, hlt, by rw [HN.out]; go_num, by go_num, (hbr.alloc _).trans hb1⟩, by simp [RowKit.intOf]; omega⟩
    · obtain rfl : i = ps.length := by omega
      have k1 := (HB.out.bl hbr).all1
      rw [List.take_length] at hvn ⊢
      go_wp2_with fail
      go_ret
      exact ⟨rfl, hbr⟩

end Go.Proofs.YtjelhdpcaileiaaDoor
