/- The plain law of Learn: samples in memory, what is wrong with them, the vote. -/
import Derived.Test.YtjelhdpcaileiaaDoorU25
import Derived.Test.YtjelhdpcaileiaaDoorU23

namespace Go.Proofs.YtjelhdpcaileiaaDoor
open Go.RowKit

/-- All of a letter but where its pixels lie. -/
def Ltr.face (l : Ltr) : List UInt8 × Int × Int × Nat × List Bool := (l.text, l.W, l.H, l.m, l.bs)

set_option maxRecDepth 100000 in
set_option maxHeartbeats 1000000 in
theorem sameLtr_any (l1 l2 : Ltr) (w : World) (h : l1.face = l2.face) (h1 : Reads w 1 l1.A l1.m (l1.bs.map .bool)) (h2 : Reads w 1 l2.A l2.m (l2.bs.map .bool)) (hm : l1.m ≤ 1099511627776) :
    Calls Tryd.prog 95 #[l1.val, l2.val] w fun e w' => e = .returned (.bool true) ∧ Bl w w' := by
  obtain ⟨t, W, H, A, m, c, bs⟩ := l1
  obtain ⟨t', W', H', B, m', d, bs'⟩ := l2
  simp only [Ltr.face, Prod.mk.injEq] at h
  obtain ⟨rfl, rfl, rfl, rfl, rfl⟩ := h
  unfold Ltr.val
  have hs := fun wx (hb : Bl w wx) => sameBitsG_any W H A B m c d bs wx (h1.bl hb) (h2.bl hb) hm
  have Hs := Lib.hid hs
  clear hs h1 h2
  go_enter Tryd.func95, Tryd.ntmps95
  go_wp2_with fail
  refine (Hs.out _ (((Bl.refl _).alloc _).alloc _)).mono ?_
  rintro e w1 ⟨rfl, hb1⟩
  go_wp2_with fail
  go_ret
  exact ⟨rfl, (((Bl.refl _).alloc _).alloc _).trans hb1⟩

set_option maxRecDepth 100000 in
set_option maxHeartbeats 1000000 in
theorem sameLtrs_any (L1 L2 : Option Addr) (c1 c2 : Nat) (ls1 ls2 : List Ltr) (w : World) (h : ls1.map Ltr.face = ls2.map Ltr.face) (h1 : LtrsAt w L1 ls1) (h2 : LtrsAt w L2 ls2) (hn : ls1.length ≤ 1099511627776) (hm : ∀ l ∈ ls1, l.m ≤ 1099511627776) :
    Calls Tryd.prog 94 #[.slice L1 ls1.length c1, .slice L2 ls2.length c2, .func (.func 95) #[] #[]] w fun e w' => e = .returned (.bool true) ∧ Bl w w' := by
  have hlen : ls2.length = ls1.length := by have := congrArg List.length h; simpa using this.symm
  have hent : ∀ args w, (callFunc 95 args).run Tryd.prog w = .ok (.enter 95 args) w := enters Tryd.func95 (by kernel_rfl) rfl
  rw [hlen]
  have H1 := Lib.hid h1; have H2 := Lib.hid h2; have HF := Lib.hid h; have HM := Lib.hid hm; have HLen := Lib.hid hlen
  clear h1 h2 h hm hlen
  go_enter Tryd.func94, Tryd.ntmps94
  go_wp2_with fail
  go_loopw [17] (fun u wr => ∃ i : Nat, i ≤ ls1.length ∧ u = .int .i64 i ∧ Bl w wr) (fun u _ => ls1.length - (RowKit.intOf u).toNat)
  case atStart => exact ⟨0, Nat.zero_le _, rfl, Bl.refl _⟩
  case round =>
    obtain ⟨i, hi, rfl, hbr⟩ := hrel
    by_cases hlt : i < ls1.length
    · have hlt2 : i < ls2.length := by rw [HLen.out]; exact hlt
      have g1 : ls1[i]? = some ls1[i] := List.getElem?_eq_getElem hlt
      have g2 : ls2[i]? = some ls2[i] := List.getElem?_eq_getElem hlt2
      obtain ⟨a, ha⟩ : ∃ l, l = ls1[i] := ⟨_, rfl⟩
      obtain ⟨b, hb⟩ : ∃ l, l = ls2[i] := ⟨_, rfl⟩
      rw [← ha] at g1
      rw [← hb] at g2
      have hf : a.face = b.face := by
        have e1 : (ls1.map Ltr.face)[i]? = some a.face := by rw [List.getElem?_map, g1]; rfl
        have e2 : (ls2.map Ltr.face)[i]? = some b.face := by rw [List.getElem?_map, g2]; rfl
        rw [HF.out, e2] at e1
        exact (Option.some.inj e1).symm
      have hs := fun wx (hx : Bl w wx) => sameLtr_any a b wx hf ((H1.out.bl hx).2 a (List.mem_of_getElem? g1)).1 ((H2.out.bl hx).2 b (List.mem_of_getElem? g2)).1 (HM.out a (List.mem_of_getElem? g1))
      have Hs := Lib.hid hs
      obtain ⟨ad, rfl, j1, j2, j3, j4⟩ := (H1.out.bl hbr).at_ g1
      have hb1 : Bl wr (wr.alloc (.cells #[.string ⟨a.text.toArray⟩, .int .i64 a.W, .int .i64 a.H, .slice a.A a.m a.c] 93)) := (Bl.refl _).alloc _
      obtain ⟨ad2, rfl, i1, i2, i3, i4⟩ := (H2.out.bl (hbr.trans hb1)).at_ g2
      clear ha hb g1 g2 hf hs hlt2
      go_wp2_with fail
      refine (Hs.out _ ((hbr.trans hb1).alloc _)).mono ?_
      rintro e w1 ⟨rfl, hbw⟩
      go_wp2_with fail
      exact ⟨⟨i + 1, hlt, by go_num, ((hbr.trans hb1).alloc _).trans hbw⟩, by simp [RowKit.intOf]; omega⟩
    · obtain rfl : i = ls1.length := by omega
      go_wp2_with fail
      go_ret
      exact ⟨rfl, hbr⟩

set_option maxRecDepth 100000 in
set_option maxHeartbeats 1000000 in
theorem sameFont_any (nm : ByteArray) (ht gap sp : Int) (L1 L2 : Option Addr) (c1 c2 : Nat) (ls1 ls2 : List Ltr) (w : World) (h : ls1.map Ltr.face = ls2.map Ltr.face) (h1 : LtrsAt w L1 ls1) (h2 : LtrsAt w L2 ls2) (hn : ls1.length ≤ 1099511627776) (hm : ∀ l ∈ ls1, l.m ≤ 1099511627776) :
    Calls Tryd.prog 22 #[.agg #[.string nm, .int .i64 ht, .int .i64 gap, .int .i64 sp, .slice L1 ls1.length c1], .agg #[.string nm, .int .i64 ht, .int .i64 gap, .int .i64 sp, .slice L2 ls2.length c2]] w fun e w' => e = .returned (.bool true) ∧ Bl w w' := by
  have hs := fun wx (hx : Bl w wx) => sameLtrs_any L1 L2 c1 c2 ls1 ls2 wx h (h1.bl hx) (h2.bl hx) hn hm
  have Hs := Lib.hid hs
  clear hs h1 h2 h hm
  go_enter Tryd.func22, Tryd.ntmps22
  go_wp2_with fail
  refine (Hs.out _ (((Bl.refl _).alloc _).alloc _)).mono ?_
  rintro e w1 ⟨rfl, hb1⟩
  go_wp2_with fail
  go_ret
  exact ⟨rfl, (((Bl.refl _).alloc _).alloc _).trans hb1⟩

end Go.Proofs.YtjelhdpcaileiaaDoor


/-! Which letter has a text: glyph.at, and the reference's closures. -/
namespace Go.Proofs.YtjelhdpcaileiaaDoor
open Go.RowKit

set_option maxRecDepth 100000 in
set_option maxHeartbeats 1000000 in
theorem atIs_any (b : Nat) (t : List UInt8) (y : Ltr) (w : World) (hb : Blk w b 9 #[.string ⟨t.toArray⟩]) :
    Calls Tryd.prog 159 #[y.val, .pointer (some ⟨b, 0, none⟩)] w fun e w' => e = .returned (.bool (decide (y.text = t))) ∧ Bl w w' := by
  have k1 := hb.all1
  have hlt := hb.lt
  unfold Ltr.val
  by_cases he : y.text = t
  · rw [decide_eq_true he]
    go_enter Tryd.func159, Tryd.ntmps159
    go_wp2_with fail
    go_ret
    exact ⟨by simp [he], (Bl.refl _).alloc _⟩
  · rw [decide_eq_false he]
    go_enter Tryd.func159, Tryd.ntmps159
    go_wp2_with fail
    go_ret
    exact ⟨by simp [he], (Bl.refl _).alloc _⟩
theorem atIs_tests (b : Nat) (t : List UInt8) (ls : List Ltr) (w : World) (hb : Blk w b 9 #[.string ⟨t.toArray⟩]) : Tests Tryd.prog 159 #[.pointer (some ⟨b, 0, none⟩)] w ls (fun y => decide (y.text = t)) :=
  ⟨enters Tryd.func159 (by kernel_rfl) rfl, fun wy y hy _ => atIs_any b t y wy (hb.bl hy)⟩
set_option maxRecDepth 100000 in
set_option maxHeartbeats 1000000 in
theorem learnIs_any (b : Nat) (t : List UInt8) (y : Ltr) (w : World) (hb : Blk w b 9 #[.string ⟨t.toArray⟩]) :
    Calls Tryd.prog 93 #[y.val, .pointer (some ⟨b, 0, none⟩)] w fun e w' => e = .returned (.bool (decide (y.text = t))) ∧ Bl w w' := by
  have k1 := hb.all1
  have hlt := hb.lt
  unfold Ltr.val
  by_cases he : y.text = t
  · rw [decide_eq_true he]
    go_enter Tryd.func93, Tryd.ntmps93
    go_wp2_with fail
    go_ret
    exact ⟨by simp [he], (Bl.refl _).alloc _⟩
  · rw [decide_eq_false he]
    go_enter Tryd.func93, Tryd.ntmps93
    go_wp2_with fail
    go_ret
    exact ⟨by simp [he], (Bl.refl _).alloc _⟩
theorem learnIs_tests (b : Nat) (t : List UInt8) (ls : List Ltr) (w : World) (hb : Blk w b 9 #[.string ⟨t.toArray⟩]) : Tests Tryd.prog 93 #[.pointer (some ⟨b, 0, none⟩)] w ls (fun y => decide (y.text = t)) :=
  ⟨enters Tryd.func93 (by kernel_rfl) rfl, fun wy y hy _ => learnIs_any b t y wy (hb.bl hy)⟩

set_option maxRecDepth 100000 in
set_option maxHeartbeats 1000000 in
theorem at_letter_any (nm : ByteArray) (ht gap sp : Int) (L : Option Addr) (c : Nat) (ls : List Ltr) (t : List UInt8) (w : World) (hL : LtrsAt w L ls) (hn : ls.length ≤ 9223372036854775807) :
    Calls Tryd.prog 85 #[.agg #[.string nm, .int .i64 ht, .int .i64 gap, .int .i64 sp, .slice L ls.length c], .string ⟨t.toArray⟩] w fun e w' => ∃ i : Int, e = .returned (.int .i64 i) ∧ FirstIs ls (fun y => decide (y.text = t)) i ∧ Bl w w' := by
  let w2 := ((w).alloc (.cells #[.string nm, .int .i64 ht, .int .i64 gap, .int .i64 sp, .slice L ls.length c] 24)).alloc (.cells #[.string ⟨t.toArray⟩] 9)
  have w2b : Bl w w2 := ((Bl.refl w).alloc _).alloc _
  have w21 : Blk w2 (w.heap.size) 24 #[.string nm, .int .i64 ht, .int .i64 gap, .int .i64 sp, .slice L ls.length c] := by
    have h0 := Blk.new (w) 24 #[.string nm, .int .i64 ht, .int .i64 gap, .int .i64 sp, .slice L ls.length c]
    exact (h0.alloc _)
  have w22 : Blk w2 (w.heap.size + 1) 9 #[.string ⟨t.toArray⟩] := by
    have h0 := Blk.new ((w).alloc (.cells #[.string nm, .int .i64 ht, .int .i64 gap, .int .i64 sp, .slice L ls.length c] 24)) 9 #[.string ⟨t.toArray⟩]
    simp only [World.size_alloc] at h0
    exact h0
  have hc := ltrIndex_any L c ls _ _ _ w2 (hL.bl w2b) (atIs_tests _ t ls w2 w22) hn
  have Hc := Lib.hid hc
  have k1 := w21.all5
  clear hc hL
  go_enter Tryd.func85, Tryd.ntmps85
  go_wp2_with fail
  refine Hc.out.mono ?_
  rintro e w1 ⟨i, rfl, hi, hb⟩
  have Hi := Lib.hid hi
  clear hi
  go_wp2_with fail
  go_ret
  exact ⟨i, rfl, Hi.out, w2b.trans hb⟩

theorem FirstIs.unique {ls ls' : List Ltr} {t : List UInt8} {i i' : Int} (hf : ls.map Ltr.face = ls'.map Ltr.face) (h : FirstIs ls (fun y => decide (y.text = t)) i) (h' : FirstIs ls' (fun y => decide (y.text = t)) i') : i = i' := by
  have htx : ls.map Ltr.text = ls'.map Ltr.text := by
    have := congrArg (List.map (fun (f : List UInt8 × Int × Int × Nat × List Bool) => f.1)) hf
    rw [List.map_map, List.map_map] at this
    exact this
  have key : ∀ {xs ys : List Ltr} {j : Nat} {a : Ltr}, xs.map Ltr.text = ys.map Ltr.text → xs[j]? = some a → ∃ b, ys[j]? = some b ∧ b.text = a.text := fun {xs ys j a} he ha => by
    have e1 : (xs.map Ltr.text)[j]? = some a.text := by rw [List.getElem?_map, ha]; rfl
    rw [he, List.getElem?_map] at e1
    rcases hb : ys[j]? with _ | b
    · rw [hb] at e1; cases e1
    · rw [hb] at e1; exact ⟨b, rfl, Option.some.inj e1⟩
  rcases h with ⟨rfl, hn⟩ | ⟨j, l, rfl, hl, hp, hno⟩
  · rcases h' with ⟨rfl, _⟩ | ⟨j', l', rfl, hl', hp', _⟩
    · rfl
    · obtain ⟨b, hb, e⟩ := key htx.symm hl'
      have : decide (b.text = t) = false := hn b (List.mem_of_getElem? hb)
      rw [decide_eq_true (e.trans (of_decide_eq_true hp'))] at this
      cases this
  · rcases h' with ⟨rfl, hn'⟩ | ⟨j', l', rfl, hl', hp', hno'⟩
    · obtain ⟨b, hb, e⟩ := key htx hl
      have : decide (b.text = t) = false := hn' b (List.mem_of_getElem? hb)
      rw [decide_eq_true (e.trans (of_decide_eq_true hp))] at this
      cases this
    · rcases Nat.lt_trichotomy j j' with h | rfl | h
      · obtain ⟨b, hb, e⟩ := key htx hl
        have : decide (b.text = t) = false := hno' j b h hb
        rw [decide_eq_true (e.trans (of_decide_eq_true hp))] at this
        cases this
      · rfl
      · obtain ⟨b, hb, e⟩ := key htx.symm hl'
        have : decide (b.text = t) = false := hno j' b h hb
        rw [decide_eq_true (e.trans (of_decide_eq_true hp'))] at this
        cases this

end Go.Proofs.YtjelhdpcaileiaaDoor


/-! The plain law of Learn: samples in memory, what is wrong with them, the vote. -/
namespace Go.Proofs.YtjelhdpcaileiaaDoor
open Go.RowKit

/-- A page: its size, where its pixels lie, and what they are. -/
structure Pg where
  W : Int
  H : Int
  A : Option Addr
  m : Nat
  c : Nat
  bs : List Bool
def Pg.cells (p : Pg) : List Value := [.int .i64 p.W, .int .i64 p.H, .slice p.A p.m p.c]
def Pg.val (p : Pg) : Value := .agg #[.int .i64 p.W, .int .i64 p.H, .slice p.A p.m p.c]
def pgCells (ps : List Pg) : List Value := ps.flatMap Pg.cells
theorem pgCells_len (ps : List Pg) : (pgCells ps).length = ps.length * 3 := by
  unfold pgCells
  induction ps with
  | nil => rfl
  | cons p ps ih =>
    rw [List.flatMap_cons, List.length_append, ih, List.length_cons]
    show 3 + ps.length * 3 = (ps.length + 1) * 3
    omega
theorem pgCells_at {ps : List Pg} {i : Nat} {p : Pg} (h : ps[i]? = some p) (j : Nat) (hj : j < 3) : (pgCells ps)[i * 3 + j]? = p.cells[j]? := by
  induction ps generalizing i with
  | nil => simp at h
  | cons x ps ih =>
    unfold pgCells
    rw [List.flatMap_cons]
    rcases i with _ | i
    · simp only [List.getElem?_cons_zero, Option.some.injEq] at h
      subst h
      rw [List.getElem?_append_left (by show 0 * 3 + j < 3; omega)]
      simp
    · rw [List.getElem?_append_right (by show 3 ≤ (i + 1) * 3 + j; omega)]
      have e : (i + 1) * 3 + j - x.cells.length = i * 3 + j := by
        show (i + 1) * 3 + j - 3 = i * 3 + j
        omega
      rw [e]
      exact ih (by simpa using h)
/-- The pages lie there. -/
def PgsAt (w : World) (S : Option Addr) (ps : List Pg) : Prop := Reads w 3 S ps.length (pgCells ps) ∧ ∀ p ∈ ps, Reads w 1 p.A p.m (p.bs.map .bool)
theorem PgsAt.bl {w w' : World} {S : Option Addr} {ps : List Pg} (h : PgsAt w S ps) (hb : Bl w w') : PgsAt w' S ps := ⟨h.1.bl hb, fun p hp => (h.2 p hp).bl hb⟩
theorem PgsAt.at_ {w : World} {S : Option Addr} {ps : List Pg} {i : Nat} {p : Pg} (h : PgsAt w S ps) (hi : ps[i]? = some p) : ∃ ad, S = some ad ∧ w.cell? (ad.add (i * 3)) = some (.int .i64 p.W) ∧ w.cell? ⟨(ad.add (i * 3)).block, (ad.add (i * 3)).off + 1, none⟩ = some (.int .i64 p.H) ∧
    w.cell? ⟨(ad.add (i * 3)).block, (ad.add (i * 3)).off + 2, none⟩ = some (.slice p.A p.m p.c) := by
  have hlt : i < ps.length := (List.getElem?_eq_some_iff.1 hi).1
  obtain ⟨ad, e, hc⟩ := h.1.2 (by omega)
  have key : ∀ j v, j < 3 → p.cells[j]? = some v → w.cell? ((ad.add (i * 3)).add j) = some v := fun j v hj hv => by
    rw [add_of_add]
    exact hc _ _ (by rw [pgCells_at hi j hj]; exact hv)
  have k0 := key 0 _ (by omega) rfl
  have k1 := key 1 _ (by omega) rfl
  have k2 := key 2 _ (by omega) rfl
  rw [Addr.add_zero'] at k0
  rw [Addr.add_succ'] at k1 k2
  exact ⟨ad, e, k0, k1, k2⟩

/-! ### what is wrong with the samples -/
def smpErr (ht W0 : Int) (p : Pg) : Int := if pageErr p.W p.H p.m = 0 then whenI (p.H != ht || p.W != W0) 11 else pageErr p.W p.H p.m
def smpsErr (ht W0 : Int) : List Pg → Int
  | [] => 0
  | p :: ps => if smpErr ht W0 p = 0 then smpsErr ht W0 ps else smpErr ht W0 p
theorem smpsErr_from {ht W0 : Int} {ps : List Pg} {i : Nat} {p : Pg} (h : ps[i]? = some p) : smpsErr ht W0 (ps.drop i) = if smpErr ht W0 p = 0 then smpsErr ht W0 (ps.drop (i + 1)) else smpErr ht W0 p := by
  have hlt : i < ps.length := (List.getElem?_eq_some_iff.1 h).1
  have e : ps.drop i = p :: ps.drop (i + 1) := by
    rw [List.drop_eq_getElem_cons hlt]
    congr 1
    exact (List.getElem?_eq_some_iff.1 h).2
  rw [e]
  rfl
theorem smpErr_zero {ht W0 : Int} {p : Pg} (h : smpErr ht W0 p = 0) : pageErr p.W p.H p.m = 0 ∧ p.H = ht ∧ p.W = W0 := by
  unfold smpErr at h
  split at h
  · rename_i h0
    refine ⟨h0, ?_⟩
    unfold whenI at h
    by_cases h1 : p.H = ht <;> by_cases h2 : p.W = W0 <;> simp [h1, h2] at h ⊢
  · rename_i h0; exact absurd h h0
theorem smpsErr_zero {ht W0 : Int} {ps : List Pg} (h : smpsErr ht W0 ps = 0) : ∀ p ∈ ps, smpErr ht W0 p = 0 := by
  induction ps with
  | nil => intro p hp; cases hp
  | cons x ps ih =>
    have h' : (if smpErr ht W0 x = 0 then smpsErr ht W0 ps else smpErr ht W0 x) = 0 := h
    split at h'
    · rename_i h0
      intro p hp
      rcases List.mem_cons.1 hp with rfl | hp
      · exact h0
      · exact ih h' p hp
    · rename_i h0; exact absurd h' h0

/-! ### the vote -/
def voteN (ps : List Pg) (k : Nat) : Nat := ps.countP (fun p => p.bs.getD k false)
def voteB (ps : List Pg) (k : Nat) : Bool := decide ((ps.length : Int) < 2 * (voteN ps k : Int))
def voteF (ps : List Pg) (W x y : Nat) : Bool := voteB ps (y * W + x)
theorem voteN_succ {ps : List Pg} {i : Nat} {p : Pg} (h : ps[i]? = some p) (k : Nat) : voteN (ps.take (i + 1)) k = voteN (ps.take i) k + if p.bs.getD k false = true then 1 else 0 := by
  unfold voteN
  rw [List.take_add_one, h, List.countP_append]
  simp [List.countP_cons]
theorem voteN_le (ps : List Pg) (k : Nat) : voteN ps k ≤ ps.length := List.countP_le_length

/-- What Learn says ahead of the vote. -/
def learnErr (fe : Int) (t : List UInt8) (n : Nat) (se : Int) : Int := firstNZ [fe, whenI (!textB t) 2, whenI (decide (n = 0)) 9, whenI (decide (100 < n)) 4, se]

end Go.Proofs.YtjelhdpcaileiaaDoor
