/- glyph.put: the ink of a page laid upon another page, in place. -/
import Derived.Test.YtjelhdpcaileiaaDoorU30
import Derived.Test.YtjelhdpcaileiaaDoorU1
import Derived.Test.YtjelhdpcaileiaaDoorU0

namespace Go.Proofs.YtjelhdpcaileiaaDoor
open Go.RowKit

def bsOf (ls : List Ltr) (k : Nat) : List Bool := (ls[k]?.map Ltr.bs).getD []
theorem bsOf_at {ls : List Ltr} {k : Nat} {l : Ltr} (h : ls[k]? = some l) : bsOf ls k = l.bs := by unfold bsOf; rw [h]; rfl
theorem wdOf_at {ls : List Ltr} {k : Nat} {l : Ltr} (h : ls[k]? = some l) : wdOf ls k = l.W.toNat := by unfold wdOf; rw [h]; rfl
/-- The ink of a letter that stands at a column. -/
def litAt (ls : List Ltr) (p : Nat × Nat) (x y : Nat) : Bool := decide (p.2 ≤ x) && (decide (x < p.2 + wdOf ls p.1) && pix (bsOf ls p.1) (wdOf ls p.1) (x - p.2) y)
def setF (ls : List Ltr) (pl : List (Nat × Nat)) (x y : Nat) : Bool := pl.any fun p => litAt ls p x y
theorem setF_append (ls : List Ltr) (a b : List (Nat × Nat)) (x y : Nat) : setF ls (a ++ b) x y = (setF ls a x y || setF ls b x y) := by unfold setF; rw [List.any_append]
theorem setF_one (ls : List Ltr) (p : Nat × Nat) (x y : Nat) : setF ls [p] x y = litAt ls p x y := by unfold setF; simp
theorem setF_out {ls : List Ltr} {pl : List (Nat × Nat)} {x y : Nat} (h : ∀ p ∈ pl, p.2 + wdOf ls p.1 ≤ x) : setF ls pl x y = false := by
  unfold setF
  rw [List.any_eq_false]
  intro p hp
  have := h p hp
  unfold litAt
  simp
  omega
theorem litAt_in {ls : List Ltr} {k at_ i y : Nat} (hi : i < wdOf ls k) : litAt ls (k, at_) (at_ + i) y = pix (bsOf ls k) (wdOf ls k) i y := by
  unfold litAt
  rw [decide_eq_true (show at_ ≤ at_ + i by omega), decide_eq_true (show at_ + i < at_ + wdOf ls k by omega), show at_ + i - at_ = i by omega]
  simp
/-- How far one comes. -/
theorem goOn_le {ls : List Ltr} {gap sp : Nat} (s : Spot) (x : Option Nat) : s.1 ≤ (goOn ls gap sp s x).1 := by
  cases x with
  | none => show s.1 ≤ s.1 + sp; omega
  | some k => show s.1 ≤ spotOf gap s + wdOf ls k; unfold spotOf; split <;> omega
theorem goAll_mono {ls : List Ltr} {gap sp : Nat} : ∀ (l : List (Option Nat)) (s : Spot), s.1 ≤ (goAll ls gap sp s l).1
  | [], _ => Nat.le_refl _
  | x :: l, s => Nat.le_trans (goOn_le s x) (goAll_mono l _)
theorem goAll_take {ls : List Ltr} {gap sp : Nat} (l : List (Option Nat)) (s : Spot) (i : Nat) : (goAll ls gap sp s (l.take i)).1 ≤ (goAll ls gap sp s l).1 := by
  have e : l = l.take i ++ l.drop i := (List.take_append_drop i l).symm
  conv => rhs; rw [e]
  rw [goAll_append]
  exact goAll_mono _ _
/-- What stands ends ahead of where one is. -/
theorem putAt_end {ls : List Ltr} {gap sp : Nat} : ∀ (l : List (Option Nat)) (s : Spot), ∀ p ∈ putAt ls gap sp s l, p.2 + wdOf ls p.1 ≤ (goAll ls gap sp s l).1
  | [], _, p, hp => by cases hp
  | none :: l, s, p, hp => putAt_end l _ p hp
  | some k :: l, s, p, hp => by
    rcases List.mem_cons.1 hp with rfl | hp
    · show spotOf gap s + wdOf ls k ≤ (goAll ls gap sp (goOn ls gap sp s (some k)) l).1
      exact goAll_mono l (goOn ls gap sp s (some k))
    · exact putAt_end l _ p hp
theorem putAt_succ_none {ls : List Ltr} {gap sp : Nat} {s : Spot} {l : List (Option Nat)} {i : Nat} (h : l[i]? = some none) : putAt ls gap sp s (l.take (i + 1)) = putAt ls gap sp s (l.take i) := by
  rw [List.take_add_one, h, putAt_append]
  simp [putAt]
theorem putAt_succ_some {ls : List Ltr} {gap sp : Nat} {s : Spot} {l : List (Option Nat)} {i k : Nat} (h : l[i]? = some (some k)) : putAt ls gap sp s (l.take (i + 1)) = putAt ls gap sp s (l.take i) ++ [(k, spotOf gap (goAll ls gap sp s (l.take i)))] := by
  rw [List.take_add_one, h, putAt_append]
  rfl
/-- While a letter is drawn, row by row. -/
def midF (ls : List Ltr) (pl : List (Nat × Nat)) (p : Nat × Nat) (W y i k : Nat) : Bool := setF ls pl (k % W) (k / W) || (litAt ls p (k % W) (k / W) && decide (k / W < y ∨ (k / W = y ∧ k % W < p.2 + i)))
theorem midF_start (ls : List Ltr) (pl : List (Nat × Nat)) (p : Nat × Nat) (W k : Nat) : midF ls pl p W 0 0 k = setF ls pl (k % W) (k / W) := by
  unfold midF litAt
  by_cases h : p.2 ≤ k % W
  · rw [decide_eq_false (show ¬ (k / W < 0 ∨ (k / W = 0 ∧ k % W < p.2 + 0)) from fun hn => hn.elim (fun h1 => absurd h1 (Nat.not_lt_zero _)) (fun h1 => by have := h1.2; omega))]
    simp
  · rw [decide_eq_false h]
    simp
theorem midF_row (ls : List Ltr) (pl : List (Nat × Nat)) (p : Nat × Nat) (W y k : Nat) : midF ls pl p W (y + 1) 0 k = midF ls pl p W y (wdOf ls p.1) k := by
  unfold midF litAt
  by_cases h1 : p.2 ≤ k % W
  · by_cases h2 : k % W < p.2 + wdOf ls p.1
    · rw [decide_eq_true h1, decide_eq_true h2]
      congr 2
      rw [decide_eq_decide]
      omega
    · rw [decide_eq_false h2]; simp
  · rw [decide_eq_false h1]; simp
theorem midF_end {ls : List Ltr} {pl : List (Nat × Nat)} {p : Nat × Nat} {W H k : Nat} (hk : k / W < H) : midF ls pl p W H 0 k = setF ls (pl ++ [p]) (k % W) (k / W) := by
  unfold midF
  rw [decide_eq_true (.inl hk), setF_append, setF_one]
  simp
theorem midF_step {ls : List Ltr} {pl : List (Nat × Nat)} {l at_ W y i : Nat} (hW : at_ + i < W) (hi : i < wdOf ls l) (hpl : ∀ p ∈ pl, p.2 + wdOf ls p.1 ≤ at_) (k : Nat) :
    midF ls pl (l, at_) W y (i + 1) k = if k = y * W + at_ + i then pix (bsOf ls l) (wdOf ls l) i y else midF ls pl (l, at_) W y i k := by
  by_cases e : k = y * W + at_ + i
  · rw [if_pos e]
    have e1 : k % W = at_ + i := by rw [e, Nat.add_assoc, Nat.mul_comm, Nat.mul_add_mod]; exact Nat.mod_eq_of_lt hW
    have e2 : k / W = y := by rw [e, Nat.add_assoc, Nat.mul_comm, Nat.mul_add_div (by omega), Nat.div_eq_of_lt hW]; rfl
    unfold midF
    rw [e1, e2, setF_out (fun p hp => by have := hpl p hp; omega), litAt_in hi, decide_eq_true (.inr ⟨rfl, by omega⟩)]
    simp
  · rw [if_neg e]
    unfold midF
    congr 2
    rw [decide_eq_decide]
    have hne : ¬ (k / W = y ∧ k % W = at_ + i) := fun ⟨a, b⟩ => e (by
      have := Nat.div_add_mod k W
      rw [a, b, Nat.mul_comm] at this
      omega)
    show (k / W < y ∨ (k / W = y ∧ k % W < at_ + (i + 1))) ↔ (k / W < y ∨ (k / W = y ∧ k % W < at_ + i))
    omega

end Go.Proofs.YtjelhdpcaileiaaDoor


/-! glyph.put: the ink of a page laid upon another page, in place. -/
namespace Go.Proofs.YtjelhdpcaileiaaDoor
open Go.RowKit

/-- In the window, and the place in it. -/
def winB (wk hk x0 y0 x y : Nat) : Bool := decide (x0 ≤ x ∧ x < x0 + wk ∧ y0 ≤ y ∧ y < y0 + hk)
def putTo (f : Nat → Bool) (bs : List Bool) (wk hk x0 y0 W i k : Nat) : Bool := f k || (winB wk hk x0 y0 (k % W) (k / W) && (decide ((k / W - y0) * wk + (k % W - x0) < i) && pix bs wk (k % W - x0) (k / W - y0)))
def putF (f : Nat → Bool) (bs : List Bool) (wk hk x0 y0 W k : Nat) : Bool := f k || (winB wk hk x0 y0 (k % W) (k / W) && pix bs wk (k % W - x0) (k / W - y0))
theorem putTo_zero (f : Nat → Bool) (bs : List Bool) (wk hk x0 y0 W k : Nat) : putTo f bs wk hk x0 y0 W 0 k = f k := by unfold putTo; simp
theorem putTo_end (f : Nat → Bool) (bs : List Bool) (wk hk x0 y0 W k : Nat) : putTo f bs wk hk x0 y0 W (wk * hk) k = putF f bs wk hk x0 y0 W k := by
  unfold putTo putF
  cases h : winB wk hk x0 y0 (k % W) (k / W) with
  | false => simp
  | true =>
    unfold winB at h
    have h' := of_decide_eq_true h
    have hlt : (k / W - y0) * wk + (k % W - x0) < wk * hk := by
      have h1 : (k / W - y0 + 1) * wk ≤ hk * wk := Nat.mul_le_mul_right wk (by omega)
      rw [Nat.add_mul, Nat.one_mul] at h1
      rw [Nat.mul_comm wk hk]
      omega
    rw [decide_eq_true hlt]
    simp
theorem putTo_no {f : Nat → Bool} {bs : List Bool} {wk hk x0 y0 W i : Nat} (h : bs.getD i false = false) (k : Nat) : putTo f bs wk hk x0 y0 W (i + 1) k = putTo f bs wk hk x0 y0 W i k := by
  unfold putTo
  by_cases e : (k / W - y0) * wk + (k % W - x0) = i
  · have hp : pix bs wk (k % W - x0) (k / W - y0) = false := by unfold pix; rw [e]; exact h
    rw [hp]
    simp
  · have hd : decide ((k / W - y0) * wk + (k % W - x0) < i + 1) = decide ((k / W - y0) * wk + (k % W - x0) < i) := by rw [decide_eq_decide]; omega
    rw [hd]
theorem putTo_yes {f : Nat → Bool} {bs : List Bool} {wk hk x0 y0 W i : Nat} (h : bs.getD i false = true) (hi : i < wk * hk) (hx : x0 + wk ≤ W) (k : Nat) :
    putTo f bs wk hk x0 y0 W (i + 1) k = if k = (y0 + i / wk) * W + x0 + i % wk then true else putTo f bs wk hk x0 y0 W i k := by
  have hwk : 0 < wk := by
    rcases Nat.eq_zero_or_pos wk with h0 | h0
    · rw [h0, Nat.zero_mul] at hi
      omega
    · exact h0
  have hm0 : i % wk < wk := Nat.mod_lt _ hwk
  have hd0 : i / wk < hk := Nat.div_lt_of_lt_mul hi
  have hdm0 := Nat.div_add_mod i wk
  obtain ⟨xi, hxi⟩ : ∃ n, n = i % wk := ⟨_, rfl⟩
  obtain ⟨yi, hyi⟩ : ∃ n, n = i / wk := ⟨_, rfl⟩
  rw [← hxi] at hm0 hdm0 ⊢
  rw [← hyi] at hd0 hdm0 ⊢
  clear hxi hyi
  have hxm : x0 + xi < W := Nat.lt_of_lt_of_le (Nat.add_lt_add_left hm0 x0) hx
  have hW0 : 0 < W := Nat.lt_of_le_of_lt (Nat.zero_le _) hxm
  by_cases e : k = (y0 + yi) * W + x0 + xi
  · rw [if_pos e]
    have e1 : k % W = x0 + xi := by rw [e, Nat.add_assoc, Nat.mul_comm, Nat.mul_add_mod]; exact Nat.mod_eq_of_lt hxm
    have e2 : k / W = y0 + yi := by rw [e, Nat.add_assoc, Nat.mul_comm, Nat.mul_add_div hW0, Nat.div_eq_of_lt hxm]; rfl
    clear e
    unfold putTo winB pix
    rw [e1, e2, Nat.add_sub_cancel_left, Nat.add_sub_cancel_left, show yi * wk + xi = i by rw [Nat.mul_comm]; exact hdm0, h, decide_eq_true (show x0 ≤ x0 + xi ∧ x0 + xi < x0 + wk ∧ y0 ≤ y0 + yi ∧ y0 + yi < y0 + hk from ⟨by omega, by omega, by omega, by omega⟩), decide_eq_true (show i < i + 1 from Nat.lt_succ_self i)]
    simp
  · rw [if_neg e]
    unfold putTo
    have hkk := Nat.div_add_mod k W
    obtain ⟨x, hx'⟩ : ∃ n, n = k % W := ⟨_, rfl⟩
    obtain ⟨y, hy'⟩ : ∃ n, n = k / W := ⟨_, rfl⟩
    rw [← hx', ← hy'] at hkk
    rw [← hx', ← hy']
    clear hx' hy'
    cases hw : winB wk hk x0 y0 x y with
    | false => simp
    | true =>
      unfold winB at hw
      have hw' := of_decide_eq_true hw
      by_cases e3 : (y - y0) * wk + (x - x0) = i
      · refine absurd ?_ e
        have hwx : x - x0 < wk := by omega
        have e4 : x - x0 = xi := by
          have h1 : ((y - y0) * wk + (x - x0)) % wk = x - x0 := by rw [Nat.mul_comm, Nat.mul_add_mod]; exact Nat.mod_eq_of_lt hwx
          have h2 : (wk * yi + xi) % wk = xi := by rw [Nat.mul_add_mod]; exact Nat.mod_eq_of_lt hm0
          rw [e3] at h1
          rw [hdm0] at h2
          exact h1.symm.trans h2
        have e5 : y - y0 = yi := by
          have h1 : ((y - y0) * wk + (x - x0)) / wk = y - y0 := by rw [Nat.mul_comm, Nat.mul_add_div hwk, Nat.div_eq_of_lt hwx]; rfl
          have h2 : (wk * yi + xi) / wk = yi := by rw [Nat.mul_add_div hwk, Nat.div_eq_of_lt hm0]; rfl
          rw [e3] at h1
          rw [hdm0] at h2
          exact h1.symm.trans h2
        have e6 : y = y0 + yi := by omega
        have e7 : x = x0 + xi := by omega
        rw [← hkk, e6, e7, Nat.mul_comm, Nat.add_assoc]
      · have hd : decide ((y - y0) * wk + (x - x0) < i + 1) = decide ((y - y0) * wk + (x - x0) < i) := by rw [decide_eq_decide]; omega
        rw [hd]
/-- Nothing but the row is turned. -/
def PutRes (w0 : World) (g : Nat) (cs : Array Value) (w : World) (e : Ending) (w' : World) : Prop := e = .returned (.tuple #[]) ∧ Blk w' g 4 cs ∧ Bl w0 w' ∧ w.heap.size ≤ w'.heap.size ∧ ∀ p T c, p ≠ g → Blk w p T c → Blk w' p T c

set_option maxRecDepth 100000 in
set_option maxHeartbeats 4000000 in
theorem put_any (W H wk hk x0 y0 g : Nat) (cap : Nat) (A : Option Addr) (ac : Nat) (bs : List Bool) (f : Nat → Bool) (w0 w : World) (hb0 : Bl w0 w) (hg0 : w0.heap.size ≤ g) (hg : Blk w g 4 (tabB (W * H) f)) (hA : Reads w0 1 A (wk * hk) (bs.map .bool))
    (hW : W ≤ 4000) (hH : H ≤ 4000) (hWH : W * H ≤ 1048576) (hx : x0 + wk ≤ W) (hy : y0 + hk ≤ H) (hwk : 1 ≤ wk) :
    Calls Tryd.prog 164 #[.agg #[.int .i64 W, .int .i64 H, .slice (some ⟨g, 0, none⟩) (W * H) cap], .agg #[.int .i64 wk, .int .i64 hk, .slice A (wk * hk) ac], .int .i64 x0, .int .i64 y0] w (PutRes w0 g (tabB (W * H) (putF f bs wk hk x0 y0 W)) w) := by
  let w2 := ((w).alloc (.cells #[.int .i64 W, .int .i64 H, .slice (some ⟨g, 0, none⟩) (W * H) cap] 27)).alloc (.cells #[.int .i64 wk, .int .i64 hk, .slice A (wk * hk) ac] 27)
  have w2b : Bl w w2 := ((Bl.refl w).alloc _).alloc _
  have w21 : Blk w2 (w.heap.size) 27 #[.int .i64 W, .int .i64 H, .slice (some ⟨g, 0, none⟩) (W * H) cap] := by
    have h0 := Blk.new (w) 27 #[.int .i64 W, .int .i64 H, .slice (some ⟨g, 0, none⟩) (W * H) cap]
    exact (h0.alloc _)
  have w22 : Blk w2 (w.heap.size + 1) 27 #[.int .i64 wk, .int .i64 hk, .slice A (wk * hk) ac] := by
    have h0 := Blk.new ((w).alloc (.cells #[.int .i64 W, .int .i64 H, .slice (some ⟨g, 0, none⟩) (W * H) cap] 27)) 27 #[.int .i64 wk, .int .i64 hk, .slice A (wk * hk) ac]
    simp only [World.size_alloc] at h0
    exact h0
  have lw2 : w2.heap.size = w.heap.size + 2 := by simp [w2]
  have hgl := hg.lt
  have hg2 : Blk w2 g 4 (tabB (W * H) (putTo f bs wk hk x0 y0 W 0)) := by
    have e : tabB (W * H) (putTo f bs wk hk x0 y0 W 0) = tabB (W * H) f := tabB_congr fun k _ => putTo_zero _ _ _ _ _ _ _ _
    rw [e]
    exact (hg.alloc _).alloc _
  have hb02 : Bl w0 w2 := hb0.trans w2b
  have hn : wk * hk ≤ 16000000 := Nat.mul_le_mul (show wk ≤ 4000 by omega) (show hk ≤ 4000 by omega)
  have HA := Lib.hid hA; have HG := Lib.hid hg2; have HB0 := Lib.hid hb0
  have hkeep : ∀ p T c, p ≠ g → Blk w p T c → Blk w2 p T c := fun p T c _ h => (h.alloc _).alloc _
  have HK := Lib.hid hkeep
  have k1 := w21.all3
  have k2 := w22.all3
  clear hA hg hg2 hb0 hkeep
  go_enter Tryd.func164, Tryd.ntmps164
  go_wp2_with fail
  go_loopw [13] (fun u wr => ∃ i : Nat, i ≤ wk * hk ∧ u = .int .i64 i ∧ Bl w0 wr ∧ Blk wr g 4 (tabB (W * H) (putTo f bs wk hk x0 y0 W i)) ∧ Blk wr w.heap.size 27 #[.int .i64 W, .int .i64 H, .slice (some ⟨g, 0, none⟩) (W * H) cap] ∧ Blk wr (w.heap.size + 1) 27 #[.int .i64 wk, .int .i64 hk, .slice A (wk * hk) ac] ∧ Hid (w.heap.size ≤ wr.heap.size) ∧ Hid (∀ p T c, p ≠ g → Blk w p T c → Blk wr p T c)) (fun u _ => wk * hk - (RowKit.intOf u).toNat)
  case atStart => exact ⟨0, Nat.zero_le _, rfl, hb02, HG.out, w21, w22, Lib.hid w2b.le, HK⟩
  case round =>
    clear k1 k2
    obtain ⟨i, hi, rfl, hbr, hbg, hb1, hb2, hsz, hkp⟩ := hrel
    have k1 := hb1.all3
    have k2 := hb2.all3
    by_cases hlt : i < wk * hk
    · obtain ⟨ad, ua, rfl, hu, hca⟩ := (HA.out.bl hbr).at_ hlt
      have hua : ua = .bool (bs.getD i false) := by
        simp only [List.getElem?_map, Option.map_eq_some_iff] at hu
        obtain ⟨b, hb1, hb2⟩ := hu
        rw [← hb2, List.getD, hb1]; rfl
      clear hu
      subst hua
      cases hva : bs.getD i false
      · have hno : tabB (W * H) (putTo f bs wk hk x0 y0 W (i + 1)) = tabB (W * H) (putTo f bs wk hk x0 y0 W i) := tabB_congr fun k _ => putTo_no hva k
        rw [← hno] at hbg
        rw [hva] at hca
        clear hno hva
        go_wp2_with fail
        exact ⟨⟨i + 1, hlt, by go_num, hbr, hbg, hb1, hb2, hsz, hkp⟩, by simp [intOf]; omega⟩
      · rw [hva] at hca
        have hys := fun k => putTo_yes (f := f) (y0 := y0) hva hlt hx k
        have mlt : i % wk < wk := Nat.mod_lt _ (by omega)
        have dlt : i / wk < hk := Nat.div_lt_of_lt_mul hlt
        obtain ⟨xi, hxi⟩ : ∃ n, n = i % wk := ⟨_, rfl⟩
        obtain ⟨yi, hyi⟩ : ∃ n, n = i / wk := ⟨_, rfl⟩
        have e1 : (i : Int) % (wk : Int) = (xi : Int) := by rw [hxi]; simp
        have e2 : (i : Int) / (wk : Int) = (yi : Int) := by rw [hyi]; simp
        rw [← hxi] at mlt
        rw [← hyi] at dlt
        simp only [← hxi, ← hyi] at hys
        obtain ⟨q, hq⟩ : ∃ q : Nat, q = (y0 + yi) * W := ⟨_, rfl⟩
        simp only [← hq] at hys
        have hqW : ((y0 : Int) + (yi : Int)) * (W : Int) = (q : Int) := by rw [hq]; simp
        have hrow : q + W ≤ W * H := by rw [hq, ← Nat.succ_mul, Nat.mul_comm W H]; exact Nat.mul_le_mul_right W (by omega)
        have hto : ((q : Int) + (x0 : Int) + (xi : Int)).toNat = q + x0 + xi := by omega
        have hi1 : (q : Int) + (x0 : Int) + (xi : Int) < (W : Int) * (H : Int) := by
          have h1 : ((W * H : Nat) : Int) = (W : Int) * (H : Int) := by simp
          rw [← h1]
          omega
        have hcell : wr.cell? ⟨g, q + x0 + xi, none⟩ = some (.bool (putTo f bs wk hk x0 y0 W i (q + x0 + xi))) := hbg.tabAtB (by omega)
        have hfz := hbg.frozen
        have hgl2 := hbg.lt
        have hwk0 : ¬ (wk = 0) := by omega
        have HYs := Lib.hid hys; have HBg := Lib.hid hbg; have HBr := Lib.hid hbr; have HB1 := Lib.hid hb1; have HB2 := Lib.hid hb2
        clear hys hbg hq hva hxi hyi
        go_upto_region 5 with fail
        refine wp_region_flow [(true, 0), (true, 1), (true, 2), (true, 3), (true, 4), (true, 5), (true, 6), (true, 7), (true, 8), (true, 9), (true, 10), (true, 11), (true, 12), (true, 13), (true, 14), (true, 15), (true, 16), (true, 17), (true, 18), (false, 19)] (fun i => i == 19) (by kernel_rfl) (by kernel_rfl) (by kernel_rfl) (by kernel_rfl) ?_
        iterate 1
          apply Flow.calm2 _ _ rfl rfl
          · intro w' hb' K' hK'
            obtain ⟨hc', hf'⟩ := hb'.rule
            go_simp
            try go_ints
            exact hK'
          · intro K' hK'
            simp only [Act.put, List.setIfInBounds_toArray, List.set_cons_zero, List.set_cons_succ]
            exact hK'
        iterate 1
          apply Flow.calm2 _ _ rfl rfl
          · intro w' hb' K' hK'
            obtain ⟨hc', hf'⟩ := hb'.rule
            go_simp
            try go_ints
            exact hK'
          · intro K' hK'
            simp only [Act.put, List.setIfInBounds_toArray, List.set_cons_zero, List.set_cons_succ]
            exact hK'
        iterate 2
          apply Flow.mv _ rfl
          · intro K' hK'
            simp only [Act.put, Act.eval, List.setIfInBounds_toArray, List.set_cons_zero, List.set_cons_succ, arr_getD, List.getD_cons_zero, List.getD_cons_succ]
            exact hK'
        iterate 1
          apply Flow.calm2 _ _ rfl rfl
          · intro w' hb' K' hK'
            obtain ⟨hc', hf'⟩ := hb'.rule
            go_simp
            try go_ints
            exact hK'
          · intro K' hK'
            simp only [Act.put, List.setIfInBounds_toArray, List.set_cons_zero, List.set_cons_succ]
            exact hK'
        iterate 1
          apply Flow.calm2 _ _ rfl rfl
          · intro w' hb' K' hK'
            obtain ⟨hc', hf'⟩ := hb'.rule
            go_simp
            try go_ints
            exact hK'
          · intro K' hK'
            simp only [Act.put, List.setIfInBounds_toArray, List.set_cons_zero, List.set_cons_succ]
            exact hK'
        iterate 2
          apply Flow.calm2 _ _ rfl rfl
          · intro w' hb' K' hK'
            obtain ⟨hc', hf'⟩ := hb'.rule
            go_simp
            try go_ints
            exact hK'
          · intro K' hK'
            simp only [Act.put, List.setIfInBounds_toArray, List.set_cons_zero, List.set_cons_succ]
            exact hK'
        iterate 1
          apply Flow.calm2 _ _ rfl rfl
          · intro w' hb' K' hK'
            obtain ⟨hc', hf'⟩ := hb'.rule
            go_simp
            try go_ints
            exact hK'
          · intro K' hK'
            simp only [Act.put, List.setIfInBounds_toArray, List.set_cons_zero, List.set_cons_succ]
            exact hK'
        iterate 1
          apply Flow.calm2 _ _ rfl rfl
          · intro w' hb' K' hK'
            obtain ⟨hc', hf'⟩ := hb'.rule
            go_simp
            try go_ints
            exact hK'
          · intro K' hK'
            simp only [Act.put, List.setIfInBounds_toArray, List.set_cons_zero, List.set_cons_succ]
            exact hK'
        iterate 1
          apply Flow.calm2 _ _ rfl rfl
          · intro w' hb' K' hK'
            obtain ⟨hc', hf'⟩ := hb'.rule
            go_simp
            try go_ints
            exact hK'
          · intro K' hK'
            simp only [Act.put, List.setIfInBounds_toArray, List.set_cons_zero, List.set_cons_succ]
            exact hK'
        iterate 1
          apply Flow.mv _ rfl
          · intro K' hK'
            simp only [Act.put, Act.eval, List.setIfInBounds_toArray, List.set_cons_zero, List.set_cons_succ, arr_getD, List.getD_cons_zero, List.getD_cons_succ]
            exact hK'
        iterate 1
          apply Flow.calm2 _ _ rfl rfl
          · intro w' hb' K' hK'
            obtain ⟨hc', hf'⟩ := hb'.rule
            go_simp
            try go_ints
            exact hK'
          · intro K' hK'
            simp only [Act.put, List.setIfInBounds_toArray, List.set_cons_zero, List.set_cons_succ]
            exact hK'
        iterate 1
          apply Flow.mv _ rfl
          · intro K' hK'
            simp only [Act.put, Act.eval, List.setIfInBounds_toArray, List.set_cons_zero, List.set_cons_succ, arr_getD, List.getD_cons_zero, List.getD_cons_succ]
            exact hK'
        iterate 1
          apply Flow.calm2 _ _ rfl rfl
          · intro w' hb' K' hK'
            obtain ⟨hc', hf'⟩ := hb'.rule
            go_simp
            try go_ints
            exact hK'
          · intro K' hK'
            simp only [Act.put, List.setIfInBounds_toArray, List.set_cons_zero, List.set_cons_succ]
            exact hK'
        iterate 1
          apply Flow.calm2 _ _ rfl rfl
          · intro w' hb' K' hK'
            obtain ⟨hc', hf'⟩ := hb'.rule
            go_simp
            try go_ints
            exact hK'
          · intro K' hK'
            simp only [Act.put, List.setIfInBounds_toArray, List.set_cons_zero, List.set_cons_succ]
            exact hK'
        iterate 2
          apply Flow.calm2 _ _ rfl rfl
          · intro w' hb' K' hK'
            obtain ⟨hc', hf'⟩ := hb'.rule
            go_simp
            try go_ints
            exact hK'
          · intro K' hK'
            simp only [Act.put, List.setIfInBounds_toArray, List.set_cons_zero, List.set_cons_succ]
            exact hK'
        iterate 1
          apply Flow.calm2 _ _ rfl rfl
          · intro w' hb' K' hK'
            obtain ⟨hc', hf'⟩ := hb'.rule
            go_simp
            try go_ints
            exact hK'
          · intro K' hK'
            simp only [Act.put, List.setIfInBounds_toArray, List.set_cons_zero, List.set_cons_succ]
            exact hK'
        refine Flow.tail _ rfl ?_
        go_wp2_with fail
        have hg0' : w0.heap.size ≤ (⟨g, q + x0 + xi, none⟩ : Addr).block := hg0
        exact ⟨⟨i + 1, hlt, by go_num, (HBr.out.drew).setCell hg0' _, HBg.out.drew.tabSetB _ _ (fun j _ => HYs.out j), (HB1.out.drew).far (by show w.heap.size ≠ g; omega) _, (HB2.out.drew).far (by show w.heap.size + 1 ≠ g; omega) _, Lib.hid (by simpa using hsz.out), Lib.hid (fun p T c hp h => ((hkp.out p T c hp h).drew).far hp _)⟩, by simp [intOf]; omega⟩
    · obtain rfl : i = wk * hk := by omega
      have hend : tabB (W * H) (putTo f bs wk hk x0 y0 W (wk * hk)) = tabB (W * H) (putF f bs wk hk x0 y0 W) := tabB_congr fun k _ => putTo_end _ _ _ _ _ _ _ _
      rw [hend] at hbg
      have HBg := Lib.hid hbg
      clear hbg hend
      go_wp2_with fail
      go_end0
      exact ⟨rfl, HBg.out, hbr, hsz.out, hkp.out⟩

end Go.Proofs.YtjelhdpcaileiaaDoor
