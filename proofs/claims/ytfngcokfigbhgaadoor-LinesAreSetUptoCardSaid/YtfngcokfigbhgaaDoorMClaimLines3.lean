/- page.Paste. -/
import Derived.Test.YtfngcokfigbhgaaDoorMClaimLines2
import Derived.Test.YtfngcokfigbhgaaDoorMClaimLines0
import Derived.Test.YtfngcokfigbhgaaDoorMClaimLines1

namespace Go.Proofs.YtfngcokfigbhgaaDoor
open Go.RowKit

theorem firstNZ_zero {es : List Int} (h : firstNZ es = 0) : ∀ e ∈ es, e = 0 := by
  induction es with
  | nil => intro e he; cases he
  | cons x es ih =>
    have h' : (if x = 0 then firstNZ es else x) = 0 := h
    by_cases h0 : x = 0
    · rw [if_pos h0] at h'
      intro e he
      rcases List.mem_cons.1 he with rfl | he
      · exact h0
      · exact ih h' e he
    · rw [if_neg h0] at h'
      exact absurd h' h0
theorem whenI_zero {b : Bool} {n : Int} (h : whenI b n = 0) (hn : n ≠ 0) : b = false := by
  cases b
  · rfl
  · exact absurd h hn
theorem ltrsErr_zero {ht : Int} {ls : List Ltr} : ∀ {prev : List (List UInt8)}, ltrsErr ht prev ls = 0 → ∀ l ∈ ls, textB l.text = true ∧ pageErr l.W l.H l.m = 0 ∧ l.H = ht ∧ l.W ≤ 64 := by
  induction ls with
  | nil => intro prev _ l hl; cases hl
  | cons x ls ih =>
    intro prev h l hl
    have h' : (if ltrErr ht prev x = 0 then ltrsErr ht (prev ++ [x.text]) ls else ltrErr ht prev x) = 0 := h
    by_cases h0 : ltrErr ht prev x = 0
    · rw [if_pos h0] at h'
      rcases List.mem_cons.1 hl with rfl | hl
      · have hz := firstNZ_zero h0
        have k1 := whenI_zero (hz _ (by simp : whenI (!textB l.text) 2 ∈ _)) (by decide)
        have k2 := hz (pageErr l.W l.H l.m) (by simp)
        have k3 := whenI_zero (hz (whenI (l.H != ht) 11) (by simp)) (by decide)
        have k4 := whenI_zero (hz (whenI (decide (64 < l.W)) 4) (by simp)) (by decide)
        refine ⟨by simpa using k1, k2, by simpa using k3, ?_⟩
        have := of_decide_eq_false k4
        omega
      · exact ih h' l hl
    · rw [if_neg h0] at h'
      exact absurd h' h0
theorem fontErr_zero {nm : Bool} {ht gap sp : Int} {ls : List Ltr} (h : fontErr nm ht gap sp ls = 0) : (nm = true ∧ rangeB ht gap sp = true ∧ gap < sp ∧ ls.length ≠ 0 ∧ ls.length ≤ 200 ∧ 1 ≤ ht ∧ ht ≤ 64) ∧ ∀ l ∈ ls, textB l.text = true ∧ pageErr l.W l.H l.m = 0 ∧ l.H = ht ∧ l.W ≤ 64 := by
  have h' : (if fontHead nm ht gap sp ls.length = 0 then ltrsErr ht [] ls else fontHead nm ht gap sp ls.length) = 0 := h
  by_cases h0 : fontHead nm ht gap sp ls.length = 0
  · rw [if_pos h0] at h'
    refine ⟨?_, ltrsErr_zero h'⟩
    have hz := firstNZ_zero h0
    have k1 := whenI_zero (hz (whenI (!nm) 5) (by simp)) (by decide)
    have k2 := whenI_zero (hz (whenI (!rangeB ht gap sp) 3) (by simp)) (by decide)
    have k3 := of_decide_eq_false (whenI_zero (hz (whenI (decide (sp ≤ gap)) 7) (by simp)) (by decide))
    have k4 := of_decide_eq_false (whenI_zero (hz (whenI (decide (ls.length = 0)) 9) (by simp)) (by decide))
    have k5 := of_decide_eq_false (whenI_zero (hz (whenI (decide (200 < ls.length)) 4) (by simp)) (by decide))
    have k2' : rangeB ht gap sp = true := by simpa using k2
    have k6 : inB ht 1 64 = true := by
      unfold rangeB at k2'
      simp only [Bool.and_eq_true] at k2'
      exact k2'.1
    have k7 := inB_true.1 k6
    exact ⟨by simpa using k1, k2', by omega, k4, by omega, k7.1, k7.2⟩
  · rw [if_neg h0] at h'
    exact absurd h' h0

end Go.Proofs.YtfngcokfigbhgaaDoor


/-! A region in which two operations that make memory may come up in either order: reads and reckonings first, then both ways. No condition. -/
namespace Go.Proofs.YtfngcokfigbhgaaDoor
open Go.RowKit

section
variable {P : Program} {ops : Array Oper} {Q : Exit → Act → World → Prop} {md : Region.Mode} {cl : Nat → Bool}

def withK (K : Act → World → Prop) (Q : Exit → Act → World → Prop) : Exit → Act → World → Prop
  | .normal, a, w => K a w
  | e, a, w => Q e a w

def listTo : List (Bool × Nat) → Array Bool → Array Bool
  | [], listed => listed
  | (_, i) :: σ, listed => listTo σ (listed.setIfInBounds i true)

def preOk (md : Region.Mode) (ops : Array Oper) (cl : Nat → Bool) : List (Bool × Nat) → Array Bool → Bool
  | [], _ => true
  | (true, i) :: σ, listed => (Region.ready md ops listed).contains i && Region.free md ops listed i &&
      ((List.range ops.size).all fun j => j == i || listed.getD j true || !cl j || precedes md ops i j) && preOk md ops cl σ (listed.setIfInBounds i true)
  | (false, _) :: _, _ => false

theorem fork_sound (hs : Region.noSelect ops = true) (hQ : ∀ c a d v w, Q (.panic c) (Act.put a d v) w → Q (.panic c) a w) {R : Exit → Act → World → Prop} {n : Nat} :
    ∀ (σ : List (Bool × Nat)) (fuel : Nat) (listed : Array Bool) (a : Act) (w : World), listed.size = ops.size → DownClosed md ops listed → σ.length + n ≤ fuel → preOk md ops cl σ listed = true →
      (∀ (fuel : Nat) (a : Act) (w : World), (listTo σ listed).size = ops.size → DownClosed md ops (listTo σ listed) → n ≤ fuel → R .normal a w → wpAnyT P md ops Q cl fuel (listTo σ listed) a w) →
      Flow P ops R cl σ a w → wpAnyT P md ops Q cl fuel listed a w := by
  intro σ
  induction σ with
  | nil =>
    intro fuel listed a w hsz hdc hf hok hK h
    exact hK fuel a w hsz hdc (by simpa using hf) h
  | cons s σ ih =>
    obtain ⟨b, i⟩ := s
    intro fuel listed a w hsz hdc hf hok hK h
    cases fuel with
    | zero => simp at hf
    | succ fuel =>
      have hf' : σ.length + n ≤ fuel := by simp at hf; omega
      cases b with
      | true =>
        simp only [preOk, Bool.and_eq_true] at hok
        obtain ⟨⟨⟨h1, h2⟩, h3⟩, h4⟩ := hok
        obtain ⟨o, v, ho, hy, hfl⟩ := h
        have hir : i ∈ Region.ready md ops listed := by simpa using h1
        refine wpAnyT_first ho (Region.noSelect_spec hs) (fun c a w => hQ c a o.dst v w) fuel listed a w hsz hdc ?_ (Region.free_spec ho h2) hir hy (ih fuel _ _ _ (by simpa using hsz) (hdc.set hir) hf' h4 hK hfl)
        intro j oj hj hji hun hc
        simp only [List.all_eq_true, List.mem_range] at h3
        have h5 := h3 j (Array.getElem?_eq_some_iff.1 hj).1
        simpa only [hc, hun, Bool.or_eq_true, beq_iff_eq, hji, Bool.not_true, Bool.false_eq_true, false_or] using h5
      | false => simp [preOk] at hok

def forkOk (md : Region.Mode) (ops : Array Oper) (cl : Nat → Bool) (σ : List (Bool × Nat)) (i : Nat) (σ1 : List (Bool × Nat)) (j : Nat) (σ2 : List (Bool × Nat)) (listed : Array Bool) : Bool :=
  preOk md ops cl σ listed && Region.ready md ops (listTo σ listed) == [i, j] && flowOk md ops cl σ1 ((listTo σ listed).setIfInBounds i true) && flowOk md ops cl σ2 ((listTo σ listed).setIfInBounds j true)

/-- **TWO THAT COME UP IN EITHER ORDER.** -/
theorem wp_region_fork {id : Nat} {a : Act} {w : World} (σ : List (Bool × Nat)) (i : Nat) (σ1 : List (Bool × Nat)) (j : Nat) (σ2 : List (Bool × Nat)) (cl : Nat → Bool) (hm : P.follows .mixedOrders = true) (hs : Region.noSelect ops = true)
    (hl : decide (σ.length + (σ1.length + σ2.length + 1) ≤ ops.size + σ2.length ∧ σ2.length = σ1.length) = true) (hok : forkOk .any ops cl σ i σ1 j σ2 (Array.replicate ops.size false) = true)
    (h : Flow P ops (NoPanic (withK (fun a w => Flow P ops (NoPanic Q) cl ((false, i) :: σ1) a w ∧ Flow P ops (NoPanic Q) cl ((false, j) :: σ2) a w) Q)) cl σ a w.drew) : (Code.region id ops true).wp P Q a w := by
  have hl' := of_decide_eq_true hl
  unfold forkOk at hok
  simp only [Bool.and_eq_true, beq_iff_eq] at hok
  obtain ⟨⟨⟨h1, h2⟩, h3⟩, h4⟩ := hok
  refine wp_region_noPanic (wp_region_any hm (wpAny_of_T _ _ _ _ (fork_sound (cl := cl) (n := σ1.length + 1) hs noPanic_put σ _ _ _ _ (by simp) downClosed_start (by omega) h1 ?_ h)))
  intro fuel a w hsz hdc hf hK
  obtain ⟨k1, k2⟩ : Flow P ops (NoPanic Q) cl ((false, i) :: σ1) a w ∧ Flow P ops (NoPanic Q) cl ((false, j) :: σ2) a w := hK
  cases fuel with
  | zero => omega
  | succ fuel =>
    refine ⟨fun h0 => (by rw [h0] at h2; cases h2), fun k hk => ?_⟩
    have hk0 := hk
    rw [h2] at hk
    simp only [List.mem_cons, List.not_mem_nil, or_false] at hk
    rcases hk with rfl | rfl
    · exact wpOp_mono (fun a' w' h' => ⟨h'.1, flow_sound hs noPanic_put σ1 fuel _ _ _ (by simpa using hsz) (hdc.set hk0) (by omega) h3 h'.2⟩) k1
    · exact wpOp_mono (fun a' w' h' => ⟨h'.1, flow_sound hs noPanic_put σ2 fuel _ _ _ (by simpa using hsz) (hdc.set hk0) (by omega) h4 h'.2⟩) k2

theorem Flow.fork {K : Act → World → Prop} {a : Act} {w : World} (h : K a w) : Flow P ops (NoPanic (withK K Q)) cl [] a w := h
end

end Go.Proofs.YtfngcokfigbhgaaDoor


/-! Pasting one page on another one: in the program and in the reference. -/
namespace Go.Proofs.YtfngcokfigbhgaaDoor
open Go.RowKit

/-! ### plain -/
def isApart (bW bH cW cH : Nat) (x y : Int) : Bool := decide (x ≤ -(cW : Int)) || decide ((bW : Int) ≤ x) || decide (y ≤ -(cH : Int)) || decide ((bH : Int) ≤ y)
def pasteF (bs cs : List Bool) (bW bH cW cH : Nat) (x y : Int) (u v : Nat) : Bool := pix bs bW u v || (!isApart bW bH cW cH x y && atI cs cW cH ((u : Int) - x) ((v : Int) - y))
theorem isApart_false {bW bH cW cH : Nat} {x y : Int} (h : isApart bW bH cW cH x y = false) : -(cW : Int) < x ∧ x < bW ∧ -(cH : Int) < y ∧ y < bH := by
  simp [isApart] at h; omega
theorem pasteF_pix {bs cs : List Bool} {bW bH cW cH : Nat} {x y : Int} {u v : Nat} (h : pix bs bW u v = true) : pasteF bs cs bW bH cW cH x y u v = true := by simp [pasteF, h]
theorem pasteF_apart {bs cs : List Bool} {bW bH cW cH : Nat} {x y : Int} {u v : Nat} (h : pix bs bW u v = false) (h2 : isApart bW bH cW cH x y = true) : pasteF bs cs bW bH cW cH x y u v = false := by simp [pasteF, h, h2]
theorem pasteF_at {bs cs : List Bool} {bW bH cW cH : Nat} {x y : Int} {u v : Nat} (h : pix bs bW u v = false) (h2 : isApart bW bH cW cH x y = false) : pasteF bs cs bW bH cW cH x y u v = atI cs cW cH ((u : Int) - x) ((v : Int) - y) := by simp [pasteF, h, h2]

/-! ### the program's closure -/
end Go.Proofs.YtfngcokfigbhgaaDoor


/-! Pasting in the reference; what both functions make. -/
namespace Go.Proofs.YtfngcokfigbhgaaDoor
open Go.RowKit

theorem pasteF_far {bs cs : List Bool} {bW bH cW cH : Nat} {x y : Int} {u v : Nat} (h : pix bs bW u v = false) (h2 : x < -(cW : Int) ∨ (bW : Int) < x ∨ y < -(cH : Int) ∨ (bH : Int) < y) : pasteF bs cs bW bH cW cH x y u v = false :=
  pasteF_apart h (by simp [isApart]; omega)
theorem pasteF_near {bs cs : List Bool} {bW bH cW cH : Nat} {x y : Int} {u v : Nat} (hu : u < bW) (hv : v < bH) (h : pix bs bW u v = false) : pasteF bs cs bW bH cW cH x y u v = atI cs cW cH ((u : Int) - x) ((v : Int) - y) := by
  cases ha : isApart bW bH cW cH x y
  · exact pasteF_at h ha
  · rw [pasteF_apart h ha, atI_out]
    simp [isApart] at ha
    omega

set_option maxRecDepth 100000 in
set_option maxHeartbeats 2000000 in
theorem pasteOf1_any (px pc pb py : Nat) (bW bH cW cH : Nat) (A C : Option Addr) (bc cc : Nat) (bs cs : List Bool) (x y : Int) (u v : Nat) (w : World)
    (h3 : Blk w px 3 #[.int .i64 x]) (h5 : Blk w pc 27 #[.int .i64 cW, .int .i64 cH, .slice C (cW * cH) cc]) (h1 : Blk w pb 27 #[.int .i64 bW, .int .i64 bH, .slice A (bW * bH) bc]) (h4 : Blk w py 3 #[.int .i64 y])
    (hA : Reads w 1 A (bW * bH) (bs.map .bool)) (hC : Reads w 1 C (cW * cH) (cs.map .bool)) (b1 : bW ≤ 4000) (b2 : bH ≤ 4000) (b3 : cW ≤ 4000) (b4 : cH ≤ 4000) (hu : u < bW) (hv : v < bH) :
    Calls Tryd.prog 189 #[.int .i64 u, .int .i64 v, .pointer (some ⟨px, 0, none⟩), .pointer (some ⟨pc, 0, none⟩), .pointer (some ⟨pb, 0, none⟩), .pointer (some ⟨py, 0, none⟩)] w
      fun e w' => e = .returned (.bool (pasteF bs cs bW bH cW cH x y u v)) ∧ Bl w w' := by
  have k1 := h1.all3
  have k3 := h3.all1
  have k4 := h4.all1
  have k5 := h5.all3
  have hat := atI_in bs bW bH u v hu hv
  have hA' := fun (w1 : World) (hb : Bl w w1) => at_any bW bH A bc bs u v w1 (hA.bl hb) b1 b2
  have hC' := fun (w1 : World) (hb : Bl w w1) => at_any cW cH C cc cs ((u : Int) - x) ((v : Int) - y) w1 (hC.bl hb) b3 b4
  have HA := Lib.hid hA'; have HC := Lib.hid hC'
  clear hA hC hA' hC'
  rw [hat] at HA
  clear hat
  cases hp : pix bs bW u v
  case true =>
    have hf := pasteF_pix (cs := cs) (bH := bH) (cW := cW) (cH := cH) (x := x) (y := y) hp
    rw [hp] at HA
    have Hf := Lib.hid hf; have Hp := Lib.hid hp
    clear hf hp
    cases n1 : inB x (-(cW : Int)) bW <;> cases n2 : inB y (-(cH : Int)) bH
    all_goals
      go_enter Tryd.func189, Tryd.ntmps189
      go_wp2_with (first | (go_at_call 17; refine (in_any _ _ _ _).mono ?_; rintro e w' ⟨rfl, rfl⟩) | (go_at_call 109; refine (HA.out _ (Bl.refl _)).mono ?_; rintro e w1 ⟨rfl, hb1⟩))
      go_ret
      exact ⟨ret_bool Hf.out.symm, hb1⟩
  case false =>
    rw [hp] at HA
    cases n1 : inB x (-(cW : Int)) bW
    case false =>
      have hf := pasteF_far (cs := cs) (bH := bH) (cW := cW) (cH := cH) (x := x) (y := y) hp (by have := inB_false.1 n1; omega)
      have Hf := Lib.hid hf; have Hp := Lib.hid hp
      clear hf hp
      go_enter Tryd.func189, Tryd.ntmps189
      go_wp2_with (first | (go_at_call 17; refine (in_any _ _ _ _).mono ?_; rintro e w' ⟨rfl, rfl⟩) | (go_at_call 109; refine (HA.out _ (Bl.refl _)).mono ?_; rintro e w1 ⟨rfl, hb1⟩))
      go_ret
      exact ⟨ret_bool Hf.out.symm, hb1⟩
    case true =>
      cases n2 : inB y (-(cH : Int)) bH
      case false =>
        have hf := pasteF_far (cs := cs) (bH := bH) (cW := cW) (cH := cH) (x := x) (y := y) hp (by have := inB_false.1 n2; omega)
        have Hf := Lib.hid hf; have Hp := Lib.hid hp
        clear hf hp
        go_enter Tryd.func189, Tryd.ntmps189
        go_wp2_with (first | (go_at_call 17; refine (in_any _ _ _ _).mono ?_; rintro e w' ⟨rfl, rfl⟩) | (go_at_call 109; refine (HA.out _ (Bl.refl _)).mono ?_; rintro e w1 ⟨rfl, hb1⟩))
        go_ret
        exact ⟨ret_bool Hf.out.symm, hb1⟩
      case true =>
        have hf := pasteF_near (cs := cs) (cW := cW) (cH := cH) (x := x) (y := y) hu hv hp
        have r1 := inB_true.1 n1
        have r2 := inB_true.1 n2
        have Hf := Lib.hid hf; have Hp := Lib.hid hp
        clear hf hp
        go_enter Tryd.func189, Tryd.ntmps189
        go_wp2_with (first | (go_at_call 17; refine (in_any _ _ _ _).mono ?_; rintro e w' ⟨rfl, rfl⟩))
        refine (HA.out _ (Bl.refl _)).mono ?_
        rintro e w1 ⟨rfl, hb1⟩
        have k1' := (h1.bl hb1).all3
        have k3' := (h3.bl hb1).all1
        have k4' := (h4.bl hb1).all1
        have k5' := (h5.bl hb1).all3
        go_wp2_with fail
        refine (HC.out _ hb1).mono ?_
        rintro e w2 ⟨rfl, hb2⟩
        go_wp2_with fail
        go_ret
        exact ⟨ret_bool (by rw [Hf.out]), hb1.trans hb2⟩

/-! ### page.Paste, bedref2.PasteOf -/
set_option maxRecDepth 100000 in
set_option maxHeartbeats 2000000 in
theorem pasteOf_any (bW bH cW cH : Nat) (bv cv : Value) (bs cs : List Bool) (x y : Int) (w : World) (hA : IsPage w bv bW bH (bs.map .bool)) (hC : IsPage w cv cW cH (cs.map .bool))
    (b1 : bW ≤ 4000) (b2 : bH ≤ 4000) (b3 : cW ≤ 4000) (b4 : cH ≤ 4000) :
    Calls Tryd.prog 134 #[bv, cv, .int .i64 x, .int .i64 y] w fun e w' => ∃ v, e = .returned v ∧ NPage w.heap.size w' v bW bH ((grid bW bH (pasteF bs cs bW bH cW cH x y)).map .bool) ∧ Bl w w' := by
  obtain ⟨A, bc, rfl, hA⟩ := hA
  obtain ⟨C, cc, rfl, hC⟩ := hC
  have hbd : bW * bH ≤ 16000000 := by have := Nat.mul_le_mul b1 b2; omega
  have hr : ∃ r, r = Value.agg #[.int .i64 0, .int .i64 0, .slice none 0 0] := ⟨_, rfl⟩
  let w5 := ((((w.alloc (.cells #[.int .i64 bW, .int .i64 bH, .slice A (bW * bH) bc] 27)).alloc (.cells #[.int .i64 cW, .int .i64 cH, .slice C (cW * cH) cc] 27)).alloc (.cells #[.int .i64 x] 3)).alloc (.cells #[.int .i64 y] 3)).alloc (.cells #[.int .i64 0, .int .i64 0, .slice none 0 0] 27)
  have hb5 : Bl w w5 := (((((Bl.refl w).alloc _).alloc _).alloc _).alloc _).alloc _
  have q1 : Blk w5 w.heap.size 27 #[.int .i64 bW, .int .i64 bH, .slice A (bW * bH) bc] := ((((Blk.new w _ _).alloc _).alloc _).alloc _).alloc _
  have q2 : Blk w5 (w.heap.size + 1) 27 #[.int .i64 cW, .int .i64 cH, .slice C (cW * cH) cc] := by
    have := Blk.new (w.alloc (.cells #[.int .i64 bW, .int .i64 bH, .slice A (bW * bH) bc] 27)) 27 #[.int .i64 cW, .int .i64 cH, .slice C (cW * cH) cc]
    simp only [World.size_alloc] at this
    exact (((this).alloc _).alloc _).alloc _
  have q3 : Blk w5 (w.heap.size + 1 + 1) 3 #[.int .i64 x] := by
    have := Blk.new ((w.alloc (.cells #[.int .i64 bW, .int .i64 bH, .slice A (bW * bH) bc] 27)).alloc (.cells #[.int .i64 cW, .int .i64 cH, .slice C (cW * cH) cc] 27)) 3 #[.int .i64 x]
    simp only [World.size_alloc] at this
    exact ((this).alloc _).alloc _
  have q4 : Blk w5 (w.heap.size + 1 + 1 + 1) 3 #[.int .i64 y] := by
    have := Blk.new (((w.alloc (.cells #[.int .i64 bW, .int .i64 bH, .slice A (bW * bH) bc] 27)).alloc (.cells #[.int .i64 cW, .int .i64 cH, .slice C (cW * cH) cc] 27)).alloc (.cells #[.int .i64 x] 3)) 3 #[.int .i64 y]
    simp only [World.size_alloc] at this
    exact (this).alloc _
  have hP : Paints Tryd.prog 189 #[.pointer (some ⟨w.heap.size + 1 + 1, 0, none⟩), .pointer (some ⟨w.heap.size + 1, 0, none⟩), .pointer (some ⟨w.heap.size, 0, none⟩), .pointer (some ⟨w.heap.size + 1 + 1 + 1, 0, none⟩)] Value.bool w5 bW bH (pasteF bs cs bW bH cW cH x y) :=
    ⟨enters Tryd.func189 (by kernel_rfl) rfl, fun wx u v hb hu hv => pasteOf1_any _ _ _ _ bW bH cW cH A C bc cc bs cs x y u v wx (q3.bl hb) (q2.bl hb) (q1.bl hb) (q4.bl hb) ((hA.bl hb5).bl hb) ((hC.bl hb5).bl hb) b1 b2 b3 b4 hu hv⟩
  have HP := Lib.hid hP
  have kr : Blk w5 (w.heap.size + 1 + 1 + 1 + 1) 27 #[.int .i64 0, .int .i64 0, .slice none 0 0] := by
    have := Blk.new ((((w.alloc (.cells #[.int .i64 bW, .int .i64 bH, .slice A (bW * bH) bc] 27)).alloc (.cells #[.int .i64 cW, .int .i64 cH, .slice C (cW * cH) cc] 27)).alloc (.cells #[.int .i64 x] 3)).alloc (.cells #[.int .i64 y] 3)) 27 #[.int .i64 0, .int .i64 0, .slice none 0 0]
    simpa only [World.size_alloc] using this
  have Hq1 := Lib.hid q1; have Hq2 := Lib.hid q2
  clear hP q1 q2 q3 q4 hr
  go_enter Tryd.func134, Tryd.ntmps134
  go_wp2_with fail
  refine (Made_any bW bH _ _ _ w5 (by omega) (by omega) (by omega) HP.out).mono ?_
  rintro e w6 ⟨r, rfl, hpg, hb6⟩
  have kr' := (kr.bl hb6)
  have kr3 := kr'.all3
  obtain ⟨R, rc, rfl, hR, hRn⟩ := hpg
  go_wp2_with fail
  refine bodyPost_ret (v := .agg #[.int .i64 bW, .int .i64 bH, .slice R (bW * bH) rc]) (by simp [results, Tryd.results134, go_sem, kr3]) rfl ⟨_, rfl, ⟨R, rc, rfl, ?_, fun ad h => Nat.le_trans hb5.le (hRn ad h)⟩, ?_⟩
  · have hsz : w5.heap.size = w.heap.size + 5 := by simp [w5]
    rw [hsz] at hRn
    exact ((hR.store hRn (by simp) _).store hRn (by simp) _).store hRn (by simp) _
  · exact ((((hb5.trans hb6).setCell (by simp; omega) _).setCell (by simp; omega) _).setCell (by simp; omega) _)

end Go.Proofs.YtfngcokfigbhgaaDoor


/-! page.Paste. -/
namespace Go.Proofs.YtfngcokfigbhgaaDoor
open Go.RowKit

end Go.Proofs.YtfngcokfigbhgaaDoor
