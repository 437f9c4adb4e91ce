/- Rows of texts in memory. -/
import Derived.Test.YtjelhdpcaileiaaDoorS0
import Derived.Test.YtjelhdpcaileiaaDoorS1
import Derived.Test.YtjelhdpcaileiaaDoorS2

namespace Go.Proofs.YtjelhdpcaileiaaDoor
open Go.RowKit

section
variable {P : Program} {ops : Array Oper} {Q : Exit → Act → World → Prop} {md : Region.Mode} {S : World → Prop}

def wpAnyS (P : Program) (md : Region.Mode) (ops : Array Oper) (Q : Exit → Act → World → Prop) (S : World → Prop) : Nat → Array Bool → Act → World → Prop
  | 0, listed, a, w => Region.ready md ops listed = [] ∧ Q .normal a w
  | fuel + 1, listed, a, w =>
    (Region.ready md ops listed = [] → Q .normal a w) ∧
    ∀ i ∈ Region.ready md ops listed, wpOp P ops Q i (fun a' w' => S w' ∧ wpAnyS P md ops Q S fuel (listed.setIfInBounds i true) a' w') a w

theorem wpAny_of_S : ∀ (fuel : Nat) (listed : Array Bool) (a : Act) (w : World), wpAnyS P md ops Q S fuel listed a w → wpAny P md ops Q fuel listed a w
  | 0, _, _, _, h => h
  | fuel + 1, _, _, _, h => ⟨h.1, fun i hi => wpOp_mono (fun a' w' h' => wpAny_of_S fuel _ a' w' h'.2) (h.2 i hi)⟩

theorem wpAnyS_first {i : Nat} {oi : Oper} {v : Value} (hi : ops[i]? = some oi) (hsel : ∀ (j : Nat) (o : Oper) cs b, ops[j]? = some o → o.op ≠ .select cs b)
    (hQ : ∀ c a w, Q (.panic c) (a.put oi.dst v) w → Q (.panic c) a w) :
    ∀ (fuel : Nat) (listed : Array Bool) (a : Act) (w : World), listed.size = ops.size → DownClosed md ops listed →
      (∀ j oj, ops[j]? = some oj → j ≠ i → listed.getD j true = false → (∀ e ∈ oj.after, Region.binds md e = true → e.on ≠ i) → oi.apart ops oj = true) →
      i ∈ Region.ready md ops listed → S w → YieldsIf P ops S oi v a →
      wpAnyS P md ops Q S fuel (listed.setIfInBounds i true) (a.put oi.dst v) w → wpAnyS P md ops Q S (fuel + 1) listed a w := by
  intro fuel
  induction fuel with
  | zero =>
    intro listed a w _ _ _ hr hS hy H
    refine ⟨fun h => (by rw [h] at hr; cases hr), fun j hj => ?_⟩
    by_cases hji : j = i
    · subst hji; exact hy.wpOp hi hS ⟨hS, H⟩
    · have := ready_mono hj hji
      rw [H.1] at this
      cases this
  | succ fuel ih =>
    intro listed a w hsz hdc hfree hr hS hy H
    refine ⟨fun h => (by rw [h] at hr; cases hr), fun j hj => ?_⟩
    by_cases hji : j = i
    · subst hji; exact hy.wpOp hi hS ⟨hS, H⟩
    · have h1 := H.2 j (ready_mono hj hji)
      obtain ⟨hjun, oj, hoj, hall⟩ := mem_ready.1 hj
      have hun0 : listed.getD i false = false := by
        have h0 := (mem_ready.1 hr).1
        rcases Nat.lt_or_ge i listed.size with h' | h'
        · simp [h'] at h0 ⊢; exact h0
        · simp [Array.getElem?_eq_none h']
      have hnot : ∀ e ∈ oj.after, Region.binds md e = true → e.on ≠ i := fun e he hb heq => by
        have h1 := hall e he hb
        rw [heq, hun0] at h1
        cases h1
      have h2 := wpOp_putIf hoj (hfree j oj hoj hji hjun hnot) (fun cs b => hsel i oi cs b hi) (fun cs b => hsel j oj cs b hoj) hQ hy h1
      have hun' : ∀ k, (listed.setIfInBounds j true).getD k true = false → listed.getD k true = false := fun k hun => by
        by_cases hjk : j = k
        · subst hjk; exact hjun
        · rw [getD_set_ne true hjk] at hun; exact hun
      refine wpOp_mono (fun a' w' h3 => ⟨h3.2.1, ih (listed.setIfInBounds j true) a' w' (by simpa using hsz) (hdc.set hj)
        (fun k ok hk hki hun hno => hfree k ok hk hki (hun' k hun) hno) (ready_mono hr (Ne.symm hji)) h3.2.1 h3.1 (by rw [Array.setIfInBounds_comm _ _ hji]; exact h3.2.2)⟩) h2

/-- In one order: 'true': what yields in every world that S holds of; 'false': whatever else. -/
def FlowS (P : Program) (ops : Array Oper) (Q : Exit → Act → World → Prop) (S : World → Prop) : List (Bool × Nat) → Act → World → Prop
  | [], a, w => Q .normal a w
  | (true, i) :: σ, a, w => ∃ o v, ops[i]? = some o ∧ YieldsIf P ops S o v a ∧ FlowS P ops Q S σ (a.put o.dst v) w
  | (false, i) :: σ, a, w => wpOp P ops Q i (fun a' w' => S w' ∧ FlowS P ops Q S σ a' w') a w

def flowOkS (md : Region.Mode) (ops : Array Oper) : List (Bool × Nat) → Array Bool → Bool
  | [], listed => (Region.ready md ops listed).isEmpty
  | (true, i) :: σ, listed => (Region.ready md ops listed).contains i && Region.free md ops listed i && flowOkS md ops σ (listed.setIfInBounds i true)
  | (false, i) :: σ, listed => Region.ready md ops listed == [i] && flowOkS md ops σ (listed.setIfInBounds i true)

theorem flowS_sound (hs : Region.noSelect ops = true) (hQ : ∀ c a d v w, Q (.panic c) (Act.put a d v) w → Q (.panic c) a w) :
    ∀ (σ : List (Bool × Nat)) (fuel : Nat) (listed : Array Bool) (a : Act) (w : World), listed.size = ops.size → DownClosed md ops listed → σ.length ≤ fuel → flowOkS md ops σ listed = true → S w →
      FlowS P ops Q S σ a w → wpAnyS P md ops Q S fuel listed a w := by
  intro σ
  induction σ with
  | nil =>
    intro fuel listed a w _ _ _ hok _ h
    have hr : Region.ready md ops listed = [] := by simpa [flowOkS] using hok
    cases fuel with
    | zero => exact ⟨hr, h⟩
    | succ fuel => exact ⟨fun _ => h, fun i hi => by rw [hr] at hi; cases hi⟩
  | cons s σ ih =>
    obtain ⟨b, i⟩ := s
    intro fuel listed a w hsz hdc hf hok hS h
    cases fuel with
    | zero => simp at hf
    | succ fuel =>
      have hf' : σ.length ≤ fuel := by simpa using hf
      cases b with
      | true =>
        simp only [flowOkS, Bool.and_eq_true] at hok
        obtain ⟨⟨h1, h2⟩, h4⟩ := hok
        obtain ⟨o, v, ho, hy, hfl⟩ := h
        have hir : i ∈ Region.ready md ops listed := by simpa using h1
        exact wpAnyS_first ho (Region.noSelect_spec hs) (fun c a w => hQ c a o.dst v w) fuel listed a w hsz hdc (Region.free_spec ho h2) hir hS hy (ih fuel _ _ _ (by simpa using hsz) (hdc.set hir) hf' h4 hS hfl)
      | false =>
        simp only [flowOkS, Bool.and_eq_true, beq_iff_eq] at hok
        obtain ⟨h1, h4⟩ := hok
        refine ⟨fun h0 => (by rw [h0] at h1; cases h1), fun j hj => ?_⟩
        have hj0 := hj
        rw [h1] at hj
        obtain rfl := List.mem_singleton.1 hj
        exact wpOp_mono (fun a' w' h' => ⟨h'.1, ih fuel _ _ _ (by simpa using hsz) (hdc.set hj0) hf' h4 h'.1 h'.2⟩) h

/-- **THE BEGINNING.** -/
theorem wp_region_flowS {id : Nat} {a : Act} {w : World} (S : World → Prop) (σ : List (Bool × Nat)) (hm : P.follows .mixedOrders = true) (hs : Region.noSelect ops = true)
    (hl : decide (σ.length ≤ ops.size) = true) (hok : flowOkS .any ops σ (Array.replicate ops.size false) = true) (hS : S w.drew)
    (h : FlowS P ops (NoPanic Q) S σ a w.drew) : (Code.region id ops true).wp P Q a w :=
  wp_region_noPanic (wp_region_any hm (wpAny_of_S _ _ _ _ (flowS_sound hs noPanic_put σ _ _ _ _ (by simp) downClosed_start (of_decide_eq_true hl) hok hS h)))

section
variable {l : List Oper} {B : World}
theorem FlowS.calm {i : Nat} {o : Oper} {σ : List (Bool × Nat)} {a : Act} {w : World} (v : Value) (ho : l[i]? = some o) (hg : o.guard = none)
    (hr : ∀ w', S w' → (execOp a.eval o).run P w' = .ok (.value v) w') (h : FlowS P l.toArray Q S σ (a.put o.dst v) w) : FlowS P l.toArray Q S ((true, i) :: σ) a w :=
  ⟨o, v, by simpa using ho, .inl ⟨by simp [Region.wanted, hg], hr⟩, h⟩
theorem FlowS.calm2 {i : Nat} {o : Oper} {σ : List (Bool × Nat)} {a : Act} {w : World} (v : Value) (a' : Act) (ho : l[i]? = some o) (hg : o.guard = none)
    (hr : ∀ w', S w' → ∀ K : Result Next → Prop, K (.ok (.value v) w') → K ((execOp a.eval o).run P w')) (ha : ∀ K : Act → Prop, K a' → K (a.put o.dst v))
    (h : FlowS P l.toArray Q S σ a' w) : FlowS P l.toArray Q S ((true, i) :: σ) a w :=
  FlowS.calm v ho hg (fun w' hb => hr w' hb (fun r => r = .ok (.value v) w') rfl) (ha (fun x => FlowS P l.toArray Q S σ x w) h)
theorem FlowS.mv {i : Nat} {d : Option Tmp} {x : Operand} {ty : TypeId} {ps : String} {af : Array Edge} {σ : List (Bool × Nat)} {a : Act} {w : World} (a' : Act) (ho : l[i]? = some ⟨d, .move x, ty, ps, af, none⟩)
    (ha : ∀ K : Act → Prop, K a' → K (a.put d (a.eval x))) (h : FlowS P l.toArray Q S σ a' w) : FlowS P l.toArray Q S ((true, i) :: σ) a w :=
  FlowS.calm (a.eval x) ho rfl (fun w' _ => by simp [execOp]) (ha (fun x => FlowS P l.toArray Q S σ x w) h)
theorem FlowS.asg {i : Nat} {d : Option Tmp} {x : Operand} {ty : TypeId} {ps : String} {af : Array Edge} {σ : List (Bool × Nat)} {a : Act} {w : World} (a' : Act) (ho : l[i]? = some ⟨d, .assign x, ty, ps, af, none⟩)
    (ha : ∀ K : Act → Prop, K a' → K (a.put d (a.eval x))) (h : FlowS P l.toArray Q S σ a' w) : FlowS P l.toArray Q S ((true, i) :: σ) a w :=
  FlowS.calm (a.eval x) ho rfl (fun w' _ => by simp [execOp]) (ha (fun x => FlowS P l.toArray Q S σ x w) h)
theorem FlowS.calmG {i : Nat} {o : Oper} {σ : List (Bool × Nat)} {a : Act} {w : World} (v : Value) (ho : l[i]? = some o) (hg : Region.wanted o (yielded l.toArray a.tmps) = true)
    (hr : ∀ w', S w' → (execOp a.eval o).run P w' = .ok (.value v) w') (h : FlowS P l.toArray Q S σ (a.put o.dst v) w) : FlowS P l.toArray Q S ((true, i) :: σ) a w :=
  ⟨o, v, by simpa using ho, .inl ⟨hg, hr⟩, h⟩
theorem FlowS.pass {i : Nat} {o : Oper} {σ : List (Bool × Nat)} {a : Act} {w : World} (ho : l[i]? = some o) (hg : Region.wanted o (yielded l.toArray a.tmps) = false)
    (h : FlowS P l.toArray Q S σ (a.put o.dst undef) w) : FlowS P l.toArray Q S ((true, i) :: σ) a w :=
  ⟨o, undef, by simpa using ho, .inr ⟨hg, rfl⟩, h⟩
theorem FlowS.move {i : Nat} {o : Oper} {σ : List (Bool × Nat)} {a : Act} {w : World} (ho : l[i]? = some o)
    (h : wpList P l.toArray (Exit.then (fun a' w' => S w' ∧ FlowS P l.toArray Q S σ a' w') Q) [o] a w) : FlowS P l.toArray Q S ((false, i) :: σ) a w := by
  have ho' : l.toArray[i]? = some o := by simpa using ho
  simp only [FlowS, wpOp, ho']
  simp only [wpList] at h
  exact h
theorem FlowS.done {a : Act} {w : World} (h : Q .normal a w) : FlowS P ops (NoPanic Q) S [] a w := h
end
end

end Go.Proofs.YtjelhdpcaileiaaDoor


/-! The plain law of distances of shapes: pixels that differ are all ink but twice what meets. -/
namespace Go.Proofs.YtjelhdpcaileiaaDoor
open Go.RowKit

/-! ### sums over windows -/
def winN (f : Int → Nat) (lo : Int) (n : Nat) : Nat := sumN (fun i => f (lo + (i : Int))) n
theorem winN_congr {f g : Int → Nat} {lo : Int} {n : Nat} (h : ∀ i : Nat, i < n → f (lo + (i : Int)) = g (lo + (i : Int))) : winN f lo n = winN g lo n := sumN_congr h
theorem winN_succ (f : Int → Nat) (lo : Int) (n : Nat) : winN f lo (n + 1) = winN f lo n + f (lo + (n : Int)) := rfl
theorem winN_split (f : Int → Nat) (lo : Int) (a b : Nat) : winN f lo (a + b) = winN f lo a + winN f (lo + (a : Int)) b := by
  unfold winN
  rw [sumN_split]
  congr 1
  refine sumN_congr fun i _ => ?_
  congr 1
  omega
theorem winN_none {f : Int → Nat} {lo : Int} {n : Nat} (h : ∀ i : Nat, i < n → f (lo + (i : Int)) = 0) : winN f lo n = 0 := (sumN_congr h).trans (sumN_zero n)
theorem winN_sub {f : Int → Nat} {lo p : Int} {n m : Nat} (h1 : lo ≤ p) (h2 : p + (m : Int) ≤ lo + (n : Int)) (h : ∀ z, z < p ∨ p + (m : Int) ≤ z → f z = 0) : winN f lo n = winN f p m := by
  obtain ⟨a, rfl⟩ : ∃ a : Nat, p = lo + (a : Int) := ⟨(p - lo).toNat, by omega⟩
  obtain ⟨b, rfl⟩ : ∃ b : Nat, n = a + (m + b) := ⟨n - a - m, by omega⟩
  rw [winN_split, winN_split, winN_none (n := a) (fun i hi => h _ (by omega)), winN_none (n := b) (fun i hi => h _ (by omega))]
  omega
theorem winN_shift (f : Int → Nat) (d lo : Int) (n : Nat) : winN (fun z => f (z - d)) lo n = winN f (lo - d) n := by
  refine sumN_congr fun i _ => ?_
  show f (lo + (i : Int) - d) = f (lo - d + (i : Int))
  congr 1
  omega
theorem winN_add (f g : Int → Nat) (lo : Int) (n : Nat) : winN (fun z => f z + g z) lo n = winN f lo n + winN g lo n := sumN_add _ _ n
def win2 (F : Int → Int → Nat) (x0 : Int) (nx : Nat) (y0 : Int) (ny : Nat) : Nat := winN (fun y => winN (fun x => F x y) x0 nx) y0 ny
theorem win2_add (F G : Int → Int → Nat) (x0 : Int) (nx : Nat) (y0 : Int) (ny : Nat) : win2 (fun x y => F x y + G x y) x0 nx y0 ny = win2 F x0 nx y0 ny + win2 G x0 nx y0 ny := by
  unfold win2
  rw [← winN_add]
  exact winN_congr fun i _ => winN_add _ _ _ _
theorem win2_sub {F : Int → Int → Nat} {x0 y0 px py : Int} {nx ny mx my : Nat} (h1 : x0 ≤ px) (h2 : px + (mx : Int) ≤ x0 + (nx : Int)) (h3 : y0 ≤ py) (h4 : py + (my : Int) ≤ y0 + (ny : Int))
    (h : ∀ x y, (x < px ∨ px + (mx : Int) ≤ x) ∨ (y < py ∨ py + (my : Int) ≤ y) → F x y = 0) : win2 F x0 nx y0 ny = win2 F px mx py my := by
  unfold win2
  refine (winN_sub h3 h4 (fun y hy => winN_none fun i _ => h (x0 + (i : Int)) y (.inr hy))).trans ?_
  exact winN_congr fun i _ => winN_sub h1 h2 fun x hx => h _ _ (.inl hx)
theorem win2_shift (F : Int → Int → Nat) (dx dy x0 y0 : Int) (nx ny : Nat) : win2 (fun x y => F (x - dx) (y - dy)) x0 nx y0 ny = win2 F (x0 - dx) nx (y0 - dy) ny := by
  unfold win2
  have e : (fun y => winN (fun x => F (x - dx) (y - dy)) x0 nx) = fun y => (fun z => winN (fun x => F x z) (x0 - dx) nx) (y - dy) := by
    funext y
    exact winN_shift (fun x => F x (y - dy)) dx x0 nx
  rw [e, winN_shift (fun z => winN (fun x => F x z) (x0 - dx) nx)]
theorem win2_congr {F G : Int → Int → Nat} {x0 : Int} {nx : Nat} {y0 : Int} {ny : Nat} (h : ∀ x y, F x y = G x y) : win2 F x0 nx y0 ny = win2 G x0 nx y0 ny := by
  unfold win2
  exact winN_congr fun i _ => winN_congr fun j _ => h _ _
theorem winN_le {f : Int → Nat} {c : Nat} (h : ∀ z, f z ≤ c) (lo : Int) (n : Nat) : winN f lo n ≤ n * c := sumN_le (fun _ => h _) n
theorem win2_le {F : Int → Int → Nat} (h : ∀ x y, F x y ≤ 1) (x0 : Int) (nx : Nat) (y0 : Int) (ny : Nat) : win2 F x0 nx y0 ny ≤ ny * nx := by
  unfold win2
  refine winN_le (c := nx) (fun y => ?_) y0 ny
  have := winN_le (c := 1) (fun x => h x y) x0 nx
  omega

/-! ### two shapes -/
/-- What lies outside has no ink. -/
def Held (A : Int → Int → Bool) (W H : Nat) : Prop := ∀ x y, A x y = true → 0 ≤ x ∧ x < (W : Int) ∧ 0 ≤ y ∧ y < (H : Int)
def inkA (A : Int → Int → Bool) (W H : Nat) : Nat := win2 (fun x y => b1 (A x y)) 0 W 0 H
def overN (lo hi : Int) : Nat := (hi - lo).toNat
/-- What meets, the second shape being moved. -/
def bothN (A B : Int → Int → Bool) (W H W' H' : Nat) (dx dy : Int) : Nat :=
  win2 (fun x y => b1 (A x y && B (x - dx) (y - dy))) (max 0 dx) (overN (max 0 dx) (min (W : Int) ((W' : Int) + dx))) (max 0 dy) (overN (max 0 dy) (min (H : Int) ((H' : Int) + dy)))
/-- What differs. -/
def diffN (A B : Int → Int → Bool) (W H W' H' r : Nat) (dx dy : Int) : Nat :=
  win2 (fun x y => b1 (A x y != B (x - dx) (y - dy))) (-(r : Int)) (max W W' + 2 * r) (-(r : Int)) (max H H' + 2 * r)
theorem held0 {A : Int → Int → Bool} {W H : Nat} (h : Held A W H) {x y : Int} (hn : ¬ (0 ≤ x ∧ x < (W : Int) ∧ 0 ≤ y ∧ y < (H : Int))) : A x y = false := by
  cases he : A x y
  · rfl
  · exact absurd (h x y he) hn
theorem diff_both {A B : Int → Int → Bool} {W H W' H' r : Nat} {dx dy : Int} (hA : Held A W H) (hB : Held B W' H') (h1 : -(r : Int) ≤ dx) (h2 : dx ≤ (r : Int)) (h3 : -(r : Int) ≤ dy) (h4 : dy ≤ (r : Int)) :
    diffN A B W H W' H' r dx dy + 2 * bothN A B W H W' H' dx dy = inkA A W H + inkA B W' H' := by
  have e1 : bothN A B W H W' H' dx dy = win2 (fun x y => b1 (A x y && B (x - dx) (y - dy))) (-(r : Int)) (max W W' + 2 * r) (-(r : Int)) (max H H' + 2 * r) := by
    unfold bothN overN
    refine (win2_sub (by omega) (by omega) (by omega) (by omega) fun x y hxy => ?_).symm
    cases ha : A x y
    · rfl
    · cases hb : B (x - dx) (y - dy)
      · rfl
      · have a := hA x y ha
        have b := hB _ _ hb
        omega
  have e2 : inkA A W H = win2 (fun x y => b1 (A x y)) (-(r : Int)) (max W W' + 2 * r) (-(r : Int)) (max H H' + 2 * r) := by
    unfold inkA
    refine (win2_sub (by omega) (by omega) (by omega) (by omega) fun x y hxy => ?_).symm
    rw [held0 hA (by omega)]
    rfl
  have e3 : inkA B W' H' = win2 (fun x y => b1 (B (x - dx) (y - dy))) (-(r : Int)) (max W W' + 2 * r) (-(r : Int)) (max H H' + 2 * r) := by
    rw [win2_shift (fun x y => b1 (B x y))]
    unfold inkA
    refine (win2_sub (by omega) (by omega) (by omega) (by omega) fun x y hxy => ?_).symm
    rw [held0 hB (by omega)]
    rfl
  rw [e1, e2, e3, ← win2_add, Nat.two_mul]
  unfold diffN
  rw [← win2_add, ← win2_add]
  refine win2_congr fun x y => ?_
  cases A x y <;> cases B (x - dx) (y - dy) <;> rfl

/-! ### the best of all shifts -/
def mostN (f : Nat → Nat) : Nat → Nat
  | 0 => 0
  | n + 1 => max (mostN f n) (f n)
theorem mostN_le {f : Nat → Nat} {c n : Nat} (h : ∀ i, i < n → f i ≤ c) : mostN f n ≤ c := by
  induction n with
  | zero => exact Nat.zero_le _
  | succ n ih =>
    have a := ih fun i hi => h i (by omega)
    have b := h n (by omega)
    show max (mostN f n) (f n) ≤ c
    omega
/-- The shift of that number: rows of 2 r + 1. -/
def shiftX (r i : Nat) : Int := ((i % (2 * r + 1) : Nat) : Int) - (r : Int)
def shiftY (r i : Nat) : Int := ((i / (2 * r + 1) : Nat) : Int) - (r : Int)
def shifted (A B : Int → Int → Bool) (W H W' H' r i : Nat) : Nat := bothN A B W H W' H' (shiftX r i) (shiftY r i)
/-- How far two shapes are from each other. -/
def farN (A B : Int → Int → Bool) (W H W' H' r : Nat) : Int := (inkA A W H : Int) + (inkA B W' H' : Int) - 2 * (mostN (shifted A B W H W' H' r) ((2 * r + 1) * (2 * r + 1)) : Int)
/-- The least of what differs, so far. -/
theorem least_step {T n b m : Nat} {l : Int} (hn : n + 2 * b = T) (hl : l = -1 ∧ m = 0 ∨ l = (T : Int) - 2 * (m : Int)) (hm : 2 * m ≤ T) : (if l < 0 ∨ (n : Int) < l then (n : Int) else l) = (T : Int) - 2 * ((max m b : Nat) : Int) := by
  rcases hl with ⟨rfl, rfl⟩ | rfl
  · rw [if_pos (.inl (by decide))]
    omega
  · split
    · rename_i h
      omega
    · rename_i h
      omega

end Go.Proofs.YtjelhdpcaileiaaDoor


/-! glyph.distance. -/
namespace Go.Proofs.YtjelhdpcaileiaaDoor
open Go.RowKit

/-- A page's pixels. -/
def inkF (bs : List Bool) (W H : Nat) (x y : Int) : Bool := atI bs W H x y
theorem inkF_held (bs : List Bool) (W H : Nat) : Held (inkF bs W H) W H := fun x y h => by
  unfold inkF atI at h
  rw [Bool.and_eq_true] at h
  exact of_decide_eq_true h.1
theorem inkF_at (bs : List Bool) (W H x y : Nat) (hx : x < W) (hy : y < H) : inkF bs W H x y = bs.getD (y * W + x) false := atI_in bs W H x y hx hy
/-- The pixels that have ink, one behind the other. -/
def tally (bs : List Bool) (n : Nat) : Nat := sumN (fun i => b1 (bs.getD i false)) n
theorem tally_succ (bs : List Bool) (n : Nat) : tally bs (n + 1) = tally bs n + b1 (bs.getD n false) := rfl
theorem tally_le (bs : List Bool) (n : Nat) : tally bs n ≤ n := by
  have := sumN_le (f := fun i => b1 (bs.getD i false)) (c := 1) (fun _ => b1_le _) n
  simpa [tally] using this
theorem tally_ink (bs : List Bool) (W H : Nat) : tally bs (W * H) = inkA (inkF bs W H) W H := by
  unfold tally inkA win2 winN
  rw [Nat.mul_comm, sumN_flat]
  refine sumN_congr fun y hy => sumN_congr fun x hx => ?_
  rw [show (0 : Int) + (x : Int) = (x : Int) by omega, show (0 : Int) + (y : Int) = (y : Int) by omega]
  show b1 (bs.getD (y * W + x) false) = b1 (inkF bs W H x y)
  rw [inkF_at bs W H x y hx hy]
theorem shifted_le (A B : Int → Int → Bool) (W H W' H' r i : Nat) : shifted A B W H W' H' r i ≤ H * W := by
  unfold shifted bothN
  refine Nat.le_trans (win2_le (fun x y => b1_le _) _ _ _ _) ?_
  refine Nat.mul_le_mul ?_ ?_ <;> (unfold overN; omega)
theorem most_shift_le (A B : Int → Int → Bool) (W H W' H' r n : Nat) : mostN (shifted A B W H W' H' r) n ≤ H * W := mostN_le fun i _ => shifted_le A B W H W' H' r i
theorem shift_at (r i j : Nat) (hj : j < 2 * r + 1) : shiftX r (i * (2 * r + 1) + j) = (j : Int) - (r : Int) ∧ shiftY r (i * (2 * r + 1) + j) = (i : Int) - (r : Int) := by
  unfold shiftX shiftY
  have e1 : (i * (2 * r + 1) + j) % (2 * r + 1) = j := by rw [Nat.mul_comm, Nat.mul_add_mod, Nat.mod_eq_of_lt hj]
  have e2 : (i * (2 * r + 1) + j) / (2 * r + 1) = i := by rw [Nat.mul_comm, Nat.mul_add_div (by omega), Nat.div_eq_of_lt hj, Nat.add_zero]
  rw [e1, e2]
  exact ⟨rfl, rfl⟩

end Go.Proofs.YtjelhdpcaileiaaDoor


/-! glyph.distance is farN. -/
namespace Go.Proofs.YtjelhdpcaileiaaDoor
open Go.RowKit

/-- The ink that is counted ahead of the i-th page. -/
def allT (cs bs : List Bool) (n m : Nat) : Nat → Nat
  | 0 => 0
  | 1 => tally cs n
  | _ => tally cs n + tally bs m
/-- A row of what meets. -/
def meetN (A B : Int → Int → Bool) (dx dy x0 : Int) (nx : Nat) (y : Int) : Nat := winN (fun x => b1 (A x y && B (x - dx) (y - dy))) x0 nx
theorem both_rows (A B : Int → Int → Bool) (W H W' H' : Nat) (dx dy : Int) : bothN A B W H W' H' dx dy = winN (meetN A B dx dy (max 0 dx) (overN (max 0 dx) (min (W : Int) ((W' : Int) + dx)))) (max 0 dy) (overN (max 0 dy) (min (H : Int) ((H' : Int) + dy))) := rfl
theorem pix_cell {w : World} {A : Option Addr} {n : Nat} {bs : List Bool} (h : Reads w 1 A n (bs.map .bool)) {k : Nat} (hk : k < n) : ∃ ad, A = some ad ∧ w.cell? (ad.add k) = some (.bool (bs.getD k false)) := by
  obtain ⟨ad, u, e, hu, hc⟩ := h.at_ hk
  refine ⟨ad, e, ?_⟩
  simp only [List.getElem?_map, Option.map_eq_some_iff] at hu
  obtain ⟨b, hb1, hb2⟩ := hu
  rw [hc, ← hb2, List.getD, hb1]
  rfl

set_option maxRecDepth 100000 in
set_option maxHeartbeats 8000000 in
theorem distance_any (W H W' H' r : Nat) (A B : Option Addr) (ac bc : Nat) (cs bs : List Bool) (w : World) (hA : Reads w 1 A (W * H) (cs.map .bool)) (hB : Reads w 1 B (W' * H') (bs.map .bool)) (hW : W ≤ 4000) (hH : H ≤ 4000) (hW' : W' ≤ 4000) (hH' : H' ≤ 4000) (hr : r ≤ 4) :
    Calls Tryd.prog 121 #[.agg #[.int .i64 W, .int .i64 H, .slice A (W * H) ac], .agg #[.int .i64 W', .int .i64 H', .slice B (W' * H') bc], .int .i64 r] w fun e w' => e = .returned (.int .i64 (farN (inkF cs W H) (inkF bs W' H') W H W' H' r)) ∧ Bl w w' := by
  let w2 := ((w).alloc (.cells #[.int .i64 W, .int .i64 H, .slice A (W * H) ac] 27)).alloc (.cells #[.int .i64 W', .int .i64 H', .slice B (W' * H') bc] 27)
  have w2b : Bl w w2 := ((Bl.refl w).alloc _).alloc _
  have w21 : Blk w2 (w.heap.size) 27 #[.int .i64 W, .int .i64 H, .slice A (W * H) ac] := by
    have h0 := Blk.new (w) 27 #[.int .i64 W, .int .i64 H, .slice A (W * H) ac]
    exact (h0.alloc _)
  have w22 : Blk w2 (w.heap.size + 1) 27 #[.int .i64 W', .int .i64 H', .slice B (W' * H') bc] := by
    have h0 := Blk.new ((w).alloc (.cells #[.int .i64 W, .int .i64 H, .slice A (W * H) ac] 27)) 27 #[.int .i64 W', .int .i64 H', .slice B (W' * H') bc]
    simp only [World.size_alloc] at h0
    exact h0
  have hA2 := hA.bl w2b
  have hB2 := hB.bl w2b
  have k1 := w21.all3
  have k2 := w22.all3
  have hn : W * H ≤ 16000000 := by have := Nat.mul_le_mul hW hH; omega
  have hm : W' * H' ≤ 16000000 := by have := Nat.mul_le_mul hW' hH'; omega
  have HA := Lib.hid hA2; have HB := Lib.hid hB2
  have t1 := tally_le cs (W * H)
  have t2 := tally_le bs (W' * H')
  have i0 : ∀ w : World, (Instr.index 157 (.agg #[.int .i64 W, .int .i64 H, .slice A (W * H) ac, .int .i64 W', .int .i64 H', .slice B (W' * H') bc]) (.int .i64 0)).run Tryd.prog w = .ok (.agg #[.int .i64 W, .int .i64 H, .slice A (W * H) ac]) w := fun _ => by kernel_rfl
  have i1 : ∀ w : World, (Instr.index 157 (.agg #[.int .i64 W, .int .i64 H, .slice A (W * H) ac, .int .i64 W', .int .i64 H', .slice B (W' * H') bc]) (.int .i64 1)).run Tryd.prog w = .ok (.agg #[.int .i64 W', .int .i64 H', .slice B (W' * H') bc]) w := fun _ => by kernel_rfl
  clear hA hB hA2 hB2
  go_enter Tryd.func121, Tryd.ntmps121
  go_wp2_with fail
  go_loopw [21, 7] (fun u v wr => ∃ i : Nat, i ≤ 2 ∧ u = .int .i64 i ∧ v = .int .i64 (allT cs bs (W * H) (W' * H') i : Nat) ∧ Bl w2 wr) (fun u _ _ => 2 - (RowKit.intOf u).toNat)
  case atStart => exact ⟨0, by omega, rfl, rfl, Bl.refl _⟩
  case round =>
    clear k1 k2
    obtain ⟨i, hi, rfl, rfl, hbr⟩ := hrel
    by_cases hlt : i < 2
    · have inner : ∀ (X : Option Addr) (q pre : Nat) (zs : List Bool), True := fun _ _ _ _ => trivial
      clear inner
      have hcase : i = 0 ∨ i = 1 := by omega
      rcases hcase with rfl | rfl
      · have e0 : allT cs bs (W * H) (W' * H') 0 = 0 := rfl
        rw [e0]
        go_wp2_with fail
        obtain ⟨w5, hw5⟩ : ∃ x, x = wr.alloc (.cells #[.int .i64 W, .int .i64 H, .slice A (W * H) ac] 27) := ⟨_, rfl⟩
        have hb5 : Bl wr w5 := by rw [hw5]; exact (Bl.refl _).alloc _
        rw [← hw5]
        clear hw5
        go_loopw [27, 7] (fun u v wx => ∃ k : Nat, k ≤ W * H ∧ u = .int .i64 k ∧ v = .int .i64 (tally cs k : Nat) ∧ Bl w5 wx) (fun u _ _ => W * H - (RowKit.intOf u).toNat)
        case atStart => exact ⟨0, Nat.zero_le _, rfl, rfl, Bl.refl _⟩
        case round =>
          rename World => wx
          obtain ⟨k, hk, rfl, rfl, hbx⟩ := hrel
          have hts := tally_succ cs k
          have htl := tally_le cs k
          obtain ⟨v, hv⟩ : ∃ v, v = tally cs k := ⟨_, rfl⟩
          rw [← hv] at hts htl ⊢
          have Hts := Lib.hid hts; have HVv := Lib.hid hv
          clear hts hv
          by_cases hkl : k < W * H
          · obtain ⟨ad, rfl, j1⟩ := pix_cell (HA.out.bl (hbr.trans (hb5.trans hbx))) hkl
            obtain ⟨bt, hbt⟩ : ∃ b, b = cs.getD k false := ⟨_, rfl⟩
            rw [← hbt] at j1
            have HBt := Lib.hid hbt
            clear hbt
            cases bt
            · have HN := Lib.hid (show tally cs (k + 1) = v by rw [Hts.out, ← HBt.out]; rfl)
              go_wp2_with fail
              exact ⟨⟨k + 1, hkl, by go_num, by rw [HN.out], hbx⟩, by simp [RowKit.intOf] <;> omega⟩
            · have HN := Lib.hid (show tally cs (k + 1) = v + 1 by rw [Hts.out, ← HBt.out]; rfl)
              go_wp2_with fail
              exact ⟨⟨k + 1, hkl, by go_num, by rw [HN.out]; go_num, hbx⟩, by simp [RowKit.intOf] <;> omega⟩
          · obtain rfl : k = W * H := by omega
            have HN := Lib.hid (show allT cs bs (W * H) (W' * H') 1 = v by rw [HVv.out]; rfl)
            go_wp2_with fail
            exact ⟨⟨1, by omega, by go_num, by rw [HN.out], hbr.trans (hb5.trans hbx)⟩, by simp [RowKit.intOf] <;> omega⟩
      · have e0 : allT cs bs (W * H) (W' * H') 1 = tally cs (W * H) := rfl
        rw [e0]
        obtain ⟨P0, hP0⟩ : ∃ x, x = tally cs (W * H) := ⟨_, rfl⟩
        rw [← hP0] at t1 ⊢
        have HP0 := Lib.hid hP0
        clear hP0 e0
        go_wp2_with fail
        obtain ⟨w5, hw5⟩ : ∃ x, x = wr.alloc (.cells #[.int .i64 W', .int .i64 H', .slice B (W' * H') bc] 27) := ⟨_, rfl⟩
        have hb5 : Bl wr w5 := by rw [hw5]; exact (Bl.refl _).alloc _
        rw [← hw5]
        clear hw5
        go_loopw [27, 7] (fun u v wx => ∃ k : Nat, k ≤ W' * H' ∧ u = .int .i64 k ∧ v = .int .i64 (P0 + tally bs k : Nat) ∧ Bl w5 wx) (fun u _ _ => W' * H' - (RowKit.intOf u).toNat)
        case atStart => exact ⟨0, Nat.zero_le _, rfl, rfl, Bl.refl _⟩
        case round =>
          rename World => wx
          obtain ⟨k, hk, rfl, rfl, hbx⟩ := hrel
          have hts := tally_succ bs k
          have htl := tally_le bs k
          obtain ⟨v, hv⟩ : ∃ v, v = tally bs k := ⟨_, rfl⟩
          rw [← hv] at hts htl ⊢
          have Hts := Lib.hid hts; have HVv := Lib.hid hv
          clear hts hv
          by_cases hkl : k < W' * H'
          · obtain ⟨ad, rfl, j1⟩ := pix_cell (HB.out.bl (hbr.trans (hb5.trans hbx))) hkl
            obtain ⟨bt, hbt⟩ : ∃ b, b = bs.getD k false := ⟨_, rfl⟩
            rw [← hbt] at j1
            have HBt := Lib.hid hbt
            clear hbt
            cases bt
            · have HN := Lib.hid (show tally bs (k + 1) = v by rw [Hts.out, ← HBt.out]; rfl)
              go_wp2_with fail
              exact ⟨⟨k + 1, hkl, by go_num, by rw [HN.out], hbx⟩, by simp [RowKit.intOf] <;> omega⟩
            · have HN := Lib.hid (show tally bs (k + 1) = v + 1 by rw [Hts.out, ← HBt.out]; rfl)
              go_wp2_with fail
              exact ⟨⟨k + 1, hkl, by go_num, by rw [HN.out]; go_num, hbx⟩, by simp [RowKit.intOf] <;> omega⟩
          · obtain rfl : k = W' * H' := by omega
            have HN := Lib.hid (show allT cs bs (W * H) (W' * H') 2 = P0 + v by rw [HVv.out, HP0.out]; rfl)
            go_wp2_with fail
            exact ⟨⟨2, by omega, by go_num, by rw [HN.out], hbr.trans (hb5.trans hbx)⟩, by simp [RowKit.intOf] <;> omega⟩
    · obtain rfl : i = 2 := by omega
      have e2 : allT cs bs (W * H) (W' * H') 2 = tally cs (W * H) + tally bs (W' * H') := rfl
      have hT1 := tally_ink cs W H
      have hT2 := tally_ink bs W' H'
      rw [e2]
      obtain ⟨P1, hP1⟩ : ∃ x, x = tally cs (W * H) := ⟨_, rfl⟩
      obtain ⟨P2, hP2⟩ : ∃ x, x = tally bs (W' * H') := ⟨_, rfl⟩
      rw [← hP1] at t1 hT1 ⊢
      rw [← hP2] at t2 hT2 ⊢
      obtain ⟨F, hF⟩ : ∃ F, F = shifted (inkF cs W H) (inkF bs W' H') W H W' H' r := ⟨_, rfl⟩
      have hFb : ∀ k, mostN F k ≤ 16000000 := fun k => by
        have := most_shift_le (inkF cs W H) (inkF bs W' H') W H W' H' r k
        rw [← hF] at this
        rw [Nat.mul_comm] at this
        omega
      have hFi : ∀ i j, j < 2 * r + 1 → F (i * (2 * r + 1) + j) = bothN (inkF cs W H) (inkF bs W' H') W H W' H' ((j : Int) - (r : Int)) ((i : Int) - (r : Int)) := fun i j hj => by
        rw [hF]
        unfold shifted
        rw [(shift_at r i j hj).1, (shift_at r i j hj).2]
      have hres : farN (inkF cs W H) (inkF bs W' H') W H W' H' r = (P1 : Int) + (P2 : Int) - 2 * (mostN F ((2 * r + 1) * (2 * r + 1)) : Int) := by
        unfold farN
        rw [← hF, ← hT1, ← hT2]
      have k1 := (w21.bl hbr).all3
      have k2 := (w22.bl hbr).all3
      have HA2 := Lib.hid (HA.out.bl hbr); have HB2 := Lib.hid (HB.out.bl hbr)
      have HFb := Lib.hid hFb; have HFi := Lib.hid hFi; have HRs := Lib.hid hres
      clear hF hFb hFi hres hT1 hT2 hP1 hP2 e2 i0 i1 HA HB
      go_wp2_with fail
      go_loopw [13, 12] (fun u v wx => ∃ i : Nat, i ≤ 2 * r + 1 ∧ u = .int .i64 ((i : Int) - (r : Int)) ∧ v = .int .i64 (mostN F (i * (2 * r + 1)) : Nat) ∧ wr = wx) (fun u _ _ => 2 * r + 1 - (RowKit.intOf u + (r : Int)).toNat)
      case atStart => exact ⟨0, Nat.zero_le _, by simp, by simp [mostN], rfl⟩
      case round =>
        obtain ⟨i, hi, rfl, rfl, rfl⟩ := hrel
        by_cases hlt : i < 2 * r + 1
        · have hc : (i : Int) - (r : Int) ≤ (r : Int) := by omega
          obtain ⟨dy, hdy⟩ : ∃ dy, dy = (i : Int) - (r : Int) := ⟨_, rfl⟩
          have hd1 : -4 ≤ dy ∧ dy ≤ 4 := by omega
          rw [← hdy] at hc ⊢
          have HDy := Lib.hid hdy
          have hM0 := HFb.out (i * (2 * r + 1))
          clear hdy
          go_wp2_with fail
          go_loopw [14, 12] (fun u v wx => ∃ j : Nat, j ≤ 2 * r + 1 ∧ u = .int .i64 ((j : Int) - (r : Int)) ∧ v = .int .i64 (mostN F (i * (2 * r + 1) + j) : Nat) ∧ wr = wx) (fun u _ _ => 2 * r + 1 - (RowKit.intOf u + (r : Int)).toNat)
          case atStart => exact ⟨0, Nat.zero_le _, by simp, by simp, rfl⟩
          case round =>
            obtain ⟨j, hj, rfl, rfl, rfl⟩ := hrel
            by_cases hjt : j < 2 * r + 1
            · have hFj := HFi.out i j hjt
              have hcj : (j : Int) - (r : Int) ≤ (r : Int) := by omega
              obtain ⟨dx, hdx⟩ : ∃ dx, dx = (j : Int) - (r : Int) := ⟨_, rfl⟩
              have hd2 : -4 ≤ dx ∧ dx ≤ 4 := by omega
              rw [← hdx, ← HDy.out, both_rows] at hFj
              rw [← hdx] at hcj ⊢
              have HDx := Lib.hid hdx
              have hM1 := HFb.out (i * (2 * r + 1) + j)
              obtain ⟨M, hM⟩ : ∃ M, M = mostN F (i * (2 * r + 1) + j) := ⟨_, rfl⟩
              have hMs : mostN F (i * (2 * r + 1) + (j + 1)) = max M (F (i * (2 * r + 1) + j)) := by rw [hM]; rfl
              rw [← hM] at hM1 ⊢
              obtain ⟨x0, hx0⟩ : ∃ x0 : Nat, (x0 : Int) = max 0 dx := ⟨(max 0 dx).toNat, by omega⟩
              obtain ⟨y0, hy0⟩ : ∃ y0 : Nat, (y0 : Int) = max 0 dy := ⟨(max 0 dy).toNat, by omega⟩
              obtain ⟨x1, hx1⟩ : ∃ x1, x1 = min (W : Int) ((W' : Int) + dx) := ⟨_, rfl⟩
              obtain ⟨y1, hy1⟩ : ∃ y1, y1 = min (H : Int) ((H' : Int) + dy) := ⟨_, rfl⟩
              have gx0 : (if (0 : Int) < dx then dx else 0) = (x0 : Int) := by split <;> omega
              have gy0 : (if (0 : Int) < dy then dy else 0) = (y0 : Int) := by split <;> omega
              have gx1 : (if (W : Int) < (W' : Int) + dx then (W : Int) else (W' : Int) + dx) = x1 := by split <;> omega
              have gy1 : (if (H : Int) < (H' : Int) + dy then (H : Int) else (H' : Int) + dy) = y1 := by split <;> omega
              have gx2 : (if dx < 0 then (0 : Int) else dx) = (x0 : Int) := by split <;> omega
              have gy2 : (if dy < 0 then (0 : Int) else dy) = (y0 : Int) := by split <;> omega
              have gx3 : (if (W' : Int) + dx < (W : Int) then (W' : Int) + dx else (W : Int)) = x1 := by split <;> omega
              have gy3 : (if (H' : Int) + dy < (H : Int) then (H' : Int) + dy else (H : Int)) = y1 := by split <;> omega
              rw [← hx0, ← hx1, ← hy0, ← hy1] at hFj
              obtain ⟨nx, hnx⟩ : ∃ nx, nx = overN (x0 : Int) x1 := ⟨_, rfl⟩
              obtain ⟨ny, hny⟩ : ∃ ny, ny = overN (y0 : Int) y1 := ⟨_, rfl⟩
              rw [← hnx, ← hny] at hFj
              obtain ⟨Row, hRow⟩ : ∃ Row, Row = meetN (inkF cs W H) (inkF bs W' H') dx dy (x0 : Int) nx := ⟨_, rfl⟩
              rw [← hRow] at hFj
              have HFj := Lib.hid hFj; have HMs := Lib.hid hMs; have HRow := Lib.hid hRow; have HM := Lib.hid hM
              have Hx0 := Lib.hid hx0; have Hy0 := Lib.hid hy0; have Hx1 := Lib.hid hx1; have Hy1 := Lib.hid hy1; have Hnx := Lib.hid hnx; have Hny := Lib.hid hny
              have hrl : ∀ y, Row y ≤ nx := fun y => by rw [hRow]; unfold meetN; have := winN_le (c := 1) (fun x => b1_le (inkF cs W H x y && inkF bs W' H' (x - dx) (y - dy))) (x0 : Int) nx; omega
              have hwl : ∀ k, k ≤ ny → winN Row (y0 : Int) k ≤ 16000000 := fun k hk => by
                have h1 := winN_le (c := nx) hrl (y0 : Int) k
                have h2 : nx ≤ W := by rw [hnx]; unfold overN; omega
                have h3 : k ≤ H := by have : ny ≤ H := by rw [hny]; unfold overN; omega
                                      omega
                have h4 := Nat.mul_le_mul h3 h2
                rw [Nat.mul_comm H W] at h4
                omega
              have HWl := Lib.hid hwl
              have hy4 : y0 ≤ 4 := by omega
              have hx4 : x0 ≤ 4 := by omega
              clear hFj hMs hRow hM hx0 hy0 hx1 hy1 hnx hny hrl hwl hdx
              go_wp2_with fail
              go_loopw [16, 15] (fun u v wx => ∃ y : Nat, y0 ≤ y ∧ y ≤ y0 + ny ∧ u = .int .i64 (y : Int) ∧ v = .int .i64 (winN Row (y0 : Int) (y - y0) : Nat) ∧ wr = wx) (fun u _ _ => y0 + ny - (RowKit.intOf u).toNat)
              case atStart => exact ⟨y0, Nat.le_refl _, by omega, rfl, by rw [Nat.sub_self]; rfl, rfl⟩
              case round =>
                obtain ⟨y, hya, hyb, rfl, rfl, rfl⟩ := hrel
                by_cases hyt : y < y0 + ny
                · have hyc : (y : Int) < y1 := by have := Hny.out; unfold overN at this; omega
                  have hP := HWl.out (y - y0) (by omega)
                  have hPs : winN Row (y0 : Int) (y + 1 - y0) = winN Row (y0 : Int) (y - y0) + Row (y : Int) := by
                    rw [show y + 1 - y0 = (y - y0) + 1 by omega, winN_succ, show (y0 : Int) + ((y - y0 : Nat) : Int) = (y : Int) by omega]
                  have hPb := HWl.out (y + 1 - y0) (by omega)
                  have hyH : y < H := by have := Hy1.out; omega
                  obtain ⟨yb, hyb2⟩ : ∃ yb : Nat, (yb : Int) = (y : Int) - dy := ⟨((y : Int) - dy).toNat, by have := Hy0.out; omega⟩
                  have hybH : yb < H' := by have := Hy1.out; omega
                  obtain ⟨G, hG⟩ : ∃ G : Int → Nat, G = fun x => b1 (inkF cs W H x (y : Int) && inkF bs W' H' (x - dx) ((y : Int) - dy)) := ⟨_, rfl⟩
                  have hRG : Row (y : Int) = winN G (x0 : Int) nx := by rw [HRow.out, hG]; rfl
                  rw [hRG] at hPs
                  obtain ⟨P, hPP⟩ : ∃ P, P = winN Row (y0 : Int) (y - y0) := ⟨_, rfl⟩
                  rw [← hPP] at hP hPs ⊢
                  have hGl : ∀ k, winN G (x0 : Int) k ≤ k := fun k => by have := winN_le (f := G) (c := 1) (fun z => by rw [hG]; exact b1_le _) (x0 : Int) k; omega
                  have hGx : ∀ xn xb : Nat, xn < W → xb < W' → (xb : Int) = (xn : Int) - dx → G (xn : Int) = b1 (cs.getD (y * W + xn) false && bs.getD (yb * W' + xb) false) := fun xn xb h1 h2 h3 => by
                    rw [hG]
                    show b1 (inkF cs W H xn y && inkF bs W' H' ((xn : Int) - dx) ((y : Int) - dy)) = _
                    rw [← hyb2, ← h3, inkF_at cs W H xn y h1 hyH, inkF_at bs W' H' xb yb h2 hybH]
                  have q1 : 0 ≤ (y : Int) * (W : Int) ∧ (y : Int) * (W : Int) ≤ 16000000 := by
                    have h5 := Int.natCast_mul y W
                    have h6 := Nat.mul_le_mul (show y ≤ 4000 by omega) hW
                    omega
                  have q2 : 0 ≤ (yb : Int) * (W' : Int) ∧ (yb : Int) * (W' : Int) ≤ 16000000 := by
                    have h5 := Int.natCast_mul yb W'
                    have h6 := Nat.mul_le_mul (show yb ≤ 4000 by omega) hW'
                    omega
                  have hnxW : nx ≤ 4000 := by have := Hnx.out; unfold overN at this; have := Hx1.out; omega
                  have hyb3 : (y : Int) - dy = (yb : Int) := hyb2.symm
                  have HPs := Lib.hid hPs; have HGx := Lib.hid hGx; have HGl := Lib.hid hGl
                  clear hPs hG hRG hPP hGl hGx hPb hyb2
                  go_wp2_with fail
                  go_loopw [17, 15] (fun u v wx => ∃ x : Nat, x0 ≤ x ∧ x ≤ x0 + nx ∧ u = .int .i64 (x : Int) ∧ v = .int .i64 ((P + winN G (x0 : Int) (x - x0) : Nat) : Int) ∧ wr = wx) (fun u _ _ => x0 + nx - (RowKit.intOf u).toNat)
                  case atStart => exact ⟨x0, Nat.le_refl _, by omega, rfl, by rw [Nat.sub_self]; rfl, rfl⟩
                  case round =>
                    obtain ⟨x, hxa, hxb, rfl, rfl, rfl⟩ := hrel
                    have hV := HGl.out (x - x0)
                    have hVs : winN G (x0 : Int) (x + 1 - x0) = winN G (x0 : Int) (x - x0) + G (x : Int) := by
                      rw [show x + 1 - x0 = (x - x0) + 1 by omega, winN_succ, show (x0 : Int) + ((x - x0 : Nat) : Int) = (x : Int) by omega]
                    by_cases hxt : x < x0 + nx
                    · have hxc : (x : Int) < x1 := by have := Hnx.out; unfold overN at this; omega
                      have hxW : x < W := by have := Hx1.out; omega
                      obtain ⟨xb, hxb2⟩ : ∃ xb : Nat, (xb : Int) = (x : Int) - dx := ⟨((x : Int) - dx).toNat, by have := Hx0.out; omega⟩
                      have hxbW : xb < W' := by have := Hx1.out; omega
                      have hGv := HGx.out x xb hxW hxbW hxb2
                      obtain ⟨ka, hka⟩ : ∃ ka, ka = y * W + x := ⟨_, rfl⟩
                      obtain ⟨kb, hkb⟩ : ∃ kb, kb = yb * W' + xb := ⟨_, rfl⟩
                      have eka : (y : Int) * (W : Int) + (x : Int) = (ka : Int) := by rw [hka]; simp
                      have ekb : (yb : Int) * (W' : Int) + (x : Int) - dx = (kb : Int) := by
                        have : (kb : Int) = (yb : Int) * (W' : Int) + (xb : Int) := by rw [hkb]; simp
                        omega
                      have hkal : ka < W * H := by rw [hka]; exact place_lt hxW hyH
                      have hkbl : kb < W' * H' := by rw [hkb]; exact place_lt hxbW hybH
                      obtain ⟨ada, eA, ja⟩ := pix_cell HA2.out hkal
                      obtain ⟨adb, eB, jb⟩ := pix_cell HB2.out hkbl
                      rw [← hka, ← hkb] at hGv
                      obtain ⟨va, hva⟩ : ∃ v, v = cs.getD ka false := ⟨_, rfl⟩
                      obtain ⟨vb, hvb⟩ : ∃ v, v = bs.getD kb false := ⟨_, rfl⟩
                      rw [← hva] at ja hGv
                      rw [← hvb] at jb hGv
                      rw [hGv] at hVs
                      obtain ⟨V, hVV⟩ : ∃ V, V = winN G (x0 : Int) (x - x0) := ⟨_, rfl⟩
                      rw [← hVV] at hV hVs ⊢
                      have HVs := Lib.hid hVs
                      subst eA
                      subst eB
                      clear hVs hVV hva hvb hGv hka hkb hxb2
                      cases va
                      · have HN := Lib.hid (show P + winN G (x0 : Int) (x + 1 - x0) = P + V by rw [HVs.out]; rfl)
                        go_wp2_with fail
                        exact ⟨⟨x + 1, by omega, by omega, by go_num, by rw [HN.out], trivial⟩, by simp [RowKit.intOf] <;> omega⟩
                      · cases vb
                        · have HN := Lib.hid (show P + winN G (x0 : Int) (x + 1 - x0) = P + V by rw [HVs.out]; rfl)
                          go_wp2_with fail
                          exact ⟨⟨x + 1, by omega, by omega, by go_num, by rw [HN.out], trivial⟩, by simp [RowKit.intOf] <;> omega⟩
                        · have HN := Lib.hid (show P + winN G (x0 : Int) (x + 1 - x0) = P + V + 1 by rw [HVs.out]; rfl)
                          go_wp2_with fail
                          exact ⟨⟨x + 1, by omega, by omega, by go_num, by rw [HN.out]; go_num, trivial⟩, by simp [RowKit.intOf] <;> omega⟩
                    · obtain rfl : x = x0 + nx := by omega
                      have hxc : ¬ ((x0 : Int) + (nx : Int) < x1) := by have := Hnx.out; unfold overN at this; omega
                      have HN := Lib.hid (show winN Row (y0 : Int) (y + 1 - y0) = P + winN G (x0 : Int) (x0 + nx - x0) by rw [HPs.out, show x0 + nx - x0 = nx by omega])
                      go_wp2_with fail
                      exact ⟨⟨y + 1, by omega, by omega, by go_num, by rw [HN.out], trivial⟩, by simp [RowKit.intOf] <;> omega⟩
                · obtain rfl : y = y0 + ny := by omega
                  have hyc : ¬ ((y0 : Int) + (ny : Int) < y1) := by have := Hny.out; unfold overN at this; omega
                  have hFv := HFj.out
                  have hMs := HMs.out
                  have hFvl := HWl.out ny (Nat.le_refl _)
                  rw [show y0 + ny - y0 = ny by omega]
                  rw [hFv] at hMs
                  obtain ⟨V, hVV⟩ : ∃ V, V = winN Row (y0 : Int) ny := ⟨_, rfl⟩
                  rw [← hVV] at hMs hFvl ⊢
                  obtain ⟨Mx, hMx⟩ : ∃ Mx, Mx = max M V := ⟨_, rfl⟩
                  rw [← hMx] at hMs
                  have gm1 : (if (M : Int) < (V : Int) then (V : Int) else (M : Int)) = (Mx : Int) := by split <;> omega
                  have gm2 : (if M < V then (V : Int) else (M : Int)) = (Mx : Int) := by split <;> omega
                  have gm3 : (if (V : Int) < (M : Int) then (M : Int) else (V : Int)) = (Mx : Int) := by split <;> omega
                  have gm4 : (if V < M then (M : Int) else (V : Int)) = (Mx : Int) := by split <;> omega
                  have HMs2 := Lib.hid hMs
                  clear hFv hMs hVV hMx
                  go_wp2_with fail
                  exact ⟨⟨j + 1, hjt, by rw [HDx.out]; go_num, by rw [HMs2.out], trivial⟩, by rw [HDx.out]; simp [RowKit.intOf] <;> omega⟩
            · obtain rfl : j = 2 * r + 1 := by omega
              have hcj : ¬ (((2 * r + 1 : Nat) : Int) - (r : Int) ≤ (r : Int)) := by omega
              have he : i * (2 * r + 1) + (2 * r + 1) = (i + 1) * (2 * r + 1) := by rw [Nat.add_mul, Nat.one_mul]
              rw [he]
              have HDy2 := HDy
              go_wp2_with fail
              exact ⟨⟨i + 1, hlt, by rw [HDy.out]; go_num, rfl, trivial⟩, by rw [HDy.out]; simp [RowKit.intOf] <;> omega⟩
        · obtain rfl : i = 2 * r + 1 := by omega
          have hc : ¬ (((2 * r + 1 : Nat) : Int) - (r : Int) ≤ (r : Int)) := by omega
          have hb := HFb.out ((2 * r + 1) * (2 * r + 1))
          obtain ⟨M, hM⟩ : ∃ M, M = mostN F ((2 * r + 1) * (2 * r + 1)) := ⟨_, rfl⟩
          have hres := HRs.out
          rw [← hM] at hb hres ⊢
          have HR2 := Lib.hid hres
          clear hM hres
          go_wp2_with fail
          go_ret
          exact ⟨ret_int (by rw [HR2.out] <;> omega), w2b.trans hbr⟩

end Go.Proofs.YtjelhdpcaileiaaDoor


/-! bedref2.FarOf is farN. -/
namespace Go.Proofs.YtjelhdpcaileiaaDoor
open Go.RowKit

def diffRow (A B : Int → Int → Bool) (dx dy x0 : Int) (nx : Nat) (y : Int) : Nat := winN (fun x => b1 (A x y != B (x - dx) (y - dy))) x0 nx
theorem diff_rows (A B : Int → Int → Bool) (W H W' H' r : Nat) (dx dy : Int) : diffN A B W H W' H' r dx dy = winN (diffRow A B dx dy (-(r : Int)) (max W W' + 2 * r)) (-(r : Int)) (max H H' + 2 * r) := rfl
/-- The least so far; none: -1. -/
def leastI (T : Nat) (F : Nat → Nat) (k : Nat) : Int := if k = 0 then -1 else (T : Int) - 2 * (mostN F k : Int)

set_option maxRecDepth 100000 in
set_option maxHeartbeats 8000000 in
theorem farOf_any (W H W' H' r : Nat) (A B : Option Addr) (ac bc : Nat) (cs bs : List Bool) (w : World) (hA : Reads w 1 A (W * H) (cs.map .bool)) (hB : Reads w 1 B (W' * H') (bs.map .bool)) (hW : W ≤ 4000) (hH : H ≤ 4000) (hW' : W' ≤ 4000) (hH' : H' ≤ 4000) (hr : r ≤ 4) :
    Calls Tryd.prog 45 #[.agg #[.int .i64 W, .int .i64 H, .slice A (W * H) ac], .agg #[.int .i64 W', .int .i64 H', .slice B (W' * H') bc], .int .i64 r] w fun e w' => e = .returned (.int .i64 (farN (inkF cs W H) (inkF bs W' H') W H W' H' r)) ∧ Bl w w' := by
  let w2 := ((w).alloc (.cells #[.int .i64 W, .int .i64 H, .slice A (W * H) ac] 27)).alloc (.cells #[.int .i64 W', .int .i64 H', .slice B (W' * H') bc] 27)
  have w2b : Bl w w2 := ((Bl.refl w).alloc _).alloc _
  have w21 : Blk w2 (w.heap.size) 27 #[.int .i64 W, .int .i64 H, .slice A (W * H) ac] := by
    have h0 := Blk.new (w) 27 #[.int .i64 W, .int .i64 H, .slice A (W * H) ac]
    exact (h0.alloc _)
  have w22 : Blk w2 (w.heap.size + 1) 27 #[.int .i64 W', .int .i64 H', .slice B (W' * H') bc] := by
    have h0 := Blk.new ((w).alloc (.cells #[.int .i64 W, .int .i64 H, .slice A (W * H) ac] 27)) 27 #[.int .i64 W', .int .i64 H', .slice B (W' * H') bc]
    simp only [World.size_alloc] at h0
    exact h0
  have hAt1 := fun wx (hx : Bl w2 wx) (x y : Int) => at_any W H A ac cs x y wx ((hA.bl w2b).bl hx) hW hH
  have hAt2 := fun wx (hx : Bl w2 wx) (x y : Int) => at_any W' H' B bc bs x y wx ((hB.bl w2b).bl hx) hW' hH'
  obtain ⟨F, hF⟩ : ∃ F, F = shifted (inkF cs W H) (inkF bs W' H') W H W' H' r := ⟨_, rfl⟩
  obtain ⟨T, hT⟩ : ∃ T, T = inkA (inkF cs W H) W H + inkA (inkF bs W' H') W' H' := ⟨_, rfl⟩
  have hTl : T ≤ 32000000 := by
    have h1 := tally_ink cs W H
    have h2 := tally_ink bs W' H'
    have h3 := tally_le cs (W * H)
    have h4 := tally_le bs (W' * H')
    have h5 := Nat.mul_le_mul hW hH
    have h6 := Nat.mul_le_mul hW' hH'
    omega
  have hFi : ∀ i j, i < 2 * r + 1 → j < 2 * r + 1 → diffN (inkF cs W H) (inkF bs W' H') W H W' H' r ((j : Int) - (r : Int)) ((i : Int) - (r : Int)) + 2 * F (i * (2 * r + 1) + j) = T := fun i j hi hj => by
    rw [hF, hT]
    unfold shifted
    rw [(shift_at r i j hj).1, (shift_at r i j hj).2]
    exact diff_both (inkF_held cs W H) (inkF_held bs W' H') (by omega) (by omega) (by omega) (by omega)
  have hFm : ∀ k, k ≤ (2 * r + 1) * (2 * r + 1) → 2 * mostN F k ≤ T := fun k hk => by
    have : mostN F k ≤ T / 2 := mostN_le fun idx hidx => by
      have h1 : idx / (2 * r + 1) < 2 * r + 1 := Nat.div_lt_of_lt_mul (by omega)
      have h2 := hFi (idx / (2 * r + 1)) (idx % (2 * r + 1)) h1 (Nat.mod_lt _ (by omega))
      rw [show idx / (2 * r + 1) * (2 * r + 1) + idx % (2 * r + 1) = idx by rw [Nat.mul_comm]; exact Nat.div_add_mod _ _] at h2
      omega
    omega
  have hres : farN (inkF cs W H) (inkF bs W' H') W H W' H' r = leastI T F ((2 * r + 1) * (2 * r + 1)) := by
    unfold farN leastI
    rw [← hF, hT, if_neg (by have := Nat.mul_pos (show 0 < 2 * r + 1 by omega) (show 0 < 2 * r + 1 by omega); omega)]
    omega
  have HAt1 := Lib.hid hAt1; have HAt2 := Lib.hid hAt2; have HFi := Lib.hid hFi; have HFm := Lib.hid hFm; have HRs := Lib.hid hres
  have k1 := w21.all3
  have k2 := w22.all3
  clear hAt1 hAt2 hFi hFm hres hF hT hA hB
  go_enter Tryd.func45, Tryd.ntmps45
  go_wp2_with fail
  go_loopw [8, 7] (fun u v wr => ∃ i : Nat, i ≤ 2 * r + 1 ∧ u = .int .i64 ((i : Int) - (r : Int)) ∧ v = .int .i64 (leastI T F (i * (2 * r + 1))) ∧ Bl w2 wr) (fun u _ _ => 2 * r + 1 - (RowKit.intOf u + (r : Int)).toNat)
  case atStart => exact ⟨0, Nat.zero_le _, by simp, by simp [leastI], Bl.refl _⟩
  case round =>
    clear k1 k2
    obtain ⟨i, hi, rfl, rfl, hbr⟩ := hrel
    by_cases hlt : i < 2 * r + 1
    · have hc : (i : Int) - (r : Int) ≤ (r : Int) := by omega
      obtain ⟨dy, hdy⟩ : ∃ dy, dy = (i : Int) - (r : Int) := ⟨_, rfl⟩
      have hd1 : -4 ≤ dy ∧ dy ≤ 4 := by omega
      rw [← hdy] at hc ⊢
      have HDy := Lib.hid hdy
      clear hdy
      go_wp2_with fail
      go_loopw [9, 7] (fun u v wx => ∃ j : Nat, j ≤ 2 * r + 1 ∧ u = .int .i64 ((j : Int) - (r : Int)) ∧ v = .int .i64 (leastI T F (i * (2 * r + 1) + j)) ∧ Bl w2 wx) (fun u _ _ => 2 * r + 1 - (RowKit.intOf u + (r : Int)).toNat)
      case atStart => exact ⟨0, Nat.zero_le _, by simp, by simp, hbr⟩
      case round =>
        clear hbr
        obtain ⟨j, hj, rfl, rfl, hbr⟩ := hrel
        by_cases hjt : j < 2 * r + 1
        · have hFj := HFi.out i j hlt hjt
          have hcj : (j : Int) - (r : Int) ≤ (r : Int) := by omega
          obtain ⟨dx, hdx⟩ : ∃ dx, dx = (j : Int) - (r : Int) := ⟨_, rfl⟩
          have hd2 : -4 ≤ dx ∧ dx ≤ 4 := by omega
          rw [← hdx, ← HDy.out, diff_rows] at hFj
          rw [← hdx] at hcj ⊢
          have HDx := Lib.hid hdx
          have hidx : i * (2 * r + 1) + j < (2 * r + 1) * (2 * r + 1) := by
            have := Nat.mul_le_mul_right (2 * r + 1) (show i + 1 ≤ 2 * r + 1 by omega)
            rw [Nat.add_mul] at this
            omega
          have hm := HFm.out (i * (2 * r + 1) + j) (by omega)
          obtain ⟨idx, hix⟩ : ∃ idx, idx = i * (2 * r + 1) + j := ⟨_, rfl⟩
          have hnx : leastI T F (i * (2 * r + 1) + (j + 1)) = (T : Int) - 2 * ((max (mostN F idx) (F idx) : Nat) : Int) := by
            rw [← Nat.add_assoc, ← hix]
            unfold leastI
            rw [if_neg (by omega)]
            rfl
          rw [← hix] at hFj hm ⊢
          have HNx := Lib.hid hnx
          clear hnx hidx hix hdx
          obtain ⟨MW, hMW⟩ : ∃ M, M = max W W' := ⟨_, rfl⟩
          obtain ⟨MH, hMH⟩ : ∃ M, M = max H H' := ⟨_, rfl⟩
          rw [← hMW, ← hMH] at hFj
          have g1 : (if (W : Int) < (W' : Int) then (W' : Int) else (W : Int)) = (MW : Int) := by split <;> omega
          have g2 : (if W < W' then (W' : Int) else (W : Int)) = (MW : Int) := by split <;> omega
          have g3 : (if (W' : Int) < (W : Int) then (W : Int) else (W' : Int)) = (MW : Int) := by split <;> omega
          have g4 : (if W' < W then (W : Int) else (W' : Int)) = (MW : Int) := by split <;> omega
          have g5 : (if (H : Int) < (H' : Int) then (H' : Int) else (H : Int)) = (MH : Int) := by split <;> omega
          have g6 : (if H < H' then (H' : Int) else (H : Int)) = (MH : Int) := by split <;> omega
          have g7 : (if (H' : Int) < (H : Int) then (H : Int) else (H' : Int)) = (MH : Int) := by split <;> omega
          have g8 : (if H' < H then (H : Int) else (H' : Int)) = (MH : Int) := by split <;> omega
          have hMWl : MW ≤ 4000 := by omega
          have hMHl : MH ≤ 4000 := by omega
          obtain ⟨NX, hNX⟩ : ∃ N, N = MW + 2 * r := ⟨_, rfl⟩
          obtain ⟨NY, hNY⟩ : ∃ N, N = MH + 2 * r := ⟨_, rfl⟩
          rw [← hNX, ← hNY] at hFj
          obtain ⟨Row, hRow⟩ : ∃ Row, Row = diffRow (inkF cs W H) (inkF bs W' H') dx dy (-(r : Int)) NX := ⟨_, rfl⟩
          rw [← hRow] at hFj
          have hrl : ∀ y, Row y ≤ NX := fun y => by rw [hRow]; unfold diffRow; have := winN_le (c := 1) (fun x => b1_le (inkF cs W H x y != inkF bs W' H' (x - dx) (y - dy))) (-(r : Int)) NX; omega
          have hwl : ∀ k, k ≤ NY → winN Row (-(r : Int)) k ≤ 20000000 := fun k hk => by
            have h1 := winN_le (c := NX) hrl (-(r : Int)) k
            have h4 := Nat.mul_le_mul (show k ≤ 4008 by omega) (show NX ≤ 4008 by omega)
            omega
          have HWl := Lib.hid hwl; have HRow := Lib.hid hRow; have HNX := Lib.hid hNX; have HNY := Lib.hid hNY; have HFj := Lib.hid hFj; have Hm := Lib.hid hm
          have hNX2 : NX ≤ 4008 := by omega
          have hNY2 : NY ≤ 4008 := by omega
          clear hrl hwl hRow hNX hNY hFj hm hMW hMH
          go_wp2_with fail
          go_loopw [11, 10] (fun u v wx => ∃ k : Nat, k ≤ NY ∧ u = .int .i64 ((k : Int) - (r : Int)) ∧ v = .int .i64 (winN Row (-(r : Int)) k : Nat) ∧ Bl w2 wx) (fun u _ _ => NY - (RowKit.intOf u + (r : Int)).toNat)
          case atStart => exact ⟨0, Nat.zero_le _, by simp, rfl, hbr⟩
          case round =>
            clear hbr
            obtain ⟨k, hk, rfl, rfl, hbr⟩ := hrel
            have k1 := (w21.bl hbr).all3
            have k2 := (w22.bl hbr).all3
            have hP := HWl.out k hk
            by_cases hkt : k < NY
            · have hPs : winN Row (-(r : Int)) (k + 1) = winN Row (-(r : Int)) k + Row (-(r : Int) + (k : Int)) := winN_succ _ _ _
              have hyc : (k : Int) - (r : Int) < (MH : Int) + (r : Int) := by have := HNY.out; omega
              obtain ⟨y, hy⟩ : ∃ y, y = (k : Int) - (r : Int) := ⟨_, rfl⟩
              have hyl : -4 ≤ y ∧ y ≤ 4008 := by omega
              rw [show -(r : Int) + (k : Int) = y by omega] at hPs
              rw [← hy] at hyc ⊢
              have hPb := HWl.out (k + 1) hkt
              obtain ⟨P, hPP⟩ : ∃ P, P = winN Row (-(r : Int)) k := ⟨_, rfl⟩
              rw [← hPP] at hP hPs ⊢
              obtain ⟨G, hG⟩ : ∃ G : Int → Nat, G = fun x => b1 (inkF cs W H x y != inkF bs W' H' (x - dx) (y - dy)) := ⟨_, rfl⟩
              have hRG : Row y = winN G (-(r : Int)) NX := by rw [HRow.out, hG]; rfl
              rw [hRG] at hPs
              have hGl : ∀ k, winN G (-(r : Int)) k ≤ k := fun k => by have := winN_le (f := G) (c := 1) (fun z => by rw [hG]; exact b1_le _) (-(r : Int)) k; omega
              have HPs := Lib.hid hPs; have HG := Lib.hid hG; have HGl := Lib.hid hGl; have Hy := Lib.hid hy
              clear hPs hRG hPP hG hGl hPb hy
              go_wp2_with fail
              go_loopw [12, 10] (fun u v wx => ∃ l : Nat, l ≤ NX ∧ u = .int .i64 ((l : Int) - (r : Int)) ∧ v = .int .i64 ((P + winN G (-(r : Int)) l : Nat) : Int) ∧ Bl w2 wx) (fun u _ _ => NX - (RowKit.intOf u + (r : Int)).toNat)
              case atStart => exact ⟨0, Nat.zero_le _, by simp, rfl, hbr⟩
              case round =>
                clear hbr k1 k2
                obtain ⟨l, hl, rfl, rfl, hbr⟩ := hrel
                have k1 := (w21.bl hbr).all3
                have k2 := (w22.bl hbr).all3
                have hV := HGl.out l
                by_cases hlx : l < NX
                · have hVs : winN G (-(r : Int)) (l + 1) = winN G (-(r : Int)) l + G (-(r : Int) + (l : Int)) := winN_succ _ _ _
                  have hxc : (l : Int) - (r : Int) < (MW : Int) + (r : Int) := by have := HNX.out; omega
                  obtain ⟨x, hx⟩ : ∃ x, x = (l : Int) - (r : Int) := ⟨_, rfl⟩
                  have hxl : -4 ≤ x ∧ x ≤ 4008 := by omega
                  rw [show -(r : Int) + (l : Int) = x by omega, HG.out] at hVs
                  rw [← hx] at hxc ⊢
                  have h1 := HAt1.out
                  have h2 := HAt2.out
                  have e1 : inkF cs W H x y = atI cs W H x y := rfl
                  have e2 : inkF bs W' H' (x - dx) (y - dy) = atI bs W' H' (x - dx) (y - dy) := rfl
                  have ha := fun wx hx => h1 wx hx x y
                  have hb := fun wx hx => h2 wx hx (x - dx) (y - dy)
                  obtain ⟨va, hva⟩ : ∃ v, v = atI cs W H x y := ⟨_, rfl⟩
                  obtain ⟨vb, hvb⟩ : ∃ v, v = atI bs W' H' (x - dx) (y - dy) := ⟨_, rfl⟩
                  rw [← hva] at ha e1
                  rw [← hvb] at hb e2
                  have hVs2 : winN G (-(r : Int)) (l + 1) = winN G (-(r : Int)) l + b1 (va != vb) := by
                    rw [← HG.out] at hVs
                    rw [hVs, HG.out]
                    show _ + b1 (inkF cs W H x y != inkF bs W' H' (x - dx) (y - dy)) = _
                    rw [e1, e2]
                  obtain ⟨V, hVV⟩ : ∃ V, V = winN G (-(r : Int)) l := ⟨_, rfl⟩
                  rw [← hVV] at hV hVs2 ⊢
                  have HA1 := Lib.hid ha; have HB1' := Lib.hid hb; have HVs := Lib.hid hVs2; have Hx := Lib.hid hx
                  clear hVs hVs2 hVV hva hvb e1 e2 h1 h2 ha hb hx
                  go_upto_region 15 with fail
                  refine wp_region_flow [(true, 0), (true, 1), (true, 2), (true, 4), (true, 5), (true, 6), (true, 7), (true, 8), (true, 9), (true, 10), (false, 3), (false, 11), (true, 12)] (fun _ => false) (by kernel_rfl) (by kernel_rfl) (by kernel_rfl) (by kernel_rfl) ?_
                  iterate 1
                    apply Flow.calm2 _ _ rfl rfl
                    · intro w' hb' K' hK'
                      obtain ⟨hc', hf'⟩ := hb'.rule
                      go_simp
                      try go_ints
                      exact hK'
                    · intro K' hK'
                      simp only [Act.put, List.setIfInBounds_toArray, List.set_cons_zero, List.set_cons_succ]
                      exact hK'
                  iterate 2
                    apply Flow.mv _ rfl
                    · intro K' hK'
                      simp only [Act.put, Act.eval, List.setIfInBounds_toArray, List.set_cons_zero, List.set_cons_succ, arr_getD, List.getD_cons_zero, List.getD_cons_succ]
                      exact hK'
                  iterate 1
                    apply Flow.calm2 _ _ rfl rfl
                    · intro w' hb' K' hK'
                      obtain ⟨hc', hf'⟩ := hb'.rule
                      go_simp
                      try go_ints
                      exact hK'
                    · intro K' hK'
                      simp only [Act.put, List.setIfInBounds_toArray, List.set_cons_zero, List.set_cons_succ]
                      exact hK'
                  iterate 2
                    apply Flow.mv _ rfl
                    · intro K' hK'
                      simp only [Act.put, Act.eval, List.setIfInBounds_toArray, List.set_cons_zero, List.set_cons_succ, arr_getD, List.getD_cons_zero, List.getD_cons_succ]
                      exact hK'
                  iterate 1
                    apply Flow.calm2 _ _ rfl rfl
                    · intro w' hb' K' hK'
                      obtain ⟨hc', hf'⟩ := hb'.rule
                      go_simp
                      try go_ints
                      exact hK'
                    · intro K' hK'
                      simp only [Act.put, List.setIfInBounds_toArray, List.set_cons_zero, List.set_cons_succ]
                      exact hK'
                  iterate 2
                    apply Flow.mv _ rfl
                    · intro K' hK'
                      simp only [Act.put, Act.eval, List.setIfInBounds_toArray, List.set_cons_zero, List.set_cons_succ, arr_getD, List.getD_cons_zero, List.getD_cons_succ]
                      exact hK'
                  iterate 1
                    apply Flow.calm2 _ _ rfl rfl
                    · intro w' hb' K' hK'
                      obtain ⟨hc', hf'⟩ := hb'.rule
                      go_simp
                      try go_ints
                      exact hK'
                    · intro K' hK'
                      simp only [Act.put, List.setIfInBounds_toArray, List.set_cons_zero, List.set_cons_succ]
                      exact hK'
                  apply Flow.move rfl
                  go_wp2_with fail
                  refine (HA1.out _ hbr.drew).mono ?_
                  rintro e w5 ⟨rfl, HB1⟩
                  go_wp2_with fail
                  refine ⟨fun _ => (by first | exact HB1 | exact Bl.refl _), ?_⟩
                  apply Flow.move rfl
                  go_wp2_with fail
                  refine (HB1'.out _ (hbr.drew.trans HB1)).mono ?_
                  rintro e w6 ⟨rfl, HB2⟩
                  go_wp2_with fail
                  refine ⟨fun _ => (by first | exact HB2 | exact Bl.refl _), ?_⟩
                  iterate 1
                    apply Flow.calm2 _ _ rfl rfl
                    · intro w' hb' K' hK'
                      obtain ⟨hc', hf'⟩ := hb'.rule
                      go_simp
                      try go_ints
                      exact hK'
                    · intro K' hK'
                      simp only [Act.put, List.setIfInBounds_toArray, List.set_cons_zero, List.set_cons_succ]
                      exact hK'
                  refine Flow.done ?_
                  have hb6 := (hbr.drew.trans HB1).trans HB2
                  cases va
                  · cases vb
                    · have HN := Lib.hid (show P + winN G (-(r : Int)) (l + 1) = P + V by rw [HVs.out]; rfl)
                      go_wp2_with fail
                      exact ⟨⟨l + 1, hlx, by rw [Hx.out]; go_num, by rw [HN.out] <;> go_num, hb6⟩, by rw [Hx.out]; simp [RowKit.intOf] <;> omega⟩
                    · have HN := Lib.hid (show P + winN G (-(r : Int)) (l + 1) = P + V + 1 by rw [HVs.out]; rfl)
                      go_wp2_with fail
                      exact ⟨⟨l + 1, hlx, by rw [Hx.out]; go_num, by rw [HN.out]; go_num, hb6⟩, by rw [Hx.out]; simp [RowKit.intOf] <;> omega⟩
                  · cases vb
                    · have HN := Lib.hid (show P + winN G (-(r : Int)) (l + 1) = P + V + 1 by rw [HVs.out]; rfl)
                      go_wp2_with fail
                      exact ⟨⟨l + 1, hlx, by rw [Hx.out]; go_num, by rw [HN.out]; go_num, hb6⟩, by rw [Hx.out]; simp [RowKit.intOf] <;> omega⟩
                    · have HN := Lib.hid (show P + winN G (-(r : Int)) (l + 1) = P + V by rw [HVs.out]; rfl)
                      go_wp2_with fail
                      exact ⟨⟨l + 1, hlx, by rw [Hx.out]; go_num, by rw [HN.out] <;> go_num, hb6⟩, by rw [Hx.out]; simp [RowKit.intOf] <;> omega⟩
                · obtain rfl : l = NX := by omega
                  have hxc : ¬ ((l : Int) - (r : Int) < (MW : Int) + (r : Int)) := by have := HNX.out; omega
                  have HN := Lib.hid (show winN Row (-(r : Int)) (k + 1) = P + winN G (-(r : Int)) l from HPs.out)
                  go_wp2_with fail
                  exact ⟨⟨k + 1, hkt, by rw [Hy.out]; go_num, by rw [HN.out], hbr⟩, by rw [Hy.out]; simp [RowKit.intOf] <;> omega⟩
            · obtain rfl : k = NY := by omega
              have hyc : ¬ ((k : Int) - (r : Int) < (MH : Int) + (r : Int)) := by have := HNY.out; omega
              have hFj := HFj.out
              obtain ⟨V, hVV⟩ : ∃ V, V = winN Row (-(r : Int)) k := ⟨_, rfl⟩
              rw [← hVV] at hFj hP ⊢
              have hst := least_step (l := leastI T F idx) (m := mostN F idx) hFj (by
                unfold leastI
                split
                · rename_i h0; exact .inl ⟨rfl, by rw [h0]; rfl⟩
                · exact .inr rfl) Hm.out
              rw [← HNx.out] at hst
              have hlb : leastI T F idx ≤ 32000000 ∧ -1 ≤ leastI T F idx := by
                have := Hm.out
                unfold leastI
                split <;> omega
              obtain ⟨Lv, hLv⟩ : ∃ x, x = leastI T F idx := ⟨_, rfl⟩
              rw [← hLv] at hst hlb ⊢
              obtain ⟨Ln, hLn⟩ : ∃ x, x = leastI T F (i * (2 * r + 1) + (j + 1)) := ⟨_, rfl⟩
              rw [← hLn] at hst
              have HLn := Lib.hid hLn
              clear hLn hLv hFj hVV
              by_cases c1 : Lv < 0
              · rw [if_pos (.inl c1)] at hst
                have HSt := Lib.hid hst
                clear hst
                go_wp2_with fail
                exact ⟨⟨j + 1, hjt, by rw [HDx.out]; go_num, by rw [← HLn.out, ← HSt.out], hbr⟩, by rw [HDx.out]; simp [RowKit.intOf] <;> omega⟩
              · by_cases c2 : (V : Int) < Lv
                · rw [if_pos (.inr c2)] at hst
                  have HSt := Lib.hid hst
                  clear hst
                  go_wp2_with fail
                  exact ⟨⟨j + 1, hjt, by rw [HDx.out]; go_num, by rw [← HLn.out, ← HSt.out], hbr⟩, by rw [HDx.out]; simp [RowKit.intOf] <;> omega⟩
                · rw [if_neg (by omega)] at hst
                  have HSt := Lib.hid hst
                  clear hst
                  go_wp2_with fail
                  exact ⟨⟨j + 1, hjt, by rw [HDx.out]; go_num, by rw [← HLn.out, ← HSt.out], hbr⟩, by rw [HDx.out]; simp [RowKit.intOf] <;> omega⟩
        · obtain rfl : j = 2 * r + 1 := by omega
          have hcj : ¬ (((2 * r + 1 : Nat) : Int) - (r : Int) ≤ (r : Int)) := by omega
          have he : i * (2 * r + 1) + (2 * r + 1) = (i + 1) * (2 * r + 1) := by rw [Nat.add_mul, Nat.one_mul]
          rw [he]
          go_wp2_with fail
          exact ⟨⟨i + 1, hlt, by rw [HDy.out]; go_num, rfl, hbr⟩, by rw [HDy.out]; simp [RowKit.intOf] <;> omega⟩
    · obtain rfl : i = 2 * r + 1 := by omega
      have hc : ¬ (((2 * r + 1 : Nat) : Int) - (r : Int) ≤ (r : Int)) := by omega
      go_wp2_with fail
      go_ret
      exact ⟨ret_int HRs.out.symm, w2b.trans hbr⟩

end Go.Proofs.YtjelhdpcaileiaaDoor


/-! The plain law of the pieces of a line: columns with ink that lie side by side. -/
namespace Go.Proofs.YtjelhdpcaileiaaDoor
open Go.RowKit

/-- A piece: its first column, and how many. -/
abbrev Piece := Nat × Nat
def wider : List Piece → List Piece
  | [] => []
  | [p] => [(p.1, p.2 + 1)]
  | p :: q :: l => p :: wider (q :: l)
theorem wider_append (l : List Piece) (p : Piece) : wider (l ++ [p]) = l ++ [(p.1, p.2 + 1)] := by
  induction l with
  | nil => rfl
  | cons x l ih =>
    cases l with
    | nil => rfl
    | cons y l => show x :: wider (y :: l ++ [p]) = _; rw [ih]; rfl
/-- Is the column ahead inked? -/
def ahead (f : Nat → Nat) : Nat → Bool
  | 0 => false
  | k + 1 => decide (0 < f k)
def piecesTo (f : Nat → Nat) : Nat → List Piece
  | 0 => []
  | k + 1 => if f k = 0 then piecesTo f k else if ahead f k = true then wider (piecesTo f k) else piecesTo f k ++ [(k, 1)]
/-- Where the last piece ends. -/
theorem pieces_last (f : Nat → Nat) : ∀ k, (ahead f k = true → ∃ l p, piecesTo f k = l ++ [p] ∧ p.1 + p.2 = k) ∧ (ahead f k = false → piecesTo f k = [] ∨ ∃ l p, piecesTo f k = l ++ [p] ∧ p.1 + p.2 < k)
  | 0 => ⟨(fun h => by cases h), fun _ => Or.inl rfl⟩
  | k + 1 => by
    have ih := pieces_last f k
    constructor
    · intro h
      have hf : 0 < f k := of_decide_eq_true h
      show ∃ l p, (if f k = 0 then piecesTo f k else if ahead f k = true then wider (piecesTo f k) else piecesTo f k ++ [(k, 1)]) = l ++ [p] ∧ p.1 + p.2 = k + 1
      rw [if_neg (by omega)]
      cases ha : ahead f k
      · rw [if_neg (by simp)]
        exact ⟨_, _, rfl, rfl⟩
      · obtain ⟨l, p, e, hp⟩ := ih.1 ha
        rw [if_pos rfl, e, wider_append]
        exact ⟨l, _, rfl, by show p.1 + (p.2 + 1) = k + 1; omega⟩
    · intro h
      have hf : f k = 0 := by have : ¬ 0 < f k := of_decide_eq_false h; omega
      show (if f k = 0 then piecesTo f k else _) = [] ∨ ∃ l p, (if f k = 0 then piecesTo f k else _) = l ++ [p] ∧ p.1 + p.2 < k + 1
      rw [if_pos hf]
      cases ha : ahead f k
      · rcases ih.2 ha with h2 | ⟨l, p, e, hp⟩
        · exact .inl h2
        · exact .inr ⟨l, p, e, by omega⟩
      · obtain ⟨l, p, e, hp⟩ := ih.1 ha
        exact .inr ⟨l, p, e, by omega⟩
theorem wider_length : ∀ l : List Piece, (wider l).length = l.length
  | [] => rfl
  | [_] => rfl
  | _ :: q :: l => by show (wider (q :: l)).length + 1 = _; rw [wider_length (q :: l)]; rfl
theorem pieces_len (f : Nat → Nat) : ∀ k, (piecesTo f k).length ≤ k
  | 0 => Nat.le_refl _
  | k + 1 => by
    have ih := pieces_len f k
    show (if f k = 0 then piecesTo f k else if ahead f k = true then wider (piecesTo f k) else piecesTo f k ++ [(k, 1)]).length ≤ k + 1
    split
    · omega
    · split
      · rw [wider_length]; omega
      · rw [List.length_append]; simp; exact ih
/-- A piece lies within what was looked at, and is not empty. -/
theorem pieces_in (f : Nat → Nat) : ∀ k, ∀ p ∈ piecesTo f k, 1 ≤ p.2 ∧ p.1 + p.2 ≤ k
  | 0 => fun p hp => by cases hp
  | k + 1 => by
    have ih := pieces_in f k
    intro p hp
    change p ∈ (if f k = 0 then piecesTo f k else if ahead f k = true then wider (piecesTo f k) else piecesTo f k ++ [(k, 1)]) at hp
    split at hp
    · have := ih p hp; omega
    · split at hp
      · rename_i ha
        obtain ⟨l, q, e, hq⟩ := (pieces_last f k).1 ha
        rw [e, wider_append] at hp
        have hq2 := ih q (by rw [e]; simp)
        rcases List.mem_append.1 hp with h | h
        · have := ih p (by rw [e]; exact List.mem_append_left _ h); omega
        · rw [List.mem_singleton.1 h]
          show 1 ≤ q.2 + 1 ∧ q.1 + (q.2 + 1) ≤ k + 1
          omega
      · rcases List.mem_append.1 hp with h | h
        · have := ih p h; omega
        · rw [List.mem_singleton.1 h]
          show 1 ≤ 1 ∧ k + 1 ≤ k + 1
          omega
/-- The boxes of pieces, flat. -/
def boxCells (H : Nat) (l : List Piece) : List Value := l.flatMap fun p => [.int .i64 p.1, .int .i64 0, .int .i64 p.2, .int .i64 H]
theorem boxCells_append (H : Nat) (a b : List Piece) : boxCells H (a ++ b) = boxCells H a ++ boxCells H b := by unfold boxCells; rw [List.flatMap_append]
theorem boxCells_len (H : Nat) (l : List Piece) : (boxCells H l).length = l.length * 4 := by
  unfold boxCells
  induction l with
  | nil => rfl
  | cons x l ih =>
    rw [List.flatMap_cons, List.length_append, ih, List.length_cons]
    show 4 + l.length * 4 = (l.length + 1) * 4
    omega
theorem boxCells_at {H : Nat} {l : List Piece} {i : Nat} {p : Piece} (h : l[i]? = some p) (j : Nat) (hj : j < 4) : (boxCells H l)[i * 4 + j]? = ([.int .i64 p.1, .int .i64 0, .int .i64 p.2, .int .i64 H] : List Value)[j]? := by
  induction l generalizing i with
  | nil => simp at h
  | cons x l ih =>
    unfold boxCells
    rw [List.flatMap_cons]
    rcases i with _ | i
    · simp only [List.getElem?_cons_zero, Option.some.injEq] at h
      subst h
      rw [List.getElem?_append_left (by show 0 * 4 + j < 4; omega)]
      simp
    · rw [List.getElem?_append_right (by show 4 ≤ (i + 1) * 4 + j; omega)]
      have e : (i + 1) * 4 + j - 4 = i * 4 + j := by omega
      show (boxCells H l)[(i + 1) * 4 + j - 4]? = _
      rw [e]
      exact ih (by simpa using h)
/-- The last box made wider: one cell is set. -/
theorem boxCells_wider (H : Nat) (l : List Piece) (p : Piece) : (boxCells H (l ++ [p])).set (l.length * 4 + 2) (.int .i64 ((p.2 : Int) + 1)) = boxCells H (wider (l ++ [p])) := by
  rw [wider_append, boxCells_append, boxCells_append]
  rw [List.set_append_right _ _ (by rw [boxCells_len]; omega), boxCells_len]
  rw [show l.length * 4 + 2 - l.length * 4 = 2 by omega]
  rfl

end Go.Proofs.YtjelhdpcaileiaaDoor


/-! The plain law of what is seen of a piece: the nearest letter, and the next. -/
namespace Go.Proofs.YtjelhdpcaileiaaDoor
open Go.RowKit

/-- How far a letter is from a shape, at a reach of 1. -/
def farL (cs : List Bool) (W H : Nat) (l : Ltr) : Int := farN (inkF cs W H) (inkF l.bs l.W.toNat l.H.toNat) W H l.W.toNat l.H.toNat 1
/-- The nearest letter's text, how far it is, and the next. -/
abbrev Best := List UInt8 × Int × Int
def bestStep (cs : List Bool) (W H : Nat) (s : Best) (l : Ltr) : Best :=
  if l.W - (W : Int) < -2 ∨ 2 < l.W - (W : Int) then s
  else if s.2.1 < 0 ∨ farL cs W H l < s.2.1 then (l.text, farL cs W H l, s.2.1)
  else if s.2.2 < 0 ∨ farL cs W H l < s.2.2 then (s.1, s.2.1, farL cs W H l)
  else s
def bestOf (cs : List Bool) (W H : Nat) (t0 : List UInt8) (ls : List Ltr) : Best := ls.foldl (bestStep cs W H) (t0, -1, -1)
theorem bestOf_succ {cs : List Bool} {W H : Nat} {t0 : List UInt8} {ls : List Ltr} {i : Nat} {l : Ltr} (h : ls[i]? = some l) : bestOf cs W H t0 (ls.take (i + 1)) = bestStep cs W H (bestOf cs W H t0 (ls.take i)) l := by
  unfold bestOf
  rw [List.take_add_one, h, List.foldl_append]
  rfl
theorem far_range {W H W' H' r : Nat} {cs bs : List Bool} (hW : W ≤ 4000) (hH : H ≤ 4000) (hW' : W' ≤ 4000) (hH' : H' ≤ 4000) : 0 ≤ farN (inkF cs W H) (inkF bs W' H') W H W' H' r ∧ farN (inkF cs W H) (inkF bs W' H') W H W' H' r ≤ 32000000 := by
  have h1 := tally_ink cs W H
  have h2 := tally_ink bs W' H'
  have h3 := tally_le cs (W * H)
  have h4 := tally_le bs (W' * H')
  have h5 := Nat.mul_le_mul hW hH
  have h6 := Nat.mul_le_mul hW' hH'
  have hFm : mostN (shifted (inkF cs W H) (inkF bs W' H') W H W' H' r) ((2 * r + 1) * (2 * r + 1)) ≤ (inkA (inkF cs W H) W H + inkA (inkF bs W' H') W' H') / 2 := mostN_le fun idx hidx => by
    have e1 : idx / (2 * r + 1) < 2 * r + 1 := Nat.div_lt_of_lt_mul (by omega)
    have e2 : idx % (2 * r + 1) < 2 * r + 1 := Nat.mod_lt _ (by omega)
    have h7 : diffN (inkF cs W H) (inkF bs W' H') W H W' H' r (shiftX r idx) (shiftY r idx) + 2 * bothN (inkF cs W H) (inkF bs W' H') W H W' H' (shiftX r idx) (shiftY r idx) = inkA (inkF cs W H) W H + inkA (inkF bs W' H') W' H' := by
      unfold shiftX shiftY
      obtain ⟨a, ha⟩ : ∃ a, a = idx % (2 * r + 1) := ⟨_, rfl⟩
      obtain ⟨b, hb⟩ : ∃ b, b = idx / (2 * r + 1) := ⟨_, rfl⟩
      rw [← ha, ← hb]
      rw [← ha] at e2
      rw [← hb] at e1
      exact diff_both (inkF_held cs W H) (inkF_held bs W' H') (by omega) (by omega) (by omega) (by omega)
    unfold shifted
    omega
  unfold farN
  omega
/-- What holds of the best, whatever letters came. -/
theorem best_inv {cs : List Bool} {W H : Nat} (t0 : List UInt8) (hW : W ≤ 4000) (hH : H ≤ 4000) {ls : List Ltr} (hl : ∀ l ∈ ls, l.W ≤ 64 ∧ l.H ≤ 4000) : (bestOf cs W H t0 ls).2.1 = -1 ∧ (bestOf cs W H t0 ls).2.2 = -1 ∨ (0 ≤ (bestOf cs W H t0 ls).2.1 ∧ (bestOf cs W H t0 ls).2.1 ≤ 32000000 ∧ -1 ≤ (bestOf cs W H t0 ls).2.2 ∧ (bestOf cs W H t0 ls).2.2 ≤ 32000000) := by
  have key : ∀ (ls : List Ltr) (s : Best), (∀ l ∈ ls, l.W ≤ 64 ∧ l.H ≤ 4000) → (s.2.1 = -1 ∧ s.2.2 = -1 ∨ (0 ≤ s.2.1 ∧ s.2.1 ≤ 32000000 ∧ -1 ≤ s.2.2 ∧ s.2.2 ≤ 32000000)) →
      ((ls.foldl (bestStep cs W H) s).2.1 = -1 ∧ (ls.foldl (bestStep cs W H) s).2.2 = -1 ∨ (0 ≤ (ls.foldl (bestStep cs W H) s).2.1 ∧ (ls.foldl (bestStep cs W H) s).2.1 ≤ 32000000 ∧ -1 ≤ (ls.foldl (bestStep cs W H) s).2.2 ∧ (ls.foldl (bestStep cs W H) s).2.2 ≤ 32000000)) := by
    intro ls
    induction ls with
    | nil => intro s _ h; exact h
    | cons l ls ih =>
      intro s hl h
      refine ih (bestStep cs W H s l) (fun x hx => hl x (List.mem_cons_of_mem _ hx)) ?_
      have hll := hl l (List.mem_cons_self ..)
      have hr : 0 ≤ farL cs W H l ∧ farL cs W H l ≤ 32000000 := far_range hW hH (by omega) (by omega)
      unfold bestStep
      split
      · exact h
      · split
        · right
          show 0 ≤ farL cs W H l ∧ farL cs W H l ≤ 32000000 ∧ -1 ≤ s.2.1 ∧ s.2.1 ≤ 32000000
          omega
        · split
          · right
            show 0 ≤ s.2.1 ∧ s.2.1 ≤ 32000000 ∧ -1 ≤ farL cs W H l ∧ farL cs W H l ≤ 32000000
            omega
          · exact h
  exact key ls _ hl (.inl ⟨rfl, rfl⟩)
/-- The text that one begins with counts only where no letter came near. -/
theorem best_text {cs : List Bool} {W H : Nat} (t0 t1 : List UInt8) (ls : List Ltr) (_hW : W ≤ 4000) (_hH : H ≤ 4000) (hl : ∀ l ∈ ls, l.W ≤ 64 ∧ l.H ≤ 4000) : (bestOf cs W H t0 ls).2 = (bestOf cs W H t1 ls).2 ∧ (0 ≤ (bestOf cs W H t0 ls).2.1 → (bestOf cs W H t0 ls).1 = (bestOf cs W H t1 ls).1) := by
  have key : ∀ (ls : List Ltr) (s u : Best), (∀ l ∈ ls, l.W ≤ 64 ∧ l.H ≤ 4000) → s.2 = u.2 → (0 ≤ s.2.1 → s.1 = u.1) → (ls.foldl (bestStep cs W H) s).2 = (ls.foldl (bestStep cs W H) u).2 ∧ (0 ≤ (ls.foldl (bestStep cs W H) s).2.1 → (ls.foldl (bestStep cs W H) s).1 = (ls.foldl (bestStep cs W H) u).1) := by
    intro ls
    induction ls with
    | nil => intro s u _ h1 h2; exact ⟨h1, h2⟩
    | cons l ls ih =>
      intro s u hl h1 h2
      have hll := hl l (List.mem_cons_self ..)
      refine ih _ _ (fun x hx => hl x (List.mem_cons_of_mem _ hx)) ?_ ?_
      · unfold bestStep
        rw [h1]
        split
        · exact h1
        · split
          · rfl
          · split <;> first | rfl | exact h1
      · unfold bestStep
        rw [h1]
        split
        · intro h; first | exact h2 h | exact h2 (by rw [h1]; exact h)
        · split
          · intro _; rfl
          · rename_i hno
            split
            · intro h
              first | exact h2 h | exact h2 (by rw [h1]; exact h)
            · intro h
              first | exact h2 h | exact h2 (by rw [h1]; exact h)
  exact key ls _ _ hl rfl (fun h => absurd h (show ¬ (0 : Int) ≤ -1 by decide))
/-- What is seen of a piece. -/
def farOff (b : Best) (most ht w : Int) : Bool := decide (b.2.1 < 0 ∨ most * ht * w < b.2.1 * 1000)
def seenCells (b : Best) (X W H : Nat) (most ht : Int) : List Value :=
  if farOff b most ht W = true then [.string ⟨#[63]⟩, .int .i64 X, .int .i64 0, .int .i64 W, .int .i64 H, .int .i64 (-1), .int .i64 (-1)]
  else [.string ⟨b.1.toArray⟩, .int .i64 X, .int .i64 0, .int .i64 W, .int .i64 H, .int .i64 b.2.1, .int .i64 b.2.2]
theorem seen_text {cs : List Bool} {bW bH : Nat} (t0 t1 : List UInt8) (ls : List Ltr) (hW : bW ≤ 4000) (hH : bH ≤ 4000) (hl : ∀ l ∈ ls, l.W ≤ 64 ∧ l.H ≤ 4000) (X W H : Nat) (most ht : Int) : seenCells (bestOf cs bW bH t0 ls) X W H most ht = seenCells (bestOf cs bW bH t1 ls) X W H most ht := by
  obtain ⟨h1, h2⟩ := best_text (cs := cs) t0 t1 ls hW hH hl
  have hf : farOff (bestOf cs bW bH t0 ls) most ht W = farOff (bestOf cs bW bH t1 ls) most ht W := by unfold farOff; rw [h1]
  unfold seenCells
  rw [hf]
  split
  · rfl
  · rename_i h
    have h0 : 0 ≤ (bestOf cs bW bH t0 ls).2.1 := by
      rw [← hf] at h
      unfold farOff at h
      simp only [decide_eq_true_eq, not_or] at h
      omega
    rw [h2 h0, h1]

end Go.Proofs.YtjelhdpcaileiaaDoor


/-! Rows of texts in memory. -/
namespace Go.Proofs.YtjelhdpcaileiaaDoor
open Go.RowKit

theorem info_str : (Tryd.prog.info? 9).map (fun i => (i.zero, i.size, i.bytes)) = some (some (.string ByteArray.empty), 1, 16) := by kernel_rfl
def strOf (l : List UInt8) : Value := .string ⟨l.toArray⟩
def strCells' (ts : List (List UInt8)) : List Value := ts.map strOf
theorem str_at {w : World} {A : Option Addr} {ts : List (List UInt8)} {i : Nat} {x : List UInt8} (h : Reads w 1 A ts.length (strCells' ts)) (hi : ts[i]? = some x) : ∃ ad, A = some ad ∧ w.cell? (ad.add i) = some (.string ⟨x.toArray⟩) := by
  have hlt := (List.getElem?_eq_some_iff.1 hi).1
  obtain ⟨ad, u, e, hu, hc⟩ := h.at_ hlt
  unfold strCells' at hu
  rw [List.getElem?_map, hi] at hu
  have hu' : strOf x = u := Option.some.inj hu
  subst hu'
  exact ⟨ad, e, hc⟩

end Go.Proofs.YtjelhdpcaileiaaDoor
