/- A region whose order is open, walked in one order: reads and reckonings first, what makes memory one behind the other. No condition. -/
import Derived.Test.YtecfjdladcmhjaaDoorBase
namespace Go.Proofs.YtecfjdladcmhjaaDoor
open Go.RowKit

section
variable {P : Program} {ops : Array Oper} {Q : Exit → Act → World → Prop} {md : Region.Mode} {cl : Nat → Bool}

def wpAnyT (P : Program) (md : Region.Mode) (ops : Array Oper) (Q : Exit → Act → World → Prop) (cl : Nat → Bool) : Nat → Array Bool → Act → World → Prop
  | 0, listed, a, w => Region.ready md ops listed = [] ∧ Q .normal a w
  | fuel + 1, listed, a, w =>
    (Region.ready md ops listed = [] → Q .normal a w) ∧
    ∀ i ∈ Region.ready md ops listed, wpOp P ops Q i (fun a' w' => (cl i = false → Bl w w') ∧ wpAnyT P md ops Q cl fuel (listed.setIfInBounds i true) a' w') a w

theorem wpAny_of_T : ∀ (fuel : Nat) (listed : Array Bool) (a : Act) (w : World), wpAnyT P md ops Q cl fuel listed a w → wpAny P md ops Q fuel listed a w
  | 0, _, _, _, h => h
  | fuel + 1, _, _, _, h => ⟨h.1, fun i hi => wpOp_mono (fun a' w' h' => wpAny_of_T fuel _ a' w' h'.2) (h.2 i hi)⟩

theorem yieldsIf_bl {o : Oper} {v : Value} {a : Act} {w w' : World} (h : YieldsIf P ops (Bl w) o v a) (hb : Bl w w') : YieldsIf P ops (Bl w') o v a :=
  h.imp (fun ⟨h1, h2⟩ => ⟨h1, fun w'' hb' => h2 w'' (hb.trans hb')⟩) id

/-! ### who must have come up before -/
def predMask (md : Region.Mode) (ops : Array Oper) (k : Nat) : Nat :=
  match ops[k]? with
  | none => 0
  | some o => o.after.toList.foldl (fun m e => if Region.binds md e then m ||| 2 ^ e.on else m) 0
def upMask (md : Region.Mode) (ops : Array Oper) : Nat → Nat → Nat
  | 0, m => m
  | k + 1, m => upMask md ops k (if m.testBit k then m ||| predMask md ops k else m)

theorem predMask_aux (md : Region.Mode) : ∀ (l : List Edge) (m i : Nat), (l.foldl (fun m e => if Region.binds md e then m ||| 2 ^ e.on else m) m).testBit i = true →
    m.testBit i = true ∨ ∃ e ∈ l, Region.binds md e = true ∧ e.on = i
  | [], m, i, h => .inl h
  | e :: l, m, i, h => by
    rcases predMask_aux md l _ i h with h' | ⟨e', he', hb⟩
    · dsimp only at h'
      by_cases hb : Region.binds md e = true
      · rw [if_pos hb, Nat.testBit_or, Bool.or_eq_true] at h'
        rcases h' with h' | h'
        · exact .inl h'
        · rw [Nat.testBit_two_pow] at h'
          exact .inr ⟨e, by simp, hb, by simpa using h'⟩
      · rw [if_neg hb] at h'
        exact .inl h'
    · exact .inr ⟨e', by simp [he'], hb⟩

theorem upMask_spec {D : Nat → Prop} (hD : ∀ k o, ops[k]? = some o → D k → ∀ e ∈ o.after, Region.binds md e = true → D e.on) : ∀ (k m : Nat), (∀ i, m.testBit i = true → D i) → ∀ i, (upMask md ops k m).testBit i = true → D i
  | 0, m, h, i, hi => h i hi
  | k + 1, m, h, i, hi => by
    refine upMask_spec hD k _ ?_ i hi
    intro i' hi'
    split at hi'
    · rename_i hk
      rw [Nat.testBit_or, Bool.or_eq_true] at hi'
      rcases hi' with hi' | hi'
      · exact h i' hi'
      · unfold predMask at hi'
        cases ho : ops[k]? with
        | none => simp [ho] at hi'
        | some o =>
          simp only [ho] at hi'
          rcases predMask_aux md _ _ _ hi' with h0 | ⟨e, he, hb, rfl⟩
          · simp at h0
          · exact hD k o ho (h k hk) e (by simpa using he) hb
    · exact h i' hi'

theorem predMask_spec {D : Nat → Prop} {j : Nat} {oj : Oper} (hj : ops[j]? = some oj) (h : ∀ e ∈ oj.after, Region.binds md e = true → D e.on) : ∀ i, (predMask md ops j).testBit i = true → D i := by
  intro i hi
  unfold predMask at hi
  simp only [hj] at hi
  rcases predMask_aux md _ _ _ hi with h0 | ⟨e, he, hb, rfl⟩
  · simp at h0
  · exact h e (by simpa using he) hb

/-- Number i comes up before number j in every order. -/
def precedes (md : Region.Mode) (ops : Array Oper) (i j : Nat) : Bool := (upMask md ops ops.size (predMask md ops j)).testBit i

def DownClosed (md : Region.Mode) (ops : Array Oper) (listed : Array Bool) : Prop :=
  ∀ k o, ops[k]? = some o → listed.getD k true = true → ∀ e ∈ o.after, Region.binds md e = true → listed.getD e.on false = true

theorem precedes_spec {listed : Array Bool} (hdc : DownClosed md ops listed) (hsz : listed.size = ops.size) {i j : Nat} (hj : j ∈ Region.ready md ops listed) (hp : precedes md ops i j = true) : listed.getD i false = true := by
  obtain ⟨_, oj, hoj, hall⟩ := mem_ready.1 hj
  refine upMask_spec (D := fun k => listed.getD k false = true) (ops := ops) (md := md) ?_ _ _ (predMask_spec hoj (fun e he hb => hall e he hb)) i hp
  intro k o ho hk e he hb
  refine hdc k o ho ?_ e he hb
  have hlt := (Array.getElem?_eq_some_iff.1 ho).1
  simp [show k < listed.size by omega] at hk ⊢
  exact hk

theorem DownClosed.set {listed : Array Bool} (h : DownClosed md ops listed) {j : Nat} (hj : j ∈ Region.ready md ops listed) : DownClosed md ops (listed.setIfInBounds j true) := by
  obtain ⟨_, oj, hoj, hall⟩ := mem_ready.1 hj
  have up : ∀ k, listed.getD k false = true → (listed.setIfInBounds j true).getD k false = true := by
    intro k hk
    by_cases e : j = k
    · subst e
      rcases Nat.lt_or_ge j listed.size with hl | hl
      · simp [hl]
      · simp [Array.getElem?_eq_none hl] at hk
    · rw [getD_set_ne false e]; exact hk
  intro k o ho hk e he hb
  by_cases ek : j = k
  · subst ek
    rw [ho] at hoj
    obtain rfl := Option.some.inj hoj
    exact up _ (hall e he hb)
  · rw [getD_set_ne true ek] at hk
    exact up _ (h k o ho hk e he hb)

theorem wpAnyT_first {i : Nat} {oi : Oper} {v : Value} (hi : ops[i]? = some oi) (hsel : ∀ (j : Nat) (o : Oper) cs b, ops[j]? = some o → o.op ≠ .select cs b)
    (hQ : ∀ c a w, Q (.panic c) (a.put oi.dst v) w → Q (.panic c) a w) :
    ∀ (fuel : Nat) (listed : Array Bool) (a : Act) (w : World), listed.size = ops.size → DownClosed md ops listed →
      (∀ j oj, ops[j]? = some oj → j ≠ i → listed.getD j true = false → cl j = true → precedes md ops i j = true) →
      (∀ j oj, ops[j]? = some oj → j ≠ i → listed.getD j true = false → (∀ e ∈ oj.after, Region.binds md e = true → e.on ≠ i) → oi.apart ops oj = true) →
      i ∈ Region.ready md ops listed → YieldsIf P ops (Bl w) oi v a →
      wpAnyT P md ops Q cl fuel (listed.setIfInBounds i true) (a.put oi.dst v) w → wpAnyT P md ops Q cl (fuel + 1) listed a w := by
  intro fuel
  induction fuel with
  | zero =>
    intro listed a w _ _ _ _ hr hy H
    refine ⟨fun h => (by rw [h] at hr; cases hr), fun j hj => ?_⟩
    by_cases hji : j = i
    · subst hji; exact hy.wpOp hi (Bl.refl w) ⟨fun _ => Bl.refl w, H⟩
    · have := ready_mono hj hji
      rw [H.1] at this
      cases this
  | succ fuel ih =>
    intro listed a w hsz hdc hclo hfree hr hy H
    refine ⟨fun h => (by rw [h] at hr; cases hr), fun j hj => ?_⟩
    by_cases hji : j = i
    · subst hji; exact hy.wpOp hi (Bl.refl w) ⟨fun _ => Bl.refl w, H⟩
    · have h1 := H.2 j (ready_mono hj hji)
      obtain ⟨hjun, oj, hoj, hall⟩ := mem_ready.1 hj
      have hun0 : listed.getD i false = false := by
        have h0 := (mem_ready.1 hr).1
        rcases Nat.lt_or_ge i listed.size with h' | h'
        · simp [h'] at h0 ⊢; exact h0
        · simp [Array.getElem?_eq_none h']
      have hnot : ∀ e ∈ oj.after, Region.binds md e = true → e.on ≠ i := fun e he hb heq => by
        have h1 := hall e he hb
        rw [heq, hun0] at h1
        cases h1
      have hcj : cl j = false := by
        cases hc : cl j with
        | false => rfl
        | true =>
          have := precedes_spec hdc hsz hj (hclo j oj hoj hji hjun hc)
          rw [hun0] at this
          cases this
      have h2 := wpOp_putIf hoj (hfree j oj hoj hji hjun hnot) (fun cs b => hsel i oi cs b hi) (fun cs b => hsel j oj cs b hoj) hQ hy h1
      have hun' : ∀ k, (listed.setIfInBounds j true).getD k true = false → listed.getD k true = false := fun k hun => by
        by_cases hjk : j = k
        · subst hjk; exact hjun
        · rw [getD_set_ne true hjk] at hun; exact hun
      refine wpOp_mono (fun a' w' h3 => ⟨h3.2.1, ih (listed.setIfInBounds j true) a' w' (by simpa using hsz) (hdc.set hj) (fun k ok hk hki hun hc => hclo k ok hk hki (hun' k hun) hc)
        (fun k ok hk hki hun hno => hfree k ok hk hki (hun' k hun) hno) (ready_mono hr (Ne.symm hji)) (yieldsIf_bl h3.1 (h3.2.1 hcj)) ?_⟩) h2
      rw [Array.setIfInBounds_comm _ _ hji]
      exact h3.2.2

/-- In one order: 'true': what yields in every world that grows out of the one at hand; 'false': whatever else. -/
def Flow (P : Program) (ops : Array Oper) (Q : Exit → Act → World → Prop) (cl : Nat → Bool) : List (Bool × Nat) → Act → World → Prop
  | [], a, w => Q .normal a w
  | (true, i) :: σ, a, w => ∃ o v, ops[i]? = some o ∧ YieldsIf P ops (Bl w) o v a ∧ Flow P ops Q cl σ (a.put o.dst v) w
  | (false, i) :: σ, a, w => wpOp P ops Q i (fun a' w' => (cl i = false → Bl w w') ∧ Flow P ops Q cl σ a' w') a w

def flowOk (md : Region.Mode) (ops : Array Oper) (cl : Nat → Bool) : List (Bool × Nat) → Array Bool → Bool
  | [], listed => (Region.ready md ops listed).isEmpty
  | (true, i) :: σ, listed => (Region.ready md ops listed).contains i && Region.free md ops listed i &&
      ((List.range ops.size).all fun j => j == i || listed.getD j true || !cl j || precedes md ops i j) && flowOk md ops cl σ (listed.setIfInBounds i true)
  | (false, i) :: σ, listed => Region.ready md ops listed == [i] && flowOk md ops cl σ (listed.setIfInBounds i true)

theorem flow_sound (hs : Region.noSelect ops = true) (hQ : ∀ c a d v w, Q (.panic c) (Act.put a d v) w → Q (.panic c) a w) :
    ∀ (σ : List (Bool × Nat)) (fuel : Nat) (listed : Array Bool) (a : Act) (w : World), listed.size = ops.size → DownClosed md ops listed → σ.length ≤ fuel → flowOk md ops cl σ listed = true →
      Flow P ops Q cl σ a w → wpAnyT P md ops Q cl fuel listed a w := by
  intro σ
  induction σ with
  | nil =>
    intro fuel listed a w _ _ _ hok h
    have hr : Region.ready md ops listed = [] := by simpa [flowOk] using hok
    cases fuel with
    | zero => exact ⟨hr, h⟩
    | succ fuel => exact ⟨fun _ => h, fun i hi => by rw [hr] at hi; cases hi⟩
  | cons s σ ih =>
    obtain ⟨b, i⟩ := s
    intro fuel listed a w hsz hdc hf hok h
    cases fuel with
    | zero => simp at hf
    | succ fuel =>
      have hf' : σ.length ≤ fuel := by simpa using hf
      cases b with
      | true =>
        simp only [flowOk, Bool.and_eq_true] at hok
        obtain ⟨⟨⟨h1, h2⟩, h3⟩, h4⟩ := hok
        obtain ⟨o, v, ho, hy, hfl⟩ := h
        have hir : i ∈ Region.ready md ops listed := by simpa using h1
        refine wpAnyT_first ho (Region.noSelect_spec hs) (fun c a w => hQ c a o.dst v w) fuel listed a w hsz hdc ?_ (Region.free_spec ho h2) hir hy (ih fuel _ _ _ (by simpa using hsz) (hdc.set hir) hf' h4 hfl)
        intro j oj hj hji hun hc
        simp only [List.all_eq_true, List.mem_range] at h3
        have h5 := h3 j (Array.getElem?_eq_some_iff.1 hj).1
        simpa only [hc, hun, Bool.or_eq_true, beq_iff_eq, hji, Bool.not_true, Bool.false_eq_true, false_or] using h5
      | false =>
        simp only [flowOk, Bool.and_eq_true, beq_iff_eq] at hok
        obtain ⟨h1, h4⟩ := hok
        refine ⟨fun h0 => (by rw [h0] at h1; cases h1), fun j hj => ?_⟩
        have hj0 := hj
        rw [h1] at hj
        obtain rfl := List.mem_singleton.1 hj
        exact wpOp_mono (fun a' w' h' => ⟨h'.1, ih fuel _ _ _ (by simpa using hsz) (hdc.set hj0) hf' h4 h'.2⟩) h

theorem downClosed_start : DownClosed md ops (Array.replicate ops.size false) := by
  intro k o ho hk
  have hlt := (Array.getElem?_eq_some_iff.1 ho).1
  simp [hlt] at hk

theorem noPanic_put {Q : Exit → Act → World → Prop} : ∀ c a d v w, NoPanic Q (.panic c) (Act.put a d v) w → NoPanic Q (.panic c) a w := fun _ _ _ _ _ h => h

/-- **THE BEGINNING.** -/
theorem wp_region_flow {id : Nat} {a : Act} {w : World} (σ : List (Bool × Nat)) (cl : Nat → Bool) (hm : P.follows .mixedOrders = true) (hs : Region.noSelect ops = true)
    (hl : decide (σ.length ≤ ops.size) = true) (hok : flowOk .any ops cl σ (Array.replicate ops.size false) = true)
    (h : Flow P ops (NoPanic Q) cl σ a w.drew) : (Code.region id ops true).wp P Q a w :=
  wp_region_noPanic (wp_region_any hm (wpAny_of_T _ _ _ _ (flow_sound hs noPanic_put σ _ _ _ _ (by simp) downClosed_start (of_decide_eq_true hl) hok h)))

theorem arr_getD (l : List Value) (i : Nat) (d : Value) : l.toArray.getD i d = l.getD i d := by simp

section
variable {l : List Oper}
theorem Flow.calm {i : Nat} {o : Oper} {σ : List (Bool × Nat)} {a : Act} {w : World} (v : Value) (ho : l[i]? = some o) (hg : o.guard = none)
    (hr : ∀ w', Bl w w' → (execOp a.eval o).run P w' = .ok (.value v) w') (h : Flow P l.toArray Q cl σ (a.put o.dst v) w) : Flow P l.toArray Q cl ((true, i) :: σ) a w :=
  ⟨o, v, by simpa using ho, .inl ⟨by simp [Region.wanted, hg], hr⟩, h⟩

/-- The same: the value and the frame are found by walking 'K'. -/
theorem Flow.calm2 {i : Nat} {o : Oper} {σ : List (Bool × Nat)} {a : Act} {w : World} (v : Value) (a' : Act) (ho : l[i]? = some o) (hg : o.guard = none)
    (hr : ∀ w', Bl w w' → ∀ K : Result Next → Prop, K (.ok (.value v) w') → K ((execOp a.eval o).run P w')) (ha : ∀ K : Act → Prop, K a' → K (a.put o.dst v))
    (h : Flow P l.toArray Q cl σ a' w) : Flow P l.toArray Q cl ((true, i) :: σ) a w :=
  Flow.calm v ho hg (fun w' hb => hr w' hb (fun r => r = .ok (.value v) w') rfl) (ha (fun x => Flow P l.toArray Q cl σ x w) h)

/-- A copy. -/
theorem Flow.mv {i : Nat} {d : Option Tmp} {x : Operand} {ty : TypeId} {ps : String} {af : Array Edge} {σ : List (Bool × Nat)} {a : Act} {w : World} (a' : Act) (ho : l[i]? = some ⟨d, .move x, ty, ps, af, none⟩)
    (ha : ∀ K : Act → Prop, K a' → K (a.put d (a.eval x))) (h : Flow P l.toArray Q cl σ a' w) : Flow P l.toArray Q cl ((true, i) :: σ) a w :=
  Flow.calm (a.eval x) ho rfl (fun w' _ => by simp [execOp]) (ha (fun x => Flow P l.toArray Q cl σ x w) h)
theorem Flow.asg {i : Nat} {d : Option Tmp} {x : Operand} {ty : TypeId} {ps : String} {af : Array Edge} {σ : List (Bool × Nat)} {a : Act} {w : World} (a' : Act) (ho : l[i]? = some ⟨d, .assign x, ty, ps, af, none⟩)
    (ha : ∀ K : Act → Prop, K a' → K (a.put d (a.eval x))) (h : Flow P l.toArray Q cl σ a' w) : Flow P l.toArray Q cl ((true, i) :: σ) a w :=
  Flow.calm (a.eval x) ho rfl (fun w' _ => by simp [execOp]) (ha (fun x => Flow P l.toArray Q cl σ x w) h)

theorem Flow.calmG {i : Nat} {o : Oper} {σ : List (Bool × Nat)} {a : Act} {w : World} (v : Value) (ho : l[i]? = some o) (hg : Region.wanted o (yielded l.toArray a.tmps) = true)
    (hr : ∀ w', Bl w w' → (execOp a.eval o).run P w' = .ok (.value v) w') (h : Flow P l.toArray Q cl σ (a.put o.dst v) w) : Flow P l.toArray Q cl ((true, i) :: σ) a w :=
  ⟨o, v, by simpa using ho, .inl ⟨hg, hr⟩, h⟩

theorem Flow.pass {i : Nat} {o : Oper} {σ : List (Bool × Nat)} {a : Act} {w : World} (ho : l[i]? = some o) (hg : Region.wanted o (yielded l.toArray a.tmps) = false)
    (h : Flow P l.toArray Q cl σ (a.put o.dst undef) w) : Flow P l.toArray Q cl ((true, i) :: σ) a w :=
  ⟨o, undef, by simpa using ho, .inr ⟨hg, rfl⟩, h⟩

theorem Flow.move {i : Nat} {o : Oper} {σ : List (Bool × Nat)} {a : Act} {w : World} (ho : l[i]? = some o)
    (h : wpList P l.toArray (Exit.then (fun a' w' => (cl i = false → Bl w w') ∧ Flow P l.toArray Q cl σ a' w') Q) [o] a w) : Flow P l.toArray Q cl ((false, i) :: σ) a w := by
  have ho' : l.toArray[i]? = some o := by simpa using ho
  simp only [Flow, wpOp, ho']
  simp only [wpList] at h
  exact h
end

def tailOps (ops : Array Oper) (cl : Nat → Bool) : List (Bool × Nat) → Option (List Oper)
  | [] => some []
  | (b, i) :: σ => if !b && cl i then (ops[i]?).bind fun o => (tailOps ops cl σ).map (o :: ·) else none

theorem flow_tail_aux : ∀ (σ : List (Bool × Nat)) (l : List Oper) (a : Act) (w : World), tailOps ops cl σ = some l → wpList P ops Q l a w → Flow P ops Q cl σ a w := by
  intro σ
  induction σ with
  | nil => intro l a w hl h; simp [tailOps] at hl; subst hl; exact h
  | cons s σ ih =>
    obtain ⟨b, i⟩ := s
    intro l a w hl h
    simp only [tailOps] at hl
    split at hl
    · rename_i hb
      simp only [Bool.and_eq_true, Bool.not_eq_true'] at hb
      obtain ⟨rfl, hc⟩ := hb
      cases ho : ops[i]? with
      | none => simp [ho] at hl
      | some o =>
        simp only [ho, Option.bind_some, Option.map_eq_some_iff] at hl
        obtain ⟨l', hl', rfl⟩ := hl
        have h' : wpOp P ops Q i (wpList P ops Q l') a w := by
          unfold wpOp
          simp only [ho]
          exact h
        exact wpOp_mono (fun a' w' h'' => ⟨fun hc' => absurd (hc.symm.trans hc') (by decide), ih l' a' w' hl' h''⟩) h'
    · cases hl

/-- What is left comes up in one order: an ordinary list of operations. -/
theorem Flow.tail {σ : List (Bool × Nat)} (l : List Oper) {a : Act} {w : World} (hl : tailOps ops cl σ = some l)
    (h : wpList P ops (Exit.then (fun a' w' => Q .normal a' w') (NoPanic Q)) l a w) : Flow P ops (NoPanic Q) cl σ a w := by
  have e : (Exit.then (fun a' w' => Q .normal a' w') (NoPanic Q)) = NoPanic Q := by
    funext e a w
    cases e <;> rfl
  rw [e] at h
  exact flow_tail_aux σ l a w hl h

theorem Flow.done {a : Act} {w : World} (h : Q .normal a w) : Flow P ops (NoPanic Q) cl [] a w := h
end

end Go.Proofs.YtecfjdladcmhjaaDoor
