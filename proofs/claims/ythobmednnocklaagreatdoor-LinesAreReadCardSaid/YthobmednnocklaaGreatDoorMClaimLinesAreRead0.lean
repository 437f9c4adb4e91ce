/- Sums of values from the upper left corner on: what page.SumsOf makes, what the sum of a box is. -/
import Derived.Test.YthobmednnocklaaGreatDoorRows
import Derived.WalkKit
import Derived.WalkSpells
import Derived.WalkLawsBesides
import Derived.Handy
import Derived.Deep.QuietTactic
import Derived.BigQuiet
import Derived.Deep.RegionHeld3
import Derived.Deep.AppendLies
import Derived.Deep.Draws
import Derived.Deep.OwnRows
import Derived.Deep.DeepCutAuto
import Derived.Deep.LoopGhost
import Derived.Deep.DeepFit
import Derived.Maps.AppendAt
import Derived.Lib.Hide
import Derived.StillTailTactics
import Derived.Laws.ResultCell

namespace Go.Proofs.YthobmednnocklaaGreatDoor
open Go.RowKit

theorem ret_int {k : IntKind} {a b : Int} (h : a = b) : Ending.returned (.int k a) = .returned (.int k b) := by rw [h]
theorem ret_bool {a b : Bool} (h : a = b) : Ending.returned (.bool a) = .returned (.bool b) := by rw [h]

theorem enters {P : Program} {f : FuncId} {fn : Func} {c : Code} (hf : P.funcs[f]? = some fn) (hname : (fn.name == "runtime.NumGoroutine") = false) (hb : fn.body = some c) :
 ∀ args w, (callFunc f args).run P w = .ok (.enter f args) w := by
 intro args w
 have h1 : fn.name ≠ "runtime.NumGoroutine" := by simpa using hname
 simp [callFunc, hf, h1, hb]

/-! ### Below -/
/-- All that lay in w lies in w' as it was. -/
def Bl (w w' : World) : Prop := Below w.heap.size w w'
theorem Bl.refl (w : World) : Bl w w := Below.refl _ _
theorem Bl.trans {a b c : World} (h : Bl a b) (k : Bl b c) : Bl a c := Below.trans h (Below.mono k h.size)
theorem Bl.alloc {a w : World} (h : Bl a w) (o : Obj) : Bl a (w.alloc o) := Below.alloc h h.size o
theorem Bl.drew {a w : World} (h : Bl a w) : Bl a w.drew := Below.drew h
theorem Bl.le {a w : World} (h : Bl a w) : a.heap.size ≤ w.heap.size := Below.size h
theorem Bl.setCell {a w : World} (h : Bl a w) {p : Addr} (hp : a.heap.size ≤ p.block) (u : Value) : Bl a (w.setCell p u) := Below.setCell h hp u
theorem Bl.cell {w w' : World} (h : Bl w w') {p : Addr} (hp : p.block < w.heap.size) : w'.cell? p = w.cell? p := Below.cell h hp
theorem Bl.at {w w' : World} (h : Bl w w') {p : Addr} {v : Value} (hc : w.cell? p = some v) : w'.cell? p = some v :=
 (Below.cell h (World.block_lt_of_cell? w p hc)).trans hc

theorem Bl.rule {w w' : World} (h : Bl w w') : (∀ p, (w.cell? p).isSome = true → w'.cell? p = w.cell? p) ∧ (∀ p, (w.cell? p).isSome = true → w'.frozen? p = w.frozen? p) := by
 refine ⟨fun p hp => ?_, fun p hp => ?_⟩
 · obtain ⟨v, hv⟩ := Option.isSome_iff_exists.1 hp
   rw [hv]; exact h.at hv
 · obtain ⟨v, hv⟩ := Option.isSome_iff_exists.1 hp
   exact Below.frozen h (World.block_lt_of_cell? w p hv)
theorem Bl.drewL {w w' : World} (h : Bl w w') : Bl w.drew w' := ⟨h.os, h.tape, h.output, h.size, h.block⟩
theorem Bl.ofDrew {w w' : World} (h : Bl w.drew w') : Bl w w' := ((Bl.refl w).drew).trans h

/-! ### A slice that reads as a list of cells -/
theorem block_of_add (a : Addr) (n : Nat) : (a.add n).block = a.block := by unfold Addr.add; split <;> rfl
theorem add_of_add (a : Addr) (i j : Nat) : (a.add i).add j = a.add (i + j) := by
 unfold Addr.add
 by_cases hi : i = 0 <;> by_cases hj : j = 0 <;> simp [hi, hj, Nat.add_assoc]

def Reads (w : World) (size : Nat) (A : Option Addr) (n : Nat) (xs : List Value) : Prop :=
 xs.length = n * size ∧ (0 < n → ∃ ad, A = some ad ∧ ∀ j u, xs[j]? = some u → w.cell? (ad.add j) = some u)

section
variable {w w' : World} {size n : Nat} {A : Option Addr} {xs : List Value}
theorem Reads.none_ : Reads w size A 0 [] := ⟨by simp, fun h => absurd h (by omega)⟩
theorem Reads.at_ {k : Nat} (h : Reads w 1 A n xs) (hk : k < n) : ∃ ad u, A = some ad ∧ xs[k]? = some u ∧ w.cell? (ad.add k) = some u := by
 obtain ⟨ad, e, hc⟩ := h.2 (by omega)
 have hl : k < xs.length := by have := h.1; omega
 exact ⟨ad, xs[k], e, List.getElem?_eq_getElem hl, hc k _ (List.getElem?_eq_getElem hl)⟩
theorem Reads.bl (h : Reads w size A n xs) (hb : Bl w w') : Reads w' size A n xs :=
 ⟨h.1, fun hn => by
  obtain ⟨ad, e, hc⟩ := h.2 hn
  exact ⟨ad, e, fun j u hu => hb.at (hc j u hu)⟩⟩
end

/-! ### A block that is known whole -/
def Blk (w : World) (g : Nat) (t : TypeId) (cs : Array Value) : Prop := w.heap[g]? = some (.cells cs t (0, 0))

section
variable {w w' : World} {g : Nat} {t : TypeId} {cs : Array Value}
theorem Blk.lt (h : Blk w g t cs) : g < w.heap.size := by
 rcases Nat.lt_or_ge g w.heap.size with hlt | hge
 · exact hlt
 · unfold Blk at h; rw [Array.getElem?_eq_none hge] at h; cases h
theorem Blk.cell (h : Blk w g t cs) (i : Nat) : w.cell? ⟨g, i, none⟩ = cs[i]? := cell_of_row w g i cs t (0, 0) h
theorem Blk.frozen (h : Blk w g t cs) (i : Nat) : w.frozen? ⟨g, i, none⟩ = false := by
 unfold Blk at h
 simp [World.frozen?, h]
theorem Blk.new (w : World) (t : TypeId) (cs : Array Value) : Blk (w.alloc (.cells cs t)) w.heap.size t cs := heap_alloc_new w _
theorem Blk.drew (h : Blk w g t cs) : Blk w.drew g t cs := h
theorem Blk.alloc (h : Blk w g t cs) (o : Obj) : Blk (w.alloc o) g t cs := (Below.heap_alloc w o g h.lt).trans h
theorem Blk.set_ (h : Blk w g t cs) (i : Nat) (u : Value) : Blk (w.setCell ⟨g, i, none⟩ u) g t (cs.setIfInBounds i u) := by
 unfold Blk at h ⊢
 simp [World.setCell, Array.getElem?_modify, h]
theorem Blk.far (h : Blk w g t cs) {p : Addr} (hp : g ≠ p.block) (u : Value) : Blk (w.setCell p u) g t cs := (Below.heap_setCell w p u g hp).trans h
theorem Blk.grown {row : Option Nat} (h : Blk w g t cs) (hb : w.grownBy w' row) (hg : some g ≠ row) : Blk w' g t cs := (hb.block g h.lt hg).trans h
theorem Blk.bl (h : Blk w g t cs) (hb : Bl w w') : Blk w' g t cs := (Below.block hb g h.lt).trans h
theorem Blk.all1 {x : Value} (h : Blk w g t #[x]) : w.cell? ⟨g, 0, none⟩ = some x ∧ ∀ i, w.frozen? ⟨g, i, none⟩ = false := ⟨h.cell 0, h.frozen⟩
theorem Blk.all3 {x y z : Value} (h : Blk w g t #[x, y, z]) : w.cell? ⟨g, 0, none⟩ = some x ∧ w.cell? ⟨g, 1, none⟩ = some y ∧ w.cell? ⟨g, 2, none⟩ = some z ∧ ∀ i, w.frozen? ⟨g, i, none⟩ = false := ⟨h.cell 0, h.cell 1, h.cell 2, h.frozen⟩
theorem Blk.all4 {x y z u : Value} (h : Blk w g t #[x, y, z, u]) : w.cell? ⟨g, 0, none⟩ = some x ∧ w.cell? ⟨g, 1, none⟩ = some y ∧ w.cell? ⟨g, 2, none⟩ = some z ∧ w.cell? ⟨g, 3, none⟩ = some u ∧ ∀ i, w.frozen? ⟨g, i, none⟩ = false := ⟨h.cell 0, h.cell 1, h.cell 2, h.cell 3, h.frozen⟩
theorem Blk.all6 {x y z u v t' : Value} (h : Blk w g t #[x, y, z, u, v, t']) : w.cell? ⟨g, 0, none⟩ = some x ∧ w.cell? ⟨g, 1, none⟩ = some y ∧ w.cell? ⟨g, 2, none⟩ = some z ∧ w.cell? ⟨g, 3, none⟩ = some u ∧ w.cell? ⟨g, 4, none⟩ = some v ∧ w.cell? ⟨g, 5, none⟩ = some t' ∧ ∀ i, w.frozen? ⟨g, i, none⟩ = false := ⟨h.cell 0, h.cell 1, h.cell 2, h.cell 3, h.cell 4, h.cell 5, h.frozen⟩
theorem Blk.reads (h : Blk w g t cs) (n c : Nat) (hn : cs.size = n * c) : Reads w c (some ⟨g, 0, none⟩) n cs.toList :=
 ⟨by simpa using hn, fun _ => ⟨_, rfl, fun j u hu => by
  have e : (⟨g, 0, none⟩ : Addr).add j = ⟨g, j, none⟩ := by unfold Addr.add; split <;> simp_all
  rw [e, h.cell]; simpa using hu⟩⟩
end

end Go.Proofs.YthobmednnocklaaGreatDoor


/-! A region whose order is open, walked in one order: reads and reckonings first, what makes memory one behind the other. No condition. -/
namespace Go.Proofs.YthobmednnocklaaGreatDoor
open Go.RowKit

theorem sqA : (∀ (a : Act) (d : Tmp) (v : Value), a.put (some d) v = { a with tmps := a.tmps.setIfInBounds d v }) ∧ (∀ (a : Act) (v : Value), a.put none v = a) ∧ (∀ (l : List Value) (i : Nat) (v : Value), l.toArray.setIfInBounds i v = (l.set i v).toArray) ∧ (∀ (x : Value) (l : List Value) (v : Value), (x :: l).set 0 v = v :: l) ∧ (∀ (x : Value) (l : List Value) (i : Nat) (v : Value), (x :: l).set (i + 1) v = x :: l.set i v) :=
  ⟨fun _ _ _ => rfl, fun _ _ => rfl, fun _ _ _ => List.setIfInBounds_toArray .., fun _ _ _ => rfl, fun _ _ _ _ => rfl⟩
section
variable {P : Program} {ops : Array Oper} {Q : Exit → Act → World → Prop} {md : Region.Mode} {cl : Nat → Bool}

def wpAnyT (P : Program) (md : Region.Mode) (ops : Array Oper) (Q : Exit → Act → World → Prop) (cl : Nat → Bool) : Nat → Array Bool → Act → World → Prop
 | 0, listed, a, w => Region.ready md ops listed = [] ∧ Q .normal a w
 | fuel + 1, listed, a, w =>
  (Region.ready md ops listed = [] → Q .normal a w) ∧
  ∀ i ∈ Region.ready md ops listed, wpOp P ops Q i (fun a' w' => (cl i = false → Bl w w') ∧ wpAnyT P md ops Q cl fuel (listed.setIfInBounds i true) a' w') a w

theorem wpAny_of_T : ∀ (fuel : Nat) (listed : Array Bool) (a : Act) (w : World), wpAnyT P md ops Q cl fuel listed a w → wpAny P md ops Q fuel listed a w
 | 0, _, _, _, h => h
 | fuel + 1, _, _, _, h => ⟨h.1, fun i hi => wpOp_mono (fun a' w' h' => wpAny_of_T fuel _ a' w' h'.2) (h.2 i hi)⟩

theorem yieldsIf_bl {o : Oper} {v : Value} {a : Act} {w w' : World} (h : YieldsIf P ops (Bl w) o v a) (hb : Bl w w') : YieldsIf P ops (Bl w') o v a :=
 h.imp (fun ⟨h1, h2⟩ => ⟨h1, fun w'' hb' => h2 w'' (hb.trans hb')⟩) id

/-! ### who must have come up before -/
def predMask (md : Region.Mode) (ops : Array Oper) (k : Nat) : Nat :=
 match ops[k]? with
 | none => 0
 | some o => o.after.toList.foldl (fun m e => if Region.binds md e then m ||| 2 ^ e.on else m) 0
def upMask (md : Region.Mode) (ops : Array Oper) : Nat → Nat → Nat
 | 0, m => m
 | k + 1, m => upMask md ops k (if m.testBit k then m ||| predMask md ops k else m)

theorem predMask_aux (md : Region.Mode) : ∀ (l : List Edge) (m i : Nat), (l.foldl (fun m e => if Region.binds md e then m ||| 2 ^ e.on else m) m).testBit i = true →
 m.testBit i = true ∨ ∃ e ∈ l, Region.binds md e = true ∧ e.on = i
 | [], m, i, h => .inl h
 | e :: l, m, i, h => by
  rcases predMask_aux md l _ i h with h' | ⟨e', he', hb⟩
  · dsimp only at h'
    by_cases hb : Region.binds md e = true
    · rw [if_pos hb, Nat.testBit_or, Bool.or_eq_true] at h'
      rcases h' with h' | h'
      · exact .inl h'
      · rw [Nat.testBit_two_pow] at h'
        exact .inr ⟨e, by simp, hb, by simpa using h'⟩
    · rw [if_neg hb] at h'
      exact .inl h'
  · exact .inr ⟨e', by simp [he'], hb⟩

theorem upMask_spec {D : Nat → Prop} (hD : ∀ k o, ops[k]? = some o → D k → ∀ e ∈ o.after, Region.binds md e = true → D e.on) : ∀ (k m : Nat), (∀ i, m.testBit i = true → D i) → ∀ i, (upMask md ops k m).testBit i = true → D i
 | 0, m, h, i, hi => h i hi
 | k + 1, m, h, i, hi => by
  refine upMask_spec hD k _ ?_ i hi
  intro i' hi'
  split at hi'
  · rename_i hk
    rw [Nat.testBit_or, Bool.or_eq_true] at hi'
    rcases hi' with hi' | hi'
    · exact h i' hi'
    · unfold predMask at hi'
      cases ho : ops[k]? with
      | none => simp [ho] at hi'
      | some o =>
       simp only [ho] at hi'
       rcases predMask_aux md _ _ _ hi' with h0 | ⟨e, he, hb, rfl⟩
       · simp at h0
       · exact hD k o ho (h k hk) e (by simpa using he) hb
  · exact h i' hi'

theorem predMask_spec {D : Nat → Prop} {j : Nat} {oj : Oper} (hj : ops[j]? = some oj) (h : ∀ e ∈ oj.after, Region.binds md e = true → D e.on) : ∀ i, (predMask md ops j).testBit i = true → D i := by
 intro i hi
 unfold predMask at hi
 simp only [hj] at hi
 rcases predMask_aux md _ _ _ hi with h0 | ⟨e, he, hb, rfl⟩
 · simp at h0
 · exact h e (by simpa using he) hb

/-- Number i comes up before number j in every order. -/
def precedes (md : Region.Mode) (ops : Array Oper) (i j : Nat) : Bool := (upMask md ops ops.size (predMask md ops j)).testBit i

def DownClosed (md : Region.Mode) (ops : Array Oper) (listed : Array Bool) : Prop :=
 ∀ k o, ops[k]? = some o → listed.getD k true = true → ∀ e ∈ o.after, Region.binds md e = true → listed.getD e.on false = true

theorem precedes_spec {listed : Array Bool} (hdc : DownClosed md ops listed) (hsz : listed.size = ops.size) {i j : Nat} (hj : j ∈ Region.ready md ops listed) (hp : precedes md ops i j = true) : listed.getD i false = true := by
 obtain ⟨_, oj, hoj, hall⟩ := mem_ready.1 hj
 refine upMask_spec (D := fun k => listed.getD k false = true) (ops := ops) (md := md) ?_ _ _ (predMask_spec hoj (fun e he hb => hall e he hb)) i hp
 intro k o ho hk e he hb
 refine hdc k o ho ?_ e he hb
 have hlt := (Array.getElem?_eq_some_iff.1 ho).1
 simp [show k < listed.size by omega] at hk ⊢
 exact hk

theorem DownClosed.set {listed : Array Bool} (h : DownClosed md ops listed) {j : Nat} (hj : j ∈ Region.ready md ops listed) : DownClosed md ops (listed.setIfInBounds j true) := by
 obtain ⟨_, oj, hoj, hall⟩ := mem_ready.1 hj
 have up : ∀ k, listed.getD k false = true → (listed.setIfInBounds j true).getD k false = true := by
  intro k hk
  by_cases e : j = k
  · subst e
    rcases Nat.lt_or_ge j listed.size with hl | hl
    · simp [hl]
    · simp [Array.getElem?_eq_none hl] at hk
  · rw [getD_set_ne false e]; exact hk
 intro k o ho hk e he hb
 by_cases ek : j = k
 · subst ek
   rw [ho] at hoj
   obtain rfl := Option.some.inj hoj
   exact up _ (hall e he hb)
 · rw [getD_set_ne true ek] at hk
   exact up _ (h k o ho hk e he hb)

theorem wpAnyT_first {i : Nat} {oi : Oper} {v : Value} (hi : ops[i]? = some oi) (hsel : ∀ (j : Nat) (o : Oper) cs b, ops[j]? = some o → o.op ≠ .select cs b)
 (hQ : ∀ c a w, Q (.panic c) (a.put oi.dst v) w → Q (.panic c) a w) :
 ∀ (fuel : Nat) (listed : Array Bool) (a : Act) (w : World), listed.size = ops.size → DownClosed md ops listed →
  (∀ j oj, ops[j]? = some oj → j ≠ i → listed.getD j true = false → cl j = true → precedes md ops i j = true) →
  (∀ j oj, ops[j]? = some oj → j ≠ i → listed.getD j true = false → (∀ e ∈ oj.after, Region.binds md e = true → e.on ≠ i) → oi.apart ops oj = true) →
  i ∈ Region.ready md ops listed → YieldsIf P ops (Bl w) oi v a →
  wpAnyT P md ops Q cl fuel (listed.setIfInBounds i true) (a.put oi.dst v) w → wpAnyT P md ops Q cl (fuel + 1) listed a w := by
 intro fuel
 induction fuel with
 | zero =>
  intro listed a w _ _ _ _ hr hy H
  refine ⟨fun h => (by rw [h] at hr; cases hr), fun j hj => ?_⟩
  by_cases hji : j = i
  · subst hji; exact hy.wpOp hi (Bl.refl w) ⟨fun _ => Bl.refl w, H⟩
  · have := ready_mono hj hji
    rw [H.1] at this
    cases this
 | succ fuel ih =>
  intro listed a w hsz hdc hclo hfree hr hy H
  refine ⟨fun h => (by rw [h] at hr; cases hr), fun j hj => ?_⟩
  by_cases hji : j = i
  · subst hji; exact hy.wpOp hi (Bl.refl w) ⟨fun _ => Bl.refl w, H⟩
  · have h1 := H.2 j (ready_mono hj hji)
    obtain ⟨hjun, oj, hoj, hall⟩ := mem_ready.1 hj
    have hun0 : listed.getD i false = false := by
     have h0 := (mem_ready.1 hr).1
     rcases Nat.lt_or_ge i listed.size with h' | h'
     · simp [h'] at h0 ⊢; exact h0
     · simp [Array.getElem?_eq_none h']
    have hnot : ∀ e ∈ oj.after, Region.binds md e = true → e.on ≠ i := fun e he hb heq => by
     have h1 := hall e he hb
     rw [heq, hun0] at h1
     cases h1
    have hcj : cl j = false := by
     cases hc : cl j with
     | false => rfl
     | true =>
      have := precedes_spec hdc hsz hj (hclo j oj hoj hji hjun hc)
      rw [hun0] at this
      cases this
    have h2 := wpOp_putIf hoj (hfree j oj hoj hji hjun hnot) (fun cs b => hsel i oi cs b hi) (fun cs b => hsel j oj cs b hoj) hQ hy h1
    have hun' : ∀ k, (listed.setIfInBounds j true).getD k true = false → listed.getD k true = false := fun k hun => by
     by_cases hjk : j = k
     · subst hjk; exact hjun
     · rw [getD_set_ne true hjk] at hun; exact hun
    refine wpOp_mono (fun a' w' h3 => ⟨h3.2.1, ih (listed.setIfInBounds j true) a' w' (by simpa using hsz) (hdc.set hj) (fun k ok hk hki hun hc => hclo k ok hk hki (hun' k hun) hc)
     (fun k ok hk hki hun hno => hfree k ok hk hki (hun' k hun) hno) (ready_mono hr (Ne.symm hji)) (yieldsIf_bl h3.1 (h3.2.1 hcj)) ?_⟩) h2
    rw [Array.setIfInBounds_comm _ _ hji]
    exact h3.2.2

/-- In one order: 'true': what yields in every world that grows out of the one at hand; 'false': whatever else. -/
def Flow (P : Program) (ops : Array Oper) (Q : Exit → Act → World → Prop) (cl : Nat → Bool) : List (Bool × Nat) → Act → World → Prop
 | [], a, w => Q .normal a w
 | (true, i) :: σ, a, w => ∃ o v, ops[i]? = some o ∧ YieldsIf P ops (Bl w) o v a ∧ Flow P ops Q cl σ (a.put o.dst v) w
 | (false, i) :: σ, a, w => wpOp P ops Q i (fun a' w' => (cl i = false → Bl w w') ∧ Flow P ops Q cl σ a' w') a w

def flowOk (md : Region.Mode) (ops : Array Oper) (cl : Nat → Bool) : List (Bool × Nat) → Array Bool → Bool
 | [], listed => (Region.ready md ops listed).isEmpty
 | (true, i) :: σ, listed => (Region.ready md ops listed).contains i && Region.free md ops listed i &&
     ((List.range ops.size).all fun j => j == i || listed.getD j true || !cl j || precedes md ops i j) && flowOk md ops cl σ (listed.setIfInBounds i true)
 | (false, i) :: σ, listed => Region.ready md ops listed == [i] && flowOk md ops cl σ (listed.setIfInBounds i true)

theorem flow_sound (hs : Region.noSelect ops = true) (hQ : ∀ c a d v w, Q (.panic c) (Act.put a d v) w → Q (.panic c) a w) :
 ∀ (σ : List (Bool × Nat)) (fuel : Nat) (listed : Array Bool) (a : Act) (w : World), listed.size = ops.size → DownClosed md ops listed → σ.length ≤ fuel → flowOk md ops cl σ listed = true →
  Flow P ops Q cl σ a w → wpAnyT P md ops Q cl fuel listed a w := by
 intro σ
 induction σ with
 | nil =>
  intro fuel listed a w _ _ _ hok h
  have hr : Region.ready md ops listed = [] := by simpa [flowOk] using hok
  cases fuel with
  | zero => exact ⟨hr, h⟩
  | succ fuel => exact ⟨fun _ => h, fun i hi => by rw [hr] at hi; cases hi⟩
 | cons s σ ih =>
  obtain ⟨b, i⟩ := s
  intro fuel listed a w hsz hdc hf hok h
  cases fuel with
  | zero => simp at hf
  | succ fuel =>
   have hf' : σ.length ≤ fuel := by simpa using hf
   cases b with
   | true =>
    simp only [flowOk, Bool.and_eq_true] at hok
    obtain ⟨⟨⟨h1, h2⟩, h3⟩, h4⟩ := hok
    obtain ⟨o, v, ho, hy, hfl⟩ := h
    have hir : i ∈ Region.ready md ops listed := by simpa using h1
    refine wpAnyT_first ho (Region.noSelect_spec hs) (fun c a w => hQ c a o.dst v w) fuel listed a w hsz hdc ?_ (Region.free_spec ho h2) hir hy (ih fuel _ _ _ (by simpa using hsz) (hdc.set hir) hf' h4 hfl)
    intro j oj hj hji hun hc
    simp only [List.all_eq_true, List.mem_range] at h3
    have h5 := h3 j (Array.getElem?_eq_some_iff.1 hj).1
    simpa only [hc, hun, Bool.or_eq_true, beq_iff_eq, hji, Bool.not_true, Bool.false_eq_true, false_or] using h5
   | false =>
    simp only [flowOk, Bool.and_eq_true, beq_iff_eq] at hok
    obtain ⟨h1, h4⟩ := hok
    refine ⟨fun h0 => (by rw [h0] at h1; cases h1), fun j hj => ?_⟩
    have hj0 := hj
    rw [h1] at hj
    obtain rfl := List.mem_singleton.1 hj
    exact wpOp_mono (fun a' w' h' => ⟨h'.1, ih fuel _ _ _ (by simpa using hsz) (hdc.set hj0) hf' h4 h'.2⟩) h

theorem downClosed_start : DownClosed md ops (Array.replicate ops.size false) := by
 intro k o ho hk
 have hlt := (Array.getElem?_eq_some_iff.1 ho).1
 simp [hlt] at hk

theorem noPanic_put {Q : Exit → Act → World → Prop} : ∀ c a d v w, NoPanic Q (.panic c) (Act.put a d v) w → NoPanic Q (.panic c) a w := fun _ _ _ _ _ h => h

/-- **THE BEGINNING.** -/
theorem wp_region_flow {id : Nat} {a : Act} {w : World} (σ : List (Bool × Nat)) (cl : Nat → Bool) (hm : P.follows .mixedOrders = true) (hs : Region.noSelect ops = true)
 (hl : decide (σ.length ≤ ops.size) = true) (hok : flowOk .any ops cl σ (Array.replicate ops.size false) = true)
 (h : Flow P ops (NoPanic Q) cl σ a w.drew) : (Code.region id ops true).wp P Q a w :=
 wp_region_noPanic (wp_region_any hm (wpAny_of_T _ _ _ _ (flow_sound hs noPanic_put σ _ _ _ _ (by simp) downClosed_start (of_decide_eq_true hl) hok h)))

theorem arr_getD (l : List Value) (i : Nat) (d : Value) : l.toArray.getD i d = l.getD i d := by simp

section
variable {l : List Oper}
theorem Flow.calm {i : Nat} {o : Oper} {σ : List (Bool × Nat)} {a : Act} {w : World} (v : Value) (ho : l[i]? = some o) (hg : o.guard = none)
 (hr : ∀ w', Bl w w' → (execOp a.eval o).run P w' = .ok (.value v) w') (h : Flow P l.toArray Q cl σ (a.put o.dst v) w) : Flow P l.toArray Q cl ((true, i) :: σ) a w :=
 ⟨o, v, by simpa using ho, .inl ⟨by simp [Region.wanted, hg], hr⟩, h⟩

/-- The same: the value and the frame are found by walking 'K'. -/
theorem Flow.calm2 {i : Nat} {o : Oper} {σ : List (Bool × Nat)} {a : Act} {w : World} (v : Value) (a' : Act) (ho : l[i]? = some o) (hg : o.guard = none)
 (hr : ∀ w', Bl w w' → ∀ K : Result Next → Prop, K (.ok (.value v) w') → K ((execOp a.eval o).run P w')) (ha : ∀ K : Act → Prop, K a' → K (a.put o.dst v))
 (h : Flow P l.toArray Q cl σ a' w) : Flow P l.toArray Q cl ((true, i) :: σ) a w :=
 Flow.calm v ho hg (fun w' hb => hr w' hb (fun r => r = .ok (.value v) w') rfl) (ha (fun x => Flow P l.toArray Q cl σ x w) h)

/-- A copy. -/
theorem Flow.mv {i : Nat} {d : Option Tmp} {x : Operand} {ty : TypeId} {ps : String} {af : Array Edge} {σ : List (Bool × Nat)} {a : Act} {w : World} (a' : Act) (ho : l[i]? = some ⟨d, .move x, ty, ps, af, none⟩)
 (ha : ∀ K : Act → Prop, K a' → K (a.put d (a.eval x))) (h : Flow P l.toArray Q cl σ a' w) : Flow P l.toArray Q cl ((true, i) :: σ) a w :=
 Flow.calm (a.eval x) ho rfl (fun w' _ => by simp [execOp]) (ha (fun x => Flow P l.toArray Q cl σ x w) h)
theorem Flow.asg {i : Nat} {d : Option Tmp} {x : Operand} {ty : TypeId} {ps : String} {af : Array Edge} {σ : List (Bool × Nat)} {a : Act} {w : World} (a' : Act) (ho : l[i]? = some ⟨d, .assign x, ty, ps, af, none⟩)
 (ha : ∀ K : Act → Prop, K a' → K (a.put d (a.eval x))) (h : Flow P l.toArray Q cl σ a' w) : Flow P l.toArray Q cl ((true, i) :: σ) a w :=
 Flow.calm (a.eval x) ho rfl (fun w' _ => by simp [execOp]) (ha (fun x => Flow P l.toArray Q cl σ x w) h)

theorem Flow.calmG {i : Nat} {o : Oper} {σ : List (Bool × Nat)} {a : Act} {w : World} (v : Value) (ho : l[i]? = some o) (hg : Region.wanted o (yielded l.toArray a.tmps) = true)
 (hr : ∀ w', Bl w w' → (execOp a.eval o).run P w' = .ok (.value v) w') (h : Flow P l.toArray Q cl σ (a.put o.dst v) w) : Flow P l.toArray Q cl ((true, i) :: σ) a w :=
 ⟨o, v, by simpa using ho, .inl ⟨hg, hr⟩, h⟩

theorem Flow.pass {i : Nat} {o : Oper} {σ : List (Bool × Nat)} {a : Act} {w : World} (ho : l[i]? = some o) (hg : Region.wanted o (yielded l.toArray a.tmps) = false)
 (h : Flow P l.toArray Q cl σ (a.put o.dst undef) w) : Flow P l.toArray Q cl ((true, i) :: σ) a w :=
 ⟨o, undef, by simpa using ho, .inr ⟨hg, rfl⟩, h⟩

theorem Flow.move {i : Nat} {o : Oper} {σ : List (Bool × Nat)} {a : Act} {w : World} (ho : l[i]? = some o)
 (h : wpList P l.toArray (Exit.then (fun a' w' => (cl i = false → Bl w w') ∧ Flow P l.toArray Q cl σ a' w') Q) [o] a w) : Flow P l.toArray Q cl ((false, i) :: σ) a w := by
 have ho' : l.toArray[i]? = some o := by simpa using ho
 simp only [Flow, wpOp, ho']
 simp only [wpList] at h
 exact h
end

def tailOps (ops : Array Oper) (cl : Nat → Bool) : List (Bool × Nat) → Option (List Oper)
 | [] => some []
 | (b, i) :: σ => if !b && cl i then (ops[i]?).bind fun o => (tailOps ops cl σ).map (o :: ·) else none

theorem flow_tail_aux : ∀ (σ : List (Bool × Nat)) (l : List Oper) (a : Act) (w : World), tailOps ops cl σ = some l → wpList P ops Q l a w → Flow P ops Q cl σ a w := by
 intro σ
 induction σ with
 | nil => intro l a w hl h; simp [tailOps] at hl; subst hl; exact h
 | cons s σ ih =>
  obtain ⟨b, i⟩ := s
  intro l a w hl h
  simp only [tailOps] at hl
  split at hl
  · rename_i hb
    simp only [Bool.and_eq_true, Bool.not_eq_true'] at hb
    obtain ⟨rfl, hc⟩ := hb
    cases ho : ops[i]? with
    | none => simp [ho] at hl
    | some o =>
     simp only [ho, Option.bind_some, Option.map_eq_some_iff] at hl
     obtain ⟨l', hl', rfl⟩ := hl
     have h' : wpOp P ops Q i (wpList P ops Q l') a w := by
      unfold wpOp
      simp only [ho]
      exact h
     exact wpOp_mono (fun a' w' h'' => ⟨fun hc' => absurd (hc.symm.trans hc') (by decide), ih l' a' w' hl' h''⟩) h'
  · cases hl

/-- What is left comes up in one order: an ordinary list of operations. -/
theorem Flow.tail {σ : List (Bool × Nat)} (l : List Oper) {a : Act} {w : World} (hl : tailOps ops cl σ = some l)
 (h : wpList P ops (Exit.then (fun a' w' => Q .normal a' w') (NoPanic Q)) l a w) : Flow P ops (NoPanic Q) cl σ a w := by
 have e : (Exit.then (fun a' w' => Q .normal a' w') (NoPanic Q)) = NoPanic Q := by
  funext e a w
  cases e <;> rfl
 rw [e] at h
 exact flow_tail_aux σ l a w hl h

theorem Flow.done {a : Act} {w : World} (h : Q .normal a w) : Flow P ops (NoPanic Q) cl [] a w := h
end

end Go.Proofs.YthobmednnocklaaGreatDoor


/-! Slices that the call itself makes and appends to. No condition. -/
namespace Go.Proofs.YthobmednnocklaaGreatDoor
open Go.RowKit

theorem own_new {w : World} {base : Nat} {e : TypeId} {size n : Nat} {v : Value} {xs : List Value} (h : w.ownsRow base e size v n xs) : ∃ A c, v = .slice A n c ∧ Reads w size A n xs ∧ ∀ ad, A = some ad → base ≤ ad.block := by
 rcases h.2 with ⟨rfl, rfl⟩ | ⟨g, cap, cur, rfl, hb, hg, hn, hc, hs, ht⟩
 · exact ⟨none, 0, rfl, ⟨h.1, fun hk => absurd hk (by omega)⟩, fun _ h => by cases h⟩
 · exact ⟨_, _, rfl, ⟨h.1, fun _ => ⟨_, rfl, h.cells (g := g) rfl⟩⟩, fun ad h => by injection h with h; subst h; exact hb⟩
theorem own_reads {w : World} {base : Nat} {e : TypeId} {size n : Nat} {v : Value} {xs : List Value} (h : w.ownsRow base e size v n xs) : ∃ A c, v = .slice A n c ∧ Reads w size A n xs := by
 rcases h.2 with ⟨rfl, rfl⟩ | ⟨g, cap, cur, rfl, hb, hg, hn, hc, hs, ht⟩
 · exact ⟨none, 0, rfl, h.1, fun hk => absurd hk (by omega)⟩
 · exact ⟨_, _, rfl, h.1, fun _ => ⟨_, rfl, h.cells (g := g) rfl⟩⟩

theorem own_bl {w w' : World} {base : Nat} {e : TypeId} {size n : Nat} {v : Value} {xs : List Value} (h : w.ownsRow base e size v n xs) (hb : Bl w w') : w'.ownsRow base e size v n xs := by
 refine ⟨h.1, ?_⟩
 rcases h.2 with h2 | ⟨g, cap, cur, hv, hg, hh, r⟩
 · exact .inl h2
 · exact .inr ⟨g, cap, cur, hv, hg, (Below.block hb g (Array.getElem?_eq_some_iff.1 hh).1).trans hh, r⟩

/-- A literal slice of one element reads. -/
theorem Reads.lit {w : World} {g : Nat} {t : TypeId} {cs : Array Value} {n : Nat} (h : Blk w g t cs) (hn : cs.size = n) : Reads w 1 (some ⟨g, 0, none⟩) n cs.toList := h.reads n 1 (by simpa using hn)

section
variable {P : Program}

/-- 'append' to a slice of the call's own: what lay in w1 lies as it did; the row is owned anew. -/
theorem wpList_append_bl {w1 wr : World} {ops : Array Oper} {rest : List Oper} {o : Oper} {a : Act} {Q : Exit → Act → World → Prop} (hgd : o.guard = none) (s x : Operand) (t : TypeId)
 (ho : o.op = .call { callee := .builtin .append, args := #[s, x], argTypes := #[t, t] })
 (e : TypeId) (z : Value) (size bytes : Nat) (ht : P.underlying t = some (.slice e)) (hi : (P.info? e).map (fun i => (i.zero, i.size, i.bytes)) = some (some z, size, bytes))
 (hzs : z.cells.size = size) (hsz : 0 < size) (B : Nat)
 (v : Value) (n : Nat) (xs : List Value) (hs : a.eval s = v) (hb : Bl w1 wr) (hB : w1.heap.size ≤ B) (hBr : B ≤ wr.heap.size) (hown : wr.ownsRow B e size v n xs)
 (A : Option Addr) (m c : Nat) (news : List Value) (hx : a.eval x = .slice A m c) (hr : Reads wr size A m news) (h1 : ∀ u ∈ news, u.oneCell' = true)
 (h63 : n + m ≤ maxLen) (hbytes : (n + m) * bytes ≤ 140737488355328)
 (h : ∀ v' w', w'.ownsRow B e size v' (n + m) (xs ++ news) → Bl w1 w' → wr.grownBy w' v.ownBlock → wpList P ops Q rest (a.put o.dst v') w') : wpList P ops Q (o :: rest) a wr := by
 obtain ⟨i, hi', hz, hsize, hby⟩ := info_parts hi
 refine wpList_plain hgd fun K hK => ?_
 have main : ∃ v' w', (Builtin.append_ #[t, t] o.type #[v, .slice A m c]).run P wr = .ok v' w' ∧ w'.ownsRow B e size v' (n + m) (xs ++ news) ∧ wr.grownBy w' v.ownBlock := by
  rcases A with _ | ad
  · have hm : m = 0 := by
     rcases Nat.eq_zero_or_pos m with h0 | h0
     · exact h0
     · obtain ⟨ad, h, _⟩ := hr.2 h0
       cases h
    subst hm
    have hn : news = [] := List.eq_nil_of_length_eq_zero (by simpa using hr.1)
    subst hn
    refine ⟨v, wr, ?_, by simpa using hown, World.grownBy.refl wr _⟩
    rcases hown.2 with ⟨rfl, rfl⟩ | ⟨g, cap, cur, rfl, _, _, hnc, _⟩
    · simp [Builtin.append_, run_underlying ht, sizeOf, typeInfo, hi', Builtin.lenOf, Builtin.firstCells]
    · simp [Builtin.append_, run_underlying ht, sizeOf, typeInfo, hi', Builtin.lenOf, Builtin.firstCells, hnc, storeCells]
  · have hcells : ∀ j u, news[j]? = some u → wr.cell? (ad.add j) = some u := by
     intro j u hu
     rcases Nat.eq_zero_or_pos m with h0 | h0
     · subst h0
       have hn : news = [] := List.eq_nil_of_length_eq_zero (by simpa using hr.1)
       subst hn
       simp at hu
     · obtain ⟨ad', h, hc⟩ := hr.2 h0
       injection h with h
       subst h
       exact hc j u hu
    obtain ⟨v', w', hrun, h2, h3, _⟩ := run_append_own (P := P) wr B t o.type e i z size bytes ht hi' hz hsize hby hzs hsz v n xs hown ad m c news hr.1 hcells h1 h63 hbytes hBr
    exact ⟨v', w', hrun, h2, h3⟩
 obtain ⟨v', w', hrun, h2, h3⟩ := main
 have hbl : Bl w1 w' := Below.grown hb h3 (Nat.le_trans hB hBr) (fun k hk => Nat.le_trans hB (hown.lt k hk).1)
 unfold Oper.wp execOp
 simp only [ho, resolve, invoke, builtin, Sem.run_bind, Sem.run_pure, Result.andThen_ok, List.map_toArray, List.map_cons, List.map_nil, hs, hx, hrun]
 exact hK _ _ (h v' w' h2 hbl h3)

/-- One element of one cell, just laid by the statement itself. -/
theorem wpList_append_one {w1 wr : World} {ops : Array Oper} {rest : List Oper} {o : Oper} {a : Act} {Q : Exit → Act → World → Prop} (hgd : o.guard = none) (s x : Operand) (t : TypeId)
 (ho : o.op = .call { callee := .builtin .append, args := #[s, x], argTypes := #[t, t] })
 (e : TypeId) (z : Value) (bytes : Nat) (ht : P.underlying t = some (.slice e)) (hi : (P.info? e).map (fun i => (i.zero, i.size, i.bytes)) = some (some z, 1, bytes))
 (hzs : z.cells.size = 1) (B : Nat)
 (v : Value) (n : Nat) (xs : List Value) (hs : a.eval s = v) (u : Value) (hx : a.eval x = .slice (some ⟨wr.heap.size, 0, none⟩) 1 1) (h1 : u.oneCell' = true)
 (hb : Bl w1 wr) (hB : w1.heap.size ≤ B) (hBr : B ≤ wr.heap.size) (hown : wr.ownsRow B e 1 v n xs)
 (hbytes : (n + 1) * bytes ≤ 140737488355328) (h63 : n + 1 ≤ maxLen)
 (h : ∀ v' w', w'.ownsRow B e 1 v' (n + 1) (xs ++ [u]) → Bl w1 w' → (wr.alloc (.cells #[u] e)).grownBy w' v.ownBlock → wpList P ops Q rest (a.put o.dst v') w') : wpList P ops Q (o :: rest) a (wr.alloc (.cells #[u] e)) :=
 wpList_append_bl hgd s x t ho e z 1 bytes ht hi hzs (by omega) B v n xs hs (hb.alloc _) hB (by simp; omega) (hown.alloc _) _ 1 1 [u] hx (Reads.lit (Blk.new _ _ _) rfl)
  (fun y hy => by rw [List.mem_singleton.1 hy]; exact h1) h63 hbytes h
end

end Go.Proofs.YthobmednnocklaaGreatDoor


/-! What the references' and the program's small functions on numbers and sizes compute. -/
namespace Go.Proofs.YthobmednnocklaaGreatDoor
open Go.RowKit

/-! ### plain -/
def inB (n lo hi : Int) : Bool := decide (lo ≤ n) && decide (n ≤ hi)
theorem inB_true {n lo hi : Int} : inB n lo hi = true ↔ lo ≤ n ∧ n ≤ hi := by simp [inB]
theorem inB_false {n lo hi : Int} : inB n lo hi = false ↔ n < lo ∨ hi < n := by simp [inB]; omega
def whenI (b : Bool) (e : Int) : Int := if b then e else 0
def sizeErr (W H : Int) : Int := if 1 ≤ W ∧ W ≤ 4000 ∧ 1 ≤ H ∧ H ≤ 4000 then (if W * H > 1048576 then 4 else 0) else 3
def pageErr (W H : Int) (n : Nat) : Int := if sizeErr W H = 0 then (if (n : Int) = W * H then 0 else 2) else sizeErr W H
def firstNZ : List Int → Int
 | [] => 0
 | e :: es => if e = 0 then firstNZ es else e

theorem mul_bd {W H : Int} (h1 : 1 ≤ W) (h2 : W ≤ 4000) (h3 : 1 ≤ H) (h4 : H ≤ 4000) : 1 ≤ W * H ∧ W * H ≤ 16000000 := by
 have a := Int.mul_le_mul h1 h3 (by omega) (by omega)
 have b := Int.mul_le_mul h2 h4 (by omega) (by omega)
 omega

/-! ### bedref2.In, When, First -/
set_option maxHeartbeats 400000 in
theorem in_any (n lo hi : Int) (w : World) :
 Calls Tryz.prog 12 #[.int .i64 n, .int .i64 lo, .int .i64 hi] w fun e w' => e = .returned (.bool (inB n lo hi)) ∧ w = w' := by
 unfold inB
 by_cases h1 : lo ≤ n <;> by_cases h2 : n ≤ hi
 all_goals
  go_enter Tryz.func12, Tryz.ntmps12
  go_wp2
  go_ret
  exact ⟨by simp [*], rfl⟩

set_option maxHeartbeats 400000 in
theorem when_any (b : Bool) (n : Int) (w : World) :
 Calls Tryz.prog 10 #[.bool b, .int .i64 n] w fun e w' => e = .returned (.int .i64 (whenI b n)) ∧ w = w' := by
 unfold whenI
 cases b
 all_goals
  go_enter Tryz.func10, Tryz.ntmps10
  go_wp2
  go_ret
  exact ⟨by simp, rfl⟩

theorem firstNZ_split (es : List Int) (k : Nat) (hk : k < es.length) (h : ∀ j, j < k → es[j]? = some 0) : firstNZ es = firstNZ (es.drop k) := by
 induction k generalizing es with
 | zero => simp
 | succ k ih =>
  cases es with
  | nil => simp at hk
  | cons e es =>
   have h0 := h 0 (by omega)
   simp at h0
   subst h0
   simp only [firstNZ, if_true, List.drop_succ_cons]
   exact ih es (by simpa using hk) (fun j hj => by simpa using h (j+1) (by omega))

set_option maxHeartbeats 400000 in
theorem first_any (A : Option Addr) (c : Nat) (es : List Int) (w : World) (hr : Reads w 1 A es.length (es.map (.int .i64))) (hl : es.length ≤ 1000) :
 Calls Tryz.prog 7 #[.slice A es.length c] w fun e w' => e = .returned (.int .i64 (firstNZ es)) ∧ w = w' := by
 go_enter Tryz.func7, Tryz.ntmps7
 go_wp2
 go_loop [7] (fun v => ∃ k : Nat, k ≤ es.length ∧ v = .int .i64 k ∧ Hid (∀ j, j < k → es[j]? = some 0)) (fun v => es.length - (intOf v).toNat)
 case atStart => exact ⟨0, Nat.zero_le _, rfl, fun j hj => absurd hj (by omega)⟩
 case round =>
  obtain ⟨k, hk, rfl, hz⟩ := hrel
  by_cases hlt : k < es.length
  · obtain ⟨ad, u, rfl, hu, hc⟩ := hr.at_ hlt
    have hu' : u = .int .i64 es[k] := by simpa [hlt] using hu.symm
    subst hu'
    have hd : firstNZ es = if es[k] = 0 then firstNZ (es.drop (k+1)) else es[k] := by
     rw [firstNZ_split es k hlt hz.out, List.drop_eq_getElem_cons hlt]; rfl
    have Hd := Lib.hid hd; clear hd hu
    have Hn := Lib.hid hr; clear hr
    by_cases h0 : es[k] = 0
    · have hzz : Hid (∀ j, j < k + 1 → es[j]? = some 0) := fun j hj => by
       rcases Nat.lt_or_ge j k with h | h
       · exact hz.out j h
       · obtain rfl : j = k := by omega
         simp [hlt, h0]
      go_wp2
      go_round
      case rel => exact ⟨k+1, hlt, by go_num, hzz⟩
      case measure => simp [intOf]; omega
    · have hb : (es[k] != 0) = true := by simpa using h0
      have h0' := Lib.hid h0; clear h0
      go_wp2
      go_ret
      exact ⟨ret_int (by rw [Hd.out, if_neg h0'.out]), rfl⟩
  · have hd : firstNZ es = 0 := by
     rcases Nat.eq_zero_or_pos es.length with h | h
     · rw [List.eq_nil_of_length_eq_zero h]; rfl
     · have := firstNZ_split es (es.length - 1) (by omega) (fun j hj => hz.out j (by omega))
       rw [this, List.drop_eq_getElem_cons (by omega)]
       have hz' := hz.out (es.length - 1) (by omega)
       rw [List.getElem?_eq_getElem (by omega)] at hz'
       simp at hz'
       simp [firstNZ, hz']
       have : es.length - 1 + 1 = es.length := by omega
       rw [this]; simp [firstNZ]
    have Hd := Lib.hid hd; clear hd
    have Hr := Lib.hid hr; clear hr
    go_wp2
    go_ret
    exact ⟨ret_int (by rw [Hd.out]), rfl⟩

theorem first2_any (e1 e2 : Int) (g : Nat) (w : World) (h : Blk w g 31 #[.int .i64 e1, .int .i64 e2]) :
 Calls Tryz.prog 7 #[.slice (some ⟨g, 0, none⟩) 2 2] w fun e w' => e = .returned (.int .i64 (firstNZ [e1, e2])) ∧ w = w' :=
 first_any (some ⟨g, 0, none⟩) 2 [e1, e2] w (h.reads 2 1 rfl) (by simp)
theorem first3_any (e1 e2 e3 : Int) (g : Nat) (w : World) (h : Blk w g 31 #[.int .i64 e1, .int .i64 e2, .int .i64 e3]) :
 Calls Tryz.prog 7 #[.slice (some ⟨g, 0, none⟩) 3 3] w fun e w' => e = .returned (.int .i64 (firstNZ [e1, e2, e3])) ∧ w = w' :=
 first_any (some ⟨g, 0, none⟩) 3 [e1, e2, e3] w (h.reads 3 1 rfl) (by simp)
theorem first4_any (e1 e2 e3 e4 : Int) (g : Nat) (w : World) (h : Blk w g 31 #[.int .i64 e1, .int .i64 e2, .int .i64 e3, .int .i64 e4]) :
 Calls Tryz.prog 7 #[.slice (some ⟨g, 0, none⟩) 4 4] w fun e w' => e = .returned (.int .i64 (firstNZ [e1, e2, e3, e4])) ∧ w = w' :=
 first_any (some ⟨g, 0, none⟩) 4 [e1, e2, e3, e4] w (h.reads 4 1 rfl) (by simp)

/-! ### sizes -/
set_option maxHeartbeats 400000 in
theorem checkSize_any (W H : Int) (w : World) :
 Calls Tryz.prog 117 #[.int .i64 W, .int .i64 H] w fun e w' => e = .returned (.int .i64 (sizeErr W H)) ∧ w = w' := by
 by_cases h1 : 1 ≤ W
 · by_cases h2 : W ≤ 4000
   · by_cases h3 : 1 ≤ H
     · by_cases h4 : H ≤ 4000
       · have hm := mul_bd h1 h2 h3 h4
         by_cases h5 : W * H > 1048576
         · have hs : sizeErr W H = 4 := by unfold sizeErr; rw [if_pos ⟨h1, h2, h3, h4⟩, if_pos h5]
           have Hs := Lib.hid hs; clear hs
           go_enter Tryz.func117, Tryz.ntmps117
           go_wp2
           go_ret
           exact ⟨ret_int Hs.out.symm, rfl⟩
         · have hs : sizeErr W H = 0 := by unfold sizeErr; rw [if_pos ⟨h1, h2, h3, h4⟩, if_neg h5]
           have Hs := Lib.hid hs; clear hs
           go_enter Tryz.func117, Tryz.ntmps117
           go_wp2
           go_ret
           exact ⟨ret_int Hs.out.symm, rfl⟩
       · have hs : sizeErr W H = 3 := by unfold sizeErr; rw [if_neg (by omega)]
         have Hs := Lib.hid hs; clear hs
         go_enter Tryz.func117, Tryz.ntmps117
         go_wp2
         go_ret
         exact ⟨ret_int Hs.out.symm, rfl⟩
     · have hs : sizeErr W H = 3 := by unfold sizeErr; rw [if_neg (by omega)]
       have Hs := Lib.hid hs; clear hs
       go_enter Tryz.func117, Tryz.ntmps117
       go_wp2
       go_ret
       exact ⟨ret_int Hs.out.symm, rfl⟩
   · have hs : sizeErr W H = 3 := by unfold sizeErr; rw [if_neg (by omega)]
     have Hs := Lib.hid hs; clear hs
     go_enter Tryz.func117, Tryz.ntmps117
     go_wp2
     go_ret
     exact ⟨ret_int Hs.out.symm, rfl⟩
 · have hs : sizeErr W H = 3 := by unfold sizeErr; rw [if_neg (by omega)]
   have Hs := Lib.hid hs; clear hs
   go_enter Tryz.func117, Tryz.ntmps117
   go_wp2
   go_ret
   exact ⟨ret_int Hs.out.symm, rfl⟩

theorem sizeErr_zero {W H : Int} (h : sizeErr W H = 0) : 1 ≤ W ∧ W ≤ 4000 ∧ 1 ≤ H ∧ H ≤ 4000 ∧ W * H ≤ 1048576 := by
 unfold sizeErr at h
 split at h
 · split at h
   · omega
   · rename_i a b; exact ⟨a.1, a.2.1, a.2.2.1, a.2.2.2, by omega⟩
 · omega
/-- The first error of a size. -/
theorem sizeErr_first (W H : Int) : firstNZ [whenI (!inB W 1 4000 || !inB H 1 4000) 3, whenI (inB W 1 4000 && inB H 1 4000 && decide (W * H > 1048576)) 4] = sizeErr W H := by
 unfold sizeErr
 by_cases h : 1 ≤ W ∧ W ≤ 4000 ∧ 1 ≤ H ∧ H ≤ 4000
 · have a : inB W 1 4000 = true := inB_true.2 ⟨h.1, h.2.1⟩
   have b : inB H 1 4000 = true := inB_true.2 h.2.2
   rw [if_pos h, a, b]
   by_cases h5 : W * H > 1048576 <;> simp [firstNZ, whenI, h5]
 · rw [if_neg h]
   have a : (!inB W 1 4000 || !inB H 1 4000) = true := by
    rw [Bool.or_eq_true, Bool.not_eq_true', Bool.not_eq_true', inB_false, inB_false]; omega
   simp [firstNZ, whenI, a]

set_option maxHeartbeats 400000 in
theorem sizeError_any (W H : Int) (w : World) :
 Calls Tryz.prog 42 #[.int .i64 W, .int .i64 H] w fun e w' => e = .returned (.int .i64 (sizeErr W H)) ∧ Bl w w' := by
 have hf := sizeErr_first W H
 cases h1 : inB W 1 4000 <;> cases h2 : inB H 1 4000
 case true.true =>
  have hm := mul_bd (inB_true.1 h1).1 (inB_true.1 h1).2 (inB_true.1 h2).1 (inB_true.1 h2).2
  rw [h1, h2] at hf
  simp only [Bool.not_true, Bool.or_self, Bool.and_self, Bool.true_and] at hf
  have Hf := Lib.hid hf; clear hf
  go_enter Tryz.func42, Tryz.ntmps42
  go_wp2_with (first | (go_at_call 12; refine (in_any _ _ _ _).mono ?_; rintro e w' ⟨rfl, rfl⟩) | (go_at_call 10; refine (when_any _ _ _).mono ?_; rintro e w' ⟨rfl, rfl⟩) | (go_at_call 7; refine (first2_any _ _ _ _ (Blk.new _ _ _)).mono ?_; rintro e w' ⟨rfl, rfl⟩))
  go_ret
  exact ⟨ret_int Hf.out, (Bl.refl _).alloc _⟩
 all_goals
  rw [h1, h2] at hf
  simp only [Bool.not_true, Bool.not_false, Bool.or_self, Bool.and_self, Bool.false_and, Bool.and_false, Bool.or_true, Bool.true_or] at hf
  have Hf := Lib.hid hf; clear hf
  go_enter Tryz.func42, Tryz.ntmps42
  go_wp2_with (first | (go_at_call 12; refine (in_any _ _ _ _).mono ?_; rintro e w' ⟨rfl, rfl⟩) | (go_at_call 10; refine (when_any _ _ _).mono ?_; rintro e w' ⟨rfl, rfl⟩) | (go_at_call 7; refine (first2_any _ _ _ _ (Blk.new _ _ _)).mono ?_; rintro e w' ⟨rfl, rfl⟩))
  go_ret
  exact ⟨ret_int Hf.out, (Bl.refl _).alloc _⟩

/-! ### a page's error -/
theorem pageErr_first (W H : Int) (n : Nat) (b : Bool) (hb : sizeErr W H = 0 → b = !decide ((n : Int) = W * H)) : firstNZ [sizeErr W H, whenI b 2] = pageErr W H n := by
 unfold pageErr
 by_cases h : sizeErr W H = 0
 · rw [hb h, if_pos h, h]
   by_cases h5 : (n : Int) = W * H <;> simp [firstNZ, whenI, h5]
 · simp [firstNZ, h]

theorem ne_wrap (W H : Int) (n : Nat) (h : sizeErr W H = 0) : ((n : Int) != wrap64 (W * H)) = !decide ((n : Int) = W * H) := by
 have hz := sizeErr_zero h
 have hm := mul_bd hz.1 hz.2.1 hz.2.2.1 hz.2.2.2.1
 have e : wrap64 (W * H) = W * H := by unfold wrap64; omega
 rw [e]
 by_cases hx : (n : Int) = W * H <;> simp [hx]

theorem pageErr_zero {W H : Int} {n : Nat} (h : pageErr W H n = 0) : sizeErr W H = 0 ∧ (n : Int) = W * H := by
 unfold pageErr at h
 split at h
 · rename_i a
   refine ⟨a, ?_⟩
   split at h
   · assumption
   · omega
 · contradiction

set_option maxRecDepth 100000 in
set_option maxHeartbeats 400000 in
theorem bitsError_any (W H : Int) (A : Option Addr) (n c : Nat) (w : World) :
 Calls Tryz.prog 9 #[.agg #[.int .i64 W, .int .i64 H, .slice A n c]] w fun e w' => e = .returned (.int .i64 (pageErr W H n)) ∧ Bl w w' := by
 go_enter Tryz.func9, Tryz.ntmps9
 go_wp2_with fail
 refine wp_region_flow [(true, 0), (true, 1), (true, 2), (true, 3), (true, 5), (true, 6), (true, 7), (true, 8), (true, 9), (true, 10), (true, 11), (true, 12), (true, 13), (false, 4), (false, 14), (false, 15), (false, 16), (true, 17)] (fun _ => false) (by kernel_rfl) (by kernel_rfl) (by kernel_rfl) (by kernel_rfl) ?_
 iterate 13
  apply Flow.calm2 _ _ rfl rfl
  · intro w' hb' K' hK'
    obtain ⟨hc', hf'⟩ := hb'.rule
    go_simp
    try go_ints
    exact hK'
  · intro K' hK'
    simp only [sqA]
    exact hK'
 apply Flow.move rfl
 go_wp2_with fail
 refine (sizeError_any _ _ _).mono ?_
 rintro e w1 ⟨rfl, HB1⟩
 go_wp2_with fail
 refine ⟨fun _ => (by first | exact HB1 | exact Bl.refl _), ?_⟩
 apply Flow.move rfl
 go_wp2_with fail
 refine (when_any _ _ _).mono ?_
 rintro e w2 ⟨rfl, rfl⟩
 go_wp2_with fail
 refine ⟨fun _ => (by first | exact HB2 | exact Bl.refl _), ?_⟩
 apply Flow.move rfl
 go_wp2_with fail
 first | refine ⟨fun _ => ?_, ?_⟩ | refine ⟨?_, ?_⟩
 · repeat' (first | exact Bl.refl _ | refine Bl.drewL ?_ | refine Bl.drew ?_ | refine Bl.alloc ?_ _)
 apply Flow.move rfl
 go_wp2_with fail
 refine (first2_any _ _ _ _ (Blk.new _ _ _)).mono ?_
 rintro e w3 ⟨rfl, rfl⟩
 go_wp2_with fail
 refine ⟨fun _ => (by first | exact HB4 | exact Bl.refl _), ?_⟩
 iterate 1
  apply Flow.asg _ rfl
  · intro K' hK'
    simp only [sqA, Act.eval, arr_getD, List.getD_cons_zero, List.getD_cons_succ]
    exact hK'
 refine Flow.done ?_
 go_wp2_with fail
 go_ret
 refine ⟨ret_int (pageErr_first W H n _ (ne_wrap W H n)), ?_⟩
 exact ((((Bl.refl _).alloc _).drew).trans HB1).alloc _

set_option maxRecDepth 100000 in
set_option maxHeartbeats 400000 in
theorem checkBits_any (W H : Int) (A : Option Addr) (n c : Nat) (w : World) :
 Calls Tryz.prog 84 #[.agg #[.int .i64 W, .int .i64 H, .slice A n c]] w fun e w' => e = .returned (.int .i64 (pageErr W H n)) ∧ Bl w w' := by
 by_cases h : sizeErr W H = 0
 · have hz := sizeErr_zero h
   have hm := mul_bd hz.1 hz.2.1 hz.2.2.1 hz.2.2.2.1
   have hp : pageErr W H n = if (n : Int) = W * H then 0 else 2 := by unfold pageErr; rw [if_pos h]
   by_cases h5 : (n : Int) = W * H
   · rw [if_pos h5] at hp
     have hq : ((n : Int) != W * H) = false := by simp [h5]
     have H5 := Lib.hid h5; clear h5
     have Hp := Lib.hid hp; clear hp
     go_enter Tryz.func84, Tryz.ntmps84
     go_wp2_with (go_at_call 117; refine (checkSize_any _ _ _).mono ?_; rintro e w' ⟨rfl, rfl⟩)
     go_ret
     exact ⟨ret_int Hp.out.symm, (Bl.refl _).alloc _⟩
   · rw [if_neg h5] at hp
     have hq : ((n : Int) != W * H) = true := by simp [h5]
     have H5 := Lib.hid h5; clear h5
     have Hp := Lib.hid hp; clear hp
     go_enter Tryz.func84, Tryz.ntmps84
     go_wp2_with (go_at_call 117; refine (checkSize_any _ _ _).mono ?_; rintro e w' ⟨rfl, rfl⟩)
     go_ret
     exact ⟨ret_int Hp.out.symm, (Bl.refl _).alloc _⟩
 · have hp : pageErr W H n = sizeErr W H := by unfold pageErr; rw [if_neg h]
   have hq : (sizeErr W H != 0) = true := by simp [h]
   have Hp := Lib.hid hp; clear hp h
   go_enter Tryz.func84, Tryz.ntmps84
   go_wp2_with (go_at_call 117; refine (checkSize_any _ _ _).mono ?_; rintro e w' ⟨rfl, rfl⟩)
   go_ret
   exact ⟨ret_int Hp.out.symm, (Bl.refl _).alloc _⟩

theorem page_nat {W H : Int} {n : Nat} (h : pageErr W H n = 0) : ∃ W' H' : Nat, W = (W' : Int) ∧ H = (H' : Int) ∧ n = W' * H' ∧ W' ≤ 4000 ∧ H' ≤ 4000 ∧ W' * H' ≤ 1048576 := by
 obtain ⟨hs, hn⟩ := pageErr_zero h
 have hz' := sizeErr_zero hs
 obtain ⟨W, rfl⟩ := Int.eq_ofNat_of_zero_le (show 0 ≤ W by omega)
 obtain ⟨H, rfl⟩ := Int.eq_ofNat_of_zero_le (show 0 ≤ H by omega)
 have := Int.natCast_mul W H
 exact ⟨W, H, rfl, rfl, by omega, by omega, by omega, by omega⟩

end Go.Proofs.YthobmednnocklaaGreatDoor


/-! Sums of values from the upper left corner on: what page.SumsOf makes, what the sum of a box is. -/
namespace Go.Proofs.YthobmednnocklaaGreatDoor
open Go.RowKit

theorem info_int : (Tryz.prog.info? 3).map (fun i => (i.zero, i.size, i.bytes)) = some (some (.int .i64 0), 1, 8) := by kernel_rfl
theorem info_bool : (Tryz.prog.info? 4).map (fun i => (i.zero, i.size, i.bytes)) = some (some (.bool false), 1, 1) := by kernel_rfl
/-! ### plain -/
def rowSum (v : Nat → Int) (W y : Nat) : Nat → Int
 | 0 => 0
 | x + 1 => rowSum v W y x + v (y * W + x)
def sat (v : Nat → Int) (W : Nat) : Nat → Nat → Int
 | 0, _ => 0
 | y + 1, x => sat v W y x + rowSum v W y x
def satAt (v : Nat → Int) (W k : Nat) : Int := sat v W (k / (W + 1)) (k % (W + 1))

theorem sat_zero (v : Nat → Int) (W : Nat) : ∀ y, sat v W y 0 = 0
 | 0 => rfl
 | y + 1 => by simp [sat, sat_zero v W y, rowSum]
theorem satAt_eq (v : Nat → Int) (W y x : Nat) (hx : x ≤ W) : satAt v W (y * (W + 1) + x) = sat v W y x := by
 unfold satAt
 rw [Nat.mul_comm, Nat.mul_add_div (by omega), Nat.div_eq_of_lt (by omega), Nat.mul_add_mod, Nat.mod_eq_of_lt (by omega), Nat.add_zero]
theorem rowSum_bd {v : Nat → Int} (hv : ∀ i, 0 ≤ v i ∧ v i ≤ 255) (W y : Nat) : ∀ x, 0 ≤ rowSum v W y x ∧ rowSum v W y x ≤ 255 * x
 | 0 => by simp [rowSum]
 | x + 1 => by
  have := rowSum_bd hv W y x
  have := hv (y * W + x)
  simp only [rowSum]
  omega
theorem sat_bd {v : Nat → Int} (hv : ∀ i, 0 ≤ v i ∧ v i ≤ 255) (W x : Nat) (hx : x ≤ 4000) : ∀ y, 0 ≤ sat v W y x ∧ sat v W y x ≤ 1020000 * y
 | 0 => by simp [sat]
 | y + 1 => by
  have := sat_bd hv W x hx y
  have := rowSum_bd hv W y x
  simp only [sat]
  omega
theorem satAt_bd {v : Nat → Int} (hv : ∀ i, 0 ≤ v i ∧ v i ≤ 255) (W H k : Nat) (hW : W ≤ 4000) (hH : H ≤ 4000) (hk : k < (W + 1) * (H + 1)) : 0 ≤ satAt v W k ∧ satAt v W k ≤ 5000000000 := by
 have h1 : k % (W + 1) < W + 1 := Nat.mod_lt _ (by omega)
 have h2 : k / (W + 1) < H + 1 := Nat.div_lt_of_lt_mul hk
 have := sat_bd hv W (k % (W + 1)) (by omega) (k / (W + 1))
 unfold satAt
 omega

/-- The sums that stand behind the pointer. -/
def IsSums (w : World) (p g W H : Nat) (v : Nat → Int) : Prop :=
 Blk w p 377 #[.int .i64 W, .int .i64 H, .slice (some ⟨g, 0, none⟩) ((W + 1) * (H + 1)) ((W + 1) * (H + 1))] ∧
 ∃ cs : Array Value, Blk w g 3 cs ∧ cs.size = (W + 1) * (H + 1) ∧ ∀ k, k < (W + 1) * (H + 1) → cs[k]? = some (.int .i64 (satAt v W k))
theorem IsSums.bl {w w' : World} {p g W H : Nat} {v : Nat → Int} (h : IsSums w p g W H v) (hb : Bl w w') : IsSums w' p g W H v :=
 ⟨h.1.bl hb, h.2.imp fun _ h' => ⟨h'.1.bl hb, h'.2⟩⟩

/-- The sums as far as they are made. -/
def SumsInv (w : World) (W H : Nat) (v : Nat → Int) (wr : World) (m : Nat) : Prop :=
 Bl w wr ∧ Blk wr (w.heap.size + 1) 377 #[.int .i64 W, .int .i64 H, .slice (some ⟨w.heap.size, 0, none⟩) ((W + 1) * (H + 1)) ((W + 1) * (H + 1))] ∧
 ∃ cs : Array Value, Blk wr w.heap.size 3 cs ∧ cs.size = (W + 1) * (H + 1) ∧ ∀ k, k < (W + 1) * (H + 1) → cs[k]? = some (.int .i64 (if k < m then satAt v W k else 0))

theorem SumsInv.bl {w wr w' : World} {W H : Nat} {v : Nat → Int} {m : Nat} (h : SumsInv w W H v wr m) (hb : Bl wr w') : SumsInv w W H v w' m :=
 ⟨h.1.trans hb, h.2.1.bl hb, h.2.2.imp fun _ h' => ⟨h'.1.bl hb, h'.2⟩⟩

theorem SumsInv.start (w : World) (W H : Nat) (v : Nat → Int) :
 SumsInv w W H v ((w.alloc (.cells (madeCells #[.int .i64 0] ((W + 1) * (H + 1))) 3)).alloc (.cells #[.int .i64 W, .int .i64 H, .slice (some ⟨w.heap.size, 0, none⟩) ((W + 1) * (H + 1)) ((W + 1) * (H + 1))] 377)) (W + 2) := by
 refine ⟨((Bl.refl w).alloc _).alloc _, ?_, madeCells #[.int .i64 0] ((W + 1) * (H + 1)), (Blk.new w _ _).alloc _, size_madeCells _ _, ?_⟩
 · have := Blk.new (w.alloc (.cells (madeCells #[.int .i64 0] ((W + 1) * (H + 1))) 3)) 377 #[.int .i64 W, .int .i64 H, .slice (some ⟨w.heap.size, 0, none⟩) ((W + 1) * (H + 1)) ((W + 1) * (H + 1))]
   simpa using this
 · intro k hk
   have e : satAt v W k = 0 ∨ ¬ k < W + 2 := by
    rcases Nat.lt_or_ge k (W + 1) with h | h
    · left; unfold satAt; rw [Nat.div_eq_of_lt h]; rfl
    · rcases Nat.lt_or_ge k (W + 2) with h' | h'
      · left
        obtain rfl : k = W + 1 := by omega
        unfold satAt
        rw [Nat.div_self (by omega), Nat.mod_self]
        exact sat_zero v W 1
      · right; omega
   have : (if k < W + 2 then satAt v W k else 0) = 0 := by
    rcases e with e | e
    · rw [e]; simp
    · rw [if_neg e]
   rw [this]
   simp [madeCells, hk, Nat.mod_one]

/-- One sum more. -/
theorem SumsInv.step {w wr : World} {W H : Nat} {v : Nat → Int} {m : Nat} (h : SumsInv w W H v wr m) (s : Int) (hs : s = satAt v W m) (_hm : m < (W + 1) * (H + 1)) :
 SumsInv w W H v (wr.setCell ⟨w.heap.size, m, none⟩ (.int .i64 s)) (m + 1) := by
 obtain ⟨hb, hp, cs, hc, hz, hk⟩ := h
 refine ⟨hb.setCell (by simp) _, hp.far (by simp) _, cs.setIfInBounds m (.int .i64 s), hc.set_ m _, by simpa using hz, fun k hkl => ?_⟩
 by_cases e : m = k
 · subst e
   simp [hz, hkl, hs]
 · rw [Array.getElem?_setIfInBounds_ne e, hk k hkl]
   have : (k < m + 1) = (k < m) := by apply propext; omega
   simp [this]

/-- At a row's end the first sum of the next one is there. -/
theorem SumsInv.row {w wr : World} {W H y : Nat} {v : Nat → Int} (h : SumsInv w W H v wr ((y + 1) * (W + 1) + W + 1)) : SumsInv w W H v wr ((y + 1 + 1) * (W + 1) + 1) := by
 obtain ⟨hb, hp, cs, hc, hz, hk⟩ := h
 refine ⟨hb, hp, cs, hc, hz, fun k hkl => ?_⟩
 rw [hk k hkl]
 have e : (y + 1 + 1) * (W + 1) = (y + 1) * (W + 1) + W + 1 := by rw [Nat.add_mul (y+1) 1]; omega
 by_cases h1 : k < (y + 1) * (W + 1) + W + 1
 · rw [if_pos h1, if_pos (by omega)]
 · rw [if_neg h1]
   by_cases h2 : k < (y + 1 + 1) * (W + 1) + 1
   · rw [if_pos h2]
     obtain rfl : k = (y + 1 + 1) * (W + 1) + 0 := by omega
     rw [satAt_eq v W _ 0 (by omega), sat_zero]
   · rw [if_neg h2]

theorem SumsInv.done {w wr : World} {W H : Nat} {v : Nat → Int} (h : SumsInv w W H v wr ((H + 1) * (W + 1) + 1)) : IsSums wr (w.heap.size + 1) w.heap.size W H v := by
 obtain ⟨hb, hp, cs, hc, hz, hk⟩ := h
 refine ⟨hp, cs, hc, hz, fun k hkl => ?_⟩
 rw [hk k hkl, if_pos]
 have := Nat.mul_comm (W + 1) (H + 1)
 omega

theorem mul_step {a b y : Nat} (h : y < b) : y * a + a ≤ b * a := by
 have := Nat.mul_le_mul_right a (show y + 1 ≤ b from h)
 rw [Nat.add_mul, Nat.one_mul] at this
 exact this

set_option maxRecDepth 100000 in
set_option maxHeartbeats 1000000 in
theorem sumsOf_any (W H : Nat) (v : Nat → Int) (hv : ∀ i, 0 ≤ v i ∧ v i ≤ 255) (k : FuncId) (cap : Array Value) (w : World)
 (hent : ∀ args w, (callFunc k args).run Tryz.prog w = .ok (.enter k args) w)
 (hW : W ≤ 4000) (hH : H ≤ 4000)
 (hk : ∀ wx (i : Nat), Bl w wx → i < W * H → Calls Tryz.prog k (#[.int .i64 i] ++ cap) wx fun e w' => e = .returned (.int .i64 (v i)) ∧ Bl wx w') :
 Calls Tryz.prog 248 #[.int .i64 W, .int .i64 H, .func (.func k) #[] cap] w fun e w' =>
  ∃ p g, e = .returned (.pointer (some ⟨p, 0, none⟩)) ∧ IsSums w' p g W H v ∧ Bl w w' := by
 have hN : (W + 1) * (H + 1) ≤ 16008001 := by
  have := Nat.mul_le_mul (show W + 1 ≤ 4001 by omega) (show H + 1 ≤ 4001 by omega)
  omega
 have hWH : W * H ≤ 16000000 := by
  have := Nat.mul_le_mul hW hH
  omega
 have hmk := run_make_row' (P := Tryz.prog) 57 3 (.int .i64 0) 8 Tryz.underlying57 info_int rfl .i64 .i64 ((W + 1) * (H + 1)) (by omega) (by omega)
 have eN : ((W : Int) + 1) * ((H : Int) + 1) = (((W + 1) * (H + 1) : Nat) : Int) := by simp
 have h1 : (0:Int) ≤ ((W : Int) + 1) * ((H : Int) + 1) := by omega
 have h2 : ((W : Int) + 1) * ((H : Int) + 1) ≤ 16008001 := by omega
 rw [← eN] at hmk
 have EN := Lib.hid eN; clear eN
 have Hk := Lib.hid hk; clear hk
 have Hv := Lib.hid hv; clear hv
 have inv0 := Lib.hid (SumsInv.start w W H v)
 go_enter Tryz.func248, Tryz.ntmps248
 go_wp2_with fail
 go_loopw [22] (fun u wr => ∃ y : Nat, y ≤ H ∧ u = .int .i64 y ∧ SumsInv w W H v wr ((y + 1) * (W + 1) + 1)) (fun u _ => H - (intOf u).toNat)
 case atStart => exact ⟨0, Nat.zero_le _, rfl, by have := inv0.out; simpa using this⟩
 case round =>
  obtain ⟨y, hy, rfl, hinv⟩ := hrel
  by_cases hlt : y < H
  · go_wp2_with fail
    go_loopw [9, 26] (fun r u w2 => ∃ x : Nat, x ≤ W ∧ u = .int .i64 x ∧ r = .int .i64 (rowSum v W y x) ∧ SumsInv w W H v w2 ((y + 1) * (W + 1) + x + 1)) (fun _ u _ => W - (intOf u).toNat)
    case atStart => exact ⟨0, Nat.zero_le _, rfl, rfl, hinv⟩
    case round =>
     obtain ⟨x, hx, rfl, rfl, hinv2⟩ := hrel
     by_cases hlt2 : x < W
     · have m1 := mul_step (a := W) hlt
       have m2 := mul_step (a := W + 1) hlt
       have m3 : (y + 1) * (W + 1) = y * (W + 1) + W + 1 := by rw [Nat.add_mul]; omega
       have m4 := Nat.mul_comm H W
       have m5 : (W + 1) * (H + 1) = H * (W + 1) + W + 1 := by rw [Nat.mul_comm, Nat.add_mul]; omega
       have hbd := (rowSum_bd Hv.out W y x)
       have hvi := Hv.out (y * W + x)
       obtain ⟨i, hi⟩ : ∃ i, i = y * W + x := ⟨_, rfl⟩
       obtain ⟨a, ha⟩ : ∃ a, a = y * (W + 1) + (x + 1) := ⟨_, rfl⟩
       obtain ⟨b, hb⟩ : ∃ b, b = (y + 1) * (W + 1) + (x + 1) := ⟨_, rfl⟩
       have hva : satAt v W a = sat v W y (x + 1) := by rw [ha, satAt_eq v W y (x + 1) (by omega)]
       have hvb : satAt v W b = satAt v W a + (rowSum v W y x + v i) := by rw [hva, hb, satAt_eq v W (y + 1) (x + 1) (by omega), hi]; rfl
       have hba := satAt_bd Hv.out W H a hW hH (by omega)
       have e1 : (y : Int) * (W : Int) + (x : Int) = (i : Int) := by rw [hi]; simp
       have e2 : (y : Int) * ((W : Int) + 1) + (x : Int) + 1 = (a : Int) := by rw [ha]; simp; omega
       have e3 : ((y : Int) + 1) * ((W : Int) + 1) + (x : Int) + 1 = (b : Int) := by rw [hb]; simp; omega
       have q1 : (0 : Int) ≤ (y : Int) * (W : Int) ∧ (y : Int) * (W : Int) ≤ 16000000 := by have := Int.natCast_mul y W; omega
       have q2 : (0 : Int) ≤ (y : Int) * ((W : Int) + 1) ∧ (y : Int) * ((W : Int) + 1) ≤ 16008001 := by omega
       have q3 : (0 : Int) ≤ ((y : Int) + 1) * ((W : Int) + 1) ∧ ((y : Int) + 1) * ((W : Int) + 1) ≤ 16008001 := by omega
       have q4 : (a : Int) < ((W : Int) + 1) * ((H : Int) + 1) := by have := EN.out; omega
       have q5 : (b : Int) < ((W : Int) + 1) * ((H : Int) + 1) := by have := EN.out; omega
       have hil : i < W * H := by omega
       rw [← hi] at hvi
       have hab : a < b := by omega
       have hbN : b < (W + 1) * (H + 1) := by omega
       have hb' : b = (y + 1) * (W + 1) + x + 1 := by omega
       rw [← hb'] at hinv2
       clear hva m1 m2 m3 m4 m5
       have Hi := Lib.hid hi; have Ha := Lib.hid ha; have Hb := Lib.hid hb'; have Hvb := Lib.hid hvb
       clear hi ha hb hb' hvb
       go_wp2_with fail
       refine (Hk.out _ i hinv2.1 hil).mono ?_
       rintro e w3 ⟨rfl, hb3⟩
       have hinv3 := hinv2.bl hb3
       clear hinv2
       obtain ⟨hbl, hp, cs, hc, hz, hcs⟩ := hinv3
       have kp := hp.all3
       have ka : w3.cell? ⟨w.heap.size, a, none⟩ = some (.int .i64 (satAt v W a)) := by rw [hc.cell, hcs a (by omega), if_pos hab]
       have kb : w3.cell? ⟨w.heap.size, b, none⟩ = some (.int .i64 0) := by rw [hc.cell, hcs b hbN, if_neg (by omega)]
       have kf := hc.frozen b
       have Hcs := Lib.hid hcs; clear hcs
       go_wp2_with fail
       refine wp_region_flow [(true, 0), (true, 1), (true, 2), (true, 3), (true, 4), (true, 5), (true, 6), (true, 7), (true, 8), (true, 9), (true, 10), (true, 11), (true, 12), (true, 13), (true, 14), (true, 15), (true, 16), (true, 17), (true, 18), (true, 19), (true, 20), (true, 21), (true, 22), (true, 23), (true, 24), (true, 25), (true, 26), (true, 27), (false, 28)] (fun i => i == 28) (by kernel_rfl) (by kernel_rfl) (by kernel_rfl) (by kernel_rfl) ?_
       iterate 1
        apply Flow.mv _ rfl
        · intro K' hK'
          simp only [sqA, Act.eval, arr_getD, List.getD_cons_zero, List.getD_cons_succ]
          exact hK'
       iterate 3
        apply Flow.calm2 _ _ rfl rfl
        · intro w' hb' K' hK'
          obtain ⟨hc', hf'⟩ := hb'.rule
          go_simp
          try go_ints
          exact hK'
        · intro K' hK'
          simp only [sqA]
          exact hK'
       iterate 1
        apply Flow.mv _ rfl
        · intro K' hK'
          simp only [sqA, Act.eval, arr_getD, List.getD_cons_zero, List.getD_cons_succ]
          exact hK'
       iterate 1
        apply Flow.calm2 _ _ rfl rfl
        · intro w' hb' K' hK'
          obtain ⟨hc', hf'⟩ := hb'.rule
          go_simp
          try go_ints
          exact hK'
        · intro K' hK'
          simp only [sqA]
          exact hK'
       iterate 1
        apply Flow.mv _ rfl
        · intro K' hK'
          simp only [sqA, Act.eval, arr_getD, List.getD_cons_zero]
          exact hK'
       iterate 2
        iterate 2
         apply Flow.calm2 _ _ rfl rfl
         · intro w' hb' K' hK'
           obtain ⟨hc', hf'⟩ := hb'.rule
           go_simp
           try go_ints
           exact hK'
         · intro K' hK'
           simp only [sqA]
           exact hK'
        iterate 1
         apply Flow.mv _ rfl
         · intro K' hK'
           simp only [sqA, Act.eval, arr_getD, List.getD_cons_zero, List.getD_cons_succ]
           exact hK'
       iterate 3
        apply Flow.calm2 _ _ rfl rfl
        · intro w' hb' K' hK'
          obtain ⟨hc', hf'⟩ := hb'.rule
          go_simp
          try go_ints
          exact hK'
        · intro K' hK'
          simp only [sqA]
          exact hK'
       iterate 2
        apply Flow.mv _ rfl
        · intro K' hK'
          simp only [sqA, Act.eval, arr_getD, List.getD_cons_zero, List.getD_cons_succ]
          exact hK'
       iterate 2
        apply Flow.calm2 _ _ rfl rfl
        · intro w' hb' K' hK'
          obtain ⟨hc', hf'⟩ := hb'.rule
          go_simp
          try go_ints
          exact hK'
        · intro K' hK'
          simp only [sqA]
          exact hK'
       iterate 1
        apply Flow.mv _ rfl
        · intro K' hK'
          simp only [sqA, Act.eval, arr_getD, List.getD_cons_zero, List.getD_cons_succ]
          exact hK'
       iterate 4
        apply Flow.calm2 _ _ rfl rfl
        · intro w' hb' K' hK'
          obtain ⟨hc', hf'⟩ := hb'.rule
          go_simp
          try go_ints
          exact hK'
        · intro K' hK'
          simp only [sqA]
          exact hK'
       iterate 1
        apply Flow.mv _ rfl
        · intro K' hK'
          simp only [sqA, Act.eval, arr_getD, List.getD_cons_zero, List.getD_cons_succ]
          exact hK'
       iterate 2
        apply Flow.calm2 _ _ rfl rfl
        · intro w' hb' K' hK'
          obtain ⟨hc', hf'⟩ := hb'.rule
          go_simp
          try go_ints
          exact hK'
        · intro K' hK'
          simp only [sqA]
          exact hK'
       refine Flow.tail _ rfl ?_
       go_wp2_with fail
       have hst := SumsInv.step (m := b) (v := v) ⟨hbl, hp, cs, hc, hz, Hcs.out⟩ (satAt v W a + (rowSum v W y x + v i)) Hvb.out.symm hbN
       have Hst := Lib.hid (hst.bl (Bl.refl _).drew); clear hst
       exact ⟨⟨x + 1, hlt2, by go_num, by simp only [rowSum]; rw [← Hi.out], by have := Hst.out; rw [Hb.out] at this ⊢; exact this⟩, by simp [intOf]; omega⟩
     · go_wp2_with fail
       obtain rfl : x = W := by omega
       exact ⟨⟨y + 1, hlt, by go_num, hinv2.row⟩, by simp [intOf]; omega⟩
  · go_wp2_with fail
    go_ret
    obtain rfl : y = H := by omega
    exact ⟨_, _, rfl, hinv.done, hinv.1⟩

end Go.Proofs.YthobmednnocklaaGreatDoor
