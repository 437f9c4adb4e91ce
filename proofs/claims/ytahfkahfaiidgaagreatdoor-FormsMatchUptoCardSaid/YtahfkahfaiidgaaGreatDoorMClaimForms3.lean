/- page.CutGray, slices.Contains of bools, page.Blank whatever comes. -/
import Derived.Test.YtahfkahfaiidgaaGreatDoorMClaimForms2
import Derived.Test.YtahfkahfaiidgaaGreatDoorMClaimForms1
import Derived.Test.YtahfkahfaiidgaaGreatDoorMClaimForms0

namespace Go.Proofs.YtahfkahfaiidgaaGreatDoor
open Go.RowKit

section
variable {P : Program} {ops : Array Oper} {Q : Exit → Act → World → Prop} {md : Region.Mode} {S : World → Prop}

/-- The ways on from a place: each begins with one operation, goes on in one order, and ends or parts anew. -/
inductive Tree
  | none
  | one (i : Nat) (σ : List (Bool × Nat)) (sub : Tree) (rest : Tree)
def Tree.idx : Tree → List Nat
  | .none => []
  | .one i _ _ rest => i :: rest.idx
def Tree.isNone : Tree → Bool
  | .none => true
  | .one .. => false
def Tree.depth : Tree → Nat
  | .none => 0
  | .one _ σ sub rest => max (1 + σ.length + sub.depth) rest.depth
def preOkS (md : Region.Mode) (ops : Array Oper) : List (Bool × Nat) → Array Bool → Bool
  | [], _ => true
  | (true, i) :: σ, listed => (Region.ready md ops listed).contains i && Region.free md ops listed i && preOkS md ops σ (listed.setIfInBounds i true)
  | (false, _) :: _, _ => false
def treeOk (md : Region.Mode) (ops : Array Oper) : Tree → Array Bool → Bool
  | .none, _ => true
  | .one i σ sub rest, listed => (if sub.isNone then flowOkS md ops σ (listed.setIfInBounds i true)
      else preOkS md ops σ (listed.setIfInBounds i true) && Region.ready md ops (listTo σ (listed.setIfInBounds i true)) == sub.idx && treeOk md ops sub (listTo σ (listed.setIfInBounds i true))) && treeOk md ops rest listed
def TreeWp (P : Program) (ops : Array Oper) (Q : Exit → Act → World → Prop) (S : World → Prop) : Tree → Act → World → Prop
  | .none, _, _ => True
  | .one i σ sub rest, a, w => wpOp P ops (NoPanic Q) i (fun a' w' => S w' ∧ (if sub.isNone then FlowS P ops (NoPanic Q) S σ a' w' else FlowS P ops (NoPanic (withK (TreeWp P ops Q S sub) Q)) S σ a' w')) a w ∧ TreeWp P ops Q S rest a w

theorem forkS_sound (hs : Region.noSelect ops = true) (hQ : ∀ c a d v w, Q (.panic c) (Act.put a d v) w → Q (.panic c) a w) {R : Exit → Act → World → Prop} {n : Nat} :
    ∀ (σ : List (Bool × Nat)) (fuel : Nat) (listed : Array Bool) (a : Act) (w : World), listed.size = ops.size → DownClosed md ops listed → σ.length + n ≤ fuel → preOkS md ops σ listed = true → S w →
      (∀ (fuel : Nat) (a : Act) (w : World), (listTo σ listed).size = ops.size → DownClosed md ops (listTo σ listed) → n ≤ fuel → S w → R .normal a w → wpAnyS P md ops Q S fuel (listTo σ listed) a w) →
      FlowS P ops R S σ a w → wpAnyS P md ops Q S fuel listed a w := by
  intro σ
  induction σ with
  | nil =>
    intro fuel listed a w hsz hdc hf hok hS hK h
    exact hK fuel a w hsz hdc (by simpa using hf) hS h
  | cons s σ ih =>
    obtain ⟨b, i⟩ := s
    intro fuel listed a w hsz hdc hf hok hS hK h
    cases fuel with
    | zero => simp at hf
    | succ fuel =>
      have hf' : σ.length + n ≤ fuel := by simp at hf; omega
      cases b with
      | true =>
        simp only [preOkS, Bool.and_eq_true] at hok
        obtain ⟨⟨h1, h2⟩, h4⟩ := hok
        obtain ⟨o, v, ho, hy, hfl⟩ := h
        have hir : i ∈ Region.ready md ops listed := by simpa using h1
        exact wpAnyS_first ho (Region.noSelect_spec hs) (fun c a w => hQ c a o.dst v w) fuel listed a w hsz hdc (Region.free_spec ho h2) hir hS hy (ih fuel _ _ _ (by simpa using hsz) (hdc.set hir) hf' h4 hS hK hfl)
      | false => simp [preOkS] at hok

theorem tree_sound (hs : Region.noSelect ops = true) : ∀ (B : Tree) (fuel : Nat) (listed : Array Bool) (a : Act) (w : World), listed.size = ops.size → DownClosed md ops listed → B.depth ≤ fuel + 1 → (∀ i ∈ B.idx, i ∈ Region.ready md ops listed) →
    treeOk md ops B listed = true → TreeWp P ops Q S B a w → ∀ i ∈ B.idx, wpOp P ops (NoPanic Q) i (fun a' w' => S w' ∧ wpAnyS P md ops (NoPanic Q) S fuel (listed.setIfInBounds i true) a' w') a w := by
  intro B
  induction B with
  | none => intro fuel listed a w _ _ _ _ _ _ i hi; cases hi
  | one j σ sub rest ihs ihr =>
    intro fuel listed a w hsz hdc hf hrd hok h i hi
    have hf1 : 1 + σ.length + sub.depth ≤ fuel + 1 := Nat.le_trans (Nat.le_max_left _ _) hf
    have hf2 : rest.depth ≤ fuel + 1 := Nat.le_trans (Nat.le_max_right _ _) hf
    simp only [treeOk, Bool.and_eq_true] at hok
    obtain ⟨hk1, hk2⟩ := hok
    obtain ⟨h1, h2⟩ := h
    rcases List.mem_cons.1 hi with rfl | hi'
    · have hir := hrd i hi
      refine wpOp_mono (fun a' w' h' => ⟨h'.1, ?_⟩) h1
      have h'' := h'.2
      have hS' := h'.1
      cases hn : sub.isNone with
      | true =>
        rw [hn] at h'' hk1
        exact flowS_sound hs noPanic_put σ fuel _ _ _ (by simpa using hsz) (hdc.set hir) (by omega) hk1 hS' h''
      | false =>
        rw [hn] at h'' hk1
        simp only [Bool.false_eq_true, if_false, Bool.and_eq_true, beq_iff_eq] at h'' hk1
        obtain ⟨⟨k1, k2⟩, k3⟩ := hk1
        refine forkS_sound (n := sub.depth) hs noPanic_put σ fuel _ _ _ (by simpa using hsz) (hdc.set hir) (by omega) k1 hS' ?_ h''
        intro fuel' a2 w2 hsz2 hdc2 hf' hS2 hK
        have hK' : TreeWp P ops Q S sub a2 w2 := hK
        have hne : sub.idx ≠ [] := by
          cases sub with
          | none => cases hn
          | one => exact List.cons_ne_nil _ _
        have hd1 : 1 ≤ sub.depth := by
          cases sub with
          | none => cases hn
          | one i2 s2 a2 b2 => exact Nat.le_trans (by omega) (Nat.le_max_left _ _)
        cases fuel' with
        | zero => omega
        | succ fuel' =>
          refine ⟨fun h0 => absurd (k2.symm.trans h0) hne, fun k hk => ?_⟩
          refine ihs fuel' _ a2 w2 hsz2 hdc2 (by omega) (fun i hi => by rw [k2]; exact hi) k3 hK' k (by rw [← k2]; exact hk)
    · exact ihr fuel listed a w hsz hdc hf2 (fun i hi => hrd i (List.mem_cons_of_mem _ hi)) hk2 h2 i hi'

/-- **A REGION BY A TREE OF WAYS OVER A BASE WORLD.** -/
theorem wp_region_tree {id : Nat} {a : Act} {w : World} (S : World → Prop) (σ : List (Bool × Nat)) (B : Tree) (hm : P.follows .mixedOrders = true) (hs : Region.noSelect ops = true)
    (hl : (decide (σ.length + B.depth ≤ ops.size) && !B.isNone) = true) (hok : (preOkS .any ops σ (Array.replicate ops.size false) && Region.ready .any ops (listTo σ (Array.replicate ops.size false)) == B.idx && treeOk .any ops B (listTo σ (Array.replicate ops.size false))) = true) (hS : S w.drew)
    (h : FlowS P ops (NoPanic (withK (TreeWp P ops Q S B) Q)) S σ a w.drew) : (Code.region id ops true).wp P Q a w := by
  simp only [Bool.and_eq_true, beq_iff_eq, Bool.not_eq_true', decide_eq_true_eq] at hl hok
  obtain ⟨hl, hn⟩ := hl
  obtain ⟨⟨k1, k2⟩, k3⟩ := hok
  refine wp_region_noPanic (wp_region_any hm (wpAny_of_S _ _ _ _ (forkS_sound (n := B.depth) hs noPanic_put σ _ _ _ _ (by simp) downClosed_start (by omega) k1 hS ?_ h)))
  intro fuel a2 w2 hsz2 hdc2 hf' hS2 hK
  have hK' : TreeWp P ops Q S B a2 w2 := hK
  have hne : B.idx ≠ [] := by
    cases B with
    | none => cases hn
    | one => exact List.cons_ne_nil _ _
  have hd1 : 1 ≤ B.depth := by
    cases B with
    | none => cases hn
    | one i2 s2 a2 b2 => exact Nat.le_trans (by omega) (Nat.le_max_left _ _)
  cases fuel with
  | zero => omega
  | succ fuel =>
    refine ⟨fun h0 => absurd (k2.symm.trans h0) hne, fun k hk => ?_⟩
    exact tree_sound hs B fuel _ a2 w2 hsz2 hdc2 (by omega) (fun i hi => by rw [k2]; exact hi) k3 hK' k (by rw [← k2]; exact hk)

theorem Tree.fork {B : Tree} {a : Act} {w : World} (h : TreeWp P ops Q S B a w) : FlowS P ops (NoPanic (withK (TreeWp P ops Q S B) Q)) S [] a w := h
theorem Tree.nil {a : Act} {w : World} : TreeWp P ops Q S .none a w := trivial
variable {l : List Oper}
/-- A way that ends. -/
theorem Tree.last {i : Nat} {o : Oper} {σ : List (Bool × Nat)} {rest : Tree} {a : Act} {w : World} (ho : l[i]? = some o)
    (h : wpList P l.toArray (Exit.then (fun a' w' => S w' ∧ FlowS P l.toArray (NoPanic Q) S σ a' w') (NoPanic Q)) [o] a w) (hr : TreeWp P l.toArray Q S rest a w) : TreeWp P l.toArray Q S (.one i σ .none rest) a w := by
  have ho' : l.toArray[i]? = some o := by simpa using ho
  refine ⟨?_, hr⟩
  simp only [wpOp, ho', Tree.isNone, if_true]
  simp only [wpList] at h
  exact h
/-- A way that parts anew. -/
theorem Tree.part {i : Nat} {o : Oper} {σ : List (Bool × Nat)} {rest : Tree} {i2 : Nat} {s2 : List (Bool × Nat)} {a2 b2 : Tree} {a : Act} {w : World} (ho : l[i]? = some o)
    (h : wpList P l.toArray (Exit.then (fun a' w' => S w' ∧ FlowS P l.toArray (NoPanic (withK (TreeWp P l.toArray Q S (.one i2 s2 a2 b2)) Q)) S σ a' w') (NoPanic Q)) [o] a w) (hr : TreeWp P l.toArray Q S rest a w) : TreeWp P l.toArray Q S (.one i σ (.one i2 s2 a2 b2) rest) a w := by
  have ho' : l.toArray[i]? = some o := by simpa using ho
  refine ⟨?_, hr⟩
  simp only [wpOp, ho', Tree.isNone, Bool.false_eq_true, if_false]
  simp only [wpList] at h
  exact h
end

end Go.Proofs.YtahfkahfaiidgaaGreatDoor


/-! page.CutGray, slices.Contains of bools, page.Blank whatever comes. -/
namespace Go.Proofs.YtahfkahfaiidgaaGreatDoor
open Go.RowKit

/-! ### slices.Contains of bools -/
set_option maxHeartbeats 1000000 in
theorem indexB_any (A : Option Addr) (n c : Nat) (bs : List Bool) (v : Bool) (w : World) (hA : Reads w 1 A n (bs.map .bool)) (hn : n ≤ 1099511627776) :
    Calls Tryz.prog 79 #[.slice A n c, .bool v] w fun e w' => ∃ k : Int, e = .returned (.int .i64 k) ∧ (0 ≤ k ↔ v ∈ bs) ∧ w = w' := by
  have hl : bs.length = n := by have := hA.1; simpa using this
  have HA := Lib.hid hA; have HL := Lib.hid hl
  clear hA hl
  go_enter Tryz.func79, Tryz.ntmps79
  go_wp2_with fail
  go_loopw [8] (fun u wr => ∃ i : Nat, i ≤ n ∧ u = .int .i64 i ∧ w = wr ∧ ∀ j, j < i → bs[j]? ≠ some v) (fun u _ => n - (intOf u).toNat)
  case atStart => exact ⟨0, Nat.zero_le _, rfl, rfl, fun j hj => absurd hj (Nat.not_lt_zero _)⟩
  case round =>
    obtain ⟨i, hi, rfl, rfl, hno⟩ := hrel
    have Hno := Lib.hid hno
    clear hno
    by_cases hlt : i < n
    · obtain ⟨ad, u, rfl, hu, hc⟩ := HA.out.at_ hlt
      have hl2 : i < bs.length := by rw [HL.out]; exact hlt
      have hu' : u = .bool bs[i] := by simpa [hl2] using hu.symm
      have hg : bs[i]? = some bs[i] := List.getElem?_eq_getElem hl2
      subst hu'
      obtain ⟨b, hb⟩ : ∃ b, b = bs[i] := ⟨_, rfl⟩
      rw [← hb] at hc hg
      have Hg := Lib.hid hg
      clear hu hb hg hl2
      by_cases hbv : v = b
      · subst hbv
        have hq : (v == v) = true := by cases v <;> rfl
        have HX := Lib.hid (show 0 ≤ (i : Int) ↔ v ∈ bs from ⟨fun _ => List.mem_of_getElem? Hg.out, fun _ => Int.natCast_nonneg i⟩)
        cases v <;> (go_wp2_with fail; go_ret; exact ⟨_, rfl, HX.out, rfl⟩)
      · have HY : Hid (∀ j, j < i + 1 → bs[j]? ≠ some v) := fun j hj => by
          rcases Nat.lt_succ_iff_lt_or_eq.1 hj with h | rfl
          · exact Hno.out j h
          · rw [Hg.out]; intro e; exact hbv (Option.some.inj e).symm
        cases v <;> cases b <;> first | exact absurd rfl hbv | (clear hbv; go_wp2_with fail; exact ⟨⟨i + 1, hlt, by go_num, by first | rfl | trivial, HY.out⟩, by simp [intOf]; omega⟩)
    · have HX := Lib.hid (show (0 : Int) ≤ -1 ↔ v ∈ bs from ⟨fun h => absurd h (by decide), fun h => by
        obtain ⟨j, hj⟩ := List.getElem?_of_mem h
        have := (List.getElem?_eq_some_iff.1 hj).1
        exact absurd hj (Hno.out j (by have := HL.out; omega))⟩)
      go_wp2_with fail
      go_ret
      exact ⟨_, rfl, HX.out, rfl⟩
set_option maxHeartbeats 1000000 in
theorem containsB_any (A : Option Addr) (n c : Nat) (bs : List Bool) (v : Bool) (w : World) (hA : Reads w 1 A n (bs.map .bool)) (hn : n ≤ 1099511627776) :
    Calls Tryz.prog 35 #[.slice A n c, .bool v] w fun e w' => e = .returned (.bool (decide (v ∈ bs))) ∧ w = w' := by
  go_enter Tryz.func35, Tryz.ntmps35
  go_wp2_with fail
  refine (indexB_any A n c bs v w hA hn).mono ?_
  rintro e w1 ⟨k, rfl, hk, rfl⟩
  have Hk := Lib.hid hk
  clear hk hA
  go_wp2_with fail
  go_ret
  exact ⟨ret_bool (decide_eq_decide.2 Hk.out), rfl⟩

/-! ### page.Blank -/
end Go.Proofs.YtahfkahfaiidgaaGreatDoor
