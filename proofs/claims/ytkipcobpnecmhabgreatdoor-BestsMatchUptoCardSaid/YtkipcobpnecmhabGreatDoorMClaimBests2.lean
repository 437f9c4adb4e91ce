/- page.CutGray, slices.Contains of bools, page.Blank whatever comes. -/
import Derived.Test.YtkipcobpnecmhabGreatDoorMClaimBests0
import Derived.Test.YtkipcobpnecmhabGreatDoorMClaimBests1

namespace Go.Proofs.YtkipcobpnecmhabGreatDoor
open Go.RowKit

theorem Reads.lt {w : World} {A : Option Addr} {n : Nat} {xs : List Value} (h : Reads w 1 A n xs) : ∀ a, A = some a → 0 < n → a.block < w.heap.size := fun a ha hn => by
  obtain ⟨ad, u, e, -, hc⟩ := h.at_ hn
  rw [ha] at e
  injection e with e
  subst e
  have := World.block_lt_of_cell? w _ hc
  rwa [block_of_add] at this
theorem Reads.far {w : World} {size n : Nat} {A : Option Addr} {xs : List Value} (h : Reads w size A n xs) {p : Addr} (hn : ∀ a, A = some a → 0 < n → a.block ≠ p.block) (u : Value) : Reads (w.setCell p u) size A n xs :=
  ⟨h.1, fun hk => by
    obtain ⟨ad, e, hc⟩ := h.2 hk
    exact ⟨ad, e, fun j x hx => by rw [World.cell?_setCell_other w p _ u (fun e' => by have h1 := hn ad e hk; have h2 := congrArg Addr.block e'; rw [block_of_add] at h2; omega)]; exact hc j x hx⟩⟩
theorem Reads.grown {w w' : World} {n : Nat} {A : Option Addr} {xs : List Value} {row : Option Nat} (h : Reads w 1 A n xs) (hb : w.grownBy w' row) (hn : ∀ a, A = some a → 0 < n → some a.block ≠ row) : Reads w' 1 A n xs :=
  ⟨h.1, fun hk => by
    obtain ⟨ad, e, hc⟩ := h.2 hk
    refine ⟨ad, e, fun j x hx => ?_⟩
    rw [World.cell?_of_block (hb.block _ (by rw [block_of_add]; exact h.lt ad e hk) (by rw [block_of_add]; exact hn ad e hk))]
    exact hc j x hx⟩
theorem own_some {w : World} {base : Nat} {e : TypeId} {size n : Nat} {v : Value} {xs : List Value} (h : w.ownsRow base e size v n xs) (hn : 0 < n) : ∃ g cap, v = .slice (some ⟨g, 0, none⟩) n cap ∧ base ≤ g ∧ n ≤ cap := by
  rcases h.2 with ⟨-, h0⟩ | ⟨g, cap, cur, rfl, hb, -, hc, -⟩
  · omega
  · exact ⟨g, cap, rfl, hb, hc⟩
end Go.Proofs.YtkipcobpnecmhabGreatDoor


/-! A region whose order is open, walked in one order, by a predicate that every operation keeps (all that lay in a world of one's choosing lies as it did). No condition. -/
namespace Go.Proofs.YtkipcobpnecmhabGreatDoor
open Go.RowKit

section
variable {P : Program} {ops : Array Oper} {Q : Exit → Act → World → Prop} {md : Region.Mode} {S : World → Prop}

/-- In one order: 'true': what yields in every world that S holds of; 'false': whatever else. -/
def FlowS (P : Program) (ops : Array Oper) (Q : Exit → Act → World → Prop) (S : World → Prop) : List (Bool × Nat) → Act → World → Prop
  | [], a, w => Q .normal a w
  | (true, i) :: σ, a, w => ∃ o v, ops[i]? = some o ∧ YieldsIf P ops S o v a ∧ FlowS P ops Q S σ (a.put o.dst v) w
  | (false, i) :: σ, a, w => wpOp P ops Q i (fun a' w' => S w' ∧ FlowS P ops Q S σ a' w') a w

section
variable {l : List Oper} {B : World}
theorem FlowS.calm {i : Nat} {o : Oper} {σ : List (Bool × Nat)} {a : Act} {w : World} (v : Value) (ho : l[i]? = some o) (hg : o.guard = none)
    (hr : ∀ w', S w' → (execOp a.eval o).run P w' = .ok (.value v) w') (h : FlowS P l.toArray Q S σ (a.put o.dst v) w) : FlowS P l.toArray Q S ((true, i) :: σ) a w :=
  ⟨o, v, by simpa using ho, .inl ⟨by simp [Region.wanted, hg], hr⟩, h⟩
theorem FlowS.calm2 {i : Nat} {o : Oper} {σ : List (Bool × Nat)} {a : Act} {w : World} (v : Value) (a' : Act) (ho : l[i]? = some o) (hg : o.guard = none)
    (hr : ∀ w', S w' → ∀ K : Result Next → Prop, K (.ok (.value v) w') → K ((execOp a.eval o).run P w')) (ha : ∀ K : Act → Prop, K a' → K (a.put o.dst v))
    (h : FlowS P l.toArray Q S σ a' w) : FlowS P l.toArray Q S ((true, i) :: σ) a w :=
  FlowS.calm v ho hg (fun w' hb => hr w' hb (fun r => r = .ok (.value v) w') rfl) (ha (fun x => FlowS P l.toArray Q S σ x w) h)
theorem FlowS.mv {i : Nat} {d : Option Tmp} {x : Operand} {ty : TypeId} {ps : String} {af : Array Edge} {σ : List (Bool × Nat)} {a : Act} {w : World} (a' : Act) (ho : l[i]? = some ⟨d, .move x, ty, ps, af, none⟩)
    (ha : ∀ K : Act → Prop, K a' → K (a.put d (a.eval x))) (h : FlowS P l.toArray Q S σ a' w) : FlowS P l.toArray Q S ((true, i) :: σ) a w :=
  FlowS.calm (a.eval x) ho rfl (fun w' _ => by simp [execOp]) (ha (fun x => FlowS P l.toArray Q S σ x w) h)
theorem FlowS.asg {i : Nat} {d : Option Tmp} {x : Operand} {ty : TypeId} {ps : String} {af : Array Edge} {σ : List (Bool × Nat)} {a : Act} {w : World} (a' : Act) (ho : l[i]? = some ⟨d, .assign x, ty, ps, af, none⟩)
    (ha : ∀ K : Act → Prop, K a' → K (a.put d (a.eval x))) (h : FlowS P l.toArray Q S σ a' w) : FlowS P l.toArray Q S ((true, i) :: σ) a w :=
  FlowS.calm (a.eval x) ho rfl (fun w' _ => by simp [execOp]) (ha (fun x => FlowS P l.toArray Q S σ x w) h)
theorem FlowS.calmG {i : Nat} {o : Oper} {σ : List (Bool × Nat)} {a : Act} {w : World} (v : Value) (ho : l[i]? = some o) (hg : Region.wanted o (yielded l.toArray a.tmps) = true)
    (hr : ∀ w', S w' → (execOp a.eval o).run P w' = .ok (.value v) w') (h : FlowS P l.toArray Q S σ (a.put o.dst v) w) : FlowS P l.toArray Q S ((true, i) :: σ) a w :=
  ⟨o, v, by simpa using ho, .inl ⟨hg, hr⟩, h⟩
theorem FlowS.pass {i : Nat} {o : Oper} {σ : List (Bool × Nat)} {a : Act} {w : World} (ho : l[i]? = some o) (hg : Region.wanted o (yielded l.toArray a.tmps) = false)
    (h : FlowS P l.toArray Q S σ (a.put o.dst undef) w) : FlowS P l.toArray Q S ((true, i) :: σ) a w :=
  ⟨o, undef, by simpa using ho, .inr ⟨hg, rfl⟩, h⟩
theorem FlowS.move {i : Nat} {o : Oper} {σ : List (Bool × Nat)} {a : Act} {w : World} (ho : l[i]? = some o)
    (h : wpList P l.toArray (Exit.then (fun a' w' => S w' ∧ FlowS P l.toArray Q S σ a' w') Q) [o] a w) : FlowS P l.toArray Q S ((false, i) :: σ) a w := by
  have ho' : l.toArray[i]? = some o := by simpa using ho
  simp only [FlowS, wpOp, ho']
  simp only [wpList] at h
  exact h
theorem FlowS.done {a : Act} {w : World} (h : Q .normal a w) : FlowS P ops (NoPanic Q) S [] a w := h
end
end

end Go.Proofs.YtkipcobpnecmhabGreatDoor


/-! page.CutGray, slices.Contains of bools, page.Blank whatever comes. -/
namespace Go.Proofs.YtkipcobpnecmhabGreatDoor
open Go.RowKit

/-! ### slices.Contains of bools -/
set_option maxHeartbeats 1000000 in
theorem indexB_any (A : Option Addr) (n c : Nat) (bs : List Bool) (v : Bool) (w : World) (hA : Reads w 1 A n (bs.map .bool)) (hn : n ≤ 1099511627776) :
    Calls Tryz.prog 52 #[.slice A n c, .bool v] w fun e w' => ∃ k : Int, e = .returned (.int .i64 k) ∧ (0 ≤ k ↔ v ∈ bs) ∧ w = w' := by
  have hl : bs.length = n := by have := hA.1; simpa using this
  have HA := Lib.hid hA; have HL := Lib.hid hl
  clear hA hl
  go_enter Tryz.func52, Tryz.ntmps52
  go_wp2_with fail
  go_loopw [8] (fun u wr => ∃ i : Nat, i ≤ n ∧ u = .int .i64 i ∧ w = wr ∧ ∀ j, j < i → bs[j]? ≠ some v) (fun u _ => n - (intOf u).toNat)
  case atStart => exact ⟨0, Nat.zero_le _, rfl, rfl, fun j hj => absurd hj (Nat.not_lt_zero _)⟩
  case round =>
    obtain ⟨i, hi, rfl, rfl, hno⟩ := hrel
    have Hno := Lib.hid hno
    clear hno
    by_cases hlt : i < n
    · obtain ⟨ad, u, rfl, hu, hc⟩ := HA.out.at_ hlt
      have hl2 : i < bs.length := by rw [HL.out]; exact hlt
      have hu' : u = .bool bs[i] := by simpa [hl2] using hu.symm
      have hg : bs[i]? = some bs[i] := List.getElem?_eq_getElem hl2
      subst hu'
      obtain ⟨b, hb⟩ : ∃ b, b = bs[i] := ⟨_, rfl⟩
      rw [← hb] at hc hg
      have Hg := Lib.hid hg
      clear hu hb hg hl2
      by_cases hbv : v = b
      · subst hbv
        have hq : (v == v) = true := by cases v <;> rfl
        have HX := Lib.hid (show 0 ≤ (i : Int) ↔ v ∈ bs from ⟨fun _ => List.mem_of_getElem? Hg.out, fun _ => Int.natCast_nonneg i⟩)
        cases v <;> (go_wp2_with fail; go_ret; exact ⟨_, rfl, HX.out, rfl⟩)
      · have HY : Hid (∀ j, j < i + 1 → bs[j]? ≠ some v) := fun j hj => by
          rcases Nat.lt_succ_iff_lt_or_eq.1 hj with h | rfl
          · exact Hno.out j h
          · rw [Hg.out]; intro e; exact hbv (Option.some.inj e).symm
        cases v <;> cases b <;> first | exact absurd rfl hbv | (clear hbv; go_wp2_with fail; exact ⟨⟨i + 1, hlt, by go_num, by first | rfl | trivial, HY.out⟩, by simp [intOf]; omega⟩)
    · have HX := Lib.hid (show (0 : Int) ≤ -1 ↔ v ∈ bs from ⟨fun h => absurd h (by decide), fun h => by
        obtain ⟨j, hj⟩ := List.getElem?_of_mem h
        have := (List.getElem?_eq_some_iff.1 hj).1
        exact absurd hj (Hno.out j (by have := HL.out; omega))⟩)
      go_wp2_with fail
      go_ret
      exact ⟨_, rfl, HX.out, rfl⟩
set_option maxHeartbeats 1000000 in
theorem containsB_any (A : Option Addr) (n c : Nat) (bs : List Bool) (v : Bool) (w : World) (hA : Reads w 1 A n (bs.map .bool)) (hn : n ≤ 1099511627776) :
    Calls Tryz.prog 23 #[.slice A n c, .bool v] w fun e w' => e = .returned (.bool (decide (v ∈ bs))) ∧ w = w' := by
  go_enter Tryz.func23, Tryz.ntmps23
  go_wp2_with fail
  refine (indexB_any A n c bs v w hA hn).mono ?_
  rintro e w1 ⟨k, rfl, hk, rfl⟩
  have Hk := Lib.hid hk
  clear hk hA
  go_wp2_with fail
  go_ret
  exact ⟨ret_bool (decide_eq_decide.2 Hk.out), rfl⟩

/-! ### page.Blank -/
end Go.Proofs.YtkipcobpnecmhabGreatDoor
