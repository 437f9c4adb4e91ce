/- What the references' and the program's small functions on numbers and sizes compute. -/
import Derived.Test.YtkipcobpnecmhaaGreatDoorRows
import Derived.WalkKit
import Derived.WalkSpells
import Derived.WalkLawsBesides
import Derived.Handy
import Derived.Deep.QuietTactic
import Derived.BigQuiet
import Derived.Deep.RegionHeld3
import Derived.Deep.AppendLies
import Derived.Deep.Draws
import Derived.Deep.OwnRows
import Derived.Deep.DeepCutAuto
import Derived.Deep.LoopGhost
import Derived.Deep.DeepFit
import Derived.Maps.AppendAt
import Derived.Lib.Hide
import Derived.StillTailTactics
import Derived.Laws.ResultCell

namespace Go.Proofs.YtkipcobpnecmhaaGreatDoor
open Go.RowKit

theorem ret_int {k : IntKind} {a b : Int} (h : a = b) : Ending.returned (.int k a) = .returned (.int k b) := by rw [h]
theorem ret_bool {a b : Bool} (h : a = b) : Ending.returned (.bool a) = .returned (.bool b) := by rw [h]

theorem enters {P : Program} {f : FuncId} {fn : Func} {c : Code} (hf : P.funcs[f]? = some fn) (hname : (fn.name == "runtime.NumGoroutine") = false) (hb : fn.body = some c) :
    ∀ args w, (callFunc f args).run P w = .ok (.enter f args) w := by
  intro args w
  have h1 : fn.name ≠ "runtime.NumGoroutine" := by simpa using hname
  simp [callFunc, hf, h1, hb]

/-! ### Below -/
/-- All that lay in w lies in w' as it was. -/
def Bl (w w' : World) : Prop := Below w.heap.size w w'
theorem Bl.refl (w : World) : Bl w w := Below.refl _ _
theorem Bl.trans {a b c : World} (h : Bl a b) (k : Bl b c) : Bl a c := Below.trans h (Below.mono k h.size)
theorem Bl.alloc {a w : World} (h : Bl a w) (o : Obj) : Bl a (w.alloc o) := Below.alloc h h.size o
theorem Bl.drew {a w : World} (h : Bl a w) : Bl a w.drew := Below.drew h
theorem Bl.le {a w : World} (h : Bl a w) : a.heap.size ≤ w.heap.size := Below.size h
theorem Bl.setCell {a w : World} (h : Bl a w) {p : Addr} (hp : a.heap.size ≤ p.block) (u : Value) : Bl a (w.setCell p u) := Below.setCell h hp u
theorem Bl.cell {w w' : World} (h : Bl w w') {p : Addr} (hp : p.block < w.heap.size) : w'.cell? p = w.cell? p := Below.cell h hp
theorem Bl.at {w w' : World} (h : Bl w w') {p : Addr} {v : Value} (hc : w.cell? p = some v) : w'.cell? p = some v :=
  (Below.cell h (World.block_lt_of_cell? w p hc)).trans hc

theorem Bl.rule {w w' : World} (h : Bl w w') : (∀ p, (w.cell? p).isSome = true → w'.cell? p = w.cell? p) ∧ (∀ p, (w.cell? p).isSome = true → w'.frozen? p = w.frozen? p) := by
  refine ⟨fun p hp => ?_, fun p hp => ?_⟩
  · obtain ⟨v, hv⟩ := Option.isSome_iff_exists.1 hp
    rw [hv]; exact h.at hv
  · obtain ⟨v, hv⟩ := Option.isSome_iff_exists.1 hp
    exact Below.frozen h (World.block_lt_of_cell? w p hv)
theorem Bl.drewL {w w' : World} (h : Bl w w') : Bl w.drew w' := ⟨h.os, h.tape, h.output, h.size, h.block⟩
theorem Bl.ofDrew {w w' : World} (h : Bl w.drew w') : Bl w w' := ((Bl.refl w).drew).trans h

/-! ### A slice that reads as a list of cells -/
theorem block_of_add (a : Addr) (n : Nat) : (a.add n).block = a.block := by unfold Addr.add; split <;> rfl
theorem add_of_add (a : Addr) (i j : Nat) : (a.add i).add j = a.add (i + j) := by
  unfold Addr.add
  by_cases hi : i = 0 <;> by_cases hj : j = 0 <;> simp [hi, hj, Nat.add_assoc]

def Reads (w : World) (size : Nat) (A : Option Addr) (n : Nat) (xs : List Value) : Prop :=
  xs.length = n * size ∧ (0 < n → ∃ ad, A = some ad ∧ ∀ j u, xs[j]? = some u → w.cell? (ad.add j) = some u)

section
variable {w w' : World} {size n : Nat} {A : Option Addr} {xs : List Value}
theorem Reads.none_ : Reads w size A 0 [] := ⟨by simp, fun h => absurd h (by omega)⟩
theorem Reads.at_ {k : Nat} (h : Reads w 1 A n xs) (hk : k < n) : ∃ ad u, A = some ad ∧ xs[k]? = some u ∧ w.cell? (ad.add k) = some u := by
  obtain ⟨ad, e, hc⟩ := h.2 (by omega)
  have hl : k < xs.length := by have := h.1; omega
  exact ⟨ad, xs[k], e, List.getElem?_eq_getElem hl, hc k _ (List.getElem?_eq_getElem hl)⟩
theorem Reads.bl (h : Reads w size A n xs) (hb : Bl w w') : Reads w' size A n xs :=
  ⟨h.1, fun hn => by
    obtain ⟨ad, e, hc⟩ := h.2 hn
    exact ⟨ad, e, fun j u hu => hb.at (hc j u hu)⟩⟩
end

/-! ### A block that is known whole -/
def Blk (w : World) (g : Nat) (t : TypeId) (cs : Array Value) : Prop := w.heap[g]? = some (.cells cs t (0, 0))

section
variable {w w' : World} {g : Nat} {t : TypeId} {cs : Array Value}
theorem Blk.lt (h : Blk w g t cs) : g < w.heap.size := by
  rcases Nat.lt_or_ge g w.heap.size with hlt | hge
  · exact hlt
  · unfold Blk at h; rw [Array.getElem?_eq_none hge] at h; cases h
theorem Blk.cell (h : Blk w g t cs) (i : Nat) : w.cell? ⟨g, i, none⟩ = cs[i]? := cell_of_row w g i cs t (0, 0) h
theorem Blk.frozen (h : Blk w g t cs) (i : Nat) : w.frozen? ⟨g, i, none⟩ = false := by
  unfold Blk at h
  simp [World.frozen?, h]
theorem Blk.new (w : World) (t : TypeId) (cs : Array Value) : Blk (w.alloc (.cells cs t)) w.heap.size t cs := heap_alloc_new w _
theorem Blk.drew (h : Blk w g t cs) : Blk w.drew g t cs := h
theorem Blk.alloc (h : Blk w g t cs) (o : Obj) : Blk (w.alloc o) g t cs := (Below.heap_alloc w o g h.lt).trans h
theorem Blk.set_ (h : Blk w g t cs) (i : Nat) (u : Value) : Blk (w.setCell ⟨g, i, none⟩ u) g t (cs.setIfInBounds i u) := by
  unfold Blk at h ⊢
  simp [World.setCell, Array.getElem?_modify, h]
theorem Blk.far (h : Blk w g t cs) {p : Addr} (hp : g ≠ p.block) (u : Value) : Blk (w.setCell p u) g t cs := (Below.heap_setCell w p u g hp).trans h
theorem Blk.grown {row : Option Nat} (h : Blk w g t cs) (hb : w.grownBy w' row) (hg : some g ≠ row) : Blk w' g t cs := (hb.block g h.lt hg).trans h
theorem Blk.bl (h : Blk w g t cs) (hb : Bl w w') : Blk w' g t cs := (Below.block hb g h.lt).trans h
theorem Blk.all1 {x : Value} (h : Blk w g t #[x]) : w.cell? ⟨g, 0, none⟩ = some x ∧ ∀ i, w.frozen? ⟨g, i, none⟩ = false := ⟨h.cell 0, h.frozen⟩
theorem Blk.all2 {x y : Value} (h : Blk w g t #[x, y]) : w.cell? ⟨g, 0, none⟩ = some x ∧ w.cell? ⟨g, 1, none⟩ = some y ∧ ∀ i, w.frozen? ⟨g, i, none⟩ = false := ⟨h.cell 0, h.cell 1, h.frozen⟩
theorem Blk.all3 {x y z : Value} (h : Blk w g t #[x, y, z]) : w.cell? ⟨g, 0, none⟩ = some x ∧ w.cell? ⟨g, 1, none⟩ = some y ∧ w.cell? ⟨g, 2, none⟩ = some z ∧ ∀ i, w.frozen? ⟨g, i, none⟩ = false := ⟨h.cell 0, h.cell 1, h.cell 2, h.frozen⟩
theorem Blk.reads (h : Blk w g t cs) (n c : Nat) (hn : cs.size = n * c) : Reads w c (some ⟨g, 0, none⟩) n cs.toList :=
  ⟨by simpa using hn, fun _ => ⟨_, rfl, fun j u hu => by
    have e : (⟨g, 0, none⟩ : Addr).add j = ⟨g, j, none⟩ := by unfold Addr.add; split <;> simp_all
    rw [e, h.cell]; simpa using hu⟩⟩
end

end Go.Proofs.YtkipcobpnecmhaaGreatDoor


/-! Code 39 in plain lists: the modules of letters, and what is read of modules. -/
namespace Go.Proofs.YtkipcobpnecmhaaGreatDoor

def lets44 : List UInt8 := [48, 49, 50, 51, 52, 53, 54, 55, 56, 57, 65, 66, 67, 68, 69, 70, 71, 72, 73, 74, 75, 76, 77, 78, 79, 80, 81, 82, 83, 84, 85, 86, 87, 88, 89, 90, 45, 46, 32, 36, 47, 43, 37, 42]
def pieceC : List (List UInt8) := [[110, 110, 110, 119, 119, 110, 119, 110, 110], [119, 110, 110, 119, 110, 110, 110, 110, 119], [110, 110, 119, 119, 110, 110, 110, 110, 119], [119, 110, 119, 119, 110, 110, 110, 110, 110], [110, 110, 110, 119, 119, 110, 110, 110, 119], [119, 110, 110, 119, 119, 110, 110, 110, 110], [110, 110, 119, 119, 119, 110, 110, 110, 110], [110, 110, 110, 119, 110, 110, 119, 110, 119], [119, 110, 110, 119, 110, 110, 119, 110, 110], [110, 110, 119, 119, 110, 110, 119, 110, 110], [119, 110, 110, 110, 110, 119, 110, 110, 119], [110, 110, 119, 110, 110, 119, 110, 110, 119], [119, 110, 119, 110, 110, 119, 110, 110, 110], [110, 110, 110, 110, 119, 119, 110, 110, 119], [119, 110, 110, 110, 119, 119, 110, 110, 110], [110, 110, 119, 110, 119, 119, 110, 110, 110], [110, 110, 110, 110, 110, 119, 119, 110, 119], [119, 110, 110, 110, 110, 119, 119, 110, 110], [110, 110, 119, 110, 110, 119, 119, 110, 110], [110, 110, 110, 110, 119, 119, 119, 110, 110], [119, 110, 110, 110, 110, 110, 110, 119, 119], [110, 110, 119, 110, 110, 110, 110, 119, 119], [119, 110, 119, 110, 110, 110, 110, 119, 110], [110, 110, 110, 110, 119, 110, 110, 119, 119], [119, 110, 110, 110, 119, 110, 110, 119, 110], [110, 110, 119, 110, 119, 110, 110, 119, 110], [110, 110, 110, 110, 110, 110, 119, 119, 119], [119, 110, 110, 110, 110, 110, 119, 119, 110], [110, 110, 119, 110, 110, 110, 119, 119, 110], [110, 110, 110, 110, 119, 110, 119, 119, 110], [119, 119, 110, 110, 110, 110, 110, 110, 119], [110, 119, 119, 110, 110, 110, 110, 110, 119], [119, 119, 119, 110, 110, 110, 110, 110, 110], [110, 119, 110, 110, 119, 110, 110, 110, 119], [119, 119, 110, 110, 119, 110, 110, 110, 110], [110, 119, 119, 110, 119, 110, 110, 110, 110], [110, 119, 110, 110, 110, 110, 119, 110, 119], [119, 119, 110, 110, 110, 110, 119, 110, 110], [110, 119, 119, 110, 110, 110, 119, 110, 110], [110, 119, 110, 119, 110, 119, 110, 110, 110], [110, 119, 110, 119, 110, 110, 110, 119, 110], [110, 119, 110, 110, 110, 119, 110, 119, 110], [110, 110, 110, 119, 110, 119, 110, 119, 110], [110, 119, 110, 110, 119, 110, 119, 110, 110]]
def pieceS : List UInt8 := [110, 110, 110, 119, 119, 110, 119, 110, 110, 32, 119, 110, 110, 119, 110, 110, 110, 110, 119, 32, 110, 110, 119, 119, 110, 110, 110, 110, 119, 32, 119, 110, 119, 119, 110, 110, 110, 110, 110, 32, 110, 110, 110, 119, 119, 110, 110, 110, 119, 32, 119, 110, 110, 119, 119, 110, 110, 110, 110, 32, 110, 110, 119, 119, 119, 110, 110, 110, 110, 32, 110, 110, 110, 119, 110, 110, 119, 110, 119, 32, 119, 110, 110, 119, 110, 110, 119, 110, 110, 32, 110, 110, 119, 119, 110, 110, 119, 110, 110, 32, 119, 110, 110, 110, 110, 119, 110, 110, 119, 32, 110, 110, 119, 110, 110, 119, 110, 110, 119, 32, 119, 110, 119, 110, 110, 119, 110, 110, 110, 32, 110, 110, 110, 110, 119, 119, 110, 110, 119, 32, 119, 110, 110, 110, 119, 119, 110, 110, 110, 32, 110, 110, 119, 110, 119, 119, 110, 110, 110, 32, 110, 110, 110, 110, 110, 119, 119, 110, 119, 32, 119, 110, 110, 110, 110, 119, 119, 110, 110, 32, 110, 110, 119, 110, 110, 119, 119, 110, 110, 32, 110, 110, 110, 110, 119, 119, 119, 110, 110, 32, 119, 110, 110, 110, 110, 110, 110, 119, 119, 32, 110, 110, 119, 110, 110, 110, 110, 119, 119, 32, 119, 110, 119, 110, 110, 110, 110, 119, 110, 32, 110, 110, 110, 110, 119, 110, 110, 119, 119, 32, 119, 110, 110, 110, 119, 110, 110, 119, 110, 32, 110, 110, 119, 110, 119, 110, 110, 119, 110, 32, 110, 110, 110, 110, 110, 110, 119, 119, 119, 32, 119, 110, 110, 110, 110, 110, 119, 119, 110, 32, 110, 110, 119, 110, 110, 110, 119, 119, 110, 32, 110, 110, 110, 110, 119, 110, 119, 119, 110, 32, 119, 119, 110, 110, 110, 110, 110, 110, 119, 32, 110, 119, 119, 110, 110, 110, 110, 110, 119, 32, 119, 119, 119, 110, 110, 110, 110, 110, 110, 32, 110, 119, 110, 110, 119, 110, 110, 110, 119, 32, 119, 119, 110, 110, 119, 110, 110, 110, 110, 32, 110, 119, 119, 110, 119, 110, 110, 110, 110, 32, 110, 119, 110, 110, 110, 110, 119, 110, 119, 32, 119, 119, 110, 110, 110, 110, 119, 110, 110, 32, 110, 119, 119, 110, 110, 110, 119, 110, 110, 32, 110, 119, 110, 119, 110, 119, 110, 110, 110, 32, 110, 119, 110, 119, 110, 110, 110, 119, 110, 32, 110, 119, 110, 110, 110, 119, 110, 119, 110, 32, 110, 110, 110, 119, 110, 119, 110, 119, 110, 32, 110, 119, 110, 110, 119, 110, 119, 110, 110]
/-! letters and their modules -/
def bitAt (i : Nat) : UInt8 := if i % 2 = 0 then 49 else 48
def runOf (c : UInt8) : Nat := if c = 119 then 3 else 1
def modFrom : Nat → List UInt8 → List UInt8
  | _, [] => []
  | i, c :: p => List.replicate (runOf c) (bitAt i) ++ modFrom (i + 1) p
def pieceK (k : Nat) : List UInt8 := pieceC.getD k []
def modK (k : Nat) : List UInt8 := modFrom 0 (pieceK k)
def joinC : List Nat → List UInt8
  | [] => []
  | [k] => modK k
  | k :: k' :: ks => modK k ++ 48 :: joinC (k' :: ks)
set_option maxRecDepth 100000 in
theorem modK_all : ∀ k < 44, (modK k).length = 15 ∧ (modK k).getD 0 0 = 49 ∧ (modK k).getD 14 0 = 49 ∧ (pieceK k).length = 9 := by decide +kernel
set_option maxRecDepth 100000 in
theorem modK_inj : ∀ k < 44, ∀ j < 44, modK k = modK j → k = j := by decide +kernel
set_option maxRecDepth 100000 in
theorem pieceK_inj : ∀ k < 44, ∀ j < 44, pieceK k = pieceK j → k = j := by decide +kernel
/-! the reference's way: groups of 16 modules -/
def gR (m : List UInt8) (j : Nat) : Option Nat :=
  if m.length = 16 * j + 15 ∨ m[16 * j + 15]? = some 48 then (List.range 44).find? fun k => modK k == (m.drop (16 * j)).take 15 else none
def partsR (m : List UInt8) : Nat → Option (List Nat)
  | 0 => some []
  | n + 1 => match partsR m n with
    | none => none
    | some ks => match gR m n with
      | none => none
      | some k => some (ks ++ [k])
def decM (m : List UInt8) : Option (List Nat) := if (m.length + 1) % 16 = 0 then partsR m ((m.length + 1) / 16) else none
/-! the program's way: groups of 10 runs -/
def pat (rs : List Nat) : List UInt8 := rs.map fun n => if n = 3 then 119 else 110
def gP (rs : List Nat) (j : Nat) : Option Nat :=
  if (((rs.drop (10 * j)).take 9).all fun n => n == 1 || n == 3) = true ∧ (10 * j + 9 < rs.length → rs.getD (10 * j + 9) 0 = 1) then (List.range 44).find? fun k => pieceK k == pat ((rs.drop (10 * j)).take 9) else none
def partsP (rs : List Nat) : Nat → Option (List Nat)
  | 0 => some []
  | n + 1 => match partsP rs n with
    | none => none
    | some ks => match gP rs n with
      | none => none
      | some k => some (ks ++ [k])
def decP (rs : List Nat) : Option (List Nat) := if rs.length % 10 = 9 then partsP rs ((rs.length + 1) / 10) else none
/-! group by group -/
section
variable {g : Nat → Option Nat}
def partsG (g : Nat → Option Nat) : Nat → Option (List Nat)
  | 0 => some []
  | n + 1 => match partsG g n with
    | none => none
    | some ks => match g n with
      | none => none
      | some k => some (ks ++ [k])
theorem partsR_eq (m : List UInt8) : ∀ n, partsR m n = partsG (gR m) n
  | 0 => rfl
  | n + 1 => by unfold partsR partsG; rw [partsR_eq m n]
theorem partsP_eq (rs : List Nat) : ∀ n, partsP rs n = partsG (gP rs) n
  | 0 => rfl
  | n + 1 => by unfold partsP partsG; rw [partsP_eq rs n]
theorem partsG_some {n : Nat} {ks : List Nat} {k : Nat} (h : partsG g n = some ks) (hd : g n = some k) : partsG g (n + 1) = some (ks ++ [k]) := by
  show (match partsG g n with | none => none | some ks => match g n with | none => none | some p => some (ks ++ [p])) = _
  rw [h]
  simp only [hd]
theorem partsG_none {n : Nat} (hd : g n = none) : ∀ k, partsG g (n + 1 + k) = none
  | 0 => by
    show (match partsG g n with | none => none | some ps => match g n with | none => none | some p => some (ps ++ [p])) = _
    cases partsG g n with
    | none => rfl
    | some ps => simp only [hd]
  | k + 1 => by
    show (match partsG g (n + 1 + k) with | none => none | some ps => match g (n + 1 + k) with | none => none | some p => some (ps ++ [p])) = _
    rw [partsG_none hd k]
theorem partsG_none_of {n N : Nat} (hn : n < N) (hd : g n = none) : partsG g N = none := by
  have := partsG_none hd (N - (n + 1))
  rwa [show n + 1 + (N - (n + 1)) = N by omega] at this
theorem partsG_iff (ks : List Nat) : ∀ n, partsG g n = some ks ↔ ks.length = n ∧ ∀ j k, ks[j]? = some k → g j = some k := by
  intro n
  induction n generalizing ks with
  | zero =>
    constructor
    · intro h
      obtain rfl := Option.some.inj h
      exact ⟨rfl, fun j k h => by simp at h⟩
    · rintro ⟨h, -⟩
      obtain rfl := List.length_eq_zero_iff.1 h
      rfl
  | succ n ih =>
    constructor
    · intro h
      cases hp : partsG g n with
      | none => unfold partsG at h; rw [hp] at h; cases h
      | some q =>
        cases hg : g n with
        | none => unfold partsG at h; rw [hp] at h; simp only [hg] at h; cases h
        | some k =>
          rw [partsG_some hp hg] at h
          obtain rfl := Option.some.inj h
          obtain ⟨h1, h2⟩ := (ih q).1 hp
          refine ⟨by rw [List.length_append, h1]; rfl, fun j k' hj => ?_⟩
          by_cases hlt : j < n
          · rw [List.getElem?_append_left (by omega)] at hj
            exact h2 j k' hj
          · have hib : j < (q ++ [k]).length := (List.getElem?_eq_some_iff.1 hj).1
            rw [List.length_append, List.length_singleton] at hib
            obtain rfl : j = n := by omega
            rw [List.getElem?_append_right (by omega), h1, Nat.sub_self] at hj
            rw [hg, ← hj]
            rfl
    · rintro ⟨h1, h2⟩
      rcases List.eq_nil_or_concat ks with rfl | ⟨q, k, rfl⟩
      · cases h1
      · rw [List.concat_eq_append] at h1 h2 ⊢
        rw [List.length_append, List.length_singleton] at h1
        refine partsG_some ((ih q).2 ⟨by omega, fun j k' hj => h2 j k' ?_⟩) (h2 n k ?_)
        · rw [List.getElem?_append_left (List.getElem?_eq_some_iff.1 hj).1]; exact hj
        · rw [List.getElem?_append_right (by omega), show n - q.length = 0 by omega]; rfl
end
theorem decM_iff (m : List UInt8) (ks : List Nat) : decM m = some ks ↔ m.length + 1 = 16 * ks.length ∧ ∀ j k, ks[j]? = some k → gR m j = some k := by
  unfold decM
  by_cases h : (m.length + 1) % 16 = 0
  · rw [if_pos h, partsR_eq, partsG_iff]
    constructor
    · rintro ⟨h1, h2⟩; exact ⟨by omega, h2⟩
    · rintro ⟨h1, h2⟩; exact ⟨by omega, h2⟩
  · rw [if_neg h]
    constructor
    · intro h'; cases h'
    · rintro ⟨h1, -⟩; omega
theorem decP_iff (rs : List Nat) (ks : List Nat) : decP rs = some ks ↔ rs.length + 1 = 10 * ks.length ∧ ∀ j k, ks[j]? = some k → gP rs j = some k := by
  unfold decP
  by_cases h : rs.length % 10 = 9
  · rw [if_pos h, partsP_eq, partsG_iff]
    constructor
    · rintro ⟨h1, h2⟩; exact ⟨by omega, h2⟩
    · rintro ⟨h1, h2⟩; exact ⟨by omega, h2⟩
  · rw [if_neg h]
    constructor
    · intro h'; cases h'
    · rintro ⟨h1, -⟩; omega
theorem find_range {p : Nat → Bool} {k : Nat} (h : (List.range 44).find? p = some k) : k < 44 ∧ p k = true := ⟨List.mem_range.1 (List.mem_of_find?_eq_some h), List.find?_some h⟩
theorem find_uniq {p : Nat → Bool} {k : Nat} (hk : k < 44) (hp : p k = true) (hu : ∀ j < 44, p j = true → j = k) : (List.range 44).find? p = some k := by
  cases hf : (List.range 44).find? p with
  | none =>
    have := List.find?_eq_none.1 hf k (List.mem_range.2 hk)
    exact absurd hp this
  | some j =>
    obtain ⟨h1, h2⟩ := find_range hf
    rw [hu j h1 h2]
theorem gR_iff (m : List UInt8) (j k : Nat) : gR m j = some k ↔ (m.length = 16 * j + 15 ∨ m[16 * j + 15]? = some 48) ∧ k < 44 ∧ (m.drop (16 * j)).take 15 = modK k := by
  unfold gR
  by_cases h : m.length = 16 * j + 15 ∨ m[16 * j + 15]? = some 48
  · rw [if_pos h]
    constructor
    · intro hf
      obtain ⟨h1, h2⟩ := find_range hf
      exact ⟨h, h1, (beq_iff_eq.1 h2).symm⟩
    · rintro ⟨-, h1, h2⟩
      exact find_uniq h1 (beq_iff_eq.2 h2.symm) fun i hi hp => modK_inj i hi k h1 ((beq_iff_eq.1 hp).trans h2)
  · rw [if_neg h]
    constructor
    · intro h'; cases h'
    · rintro ⟨h', -⟩; exact absurd h' h
theorem gP_iff (rs : List Nat) (j k : Nat) : gP rs j = some k ↔ ((((rs.drop (10 * j)).take 9).all fun n => n == 1 || n == 3) = true ∧ (10 * j + 9 < rs.length → rs.getD (10 * j + 9) 0 = 1)) ∧ k < 44 ∧ pat ((rs.drop (10 * j)).take 9) = pieceK k := by
  unfold gP
  by_cases h : (((rs.drop (10 * j)).take 9).all fun n => n == 1 || n == 3) = true ∧ (10 * j + 9 < rs.length → rs.getD (10 * j + 9) 0 = 1)
  · rw [if_pos h]
    constructor
    · intro hf
      obtain ⟨h1, h2⟩ := find_range hf
      exact ⟨h, h1, (beq_iff_eq.1 h2).symm⟩
    · rintro ⟨-, h1, h2⟩
      exact find_uniq h1 (beq_iff_eq.2 h2.symm) fun i hi hp => pieceK_inj i hi k h1 ((beq_iff_eq.1 hp).trans h2)
  · rw [if_neg h]
    constructor
    · intro h'; cases h'
    · rintro ⟨h', -⟩; exact absurd h' h
/-! runs -/
def expand : Nat → List Nat → List UInt8
  | _, [] => []
  | i, n :: rs => List.replicate n (bitAt i) ++ expand (i + 1) rs
theorem bitAt_two (i : Nat) : bitAt (i + 2) = bitAt i := by unfold bitAt; rw [show (i + 2) % 2 = i % 2 by omega]
theorem expand_two (i : Nat) : ∀ rs, expand (i + 2) rs = expand i rs
  | [] => rfl
  | n :: rs => by
    show List.replicate n (bitAt (i + 2)) ++ expand (i + 1 + 2) rs = List.replicate n (bitAt i) ++ expand (i + 1) rs
    rw [bitAt_two, expand_two (i + 1) rs]
theorem expand_append (i : Nat) : ∀ a b, expand i (a ++ b) = expand i a ++ expand (i + a.length) b
  | [], b => rfl
  | n :: a, b => by
    show List.replicate n (bitAt i) ++ expand (i + 1) (a ++ b) = (List.replicate n (bitAt i) ++ expand (i + 1) a) ++ expand (i + (a.length + 1)) b
    rw [expand_append (i + 1) a b, List.append_assoc, show i + 1 + a.length = i + (a.length + 1) by omega]
theorem bitAt_ne (i : Nat) : bitAt i ≠ bitAt (i + 1) := by
  unfold bitAt
  rcases Nat.mod_two_eq_zero_or_one i with h | h
  · rw [if_pos h, if_neg (by omega)]; decide
  · rw [if_neg (by omega), if_pos (by omega)]; decide
theorem expand_head {i : Nat} {rs : List Nat} {b : UInt8} (h1 : ∀ n ∈ rs, 1 ≤ n) (h : (expand i rs)[0]? = some b) : b = bitAt i := by
  cases rs with
  | nil => cases h
  | cons n rs =>
    have := h1 n (List.mem_cons_self ..)
    obtain ⟨n', rfl⟩ : ∃ n', n = n' + 1 := ⟨n - 1, by omega⟩
    unfold expand at h
    rw [List.replicate_succ] at h
    exact (Option.some.inj h).symm
theorem rep_split {a b c : UInt8} (hbc : b ≠ c) : ∀ {n n' : Nat} {s s' : List UInt8}, (∀ x, s[0]? = some x → x = c) → (∀ x, s'[0]? = some x → x = c) → List.replicate n b ++ s = List.replicate n' b ++ s' → n = n' ∧ s = s'
  | 0, 0, s, s', _, _, h => ⟨rfl, h⟩
  | 0, n' + 1, s, s', h1, _, h => by
    exfalso
    simp only [List.replicate_zero, List.nil_append, List.replicate_succ, List.cons_append] at h
    exact hbc (h1 b (by rw [h]; rfl))
  | n + 1, 0, s, s', _, h2, h => by
    exfalso
    simp only [List.replicate_zero, List.nil_append, List.replicate_succ, List.cons_append] at h
    exact hbc (h2 b (by rw [← h]; rfl))
  | n + 1, n' + 1, s, s', h1, h2, h => by
    simp only [List.replicate_succ, List.cons_append, List.cons.injEq, true_and] at h
    obtain ⟨e1, e2⟩ := rep_split (a := a) hbc h1 h2 h
    exact ⟨by omega, e2⟩
theorem expand_inj : ∀ {rs rs' : List Nat} {i : Nat}, (∀ n ∈ rs, 1 ≤ n) → (∀ n ∈ rs', 1 ≤ n) → expand i rs = expand i rs' → rs = rs'
  | [], [], _, _, _, _ => rfl
  | [], n :: rs', i, _, h2, h => by
    exfalso
    have := h2 n (List.mem_cons_self ..)
    have hl := congrArg List.length h
    unfold expand at hl
    rw [List.length_append, List.length_replicate] at hl
    simp at hl
    omega
  | n :: rs, [], i, h1, _, h => by
    exfalso
    have := h1 n (List.mem_cons_self ..)
    have hl := congrArg List.length h
    unfold expand at hl
    rw [List.length_append, List.length_replicate] at hl
    simp at hl
    omega
  | n :: rs, n' :: rs', i, h1, h2, h => by
    have g1 : ∀ m ∈ rs, 1 ≤ m := fun m hm => h1 m (List.mem_cons_of_mem _ hm)
    have g2 : ∀ m ∈ rs', 1 ≤ m := fun m hm => h2 m (List.mem_cons_of_mem _ hm)
    obtain ⟨e1, e2⟩ := rep_split (a := 0) (bitAt_ne i) (fun x hx => expand_head g1 hx) (fun x hx => expand_head g2 hx) h
    rw [e1, expand_inj g1 g2 e2]
/-- The runs of a letter. -/
def runK (k : Nat) : List Nat := (pieceK k).map runOf
def runJ : List Nat → List Nat
  | [] => []
  | [k] => runK k
  | k :: k' :: ks => runK k ++ 1 :: runJ (k' :: ks)
theorem expand_map (i : Nat) : ∀ p, expand i (p.map runOf) = modFrom i p
  | [] => rfl
  | c :: p => by
    show List.replicate (runOf c) (bitAt i) ++ expand (i + 1) (p.map runOf) = List.replicate (runOf c) (bitAt i) ++ modFrom (i + 1) p
    rw [expand_map (i + 1) p]
theorem expand_ten (i : Nat) (rs : List Nat) : expand (i + 10) rs = expand i rs := by
  rw [show i + 10 = i + 8 + 2 by omega, expand_two, show i + 8 = i + 6 + 2 by omega, expand_two, show i + 6 = i + 4 + 2 by omega, expand_two, show i + 4 = i + 2 + 2 by omega, expand_two, expand_two]
theorem runK_len {k : Nat} (h : k < 44) : (runK k).length = 9 := by unfold runK; rw [List.length_map]; exact (modK_all k h).2.2.2
theorem runOf_pos (c : UInt8) : 1 ≤ runOf c := by unfold runOf; split <;> decide
theorem expand_cons {k : Nat} (h : k < 44) (rs : List Nat) : expand 0 (runK k ++ 1 :: rs) = modK k ++ 48 :: expand 0 rs := by
  rw [expand_append, runK_len h]
  have e1 : expand 0 (runK k) = modK k := expand_map 0 _
  rw [e1]
  show modK k ++ (List.replicate 1 (bitAt 9) ++ expand (0 + 10) rs) = _
  rw [expand_ten]
  rfl
theorem expand_runJ : ∀ {ks : List Nat}, (∀ k ∈ ks, k < 44) → expand 0 (runJ ks) = joinC ks
  | [], _ => rfl
  | [k], _ => expand_map 0 _
  | k :: k' :: ks, h => by
    show expand 0 (runK k ++ 1 :: runJ (k' :: ks)) = modK k ++ 48 :: joinC (k' :: ks)
    rw [expand_cons (h k (List.mem_cons_self ..)), expand_runJ (fun x hx => h x (List.mem_cons_of_mem _ hx))]
theorem runJ_pos : ∀ {ks : List Nat}, ∀ n ∈ runJ ks, 1 ≤ n
  | [], n, h => by cases h
  | [k], n, h => by
    obtain ⟨c, -, rfl⟩ := List.mem_map.1 h
    exact runOf_pos c
  | k :: k' :: ks, n, h => by
    rcases List.mem_append.1 h with h | h
    · obtain ⟨c, -, rfl⟩ := List.mem_map.1 h
      exact runOf_pos c
    · rcases List.mem_cons.1 h with rfl | h
      · exact Nat.le_refl _
      · exact runJ_pos n h
/-! the two ways meet in joinC -/
theorem gR_shift {k : Nat} (hk : k < 44) (m : List UInt8) (j : Nat) : gR (modK k ++ 48 :: m) (j + 1) = gR m j := by
  have hl : (modK k ++ [48]).length = 16 := by rw [List.length_append, (modK_all k hk).1]; rfl
  have e : modK k ++ 48 :: m = (modK k ++ [48]) ++ m := by simp
  unfold gR
  rw [e, List.length_append, hl, show 16 * (j + 1) = 16 + 16 * j by omega, ← List.drop_drop, List.drop_left' hl, show 16 + 16 * j + 15 = 16 + (16 * j + 15) by omega, List.getElem?_append_right (by omega), hl, show 16 + (16 * j + 15) - 16 = 16 * j + 15 by omega]
  have : (16 + m.length = 16 + (16 * j + 15) ∨ m[16 * j + 15]? = some 48) ↔ (m.length = 16 * j + 15 ∨ m[16 * j + 15]? = some 48) := by
    constructor
    · rintro (h | h); exact .inl (by omega); exact .inr h
    · rintro (h | h); exact .inl (by omega); exact .inr h
  simp only [this]
theorem gP_shift {k : Nat} (hk : k < 44) (rs : List Nat) (j : Nat) : gP (runK k ++ 1 :: rs) (j + 1) = gP rs j := by
  have hl : (runK k ++ [1]).length = 10 := by rw [List.length_append, runK_len hk]; rfl
  have e : runK k ++ 1 :: rs = (runK k ++ [1]) ++ rs := by simp
  unfold gP
  rw [e, List.length_append, hl, show 10 * (j + 1) = 10 + 10 * j by omega, ← List.drop_drop, List.drop_left' hl, show 10 + 10 * j + 9 = 10 + (10 * j + 9) by omega, List.getD_eq_getElem?_getD, List.getElem?_append_right (by omega), hl, show 10 + (10 * j + 9) - 10 = 10 * j + 9 by omega, ← List.getD_eq_getElem?_getD]
  have : ((10 + (10 * j + 9) < 10 + rs.length) → rs.getD (10 * j + 9) 0 = 1) ↔ ((10 * j + 9 < rs.length) → rs.getD (10 * j + 9) 0 = 1) := by
    constructor
    · intro h h'; exact h (by omega)
    · intro h h'; exact h (by omega)
  simp only [this]
theorem decM_join : ∀ {ks : List Nat}, ks ≠ [] → (∀ k ∈ ks, k < 44) → decM (joinC ks) = some ks
  | [], h, _ => absurd rfl h
  | [k], _, h => by
    have hk := h k (List.mem_cons_self ..)
    rw [decM_iff]
    show (modK k).length + 1 = 16 ∧ _
    refine ⟨by rw [(modK_all k hk).1], fun j k' hj => ?_⟩
    have hj0 : j = 0 := by have := (List.getElem?_eq_some_iff.1 hj).1; simp at this; omega
    subst hj0
    obtain rfl := Option.some.inj hj
    rw [gR_iff]
    exact ⟨.inl (modK_all k hk).1, hk, List.take_of_length_le (by show (modK k).length ≤ 15; rw [(modK_all k hk).1]; omega)⟩
  | k :: k' :: ks, _, h => by
    have hk := h k (List.mem_cons_self ..)
    obtain ⟨h1, h2⟩ := (decM_iff _ _).1 (decM_join (ks := k' :: ks) (by simp) (fun x hx => h x (List.mem_cons_of_mem _ hx)))
    rw [decM_iff]
    refine ⟨?_, fun j k0 hj => ?_⟩
    · show (modK k ++ 48 :: joinC (k' :: ks)).length + 1 = _
      rw [List.length_append, List.length_cons, (modK_all k hk).1, h1]
      simp only [List.length_cons]
      omega
    · cases j with
      | zero =>
        obtain rfl := Option.some.inj hj
        rw [gR_iff]
        refine ⟨.inr ?_, hk, ?_⟩
        · show (modK k ++ 48 :: joinC (k' :: ks))[15]? = some 48
          rw [List.getElem?_append_right (by rw [(modK_all k hk).1]; omega), (modK_all k hk).1]
          rfl
        · show (modK k ++ 48 :: joinC (k' :: ks)).take 15 = modK k
          rw [List.take_left' (modK_all k hk).1]
      | succ j =>
        show gR (modK k ++ 48 :: joinC (k' :: ks)) (j + 1) = _
        rw [gR_shift hk]
        exact h2 j k0 hj
set_option maxRecDepth 100000 in
theorem runK_all : ∀ k < 44, ((runK k).all fun n => n == 1 || n == 3) = true ∧ pat (runK k) = pieceK k := by decide +kernel
theorem decP_run : ∀ {ks : List Nat}, ks ≠ [] → (∀ k ∈ ks, k < 44) → decP (runJ ks) = some ks
  | [], h, _ => absurd rfl h
  | [k], _, h => by
    have hk := h k (List.mem_cons_self ..)
    rw [decP_iff]
    show (runK k).length + 1 = 10 ∧ _
    refine ⟨by rw [runK_len hk], fun j k' hj => ?_⟩
    have hj0 : j = 0 := by have := (List.getElem?_eq_some_iff.1 hj).1; simp at this; omega
    subst hj0
    obtain rfl := Option.some.inj hj
    rw [gP_iff]
    have e : ((runJ [k]).drop (10 * 0)).take 9 = runK k := List.take_of_length_le (by show (runK k).length ≤ 9; rw [runK_len hk]; omega)
    rw [e]
    exact ⟨⟨(runK_all k hk).1, fun h => absurd h (by show ¬ 10 * 0 + 9 < (runK k).length; rw [runK_len hk]; omega)⟩, hk, (runK_all k hk).2⟩
  | k :: k' :: ks, _, h => by
    have hk := h k (List.mem_cons_self ..)
    obtain ⟨h1, h2⟩ := (decP_iff _ _).1 (decP_run (ks := k' :: ks) (by simp) (fun x hx => h x (List.mem_cons_of_mem _ hx)))
    rw [decP_iff]
    refine ⟨?_, fun j k0 hj => ?_⟩
    · show (runK k ++ 1 :: runJ (k' :: ks)).length + 1 = _
      rw [List.length_append, List.length_cons, runK_len hk, h1]
      simp only [List.length_cons]
      omega
    · cases j with
      | zero =>
        obtain rfl := Option.some.inj hj
        rw [gP_iff]
        have e : ((runJ (k :: k' :: ks)).drop (10 * 0)).take 9 = runK k := by
          show (runK k ++ 1 :: runJ (k' :: ks)).take 9 = runK k
          rw [List.take_left' (runK_len hk)]
        rw [e]
        refine ⟨⟨(runK_all k hk).1, fun _ => ?_⟩, hk, (runK_all k hk).2⟩
        show (runK k ++ 1 :: runJ (k' :: ks)).getD 9 0 = 1
        rw [List.getD_eq_getElem?_getD, List.getElem?_append_right (by rw [runK_len hk]; omega), runK_len hk]
        rfl
      | succ j =>
        show gP (runK k ++ 1 :: runJ (k' :: ks)) (j + 1) = _
        rw [gP_shift hk]
        exact h2 j k0 hj
theorem decM_lt {m : List UInt8} {ks : List Nat} (h : decM m = some ks) : ∀ k ∈ ks, k < 44 := fun k hk => by
  obtain ⟨j, hj, rfl⟩ := List.getElem_of_mem hk
  exact ((gR_iff _ _ _).1 (((decM_iff _ _).1 h).2 j _ (List.getElem?_eq_getElem hj))).2.1
theorem decP_lt {rs : List Nat} {ks : List Nat} (h : decP rs = some ks) : ∀ k ∈ ks, k < 44 := fun k hk => by
  obtain ⟨j, hj, rfl⟩ := List.getElem_of_mem hk
  exact ((gP_iff _ _ _).1 (((decP_iff _ _).1 h).2 j _ (List.getElem?_eq_getElem hj))).2.1
theorem decM_ne {m : List UInt8} {ks : List Nat} (h : decM m = some ks) : ks ≠ [] := fun e => by
  have := ((decM_iff _ _).1 h).1
  rw [e] at this
  simp at this
theorem decP_ne {rs : List Nat} {ks : List Nat} (h : decP rs = some ks) : ks ≠ [] := fun e => by
  have := ((decP_iff _ _).1 h).1
  rw [e] at this
  simp at this
theorem join_decM : ∀ {ks : List Nat} {m : List UInt8}, decM m = some ks → m = joinC ks
  | [], m, h => absurd rfl (decM_ne h)
  | [k], m, h => by
    obtain ⟨h1, h2⟩ := (decM_iff _ _).1 h
    obtain ⟨-, -, h5⟩ := (gR_iff _ _ _).1 (h2 0 k rfl)
    have hl : m.length = 15 := by simp at h1; omega
    have : (m.drop (16 * 0)).take 15 = m := List.take_of_length_le (by show m.length ≤ 15; omega)
    rw [this] at h5
    exact h5
  | k :: k' :: ks, m, h => by
    obtain ⟨h1, h2⟩ := (decM_iff _ _).1 h
    obtain ⟨h3, hk, h5⟩ := (gR_iff _ _ _).1 (h2 0 k rfl)
    simp only [List.length_cons] at h1
    have h48 : m[15]? = some 48 := by
      rcases h3 with h3 | h3
      · omega
      · exact h3
    have hm : m = modK k ++ 48 :: m.drop 16 := by
      have h5' : m.take 15 = modK k := h5
      conv => lhs; rw [← List.take_append_drop 15 m, h5']
      congr 1
      have h15 : 15 < m.length := by omega
      rw [List.drop_eq_getElem_cons h15]
      rw [List.getElem?_eq_getElem h15] at h48
      rw [Option.some.inj h48]
    have hr : decM (m.drop 16) = some (k' :: ks) := by
      rw [decM_iff]
      refine ⟨by rw [List.length_drop]; simp only [List.length_cons]; omega, fun j k0 hj => ?_⟩
      have := h2 (j + 1) k0 hj
      rw [hm, gR_shift hk] at this
      exact this
    rw [hm]
    show _ = modK k ++ 48 :: joinC (k' :: ks)
    rw [← join_decM hr]
theorem pat_run {rs : List Nat} (h : (rs.all fun n => n == 1 || n == 3) = true) : (pat rs).map runOf = rs := by
  unfold pat
  rw [List.map_map]
  conv => rhs; rw [← List.map_id rs]
  apply List.map_congr_left
  intro n hn
  have := List.all_eq_true.1 h n hn
  simp only [Bool.or_eq_true, beq_iff_eq] at this
  rcases this with rfl | rfl <;> rfl
theorem join_decP : ∀ {ks : List Nat} {rs : List Nat}, decP rs = some ks → rs = runJ ks
  | [], rs, h => absurd rfl (decP_ne h)
  | [k], rs, h => by
    obtain ⟨h1, h2⟩ := (decP_iff _ _).1 h
    obtain ⟨⟨h3, -⟩, -, h5⟩ := (gP_iff _ _ _).1 (h2 0 k rfl)
    have hl : rs.length = 9 := by simp at h1; omega
    have e : (rs.drop (10 * 0)).take 9 = rs := List.take_of_length_le (by show rs.length ≤ 9; omega)
    rw [e] at h3 h5
    show rs = (pieceK k).map runOf
    rw [← h5, pat_run h3]
  | k :: k' :: ks, rs, h => by
    obtain ⟨h1, h2⟩ := (decP_iff _ _).1 h
    obtain ⟨⟨h3, h4⟩, hk, h5⟩ := (gP_iff _ _ _).1 (h2 0 k rfl)
    simp only [List.length_cons] at h1
    have h9 : 9 < rs.length := by omega
    have hx : rs[9] = 1 := by
      have := h4 (by omega)
      rw [List.getD_eq_getElem?_getD, List.getElem?_eq_getElem h9] at this
      exact this
    have hm : rs = runK k ++ 1 :: rs.drop 10 := by
      have e : rs.take 9 = runK k := by
        have h5' : pat (rs.take 9) = pieceK k := h5
        show rs.take 9 = (pieceK k).map runOf
        rw [← h5']
        exact (pat_run h3).symm
      conv => lhs; rw [← List.take_append_drop 9 rs, e]
      congr 1
      rw [List.drop_eq_getElem_cons h9, hx]
    have hr : decP (rs.drop 10) = some (k' :: ks) := by
      rw [decP_iff]
      refine ⟨by rw [List.length_drop]; simp only [List.length_cons]; omega, fun j k0 hj => ?_⟩
      have := h2 (j + 1) k0 hj
      rw [hm, gP_shift hk] at this
      exact this
    rw [hm]
    show _ = runK k ++ 1 :: runJ (k' :: ks)
    rw [← join_decP hr]
/-- Both ways tell the same. -/
theorem dec_same {m : List UInt8} {rs : List Nat} (h1 : ∀ n ∈ rs, 1 ≤ n) (he : expand 0 rs = m) : decP rs = decM m := by
  cases hp : decP rs with
  | some ks =>
    have e := join_decP hp
    have hlt := decP_lt hp
    rw [← he, e, expand_runJ hlt, decM_join (decP_ne hp) hlt]
  | none =>
    cases hm : decM m with
    | none => rfl
    | some ks =>
      exfalso
      have e := join_decM hm
      have hlt := decM_lt hm
      have : rs = runJ ks := expand_inj h1 runJ_pos (by rw [he, e, expand_runJ hlt])
      rw [this, decP_run (decM_ne hm) hlt] at hp
      cases hp

end Go.Proofs.YtkipcobpnecmhaaGreatDoor


/-! A region whose order is open, walked in one order: reads and reckonings first, what makes memory one behind the other. No condition. -/
namespace Go.Proofs.YtkipcobpnecmhaaGreatDoor
open Go.RowKit

section
variable {P : Program} {ops : Array Oper} {Q : Exit → Act → World → Prop} {md : Region.Mode} {cl : Nat → Bool}

def wpAnyT (P : Program) (md : Region.Mode) (ops : Array Oper) (Q : Exit → Act → World → Prop) (cl : Nat → Bool) : Nat → Array Bool → Act → World → Prop
  | 0, listed, a, w => Region.ready md ops listed = [] ∧ Q .normal a w
  | fuel + 1, listed, a, w =>
    (Region.ready md ops listed = [] → Q .normal a w) ∧
    ∀ i ∈ Region.ready md ops listed, wpOp P ops Q i (fun a' w' => (cl i = false → Bl w w') ∧ wpAnyT P md ops Q cl fuel (listed.setIfInBounds i true) a' w') a w

theorem wpAny_of_T : ∀ (fuel : Nat) (listed : Array Bool) (a : Act) (w : World), wpAnyT P md ops Q cl fuel listed a w → wpAny P md ops Q fuel listed a w
  | 0, _, _, _, h => h
  | fuel + 1, _, _, _, h => ⟨h.1, fun i hi => wpOp_mono (fun a' w' h' => wpAny_of_T fuel _ a' w' h'.2) (h.2 i hi)⟩

theorem yieldsIf_bl {o : Oper} {v : Value} {a : Act} {w w' : World} (h : YieldsIf P ops (Bl w) o v a) (hb : Bl w w') : YieldsIf P ops (Bl w') o v a :=
  h.imp (fun ⟨h1, h2⟩ => ⟨h1, fun w'' hb' => h2 w'' (hb.trans hb')⟩) id

/-! ### who must have come up before -/
def predMask (md : Region.Mode) (ops : Array Oper) (k : Nat) : Nat :=
  match ops[k]? with
  | none => 0
  | some o => o.after.toList.foldl (fun m e => if Region.binds md e then m ||| 2 ^ e.on else m) 0
def upMask (md : Region.Mode) (ops : Array Oper) : Nat → Nat → Nat
  | 0, m => m
  | k + 1, m => upMask md ops k (if m.testBit k then m ||| predMask md ops k else m)

theorem predMask_aux (md : Region.Mode) : ∀ (l : List Edge) (m i : Nat), (l.foldl (fun m e => if Region.binds md e then m ||| 2 ^ e.on else m) m).testBit i = true →
    m.testBit i = true ∨ ∃ e ∈ l, Region.binds md e = true ∧ e.on = i
  | [], m, i, h => .inl h
  | e :: l, m, i, h => by
    rcases predMask_aux md l _ i h with h' | ⟨e', he', hb⟩
    · dsimp only at h'
      by_cases hb : Region.binds md e = true
      · rw [if_pos hb, Nat.testBit_or, Bool.or_eq_true] at h'
        rcases h' with h' | h'
        · exact .inl h'
        · rw [Nat.testBit_two_pow] at h'
          exact .inr ⟨e, by simp, hb, by simpa using h'⟩
      · rw [if_neg hb] at h'
        exact .inl h'
    · exact .inr ⟨e', by simp [he'], hb⟩

theorem upMask_spec {D : Nat → Prop} (hD : ∀ k o, ops[k]? = some o → D k → ∀ e ∈ o.after, Region.binds md e = true → D e.on) : ∀ (k m : Nat), (∀ i, m.testBit i = true → D i) → ∀ i, (upMask md ops k m).testBit i = true → D i
  | 0, m, h, i, hi => h i hi
  | k + 1, m, h, i, hi => by
    refine upMask_spec hD k _ ?_ i hi
    intro i' hi'
    split at hi'
    · rename_i hk
      rw [Nat.testBit_or, Bool.or_eq_true] at hi'
      rcases hi' with hi' | hi'
      · exact h i' hi'
      · unfold predMask at hi'
        cases ho : ops[k]? with
        | none => simp [ho] at hi'
        | some o =>
          simp only [ho] at hi'
          rcases predMask_aux md _ _ _ hi' with h0 | ⟨e, he, hb, rfl⟩
          · simp at h0
          · exact hD k o ho (h k hk) e (by simpa using he) hb
    · exact h i' hi'

theorem predMask_spec {D : Nat → Prop} {j : Nat} {oj : Oper} (hj : ops[j]? = some oj) (h : ∀ e ∈ oj.after, Region.binds md e = true → D e.on) : ∀ i, (predMask md ops j).testBit i = true → D i := by
  intro i hi
  unfold predMask at hi
  simp only [hj] at hi
  rcases predMask_aux md _ _ _ hi with h0 | ⟨e, he, hb, rfl⟩
  · simp at h0
  · exact h e (by simpa using he) hb

/-- Number i comes up before number j in every order. -/
def precedes (md : Region.Mode) (ops : Array Oper) (i j : Nat) : Bool := (upMask md ops ops.size (predMask md ops j)).testBit i

def DownClosed (md : Region.Mode) (ops : Array Oper) (listed : Array Bool) : Prop :=
  ∀ k o, ops[k]? = some o → listed.getD k true = true → ∀ e ∈ o.after, Region.binds md e = true → listed.getD e.on false = true

theorem precedes_spec {listed : Array Bool} (hdc : DownClosed md ops listed) (hsz : listed.size = ops.size) {i j : Nat} (hj : j ∈ Region.ready md ops listed) (hp : precedes md ops i j = true) : listed.getD i false = true := by
  obtain ⟨_, oj, hoj, hall⟩ := mem_ready.1 hj
  refine upMask_spec (D := fun k => listed.getD k false = true) (ops := ops) (md := md) ?_ _ _ (predMask_spec hoj (fun e he hb => hall e he hb)) i hp
  intro k o ho hk e he hb
  refine hdc k o ho ?_ e he hb
  have hlt := (Array.getElem?_eq_some_iff.1 ho).1
  simp [show k < listed.size by omega] at hk ⊢
  exact hk

theorem DownClosed.set {listed : Array Bool} (h : DownClosed md ops listed) {j : Nat} (hj : j ∈ Region.ready md ops listed) : DownClosed md ops (listed.setIfInBounds j true) := by
  obtain ⟨_, oj, hoj, hall⟩ := mem_ready.1 hj
  have up : ∀ k, listed.getD k false = true → (listed.setIfInBounds j true).getD k false = true := by
    intro k hk
    by_cases e : j = k
    · subst e
      rcases Nat.lt_or_ge j listed.size with hl | hl
      · simp [hl]
      · simp [Array.getElem?_eq_none hl] at hk
    · rw [getD_set_ne false e]; exact hk
  intro k o ho hk e he hb
  by_cases ek : j = k
  · subst ek
    rw [ho] at hoj
    obtain rfl := Option.some.inj hoj
    exact up _ (hall e he hb)
  · rw [getD_set_ne true ek] at hk
    exact up _ (h k o ho hk e he hb)

theorem wpAnyT_first {i : Nat} {oi : Oper} {v : Value} (hi : ops[i]? = some oi) (hsel : ∀ (j : Nat) (o : Oper) cs b, ops[j]? = some o → o.op ≠ .select cs b)
    (hQ : ∀ c a w, Q (.panic c) (a.put oi.dst v) w → Q (.panic c) a w) :
    ∀ (fuel : Nat) (listed : Array Bool) (a : Act) (w : World), listed.size = ops.size → DownClosed md ops listed →
      (∀ j oj, ops[j]? = some oj → j ≠ i → listed.getD j true = false → cl j = true → precedes md ops i j = true) →
      (∀ j oj, ops[j]? = some oj → j ≠ i → listed.getD j true = false → (∀ e ∈ oj.after, Region.binds md e = true → e.on ≠ i) → oi.apart ops oj = true) →
      i ∈ Region.ready md ops listed → YieldsIf P ops (Bl w) oi v a →
      wpAnyT P md ops Q cl fuel (listed.setIfInBounds i true) (a.put oi.dst v) w → wpAnyT P md ops Q cl (fuel + 1) listed a w := by
  intro fuel
  induction fuel with
  | zero =>
    intro listed a w _ _ _ _ hr hy H
    refine ⟨fun h => (by rw [h] at hr; cases hr), fun j hj => ?_⟩
    by_cases hji : j = i
    · subst hji; exact hy.wpOp hi (Bl.refl w) ⟨fun _ => Bl.refl w, H⟩
    · have := ready_mono hj hji
      rw [H.1] at this
      cases this
  | succ fuel ih =>
    intro listed a w hsz hdc hclo hfree hr hy H
    refine ⟨fun h => (by rw [h] at hr; cases hr), fun j hj => ?_⟩
    by_cases hji : j = i
    · subst hji; exact hy.wpOp hi (Bl.refl w) ⟨fun _ => Bl.refl w, H⟩
    · have h1 := H.2 j (ready_mono hj hji)
      obtain ⟨hjun, oj, hoj, hall⟩ := mem_ready.1 hj
      have hun0 : listed.getD i false = false := by
        have h0 := (mem_ready.1 hr).1
        rcases Nat.lt_or_ge i listed.size with h' | h'
        · simp [h'] at h0 ⊢; exact h0
        · simp [Array.getElem?_eq_none h']
      have hnot : ∀ e ∈ oj.after, Region.binds md e = true → e.on ≠ i := fun e he hb heq => by
        have h1 := hall e he hb
        rw [heq, hun0] at h1
        cases h1
      have hcj : cl j = false := by
        cases hc : cl j with
        | false => rfl
        | true =>
          have := precedes_spec hdc hsz hj (hclo j oj hoj hji hjun hc)
          rw [hun0] at this
          cases this
      have h2 := wpOp_putIf hoj (hfree j oj hoj hji hjun hnot) (fun cs b => hsel i oi cs b hi) (fun cs b => hsel j oj cs b hoj) hQ hy h1
      have hun' : ∀ k, (listed.setIfInBounds j true).getD k true = false → listed.getD k true = false := fun k hun => by
        by_cases hjk : j = k
        · subst hjk; exact hjun
        · rw [getD_set_ne true hjk] at hun; exact hun
      refine wpOp_mono (fun a' w' h3 => ⟨h3.2.1, ih (listed.setIfInBounds j true) a' w' (by simpa using hsz) (hdc.set hj) (fun k ok hk hki hun hc => hclo k ok hk hki (hun' k hun) hc)
        (fun k ok hk hki hun hno => hfree k ok hk hki (hun' k hun) hno) (ready_mono hr (Ne.symm hji)) (yieldsIf_bl h3.1 (h3.2.1 hcj)) ?_⟩) h2
      rw [Array.setIfInBounds_comm _ _ hji]
      exact h3.2.2

/-- In one order: 'true': what yields in every world that grows out of the one at hand; 'false': whatever else. -/
def Flow (P : Program) (ops : Array Oper) (Q : Exit → Act → World → Prop) (cl : Nat → Bool) : List (Bool × Nat) → Act → World → Prop
  | [], a, w => Q .normal a w
  | (true, i) :: σ, a, w => ∃ o v, ops[i]? = some o ∧ YieldsIf P ops (Bl w) o v a ∧ Flow P ops Q cl σ (a.put o.dst v) w
  | (false, i) :: σ, a, w => wpOp P ops Q i (fun a' w' => (cl i = false → Bl w w') ∧ Flow P ops Q cl σ a' w') a w

def flowOk (md : Region.Mode) (ops : Array Oper) (cl : Nat → Bool) : List (Bool × Nat) → Array Bool → Bool
  | [], listed => (Region.ready md ops listed).isEmpty
  | (true, i) :: σ, listed => (Region.ready md ops listed).contains i && Region.free md ops listed i &&
      ((List.range ops.size).all fun j => j == i || listed.getD j true || !cl j || precedes md ops i j) && flowOk md ops cl σ (listed.setIfInBounds i true)
  | (false, i) :: σ, listed => Region.ready md ops listed == [i] && flowOk md ops cl σ (listed.setIfInBounds i true)

theorem flow_sound (hs : Region.noSelect ops = true) (hQ : ∀ c a d v w, Q (.panic c) (Act.put a d v) w → Q (.panic c) a w) :
    ∀ (σ : List (Bool × Nat)) (fuel : Nat) (listed : Array Bool) (a : Act) (w : World), listed.size = ops.size → DownClosed md ops listed → σ.length ≤ fuel → flowOk md ops cl σ listed = true →
      Flow P ops Q cl σ a w → wpAnyT P md ops Q cl fuel listed a w := by
  intro σ
  induction σ with
  | nil =>
    intro fuel listed a w _ _ _ hok h
    have hr : Region.ready md ops listed = [] := by simpa [flowOk] using hok
    cases fuel with
    | zero => exact ⟨hr, h⟩
    | succ fuel => exact ⟨fun _ => h, fun i hi => by rw [hr] at hi; cases hi⟩
  | cons s σ ih =>
    obtain ⟨b, i⟩ := s
    intro fuel listed a w hsz hdc hf hok h
    cases fuel with
    | zero => simp at hf
    | succ fuel =>
      have hf' : σ.length ≤ fuel := by simpa using hf
      cases b with
      | true =>
        simp only [flowOk, Bool.and_eq_true] at hok
        obtain ⟨⟨⟨h1, h2⟩, h3⟩, h4⟩ := hok
        obtain ⟨o, v, ho, hy, hfl⟩ := h
        have hir : i ∈ Region.ready md ops listed := by simpa using h1
        refine wpAnyT_first ho (Region.noSelect_spec hs) (fun c a w => hQ c a o.dst v w) fuel listed a w hsz hdc ?_ (Region.free_spec ho h2) hir hy (ih fuel _ _ _ (by simpa using hsz) (hdc.set hir) hf' h4 hfl)
        intro j oj hj hji hun hc
        simp only [List.all_eq_true, List.mem_range] at h3
        have h5 := h3 j (Array.getElem?_eq_some_iff.1 hj).1
        simpa only [hc, hun, Bool.or_eq_true, beq_iff_eq, hji, Bool.not_true, Bool.false_eq_true, false_or] using h5
      | false =>
        simp only [flowOk, Bool.and_eq_true, beq_iff_eq] at hok
        obtain ⟨h1, h4⟩ := hok
        refine ⟨fun h0 => (by rw [h0] at h1; cases h1), fun j hj => ?_⟩
        have hj0 := hj
        rw [h1] at hj
        obtain rfl := List.mem_singleton.1 hj
        exact wpOp_mono (fun a' w' h' => ⟨h'.1, ih fuel _ _ _ (by simpa using hsz) (hdc.set hj0) hf' h4 h'.2⟩) h

theorem downClosed_start : DownClosed md ops (Array.replicate ops.size false) := by
  intro k o ho hk
  have hlt := (Array.getElem?_eq_some_iff.1 ho).1
  simp [hlt] at hk

theorem noPanic_put {Q : Exit → Act → World → Prop} : ∀ c a d v w, NoPanic Q (.panic c) (Act.put a d v) w → NoPanic Q (.panic c) a w := fun _ _ _ _ _ h => h

/-- **THE BEGINNING.** -/
theorem wp_region_flow {id : Nat} {a : Act} {w : World} (σ : List (Bool × Nat)) (cl : Nat → Bool) (hm : P.follows .mixedOrders = true) (hs : Region.noSelect ops = true)
    (hl : decide (σ.length ≤ ops.size) = true) (hok : flowOk .any ops cl σ (Array.replicate ops.size false) = true)
    (h : Flow P ops (NoPanic Q) cl σ a w.drew) : (Code.region id ops true).wp P Q a w :=
  wp_region_noPanic (wp_region_any hm (wpAny_of_T _ _ _ _ (flow_sound hs noPanic_put σ _ _ _ _ (by simp) downClosed_start (of_decide_eq_true hl) hok h)))

theorem arr_getD (l : List Value) (i : Nat) (d : Value) : l.toArray.getD i d = l.getD i d := by simp

section
variable {l : List Oper}
theorem Flow.calm {i : Nat} {o : Oper} {σ : List (Bool × Nat)} {a : Act} {w : World} (v : Value) (ho : l[i]? = some o) (hg : o.guard = none)
    (hr : ∀ w', Bl w w' → (execOp a.eval o).run P w' = .ok (.value v) w') (h : Flow P l.toArray Q cl σ (a.put o.dst v) w) : Flow P l.toArray Q cl ((true, i) :: σ) a w :=
  ⟨o, v, by simpa using ho, .inl ⟨by simp [Region.wanted, hg], hr⟩, h⟩

/-- The same: the value and the frame are found by walking 'K'. -/
theorem Flow.calm2 {i : Nat} {o : Oper} {σ : List (Bool × Nat)} {a : Act} {w : World} (v : Value) (a' : Act) (ho : l[i]? = some o) (hg : o.guard = none)
    (hr : ∀ w', Bl w w' → ∀ K : Result Next → Prop, K (.ok (.value v) w') → K ((execOp a.eval o).run P w')) (ha : ∀ K : Act → Prop, K a' → K (a.put o.dst v))
    (h : Flow P l.toArray Q cl σ a' w) : Flow P l.toArray Q cl ((true, i) :: σ) a w :=
  Flow.calm v ho hg (fun w' hb => hr w' hb (fun r => r = .ok (.value v) w') rfl) (ha (fun x => Flow P l.toArray Q cl σ x w) h)

/-- A copy. -/
theorem Flow.mv {i : Nat} {d : Option Tmp} {x : Operand} {ty : TypeId} {ps : String} {af : Array Edge} {σ : List (Bool × Nat)} {a : Act} {w : World} (a' : Act) (ho : l[i]? = some ⟨d, .move x, ty, ps, af, none⟩)
    (ha : ∀ K : Act → Prop, K a' → K (a.put d (a.eval x))) (h : Flow P l.toArray Q cl σ a' w) : Flow P l.toArray Q cl ((true, i) :: σ) a w :=
  Flow.calm (a.eval x) ho rfl (fun w' _ => by simp [execOp]) (ha (fun x => Flow P l.toArray Q cl σ x w) h)
theorem Flow.asg {i : Nat} {d : Option Tmp} {x : Operand} {ty : TypeId} {ps : String} {af : Array Edge} {σ : List (Bool × Nat)} {a : Act} {w : World} (a' : Act) (ho : l[i]? = some ⟨d, .assign x, ty, ps, af, none⟩)
    (ha : ∀ K : Act → Prop, K a' → K (a.put d (a.eval x))) (h : Flow P l.toArray Q cl σ a' w) : Flow P l.toArray Q cl ((true, i) :: σ) a w :=
  Flow.calm (a.eval x) ho rfl (fun w' _ => by simp [execOp]) (ha (fun x => Flow P l.toArray Q cl σ x w) h)

theorem Flow.calmG {i : Nat} {o : Oper} {σ : List (Bool × Nat)} {a : Act} {w : World} (v : Value) (ho : l[i]? = some o) (hg : Region.wanted o (yielded l.toArray a.tmps) = true)
    (hr : ∀ w', Bl w w' → (execOp a.eval o).run P w' = .ok (.value v) w') (h : Flow P l.toArray Q cl σ (a.put o.dst v) w) : Flow P l.toArray Q cl ((true, i) :: σ) a w :=
  ⟨o, v, by simpa using ho, .inl ⟨hg, hr⟩, h⟩

theorem Flow.pass {i : Nat} {o : Oper} {σ : List (Bool × Nat)} {a : Act} {w : World} (ho : l[i]? = some o) (hg : Region.wanted o (yielded l.toArray a.tmps) = false)
    (h : Flow P l.toArray Q cl σ (a.put o.dst undef) w) : Flow P l.toArray Q cl ((true, i) :: σ) a w :=
  ⟨o, undef, by simpa using ho, .inr ⟨hg, rfl⟩, h⟩

theorem Flow.move {i : Nat} {o : Oper} {σ : List (Bool × Nat)} {a : Act} {w : World} (ho : l[i]? = some o)
    (h : wpList P l.toArray (Exit.then (fun a' w' => (cl i = false → Bl w w') ∧ Flow P l.toArray Q cl σ a' w') Q) [o] a w) : Flow P l.toArray Q cl ((false, i) :: σ) a w := by
  have ho' : l.toArray[i]? = some o := by simpa using ho
  simp only [Flow, wpOp, ho']
  simp only [wpList] at h
  exact h
end

def tailOps (ops : Array Oper) (cl : Nat → Bool) : List (Bool × Nat) → Option (List Oper)
  | [] => some []
  | (b, i) :: σ => if !b && cl i then (ops[i]?).bind fun o => (tailOps ops cl σ).map (o :: ·) else none

theorem flow_tail_aux : ∀ (σ : List (Bool × Nat)) (l : List Oper) (a : Act) (w : World), tailOps ops cl σ = some l → wpList P ops Q l a w → Flow P ops Q cl σ a w := by
  intro σ
  induction σ with
  | nil => intro l a w hl h; simp [tailOps] at hl; subst hl; exact h
  | cons s σ ih =>
    obtain ⟨b, i⟩ := s
    intro l a w hl h
    simp only [tailOps] at hl
    split at hl
    · rename_i hb
      simp only [Bool.and_eq_true, Bool.not_eq_true'] at hb
      obtain ⟨rfl, hc⟩ := hb
      cases ho : ops[i]? with
      | none => simp [ho] at hl
      | some o =>
        simp only [ho, Option.bind_some, Option.map_eq_some_iff] at hl
        obtain ⟨l', hl', rfl⟩ := hl
        have h' : wpOp P ops Q i (wpList P ops Q l') a w := by
          unfold wpOp
          simp only [ho]
          exact h
        exact wpOp_mono (fun a' w' h'' => ⟨fun hc' => absurd (hc.symm.trans hc') (by decide), ih l' a' w' hl' h''⟩) h'
    · cases hl

/-- What is left comes up in one order: an ordinary list of operations. -/
theorem Flow.tail {σ : List (Bool × Nat)} (l : List Oper) {a : Act} {w : World} (hl : tailOps ops cl σ = some l)
    (h : wpList P ops (Exit.then (fun a' w' => Q .normal a' w') (NoPanic Q)) l a w) : Flow P ops (NoPanic Q) cl σ a w := by
  have e : (Exit.then (fun a' w' => Q .normal a' w') (NoPanic Q)) = NoPanic Q := by
    funext e a w
    cases e <;> rfl
  rw [e] at h
  exact flow_tail_aux σ l a w hl h

theorem Flow.done {a : Act} {w : World} (h : Q .normal a w) : Flow P ops (NoPanic Q) cl [] a w := h
end

end Go.Proofs.YtkipcobpnecmhaaGreatDoor


/-! What the references' and the program's small functions on numbers and sizes compute. -/
namespace Go.Proofs.YtkipcobpnecmhaaGreatDoor
open Go.RowKit

/-! ### plain -/
def inB (n lo hi : Int) : Bool := decide (lo ≤ n) && decide (n ≤ hi)
theorem inB_true {n lo hi : Int} : inB n lo hi = true ↔ lo ≤ n ∧ n ≤ hi := by simp [inB]
theorem inB_false {n lo hi : Int} : inB n lo hi = false ↔ n < lo ∨ hi < n := by simp [inB]; omega
def whenI (b : Bool) (e : Int) : Int := if b then e else 0
def sizeErr (W H : Int) : Int := if 1 ≤ W ∧ W ≤ 4000 ∧ 1 ≤ H ∧ H ≤ 4000 then (if W * H > 1048576 then 4 else 0) else 3
def pageErr (W H : Int) (n : Nat) : Int := if sizeErr W H = 0 then (if (n : Int) = W * H then 0 else 2) else sizeErr W H
def firstNZ : List Int → Int
  | [] => 0
  | e :: es => if e = 0 then firstNZ es else e

theorem mul_bd {W H : Int} (h1 : 1 ≤ W) (h2 : W ≤ 4000) (h3 : 1 ≤ H) (h4 : H ≤ 4000) : 1 ≤ W * H ∧ W * H ≤ 16000000 := by
  have a := Int.mul_le_mul h1 h3 (by omega) (by omega)
  have b := Int.mul_le_mul h2 h4 (by omega) (by omega)
  omega

/-! ### bedref2.In, When, First -/
set_option maxHeartbeats 400000 in
theorem in_any (n lo hi : Int) (w : World) :
    Calls Tryz.prog 18 #[.int .i64 n, .int .i64 lo, .int .i64 hi] w fun e w' => e = .returned (.bool (inB n lo hi)) ∧ w = w' := by
  unfold inB
  by_cases h1 : lo ≤ n <;> by_cases h2 : n ≤ hi
  all_goals
    go_enter Tryz.func18, Tryz.ntmps18
    go_wp2
    go_ret
    exact ⟨by simp [*], rfl⟩

set_option maxHeartbeats 400000 in
theorem when_any (b : Bool) (n : Int) (w : World) :
    Calls Tryz.prog 17 #[.bool b, .int .i64 n] w fun e w' => e = .returned (.int .i64 (whenI b n)) ∧ w = w' := by
  unfold whenI
  cases b
  all_goals
    go_enter Tryz.func17, Tryz.ntmps17
    go_wp2
    go_ret
    exact ⟨by simp, rfl⟩

theorem firstNZ_split (es : List Int) (k : Nat) (hk : k < es.length) (h : ∀ j, j < k → es[j]? = some 0) : firstNZ es = firstNZ (es.drop k) := by
  induction k generalizing es with
  | zero => simp
  | succ k ih =>
    cases es with
    | nil => simp at hk
    | cons e es =>
      have h0 := h 0 (by omega)
      simp at h0
      subst h0
      simp only [firstNZ, if_true, List.drop_succ_cons]
      exact ih es (by simpa using hk) (fun j hj => by simpa using h (j+1) (by omega))

set_option maxHeartbeats 400000 in
theorem first_any (A : Option Addr) (c : Nat) (es : List Int) (w : World) (hr : Reads w 1 A es.length (es.map (.int .i64))) (hl : es.length ≤ 1000) :
    Calls Tryz.prog 16 #[.slice A es.length c] w fun e w' => e = .returned (.int .i64 (firstNZ es)) ∧ w = w' := by
  go_enter Tryz.func16, Tryz.ntmps16
  go_wp2
  go_loop [7] (fun v => ∃ k : Nat, k ≤ es.length ∧ v = .int .i64 k ∧ Hid (∀ j, j < k → es[j]? = some 0)) (fun v => es.length - (intOf v).toNat)
  case atStart => exact ⟨0, Nat.zero_le _, rfl, fun j hj => absurd hj (by omega)⟩
  case round =>
    obtain ⟨k, hk, rfl, hz⟩ := hrel
    by_cases hlt : k < es.length
    · obtain ⟨ad, u, rfl, hu, hc⟩ := hr.at_ hlt
      have hu' : u = .int .i64 es[k] := by simpa [hlt] using hu.symm
      subst hu'
      have hd : firstNZ es = if es[k] = 0 then firstNZ (es.drop (k+1)) else es[k] := by
        rw [firstNZ_split es k hlt hz.out, List.drop_eq_getElem_cons hlt]; rfl
      have Hd := Lib.hid hd; clear hd hu
      have Hn := Lib.hid hr; clear hr
      by_cases h0 : es[k] = 0
      · have hzz : Hid (∀ j, j < k + 1 → es[j]? = some 0) := fun j hj => by
          rcases Nat.lt_or_ge j k with h | h
          · exact hz.out j h
          · obtain rfl : j = k := by omega
            simp [hlt, h0]
        go_wp2
        go_round
        case rel => exact ⟨k+1, hlt, by go_num, hzz⟩
        case measure => simp [intOf]; omega
      · have hb : (es[k] != 0) = true := by simpa using h0
        have h0' := Lib.hid h0; clear h0
        go_wp2
        go_ret
        exact ⟨ret_int (by rw [Hd.out, if_neg h0'.out]), rfl⟩
    · have hd : firstNZ es = 0 := by
        rcases Nat.eq_zero_or_pos es.length with h | h
        · rw [List.eq_nil_of_length_eq_zero h]; rfl
        · have := firstNZ_split es (es.length - 1) (by omega) (fun j hj => hz.out j (by omega))
          rw [this, List.drop_eq_getElem_cons (by omega)]
          have hz' := hz.out (es.length - 1) (by omega)
          rw [List.getElem?_eq_getElem (by omega)] at hz'
          simp at hz'
          simp [firstNZ, hz']
          have : es.length - 1 + 1 = es.length := by omega
          rw [this]; simp [firstNZ]
      have Hd := Lib.hid hd; clear hd
      have Hr := Lib.hid hr; clear hr
      go_wp2
      go_ret
      exact ⟨ret_int (by rw [Hd.out]), rfl⟩

theorem first2_any (e1 e2 : Int) (g : Nat) (w : World) (h : Blk w g 23 #[.int .i64 e1, .int .i64 e2]) :
    Calls Tryz.prog 16 #[.slice (some ⟨g, 0, none⟩) 2 2] w fun e w' => e = .returned (.int .i64 (firstNZ [e1, e2])) ∧ w = w' :=
  first_any (some ⟨g, 0, none⟩) 2 [e1, e2] w (h.reads 2 1 rfl) (by simp)
/-! ### sizes -/
set_option maxHeartbeats 400000 in
theorem checkSize_any (W H : Int) (w : World) :
    Calls Tryz.prog 35 #[.int .i64 W, .int .i64 H] w fun e w' => e = .returned (.int .i64 (sizeErr W H)) ∧ w = w' := by
  by_cases h1 : 1 ≤ W
  · by_cases h2 : W ≤ 4000
    · by_cases h3 : 1 ≤ H
      · by_cases h4 : H ≤ 4000
        · have hm := mul_bd h1 h2 h3 h4
          by_cases h5 : W * H > 1048576
          · have hs : sizeErr W H = 4 := by unfold sizeErr; rw [if_pos ⟨h1, h2, h3, h4⟩, if_pos h5]
            have Hs := Lib.hid hs; clear hs
            go_enter Tryz.func35, Tryz.ntmps35
            go_wp2
            go_ret
            exact ⟨ret_int Hs.out.symm, rfl⟩
          · have hs : sizeErr W H = 0 := by unfold sizeErr; rw [if_pos ⟨h1, h2, h3, h4⟩, if_neg h5]
            have Hs := Lib.hid hs; clear hs
            go_enter Tryz.func35, Tryz.ntmps35
            go_wp2
            go_ret
            exact ⟨ret_int Hs.out.symm, rfl⟩
        · have hs : sizeErr W H = 3 := by unfold sizeErr; rw [if_neg (by omega)]
          have Hs := Lib.hid hs; clear hs
          go_enter Tryz.func35, Tryz.ntmps35
          go_wp2
          go_ret
          exact ⟨ret_int Hs.out.symm, rfl⟩
      · have hs : sizeErr W H = 3 := by unfold sizeErr; rw [if_neg (by omega)]
        have Hs := Lib.hid hs; clear hs
        go_enter Tryz.func35, Tryz.ntmps35
        go_wp2
        go_ret
        exact ⟨ret_int Hs.out.symm, rfl⟩
    · have hs : sizeErr W H = 3 := by unfold sizeErr; rw [if_neg (by omega)]
      have Hs := Lib.hid hs; clear hs
      go_enter Tryz.func35, Tryz.ntmps35
      go_wp2
      go_ret
      exact ⟨ret_int Hs.out.symm, rfl⟩
  · have hs : sizeErr W H = 3 := by unfold sizeErr; rw [if_neg (by omega)]
    have Hs := Lib.hid hs; clear hs
    go_enter Tryz.func35, Tryz.ntmps35
    go_wp2
    go_ret
    exact ⟨ret_int Hs.out.symm, rfl⟩

theorem sizeErr_zero {W H : Int} (h : sizeErr W H = 0) : 1 ≤ W ∧ W ≤ 4000 ∧ 1 ≤ H ∧ H ≤ 4000 ∧ W * H ≤ 1048576 := by
  unfold sizeErr at h
  split at h
  · split at h
    · omega
    · rename_i a b; exact ⟨a.1, a.2.1, a.2.2.1, a.2.2.2, by omega⟩
  · omega
/-- The first error of a size. -/
theorem sizeErr_first (W H : Int) : firstNZ [whenI (!inB W 1 4000 || !inB H 1 4000) 3, whenI (inB W 1 4000 && inB H 1 4000 && decide (W * H > 1048576)) 4] = sizeErr W H := by
  unfold sizeErr
  by_cases h : 1 ≤ W ∧ W ≤ 4000 ∧ 1 ≤ H ∧ H ≤ 4000
  · have a : inB W 1 4000 = true := inB_true.2 ⟨h.1, h.2.1⟩
    have b : inB H 1 4000 = true := inB_true.2 h.2.2
    rw [if_pos h, a, b]
    by_cases h5 : W * H > 1048576 <;> simp [firstNZ, whenI, h5]
  · rw [if_neg h]
    have a : (!inB W 1 4000 || !inB H 1 4000) = true := by
      rw [Bool.or_eq_true, Bool.not_eq_true', Bool.not_eq_true', inB_false, inB_false]; omega
    simp [firstNZ, whenI, a]

set_option maxHeartbeats 400000 in
theorem sizeError_any (W H : Int) (w : World) :
    Calls Tryz.prog 42 #[.int .i64 W, .int .i64 H] w fun e w' => e = .returned (.int .i64 (sizeErr W H)) ∧ Bl w w' := by
  have hf := sizeErr_first W H
  cases h1 : inB W 1 4000 <;> cases h2 : inB H 1 4000
  case true.true =>
    have hm := mul_bd (inB_true.1 h1).1 (inB_true.1 h1).2 (inB_true.1 h2).1 (inB_true.1 h2).2
    rw [h1, h2] at hf
    simp only [Bool.not_true, Bool.or_self, Bool.and_self, Bool.true_and] at hf
    have Hf := Lib.hid hf; clear hf
    go_enter Tryz.func42, Tryz.ntmps42
    go_wp2_with (first | (go_at_call 18; refine (in_any _ _ _ _).mono ?_; rintro e w' ⟨rfl, rfl⟩) | (go_at_call 17; refine (when_any _ _ _).mono ?_; rintro e w' ⟨rfl, rfl⟩) | (go_at_call 16; refine (first2_any _ _ _ _ (Blk.new _ _ _)).mono ?_; rintro e w' ⟨rfl, rfl⟩))
    go_ret
    exact ⟨ret_int Hf.out, (Bl.refl _).alloc _⟩
  all_goals
    rw [h1, h2] at hf
    simp only [Bool.not_true, Bool.not_false, Bool.or_self, Bool.and_self, Bool.false_and, Bool.and_false, Bool.or_true, Bool.true_or] at hf
    have Hf := Lib.hid hf; clear hf
    go_enter Tryz.func42, Tryz.ntmps42
    go_wp2_with (first | (go_at_call 18; refine (in_any _ _ _ _).mono ?_; rintro e w' ⟨rfl, rfl⟩) | (go_at_call 17; refine (when_any _ _ _).mono ?_; rintro e w' ⟨rfl, rfl⟩) | (go_at_call 16; refine (first2_any _ _ _ _ (Blk.new _ _ _)).mono ?_; rintro e w' ⟨rfl, rfl⟩))
    go_ret
    exact ⟨ret_int Hf.out, (Bl.refl _).alloc _⟩

/-! ### a page's error -/
theorem pageErr_first (W H : Int) (n : Nat) (b : Bool) (hb : sizeErr W H = 0 → b = !decide ((n : Int) = W * H)) : firstNZ [sizeErr W H, whenI b 2] = pageErr W H n := by
  unfold pageErr
  by_cases h : sizeErr W H = 0
  · rw [hb h, if_pos h, h]
    by_cases h5 : (n : Int) = W * H <;> simp [firstNZ, whenI, h5]
  · simp [firstNZ, h]

theorem ne_wrap (W H : Int) (n : Nat) (h : sizeErr W H = 0) : ((n : Int) != wrap64 (W * H)) = !decide ((n : Int) = W * H) := by
  have hz := sizeErr_zero h
  have hm := mul_bd hz.1 hz.2.1 hz.2.2.1 hz.2.2.2.1
  have e : wrap64 (W * H) = W * H := by unfold wrap64; omega
  rw [e]
  by_cases hx : (n : Int) = W * H <;> simp [hx]

theorem pageErr_zero {W H : Int} {n : Nat} (h : pageErr W H n = 0) : sizeErr W H = 0 ∧ (n : Int) = W * H := by
  unfold pageErr at h
  split at h
  · rename_i a
    refine ⟨a, ?_⟩
    split at h
    · assumption
    · omega
  · contradiction

set_option maxRecDepth 100000 in
set_option maxHeartbeats 400000 in
theorem bitsError_any (W H : Int) (A : Option Addr) (n c : Nat) (w : World) :
    Calls Tryz.prog 13 #[.agg #[.int .i64 W, .int .i64 H, .slice A n c]] w fun e w' => e = .returned (.int .i64 (pageErr W H n)) ∧ Bl w w' := by
  go_enter Tryz.func13, Tryz.ntmps13
  go_wp2_with fail
  refine wp_region_flow [(true, 0), (true, 1), (true, 2), (true, 3), (true, 5), (true, 6), (true, 7), (true, 8), (true, 9), (true, 10), (true, 11), (true, 12), (true, 13), (false, 4), (false, 14), (false, 15), (false, 16), (true, 17)] (fun _ => false) (by kernel_rfl) (by kernel_rfl) (by kernel_rfl) (by kernel_rfl) ?_
  iterate 1
    apply Flow.calm2 _ _ rfl rfl
    · intro w' hb' K' hK'
      obtain ⟨hc', hf'⟩ := hb'.rule
      go_simp
      try go_ints
      exact hK'
    · intro K' hK'
      simp only [Act.put, List.setIfInBounds_toArray, List.set_cons_zero, List.set_cons_succ]
      exact hK'
  iterate 1
    apply Flow.calm2 _ _ rfl rfl
    · intro w' hb' K' hK'
      obtain ⟨hc', hf'⟩ := hb'.rule
      go_simp
      try go_ints
      exact hK'
    · intro K' hK'
      simp only [Act.put, List.setIfInBounds_toArray, List.set_cons_zero, List.set_cons_succ]
      exact hK'
  iterate 1
    apply Flow.calm2 _ _ rfl rfl
    · intro w' hb' K' hK'
      obtain ⟨hc', hf'⟩ := hb'.rule
      go_simp
      try go_ints
      exact hK'
    · intro K' hK'
      simp only [Act.put, List.setIfInBounds_toArray, List.set_cons_zero, List.set_cons_succ]
      exact hK'
  iterate 1
    apply Flow.calm2 _ _ rfl rfl
    · intro w' hb' K' hK'
      obtain ⟨hc', hf'⟩ := hb'.rule
      go_simp
      try go_ints
      exact hK'
    · intro K' hK'
      simp only [Act.put, List.setIfInBounds_toArray, List.set_cons_zero, List.set_cons_succ]
      exact hK'
  iterate 1
    apply Flow.calm2 _ _ rfl rfl
    · intro w' hb' K' hK'
      obtain ⟨hc', hf'⟩ := hb'.rule
      go_simp
      try go_ints
      exact hK'
    · intro K' hK'
      simp only [Act.put, List.setIfInBounds_toArray, List.set_cons_zero, List.set_cons_succ]
      exact hK'
  iterate 1
    apply Flow.calm2 _ _ rfl rfl
    · intro w' hb' K' hK'
      obtain ⟨hc', hf'⟩ := hb'.rule
      go_simp
      try go_ints
      exact hK'
    · intro K' hK'
      simp only [Act.put, List.setIfInBounds_toArray, List.set_cons_zero, List.set_cons_succ]
      exact hK'
  iterate 1
    apply Flow.calm2 _ _ rfl rfl
    · intro w' hb' K' hK'
      obtain ⟨hc', hf'⟩ := hb'.rule
      go_simp
      try go_ints
      exact hK'
    · intro K' hK'
      simp only [Act.put, List.setIfInBounds_toArray, List.set_cons_zero, List.set_cons_succ]
      exact hK'
  iterate 1
    apply Flow.calm2 _ _ rfl rfl
    · intro w' hb' K' hK'
      obtain ⟨hc', hf'⟩ := hb'.rule
      go_simp
      try go_ints
      exact hK'
    · intro K' hK'
      simp only [Act.put, List.setIfInBounds_toArray, List.set_cons_zero, List.set_cons_succ]
      exact hK'
  iterate 1
    apply Flow.calm2 _ _ rfl rfl
    · intro w' hb' K' hK'
      obtain ⟨hc', hf'⟩ := hb'.rule
      go_simp
      try go_ints
      exact hK'
    · intro K' hK'
      simp only [Act.put, List.setIfInBounds_toArray, List.set_cons_zero, List.set_cons_succ]
      exact hK'
  iterate 1
    apply Flow.calm2 _ _ rfl rfl
    · intro w' hb' K' hK'
      obtain ⟨hc', hf'⟩ := hb'.rule
      go_simp
      try go_ints
      exact hK'
    · intro K' hK'
      simp only [Act.put, List.setIfInBounds_toArray, List.set_cons_zero, List.set_cons_succ]
      exact hK'
  iterate 1
    apply Flow.calm2 _ _ rfl rfl
    · intro w' hb' K' hK'
      obtain ⟨hc', hf'⟩ := hb'.rule
      go_simp
      try go_ints
      exact hK'
    · intro K' hK'
      simp only [Act.put, List.setIfInBounds_toArray, List.set_cons_zero, List.set_cons_succ]
      exact hK'
  iterate 2
    apply Flow.calm2 _ _ rfl rfl
    · intro w' hb' K' hK'
      obtain ⟨hc', hf'⟩ := hb'.rule
      go_simp
      try go_ints
      exact hK'
    · intro K' hK'
      simp only [Act.put, List.setIfInBounds_toArray, List.set_cons_zero, List.set_cons_succ]
      exact hK'
  apply Flow.move rfl
  go_wp2_with fail
  refine (sizeError_any _ _ _).mono ?_
  rintro e w1 ⟨rfl, HB1⟩
  go_wp2_with fail
  refine ⟨fun _ => (by first | exact HB1 | exact Bl.refl _), ?_⟩
  apply Flow.move rfl
  go_wp2_with fail
  refine (when_any _ _ _).mono ?_
  rintro e w2 ⟨rfl, rfl⟩
  go_wp2_with fail
  refine ⟨fun _ => (by first | exact HB2 | exact Bl.refl _), ?_⟩
  apply Flow.move rfl
  go_wp2_with fail
  first | refine ⟨fun _ => ?_, ?_⟩ | refine ⟨?_, ?_⟩
  · repeat' (first | exact Bl.refl _ | refine Bl.drewL ?_ | refine Bl.drew ?_ | refine Bl.alloc ?_ _)
  apply Flow.move rfl
  go_wp2_with fail
  refine (first2_any _ _ _ _ (Blk.new _ _ _)).mono ?_
  rintro e w3 ⟨rfl, rfl⟩
  go_wp2_with fail
  refine ⟨fun _ => (by first | exact HB4 | exact Bl.refl _), ?_⟩
  iterate 1
    apply Flow.asg _ rfl
    · intro K' hK'
      simp only [Act.put, Act.eval, List.setIfInBounds_toArray, List.set_cons_zero, List.set_cons_succ, arr_getD, List.getD_cons_zero, List.getD_cons_succ]
      exact hK'
  refine Flow.done ?_
  go_wp2_with fail
  go_ret
  refine ⟨ret_int (pageErr_first W H n _ (ne_wrap W H n)), ?_⟩
  exact ((((Bl.refl _).alloc _).drew).trans HB1).alloc _

set_option maxRecDepth 100000 in
set_option maxHeartbeats 400000 in
theorem checkBits_any (W H : Int) (A : Option Addr) (n c : Nat) (w : World) :
    Calls Tryz.prog 36 #[.agg #[.int .i64 W, .int .i64 H, .slice A n c]] w fun e w' => e = .returned (.int .i64 (pageErr W H n)) ∧ Bl w w' := by
  by_cases h : sizeErr W H = 0
  · have hz := sizeErr_zero h
    have hm := mul_bd hz.1 hz.2.1 hz.2.2.1 hz.2.2.2.1
    have hp : pageErr W H n = if (n : Int) = W * H then 0 else 2 := by unfold pageErr; rw [if_pos h]
    by_cases h5 : (n : Int) = W * H
    · rw [if_pos h5] at hp
      have hq : ((n : Int) != W * H) = false := by simp [h5]
      have H5 := Lib.hid h5; clear h5
      have Hp := Lib.hid hp; clear hp
      go_enter Tryz.func36, Tryz.ntmps36
      go_wp2_with (go_at_call 35; refine (checkSize_any _ _ _).mono ?_; rintro e w' ⟨rfl, rfl⟩)
      go_ret
      exact ⟨ret_int Hp.out.symm, (Bl.refl _).alloc _⟩
    · rw [if_neg h5] at hp
      have hq : ((n : Int) != W * H) = true := by simp [h5]
      have H5 := Lib.hid h5; clear h5
      have Hp := Lib.hid hp; clear hp
      go_enter Tryz.func36, Tryz.ntmps36
      go_wp2_with (go_at_call 35; refine (checkSize_any _ _ _).mono ?_; rintro e w' ⟨rfl, rfl⟩)
      go_ret
      exact ⟨ret_int Hp.out.symm, (Bl.refl _).alloc _⟩
  · have hp : pageErr W H n = sizeErr W H := by unfold pageErr; rw [if_neg h]
    have hq : (sizeErr W H != 0) = true := by simp [h]
    have Hp := Lib.hid hp; clear hp h
    go_enter Tryz.func36, Tryz.ntmps36
    go_wp2_with (go_at_call 35; refine (checkSize_any _ _ _).mono ?_; rintro e w' ⟨rfl, rfl⟩)
    go_ret
    exact ⟨ret_int Hp.out.symm, (Bl.refl _).alloc _⟩

theorem page_nat {W H : Int} {n : Nat} (h : pageErr W H n = 0) : ∃ W' H' : Nat, W = (W' : Int) ∧ H = (H' : Int) ∧ n = W' * H' ∧ W' ≤ 4000 ∧ H' ≤ 4000 ∧ W' * H' ≤ 1048576 := by
  obtain ⟨hs, hn⟩ := pageErr_zero h
  have hz' := sizeErr_zero hs
  obtain ⟨W, rfl⟩ := Int.eq_ofNat_of_zero_le (show 0 ≤ W by omega)
  obtain ⟨H, rfl⟩ := Int.eq_ofNat_of_zero_le (show 0 ≤ H by omega)
  have := Int.natCast_mul W H
  exact ⟨W, H, rfl, rfl, by omega, by omega, by omega, by omega⟩

end Go.Proofs.YtkipcobpnecmhaaGreatDoor
