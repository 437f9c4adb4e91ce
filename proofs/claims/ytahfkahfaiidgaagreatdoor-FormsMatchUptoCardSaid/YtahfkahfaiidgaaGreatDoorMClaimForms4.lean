/- Texts of letters; searches through letters; slices.Contains of ints. -/
import Derived.Test.YtahfkahfaiidgaaGreatDoorMClaimForms1
import Derived.Test.YtahfkahfaiidgaaGreatDoorMClaimForms0
import Derived.Lib.TrimByte

namespace Go.Proofs.YtahfkahfaiidgaaGreatDoor
open Go.RowKit

def okC (b : UInt8) : Prop := 33 ≤ (b.toNat : Int) ∧ (b.toNat : Int) ≤ 126
/-- Are all bytes from 33 to 126? -/
def printB (l : List UInt8) : Bool := decide (∀ b ∈ l, 33 ≤ b.toNat ∧ b.toNat ≤ 126)
theorem printB_stop {l : List UInt8} {k : Nat} {b : UInt8} (h : l[k]? = some b) (hn : ¬ okC b) : printB l = false :=
  decide_eq_false (fun h2 => hn (by have := h2 b (List.mem_of_getElem? h); unfold okC; omega))
theorem printB_end {l : List UInt8} (h : ∀ (j : Nat) b, j < l.length → l[j]? = some b → okC b) : printB l = true :=
  decide_eq_true fun b hb => by
    obtain ⟨j, hj⟩ := List.getElem?_of_mem hb
    have h2 := h j b (List.getElem?_eq_some_iff.1 hj).1 hj
    unfold okC at h2
    omega

/-! ### searches through letters -/
def Ltr.val (l : Ltr) : Value := .agg #[.string ⟨l.text.toArray⟩, .int .i64 l.W, .int .i64 l.H, .slice l.A l.m l.c]
/-- A function value that tests letters. -/
def Tests (P : Program) (k : FuncId) (cap : Array Value) (w : World) (ls : List Ltr) (p : Ltr → Bool) : Prop :=
  (∀ args w, (callFunc k args).run P w = .ok (.enter k args) w) ∧ ∀ wx l, Bl w wx → l ∈ ls → Calls P k (#[l.val] ++ cap) wx fun e w' => e = .returned (.bool (p l)) ∧ Bl wx w'
theorem Tests.bl {P : Program} {k : FuncId} {cap : Array Value} {w w' : World} {ls : List Ltr} {p : Ltr → Bool} (h : Tests P k cap w ls p) (hb : Bl w w') : Tests P k cap w' ls p := ⟨h.1, fun wx l hx hl => h.2 wx l (hb.trans hx) hl⟩
/-- The first letter that is met. -/
def FirstIs (ls : List Ltr) (p : Ltr → Bool) (i : Int) : Prop :=
  (i = -1 ∧ ∀ l ∈ ls, p l = false) ∨ ∃ (j : Nat) (l : Ltr), i = (j : Int) ∧ ls[j]? = some l ∧ p l = true ∧ ∀ j' l', j' < j → ls[j']? = some l' → p l' = false
theorem FirstIs.some_iff {ls : List Ltr} {p : Ltr → Bool} {i : Int} (h : FirstIs ls p i) : 0 ≤ i ↔ ∃ l ∈ ls, p l = true := by
  rcases h with ⟨rfl, h⟩ | ⟨j, l, rfl, hl, hp, _⟩
  · constructor
    · intro h2; omega
    · rintro ⟨l, hl, hp⟩; rw [h l hl] at hp; cases hp
  · exact ⟨fun _ => ⟨l, List.mem_of_getElem? hl, hp⟩, fun _ => Int.natCast_nonneg j⟩

/-! ### slices.Contains of ints -/
end Go.Proofs.YtahfkahfaiidgaaGreatDoor
