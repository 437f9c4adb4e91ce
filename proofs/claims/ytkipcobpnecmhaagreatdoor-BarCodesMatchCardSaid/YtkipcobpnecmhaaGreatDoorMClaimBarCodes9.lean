/- Fonts are looked at; chance. -/
import Derived.Test.YtkipcobpnecmhaaGreatDoorMClaimBarCodes1
import Derived.Test.YtkipcobpnecmhaaGreatDoorMClaimBarCodes2
import Derived.Test.YtkipcobpnecmhaaGreatDoorMClaimBarCodes3
import Derived.Carry
import Derived.MapFrom

namespace Go.Proofs.YtkipcobpnecmhaaGreatDoor
open Go.RowKit

/-- The map at b has these keys, each with true. -/
def MapAt (w : World) (b : Nat) (ks : List (List UInt8)) : Prop := ∃ es clock, w.heap[b]? = some (.map es clock) ∧ (∀ x ∈ es.toList, ∃ s ∈ ks, x.key = .string ⟨s.toArray⟩ ∧ x.val = .bool true) ∧ ∀ s ∈ ks, ∃ x ∈ es.toList, x.key = .string ⟨s.toArray⟩
theorem MapAt.new (w : World) : MapAt (w.alloc (.map #[] 0)) w.heap.size [] := ⟨#[], 0, (MapKept.heap_alloc w _).1, by simp, by simp⟩
theorem MapAt.bl {w w' : World} {b : Nat} {ks : List (List UInt8)} (h : MapAt w b ks) (hb : Bl w w') : MapAt w' b ks := by
  obtain ⟨es, c, h1, h2, h3⟩ := h
  exact ⟨es, c, (Below.block hb b (Array.getElem?_eq_some_iff.1 h1).1).trans h1, h2, h3⟩
end Go.Proofs.YtkipcobpnecmhaaGreatDoor


/-! Fonts are looked at; chance. -/
namespace Go.Proofs.YtkipcobpnecmhaaGreatDoor
open Go.RowKit

theorem LtrsAt.none (w : World) : LtrsAt w none [] := ⟨⟨rfl, fun h => absurd h (by decide)⟩, fun l hl => absurd hl (by simp)⟩
end Go.Proofs.YtkipcobpnecmhaaGreatDoor
