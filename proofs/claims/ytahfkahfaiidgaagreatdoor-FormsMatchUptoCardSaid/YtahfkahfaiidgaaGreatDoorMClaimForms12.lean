/- Fonts are looked at; chance. -/
import Derived.Test.YtahfkahfaiidgaaGreatDoorMClaimForms11
import Derived.Test.YtahfkahfaiidgaaGreatDoorMClaimForms1
import Derived.Carry
import Derived.MapFrom

namespace Go.Proofs.YtahfkahfaiidgaaGreatDoor
open Go.RowKit

/-- The map at b has these keys, each with true. -/
def MapAt (w : World) (b : Nat) (ks : List (List UInt8)) : Prop := ∃ es clock, w.heap[b]? = some (.map es clock) ∧ (∀ x ∈ es.toList, ∃ s ∈ ks, x.key = .string ⟨s.toArray⟩ ∧ x.val = .bool true) ∧ ∀ s ∈ ks, ∃ x ∈ es.toList, x.key = .string ⟨s.toArray⟩
theorem MapAt.new (w : World) : MapAt (w.alloc (.map #[] 0)) w.heap.size [] := ⟨#[], 0, (MapKept.heap_alloc w _).1, by simp, by simp⟩
theorem MapAt.bl {w w' : World} {b : Nat} {ks : List (List UInt8)} (h : MapAt w b ks) (hb : Bl w w') : MapAt w' b ks := by
  obtain ⟨es, c, h1, h2, h3⟩ := h
  exact ⟨es, c, (Below.block hb b (Array.getElem?_eq_some_iff.1 h1).1).trans h1, h2, h3⟩
theorem string_inj {s t : List UInt8} (h : Value.string ⟨s.toArray⟩ = .string ⟨t.toArray⟩) : s = t := by simpa using h
theorem MapAt.lookup {w : World} {b : Nat} {ks : List (List UInt8)} (h : MapAt w b ks) (s : List UInt8) : (Instr.lookup 69 (.map (some b)) (.string ⟨s.toArray⟩) false).run Tryz.prog w = .ok (.bool (decide (s ∈ ks))) w := by
  obtain ⟨es, c, h1, h2, h3⟩ := h
  have hk : MapKept.IsKey .string (.string ⟨s.toArray⟩) := trivial
  have hks : ∀ x ∈ es.toList, MapKept.IsKey .string x.key := fun x hx => by obtain ⟨t, _, e, _⟩ := h2 x hx; rw [e]; trivial
  rcases MapKept.findNow_spec hk es.toList 0 hks with ⟨hf, hno⟩ | ⟨j, e, hf, hj, he⟩
  · have hn : s ∉ ks := fun hm => by obtain ⟨x, hx, e⟩ := h3 s hm; exact hno x hx e
    rw [decide_eq_false hn]
    simp [Instr.lookup, run_underlying Tryz.underlying69, MapKept.run_getObj_map h1, MapKept.run_checkKey Tryz.underlying9 hk, MapKept.run_findKey Tryz.underlying9 hf, Tryz.zeroValue4, Result.andThen]
  · obtain ⟨t, ht, e1, e2⟩ := h2 e (List.mem_of_getElem? hj)
    have hs : s ∈ ks := (string_inj (he.symm.trans e1)) ▸ ht
    rw [decide_eq_true hs]
    simp [Instr.lookup, run_underlying Tryz.underlying69, MapKept.run_getObj_map h1, MapKept.run_checkKey Tryz.underlying9 hk, MapKept.run_findKey Tryz.underlying9 hf, e2, Result.andThen]
theorem bl_set {w0 w : World} (h : Bl w0 w) {b : Nat} (hb : w0.heap.size ≤ b) (o : Obj) : Bl w0 { w with heap := w.heap.setIfInBounds b o } := by
  refine ⟨h.os, h.tape, h.output, ?_, fun k hk => ?_⟩
  · have := Below.size h
    simpa using this
  · show (w.heap.setIfInBounds b o)[k]? = _
    rw [Array.getElem?_setIfInBounds_ne (by omega)]
    exact Below.block h k hk
theorem MapAt.update {w : World} {b : Nat} {ks : List (List UInt8)} (h : MapAt w b ks) (s : List UInt8) : ∃ w', (Instr.mapUpdate 69 (.map (some b)) (.string ⟨s.toArray⟩) (.bool true)).run Tryz.prog w = .ok () w' ∧ MapAt w' b (ks ++ [s]) ∧ ∀ w0, Bl w0 w → w0.heap.size ≤ b → Bl w0 w' := by
  obtain ⟨es, c, h1, h2, h3⟩ := h
  have hk : MapKept.IsKey .string (.string ⟨s.toArray⟩) := trivial
  have hks : ∀ x ∈ es.toList, MapKept.IsKey .string x.key := fun x hx => by obtain ⟨t, _, e, _⟩ := h2 x hx; rw [e]; trivial
  rcases MapKept.findNow_spec hk es.toList 0 hks with ⟨hf, hno⟩ | ⟨j, e, hf, hj, he⟩
  · refine ⟨{ w with heap := w.heap.setIfInBounds b (.map (es.push ⟨.string ⟨s.toArray⟩, .bool true, c⟩) (c + 1)) }, ?_, ⟨_, _, (MapKept.heap_set h1).1, ?_, ?_⟩, fun w0 h0 hb => bl_set h0 hb _⟩
    · simp [Instr.mapUpdate, run_underlying Tryz.underlying69, MapKept.run_getObj_map h1, MapKept.run_checkKey Tryz.underlying9 hk, MapKept.run_findKey Tryz.underlying9 hf, MapKept.run_setObj_map _ h1, Result.andThen]
    · intro x hx
      simp only [Array.toList_push, List.mem_append, List.mem_singleton] at hx
      rcases hx with hx | rfl
      · obtain ⟨t, ht, e⟩ := h2 x hx
        exact ⟨t, List.mem_append_left _ ht, e⟩
      · exact ⟨s, by simp, rfl, rfl⟩
    · intro t ht
      rcases List.mem_append.1 ht with ht | ht
      · obtain ⟨x, hx, e⟩ := h3 t ht
        exact ⟨x, by simp [hx], e⟩
      · obtain rfl := List.mem_singleton.1 ht
        exact ⟨⟨.string ⟨t.toArray⟩, .bool true, c⟩, by simp, rfl⟩
  · have hj' : es[j]? = some e := by simpa using hj
    have hmod : ∀ x ∈ (es.modify j (fun e' => { e' with key := .string ⟨s.toArray⟩, val := .bool true })).toList, x ∈ es.toList ∨ (x.key = .string ⟨s.toArray⟩ ∧ x.val = .bool true) := fun x hx => by
      rcases MapFrom.mem_modify hx with hx | ⟨e', _, rfl⟩
      · exact Or.inl hx
      · exact Or.inr ⟨rfl, rfl⟩
    have hkey := MapKept.modify_keys (es := es) j (fun e' => { e' with key := .string ⟨s.toArray⟩, val := .bool true }) (fun e' he' => by rw [hj'] at he'; cases he'; exact he.symm)
    refine ⟨{ w with heap := w.heap.setIfInBounds b (.map (es.modify j (fun e' => { e' with key := .string ⟨s.toArray⟩, val := .bool true })) c) }, ?_, ⟨_, _, (MapKept.heap_set h1).1, ?_, ?_⟩, fun w0 h0 hb => bl_set h0 hb _⟩
    · simp [Instr.mapUpdate, run_underlying Tryz.underlying69, MapKept.run_getObj_map h1, MapKept.run_checkKey Tryz.underlying9 hk, MapKept.run_findKey Tryz.underlying9 hf, hj', he, MapKept.run_keyThatStays hk, MapKept.run_setObj_map _ h1, Result.andThen]
    · intro x hx
      rcases hmod x hx with hx | ⟨e1, e2⟩
      · obtain ⟨t, ht, e⟩ := h2 x hx
        exact ⟨t, List.mem_append_left _ ht, e⟩
      · exact ⟨s, by simp, e1, e2⟩
    · intro t ht
      have hex : ∃ y ∈ es.toList, y.key = .string ⟨t.toArray⟩ := by
        rcases List.mem_append.1 ht with ht | ht
        · exact h3 t ht
        · obtain rfl := List.mem_singleton.1 ht
          exact ⟨e, List.mem_of_getElem? hj, he⟩
      obtain ⟨y, hy, e3⟩ := hex
      have hm : y.key ∈ es.toList.map (·.key) := List.mem_map.2 ⟨y, hy, rfl⟩
      rw [← hkey] at hm
      obtain ⟨x, hx, e4⟩ := List.mem_map.1 hm
      exact ⟨x, hx, e4.trans e3⟩

end Go.Proofs.YtahfkahfaiidgaaGreatDoor


/-! Fonts are looked at; chance. -/
namespace Go.Proofs.YtahfkahfaiidgaaGreatDoor
open Go.RowKit

theorem LtrsAt.none (w : World) : LtrsAt w none [] := ⟨⟨rfl, fun h => absurd h (by decide)⟩, fun l hl => absurd hl (by simp)⟩
end Go.Proofs.YtahfkahfaiidgaaGreatDoor
