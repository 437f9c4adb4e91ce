/- A map of the call's own as a list of what was put in, the newest first; keys of any kind that the model compares without drawing. -/
import Derived.Test.YtkipcobpnecmhaaGreatDoorMClaimBarCodes1
import Derived.Carry
import Derived.MapFrom
import Derived.Laws.StructEq
import Derived.MapKept

namespace Go.Proofs.YtkipcobpnecmhaaGreatDoor
open Go.RowKit

structure KeyKind (P : Program) (kt : TypeId) {α : Type} (K : α → Value) : Prop where
  find : ∀ (w : World) (k : α) (l : List MapEntry), (∀ x ∈ l, ∃ a, x.key = K a) → (∃ j e, (Instr.findKey kt (K k) l).run P w = .ok (some (j, e.val)) w ∧ l[j]? = some e ∧ e.key = K k) ∨ ((Instr.findKey kt (K k) l).run P w = .ok none w ∧ ∀ x ∈ l, x.key ≠ K k)
  check : ∀ (w : World) (e : Bool) (k : α), (Instr.checkKey e 10000 kt (K k)).run P w = .ok () w
  stays : ∀ (w : World) (k : α), (Instr.keyThatStays (K k) (K k)).run P w = .ok (K k) w
  inj : ∀ a b, K a = K b → a = b
theorem KeyKind.plain {P : Program} {kt : TypeId} {d : TypeDesc} {α : Type} {K : α → Value} (hd : P.underlying kt = some d) (hK : ∀ a, MapKept.IsKey d (K a)) (inj : ∀ a b, K a = K b → a = b) : KeyKind P kt K where
  find w k l hl := by
    rcases MapKept.findNow_spec (hK k) l 0 (fun x hx => by obtain ⟨a, e⟩ := hl x hx; rw [e]; exact hK a) with ⟨hf, hno⟩ | ⟨j, e, hf, hj, he⟩
    · exact .inr ⟨MapKept.run_findKey hd hf, hno⟩
    · rw [Nat.zero_add] at hf
      exact .inl ⟨j, e, MapKept.run_findKey hd hf, hj, he⟩
  check w e k := MapKept.run_checkKey hd (hK k) e 9999
  stays w k := MapKept.run_keyThatStays (hK k)
  inj := inj
theorem string_kind {P : Program} {kt : TypeId} (hd : P.underlying kt = some .string) : KeyKind P kt (fun s : List UInt8 => .string ⟨s.toArray⟩) :=
  KeyKind.plain hd (fun _ => trivial) (fun a b h => by simpa using h)
theorem int_kind {P : Program} {kt : TypeId} (hd : P.underlying kt = some (.int .i64)) : KeyKind P kt (fun n : Int => .int .i64 n) :=
  KeyKind.plain hd (fun _ => rfl) (fun a b h => by simpa using h)

theorem nodup_at {α : Type} {l : List α} (h : l.Nodup) {i j : Nat} {x : α} (hi : l[i]? = some x) (hj : l[j]? = some x) : i = j := by
  have aux : ∀ {i j : Nat}, l[i]? = some x → l[j]? = some x → ¬ i < j := fun {i j} hi hj hlt => by
    obtain ⟨h1, e1⟩ := List.getElem?_eq_some_iff.1 hi
    obtain ⟨h2, e2⟩ := List.getElem?_eq_some_iff.1 hj
    exact List.pairwise_iff_getElem.1 h i j h1 h2 hlt (e1.trans e2.symm)
  have a := aux hi hj
  have b := aux hj hi
  omega
section
variable {P : Program} {kt et T : TypeId} {α β : Type} [BEq α] {K : α → Value} {V : β → Value}

def MapL (K : α → Value) (V : β → Value) (w : World) (b : Nat) (l : List (α × β)) : Prop :=
  ∃ es clock, w.heap[b]? = some (.map es clock) ∧ (es.toList.map (·.key)).Nodup ∧ (∀ x ∈ es.toList, ∃ a v, x.key = K a ∧ x.val = V v ∧ l.lookup a = some v) ∧ ∀ a v, l.lookup a = some v → ∃ x ∈ es.toList, x.key = K a
theorem MapL.new (w : World) : MapL K V (w.alloc (.map #[] 0)) w.heap.size [] := ⟨#[], 0, (MapKept.heap_alloc w _).1, by simp, by simp, fun a v h => by simp at h⟩
theorem MapL.bl {w w' : World} {b : Nat} {l : List (α × β)} (h : MapL K V w b l) (hb : Bl w w') : MapL K V w' b l := by
  obtain ⟨es, c, h1, h2⟩ := h
  exact ⟨es, c, (Below.block hb b (Array.getElem?_eq_some_iff.1 h1).1).trans h1, h2⟩
theorem MapL.drew {w : World} {b : Nat} {l : List (α × β)} (h : MapL K V w b l) : MapL K V w.drew b l := h
theorem MapL.lt {w : World} {b : Nat} {l : List (α × β)} (h : MapL K V w b l) : b < w.heap.size := by
  obtain ⟨es, c, h1, _⟩ := h
  exact (Array.getElem?_eq_some_iff.1 h1).1
theorem MapL.block {w : World} {b : Nat} {l : List (α × β)} (h : MapL K V w b l) : ∃ es clock, w.heap[b]? = some (.map es clock) := by
  obtain ⟨es, c, h1, _⟩ := h
  exact ⟨es, c, h1⟩
theorem MapL.other {w w' : World} {b : Nat} {l : List (α × β)} (h : MapL K V w b l) (hb : w'.heap[b]? = w.heap[b]?) : MapL K V w' b l := by
  obtain ⟨es, c, h1, h2⟩ := h
  exact ⟨es, c, hb.trans h1, h2⟩
theorem MapL.found {w : World} {b : Nat} {l : List (α × β)} (kk : KeyKind P kt K) (h : MapL K V w b l) (a : α) : ∃ es clock, w.heap[b]? = some (.map es clock) ∧ ((∃ j v, (Instr.findKey kt (K a) es.toList).run P w = .ok (some (j, V v)) w ∧ l.lookup a = some v) ∨ ((Instr.findKey kt (K a) es.toList).run P w = .ok none w ∧ l.lookup a = none)) := by
  obtain ⟨es, c, h1, hn, h2, h3⟩ := h
  refine ⟨es, c, h1, ?_⟩
  rcases kk.find w a es.toList (fun x hx => by obtain ⟨a', _, e, _⟩ := h2 x hx; exact ⟨a', e⟩) with ⟨j, e, hr, hj, he⟩ | ⟨hr, hno⟩
  · obtain ⟨a', v, e1, e2, e3⟩ := h2 e (List.mem_of_getElem? hj)
    obtain rfl := kk.inj _ _ (he.symm.trans e1)
    rw [e2] at hr
    exact .inl ⟨j, v, hr, e3⟩
  · refine .inr ⟨hr, ?_⟩
    cases hl : l.lookup a with
    | none => rfl
    | some v =>
      obtain ⟨x, hx, e⟩ := h3 a v hl
      exact absurd e (hno x hx)
/-- v, ok := m[k] -/
theorem MapL.lookup2 {w : World} {b : Nat} {l : List (α × β)} {z : Value} (kk : KeyKind P kt K) (ht : P.underlying T = some (.map kt et)) (hz : (zeroValue et).run P w = .ok z w) (h : MapL K V w b l) (a : α) :
    (Instr.lookup T (.map (some b)) (K a) true).run P w = .ok (.tuple #[match l.lookup a with | some v => V v | none => z, .bool (l.lookup a).isSome]) w := by
  obtain ⟨es, c, h1, h2⟩ := h.found kk a
  rcases h2 with ⟨j, v, hr, hl⟩ | ⟨hr, hl⟩
  · rw [hl]
    simp [Instr.lookup, run_underlying ht, MapKept.run_getObj_map h1, kk.check, hr, Result.andThen]
  · rw [hl]
    simp [Instr.lookup, run_underlying ht, MapKept.run_getObj_map h1, kk.check, hr, hz, Result.andThen]
theorem MapL.lookup1 {w : World} {b : Nat} {l : List (α × β)} {z : Value} (kk : KeyKind P kt K) (ht : P.underlying T = some (.map kt et)) (hz : (zeroValue et).run P w = .ok z w) (h : MapL K V w b l) (a : α) :
    (Instr.lookup T (.map (some b)) (K a) false).run P w = .ok (match l.lookup a with | some v => V v | none => z) w := by
  obtain ⟨es, c, h1, h2⟩ := h.found kk a
  rcases h2 with ⟨j, v, hr, hl⟩ | ⟨hr, hl⟩
  · rw [hl]
    simp [Instr.lookup, run_underlying ht, MapKept.run_getObj_map h1, kk.check, hr, Result.andThen]
  · rw [hl]
    simp [Instr.lookup, run_underlying ht, MapKept.run_getObj_map h1, kk.check, hr, hz, Result.andThen]
theorem bl_heapSet {w0 w : World} (h : Bl w0 w) {b : Nat} (hb : w0.heap.size ≤ b) (o : Obj) : Bl w0 { w with heap := w.heap.setIfInBounds b o } := by
  refine ⟨h.os, h.tape, h.output, ?_, fun k hk => ?_⟩
  · have := Below.size h
    simpa using this
  · show (w.heap.setIfInBounds b o)[k]? = _
    rw [Array.getElem?_setIfInBounds_ne (by omega)]
    exact Below.block h k hk
/-- Only the map's block is another one. -/
def OnlyAt (b : Nat) (w w' : World) : Prop := (∀ j, j ≠ b → w'.heap[j]? = w.heap[j]?) ∧ w'.heap.size = w.heap.size ∧ ∀ w0, Bl w0 w → w0.heap.size ≤ b → Bl w0 w'
theorem onlyAt_set (b : Nat) (w : World) (o : Obj) : OnlyAt b w { w with heap := w.heap.setIfInBounds b o } :=
  ⟨fun j hj => Array.getElem?_setIfInBounds_ne (fun e => hj e.symm), by simp, fun w0 h0 hb => bl_heapSet h0 hb _⟩
variable [LawfulBEq α]
theorem MapL.update {w : World} {b : Nat} {l : List (α × β)} (kk : KeyKind P kt K) (ht : P.underlying T = some (.map kt et)) (h : MapL K V w b l) (a : α) (v : β) :
    ∃ w', (Instr.mapUpdate T (.map (some b)) (K a) (V v)).run P w = .ok () w' ∧ MapL K V w' b ((a, v) :: l) ∧ OnlyAt b w w' := by
  obtain ⟨es, c, h1, hn, h2, h3⟩ := h
  have self : (((a, v) :: l : List (α × β))).lookup a = some v := by simp [List.lookup]
  have oth : ∀ a', a' ≠ a → ((a, v) :: l : List (α × β)).lookup a' = l.lookup a' := fun a' hne => by
    have hb : (a' == a) = false := by simpa using hne
    simp only [List.lookup, hb]
  rcases kk.find w a es.toList (fun x hx => by obtain ⟨a', _, e, _⟩ := h2 x hx; exact ⟨a', e⟩) with ⟨j, e, hr, hj, he⟩ | ⟨hr, hno⟩
  · have hj' : es[j]? = some e := by simpa using hj
    have hkey := MapKept.modify_keys (es := es) j (fun e' => { e' with key := K a, val := V v }) (fun e' he' => by rw [hj'] at he'; cases he'; exact he.symm)
    refine ⟨{ w with heap := w.heap.setIfInBounds b (.map (es.modify j (fun e' => { e' with key := K a, val := V v })) c) }, ?_, ⟨_, _, (MapKept.heap_set h1).1, by rw [hkey]; exact hn, ?_, ?_⟩, onlyAt_set _ _ _⟩
    · simp [Instr.mapUpdate, run_underlying ht, MapKept.run_getObj_map h1, kk.check, hr, hj', he, kk.stays, MapKept.run_setObj_map _ h1, Result.andThen]
    · intro x hx
      obtain ⟨i, hi, hx'⟩ := List.getElem_of_mem hx
      have hxi : (es.modify j (fun e' => { e' with key := K a, val := V v }))[i]? = some x := by
        rw [← Array.getElem?_toList, List.getElem?_eq_getElem hi, hx']
      rw [Array.getElem?_modify] at hxi
      by_cases hij : j = i
      · subst hij
        rw [if_pos rfl, hj'] at hxi
        simp only [Option.map_some, Option.some.injEq] at hxi
        subst hxi
        exact ⟨a, v, rfl, rfl, self⟩
      · rw [if_neg hij] at hxi
        have hxl : es.toList[i]? = some x := by rw [Array.getElem?_toList]; exact hxi
        obtain ⟨a', v', e1, e2, e3⟩ := h2 x (List.mem_of_getElem? hxl)
        have hne : a' ≠ a := fun ea => by
          subst ea
          have k1 : (es.toList.map (·.key))[i]? = some (K a') := by rw [List.getElem?_map, hxl, Option.map_some, e1]
          have k2 : (es.toList.map (·.key))[j]? = some (K a') := by rw [List.getElem?_map, hj, Option.map_some, he]
          exact hij (nodup_at hn k1 k2).symm
        exact ⟨a', v', e1, e2, (oth a' hne).trans e3⟩
    · intro a' v' hl
      have hm : K a' ∈ es.toList.map (·.key) := by
        by_cases hne : a' = a
        · subst hne
          exact List.mem_map.2 ⟨e, List.mem_of_getElem? hj, he⟩
        · rw [oth a' hne] at hl
          obtain ⟨x, hx, ex⟩ := h3 a' v' hl
          exact List.mem_map.2 ⟨x, hx, ex⟩
      rw [← hkey] at hm
      exact List.mem_map.1 hm
  · refine ⟨{ w with heap := w.heap.setIfInBounds b (.map (es.push ⟨K a, V v, c⟩) (c + 1)) }, ?_, ⟨_, _, (MapKept.heap_set h1).1, ?_, ?_, ?_⟩, onlyAt_set _ _ _⟩
    · simp [Instr.mapUpdate, run_underlying ht, MapKept.run_getObj_map h1, kk.check, hr, MapKept.run_setObj_map _ h1, Result.andThen]
    · simp only [Array.toList_push, List.map_append, List.map_cons, List.map_nil]
      refine List.nodup_append.2 ⟨hn, by simp, ?_⟩
      intro y hy z hz
      simp only [List.mem_singleton] at hz
      subst hz
      obtain ⟨x, hx, rfl⟩ := List.mem_map.1 hy
      exact hno x hx
    · intro x hx
      simp only [Array.toList_push, List.mem_append, List.mem_singleton] at hx
      rcases hx with hx | rfl
      · obtain ⟨a', v', e1, e2, e3⟩ := h2 x hx
        have hne : a' ≠ a := fun ea => by subst ea; exact hno x hx e1
        exact ⟨a', v', e1, e2, (oth a' hne).trans e3⟩
      · exact ⟨a, v, rfl, rfl, self⟩
    · intro a' v' hl
      by_cases hne : a' = a
      · subst hne
        exact ⟨⟨K a', V v, c⟩, by simp, rfl⟩
      · rw [oth a' hne] at hl
        obtain ⟨x, hx, ex⟩ := h3 a' v' hl
        exact ⟨x, by simp [hx], ex⟩
end

end Go.Proofs.YtkipcobpnecmhaaGreatDoor
