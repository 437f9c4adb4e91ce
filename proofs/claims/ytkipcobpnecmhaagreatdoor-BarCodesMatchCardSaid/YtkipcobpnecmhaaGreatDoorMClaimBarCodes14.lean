/- Codes put together, in plain lists; the key of the program's map. -/
import Derived.Test.YtkipcobpnecmhaaGreatDoorMClaimBarCodes8
import Derived.Test.YtkipcobpnecmhaaGreatDoorMClaimBarCodes5
import Derived.Lib.SlBy

namespace Go.Proofs.YtkipcobpnecmhaaGreatDoor
open Go.RowKit

theorem idxByFrom_find (p : Cd → Bool) (d : Cd) : ∀ (l : List Cd) (i : Nat), Lib.idxByFrom (fun _ y => p y) d l i = match l.findIdx? p with | some k => ((i + k : Nat) : Int) | none => -1
  | [], i => rfl
  | y :: l, i => by
    unfold Lib.idxByFrom
    rw [List.findIdx?_cons]
    cases hp : p y with
    | true => simp
    | false =>
      simp only [Bool.false_eq_true, if_false]
      rw [idxByFrom_find p d l (i + 1)]
      cases l.findIdx? p with
      | none => rfl
      | some k => simp only [Option.map_some]; congr 1; omega
theorem idxBy_find (p : Cd → Bool) (d : Cd) (l : List Cd) : Lib.idxBy (fun _ y => p y) l d = match l.findIdx? p with | some k => (k : Int) | none => -1 := by
  unfold Lib.idxBy
  rw [idxByFrom_find]
  cases l.findIdx? p with
  | none => rfl
  | some k => simp
def mergeC (o c : Cd) : Cd := ⟨o.k, o.t, min o.X c.X, min o.Y c.Y, max (o.X + o.W) (c.X + c.W) - min o.X c.X, o.n + c.n⟩
def addC (out : List Cd) (c : Cd) : List Cd := match out.findIdx? (sameKey c) with
  | none => out ++ [c]
  | some i => out.set i (mergeC (out.getD i c) c)
def groupC (cs : List Cd) : List Cd := cs.foldl addC []
theorem groupC_succ {cs : List Cd} {i : Nat} {c : Cd} (h : cs[i]? = some c) : groupC (cs.take (i + 1)) = addC (groupC (cs.take i)) c := by
  unfold groupC
  rw [List.take_add_one, h, List.foldl_append]
  rfl
/-- What is leaned on of a code that is put together out of so many. -/
def CdOk (N : Nat) (e : Cd) : Prop := (e.k = 1 ∨ e.k = 2) ∧ 0 ≤ e.X ∧ e.X ≤ 4000 ∧ 0 ≤ e.Y ∧ e.Y ≤ 4000 ∧ 0 ≤ e.W ∧ e.X + e.W ≤ 8000 ∧ 1 ≤ e.n ∧ e.n ≤ (N : Int) * 1000000 ∧ e.t.length ≤ 9223372036854775807
theorem CdOk.mono {N M : Nat} {e : Cd} (h : CdOk N e) (hm : N ≤ M) : CdOk M e := by
  obtain ⟨a, b, c, d, e', f, g, h1, h2, h3⟩ := h
  exact ⟨a, b, c, d, e', f, g, h1, by omega, h3⟩
theorem cdOk_of_err {c : Cd} (h : cdErr c = 0) (ht : c.t.length ≤ 9223372036854775807) : CdOk 1 c := by
  unfold cdErr at h
  by_cases hk : c.k ≠ 1 ∧ c.k ≠ 2
  · rw [if_pos hk] at h; cases h
  · rw [if_neg hk] at h
    cases hr : cdRange c with
    | false => rw [hr] at h; cases h
    | true =>
      unfold cdRange inB at hr
      simp only [Bool.and_eq_true, decide_eq_true_eq] at hr
      exact ⟨by omega, by omega, by omega, by omega, by omega, by omega, by omega, by omega, by omega, ht⟩
theorem mergeC_ok {N : Nat} {o c : Cd} (ho : CdOk N o) (hc : CdOk 1 c) : CdOk (N + 1) (mergeC o c) := by
  obtain ⟨a, b, c', d, e', f, g, h1, h2, h3⟩ := ho
  obtain ⟨a2, b2, c2, d2, e2, f2, g2, h4, h5, h6⟩ := hc
  exact ⟨a, by show 0 ≤ min _ _; omega, by show min _ _ ≤ _; omega, by show 0 ≤ min _ _; omega, by show min _ _ ≤ _; omega, by show 0 ≤ max _ _ - min _ _; omega, by show min _ _ + (max _ _ - min _ _) ≤ _; omega, by show 1 ≤ o.n + c.n; omega, by show o.n + c.n ≤ _; omega, h3⟩
theorem addC_ok {N : Nat} {out : List Cd} {c : Cd} (ho : ∀ e ∈ out, CdOk N e) (hc : CdOk 1 c) : ∀ e ∈ addC out c, CdOk (N + 1) e := by
  intro e he
  unfold addC at he
  cases hf : out.findIdx? (sameKey c) with
  | none =>
    rw [hf] at he
    rcases List.mem_append.1 he with he | he
    · exact (ho e he).mono (by omega)
    · rw [List.mem_singleton.1 he]; exact hc.mono (by omega)
  | some i =>
    rw [hf] at he
    have hi : i < out.length := (List.findIdx?_eq_some_iff_findIdx_eq.1 hf).1
    rcases List.mem_or_eq_of_mem_set he with he | rfl
    · exact (ho e he).mono (by omega)
    · refine mergeC_ok ?_ hc
      rw [List.getD_eq_getElem?_getD, List.getElem?_eq_getElem hi]
      exact ho _ (List.getElem_mem hi)
theorem addC_len (out : List Cd) (c : Cd) : (addC out c).length ≤ out.length + 1 := by
  unfold addC
  cases out.findIdx? (sameKey c) with
  | none => simp
  | some i => simp
theorem groupC_ok {cs : List Cd} (h : ∀ c ∈ cs, CdOk 1 c) : ∀ i, i ≤ cs.length → (∀ e ∈ groupC (cs.take i), CdOk i e) ∧ (groupC (cs.take i)).length ≤ i
  | 0, _ => ⟨fun e he => by simp [groupC] at he, by simp [groupC]⟩
  | i + 1, hi => by
    obtain ⟨c, hc⟩ : ∃ c, cs[i]? = some c := ⟨_, List.getElem?_eq_getElem (by omega)⟩
    obtain ⟨h1, h2⟩ := groupC_ok h i (by omega)
    rw [groupC_succ hc]
    exact ⟨addC_ok h1 (h c (List.mem_of_getElem? hc)), Nat.le_trans (addC_len _ _) (by omega)⟩
theorem addC_none {out : List Cd} {c : Cd} (h : out.findIdx? (sameKey c) = none) : addC out c = out ++ [c] := by unfold addC; rw [h]
theorem addC_some {out : List Cd} {c o : Cd} {i : Nat} (h : out.findIdx? (sameKey c) = some i) (ho : out[i]? = some o) : addC out c = out.set i (mergeC o c) := by
  unfold addC
  rw [h]
  show out.set i (mergeC (out.getD i c) c) = _
  rw [List.getD_eq_getElem?_getD, ho]
  rfl
theorem find_lt {out : List Cd} {c : Cd} {i : Nat} (h : out.findIdx? (sameKey c) = some i) : i < out.length := (List.findIdx?_eq_some_iff_findIdx_eq.1 h).1
/-! the map from keys to places -/
def keyC (c : Cd) : Int × List UInt8 := (c.k, c.t)
theorem sameKey_iff (c e : Cd) : sameKey c e = true ↔ keyC e = keyC c := by
  unfold sameKey keyC
  simp [Bool.and_eq_true]
def PlacesOf (m : List ((Int × List UInt8) × Int)) (out : List Cd) : Prop := ∀ c : Cd, m.lookup (keyC c) = (out.findIdx? (sameKey c)).map fun i => (i : Int)
theorem PlacesOf.nil : PlacesOf [] [] := fun _ => rfl
theorem PlacesOf.append {m : List ((Int × List UInt8) × Int)} {out : List Cd} {c : Cd} (h : PlacesOf m out) (hn : out.findIdx? (sameKey c) = none) : PlacesOf ((keyC c, (out.length : Int)) :: m) (out ++ [c]) := by
  intro d
  by_cases hk : keyC d = keyC c
  · have e1 : sameKey d = sameKey c := by
      funext e
      rw [Bool.eq_iff_iff, sameKey_iff, sameKey_iff, hk]
    have e2 : sameKey c c = true := (sameKey_iff c c).2 rfl
    rw [e1, List.findIdx?_append, hn, hk]
    simp [List.lookup, e2]
  · have e2 : sameKey d c = false := by
      cases hs : sameKey d c with
      | false => rfl
      | true => exact absurd ((sameKey_iff d c).1 hs).symm hk
    rw [List.findIdx?_append]
    have hb : (keyC d == keyC c) = false := by simpa using hk
    simp only [List.lookup, hb, h d]
    cases out.findIdx? (sameKey d) with
    | none => simp [e2]
    | some i => simp
theorem PlacesOf.set {m : List ((Int × List UInt8) × Int)} {out : List Cd} {c o : Cd} {i : Nat} (h : PlacesOf m out) (ho : out[i]? = some o) : PlacesOf m (out.set i (mergeC o c)) := by
  intro d
  have hmap : ∀ (l : List Cd) (i : Nat) (o : Cd), l[i]? = some o → (l.set i (mergeC o c)).findIdx? (sameKey d) = l.findIdx? (sameKey d) := by
    intro l
    induction l with
    | nil => intro i o h; simp at h
    | cons y l ih =>
      intro i o ho
      cases i with
      | zero =>
        simp only [List.getElem?_cons_zero, Option.some.injEq] at ho
        subst ho
        rw [List.set_cons_zero, List.findIdx?_cons, List.findIdx?_cons]
        rfl
      | succ i =>
        rw [List.set_cons_succ, List.findIdx?_cons, List.findIdx?_cons, ih i o (by simpa using ho)]
  rw [h d, hmap out i o ho]

end Go.Proofs.YtkipcobpnecmhaaGreatDoor
