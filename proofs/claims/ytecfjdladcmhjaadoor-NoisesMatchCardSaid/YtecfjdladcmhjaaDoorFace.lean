/- Fonts of the same letters (but for where their pixels lie, and what a bad page holds) have the same error. -/
import Derived.Test.YtecfjdladcmhjaaDoorLearnLaw
namespace Go.Proofs.YtecfjdladcmhjaaDoor
open Go.RowKit

theorem firstNZ_zero {es : List Int} (h : firstNZ es = 0) : ∀ e ∈ es, e = 0 := by
  induction es with
  | nil => intro e he; cases he
  | cons x es ih =>
    have h' : (if x = 0 then firstNZ es else x) = 0 := h
    by_cases h0 : x = 0
    · rw [if_pos h0] at h'
      intro e he
      rcases List.mem_cons.1 he with rfl | he
      · exact h0
      · exact ih h' e he
    · rw [if_neg h0] at h'
      exact absurd h' h0
theorem whenI_zero {b : Bool} {n : Int} (h : whenI b n = 0) (hn : n ≠ 0) : b = false := by
  cases b
  · rfl
  · exact absurd h hn
/-- All that an error is told by. -/
def Ltr.key (l : Ltr) : List UInt8 × Int × Int × Int × Nat × List Bool := (l.text, pageErr l.W l.H l.m, if pageErr l.W l.H l.m = 0 then (l.W, l.H, l.m, l.bs) else (0, 0, 0, []))
theorem key_of_face {a b : Ltr} (h : a.face = b.face) : a.key = b.key := by
  obtain ⟨t, W, H, A, m, c, bs⟩ := a
  obtain ⟨t', W', H', A', m', c', bs'⟩ := b
  simp only [Ltr.face, Prod.mk.injEq] at h
  obtain ⟨rfl, rfl, rfl, rfl, rfl⟩ := h
  rfl
theorem key_text {a b : Ltr} (h : a.key = b.key) : a.text = b.text := congrArg Prod.fst h
theorem key_err {a b : Ltr} (h : a.key = b.key) : pageErr a.W a.H a.m = pageErr b.W b.H b.m := congrArg (fun x => x.2.1) h
theorem face_of_key {a b : Ltr} (h : a.key = b.key) (h0 : pageErr a.W a.H a.m = 0) : a.face = b.face := by
  have ht := key_text h
  have he := key_err h
  have hr : (if pageErr a.W a.H a.m = 0 then (a.W, a.H, a.m, a.bs) else (0, 0, 0, [])) = (if pageErr b.W b.H b.m = 0 then (b.W, b.H, b.m, b.bs) else (0, 0, 0, [])) := congrArg (fun x => x.2.2) h
  rw [← he, if_pos h0, if_pos h0] at hr
  unfold Ltr.face
  rw [ht, hr]
theorem ltrErr_key {ht : Int} {prev : List (List UInt8)} {a b : Ltr} (h : a.key = b.key) : ltrErr ht prev a = ltrErr ht prev b := by
  by_cases h0 : pageErr a.W a.H a.m = 0
  · have hf := face_of_key h h0
    obtain ⟨t, W, H, A, m, c, bs⟩ := a
    obtain ⟨t', W', H', A', m', c', bs'⟩ := b
    simp only [Ltr.face, Prod.mk.injEq] at hf
    obtain ⟨rfl, rfl, rfl, rfl, rfl⟩ := hf
    rfl
  · have ht := key_text h
    have he := key_err h
    unfold ltrErr
    rw [← ht, ← he]
    show (if _ = 0 then (if _ = 0 then (if _ = 0 then _ else _) else _) else _) = (if _ = 0 then (if _ = 0 then (if _ = 0 then _ else _) else _) else _)
    rw [if_neg h0, if_neg h0]
theorem ltrsErr_key {ht : Int} {a b : List Ltr} : ∀ {prev : List (List UInt8)}, a.map Ltr.key = b.map Ltr.key → ltrsErr ht prev a = ltrsErr ht prev b := by
  induction a generalizing b with
  | nil =>
    intro prev h
    cases b with
    | nil => rfl
    | cons y b => simp at h
  | cons x a ih =>
    intro prev h
    cases b with
    | nil => simp at h
    | cons y b =>
      rw [List.map_cons, List.map_cons, List.cons.injEq] at h
      show (if ltrErr ht prev x = 0 then ltrsErr ht (prev ++ [x.text]) a else ltrErr ht prev x) = (if ltrErr ht prev y = 0 then ltrsErr ht (prev ++ [y.text]) b else ltrErr ht prev y)
      rw [ltrErr_key h.1, key_text h.1, ih h.2]
theorem fontErr_key {nm : Bool} {ht gap sp : Int} {a b : List Ltr} (h : a.map Ltr.key = b.map Ltr.key) : fontErr nm ht gap sp a = fontErr nm ht gap sp b := by
  have hl : a.length = b.length := by have := congrArg List.length h; simpa using this
  unfold fontErr
  rw [hl, ltrsErr_key h]
theorem ltrsErr_zero {ht : Int} {ls : List Ltr} : ∀ {prev : List (List UInt8)}, ltrsErr ht prev ls = 0 → ∀ l ∈ ls, textB l.text = true ∧ pageErr l.W l.H l.m = 0 ∧ l.H = ht ∧ l.W ≤ 64 := by
  induction ls with
  | nil => intro prev _ l hl; cases hl
  | cons x ls ih =>
    intro prev h l hl
    have h' : (if ltrErr ht prev x = 0 then ltrsErr ht (prev ++ [x.text]) ls else ltrErr ht prev x) = 0 := h
    by_cases h0 : ltrErr ht prev x = 0
    · rw [if_pos h0] at h'
      rcases List.mem_cons.1 hl with rfl | hl
      · have hz := firstNZ_zero h0
        have k1 := whenI_zero (hz _ (by simp : whenI (!textB l.text) 2 ∈ _)) (by decide)
        have k2 := hz (pageErr l.W l.H l.m) (by simp)
        have k3 := whenI_zero (hz (whenI (l.H != ht) 11) (by simp)) (by decide)
        have k4 := whenI_zero (hz (whenI (decide (64 < l.W)) 4) (by simp)) (by decide)
        refine ⟨by simpa using k1, k2, by simpa using k3, ?_⟩
        have := of_decide_eq_false k4
        omega
      · exact ih h' l hl
    · rw [if_neg h0] at h'
      exact absurd h' h0
theorem fontErr_zero {nm : Bool} {ht gap sp : Int} {ls : List Ltr} (h : fontErr nm ht gap sp ls = 0) : (nm = true ∧ rangeB ht gap sp = true ∧ gap < sp ∧ ls.length ≠ 0 ∧ ls.length ≤ 200 ∧ 1 ≤ ht ∧ ht ≤ 64) ∧ ∀ l ∈ ls, textB l.text = true ∧ pageErr l.W l.H l.m = 0 ∧ l.H = ht ∧ l.W ≤ 64 := by
  have h' : (if fontHead nm ht gap sp ls.length = 0 then ltrsErr ht [] ls else fontHead nm ht gap sp ls.length) = 0 := h
  by_cases h0 : fontHead nm ht gap sp ls.length = 0
  · rw [if_pos h0] at h'
    refine ⟨?_, ltrsErr_zero h'⟩
    have hz := firstNZ_zero h0
    have k1 := whenI_zero (hz (whenI (!nm) 5) (by simp)) (by decide)
    have k2 := whenI_zero (hz (whenI (!rangeB ht gap sp) 3) (by simp)) (by decide)
    have k3 := of_decide_eq_false (whenI_zero (hz (whenI (decide (sp ≤ gap)) 7) (by simp)) (by decide))
    have k4 := of_decide_eq_false (whenI_zero (hz (whenI (decide (ls.length = 0)) 9) (by simp)) (by decide))
    have k5 := of_decide_eq_false (whenI_zero (hz (whenI (decide (200 < ls.length)) 4) (by simp)) (by decide))
    have k2' : rangeB ht gap sp = true := by simpa using k2
    have k6 : inB ht 1 64 = true := by
      unfold rangeB at k2'
      simp only [Bool.and_eq_true] at k2'
      exact k2'.1
    have k7 := inB_true.1 k6
    exact ⟨by simpa using k1, k2', by omega, k4, by omega, k7.1, k7.2⟩
  · rw [if_neg h0] at h'
    exact absurd h' h0
/-- Where the error is 0, letters that are told alike have the same face. -/
theorem face_of_keys {a b : List Ltr} (h : a.map Ltr.key = b.map Ltr.key) (hz : ∀ l ∈ a, pageErr l.W l.H l.m = 0) : a.map Ltr.face = b.map Ltr.face := by
  induction a generalizing b with
  | nil =>
    cases b with
    | nil => rfl
    | cons y b => simp at h
  | cons x a ih =>
    cases b with
    | nil => simp at h
    | cons y b =>
      rw [List.map_cons, List.map_cons, List.cons.injEq] at h
      rw [List.map_cons, List.map_cons, face_of_key h.1 (hz x (List.mem_cons_self ..)), ih h.2 (fun l hl => hz l (List.mem_cons_of_mem _ hl))]

end Go.Proofs.YtecfjdladcmhjaaDoor
