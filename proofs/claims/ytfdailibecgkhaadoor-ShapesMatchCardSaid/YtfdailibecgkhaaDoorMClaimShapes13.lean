/- bedref2.VoteOf's closure: the same kind and text. -/
import Derived.Test.YtfdailibecgkhaaDoorMClaimShapes2
import Derived.Test.YtfdailibecgkhaaDoorMClaimShapes12
import Derived.Test.YtfdailibecgkhaaDoorMClaimShapes0
import Derived.Test.YtfdailibecgkhaaDoorMClaimShapes1
import Derived.Laws.StructEq

namespace Go.Proofs.YtfdailibecgkhaaDoor
open Go.RowKit Go.Shelf

/-- What is seen of a piece. -/
structure Sn where
  t : List UInt8
  X : Int
  Y : Int
  W : Int
  H : Int
  d : Int
  e : Int
theorem Blk.all7' {w : World} {g : Nat} {t : TypeId} {a b c d e f h : Value} (k : Blk w g t #[a, b, c, d, e, f, h]) : w.cell? ⟨g, 0, none⟩ = some a ∧ w.cell? ⟨g, 1, none⟩ = some b ∧ w.cell? ⟨g, 2, none⟩ = some c ∧ w.cell? ⟨g, 3, none⟩ = some d ∧ w.cell? ⟨g, 4, none⟩ = some e ∧ w.cell? ⟨g, 5, none⟩ = some f ∧ w.cell? ⟨g, 6, none⟩ = some h ∧ ∀ i, w.frozen? ⟨g, i, none⟩ = false :=
  ⟨k.cell 0, k.cell 1, k.cell 2, k.cell 3, k.cell 4, k.cell 5, k.cell 6, k.frozen⟩
def Sn.cells (s : Sn) : List Value := [.string ⟨s.t.toArray⟩, .int .i64 s.X, .int .i64 s.Y, .int .i64 s.W, .int .i64 s.H, .int .i64 s.d, .int .i64 s.e]
def snCells (ss : List Sn) : List Value := ss.flatMap Sn.cells
theorem snCells_len (ss : List Sn) : (snCells ss).length = ss.length * 7 := by
  unfold snCells
  induction ss with
  | nil => rfl
  | cons l ls ih =>
    rw [List.flatMap_cons, List.length_append, ih, List.length_cons]
    show 7 + ls.length * 7 = (ls.length + 1) * 7
    omega
theorem snCells_at {ls : List Sn} {i : Nat} {l : Sn} (h : ls[i]? = some l) (j : Nat) (hj : j < 7) : (snCells ls)[i * 7 + j]? = l.cells[j]? := by
  induction ls generalizing i with
  | nil => simp at h
  | cons x ls ih =>
    unfold snCells
    rw [List.flatMap_cons]
    rcases i with _ | i
    · simp only [List.getElem?_cons_zero, Option.some.injEq] at h
      subst h
      rw [List.getElem?_append_left (by show 0 * 7 + j < 7; omega)]
      simp
    · rw [List.getElem?_append_right (by show 7 ≤ (i + 1) * 7 + j; omega)]
      have e : (i + 1) * 7 + j - x.cells.length = i * 7 + j := by
        show (i + 1) * 7 + j - 7 = i * 7 + j
        omega
      rw [e]
      exact ih (by simpa using h)
theorem sn_at {w : World} {A : Option Addr} {ss : List Sn} {i : Nat} {s : Sn} (h : Reads w 7 A ss.length (snCells ss)) (hi : ss[i]? = some s) : ∃ ad, A = some ad ∧ w.cell? (ad.add (i * 7)) = some (.string ⟨s.t.toArray⟩) ∧ w.cell? ⟨(ad.add (i * 7)).block, (ad.add (i * 7)).off + 1, none⟩ = some (.int .i64 s.X) ∧
    w.cell? ⟨(ad.add (i * 7)).block, (ad.add (i * 7)).off + 2, none⟩ = some (.int .i64 s.Y) ∧ w.cell? ⟨(ad.add (i * 7)).block, (ad.add (i * 7)).off + 3, none⟩ = some (.int .i64 s.W) ∧ w.cell? ⟨(ad.add (i * 7)).block, (ad.add (i * 7)).off + 4, none⟩ = some (.int .i64 s.H) ∧
    w.cell? ⟨(ad.add (i * 7)).block, (ad.add (i * 7)).off + 5, none⟩ = some (.int .i64 s.d) ∧ w.cell? ⟨(ad.add (i * 7)).block, (ad.add (i * 7)).off + 6, none⟩ = some (.int .i64 s.e) := by
  have hlt : i < ss.length := (List.getElem?_eq_some_iff.1 hi).1
  obtain ⟨ad, e, hc⟩ := h.2 (by omega)
  have key : ∀ j v, j < 7 → s.cells[j]? = some v → w.cell? ((ad.add (i * 7)).add j) = some v := fun j v hj hv => by
    rw [add_of_add]
    exact hc _ _ (by rw [snCells_at hi j hj]; exact hv)
  have k0 := key 0 _ (by omega) rfl
  have k1 := key 1 _ (by omega) rfl
  have k2 := key 2 _ (by omega) rfl
  have k3 := key 3 _ (by omega) rfl
  have k4 := key 4 _ (by omega) rfl
  have k5 := key 5 _ (by omega) rfl
  have k6 := key 6 _ (by omega) rfl
  rw [Addr.add_zero'] at k0
  rw [Addr.add_succ'] at k1 k2 k3 k4 k5 k6
  exact ⟨ad, e, k0, k1, k2, k3, k4, k5, k6⟩

set_option maxRecDepth 100000 in
theorem eq_box (n : Nat) (a b c d : Int) (w : World) : (Op.equalIn (n + 1 + 1) 50 (.agg #[.int .i64 a, .int .i64 b, .int .i64 c, .int .i64 d]) (.agg #[.int .i64 a, .int .i64 b, .int .i64 c, .int .i64 d])).run Tryd.prog w = .ok true w := by
  have u3 := Tryd.underlying3
  have a3 := Tryd.isAgg3
  have z3 := Tryd.sizeOf3
  rw [run_equalIn_agg w (n + 1) _ _ _ (by kernel_rfl) (by kernel_rfl)]
  simp only [Program.fieldsOf, Tryd.underlying50]
  go_simp
/-! ### texts -/
def textOf (ss : List Sn) : List UInt8 := ss.flatMap Sn.t
theorem textOf_len {ss : List Sn} (h : ∀ s ∈ ss, s.t.length ≤ 4) : (textOf ss).length ≤ ss.length * 4 := by
  unfold textOf
  induction ss with
  | nil => exact Nat.le_refl _
  | cons x ss ih =>
    have h1 := h x (List.mem_cons_self ..)
    have h2 := ih fun s hs => h s (List.mem_cons_of_mem _ hs)
    rw [List.flatMap_cons, List.length_append, List.length_cons]
    omega
theorem textOf_succ {ss : List Sn} {i : Nat} {s : Sn} (h : ss[i]? = some s) : textOf (ss.take (i + 1)) = textOf (ss.take i) ++ s.t := by
  unfold textOf
  rw [List.take_add_one, h, List.flatMap_append]
  simp
theorem take_in {ss : List Sn} (h : ∀ s ∈ ss, s.t.length ≤ 4) (i : Nat) : (textOf (ss.take i)).length ≤ ss.length * 4 := by
  have h1 := textOf_len (ss := ss.take i) fun s hs => h s (List.mem_of_mem_take hs)
  have h2 : (ss.take i).length ≤ ss.length := by rw [List.length_take]; omega
  omega

/-! ### doubts -/
def doubtB (m : Int) (s : Sn) : Bool := decide (s.t ≠ [32]) && (decide (s.d < 0) || (decide (0 ≤ s.e) && decide (s.e - s.d ≤ m)))
def doubtsTo (m : Int) (ss : List Sn) : Nat → List Nat
  | 0 => []
  | i + 1 => if (ss[i]?.map (doubtB m)).getD false = true then doubtsTo m ss i ++ [i] else doubtsTo m ss i
theorem doubts_len (m : Int) (ss : List Sn) : ∀ i, (doubtsTo m ss i).length ≤ i
  | 0 => Nat.le_refl _
  | i + 1 => by
    have ih := doubts_len m ss i
    show (if _ then doubtsTo m ss i ++ [i] else doubtsTo m ss i).length ≤ i + 1
    split
    · rw [List.length_append]; simp; exact ih
    · omega
theorem doubts_succ {m : Int} {ss : List Sn} {i : Nat} {s : Sn} (h : ss[i]? = some s) : doubtsTo m ss (i + 1) = if doubtB m s = true then doubtsTo m ss i ++ [i] else doubtsTo m ss i := by
  show (if (ss[i]?.map (doubtB m)).getD false = true then _ else _) = _
  rw [h]
  rfl
def natCells (l : List Nat) : List Value := l.map fun (n : Nat) => .int .i64 (n : Int)

end Go.Proofs.YtfdailibecgkhaaDoor


/-! Codes in memory, their errors; bedref2.VoteError. -/
namespace Go.Proofs.YtfdailibecgkhaaDoor
open Go.RowKit

/-- A code: kind, text, X, Y, W, count. -/
structure Cd where
  k : Int
  t : List UInt8
  X : Int
  Y : Int
  W : Int
  n : Int
def Cd.cells (c : Cd) : List Value := [.int .i64 c.k, .string ⟨c.t.toArray⟩, .int .i64 c.X, .int .i64 c.Y, .int .i64 c.W, .int .i64 c.n]
def cdCells (cs : List Cd) : List Value := cs.flatMap Cd.cells
theorem cdCells_len (ss : List Cd) : (cdCells ss).length = ss.length * 6 := by
  unfold cdCells
  induction ss with
  | nil => rfl
  | cons l ls ih =>
    rw [List.flatMap_cons, List.length_append, ih, List.length_cons]
    show 6 + ls.length * 6 = (ls.length + 1) * 6
    omega
theorem cdCells_at {ls : List Cd} {i : Nat} {l : Cd} (h : ls[i]? = some l) (j : Nat) (hj : j < 6) : (cdCells ls)[i * 6 + j]? = l.cells[j]? := by
  induction ls generalizing i with
  | nil => simp at h
  | cons x ls ih =>
    unfold cdCells
    rw [List.flatMap_cons]
    rcases i with _ | i
    · simp only [List.getElem?_cons_zero, Option.some.injEq] at h
      subst h
      rw [List.getElem?_append_left (by show 0 * 6 + j < 6; omega)]
      simp
    · rw [List.getElem?_append_right (by show 6 ≤ (i + 1) * 6 + j; omega)]
      have e : (i + 1) * 6 + j - x.cells.length = i * 6 + j := by
        show (i + 1) * 6 + j - 6 = i * 6 + j
        omega
      rw [e]
      exact ih (by simpa using h)
theorem cd_at {w : World} {A : Option Addr} {ss : List Cd} {i : Nat} {c : Cd} (h : Reads w 6 A ss.length (cdCells ss)) (hi : ss[i]? = some c) : ∃ ad, A = some ad ∧ w.cell? (ad.add (i * 6)) = some (.int .i64 c.k) ∧ w.cell? ⟨(ad.add (i * 6)).block, (ad.add (i * 6)).off + 1, none⟩ = some (.string ⟨c.t.toArray⟩) ∧ w.cell? ⟨(ad.add (i * 6)).block, (ad.add (i * 6)).off + 2, none⟩ = some (.int .i64 c.X) ∧ w.cell? ⟨(ad.add (i * 6)).block, (ad.add (i * 6)).off + 3, none⟩ = some (.int .i64 c.Y) ∧ w.cell? ⟨(ad.add (i * 6)).block, (ad.add (i * 6)).off + 4, none⟩ = some (.int .i64 c.W) ∧ w.cell? ⟨(ad.add (i * 6)).block, (ad.add (i * 6)).off + 5, none⟩ = some (.int .i64 c.n) := by
  have hlt : i < ss.length := (List.getElem?_eq_some_iff.1 hi).1
  obtain ⟨ad, e, hc⟩ := h.2 (by omega)
  have key : ∀ j v, j < 6 → c.cells[j]? = some v → w.cell? ((ad.add (i * 6)).add j) = some v := fun j v hj hv => by
    rw [add_of_add]
    exact hc _ _ (by rw [cdCells_at hi j hj]; exact hv)
  have k0 := key 0 _ (by omega) rfl
  have k1 := key 1 _ (by omega) rfl
  have k2 := key 2 _ (by omega) rfl
  have k3 := key 3 _ (by omega) rfl
  have k4 := key 4 _ (by omega) rfl
  have k5 := key 5 _ (by omega) rfl
  rw [Addr.add_zero'] at k0
  rw [Addr.add_succ'] at k1 k2 k3 k4 k5
  exact ⟨ad, e, k0, k1, k2, k3, k4, k5⟩
theorem Blk.all6' {w : World} {g : Nat} {t : TypeId} {a b c d e f : Value} (k : Blk w g t #[a, b, c, d, e, f]) : w.cell? ⟨g, 0, none⟩ = some a ∧ w.cell? ⟨g, 1, none⟩ = some b ∧ w.cell? ⟨g, 2, none⟩ = some c ∧ w.cell? ⟨g, 3, none⟩ = some d ∧ w.cell? ⟨g, 4, none⟩ = some e ∧ w.cell? ⟨g, 5, none⟩ = some f ∧ ∀ i, w.frozen? ⟨g, i, none⟩ = false :=
  ⟨k.cell 0, k.cell 1, k.cell 2, k.cell 3, k.cell 4, k.cell 5, k.frozen⟩
def cdRange (c : Cd) : Bool := inB c.X 0 4000 && (inB c.Y 0 4000 && (inB c.W 0 4000 && inB c.n 1 1000000))
def cdErr (c : Cd) : Int := if c.k ≠ 1 ∧ c.k ≠ 2 then 1 else if cdRange c = false then 3 else 0
def voteErr (cs : List Cd) : Int := if firstNZ (cs.map cdErr) = 0 then whenI (decide (10000 < (cs.length : Int))) 4 else firstNZ (cs.map cdErr)
theorem firstNZ_at {α : Type} (f : α → Int) : ∀ (l : List α) (i : Nat) (x : α), firstNZ ((l.take i).map f) = 0 → l[i]? = some x → f x ≠ 0 → firstNZ (l.map f) = f x
  | [], i, x, _, h, _ => by simp at h
  | y :: l, 0, x, _, h, hx => by
    simp only [List.getElem?_cons_zero, Option.some.injEq] at h
    subst h
    show (if f y = 0 then _ else f y) = f y
    rw [if_neg hx]
  | y :: l, i + 1, x, h0, h, hx => by
    have h1 : (if f y = 0 then firstNZ ((l.take i).map f) else f y) = 0 := h0
    by_cases hy : f y = 0
    · rw [if_pos hy] at h1
      show (if f y = 0 then firstNZ (l.map f) else f y) = f x
      rw [if_pos hy]
      exact firstNZ_at f l i x h1 (by simpa using h) hx
    · rw [if_neg hy] at h1
      exact absurd h1 hy
theorem firstNZ_step {α : Type} (f : α → Int) : ∀ (l : List α) (i : Nat) (x : α), firstNZ ((l.take i).map f) = 0 → l[i]? = some x → f x = 0 → firstNZ ((l.take (i + 1)).map f) = 0
  | [], i, x, _, h, _ => by simp at h
  | y :: l, 0, x, _, h, hx => by
    simp only [List.getElem?_cons_zero, Option.some.injEq] at h
    subst h
    show (if f y = 0 then firstNZ ((l.take 0).map f) else f y) = 0
    rw [if_pos hx]
    rfl
  | y :: l, i + 1, x, h0, h, hx => by
    have h1 : (if f y = 0 then firstNZ ((l.take i).map f) else f y) = 0 := h0
    by_cases hy : f y = 0
    · rw [if_pos hy] at h1
      show (if f y = 0 then firstNZ ((l.take (i + 1)).map f) else f y) = 0
      rw [if_pos hy]
      exact firstNZ_step f l i x h1 (by simpa using h) hx
    · rw [if_neg hy] at h1
      exact absurd h1 hy

end Go.Proofs.YtfdailibecgkhaaDoor


/-! bar.Vote's closure side; cmp.Or of ints. -/
namespace Go.Proofs.YtfdailibecgkhaaDoor
open Go.RowKit

end Go.Proofs.YtfdailibecgkhaaDoor


/-! bedref2.VoteOf's closure: the same kind and text. -/
namespace Go.Proofs.YtfdailibecgkhaaDoor
open Go.RowKit

def sameKey (c e : Cd) : Bool := decide (e.k = c.k) && decide (e.t = c.t)
end Go.Proofs.YtfdailibecgkhaaDoor
