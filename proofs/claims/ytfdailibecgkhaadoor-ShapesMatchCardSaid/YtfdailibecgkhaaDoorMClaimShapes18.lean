/- The plain law of Learn: samples in memory, what is wrong with them, the vote. -/
import Derived.Test.YtfdailibecgkhaaDoorMClaimShapes16
import Derived.Test.YtfdailibecgkhaaDoorMClaimShapes15

namespace Go.Proofs.YtfdailibecgkhaaDoor
open Go.RowKit

/-- All of a letter but where its pixels lie. -/
def Ltr.face (l : Ltr) : List UInt8 × Int × Int × Nat × List Bool := (l.text, l.W, l.H, l.m, l.bs)

end Go.Proofs.YtfdailibecgkhaaDoor


/-! Which letter has a text: glyph.at, and the reference's closures. -/
namespace Go.Proofs.YtfdailibecgkhaaDoor
open Go.RowKit

theorem FirstIs.unique {ls ls' : List Ltr} {t : List UInt8} {i i' : Int} (hf : ls.map Ltr.face = ls'.map Ltr.face) (h : FirstIs ls (fun y => decide (y.text = t)) i) (h' : FirstIs ls' (fun y => decide (y.text = t)) i') : i = i' := by
  have htx : ls.map Ltr.text = ls'.map Ltr.text := by
    have := congrArg (List.map (fun (f : List UInt8 × Int × Int × Nat × List Bool) => f.1)) hf
    rw [List.map_map, List.map_map] at this
    exact this
  have key : ∀ {xs ys : List Ltr} {j : Nat} {a : Ltr}, xs.map Ltr.text = ys.map Ltr.text → xs[j]? = some a → ∃ b, ys[j]? = some b ∧ b.text = a.text := fun {xs ys j a} he ha => by
    have e1 : (xs.map Ltr.text)[j]? = some a.text := by rw [List.getElem?_map, ha]; rfl
    rw [he, List.getElem?_map] at e1
    rcases hb : ys[j]? with _ | b
    · rw [hb] at e1; cases e1
    · rw [hb] at e1; exact ⟨b, rfl, Option.some.inj e1⟩
  rcases h with ⟨rfl, hn⟩ | ⟨j, l, rfl, hl, hp, hno⟩
  · rcases h' with ⟨rfl, _⟩ | ⟨j', l', rfl, hl', hp', _⟩
    · rfl
    · obtain ⟨b, hb, e⟩ := key htx.symm hl'
      have : decide (b.text = t) = false := hn b (List.mem_of_getElem? hb)
      rw [decide_eq_true (e.trans (of_decide_eq_true hp'))] at this
      cases this
  · rcases h' with ⟨rfl, hn'⟩ | ⟨j', l', rfl, hl', hp', hno'⟩
    · obtain ⟨b, hb, e⟩ := key htx hl
      have : decide (b.text = t) = false := hn' b (List.mem_of_getElem? hb)
      rw [decide_eq_true (e.trans (of_decide_eq_true hp))] at this
      cases this
    · rcases Nat.lt_trichotomy j j' with h | rfl | h
      · obtain ⟨b, hb, e⟩ := key htx hl
        have : decide (b.text = t) = false := hno' j b h hb
        rw [decide_eq_true (e.trans (of_decide_eq_true hp))] at this
        cases this
      · rfl
      · obtain ⟨b, hb, e⟩ := key htx.symm hl'
        have : decide (b.text = t) = false := hno j' b h hb
        rw [decide_eq_true (e.trans (of_decide_eq_true hp'))] at this
        cases this

end Go.Proofs.YtfdailibecgkhaaDoor


/-! The plain law of Learn: samples in memory, what is wrong with them, the vote. -/
namespace Go.Proofs.YtfdailibecgkhaaDoor
open Go.RowKit

/-- A page: its size, where its pixels lie, and what they are. -/
structure Pg where
  W : Int
  H : Int
  A : Option Addr
  m : Nat
  c : Nat
  bs : List Bool
def Pg.cells (p : Pg) : List Value := [.int .i64 p.W, .int .i64 p.H, .slice p.A p.m p.c]
def Pg.val (p : Pg) : Value := .agg #[.int .i64 p.W, .int .i64 p.H, .slice p.A p.m p.c]
def pgCells (ps : List Pg) : List Value := ps.flatMap Pg.cells
theorem pgCells_len (ps : List Pg) : (pgCells ps).length = ps.length * 3 := by
  unfold pgCells
  induction ps with
  | nil => rfl
  | cons p ps ih =>
    rw [List.flatMap_cons, List.length_append, ih, List.length_cons]
    show 3 + ps.length * 3 = (ps.length + 1) * 3
    omega
theorem pgCells_at {ps : List Pg} {i : Nat} {p : Pg} (h : ps[i]? = some p) (j : Nat) (hj : j < 3) : (pgCells ps)[i * 3 + j]? = p.cells[j]? := by
  induction ps generalizing i with
  | nil => simp at h
  | cons x ps ih =>
    unfold pgCells
    rw [List.flatMap_cons]
    rcases i with _ | i
    · simp only [List.getElem?_cons_zero, Option.some.injEq] at h
      subst h
      rw [List.getElem?_append_left (by show 0 * 3 + j < 3; omega)]
      simp
    · rw [List.getElem?_append_right (by show 3 ≤ (i + 1) * 3 + j; omega)]
      have e : (i + 1) * 3 + j - x.cells.length = i * 3 + j := by
        show (i + 1) * 3 + j - 3 = i * 3 + j
        omega
      rw [e]
      exact ih (by simpa using h)
/-- The pages lie there. -/
def PgsAt (w : World) (S : Option Addr) (ps : List Pg) : Prop := Reads w 3 S ps.length (pgCells ps) ∧ ∀ p ∈ ps, Reads w 1 p.A p.m (p.bs.map .bool)
theorem PgsAt.bl {w w' : World} {S : Option Addr} {ps : List Pg} (h : PgsAt w S ps) (hb : Bl w w') : PgsAt w' S ps := ⟨h.1.bl hb, fun p hp => (h.2 p hp).bl hb⟩
theorem PgsAt.at_ {w : World} {S : Option Addr} {ps : List Pg} {i : Nat} {p : Pg} (h : PgsAt w S ps) (hi : ps[i]? = some p) : ∃ ad, S = some ad ∧ w.cell? (ad.add (i * 3)) = some (.int .i64 p.W) ∧ w.cell? ⟨(ad.add (i * 3)).block, (ad.add (i * 3)).off + 1, none⟩ = some (.int .i64 p.H) ∧
    w.cell? ⟨(ad.add (i * 3)).block, (ad.add (i * 3)).off + 2, none⟩ = some (.slice p.A p.m p.c) := by
  have hlt : i < ps.length := (List.getElem?_eq_some_iff.1 hi).1
  obtain ⟨ad, e, hc⟩ := h.1.2 (by omega)
  have key : ∀ j v, j < 3 → p.cells[j]? = some v → w.cell? ((ad.add (i * 3)).add j) = some v := fun j v hj hv => by
    rw [add_of_add]
    exact hc _ _ (by rw [pgCells_at hi j hj]; exact hv)
  have k0 := key 0 _ (by omega) rfl
  have k1 := key 1 _ (by omega) rfl
  have k2 := key 2 _ (by omega) rfl
  rw [Addr.add_zero'] at k0
  rw [Addr.add_succ'] at k1 k2
  exact ⟨ad, e, k0, k1, k2⟩

/-! ### what is wrong with the samples -/
def smpErr (ht W0 : Int) (p : Pg) : Int := if pageErr p.W p.H p.m = 0 then whenI (p.H != ht || p.W != W0) 11 else pageErr p.W p.H p.m
def smpsErr (ht W0 : Int) : List Pg → Int
  | [] => 0
  | p :: ps => if smpErr ht W0 p = 0 then smpsErr ht W0 ps else smpErr ht W0 p
theorem smpsErr_from {ht W0 : Int} {ps : List Pg} {i : Nat} {p : Pg} (h : ps[i]? = some p) : smpsErr ht W0 (ps.drop i) = if smpErr ht W0 p = 0 then smpsErr ht W0 (ps.drop (i + 1)) else smpErr ht W0 p := by
  have hlt : i < ps.length := (List.getElem?_eq_some_iff.1 h).1
  have e : ps.drop i = p :: ps.drop (i + 1) := by
    rw [List.drop_eq_getElem_cons hlt]
    congr 1
    exact (List.getElem?_eq_some_iff.1 h).2
  rw [e]
  rfl
theorem smpErr_zero {ht W0 : Int} {p : Pg} (h : smpErr ht W0 p = 0) : pageErr p.W p.H p.m = 0 ∧ p.H = ht ∧ p.W = W0 := by
  unfold smpErr at h
  split at h
  · rename_i h0
    refine ⟨h0, ?_⟩
    unfold whenI at h
    by_cases h1 : p.H = ht <;> by_cases h2 : p.W = W0 <;> simp [h1, h2] at h ⊢
  · rename_i h0; exact absurd h h0
theorem smpsErr_zero {ht W0 : Int} {ps : List Pg} (h : smpsErr ht W0 ps = 0) : ∀ p ∈ ps, smpErr ht W0 p = 0 := by
  induction ps with
  | nil => intro p hp; cases hp
  | cons x ps ih =>
    have h' : (if smpErr ht W0 x = 0 then smpsErr ht W0 ps else smpErr ht W0 x) = 0 := h
    split at h'
    · rename_i h0
      intro p hp
      rcases List.mem_cons.1 hp with rfl | hp
      · exact h0
      · exact ih h' p hp
    · rename_i h0; exact absurd h' h0

/-! ### the vote -/
def voteN (ps : List Pg) (k : Nat) : Nat := ps.countP (fun p => p.bs.getD k false)
def voteB (ps : List Pg) (k : Nat) : Bool := decide ((ps.length : Int) < 2 * (voteN ps k : Int))
def voteF (ps : List Pg) (W x y : Nat) : Bool := voteB ps (y * W + x)
theorem voteN_succ {ps : List Pg} {i : Nat} {p : Pg} (h : ps[i]? = some p) (k : Nat) : voteN (ps.take (i + 1)) k = voteN (ps.take i) k + if p.bs.getD k false = true then 1 else 0 := by
  unfold voteN
  rw [List.take_add_one, h, List.countP_append]
  simp [List.countP_cons]
theorem voteN_le (ps : List Pg) (k : Nat) : voteN ps k ≤ ps.length := List.countP_le_length

/-- What Learn says ahead of the vote. -/
def learnErr (fe : Int) (t : List UInt8) (n : Nat) (se : Int) : Int := firstNZ [fe, whenI (!textB t) 2, whenI (decide (n = 0)) 9, whenI (decide (100 < n)) 4, se]

end Go.Proofs.YtfdailibecgkhaaDoor
