/- The plain law of Learn: what is said of its answer tells it but for where things lie. -/
import Derived.Test.YtecfjdladcmhjaaDoorFace
import Derived.Test.YtecfjdladcmhjaaDoorInkOf
import Derived.Test.YtecfjdladcmhjaaDoorSheet1
import Derived.Test.YtecfjdladcmhjaaDoorCount3
namespace Go.Proofs.YtecfjdladcmhjaaDoor
open Go.RowKit

abbrev Key := List UInt8 × Int × Int × Int × Nat × List Bool
/-- The width of the first sample. -/
def wide0 (ps : List Pg) : Int := (ps.head?.map Pg.W).getD 0
def votes (ps : List Pg) (W0 ht : Nat) : List Bool := grid W0 ht (voteF ps W0)
/-- How the new letter is told. -/
def NewKey (t : List UInt8) (ps : List Pg) (W0 ht : Nat) (k : Key) : Prop :=
  (NoEnds (colN (votes ps W0 ht) W0 ht) W0 ∧ k = (t, 3, 0, 0, 0, [])) ∨
  ∃ x r : Nat, Ends (colN (votes ps W0 ht) W0 ht) W0 x r ∧ k = (t, 0, ((r - x + 1 : Nat) : Int), (ht : Int), (r - x + 1) * ht, grid (r - x + 1) ht (cutF (votes ps W0 ht) W0 x 0))
theorem NewKey.same {t : List UInt8} {ps : List Pg} {W0 ht : Nat} {k k' : Key} (h : NewKey t ps W0 ht k) (h' : NewKey t ps W0 ht k') : k = k' := by
  rcases h with ⟨h1, rfl⟩ | ⟨x, r, h1, rfl⟩ <;> rcases h' with ⟨h2, rfl⟩ | ⟨x', r', h2, rfl⟩
  · rfl
  · exact (h2.not h1).elim
  · exact (h1.not h2).elim
  · obtain ⟨rfl, rfl⟩ := h1.same h2
    rfl
/-- In place of the first letter of that text, or behind all. -/
def Placed (ls : List Ltr) (t : List UInt8) (k : Key) (ks : List Key) : Prop := ∃ i : Int, FirstIs ls (fun y => decide (y.text = t)) i ∧ ks = if 0 ≤ i then (ls.map Ltr.key).set i.toNat k else ls.map Ltr.key ++ [k]
theorem Placed.same {ls : List Ltr} {t : List UInt8} {k : Key} {ks ks' : List Key} (h : Placed ls t k ks) (h' : Placed ls t k ks') : ks = ks' := by
  obtain ⟨i, hi, rfl⟩ := h
  obtain ⟨j, hj, rfl⟩ := h'
  have := FirstIs.unique rfl hi hj
  subst this
  rfl
def fontZero (nm : List UInt8) (ht gap sp : Int) (R : Option Addr) (m : Nat) : Prop := nm = [] ∧ ht = 0 ∧ gap = 0 ∧ sp = 0 ∧ R = none ∧ m = 0
def LearnRes (w : World) (nm : List UInt8) (ht gap sp : Int) (ls : List Ltr) (t : List UInt8) (ps : List Pg) (nm' : List UInt8) (ht' gap' sp' : Int) (R : Option Addr) (m : Nat) (err : Int) : Prop :=
  (learnErr (fontErr (nameB nm) ht gap sp ls) t ps.length (smpsErr ht (wide0 ps) ps) ≠ 0 → err = learnErr (fontErr (nameB nm) ht gap sp ls) t ps.length (smpsErr ht (wide0 ps) ps) ∧ fontZero nm' ht' gap' sp' R m) ∧
  (learnErr (fontErr (nameB nm) ht gap sp ls) t ps.length (smpsErr ht (wide0 ps) ps) = 0 → ∃ ls' k, NewKey t ps (wide0 ps).toNat ht.toNat k ∧ Placed ls t k (ls'.map Ltr.key) ∧ err = fontErr (nameB nm) ht gap sp ls' ∧
    (err = 0 → (nm' = nm ∧ ht' = ht ∧ gap' = gap ∧ sp' = sp ∧ m = ls'.length) ∧ LtrsAt w R ls') ∧ (err ≠ 0 → fontZero nm' ht' gap' sp' R m))
theorem LearnRes.same {w1 w2 : World} {nm : List UInt8} {ht gap sp : Int} {ls : List Ltr} {t : List UInt8} {ps : List Pg} {nm1 nm2 : List UInt8} {h1 g1 s1 h2 g2 s2 : Int} {R1 R2 : Option Addr} {m1 m2 : Nat} {e1 e2 : Int}
    (h : LearnRes w1 nm ht gap sp ls t ps nm1 h1 g1 s1 R1 m1 e1) (k : LearnRes w2 nm ht gap sp ls t ps nm2 h2 g2 s2 R2 m2 e2) :
    e1 = e2 ∧ nm1 = nm2 ∧ h1 = h2 ∧ g1 = g2 ∧ s1 = s2 ∧ ∃ l1 l2 : List Ltr, m1 = l1.length ∧ m2 = l2.length ∧ l1.map Ltr.face = l2.map Ltr.face ∧ LtrsAt w1 R1 l1 ∧ LtrsAt w2 R2 l2 ∧ l1.length ≤ 200 ∧ ∀ l ∈ l1, l.m ≤ 1099511627776 := by
  by_cases hz : learnErr (fontErr (nameB nm) ht gap sp ls) t ps.length (smpsErr ht (wide0 ps) ps) = 0
  · obtain ⟨l1, k1, a1, b1, c1, d1, z1⟩ := h.2 hz
    obtain ⟨l2, k2, a2, b2, c2, d2, z2⟩ := k.2 hz
    obtain rfl := a1.same a2
    have hk := b1.same b2
    have he : e1 = e2 := by rw [c1, c2, fontErr_key hk]
    subst he
    by_cases h0 : e1 = 0
    · obtain ⟨⟨rfl, rfl, rfl, rfl, rfl⟩, y1⟩ := d1 h0
      obtain ⟨⟨rfl, rfl, rfl, rfl, rfl⟩, y2⟩ := d2 h0
      have hf := fontErr_zero (c1.symm.trans h0)
      refine ⟨rfl, rfl, rfl, rfl, rfl, l1, l2, rfl, rfl, face_of_keys hk (fun l hl => (hf.2 l hl).2.1), y1, y2, hf.1.2.2.2.2.1, fun l hl => ?_⟩
      obtain ⟨W, H, -, -, e, -, -, hb⟩ := page_nat (hf.2 l hl).2.1
      omega
    · obtain ⟨rfl, rfl, rfl, rfl, rfl, rfl⟩ := z1 h0
      obtain ⟨rfl, rfl, rfl, rfl, rfl, rfl⟩ := z2 h0
      exact ⟨rfl, rfl, rfl, rfl, rfl, [], [], rfl, rfl, rfl, LtrsAt.none _, LtrsAt.none _, by simp, fun l h => by cases h⟩
  · obtain ⟨rfl, rfl, rfl, rfl, rfl, rfl, rfl⟩ := h.1 hz
    obtain ⟨rfl, rfl, rfl, rfl, rfl, rfl, rfl⟩ := k.1 hz
    exact ⟨rfl, rfl, rfl, rfl, rfl, [], [], rfl, rfl, rfl, LtrsAt.none _, LtrsAt.none _, by simp, fun l h => by cases h⟩
/-- Where nothing is wrong yet. -/
theorem learnErr_zero {fe : Int} {t : List UInt8} {n : Nat} {se : Int} (h : learnErr fe t n se = 0) : fe = 0 ∧ textB t = true ∧ 1 ≤ n ∧ n ≤ 100 ∧ se = 0 := by
  have hz := firstNZ_zero h
  have k1 := hz fe (by simp)
  have k2 := whenI_zero (hz (whenI (!textB t) 2) (by simp)) (by decide)
  have k3 := of_decide_eq_false (whenI_zero (hz (whenI (decide (n = 0)) 9) (by simp)) (by decide))
  have k4 := of_decide_eq_false (whenI_zero (hz (whenI (decide (100 < n)) 4) (by simp)) (by decide))
  have k5 := hz se (by simp)
  exact ⟨k1, by simpa using k2, by omega, by omega, k5⟩

end Go.Proofs.YtecfjdladcmhjaaDoor
