/- Rows that a call owns, and rows that lie: cells that are set, rows that grow. -/
import Derived.Test.YtkipcobpnecmhaaGreatDoorMClaimBarCodes3
import Derived.Test.YtkipcobpnecmhaaGreatDoorMClaimBarCodes1
import Derived.Test.YtkipcobpnecmhaaGreatDoorMClaimBarCodes9
import Derived.Shelf.Strings.Cut
import Derived.Lib.CutLaws
import Derived.Lib.SlTrimSet
import Derived.Lib.SliceRun

namespace Go.Proofs.YtkipcobpnecmhaaGreatDoor
open Go.RowKit

/-- All of a letter but where its pixels lie. -/
def Ltr.face (l : Ltr) : List UInt8 × Int × Int × Nat × List Bool := (l.text, l.W, l.H, l.m, l.bs)

end Go.Proofs.YtkipcobpnecmhaaGreatDoor


/-! Which letter has a text: glyph.at, and the reference's closures. -/
namespace Go.Proofs.YtkipcobpnecmhaaGreatDoor
open Go.RowKit

theorem FirstIs.unique {ls ls' : List Ltr} {t : List UInt8} {i i' : Int} (hf : ls.map Ltr.face = ls'.map Ltr.face) (h : FirstIs ls (fun y => decide (y.text = t)) i) (h' : FirstIs ls' (fun y => decide (y.text = t)) i') : i = i' := by
  have htx : ls.map Ltr.text = ls'.map Ltr.text := by
    have := congrArg (List.map (fun (f : List UInt8 × Int × Int × Nat × List Bool) => f.1)) hf
    rw [List.map_map, List.map_map] at this
    exact this
  have key : ∀ {xs ys : List Ltr} {j : Nat} {a : Ltr}, xs.map Ltr.text = ys.map Ltr.text → xs[j]? = some a → ∃ b, ys[j]? = some b ∧ b.text = a.text := fun {xs ys j a} he ha => by
    have e1 : (xs.map Ltr.text)[j]? = some a.text := by rw [List.getElem?_map, ha]; rfl
    rw [he, List.getElem?_map] at e1
    rcases hb : ys[j]? with _ | b
    · rw [hb] at e1; cases e1
    · rw [hb] at e1; exact ⟨b, rfl, Option.some.inj e1⟩
  rcases h with ⟨rfl, hn⟩ | ⟨j, l, rfl, hl, hp, hno⟩
  · rcases h' with ⟨rfl, _⟩ | ⟨j', l', rfl, hl', hp', _⟩
    · rfl
    · obtain ⟨b, hb, e⟩ := key htx.symm hl'
      have : decide (b.text = t) = false := hn b (List.mem_of_getElem? hb)
      rw [decide_eq_true (e.trans (of_decide_eq_true hp'))] at this
      cases this
  · rcases h' with ⟨rfl, hn'⟩ | ⟨j', l', rfl, hl', hp', hno'⟩
    · obtain ⟨b, hb, e⟩ := key htx hl
      have : decide (b.text = t) = false := hn' b (List.mem_of_getElem? hb)
      rw [decide_eq_true (e.trans (of_decide_eq_true hp))] at this
      cases this
    · rcases Nat.lt_trichotomy j j' with h | rfl | h
      · obtain ⟨b, hb, e⟩ := key htx hl
        have : decide (b.text = t) = false := hno' j b h hb
        rw [decide_eq_true (e.trans (of_decide_eq_true hp))] at this
        cases this
      · rfl
      · obtain ⟨b, hb, e⟩ := key htx.symm hl'
        have : decide (b.text = t) = false := hno j' b h hb
        rw [decide_eq_true (e.trans (of_decide_eq_true hp'))] at this
        cases this

end Go.Proofs.YtkipcobpnecmhaaGreatDoor


/-! The plain law of Learn: samples in memory, what is wrong with them, the vote. -/
namespace Go.Proofs.YtkipcobpnecmhaaGreatDoor
open Go.RowKit

/-- A page: its size, where its pixels lie, and what they are. -/
structure Pg where
  W : Int
  H : Int
  A : Option Addr
  m : Nat
  c : Nat
  bs : List Bool
def Pg.cells (p : Pg) : List Value := [.int .i64 p.W, .int .i64 p.H, .slice p.A p.m p.c]
def Pg.val (p : Pg) : Value := .agg #[.int .i64 p.W, .int .i64 p.H, .slice p.A p.m p.c]
def pgCells (ps : List Pg) : List Value := ps.flatMap Pg.cells
theorem pgCells_at {ps : List Pg} {i : Nat} {p : Pg} (h : ps[i]? = some p) (j : Nat) (hj : j < 3) : (pgCells ps)[i * 3 + j]? = p.cells[j]? := by
  induction ps generalizing i with
  | nil => simp at h
  | cons x ps ih =>
    unfold pgCells
    rw [List.flatMap_cons]
    rcases i with _ | i
    · simp only [List.getElem?_cons_zero, Option.some.injEq] at h
      subst h
      rw [List.getElem?_append_left (by show 0 * 3 + j < 3; omega)]
      simp
    · rw [List.getElem?_append_right (by show 3 ≤ (i + 1) * 3 + j; omega)]
      have e : (i + 1) * 3 + j - x.cells.length = i * 3 + j := by
        show (i + 1) * 3 + j - 3 = i * 3 + j
        omega
      rw [e]
      exact ih (by simpa using h)
/-- The pages lie there. -/
def PgsAt (w : World) (S : Option Addr) (ps : List Pg) : Prop := Reads w 3 S ps.length (pgCells ps) ∧ ∀ p ∈ ps, Reads w 1 p.A p.m (p.bs.map .bool)
theorem PgsAt.bl {w w' : World} {S : Option Addr} {ps : List Pg} (h : PgsAt w S ps) (hb : Bl w w') : PgsAt w' S ps := ⟨h.1.bl hb, fun p hp => (h.2 p hp).bl hb⟩
theorem PgsAt.at_ {w : World} {S : Option Addr} {ps : List Pg} {i : Nat} {p : Pg} (h : PgsAt w S ps) (hi : ps[i]? = some p) : ∃ ad, S = some ad ∧ w.cell? (ad.add (i * 3)) = some (.int .i64 p.W) ∧ w.cell? ⟨(ad.add (i * 3)).block, (ad.add (i * 3)).off + 1, none⟩ = some (.int .i64 p.H) ∧
    w.cell? ⟨(ad.add (i * 3)).block, (ad.add (i * 3)).off + 2, none⟩ = some (.slice p.A p.m p.c) := by
  have hlt : i < ps.length := (List.getElem?_eq_some_iff.1 hi).1
  obtain ⟨ad, e, hc⟩ := h.1.2 (by omega)
  have key : ∀ j v, j < 3 → p.cells[j]? = some v → w.cell? ((ad.add (i * 3)).add j) = some v := fun j v hj hv => by
    rw [add_of_add]
    exact hc _ _ (by rw [pgCells_at hi j hj]; exact hv)
  have k0 := key 0 _ (by omega) rfl
  have k1 := key 1 _ (by omega) rfl
  have k2 := key 2 _ (by omega) rfl
  rw [Addr.add_zero'] at k0
  rw [Addr.add_succ'] at k1 k2
  exact ⟨ad, e, k0, k1, k2⟩

/-! ### what is wrong with the samples -/
def smpErr (ht W0 : Int) (p : Pg) : Int := if pageErr p.W p.H p.m = 0 then whenI (p.H != ht || p.W != W0) 11 else pageErr p.W p.H p.m
def smpsErr (ht W0 : Int) : List Pg → Int
  | [] => 0
  | p :: ps => if smpErr ht W0 p = 0 then smpsErr ht W0 ps else smpErr ht W0 p
/-! ### the vote -/
def voteN (ps : List Pg) (k : Nat) : Nat := ps.countP (fun p => p.bs.getD k false)
def voteB (ps : List Pg) (k : Nat) : Bool := decide ((ps.length : Int) < 2 * (voteN ps k : Int))
def voteF (ps : List Pg) (W x y : Nat) : Bool := voteB ps (y * W + x)
/-- What Learn says ahead of the vote. -/
def learnErr (fe : Int) (t : List UInt8) (n : Nat) (se : Int) : Int := firstNZ [fe, whenI (!textB t) 2, whenI (decide (n = 0)) 9, whenI (decide (100 < n)) 4, se]

end Go.Proofs.YtkipcobpnecmhaaGreatDoor


/-! Fonts of the same letters (but for where their pixels lie, and what a bad page holds) have the same error. -/
namespace Go.Proofs.YtkipcobpnecmhaaGreatDoor
open Go.RowKit

/-- All that an error is told by. -/
def Ltr.key (l : Ltr) : List UInt8 × Int × Int × Int × Nat × List Bool := (l.text, pageErr l.W l.H l.m, if pageErr l.W l.H l.m = 0 then (l.W, l.H, l.m, l.bs) else (0, 0, 0, []))
theorem key_text {a b : Ltr} (h : a.key = b.key) : a.text = b.text := congrArg Prod.fst h
theorem key_err {a b : Ltr} (h : a.key = b.key) : pageErr a.W a.H a.m = pageErr b.W b.H b.m := congrArg (fun x => x.2.1) h
theorem face_of_key {a b : Ltr} (h : a.key = b.key) (h0 : pageErr a.W a.H a.m = 0) : a.face = b.face := by
  have ht := key_text h
  have he := key_err h
  have hr : (if pageErr a.W a.H a.m = 0 then (a.W, a.H, a.m, a.bs) else (0, 0, 0, [])) = (if pageErr b.W b.H b.m = 0 then (b.W, b.H, b.m, b.bs) else (0, 0, 0, [])) := congrArg (fun x => x.2.2) h
  rw [← he, if_pos h0, if_pos h0] at hr
  unfold Ltr.face
  rw [ht, hr]
theorem ltrErr_key {ht : Int} {prev : List (List UInt8)} {a b : Ltr} (h : a.key = b.key) : ltrErr ht prev a = ltrErr ht prev b := by
  by_cases h0 : pageErr a.W a.H a.m = 0
  · have hf := face_of_key h h0
    obtain ⟨t, W, H, A, m, c, bs⟩ := a
    obtain ⟨t', W', H', A', m', c', bs'⟩ := b
    simp only [Ltr.face, Prod.mk.injEq] at hf
    obtain ⟨rfl, rfl, rfl, rfl, rfl⟩ := hf
    rfl
  · have ht := key_text h
    have he := key_err h
    unfold ltrErr
    rw [← ht, ← he]
    show (if _ = 0 then (if _ = 0 then (if _ = 0 then _ else _) else _) else _) = (if _ = 0 then (if _ = 0 then (if _ = 0 then _ else _) else _) else _)
    rw [if_neg h0, if_neg h0]
theorem ltrsErr_key {ht : Int} {a b : List Ltr} : ∀ {prev : List (List UInt8)}, a.map Ltr.key = b.map Ltr.key → ltrsErr ht prev a = ltrsErr ht prev b := by
  induction a generalizing b with
  | nil =>
    intro prev h
    cases b with
    | nil => rfl
    | cons y b => simp at h
  | cons x a ih =>
    intro prev h
    cases b with
    | nil => simp at h
    | cons y b =>
      rw [List.map_cons, List.map_cons, List.cons.injEq] at h
      show (if ltrErr ht prev x = 0 then ltrsErr ht (prev ++ [x.text]) a else ltrErr ht prev x) = (if ltrErr ht prev y = 0 then ltrsErr ht (prev ++ [y.text]) b else ltrErr ht prev y)
      rw [ltrErr_key h.1, key_text h.1, ih h.2]
theorem fontErr_key {nm : Bool} {ht gap sp : Int} {a b : List Ltr} (h : a.map Ltr.key = b.map Ltr.key) : fontErr nm ht gap sp a = fontErr nm ht gap sp b := by
  have hl : a.length = b.length := by have := congrArg List.length h; simpa using this
  unfold fontErr
  rw [hl, ltrsErr_key h]
/-- Where the error is 0, letters that are told alike have the same face. -/
theorem face_of_keys {a b : List Ltr} (h : a.map Ltr.key = b.map Ltr.key) (hz : ∀ l ∈ a, pageErr l.W l.H l.m = 0) : a.map Ltr.face = b.map Ltr.face := by
  induction a generalizing b with
  | nil =>
    cases b with
    | nil => rfl
    | cons y b => simp at h
  | cons x a ih =>
    cases b with
    | nil => simp at h
    | cons y b =>
      rw [List.map_cons, List.map_cons, List.cons.injEq] at h
      rw [List.map_cons, List.map_cons, face_of_key h.1 (hz x (List.mem_cons_self ..)), ih h.2 (fun l hl => hz l (List.mem_cons_of_mem _ hl))]

end Go.Proofs.YtkipcobpnecmhaaGreatDoor


/-! The plain law of Learn: what is said of its answer tells it but for where things lie. -/
namespace Go.Proofs.YtkipcobpnecmhaaGreatDoor
open Go.RowKit

abbrev Key := List UInt8 × Int × Int × Int × Nat × List Bool
/-- The width of the first sample. -/
def wide0 (ps : List Pg) : Int := (ps.head?.map Pg.W).getD 0
def votes (ps : List Pg) (W0 ht : Nat) : List Bool := grid W0 ht (voteF ps W0)
/-- How the new letter is told. -/
def NewKey (t : List UInt8) (ps : List Pg) (W0 ht : Nat) (k : Key) : Prop :=
  (NoEnds (colN (votes ps W0 ht) W0 ht) W0 ∧ k = (t, 3, 0, 0, 0, [])) ∨
  ∃ x r : Nat, Ends (colN (votes ps W0 ht) W0 ht) W0 x r ∧ k = (t, 0, ((r - x + 1 : Nat) : Int), (ht : Int), (r - x + 1) * ht, grid (r - x + 1) ht (cutF (votes ps W0 ht) W0 x 0))
theorem NewKey.same {t : List UInt8} {ps : List Pg} {W0 ht : Nat} {k k' : Key} (h : NewKey t ps W0 ht k) (h' : NewKey t ps W0 ht k') : k = k' := by
  rcases h with ⟨h1, rfl⟩ | ⟨x, r, h1, rfl⟩ <;> rcases h' with ⟨h2, rfl⟩ | ⟨x', r', h2, rfl⟩
  · rfl
  · exact (h2.not h1).elim
  · exact (h1.not h2).elim
  · obtain ⟨rfl, rfl⟩ := h1.same h2
    rfl
/-- In place of the first letter of that text, or behind all. -/
def Placed (ls : List Ltr) (t : List UInt8) (k : Key) (ks : List Key) : Prop := ∃ i : Int, FirstIs ls (fun y => decide (y.text = t)) i ∧ ks = if 0 ≤ i then (ls.map Ltr.key).set i.toNat k else ls.map Ltr.key ++ [k]
theorem Placed.same {ls : List Ltr} {t : List UInt8} {k : Key} {ks ks' : List Key} (h : Placed ls t k ks) (h' : Placed ls t k ks') : ks = ks' := by
  obtain ⟨i, hi, rfl⟩ := h
  obtain ⟨j, hj, rfl⟩ := h'
  have := FirstIs.unique rfl hi hj
  subst this
  rfl
def fontZero (nm : List UInt8) (ht gap sp : Int) (R : Option Addr) (m : Nat) : Prop := nm = [] ∧ ht = 0 ∧ gap = 0 ∧ sp = 0 ∧ R = none ∧ m = 0
def LearnRes (w : World) (nm : List UInt8) (ht gap sp : Int) (ls : List Ltr) (t : List UInt8) (ps : List Pg) (nm' : List UInt8) (ht' gap' sp' : Int) (R : Option Addr) (m : Nat) (err : Int) : Prop :=
  (learnErr (fontErr (nameB nm) ht gap sp ls) t ps.length (smpsErr ht (wide0 ps) ps) ≠ 0 → err = learnErr (fontErr (nameB nm) ht gap sp ls) t ps.length (smpsErr ht (wide0 ps) ps) ∧ fontZero nm' ht' gap' sp' R m) ∧
  (learnErr (fontErr (nameB nm) ht gap sp ls) t ps.length (smpsErr ht (wide0 ps) ps) = 0 → ∃ ls' k, NewKey t ps (wide0 ps).toNat ht.toNat k ∧ Placed ls t k (ls'.map Ltr.key) ∧ err = fontErr (nameB nm) ht gap sp ls' ∧
    (err = 0 → (nm' = nm ∧ ht' = ht ∧ gap' = gap ∧ sp' = sp ∧ m = ls'.length) ∧ LtrsAt w R ls') ∧ (err ≠ 0 → fontZero nm' ht' gap' sp' R m))
theorem LearnRes.same {w1 w2 : World} {nm : List UInt8} {ht gap sp : Int} {ls : List Ltr} {t : List UInt8} {ps : List Pg} {nm1 nm2 : List UInt8} {h1 g1 s1 h2 g2 s2 : Int} {R1 R2 : Option Addr} {m1 m2 : Nat} {e1 e2 : Int}
    (h : LearnRes w1 nm ht gap sp ls t ps nm1 h1 g1 s1 R1 m1 e1) (k : LearnRes w2 nm ht gap sp ls t ps nm2 h2 g2 s2 R2 m2 e2) :
    e1 = e2 ∧ nm1 = nm2 ∧ h1 = h2 ∧ g1 = g2 ∧ s1 = s2 ∧ ∃ l1 l2 : List Ltr, m1 = l1.length ∧ m2 = l2.length ∧ l1.map Ltr.face = l2.map Ltr.face ∧ LtrsAt w1 R1 l1 ∧ LtrsAt w2 R2 l2 ∧ l1.length ≤ 200 ∧ ∀ l ∈ l1, l.m ≤ 1099511627776 := by
  by_cases hz : learnErr (fontErr (nameB nm) ht gap sp ls) t ps.length (smpsErr ht (wide0 ps) ps) = 0
  · obtain ⟨l1, k1, a1, b1, c1, d1, z1⟩ := h.2 hz
    obtain ⟨l2, k2, a2, b2, c2, d2, z2⟩ := k.2 hz
    obtain rfl := a1.same a2
    have hk := b1.same b2
    have he : e1 = e2 := by rw [c1, c2, fontErr_key hk]
    subst he
    by_cases h0 : e1 = 0
    · obtain ⟨⟨rfl, rfl, rfl, rfl, rfl⟩, y1⟩ := d1 h0
      obtain ⟨⟨rfl, rfl, rfl, rfl, rfl⟩, y2⟩ := d2 h0
      have hf := fontErr_zero (c1.symm.trans h0)
      refine ⟨rfl, rfl, rfl, rfl, rfl, l1, l2, rfl, rfl, face_of_keys hk (fun l hl => (hf.2 l hl).2.1), y1, y2, hf.1.2.2.2.2.1, fun l hl => ?_⟩
      obtain ⟨W, H, -, -, e, -, -, hb⟩ := page_nat (hf.2 l hl).2.1
      omega
    · obtain ⟨rfl, rfl, rfl, rfl, rfl, rfl⟩ := z1 h0
      obtain ⟨rfl, rfl, rfl, rfl, rfl, rfl⟩ := z2 h0
      exact ⟨rfl, rfl, rfl, rfl, rfl, [], [], rfl, rfl, rfl, LtrsAt.none _, LtrsAt.none _, by simp, fun l h => by cases h⟩
  · obtain ⟨rfl, rfl, rfl, rfl, rfl, rfl, rfl⟩ := h.1 hz
    obtain ⟨rfl, rfl, rfl, rfl, rfl, rfl, rfl⟩ := k.1 hz
    exact ⟨rfl, rfl, rfl, rfl, rfl, [], [], rfl, rfl, rfl, LtrsAt.none _, LtrsAt.none _, by simp, fun l h => by cases h⟩
end Go.Proofs.YtkipcobpnecmhaaGreatDoor


/-! Rows that a call owns, and rows that lie: cells that are set, rows that grow. -/
namespace Go.Proofs.YtkipcobpnecmhaaGreatDoor
open Go.RowKit

def Ltr.zero : Ltr := ⟨[], 0, 0, none, 0, 0, []⟩
end Go.Proofs.YtkipcobpnecmhaaGreatDoor
