/- From a statement's row to a walk: fonts and samples that read as data are opened. No condition. -/
import Derived.Test.YthobmednnocklaaGreatDoorMClaimLinesAreRead1
import Derived.Test.YthobmednnocklaaGreatDoorMClaimLinesAreRead6
import Derived.Test.YthobmednnocklaaGreatDoorMClaimLinesAreRead4
import Derived.Test.YthobmednnocklaaGreatDoorMClaimLinesAreRead2
import Derived.Test.YthobmednnocklaaGreatDoorMClaimLinesAreRead5
import Derived.Test.YthobmednnocklaaGreatDoorMClaimLinesAreRead3
import Derived.Test.YthobmednnocklaaGreatDoorMClaimLinesAreRead0
import Derived.Lib.SliceRun
import Derived.Shelf.Strings.Cut
import Derived.Lib.CutLaws
import Derived.Lib.SlTrimSet
import Derived.Lib.IndexMore
import Derived.HandedShaped
import Derived.Shelf.Vars

namespace Go.Proofs.YthobmednnocklaaGreatDoor
open Go.RowKit

/-- All of a letter but where its pixels lie. -/
def Ltr.face (l : Ltr) : List UInt8 × Int × Int × Nat × List Bool := (l.text, l.W, l.H, l.m, l.bs)

end Go.Proofs.YthobmednnocklaaGreatDoor


/-! Which letter has a text: glyph.at, and the reference's closures. -/
namespace Go.Proofs.YthobmednnocklaaGreatDoor
open Go.RowKit

theorem FirstIs.unique {ls ls' : List Ltr} {t : List UInt8} {i i' : Int} (hf : ls.map Ltr.face = ls'.map Ltr.face) (h : FirstIs ls (fun y => decide (y.text = t)) i) (h' : FirstIs ls' (fun y => decide (y.text = t)) i') : i = i' := by
 have htx : ls.map Ltr.text = ls'.map Ltr.text := by
  have := congrArg (List.map (fun (f : List UInt8 × Int × Int × Nat × List Bool) => f.1)) hf
  rw [List.map_map, List.map_map] at this
  exact this
 have key : ∀ {xs ys : List Ltr} {j : Nat} {a : Ltr}, xs.map Ltr.text = ys.map Ltr.text → xs[j]? = some a → ∃ b, ys[j]? = some b ∧ b.text = a.text := fun {xs ys j a} he ha => by
  have e1 : (xs.map Ltr.text)[j]? = some a.text := by rw [List.getElem?_map, ha]; rfl
  rw [he, List.getElem?_map] at e1
  rcases hb : ys[j]? with _ | b
  · rw [hb] at e1; cases e1
  · rw [hb] at e1; exact ⟨b, rfl, Option.some.inj e1⟩
 rcases h with ⟨rfl, hn⟩ | ⟨j, l, rfl, hl, hp, hno⟩
 · rcases h' with ⟨rfl, _⟩ | ⟨j', l', rfl, hl', hp', _⟩
   · rfl
   · obtain ⟨b, hb, e⟩ := key htx.symm hl'
     have : decide (b.text = t) = false := hn b (List.mem_of_getElem? hb)
     rw [decide_eq_true (e.trans (of_decide_eq_true hp'))] at this
     cases this
 · rcases h' with ⟨rfl, hn'⟩ | ⟨j', l', rfl, hl', hp', hno'⟩
   · obtain ⟨b, hb, e⟩ := key htx hl
     have : decide (b.text = t) = false := hn' b (List.mem_of_getElem? hb)
     rw [decide_eq_true (e.trans (of_decide_eq_true hp))] at this
     cases this
   · rcases Nat.lt_trichotomy j j' with h | rfl | h
     · obtain ⟨b, hb, e⟩ := key htx hl
       have : decide (b.text = t) = false := hno' j b h hb
       rw [decide_eq_true (e.trans (of_decide_eq_true hp))] at this
       cases this
     · rfl
     · obtain ⟨b, hb, e⟩ := key htx.symm hl'
       have : decide (b.text = t) = false := hno j' b h hb
       rw [decide_eq_true (e.trans (of_decide_eq_true hp'))] at this
       cases this

end Go.Proofs.YthobmednnocklaaGreatDoor


/-! The plain law of Learn: samples in memory, what is wrong with them, the vote. -/
namespace Go.Proofs.YthobmednnocklaaGreatDoor
open Go.RowKit

/-- A page: its size, where its pixels lie, and what they are. -/
structure Pg where
 W : Int
 H : Int
 A : Option Addr
 m : Nat
 c : Nat
 bs : List Bool
def Pg.cells (p : Pg) : List Value := [.int .i64 p.W, .int .i64 p.H, .slice p.A p.m p.c]
def Pg.val (p : Pg) : Value := .agg #[.int .i64 p.W, .int .i64 p.H, .slice p.A p.m p.c]
def pgCells (ps : List Pg) : List Value := ps.flatMap Pg.cells
theorem pgCells_at {ps : List Pg} {i : Nat} {p : Pg} (h : ps[i]? = some p) (j : Nat) (hj : j < 3) : (pgCells ps)[i * 3 + j]? = p.cells[j]? := by
 induction ps generalizing i with
 | nil => simp at h
 | cons x ps ih =>
  unfold pgCells
  rw [List.flatMap_cons]
  rcases i with _ | i
  · simp only [List.getElem?_cons_zero, Option.some.injEq] at h
    subst h
    rw [List.getElem?_append_left (by show 0 * 3 + j < 3; omega)]
    simp
  · rw [List.getElem?_append_right (by show 3 ≤ (i + 1) * 3 + j; omega)]
    have e : (i + 1) * 3 + j - x.cells.length = i * 3 + j := by
     show (i + 1) * 3 + j - 3 = i * 3 + j
     omega
    rw [e]
    exact ih (by simpa using h)
/-- The pages lie there. -/
def PgsAt (w : World) (S : Option Addr) (ps : List Pg) : Prop := Reads w 3 S ps.length (pgCells ps) ∧ ∀ p ∈ ps, Reads w 1 p.A p.m (p.bs.map .bool)
theorem PgsAt.bl {w w' : World} {S : Option Addr} {ps : List Pg} (h : PgsAt w S ps) (hb : Bl w w') : PgsAt w' S ps := ⟨h.1.bl hb, fun p hp => (h.2 p hp).bl hb⟩
theorem PgsAt.at_ {w : World} {S : Option Addr} {ps : List Pg} {i : Nat} {p : Pg} (h : PgsAt w S ps) (hi : ps[i]? = some p) : ∃ ad, S = some ad ∧ w.cell? (ad.add (i * 3)) = some (.int .i64 p.W) ∧ w.cell? ⟨(ad.add (i * 3)).block, (ad.add (i * 3)).off + 1, none⟩ = some (.int .i64 p.H) ∧
 w.cell? ⟨(ad.add (i * 3)).block, (ad.add (i * 3)).off + 2, none⟩ = some (.slice p.A p.m p.c) := by
 have hlt : i < ps.length := (List.getElem?_eq_some_iff.1 hi).1
 obtain ⟨ad, e, hc⟩ := h.1.2 (by omega)
 have key : ∀ j v, j < 3 → p.cells[j]? = some v → w.cell? ((ad.add (i * 3)).add j) = some v := fun j v hj hv => by
  rw [add_of_add]
  exact hc _ _ (by rw [pgCells_at hi j hj]; exact hv)
 have k0 := key 0 _ (by omega) rfl
 have k1 := key 1 _ (by omega) rfl
 have k2 := key 2 _ (by omega) rfl
 rw [Addr.add_zero'] at k0
 rw [Addr.add_succ'] at k1 k2
 exact ⟨ad, e, k0, k1, k2⟩

/-! ### what is wrong with the samples -/
def smpErr (ht W0 : Int) (p : Pg) : Int := if pageErr p.W p.H p.m = 0 then whenI (p.H != ht || p.W != W0) 11 else pageErr p.W p.H p.m
def smpsErr (ht W0 : Int) : List Pg → Int
 | [] => 0
 | p :: ps => if smpErr ht W0 p = 0 then smpsErr ht W0 ps else smpErr ht W0 p
/-! ### the vote -/
def voteN (ps : List Pg) (k : Nat) : Nat := ps.countP (fun p => p.bs.getD k false)
def voteB (ps : List Pg) (k : Nat) : Bool := decide ((ps.length : Int) < 2 * (voteN ps k : Int))
def voteF (ps : List Pg) (W x y : Nat) : Bool := voteB ps (y * W + x)
/-- What Learn says ahead of the vote. -/
def learnErr (fe : Int) (t : List UInt8) (n : Nat) (se : Int) : Int := firstNZ [fe, whenI (!textB t) 2, whenI (decide (n = 0)) 9, whenI (decide (100 < n)) 4, se]

end Go.Proofs.YthobmednnocklaaGreatDoor


/-! Fonts of the same letters (but for where their pixels lie, and what a bad page holds) have the same error. -/
namespace Go.Proofs.YthobmednnocklaaGreatDoor
open Go.RowKit

/-- All that an error is told by. -/
def Ltr.key (l : Ltr) : List UInt8 × Int × Int × Int × Nat × List Bool := (l.text, pageErr l.W l.H l.m, if pageErr l.W l.H l.m = 0 then (l.W, l.H, l.m, l.bs) else (0, 0, 0, []))
theorem key_text {a b : Ltr} (h : a.key = b.key) : a.text = b.text := congrArg Prod.fst h
theorem key_err {a b : Ltr} (h : a.key = b.key) : pageErr a.W a.H a.m = pageErr b.W b.H b.m := congrArg (fun x => x.2.1) h
theorem face_of_key {a b : Ltr} (h : a.key = b.key) (h0 : pageErr a.W a.H a.m = 0) : a.face = b.face := by
 have ht := key_text h
 have he := key_err h
 have hr : (if pageErr a.W a.H a.m = 0 then (a.W, a.H, a.m, a.bs) else (0, 0, 0, [])) = (if pageErr b.W b.H b.m = 0 then (b.W, b.H, b.m, b.bs) else (0, 0, 0, [])) := congrArg (fun x => x.2.2) h
 rw [← he, if_pos h0, if_pos h0] at hr
 unfold Ltr.face
 rw [ht, hr]
theorem ltrErr_key {ht : Int} {prev : List (List UInt8)} {a b : Ltr} (h : a.key = b.key) : ltrErr ht prev a = ltrErr ht prev b := by
 by_cases h0 : pageErr a.W a.H a.m = 0
 · have hf := face_of_key h h0
   obtain ⟨t, W, H, A, m, c, bs⟩ := a
   obtain ⟨t', W', H', A', m', c', bs'⟩ := b
   simp only [Ltr.face, Prod.mk.injEq] at hf
   obtain ⟨rfl, rfl, rfl, rfl, rfl⟩ := hf
   rfl
 · have ht := key_text h
   have he := key_err h
   unfold ltrErr
   rw [← ht, ← he]
   show (if _ = 0 then (if _ = 0 then (if _ = 0 then _ else _) else _) else _) = (if _ = 0 then (if _ = 0 then (if _ = 0 then _ else _) else _) else _)
   rw [if_neg h0, if_neg h0]
theorem ltrsErr_key {ht : Int} {a b : List Ltr} : ∀ {prev : List (List UInt8)}, a.map Ltr.key = b.map Ltr.key → ltrsErr ht prev a = ltrsErr ht prev b := by
 induction a generalizing b with
 | nil =>
  intro prev h
  cases b with
  | nil => rfl
  | cons y b => simp at h
 | cons x a ih =>
  intro prev h
  cases b with
  | nil => simp at h
  | cons y b =>
   rw [List.map_cons, List.map_cons, List.cons.injEq] at h
   show (if ltrErr ht prev x = 0 then ltrsErr ht (prev ++ [x.text]) a else ltrErr ht prev x) = (if ltrErr ht prev y = 0 then ltrsErr ht (prev ++ [y.text]) b else ltrErr ht prev y)
   rw [ltrErr_key h.1, key_text h.1, ih h.2]
theorem fontErr_key {nm : Bool} {ht gap sp : Int} {a b : List Ltr} (h : a.map Ltr.key = b.map Ltr.key) : fontErr nm ht gap sp a = fontErr nm ht gap sp b := by
 have hl : a.length = b.length := by have := congrArg List.length h; simpa using this
 unfold fontErr
 rw [hl, ltrsErr_key h]
/-- Where the error is 0, letters that are told alike have the same face. -/
theorem face_of_keys {a b : List Ltr} (h : a.map Ltr.key = b.map Ltr.key) (hz : ∀ l ∈ a, pageErr l.W l.H l.m = 0) : a.map Ltr.face = b.map Ltr.face := by
 induction a generalizing b with
 | nil =>
  cases b with
  | nil => rfl
  | cons y b => simp at h
 | cons x a ih =>
  cases b with
  | nil => simp at h
  | cons y b =>
   rw [List.map_cons, List.map_cons, List.cons.injEq] at h
   rw [List.map_cons, List.map_cons, face_of_key h.1 (hz x (List.mem_cons_self ..)), ih h.2 (fun l hl => hz l (List.mem_cons_of_mem _ hl))]

end Go.Proofs.YthobmednnocklaaGreatDoor


/-! The plain law of Learn: what is said of its answer tells it but for where things lie. -/
namespace Go.Proofs.YthobmednnocklaaGreatDoor
open Go.RowKit

abbrev Key := List UInt8 × Int × Int × Int × Nat × List Bool
/-- The width of the first sample. -/
def wide0 (ps : List Pg) : Int := (ps.head?.map Pg.W).getD 0
def votes (ps : List Pg) (W0 ht : Nat) : List Bool := grid W0 ht (voteF ps W0)
/-- How the new letter is told. -/
def NewKey (t : List UInt8) (ps : List Pg) (W0 ht : Nat) (k : Key) : Prop :=
 (NoEnds (colN (votes ps W0 ht) W0 ht) W0 ∧ k = (t, 3, 0, 0, 0, [])) ∨
 ∃ x r : Nat, Ends (colN (votes ps W0 ht) W0 ht) W0 x r ∧ k = (t, 0, ((r - x + 1 : Nat) : Int), (ht : Int), (r - x + 1) * ht, grid (r - x + 1) ht (cutF (votes ps W0 ht) W0 x 0))
theorem NewKey.same {t : List UInt8} {ps : List Pg} {W0 ht : Nat} {k k' : Key} (h : NewKey t ps W0 ht k) (h' : NewKey t ps W0 ht k') : k = k' := by
 rcases h with ⟨h1, rfl⟩ | ⟨x, r, h1, rfl⟩ <;> rcases h' with ⟨h2, rfl⟩ | ⟨x', r', h2, rfl⟩
 · rfl
 · exact (h2.not h1).elim
 · exact (h1.not h2).elim
 · obtain ⟨rfl, rfl⟩ := h1.same h2
   rfl
/-- In place of the first letter of that text, or behind all. -/
def Placed (ls : List Ltr) (t : List UInt8) (k : Key) (ks : List Key) : Prop := ∃ i : Int, FirstIs ls (fun y => decide (y.text = t)) i ∧ ks = if 0 ≤ i then (ls.map Ltr.key).set i.toNat k else ls.map Ltr.key ++ [k]
theorem Placed.same {ls : List Ltr} {t : List UInt8} {k : Key} {ks ks' : List Key} (h : Placed ls t k ks) (h' : Placed ls t k ks') : ks = ks' := by
 obtain ⟨i, hi, rfl⟩ := h
 obtain ⟨j, hj, rfl⟩ := h'
 have := FirstIs.unique rfl hi hj
 subst this
 rfl
def fontZero (nm : List UInt8) (ht gap sp : Int) (R : Option Addr) (m : Nat) : Prop := nm = [] ∧ ht = 0 ∧ gap = 0 ∧ sp = 0 ∧ R = none ∧ m = 0
def LearnRes (w : World) (nm : List UInt8) (ht gap sp : Int) (ls : List Ltr) (t : List UInt8) (ps : List Pg) (nm' : List UInt8) (ht' gap' sp' : Int) (R : Option Addr) (m : Nat) (err : Int) : Prop :=
 (learnErr (fontErr (nameB nm) ht gap sp ls) t ps.length (smpsErr ht (wide0 ps) ps) ≠ 0 → err = learnErr (fontErr (nameB nm) ht gap sp ls) t ps.length (smpsErr ht (wide0 ps) ps) ∧ fontZero nm' ht' gap' sp' R m) ∧
 (learnErr (fontErr (nameB nm) ht gap sp ls) t ps.length (smpsErr ht (wide0 ps) ps) = 0 → ∃ ls' k, NewKey t ps (wide0 ps).toNat ht.toNat k ∧ Placed ls t k (ls'.map Ltr.key) ∧ err = fontErr (nameB nm) ht gap sp ls' ∧
   (err = 0 → (nm' = nm ∧ ht' = ht ∧ gap' = gap ∧ sp' = sp ∧ m = ls'.length) ∧ LtrsAt w R ls') ∧ (err ≠ 0 → fontZero nm' ht' gap' sp' R m))
theorem LearnRes.same {w1 w2 : World} {nm : List UInt8} {ht gap sp : Int} {ls : List Ltr} {t : List UInt8} {ps : List Pg} {nm1 nm2 : List UInt8} {h1 g1 s1 h2 g2 s2 : Int} {R1 R2 : Option Addr} {m1 m2 : Nat} {e1 e2 : Int}
 (h : LearnRes w1 nm ht gap sp ls t ps nm1 h1 g1 s1 R1 m1 e1) (k : LearnRes w2 nm ht gap sp ls t ps nm2 h2 g2 s2 R2 m2 e2) :
 e1 = e2 ∧ nm1 = nm2 ∧ h1 = h2 ∧ g1 = g2 ∧ s1 = s2 ∧ ∃ l1 l2 : List Ltr, m1 = l1.length ∧ m2 = l2.length ∧ l1.map Ltr.face = l2.map Ltr.face ∧ LtrsAt w1 R1 l1 ∧ LtrsAt w2 R2 l2 ∧ l1.length ≤ 200 ∧ ∀ l ∈ l1, l.m ≤ 1099511627776 := by
 by_cases hz : learnErr (fontErr (nameB nm) ht gap sp ls) t ps.length (smpsErr ht (wide0 ps) ps) = 0
 · obtain ⟨l1, k1, a1, b1, c1, d1, z1⟩ := h.2 hz
   obtain ⟨l2, k2, a2, b2, c2, d2, z2⟩ := k.2 hz
   obtain rfl := a1.same a2
   have hk := b1.same b2
   have he : e1 = e2 := by rw [c1, c2, fontErr_key hk]
   subst he
   by_cases h0 : e1 = 0
   · obtain ⟨⟨rfl, rfl, rfl, rfl, rfl⟩, y1⟩ := d1 h0
     obtain ⟨⟨rfl, rfl, rfl, rfl, rfl⟩, y2⟩ := d2 h0
     have hf := fontErr_zero (c1.symm.trans h0)
     refine ⟨rfl, rfl, rfl, rfl, rfl, l1, l2, rfl, rfl, face_of_keys hk (fun l hl => (hf.2 l hl).2.1), y1, y2, hf.1.2.2.2.2.1, fun l hl => ?_⟩
     obtain ⟨W, H, -, -, e, -, -, hb⟩ := page_nat (hf.2 l hl).2.1
     omega
   · obtain ⟨rfl, rfl, rfl, rfl, rfl, rfl⟩ := z1 h0
     obtain ⟨rfl, rfl, rfl, rfl, rfl, rfl⟩ := z2 h0
     exact ⟨rfl, rfl, rfl, rfl, rfl, [], [], rfl, rfl, rfl, LtrsAt.none _, LtrsAt.none _, by simp, fun l h => by cases h⟩
 · obtain ⟨rfl, rfl, rfl, rfl, rfl, rfl, rfl⟩ := h.1 hz
   obtain ⟨rfl, rfl, rfl, rfl, rfl, rfl, rfl⟩ := k.1 hz
   exact ⟨rfl, rfl, rfl, rfl, rfl, [], [], rfl, rfl, rfl, LtrsAt.none _, LtrsAt.none _, by simp, fun l h => by cases h⟩
end Go.Proofs.YthobmednnocklaaGreatDoor


/-! What is seen of a line as a list of records. -/
namespace Go.Proofs.YthobmednnocklaaGreatDoor
open Go.RowKit

theorem best_len {cs : List Bool} {W H : Nat} {t0 : List UInt8} (h0 : t0.length ≤ 4) {ls : List Ltr} (h : ∀ l ∈ ls, l.text.length ≤ 4) : (bestOf cs W H t0 ls).1.length ≤ 4 := by
 have key : ∀ (ls : List Ltr) (s : Best), (∀ l ∈ ls, l.text.length ≤ 4) → s.1.length ≤ 4 → (ls.foldl (bestStep cs W H) s).1.length ≤ 4 := by
  intro ls
  induction ls with
  | nil => intro s _ h; exact h
  | cons l ls ih =>
   intro s hl hs
   refine ih (bestStep cs W H s l) (fun x hx => hl x (List.mem_cons_of_mem _ hx)) ?_
   unfold bestStep
   split
   · exact hs
   · split
     · exact hl l (List.mem_cons_self ..)
     · split <;> exact hs
 exact key ls _ h h0
def SnOk (s : Sn) : Prop := s.t.length ≤ 4 ∧ (-1 ≤ s.d ∧ s.d ≤ 32000000) ∧ (-1 ≤ s.e ∧ s.e ≤ 32000000)
theorem seen_sn {cs : List Bool} {bW bH : Nat} {ls : List Ltr} (hW : bW ≤ 4000) (hH : bH ≤ 4000) (hl : ∀ l ∈ ls, (l.W ≤ 64 ∧ l.H ≤ 4000) ∧ l.text.length ≤ 4) (X W H : Nat) (most ht : Int) : ∃ s : Sn, seenCells (bestOf cs bW bH [] ls) X W H most ht = s.cells ∧ SnOk s := by
 have hi := best_inv (cs := cs) (W := bW) (H := bH) [] hW hH (ls := ls) fun l h => (hl l h).1
 have ht := best_len (cs := cs) (W := bW) (H := bH) (t0 := []) (by simp) (ls := ls) fun l h => (hl l h).2
 unfold seenCells
 split
 · exact ⟨⟨[63], X, 0, W, H, -1, -1⟩, rfl, by unfold SnOk; simp⟩
 · refine ⟨⟨_, X, 0, W, H, _, _⟩, rfl, ht, ?_, ?_⟩
   · show -1 ≤ (bestOf cs bW bH [] ls).2.1 ∧ (bestOf cs bW bH [] ls).2.1 ≤ 32000000
     omega
   · show -1 ≤ (bestOf cs bW bH [] ls).2.2 ∧ (bestOf cs bW bH [] ls).2.2 ≤ 32000000
     omega
theorem line_sn {bs : List Bool} {W H : Nat} {ls : List Ltr} {most ht gs : Int} {ps : List Piece} (hH : H ≤ 4000) (hl : ∀ l ∈ ls, (l.W ≤ 64 ∧ l.H ≤ 4000) ∧ l.text.length ≤ 4) (hp : ∀ p ∈ ps, p.2 ≤ 4000) : ∀ i, i ≤ ps.length → ∃ ss : List Sn, lineTo (seeOf bs W H ls most ht) gs H ps i = ss.map Sn.cells ∧ (∀ s ∈ ss, SnOk s) ∧ ss.length ≤ 2 * i
 | 0, _ => ⟨[], rfl, (fun s hs => absurd hs (by simp)), Nat.zero_le _⟩
 | i + 1, hi => by
  obtain ⟨ss, e, hs, hn⟩ := line_sn hH hl hp i (by omega)
  have hm : pieceAt ps i ∈ ps := by
   unfold pieceAt
   rw [List.getD_eq_getElem?_getD, List.getElem?_eq_getElem (by omega)]
   exact List.getElem_mem _
  obtain ⟨s, hse, hso⟩ := seen_sn (cs := grid (pieceAt ps i).2 H (cutF bs W (pieceAt ps i).1 0)) (bW := (pieceAt ps i).2) (bH := H) (hp _ hm) hH hl (pieceAt ps i).1 (pieceAt ps i).2 H most ht
  have hsee : seeOf bs W H ls most ht (pieceAt ps i) = s.cells := hse
  have e2 : lineTo (seeOf bs W H ls most ht) gs H ps (i + 1) = lineTo (seeOf bs W H ls most ht) gs H ps i ++ (if 0 < i ∧ gs ≤ gapAt ps i then [spaceCells (endAt ps (i - 1)) (gapAt ps i) H] else []) ++ [seeOf bs W H ls most ht (pieceAt ps i)] := rfl
  rw [hsee, e] at e2
  by_cases hc : 0 < i ∧ gs ≤ gapAt ps i
  · rw [if_pos hc] at e2
    refine ⟨ss ++ [⟨[32], endAt ps (i - 1), 0, gapAt ps i, H, 0, -1⟩] ++ [s], ?_, ?_, ?_⟩
    · rw [e2, List.map_append, List.map_append]; rfl
    · intro x hx
      rcases List.mem_append.1 hx with hx | hx
      · rcases List.mem_append.1 hx with hx | hx
        · exact hs x hx
        · rw [List.mem_singleton.1 hx]; unfold SnOk; simp
      · rw [List.mem_singleton.1 hx]; exact hso
    · rw [List.length_append, List.length_append]; simp; omega
  · rw [if_neg hc] at e2
    refine ⟨ss ++ [s], ?_, ?_, ?_⟩
    · rw [e2, List.map_append]; simp
    · intro x hx
      rcases List.mem_append.1 hx with hx | hx
      · exact hs x hx
      · rw [List.mem_singleton.1 hx]; exact hso
    · rw [List.length_append]; simp; omega
theorem map_flat (ss : List Sn) : (ss.map Sn.cells).flatten = snCells ss := (List.flatMap_def ..).symm
end Go.Proofs.YthobmednnocklaaGreatDoor


/-! A font whose error is 0 is right; Width and Set of any font. -/
namespace Go.Proofs.YthobmednnocklaaGreatDoor
open Go.RowKit Go.Shelf

theorem right_of {nm : Bool} {ht gap sp : Int} {ls : List Ltr} (h : fontErr nm ht gap sp ls = 0) : ∃ ht' gap' sp' : Nat, ht = (ht' : Int) ∧ gap = (gap' : Int) ∧ sp = (sp' : Int) ∧ Right ht' gap' sp' ls := by
 obtain ⟨⟨-, hrg, hgs, hl0, hl2, h1, h2⟩, hl⟩ := fontErr_zero h
 have hrg2 : 1 ≤ gap ∧ gap ≤ 16 ∧ 1 ≤ sp ∧ sp ≤ 64 := by
  unfold rangeB at hrg
  simp only [Bool.and_eq_true] at hrg
  have h1 := inB_true.1 hrg.2.1
  have h2 := inB_true.1 hrg.2.2
  exact ⟨h1.1, h1.2, h2.1, h2.2⟩
 obtain ⟨ht', rfl⟩ : ∃ n : Nat, ht = (n : Int) := ⟨ht.toNat, by omega⟩
 obtain ⟨gap', rfl⟩ : ∃ n : Nat, gap = (n : Int) := ⟨gap.toNat, by omega⟩
 obtain ⟨sp', rfl⟩ : ∃ n : Nat, sp = (n : Int) := ⟨sp.toNat, by omega⟩
 have key : ∀ k (hk : k < ls.length), (ls[k]'hk).W = (wdOf ls k : Int) ∧ 1 ≤ wdOf ls k ∧ wdOf ls k ≤ 64 ∧ (ls[k]'hk).H = (ht' : Int) ∧ (ls[k]'hk).m = wdOf ls k * ht' ∧ textB (ls[k]'hk).text = true := fun k hk => by
  obtain ⟨a1, a2, a3, a4⟩ := hl _ (List.getElem_mem hk)
  obtain ⟨W, H, e1, e2, e3, -, -, -⟩ := page_nat a2
  have hsz := sizeErr_zero (pageErr_zero a2).1
  have hw : wdOf ls k = W := by rw [wdOf_at (List.getElem?_eq_getElem hk), e1]; rfl
  have hh : H = ht' := by rw [e2] at a3; omega
  rw [hw]
  refine ⟨e1, by omega, by omega, a3, by rw [e3, hh], a1⟩
 refine ⟨ht', gap', sp', rfl, rfl, rfl, ⟨?_, by omega, by omega, by omega, by omega, by omega, fun k hk => ⟨(key k hk).1, (key k hk).2.1, (key k hk).2.2.1⟩, fun k hk => (key k hk).2.2.2.1, fun k hk => (key k hk).2.2.2.2.1⟩⟩
 intro k hk
 have ht := (key k hk).2.2.2.2.2
 rw [txtOf_at (List.getElem?_eq_getElem hk)]
 unfold textB at ht
 simp only [Bool.and_eq_true, decide_eq_true_eq] at ht
 refine ⟨ht.2.1, ht.2.2, fun b hb e => ?_⟩
 have := ht.1 b hb
 rw [e] at this
 exact absurd this.1 (by decide)
end Go.Proofs.YthobmednnocklaaGreatDoor


/-! From a statement's row to a walk where a listed variable's reading and the world's shape are both wanted. -/
namespace Go.Proofs.YthobmednnocklaaGreatDoor
open Go.ChangeShapes Go.WideShapes Go.ChangeAt Go.RowKit Go.Joins Go.Shelf

section
variable {H : Type} {enc : TypeId × Value → H}
theorem handed_and_shaped {a : Assume} {C : Checked} {os : Os} {f : FuncId} {fn : Func} {s : ChangeSpec} {conds : List PathCond} {apart fresh handsOn again : Bool} {X : World → Array Value → Prop}
 (hX : ∀ (w w' : World) (args : Array Value), w.heap = w'.heap → X w args → X w' args)
 (own : ownKnob C.prog.godebug = none) (started : os.Started) (noInit : C.prog.inits.idxOf? f = none) (hfn : C.prog.funcs[f]? = some fn)
 (witness : ∃ (w : World) (tape : Tape) (i : Input), w.os = os ∧ (w.forCall tape i).Shaped C.prog ∧ i.vars = [] ∧ Input.okWide C.prog (w.forCall tape i) .any w.heap.size f i ∧
   ((s.pre enc C.prog fn conds apart (w.forCall tape i).memory i.args ∧ X (w.forCall tape i).memory i.args) ∧ sizedMet enc C.prog fn (OpenSpec.ofChange s) apart (w.forCall tape i).memory i.args) ∧ a.holds C.prog (lone (Frame.enter C.prog f i.args .normal) [] (w.forCall tape i)))
 (contract : ∀ (W : World) (base : Nat) (args : Array Value) (ds gs : List (DataW H)) (before : List MemPlace),
   (∀ (j : Nat) t v, fn.params[j]? = some t → args[j]? = some v → Value.okWide C.prog W .any base t v) →
   DataW.Whole enc C.prog fn.params.toList s.vars apart W args.toList ds gs before →
   (DataW.weightsEach C.prog (fn.params.toList ++ s.plain.varTypes C.prog) (ds ++ gs)).all (· ≤ reachBytes) = true → X W args → W.ShapedOpen C.prog →
   Calls C.prog f args W fun e W' => ∃ v, e = .returned v ∧ s.post enc C.prog fn apart fresh handsOn again W args v W') :
 ReturnsInHanded a C os f .any (fun w args => (s.pre enc C.prog fn conds apart w args ∧ X w args) ∧ sizedMet enc C.prog fn (OpenSpec.ofChange s) apart w args) (s.post enc C.prog fn apart fresh handsOn again) := by
 refine returnsInHanded_of_calls own started noInit witness ?_
 intro w tape i _ hsh _ hok hpre _
 obtain ⟨_, _, _, fn', hfn', _, _, _, _, hval⟩ := hok
 have e : fn' = fn := Option.some.inj (hfn'.symm.trans hfn)
 subst e
 obtain ⟨⟨⟨ds, gs, before, hw, _⟩, hx⟩, hz⟩ := hpre
 have hw' := DataW.Whole.of_heap (w' := w.forCall tape i) (by rfl) hw
 refine (contract (w.forCall tape i) w.heap.size i.args ds gs before hval hw' (hz.weights hw) (hX _ _ _ (by rfl) hx) hsh).mono fun e W' ⟨v, he, hp⟩ => ?_
 subst he
 exact ChangeSpec.post_blind hp
end
theorem string_mk (s : ByteArray) : ∃ l : List UInt8, s = ⟨l.toArray⟩ := ⟨s.data.toList, by cases s; simp⟩

end Go.Proofs.YthobmednnocklaaGreatDoor


/-! From a statement's row to a walk: fonts and samples that read as data are opened. No condition. -/
namespace Go.Proofs.YthobmednnocklaaGreatDoor
open Go.ChangeShapes Go.WideShapes Go.ChangeAt Go.RowKit Go.Joins

theorem build_list {α : Type} {Q : Nat → α → Prop} : ∀ (n : Nat), (∀ i, i < n → ∃ y, Q i y) → ∃ ys : List α, ys.length = n ∧ ∀ (i : Nat) y, ys[i]? = some y → Q i y
 | 0, _ => ⟨[], rfl, fun i y h => by simp at h⟩
 | n + 1, h => by
  obtain ⟨ys, hl, hy⟩ := build_list n fun i hi => h i (by omega)
  obtain ⟨z, hz⟩ := h n (by omega)
  refine ⟨ys ++ [z], by simp [hl], fun i y hi => ?_⟩
  rcases Nat.lt_or_ge i ys.length with h1 | h1
  · rw [List.getElem?_append_left h1] at hi
    exact hy i y hi
  · have hlt := (List.getElem?_eq_some_iff.1 hi).1
    have e : i = ys.length := by simp at hlt; omega
    subst e
    rw [List.getElem?_append_right (Nat.le_refl _), Nat.sub_self] at hi
    injection hi with hi
    subst hi
    rw [hl]
    exact hz
section
variable {H : Type} {enc : TypeId × Value → H} {P : Program} {w : World} {base : Nat} {spare : Nat → Bool} {held : Bool}
theorem cells_split {a : Addr} {n : Nat} {cs : List Value} (h : w.cells? base a n = some cs) : cs.length = n ∧ ∀ (j : Nat) u, cs[j]? = some u → w.cell? (a.add j) = some u := by
 unfold World.cells? at h
 split at h
 · have key : ∀ (m : Nat) (l : List Nat) (cs : List Value), l = (List.range' m (n - m)) → m ≤ n → l.mapM (fun i => w.cell? (a.add i)) = some cs → cs.length = n - m ∧ ∀ (j : Nat) u, cs[j]? = some u → w.cell? (a.add (m + j)) = some u := by
    intro m l
    induction l generalizing m with
    | nil =>
     intro cs hl hm hc
     simp at hc
     subst hc
     have : n - m = 0 := by
      have := congrArg List.length hl
      simpa using this.symm
     exact ⟨by simp [this], fun j u hj => by simp at hj⟩
    | cons x l ih =>
     intro cs hl hm hc
     have hlt : m < n := by
      have := congrArg List.length hl
      simp at this
      omega
     have e : n - m = (n - (m + 1)) + 1 := by omega
     rw [e, List.range'_succ] at hl
     injection hl with h1 h2
     subst h1
     simp only [List.mapM_cons, Option.bind_eq_bind, Option.bind_eq_some_iff, Option.pure_def, Option.some.injEq] at hc
     obtain ⟨v, hv, vs, hvs, rfl⟩ := hc
     obtain ⟨k1, k2⟩ := ih (x + 1) vs h2 (by omega) hvs
     refine ⟨by simp [k1]; omega, fun j u hj => ?_⟩
     rcases j with _ | j
     · simp at hj
       subst hj
       exact hv
     · have := k2 j u (by simpa using hj)
       rw [show x + (j + 1) = x + 1 + j by omega]
       exact this
   have := key 0 (List.range n) cs (by rw [List.range_eq_range']; rfl) (Nat.zero_le _) h
   simpa using this
 · cases h
theorem rd_cells {t e : TypeId} {fuel : Nat} {a0 : Option Addr} {len cap : Nat} {x : DataW H × List MemPlace} (ht : P.underlying t = some (.slice e)) (h : DataW.trod enc P w base spare held fuel t [.slice a0 len cap] = some x) :
 (a0 = none ∧ len = 0 ∧ cap = 0) ∨ ∃ a n', a0 = some a ∧ len ≤ cap ∧ cap ≤ maxLen ∧ ∀ i, i < len → ∃ cs x', cs.length = P.cellsOf e ∧ (∀ (j : Nat) u, cs[j]? = some u → w.cell? (a.add (i * P.cellsOf e + j)) = some u) ∧ DataW.trod enc P w base spare held n' e cs = some x' := by
 rcases DataW.trod_slice ht h with ⟨hcs, _⟩ | ⟨a, len', cap', elems, rest, n, _, hcs, _, _, hl, hm, hlen, hel, _⟩
 · simp at hcs
   exact .inl hcs
 · simp at hcs
   obtain ⟨rfl, rfl, rfl⟩ := hcs
   refine .inr ⟨a, n, rfl, hl, hm, fun i hi => ?_⟩
   have h1 := hel i hi
   rw [List.getElem?_eq_getElem (by omega)] at h1
   obtain ⟨cs, hcs, htr⟩ := Option.bind_eq_some_iff.1 h1
   obtain ⟨k1, k2⟩ := cells_split hcs
   refine ⟨cs, _, k1, fun j u hj => ?_, htr⟩
   have := k2 j u hj
   rwa [add_of_add] at this
end

section
variable {H : Type} {enc : TypeId × Value → H} {w : World} {base b0 : Nat} {spare : Nat → Bool} {held : Bool} {r : Reach}
theorem cells_str : Tryz.prog.cellsOf 9 = 1 := by kernel_rfl
theorem cells_int : Tryz.prog.cellsOf 3 = 1 := by kernel_rfl
theorem cells_bools : Tryz.prog.cellsOf 22 = 1 := by kernel_rfl
theorem cells_bits : Tryz.prog.cellsOf 24 = 3 := by kernel_rfl
theorem cells_ltr : Tryz.prog.cellsOf 88 = 4 := by kernel_rfl
theorem cells_font : Tryz.prog.cellsOf 29 = 5 := by kernel_rfl
set_option maxRecDepth 100000 in
theorem rd_page {fuel : Nat} {cs : List Value} {x : DataW H × List MemPlace} (h : DataW.trod enc Tryz.prog w base spare held fuel 24 cs = some x) : ∃ p : Pg, cs = p.cells ∧ p.bs.length = p.m ∧ Reads w 1 p.A p.m (p.bs.map .bool) := by
 obtain ⟨y0, y1, y2, n, _, hl, h0, h1, h2⟩ := Go.Deep.trod_struct3 Tryz.underlying24 h
 rw [cells_bits] at hl
 match cs, hl with
 | [c0, c1, c2], _ =>
  simp only [cells_int, cells_bools, List.drop_zero, List.drop_succ_cons, List.take_succ_cons, List.take_zero] at h0 h1 h2
  obtain ⟨W, e0, _, w0⟩ := DataW.trod_int Tryz.underlying3 h0
  obtain ⟨Ht, e1, _, w1⟩ := DataW.trod_int Tryz.underlying3 h1
  obtain ⟨A, m, c, rfl⟩ := slice_of_trod Tryz.underlying22 h2
  simp at e0 e1
  subst e0 e1
  obtain ⟨bs, hz, hr, hm⟩ := rd_bools Tryz.underlying22 Tryz.underlying4 (by kernel_rfl) h2
  exact ⟨⟨W, Ht, A, m, c, bs⟩, rfl, hz, hr⟩
set_option maxRecDepth 100000 in
theorem rd_letter {fuel : Nat} {cs : List Value} {x : DataW H × List MemPlace} (h : DataW.trod enc Tryz.prog w base spare held fuel 88 cs = some x) : ∃ l : Ltr, cs = l.cells ∧ l.bs.length = l.m ∧ Reads w 1 l.A l.m (l.bs.map .bool) ∧ l.text.length ≤ 9223372036854775807 := by
 obtain ⟨y0, y1, n, _, hl, h0, h1⟩ := trod_struct2 Tryz.underlying88 h
 rw [cells_ltr] at hl
 match cs, hl with
 | [c0, c1, c2, c3], _ =>
  simp only [cells_str, cells_bits, List.drop_zero, List.drop_succ_cons, List.take_succ_cons, List.take_zero] at h0 h1
  obtain ⟨s, e0, _, w0⟩ := DataW.trod_string Tryz.underlying9 h0
  obtain ⟨p, e1, hb, hr⟩ := rd_page h1
  obtain ⟨t, rfl⟩ := string_mk s
  simp at e0
  subst e0
  unfold Pg.cells at e1
  simp at e1
  obtain ⟨rfl, rfl, rfl⟩ := e1
  exact ⟨⟨t, p.W, p.H, p.A, p.m, p.c, p.bs⟩, rfl, hb, hr, by rw [Lib.size_mk] at w0; exact w0⟩
theorem mod4 (j : Nat) : j = j / 4 * 4 + j % 4 := by omega
set_option maxRecDepth 100000 in
theorem rd_letters {fuel : Nat} {a0 : Option Addr} {len cap : Nat} {x : DataW H × List MemPlace} (h : DataW.trod enc Tryz.prog w base spare held fuel 27 [.slice a0 len cap] = some x) : ∃ ls : List Ltr, ls.length = len ∧ LtrsAt w a0 ls ∧ len ≤ 9223372036854775807 ∧ len ≤ cap := by
 rcases rd_cells Tryz.underlying27 h with ⟨rfl, rfl, rfl⟩ | ⟨a, n', rfl, hlc, hcm, hel⟩
 · exact ⟨[], rfl, LtrsAt.none _, by omega, by omega⟩
 · obtain ⟨ls, hl, hls⟩ := build_list (Q := fun i (l : Ltr) => (∀ (j : Nat) u, l.cells[j]? = some u → w.cell? (a.add (i * 4 + j)) = some u) ∧ Reads w 1 l.A l.m (l.bs.map .bool) ∧ l.text.length ≤ 9223372036854775807) len (fun i hi => by
    obtain ⟨cs, x', _, hc, ht⟩ := hel i hi
    obtain ⟨l, rfl, _, hr, hx⟩ := rd_letter ht
    rw [cells_ltr] at hc
    exact ⟨l, hc, hr, hx⟩)
   refine ⟨ls, hl, ⟨⟨ltrCells_len ls, fun _ => ⟨a, rfl, fun j u hj => ?_⟩⟩, fun l hp => ?_⟩, by unfold maxLen at hcm; omega, hlc⟩
   · have hlt : j < ls.length * 4 := by rw [← ltrCells_len]; exact (List.getElem?_eq_some_iff.1 hj).1
     have hi : j / 4 < ls.length := by omega
     have hg : ls[j / 4]? = some ls[j / 4] := List.getElem?_eq_getElem hi
     rw [mod4 j] at hj ⊢
     rw [ltrCells_at hg (j % 4) (Nat.mod_lt _ (by decide))] at hj
     exact (hls _ _ hg).1 _ _ hj
   · obtain ⟨i, hi⟩ := List.getElem?_of_mem hp
     exact (hls i l hi).2
theorem array5 {α : Type} {cs : Array α} (h : cs.size = 5) : ∃ c0 c1 c2 c3 c4, cs = #[c0, c1, c2, c3, c4] := by
 obtain ⟨l⟩ := cs
 match l, h with
 | [c0, c1, c2, c3, c4], _ => exact ⟨c0, c1, c2, c3, c4, rfl⟩
set_option maxRecDepth 100000 in
theorem open_font {v : Value} {d : DataW H} {p : List MemPlace} (hv : Value.okWide Tryz.prog w r b0 29 v) (h : DataW.Trod enc Tryz.prog w base spare held 29 v d p) :
 ∃ (nm : List UInt8) (ht gap sp : Int) (L : Option Addr) (c : Nat) (ls : List Ltr), v = .agg #[.string ⟨nm.toArray⟩, .int .i64 ht, .int .i64 gap, .int .i64 sp, .slice L ls.length c] ∧ LtrsAt w L ls ∧ nm.length ≤ 9223372036854775807 ∧ ls.length ≤ 9223372036854775807 ∧ ls.length ≤ c := by
 obtain ⟨cs, rfl, hsz⟩ := okWide_struct Tryz.underlying29 hv
 obtain ⟨c0, c1, c2, c3, c4, rfl⟩ := array5 (hsz.trans cells_font)
 obtain ⟨fuel, hf⟩ := h
 obtain ⟨xs, n, _, _, _, hlen, hfs⟩ := DataW.trod_struct Tryz.underlying29 hf
 match xs, hlen with
 | [y0, y1, y2, y3, y4], _ =>
  have h0 := hfs 0 _ rfl
  have h1 := hfs 1 _ rfl
  have h2 := hfs 2 _ rfl
  have h3 := hfs 3 _ rfl
  have h4 := hfs 4 _ rfl
  simp only [Value.cells, List.getElem?_cons_zero, List.getElem?_cons_succ] at h0 h1 h2 h3 h4
  obtain ⟨s, e0, _, w0⟩ := DataW.trod_string Tryz.underlying9 h0
  obtain ⟨a, e1, _, _⟩ := DataW.trod_int Tryz.underlying3 h1
  obtain ⟨b, e2, _, _⟩ := DataW.trod_int Tryz.underlying3 h2
  obtain ⟨c, e3, _, _⟩ := DataW.trod_int Tryz.underlying3 h3
  obtain ⟨A, m, cc, rfl⟩ := slice_of_trod Tryz.underlying27 h4
  obtain ⟨t, rfl⟩ := string_mk s
  simp [cells_str, cells_int] at e0 e1 e2 e3
  subst e0 e1 e2 e3
  obtain ⟨ls, rfl, hL, hn, hc⟩ := rd_letters h4
  exact ⟨t, a, b, c, A, cc, ls, rfl, hL, by rw [Lib.size_mk] at w0; exact w0, hn, hc⟩
end

end Go.Proofs.YthobmednnocklaaGreatDoor
