/- Rows that a call owns, and rows that lie: cells that are set, rows that grow. -/
import Derived.Test.YtjelhdpcaileiaaDoorS10
import Derived.Test.YtjelhdpcaileiaaDoorS2
import Derived.Test.YtjelhdpcaileiaaDoorS11
import Derived.Test.YtjelhdpcaileiaaDoorS7

namespace Go.Proofs.YtjelhdpcaileiaaDoor
open Go.RowKit

/-- All that an error is told by. -/
def Ltr.key (l : Ltr) : List UInt8 × Int × Int × Int × Nat × List Bool := (l.text, pageErr l.W l.H l.m, if pageErr l.W l.H l.m = 0 then (l.W, l.H, l.m, l.bs) else (0, 0, 0, []))
theorem key_of_face {a b : Ltr} (h : a.face = b.face) : a.key = b.key := by
  obtain ⟨t, W, H, A, m, c, bs⟩ := a
  obtain ⟨t', W', H', A', m', c', bs'⟩ := b
  simp only [Ltr.face, Prod.mk.injEq] at h
  obtain ⟨rfl, rfl, rfl, rfl, rfl⟩ := h
  rfl
theorem key_text {a b : Ltr} (h : a.key = b.key) : a.text = b.text := congrArg Prod.fst h
theorem key_err {a b : Ltr} (h : a.key = b.key) : pageErr a.W a.H a.m = pageErr b.W b.H b.m := congrArg (fun x => x.2.1) h
theorem face_of_key {a b : Ltr} (h : a.key = b.key) (h0 : pageErr a.W a.H a.m = 0) : a.face = b.face := by
  have ht := key_text h
  have he := key_err h
  have hr : (if pageErr a.W a.H a.m = 0 then (a.W, a.H, a.m, a.bs) else (0, 0, 0, [])) = (if pageErr b.W b.H b.m = 0 then (b.W, b.H, b.m, b.bs) else (0, 0, 0, [])) := congrArg (fun x => x.2.2) h
  rw [← he, if_pos h0, if_pos h0] at hr
  unfold Ltr.face
  rw [ht, hr]
theorem ltrErr_key {ht : Int} {prev : List (List UInt8)} {a b : Ltr} (h : a.key = b.key) : ltrErr ht prev a = ltrErr ht prev b := by
  by_cases h0 : pageErr a.W a.H a.m = 0
  · have hf := face_of_key h h0
    obtain ⟨t, W, H, A, m, c, bs⟩ := a
    obtain ⟨t', W', H', A', m', c', bs'⟩ := b
    simp only [Ltr.face, Prod.mk.injEq] at hf
    obtain ⟨rfl, rfl, rfl, rfl, rfl⟩ := hf
    rfl
  · have ht := key_text h
    have he := key_err h
    unfold ltrErr
    rw [← ht, ← he]
    show (if _ = 0 then (if _ = 0 then (if _ = 0 then _ else _) else _) else _) = (if _ = 0 then (if _ = 0 then (if _ = 0 then _ else _) else _) else _)
    rw [if_neg h0, if_neg h0]
theorem ltrsErr_key {ht : Int} {a b : List Ltr} : ∀ {prev : List (List UInt8)}, a.map Ltr.key = b.map Ltr.key → ltrsErr ht prev a = ltrsErr ht prev b := by
  induction a generalizing b with
  | nil =>
    intro prev h
    cases b with
    | nil => rfl
    | cons y b => simp at h
  | cons x a ih =>
    intro prev h
    cases b with
    | nil => simp at h
    | cons y b =>
      rw [List.map_cons, List.map_cons, List.cons.injEq] at h
      show (if ltrErr ht prev x = 0 then ltrsErr ht (prev ++ [x.text]) a else ltrErr ht prev x) = (if ltrErr ht prev y = 0 then ltrsErr ht (prev ++ [y.text]) b else ltrErr ht prev y)
      rw [ltrErr_key h.1, key_text h.1, ih h.2]
theorem fontErr_key {nm : Bool} {ht gap sp : Int} {a b : List Ltr} (h : a.map Ltr.key = b.map Ltr.key) : fontErr nm ht gap sp a = fontErr nm ht gap sp b := by
  have hl : a.length = b.length := by have := congrArg List.length h; simpa using this
  unfold fontErr
  rw [hl, ltrsErr_key h]
/-- Where the error is 0, letters that are told alike have the same face. -/
theorem face_of_keys {a b : List Ltr} (h : a.map Ltr.key = b.map Ltr.key) (hz : ∀ l ∈ a, pageErr l.W l.H l.m = 0) : a.map Ltr.face = b.map Ltr.face := by
  induction a generalizing b with
  | nil =>
    cases b with
    | nil => rfl
    | cons y b => simp at h
  | cons x a ih =>
    cases b with
    | nil => simp at h
    | cons y b =>
      rw [List.map_cons, List.map_cons, List.cons.injEq] at h
      rw [List.map_cons, List.map_cons, face_of_key h.1 (hz x (List.mem_cons_self ..)), ih h.2 (fun l hl => hz l (List.mem_cons_of_mem _ hl))]

end Go.Proofs.YtjelhdpcaileiaaDoor


/-! The plain law of Learn: what is said of its answer tells it but for where things lie. -/
namespace Go.Proofs.YtjelhdpcaileiaaDoor
open Go.RowKit

abbrev Key := List UInt8 × Int × Int × Int × Nat × List Bool
/-- The width of the first sample. -/
def wide0 (ps : List Pg) : Int := (ps.head?.map Pg.W).getD 0
def votes (ps : List Pg) (W0 ht : Nat) : List Bool := grid W0 ht (voteF ps W0)
/-- How the new letter is told. -/
def NewKey (t : List UInt8) (ps : List Pg) (W0 ht : Nat) (k : Key) : Prop :=
  (NoEnds (colN (votes ps W0 ht) W0 ht) W0 ∧ k = (t, 3, 0, 0, 0, [])) ∨
  ∃ x r : Nat, Ends (colN (votes ps W0 ht) W0 ht) W0 x r ∧ k = (t, 0, ((r - x + 1 : Nat) : Int), (ht : Int), (r - x + 1) * ht, grid (r - x + 1) ht (cutF (votes ps W0 ht) W0 x 0))
theorem NewKey.same {t : List UInt8} {ps : List Pg} {W0 ht : Nat} {k k' : Key} (h : NewKey t ps W0 ht k) (h' : NewKey t ps W0 ht k') : k = k' := by
  rcases h with ⟨h1, rfl⟩ | ⟨x, r, h1, rfl⟩ <;> rcases h' with ⟨h2, rfl⟩ | ⟨x', r', h2, rfl⟩
  · rfl
  · exact (h2.not h1).elim
  · exact (h1.not h2).elim
  · obtain ⟨rfl, rfl⟩ := h1.same h2
    rfl
/-- In place of the first letter of that text, or behind all. -/
def Placed (ls : List Ltr) (t : List UInt8) (k : Key) (ks : List Key) : Prop := ∃ i : Int, FirstIs ls (fun y => decide (y.text = t)) i ∧ ks = if 0 ≤ i then (ls.map Ltr.key).set i.toNat k else ls.map Ltr.key ++ [k]
theorem Placed.same {ls : List Ltr} {t : List UInt8} {k : Key} {ks ks' : List Key} (h : Placed ls t k ks) (h' : Placed ls t k ks') : ks = ks' := by
  obtain ⟨i, hi, rfl⟩ := h
  obtain ⟨j, hj, rfl⟩ := h'
  have := FirstIs.unique rfl hi hj
  subst this
  rfl
def fontZero (nm : List UInt8) (ht gap sp : Int) (R : Option Addr) (m : Nat) : Prop := nm = [] ∧ ht = 0 ∧ gap = 0 ∧ sp = 0 ∧ R = none ∧ m = 0
def LearnRes (w : World) (nm : List UInt8) (ht gap sp : Int) (ls : List Ltr) (t : List UInt8) (ps : List Pg) (nm' : List UInt8) (ht' gap' sp' : Int) (R : Option Addr) (m : Nat) (err : Int) : Prop :=
  (learnErr (fontErr (nameB nm) ht gap sp ls) t ps.length (smpsErr ht (wide0 ps) ps) ≠ 0 → err = learnErr (fontErr (nameB nm) ht gap sp ls) t ps.length (smpsErr ht (wide0 ps) ps) ∧ fontZero nm' ht' gap' sp' R m) ∧
  (learnErr (fontErr (nameB nm) ht gap sp ls) t ps.length (smpsErr ht (wide0 ps) ps) = 0 → ∃ ls' k, NewKey t ps (wide0 ps).toNat ht.toNat k ∧ Placed ls t k (ls'.map Ltr.key) ∧ err = fontErr (nameB nm) ht gap sp ls' ∧
    (err = 0 → (nm' = nm ∧ ht' = ht ∧ gap' = gap ∧ sp' = sp ∧ m = ls'.length) ∧ LtrsAt w R ls') ∧ (err ≠ 0 → fontZero nm' ht' gap' sp' R m))
theorem LearnRes.same {w1 w2 : World} {nm : List UInt8} {ht gap sp : Int} {ls : List Ltr} {t : List UInt8} {ps : List Pg} {nm1 nm2 : List UInt8} {h1 g1 s1 h2 g2 s2 : Int} {R1 R2 : Option Addr} {m1 m2 : Nat} {e1 e2 : Int}
    (h : LearnRes w1 nm ht gap sp ls t ps nm1 h1 g1 s1 R1 m1 e1) (k : LearnRes w2 nm ht gap sp ls t ps nm2 h2 g2 s2 R2 m2 e2) :
    e1 = e2 ∧ nm1 = nm2 ∧ h1 = h2 ∧ g1 = g2 ∧ s1 = s2 ∧ ∃ l1 l2 : List Ltr, m1 = l1.length ∧ m2 = l2.length ∧ l1.map Ltr.face = l2.map Ltr.face ∧ LtrsAt w1 R1 l1 ∧ LtrsAt w2 R2 l2 ∧ l1.length ≤ 200 ∧ ∀ l ∈ l1, l.m ≤ 1099511627776 := by
  by_cases hz : learnErr (fontErr (nameB nm) ht gap sp ls) t ps.length (smpsErr ht (wide0 ps) ps) = 0
  · obtain ⟨l1, k1, a1, b1, c1, d1, z1⟩ := h.2 hz
    obtain ⟨l2, k2, a2, b2, c2, d2, z2⟩ := k.2 hz
    obtain rfl := a1.same a2
    have hk := b1.same b2
    have he : e1 = e2 := by rw [c1, c2, fontErr_key hk]
    subst he
    by_cases h0 : e1 = 0
    · obtain ⟨⟨rfl, rfl, rfl, rfl, rfl⟩, y1⟩ := d1 h0
      obtain ⟨⟨rfl, rfl, rfl, rfl, rfl⟩, y2⟩ := d2 h0
      have hf := fontErr_zero (c1.symm.trans h0)
      refine ⟨rfl, rfl, rfl, rfl, rfl, l1, l2, rfl, rfl, face_of_keys hk (fun l hl => (hf.2 l hl).2.1), y1, y2, hf.1.2.2.2.2.1, fun l hl => ?_⟩
      obtain ⟨W, H, -, -, e, -, -, hb⟩ := page_nat (hf.2 l hl).2.1
      omega
    · obtain ⟨rfl, rfl, rfl, rfl, rfl, rfl⟩ := z1 h0
      obtain ⟨rfl, rfl, rfl, rfl, rfl, rfl⟩ := z2 h0
      exact ⟨rfl, rfl, rfl, rfl, rfl, [], [], rfl, rfl, rfl, LtrsAt.none _, LtrsAt.none _, by simp, fun l h => by cases h⟩
  · obtain ⟨rfl, rfl, rfl, rfl, rfl, rfl, rfl⟩ := h.1 hz
    obtain ⟨rfl, rfl, rfl, rfl, rfl, rfl, rfl⟩ := k.1 hz
    exact ⟨rfl, rfl, rfl, rfl, rfl, [], [], rfl, rfl, rfl, LtrsAt.none _, LtrsAt.none _, by simp, fun l h => by cases h⟩
/-- Where nothing is wrong yet. -/
theorem learnErr_zero {fe : Int} {t : List UInt8} {n : Nat} {se : Int} (h : learnErr fe t n se = 0) : fe = 0 ∧ textB t = true ∧ 1 ≤ n ∧ n ≤ 100 ∧ se = 0 := by
  have hz := firstNZ_zero h
  have k1 := hz fe (by simp)
  have k2 := whenI_zero (hz (whenI (!textB t) 2) (by simp)) (by decide)
  have k3 := of_decide_eq_false (whenI_zero (hz (whenI (decide (n = 0)) 9) (by simp)) (by decide))
  have k4 := of_decide_eq_false (whenI_zero (hz (whenI (decide (100 < n)) 4) (by simp)) (by decide))
  have k5 := hz se (by simp)
  exact ⟨k1, by simpa using k2, by omega, by omega, k5⟩

end Go.Proofs.YtjelhdpcaileiaaDoor


/-! slices.Clone of letters; a letter put in the place of another. -/
namespace Go.Proofs.YtjelhdpcaileiaaDoor
open Go.RowKit

theorem info_ltr : (Tryd.prog.info? 93).map (fun i => (i.zero, i.size, i.bytes)) = some (some (.agg #[.string ⟨#[]⟩, .int .i64 0, .int .i64 0, .slice none 0 0]), 4, 56) := by kernel_rfl
theorem Ltr.oneCell (l : Ltr) : ∀ u ∈ l.cells, u.oneCell' = true := by
  intro u hu
  unfold Ltr.cells at hu
  simp only [List.mem_cons, List.not_mem_nil, or_false] at hu
  rcases hu with rfl | rfl | rfl | rfl <;> rfl
theorem ltrCells_one (ls : List Ltr) : ∀ u ∈ ltrCells ls, u.oneCell' = true := by
  intro u hu
  unfold ltrCells at hu
  obtain ⟨l, _, h⟩ := List.mem_flatMap.1 hu
  exact l.oneCell u h
set_option maxRecDepth 100000 in
set_option maxHeartbeats 1000000 in
theorem cloneL_any (L : Option Addr) (c : Nat) (ls : List Ltr) (w : World) (hL : LtrsAt w L ls) (hn : ls.length ≤ 1000) :
    Calls Tryd.prog 91 #[.slice L ls.length c] w fun e w' => ∃ v, e = .returned v ∧ w'.ownsRow w.heap.size 93 4 v ls.length (ltrCells ls) ∧ Bl w w' := by
  rcases L with _ | ad
  · have h0 : ls = [] := by
      cases ls with
      | nil => rfl
      | cons l ls => obtain ⟨ad, e, _⟩ := hL.1.2 (by simp); cases e
    subst h0
    have q22 := fun w => Lib.run_eql_slice_nil (P := Tryd.prog) w 22 _ none 0 c 0 0 Tryd.underlying22
    go_enter Tryd.func91, Tryd.ntmps91
    go_wp2_with fail
    go_ret
    exact ⟨_, rfl, World.ownsRow_nil _ _ _ _, Bl.refl _⟩
  · have HA := Lib.hid hL.1
    have H1 := Lib.hid (ltrCells_one ls)
    clear hL
    have q22 := fun w => Lib.run_eql_slice_nil (P := Tryd.prog) w 22 _ (some ad) ls.length c 0 0 Tryd.underlying22
    go_enter Tryd.func91, Tryd.ntmps91
    go_wp2_with (at_builtin; refine wpList_append_bl rfl (.tmp 5) (.tmp 6) 22 rfl 93 (.agg #[.string ⟨#[]⟩, .int .i64 0, .int .i64 0, .slice none 0 0]) 4 56 Tryd.underlying22 info_ltr rfl (by omega) w.heap.size _ 0 [] rfl ?hb (Nat.le_refl _) ?hB ?hown _ ls.length c _ rfl ?hr H1.out ?c1 ?c2 ?_)
    case hb => exact (Bl.refl _).alloc _
    case hB => simp
    case hown => exact ⟨rfl, Or.inr ⟨w.heap.size, 0, #[], rfl, Nat.le_refl _, MapKept.heap_alloc w _ |>.1, Nat.le_refl _, Nat.zero_le _, rfl, rfl⟩⟩
    case hr => exact HA.out.bl ((Bl.refl _).alloc _)
    case c1 => unfold maxLen; omega
    case c2 => omega
    intro v' w' hown hb' _
    go_wp2_with fail
    go_ret
    exact ⟨_, rfl, by simpa using hown, hb'⟩

/-! ### a cell of an owned row is set -/
theorem set_mid {α : Type} (a : List α) (x y : α) (b : List α) (i : Nat) (h : i = a.length) : (a ++ x :: b).set i y = a ++ y :: b := by
  subst h
  rw [List.set_append_right _ _ (Nat.le_refl _), Nat.sub_self]
  rfl
theorem ltrCells_set {ls : List Ltr} {k : Nat} {l0 : Ltr} (l : Ltr) (hk : ls[k]? = some l0) :
    ((((ltrCells ls).set (k * 4) (.string ⟨l.text.toArray⟩)).set (k * 4 + 1) (.int .i64 l.W)).set (k * 4 + 2) (.int .i64 l.H)).set (k * 4 + 3) (.slice l.A l.m l.c) = ltrCells (ls.set k l) := by
  have hlt : k < ls.length := (List.getElem?_eq_some_iff.1 hk).1
  have e : ls = ls.take k ++ l0 :: ls.drop (k + 1) := by
    have h2 : ls.drop k = l0 :: ls.drop (k + 1) := by
      rw [List.drop_eq_getElem_cons hlt]
      congr 1
      exact (List.getElem?_eq_some_iff.1 hk).2
    rw [← h2, List.take_append_drop]
  have hl : (ls.take k).length = k := by simp; omega
  have e2 : ls.set k l = ls.take k ++ l :: ls.drop (k + 1) := by
    conv => lhs; rw [e]
    exact set_mid _ _ _ _ _ hl.symm
  rw [e2]
  conv => lhs; rw [e]
  obtain ⟨a, ha⟩ : ∃ a, a = ls.take k := ⟨_, rfl⟩
  obtain ⟨b, hb⟩ : ∃ b, b = ls.drop (k + 1) := ⟨_, rfl⟩
  rw [← ha] at hl ⊢
  rw [← hb]
  have hca : (ltrCells a).length = k * 4 := by rw [ltrCells_len, hl]
  rw [ltrCells_append, ltrCells_append]
  show ((((ltrCells a ++ (.string ⟨l0.text.toArray⟩ :: .int .i64 l0.W :: .int .i64 l0.H :: .slice l0.A l0.m l0.c :: ltrCells b)).set (k * 4) (.string ⟨l.text.toArray⟩)).set (k * 4 + 1) (.int .i64 l.W)).set (k * 4 + 2) (.int .i64 l.H)).set (k * 4 + 3) (.slice l.A l.m l.c) =
    ltrCells a ++ (.string ⟨l.text.toArray⟩ :: .int .i64 l.W :: .int .i64 l.H :: .slice l.A l.m l.c :: ltrCells b)
  rw [set_mid _ _ _ _ _ hca.symm]
  rw [List.append_cons (ltrCells a), set_mid _ _ _ _ _ (by simp [hca])]
  rw [List.append_cons (ltrCells a ++ [_]), set_mid _ _ _ _ _ (by simp [hca])]
  rw [List.append_cons (ltrCells a ++ [_] ++ [_]), set_mid _ _ _ _ _ (by simp [hca])]
  simp
/-- A letter whole. -/
theorem own_letter {w : World} {base g cap : Nat} {e : TypeId} {ls : List Ltr} {k : Nat} {l0 : Ltr} (l : Ltr) (h : w.ownsRow base e 4 (.slice (some ⟨g, 0, none⟩) ls.length cap) ls.length (ltrCells ls)) (hk : ls[k]? = some l0) :
    ((((w.setCell ⟨g, k * 4, none⟩ (.string ⟨l.text.toArray⟩)).setCell ⟨g, k * 4 + 1, none⟩ (.int .i64 l.W)).setCell ⟨g, k * 4 + 2, none⟩ (.int .i64 l.H)).setCell ⟨g, k * 4 + 3, none⟩ (.slice l.A l.m l.c)).ownsRow base e 4 (.slice (some ⟨g, 0, none⟩) ls.length cap) ls.length (ltrCells (ls.set k l)) := by
  rw [← ltrCells_set l hk]
  exact ownsRow_set (ownsRow_set (ownsRow_set (ownsRow_set h _ _) _ _) _ _) _ _
/-- A letter but its text. -/
theorem own_bits {w : World} {base g cap : Nat} {e : TypeId} {ls : List Ltr} {k : Nat} {l0 : Ltr} (l : Ltr) (h : w.ownsRow base e 4 (.slice (some ⟨g, 0, none⟩) ls.length cap) ls.length (ltrCells ls)) (hk : ls[k]? = some l0) (ht : l.text = l0.text) :
    (((w.setCell ⟨g, k * 4 + 1, none⟩ (.int .i64 l.W)).setCell ⟨g, k * 4 + 2, none⟩ (.int .i64 l.H)).setCell ⟨g, k * 4 + 3, none⟩ (.slice l.A l.m l.c)).ownsRow base e 4 (.slice (some ⟨g, 0, none⟩) ls.length cap) ls.length (ltrCells (ls.set k l)) := by
  rw [← ltrCells_set l hk]
  have e0 : (ltrCells ls).set (k * 4) (.string ⟨l.text.toArray⟩) = ltrCells ls := by
    have h0 : (ltrCells ls)[k * 4]? = some (.string ⟨l.text.toArray⟩) := by
      have := ltrCells_at hk 0 (by omega)
      rw [Nat.add_zero] at this
      rw [this, ht]
      rfl
    obtain ⟨h1, h2⟩ := List.getElem?_eq_some_iff.1 h0
    rw [← h2]
    exact List.set_getElem_self h1
  rw [e0]
  exact ownsRow_set (ownsRow_set (ownsRow_set h _ _) _ _) _ _
theorem LtrsAt.of_own {w : World} {base : Nat} {e : TypeId} {v : Value} {ls : List Ltr} (h : w.ownsRow base e 4 v ls.length (ltrCells ls)) (hl : ∀ l ∈ ls, Reads w 1 l.A l.m (l.bs.map .bool) ∧ l.text.length ≤ 9223372036854775807) : ∃ R c, v = .slice R ls.length c ∧ LtrsAt w R ls := by
  obtain ⟨R, c, rfl, hr⟩ := own_reads h
  exact ⟨R, c, rfl, hr, hl⟩

end Go.Proofs.YtjelhdpcaileiaaDoor


/-! Rows that a call owns, and rows that lie: cells that are set, rows that grow. -/
namespace Go.Proofs.YtjelhdpcaileiaaDoor
open Go.RowKit

def Ltr.zero : Ltr := ⟨[], 0, 0, none, 0, 0, []⟩
end Go.Proofs.YtjelhdpcaileiaaDoor
