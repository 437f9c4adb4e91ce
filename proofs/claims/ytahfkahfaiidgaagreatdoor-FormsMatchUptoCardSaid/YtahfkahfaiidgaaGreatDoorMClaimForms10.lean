/- From a statement's row to a walk: arguments that read as data are opened; a law that answers true and turns nothing has its row. No condition. -/
import Derived.Test.YtahfkahfaiidgaaGreatDoorMClaimForms0
import Derived.ProofKit
import Derived.OpenShut
import Derived.Lib.SmallJoins

namespace Go.Proofs.YtahfkahfaiidgaaGreatDoor
open Go.ChangeShapes Go.WideShapes Go.ChangeAt Go.RowKit Go.Joins

theorem Tryz.own : ownKnob Tryz.prog.godebug = none := by kernel_rfl
theorem Tryz.laidOut : laidOutB Tryz.prog = true := by kernel_rfl

section
variable {H : Type} {enc : TypeId × Value → H} {P : Program} {w : World} {base : Nat} {spare : Nat → Bool} {held : Bool}

/-- A slice of bools. -/
theorem rd_bools {t e : TypeId} {fuel : Nat} {a0 : Option Addr} {len cap : Nat} {x : DataW H × List MemPlace} (ht : P.underlying t = some (.slice e)) (he : P.underlying e = some .bool) (hc : P.cellsOf e = 1)
    (h : DataW.trod enc P w base spare held fuel t [.slice a0 len cap] = some x) :
    ∃ bs : List Bool, bs.length = len ∧ Reads w 1 a0 len (bs.map .bool) ∧ len ≤ maxLen := by
  rcases DataW.trod_slice ht h with ⟨hcs, _⟩ | ⟨a, len', cap', elems, rest, n, _, hcs, _, _, hl, hm, hlen, hel, _⟩
  · simp at hcs
    obtain ⟨rfl, rfl, rfl⟩ := hcs
    exact ⟨[], rfl, Reads.none_, by unfold maxLen; omega⟩
  · simp at hcs
    obtain ⟨rfl, rfl, rfl⟩ := hcs
    have each : ∀ i, i < len → ∃ b : Bool, w.cell? (a.add i) = some (.bool b) := by
      intro i hi
      have h1 := hel i hi
      rw [List.getElem?_eq_getElem (by omega)] at h1
      obtain ⟨cs, hcs, htr⟩ := Option.bind_eq_some_iff.1 h1
      obtain ⟨b, rfl, _⟩ := DataW.trod_bool he htr
      rw [hc] at hcs
      simp only [World.cells?, Nat.mul_one] at hcs
      split at hcs
      · simp [List.range_succ] at hcs
        refine ⟨b, ?_⟩
        cases hq : w.cell? ((a.add i).add 0) with
        | none => simp [hq] at hcs
        | some v =>
          simp [hq] at hcs
          rw [add_of_add, Nat.add_zero] at hq
          rw [hq, hcs]
      · cases hcs
    have build : ∀ m, m ≤ len → ∃ bs : List Bool, bs.length = m ∧ ∀ i, i < m → w.cell? (a.add i) = some (.bool (bs.getD i false)) := by
      intro m
      induction m with
      | zero => exact fun _ => ⟨[], rfl, fun i hi => absurd hi (by omega)⟩
      | succ m ih =>
        intro hm'
        obtain ⟨bs, hb, hbs⟩ := ih (by omega)
        obtain ⟨b, hb'⟩ := each m (by omega)
        refine ⟨bs ++ [b], by simp [hb], fun i hi => ?_⟩
        rcases Nat.lt_or_ge i m with h' | h'
        · rw [hbs i h']; simp [List.getD, List.getElem?_append_left (show i < bs.length by omega)]
        · obtain rfl : i = m := by omega
          rw [hb']; simp [List.getD, ← hb]
    obtain ⟨bs, hb, hbs⟩ := build len (Nat.le_refl _)
    refine ⟨bs, hb, ⟨by simp [hb], fun _ => ⟨a, rfl, fun j u hu => ?_⟩⟩, by omega⟩
    have hj : j < bs.length := by
      have := (List.getElem?_eq_some_iff.1 hu).1
      simpa using this
    rw [hbs j (by omega)]
    simp only [List.getElem?_map, List.getElem?_eq_getElem hj, Option.map_some] at hu
    simpa [List.getD, hj] using hu
end

section
variable {H : Type} {enc : TypeId × Value → H} {P : Program} {w : World} {base : Nat} {spare : Nat → Bool} {held : Bool}
theorem slice_of_trod {t e : TypeId} {fuel : Nat} {v : Value} {x : DataW H × List MemPlace} (ht : P.underlying t = some (.slice e)) (h : DataW.trod enc P w base spare held fuel t [v] = some x) : ∃ a n c, v = .slice a n c := by
  rcases DataW.trod_slice ht h with ⟨hcs, _⟩ | ⟨a, len', cap', elems, rest, n, _, hcs, _⟩
  · exact ⟨none, 0, 0, by simpa using hcs⟩
  · exact ⟨some a, len', cap', by simpa using hcs⟩
theorem i64_of_wf {n : Int} (h : (Lit.int .i64 n).wf = true) : -9223372036854775808 ≤ n ∧ n ≤ 9223372036854775807 := by
  simp [Lit.wf, IntKind.min, IntKind.max, IntKind.signed, IntKind.bits] at h
  omega
end

/-! ### pages -/
section
variable {H : Type} {enc : TypeId × Value → H} {w : World} {base b0 : Nat} {spare : Nat → Bool} {held : Bool} {r : Reach}
set_option maxRecDepth 100000 in
theorem open_bits {v : Value} {d : DataW H} {p : List MemPlace} (hv : Value.okWide Tryz.prog w r b0 42 v) (h : DataW.Trod enc Tryz.prog w base spare held 42 v d p) :
    ∃ (W Ht : Int) (A : Option Addr) (n c : Nat) (bs : List Bool), v = .agg #[.int .i64 W, .int .i64 Ht, .slice A n c] ∧ bs.length = n ∧ Reads w 1 A n (bs.map .bool) ∧ n ≤ maxLen ∧
      (-9223372036854775808 ≤ W ∧ W ≤ 9223372036854775807) ∧ (-9223372036854775808 ≤ Ht ∧ Ht ≤ 9223372036854775807) := by
  obtain ⟨v0, v1, v2, y0, y1, y2, k, rfl, _, _, h0, h1, h2⟩ := open_agg3 Tryz.underlying42 (by kernel_rfl) (by kernel_rfl) hv h
  obtain ⟨W, e0, _, w0⟩ := DataW.trod_int Tryz.underlying3 h0
  obtain ⟨Ht, e1, _, w1⟩ := DataW.trod_int Tryz.underlying3 h1
  obtain ⟨A, n, c, rfl⟩ := slice_of_trod Tryz.underlying40 h2
  simp at e0 e1
  subst e0 e1
  obtain ⟨bs, hz, hr, hm⟩ := rd_bools Tryz.underlying40 Tryz.underlying4 (by kernel_rfl) h2
  exact ⟨W, Ht, A, n, c, bs, rfl, hz, hr, hm, i64_of_wf w0, i64_of_wf w1⟩
end

section
variable {H : Type} {enc : TypeId × Value → H} {P : Program}

/-- What was there when the call began reads as it did. -/
theorem trodAll_bl {W W' : World} (hl : laidOutB P = true) (hb : Bl W W') : ∀ (ts : List TypeId) (vs : List Value) (ds : List (DataW H)) (ps : List MemPlace),
    (∀ t ∈ ts, P.readableRec t = true ∧ t < P.types.size) → (∀ x ∈ ps, x.block < W.heap.size) →
    DataW.TrodAll enc P W 0 (fun _ => true) true ts vs ds ps → DataW.TrodAll enc P W' 0 (fun b => decide (b < W.heap.size)) true ts vs ds ps
  | [], [], [], ps, _, _, h => h
  | t :: ts, v :: vs, d :: ds, ps, hr, hlt, h => by
    obtain ⟨p, q, h1, h2, rfl⟩ := h
    have ht := hr t (by simp)
    exact ⟨p, q, Below.trod hl ht.1 ht.2 h1 hb (fun x hx => hlt x (by simp [hx])), trodAll_bl hl hb ts vs ds q (fun t h => hr t (by simp [h])) (fun x hx => hlt x (by simp [hx])) h2, rfl⟩
  | [], _ :: _, _, _, _, _, h => h.elim
  | [], [], _ :: _, _, _, _, h => h.elim
  | _ :: _, [], _, _, _, _, h => h.elim
  | _ :: _, _ :: _, [], _, _, _, h => h.elim

/-- THE ROW's END: the law has answered true, and nothing that was there has turned. -/
theorem law_post {f : Func} {s : ChangeSpec} {W W' : World} {args : Array Value} {ds gs : List (DataW H)} {before : List MemPlace} {tb : TypeId} (hl : laidOutB P = true) (htb : P.underlying tb = some .bool)
    (hres : f.resultTypes = #[tb]) (hvars : s.vars = []) (hall : ∀ t ∈ f.params.toList, P.readableRec t = true ∧ t < P.types.size)
    (hW' : DataW.Whole enc P f.params.toList s.vars false W args.toList ds gs before)
    (hr : (s.fn H (ds ++ gs)).results = [.lit (.bool true)]) (ha : (s.fn H (ds ++ gs)).args = ds) (hv : (s.fn H (ds ++ gs)).vars = []) (hb : Bl W W') :
    s.post enc P f false true false false W args (.bool true) W' := by
  obtain ⟨p, q, hA, hV, rfl, _, _⟩ := id hW'
  have hlt : ∀ x ∈ p, x.block < W.heap.size := fun x hx => hW'.lt x (by simp [hx])
  refine ⟨ds, gs, p ++ q, [], p, [], hW', ?_, ?_, ?_, Below.frame hb _, fun h => by cases h⟩
  · rw [hr, hres]
    exact trodAll_mk1 (shut_bool htb true)
  · rw [ha]
    exact trodAll_bl hl hb _ _ _ _ hall hlt hA
  · rw [hv, hvars]
    exact rfl
end

end Go.Proofs.YtahfkahfaiidgaaGreatDoor
