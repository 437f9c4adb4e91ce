/- bedref2.LinesOf of what is right. -/
import Derived.Test.YtkhajhcfplicpaaDoorS66
import Derived.Test.YtkhajhcfplicpaaDoorS17
import Derived.Test.YtkhajhcfplicpaaDoorS60

namespace Go.Proofs.YtkhajhcfplicpaaDoor
open Go.RowKit Go.Shelf

def TestsS (P : Program) (k : FuncId) (cap : Array Value) (w : World) (ls : List (List UInt8)) (p : List UInt8 → Bool) : Prop :=
  (∀ args w, (callFunc k args).run P w = .ok (.enter k args) w) ∧ ∀ wx l, Bl w wx → l ∈ ls → Calls P k (#[strOf l] ++ cap) wx fun e w' => e = .returned (.bool (p l)) ∧ Bl wx w'
theorem TestsS.bl {P : Program} {k : FuncId} {cap : Array Value} {w w' : World} {ls : List (List UInt8)} {p : List UInt8 → Bool} (h : TestsS P k cap w ls p) (hb : Bl w w') : TestsS P k cap w' ls p := ⟨h.1, fun wx l hx hl => h.2 wx l (hb.trans hx) hl⟩

set_option maxRecDepth 100000 in
set_option maxHeartbeats 1000000 in
theorem strIndex_any (L : Option Addr) (c : Nat) (ls : List (List UInt8)) (k : FuncId) (cap : Array Value) (p : List UInt8 → Bool) (w : World) (hL : Reads w 1 L ls.length (strCells' ls)) (hk : TestsS Tryd.prog k cap w ls p) (hn : ls.length ≤ 9223372036854775807) :
    Calls Tryd.prog 251 #[.slice L ls.length c, .func (.func k) #[] cap] w fun e w' => ∃ i : Int, e = .returned (.int .i64 i) ∧ (0 ≤ i ↔ ∃ l ∈ ls, p l = true) ∧ Bl w w' := by
  have hent := hk.1
  have HL := Lib.hid hL; have HK := Lib.hid hk
  clear hL hk
  go_enter Tryd.func251, Tryd.ntmps251
  go_wp2_with fail
  go_loopw [8] (fun u wr => ∃ i : Nat, i ≤ ls.length ∧ u = .int .i64 i ∧ Bl w wr ∧ ∀ j l, j < i → ls[j]? = some l → p l = false) (fun u _ => ls.length - (RowKit.intOf u).toNat)
  case atStart => exact ⟨0, Nat.zero_le _, rfl, Bl.refl _, fun j l hj => absurd hj (Nat.not_lt_zero _)⟩
  case round =>
    obtain ⟨i, hi, rfl, hbr, hno⟩ := hrel
    have HNo := Lib.hid hno
    clear hno
    by_cases hlt : i < ls.length
    · have hg : ls[i]? = some ls[i] := List.getElem?_eq_getElem hlt
      obtain ⟨l, hl⟩ : ∃ l, l = ls[i] := ⟨_, rfl⟩
      rw [← hl] at hg
      obtain ⟨ad, rfl, k1⟩ := str_at (HL.out.bl hbr) hg
      have hcall := HK.out.2 wr l hbr (List.mem_of_getElem? hg)
      have Hcall := Lib.hid hcall; have HG := Lib.hid hg; have HBr := Lib.hid hbr
      clear hcall hg hl hbr
      go_wp2_with fail
      refine Hcall.out.mono ?_
      rintro e w1 ⟨rfl, hb1⟩
      have HB1 := Lib.hid (HBr.out.trans hb1)
      clear hb1
      cases hp : p l
      · have HP := Lib.hid hp
        clear hp
        go_wp2_with fail
        exact ⟨⟨i + 1, hlt, by go_num, HB1.out, fun j l' hj hl' => by
          rcases Nat.lt_succ_iff_lt_or_eq.1 hj with h | rfl
          · exact HNo.out j l' h hl'
          · rw [HG.out] at hl'
            obtain rfl := Option.some.inj hl'
            exact HP.out⟩, by simp [RowKit.intOf]; omega⟩
      · have HP := Lib.hid hp
        clear hp
        go_wp2_with fail
        go_ret
        exact ⟨_, rfl, ⟨fun _ => ⟨l, List.mem_of_getElem? HG.out, HP.out⟩, fun _ => Int.natCast_nonneg _⟩, HB1.out⟩
    · obtain rfl : i = ls.length := by omega
      go_wp2_with fail
      go_ret
      exact ⟨_, rfl, ⟨fun h => absurd h (by decide), fun ⟨l, hl, hp⟩ => by
        obtain ⟨j, hj⟩ := List.getElem?_of_mem hl
        rw [HNo.out j l (List.getElem?_eq_some_iff.1 hj).1 hj] at hp
        exact absurd hp (by decide)⟩, hbr⟩
set_option maxHeartbeats 1000000 in
theorem strContains_any (L : Option Addr) (c : Nat) (ls : List (List UInt8)) (k : FuncId) (cap : Array Value) (p : List UInt8 → Bool) (w : World) (hL : Reads w 1 L ls.length (strCells' ls)) (hk : TestsS Tryd.prog k cap w ls p) (hn : ls.length ≤ 9223372036854775807) :
    Calls Tryd.prog 187 #[.slice L ls.length c, .func (.func k) #[] cap] w fun e w' => e = .returned (.bool (decide (∃ l ∈ ls, p l = true))) ∧ Bl w w' := by
  have Hc := Lib.hid (strIndex_any L c ls k cap p w hL hk hn)
  clear hL hk
  go_enter Tryd.func187, Tryd.ntmps187
  go_wp2_with fail
  refine Hc.out.mono ?_
  rintro e w1 ⟨i, rfl, hi, hb⟩
  have Hi := Lib.hid hi
  clear hi
  go_wp2_with fail
  go_ret
  exact ⟨ret_bool (decide_eq_decide.2 Hi.out), hb⟩

theorem setLines1_any (s : List UInt8) (w : World) : Calls Tryd.prog 188 #[.string ⟨s.toArray⟩] w fun e w' => e = .returned (.bool (!s.isEmpty)) ∧ Bl w w' := by
  go_enter Tryd.func188, Tryd.ntmps188
  go_wp2_with fail
  go_ret
  exact ⟨rfl, Bl.refl _⟩
theorem linesError1_any (s : List UInt8) (w : World) : Calls Tryd.prog 190 #[.string ⟨s.toArray⟩] w fun e w' => e = .returned (.bool (!s.isEmpty)) ∧ Bl w w' := by
  go_enter Tryd.func190, Tryd.ntmps190
  go_wp2_with fail
  go_ret
  exact ⟨rfl, Bl.refl _⟩
theorem setLines1_tests (w : World) (ls : List (List UInt8)) : TestsS Tryd.prog 188 #[] w ls fun s => !s.isEmpty :=
  ⟨enters Tryd.func188 (by kernel_rfl) rfl, fun wx l _ _ => setLines1_any l wx⟩
theorem linesError1_tests (w : World) (ls : List (List UInt8)) : TestsS Tryd.prog 190 #[] w ls fun s => !s.isEmpty :=
  ⟨enters Tryd.func190 (by kernel_rfl) rfl, fun wx l _ _ => linesError1_any l wx⟩

end Go.Proofs.YtkhajhcfplicpaaDoor


/-! Plain: the errors and the widest of lines, in the order in which bedref2.LinesError goes. -/
namespace Go.Proofs.YtkhajhcfplicpaaDoor
open Go.RowKit Go.Shelf

def lineStep (ls : List Ltr) (ht gap sp : Nat) (st : Int × Nat) (s : List UInt8) : Int × Nat :=
  if st.1 = 0 ∧ s ≠ [] then (if textErr ls s = 0 then (sizeErr (wideOf ls gap sp s) ht, max st.2 (wideOf ls gap sp s)) else (textErr ls s, st.2)) else st
def linesTo (ls : List Ltr) (ht gap sp : Nat) (e0 : Int) (lines : List (List UInt8)) (i : Nat) : Int × Nat := (lines.take i).foldl (lineStep ls ht gap sp) (e0, 0)
theorem linesTo_zero (ls : List Ltr) (ht gap sp : Nat) (e0 : Int) (lines : List (List UInt8)) : linesTo ls ht gap sp e0 lines 0 = (e0, 0) := rfl
theorem linesTo_succ {ls : List Ltr} {ht gap sp : Nat} {e0 : Int} {lines : List (List UInt8)} {i : Nat} {s : List UInt8} (h : lines[i]? = some s) : linesTo ls ht gap sp e0 lines (i + 1) = lineStep ls ht gap sp (linesTo ls ht gap sp e0 lines i) s := by
  unfold linesTo
  rw [List.take_add_one, h, List.foldl_append]
  rfl
theorem linesTo_bad {ls : List Ltr} {ht gap sp : Nat} {e0 : Int} {lines : List (List UInt8)} (h : e0 ≠ 0) : ∀ i, linesTo ls ht gap sp e0 lines i = (e0, 0)
  | 0 => rfl
  | i + 1 => by
    cases hg : lines[i]? with
    | none =>
      unfold linesTo
      rw [List.take_add_one, hg]
      simpa [linesTo] using linesTo_bad (ls := ls) (ht := ht) (gap := gap) (sp := sp) (lines := lines) h i
    | some s =>
      rw [linesTo_succ hg, linesTo_bad h i]
      unfold lineStep
      rw [if_neg (fun hh => h hh.1)]
def anyLine (lines : List (List UInt8)) : Bool := decide (∃ l ∈ lines, (!l.isEmpty) = true)
/-- What is refused ahead of the lines themselves. -/
def linesErr0 (lines : List (List UInt8)) (lead : Int) : Int := firstNZ [whenI (!inB lead 0 64) 3, whenI (!anyLine lines) 9, whenI (decide (200 < lines.length)) 4]
theorem linesErr0_zero {lines : List (List UInt8)} {lead : Int} (h : linesErr0 lines lead = 0) : (0 ≤ lead ∧ lead ≤ 64) ∧ anyLine lines = true ∧ lines.length ≤ 200 := by
  unfold linesErr0 at h
  cases h1 : inB lead 0 64 <;> cases h2 : anyLine lines <;> by_cases h3 : 200 < lines.length <;> simp [h1, h2, h3, firstNZ, whenI] at h
  exact ⟨inB_true.1 h1, rfl, by omega⟩
theorem linesErr0_of (ls : List Ltr) (ht gap sp : Nat) {e0 : Int} {lines : List (List UInt8)} {i : Nat} (h : (linesTo ls ht gap sp e0 lines i).1 = 0) : e0 = 0 := by
  by_cases he : e0 = 0
  · exact he
  · rw [linesTo_bad he] at h; exact h
/-- bedref2.LinesError. -/
def linesErr (ls : List Ltr) (ht gap sp : Nat) (lines : List (List UInt8)) (lead : Int) : Int :=
  let st := linesTo ls ht gap sp (linesErr0 lines lead) lines lines.length
  if st.1 = 0 then sizeErr (max (st.2 : Int) 1) (lines.length * ht + (lines.length - 1 : Nat) * lead) else st.1

end Go.Proofs.YtkhajhcfplicpaaDoor


/-! Plain: the page of lines that stand one below the other, as glyph.put and as bedref2.PasteOf lay it; how an error of a line stays. -/
namespace Go.Proofs.YtkhajhcfplicpaaDoor
open Go.RowKit Go.Shelf

def wideTo (ls : List Ltr) (gap sp : Nat) (lines : List (List UInt8)) (i : Nat) : Nat := (lines.take i).foldl (fun m s => max m (wideOf ls gap sp s)) 0
theorem wideTo_succ {ls : List Ltr} {gap sp : Nat} {lines : List (List UInt8)} {i : Nat} {s : List UInt8} (h : lines[i]? = some s) : wideTo ls gap sp lines (i + 1) = max (wideTo ls gap sp lines i) (wideOf ls gap sp s) := by
  unfold wideTo
  rw [List.take_add_one, h, List.foldl_append]
  rfl
theorem wideTo_mono {ls : List Ltr} {gap sp : Nat} {lines : List (List UInt8)} (i : Nat) : wideTo ls gap sp lines i ≤ wideTo ls gap sp lines (i + 1) := by
  cases h : lines[i]? with
  | none => unfold wideTo; rw [List.take_add_one, h]; simp
  | some s => rw [wideTo_succ h]; omega
theorem wideTo_le {ls : List Ltr} {gap sp : Nat} {lines : List (List UInt8)} {i : Nat} : ∀ {j : Nat}, i ≤ j → wideTo ls gap sp lines i ≤ wideTo ls gap sp lines j
  | 0, h => by have : i = 0 := by omega
               subst this; exact Nat.le_refl _
  | j + 1, h => by
    by_cases e : i = j + 1
    · rw [e]; exact Nat.le_refl _
    · exact Nat.le_trans (wideTo_le (by omega)) (wideTo_mono j)
theorem wideTo_ge {ls : List Ltr} {gap sp : Nat} {lines : List (List UInt8)} {s : List UInt8} (h : s ∈ lines) : wideOf ls gap sp s ≤ wideTo ls gap sp lines lines.length := by
  obtain ⟨i, hi⟩ := List.getElem?_of_mem h
  have hlt := (List.getElem?_eq_some_iff.1 hi).1
  have h1 := wideTo_le (ls := ls) (gap := gap) (sp := sp) (lines := lines) (show i + 1 ≤ lines.length by omega)
  rw [wideTo_succ hi] at h1
  omega
theorem wideOf_nil (ls : List Ltr) (gap sp : Nat) : wideOf ls gap sp [] = 0 := rfl

/-! ### errors -/
theorem lineStep_stop {ls : List Ltr} {ht gap sp : Nat} {st : Int × Nat} (h : st.1 ≠ 0) (s : List UInt8) : lineStep ls ht gap sp st s = st := by
  unfold lineStep
  rw [if_neg (fun hh => h hh.1)]
theorem lineStep_nil {ls : List Ltr} {ht gap sp : Nat} {st : Int × Nat} : lineStep ls ht gap sp st [] = st := by
  unfold lineStep
  rw [if_neg (fun hh => hh.2 rfl)]
theorem lineStep_set {ls : List Ltr} {ht gap sp : Nat} {st : Int × Nat} {s : List UInt8} (h : st.1 = 0) (hs : s ≠ []) : (lineStep ls ht gap sp st s).1 = setErr ls ht gap sp s := by
  unfold lineStep setErr
  rw [if_pos ⟨h, hs⟩]
  split <;> rfl
theorem linesTo_next {ls : List Ltr} {ht gap sp : Nat} {e0 : Int} {lines : List (List UInt8)} {i : Nat} (h : (linesTo ls ht gap sp e0 lines i).1 ≠ 0) : linesTo ls ht gap sp e0 lines (i + 1) = linesTo ls ht gap sp e0 lines i := by
  cases hg : lines[i]? with
  | none => unfold linesTo; rw [List.take_add_one, hg]; simp
  | some s => rw [linesTo_succ hg, lineStep_stop h]
theorem linesTo_stay {ls : List Ltr} {ht gap sp : Nat} {e0 : Int} {lines : List (List UInt8)} {i : Nat} (h : (linesTo ls ht gap sp e0 lines i).1 ≠ 0) : ∀ k, linesTo ls ht gap sp e0 lines (i + k) = linesTo ls ht gap sp e0 lines i
  | 0 => rfl
  | k + 1 => by
    have ih := linesTo_stay h k
    rw [← Nat.add_assoc, linesTo_next (by rw [ih]; exact h), ih]
theorem linesErr_at {ls : List Ltr} {ht gap sp : Nat} {lines : List (List UInt8)} {lead : Int} {i : Nat} (hi : i ≤ lines.length) (h : (linesTo ls ht gap sp (linesErr0 lines lead) lines i).1 ≠ 0) : linesErr ls ht gap sp lines lead = (linesTo ls ht gap sp (linesErr0 lines lead) lines i).1 := by
  have h1 := linesTo_stay h (lines.length - i)
  rw [show i + (lines.length - i) = lines.length by omega] at h1
  unfold linesErr
  simp only [h1]
  rw [if_neg h]
theorem linesErr_first {ls : List Ltr} {ht gap sp : Nat} {lines : List (List UInt8)} {lead : Int} (h : linesErr0 lines lead ≠ 0) : linesErr ls ht gap sp lines lead = linesErr0 lines lead :=
  linesErr_at (i := 0) (Nat.zero_le _) h
theorem linesTo_back {ls : List Ltr} {ht gap sp : Nat} {e0 : Int} {lines : List (List UInt8)} {i : Nat} (h : (linesTo ls ht gap sp e0 lines (i + 1)).1 = 0) : (linesTo ls ht gap sp e0 lines i).1 = 0 := by
  by_cases h1 : (linesTo ls ht gap sp e0 lines i).1 = 0
  · exact h1
  · rw [linesTo_next h1] at h; exact h
theorem linesTo_all {ls : List Ltr} {ht gap sp : Nat} {e0 : Int} {lines : List (List UInt8)} : ∀ i, (linesTo ls ht gap sp e0 lines i).1 = 0 → (linesTo ls ht gap sp e0 lines i).2 = wideTo ls gap sp lines i ∧ ∀ j s, j < i → lines[j]? = some s → s ≠ [] → setErr ls ht gap sp s = 0
  | 0, _ => ⟨rfl, fun j s hj => absurd hj (Nat.not_lt_zero _)⟩
  | i + 1, h => by
    obtain ⟨h1, h2⟩ := linesTo_all i (linesTo_back h)
    have h0 := linesTo_back h
    cases hg : lines[i]? with
    | none =>
      refine ⟨?_, fun j s hj hs => ?_⟩
      · unfold linesTo wideTo at h1 ⊢
        rw [List.take_add_one, hg]
        simpa using h1
      · by_cases e : j = i
        · rw [e, hg] at hs; cases hs
        · exact h2 j s (by omega) hs
    | some t =>
      rw [linesTo_succ hg] at h ⊢
      rw [wideTo_succ hg]
      by_cases ht0 : t = []
      · subst ht0
        rw [lineStep_nil]
        refine ⟨by rw [h1, wideOf_nil]; omega, fun j s hj hs hn => ?_⟩
        by_cases e : j = i
        · rw [e, hg] at hs
          exact absurd (Option.some.inj hs).symm hn
        · exact h2 j s (by omega) hs hn
      · have hse := lineStep_set (ls := ls) (ht := ht) (gap := gap) (sp := sp) h0 ht0
        rw [h] at hse
        refine ⟨?_, fun j s hj hs hn => ?_⟩
        · have hte : textErr ls t = 0 := by
            unfold setErr at hse
            by_cases e : textErr ls t = 0
            · exact e
            · rw [if_neg e] at hse; exact absurd hse.symm e
          unfold lineStep
          rw [if_pos ⟨h0, ht0⟩, if_pos hte, h1]
        · by_cases e : j = i
          · rw [e, hg] at hs
            rw [← Option.some.inj hs]
            exact hse.symm
          · exact h2 j s (by omega) hs hn
theorem setErr_zero {ls : List Ltr} {ht gap sp : Nat} {s : List UInt8} (h : setErr ls ht gap sp s = 0) : textErr ls s = 0 ∧ sizeErr (wideOf ls gap sp s) ht = 0 := by
  unfold setErr at h
  by_cases e : textErr ls s = 0
  · rw [if_pos e] at h; exact ⟨e, h⟩
  · rw [if_neg e] at h; exact absurd h e
theorem wideTo_pos {ls : List Ltr} {ht gap sp : Nat} {lines : List (List UInt8)} (hany : anyLine lines = true) (hok : ∀ j s, j < lines.length → lines[j]? = some s → s ≠ [] → setErr ls ht gap sp s = 0) : 1 ≤ wideTo ls gap sp lines lines.length := by
  unfold anyLine at hany
  obtain ⟨s, hs, hn⟩ := of_decide_eq_true hany
  obtain ⟨j, hj⟩ := List.getElem?_of_mem hs
  have hne : s ≠ [] := by
    rintro rfl
    cases hn
  have h1 := (sizeErr_zero (setErr_zero (hok j s (List.getElem?_eq_some_iff.1 hj).1 hj hne)).2).1
  have h2 := wideTo_ge (ls := ls) (gap := gap) (sp := sp) hs
  omega
theorem linesErr_end {ls : List Ltr} {ht gap sp : Nat} {lines : List (List UInt8)} {lead : Int} (h : (linesTo ls ht gap sp (linesErr0 lines lead) lines lines.length).1 = 0) :
    linesErr ls ht gap sp lines lead = sizeErr (wideTo ls gap sp lines lines.length) (lines.length * ht + (lines.length - 1 : Nat) * lead) ∧ 1 ≤ wideTo ls gap sp lines lines.length := by
  obtain ⟨h1, h2⟩ := linesTo_all _ h
  have h0 := linesErr0_of ls ht gap sp h
  have h3 := wideTo_pos (linesErr0_zero h0).2.1 h2
  refine ⟨?_, h3⟩
  unfold linesErr
  simp only
  rw [if_pos h, h1, show max ((wideTo ls gap sp lines lines.length : Nat) : Int) 1 = ((wideTo ls gap sp lines lines.length : Nat) : Int) by omega]
/-- All that is known where no line is refused. -/
theorem linesErr_zero {ls : List Ltr} {ht gap sp : Nat} {lines : List (List UInt8)} {lead : Int} (h : linesErr ls ht gap sp lines lead = 0) :
    linesErr0 lines lead = 0 ∧ (linesTo ls ht gap sp (linesErr0 lines lead) lines lines.length).1 = 0 ∧ (∀ j s, j < lines.length → lines[j]? = some s → s ≠ [] → setErr ls ht gap sp s = 0) ∧ 1 ≤ wideTo ls gap sp lines lines.length ∧
    sizeErr (wideTo ls gap sp lines lines.length) (lines.length * ht + (lines.length - 1 : Nat) * lead) = 0 := by
  have h1 : (linesTo ls ht gap sp (linesErr0 lines lead) lines lines.length).1 = 0 := by
    by_cases e : (linesTo ls ht gap sp (linesErr0 lines lead) lines lines.length).1 = 0
    · exact e
    · rw [linesErr_at (Nat.le_refl _) e] at h; exact h
  obtain ⟨h2, h3⟩ := linesErr_end h1
  exact ⟨linesErr0_of ls ht gap sp h1, h1, (linesTo_all _ h1).2, h3, by rw [← h2]; exact h⟩

/-! ### ink -/
def lineInk (ls : List Ltr) (ht gap sp y0 : Nat) (s : List UInt8) (u v : Nat) : Bool := winB (wideOf ls gap sp s) ht 0 y0 u v && setF ls (putAt ls gap sp (0, false) (itemsOf ls s)) u (v - y0)
def linesF (ls : List Ltr) (ht gap sp lead : Nat) (lines : List (List UInt8)) : Nat → Nat → Nat → Bool
  | 0, _, _ => false
  | i + 1, u, v => linesF ls ht gap sp lead lines i u v || lineInk ls ht gap sp (i * (ht + lead)) (lines.getD i []) u v
theorem linesF_succ {ls : List Ltr} {ht gap sp lead : Nat} {lines : List (List UInt8)} {i : Nat} {s : List UInt8} (h : lines[i]? = some s) (u v : Nat) : linesF ls ht gap sp lead lines (i + 1) u v = (linesF ls ht gap sp lead lines i u v || lineInk ls ht gap sp (i * (ht + lead)) s u v) := by
  show (_ || lineInk ls ht gap sp (i * (ht + lead)) (lines.getD i []) u v) = _
  rw [List.getD, h]
  rfl
theorem lineInk_nil (ls : List Ltr) (ht gap sp y0 u v : Nat) : lineInk ls ht gap sp y0 [] u v = false := by
  unfold lineInk winB
  rw [wideOf_nil, decide_eq_false (by omega)]
  rfl
theorem linesF_skip {ls : List Ltr} {ht gap sp lead : Nat} {lines : List (List UInt8)} {i : Nat} (h : lines[i]? = some []) (u v : Nat) : linesF ls ht gap sp lead lines (i + 1) u v = linesF ls ht gap sp lead lines i u v := by
  rw [linesF_succ h, lineInk_nil, Bool.or_false]
theorem putF_line {ls : List Ltr} {ht gap sp lead W : Nat} {lines : List (List UInt8)} {i : Nat} {s : List UInt8} (h : lines[i]? = some s) (k : Nat) :
    putF (fun k => linesF ls ht gap sp lead lines i (k % W) (k / W)) (setCells ls ht gap sp s) (wideOf ls gap sp s) ht 0 (i * (ht + lead)) W k = linesF ls ht gap sp lead lines (i + 1) (k % W) (k / W) := by
  rw [linesF_succ h]
  unfold putF lineInk
  cases hw : winB (wideOf ls gap sp s) ht 0 (i * (ht + lead)) (k % W) (k / W) with
  | false => rfl
  | true =>
    have hw' := of_decide_eq_true hw
    unfold setCells
    rw [pix_grid _ _ _ _ _ (by omega) (by omega), Nat.sub_zero]
theorem pasteF_line {ls : List Ltr} {ht gap sp lead W H : Nat} {lines : List (List UInt8)} {i : Nat} {s : List UInt8} (h : lines[i]? = some s) (hw1 : 1 ≤ wideOf ls gap sp s) (hh1 : 1 ≤ ht) (hy : i * (ht + lead) < H) (u v : Nat) (hu : u < W) (hv : v < H) :
    pasteF (grid W H (linesF ls ht gap sp lead lines i)) (setCells ls ht gap sp s) W H (wideOf ls gap sp s) ht 0 ((i * (ht + lead) : Nat) : Int) u v = linesF ls ht gap sp lead lines (i + 1) u v := by
  rw [linesF_succ h]
  obtain ⟨y0, hy0⟩ : ∃ y0, y0 = i * (ht + lead) := ⟨_, rfl⟩
  rw [← hy0] at hy ⊢
  have ha : isApart W H (wideOf ls gap sp s) ht 0 (y0 : Int) = false := by
    unfold isApart
    rw [decide_eq_false (by omega), decide_eq_false (by omega), decide_eq_false (by omega), decide_eq_false (by omega)]
    rfl
  unfold pasteF lineInk
  rw [ha, pix_grid W H _ u v hu hv]
  congr 1
  cases hw : winB (wideOf ls gap sp s) ht 0 y0 u v with
  | false =>
    have hw' := of_decide_eq_false hw
    rw [atI_out _ _ _ _ _ (by omega)]
    rfl
  | true =>
    have hw' := of_decide_eq_true hw
    have e1 : (u : Int) - 0 = (u : Int) := by omega
    have e2 : (v : Int) - (y0 : Int) = ((v - y0 : Nat) : Int) := by omega
    unfold setCells
    rw [e1, e2, atI_in _ _ _ _ _ (by omega) (by omega), pix_grid _ _ _ _ _ (by omega) (by omega)]
    rfl

end Go.Proofs.YtkhajhcfplicpaaDoor


/-! bedref2.LinesError of a right font. -/
namespace Go.Proofs.YtkhajhcfplicpaaDoor
open Go.RowKit Go.Shelf

set_option maxRecDepth 100000 in
set_option maxHeartbeats 2000000 in
theorem linesError_any (nm : List UInt8) (ht gap sp : Nat) (adl : Addr) (c : Nat) (ls : List Ltr) (L : Option Addr) (lc : Nat) (lines : List (List UInt8)) (lead : Int) (w : World) (hL : LtrsAt w (some adl) ls) (hR : Right ht gap sp ls) (hl : Reads w 1 L lines.length (strCells' lines)) (hn : lines.length ≤ 1048576) (htl : ∀ t ∈ lines, t.length ≤ 1048576) (hv : SubOk w) :
    Calls Tryd.prog 98 #[.agg #[.string ⟨nm.toArray⟩, .int .i64 ht, .int .i64 gap, .int .i64 sp, .slice (some adl) ls.length c], .slice L lines.length lc, .int .i64 lead] w fun e w' => e = .returned (.int .i64 (linesErr ls ht gap sp lines lead)) ∧ Bl w w' := by
  let w2 := (w).alloc (.cells #[.string ⟨nm.toArray⟩, .int .i64 ht, .int .i64 gap, .int .i64 sp, .slice (some adl) ls.length c] 67)
  have w2b : Bl w w2 := (Bl.refl w).alloc _
  have w21 : Blk w2 (w.heap.size) 67 #[.string ⟨nm.toArray⟩, .int .i64 ht, .int .i64 gap, .int .i64 sp, .slice (some adl) ls.length c] := by
    have h0 := Blk.new (w) 67 #[.string ⟨nm.toArray⟩, .int .i64 ht, .int .i64 gap, .int .i64 sp, .slice (some adl) ls.length c]
    exact h0
  have HL := Lib.hid (hL.bl w2b); have HR := Lib.hid hR; have HTl := Lib.hid htl
  have HV := Lib.hid (hv.bl w2b); have HLn := Lib.hid (hl.bl w2b)
  have hct := strContains_any L lc lines 190 #[] _ w2 (hl.bl w2b) (linesError1_tests w2 lines) (by omega)
  obtain ⟨al, hal⟩ : ∃ x, x = decide (∃ l ∈ lines, (!l.isEmpty) = true) := ⟨_, rfl⟩
  rw [← hal] at hct
  have Hct := Lib.hid hct; have HAl := Lib.hid hal
  have h200 : decide ((200 : Int) < (lines.length : Int)) = decide (200 < lines.length) := by rw [decide_eq_decide]; omega
  have HD := Lib.hid h200
  obtain ⟨e0, he0⟩ : ∃ x, x = linesErr0 lines lead := ⟨_, rfl⟩
  have HE0 := Lib.hid he0
  clear hL hR hl htl hv hct he0 h200 hal
  go_enter Tryd.func98, Tryd.ntmps98
  go_wp2_with fail
  refine Hct.out.mono ?_
  rintro e w3 ⟨rfl, hb3⟩
  clear_value w2
  go_wp2_with fail
  refine (in_any _ _ _ _).mono ?_
  rintro e w' ⟨rfl, rfl⟩
  go_wp2_with fail
  refine (when_any _ _ _).mono ?_
  rintro e w' ⟨rfl, rfl⟩
  go_wp2_with fail
  refine (when_any _ _ _).mono ?_
  rintro e w' ⟨rfl, rfl⟩
  go_wp2_with fail
  refine (when_any _ _ _).mono ?_
  rintro e w' ⟨rfl, rfl⟩
  go_wp2_with fail
  refine (first3_any _ _ _ _ _ (Blk.new _ _ _)).mono ?_
  rintro e w4 ⟨rfl, rfl⟩
  have hz : firstNZ [whenI (!inB lead 0 64) 3, whenI (!al) 9, whenI (decide ((200 : Int) < (lines.length : Int))) 4] = e0 := by rw [HD.out, HE0.out, HAl.out]; rfl
  rw [hz]
  clear hz
  obtain ⟨wB, hwB⟩ : ∃ x, x = w3.alloc (.cells #[.int .i64 (whenI (!inB lead 0 64) 3), .int .i64 (whenI (!al) 9), .int .i64 (whenI (decide ((200 : Int) < (lines.length : Int))) 4)] 30) := ⟨_, rfl⟩
  rw [← hwB]
  have hbB : Bl w2 wB := by rw [hwB]; exact hb3.alloc _
  clear hwB
  go_wp2_with fail
  go_loopw [29, 8, 9] (fun u v x wr => ∃ i : Nat, i ≤ lines.length ∧ u = .int .i64 i ∧ v = .int .i64 (linesTo ls ht gap sp e0 lines i).1 ∧ x = .int .i64 ((linesTo ls ht gap sp e0 lines i).2 : Int) ∧ Bl w2 wr) (fun u _ _ _ => lines.length - (RowKit.intOf u).toNat)
  case atStart => exact ⟨0, Nat.zero_le _, rfl, rfl, rfl, hbB⟩
  case round =>
    obtain ⟨i, hi, rfl, rfl, rfl, hbr⟩ := hrel
    obtain ⟨E, hE⟩ : ∃ x, x = (linesTo ls ht gap sp e0 lines i).1 := ⟨_, rfl⟩
    obtain ⟨W, hW⟩ : ∃ x, x = (linesTo ls ht gap sp e0 lines i).2 := ⟨_, rfl⟩
    rw [← hE, ← hW]
    have HEE := Lib.hid hE; have HW := Lib.hid hW
    clear hE hW
    have k1 := (w21.bl hbr).all5
    by_cases hlt : i < lines.length
    · have hg : lines[i]? = some lines[i] := List.getElem?_eq_getElem hlt
      obtain ⟨s, hs⟩ : ∃ s, s = lines[i] := ⟨_, rfl⟩
      rw [← hs] at hg
      obtain ⟨ad, rfl, c0⟩ := str_at (HLn.out.bl hbr) hg
      have hst := linesTo_succ (ls := ls) (ht := ht) (gap := gap) (sp := sp) (e0 := e0) hg
      have hsl := HTl.out s (List.mem_of_getElem? hg)
      have HSt := Lib.hid hst
      clear hst hg hs
      by_cases hz : E = 0
      · by_cases hs : s = []
        · have hk : linesTo ls ht gap sp e0 lines (i + 1) = (E, W) := by
            rw [HSt.out, HEE.out, HW.out]
            unfold lineStep
            rw [if_neg (fun h => h.2 hs)]
          have Hk := Lib.hid hk
          have hem : s.isEmpty = true := by rw [hs]; rfl
          subst hz
          clear hk hs
          go_wp2_with fail
          exact ⟨⟨i + 1, hlt, by go_num, by rw [Hk.out], by rw [Hk.out], hbr⟩, by simp [RowKit.intOf] <;> omega⟩
        · have hem : s.isEmpty = false := by cases s with | nil => exact absurd rfl hs | cons a t => rfl
          have hte := textError_any nm ht gap sp adl c ls s wr (HL.out.bl hbr) HR.out hsl (HV.out.bl hbr)
          have Hte := Lib.hid hte
          obtain ⟨T, hT⟩ : ∃ x, x = textErr ls s := ⟨_, rfl⟩
          have hk : linesTo ls ht gap sp e0 lines (i + 1) = if T = 0 then (sizeErr (wideOf ls gap sp s) ht, max W (wideOf ls gap sp s)) else (T, W) := by
            rw [HSt.out, HW.out, hT]
            unfold lineStep
            rw [if_pos ⟨HEE.out.symm.trans hz, hs⟩]
          have Hk := Lib.hid hk
          have HT := Lib.hid hT
          subst hz
          clear hk hs hte hT
          go_wp2_with fail
          refine Hte.out.mono ?_
          rintro e w5 ⟨rfl, hb5⟩
          rw [← HT.out]
          have k1 := (w21.bl (hbr.trans hb5)).all5
          by_cases hz : T = 0
          · obtain ⟨-, y, hy⟩ := textErr_zero (HT.out.symm.trans hz)
            have hwo : wideOf ls gap sp s = (goAll ls gap sp (0, false) y).1 := by unfold wideOf; rw [itemsOf_some hy]
            have Hwd := Lib.hid (fun wx (hx : Bl w2 wx) => widthOf_any nm ht gap sp adl c ls s y wx (HL.out.bl hx) HR.out hsl hy)
            obtain ⟨V, hV⟩ : ∃ V, V = (goAll ls gap sp (0, false) y).1 := ⟨_, rfl⟩
            rw [← hV] at Hwd hwo
            have Hk2 := Lib.hid (Hk.out.trans (if_pos hz))
            rw [hwo] at Hk2
            have hb5' := hbr.trans hb5
            have hmx : max (W : Int) (V : Int) = ((max W V : Nat) : Int) := by omega
            subst hz
            clear hV hwo hy Hte Hk hb5 hbr
            go_wp2_with fail
            refine (Hwd.out _ hb5').mono ?_
            rintro e w6 ⟨rfl, hb6⟩
            have hb6' := hb5'.trans hb6
            have k1 := (w21.bl hb6').all5
            go_upto_region 11 with fail
            refine wp_region_flow [(true, 0), (true, 1), (true, 3), (true, 4), (false, 2), (false, 5), (true, 6)] (fun _ => false) (by kernel_rfl) (by kernel_rfl) (by kernel_rfl) (by kernel_rfl) ?_
            iterate 1
              apply Flow.calm2 _ _ rfl rfl
              · intro w' hb' K' hK'
                obtain ⟨hc', hf'⟩ := hb'.rule
                go_simp
                try go_ints
                exact hK'
              · intro K' hK'
                simp only [Act.put, List.setIfInBounds_toArray, List.set_cons_zero, List.set_cons_succ]
                exact hK'
            iterate 1
              apply Flow.mv _ rfl
              · intro K' hK'
                simp only [Act.put, Act.eval, List.setIfInBounds_toArray, List.set_cons_zero, List.set_cons_succ, arr_getD, List.getD_cons_zero, List.getD_cons_succ]
                exact hK'
            iterate 1
              apply Flow.calm2 _ _ rfl rfl
              · intro w' hb' K' hK'
                obtain ⟨hc', hf'⟩ := hb'.rule
                go_simp
                try go_ints
                exact hK'
              · intro K' hK'
                simp only [Act.put, List.setIfInBounds_toArray, List.set_cons_zero, List.set_cons_succ]
                exact hK'
            iterate 1
              apply Flow.calm2 _ _ rfl rfl
              · intro w' hb' K' hK'
                obtain ⟨hc', hf'⟩ := hb'.rule
                go_simp
                try go_ints
                exact hK'
              · intro K' hK'
                simp only [Act.put, List.setIfInBounds_toArray, List.set_cons_zero, List.set_cons_succ]
                exact hK'
            apply Flow.move rfl
            go_wp2_with fail
            refine (Hwd.out _ (hb6'.trans (Bl.refl _).drew)).mono ?_
            rintro e w7 ⟨rfl, HB1⟩
            have hb7 := hb6'.trans (Bl.ofDrew HB1)
            have k1 := (w21.bl hb7).all5
            go_wp2_with fail
            refine ⟨fun _ => (by first | exact HB1 | exact Bl.refl _), ?_⟩
            apply Flow.move rfl
            go_wp2_with fail
            refine (sizeError_any _ _ _).mono ?_
            rintro e w8 ⟨rfl, HB2⟩
            go_wp2_with fail
            refine ⟨fun _ => (by first | exact HB2 | exact Bl.refl _), ?_⟩
            iterate 1
              apply Flow.asg _ rfl
              · intro K' hK'
                simp only [Act.put, Act.eval, List.setIfInBounds_toArray, List.set_cons_zero, List.set_cons_succ, arr_getD, List.getD_cons_zero, List.getD_cons_succ]
                exact hK'
            refine Flow.done ?_
            have hb8 := hb7.trans HB2
            go_wp2_with fail
            exact ⟨⟨i + 1, hlt, by go_num, by rw [Hk2.out], by rw [Hk2.out], hb8⟩, by simp [RowKit.intOf] <;> omega⟩
          · have hq : (T == 0) = false := by simp [hz]
            have Hk2 := Lib.hid (Hk.out.trans (if_neg hz))
            have hb6 := hbr.trans hb5
            clear hz Hte
            go_wp2_with fail
            exact ⟨⟨i + 1, hlt, by go_num, by rw [Hk2.out], by rw [Hk2.out], hb6⟩, by simp [RowKit.intOf] <;> omega⟩
      · have hq : (E == 0) = false := by simp [hz]
        have hk : linesTo ls ht gap sp e0 lines (i + 1) = (E, W) := by
          rw [HSt.out, HEE.out, HW.out]
          unfold lineStep
          rw [if_neg (fun h => hz (HEE.out.trans h.1))]
        have Hk := Lib.hid hk
        clear hk
        go_wp2_with fail
        exact ⟨⟨i + 1, hlt, by go_num, by rw [Hk.out], by rw [Hk.out], hbr⟩, by simp [RowKit.intOf] <;> omega⟩
    · obtain rfl : i = lines.length := by omega
      by_cases hz : E = 0
      · obtain ⟨⟨hl0, hl1⟩, hany, h200⟩ := linesErr0_zero (HE0.out.symm.trans (linesErr0_of ls ht gap sp (HEE.out.symm.trans hz)))
        have hh := HR.out.ht1
        obtain ⟨ld, rfl⟩ := Int.eq_ofNat_of_zero_le hl0
        have hn1 : 1 ≤ lines.length := by
          cases lines with
          | nil => exact absurd hany (by decide)
          | cons a t => simp
        obtain ⟨n, hn⟩ : ∃ n, lines.length = n + 1 := ⟨lines.length - 1, by omega⟩
        have hm1 : (n + 1) * ht ≤ 200 * 64 := Nat.mul_le_mul (by omega) hh.2
        have hm2 : n * ld ≤ 200 * 64 := Nat.mul_le_mul (by omega) (by omega)
        obtain ⟨M1, hM1⟩ : ∃ m, m = (n + 1) * ht := ⟨_, rfl⟩
        obtain ⟨M2, hM2⟩ : ∃ m, m = n * ld := ⟨_, rfl⟩
        have HE := Lib.hid (show linesErr ls ht gap sp lines (ld : Int) = sizeErr (max (W : Int) 1) ((M1 : Int) + (M2 : Int)) by
          unfold linesErr
          simp only
          rw [← HE0.out, if_pos (HEE.out.symm.trans hz), ← HW.out, hn, Nat.add_sub_cancel, hM1, hM2, Int.natCast_mul, Int.natCast_mul])
        have hc1 : ((n : Int) + 1) * (ht : Int) = (M1 : Int) := by rw [hM1, Int.natCast_mul]; rfl
        have hc2 : (lines.length : Int) - 1 = (n : Int) := by omega
        have hc3 : max (n : Int) 0 = (n : Int) := by omega
        have hc4 : (n : Int) * (ld : Int) = (M2 : Int) := by rw [hM2, Int.natCast_mul]
        have hb1 : M1 ≤ 12800 := by omega
        have hb2 : M2 ≤ 12800 := by omega
        subst hz
        clear hM1 hM2 hm1 hm2
        go_wp2_with fail
        refine (sizeError_any _ _ _).mono ?_
        rintro e w5 ⟨rfl, hb5⟩
        rw [← HE.out]
        go_wp2_with fail
        refine (first2_any _ _ _ _ (Blk.new _ _ _)).mono ?_
        rintro e w6 ⟨rfl, rfl⟩
        go_wp2_with fail
        go_ret
        refine ⟨?_, w2b.trans ((hbr.trans hb5).alloc _)⟩
        show Ending.returned (.int .i64 (if (0 : Int) = 0 then (if linesErr ls ht gap sp lines (ld : Int) = 0 then 0 else linesErr ls ht gap sp lines (ld : Int)) else 0)) = _
        rw [if_pos rfl]
        split
        · rename_i h0; rw [h0]
        · rfl
      · have HZ := Lib.hid hz
        have HE := Lib.hid (show linesErr ls ht gap sp lines lead = E by
          unfold linesErr
          simp only
          rw [← HE0.out, if_neg (fun h => hz (HEE.out.trans h)), ← HEE.out])
        clear HEE hz
        go_wp2_with fail
        refine (sizeError_any _ _ _).mono ?_
        rintro e w5 ⟨rfl, hb5⟩
        go_wp2_with fail
        refine (first2_any _ _ _ _ (Blk.new _ _ _)).mono ?_
        rintro e w6 ⟨rfl, rfl⟩
        go_wp2_with fail
        go_ret
        refine ⟨?_, w2b.trans ((hbr.trans hb5).alloc _)⟩
        rw [HE.out]
        show Ending.returned (.int .i64 (if E = 0 then _ else E)) = _
        rw [if_neg HZ.out]

end Go.Proofs.YtkhajhcfplicpaaDoor


/-! bedref2.LinesOf of what is right. -/
namespace Go.Proofs.YtkhajhcfplicpaaDoor
open Go.RowKit Go.Shelf

theorem linesOf1_any (x y : Int) (w : World) : Calls Tryd.prog 191 #[.int .i64 x, .int .i64 y] w fun e w' => e = .returned (.bool false) ∧ Bl w w' := by
  go_enter Tryd.func191, Tryd.ntmps191
  go_wp2_with fail
  go_ret
  exact ⟨rfl, Bl.refl _⟩
theorem linesOf1_paints (w : World) (W H : Nat) (f : Nat → Nat → Bool) (hf : ∀ x y, f x y = false) : Paints Tryd.prog 191 #[] Value.bool w W H f :=
  ⟨enters Tryd.func191 (by kernel_rfl) rfl, fun wx x y _ _ _ => by rw [hf]; exact linesOf1_any x y wx⟩
/-- The sides of the page of all lines. -/
def highOf (ht ld : Nat) (lines : List (List UInt8)) : Nat := lines.length * ht + (lines.length - 1) * ld
/-- What holds where no line is refused. -/
theorem lines_ok {ls : List Ltr} {ht gap sp ld : Nat} {lines : List (List UInt8)} (hz : linesErr ls ht gap sp lines (ld : Int) = 0) :
    ld ≤ 64 ∧ 1 ≤ lines.length ∧ lines.length ≤ 200 ∧ (∀ (j : Nat) s, lines[j]? = some s → ∃ y, spelt ls s = some y) ∧ (∀ (j : Nat) s, lines[j]? = some s → s ≠ [] → 1 ≤ wideOf ls gap sp s) ∧ 1 ≤ wideTo ls gap sp lines lines.length ∧ wideTo ls gap sp lines lines.length ≤ 4000 ∧ highOf ht ld lines ≤ 4000 ∧
    wideTo ls gap sp lines lines.length * highOf ht ld lines ≤ 1048576 ∧ sizeErr (wideTo ls gap sp lines lines.length) (highOf ht ld lines) = 0 := by
  obtain ⟨h0, -, h2, h3, h4⟩ := linesErr_zero hz
  obtain ⟨⟨h5, h6⟩, h7, h8⟩ := linesErr0_zero h0
  have e : ((lines.length : Int) * (ht : Int) + ((lines.length - 1 : Nat) : Int) * (ld : Int)) = ((highOf ht ld lines : Nat) : Int) := by unfold highOf; rw [Int.natCast_add, Int.natCast_mul, Int.natCast_mul]
  rw [e] at h4
  have h9 := sizeErr_zero h4
  have h10 : ((wideTo ls gap sp lines lines.length * highOf ht ld lines : Nat) : Int) ≤ 1048576 := by rw [Int.natCast_mul]; exact h9.2.2.2.2
  have hn : 1 ≤ lines.length := by
    cases lines with
    | nil => exact absurd h7 (by decide)
    | cons a t => simp
  refine ⟨by omega, hn, h8, fun j s hj => ?_, fun j s hj hs => ?_, h3, by omega, by omega, by omega, h4⟩
  · by_cases hs : s = []
    · rw [hs]; exact ⟨[], rfl⟩
    · exact (textErr_zero (setErr_zero (h2 j s (List.getElem?_eq_some_iff.1 hj).1 hj hs)).1).2
  · have := (sizeErr_zero (setErr_zero (h2 j s (List.getElem?_eq_some_iff.1 hj).1 hj hs)).2).1
    omega

set_option maxRecDepth 100000 in
set_option maxHeartbeats 4000000 in
theorem linesOf_any (nm : List UInt8) (ht gap sp : Nat) (adl : Addr) (c : Nat) (ls : List Ltr) (L : Option Addr) (lc : Nat) (lines : List (List UInt8)) (ld W H : Nat) (w : World) (hL : LtrsAt w (some adl) ls) (hR : Right ht gap sp ls) (hl : Reads w 1 L lines.length (strCells' lines))
    (htl : ∀ t ∈ lines, t.length ≤ 1048576) (hz : linesErr ls ht gap sp lines (ld : Int) = 0) (hW : W = wideTo ls gap sp lines lines.length) (hH : H = highOf ht ld lines) :
    Calls Tryd.prog 100 #[.agg #[.string ⟨nm.toArray⟩, .int .i64 ht, .int .i64 gap, .int .i64 sp, .slice (some adl) ls.length c], .slice L lines.length lc, .int .i64 ld] w (SetRes W H ((grid W H (linesF ls ht gap sp ld lines lines.length)).map .bool) w) := by
  let w2 := ((w).alloc (.cells #[.string ⟨nm.toArray⟩, .int .i64 ht, .int .i64 gap, .int .i64 sp, .slice (some adl) ls.length c] 67)).alloc (.cells #[.int .i64 0, .int .i64 0, .slice none 0 0] 24)
  have w2b : Bl w w2 := ((Bl.refl w).alloc _).alloc _
  have w21 : Blk w2 (w.heap.size) 67 #[.string ⟨nm.toArray⟩, .int .i64 ht, .int .i64 gap, .int .i64 sp, .slice (some adl) ls.length c] := by
    have h0 := Blk.new (w) 67 #[.string ⟨nm.toArray⟩, .int .i64 ht, .int .i64 gap, .int .i64 sp, .slice (some adl) ls.length c]
    exact (h0.alloc _)
  have w22 : Blk w2 (w.heap.size + 1) 24 #[.int .i64 0, .int .i64 0, .slice none 0 0] := by
    have h0 := Blk.new ((w).alloc (.cells #[.string ⟨nm.toArray⟩, .int .i64 ht, .int .i64 gap, .int .i64 sp, .slice (some adl) ls.length c] 67)) 24 #[.int .i64 0, .int .i64 0, .slice none 0 0]
    simp only [World.size_alloc] at h0
    exact h0
  have lw2 : w2.heap.size = w.heap.size + 2 := by simp [w2]
  obtain ⟨hld, hn1, hn2, hsp, hwd, hW1, hW4, hH4, hWH, -⟩ := lines_ok hz
  rw [← hW] at hW1 hW4 hWH
  rw [← hH] at hH4 hWH
  have HL := Lib.hid (hL.bl w2b); have HR := Lib.hid hR; have HTl := Lib.hid htl; have HLn := Lib.hid (hl.bl w2b)
  have HSp := Lib.hid hsp; have HWd := Lib.hid hwd; have HWt := Lib.hid hW
  obtain ⟨n, hn⟩ : ∃ n, lines.length = n + 1 := ⟨lines.length - 1, by omega⟩
  obtain ⟨M1, hM1⟩ : ∃ m, m = (n + 1) * ht := ⟨_, rfl⟩
  obtain ⟨M2, hM2⟩ : ∃ m, m = n * ld := ⟨_, rfl⟩
  have hHM : H = M1 + M2 := by rw [hH, hM1, hM2]; unfold highOf; rw [hn]; rfl
  have hc1 : ((n : Int) + 1) * (ht : Int) = (M1 : Int) := by rw [hM1, Int.natCast_mul]; rfl
  have hc4 : (n : Int) * (ld : Int) = (M2 : Int) := by rw [hM2, Int.natCast_mul]
  have HC := Lib.hid (And.intro hc1 hc4)
  have hh := hR.ht1
  have HHi := Lib.hid hH; have HHM := Lib.hid hHM
  have HN := Lib.hid hn
  have hM12 : M1 ≤ 4000 ∧ M2 ≤ 4000 := by omega
  clear hL hR hl htl hsp hwd hz hM1 hM2 hc1 hc4 hW hH hn hHM
  go_enter Tryd.func100, Tryd.ntmps100
  go_wp2_with fail
  have hw : (w.alloc (.cells #[.string ⟨nm.toArray⟩, .int .i64 ht, .int .i64 gap, .int .i64 sp, .slice (some adl) ls.length c] 67)).alloc (.cells #[.int .i64 0, .int .i64 0, .slice none 0 0] 24) = w2 := rfl
  rw [hw]
  clear hw
  clear_value w2
  go_loopw [15, 7] (fun u v wr => ∃ i : Nat, i ≤ lines.length ∧ u = .int .i64 i ∧ v = .int .i64 (wideTo ls gap sp lines i) ∧ Bl w2 wr) (fun u _ _ => lines.length - (RowKit.intOf u).toNat)
  case atStart => exact ⟨0, Nat.zero_le _, rfl, rfl, Bl.refl _⟩
  case round =>
    obtain ⟨i, hi, rfl, rfl, hbr⟩ := hrel
    have k1 := (w21.bl hbr).all5
    by_cases hlt : i < lines.length
    · have hg : lines[i]? = some lines[i] := List.getElem?_eq_getElem hlt
      obtain ⟨s, hs⟩ : ∃ s, s = lines[i] := ⟨_, rfl⟩
      rw [← hs] at hg
      obtain ⟨ad, rfl, c0⟩ := str_at (HLn.out.bl hbr) hg
      have hsc := wideTo_succ (ls := ls) (gap := gap) (sp := sp) hg
      obtain ⟨y, hy⟩ := HSp.out i s hg
      have hwo : wideOf ls gap sp s = (goAll ls gap sp (0, false) y).1 := by unfold wideOf; rw [itemsOf_some hy]
      have hwf := widthOf_any nm ht gap sp adl c ls s y wr (HL.out.bl hbr) HR.out (HTl.out s (List.mem_of_getElem? hg)) hy
      rw [← hwo] at hwf
      obtain ⟨V, hV⟩ : ∃ V, V = wideOf ls gap sp s := ⟨_, rfl⟩
      obtain ⟨U, hU⟩ : ∃ U, U = wideTo ls gap sp lines i := ⟨_, rfl⟩
      rw [← hV] at hwf
      rw [← hU]
      rw [← hV, ← hU] at hsc
      have Hwf := Lib.hid hwf; have HSc := Lib.hid hsc
      have hmx : max (U : Int) (V : Int) = ((max U V : Nat) : Int) := by omega
      clear hwf hsc hV hU hwo hy hg hs
      go_wp2_with fail
      refine Hwf.out.mono ?_
      rintro e w3 ⟨rfl, hb3⟩
      go_wp2_with fail
      exact ⟨⟨i + 1, hlt, by go_num, by rw [HSc.out], hbr.trans hb3⟩, by simp [RowKit.intOf] <;> omega⟩
    · obtain rfl : i = lines.length := by omega
      rw [← HWt.out]
      obtain ⟨hc1, hc4⟩ := HC.out
      have hn := HN.out
      have hc2 : (lines.length : Int) * (ht : Int) = (M1 : Int) := by rw [hn]; exact hc1
      have hc3 : (lines.length : Int) - 1 = (n : Int) := by omega
      clear hn
      have hmd := Made_any W H (linesF ls ht gap sp ld lines 0) 191 #[] wr (by omega) (by omega) (by omega) (linesOf1_paints _ _ _ _ fun _ _ => rfl)
      have Hmd := Lib.hid hmd
      clear hmd
      go_wp2_with fail
      rw [show (M1 : Int) + (M2 : Int) = (H : Int) by rw [HHM.out]; omega]
      refine Hmd.out.mono ?_
      rintro e w3 ⟨v, rfl, ⟨R0, rc0, rfl, hr0, hrn0⟩, hb3⟩
      have hb23 := hbr.trans hb3
      go_upto_region 8 with fail
      obtain ⟨w4, hw4⟩ : ∃ x, x = w3.alloc (.cells #[.int .i64 W, .int .i64 H, .slice R0 (W * H) rc0] 24) := ⟨_, rfl⟩
      obtain ⟨p, hp⟩ : ∃ x, x = w3.heap.size := ⟨_, rfl⟩
      have bp4 : Blk w4 p 24 #[.int .i64 W, .int .i64 H, .slice R0 (W * H) rc0] := by rw [hw4, hp]; exact Blk.new _ _ _
      have hb34 : Bl w3 w4 := by rw [hw4]; exact (Bl.refl _).alloc _
      have hp3 : w2.heap.size ≤ p := by have := hb23.le; omega
      have hp4 : w3.heap.size ≤ p := by omega
      rw [← hw4, ← hp]
      have hr0n : ∀ ad, R0 = some ad → w.heap.size + 2 ≤ ad.block ∧ ad.block ≠ p := fun ad h => by
        have h1 := hrn0 ad h
        have h2 := hbr.le
        refine ⟨by omega, fun h3 => ?_⟩
        have hpos : 0 < W * H := by
          have : 1 ≤ H := by have := Nat.mul_le_mul hn1 hh.1; rw [HHi.out]; unfold highOf; omega
          exact Nat.mul_pos (by omega) (by omega)
        obtain ⟨ad', u, h4, -, h5⟩ := hr0.at_ hpos
        rw [h] at h4
        obtain rfl := Option.some.inj h4
        have h6 := World.block_lt_of_cell? _ _ h5
        rw [block_of_add] at h6
        omega
      have hb24 := hb23.trans hb34
      have HR0 := Lib.hid (hr0.bl hb34); have HR0n := Lib.hid hr0n
      clear hw4 hp hr0 hrn0 hr0n Hmd k1
      go_wp2_with fail
      go_loopw [40] (fun u wr => ∃ (i : Nat) (R : Option Addr) (rc : Nat), i ≤ lines.length ∧ u = .int .i64 i ∧ Bl w3 wr ∧ Blk wr p 24 #[.int .i64 W, .int .i64 H, .slice R (W * H) rc] ∧ Hid (Reads wr 1 R (W * H) ((grid W H (linesF ls ht gap sp ld lines i)).map .bool)) ∧ Hid (∀ ad, R = some ad → w.heap.size + 2 ≤ ad.block ∧ ad.block ≠ p)) (fun u _ => lines.length - (RowKit.intOf u).toNat)
      case atStart => exact ⟨0, R0, rc0, Nat.zero_le _, rfl, hb34, bp4, HR0, HR0n⟩
      case round =>
        rename World => wq
        obtain ⟨i, R, rc, hi, rfl, hbq, hbp, hrd, hrn⟩ := hrel
        have hb2q := hb23.trans hbq
        have k1 := (w21.bl hb2q).all5
        have k7 := hbp.all3
        by_cases hlt : i < lines.length
        · have hg : lines[i]? = some lines[i] := List.getElem?_eq_getElem hlt
          obtain ⟨s, hs⟩ : ∃ s, s = lines[i] := ⟨_, rfl⟩
          rw [← hs] at hg
          obtain ⟨ad, rfl, c0⟩ := str_at (HLn.out.bl hb2q) hg
          by_cases hse : s = []
          · have hem : s.isEmpty = true := by rw [hse]; rfl
            have hgr : grid W H (linesF ls ht gap sp ld lines i) = grid W H (linesF ls ht gap sp ld lines (i + 1)) := grid_congr _ _ _ _ fun x y _ _ => (linesF_skip (by rw [hg, hse]) x y).symm
            rw [hgr] at hrd
            have HBp := Lib.hid hbp
            subst hse
            clear hgr hg hs k7 hbp
            go_wp2_with fail
            exact ⟨⟨i + 1, R, rc, hlt, by go_num, hbq, HBp.out, hrd, hrn⟩, by simp [RowKit.intOf] <;> omega⟩
          · have hem : s.isEmpty = false := by cases s with | nil => exact absurd rfl hse | cons a t => rfl
            obtain ⟨y, hy⟩ := HSp.out i s hg
            have hwo : wideOf ls gap sp s = (goAll ls gap sp (0, false) y).1 := by unfold wideOf; rw [itemsOf_some hy]
            have hsc : setCells ls ht gap sp s = grid (wideOf ls gap sp s) ht (setF ls (putAt ls gap sp (0, false) y)) := by unfold setCells; rw [itemsOf_some hy]
            have hv1 := HWd.out i s hg hse
            have hv2 := wideTo_ge (ls := ls) (gap := gap) (sp := sp) (List.mem_of_getElem? hg)
            rw [← HWt.out] at hv2
            have hst := fun wx (hx : Bl w2 wx) => setOf_any nm ht gap sp adl c ls s y (wideOf ls gap sp s) wx (HL.out.bl hx) HR.out (HTl.out s (List.mem_of_getElem? hg)) hy hwo (by omega)
            simp only [← hsc] at hst
            have hyH : i * (ht + ld) < H := by
              have h1 : i * (ht + ld) ≤ n * (ht + ld) := Nat.mul_le_mul_right _ (by have := HN.out; omega)
              have h2 := HHi.out
              unfold highOf at h2
              rw [HN.out, Nat.add_mul, Nat.add_sub_cancel] at h2
              rw [Nat.mul_add n] at h1
              omega
            have hpf := fun u v hu hv => pasteF_line (ls := ls) (gap := gap) (sp := sp) (W := W) (H := H) hg hv1 hh.1 hyH u v hu hv
            have hgr := grid_congr W H _ _ hpf
            obtain ⟨Y, hY⟩ : ∃ Y, Y = i * (ht + ld) := ⟨_, rfl⟩
            rw [← hY] at hgr hyH
            have hYI : (i : Int) * ((ht : Int) + (ld : Int)) = (Y : Int) := by rw [hY, Int.natCast_mul, Int.natCast_add]
            obtain ⟨V, hV⟩ : ∃ V, V = wideOf ls gap sp s := ⟨_, rfl⟩
            rw [← hV] at hst hgr hv1 hv2
            have Hst := Lib.hid hst; have HGr := Lib.hid hgr; have HBp := Lib.hid hbp; have HBq := Lib.hid hbq
            clear hst hgr hpf hsc hwo hy hg hs hY hV hse
            go_upto_region 12 with fail
            refine wp_region_flow [(true, 0), (true, 1), (true, 2), (true, 4), (true, 5), (true, 6), (true, 7), (true, 8), (true, 9), (false, 3), (false, 10), (false, 11)] (fun i => i == 11) (by kernel_rfl) (by kernel_rfl) (by kernel_rfl) (by kernel_rfl) ?_
            iterate 2
              apply Flow.calm2 _ _ rfl rfl
              · intro w' hb' K' hK'
                obtain ⟨hc', hf'⟩ := hb'.rule
                go_simp
                try go_ints
                exact hK'
              · intro K' hK'
                simp only [Act.put, List.setIfInBounds_toArray, List.set_cons_zero, List.set_cons_succ]
                exact hK'
            iterate 2
              apply Flow.mv _ rfl
              · intro K' hK'
                simp only [Act.put, Act.eval, List.setIfInBounds_toArray, List.set_cons_zero, List.set_cons_succ, arr_getD, List.getD_cons_zero, List.getD_cons_succ]
                exact hK'
            iterate 1
              apply Flow.calm2 _ _ rfl rfl
              · intro w' hb' K' hK'
                obtain ⟨hc', hf'⟩ := hb'.rule
                go_simp
                try go_ints
                exact hK'
              · intro K' hK'
                simp only [Act.put, List.setIfInBounds_toArray, List.set_cons_zero, List.set_cons_succ]
                exact hK'
            iterate 1
              apply Flow.calm2 _ _ rfl rfl
              · intro w' hb' K' hK'
                obtain ⟨hc', hf'⟩ := hb'.rule
                go_simp
                try go_ints
                exact hK'
              · intro K' hK'
                simp only [Act.put, List.setIfInBounds_toArray, List.set_cons_zero, List.set_cons_succ]
                exact hK'
            iterate 1
              apply Flow.mv _ rfl
              · intro K' hK'
                simp only [Act.put, Act.eval, List.setIfInBounds_toArray, List.set_cons_zero, List.set_cons_succ, arr_getD, List.getD_cons_zero, List.getD_cons_succ]
                exact hK'
            iterate 2
              apply Flow.calm2 _ _ rfl rfl
              · intro w' hb' K' hK'
                obtain ⟨hc', hf'⟩ := hb'.rule
                go_simp
                try go_ints
                exact hK'
              · intro K' hK'
                simp only [Act.put, List.setIfInBounds_toArray, List.set_cons_zero, List.set_cons_succ]
                exact hK'
            apply Flow.move rfl
            go_wp2_with fail
            refine (Hst.out _ (hb2q.trans (Bl.refl _).drew)).mono ?_
            rintro e wz ⟨R1, rc1, rfl, hr1, hrn1, HB1⟩
            have hbz : Bl wq wz := Bl.ofDrew HB1
            go_wp2_with fail
            refine ⟨fun _ => (by first | exact HB1 | exact Bl.refl _), ?_⟩
            apply Flow.move rfl
            go_wp2_with fail
            refine (pasteOf_any W H V ht _ _ (grid W H (linesF ls ht gap sp ld lines i)) (setCells ls ht gap sp s) 0 (Y : Int) wz ⟨R, rc, rfl, hrd.out.bl hbz⟩ ⟨R1, rc1, rfl, hr1⟩ (by omega) (by omega) (by omega) (by omega)).mono ?_
            rintro e wy ⟨v2, rfl, ⟨R2, rc2, rfl, hr2, hrn2⟩, HB2⟩
            rw [HGr.out] at hr2
            have hby := hbz.trans HB2
            have k7 := (HBp.out.bl hby).all3
            go_wp2_with fail
            refine ⟨fun _ => (by first | exact HB2 | exact Bl.refl _), ?_⟩
            refine Flow.tail _ rfl ?_
            have hrn3 : ∀ ad, R2 = some ad → w.heap.size + 2 ≤ ad.block ∧ ad.block ≠ p := fun ad h => by
              have h1 := hrn2 ad h
              have h2 := (hb2q.trans hbz).le
              have h3 := HBp.out.lt
              have h4 := hbz.le
              exact ⟨by omega, by omega⟩
            have HR2 := Lib.hid hr2; have HR3 := Lib.hid hrn3; have HRn2 := Lib.hid hrn2; have HBy := Lib.hid hby
            have hplt := HBp.out.lt
            have hzle := hbz.le
            clear hr2 hrn2 hrn3
            go_wp2_with fail
            refine ⟨⟨i + 1, R2, rc2, hlt, by go_num, ?_, ?_, Lib.hid ?_, HR3⟩, by simp [RowKit.intOf] <;> omega⟩
            · exact (((HBq.out.trans HBy.out).setCell hp4 _).setCell hp4 _).setCell hp4 _
            · exact (((HBp.out.bl HBy.out).set_ 0 _).set_ 1 _).set_ 2 _
            · have hlt2 : p < wz.heap.size := by omega
              exact ((HR2.out.store HRn2.out hlt2 _).store HRn2.out hlt2 _).store HRn2.out hlt2 _
        · obtain rfl : i = lines.length := by omega
          have hpz : ¬ (p = w.heap.size + 1) := by omega
          have kz := (w22.bl hb2q).all3
          have HRd := hrd; have HRn := hrn
          clear hbp hrd hrn
          go_wp2_with fail
          refine bodyPost_ret (v := .agg #[.int .i64 W, .int .i64 H, .slice R (W * H) rc]) (by simp [results, Tryd.results100, go_sem, kz]) rfl ⟨_, _, rfl, ?_, ?_, ?_⟩
          · have hn : ∀ ad, R = some ad → w.heap.size + 2 ≤ ad.block := fun ad h => (HRn.out ad h).1
            exact ((HRd.out.store hn (by simp) _).store hn (by simp) _).store hn (by simp) _
          · intro ad h
            have := (HRn.out ad h).1
            omega
          · exact (((w2b.trans hb2q).setCell (by simp) _).setCell (by simp) _).setCell (by simp) _

end Go.Proofs.YtkhajhcfplicpaaDoor
