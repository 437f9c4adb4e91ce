/- glyph.set. -/
import Derived.Test.YtjelhdpcaileiaaGreatDoorS18
import Derived.Test.YtjelhdpcaileiaaGreatDoorS19
import Derived.Test.YtjelhdpcaileiaaGreatDoorS16

namespace Go.Proofs.YtjelhdpcaileiaaGreatDoor
open Go.RowKit Go.Shelf

/-- What is said of spelled's answer. -/
def SpgRes (ls : List Ltr) (gap sp : Nat) (t : List UInt8) (w : World) (e : Ending) (w' : World) : Prop := ∃ R m d wd err, e = .returned (.tuple #[.slice R m d, .int .i64 wd, .int .i64 err]) ∧ err = textErr ls t ∧ (err ≠ 0 → wd = 0) ∧
    (err = 0 → ∀ l, spelt ls t = some l → wd = ((goAll ls gap sp (0, false) l).1 : Int) ∧ m = (putAt ls gap sp (0, false) l).length ∧ m ≤ t.length ∧ Reads w' 2 R m (placedCells (putAt ls gap sp (0, false) l))) ∧ Bl w w'
theorem spg_bad {ls : List Ltr} {gap sp : Nat} {t : List UInt8} {w w' : World} {err : Int} (h : textErr ls t = err) (hz : err ≠ 0) (hb : Bl w w') : SpgRes ls gap sp t w (.returned (.tuple #[.slice none 0 0, .int .i64 0, .int .i64 err])) w' :=
  ⟨none, 0, 0, 0, err, rfl, h.symm, fun _ => rfl, fun h => absurd h hz, hb⟩
theorem putAt_len {ls : List Ltr} {gap sp : Nat} : ∀ (l : List (Option Nat)) (s : Spot), (putAt ls gap sp s l).length ≤ l.length
  | [], _ => Nat.le_refl _
  | none :: l, _ => Nat.le_succ_of_le (putAt_len l _)
  | some _ :: l, _ => Nat.succ_le_succ (putAt_len l _)
theorem bytes_at {t : List UInt8} {i : Nat} {b : UInt8} (h : t[i]? = some b) : ∃ hi : i < (⟨t.toArray⟩ : ByteArray).size, (⟨t.toArray⟩ : ByteArray)[i]'hi = b := by
  have hl := (List.getElem?_eq_some_iff.1 h).1
  have hi : i < (⟨t.toArray⟩ : ByteArray).size := by rw [Lib.size_mk]; exact hl
  exact ⟨hi, Option.some.inj ((Lib.getElem_mk t i hi).symm.trans h)⟩

end Go.Proofs.YtjelhdpcaileiaaGreatDoor


/-! glyph.set. -/
namespace Go.Proofs.YtjelhdpcaileiaaGreatDoor
open Go.RowKit Go.Shelf

set_option maxRecDepth 100000 in
set_option maxHeartbeats 400000 in
theorem blank_new (W H : Nat) (w : World) (hs : sizeErr W H = 0) :
    Calls Tryz.prog 13 #[.int .i64 W, .int .i64 H] w fun e w' =>
      ∃ g, e = .returned (.tuple #[.agg #[.int .i64 W, .int .i64 H, .slice (some ⟨g, 0, none⟩) (W * H) (W * H)], .int .i64 0]) ∧ w.heap.size ≤ g ∧ Blk w' g 4 (tabB (W * H) fun _ => false) ∧ Bl w w' := by
  have hz' := sizeErr_zero hs
  have hWH : (W : Int) * (H : Int) = ((W * H : Nat) : Int) := by simp
  have h1 : (0:Int) ≤ (W:Int) * (H:Int) := by omega
  have h2 : (W:Int) * (H:Int) ≤ 1048576 := by omega
  have hN : W * H ≤ 1048576 := by omega
  have hmk := run_make_row' (P := Tryz.prog) 26 4 (.bool false) 1 Tryz.underlying26 info_bool rfl .i64 .i64 (W * H) (by omega) (by omega)
  rw [← hWH] at hmk
  have hq : (sizeErr W H != 0) = false := by simp [hs]
  have HS := Lib.hid hs; have HWH := Lib.hid hWH
  clear hs hWH
  go_enter Tryz.func13, Tryz.ntmps13
  go_wp2_with (go_at_call 60; refine (checkSize_any _ _ _).mono ?_; rintro e w1 ⟨rfl, rfl⟩)
  rw [tabB_made]
  refine bodyPost_ret (v := .tuple #[.agg #[.int .i64 W, .int .i64 H, .slice (some ⟨w.heap.size + 1, 0, none⟩) (W * H) (W * H)], .int .i64 0]) (by simp [results, Tryz.results13, go_sem]) rfl ⟨_, rfl, ?_, ?_, ?_⟩
  · simp
  · have hb := Blk.new (w.alloc (.cells #[.int .i64 W, .int .i64 H, .slice (some ⟨w.heap.size + 1, 0, none⟩) (W * H) (W * H)] 28)) 4 (tabB (W * H) fun _ => false)
    simpa using hb
  · repeat' (first | exact Bl.refl _ | refine Bl.drew ?_ | refine Bl.setCell ?_ (by simp) _ | refine Bl.alloc ?_ _)


/-- A text's letters, how wide it is, what is wrong with it when it is set, and its pixels. -/
def itemsOf (ls : List Ltr) (t : List UInt8) : List (Option Nat) := (spelt ls t).getD []
def wideOf (ls : List Ltr) (gap sp : Nat) (t : List UInt8) : Nat := (goAll ls gap sp (0, false) (itemsOf ls t)).1
def setErr (ls : List Ltr) (ht gap sp : Nat) (t : List UInt8) : Int := if textErr ls t = 0 then sizeErr (wideOf ls gap sp t) ht else textErr ls t
def setCells (ls : List Ltr) (ht gap sp : Nat) (t : List UInt8) : List Bool := grid (wideOf ls gap sp t) ht (setF ls (putAt ls gap sp (0, false) (itemsOf ls t)))
theorem itemsOf_some {ls : List Ltr} {t : List UInt8} {l : List (Option Nat)} (h : spelt ls t = some l) : itemsOf ls t = l := by unfold itemsOf; rw [h]; rfl
theorem putAt_in {ls : List Ltr} {gap sp : Nat} : ∀ (l : List (Option Nat)) (s : Spot), (∀ k, some k ∈ l → k < ls.length) → ∀ p ∈ putAt ls gap sp s l, p.1 < ls.length
  | [], _, _, p, hp => by cases hp
  | none :: l, _, h, p, hp => putAt_in l _ (fun k hk => h k (List.mem_cons_of_mem _ hk)) p hp
  | some k :: l, s, h, p, hp => by
    rcases List.mem_cons.1 hp with rfl | hp
    · exact h k (List.mem_cons_self ..)
    · exact putAt_in l _ (fun k hk => h k (List.mem_cons_of_mem _ hk)) p hp
/-- What is said of set's answer. -/
def SetGRes (ls : List Ltr) (ht gap sp : Nat) (t : List UInt8) (w : World) (e : Ending) (w' : World) : Prop := ∃ a b R m d, e = .returned (.tuple #[.agg #[.int .i64 a, .int .i64 b, .slice R m d], .int .i64 (setErr ls ht gap sp t)]) ∧
    Res w.heap.size w' (setErr ls ht gap sp t) (wideOf ls gap sp t) ht ((setCells ls ht gap sp t).map .bool) a b R m d ∧ Bl w w'

end Go.Proofs.YtjelhdpcaileiaaGreatDoor
