/- From a statement's row to a walk: the listed variables that reading and writing numbers asks. No condition. -/
import Derived.Test.YthobmednnocklaaGreatDoorMClaimFills10
import Derived.Test.YthobmednnocklaaGreatDoorMClaimFills9
import Derived.Test.YthobmednnocklaaGreatDoorMClaimFills4
import Derived.Test.YthobmednnocklaaGreatDoorMClaimFills3
import Derived.Test.YthobmednnocklaaGreatDoorMClaimFills1
import Derived.Test.YthobmednnocklaaGreatDoorMClaimFills11
import Derived.Test.YthobmednnocklaaGreatDoorMClaimFills2
import Derived.Lib.IndexMore
import Derived.Lib.Strings
import Derived.Lib.CutLaws
import Derived.Lib.SlTrimSet
import Derived.LaidSub
import Derived.OpenShut
import Derived.ProofKit
import Derived.LaidMore
import Derived.LaidLaws
import Derived.Lib.LaidTab
import Derived.Lay

namespace Go.Proofs.YthobmednnocklaaGreatDoor
open Go.RowKit Go.Shelf

theorem str_cell {w : World} {g : Nat} {ts : List (List UInt8)} {i : Nat} {x : List UInt8} (h : Reads w 1 (some ⟨g, 0, none⟩) ts.length (strCells' ts)) (hi : ts[i]? = some x) : w.cell? ⟨g, i, none⟩ = some (.string ⟨x.toArray⟩) := by
 obtain ⟨ad, e, hc⟩ := str_at h hi
 obtain rfl := Option.some.inj e
 have e2 : (⟨g, 0, none⟩ : Addr).add i = ⟨g, i, none⟩ := by unfold Addr.add; split <;> simp_all
 rw [e2] at hc
 exact hc
theorem words_le : ∀ (ws : List (List UInt8)) (x : List UInt8), x ∈ ws → x.length ≤ (joinW ws).length
 | [], x, h => by cases h
 | [y], x, h => by rw [List.mem_singleton.1 h]; exact Nat.le_refl _
 | y :: z :: l, x, h => by
  show x.length ≤ (y ++ 32 :: joinW (z :: l)).length
  rw [List.length_append, List.length_cons]
  rcases List.mem_cons.1 h with rfl | h
  · omega
  · have := words_le (z :: l) x h
    omega

end Go.Proofs.YthobmednnocklaaGreatDoor


/-! forms.count, forms.areWords. -/
namespace Go.Proofs.YthobmednnocklaaGreatDoor
open Go.RowKit Go.Shelf

theorem int2_long {s : ByteArray} (h : ¬ s.size ≤ 2) : int2 s.data.toList = none := by
 have hl := Lib.size_eq s
 unfold int2
 split
 · rw [if_neg (by omega)]
 · rfl
theorem atoi_all2 {s : ByteArray} (h : s.size ≤ 2) : Lib.atoiAll s.data.toList = Lib.NumEnd.ofOption (Lib.atoi s.data.toList) := Lib.atoiAll_short _ (by have hl := Lib.size_eq s; omega)
theorem int2_at {s r : ByteArray} {v : Int} (hv : Lib.atoiAll s.data.toList = .ok v) (h9 : s.size ≤ 2) (hr : r = ⟨(Lib.itoa v).toArray⟩) : (int2 s.data.toList).isSome = (decide (0 ≤ v) && (r.toList == s.toList)) ∧ ∀ n : Nat, int2 s.data.toList = some n → v = n := by
 have h := atoi_all2 h9
 rw [hv] at h
 have hl := Lib.size_eq s
 have ha : Lib.atoi s.data.toList = some v := by
  cases ha : Lib.atoi s.data.toList with
  | none => rw [ha] at h; cases h
  | some x => rw [ha] at h; exact congrArg some (Lib.NumEnd.ok.inj h).symm
 have hb : (r.toList == s.toList) = decide (Lib.itoa v = s.data.toList) := by
  rw [Lib.toList_data, Lib.toList_data, hr, Bool.eq_iff_iff, beq_iff_eq, decide_eq_true_eq]
 unfold int2
 rw [ha, hb]
 simp only
 by_cases c : 0 ≤ v ∧ Lib.itoa v = s.data.toList
 · rw [if_pos ⟨by omega, c.1, c.2⟩, decide_eq_true c.1, decide_eq_true c.2]
   exact ⟨rfl, fun n hn => by have := Option.some.inj hn; omega⟩
 · rw [if_neg (fun x => c ⟨x.2.1, x.2.2⟩)]
   refine ⟨?_, fun n hn => by cases hn⟩
   rw [← Bool.decide_and, decide_eq_false c]
   rfl
def CountRes (s : List UInt8) (w : World) (e : Ending) (w' : World) : Prop := ∃ v : Int, e = .returned (.tuple #[.int .i64 v, .bool (int2 s).isSome]) ∧ (∀ n : Nat, int2 s = some n → v = n) ∧ Bl w w'

set_option maxRecDepth 100000 in
set_option maxHeartbeats 1000000 in
theorem count_any (s : ByteArray) (w : World) (hs : s.size ≤ 281474976710656) (hN : NumOk w) :
 Calls Tryz.prog 202 #[.string s] w (CountRes s.data.toList w) := by
 have HN := Lib.hid hN
 clear hN
 by_cases hok : ∃ v, Lib.atoiAll s.data.toList = .ok v
 · obtain ⟨v, hv⟩ := hok
   obtain ⟨v0, v1⟩ := Lib.atoiAll_bounds hv
   have hA := Lib.hid (fun w => atoi_ok s hs v hv w)
   have Hv := Lib.hid hv
   clear hv
   by_cases h9 : s.size ≤ 2
   · obtain ⟨r, hr⟩ : ∃ r : ByteArray, r = ⟨(Lib.itoa v).toArray⟩ := ⟨_, rfl⟩
     have HNA := Lib.hid (int2_at Hv.out h9 hr)
     by_cases hp : 0 ≤ v
     · have HI : Hid (∀ w, NumOk w → Calls Tryz.prog 282 #[.int .i64 v] w fun e w' => e = .returned (.string r) ∧ Bl w w') := Lib.hid (by
        rw [hr]; exact fun w hN => itoa_any v v0 v1 w hN)
       clear hr
       cases hrs : (r.toList == s.toList)
       all_goals
        have Hrs := Lib.hid hrs
        go_enter Tryz.func202, Tryz.ntmps202
        go_wp2_with (go_at_call 226; refine (hA.out _).mono ?_; rintro e w1 ⟨rfl, hb1⟩)
        go_wp2_with (go_at_call 282; refine (HI.out _ (HN.out.bl hb1)).mono ?_; rintro e w2 ⟨rfl, hb2⟩)
        go_ret2
        refine ⟨v, ?_, HNA.out.2, hb1.trans hb2⟩
        rw [HNA.out.1, Hrs.out, decide_eq_true hp]
        first
         | rfl
         | (simp; done)
     · have HX := Lib.hid (show (int2 s.data.toList).isSome = false by rw [HNA.out.1, decide_eq_false hp]; rfl)
       clear hr
       go_enter Tryz.func202, Tryz.ntmps202
       go_wp2_with (go_at_call 226; refine (hA.out _).mono ?_; rintro e w1 ⟨rfl, hb1⟩)
       go_ret2
       exact ⟨v, by rw [HX.out]; rfl, HNA.out.2, hb1⟩
   · have HX := Lib.hid (int2_long h9)
     go_enter Tryz.func202, Tryz.ntmps202
     go_wp2_with (go_at_call 226; refine (hA.out _).mono ?_; rintro e w1 ⟨rfl, hb1⟩)
     go_ret2
     exact ⟨v, by rw [HX.out]; rfl, (fun n h => by rw [HX.out] at h; cases h), hb1⟩
 · have hbad : ∀ v, Lib.atoiAll s.data.toList ≠ .ok v := fun v h => hok ⟨v, h⟩
   have HX : Hid (int2 s.data.toList = none) := Lib.hid (by
    by_cases h9 : s.size ≤ 2
    · have := atoi_all2 h9
      unfold int2
      cases ha : Lib.atoi s.data.toList with
      | none => rfl
      | some v => rw [ha] at this; exact absurd this (hbad v)
    · exact int2_long h9)
   have HA := Lib.hid (fun w hN => atoi_bad s hs hbad w hN)
   clear hbad hok
   go_enter Tryz.func202, Tryz.ntmps202
   go_wp2_with (go_at_call 226; refine (HA.out _ HN.out).mono ?_; rintro e w1 ⟨v, T, N, rfl, hb1⟩)
   go_ret2
   exact ⟨v, by rw [HX.out]; rfl, (fun n h => by rw [HX.out] at h; cases h), hb1⟩


theorem words_stop {t x : List UInt8} {i : Nat} (h : (wordsOf t)[i]? = some x) (hn : (!x.isEmpty && printB x) = false) : wordsB t = false := by
 unfold wordsB
 rw [List.all_eq_false]
 exact ⟨x, List.mem_of_getElem? h, by rw [hn]; decide⟩
theorem words_end {t : List UInt8} (h : ∀ (j : Nat) x, j < (wordsOf t).length → (wordsOf t)[j]? = some x → (!x.isEmpty && printB x) = true) : wordsB t = true := by
 unfold wordsB
 rw [List.all_eq_true]
 intro x hx
 obtain ⟨j, hj⟩ := List.getElem?_of_mem hx
 exact h j x (List.getElem?_eq_some_iff.1 hj).1 hj
theorem wordsOf_le (t : List UInt8) : ∀ x ∈ wordsOf t, x.length ≤ t.length := fun x hx => by
 have hj := (wordsOf_spec _ t (Nat.le_refl _)).2.1
 have := words_le (wordsOf t) x hx
 rwa [hj] at this
theorem joinW_len : ∀ (l : List (List UInt8)), l.length ≤ (joinW l).length + 1
 | [] => Nat.zero_le _
 | [_] => by simp
 | x :: y :: l => by
  have := joinW_len (y :: l)
  show (y :: l).length + 1 ≤ (x ++ 32 :: joinW (y :: l)).length + 1
  simp only [List.length_append, List.length_cons] at this ⊢
  omega
theorem wordsOf_num (t : List UInt8) : (wordsOf t).length ≤ t.length + 1 := by
 have hj := (wordsOf_spec _ t (Nat.le_refl _)).2.1
 have := joinW_len (wordsOf t)
 rwa [hj] at this
set_option maxRecDepth 100000 in
set_option maxHeartbeats 2000000 in
theorem areWords_any (t : List UInt8) (w : World) (hl : t.length < 1048577) (hC : SplitOk w) : Calls Tryz.prog 204 #[.string ⟨t.toArray⟩] w fun e w' => e = .returned (.bool (wordsB t)) ∧ Bl w w' := by
 have hsp := splitS_any t w (by omega) hC
 have hstop := fun i x => words_stop (t := t) (x := x) (i := i)
 have hend := words_end (t := t)
 have hle := wordsOf_le t
 have hnum := wordsOf_num t
 obtain ⟨V, hV⟩ : ∃ y, y = wordsB t := ⟨_, rfl⟩
 rw [← hV] at hstop hend ⊢
 generalize wordsOf t = ws at hsp hstop hend hle hnum
 have Hsp := Lib.hid hsp; have Hst := Lib.hid hstop; have Hend := Lib.hid hend; have Hle := Lib.hid hle
 clear hsp hstop hend hle hV hC
 go_enter Tryz.func204, Tryz.ntmps204
 go_wp2_with fail
 refine Hsp.out.mono ?_
 rintro e w2 ⟨c, rfl, hr, hb2⟩
 have HR := Lib.hid hr; have Hb2 := Lib.hid hb2
 clear hr hb2
 go_wp2_with fail
 go_loop [9] (fun u => ∃ i : Nat, i ≤ ws.length ∧ u = .int .i64 i ∧ ∀ (j : Nat) x, j < i → ws[j]? = some x → (!x.isEmpty && printB x) = true) (fun u => ws.length - (RowKit.intOf u).toNat)
 case atStart => exact ⟨0, Nat.zero_le _, rfl, fun j x hj => absurd hj (Nat.not_lt_zero _)⟩
 case round =>
  obtain ⟨i, hi, rfl, hall⟩ := hrel
  have HAll := Lib.hid hall
  clear hall
  by_cases hlt : i < ws.length
  · have hg : ws[i]? = some ws[i] := List.getElem?_eq_getElem hlt
    obtain ⟨x, hx⟩ : ∃ l, l = ws[i] := ⟨_, rfl⟩
    rw [← hx] at hg
    have hc := str_cell HR.out hg
    have hxl := Hle.out x (List.mem_of_getElem? hg)
    have hsz : (⟨x.toArray⟩ : ByteArray).size = x.length := Lib.size_mk x
    have HG := Lib.hid hg
    clear hg hx
    cases he : x.isEmpty with
    | true =>
     have HX := Lib.hid (Hst.out i x HG.out (by rw [he]; rfl))
     go_wp2_with fail
     go_ret
     exact ⟨by rw [HX.out]; rfl, Hb2.out⟩
    | false =>
     have He := Lib.hid he
     go_wp2_with fail
     go_loop [17] (fun u => ∃ k : Nat, k ≤ x.length ∧ u = .int .i64 k ∧ ∀ (j : Nat) b, j < k → x[j]? = some b → okC b) (fun u => x.length - (RowKit.intOf u).toNat)
     case atStart => exact ⟨0, Nat.zero_le _, rfl, fun j b hj => absurd hj (Nat.not_lt_zero _)⟩
     case round =>
      obtain ⟨k, hk, rfl, hcs⟩ := hrel
      have HC := Lib.hid hcs
      clear hcs
      by_cases hlk : k < x.length
      · have hih : k < (⟨x.toArray⟩ : ByteArray).size := by rw [hsz]; exact hlk
        have hgi := Lib.getElem_mk x k hih
        obtain ⟨c', hc'⟩ : ∃ c, c = (⟨x.toArray⟩ : ByteArray)[k]'hih := ⟨_, rfl⟩
        rw [← hc'] at hgi
        have HGi := Lib.hid hgi
        have hc2 := hc'.symm
        clear hc' hgi
        by_cases c1 : (c'.toNat : Int) < 33
        · have HX := Lib.hid (Hst.out i x HG.out (by rw [printB_stop HGi.out (show ¬ okC c' from fun h => by unfold okC at h; omega), Bool.and_false]))
          go_wp2_with fail
          go_ret
          exact ⟨by rw [HX.out]; rfl, Hb2.out⟩
        · by_cases c3 : 126 < (c'.toNat : Int)
          · have HX := Lib.hid (Hst.out i x HG.out (by rw [printB_stop HGi.out (show ¬ okC c' from fun h => by unfold okC at h; omega), Bool.and_false]))
            go_wp2_with fail
            go_ret
            exact ⟨by rw [HX.out]; rfl, Hb2.out⟩
          · have HO := Lib.hid (show okC c' from ⟨by omega, by omega⟩)
            go_wp2_with fail
            exact ⟨⟨k + 1, hlk, by go_num, fun j b hj hb => by
             rcases Nat.lt_succ_iff_lt_or_eq.1 hj with h | rfl
             · exact HC.out j b h hb
             · rw [HGi.out] at hb
               obtain rfl := Option.some.inj hb
               exact HO.out⟩, by simp [RowKit.intOf]; omega⟩
      · obtain rfl : k = x.length := by omega
        have HE := Lib.hid (printB_end HC.out)
        go_wp2_with fail
        exact ⟨⟨i + 1, hlt, by go_num, fun j b hj hb => by
         rcases Nat.lt_succ_iff_lt_or_eq.1 hj with h | rfl
         · exact HAll.out j b h hb
         · rw [HG.out] at hb
           obtain rfl := Option.some.inj hb
           rw [He.out, HE.out]; rfl⟩, by simp [RowKit.intOf]; omega⟩
  · obtain rfl : i = ws.length := by omega
    have HX := Lib.hid (Hend.out HAll.out)
    go_wp2_with fail
    go_ret
    exact ⟨by rw [HX.out]; rfl, Hb2.out⟩
end Go.Proofs.YthobmednnocklaaGreatDoor


/-! forms.checkRule: plain facts on names and kinds. -/
namespace Go.Proofs.YthobmednnocklaaGreatDoor
open Go.RowKit

theorem kindOf_cons (f : Fld) (fs : List Fld) (nm : List UInt8) : kindOf (f :: fs) nm = if f.name = nm then some f.kind else kindOf fs nm := by
 unfold kindOf
 rw [List.find?_cons]
 by_cases h : f.name = nm
 · rw [decide_eq_true h, if_pos h]; rfl
 · rw [decide_eq_false h, if_neg h]
theorem kindOf_none {fs : List Fld} {nm : List UInt8} (h : ∀ l ∈ fs, isName nm l = false) : kindOf fs nm = none := by
 induction fs with
 | nil => rfl
 | cons f fs ih =>
  rw [kindOf_cons, if_neg (of_decide_eq_false (h f (by simp)))]
  exact ih fun l hl => h l (List.mem_cons_of_mem _ hl)
theorem kindOf_at : ∀ {fs : List Fld} {nm : List UInt8} {j : Nat} {l : Fld}, fs[j]? = some l → isName nm l = true → (∀ j' l', j' < j → fs[j']? = some l' → isName nm l' = false) → kindOf fs nm = some l.kind
 | [], _, _, _, h, _, _ => by simp at h
 | f :: fs, nm, 0, l, h, hp, _ => by
  simp only [List.getElem?_cons_zero, Option.some.injEq] at h
  subst h
  rw [kindOf_cons, if_pos (of_decide_eq_true hp)]
 | f :: fs, nm, j + 1, l, h, hp, hn => by
  have h0 := hn 0 f (Nat.succ_pos _) rfl
  rw [kindOf_cons, if_neg (of_decide_eq_false h0)]
  exact kindOf_at (by simpa using h) hp fun j' l' hj hl => hn (j' + 1) l' (by omega) (by simpa using hl)
/-- What a search by name tells of the kind. -/
theorem firstG_kind {fs : List Fld} {nm : List UInt8} {i : Int} (h : FirstG fs (isName nm) i) : (i < 0 ∧ kindOf fs nm = none) ∨ ∃ (j : Nat) (l : Fld), i = (j : Int) ∧ fs[j]? = some l ∧ kindOf fs nm = some l.kind := by
 rcases h with ⟨rfl, h⟩ | ⟨j, l, rfl, hl, hp, hn⟩
 · exact .inl ⟨by omega, kindOf_none h⟩
 · exact .inr ⟨j, l, rfl, hl, kindOf_at hl hp hn⟩
end Go.Proofs.YthobmednnocklaaGreatDoor


/-! The plain law of values: what is wrong with them. -/
namespace Go.Proofs.YthobmednnocklaaGreatDoor

def fldOf (fs : List Fld) (nm : List UInt8) : Option Fld := fs.find? (isName nm)
theorem fldOf_none {fs : List Fld} {nm : List UInt8} (h : ∀ l ∈ fs, isName nm l = false) : fldOf fs nm = none := by
 unfold fldOf
 rw [List.find?_eq_none]
 intro l hl
 rw [h l hl]
 decide
theorem fldOf_at : ∀ {fs : List Fld} {nm : List UInt8} {j : Nat} {l : Fld}, fs[j]? = some l → isName nm l = true → (∀ j' l', j' < j → fs[j']? = some l' → isName nm l' = false) → fldOf fs nm = some l
 | [], _, _, _, h, _, _ => by simp at h
 | f :: fs, nm, 0, l, h, hp, _ => by
  simp only [List.getElem?_cons_zero, Option.some.injEq] at h
  subst h
  unfold fldOf
  rw [List.find?_cons, hp]
 | f :: fs, nm, j + 1, l, h, hp, hn => by
  have h0 := hn 0 f (Nat.succ_pos _) rfl
  unfold fldOf
  rw [List.find?_cons, h0]
  exact fldOf_at (by simpa using h) hp fun j' l' hj hl => hn (j' + 1) l' (by omega) (by simpa using hl)
theorem firstG_fld {fs : List Fld} {nm : List UInt8} {i : Int} (h : FirstG fs (isName nm) i) : (i < 0 ∧ fldOf fs nm = none) ∨ ∃ (j : Nat) (l : Fld), i = (j : Int) ∧ fs[j]? = some l ∧ fldOf fs nm = some l := by
 rcases h with ⟨rfl, h⟩ | ⟨j, l, rfl, hl, hp, hn⟩
 · exact .inl ⟨by omega, fldOf_none h⟩
 · exact .inr ⟨j, l, rfl, hl, fldOf_at hl hp hn⟩
/-- Marks that do not rise, up to the j-th. -/
def wrongTo (w0 : Bool) (l : List Int) : Nat → Bool
 | 0 => w0
 | j + 1 => wrongTo w0 l j || (decide (1 ≤ j) && decide (l.getD j 0 ≤ l.getD (j - 1) 0))
theorem wrongTo_one (w0 : Bool) (l : List Int) : wrongTo w0 l 1 = w0 := by show (w0 || (decide (1 ≤ 0) && _)) = w0; simp
theorem wrongTo_succ (w0 : Bool) (l : List Int) {j : Nat} (hj : 1 ≤ j) : wrongTo w0 l (j + 1) = (wrongTo w0 l j || decide (l.getD j 0 ≤ l.getD (j - 1) 0)) := by
 show (wrongTo w0 l j || (decide (1 ≤ j) && decide (l.getD j 0 ≤ l.getD (j - 1) 0))) = _
 rw [decide_eq_true hj, Bool.true_and]
theorem wrongTo_mono {w0 : Bool} {l : List Int} {j : Nat} (h : wrongTo w0 l j = true) : ∀ n, j ≤ n → wrongTo w0 l n = true := by
 intro n hn
 induction n with
 | zero => obtain rfl : j = 0 := by omega
           exact h
 | succ n ih =>
  rcases Nat.lt_or_ge n j with h1 | h1
  · obtain rfl : j = n + 1 := by omega
    exact h
  · show (wrongTo w0 l n || _) = true
    rw [ih h1, Bool.true_or]
def wrongV (x : Fld) (v : Vlu) : Bool := (marksB x.kind && !v.text.isEmpty) || ((!marksB x.kind && decide (0 < v.marks.length)) || (decide (x.kind = 3) && decide (1 < v.marks.length)))
def rangeE (x : Fld) (l : List Int) : Int := whenI (l.any fun m => !inB m 0 ((x.marks.length : Int) - 1)) 3
/-- The errors of marks' places, one by one. -/
def rangeTo (e : Int) (x : Fld) (l : List Int) : Int := firstNZ [e, rangeE x l]
theorem firstNZ_pair (a b : Int) : firstNZ [a, b] = if a = 0 then b else a := by
 by_cases ha : a = 0
 · rw [firstNZ_eq ha, if_pos ha]
   show (if b = 0 then 0 else b) = b
   split
   · rename_i h; rw [h]
   · rfl
 · rw [firstNZ_stop ha, if_neg ha]
theorem rangeE_snoc (x : Fld) (l : List Int) (m : Int) : firstNZ [rangeE x l, whenI (!inB m 0 ((x.marks.length : Int) - 1)) 3] = rangeE x (l ++ [m]) := by
 unfold rangeE
 rw [List.any_append, firstNZ_pair]
 cases h1 : (l.any fun m => !inB m 0 ((x.marks.length : Int) - 1)) <;> cases h2 : inB m 0 ((x.marks.length : Int) - 1) <;> simp [h2, whenI]
theorem rangeTo_snoc (e : Int) (x : Fld) (l : List Int) (m : Int) : firstNZ [rangeTo e x l, whenI (!inB m 0 ((x.marks.length : Int) - 1)) 3] = rangeTo e x (l ++ [m]) := by
 unfold rangeTo
 rw [← rangeE_snoc, firstNZ_pair, firstNZ_pair, firstNZ_pair, firstNZ_pair]
 by_cases h : e = 0
 · rw [if_pos h, if_pos h]
 · rw [if_neg h, if_neg h, if_neg h]
end Go.Proofs.YthobmednnocklaaGreatDoor


/-! The plain law of forms that are filled. -/
namespace Go.Proofs.YthobmednnocklaaGreatDoor
open Go.RowKit

/-! ### values that may not say how sure they are -/
def wrongW (x : Fld) (v : Vlu) : Bool := !decide (v.sure = 0) || wrongV x v
def wrongAllS (x : Fld) (v : Vlu) : Bool := wrongTo (wrongW x v) v.marks (max 1 v.marks.length)
def vluErrS (fs : List Fld) (tw : Bool) (v : Vlu) : Int := match fldOf fs v.field with
 | none => 10
 | some x => firstNZ [whenI tw 6, whenI (wrongAllS x v) 2, rangeE x v.marks]

/-! ### marks that are filled in -/
/-- The places of a box, row by row. -/
def boxHit (W X Y w : Nat) : Nat → Nat → Bool
 | 0, _ => false
 | i + 1, k => boxHit W X Y w i k || decide (k = (Y + i / w) * W + (X + i % w))
theorem boxHit_iff (W X Y w k : Nat) : ∀ n, boxHit W X Y w n k = true ↔ ∃ i, i < n ∧ k = (Y + i / w) * W + (X + i % w)
 | 0 => by
  constructor
  · intro h; cases h
  · rintro ⟨i, hi, -⟩; omega
 | n + 1 => by
  show (boxHit W X Y w n k || decide _) = true ↔ _
  rw [Bool.or_eq_true, boxHit_iff W X Y w k n, decide_eq_true_eq]
  constructor
  · rintro (⟨i, hi, e⟩ | e)
    · exact ⟨i, by omega, e⟩
    · exact ⟨n, Nat.lt_succ_self n, e⟩
  · rintro ⟨i, hi, e⟩
    rcases Nat.lt_succ_iff_lt_or_eq.1 hi with h | rfl
    · exact .inl ⟨i, h, e⟩
    · exact .inr e
theorem boxHit_all {W X Y w h k : Nat} (hw : 1 ≤ w) (hX : X + w ≤ W) : boxHit W X Y w (w * h) k = decide (X ≤ k % W ∧ k % W < X + w ∧ Y ≤ k / W ∧ k / W < Y + h) := by
 rw [Bool.eq_iff_iff, boxHit_iff, decide_eq_true_eq]
 constructor
 · rintro ⟨i, hi, e⟩
   have h1 : i % w < w := Nat.mod_lt _ hw
   have h2 : i / w < h := Nat.div_lt_of_lt_mul hi
   generalize i % w = p at h1 e
   generalize i / w = q at h2 e
   have h3 : X + p < W := by omega
   have e1 : k % W = X + p := by rw [e, Nat.mul_comm, Nat.mul_add_mod, Nat.mod_eq_of_lt h3]
   have e2 : k / W = Y + q := by rw [e, Nat.mul_comm, Nat.mul_add_div (by omega), Nat.div_eq_of_lt h3, Nat.add_zero]
   rw [e1, e2]
   omega
 · rintro ⟨a1, a2, a3, a4⟩
   have hdm := Nat.div_add_mod k W
   obtain ⟨p, hp⟩ : ∃ p, k % W = X + p := ⟨k % W - X, by omega⟩
   obtain ⟨q, hq⟩ : ∃ q, k / W = Y + q := ⟨k / W - Y, by omega⟩
   rw [hp, hq] at hdm
   rw [hp] at a1 a2
   rw [hq] at a3 a4
   have hpw : p < w := by omega
   have hqh : q < h := by omega
   refine ⟨q * w + p, ?_, ?_⟩
   · have := place_lt hpw hqh
     exact this
   · have e1 : (q * w + p) % w = p := by rw [Nat.mul_comm, Nat.mul_add_mod, Nat.mod_eq_of_lt hpw]
     have e2 : (q * w + p) / w = q := by rw [Nat.mul_comm, Nat.mul_add_div (by omega), Nat.div_eq_of_lt hpw, Nat.add_zero]
     rw [e1, e2, Nat.mul_comm (Y + q) W]
     omega
def boxIn (b : Bx) (u v : Nat) : Bool := decide (b.X ≤ (u : Int) ∧ (u : Int) < b.X + b.W ∧ b.Y ≤ (v : Int) ∧ (v : Int) < b.Y + b.H)
def fillF (pg : List Bool) (W : Nat) (b : Bx) (u v : Nat) : Bool := pix pg W u v || boxIn b u v
def markB (W H : Nat) (pg : List Bool) (b : Bx) : List Bool := grid W H (fillF pg W b)
theorem mark_cells {W H X Y w h : Nat} {pg : List Bool} {b : Bx} (hb : b = ⟨X, Y, w, h⟩) (hw : 1 ≤ w) (hX : X + w ≤ W) : tabB (W * H) (fun k => pg.getD k false || boxHit W X Y w (w * h) k) = ((markB W H pg b).map Value.bool).toArray := by
 unfold tabB markB grid
 rw [List.map_map]
 congr 1
 refine List.map_congr_left fun k hk => ?_
 show Value.bool (pg.getD k false || boxHit W X Y w (w * h) k) = Value.bool (fillF pg W b (k % W) (k / W))
 have e : k / W * W + k % W = k := by rw [Nat.mul_comm]; exact Nat.div_add_mod k W
 unfold fillF boxIn pix
 rw [e, boxHit_all hw hX, hb]
 congr 2
 rw [decide_eq_decide]
 simp only
 omega
/-- What the reference pastes: a full page of the box's size. -/
theorem fillF_paste {W H X Y w h : Nat} {pg : List Bool} {b : Bx} {u v : Nat} (hb : b = ⟨X, Y, w, h⟩) (hX : X + w ≤ W) (hY : Y + h ≤ H) (hw : 1 ≤ w) (hh : 1 ≤ h) : pasteF pg (grid w h (fun _ _ => true)) W H w h X Y u v = fillF pg W b u v := by
 unfold fillF
 cases hp : pix pg W u v with
 | true => rw [pasteF_pix hp]; rfl
 | false =>
  have ha : isApart W H w h X Y = false := by
   unfold isApart
   simp
   omega
  rw [pasteF_at hp ha, Bool.false_or]
  unfold boxIn atI
  rw [hb]
  simp only
  by_cases hin : (X : Int) ≤ (u : Int) ∧ (u : Int) < (X : Int) + (w : Int) ∧ (Y : Int) ≤ (v : Int) ∧ (v : Int) < (Y : Int) + (h : Int)
  · rw [decide_eq_true hin, decide_eq_true (by omega), Bool.true_and]
    obtain ⟨p, hp⟩ : ∃ p : Nat, (u : Int) - (X : Int) = (p : Int) := ⟨u - X, by omega⟩
    obtain ⟨q, hq⟩ : ∃ q : Nat, (v : Int) - (Y : Int) = (q : Int) := ⟨v - Y, by omega⟩
    rw [hp, hq, Int.toNat_natCast, Int.toNat_natCast, Int.toNat_natCast]
    have hpw : p < w := by omega
    have hqh : q < h := by omega
    rw [List.getD_eq_getElem?_getD, grid_at w h _ _ (place_lt hpw hqh)]
    rfl
  · rw [decide_eq_false hin, decide_eq_false (by omega), Bool.false_and]
def marksTo (W H : Nat) (x : Fld) (l : List Int) (pg : List Bool) : Nat → List Bool
 | 0 => pg
 | i + 1 => match l[i]? with
  | none => marksTo W H x l pg i
  | some n => match x.marks[n.toNat]? with
   | none => marksTo W H x l pg i
   | some b => markB W H (marksTo W H x l pg i) b
theorem marksTo_succ {W H : Nat} {x : Fld} {l : List Int} {pg : List Bool} {i n : Nat} {b : Bx} (h1 : l[i]? = some (n : Int)) (h2 : x.marks[n]? = some b) : marksTo W H x l pg (i + 1) = markB W H (marksTo W H x l pg i) b := by
 show (match l[i]? with | none => _ | some n => _) = _
 rw [h1]
 simp only [Int.toNat_natCast, h2]
theorem markB_len (W H : Nat) (pg : List Bool) (b : Bx) : (markB W H pg b).length = W * H := grid_length _ _ _
theorem marksTo_len {W H : Nat} {x : Fld} {l : List Int} {pg : List Bool} (h : pg.length = W * H) : ∀ i, (marksTo W H x l pg i).length = W * H
 | 0 => h
 | i + 1 => by
  have ih := marksTo_len (x := x) (l := l) h i
  show (match l[i]? with | none => _ | some n => _ : List Bool).length = _
  split
  · exact ih
  · split
    · exact ih
    · exact markB_len _ _ _ _
theorem page_tab {W H : Nat} {pg : List Bool} (h : pg.length = W * H) : (pg.map Value.bool).toArray = tabB (W * H) (fun k => pg.getD k false) := by
 unfold tabB
 congr 1
 refine List.ext_getElem? fun k => ?_
 rw [List.getElem?_map, List.getElem?_map]
 by_cases hk : k < W * H
 · rw [List.getElem?_range hk, List.getElem?_eq_getElem (by omega)]
   show some (Value.bool _) = some (Value.bool (pg.getD k false))
   rw [List.getD_eq_getElem?_getD, List.getElem?_eq_getElem (show k < pg.length by omega)]
   rfl
 · rw [List.getElem?_eq_none (show pg.length ≤ k by omega), List.getElem?_eq_none (by simpa using Nat.le_of_not_lt hk)]
   rfl
end Go.Proofs.YthobmednnocklaaGreatDoor


/-! bedref2.Number of at most two digits. -/
namespace Go.Proofs.YthobmednnocklaaGreatDoor
open Go.RowKit Go.Shelf

/-- What bedref2.Number(s, 2) reads. -/
def plain2 (s : List UInt8) : Bool := !s.isEmpty && (decide (s.length ≤ 2) && (s.all isDg && !(decide (1 < s.length) && s.getD 0 0 == 48)))
theorem dec_len2 {n : Nat} (h : n ≤ 99) : (Lib.decDigits n).length ≤ 2 := by
 rw [Lib.decDigits_length]
 by_cases h1 : n < 10
 · rw [Lib.nDigits_small h1]; omega
 · rw [Lib.nDigits_big h1, Lib.nDigits_small (by omega)]; omega
theorem len_dec2 {n : Nat} (h : (Lib.decDigits n).length ≤ 2) : n ≤ 99 := by
 rw [Lib.decDigits_length] at h
 have h1 := Lib.lt_pow_nDigits n
 have h2 : 10 ^ Lib.nDigits n ≤ 10 ^ 2 := Nat.pow_le_pow_right (by decide) h
 omega
theorem atoi_of_dec (n : Nat) : Lib.atoi (Lib.decDigits n) = some (n : Int) := by
 rcases Nat.eq_zero_or_pos n with rfl | h
 · rw [dec_small (by decide)]; decide
 · exact atoi_digits h
theorem int2_iff (s : List UInt8) (n : Nat) : int2 s = some n ↔ n ≤ 99 ∧ s = Lib.decDigits n := by
 constructor
 · intro h
   unfold int2 at h
   cases ha : Lib.atoi s with
   | none => rw [ha] at h; cases h
   | some v =>
    rw [ha] at h
    simp only at h
    split at h
    · rename_i hc
      obtain ⟨h4, hv, hi⟩ := hc
      obtain rfl := Option.some.inj h
      unfold Lib.itoa at hi
      rw [if_neg (by omega)] at hi
      exact ⟨len_dec2 (by rw [hi]; exact h4), hi.symm⟩
    · cases h
 · rintro ⟨h9, rfl⟩
   unfold int2
   rw [atoi_of_dec n]
   simp only
   rw [if_pos ⟨dec_len2 h9, by omega, by unfold Lib.itoa; rw [if_neg (by omega), Int.toNat_natCast]⟩, Int.toNat_natCast]
theorem plain2_dec {s : List UInt8} (hp : plain2 s = true) : ∃ n, n ≤ 99 ∧ s = Lib.decDigits n := by
 unfold plain2 at hp
 simp only [Bool.and_eq_true, Bool.not_eq_true', decide_eq_true_eq] at hp
 obtain ⟨hne, h4, hall, hz⟩ := hp
 obtain ⟨b, l, rfl⟩ : ∃ b l, s = b :: l := by
  cases s with
  | nil => cases hne
  | cons b l => exact ⟨b, l, rfl⟩
 have hb : 48 ≤ b.toNat ∧ b.toNat ≤ 57 := of_decide_eq_true (List.all_eq_true.1 hall b (List.mem_cons_self ..))
 have key : ∀ (l : List UInt8) (acc : Nat), l.all isDg = true → ∃ m, Lib.decFrom acc l = some m := by
  intro l
  induction l with
  | nil => intro acc _; exact ⟨acc, rfl⟩
  | cons b l ih =>
   intro acc h
   rw [List.all_cons, Bool.and_eq_true] at h
   have hb : 48 ≤ b.toNat ∧ b.toNat ≤ 57 := of_decide_eq_true h.1
   have hd : Lib.digitVal b = some (b.toNat - 48) := by unfold Lib.digitVal; rw [if_pos (by omega)]
   show ∃ m, (match Lib.digitVal b with | some d => Lib.decFrom (acc * 10 + d) l | none => none) = some m
   rw [hd]
   exact ih _ h.2
 obtain ⟨m, hm⟩ := key (b :: l) 0 hall
 have hdd := digits_dec l.length (b :: l) m rfl (by
  by_cases hk : l.length = 0
  · exact .inr hk
  · left
    rw [decide_eq_true (by simp only [List.length_cons]; omega)] at hz
    simpa using hz) hm
 exact ⟨m, len_dec2 (by rw [hdd]; exact h4), hdd.symm⟩
theorem plain2_of_dec {n : Nat} (h9 : n ≤ 99) : plain2 (Lib.decDigits n) = true := by
 rcases Nat.eq_zero_or_pos n with rfl | h1
 · rw [dec_small (by decide)]; decide
 · obtain ⟨b, l, e, hb⟩ := dec_head n h1
   unfold plain2
   simp only [Bool.and_eq_true, Bool.not_eq_true', decide_eq_true_eq]
   refine ⟨by rw [e]; rfl, dec_len2 h9, List.all_eq_true.2 fun x hx => decide_eq_true (dec_all n x hx), ?_⟩
   rw [e]
   simp [hb]
theorem int2_plain (s : List UInt8) : (int2 s).isSome = plain2 s := by
 cases hp : plain2 s with
 | true =>
  obtain ⟨n, h9, rfl⟩ := plain2_dec hp
  rw [(int2_iff _ n).2 ⟨h9, rfl⟩]; rfl
 | false =>
  cases hi : int2 s with
  | none => rfl
  | some n =>
   obtain ⟨h9, rfl⟩ := (int2_iff _ n).1 hi
   rw [plain2_of_dec h9] at hp
   cases hp
theorem int2_not {s : List UInt8} (h : plain2 s = false) : int2 s = none := by
 have := int2_plain s
 rw [h] at this
 cases hi : int2 s with
 | none => rfl
 | some n => rw [hi] at this; cases this
theorem plain2_of {s : ByteArray} (h0 : 0 < s.size) (h4 : s.size ≤ 2) (ha : s.data.toList.all isDg = true) : plain2 s.data.toList = !(decide (1 < s.size) && ((s[0].toNat : Int) == 48)) := by
 have hl := Lib.size_eq s
 have hd := head_of h0
 unfold plain2
 rw [ha, List.getD_eq_getElem?_getD, hd]
 have he : s.data.toList.isEmpty = false := by
  cases e : s.data.toList with
  | nil => rw [e, List.length_nil] at hl; omega
  | cons _ _ => rfl
 rw [he, decide_eq_true (show s.data.toList.length ≤ 2 by omega), ← hl]
 have : (s[0] == 48) = ((s[0].toNat : Int) == 48) := by
  rw [Bool.eq_iff_iff, beq_iff_eq, beq_iff_eq]
  constructor
  · intro h; rw [h]; rfl
  · intro h; apply UInt8.toNat_inj.1; show s[0].toNat = 48; omega
 show (!false && (true && (true && !(decide (1 < s.size) && (s[0] == 48))))) = _
 rw [this]
 simp
theorem plain2_no {s : ByteArray} (h : ¬ (0 < s.size ∧ s.size ≤ 2 ∧ s.data.toList.all isDg = true)) : plain2 s.data.toList = false := by
 have hl := Lib.size_eq s
 cases e : plain2 s.data.toList with
 | false => rfl
 | true =>
  unfold plain2 at e
  simp only [Bool.and_eq_true, Bool.not_eq_true', decide_eq_true_eq] at e
  obtain ⟨e1, e2, e3, -⟩ := e
  refine absurd ⟨?_, by omega, e3⟩ h
  rcases Nat.eq_zero_or_pos s.size with hz | hz
  · rw [List.eq_nil_of_length_eq_zero (show s.data.toList.length = 0 by omega)] at e1; cases e1
  · exact hz
theorem count_no {s : ByteArray} {w w' : World} {v : Int} (h : int2 s.data.toList = none) (hb : Bl w w') : CountRes s.data.toList w (.returned (.tuple #[.int .i64 v, .bool false])) w' :=
 ⟨v, by rw [h]; rfl, (fun n hn => by rw [h] at hn; cases hn), hb⟩
theorem count_yes {s : ByteArray} {w w' : World} {v : Int} (hp : plain2 s.data.toList = true) (ha : Lib.atoi s.data.toList = some v) (hb : Bl w w') : CountRes s.data.toList w (.returned (.tuple #[.int .i64 v, .bool true])) w' := by
 refine ⟨v, by rw [int2_plain, hp], (fun n hn => ?_), hb⟩
 obtain ⟨h9, e⟩ := (int2_iff _ n).1 hn
 rw [e, atoi_of_dec n] at ha
 exact (Option.some.inj ha).symm

set_option maxRecDepth 100000 in
set_option maxHeartbeats 1000000 in
theorem number2_any (s : ByteArray) (w : World) (hs : s.size ≤ 281474976710656) :
 Calls Tryz.prog 142 #[.string s, .int .i64 2] w fun e w' => CountRes s.data.toList w e w' := by
 by_cases h0 : 0 < s.size
 · have he := nonempty_of h0
   by_cases h4 : s.size ≤ 2
   · obtain ⟨r, hr⟩ : ∃ r : ByteArray, r = ⟨(Lib.trimS s.data.toList digCs).toArray⟩ := ⟨_, rfl⟩
     have hT : ∀ w, Calls Tryz.prog 130 #[.string s, .string ⟨digCs.toArray⟩] w fun e w' => e = .returned (.string r) ∧ Below w.heap.size w w' := by
      rw [hr]; exact fun w => Any.strings_Trim_laid Tryz.lays160 (by kernel_rfl) s ⟨digCs.toArray⟩ w (by omega) (by decide) (ascii_of_all (by decide))
     have hall := trimDig_empty s r hr
     clear hr
     cases hre : r.toList.isEmpty with
     | false =>
      rw [hre] at hall
      have HX := Lib.hid (int2_not (plain2_no (s := s) (fun h => by rw [h.2.2] at hall; cases hall)))
      clear hall
      go_enter Tryz.func142, Tryz.ntmps142
      go_wp2_with (go_at_call 130; refine (hT _).mono ?_; rintro e w1 ⟨rfl, hb1⟩)
      go_ret2
      exact count_no HX.out hb1
     | true =>
      rw [hre] at hall
      have hpl := plain2_of h0 h4 hall.symm
      clear hall
      have HG : Hid (∀ v, Lib.atoiAll s.data.toList = .ok v → Lib.atoi s.data.toList = some v) := Lib.hid (fun v h => by
       have ht := atoi_all2 h4
       rw [h] at ht
       cases ha : Lib.atoi s.data.toList with
       | none => rw [ha] at ht; cases ht
       | some x => rw [ha] at ht; exact congrArg some (Lib.NumEnd.ok.inj ht).symm)
      have HV : Hid (plain2 s.data.toList = true → ∃ v, Lib.atoiAll s.data.toList = .ok v) := Lib.hid (fun h => by
       obtain ⟨n, -, e⟩ := plain2_dec h
       have ht := atoi_all2 h4
       rw [show Lib.atoi s.data.toList = some (n : Int) by rw [e, atoi_of_dec]] at ht
       exact ⟨_, ht⟩)
      by_cases h1 : 1 < s.size
      · cases hz : ((s[0].toNat : Int) == 48) with
        | true =>
         have HX := Lib.hid (int2_not (show plain2 s.data.toList = false by rw [hpl, hz, decide_eq_true h1]; rfl))
         clear hpl
         go_enter Tryz.func142, Tryz.ntmps142
         go_wp2_with (go_at_call 130; refine (hT _).mono ?_; rintro e w1 ⟨rfl, hb1⟩)
         go_ret2
         exact count_no HX.out hb1
        | false =>
         have HP := Lib.hid (show plain2 s.data.toList = true by rw [hpl, hz, Bool.and_false]; rfl)
         clear hpl
         obtain ⟨v, hv⟩ := HV.out HP.out
         have hA := fun w => atoi_ok s hs v hv w
         have HX := Lib.hid (HG.out v hv)
         clear hv
         go_enter Tryz.func142, Tryz.ntmps142
         go_wp2_with (go_at_call 130; refine (hT _).mono ?_; rintro e w1 ⟨rfl, hb1⟩)
         go_wp2_with (go_at_call 226; refine (hA _).mono ?_; rintro e w2 ⟨rfl, hb2⟩)
         go_region
         go_wp2_with fail
         go_ret2
         exact count_yes HP.out HX.out (Bl.drew (Bl.trans hb1 hb2))
      · have HP := Lib.hid (show plain2 s.data.toList = true by rw [hpl, decide_eq_false h1]; rfl)
        clear hpl
        obtain ⟨v, hv⟩ := HV.out HP.out
        have hA := fun w => atoi_ok s hs v hv w
        have HX := Lib.hid (HG.out v hv)
        clear hv
        go_enter Tryz.func142, Tryz.ntmps142
        go_wp2_with (go_at_call 130; refine (hT _).mono ?_; rintro e w1 ⟨rfl, hb1⟩)
        go_wp2_with (go_at_call 226; refine (hA _).mono ?_; rintro e w2 ⟨rfl, hb2⟩)
        go_region
        go_wp2_with fail
        go_ret2
        exact count_yes HP.out HX.out (Bl.drew (Bl.trans hb1 hb2))
   · have HX := Lib.hid (int2_not (plain2_no (s := s) (fun h => h4 h.2.1)))
     go_enter Tryz.func142, Tryz.ntmps142
     go_wp2_with fail
     go_ret2
     exact count_no HX.out (Bl.refl _)
 · have he := empty_of (show s.size = 0 by omega)
   have HX := Lib.hid (int2_not (plain2_no (s := s) (fun h => h0 h.1)))
   go_enter Tryz.func142, Tryz.ntmps142
   go_wp2_with fail
   go_ret2
   exact count_no HX.out (Bl.refl _)
end Go.Proofs.YthobmednnocklaaGreatDoor


/-! From a statement's row to a walk: the listed variables that reading and writing numbers asks. No condition. -/
namespace Go.Proofs.YthobmednnocklaaGreatDoor
open Go.ChangeShapes Go.WideShapes Go.ChangeAt Go.RowKit Go.Joins Go.Shelf

theorem sentinel_of_laid {l : List (String × DataW Unit)} {W : World} {n nm : String} {D : DataW Unit} (hl : (l.filter fun e => e.1 == n) = [(n, .iface nm D)]) (hp : laidMetH Tryz.prog [(n, .iface nm D)] W ↔ laidMet Tryz.prog [(n, .iface nm D)] W)
 (hty : ((Tryz.prog.globalNamed n).bind fun g => (Tryz.prog.globals[g]?).map (·.type)) = some 204) (h : laidMetH Tryz.prog l W) : ∃ t p, W.var? Tryz.prog n = some #[.iface t p] := by
 have h := h.filter (fun e => e.1 == n)
 rw [hl] at h
 obtain ⟨ps, ⟨g, t, cs, fuel, p, q, hg, ht, hv, hd, _, _⟩, _, _⟩ := hp.1 h
 rw [hg, Option.bind_some, ht] at hty
 obtain rfl := Option.some.inj hty
 obtain ⟨f', u, v, hcs, -, -⟩ := iface_of_trod Tryz.underlying204 hd
 refine ⟨u, v, ?_⟩
 rw [hv]
 congr 1
 apply Array.ext'
 simpa using hcs
theorem numOk_of_laid {l : List (String × DataW Unit)} {W : World} (h1 : (l.filter fun e => e.1 == "strconv.ErrSyntax") = [("strconv.ErrSyntax", Rows.laid_strconv_ErrSyntax)]) (h2 : (l.filter fun e => e.1 == "strconv.ErrRange") = [("strconv.ErrRange", Rows.laid_strconv_ErrRange)])
 (h3 : (l.filter fun e => e.1 == "internal/strconv.uint64pow10") = [("internal/strconv.uint64pow10", Rows.laid_internal_strconv_uint64pow10)]) (h : laidMetH Tryz.prog l W) : NumOk W where
 syn := sentinel_of_laid h1 (by rw [MakeChecks.laidMetH_plain _ _ _ (by kernel_rfl)]) (by kernel_rfl) h
 ran := sentinel_of_laid h2 (by rw [MakeChecks.laidMetH_plain _ _ _ (by kernel_rfl)]) (by kernel_rfl) h
 tab := by
  have h := h.filter (fun e => e.1 == "internal/strconv.uint64pow10")
  rw [h3, MakeChecks.laidMetH_plain _ _ _ (by kernel_rfl)] at h
  obtain ⟨g, hg⟩ := Option.isSome_iff_exists.1 (show (Tryz.prog.globalNamed "internal/strconv.uint64pow10").isSome = true by kernel_rfl)
  have hty : ((Tryz.prog.globalNamed "internal/strconv.uint64pow10").bind fun g => (Tryz.prog.globals[g]?).map (·.type)) = some 444 := by kernel_rfl
  rw [hg, Option.bind_some] at hty
  exact Lib.tabIs_of_head (zs := Lib.pow10Tab) hg hty Tryz.underlying444 Tryz.underlying281 (by kernel_rfl) (by kernel_rfl) h

end Go.Proofs.YthobmednnocklaaGreatDoor
