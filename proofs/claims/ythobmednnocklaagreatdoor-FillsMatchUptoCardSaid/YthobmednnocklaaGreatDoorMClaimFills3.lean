/- Decimal numbers of at most four digits, as page.number and bedref2.Number read them. -/
import Derived.Test.YthobmednnocklaaGreatDoorMClaimFills1
import Derived.Test.YthobmednnocklaaGreatDoorMClaimFills0
import Derived.Test.YthobmednnocklaaGreatDoorMClaimFills2
import Derived.Lib.TrimByte
import Derived.Lib.Strings
import Derived.Laws.EntriesVeiled
import Derived.Lib.Atoi
import Derived.Lib.ItoaNum

namespace Go.Proofs.YthobmednnocklaaGreatDoor
open Go.RowKit

/-! ### slices.Contains of bools -/
set_option maxHeartbeats 1000000 in
theorem indexB_any (A : Option Addr) (n c : Nat) (bs : List Bool) (v : Bool) (w : World) (hA : Reads w 1 A n (bs.map .bool)) (hn : n ≤ 1099511627776) :
 Calls Tryz.prog 135 #[.slice A n c, .bool v] w fun e w' => ∃ k : Int, e = .returned (.int .i64 k) ∧ (0 ≤ k ↔ v ∈ bs) ∧ w = w' := by
 have hl : bs.length = n := by have := hA.1; simpa using this
 have HA := Lib.hid hA; have HL := Lib.hid hl
 clear hA hl
 go_enter Tryz.func135, Tryz.ntmps135
 go_wp2_with fail
 go_loopw [8] (fun u wr => ∃ i : Nat, i ≤ n ∧ u = .int .i64 i ∧ w = wr ∧ ∀ j, j < i → bs[j]? ≠ some v) (fun u _ => n - (intOf u).toNat)
 case atStart => exact ⟨0, Nat.zero_le _, rfl, rfl, fun j hj => absurd hj (Nat.not_lt_zero _)⟩
 case round =>
  obtain ⟨i, hi, rfl, rfl, hno⟩ := hrel
  have Hno := Lib.hid hno
  clear hno
  by_cases hlt : i < n
  · obtain ⟨ad, u, rfl, hu, hc⟩ := HA.out.at_ hlt
    have hl2 : i < bs.length := by rw [HL.out]; exact hlt
    have hu' : u = .bool bs[i] := by simpa [hl2] using hu.symm
    have hg : bs[i]? = some bs[i] := List.getElem?_eq_getElem hl2
    subst hu'
    obtain ⟨b, hb⟩ : ∃ b, b = bs[i] := ⟨_, rfl⟩
    rw [← hb] at hc hg
    have Hg := Lib.hid hg
    clear hu hb hg hl2
    by_cases hbv : v = b
    · subst hbv
      have hq : (v == v) = true := by cases v <;> rfl
      have HX := Lib.hid (show 0 ≤ (i : Int) ↔ v ∈ bs from ⟨fun _ => List.mem_of_getElem? Hg.out, fun _ => Int.natCast_nonneg i⟩)
      cases v <;> (go_wp2_with fail; go_ret; exact ⟨_, rfl, HX.out, rfl⟩)
    · have HY : Hid (∀ j, j < i + 1 → bs[j]? ≠ some v) := fun j hj => by
       rcases Nat.lt_succ_iff_lt_or_eq.1 hj with h | rfl
       · exact Hno.out j h
       · rw [Hg.out]; intro e; exact hbv (Option.some.inj e).symm
      cases v <;> cases b <;> first | exact absurd rfl hbv | (clear hbv; go_wp2_with fail; exact ⟨⟨i + 1, hlt, by go_num, by first | rfl | trivial, HY.out⟩, by simp [intOf]; omega⟩)
  · have HX := Lib.hid (show (0 : Int) ≤ -1 ↔ v ∈ bs from ⟨fun h => absurd h (by decide), fun h => by
     obtain ⟨j, hj⟩ := List.getElem?_of_mem h
     have := (List.getElem?_eq_some_iff.1 hj).1
     exact absurd hj (Hno.out j (by have := HL.out; omega))⟩)
    go_wp2_with fail
    go_ret
    exact ⟨_, rfl, HX.out, rfl⟩
set_option maxHeartbeats 1000000 in
theorem containsB_any (A : Option Addr) (n c : Nat) (bs : List Bool) (v : Bool) (w : World) (hA : Reads w 1 A n (bs.map .bool)) (hn : n ≤ 1099511627776) :
 Calls Tryz.prog 69 #[.slice A n c, .bool v] w fun e w' => e = .returned (.bool (decide (v ∈ bs))) ∧ w = w' := by
 go_enter Tryz.func69, Tryz.ntmps69
 go_wp2_with fail
 refine (indexB_any A n c bs v w hA hn).mono ?_
 rintro e w1 ⟨k, rfl, hk, rfl⟩
 have Hk := Lib.hid hk
 clear hk hA
 go_wp2_with fail
 go_ret
 exact ⟨ret_bool (decide_eq_decide.2 Hk.out), rfl⟩

/-! ### page.Blank -/
end Go.Proofs.YthobmednnocklaaGreatDoor


/-! Texts of letters; searches through letters; slices.Contains of ints. -/
namespace Go.Proofs.YthobmednnocklaaGreatDoor
open Go.RowKit

def okC (b : UInt8) : Prop := 33 ≤ (b.toNat : Int) ∧ (b.toNat : Int) ≤ 126
theorem textB_stop {l : List UInt8} {k : Nat} {b : UInt8} (h : l[k]? = some b) (hn : ¬ okC b) : textB l = false := by
 unfold textB
 rw [decide_eq_false (fun h2 => hn (by have := h2 b (List.mem_of_getElem? h); unfold okC; omega))]
 rfl
theorem textB_end {l : List UInt8} (h : ∀ (j : Nat) b, j < l.length → l[j]? = some b → okC b) : textB l = inB (l.length : Int) 1 4 := by
 unfold textB
 have e : (∀ b ∈ l, 33 ≤ b.toNat ∧ b.toNat ≤ 126) := fun b hb => by
  obtain ⟨j, hj⟩ := List.getElem?_of_mem hb
  have h2 := h j b (List.getElem?_eq_some_iff.1 hj).1 hj
  unfold okC at h2
  omega
 rw [decide_eq_true e, Bool.true_and, Bool.eq_iff_iff, inB_true, decide_eq_true_eq]
 omega
/-- Are all bytes from 33 to 126? -/
def printB (l : List UInt8) : Bool := decide (∀ b ∈ l, 33 ≤ b.toNat ∧ b.toNat ≤ 126)
theorem printB_stop {l : List UInt8} {k : Nat} {b : UInt8} (h : l[k]? = some b) (hn : ¬ okC b) : printB l = false :=
 decide_eq_false (fun h2 => hn (by have := h2 b (List.mem_of_getElem? h); unfold okC; omega))
theorem printB_end {l : List UInt8} (h : ∀ (j : Nat) b, j < l.length → l[j]? = some b → okC b) : printB l = true :=
 decide_eq_true fun b hb => by
  obtain ⟨j, hj⟩ := List.getElem?_of_mem hb
  have h2 := h j b (List.getElem?_eq_some_iff.1 hj).1 hj
  unfold okC at h2
  omega

set_option maxRecDepth 100000 in
set_option maxHeartbeats 1000000 in
theorem letterText_any (l : List UInt8) (w : World) (hs : l.length ≤ 9223372036854775807) :
 Calls Tryz.prog 37 #[.string ⟨l.toArray⟩] w fun e w' => e = .returned (.bool (textB l)) ∧ w = w' := by
 have hsz : (⟨l.toArray⟩ : ByteArray).size = l.length := Lib.size_mk l
 go_enter Tryz.func37, Tryz.ntmps37
 go_wp2_with fail
 go_loop [6] (fun u => ∃ k : Nat, k ≤ l.length ∧ u = .int .i64 k ∧ ∀ (j : Nat) b, j < k → l[j]? = some b → okC b) (fun u => l.length - (RowKit.intOf u).toNat)
 case atStart => exact ⟨0, Nat.zero_le _, rfl, fun j b hj => absurd hj (Nat.not_lt_zero _)⟩
 case round =>
  obtain ⟨k, hk, rfl, hc⟩ := hrel
  have HC := Lib.hid hc
  clear hc
  by_cases hlt : k < l.length
  · have hih : k < (⟨l.toArray⟩ : ByteArray).size := by rw [hsz]; exact hlt
    have hgi := Lib.getElem_mk l k hih
    obtain ⟨c, hc⟩ : ∃ c, c = (⟨l.toArray⟩ : ByteArray)[k]'hih := ⟨_, rfl⟩
    rw [← hc] at hgi
    have HG := Lib.hid hgi
    have hc' := hc.symm
    clear hc hgi
    by_cases c1 : (c.toNat : Int) < 33
    · have HN := Lib.hid (textB_stop HG.out (show ¬ okC c from fun h => by unfold okC at h; omega))
      go_wp2_with fail
      go_ret
      exact ⟨ret_bool HN.out.symm, rfl⟩
    · by_cases c2 : 126 < (c.toNat : Int)
      · have HN := Lib.hid (textB_stop HG.out (show ¬ okC c from fun h => by unfold okC at h; omega))
        go_wp2_with fail
        go_ret
        exact ⟨ret_bool HN.out.symm, rfl⟩
      · have HO := Lib.hid (show okC c from ⟨by omega, by omega⟩)
        go_wp2_with fail
        exact ⟨⟨k + 1, hlt, by go_num, fun j b hj hb => by
         rcases Nat.lt_succ_iff_lt_or_eq.1 hj with h | rfl
         · exact HC.out j b h hb
         · rw [HG.out] at hb
           obtain rfl := Option.some.inj hb
           exact HO.out⟩, by simp [RowKit.intOf]; omega⟩
  · obtain rfl : k = l.length := by omega
    have HE := Lib.hid (textB_end HC.out)
    go_wp2_with (go_at_call 12; refine (in_any _ _ _ _).mono ?_; rintro e w' ⟨rfl, rfl⟩)
    go_ret
    exact ⟨ret_bool HE.out.symm, rfl⟩

set_option maxRecDepth 100000 in
set_option maxHeartbeats 1000000 in
theorem printable_any (l : List UInt8) (w : World) (hs : l.length ≤ 9223372036854775807) :
 Calls Tryz.prog 240 #[.string ⟨l.toArray⟩] w fun e w' => e = .returned (.bool (printB l)) ∧ w = w' := by
 have hsz : (⟨l.toArray⟩ : ByteArray).size = l.length := Lib.size_mk l
 go_enter Tryz.func240, Tryz.ntmps240
 go_wp2_with fail
 go_loop [6] (fun u => ∃ k : Nat, k ≤ l.length ∧ u = .int .i64 k ∧ ∀ (j : Nat) b, j < k → l[j]? = some b → okC b) (fun u => l.length - (RowKit.intOf u).toNat)
 case atStart => exact ⟨0, Nat.zero_le _, rfl, fun j b hj => absurd hj (Nat.not_lt_zero _)⟩
 case round =>
  obtain ⟨k, hk, rfl, hc⟩ := hrel
  have HC := Lib.hid hc
  clear hc
  by_cases hlt : k < l.length
  · have hih : k < (⟨l.toArray⟩ : ByteArray).size := by rw [hsz]; exact hlt
    have hgi := Lib.getElem_mk l k hih
    obtain ⟨c, hc⟩ : ∃ c, c = (⟨l.toArray⟩ : ByteArray)[k]'hih := ⟨_, rfl⟩
    rw [← hc] at hgi
    have HG := Lib.hid hgi
    have hc' := hc.symm
    clear hc hgi
    by_cases c1 : (c.toNat : Int) < 33
    · have HN := Lib.hid (printB_stop HG.out (show ¬ okC c from fun h => by unfold okC at h; omega))
      go_wp2_with fail
      go_ret
      exact ⟨ret_bool HN.out.symm, rfl⟩
    · by_cases c2 : 126 < (c.toNat : Int)
      · have HN := Lib.hid (printB_stop HG.out (show ¬ okC c from fun h => by unfold okC at h; omega))
        go_wp2_with fail
        go_ret
        exact ⟨ret_bool HN.out.symm, rfl⟩
      · have HO := Lib.hid (show okC c from ⟨by omega, by omega⟩)
        go_wp2_with fail
        exact ⟨⟨k + 1, hlt, by go_num, fun j b hj hb => by
         rcases Nat.lt_succ_iff_lt_or_eq.1 hj with h | rfl
         · exact HC.out j b h hb
         · rw [HG.out] at hb
           obtain rfl := Option.some.inj hb
           exact HO.out⟩, by simp [RowKit.intOf]; omega⟩
  · obtain rfl : k = l.length := by omega
    have HE := Lib.hid (printB_end HC.out)
    go_wp2_with fail
    go_ret
    exact ⟨ret_bool HE.out.symm, rfl⟩

set_option maxRecDepth 100000 in
set_option maxHeartbeats 1000000 in
theorem isText_any (l : List UInt8) (w : World) (hs : l.length ≤ 9223372036854775807) :
 Calls Tryz.prog 157 #[.string ⟨l.toArray⟩] w fun e w' => e = .returned (.bool (textB l)) ∧ w = w' := by
 have hsz : (⟨l.toArray⟩ : ByteArray).size = l.length := Lib.size_mk l
 by_cases c1 : (l.length : Int) < 1
 · have HN := Lib.hid (show textB l = false by unfold textB; rw [decide_eq_false (show ¬ (1 ≤ l.length ∧ l.length ≤ 4) by omega), Bool.and_false])
   go_enter Tryz.func157, Tryz.ntmps157
   go_wp2_with fail
   go_ret
   exact ⟨ret_bool HN.out.symm, rfl⟩
 · by_cases c2 : 4 < (l.length : Int)
   · have HN := Lib.hid (show textB l = false by unfold textB; rw [decide_eq_false (show ¬ (1 ≤ l.length ∧ l.length ≤ 4) by omega), Bool.and_false])
     go_enter Tryz.func157, Tryz.ntmps157
     go_wp2_with fail
     go_ret
     exact ⟨ret_bool HN.out.symm, rfl⟩
   · have HN := Lib.hid (show textB l = printB l by unfold textB printB; rw [decide_eq_true (show 1 ≤ l.length ∧ l.length ≤ 4 by omega), Bool.and_true])
     go_enter Tryz.func157, Tryz.ntmps157
     go_wp2_with fail
     refine (printable_any l _ hs).mono ?_
     rintro e w' ⟨rfl, rfl⟩
     go_wp2_with fail
     go_ret
     exact ⟨ret_bool HN.out.symm, rfl⟩

/-! ### searches through letters -/
def Ltr.val (l : Ltr) : Value := .agg #[.string ⟨l.text.toArray⟩, .int .i64 l.W, .int .i64 l.H, .slice l.A l.m l.c]
/-- A function value that tests letters. -/
def Tests (P : Program) (k : FuncId) (cap : Array Value) (w : World) (ls : List Ltr) (p : Ltr → Bool) : Prop :=
 (∀ args w, (callFunc k args).run P w = .ok (.enter k args) w) ∧ ∀ wx l, Bl w wx → l ∈ ls → Calls P k (#[l.val] ++ cap) wx fun e w' => e = .returned (.bool (p l)) ∧ Bl wx w'
theorem Tests.bl {P : Program} {k : FuncId} {cap : Array Value} {w w' : World} {ls : List Ltr} {p : Ltr → Bool} (h : Tests P k cap w ls p) (hb : Bl w w') : Tests P k cap w' ls p := ⟨h.1, fun wx l hx hl => h.2 wx l (hb.trans hx) hl⟩
/-- The first letter that is met. -/
def FirstIs (ls : List Ltr) (p : Ltr → Bool) (i : Int) : Prop :=
 (i = -1 ∧ ∀ l ∈ ls, p l = false) ∨ ∃ (j : Nat) (l : Ltr), i = (j : Int) ∧ ls[j]? = some l ∧ p l = true ∧ ∀ j' l', j' < j → ls[j']? = some l' → p l' = false
theorem FirstIs.some_iff {ls : List Ltr} {p : Ltr → Bool} {i : Int} (h : FirstIs ls p i) : 0 ≤ i ↔ ∃ l ∈ ls, p l = true := by
 rcases h with ⟨rfl, h⟩ | ⟨j, l, rfl, hl, hp, _⟩
 · constructor
   · intro h2; omega
   · rintro ⟨l, hl, hp⟩; rw [h l hl] at hp; cases hp
 · exact ⟨fun _ => ⟨l, List.mem_of_getElem? hl, hp⟩, fun _ => Int.natCast_nonneg j⟩

set_option maxRecDepth 100000 in
set_option maxHeartbeats 1000000 in
theorem ltrIndex_any (L : Option Addr) (c : Nat) (ls : List Ltr) (k : FuncId) (cap : Array Value) (p : Ltr → Bool) (w : World) (hL : LtrsAt w L ls) (hk : Tests Tryz.prog k cap w ls p) (hn : ls.length ≤ 9223372036854775807) :
 Calls Tryz.prog 88 #[.slice L ls.length c, .func (.func k) #[] cap] w fun e w' => ∃ i : Int, e = .returned (.int .i64 i) ∧ FirstIs ls p i ∧ Bl w w' := by
 have hent := hk.1
 have HL := Lib.hid hL; have HK := Lib.hid hk
 clear hL hk
 go_enter Tryz.func88, Tryz.ntmps88
 go_wp2_with fail
 go_loopw [8] (fun u wr => ∃ i : Nat, i ≤ ls.length ∧ u = .int .i64 i ∧ Bl w wr ∧ ∀ j l, j < i → ls[j]? = some l → p l = false) (fun u _ => ls.length - (RowKit.intOf u).toNat)
 case atStart => exact ⟨0, Nat.zero_le _, rfl, Bl.refl _, fun j l hj => absurd hj (Nat.not_lt_zero _)⟩
 case round =>
  obtain ⟨i, hi, rfl, hbr, hno⟩ := hrel
  have HNo := Lib.hid hno
  clear hno
  by_cases hlt : i < ls.length
  · have hg : ls[i]? = some ls[i] := List.getElem?_eq_getElem hlt
    obtain ⟨l, hl⟩ : ∃ l, l = ls[i] := ⟨_, rfl⟩
    rw [← hl] at hg
    obtain ⟨ad, rfl, k1, k2, k3, k4⟩ := (HL.out.bl hbr).at_ hg
    have hcall := HK.out.2 wr l hbr (List.mem_of_getElem? hg)
    have Hcall := Lib.hid hcall; have HG := Lib.hid hg; have HBr := Lib.hid hbr
    clear hcall hg hl hbr
    go_wp2_with fail
    refine Hcall.out.mono ?_
    rintro e w1 ⟨rfl, hb1⟩
    have HB1 := Lib.hid (HBr.out.trans hb1)
    clear hb1
    cases hp : p l
    · have HP := Lib.hid hp
      clear hp
      go_wp2_with fail
      exact ⟨⟨i + 1, hlt, by go_num, HB1.out, fun j l' hj hl' => by
       rcases Nat.lt_succ_iff_lt_or_eq.1 hj with h | rfl
       · exact HNo.out j l' h hl'
       · rw [HG.out] at hl'
         obtain rfl := Option.some.inj hl'
         exact HP.out⟩, by simp [RowKit.intOf]; omega⟩
    · have HP := Lib.hid hp
      clear hp
      go_wp2_with fail
      go_ret
      exact ⟨_, rfl, Or.inr ⟨i, l, rfl, HG.out, HP.out, fun j' l' hj hl' => HNo.out j' l' hj hl'⟩, HB1.out⟩
  · obtain rfl : i = ls.length := by omega
    go_wp2_with fail
    go_ret
    exact ⟨_, rfl, Or.inl ⟨rfl, fun l hl => by
     obtain ⟨j, hj⟩ := List.getElem?_of_mem hl
     exact HNo.out j l (List.getElem?_eq_some_iff.1 hj).1 hj⟩, hbr⟩
set_option maxHeartbeats 1000000 in
theorem ltrContains_any (L : Option Addr) (c : Nat) (ls : List Ltr) (k : FuncId) (cap : Array Value) (p : Ltr → Bool) (w : World) (hL : LtrsAt w L ls) (hk : Tests Tryz.prog k cap w ls p) (hn : ls.length ≤ 9223372036854775807) :
 Calls Tryz.prog 38 #[.slice L ls.length c, .func (.func k) #[] cap] w fun e w' => e = .returned (.bool (decide (∃ l ∈ ls, p l = true))) ∧ Bl w w' := by
 have Hc := Lib.hid (ltrIndex_any L c ls k cap p w hL hk hn)
 clear hL hk
 go_enter Tryz.func38, Tryz.ntmps38
 go_wp2_with fail
 refine Hc.out.mono ?_
 rintro e w1 ⟨i, rfl, hi, hb⟩
 have Hi := Lib.hid hi.some_iff
 clear hi
 go_wp2_with fail
 go_ret
 exact ⟨ret_bool (decide_eq_decide.2 Hi.out), hb⟩

/-! ### slices.Contains of ints -/
set_option maxHeartbeats 1000000 in
theorem indexI_any (A : Option Addr) (n c : Nat) (xs : List Int) (v : Int) (w : World) (hA : Reads w 1 A n (xs.map (.int .i64))) (hn : n ≤ 1099511627776) :
 Calls Tryz.prog 89 #[.slice A n c, .int .i64 v] w fun e w' => ∃ k : Int, e = .returned (.int .i64 k) ∧ (0 ≤ k ↔ v ∈ xs) ∧ w = w' := by
 have hl : xs.length = n := by have := hA.1; simpa using this
 have HA := Lib.hid hA; have HL := Lib.hid hl
 clear hA hl
 go_enter Tryz.func89, Tryz.ntmps89
 go_wp2_with fail
 go_loopw [8] (fun u wr => ∃ i : Nat, i ≤ n ∧ u = .int .i64 i ∧ w = wr ∧ ∀ j, j < i → xs[j]? ≠ some v) (fun u _ => n - (RowKit.intOf u).toNat)
 case atStart => exact ⟨0, Nat.zero_le _, rfl, rfl, fun j hj => absurd hj (Nat.not_lt_zero _)⟩
 case round =>
  obtain ⟨i, hi, rfl, rfl, hno⟩ := hrel
  have Hno := Lib.hid hno
  clear hno
  by_cases hlt : i < n
  · obtain ⟨ad, u, rfl, hu, hc⟩ := HA.out.at_ hlt
    have hl2 : i < xs.length := by rw [HL.out]; exact hlt
    have hu' : u = .int .i64 xs[i] := by simpa [hl2] using hu.symm
    have hg : xs[i]? = some xs[i] := List.getElem?_eq_getElem hl2
    subst hu'
    obtain ⟨b, hb⟩ : ∃ b, b = xs[i] := ⟨_, rfl⟩
    rw [← hb] at hc hg
    have Hg := Lib.hid hg
    clear hu hb hg hl2
    by_cases hbv : v = b
    · have hq : (v == b) = true := by simp [hbv]
      have HX := Lib.hid (show 0 ≤ (i : Int) ↔ v ∈ xs from ⟨fun _ => by rw [hbv]; exact List.mem_of_getElem? Hg.out, fun _ => Int.natCast_nonneg i⟩)
      clear hbv
      go_wp2_with fail
      go_ret
      exact ⟨_, rfl, HX.out, rfl⟩
    · have hq : (v == b) = false := by simp [hbv]
      have HY : Hid (∀ j, j < i + 1 → xs[j]? ≠ some v) := fun j hj => by
       rcases Nat.lt_succ_iff_lt_or_eq.1 hj with h | rfl
       · exact Hno.out j h
       · rw [Hg.out]; intro e; exact hbv (Option.some.inj e).symm
      clear hbv
      go_wp2_with fail
      exact ⟨⟨i + 1, hlt, by go_num, by first | rfl | trivial, HY.out⟩, by simp [RowKit.intOf]; omega⟩
  · have HX := Lib.hid (show (0 : Int) ≤ -1 ↔ v ∈ xs from ⟨fun h => absurd h (by decide), fun h => by
     obtain ⟨j, hj⟩ := List.getElem?_of_mem h
     have := (List.getElem?_eq_some_iff.1 hj).1
     exact absurd hj (Hno.out j (by have := HL.out; omega))⟩)
    go_wp2_with fail
    go_ret
    exact ⟨_, rfl, HX.out, rfl⟩
set_option maxHeartbeats 1000000 in
theorem containsI_any (A : Option Addr) (n c : Nat) (xs : List Int) (v : Int) (w : World) (hA : Reads w 1 A n (xs.map (.int .i64))) (hn : n ≤ 1099511627776) :
 Calls Tryz.prog 40 #[.slice A n c, .int .i64 v] w fun e w' => e = .returned (.bool (decide (v ∈ xs))) ∧ w = w' := by
 go_enter Tryz.func40, Tryz.ntmps40
 go_wp2_with fail
 refine (indexI_any A n c xs v w hA hn).mono ?_
 rintro e w1 ⟨k, rfl, hk, rfl⟩
 have Hk := Lib.hid hk
 clear hk hA
 go_wp2_with fail
 go_ret
 exact ⟨ret_bool (decide_eq_decide.2 Hk.out), rfl⟩

end Go.Proofs.YthobmednnocklaaGreatDoor


/-! The plain law of spelling: of the letters that a text begins with the longest one, the first of them; a space by itself. -/
namespace Go.Proofs.YthobmednnocklaaGreatDoor
open Go.RowKit

def txtOf (ls : List Ltr) (k : Nat) : List UInt8 := (ls[k]?.map Ltr.text).getD []
theorem txtOf_at {ls : List Ltr} {k : Nat} {l : Ltr} (h : ls[k]? = some l) : txtOf ls k = l.text := by unfold txtOf; rw [h]; rfl
/-- The number of the longest letter that a text begins with, of the first i; -1: there is none. -/
def longest (ls : List Ltr) (t : List UInt8) : Nat → Int
 | 0 => -1
 | i + 1 => if Lib.hasPrefix t (txtOf ls i) = true ∧ (longest ls t i < 0 ∨ (txtOf ls (longest ls t i).toNat).length < (txtOf ls i).length) then (i : Int) else longest ls t i
theorem longest_in (ls : List Ltr) (t : List UInt8) : ∀ i, longest ls t i = -1 ∨ ∃ k : Nat, k < i ∧ longest ls t i = (k : Int) ∧ Lib.hasPrefix t (txtOf ls k) = true
 | 0 => .inl rfl
 | i + 1 => by
  have ih := longest_in ls t i
  unfold longest
  split
  · rename_i h
    exact .inr ⟨i, by omega, rfl, h.1⟩
  · rcases ih with h | ⟨k, h1, h2, h3⟩
    · exact .inl h
    · exact .inr ⟨k, by omega, h2, h3⟩
/-- What a text begins with. -/
def headOf (ls : List Ltr) (t : List UInt8) : Int := longest ls t ls.length
theorem headOf_in (ls : List Ltr) (t : List UInt8) (h : 0 ≤ headOf ls t) : ∃ k : Nat, k < ls.length ∧ headOf ls t = (k : Int) ∧ Lib.hasPrefix t (txtOf ls k) = true := by
 rcases longest_in ls t ls.length with e | h2
 · unfold headOf at h; omega
 · exact h2
theorem hasPrefix_len {t p : List UInt8} (h : Lib.hasPrefix t p = true) : p.length ≤ t.length := by
 unfold Lib.hasPrefix at h
 exact (List.isPrefixOf_iff_prefix.1 h).length_le
/-- The letters of a text, a space as none. -/
def speltN (ls : List Ltr) : Nat → List UInt8 → Option (List (Option Nat))
 | _, [] => some []
 | 0, _ :: _ => none
 | n + 1, c :: t =>
  if c = 32 then (speltN ls n t).map (none :: ·)
  else if headOf ls (c :: t) < 0 then none
  else (speltN ls n ((c :: t).drop (txtOf ls (headOf ls (c :: t)).toNat).length)).map (some (headOf ls (c :: t)).toNat :: ·)
def spelt (ls : List Ltr) (t : List UInt8) : Option (List (Option Nat)) := speltN ls t.length t
/-- No letter is without a text, none begins with a space. -/
def Texts (ls : List Ltr) : Prop := ∀ k, k < ls.length → 1 ≤ (txtOf ls k).length ∧ (txtOf ls k).length ≤ 4 ∧ ∀ b ∈ txtOf ls k, b ≠ 32
theorem speltN_enough {ls : List Ltr} (hT : Texts ls) : ∀ (n m : Nat) (t : List UInt8), t.length ≤ n → t.length ≤ m → speltN ls n t = speltN ls m t := by
 intro n
 induction n with
 | zero =>
  intro m t hn _
  have : t = [] := List.eq_nil_of_length_eq_zero (by omega)
  subst this
  cases m <;> rfl
 | succ n ih =>
  intro m t hn hm
  cases t with
  | nil => cases m <;> rfl
  | cons c t =>
   cases m with
   | zero => simp at hm
   | succ m =>
    simp only [List.length_cons] at hn hm
    unfold speltN
    split
    · rw [ih m t (by omega) (by omega)]
    · split
      · rfl
      · rename_i h1 h2
        obtain ⟨k, hk, e, hp⟩ := headOf_in ls (c :: t) (by omega)
        rw [e]
        have h3 := (hT k hk).1
        simp only [Int.toNat_natCast]
        rw [ih m _ (by rw [List.length_drop, List.length_cons]; omega) (by rw [List.length_drop, List.length_cons]; omega)]
theorem spelt_nil (ls : List Ltr) : spelt ls [] = some [] := rfl
theorem spelt_cons (ls : List Ltr) (c : UInt8) (t : List UInt8) : spelt ls (c :: t) = if c = 32 then (speltN ls t.length t).map (none :: ·) else if headOf ls (c :: t) < 0 then none
 else (speltN ls t.length ((c :: t).drop (txtOf ls (headOf ls (c :: t)).toNat).length)).map (some (headOf ls (c :: t)).toNat :: ·) := rfl
theorem spelt_space {ls : List Ltr} (t : List UInt8) : spelt ls (32 :: t) = (spelt ls t).map (none :: ·) := by
 rw [spelt_cons, if_pos rfl]
 rfl
theorem spelt_none {ls : List Ltr} {c : UInt8} {t : List UInt8} (hc : c ≠ 32) (h : headOf ls (c :: t) < 0) : spelt ls (c :: t) = none := by
 rw [spelt_cons, if_neg hc, if_pos h]
theorem spelt_letter {ls : List Ltr} (hT : Texts ls) {c : UInt8} {t : List UInt8} {k : Nat} (hc : c ≠ 32) (h : headOf ls (c :: t) = (k : Int)) (hk : k < ls.length) :
 spelt ls (c :: t) = (spelt ls ((c :: t).drop (txtOf ls k).length)).map (some k :: ·) := by
 rw [spelt_cons, if_neg hc, if_neg (by omega), h]
 simp only [Int.toNat_natCast]
 have h3 := (hT k hk).1
 unfold spelt
 rw [speltN_enough hT t.length ((c :: t).drop (txtOf ls k).length).length _ (by rw [List.length_drop, List.length_cons]; omega) (Nat.le_refl _)]

/-! ### where the letters come to stand -/
def wdOf (ls : List Ltr) (k : Nat) : Nat := ((ls[k]?.map fun l => l.W.toNat).getD 0)
/-- How far one is, and whether a letter stands beside. -/
abbrev Spot := Nat × Bool
def spotOf (gap : Nat) (s : Spot) : Nat := if s.2 = true then s.1 + gap else s.1
def goOn (ls : List Ltr) (gap sp : Nat) (s : Spot) : Option Nat → Spot
 | none => (s.1 + sp, false)
 | some k => (spotOf gap s + wdOf ls k, true)
def goAll (ls : List Ltr) (gap sp : Nat) (s : Spot) (l : List (Option Nat)) : Spot := l.foldl (goOn ls gap sp) s
/-- The letters, each with its column. -/
def putAt (ls : List Ltr) (gap sp : Nat) : Spot → List (Option Nat) → List (Nat × Nat)
 | _, [] => []
 | s, none :: l => putAt ls gap sp (goOn ls gap sp s none) l
 | s, some k :: l => (k, spotOf gap s) :: putAt ls gap sp (goOn ls gap sp s (some k)) l
theorem goAll_append (ls : List Ltr) (gap sp : Nat) (s : Spot) (a b : List (Option Nat)) : goAll ls gap sp s (a ++ b) = goAll ls gap sp (goAll ls gap sp s a) b := by unfold goAll; rw [List.foldl_append]
theorem putAt_append (ls : List Ltr) (gap sp : Nat) : ∀ (a b : List (Option Nat)) (s : Spot), putAt ls gap sp s (a ++ b) = putAt ls gap sp s a ++ putAt ls gap sp (goAll ls gap sp s a) b
 | [], _, _ => rfl
 | none :: a, b, s => putAt_append ls gap sp a b _
 | some k :: a, b, s => by
  show (k, spotOf gap s) :: putAt ls gap sp _ (a ++ b) = (k, spotOf gap s) :: (putAt ls gap sp _ a ++ _)
  rw [putAt_append ls gap sp a b]
  rfl

/-- What is spelled are letters. -/
theorem speltN_in {ls : List Ltr} : ∀ (n : Nat) (t : List UInt8) (l : List (Option Nat)), speltN ls n t = some l → ∀ k, some k ∈ l → k < ls.length := by
 intro n
 induction n with
 | zero =>
  intro t l h k hk
  cases t with
  | nil => have h := Option.some.inj h; subst h; cases hk
  | cons c t => cases h
 | succ n ih =>
  intro t l h k hk
  cases t with
  | nil => have h := Option.some.inj h; subst h; cases hk
  | cons c t =>
   unfold speltN at h
   split at h
   · obtain ⟨l', h1, rfl⟩ := Option.map_eq_some_iff.1 h
     rcases List.mem_cons.1 hk with hk | hk
     · cases hk
     · exact ih _ _ h1 k hk
   · split at h
     · cases h
     · rename_i h0
       obtain ⟨l', h1, rfl⟩ := Option.map_eq_some_iff.1 h
       rcases List.mem_cons.1 hk with hk | hk
       · obtain ⟨k', hk', e, -⟩ := headOf_in ls (c :: t) (by omega)
         have := Option.some.inj hk
         rw [e] at this
         simp at this
         omega
       · exact ih _ _ h1 k hk
theorem spelt_in {ls : List Ltr} {t : List UInt8} {l : List (Option Nat)} (h : spelt ls t = some l) : ∀ k, some k ∈ l → k < ls.length := speltN_in _ _ _ h
theorem goAll_succ {ls : List Ltr} {gap sp : Nat} {s : Spot} {l : List (Option Nat)} {i : Nat} {x : Option Nat} (h : l[i]? = some x) : goAll ls gap sp s (l.take (i + 1)) = goOn ls gap sp (goAll ls gap sp s (l.take i)) x := by
 rw [List.take_add_one, h, goAll_append]
 rfl
theorem goAll_le {ls : List Ltr} {gap sp : Nat} (hg : gap ≤ 16) (hs : sp ≤ 64) (hw : ∀ k, wdOf ls k ≤ 64) : ∀ (l : List (Option Nat)) (s : Spot), (goAll ls gap sp s l).1 ≤ s.1 + 80 * l.length
 | [], s => Nat.le_refl _
 | x :: l, s => by
  have ih := goAll_le hg hs hw l (goOn ls gap sp s x)
  have h1 : (goOn ls gap sp s x).1 ≤ s.1 + 80 := by
   cases x with
   | none => show s.1 + sp ≤ s.1 + 80; omega
   | some k =>
    show spotOf gap s + wdOf ls k ≤ s.1 + 80
    have := hw k
    unfold spotOf
    split <;> omega
  show (goAll ls gap sp (goOn ls gap sp s x) l).1 ≤ s.1 + 80 * (l.length + 1)
  omega
theorem wdOf_out {ls : List Ltr} {k : Nat} (h : ls.length ≤ k) : wdOf ls k = 0 := by unfold wdOf; rw [List.getElem?_eq_none h]; rfl

end Go.Proofs.YthobmednnocklaaGreatDoor


/-! The plain law of a text that is set: where ink is. -/
namespace Go.Proofs.YthobmednnocklaaGreatDoor
open Go.RowKit

def bsOf (ls : List Ltr) (k : Nat) : List Bool := (ls[k]?.map Ltr.bs).getD []
theorem bsOf_at {ls : List Ltr} {k : Nat} {l : Ltr} (h : ls[k]? = some l) : bsOf ls k = l.bs := by unfold bsOf; rw [h]; rfl
theorem wdOf_at {ls : List Ltr} {k : Nat} {l : Ltr} (h : ls[k]? = some l) : wdOf ls k = l.W.toNat := by unfold wdOf; rw [h]; rfl
/-- The ink of a letter that stands at a column. -/
def litAt (ls : List Ltr) (p : Nat × Nat) (x y : Nat) : Bool := decide (p.2 ≤ x) && (decide (x < p.2 + wdOf ls p.1) && pix (bsOf ls p.1) (wdOf ls p.1) (x - p.2) y)
def setF (ls : List Ltr) (pl : List (Nat × Nat)) (x y : Nat) : Bool := pl.any fun p => litAt ls p x y
theorem setF_append (ls : List Ltr) (a b : List (Nat × Nat)) (x y : Nat) : setF ls (a ++ b) x y = (setF ls a x y || setF ls b x y) := by unfold setF; rw [List.any_append]
theorem setF_one (ls : List Ltr) (p : Nat × Nat) (x y : Nat) : setF ls [p] x y = litAt ls p x y := by unfold setF; simp
theorem setF_out {ls : List Ltr} {pl : List (Nat × Nat)} {x y : Nat} (h : ∀ p ∈ pl, p.2 + wdOf ls p.1 ≤ x) : setF ls pl x y = false := by
 unfold setF
 rw [List.any_eq_false]
 intro p hp
 have := h p hp
 unfold litAt
 simp
 omega
theorem litAt_in {ls : List Ltr} {k at_ i y : Nat} (hi : i < wdOf ls k) : litAt ls (k, at_) (at_ + i) y = pix (bsOf ls k) (wdOf ls k) i y := by
 unfold litAt
 rw [decide_eq_true (show at_ ≤ at_ + i by omega), decide_eq_true (show at_ + i < at_ + wdOf ls k by omega), show at_ + i - at_ = i by omega]
 simp
/-- How far one comes. -/
theorem goOn_le {ls : List Ltr} {gap sp : Nat} (s : Spot) (x : Option Nat) : s.1 ≤ (goOn ls gap sp s x).1 := by
 cases x with
 | none => show s.1 ≤ s.1 + sp; omega
 | some k => show s.1 ≤ spotOf gap s + wdOf ls k; unfold spotOf; split <;> omega
theorem goAll_mono {ls : List Ltr} {gap sp : Nat} : ∀ (l : List (Option Nat)) (s : Spot), s.1 ≤ (goAll ls gap sp s l).1
 | [], _ => Nat.le_refl _
 | x :: l, s => Nat.le_trans (goOn_le s x) (goAll_mono l _)
theorem goAll_take {ls : List Ltr} {gap sp : Nat} (l : List (Option Nat)) (s : Spot) (i : Nat) : (goAll ls gap sp s (l.take i)).1 ≤ (goAll ls gap sp s l).1 := by
 have e : l = l.take i ++ l.drop i := (List.take_append_drop i l).symm
 conv => rhs; rw [e]
 rw [goAll_append]
 exact goAll_mono _ _
/-- What stands ends ahead of where one is. -/
theorem putAt_end {ls : List Ltr} {gap sp : Nat} : ∀ (l : List (Option Nat)) (s : Spot), ∀ p ∈ putAt ls gap sp s l, p.2 + wdOf ls p.1 ≤ (goAll ls gap sp s l).1
 | [], _, p, hp => by cases hp
 | none :: l, s, p, hp => putAt_end l _ p hp
 | some k :: l, s, p, hp => by
  rcases List.mem_cons.1 hp with rfl | hp
  · show spotOf gap s + wdOf ls k ≤ (goAll ls gap sp (goOn ls gap sp s (some k)) l).1
    exact goAll_mono l (goOn ls gap sp s (some k))
  · exact putAt_end l _ p hp
theorem putAt_succ_none {ls : List Ltr} {gap sp : Nat} {s : Spot} {l : List (Option Nat)} {i : Nat} (h : l[i]? = some none) : putAt ls gap sp s (l.take (i + 1)) = putAt ls gap sp s (l.take i) := by
 rw [List.take_add_one, h, putAt_append]
 simp [putAt]
theorem putAt_succ_some {ls : List Ltr} {gap sp : Nat} {s : Spot} {l : List (Option Nat)} {i k : Nat} (h : l[i]? = some (some k)) : putAt ls gap sp s (l.take (i + 1)) = putAt ls gap sp s (l.take i) ++ [(k, spotOf gap (goAll ls gap sp s (l.take i)))] := by
 rw [List.take_add_one, h, putAt_append]
 rfl
/-- While a letter is drawn, row by row. -/
def midF (ls : List Ltr) (pl : List (Nat × Nat)) (p : Nat × Nat) (W y i k : Nat) : Bool := setF ls pl (k % W) (k / W) || (litAt ls p (k % W) (k / W) && decide (k / W < y ∨ (k / W = y ∧ k % W < p.2 + i)))
theorem midF_start (ls : List Ltr) (pl : List (Nat × Nat)) (p : Nat × Nat) (W k : Nat) : midF ls pl p W 0 0 k = setF ls pl (k % W) (k / W) := by
 unfold midF litAt
 by_cases h : p.2 ≤ k % W
 · rw [decide_eq_false (show ¬ (k / W < 0 ∨ (k / W = 0 ∧ k % W < p.2 + 0)) from fun hn => hn.elim (fun h1 => absurd h1 (Nat.not_lt_zero _)) (fun h1 => by have := h1.2; omega))]
   simp
 · rw [decide_eq_false h]
   simp
theorem midF_row (ls : List Ltr) (pl : List (Nat × Nat)) (p : Nat × Nat) (W y k : Nat) : midF ls pl p W (y + 1) 0 k = midF ls pl p W y (wdOf ls p.1) k := by
 unfold midF litAt
 by_cases h1 : p.2 ≤ k % W
 · by_cases h2 : k % W < p.2 + wdOf ls p.1
   · rw [decide_eq_true h1, decide_eq_true h2]
     congr 2
     rw [decide_eq_decide]
     omega
   · rw [decide_eq_false h2]; simp
 · rw [decide_eq_false h1]; simp
theorem midF_end {ls : List Ltr} {pl : List (Nat × Nat)} {p : Nat × Nat} {W H k : Nat} (hk : k / W < H) : midF ls pl p W H 0 k = setF ls (pl ++ [p]) (k % W) (k / W) := by
 unfold midF
 rw [decide_eq_true (.inl hk), setF_append, setF_one]
 simp
theorem midF_step {ls : List Ltr} {pl : List (Nat × Nat)} {l at_ W y i : Nat} (hW : at_ + i < W) (hi : i < wdOf ls l) (hpl : ∀ p ∈ pl, p.2 + wdOf ls p.1 ≤ at_) (k : Nat) :
 midF ls pl (l, at_) W y (i + 1) k = if k = y * W + at_ + i then pix (bsOf ls l) (wdOf ls l) i y else midF ls pl (l, at_) W y i k := by
 by_cases e : k = y * W + at_ + i
 · rw [if_pos e]
   have e1 : k % W = at_ + i := by rw [e, Nat.add_assoc, Nat.mul_comm, Nat.mul_add_mod]; exact Nat.mod_eq_of_lt hW
   have e2 : k / W = y := by rw [e, Nat.add_assoc, Nat.mul_comm, Nat.mul_add_div (by omega), Nat.div_eq_of_lt hW]; rfl
   unfold midF
   rw [e1, e2, setF_out (fun p hp => by have := hpl p hp; omega), litAt_in hi, decide_eq_true (.inr ⟨rfl, by omega⟩)]
   simp
 · rw [if_neg e]
   unfold midF
   congr 2
   rw [decide_eq_decide]
   have hne : ¬ (k / W = y ∧ k % W = at_ + i) := fun ⟨a, b⟩ => e (by
    have := Nat.div_add_mod k W
    rw [a, b, Nat.mul_comm] at this
    omega)
   show (k / W < y ∨ (k / W = y ∧ k % W < at_ + (i + 1))) ↔ (k / W < y ∨ (k / W = y ∧ k % W < at_ + i))
   omega

end Go.Proofs.YthobmednnocklaaGreatDoor


/-! glyph.put: the ink of a page laid upon another page, in place. -/
namespace Go.Proofs.YthobmednnocklaaGreatDoor
open Go.RowKit

/-- In the window, and the place in it. -/
def winB (wk hk x0 y0 x y : Nat) : Bool := decide (x0 ≤ x ∧ x < x0 + wk ∧ y0 ≤ y ∧ y < y0 + hk)
def putTo (f : Nat → Bool) (bs : List Bool) (wk hk x0 y0 W i k : Nat) : Bool := f k || (winB wk hk x0 y0 (k % W) (k / W) && (decide ((k / W - y0) * wk + (k % W - x0) < i) && pix bs wk (k % W - x0) (k / W - y0)))
def putF (f : Nat → Bool) (bs : List Bool) (wk hk x0 y0 W k : Nat) : Bool := f k || (winB wk hk x0 y0 (k % W) (k / W) && pix bs wk (k % W - x0) (k / W - y0))
theorem putTo_zero (f : Nat → Bool) (bs : List Bool) (wk hk x0 y0 W k : Nat) : putTo f bs wk hk x0 y0 W 0 k = f k := by unfold putTo; simp
theorem putTo_end (f : Nat → Bool) (bs : List Bool) (wk hk x0 y0 W k : Nat) : putTo f bs wk hk x0 y0 W (wk * hk) k = putF f bs wk hk x0 y0 W k := by
 unfold putTo putF
 cases h : winB wk hk x0 y0 (k % W) (k / W) with
 | false => simp
 | true =>
  unfold winB at h
  have h' := of_decide_eq_true h
  have hlt : (k / W - y0) * wk + (k % W - x0) < wk * hk := by
   have h1 : (k / W - y0 + 1) * wk ≤ hk * wk := Nat.mul_le_mul_right wk (by omega)
   rw [Nat.add_mul, Nat.one_mul] at h1
   rw [Nat.mul_comm wk hk]
   omega
  rw [decide_eq_true hlt]
  simp
theorem putTo_no {f : Nat → Bool} {bs : List Bool} {wk hk x0 y0 W i : Nat} (h : bs.getD i false = false) (k : Nat) : putTo f bs wk hk x0 y0 W (i + 1) k = putTo f bs wk hk x0 y0 W i k := by
 unfold putTo
 by_cases e : (k / W - y0) * wk + (k % W - x0) = i
 · have hp : pix bs wk (k % W - x0) (k / W - y0) = false := by unfold pix; rw [e]; exact h
   rw [hp]
   simp
 · have hd : decide ((k / W - y0) * wk + (k % W - x0) < i + 1) = decide ((k / W - y0) * wk + (k % W - x0) < i) := by rw [decide_eq_decide]; omega
   rw [hd]
theorem putTo_yes {f : Nat → Bool} {bs : List Bool} {wk hk x0 y0 W i : Nat} (h : bs.getD i false = true) (hi : i < wk * hk) (hx : x0 + wk ≤ W) (k : Nat) :
 putTo f bs wk hk x0 y0 W (i + 1) k = if k = (y0 + i / wk) * W + x0 + i % wk then true else putTo f bs wk hk x0 y0 W i k := by
 have hwk : 0 < wk := by
  rcases Nat.eq_zero_or_pos wk with h0 | h0
  · rw [h0, Nat.zero_mul] at hi
    omega
  · exact h0
 have hm0 : i % wk < wk := Nat.mod_lt _ hwk
 have hd0 : i / wk < hk := Nat.div_lt_of_lt_mul hi
 have hdm0 := Nat.div_add_mod i wk
 obtain ⟨xi, hxi⟩ : ∃ n, n = i % wk := ⟨_, rfl⟩
 obtain ⟨yi, hyi⟩ : ∃ n, n = i / wk := ⟨_, rfl⟩
 rw [← hxi] at hm0 hdm0 ⊢
 rw [← hyi] at hd0 hdm0 ⊢
 clear hxi hyi
 have hxm : x0 + xi < W := Nat.lt_of_lt_of_le (Nat.add_lt_add_left hm0 x0) hx
 have hW0 : 0 < W := Nat.lt_of_le_of_lt (Nat.zero_le _) hxm
 by_cases e : k = (y0 + yi) * W + x0 + xi
 · rw [if_pos e]
   have e1 : k % W = x0 + xi := by rw [e, Nat.add_assoc, Nat.mul_comm, Nat.mul_add_mod]; exact Nat.mod_eq_of_lt hxm
   have e2 : k / W = y0 + yi := by rw [e, Nat.add_assoc, Nat.mul_comm, Nat.mul_add_div hW0, Nat.div_eq_of_lt hxm]; rfl
   clear e
   unfold putTo winB pix
   rw [e1, e2, Nat.add_sub_cancel_left, Nat.add_sub_cancel_left, show yi * wk + xi = i by rw [Nat.mul_comm]; exact hdm0, h, decide_eq_true (show x0 ≤ x0 + xi ∧ x0 + xi < x0 + wk ∧ y0 ≤ y0 + yi ∧ y0 + yi < y0 + hk from ⟨by omega, by omega, by omega, by omega⟩), decide_eq_true (show i < i + 1 from Nat.lt_succ_self i)]
   simp
 · rw [if_neg e]
   unfold putTo
   have hkk := Nat.div_add_mod k W
   obtain ⟨x, hx'⟩ : ∃ n, n = k % W := ⟨_, rfl⟩
   obtain ⟨y, hy'⟩ : ∃ n, n = k / W := ⟨_, rfl⟩
   rw [← hx', ← hy'] at hkk
   rw [← hx', ← hy']
   clear hx' hy'
   cases hw : winB wk hk x0 y0 x y with
   | false => simp
   | true =>
    unfold winB at hw
    have hw' := of_decide_eq_true hw
    by_cases e3 : (y - y0) * wk + (x - x0) = i
    · refine absurd ?_ e
      have hwx : x - x0 < wk := by omega
      have e4 : x - x0 = xi := by
       have h1 : ((y - y0) * wk + (x - x0)) % wk = x - x0 := by rw [Nat.mul_comm, Nat.mul_add_mod]; exact Nat.mod_eq_of_lt hwx
       have h2 : (wk * yi + xi) % wk = xi := by rw [Nat.mul_add_mod]; exact Nat.mod_eq_of_lt hm0
       rw [e3] at h1
       rw [hdm0] at h2
       exact h1.symm.trans h2
      have e5 : y - y0 = yi := by
       have h1 : ((y - y0) * wk + (x - x0)) / wk = y - y0 := by rw [Nat.mul_comm, Nat.mul_add_div hwk, Nat.div_eq_of_lt hwx]; rfl
       have h2 : (wk * yi + xi) / wk = yi := by rw [Nat.mul_add_div hwk, Nat.div_eq_of_lt hm0]; rfl
       rw [e3] at h1
       rw [hdm0] at h2
       exact h1.symm.trans h2
      have e6 : y = y0 + yi := by omega
      have e7 : x = x0 + xi := by omega
      rw [← hkk, e6, e7, Nat.mul_comm, Nat.add_assoc]
    · have hd : decide ((y - y0) * wk + (x - x0) < i + 1) = decide ((y - y0) * wk + (x - x0) < i) := by rw [decide_eq_decide]; omega
      rw [hd]
/-- Nothing but the row is turned. -/
def PutRes (w0 : World) (g : Nat) (cs : Array Value) (w : World) (e : Ending) (w' : World) : Prop := e = .returned (.tuple #[]) ∧ Blk w' g 4 cs ∧ Bl w0 w' ∧ w.heap.size ≤ w'.heap.size ∧ ∀ p T c, p ≠ g → Blk w p T c → Blk w' p T c

set_option maxRecDepth 100000 in
set_option maxHeartbeats 4000000 in
theorem put_any (W H wk hk x0 y0 g : Nat) (cap : Nat) (A : Option Addr) (ac : Nat) (bs : List Bool) (f : Nat → Bool) (w0 w : World) (hb0 : Bl w0 w) (hg0 : w0.heap.size ≤ g) (hg : Blk w g 4 (tabB (W * H) f)) (hA : Reads w0 1 A (wk * hk) (bs.map .bool))
 (hW : W ≤ 4000) (hH : H ≤ 4000) (hWH : W * H ≤ 1048576) (hx : x0 + wk ≤ W) (hy : y0 + hk ≤ H) (hwk : 1 ≤ wk) :
 Calls Tryz.prog 284 #[.agg #[.int .i64 W, .int .i64 H, .slice (some ⟨g, 0, none⟩) (W * H) cap], .agg #[.int .i64 wk, .int .i64 hk, .slice A (wk * hk) ac], .int .i64 x0, .int .i64 y0] w (PutRes w0 g (tabB (W * H) (putF f bs wk hk x0 y0 W)) w) := by
 let w2 := ((w).alloc (.cells #[.int .i64 W, .int .i64 H, .slice (some ⟨g, 0, none⟩) (W * H) cap] 24)).alloc (.cells #[.int .i64 wk, .int .i64 hk, .slice A (wk * hk) ac] 24)
 have w2b : Bl w w2 := ((Bl.refl w).alloc _).alloc _
 have w21 : Blk w2 (w.heap.size) 24 #[.int .i64 W, .int .i64 H, .slice (some ⟨g, 0, none⟩) (W * H) cap] := by
  have h0 := Blk.new (w) 24 #[.int .i64 W, .int .i64 H, .slice (some ⟨g, 0, none⟩) (W * H) cap]
  exact (h0.alloc _)
 have w22 : Blk w2 (w.heap.size + 1) 24 #[.int .i64 wk, .int .i64 hk, .slice A (wk * hk) ac] := by
  have h0 := Blk.new ((w).alloc (.cells #[.int .i64 W, .int .i64 H, .slice (some ⟨g, 0, none⟩) (W * H) cap] 24)) 24 #[.int .i64 wk, .int .i64 hk, .slice A (wk * hk) ac]
  simp only [World.size_alloc] at h0
  exact h0
 have lw2 : w2.heap.size = w.heap.size + 2 := by simp [w2]
 have hgl := hg.lt
 have hg2 : Blk w2 g 4 (tabB (W * H) (putTo f bs wk hk x0 y0 W 0)) := by
  have e : tabB (W * H) (putTo f bs wk hk x0 y0 W 0) = tabB (W * H) f := tabB_congr fun k _ => putTo_zero _ _ _ _ _ _ _ _
  rw [e]
  exact (hg.alloc _).alloc _
 have hb02 : Bl w0 w2 := hb0.trans w2b
 have hn : wk * hk ≤ 16000000 := Nat.mul_le_mul (show wk ≤ 4000 by omega) (show hk ≤ 4000 by omega)
 have HA := Lib.hid hA; have HG := Lib.hid hg2; have HB0 := Lib.hid hb0
 have hkeep : ∀ p T c, p ≠ g → Blk w p T c → Blk w2 p T c := fun p T c _ h => (h.alloc _).alloc _
 have HK := Lib.hid hkeep
 have k1 := w21.all3
 have k2 := w22.all3
 clear hA hg hg2 hb0 hkeep
 go_enter Tryz.func284, Tryz.ntmps284
 go_wp2_with fail
 go_loopw [13] (fun u wr => ∃ i : Nat, i ≤ wk * hk ∧ u = .int .i64 i ∧ Bl w0 wr ∧ Blk wr g 4 (tabB (W * H) (putTo f bs wk hk x0 y0 W i)) ∧ Blk wr w.heap.size 24 #[.int .i64 W, .int .i64 H, .slice (some ⟨g, 0, none⟩) (W * H) cap] ∧ Blk wr (w.heap.size + 1) 24 #[.int .i64 wk, .int .i64 hk, .slice A (wk * hk) ac] ∧ Hid (w.heap.size ≤ wr.heap.size) ∧ Hid (∀ p T c, p ≠ g → Blk w p T c → Blk wr p T c)) (fun u _ => wk * hk - (RowKit.intOf u).toNat)
 case atStart => exact ⟨0, Nat.zero_le _, rfl, hb02, HG.out, w21, w22, Lib.hid w2b.le, HK⟩
 case round =>
  clear k1 k2
  obtain ⟨i, hi, rfl, hbr, hbg, hb1, hb2, hsz, hkp⟩ := hrel
  have k1 := hb1.all3
  have k2 := hb2.all3
  by_cases hlt : i < wk * hk
  · obtain ⟨ad, ua, rfl, hu, hca⟩ := (HA.out.bl hbr).at_ hlt
    have hua : ua = .bool (bs.getD i false) := by
     simp only [List.getElem?_map, Option.map_eq_some_iff] at hu
     obtain ⟨b, hb1, hb2⟩ := hu
     rw [← hb2, List.getD, hb1]; rfl
    clear hu
    subst hua
    cases hva : bs.getD i false
    · have hno : tabB (W * H) (putTo f bs wk hk x0 y0 W (i + 1)) = tabB (W * H) (putTo f bs wk hk x0 y0 W i) := tabB_congr fun k _ => putTo_no hva k
      rw [← hno] at hbg
      rw [hva] at hca
      clear hno hva
      go_wp2_with fail
      exact ⟨⟨i + 1, hlt, by go_num, hbr, hbg, hb1, hb2, hsz, hkp⟩, by simp [intOf]; omega⟩
    · rw [hva] at hca
      have hys := fun k => putTo_yes (f := f) (y0 := y0) hva hlt hx k
      have mlt : i % wk < wk := Nat.mod_lt _ (by omega)
      have dlt : i / wk < hk := Nat.div_lt_of_lt_mul hlt
      obtain ⟨xi, hxi⟩ : ∃ n, n = i % wk := ⟨_, rfl⟩
      obtain ⟨yi, hyi⟩ : ∃ n, n = i / wk := ⟨_, rfl⟩
      have e1 : (i : Int) % (wk : Int) = (xi : Int) := by rw [hxi]; simp
      have e2 : (i : Int) / (wk : Int) = (yi : Int) := by rw [hyi]; simp
      rw [← hxi] at mlt
      rw [← hyi] at dlt
      simp only [← hxi, ← hyi] at hys
      obtain ⟨q, hq⟩ : ∃ q : Nat, q = (y0 + yi) * W := ⟨_, rfl⟩
      simp only [← hq] at hys
      have hqW : ((y0 : Int) + (yi : Int)) * (W : Int) = (q : Int) := by rw [hq]; simp
      have hrow : q + W ≤ W * H := by rw [hq, ← Nat.succ_mul, Nat.mul_comm W H]; exact Nat.mul_le_mul_right W (by omega)
      have hto : ((q : Int) + (x0 : Int) + (xi : Int)).toNat = q + x0 + xi := by omega
      have hi1 : (q : Int) + (x0 : Int) + (xi : Int) < (W : Int) * (H : Int) := by
       have h1 : ((W * H : Nat) : Int) = (W : Int) * (H : Int) := by simp
       rw [← h1]
       omega
      have hcell : wr.cell? ⟨g, q + x0 + xi, none⟩ = some (.bool (putTo f bs wk hk x0 y0 W i (q + x0 + xi))) := hbg.tabAtB (by omega)
      have hfz := hbg.frozen
      have hgl2 := hbg.lt
      have hwk0 : ¬ (wk = 0) := by omega
      have HYs := Lib.hid hys; have HBg := Lib.hid hbg; have HBr := Lib.hid hbr; have HB1 := Lib.hid hb1; have HB2 := Lib.hid hb2
      clear hys hbg hq hva hxi hyi
      go_upto_region 5 with fail
      refine wp_region_flow [(true, 0), (true, 1), (true, 2), (true, 3), (true, 4), (true, 5), (true, 6), (true, 7), (true, 8), (true, 9), (true, 10), (true, 11), (true, 12), (true, 13), (true, 14), (true, 15), (true, 16), (true, 17), (true, 18), (false, 19)] (fun i => i == 19) (by kernel_rfl) (by kernel_rfl) (by kernel_rfl) (by kernel_rfl) ?_
      iterate 2
       apply Flow.calm2 _ _ rfl rfl
       · intro w' hb' K' hK'
         obtain ⟨hc', hf'⟩ := hb'.rule
         go_simp
         try go_ints
         exact hK'
       · intro K' hK'
         simp only [sqA]
         exact hK'
      iterate 2
       apply Flow.mv _ rfl
       · intro K' hK'
         simp only [sqA, Act.eval, arr_getD, List.getD_cons_zero, List.getD_cons_succ]
         exact hK'
      iterate 7
       apply Flow.calm2 _ _ rfl rfl
       · intro w' hb' K' hK'
         obtain ⟨hc', hf'⟩ := hb'.rule
         go_simp
         try go_ints
         exact hK'
       · intro K' hK'
         simp only [sqA]
         exact hK'
      iterate 1
       apply Flow.mv _ rfl
       · intro K' hK'
         simp only [sqA, Act.eval, arr_getD, List.getD_cons_zero, List.getD_cons_succ]
         exact hK'
      iterate 1
       apply Flow.calm2 _ _ rfl rfl
       · intro w' hb' K' hK'
         obtain ⟨hc', hf'⟩ := hb'.rule
         go_simp
         try go_ints
         exact hK'
       · intro K' hK'
         simp only [sqA]
         exact hK'
      iterate 1
       apply Flow.mv _ rfl
       · intro K' hK'
         simp only [sqA, Act.eval, arr_getD, List.getD_cons_zero, List.getD_cons_succ]
         exact hK'
      iterate 5
       apply Flow.calm2 _ _ rfl rfl
       · intro w' hb' K' hK'
         obtain ⟨hc', hf'⟩ := hb'.rule
         go_simp
         try go_ints
         exact hK'
       · intro K' hK'
         simp only [sqA]
         exact hK'
      refine Flow.tail _ rfl ?_
      go_wp2_with fail
      have hg0' : w0.heap.size ≤ (⟨g, q + x0 + xi, none⟩ : Addr).block := hg0
      exact ⟨⟨i + 1, hlt, by go_num, (HBr.out.drew).setCell hg0' _, HBg.out.drew.tabSetB _ _ (fun j _ => HYs.out j), (HB1.out.drew).far (by show w.heap.size ≠ g; omega) _, (HB2.out.drew).far (by show w.heap.size + 1 ≠ g; omega) _, Lib.hid (by simpa using hsz.out), Lib.hid (fun p T c hp h => ((hkp.out p T c hp h).drew).far hp _)⟩, by simp [intOf]; omega⟩
  · obtain rfl : i = wk * hk := by omega
    have hend : tabB (W * H) (putTo f bs wk hk x0 y0 W (wk * hk)) = tabB (W * H) (putF f bs wk hk x0 y0 W) := tabB_congr fun k _ => putTo_end _ _ _ _ _ _ _ _
    rw [hend] at hbg
    have HBg := Lib.hid hbg
    clear hbg hend
    go_wp2_with fail
    go_end0
    exact ⟨rfl, HBg.out, hbr, hsz.out, hkp.out⟩

end Go.Proofs.YthobmednnocklaaGreatDoor


/-! The plain law of finding: the number with the greatest score. -/
namespace Go.Proofs.YthobmednnocklaaGreatDoor
open Go.RowKit

/-! ### ink or none -/
theorem spotL_none {bs : List Bool} : ∀ {m : Nat}, (spotL bs m).length = 0 ↔ ∀ i, i < m → bs.getD i false = false
 | 0 => by simp [spotL]
 | m + 1 => by
  simp only [spotL, List.length_append]
  have ih := spotL_none (bs := bs) (m := m)
  constructor
  · intro h i hi
    rcases Nat.lt_or_ge i m with c | c
    · exact ih.1 (by omega) i c
    · obtain rfl : i = m := by omega
      cases hb : bs.getD i false
      · rfl
      · rw [hb] at h; simp at h
  · intro h
    rw [ih.2 (fun i hi => h i (by omega)), h m (by omega)]
    rfl
def inkB (bs : List Bool) (N : Nat) : Bool := decide (0 < (spotL bs N).length)
theorem inkB_is {bs : List Bool} {W H : Nat} {is : Bool} {X Y BW BH : Int} (h : BoundsIs bs W H is X Y BW BH) : is = inkB bs (W * H) := by
 unfold inkB
 rcases h with ⟨rfl, hno, _⟩ | ⟨rfl, l, r, t, b, hl, _⟩
 · symm
   rw [decide_eq_false_iff_not]
   intro hpos
   have : (spotL bs (W * H)).length = 0 := spotL_none.2 fun i hi => by
    obtain ⟨h1, h2, h3⟩ := place_parts hi
    have := hno _ h1
    cases hb : bs.getD i false
    · rfl
    · have := (colN_pos bs W H (i % W)).2 ⟨i / W, h2, by rw [pix_place hi]; exact hb⟩
      omega
   omega
 · symm
   rw [decide_eq_true_iff]
   rcases Nat.eq_zero_or_pos (spotL bs (W * H)).length with e | e
   · have hz := spotL_none.1 e
     obtain ⟨y, hy, hp⟩ := (colN_pos bs W H l).1 hl.1.2.1
     have := hz (l + y * W) (by rw [Nat.add_comm]; exact place_lt hl.1.1 hy)
     unfold pix at hp
     rw [Nat.add_comm] at this
     rw [this] at hp; cases hp
   · exact e
/-! ### slanted columns -/
/-! ### errors -/
end Go.Proofs.YthobmednnocklaaGreatDoor


/-! Decimal numbers of at most four digits, as page.number and bedref2.Number read them. -/
namespace Go.Proofs.YthobmednnocklaaGreatDoor
open Go.RowKit

theorem decFrom_snoc (b : UInt8) : ∀ (l : List UInt8) (acc : Nat), Lib.decFrom acc (l ++ [b]) = match Lib.decFrom acc l with | none => none | some m => (match Lib.digitVal b with | some d => some (m * 10 + d) | none => none)
 | [], acc => by
  show (match Lib.digitVal b with | some d => Lib.decFrom (acc * 10 + d) [] | none => none) = _
  cases Lib.digitVal b <;> rfl
 | a :: l, acc => by
  show (match Lib.digitVal a with | some d => Lib.decFrom (acc * 10 + d) (l ++ [b]) | none => none) = match (match Lib.digitVal a with | some d => Lib.decFrom (acc * 10 + d) l | none => none) with | none => none | some m => (match Lib.digitVal b with | some d => some (m * 10 + d) | none => none)
  cases Lib.digitVal a with
  | none => rfl
  | some d => exact decFrom_snoc b l (acc * 10 + d)
def dgB (d : Nat) : UInt8 := UInt8.ofNat (48 + d)
theorem dgB_nat {d : Nat} (h : d < 10) : (dgB d).toNat = 48 + d := by unfold dgB; rw [UInt8.toNat_ofNat']; omega
theorem digitVal_dg {d : Nat} (h : d < 10) : Lib.digitVal (dgB d) = some d := by
 unfold Lib.digitVal
 rw [dgB_nat h, if_pos (by omega)]
 congr 1
 omega
theorem digitVal_some {b : UInt8} {d : Nat} (h : Lib.digitVal b = some d) : d < 10 ∧ b = dgB d := by
 unfold Lib.digitVal at h
 split at h
 · rename_i hb
   obtain rfl := Option.some.inj h
   refine ⟨by omega, ?_⟩
   apply UInt8.toNat_inj.1
   rw [dgB_nat (by omega)]
   omega
 · cases h
theorem dec_small {n : Nat} (h : n < 10) : Lib.decDigits n = [dgB n] := Lib.decDigits_one h
theorem dec_big {n : Nat} (h : ¬ n < 10) : Lib.decDigits n = Lib.decDigits (n / 10) ++ [dgB (n % 10)] := by
 rw [Lib.decDigits, dif_neg h]
 rfl
theorem dec_digits (n : Nat) : Lib.decFrom 0 (Lib.decDigits n) = some n := by
 induction n using Nat.strongRecOn with
 | ind n ih =>
  by_cases h : n < 10
  · rw [dec_small h]
    show (match Lib.digitVal (dgB n) with | some d => Lib.decFrom (0 * 10 + d) [] | none => none) = some n
    rw [digitVal_dg h]
    show some (0 * 10 + n) = some n
    congr 1
    omega
  · rw [dec_big h, decFrom_snoc, ih (n / 10) (by omega)]
    simp only
    rw [digitVal_dg (by omega)]
    simp only
    congr 1
    omega
theorem dec_all (n : Nat) : ∀ b ∈ Lib.decDigits n, 48 ≤ b.toNat ∧ b.toNat ≤ 57 := by
 induction n using Nat.strongRecOn with
 | ind n ih =>
  by_cases h : n < 10
  · rw [dec_small h]
    intro b hb
    rw [List.mem_singleton.1 hb, dgB_nat h]
    omega
  · rw [dec_big h]
    intro b hb
    rcases List.mem_append.1 hb with hb | hb
    · exact ih (n / 10) (by omega) b hb
    · rw [List.mem_singleton.1 hb, dgB_nat (by omega)]
      omega
theorem dec_head (n : Nat) (h : 1 ≤ n) : ∃ b l, Lib.decDigits n = b :: l ∧ b ≠ 48 := by
 induction n using Nat.strongRecOn with
 | ind n ih =>
  by_cases h9 : n < 10
  · refine ⟨dgB n, [], dec_small h9, fun e => ?_⟩
    have := congrArg UInt8.toNat e
    rw [dgB_nat h9] at this
    have h48 : (48 : UInt8).toNat = 48 := rfl
    omega
  · obtain ⟨b, l, e, hb⟩ := ih (n / 10) (by omega) (by omega)
    exact ⟨b, l ++ [dgB (n % 10)], by rw [dec_big h9, e]; rfl, hb⟩
/-- Digits without a leading zero are the digits of their number. -/
theorem digits_dec : ∀ (k : Nat) (l : List UInt8) (m : Nat), l.length = k + 1 → (l.getD 0 0 ≠ 48 ∨ k = 0) → Lib.decFrom 0 l = some m → Lib.decDigits m = l
 | 0, l, m, hl, _, h => by
  match l, hl with
  | [b], _ =>
   have h' : (match Lib.digitVal b with | some d => Lib.decFrom (0 * 10 + d) [] | none => none) = some m := h
   cases hd : Lib.digitVal b with
   | none => rw [hd] at h'; cases h'
   | some d =>
    rw [hd] at h'
    have hm : 0 * 10 + d = m := Option.some.inj h'
    obtain ⟨h10, rfl⟩ := digitVal_some hd
    rw [show m = d by omega]
    exact dec_small h10
 | k + 1, l, m, hl, hz, h => by
  rcases List.eq_nil_or_concat l with rfl | ⟨q, b, rfl⟩
  · simp at hl
  · rw [List.concat_eq_append] at h hz hl ⊢
    rw [List.length_append, List.length_singleton] at hl
    rw [decFrom_snoc] at h
    cases hq : Lib.decFrom 0 q with
    | none => rw [hq] at h; cases h
    | some v =>
     rw [hq] at h
     cases hd : Lib.digitVal b with
     | none => simp only [hd] at h; cases h
     | some d =>
      simp only [hd] at h
      have hm : v * 10 + d = m := Option.some.inj h
      obtain ⟨h10, rfl⟩ := digitVal_some hd
      have hq0 : q.getD 0 0 ≠ 48 := by
       rcases hz with hz | hz
       · rw [List.getD_eq_getElem?_getD, List.getElem?_append_left (by omega), ← List.getD_eq_getElem?_getD] at hz
         exact hz
       · omega
      have ih := digits_dec k q v (by omega) (.inl hq0) hq
      have hv : 1 ≤ v := by
       rcases Nat.eq_zero_or_pos v with rfl | hv
       · rw [dec_small (by decide)] at ih
         rw [← ih] at hq0
         exact absurd rfl hq0
       · exact hv
      rw [dec_big (by omega), show m / 10 = v by omega, show m % 10 = d by omega, ih]
theorem atoi_plain {b : UInt8} (l : List UInt8) (hb : 48 ≤ b.toNat) : Lib.atoi (b :: l) = (Lib.decNat (b :: l)).map fun (m : Nat) => (m : Int) := by
 show (if (b == 45) = true then (Lib.decNat l).map (fun (m : Nat) => -(m : Int)) else if (b == 43) = true then (Lib.decNat l).map (fun (m : Nat) => (m : Int)) else (Lib.decNat (b :: l)).map fun (m : Nat) => (m : Int)) = _
 rw [if_neg (by intro hx; rw [beq_iff_eq] at hx; rw [hx] at hb; exact absurd hb (by decide)), if_neg (by intro hx; rw [beq_iff_eq] at hx; rw [hx] at hb; exact absurd hb (by decide))]
theorem atoi_digits {n : Nat} (h : 1 ≤ n) : Lib.atoi (Lib.decDigits n) = some (n : Int) := by
 obtain ⟨b, l, e, -⟩ := dec_head n h
 have hb := dec_all n b (by rw [e]; exact List.mem_cons_self ..)
 have hd := dec_digits n
 rw [e] at hd ⊢
 rw [atoi_plain l hb.1]
 unfold Lib.decNat
 rw [if_neg (by simp), hd]
 rfl
def isDg (b : UInt8) : Bool := decide (48 ≤ b.toNat ∧ b.toNat ≤ 57)
end Go.Proofs.YthobmednnocklaaGreatDoor
