/- Texts of letters; searches through letters; slices.Contains of ints. -/
import Derived.Test.YtjelhdpcaileiaaGreatDoorS2
import Derived.Lib.TrimByte

namespace Go.Proofs.YtjelhdpcaileiaaGreatDoor
open Go.RowKit

def okC (b : UInt8) : Prop := 33 ≤ (b.toNat : Int) ∧ (b.toNat : Int) ≤ 126
theorem textB_stop {l : List UInt8} {k : Nat} {b : UInt8} (h : l[k]? = some b) (hn : ¬ okC b) : textB l = false := by
  unfold textB
  rw [decide_eq_false (fun h2 => hn (by have := h2 b (List.mem_of_getElem? h); unfold okC; omega))]
  rfl
theorem textB_end {l : List UInt8} (h : ∀ (j : Nat) b, j < l.length → l[j]? = some b → okC b) : textB l = inB (l.length : Int) 1 4 := by
  unfold textB
  have e : (∀ b ∈ l, 33 ≤ b.toNat ∧ b.toNat ≤ 126) := fun b hb => by
    obtain ⟨j, hj⟩ := List.getElem?_of_mem hb
    have h2 := h j b (List.getElem?_eq_some_iff.1 hj).1 hj
    unfold okC at h2
    omega
  rw [decide_eq_true e, Bool.true_and, Bool.eq_iff_iff, inB_true, decide_eq_true_eq]
  omega
/-- Are all bytes from 33 to 126? -/
def printB (l : List UInt8) : Bool := decide (∀ b ∈ l, 33 ≤ b.toNat ∧ b.toNat ≤ 126)
theorem printB_stop {l : List UInt8} {k : Nat} {b : UInt8} (h : l[k]? = some b) (hn : ¬ okC b) : printB l = false :=
  decide_eq_false (fun h2 => hn (by have := h2 b (List.mem_of_getElem? h); unfold okC; omega))
theorem printB_end {l : List UInt8} (h : ∀ (j : Nat) b, j < l.length → l[j]? = some b → okC b) : printB l = true :=
  decide_eq_true fun b hb => by
    obtain ⟨j, hj⟩ := List.getElem?_of_mem hb
    have h2 := h j b (List.getElem?_eq_some_iff.1 hj).1 hj
    unfold okC at h2
    omega

set_option maxRecDepth 100000 in
set_option maxHeartbeats 1000000 in
theorem letterText_any (l : List UInt8) (w : World) (hs : l.length ≤ 9223372036854775807) :
    Calls Tryz.prog 74 #[.string ⟨l.toArray⟩] w fun e w' => e = .returned (.bool (textB l)) ∧ w = w' := by
  have hsz : (⟨l.toArray⟩ : ByteArray).size = l.length := Lib.size_mk l
  go_enter Tryz.func74, Tryz.ntmps74
  go_wp2_with fail
  go_loop [6] (fun u => ∃ k : Nat, k ≤ l.length ∧ u = .int .i64 k ∧ ∀ (j : Nat) b, j < k → l[j]? = some b → okC b) (fun u => l.length - (RowKit.intOf u).toNat)
  case atStart => exact ⟨0, Nat.zero_le _, rfl, fun j b hj => absurd hj (Nat.not_lt_zero _)⟩
  case round =>
    obtain ⟨k, hk, rfl, hc⟩ := hrel
    have HC := Lib.hid hc
    clear hc
    by_cases hlt : k < l.length
    · have hih : k < (⟨l.toArray⟩ : ByteArray).size := by rw [hsz]; exact hlt
      have hgi := Lib.getElem_mk l k hih
      obtain ⟨c, hc⟩ : ∃ c, c = (⟨l.toArray⟩ : ByteArray)[k]'hih := ⟨_, rfl⟩
      rw [← hc] at hgi
      have HG := Lib.hid hgi
      have hc' := hc.symm
      clear hc hgi
      by_cases c1 : (c.toNat : Int) < 33
      · have HN := Lib.hid (textB_stop HG.out (show ¬ okC c from fun h => by unfold okC at h; omega))
        go_wp2_with fail
        go_ret
        exact ⟨ret_bool HN.out.symm, rfl⟩
      · by_cases c2 : 126 < (c.toNat : Int)
        · have HN := Lib.hid (textB_stop HG.out (show ¬ okC c from fun h => by unfold okC at h; omega))
          go_wp2_with fail
          go_ret
          exact ⟨ret_bool HN.out.symm, rfl⟩
        · have HO := Lib.hid (show okC c from ⟨by omega, by omega⟩)
          go_wp2_with fail
          exact ⟨⟨k + 1, hlt, by go_num, fun j b hj hb => by
            rcases Nat.lt_succ_iff_lt_or_eq.1 hj with h | rfl
            · exact HC.out j b h hb
            · rw [HG.out] at hb
              obtain rfl := Option.some.inj hb
              exact HO.out⟩, by simp [RowKit.intOf]; omega⟩
    · obtain rfl : k = l.length := by omega
      have HE := Lib.hid (textB_end HC.out)
      go_wp2_with (go_at_call 24; refine (in_any _ _ _ _).mono ?_; rintro e w' ⟨rfl, rfl⟩)
      go_ret
      exact ⟨ret_bool HE.out.symm, rfl⟩

set_option maxRecDepth 100000 in
set_option maxHeartbeats 1000000 in
theorem printable_any (l : List UInt8) (w : World) (hs : l.length ≤ 9223372036854775807) :
    Calls Tryz.prog 84 #[.string ⟨l.toArray⟩] w fun e w' => e = .returned (.bool (printB l)) ∧ w = w' := by
  have hsz : (⟨l.toArray⟩ : ByteArray).size = l.length := Lib.size_mk l
  go_enter Tryz.func84, Tryz.ntmps84
  go_wp2_with fail
  go_loop [6] (fun u => ∃ k : Nat, k ≤ l.length ∧ u = .int .i64 k ∧ ∀ (j : Nat) b, j < k → l[j]? = some b → okC b) (fun u => l.length - (RowKit.intOf u).toNat)
  case atStart => exact ⟨0, Nat.zero_le _, rfl, fun j b hj => absurd hj (Nat.not_lt_zero _)⟩
  case round =>
    obtain ⟨k, hk, rfl, hc⟩ := hrel
    have HC := Lib.hid hc
    clear hc
    by_cases hlt : k < l.length
    · have hih : k < (⟨l.toArray⟩ : ByteArray).size := by rw [hsz]; exact hlt
      have hgi := Lib.getElem_mk l k hih
      obtain ⟨c, hc⟩ : ∃ c, c = (⟨l.toArray⟩ : ByteArray)[k]'hih := ⟨_, rfl⟩
      rw [← hc] at hgi
      have HG := Lib.hid hgi
      have hc' := hc.symm
      clear hc hgi
      by_cases c1 : (c.toNat : Int) < 33
      · have HN := Lib.hid (printB_stop HG.out (show ¬ okC c from fun h => by unfold okC at h; omega))
        go_wp2_with fail
        go_ret
        exact ⟨ret_bool HN.out.symm, rfl⟩
      · by_cases c2 : 126 < (c.toNat : Int)
        · have HN := Lib.hid (printB_stop HG.out (show ¬ okC c from fun h => by unfold okC at h; omega))
          go_wp2_with fail
          go_ret
          exact ⟨ret_bool HN.out.symm, rfl⟩
        · have HO := Lib.hid (show okC c from ⟨by omega, by omega⟩)
          go_wp2_with fail
          exact ⟨⟨k + 1, hlt, by go_num, fun j b hj hb => by
            rcases Nat.lt_succ_iff_lt_or_eq.1 hj with h | rfl
            · exact HC.out j b h hb
            · rw [HG.out] at hb
              obtain rfl := Option.some.inj hb
              exact HO.out⟩, by simp [RowKit.intOf]; omega⟩
    · obtain rfl : k = l.length := by omega
      have HE := Lib.hid (printB_end HC.out)
      go_wp2_with fail
      go_ret
      exact ⟨ret_bool HE.out.symm, rfl⟩

set_option maxRecDepth 100000 in
set_option maxHeartbeats 1000000 in
theorem isText_any (l : List UInt8) (w : World) (hs : l.length ≤ 9223372036854775807) :
    Calls Tryz.prog 231 #[.string ⟨l.toArray⟩] w fun e w' => e = .returned (.bool (textB l)) ∧ w = w' := by
  have hsz : (⟨l.toArray⟩ : ByteArray).size = l.length := Lib.size_mk l
  by_cases c1 : (l.length : Int) < 1
  · have HN := Lib.hid (show textB l = false by unfold textB; rw [decide_eq_false (show ¬ (1 ≤ l.length ∧ l.length ≤ 4) by omega), Bool.and_false])
    go_enter Tryz.func231, Tryz.ntmps231
    go_wp2_with fail
    go_ret
    exact ⟨ret_bool HN.out.symm, rfl⟩
  · by_cases c2 : 4 < (l.length : Int)
    · have HN := Lib.hid (show textB l = false by unfold textB; rw [decide_eq_false (show ¬ (1 ≤ l.length ∧ l.length ≤ 4) by omega), Bool.and_false])
      go_enter Tryz.func231, Tryz.ntmps231
      go_wp2_with fail
      go_ret
      exact ⟨ret_bool HN.out.symm, rfl⟩
    · have HN := Lib.hid (show textB l = printB l by unfold textB printB; rw [decide_eq_true (show 1 ≤ l.length ∧ l.length ≤ 4 by omega), Bool.and_true])
      go_enter Tryz.func231, Tryz.ntmps231
      go_wp2_with fail
      refine (printable_any l _ hs).mono ?_
      rintro e w' ⟨rfl, rfl⟩
      go_wp2_with fail
      go_ret
      exact ⟨ret_bool HN.out.symm, rfl⟩

/-! ### searches through letters -/
def Ltr.val (l : Ltr) : Value := .agg #[.string ⟨l.text.toArray⟩, .int .i64 l.W, .int .i64 l.H, .slice l.A l.m l.c]
/-- A function value that tests letters. -/
def Tests (P : Program) (k : FuncId) (cap : Array Value) (w : World) (ls : List Ltr) (p : Ltr → Bool) : Prop :=
  (∀ args w, (callFunc k args).run P w = .ok (.enter k args) w) ∧ ∀ wx l, Bl w wx → l ∈ ls → Calls P k (#[l.val] ++ cap) wx fun e w' => e = .returned (.bool (p l)) ∧ Bl wx w'
theorem Tests.bl {P : Program} {k : FuncId} {cap : Array Value} {w w' : World} {ls : List Ltr} {p : Ltr → Bool} (h : Tests P k cap w ls p) (hb : Bl w w') : Tests P k cap w' ls p := ⟨h.1, fun wx l hx hl => h.2 wx l (hb.trans hx) hl⟩
/-- The first letter that is met. -/
def FirstIs (ls : List Ltr) (p : Ltr → Bool) (i : Int) : Prop :=
  (i = -1 ∧ ∀ l ∈ ls, p l = false) ∨ ∃ (j : Nat) (l : Ltr), i = (j : Int) ∧ ls[j]? = some l ∧ p l = true ∧ ∀ j' l', j' < j → ls[j']? = some l' → p l' = false
theorem FirstIs.some_iff {ls : List Ltr} {p : Ltr → Bool} {i : Int} (h : FirstIs ls p i) : 0 ≤ i ↔ ∃ l ∈ ls, p l = true := by
  rcases h with ⟨rfl, h⟩ | ⟨j, l, rfl, hl, hp, _⟩
  · constructor
    · intro h2; omega
    · rintro ⟨l, hl, hp⟩; rw [h l hl] at hp; cases hp
  · exact ⟨fun _ => ⟨l, List.mem_of_getElem? hl, hp⟩, fun _ => Int.natCast_nonneg j⟩

set_option maxRecDepth 100000 in
set_option maxHeartbeats 1000000 in
theorem ltrIndex_any (L : Option Addr) (c : Nat) (ls : List Ltr) (k : FuncId) (cap : Array Value) (p : Ltr → Bool) (w : World) (hL : LtrsAt w L ls) (hk : Tests Tryz.prog k cap w ls p) (hn : ls.length ≤ 9223372036854775807) :
    Calls Tryz.prog 152 #[.slice L ls.length c, .func (.func k) #[] cap] w fun e w' => ∃ i : Int, e = .returned (.int .i64 i) ∧ FirstIs ls p i ∧ Bl w w' := by
  have hent := hk.1
  have HL := Lib.hid hL; have HK := Lib.hid hk
  clear hL hk
  go_enter Tryz.func152, Tryz.ntmps152
  go_wp2_with fail
  go_loopw [8] (fun u wr => ∃ i : Nat, i ≤ ls.length ∧ u = .int .i64 i ∧ Bl w wr ∧ ∀ j l, j < i → ls[j]? = some l → p l = false) (fun u _ => ls.length - (RowKit.intOf u).toNat)
  case atStart => exact ⟨0, Nat.zero_le _, rfl, Bl.refl _, fun j l hj => absurd hj (Nat.not_lt_zero _)⟩
  case round =>
    obtain ⟨i, hi, rfl, hbr, hno⟩ := hrel
    have HNo := Lib.hid hno
    clear hno
    by_cases hlt : i < ls.length
    · have hg : ls[i]? = some ls[i] := List.getElem?_eq_getElem hlt
      obtain ⟨l, hl⟩ : ∃ l, l = ls[i] := ⟨_, rfl⟩
      rw [← hl] at hg
      obtain ⟨ad, rfl, k1, k2, k3, k4⟩ := (HL.out.bl hbr).at_ hg
      have hcall := HK.out.2 wr l hbr (List.mem_of_getElem? hg)
      have Hcall := Lib.hid hcall; have HG := Lib.hid hg; have HBr := Lib.hid hbr
      clear hcall hg hl hbr
      go_wp2_with fail
      refine Hcall.out.mono ?_
      rintro e w1 ⟨rfl, hb1⟩
      have HB1 := Lib.hid (HBr.out.trans hb1)
      clear hb1
      cases hp : p l
      · have HP := Lib.hid hp
        clear hp
        go_wp2_with fail
        exact ⟨⟨i + 1, hlt, by go_num, HB1.out, fun j l' hj hl' => by
          rcases Nat.lt_succ_iff_lt_or_eq.1 hj with h | rfl
          · exact HNo.out j l' h hl'
          · rw [HG.out] at hl'
            obtain rfl := Option.some.inj hl'
            exact HP.out⟩, by simp [RowKit.intOf]; omega⟩
      · have HP := Lib.hid hp
        clear hp
        go_wp2_with fail
        go_ret
        exact ⟨_, rfl, Or.inr ⟨i, l, rfl, HG.out, HP.out, fun j' l' hj hl' => HNo.out j' l' hj hl'⟩, HB1.out⟩
    · obtain rfl : i = ls.length := by omega
      go_wp2_with fail
      go_ret
      exact ⟨_, rfl, Or.inl ⟨rfl, fun l hl => by
        obtain ⟨j, hj⟩ := List.getElem?_of_mem hl
        exact HNo.out j l (List.getElem?_eq_some_iff.1 hj).1 hj⟩, hbr⟩
set_option maxHeartbeats 1000000 in
theorem ltrContains_any (L : Option Addr) (c : Nat) (ls : List Ltr) (k : FuncId) (cap : Array Value) (p : Ltr → Bool) (w : World) (hL : LtrsAt w L ls) (hk : Tests Tryz.prog k cap w ls p) (hn : ls.length ≤ 9223372036854775807) :
    Calls Tryz.prog 75 #[.slice L ls.length c, .func (.func k) #[] cap] w fun e w' => e = .returned (.bool (decide (∃ l ∈ ls, p l = true))) ∧ Bl w w' := by
  have Hc := Lib.hid (ltrIndex_any L c ls k cap p w hL hk hn)
  clear hL hk
  go_enter Tryz.func75, Tryz.ntmps75
  go_wp2_with fail
  refine Hc.out.mono ?_
  rintro e w1 ⟨i, rfl, hi, hb⟩
  have Hi := Lib.hid hi.some_iff
  clear hi
  go_wp2_with fail
  go_ret
  exact ⟨ret_bool (decide_eq_decide.2 Hi.out), hb⟩

/-! ### slices.Contains of ints -/
set_option maxHeartbeats 1000000 in
theorem indexI_any (A : Option Addr) (n c : Nat) (xs : List Int) (v : Int) (w : World) (hA : Reads w 1 A n (xs.map (.int .i64))) (hn : n ≤ 1099511627776) :
    Calls Tryz.prog 153 #[.slice A n c, .int .i64 v] w fun e w' => ∃ k : Int, e = .returned (.int .i64 k) ∧ (0 ≤ k ↔ v ∈ xs) ∧ w = w' := by
  have hl : xs.length = n := by have := hA.1; simpa using this
  have HA := Lib.hid hA; have HL := Lib.hid hl
  clear hA hl
  go_enter Tryz.func153, Tryz.ntmps153
  go_wp2_with fail
  go_loopw [8] (fun u wr => ∃ i : Nat, i ≤ n ∧ u = .int .i64 i ∧ w = wr ∧ ∀ j, j < i → xs[j]? ≠ some v) (fun u _ => n - (RowKit.intOf u).toNat)
  case atStart => exact ⟨0, Nat.zero_le _, rfl, rfl, fun j hj => absurd hj (Nat.not_lt_zero _)⟩
  case round =>
    obtain ⟨i, hi, rfl, rfl, hno⟩ := hrel
    have Hno := Lib.hid hno
    clear hno
    by_cases hlt : i < n
    · obtain ⟨ad, u, rfl, hu, hc⟩ := HA.out.at_ hlt
      have hl2 : i < xs.length := by rw [HL.out]; exact hlt
      have hu' : u = .int .i64 xs[i] := by simpa [hl2] using hu.symm
      have hg : xs[i]? = some xs[i] := List.getElem?_eq_getElem hl2
      subst hu'
      obtain ⟨b, hb⟩ : ∃ b, b = xs[i] := ⟨_, rfl⟩
      rw [← hb] at hc hg
      have Hg := Lib.hid hg
      clear hu hb hg hl2
      by_cases hbv : v = b
      · have hq : (v == b) = true := by simp [hbv]
        have HX := Lib.hid (show 0 ≤ (i : Int) ↔ v ∈ xs from ⟨fun _ => by rw [hbv]; exact List.mem_of_getElem? Hg.out, fun _ => Int.natCast_nonneg i⟩)
        clear hbv
        go_wp2_with fail
        go_ret
        exact ⟨_, rfl, HX.out, rfl⟩
      · have hq : (v == b) = false := by simp [hbv]
        have HY : Hid (∀ j, j < i + 1 → xs[j]? ≠ some v) := fun j hj => by
          rcases Nat.lt_succ_iff_lt_or_eq.1 hj with h | rfl
          · exact Hno.out j h
          · rw [Hg.out]; intro e; exact hbv (Option.some.inj e).symm
        clear hbv
        go_wp2_with fail
        exact ⟨⟨i + 1, hlt, by go_num, by first | rfl | trivial, HY.out⟩, by simp [RowKit.intOf]; omega⟩
    · have HX := Lib.hid (show (0 : Int) ≤ -1 ↔ v ∈ xs from ⟨fun h => absurd h (by decide), fun h => by
        obtain ⟨j, hj⟩ := List.getElem?_of_mem h
        have := (List.getElem?_eq_some_iff.1 hj).1
        exact absurd hj (Hno.out j (by have := HL.out; omega))⟩)
      go_wp2_with fail
      go_ret
      exact ⟨_, rfl, HX.out, rfl⟩
set_option maxHeartbeats 1000000 in
theorem containsI_any (A : Option Addr) (n c : Nat) (xs : List Int) (v : Int) (w : World) (hA : Reads w 1 A n (xs.map (.int .i64))) (hn : n ≤ 1099511627776) :
    Calls Tryz.prog 77 #[.slice A n c, .int .i64 v] w fun e w' => e = .returned (.bool (decide (v ∈ xs))) ∧ w = w' := by
  go_enter Tryz.func77, Tryz.ntmps77
  go_wp2_with fail
  refine (indexI_any A n c xs v w hA hn).mono ?_
  rintro e w1 ⟨k, rfl, hk, rfl⟩
  have Hk := Lib.hid hk
  clear hk hA
  go_wp2_with fail
  go_ret
  exact ⟨ret_bool (decide_eq_decide.2 Hk.out), rfl⟩

end Go.Proofs.YtjelhdpcaileiaaGreatDoor
