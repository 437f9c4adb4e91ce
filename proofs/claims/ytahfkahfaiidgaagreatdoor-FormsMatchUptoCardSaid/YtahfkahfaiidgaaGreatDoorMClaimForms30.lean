/- What bedref2.ruleError asks of a text: strings.ContainsFunc of what is no printable sign, slices.Contains of texts. -/
import Derived.Test.YtahfkahfaiidgaaGreatDoorMClaimForms24
import Derived.Shelf.GgClosure.StringsIndexFuncTop
import Derived.Laws.RangeAny
import Derived.Ground.GgwProg

namespace Go.Proofs
open Go.Shelf
def Tryz.lays17w_ren : Go.Shelf.Ren := ⟨fun | 17 => 84 | 15 => 113 | 20 => 142 | n => n, fun | 9 => 9 | 23 => 130 | 4 => 4 | 3 => 3 | 0 => 0 | 21 => 21 | n => n, fun | n => n⟩
theorem Tryz.lays17w : Go.Proofs.LaysGw.n17 Tryz.prog Tryz.lays17w_ren := {
  mixed := by kernel_rfl
  f15 := Tryz.func113.trans (congrArg some (by kernel_rfl))
  f17 := Tryz.func84.trans (congrArg some (by kernel_rfl))
  f20 := Tryz.func142.trans (congrArg some (by kernel_rfl))
  t0 := Tryz.underlying0
  a0 := Tryz.isAgg0
  z0 := Tryz.sizeOf0
  v0 := Tryz.zeroValue0
  i0 := by kernel_rfl
  t3 := Tryz.underlying3
  a3 := Tryz.isAgg3
  z3 := Tryz.sizeOf3
  v3 := Tryz.zeroValue3
  i3 := by kernel_rfl
  t4 := Tryz.underlying4
  a4 := Tryz.isAgg4
  z4 := Tryz.sizeOf4
  v4 := Tryz.zeroValue4
  i4 := by kernel_rfl
  t9 := Tryz.underlying9
  a9 := Tryz.isAgg9
  z9 := Tryz.sizeOf9
  v9 := Tryz.zeroValue9
  i9 := by kernel_rfl
  t21 := Tryz.underlying21
  a21 := Tryz.isAgg21
  z21 := Tryz.sizeOf21
  v21 := Tryz.zeroValue21
  i21 := by kernel_rfl
  t23 := Tryz.underlying130
  a23 := Tryz.isAgg130
  z23 := Tryz.sizeOf130
  v23 := Tryz.zeroValue130
  i23 := by kernel_rfl }

end Go.Proofs
namespace Go.Proofs.YtahfkahfaiidgaaGreatDoor
open Go.RowKit Go.Shelf

def oddR (r : Nat) : Bool := decide (r < 32) || decide (126 < r)
theorem idxFrom_iff (p : Nat → Bool) (hp : ∀ r, 128 ≤ r → p r = true) (s : ByteArray) : ∀ (f pos : Nat), s.size ≤ pos + f → (0 ≤ Go.Lib.idxFuncFrom p true s f pos ↔ ∃ (j : Nat) (h : j < s.size), pos ≤ j ∧ p (s[j]'h).toNat = true)
  | 0, pos, hf => by
    show (0 ≤ (-1 : Int)) ↔ _
    exact ⟨fun h => absurd h (by decide), fun ⟨j, h, h1, _⟩ => by omega⟩
  | f + 1, pos, hf => by
    unfold Go.Lib.idxFuncFrom
    by_cases hlt : pos < s.size
    · rw [if_pos hlt]
      by_cases ha : (s[pos]'hlt).toNat < 128
      · rw [decode_ascii s pos hlt ha]
        by_cases hc : p (s[pos]'hlt).toNat = true
        · rw [if_pos hc]
          exact ⟨fun _ => ⟨pos, hlt, Nat.le_refl _, hc⟩, fun _ => Int.natCast_nonneg _⟩
        · rw [if_neg hc]
          rw [idxFrom_iff p hp s f (pos + 1) (by omega)]
          constructor
          · rintro ⟨j, h, h1, h2⟩; exact ⟨j, h, by omega, h2⟩
          · rintro ⟨j, h, h1, h2⟩
            refine ⟨j, h, ?_, h2⟩
            rcases Nat.lt_or_eq_of_le h1 with h3 | rfl
            · omega
            · exact absurd h2 hc
      · have hd := (decode_high s pos hlt (by omega)).1
        rw [if_pos (hp _ hd)]
        exact ⟨fun _ => ⟨pos, hlt, Nat.le_refl _, hp _ (by omega)⟩, fun _ => Int.natCast_nonneg _⟩
    · rw [if_neg hlt]
      exact ⟨fun h => absurd h (by decide), fun ⟨j, h, h1, _⟩ => by omega⟩
theorem idx_any (p : Nat → Bool) (hp : ∀ r, 128 ≤ r → p r = true) (t : List UInt8) : decide (0 ≤ Go.Lib.idxFunc p true ⟨t.toArray⟩) = t.any fun b => p b.toNat := by
  rw [Bool.eq_iff_iff, decide_eq_true_eq, List.any_eq_true]
  unfold Go.Lib.idxFunc
  rw [idxFrom_iff p hp _ _ 0 (by omega)]
  have hsz : (⟨t.toArray⟩ : ByteArray).size = t.length := Lib.size_mk t
  constructor
  · rintro ⟨j, h, -, h2⟩
    have hg := Lib.getElem_mk t j h
    exact ⟨_, List.mem_of_getElem? hg, h2⟩
  · rintro ⟨b, hb, h2⟩
    obtain ⟨j, hj⟩ := List.getElem?_of_mem hb
    have hlt : j < (⟨t.toArray⟩ : ByteArray).size := by rw [hsz]; exact (List.getElem?_eq_some_iff.1 hj).1
    have hg := Lib.getElem_mk t j hlt
    rw [hj] at hg
    refine ⟨j, hlt, Nat.zero_le _, ?_⟩
    rw [← Option.some.inj hg]
    exact h2
theorem mem_joinW : ∀ (l : List (List UInt8)) (b : UInt8), b ∈ joinW l → b = 32 ∨ ∃ x ∈ l, b ∈ x
  | [], b, h => by cases h
  | [x], b, h => .inr ⟨x, List.mem_singleton.2 rfl, h⟩
  | x :: y :: l, b, h => by
    have h : b ∈ x ++ 32 :: joinW (y :: l) := h
    rcases List.mem_append.1 h with h | h
    · exact .inr ⟨x, List.mem_cons_self .., h⟩
    · rcases List.mem_cons.1 h with h | h
      · exact .inl h
      · rcases mem_joinW (y :: l) b h with h | ⟨z, hz, h⟩
        · exact .inl h
        · exact .inr ⟨z, List.mem_cons_of_mem _ hz, h⟩
theorem joinW_mem : ∀ (l : List (List UInt8)) (x : List UInt8) (b : UInt8), x ∈ l → b ∈ x → b ∈ joinW l
  | [], x, b, h, _ => by cases h
  | [z], x, b, h, hb => by rw [List.mem_singleton.1 h] at hb; exact hb
  | z :: y :: l, x, b, h, hb => by
    show b ∈ z ++ 32 :: joinW (y :: l)
    rcases List.mem_cons.1 h with rfl | h
    · exact List.mem_append_left _ hb
    · exact List.mem_append_right _ (List.mem_cons_of_mem _ (joinW_mem (y :: l) x b h hb))
/-- Words, as bedref2 asks for them. -/
theorem words_two (t : List UInt8) : wordsB t = !(decide ([] ∈ wordsOf t) || t.any fun b => oddR b.toNat) := by
  obtain ⟨-, hj, hn⟩ := wordsOf_spec _ t (Nat.le_refl _)
  rw [Bool.eq_iff_iff]
  simp only [Bool.not_eq_true', Bool.or_eq_false_iff, decide_eq_false_iff_not, List.any_eq_false]
  unfold wordsB
  rw [List.all_eq_true]
  constructor
  · intro h
    refine ⟨fun hm => by have := h [] hm; simp at this, fun b hb => ?_⟩
    rw [← hj] at hb
    have hb' : 32 ≤ b.toNat ∧ b.toNat ≤ 126 := by
      rcases mem_joinW _ b hb with rfl | ⟨x, hx, hbx⟩
      · decide
      · have := h x hx
        rw [Bool.and_eq_true] at this
        have h2 := of_decide_eq_true (show decide (∀ b ∈ x, 33 ≤ b.toNat ∧ b.toNat ≤ 126) = true from this.2) b hbx
        omega
    unfold oddR
    simp
    omega
  · rintro ⟨h1, h2⟩ x hx
    rw [Bool.and_eq_true]
    refine ⟨?_, decide_eq_true fun b hb => ?_⟩
    · cases x with
      | nil => exact absurd hx h1
      | cons _ _ => rfl
    · have h3 := h2 b (by rw [← hj]; exact joinW_mem _ x b hx hb)
      have h4 := hn x hx b hb
      unfold oddR at h3
      simp at h3
      have h5 : b.toNat ≠ 32 := fun e => h4 (UInt8.toNat_inj.1 e)
      omega
theorem ruleError1_at (w : World) : Go.Proofs.PredAt Tryz.prog 85 #[] Go.Proofs.encR oddR w := fun W r _ => by
  unfold FnGives
  unfold oddR
  by_cases h1 : r < 32 <;> by_cases h2 : 126 < r
  all_goals
    have z1 : (r : Int) < 32 ↔ r < 32 := by omega
    have z2 : (126 : Int) < (r : Int) ↔ 126 < r := by omega
    go_enter Tryz.func85, Tryz.ntmps85
    go_wp2
    all_goals first | (exfalso; omega) | (go_ret; exact ⟨by simp [h1, h2], 0, rfl⟩)
theorem containsFunc_any (t : List UInt8) (w : World) : Calls Tryz.prog 84 #[.string ⟨t.toArray⟩, .func (.func 85) #[] #[]] w fun e w' => e = .returned (.bool (t.any fun b => oddR b.toNat)) ∧ Bl w w' := by
  have h := Any.strings_ContainsFunc Tryz.lays17w 85 #[] (enters Tryz.func85 (by kernel_rfl) rfl) oddR ⟨t.toArray⟩ w (ruleError1_at w)
  rw [idx_any oddR (fun r hr => by unfold oddR; rw [decide_eq_true (show 126 < r by omega), Bool.or_true]) t] at h
  exact h
set_option maxRecDepth 100000 in
set_option maxHeartbeats 1000000 in
theorem indexS_any (L : Option Addr) (c : Nat) (ts : List (List UInt8)) (x : List UInt8) (w : World) (hL : Reads w 1 L ts.length (strCells' ts)) (hn : ts.length ≤ 9223372036854775807) :
    Calls Tryz.prog 89 #[.slice L ts.length c, .string ⟨x.toArray⟩] w fun e w' => ∃ i : Int, e = .returned (.int .i64 i) ∧ (0 ≤ i ↔ x ∈ ts) ∧ w = w' := by
  have HL := Lib.hid hL
  clear hL
  go_enter Tryz.func89, Tryz.ntmps89
  go_wp2_with fail
  go_loop [8] (fun u => ∃ i : Nat, i ≤ ts.length ∧ u = .int .i64 i ∧ ∀ (j : Nat) y, j < i → ts[j]? = some y → y ≠ x) (fun u => ts.length - (RowKit.intOf u).toNat)
  case atStart => exact ⟨0, Nat.zero_le _, rfl, fun j l hj => absurd hj (Nat.not_lt_zero _)⟩
  case round =>
    obtain ⟨i, hi, rfl, hno⟩ := hrel
    have HNo := Lib.hid hno
    clear hno
    by_cases hlt : i < ts.length
    · have hg : ts[i]? = some ts[i] := List.getElem?_eq_getElem hlt
      obtain ⟨y, hy⟩ : ∃ l, l = ts[i] := ⟨_, rfl⟩
      rw [← hy] at hg
      obtain ⟨ad, rfl, k1⟩ := str_at HL.out hg
      have HG := Lib.hid hg
      clear hg hy
      by_cases he : x = y
      · have HP := Lib.hid (show x ∈ ts by rw [he]; exact List.mem_of_getElem? HG.out)
        subst he
        go_wp2_with fail
        go_ret
        exact ⟨_, rfl, ⟨fun _ => HP.out, fun _ => by omega⟩, rfl⟩
      · have HP := Lib.hid he
        have heq : (x == y) = false := by simpa using he
        go_wp2_with fail
        exact ⟨⟨i + 1, hlt, by go_num, fun j l' hj hl' => by
          rcases Nat.lt_succ_iff_lt_or_eq.1 hj with h | rfl
          · exact HNo.out j l' h hl'
          · rw [HG.out] at hl'
            obtain rfl := Option.some.inj hl'
            exact fun e => HP.out e.symm⟩, by simp [RowKit.intOf]; omega⟩
    · obtain rfl : i = ts.length := by omega
      go_wp2_with fail
      go_ret
      exact ⟨_, rfl, ⟨fun h => absurd h (by decide), fun hm => by
        obtain ⟨j, hj⟩ := List.getElem?_of_mem hm
        exact absurd rfl (HNo.out j x (List.getElem?_eq_some_iff.1 hj).1 hj)⟩, rfl⟩
set_option maxHeartbeats 1000000 in
theorem containsS_any (L : Option Addr) (c : Nat) (ts : List (List UInt8)) (x : List UInt8) (w : World) (hL : Reads w 1 L ts.length (strCells' ts)) (hn : ts.length ≤ 9223372036854775807) :
    Calls Tryz.prog 47 #[.slice L ts.length c, .string ⟨x.toArray⟩] w fun e w' => e = .returned (.bool (decide (x ∈ ts))) ∧ w = w' := by
  have Hc := Lib.hid (indexS_any L c ts x w hL hn)
  clear hL
  go_enter Tryz.func47, Tryz.ntmps47
  go_wp2_with fail
  refine Hc.out.mono ?_
  rintro e w1 ⟨i, rfl, hi, rfl⟩
  have Hi := Lib.hid hi
  clear hi
  go_wp2_with fail
  go_ret
  exact ⟨ret_bool (decide_eq_decide.2 Hi.out), rfl⟩
end Go.Proofs.YtahfkahfaiidgaaGreatDoor
