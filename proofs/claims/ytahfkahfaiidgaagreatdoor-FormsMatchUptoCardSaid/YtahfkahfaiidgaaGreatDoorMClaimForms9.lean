/- Names: page.IsName and bedref2.NameOf are nameB of the text's bytes. -/
import Derived.Test.YtahfkahfaiidgaaGreatDoorMClaimForms0
import Derived.WalkKit
import Derived.Ground.NamesProg
import Derived.Shelf.Lay
import Derived.Shelf.Strings.SlTrimAscii

namespace Go.Proofs
open Go.Shelf
def Tryz.lays160_ren : Go.Shelf.Ren := ⟨fun | 160 => 88 | 232 => 115 | 231 => 114 | 227 => 116 | 234 => 118 | 233 => 117 | 236 => 120 | 235 => 119 | 228 => 143 | 271 => 146 | 151 => 145 | 197 => 144 | 120 => 164 | 152 => 163 | 260 => 162 | 137 => 177 | 119 => 178 | 224 => 167 | 225 => 166 | 217 => 165 | 266 => 179 | n => n, fun | 9 => 9 | 4 => 4 | 3 => 3 | 5 => 5 | 117 => 156 | 116 => 155 | 0 => 0 | 124 => 159 | 21 => 21 | 105 => 177 | 46 => 149 | 119 => 210 | 139 => 213 | 138 => 212 | n => n, fun | 3 => 3 | 4 => 4 | n => n⟩
theorem Tryz.lays160 : Go.Proofs.Lays.n160 Tryz.prog Tryz.lays160_ren := {
  mixed := by kernel_rfl
  f119 := Tryz.func178.trans (congrArg some (by kernel_rfl))
  f120 := Tryz.func164.trans (congrArg some (by kernel_rfl))
  f137 := Tryz.func177.trans (congrArg some (by kernel_rfl))
  f151 := Tryz.func145.trans (congrArg some (by kernel_rfl))
  f152 := Tryz.func163.trans (congrArg some (by kernel_rfl))
  f160 := Tryz.func88.trans (congrArg some (by kernel_rfl))
  f197 := Tryz.func144.trans (congrArg some (by kernel_rfl))
  f217 := Tryz.func165.trans (congrArg some (by kernel_rfl))
  f224 := Tryz.func167.trans (congrArg some (by kernel_rfl))
  f225 := Tryz.func166.trans (congrArg some (by kernel_rfl))
  f227 := Tryz.func116.trans (congrArg some (by kernel_rfl))
  f228 := Tryz.func143.trans (congrArg some (by kernel_rfl))
  f231 := Tryz.func114.trans (congrArg some (by kernel_rfl))
  f232 := Tryz.func115.trans (congrArg some (by kernel_rfl))
  f233 := Tryz.func117.trans (congrArg some (by kernel_rfl))
  f234 := Tryz.func118.trans (congrArg some (by kernel_rfl))
  f235 := Tryz.func119.trans (congrArg some (by kernel_rfl))
  f236 := Tryz.func120.trans (congrArg some (by kernel_rfl))
  f260 := Tryz.func162.trans (congrArg some (by kernel_rfl))
  f266 := Tryz.func179.trans (congrArg some (by kernel_rfl))
  f271 := Tryz.func146.trans (congrArg some (by kernel_rfl))
  t0 := Tryz.underlying0
  a0 := Tryz.isAgg0
  z0 := Tryz.sizeOf0
  v0 := Tryz.zeroValue0
  t3 := Tryz.underlying3
  a3 := Tryz.isAgg3
  z3 := Tryz.sizeOf3
  v3 := Tryz.zeroValue3
  t4 := Tryz.underlying4
  a4 := Tryz.isAgg4
  z4 := Tryz.sizeOf4
  v4 := Tryz.zeroValue4
  t5 := Tryz.underlying5
  a5 := Tryz.isAgg5
  z5 := Tryz.sizeOf5
  v5 := Tryz.zeroValue5
  t9 := Tryz.underlying9
  a9 := Tryz.isAgg9
  z9 := Tryz.sizeOf9
  v9 := Tryz.zeroValue9
  t21 := Tryz.underlying21
  a21 := Tryz.isAgg21
  z21 := Tryz.sizeOf21
  v21 := Tryz.zeroValue21
  t46 := Tryz.underlying149
  a46 := Tryz.isAgg149
  z46 := Tryz.sizeOf149
  v46 := Tryz.zeroValue149
  t105 := Tryz.underlying177
  a105 := Tryz.isAgg177
  z105 := Tryz.sizeOf177
  v105 := Tryz.zeroValue177
  t116 := Tryz.underlying155
  a116 := Tryz.isAgg155
  z116 := Tryz.sizeOf155
  t117 := Tryz.underlying156
  a117 := Tryz.isAgg156
  z117 := Tryz.sizeOf156
  v117 := Tryz.zeroValue156
  t119 := Tryz.underlying210
  a119 := Tryz.isAgg210
  z119 := Tryz.sizeOf210
  t124 := Tryz.underlying159
  a124 := Tryz.isAgg159
  z124 := Tryz.sizeOf159
  v124 := Tryz.zeroValue159
  t138 := Tryz.underlying212
  a138 := Tryz.isAgg212
  z138 := Tryz.sizeOf212
  v138 := Tryz.zeroValue212
  t139 := Tryz.underlying213
  a139 := Tryz.isAgg213
  z139 := Tryz.sizeOf213
  v139 := Tryz.zeroValue213
  g3 := by kernel_rfl
  g4 := by kernel_rfl }

end Go.Proofs
namespace Go.Proofs.YtahfkahfaiidgaaGreatDoor
open Go.RowKit Go.Shelf Go.Lib

def nameCs : List UInt8 := [97, 98, 99, 100, 101, 102, 103, 104, 105, 106, 107, 108, 109, 110, 111, 112, 113, 114, 115, 116, 117, 118, 119, 120, 121, 122, 48, 49, 50, 51, 52, 53, 54, 55, 56, 57, 45]
def isLow (b : UInt8) : Bool := decide (97 ≤ b.toNat ∧ b.toNat ≤ 122)
def nameB (l : List UInt8) : Bool := decide (l ≠ [] ∧ l.length ≤ 40 ∧ (∀ b, l[0]? = some b → isLow b = true) ∧ ∀ b ∈ l, nameCs.contains b = true)
theorem nameCs_has (b : UInt8) : nameCs.contains b = true ↔ (97 ≤ b.toNat ∧ b.toNat ≤ 122) ∨ (48 ≤ b.toNat ∧ b.toNat ≤ 57) ∨ b.toNat = 45 := by
  rw [List.contains_iff_mem]
  constructor
  · intro h
    simp only [nameCs, List.mem_cons, List.not_mem_nil, or_false] at h
    rcases h with h | h | h | h | h | h | h | h | h | h | h | h | h | h | h | h | h | h | h | h | h | h | h | h | h | h | h | h | h | h | h | h | h | h | h | h | h <;> subst h <;> decide
  · intro h
    have hb : b = UInt8.ofNat b.toNat := by simp
    rw [hb]
    have hlt : b.toNat < 256 := b.toNat_lt
    generalize b.toNat = n at h hlt
    have : n ∈ List.range 256 := List.mem_range.2 hlt
    revert h
    revert n
    decide +kernel
theorem dropWhile_nil {α : Type} (p : α → Bool) (l : List α) : l.dropWhile p = [] ↔ ∀ b ∈ l, p b = true := by
  induction l with
  | nil => simp
  | cons a l ih =>
    rw [List.dropWhile_cons]
    cases h : p a
    · simp [h]
    · simp [h, ih]
theorem takeWhile_all {α : Type} (p : α → Bool) (l : List α) : ∀ b ∈ l.takeWhile p, p b = true := by
  induction l with
  | nil => simp
  | cons a l ih =>
    rw [List.takeWhile_cons]
    cases h : p a
    · simp
    · intro b hb
      simp only [if_true, List.mem_cons] at hb
      rcases hb with rfl | hb
      · exact h
      · exact ih b hb
theorem trimS_nil_iff (l cs : List UInt8) : trimS l cs = [] ↔ ∀ b ∈ l, cs.contains b = true := by
  unfold trimS trimLeftS trimRightS
  rw [dropWhile_nil]
  constructor
  · intro h b hb
    by_cases hc : cs.contains b = true
    · exact hc
    · have hr : b ∈ l.reverse.dropWhile (cs.contains ·) := by
        have h2 : b ∈ l.reverse.takeWhile (cs.contains ·) ++ l.reverse.dropWhile (cs.contains ·) := by rw [List.takeWhile_append_dropWhile]; exact List.mem_reverse.2 hb
        rcases List.mem_append.1 h2 with h3 | h3
        · exact absurd (takeWhile_all _ _ _ h3) hc
        · exact h3
      exact h b (List.mem_reverse.2 hr)
  · intro h b hb
    exact h b (List.mem_reverse.1 ((List.dropWhile_suffix _).subset (List.mem_reverse.1 hb)))

theorem head_of {s : ByteArray} (h : 0 < s.size) : s.data.toList[0]? = some s[0] := by
  have := Lib.size_eq s
  rw [List.getElem?_eq_getElem (by omega)]; rfl
theorem nameB_empty {s : ByteArray} (h : s.size = 0) : nameB s.data.toList = false := by
  have := Lib.size_eq s
  have h2 : s.data.toList = [] := List.eq_nil_of_length_eq_zero (by omega)
  rw [h2]; rfl
theorem nameB_long {s : ByteArray} (h : ¬ s.size ≤ 40) : nameB s.data.toList = false := by
  have := Lib.size_eq s
  unfold nameB
  refine decide_eq_false fun h2 => ?_
  omega
theorem nameB_lo {s : ByteArray} (h0 : 0 < s.size) (h : ¬ 97 ≤ (s[0].toNat : Int)) : nameB s.data.toList = false := by
  unfold nameB
  refine decide_eq_false fun h2 => ?_
  have h3 := h2.2.2.1 _ (head_of h0)
  unfold isLow at h3
  have h4 := of_decide_eq_true h3
  omega
theorem nameB_hi {s : ByteArray} (h0 : 0 < s.size) (h : ¬ (s[0].toNat : Int) ≤ 122) : nameB s.data.toList = false := by
  unfold nameB
  refine decide_eq_false fun h2 => ?_
  have h3 := h2.2.2.1 _ (head_of h0)
  unfold isLow at h3
  have h4 := of_decide_eq_true h3
  omega
theorem nameB_trim {s : ByteArray} (h0 : 0 < s.size) (h40 : s.size ≤ 40) (ha : 97 ≤ (s[0].toNat : Int)) (hb : (s[0].toNat : Int) ≤ 122) (hl : s.size = s.data.toList.length) : nameB s.data.toList = (Lib.trimS s.data.toList nameCs).isEmpty := by
  rw [Bool.eq_iff_iff, List.isEmpty_iff, trimS_nil_iff]
  unfold nameB
  rw [decide_eq_true_eq]
  constructor
  · intro h; exact h.2.2.2
  · intro h
    refine ⟨fun e => ?_, by omega, fun b hb' => ?_, h⟩
    · have h2 := congrArg List.length e; simp only [List.length_nil] at h2; omega
    · rw [head_of h0] at hb'
      obtain rfl := Option.some.inj hb'
      unfold isLow
      exact decide_eq_true (by omega)
theorem empty_of {s : ByteArray} (h : s.size = 0) : s.toList.isEmpty = true := by
  rw [Lib.toList_data]
  cases h' : s.data.toList with
  | nil => rfl
  | cons _ _ => have := Lib.size_eq s; rw [h', List.length_cons] at this; omega
theorem nonempty_of {s : ByteArray} (h : 0 < s.size) : s.toList.isEmpty = false := by
  rw [Lib.toList_data]
  cases h' : s.data.toList with
  | nil => have := Lib.size_eq s; rw [h', List.length_nil] at this; omega
  | cons _ _ => rfl

set_option maxRecDepth 100000 in
set_option maxHeartbeats 1000000 in
theorem isName_any (s : ByteArray) (w : World) (hs : s.size ≤ 9223372036854775807) :
    Calls Tryz.prog 55 #[.string s] w fun e w' => e = .returned (.bool (nameB s.data.toList)) ∧ Bl w w' := by
  have hcon := fun w => Any.strings_Trim_laid Tryz.lays160 (by kernel_rfl) s ⟨nameCs.toArray⟩ w hs (by decide) (ascii_of_all (by decide))
  have Hlen := Lib.hid (Lib.size_eq s)
  by_cases h0 : 0 < s.size
  · have he := nonempty_of h0
    by_cases h40 : s.size ≤ 40
    · by_cases ha : 97 ≤ (s[0].toNat : Int)
      · by_cases hb : (s[0].toNat : Int) ≤ 122
        · obtain ⟨r, hr⟩ : ∃ r, r = (⟨(Lib.trimS s.data.toList nameCs).toArray⟩ : ByteArray) := ⟨_, rfl⟩
          have hcon' : ∀ w, Calls Tryz.prog 88 #[.string s, .string ⟨nameCs.toArray⟩] w fun e w' => e = .returned (.string r) ∧ Below w.heap.size w w' := by rw [hr]; exact hcon
          clear hcon
          go_enter Tryz.func55, Tryz.ntmps55
          go_wp2_with (go_at_call 88; refine (hcon' _).mono ?_; rintro e w' ⟨rfl, hB⟩)
          go_ret
          exact ⟨ret_bool (nameB_trim h0 h40 ha hb Hlen.out).symm, hB⟩
        · have HN := Lib.hid (nameB_hi h0 hb)
          go_enter Tryz.func55, Tryz.ntmps55
          go_wp2_with fail
          go_ret
          exact ⟨ret_bool HN.out.symm, Bl.refl _⟩
      · have HN := Lib.hid (nameB_lo h0 ha)
        go_enter Tryz.func55, Tryz.ntmps55
        go_wp2_with fail
        go_ret
        exact ⟨ret_bool HN.out.symm, Bl.refl _⟩
    · have HN := Lib.hid (nameB_long h40)
      go_enter Tryz.func55, Tryz.ntmps55
      go_wp2_with fail
      go_ret
      exact ⟨ret_bool HN.out.symm, Bl.refl _⟩
  · have he := empty_of (show s.size = 0 by omega)
    have HN := Lib.hid (nameB_empty (show s.size = 0 by omega))
    go_enter Tryz.func55, Tryz.ntmps55
    go_wp2_with fail
    go_ret
    exact ⟨ret_bool HN.out.symm, Bl.refl _⟩

/-- What NameOf's loop asks of the i-th byte. -/
def okAt (i : Nat) (b : UInt8) : Bool := isLow b || (decide (i ≠ 0) && (decide (48 ≤ b.toNat ∧ b.toNat ≤ 57) || decide (b.toNat = 45)))
theorem nameB_iff (l : List UInt8) : nameB l = true ↔ (l ≠ [] ∧ l.length ≤ 40) ∧ ∀ (i : Nat) b, l[i]? = some b → okAt i b = true := by
  unfold nameB
  simp only [decide_eq_true_eq]
  constructor
  · rintro ⟨h1, h2, h3, h4⟩
    refine ⟨⟨h1, h2⟩, fun i b hb => ?_⟩
    have h5 := (nameCs_has b).1 (h4 b (List.mem_of_getElem? hb))
    unfold okAt
    rcases i with _ | i
    · rw [h3 b hb]; rfl
    · unfold isLow
      simp only [Bool.or_eq_true, Bool.and_eq_true, decide_eq_true_eq]
      rcases h5 with h | h | h
      · exact Or.inl h
      · exact Or.inr ⟨by omega, Or.inl h⟩
      · exact Or.inr ⟨by omega, Or.inr h⟩
  · rintro ⟨⟨h1, h2⟩, h3⟩
    refine ⟨h1, h2, fun b hb => ?_, fun b hb => ?_⟩
    · have := h3 0 b hb
      unfold okAt at this
      simpa using this
    · obtain ⟨i, hi⟩ := List.getElem?_of_mem hb
      have := h3 i b hi
      unfold okAt isLow at this
      simp only [Bool.or_eq_true, Bool.and_eq_true, decide_eq_true_eq] at this
      refine (nameCs_has b).2 ?_
      rcases this with h | ⟨_, h | h⟩
      · exact Or.inl h
      · exact Or.inr (Or.inl h)
      · exact Or.inr (Or.inr h)
theorem okAt_iff (i : Nat) (b : UInt8) : okAt i b = true ↔ (97 ≤ (b.toNat : Int) ∧ (b.toNat : Int) ≤ 122) ∨ (i ≠ 0 ∧ ((48 ≤ (b.toNat : Int) ∧ (b.toNat : Int) ≤ 57) ∨ (b.toNat : Int) = 45)) := by
  unfold okAt isLow
  simp only [Bool.or_eq_true, Bool.and_eq_true, decide_eq_true_eq]
  omega
theorem nameB_stop {l : List UInt8} {k : Nat} {b : UInt8} (h : l[k]? = some b) (hn : ¬ okAt k b = true) : nameB l = false := by
  cases e : nameB l
  · rfl
  · exact absurd (((nameB_iff l).1 e).2 k b h) hn
theorem nameB_end {s : ByteArray} (hl : s.size = s.data.toList.length) (h : ∀ (j : Nat) b, j < s.size → s.data.toList[j]? = some b → okAt j b = true) : nameB s.data.toList = (!s.toList.isEmpty && decide ((s.size : Int) ≤ 40)) := by
  rw [Bool.eq_iff_iff, nameB_iff]
  rw [Bool.and_eq_true, decide_eq_true_eq, Lib.toList_data]
  simp only [Bool.not_eq_true', List.isEmpty_eq_false_iff]
  constructor
  · rintro ⟨⟨h1, h2⟩, _⟩; exact ⟨h1, by omega⟩
  · rintro ⟨h1, h2⟩
    refine ⟨⟨h1, by omega⟩, fun i b hb => h i b ?_ hb⟩
    have := List.getElem?_eq_some_iff.1 hb
    obtain ⟨h3, _⟩ := this
    omega

set_option maxRecDepth 100000 in
set_option maxHeartbeats 1000000 in
theorem nameOf_any (s : ByteArray) (w : World) (hs : s.size ≤ 9223372036854775807) :
    Calls Tryz.prog 31 #[.string s] w fun e w' => e = .returned (.bool (nameB s.data.toList)) ∧ Bl w w' := by
  have Hlen := Lib.hid (Lib.size_eq s)
  go_enter Tryz.func31, Tryz.ntmps31
  go_wp2_with fail
  go_loop [7] (fun u => ∃ k : Nat, k ≤ s.size ∧ u = .int .i64 k ∧ ∀ (j : Nat) b, j < k → s.data.toList[j]? = some b → okAt j b = true) (fun u => s.size - (RowKit.intOf u).toNat)
  case atStart => exact ⟨0, Nat.zero_le _, rfl, fun j b hj => absurd hj (Nat.not_lt_zero _)⟩
  case round =>
    obtain ⟨k, hk, rfl, hc⟩ := hrel
    have HC := Lib.hid hc
    clear hc
    by_cases hlt : k < s.size
    · have hg : s.data.toList[k]? = some s[k] := by rw [List.getElem?_eq_getElem (by have := Hlen.out; omega)]; rfl
      have HG := Lib.hid hg
      clear hg
      by_cases c1 : 97 ≤ (s[k].toNat : Int)
      · by_cases c2 : (s[k].toNat : Int) ≤ 122
        · have HO := Lib.hid ((okAt_iff k s[k]).2 (by first | omega | (have h3 := HK0.out; omega)))
          go_wp2_with fail
          exact ⟨⟨k + 1, hlt, by go_num, fun j b hj hb => by
            rcases Nat.lt_succ_iff_lt_or_eq.1 hj with h | rfl
            · exact HC.out j b h hb
            · rw [HG.out] at hb
              obtain rfl := Option.some.inj hb
              exact HO.out⟩, by simp [RowKit.intOf]; omega⟩
        · by_cases hk0 : k = 0
          · have hq : ((k : Int) == 0) = true := by simp [hk0]
            have HK0 := Lib.hid hk0; clear hk0
            have HO := Lib.hid (show ¬ okAt k s[k] = true from fun h => by have h2 := (okAt_iff k s[k]).1 h; first | omega | (have h3 := HK0.out; omega))
            have HN := Lib.hid (nameB_stop HG.out HO.out)
            go_wp2_with fail
            go_ret
            exact ⟨ret_bool HN.out.symm, Bl.refl _⟩
          · have hq : ((k : Int) == 0) = false := by simp [hk0]
            have HK0 := Lib.hid hk0; clear hk0
            have c3 : 48 ≤ (s[k].toNat : Int) := by omega
            have c4 : ¬ (s[k].toNat : Int) ≤ 57 := by omega
            have c5 : ((s[k].toNat : Int) != 45) = true := by simp; omega
            have HO := Lib.hid (show ¬ okAt k s[k] = true from fun h => by have h2 := (okAt_iff k s[k]).1 h; first | omega | (have h3 := HK0.out; omega))
            have HN := Lib.hid (nameB_stop HG.out HO.out)
            go_wp2_with fail
            go_ret
            exact ⟨ret_bool HN.out.symm, Bl.refl _⟩
      · by_cases hk0 : k = 0
        · have hq : ((k : Int) == 0) = true := by simp [hk0]
          have HK0 := Lib.hid hk0; clear hk0
          have HO := Lib.hid (show ¬ okAt k s[k] = true from fun h => by have h2 := (okAt_iff k s[k]).1 h; first | omega | (have h3 := HK0.out; omega))
          have HN := Lib.hid (nameB_stop HG.out HO.out)
          go_wp2_with fail
          go_ret
          exact ⟨ret_bool HN.out.symm, Bl.refl _⟩
        · have hq : ((k : Int) == 0) = false := by simp [hk0]
          have HK0 := Lib.hid hk0; clear hk0
          by_cases c3 : 48 ≤ (s[k].toNat : Int)
          · by_cases c4 : (s[k].toNat : Int) ≤ 57
            · have HO := Lib.hid ((okAt_iff k s[k]).2 (by first | omega | (have h3 := HK0.out; omega)))
              go_wp2_with fail
              exact ⟨⟨k + 1, hlt, by go_num, fun j b hj hb => by
                rcases Nat.lt_succ_iff_lt_or_eq.1 hj with h | rfl
                · exact HC.out j b h hb
                · rw [HG.out] at hb
                  obtain rfl := Option.some.inj hb
                  exact HO.out⟩, by simp [RowKit.intOf]; omega⟩
            · have c5 : ((s[k].toNat : Int) != 45) = true := by simp; omega
              have HO := Lib.hid (show ¬ okAt k s[k] = true from fun h => by have h2 := (okAt_iff k s[k]).1 h; first | omega | (have h3 := HK0.out; omega))
              have HN := Lib.hid (nameB_stop HG.out HO.out)
              go_wp2_with fail
              go_ret
              exact ⟨ret_bool HN.out.symm, Bl.refl _⟩
          · by_cases c6 : (s[k].toNat : Int) = 45
            · have c5 : ((s[k].toNat : Int) != 45) = false := by simp [c6]
              have HO := Lib.hid ((okAt_iff k s[k]).2 (by first | omega | (have h3 := HK0.out; omega)))
              go_wp2_with fail
              exact ⟨⟨k + 1, hlt, by go_num, fun j b hj hb => by
                rcases Nat.lt_succ_iff_lt_or_eq.1 hj with h | rfl
                · exact HC.out j b h hb
                · rw [HG.out] at hb
                  obtain rfl := Option.some.inj hb
                  exact HO.out⟩, by simp [RowKit.intOf]; omega⟩
            · have c5 : ((s[k].toNat : Int) != 45) = true := by simp; omega
              have HO := Lib.hid (show ¬ okAt k s[k] = true from fun h => by have h2 := (okAt_iff k s[k]).1 h; first | omega | (have h3 := HK0.out; omega))
              have HN := Lib.hid (nameB_stop HG.out HO.out)
              go_wp2_with fail
              go_ret
              exact ⟨ret_bool HN.out.symm, Bl.refl _⟩
    · obtain rfl : k = s.size := by omega
      have HE := Lib.hid (nameB_end Hlen.out HC.out)
      cases he : s.toList.isEmpty <;> by_cases h40 : s.size ≤ 40
      all_goals
        have HX := Lib.hid HE.out
        go_wp2_with fail
        go_ret
        exact ⟨ret_bool (by rw [HE.out, he]; first | (simp; done) | (simp; omega)), Bl.refl _⟩

end Go.Proofs.YtahfkahfaiidgaaGreatDoor
