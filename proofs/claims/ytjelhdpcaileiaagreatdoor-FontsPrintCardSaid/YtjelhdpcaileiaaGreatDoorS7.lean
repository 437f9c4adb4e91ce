/- The plain law of pages as texts: what is printed, what is read, and that what is printed is read. -/
import Derived.Test.YtjelhdpcaileiaaGreatDoorS1
import Derived.Lib.CutLaws
import Derived.Lib.SlTrimSet

namespace Go.Proofs.YtjelhdpcaileiaaGreatDoor
open Go.RowKit

/-! ### lines -/
theorem index_line : ∀ (row rest : List UInt8), (∀ b ∈ row, b ≠ 10) → Lib.index (row ++ 10 :: rest) [10] = (row.length : Int)
  | [], rest, _ => by simp [Lib.index]
  | b :: row, rest, h => by
    have hb : b ≠ 10 := h b (by simp)
    have ih := index_line row rest (fun c hc => h c (by simp [hc]))
    show Lib.index (b :: (row ++ 10 :: rest)) [10] = _
    unfold Lib.index
    have e : ([10] : List UInt8).isPrefixOf (b :: (row ++ 10 :: rest)) = false := by
      simp only [List.isPrefixOf, Bool.and_true]
      exact beq_eq_false_iff_ne.2 (fun h => hb h.symm)
    rw [e, ih]
    have e2 : ((row.length : Int) == -1) = false := beq_eq_false_iff_ne.2 (by omega)
    simp only [Bool.false_eq_true, if_false, e2, List.length_cons]
    push_cast
    rfl
theorem cut_line (row rest : List UInt8) (h : ∀ b ∈ row, b ≠ 10) : Lib.cut (row ++ 10 :: rest) [10] = (row, rest, true) := by
  unfold Lib.cut
  rw [index_line row rest h, if_pos (by omega)]
  simp
theorem cut_len {t : List UInt8} (h : (Lib.cut t [10]).2.2 = true) : (Lib.cut t [10]).1.length + (Lib.cut t [10]).2.1.length + 1 = t.length := by
  unfold Lib.cut at h ⊢
  split at h
  · rename_i h0
    have hr := Lib.index_room t [10] (by omega)
    rw [if_pos h0]
    simp at hr ⊢
    omega
  · simp at h

def dotL (l : List UInt8) : Bool := decide (∀ b ∈ l, ([35, 46] : List UInt8).contains b = true)
def badLine (t : List UInt8) (W H : Nat) : Bool := !(Lib.cut t [10]).2.2 || ((Lib.cut t [10]).1.isEmpty || (!dotL (Lib.cut t [10]).1 || (decide (0 < H) && !decide ((Lib.cut t [10]).1.length = W))))
/-- width, height, pixels, line, error -/
abbrev PageR := Nat × Nat × List Bool × Nat × Int
def finP (W H : Nat) (P : List Bool) : PageR := if H = 0 then (0, 0, [], 0, 9) else if 200 < H ∨ 200 < W then (0, 0, [], 0, 4) else (W, H, P, 0, 0)
def parseP : Nat → List UInt8 → Nat → Nat → List Bool → PageR
  | 0, _, W, H, P => finP W H P
  | f + 1, t, W, H, P => if t.isEmpty then finP W H P else if badLine t W H then (0, 0, [], H, 8) else
      parseP f (Lib.cut t [10]).2.1 (Lib.cut t [10]).1.length (H + 1) (P ++ (Lib.cut t [10]).1.map (· == 35))
theorem bad_of_not {t : List UInt8} {W H : Nat} (h : ¬ badLine t W H = true) : (Lib.cut t [10]).2.2 = true ∧ (Lib.cut t [10]).1.isEmpty = false ∧ dotL (Lib.cut t [10]).1 = true ∧ (0 < H → (Lib.cut t [10]).1.length = W) := by
  unfold badLine at h
  simp only [Bool.or_eq_true, Bool.and_eq_true, Bool.not_eq_true', decide_eq_true_eq, decide_eq_false_iff_not, not_or, not_and, Bool.not_eq_false, Classical.not_not, Bool.not_eq_true] at h
  exact ⟨h.1, h.2.1, h.2.2.1, h.2.2.2⟩
theorem parseP_enough : ∀ (f g : Nat) (t : List UInt8) (W H : Nat) (P : List Bool), t.length < f → t.length < g → parseP f t W H P = parseP g t W H P
  | 0, _, _, _, _, _, h, _ => absurd h (Nat.not_lt_zero _)
  | _ + 1, 0, _, _, _, _, _, h => absurd h (Nat.not_lt_zero _)
  | f + 1, g + 1, t, W, H, P, hf, hg => by
    unfold parseP
    split
    · rfl
    · split
      · rfl
      · rename_i hb
        have hl := cut_len (bad_of_not hb).1
        exact parseP_enough f g _ _ _ _ (by omega) (by omega)
def pageOf (t : List UInt8) : PageR := if 40200 < t.length then (0, 0, [], 0, 4) else parseP (t.length + 1) t 0 0 []
theorem parseP_len : ∀ (f : Nat) (t : List UInt8) (W H : Nat) (P : List Bool), (parseP f t W H P).2.2.1.length ≤ P.length + t.length
  | 0, t, W, H, P => by
    unfold parseP finP
    split
    · simp
    · split <;> simp
  | f + 1, t, W, H, P => by
    unfold parseP
    split
    · unfold finP
      split
      · simp
      · split <;> simp
    · split
      · simp
      · rename_i hb
        have hl := cut_len (bad_of_not hb).1
        have := parseP_len f (Lib.cut t [10]).2.1 (Lib.cut t [10]).1.length (H + 1) (P ++ (Lib.cut t [10]).1.map (· == 35))
        rw [List.length_append, List.length_map] at this
        omega
theorem pageOf_len (t : List UInt8) : (pageOf t).2.2.1.length ≤ 40200 := by
  unfold pageOf
  split
  · simp
  · have := parseP_len (t.length + 1) t 0 0 []
    simp at this
    omega
/-- What is left to be read. -/
def leftP (t : List UInt8) (W H : Nat) (P : List Bool) : PageR := parseP (t.length + 1) t W H P
theorem leftP_nil {t : List UInt8} {W H : Nat} {P : List Bool} (h : t.isEmpty = true) : leftP t W H P = finP W H P := by
  unfold leftP parseP
  rw [if_pos h]
theorem leftP_bad {t : List UInt8} {W H : Nat} {P : List Bool} (h : t.isEmpty = false) (hb : badLine t W H = true) : leftP t W H P = (0, 0, [], H, 8) := by
  unfold leftP parseP
  rw [h, if_neg (by simp), if_pos hb]
theorem leftP_go {t : List UInt8} {W H : Nat} {P : List Bool} (h : t.isEmpty = false) (hb : ¬ badLine t W H = true) : leftP t W H P = leftP (Lib.cut t [10]).2.1 (Lib.cut t [10]).1.length (H + 1) (P ++ (Lib.cut t [10]).1.map (· == 35)) := by
  have hl := cut_len (bad_of_not hb).1
  unfold leftP
  rw [parseP, h, if_neg (by simp), if_neg hb]
  exact parseP_enough _ _ _ _ _ _ (by omega) (by omega)

/-! ### what is printed -/
def inkC (b : Bool) : UInt8 := if b then 35 else 46
def rowTo (bs : List Bool) (W y x : Nat) : List UInt8 := (List.range x).map fun x => inkC (pix bs W x y)
def prL (bs : List Bool) (W : Nat) : Nat → List UInt8
  | 0 => []
  | y + 1 => prL bs W y ++ rowTo bs W y W ++ [10]
theorem rowTo_succ (bs : List Bool) (W y x : Nat) : rowTo bs W y (x + 1) = rowTo bs W y x ++ [inkC (pix bs W x y)] := by
  unfold rowTo
  rw [List.range_succ, List.map_append]
  rfl
theorem rowTo_len (bs : List Bool) (W y x : Nat) : (rowTo bs W y x).length = x := by unfold rowTo; simp
theorem prL_len (bs : List Bool) (W : Nat) : ∀ y, (prL bs W y).length = y * (W + 1)
  | 0 => by simp [prL]
  | y + 1 => by
    unfold prL
    rw [List.length_append, List.length_append, prL_len bs W y, rowTo_len, Nat.succ_mul]
    simp
    omega
/-- From row y on. -/
def behindL (bs : List Bool) (W : Nat) : Nat → Nat → List UInt8
  | _, 0 => []
  | y, k + 1 => rowTo bs W y W ++ 10 :: behindL bs W (y + 1) k
theorem pr_behind (bs : List Bool) (W : Nat) : ∀ (k y : Nat), prL bs W y ++ behindL bs W y k = prL bs W (y + k)
  | 0, y => by simp [behindL]
  | k + 1, y => by
    have ih := pr_behind bs W k (y + 1)
    unfold behindL
    have e : prL bs W (y + 1) = prL bs W y ++ rowTo bs W y W ++ [10] := rfl
    rw [e] at ih
    have e2 : y + (k + 1) = y + 1 + k := by omega
    rw [e2, ← ih]
    simp
theorem inkC_ne (b : Bool) : inkC b ≠ 10 := by cases b <;> decide
theorem inkC_has (b : Bool) : ([35, 46] : List UInt8).contains (inkC b) = true := by cases b <;> decide
theorem inkC_eq (b : Bool) : (inkC b == 35) = b := by cases b <;> decide
theorem row_take {bs : List Bool} {W y : Nat} (h : y * W + W ≤ bs.length) : (rowTo bs W y W).map (· == 35) = (bs.drop (y * W)).take W := by
  apply List.ext_getElem?
  intro i
  unfold rowTo
  rw [List.map_map, List.getElem?_map, List.getElem?_take, List.getElem?_drop]
  by_cases hi : i < W
  · rw [if_pos hi, List.getElem?_range hi]
    simp only [Option.map_some, Function.comp]
    rw [inkC_eq]
    unfold pix
    rw [List.getD_eq_getElem?_getD, List.getElem?_eq_getElem (by omega)]
    rfl
  · rw [if_neg hi, List.getElem?_eq_none (by simp; omega)]
    rfl
theorem read_printed {bs : List Bool} {W : Nat} (hW : 1 ≤ W) : ∀ (k y : Nat) (W' : Nat) (P : List Bool), (y + k) * W ≤ bs.length → (0 < y → W' = W) → leftP (behindL bs W y k) W' y P = finP (if k = 0 then W' else W) (y + k) (P ++ (bs.drop (y * W)).take (k * W))
  | 0, y, W', P, _, _ => by
    rw [leftP_nil (by rfl)]
    simp
  | k + 1, y, W', P, hl, hy => by
    have hc : Lib.cut (behindL bs W y (k + 1)) [10] = (rowTo bs W y W, behindL bs W (y + 1) k, true) := by
      show Lib.cut (rowTo bs W y W ++ 10 :: behindL bs W (y + 1) k) [10] = _
      refine cut_line _ _ (fun b hb => ?_)
      unfold rowTo at hb
      obtain ⟨x, _, rfl⟩ := List.mem_map.1 hb
      exact inkC_ne _
    have hne : (behindL bs W y (k + 1)).isEmpty = false := by unfold behindL; cases rowTo bs W y W <;> rfl
    have hb : ¬ badLine (behindL bs W y (k + 1)) W' y = true := by
      unfold badLine
      rw [hc]
      have e1 : (rowTo bs W y W).isEmpty = false := by
        have := rowTo_len bs W y W
        cases h : rowTo bs W y W
        · rw [h] at this; simp at this; omega
        · rfl
      have e2 : dotL (rowTo bs W y W) = true := by
        refine decide_eq_true (fun b hb => ?_)
        unfold rowTo at hb
        obtain ⟨x, _, rfl⟩ := List.mem_map.1 hb
        exact inkC_has _
      have e3 : (decide (0 < y) && !decide ((rowTo bs W y W).length = W')) = false := by
        rw [rowTo_len]
        by_cases h : 0 < y
        · rw [hy h]; simp
        · rw [decide_eq_false h]; rfl
      simp only [e1, e2, e3]
      simp
    have hm : (y + (k + 1)) * W = y * W + W + k * W := by rw [Nat.add_mul, Nat.succ_mul]; omega
    rw [leftP_go hne hb, hc]
    show leftP (behindL bs W (y + 1) k) (rowTo bs W y W).length (y + 1) _ = _
    rw [rowTo_len, read_printed hW k (y + 1) W _ (by rw [show y + 1 + k = y + (k + 1) by omega]; exact hl) (fun _ => rfl), row_take (by omega)]
    have e4 : (if k = 0 then W else W) = W := by split <;> rfl
    rw [e4, if_neg (by omega), show y + 1 + k = y + (k + 1) by omega, List.append_assoc]
    congr 2
    have e5 : (k + 1) * W = W + k * W := by rw [Nat.succ_mul]; omega
    rw [e5, List.take_add, List.drop_drop]
    congr 3
    rw [Nat.succ_mul]
theorem page_printed {bs : List Bool} {W H : Nat} (hW : 1 ≤ W ∧ W ≤ 200) (hH : 1 ≤ H ∧ H ≤ 200) (hl : bs.length = W * H) : pageOf (prL bs W H) = (W, H, bs, 0, 0) := by
  have hlen := prL_len bs W H
  have h1 : H * (W + 1) ≤ 200 * 201 := Nat.mul_le_mul (by omega) (by omega)
  have e : prL bs W H = behindL bs W 0 H := by
    have := pr_behind bs W H 0
    simpa [prL] using this.symm
  unfold pageOf
  rw [if_neg (by omega)]
  show leftP (prL bs W H) 0 0 [] = _
  rw [e, read_printed hW.1 H 0 0 [] (by rw [Nat.zero_add, Nat.mul_comm]; omega) (fun h => absurd h (Nat.not_lt_zero _)), if_neg (by omega)]
  unfold finP
  rw [if_neg (by omega), if_neg (by omega)]
  have e2 : List.take (H * W) (List.drop (0 * W) bs) = bs := by
    rw [Nat.zero_mul, List.drop_zero, List.take_of_length_le (by rw [hl, Nat.mul_comm]; omega)]
  rw [e2, Nat.zero_add]
  rfl

/-! ### the printed text, pixel by pixel -/
def outP (bs : List Bool) (W i : Nat) : List UInt8 := prL bs W (i / W) ++ rowTo bs W (i / W) (i % W)
theorem outP_zero (bs : List Bool) (W : Nat) : outP bs W 0 = [] := by unfold outP; simp [prL, rowTo]
theorem outP_mid {bs : List Bool} {W i : Nat} (h : i % W ≠ W - 1) (hW : 1 ≤ W) : outP bs W (i + 1) = outP bs W i ++ [inkC (bs.getD i false)] := by
  have hm := Nat.mod_lt i hW
  have e := Nat.div_add_mod i W
  have e1 : (i + 1) / W = i / W := by
    rw [Nat.div_eq_iff hW]
    have := Nat.div_add_mod i W
    rw [Nat.mul_comm] at this
    omega
  have e2 : (i + 1) % W = i % W + 1 := by
    have := Nat.div_add_mod (i + 1) W
    rw [e1] at this
    omega
  unfold outP
  rw [e1, e2, rowTo_succ]
  unfold pix
  rw [Nat.mul_comm (i / W) W, e, List.append_assoc]
theorem outP_end {bs : List Bool} {W i : Nat} (h : i % W = W - 1) (hW : 1 ≤ W) : outP bs W (i + 1) = outP bs W i ++ [inkC (bs.getD i false)] ++ [10] := by
  have e := Nat.div_add_mod i W
  have e0 : i + 1 = W * (i / W + 1) := by rw [Nat.mul_succ]; omega
  have e1 : (i + 1) / W = i / W + 1 := by rw [e0, Nat.mul_div_cancel_left _ hW]
  have e2 : (i + 1) % W = 0 := by rw [e0, Nat.mul_mod_right]
  unfold outP
  rw [e1, e2]
  have e3 : rowTo bs W (i / W) W = rowTo bs W (i / W) (i % W) ++ [inkC (bs.getD i false)] := by
    have key := rowTo_succ bs W (i / W) (i % W)
    rw [show i % W + 1 = W by omega] at key
    rw [key]
    unfold pix
    rw [Nat.mul_comm (i / W) W, e]
  show prL bs W (i / W) ++ rowTo bs W (i / W) W ++ [10] ++ rowTo bs W (i / W + 1) 0 = _
  rw [e3]
  simp [rowTo]
theorem outP_all (bs : List Bool) {W : Nat} (hW : 1 ≤ W) (H : Nat) : outP bs W (W * H) = prL bs W H := by
  unfold outP
  rw [Nat.mul_div_cancel_left _ hW, Nat.mul_mod_right]
  simp [rowTo]
theorem outP_len (bs : List Bool) {W i H : Nat} (hW : 1 ≤ W ∧ W ≤ 200) (hH : H ≤ 200) (hi : i ≤ W * H) : (outP bs W i).length ≤ 40200 := by
  unfold outP
  rw [List.length_append, prL_len, rowTo_len]
  have h1 : i / W ≤ H := by
    rw [Nat.mul_comm] at hi
    exact Nat.div_le_of_le_mul (by rw [Nat.mul_comm]; exact hi)
  have h2 := Nat.mod_lt i hW.1
  rcases Nat.lt_or_ge (i / W) H with h | h
  · have h3 : (i / W) * (W + 1) ≤ 199 * 201 := Nat.mul_le_mul (by omega) (by omega)
    omega
  · have h4 : i / W = H := Nat.le_antisymm h1 h
    have h5 : i % W = 0 := by
      have := Nat.div_add_mod i W
      rw [h4] at this
      omega
    have h3 : (i / W) * (W + 1) ≤ 200 * 201 := Nat.mul_le_mul (by omega) (by omega)
    omega

end Go.Proofs.YtjelhdpcaileiaaGreatDoor
