/- Sums of values from the upper left corner on: what page.SumsOf makes, what the sum of a box is. -/
import Derived.Test.YtccgncjncklheaaNum
namespace Go.Proofs.Ytccgncjncklheaa
open Go.RowKit

theorem info_int : (Try.prog.info? 3).map (fun i => (i.zero, i.size, i.bytes)) = some (some (.int .i64 0), 1, 8) := by kernel_rfl
theorem info_bool : (Try.prog.info? 4).map (fun i => (i.zero, i.size, i.bytes)) = some (some (.bool false), 1, 1) := by kernel_rfl
theorem info_u8 : (Try.prog.info? 5).map (fun i => (i.zero, i.size, i.bytes)) = some (some (.int .u8 0), 1, 1) := by kernel_rfl

/-! ### plain -/
def rowSum (v : Nat → Int) (W y : Nat) : Nat → Int
  | 0 => 0
  | x + 1 => rowSum v W y x + v (y * W + x)
def sat (v : Nat → Int) (W : Nat) : Nat → Nat → Int
  | 0, _ => 0
  | y + 1, x => sat v W y x + rowSum v W y x
def satAt (v : Nat → Int) (W k : Nat) : Int := sat v W (k / (W + 1)) (k % (W + 1))

theorem sat_zero (v : Nat → Int) (W : Nat) : ∀ y, sat v W y 0 = 0
  | 0 => rfl
  | y + 1 => by simp [sat, sat_zero v W y, rowSum]
theorem satAt_eq (v : Nat → Int) (W y x : Nat) (hx : x ≤ W) : satAt v W (y * (W + 1) + x) = sat v W y x := by
  unfold satAt
  rw [Nat.mul_comm, Nat.mul_add_div (by omega), Nat.div_eq_of_lt (by omega), Nat.mul_add_mod, Nat.mod_eq_of_lt (by omega), Nat.add_zero]
theorem rowSum_bd {v : Nat → Int} (hv : ∀ i, 0 ≤ v i ∧ v i ≤ 255) (W y : Nat) : ∀ x, 0 ≤ rowSum v W y x ∧ rowSum v W y x ≤ 255 * x
  | 0 => by simp [rowSum]
  | x + 1 => by
    have := rowSum_bd hv W y x
    have := hv (y * W + x)
    simp only [rowSum]
    omega
theorem sat_bd {v : Nat → Int} (hv : ∀ i, 0 ≤ v i ∧ v i ≤ 255) (W x : Nat) (hx : x ≤ 4000) : ∀ y, 0 ≤ sat v W y x ∧ sat v W y x ≤ 1020000 * y
  | 0 => by simp [sat]
  | y + 1 => by
    have := sat_bd hv W x hx y
    have := rowSum_bd hv W y x
    simp only [sat]
    omega
theorem satAt_bd {v : Nat → Int} (hv : ∀ i, 0 ≤ v i ∧ v i ≤ 255) (W H k : Nat) (hW : W ≤ 4000) (hH : H ≤ 4000) (hk : k < (W + 1) * (H + 1)) : 0 ≤ satAt v W k ∧ satAt v W k ≤ 5000000000 := by
  have h1 : k % (W + 1) < W + 1 := Nat.mod_lt _ (by omega)
  have h2 : k / (W + 1) < H + 1 := Nat.div_lt_of_lt_mul hk
  have := sat_bd hv W (k % (W + 1)) (by omega) (k / (W + 1))
  unfold satAt
  omega

/-- The sums that stand behind the pointer. -/
def IsSums (w : World) (p g W H : Nat) (v : Nat → Int) : Prop :=
  Blk w p 140 #[.int .i64 W, .int .i64 H, .slice (some ⟨g, 0, none⟩) ((W + 1) * (H + 1)) ((W + 1) * (H + 1))] ∧
  ∃ cs : Array Value, Blk w g 3 cs ∧ cs.size = (W + 1) * (H + 1) ∧ ∀ k, k < (W + 1) * (H + 1) → cs[k]? = some (.int .i64 (satAt v W k))
theorem IsSums.bl {w w' : World} {p g W H : Nat} {v : Nat → Int} (h : IsSums w p g W H v) (hb : Bl w w') : IsSums w' p g W H v :=
  ⟨h.1.bl hb, h.2.imp fun _ h' => ⟨h'.1.bl hb, h'.2⟩⟩

/-- The sums as far as they are made. -/
def SumsInv (w : World) (W H : Nat) (v : Nat → Int) (wr : World) (m : Nat) : Prop :=
  Bl w wr ∧ Blk wr (w.heap.size + 1) 140 #[.int .i64 W, .int .i64 H, .slice (some ⟨w.heap.size, 0, none⟩) ((W + 1) * (H + 1)) ((W + 1) * (H + 1))] ∧
  ∃ cs : Array Value, Blk wr w.heap.size 3 cs ∧ cs.size = (W + 1) * (H + 1) ∧ ∀ k, k < (W + 1) * (H + 1) → cs[k]? = some (.int .i64 (if k < m then satAt v W k else 0))

theorem SumsInv.bl {w wr w' : World} {W H : Nat} {v : Nat → Int} {m : Nat} (h : SumsInv w W H v wr m) (hb : Bl wr w') : SumsInv w W H v w' m :=
  ⟨h.1.trans hb, h.2.1.bl hb, h.2.2.imp fun _ h' => ⟨h'.1.bl hb, h'.2⟩⟩

theorem SumsInv.start (w : World) (W H : Nat) (v : Nat → Int) :
    SumsInv w W H v ((w.alloc (.cells (madeCells #[.int .i64 0] ((W + 1) * (H + 1))) 3)).alloc (.cells #[.int .i64 W, .int .i64 H, .slice (some ⟨w.heap.size, 0, none⟩) ((W + 1) * (H + 1)) ((W + 1) * (H + 1))] 140)) (W + 2) := by
  refine ⟨((Bl.refl w).alloc _).alloc _, ?_, madeCells #[.int .i64 0] ((W + 1) * (H + 1)), (Blk.new w _ _).alloc _, size_madeCells _ _, ?_⟩
  · have := Blk.new (w.alloc (.cells (madeCells #[.int .i64 0] ((W + 1) * (H + 1))) 3)) 140 #[.int .i64 W, .int .i64 H, .slice (some ⟨w.heap.size, 0, none⟩) ((W + 1) * (H + 1)) ((W + 1) * (H + 1))]
    simpa using this
  · intro k hk
    have e : satAt v W k = 0 ∨ ¬ k < W + 2 := by
      rcases Nat.lt_or_ge k (W + 1) with h | h
      · left; unfold satAt; rw [Nat.div_eq_of_lt h]; rfl
      · rcases Nat.lt_or_ge k (W + 2) with h' | h'
        · left
          obtain rfl : k = W + 1 := by omega
          unfold satAt
          rw [Nat.div_self (by omega), Nat.mod_self]
          exact sat_zero v W 1
        · right; omega
    have : (if k < W + 2 then satAt v W k else 0) = 0 := by
      rcases e with e | e
      · rw [e]; simp
      · rw [if_neg e]
    rw [this]
    simp [madeCells, hk, Nat.mod_one]

/-- One sum more. -/
theorem SumsInv.step {w wr : World} {W H : Nat} {v : Nat → Int} {m : Nat} (h : SumsInv w W H v wr m) (s : Int) (hs : s = satAt v W m) (_hm : m < (W + 1) * (H + 1)) :
    SumsInv w W H v (wr.setCell ⟨w.heap.size, m, none⟩ (.int .i64 s)) (m + 1) := by
  obtain ⟨hb, hp, cs, hc, hz, hk⟩ := h
  refine ⟨hb.setCell (by simp) _, hp.far (by simp) _, cs.setIfInBounds m (.int .i64 s), hc.set_ m _, by simpa using hz, fun k hkl => ?_⟩
  by_cases e : m = k
  · subst e
    simp [hz, hkl, hs]
  · rw [Array.getElem?_setIfInBounds_ne e, hk k hkl]
    have : (k < m + 1) = (k < m) := by apply propext; omega
    simp [this]

/-- At a row's end the first sum of the next one is there. -/
theorem SumsInv.row {w wr : World} {W H y : Nat} {v : Nat → Int} (h : SumsInv w W H v wr ((y + 1) * (W + 1) + W + 1)) : SumsInv w W H v wr ((y + 1 + 1) * (W + 1) + 1) := by
  obtain ⟨hb, hp, cs, hc, hz, hk⟩ := h
  refine ⟨hb, hp, cs, hc, hz, fun k hkl => ?_⟩
  rw [hk k hkl]
  have e : (y + 1 + 1) * (W + 1) = (y + 1) * (W + 1) + W + 1 := by rw [Nat.add_mul (y+1) 1]; omega
  by_cases h1 : k < (y + 1) * (W + 1) + W + 1
  · rw [if_pos h1, if_pos (by omega)]
  · rw [if_neg h1]
    by_cases h2 : k < (y + 1 + 1) * (W + 1) + 1
    · rw [if_pos h2]
      obtain rfl : k = (y + 1 + 1) * (W + 1) + 0 := by omega
      rw [satAt_eq v W _ 0 (by omega), sat_zero]
    · rw [if_neg h2]

theorem SumsInv.done {w wr : World} {W H : Nat} {v : Nat → Int} (h : SumsInv w W H v wr ((H + 1) * (W + 1) + 1)) : IsSums wr (w.heap.size + 1) w.heap.size W H v := by
  obtain ⟨hb, hp, cs, hc, hz, hk⟩ := h
  refine ⟨hp, cs, hc, hz, fun k hkl => ?_⟩
  rw [hk k hkl, if_pos]
  have := Nat.mul_comm (W + 1) (H + 1)
  omega

theorem mul_step {a b y : Nat} (h : y < b) : y * a + a ≤ b * a := by
  have := Nat.mul_le_mul_right a (show y + 1 ≤ b from h)
  rw [Nat.add_mul, Nat.one_mul] at this
  exact this

set_option maxRecDepth 100000 in
set_option maxHeartbeats 1000000 in
theorem sumsOf_any (W H : Nat) (v : Nat → Int) (hv : ∀ i, 0 ≤ v i ∧ v i ≤ 255) (k : FuncId) (cap : Array Value) (w : World)
    (hent : ∀ args w, (callFunc k args).run Try.prog w = .ok (.enter k args) w)
    (hW : W ≤ 4000) (hH : H ≤ 4000)
    (hk : ∀ wx (i : Nat), Bl w wx → i < W * H → Calls Try.prog k (#[.int .i64 i] ++ cap) wx fun e w' => e = .returned (.int .i64 (v i)) ∧ Bl wx w') :
    Calls Try.prog 94 #[.int .i64 W, .int .i64 H, .func (.func k) #[] cap] w fun e w' =>
      ∃ p g, e = .returned (.pointer (some ⟨p, 0, none⟩)) ∧ IsSums w' p g W H v ∧ Bl w w' := by
  have hN : (W + 1) * (H + 1) ≤ 16008001 := by
    have := Nat.mul_le_mul (show W + 1 ≤ 4001 by omega) (show H + 1 ≤ 4001 by omega)
    omega
  have hWH : W * H ≤ 16000000 := by
    have := Nat.mul_le_mul hW hH
    omega
  have hmk := run_make_row' (P := Try.prog) 25 3 (.int .i64 0) 8 Try.underlying25 info_int rfl .i64 .i64 ((W + 1) * (H + 1)) (by omega) (by omega)
  have eN : ((W : Int) + 1) * ((H : Int) + 1) = (((W + 1) * (H + 1) : Nat) : Int) := by simp
  have h1 : (0:Int) ≤ ((W : Int) + 1) * ((H : Int) + 1) := by omega
  have h2 : ((W : Int) + 1) * ((H : Int) + 1) ≤ 16008001 := by omega
  rw [← eN] at hmk
  have EN := Lib.hid eN; clear eN
  have Hk := Lib.hid hk; clear hk
  have Hv := Lib.hid hv; clear hv
  have inv0 := Lib.hid (SumsInv.start w W H v)
  go_enter Try.func94, Try.ntmps94
  go_wp2_with fail
  go_loopw [22] (fun u wr => ∃ y : Nat, y ≤ H ∧ u = .int .i64 y ∧ SumsInv w W H v wr ((y + 1) * (W + 1) + 1)) (fun u _ => H - (intOf u).toNat)
  case atStart => exact ⟨0, Nat.zero_le _, rfl, by have := inv0.out; simpa using this⟩
  case round =>
    obtain ⟨y, hy, rfl, hinv⟩ := hrel
    by_cases hlt : y < H
    · go_wp2_with fail
      go_loopw [9, 26] (fun r u w2 => ∃ x : Nat, x ≤ W ∧ u = .int .i64 x ∧ r = .int .i64 (rowSum v W y x) ∧ SumsInv w W H v w2 ((y + 1) * (W + 1) + x + 1)) (fun _ u _ => W - (intOf u).toNat)
      case atStart => exact ⟨0, Nat.zero_le _, rfl, rfl, hinv⟩
      case round =>
        obtain ⟨x, hx, rfl, rfl, hinv2⟩ := hrel
        by_cases hlt2 : x < W
        · have m1 := mul_step (a := W) hlt
          have m2 := mul_step (a := W + 1) hlt
          have m3 : (y + 1) * (W + 1) = y * (W + 1) + W + 1 := by rw [Nat.add_mul]; omega
          have m4 := Nat.mul_comm H W
          have m5 : (W + 1) * (H + 1) = H * (W + 1) + W + 1 := by rw [Nat.mul_comm, Nat.add_mul]; omega
          have hbd := (rowSum_bd Hv.out W y x)
          have hvi := Hv.out (y * W + x)
          obtain ⟨i, hi⟩ : ∃ i, i = y * W + x := ⟨_, rfl⟩
          obtain ⟨a, ha⟩ : ∃ a, a = y * (W + 1) + (x + 1) := ⟨_, rfl⟩
          obtain ⟨b, hb⟩ : ∃ b, b = (y + 1) * (W + 1) + (x + 1) := ⟨_, rfl⟩
          have hva : satAt v W a = sat v W y (x + 1) := by rw [ha, satAt_eq v W y (x + 1) (by omega)]
          have hvb : satAt v W b = satAt v W a + (rowSum v W y x + v i) := by rw [hva, hb, satAt_eq v W (y + 1) (x + 1) (by omega), hi]; rfl
          have hba := satAt_bd Hv.out W H a hW hH (by omega)
          have e1 : (y : Int) * (W : Int) + (x : Int) = (i : Int) := by rw [hi]; simp
          have e2 : (y : Int) * ((W : Int) + 1) + (x : Int) + 1 = (a : Int) := by rw [ha]; simp; omega
          have e3 : ((y : Int) + 1) * ((W : Int) + 1) + (x : Int) + 1 = (b : Int) := by rw [hb]; simp; omega
          have q1 : (0 : Int) ≤ (y : Int) * (W : Int) ∧ (y : Int) * (W : Int) ≤ 16000000 := by have := Int.natCast_mul y W; omega
          have q2 : (0 : Int) ≤ (y : Int) * ((W : Int) + 1) ∧ (y : Int) * ((W : Int) + 1) ≤ 16008001 := by omega
          have q3 : (0 : Int) ≤ ((y : Int) + 1) * ((W : Int) + 1) ∧ ((y : Int) + 1) * ((W : Int) + 1) ≤ 16008001 := by omega
          have q4 : (a : Int) < ((W : Int) + 1) * ((H : Int) + 1) := by have := EN.out; omega
          have q5 : (b : Int) < ((W : Int) + 1) * ((H : Int) + 1) := by have := EN.out; omega
          have hil : i < W * H := by omega
          rw [← hi] at hvi
          have hab : a < b := by omega
          have hbN : b < (W + 1) * (H + 1) := by omega
          have hb' : b = (y + 1) * (W + 1) + x + 1 := by omega
          rw [← hb'] at hinv2
          clear hva m1 m2 m3 m4 m5
          have Hi := Lib.hid hi; have Ha := Lib.hid ha; have Hb := Lib.hid hb'; have Hvb := Lib.hid hvb
          clear hi ha hb hb' hvb
          go_wp2_with fail
          refine (Hk.out _ i hinv2.1 hil).mono ?_
          rintro e w3 ⟨rfl, hb3⟩
          have hinv3 := hinv2.bl hb3
          clear hinv2
          obtain ⟨hbl, hp, cs, hc, hz, hcs⟩ := hinv3
          have kp := hp.all3
          have ka : w3.cell? ⟨w.heap.size, a, none⟩ = some (.int .i64 (satAt v W a)) := by rw [hc.cell, hcs a (by omega), if_pos hab]
          have kb : w3.cell? ⟨w.heap.size, b, none⟩ = some (.int .i64 0) := by rw [hc.cell, hcs b hbN, if_neg (by omega)]
          have kf := hc.frozen b
          have Hcs := Lib.hid hcs; clear hcs
          go_wp2_with fail
          refine wp_region_flow [(true, 0), (true, 1), (true, 2), (true, 3), (true, 4), (true, 5), (true, 6), (true, 7), (true, 8), (true, 9), (true, 10), (true, 11), (true, 12), (true, 13), (true, 14), (true, 15), (true, 16), (true, 17), (true, 18), (true, 19), (true, 20), (true, 21), (true, 22), (true, 23), (true, 24), (true, 25), (true, 26), (true, 27), (false, 28)] (fun i => i == 28) (by kernel_rfl) (by kernel_rfl) (by kernel_rfl) (by kernel_rfl) ?_
          iterate 1
            apply Flow.mv _ rfl
            · intro K' hK'
              simp only [Act.put, Act.eval, List.setIfInBounds_toArray, List.set_cons_zero, List.set_cons_succ, arr_getD, List.getD_cons_zero, List.getD_cons_succ]
              exact hK'
          iterate 1
            apply Flow.calm2 _ _ rfl rfl
            · intro w' hb' K' hK'
              obtain ⟨hc', hf'⟩ := hb'.rule
              go_simp
              try go_ints
              exact hK'
            · intro K' hK'
              simp only [Act.put, List.setIfInBounds_toArray, List.set_cons_zero, List.set_cons_succ]
              exact hK'
          iterate 1
            apply Flow.calm2 _ _ rfl rfl
            · intro w' hb' K' hK'
              obtain ⟨hc', hf'⟩ := hb'.rule
              go_simp
              try go_ints
              exact hK'
            · intro K' hK'
              simp only [Act.put, List.setIfInBounds_toArray, List.set_cons_zero, List.set_cons_succ]
              exact hK'
          iterate 1
            apply Flow.calm2 _ _ rfl rfl
            · intro w' hb' K' hK'
              obtain ⟨hc', hf'⟩ := hb'.rule
              go_simp
              try go_ints
              exact hK'
            · intro K' hK'
              simp only [Act.put, List.setIfInBounds_toArray, List.set_cons_zero, List.set_cons_succ]
              exact hK'
          iterate 1
            apply Flow.mv _ rfl
            · intro K' hK'
              simp only [Act.put, Act.eval, List.setIfInBounds_toArray, List.set_cons_zero, List.set_cons_succ, arr_getD, List.getD_cons_zero, List.getD_cons_succ]
              exact hK'
          iterate 1
            apply Flow.calm2 _ _ rfl rfl
            · intro w' hb' K' hK'
              obtain ⟨hc', hf'⟩ := hb'.rule
              go_simp
              try go_ints
              exact hK'
            · intro K' hK'
              simp only [Act.put, List.setIfInBounds_toArray, List.set_cons_zero, List.set_cons_succ]
              exact hK'
          iterate 1
            apply Flow.mv _ rfl
            · intro K' hK'
              simp only [Act.put, Act.eval, List.setIfInBounds_toArray, List.set_cons_zero, List.set_cons_succ, arr_getD, List.getD_cons_zero]
              exact hK'
          iterate 2
            apply Flow.calm2 _ _ rfl rfl
            · intro w' hb' K' hK'
              obtain ⟨hc', hf'⟩ := hb'.rule
              go_simp
              try go_ints
              exact hK'
            · intro K' hK'
              simp only [Act.put, List.setIfInBounds_toArray, List.set_cons_zero, List.set_cons_succ]
              exact hK'
          iterate 1
            apply Flow.mv _ rfl
            · intro K' hK'
              simp only [Act.put, Act.eval, List.setIfInBounds_toArray, List.set_cons_zero, List.set_cons_succ, arr_getD, List.getD_cons_zero, List.getD_cons_succ]
              exact hK'
          iterate 2
            apply Flow.calm2 _ _ rfl rfl
            · intro w' hb' K' hK'
              obtain ⟨hc', hf'⟩ := hb'.rule
              go_simp
              try go_ints
              exact hK'
            · intro K' hK'
              simp only [Act.put, List.setIfInBounds_toArray, List.set_cons_zero, List.set_cons_succ]
              exact hK'
          iterate 1
            apply Flow.mv _ rfl
            · intro K' hK'
              simp only [Act.put, Act.eval, List.setIfInBounds_toArray, List.set_cons_zero, List.set_cons_succ, arr_getD, List.getD_cons_zero, List.getD_cons_succ]
              exact hK'
          iterate 1
            apply Flow.calm2 _ _ rfl rfl
            · intro w' hb' K' hK'
              obtain ⟨hc', hf'⟩ := hb'.rule
              go_simp
              try go_ints
              exact hK'
            · intro K' hK'
              simp only [Act.put, List.setIfInBounds_toArray, List.set_cons_zero, List.set_cons_succ]
              exact hK'
          iterate 1
            apply Flow.calm2 _ _ rfl rfl
            · intro w' hb' K' hK'
              obtain ⟨hc', hf'⟩ := hb'.rule
              go_simp
              try go_ints
              exact hK'
            · intro K' hK'
              simp only [Act.put, List.setIfInBounds_toArray, List.set_cons_zero, List.set_cons_succ]
              exact hK'
          iterate 1
            apply Flow.calm2 _ _ rfl rfl
            · intro w' hb' K' hK'
              obtain ⟨hc', hf'⟩ := hb'.rule
              go_simp
              try go_ints
              exact hK'
            · intro K' hK'
              simp only [Act.put, List.setIfInBounds_toArray, List.set_cons_zero, List.set_cons_succ]
              exact hK'
          iterate 2
            apply Flow.mv _ rfl
            · intro K' hK'
              simp only [Act.put, Act.eval, List.setIfInBounds_toArray, List.set_cons_zero, List.set_cons_succ, arr_getD, List.getD_cons_zero, List.getD_cons_succ]
              exact hK'
          iterate 2
            apply Flow.calm2 _ _ rfl rfl
            · intro w' hb' K' hK'
              obtain ⟨hc', hf'⟩ := hb'.rule
              go_simp
              try go_ints
              exact hK'
            · intro K' hK'
              simp only [Act.put, List.setIfInBounds_toArray, List.set_cons_zero, List.set_cons_succ]
              exact hK'
          iterate 1
            apply Flow.mv _ rfl
            · intro K' hK'
              simp only [Act.put, Act.eval, List.setIfInBounds_toArray, List.set_cons_zero, List.set_cons_succ, arr_getD, List.getD_cons_zero, List.getD_cons_succ]
              exact hK'
          iterate 2
            apply Flow.calm2 _ _ rfl rfl
            · intro w' hb' K' hK'
              obtain ⟨hc', hf'⟩ := hb'.rule
              go_simp
              try go_ints
              exact hK'
            · intro K' hK'
              simp only [Act.put, List.setIfInBounds_toArray, List.set_cons_zero, List.set_cons_succ]
              exact hK'
          iterate 1
            apply Flow.calm2 _ _ rfl rfl
            · intro w' hb' K' hK'
              obtain ⟨hc', hf'⟩ := hb'.rule
              go_simp
              try go_ints
              exact hK'
            · intro K' hK'
              simp only [Act.put, List.setIfInBounds_toArray, List.set_cons_zero, List.set_cons_succ]
              exact hK'
          iterate 1
            apply Flow.calm2 _ _ rfl rfl
            · intro w' hb' K' hK'
              obtain ⟨hc', hf'⟩ := hb'.rule
              go_simp
              try go_ints
              exact hK'
            · intro K' hK'
              simp only [Act.put, List.setIfInBounds_toArray, List.set_cons_zero, List.set_cons_succ]
              exact hK'
          iterate 1
            apply Flow.mv _ rfl
            · intro K' hK'
              simp only [Act.put, Act.eval, List.setIfInBounds_toArray, List.set_cons_zero, List.set_cons_succ, arr_getD, List.getD_cons_zero, List.getD_cons_succ]
              exact hK'
          iterate 1
            apply Flow.calm2 _ _ rfl rfl
            · intro w' hb' K' hK'
              obtain ⟨hc', hf'⟩ := hb'.rule
              go_simp
              try go_ints
              exact hK'
            · intro K' hK'
              simp only [Act.put, List.setIfInBounds_toArray, List.set_cons_zero, List.set_cons_succ]
              exact hK'
          iterate 1
            apply Flow.calm2 _ _ rfl rfl
            · intro w' hb' K' hK'
              obtain ⟨hc', hf'⟩ := hb'.rule
              go_simp
              try go_ints
              exact hK'
            · intro K' hK'
              simp only [Act.put, List.setIfInBounds_toArray, List.set_cons_zero, List.set_cons_succ]
              exact hK'
          refine Flow.tail _ rfl ?_
          go_wp2_with fail
          have hst := SumsInv.step (m := b) (v := v) ⟨hbl, hp, cs, hc, hz, Hcs.out⟩ (satAt v W a + (rowSum v W y x + v i)) Hvb.out.symm hbN
          have Hst := Lib.hid (hst.bl (Bl.refl _).drew); clear hst
          exact ⟨⟨x + 1, hlt2, by go_num, by simp only [rowSum]; rw [← Hi.out], by have := Hst.out; rw [Hb.out] at this ⊢; exact this⟩, by simp [intOf]; omega⟩
        · go_wp2_with fail
          obtain rfl : x = W := by omega
          exact ⟨⟨y + 1, hlt, by go_num, hinv2.row⟩, by simp [intOf]; omega⟩
    · go_wp2_with fail
      go_ret
      obtain rfl : y = H := by omega
      exact ⟨_, _, rfl, hinv.done, hinv.1⟩

end Go.Proofs.Ytccgncjncklheaa
