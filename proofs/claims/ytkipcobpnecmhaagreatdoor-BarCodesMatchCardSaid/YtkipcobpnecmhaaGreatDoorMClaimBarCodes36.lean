/- bedref2.RowOf's closure: runs that are tried as a code. -/
import Derived.Test.YtkipcobpnecmhaaGreatDoorMClaimBarCodes28
import Derived.Test.YtkipcobpnecmhaaGreatDoorMClaimBarCodes32
import Derived.Test.YtkipcobpnecmhaaGreatDoorMClaimBarCodes8
import Derived.Test.YtkipcobpnecmhaaGreatDoorMClaimBarCodes20
import Derived.Test.YtkipcobpnecmhaaGreatDoorMClaimBarCodes35

namespace Go.Proofs.YtkipcobpnecmhaaGreatDoor
open Go.RowKit

def uM (zs : List Int) (kind : Int) : List UInt8 := if unitErr zs kind = 0 then unitsTo zs kind (clipSum zs zs.length) zs.length else []
def rdK (kind : Int) (m : List UInt8) : List UInt8 × Int := if kind = 1 then eitherG readE m else eitherG rd39 m
/-- The text of runs, if they are a code of this kind. -/
def tryC (zs : List Int) (kind : Int) : Option (List UInt8) := if unitErr zs kind = 0 then (if (rdK kind (uM zs kind)).2 = 0 then some (rdK kind (uM zs kind)).1 else none) else none
def hit39 (zs : List Int) (m : Nat) : Option (List UInt8) := tryC (zs.take (10 * m - 1)) 2
def find39 (zs : List Int) : Nat → Nat → Option (Nat × List UInt8)
  | 0, _ => none
  | k + 1, m => if 10 * m - 1 ≤ zs.length then (match hit39 zs m with | some t => some (m, t) | none => find39 zs k (m + 1)) else none
def hitE (zs : List Int) : Option (List UInt8) := if 59 ≤ zs.length then tryC (zs.take 59) 1 else none
/-- The code at the beginning of runs: its kind, its text, and how many runs it has. -/
def codeP (zs : List Int) : Option (Int × List UInt8 × Nat) := match hitE zs with
  | some t => some (1, t, 59)
  | none => (find39 zs 41 3).map fun x => (2, x.2, 10 * x.1 - 1)
def sumI (zs : List Int) (i : Nat) : Int := (zs.take i).sum
def rowFrom (zs : List Int) (y : Int) : Nat → Nat → List Cd
  | 0, _ => []
  | k + 1, i => if i < zs.length then (match codeP (zs.drop i) with
    | some (kd, t, many) => ⟨kd, t, sumI zs i, y, sumI zs (i + many) - sumI zs i, 1⟩ :: rowFrom zs y k (i + many + 1)
    | none => rowFrom zs y k (i + 2)) else []
def rowC (zs : List Int) (y : Int) : List Cd := rowFrom zs y zs.length 1

theorem find39_step {zs : List Int} {k m : Nat} (h : 10 * m - 1 ≤ zs.length) : find39 zs (k + 1) m = match hit39 zs m with | some t => some (m, t) | none => find39 zs k (m + 1) := by
  show (if _ then _ else _) = _
  rw [if_pos h]
theorem find39_hit {zs : List Int} {k m : Nat} {t : List UInt8} (h : 10 * m - 1 ≤ zs.length) (ht : hit39 zs m = some t) : find39 zs (k + 1) m = some (m, t) := by rw [find39_step h, ht]
theorem find39_miss {zs : List Int} {k m : Nat} (h : 10 * m - 1 ≤ zs.length) (ht : hit39 zs m = none) : find39 zs (k + 1) m = find39 zs k (m + 1) := by rw [find39_step h, ht]
theorem find39_end {zs : List Int} {k m : Nat} (h : ¬ 10 * m - 1 ≤ zs.length) : find39 zs k m = none := by
  cases k with
  | zero => rfl
  | succ k => show (if _ then _ else _) = _; rw [if_neg h]
theorem rowFrom_fuel (zs : List Int) (y : Int) : ∀ k k' i, zs.length - i ≤ k → zs.length - i ≤ k' → rowFrom zs y k i = rowFrom zs y k' i
  | 0, 0, _, _, _ => rfl
  | 0, k' + 1, i, h, _ => by
    show [] = (if _ then _ else _)
    rw [if_neg (by omega)]
  | k + 1, 0, i, _, h => by
    show (if _ then _ else _) = []
    rw [if_neg (by omega)]
  | k + 1, k' + 1, i, h, h' => by
    show (if i < zs.length then _ else _) = (if i < zs.length then _ else _)
    by_cases hi : i < zs.length
    · rw [if_pos hi, if_pos hi]
      cases hc : codeP (zs.drop i) with
      | none => exact rowFrom_fuel zs y k k' (i + 2) (by omega) (by omega)
      | some x =>
        obtain ⟨kd, t, many⟩ := x
        simp only
        rw [rowFrom_fuel zs y k k' (i + many + 1) (by omega) (by omega)]
    · rw [if_neg hi, if_neg hi]
/-- The codes from run i on. -/
def rowAt (zs : List Int) (y : Int) (i : Nat) : List Cd := rowFrom zs y (zs.length - i) i
theorem rowAt_one (zs : List Int) (y : Int) : rowAt zs y 1 = rowC zs y := rowFrom_fuel zs y _ _ 1 (Nat.le_refl _) (by omega)
theorem rowAt_end {zs : List Int} {y : Int} {i : Nat} (h : zs.length ≤ i) : rowAt zs y i = [] := by
  unfold rowAt
  rw [show zs.length - i = 0 by omega]
  rfl
theorem rowAt_step {zs : List Int} {y : Int} {i : Nat} (h : i < zs.length) : rowAt zs y i = match codeP (zs.drop i) with
    | some (kd, t, many) => ⟨kd, t, sumI zs i, y, sumI zs (i + many) - sumI zs i, 1⟩ :: rowAt zs y (i + many + 1)
    | none => rowAt zs y (i + 2) := by
  unfold rowAt
  obtain ⟨k, hk⟩ : ∃ k, zs.length - i = k + 1 := ⟨zs.length - i - 1, by omega⟩
  rw [hk]
  show (if i < zs.length then _ else _) = _
  rw [if_pos h]
  cases hc : codeP (zs.drop i) with
  | none => exact rowFrom_fuel zs y _ _ _ (by omega) (Nat.le_refl _)
  | some x =>
    obtain ⟨kd, t, many⟩ := x
    simp only
    rw [rowFrom_fuel zs y k (zs.length - (i + many + 1)) _ (by omega) (Nat.le_refl _)]
theorem rowAt_code {zs : List Int} {y : Int} {i many : Nat} {kd : Int} {t : List UInt8} (h : i < zs.length) (hc : codeP (zs.drop i) = some (kd, t, many)) : rowAt zs y i = ⟨kd, t, sumI zs i, y, sumI zs (i + many) - sumI zs i, 1⟩ :: rowAt zs y (i + many + 1) := by rw [rowAt_step h, hc]
theorem rowAt_none {zs : List Int} {y : Int} {i : Nat} (h : i < zs.length) (hc : codeP (zs.drop i) = none) : rowAt zs y i = rowAt zs y (i + 2) := by rw [rowAt_step h, hc]

/-! ### No text of more than 43 letters -/
theorem units_expand (zs : List Int) (kind : Int) (sum : Nat) : ∀ i, unitsTo zs kind sum i = expand 0 ((List.range i).map (unitK zs kind sum))
  | 0 => rfl
  | i + 1 => by
    show unitsTo zs kind sum i ++ List.replicate (unitK zs kind sum i) (moduleOf i) = _
    rw [List.range_succ, List.map_append, expand_append, units_expand zs kind sum i, List.length_map, List.length_range]
    show _ = _ ++ (List.replicate (unitK zs kind sum i) (bitAt (0 + i)) ++ [])
    rw [List.append_nil, Nat.zero_add]
    rfl
theorem expand_par {i j : Nat} (h : i % 2 = j % 2) : ∀ rs, expand i rs = expand j rs
  | [] => rfl
  | n :: rs => by
    show List.replicate n (bitAt i) ++ expand (i + 1) rs = List.replicate n (bitAt j) ++ expand (j + 1) rs
    rw [expand_par (show (i + 1) % 2 = (j + 1) % 2 by omega) rs]
    unfold bitAt
    rw [h]
theorem expand_rev : ∀ (rs : List Nat) (i : Nat), (expand i rs).reverse = expand (i + rs.length + 1) rs.reverse
  | [], _ => rfl
  | n :: rs, i => by
    show (List.replicate n (bitAt i) ++ expand (i + 1) rs).reverse = _
    rw [List.reverse_append, List.reverse_replicate, expand_rev rs (i + 1), List.reverse_cons, expand_append, List.length_reverse]
    rw [expand_par (show (i + 1 + rs.length + 1) % 2 = (i + (n :: rs).length + 1) % 2 by simp only [List.length_cons]; omega)]
    congr 1
    show _ = List.replicate n (bitAt _) ++ []
    rw [List.append_nil]
    unfold bitAt
    rw [show (i + (n :: rs).length + 1 + rs.length) % 2 = i % 2 by simp only [List.length_cons]; omega]
theorem expand_back {rs : List Nat} (h : rs.length % 2 = 1) : (expand 0 rs).reverse = expand 0 rs.reverse := by
  rw [expand_rev]
  exact expand_par (by omega) _
theorem rd39_runs {rs : List Nat} (h1 : ∀ n ∈ rs, 1 ≤ n) (h : (rd39 (expand 0 rs)).2 ≠ 2) : ∃ ks, decP rs = some ks ∧ shpT (txt ks) = true := by
  rcases t39_cases (expand 0 rs) with ⟨T, hT1, hT2⟩ | ⟨-, h'⟩
  · unfold outR at hT1
    by_cases hl : lenOK (expand 0 rs) = true
    · rw [if_pos hl] at hT1
      obtain ⟨ks, hks, rfl⟩ := Option.map_eq_some_iff.1 hT1
      obtain ⟨e1, e2⟩ := runsM_spec hl
      rw [expand_inj e2 h1 e1] at hks
      exact ⟨ks, hks, hT2⟩
    · rw [if_neg hl] at hT1; cases hT1
  · rw [h'] at h; exact absurd rfl h
theorem rd39_long {rs : List Nat} (h1 : ∀ n ∈ rs, 1 ≤ n) (hl : 430 ≤ rs.length) : (rd39 (expand 0 rs)).2 = 2 := by
  rcases Classical.em ((rd39 (expand 0 rs)).2 = 2) with h | h
  · exact h
  · exfalso
    obtain ⟨ks, h2, h3⟩ := rd39_runs h1 h
    have h4 := ((decP_iff _ _).1 h2).1
    have h5 := (shp_len h3).2
    rw [txt_len] at h5
    omega
theorem ks_pos (zs : List Int) (kind : Int) (sum n : Nat) : ∀ k ∈ (List.range n).map (unitK zs kind sum), 1 ≤ k := by
  intro k hk
  obtain ⟨i, -, rfl⟩ := List.mem_map.1 hk
  exact (unitK_in zs kind sum i).1
theorem hit39_long {zs : List Int} {m : Nat} (hm : 44 ≤ m) (hl : 10 * m - 1 ≤ zs.length) : hit39 zs m = none := by
  unfold hit39 tryC
  by_cases hu : unitErr (zs.take (10 * m - 1)) 2 = 0
  · have hyl : (zs.take (10 * m - 1)).length = 10 * m - 1 := by rw [List.length_take]; omega
    obtain ⟨ys, hys⟩ : ∃ ys, ys = zs.take (10 * m - 1) := ⟨_, rfl⟩
    rw [← hys] at hu hyl ⊢
    rw [if_pos hu]
    unfold uM rdK
    rw [if_pos hu, if_neg (by decide : ¬ (2 : Int) = 1), units_expand]
    obtain ⟨rs, hrs⟩ : ∃ rs, rs = (List.range ys.length).map (unitK ys 2 (clipSum ys ys.length)) := ⟨_, rfl⟩
    have hrl : rs.length = 10 * m - 1 := by rw [hrs, List.length_map, List.length_range, hyl]
    have hrp : ∀ n ∈ rs, 1 ≤ n := by rw [hrs]; exact ks_pos _ _ _ _
    rw [← hrs]
    have h1 := rd39_long hrp (by omega)
    have h2 := rd39_long (rs := rs.reverse) (fun n hn => hrp n (List.mem_reverse.1 hn)) (by rw [List.length_reverse]; omega)
    have h3 : (eitherG rd39 (expand 0 rs)).2 = 2 := by
      unfold eitherG
      rw [if_pos h1, expand_back (by omega)]
      exact h2
    rw [h3, if_neg (by decide)]
  · rw [if_neg hu]
theorem find39_over (zs : List Int) : ∀ k m, 44 ≤ m → find39 zs k m = none
  | 0, _, _ => rfl
  | k + 1, m, h => by
    by_cases hl : 10 * m - 1 ≤ zs.length
    · rw [find39_miss hl (hit39_long h hl)]
      exact find39_over zs k (m + 1) (by omega)
    · exact find39_end hl
theorem find39_fuel (zs : List Int) : ∀ k k' m, 44 ≤ m + k → 44 ≤ m + k' → find39 zs k m = find39 zs k' m
  | 0, k', m, h, _ => (find39_over zs k' m (by omega)).symm
  | k + 1, 0, m, _, h => find39_over zs (k + 1) m (by omega)
  | k + 1, k' + 1, m, h, h' => by
    by_cases hl : 10 * m - 1 ≤ zs.length
    · cases hc : hit39 zs m with
      | none => rw [find39_miss hl hc, find39_miss hl hc]; exact find39_fuel zs k k' (m + 1) (by omega) (by omega)
      | some t => rw [find39_hit hl hc, find39_hit hl hc]
    · rw [find39_end hl, find39_end hl]
/-- What is left of the search from m on. -/
def from39 (zs : List Int) (m : Nat) : Option (Nat × List UInt8) := find39 zs (44 - m) m
theorem from39_three (zs : List Int) : from39 zs 3 = find39 zs 41 3 := rfl
theorem from39_hit {zs : List Int} {m : Nat} {t : List UInt8} (h : 10 * m - 1 ≤ zs.length) (ht : hit39 zs m = some t) : from39 zs m = some (m, t) := by
  have hm : m < 44 := by
    rcases Nat.lt_or_ge m 44 with h1 | h1
    · exact h1
    · rw [hit39_long h1 h] at ht; cases ht
  unfold from39
  rw [show 44 - m = 44 - (m + 1) + 1 by omega]
  exact find39_hit h ht
theorem from39_miss {zs : List Int} {m : Nat} (h : 10 * m - 1 ≤ zs.length) (ht : hit39 zs m = none) : from39 zs m = from39 zs (m + 1) := by
  unfold from39
  rw [find39_fuel zs (44 - m) (44 - (m + 1) + 1) m (by omega) (by omega)]
  exact find39_miss h ht
theorem from39_end {zs : List Int} {m : Nat} (h : ¬ 10 * m - 1 ≤ zs.length) : from39 zs m = none := find39_end h
theorem from39_over {zs : List Int} {m : Nat} (h : 44 ≤ m) : from39 zs m = none := find39_over zs _ m h
theorem codeP_ean {zs : List Int} {t : List UInt8} (h : hitE zs = some t) : codeP zs = some (1, t, 59) := by unfold codeP; rw [h]
theorem codeP_39 {zs : List Int} {t : List UInt8} {m : Nat} (h : hitE zs = none) (h2 : from39 zs 3 = some (m, t)) : codeP zs = some (2, t, 10 * m - 1) := by
  unfold codeP
  rw [h, ← from39_three, h2]
  rfl
theorem codeP_none {zs : List Int} (h : hitE zs = none) (h2 : from39 zs 3 = none) : codeP zs = none := by
  unfold codeP
  rw [h, ← from39_three, h2]
  rfl
theorem find39_in {zs : List Int} : ∀ {k m m' : Nat} {t : List UInt8}, find39 zs k m = some (m', t) → m ≤ m' ∧ 10 * m' - 1 ≤ zs.length ∧ hit39 zs m' = some t
  | 0, _, _, _, h => by cases h
  | k + 1, m, m', t, h => by
    by_cases hl : 10 * m - 1 ≤ zs.length
    · cases hc : hit39 zs m with
      | none =>
        rw [find39_miss hl hc] at h
        have := find39_in h
        exact ⟨by omega, this.2⟩
      | some t' =>
        rw [find39_hit hl hc] at h
        obtain ⟨rfl, rfl⟩ := Prod.mk.inj (Option.some.inj h)
        exact ⟨Nat.le_refl _, hl, hc⟩
    · rw [find39_end hl] at h; cases h
theorem codeP_many {zs : List Int} {kd : Int} {t : List UInt8} {many : Nat} (h : codeP zs = some (kd, t, many)) : (kd = 1 ∨ kd = 2) ∧ 29 ≤ many ∧ many ≤ zs.length := by
  cases he : hitE zs with
  | some t' =>
    rw [codeP_ean he] at h
    obtain ⟨rfl, h2⟩ := Prod.mk.inj (Option.some.inj h)
    obtain ⟨rfl, rfl⟩ := Prod.mk.inj h2
    unfold hitE at he
    by_cases hl : 59 ≤ zs.length
    · exact ⟨.inl rfl, by decide, hl⟩
    · rw [if_neg hl] at he; cases he
  | none =>
    cases hf : from39 zs 3 with
    | none => rw [codeP_none he hf] at h; cases h
    | some x =>
      obtain ⟨m, t'⟩ := x
      rw [codeP_39 he hf] at h
      obtain ⟨rfl, h2⟩ := Prod.mk.inj (Option.some.inj h)
      obtain ⟨rfl, rfl⟩ := Prod.mk.inj h2
      obtain ⟨h3, h4, -⟩ := find39_in hf
      exact ⟨.inr rfl, by omega, h4⟩
theorem tryC_yes {zs : List Int} {kind : Int} (h : unitErr zs kind = 0) (h2 : (rdK kind (uM zs kind)).2 = 0) : tryC zs kind = some (rdK kind (uM zs kind)).1 := by unfold tryC; rw [if_pos h, if_pos h2]
theorem tryC_no {zs : List Int} {kind : Int} (h : unitErr zs kind ≠ 0) : tryC zs kind = none := by unfold tryC; rw [if_neg h]
theorem tryC_bad {zs : List Int} {kind : Int} (h2 : (rdK kind (uM zs kind)).2 ≠ 0) : tryC zs kind = none := by
  unfold tryC
  by_cases h : unitErr zs kind = 0
  · rw [if_pos h, if_neg h2]
  · rw [if_neg h]
theorem uM_len (zs : List Int) (kind : Int) : (uM zs kind).length ≤ zs.length * 4 := by
  unfold uM
  split
  · exact unitsTo_len _ _ _ _
  · simp
end Go.Proofs.YtkipcobpnecmhaaGreatDoor


/-! bar.codeAt: the code at the beginning of runs. -/
namespace Go.Proofs.YtkipcobpnecmhaaGreatDoor
open Go.RowKit Go.Shelf

def CodeAtRes (zs : List Int) (w : World) (e : Ending) (w' : World) : Prop :=
  (∃ kd t many, codeP zs = some (kd, t, many) ∧ e = .returned (.tuple #[.agg #[.int .i64 kd, .string ⟨t.toArray⟩, .int .i64 0, .int .i64 0, .int .i64 0, .int .i64 0], .int .i64 ((many : Nat) : Int)]) ∧ Bl w w') ∨
  (codeP zs = none ∧ e = .returned (.tuple #[.agg #[.int .i64 0, .string ⟨#[]⟩, .int .i64 0, .int .i64 0, .int .i64 0, .int .i64 0], .int .i64 0]) ∧ Bl w w')
theorem reads_take {w : World} {L : Option Addr} {zs : List Int} {n : Nat} (h : Reads w 1 L zs.length (intCells zs)) (hn : n ≤ zs.length) : Reads w 1 L n (intCells (zs.take n)) := by
  refine ⟨by unfold intCells; rw [List.length_map, List.length_take]; omega, fun h0 => ?_⟩
  obtain ⟨ad, e, hc⟩ := h.2 (by omega)
  refine ⟨ad, e, fun j u hu => hc j u ?_⟩
  unfold intCells at hu ⊢
  rw [List.map_take] at hu
  have hj : j < n := by
    have := (List.getElem?_eq_some_iff.1 hu).1
    rw [List.length_take] at this
    omega
  rwa [List.getElem?_take_of_lt hj] at hu

set_option maxRecDepth 100000 in
set_option maxHeartbeats 4000000 in
theorem codeAt_any (zs : List Int) (L : Option Addr) (c : Nat) (w : World) (hx : Reads w 1 L zs.length (intCells zs)) (hn : zs.length ≤ 4001) (hc : zs.length ≤ c) (hT : SpOk w) :
    Calls Tryz.prog 44 #[.slice L zs.length c] w (CodeAtRes zs w) := by
  have HT := Lib.hid hT
  obtain ⟨n, hnn⟩ : ∃ n, n = zs.length := ⟨_, rfl⟩
  have HX := Lib.hid hx
  have HN := Lib.hid hnn
  rw [← hnn] at hn hc ⊢
  clear hnn hx hT
  go_enter Tryz.func44, Tryz.ntmps44
  go_upto_region 1 with fail
  obtain ⟨w2, hw2⟩ : ∃ x, x = w.alloc (.cells #[.int .i64 0, .string ⟨#[]⟩, .int .i64 0, .int .i64 0, .int .i64 0, .int .i64 0] 39) := ⟨_, rfl⟩
  obtain ⟨o, ho⟩ : ∃ x, x = w.heap.size := ⟨_, rfl⟩
  have bO : Blk w2 o 39 #[.int .i64 0, .string ⟨#[]⟩, .int .i64 0, .int .i64 0, .int .i64 0, .int .i64 0] := by rw [hw2, ho]; exact Blk.new _ _ _
  have hb2 : Bl w w2 := by rw [hw2]; exact (Bl.refl _).alloc _
  have hoW : w.heap.size ≤ o := by omega
  rw [← hw2, ← ho]
  have HBO := Lib.hid bO
  clear hw2 ho bO
  by_cases h59 : 59 ≤ n
  · obtain ⟨ad, rfl, -⟩ := HX.out.2 (by rw [← HN.out]; omega)
    have htl : (zs.take 59).length = 59 := by rw [List.length_take, ← HN.out]; omega
    have hu := units_any (zs.take 59) (some ad) c 1 w2 (by rw [htl]; exact reads_take (HX.out.bl hb2) (by rw [← HN.out]; omega)) (by omega) (by omega)
    rw [htl] at hu
    have hul : (uM (zs.take 59) 1).length ≤ 1048576 := by have := uM_len (zs.take 59) 1; omega
    have hq : tryC (zs.take 59) 1 = hitE zs := by unfold hitE; rw [← HN.out, if_pos h59]
    obtain ⟨U, hU⟩ : ∃ U, U = uM (zs.take 59) 1 := ⟨_, rfl⟩
    obtain ⟨E, hE⟩ : ∃ E, E = unitErr (zs.take 59) 1 := ⟨_, rfl⟩
    have Hu := Lib.hid (show Calls Tryz.prog 76 #[.slice (some ad) 59 c, .int .i64 1] w2 (fun e w' => e = .returned (.tuple #[.string ⟨U.toArray⟩, .int .i64 E]) ∧ Bl w2 w') from by rw [hU, hE]; exact hu)
    rw [← hU] at hul
    obtain ⟨T, hTT⟩ : ∃ T, T = (eitherG readE U).1 := ⟨_, rfl⟩
    obtain ⟨F, hFF⟩ : ∃ F, F = (eitherG readE U).2 := ⟨_, rfl⟩
    have Hr := Lib.hid (fun wx => show Calls Tryz.prog 77 #[.string ⟨U.toArray⟩] wx (fun e w' => e = .returned (.tuple #[.string ⟨T.toArray⟩, .int .i64 F]) ∧ Bl wx w') from by rw [hTT, hFF]; exact readEANx_any U wx (by omega))
    have HYes := Lib.hid (fun (h1 : E = 0) (h2 : F = 0) => show codeP zs = some (1, T, 59) from codeP_ean (by rw [← hq, tryC_yes (by rw [← hE]; exact h1) (by rw [← hU]; exact hFF.symm.trans h2), ← hU]; exact congrArg some hTT.symm))
    have HNo1 := Lib.hid (fun (h1 : E ≠ 0) => show hitE zs = none from by rw [← hq]; exact tryC_no (by rw [← hE]; exact h1))
    have HNo2 := Lib.hid (fun (h2 : F ≠ 0) => show hitE zs = none from by rw [← hq]; exact tryC_bad (by rw [← hU]; exact fun h => h2 (hFF.trans h)))
    clear hq hU hE hTT hFF hu htl hul
    go_wp2_with fail
    refine Hu.out.mono ?_
    rintro e w3 ⟨rfl, hb3⟩
    clear Hu
    by_cases hE0 : E = 0
    · subst hE0
      have HY1 := Lib.hid (HYes.out rfl)
      clear HYes HNo1
      go_wp2_with fail
      refine (Hr.out _).mono ?_
      rintro e w4 ⟨rfl, hb4⟩
      clear Hr
      by_cases hF0 : F = 0
      · subst hF0
        have HC := Lib.hid (HY1.out rfl)
        clear HY1 HNo2
        have hb24 := hb3.trans hb4
        have bO4 := HBO.out.bl hb24
        have k0 := bO4.all6'
        go_wp2_with fail
        refine bodyPost_ret (v := .tuple #[.agg #[.int .i64 1, .string ⟨T.toArray⟩, .int .i64 0, .int .i64 0, .int .i64 0, .int .i64 0], .int .i64 59]) (by simp [results, Tryz.results44, go_sem, k0]) rfl (Or.inl ⟨_, _, _, HC.out, rfl, ?_⟩)
        exact ((((((hb2.trans hb24).setCell hoW _).setCell hoW _).setCell hoW _).setCell hoW _).setCell hoW _).setCell hoW _
      · have HEan := Lib.hid (HNo2.out hF0)
        have hbF : (F == 0) = false := by simp [hF0]
        clear HY1 HNo2 hF0
        have hbq := hb3.trans hb4
        rename World => wq
        go_wp2_with fail
        go_loopw [8] (fun s8 wr => ∃ m : Nat, 3 ≤ m ∧ m ≤ 44 ∧ s8 = .int .i64 ((10 * m - 1 : Nat) : Int) ∧ Bl w2 wr ∧ Hid (from39 zs 3 = from39 zs m)) (fun s8 _ => 500 - (RowKit.intOf s8).toNat)
        case atStart => exact ⟨3, by decide, by decide, rfl, hbq, Lib.hid rfl⟩
        case round =>
          rename World => wr
          obtain ⟨m, hm3, hm44, rfl, hbr, HF⟩ := hrel
          obtain ⟨k, hk⟩ : ∃ k, k = 10 * m - 1 := ⟨_, rfl⟩
          have HK := Lib.hid hk
          have hk29 : 29 ≤ k := by omega
          have hk439 : k ≤ 439 := by omega
          have hb2r := hb2.trans hbr
          rw [← hk]
          by_cases hkn : k ≤ n
          · have hkn1 : (k : Int) ≤ (n : Int) := by omega
            by_cases hkm : k ≤ 429
            · have hkm1 : (k : Int) ≤ 429 := by omega
              obtain ⟨ad2, hL2, -⟩ := HX.out.2 (by rw [← HN.out]; omega)
              first | subst hL2 | (injection hL2 with hL2; subst hL2)
              have htl : (zs.take k).length = k := by rw [List.length_take, ← HN.out]; omega
              have hu := units_any (zs.take k) _ c 2 wr (by rw [htl]; exact reads_take (HX.out.bl hb2r) (by rw [← HN.out]; omega)) (by omega) (by omega)
              rw [htl] at hu
              have hul : (uM (zs.take k) 2).length ≤ 1048576 := by have := uM_len (zs.take k) 2; omega
              have hq : tryC (zs.take k) 2 = hit39 zs m := by unfold hit39; rw [← HK.out]
              obtain ⟨U, hU⟩ : ∃ U, U = uM (zs.take k) 2 := ⟨_, rfl⟩
              obtain ⟨E, hE⟩ : ∃ E, E = unitErr (zs.take k) 2 := ⟨_, rfl⟩
              have Hu := Lib.hid (show Calls Tryz.prog 76 #[.slice _ k c, .int .i64 2] wr (fun e w' => e = .returned (.tuple #[.string ⟨U.toArray⟩, .int .i64 E]) ∧ Bl wr w') from by rw [hU, hE]; exact hu)
              rw [← hU] at hul
              obtain ⟨T, hTT⟩ : ∃ T, T = (eitherG rd39 U).1 := ⟨_, rfl⟩
              obtain ⟨F, hFF⟩ : ∃ F, F = (eitherG rd39 U).2 := ⟨_, rfl⟩
              have Hr := Lib.hid (fun wx (hx : Bl wr wx) => show Calls Tryz.prog 78 #[.string ⟨U.toArray⟩] wx (fun e w' => e = .returned (.tuple #[.string ⟨T.toArray⟩, .int .i64 F]) ∧ Bl wx w') from by rw [hTT, hFF]; exact read39x_any U wx (by omega) (HT.out.bl (hb2r.trans hx)))
              have hle : 10 * m - 1 ≤ zs.length := by rw [← HN.out]; omega
              have HYes := Lib.hid (fun (h1 : E = 0) (h2 : F = 0) => show codeP zs = some (2, T, k) from by
                rw [hk]
                exact codeP_39 HEan.out (HF.out.trans (from39_hit hle (by rw [← hq, tryC_yes (by rw [← hE]; exact h1) (by rw [← hU]; exact hFF.symm.trans h2), ← hU]; exact congrArg some hTT.symm))))
              have HNo1 := Lib.hid (fun (h1 : E ≠ 0) => show from39 zs 3 = from39 zs (m + 1) from HF.out.trans (from39_miss hle (by rw [← hq]; exact tryC_no (by rw [← hE]; exact h1))))
              have HNo2 := Lib.hid (fun (h2 : F ≠ 0) => show from39 zs 3 = from39 zs (m + 1) from HF.out.trans (from39_miss hle (by rw [← hq]; exact tryC_bad (by rw [← hU]; exact fun h => h2 (hFF.trans h)))))
              clear hq hU hE hTT hFF hu htl hul hle hk
              go_wp2_with fail
              refine Hu.out.mono ?_
              rintro e w5 ⟨rfl, hb5⟩
              clear Hu
              by_cases hE0 : E = 0
              · subst hE0
                have HY1 := Lib.hid (HYes.out rfl)
                clear HYes HNo1
                go_wp2_with fail
                refine (Hr.out _ hb5).mono ?_
                rintro e w6 ⟨rfl, hb6⟩
                clear Hr
                by_cases hF0 : F = 0
                · subst hF0
                  have HC := Lib.hid (HY1.out rfl)
                  clear HY1 HNo2
                  have hb26 := hbr.trans (hb5.trans hb6)
                  have bO4 := HBO.out.bl hb26
                  have k0 := bO4.all6'
                  go_wp2_with fail
                  refine bodyPost_ret (v := .tuple #[.agg #[.int .i64 2, .string ⟨T.toArray⟩, .int .i64 0, .int .i64 0, .int .i64 0, .int .i64 0], .int .i64 k]) (by simp [results, Tryz.results44, go_sem, k0]) rfl (Or.inl ⟨_, _, _, HC.out, rfl, ?_⟩)
                  exact ((((((hb2.trans hb26).setCell hoW _).setCell hoW _).setCell hoW _).setCell hoW _).setCell hoW _).setCell hoW _
                · have HNx := Lib.hid (HNo2.out hF0)
                  have hbF2 : (F == 0) = false := by simp [hF0]
                  clear HY1 HNo2 hF0
                  go_wp2_with fail
                  have hk := HK.out
                  exact ⟨⟨m + 1, by omega, by omega, by rw [show 10 * (m + 1) - 1 = k + 10 by omega]; go_num, hbr.trans (hb5.trans hb6), HNx⟩, by simp [RowKit.intOf] <;> omega⟩
              · have HNx := Lib.hid (HNo1.out hE0)
                have hbF2 : (E == 0) = false := by simp [hE0]
                clear HYes HNo1 HNo2 hE0 Hr
                go_wp2_with fail
                have hk := HK.out
                exact ⟨⟨m + 1, by omega, by omega, by rw [show 10 * (m + 1) - 1 = k + 10 by omega]; go_num, hbr.trans hb5, HNx⟩, by simp [RowKit.intOf] <;> omega⟩
            · have HC := Lib.hid (show codeP zs = none from codeP_none HEan.out (HF.out.trans (from39_over (by omega))))
              have hkm1 : ¬ (k : Int) ≤ 429 := by omega
              have bO4 := HBO.out.bl hbr
              have k0 := bO4.all6'
              clear hk
              go_wp2_with fail
              refine bodyPost_ret (v := .tuple #[.agg #[.int .i64 0, .string ⟨#[]⟩, .int .i64 0, .int .i64 0, .int .i64 0, .int .i64 0], .int .i64 0]) (by simp [results, Tryz.results44, go_sem, k0]) rfl (Or.inr ⟨HC.out, rfl, ?_⟩)
              exact (((((hb2r.setCell hoW _).setCell hoW _).setCell hoW _).setCell hoW _).setCell hoW _).setCell hoW _
          · have HC := Lib.hid (show codeP zs = none from codeP_none HEan.out (HF.out.trans (from39_end (by rw [← HN.out, ← hk]; exact hkn))))
            have hkn1 : ¬ (k : Int) ≤ (n : Int) := by omega
            have bO4 := HBO.out.bl hbr
            have k0 := bO4.all6'
            clear hk
            go_wp2_with fail
            refine bodyPost_ret (v := .tuple #[.agg #[.int .i64 0, .string ⟨#[]⟩, .int .i64 0, .int .i64 0, .int .i64 0, .int .i64 0], .int .i64 0]) (by simp [results, Tryz.results44, go_sem, k0]) rfl (Or.inr ⟨HC.out, rfl, ?_⟩)
            exact (((((hb2r.setCell hoW _).setCell hoW _).setCell hoW _).setCell hoW _).setCell hoW _).setCell hoW _
    · have HEan := Lib.hid (HNo1.out hE0)
      have hbF : (E == 0) = false := by simp [hE0]
      clear HYes HNo1 HNo2 hE0 Hr
      have hbq := hb3
      rename World => wq
      go_wp2_with fail
      go_loopw [8] (fun s8 wr => ∃ m : Nat, 3 ≤ m ∧ m ≤ 44 ∧ s8 = .int .i64 ((10 * m - 1 : Nat) : Int) ∧ Bl w2 wr ∧ Hid (from39 zs 3 = from39 zs m)) (fun s8 _ => 500 - (RowKit.intOf s8).toNat)
      case atStart => exact ⟨3, by decide, by decide, rfl, hbq, Lib.hid rfl⟩
      case round =>
        rename World => wr
        obtain ⟨m, hm3, hm44, rfl, hbr, HF⟩ := hrel
        obtain ⟨k, hk⟩ : ∃ k, k = 10 * m - 1 := ⟨_, rfl⟩
        have HK := Lib.hid hk
        have hk29 : 29 ≤ k := by omega
        have hk439 : k ≤ 439 := by omega
        have hb2r := hb2.trans hbr
        rw [← hk]
        by_cases hkn : k ≤ n
        · have hkn1 : (k : Int) ≤ (n : Int) := by omega
          by_cases hkm : k ≤ 429
          · have hkm1 : (k : Int) ≤ 429 := by omega
            obtain ⟨ad2, hL2, -⟩ := HX.out.2 (by rw [← HN.out]; omega)
            first | subst hL2 | (injection hL2 with hL2; subst hL2)
            have htl : (zs.take k).length = k := by rw [List.length_take, ← HN.out]; omega
            have hu := units_any (zs.take k) _ c 2 wr (by rw [htl]; exact reads_take (HX.out.bl hb2r) (by rw [← HN.out]; omega)) (by omega) (by omega)
            rw [htl] at hu
            have hul : (uM (zs.take k) 2).length ≤ 1048576 := by have := uM_len (zs.take k) 2; omega
            have hq : tryC (zs.take k) 2 = hit39 zs m := by unfold hit39; rw [← HK.out]
            obtain ⟨U, hU⟩ : ∃ U, U = uM (zs.take k) 2 := ⟨_, rfl⟩
            obtain ⟨E, hE⟩ : ∃ E, E = unitErr (zs.take k) 2 := ⟨_, rfl⟩
            have Hu := Lib.hid (show Calls Tryz.prog 76 #[.slice _ k c, .int .i64 2] wr (fun e w' => e = .returned (.tuple #[.string ⟨U.toArray⟩, .int .i64 E]) ∧ Bl wr w') from by rw [hU, hE]; exact hu)
            rw [← hU] at hul
            obtain ⟨T, hTT⟩ : ∃ T, T = (eitherG rd39 U).1 := ⟨_, rfl⟩
            obtain ⟨F, hFF⟩ : ∃ F, F = (eitherG rd39 U).2 := ⟨_, rfl⟩
            have Hr := Lib.hid (fun wx (hx : Bl wr wx) => show Calls Tryz.prog 78 #[.string ⟨U.toArray⟩] wx (fun e w' => e = .returned (.tuple #[.string ⟨T.toArray⟩, .int .i64 F]) ∧ Bl wx w') from by rw [hTT, hFF]; exact read39x_any U wx (by omega) (HT.out.bl (hb2r.trans hx)))
            have hle : 10 * m - 1 ≤ zs.length := by rw [← HN.out]; omega
            have HYes := Lib.hid (fun (h1 : E = 0) (h2 : F = 0) => show codeP zs = some (2, T, k) from by
              rw [hk]
              exact codeP_39 HEan.out (HF.out.trans (from39_hit hle (by rw [← hq, tryC_yes (by rw [← hE]; exact h1) (by rw [← hU]; exact hFF.symm.trans h2), ← hU]; exact congrArg some hTT.symm))))
            have HNo1 := Lib.hid (fun (h1 : E ≠ 0) => show from39 zs 3 = from39 zs (m + 1) from HF.out.trans (from39_miss hle (by rw [← hq]; exact tryC_no (by rw [← hE]; exact h1))))
            have HNo2 := Lib.hid (fun (h2 : F ≠ 0) => show from39 zs 3 = from39 zs (m + 1) from HF.out.trans (from39_miss hle (by rw [← hq]; exact tryC_bad (by rw [← hU]; exact fun h => h2 (hFF.trans h)))))
            clear hq hU hE hTT hFF hu htl hul hle hk
            go_wp2_with fail
            refine Hu.out.mono ?_
            rintro e w5 ⟨rfl, hb5⟩
            clear Hu
            by_cases hE0 : E = 0
            · subst hE0
              have HY1 := Lib.hid (HYes.out rfl)
              clear HYes HNo1
              go_wp2_with fail
              refine (Hr.out _ hb5).mono ?_
              rintro e w6 ⟨rfl, hb6⟩
              clear Hr
              by_cases hF0 : F = 0
              · subst hF0
                have HC := Lib.hid (HY1.out rfl)
                clear HY1 HNo2
                have hb26 := hbr.trans (hb5.trans hb6)
                have bO4 := HBO.out.bl hb26
                have k0 := bO4.all6'
                go_wp2_with fail
                refine bodyPost_ret (v := .tuple #[.agg #[.int .i64 2, .string ⟨T.toArray⟩, .int .i64 0, .int .i64 0, .int .i64 0, .int .i64 0], .int .i64 k]) (by simp [results, Tryz.results44, go_sem, k0]) rfl (Or.inl ⟨_, _, _, HC.out, rfl, ?_⟩)
                exact ((((((hb2.trans hb26).setCell hoW _).setCell hoW _).setCell hoW _).setCell hoW _).setCell hoW _).setCell hoW _
              · have HNx := Lib.hid (HNo2.out hF0)
                have hbF2 : (F == 0) = false := by simp [hF0]
                clear HY1 HNo2 hF0
                go_wp2_with fail
                have hk := HK.out
                exact ⟨⟨m + 1, by omega, by omega, by rw [show 10 * (m + 1) - 1 = k + 10 by omega]; go_num, hbr.trans (hb5.trans hb6), HNx⟩, by simp [RowKit.intOf] <;> omega⟩
            · have HNx := Lib.hid (HNo1.out hE0)
              have hbF2 : (E == 0) = false := by simp [hE0]
              clear HYes HNo1 HNo2 hE0 Hr
              go_wp2_with fail
              have hk := HK.out
              exact ⟨⟨m + 1, by omega, by omega, by rw [show 10 * (m + 1) - 1 = k + 10 by omega]; go_num, hbr.trans hb5, HNx⟩, by simp [RowKit.intOf] <;> omega⟩
          · have HC := Lib.hid (show codeP zs = none from codeP_none HEan.out (HF.out.trans (from39_over (by omega))))
            have hkm1 : ¬ (k : Int) ≤ 429 := by omega
            have bO4 := HBO.out.bl hbr
            have k0 := bO4.all6'
            clear hk
            go_wp2_with fail
            refine bodyPost_ret (v := .tuple #[.agg #[.int .i64 0, .string ⟨#[]⟩, .int .i64 0, .int .i64 0, .int .i64 0, .int .i64 0], .int .i64 0]) (by simp [results, Tryz.results44, go_sem, k0]) rfl (Or.inr ⟨HC.out, rfl, ?_⟩)
            exact (((((hb2r.setCell hoW _).setCell hoW _).setCell hoW _).setCell hoW _).setCell hoW _).setCell hoW _
        · have HC := Lib.hid (show codeP zs = none from codeP_none HEan.out (HF.out.trans (from39_end (by rw [← HN.out, ← hk]; exact hkn))))
          have hkn1 : ¬ (k : Int) ≤ (n : Int) := by omega
          have bO4 := HBO.out.bl hbr
          have k0 := bO4.all6'
          clear hk
          go_wp2_with fail
          refine bodyPost_ret (v := .tuple #[.agg #[.int .i64 0, .string ⟨#[]⟩, .int .i64 0, .int .i64 0, .int .i64 0, .int .i64 0], .int .i64 0]) (by simp [results, Tryz.results44, go_sem, k0]) rfl (Or.inr ⟨HC.out, rfl, ?_⟩)
          exact (((((hb2r.setCell hoW _).setCell hoW _).setCell hoW _).setCell hoW _).setCell hoW _).setCell hoW _
  · have HEan := Lib.hid (show hitE zs = none by unfold hitE; rw [← HN.out, if_neg h59])
    have hbq := Bl.refl w2
    have h59i : ¬ (59 : Int) ≤ (n : Int) := by omega
    go_wp2_with fail
    go_loopw [8] (fun s8 wr => ∃ m : Nat, 3 ≤ m ∧ m ≤ 44 ∧ s8 = .int .i64 ((10 * m - 1 : Nat) : Int) ∧ Bl w2 wr ∧ Hid (from39 zs 3 = from39 zs m)) (fun s8 _ => 500 - (RowKit.intOf s8).toNat)
    case atStart => exact ⟨3, by decide, by decide, rfl, hbq, Lib.hid rfl⟩
    case round =>
      rename World => wr
      obtain ⟨m, hm3, hm44, rfl, hbr, HF⟩ := hrel
      obtain ⟨k, hk⟩ : ∃ k, k = 10 * m - 1 := ⟨_, rfl⟩
      have HK := Lib.hid hk
      have hk29 : 29 ≤ k := by omega
      have hk439 : k ≤ 439 := by omega
      have hb2r := hb2.trans hbr
      rw [← hk]
      by_cases hkn : k ≤ n
      · have hkn1 : (k : Int) ≤ (n : Int) := by omega
        by_cases hkm : k ≤ 429
        · have hkm1 : (k : Int) ≤ 429 := by omega
          obtain ⟨ad2, hL2, -⟩ := HX.out.2 (by rw [← HN.out]; omega)
          first | subst hL2 | (injection hL2 with hL2; subst hL2)
          have htl : (zs.take k).length = k := by rw [List.length_take, ← HN.out]; omega
          have hu := units_any (zs.take k) _ c 2 wr (by rw [htl]; exact reads_take (HX.out.bl hb2r) (by rw [← HN.out]; omega)) (by omega) (by omega)
          rw [htl] at hu
          have hul : (uM (zs.take k) 2).length ≤ 1048576 := by have := uM_len (zs.take k) 2; omega
          have hq : tryC (zs.take k) 2 = hit39 zs m := by unfold hit39; rw [← HK.out]
          obtain ⟨U, hU⟩ : ∃ U, U = uM (zs.take k) 2 := ⟨_, rfl⟩
          obtain ⟨E, hE⟩ : ∃ E, E = unitErr (zs.take k) 2 := ⟨_, rfl⟩
          have Hu := Lib.hid (show Calls Tryz.prog 76 #[.slice _ k c, .int .i64 2] wr (fun e w' => e = .returned (.tuple #[.string ⟨U.toArray⟩, .int .i64 E]) ∧ Bl wr w') from by rw [hU, hE]; exact hu)
          rw [← hU] at hul
          obtain ⟨T, hTT⟩ : ∃ T, T = (eitherG rd39 U).1 := ⟨_, rfl⟩
          obtain ⟨F, hFF⟩ : ∃ F, F = (eitherG rd39 U).2 := ⟨_, rfl⟩
          have Hr := Lib.hid (fun wx (hx : Bl wr wx) => show Calls Tryz.prog 78 #[.string ⟨U.toArray⟩] wx (fun e w' => e = .returned (.tuple #[.string ⟨T.toArray⟩, .int .i64 F]) ∧ Bl wx w') from by rw [hTT, hFF]; exact read39x_any U wx (by omega) (HT.out.bl (hb2r.trans hx)))
          have hle : 10 * m - 1 ≤ zs.length := by rw [← HN.out]; omega
          have HYes := Lib.hid (fun (h1 : E = 0) (h2 : F = 0) => show codeP zs = some (2, T, k) from by
            rw [hk]
            exact codeP_39 HEan.out (HF.out.trans (from39_hit hle (by rw [← hq, tryC_yes (by rw [← hE]; exact h1) (by rw [← hU]; exact hFF.symm.trans h2), ← hU]; exact congrArg some hTT.symm))))
          have HNo1 := Lib.hid (fun (h1 : E ≠ 0) => show from39 zs 3 = from39 zs (m + 1) from HF.out.trans (from39_miss hle (by rw [← hq]; exact tryC_no (by rw [← hE]; exact h1))))
          have HNo2 := Lib.hid (fun (h2 : F ≠ 0) => show from39 zs 3 = from39 zs (m + 1) from HF.out.trans (from39_miss hle (by rw [← hq]; exact tryC_bad (by rw [← hU]; exact fun h => h2 (hFF.trans h)))))
          clear hq hU hE hTT hFF hu htl hul hle hk
          go_wp2_with fail
          refine Hu.out.mono ?_
          rintro e w5 ⟨rfl, hb5⟩
          clear Hu
          by_cases hE0 : E = 0
          · subst hE0
            have HY1 := Lib.hid (HYes.out rfl)
            clear HYes HNo1
            go_wp2_with fail
            refine (Hr.out _ hb5).mono ?_
            rintro e w6 ⟨rfl, hb6⟩
            clear Hr
            by_cases hF0 : F = 0
            · subst hF0
              have HC := Lib.hid (HY1.out rfl)
              clear HY1 HNo2
              have hb26 := hbr.trans (hb5.trans hb6)
              have bO4 := HBO.out.bl hb26
              have k0 := bO4.all6'
              go_wp2_with fail
              refine bodyPost_ret (v := .tuple #[.agg #[.int .i64 2, .string ⟨T.toArray⟩, .int .i64 0, .int .i64 0, .int .i64 0, .int .i64 0], .int .i64 k]) (by simp [results, Tryz.results44, go_sem, k0]) rfl (Or.inl ⟨_, _, _, HC.out, rfl, ?_⟩)
              exact ((((((hb2.trans hb26).setCell hoW _).setCell hoW _).setCell hoW _).setCell hoW _).setCell hoW _).setCell hoW _
            · have HNx := Lib.hid (HNo2.out hF0)
              have hbF2 : (F == 0) = false := by simp [hF0]
              clear HY1 HNo2 hF0
              go_wp2_with fail
              have hk := HK.out
              exact ⟨⟨m + 1, by omega, by omega, by rw [show 10 * (m + 1) - 1 = k + 10 by omega]; go_num, hbr.trans (hb5.trans hb6), HNx⟩, by simp [RowKit.intOf] <;> omega⟩
          · have HNx := Lib.hid (HNo1.out hE0)
            have hbF2 : (E == 0) = false := by simp [hE0]
            clear HYes HNo1 HNo2 hE0 Hr
            go_wp2_with fail
            have hk := HK.out
            exact ⟨⟨m + 1, by omega, by omega, by rw [show 10 * (m + 1) - 1 = k + 10 by omega]; go_num, hbr.trans hb5, HNx⟩, by simp [RowKit.intOf] <;> omega⟩
        · omega
      · have HC := Lib.hid (show codeP zs = none from codeP_none HEan.out (HF.out.trans (from39_end (by rw [← HN.out, ← hk]; exact hkn))))
        have hkn1 : ¬ (k : Int) ≤ (n : Int) := by omega
        have bO4 := HBO.out.bl hbr
        have k0 := bO4.all6'
        clear hk
        go_wp2_with fail
        refine bodyPost_ret (v := .tuple #[.agg #[.int .i64 0, .string ⟨#[]⟩, .int .i64 0, .int .i64 0, .int .i64 0, .int .i64 0], .int .i64 0]) (by simp [results, Tryz.results44, go_sem, k0]) rfl (Or.inr ⟨HC.out, rfl, ?_⟩)
        exact (((((hb2r.setCell hoW _).setCell hoW _).setCell hoW _).setCell hoW _).setCell hoW _).setCell hoW _

end Go.Proofs.YtkipcobpnecmhaaGreatDoor


/-! bedref2.RowOf's closure: runs that are tried as a code. -/
namespace Go.Proofs.YtkipcobpnecmhaaGreatDoor
open Go.RowKit Go.Shelf

def tryAt (zs : List Int) (i many : Nat) (kind : Int) : Option (List UInt8) := if i + many ≤ zs.length then tryC ((zs.drop i).take many) kind else none
def TryRes (ys : Option (List UInt8)) (w : World) (e : Ending) (w' : World) : Prop := ∃ s b, e = .returned (.tuple #[.string ⟨s.toArray⟩, .bool b]) ∧ (b = true → ys = some s) ∧ (b = false → ys = none) ∧ Bl w w'
theorem reads_sub {w : World} {ad : Addr} {zs : List Int} {i m : Nat} (h : Reads w 1 (some ad) zs.length (intCells zs)) (hi : i + m ≤ zs.length) : Reads w 1 (some (ad.add i)) m (intCells ((zs.drop i).take m)) := by
  refine ⟨by unfold intCells; rw [List.length_map, List.length_take, List.length_drop]; omega, fun h0 => ?_⟩
  obtain ⟨ad', e, hc⟩ := h.2 (by omega)
  injection e with e
  subst e
  refine ⟨_, rfl, fun j u hu => ?_⟩
  rw [add_of_add]
  apply hc
  unfold intCells at hu ⊢
  rw [List.map_take, List.map_drop] at hu
  have hj : j < m := by
    have := (List.getElem?_eq_some_iff.1 hu).1
    rw [List.length_take] at this
    omega
  rw [List.getElem?_take_of_lt hj, List.getElem?_drop] at hu
  exact hu

set_option maxRecDepth 100000 in
set_option maxHeartbeats 4000000 in
theorem try1_any (g : Nat) (zs : List Int) (L : Option Addr) (c i many : Nat) (w : World) (hb : Blk w g 68 #[.slice L zs.length c]) (hx : Reads w 1 L zs.length (intCells zs)) (hn : zs.length ≤ 4001) (hc : zs.length ≤ c) (hm : 1 ≤ many) (hm2 : many ≤ 1000000) (hi : i ≤ 1000000) (hT : SpOk w) :
    Calls Tryz.prog 46 #[.int .i64 i, .int .i64 many, .int .i64 1, .pointer (some ⟨g, 0, none⟩)] w (TryRes (tryAt zs i many 1) w) := by
  have HT := Lib.hid hT
  obtain ⟨n, hnn⟩ : ∃ n, n = zs.length := ⟨_, rfl⟩
  have HX := Lib.hid hx
  have HN := Lib.hid hnn
  rw [← hnn] at hn hc hb
  clear hnn hx hT
  have k0 := hb.all1
  by_cases h59 : i + many ≤ n
  · obtain ⟨ad, rfl, -⟩ := HX.out.2 (by rw [← HN.out]; omega)
    have htl : ((zs.drop i).take many).length = many := by rw [List.length_take, List.length_drop, ← HN.out]; omega
    have hu2 := fun wx L2 c2 (hr : Reads wx 1 L2 ((zs.drop i).take many).length (intCells ((zs.drop i).take many))) hc2 => unitsOf_any ((zs.drop i).take many) L2 c2 1 wx hr (by omega) hc2
    rw [htl] at hu2
    have hul : (uM ((zs.drop i).take many) 1).length ≤ 1048576 := by have := uM_len ((zs.drop i).take many) 1; omega
    have hq : tryC ((zs.drop i).take many) 1 = tryAt zs i many 1 := by unfold tryAt; rw [← HN.out, if_pos h59]
    obtain ⟨U, hU⟩ : ∃ U, U = uM ((zs.drop i).take many) 1 := ⟨_, rfl⟩
    obtain ⟨E, hE⟩ : ∃ E, E = unitErr ((zs.drop i).take many) 1 := ⟨_, rfl⟩
    have Hu := Lib.hid (show Calls Tryz.prog 47 #[.slice (some (ad.add i)) many (c - i), .int .i64 1] w (fun e w' => e = .returned (.tuple #[.string ⟨U.toArray⟩, .int .i64 E]) ∧ Bl w w') from by rw [hU, hE]; exact hu2 w _ _ (reads_sub HX.out (by rw [← HN.out]; omega)) (by omega))
    rw [← hU] at hul
    obtain ⟨T, hTT⟩ : ∃ T, T = (eitherG readE U).1 := ⟨_, rfl⟩
    obtain ⟨F, hFF⟩ : ∃ F, F = (eitherG readE U).2 := ⟨_, rfl⟩
    have Hr := Lib.hid (fun wx (hx : Bl w wx) => show Calls Tryz.prog 48 #[.string ⟨U.toArray⟩] wx (fun e w' => e = .returned (.tuple #[.string ⟨T.toArray⟩, .int .i64 F]) ∧ Bl wx w') from by rw [hTT, hFF]; exact readEANOf_any U wx (by omega) (HT.out.bl hx))
    have HYes := Lib.hid (fun (h1 : E = 0) (h2 : F = 0) => show tryAt zs i many 1 = some T from by rw [← hq, tryC_yes (by rw [← hE]; exact h1) (by rw [← hU]; exact hFF.symm.trans h2), ← hU]; exact congrArg some hTT.symm)
    have HNo1 := Lib.hid (fun (h1 : E ≠ 0) => show tryAt zs i many 1 = none from by rw [← hq]; exact tryC_no (by rw [← hE]; exact h1))
    have HNo2 := Lib.hid (fun (h2 : F ≠ 0) => show tryAt zs i many 1 = none from by rw [← hq]; exact tryC_bad (by rw [← hU]; exact fun h => h2 (hFF.trans h)))
    clear hq hU hE hTT hFF hu2 hul htl
    have h59i : ¬ (n : Int) < (i : Int) + (many : Int) := by omega
    go_enter Tryz.func46, Tryz.ntmps46
    go_wp2_with fail
    refine Hu.out.mono ?_
    rintro e w3 ⟨rfl, hb3⟩
    clear Hu
    by_cases hE0 : E = 0
    · subst hE0
      have HY1 := Lib.hid (HYes.out rfl)
      clear HYes HNo1
      go_wp2_with fail
      refine (Hr.out _ hb3).mono ?_
      rintro e w4 ⟨rfl, hb4⟩
      clear Hr
      have hb24 := hb3.trans hb4
      by_cases hF0 : F = 0
      · subst hF0
        have HC := Lib.hid (HY1.out rfl)
        clear HY1 HNo2
        go_wp2_with fail
        refine bodyPost_ret (v := .tuple #[.string ⟨T.toArray⟩, .bool true]) (by simp [results, Tryz.results46, go_sem]) rfl ⟨T, true, rfl, fun _ => HC.out, fun h => (by cases h), hb24⟩
      · have HC := Lib.hid (HNo2.out hF0)
        have hbF : (F == 0) = false := by simp [hF0]
        clear HY1 HNo2 hF0
        go_wp2_with fail
        refine bodyPost_ret (v := .tuple #[.string ⟨T.toArray⟩, .bool false]) (by simp [results, Tryz.results46, go_sem]) rfl ⟨T, false, rfl, fun h => (by cases h), fun _ => HC.out, hb24⟩
    · have HC := Lib.hid (HNo1.out hE0)
      have hbF : (E == 0) = false := by simp [hE0]
      clear HYes HNo1 HNo2 hE0 Hr
      go_wp2_with fail
      refine bodyPost_ret (v := .tuple #[.string ⟨#[]⟩, .bool false]) (by simp [results, Tryz.results46, go_sem]) rfl ⟨[], false, rfl, fun h => (by cases h), fun _ => HC.out, hb3⟩
  · have HC := Lib.hid (show tryAt zs i many 1 = none by unfold tryAt; rw [← HN.out, if_neg h59])
    have h59i : (n : Int) < (i : Int) + (many : Int) := by omega
    go_enter Tryz.func46, Tryz.ntmps46
    go_wp2_with fail
    refine bodyPost_ret (v := .tuple #[.string ⟨#[]⟩, .bool false]) (by simp [results, Tryz.results46, go_sem]) rfl ⟨[], false, rfl, fun h => (by cases h), fun _ => HC.out, Bl.refl _⟩

set_option maxRecDepth 100000 in
set_option maxHeartbeats 4000000 in
theorem try2_any (g : Nat) (zs : List Int) (L : Option Addr) (c i many : Nat) (w : World) (hb : Blk w g 68 #[.slice L zs.length c]) (hx : Reads w 1 L zs.length (intCells zs)) (hn : zs.length ≤ 4001) (hc : zs.length ≤ c) (hm : 1 ≤ many) (hm2 : many ≤ 1000000) (hi : i ≤ 1000000) (hT : SpOk w) :
    Calls Tryz.prog 46 #[.int .i64 i, .int .i64 many, .int .i64 2, .pointer (some ⟨g, 0, none⟩)] w (TryRes (tryAt zs i many 2) w) := by
  have HT := Lib.hid hT
  obtain ⟨n, hnn⟩ : ∃ n, n = zs.length := ⟨_, rfl⟩
  have HX := Lib.hid hx
  have HN := Lib.hid hnn
  rw [← hnn] at hn hc hb
  clear hnn hx hT
  have k0 := hb.all1
  by_cases h59 : i + many ≤ n
  · obtain ⟨ad, rfl, -⟩ := HX.out.2 (by rw [← HN.out]; omega)
    have htl : ((zs.drop i).take many).length = many := by rw [List.length_take, List.length_drop, ← HN.out]; omega
    have hu2 := fun wx L2 c2 (hr : Reads wx 1 L2 ((zs.drop i).take many).length (intCells ((zs.drop i).take many))) hc2 => unitsOf_any ((zs.drop i).take many) L2 c2 2 wx hr (by omega) hc2
    rw [htl] at hu2
    have hul : (uM ((zs.drop i).take many) 2).length ≤ 1048576 := by have := uM_len ((zs.drop i).take many) 2; omega
    have hq : tryC ((zs.drop i).take many) 2 = tryAt zs i many 2 := by unfold tryAt; rw [← HN.out, if_pos h59]
    obtain ⟨U, hU⟩ : ∃ U, U = uM ((zs.drop i).take many) 2 := ⟨_, rfl⟩
    obtain ⟨E, hE⟩ : ∃ E, E = unitErr ((zs.drop i).take many) 2 := ⟨_, rfl⟩
    have Hu := Lib.hid (show Calls Tryz.prog 47 #[.slice (some (ad.add i)) many (c - i), .int .i64 2] w (fun e w' => e = .returned (.tuple #[.string ⟨U.toArray⟩, .int .i64 E]) ∧ Bl w w') from by rw [hU, hE]; exact hu2 w _ _ (reads_sub HX.out (by rw [← HN.out]; omega)) (by omega))
    rw [← hU] at hul
    obtain ⟨T, hTT⟩ : ∃ T, T = (eitherG rd39 U).1 := ⟨_, rfl⟩
    obtain ⟨F, hFF⟩ : ∃ F, F = (eitherG rd39 U).2 := ⟨_, rfl⟩
    have Hr := Lib.hid (fun wx (hx : Bl w wx) => show Calls Tryz.prog 49 #[.string ⟨U.toArray⟩] wx (fun e w' => e = .returned (.tuple #[.string ⟨T.toArray⟩, .int .i64 F]) ∧ Bl wx w') from by rw [hTT, hFF]; exact read39Of_any U wx (by omega) (HT.out.bl hx))
    have HYes := Lib.hid (fun (h1 : E = 0) (h2 : F = 0) => show tryAt zs i many 2 = some T from by rw [← hq, tryC_yes (by rw [← hE]; exact h1) (by rw [← hU]; exact hFF.symm.trans h2), ← hU]; exact congrArg some hTT.symm)
    have HNo1 := Lib.hid (fun (h1 : E ≠ 0) => show tryAt zs i many 2 = none from by rw [← hq]; exact tryC_no (by rw [← hE]; exact h1))
    have HNo2 := Lib.hid (fun (h2 : F ≠ 0) => show tryAt zs i many 2 = none from by rw [← hq]; exact tryC_bad (by rw [← hU]; exact fun h => h2 (hFF.trans h)))
    clear hq hU hE hTT hFF hu2 hul htl
    have h59i : ¬ (n : Int) < (i : Int) + (many : Int) := by omega
    go_enter Tryz.func46, Tryz.ntmps46
    go_wp2_with fail
    refine Hu.out.mono ?_
    rintro e w3 ⟨rfl, hb3⟩
    clear Hu
    by_cases hE0 : E = 0
    · subst hE0
      have HY1 := Lib.hid (HYes.out rfl)
      clear HYes HNo1
      go_wp2_with fail
      refine (Hr.out _ hb3).mono ?_
      rintro e w4 ⟨rfl, hb4⟩
      clear Hr
      have hb24 := hb3.trans hb4
      by_cases hF0 : F = 0
      · subst hF0
        have HC := Lib.hid (HY1.out rfl)
        clear HY1 HNo2
        go_wp2_with fail
        refine bodyPost_ret (v := .tuple #[.string ⟨T.toArray⟩, .bool true]) (by simp [results, Tryz.results46, go_sem]) rfl ⟨T, true, rfl, fun _ => HC.out, fun h => (by cases h), hb24⟩
      · have HC := Lib.hid (HNo2.out hF0)
        have hbF : (F == 0) = false := by simp [hF0]
        clear HY1 HNo2 hF0
        go_wp2_with fail
        refine bodyPost_ret (v := .tuple #[.string ⟨T.toArray⟩, .bool false]) (by simp [results, Tryz.results46, go_sem]) rfl ⟨T, false, rfl, fun h => (by cases h), fun _ => HC.out, hb24⟩
    · have HC := Lib.hid (HNo1.out hE0)
      have hbF : (E == 0) = false := by simp [hE0]
      clear HYes HNo1 HNo2 hE0 Hr
      go_wp2_with fail
      refine bodyPost_ret (v := .tuple #[.string ⟨#[]⟩, .bool false]) (by simp [results, Tryz.results46, go_sem]) rfl ⟨[], false, rfl, fun h => (by cases h), fun _ => HC.out, hb3⟩
  · have HC := Lib.hid (show tryAt zs i many 2 = none by unfold tryAt; rw [← HN.out, if_neg h59])
    have h59i : (n : Int) < (i : Int) + (many : Int) := by omega
    go_enter Tryz.func46, Tryz.ntmps46
    go_wp2_with fail
    refine bodyPost_ret (v := .tuple #[.string ⟨#[]⟩, .bool false]) (by simp [results, Tryz.results46, go_sem]) rfl ⟨[], false, rfl, fun h => (by cases h), fun _ => HC.out, Bl.refl _⟩

end Go.Proofs.YtkipcobpnecmhaaGreatDoor
