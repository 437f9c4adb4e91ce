/- bedref2.VoteOf's closure: the same kind and text. -/
import Derived.Test.YtjelhdpcaileiaaDoorU0
import Derived.Test.YtjelhdpcaileiaaDoorU1
import Derived.Test.YtjelhdpcaileiaaDoorU6

namespace Go.Proofs.YtjelhdpcaileiaaDoor
open Go.RowKit

/-- A code: kind, text, X, Y, W, count. -/
structure Cd where
  k : Int
  t : List UInt8
  X : Int
  Y : Int
  W : Int
  n : Int
def Cd.cells (c : Cd) : List Value := [.int .i64 c.k, .string ⟨c.t.toArray⟩, .int .i64 c.X, .int .i64 c.Y, .int .i64 c.W, .int .i64 c.n]
def cdCells (cs : List Cd) : List Value := cs.flatMap Cd.cells
theorem cdCells_len (ss : List Cd) : (cdCells ss).length = ss.length * 6 := by
  unfold cdCells
  induction ss with
  | nil => rfl
  | cons l ls ih =>
    rw [List.flatMap_cons, List.length_append, ih, List.length_cons]
    show 6 + ls.length * 6 = (ls.length + 1) * 6
    omega
theorem cdCells_at {ls : List Cd} {i : Nat} {l : Cd} (h : ls[i]? = some l) (j : Nat) (hj : j < 6) : (cdCells ls)[i * 6 + j]? = l.cells[j]? := by
  induction ls generalizing i with
  | nil => simp at h
  | cons x ls ih =>
    unfold cdCells
    rw [List.flatMap_cons]
    rcases i with _ | i
    · simp only [List.getElem?_cons_zero, Option.some.injEq] at h
      subst h
      rw [List.getElem?_append_left (by show 0 * 6 + j < 6; omega)]
      simp
    · rw [List.getElem?_append_right (by show 6 ≤ (i + 1) * 6 + j; omega)]
      have e : (i + 1) * 6 + j - x.cells.length = i * 6 + j := by
        show (i + 1) * 6 + j - 6 = i * 6 + j
        omega
      rw [e]
      exact ih (by simpa using h)
theorem cd_at {w : World} {A : Option Addr} {ss : List Cd} {i : Nat} {c : Cd} (h : Reads w 6 A ss.length (cdCells ss)) (hi : ss[i]? = some c) : ∃ ad, A = some ad ∧ w.cell? (ad.add (i * 6)) = some (.int .i64 c.k) ∧ w.cell? ⟨(ad.add (i * 6)).block, (ad.add (i * 6)).off + 1, none⟩ = some (.string ⟨c.t.toArray⟩) ∧ w.cell? ⟨(ad.add (i * 6)).block, (ad.add (i * 6)).off + 2, none⟩ = some (.int .i64 c.X) ∧ w.cell? ⟨(ad.add (i * 6)).block, (ad.add (i * 6)).off + 3, none⟩ = some (.int .i64 c.Y) ∧ w.cell? ⟨(ad.add (i * 6)).block, (ad.add (i * 6)).off + 4, none⟩ = some (.int .i64 c.W) ∧ w.cell? ⟨(ad.add (i * 6)).block, (ad.add (i * 6)).off + 5, none⟩ = some (.int .i64 c.n) := by
  have hlt : i < ss.length := (List.getElem?_eq_some_iff.1 hi).1
  obtain ⟨ad, e, hc⟩ := h.2 (by omega)
  have key : ∀ j v, j < 6 → c.cells[j]? = some v → w.cell? ((ad.add (i * 6)).add j) = some v := fun j v hj hv => by
    rw [add_of_add]
    exact hc _ _ (by rw [cdCells_at hi j hj]; exact hv)
  have k0 := key 0 _ (by omega) rfl
  have k1 := key 1 _ (by omega) rfl
  have k2 := key 2 _ (by omega) rfl
  have k3 := key 3 _ (by omega) rfl
  have k4 := key 4 _ (by omega) rfl
  have k5 := key 5 _ (by omega) rfl
  rw [Addr.add_zero'] at k0
  rw [Addr.add_succ'] at k1 k2 k3 k4 k5
  exact ⟨ad, e, k0, k1, k2, k3, k4, k5⟩
theorem Blk.all6' {w : World} {g : Nat} {t : TypeId} {a b c d e f : Value} (k : Blk w g t #[a, b, c, d, e, f]) : w.cell? ⟨g, 0, none⟩ = some a ∧ w.cell? ⟨g, 1, none⟩ = some b ∧ w.cell? ⟨g, 2, none⟩ = some c ∧ w.cell? ⟨g, 3, none⟩ = some d ∧ w.cell? ⟨g, 4, none⟩ = some e ∧ w.cell? ⟨g, 5, none⟩ = some f ∧ ∀ i, w.frozen? ⟨g, i, none⟩ = false :=
  ⟨k.cell 0, k.cell 1, k.cell 2, k.cell 3, k.cell 4, k.cell 5, k.frozen⟩
def cdRange (c : Cd) : Bool := inB c.X 0 4000 && (inB c.Y 0 4000 && (inB c.W 0 4000 && inB c.n 1 1000000))
def cdErr (c : Cd) : Int := if c.k ≠ 1 ∧ c.k ≠ 2 then 1 else if cdRange c = false then 3 else 0
def voteErr (cs : List Cd) : Int := if firstNZ (cs.map cdErr) = 0 then whenI (decide (10000 < (cs.length : Int))) 4 else firstNZ (cs.map cdErr)
theorem firstNZ_at {α : Type} (f : α → Int) : ∀ (l : List α) (i : Nat) (x : α), firstNZ ((l.take i).map f) = 0 → l[i]? = some x → f x ≠ 0 → firstNZ (l.map f) = f x
  | [], i, x, _, h, _ => by simp at h
  | y :: l, 0, x, _, h, hx => by
    simp only [List.getElem?_cons_zero, Option.some.injEq] at h
    subst h
    show (if f y = 0 then _ else f y) = f y
    rw [if_neg hx]
  | y :: l, i + 1, x, h0, h, hx => by
    have h1 : (if f y = 0 then firstNZ ((l.take i).map f) else f y) = 0 := h0
    by_cases hy : f y = 0
    · rw [if_pos hy] at h1
      show (if f y = 0 then firstNZ (l.map f) else f y) = f x
      rw [if_pos hy]
      exact firstNZ_at f l i x h1 (by simpa using h) hx
    · rw [if_neg hy] at h1
      exact absurd h1 hy
theorem firstNZ_step {α : Type} (f : α → Int) : ∀ (l : List α) (i : Nat) (x : α), firstNZ ((l.take i).map f) = 0 → l[i]? = some x → f x = 0 → firstNZ ((l.take (i + 1)).map f) = 0
  | [], i, x, _, h, _ => by simp at h
  | y :: l, 0, x, _, h, hx => by
    simp only [List.getElem?_cons_zero, Option.some.injEq] at h
    subst h
    show (if f y = 0 then firstNZ ((l.take 0).map f) else f y) = 0
    rw [if_pos hx]
    rfl
  | y :: l, i + 1, x, h0, h, hx => by
    have h1 : (if f y = 0 then firstNZ ((l.take i).map f) else f y) = 0 := h0
    by_cases hy : f y = 0
    · rw [if_pos hy] at h1
      show (if f y = 0 then firstNZ ((l.take (i + 1)).map f) else f y) = 0
      rw [if_pos hy]
      exact firstNZ_step f l i x h1 (by simpa using h) hx
    · rw [if_neg hy] at h1
      exact absurd h1 hy

set_option maxRecDepth 100000 in
set_option maxHeartbeats 4000000 in
theorem voteError_any (A : Option Addr) (d : Nat) (cs : List Cd) (w : World) (hx : Reads w 6 A cs.length (cdCells cs)) (hl : cs.length ≤ 9223372036854775807) :
    Calls Tryd.prog 62 #[.slice A cs.length d] w fun e w' => e = .returned (.int .i64 (voteErr cs)) ∧ Bl w w' := by
  have HX := Lib.hid hx
  clear hx
  go_enter Tryd.func62, Tryd.ntmps62
  go_wp2_with fail
  go_loopw [7] (fun u wr => ∃ i : Nat, i ≤ cs.length ∧ u = .int .i64 i ∧ Bl w wr ∧ Hid (firstNZ ((cs.take i).map cdErr) = 0)) (fun u _ => cs.length - (RowKit.intOf u).toNat)
  case atStart => exact ⟨0, Nat.zero_le _, rfl, Bl.refl _, Lib.hid rfl⟩
  case round =>
    obtain ⟨i, hi, rfl, hbr, H0⟩ := hrel
    by_cases hlt : i < cs.length
    · obtain ⟨c, hc⟩ : ∃ c, cs[i]? = some c := ⟨_, List.getElem?_eq_getElem hlt⟩
      obtain ⟨ad, rfl, k0, k1, k2, k3, k4, k5⟩ := cd_at (HX.out.bl hbr) hc
      have HBad := Lib.hid (fun (h : cdErr c ≠ 0) => (show voteErr cs = cdErr c by unfold voteErr; rw [firstNZ_at cdErr cs i c H0.out hc h, if_neg h]))
      have HGood := Lib.hid (fun (h : cdErr c = 0) => firstNZ_step cdErr cs i c H0.out hc h)
      have hin : (i : Int) < (cs.length : Int) := by omega
      clear hc
      go_upto_region 4 with fail
      obtain ⟨w5, hw5⟩ : ∃ x, x = wr.alloc (.cells #[.int .i64 c.k, .string ⟨c.t.toArray⟩, .int .i64 c.X, .int .i64 c.Y, .int .i64 c.W, .int .i64 c.n] 106) := ⟨_, rfl⟩
      obtain ⟨o, ho⟩ : ∃ x, x = wr.heap.size := ⟨_, rfl⟩
      have bO : Blk w5 o 106 #[.int .i64 c.k, .string ⟨c.t.toArray⟩, .int .i64 c.X, .int .i64 c.Y, .int .i64 c.W, .int .i64 c.n] := by rw [hw5, ho]; exact Blk.new _ _ _
      have hb5 : Bl w w5 := by rw [hw5]; exact hbr.alloc _
      rw [← hw5, ← ho]
      clear hw5 ho k0 k1 k2 k3 k4 k5
      have kO := bO.all6'
      obtain ⟨kb, hkb⟩ : ∃ b, b = decide (c.k ≠ 1 ∧ c.k ≠ 2) := ⟨_, rfl⟩
      have HKb := Lib.hid hkb
      clear hkb
      go_cut [18] from 11 to 18 (fun s18 wc => s18 = .bool kb ∧ wc = w5)
      case first =>
        by_cases hk1 : c.k = 1
        · have h1 : (c.k != 1) = false := by rw [bne_eq_false_iff_eq]; exact hk1
          have HV := Lib.hid (show kb = false by rw [HKb.out]; exact decide_eq_false (fun h => h.1 hk1))
          clear hk1
          go_wp2_with fail
          go_meet
          case rel => exact ⟨by rw [HV.out], rfl⟩
        · have h1 : (c.k != 1) = true := by rw [bne_iff_ne]; exact hk1
          by_cases hk2 : c.k = 2
          · have h2 : (c.k != 2) = false := by rw [bne_eq_false_iff_eq]; exact hk2
            have HV := Lib.hid (show kb = false by rw [HKb.out]; exact decide_eq_false (fun h => h.2 hk2))
            clear hk1 hk2
            go_wp2_with fail
            go_meet
            case rel => exact ⟨by rw [HV.out], rfl⟩
          · have h2 : (c.k != 2) = true := by rw [bne_iff_ne]; exact hk2
            have HV := Lib.hid (show kb = true by rw [HKb.out]; exact decide_eq_true ⟨hk1, hk2⟩)
            clear hk1 hk2
            go_wp2_with fail
            go_meet
            case rel => exact ⟨by rw [HV.out], rfl⟩
      case rest =>
        obtain ⟨rfl, rfl⟩ := hcut
        rename World => w5
        cases kb with
        | true =>
          have hk := of_decide_eq_true HKb.out.symm
          have HE := Lib.hid (show voteErr cs = 1 by rw [HBad.out (by unfold cdErr; rw [if_pos hk]; decide)]; unfold cdErr; rw [if_pos hk])
          clear hk
          go_wp2_with fail
          refine bodyPost_ret (v := .int .i64 1) (by simp [results, Tryd.results62, go_sem]) rfl ⟨by rw [HE.out], hb5⟩
        | false =>
          have hk := of_decide_eq_false HKb.out.symm
          have HErr := Lib.hid (show cdErr c = if cdRange c = false then 3 else 0 by unfold cdErr; rw [if_neg hk])
          clear hk
          cases hX : inB c.X 0 4000
          · have hR : cdRange c = false := by unfold cdRange; rw [hX]; rfl
            have HE := Lib.hid (show voteErr cs = 3 by rw [HBad.out (by rw [HErr.out, hR]; decide), HErr.out, hR]; rfl)
            clear hR
            go_wp2_with fail
            refine (in_any _ _ _ _).mono ?_
            rintro e w' ⟨rfl, rfl⟩
            go_wp2_with fail
            refine bodyPost_ret (v := .int .i64 3) (by simp [results, Tryd.results62, go_sem]) rfl ⟨by rw [HE.out], hb5⟩
          · cases hY : inB c.Y 0 4000
            · have hR : cdRange c = false := by unfold cdRange; rw [hX, hY]; rfl
              have HE := Lib.hid (show voteErr cs = 3 by rw [HBad.out (by rw [HErr.out, hR]; decide), HErr.out, hR]; rfl)
              clear hR
              go_wp2_with fail
              refine (in_any _ _ _ _).mono ?_
              rintro e w' ⟨rfl, rfl⟩
              go_wp2_with fail
              refine (in_any _ _ _ _).mono ?_
              rintro e w' ⟨rfl, rfl⟩
              go_wp2_with fail
              refine bodyPost_ret (v := .int .i64 3) (by simp [results, Tryd.results62, go_sem]) rfl ⟨by rw [HE.out], hb5⟩
            · cases hW : inB c.W 0 4000
              · have hR : cdRange c = false := by unfold cdRange; rw [hX, hY, hW]; rfl
                have HE := Lib.hid (show voteErr cs = 3 by rw [HBad.out (by rw [HErr.out, hR]; decide), HErr.out, hR]; rfl)
                clear hR
                go_wp2_with fail
                refine (in_any _ _ _ _).mono ?_
                rintro e w' ⟨rfl, rfl⟩
                go_wp2_with fail
                refine (in_any _ _ _ _).mono ?_
                rintro e w' ⟨rfl, rfl⟩
                go_wp2_with fail
                refine (in_any _ _ _ _).mono ?_
                rintro e w' ⟨rfl, rfl⟩
                go_wp2_with fail
                refine bodyPost_ret (v := .int .i64 3) (by simp [results, Tryd.results62, go_sem]) rfl ⟨by rw [HE.out], hb5⟩
              · cases hn : inB c.n 1 1000000
                · have hR : cdRange c = false := by unfold cdRange; rw [hX, hY, hW, hn]; rfl
                  have HE := Lib.hid (show voteErr cs = 3 by rw [HBad.out (by rw [HErr.out, hR]; decide), HErr.out, hR]; rfl)
                  clear hR
                  go_wp2_with fail
                  refine (in_any _ _ _ _).mono ?_
                  rintro e w' ⟨rfl, rfl⟩
                  go_wp2_with fail
                  refine (in_any _ _ _ _).mono ?_
                  rintro e w' ⟨rfl, rfl⟩
                  go_wp2_with fail
                  refine (in_any _ _ _ _).mono ?_
                  rintro e w' ⟨rfl, rfl⟩
                  go_wp2_with fail
                  refine (in_any _ _ _ _).mono ?_
                  rintro e w' ⟨rfl, rfl⟩
                  go_wp2_with fail
                  refine bodyPost_ret (v := .int .i64 3) (by simp [results, Tryd.results62, go_sem]) rfl ⟨by rw [HE.out], hb5⟩
                · have HG2 := Lib.hid (HGood.out (by rw [HErr.out]; unfold cdRange; rw [hX, hY, hW, hn]; rfl))
                  go_wp2_with fail
                  refine (in_any _ _ _ _).mono ?_
                  rintro e w' ⟨rfl, rfl⟩
                  go_wp2_with fail
                  refine (in_any _ _ _ _).mono ?_
                  rintro e w' ⟨rfl, rfl⟩
                  go_wp2_with fail
                  refine (in_any _ _ _ _).mono ?_
                  rintro e w' ⟨rfl, rfl⟩
                  go_wp2_with fail
                  refine (in_any _ _ _ _).mono ?_
                  rintro e w' ⟨rfl, rfl⟩
                  go_wp2_with fail
                  exact ⟨⟨i + 1, hlt, by go_num, hb5, HG2⟩, by simp [RowKit.intOf] <;> omega⟩
    · obtain rfl : i = cs.length := by omega
      have h0 := H0.out
      rw [List.take_length] at h0
      have HE := Lib.hid (show voteErr cs = whenI (decide (10000 < (cs.length : Int))) 4 by unfold voteErr; rw [if_pos h0])
      clear h0
      go_wp2_with fail
      refine (when_any _ _ _).mono ?_
      rintro e w' ⟨rfl, rfl⟩
      go_wp2_with fail
      go_ret
      exact ⟨ret_int HE.out.symm, hbr⟩

end Go.Proofs.YtjelhdpcaileiaaDoor


/-! bar.Vote's closure side; cmp.Or of ints. -/
namespace Go.Proofs.YtjelhdpcaileiaaDoor
open Go.RowKit

set_option maxHeartbeats 400000 in
theorem side_any (n : Int) (w : World) :
    Calls Tryd.prog 138 #[.int .i64 n] w fun e w' => e = .returned (.bool (inB n 0 4000)) ∧ w = w' := by
  unfold inB
  by_cases h1 : 0 ≤ n <;> by_cases h2 : n ≤ 4000
  all_goals
    go_enter Tryd.func138, Tryd.ntmps138
    go_wp2
    go_ret
    exact ⟨by simp [*], rfl⟩
set_option maxRecDepth 100000 in
set_option maxHeartbeats 1000000 in
theorem cmpOr_any (A : Option Addr) (c : Nat) (zs : List Int) (w : World) (hx : Reads w 1 A zs.length (zs.map (.int .i64))) (hl : zs.length ≤ 1000) :
    Calls Tryd.prog 144 #[.slice A zs.length c] w fun e w' => e = .returned (.int .i64 (firstNZ zs)) ∧ w = w' := by
  have HX := Lib.hid hx
  clear hx
  go_enter Tryd.func144, Tryd.ntmps144
  go_wp2_with fail
  go_loopw [8] (fun v wr => ∃ i : Nat, i ≤ zs.length ∧ v = .int .i64 i ∧ wr = w ∧ Hid (firstNZ ((zs.take i).map id) = 0)) (fun v _ => zs.length - (RowKit.intOf v).toNat)
  case atStart => exact ⟨0, Nat.zero_le _, rfl, by trivial, Lib.hid rfl⟩
  case round =>
    obtain ⟨i, hi, rfl, rfl, H0⟩ := hrel
    by_cases hlt : i < zs.length
    · obtain ⟨z, hz⟩ : ∃ z, zs[i]? = some z := ⟨_, List.getElem?_eq_getElem hlt⟩
      obtain ⟨ad, u, rfl, hu, hc⟩ := HX.out.at_ hlt
      rw [List.getElem?_map, hz] at hu
      obtain rfl := Option.some.inj hu
      have hin : (i : Int) < (zs.length : Int) := by omega
      by_cases h0 : z = 0
      · have HG := Lib.hid (firstNZ_step id zs i z H0.out hz h0)
        subst h0
        clear hz
        go_wp2_with fail
        exact ⟨⟨i + 1, hlt, by go_num, by trivial, HG⟩, by simp [RowKit.intOf] <;> omega⟩
      · have HE := Lib.hid (show firstNZ zs = z by have h := firstNZ_at id zs i z H0.out hz h0; rwa [List.map_id] at h)
        have hq : (z != 0) = true := by rw [bne_iff_ne]; exact h0
        clear hz h0
        go_wp2_with fail
        refine bodyPost_ret (v := .int .i64 z) (by simp [results, Tryd.results144, go_sem]) rfl ⟨by rw [HE.out], rfl⟩
    · obtain rfl : i = zs.length := by omega
      have h0 := H0.out
      rw [List.take_length, List.map_id] at h0
      have HE := Lib.hid h0
      clear h0
      go_wp2_with fail
      go_ret
      exact ⟨ret_int HE.out.symm, rfl⟩

end Go.Proofs.YtjelhdpcaileiaaDoor


/-! bedref2.VoteOf's closure: the same kind and text. -/
namespace Go.Proofs.YtjelhdpcaileiaaDoor
open Go.RowKit

def sameKey (c e : Cd) : Bool := decide (e.k = c.k) && decide (e.t = c.t)
set_option maxRecDepth 100000 in
set_option maxHeartbeats 1000000 in
theorem voteOf1_any (g : Nat) (c e : Cd) (w : World) (hb : Blk w g 106 #[.int .i64 c.k, .string ⟨c.t.toArray⟩, .int .i64 c.X, .int .i64 c.Y, .int .i64 c.W, .int .i64 c.n]) :
    Calls Tryd.prog 142 #[.agg #[.int .i64 e.k, .string ⟨e.t.toArray⟩, .int .i64 e.X, .int .i64 e.Y, .int .i64 e.W, .int .i64 e.n], .pointer (some ⟨g, 0, none⟩)] w fun r w' => r = .returned (.bool (sameKey c e)) ∧ Bl w w' := by
  have kb := hb.all6'
  have lb := hb.lt
  by_cases h1 : e.k = c.k
  · have hq : (e.k == c.k) = true := by simp [h1]
    have HV := Lib.hid (show sameKey c e = decide (e.t = c.t) by unfold sameKey; rw [decide_eq_true h1, Bool.true_and])
    clear h1
    go_enter Tryd.func142, Tryd.ntmps142
    go_wp2_with fail
    go_ret
    exact ⟨ret_bool (by rw [HV.out, Bool.eq_iff_iff, beq_iff_eq, decide_eq_true_eq]), by first | exact (Bl.refl _).alloc _ | exact ((Bl.refl _).alloc _).drew⟩
  · have hq : (e.k == c.k) = false := by simp [h1]
    have HV := Lib.hid (show sameKey c e = false by unfold sameKey; rw [decide_eq_false h1, Bool.false_and])
    clear h1
    go_enter Tryd.func142, Tryd.ntmps142
    go_wp2_with fail
    go_ret
    exact ⟨ret_bool HV.out.symm, by first | exact (Bl.refl _).alloc _ | exact ((Bl.refl _).alloc _).drew⟩

end Go.Proofs.YtjelhdpcaileiaaDoor
