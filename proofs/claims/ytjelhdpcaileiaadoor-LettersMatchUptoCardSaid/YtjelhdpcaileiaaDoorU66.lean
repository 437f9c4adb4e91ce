/- The law LettersMatch answers true. -/
import Derived.Test.YtjelhdpcaileiaaDoorU65

namespace Go.Proofs.YtjelhdpcaileiaaDoor
open Go.RowKit Go.Shelf Go.Sort

def t39 (s : List UInt8) : List UInt8 × Bool := match outR s with
  | none => ([], false)
  | some t => if shpT t = true then (midT t, true) else ([], false)
theorem t39_none {s : List UInt8} (h : outR s = none) : t39 s = ([], false) := by unfold t39; rw [h]
theorem t39_shape {s t : List UInt8} (h : outR s = some t) (hs : shpT t = false) : t39 s = ([], false) := by unfold t39; rw [h]; simp only [hs]; rfl
theorem t39_some {s t : List UInt8} (h : outR s = some t) (hs : shpT t = true) : t39 s = (midT t, true) := by unfold t39; rw [h]; simp only [hs]; rfl
/-- Whether letter k stands at a place. -/
def hit (m : List UInt8) (i k : Nat) : Bool := Lib.hasPrefix (m.drop i) (modK k) && (decide (i + 15 = m.length) || (m.getD (i + 15) 0 == 48))
/-- The letter found of the first n. -/
def fnd (m : List UInt8) (i : Nat) : Nat → Int × Int
  | 0 => (-1, 0)
  | n + 1 => if hit m i n = true then ((n : Int), 15) else fnd m i n
theorem prefix_take {l p : List UInt8} {n : Nat} (hp : p.length = n) : Lib.hasPrefix l p = true ↔ l.take n = p := by
  unfold Lib.hasPrefix
  rw [List.isPrefixOf_iff_prefix]
  constructor
  · rintro ⟨r, rfl⟩
    rw [List.take_left' hp]
  · intro h
    rw [← h]
    exact List.take_prefix _ _
theorem hit_iff {m : List UInt8} {j k : Nat} (hk : k < 44) : hit m (16 * j) k = true ↔ (m.length = 16 * j + 15 ∨ m[16 * j + 15]? = some 48) ∧ (m.drop (16 * j)).take 15 = modK k := by
  unfold hit
  rw [Bool.and_eq_true, prefix_take (modK_all k hk).1, Bool.or_eq_true, decide_eq_true_eq, beq_iff_eq]
  constructor
  · rintro ⟨h1, h2⟩
    refine ⟨?_, h1⟩
    rcases h2 with h2 | h2
    · exact .inl h2.symm
    · refine .inr ?_
      have : 16 * j + 15 < m.length := by
        rcases Nat.lt_or_ge (16 * j + 15) m.length with h | h
        · exact h
        · rw [List.getD_eq_getElem?_getD, List.getElem?_eq_none h] at h2
          cases h2
      rw [List.getD_eq_getElem?_getD, List.getElem?_eq_getElem this] at h2
      rw [List.getElem?_eq_getElem this]
      exact congrArg some h2
  · rintro ⟨h1, h2⟩
    refine ⟨h2, ?_⟩
    rcases h1 with h1 | h1
    · exact .inl h1.symm
    · refine .inr ?_
      rw [List.getD_eq_getElem?_getD, h1]
      rfl
theorem fnd_spec (m : List UInt8) (j : Nat) : ∀ n, n ≤ 44 → fnd m (16 * j) n = match (List.range n).find? (fun k => hit m (16 * j) k) with | some k => ((k : Int), 15) | none => (-1, 0)
  | 0, _ => rfl
  | n + 1, hn => by
    have ih := fnd_spec m j n (by omega)
    rw [List.range_succ, List.find?_append]
    unfold fnd
    by_cases h : hit m (16 * j) n = true
    · rw [if_pos h]
      have hno : (List.range n).find? (fun k => hit m (16 * j) k) = none := by
        rw [List.find?_eq_none]
        intro k hk hh
        have hk' := List.mem_range.1 hk
        have h1 := ((hit_iff (m := m) (j := j) (show k < 44 by omega)).1 hh).2
        have h2 := ((hit_iff (m := m) (j := j) (show n < 44 by omega)).1 h).2
        have := modK_inj k (by omega) n (by omega) (h1.symm.trans h2)
        omega
      rw [hno, Option.none_or, List.find?_cons_of_pos h]
    · rw [if_neg h, ih]
      cases (List.range n).find? (fun k => hit m (16 * j) k) with
      | some k => rfl
      | none =>
        rw [Option.none_or, List.find?_cons_of_neg h]
        rfl
theorem fnd_gR (m : List UInt8) (j : Nat) : fnd m (16 * j) 44 = match gR m j with | some k => ((k : Int), 15) | none => (-1, 0) := by
  rw [fnd_spec m j 44 (Nat.le_refl _)]
  cases hf : (List.range 44).find? (fun k => hit m (16 * j) k) with
  | some k =>
    obtain ⟨h1, h2⟩ := find_range hf
    obtain ⟨h3, h4⟩ := (hit_iff h1).1 h2
    rw [(gR_iff m j k).2 ⟨h3, h1, h4⟩]
  | none =>
    cases hg : gR m j with
    | none => rfl
    | some k =>
      obtain ⟨h3, h1, h4⟩ := (gR_iff m j k).1 hg
      have := List.find?_eq_none.1 hf k (List.mem_range.2 h1)
      exact absurd ((hit_iff h1).2 ⟨h3, h4⟩) this
theorem partsR_step {m : List UInt8} {j : Nat} {ks : List Nat} {k : Nat} (h : partsR m j = some ks) (hg : gR m j = some k) : partsR m (j + 1) = some (ks ++ [k]) := by
  rw [partsR_eq] at h ⊢
  exact partsG_some h hg
theorem partsR_lt {m : List UInt8} {j : Nat} {ks : List Nat} (h : partsR m j = some ks) : ks.length = j ∧ ∀ k ∈ ks, k < 44 := by
  rw [partsR_eq, partsG_iff] at h
  refine ⟨h.1, fun k hk => ?_⟩
  obtain ⟨i, hi, rfl⟩ := List.getElem_of_mem hk
  exact ((gR_iff _ _ _).1 (h.2 i _ (List.getElem?_eq_getElem hi))).2.1
/-- A group that is none: no code; for there is no end before it. -/
theorem decM_none {m : List UInt8} {j : Nat} (hj : 16 * j < m.length ∨ j = 0) (hg : gR m j = none) : decM m = none := by
  unfold decM
  by_cases h : (m.length + 1) % 16 = 0
  · rw [if_pos h, partsR_eq]
    exact partsG_none_of (by omega) hg
  · rw [if_neg h]
theorem decM_end {m : List UInt8} {j : Nat} (hj : m.length = 16 * j) : decM m = none := by
  unfold decM
  rw [if_neg (by omega)]
set_option maxRecDepth 1000000 in
set_option maxHeartbeats 16000000 in
theorem text39_any (s : List UInt8) (w : World) (hl : s.length ≤ 1048576) (hT : SpOk w) :
    Calls Tryd.prog 151 #[.string ⟨s.toArray⟩] w fun e w' => e = .returned (.tuple #[.string ⟨(t39 s).1.toArray⟩, .bool (t39 s).2]) ∧ Bl w w' := by
  have HT := Lib.hid hT
  have Ht := Lib.hid (trim_any s [48, 49] w (by omega) (by decide) (by
    intro j b h
    have : ∀ b ∈ ([48, 49] : List UInt8), b.toNat < 128 := by decide
    exact this b (List.mem_of_getElem? h)))
  have hsz : (⟨s.toArray⟩ : ByteArray).size = s.length := Lib.size_mk s
  clear hT
  go_enter Tryd.func151, Tryd.ntmps151
  cases hmd : madeOf s [48, 49] with
  | false =>
    have htr : (Lib.trimS s [48, 49]).isEmpty = false := by rw [trim_made, hmd]
    have HR := Lib.hid (t39_none (outR_not hmd))
    clear hmd
    go_wp2_with fail
    refine Ht.out.mono ?_
    rintro e w1 ⟨rfl, hb1⟩
    go_wp2_with fail
    exact bodyPost_ret (v := .tuple #[.string ⟨#[]⟩, .bool false]) (by simp [results, Tryd.results151, go_sem]) rfl ⟨by rw [HR.out], hb1⟩
  | true =>
    have htr : (Lib.trimS s [48, 49]).isEmpty = true := by rw [trim_made, hmd]
    have HO := Lib.hid (outR_made hmd)
    clear hmd
    go_wp2_with fail
    refine Ht.out.mono ?_
    rintro e w1 ⟨rfl, hb1⟩
    have HB1 := Lib.hid hb1
    clear hb1 Ht
    go_wp2_with fail
    go_loopw [4, 5] (fun s4 s5 wr => ∃ (j : Nat) (ks : List Nat), (16 * j < s.length ∨ j = 0) ∧ s5 = .int .i64 ((16 * j : Nat) : Int) ∧ partsR s j = some ks ∧ s4 = .string ⟨(txt ks).toArray⟩ ∧ Bl w1 wr) (fun _ v _ => s.length + 16 - (RowKit.intOf v).toNat)
    case atStart => exact ⟨0, [], .inr rfl, rfl, rfl, rfl, Bl.refl _⟩
    case round =>
      rename World => wr
      obtain ⟨j, ks, hj, rfl, hps, rfl, hbr⟩ := hrel
      obtain ⟨hkl, hk44⟩ := partsR_lt hps
      obtain ⟨i, hi⟩ : ∃ i, i = 16 * j := ⟨_, rfl⟩
      have his : i ≤ s.length := by omega
      have hfin := fnd_gR s j
      rw [← hi] at hj hfin ⊢
      have HPs := Lib.hid hps; have HBr := Lib.hid hbr; have HI := Lib.hid hi; have HK44 := Lib.hid hk44; have HFin := Lib.hid hfin; have HJ := Lib.hid hj
      have htl := txt_len ks
      obtain ⟨T, hTx⟩ : ∃ T, T = txt ks := ⟨_, rfl⟩
      rw [← hTx] at htl ⊢
      have HTx := Lib.hid hTx
      have hTl : T.length ≤ 1048576 := by omega
      clear hps hbr hTx hk44 hfin hj hi hkl htl
      have Hw := Lib.hid (wide39_any wr (HT.out.bl (HB1.out.trans HBr.out)))
      go_wp2_with fail
      refine Hw.out.mono ?_
      rintro e w2 ⟨gp, rfl, hr2, hb2⟩
      have HR2 := Lib.hid hr2; have HB2 := Lib.hid hb2
      clear hr2 hb2 Hw
      go_wp2_with fail
      go_loopw [6, 7, 19] (fun s6 s7 s19 wx => ∃ n : Nat, n ≤ 44 ∧ s19 = .int .i64 (n : Int) ∧ s6 = .int .i64 (fnd s i n).1 ∧ s7 = .int .i64 (fnd s i n).2 ∧ Bl w2 wx) (fun _ _ v _ => 44 - (RowKit.intOf v).toNat)
      case atStart => exact ⟨0, Nat.zero_le _, rfl, rfl, rfl, Bl.refl _⟩
      case round =>
        rename World => w5
        obtain ⟨k, hk, rfl, rfl, rfl, hb5⟩ := hrel
        by_cases hk44 : k < 44
        · obtain ⟨q, hq⟩ : ∃ q, q = pieceK k := ⟨_, rfl⟩
          have HQ := Lib.hid hq
          obtain ⟨adp, eap, cp0⟩ := str_at (HR2.out.bl hb5) (hq ▸ pieceC_at k hk44)
          obtain rfl := Option.some.inj eap
          rw [add_flat] at cp0
          have hkI : (k : Int) < (pieceC.length : Int) := by show (k : Int) < 44; omega
          have hst : fnd s i (k + 1) = if hit s i k = true then ((k : Int), 15) else fnd s i k := rfl
          obtain ⟨f1, hf1⟩ : ∃ f, f = (fnd s i k).1 := ⟨_, rfl⟩
          obtain ⟨f2, hf2⟩ : ∃ f, f = (fnd s i k).2 := ⟨_, rfl⟩
          rw [← hf1, ← hf2]
          have HF1 := Lib.hid hf1; have HF2 := Lib.hid hf2; have HSf := Lib.hid hst
          have HB5 := Lib.hid hb5
          clear hq hst hf1 hf2
          go_upto_region 12 with fail
          have hsq : (⟨q.toArray⟩ : ByteArray).size = 9 := by rw [Lib.size_mk, HQ.out]; exact (modK_all k hk44).2.2.2
          obtain ⟨K, hK⟩ : ∃ K, K = w5.heap.size := ⟨_, rfl⟩
          obtain ⟨w6, hw6⟩ : ∃ x, x = w5.iter ⟨q.toArray⟩ 0 := ⟨_, rfl⟩
          have hit : w6.heap[K]? = some (.stringIter ⟨q.toArray⟩ 0) := by
            rw [hw6, hK]
            exact heap_alloc_new w5 (.stringIter ⟨q.toArray⟩ 0)
          have hb6 : Bl w5 w6 := by rw [hw6]; exact (Bl.refl w5).alloc _
          rw [← hw6]
          try rw [← hK]
          have HK := Lib.hid hK
          have Hst0 := Lib.hid (And.intro hit hb6)
          clear hw6 hK hit hb6
          go_wp2_with fail
          go_loopw [10] (fun s6 wi => ∃ j : Nat, j ≤ 9 ∧ s6 = .string ⟨(modFrom 0 (q.take j)).toArray⟩ ∧ wi.heap[K]? = some (.stringIter ⟨q.toArray⟩ j) ∧ Bl w5 wi) (fun _ wi => 9 - wi.iterPos K)
          case atStart => exact ⟨0, Nat.zero_le _, rfl, Hst0.out⟩
          case round =>
            rename World => wi
            obtain ⟨j, hj, rfl, hit, hbi⟩ := hrel
            by_cases hjt : j < 9
            · have hjh : j < (⟨q.toArray⟩ : ByteArray).size := by rw [hsq]; exact hjt
              have hgj := Lib.getElem_mk q j hjh
              obtain ⟨p, hp⟩ : ∃ p, p = (⟨q.toArray⟩ : ByteArray)[j]'hjh := ⟨_, rfl⟩
              rw [← hp] at hgj
              obtain ⟨p', hp', hp2⟩ := piece_at hk44 hjt
              rw [← HQ.out, hgj] at hp'
              obtain rfl := Option.some.inj hp'
              have hnx0 := fun ty => Lib.run_next_ascii_at (P := Tryd.prog) wi K ⟨q.toArray⟩ j ty hit hjh (by rw [← hp]; rcases hp2 with rfl | rfl <;> decide)
              have h7b : Bl w5 (wi.iterAt K ⟨q.toArray⟩ (j + 1)) := Lib.below_iterAt hbi (k := K) (by have := HK.out; omega) _ _
              have h7i := Lib.iterAt_heap wi K ⟨q.toArray⟩ j (j + 1) hit
              rw [← hp] at hnx0
              generalize wi.iterAt K ⟨q.toArray⟩ (j + 1) = w7 at hnx0 h7b h7i
              have hnx : ∀ ty, (Instr.next (.pointer (some ⟨K, 0, none⟩)) true ty).run Tryd.prog wi = .ok (.tuple #[.bool true, .int .i64 (j : Int), .int .i32 (p.toNat : Int)]) w7 := hnx0
              have hms := modFrom_take hgj
              have hml := modFrom_len (q.take j) 0
              rw [List.length_take] at hml
              obtain ⟨M, hM⟩ : ∃ M, M = modFrom 0 (q.take j) := ⟨_, rfl⟩
              rw [← hM] at hms hml ⊢
              have hMl : M.length ≤ 27 := by omega
              have hsM : (⟨M.toArray⟩ : ByteArray).size = M.length := Lib.size_mk M
              have HMs := Lib.hid hms
              have HN := Lib.hid (And.intro h7i h7b); have Hit := Lib.hid hit
              have ht0 := ten0; have ht1 := ten1
              clear hms hM hml hp hnx0 h7b h7i hit hbi hgj hp'
              by_cases hpar : j % 2 = 0
              · rcases hp2 with rfl | rfl
                · have HB := Lib.hid (show bitAt j = 49 by unfold bitAt; rw [if_pos hpar])
                  have hmr : (j : Int) % 2 = 0 := by omega
                  have hrep := fun wx => repeat_any 49 (.inr rfl) 3 (by decide) (by decide) wx
                  obtain ⟨rp, hrp⟩ : ∃ r, r = List.replicate 3 (49 : UInt8) := ⟨_, rfl⟩
                  have hrl : rp.length = 3 := by rw [hrp]; rfl
                  simp only [← hrp] at hrep
                  have Hrep := Lib.hid hrep
                  have HRp := Lib.hid hrp
                  have hsR : (⟨rp.toArray⟩ : ByteArray).size = rp.length := Lib.size_mk rp
                  have hoR : ¬ (9223372036854775807 < M.length + rp.length) := by omega
                  have hcat := cat_two M rp
                  clear hrep hrp
                  go_wp2_with fail
                  refine (Hrep.out _).mono ?_
                  rintro e w8 ⟨rfl, hb8⟩
                  have hkl : K < w7.heap.size := (Array.getElem?_eq_some_iff.1 HN.out.1).1
                  have HN8 := Lib.hid (show w8.heap[K]? = some (.stringIter ⟨q.toArray⟩ (j + 1)) from (Below.block hb8 K hkl).trans HN.out.1)
                  have HB8 := Lib.hid (HN.out.2.trans hb8)
                  clear hb8 hkl
                  go_wp2_with fail
                  exact ⟨⟨j + 1, by omega, by rw [HMs.out, HB.out, show runOf 119 = 3 from rfl, ← HRp.out, ← hcat], HN8.out, HB8.out⟩, by simp only [World.iterPos, HN8.out, Hit.out]; omega⟩
                · have HB := Lib.hid (show bitAt j = 49 by unfold bitAt; rw [if_pos hpar])
                  have hmr : (j : Int) % 2 = 0 := by omega
                  have hoR : ¬ (9223372036854775807 < M.length + 1) := by omega
                  have hcat : (⟨M.toArray⟩ : ByteArray) ++ ⟨#[49]⟩ = ⟨(M ++ [49]).toArray⟩ := cat_two M [49]
                  go_wp2_with fail
                  exact ⟨⟨j + 1, by omega, by rw [HMs.out, HB.out, show List.replicate (runOf 110) (49 : UInt8) = [49] from rfl, ← hcat], HN.out.1, HN.out.2⟩, by simp only [World.iterPos, HN.out.1, Hit.out]; omega⟩
              · rcases hp2 with rfl | rfl
                · have HB := Lib.hid (show bitAt j = 48 by unfold bitAt; rw [if_neg (by omega)])
                  have hmr : (j : Int) % 2 = 1 := by omega
                  have hrep := fun wx => repeat_any 48 (.inl rfl) 3 (by decide) (by decide) wx
                  obtain ⟨rp, hrp⟩ : ∃ r, r = List.replicate 3 (48 : UInt8) := ⟨_, rfl⟩
                  have hrl : rp.length = 3 := by rw [hrp]; rfl
                  simp only [← hrp] at hrep
                  have Hrep := Lib.hid hrep
                  have HRp := Lib.hid hrp
                  have hsR : (⟨rp.toArray⟩ : ByteArray).size = rp.length := Lib.size_mk rp
                  have hoR : ¬ (9223372036854775807 < M.length + rp.length) := by omega
                  have hcat := cat_two M rp
                  clear hrep hrp
                  go_wp2_with fail
                  refine (Hrep.out _).mono ?_
                  rintro e w8 ⟨rfl, hb8⟩
                  have hkl : K < w7.heap.size := (Array.getElem?_eq_some_iff.1 HN.out.1).1
                  have HN8 := Lib.hid (show w8.heap[K]? = some (.stringIter ⟨q.toArray⟩ (j + 1)) from (Below.block hb8 K hkl).trans HN.out.1)
                  have HB8 := Lib.hid (HN.out.2.trans hb8)
                  clear hb8 hkl
                  go_wp2_with fail
                  exact ⟨⟨j + 1, by omega, by rw [HMs.out, HB.out, show runOf 119 = 3 from rfl, ← HRp.out, ← hcat], HN8.out, HB8.out⟩, by simp only [World.iterPos, HN8.out, Hit.out]; omega⟩
                · have HB := Lib.hid (show bitAt j = 48 by unfold bitAt; rw [if_neg (by omega)])
                  have hmr : (j : Int) % 2 = 1 := by omega
                  have hoR : ¬ (9223372036854775807 < M.length + 1) := by omega
                  have hcat : (⟨M.toArray⟩ : ByteArray) ++ ⟨#[48]⟩ = ⟨(M ++ [48]).toArray⟩ := cat_two M [48]
                  go_wp2_with fail
                  exact ⟨⟨j + 1, by omega, by rw [HMs.out, HB.out, show List.replicate (runOf 110) (48 : UInt8) = [48] from rfl, ← hcat], HN.out.1, HN.out.2⟩, by simp only [World.iterPos, HN.out.1, Hit.out]; omega⟩
            · obtain rfl : j = 9 := by omega
              have hnx : ∀ ty, (Instr.next (.pointer (some ⟨K, 0, none⟩)) true ty).run Tryd.prog wi = .ok (.tuple #[.bool false]) wi := fun ty => Lib.run_next_end_at wi K ⟨q.toArray⟩ 9 ty hit (by rw [hsq]; omega)
              have hm9 : modFrom 0 (q.take 9) = modK k := by
                rw [HQ.out, List.take_of_length_le (by rw [(modK_all k hk44).2.2.2]; omega)]
                rfl
              rw [hm9]
              have HBi := Lib.hid (HB5.out.trans hbi)
              clear hm9 hit hbi
              obtain ⟨M, hM⟩ : ∃ M, M = modK k := ⟨_, rfl⟩
              have hM15 : M.length = 15 := by rw [hM]; exact (modK_all k hk44).1
              have hM15I : (M.length : Int) = 15 := by omega
              have hsM : (⟨M.toArray⟩ : ByteArray).size = M.length := Lib.size_mk M
              have hHit : hit s i k = (Lib.hasPrefix (s.drop i) M && (decide (i + 15 = s.length) || (s.getD (i + 15) 0 == 48))) := by rw [hM]; rfl
              rw [← hM]
              have hex := extract_drop s i
              obtain ⟨D, hD⟩ : ∃ D, D = s.drop i := ⟨_, rfl⟩
              rw [← hD] at hex hHit
              have hiI : (i : Int) ≤ (s.length : Int) := by omega
              have Hpf := Lib.hid (fun wx => hasPrefix_any D M wx)
              have HHit := Lib.hid hHit
              have HDd := Lib.hid hD
              clear hM hHit hD hM15
              cases hpf : Lib.hasPrefix D M with
              | false =>
                have HN := Lib.hid (HSf.out.trans (if_neg (by rw [HHit.out, hpf]; simp)))
                rw [hpf] at Hpf
                clear hpf
                go_wp2_with fail
                refine (Hpf.out _).mono ?_
                rintro e w' ⟨rfl, hw⟩
                subst hw
                go_wp2_with fail
                exact ⟨⟨k + 1, by omega, by go_num, by rw [HN.out, HF1.out], by rw [HN.out, HF2.out], HBi.out⟩, by simp [RowKit.intOf] <;> omega⟩
              | true =>
                have hpl : i + 15 ≤ s.length := by
                  unfold Lib.hasPrefix at hpf
                  have h1 := (List.isPrefixOf_iff_prefix.1 hpf).length_le
                  rw [HDd.out, List.length_drop] at h1
                  omega
                rw [hpf] at Hpf
                by_cases he : i + 15 = s.length
                · have HN := Lib.hid (HSf.out.trans (if_pos (by rw [HHit.out, hpf, decide_eq_true he]; rfl)))
                  have heI : (i : Int) + 15 = (s.length : Int) := by omega
                  have heb : ((i : Int) + 15 == (s.length : Int)) = true := by rw [beq_iff_eq]; exact heI
                  clear hpf he
                  go_wp2_with fail
                  refine (Hpf.out _).mono ?_
                  rintro e w' ⟨rfl, hw⟩
                  subst hw
                  go_wp2_with fail
                  exact ⟨⟨k + 1, by omega, by go_num, by rw [HN.out], by rw [HN.out], HBi.out⟩, by simp [RowKit.intOf] <;> omega⟩
                · have hil : i + 15 < s.length := by omega
                  obtain ⟨c, hc⟩ : ∃ c, s[i + 15]? = some c := ⟨_, List.getElem?_eq_getElem hil⟩
                  obtain ⟨c1, c2⟩ := bytes_at hc
                  have hgc : s.getD (i + 15) 0 = c := by rw [List.getD_eq_getElem?_getD, hc]; rfl
                  have heI : ¬ ((i : Int) + 15 = (s.length : Int)) := by omega
                  have heb : ((i : Int) + 15 == (s.length : Int)) = false := by rw [beq_eq_false_iff_ne]; exact heI
                  have hilI : (i : Int) + 15 < (s.length : Int) := by omega
                  cases h48 : (c == 48) with
                  | true =>
                    have HN := Lib.hid (HSf.out.trans (if_pos (by rw [HHit.out, hpf, hgc, h48]; simp)))
                    have hce : c = 48 := by simpa using h48
                    clear hpf hgc hc h48
                    subst hce
                    go_wp2_with fail
                    refine (Hpf.out _).mono ?_
                    rintro e w' ⟨rfl, hw⟩
                    subst hw
                    go_wp2_with fail
                    exact ⟨⟨k + 1, by omega, by go_num, by rw [HN.out], by rw [HN.out], HBi.out⟩, by simp [RowKit.intOf] <;> omega⟩
                  | false =>
                    have HN := Lib.hid (HSf.out.trans (if_neg (by rw [HHit.out, hpf, hgc, h48, decide_eq_false he]; simp)))
                    have hcn : ¬ ((c.toNat : Int) = 48) := fun e => by
                      have : c = 48 := UInt8.toNat_inj.1 (by have : (48 : UInt8).toNat = 48 := rfl; omega)
                      rw [this] at h48; cases h48
                    have hcb : ((c.toNat : Int) == 48) = false := by rw [beq_eq_false_iff_ne]; exact hcn
                    clear hpf hgc hc h48 he
                    go_wp2_with fail
                    refine (Hpf.out _).mono ?_
                    rintro e w' ⟨rfl, hw⟩
                    subst hw
                    go_wp2_with fail
                    exact ⟨⟨k + 1, by omega, by go_num, by rw [HN.out, HF1.out], by rw [HN.out, HF2.out], HBi.out⟩, by simp [RowKit.intOf] <;> omega⟩
        · obtain rfl : k = 44 := by omega
          have HB5 := Lib.hid hb5
          clear hb5
          cases hg : gR s j with
          | none =>
            have HR := Lib.hid (t39_none (s := s) (by
              rw [HO.out, decM_none (j := j) (by have := HJ.out; rw [← HI.out]; exact this) hg]
              rfl))
            have hfe := HFin.out
            rw [hg] at hfe
            rw [hfe]
            clear hfe hg
            go_wp2_with fail
            exact bodyPost_ret (v := .tuple #[.string ⟨#[]⟩, .bool false]) (by simp [results, Tryd.results151, go_sem]) rfl ⟨by rw [HR.out], HB1.out.trans (HBr.out.trans (HB2.out.trans HB5.out))⟩
          | some n =>
            have hfe := HFin.out
            rw [hg] at hfe
            rw [hfe]
            obtain ⟨hg1, hn44, -⟩ := (gR_iff s j n).1 hg
            rw [← HI.out] at hg1
            have hpl : i + 15 ≤ s.length := by
              rcases hg1 with h | h
              · omega
              · have := (List.getElem?_eq_some_iff.1 h).1; omega
            have hex := letOf lets44 n 44 hn44 (by decide)
            obtain ⟨X, hX⟩ : ∃ X, X = [lets44.getD n 0] := ⟨_, rfl⟩
            rw [← hX] at hex
            have hX1 : X.length = 1 := by rw [hX]; rfl
            unfold lets44 at hex
            have hsT : (⟨T.toArray⟩ : ByteArray).size = T.length := Lib.size_mk T
            have hsX : (⟨X.toArray⟩ : ByteArray).size = X.length := Lib.size_mk X
            have hoT : ¬ (9223372036854775807 < T.length + X.length) := by omega
            have hcat := cat_two T X
            have HXt := Lib.hid (show txt (ks ++ [n]) = T ++ X by rw [txt_add, HTx.out, hX])
            have HNx := Lib.hid (partsR_step HPs.out hg)
            have hnI : (n : Int) + 1 ≤ 44 := by omega
            clear hfe hg hX hg1
            by_cases he : i + 15 = s.length
            · have heI : (i : Int) + 15 = (s.length : Int) := by omega
              have heb : ((i : Int) + 15 == (s.length : Int)) = true := by rw [beq_iff_eq]; exact heI
              have hout : outR s = some (T ++ X) := by
                rw [HO.out, ← HXt.out]
                unfold decM
                rw [if_pos (by have := HI.out; omega), show (s.length + 1) / 16 = j + 1 by have := HI.out; omega, HNx.out]
                rfl
              obtain ⟨U, hU⟩ : ∃ U, U = T ++ X := ⟨_, rfl⟩
              rw [← hU] at hout hcat
              have HOut := Lib.hid hout
              clear hout hU HXt HNx he hTl
              have hsU : (⟨U.toArray⟩ : ByteArray).size = U.length := Lib.size_mk U
              go_upto_region 29 with fail
              have hD : shpT U = (decide (4 ≤ U.length) && (decide (U.length ≤ 43) && (U.getD 0 0 == 42 && (U.getD (U.length - 1) 0 == 42 && !(midT U).contains 42)))) := rfl
              have HD := Lib.hid hD
              clear hD
              by_cases h4 : 4 ≤ U.length
              · have h4I : ¬ ((U.length : Int) < 4) := by omega
                have h4N : ¬ (U.length < 4) := by omega
                by_cases h43 : U.length ≤ 43
                · have h43I : ¬ ((43 : Int) < (U.length : Int)) := by omega
                  have h43N : ¬ (43 < U.length) := by omega
                  obtain ⟨a, ha⟩ : ∃ a, U[0]? = some a := ⟨_, List.getElem?_eq_getElem (by omega)⟩
                  obtain ⟨L, hL⟩ : ∃ L, L = U.length - 1 := ⟨_, rfl⟩
                  obtain ⟨z, hz⟩ : ∃ z, U[L]? = some z := ⟨_, List.getElem?_eq_getElem (by omega)⟩
                  have hLI : (U.length : Int) - 1 = (L : Int) := by omega
                  have hLs : (L : Int) < (U.length : Int) := by omega
                  have hL1 : (1 : Int) ≤ (L : Int) := by omega
                  obtain ⟨a1, a2⟩ := bytes_at ha
                  obtain ⟨z1, z2⟩ := bytes_at hz
                  have hga : U.getD 0 0 = a := by rw [List.getD_eq_getElem?_getD, ha]; rfl
                  have hgz : U.getD (U.length - 1) 0 = z := by rw [← hL, List.getD_eq_getElem?_getD, hz]; rfl
                  have HD2 := Lib.hid (show shpT U = (a == 42 && (z == 42 && !(midT U).contains 42)) by rw [HD.out, decide_eq_true h4, decide_eq_true h43, hga, hgz]; rfl)
                  have hex1 : (⟨U.toArray⟩ : ByteArray).extract 1 L = ⟨(midT U).toArray⟩ := by
                    rw [slice_ab]
                    unfold midT
                    rw [show L - 1 = U.length - 2 by omega]
                  have HLn := Lib.hid hL
                  clear hga hgz ha hz hL h4 h43 HD
                  cases h42 : (a == 42) with
                  | false =>
                    have ha42 : ¬ ((a.toNat : Int) = 42) := fun e => by
                      have : a = 42 := UInt8.toNat_inj.1 (by have : (42 : UInt8).toNat = 42 := rfl; omega)
                      rw [this] at h42; cases h42
                    have hab : ((a.toNat : Int) == 42) = false := by rw [beq_eq_false_iff_ne]; exact ha42
                    have HR := Lib.hid (t39_shape HOut.out (by rw [HD2.out, h42]; rfl))
                    clear h42 hex1
                    go_wp2_with fail
                    exact bodyPost_ret (v := .tuple #[.string ⟨#[]⟩, .bool false]) (by simp [results, Tryd.results151, go_sem]) rfl ⟨by rw [HR.out], HB1.out.trans (HBr.out.trans (HB2.out.trans HB5.out))⟩
                  | true =>
                    have hae : a = 42 := by simpa using h42
                    cases hz2 : (z == 42) with
                    | false =>
                      have hz42 : ¬ ((z.toNat : Int) = 42) := fun e => by
                        have : z = 42 := UInt8.toNat_inj.1 (by have : (42 : UInt8).toNat = 42 := rfl; omega)
                        rw [this] at hz2; cases hz2
                      have hzb : ((z.toNat : Int) == 42) = false := by rw [beq_eq_false_iff_ne]; exact hz42
                      have HR := Lib.hid (t39_shape HOut.out (by rw [HD2.out, h42, hz2]; rfl))
                      clear h42 hz2 hex1
                      subst hae
                      go_wp2_with fail
                      exact bodyPost_ret (v := .tuple #[.string ⟨#[]⟩, .bool false]) (by simp [results, Tryd.results151, go_sem]) rfl ⟨by rw [HR.out], HB1.out.trans (HBr.out.trans (HB2.out.trans HB5.out))⟩
                    | true =>
                      have hze : z = 42 := by simpa using hz2
                      have hcn := fun wx => conB_any (midT U) 42 wx
                      have hcd : decide (0 ≤ Lib.indexByte (midT U) 42) = (midT U).contains 42 := by
                        rw [Bool.eq_iff_iff, decide_eq_true_eq, ixB_mem]
                        simp
                      simp only [hcd] at hcn
                      obtain ⟨Y, hY⟩ : ∃ Y, Y = midT U := ⟨_, rfl⟩
                      rw [← hY] at hcn hex1
                      cases hct : Y.contains 42 with
                      | true =>
                        have HR := Lib.hid (t39_shape HOut.out (by rw [HD2.out, h42, hz2, ← hY, hct]; rfl))
                        simp only [hct] at hcn
                        have Hcn := Lib.hid hcn
                        clear h42 hz2 hcn hcd hY hct
                        subst hae
                        subst hze
                        go_wp2_with fail
                        refine (Hcn.out _).mono ?_
                        rintro e w' ⟨rfl, hw⟩
                        subst hw
                        go_wp2_with fail
                        exact bodyPost_ret (v := .tuple #[.string ⟨#[]⟩, .bool false]) (by simp [results, Tryd.results151, go_sem]) rfl ⟨by rw [HR.out], HB1.out.trans (HBr.out.trans (HB2.out.trans HB5.out))⟩
                      | false =>
                        have HR := Lib.hid ((t39_some HOut.out (by rw [HD2.out, h42, hz2, ← hY, hct]; rfl)).trans (by rw [← hY]))
                        simp only [hct] at hcn
                        have Hcn := Lib.hid hcn
                        clear h42 hz2 hcn hcd hY hct
                        subst hae
                        subst hze
                        go_wp2_with fail
                        refine (Hcn.out _).mono ?_
                        rintro e w' ⟨rfl, hw⟩
                        subst hw
                        go_wp2_with fail
                        exact bodyPost_ret (v := .tuple #[.string ⟨Y.toArray⟩, .bool true]) (by simp [results, Tryd.results151, go_sem]; try exact hex1) rfl ⟨by rw [HR.out], HB1.out.trans (HBr.out.trans (HB2.out.trans HB5.out))⟩
                · have HR := Lib.hid (t39_shape HOut.out (by rw [HD.out, decide_eq_false h43, Bool.false_and, Bool.and_false]))
                  have h2 : (43 : Int) < (U.length : Int) := by omega
                  have h2N : 43 < U.length := by omega
                  clear h4 h43 HD
                  go_wp2_with fail
                  exact bodyPost_ret (v := .tuple #[.string ⟨#[]⟩, .bool false]) (by simp [results, Tryd.results151, go_sem]) rfl ⟨by rw [HR.out], HB1.out.trans (HBr.out.trans (HB2.out.trans HB5.out))⟩
              · have HR := Lib.hid (t39_shape HOut.out (by rw [HD.out, decide_eq_false h4, Bool.false_and]))
                have h1 : (U.length : Int) < 4 := by omega
                have h1N : U.length < 4 := by omega
                clear h4 HD
                go_wp2_with fail
                exact bodyPost_ret (v := .tuple #[.string ⟨#[]⟩, .bool false]) (by simp [results, Tryd.results151, go_sem]) rfl ⟨by rw [HR.out], HB1.out.trans (HBr.out.trans (HB2.out.trans HB5.out))⟩
            · have heI : ¬ ((i : Int) + 15 = (s.length : Int)) := by omega
              have heb : ((i : Int) + 15 == (s.length : Int)) = false := by rw [beq_eq_false_iff_ne]; exact heI
              by_cases he2 : i + 16 = s.length
              · have HR := Lib.hid (t39_none (s := s) (by
                  rw [HO.out, decM_end (j := j + 1) (by have := HI.out; omega)]
                  rfl))
                have heI2 : (i : Int) + 15 + 1 = (s.length : Int) := by omega
                have heb2 : ((i : Int) + 15 + 1 == (s.length : Int)) = true := by rw [beq_iff_eq]; exact heI2
                clear he he2
                go_wp2_with fail
                exact bodyPost_ret (v := .tuple #[.string ⟨#[]⟩, .bool false]) (by simp [results, Tryd.results151, go_sem]) rfl ⟨by rw [HR.out], HB1.out.trans (HBr.out.trans (HB2.out.trans HB5.out))⟩
              · have heI2 : ¬ ((i : Int) + 15 + 1 = (s.length : Int)) := by omega
                have heb2 : ((i : Int) + 15 + 1 == (s.length : Int)) = false := by rw [beq_eq_false_iff_ne]; exact heI2
                have HL := Lib.hid (show i + 16 < s.length by omega)
                clear he he2
                go_wp2_with fail
                exact ⟨⟨j + 1, ks ++ [n], by have := HI.out; have := HL.out; omega, by rw [show (16 * (j + 1) : Nat) = i + 16 by rw [HI.out]; omega]; simp; omega, HNx.out, by rw [HXt.out, ← hcat], HBr.out.trans (HB2.out.trans HB5.out)⟩, by have := HL.out; simp [RowKit.intOf] <;> omega⟩

end Go.Proofs.YtjelhdpcaileiaaDoor


/-! bar.Read39, bedref2.Read39Of. -/
namespace Go.Proofs.YtjelhdpcaileiaaDoor
open Go.RowKit Go.Shelf

set_option maxRecDepth 100000 in
set_option maxHeartbeats 2000000 in
theorem eitherW_any (g : Nat) (rd : List UInt8 → List UInt8 × Int) (eg : ∀ args w, (callFunc g args).run Tryd.prog w = .ok (.enter g args) w) (M : Nat) (hM : M ≤ 9223372036854775807)
    (w : World) (hr : ∀ (m : List UInt8) (W : World), m.length ≤ M → Bl w W → Calls Tryd.prog g #[.string ⟨m.toArray⟩] W fun e w' => e = .returned (.tuple #[.string ⟨(rd m).1.toArray⟩, .int .i64 (rd m).2]) ∧ Bl W w')
    (m : List UInt8) (hl : m.length ≤ M) :
    Calls Tryd.prog 132 #[.string ⟨m.toArray⟩, .func (.func g) #[] #[]] w fun e w' => e = .returned (.tuple #[.string ⟨(eitherG rd m).1.toArray⟩, .int .i64 (eitherG rd m).2]) ∧ Bl w w' := by
  have H1 := Lib.hid (hr m)
  have H2 := Lib.hid (hr m.reverse)
  have hb := fun wx => backwards_any m wx (by omega)
  unfold FlipRes at hb
  have Hb := Lib.hid hb
  obtain ⟨a, ha⟩ : ∃ a, a = (rd m).1 := ⟨_, rfl⟩
  obtain ⟨e1, he1⟩ : ∃ a, a = (rd m).2 := ⟨_, rfl⟩
  rw [← ha, ← he1] at H1
  obtain ⟨b, hb2⟩ : ∃ a, a = (rd m.reverse).1 := ⟨_, rfl⟩
  obtain ⟨e2, he2⟩ : ∃ a, a = (rd m.reverse).2 := ⟨_, rfl⟩
  rw [← hb2, ← he2] at H2
  obtain ⟨r, hrv⟩ : ∃ r, r = m.reverse := ⟨_, rfl⟩
  have hrl : r.length ≤ M := by rw [hrv, List.length_reverse]; exact hl
  by_cases hq : e1 = 2
  · have hE : eitherG rd m = rd m.reverse := by unfold eitherG; rw [← he1, if_pos hq]
    have HA := Lib.hid (show (eitherG rd m).1 = b from by rw [hE, hb2])
    have HB := Lib.hid (show (eitherG rd m).2 = e2 from by rw [hE, he2])
    rw [← hrv] at Hb H2
    subst hq
    clear hE ha he1 hb2 he2 hb hr hrv
    go_enter Tryd.func132, Tryd.ntmps132
    go_wp2_with fail
    refine (H1.out _ hl (Bl.refl _)).mono ?_
    rintro e w1 ⟨rfl, hb1⟩
    go_wp2_with fail
    refine (Hb.out _).mono ?_
    rintro e w2 ⟨rfl, hb2⟩
    go_wp2_with fail
    refine (H2.out _ hrl (hb1.trans hb2)).mono ?_
    rintro e w3 ⟨rfl, hb3⟩
    go_wp2_with fail
    exact bodyPost_ret (v := .tuple #[.string ⟨b.toArray⟩, .int .i64 e2]) (by simp [results, Tryd.results132, go_sem]) rfl ⟨by rw [HA.out, HB.out], (hb1.trans hb2).trans hb3⟩
  · have hE : eitherG rd m = rd m := by unfold eitherG; rw [← he1, if_neg hq]
    have HA := Lib.hid (show (eitherG rd m).1 = a from by rw [hE, ha])
    have HB := Lib.hid (show (eitherG rd m).2 = e1 from by rw [hE, he1])
    have hqb : (e1 == 2) = false := by rw [beq_eq_false_iff_ne]; exact hq
    clear hE ha he1 hb2 he2 hb hr hrv hq
    go_enter Tryd.func132, Tryd.ntmps132
    go_wp2_with fail
    refine (H1.out _ hl (Bl.refl _)).mono ?_
    rintro e w1 ⟨rfl, hb1⟩
    go_wp2_with fail
    exact bodyPost_ret (v := .tuple #[.string ⟨a.toArray⟩, .int .i64 e1]) (by simp [results, Tryd.results132, go_sem]) rfl ⟨by rw [HA.out, HB.out], hb1⟩
set_option maxRecDepth 100000 in
theorem read39x_any (m : List UInt8) (w : World) (hl : m.length ≤ 1048576) (hT : SpOk w) :
    Calls Tryd.prog 70 #[.string ⟨m.toArray⟩] w fun e w' => e = .returned (.tuple #[.string ⟨(eitherG rd39 m).1.toArray⟩, .int .i64 (eitherG rd39 m).2]) ∧ Bl w w' := by
  have H := Lib.hid (eitherW_any 150 rd39 (enters Tryd.func150 (by kernel_rfl) rfl) 1048576 (by decide) w (fun m W h hb => read39_any m W h (hT.bl hb)) m hl)
  obtain ⟨a, ha⟩ : ∃ a, a = (eitherG rd39 m).1 := ⟨_, rfl⟩
  obtain ⟨e1, he1⟩ : ∃ a, a = (eitherG rd39 m).2 := ⟨_, rfl⟩
  rw [← ha, ← he1] at H ⊢
  clear ha he1 hT
  go_enter Tryd.func70, Tryd.ntmps70
  go_wp2_with fail
  refine H.out.mono ?_
  rintro e w1 ⟨rfl, hb1⟩
  go_wp2_with fail
  exact bodyPost_ret (v := .tuple #[.string ⟨a.toArray⟩, .int .i64 e1]) (by simp [results, Tryd.results70, go_sem]) rfl ⟨rfl, hb1⟩
theorem outR_mem {s T : List UInt8} (h : outR s = some T) : ∀ c ∈ T, c ∈ lets44 := by
  unfold outR at h
  by_cases hl : lenOK s = true
  · rw [if_pos hl] at h
    obtain ⟨ks, hk, rfl⟩ := Option.map_eq_some_iff.1 h
    exact txt_mem (decP_lt hk)
  · rw [if_neg hl] at h; cases h
theorem t39_cases (s : List UInt8) : (∃ T, outR s = some T ∧ shpT T = true) ∨ (t39 s = ([], false) ∧ rd39 s = ([], 2)) := by
  cases h : outR s with
  | none => exact .inr ⟨t39_none h, rd_none h⟩
  | some T =>
    cases hs : shpT T with
    | true => exact .inl ⟨T, rfl, hs⟩
    | false => exact .inr ⟨t39_shape h hs, rd_shape h hs⟩
theorem shp_len {T : List UInt8} (h : shpT T = true) : 4 ≤ T.length ∧ T.length ≤ 43 := by
  unfold shpT at h
  simp only [Bool.and_eq_true, decide_eq_true_eq] at h
  exact ⟨h.1, h.2.1⟩
/-- What is wanted of the text between the stars. -/
structure Mid (s Y B Z : List UInt8) : Prop where
  t : t39 s = (Y, true)
  cat : Y = B ++ Z
  lz : Z.length = 1
  lb : B.length ≤ 40
  lb1 : 1 ≤ B.length
  ok : lettersOk B = true
  rd : rd39 s = if chkL B = Z then (B, 0) else ([], 14)
theorem mid_of {s T : List UInt8} (h : outR s = some T) (hs : shpT T = true) : Mid s (midT T) (bodyT T) (lastT T) := by
  obtain ⟨h4, h43⟩ := shp_len hs
  obtain ⟨b1, b2, b3, b4⟩ := body_ok (outR_mem h) hs
  have hv : letVal (bodyT T) = chkL (bodyT T) := by unfold letVal; rw [b4]; rfl
  exact ⟨t39_some h hs, (body_mid h4).2, by unfold lastT; rw [List.length_take, List.length_drop]; omega, b3, b2, b1, by rw [rd_some h hs, hv]⟩
theorem eitherR_two {s : List UInt8} (h : rd39 s = ([], 2)) : eitherG rd39 s = rd39 s.reverse := by unfold eitherG; rw [h, if_pos rfl]
theorem eitherR_not {s : List UInt8} (h : (rd39 s).2 ≠ 2) : eitherG rd39 s = rd39 s := by unfold eitherG; rw [if_neg h]
set_option maxRecDepth 100000 in
set_option maxHeartbeats 8000000 in
theorem read39Of_any (m : List UInt8) (w : World) (hl : m.length ≤ 1048576) (hT : SpOk w) :
    Calls Tryd.prog 71 #[.string ⟨m.toArray⟩] w fun e w' => e = .returned (.tuple #[.string ⟨(eitherG rd39 m).1.toArray⟩, .int .i64 (eitherG rd39 m).2]) ∧ Bl w w' := by
  have hf := flip_any m w (by omega)
  unfold FlipRes at hf
  have Hf := Lib.hid hf
  have HT := Lib.hid hT
  have hrl : m.reverse.length ≤ 1048576 := by rw [List.length_reverse]; exact hl
  obtain ⟨r, hr⟩ : ∃ r, r = m.reverse := ⟨_, rfl⟩
  rw [← hr] at Hf hrl
  have HRv := Lib.hid hr
  clear hf hT hr
  go_enter Tryd.func71, Tryd.ntmps71
  go_wp2_with fail
  refine Hf.out.mono ?_
  rintro e w1 ⟨rfl, hb1⟩
  clear Hf
  go_wp2_with fail
  have hbk := Blk.new w1 9 #[.string ⟨m.toArray⟩, .string ⟨r.toArray⟩]
  have hb2 : Bl w (w1.alloc (.cells #[.string ⟨m.toArray⟩, .string ⟨r.toArray⟩] 9)) := hb1.alloc _
  obtain ⟨kb, hkb⟩ : ∃ k, k = w1.heap.size := ⟨_, rfl⟩
  rw [← hkb] at hbk ⊢
  generalize w1.alloc (.cells #[.string ⟨m.toArray⟩, .string ⟨r.toArray⟩] 9) = w2 at hbk hb2 ⊢
  have k1 := hbk.all2
  have HBk := Lib.hid hbk
  have Hm := Lib.hid (text39_any m w2 hl (HT.out.bl hb2))
  clear hkb hb1 hbk
  refine wp_loop_rounds 3 ?_
  rw [rounds_succ]
  rcases t39_cases m with ⟨T, hT1, hT2⟩ | ⟨ht, hr2⟩
  · obtain ⟨Y, B, Z, M⟩ : ∃ Y B Z, Mid m Y B Z := ⟨_, _, _, mid_of hT1 hT2⟩
    have hY : Y.length = B.length + 1 := by rw [M.cat, List.length_append, M.lz]
    obtain ⟨n, hn⟩ : ∃ n, n = B.length := ⟨_, rfl⟩
    have hexb : (⟨Y.toArray⟩ : ByteArray).extract 0 n = ⟨B.toArray⟩ := by
      rw [slice_ab, M.cat, List.drop_zero, Nat.sub_zero, List.take_left' hn.symm]
    have hexz : (⟨Y.toArray⟩ : ByteArray).extract n Y.length = ⟨Z.toArray⟩ := by
      rw [extract_drop, M.cat, List.drop_left' hn.symm]
    have hYI : (Y.length : Int) - 1 = (n : Int) := by omega
    have hn0 : (0 : Int) ≤ (n : Int) := by omega
    have hn40 : n ≤ 40 := by rw [hn]; exact M.lb
    have hnI40 : (n : Int) ≤ 40 := by omega
    have hYl : Y.length ≤ 41 := by omega
    have hnY : (n : Int) ≤ (Y.length : Int) := by omega
    have hsY : (⟨Y.toArray⟩ : ByteArray).size = Y.length := Lib.size_mk Y
    have hco := fun wx => checkLetterOf_any B wx (by have := M.lb; omega) M.ok
    obtain ⟨C, hC⟩ : ∃ C, C = chkL B := ⟨_, rfl⟩
    have hrd := M.rd
    rw [← hC] at hco hrd
    have Hco := Lib.hid hco; have HRd := Lib.hid hrd; have HMt := Lib.hid M.t
    clear hY hn hco hC hrd M
    go_wp2_with fail
    refine Hm.out.mono ?_
    rw [HMt.out]
    rintro e w3 ⟨rfl, hb3⟩
    clear Hm
    go_upto_region 7 with fail
    refine wp_region_flow [(true, 0), (true, 2), (true, 3), (true, 4), (true, 5), (true, 6), (false, 1), (true, 7)] (fun _ => false) (by kernel_rfl) (by kernel_rfl) (by kernel_rfl) (by kernel_rfl) ?_
    iterate 3
      apply Flow.mv _ rfl
      · intro K' hK'
        simp only [Act.put, Act.eval, List.setIfInBounds_toArray, List.set_cons_zero, List.set_cons_succ, arr_getD, List.getD_cons_zero, List.getD_cons_succ]
        exact hK'
    iterate 1
      apply Flow.calm2 _ _ rfl rfl
      · intro w' hb' K' hK'
        obtain ⟨hc', hf'⟩ := hb'.rule
        go_simp
        try go_ints
        exact hK'
      · intro K' hK'
        simp only [Act.put, List.setIfInBounds_toArray, List.set_cons_zero, List.set_cons_succ]
        exact hK'
    iterate 1
      apply Flow.calm2 _ _ rfl rfl
      · intro w' hb' K' hK'
        obtain ⟨hc', hf'⟩ := hb'.rule
        go_simp
        try go_ints
        exact hK'
      · intro K' hK'
        simp only [Act.put, List.setIfInBounds_toArray, List.set_cons_zero, List.set_cons_succ]
        exact hK'
    iterate 1
      apply Flow.calm2 _ _ rfl rfl
      · intro w' hb' K' hK'
        obtain ⟨hc', hf'⟩ := hb'.rule
        go_simp
        try go_ints
        exact hK'
      · intro K' hK'
        simp only [Act.put, List.setIfInBounds_toArray, List.set_cons_zero, List.set_cons_succ]
        exact hK'
    apply Flow.move rfl
    go_wp2_with fail
    refine (Hco.out _).mono ?_
    rintro e w8 ⟨rfl, hw8⟩
    subst hw8
    have HB1 := Bl.refl w
    go_wp2_with fail
    refine ⟨fun _ => (by first | exact HB1 | exact Bl.refl _), ?_⟩
    iterate 1
      apply Flow.calm2 _ _ rfl rfl
      · intro w' hb' K' hK'
        obtain ⟨hc', hf'⟩ := hb'.rule
        go_simp
        try go_ints
        exact hK'
      · intro K' hK'
        simp only [Act.put, List.setIfInBounds_toArray, List.set_cons_zero, List.set_cons_succ]
        exact hK'
    refine Flow.done ?_
    have HB8 := Lib.hid ((hb2.trans hb3).drew)
    clear Hco
    cases hcz : (C == Z) with
    | true =>
      have HR2 := Lib.hid (HRd.out.trans (if_pos (by simpa using hcz)))
      have HF := Lib.hid (show eitherG rd39 m = (B, 0) by rw [eitherR_not (by rw [HR2.out]; exact (by decide : (0 : Int) ≠ 2)), HR2.out])
      clear HRd
      go_wp2_with fail
      exact bodyPost_ret (v := .tuple #[.string ⟨B.toArray⟩, .int .i64 0]) (by simp [results, Tryd.results71, go_sem]; try exact hexb) rfl ⟨by rw [HF.out], HB8.out⟩
    | false =>
      have HR2 := Lib.hid (HRd.out.trans (if_neg (by simpa using hcz)))
      have HF := Lib.hid (show eitherG rd39 m = ([], 14) by rw [eitherR_not (by rw [HR2.out]; exact (by decide : (14 : Int) ≠ 2)), HR2.out])
      clear HRd
      go_wp2_with fail
      exact bodyPost_ret (v := .tuple #[.string ⟨#[]⟩, .int .i64 14]) (by simp [results, Tryd.results71, go_sem]) rfl ⟨by rw [HF.out], HB8.out⟩
  · rw [ht] at Hm
    have HE := Lib.hid ((eitherR_two hr2).trans (by rw [← HRv.out]))
    clear ht hr2
    go_wp2_with fail
    refine Hm.out.mono ?_
    rintro e w3' ⟨rfl, hb3'⟩
    have hb23 := hb2.trans hb3'
    have Hr := Lib.hid (text39_any r w3' hrl (HT.out.bl hb23))
    have k3 := (HBk.out.bl hb3').all2
    clear k1 Hm hb2
    go_wp2_with fail
    rw [rounds_succ]
    rcases t39_cases r with ⟨T, hT1, hT2⟩ | ⟨ht, hr2⟩
    · obtain ⟨Y, B, Z, M⟩ : ∃ Y B Z, Mid r Y B Z := ⟨_, _, _, mid_of hT1 hT2⟩
      have hY : Y.length = B.length + 1 := by rw [M.cat, List.length_append, M.lz]
      obtain ⟨n, hn⟩ : ∃ n, n = B.length := ⟨_, rfl⟩
      have hexb : (⟨Y.toArray⟩ : ByteArray).extract 0 n = ⟨B.toArray⟩ := by
        rw [slice_ab, M.cat, List.drop_zero, Nat.sub_zero, List.take_left' hn.symm]
      have hexz : (⟨Y.toArray⟩ : ByteArray).extract n Y.length = ⟨Z.toArray⟩ := by
        rw [extract_drop, M.cat, List.drop_left' hn.symm]
      have hYI : (Y.length : Int) - 1 = (n : Int) := by omega
      have hn0 : (0 : Int) ≤ (n : Int) := by omega
      have hn40 : n ≤ 40 := by rw [hn]; exact M.lb
      have hnI40 : (n : Int) ≤ 40 := by omega
      have hYl : Y.length ≤ 41 := by omega
      have hnY : (n : Int) ≤ (Y.length : Int) := by omega
      have hsY : (⟨Y.toArray⟩ : ByteArray).size = Y.length := Lib.size_mk Y
      have hco := fun wx => checkLetterOf_any B wx (by have := M.lb; omega) M.ok
      obtain ⟨C, hC⟩ : ∃ C, C = chkL B := ⟨_, rfl⟩
      have hrd := M.rd
      rw [← hC] at hco hrd
      have Hco := Lib.hid hco; have HRd := Lib.hid hrd; have HMt := Lib.hid M.t
      clear hY hn hco hC hrd M
      go_wp2_with fail
      refine Hr.out.mono ?_
      rw [HMt.out]
      rintro e w3 ⟨rfl, hb3⟩
      clear Hr
      go_upto_region 7 with fail
      refine wp_region_flow [(true, 0), (true, 2), (true, 3), (true, 4), (true, 5), (true, 6), (false, 1), (true, 7)] (fun _ => false) (by kernel_rfl) (by kernel_rfl) (by kernel_rfl) (by kernel_rfl) ?_
      iterate 3
        apply Flow.mv _ rfl
        · intro K' hK'
          simp only [Act.put, Act.eval, List.setIfInBounds_toArray, List.set_cons_zero, List.set_cons_succ, arr_getD, List.getD_cons_zero, List.getD_cons_succ]
          exact hK'
      iterate 1
        apply Flow.calm2 _ _ rfl rfl
        · intro w' hb' K' hK'
          obtain ⟨hc', hf'⟩ := hb'.rule
          go_simp
          try go_ints
          exact hK'
        · intro K' hK'
          simp only [Act.put, List.setIfInBounds_toArray, List.set_cons_zero, List.set_cons_succ]
          exact hK'
      iterate 1
        apply Flow.calm2 _ _ rfl rfl
        · intro w' hb' K' hK'
          obtain ⟨hc', hf'⟩ := hb'.rule
          go_simp
          try go_ints
          exact hK'
        · intro K' hK'
          simp only [Act.put, List.setIfInBounds_toArray, List.set_cons_zero, List.set_cons_succ]
          exact hK'
      iterate 1
        apply Flow.calm2 _ _ rfl rfl
        · intro w' hb' K' hK'
          obtain ⟨hc', hf'⟩ := hb'.rule
          go_simp
          try go_ints
          exact hK'
        · intro K' hK'
          simp only [Act.put, List.setIfInBounds_toArray, List.set_cons_zero, List.set_cons_succ]
          exact hK'
      apply Flow.move rfl
      go_wp2_with fail
      refine (Hco.out _).mono ?_
      rintro e w8 ⟨rfl, hw8⟩
      subst hw8
      have HB1 := Bl.refl w
      go_wp2_with fail
      refine ⟨fun _ => (by first | exact HB1 | exact Bl.refl _), ?_⟩
      iterate 1
        apply Flow.calm2 _ _ rfl rfl
        · intro w' hb' K' hK'
          obtain ⟨hc', hf'⟩ := hb'.rule
          go_simp
          try go_ints
          exact hK'
        · intro K' hK'
          simp only [Act.put, List.setIfInBounds_toArray, List.set_cons_zero, List.set_cons_succ]
          exact hK'
      refine Flow.done ?_
      have HB8 := Lib.hid ((hb23.trans hb3).drew)
      clear Hco
      cases hcz : (C == Z) with
      | true =>
        have HR2 := Lib.hid (HRd.out.trans (if_pos (by simpa using hcz)))
        have HF := Lib.hid (show eitherG rd39 m = (B, 0) by rw [HE.out, HR2.out])
        clear HRd
        go_wp2_with fail
        exact bodyPost_ret (v := .tuple #[.string ⟨B.toArray⟩, .int .i64 0]) (by simp [results, Tryd.results71, go_sem]; try exact hexb) rfl ⟨by rw [HF.out], HB8.out⟩
      | false =>
        have HR2 := Lib.hid (HRd.out.trans (if_neg (by simpa using hcz)))
        have HF := Lib.hid (show eitherG rd39 m = ([], 14) by rw [HE.out, HR2.out])
        clear HRd
        go_wp2_with fail
        exact bodyPost_ret (v := .tuple #[.string ⟨#[]⟩, .int .i64 14]) (by simp [results, Tryd.results71, go_sem]) rfl ⟨by rw [HF.out], HB8.out⟩
    · rw [ht] at Hr
      have HF := Lib.hid (HE.out.trans hr2)
      clear ht hr2
      go_wp2_with fail
      refine Hr.out.mono ?_
      rintro e w4 ⟨rfl, hb4⟩
      clear k3 Hr
      go_wp2_with fail
      rw [rounds_succ]
      go_wp2_with fail
      exact bodyPost_ret (v := .tuple #[.string ⟨#[]⟩, .int .i64 2]) (by simp [results, Tryd.results71, go_sem]) rfl ⟨by rw [HF.out], hb23.trans hb4⟩

end Go.Proofs.YtjelhdpcaileiaaDoor


/-! Code 39 in plain lists: what is drawn of a text is read as this text, also backwards. -/
namespace Go.Proofs.YtjelhdpcaileiaaDoor
open Go.RowKit

set_option maxRecDepth 100000 in
theorem modK_made : ∀ k < 44, madeOf (modK k) [48, 49] = true := by decide +kernel
theorem made_app {a b cs : List UInt8} (h1 : madeOf a cs = true) (h2 : madeOf b cs = true) : madeOf (a ++ b) cs = true := by
  unfold madeOf at h1 h2 ⊢
  rw [List.all_append, h1, h2]
  rfl
theorem joinC_made : ∀ {ks : List Nat}, (∀ k ∈ ks, k < 44) → madeOf (joinC ks) [48, 49] = true
  | [], _ => rfl
  | [k], h => modK_made k (h k (List.mem_cons_self ..))
  | k :: k' :: ks, h => by
    have ih := joinC_made (ks := k' :: ks) (fun x hx => h x (List.mem_cons_of_mem _ hx))
    show madeOf (modK k ++ 48 :: joinC (k' :: ks)) [48, 49] = true
    exact made_app (modK_made k (h k (List.mem_cons_self ..))) (by
      show (([48, 49] : List UInt8).contains 48 && madeOf (joinC (k' :: ks)) [48, 49]) = true
      rw [ih]
      rfl)
set_option maxRecDepth 100000 in
theorem num_back : ∀ c ∈ lets44, lets44.getD (num44 c) 0 = c := by decide +kernel
theorem txt_whole {l : List UInt8} (h : lettersOk l = true) : txt (ksL l) = wholeL l := by
  unfold txt ksL
  rw [List.map_map]
  conv => rhs; rw [← List.map_id (wholeL l)]
  exact List.map_congr_left fun c hc => num_back c (whole_mem h c hc)
theorem ksL_ne (l : List UInt8) : ksL l ≠ [] := by unfold ksL wholeL; simp
theorem outR_code {l : List UInt8} (h : lettersOk l = true) : outR (code39 l) = some (wholeL l) := by
  show outR (joinC (ksL l)) = _
  rw [outR_made (joinC_made (ksL_lt h))]
  rw [decM_join (ksL_ne l) (ksL_lt h), ← txt_whole h]
  rfl
theorem no_star {l : List UInt8} (h : lettersOk l = true) : (42 : UInt8) ∉ l ++ chkL l := by
  have hs : (42 : UInt8) ∉ lets43 := by decide
  intro hm
  rcases List.mem_append.1 hm with hm | hm
  · have := List.all_eq_true.1 h _ hm
    unfold isLet at this
    exact hs (by simpa using this)
  · unfold chkL at hm
    have : ∀ r < 43, lets44.getD r 0 ≠ 42 := by decide +kernel
    exact this _ (Nat.mod_lt (sumL l l.length) (by decide)) (List.mem_singleton.1 hm).symm
theorem whole_parts (l : List UInt8) : midT (wholeL l) = l ++ chkL l ∧ bodyT (wholeL l) = l ∧ lastT (wholeL l) = chkL l ∧ (wholeL l).getD 0 0 = 42 ∧ (wholeL l).getD ((wholeL l).length - 1) 0 = 42 := by
  have hl := whole_len l
  obtain ⟨x, hx⟩ : ∃ x, chkL l = [x] := ⟨_, rfl⟩
  have hw : wholeL l = 42 :: (l ++ [x] ++ [42]) := by unfold wholeL; rw [hx]
  refine ⟨?_, ?_, ?_, rfl, ?_⟩
  · unfold midT
    rw [hl, hw, hx]
    show (l ++ [x] ++ [42]).take (l.length + 3 - 2) = _
    rw [List.take_left' (by simp)]
  · unfold bodyT
    rw [hl, hw]
    show (l ++ [x] ++ [42]).take (l.length + 3 - 3) = _
    rw [List.append_assoc, List.take_left' (by simp)]
  · unfold lastT
    rw [hl, hw, hx, show l.length + 3 - 2 = l.length + 1 by omega]
    show ((l ++ [x] ++ [42]).drop l.length).take 1 = _
    rw [List.append_assoc, List.drop_left' rfl]
    rfl
  · rw [hl, hw, List.getD_eq_getElem?_getD, show l.length + 3 - 1 = (l ++ [x]).length + 1 by simp]
    rw [List.getElem?_cons_succ, List.getElem?_append_right (Nat.le_refl _), Nat.sub_self]
    rfl
theorem letErr_ok {l : List UInt8} (h : letErr l = 0) : lettersOk l = true ∧ 1 ≤ l.length ∧ l.length ≤ 40 := by
  unfold letErr at h
  by_cases a : l = []
  · rw [if_pos a] at h; cases h
  · rw [if_neg a] at h
    by_cases b : 40 < l.length
    · rw [if_pos b] at h; cases h
    · rw [if_neg b] at h
      refine ⟨?_, List.length_pos_iff.2 a, by omega⟩
      cases hx : lettersOk l with
      | true => rfl
      | false => rw [hx] at h; cases h
theorem shp_whole {l : List UInt8} (h : letErr l = 0) : shpT (wholeL l) = true := by
  obtain ⟨hok, h1, h40⟩ := letErr_ok h
  obtain ⟨p1, p2, p3, p4, p5⟩ := whole_parts l
  unfold shpT
  rw [p1, p4, p5, whole_len, decide_eq_true (by omega), decide_eq_true (by omega)]
  have : (l ++ chkL l).contains 42 = false := by
    have := no_star hok
    simpa using this
  rw [this]
  rfl
theorem rd_code {l : List UInt8} (h : letErr l = 0) : rd39 (code39 l) = (l, 0) := by
  obtain ⟨hok, h1, h40⟩ := letErr_ok h
  obtain ⟨p1, p2, p3, p4, p5⟩ := whole_parts l
  rw [rd_some (outR_code hok) (shp_whole h), p2, p3]
  unfold letVal
  rw [if_pos h, if_pos rfl]
set_option maxRecDepth 100000 in
theorem star_back : (modK 43).reverse = modK 25 := by decide +kernel
theorem code_last (l : List UInt8) : ∃ A, code39 l = A ++ modK 43 := by
  have hn : num44 42 = 43 := by decide +kernel
  have hk : ksL l = (num44 42 :: (l ++ chkL l).map num44) ++ [43] := by
    unfold ksL wholeL
    rw [List.map_cons, List.map_append, ← hn]
    rfl
  unfold code39
  rw [hk, joinC_Z, List.map_append]
  show ∃ A, joinZ ((num44 42 :: (l ++ chkL l).map num44).map modK ++ [modK 43]) = A ++ modK 43
  rw [joinZ_append _ _ (by simp)]
  exact ⟨joinZ (List.map modK (num44 42 :: List.map num44 (l ++ chkL l))) ++ [48], by rw [List.append_assoc]; rfl⟩
theorem rd_flip (l : List UInt8) : rd39 (code39 l).reverse = ([], 2) := by
  rcases t39_cases (code39 l).reverse with ⟨T, hT1, hT2⟩ | ⟨-, h⟩
  · exfalso
    obtain ⟨A, hA⟩ := code_last l
    have hmd : madeOf (code39 l).reverse [48, 49] = true := by
      cases hx : madeOf (code39 l).reverse [48, 49] with
      | true => rfl
      | false => rw [outR_not hx] at hT1; cases hT1
    rw [outR_made hmd] at hT1
    obtain ⟨ks, hks, rfl⟩ := Option.map_eq_some_iff.1 hT1
    have hne := decM_ne hks
    obtain ⟨k, ks', rfl⟩ : ∃ k ks', ks = k :: ks' := by
      cases ks with
      | nil => exact absurd rfl hne
      | cons k ks' => exact ⟨k, ks', rfl⟩
    obtain ⟨-, hk, hg⟩ := (gR_iff _ _ _).1 (((decM_iff _ _).1 hks).2 0 k rfl)
    rw [hA, List.reverse_append, star_back] at hg
    have hg2 : (modK 25 ++ A.reverse).take 15 = modK k := hg
    rw [List.take_left' (modK_all 25 (by decide)).1] at hg2
    obtain rfl := modK_inj k hk 25 (by decide) hg2.symm
    unfold shpT at hT2
    simp only [Bool.and_eq_true, beq_iff_eq] at hT2
    have := hT2.2.2.1
    have h80 : (txt (25 :: ks')).getD 0 0 = 80 := rfl
    rw [h80] at this
    cases this
  · exact h
theorem code_read {l : List UInt8} (h : letErr l = 0) : eitherG rd39 (code39 l) = (l, 0) ∧ eitherG rd39 (code39 l).reverse = (l, 0) := by
  constructor
  · rw [eitherR_not (by rw [rd_code h]; exact (by decide : (0 : Int) ≠ 2)), rd_code h]
  · rw [eitherR_two (rd_flip l), List.reverse_reverse, rd_code h]

end Go.Proofs.YtjelhdpcaileiaaDoor


/-! The law LettersMatch answers true. -/
namespace Go.Proofs.YtjelhdpcaileiaaDoor
open Go.RowKit Go.Shelf

set_option maxRecDepth 100000 in
set_option maxHeartbeats 8000000 in
theorem lawLetters_any (l q : List UInt8) (w : World) (hl : l.length ≤ 1048576) (hql : q.length ≤ 1048576) (hT : SpOk w) :
    Calls Tryd.prog 9 #[.string ⟨l.toArray⟩, .string ⟨q.toArray⟩] w fun e w' => e = .returned (.bool true) ∧ Bl w w' := by
  have HT := Lib.hid hT
  have hsz : (⟨l.toArray⟩ : ByteArray).size = l.length := Lib.size_mk l
  have hcl := fun wx => checkLet_any l wx (by omega)
  have hcc := fun wx h => code39_any l wx (by omega) h
  have hle := fun wx => letterError_any l wx (by omega)
  have Hr1 := Lib.hid (fun wx h => read39x_any q wx hql h)
  have Hr2 := Lib.hid (fun wx h => read39Of_any q wx hql h)
  obtain ⟨ra, hra⟩ : ∃ x, x = (eitherG rd39 q).1 := ⟨_, rfl⟩
  obtain ⟨rb, hrb⟩ : ∃ x, x = (eitherG rd39 q).2 := ⟨_, rfl⟩
  rw [← hra, ← hrb] at Hr1 Hr2
  clear hra hrb hT
  by_cases h0 : letErr l = 0
  · obtain ⟨hok, h1, h40⟩ := letErr_ok h0
    have hv : letVal l = chkL l := by unfold letVal; rw [if_pos h0]
    have hc : codeRes l = code39 l := by unfold codeRes; rw [if_pos h0]
    have hrd := code_read h0
    have hcl39 := code39_len hok
    simp only [h0, hv, hc] at hcl hcc hle
    have hco := fun wx => checkLetterOf_any l wx (by omega) hok
    have hcf := fun wx h => code39Of_any l wx h40 hok h
    obtain ⟨C, hC⟩ : ∃ C, C = chkL l := ⟨_, rfl⟩
    obtain ⟨m, hm⟩ : ∃ m, m = code39 l := ⟨_, rfl⟩
    have hml : m.length ≤ 1048576 := by rw [hm]; omega
    rw [← hm] at hrd
    simp only [← hC] at hcl hco
    simp only [← hm] at hcc hcf
    have hrl : m.reverse.length ≤ 1048576 := by rw [List.length_reverse]; exact hml
    have Hm1 := Lib.hid (fun wx hw => show Calls Tryd.prog 70 #[.string ⟨m.toArray⟩] wx fun e w' => e = .returned (.tuple #[.string ⟨l.toArray⟩, .int .i64 0]) ∧ Bl wx w' from by have h := read39x_any m wx hml hw; rw [hrd.1] at h; exact h)
    have Hm2 := Lib.hid (fun wx hw => show Calls Tryd.prog 70 #[.string ⟨m.reverse.toArray⟩] wx fun e w' => e = .returned (.tuple #[.string ⟨l.toArray⟩, .int .i64 0]) ∧ Bl wx w' from by have h := read39x_any m.reverse wx hrl hw; rw [hrd.2] at h; exact h)
    have hfl := fun wx => flip_any m wx (by omega)
    unfold FlipRes at hfl
    obtain ⟨r, hr⟩ : ∃ r, r = m.reverse := ⟨_, rfl⟩
    rw [← hr] at Hm2 hfl
    have Hfl := Lib.hid hfl; have Hcl := Lib.hid hcl; have Hcc := Lib.hid hcc; have Hle := Lib.hid hle; have Hco := Lib.hid hco; have Hcf := Lib.hid hcf
    clear hfl hcl hcc hle hco hcf hr hm hC hv hc hrd hcl39 h0 hok hrl
    go_enter Tryd.func9, Tryd.ntmps9
    go_wp2_with fail
    refine (Hcl.out _).mono ?_
    rintro e w1 ⟨rfl, hb1⟩
    go_wp2_with fail
    refine (Hcc.out _ (HT.out.bl hb1)).mono ?_
    rintro e w2 ⟨rfl, hb2⟩
    have HB2 := Lib.hid (hb1.trans hb2)
    clear hb1 hb2 Hcl Hcc
    go_wp2_with fail
    refine (Hle.out _).mono ?_
    rintro e w3 ⟨rfl, hb3⟩
    have HB3 := Lib.hid (HB2.out.trans hb3)
    clear hb3 HB2 Hle
    go_wp2_with fail
    refine (bars_any _).mono ?_
    rintro e w4 ⟨rfl, hb4⟩
    have HB4 := Lib.hid (HB3.out.trans hb4)
    clear hb4 HB3
    go_wp2_with fail
    refine (Hco.out _).mono ?_
    rintro e w5 ⟨rfl, hw5⟩
    subst hw5
    go_wp2_with fail
    refine (Hcf.out _ (HT.out.bl HB4.out)).mono ?_
    rintro e w6 ⟨rfl, hb6⟩
    have HB6 := Lib.hid (HB4.out.trans hb6)
    clear hb6 HB4 Hco Hcf
    go_wp2_with fail
    refine (Hfl.out _).mono ?_
    rintro e w12 ⟨rfl, hb12⟩
    have HB12 := Lib.hid (HB6.out.trans hb12)
    clear hb12 HB6 Hfl
    go_wp2_with fail
    have hbk := Blk.new w12 9 #[.string ⟨m.toArray⟩, .string ⟨r.toArray⟩]
    have hb13 : Bl w (w12.alloc (.cells #[.string ⟨m.toArray⟩, .string ⟨r.toArray⟩] 9)) := HB12.out.alloc _
    obtain ⟨kb, hkb⟩ : ∃ k, k = w12.heap.size := ⟨_, rfl⟩
    rw [← hkb] at hbk ⊢
    generalize w12.alloc (.cells #[.string ⟨m.toArray⟩, .string ⟨r.toArray⟩] 9) = w13 at hbk hb13 ⊢
    have kc := hbk.all2
    have HBk := Lib.hid hbk; have HB13 := Lib.hid hb13
    clear hkb hb13 HB12 hbk
    refine wp_loop_rounds 3 ?_
    rw [rounds_succ]
    go_wp2_with fail
    refine (Hm1.out _ (HT.out.bl HB13.out)).mono ?_
    rintro e w15 ⟨rfl, hb15⟩
    have HB15 := Lib.hid hb15
    clear hb15 kc
    have kc := (HBk.out.bl HB15.out).all2
    go_wp2_with fail
    rw [rounds_succ]
    go_wp2_with fail
    refine (Hm2.out _ (HT.out.bl (HB13.out.trans HB15.out))).mono ?_
    rintro e w17 ⟨rfl, hb17⟩
    have HB17 := Lib.hid ((HB13.out.trans HB15.out).trans hb17)
    clear hb17 kc
    go_wp2_with fail
    rw [rounds_succ]
    go_wp2_with fail
    refine (Hr1.out _ (HT.out.bl HB17.out)).mono ?_
    rintro e w10 ⟨rfl, hb10⟩
    have HB10 := Lib.hid (HB17.out.trans hb10)
    clear hb10 Hr1
    go_wp2_with fail
    refine (Hr2.out _ (HT.out.bl HB10.out)).mono ?_
    rintro e w11 ⟨rfl, hb11⟩
    have HB11 := Lib.hid (HB10.out.trans hb11)
    clear hb11 Hr2
    go_wp2_with fail
    go_ret
    exact ⟨by simp, HB11.out⟩
  · have hv : letVal l = [] := by unfold letVal; rw [if_neg h0]
    have hc : codeRes l = [] := by unfold codeRes; rw [if_neg h0]
    simp only [hv, hc] at hcl hcc
    obtain ⟨ev, hev⟩ : ∃ e, e = letErr l := ⟨_, rfl⟩
    rw [← hev] at h0
    simp only [← hev] at hcl hcc hle
    have hq : (ev != 0) = true := by rw [bne_iff_ne]; exact h0
    have hqe : (ev == 0) = false := by rw [beq_eq_false_iff_ne]; exact h0
    have Hcl := Lib.hid hcl; have Hcc := Lib.hid hcc; have Hle := Lib.hid hle
    clear hcl hcc hle hv hc hev
    go_enter Tryd.func9, Tryd.ntmps9
    go_wp2_with fail
    refine (Hcl.out _).mono ?_
    rintro e w1 ⟨rfl, hb1⟩
    go_wp2_with fail
    refine (Hcc.out _ (HT.out.bl hb1)).mono ?_
    rintro e w2 ⟨rfl, hb2⟩
    have HB2 := Lib.hid (hb1.trans hb2)
    clear hb1 hb2 Hcl Hcc
    go_wp2_with fail
    refine (Hle.out _).mono ?_
    rintro e w3 ⟨rfl, hb3⟩
    have HB3 := Lib.hid (HB2.out.trans hb3)
    clear hb3 HB2 Hle
    go_wp2_with fail
    refine (bars_any _).mono ?_
    rintro e w4 ⟨rfl, hb4⟩
    have HB4 := Lib.hid (HB3.out.trans hb4)
    clear hb4 HB3
    go_wp2_with fail
    refine (Hr1.out _ (HT.out.bl HB4.out)).mono ?_
    rintro e w10 ⟨rfl, hb10⟩
    have HB10 := Lib.hid (HB4.out.trans hb10)
    clear hb10 Hr1
    go_wp2_with fail
    refine (Hr2.out _ (HT.out.bl HB10.out)).mono ?_
    rintro e w11 ⟨rfl, hb11⟩
    have HB11 := Lib.hid (HB10.out.trans hb11)
    clear hb11 Hr2
    go_wp2_with fail
    go_ret
    exact ⟨by simp, HB11.out⟩

end Go.Proofs.YtjelhdpcaileiaaDoor
