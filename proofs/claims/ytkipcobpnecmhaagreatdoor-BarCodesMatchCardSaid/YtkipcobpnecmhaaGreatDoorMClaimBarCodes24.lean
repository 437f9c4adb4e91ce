/- WriteByte leaves iterators as they were; strings.Map of a text of 0 and 1 that exchanges them; bar.exchanged, bedref2.right. -/
import Derived.Test.YtkipcobpnecmhaaGreatDoorMClaimBarCodes22
import Derived.Lib.OthersKept

namespace Go.Proofs.YtkipcobpnecmhaaGreatDoor
open Go.RowKit Go.Shelf

/-- Iterators over texts lie as they were. -/
def KeepsIt (w w' : World) : Prop := ∀ (j : Nat) (s : ByteArray) (p : Nat), w.heap[j]? = some (.stringIter s p) → w'.heap[j]? = some (.stringIter s p)
theorem KeepsIt.refl (w : World) : KeepsIt w w := fun _ _ _ h => h
theorem KeepsIt.trans {a b c : World} (h : KeepsIt a b) (k : KeepsIt b c) : KeepsIt a c := fun j s p e => k j s p (h j s p e)
theorem KeepsIt.setCell {a w : World} (h : KeepsIt a w) (q : Addr) (u : Value) : KeepsIt a (w.setCell q u) := fun j s p e => by
  have h1 := h j s p e
  show (w.setCell q u).heap[j]? = _
  unfold World.setCell
  simp only [Array.getElem?_modify]
  by_cases hj : q.block = j
  · rw [if_pos hj, h1]; rfl
  · rw [if_neg hj, h1]
theorem KeepsIt.alloc {a w : World} (h : KeepsIt a w) (o : Obj) : KeepsIt a (w.alloc o) := fun j s p e => by
  have h1 := h j s p e
  exact (Below.heap_alloc w o j (Array.getElem?_eq_some_iff.1 h1).1).trans h1
theorem KeepsIt.grown {a w w' : World} {v : Value} {B n : Nat} {e : TypeId} {xs : List Value} (h : KeepsIt a w) (hg : w.grownBy w' v.ownBlock) (ho : w.ownsRowF B e 1 v n xs) : KeepsIt a w' := fun j s p e => by
  have h1 := h j s p e
  rw [hg.block j (Array.getElem?_eq_some_iff.1 h1).1 (fun hv => ?_)]
  · exact h1
  · rcases ho.2 with ⟨h2, _⟩ | ⟨g, cap, cur, fz, h2, -, hh, -⟩
    · subst h2; cases hv
    · subst h2
      injection hv with hv
      subst hv
      rw [h1] at hh
      cases hh

set_option maxHeartbeats 2000000 in
set_option maxRecDepth 100000 in
theorem writeByteK_any (B : Nat) (l : List UInt8) (c : UInt8) (w : World) (h : Bui B l w) (hlen : l.length + 1 ≤ 140737488355328) (hBw : B ≤ w.heap.size) :
    Calls Tryz.prog 97 #[.pointer (some ⟨B, 0, none⟩), .int .u8 (c.toNat : Int)] w fun e w' => e = .returned .nilIface ∧ Bui B (l ++ [c]) w' ∧ Below B w w' ∧ KeepsIt w w' := by
  obtain ⟨i0, hi, hz0, hz1, hz2⟩ := info_parts info_u8
  obtain ⟨cv, hcv⟩ : ∃ cv : Int, cv = (c.toNat : Int) := ⟨_, rfl⟩
  have hbc : Lib.byteCells (l ++ [c]) = Lib.byteCells l ++ [.int .u8 cv] := by rw [Lib.byteCells_append, hcv]; rfl
  have hbl : (Lib.byteCells l).length = l.length := Lib.byteCells_length l
  rw [← hcv]
  have Hbc := Lib.hid hbc; have Hbl := Lib.hid hbl
  clear hbc hbl hcv
  have hck : Calls Tryz.prog 104 #[.pointer (some ⟨B, 0, none⟩)] w fun e w' => e = .returned (.tuple #[]) ∧ Lib.BuilderAtF 88 5 B B (.pointer (some ⟨B, 0, none⟩)) (Lib.byteCells l) w' ∧ Below B w w' ∧ KeepsIt w w' := by
    rcases h with h | h
    · refine (check_fresh B w h.cell0 h.shape h.frozen0).mono ?_
      rintro e w' ⟨rfl, rfl⟩
      exact ⟨rfl, h.used _, (Below.refl B w).setCell (p := ⟨B, 0, none⟩) (Nat.le_refl _) _, (KeepsIt.refl w).setCell _ _⟩
    · refine (check_used B w h.cell0).mono ?_
      rintro e w' ⟨rfl, rfl⟩
      exact ⟨rfl, h, Below.refl B _, KeepsIt.refl _⟩
  obtain ⟨bs, hbs⟩ : ∃ bs, bs = Lib.byteCells l := ⟨_, rfl⟩
  rw [← hbs] at hck Hbc Hbl
  have Hck := Lib.hid hck
  clear hbs hck h
  go_enter Tryz.func97, Tryz.ntmps97
  go_wp2_with (go_at_call 104; refine Hck.out.mono ?_)
  rintro e w1 ⟨rfl, h1, hb1, hk1⟩
  obtain ⟨hB, v, hbk, hown, hne⟩ := h1
  have HK1 := Lib.hid hk1
  clear hk1
  have c0 : w1.cell? ⟨B, 0, none⟩ = some (.pointer (some ⟨B, 0, none⟩)) := by rw [Lib.cell_of_heap hbk]; rfl
  have c1 : w1.cell? ⟨B, 1, none⟩ = some v := by rw [Lib.cell_of_heap hbk]; rfl
  go_wp2_with (at_builtin; refine wpList_append_ownF _ rfl _ _ 40 rfl B 5 i0 (.int .u8 0) 1 1 Tryz.underlying40 hi hz0 hz1 hz2 rfl (by decide) _ _ _ rfl (hown.alloc _) ⟨w1.heap.size, 0, none⟩ 1 1 [.int .u8 cv] rfl rfl ?c1 ?c2 ?c3 ?c4 ?c5 ?_)
  case c1 =>
    intro j u hj
    match j, hj with
    | 0, hj => simp at hj; subst hj; simp [Addr.add]
  case c2 => intro u hu; simp at hu; subst hu; rfl
  case c3 => unfold maxLen; have := Hbl.out; omega
  case c4 => have := Hbl.out; omega
  case c5 => have := hb1.size; simp; omega
  intro v' w2 hown' hgrow _
  have hlt : B < w1.heap.size := by
    rcases Nat.lt_or_ge B w1.heap.size with h' | h'
    · exact h'
    · simp [Array.getElem?_eq_none h'] at hbk
  have hb2 : w2.heap[B]? = some (.cells #[.pointer (some ⟨B, 0, none⟩), v] 88 (0, 0)) := by
    rw [hgrow.block B (by simp; omega) (fun e => hne e.symm), Lib.alloc_old w1 _ B hlt]
    exact hbk
  have d0 : w2.cell? ⟨B, 0, none⟩ = some (.pointer (some ⟨B, 0, none⟩)) := by rw [Lib.cell_of_heap hb2]; rfl
  have d1 : w2.cell? ⟨B, 1, none⟩ = some v := by rw [Lib.cell_of_heap hb2]; rfl
  have f1 : w2.frozen? ⟨B, 1, none⟩ = false := Lib.frozen_of_heap hb2 1
  obtain ⟨g, cap, rfl⟩ : ∃ g cap, v' = .slice (some ⟨g, 0, none⟩) (bs.length + 1) cap := by
    rcases hown'.2 with ⟨_, h0⟩ | ⟨g, cap, cur, fz, hv, _⟩
    · omega
    · exact ⟨g, cap, hv⟩
  have hput := Lib.BuilderAtF.put (T := 88) (e := 5) hB hb2 (bs' := bs ++ [.int .u8 cv]) (by simpa using hown') (by decide)
  have hbel : Below B w (w2.setCell ⟨B, 1, none⟩ (.slice (some ⟨g, 0, none⟩) (bs.length + 1) cap)) := ((hb1.alloc (by have := hb1.size; omega) _).grown hgrow (by have := hb1.size; simp; omega) (fun k hk => (hown.lt k hk).1)).setCell (p := ⟨B, 1, none⟩) hB _
  have hki : KeepsIt w (w2.setCell ⟨B, 1, none⟩ (.slice (some ⟨g, 0, none⟩) (bs.length + 1) cap)) := ((HK1.out.alloc _).grown hgrow (hown.alloc _)).setCell _ _
  have Hput := Lib.hid hput; have Hbel := Lib.hid hbel; have Hki := Lib.hid hki
  clear hput hbel hki hown' hgrow hown hbk hb2 hlt hb1 hne HK1
  go_wp2
  go_ret
  exact ⟨rfl, by show Lib.IsBuilderF _ _ B B (Lib.byteCells (l ++ [c])) _; rw [Hbc.out]; exact Or.inr Hput.out, Hbel.out, Hki.out⟩
theorem bui_iter {B : Nat} {l : List UInt8} {w : World} (h : Bui B l w) {k : Nat} {s : ByteArray} {pos : Nat} (hk : w.heap[k]? = some (.stringIter s pos)) (pos' : Nat) : Bui B l (w.iterAt k s pos') :=
  h.elim (fun x => .inl (x.iterAt hk pos')) (fun x => .inr (x.iterAt hk pos'))

theorem exB_cons (c : UInt8) (l : List UInt8) : exB (c :: l) = (97 - c) :: exB l := rfl
theorem extract_zero (l : List UInt8) : (⟨l.toArray⟩ : ByteArray).extract 0 0 = ⟨#[]⟩ := by
  apply ByteArray.ext
  rw [ByteArray.data_extract]
  simp
theorem madeOf_cons {c : UInt8} {l cs : List UInt8} : madeOf (c :: l) cs = (cs.contains c && madeOf l cs) := rfl
theorem bit_of {c : UInt8} (h : ([48, 49] : List UInt8).contains c = true) : c = 48 ∨ c = 49 := by
  simpa using h

set_option maxHeartbeats 8000000 in
set_option maxRecDepth 100000 in
/-- strings.Map of bits: each one is exchanged. -/
theorem map_any (g : Nat) (eg : ∀ args w, (callFunc g args).run Tryz.prog w = .ok (.enter g args) w)
    (hf : ∀ (c : UInt8) (W : World), c = 48 ∨ c = 49 → Calls Tryz.prog g #[.int .i32 (c.toNat : Int)] W fun e w' => e = .returned (.int .i32 ((97 - c).toNat : Int)) ∧ W = w')
    (c : UInt8) (l : List UInt8) (hm : madeOf (c :: l) [48, 49] = true) (hl : l.length ≤ 1000) (w : World) :
    Calls Tryz.prog 51 #[.func (.func g) #[] #[], .string ⟨(c :: l).toArray⟩] w fun e w' => e = .returned (.string ⟨(exB (c :: l)).toArray⟩) ∧ Bl w w' := by
  rw [madeOf_cons, Bool.and_eq_true] at hm
  obtain ⟨hc, hm⟩ := hm
  have hc2 := bit_of hc
  obtain ⟨m, hm1⟩ : ∃ m, m = l.length + 1 := ⟨_, rfl⟩
  have hsz : (⟨(c :: l).toArray⟩ : ByteArray).size = m := by rw [Lib.size_mk, hm1]; rfl
  have hm2 : m ≤ 1001 := by omega
  have HMl := Lib.hid hm1
  clear hm1 hl
  have hfc := Lib.hid (fun W => hf c W hc2)
  have HF := Lib.hid hf
  have HM := Lib.hid hm
  clear hf hm hc
  have hne : ((97 - c).toNat : Int) ≠ (c.toNat : Int) := by rcases hc2 with rfl | rfl <;> decide
  have hr : (97 - c).toNat < 128 := by rcases hc2 with rfl | rfl <;> decide
  have hc128 : c.toNat < 128 := by rcases hc2 with rfl | rfl <;> decide
  have hc0 : 0 < c.toNat := by rcases hc2 with rfl | rfl <;> decide
  obtain ⟨r, hrr⟩ : ∃ r : UInt8, r = 97 - c := ⟨_, rfl⟩
  rw [← hrr] at hne hr hfc
  have HR := Lib.hid hrr
  clear hrr hc2
  have hbq : ((r.toNat : Int) == (c.toNat : Int)) = false := by rw [beq_eq_false_iff_ne]; exact hne
  have hbq2 : ((c.toNat : Int) == 65533) = false := by rw [beq_eq_false_iff_ne]; omega
  have Hwr := Lib.hid (fun W hb hB => writeRune_any w.heap.size [] r hr W hb (by decide) hB)
  have Hrl := Lib.hid (runeLen_any c hc128)
  clear hne
  go_enter Tryz.func51, Tryz.ntmps51
  go_wp2_with fail
  obtain ⟨B, hB⟩ : ∃ B, B = w.heap.size := ⟨_, rfl⟩
  obtain ⟨w1, hw1⟩ : ∃ x, x = ((w.alloc (.cells #[.pointer none, .slice none 0 0] 88)).iter ⟨(c :: l).toArray⟩ 0) := ⟨_, rfl⟩
  have hit : w1.heap[B + 1]? = some (.stringIter ⟨(c :: l).toArray⟩ 0) := by
    rw [hw1, hB]
    have h := heap_alloc_new (w.alloc (.cells #[.pointer none, .slice none 0 0] 88)) (.stringIter ⟨(c :: l).toArray⟩ 0)
    rw [World.size_alloc] at h
    exact h
  have hbk : w1.heap[B]? = some (.cells #[.pointer none, .slice none 0 0] 88 (0, 0)) := by
    rw [hw1, hB]
    exact (Blk.new w 88 #[.pointer none, .slice none 0 0]).alloc (.stringIter ⟨(c :: l).toArray⟩ 0)
  have hb1 : Bl w w1 := by rw [hw1]; exact ((Bl.refl w).alloc _).alloc _
  have hs1 : B + 2 ≤ w1.heap.size := by
    rw [hw1, hB]
    show w.heap.size + 2 ≤ ((w.alloc _).alloc (.stringIter ⟨(c :: l).toArray⟩ 0)).heap.size
    simp
  rw [← hw1, ← hB]
  rw [← hB] at Hwr
  have HB := Lib.hid hB
  clear hw1 hB
  have hih : 0 < (⟨(c :: l).toArray⟩ : ByteArray).size := by rw [hsz]; have := HMl.out; omega
  have hg0 : (⟨(c :: l).toArray⟩ : ByteArray)[0]'hih = c := rfl
  have hnx0 := fun ty => Lib.run_next_ascii_at (P := Tryz.prog) w1 (B + 1) ⟨(c :: l).toArray⟩ 0 ty hit hih (by rw [hg0]; exact hc128)
  have h2b : Bl w (w1.iterAt (B + 1) ⟨(c :: l).toArray⟩ (0 + 1)) := Lib.below_iterAt hb1 (k := B + 1) (by rw [HB.out]; omega) _ _
  have h2k : (w1.iterAt (B + 1) ⟨(c :: l).toArray⟩ (0 + 1)).heap[B]? = some (.cells #[.pointer none, .slice none 0 0] 88 (0, 0)) := (Lib.iterAt_other w1 (B + 1) B ⟨(c :: l).toArray⟩ (0 + 1) (by omega)).trans hbk
  have h2s : B + 2 ≤ (w1.iterAt (B + 1) ⟨(c :: l).toArray⟩ (0 + 1)).heap.size := by rw [Lib.iterAt_size]; exact hs1
  rw [hg0] at hnx0
  generalize w1.iterAt (B + 1) ⟨(c :: l).toArray⟩ (0 + 1) = w2 at hnx0 h2b h2k h2s
  have hnx : ∀ ty, (Instr.next (.pointer (some ⟨B + 1, 0, none⟩)) true ty).run Tryz.prog w1 = .ok (.tuple #[.bool true, .int .i64 0, .int .i32 (c.toNat : Int)]) w2 := hnx0
  have H2b := Lib.hid h2b; have H2k := Lib.hid h2k; have H2s := Lib.hid h2s
  clear hnx0 h2b h2k h2s hit hbk hb1 hs1 hih hg0
  refine wp_loop_rounds 1 ?_
  rw [rounds_succ]
  go_wp2_with fail
  refine (hfc.out _).mono ?_
  rintro e w' ⟨rfl, rfl⟩
  go_wp2_with fail
  refine (Hrl.out _).mono ?_
  rintro e w' ⟨rfl, rfl⟩
  have hgr := growAt_any B (m + 4) w2 H2k.out (by have := H2s.out; omega) (by omega) (by omega)
  rw [show ((m + 4 : Nat) : Int) = (m : Int) + 4 by omega] at hgr
  have Hgr := Lib.hid hgr
  clear hgr
  go_wp2_with fail
  refine Hgr.out.mono ?_
  rintro e w3 ⟨rfl, hu3, hb3⟩
  have hx0 := extract_zero (c :: l)
  have hw3 : B + 2 ≤ w3.heap.size := Nat.le_trans H2s.out hb3.size
  have Hws := Lib.hid (writeString_any B [] [] w3 hu3 (by decide) (by omega))
  have Hb3 := Lib.hid (Bl.trans' H2b.out HB.out.symm hb3)
  clear hu3 hb3
  go_wp2_with fail
  refine Hws.out.mono ?_
  rintro e w4 ⟨rfl, hu4, hb4⟩
  have hw4 : B + 2 ≤ w4.heap.size := Nat.le_trans hw3 hb4.size
  have Hwr4 := Lib.hid (Hwr.out w4 hu4 (by omega))
  have Hb4 := Lib.hid (Bl.trans' Hb3.out HB.out.symm hb4)
  clear hu4 hb4 Hb3 Hws Hwr hx0 hw3
  have hr0 : (0 : Int) ≤ (r.toNat : Int) := by omega
  have hx1 : (⟨(c :: l).toArray⟩ : ByteArray).extract 1 m = ⟨l.toArray⟩ := by
    rw [HMl.out]
    exact extract_drop (c :: l) 1
  have hm1 : (1 : Int) ≤ (m : Int) := by have := HMl.out; omega
  go_wp2_with fail
  refine Hwr4.out.mono ?_
  rintro e w5 ⟨⟨v5, rfl⟩, hu5, hb5⟩
  have hw5 : B + 2 ≤ w5.heap.size := Nat.le_trans hw4 hb5.size
  have Hcap := Lib.hid (builderCap_any B [r] w5 hu5 (by simp))
  have Hu5 := Lib.hid hu5
  have Hb5 := Lib.hid (Bl.trans' Hb4.out HB.out.symm hb5)
  clear hu5 hb5 Hb4 Hwr4 hw4
  go_wp2_with fail
  refine Hcap.out.mono ?_
  rintro e w' ⟨cc, rfl, rfl⟩
  obtain ⟨cz, hcz⟩ : ∃ z : Int, z = ((cc + 1 : Nat) : Int) := ⟨_, rfl⟩
  have hq0 : (cz == 0) = false := by rw [beq_eq_false_iff_ne]; omega
  rw [← hcz]
  clear hcz hx1 hm1 hnx Hcap
  have hsl : (⟨l.toArray⟩ : ByteArray).size = l.length := Lib.size_mk l
  go_wp2_with fail
  obtain ⟨K, hK⟩ : ∃ K, K = w5.heap.size := ⟨_, rfl⟩
  obtain ⟨w6, hw6⟩ : ∃ x, x = w5.iter ⟨l.toArray⟩ 0 := ⟨_, rfl⟩
  have hit : w6.heap[K]? = some (.stringIter ⟨l.toArray⟩ 0) := by
    rw [hw6, hK]
    exact heap_alloc_new w5 (.stringIter ⟨l.toArray⟩ 0)
  have hu6 : Bui B (exB (c :: l.take 0)) w6 := by
    rw [hw6, exB_cons, ← HR.out]
    exact Lib.IsBuilderF.alloc Hu5.out (.stringIter ⟨l.toArray⟩ 0)
  have hb6 : Bl w w6 := by rw [hw6]; exact Hb5.out.alloc _
  have hs6 : B + 2 ≤ w6.heap.size := by
    rw [hw6]
    show B + 2 ≤ (w5.alloc (.stringIter ⟨l.toArray⟩ 0)).heap.size
    simp
    omega
  rw [← hw6, ← hK]
  have hBK : B + 2 ≤ K := by omega
  have Hst0 := Lib.hid (And.intro hit (And.intro hu6 (And.intro hb6 hs6)))
  have HBK := Lib.hid hBK
  clear hw6 hK hit hu6 hb6 hs6 hBK hw5 Hu5 Hb5
  go_loopw [] (fun wi => ∃ i : Nat, i ≤ l.length ∧ wi.heap[K]? = some (.stringIter ⟨l.toArray⟩ i) ∧ Bui B (exB (c :: l.take i)) wi ∧ Bl w wi ∧ B + 2 ≤ wi.heap.size) (fun wi => l.length - wi.iterPos K)
  case atStart => exact ⟨0, Nat.zero_le _, Hst0.out⟩
  case round =>
    rename World => wi
    obtain ⟨i, hi, hit, hui, hbi, hsi⟩ := hrel
    have hBK := HBK.out
    by_cases hlt : i < l.length
    · have hih : i < (⟨l.toArray⟩ : ByteArray).size := by rw [hsl]; exact hlt
      have hgi := Lib.getElem_mk l i hih
      obtain ⟨d, hd⟩ : ∃ d, d = (⟨l.toArray⟩ : ByteArray)[i]'hih := ⟨_, rfl⟩
      rw [← hd] at hgi
      have hdc := List.all_eq_true.1 (show (l.all fun b => ([48, 49] : List UInt8).contains b) = true from HM.out) d (List.mem_of_getElem? hgi)
      have hd2 := bit_of hdc
      have hd128 : d.toNat < 128 := by rcases hd2 with rfl | rfl <;> decide
      have hnx0 := fun ty => Lib.run_next_ascii_at (P := Tryz.prog) wi K ⟨l.toArray⟩ i ty hit hih (by rw [← hd]; exact hd128)
      have h7b : Bl w (wi.iterAt K ⟨l.toArray⟩ (i + 1)) := Lib.below_iterAt hbi (k := K) (by have := HB.out; omega) _ _
      have h7u : Bui B (exB (c :: l.take i)) (wi.iterAt K ⟨l.toArray⟩ (i + 1)) := bui_iter hui hit (i + 1)
      have h7i := Lib.iterAt_heap wi K ⟨l.toArray⟩ i (i + 1) hit
      have h7s : B + 2 ≤ (wi.iterAt K ⟨l.toArray⟩ (i + 1)).heap.size := by rw [Lib.iterAt_size]; exact hsi
      rw [← hd] at hnx0
      generalize wi.iterAt K ⟨l.toArray⟩ (i + 1) = w7 at hnx0 h7b h7u h7i h7s
      have hnx : ∀ ty, (Instr.next (.pointer (some ⟨K, 0, none⟩)) true ty).run Tryz.prog wi = .ok (.tuple #[.bool true, .int .i64 (i : Int), .int .i32 (d.toNat : Int)]) w7 := hnx0
      have Hfd := Lib.hid (fun W => HF.out d W hd2)
      obtain ⟨q, hq⟩ : ∃ q : UInt8, q = 97 - d := ⟨_, rfl⟩
      have hq1 : q.toNat < 128 := by rw [hq]; rcases hd2 with rfl | rfl <;> decide
      have hq2 : 0 < q.toNat := by rw [hq]; rcases hd2 with rfl | rfl <;> decide
      have hex : exB (c :: l.take (i + 1)) = exB (c :: l.take i) ++ [q] := by
        rw [List.take_add_one, hgi, hq]
        unfold exB
        simp
      have hxl : (exB (c :: l.take i)).length + 1 ≤ 140737488355328 := by
        unfold exB
        rw [List.length_map, List.length_cons, List.length_take]
        have := HMl.out
        omega
      rw [← hq] at Hfd
      have Hwb := Lib.hid (writeByteK_any B _ q w7 h7u hxl (by omega))
      rw [← hex] at Hwb
      have H7b := Lib.hid h7b; have H7i := Lib.hid h7i; have H7s := Lib.hid h7s; have Hit := Lib.hid hit
      have hq3 : (q.toNat : Int) < 128 := by omega
      have hq4 : (0 : Int) ≤ (q.toNat : Int) := by omega
      clear hnx0 h7b h7u h7i h7s hgi hd hdc hd2 hq hex hxl hit hui hbi hsi Hst0
      go_wp2_with fail
      refine (Hfd.out _).mono ?_
      rintro e w' ⟨rfl, rfl⟩
      go_wp2_with fail
      refine Hwb.out.mono ?_
      rintro e w8 ⟨rfl, hu8, hb8, hk8⟩
      have Hst := Lib.hid (show w8.heap[K]? = some (.stringIter ⟨l.toArray⟩ (i + 1)) ∧ Bui B (exB (c :: l.take (i + 1))) w8 ∧ Bl w w8 ∧ B + 2 ≤ w8.heap.size from ⟨hk8 _ _ _ H7i.out, hu8, Bl.trans' H7b.out HB.out.symm hb8, Nat.le_trans H7s.out hb8.size⟩)
      clear hu8 hb8 hk8
      go_wp2_with fail
      exact ⟨⟨i + 1, hlt, Hst.out⟩, by simp only [World.iterPos, Hst.out.1, Hit.out]; omega⟩
    · obtain rfl : i = l.length := by omega
      have hnx : ∀ ty, (Instr.next (.pointer (some ⟨K, 0, none⟩)) true ty).run Tryz.prog wi = .ok (.tuple #[.bool false]) wi := fun ty => Lib.run_next_end_at wi K ⟨l.toArray⟩ l.length ty hit (by rw [hsl]; omega)
      rw [List.take_length] at hui
      have Hbs := Lib.hid (builderString_any B _ wi hui (by omega))
      have Hbi := Lib.hid hbi
      clear hui hbi hit Hst0
      go_wp2_with fail
      refine Hbs.out.mono ?_
      rintro e w9 ⟨rfl, hb9⟩
      have hb := Bl.trans' Hbi.out HB.out.symm hb9
      go_wp2_with fail
      go_ret
      exact ⟨rfl, hb⟩

end Go.Proofs.YtkipcobpnecmhaaGreatDoor
