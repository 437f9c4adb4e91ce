/- From a statement's row to a walk: lists of values are opened. No condition. -/
import Derived.Test.YthobmednnocklaaGreatDoorMClaimFills12
import Derived.Test.YthobmednnocklaaGreatDoorMClaimFills6
import Derived.Test.YthobmednnocklaaGreatDoorMClaimFills9
import Derived.Test.YthobmednnocklaaGreatDoorMClaimFills2
import Derived.Test.YthobmednnocklaaGreatDoorMClaimFills8
import Derived.Test.YthobmednnocklaaGreatDoorMClaimFills4
import Derived.Test.YthobmednnocklaaGreatDoorMClaimFills10
import Derived.Test.YthobmednnocklaaGreatDoorMClaimFills11
import Derived.Lib.OthersKept
import Derived.Shelf.Strings.Split
import Derived.Lib.Split
import Derived.Lib.CountLaws

namespace Go.Proofs.YthobmednnocklaaGreatDoor
open Go.RowKit Go.Shelf

/-- Iterators over texts lie as they were. -/
def KeepsIt (w w' : World) : Prop := ∀ (j : Nat) (s : ByteArray) (p : Nat), w.heap[j]? = some (.stringIter s p) → w'.heap[j]? = some (.stringIter s p)
theorem KeepsIt.refl (w : World) : KeepsIt w w := fun _ _ _ h => h
theorem KeepsIt.trans {a b c : World} (h : KeepsIt a b) (k : KeepsIt b c) : KeepsIt a c := fun j s p e => k j s p (h j s p e)
theorem KeepsIt.setCell {a w : World} (h : KeepsIt a w) (q : Addr) (u : Value) : KeepsIt a (w.setCell q u) := fun j s p e => by
 have h1 := h j s p e
 show (w.setCell q u).heap[j]? = _
 unfold World.setCell
 simp only [Array.getElem?_modify]
 by_cases hj : q.block = j
 · rw [if_pos hj, h1]; rfl
 · rw [if_neg hj, h1]
theorem KeepsIt.alloc {a w : World} (h : KeepsIt a w) (o : Obj) : KeepsIt a (w.alloc o) := fun j s p e => by
 have h1 := h j s p e
 exact (Below.heap_alloc w o j (Array.getElem?_eq_some_iff.1 h1).1).trans h1
theorem KeepsIt.grown {a w w' : World} {v : Value} {B n : Nat} {e : TypeId} {xs : List Value} (h : KeepsIt a w) (hg : w.grownBy w' v.ownBlock) (ho : w.ownsRowF B e 1 v n xs) : KeepsIt a w' := fun j s p e => by
 have h1 := h j s p e
 rw [hg.block j (Array.getElem?_eq_some_iff.1 h1).1 (fun hv => ?_)]
 · exact h1
 · rcases ho.2 with ⟨h2, _⟩ | ⟨g, cap, cur, fz, h2, -, hh, -⟩
   · subst h2; cases hv
   · subst h2
     injection hv with hv
     subst hv
     rw [h1] at hh
     cases hh

set_option maxHeartbeats 2000000 in
set_option maxRecDepth 100000 in
theorem writeByteK_any (B : Nat) (l : List UInt8) (c : UInt8) (w : World) (h : Bui B l w) (hlen : l.length + 1 ≤ 140737488355328) (hBw : B ≤ w.heap.size) :
 Calls Tryz.prog 334 #[.pointer (some ⟨B, 0, none⟩), .int .u8 (c.toNat : Int)] w fun e w' => e = .returned .nilIface ∧ Bui B (l ++ [c]) w' ∧ Below B w w' ∧ KeepsIt w w' := by
 obtain ⟨i0, hi, hz0, hz1, hz2⟩ := info_parts info_u8
 obtain ⟨cv, hcv⟩ : ∃ cv : Int, cv = (c.toNat : Int) := ⟨_, rfl⟩
 have hbc : Lib.byteCells (l ++ [c]) = Lib.byteCells l ++ [.int .u8 cv] := by rw [Lib.byteCells_append, hcv]; rfl
 have hbl : (Lib.byteCells l).length = l.length := Lib.byteCells_length l
 rw [← hcv]
 have Hbc := Lib.hid hbc; have Hbl := Lib.hid hbl
 clear hbc hbl hcv
 have hck : Calls Tryz.prog 197 #[.pointer (some ⟨B, 0, none⟩)] w fun e w' => e = .returned (.tuple #[]) ∧ Lib.BuilderAtF 195 5 B B (.pointer (some ⟨B, 0, none⟩)) (Lib.byteCells l) w' ∧ Below B w w' ∧ KeepsIt w w' := by
  rcases h with h | h
  · refine (check_fresh B w h.cell0 h.shape h.frozen0).mono ?_
    rintro e w' ⟨rfl, rfl⟩
    exact ⟨rfl, h.used _, (Below.refl B w).setCell (p := ⟨B, 0, none⟩) (Nat.le_refl _) _, (KeepsIt.refl w).setCell _ _⟩
  · refine (check_used B w h.cell0).mono ?_
    rintro e w' ⟨rfl, rfl⟩
    exact ⟨rfl, h, Below.refl B _, KeepsIt.refl _⟩
 obtain ⟨bs, hbs⟩ : ∃ bs, bs = Lib.byteCells l := ⟨_, rfl⟩
 rw [← hbs] at hck Hbc Hbl
 have Hck := Lib.hid hck
 clear hbs hck h
 go_enter Tryz.func334, Tryz.ntmps334
 go_wp2_with (go_at_call 197; refine Hck.out.mono ?_)
 rintro e w1 ⟨rfl, h1, hb1, hk1⟩
 obtain ⟨hB, v, hbk, hown, hne⟩ := h1
 have HK1 := Lib.hid hk1
 clear hk1
 have c0 : w1.cell? ⟨B, 0, none⟩ = some (.pointer (some ⟨B, 0, none⟩)) := by rw [Lib.cell_of_heap hbk]; rfl
 have c1 : w1.cell? ⟨B, 1, none⟩ = some v := by rw [Lib.cell_of_heap hbk]; rfl
 go_wp2_with (at_builtin; refine wpList_append_ownF _ rfl _ _ 193 rfl B 5 i0 (.int .u8 0) 1 1 Tryz.underlying193 hi hz0 hz1 hz2 rfl (by decide) _ _ _ rfl (hown.alloc _) ⟨w1.heap.size, 0, none⟩ 1 1 [.int .u8 cv] rfl rfl ?c1 ?c2 ?c3 ?c4 ?c5 ?_)
 case c1 =>
  intro j u hj
  match j, hj with
  | 0, hj => simp at hj; subst hj; simp [Addr.add]
 case c2 => intro u hu; simp at hu; subst hu; rfl
 case c3 => unfold maxLen; have := Hbl.out; omega
 case c4 => have := Hbl.out; omega
 case c5 => have := hb1.size; simp; omega
 intro v' w2 hown' hgrow _
 have hlt : B < w1.heap.size := by
  rcases Nat.lt_or_ge B w1.heap.size with h' | h'
  · exact h'
  · simp [Array.getElem?_eq_none h'] at hbk
 have hb2 : w2.heap[B]? = some (.cells #[.pointer (some ⟨B, 0, none⟩), v] 195 (0, 0)) := by
  rw [hgrow.block B (by simp; omega) (fun e => hne e.symm), Lib.alloc_old w1 _ B hlt]
  exact hbk
 have d0 : w2.cell? ⟨B, 0, none⟩ = some (.pointer (some ⟨B, 0, none⟩)) := by rw [Lib.cell_of_heap hb2]; rfl
 have d1 : w2.cell? ⟨B, 1, none⟩ = some v := by rw [Lib.cell_of_heap hb2]; rfl
 have f1 : w2.frozen? ⟨B, 1, none⟩ = false := Lib.frozen_of_heap hb2 1
 obtain ⟨g, cap, rfl⟩ : ∃ g cap, v' = .slice (some ⟨g, 0, none⟩) (bs.length + 1) cap := by
  rcases hown'.2 with ⟨_, h0⟩ | ⟨g, cap, cur, fz, hv, _⟩
  · omega
  · exact ⟨g, cap, hv⟩
 have hput := Lib.BuilderAtF.put (T := 195) (e := 5) hB hb2 (bs' := bs ++ [.int .u8 cv]) (by simpa using hown') (by decide)
 have hbel : Below B w (w2.setCell ⟨B, 1, none⟩ (.slice (some ⟨g, 0, none⟩) (bs.length + 1) cap)) := ((hb1.alloc (by have := hb1.size; omega) _).grown hgrow (by have := hb1.size; simp; omega) (fun k hk => (hown.lt k hk).1)).setCell (p := ⟨B, 1, none⟩) hB _
 have hki : KeepsIt w (w2.setCell ⟨B, 1, none⟩ (.slice (some ⟨g, 0, none⟩) (bs.length + 1) cap)) := ((HK1.out.alloc _).grown hgrow (hown.alloc _)).setCell _ _
 have Hput := Lib.hid hput; have Hbel := Lib.hid hbel; have Hki := Lib.hid hki
 clear hput hbel hki hown' hgrow hown hbk hb2 hlt hb1 hne HK1
 go_wp2
 go_ret
 exact ⟨rfl, by show Lib.IsBuilderF _ _ B B (Lib.byteCells (l ++ [c])) _; rw [Hbc.out]; exact Or.inr Hput.out, Hbel.out, Hki.out⟩
theorem bui_iter {B : Nat} {l : List UInt8} {w : World} (h : Bui B l w) {k : Nat} {s : ByteArray} {pos : Nat} (hk : w.heap[k]? = some (.stringIter s pos)) (pos' : Nat) : Bui B l (w.iterAt k s pos') :=
 h.elim (fun x => .inl (x.iterAt hk pos')) (fun x => .inr (x.iterAt hk pos'))

theorem exB_cons (c : UInt8) (l : List UInt8) : exB (c :: l) = (97 - c) :: exB l := rfl
theorem extract_zero (l : List UInt8) : (⟨l.toArray⟩ : ByteArray).extract 0 0 = ⟨#[]⟩ := by
 apply ByteArray.ext
 rw [ByteArray.data_extract]
 simp
theorem madeOf_cons {c : UInt8} {l cs : List UInt8} : madeOf (c :: l) cs = (cs.contains c && madeOf l cs) := rfl
theorem bit_of {c : UInt8} (h : ([48, 49] : List UInt8).contains c = true) : c = 48 ∨ c = 49 := by
 simpa using h

set_option maxHeartbeats 8000000 in
set_option maxRecDepth 100000 in
/-- strings.Map of bits: each one is exchanged. -/
theorem map_any (g : Nat) (eg : ∀ args w, (callFunc g args).run Tryz.prog w = .ok (.enter g args) w)
 (hf : ∀ (c : UInt8) (W : World), c = 48 ∨ c = 49 → Calls Tryz.prog g #[.int .i32 (c.toNat : Int)] W fun e w' => e = .returned (.int .i32 ((97 - c).toNat : Int)) ∧ W = w')
 (c : UInt8) (l : List UInt8) (hm : madeOf (c :: l) [48, 49] = true) (hl : l.length ≤ 1000) (w : World) :
 Calls Tryz.prog 293 #[.func (.func g) #[] #[], .string ⟨(c :: l).toArray⟩] w fun e w' => e = .returned (.string ⟨(exB (c :: l)).toArray⟩) ∧ Bl w w' := by
 rw [madeOf_cons, Bool.and_eq_true] at hm
 obtain ⟨hc, hm⟩ := hm
 have hc2 := bit_of hc
 obtain ⟨m, hm1⟩ : ∃ m, m = l.length + 1 := ⟨_, rfl⟩
 have hsz : (⟨(c :: l).toArray⟩ : ByteArray).size = m := by rw [Lib.size_mk, hm1]; rfl
 have hm2 : m ≤ 1001 := by omega
 have HMl := Lib.hid hm1
 clear hm1 hl
 have hfc := Lib.hid (fun W => hf c W hc2)
 have HF := Lib.hid hf
 have HM := Lib.hid hm
 clear hf hm hc
 have hne : ((97 - c).toNat : Int) ≠ (c.toNat : Int) := by rcases hc2 with rfl | rfl <;> decide
 have hr : (97 - c).toNat < 128 := by rcases hc2 with rfl | rfl <;> decide
 have hc128 : c.toNat < 128 := by rcases hc2 with rfl | rfl <;> decide
 have hc0 : 0 < c.toNat := by rcases hc2 with rfl | rfl <;> decide
 obtain ⟨r, hrr⟩ : ∃ r : UInt8, r = 97 - c := ⟨_, rfl⟩
 rw [← hrr] at hne hr hfc
 have HR := Lib.hid hrr
 clear hrr hc2
 have hbq : ((r.toNat : Int) == (c.toNat : Int)) = false := by rw [beq_eq_false_iff_ne]; exact hne
 have hbq2 : ((c.toNat : Int) == 65533) = false := by rw [beq_eq_false_iff_ne]; omega
 have Hwr := Lib.hid (fun W hb hB => writeRune_any w.heap.size [] r hr W hb (by decide) hB)
 have Hrl := Lib.hid (runeLen_any c hc128)
 clear hne
 go_enter Tryz.func293, Tryz.ntmps293
 go_wp2_with fail
 obtain ⟨B, hB⟩ : ∃ B, B = w.heap.size := ⟨_, rfl⟩
 obtain ⟨w1, hw1⟩ : ∃ x, x = ((w.alloc (.cells #[.pointer none, .slice none 0 0] 195)).iter ⟨(c :: l).toArray⟩ 0) := ⟨_, rfl⟩
 have hit : w1.heap[B + 1]? = some (.stringIter ⟨(c :: l).toArray⟩ 0) := by
  rw [hw1, hB]
  have h := heap_alloc_new (w.alloc (.cells #[.pointer none, .slice none 0 0] 195)) (.stringIter ⟨(c :: l).toArray⟩ 0)
  rw [World.size_alloc] at h
  exact h
 have hbk : w1.heap[B]? = some (.cells #[.pointer none, .slice none 0 0] 195 (0, 0)) := by
  rw [hw1, hB]
  exact (Blk.new w 195 #[.pointer none, .slice none 0 0]).alloc (.stringIter ⟨(c :: l).toArray⟩ 0)
 have hb1 : Bl w w1 := by rw [hw1]; exact ((Bl.refl w).alloc _).alloc _
 have hs1 : B + 2 ≤ w1.heap.size := by
  rw [hw1, hB]
  show w.heap.size + 2 ≤ ((w.alloc _).alloc (.stringIter ⟨(c :: l).toArray⟩ 0)).heap.size
  simp
 rw [← hw1, ← hB]
 rw [← hB] at Hwr
 have HB := Lib.hid hB
 clear hw1 hB
 have hih : 0 < (⟨(c :: l).toArray⟩ : ByteArray).size := by rw [hsz]; have := HMl.out; omega
 have hg0 : (⟨(c :: l).toArray⟩ : ByteArray)[0]'hih = c := rfl
 have hnx0 := fun ty => Lib.run_next_ascii_at (P := Tryz.prog) w1 (B + 1) ⟨(c :: l).toArray⟩ 0 ty hit hih (by rw [hg0]; exact hc128)
 have h2b : Bl w (w1.iterAt (B + 1) ⟨(c :: l).toArray⟩ (0 + 1)) := Lib.below_iterAt hb1 (k := B + 1) (by rw [HB.out]; omega) _ _
 have h2k : (w1.iterAt (B + 1) ⟨(c :: l).toArray⟩ (0 + 1)).heap[B]? = some (.cells #[.pointer none, .slice none 0 0] 195 (0, 0)) := (Lib.iterAt_other w1 (B + 1) B ⟨(c :: l).toArray⟩ (0 + 1) (by omega)).trans hbk
 have h2s : B + 2 ≤ (w1.iterAt (B + 1) ⟨(c :: l).toArray⟩ (0 + 1)).heap.size := by rw [Lib.iterAt_size]; exact hs1
 rw [hg0] at hnx0
 generalize w1.iterAt (B + 1) ⟨(c :: l).toArray⟩ (0 + 1) = w2 at hnx0 h2b h2k h2s
 have hnx : ∀ ty, (Instr.next (.pointer (some ⟨B + 1, 0, none⟩)) true ty).run Tryz.prog w1 = .ok (.tuple #[.bool true, .int .i64 0, .int .i32 (c.toNat : Int)]) w2 := hnx0
 have H2b := Lib.hid h2b; have H2k := Lib.hid h2k; have H2s := Lib.hid h2s
 clear hnx0 h2b h2k h2s hit hbk hb1 hs1 hih hg0
 refine wp_loop_rounds 1 ?_
 rw [rounds_succ]
 go_wp2_with fail
 refine (hfc.out _).mono ?_
 rintro e w' ⟨rfl, rfl⟩
 go_wp2_with fail
 refine (Hrl.out _).mono ?_
 rintro e w' ⟨rfl, rfl⟩
 have hgr := growAt_any B (m + 4) w2 H2k.out (by have := H2s.out; omega) (by omega) (by omega)
 rw [show ((m + 4 : Nat) : Int) = (m : Int) + 4 by omega] at hgr
 have Hgr := Lib.hid hgr
 clear hgr
 go_wp2_with fail
 refine Hgr.out.mono ?_
 rintro e w3 ⟨rfl, hu3, hb3⟩
 have hx0 := extract_zero (c :: l)
 have hw3 : B + 2 ≤ w3.heap.size := Nat.le_trans H2s.out hb3.size
 have Hws := Lib.hid (writeString_any B [] [] w3 hu3 (by decide) (by omega))
 have Hb3 := Lib.hid (Bl.trans' H2b.out HB.out.symm hb3)
 clear hu3 hb3
 go_wp2_with fail
 refine Hws.out.mono ?_
 rintro e w4 ⟨rfl, hu4, hb4⟩
 have hw4 : B + 2 ≤ w4.heap.size := Nat.le_trans hw3 hb4.size
 have Hwr4 := Lib.hid (Hwr.out w4 hu4 (by omega))
 have Hb4 := Lib.hid (Bl.trans' Hb3.out HB.out.symm hb4)
 clear hu4 hb4 Hb3 Hws Hwr hx0 hw3
 have hr0 : (0 : Int) ≤ (r.toNat : Int) := by omega
 have hx1 : (⟨(c :: l).toArray⟩ : ByteArray).extract 1 m = ⟨l.toArray⟩ := by
  rw [HMl.out]
  exact extract_drop (c :: l) 1
 have hm1 : (1 : Int) ≤ (m : Int) := by have := HMl.out; omega
 go_wp2_with fail
 refine Hwr4.out.mono ?_
 rintro e w5 ⟨⟨v5, rfl⟩, hu5, hb5⟩
 have hw5 : B + 2 ≤ w5.heap.size := Nat.le_trans hw4 hb5.size
 have Hcap := Lib.hid (builderCap_any B [r] w5 hu5 (by simp))
 have Hu5 := Lib.hid hu5
 have Hb5 := Lib.hid (Bl.trans' Hb4.out HB.out.symm hb5)
 clear hu5 hb5 Hb4 Hwr4 hw4
 go_wp2_with fail
 refine Hcap.out.mono ?_
 rintro e w' ⟨cc, rfl, rfl⟩
 obtain ⟨cz, hcz⟩ : ∃ z : Int, z = ((cc + 1 : Nat) : Int) := ⟨_, rfl⟩
 have hq0 : (cz == 0) = false := by rw [beq_eq_false_iff_ne]; omega
 rw [← hcz]
 clear hcz hx1 hm1 hnx Hcap
 have hsl : (⟨l.toArray⟩ : ByteArray).size = l.length := Lib.size_mk l
 go_wp2_with fail
 obtain ⟨K, hK⟩ : ∃ K, K = w5.heap.size := ⟨_, rfl⟩
 obtain ⟨w6, hw6⟩ : ∃ x, x = w5.iter ⟨l.toArray⟩ 0 := ⟨_, rfl⟩
 have hit : w6.heap[K]? = some (.stringIter ⟨l.toArray⟩ 0) := by
  rw [hw6, hK]
  exact heap_alloc_new w5 (.stringIter ⟨l.toArray⟩ 0)
 have hu6 : Bui B (exB (c :: l.take 0)) w6 := by
  rw [hw6, exB_cons, ← HR.out]
  exact Lib.IsBuilderF.alloc Hu5.out (.stringIter ⟨l.toArray⟩ 0)
 have hb6 : Bl w w6 := by rw [hw6]; exact Hb5.out.alloc _
 have hs6 : B + 2 ≤ w6.heap.size := by
  rw [hw6]
  show B + 2 ≤ (w5.alloc (.stringIter ⟨l.toArray⟩ 0)).heap.size
  simp
  omega
 rw [← hw6, ← hK]
 have hBK : B + 2 ≤ K := by omega
 have Hst0 := Lib.hid (And.intro hit (And.intro hu6 (And.intro hb6 hs6)))
 have HBK := Lib.hid hBK
 clear hw6 hK hit hu6 hb6 hs6 hBK hw5 Hu5 Hb5
 go_loopw [] (fun wi => ∃ i : Nat, i ≤ l.length ∧ wi.heap[K]? = some (.stringIter ⟨l.toArray⟩ i) ∧ Bui B (exB (c :: l.take i)) wi ∧ Bl w wi ∧ B + 2 ≤ wi.heap.size) (fun wi => l.length - wi.iterPos K)
 case atStart => exact ⟨0, Nat.zero_le _, Hst0.out⟩
 case round =>
  rename World => wi
  obtain ⟨i, hi, hit, hui, hbi, hsi⟩ := hrel
  have hBK := HBK.out
  by_cases hlt : i < l.length
  · have hih : i < (⟨l.toArray⟩ : ByteArray).size := by rw [hsl]; exact hlt
    have hgi := Lib.getElem_mk l i hih
    obtain ⟨d, hd⟩ : ∃ d, d = (⟨l.toArray⟩ : ByteArray)[i]'hih := ⟨_, rfl⟩
    rw [← hd] at hgi
    have hdc := List.all_eq_true.1 (show (l.all fun b => ([48, 49] : List UInt8).contains b) = true from HM.out) d (List.mem_of_getElem? hgi)
    have hd2 := bit_of hdc
    have hd128 : d.toNat < 128 := by rcases hd2 with rfl | rfl <;> decide
    have hnx0 := fun ty => Lib.run_next_ascii_at (P := Tryz.prog) wi K ⟨l.toArray⟩ i ty hit hih (by rw [← hd]; exact hd128)
    have h7b : Bl w (wi.iterAt K ⟨l.toArray⟩ (i + 1)) := Lib.below_iterAt hbi (k := K) (by have := HB.out; omega) _ _
    have h7u : Bui B (exB (c :: l.take i)) (wi.iterAt K ⟨l.toArray⟩ (i + 1)) := bui_iter hui hit (i + 1)
    have h7i := Lib.iterAt_heap wi K ⟨l.toArray⟩ i (i + 1) hit
    have h7s : B + 2 ≤ (wi.iterAt K ⟨l.toArray⟩ (i + 1)).heap.size := by rw [Lib.iterAt_size]; exact hsi
    rw [← hd] at hnx0
    generalize wi.iterAt K ⟨l.toArray⟩ (i + 1) = w7 at hnx0 h7b h7u h7i h7s
    have hnx : ∀ ty, (Instr.next (.pointer (some ⟨K, 0, none⟩)) true ty).run Tryz.prog wi = .ok (.tuple #[.bool true, .int .i64 (i : Int), .int .i32 (d.toNat : Int)]) w7 := hnx0
    have Hfd := Lib.hid (fun W => HF.out d W hd2)
    obtain ⟨q, hq⟩ : ∃ q : UInt8, q = 97 - d := ⟨_, rfl⟩
    have hq1 : q.toNat < 128 := by rw [hq]; rcases hd2 with rfl | rfl <;> decide
    have hq2 : 0 < q.toNat := by rw [hq]; rcases hd2 with rfl | rfl <;> decide
    have hex : exB (c :: l.take (i + 1)) = exB (c :: l.take i) ++ [q] := by
     rw [List.take_add_one, hgi, hq]
     unfold exB
     simp
    have hxl : (exB (c :: l.take i)).length + 1 ≤ 140737488355328 := by
     unfold exB
     rw [List.length_map, List.length_cons, List.length_take]
     have := HMl.out
     omega
    rw [← hq] at Hfd
    have Hwb := Lib.hid (writeByteK_any B _ q w7 h7u hxl (by omega))
    rw [← hex] at Hwb
    have H7b := Lib.hid h7b; have H7i := Lib.hid h7i; have H7s := Lib.hid h7s; have Hit := Lib.hid hit
    have hq3 : (q.toNat : Int) < 128 := by omega
    have hq4 : (0 : Int) ≤ (q.toNat : Int) := by omega
    clear hnx0 h7b h7u h7i h7s hgi hd hdc hd2 hq hex hxl hit hui hbi hsi Hst0
    go_wp2_with fail
    refine (Hfd.out _).mono ?_
    rintro e w' ⟨rfl, rfl⟩
    go_wp2_with fail
    refine Hwb.out.mono ?_
    rintro e w8 ⟨rfl, hu8, hb8, hk8⟩
    have Hst := Lib.hid (show w8.heap[K]? = some (.stringIter ⟨l.toArray⟩ (i + 1)) ∧ Bui B (exB (c :: l.take (i + 1))) w8 ∧ Bl w w8 ∧ B + 2 ≤ w8.heap.size from ⟨hk8 _ _ _ H7i.out, hu8, Bl.trans' H7b.out HB.out.symm hb8, Nat.le_trans H7s.out hb8.size⟩)
    clear hu8 hb8 hk8
    go_wp2_with fail
    exact ⟨⟨i + 1, hlt, Hst.out⟩, by simp only [World.iterPos, Hst.out.1, Hit.out]; omega⟩
  · obtain rfl : i = l.length := by omega
    have hnx : ∀ ty, (Instr.next (.pointer (some ⟨K, 0, none⟩)) true ty).run Tryz.prog wi = .ok (.tuple #[.bool false]) wi := fun ty => Lib.run_next_end_at wi K ⟨l.toArray⟩ l.length ty hit (by rw [hsl]; omega)
    rw [List.take_length] at hui
    have Hbs := Lib.hid (builderString_any B _ wi hui (by omega))
    have Hbi := Lib.hid hbi
    clear hui hbi hit Hst0
    go_wp2_with fail
    refine Hbs.out.mono ?_
    rintro e w9 ⟨rfl, hb9⟩
    have hb := Bl.trans' Hbi.out HB.out.symm hb9
    go_wp2_with fail
    go_ret
    exact ⟨rfl, hb⟩

end Go.Proofs.YthobmednnocklaaGreatDoor


/-! strings.Join of texts with a 0 between each two. -/
namespace Go.Proofs.YthobmednnocklaaGreatDoor
open Go.RowKit Go.Shelf

def joinZ : List (List UInt8) → List UInt8
 | [] => []
 | [x] => x
 | x :: y :: l => x ++ 48 :: joinZ (y :: l)
theorem joinZ_append : ∀ (a : List (List UInt8)) (x : List UInt8), a ≠ [] → joinZ (a ++ [x]) = joinZ a ++ 48 :: x
 | [], _, h => absurd rfl h
 | [a], x, _ => rfl
 | a :: b :: l, x, _ => by
  have ih := joinZ_append (b :: l) x (by simp)
  show a ++ 48 :: joinZ (b :: l ++ [x]) = (a ++ 48 :: joinZ (b :: l)) ++ 48 :: x
  rw [ih]
  simp
theorem joinZ_take : ∀ (b c : List (List UInt8)), (joinZ b).length ≤ (joinZ (b ++ c)).length
 | [], c => Nat.zero_le _
 | [x], [] => Nat.le_refl _
 | [x], y :: c => by
  show x.length ≤ (x ++ 48 :: joinZ (y :: c)).length
  rw [List.length_append]
  omega
 | x :: y :: b, c => by
  have ih := joinZ_take (y :: b) c
  show (x ++ 48 :: joinZ (y :: b)).length ≤ (x ++ 48 :: joinZ (y :: b ++ c)).length
  rw [List.length_append, List.length_append, List.length_cons, List.length_cons]
  omega
def lensZ : List (List UInt8) → Nat
 | [] => 0
 | x :: l => x.length + lensZ l
theorem lensZ_append (a b : List (List UInt8)) : lensZ (a ++ b) = lensZ a + lensZ b := by
 induction a with
 | nil => simp [lensZ]
 | cons x a ih => show x.length + lensZ (a ++ b) = x.length + lensZ a + lensZ b; rw [ih]; omega
theorem lensZ_succ {ts : List (List UInt8)} {k : Nat} {x : List UInt8} (h : ts[k]? = some x) : lensZ (ts.take (k + 1)) = lensZ (ts.take k) + x.length := by
 rw [List.take_add_one, h, lensZ_append]
 rfl
theorem lensZ_le (ts : List (List UInt8)) (k : Nat) : lensZ (ts.take k) ≤ lensZ ts := by
 conv => rhs; rw [← List.take_append_drop k ts]
 rw [lensZ_append]
 omega
theorem joinZ_len : ∀ ts : List (List UInt8), (joinZ ts).length = lensZ ts + (ts.length - 1)
 | [] => rfl
 | [x] => by show x.length = x.length + 0 + 0; omega
 | x :: y :: l => by
  have ih := joinZ_len (y :: l)
  show (x ++ 48 :: joinZ (y :: l)).length = x.length + lensZ (y :: l) + _
  rw [List.length_append, List.length_cons, ih]
  simp only [List.length_cons]
  omega
theorem joinZ_take1 {ts : List (List UInt8)} {k : Nat} {x : List UInt8} (hk : 1 ≤ k) (h : ts[k]? = some x) : joinZ (ts.take (k + 1)) = joinZ (ts.take k) ++ [48] ++ x := by
 have hlt := (List.getElem?_eq_some_iff.1 h).1
 rw [List.take_add_one, h]
 show joinZ (ts.take k ++ [x]) = _
 rw [joinZ_append _ _ (by intro e; have := congrArg List.length e; rw [List.length_take, List.length_nil] at this; omega)]
 simp

set_option maxRecDepth 100000 in
set_option maxHeartbeats 4000000 in
theorem joinZ_any (A : Option Addr) (c : Nat) (ts : List (List UInt8)) (w : World) (hx : Reads w 1 A ts.length (strCells' ts)) (hlen : (joinZ ts).length ≤ 1000) (hn : ts.length ≤ 1000) (hc : ts.length ≤ c) :
 Calls Tryz.prog 61 #[.slice A ts.length c, .string ⟨#[48]⟩] w fun e w' => e = .returned (.string ⟨(joinZ ts).toArray⟩) ∧ Bl w w' := by
 have HX := Lib.hid hx
 have hjl := joinZ_len ts
 by_cases h0 : ts.length = 0
 · obtain rfl := List.eq_nil_of_length_eq_zero h0
   clear hx
   go_enter Tryz.func61, Tryz.ntmps61
   go_wp2_with fail
   try simp only [Exit.inBlock, Exit.then]
   go_ret
   exact ⟨rfl, Bl.refl _⟩
 · by_cases h1 : ts.length = 1
   · obtain ⟨x, rfl⟩ : ∃ x, ts = [x] := by
      match ts, h1 with
      | [x], _ => exact ⟨x, rfl⟩
     obtain ⟨ad, rfl, c0⟩ := str_at hx (i := 0) rfl
     rw [Addr.add_zero'] at c0
     clear hx
     go_enter Tryz.func61, Tryz.ntmps61
     go_wp2_with fail
     try simp only [Exit.inBlock, Exit.then]
     go_ret
     exact ⟨rfl, Bl.refl _⟩
   · obtain ⟨n, hnn⟩ : ∃ n, ts.length = n + 2 := ⟨ts.length - 2, by omega⟩
     have hne0 : ((ts.length : Int) == 0) = false := beq_eq_false_iff_ne.2 (by omega)
     have hne1 : ((ts.length : Int) == 1) = false := beq_eq_false_iff_ne.2 (by omega)
     have hsub : (ts.length : Int) - 1 = ((n + 1 : Nat) : Int) := by omega
     obtain ⟨m, hm⟩ : ∃ m, m = n + 1 := ⟨_, rfl⟩
     rw [← hm] at hsub
     have hm0 : ¬ (m = 0) := by omega
     have hdv : ¬ ((9223372036854775807 : Int) / (m : Int) ≤ 1) := by
      have e : (9223372036854775807 : Int) / (m : Int) = ((9223372036854775807 / m : Nat) : Int) := IntWalk.up_div (x := 9223372036854775807) rfl rfl
      rw [e]
      have : 2 ≤ 9223372036854775807 / m := by rw [Nat.le_div_iff_mul_le (by omega)]; omega
      omega
     have hln : lensZ ts + m ≤ 1000 := by omega
     have HN := Lib.hid hnn; have HM := Lib.hid hm; have HJ := Lib.hid hjl; have HL := Lib.hid hlen
     obtain ⟨ad, hA, -⟩ := str_at hx (i := 0) (List.getElem?_eq_getElem (by omega))
     subst hA
     have hc2 : 2 ≤ c := by omega
     clear hx hnn hm hjl h0 h1 hlen hc
     go_enter Tryz.func61, Tryz.ntmps61
     go_wp2_with fail
     go_loopw [5, 41] (fun u v wr => ∃ k : Nat, k ≤ ts.length ∧ v = .int .i64 k ∧ u = .int .i64 ((m + lensZ (ts.take k) : Nat) : Int) ∧ Bl w wr) (fun _ v _ => ts.length - (intOf v).toNat)
     case atStart => exact ⟨0, Nat.zero_le _, rfl, rfl, Bl.refl _⟩
     case round =>
      obtain ⟨k, hk, rfl, rfl, hbr⟩ := hrel
      by_cases hkn : k < ts.length
      · have hg : ts[k]? = some ts[k] := List.getElem?_eq_getElem hkn
        obtain ⟨x, hxx⟩ : ∃ x, x = ts[k] := ⟨_, rfl⟩
        rw [← hxx] at hg
        obtain ⟨ad', hA, c0⟩ := str_at (HX.out.bl hbr) hg
        injection hA with hA
        subst hA
        have hst := lensZ_succ hg
        have hle := lensZ_le ts (k + 1)
        obtain ⟨u, hu⟩ : ∃ u, u = m + lensZ (ts.take k) := ⟨_, rfl⟩
        rw [← hu]
        have hu2 : u + x.length = m + lensZ (ts.take (k + 1)) := by omega
        have hu3 : u + x.length ≤ 1000 := by omega
        have hsz : (⟨x.toArray⟩ : ByteArray).size = x.length := Lib.size_mk x
        have HU := Lib.hid hu2
        clear hg hxx hst hle hu hu2
        go_wp2_with fail
        exact ⟨⟨k + 1, hkn, by go_num, by rw [← HU.out] <;> simp, hbr⟩, by simp [intOf] <;> omega⟩
      · obtain rfl : k = ts.length := by omega
        rw [List.take_length]
        have hgr := growB_any wr.heap.size (m + lensZ ts) wr rfl (by omega)
        have Hgr := Lib.hid hgr
        clear hgr
        go_wp2_with fail
        refine Hgr.out.mono ?_
        rintro e w1 ⟨rfl, hbu, hb1⟩
        obtain ⟨B, hB⟩ : ∃ B, B = wr.heap.size := ⟨_, rfl⟩
        rw [← hB] at hbu ⊢
        have HB := Lib.hid hB; have HBu := Lib.hid hbu
        obtain ⟨x0, hx0⟩ : ∃ x0, ts[0]? = some x0 := ⟨_, List.getElem?_eq_getElem (by have := HN.out; omega)⟩
        obtain ⟨ad', hA, c0⟩ := str_at (HX.out.bl (hbr.trans hb1)) hx0
        injection hA with hA
        subst hA
        rw [Addr.add_zero'] at c0
        have hj1 : joinZ (ts.take 1) = x0 := by rw [List.take_add_one, hx0]; rfl
        have hx0l : x0.length ≤ 1000 := by
         have h1 := lensZ_le ts 1
         rw [lensZ_succ hx0] at h1
         omega
        have hBw1 : B ≤ w1.heap.size := by rw [hB]; exact hb1.le
        have hws := writeString_any B [] x0 w1 hbu (by simp; omega) hBw1
        rw [List.nil_append] at hws
        have Hws := Lib.hid hws; have HJ1 := Lib.hid hj1
        clear hbu hB hx0 hj1 hws Hgr
        go_wp2_with fail
        refine Hws.out.mono ?_
        rintro e w2 ⟨rfl, hbu2, hbe2⟩
        have hb2 := Bl.trans' hb1 HB.out.symm hbe2
        have HBu2 := Lib.hid hbu2
        clear hbu2 Hws hbe2
        have hls2 : (ts.length : Int) - 1 = (m : Int) := hsub
        go_wp2_with fail
        go_loopw [65] (fun v wq => ∃ k : Nat, k ≤ m ∧ v = .int .i64 k ∧ Hid (Bui B (joinZ (ts.take (k + 1))) wq) ∧ Bl wr wq ∧ B ≤ wq.heap.size) (fun v _ => m - (intOf v).toNat)
        case atStart => exact ⟨0, Nat.zero_le _, rfl, (by rw [Nat.zero_add, HJ1.out]; exact HBu2), hb2, (by have := hb2.le; have := HB.out; omega)⟩
        case round =>
         rename World => wq
         obtain ⟨k, hk, rfl, hbq, hbw, hBq⟩ := hrel
         by_cases hkm : k < m
         · obtain ⟨x, hxk⟩ : ∃ x, ts[k + 1]? = some x := ⟨_, List.getElem?_eq_getElem (by have := HN.out; have := HM.out; omega)⟩
           obtain ⟨ad', hA, c0⟩ := str_at (HX.out.bl (hbr.trans hbw)) hxk
           injection hA with hA
           subst hA
           have hjt := joinZ_take1 (show 1 ≤ k + 1 by omega) hxk
           have hjl2 : (joinZ (ts.take (k + 1))).length + 1 + x.length ≤ 1000 := by
            have h1 := joinZ_take (ts.take (k + 1 + 1)) (ts.drop (k + 1 + 1))
            rw [List.take_append_drop, hjt, List.length_append, List.length_append, List.length_singleton] at h1
            have := HL.out
            omega
           obtain ⟨j, hj⟩ : ∃ j, j = joinZ (ts.take (k + 1)) := ⟨_, rfl⟩
           rw [← hj] at hjt hjl2 hbq
           have Hjt := Lib.hid hjt
           have c0' : wq.cell? ⟨ad.block, ad.off + 1 + k, none⟩ = some (.string ⟨x.toArray⟩) := by
            rw [Addr.add_succ'] at c0
            rw [show ad.off + 1 + k = ad.off + (k + 1) by omega]
            exact c0
           have Hw1 := Lib.hid (writeString_any B j [48] wq hbq.out (by simp; omega) hBq)
           have HB2 := Lib.hid hbw
           clear c0 hjt hxk hj hbq hbw
           go_wp2_with fail
           refine Hw1.out.mono ?_
           rintro e w3 ⟨rfl, hbu3, hbe3⟩
           have hb3 := Bl.trans' HB2.out HB.out.symm hbe3
           have hBw3 : B ≤ w3.heap.size := Nat.le_trans hBq hbe3.size
           have Hw2 := Lib.hid (writeString_any B (j ++ [48]) x w3 hbu3 (by simp; omega) hBw3)
           have HB3 := Lib.hid hb3
           clear Hw1 hbu3 hbe3 hb3 c0'
           go_wp2_with fail
           refine Hw2.out.mono ?_
           rintro e w4 ⟨rfl, hbu4, hbe4⟩
           rw [← Hjt.out] at hbu4
           have HB4 := Lib.hid (Bl.trans' HB3.out HB.out.symm hbe4)
           have HBu4 := Lib.hid hbu4
           have hBw4 : B ≤ w4.heap.size := Nat.le_trans hBw3 hbe4.size
           clear Hw2 hbu4 hbe4
           go_wp2_with fail
           exact ⟨⟨k + 1, hkm, by go_num, HBu4, HB4.out, hBw4⟩, by simp [intOf] <;> omega⟩
         · obtain rfl : k = m := by omega
           have hall : joinZ (ts.take (k + 1)) = joinZ ts := by rw [List.take_of_length_le (by have := HN.out; have := HM.out; omega)]
           have hbq2 := hbq.out
           rw [hall] at hbq2
           have Hst := Lib.hid (builderString_any B (joinZ ts) wq hbq2 hBq)
           have HB2 := Lib.hid hbw
           clear hbq hbq2 hall hbw
           go_wp2_with fail
           refine Hst.out.mono ?_
           rintro e w5 ⟨rfl, hbe5⟩
           have HB5 := Lib.hid (Bl.trans' HB2.out HB.out.symm hbe5)
           clear Hst hbe5
           go_wp2_with fail
           go_ret
           exact ⟨rfl, hbr.trans HB5.out⟩

end Go.Proofs.YthobmednnocklaaGreatDoor


/-! From a statement's row to a walk: forms and values that read as data are opened; how long their texts are by the data's bulk. No condition. -/
namespace Go.Proofs.YthobmednnocklaaGreatDoor
open Go.ChangeShapes Go.WideShapes Go.ChangeAt Go.RowKit Go.Joins

section
variable {H : Type} {enc : TypeId × Value → H} {P : Program} {w : World} {base : Nat} {spare : Nat → Bool} {held : Bool}
/-- A slice of structs, by what is known of one. -/
theorem rd_list {α : Type} (f : α → List Value) (k : Nat) (hf : ∀ a, (f a).length = k) (Q : α → Prop) {t e : TypeId} (ht : P.underlying t = some (.slice e)) (hk : P.cellsOf e = k) {fuel : Nat} {a0 : Option Addr} {len cap : Nat} {x : DataW H × List MemPlace}
 (hel : ∀ n' cs x', DataW.trod enc P w base spare held n' e cs = some x' → ∃ a, cs = f a ∧ Q a) (h : DataW.trod enc P w base spare held fuel t [.slice a0 len cap] = some x) :
 ∃ l : List α, l.length = len ∧ Reads w k a0 len (l.flatMap f) ∧ (∀ a ∈ l, Q a) ∧ len ≤ 9223372036854775807 ∧ len ≤ cap := by
 rcases rd_cells ht h with ⟨rfl, rfl, rfl⟩ | ⟨a, n', rfl, hlc, hcm, hel'⟩
 · exact ⟨[], rfl, ⟨by simp, fun h => absurd h (by decide)⟩, (fun p hp => by cases hp), by omega, by omega⟩
 · obtain ⟨l, hl, hls⟩ := build_list (Q := fun i (b : α) => (∀ (j : Nat) u, (f b)[j]? = some u → w.cell? (a.add (i * k + j)) = some u) ∧ Q b) len (fun i hi => by
    obtain ⟨cs, x', _, hc, htr⟩ := hel' i hi
    obtain ⟨b, rfl, hq⟩ := hel _ _ _ htr
    rw [hk] at hc
    exact ⟨b, hc, hq⟩)
   refine ⟨l, hl, ⟨by rw [flat_len f k hf, hl], fun _ => ⟨a, rfl, fun j u hj => ?_⟩⟩, fun b hb => ?_, by unfold maxLen at hcm; omega, hlc⟩
   · have hlt : j < l.length * k := by rw [← flat_len f k hf]; exact (List.getElem?_eq_some_iff.1 hj).1
     have hk0 : 0 < k := by
      rcases Nat.eq_zero_or_pos k with h0 | h0
      · rw [h0] at hlt; omega
      · exact h0
     have hi : j / k < l.length := (Nat.div_lt_iff_lt_mul hk0).2 hlt
     have hg : l[j / k]? = some l[j / k] := List.getElem?_eq_getElem hi
     have em : j = j / k * k + j % k := by rw [Nat.mul_comm]; exact (Nat.div_add_mod j k).symm
     rw [em] at hj ⊢
     rw [flat_at f k hf hg (j % k) (Nat.mod_lt _ hk0)] at hj
     exact (hls _ _ hg).1 _ _ hj
   · obtain ⟨i, hi⟩ := List.getElem?_of_mem hb
     exact (hls i b hi).2
end
section
variable {H : Type} {enc : TypeId × Value → H} {w : World} {base b0 : Nat} {spare : Nat → Bool} {held : Bool} {r : Reach}
theorem cells_bool : Tryz.prog.cellsOf 4 = 1 := by kernel_rfl
theorem cells_box : Tryz.prog.cellsOf 26 = 4 := by kernel_rfl
theorem cells_boxes : Tryz.prog.cellsOf 134 = 1 := by kernel_rfl
theorem cells_anc : Tryz.prog.cellsOf 141 = 5 := by kernel_rfl
theorem cells_ancs : Tryz.prog.cellsOf 71 = 1 := by kernel_rfl
theorem cells_fld : Tryz.prog.cellsOf 136 = 9 := by kernel_rfl
theorem cells_flds : Tryz.prog.cellsOf 72 = 1 := by kernel_rfl
theorem cells_rul : Tryz.prog.cellsOf 147 = 4 := by kernel_rfl
theorem cells_ruls : Tryz.prog.cellsOf 73 = 1 := by kernel_rfl
theorem cells_form : Tryz.prog.cellsOf 75 = 8 := by kernel_rfl
set_option maxRecDepth 100000 in
theorem rd_box {fuel : Nat} {cs : List Value} {x : DataW H × List MemPlace} (h : DataW.trod enc Tryz.prog w base spare held fuel 26 cs = some x) : ∃ b : Bx, cs = b.cells := by
 obtain ⟨xs, n, _, _, hl, hlen, hfs⟩ := DataW.trod_struct Tryz.underlying26 h
 rw [cells_box] at hl
 match cs, hl, xs, hlen with
 | [c0, c1, c2, c3], _, [y0, y1, y2, y3], _ =>
  have h0 : DataW.trod enc Tryz.prog w base spare held n 3 ((List.drop 0 [c0, c1, c2, c3]).take (Tryz.prog.cellsOf 3)) = some y0 := hfs 0 _ rfl
  have h1 : DataW.trod enc Tryz.prog w base spare held n 3 ((List.drop 1 [c0, c1, c2, c3]).take (Tryz.prog.cellsOf 3)) = some y1 := hfs 1 _ rfl
  have h2 : DataW.trod enc Tryz.prog w base spare held n 3 ((List.drop 2 [c0, c1, c2, c3]).take (Tryz.prog.cellsOf 3)) = some y2 := hfs 2 _ rfl
  have h3 : DataW.trod enc Tryz.prog w base spare held n 3 ((List.drop 3 [c0, c1, c2, c3]).take (Tryz.prog.cellsOf 3)) = some y3 := hfs 3 _ rfl
  simp only [cells_int, List.drop_zero, List.drop_succ_cons, List.take_succ_cons, List.take_zero] at h0 h1 h2 h3
  obtain ⟨a, e0, _, _⟩ := DataW.trod_int Tryz.underlying3 h0
  obtain ⟨b, e1, _, _⟩ := DataW.trod_int Tryz.underlying3 h1
  obtain ⟨c, e2, _, _⟩ := DataW.trod_int Tryz.underlying3 h2
  obtain ⟨d, e3, _, _⟩ := DataW.trod_int Tryz.underlying3 h3
  simp at e0 e1 e2 e3
  subst e0 e1 e2 e3
  exact ⟨⟨a, b, c, d⟩, rfl⟩
set_option maxRecDepth 100000 in
theorem rd_anchor {fuel : Nat} {cs : List Value} {x : DataW H × List MemPlace} (h : DataW.trod enc Tryz.prog w base spare held fuel 141 cs = some x) : ∃ a : Anc, cs = a.cells ∧ Reads w 1 a.A a.m (a.bs.map .bool) := by
 obtain ⟨xs, n, _, _, hl, hlen, hfs⟩ := DataW.trod_struct Tryz.underlying141 h
 rw [cells_anc] at hl
 match cs, hl, xs, hlen with
 | [c0, c1, c2, c3, c4], _, [y0, y1, y2], _ =>
  have h0 : DataW.trod enc Tryz.prog w base spare held n 24 ((List.drop 0 [c0, c1, c2, c3, c4]).take (Tryz.prog.cellsOf 24)) = some y0 := hfs 0 _ rfl
  have h1 : DataW.trod enc Tryz.prog w base spare held n 3 ((List.drop 3 [c0, c1, c2, c3, c4]).take (Tryz.prog.cellsOf 3)) = some y1 := hfs 1 _ rfl
  have h2 : DataW.trod enc Tryz.prog w base spare held n 3 ((List.drop 4 [c0, c1, c2, c3, c4]).take (Tryz.prog.cellsOf 3)) = some y2 := hfs 2 _ rfl
  simp only [cells_int, cells_bits, List.drop_zero, List.drop_succ_cons, List.take_succ_cons, List.take_zero] at h0 h1 h2
  obtain ⟨p, e0, _, hr⟩ := rd_page h0
  obtain ⟨b, e1, _, _⟩ := DataW.trod_int Tryz.underlying3 h1
  obtain ⟨c, e2, _, _⟩ := DataW.trod_int Tryz.underlying3 h2
  unfold Pg.cells at e0
  simp at e0 e1 e2
  obtain ⟨rfl, rfl, rfl⟩ := e0
  subst e1 e2
  exact ⟨⟨p.W, p.H, p.A, p.m, p.c, p.bs, b, c⟩, rfl, hr⟩
set_option maxRecDepth 100000 in
theorem rd_field {fuel : Nat} {cs : List Value} {x : DataW H × List MemPlace} (h : DataW.trod enc Tryz.prog w base spare held fuel 136 cs = some x) : ∃ f : Fld, cs = f.cells ∧ (BxsAt w f.M f.marks ∧ f.marks.length ≤ f.mc ∧ f.marks.length ≤ 9223372036854775807 ∧ f.name.length ≤ 9223372036854775807) := by
 obtain ⟨xs, n, _, _, hl, hlen, hfs⟩ := DataW.trod_struct Tryz.underlying136 h
 rw [cells_fld] at hl
 match cs, hl, xs, hlen with
 | [c0, c1, c2, c3, c4, c5, c6, c7, c8], _, [y0, y1, y2, y3, y4, y5], _ =>
  have h0 : DataW.trod enc Tryz.prog w base spare held n 9 ((List.drop 0 [c0, c1, c2, c3, c4, c5, c6, c7, c8]).take (Tryz.prog.cellsOf 9)) = some y0 := hfs 0 _ rfl
  have h1 : DataW.trod enc Tryz.prog w base spare held n 3 ((List.drop 1 [c0, c1, c2, c3, c4, c5, c6, c7, c8]).take (Tryz.prog.cellsOf 3)) = some y1 := hfs 1 _ rfl
  have h2 : DataW.trod enc Tryz.prog w base spare held n 26 ((List.drop 2 [c0, c1, c2, c3, c4, c5, c6, c7, c8]).take (Tryz.prog.cellsOf 26)) = some y2 := hfs 2 _ rfl
  have h3 : DataW.trod enc Tryz.prog w base spare held n 134 ((List.drop 6 [c0, c1, c2, c3, c4, c5, c6, c7, c8]).take (Tryz.prog.cellsOf 134)) = some y3 := hfs 3 _ rfl
  have h4 : DataW.trod enc Tryz.prog w base spare held n 3 ((List.drop 7 [c0, c1, c2, c3, c4, c5, c6, c7, c8]).take (Tryz.prog.cellsOf 3)) = some y4 := hfs 4 _ rfl
  have h5 : DataW.trod enc Tryz.prog w base spare held n 4 ((List.drop 8 [c0, c1, c2, c3, c4, c5, c6, c7, c8]).take (Tryz.prog.cellsOf 4)) = some y5 := hfs 5 _ rfl
  simp only [cells_int, cells_str, cells_box, cells_boxes, cells_bool, List.drop_zero, List.drop_succ_cons, List.take_succ_cons, List.take_zero] at h0 h1 h2 h3 h4 h5
  obtain ⟨s, e0, _, w0⟩ := DataW.trod_string Tryz.underlying9 h0
  obtain ⟨k, e1, _, _⟩ := DataW.trod_int Tryz.underlying3 h1
  obtain ⟨b, e2⟩ := rd_box h2
  obtain ⟨A, m, cc, rfl⟩ := slice_of_trod Tryz.underlying134 h3
  obtain ⟨mo, e4, _, _⟩ := DataW.trod_int Tryz.underlying3 h4
  obtain ⟨nd, e5, _⟩ := DataW.trod_bool Tryz.underlying4 h5
  obtain ⟨t, rfl⟩ := string_mk s
  unfold Bx.cells at e2
  simp at e0 e1 e2 e4 e5
  obtain ⟨rfl, rfl, rfl, rfl⟩ := e2
  subst e0 e1 e4 e5
  obtain ⟨l, rfl, hr, -, hn, hc⟩ := rd_list Bx.cells 4 (fun _ => rfl) (fun _ => True) Tryz.underlying134 cells_box (fun n' cs x' h => by obtain ⟨b, e⟩ := rd_box h; exact ⟨b, e, trivial⟩) h3
  exact ⟨⟨t, k, b, A, cc, l, mo, nd⟩, rfl, hr, hc, hn, by rw [Lib.size_mk] at w0; exact w0⟩
set_option maxRecDepth 100000 in
theorem rd_rule {fuel : Nat} {cs : List Value} {x : DataW H × List MemPlace} (h : DataW.trod enc Tryz.prog w base spare held fuel 147 cs = some x) : ∃ r : Rul, cs = r.cells ∧ (r.field.length ≤ 9223372036854775807 ∧ r.other.length ≤ 9223372036854775807 ∧ r.text.length ≤ 9223372036854775807) := by
 obtain ⟨xs, n, _, _, hl, hlen, hfs⟩ := DataW.trod_struct Tryz.underlying147 h
 rw [cells_rul] at hl
 match cs, hl, xs, hlen with
 | [c0, c1, c2, c3], _, [y0, y1, y2, y3], _ =>
  have h0 : DataW.trod enc Tryz.prog w base spare held n 3 ((List.drop 0 [c0, c1, c2, c3]).take (Tryz.prog.cellsOf 3)) = some y0 := hfs 0 _ rfl
  have h1 : DataW.trod enc Tryz.prog w base spare held n 9 ((List.drop 1 [c0, c1, c2, c3]).take (Tryz.prog.cellsOf 9)) = some y1 := hfs 1 _ rfl
  have h2 : DataW.trod enc Tryz.prog w base spare held n 9 ((List.drop 2 [c0, c1, c2, c3]).take (Tryz.prog.cellsOf 9)) = some y2 := hfs 2 _ rfl
  have h3 : DataW.trod enc Tryz.prog w base spare held n 9 ((List.drop 3 [c0, c1, c2, c3]).take (Tryz.prog.cellsOf 9)) = some y3 := hfs 3 _ rfl
  simp only [cells_int, cells_str, List.drop_zero, List.drop_succ_cons, List.take_succ_cons, List.take_zero] at h0 h1 h2 h3
  obtain ⟨k, e0, _, _⟩ := DataW.trod_int Tryz.underlying3 h0
  obtain ⟨s1, e1, _, w1⟩ := DataW.trod_string Tryz.underlying9 h1
  obtain ⟨s2, e2, _, w2⟩ := DataW.trod_string Tryz.underlying9 h2
  obtain ⟨s3, e3, _, w3⟩ := DataW.trod_string Tryz.underlying9 h3
  obtain ⟨t1, rfl⟩ := string_mk s1
  obtain ⟨t2, rfl⟩ := string_mk s2
  obtain ⟨t3, rfl⟩ := string_mk s3
  simp at e0 e1 e2 e3
  subst e0 e1 e2 e3
  rw [Lib.size_mk] at w1 w2 w3
  exact ⟨⟨k, t1, t2, t3⟩, rfl, w1, w2, w3⟩
set_option maxRecDepth 100000 in
theorem rd_form {fuel : Nat} {cs : List Value} {x : DataW H × List MemPlace} (h : DataW.trod enc Tryz.prog w base spare held fuel 75 cs = some x) : ∃ f : Frm, cs = f.cells ∧ FrmAt w f := by
 obtain ⟨xs, n, _, _, hl, hlen, hfs⟩ := DataW.trod_struct Tryz.underlying75 h
 rw [cells_form] at hl
 match cs, hl, xs, hlen with
 | [c0, c1, c2, c3, c4, c5, c6, c7], _, [y0, y1, y2, y3, y4, y5, y6, y7], _ =>
  have h0 : DataW.trod enc Tryz.prog w base spare held n 9 ((List.drop 0 [c0, c1, c2, c3, c4, c5, c6, c7]).take (Tryz.prog.cellsOf 9)) = some y0 := hfs 0 _ rfl
  have h1 : DataW.trod enc Tryz.prog w base spare held n 3 ((List.drop 1 [c0, c1, c2, c3, c4, c5, c6, c7]).take (Tryz.prog.cellsOf 3)) = some y1 := hfs 1 _ rfl
  have h2 : DataW.trod enc Tryz.prog w base spare held n 3 ((List.drop 2 [c0, c1, c2, c3, c4, c5, c6, c7]).take (Tryz.prog.cellsOf 3)) = some y2 := hfs 2 _ rfl
  have h3 : DataW.trod enc Tryz.prog w base spare held n 3 ((List.drop 3 [c0, c1, c2, c3, c4, c5, c6, c7]).take (Tryz.prog.cellsOf 3)) = some y3 := hfs 3 _ rfl
  have h4 : DataW.trod enc Tryz.prog w base spare held n 3 ((List.drop 4 [c0, c1, c2, c3, c4, c5, c6, c7]).take (Tryz.prog.cellsOf 3)) = some y4 := hfs 4 _ rfl
  have h5 : DataW.trod enc Tryz.prog w base spare held n 71 ((List.drop 5 [c0, c1, c2, c3, c4, c5, c6, c7]).take (Tryz.prog.cellsOf 71)) = some y5 := hfs 5 _ rfl
  have h6 : DataW.trod enc Tryz.prog w base spare held n 72 ((List.drop 6 [c0, c1, c2, c3, c4, c5, c6, c7]).take (Tryz.prog.cellsOf 72)) = some y6 := hfs 6 _ rfl
  have h7 : DataW.trod enc Tryz.prog w base spare held n 73 ((List.drop 7 [c0, c1, c2, c3, c4, c5, c6, c7]).take (Tryz.prog.cellsOf 73)) = some y7 := hfs 7 _ rfl
  simp only [cells_int, cells_str, cells_ancs, cells_flds, cells_ruls, List.drop_zero, List.drop_succ_cons, List.take_succ_cons, List.take_zero] at h0 h1 h2 h3 h4 h5 h6 h7
  obtain ⟨s, e0, _, w0⟩ := DataW.trod_string Tryz.underlying9 h0
  obtain ⟨a, e1, _, _⟩ := DataW.trod_int Tryz.underlying3 h1
  obtain ⟨b, e2, _, _⟩ := DataW.trod_int Tryz.underlying3 h2
  obtain ⟨c, e3, _, _⟩ := DataW.trod_int Tryz.underlying3 h3
  obtain ⟨d, e4, _, _⟩ := DataW.trod_int Tryz.underlying3 h4
  obtain ⟨A1, m1, q1, rfl⟩ := slice_of_trod Tryz.underlying71 h5
  obtain ⟨A2, m2, q2, rfl⟩ := slice_of_trod Tryz.underlying72 h6
  obtain ⟨A3, m3, q3, rfl⟩ := slice_of_trod Tryz.underlying73 h7
  obtain ⟨t, rfl⟩ := string_mk s
  simp at e0 e1 e2 e3 e4
  subst e0 e1 e2 e3 e4
  obtain ⟨l1, rfl, hr1, hq1, hn1, hc1⟩ := rd_list Anc.cells 5 (fun _ => rfl) (fun a => Reads w 1 a.A a.m (a.bs.map .bool)) Tryz.underlying71 cells_anc (fun n' cs x' h => rd_anchor h) h5
  obtain ⟨l2, rfl, hr2, hq2, hn2, hc2⟩ := rd_list Fld.cells 9 (fun _ => rfl) (fun f => BxsAt w f.M f.marks ∧ f.marks.length ≤ f.mc ∧ f.marks.length ≤ 9223372036854775807 ∧ f.name.length ≤ 9223372036854775807) Tryz.underlying72 cells_fld (fun n' cs x' h => rd_field h) h6
  obtain ⟨l3, rfl, hr3, hq3, hn3, hc3⟩ := rd_list Rul.cells 4 (fun _ => rfl) (fun r => r.field.length ≤ 9223372036854775807 ∧ r.other.length ≤ 9223372036854775807 ∧ r.text.length ≤ 9223372036854775807) Tryz.underlying73 cells_rul (fun n' cs x' h => rd_rule h) h7
  exact ⟨⟨t, a, b, c, d, A1, q1, l1, A2, q2, l2, A3, q3, l3⟩, rfl, ⟨⟨hr1, hq1⟩, ⟨hr2, hq2⟩, ⟨hr3, hq3⟩, by rw [Lib.size_mk] at w0; exact w0, ⟨hc1, hn1⟩, ⟨hc2, hn2⟩, ⟨hc3, hn3⟩⟩⟩
end
end Go.Proofs.YthobmednnocklaaGreatDoor


/-! From a statement's row to a walk: how long the texts of a form's rules are by the data's bulk; lists of forms, and values, are opened. No condition. -/
namespace Go.Proofs.YthobmednnocklaaGreatDoor
open Go.ChangeShapes Go.WideShapes Go.ChangeAt Go.RowKit Go.Joins

section
variable {H : Type} {enc : TypeId × Value → H} {P : Program} {w : World} {base b0 : Nat} {spare : Nat → Bool} {held : Bool} {r : Reach}
theorem bulk_mem {d : DataW H} {l : List (DataW H)} (h : d ∈ l) : Rows.uptoBulk d ≤ Rows.uptoBulkAll l := by
 induction l with
 | nil => cases h
 | cons x r ih =>
  simp only [Rows.uptoBulkAll]
  cases List.mem_cons.1 h with
  | inl e => subst e; omega
  | inr e => have := ih e; omega
theorem bulk_agg {x : DataW H} {l : List (DataW H × List MemPlace)} {y : DataW H × List MemPlace} (hx : x = .agg (l.map (·.1))) (hy : y ∈ l) : Rows.uptoBulk y.1 ≤ Rows.uptoBulk x := by
 have h := bulk_mem (List.mem_map_of_mem (f := (·.1)) hy)
 subst hx
 simp only [Rows.uptoBulk]
 omega
/-- The cells of one element are those that lie there. -/
theorem cells_same {α : Type} (f : α → List Value) (k : Nat) (hf : ∀ a, (f a).length = k) {A : Addr} {l : List α} {i : Nat} {a : α} {cs : List Value} (hr : Reads w k (some A) l.length (l.flatMap f)) (hi : l[i]? = some a) (hc : w.cells? base (A.add (i * k)) k = some cs) : cs = f a := by
 obtain ⟨ad, e, key⟩ := reads_flat f k hf hr hi
 obtain rfl := Option.some.inj e
 obtain ⟨k1, k2⟩ := cells_split hc
 refine List.ext_getElem? fun j => ?_
 rcases Nat.lt_or_ge j k with hj | hj
 · have h1 : cs[j]? = some cs[j] := List.getElem?_eq_getElem (by omega)
   have h2 : (f a)[j]? = some ((f a)[j]'(by rw [hf]; exact hj)) := List.getElem?_eq_getElem _
   have e1 := k2 j _ h1
   have e2 := key j _ hj h2
   rw [e1] at e2
   rw [h1, h2, e2]
 · rw [List.getElem?_eq_none (by omega), List.getElem?_eq_none (by rw [hf]; exact hj)]
/-- What is true of the bulk of each element is true of the slice's. -/
theorem slice_bulk {α : Type} (f : α → List Value) (k : Nat) (hf : ∀ a, (f a).length = k) (Q : α → Nat → Prop) (hm : ∀ a m n, m ≤ n → Q a m → Q a n) {t e : TypeId} (ht : P.underlying t = some (.slice e)) (hk : P.cellsOf e = k) {fuel : Nat} {A : Option Addr} {l : List α} {c : Nat} {x : DataW H × List MemPlace}
 (hel : ∀ a ∈ l, ∀ n' x', DataW.trod enc P w base spare held n' e (f a) = some x' → Q a (Rows.uptoBulk x'.1)) (h : DataW.trod enc P w base spare held fuel t [.slice A l.length c] = some x) (hr : Reads w k A l.length (l.flatMap f)) : ∀ a ∈ l, Q a (Rows.uptoBulk x.1) := by
 rcases DataW.trod_slice ht h with ⟨hcs, _⟩ | ⟨a, len', cap', elems, rest, n, _, hcs, hx, _, hl, hmx, hlen, hee, _⟩
 · simp only [List.cons.injEq, Value.slice.injEq, and_true] at hcs
   have : l = [] := List.eq_nil_of_length_eq_zero hcs.2.1
   intro a ha
   rw [this] at ha
   cases ha
 · simp only [List.cons.injEq, Value.slice.injEq, and_true] at hcs
   obtain ⟨rfl, rfl, rfl⟩ := hcs
   intro b hb
   obtain ⟨i, hi⟩ := List.getElem?_of_mem hb
   have hlt := (List.getElem?_eq_some_iff.1 hi).1
   have h1 := hee i hlt
   rw [List.getElem?_eq_getElem (by omega)] at h1
   obtain ⟨cs, hcs, htr⟩ := Option.bind_eq_some_iff.1 h1
   rw [hk] at hcs
   obtain rfl := cells_same f k hf hr hi hcs
   refine hm b _ _ ?_ (hel b hb _ _ htr)
   have h2 := bulk_mem (List.mem_map_of_mem (f := (·.1)) (List.getElem_mem (l := elems) (n := i) (by omega)))
   rw [hx]
   simp only [Rows.uptoBulk]
   omega
end
section
variable {H : Type} {enc : TypeId × Value → H} {w : World} {base b0 : Nat} {spare : Nat → Bool} {held : Bool} {r : Reach}
set_option maxRecDepth 100000 in
theorem rule_bulk {fuel : Nat} {r : Rul} {x : DataW H × List MemPlace} (h : DataW.trod enc Tryz.prog w base spare held fuel 147 r.cells = some x) : r.text.length ≤ Rows.uptoBulk x.1 := by
 obtain ⟨xs, n, _, hx, hl, hlen, hfs⟩ := DataW.trod_struct Tryz.underlying147 h
 have h3 : DataW.trod enc Tryz.prog w base spare held n 9 ((r.cells.drop 3).take (Tryz.prog.cellsOf 9)) = xs[3]? := hfs 3 _ rfl
 match xs, hlen with
 | [y0, y1, y2, y3], _ =>
  unfold Rul.cells at h3
  simp only [cells_str, List.drop_zero, List.drop_succ_cons, List.take_succ_cons, List.take_zero, List.getElem?_cons_zero, List.getElem?_cons_succ] at h3
  obtain ⟨s, e0, e1, w0⟩ := DataW.trod_string Tryz.underlying9 h3
  have hb := bulk_agg (x := x.1) (l := [y0, y1, y2, y3]) (y := y3) (by rw [hx]) (by simp)
  simp only [List.cons.injEq, and_true, Value.string.injEq] at e0
  subst e0
  rw [e1] at hb
  simp only [Rows.uptoBulk] at hb
  omega
set_option maxRecDepth 100000 in
theorem form_bulk {fuel : Nat} {f : Frm} {x : DataW H × List MemPlace} (h : DataW.trod enc Tryz.prog w base spare held fuel 75 f.cells = some x) (hF : FrmAt w f) : ∀ r ∈ f.lr, r.text.length ≤ Rows.uptoBulk x.1 := by
 obtain ⟨xs, n, _, hx, hl, hlen, hfs⟩ := DataW.trod_struct Tryz.underlying75 h
 have h7 : DataW.trod enc Tryz.prog w base spare held n 73 ((f.cells.drop 7).take (Tryz.prog.cellsOf 73)) = xs[7]? := hfs 7 _ rfl
 match xs, hlen with
 | [y0, y1, y2, y3, y4, y5, y6, y7], _ =>
  unfold Frm.cells at h7
  simp only [cells_ruls, List.drop_zero, List.drop_succ_cons, List.take_succ_cons, List.take_zero, List.getElem?_cons_zero, List.getElem?_cons_succ] at h7
  have hb := bulk_agg (x := x.1) (l := [y0, y1, y2, y3, y4, y5, y6, y7]) (y := y7) (by rw [hx]) (by simp)
  intro r hr
  have := slice_bulk Rul.cells 4 (fun _ => rfl) (fun a k => a.text.length ≤ k) (fun a m n h1 h2 => Nat.le_trans h2 h1) Tryz.underlying73 cells_rul (fun a _ n' x' h' => rule_bulk h') h7 hF.ruls.1 r hr
  omega
set_option maxRecDepth 100000 in
theorem open_formU {v : Value} {d : DataW H} {p : List MemPlace} (hv : Value.okWide Tryz.prog w r b0 75 v) (h : DataW.Trod enc Tryz.prog w base spare held 75 v d p) : ∃ f : Frm, v = f.val ∧ FrmAt w f ∧ f.small (Rows.uptoBulk d) := by
 obtain ⟨cs, rfl, hsz⟩ := okWide_struct Tryz.underlying75 hv
 obtain ⟨fuel, hf⟩ := h
 obtain ⟨f, e, hF⟩ := rd_form hf
 rw [e] at hf
 refine ⟨f, ?_, hF, form_bulk hf hF⟩
 have e2 : cs = f.cells.toArray := by
  have : (Value.agg cs).cells.toList = cs.toList := rfl
  rw [this] at e
  rw [← e]
 rw [e2]
 rfl
/-! ### lists of forms -/
def FrmsAt (w : World) (L : Option Addr) (l : List Frm) : Prop := Reads w 8 L l.length (l.flatMap Frm.cells) ∧ ∀ f ∈ l, FrmAt w f
theorem FrmsAt.bl {w w' : World} {L : Option Addr} {l : List Frm} (h : FrmsAt w L l) (hb : Bl w w') : FrmsAt w' L l := ⟨h.1.bl hb, fun f hf => (h.2 f hf).bl hb⟩
theorem FrmsAt.at_ {w : World} {L : Option Addr} {l : List Frm} {i : Nat} {f : Frm} (h : FrmsAt w L l) (hi : l[i]? = some f) : ∃ ad, L = some ad ∧ w.cell? (ad.add (i * 8)) = some (.string ⟨f.name.toArray⟩) ∧ w.cell? ⟨(ad.add (i * 8)).block, (ad.add (i * 8)).off + 1, none⟩ = some (.int .i64 f.W) ∧
 w.cell? ⟨(ad.add (i * 8)).block, (ad.add (i * 8)).off + 2, none⟩ = some (.int .i64 f.H) ∧ w.cell? ⟨(ad.add (i * 8)).block, (ad.add (i * 8)).off + 3, none⟩ = some (.int .i64 f.reach) ∧ w.cell? ⟨(ad.add (i * 8)).block, (ad.add (i * 8)).off + 4, none⟩ = some (.int .i64 f.dark) ∧
 w.cell? ⟨(ad.add (i * 8)).block, (ad.add (i * 8)).off + 5, none⟩ = some (.slice f.AL f.la.length f.ac) ∧ w.cell? ⟨(ad.add (i * 8)).block, (ad.add (i * 8)).off + 6, none⟩ = some (.slice f.FL f.lf.length f.fc) ∧ w.cell? ⟨(ad.add (i * 8)).block, (ad.add (i * 8)).off + 7, none⟩ = some (.slice f.RL f.lr.length f.rc) := by
 obtain ⟨ad, e, key⟩ := reads_flat Frm.cells 8 (fun _ => rfl) h.1 hi
 have k0 := key 0 _ (by omega) rfl
 have k1 := key 1 _ (by omega) rfl
 have k2 := key 2 _ (by omega) rfl
 have k3 := key 3 _ (by omega) rfl
 have k4 := key 4 _ (by omega) rfl
 have k5 := key 5 _ (by omega) rfl
 have k6 := key 6 _ (by omega) rfl
 have k7 := key 7 _ (by omega) rfl
 rw [Addr.add_zero'] at k0
 rw [Addr.add_succ'] at k1 k2 k3 k4 k5 k6 k7
 exact ⟨ad, e, k0, k1, k2, k3, k4, k5, k6, k7⟩
end
end Go.Proofs.YthobmednnocklaaGreatDoor


/-! From a statement's row to a walk: lists of values are opened. No condition. -/
namespace Go.Proofs.YthobmednnocklaaGreatDoor
open Go.ChangeShapes Go.WideShapes Go.ChangeAt Go.RowKit Go.Joins

section
variable {H : Type} {enc : TypeId × Value → H} {w : World} {base b0 : Nat} {spare : Nat → Bool} {held : Bool} {r : Reach}
theorem cells_ints : Tryz.prog.cellsOf 57 = 1 := by kernel_rfl
theorem cells_val : Tryz.prog.cellsOf 132 = 4 := by kernel_rfl
theorem flat_ints (l : List Int) : l.flatMap (fun i => [Value.int .i64 i]) = l.map (.int .i64) := by
 induction l with
 | nil => rfl
 | cons a l ih => rw [List.flatMap_cons, ih]; rfl
set_option maxRecDepth 100000 in
theorem rd_value {fuel : Nat} {cs : List Value} {x : DataW H × List MemPlace} (h : DataW.trod enc Tryz.prog w base spare held fuel 132 cs = some x) : ∃ v : Vlu, cs = v.cells ∧ (Reads w 1 v.M v.marks.length (v.marks.map (.int .i64)) ∧ v.field.length ≤ 9223372036854775807 ∧ v.text.length ≤ 9223372036854775807 ∧ v.marks.length ≤ 9223372036854775807) := by
 obtain ⟨xs, n, _, _, hl, hlen, hfs⟩ := DataW.trod_struct Tryz.underlying132 h
 rw [cells_val] at hl
 match cs, hl, xs, hlen with
 | [c0, c1, c2, c3], _, [y0, y1, y2, y3], _ =>
  have h0 : DataW.trod enc Tryz.prog w base spare held n 9 ((List.drop 0 [c0, c1, c2, c3]).take (Tryz.prog.cellsOf 9)) = some y0 := hfs 0 _ rfl
  have h1 : DataW.trod enc Tryz.prog w base spare held n 9 ((List.drop 1 [c0, c1, c2, c3]).take (Tryz.prog.cellsOf 9)) = some y1 := hfs 1 _ rfl
  have h2 : DataW.trod enc Tryz.prog w base spare held n 57 ((List.drop 2 [c0, c1, c2, c3]).take (Tryz.prog.cellsOf 57)) = some y2 := hfs 2 _ rfl
  have h3 : DataW.trod enc Tryz.prog w base spare held n 3 ((List.drop 3 [c0, c1, c2, c3]).take (Tryz.prog.cellsOf 3)) = some y3 := hfs 3 _ rfl
  simp only [cells_int, cells_str, cells_ints, List.drop_zero, List.drop_succ_cons, List.take_succ_cons, List.take_zero] at h0 h1 h2 h3
  obtain ⟨s0, e0, _, w0⟩ := DataW.trod_string Tryz.underlying9 h0
  obtain ⟨s1, e1, _, w1⟩ := DataW.trod_string Tryz.underlying9 h1
  obtain ⟨A, m, cc, rfl⟩ := slice_of_trod Tryz.underlying57 h2
  obtain ⟨k, e3, _, _⟩ := DataW.trod_int Tryz.underlying3 h3
  obtain ⟨t0, rfl⟩ := string_mk s0
  obtain ⟨t1, rfl⟩ := string_mk s1
  simp at e0 e1 e3
  subst e0 e1 e3
  obtain ⟨l, rfl, hr, -, hn, hc⟩ := rd_list (fun i : Int => [Value.int .i64 i]) 1 (fun _ => rfl) (fun _ => True) Tryz.underlying57 cells_int (fun n' cs x' h => by obtain ⟨i, e, _, _⟩ := DataW.trod_int Tryz.underlying3 h; exact ⟨i, e, trivial⟩) h2
  rw [flat_ints] at hr
  rw [Lib.size_mk] at w0 w1
  exact ⟨⟨t0, t1, A, cc, l, k⟩, rfl, hr, w0, w1, hn⟩
set_option maxRecDepth 100000 in
theorem value_bulk {fuel : Nat} {v : Vlu} {x : DataW H × List MemPlace} (h : DataW.trod enc Tryz.prog w base spare held fuel 132 v.cells = some x) : v.text.length ≤ Rows.uptoBulk x.1 := by
 obtain ⟨xs, n, _, hx, hl, hlen, hfs⟩ := DataW.trod_struct Tryz.underlying132 h
 have h3 : DataW.trod enc Tryz.prog w base spare held n 9 ((v.cells.drop 1).take (Tryz.prog.cellsOf 9)) = xs[1]? := hfs 1 _ rfl
 match xs, hlen with
 | [y0, y1, y2, y3], _ =>
  unfold Vlu.cells at h3
  simp only [cells_str, List.drop_zero, List.drop_succ_cons, List.take_succ_cons, List.take_zero, List.getElem?_cons_zero, List.getElem?_cons_succ] at h3
  obtain ⟨s, e0, e1, w0⟩ := DataW.trod_string Tryz.underlying9 h3
  have hb := bulk_agg (x := x.1) (l := [y0, y1, y2, y3]) (y := y1) (by rw [hx]) (by simp)
  simp only [List.cons.injEq, and_true, Value.string.injEq] at e0
  subst e0
  rw [e1] at hb
  simp only [Rows.uptoBulk] at hb
  omega
set_option maxRecDepth 100000 in
theorem open_values {v : Value} {d : DataW H} {p : List MemPlace} (hv : Value.okWide Tryz.prog w r b0 76 v) (h : DataW.Trod enc Tryz.prog w base spare held 76 v d p) : ∃ (L : Option Addr) (c : Nat) (l : List Vlu), v = .slice L l.length c ∧ VlusAt w L l ∧ l.length ≤ 9223372036854775807 ∧ l.length ≤ c ∧ ∀ v ∈ l, v.text.length ≤ Rows.uptoBulk d := by
 obtain ⟨A, n, c, rfl⟩ := okWide_slice Tryz.underlying76 hv
 obtain ⟨fuel, hf⟩ := h
 have hf' : DataW.trod enc Tryz.prog w base spare held fuel 76 [.slice A n c] = some (d, p) := hf
 obtain ⟨l, rfl, hr, hq, hn, hc⟩ := rd_list Vlu.cells 4 (fun _ => rfl) (fun v => Reads w 1 v.M v.marks.length (v.marks.map (.int .i64)) ∧ v.field.length ≤ 9223372036854775807 ∧ v.text.length ≤ 9223372036854775807 ∧ v.marks.length ≤ 9223372036854775807) Tryz.underlying76 cells_val (fun n' cs x' h => rd_value h) hf'
 exact ⟨A, c, l, rfl, ⟨hr, hq⟩, hn, hc, slice_bulk Vlu.cells 4 (fun _ => rfl) (fun (v : Vlu) k => v.text.length ≤ k) (fun a m n h1 h2 => Nat.le_trans h2 h1) Tryz.underlying76 cells_val (fun a ha n' x' h' => value_bulk h') hf' hr⟩
end
end Go.Proofs.YthobmednnocklaaGreatDoor
