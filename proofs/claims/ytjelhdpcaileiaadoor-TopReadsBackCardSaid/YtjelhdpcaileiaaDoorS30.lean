/- bedref2.SeenOf. -/
import Derived.Test.YtjelhdpcaileiaaDoorS29
import Derived.Test.YtjelhdpcaileiaaDoorS6
import Derived.Test.YtjelhdpcaileiaaDoorS2
import Derived.Test.YtjelhdpcaileiaaDoorS22

namespace Go.Proofs.YtjelhdpcaileiaaDoor
open Go.RowKit

theorem info_seen : (Tryd.prog.info? 132).map (fun i => (i.zero, i.size, i.bytes)) = some (some (.agg #[.string ⟨#[]⟩, .int .i64 0, .int .i64 0, .int .i64 0, .int .i64 0, .int .i64 0, .int .i64 0]), 7, 64) := by kernel_rfl
/-- A space that is seen. -/
def spaceCells (e g : Int) (H : Nat) : List Value := [.string ⟨#[32]⟩, .int .i64 e, .int .i64 0, .int .i64 g, .int .i64 H, .int .i64 0, .int .i64 (-1)]
def pieceAt (ps : List Piece) (i : Nat) : Piece := ps.getD i (0, 0)
def endAt (ps : List Piece) (i : Nat) : Int := (pieceAt ps i).1 + (pieceAt ps i).2
def gapAt (ps : List Piece) (i : Nat) : Int := (pieceAt ps i).1 - endAt ps (i - 1)
/-- What is seen of the first i pieces. -/
def lineTo (see : Piece → List Value) (gs : Int) (H : Nat) (ps : List Piece) : Nat → List (List Value)
  | 0 => []
  | i + 1 => lineTo see gs H ps i ++ (if 0 < i ∧ gs ≤ gapAt ps i then [spaceCells (endAt ps (i - 1)) (gapAt ps i) H] else []) ++ [see (pieceAt ps i)]
theorem line_len (see : Piece → List Value) (gs : Int) (H : Nat) (ps : List Piece) : ∀ i, (lineTo see gs H ps i).length ≤ 2 * i
  | 0 => Nat.le_refl _
  | i + 1 => by
    have ih := line_len see gs H ps i
    show (lineTo see gs H ps i ++ (if 0 < i ∧ gs ≤ gapAt ps i then [spaceCells (endAt ps (i - 1)) (gapAt ps i) H] else []) ++ [see (pieceAt ps i)]).length ≤ _
    rw [List.length_append, List.length_append]
    split <;> simp <;> omega
theorem seen_one (b : Best) (X W H : Nat) (most ht : Int) : ∀ u ∈ seenCells b X W H most ht, u.oneCell' = true := by
  intro u hu
  unfold seenCells at hu
  split at hu <;>
  · simp only [List.mem_cons, List.not_mem_nil, or_false] at hu
    rcases hu with rfl | rfl | rfl | rfl | rfl | rfl | rfl <;> rfl
theorem seen_len (b : Best) (X W H : Nat) (most ht : Int) : (seenCells b X W H most ht).length = 7 := by
  unfold seenCells
  split <;> rfl
theorem box_at {w : World} {A : Option Addr} {H : Nat} {ps : List Piece} {i : Nat} {p : Piece} (h : Reads w 4 A ps.length (boxCells H ps)) (hi : ps[i]? = some p) : ∃ ad, A = some ad ∧ w.cell? (ad.add (i * 4)) = some (.int .i64 p.1) ∧ w.cell? ⟨(ad.add (i * 4)).block, (ad.add (i * 4)).off + 1, none⟩ = some (.int .i64 0) ∧
    w.cell? ⟨(ad.add (i * 4)).block, (ad.add (i * 4)).off + 2, none⟩ = some (.int .i64 p.2) ∧ w.cell? ⟨(ad.add (i * 4)).block, (ad.add (i * 4)).off + 3, none⟩ = some (.int .i64 H) := by
  have hlt : i < ps.length := (List.getElem?_eq_some_iff.1 hi).1
  obtain ⟨ad, e, hc⟩ := h.2 (by omega)
  have key : ∀ j v, j < 4 → ([.int .i64 p.1, .int .i64 0, .int .i64 p.2, .int .i64 H] : List Value)[j]? = some v → w.cell? ((ad.add (i * 4)).add j) = some v := fun j v hj hv => by
    rw [add_of_add]
    exact hc _ _ (by rw [boxCells_at hi j hj]; exact hv)
  have k0 := key 0 _ (by omega) rfl
  have k1 := key 1 _ (by omega) rfl
  have k2 := key 2 _ (by omega) rfl
  have k3 := key 3 _ (by omega) rfl
  rw [Addr.add_zero'] at k0
  rw [Addr.add_succ'] at k1 k2 k3
  exact ⟨ad, e, k0, k1, k2, k3⟩
theorem seen_form (b : Best) (X W H : Nat) (most ht : Int) : ∃ (t : List UInt8) (d1 d2 : Int), seenCells b X W H most ht = [.string ⟨t.toArray⟩, .int .i64 X, .int .i64 0, .int .i64 W, .int .i64 H, .int .i64 d1, .int .i64 d2] := by
  unfold seenCells
  split
  · exact ⟨[63], -1, -1, rfl⟩
  · exact ⟨b.1, b.2.1, b.2.2, rfl⟩
theorem own_apart {w : World} {base : Nat} {e : TypeId} {size n : Nat} {v : Value} {xs : List Value} (h : w.ownsRow base e size v n xs) {q : Nat} (hq : w.heap.size ≤ q) : some q ≠ v.ownBlock := fun e => by
  have := (h.lt q e.symm).2
  omega
/-- What is seen of a piece of a page. -/
def seeOf (bs : List Bool) (W H : Nat) (ls : List Ltr) (most ht : Int) (p : Piece) : List Value := seenCells (bestOf (grid p.2 H (cutF bs W p.1 0)) p.2 H [] ls) p.1 p.2 H most ht

/-- What Read says ahead of the line. -/
def readErr (fe pe bH ht most : Int) : Int := firstNZ [fe, pe, whenI (bH != ht) 11, whenI (!inB most 0 1000) 3]

def ReadRes (w : World) (fe : Int) (gap sp ht : Int) (ls : List Ltr) (W H : Int) (an : Nat) (bs : List Bool) (most : Int) (R : Option Addr) (m : Nat) (err : Int) : Prop :=
  err = readErr fe (pageErr W H an) H ht most ∧ (err ≠ 0 → R = none ∧ m = 0) ∧
  (err = 0 → m = (lineTo (seeOf bs W.toNat H.toNat ls most ht) ((gap + sp + 1) / 2) H.toNat (piecesTo (colN bs W.toNat H.toNat) W.toNat) (piecesTo (colN bs W.toNat H.toNat) W.toNat).length).length ∧
    Reads w 7 R m (lineTo (seeOf bs W.toNat H.toNat ls most ht) ((gap + sp + 1) / 2) H.toNat (piecesTo (colN bs W.toNat H.toNat) W.toNat) (piecesTo (colN bs W.toNat H.toNat) W.toNat).length).flatten)
theorem readErr_fe {fe pe bH ht most : Int} (h : fe ≠ 0) : readErr fe pe bH ht most = fe := by
  show (if fe = 0 then _ else fe) = fe
  rw [if_neg h]
theorem readErr_pe {pe bH ht most : Int} (h : pe ≠ 0) : readErr 0 pe bH ht most = pe := by
  show (if pe = 0 then _ else pe) = pe
  rw [if_neg h]
theorem readErr_h {bH ht most : Int} (h : (bH != ht) = true) : readErr 0 0 bH ht most = 11 := by
  unfold readErr
  rw [h]
  rfl
theorem readErr_m {bH ht most : Int} (h : (bH != ht) = false) : readErr 0 0 bH ht most = whenI (!inB most 0 1000) 3 := by
  unfold readErr
  rw [h]
  cases inB most 0 1000 <;> rfl

set_option maxRecDepth 100000 in
set_option maxHeartbeats 8000000 in
theorem read_any (nm : List UInt8) (ht gap sp : Int) (L : Option Addr) (c : Nat) (ls : List Ltr) (W H : Int) (A : Option Addr) (an ac : Nat) (bs : List Bool) (most : Int) (w : World) (hL : LtrsAt w L ls) (hA : Reads w 1 A an (bs.map .bool)) (hnm : nm.length ≤ 9223372036854775807) (hn : ls.length ≤ 9223372036854775807) :
    Calls Tryd.prog 26 #[.agg #[.string ⟨nm.toArray⟩, .int .i64 ht, .int .i64 gap, .int .i64 sp, .slice L ls.length c], .agg #[.int .i64 W, .int .i64 H, .slice A an ac], .int .i64 most] w fun e w' => ∃ R m d err, e = .returned (.tuple #[.slice R m d, .int .i64 err]) ∧ ReadRes w' (fontErr (nameB nm) ht gap sp ls) gap sp ht ls W H an bs most R m err ∧ Bl w w' := by
  let w2 := ((w).alloc (.cells #[.string ⟨nm.toArray⟩, .int .i64 ht, .int .i64 gap, .int .i64 sp, .slice L ls.length c] 24)).alloc (.cells #[.int .i64 W, .int .i64 H, .slice A an ac] 27)
  have w2b : Bl w w2 := ((Bl.refl w).alloc _).alloc _
  have w21 : Blk w2 (w.heap.size) 24 #[.string ⟨nm.toArray⟩, .int .i64 ht, .int .i64 gap, .int .i64 sp, .slice L ls.length c] := by
    have h0 := Blk.new (w) 24 #[.string ⟨nm.toArray⟩, .int .i64 ht, .int .i64 gap, .int .i64 sp, .slice L ls.length c]
    exact (h0.alloc _)
  have w22 : Blk w2 (w.heap.size + 1) 27 #[.int .i64 W, .int .i64 H, .slice A an ac] := by
    have h0 := Blk.new ((w).alloc (.cells #[.string ⟨nm.toArray⟩, .int .i64 ht, .int .i64 gap, .int .i64 sp, .slice L ls.length c] 24)) 27 #[.int .i64 W, .int .i64 H, .slice A an ac]
    simp only [World.size_alloc] at h0
    exact h0
  have HL := Lib.hid (hL.bl w2b); have HA := Lib.hid (hA.bl w2b)
  obtain ⟨fe, hfe⟩ : ∃ x, x = fontErr (nameB nm) ht gap sp ls := ⟨_, rfl⟩
  have hck := check_any nm ht gap sp L c ls w2 (hL.bl w2b) hnm hn
  rw [← hfe] at hck ⊢
  have Hck := Lib.hid hck; have HFe := Lib.hid hfe
  have k1 := w21.all5
  clear hL hA hck hfe
  go_enter Tryd.func26, Tryd.ntmps26
  go_wp2_with fail
  refine Hck.out.mono ?_
  rintro e w3 ⟨rfl, hb3⟩
  clear_value w2
  clear k1 Hck
  by_cases hz : fe = 0
  case neg =>
    have hq : (fe == 0) = false := by simp [hz]
    have HZ := Lib.hid hz
    clear hz
    go_wp2_with fail
    try simp only [Exit.inBlock, Exit.then]
    refine bodyPost_ret (v := .tuple #[.slice none 0 0, .int .i64 fe]) (by simp [results, Tryd.results26, go_sem]) rfl ⟨none, 0, 0, fe, rfl, ⟨(readErr_fe HZ.out).symm, fun _ => ⟨rfl, rfl⟩, fun h => absurd h HZ.out⟩, w2b.trans hb3⟩
  case pos =>
    subst hz
    have k2 := (w22.bl hb3).all3
    have Hpc := Lib.hid (glyphPieces_any W H A an ac bs w3 (HA.out.bl hb3))
    go_wp2_with fail
    refine Hpc.out.mono ?_
    rintro e w4 ⟨R0, m0, d0, rfl, hp1, hp2, hb4⟩
    have hb24 := hb3.trans hb4
    obtain ⟨pe, hpe⟩ : ∃ x, x = pageErr W H an := ⟨_, rfl⟩
    rw [← hpe] at hp1 hp2 ⊢
    have HPe := Lib.hid hpe; have HP1 := Lib.hid hp1; have HP2 := Lib.hid hp2
    clear hpe hp1 hp2 k2 Hpc
    by_cases hz : pe = 0
    case neg =>
      have hq : (pe == 0) = false := by simp [hz]
      have HZ := Lib.hid hz
      clear hz
      go_wp2_with fail
      try simp only [Exit.inBlock, Exit.then]
      refine bodyPost_ret (v := .tuple #[.slice none 0 0, .int .i64 pe]) (by simp [results, Tryd.results26, go_sem]) rfl ⟨none, 0, 0, pe, rfl, ⟨(by rw [← HPe.out, readErr_pe HZ.out]), fun _ => ⟨rfl, rfl⟩, fun h => absurd h HZ.out⟩, w2b.trans hb24⟩
    case pos =>
      subst hz
      have k1 := (w21.bl hb24).all5
      have k2 := (w22.bl hb24).all3
      by_cases c1 : H = ht
      case neg =>
        have q1 : (H != ht) = true := by simp [c1]
        have Q1 := Lib.hid q1
        clear c1
        go_wp2_with fail
        try simp only [Exit.inBlock, Exit.then]
        refine bodyPost_ret (v := .tuple #[.slice none 0 0, .int .i64 11]) (by simp [results, Tryd.results26, go_sem]) rfl ⟨none, 0, 0, 11, rfl, ⟨(by rw [← HPe.out, readErr_h Q1.out]), fun _ => ⟨rfl, rfl⟩, fun h => absurd h (by decide)⟩, w2b.trans hb24⟩
      case pos =>
        have q1 : (H != ht) = false := by simp [c1]
        have Q1 := Lib.hid q1
        have HC1 := Lib.hid c1
        clear c1
        by_cases c2 : most < 0
        · have HM := Lib.hid (show whenI (!inB most 0 1000) 3 = 3 by
            have : inB most 0 1000 = false := by cases h : inB most 0 1000 with | false => rfl | true => have := inB_true.1 h; omega
            rw [this]; rfl)
          go_wp2_with fail
          try simp only [Exit.inBlock, Exit.then]
          refine bodyPost_ret (v := .tuple #[.slice none 0 0, .int .i64 3]) (by simp [results, Tryd.results26, go_sem]) rfl ⟨none, 0, 0, 3, rfl, ⟨(by rw [← HPe.out, readErr_m Q1.out, HM.out]), fun _ => ⟨rfl, rfl⟩, fun h => absurd h (by decide)⟩, w2b.trans hb24⟩
        · by_cases c3 : 1000 < most
          · have HM := Lib.hid (show whenI (!inB most 0 1000) 3 = 3 by
              have : inB most 0 1000 = false := by cases h : inB most 0 1000 with | false => rfl | true => have := inB_true.1 h; omega
              rw [this]; rfl)
            go_wp2_with fail
            try simp only [Exit.inBlock, Exit.then]
            refine bodyPost_ret (v := .tuple #[.slice none 0 0, .int .i64 3]) (by simp [results, Tryd.results26, go_sem]) rfl ⟨none, 0, 0, 3, rfl, ⟨(by rw [← HPe.out, readErr_m Q1.out, HM.out]), fun _ => ⟨rfl, rfl⟩, fun h => absurd h (by decide)⟩, w2b.trans hb24⟩
          · have HM := Lib.hid (show whenI (!inB most 0 1000) 3 = 0 by
              have : inB most 0 1000 = true := inB_true.2 (by omega)
              rw [this]; rfl)
            have hp0 := HPe.out.symm
            obtain ⟨W, H, rfl, rfl, rfl, hW, hH, hWH⟩ := page_nat hp0
            have hsz := sizeErr_zero (pageErr_zero hp0).1
            obtain ⟨⟨-, hrg, -, hls0, hls, hht1, hht2⟩, hltr⟩ := fontErr_zero HFe.out.symm
            have hrg2 : 1 ≤ gap ∧ gap ≤ 16 ∧ 1 ≤ sp ∧ sp ≤ 64 := by
              unfold rangeB at hrg
              simp only [Bool.and_eq_true] at hrg
              have h1 := inB_true.1 hrg.2.1
              have h2 := inB_true.1 hrg.2.2
              exact ⟨h1.1, h1.2, h2.1, h2.2⟩
            have hht := HC1.out
            subst hht
            have hR := HP2.out rfl
            simp only [Int.toNat_natCast] at hR
            obtain ⟨ps, hps⟩ : ∃ ps, ps = piecesTo (colN bs W H) W := ⟨_, rfl⟩
            rw [← hps] at hR
            obtain ⟨rfl, hR⟩ := hR
            have hin : ∀ p ∈ ps, 1 ≤ p.2 ∧ p.1 + p.2 ≤ W := by rw [hps]; exact pieces_in _ W
            have hpl : ps.length ≤ W := by rw [hps]; exact pieces_len _ W
            obtain ⟨gs, hgs⟩ : ∃ gs, gs = (gap + sp + 1) / 2 := ⟨_, rfl⟩
            have e0 : (gap + sp + 1).tdiv 2 = gs := by rw [hgs]; exact Int.tdiv_eq_ediv_of_nonneg (by omega)
            have e1 : (gap + sp + 1) / 2 = gs := hgs.symm
            obtain ⟨see, hsee⟩ : ∃ see, see = seeOf bs W H ls most (H : Int) := ⟨_, rfl⟩
            have h0 : w4.ownsRow w4.heap.size 132 7 (.slice none 0 0) (lineTo see gs H ps 0).length (lineTo see gs H ps 0).flatten := World.ownsRow_nil _ _ _ _
            have HR := Lib.hid hR; have HIn := Lib.hid hin; have HPs := Lib.hid hps; have HGs := Lib.hid hgs; have HSee := Lib.hid hsee; have HLt := Lib.hid hltr
            have hszs : 1 ≤ W ∧ 1 ≤ H := by omega
            clear hp0 hsz hrg hltr hR hin hps hgs hsee HP1 HP2 hls0
            go_wp2_with fail
            go_loopw [45, 11] (fun u v wr => ∃ i : Nat, i ≤ ps.length ∧ u = .int .i64 i ∧ Bl w4 wr ∧ wr.ownsRow w4.heap.size 132 7 v (lineTo see gs H ps i).length (lineTo see gs H ps i).flatten) (fun u _ _ => ps.length - (RowKit.intOf u).toNat)
            case atStart => exact ⟨0, Nat.zero_le _, rfl, Bl.refl _, h0⟩
            case round =>
              obtain ⟨i, hi, rfl, hbr, hown⟩ := hrel
              clear k1 k2
              obtain ⟨R1, c1', rfl, -, -⟩ := own_new hown
              have HOw := Lib.hid hown
              clear hown
              by_cases hlt : i < ps.length
              · have hg : ps[i]? = some ps[i] := List.getElem?_eq_getElem hlt
                obtain ⟨p, hp⟩ : ∃ p, p = ps[i] := ⟨_, rfl⟩
                rw [← hp] at hg
                clear hp
                obtain ⟨X, bw⟩ := p
                have hpi : 1 ≤ bw ∧ X + bw ≤ W := HIn.out _ (List.mem_of_getElem? hg)
                have hpa : pieceAt ps i = (X, bw) := by unfold pieceAt; rw [List.getD_eq_getElem?_getD, hg]; rfl
                have hll := line_len see gs H ps i
                have hst : lineTo see gs H ps (i + 1) = lineTo see gs H ps i ++ (if 0 < i ∧ gs ≤ gapAt ps i then [spaceCells (endAt ps (i - 1)) (gapAt ps i) H] else []) ++ [see (pieceAt ps i)] := rfl
                obtain ⟨sp2, hsp2⟩ : ∃ x, x = (if 0 < i ∧ gs ≤ gapAt ps i then [spaceCells (endAt ps (i - 1)) (gapAt ps i) H] else []) := ⟨_, rfl⟩
                rw [← hsp2, hpa] at hst
                have hsl : sp2.length ≤ 1 := by rw [hsp2]; split <;> simp
                obtain ⟨adb, rfl, j0, j1, j2, j3⟩ := box_at (HR.out.bl hbr) hg
                obtain ⟨n0, hn0⟩ : ∃ n, n = (lineTo see gs H ps i).length := ⟨_, rfl⟩
                have hn0l : n0 ≤ 2 * i := by omega
                have HOw := Lib.hid (show wr.ownsRow w4.heap.size 132 7 (.slice R1 n0 c1') n0 (lineTo see gs H ps i).flatten by rw [hn0]; exact HOw.out)
                rw [← hn0]
                have HG := Lib.hid hg; have HSt := Lib.hid hst; have HSp := Lib.hid hsp2; have HN0 := Lib.hid hn0; have HPa := Lib.hid hpa
                clear hg hst hsp2 hn0 hpa hll
                have k1 := (w21.bl (hb24.trans hbr)).all5
                have k2 := (w22.bl (hb24.trans hbr)).all3
                go_upto_region 15 with fail
                obtain ⟨w5, hw5⟩ : ∃ x, x = wr.alloc (.cells #[.int .i64 X, .int .i64 0, .int .i64 bw, .int .i64 H] 88) := ⟨_, rfl⟩
                obtain ⟨q, hq⟩ : ∃ x, x = wr.heap.size := ⟨_, rfl⟩
                have bq : Blk w5 q 88 #[.int .i64 X, .int .i64 0, .int .i64 bw, .int .i64 H] := by rw [hw5, hq]; exact Blk.new _ _ _
                have hbr5 : Bl wr w5 := by rw [hw5]; exact (Bl.refl _).alloc _
                have hap : some q ≠ (Value.slice R1 n0 c1').ownBlock := own_apart HOw.out (by omega)
                rw [← hw5, ← hq]
                have HOw5 := Lib.hid (own_bl HOw.out hbr5)
                have HAp := Lib.hid hap
                have hb5 := hbr.trans hbr5
                clear hw5 hq j0 j1 j2 j3 k1 k2 hap HOw
                have k1 := (w21.bl (hb24.trans hb5)).all5
                have k2 := (w22.bl (hb24.trans hb5)).all3
                have k9 := bq.all4
                go_upto_if 51 with fail
                go_cut [11, 14, 15] from 50 to 86 (fun s11 _ _ wc => wc.ownsRow w4.heap.size 132 7 s11 (n0 + sp2.length) ((lineTo see gs H ps i).flatten ++ sp2.flatten) ∧ Blk wc q 88 #[.int .i64 X, .int .i64 0, .int .i64 bw, .int .i64 H] ∧ Bl w4 wc)
                case first =>
                  by_cases hi0 : 0 < i
                  · obtain ⟨k, hik⟩ : ∃ k, i = k + 1 := ⟨i - 1, by omega⟩
                    have hgk : ps[k]? = some ps[k] := List.getElem?_eq_getElem (by omega)
                    obtain ⟨p, hp⟩ : ∃ p, p = ps[k]'(by omega) := ⟨_, rfl⟩
                    rw [← hp] at hgk
                    clear hp
                    obtain ⟨X', bw'⟩ := p
                    have hpk : 1 ≤ bw' ∧ X' + bw' ≤ W := HIn.out _ (List.mem_of_getElem? hgk)
                    obtain ⟨ad', e', j0, j1, j2, j3⟩ := box_at (HR.out.bl hb5) hgk
                    injection e' with e'
                    subst e'
                    have hend : endAt ps (i - 1) = (X' : Int) + (bw' : Int) := by
                      unfold endAt pieceAt
                      rw [show i - 1 = k by omega, List.getD_eq_getElem?_getD, hgk]
                      rfl
                    have hgap : gapAt ps i = (X : Int) - ((X' : Int) + (bw' : Int)) := by
                      unfold gapAt
                      rw [hend, HPa.out]
                    have hsp := HSp.out
                    rw [hend, hgap] at hsp
                    have hidx : (i : Int) - 1 = (k : Int) := by omega
                    have hklt : (k : Int) < (ps.length : Int) := by omega
                    have HSp2 := Lib.hid hsp
                    clear hsp hend hgap hgk hik
                    go_upto_region 16 with fail
                    refine wp_region_flow [(true, 0), (true, 1), (true, 2), (true, 3), (true, 4), (true, 5), (true, 6), (true, 7), (true, 8), (true, 9), (true, 10), (true, 11), (true, 12), (true, 13)] (fun _ => false) (by kernel_rfl) (by kernel_rfl) (by kernel_rfl) (by kernel_rfl) ?_
                    iterate 2
                      apply Flow.mv _ rfl
                      · intro K' hK'
                        simp only [Act.put, Act.eval, List.setIfInBounds_toArray, List.set_cons_zero, List.set_cons_succ, arr_getD, List.getD_cons_zero, List.getD_cons_succ]
                        exact hK'
                    iterate 1
                      apply Flow.calm2 _ _ rfl rfl
                      · intro w' hb' K' hK'
                        obtain ⟨hc', hf'⟩ := hb'.rule
                        go_simp
                        try go_ints
                        exact hK'
                      · intro K' hK'
                        simp only [Act.put, List.setIfInBounds_toArray, List.set_cons_zero, List.set_cons_succ]
                        exact hK'
                    iterate 1
                      apply Flow.calm2 _ _ rfl rfl
                      · intro w' hb' K' hK'
                        obtain ⟨hc', hf'⟩ := hb'.rule
                        go_simp
                        try go_ints
                        exact hK'
                      · intro K' hK'
                        simp only [Act.put, List.setIfInBounds_toArray, List.set_cons_zero, List.set_cons_succ]
                        exact hK'
                    iterate 1
                      apply Flow.calm2 _ _ rfl rfl
                      · intro w' hb' K' hK'
                        obtain ⟨hc', hf'⟩ := hb'.rule
                        go_simp
                        try go_ints
                        exact hK'
                      · intro K' hK'
                        simp only [Act.put, List.setIfInBounds_toArray, List.set_cons_zero, List.set_cons_succ]
                        exact hK'
                    iterate 1
                      apply Flow.calm2 _ _ rfl rfl
                      · intro w' hb' K' hK'
                        obtain ⟨hc', hf'⟩ := hb'.rule
                        go_simp
                        try go_ints
                        exact hK'
                      · intro K' hK'
                        simp only [Act.put, List.setIfInBounds_toArray, List.set_cons_zero, List.set_cons_succ]
                        exact hK'
                    iterate 2
                      apply Flow.mv _ rfl
                      · intro K' hK'
                        simp only [Act.put, Act.eval, List.setIfInBounds_toArray, List.set_cons_zero, List.set_cons_succ, arr_getD, List.getD_cons_zero, List.getD_cons_succ]
                        exact hK'
                    iterate 1
                      apply Flow.calm2 _ _ rfl rfl
                      · intro w' hb' K' hK'
                        obtain ⟨hc', hf'⟩ := hb'.rule
                        go_simp
                        try go_ints
                        exact hK'
                      · intro K' hK'
                        simp only [Act.put, List.setIfInBounds_toArray, List.set_cons_zero, List.set_cons_succ]
                        exact hK'
                    iterate 1
                      apply Flow.calm2 _ _ rfl rfl
                      · intro w' hb' K' hK'
                        obtain ⟨hc', hf'⟩ := hb'.rule
                        go_simp
                        try go_ints
                        exact hK'
                      · intro K' hK'
                        simp only [Act.put, List.setIfInBounds_toArray, List.set_cons_zero, List.set_cons_succ]
                        exact hK'
                    iterate 1
                      apply Flow.calm2 _ _ rfl rfl
                      · intro w' hb' K' hK'
                        obtain ⟨hc', hf'⟩ := hb'.rule
                        go_simp
                        try go_ints
                        exact hK'
                      · intro K' hK'
                        simp only [Act.put, List.setIfInBounds_toArray, List.set_cons_zero, List.set_cons_succ]
                        exact hK'
                    iterate 1
                      apply Flow.calm2 _ _ rfl rfl
                      · intro w' hb' K' hK'
                        obtain ⟨hc', hf'⟩ := hb'.rule
                        go_simp
                        try go_ints
                        exact hK'
                      · intro K' hK'
                        simp only [Act.put, List.setIfInBounds_toArray, List.set_cons_zero, List.set_cons_succ]
                        exact hK'
                    iterate 1
                      apply Flow.calm2 _ _ rfl rfl
                      · intro w' hb' K' hK'
                        obtain ⟨hc', hf'⟩ := hb'.rule
                        go_simp
                        try go_ints
                        exact hK'
                      · intro K' hK'
                        simp only [Act.put, List.setIfInBounds_toArray, List.set_cons_zero, List.set_cons_succ]
                        exact hK'
                    iterate 1
                      apply Flow.asg _ rfl
                      · intro K' hK'
                        simp only [Act.put, Act.eval, List.setIfInBounds_toArray, List.set_cons_zero, List.set_cons_succ, arr_getD, List.getD_cons_zero, List.getD_cons_succ]
                        exact hK'
                    refine Flow.done ?_
                    by_cases hq : gs ≤ (X : Int) - ((X' : Int) + (bw' : Int))
                    · have HE := Lib.hid (show sp2 = [spaceCells ((X' : Int) + (bw' : Int)) ((X : Int) - ((X' : Int) + (bw' : Int))) H] by rw [HSp2.out]; exact if_pos ⟨hi0, hq⟩)
                      go_wp2_with (at_builtin; refine wpList_append_bl (w1 := w4) rfl (.tmp 78) (.tmp 85) 48 rfl 132 (.agg #[.string ⟨#[]⟩, .int .i64 0, .int .i64 0, .int .i64 0, .int .i64 0, .int .i64 0, .int .i64 0]) 7 64 Tryd.underlying48 info_seen rfl (by omega) w4.heap.size _ n0 (lineTo see gs H ps i).flatten rfl (hb5.drew.alloc _) (Nat.le_refl _) ?hBr ((own_bl HOw5.out (Bl.refl _).drew).alloc _) (some ⟨w5.heap.size, 0, none⟩) 1 1 (spaceCells ((X' : Int) + (bw' : Int)) ((X : Int) - ((X' : Int) + (bw' : Int))) H) rfl ((Blk.new _ _ _).reads 1 7 rfl) ?h1 ?c1 ?c2 ?_)
                      case hBr => have := hb5.le; first | omega | (simp; omega)
                      case h1 => simp [spaceCells, Value.oneCell']
                      case c1 => unfold maxLen; omega
                      case c2 => omega
                      intro v' w8 hown8 hb8 hg8
                      have bq8 := (bq.drew.alloc _).grown hg8 HAp.out
                      have HO8 := Lib.hid hown8; have Bq8 := Lib.hid bq8; have Hb8 := Lib.hid hb8
                      clear hown8 bq8 hb8 hg8
                      go_wp2_with fail
                      go_meet
                      case rel => exact ⟨by rw [HE.out]; simpa using HO8.out, Bq8.out, Hb8.out⟩
                    · have HE := Lib.hid (show sp2 = [] by rw [HSp2.out]; exact if_neg (fun h => hq h.2))
                      go_wp2_with fail
                      go_meet
                      case rel => exact ⟨by rw [HE.out]; simpa using own_bl HOw5.out (Bl.refl _).drew, bq.drew, hb5.drew⟩
                  · have HE := Lib.hid (show sp2 = [] by rw [HSp.out]; exact if_neg (fun h => hi0 h.1))
                    go_wp2_with fail
                    go_meet
                    case rel => exact ⟨by rw [HE.out]; simpa using HOw5.out, bq, hb5⟩
                case rest =>
                  obtain ⟨hown, bq6, hb6⟩ := hcut
                  rename World => w6
                  clear k1 k2 k9
                  have k1 := (w21.bl (hb24.trans hb6)).all5
                  have k2 := (w22.bl (hb24.trans hb6)).all3
                  have k9 := bq6.all4
                  obtain ⟨R3, c3, rfl, -, -⟩ := own_new hown
                  have HO6 := Lib.hid hown
                  clear hown
                  have hsc := see_any nm (H : Int) gap sp L c ls W H X bw A ac bs most w6 (HL.out.bl (hb24.trans hb6)) (HA.out.bl (hb24.trans hb6)) hW (by omega) hWH hpi.2 hpi.1 (fun l hl => ⟨(HLt.out l hl).2.1, (HLt.out l hl).2.2.2⟩) hls (by omega) (by omega)
                  obtain ⟨t, d1, d2, hsf⟩ := seen_form (bestOf (grid bw H (cutF bs W X 0)) bw H [] ls) X bw H most (H : Int)
                  rw [hsf] at hsc
                  have hsee : see (X, bw) = [.string ⟨t.toArray⟩, .int .i64 X, .int .i64 0, .int .i64 bw, .int .i64 H, .int .i64 d1, .int .i64 d2] := by rw [HSee.out]; exact hsf
                  have Hsc := Lib.hid hsc; have HSe := Lib.hid hsee
                  clear hsc hsf hsee
                  go_wp2_with fail
                  refine Hsc.out.mono ?_
                  rintro e w7 ⟨rfl, hb67⟩
                  have hb7 := hb6.trans hb67
                  have HO7 := Lib.hid (own_bl HO6.out hb67)
                  clear k1 k2 k9 Hsc
                  go_wp2_with (at_builtin; refine wpList_append_bl (w1 := w4) rfl (.tmp 87) (.tmp 93) 48 rfl 132 (.agg #[.string ⟨#[]⟩, .int .i64 0, .int .i64 0, .int .i64 0, .int .i64 0, .int .i64 0, .int .i64 0]) 7 64 Tryd.underlying48 info_seen rfl (by omega) w4.heap.size _ (n0 + sp2.length) ((lineTo see gs H ps i).flatten ++ sp2.flatten) rfl (hb7.alloc _) ?hB ?hBr (HO7.out.alloc _) (some ⟨w7.heap.size, 0, none⟩) 1 1 [.string ⟨t.toArray⟩, .int .i64 X, .int .i64 0, .int .i64 bw, .int .i64 H, .int .i64 d1, .int .i64 d2] rfl ((Blk.new _ _ _).reads 1 7 rfl) ?h1 ?c1 ?c2 ?_)
                  case hB => exact Nat.le_refl _
                  case hBr => have := hb7.le; first | omega | (simp; omega)
                  case h1 => simp [Value.oneCell']
                  case c1 => unfold maxLen; omega
                  case c2 => omega
                  intro v' w8 hown8 hb8 hg8
                  have hfin : w8.ownsRow w4.heap.size 132 7 v' (lineTo see gs H ps (i + 1)).length (lineTo see gs H ps (i + 1)).flatten := by
                    rw [HSt.out, HSe.out, List.length_append, List.length_append, List.flatten_append, List.flatten_append, ← HN0.out]
                    simpa using hown8
                  have HFin := Lib.hid hfin; have Hb8 := Lib.hid hb8
                  clear hown8 hfin hb8 hg8
                  go_wp2_with fail
                  exact ⟨⟨i + 1, hlt, by go_num, Hb8.out, HFin.out⟩, by simp [RowKit.intOf] <;> omega⟩
              · obtain rfl : i = ps.length := by omega
                have hown := HOw.out
                obtain ⟨R2, c2', e2, hR2⟩ := own_reads hown
                injection e2 with q1 _ q3
                subst q1
                subst q3
                have HR2 := Lib.hid hR2
                clear hown hR2
                go_wp2_with fail
                refine bodyPost_ret (v := .tuple #[.slice R1 (lineTo see gs H ps ps.length).length c1', .int .i64 0]) (by simp [results, Tryd.results26, go_sem]) rfl ⟨R1, (lineTo see gs H ps ps.length).length, c1', 0, rfl, ⟨?_, fun h => absurd rfl h, fun _ => ?_⟩, w2b.trans (hb24.trans hbr)⟩
                · rw [← HPe.out, readErr_m Q1.out, HM.out]
                · simp only [Int.toNat_natCast]
                  rw [← HPs.out, ← HGs.out, ← HSee.out]
                  exact ⟨rfl, HR2.out⟩

end Go.Proofs.YtjelhdpcaileiaaDoor


/-! bedref2.SeenOf. -/
namespace Go.Proofs.YtjelhdpcaileiaaDoor
open Go.RowKit

theorem line_last {see : Piece → List Value} {gs : Int} {H : Nat} {ps : List Piece} {i : Nat} : ∃ pre, lineTo see gs H ps (i + 1) = pre ++ [see (pieceAt ps i)] := ⟨_, rfl⟩
/-- A cell of the last element of a row. -/
theorem flat_last {pre : List (List Value)} {x : List Value} {N j : Nat} {u : Value} (hl : (pre ++ [x]).flatten.length = (N + 1) * 7) (hx : x.length = 7) (hu : x[j]? = some u) : (pre ++ [x]).flatten[N * 7 + j]? = some u := by
  have e : (pre ++ [x]).flatten = pre.flatten ++ x := by simp
  rw [e] at hl ⊢
  rw [List.length_append] at hl
  have hp : pre.flatten.length = N * 7 := by omega
  rw [List.getElem?_append_right (by omega), hp, show N * 7 + j - N * 7 = j by omega]
  exact hu

end Go.Proofs.YtjelhdpcaileiaaDoor
