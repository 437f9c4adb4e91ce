/- bedref2.SeenOf. -/
import Derived.Test.YtkhajhcfplicpaaDoorS44
import Derived.Test.YtkhajhcfplicpaaDoorS34
import Derived.Test.YtkhajhcfplicpaaDoorS31
import Derived.Test.YtkhajhcfplicpaaDoorS43
import Derived.Test.YtkhajhcfplicpaaDoorS7

namespace Go.Proofs.YtkhajhcfplicpaaDoor
open Go.RowKit

theorem info_seen : (Tryd.prog.info? 85).map (fun i => (i.zero, i.size, i.bytes)) = some (some (.agg #[.string ⟨#[]⟩, .int .i64 0, .int .i64 0, .int .i64 0, .int .i64 0, .int .i64 0, .int .i64 0]), 7, 64) := by kernel_rfl
/-- A space that is seen. -/
def spaceCells (e g : Int) (H : Nat) : List Value := [.string ⟨#[32]⟩, .int .i64 e, .int .i64 0, .int .i64 g, .int .i64 H, .int .i64 0, .int .i64 (-1)]
def pieceAt (ps : List Piece) (i : Nat) : Piece := ps.getD i (0, 0)
def endAt (ps : List Piece) (i : Nat) : Int := (pieceAt ps i).1 + (pieceAt ps i).2
def gapAt (ps : List Piece) (i : Nat) : Int := (pieceAt ps i).1 - endAt ps (i - 1)
/-- What is seen of the first i pieces. -/
def lineTo (see : Piece → List Value) (gs : Int) (H : Nat) (ps : List Piece) : Nat → List (List Value)
  | 0 => []
  | i + 1 => lineTo see gs H ps i ++ (if 0 < i ∧ gs ≤ gapAt ps i then [spaceCells (endAt ps (i - 1)) (gapAt ps i) H] else []) ++ [see (pieceAt ps i)]
theorem line_len (see : Piece → List Value) (gs : Int) (H : Nat) (ps : List Piece) : ∀ i, (lineTo see gs H ps i).length ≤ 2 * i
  | 0 => Nat.le_refl _
  | i + 1 => by
    have ih := line_len see gs H ps i
    show (lineTo see gs H ps i ++ (if 0 < i ∧ gs ≤ gapAt ps i then [spaceCells (endAt ps (i - 1)) (gapAt ps i) H] else []) ++ [see (pieceAt ps i)]).length ≤ _
    rw [List.length_append, List.length_append]
    split <;> simp <;> omega
theorem seen_one (b : Best) (X W H : Nat) (most ht : Int) : ∀ u ∈ seenCells b X W H most ht, u.oneCell' = true := by
  intro u hu
  unfold seenCells at hu
  split at hu <;>
  · simp only [List.mem_cons, List.not_mem_nil, or_false] at hu
    rcases hu with rfl | rfl | rfl | rfl | rfl | rfl | rfl <;> rfl
theorem seen_len (b : Best) (X W H : Nat) (most ht : Int) : (seenCells b X W H most ht).length = 7 := by
  unfold seenCells
  split <;> rfl
theorem box_at {w : World} {A : Option Addr} {H : Nat} {ps : List Piece} {i : Nat} {p : Piece} (h : Reads w 4 A ps.length (boxCells H ps)) (hi : ps[i]? = some p) : ∃ ad, A = some ad ∧ w.cell? (ad.add (i * 4)) = some (.int .i64 p.1) ∧ w.cell? ⟨(ad.add (i * 4)).block, (ad.add (i * 4)).off + 1, none⟩ = some (.int .i64 0) ∧
    w.cell? ⟨(ad.add (i * 4)).block, (ad.add (i * 4)).off + 2, none⟩ = some (.int .i64 p.2) ∧ w.cell? ⟨(ad.add (i * 4)).block, (ad.add (i * 4)).off + 3, none⟩ = some (.int .i64 H) := by
  have hlt : i < ps.length := (List.getElem?_eq_some_iff.1 hi).1
  obtain ⟨ad, e, hc⟩ := h.2 (by omega)
  have key : ∀ j v, j < 4 → ([.int .i64 p.1, .int .i64 0, .int .i64 p.2, .int .i64 H] : List Value)[j]? = some v → w.cell? ((ad.add (i * 4)).add j) = some v := fun j v hj hv => by
    rw [add_of_add]
    exact hc _ _ (by rw [boxCells_at hi j hj]; exact hv)
  have k0 := key 0 _ (by omega) rfl
  have k1 := key 1 _ (by omega) rfl
  have k2 := key 2 _ (by omega) rfl
  have k3 := key 3 _ (by omega) rfl
  rw [Addr.add_zero'] at k0
  rw [Addr.add_succ'] at k1 k2 k3
  exact ⟨ad, e, k0, k1, k2, k3⟩
theorem seen_form (b : Best) (X W H : Nat) (most ht : Int) : ∃ (t : List UInt8) (d1 d2 : Int), seenCells b X W H most ht = [.string ⟨t.toArray⟩, .int .i64 X, .int .i64 0, .int .i64 W, .int .i64 H, .int .i64 d1, .int .i64 d2] := by
  unfold seenCells
  split
  · exact ⟨[63], -1, -1, rfl⟩
  · exact ⟨b.1, b.2.1, b.2.2, rfl⟩
theorem own_apart {w : World} {base : Nat} {e : TypeId} {size n : Nat} {v : Value} {xs : List Value} (h : w.ownsRow base e size v n xs) {q : Nat} (hq : w.heap.size ≤ q) : some q ≠ v.ownBlock := fun e => by
  have := (h.lt q e.symm).2
  omega
/-- What is seen of a piece of a page. -/
def seeOf (bs : List Bool) (W H : Nat) (ls : List Ltr) (most ht : Int) (p : Piece) : List Value := seenCells (bestOf (grid p.2 H (cutF bs W p.1 0)) p.2 H [] ls) p.1 p.2 H most ht

/-- What Read says ahead of the line. -/
def readErr (fe pe bH ht most : Int) : Int := firstNZ [fe, pe, whenI (bH != ht) 11, whenI (!inB most 0 1000) 3]

def ReadRes (w : World) (fe : Int) (gap sp ht : Int) (ls : List Ltr) (W H : Int) (an : Nat) (bs : List Bool) (most : Int) (R : Option Addr) (m : Nat) (err : Int) : Prop :=
  err = readErr fe (pageErr W H an) H ht most ∧ (err ≠ 0 → R = none ∧ m = 0) ∧
  (err = 0 → m = (lineTo (seeOf bs W.toNat H.toNat ls most ht) ((gap + sp + 1) / 2) H.toNat (piecesTo (colN bs W.toNat H.toNat) W.toNat) (piecesTo (colN bs W.toNat H.toNat) W.toNat).length).length ∧
    Reads w 7 R m (lineTo (seeOf bs W.toNat H.toNat ls most ht) ((gap + sp + 1) / 2) H.toNat (piecesTo (colN bs W.toNat H.toNat) W.toNat) (piecesTo (colN bs W.toNat H.toNat) W.toNat).length).flatten)
theorem readErr_fe {fe pe bH ht most : Int} (h : fe ≠ 0) : readErr fe pe bH ht most = fe := by
  show (if fe = 0 then _ else fe) = fe
  rw [if_neg h]
theorem readErr_pe {pe bH ht most : Int} (h : pe ≠ 0) : readErr 0 pe bH ht most = pe := by
  show (if pe = 0 then _ else pe) = pe
  rw [if_neg h]
theorem readErr_h {bH ht most : Int} (h : (bH != ht) = true) : readErr 0 0 bH ht most = 11 := by
  unfold readErr
  rw [h]
  rfl
theorem readErr_m {bH ht most : Int} (h : (bH != ht) = false) : readErr 0 0 bH ht most = whenI (!inB most 0 1000) 3 := by
  unfold readErr
  rw [h]
  cases inB most 0 1000 <;> rfl

set_option maxRecDepth 100000 in
set_option maxHeartbeats 8000000 in
theorem read_any (nm : List UInt8) (ht gap sp : Int) (L : Option Addr) (c : Nat) (ls : List Ltr) (W H : Int) (A : Option Addr) (an ac : Nat) (bs : List Bool) (most : Int) (w : World) (hL : LtrsAt w L ls) (hA : Reads w 1 A an (bs.map .bool)) (hnm : nm.length ≤ 9223372036854775807) (hn : ls.length ≤ 9223372036854775807) :
    Calls Tryd.prog 58 #[.agg #[.string ⟨nm.toArray⟩, .int .i64 ht, .int .i64 gap, .int .i64 sp, .slice L ls.length c], .agg #[.int .i64 W, .int .i64 H, .slice A an ac], .int .i64 most] w fun e w' => ∃ R m d err, e = .returned (.tuple #[.slice R m d, .int .i64 err]) ∧ ReadRes w' (fontErr (nameB nm) ht gap sp ls) gap sp ht ls W H an bs most R m err ∧ Bl w w' := by
  let w2 := ((w).alloc (.cells #[.string ⟨nm.toArray⟩, .int .i64 ht, .int .i64 gap, .int .i64 sp, .slice L ls.length c] 67)).alloc (.cells #[.int .i64 W, .int .i64 H, .slice A an ac] 24)
  have w2b : Bl w w2 := ((Bl.refl w).alloc _).alloc _
  have w21 : Blk w2 (w.heap.size) 67 #[.string ⟨nm.toArray⟩, .int .i64 ht, .int .i64 gap, .int .i64 sp, .slice L ls.length c] := by
    have h0 := Blk.new (w) 67 #[.string ⟨nm.toArray⟩, .int .i64 ht, .int .i64 gap, .int .i64 sp, .slice L ls.length c]
    exact (h0.alloc _)
  have w22 : Blk w2 (w.heap.size + 1) 24 #[.int .i64 W, .int .i64 H, .slice A an ac] := by
    have h0 := Blk.new ((w).alloc (.cells #[.string ⟨nm.toArray⟩, .int .i64 ht, .int .i64 gap, .int .i64 sp, .slice L ls.length c] 67)) 24 #[.int .i64 W, .int .i64 H, .slice A an ac]
    simp only [World.size_alloc] at h0
    exact h0
  have HL := Lib.hid (hL.bl w2b); have HA := Lib.hid (hA.bl w2b)
  obtain ⟨fe, hfe⟩ : ∃ x, x = fontErr (nameB nm) ht gap sp ls := ⟨_, rfl⟩
  have hck := check_any nm ht gap sp L c ls w2 (hL.bl w2b) hnm hn
  rw [← hfe] at hck ⊢
  have Hck := Lib.hid hck; have HFe := Lib.hid hfe
  have k1 := w21.all5
  clear hL hA hck hfe
  go_enter Tryd.func58, Tryd.ntmps58
  go_wp2_with fail
  refine Hck.out.mono ?_
  rintro e w3 ⟨rfl, hb3⟩
  clear_value w2
  clear k1 Hck
  by_cases hz : fe = 0
  case neg =>
    have hq : (fe == 0) = false := by simp [hz]
    have HZ := Lib.hid hz
    clear hz
    go_wp2_with fail
    try simp only [Exit.inBlock, Exit.then]
    refine bodyPost_ret (v := .tuple #[.slice none 0 0, .int .i64 fe]) (by simp [results, Tryd.results58, go_sem]) rfl ⟨none, 0, 0, fe, rfl, ⟨(readErr_fe HZ.out).symm, fun _ => ⟨rfl, rfl⟩, fun h => absurd h HZ.out⟩, w2b.trans hb3⟩
  case pos =>
    subst hz
    have k2 := (w22.bl hb3).all3
    have Hpc := Lib.hid (glyphPieces_any W H A an ac bs w3 (HA.out.bl hb3))
    go_wp2_with fail
    refine Hpc.out.mono ?_
    rintro e w4 ⟨R0, m0, d0, rfl, hp1, hp2, hb4⟩
    have hb24 := hb3.trans hb4
    obtain ⟨pe, hpe⟩ : ∃ x, x = pageErr W H an := ⟨_, rfl⟩
    rw [← hpe] at hp1 hp2 ⊢
    have HPe := Lib.hid hpe; have HP1 := Lib.hid hp1; have HP2 := Lib.hid hp2
    clear hpe hp1 hp2 k2 Hpc
    by_cases hz : pe = 0
    case neg =>
      have hq : (pe == 0) = false := by simp [hz]
      have HZ := Lib.hid hz
      clear hz
      go_wp2_with fail
      try simp only [Exit.inBlock, Exit.then]
      refine bodyPost_ret (v := .tuple #[.slice none 0 0, .int .i64 pe]) (by simp [results, Tryd.results58, go_sem]) rfl ⟨none, 0, 0, pe, rfl, ⟨(by rw [← HPe.out, readErr_pe HZ.out]), fun _ => ⟨rfl, rfl⟩, fun h => absurd h HZ.out⟩, w2b.trans hb24⟩
    case pos =>
      subst hz
      have k1 := (w21.bl hb24).all5
      have k2 := (w22.bl hb24).all3
      by_cases c1 : H = ht
      case neg =>
        have q1 : (H != ht) = true := by simp [c1]
        have Q1 := Lib.hid q1
        clear c1
        go_wp2_with fail
        try simp only [Exit.inBlock, Exit.then]
        refine bodyPost_ret (v := .tuple #[.slice none 0 0, .int .i64 11]) (by simp [results, Tryd.results58, go_sem]) rfl ⟨none, 0, 0, 11, rfl, ⟨(by rw [← HPe.out, readErr_h Q1.out]), fun _ => ⟨rfl, rfl⟩, fun h => absurd h (by decide)⟩, w2b.trans hb24⟩
      case pos =>
        have q1 : (H != ht) = false := by simp [c1]
        have Q1 := Lib.hid q1
        have HC1 := Lib.hid c1
        clear c1
        by_cases c2 : most < 0
        · have HM := Lib.hid (show whenI (!inB most 0 1000) 3 = 3 by
            have : inB most 0 1000 = false := by cases h : inB most 0 1000 with | false => rfl | true => have := inB_true.1 h; omega
            rw [this]; rfl)
          go_wp2_with fail
          try simp only [Exit.inBlock, Exit.then]
          refine bodyPost_ret (v := .tuple #[.slice none 0 0, .int .i64 3]) (by simp [results, Tryd.results58, go_sem]) rfl ⟨none, 0, 0, 3, rfl, ⟨(by rw [← HPe.out, readErr_m Q1.out, HM.out]), fun _ => ⟨rfl, rfl⟩, fun h => absurd h (by decide)⟩, w2b.trans hb24⟩
        · by_cases c3 : 1000 < most
          · have HM := Lib.hid (show whenI (!inB most 0 1000) 3 = 3 by
              have : inB most 0 1000 = false := by cases h : inB most 0 1000 with | false => rfl | true => have := inB_true.1 h; omega
              rw [this]; rfl)
            go_wp2_with fail
            try simp only [Exit.inBlock, Exit.then]
            refine bodyPost_ret (v := .tuple #[.slice none 0 0, .int .i64 3]) (by simp [results, Tryd.results58, go_sem]) rfl ⟨none, 0, 0, 3, rfl, ⟨(by rw [← HPe.out, readErr_m Q1.out, HM.out]), fun _ => ⟨rfl, rfl⟩, fun h => absurd h (by decide)⟩, w2b.trans hb24⟩
          · have HM := Lib.hid (show whenI (!inB most 0 1000) 3 = 0 by
              have : inB most 0 1000 = true := inB_true.2 (by omega)
              rw [this]; rfl)
            have hp0 := HPe.out.symm
            obtain ⟨W, H, rfl, rfl, rfl, hW, hH, hWH⟩ := page_nat hp0
            have hsz := sizeErr_zero (pageErr_zero hp0).1
            obtain ⟨⟨-, hrg, -, hls0, hls, hht1, hht2⟩, hltr⟩ := fontErr_zero HFe.out.symm
            have hrg2 : 1 ≤ gap ∧ gap ≤ 16 ∧ 1 ≤ sp ∧ sp ≤ 64 := by
              unfold rangeB at hrg
              simp only [Bool.and_eq_true] at hrg
              have h1 := inB_true.1 hrg.2.1
              have h2 := inB_true.1 hrg.2.2
              exact ⟨h1.1, h1.2, h2.1, h2.2⟩
            have hht := HC1.out
            subst hht
            have hR := HP2.out rfl
            simp only [Int.toNat_natCast] at hR
            obtain ⟨ps, hps⟩ : ∃ ps, ps = piecesTo (colN bs W H) W := ⟨_, rfl⟩
            rw [← hps] at hR
            obtain ⟨rfl, hR⟩ := hR
            have hin : ∀ p ∈ ps, 1 ≤ p.2 ∧ p.1 + p.2 ≤ W := by rw [hps]; exact pieces_in _ W
            have hpl : ps.length ≤ W := by rw [hps]; exact pieces_len _ W
            obtain ⟨gs, hgs⟩ : ∃ gs, gs = (gap + sp + 1) / 2 := ⟨_, rfl⟩
            have e0 : (gap + sp + 1).tdiv 2 = gs := by rw [hgs]; exact Int.tdiv_eq_ediv_of_nonneg (by omega)
            have e1 : (gap + sp + 1) / 2 = gs := hgs.symm
            obtain ⟨see, hsee⟩ : ∃ see, see = seeOf bs W H ls most (H : Int) := ⟨_, rfl⟩
            have h0 : w4.ownsRow w4.heap.size 85 7 (.slice none 0 0) (lineTo see gs H ps 0).length (lineTo see gs H ps 0).flatten := World.ownsRow_nil _ _ _ _
            have HR := Lib.hid hR; have HIn := Lib.hid hin; have HPs := Lib.hid hps; have HGs := Lib.hid hgs; have HSee := Lib.hid hsee; have HLt := Lib.hid hltr
            have hszs : 1 ≤ W ∧ 1 ≤ H := by omega
            clear hp0 hsz hrg hltr hR hin hps hgs hsee HP1 HP2 hls0
            go_wp2_with fail
            go_loopw [45, 11] (fun u v wr => ∃ i : Nat, i ≤ ps.length ∧ u = .int .i64 i ∧ Bl w4 wr ∧ wr.ownsRow w4.heap.size 85 7 v (lineTo see gs H ps i).length (lineTo see gs H ps i).flatten) (fun u _ _ => ps.length - (RowKit.intOf u).toNat)
            case atStart => exact ⟨0, Nat.zero_le _, rfl, Bl.refl _, h0⟩
            case round =>
              obtain ⟨i, hi, rfl, hbr, hown⟩ := hrel
              clear k1 k2
              obtain ⟨R1, c1', rfl, -, -⟩ := own_new hown
              have HOw := Lib.hid hown
              clear hown
              by_cases hlt : i < ps.length
              · have hg : ps[i]? = some ps[i] := List.getElem?_eq_getElem hlt
                obtain ⟨p, hp⟩ : ∃ p, p = ps[i] := ⟨_, rfl⟩
                rw [← hp] at hg
                clear hp
                obtain ⟨X, bw⟩ := p
                have hpi : 1 ≤ bw ∧ X + bw ≤ W := HIn.out _ (List.mem_of_getElem? hg)
                have hpa : pieceAt ps i = (X, bw) := by unfold pieceAt; rw [List.getD_eq_getElem?_getD, hg]; rfl
                have hll := line_len see gs H ps i
                have hst : lineTo see gs H ps (i + 1) = lineTo see gs H ps i ++ (if 0 < i ∧ gs ≤ gapAt ps i then [spaceCells (endAt ps (i - 1)) (gapAt ps i) H] else []) ++ [see (pieceAt ps i)] := rfl
                obtain ⟨sp2, hsp2⟩ : ∃ x, x = (if 0 < i ∧ gs ≤ gapAt ps i then [spaceCells (endAt ps (i - 1)) (gapAt ps i) H] else []) := ⟨_, rfl⟩
                rw [← hsp2, hpa] at hst
                have hsl : sp2.length ≤ 1 := by rw [hsp2]; split <;> simp
                obtain ⟨adb, rfl, j0, j1, j2, j3⟩ := box_at (HR.out.bl hbr) hg
                obtain ⟨n0, hn0⟩ : ∃ n, n = (lineTo see gs H ps i).length := ⟨_, rfl⟩
                have hn0l : n0 ≤ 2 * i := by omega
                have HOw := Lib.hid (show wr.ownsRow w4.heap.size 85 7 (.slice R1 n0 c1') n0 (lineTo see gs H ps i).flatten by rw [hn0]; exact HOw.out)
                rw [← hn0]
                have HG := Lib.hid hg; have HSt := Lib.hid hst; have HSp := Lib.hid hsp2; have HN0 := Lib.hid hn0; have HPa := Lib.hid hpa
                clear hg hst hsp2 hn0 hpa hll
                have k1 := (w21.bl (hb24.trans hbr)).all5
                have k2 := (w22.bl (hb24.trans hbr)).all3
                go_upto_region 15 with fail
                obtain ⟨w5, hw5⟩ : ∃ x, x = wr.alloc (.cells #[.int .i64 X, .int .i64 0, .int .i64 bw, .int .i64 H] 29) := ⟨_, rfl⟩
                obtain ⟨q, hq⟩ : ∃ x, x = wr.heap.size := ⟨_, rfl⟩
                have bq : Blk w5 q 29 #[.int .i64 X, .int .i64 0, .int .i64 bw, .int .i64 H] := by rw [hw5, hq]; exact Blk.new _ _ _
                have hbr5 : Bl wr w5 := by rw [hw5]; exact (Bl.refl _).alloc _
                have hap : some q ≠ (Value.slice R1 n0 c1').ownBlock := own_apart HOw.out (by omega)
                rw [← hw5, ← hq]
                have HOw5 := Lib.hid (own_bl HOw.out hbr5)
                have HAp := Lib.hid hap
                have hb5 := hbr.trans hbr5
                clear hw5 hq j0 j1 j2 j3 k1 k2 hap HOw
                have k1 := (w21.bl (hb24.trans hb5)).all5
                have k2 := (w22.bl (hb24.trans hb5)).all3
                have k9 := bq.all4
                go_upto_if 51 with fail
                go_cut [11, 14, 15] from 50 to 86 (fun s11 _ _ wc => wc.ownsRow w4.heap.size 85 7 s11 (n0 + sp2.length) ((lineTo see gs H ps i).flatten ++ sp2.flatten) ∧ Blk wc q 29 #[.int .i64 X, .int .i64 0, .int .i64 bw, .int .i64 H] ∧ Bl w4 wc)
                case first =>
                  by_cases hi0 : 0 < i
                  · obtain ⟨k, hik⟩ : ∃ k, i = k + 1 := ⟨i - 1, by omega⟩
                    have hgk : ps[k]? = some ps[k] := List.getElem?_eq_getElem (by omega)
                    obtain ⟨p, hp⟩ : ∃ p, p = ps[k]'(by omega) := ⟨_, rfl⟩
                    rw [← hp] at hgk
                    clear hp
                    obtain ⟨X', bw'⟩ := p
                    have hpk : 1 ≤ bw' ∧ X' + bw' ≤ W := HIn.out _ (List.mem_of_getElem? hgk)
                    obtain ⟨ad', e', j0, j1, j2, j3⟩ := box_at (HR.out.bl hb5) hgk
                    injection e' with e'
                    subst e'
                    have hend : endAt ps (i - 1) = (X' : Int) + (bw' : Int) := by
                      unfold endAt pieceAt
                      rw [show i - 1 = k by omega, List.getD_eq_getElem?_getD, hgk]
                      rfl
                    have hgap : gapAt ps i = (X : Int) - ((X' : Int) + (bw' : Int)) := by
                      unfold gapAt
                      rw [hend, HPa.out]
                    have hsp := HSp.out
                    rw [hend, hgap] at hsp
                    have hidx : (i : Int) - 1 = (k : Int) := by omega
                    have hklt : (k : Int) < (ps.length : Int) := by omega
                    have HSp2 := Lib.hid hsp
                    clear hsp hend hgap hgk hik
                    go_upto_region 16 with fail
                    refine wp_region_flow [(true, 0), (true, 1), (true, 2), (true, 3), (true, 4), (true, 5), (true, 6), (true, 7), (true, 8), (true, 9), (true, 10), (true, 11), (true, 12), (true, 13)] (fun _ => false) (by kernel_rfl) (by kernel_rfl) (by kernel_rfl) (by kernel_rfl) ?_
                    iterate 2
                      apply Flow.mv _ rfl
                      · intro K' hK'
                        simp only [Act.put, Act.eval, List.setIfInBounds_toArray, List.set_cons_zero, List.set_cons_succ, arr_getD, List.getD_cons_zero, List.getD_cons_succ]
                        exact hK'
                    iterate 1
                      apply Flow.calm2 _ _ rfl rfl
                      · intro w' hb' K' hK'
                        obtain ⟨hc', hf'⟩ := hb'.rule
                        go_simp
                        try go_ints
                        exact hK'
                      · intro K' hK'
                        simp only [Act.put, List.setIfInBounds_toArray, List.set_cons_zero, List.set_cons_succ]
                        exact hK'
                    iterate 1
                      apply Flow.calm2 _ _ rfl rfl
                      · intro w' hb' K' hK'
                        obtain ⟨hc', hf'⟩ := hb'.rule
                        go_simp
                        try go_ints
                        exact hK'
                      · intro K' hK'
                        simp only [Act.put, List.setIfInBounds_toArray, List.set_cons_zero, List.set_cons_succ]
                        exact hK'
                    iterate 1
                      apply Flow.calm2 _ _ rfl rfl
                      · intro w' hb' K' hK'
                        obtain ⟨hc', hf'⟩ := hb'.rule
                        go_simp
                        try go_ints
                        exact hK'
                      · intro K' hK'
                        simp only [Act.put, List.setIfInBounds_toArray, List.set_cons_zero, List.set_cons_succ]
                        exact hK'
                    iterate 1
                      apply Flow.calm2 _ _ rfl rfl
                      · intro w' hb' K' hK'
                        obtain ⟨hc', hf'⟩ := hb'.rule
                        go_simp
                        try go_ints
                        exact hK'
                      · intro K' hK'
                        simp only [Act.put, List.setIfInBounds_toArray, List.set_cons_zero, List.set_cons_succ]
                        exact hK'
                    iterate 2
                      apply Flow.mv _ rfl
                      · intro K' hK'
                        simp only [Act.put, Act.eval, List.setIfInBounds_toArray, List.set_cons_zero, List.set_cons_succ, arr_getD, List.getD_cons_zero, List.getD_cons_succ]
                        exact hK'
                    iterate 1
                      apply Flow.calm2 _ _ rfl rfl
                      · intro w' hb' K' hK'
                        obtain ⟨hc', hf'⟩ := hb'.rule
                        go_simp
                        try go_ints
                        exact hK'
                      · intro K' hK'
                        simp only [Act.put, List.setIfInBounds_toArray, List.set_cons_zero, List.set_cons_succ]
                        exact hK'
                    iterate 1
                      apply Flow.calm2 _ _ rfl rfl
                      · intro w' hb' K' hK'
                        obtain ⟨hc', hf'⟩ := hb'.rule
                        go_simp
                        try go_ints
                        exact hK'
                      · intro K' hK'
                        simp only [Act.put, List.setIfInBounds_toArray, List.set_cons_zero, List.set_cons_succ]
                        exact hK'
                    iterate 1
                      apply Flow.calm2 _ _ rfl rfl
                      · intro w' hb' K' hK'
                        obtain ⟨hc', hf'⟩ := hb'.rule
                        go_simp
                        try go_ints
                        exact hK'
                      · intro K' hK'
                        simp only [Act.put, List.setIfInBounds_toArray, List.set_cons_zero, List.set_cons_succ]
                        exact hK'
                    iterate 1
                      apply Flow.calm2 _ _ rfl rfl
                      · intro w' hb' K' hK'
                        obtain ⟨hc', hf'⟩ := hb'.rule
                        go_simp
                        try go_ints
                        exact hK'
                      · intro K' hK'
                        simp only [Act.put, List.setIfInBounds_toArray, List.set_cons_zero, List.set_cons_succ]
                        exact hK'
                    iterate 1
                      apply Flow.calm2 _ _ rfl rfl
                      · intro w' hb' K' hK'
                        obtain ⟨hc', hf'⟩ := hb'.rule
                        go_simp
                        try go_ints
                        exact hK'
                      · intro K' hK'
                        simp only [Act.put, List.setIfInBounds_toArray, List.set_cons_zero, List.set_cons_succ]
                        exact hK'
                    iterate 1
                      apply Flow.asg _ rfl
                      · intro K' hK'
                        simp only [Act.put, Act.eval, List.setIfInBounds_toArray, List.set_cons_zero, List.set_cons_succ, arr_getD, List.getD_cons_zero, List.getD_cons_succ]
                        exact hK'
                    refine Flow.done ?_
                    by_cases hq : gs ≤ (X : Int) - ((X' : Int) + (bw' : Int))
                    · have HE := Lib.hid (show sp2 = [spaceCells ((X' : Int) + (bw' : Int)) ((X : Int) - ((X' : Int) + (bw' : Int))) H] by rw [HSp2.out]; exact if_pos ⟨hi0, hq⟩)
                      go_wp2_with (at_builtin; refine wpList_append_bl (w1 := w4) rfl (.tmp 78) (.tmp 85) 78 rfl 85 (.agg #[.string ⟨#[]⟩, .int .i64 0, .int .i64 0, .int .i64 0, .int .i64 0, .int .i64 0, .int .i64 0]) 7 64 Tryd.underlying78 info_seen rfl (by omega) w4.heap.size _ n0 (lineTo see gs H ps i).flatten rfl (hb5.drew.alloc _) (Nat.le_refl _) ?hBr ((own_bl HOw5.out (Bl.refl _).drew).alloc _) (some ⟨w5.heap.size, 0, none⟩) 1 1 (spaceCells ((X' : Int) + (bw' : Int)) ((X : Int) - ((X' : Int) + (bw' : Int))) H) rfl ((Blk.new _ _ _).reads 1 7 rfl) ?h1 ?c1 ?c2 ?_)
                      case hBr => have := hb5.le; first | omega | (simp; omega)
                      case h1 => simp [spaceCells, Value.oneCell']
                      case c1 => unfold maxLen; omega
                      case c2 => omega
                      intro v' w8 hown8 hb8 hg8
                      have bq8 := (bq.drew.alloc _).grown hg8 HAp.out
                      have HO8 := Lib.hid hown8; have Bq8 := Lib.hid bq8; have Hb8 := Lib.hid hb8
                      clear hown8 bq8 hb8 hg8
                      go_wp2_with fail
                      go_meet
                      case rel => exact ⟨by rw [HE.out]; simpa using HO8.out, Bq8.out, Hb8.out⟩
                    · have HE := Lib.hid (show sp2 = [] by rw [HSp2.out]; exact if_neg (fun h => hq h.2))
                      go_wp2_with fail
                      go_meet
                      case rel => exact ⟨by rw [HE.out]; simpa using own_bl HOw5.out (Bl.refl _).drew, bq.drew, hb5.drew⟩
                  · have HE := Lib.hid (show sp2 = [] by rw [HSp.out]; exact if_neg (fun h => hi0 h.1))
                    go_wp2_with fail
                    go_meet
                    case rel => exact ⟨by rw [HE.out]; simpa using HOw5.out, bq, hb5⟩
                case rest =>
                  obtain ⟨hown, bq6, hb6⟩ := hcut
                  rename World => w6
                  clear k1 k2 k9
                  have k1 := (w21.bl (hb24.trans hb6)).all5
                  have k2 := (w22.bl (hb24.trans hb6)).all3
                  have k9 := bq6.all4
                  obtain ⟨R3, c3, rfl, -, -⟩ := own_new hown
                  have HO6 := Lib.hid hown
                  clear hown
                  have hsc := see_any nm (H : Int) gap sp L c ls W H X bw A ac bs most w6 (HL.out.bl (hb24.trans hb6)) (HA.out.bl (hb24.trans hb6)) hW (by omega) hWH hpi.2 hpi.1 (fun l hl => ⟨(HLt.out l hl).2.1, (HLt.out l hl).2.2.2⟩) hls (by omega) (by omega)
                  obtain ⟨t, d1, d2, hsf⟩ := seen_form (bestOf (grid bw H (cutF bs W X 0)) bw H [] ls) X bw H most (H : Int)
                  rw [hsf] at hsc
                  have hsee : see (X, bw) = [.string ⟨t.toArray⟩, .int .i64 X, .int .i64 0, .int .i64 bw, .int .i64 H, .int .i64 d1, .int .i64 d2] := by rw [HSee.out]; exact hsf
                  have Hsc := Lib.hid hsc; have HSe := Lib.hid hsee
                  clear hsc hsf hsee
                  go_wp2_with fail
                  refine Hsc.out.mono ?_
                  rintro e w7 ⟨rfl, hb67⟩
                  have hb7 := hb6.trans hb67
                  have HO7 := Lib.hid (own_bl HO6.out hb67)
                  clear k1 k2 k9 Hsc
                  go_wp2_with (at_builtin; refine wpList_append_bl (w1 := w4) rfl (.tmp 87) (.tmp 93) 78 rfl 85 (.agg #[.string ⟨#[]⟩, .int .i64 0, .int .i64 0, .int .i64 0, .int .i64 0, .int .i64 0, .int .i64 0]) 7 64 Tryd.underlying78 info_seen rfl (by omega) w4.heap.size _ (n0 + sp2.length) ((lineTo see gs H ps i).flatten ++ sp2.flatten) rfl (hb7.alloc _) ?hB ?hBr (HO7.out.alloc _) (some ⟨w7.heap.size, 0, none⟩) 1 1 [.string ⟨t.toArray⟩, .int .i64 X, .int .i64 0, .int .i64 bw, .int .i64 H, .int .i64 d1, .int .i64 d2] rfl ((Blk.new _ _ _).reads 1 7 rfl) ?h1 ?c1 ?c2 ?_)
                  case hB => exact Nat.le_refl _
                  case hBr => have := hb7.le; first | omega | (simp; omega)
                  case h1 => simp [Value.oneCell']
                  case c1 => unfold maxLen; omega
                  case c2 => omega
                  intro v' w8 hown8 hb8 hg8
                  have hfin : w8.ownsRow w4.heap.size 85 7 v' (lineTo see gs H ps (i + 1)).length (lineTo see gs H ps (i + 1)).flatten := by
                    rw [HSt.out, HSe.out, List.length_append, List.length_append, List.flatten_append, List.flatten_append, ← HN0.out]
                    simpa using hown8
                  have HFin := Lib.hid hfin; have Hb8 := Lib.hid hb8
                  clear hown8 hfin hb8 hg8
                  go_wp2_with fail
                  exact ⟨⟨i + 1, hlt, by go_num, Hb8.out, HFin.out⟩, by simp [RowKit.intOf] <;> omega⟩
              · obtain rfl : i = ps.length := by omega
                have hown := HOw.out
                obtain ⟨R2, c2', e2, hR2⟩ := own_reads hown
                injection e2 with q1 _ q3
                subst q1
                subst q3
                have HR2 := Lib.hid hR2
                clear hown hR2
                go_wp2_with fail
                refine bodyPost_ret (v := .tuple #[.slice R1 (lineTo see gs H ps ps.length).length c1', .int .i64 0]) (by simp [results, Tryd.results58, go_sem]) rfl ⟨R1, (lineTo see gs H ps ps.length).length, c1', 0, rfl, ⟨?_, fun h => absurd rfl h, fun _ => ?_⟩, w2b.trans (hb24.trans hbr)⟩
                · rw [← HPe.out, readErr_m Q1.out, HM.out]
                · simp only [Int.toNat_natCast]
                  rw [← HPs.out, ← HGs.out, ← HSee.out]
                  exact ⟨rfl, HR2.out⟩

end Go.Proofs.YtkhajhcfplicpaaDoor


/-! bedref2.SeenOf. -/
namespace Go.Proofs.YtkhajhcfplicpaaDoor
open Go.RowKit

theorem line_last {see : Piece → List Value} {gs : Int} {H : Nat} {ps : List Piece} {i : Nat} : ∃ pre, lineTo see gs H ps (i + 1) = pre ++ [see (pieceAt ps i)] := ⟨_, rfl⟩
/-- A cell of the last element of a row. -/
theorem flat_last {pre : List (List Value)} {x : List Value} {N j : Nat} {u : Value} (hl : (pre ++ [x]).flatten.length = (N + 1) * 7) (hx : x.length = 7) (hu : x[j]? = some u) : (pre ++ [x]).flatten[N * 7 + j]? = some u := by
  have e : (pre ++ [x]).flatten = pre.flatten ++ x := by simp
  rw [e] at hl ⊢
  rw [List.length_append] at hl
  have hp : pre.flatten.length = N * 7 := by omega
  rw [List.getElem?_append_right (by omega), hp, show N * 7 + j - N * 7 = j by omega]
  exact hu

set_option maxRecDepth 100000 in
set_option maxHeartbeats 8000000 in
theorem seenOf_any (nm : List UInt8) (ht gap sp : Int) (L : Option Addr) (c : Nat) (ls : List Ltr) (W H : Nat) (A : Option Addr) (ac : Nat) (bs : List Bool) (most : Int) (w : World) (hL : LtrsAt w L ls) (hA : Reads w 1 A (W * H) (bs.map .bool))
    (hW : W ≤ 4000) (hH : 1 ≤ H ∧ H ≤ 4000) (hgs : 1 ≤ gap ∧ gap ≤ 16 ∧ 1 ≤ sp ∧ sp ≤ 64) (hls : ∀ l ∈ ls, pageErr l.W l.H l.m = 0 ∧ l.W ≤ 64) (hn : ls.length ≤ 200) (hm : 0 ≤ most ∧ most ≤ 1000) (hht : 1 ≤ ht ∧ ht ≤ 64) :
    Calls Tryd.prog 60 #[.agg #[.string ⟨nm.toArray⟩, .int .i64 ht, .int .i64 gap, .int .i64 sp, .slice L ls.length c], .agg #[.int .i64 W, .int .i64 H, .slice A (W * H) ac], .int .i64 most] w fun e w' => ∃ v, e = .returned v ∧
      w'.ownsRow w.heap.size 85 7 v (lineTo (seeOf bs W H ls most ht) ((gap + sp + 1) / 2) H (piecesTo (colN bs W H) W) (piecesTo (colN bs W H) W).length).length (lineTo (seeOf bs W H ls most ht) ((gap + sp + 1) / 2) H (piecesTo (colN bs W H) W) (piecesTo (colN bs W H) W).length).flatten ∧ Bl w w' := by
  let w2 := ((w).alloc (.cells #[.string ⟨nm.toArray⟩, .int .i64 ht, .int .i64 gap, .int .i64 sp, .slice L ls.length c] 67)).alloc (.cells #[.int .i64 W, .int .i64 H, .slice A (W * H) ac] 24)
  have w2b : Bl w w2 := ((Bl.refl w).alloc _).alloc _
  have w21 : Blk w2 (w.heap.size) 67 #[.string ⟨nm.toArray⟩, .int .i64 ht, .int .i64 gap, .int .i64 sp, .slice L ls.length c] := by
    have h0 := Blk.new (w) 67 #[.string ⟨nm.toArray⟩, .int .i64 ht, .int .i64 gap, .int .i64 sp, .slice L ls.length c]
    exact (h0.alloc _)
  have w22 : Blk w2 (w.heap.size + 1) 24 #[.int .i64 W, .int .i64 H, .slice A (W * H) ac] := by
    have h0 := Blk.new ((w).alloc (.cells #[.string ⟨nm.toArray⟩, .int .i64 ht, .int .i64 gap, .int .i64 sp, .slice L ls.length c] 67)) 24 #[.int .i64 W, .int .i64 H, .slice A (W * H) ac]
    simp only [World.size_alloc] at h0
    exact h0
  have HL := Lib.hid (hL.bl w2b); have HA := Lib.hid (hA.bl w2b)
  have Hpc := Lib.hid (piecesOf_any W H A ac bs w2 (hA.bl w2b) hW hH.2)
  have lw2 : w2.heap.size = w.heap.size + 2 := by simp [w2]
  have k2 := w22.all3
  have HLs := Lib.hid hls
  clear hL hA hls
  go_enter Tryd.func60, Tryd.ntmps60
  go_wp2_with fail
  refine Hpc.out.mono ?_
  rintro e w4 ⟨v0, rfl, hR, hb24⟩
  clear_value w2
  obtain ⟨R0, d0, rfl, hR, -⟩ := own_new hR
  obtain ⟨ps, hps⟩ : ∃ ps, ps = piecesTo (colN bs W H) W := ⟨_, rfl⟩
  rw [← hps] at hR ⊢
  have hin : ∀ p ∈ ps, 1 ≤ p.2 ∧ p.1 + p.2 ≤ W := by rw [hps]; exact pieces_in _ W
  have hpl : ps.length ≤ W := by rw [hps]; exact pieces_len _ W
  obtain ⟨gs, hgs2⟩ : ∃ gs, gs = (gap + sp + 1) / 2 := ⟨_, rfl⟩
  have e0 : (gap + sp + 1).tdiv 2 = gs := by rw [hgs2]; exact Int.tdiv_eq_ediv_of_nonneg (by omega)
  have e1 : (gap + sp + 1) / 2 = gs := hgs2.symm
  obtain ⟨see, hsee⟩ : ∃ see, see = seeOf bs W H ls most ht := ⟨_, rfl⟩
  have h0 : w4.ownsRow w4.heap.size 85 7 (.slice none 0 0) (lineTo see gs H ps 0).length (lineTo see gs H ps 0).flatten := World.ownsRow_nil _ _ _ _
  have HR := Lib.hid hR; have HIn := Lib.hid hin; have HPs := Lib.hid hps; have HGs := Lib.hid hgs2; have HSee := Lib.hid hsee
  clear hR hin hps hgs2 hsee k2 Hpc
  go_wp2_with fail
  go_loopw [21, 7] (fun u v wr => ∃ i : Nat, i ≤ ps.length ∧ u = .int .i64 i ∧ Bl w4 wr ∧ wr.ownsRow w4.heap.size 85 7 v (lineTo see gs H ps i).length (lineTo see gs H ps i).flatten) (fun u _ _ => ps.length - (RowKit.intOf u).toNat)
  case atStart => exact ⟨0, Nat.zero_le _, rfl, Bl.refl _, h0⟩
  case round =>
    obtain ⟨i, hi, rfl, hbr, hown⟩ := hrel
    obtain ⟨R1, c1', rfl, -, -⟩ := own_new hown
    have HOw := Lib.hid hown
    clear hown
    by_cases hlt : i < ps.length
    · have hg : ps[i]? = some ps[i] := List.getElem?_eq_getElem hlt
      obtain ⟨p, hp⟩ : ∃ p, p = ps[i] := ⟨_, rfl⟩
      rw [← hp] at hg
      clear hp
      obtain ⟨X, bw⟩ := p
      have hpi : 1 ≤ bw ∧ X + bw ≤ W := HIn.out _ (List.mem_of_getElem? hg)
      have hpa : pieceAt ps i = (X, bw) := by unfold pieceAt; rw [List.getD_eq_getElem?_getD, hg]; rfl
      have hll := line_len see gs H ps i
      have hst : lineTo see gs H ps (i + 1) = lineTo see gs H ps i ++ (if 0 < i ∧ gs ≤ gapAt ps i then [spaceCells (endAt ps (i - 1)) (gapAt ps i) H] else []) ++ [see (pieceAt ps i)] := rfl
      obtain ⟨sp2, hsp2⟩ : ∃ x, x = (if 0 < i ∧ gs ≤ gapAt ps i then [spaceCells (endAt ps (i - 1)) (gapAt ps i) H] else []) := ⟨_, rfl⟩
      rw [← hsp2, hpa] at hst
      have hsl : sp2.length ≤ 1 := by rw [hsp2]; split <;> simp
      obtain ⟨adb, rfl, j0, j1, j2, j3⟩ := box_at (HR.out.bl hbr) hg
      obtain ⟨n0, hn0⟩ : ∃ n, n = (lineTo see gs H ps i).length := ⟨_, rfl⟩
      have hn0l : n0 ≤ 2 * i := by omega
      have HOw := Lib.hid (show wr.ownsRow w4.heap.size 85 7 (.slice R1 n0 c1') n0 (lineTo see gs H ps i).flatten by rw [hn0]; exact HOw.out)
      rw [← hn0]
      have HG := Lib.hid hg; have HSt := Lib.hid hst; have HSp := Lib.hid hsp2; have HN0 := Lib.hid hn0; have HPa := Lib.hid hpa
      clear hg hst hsp2 hn0 hpa hll
      go_upto_region 5 with fail
      obtain ⟨w5, hw5⟩ : ∃ x, x = wr.alloc (.cells #[.int .i64 X, .int .i64 0, .int .i64 bw, .int .i64 H] 29) := ⟨_, rfl⟩
      obtain ⟨q, hq⟩ : ∃ x, x = wr.heap.size := ⟨_, rfl⟩
      have bq : Blk w5 q 29 #[.int .i64 X, .int .i64 0, .int .i64 bw, .int .i64 H] := by rw [hw5, hq]; exact Blk.new _ _ _
      have hbr5 : Bl wr w5 := by rw [hw5]; exact (Bl.refl _).alloc _
      have hap : some q ≠ (Value.slice R1 n0 c1').ownBlock := own_apart HOw.out (by omega)
      rw [← hw5, ← hq]
      have HOw5 := Lib.hid (own_bl HOw.out hbr5)
      have HAp := Lib.hid hap
      have hb5 := hbr.trans hbr5
      clear hw5 hq j0 j1 j2 j3 hap HOw
      have k1 := (w21.bl (hb24.trans hb5)).all5
      have k2 := (w22.bl (hb24.trans hb5)).all3
      have k9 := bq.all4
      go_upto_if 27 with fail
      go_cut [7, 10, 11] from 26 to 64 (fun s7 _ _ wc => wc.ownsRow w4.heap.size 85 7 s7 (n0 + sp2.length) ((lineTo see gs H ps i).flatten ++ sp2.flatten) ∧ Blk wc q 29 #[.int .i64 X, .int .i64 0, .int .i64 bw, .int .i64 H] ∧ Bl w4 wc)
      case first =>
        by_cases hi0 : 0 < i
        · obtain ⟨k, hik⟩ : ∃ k, i = k + 1 := ⟨i - 1, by omega⟩
          have hgk : ps[k]? = some ps[k] := List.getElem?_eq_getElem (by omega)
          obtain ⟨p, hp⟩ : ∃ p, p = ps[k]'(by omega) := ⟨_, rfl⟩
          rw [← hp] at hgk
          clear hp
          obtain ⟨X', bw'⟩ := p
          have hpk : 1 ≤ bw' ∧ X' + bw' ≤ W := HIn.out _ (List.mem_of_getElem? hgk)
          have hpk2 : pieceAt ps k = (X', bw') := by unfold pieceAt; rw [List.getD_eq_getElem?_getD, hgk]; rfl
          have hend : endAt ps (i - 1) = (X' : Int) + (bw' : Int) := by
            unfold endAt
            rw [show i - 1 = k by omega, hpk2]
          have hgap : gapAt ps i = (X : Int) - (X' : Int) - (bw' : Int) := by
            unfold gapAt
            rw [hend, HPa.out]
            show (X : Int) - ((X' : Int) + (bw' : Int)) = _
            omega
          obtain ⟨pre, hpre⟩ := line_last (see := see) (gs := gs) (H := H) (ps := ps) (i := k)
          rw [← hik, hpk2] at hpre
          obtain ⟨t', a', b', hsf⟩ := seen_form (bestOf (grid bw' H (cutF bs W X' 0)) bw' H [] ls) X' bw' H most ht
          have hsk : see (X', bw') = [.string ⟨t'.toArray⟩, .int .i64 X', .int .i64 0, .int .i64 bw', .int .i64 H, .int .i64 a', .int .i64 b'] := by rw [HSee.out]; exact hsf
          rw [hsk] at hpre
          obtain ⟨N, hN⟩ : ∃ N, n0 = N + 1 := ⟨pre.length, by rw [HN0.out, hpre, List.length_append]; rfl⟩
          obtain ⟨g, cap, e, hgB, -⟩ := own_some HOw5.out (by omega)
          injection e with z1 _ z3
          subst z1
          subst z3
          have hlen : (lineTo see gs H ps i).flatten.length = (N + 1) * 7 := by rw [← hN]; exact HOw5.out.1
          rw [hpre] at hlen
          have hcell : ∀ j u, ([.string ⟨t'.toArray⟩, .int .i64 X', .int .i64 0, .int .i64 bw', .int .i64 H, .int .i64 a', .int .i64 b'] : List Value)[j]? = some u → w5.cell? ⟨g, N * 7 + j, none⟩ = some u := fun j u hu => own_cell HOw5.out (by rw [hpre]; exact flat_last hlen rfl hu)
          have m1 := hcell 1 _ rfl
          have m2 := hcell 2 _ rfl
          have m3 := hcell 3 _ rfl
          have m4 := hcell 4 _ rfl
          have hlen1 : (n0 : Int) - 1 = (N : Int) := by omega
          have hNN : (N : Int) < (n0 : Int) := by omega
          have hsp := HSp.out
          rw [hend, hgap] at hsp
          have HSp2 := Lib.hid hsp
          have HNl := Lib.hid hN
          clear hsp hend hgap hgk hik hpre hsf hsk hN hlen hcell hpk2
          go_upto_region 7 with fail
          obtain ⟨w6, hw6⟩ : ∃ x, x = w5.alloc (.cells #[.int .i64 X', .int .i64 0, .int .i64 bw', .int .i64 H] 29) := ⟨_, rfl⟩
          obtain ⟨q2, hq2⟩ : ∃ x, x = w5.heap.size := ⟨_, rfl⟩
          have bq2 : Blk w6 q2 29 #[.int .i64 X', .int .i64 0, .int .i64 bw', .int .i64 H] := by rw [hw6, hq2]; exact Blk.new _ _ _
          have hb56 : Bl w5 w6 := by rw [hw6]; exact (Bl.refl _).alloc _
          rw [← hw6, ← hq2]
          clear hw6 hq2 m1 m2 m3 m4 k9 k1 k2
          have hb6 := hb5.trans hb56
          have k1 := (w21.bl (hb24.trans hb6)).all5
          have k2 := (w22.bl (hb24.trans hb6)).all3
          have k8 := bq2.all4
          have bq6 := bq.bl hb56
          have k9 := bq6.all4
          by_cases hq : gs ≤ (X : Int) - (X' : Int) - (bw' : Int)
          · have HE := Lib.hid (show sp2 = [spaceCells ((X' : Int) + (bw' : Int)) ((X : Int) - (X' : Int) - (bw' : Int)) H] by rw [HSp2.out]; exact if_pos ⟨hi0, hq⟩)
            go_wp2_with (at_builtin; refine wpList_append_bl (w1 := w4) rfl (.tmp 52) (.tmp 63) 78 rfl 85 (.agg #[.string ⟨#[]⟩, .int .i64 0, .int .i64 0, .int .i64 0, .int .i64 0, .int .i64 0, .int .i64 0]) 7 64 Tryd.underlying78 info_seen rfl (by omega) w4.heap.size _ n0 (lineTo see gs H ps i).flatten rfl (hb6.alloc _) (Nat.le_refl _) ?hBr ((own_bl HOw5.out hb56).alloc _) (some ⟨w6.heap.size, 0, none⟩) 1 1 (spaceCells ((X' : Int) + (bw' : Int)) ((X : Int) - (X' : Int) - (bw' : Int)) H) rfl ((Blk.new _ _ _).reads 1 7 rfl) ?h1 ?c1 ?c2 ?_)
            case hBr => have := hb6.le; first | omega | (simp; omega)
            case h1 => simp [spaceCells, Value.oneCell']
            case c1 => unfold maxLen; omega
            case c2 => omega
            intro v' w8 hown8 hb8 hg8
            have bq8 := (bq6.alloc _).grown hg8 HAp.out
            have HO8 := Lib.hid hown8; have Bq8 := Lib.hid bq8; have Hb8 := Lib.hid hb8
            clear hown8 bq8 hb8 hg8
            go_wp2_with fail
            go_meet
            case rel => exact ⟨by rw [HE.out]; simpa using HO8.out, Bq8.out, Hb8.out⟩
          · have HE := Lib.hid (show sp2 = [] by rw [HSp2.out]; exact if_neg (fun h => hq h.2))
            go_wp2_with fail
            go_meet
            case rel => exact ⟨by rw [HE.out]; simpa using own_bl HOw5.out hb56, bq6, hb6⟩
        · have HE := Lib.hid (show sp2 = [] by rw [HSp.out]; exact if_neg (fun h => hi0 h.1))
          go_wp2_with fail
          go_meet
          case rel => exact ⟨by rw [HE.out]; simpa using HOw5.out, bq, hb5⟩
      case rest =>
        obtain ⟨hown, bq6, hb6⟩ := hcut
        rename World => w6
        clear k1 k2 k9
        have k2 := (w22.bl (hb24.trans hb6)).all3
        have k9 := bq6.all4
        obtain ⟨R3, c3, rfl, -, -⟩ := own_new hown
        have HO6 := Lib.hid hown
        clear hown
        have hct := cutOf_any W H X 0 bw H A ac bs w6 (HA.out.bl (hb24.trans hb6)) hW hH.2 hpi.2 (by omega)
        have Hct := Lib.hid hct
        clear hct
        go_wp2_with fail
        refine Hct.out.mono ?_
        rintro e w7 ⟨cR, cd, rfl, hcR, -, hb67⟩
        obtain ⟨cs, hcs⟩ : ∃ cs, cs = grid bw H (cutF bs W X 0) := ⟨_, rfl⟩
        rw [← hcs] at hcR
        clear k2 k9 Hct
        have k9 := (bq6.bl hb67).all4
        go_upto_region 11 with fail
        obtain ⟨w8, hw8⟩ : ∃ x, x = w7.alloc (.cells #[.int .i64 bw, .int .i64 H, .slice cR (bw * H) cd] 24) := ⟨_, rfl⟩
        obtain ⟨z, hz⟩ : ∃ x, x = w7.heap.size := ⟨_, rfl⟩
        have bZ : Blk w8 z 24 #[.int .i64 bw, .int .i64 H, .slice cR (bw * H) cd] := by rw [hw8, hz]; exact Blk.new _ _ _
        have hb78 : Bl w7 w8 := by rw [hw8]; exact (Bl.refl _).alloc _
        rw [← hw8, ← hz]
        clear hw8 hz k9
        have hb68 := hb67.trans hb78
        have hb8 := hb6.trans hb68
        have HO8 := Lib.hid (own_bl HO6.out hb68)
        have HcR := Lib.hid (hcR.bl hb78); have HCs := Lib.hid hcs
        have bq8 := bq6.bl hb68
        have k9 := bq8.all4
        clear hcR hcs HO6
        go_upto_region 12 with fail
        obtain ⟨w9, hw9⟩ : ∃ x, x = w8.alloc (.cells #[.string ⟨#[63]⟩, .int .i64 X, .int .i64 0, .int .i64 bw, .int .i64 H, .int .i64 (-1), .int .i64 (-1)] 85) := ⟨_, rfl⟩
        obtain ⟨o, ho⟩ : ∃ x, x = w8.heap.size := ⟨_, rfl⟩
        have bO : Blk w9 o 85 #[.string ⟨#[63]⟩, .int .i64 X, .int .i64 0, .int .i64 bw, .int .i64 H, .int .i64 (-1), .int .i64 (-1)] := by rw [hw9, ho]; exact Blk.new _ _ _
        have hb89 : Bl w8 w9 := by rw [hw9]; exact (Bl.refl _).alloc _
        have ho8 : w8.heap.size ≤ o := by omega
        rw [← hw9, ← ho]
        clear hw9 ho k9
        have k1 := (w21.bl (hb24.trans (hb8.trans hb89))).all5
        go_wp2_with fail
        go_loopw [73, 14] (fun u v wx => ∃ (j : Nat) (t : List UInt8) (d1 d2 : Int), j ≤ ls.length ∧ u = .int .i64 j ∧ v = .int .i64 d1 ∧ Bl w8 wx ∧ bestOf cs bw H [63] (ls.take j) = (t, d1, d2) ∧ Blk wx o 85 #[.string ⟨t.toArray⟩, .int .i64 X, .int .i64 0, .int .i64 bw, .int .i64 H, .int .i64 (-1), .int .i64 d2]) (fun u _ _ => ls.length - (RowKit.intOf u).toNat)
        case atStart => exact ⟨0, [63], -1, -1, Nat.zero_le _, rfl, rfl, hb89, rfl, bO⟩
        case round =>
          rename World => wx
          clear k1 bO hb89
          obtain ⟨j, t, d1, d2, hj, rfl, rfl, hbx, hbest, hbo⟩ := hrel
          have hinv := best_inv (cs := cs) (W := bw) (H := H) [63] (by omega) hH.2 (ls := ls.take j) (fun l hl => by
            obtain ⟨h1, h2⟩ := HLs.out l (List.mem_of_mem_take hl)
            obtain ⟨W', H', e1, e2, -, -, h4, -⟩ := page_nat h1
            exact ⟨h2, by omega⟩)
          rw [hbest] at hinv
          have hinv2 : d1 = -1 ∧ d2 = -1 ∨ (0 ≤ d1 ∧ d1 ≤ 32000000 ∧ -1 ≤ d2 ∧ d2 ≤ 32000000) := hinv
          have HBe := Lib.hid hbest
          clear hbest hinv
          have k9 := (bq8.bl hbx).all4
          have kz := (bZ.bl hbx).all3
          by_cases hlt2 : j < ls.length
          · have hg : ls[j]? = some ls[j] := List.getElem?_eq_getElem hlt2
            obtain ⟨l, hl⟩ : ∃ l, l = ls[j] := ⟨_, rfl⟩
            rw [← hl] at hg
            have hbs := bestOf_succ (cs := cs) (W := bw) (H := H) (t0 := [63]) hg
            rw [HBe.out] at hbs
            obtain ⟨hlz, hl64⟩ := HLs.out l (List.mem_of_getElem? hg)
            obtain ⟨adl, rfl, j1, j2, j3, j4⟩ := (HL.out.bl (hb24.trans (hb8.trans hbx))).at_ hg
            have hlA := (HL.out.2 l (List.mem_of_getElem? hg)).1
            obtain ⟨lW, lH, elW, elH, elm, hlW, hlH, -⟩ := page_nat hlz
            rw [elm] at hlA j4
            rw [elW] at j2 hl64
            rw [elH] at j3
            have hstep : bestStep cs bw H (t, d1, d2) l = if (lW : Int) - (bw : Int) < -2 ∨ 2 < (lW : Int) - (bw : Int) then (t, d1, d2) else if d1 < 0 ∨ farL cs bw H l < d1 then (l.text, farL cs bw H l, d1) else if d2 < 0 ∨ farL cs bw H l < d2 then (t, d1, farL cs bw H l) else (t, d1, d2) := by
              unfold bestStep
              rw [elW]
            rw [hstep] at hbs
            have hfar : farL cs bw H l = farN (inkF cs bw H) (inkF l.bs lW lH) bw H lW lH 1 := by unfold farL; rw [elW, elH]; rfl
            have hfr := far_range (W := bw) (H := H) (W' := lW) (H' := lH) (r := 1) (cs := cs) (bs := l.bs) (by omega) hH.2 hlW hlH
            rw [← hfar] at hfr
            have hd := fun wy (hy : Bl w8 wy) => farOf_any bw H lW lH 1 cR l.A cd l.c cs l.bs wy (HcR.out.bl hy) (hlA.bl (hb24.trans (hb8.trans hy))) (by omega) hH.2 hlW hlH (by omega)
            rw [← hfar] at hd
            obtain ⟨d, hdd⟩ : ∃ d, d = farL cs bw H l := ⟨_, rfl⟩
            rw [← hdd] at hbs hd hfr
            have hd' : ∀ wy, Bl w8 wy → Calls Tryd.prog 89 #[.agg #[.int .i64 bw, .int .i64 H, .slice cR (bw * H) cd], .agg #[.int .i64 lW, .int .i64 lH, .slice l.A (lW * lH) l.c], .int .i64 1] wy fun e w' => e = .returned (.int .i64 d) ∧ Bl wy w' := hd
            have Hd := Lib.hid hd'; have HBs := Lib.hid hbs
            clear hd hd' hbs hstep hfar hdd hlz hlA elW elH elm hg hl
            go_upto_region 16 with fail
            obtain ⟨wa, hwa⟩ : ∃ x, x = wx.alloc (.cells #[.string ⟨l.text.toArray⟩, .int .i64 lW, .int .i64 lH, .slice l.A (lW * lH) l.c] 111) := ⟨_, rfl⟩
            obtain ⟨pl, hpl2⟩ : ∃ x, x = wx.heap.size := ⟨_, rfl⟩
            have ba : Blk wa pl 111 #[.string ⟨l.text.toArray⟩, .int .i64 lW, .int .i64 lH, .slice l.A (lW * lH) l.c] := by rw [hwa, hpl2]; exact Blk.new _ _ _
            have hbxa : Bl wx wa := by rw [hwa]; exact (Bl.refl _).alloc _
            have hop : ¬ (o = pl) := by have := hbo.lt; omega
            rw [← hwa, ← hpl2]
            clear hwa hpl2 j1 j2 j3 j4 k9 kz
            have hba := hbx.trans hbxa
            have k9 := (bq8.bl hba).all4
            have kz := (bZ.bl hba).all3
            have kp := ba.all4
            have hboa := hbo.bl hbxa
            cases c1 : inB (lW : Int) ((bw : Int) - 2) ((bw : Int) + 2)
            · have HN := Lib.hid (HBs.out.trans (if_pos (by have := inB_false.1 c1; omega)))
              go_wp2_with fail
              refine (in_any _ _ _ _).mono ?_
              rintro e w' ⟨rfl, rfl⟩
              rw [c1]
              go_wp2_with fail
              exact ⟨⟨j + 1, t, d1, d2, hlt2, by go_num, rfl, hba, HN.out, hboa⟩, by simp [RowKit.intOf] <;> omega⟩
            · have HB2 := Lib.hid (HBs.out.trans (if_neg (by have := inB_true.1 c1; omega)))
              go_wp2_with fail
              refine (in_any _ _ _ _).mono ?_
              rintro e w' ⟨rfl, rfl⟩
              rw [c1]
              go_wp2_with fail
              refine (Hd.out _ hba).mono ?_
              rintro e wb ⟨rfl, hbab⟩
              have hbb := hba.trans hbab
              have hbob := hboa.bl hbab
              have ko := hbob.all7
              have kp := (ba.bl hbab).all4
              clear k9 kz c1
              by_cases c3 : d1 < 0
              · have HN := Lib.hid (HB2.out.trans (if_pos (.inl c3)))
                go_upto_region 20 with fail
                refine wp_region_flow [(true, 0), (true, 1), (true, 2), (true, 3), (true, 4), (false, 5)] (fun i => i == 5) (by kernel_rfl) (by kernel_rfl) (by kernel_rfl) (by kernel_rfl) ?_
                iterate 1
                  apply Flow.mv _ rfl
                  · intro K' hK'
                    simp only [Act.put, Act.eval, List.setIfInBounds_toArray, List.set_cons_zero, List.set_cons_succ, arr_getD, List.getD_cons_zero, List.getD_cons_succ]
                    exact hK'
                iterate 1
                  apply Flow.calm2 _ _ rfl rfl
                  · intro w' hb' K' hK'
                    obtain ⟨hc', hf'⟩ := hb'.rule
                    go_simp
                    try go_ints
                    exact hK'
                  · intro K' hK'
                    simp only [Act.put, List.setIfInBounds_toArray, List.set_cons_zero, List.set_cons_succ]
                    exact hK'
                iterate 1
                  apply Flow.calm2 _ _ rfl rfl
                  · intro w' hb' K' hK'
                    obtain ⟨hc', hf'⟩ := hb'.rule
                    go_simp
                    try go_ints
                    exact hK'
                  · intro K' hK'
                    simp only [Act.put, List.setIfInBounds_toArray, List.set_cons_zero, List.set_cons_succ]
                    exact hK'
                iterate 1
                  apply Flow.asg _ rfl
                  · intro K' hK'
                    simp only [Act.put, Act.eval, List.setIfInBounds_toArray, List.set_cons_zero, List.set_cons_succ, arr_getD, List.getD_cons_zero, List.getD_cons_succ]
                    exact hK'
                iterate 1
                  apply Flow.calm2 _ _ rfl rfl
                  · intro w' hb' K' hK'
                    obtain ⟨hc', hf'⟩ := hb'.rule
                    go_simp
                    try go_ints
                    exact hK'
                  · intro K' hK'
                    simp only [Act.put, List.setIfInBounds_toArray, List.set_cons_zero, List.set_cons_succ]
                    exact hK'
                refine Flow.tail _ rfl ?_
                go_wp2_with fail
                exact ⟨⟨j + 1, l.text, d, d1, hlt2, by go_num, rfl, (((hbb.setCell ho8 _).drew).setCell ho8 _), HN.out, (((hbob.set_ 6 _).drew).set_ 0 _)⟩, by simp [RowKit.intOf] <;> omega⟩
              · by_cases c4 : d < d1
                · have HN := Lib.hid (HB2.out.trans (if_pos (.inr c4)))
                  go_upto_region 20 with fail
                  refine wp_region_flow [(true, 0), (true, 1), (true, 2), (true, 3), (true, 4), (false, 5)] (fun i => i == 5) (by kernel_rfl) (by kernel_rfl) (by kernel_rfl) (by kernel_rfl) ?_
                  iterate 1
                    apply Flow.mv _ rfl
                    · intro K' hK'
                      simp only [Act.put, Act.eval, List.setIfInBounds_toArray, List.set_cons_zero, List.set_cons_succ, arr_getD, List.getD_cons_zero, List.getD_cons_succ]
                      exact hK'
                  iterate 1
                    apply Flow.calm2 _ _ rfl rfl
                    · intro w' hb' K' hK'
                      obtain ⟨hc', hf'⟩ := hb'.rule
                      go_simp
                      try go_ints
                      exact hK'
                    · intro K' hK'
                      simp only [Act.put, List.setIfInBounds_toArray, List.set_cons_zero, List.set_cons_succ]
                      exact hK'
                  iterate 1
                    apply Flow.calm2 _ _ rfl rfl
                    · intro w' hb' K' hK'
                      obtain ⟨hc', hf'⟩ := hb'.rule
                      go_simp
                      try go_ints
                      exact hK'
                    · intro K' hK'
                      simp only [Act.put, List.setIfInBounds_toArray, List.set_cons_zero, List.set_cons_succ]
                      exact hK'
                  iterate 1
                    apply Flow.asg _ rfl
                    · intro K' hK'
                      simp only [Act.put, Act.eval, List.setIfInBounds_toArray, List.set_cons_zero, List.set_cons_succ, arr_getD, List.getD_cons_zero, List.getD_cons_succ]
                      exact hK'
                  iterate 1
                    apply Flow.calm2 _ _ rfl rfl
                    · intro w' hb' K' hK'
                      obtain ⟨hc', hf'⟩ := hb'.rule
                      go_simp
                      try go_ints
                      exact hK'
                    · intro K' hK'
                      simp only [Act.put, List.setIfInBounds_toArray, List.set_cons_zero, List.set_cons_succ]
                      exact hK'
                  refine Flow.tail _ rfl ?_
                  go_wp2_with fail
                  exact ⟨⟨j + 1, l.text, d, d1, hlt2, by go_num, rfl, (((hbb.setCell ho8 _).drew).setCell ho8 _), HN.out, (((hbob.set_ 6 _).drew).set_ 0 _)⟩, by simp [RowKit.intOf] <;> omega⟩
                · have HB3 := Lib.hid (HB2.out.trans (if_neg (by omega)))
                  by_cases c5 : d2 < 0
                  · have HN := Lib.hid (HB3.out.trans (if_pos (.inl c5)))
                    go_wp2_with fail
                    exact ⟨⟨j + 1, t, d1, d, hlt2, by go_num, rfl, hbb.setCell ho8 _, HN.out, hbob.set_ 6 _⟩, by simp [RowKit.intOf] <;> omega⟩
                  · by_cases c6 : d < d2
                    · have HN := Lib.hid (HB3.out.trans (if_pos (.inr c6)))
                      go_wp2_with fail
                      exact ⟨⟨j + 1, t, d1, d, hlt2, by go_num, rfl, hbb.setCell ho8 _, HN.out, hbob.set_ 6 _⟩, by simp [RowKit.intOf] <;> omega⟩
                    · have HN := Lib.hid (HB3.out.trans (if_neg (by omega)))
                      go_wp2_with fail
                      exact ⟨⟨j + 1, t, d1, d2, hlt2, by go_num, rfl, hbb, HN.out, hbob⟩, by simp [RowKit.intOf] <;> omega⟩
          · obtain rfl : j = ls.length := by omega
            have hbest := HBe.out
            rw [List.take_length] at hbest
            have ko := hbo.all7
            have k1 := (w21.bl (hb24.trans (hb8.trans hbx))).all5
            have m1 := Int.mul_nonneg hm.1 (show 0 ≤ ht by omega)
            have m2 : most * ht ≤ 64000 := Int.le_trans (Int.mul_le_mul hm.2 hht.2 (by omega) (by omega)) (by decide)
            have m3 := Int.mul_nonneg m1 (show (0 : Int) ≤ (bw : Int) by omega)
            have m4 : most * ht * (bw : Int) ≤ 256000000 := Int.le_trans (Int.mul_le_mul m2 (show (bw : Int) ≤ 4000 by omega) (by omega) (by omega)) (by decide)
            have hsv : seenCells (bestOf cs bw H [] ls) X bw H most ht = seenCells (t, d1, d2) X bw H most ht := by
              rw [← hbest]
              exact seen_text [] [63] ls (by omega) hH.2 (fun l hl => by
                obtain ⟨h1, h2⟩ := HLs.out l hl
                obtain ⟨W', H', e1, e2, -, -, h4, -⟩ := page_nat h1
                exact ⟨h2, by omega⟩) X bw H most ht
            obtain ⟨t', a', b', hsf⟩ := seen_form (bestOf cs bw H [] ls) X bw H most ht
            have hsee : see (X, bw) = [.string ⟨t'.toArray⟩, .int .i64 X, .int .i64 0, .int .i64 bw, .int .i64 H, .int .i64 a', .int .i64 b'] := by rw [HSee.out, ← hsf, HCs.out]; rfl
            rw [hsf] at hsv
            have HSv := Lib.hid hsv; have HSe := Lib.hid hsee
            clear hbest HBe hsv hsf hsee kz
            obtain ⟨fo, hfo⟩ : ∃ x, x = farOff (t, d1, d2) most ht bw := ⟨_, rfl⟩
            have HFo := Lib.hid hfo
            clear hfo
            go_upto_region 24 with fail
            go_cut [132] from 119 to 132 (fun s132 wc => s132 = .bool fo ∧ wc = wx)
            case first =>
              by_cases c1 : d1 < 0
              · have hv : fo = true := by rw [HFo.out]; exact decide_eq_true (.inl c1)
                have HV := Lib.hid hv
                clear hv
                go_wp2_with fail
                go_meet
                case rel => exact ⟨by rw [HV.out], rfl⟩
              · by_cases c2 : most * ht * (bw : Int) < d1 * 1000
                · have hv : fo = true := by rw [HFo.out]; exact decide_eq_true (.inr c2)
                  have HV := Lib.hid hv
                  clear hv
                  go_wp2_with fail
                  go_meet
                  case rel => exact ⟨by rw [HV.out], rfl⟩
                · have hv : fo = false := by rw [HFo.out]; exact decide_eq_false (by simp only [not_or]; exact ⟨c1, c2⟩)
                  have HV := Lib.hid hv
                  clear hv
                  go_wp2_with fail
                  go_meet
                  case rel => exact ⟨by rw [HV.out], rfl⟩
            case rest =>
              obtain ⟨rfl, rfl⟩ := hcut
              go_upto_if 132 with fail
              go_cut [] from 133 to 136 (fun wc => Blk wc o 85 #[.string ⟨t'.toArray⟩, .int .i64 X, .int .i64 0, .int .i64 bw, .int .i64 H, .int .i64 a', .int .i64 b'] ∧ Bl w8 wc)
              case first =>
                cases fo
                · have hv : seenCells (t, d1, d2) X bw H most ht = [.string ⟨t.toArray⟩, .int .i64 X, .int .i64 0, .int .i64 bw, .int .i64 H, .int .i64 d1, .int .i64 d2] := by
                    unfold seenCells
                    rw [← HFo.out]
                    rfl
                  rw [HSv.out.symm] at hv
                  simp only [List.cons.injEq, Value.string.injEq, Value.int.injEq, true_and, and_true] at hv
                  obtain ⟨hv1, hv2, hv3⟩ := hv
                  have HV := Lib.hid (show #[Value.string ⟨t'.toArray⟩, .int .i64 X, .int .i64 0, .int .i64 bw, .int .i64 H, .int .i64 a', .int .i64 b'] = #[Value.string ⟨t.toArray⟩, .int .i64 X, .int .i64 0, .int .i64 bw, .int .i64 H, .int .i64 d1, .int .i64 d2] by rw [hv1, hv2, hv3])
                  clear hv1 hv2 hv3
                  go_wp2_with fail
                  go_meet
                  case rel => exact ⟨by rw [HV.out]; exact hbo.set_ 5 _, hbx.setCell ho8 _⟩
                · have hv : seenCells (t, d1, d2) X bw H most ht = [.string ⟨#[63]⟩, .int .i64 X, .int .i64 0, .int .i64 bw, .int .i64 H, .int .i64 (-1), .int .i64 (-1)] := by
                    unfold seenCells
                    rw [← HFo.out]
                    rfl
                  rw [HSv.out.symm] at hv
                  simp only [List.cons.injEq, Value.string.injEq, Value.int.injEq, true_and, and_true] at hv
                  obtain ⟨hv1, hv2, hv3⟩ := hv
                  have HV := Lib.hid (show #[Value.string ⟨t'.toArray⟩, .int .i64 X, .int .i64 0, .int .i64 bw, .int .i64 H, .int .i64 a', .int .i64 b'] = #[Value.string ⟨#[63]⟩, .int .i64 X, .int .i64 0, .int .i64 bw, .int .i64 H, .int .i64 (-1), .int .i64 (-1)] by rw [hv1, hv2, hv3])
                  clear hv1 hv2 hv3
                  go_wp2_with fail
                  go_meet
                  case rel => exact ⟨by rw [HV.out]; exact (hbo.set_ 0 _).set_ 6 _, (hbx.setCell ho8 _).setCell ho8 _⟩
              case rest =>
                obtain ⟨hbo2, hb8c⟩ := hcut
                rename World => wd
                clear k1 ko k9 m1 m2 m3 m4
                have ko := hbo2.all7
                have HO9 := Lib.hid (own_bl HO8.out hb8c)
                have hbd := hb8.trans hb8c
                go_wp2_with (at_builtin; refine wpList_append_bl (w1 := w4) rfl (.tmp 137) (.tmp 139) 78 rfl 85 (.agg #[.string ⟨#[]⟩, .int .i64 0, .int .i64 0, .int .i64 0, .int .i64 0, .int .i64 0, .int .i64 0]) 7 64 Tryd.underlying78 info_seen rfl (by omega) w4.heap.size _ (n0 + sp2.length) ((lineTo see gs H ps i).flatten ++ sp2.flatten) rfl (hbd.alloc _) ?hB ?hBr (HO9.out.alloc _) (some ⟨wd.heap.size, 0, none⟩) 1 1 [.string ⟨t'.toArray⟩, .int .i64 X, .int .i64 0, .int .i64 bw, .int .i64 H, .int .i64 a', .int .i64 b'] rfl ((Blk.new _ _ _).reads 1 7 rfl) ?h1 ?c1 ?c2 ?_)
                case hB => exact Nat.le_refl _
                case hBr => have := hbd.le; first | omega | (simp; omega)
                case h1 => simp [Value.oneCell']
                case c1 => unfold maxLen; omega
                case c2 => omega
                intro v' we howne hbe hge
                have hfin : we.ownsRow w4.heap.size 85 7 v' (lineTo see gs H ps (i + 1)).length (lineTo see gs H ps (i + 1)).flatten := by
                  rw [HSt.out, HSe.out, List.length_append, List.length_append, List.flatten_append, List.flatten_append, ← HN0.out]
                  simpa using howne
                have HFin := Lib.hid hfin; have Hbe := Lib.hid hbe
                clear howne hfin hbe hge
                go_wp2_with fail
                exact ⟨⟨i + 1, hlt, by go_num, Hbe.out, HFin.out⟩, by simp [RowKit.intOf] <;> omega⟩
    · obtain rfl : i = ps.length := by omega
      go_wp2_with fail
      go_ret
      refine ⟨_, rfl, ?_, w2b.trans (hb24.trans hbr)⟩
      rw [← HPs.out, ← HGs.out, ← HSee.out]
      exact own_less HOw.out (by have := hb24.le; omega)

end Go.Proofs.YtkhajhcfplicpaaDoor
