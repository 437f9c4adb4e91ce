/- The reference's vote. -/
import Derived.Test.YtecfjdladcmhjaaDoorLearnLaw
namespace Go.Proofs.YtecfjdladcmhjaaDoor
open Go.RowKit

set_option maxRecDepth 100000 in
set_option maxHeartbeats 2000000 in
theorem learnOf1_any (b : Nat) (S : Option Addr) (c : Nat) (ps : List Pg) (W H x y : Nat) (w : World) (hb : Blk w b 69 #[.slice S ps.length c]) (hS : PgsAt w S ps) (hn : ps.length ≤ 1000) (hp : ∀ p ∈ ps, p.W = W ∧ p.H = H ∧ p.m = W * H) (hW : W ≤ 4000) (hH : H ≤ 4000) (hx : x < W) (hy : y < H) :
    Calls Tryd.prog 126 #[.int .i64 x, .int .i64 y, .pointer (some ⟨b, 0, none⟩)] w fun e w' => e = .returned (.bool (voteF ps W x y)) ∧ Bl w w' := by
  have k1 := hb.all1
  have HB := Lib.hid hb; have HS := Lib.hid hS; have HP := Lib.hid hp
  clear hb hS hp
  go_enter Tryd.func126, Tryd.ntmps126
  go_wp2_with fail
  go_loopw [6, 11] (fun n u wr => ∃ i : Nat, i ≤ ps.length ∧ n = .int .i64 (voteN (ps.take i) (y * W + x) : Nat) ∧ u = .int .i64 i ∧ Bl w wr) (fun _ u _ => ps.length - (RowKit.intOf u).toNat)
  case atStart => exact ⟨0, Nat.zero_le _, rfl, rfl, Bl.refl _⟩
  case round =>
    obtain ⟨i, hi, rfl, rfl, hbr⟩ := hrel
    have hvn : voteN (ps.take i) (y * W + x) ≤ 1000 := by have := voteN_le (ps.take i) (y * W + x); have := List.length_take_le i ps; omega
    by_cases hlt : i < ps.length
    · have hg : ps[i]? = some ps[i] := List.getElem?_eq_getElem hlt
      obtain ⟨p, hpp⟩ : ∃ p, p = ps[i] := ⟨_, rfl⟩
      rw [← hpp] at hg
      obtain ⟨eW, eH, em⟩ := HP.out p (List.mem_of_getElem? hg)
      have hsu := voteN_succ hg (y * W + x)
      obtain ⟨ad, rfl, j1, j2, j3⟩ := (HS.out.bl hbr).at_ hg
      rw [eW] at j1
      rw [eH] at j2
      rw [em] at j3
      have hr := HS.out.2 p (List.mem_of_getElem? hg)
      rw [em] at hr
      have hat := fun wx (hx' : Bl w wx) => at_any W H p.A p.c p.bs (x : Int) (y : Int) wx (hr.bl hx') hW hH
      rw [atI_in p.bs W H x y hx hy] at hat
      have hpx : pix p.bs W x y = p.bs.getD (y * W + x) false := rfl
      rw [hpx] at hat
      obtain ⟨v, hv⟩ : ∃ v, v = voteN (ps.take i) (y * W + x) := ⟨_, rfl⟩
      rw [← hv] at hsu hvn ⊢
      have Hat := Lib.hid hat; have Hsu := Lib.hid hsu
      clear hat hsu hv hg hpp hr eW eH em hpx
      go_wp2_with fail
      refine (Hat.out _ (hbr.alloc _)).mono ?_
      rintro e w1 ⟨rfl, hb1⟩
      cases hbit : p.bs.getD (y * W + x) false
      · have HN := Lib.hid (show voteN (ps.take (i + 1)) (y * W + x) = v by rw [Hsu.out, hbit]; rfl)
        go_wp2_with fail
        exact ⟨⟨i + 1, hlt, by rw [HN.out], by go_num, (hbr.alloc _).trans hb1⟩, by simp [RowKit.intOf]; omega⟩
      · have HN := Lib.hid (show voteN (ps.take (i + 1)) (y * W + x) = v + 1 by rw [Hsu.out, hbit]; rfl)
        go_wp2_with fail
        exact ⟨⟨i + 1, hlt, by rw [HN.out]; go_num, by go_num, (hbr.alloc _).trans hb1⟩, by simp [RowKit.intOf]; omega⟩
    · obtain rfl : i = ps.length := by omega
      have k1 := (HB.out.bl hbr).all1
      rw [List.take_length] at hvn ⊢
      go_wp2_with fail
      go_ret
      exact ⟨rfl, hbr⟩

end Go.Proofs.YtecfjdladcmhjaaDoor
