/- bedref2.SameFont of fonts with the same face. -/
import Derived.Test.YtecfjdladcmhjaaDoorNoiseOf
import Derived.Test.YtecfjdladcmhjaaDoorCut10
namespace Go.Proofs.YtecfjdladcmhjaaDoor
open Go.RowKit

/-- All of a letter but where its pixels lie. -/
def Ltr.face (l : Ltr) : List UInt8 × Int × Int × Nat × List Bool := (l.text, l.W, l.H, l.m, l.bs)

set_option maxRecDepth 100000 in
set_option maxHeartbeats 1000000 in
theorem sameLtr_any (l1 l2 : Ltr) (w : World) (h : l1.face = l2.face) (h1 : Reads w 1 l1.A l1.m (l1.bs.map .bool)) (h2 : Reads w 1 l2.A l2.m (l2.bs.map .bool)) (hm : l1.m ≤ 1099511627776) :
    Calls Tryd.prog 132 #[l1.val, l2.val] w fun e w' => e = .returned (.bool true) ∧ Bl w w' := by
  obtain ⟨t, W, H, A, m, c, bs⟩ := l1
  obtain ⟨t', W', H', B, m', d, bs'⟩ := l2
  simp only [Ltr.face, Prod.mk.injEq] at h
  obtain ⟨rfl, rfl, rfl, rfl, rfl⟩ := h
  unfold Ltr.val
  have hs := fun wx (hb : Bl w wx) => sameBitsG_any W H A B m c d bs wx (h1.bl hb) (h2.bl hb) hm
  have Hs := Lib.hid hs
  clear hs h1 h2
  go_enter Tryd.func132, Tryd.ntmps132
  go_wp2_with fail
  refine (Hs.out _ (((Bl.refl _).alloc _).alloc _)).mono ?_
  rintro e w1 ⟨rfl, hb1⟩
  go_wp2_with fail
  go_ret
  exact ⟨rfl, (((Bl.refl _).alloc _).alloc _).trans hb1⟩

set_option maxRecDepth 100000 in
set_option maxHeartbeats 1000000 in
theorem sameLtrs_any (L1 L2 : Option Addr) (c1 c2 : Nat) (ls1 ls2 : List Ltr) (w : World) (h : ls1.map Ltr.face = ls2.map Ltr.face) (h1 : LtrsAt w L1 ls1) (h2 : LtrsAt w L2 ls2) (hn : ls1.length ≤ 1099511627776) (hm : ∀ l ∈ ls1, l.m ≤ 1099511627776) :
    Calls Tryd.prog 131 #[.slice L1 ls1.length c1, .slice L2 ls2.length c2, .func (.func 132) #[] #[]] w fun e w' => e = .returned (.bool true) ∧ Bl w w' := by
  have hlen : ls2.length = ls1.length := by have := congrArg List.length h; simpa using this.symm
  have hent : ∀ args w, (callFunc 132 args).run Tryd.prog w = .ok (.enter 132 args) w := enters Tryd.func132 (by kernel_rfl) rfl
  rw [hlen]
  have H1 := Lib.hid h1; have H2 := Lib.hid h2; have HF := Lib.hid h; have HM := Lib.hid hm; have HLen := Lib.hid hlen
  clear h1 h2 h hm hlen
  go_enter Tryd.func131, Tryd.ntmps131
  go_wp2_with fail
  go_loopw [17] (fun u wr => ∃ i : Nat, i ≤ ls1.length ∧ u = .int .i64 i ∧ Bl w wr) (fun u _ => ls1.length - (RowKit.intOf u).toNat)
  case atStart => exact ⟨0, Nat.zero_le _, rfl, Bl.refl _⟩
  case round =>
    obtain ⟨i, hi, rfl, hbr⟩ := hrel
    by_cases hlt : i < ls1.length
    · have hlt2 : i < ls2.length := by rw [HLen.out]; exact hlt
      have g1 : ls1[i]? = some ls1[i] := List.getElem?_eq_getElem hlt
      have g2 : ls2[i]? = some ls2[i] := List.getElem?_eq_getElem hlt2
      obtain ⟨a, ha⟩ : ∃ l, l = ls1[i] := ⟨_, rfl⟩
      obtain ⟨b, hb⟩ : ∃ l, l = ls2[i] := ⟨_, rfl⟩
      rw [← ha] at g1
      rw [← hb] at g2
      have hf : a.face = b.face := by
        have e1 : (ls1.map Ltr.face)[i]? = some a.face := by rw [List.getElem?_map, g1]; rfl
        have e2 : (ls2.map Ltr.face)[i]? = some b.face := by rw [List.getElem?_map, g2]; rfl
        rw [HF.out, e2] at e1
        exact (Option.some.inj e1).symm
      have hs := fun wx (hx : Bl w wx) => sameLtr_any a b wx hf ((H1.out.bl hx).2 a (List.mem_of_getElem? g1)).1 ((H2.out.bl hx).2 b (List.mem_of_getElem? g2)).1 (HM.out a (List.mem_of_getElem? g1))
      have Hs := Lib.hid hs
      obtain ⟨ad, rfl, j1, j2, j3, j4⟩ := (H1.out.bl hbr).at_ g1
      have hb1 : Bl wr (wr.alloc (.cells #[.string ⟨a.text.toArray⟩, .int .i64 a.W, .int .i64 a.H, .slice a.A a.m a.c] 99)) := (Bl.refl _).alloc _
      obtain ⟨ad2, rfl, i1, i2, i3, i4⟩ := (H2.out.bl (hbr.trans hb1)).at_ g2
      clear ha hb g1 g2 hf hs hlt2
      go_wp2_with fail
      refine (Hs.out _ ((hbr.trans hb1).alloc _)).mono ?_
      rintro e w1 ⟨rfl, hbw⟩
      go_wp2_with fail
      exact ⟨⟨i + 1, hlt, by go_num, ((hbr.trans hb1).alloc _).trans hbw⟩, by simp [RowKit.intOf]; omega⟩
    · obtain rfl : i = ls1.length := by omega
      go_wp2_with fail
      go_ret
      exact ⟨rfl, hbr⟩

set_option maxRecDepth 100000 in
set_option maxHeartbeats 1000000 in
theorem sameFont_any (nm : ByteArray) (ht gap sp : Int) (L1 L2 : Option Addr) (c1 c2 : Nat) (ls1 ls2 : List Ltr) (w : World) (h : ls1.map Ltr.face = ls2.map Ltr.face) (h1 : LtrsAt w L1 ls1) (h2 : LtrsAt w L2 ls2) (hn : ls1.length ≤ 1099511627776) (hm : ∀ l ∈ ls1, l.m ≤ 1099511627776) :
    Calls Tryd.prog 53 #[.agg #[.string nm, .int .i64 ht, .int .i64 gap, .int .i64 sp, .slice L1 ls1.length c1], .agg #[.string nm, .int .i64 ht, .int .i64 gap, .int .i64 sp, .slice L2 ls2.length c2]] w fun e w' => e = .returned (.bool true) ∧ Bl w w' := by
  have hs := fun wx (hx : Bl w wx) => sameLtrs_any L1 L2 c1 c2 ls1 ls2 wx h (h1.bl hx) (h2.bl hx) hn hm
  have Hs := Lib.hid hs
  clear hs h1 h2 h hm
  go_enter Tryd.func53, Tryd.ntmps53
  go_wp2_with fail
  refine (Hs.out _ (((Bl.refl _).alloc _).alloc _)).mono ?_
  rintro e w1 ⟨rfl, hb1⟩
  go_wp2_with fail
  go_ret
  exact ⟨rfl, (((Bl.refl _).alloc _).alloc _).trans hb1⟩

end Go.Proofs.YtecfjdladcmhjaaDoor
