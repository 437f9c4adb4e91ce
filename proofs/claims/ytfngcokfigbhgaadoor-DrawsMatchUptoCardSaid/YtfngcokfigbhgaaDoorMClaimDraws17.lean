/- bedref2.NoiseOf. -/
import Derived.Test.YtfngcokfigbhgaaDoorMClaimDraws15
import Derived.Test.YtfngcokfigbhgaaDoorMClaimDraws1
import Derived.Lib.SliceRun

namespace Go.Proofs.YtfngcokfigbhgaaDoor
open Go.RowKit

theorem own_mono {w : World} {base base' : Nat} {e : TypeId} {size : Nat} {v : Value} {n : Nat} {xs : List Value} (h : w.ownsRow base e size v n xs) (hb : base' ≤ base) : w.ownsRow base' e size v n xs := by
  refine ⟨h.1, ?_⟩
  rcases h.2 with h2 | ⟨g, cap, cur, hv, hg, r⟩
  · exact .inl h2
  · exact .inr ⟨g, cap, cur, hv, Nat.le_trans hb hg, r⟩
set_option maxRecDepth 100000 in
set_option maxHeartbeats 1000000 in
theorem clone_any (A : Option Addr) (n c : Nat) (xs : List Bool) (w : World) (hA : Reads w 1 A n (xs.map .bool)) (hn : n ≤ 1099511627776) :
    Calls Tryd.prog 181 #[.slice A n c] w fun e w' => ∃ v, e = .returned v ∧ w'.ownsRow w.heap.size 4 1 v n (xs.map .bool) ∧ Bl w w' := by
  rcases A with _ | ad
  · have h0 : n = 0 := by
      rcases Nat.eq_zero_or_pos n with h | h
      · exact h
      · obtain ⟨ad, e, _⟩ := hA.2 h; cases e
    subst h0
    have hx : xs = [] := List.eq_nil_of_length_eq_zero (by simpa using hA.1)
    subst hx
    have q22 := fun w => Lib.run_eql_slice_nil (P := Tryd.prog) w 25 _ none 0 c 0 0 Tryd.underlying25
    go_enter Tryd.func181, Tryd.ntmps181
    go_wp2_with fail
    go_ret
    exact ⟨_, rfl, World.ownsRow_nil _ _ _ _, Bl.refl _⟩
  · have HA := Lib.hid hA
    have h1 : ∀ u ∈ xs.map Value.bool, u.oneCell' = true := fun u hu => by obtain ⟨b, _, rfl⟩ := List.mem_map.1 hu; rfl
    have H1 := Lib.hid h1
    clear hA h1
    have q22 := fun w => Lib.run_eql_slice_nil (P := Tryd.prog) w 25 _ (some ad) n c 0 0 Tryd.underlying25
    go_enter Tryd.func181, Tryd.ntmps181
    go_wp2_with (at_builtin; refine wpList_append_bl rfl (.tmp 5) (.tmp 6) 25 rfl 4 (.bool false) 1 1 Tryd.underlying25 info_bool rfl (by omega) w.heap.size _ 0 [] rfl ?hb (Nat.le_refl _) ?hB ?hown _ n c _ rfl ?hr H1.out ?c1 ?c2 ?_)
    case hb => exact (Bl.refl _).alloc _
    case hB => simp
    case hown => exact ⟨rfl, Or.inr ⟨w.heap.size, 0, #[], rfl, Nat.le_refl _, MapKept.heap_alloc w _ |>.1, Nat.le_refl _, Nat.zero_le _, rfl, rfl⟩⟩
    case hr => exact HA.out.bl ((Bl.refl _).alloc _)
    case c1 => unfold maxLen; omega
    case c2 => omega
    intro v' w' hown hb' _
    go_wp2_with fail
    go_ret
    exact ⟨_, rfl, hown, hb'⟩

set_option maxRecDepth 100000 in
set_option maxHeartbeats 1000000 in
theorem cloned_any (W H : Int) (A : Option Addr) (n c : Nat) (xs : List Bool) (w : World) (hA : Reads w 1 A n (xs.map .bool)) (hn : n ≤ 1099511627776) :
    Calls Tryd.prog 117 #[.agg #[.int .i64 W, .int .i64 H, .slice A n c]] w fun e w' => ∃ R d, e = .returned (.agg #[.int .i64 W, .int .i64 H, .slice R n d]) ∧ w'.ownsRow w.heap.size 4 1 (.slice R n d) n (xs.map .bool) ∧ Bl w w' := by
  let w2 := ((w).alloc (.cells #[.int .i64 W, .int .i64 H, .slice A n c] 27)).alloc (.cells #[.int .i64 0, .int .i64 0, .slice none 0 0] 27)
  have w2b : Bl w w2 := ((Bl.refl w).alloc _).alloc _
  have w21 : Blk w2 (w.heap.size) 27 #[.int .i64 W, .int .i64 H, .slice A n c] := by
    have h0 := Blk.new (w) 27 #[.int .i64 W, .int .i64 H, .slice A n c]
    exact (h0.alloc _)
  have w22 : Blk w2 (w.heap.size + 1) 27 #[.int .i64 0, .int .i64 0, .slice none 0 0] := by
    have h0 := Blk.new ((w).alloc (.cells #[.int .i64 W, .int .i64 H, .slice A n c] 27)) 27 #[.int .i64 0, .int .i64 0, .slice none 0 0]
    simp only [World.size_alloc] at h0
    exact h0
  have k1 := w21.all3
  have lw2 : w2.heap.size = w.heap.size + 2 := by simp [w2]
  have Hc := Lib.hid (clone_any A n c xs w2 (hA.bl w2b) hn)
  have Lw2 := Lib.hid lw2
  clear hA lw2
  go_enter Tryd.func117, Tryd.ntmps117
  go_wp2_with fail
  refine Hc.out.mono ?_
  rintro e w3 ⟨v, rfl, hown, hb3⟩
  obtain ⟨R, d, rfl, -, -⟩ := own_new hown
  have k1 := (w21.bl hb3).all3
  have k2 := (w22.bl hb3).all3
  have HO := Lib.hid hown
  clear hown
  go_wp2_with fail
  have q : ∀ i, (⟨w.heap.size, i, none⟩ : Addr).block < w2.heap.size := fun i => by rw [Lw2.out]; simp
  have q' : ∀ i, (⟨w.heap.size + 1, i, none⟩ : Addr).block < w2.heap.size := fun i => by rw [Lw2.out]; simp
  refine bodyPost_ret (v := .agg #[.int .i64 W, .int .i64 H, .slice R n d]) (by simp [results, Tryd.results117, go_sem, k2]) rfl ⟨R, d, rfl, ?_, ?_⟩
  · exact own_mono (ownsRow_setCell_below (ownsRow_setCell_below (ownsRow_setCell_below (ownsRow_setCell_below HO.out (q 2) _) (q' 0) _) (q' 1) _) (q' 2) _) (by rw [Lw2.out]; omega)
  · exact (((((w2b.trans hb3).setCell (by simp) _).setCell (by simp) _).setCell (by simp) _).setCell (by simp) _)

end Go.Proofs.YtfngcokfigbhgaaDoor


/-! glyph.Noise. -/
namespace Go.Proofs.YtfngcokfigbhgaaDoor
open Go.RowKit

def noiseN (bs : List Bool) (s p : Int) (i : Nat) : Bool := bs.getD i false != decide (chanceI s (i : Int) < p)
def noiseF (bs : List Bool) (W : Nat) (s p : Int) (x y : Nat) : Bool := noiseN bs s p (y * W + x)
def noiseErr (W H : Int) (n : Nat) (p : Int) : Int := firstNZ [pageErr W H n, whenI (!inB p 0 1000) 3]

theorem Blk.readsTo {w : World} {g : Nat} {t : TypeId} {cs : Array Value} {n : Nat} {xs : List Value} (h : Blk w g t cs) (hl : xs.length = n) (hx : ∀ (i : Nat) (u : Value), xs[i]? = some u → cs[i]? = some u) : Reads w 1 (some ⟨g, 0, none⟩) n xs :=
  ⟨by rw [hl, Nat.mul_one], fun _ => ⟨_, rfl, fun j u hj => by
    have e : (⟨g, 0, none⟩ : Addr).add j = ⟨g, j, none⟩ := by unfold Addr.add; split <;> simp_all
    rw [e, h.cell]; exact hx j u hj⟩⟩
end Go.Proofs.YtfngcokfigbhgaaDoor


/-! bedref2.NoiseOf. -/
namespace Go.Proofs.YtfngcokfigbhgaaDoor
open Go.RowKit

end Go.Proofs.YtfngcokfigbhgaaDoor
