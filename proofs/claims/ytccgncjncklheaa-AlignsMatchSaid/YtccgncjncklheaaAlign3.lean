/- skew.Align. -/
import Derived.Test.YtccgncjncklheaaAlign2
namespace Go.Proofs.Ytccgncjncklheaa
open Go.RowKit

def alignErr (aW aH bW bH : Int) (an bn : Nat) (r : Int) : Int := firstNZ [pageErr aW aH an, pageErr bW bH bn, whenI (aW != bW || aH != bH) 11, whenI (!inB r 0 8) 3]

set_option maxRecDepth 100000 in
set_option maxHeartbeats 2000000 in
theorem align_bad1 (aW aH bW bH : Int) (A C : Option Addr) (an ac bn cc : Nat) (r : Int) (w : World) (h : pageErr aW aH an ≠ 0) :
    Calls Try.prog 47 #[.agg #[.int .i64 aW, .int .i64 aH, .slice A an ac], .agg #[.int .i64 bW, .int .i64 bH, .slice C bn cc], .int .i64 r] w
      fun e w' => e = .returned (.tuple #[.int .i64 0, .int .i64 0, .int .i64 0, .int .i64 (pageErr aW aH an)]) ∧ Bl w w' := by
  let w3 := (((w).alloc (.cells #[.int .i64 aW, .int .i64 aH, .slice A an ac] 39)).alloc (.cells #[.int .i64 bW, .int .i64 bH, .slice C bn cc] 39)).alloc (.cells #[.int .i64 aW, .int .i64 aH, .slice A an ac, .int .i64 bW, .int .i64 bH, .slice C bn cc] 39)
  have w3b : Bl w w3 := (((Bl.refl w).alloc _).alloc _).alloc _
  have w31 : Blk w3 (w.heap.size) 39 #[.int .i64 aW, .int .i64 aH, .slice A an ac] := by
    have h0 := Blk.new (w) 39 #[.int .i64 aW, .int .i64 aH, .slice A an ac]
    exact ((h0.alloc _).alloc _)
  have w32 : Blk w3 (w.heap.size + 1) 39 #[.int .i64 bW, .int .i64 bH, .slice C bn cc] := by
    have h0 := Blk.new ((w).alloc (.cells #[.int .i64 aW, .int .i64 aH, .slice A an ac] 39)) 39 #[.int .i64 bW, .int .i64 bH, .slice C bn cc]
    simp only [World.size_alloc] at h0
    exact (h0.alloc _)
  have w33 : Blk w3 (w.heap.size + 1 + 1) 39 #[.int .i64 aW, .int .i64 aH, .slice A an ac, .int .i64 bW, .int .i64 bH, .slice C bn cc] := by
    have h0 := Blk.new (((w).alloc (.cells #[.int .i64 aW, .int .i64 aH, .slice A an ac] 39)).alloc (.cells #[.int .i64 bW, .int .i64 bH, .slice C bn cc] 39)) 39 #[.int .i64 aW, .int .i64 aH, .slice A an ac, .int .i64 bW, .int .i64 bH, .slice C bn cc]
    simp only [World.size_alloc] at h0
    exact h0
  have hq : (pageErr aW aH an != 0) = true := by simp [h]
  clear h
  go_enter Try.func47, Try.ntmps47
  go_wp2_with fail
  refine wp_loop_rounds 3 ?_
  rw [rounds_succ]
  go_wp2_with fail
  refine (checkBits_any _ _ _ _ _ _).mono ?_
  rintro e w7 ⟨rfl, hb7⟩
  have hb67 : Bl w3 w7 := ((Bl.refl w3).alloc _).trans hb7
  have a6 := (w33.bl hb67).all6
  have l7 : w.heap.size + 2 < w7.heap.size := by have := (w33.bl hb67).lt; simpa using this
  go_wp2_with fail
  refine bodyPost_ret (v := .tuple #[.int .i64 0, .int .i64 0, .int .i64 0, .int .i64 (pageErr aW aH an)]) (by simp [results, Try.results47, go_sem]) rfl ⟨rfl, w3b.trans hb67⟩

set_option maxRecDepth 100000 in
set_option maxHeartbeats 2000000 in
theorem align_bad2 (aW aH bW bH : Int) (A C : Option Addr) (an ac bn cc : Nat) (r : Int) (w : World) (h0 : pageErr aW aH an = 0) (h : pageErr bW bH bn ≠ 0) :
    Calls Try.prog 47 #[.agg #[.int .i64 aW, .int .i64 aH, .slice A an ac], .agg #[.int .i64 bW, .int .i64 bH, .slice C bn cc], .int .i64 r] w
      fun e w' => e = .returned (.tuple #[.int .i64 0, .int .i64 0, .int .i64 0, .int .i64 (pageErr bW bH bn)]) ∧ Bl w w' := by
  let w3 := (((w).alloc (.cells #[.int .i64 aW, .int .i64 aH, .slice A an ac] 39)).alloc (.cells #[.int .i64 bW, .int .i64 bH, .slice C bn cc] 39)).alloc (.cells #[.int .i64 aW, .int .i64 aH, .slice A an ac, .int .i64 bW, .int .i64 bH, .slice C bn cc] 39)
  have w3b : Bl w w3 := (((Bl.refl w).alloc _).alloc _).alloc _
  have w31 : Blk w3 (w.heap.size) 39 #[.int .i64 aW, .int .i64 aH, .slice A an ac] := by
    have h0 := Blk.new (w) 39 #[.int .i64 aW, .int .i64 aH, .slice A an ac]
    exact ((h0.alloc _).alloc _)
  have w32 : Blk w3 (w.heap.size + 1) 39 #[.int .i64 bW, .int .i64 bH, .slice C bn cc] := by
    have h0 := Blk.new ((w).alloc (.cells #[.int .i64 aW, .int .i64 aH, .slice A an ac] 39)) 39 #[.int .i64 bW, .int .i64 bH, .slice C bn cc]
    simp only [World.size_alloc] at h0
    exact (h0.alloc _)
  have w33 : Blk w3 (w.heap.size + 1 + 1) 39 #[.int .i64 aW, .int .i64 aH, .slice A an ac, .int .i64 bW, .int .i64 bH, .slice C bn cc] := by
    have h0 := Blk.new (((w).alloc (.cells #[.int .i64 aW, .int .i64 aH, .slice A an ac] 39)).alloc (.cells #[.int .i64 bW, .int .i64 bH, .slice C bn cc] 39)) 39 #[.int .i64 aW, .int .i64 aH, .slice A an ac, .int .i64 bW, .int .i64 bH, .slice C bn cc]
    simp only [World.size_alloc] at h0
    exact h0
  have hq : (pageErr bW bH bn != 0) = true := by simp [h]
  clear h
  go_enter Try.func47, Try.ntmps47
  go_wp2_with fail
  refine wp_loop_rounds 3 ?_
  rw [rounds_succ]
  go_wp2_with fail
  refine (checkBits_any _ _ _ _ _ _).mono ?_
  rintro e w7 ⟨rfl, hb7⟩
  have hb67 : Bl w3 w7 := ((Bl.refl w3).alloc _).trans hb7
  have a6 := (w33.bl hb67).all6
  have l7 : w.heap.size + 2 < w7.heap.size := by have := (w33.bl hb67).lt; simpa using this
  go_wp2_with fail
  rw [rounds_succ]
  go_wp2_with fail
  refine (checkBits_any _ _ _ _ _ _).mono ?_
  rintro e w8 ⟨rfl, hb8⟩
  have hb68 : Bl w3 w8 := (hb67.alloc _).trans hb8
  have q1 := (w31.bl hb68).all3
  have q2 := (w32.bl hb68).all3
  have hb8w := w3b.trans hb68
  go_wp2_with fail
  refine bodyPost_ret (v := .tuple #[.int .i64 0, .int .i64 0, .int .i64 0, .int .i64 (pageErr bW bH bn)]) (by simp [results, Try.results47, go_sem]) rfl ⟨rfl, hb8w⟩

set_option maxRecDepth 100000 in
set_option maxHeartbeats 2000000 in
theorem align_conf (aW aH bW bH : Int) (A C : Option Addr) (an ac bn cc : Nat) (r : Int) (w : World) (h0 : pageErr aW aH an = 0) (h1 : pageErr bW bH bn = 0) (h : ¬ (aW = bW ∧ aH = bH)) :
    Calls Try.prog 47 #[.agg #[.int .i64 aW, .int .i64 aH, .slice A an ac], .agg #[.int .i64 bW, .int .i64 bH, .slice C bn cc], .int .i64 r] w
      fun e w' => e = .returned (.tuple #[.int .i64 0, .int .i64 0, .int .i64 0, .int .i64 (11)]) ∧ Bl w w' := by
  let w3 := (((w).alloc (.cells #[.int .i64 aW, .int .i64 aH, .slice A an ac] 39)).alloc (.cells #[.int .i64 bW, .int .i64 bH, .slice C bn cc] 39)).alloc (.cells #[.int .i64 aW, .int .i64 aH, .slice A an ac, .int .i64 bW, .int .i64 bH, .slice C bn cc] 39)
  have w3b : Bl w w3 := (((Bl.refl w).alloc _).alloc _).alloc _
  have w31 : Blk w3 (w.heap.size) 39 #[.int .i64 aW, .int .i64 aH, .slice A an ac] := by
    have h0 := Blk.new (w) 39 #[.int .i64 aW, .int .i64 aH, .slice A an ac]
    exact ((h0.alloc _).alloc _)
  have w32 : Blk w3 (w.heap.size + 1) 39 #[.int .i64 bW, .int .i64 bH, .slice C bn cc] := by
    have h0 := Blk.new ((w).alloc (.cells #[.int .i64 aW, .int .i64 aH, .slice A an ac] 39)) 39 #[.int .i64 bW, .int .i64 bH, .slice C bn cc]
    simp only [World.size_alloc] at h0
    exact (h0.alloc _)
  have w33 : Blk w3 (w.heap.size + 1 + 1) 39 #[.int .i64 aW, .int .i64 aH, .slice A an ac, .int .i64 bW, .int .i64 bH, .slice C bn cc] := by
    have h0 := Blk.new (((w).alloc (.cells #[.int .i64 aW, .int .i64 aH, .slice A an ac] 39)).alloc (.cells #[.int .i64 bW, .int .i64 bH, .slice C bn cc] 39)) 39 #[.int .i64 aW, .int .i64 aH, .slice A an ac, .int .i64 bW, .int .i64 bH, .slice C bn cc]
    simp only [World.size_alloc] at h0
    exact h0
  have hc : ((aW != bW) = true ∧ True) ∨ ((aW != bW) = false ∧ (aH != bH) = true) := by
    by_cases e : aW = bW
    · exact Or.inr ⟨by simp [e], by simp; exact fun e2 => h ⟨e, e2⟩⟩
    · exact Or.inl ⟨by simp [e], trivial⟩
  clear h
  go_enter Try.func47, Try.ntmps47
  go_wp2_with fail
  refine wp_loop_rounds 3 ?_
  rw [rounds_succ]
  go_wp2_with fail
  refine (checkBits_any _ _ _ _ _ _).mono ?_
  rintro e w7 ⟨rfl, hb7⟩
  have hb67 : Bl w3 w7 := ((Bl.refl w3).alloc _).trans hb7
  have a6 := (w33.bl hb67).all6
  have l7 : w.heap.size + 2 < w7.heap.size := by have := (w33.bl hb67).lt; simpa using this
  go_wp2_with fail
  rw [rounds_succ]
  go_wp2_with fail
  refine (checkBits_any _ _ _ _ _ _).mono ?_
  rintro e w8 ⟨rfl, hb8⟩
  have hb68 : Bl w3 w8 := (hb67.alloc _).trans hb8
  have q1 := (w31.bl hb68).all3
  have q2 := (w32.bl hb68).all3
  have hb8w := w3b.trans hb68
  go_wp2_with fail
  rw [rounds_succ]
  rcases hc with ⟨c1, c2⟩ | ⟨c1, c2⟩
  all_goals
    go_wp2_with fail
    refine bodyPost_ret (v := .tuple #[.int .i64 0, .int .i64 0, .int .i64 0, .int .i64 (11)]) (by simp [results, Try.results47, go_sem]) rfl ⟨rfl, hb8w⟩

set_option maxRecDepth 100000 in
set_option maxHeartbeats 2000000 in
theorem align_range (aW aH bW bH : Int) (A C : Option Addr) (an ac bn cc : Nat) (r : Int) (w : World) (h0 : pageErr aW aH an = 0) (h1 : pageErr bW bH bn = 0) (h2 : aW = bW) (h3 : aH = bH) (h : r < 0 ∨ 8 < r) :
    Calls Try.prog 47 #[.agg #[.int .i64 aW, .int .i64 aH, .slice A an ac], .agg #[.int .i64 bW, .int .i64 bH, .slice C bn cc], .int .i64 r] w
      fun e w' => e = .returned (.tuple #[.int .i64 0, .int .i64 0, .int .i64 0, .int .i64 (3)]) ∧ Bl w w' := by
  subst h2 h3
  let w3 := (((w).alloc (.cells #[.int .i64 aW, .int .i64 aH, .slice A an ac] 39)).alloc (.cells #[.int .i64 aW, .int .i64 aH, .slice C bn cc] 39)).alloc (.cells #[.int .i64 aW, .int .i64 aH, .slice A an ac, .int .i64 aW, .int .i64 aH, .slice C bn cc] 39)
  have w3b : Bl w w3 := (((Bl.refl w).alloc _).alloc _).alloc _
  have w31 : Blk w3 (w.heap.size) 39 #[.int .i64 aW, .int .i64 aH, .slice A an ac] := by
    have h0 := Blk.new (w) 39 #[.int .i64 aW, .int .i64 aH, .slice A an ac]
    exact ((h0.alloc _).alloc _)
  have w32 : Blk w3 (w.heap.size + 1) 39 #[.int .i64 aW, .int .i64 aH, .slice C bn cc] := by
    have h0 := Blk.new ((w).alloc (.cells #[.int .i64 aW, .int .i64 aH, .slice A an ac] 39)) 39 #[.int .i64 aW, .int .i64 aH, .slice C bn cc]
    simp only [World.size_alloc] at h0
    exact (h0.alloc _)
  have w33 : Blk w3 (w.heap.size + 1 + 1) 39 #[.int .i64 aW, .int .i64 aH, .slice A an ac, .int .i64 aW, .int .i64 aH, .slice C bn cc] := by
    have h0 := Blk.new (((w).alloc (.cells #[.int .i64 aW, .int .i64 aH, .slice A an ac] 39)).alloc (.cells #[.int .i64 aW, .int .i64 aH, .slice C bn cc] 39)) 39 #[.int .i64 aW, .int .i64 aH, .slice A an ac, .int .i64 aW, .int .i64 aH, .slice C bn cc]
    simp only [World.size_alloc] at h0
    exact h0
  go_enter Try.func47, Try.ntmps47
  go_wp2_with fail
  refine wp_loop_rounds 3 ?_
  rw [rounds_succ]
  go_wp2_with fail
  refine (checkBits_any _ _ _ _ _ _).mono ?_
  rintro e w7 ⟨rfl, hb7⟩
  have hb67 : Bl w3 w7 := ((Bl.refl w3).alloc _).trans hb7
  have a6 := (w33.bl hb67).all6
  have l7 : w.heap.size + 2 < w7.heap.size := by have := (w33.bl hb67).lt; simpa using this
  go_wp2_with fail
  rw [rounds_succ]
  go_wp2_with fail
  refine (checkBits_any _ _ _ _ _ _).mono ?_
  rintro e w8 ⟨rfl, hb8⟩
  have hb68 : Bl w3 w8 := (hb67.alloc _).trans hb8
  have q1 := (w31.bl hb68).all3
  have q2 := (w32.bl hb68).all3
  have hb8w := w3b.trans hb68
  go_wp2_with fail
  rw [rounds_succ]
  rcases h with h | h
  all_goals
    go_wp2_with fail
    refine bodyPost_ret (v := .tuple #[.int .i64 0, .int .i64 0, .int .i64 0, .int .i64 (3)]) (by simp [results, Try.results47, go_sem]) rfl ⟨rfl, hb8w⟩

end Go.Proofs.Ytccgncjncklheaa
