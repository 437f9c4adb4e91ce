/- A region in which several operations may come up in any order, walked by a tree of ways over a base world (what every operation keeps). No condition. -/
import Derived.Test.YthobmednnocklaaGreatDoorMClaimFills1
import Derived.Test.YthobmednnocklaaGreatDoorMClaimFills0

namespace Go.Proofs.YthobmednnocklaaGreatDoor
open Go.RowKit

/-! ### Bounds -/
set_option maxRecDepth 100000 in
set_option maxHeartbeats 4000000 in
theorem bounds_any (W H : Int) (A : Option Addr) (an ac : Nat) (bs : List Bool) (w : World) (hA : Reads w 1 A an (bs.map .bool)) :
 Calls Tryz.prog 199 #[.agg #[.int .i64 W, .int .i64 H, .slice A an ac]] w fun e w' =>
  ∃ X Y BW BH err, e = .returned (.tuple #[.agg #[.int .i64 X, .int .i64 Y, .int .i64 BW, .int .i64 BH], .int .i64 err]) ∧ (pageErr W H an ≠ 0 → err = pageErr W H an ∧ X = 0 ∧ Y = 0 ∧ BW = 0 ∧ BH = 0) ∧
   (pageErr W H an = 0 → ∃ is, BoundsIs bs W.toNat H.toNat is X Y BW BH ∧ err = whenI (!is) 10) ∧ Bl w w' := by
 let w2 := ((w).alloc (.cells #[.int .i64 W, .int .i64 H, .slice A an ac] 24)).alloc (.cells #[.int .i64 0, .int .i64 0, .int .i64 0, .int .i64 0] 26)
 have w2b : Bl w w2 := ((Bl.refl w).alloc _).alloc _
 have w21 : Blk w2 (w.heap.size) 24 #[.int .i64 W, .int .i64 H, .slice A an ac] := by
  have h0 := Blk.new (w) 24 #[.int .i64 W, .int .i64 H, .slice A an ac]
  exact (h0.alloc _)
 have w22 : Blk w2 (w.heap.size + 1) 26 #[.int .i64 0, .int .i64 0, .int .i64 0, .int .i64 0] := by
  have h0 := Blk.new ((w).alloc (.cells #[.int .i64 W, .int .i64 H, .slice A an ac] 24)) 26 #[.int .i64 0, .int .i64 0, .int .i64 0, .int .i64 0]
  simp only [World.size_alloc] at h0
  exact h0
 have k1 := w21.all3
 by_cases hp : pageErr W H an = 0
 · have Hp := Lib.hid hp
   obtain ⟨W, H, rfl, rfl, rfl, u1, u2, u3⟩ := page_nat hp
   have HA := Lib.hid (hA.bl w2b)
   have St := Lib.hid (BInv.start bs W H)
   clear hA
   go_enter Tryz.func199, Tryz.ntmps199
   go_wp2_with fail
   refine (checkBits_any _ _ _ _ _ _).mono ?_
   rintro e w3 ⟨rfl, hb3⟩
   have k3 := (w21.bl hb3).all3
   clear k1
   go_upto_region 4 with fail
   refine wp_region_flow [(true, 0), (true, 1), (true, 2), (true, 3), (true, 4), (true, 5), (true, 6), (true, 7)] (fun _ => false) (by kernel_rfl) (by kernel_rfl) (by kernel_rfl) (by kernel_rfl) ?_
   iterate 4
    apply Flow.calm2 _ _ rfl rfl
    · intro w' hb' K' hK'
      obtain ⟨hc', hf'⟩ := hb'.rule
      go_simp
      try go_ints
      exact hK'
    · intro K' hK'
      simp only [sqA]
      exact hK'
   iterate 4
    apply Flow.asg _ rfl
    · intro K' hK'
      simp only [sqA, Act.eval, arr_getD, List.getD_cons_zero, List.getD_cons_succ]
      exact hK'
   refine Flow.done ?_
   clear hp
   go_wp2_with fail
   go_loopw [5, 6, 7, 8, 26] (fun a b c d u wr => ∃ (i : Nat) (l t r z : Int), i ≤ W * H ∧ u = .int .i64 i ∧ a = .int .i64 l ∧ b = .int .i64 t ∧ c = .int .i64 r ∧ d = .int .i64 z ∧ Hid (BInv bs W H i l t r z) ∧ Bl w3 wr) (fun _ _ _ _ u _ => W * H - (intOf u).toNat)
   case atStart => exact ⟨0, _, _, _, _, Nat.zero_le _, rfl, rfl, rfl, rfl, rfl, St, (Bl.refl _).drew⟩
   case round =>
    clear k3
    obtain ⟨i, l, t, r, z, hi, rfl, rfl, rfl, rfl, rfl, hinv, hbr⟩ := hrel
    have k3 := ((w21.bl hb3).bl hbr).all3
    by_cases hlt : i < W * H
    · have hWp : ¬ (W = 0) := by rintro rfl; simp at hlt
      have il : (i : Int) < (W : Int) * (H : Int) := by have := Int.natCast_mul W H; omega
      obtain ⟨ad, ua, eA, hu, hca⟩ := ((HA.out.bl hb3).bl hbr).at_ hlt
      have hua : ua = .bool (bs.getD i false) := by
       simp only [List.getElem?_map, Option.map_eq_some_iff] at hu
       obtain ⟨b, hb1, hb2⟩ := hu
       rw [← hb2, List.getD, hb1]; rfl
      clear hu
      subst hua eA
      cases hva : bs.getD i false
      · have hn := hinv.out.no hva
        have Hn := Lib.hid hn
        rw [hva] at hca
        clear hn hva hinv
        go_wp2_with fail
        exact ⟨⟨i + 1, _, _, _, _, hlt, by go_num, rfl, rfl, rfl, rfl, Hn, hbr⟩, by simp [intOf]; omega⟩
      · obtain ⟨mlt, dlt, _⟩ := place_parts hlt
        have hy := fun l' t' r' z' e1 e2 e3 e4 => hinv.out.yes (l' := l') (t' := t') (r' := r') (b' := z') hva mlt dlt e1 e2 e3 e4
        rw [hva] at hca
        obtain ⟨xi, hxi⟩ : ∃ n, n = i % W := ⟨_, rfl⟩
        obtain ⟨yi, hyi⟩ : ∃ n, n = i / W := ⟨_, rfl⟩
        have e1 : (i : Int) % (W : Int) = (xi : Int) := by rw [hxi]; simp
        have e2 : (i : Int) / (W : Int) = (yi : Int) := by rw [hyi]; simp
        have e3 := hxi.symm
        have e4 := hyi.symm
        rw [← hxi] at mlt
        rw [← hyi] at dlt
        simp only [← hxi, ← hyi] at hy
        have hbd := hinv.out.bd hi
        obtain ⟨l', hl'⟩ : ∃ l', l' = if (xi : Int) < l then (xi : Int) else l := ⟨_, rfl⟩
        obtain ⟨t', ht'⟩ : ∃ t', t' = if (yi : Int) < t then (yi : Int) else t := ⟨_, rfl⟩
        obtain ⟨r', hr'⟩ : ∃ r', r' = if r < (xi : Int) then (xi : Int) else r := ⟨_, rfl⟩
        obtain ⟨z', hz'⟩ : ∃ z', z' = if z < (yi : Int) then (yi : Int) else z := ⟨_, rfl⟩
        have Hn := Lib.hid (hy l' t' r' z' hl' ht' hr' hz')
        have f1 := hl'.symm
        have f2 := ht'.symm
        have f3 := hr'.symm
        have f4 := hz'.symm
        have g1 : (if l < (xi : Int) then l else (xi : Int)) = l' := by rw [hl']; split <;> split <;> omega
        have g2 : (if t < (yi : Int) then t else (yi : Int)) = t' := by rw [ht']; split <;> split <;> omega
        have g3 : (if (xi : Int) < r then r else (xi : Int)) = r' := by rw [hr']; split <;> split <;> omega
        have g4 : (if (yi : Int) < z then z else (yi : Int)) = z' := by rw [hz']; split <;> split <;> omega
        clear hxi hyi hy hinv hva hl' ht' hr' hz'
        go_upto_region 9 with fail
        refine wp_region_flow [(true, 0), (true, 1), (true, 2), (true, 3), (true, 4), (true, 5), (true, 6), (true, 7), (true, 8), (true, 9)] (fun _ => false) (by kernel_rfl) (by kernel_rfl) (by kernel_rfl) (by kernel_rfl) ?_
        iterate 2
         iterate 1
          apply Flow.mv _ rfl
          · intro K' hK'
            simp only [sqA, Act.eval, arr_getD, List.getD_cons_zero, List.getD_cons_succ]
            exact hK'
         iterate 3
          apply Flow.calm2 _ _ rfl rfl
          · intro w' hb' K' hK'
            obtain ⟨hc', hf'⟩ := hb'.rule
            go_simp
            try go_ints
            exact hK'
          · intro K' hK'
            simp only [sqA]
            exact hK'
        iterate 2
         apply Flow.asg _ rfl
         · intro K' hK'
           simp only [sqA, Act.eval, arr_getD, List.getD_cons_zero, List.getD_cons_succ]
           exact hK'
        refine Flow.done ?_
        go_wp2_with fail
        exact ⟨⟨i + 1, _, _, _, _, hlt, by go_num, rfl, rfl, rfl, rfl, Hn, hbr.drew⟩, by simp [intOf]; omega⟩
    · obtain rfl : i = W * H := by omega
      have hbd := hinv.out.bd (Nat.le_refl _)
      have k2 := ((w22.bl hb3).bl hbr).all4
      have hle := (w2b.trans hb3).trans hbr
      rcases hinv.out.done with ⟨hr, hbi⟩ | ⟨hr, hbi⟩
      · have Hbi := Lib.hid hbi
        clear hinv hbi
        go_wp2_with fail
        have hp := Hp.out
        refine bodyPost_ret (v := .tuple #[.agg #[.int .i64 0, .int .i64 0, .int .i64 0, .int .i64 0], .int .i64 10]) (by simp [results, Tryz.results199, go_sem, k2]) rfl ⟨_, _, _, _, _, rfl, fun h => absurd hp h, fun _ => by first | exact ⟨false, by simpa using Hbi.out, rfl⟩ | exact Or.inl ⟨by simpa using Hbi.out, rfl⟩, ?_⟩
        exact ((((hle.setCell (by simp) _).setCell (by simp) _).setCell (by simp) _).setCell (by simp) _)
      · have Hbi := Lib.hid hbi
        clear hinv hbi
        go_wp2_with fail
        have hp := Hp.out
        refine bodyPost_ret (v := .tuple #[.agg #[.int .i64 l, .int .i64 t, .int .i64 (r - l + 1), .int .i64 (z - t + 1)], .int .i64 0]) (by simp [results, Tryz.results199, go_sem, k2]) rfl ⟨_, _, _, _, _, rfl, fun h => absurd hp h, fun _ => by first | exact ⟨true, by simpa using Hbi.out, rfl⟩ | exact Or.inr ⟨by simpa using Hbi.out, rfl⟩, ?_⟩
        exact ((((hle.setCell (by simp) _).setCell (by simp) _).setCell (by simp) _).setCell (by simp) _)
 · have hq : (pageErr W H an != 0) = true := by simp [hp]
   have Hp := Lib.hid hp
   clear hp
   go_enter Tryz.func199, Tryz.ntmps199
   go_wp2_with fail
   refine (checkBits_any _ _ _ _ _ _).mono ?_
   rintro e w3 ⟨rfl, hb3⟩
   have k2 := (w22.bl hb3).all4
   go_wp2_with fail
   refine bodyPost_ret (v := .tuple #[.agg #[.int .i64 0, .int .i64 0, .int .i64 0, .int .i64 0], .int .i64 (pageErr W H an)]) (by simp [results, Tryz.results199, go_sem, k2]) rfl ⟨_, _, _, _, _, rfl, fun _ => ⟨rfl, rfl, rfl, rfl, rfl⟩, fun h => absurd h Hp.out, ?_⟩
   exact (((((w2b.trans hb3).setCell (by simp) _).setCell (by simp) _).setCell (by simp) _).setCell (by simp) _)

end Go.Proofs.YthobmednnocklaaGreatDoor


/-! Rows of texts in memory. -/
namespace Go.Proofs.YthobmednnocklaaGreatDoor
open Go.RowKit

theorem info_str : (Tryz.prog.info? 9).map (fun i => (i.zero, i.size, i.bytes)) = some (some (.string ByteArray.empty), 1, 16) := by kernel_rfl
def strOf (l : List UInt8) : Value := .string ⟨l.toArray⟩
def strCells' (ts : List (List UInt8)) : List Value := ts.map strOf
theorem str_at {w : World} {A : Option Addr} {ts : List (List UInt8)} {i : Nat} {x : List UInt8} (h : Reads w 1 A ts.length (strCells' ts)) (hi : ts[i]? = some x) : ∃ ad, A = some ad ∧ w.cell? (ad.add i) = some (.string ⟨x.toArray⟩) := by
 have hlt := (List.getElem?_eq_some_iff.1 hi).1
 obtain ⟨ad, u, e, hu, hc⟩ := h.at_ hlt
 unfold strCells' at hu
 rw [List.getElem?_map, hi] at hu
 have hu' : strOf x = u := Option.some.inj hu
 subst hu'
 exact ⟨ad, e, hc⟩

end Go.Proofs.YthobmednnocklaaGreatDoor


/-! Rows that a call owns, and rows that lie: cells that are set, rows that grow. -/
namespace Go.Proofs.YthobmednnocklaaGreatDoor
open Go.RowKit

theorem add_flat (g i : Nat) : (⟨g, 0, none⟩ : Addr).add i = ⟨g, i, none⟩ := by unfold Addr.add; split <;> simp_all
theorem Reads.lt {w : World} {A : Option Addr} {n : Nat} {xs : List Value} (h : Reads w 1 A n xs) : ∀ a, A = some a → 0 < n → a.block < w.heap.size := fun a ha hn => by
 obtain ⟨ad, u, e, -, hc⟩ := h.at_ hn
 rw [ha] at e
 injection e with e
 subst e
 have := World.block_lt_of_cell? w _ hc
 rwa [block_of_add] at this
theorem Reads.far {w : World} {size n : Nat} {A : Option Addr} {xs : List Value} (h : Reads w size A n xs) {p : Addr} (hn : ∀ a, A = some a → 0 < n → a.block ≠ p.block) (u : Value) : Reads (w.setCell p u) size A n xs :=
 ⟨h.1, fun hk => by
  obtain ⟨ad, e, hc⟩ := h.2 hk
  exact ⟨ad, e, fun j x hx => by rw [World.cell?_setCell_other w p _ u (fun e' => by have h1 := hn ad e hk; have h2 := congrArg Addr.block e'; rw [block_of_add] at h2; omega)]; exact hc j x hx⟩⟩
theorem Reads.grown {w w' : World} {n : Nat} {A : Option Addr} {xs : List Value} {row : Option Nat} (h : Reads w 1 A n xs) (hb : w.grownBy w' row) (hn : ∀ a, A = some a → 0 < n → some a.block ≠ row) : Reads w' 1 A n xs :=
 ⟨h.1, fun hk => by
  obtain ⟨ad, e, hc⟩ := h.2 hk
  refine ⟨ad, e, fun j x hx => ?_⟩
  rw [World.cell?_of_block (hb.block _ (by rw [block_of_add]; exact h.lt ad e hk) (by rw [block_of_add]; exact hn ad e hk))]
  exact hc j x hx⟩
theorem own_some {w : World} {base : Nat} {e : TypeId} {size n : Nat} {v : Value} {xs : List Value} (h : w.ownsRow base e size v n xs) (hn : 0 < n) : ∃ g cap, v = .slice (some ⟨g, 0, none⟩) n cap ∧ base ≤ g ∧ n ≤ cap := by
 rcases h.2 with ⟨-, h0⟩ | ⟨g, cap, cur, rfl, hb, -, hc, -⟩
 · omega
 · exact ⟨g, cap, rfl, hb, hc⟩
end Go.Proofs.YthobmednnocklaaGreatDoor


/-! A region whose order is open, walked in one order, by a predicate that every operation keeps (all that lay in a world of one's choosing lies as it did). No condition. -/
namespace Go.Proofs.YthobmednnocklaaGreatDoor
open Go.RowKit

section
variable {P : Program} {ops : Array Oper} {Q : Exit → Act → World → Prop} {md : Region.Mode} {S : World → Prop}

def wpAnyS (P : Program) (md : Region.Mode) (ops : Array Oper) (Q : Exit → Act → World → Prop) (S : World → Prop) : Nat → Array Bool → Act → World → Prop
 | 0, listed, a, w => Region.ready md ops listed = [] ∧ Q .normal a w
 | fuel + 1, listed, a, w =>
  (Region.ready md ops listed = [] → Q .normal a w) ∧
  ∀ i ∈ Region.ready md ops listed, wpOp P ops Q i (fun a' w' => S w' ∧ wpAnyS P md ops Q S fuel (listed.setIfInBounds i true) a' w') a w

theorem wpAny_of_S : ∀ (fuel : Nat) (listed : Array Bool) (a : Act) (w : World), wpAnyS P md ops Q S fuel listed a w → wpAny P md ops Q fuel listed a w
 | 0, _, _, _, h => h
 | fuel + 1, _, _, _, h => ⟨h.1, fun i hi => wpOp_mono (fun a' w' h' => wpAny_of_S fuel _ a' w' h'.2) (h.2 i hi)⟩

theorem wpAnyS_first {i : Nat} {oi : Oper} {v : Value} (hi : ops[i]? = some oi) (hsel : ∀ (j : Nat) (o : Oper) cs b, ops[j]? = some o → o.op ≠ .select cs b)
 (hQ : ∀ c a w, Q (.panic c) (a.put oi.dst v) w → Q (.panic c) a w) :
 ∀ (fuel : Nat) (listed : Array Bool) (a : Act) (w : World), listed.size = ops.size → DownClosed md ops listed →
  (∀ j oj, ops[j]? = some oj → j ≠ i → listed.getD j true = false → (∀ e ∈ oj.after, Region.binds md e = true → e.on ≠ i) → oi.apart ops oj = true) →
  i ∈ Region.ready md ops listed → S w → YieldsIf P ops S oi v a →
  wpAnyS P md ops Q S fuel (listed.setIfInBounds i true) (a.put oi.dst v) w → wpAnyS P md ops Q S (fuel + 1) listed a w := by
 intro fuel
 induction fuel with
 | zero =>
  intro listed a w _ _ _ hr hS hy H
  refine ⟨fun h => (by rw [h] at hr; cases hr), fun j hj => ?_⟩
  by_cases hji : j = i
  · subst hji; exact hy.wpOp hi hS ⟨hS, H⟩
  · have := ready_mono hj hji
    rw [H.1] at this
    cases this
 | succ fuel ih =>
  intro listed a w hsz hdc hfree hr hS hy H
  refine ⟨fun h => (by rw [h] at hr; cases hr), fun j hj => ?_⟩
  by_cases hji : j = i
  · subst hji; exact hy.wpOp hi hS ⟨hS, H⟩
  · have h1 := H.2 j (ready_mono hj hji)
    obtain ⟨hjun, oj, hoj, hall⟩ := mem_ready.1 hj
    have hun0 : listed.getD i false = false := by
     have h0 := (mem_ready.1 hr).1
     rcases Nat.lt_or_ge i listed.size with h' | h'
     · simp [h'] at h0 ⊢; exact h0
     · simp [Array.getElem?_eq_none h']
    have hnot : ∀ e ∈ oj.after, Region.binds md e = true → e.on ≠ i := fun e he hb heq => by
     have h1 := hall e he hb
     rw [heq, hun0] at h1
     cases h1
    have h2 := wpOp_putIf hoj (hfree j oj hoj hji hjun hnot) (fun cs b => hsel i oi cs b hi) (fun cs b => hsel j oj cs b hoj) hQ hy h1
    have hun' : ∀ k, (listed.setIfInBounds j true).getD k true = false → listed.getD k true = false := fun k hun => by
     by_cases hjk : j = k
     · subst hjk; exact hjun
     · rw [getD_set_ne true hjk] at hun; exact hun
    refine wpOp_mono (fun a' w' h3 => ⟨h3.2.1, ih (listed.setIfInBounds j true) a' w' (by simpa using hsz) (hdc.set hj)
     (fun k ok hk hki hun hno => hfree k ok hk hki (hun' k hun) hno) (ready_mono hr (Ne.symm hji)) h3.2.1 h3.1 (by rw [Array.setIfInBounds_comm _ _ hji]; exact h3.2.2)⟩) h2

/-- In one order: 'true': what yields in every world that S holds of; 'false': whatever else. -/
def FlowS (P : Program) (ops : Array Oper) (Q : Exit → Act → World → Prop) (S : World → Prop) : List (Bool × Nat) → Act → World → Prop
 | [], a, w => Q .normal a w
 | (true, i) :: σ, a, w => ∃ o v, ops[i]? = some o ∧ YieldsIf P ops S o v a ∧ FlowS P ops Q S σ (a.put o.dst v) w
 | (false, i) :: σ, a, w => wpOp P ops Q i (fun a' w' => S w' ∧ FlowS P ops Q S σ a' w') a w

def flowOkS (md : Region.Mode) (ops : Array Oper) : List (Bool × Nat) → Array Bool → Bool
 | [], listed => (Region.ready md ops listed).isEmpty
 | (true, i) :: σ, listed => (Region.ready md ops listed).contains i && Region.free md ops listed i && flowOkS md ops σ (listed.setIfInBounds i true)
 | (false, i) :: σ, listed => Region.ready md ops listed == [i] && flowOkS md ops σ (listed.setIfInBounds i true)

theorem flowS_sound (hs : Region.noSelect ops = true) (hQ : ∀ c a d v w, Q (.panic c) (Act.put a d v) w → Q (.panic c) a w) :
 ∀ (σ : List (Bool × Nat)) (fuel : Nat) (listed : Array Bool) (a : Act) (w : World), listed.size = ops.size → DownClosed md ops listed → σ.length ≤ fuel → flowOkS md ops σ listed = true → S w →
  FlowS P ops Q S σ a w → wpAnyS P md ops Q S fuel listed a w := by
 intro σ
 induction σ with
 | nil =>
  intro fuel listed a w _ _ _ hok _ h
  have hr : Region.ready md ops listed = [] := by simpa [flowOkS] using hok
  cases fuel with
  | zero => exact ⟨hr, h⟩
  | succ fuel => exact ⟨fun _ => h, fun i hi => by rw [hr] at hi; cases hi⟩
 | cons s σ ih =>
  obtain ⟨b, i⟩ := s
  intro fuel listed a w hsz hdc hf hok hS h
  cases fuel with
  | zero => simp at hf
  | succ fuel =>
   have hf' : σ.length ≤ fuel := by simpa using hf
   cases b with
   | true =>
    simp only [flowOkS, Bool.and_eq_true] at hok
    obtain ⟨⟨h1, h2⟩, h4⟩ := hok
    obtain ⟨o, v, ho, hy, hfl⟩ := h
    have hir : i ∈ Region.ready md ops listed := by simpa using h1
    exact wpAnyS_first ho (Region.noSelect_spec hs) (fun c a w => hQ c a o.dst v w) fuel listed a w hsz hdc (Region.free_spec ho h2) hir hS hy (ih fuel _ _ _ (by simpa using hsz) (hdc.set hir) hf' h4 hS hfl)
   | false =>
    simp only [flowOkS, Bool.and_eq_true, beq_iff_eq] at hok
    obtain ⟨h1, h4⟩ := hok
    refine ⟨fun h0 => (by rw [h0] at h1; cases h1), fun j hj => ?_⟩
    have hj0 := hj
    rw [h1] at hj
    obtain rfl := List.mem_singleton.1 hj
    exact wpOp_mono (fun a' w' h' => ⟨h'.1, ih fuel _ _ _ (by simpa using hsz) (hdc.set hj0) hf' h4 h'.1 h'.2⟩) h

/-- **THE BEGINNING.** -/
theorem wp_region_flowS {id : Nat} {a : Act} {w : World} (S : World → Prop) (σ : List (Bool × Nat)) (hm : P.follows .mixedOrders = true) (hs : Region.noSelect ops = true)
 (hl : decide (σ.length ≤ ops.size) = true) (hok : flowOkS .any ops σ (Array.replicate ops.size false) = true) (hS : S w.drew)
 (h : FlowS P ops (NoPanic Q) S σ a w.drew) : (Code.region id ops true).wp P Q a w :=
 wp_region_noPanic (wp_region_any hm (wpAny_of_S _ _ _ _ (flowS_sound hs noPanic_put σ _ _ _ _ (by simp) downClosed_start (of_decide_eq_true hl) hok hS h)))

section
variable {l : List Oper} {B : World}
theorem FlowS.calm {i : Nat} {o : Oper} {σ : List (Bool × Nat)} {a : Act} {w : World} (v : Value) (ho : l[i]? = some o) (hg : o.guard = none)
 (hr : ∀ w', S w' → (execOp a.eval o).run P w' = .ok (.value v) w') (h : FlowS P l.toArray Q S σ (a.put o.dst v) w) : FlowS P l.toArray Q S ((true, i) :: σ) a w :=
 ⟨o, v, by simpa using ho, .inl ⟨by simp [Region.wanted, hg], hr⟩, h⟩
theorem FlowS.calm2 {i : Nat} {o : Oper} {σ : List (Bool × Nat)} {a : Act} {w : World} (v : Value) (a' : Act) (ho : l[i]? = some o) (hg : o.guard = none)
 (hr : ∀ w', S w' → ∀ K : Result Next → Prop, K (.ok (.value v) w') → K ((execOp a.eval o).run P w')) (ha : ∀ K : Act → Prop, K a' → K (a.put o.dst v))
 (h : FlowS P l.toArray Q S σ a' w) : FlowS P l.toArray Q S ((true, i) :: σ) a w :=
 FlowS.calm v ho hg (fun w' hb => hr w' hb (fun r => r = .ok (.value v) w') rfl) (ha (fun x => FlowS P l.toArray Q S σ x w) h)
theorem FlowS.mv {i : Nat} {d : Option Tmp} {x : Operand} {ty : TypeId} {ps : String} {af : Array Edge} {σ : List (Bool × Nat)} {a : Act} {w : World} (a' : Act) (ho : l[i]? = some ⟨d, .move x, ty, ps, af, none⟩)
 (ha : ∀ K : Act → Prop, K a' → K (a.put d (a.eval x))) (h : FlowS P l.toArray Q S σ a' w) : FlowS P l.toArray Q S ((true, i) :: σ) a w :=
 FlowS.calm (a.eval x) ho rfl (fun w' _ => by simp [execOp]) (ha (fun x => FlowS P l.toArray Q S σ x w) h)
theorem FlowS.asg {i : Nat} {d : Option Tmp} {x : Operand} {ty : TypeId} {ps : String} {af : Array Edge} {σ : List (Bool × Nat)} {a : Act} {w : World} (a' : Act) (ho : l[i]? = some ⟨d, .assign x, ty, ps, af, none⟩)
 (ha : ∀ K : Act → Prop, K a' → K (a.put d (a.eval x))) (h : FlowS P l.toArray Q S σ a' w) : FlowS P l.toArray Q S ((true, i) :: σ) a w :=
 FlowS.calm (a.eval x) ho rfl (fun w' _ => by simp [execOp]) (ha (fun x => FlowS P l.toArray Q S σ x w) h)
theorem FlowS.calmG {i : Nat} {o : Oper} {σ : List (Bool × Nat)} {a : Act} {w : World} (v : Value) (ho : l[i]? = some o) (hg : Region.wanted o (yielded l.toArray a.tmps) = true)
 (hr : ∀ w', S w' → (execOp a.eval o).run P w' = .ok (.value v) w') (h : FlowS P l.toArray Q S σ (a.put o.dst v) w) : FlowS P l.toArray Q S ((true, i) :: σ) a w :=
 ⟨o, v, by simpa using ho, .inl ⟨hg, hr⟩, h⟩
theorem FlowS.pass {i : Nat} {o : Oper} {σ : List (Bool × Nat)} {a : Act} {w : World} (ho : l[i]? = some o) (hg : Region.wanted o (yielded l.toArray a.tmps) = false)
 (h : FlowS P l.toArray Q S σ (a.put o.dst undef) w) : FlowS P l.toArray Q S ((true, i) :: σ) a w :=
 ⟨o, undef, by simpa using ho, .inr ⟨hg, rfl⟩, h⟩
theorem FlowS.move {i : Nat} {o : Oper} {σ : List (Bool × Nat)} {a : Act} {w : World} (ho : l[i]? = some o)
 (h : wpList P l.toArray (Exit.then (fun a' w' => S w' ∧ FlowS P l.toArray Q S σ a' w') Q) [o] a w) : FlowS P l.toArray Q S ((false, i) :: σ) a w := by
 have ho' : l.toArray[i]? = some o := by simpa using ho
 simp only [FlowS, wpOp, ho']
 simp only [wpList] at h
 exact h
theorem FlowS.done {a : Act} {w : World} (h : Q .normal a w) : FlowS P ops (NoPanic Q) S [] a w := h
end
end

end Go.Proofs.YthobmednnocklaaGreatDoor


/-! A region in which two operations that make memory may come up in either order: reads and reckonings first, then both ways. No condition. -/
namespace Go.Proofs.YthobmednnocklaaGreatDoor
open Go.RowKit

section
variable {P : Program} {ops : Array Oper} {Q : Exit → Act → World → Prop} {md : Region.Mode} {cl : Nat → Bool}

def withK (K : Act → World → Prop) (Q : Exit → Act → World → Prop) : Exit → Act → World → Prop
 | .normal, a, w => K a w
 | e, a, w => Q e a w

def listTo : List (Bool × Nat) → Array Bool → Array Bool
 | [], listed => listed
 | (_, i) :: σ, listed => listTo σ (listed.setIfInBounds i true)

def preOk (md : Region.Mode) (ops : Array Oper) (cl : Nat → Bool) : List (Bool × Nat) → Array Bool → Bool
 | [], _ => true
 | (true, i) :: σ, listed => (Region.ready md ops listed).contains i && Region.free md ops listed i &&
     ((List.range ops.size).all fun j => j == i || listed.getD j true || !cl j || precedes md ops i j) && preOk md ops cl σ (listed.setIfInBounds i true)
 | (false, _) :: _, _ => false

theorem fork_sound (hs : Region.noSelect ops = true) (hQ : ∀ c a d v w, Q (.panic c) (Act.put a d v) w → Q (.panic c) a w) {R : Exit → Act → World → Prop} {n : Nat} :
 ∀ (σ : List (Bool × Nat)) (fuel : Nat) (listed : Array Bool) (a : Act) (w : World), listed.size = ops.size → DownClosed md ops listed → σ.length + n ≤ fuel → preOk md ops cl σ listed = true →
  (∀ (fuel : Nat) (a : Act) (w : World), (listTo σ listed).size = ops.size → DownClosed md ops (listTo σ listed) → n ≤ fuel → R .normal a w → wpAnyT P md ops Q cl fuel (listTo σ listed) a w) →
  Flow P ops R cl σ a w → wpAnyT P md ops Q cl fuel listed a w := by
 intro σ
 induction σ with
 | nil =>
  intro fuel listed a w hsz hdc hf hok hK h
  exact hK fuel a w hsz hdc (by simpa using hf) h
 | cons s σ ih =>
  obtain ⟨b, i⟩ := s
  intro fuel listed a w hsz hdc hf hok hK h
  cases fuel with
  | zero => simp at hf
  | succ fuel =>
   have hf' : σ.length + n ≤ fuel := by simp at hf; omega
   cases b with
   | true =>
    simp only [preOk, Bool.and_eq_true] at hok
    obtain ⟨⟨⟨h1, h2⟩, h3⟩, h4⟩ := hok
    obtain ⟨o, v, ho, hy, hfl⟩ := h
    have hir : i ∈ Region.ready md ops listed := by simpa using h1
    refine wpAnyT_first ho (Region.noSelect_spec hs) (fun c a w => hQ c a o.dst v w) fuel listed a w hsz hdc ?_ (Region.free_spec ho h2) hir hy (ih fuel _ _ _ (by simpa using hsz) (hdc.set hir) hf' h4 hK hfl)
    intro j oj hj hji hun hc
    simp only [List.all_eq_true, List.mem_range] at h3
    have h5 := h3 j (Array.getElem?_eq_some_iff.1 hj).1
    simpa only [hc, hun, Bool.or_eq_true, beq_iff_eq, hji, Bool.not_true, Bool.false_eq_true, false_or] using h5
   | false => simp [preOk] at hok

def forkOk (md : Region.Mode) (ops : Array Oper) (cl : Nat → Bool) (σ : List (Bool × Nat)) (i : Nat) (σ1 : List (Bool × Nat)) (j : Nat) (σ2 : List (Bool × Nat)) (listed : Array Bool) : Bool :=
 preOk md ops cl σ listed && Region.ready md ops (listTo σ listed) == [i, j] && flowOk md ops cl σ1 ((listTo σ listed).setIfInBounds i true) && flowOk md ops cl σ2 ((listTo σ listed).setIfInBounds j true)

/-- **TWO THAT COME UP IN EITHER ORDER.** -/
theorem wp_region_fork {id : Nat} {a : Act} {w : World} (σ : List (Bool × Nat)) (i : Nat) (σ1 : List (Bool × Nat)) (j : Nat) (σ2 : List (Bool × Nat)) (cl : Nat → Bool) (hm : P.follows .mixedOrders = true) (hs : Region.noSelect ops = true)
 (hl : decide (σ.length + (σ1.length + σ2.length + 1) ≤ ops.size + σ2.length ∧ σ2.length = σ1.length) = true) (hok : forkOk .any ops cl σ i σ1 j σ2 (Array.replicate ops.size false) = true)
 (h : Flow P ops (NoPanic (withK (fun a w => Flow P ops (NoPanic Q) cl ((false, i) :: σ1) a w ∧ Flow P ops (NoPanic Q) cl ((false, j) :: σ2) a w) Q)) cl σ a w.drew) : (Code.region id ops true).wp P Q a w := by
 have hl' := of_decide_eq_true hl
 unfold forkOk at hok
 simp only [Bool.and_eq_true, beq_iff_eq] at hok
 obtain ⟨⟨⟨h1, h2⟩, h3⟩, h4⟩ := hok
 refine wp_region_noPanic (wp_region_any hm (wpAny_of_T _ _ _ _ (fork_sound (cl := cl) (n := σ1.length + 1) hs noPanic_put σ _ _ _ _ (by simp) downClosed_start (by omega) h1 ?_ h)))
 intro fuel a w hsz hdc hf hK
 obtain ⟨k1, k2⟩ : Flow P ops (NoPanic Q) cl ((false, i) :: σ1) a w ∧ Flow P ops (NoPanic Q) cl ((false, j) :: σ2) a w := hK
 cases fuel with
 | zero => omega
 | succ fuel =>
  refine ⟨fun h0 => (by rw [h0] at h2; cases h2), fun k hk => ?_⟩
  have hk0 := hk
  rw [h2] at hk
  simp only [List.mem_cons, List.not_mem_nil, or_false] at hk
  rcases hk with rfl | rfl
  · exact wpOp_mono (fun a' w' h' => ⟨h'.1, flow_sound hs noPanic_put σ1 fuel _ _ _ (by simpa using hsz) (hdc.set hk0) (by omega) h3 h'.2⟩) k1
  · exact wpOp_mono (fun a' w' h' => ⟨h'.1, flow_sound hs noPanic_put σ2 fuel _ _ _ (by simpa using hsz) (hdc.set hk0) (by omega) h4 h'.2⟩) k2

theorem Flow.fork {K : Act → World → Prop} {a : Act} {w : World} (h : K a w) : Flow P ops (NoPanic (withK K Q)) cl [] a w := h
end

end Go.Proofs.YthobmednnocklaaGreatDoor


/-! Pasting one page on another one: in the program and in the reference. -/
namespace Go.Proofs.YthobmednnocklaaGreatDoor
open Go.RowKit

/-! ### plain -/
def isApart (bW bH cW cH : Nat) (x y : Int) : Bool := decide (x ≤ -(cW : Int)) || decide ((bW : Int) ≤ x) || decide (y ≤ -(cH : Int)) || decide ((bH : Int) ≤ y)
def pasteF (bs cs : List Bool) (bW bH cW cH : Nat) (x y : Int) (u v : Nat) : Bool := pix bs bW u v || (!isApart bW bH cW cH x y && atI cs cW cH ((u : Int) - x) ((v : Int) - y))
theorem isApart_false {bW bH cW cH : Nat} {x y : Int} (h : isApart bW bH cW cH x y = false) : -(cW : Int) < x ∧ x < bW ∧ -(cH : Int) < y ∧ y < bH := by
 simp [isApart] at h; omega
theorem pasteF_pix {bs cs : List Bool} {bW bH cW cH : Nat} {x y : Int} {u v : Nat} (h : pix bs bW u v = true) : pasteF bs cs bW bH cW cH x y u v = true := by simp [pasteF, h]
theorem pasteF_apart {bs cs : List Bool} {bW bH cW cH : Nat} {x y : Int} {u v : Nat} (h : pix bs bW u v = false) (h2 : isApart bW bH cW cH x y = true) : pasteF bs cs bW bH cW cH x y u v = false := by simp [pasteF, h, h2]
theorem pasteF_at {bs cs : List Bool} {bW bH cW cH : Nat} {x y : Int} {u v : Nat} (h : pix bs bW u v = false) (h2 : isApart bW bH cW cH x y = false) : pasteF bs cs bW bH cW cH x y u v = atI cs cW cH ((u : Int) - x) ((v : Int) - y) := by simp [pasteF, h, h2]

/-! ### the program's closure -/
set_option maxRecDepth 100000 in
set_option maxHeartbeats 2000000 in
theorem paste1_any (pb pa px py pc : Nat) (bW bH cW cH : Nat) (A C : Option Addr) (bc cc : Nat) (bs cs : List Bool) (x y : Int) (u v : Nat) (w : World)
 (h1 : Blk w pb 24 #[.int .i64 bW, .int .i64 bH, .slice A (bW * bH) bc]) (h2 : Blk w pa 4 #[.bool (isApart bW bH cW cH x y)]) (h3 : Blk w px 3 #[.int .i64 x]) (h4 : Blk w py 3 #[.int .i64 y])
 (h5 : Blk w pc 24 #[.int .i64 cW, .int .i64 cH, .slice C (cW * cH) cc])
 (hA : Reads w 1 A (bW * bH) (bs.map .bool)) (hC : Reads w 1 C (cW * cH) (cs.map .bool)) (b1 : bW ≤ 4000) (b2 : bH ≤ 4000) (b3 : cW ≤ 4000) (b4 : cH ≤ 4000) (hu : u < bW) (hv : v < bH) :
 Calls Tryz.prog 134 #[.int .i64 u, .int .i64 v, .pointer (some ⟨pb, 0, none⟩), .pointer (some ⟨pa, 0, none⟩), .pointer (some ⟨px, 0, none⟩), .pointer (some ⟨py, 0, none⟩), .pointer (some ⟨pc, 0, none⟩)] w
  fun e w' => e = .returned (.bool (pasteF bs cs bW bH cW cH x y u v)) ∧ Bl w w' := by
 have k1 := h1.all3
 have k2 := h2.all1
 have k3 := h3.all1
 have k4 := h4.all1
 have k5 := h5.all3
 obtain ⟨ad, rfl, hc⟩ := hA.place hu hv
 have hk := place_lt hu hv
 obtain ⟨k, hkk⟩ : ∃ k, k = v * bW + u := ⟨_, rfl⟩
 rw [← hkk] at hc hk
 have ek : (v : Int) * (bW : Int) + (u : Int) = (k : Int) := by rw [hkk]; simp
 have hkl : (k : Int) < (bW : Int) * (bH : Int) := by have := Int.natCast_mul bW bH; omega
 have hq : (0 : Int) ≤ (v : Int) * (bW : Int) ∧ (v : Int) * (bW : Int) ≤ 16000000 := by
  have h5 := Int.natCast_mul v bW
  have h6 := Nat.mul_le_mul (show v ≤ 4000 by omega) b1
  omega
 have Hkk := Lib.hid hkk
 clear hkk h1 h2 h3 h4 h5 hA
 cases hp : pix bs bW u v
 case true =>
  have hf := pasteF_pix (cs := cs) (bH := bH) (cW := cW) (cH := cH) (x := x) (y := y) hp
  rw [hp] at hc
  have Hf := Lib.hid hf; have Hp := Lib.hid hp
  clear hf hp hC
  go_enter Tryz.func134, Tryz.ntmps134
  go_wp2
  go_ret
  exact ⟨ret_bool Hf.out.symm, Bl.refl _⟩
 case false =>
  rw [hp] at hc
  cases ha : isApart bW bH cW cH x y
  case true =>
   have hf := pasteF_apart (cs := cs) hp ha
   rw [ha] at k2
   have Hf := Lib.hid hf; have Hp := Lib.hid hp; have Ha := Lib.hid ha
   clear hf hp ha hC
   go_enter Tryz.func134, Tryz.ntmps134
   go_wp2
   go_ret
   exact ⟨ret_bool Hf.out.symm, Bl.refl _⟩
  case false =>
   have hf := pasteF_at (cs := cs) hp ha
   obtain ⟨r1, r2, r3, r4⟩ := isApart_false ha
   rw [ha] at k2
   have Hf := Lib.hid hf; have Hp := Lib.hid hp; have Ha := Lib.hid ha
   clear hf hp ha
   by_cases c1 : 0 ≤ (u : Int) - x ∧ (u : Int) - x < cW ∧ 0 ≤ (v : Int) - y ∧ (v : Int) - y < cH
   · obtain ⟨c1, c2, c3, c4⟩ := c1
     obtain ⟨X, hX⟩ := Int.eq_ofNat_of_zero_le c1
     obtain ⟨Y, hY⟩ := Int.eq_ofNat_of_zero_le c3
     have hXl : X < cW := by omega
     have hYl : Y < cH := by omega
     have hat := atI_in cs cW cH X Y hXl hYl
     rw [← hX, ← hY] at hat
     obtain ⟨cd, rfl, hd⟩ := hC.place hXl hYl
     have hj := place_lt hXl hYl
     obtain ⟨j, hjj⟩ : ∃ j, j = Y * cW + X := ⟨_, rfl⟩
     rw [← hjj] at hd hj
     have ej : ((v : Int) - y) * (cW : Int) + ((u : Int) - x) = (j : Int) := by rw [hjj, hX, hY]; simp
     have hjl : (j : Int) < (cW : Int) * (cH : Int) := by have := Int.natCast_mul cW cH; omega
     have hqj : (0 : Int) ≤ ((v : Int) - y) * (cW : Int) ∧ ((v : Int) - y) * (cW : Int) ≤ 16000000 := by
      have h5 := Int.natCast_mul Y cW
      have h6 := Nat.mul_le_mul (show Y ≤ 4000 by omega) b3
      rw [hY]; omega
     have Hat := Lib.hid hat; have HX := Lib.hid hX; have HY := Lib.hid hY; have Hjj := Lib.hid hjj
     clear hat hX hY hjj hC
     go_enter Tryz.func134, Tryz.ntmps134
     go_wp2_with fail
     refine wp_region_flow [(true, 0), (true, 1), (true, 2), (true, 3), (true, 4), (true, 5), (true, 6), (true, 7)] (fun _ => false) (by kernel_rfl) (by kernel_rfl) (by kernel_rfl) (by kernel_rfl) ?_
     iterate 1
      apply Flow.mv _ rfl
      · intro K' hK'
        simp only [sqA, Act.eval, arr_getD, List.getD_cons_zero]
        exact hK'
     iterate 2
      apply Flow.calm2 _ _ rfl rfl
      · intro w' hb' K' hK'
        obtain ⟨hc', hf'⟩ := hb'.rule
        go_simp
        try go_ints
        exact hK'
      · intro K' hK'
        simp only [sqA]
        exact hK'
     iterate 1
      apply Flow.mv _ rfl
      · intro K' hK'
        simp only [sqA, Act.eval, arr_getD, List.getD_cons_zero, List.getD_cons_succ]
        exact hK'
     iterate 2
      apply Flow.calm2 _ _ rfl rfl
      · intro w' hb' K' hK'
        obtain ⟨hc', hf'⟩ := hb'.rule
        go_simp
        try go_ints
        exact hK'
      · intro K' hK'
        simp only [sqA]
        exact hK'
     iterate 2
      apply Flow.asg _ rfl
      · intro K' hK'
        simp only [sqA, Act.eval, arr_getD, List.getD_cons_zero, List.getD_cons_succ]
        exact hK'
     refine Flow.done ?_
     go_wp2_with fail
     go_ret
     exact ⟨ret_bool (by rw [Hf.out, Hat.out]), (Bl.refl _).drew⟩
   · have hat := atI_out cs cW cH ((u : Int) - x) ((v : Int) - y) c1
     have Hat := Lib.hid hat
     clear hat hC
     have hcase : (u : Int) - x < 0 ∨ (0 ≤ (u : Int) - x ∧ (cW : Int) ≤ (u : Int) - x) ∨ (0 ≤ (u : Int) - x ∧ (u : Int) - x < cW ∧ (v : Int) - y < 0) ∨ (0 ≤ (u : Int) - x ∧ (u : Int) - x < cW ∧ 0 ≤ (v : Int) - y ∧ (cH : Int) ≤ (v : Int) - y) := by omega
     clear c1
     rcases hcase with d | ⟨d, d'⟩ | ⟨d, d', d''⟩ | ⟨d, d', d'', d'''⟩
     all_goals
      go_enter Tryz.func134, Tryz.ntmps134
      go_wp2_with fail
      refine wp_region_flow [(true, 0), (true, 1), (true, 2), (true, 3), (true, 4), (true, 5), (true, 6), (true, 7)] (fun _ => false) (by kernel_rfl) (by kernel_rfl) (by kernel_rfl) (by kernel_rfl) ?_
      iterate 1
       apply Flow.mv _ rfl
       · intro K' hK'
         simp only [sqA, Act.eval, arr_getD, List.getD_cons_zero]
         exact hK'
      iterate 2
       apply Flow.calm2 _ _ rfl rfl
       · intro w' hb' K' hK'
         obtain ⟨hc', hf'⟩ := hb'.rule
         go_simp
         try go_ints
         exact hK'
       · intro K' hK'
         simp only [sqA]
         exact hK'
      iterate 1
       apply Flow.mv _ rfl
       · intro K' hK'
         simp only [sqA, Act.eval, arr_getD, List.getD_cons_zero, List.getD_cons_succ]
         exact hK'
      iterate 2
       apply Flow.calm2 _ _ rfl rfl
       · intro w' hb' K' hK'
         obtain ⟨hc', hf'⟩ := hb'.rule
         go_simp
         try go_ints
         exact hK'
       · intro K' hK'
         simp only [sqA]
         exact hK'
      iterate 2
       apply Flow.asg _ rfl
       · intro K' hK'
         simp only [sqA, Act.eval, arr_getD, List.getD_cons_zero, List.getD_cons_succ]
         exact hK'
      refine Flow.done ?_
      go_wp2_with fail
      go_ret
      exact ⟨ret_bool (by rw [Hf.out, Hat.out]), (Bl.refl _).drew⟩

end Go.Proofs.YthobmednnocklaaGreatDoor


/-! The plain law of the pieces of a line: columns with ink that lie side by side. -/
namespace Go.Proofs.YthobmednnocklaaGreatDoor
open Go.RowKit

/-- Is the column ahead inked? -/
def ahead (f : Nat → Nat) : Nat → Bool
 | 0 => false
 | k + 1 => decide (0 < f k)
end Go.Proofs.YthobmednnocklaaGreatDoor


/-! Code 39 in plain lists: the modules of letters, and what is read of modules. -/
namespace Go.Proofs.YthobmednnocklaaGreatDoor

def lets44 : List UInt8 := [48, 49, 50, 51, 52, 53, 54, 55, 56, 57, 65, 66, 67, 68, 69, 70, 71, 72, 73, 74, 75, 76, 77, 78, 79, 80, 81, 82, 83, 84, 85, 86, 87, 88, 89, 90, 45, 46, 32, 36, 47, 43, 37, 42]
def pieceC : List (List UInt8) := [[110, 110, 110, 119, 119, 110, 119, 110, 110], [119, 110, 110, 119, 110, 110, 110, 110, 119], [110, 110, 119, 119, 110, 110, 110, 110, 119], [119, 110, 119, 119, 110, 110, 110, 110, 110], [110, 110, 110, 119, 119, 110, 110, 110, 119], [119, 110, 110, 119, 119, 110, 110, 110, 110], [110, 110, 119, 119, 119, 110, 110, 110, 110], [110, 110, 110, 119, 110, 110, 119, 110, 119], [119, 110, 110, 119, 110, 110, 119, 110, 110], [110, 110, 119, 119, 110, 110, 119, 110, 110], [119, 110, 110, 110, 110, 119, 110, 110, 119], [110, 110, 119, 110, 110, 119, 110, 110, 119], [119, 110, 119, 110, 110, 119, 110, 110, 110], [110, 110, 110, 110, 119, 119, 110, 110, 119], [119, 110, 110, 110, 119, 119, 110, 110, 110], [110, 110, 119, 110, 119, 119, 110, 110, 110], [110, 110, 110, 110, 110, 119, 119, 110, 119], [119, 110, 110, 110, 110, 119, 119, 110, 110], [110, 110, 119, 110, 110, 119, 119, 110, 110], [110, 110, 110, 110, 119, 119, 119, 110, 110], [119, 110, 110, 110, 110, 110, 110, 119, 119], [110, 110, 119, 110, 110, 110, 110, 119, 119], [119, 110, 119, 110, 110, 110, 110, 119, 110], [110, 110, 110, 110, 119, 110, 110, 119, 119], [119, 110, 110, 110, 119, 110, 110, 119, 110], [110, 110, 119, 110, 119, 110, 110, 119, 110], [110, 110, 110, 110, 110, 110, 119, 119, 119], [119, 110, 110, 110, 110, 110, 119, 119, 110], [110, 110, 119, 110, 110, 110, 119, 119, 110], [110, 110, 110, 110, 119, 110, 119, 119, 110], [119, 119, 110, 110, 110, 110, 110, 110, 119], [110, 119, 119, 110, 110, 110, 110, 110, 119], [119, 119, 119, 110, 110, 110, 110, 110, 110], [110, 119, 110, 110, 119, 110, 110, 110, 119], [119, 119, 110, 110, 119, 110, 110, 110, 110], [110, 119, 119, 110, 119, 110, 110, 110, 110], [110, 119, 110, 110, 110, 110, 119, 110, 119], [119, 119, 110, 110, 110, 110, 119, 110, 110], [110, 119, 119, 110, 110, 110, 119, 110, 110], [110, 119, 110, 119, 110, 119, 110, 110, 110], [110, 119, 110, 119, 110, 110, 110, 119, 110], [110, 119, 110, 110, 110, 119, 110, 119, 110], [110, 110, 110, 119, 110, 119, 110, 119, 110], [110, 119, 110, 110, 119, 110, 119, 110, 110]]
def pieceS : List UInt8 := [110, 110, 110, 119, 119, 110, 119, 110, 110, 32, 119, 110, 110, 119, 110, 110, 110, 110, 119, 32, 110, 110, 119, 119, 110, 110, 110, 110, 119, 32, 119, 110, 119, 119, 110, 110, 110, 110, 110, 32, 110, 110, 110, 119, 119, 110, 110, 110, 119, 32, 119, 110, 110, 119, 119, 110, 110, 110, 110, 32, 110, 110, 119, 119, 119, 110, 110, 110, 110, 32, 110, 110, 110, 119, 110, 110, 119, 110, 119, 32, 119, 110, 110, 119, 110, 110, 119, 110, 110, 32, 110, 110, 119, 119, 110, 110, 119, 110, 110, 32, 119, 110, 110, 110, 110, 119, 110, 110, 119, 32, 110, 110, 119, 110, 110, 119, 110, 110, 119, 32, 119, 110, 119, 110, 110, 119, 110, 110, 110, 32, 110, 110, 110, 110, 119, 119, 110, 110, 119, 32, 119, 110, 110, 110, 119, 119, 110, 110, 110, 32, 110, 110, 119, 110, 119, 119, 110, 110, 110, 32, 110, 110, 110, 110, 110, 119, 119, 110, 119, 32, 119, 110, 110, 110, 110, 119, 119, 110, 110, 32, 110, 110, 119, 110, 110, 119, 119, 110, 110, 32, 110, 110, 110, 110, 119, 119, 119, 110, 110, 32, 119, 110, 110, 110, 110, 110, 110, 119, 119, 32, 110, 110, 119, 110, 110, 110, 110, 119, 119, 32, 119, 110, 119, 110, 110, 110, 110, 119, 110, 32, 110, 110, 110, 110, 119, 110, 110, 119, 119, 32, 119, 110, 110, 110, 119, 110, 110, 119, 110, 32, 110, 110, 119, 110, 119, 110, 110, 119, 110, 32, 110, 110, 110, 110, 110, 110, 119, 119, 119, 32, 119, 110, 110, 110, 110, 110, 119, 119, 110, 32, 110, 110, 119, 110, 110, 110, 119, 119, 110, 32, 110, 110, 110, 110, 119, 110, 119, 119, 110, 32, 119, 119, 110, 110, 110, 110, 110, 110, 119, 32, 110, 119, 119, 110, 110, 110, 110, 110, 119, 32, 119, 119, 119, 110, 110, 110, 110, 110, 110, 32, 110, 119, 110, 110, 119, 110, 110, 110, 119, 32, 119, 119, 110, 110, 119, 110, 110, 110, 110, 32, 110, 119, 119, 110, 119, 110, 110, 110, 110, 32, 110, 119, 110, 110, 110, 110, 119, 110, 119, 32, 119, 119, 110, 110, 110, 110, 119, 110, 110, 32, 110, 119, 119, 110, 110, 110, 119, 110, 110, 32, 110, 119, 110, 119, 110, 119, 110, 110, 110, 32, 110, 119, 110, 119, 110, 110, 110, 119, 110, 32, 110, 119, 110, 110, 110, 119, 110, 119, 110, 32, 110, 110, 110, 119, 110, 119, 110, 119, 110, 32, 110, 119, 110, 110, 119, 110, 119, 110, 110]
/-! letters and their modules -/
def bitAt (i : Nat) : UInt8 := if i % 2 = 0 then 49 else 48
def runOf (c : UInt8) : Nat := if c = 119 then 3 else 1
def modFrom : Nat → List UInt8 → List UInt8
 | _, [] => []
 | i, c :: p => List.replicate (runOf c) (bitAt i) ++ modFrom (i + 1) p
def pieceK (k : Nat) : List UInt8 := pieceC.getD k []
def modK (k : Nat) : List UInt8 := modFrom 0 (pieceK k)
def joinC : List Nat → List UInt8
 | [] => []
 | [k] => modK k
 | k :: k' :: ks => modK k ++ 48 :: joinC (k' :: ks)
set_option maxRecDepth 100000 in
theorem modK_all : ∀ k < 44, (modK k).length = 15 ∧ (modK k).getD 0 0 = 49 ∧ (modK k).getD 14 0 = 49 ∧ (pieceK k).length = 9 := by decide +kernel
/-! the reference's way: groups of 16 modules -/
/-! the program's way: groups of 10 runs -/
/-! group by group -/
section
variable {g : Nat → Option Nat}
end
/-! runs -/
/-! the two ways meet in joinC -/
end Go.Proofs.YthobmednnocklaaGreatDoor


/-! spots, profile, Profile, Score, skews. -/
namespace Go.Proofs.YthobmednnocklaaGreatDoor
open Go.RowKit

/-- A slice of places. -/
def PtReads (w : World) (P : Option Addr) (W : Nat) (l : List Nat) : Prop := 0 < l.length → ∃ g, P = some ⟨g, 0, none⟩ ∧ ∀ j i, l[j]? = some i → w.cell? ⟨g, j * 2, none⟩ = some (.int .i64 ((i % W : Nat) : Int)) ∧ w.cell? ⟨g, j * 2 + 1, none⟩ = some (.int .i64 ((i / W : Nat) : Int))
theorem PtReads.bl {w w' : World} {P : Option Addr} {W : Nat} {l : List Nat} (h : PtReads w P W l) (hb : Bl w w') : PtReads w' P W l := fun h0 =>
 let ⟨g, e, hc⟩ := h h0
 ⟨g, e, fun j i hi => ⟨hb.at (hc j i hi).1, hb.at (hc j i hi).2⟩⟩
end Go.Proofs.YthobmednnocklaaGreatDoor


/-! Profile, Score, skews. -/
namespace Go.Proofs.YthobmednnocklaaGreatDoor
open Go.RowKit

def profI (bs : List Bool) (W H : Nat) (n : Int) (k : Nat) : Int := ((profN bs W H n k : Nat) : Int)
/-- A profile if the error is 0, nothing else. -/
def ProfRes (w : World) (err : Int) (bs : List Bool) (W H : Int) (n : Int) (P : Option Addr) (m : Nat) : Prop :=
 (err = 0 → m = 2 * H.toNat ∧ Reads w 1 P m ((tabL m (profI bs W.toNat H.toNat n)).map (.int .i64))) ∧ (err ≠ 0 → m = 0 ∧ P = none)
theorem ProfRes.bl {w w' : World} {err : Int} {bs : List Bool} {W H n : Int} {P : Option Addr} {m : Nat} (h : ProfRes w err bs W H n P m) (hb : Bl w w') : ProfRes w' err bs W H n P m :=
 ⟨fun e => ⟨(h.1 e).1, (h.1 e).2.bl hb⟩, h.2⟩
end Go.Proofs.YthobmednnocklaaGreatDoor


/-! The plain law of Align and Nearest: both find the least number, the nearest of those, the first of those. -/
namespace Go.Proofs.YthobmednnocklaaGreatDoor

def le3 (num far : Nat → Nat) (i j : Nat) : Prop := num i < num j ∨ (num i = num j ∧ (far i < far j ∨ (far i = far j ∧ i ≤ j)))
theorem le3.anti {num far : Nat → Nat} {i j : Nat} (h : le3 num far i j) (k : le3 num far j i) : i = j := by
 unfold le3 at h k
 omega
def BestA (num far : Nat → Nat) (m b : Nat) : Prop := b < m ∧ ∀ j, j < m → le3 num far b j
theorem BestA.start (num far : Nat → Nat) : BestA num far 1 0 :=
 ⟨by omega, fun j hj => by obtain rfl : j = 0 := by omega
                           unfold le3; omega⟩
theorem BestA.take {num far : Nat → Nat} {m b : Nat} (h : BestA num far m b) (hm : num m < num b ∨ (num m = num b ∧ far m < far b)) : BestA num far (m + 1) m := by
 refine ⟨by omega, fun j hj => ?_⟩
 rcases Nat.lt_or_ge j m with hl | hl
 · have := h.2 j hl
   unfold le3 at this ⊢
   omega
 · obtain rfl : j = m := by omega
   unfold le3; omega
def Seen (far : Nat → Nat) (K f m j : Nat) : Prop := j < K ∧ (far j < f ∨ (far j = f ∧ j < m))
def BestN (num far : Nat → Nat) (K f m b : Nat) : Prop := Seen far K f m b ∧ ∀ j, Seen far K f m j → le3 num far b j
theorem BestN.skip {num far : Nat → Nat} {K f m b : Nat} (h : BestN num far K f m b) (hf : far m ≠ f) : BestN num far K f (m + 1) b := by
 refine ⟨?_, fun j hj => h.2 j ?_⟩
 · have := h.1; unfold Seen at this ⊢; omega
 · unfold Seen at hj ⊢
   rcases Nat.lt_or_ge j m with hl | hl
   · omega
   · rcases hj with ⟨h1, h2 | ⟨h2, h3⟩⟩
     · omega
     · obtain rfl : j = m := by omega
       exact absurd h2 hf
theorem Seen.skip {far : Nat → Nat} {K f m : Nat} (h : ∀ j, ¬ Seen far K f m j) (hf : far m ≠ f) : ∀ j, ¬ Seen far K f (m + 1) j := by
 intro j hj
 refine h j ?_
 unfold Seen at hj ⊢
 rcases Nat.lt_or_ge j m with hl | hl
 · omega
 · rcases hj with ⟨h1, h2 | ⟨h2, h3⟩⟩
   · omega
   · obtain rfl : j = m := by omega
     exact absurd h2 hf
theorem BestN.first {num far : Nat → Nat} {K f m : Nat} (h : ∀ j, ¬ Seen far K f m j) (hm : m < K) (hf : far m = f) : BestN num far K f (m + 1) m := by
 refine ⟨⟨hm, Or.inr ⟨hf, by omega⟩⟩, fun j hj => ?_⟩
 have hn := h j
 unfold Seen at hj hn
 obtain rfl : j = m := by omega
 unfold le3; omega
theorem BestN.take {num far : Nat → Nat} {K f m b : Nat} (h : BestN num far K f m b) (hm : m < K) (hf : far m = f) (hn : num m < num b) : BestN num far K f (m + 1) m := by
 refine ⟨⟨hm, Or.inr ⟨hf, by omega⟩⟩, fun j hj => ?_⟩
 by_cases hs : Seen far K f m j
 · have := h.2 j hs
   unfold le3 at this ⊢
   omega
 · unfold Seen at hj hs
   obtain rfl : j = m := by omega
   unfold le3; omega
/-- Both are the same place. -/
theorem best_same {num far : Nat → Nat} {K f b c : Nat} (h : BestA num far K b) (k : BestN num far K f 0 c) (hf : ∀ j, j < K → far j < f) : b = c :=
 le3.anti (h.2 c k.1.1) (k.2 b ⟨h.1, Or.inl (hf b h.1)⟩)
theorem seen_all {far : Nat → Nat} {K f : Nat} (h : ∀ j, ¬ Seen far K f 0 j) (hK : 0 < K) (hf : ∀ j, j < K → far j < f) : False := h 0 ⟨hK, Or.inl (hf 0 hK)⟩

/-! ### places by number -/
def dxOf (r j : Nat) : Int := ((j % (2 * r + 1) : Nat) : Int) - r
def dyOf (r j : Nat) : Int := ((j / (2 * r + 1) : Nat) : Int) - r
def farOf (r j : Nat) : Nat := (dxOf r j).natAbs + (dyOf r j).natAbs
theorem farOf_lt (r j : Nat) (hj : j < (2 * r + 1) * (2 * r + 1)) : farOf r j < 2 * r + 1 := by
 have h1 : j % (2 * r + 1) < 2 * r + 1 := Nat.mod_lt _ (by omega)
 have h2 : j / (2 * r + 1) < 2 * r + 1 := Nat.div_lt_of_lt_mul hj
 unfold farOf dxOf dyOf
 generalize j % (2 * r + 1) = a at h1 ⊢
 generalize j / (2 * r + 1) = b at h2 ⊢
 omega

/-! ### the state of the two searches -/
def StA (num : Nat → Nat) (r m : Nat) (x y n : Int) : Prop :=
 (m = 0 ∧ x = 0 ∧ y = 0 ∧ n = -1) ∨ ∃ b, BestA num (farOf r) m b ∧ x = dxOf r b ∧ y = dyOf r b ∧ n = num b
def StN (num : Nat → Nat) (r f m : Nat) (x y n : Int) (found : Bool) : Prop :=
 (found = false ∧ n = 0 ∧ ∀ j, ¬ Seen (farOf r) ((2 * r + 1) * (2 * r + 1)) f m j) ∨ (found = true ∧ ∃ b, BestN num (farOf r) ((2 * r + 1) * (2 * r + 1)) f m b ∧ x = dxOf r b ∧ y = dyOf r b ∧ n = num b)
theorem StA.same {num : Nat → Nat} {r : Nat} {x y n x' y' n' : Int} {found : Bool} (h : StA num r ((2 * r + 1) * (2 * r + 1)) x y n) (k : StN num r (2 * r + 1) 0 x' y' n' found) : x = x' ∧ y = y' ∧ n = n' := by
 have hK : 0 < (2 * r + 1) * (2 * r + 1) := Nat.mul_pos (by omega) (by omega)
 rcases h with ⟨h, _⟩ | ⟨b, hb, rfl, rfl, rfl⟩
 · omega
 · rcases k with ⟨_, _, k⟩ | ⟨_, c, hc, rfl, rfl, rfl⟩
   · exact absurd (seen_all k hK (farOf_lt r)) id
   · rw [best_same hb hc (farOf_lt r)]
     exact ⟨rfl, rfl, rfl⟩
/-- One place more in Nearest. -/
theorem StN.skip {num : Nat → Nat} {r f m : Nat} {x y n : Int} {found : Bool} (h : StN num r f m x y n found) (hf : farOf r m ≠ f) : StN num r f (m + 1) x y n found := by
 rcases h with ⟨h1, h2, h3⟩ | ⟨h1, b, hb, h2⟩
 · exact Or.inl ⟨h1, h2, Seen.skip h3 hf⟩
 · exact Or.inr ⟨h1, b, hb.skip hf, h2⟩
theorem StN.take {num : Nat → Nat} {r f m : Nat} {x y n : Int} {found : Bool} (h : StN num r f m x y n found) (hm : m < (2 * r + 1) * (2 * r + 1)) (hf : farOf r m = f) (hc : found = false ∨ (num m : Int) < n) : StN num r f (m + 1) (dxOf r m) (dyOf r m) (num m) true := by
 rcases h with ⟨h1, h2, h3⟩ | ⟨h1, b, hb, rfl, rfl, rfl⟩
 · exact Or.inr ⟨rfl, m, BestN.first h3 hm hf, rfl, rfl, rfl⟩
 · have hlt : num m < num b := by
    rcases hc with hc | hc
    · simp [h1] at hc
    · omega
   exact Or.inr ⟨rfl, m, hb.take hm hf hlt, rfl, rfl, rfl⟩
theorem StN.start (num : Nat → Nat) (r : Nat) (x y : Int) : StN num r 0 0 x y 0 false :=
 Or.inl ⟨rfl, rfl, fun j hj => by unfold Seen at hj; omega⟩

end Go.Proofs.YthobmednnocklaaGreatDoor


/-! The plain law of forms.find and bedref2.FoundOf: of the places that count, both find the one with the least number, the nearest of those, the first of those. -/
namespace Go.Proofs.YthobmednnocklaaGreatDoor

def BestO (ok : Nat → Bool) (num far : Nat → Nat) (m b : Nat) : Prop := b < m ∧ ok b = true ∧ ∀ j, j < m → ok j = true → le3 num far b j
/-- The state of forms.find. -/
def StO (ok : Nat → Bool) (num : Nat → Nat) (r m : Nat) (x y n : Int) : Prop :=
 ((∀ j, j < m → ok j = false) ∧ x = 0 ∧ y = 0 ∧ n = -1) ∨ ∃ b, BestO ok num (farOf r) m b ∧ x = dxOf r b ∧ y = dyOf r b ∧ n = num b
theorem StO.start (ok : Nat → Bool) (num : Nat → Nat) (r : Nat) : StO ok num r 0 0 0 (-1) := .inl ⟨fun _j hj => absurd hj (Nat.not_lt_zero _), rfl, rfl, rfl⟩
theorem StO.skip {ok : Nat → Bool} {num : Nat → Nat} {r m : Nat} {x y n : Int} (h : StO ok num r m x y n) (hk : ok m = false) : StO ok num r (m + 1) x y n := by
 rcases h with ⟨h1, h2⟩ | ⟨b, ⟨hb, hb2, hb3⟩, h2⟩
 · refine .inl ⟨fun j hj => ?_, h2⟩
   rcases Nat.lt_succ_iff_lt_or_eq.1 hj with hl | rfl
   · exact h1 j hl
   · exact hk
 · refine .inr ⟨b, ⟨by omega, hb2, fun j hj hj2 => ?_⟩, h2⟩
   rcases Nat.lt_succ_iff_lt_or_eq.1 hj with hl | rfl
   · exact hb3 j hl hj2
   · rw [hk] at hj2; cases hj2
/-- The bounds of what is found. -/
theorem StO.bd {ok : Nat → Bool} {num : Nat → Nat} {r m : Nat} {x y n : Int} (h : StO ok num r m x y n) (hm : m ≤ (2 * r + 1) * (2 * r + 1)) (hr : r ≤ 40) : (-40 ≤ x ∧ x ≤ 40) ∧ (-40 ≤ y ∧ y ≤ 40) := by
 rcases h with ⟨_, rfl, rfl, _⟩ | ⟨b, hb, rfl, rfl, _⟩
 · omega
 · have h1 : b % (2 * r + 1) < 2 * r + 1 := Nat.mod_lt _ (by omega)
   have h2 : b / (2 * r + 1) < 2 * r + 1 := Nat.div_lt_of_lt_mul (Nat.lt_of_lt_of_le hb.1 hm)
   unfold dxOf dyOf
   generalize b % (2 * r + 1) = p at h1 ⊢
   generalize b / (2 * r + 1) = q at h2 ⊢
   omega
/-! ### bedref2.Nearest -/
def SeenO (ok : Nat → Bool) (far : Nat → Nat) (K f m j : Nat) : Prop := Seen far K f m j ∧ ok j = true
def BestP (ok : Nat → Bool) (num far : Nat → Nat) (K f m b : Nat) : Prop := SeenO ok far K f m b ∧ ∀ j, SeenO ok far K f m j → le3 num far b j
def StP (ok : Nat → Bool) (num : Nat → Nat) (r f m : Nat) (x y n : Int) (found : Bool) : Prop :=
 (found = false ∧ x = 0 ∧ y = 0 ∧ n = 0 ∧ ∀ j, ¬ SeenO ok (farOf r) ((2 * r + 1) * (2 * r + 1)) f m j) ∨ (found = true ∧ ∃ b, BestP ok num (farOf r) ((2 * r + 1) * (2 * r + 1)) f m b ∧ x = dxOf r b ∧ y = dyOf r b ∧ n = num b)
/-- Nothing new is seen at m: the state stays. -/
theorem Seen.succ {far : Nat → Nat} {K f m j : Nat} (h : Seen far K f (m + 1) j) : Seen far K f m j ∨ (j = m ∧ far m = f) := by
 unfold Seen at h ⊢
 rcases h with ⟨h1, h2 | ⟨h2, h3⟩⟩
 · exact .inl ⟨h1, .inl h2⟩
 · rcases Nat.lt_succ_iff_lt_or_eq.1 h3 with h | rfl
   · exact .inl ⟨h1, .inr ⟨h2, h⟩⟩
   · exact .inr ⟨rfl, h2⟩
theorem Seen.mono {far : Nat → Nat} {K f m j : Nat} (h : Seen far K f m j) : Seen far K f (m + 1) j := by
 unfold Seen at h ⊢
 omega
theorem StP.skip {ok : Nat → Bool} {num : Nat → Nat} {r f m : Nat} {x y n : Int} {found : Bool} (h : StP ok num r f m x y n found) (hf : farOf r m ≠ f ∨ ok m = false) : StP ok num r f (m + 1) x y n found := by
 have key : ∀ j, SeenO ok (farOf r) ((2 * r + 1) * (2 * r + 1)) f (m + 1) j → SeenO ok (farOf r) ((2 * r + 1) * (2 * r + 1)) f m j := fun j hj => by
  rcases hj.1.succ with h1 | ⟨rfl, h2⟩
  · exact ⟨h1, hj.2⟩
  · rcases hf with hf | hf
    · exact absurd h2 hf
    · have h3 := hj.2
      rw [hf] at h3; cases h3
 rcases h with ⟨h1, h2, h3, h4, h5⟩ | ⟨h1, b, ⟨hb, hb2⟩, h2⟩
 · exact .inl ⟨h1, h2, h3, h4, fun j hj => h5 j (key j hj)⟩
 · exact .inr ⟨h1, b, ⟨⟨hb.1.mono, hb.2⟩, fun j hj => hb2 j (key j hj)⟩, h2⟩
theorem StP.take {ok : Nat → Bool} {num : Nat → Nat} {r f m : Nat} {x y n : Int} {found : Bool} (h : StP ok num r f m x y n found) (hm : m < (2 * r + 1) * (2 * r + 1)) (hf : farOf r m = f) (hk : ok m = true) (hc : found = false ∨ (num m : Int) < n) : StP ok num r f (m + 1) (dxOf r m) (dyOf r m) (num m) true := by
 refine .inr ⟨rfl, m, ⟨⟨⟨hm, .inr ⟨hf, by omega⟩⟩, hk⟩, fun j hj => ?_⟩, rfl, rfl, rfl⟩
 rcases hj.1.succ with h1 | ⟨rfl, -⟩
 · rcases h with ⟨-, -, -, -, h5⟩ | ⟨hfd, b, ⟨hb, hb2⟩, -, -, hn⟩
   · exact absurd ⟨h1, hj.2⟩ (h5 j)
   · have hl := hb2 j ⟨h1, hj.2⟩
     have hlt : num m < num b := by
      rcases hc with hc | hc
      · rw [hfd] at hc; cases hc
      · omega
     unfold le3 at hl ⊢
     omega
 · unfold le3; omega
theorem StP.start (ok : Nat → Bool) (num : Nat → Nat) (r : Nat) : StP ok num r 0 0 0 0 0 false :=
 .inl ⟨rfl, rfl, rfl, rfl, fun j hj => by have := hj.1; unfold Seen at this; omega⟩
theorem StP.bd {ok : Nat → Bool} {num : Nat → Nat} {r f m : Nat} {x y n : Int} {found : Bool} (h : StP ok num r f m x y n found) (hr : r ≤ 40) : (-40 ≤ x ∧ x ≤ 40) ∧ (-40 ≤ y ∧ y ≤ 40) := by
 rcases h with ⟨_, rfl, rfl, _⟩ | ⟨_, b, hb, rfl, rfl, _⟩
 · omega
 · have hK := hb.1.1.1
   have h1 : b % (2 * r + 1) < 2 * r + 1 := Nat.mod_lt _ (by omega)
   have h2 : b / (2 * r + 1) < 2 * r + 1 := Nat.div_lt_of_lt_mul hK
   unfold dxOf dyOf
   generalize b % (2 * r + 1) = p at h1 ⊢
   generalize b / (2 * r + 1) = q at h2 ⊢
   omega
/-- Both searches find the same, if any place counts. -/
theorem StO.same {ok : Nat → Bool} {num : Nat → Nat} {r : Nat} {x y n x' y' n' : Int} {found : Bool} (h : StO ok num r ((2 * r + 1) * (2 * r + 1)) x y n) (k : StP ok num r (2 * r + 1) 0 x' y' n' found) (hex : ∃ j, j < (2 * r + 1) * (2 * r + 1) ∧ ok j = true) : x = x' ∧ y = y' ∧ n = n' ∧ 0 ≤ n := by
 obtain ⟨j, hj, hk⟩ := hex
 rcases h with ⟨h, _⟩ | ⟨b, ⟨hb, hb2, hb3⟩, rfl, rfl, rfl⟩
 · rw [h j hj] at hk; cases hk
 · rcases k with ⟨-, -, -, -, k⟩ | ⟨-, c, ⟨⟨hc1, hc2⟩, hc3⟩, rfl, rfl, rfl⟩
   · exact absurd ⟨⟨hj, .inl (farOf_lt r j hj)⟩, hk⟩ (k j)
   · have e : b = c := le3.anti (hb3 c hc1.1 hc2) (hc3 b ⟨⟨hb, .inl (farOf_lt r b hb)⟩, hb2⟩)
     subst e
     exact ⟨rfl, rfl, rfl, by omega⟩
end Go.Proofs.YthobmednnocklaaGreatDoor


/-! Pasting in the reference; what both functions make. -/
namespace Go.Proofs.YthobmednnocklaaGreatDoor
open Go.RowKit

theorem pasteF_far {bs cs : List Bool} {bW bH cW cH : Nat} {x y : Int} {u v : Nat} (h : pix bs bW u v = false) (h2 : x < -(cW : Int) ∨ (bW : Int) < x ∨ y < -(cH : Int) ∨ (bH : Int) < y) : pasteF bs cs bW bH cW cH x y u v = false :=
 pasteF_apart h (by simp [isApart]; omega)
theorem pasteF_near {bs cs : List Bool} {bW bH cW cH : Nat} {x y : Int} {u v : Nat} (hu : u < bW) (hv : v < bH) (h : pix bs bW u v = false) : pasteF bs cs bW bH cW cH x y u v = atI cs cW cH ((u : Int) - x) ((v : Int) - y) := by
 cases ha : isApart bW bH cW cH x y
 · exact pasteF_at h ha
 · rw [pasteF_apart h ha, atI_out]
   simp [isApart] at ha
   omega

set_option maxRecDepth 100000 in
set_option maxHeartbeats 2000000 in
theorem pasteOf1_any (px pc pb py : Nat) (bW bH cW cH : Nat) (A C : Option Addr) (bc cc : Nat) (bs cs : List Bool) (x y : Int) (u v : Nat) (w : World)
 (h3 : Blk w px 3 #[.int .i64 x]) (h5 : Blk w pc 24 #[.int .i64 cW, .int .i64 cH, .slice C (cW * cH) cc]) (h1 : Blk w pb 24 #[.int .i64 bW, .int .i64 bH, .slice A (bW * bH) bc]) (h4 : Blk w py 3 #[.int .i64 y])
 (hA : Reads w 1 A (bW * bH) (bs.map .bool)) (hC : Reads w 1 C (cW * cH) (cs.map .bool)) (b1 : bW ≤ 4000) (b2 : bH ≤ 4000) (b3 : cW ≤ 4000) (b4 : cH ≤ 4000) (hu : u < bW) (hv : v < bH) :
 Calls Tryz.prog 147 #[.int .i64 u, .int .i64 v, .pointer (some ⟨px, 0, none⟩), .pointer (some ⟨pc, 0, none⟩), .pointer (some ⟨pb, 0, none⟩), .pointer (some ⟨py, 0, none⟩)] w
  fun e w' => e = .returned (.bool (pasteF bs cs bW bH cW cH x y u v)) ∧ Bl w w' := by
 have k1 := h1.all3
 have k3 := h3.all1
 have k4 := h4.all1
 have k5 := h5.all3
 have hat := atI_in bs bW bH u v hu hv
 have hA' := fun (w1 : World) (hb : Bl w w1) => at_any bW bH A bc bs u v w1 (hA.bl hb) b1 b2
 have hC' := fun (w1 : World) (hb : Bl w w1) => at_any cW cH C cc cs ((u : Int) - x) ((v : Int) - y) w1 (hC.bl hb) b3 b4
 have HA := Lib.hid hA'; have HC := Lib.hid hC'
 clear hA hC hA' hC'
 rw [hat] at HA
 clear hat
 cases hp : pix bs bW u v
 case true =>
  have hf := pasteF_pix (cs := cs) (bH := bH) (cW := cW) (cH := cH) (x := x) (y := y) hp
  rw [hp] at HA
  have Hf := Lib.hid hf; have Hp := Lib.hid hp
  clear hf hp
  cases n1 : inB x (-(cW : Int)) bW <;> cases n2 : inB y (-(cH : Int)) bH
  all_goals
   go_enter Tryz.func147, Tryz.ntmps147
   go_wp2_with (first | (go_at_call 12; refine (in_any _ _ _ _).mono ?_; rintro e w' ⟨rfl, rfl⟩) | (go_at_call 47; refine (HA.out _ (Bl.refl _)).mono ?_; rintro e w1 ⟨rfl, hb1⟩))
   go_ret
   exact ⟨ret_bool Hf.out.symm, hb1⟩
 case false =>
  rw [hp] at HA
  cases n1 : inB x (-(cW : Int)) bW
  case false =>
   have hf := pasteF_far (cs := cs) (bH := bH) (cW := cW) (cH := cH) (x := x) (y := y) hp (by have := inB_false.1 n1; omega)
   have Hf := Lib.hid hf; have Hp := Lib.hid hp
   clear hf hp
   go_enter Tryz.func147, Tryz.ntmps147
   go_wp2_with (first | (go_at_call 12; refine (in_any _ _ _ _).mono ?_; rintro e w' ⟨rfl, rfl⟩) | (go_at_call 47; refine (HA.out _ (Bl.refl _)).mono ?_; rintro e w1 ⟨rfl, hb1⟩))
   go_ret
   exact ⟨ret_bool Hf.out.symm, hb1⟩
  case true =>
   cases n2 : inB y (-(cH : Int)) bH
   case false =>
    have hf := pasteF_far (cs := cs) (bH := bH) (cW := cW) (cH := cH) (x := x) (y := y) hp (by have := inB_false.1 n2; omega)
    have Hf := Lib.hid hf; have Hp := Lib.hid hp
    clear hf hp
    go_enter Tryz.func147, Tryz.ntmps147
    go_wp2_with (first | (go_at_call 12; refine (in_any _ _ _ _).mono ?_; rintro e w' ⟨rfl, rfl⟩) | (go_at_call 47; refine (HA.out _ (Bl.refl _)).mono ?_; rintro e w1 ⟨rfl, hb1⟩))
    go_ret
    exact ⟨ret_bool Hf.out.symm, hb1⟩
   case true =>
    have hf := pasteF_near (cs := cs) (cW := cW) (cH := cH) (x := x) (y := y) hu hv hp
    have r1 := inB_true.1 n1
    have r2 := inB_true.1 n2
    have Hf := Lib.hid hf; have Hp := Lib.hid hp
    clear hf hp
    go_enter Tryz.func147, Tryz.ntmps147
    go_wp2_with (first | (go_at_call 12; refine (in_any _ _ _ _).mono ?_; rintro e w' ⟨rfl, rfl⟩))
    refine (HA.out _ (Bl.refl _)).mono ?_
    rintro e w1 ⟨rfl, hb1⟩
    have k1' := (h1.bl hb1).all3
    have k3' := (h3.bl hb1).all1
    have k4' := (h4.bl hb1).all1
    have k5' := (h5.bl hb1).all3
    go_wp2_with fail
    refine (HC.out _ hb1).mono ?_
    rintro e w2 ⟨rfl, hb2⟩
    go_wp2_with fail
    go_ret
    exact ⟨ret_bool (by rw [Hf.out]), hb1.trans hb2⟩

/-! ### page.Paste, bedref2.PasteOf -/
set_option maxRecDepth 100000 in
set_option maxHeartbeats 2000000 in
theorem pasteOf_any (bW bH cW cH : Nat) (bv cv : Value) (bs cs : List Bool) (x y : Int) (w : World) (hA : IsPage w bv bW bH (bs.map .bool)) (hC : IsPage w cv cW cH (cs.map .bool))
 (b1 : bW ≤ 4000) (b2 : bH ≤ 4000) (b3 : cW ≤ 4000) (b4 : cH ≤ 4000) :
 Calls Tryz.prog 77 #[bv, cv, .int .i64 x, .int .i64 y] w fun e w' => ∃ v, e = .returned v ∧ NPage w.heap.size w' v bW bH ((grid bW bH (pasteF bs cs bW bH cW cH x y)).map .bool) ∧ Bl w w' := by
 obtain ⟨A, bc, rfl, hA⟩ := hA
 obtain ⟨C, cc, rfl, hC⟩ := hC
 have hbd : bW * bH ≤ 16000000 := by have := Nat.mul_le_mul b1 b2; omega
 have hr : ∃ r, r = Value.agg #[.int .i64 0, .int .i64 0, .slice none 0 0] := ⟨_, rfl⟩
 let w5 := ((((w.alloc (.cells #[.int .i64 bW, .int .i64 bH, .slice A (bW * bH) bc] 24)).alloc (.cells #[.int .i64 cW, .int .i64 cH, .slice C (cW * cH) cc] 24)).alloc (.cells #[.int .i64 x] 3)).alloc (.cells #[.int .i64 y] 3)).alloc (.cells #[.int .i64 0, .int .i64 0, .slice none 0 0] 24)
 have hb5 : Bl w w5 := (((((Bl.refl w).alloc _).alloc _).alloc _).alloc _).alloc _
 have q1 : Blk w5 w.heap.size 24 #[.int .i64 bW, .int .i64 bH, .slice A (bW * bH) bc] := ((((Blk.new w _ _).alloc _).alloc _).alloc _).alloc _
 have q2 : Blk w5 (w.heap.size + 1) 24 #[.int .i64 cW, .int .i64 cH, .slice C (cW * cH) cc] := by
  have := Blk.new (w.alloc (.cells #[.int .i64 bW, .int .i64 bH, .slice A (bW * bH) bc] 24)) 24 #[.int .i64 cW, .int .i64 cH, .slice C (cW * cH) cc]
  simp only [World.size_alloc] at this
  exact (((this).alloc _).alloc _).alloc _
 have q3 : Blk w5 (w.heap.size + 1 + 1) 3 #[.int .i64 x] := by
  have := Blk.new ((w.alloc (.cells #[.int .i64 bW, .int .i64 bH, .slice A (bW * bH) bc] 24)).alloc (.cells #[.int .i64 cW, .int .i64 cH, .slice C (cW * cH) cc] 24)) 3 #[.int .i64 x]
  simp only [World.size_alloc] at this
  exact ((this).alloc _).alloc _
 have q4 : Blk w5 (w.heap.size + 1 + 1 + 1) 3 #[.int .i64 y] := by
  have := Blk.new (((w.alloc (.cells #[.int .i64 bW, .int .i64 bH, .slice A (bW * bH) bc] 24)).alloc (.cells #[.int .i64 cW, .int .i64 cH, .slice C (cW * cH) cc] 24)).alloc (.cells #[.int .i64 x] 3)) 3 #[.int .i64 y]
  simp only [World.size_alloc] at this
  exact (this).alloc _
 have hP : Paints Tryz.prog 147 #[.pointer (some ⟨w.heap.size + 1 + 1, 0, none⟩), .pointer (some ⟨w.heap.size + 1, 0, none⟩), .pointer (some ⟨w.heap.size, 0, none⟩), .pointer (some ⟨w.heap.size + 1 + 1 + 1, 0, none⟩)] Value.bool w5 bW bH (pasteF bs cs bW bH cW cH x y) :=
  ⟨enters Tryz.func147 (by kernel_rfl) rfl, fun wx u v hb hu hv => pasteOf1_any _ _ _ _ bW bH cW cH A C bc cc bs cs x y u v wx (q3.bl hb) (q2.bl hb) (q1.bl hb) (q4.bl hb) ((hA.bl hb5).bl hb) ((hC.bl hb5).bl hb) b1 b2 b3 b4 hu hv⟩
 have HP := Lib.hid hP
 have kr : Blk w5 (w.heap.size + 1 + 1 + 1 + 1) 24 #[.int .i64 0, .int .i64 0, .slice none 0 0] := by
  have := Blk.new ((((w.alloc (.cells #[.int .i64 bW, .int .i64 bH, .slice A (bW * bH) bc] 24)).alloc (.cells #[.int .i64 cW, .int .i64 cH, .slice C (cW * cH) cc] 24)).alloc (.cells #[.int .i64 x] 3)).alloc (.cells #[.int .i64 y] 3)) 24 #[.int .i64 0, .int .i64 0, .slice none 0 0]
  simpa only [World.size_alloc] using this
 have Hq1 := Lib.hid q1; have Hq2 := Lib.hid q2
 clear hP q1 q2 q3 q4 hr
 go_enter Tryz.func77, Tryz.ntmps77
 go_wp2_with fail
 refine (Made_any bW bH _ _ _ w5 (by omega) (by omega) (by omega) HP.out).mono ?_
 rintro e w6 ⟨r, rfl, hpg, hb6⟩
 have kr' := (kr.bl hb6)
 have kr3 := kr'.all3
 obtain ⟨R, rc, rfl, hR, hRn⟩ := hpg
 go_wp2_with fail
 refine bodyPost_ret (v := .agg #[.int .i64 bW, .int .i64 bH, .slice R (bW * bH) rc]) (by simp [results, Tryz.results77, go_sem, kr3]) rfl ⟨_, rfl, ⟨R, rc, rfl, ?_, fun ad h => Nat.le_trans hb5.le (hRn ad h)⟩, ?_⟩
 · have hsz : w5.heap.size = w.heap.size + 5 := by simp [w5]
   rw [hsz] at hRn
   exact ((hR.store hRn (by simp) _).store hRn (by simp) _).store hRn (by simp) _
 · exact ((((hb5.trans hb6).setCell (by simp; omega) _).setCell (by simp; omega) _).setCell (by simp; omega) _)

end Go.Proofs.YthobmednnocklaaGreatDoor


/-! A region in which several operations may come up in any order, walked by a tree of ways over a base world (what every operation keeps). No condition. -/
namespace Go.Proofs.YthobmednnocklaaGreatDoor
open Go.RowKit

section
variable {P : Program} {ops : Array Oper} {Q : Exit → Act → World → Prop} {md : Region.Mode} {S : World → Prop}

/-- The ways on from a place: each begins with one operation, goes on in one order, and ends or parts anew. -/
inductive Tree
 | none
 | one (i : Nat) (σ : List (Bool × Nat)) (sub : Tree) (rest : Tree)
def Tree.idx : Tree → List Nat
 | .none => []
 | .one i _ _ rest => i :: rest.idx
def Tree.isNone : Tree → Bool
 | .none => true
 | .one .. => false
def Tree.depth : Tree → Nat
 | .none => 0
 | .one _ σ sub rest => max (1 + σ.length + sub.depth) rest.depth
def preOkS (md : Region.Mode) (ops : Array Oper) : List (Bool × Nat) → Array Bool → Bool
 | [], _ => true
 | (true, i) :: σ, listed => (Region.ready md ops listed).contains i && Region.free md ops listed i && preOkS md ops σ (listed.setIfInBounds i true)
 | (false, _) :: _, _ => false
def treeOk (md : Region.Mode) (ops : Array Oper) : Tree → Array Bool → Bool
 | .none, _ => true
 | .one i σ sub rest, listed => (if sub.isNone then flowOkS md ops σ (listed.setIfInBounds i true)
  else preOkS md ops σ (listed.setIfInBounds i true) && Region.ready md ops (listTo σ (listed.setIfInBounds i true)) == sub.idx && treeOk md ops sub (listTo σ (listed.setIfInBounds i true))) && treeOk md ops rest listed
def TreeWp (P : Program) (ops : Array Oper) (Q : Exit → Act → World → Prop) (S : World → Prop) : Tree → Act → World → Prop
 | .none, _, _ => True
 | .one i σ sub rest, a, w => wpOp P ops (NoPanic Q) i (fun a' w' => S w' ∧ (if sub.isNone then FlowS P ops (NoPanic Q) S σ a' w' else FlowS P ops (NoPanic (withK (TreeWp P ops Q S sub) Q)) S σ a' w')) a w ∧ TreeWp P ops Q S rest a w

theorem forkS_sound (hs : Region.noSelect ops = true) (hQ : ∀ c a d v w, Q (.panic c) (Act.put a d v) w → Q (.panic c) a w) {R : Exit → Act → World → Prop} {n : Nat} :
 ∀ (σ : List (Bool × Nat)) (fuel : Nat) (listed : Array Bool) (a : Act) (w : World), listed.size = ops.size → DownClosed md ops listed → σ.length + n ≤ fuel → preOkS md ops σ listed = true → S w →
  (∀ (fuel : Nat) (a : Act) (w : World), (listTo σ listed).size = ops.size → DownClosed md ops (listTo σ listed) → n ≤ fuel → S w → R .normal a w → wpAnyS P md ops Q S fuel (listTo σ listed) a w) →
  FlowS P ops R S σ a w → wpAnyS P md ops Q S fuel listed a w := by
 intro σ
 induction σ with
 | nil =>
  intro fuel listed a w hsz hdc hf hok hS hK h
  exact hK fuel a w hsz hdc (by simpa using hf) hS h
 | cons s σ ih =>
  obtain ⟨b, i⟩ := s
  intro fuel listed a w hsz hdc hf hok hS hK h
  cases fuel with
  | zero => simp at hf
  | succ fuel =>
   have hf' : σ.length + n ≤ fuel := by simp at hf; omega
   cases b with
   | true =>
    simp only [preOkS, Bool.and_eq_true] at hok
    obtain ⟨⟨h1, h2⟩, h4⟩ := hok
    obtain ⟨o, v, ho, hy, hfl⟩ := h
    have hir : i ∈ Region.ready md ops listed := by simpa using h1
    exact wpAnyS_first ho (Region.noSelect_spec hs) (fun c a w => hQ c a o.dst v w) fuel listed a w hsz hdc (Region.free_spec ho h2) hir hS hy (ih fuel _ _ _ (by simpa using hsz) (hdc.set hir) hf' h4 hS hK hfl)
   | false => simp [preOkS] at hok

theorem tree_sound (hs : Region.noSelect ops = true) : ∀ (B : Tree) (fuel : Nat) (listed : Array Bool) (a : Act) (w : World), listed.size = ops.size → DownClosed md ops listed → B.depth ≤ fuel + 1 → (∀ i ∈ B.idx, i ∈ Region.ready md ops listed) →
 treeOk md ops B listed = true → TreeWp P ops Q S B a w → ∀ i ∈ B.idx, wpOp P ops (NoPanic Q) i (fun a' w' => S w' ∧ wpAnyS P md ops (NoPanic Q) S fuel (listed.setIfInBounds i true) a' w') a w := by
 intro B
 induction B with
 | none => intro fuel listed a w _ _ _ _ _ _ i hi; cases hi
 | one j σ sub rest ihs ihr =>
  intro fuel listed a w hsz hdc hf hrd hok h i hi
  have hf1 : 1 + σ.length + sub.depth ≤ fuel + 1 := Nat.le_trans (Nat.le_max_left _ _) hf
  have hf2 : rest.depth ≤ fuel + 1 := Nat.le_trans (Nat.le_max_right _ _) hf
  simp only [treeOk, Bool.and_eq_true] at hok
  obtain ⟨hk1, hk2⟩ := hok
  obtain ⟨h1, h2⟩ := h
  rcases List.mem_cons.1 hi with rfl | hi'
  · have hir := hrd i hi
    refine wpOp_mono (fun a' w' h' => ⟨h'.1, ?_⟩) h1
    have h'' := h'.2
    have hS' := h'.1
    cases hn : sub.isNone with
    | true =>
     rw [hn] at h'' hk1
     exact flowS_sound hs noPanic_put σ fuel _ _ _ (by simpa using hsz) (hdc.set hir) (by omega) hk1 hS' h''
    | false =>
     rw [hn] at h'' hk1
     simp only [Bool.false_eq_true, if_false, Bool.and_eq_true, beq_iff_eq] at h'' hk1
     obtain ⟨⟨k1, k2⟩, k3⟩ := hk1
     refine forkS_sound (n := sub.depth) hs noPanic_put σ fuel _ _ _ (by simpa using hsz) (hdc.set hir) (by omega) k1 hS' ?_ h''
     intro fuel' a2 w2 hsz2 hdc2 hf' hS2 hK
     have hK' : TreeWp P ops Q S sub a2 w2 := hK
     have hne : sub.idx ≠ [] := by
      cases sub with
      | none => cases hn
      | one => exact List.cons_ne_nil _ _
     have hd1 : 1 ≤ sub.depth := by
      cases sub with
      | none => cases hn
      | one i2 s2 a2 b2 => exact Nat.le_trans (by omega) (Nat.le_max_left _ _)
     cases fuel' with
     | zero => omega
     | succ fuel' =>
      refine ⟨fun h0 => absurd (k2.symm.trans h0) hne, fun k hk => ?_⟩
      refine ihs fuel' _ a2 w2 hsz2 hdc2 (by omega) (fun i hi => by rw [k2]; exact hi) k3 hK' k (by rw [← k2]; exact hk)
  · exact ihr fuel listed a w hsz hdc hf2 (fun i hi => hrd i (List.mem_cons_of_mem _ hi)) hk2 h2 i hi'

/-- **A REGION BY A TREE OF WAYS OVER A BASE WORLD.** -/
theorem wp_region_tree {id : Nat} {a : Act} {w : World} (S : World → Prop) (σ : List (Bool × Nat)) (B : Tree) (hm : P.follows .mixedOrders = true) (hs : Region.noSelect ops = true)
 (hl : (decide (σ.length + B.depth ≤ ops.size) && !B.isNone) = true) (hok : (preOkS .any ops σ (Array.replicate ops.size false) && Region.ready .any ops (listTo σ (Array.replicate ops.size false)) == B.idx && treeOk .any ops B (listTo σ (Array.replicate ops.size false))) = true) (hS : S w.drew)
 (h : FlowS P ops (NoPanic (withK (TreeWp P ops Q S B) Q)) S σ a w.drew) : (Code.region id ops true).wp P Q a w := by
 simp only [Bool.and_eq_true, beq_iff_eq, Bool.not_eq_true', decide_eq_true_eq] at hl hok
 obtain ⟨hl, hn⟩ := hl
 obtain ⟨⟨k1, k2⟩, k3⟩ := hok
 refine wp_region_noPanic (wp_region_any hm (wpAny_of_S _ _ _ _ (forkS_sound (n := B.depth) hs noPanic_put σ _ _ _ _ (by simp) downClosed_start (by omega) k1 hS ?_ h)))
 intro fuel a2 w2 hsz2 hdc2 hf' hS2 hK
 have hK' : TreeWp P ops Q S B a2 w2 := hK
 have hne : B.idx ≠ [] := by
  cases B with
  | none => cases hn
  | one => exact List.cons_ne_nil _ _
 have hd1 : 1 ≤ B.depth := by
  cases B with
  | none => cases hn
  | one i2 s2 a2 b2 => exact Nat.le_trans (by omega) (Nat.le_max_left _ _)
 cases fuel with
 | zero => omega
 | succ fuel =>
  refine ⟨fun h0 => absurd (k2.symm.trans h0) hne, fun k hk => ?_⟩
  exact tree_sound hs B fuel _ a2 w2 hsz2 hdc2 (by omega) (fun i hi => by rw [k2]; exact hi) k3 hK' k (by rw [← k2]; exact hk)

theorem Tree.fork {B : Tree} {a : Act} {w : World} (h : TreeWp P ops Q S B a w) : FlowS P ops (NoPanic (withK (TreeWp P ops Q S B) Q)) S [] a w := h
theorem Tree.nil {a : Act} {w : World} : TreeWp P ops Q S .none a w := trivial
variable {l : List Oper}
/-- A way that ends. -/
theorem Tree.last {i : Nat} {o : Oper} {σ : List (Bool × Nat)} {rest : Tree} {a : Act} {w : World} (ho : l[i]? = some o)
 (h : wpList P l.toArray (Exit.then (fun a' w' => S w' ∧ FlowS P l.toArray (NoPanic Q) S σ a' w') (NoPanic Q)) [o] a w) (hr : TreeWp P l.toArray Q S rest a w) : TreeWp P l.toArray Q S (.one i σ .none rest) a w := by
 have ho' : l.toArray[i]? = some o := by simpa using ho
 refine ⟨?_, hr⟩
 simp only [wpOp, ho', Tree.isNone, if_true]
 simp only [wpList] at h
 exact h
/-- A way that parts anew. -/
theorem Tree.part {i : Nat} {o : Oper} {σ : List (Bool × Nat)} {rest : Tree} {i2 : Nat} {s2 : List (Bool × Nat)} {a2 b2 : Tree} {a : Act} {w : World} (ho : l[i]? = some o)
 (h : wpList P l.toArray (Exit.then (fun a' w' => S w' ∧ FlowS P l.toArray (NoPanic (withK (TreeWp P l.toArray Q S (.one i2 s2 a2 b2)) Q)) S σ a' w') (NoPanic Q)) [o] a w) (hr : TreeWp P l.toArray Q S rest a w) : TreeWp P l.toArray Q S (.one i σ (.one i2 s2 a2 b2) rest) a w := by
 have ho' : l.toArray[i]? = some o := by simpa using ho
 refine ⟨?_, hr⟩
 simp only [wpOp, ho', Tree.isNone, Bool.false_eq_true, if_false]
 simp only [wpList] at h
 exact h
end

end Go.Proofs.YthobmednnocklaaGreatDoor
