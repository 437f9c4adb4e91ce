/- slices.SortStableFunc at []api.Match, told as a plain function of the row: stable; the comparers. -/
import Derived.Test.YtjelhdpcaileiaaDoorU0
import Derived.Shelf.SlSortCmp.WholeK
import Derived.Deep.LoopGhost

namespace Go.Proofs.YtjelhdpcaileiaaDoor
open Go.RowKit Go.Shelf Go.Lib Go.Sort Go.Proofs

/-- A match: a text and a distance that may be subtracted. -/
structure Mt where
  t : List UInt8
  d : Int
  lo : -4611686018427387904 ≤ d
  hi : d ≤ 4611686018427387903
instance : Inhabited Mt := ⟨⟨[], 0, by decide, by decide⟩⟩
def encM (m : Mt) : List Value := [.string ⟨m.t.toArray⟩, .int .i64 m.d]
def swapLoop (a b n : Nat) : Nat → Nat → Array Mt → Array Mt
  | 0, _, d => d
  | f + 1, i, d => if i < n then swapLoop a b n f (i + 1) (swp d (a + i) (b + i)) else d
theorem swapLoop_end (a b n : Nat) : ∀ (f i : Nat) (d : Array Mt), ¬ i < n → swapLoop a b n f i d = d
  | 0, _, _, _ => rfl
  | f + 1, i, d, h => by rw [swapLoop, if_neg h]
theorem swapLoop_size (a b n : Nat) : ∀ (f i : Nat) (d : Array Mt), (swapLoop a b n f i d).size = d.size
  | 0, _, _ => rfl
  | f + 1, i, d => by
    rw [swapLoop]
    split
    · rw [swapLoop_size, size_swp]
    · rfl
def swapRangeP (d : Array Mt) (a b n : Nat) : Array Mt := swapLoop a b n (n + 1) 0 d
theorem swapRangeP_size (d : Array Mt) (a b n : Nat) : (swapRangeP d a b n).size = d.size := swapLoop_size _ _ _ _ _ _
set_option maxHeartbeats 4000000 in
set_option maxRecDepth 1000000 in
theorem swapRange_any (k : Nat) (zE : ∀ w, (Go.sizeOf 81).run Tryd.prog w = .ok k w) (g : Nat) (cb : Array Value) (blk cap a b n : Nat) (d0 d : Array Mt) (w0 w : World)
    (R : RowK encM k w0 blk 0 d0) (hs : d0.size = d.size) (S : SWK encM k w0 blk 0 d w) (ha : a + n ≤ d.size) (hb : b + n ≤ d.size) (hsz : d.size < 4611686018427387904) :
    Calls Tryd.prog 249 #[.slice (some ⟨blk, 0, none⟩) d.size cap, .int .i64 a, .int .i64 b, .int .i64 n, .func (.func g) #[] cb] w fun e w' => e = .returned (.tuple #[]) ∧ SWK encM k w0 blk 0 (swapRangeP d a b n) w' := by
  have S0 : Aside (SWK encM k w0 blk 0 d w) := S
  clear S
  go_enter Tryd.func249, Tryd.ntmps249
  go_wp2_with fail
  go_loopw [10] (fun s10 wr => ∃ (i f : Nat) (dk : Array Mt), i ≤ n ∧ s10 = .int .i64 (i : Int) ∧ n < i + f ∧ dk.size = d.size ∧ Aside (SWK encM k w0 blk 0 dk wr) ∧ swapLoop a b n f i dk = swapRangeP d a b n) (fun v _ => n - (RowKit.intOf v).toNat)
  case atStart => exact ⟨0, n + 1, d, Nat.zero_le _, rfl, by omega, rfl, S0, rfl⟩
  case round =>
    clear S0
    rename World => wr
    obtain ⟨i, f, dk, hi, rfl, hf, hds, S1, heq⟩ := hrel
    by_cases hlt : i < n
    · obtain ⟨f, rfl⟩ : ∃ f', f = f' + 1 := ⟨f - 1, by omega⟩
      have S2 : Aside (SWK encM k w0 blk 0 (swp dk (a + i) (b + i)) ((wr.drew.setCells blk (0 + (a + i) * k) (encM dk[b + i]!)).setCells blk (0 + (b + i) * k) (encM dk[a + i]!))) := S1.out.swapped R (a + i) (b + i) (by omega) (by omega)
      have l44a := S1.out.ld1 R (by omega) Tryd.prog (a + i) (by omega)
      have l44b := S1.out.ld1 R (by omega) Tryd.prog (b + i) (by omega)
      have s44a := S1.out.st1 R (by omega) Tryd.prog (a + i) (by omega) dk[b + i]!
      have s44b := S1.out.st2 R (by omega) Tryd.prog (a + i) (b + i) (by omega) (by omega) dk[b + i]! dk[a + i]!
      have n44a : (encM dk[a + i]!).length = k := R.hk _
      have n44b : (encM dk[b + i]!).length = k := R.hk _
      simp only [Nat.zero_add] at S2 l44a l44b s44a s44b
      have ea44 : ((a : Int) + (i : Int)).toNat = a + i := by omega
      have pa44 : (0 : Int) ≤ (a : Int) + (i : Int) := by omega
      have ba44 : (a : Int) + (i : Int) < (d.size : Int) := by omega
      have ra44 : IntKind.i64.wrap ((a : Int) + (i : Int)) = (a : Int) + (i : Int) := by rw [IntKind.wrap_i64]; omega
      have ec44 : ((b : Int) + (i : Int)).toNat = b + i := by omega
      have pc44 : (0 : Int) ≤ (b : Int) + (i : Int) := by omega
      have bc44 : (b : Int) + (i : Int) < (d.size : Int) := by omega
      have rc44 : IntKind.i64.wrap ((b : Int) + (i : Int)) = (b : Int) + (i : Int) := by rw [IntKind.wrap_i64]; omega
      have mixed : Tryd.prog.follows Departure.mixedOrders = true := by kernel_rfl
      have aE := Tryd.isAgg81
      generalize encM dk[a + i]! = cI44 at S2 l44a s44b n44a
      generalize encM dk[b + i]! = cJ44 at S2 l44b s44a s44b n44b
      clear S1
      go_upto_region 3 with fail
      go_big_region_o
      clear l44a l44b s44a s44b
      generalize (wr.drew.setCells blk ((a + i) * k) cJ44).setCells blk ((b + i) * k) cI44 = w2 at S2 ⊢
      go_wp2_with fail
      rw [swapLoop, if_pos hlt] at heq
      exact ⟨⟨i + 1, f, swp dk (a + i) (b + i), by omega, by go_num, by omega, by rw [size_swp]; exact hds, S2, heq⟩, by simp [RowKit.intOf] <;> omega⟩
    · have hdn : dk = swapRangeP d a b n := by rw [← heq, swapLoop_end _ _ _ _ _ _ hlt]
      clear heq
      go_wp2_with fail
      go_end0
      exact ⟨rfl, by rw [← hdn]; exact S1.out⟩

/-- rotate: the loop. -/
def rotF (m : Nat) : Nat → Nat → Nat → Array Mt → Array Mt
  | 0, _, _, d => d
  | f + 1, i, j, d => if i = j then swapRangeP d (m - i) m i else if j < i then rotF m f (i - j) j (swapRangeP d (m - i) m j) else rotF m f i (j - i) (swapRangeP d (m - i) (m + j - i) i)
def rotateP (d : Array Mt) (a m b : Nat) : Array Mt := rotF m (b - a + 1) (m - a) (b - m) d
theorem rotF_size (m : Nat) : ∀ (f i j : Nat) (d : Array Mt), (rotF m f i j d).size = d.size
  | 0, _, _, _ => rfl
  | f + 1, i, j, d => by
    rw [rotF]
    split
    · exact swapRangeP_size _ _ _ _
    · split
      · rw [rotF_size, swapRangeP_size]
      · rw [rotF_size, swapRangeP_size]
theorem rotateP_size (d : Array Mt) (a m b : Nat) : (rotateP d a m b).size = d.size := rotF_size _ _ _ _ _
set_option maxHeartbeats 4000000 in
set_option maxRecDepth 1000000 in
theorem rotate_any (k : Nat) (zE : ∀ w, (Go.sizeOf 81).run Tryd.prog w = .ok k w) (g : Nat) (cb : Array Value) (blk cap a m b : Nat) (d0 d : Array Mt) (w0 w : World)
    (R : RowK encM k w0 blk 0 d0) (hs : d0.size = d.size) (S : SWK encM k w0 blk 0 d w) (ham : a < m) (hmb : m < b) (hb : b ≤ d.size) (hsz : d.size < 4611686018427387904) :
    Calls Tryd.prog 240 #[.slice (some ⟨blk, 0, none⟩) d.size cap, .int .i64 a, .int .i64 m, .int .i64 b, .func (.func g) #[] cb] w fun e w' => e = .returned (.tuple #[]) ∧ SWK encM k w0 blk 0 (rotateP d a m b) w' := by
  have S0 : Aside (SWK encM k w0 blk 0 d w) := S
  have ZE := Lib.hid zE
  clear S zE
  obtain ⟨i0, hi0⟩ : ∃ i, i = m - a := ⟨_, rfl⟩
  obtain ⟨j0, hj0⟩ : ∃ j, j = b - m := ⟨_, rfl⟩
  have hiI : (m : Int) - (a : Int) = (i0 : Int) := by omega
  have hjI : (b : Int) - (m : Int) = (j0 : Int) := by omega
  have hi0s : i0 ≤ d.size := by omega
  have hj0s : j0 ≤ d.size := by omega
  have HI := Lib.hid hi0; have HJ := Lib.hid hj0
  clear hi0 hj0
  go_enter Tryd.func240, Tryd.ntmps240
  go_wp2_with fail
  clear hiI hjI
  go_loopw [10, 11] (fun s10 s11 wr => ∃ (i j f : Nat) (dk : Array Mt), s10 = .int .i64 (i : Int) ∧ s11 = .int .i64 (j : Int) ∧ 1 ≤ i ∧ 1 ≤ j ∧ i ≤ m ∧ m + j ≤ d.size ∧ i + j < f + 1 ∧ 1 ≤ f ∧ dk.size = d.size ∧ Aside (SWK encM k w0 blk 0 dk wr) ∧ rotF m f i j dk = rotateP d a m b) (fun u v _ => (RowKit.intOf u).toNat + (RowKit.intOf v).toNat)
  case atStart => exact ⟨i0, j0, b - a + 1, d, rfl, rfl, by have := HI.out; omega, by have := HJ.out; omega, by have := HI.out; omega, by have := HJ.out; omega, by have := HI.out; have := HJ.out; omega, by omega, rfl, S0, by rw [HI.out, HJ.out]; rfl⟩
  case round =>
    clear S0
    rename World => wr
    obtain ⟨i, j, f, dk, rfl, rfl, hi1, hj1, him, hmj, hf, hf1, hds, S1, heq⟩ := hrel
    obtain ⟨f, rfl⟩ : ∃ f', f = f' + 1 := ⟨f - 1, by omega⟩
    rw [rotF] at heq
    have hmi : (m : Int) - (i : Int) = ((m - i : Nat) : Int) := by omega
    obtain ⟨q, hq⟩ : ∃ q, q = m - i := ⟨_, rfl⟩
    rw [← hq] at hmi
    have hqs : q ≤ d.size := by omega
    rw [← hq] at heq
    have HQ := Lib.hid hq
    clear hq
    by_cases hij : i = j
    · rw [if_pos hij] at heq
      have hqb : ((i : Int) == (j : Int)) = true := by rw [beq_iff_eq]; omega
      have hc := swapRange_any k ZE.out g cb blk cap q m i d0 dk w0 wr R (by omega) S1.out (by have := HQ.out; omega) (by omega) (by omega)
      rw [hds] at hc
      have Hc := Lib.hid hc; have HE := Lib.hid heq
      subst hij
      clear hc heq S1
      go_wp2_with fail
      refine Hc.out.mono ?_
      rintro e w5 ⟨rfl, S5⟩
      go_wp2_with fail
      go_end0
      exact ⟨rfl, by rw [← HE.out]; exact S5⟩
    · rw [if_neg hij] at heq
      have hqb : ((i : Int) == (j : Int)) = false := by rw [beq_eq_false_iff_ne]; omega
      have hijI : ¬ ((i : Int) = (j : Int)) := by omega
      by_cases hlt : j < i
      · rw [if_pos hlt] at heq
        have hltI : (j : Int) < (i : Int) := by omega
        have hc := swapRange_any k ZE.out g cb blk cap q m j d0 dk w0 wr R (by omega) S1.out (by have := HQ.out; omega) (by omega) (by omega)
        rw [hds] at hc
        have Hc := Lib.hid hc; have HE := Lib.hid heq
        clear hc heq S1
        go_wp2_with fail
        refine Hc.out.mono ?_
        rintro e w5 ⟨rfl, S5⟩
        have S6 : Aside (SWK encM k w0 blk 0 (swapRangeP dk q m j) w5) := S5
        clear S5 Hc
        have hsub : (i : Int) - (j : Int) = ((i - j : Nat) : Int) := by omega
        obtain ⟨p, hp⟩ : ∃ p, p = i - j := ⟨_, rfl⟩
        rw [← hp] at hsub
        have hps : p ≤ d.size := by omega
        have HP := Lib.hid hp
        clear hp
        go_wp2_with fail
        exact ⟨⟨p, j, f, _, rfl, rfl, by have := HP.out; omega, hj1, by have := HP.out; omega, hmj, by have := HP.out; omega, by omega, by rw [swapRangeP_size]; exact hds, S6, by rw [HP.out]; exact HE.out⟩, by have := HP.out; simp [RowKit.intOf] <;> omega⟩
      · rw [if_neg hlt] at heq
        have hltI : ¬ ((j : Int) < (i : Int)) := by omega
        have hij2 : i < j := by omega
        obtain ⟨p, hp⟩ : ∃ p, p = m + j - i := ⟨_, rfl⟩
        rw [← hp] at heq
        have hpI : (m : Int) + (j : Int) - (i : Int) = (p : Int) := by omega
        have hps : p ≤ d.size := by omega
        have hc := swapRange_any k ZE.out g cb blk cap q p i d0 dk w0 wr R (by omega) S1.out (by have := HQ.out; omega) (by omega) (by omega)
        rw [hds] at hc
        have Hc := Lib.hid hc; have HE := Lib.hid heq; have HP := Lib.hid hp
        clear hc heq S1 hp
        go_wp2_with fail
        refine Hc.out.mono ?_
        rintro e w5 ⟨rfl, S5⟩
        have S6 : Aside (SWK encM k w0 blk 0 (swapRangeP dk q p i) w5) := S5
        clear S5 Hc hpI
        have hsub : (j : Int) - (i : Int) = ((j - i : Nat) : Int) := by omega
        obtain ⟨r, hr⟩ : ∃ r, r = j - i := ⟨_, rfl⟩
        rw [← hr] at hsub
        have hrs : r ≤ d.size := by omega
        have HR := Lib.hid hr
        clear hr
        go_wp2_with fail
        exact ⟨⟨i, r, f, _, rfl, rfl, hi1, by have := HR.out; omega, him, by have := HR.out; omega, by have := HR.out; omega, by omega, by rw [swapRangeP_size]; exact hds, S6, by rw [HR.out]; exact HE.out⟩, by have := HR.out; simp [RowKit.intOf] <;> omega⟩

end Go.Proofs.YtjelhdpcaileiaaDoor


/-! slices.SortStableFunc at []api.Match, told as a plain function of the row: symMerge. -/
namespace Go.Proofs.YtjelhdpcaileiaaDoor
open Go.RowKit Go.Shelf Go.Lib Go.Sort Go.Proofs

/-- The binary search. -/
def bsF (p : Nat → Bool) : Nat → Nat → Nat → Nat
  | 0, i, _ => i
  | f + 1, i, j => if i < j then (if p ((i + j) / 2) = true then bsF p f ((i + j) / 2 + 1) j else bsF p f i ((i + j) / 2)) else i
theorem bsF_end (p : Nat → Bool) : ∀ (f i j : Nat), ¬ i < j → bsF p f i j = i
  | 0, _, _, _ => rfl
  | f + 1, i, j, h => by rw [bsF, if_neg h]
theorem bsF_in (p : Nat → Bool) : ∀ (f i j : Nat), i ≤ j → i ≤ bsF p f i j ∧ bsF p f i j ≤ j
  | 0, i, j, h => ⟨Nat.le_refl _, h⟩
  | f + 1, i, j, h => by
    rw [bsF]
    split
    · split
      · have := bsF_in p f ((i + j) / 2 + 1) j (by omega)
        omega
      · have := bsF_in p f i ((i + j) / 2) (by omega)
        omega
    · omega
def upF : Nat → Nat → Nat → Array Mt → Array Mt
  | 0, _, _, d => d
  | f + 1, k, e, d => if k + 1 < e then upF f (k + 1) e (swp d k (k + 1)) else d
def dnF : Nat → Nat → Nat → Array Mt → Array Mt
  | 0, _, _, d => d
  | f + 1, k, e, d => if e < k then dnF f (k - 1) e (swp d k (k - 1)) else d
theorem upF_end : ∀ (f k e : Nat) (d : Array Mt), ¬ k + 1 < e → upF f k e d = d
  | 0, _, _, _, _ => rfl
  | f + 1, k, e, d, h => by rw [upF, if_neg h]
theorem dnF_end : ∀ (f k e : Nat) (d : Array Mt), ¬ e < k → dnF f k e d = d
  | 0, _, _, _, _ => rfl
  | f + 1, k, e, d, h => by rw [dnF, if_neg h]
theorem upF_size : ∀ (f k e : Nat) (d : Array Mt), (upF f k e d).size = d.size
  | 0, _, _, _ => rfl
  | f + 1, k, e, d => by
    rw [upF]
    split
    · rw [upF_size, size_swp]
    · rfl
theorem dnF_size : ∀ (f k e : Nat) (d : Array Mt), (dnF f k e d).size = d.size
  | 0, _, _, _ => rfl
  | f + 1, k, e, d => by
    rw [dnF]
    split
    · rw [dnF_size, size_swp]
    · rfl
def cutS (lt : Mt → Mt → Bool) (d : Array Mt) (a m b : Nat) : Nat :=
  let mid := (a + b) / 2
  let n := mid + m
  let s := if mid < m then n - b else a
  let r := if mid < m then mid else m
  bsF (fun c => !lt d[n - 1 - c]! d[c]!) (d.size + 1) s r
def symF (lt : Mt → Mt → Bool) : Nat → Array Mt → Nat → Nat → Nat → Array Mt
  | 0, d, _, _, _ => d
  | F + 1, d, a, m, b =>
    if m - a = 1 then upF (d.size + 1) a (bsF (fun h => lt d[h]! d[a]!) (d.size + 1) m b) d
    else if b - m = 1 then dnF (d.size + 1) m (bsF (fun h => !lt d[m]! d[h]!) (d.size + 1) a m) d
    else
      let mid := (a + b) / 2
      let s := cutS lt d a m b
      let e := mid + m - s
      let d1 := if s < m ∧ m < e then rotateP d s m e else d
      let d2 := if a < s ∧ s < mid then symF lt F d1 a s mid else d1
      if mid < e ∧ e < b then symF lt F d2 mid e b else d2
theorem symF_size (lt : Mt → Mt → Bool) : ∀ (F : Nat) (d : Array Mt) (a m b : Nat), (symF lt F d a m b).size = d.size
  | 0, _, _, _, _ => rfl
  | F + 1, d, a, m, b => by
    rw [symF]
    split
    · rw [upF_size]
    · split
      · rw [dnF_size]
      · have h1 : ∀ c : Prop, [Decidable c] → ∀ x, x.size = d.size → ∀ y, y.size = d.size → (if c then x else y : Array Mt).size = d.size := fun c _ x hx y hy => by split; exact hx; exact hy
        have e1 := h1 (cutS lt d a m b < m ∧ m < (a + b) / 2 + m - cutS lt d a m b) (rotateP d (cutS lt d a m b) m ((a + b) / 2 + m - cutS lt d a m b)) (rotateP_size _ _ _ _) d rfl
        have e2 := h1 (a < cutS lt d a m b ∧ cutS lt d a m b < (a + b) / 2) (symF lt F _ a (cutS lt d a m b) ((a + b) / 2)) ((symF_size lt F _ _ _ _).trans e1) _ e1
        exact h1 _ _ ((symF_size lt F _ _ _ _).trans e2) _ e2
set_option maxHeartbeats 16000000 in
set_option maxRecDepth 1000000 in
theorem symMerge_any (k : Nat) (zE : ∀ w, (Go.sizeOf 81).run Tryd.prog w = .ok k w) (cf : Mt → Mt → Int) (g : Nat) (cb : Array Value) (blk cap : Nat) (d0 : Array Mt) (w0 : World)
    (eg : ∀ args w, (callFunc g args).run Tryd.prog w = .ok (.enter g args) w) (hcmp : CmpLays Tryd.prog g cb encM k cf blk 0 d0.size w0) (R : RowK encM k w0 blk 0 d0) (hsz : d0.size < 4611686018427387904) : ∀ (F a m b : Nat) (d : Array Mt) (w : World), d0.size = d.size → SWK encM k w0 blk 0 d w → a < m → m < b → b ≤ d.size → b - a ≤ F →
    Calls Tryd.prog 213 #[.slice (some ⟨blk, 0, none⟩) d.size cap, .int .i64 a, .int .i64 m, .int .i64 b, .func (.func g) #[] cb] w fun e w' => e = .returned (.tuple #[]) ∧ SWK encM k w0 blk 0 (symF (ltOf cf) F d a m b) w' := by
  have HC : Aside _ := hcmp
  have ZE := Lib.hid zE
  clear hcmp zE
  intro F
  induction F with
  | zero => intro a m b d w hs S ham hmb hb hF; omega
  | succ F ih =>
    intro a m b d w hs S ham hmb hb hF
    have S0 : Aside (SWK encM k w0 blk 0 d w) := S
    have IH := Lib.hid ih
    have HF := Lib.hid hF
    clear S ih hF
    have mixed : Tryd.prog.follows Departure.mixedOrders = true := by kernel_rfl
    have aE := Tryd.isAgg81
    have zE := ZE.out
    go_enter Tryd.func213, Tryd.ntmps213
    by_cases h1 : m - a = 1
    · have HE := Lib.hid (show symF (ltOf cf) (F + 1) d a m b = upF (d.size + 1) a (bsF (fun h => ltOf cf d[h]! d[a]!) (d.size + 1) m b) d by rw [symF, if_pos h1])
      have h1b : ((m : Int) - (a : Int) == 1) = true := by rw [beq_iff_eq]; omega
      have h1I : (m : Int) - (a : Int) = 1 := by omega
      go_wp2_with fail
      clear h1b h1I
      go_loopw [10, 11] (fun s10 s11 wr => ∃ (i j f : Nat), s10 = .int .i64 (i : Int) ∧ s11 = .int .i64 (j : Int) ∧ m ≤ i ∧ i ≤ j ∧ j ≤ b ∧ j - i < f ∧ Aside (SWK encM k w0 blk 0 d wr) ∧ bsF (fun h => ltOf cf d[h]! d[a]!) f i j = bsF (fun h => ltOf cf d[h]! d[a]!) (d.size + 1) m b) (fun u v _ => (RowKit.intOf v).toNat - (RowKit.intOf u).toNat)
      case atStart => exact ⟨m, b, d.size + 1, rfl, rfl, by omega, by omega, by omega, by omega, S0, rfl⟩
      case round =>
        clear S0
        rename World => wr
        obtain ⟨i, j, f, rfl, rfl, hmi, hij, hjb, hf, S1, heq⟩ := hrel
        by_cases hlt : i < j
        · obtain ⟨f, rfl⟩ : ∃ f', f = f' + 1 := ⟨f - 1, by omega⟩
          rw [bsF, if_pos hlt] at heq
          obtain ⟨h, hh⟩ : ∃ h, h = (i + j) / 2 := ⟨_, rfl⟩
          rw [← hh] at heq
          have hhI : ((i : Int) + (j : Int)) / 2 = (h : Int) := by omega
          have hhj : h < j := by omega
          have hih : i ≤ h := by omega
          have hltI : (i : Int) < (j : Int) := by omega
          clear hh
          cases hL : ltOf cf d[h]! d[a]! with
          | true =>
            have HEq := Lib.hid (show bsF (fun h => ltOf cf d[h]! d[a]!) f (h + 1) j = bsF (fun h => ltOf cf d[h]! d[a]!) (d.size + 1) m b by
              have he := heq
              simp only [hL] at he
              exact he)
            clear heq
            go_upto_region 5 with fail
            have ea5 : ((h : Int)).toNat = h := by omega
            have pa5 : (0 : Int) ≤ (h : Int) := by omega
            have ba5 : (h : Int) < (d.size : Int) := by omega
            have ra5 : IntKind.i64.wrap ((h : Int)) = (h : Int) := by rw [IntKind.wrap_i64]; omega
            have ec5 : ((a : Int)).toNat = a := by omega
            have pc5 : (0 : Int) ≤ (a : Int) := by omega
            have bc5 : (a : Int) < (d.size : Int) := by omega
            have rc5 : IntKind.i64.wrap ((a : Int)) = (a : Int) := by rw [IntKind.wrap_i64]; omega
            obtain ⟨x5, hx5⟩ : ∃ x, x = d[h]! := ⟨_, rfl⟩
            obtain ⟨y5, hy5⟩ : ∃ x, x = d[a]! := ⟨_, rfl⟩
            have l5a := S1.out.ld R (by omega) Tryd.prog (h) (by omega)
            have l5b := S1.out.ld R (by omega) Tryd.prog (a) (by omega)
            rw [← hx5] at l5a
            rw [← hy5] at l5b
            simp only [Nat.zero_add] at l5a l5b
            have hc5 := S1.out.cmp HC.out (by omega) x5 y5
            have hv5 : cf x5 y5 < 0 := by rw [hx5, hy5]; exact of_decide_eq_true hL
            have hd5 : decide (cf x5 y5 < 0) = true := decide_eq_true hv5
            clear hx5 hy5
            go_wp2_with fail
            go_quiet_grown (first | (go_at_fn g; refine Calls.grown_of (hc5 _ _)))
            have S2 : Aside (SWK encM k w0 blk 0 d (grow (wr.drewN nq) osq)) := S1.out.grown nq osq
            clear l5a l5b hc5 S1
            generalize grow (wr.drewN nq) osq = w2 at S2 ⊢
            clear nq osq
            go_wp2_with fail
            exact ⟨⟨h + 1, j, f, by first | rfl | go_num, by first | rfl | go_num, by omega, by omega, by omega, by omega, S2, HEq.out⟩, by simp [RowKit.intOf] <;> omega⟩
          | false =>
            have HEq := Lib.hid (show bsF (fun h => ltOf cf d[h]! d[a]!) f i h = bsF (fun h => ltOf cf d[h]! d[a]!) (d.size + 1) m b by
              have he := heq
              simp only [hL] at he
              exact he)
            clear heq
            go_upto_region 5 with fail
            have ea5 : ((h : Int)).toNat = h := by omega
            have pa5 : (0 : Int) ≤ (h : Int) := by omega
            have ba5 : (h : Int) < (d.size : Int) := by omega
            have ra5 : IntKind.i64.wrap ((h : Int)) = (h : Int) := by rw [IntKind.wrap_i64]; omega
            have ec5 : ((a : Int)).toNat = a := by omega
            have pc5 : (0 : Int) ≤ (a : Int) := by omega
            have bc5 : (a : Int) < (d.size : Int) := by omega
            have rc5 : IntKind.i64.wrap ((a : Int)) = (a : Int) := by rw [IntKind.wrap_i64]; omega
            obtain ⟨x5, hx5⟩ : ∃ x, x = d[h]! := ⟨_, rfl⟩
            obtain ⟨y5, hy5⟩ : ∃ x, x = d[a]! := ⟨_, rfl⟩
            have l5a := S1.out.ld R (by omega) Tryd.prog (h) (by omega)
            have l5b := S1.out.ld R (by omega) Tryd.prog (a) (by omega)
            rw [← hx5] at l5a
            rw [← hy5] at l5b
            simp only [Nat.zero_add] at l5a l5b
            have hc5 := S1.out.cmp HC.out (by omega) x5 y5
            have hv5 : ¬ cf x5 y5 < 0 := by rw [hx5, hy5]; exact of_decide_eq_false hL
            have hd5 : decide (cf x5 y5 < 0) = false := decide_eq_false hv5
            clear hx5 hy5
            go_wp2_with fail
            go_quiet_grown (first | (go_at_fn g; refine Calls.grown_of (hc5 _ _)))
            have S2 : Aside (SWK encM k w0 blk 0 d (grow (wr.drewN nq) osq)) := S1.out.grown nq osq
            clear l5a l5b hc5 S1
            generalize grow (wr.drewN nq) osq = w2 at S2 ⊢
            clear nq osq
            go_wp2_with fail
            exact ⟨⟨i, h, f, by first | rfl | go_num, by first | rfl | go_num, by omega, by omega, by omega, by omega, S2, HEq.out⟩, by simp [RowKit.intOf] <;> omega⟩
        · obtain rfl : i = j := by omega
          rw [bsF_end _ _ _ _ hlt] at heq
          rw [← heq] at HE
          have S3 : Aside (SWK encM k w0 blk 0 d wr) := S1
          clear S1 heq hf
          have hi1 : (i : Int) - 1 = ((i - 1 : Nat) : Int) := by omega
          obtain ⟨i1, hi1n⟩ : ∃ q, q = i - 1 := ⟨_, rfl⟩
          rw [← hi1n] at hi1
          have hi1s : i1 ≤ d.size := by omega
          go_wp2_with fail
          go_loopw [13] (fun s13 wq => ∃ (q f : Nat) (dk : Array Mt), s13 = .int .i64 (q : Int) ∧ a ≤ q ∧ q + 1 ≤ i ∧ i - q < f ∧ dk.size = d.size ∧ Aside (SWK encM k w0 blk 0 dk wq) ∧ upF f q i dk = upF (d.size + 1) a i d) (fun u _ => i - (RowKit.intOf u).toNat)
          case atStart => exact ⟨a, d.size + 1, d, rfl, Nat.le_refl _, by omega, by omega, rfl, S3, rfl⟩
          case round =>
            clear S3
            rename World => wq
            obtain ⟨q, f, dk, rfl, haq, hqi, hf, hds, S1, heq⟩ := hrel
            obtain ⟨f, rfl⟩ : ∃ f', f = f' + 1 := ⟨f - 1, by omega⟩
            by_cases hlt2 : q + 1 < i
            · rw [upF, if_pos hlt2] at heq
              have hltI2 : (q : Int) < (i1 : Int) := by omega
              have HEq := Lib.hid heq
              clear heq
              go_upto_region 11 with fail
              have ea11 : ((q : Int)).toNat = q := by omega
              have pa11 : (0 : Int) ≤ (q : Int) := by omega
              have ba11 : (q : Int) < (d.size : Int) := by omega
              have ra11 : IntKind.i64.wrap ((q : Int)) = (q : Int) := by rw [IntKind.wrap_i64]; omega
              have ec11 : ((q : Int) + 1).toNat = q + 1 := by omega
              have pc11 : (0 : Int) ≤ (q : Int) + 1 := by omega
              have bc11 : (q : Int) + 1 < (d.size : Int) := by omega
              have rc11 : IntKind.i64.wrap ((q : Int) + 1) = (q : Int) + 1 := by rw [IntKind.wrap_i64]; omega
              have S2 : Aside (SWK encM k w0 blk 0 (swp dk (q) (q + 1)) ((wq.drew.setCells blk (0 + (q) * k) (encM dk[q + 1]!)).setCells blk (0 + (q + 1) * k) (encM dk[q]!))) := S1.out.swapped R (q) (q + 1) (by omega) (by omega)
              have l11a := S1.out.ld1 R (by omega) Tryd.prog (q) (by omega)
              have l11b := S1.out.ld1 R (by omega) Tryd.prog (q + 1) (by omega)
              have s11a := S1.out.st1 R (by omega) Tryd.prog (q) (by omega) dk[q + 1]!
              have s11b := S1.out.st2 R (by omega) Tryd.prog (q) (q + 1) (by omega) (by omega) dk[q + 1]! dk[q]!
              have n11a : (encM dk[q]!).length = k := R.hk _
              have n11b : (encM dk[q + 1]!).length = k := R.hk _
              simp only [Nat.zero_add] at S2 l11a l11b s11a s11b
              generalize encM dk[q]! = cI11 at S2 l11a s11b n11a
              generalize encM dk[q + 1]! = cJ11 at S2 l11b s11a s11b n11b
              clear S1
              go_wp2_with fail
              go_big_region_o
              clear l11a l11b s11a s11b
              generalize (wq.drew.setCells blk ((q) * k) cJ11).setCells blk ((q + 1) * k) cI11 = w3 at S2 ⊢
              go_wp2_with fail
              exact ⟨⟨q + 1, f, swp dk q (q + 1), by go_num, by omega, by omega, by omega, by rw [size_swp]; exact hds, S2, HEq.out⟩, by simp [RowKit.intOf] <;> omega⟩
            · rw [upF_end _ _ _ _ hlt2] at heq
              have hltI2 : ¬ ((q : Int) < (i1 : Int)) := by omega
              go_wp2_with fail
              exact bodyPost_ret (v := .tuple #[]) (by simp [results, Tryd.results213, go_sem]) rfl ⟨rfl, by rw [HE.out, ← heq]; exact S1.out⟩
    · have h1b : ((m : Int) - (a : Int) == 1) = false := by rw [beq_eq_false_iff_ne]; omega
      have h1I : ¬ ((m : Int) - (a : Int) = 1) := by omega
      by_cases h2 : b - m = 1
      · have HE := Lib.hid (show symF (ltOf cf) (F + 1) d a m b = dnF (d.size + 1) m (bsF (fun h => !ltOf cf d[m]! d[h]!) (d.size + 1) a m) d by rw [symF, if_neg h1, if_pos h2])
        have h2b : ((b : Int) - (m : Int) == 1) = true := by rw [beq_iff_eq]; omega
        have h2I : (b : Int) - (m : Int) = 1 := by omega
        go_wp2_with fail
        clear h2b h2I h1b h1I
        go_loopw [14, 15] (fun s10 s11 wr => ∃ (i j f : Nat), s10 = .int .i64 (i : Int) ∧ s11 = .int .i64 (j : Int) ∧ a ≤ i ∧ i ≤ j ∧ j ≤ m ∧ j - i < f ∧ Aside (SWK encM k w0 blk 0 d wr) ∧ bsF (fun h => !ltOf cf d[m]! d[h]!) f i j = bsF (fun h => !ltOf cf d[m]! d[h]!) (d.size + 1) a m) (fun u v _ => (RowKit.intOf v).toNat - (RowKit.intOf u).toNat)
        case atStart => exact ⟨a, m, d.size + 1, rfl, rfl, by omega, by omega, by omega, by omega, S0, rfl⟩
        case round =>
          clear S0
          rename World => wr
          obtain ⟨i, j, f, rfl, rfl, hmi, hij, hjb, hf, S1, heq⟩ := hrel
          by_cases hlt : i < j
          · obtain ⟨f, rfl⟩ : ∃ f', f = f' + 1 := ⟨f - 1, by omega⟩
            rw [bsF, if_pos hlt] at heq
            obtain ⟨h, hh⟩ : ∃ h, h = (i + j) / 2 := ⟨_, rfl⟩
            rw [← hh] at heq
            have hhI : ((i : Int) + (j : Int)) / 2 = (h : Int) := by omega
            have hhj : h < j := by omega
            have hih : i ≤ h := by omega
            have hltI : (i : Int) < (j : Int) := by omega
            clear hh
            cases hL : ltOf cf d[m]! d[h]! with
            | true =>
              have HEq := Lib.hid (show bsF (fun h => !ltOf cf d[m]! d[h]!) f i h = bsF (fun h => !ltOf cf d[m]! d[h]!) (d.size + 1) a m by
                have he := heq
                simp only [hL] at he
                exact he)
              clear heq
              go_upto_region 17 with fail
              have ea17 : ((m : Int)).toNat = m := by omega
              have pa17 : (0 : Int) ≤ (m : Int) := by omega
              have ba17 : (m : Int) < (d.size : Int) := by omega
              have ra17 : IntKind.i64.wrap ((m : Int)) = (m : Int) := by rw [IntKind.wrap_i64]; omega
              have ec17 : ((h : Int)).toNat = h := by omega
              have pc17 : (0 : Int) ≤ (h : Int) := by omega
              have bc17 : (h : Int) < (d.size : Int) := by omega
              have rc17 : IntKind.i64.wrap ((h : Int)) = (h : Int) := by rw [IntKind.wrap_i64]; omega
              obtain ⟨x17, hx17⟩ : ∃ x, x = d[m]! := ⟨_, rfl⟩
              obtain ⟨y17, hy17⟩ : ∃ x, x = d[h]! := ⟨_, rfl⟩
              have l17a := S1.out.ld R (by omega) Tryd.prog (m) (by omega)
              have l17b := S1.out.ld R (by omega) Tryd.prog (h) (by omega)
              rw [← hx17] at l17a
              rw [← hy17] at l17b
              simp only [Nat.zero_add] at l17a l17b
              have hc17 := S1.out.cmp HC.out (by omega) x17 y17
              have hv17 : cf x17 y17 < 0 := by rw [hx17, hy17]; exact of_decide_eq_true hL
              have hd17 : decide (cf x17 y17 < 0) = true := decide_eq_true hv17
              clear hx17 hy17
              go_wp2_with fail
              go_quiet_grown (first | (go_at_fn g; refine Calls.grown_of (hc17 _ _)))
              have S2 : Aside (SWK encM k w0 blk 0 d (grow (wr.drewN nq) osq)) := S1.out.grown nq osq
              clear l17a l17b hc17 S1
              generalize grow (wr.drewN nq) osq = w2 at S2 ⊢
              clear nq osq
              go_wp2_with fail
              exact ⟨⟨i, h, f, by first | rfl | go_num, by first | rfl | go_num, by omega, by omega, by omega, by omega, S2, HEq.out⟩, by simp [RowKit.intOf] <;> omega⟩
            | false =>
              have HEq := Lib.hid (show bsF (fun h => !ltOf cf d[m]! d[h]!) f (h + 1) j = bsF (fun h => !ltOf cf d[m]! d[h]!) (d.size + 1) a m by
                have he := heq
                simp only [hL] at he
                exact he)
              clear heq
              go_upto_region 17 with fail
              have ea17 : ((m : Int)).toNat = m := by omega
              have pa17 : (0 : Int) ≤ (m : Int) := by omega
              have ba17 : (m : Int) < (d.size : Int) := by omega
              have ra17 : IntKind.i64.wrap ((m : Int)) = (m : Int) := by rw [IntKind.wrap_i64]; omega
              have ec17 : ((h : Int)).toNat = h := by omega
              have pc17 : (0 : Int) ≤ (h : Int) := by omega
              have bc17 : (h : Int) < (d.size : Int) := by omega
              have rc17 : IntKind.i64.wrap ((h : Int)) = (h : Int) := by rw [IntKind.wrap_i64]; omega
              obtain ⟨x17, hx17⟩ : ∃ x, x = d[m]! := ⟨_, rfl⟩
              obtain ⟨y17, hy17⟩ : ∃ x, x = d[h]! := ⟨_, rfl⟩
              have l17a := S1.out.ld R (by omega) Tryd.prog (m) (by omega)
              have l17b := S1.out.ld R (by omega) Tryd.prog (h) (by omega)
              rw [← hx17] at l17a
              rw [← hy17] at l17b
              simp only [Nat.zero_add] at l17a l17b
              have hc17 := S1.out.cmp HC.out (by omega) x17 y17
              have hv17 : ¬ cf x17 y17 < 0 := by rw [hx17, hy17]; exact of_decide_eq_false hL
              have hd17 : decide (cf x17 y17 < 0) = false := decide_eq_false hv17
              clear hx17 hy17
              go_wp2_with fail
              go_quiet_grown (first | (go_at_fn g; refine Calls.grown_of (hc17 _ _)))
              have S2 : Aside (SWK encM k w0 blk 0 d (grow (wr.drewN nq) osq)) := S1.out.grown nq osq
              clear l17a l17b hc17 S1
              generalize grow (wr.drewN nq) osq = w2 at S2 ⊢
              clear nq osq
              go_wp2_with fail
              exact ⟨⟨h + 1, j, f, by first | rfl | go_num, by first | rfl | go_num, by omega, by omega, by omega, by omega, S2, HEq.out⟩, by simp [RowKit.intOf] <;> omega⟩
          · obtain rfl : i = j := by omega
            rw [bsF_end _ _ _ _ hlt] at heq
            rw [← heq] at HE
            have S3 : Aside (SWK encM k w0 blk 0 d wr) := S1
            clear S1 heq hf
            go_wp2_with fail
            go_loopw [17] (fun s13 wq => ∃ (q f : Nat) (dk : Array Mt), s13 = .int .i64 (q : Int) ∧ i ≤ q ∧ q ≤ m ∧ q < f ∧ dk.size = d.size ∧ Aside (SWK encM k w0 blk 0 dk wq) ∧ dnF f q i dk = dnF (d.size + 1) m i d) (fun u _ => (RowKit.intOf u).toNat)
            case atStart => exact ⟨m, d.size + 1, d, rfl, by omega, Nat.le_refl _, by omega, rfl, S3, rfl⟩
            case round =>
              clear S3
              rename World => wq
              obtain ⟨q, f, dk, rfl, haq, hqi, hf, hds, S1, heq⟩ := hrel
              obtain ⟨f, rfl⟩ : ∃ f', f = f' + 1 := ⟨f - 1, by omega⟩
              by_cases hlt2 : i < q
              · rw [dnF, if_pos hlt2] at heq
                have hltI2 : (i : Int) < (q : Int) := by omega
                have HEq := Lib.hid heq
                clear heq
                go_upto_region 23 with fail
                have ea23 : ((q : Int)).toNat = q := by omega
                have pa23 : (0 : Int) ≤ (q : Int) := by omega
                have ba23 : (q : Int) < (d.size : Int) := by omega
                have ra23 : IntKind.i64.wrap ((q : Int)) = (q : Int) := by rw [IntKind.wrap_i64]; omega
                have ec23 : ((q : Int) - 1).toNat = q - 1 := by omega
                have pc23 : (0 : Int) ≤ (q : Int) - 1 := by omega
                have bc23 : (q : Int) - 1 < (d.size : Int) := by omega
                have rc23 : IntKind.i64.wrap ((q : Int) - 1) = (q : Int) - 1 := by rw [IntKind.wrap_i64]; omega
                have S2 : Aside (SWK encM k w0 blk 0 (swp dk (q) (q - 1)) ((wq.drew.setCells blk (0 + (q) * k) (encM dk[q - 1]!)).setCells blk (0 + (q - 1) * k) (encM dk[q]!))) := S1.out.swapped R (q) (q - 1) (by omega) (by omega)
                have l23a := S1.out.ld1 R (by omega) Tryd.prog (q) (by omega)
                have l23b := S1.out.ld1 R (by omega) Tryd.prog (q - 1) (by omega)
                have s23a := S1.out.st1 R (by omega) Tryd.prog (q) (by omega) dk[q - 1]!
                have s23b := S1.out.st2 R (by omega) Tryd.prog (q) (q - 1) (by omega) (by omega) dk[q - 1]! dk[q]!
                have n23a : (encM dk[q]!).length = k := R.hk _
                have n23b : (encM dk[q - 1]!).length = k := R.hk _
                simp only [Nat.zero_add] at S2 l23a l23b s23a s23b
                generalize encM dk[q]! = cI23 at S2 l23a s23b n23a
                generalize encM dk[q - 1]! = cJ23 at S2 l23b s23a s23b n23b
                clear S1
                go_wp2_with fail
                go_big_region_o
                clear l23a l23b s23a s23b
                generalize (wq.drew.setCells blk ((q) * k) cJ23).setCells blk ((q - 1) * k) cI23 = w3 at S2 ⊢
                go_wp2_with fail
                exact ⟨⟨q - 1, f, swp dk q (q - 1), by first | go_num | (congr 1; omega), by omega, by omega, by omega, by rw [size_swp]; exact hds, S2, HEq.out⟩, by simp [RowKit.intOf] <;> omega⟩
              · rw [dnF_end _ _ _ _ hlt2] at heq
                have hltI2 : ¬ ((i : Int) < (q : Int)) := by omega
                go_wp2_with fail
                exact bodyPost_ret (v := .tuple #[]) (by simp [results, Tryd.results213, go_sem]) rfl ⟨rfl, by rw [HE.out, ← heq]; exact S1.out⟩
      · have h2b : ((b : Int) - (m : Int) == 1) = false := by rw [beq_eq_false_iff_ne]; omega
        have h2I : ¬ ((b : Int) - (m : Int) = 1) := by omega
        obtain ⟨mid, hmid⟩ : ∃ q, q = (a + b) / 2 := ⟨_, rfl⟩
        obtain ⟨s0, hs0⟩ : ∃ q, q = if mid < m then mid + m - b else a := ⟨_, rfl⟩
        obtain ⟨r0, hr0⟩ : ∃ q, q = if mid < m then mid else m := ⟨_, rfl⟩
        obtain ⟨s, hsc⟩ : ∃ q, q = cutS (ltOf cf) d a m b := ⟨_, rfl⟩
        have hcut : s = bsF (fun c => !ltOf cf d[mid + m - 1 - c]! d[c]!) (d.size + 1) s0 r0 := by rw [hsc, hs0, hr0, hmid]; rfl
        obtain ⟨e, he⟩ : ∃ q, q = mid + m - s := ⟨_, rfl⟩
        obtain ⟨d1, hd1⟩ : ∃ q, q = if s < m ∧ m < e then rotateP d s m e else d := ⟨_, rfl⟩
        obtain ⟨d2, hd2⟩ : ∃ q, q = if a < s ∧ s < mid then symF (ltOf cf) F d1 a s mid else d1 := ⟨_, rfl⟩
        have hE : symF (ltOf cf) (F + 1) d a m b = if mid < e ∧ e < b then symF (ltOf cf) F d2 mid e b else d2 := by
          rw [symF, if_neg h1, if_neg h2, hd2, hd1, he, hsc, hmid]
        have hds1 : d1.size = d.size := by rw [hd1]; split; exact rotateP_size _ _ _ _; rfl
        have hds2 : d2.size = d.size := by rw [hd2]; split; exact (symF_size _ _ _ _ _ _).trans hds1; exact hds1
        have hb1 : s0 ≤ r0 := by rw [hs0, hr0]; split <;> omega
        have hb2 : mid + m ≤ s0 + b := by rw [hs0]; split <;> omega
        have hb3 : r0 ≤ m ∧ r0 ≤ mid := by rw [hr0]; split <;> omega
        have hb4 : a ≤ s0 := by rw [hs0]; split <;> omega
        have hsb := bsF_in (fun c => !ltOf cf d[mid + m - 1 - c]! d[c]!) (d.size + 1) s0 r0 hb1
        rw [← hcut] at hsb
        have hmb2 : a < mid ∧ mid < b := by omega
        have HBm := Lib.hid (show mid < m → b ≤ mid + m from fun h => by omega)
        have hmidI : ((a : Int) + (b : Int)) / 2 = (mid : Int) := by omega
        have HS0 := Lib.hid hs0; have HR0 := Lib.hid hr0; have HCut := Lib.hid hcut; have HEe := Lib.hid he; have HD1 := Lib.hid hd1; have HD2 := Lib.hid hd2; have HE := Lib.hid hE
        clear hs0 hr0 hcut hsc he hd1 hd2 hE hmid
        go_upto_if 140 with fail
        clear h1b h1I h2b h2I hmidI
        go_cut [20, 21] from 140 to 146 (fun s20 s21 wc => s20 = .int .i64 (s0 : Int) ∧ s21 = .int .i64 (r0 : Int) ∧ wc = w)
        case first =>
          by_cases hmm : mid < m
          · have hv1 : s0 = mid + m - b := HS0.out.trans (if_pos hmm)
            have hv2 : r0 = mid := HR0.out.trans (if_pos hmm)
            have hI : (mid : Int) < (m : Int) := by omega
            have hJ : (mid : Int) + (m : Int) - (b : Int) = (s0 : Int) := by have := HBm.out hmm; omega
            have HV2 := Lib.hid hv2
            clear hv1 hv2 hmm
            go_wp2_with fail
            go_meet
            case rel => exact ⟨rfl, by rw [HV2.out], rfl⟩
          · have hv1 : s0 = a := HS0.out.trans (if_neg hmm)
            have hv2 : r0 = m := HR0.out.trans (if_neg hmm)
            have hI : ¬ ((mid : Int) < (m : Int)) := by omega
            have HV1 := Lib.hid hv1; have HV2 := Lib.hid hv2
            clear hv1 hv2 hmm
            go_wp2_with fail
            go_meet
            case rel => exact ⟨by rw [HV1.out], by rw [HV2.out], rfl⟩
        case rest =>
          obtain ⟨rfl, rfl, rfl⟩ := hcut
          go_wp2_with fail
          go_loopw [20, 21] (fun s10 s11 wr => ∃ (i j f : Nat), s10 = .int .i64 (i : Int) ∧ s11 = .int .i64 (j : Int) ∧ s0 ≤ i ∧ i ≤ j ∧ j ≤ r0 ∧ j - i < f ∧ Aside (SWK encM k w0 blk 0 d wr) ∧ bsF (fun c => !ltOf cf d[mid + m - 1 - c]! d[c]!) f i j = bsF (fun c => !ltOf cf d[mid + m - 1 - c]! d[c]!) (d.size + 1) s0 r0) (fun u v _ => (RowKit.intOf v).toNat - (RowKit.intOf u).toNat)
          case atStart => exact ⟨s0, r0, d.size + 1, rfl, rfl, by omega, by omega, by omega, by omega, S0, rfl⟩
          case round =>
            clear S0
            rename World => wr
            obtain ⟨i, j, f, rfl, rfl, hmi, hij, hjb, hf, S1, heq⟩ := hrel
            by_cases hlt : i < j
            · obtain ⟨f, rfl⟩ : ∃ f', f = f' + 1 := ⟨f - 1, by omega⟩
              rw [bsF, if_pos hlt] at heq
              obtain ⟨h, hh⟩ : ∃ h, h = (i + j) / 2 := ⟨_, rfl⟩
              rw [← hh] at heq
              have hhI : ((i : Int) + (j : Int)) / 2 = (h : Int) := by omega
              have hhj : h < j := by omega
              have hih : i ≤ h := by omega
              have hltI : (i : Int) < (j : Int) := by omega
              clear hh
              obtain ⟨xp, hx⟩ : ∃ x, x = mid + m - 1 - h := ⟨_, rfl⟩
              have hxI : (mid : Int) + (m : Int) - 1 - (h : Int) = (xp : Int) := by omega
              have hxs : xp < d.size := by omega
              have HX := Lib.hid hx
              clear hx
              cases hL : ltOf cf d[xp]! d[h]! with
              | true =>
                have HEq := Lib.hid (show bsF (fun c => !ltOf cf d[mid + m - 1 - c]! d[c]!) f i h = bsF (fun c => !ltOf cf d[mid + m - 1 - c]! d[c]!) (d.size + 1) s0 r0 by
                  have he := heq
                  simp only [← HX.out, hL] at he
                  exact he)
                clear heq
                go_upto_region 35 with fail
                have ea35 : ((xp : Int)).toNat = xp := by omega
                have pa35 : (0 : Int) ≤ (xp : Int) := by omega
                have ba35 : (xp : Int) < (d.size : Int) := by omega
                have ra35 : IntKind.i64.wrap ((xp : Int)) = (xp : Int) := by rw [IntKind.wrap_i64]; omega
                have ec35 : ((h : Int)).toNat = h := by omega
                have pc35 : (0 : Int) ≤ (h : Int) := by omega
                have bc35 : (h : Int) < (d.size : Int) := by omega
                have rc35 : IntKind.i64.wrap ((h : Int)) = (h : Int) := by rw [IntKind.wrap_i64]; omega
                obtain ⟨x35, hx35⟩ : ∃ x, x = d[xp]! := ⟨_, rfl⟩
                obtain ⟨y35, hy35⟩ : ∃ x, x = d[h]! := ⟨_, rfl⟩
                have l35a := S1.out.ld R (by omega) Tryd.prog (xp) (by omega)
                have l35b := S1.out.ld R (by omega) Tryd.prog (h) (by omega)
                rw [← hx35] at l35a
                rw [← hy35] at l35b
                simp only [Nat.zero_add] at l35a l35b
                have hc35 := S1.out.cmp HC.out (by omega) x35 y35
                have hv35 : cf x35 y35 < 0 := by rw [hx35, hy35]; exact of_decide_eq_true hL
                have hd35 : decide (cf x35 y35 < 0) = true := decide_eq_true hv35
                clear hx35 hy35
                go_wp2_with fail
                go_quiet_grown (first | (go_at_fn g; refine Calls.grown_of (hc35 _ _)))
                have S2 : Aside (SWK encM k w0 blk 0 d (grow (wr.drewN nq) osq)) := S1.out.grown nq osq
                clear l35a l35b hc35 S1
                generalize grow (wr.drewN nq) osq = w2 at S2 ⊢
                clear nq osq
                go_wp2_with fail
                exact ⟨⟨i, h, f, by first | rfl | go_num, by first | rfl | go_num, by omega, by omega, by omega, by omega, S2, HEq.out⟩, by simp [RowKit.intOf] <;> omega⟩
              | false =>
                have HEq := Lib.hid (show bsF (fun c => !ltOf cf d[mid + m - 1 - c]! d[c]!) f (h + 1) j = bsF (fun c => !ltOf cf d[mid + m - 1 - c]! d[c]!) (d.size + 1) s0 r0 by
                  have he := heq
                  simp only [← HX.out, hL] at he
                  exact he)
                clear heq
                go_upto_region 35 with fail
                have ea35 : ((xp : Int)).toNat = xp := by omega
                have pa35 : (0 : Int) ≤ (xp : Int) := by omega
                have ba35 : (xp : Int) < (d.size : Int) := by omega
                have ra35 : IntKind.i64.wrap ((xp : Int)) = (xp : Int) := by rw [IntKind.wrap_i64]; omega
                have ec35 : ((h : Int)).toNat = h := by omega
                have pc35 : (0 : Int) ≤ (h : Int) := by omega
                have bc35 : (h : Int) < (d.size : Int) := by omega
                have rc35 : IntKind.i64.wrap ((h : Int)) = (h : Int) := by rw [IntKind.wrap_i64]; omega
                obtain ⟨x35, hx35⟩ : ∃ x, x = d[xp]! := ⟨_, rfl⟩
                obtain ⟨y35, hy35⟩ : ∃ x, x = d[h]! := ⟨_, rfl⟩
                have l35a := S1.out.ld R (by omega) Tryd.prog (xp) (by omega)
                have l35b := S1.out.ld R (by omega) Tryd.prog (h) (by omega)
                rw [← hx35] at l35a
                rw [← hy35] at l35b
                simp only [Nat.zero_add] at l35a l35b
                have hc35 := S1.out.cmp HC.out (by omega) x35 y35
                have hv35 : ¬ cf x35 y35 < 0 := by rw [hx35, hy35]; exact of_decide_eq_false hL
                have hd35 : decide (cf x35 y35 < 0) = false := decide_eq_false hv35
                clear hx35 hy35
                go_wp2_with fail
                go_quiet_grown (first | (go_at_fn g; refine Calls.grown_of (hc35 _ _)))
                have S2 : Aside (SWK encM k w0 blk 0 d (grow (wr.drewN nq) osq)) := S1.out.grown nq osq
                clear l35a l35b hc35 S1
                generalize grow (wr.drewN nq) osq = w2 at S2 ⊢
                clear nq osq
                go_wp2_with fail
                exact ⟨⟨h + 1, j, f, by first | rfl | go_num, by first | rfl | go_num, by omega, by omega, by omega, by omega, S2, HEq.out⟩, by simp [RowKit.intOf] <;> omega⟩
            · obtain rfl : i = j := by omega
              rw [bsF_end _ _ _ _ hlt] at heq
              rw [← HCut.out] at heq
              subst heq
              have S3 : Aside (SWK encM k w0 blk 0 d wr) := S1
              have heI : (mid : Int) + (m : Int) - (i : Int) = (e : Int) := by have := HEe.out; omega
              have hes : e ≤ b := by have := HEe.out; omega
              have hes2 : e ≤ d.size := by omega
              have hme : mid + m = e + i := by have := HEe.out; omega
              have HMe := Lib.hid hme
              clear S1 hf hme
              go_upto_region 39 with fail
              clear heI
              go_cut [185] from 178 to 184 (fun s185 wc => s185 = .bool (decide (i < m ∧ m < e)) ∧ wc = wr)
              case first =>
                by_cases c1 : i < m
                · have c1I : (i : Int) < (m : Int) := by omega
                  by_cases c2 : m < e
                  · have c2I : (m : Int) < (e : Int) := by omega
                    have HD := Lib.hid (show decide (i < m ∧ m < e) = true from decide_eq_true ⟨c1, c2⟩)
                    go_wp2_with fail
                    go_meet
                    case rel => exact ⟨by rw [HD.out], rfl⟩
                  · have c2I : ¬ ((m : Int) < (e : Int)) := by omega
                    have HD := Lib.hid (show decide (i < m ∧ m < e) = false from decide_eq_false fun h => c2 h.2)
                    go_wp2_with fail
                    go_meet
                    case rel => exact ⟨by rw [HD.out], rfl⟩
                · have c1I : ¬ ((i : Int) < (m : Int)) := by omega
                  have HD := Lib.hid (show decide (i < m ∧ m < e) = false from decide_eq_false fun h => c1 h.1)
                  go_wp2_with fail
                  go_meet
                  case rel => exact ⟨by rw [HD.out], rfl⟩
              case rest =>
                obtain ⟨rfl, rfl⟩ := hcut
                go_upto_if 185 with fail
                go_cut [24] from 185 to 191 (fun s24 wc => s24 = .int .i64 (e : Int) ∧ Aside (SWK encM k w0 blk 0 d1 wc))
                case first =>
                  by_cases c : i < m ∧ m < e
                  · have hdec : decide (i < m ∧ m < e) = true := decide_eq_true c
                    have HDd := Lib.hid (HD1.out.trans (if_pos c))
                    have Hrt := Lib.hid (rotate_any k ZE.out g cb blk cap i m e d0 d w0 _ R hs S3.out c.1 c.2 hes2 (by omega))
                    obtain ⟨c1, c2⟩ := c
                    go_wp2_with fail
                    refine Hrt.out.mono ?_
                    rintro e' w5 ⟨rfl, S5⟩
                    have S6 : Aside (SWK encM k w0 blk 0 d1 w5) := by rw [HDd.out]; exact S5
                    clear S5 Hrt
                    go_wp2_with fail
                    go_meet
                    case rel => exact ⟨rfl, S6⟩
                  · have hdec : decide (i < m ∧ m < e) = false := decide_eq_false c
                    have HDd := Lib.hid (HD1.out.trans (if_neg c))
                    have S6 : Aside (SWK encM k w0 blk 0 d1 wc) := by rw [HDd.out]; exact S3
                    go_wp2_with fail
                    go_meet
                    case rel => exact ⟨rfl, S6⟩
                case rest =>
                  rename World => wd
                  obtain ⟨rfl, S4⟩ := hcut
                  clear S3
                  go_upto_region 41 with fail
                  go_cut [199] from 192 to 198 (fun s199 wc => s199 = .bool (decide (a < i ∧ i < mid)) ∧ wc = wd)
                  case first =>
                    by_cases c1 : a < i
                    · have c1I : (a : Int) < (i : Int) := by omega
                      by_cases c2 : i < mid
                      · have c2I : (i : Int) < (mid : Int) := by omega
                        have HD := Lib.hid (show decide (a < i ∧ i < mid) = true from decide_eq_true ⟨c1, c2⟩)
                        go_wp2_with fail
                        go_meet
                        case rel => exact ⟨by rw [HD.out], rfl⟩
                      · have c2I : ¬ ((i : Int) < (mid : Int)) := by omega
                        have HD := Lib.hid (show decide (a < i ∧ i < mid) = false from decide_eq_false fun h => c2 h.2)
                        go_wp2_with fail
                        go_meet
                        case rel => exact ⟨by rw [HD.out], rfl⟩
                    · have c1I : ¬ ((a : Int) < (i : Int)) := by omega
                      have HD := Lib.hid (show decide (a < i ∧ i < mid) = false from decide_eq_false fun h => c1 h.1)
                      go_wp2_with fail
                      go_meet
                      case rel => exact ⟨by rw [HD.out], rfl⟩
                  case rest =>
                    obtain ⟨rfl, rfl⟩ := hcut
                    go_upto_if 199 with fail
                    go_cut [24] from 199 to 205 (fun s24 wc => s24 = .int .i64 (e : Int) ∧ Aside (SWK encM k w0 blk 0 d2 wc))
                    case first =>
                      by_cases c : a < i ∧ i < mid
                      · have hdec : decide (a < i ∧ i < mid) = true := decide_eq_true c
                        have HDd := Lib.hid (HD2.out.trans (if_pos c))
                        have hrt := IH.out a i mid d1 _ (hs.trans hds1.symm) S4.out c.1 c.2 (by omega) (by have := HF.out; omega)
                        rw [hds1] at hrt
                        have Hrt := Lib.hid hrt
                        obtain ⟨c1, c2⟩ := c
                        clear hrt
                        go_wp2_with fail
                        refine Hrt.out.mono ?_
                        rintro e' w5 ⟨rfl, S5⟩
                        have S6 : Aside (SWK encM k w0 blk 0 d2 w5) := by rw [HDd.out]; exact S5
                        clear S5 Hrt
                        go_wp2_with fail
                        go_meet
                        case rel => exact ⟨rfl, S6⟩
                      · have hdec : decide (a < i ∧ i < mid) = false := decide_eq_false c
                        have HDd := Lib.hid (HD2.out.trans (if_neg c))
                        have S6 : Aside (SWK encM k w0 blk 0 d2 wc) := by rw [HDd.out]; exact S4
                        go_wp2_with fail
                        go_meet
                        case rel => exact ⟨rfl, S6⟩
                    case rest =>
                      rename World => we
                      obtain ⟨rfl, S7⟩ := hcut
                      clear S4
                      by_cases c1 : mid < e
                      · have c1I : (mid : Int) < (e : Int) := by omega
                        by_cases c2 : e < b
                        · have c2I : (e : Int) < (b : Int) := by omega
                          have HDd := Lib.hid (HE.out.trans (if_pos ⟨c1, c2⟩))
                          have hrt := IH.out mid e b d2 _ (hs.trans hds2.symm) S7.out c1 c2 (by omega) (by have := HF.out; omega)
                          rw [hds2] at hrt
                          have Hrt := Lib.hid hrt
                          clear hrt
                          go_wp2_with fail
                          refine Hrt.out.mono ?_
                          rintro e' w5 ⟨rfl, S5⟩
                          go_wp2_with fail
                          go_end0
                          exact ⟨rfl, by rw [HDd.out]; exact S5⟩
                        · have c2I : ¬ ((e : Int) < (b : Int)) := by omega
                          have HDd := Lib.hid (HE.out.trans (if_neg fun h => c2 h.2))
                          go_wp2_with fail
                          go_end0
                          exact ⟨rfl, by rw [HDd.out]; exact S7.out⟩
                      · have c1I : ¬ ((mid : Int) < (e : Int)) := by omega
                        have HDd := Lib.hid (HE.out.trans (if_neg fun h => c1 h.1))
                        go_wp2_with fail
                        go_end0
                        exact ⟨rfl, by rw [HDd.out]; exact S7.out⟩

end Go.Proofs.YtjelhdpcaileiaaDoor


/-! slices.SortStableFunc at []api.Match, told as a plain function of the row: stable; the comparers. -/
namespace Go.Proofs
open Go.Shelf
def Tryd.laysInsM_ren : Go.Shelf.Ren := ⟨fun | 20 => 212 | n => n, fun | 24 => 81 | 22 => 76 | 3 => 3 | 25 => 160 | 4 => 4 | 0 => 0 | n => n, fun | n => n⟩
theorem Tryd.laysInsM : Go.Proofs.SlLaysF0.n20 Tryd.prog Tryd.laysInsM_ren := {
  mixed := by kernel_rfl
  f20 := ⟨Tryd.f212.name, by decide, Tryd.func212.trans (congrArg some (by kernel_rfl))⟩
  t0 := Tryd.underlying0
  a0 := Tryd.isAgg0
  z0 := Tryd.sizeOf0
  v0 := Tryd.zeroValue0
  t3 := Tryd.underlying3
  a3 := Tryd.isAgg3
  z3 := Tryd.sizeOf3
  v3 := Tryd.zeroValue3
  t4 := Tryd.underlying4
  a4 := Tryd.isAgg4
  z4 := Tryd.sizeOf4
  v4 := Tryd.zeroValue4
  t22 := Tryd.underlying76
  a22 := Tryd.isAgg76
  z22 := Tryd.sizeOf76
  v22 := Tryd.zeroValue76
  t25 := Tryd.underlying160
  a25 := Tryd.isAgg160
  z25 := Tryd.sizeOf160
  v25 := Tryd.zeroValue160 }

end Go.Proofs
namespace Go.Proofs.YtjelhdpcaileiaaDoor
open Go.RowKit Go.Shelf Go.Lib Go.Sort Go.Proofs

/-- the blocks of 20. -/
def blkF (lt : Mt → Mt → Bool) : Nat → Nat → Array Mt → Array Mt
  | 0, _, d => d
  | f + 1, a, d => if a + 20 ≤ d.size then blkF lt f (a + 20) (Sort.insertionSort lt d a (a + 20)) else Sort.insertionSort lt d a d.size
/-- one round of merges, blocks of s. -/
def mrgF (lt : Mt → Mt → Bool) (s : Nat) : Nat → Nat → Array Mt → Array Mt
  | 0, _, d => d
  | f + 1, a, d => if a + 2 * s ≤ d.size then mrgF lt s f (a + 2 * s) (symF lt d.size d a (a + s) (a + 2 * s)) else if a + s < d.size then symF lt d.size d a (a + s) d.size else d
def stbF (lt : Mt → Mt → Bool) : Nat → Nat → Array Mt → Array Mt
  | 0, _, d => d
  | f + 1, s, d => if s < d.size then stbF lt f (s * 2) (mrgF lt s (d.size + 1) 0 d) else d
def stableP (lt : Mt → Mt → Bool) (d : Array Mt) : Array Mt := stbF lt (d.size + 1) 20 (blkF lt (d.size + 1) 0 d)
theorem ins_size {lt : Mt → Mt → Bool} (hO : SWO lt) (d : Array Mt) (a b : Nat) (hab : a ≤ b) (hb : b ≤ d.size) : (Sort.insertionSort lt d a b).size = d.size := (insertionSort_holds hO d a b hab hb).1.1
theorem blkF_size {lt : Mt → Mt → Bool} (hO : SWO lt) : ∀ (f a : Nat) (d : Array Mt), a ≤ d.size → (blkF lt f a d).size = d.size
  | 0, _, _, _ => rfl
  | f + 1, a, d, h => by
    rw [blkF]
    by_cases hc : a + 20 ≤ d.size
    · rw [if_pos hc]
      have hs := ins_size hO d a (a + 20) (by omega) hc
      rw [blkF_size hO f (a + 20) _ (by omega), hs]
    · rw [if_neg hc, ins_size hO d a d.size h (Nat.le_refl _)]
/-- Both comparers. -/
def cfM (x y : Mt) : Int := x.d - y.d
theorem swoM : SWO (ltOf cfM) := by
  unfold ltOf cfM
  constructor
  all_goals (intros; simp_all <;> omega)
theorem mrgF_size (lt : Mt → Mt → Bool) (s : Nat) : ∀ (f a : Nat) (d : Array Mt), (mrgF lt s f a d).size = d.size
  | 0, _, _ => rfl
  | f + 1, a, d => by
    rw [mrgF]
    split
    · rw [mrgF_size, symF_size]
    · split
      · rw [symF_size]
      · rfl
theorem stbF_size (lt : Mt → Mt → Bool) : ∀ (f s : Nat) (d : Array Mt), (stbF lt f s d).size = d.size
  | 0, _, _ => rfl
  | f + 1, s, d => by
    rw [stbF]
    split
    · rw [stbF_size, mrgF_size]
    · rfl

set_option maxHeartbeats 16000000 in
set_option maxRecDepth 1000000 in
theorem stable_any (k : Nat) (zE : ∀ w, (Go.sizeOf 81).run Tryd.prog w = .ok k w) (g : Nat) (cb : Array Value) (blk cap : Nat) (d : Array Mt) (w : World)
    (eg : ∀ args w, (callFunc g args).run Tryd.prog w = .ok (.enter g args) w) (hcmp : CmpLays Tryd.prog g cb encM k cfM blk 0 d.size w) (R : RowK encM k w blk 0 d) (hsz : d.size < 1000000) :
    Calls Tryd.prog 182 #[.slice (some ⟨blk, 0, none⟩) d.size cap, .int .i64 d.size, .func (.func g) #[] cb] w fun e w' => e = .returned (.tuple #[]) ∧ SWK encM k w blk 0 (stableP (ltOf cfM) d) w' := by
  have S0 : Aside (SWK encM k w blk 0 d w) := SWK.start R.hH
  obtain ⟨lt, hlt⟩ : ∃ lt, lt = ltOf cfM := ⟨_, rfl⟩
  have hO : SWO lt := hlt ▸ swoM
  have Hin := Lib.hid (fun (a b : Nat) (dk : Array Mt) (W : World) (hs : d.size = dk.size) (S : SWK encM k w blk 0 dk W) (hab : a ≤ b) (hb : b ≤ dk.size) => AnyQ.insertionSortCmpFunc_w Tryd.laysInsM k Tryd.isAgg81 zE encM cfM g cb blk 0 cap a b d dk w W eg hcmp R hs S swoM hab hb (by omega))
  have Hsy := Lib.hid (symMerge_any k zE cfM g cb blk cap d w eg hcmp R (by omega))
  rw [← hlt] at Hin Hsy ⊢
  have HO := Lib.hid hO
  clear hcmp zE hO hlt
  go_enter Tryd.func182, Tryd.ntmps182
  go_wp2_with fail
  go_loopw [7, 8] (fun s7 s8 wr => ∃ (a f : Nat) (dk : Array Mt), s7 = .int .i64 (a : Int) ∧ s8 = .int .i64 (((a + 20 : Nat)) : Int) ∧ a ≤ d.size ∧ d.size < a + f ∧ dk.size = d.size ∧ Aside (SWK encM k w blk 0 dk wr) ∧ blkF lt f a dk = blkF lt (d.size + 1) 0 d) (fun u _ _ => d.size - (RowKit.intOf u).toNat)
  case atStart => exact ⟨0, d.size + 1, d, rfl, rfl, Nat.zero_le _, by omega, rfl, S0, rfl⟩
  case round =>
    clear S0
    rename World => wr
    obtain ⟨a, f, dk, rfl, rfl, had, hf, hds, S1, heq⟩ := hrel
    obtain ⟨f, rfl⟩ : ∃ f', f = f' + 1 := ⟨f - 1, by omega⟩
    rw [blkF] at heq
    obtain ⟨b, hb⟩ : ∃ b, b = a + 20 := ⟨_, rfl⟩
    rw [← hb] at heq ⊢
    by_cases hlt : b ≤ d.size
    · rw [if_pos (by omega)] at heq
      have hltI : (b : Int) ≤ (d.size : Int) := by omega
      have hsz2 := ins_size HO.out dk a b (by omega) (by omega)
      have hc := Hin.out a b dk wr hds.symm S1.out (by omega) (by omega)
      rw [hds] at hc
      have Hc := Lib.hid hc; have HEq := Lib.hid heq; have HB := Lib.hid hb
      clear hc heq S1 hb
      go_wp2_with fail
      refine Hc.out.mono ?_
      rintro e w5 ⟨rfl, S5⟩
      have S6 : Aside (SWK encM k w blk 0 (Sort.insertionSort lt dk a b) w5) := S5
      clear S5 Hc
      go_wp2_with fail
      exact ⟨⟨b, f, _, rfl, by go_num, hlt, by have := HB.out; omega, hsz2.trans hds, S6, HEq.out⟩, by have := HB.out; simp [RowKit.intOf] <;> omega⟩
    · rw [if_neg (by omega)] at heq
      have hltI : ¬ ((b : Int) ≤ (d.size : Int)) := by omega
      have hc := Hin.out a dk.size dk wr hds.symm S1.out (by omega) (Nat.le_refl _)
      have hsz2 := ins_size HO.out dk a dk.size (by omega) (Nat.le_refl _)
      rw [hds] at hc heq hsz2
      have Hc := Lib.hid hc; have HEq := Lib.hid heq
      clear hc heq S1 hb
      go_wp2_with fail
      refine Hc.out.mono ?_
      rintro e w5 ⟨rfl, S5⟩
      have S6 : Aside (SWK encM k w blk 0 (Sort.insertionSort lt dk a d.size) w5) := S5
      clear S5 Hc
      obtain ⟨d1, hd1⟩ : ∃ x, x = Sort.insertionSort lt dk a d.size := ⟨_, rfl⟩
      rw [← hd1] at S6 HEq hsz2
      have HSt := Lib.hid (show stbF lt (d.size + 1) 20 d1 = stableP lt d by unfold stableP; rw [← HEq.out])
      have hs1 : d1.size = d.size := hsz2
      clear hd1 hsz2 HEq hds
      go_wp2_with fail
      go_loopw [6] (fun s6 wq => ∃ (s f : Nat) (dk : Array Mt), s6 = .int .i64 (s : Int) ∧ 20 ≤ s ∧ s ≤ 2000000 ∧ d.size < s + f ∧ dk.size = d.size ∧ Aside (SWK encM k w blk 0 dk wq) ∧ stbF lt f s dk = stableP lt d) (fun u _ => d.size - (RowKit.intOf u).toNat)
      case atStart => exact ⟨20, d.size + 1, d1, rfl, Nat.le_refl _, by decide, by omega, hs1, S6, HSt.out⟩
      case round =>
        clear S6
        rename World => wq
        obtain ⟨s, f2, dk2, rfl, hs20, hsb, hf2, hds2, S2, heq2⟩ := hrel
        by_cases hlt2 : s < d.size
        · obtain ⟨f2, rfl⟩ : ∃ f', f2 = f' + 1 := ⟨f2 - 1, by omega⟩
          rw [stbF, if_pos (by omega)] at heq2
          have hltI2 : (s : Int) < (d.size : Int) := by omega
          have HEq2 := Lib.hid heq2
          clear heq2
          go_wp2_with fail
          go_loopw [7, 8] (fun s7 s8 wr => ∃ (a f : Nat) (dk : Array Mt), s7 = .int .i64 (a : Int) ∧ s8 = .int .i64 (((a + 2 * s : Nat)) : Int) ∧ a ≤ d.size ∧ d.size < a + f ∧ dk.size = d.size ∧ Aside (SWK encM k w blk 0 dk wr) ∧ mrgF lt s f a dk = mrgF lt s (d.size + 1) 0 dk2) (fun u _ _ => d.size - (RowKit.intOf u).toNat)
          case atStart => exact ⟨0, d.size + 1, dk2, rfl, by go_num, Nat.zero_le _, by omega, hds2, S2, rfl⟩
          case round =>
            clear S2
            rename World => wr3
            obtain ⟨a3, f3, dk3, rfl, rfl, had3, hf3, hds3, S3, heq3⟩ := hrel
            obtain ⟨f3, rfl⟩ : ∃ f', f3 = f' + 1 := ⟨f3 - 1, by omega⟩
            rw [mrgF] at heq3
            obtain ⟨b3, hb3⟩ : ∃ b, b = a3 + 2 * s := ⟨_, rfl⟩
            rw [← hb3] at heq3 ⊢
            by_cases hlt3 : b3 ≤ d.size
            · rw [if_pos (by omega)] at heq3
              have hltI3 : (b3 : Int) ≤ (d.size : Int) := by omega
              have hc := Hsy.out d.size a3 (a3 + s) b3 dk3 wr3 hds3.symm S3.out (by omega) (by omega) (by omega) (by omega)
              rw [hds3] at hc heq3
              have hsz3 := symF_size lt d.size dk3 a3 (a3 + s) b3
              have Hc := Lib.hid hc; have HEq3 := Lib.hid heq3; have HB := Lib.hid hb3
              clear hc heq3 S3 hb3
              go_wp2_with fail
              have hadd : (a3 : Int) + (s : Int) = ((a3 + s : Nat) : Int) := by omega
              simp only [hadd]
              refine Hc.out.mono ?_
              rintro e w5 ⟨rfl, S5⟩
              have S6 : Aside (SWK encM k w blk 0 (symF lt d.size dk3 a3 (a3 + s) b3) w5) := S5
              clear S5 Hc
              go_wp2_with fail
              exact ⟨⟨b3, f3, _, rfl, by go_num, hlt3, by have := HB.out; omega, hsz3.trans hds3, S6, HEq3.out⟩, by have := HB.out; simp [RowKit.intOf] <;> omega⟩
            · rw [if_neg (by omega)] at heq3
              have hltI3 : ¬ ((b3 : Int) ≤ (d.size : Int)) := by omega
              by_cases hlt4 : a3 + s < d.size
              · rw [if_pos (by omega)] at heq3
                have hltI4 : (a3 : Int) + (s : Int) < (d.size : Int) := by omega
                have hc := Hsy.out d.size a3 (a3 + s) dk3.size dk3 wr3 hds3.symm S3.out (by omega) (by omega) (Nat.le_refl _) (by omega)
                rw [hds3] at hc heq3
                have hsz3 := symF_size lt d.size dk3 a3 (a3 + s) d.size
                have Hc := Lib.hid hc; have HEq3 := Lib.hid heq3
                clear hc heq3 S3 hb3
                go_wp2_with fail
                have hadd : (a3 : Int) + (s : Int) = ((a3 + s : Nat) : Int) := by omega
                simp only [hadd]
                refine Hc.out.mono ?_
                rintro e w5 ⟨rfl, S5⟩
                have S6 : Aside (SWK encM k w blk 0 (symF lt d.size dk3 a3 (a3 + s) d.size) w5) := S5
                clear S5 Hc
                go_wp2_with fail
                refine ⟨⟨s * 2, f2, _, by go_num, by omega, by omega, by omega, hsz3.trans hds3, S6, ?_⟩, by simp [RowKit.intOf] <;> omega⟩
                have hq := HEq2.out; rw [hds2] at hq; rw [HEq3.out]; exact hq
              · rw [if_neg (by omega)] at heq3
                have hltI4 : ¬ ((a3 : Int) + (s : Int) < (d.size : Int)) := by omega
                have HEq3 := Lib.hid heq3
                clear heq3 hb3
                go_wp2_with fail
                refine ⟨⟨s * 2, f2, _, by go_num, by omega, by omega, by omega, hds3, S3, ?_⟩, by simp [RowKit.intOf] <;> omega⟩
                have hq := HEq2.out; rw [hds2] at hq; rw [HEq3.out]; exact hq
        · have hE : dk2 = stableP lt d := by
            rw [← heq2]
            cases f2 with
            | zero => rfl
            | succ f2 => rw [stbF, if_neg (by omega)]
          have hltI2 : ¬ ((s : Int) < (d.size : Int)) := by omega
          clear heq2
          go_wp2_with fail
          go_end0
          exact ⟨rfl, by rw [← hE]; exact S2.out⟩

end Go.Proofs.YtjelhdpcaileiaaDoor
