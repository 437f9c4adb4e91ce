/- page.behind: the beginning of a page as bytes is read by the program. -/
import Derived.Test.YtdbnacjdinolcaaGreatDoorMClaimFiles12
import Derived.Test.YtdbnacjdinolcaaGreatDoorMClaimFiles9
import Derived.Lib.SmallJoins

namespace Go.Proofs.YtdbnacjdinolcaaGreatDoor
open Go.RowKit Go.Shelf

theorem reads_bytes (w : World) (e : TypeId) (l : List UInt8) (hl : l.length ≤ maxLen) : Reads (Lib.bytesWorld w e ⟨l.toArray⟩) 1 (some ⟨w.heap.size, 0, none⟩) l.length (l.map encB) := by
  obtain ⟨A, c, e1, h, -⟩ := (ownT_bytes w e l hl).brow
  injection e1 with e1 e2
  subst e1
  exact h
theorem reads_mark (w : World) (t : TypeId) (u : Value) (fr : Nat × Nat) : Reads (w.alloc (.cells #[u] t fr)) 1 (some ⟨w.heap.size, 0, none⟩) 1 [u] :=
  ⟨rfl, fun _ => ⟨_, rfl, fun j v hv => by
    have e : (⟨w.heap.size, 0, none⟩ : Addr).add j = ⟨w.heap.size, j, none⟩ := by unfold Addr.add; split <;> simp_all
    rw [e, World.cell?_alloc_mark]
    simpa using hv⟩⟩
def fileErr (kind tail f : List UInt8) : Int := if 1048606 < f.length then 4 else if (headPv kind tail f).isSome then 0 else 8
/-- What page.behind answers. -/
def Behind (kind tail bs : List UInt8) (w : World) (e : Ending) (w' : World) : Prop :=
  ∃ (v1 v2 : Int) (A : Option Addr) (n c : Nat), e = .returned (.tuple #[.int .i64 v1, .int .i64 v2, .slice A n c, .int .i64 (fileErr kind tail bs)]) ∧
    (∀ W H rest, headPv kind tail bs = some (W, H, rest) → fileErr kind tail bs = 0 → v1 = (W : Nat) ∧ v2 = (H : Nat) ∧ BRow w' A n c rest) ∧ Bl w w'
theorem headP_val {kind tail bs a d s4 : List UInt8} {p1 x y z iw ih : Bool} {v1 v2 : Int} (HE : headPv kind tail bs = if p1 = true ∧ x = true ∧ y = true ∧ z = true then (match numP a, numP d with
    | some w, some h => some (w, h, s4)
    | _, _ => none) else none) (q1 : iw = (numP a).isSome) (g1 : ∀ n : Nat, numP a = some n → v1 = n) (q2 : ih = (numP d).isSome) (g2 : ∀ n : Nat, numP d = some n → v2 = n) :
    (p1 && (x && (y && (iw && (ih && z))))) = (headPv kind tail bs).isSome ∧ (∀ W H rest, headPv kind tail bs = some (W, H, rest) → v1 = (W : Nat) ∧ v2 = (H : Nat) ∧ s4 = rest) := by
  rw [HE, q1, q2]
  by_cases c : p1 = true ∧ x = true ∧ y = true ∧ z = true
  · rw [if_pos c]
    obtain ⟨rfl, rfl, rfl, rfl⟩ := c
    cases ea : numP a with
    | none => exact ⟨rfl, fun W H rest h => by cases h⟩
    | some n1 =>
      cases ed : numP d with
      | none => exact ⟨rfl, fun W H rest h => by cases h⟩
      | some n2 =>
        refine ⟨rfl, fun W H rest h => ?_⟩
        obtain ⟨rfl, h2⟩ := Prod.mk.inj (Option.some.inj h)
        obtain ⟨rfl, rfl⟩ := Prod.mk.inj h2
        exact ⟨g1 _ ea, g2 _ ed, rfl⟩
  · rw [if_neg c]
    refine ⟨?_, fun W H rest h => by cases h⟩
    cases p1
    · rfl
    cases x
    · rfl
    cases y
    · rfl
    cases z
    · simp
    exact absurd ⟨rfl, rfl, rfl, rfl⟩ c
theorem bcut_cell : Tryz.laysBCut_ren.g 0 = Tryz.lays145_ren.g 1 := by kernel_rfl
theorem bcutOk (w : World) (h : CutOk w) : ∃ m : Int, w.cell? ⟨Tryz.laysBCut_ren.g 0, 0, none⟩ = some (.int .i64 m) := by
  rw [bcut_cell]; exact h

set_option maxRecDepth 100000 in
set_option maxHeartbeats 2000000 in
theorem behind_any (kind tail bs : List UInt8) (A : Option Addr) (n c : Nat) (w : World) (hA : BRow w A n c bs) (hN : NumOk w) (hC : CutOk w) (hl : n ≤ 9223372036854775807) (hk : kind.length ≤ 100) (ht : tail.length ≤ 100) :
    Calls Tryz.prog 45 #[.slice A n c, .string ⟨kind.toArray⟩, .string ⟨tail.toArray⟩] w (Behind kind tail bs w) := by
  have hn := hA.len
  by_cases hbig : 1048606 < n
  · have HE := Lib.hid (show fileErr kind tail bs = 4 by unfold fileErr; rw [if_pos (by omega)])
    have HL := Lib.hid hl
    clear hA hn hN hC hk ht
    go_enter Tryz.func45, Tryz.ntmps45
    go_wp2_with fail
    refine bodyPost_ret (v := .tuple #[.int .i64 0, .int .i64 0, .slice none 0 0, .int .i64 4]) (by simp [results, Tryz.results45, go_sem]) rfl ⟨0, 0, none, 0, 0, (by rw [HE.out]), fun _ _ _ _ h => ?_, Bl.refl _⟩
    rw [HE.out] at h
    cases h
  · have HF := Lib.hid (show fileErr kind tail bs = if (headPv kind tail bs).isSome then 0 else 8 by unfold fileErr; rw [if_neg (by omega)])
    obtain ⟨kn, hkn⟩ : ∃ x, x = kind ++ [10] := ⟨_, rfl⟩
    obtain ⟨s1, hs1⟩ : ∃ x, x = Lib.trimPrefix bs kn := ⟨_, rfl⟩
    obtain ⟨p1, hp1⟩ : ∃ x, x = Lib.hasPrefix bs kn := ⟨_, rfl⟩
    obtain ⟨l, hl'⟩ : ∃ x, x = (Lib.cut s1 [10]).1 := ⟨_, rfl⟩
    obtain ⟨r1, hr1⟩ : ∃ x, x = (Lib.cut s1 [10]).2.1 := ⟨_, rfl⟩
    obtain ⟨x, hx⟩ : ∃ x, x = (Lib.cut s1 [10]).2.2 := ⟨_, rfl⟩
    obtain ⟨a, ha⟩ : ∃ x, x = (Lib.cut l [32]).1 := ⟨_, rfl⟩
    obtain ⟨d, hd⟩ : ∃ x, x = (Lib.cut l [32]).2.1 := ⟨_, rfl⟩
    obtain ⟨y, hy⟩ : ∃ x, x = (Lib.cut l [32]).2.2 := ⟨_, rfl⟩
    obtain ⟨s4, hs4⟩ : ∃ x, x = Lib.trimPrefix r1 tail := ⟨_, rfl⟩
    obtain ⟨z, hz⟩ : ∃ x, x = Lib.hasPrefix r1 tail := ⟨_, rfl⟩
    obtain ⟨iw, hiw⟩ : ∃ b, b = (numP a).isSome := ⟨_, rfl⟩
    obtain ⟨ih, hih⟩ : ∃ b, b = (numP d).isSome := ⟨_, rfl⟩
    have l1 : s1.length ≤ 1048606 := by have := Lib.trimPrefix_le bs kn; rw [hs1]; omega
    have ll : l.length ≤ 1048606 := by have := (cut_le s1 10).1; rw [hl']; omega
    have la : a.length ≤ 1048606 := by have := (cut_le l 32).1; rw [ha]; omega
    have ld : d.length ≤ 1048606 := by have := (cut_le l 32).2; rw [hd]; omega
    have C1 := Lib.hid (fun w (P : Option Addr) (m d : Nat) (h : BRow w A n c bs) (hP : Reads w 1 P m (kn.map encB)) => show Calls Tryz.prog 101 #[.slice A n c, .slice P m d] w (fun e w' => ∃ A' n' c', e = .returned (.tuple #[.slice A' n' c', .bool p1]) ∧ BRow w A' n' c' s1 ∧ w' = w) from by
      rw [hp1, hs1]; exact bcutPre_any A P n c m d bs kn w h hP)
    have C2 := Lib.hid (fun w (A : Option Addr) (n c : Nat) (P : Option Addr) (d : Nat) (h : BRow w A n c s1) (hP : Reads w 1 P 1 ([10].map encB)) (hC : CutOk w) => show Calls Tryz.prog 102 #[.slice A n c, .slice P 1 d] w (fun e w' => ∃ A1 n1 c1 A2 n2 c2, e = .returned (.tuple #[.slice A1 n1 c1, .slice A2 n2 c2, .bool x]) ∧ BRow w' A1 n1 c1 l ∧ BRow w' A2 n2 c2 r1 ∧ Bl w w') from by
      obtain ⟨m, hm⟩ := bcutOk w hC
      have hn := h.len
      rw [hx, hl', hr1]; exact bcut_any A P n c d s1 10 m w h hP (by omega) hm)
    have C3 := Lib.hid (fun w (h : CutOk w) => show Calls Tryz.prog 71 #[.string ⟨l.toArray⟩, .string ⟨#[32]⟩] w (fun e w' => e = .returned (.tuple #[.string ⟨a.toArray⟩, .string ⟨d.toArray⟩, .bool y]) ∧ Bl w w') from by
      rw [ha, hd, hy]; exact cutS_any l 32 w (by omega) h)
    have N1 := Lib.hid (fun w (h : NumOk w) => show Calls Tryz.prog 103 #[.string ⟨a.toArray⟩] w (fun e w' => ∃ v : Int, e = .returned (.tuple #[.int .i64 v, .bool iw]) ∧ (∀ n, numP a = some n → v = n) ∧ Bl w w') from by
      rw [hiw]; exact number_any ⟨a.toArray⟩ w (by rw [Lib.size_mk]; omega) h)
    have N2 := Lib.hid (fun w (h : NumOk w) => show Calls Tryz.prog 103 #[.string ⟨d.toArray⟩] w (fun e w' => ∃ v : Int, e = .returned (.tuple #[.int .i64 v, .bool ih]) ∧ (∀ n, numP d = some n → v = n) ∧ Bl w w') from by
      rw [hih]; exact number_any ⟨d.toArray⟩ w (by rw [Lib.size_mk]; omega) h)
    have C4 := Lib.hid (fun w (A : Option Addr) (n c : Nat) (P : Option Addr) (m d : Nat) (h : BRow w A n c r1) (hP : Reads w 1 P m (tail.map encB)) => show Calls Tryz.prog 101 #[.slice A n c, .slice P m d] w (fun e w' => ∃ A' n' c', e = .returned (.tuple #[.slice A' n' c', .bool z]) ∧ BRow w A' n' c' s4 ∧ w' = w) from by
      rw [hz, hs4]; exact bcutPre_any A P n c m d r1 tail w h hP)
    have HE : Hid (headPv kind tail bs = if p1 = true ∧ x = true ∧ y = true ∧ z = true then (match numP a, numP d with
      | some w, some h => some (w, h, s4)
      | _, _ => none) else none) := Lib.hid (by
        subst hz hs4 hy hd ha hx hr1 hl' hp1 hs1 hkn
        rfl)
    have HI := Lib.hid (show iw = (numP a).isSome ∧ ih = (numP d).isSome from ⟨hiw, hih⟩)
    obtain ⟨KB, hKB⟩ : ∃ r : ByteArray, r = ⟨kind.toArray⟩ := ⟨_, rfl⟩
    have lk : KB.size ≤ 100 := by rw [hKB, Lib.size_mk]; exact hk
    have HL : Hid (KB ++ ⟨#[10]⟩ = ⟨kn.toArray⟩) := Lib.hid (by rw [hKB, hkn]; exact bap kind [10])
    have Hkl := Lib.hid (show kn.length ≤ maxLen by rw [hkn, List.length_append]; unfold maxLen; simp only [List.length_singleton]; omega)
    have Htl := Lib.hid (show tail.length ≤ maxLen by unfold maxLen; omega)
    rw [← hKB]
    have HN := Lib.hid hN
    have HC := Lib.hid hC
    have HA := Lib.hid hA
    clear hKB hA hN hC hkn hs1 hp1 hl' hr1 hx ha hd hy hs4 hz hiw hih l1 ll la ld hk ht hn
    go_enter Tryz.func45, Tryz.ntmps45
    go_wp2_with fail
    rw [HL.out, Lib.run_convert_string_bytes w 9 22 5 ⟨kn.toArray⟩ Tryz.underlying9 Tryz.underlying22 Tryz.underlying5, Lib.size_mk]
    have hk1 := reads_bytes w 5 kn Hkl.out
    have hb1 := bl_bytes w 5 ⟨kn.toArray⟩
    generalize Lib.bytesWorld w 5 ⟨kn.toArray⟩ = w1 at hk1 hb1 ⊢
    generalize grownCap w kn.length 0 5 = cp1
    have Hk1 := Lib.hid hk1
    clear hk1
    go_wp2_with (go_at_call 101; refine (C1.out _ _ _ _ (HA.out.bl hb1) Hk1.out).mono ?_; rintro e w2 ⟨A1, n1, c1, rfl, hr1, rfl⟩; refine Hid.out ?_)
    refine Lib.hid ?_
    have HR1 := Lib.hid hr1
    clear hr1 Hk1
    have hmk := Lib.run_convert_bytes_const (P := Tryz.prog) w2 22 5 #[.int .u8 10] 1 1 Tryz.underlying22 Tryz.underlying5
    go_wp2_with (go_at_call 102; refine (C2.out _ _ _ _ _ _ (HR1.out.bl ((Bl.refl _).alloc _)) (reads_mark _ _ _ _) (HC.out.bl (hb1.alloc _))).mono ?_; rintro e w3 ⟨A2, n2, c2, A3, n3, c3, rfl, hr2, hr3, hb3⟩; refine Hid.out ?_)
    refine Lib.hid ?_
    have hb13 := hb1.trans (Bl.trans ((Bl.refl _).alloc _) hb3)
    have hcv := conv_bytes _ A2 n2 c2 _ hr2.1
    have HR3 := Lib.hid hr3
    clear hr2 hr3 HR1 hb3 hb1 hmk
    go_wp2_with (go_at_call 71; refine (C3.out _ (HC.out.bl hb13)).mono ?_; rintro e w4 ⟨rfl, hb4⟩; refine Hid.out ?_)
    refine Lib.hid ?_
    clear hcv
    go_wp2_with (go_at_call 103; refine (N1.out _ (HN.out.bl (hb13.trans hb4))).mono ?_; rintro e w5 ⟨v1, rfl, g1, hb5⟩; refine Hid.out ?_)
    refine Lib.hid ?_
    have G1 := Lib.hid g1
    clear g1
    go_wp2_with (go_at_call 103; refine (N2.out _ (HN.out.bl (Bl.trans (hb13.trans hb4) hb5))).mono ?_; rintro e w6 ⟨v2, rfl, g2, hb6⟩; refine Hid.out ?_)
    refine Lib.hid ?_
    have G2 := Lib.hid g2
    clear g2
    go_wp2_with fail
    rw [Lib.run_convert_string_bytes w6 9 22 5 ⟨tail.toArray⟩ Tryz.underlying9 Tryz.underlying22 Tryz.underlying5, Lib.size_mk]
    have hk7 := reads_bytes w6 5 tail Htl.out
    have hb7 := bl_bytes w6 5 ⟨tail.toArray⟩
    generalize Lib.bytesWorld w6 5 ⟨tail.toArray⟩ = w7 at hk7 hb7 ⊢
    generalize grownCap w6 tail.length 0 5 = cp7
    have Hk7 := Lib.hid hk7
    have HR7 := Lib.hid (HR3.out.bl ((hb4.trans hb5).trans (hb6.trans hb7)))
    have HB7 := Lib.hid (((hb13.trans hb4).trans hb5).trans (hb6.trans hb7))
    clear hk7 hb4 hb5 hb6 hb7 hb13 HR3
    go_wp2_with (go_at_call 101; refine (C4.out _ _ _ _ _ _ _ HR7.out Hk7.out).mono ?_; rintro e w8 ⟨A4, n4, c4, rfl, hr4, rfl⟩; refine Hid.out ?_)
    refine Lib.hid ?_
    have HR4 := Lib.hid hr4
    clear hr4 Hk7 HR7
    have FV := Lib.hid (headP_val HE.out HI.out.1 G1.out HI.out.2 G2.out)
    clear HE G1 G2
    rcases six_of p1 x y iw ih z with rfl | ⟨rfl, rfl⟩ | ⟨rfl, rfl, rfl⟩ | ⟨rfl, rfl, rfl, rfl⟩ | ⟨rfl, rfl, rfl, rfl, rfl⟩ | ⟨rfl, rfl, rfl, rfl, rfl, rfl⟩ | ⟨rfl, rfl, rfl, rfl, rfl, rfl⟩
    case inr.inr.inr.inr.inr.inr =>
      go_wp2_with fail
      have hs : (headPv kind tail bs).isSome = true := FV.out.1.symm
      have he : fileErr kind tail bs = 0 := by rw [HF.out, if_pos hs]
      refine bodyPost_ret (v := .tuple #[.int .i64 v1, .int .i64 v2, .slice A4 n4 c4, .int .i64 0]) (by simp [results, Tryz.results45, go_sem]) rfl ⟨v1, v2, A4, n4, c4, (by rw [he]), fun W H rest h _ => ?_, HB7.out⟩
      obtain ⟨e1, e2, e3⟩ := FV.out.2 W H rest h
      exact ⟨e1, e2, by rw [← e3]; exact HR4.out⟩
    all_goals
      go_wp2_with fail
      have hs : (headPv kind tail bs).isSome = false := FV.out.1.symm
      have he : fileErr kind tail bs = 8 := by rw [HF.out, if_neg (by rw [hs]; decide)]
      exact bodyPost_ret (v := .tuple #[.int .i64 0, .int .i64 0, .slice none 0 0, .int .i64 8]) (by simp [results, Tryz.results45, go_sem]) rfl ⟨0, 0, none, 0, 0, (by rw [he]), (fun W H rest h _ => by rw [h] at hs; cases hs), HB7.out⟩
end Go.Proofs.YtdbnacjdinolcaaGreatDoor
