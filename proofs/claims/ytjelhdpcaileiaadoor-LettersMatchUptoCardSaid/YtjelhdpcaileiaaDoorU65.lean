/- bar.read39: what is read of modules as they are. -/
import Derived.Test.YtjelhdpcaileiaaDoorU63
import Derived.Test.YtjelhdpcaileiaaDoorU64
import Derived.Test.YtjelhdpcaileiaaDoorU62
import Derived.Test.YtjelhdpcaileiaaDoorU8

namespace Go.Proofs.YtjelhdpcaileiaaDoor
open Go.RowKit Go.Shelf

/-- The runs of the first i signs: those that are done, and the last one's length. -/
def rn (s : List UInt8) : Nat → List Nat × Nat
  | 0 => ([], 0)
  | i + 1 => if i = 0 then ([], 1) else if s[i]? = s[i - 1]? then ((rn s i).1, (rn s i).2 + 1) else ((rn s i).1 ++ [(rn s i).2], 1)
def runsM (s : List UInt8) : List Nat := (rn s s.length).1 ++ [(rn s s.length).2]
/-- The runs of the first i signs. -/
def runsP (s : List UInt8) (i : Nat) : List Nat := if i = 0 then [] else (rn s i).1 ++ [(rn s i).2]
def lenOK (s : List UInt8) : Bool := !s.isEmpty && (madeOf s [48, 49] && (s.getD 0 0 == 49 && s.getD (s.length - 1) 0 == 49))
theorem rn_len (s : List UInt8) : ∀ i, (rn s i).1.length ≤ i ∧ (rn s i).2 ≤ i
  | 0 => ⟨Nat.le_refl _, Nat.le_refl _⟩
  | i + 1 => by
    obtain ⟨h1, h2⟩ := rn_len s i
    unfold rn
    split
    · exact ⟨Nat.zero_le _, by omega⟩
    · split
      · exact ⟨by show (rn s i).1.length ≤ i + 1; omega, by show (rn s i).2 + 1 ≤ i + 1; omega⟩
      · refine ⟨?_, by show 1 ≤ i + 1; omega⟩
        show ((rn s i).1 ++ [(rn s i).2]).length ≤ i + 1
        rw [List.length_append, List.length_singleton]
        omega
theorem rn_one (s : List UInt8) : rn s 1 = ([], 1) := rfl
theorem rn_same {s : List UInt8} {i : Nat} (h0 : 1 ≤ i) (h : s[i]? = s[i - 1]?) : rn s (i + 1) = ((rn s i).1, (rn s i).2 + 1) := by
  show (if i = 0 then _ else if s[i]? = s[i - 1]? then _ else _) = _
  rw [if_neg (by omega), if_pos h]
theorem rn_new {s : List UInt8} {i : Nat} (h0 : 1 ≤ i) (h : s[i]? ≠ s[i - 1]?) : rn s (i + 1) = ((rn s i).1 ++ [(rn s i).2], 1) := by
  show (if i = 0 then _ else if s[i]? = s[i - 1]? then _ else _) = _
  rw [if_neg (by omega), if_neg h]
theorem bit_two {a b : UInt8} (ha : a = 48 ∨ a = 49) (hb : b = 48 ∨ b = 49) (n : Nat) (h : b = bitAt n) (hne : a ≠ b) : a = bitAt (n + 1) := by
  have h2 := bitAt_ne n
  have h3 : bitAt (n + 1) = 48 ∨ bitAt (n + 1) = 49 := by unfold bitAt; split; exact .inr rfl; exact .inl rfl
  rw [h] at hne hb
  rcases ha with rfl | rfl <;> rcases hb with hb | hb <;> rcases h3 with h3 | h3 <;> rw [hb] at hne h2 <;> rw [h3] at h2 ⊢ <;> first | rfl | exact absurd rfl hne | exact absurd rfl h2
theorem expand_last (n c : Nat) (l : List Nat) (h : l.length = n) : expand 0 (l ++ [c]) = expand 0 l ++ List.replicate c (bitAt n) := by
  rw [expand_append, h, Nat.zero_add]
  show _ ++ (List.replicate c (bitAt n) ++ []) = _
  rw [List.append_nil]
theorem rn_spec {s : List UInt8} (hm : madeOf s [48, 49] = true) (h49 : s[0]? = some 49) : ∀ i, 1 ≤ i → i ≤ s.length → expand 0 ((rn s i).1 ++ [(rn s i).2]) = s.take i ∧ (∀ n ∈ (rn s i).1, 1 ≤ n) ∧ 1 ≤ (rn s i).2 ∧ s[i - 1]? = some (bitAt (rn s i).1.length)
  | 0, h, _ => absurd h (by decide)
  | i + 1, _, hi => by
    by_cases h0 : i = 0
    · subst h0
      rw [rn_one]
      refine ⟨?_, fun n h => (by cases h), Nat.le_refl _, h49⟩
      cases s with
      | nil => cases h49
      | cons a t =>
        obtain rfl := Option.some.inj h49
        rfl
    · obtain ⟨e1, e2, e3, e4⟩ := rn_spec hm h49 i (by omega) (by omega)
      have hg : s[i]? = some s[i] := List.getElem?_eq_getElem (by omega)
      have bits : ∀ (j : Nat) (b : UInt8), s[j]? = some b → b = 48 ∨ b = 49 := fun j b h => by
        have := List.all_eq_true.1 hm b (List.mem_of_getElem? h)
        simpa using this
      by_cases hs : s[i]? = s[i - 1]?
      · rw [rn_same (by omega) hs]
        refine ⟨?_, e2, by show 1 ≤ (rn s i).2 + 1; omega, by rw [Nat.add_sub_cancel, hs]; exact e4⟩
        show expand 0 ((rn s i).1 ++ [(rn s i).2 + 1]) = _
        rw [expand_last _ _ _ rfl, List.replicate_succ', ← List.append_assoc, ← expand_last _ _ _ rfl, e1, List.take_add_one, hs, e4]
        rfl
      · rw [rn_new (by omega) hs]
        have hb := bits i _ hg
        have hb2 := bits (i - 1) _ e4
        have hx : s[i] = bitAt ((rn s i).1.length + 1) := bit_two hb hb2 _ rfl (fun e => hs (by rw [hg, e4, e]))
        refine ⟨?_, fun n hn => ?_, Nat.le_refl _, ?_⟩
        · show expand 0 (((rn s i).1 ++ [(rn s i).2]) ++ [1]) = _
          rw [expand_last ((rn s i).1.length + 1) _ _ (by rw [List.length_append]; rfl), e1, List.take_add_one, hg, hx]
          rfl
        · rcases List.mem_append.1 hn with hn | hn
          · exact e2 n hn
          · rw [List.mem_singleton.1 hn]; exact e3
        · rw [Nat.add_sub_cancel, hg, hx]
          show _ = some (bitAt ((rn s i).1 ++ [(rn s i).2]).length)
          rw [List.length_append]
          rfl
theorem lenOK_iff {s : List UInt8} (h : lenOK s = true) : s ≠ [] ∧ madeOf s [48, 49] = true ∧ s[0]? = some 49 ∧ s[s.length - 1]? = some 49 := by
  unfold lenOK at h
  simp only [Bool.and_eq_true, Bool.not_eq_true', beq_iff_eq] at h
  obtain ⟨h1, h2, h3, h4⟩ := h
  have hne : s ≠ [] := fun e => by rw [e] at h1; cases h1
  have hl : 0 < s.length := List.length_pos_iff.2 hne
  refine ⟨hne, h2, ?_, ?_⟩
  · rw [List.getD_eq_getElem?_getD, List.getElem?_eq_getElem hl] at h3
    rw [List.getElem?_eq_getElem hl]
    exact congrArg some h3
  · rw [List.getD_eq_getElem?_getD, List.getElem?_eq_getElem (by omega)] at h4
    rw [List.getElem?_eq_getElem (by omega)]
    exact congrArg some h4
theorem runsM_spec {s : List UInt8} (h : lenOK s = true) : expand 0 (runsM s) = s ∧ ∀ n ∈ runsM s, 1 ≤ n := by
  obtain ⟨h1, h2, h3, -⟩ := lenOK_iff h
  have hl : 0 < s.length := List.length_pos_iff.2 h1
  obtain ⟨e1, e2, e3, -⟩ := rn_spec h2 h3 s.length hl (Nat.le_refl _)
  refine ⟨by unfold runsM; rw [e1, List.take_length], fun n hn => ?_⟩
  unfold runsM at hn
  rcases List.mem_append.1 hn with hn | hn
  · exact e2 n hn
  · rw [List.mem_singleton.1 hn]; exact e3
/-- Modules that are not so have no code. -/
theorem decM_bad {s : List UInt8} (hm : madeOf s [48, 49] = true) (h : lenOK s = false) : decM s = none := by
  cases hd : decM s with
  | none => rfl
  | some ks =>
    exfalso
    have hj := join_decM hd
    have hlt := decM_lt hd
    obtain ⟨h1, h2⟩ := (decM_iff _ _).1 hd
    have hne := decM_ne hd
    have hkl : 0 < ks.length := List.length_pos_iff.2 hne
    obtain ⟨k0, hk0⟩ : ∃ k, ks[0]? = some k := ⟨_, List.getElem?_eq_getElem hkl⟩
    obtain ⟨kn, hkn⟩ : ∃ k, ks[ks.length - 1]? = some k := ⟨_, List.getElem?_eq_getElem (by omega)⟩
    obtain ⟨-, l0, g0⟩ := (gR_iff _ _ _).1 (h2 _ _ hk0)
    obtain ⟨-, ln, gn⟩ := (gR_iff _ _ _).1 (h2 _ _ hkn)
    have f0 : s.getD 0 0 = 49 := by
      have := (modK_all k0 l0).2.1
      rw [← g0, List.getD_eq_getElem?_getD, List.getElem?_take_of_lt (by decide), List.getElem?_drop] at this
      rw [List.getD_eq_getElem?_getD]
      exact this
    have fn : s.getD (s.length - 1) 0 = 49 := by
      have := (modK_all kn ln).2.2.1
      rw [← gn, List.getD_eq_getElem?_getD, List.getElem?_take_of_lt (by decide), List.getElem?_drop] at this
      rw [List.getD_eq_getElem?_getD, show s.length - 1 = 16 * (ks.length - 1) + 14 by omega]
      exact this
    have hemp : s.isEmpty = false := by
      cases s with
      | nil => simp at h1; omega
      | cons a t => rfl
    unfold lenOK at h
    rw [hemp, hm, f0, fn] at h
    cases h
def LenRes (s : List UInt8) (w : World) (e : Ending) (w' : World) : Prop := ∃ R m d, e = .returned (.tuple #[.slice R m d, .bool (lenOK s)]) ∧ (lenOK s = false → R = none ∧ m = 0) ∧ (lenOK s = true → m = (runsM s).length ∧ Reads w' 1 R m (natCells (runsM s)) ∧ m ≤ d) ∧ Bl w w'
theorem len_bad {s : List UInt8} {w w' : World} (h : lenOK s = false) (hb : Bl w w') : LenRes s w (.returned (.tuple #[.slice none 0 0, .bool false])) w' :=
  ⟨none, 0, 0, by rw [h], fun _ => ⟨rfl, rfl⟩, fun h' => (by rw [h] at h'; cases h'), hb⟩
set_option maxRecDepth 100000 in
set_option maxHeartbeats 8000000 in
theorem lengths_any (s : List UInt8) (w : World) (hl : s.length ≤ 1048576) :
    Calls Tryd.prog 196 #[.string ⟨s.toArray⟩] w (LenRes s w) := by
  have Ht := Lib.hid (trim_any s [48, 49] w (by omega) (by decide) (by
    intro j b h
    have : ∀ b ∈ ([48, 49] : List UInt8), b.toNat < 128 := by decide
    exact this b (List.mem_of_getElem? h)))
  have hsz : (⟨s.toArray⟩ : ByteArray).size = s.length := Lib.size_mk s
  have HD := Lib.hid (show lenOK s = (!s.isEmpty && (madeOf s [48, 49] && (s.getD 0 0 == 49 && s.getD (s.length - 1) 0 == 49))) from rfl)
  go_enter Tryd.func196, Tryd.ntmps196
  by_cases h0 : s = []
  · have hemp : s.isEmpty = true := by rw [h0]; rfl
    have HB := Lib.hid (show lenOK s = false by rw [HD.out, hemp]; rfl)
    clear h0
    go_wp2_with fail
    exact bodyPost_ret (v := .tuple #[.slice none 0 0, .bool false]) (by simp [results, Tryd.results196, go_sem]) rfl (len_bad HB.out (Bl.refl _))
  · have hemp : s.isEmpty = false := by cases s with | nil => exact absurd rfl h0 | cons a t => rfl
    have hl1 : 0 < s.length := List.length_pos_iff.2 h0
    clear h0
    cases hmd : madeOf s [48, 49] with
    | false =>
      have htr : (Lib.trimS s [48, 49]).isEmpty = false := by rw [trim_made, hmd]
      have HB := Lib.hid (show lenOK s = false by rw [HD.out, hemp, hmd]; rfl)
      clear hmd
      go_wp2_with fail
      refine Ht.out.mono ?_
      rintro e w1 ⟨rfl, hb1⟩
      go_wp2_with fail
      exact bodyPost_ret (v := .tuple #[.slice none 0 0, .bool false]) (by simp [results, Tryd.results196, go_sem]) rfl (len_bad HB.out hb1)
    | true =>
      have htr : (Lib.trimS s [48, 49]).isEmpty = true := by rw [trim_made, hmd]
      have HMd := Lib.hid hmd
      obtain ⟨a, ha⟩ : ∃ a, s[0]? = some a := ⟨_, List.getElem?_eq_getElem hl1⟩
      obtain ⟨z, hz⟩ : ∃ z, s[s.length - 1]? = some z := ⟨_, List.getElem?_eq_getElem (by omega)⟩
      obtain ⟨a1, a2⟩ := bytes_at ha
      obtain ⟨z1, z2⟩ := bytes_at hz
      have hga : s.getD 0 0 = a := by rw [List.getD_eq_getElem?_getD, ha]; rfl
      have hgz : s.getD (s.length - 1) 0 = z := by rw [List.getD_eq_getElem?_getD, hz]; rfl
      have HD2 := Lib.hid (show lenOK s = (a == 49 && z == 49) by rw [HD.out, hemp, hmd, hga, hgz]; rfl)
      obtain ⟨L, hL⟩ : ∃ L, L = s.length - 1 := ⟨_, rfl⟩
      have hLI : (s.length : Int) - 1 = (L : Int) := by omega
      have hLs : (L : Int) < (s.length : Int) := by omega
      have z1' : L < (⟨s.toArray⟩ : ByteArray).size := by rw [hL]; exact z1
      have z2' : (⟨s.toArray⟩ : ByteArray)[L]'z1' = z := by subst hL; exact z2
      have HLn := Lib.hid hL
      clear hmd hga hgz hz ha z1 z2 hL HD
      cases h49 : (a == 49) with
      | false =>
        have hne : ¬ ((a.toNat : Int) = 49) := fun e => by
          have : a = 49 := UInt8.toNat_inj.1 (by have : (49 : UInt8).toNat = 49 := rfl; omega)
          rw [this] at h49; cases h49
        have hneb : ((a.toNat : Int) == 49) = false := by rw [beq_eq_false_iff_ne]; exact hne
        have HB := Lib.hid (show lenOK s = false by rw [HD2.out, h49]; rfl)
        clear h49
        go_wp2_with fail
        refine Ht.out.mono ?_
        rintro e w1 ⟨rfl, hb1⟩
        go_wp2_with fail
        exact bodyPost_ret (v := .tuple #[.slice none 0 0, .bool false]) (by simp [results, Tryd.results196, go_sem]) rfl (len_bad HB.out hb1)
      | true =>
        have ha49 : a = 49 := by simpa using h49
        cases h50 : (z == 49) with
        | false =>
          have hne : ¬ ((z.toNat : Int) = 49) := fun e => by
            have : z = 49 := UInt8.toNat_inj.1 (by have : (49 : UInt8).toNat = 49 := rfl; omega)
            rw [this] at h50; cases h50
          have hneb : ((z.toNat : Int) == 49) = false := by rw [beq_eq_false_iff_ne]; exact hne
          have HB := Lib.hid (show lenOK s = false by rw [HD2.out, h49, h50]; rfl)
          clear h49 h50
          subst ha49
          go_wp2_with fail
          refine Ht.out.mono ?_
          rintro e w1 ⟨rfl, hb1⟩
          go_wp2_with fail
          exact bodyPost_ret (v := .tuple #[.slice none 0 0, .bool false]) (by simp [results, Tryd.results196, go_sem]) rfl (len_bad HB.out hb1)
        | true =>
          have hz49 : z = 49 := by simpa using h50
          have HB := Lib.hid (show lenOK s = true by rw [HD2.out, h49, h50]; rfl)
          clear h49 h50
          subst ha49 hz49
          go_wp2_with fail
          refine Ht.out.mono ?_
          rintro e w1 ⟨rfl, hb1⟩
          have HB1 := Lib.hid hb1
          clear hb1 Ht
          go_wp2_with fail
          go_loopw [4, 28] (fun s4 s28 wr => ∃ (i : Nat) (v : Value), i ≤ s.length ∧ s28 = .int .i64 (i : Int) ∧ v = s4 ∧ Bl w1 wr ∧ Hid (wr.ownsRow w1.heap.size 3 1 v (runsP s i).length (natCells (runsP s i)))) (fun _ v _ => s.length - (RowKit.intOf v).toNat)
          case atStart => exact ⟨0, _, Nat.zero_le _, rfl, rfl, Bl.refl _, Lib.hid (World.ownsRow_nil _ _ _ _)⟩
          case round =>
            rename World => wr
            obtain ⟨i, v, hi, rfl, rfl, hbr, hown⟩ := hrel
            have HBr := Lib.hid hbr
            clear hbr
            obtain ⟨hle1, hle2⟩ := rn_len s i
            by_cases hlt : i < s.length
            · have hg : s[i]? = some s[i] := List.getElem?_eq_getElem hlt
              obtain ⟨c, hc⟩ : ∃ c, c = s[i] := ⟨_, rfl⟩
              rw [← hc] at hg
              obtain ⟨m1, m2⟩ := bytes_at hg
              have hltI : (i : Int) < (s.length : Int) := by omega
              by_cases hi0 : i = 0
              · subst hi0
                have h0n : ¬ ((0 : Int) < ((0 : Nat) : Int)) := by decide
                have HP1 := Lib.hid (show runsP s 1 = [1] from rfl)
                have hown0 : wr.ownsRow w1.heap.size 3 1 v 0 [] := hown.out
                have HOw := Lib.hid hown0
                clear hown hown0 hg hc
                go_upto_region 7 with fail
                refine wp_region_flow [(true, 0), (true, 1), (true, 2), (true, 3), (true, 4), (true, 5), (true, 6), (true, 7), (true, 8), (true, 9), (true, 10), (true, 11)] (fun _ => false) (by kernel_rfl) (by kernel_rfl) (by kernel_rfl) (by kernel_rfl) ?_
                iterate 1
                  apply Flow.mv _ rfl
                  · intro K' hK'
                    simp only [Act.put, Act.eval, List.setIfInBounds_toArray, List.set_cons_zero, List.set_cons_succ, arr_getD, List.getD_cons_zero, List.getD_cons_succ]
                    exact hK'
                iterate 1
                  apply Flow.calm2 _ _ rfl rfl
                  · intro w' hb' K' hK'
                    obtain ⟨hc', hf'⟩ := hb'.rule
                    go_simp
                    try go_ints
                    exact hK'
                  · intro K' hK'
                    simp only [Act.put, List.setIfInBounds_toArray, List.set_cons_zero, List.set_cons_succ]
                    exact hK'
                iterate 1
                  apply Flow.mv _ rfl
                  · intro K' hK'
                    simp only [Act.put, Act.eval, List.setIfInBounds_toArray, List.set_cons_zero, List.set_cons_succ, arr_getD, List.getD_cons_zero, List.getD_cons_succ]
                    exact hK'
                first
                  | (apply Flow.pass rfl (by rfl))
                  | (apply Flow.calmG _ rfl (by rfl)
                     · intro w' hb'
                       obtain ⟨hc', hf'⟩ := hb'.rule
                       go_simp
                       all_goals (try rfl))
                simp only [Act.put, List.setIfInBounds_toArray, List.set_cons_zero, List.set_cons_succ]
                try go_ints
                first
                  | (apply Flow.pass rfl (by rfl))
                  | (apply Flow.calmG _ rfl (by rfl)
                     · intro w' hb'
                       obtain ⟨hc', hf'⟩ := hb'.rule
                       go_simp
                       all_goals (try rfl))
                simp only [Act.put, List.setIfInBounds_toArray, List.set_cons_zero, List.set_cons_succ]
                try go_ints
                first
                  | (apply Flow.pass rfl (by rfl))
                  | (apply Flow.calmG _ rfl (by rfl)
                     · intro w' hb'
                       obtain ⟨hc', hf'⟩ := hb'.rule
                       go_simp
                       all_goals (try rfl))
                simp only [Act.put, List.setIfInBounds_toArray, List.set_cons_zero, List.set_cons_succ]
                try go_ints
                first
                  | (apply Flow.pass rfl (by rfl))
                  | (apply Flow.calmG _ rfl (by rfl)
                     · intro w' hb'
                       obtain ⟨hc', hf'⟩ := hb'.rule
                       go_simp
                       all_goals (try rfl))
                simp only [Act.put, List.setIfInBounds_toArray, List.set_cons_zero, List.set_cons_succ]
                try go_ints
                first
                  | (apply Flow.pass rfl (by rfl))
                  | (apply Flow.calmG _ rfl (by rfl)
                     · intro w' hb'
                       obtain ⟨hc', hf'⟩ := hb'.rule
                       go_simp
                       all_goals (try rfl))
                simp only [Act.put, List.setIfInBounds_toArray, List.set_cons_zero, List.set_cons_succ]
                try go_ints
                first
                  | (apply Flow.pass rfl (by rfl))
                  | (apply Flow.calmG _ rfl (by rfl)
                     · intro w' hb'
                       obtain ⟨hc', hf'⟩ := hb'.rule
                       go_simp
                       all_goals (try rfl))
                simp only [Act.put, List.setIfInBounds_toArray, List.set_cons_zero, List.set_cons_succ]
                try go_ints
                first
                  | (apply Flow.pass rfl (by rfl))
                  | (apply Flow.calmG _ rfl (by rfl)
                     · intro w' hb'
                       obtain ⟨hc', hf'⟩ := hb'.rule
                       go_simp
                       all_goals (try rfl))
                simp only [Act.put, List.setIfInBounds_toArray, List.set_cons_zero, List.set_cons_succ]
                try go_ints
                first
                  | (apply Flow.pass rfl (by rfl))
                  | (apply Flow.calmG _ rfl (by rfl)
                     · intro w' hb'
                       obtain ⟨hc', hf'⟩ := hb'.rule
                       go_simp
                       all_goals (try rfl))
                simp only [Act.put, List.setIfInBounds_toArray, List.set_cons_zero, List.set_cons_succ]
                try go_ints
                iterate 1
                  apply Flow.calm2 _ _ rfl rfl
                  · intro w' hb' K' hK'
                    obtain ⟨hc', hf'⟩ := hb'.rule
                    go_simp
                    try go_ints
                    exact hK'
                  · intro K' hK'
                    simp only [Act.put, List.setIfInBounds_toArray, List.set_cons_zero, List.set_cons_succ]
                    exact hK'
                refine Flow.done ?_
                have hbr2 := HBr.out.drew
                have HO2 := own_bl HOw.out (Bl.refl wr).drew
                have t2 : (0 + 1) * 8 ≤ 140737488355328 := by decide
                have t3 : 0 + 1 ≤ maxLen := by unfold maxLen; decide
                have t1 : w1.heap.size ≤ wr.drew.heap.size := hbr2.le
                go_upto_region 9 with fail
                generalize hwq : wr.drew = wq at hbr2 HO2 t1 ⊢
                clear hwq
                go_wp2_with (at_builtin; refine wpList_append_one (w1 := w1) rfl (.tmp 51) (.tmp 52) 62 rfl 3 (.int .i64 0) 8 Tryd.underlying62 info_int rfl w1.heap.size _ 0 [] rfl (.int .i64 1) rfl ?a1 ?a2 ?a3 ?a4 ?a5 ?a6 ?a7 ?a8; exact rfl; exact hbr2; exact Nat.le_refl _; exact t1; exact HO2; exact t2; exact t3; intro v' w8 hown8 hb8 hg8)
                have H9 := Lib.hid (show w8.ownsRow w1.heap.size 3 1 v' (runsP s 1).length (natCells (runsP s 1)) by rw [HP1.out]; exact hown8)
                have HB8 := Lib.hid hb8
                clear hown8 hb8 hg8
                go_wp2_with fail
                exact ⟨⟨1, v', by omega, by go_num, rfl, HB8.out, H9⟩, by simp [RowKit.intOf] <;> omega⟩
              · have hi1 : (0 : Int) < (i : Int) := by omega
                have hi1N : 0 < i := by omega
                obtain ⟨j, hj⟩ : ∃ j, j = i - 1 := ⟨_, rfl⟩
                have hjI : (i : Int) - 1 = (j : Int) := by omega
                have hjN : j < s.length := by omega
                have hgj : s[j]? = some s[j] := List.getElem?_eq_getElem (by omega)
                obtain ⟨b, hbb⟩ : ∃ b, b = s[j]'(by omega) := ⟨_, rfl⟩
                rw [← hbb] at hgj
                obtain ⟨n1, n2⟩ := bytes_at hgj
                have hP : runsP s i = (rn s i).1 ++ [(rn s i).2] := if_neg hi0
                have hP2 : runsP s (i + 1) = (rn s (i + 1)).1 ++ [(rn s (i + 1)).2] := if_neg (by omega)
                rw [hP] at hown
                obtain ⟨l, hll⟩ : ∃ l, l = (rn s i).1 := ⟨_, rfl⟩
                obtain ⟨q, hqq⟩ : ∃ q, q = (rn s i).2 := ⟨_, rfl⟩
                have hrs := rn_same (s := s) (i := i) (by omega)
                have hrn := rn_new (s := s) (i := i) (by omega)
                rw [← hll, ← hqq] at hrs hrn hown
                rw [← hll] at hle1
                rw [← hqq] at hle2
                rw [hg, show i - 1 = j from hj.symm, hgj] at hrs hrn
                have hlen : (l ++ [q]).length = l.length + 1 := by rw [List.length_append]; rfl
                rw [hlen] at hown
                obtain ⟨n, hn⟩ : ∃ n, n = l.length := ⟨_, rfl⟩
                have hnc : natCells (l ++ [q]) = natCells l ++ [.int .i64 (q : Int)] := by unfold natCells; rw [List.map_append]; rfl
                rw [hnc, ← hn] at hown
                rw [← hn] at hle1
                obtain ⟨g, cap, hv, hgB, -⟩ := own_some hown.out (by omega)
                subst hv
                have hkn : ((n : Int) + 1) - 1 = (n : Int) := by omega
                have HOw := Lib.hid hown.out; have HNl := Lib.hid hn; have HP2 := Lib.hid hP2; have HG := Lib.hid hgB
                clear hP hP2 hll hqq hown hlen hn hnc hg hgj hc hbb hj hgB
                by_cases hcb : c = b
                · have hst := hrs (by rw [hcb])
                  have HS := Lib.hid (show runsP s (i + 1) = l ++ [q + 1] by rw [HP2.out, hst])
                  subst hcb
                  have hcl : wr.cell? ⟨g, n, none⟩ = some (.int .i64 q) := own_cellAt HOw.out (by rw [List.getElem?_append_right (by rw [natCells_len, HNl.out]; omega), natCells_len, HNl.out, Nat.sub_self]; rfl)
                  have hfz := (own_blk HOw.out).2
                  have HSet := Lib.hid (show (wr.setCell ⟨g, n, none⟩ (.int .i64 ((q : Int) + 1))).ownsRow w1.heap.size 3 1 (.slice (some ⟨g, 0, none⟩) (n + 1) cap) (runsP s (i + 1)).length (natCells (runsP s (i + 1))) by
                    have h := ownsRow_set HOw.out n (.int .i64 ((q + 1 : Nat) : Int))
                    rw [HNl.out, run_last, ← HNl.out] at h
                    rw [HS.out, List.length_append, List.length_singleton, ← HNl.out]
                    unfold natCells at h ⊢
                    rw [List.map_append]
                    exact h)
                  clear hst hrs hrn
                  go_upto_region 7 with fail
                  refine wp_region_flow [(true, 0), (true, 1), (true, 2), (true, 3), (true, 4), (true, 5), (true, 6), (true, 7), (true, 8), (true, 9), (true, 10), (true, 11)] (fun _ => false) (by kernel_rfl) (by kernel_rfl) (by kernel_rfl) (by kernel_rfl) ?_
                  iterate 1
                    apply Flow.mv _ rfl
                    · intro K' hK'
                      simp only [Act.put, Act.eval, List.setIfInBounds_toArray, List.set_cons_zero, List.set_cons_succ, arr_getD, List.getD_cons_zero, List.getD_cons_succ]
                      exact hK'
                  iterate 1
                    apply Flow.calm2 _ _ rfl rfl
                    · intro w' hb' K' hK'
                      obtain ⟨hc', hf'⟩ := hb'.rule
                      go_simp
                      try go_ints
                      exact hK'
                    · intro K' hK'
                      simp only [Act.put, List.setIfInBounds_toArray, List.set_cons_zero, List.set_cons_succ]
                      exact hK'
                  iterate 1
                    apply Flow.mv _ rfl
                    · intro K' hK'
                      simp only [Act.put, Act.eval, List.setIfInBounds_toArray, List.set_cons_zero, List.set_cons_succ, arr_getD, List.getD_cons_zero, List.getD_cons_succ]
                      exact hK'
                  first
                    | (apply Flow.pass rfl (by rfl))
                    | (apply Flow.calmG _ rfl (by rfl)
                       · intro w' hb'
                         obtain ⟨hc', hf'⟩ := hb'.rule
                         go_simp
                         all_goals (try rfl))
                  simp only [Act.put, List.setIfInBounds_toArray, List.set_cons_zero, List.set_cons_succ]
                  try go_ints
                  first
                    | (apply Flow.pass rfl (by rfl))
                    | (apply Flow.calmG _ rfl (by rfl)
                       · intro w' hb'
                         obtain ⟨hc', hf'⟩ := hb'.rule
                         go_simp
                         all_goals (try rfl))
                  simp only [Act.put, List.setIfInBounds_toArray, List.set_cons_zero, List.set_cons_succ]
                  try go_ints
                  first
                    | (apply Flow.pass rfl (by rfl))
                    | (apply Flow.calmG _ rfl (by rfl)
                       · intro w' hb'
                         obtain ⟨hc', hf'⟩ := hb'.rule
                         go_simp
                         all_goals (try rfl))
                  simp only [Act.put, List.setIfInBounds_toArray, List.set_cons_zero, List.set_cons_succ]
                  try go_ints
                  first
                    | (apply Flow.pass rfl (by rfl))
                    | (apply Flow.calmG _ rfl (by rfl)
                       · intro w' hb'
                         obtain ⟨hc', hf'⟩ := hb'.rule
                         go_simp
                         all_goals (try rfl))
                  simp only [Act.put, List.setIfInBounds_toArray, List.set_cons_zero, List.set_cons_succ]
                  try go_ints
                  first
                    | (apply Flow.pass rfl (by rfl))
                    | (apply Flow.calmG _ rfl (by rfl)
                       · intro w' hb'
                         obtain ⟨hc', hf'⟩ := hb'.rule
                         go_simp
                         all_goals (try rfl))
                  simp only [Act.put, List.setIfInBounds_toArray, List.set_cons_zero, List.set_cons_succ]
                  try go_ints
                  first
                    | (apply Flow.pass rfl (by rfl))
                    | (apply Flow.calmG _ rfl (by rfl)
                       · intro w' hb'
                         obtain ⟨hc', hf'⟩ := hb'.rule
                         go_simp
                         all_goals (try rfl))
                  simp only [Act.put, List.setIfInBounds_toArray, List.set_cons_zero, List.set_cons_succ]
                  try go_ints
                  first
                    | (apply Flow.pass rfl (by rfl))
                    | (apply Flow.calmG _ rfl (by rfl)
                       · intro w' hb'
                         obtain ⟨hc', hf'⟩ := hb'.rule
                         go_simp
                         all_goals (try rfl))
                  simp only [Act.put, List.setIfInBounds_toArray, List.set_cons_zero, List.set_cons_succ]
                  try go_ints
                  first
                    | (apply Flow.pass rfl (by rfl))
                    | (apply Flow.calmG _ rfl (by rfl)
                       · intro w' hb'
                         obtain ⟨hc', hf'⟩ := hb'.rule
                         go_simp
                         all_goals (try rfl))
                  simp only [Act.put, List.setIfInBounds_toArray, List.set_cons_zero, List.set_cons_succ]
                  try go_ints
                  iterate 1
                    apply Flow.calm2 _ _ rfl rfl
                    · intro w' hb' K' hK'
                      obtain ⟨hc', hf'⟩ := hb'.rule
                      go_simp
                      try go_ints
                      exact hK'
                    · intro K' hK'
                      simp only [Act.put, List.setIfInBounds_toArray, List.set_cons_zero, List.set_cons_succ]
                      exact hK'
                  refine Flow.done ?_
                  go_wp2_with fail
                  exact ⟨⟨i + 1, _, by omega, by go_num, rfl, HBr.out.drew.setCell HG.out _, HSet⟩, by simp [RowKit.intOf] <;> omega⟩
                · have hst := hrn (fun e => hcb (Option.some.inj e))
                  have HS := Lib.hid (show runsP s (i + 1) = (l ++ [q]) ++ [1] by rw [HP2.out, hst])
                  have hbne : ((c.toNat : Int) == (b.toNat : Int)) = false := by rw [beq_eq_false_iff_ne]; exact fun e => hcb (UInt8.toNat_inj.1 (by omega))
                  have hbn2 : ¬ ((c.toNat : Int) = (b.toNat : Int)) := fun e => hcb (UInt8.toNat_inj.1 (by omega))
                  have t1 : w1.heap.size ≤ wr.heap.size := HBr.out.le
                  have t2 : (n + 1 + 1) * 8 ≤ 140737488355328 := by omega
                  have t3 : n + 1 + 1 ≤ maxLen := by unfold maxLen; omega
                  clear hst hrs hrn hcb
                  go_upto_region 7 with fail
                  refine wp_region_flow [(true, 0), (true, 1), (true, 2), (true, 3), (true, 4), (true, 5), (true, 6), (true, 7), (true, 8), (true, 9), (true, 10), (true, 11)] (fun _ => false) (by kernel_rfl) (by kernel_rfl) (by kernel_rfl) (by kernel_rfl) ?_
                  iterate 1
                    apply Flow.mv _ rfl
                    · intro K' hK'
                      simp only [Act.put, Act.eval, List.setIfInBounds_toArray, List.set_cons_zero, List.set_cons_succ, arr_getD, List.getD_cons_zero, List.getD_cons_succ]
                      exact hK'
                  iterate 1
                    apply Flow.calm2 _ _ rfl rfl
                    · intro w' hb' K' hK'
                      obtain ⟨hc', hf'⟩ := hb'.rule
                      go_simp
                      try go_ints
                      exact hK'
                    · intro K' hK'
                      simp only [Act.put, List.setIfInBounds_toArray, List.set_cons_zero, List.set_cons_succ]
                      exact hK'
                  iterate 1
                    apply Flow.mv _ rfl
                    · intro K' hK'
                      simp only [Act.put, Act.eval, List.setIfInBounds_toArray, List.set_cons_zero, List.set_cons_succ, arr_getD, List.getD_cons_zero, List.getD_cons_succ]
                      exact hK'
                  first
                    | (apply Flow.pass rfl (by rfl))
                    | (apply Flow.calmG _ rfl (by rfl)
                       · intro w' hb'
                         obtain ⟨hc', hf'⟩ := hb'.rule
                         go_simp
                         all_goals (try rfl))
                  simp only [Act.put, List.setIfInBounds_toArray, List.set_cons_zero, List.set_cons_succ]
                  try go_ints
                  first
                    | (apply Flow.pass rfl (by rfl))
                    | (apply Flow.calmG _ rfl (by rfl)
                       · intro w' hb'
                         obtain ⟨hc', hf'⟩ := hb'.rule
                         go_simp
                         all_goals (try rfl))
                  simp only [Act.put, List.setIfInBounds_toArray, List.set_cons_zero, List.set_cons_succ]
                  try go_ints
                  first
                    | (apply Flow.pass rfl (by rfl))
                    | (apply Flow.calmG _ rfl (by rfl)
                       · intro w' hb'
                         obtain ⟨hc', hf'⟩ := hb'.rule
                         go_simp
                         all_goals (try rfl))
                  simp only [Act.put, List.setIfInBounds_toArray, List.set_cons_zero, List.set_cons_succ]
                  try go_ints
                  first
                    | (apply Flow.pass rfl (by rfl))
                    | (apply Flow.calmG _ rfl (by rfl)
                       · intro w' hb'
                         obtain ⟨hc', hf'⟩ := hb'.rule
                         go_simp
                         all_goals (try rfl))
                  simp only [Act.put, List.setIfInBounds_toArray, List.set_cons_zero, List.set_cons_succ]
                  try go_ints
                  first
                    | (apply Flow.pass rfl (by rfl))
                    | (apply Flow.calmG _ rfl (by rfl)
                       · intro w' hb'
                         obtain ⟨hc', hf'⟩ := hb'.rule
                         go_simp
                         all_goals (try rfl))
                  simp only [Act.put, List.setIfInBounds_toArray, List.set_cons_zero, List.set_cons_succ]
                  try go_ints
                  first
                    | (apply Flow.pass rfl (by rfl))
                    | (apply Flow.calmG _ rfl (by rfl)
                       · intro w' hb'
                         obtain ⟨hc', hf'⟩ := hb'.rule
                         go_simp
                         all_goals (try rfl))
                  simp only [Act.put, List.setIfInBounds_toArray, List.set_cons_zero, List.set_cons_succ]
                  try go_ints
                  first
                    | (apply Flow.pass rfl (by rfl))
                    | (apply Flow.calmG _ rfl (by rfl)
                       · intro w' hb'
                         obtain ⟨hc', hf'⟩ := hb'.rule
                         go_simp
                         all_goals (try rfl))
                  simp only [Act.put, List.setIfInBounds_toArray, List.set_cons_zero, List.set_cons_succ]
                  try go_ints
                  first
                    | (apply Flow.pass rfl (by rfl))
                    | (apply Flow.calmG _ rfl (by rfl)
                       · intro w' hb'
                         obtain ⟨hc', hf'⟩ := hb'.rule
                         go_simp
                         all_goals (try rfl))
                  simp only [Act.put, List.setIfInBounds_toArray, List.set_cons_zero, List.set_cons_succ]
                  try go_ints
                  iterate 1
                    apply Flow.calm2 _ _ rfl rfl
                    · intro w' hb' K' hK'
                      obtain ⟨hc', hf'⟩ := hb'.rule
                      go_simp
                      try go_ints
                      exact hK'
                    · intro K' hK'
                      simp only [Act.put, List.setIfInBounds_toArray, List.set_cons_zero, List.set_cons_succ]
                      exact hK'
                  refine Flow.done ?_
                  have hbr2 := HBr.out.drew
                  have t1' : w1.heap.size ≤ wr.drew.heap.size := hbr2.le
                  have HO2 := own_bl HOw.out (Bl.refl wr).drew
                  go_upto_region 9 with fail
                  generalize hwq : wr.drew = wq at hbr2 HO2 t1' ⊢
                  clear hwq
                  go_wp2_with (at_builtin; refine wpList_append_one (w1 := w1) rfl (.tmp 51) (.tmp 52) 62 rfl 3 (.int .i64 0) 8 Tryd.underlying62 info_int rfl w1.heap.size _ (n + 1) (natCells l ++ [.int .i64 q]) rfl (.int .i64 1) rfl ?e1 ?e2 ?e3 ?e4 ?e5 ?e6 ?e7 ?e8; exact rfl; exact hbr2; exact Nat.le_refl _; exact t1'; exact HO2; exact t2; exact t3; intro v' w8 hown8 hb8 hg8)
                  have H9 := Lib.hid (show w8.ownsRow w1.heap.size 3 1 v' (runsP s (i + 1)).length (natCells (runsP s (i + 1))) by
                    rw [HS.out, List.length_append, List.length_append, List.length_singleton, List.length_singleton, ← HNl.out]
                    unfold natCells at hown8 ⊢
                    rw [List.map_append, List.map_append]
                    exact hown8)
                  have HB8 := Lib.hid hb8
                  clear hown8 hb8 hg8 HO2
                  go_wp2_with fail
                  exact ⟨⟨i + 1, v', by omega, by go_num, rfl, HB8.out, H9⟩, by simp [RowKit.intOf] <;> omega⟩
            · obtain rfl : i = s.length := by omega
              have hP : runsP s s.length = runsM s := if_neg (by omega)
              rw [hP] at hown
              obtain ⟨A2, c2, e2, hr2⟩ := own_reads hown.out
              have hcap := own_cap (show wr.ownsRow w1.heap.size 3 1 (.slice A2 (runsM s).length c2) (runsM s).length (natCells (runsM s)) from e2 ▸ hown.out)
              subst e2
              have HRr := Lib.hid hr2; have HCap := Lib.hid hcap
              clear hr2 hown hcap hP
              go_wp2_with fail
              refine bodyPost_ret (v := .tuple #[.slice A2 (runsM s).length c2, .bool true]) (by simp [results, Tryd.results196, go_sem]) rfl ⟨A2, _, c2, by rw [HB.out], fun h => (by rw [HB.out] at h; cases h), fun _ => ⟨rfl, HRr.out, HCap.out⟩, HB1.out.trans HBr.out⟩

end Go.Proofs.YtjelhdpcaileiaaDoor


/-! Code 39 in plain lists: the text that is read. -/
namespace Go.Proofs.YtjelhdpcaileiaaDoor
open Go.RowKit

def txt (ks : List Nat) : List UInt8 := ks.map fun k => lets44.getD k 0
def outR (s : List UInt8) : Option (List UInt8) := if lenOK s = true then (decP (runsM s)).map txt else none
def midT (t : List UInt8) : List UInt8 := (t.drop 1).take (t.length - 2)
def bodyT (t : List UInt8) : List UInt8 := (t.drop 1).take (t.length - 3)
def lastT (t : List UInt8) : List UInt8 := (t.drop (t.length - 2)).take 1
def shpT (t : List UInt8) : Bool := decide (4 ≤ t.length) && (decide (t.length ≤ 43) && (t.getD 0 0 == 42 && (t.getD (t.length - 1) 0 == 42 && !(midT t).contains 42)))
def rd39 (s : List UInt8) : List UInt8 × Int := match outR s with
  | none => ([], 2)
  | some t => if shpT t = true then (if letVal (bodyT t) = lastT t then (bodyT t, 0) else ([], 14)) else ([], 2)
theorem outR_made {s : List UInt8} (h : madeOf s [48, 49] = true) : outR s = (decM s).map txt := by
  unfold outR
  cases hl : lenOK s with
  | true => rw [if_pos rfl, dec_same (runsM_spec hl).2 (runsM_spec hl).1]
  | false => rw [if_neg (by decide), decM_bad h hl]; rfl
theorem lenOK_made {s : List UInt8} (h : madeOf s [48, 49] = false) : lenOK s = false := by
  unfold lenOK
  rw [h]
  simp
theorem outR_not {s : List UInt8} (h : madeOf s [48, 49] = false) : outR s = none := by
  unfold outR
  rw [lenOK_made h, if_neg (by decide)]
theorem rd_none {s : List UInt8} (h : outR s = none) : rd39 s = ([], 2) := by unfold rd39; rw [h]
theorem rd_shape {s t : List UInt8} (h : outR s = some t) (hs : shpT t = false) : rd39 s = ([], 2) := by unfold rd39; rw [h]; simp only [hs]; rfl
theorem rd_some {s t : List UInt8} (h : outR s = some t) (hs : shpT t = true) : rd39 s = if letVal (bodyT t) = lastT t then (bodyT t, 0) else ([], 14) := by unfold rd39; rw [h]; simp only [hs]; rfl
theorem txt_len (ks : List Nat) : (txt ks).length = ks.length := by unfold txt; rw [List.length_map]
theorem txt_add (ks : List Nat) (k : Nat) : txt (ks ++ [k]) = txt ks ++ [lets44.getD k 0] := by unfold txt; rw [List.map_append]; rfl
/-- A text of three parts. -/
theorem three {t : List UInt8} (h : 4 ≤ t.length) : t = t.getD 0 0 :: (midT t ++ [t.getD (t.length - 1) 0]) := by
  have h0 : t[0]? = some (t.getD 0 0) := by rw [List.getD_eq_getElem?_getD, List.getElem?_eq_getElem (by omega)]; rfl
  have hz : t[t.length - 1]? = some (t.getD (t.length - 1) 0) := by rw [List.getD_eq_getElem?_getD, List.getElem?_eq_getElem (by omega)]; rfl
  apply List.ext_getElem?
  intro i
  cases i with
  | zero => exact h0
  | succ i =>
    rw [List.getElem?_cons_succ]
    have hm : (midT t).length = t.length - 2 := by unfold midT; rw [List.length_take, List.length_drop]; omega
    by_cases h1 : i < t.length - 2
    · rw [List.getElem?_append_left (by omega)]
      unfold midT
      rw [List.getElem?_take_of_lt h1, List.getElem?_drop, Nat.add_comm]
    · rw [List.getElem?_append_right (by omega), hm]
      by_cases h2 : i = t.length - 2
      · rw [h2, Nat.sub_self, show t.length - 2 + 1 = t.length - 1 by omega, hz]
        rfl
      · rw [List.getElem?_eq_none (by omega), List.getElem?_eq_none (by simp; omega)]
theorem count_three {t : List UInt8} (h : 4 ≤ t.length) (h0 : t.getD 0 0 = 42) (hz : t.getD (t.length - 1) 0 = 42) : (Lib.countByte t 42 = 2) ↔ (midT t).contains 42 = false := by
  unfold Lib.countByte
  have e := three h
  rw [h0, hz] at e
  have hc : t.count 42 = (midT t).count 42 + 2 := by
    conv => lhs; rw [e]
    rw [List.count_cons_self, List.count_append]
    rfl
  rw [hc]
  constructor
  · intro h
    have : (midT t).count 42 = 0 := by omega
    have := List.count_eq_zero.1 this
    simpa using this
  · intro h
    have : 42 ∉ midT t := by simpa using h
    rw [List.count_eq_zero.2 this]
theorem txt_mem {ks : List Nat} (h : ∀ k ∈ ks, k < 44) : ∀ c ∈ txt ks, c ∈ lets44 := by
  intro c hc
  obtain ⟨k, hk, rfl⟩ := List.mem_map.1 hc
  have : ∀ k < 44, lets44.getD k 0 ∈ lets44 := by decide +kernel
  exact this k (h k hk)
theorem let_or : ∀ c ∈ lets44, c = 42 ∨ isLet c = true := by
  have : ∀ c ∈ lets44, (c == 42 || isLet c) = true := by decide +kernel
  intro c hc
  simpa using this c hc
theorem mid_ok {t : List UInt8} (hm : ∀ c ∈ t, c ∈ lets44) (h : (midT t).contains 42 = false) : lettersOk (midT t) = true := by
  unfold lettersOk
  rw [List.all_eq_true]
  intro c hc
  have hct : c ∈ t := by unfold midT at hc; exact List.mem_of_mem_drop (List.mem_of_mem_take hc)
  rcases let_or c (hm c hct) with rfl | h'
  · have : 42 ∉ midT t := by simpa using h
    exact absurd hc this
  · exact h'
theorem body_mid {t : List UInt8} (h : 4 ≤ t.length) : bodyT t = (midT t).take (t.length - 3) ∧ midT t = bodyT t ++ lastT t := by
  constructor
  · unfold bodyT midT
    rw [List.take_take, Nat.min_eq_left (by omega)]
  · unfold midT bodyT lastT
    obtain ⟨n, hn⟩ : ∃ n, t.length = n + 3 := ⟨t.length - 3, by omega⟩
    rw [hn, show n + 3 - 2 = n + 1 by omega, show n + 3 - 3 = n by omega, List.take_add_one, List.getElem?_drop, show 1 + n = n + 1 by omega]
    congr 1
    rw [List.take_one, List.head?_drop]
theorem body_ok {t : List UInt8} (hm : ∀ c ∈ t, c ∈ lets44) (hs : shpT t = true) : lettersOk (bodyT t) = true ∧ 1 ≤ (bodyT t).length ∧ (bodyT t).length ≤ 40 ∧ letErr (bodyT t) = 0 := by
  unfold shpT at hs
  simp only [Bool.and_eq_true, decide_eq_true_eq, beq_iff_eq, Bool.not_eq_true'] at hs
  obtain ⟨h4, h43, h0, hz, hc⟩ := hs
  have h1 := mid_ok hm hc
  have hb : lettersOk (bodyT t) = true := by
    rw [(body_mid h4).1]
    unfold lettersOk at h1 ⊢
    rw [List.all_eq_true] at h1 ⊢
    exact fun x hx => h1 x (List.mem_of_mem_take hx)
  have hl : (bodyT t).length = t.length - 3 := by unfold bodyT; rw [List.length_take, List.length_drop]; omega
  refine ⟨hb, by omega, by omega, ?_⟩
  unfold letErr
  rw [if_neg (fun e => by rw [e] at hl; simp at hl; omega), if_neg (by omega), if_pos hb]
/-! the map of the pieces -/
def tabN : Nat → List (List UInt8 × Nat)
  | 0 => []
  | k + 1 => (pieceK k, k) :: tabN k
theorem tabN_look (p : List UInt8) : ∀ n, n ≤ 44 → ∀ j, (tabN n).lookup p = some j ↔ j < n ∧ pieceK j = p
  | 0, _, j => by simp [tabN]
  | n + 1, hn, j => by
    have ih := tabN_look p n (by omega) j
    unfold tabN
    rw [List.lookup]
    by_cases h : p = pieceK n
    · subst h
      simp only [beq_self_eq_true]
      constructor
      · intro e; obtain rfl := Option.some.inj e; exact ⟨by omega, rfl⟩
      · rintro ⟨h1, h2⟩; rw [pieceK_inj j (by omega) n (by omega) h2]
    · have hb : (p == pieceK n) = false := by simpa using h
      simp only [hb]
      rw [ih]
      constructor
      · rintro ⟨h1, h2⟩; exact ⟨by omega, h2⟩
      · rintro ⟨h1, h2⟩
        refine ⟨?_, h2⟩
        rcases Nat.lt_or_ge j n with h3 | h3
        · exact h3
        · exact absurd (by rw [show j = n by omega] at h2; exact h2.symm) h
theorem tabN_find (p : List UInt8) : (tabN 44).lookup p = (List.range 44).find? fun k => pieceK k == p := by
  cases hf : (List.range 44).find? fun k => pieceK k == p with
  | some k =>
    obtain ⟨h1, h2⟩ := find_range hf
    exact (tabN_look p 44 (Nat.le_refl _) k).2 ⟨h1, by simpa using h2⟩
  | none =>
    cases hl : (tabN 44).lookup p with
    | none => rfl
    | some j =>
      obtain ⟨h1, h2⟩ := (tabN_look p 44 (Nat.le_refl _) j).1 hl
      have := List.find?_eq_none.1 hf j (List.mem_range.2 h1)
      exact absurd (by simpa using h2) this
theorem parts_none_dec {rs : List Nat} {j : Nat} (hj : 10 * j < rs.length) (hg : gP rs j = none) : decP rs = none := by
  unfold decP
  by_cases h : rs.length % 10 = 9
  · rw [if_pos h, partsP_eq]
    exact partsG_none_of (by omega) hg
  · rw [if_neg h]
theorem partsP_step {rs : List Nat} {j : Nat} {ks : List Nat} {k : Nat} (h : partsP rs j = some ks) (hg : gP rs j = some k) : partsP rs (j + 1) = some (ks ++ [k]) := by
  rw [partsP_eq] at h ⊢
  exact partsG_some h hg
theorem partsP_lt {rs : List Nat} {j : Nat} {ks : List Nat} (h : partsP rs j = some ks) : ks.length = j ∧ ∀ k ∈ ks, k < 44 := by
  rw [partsP_eq, partsG_iff] at h
  refine ⟨h.1, fun k hk => ?_⟩
  obtain ⟨i, hi, rfl⟩ := List.getElem_of_mem hk
  exact ((gP_iff _ _ _).1 (h.2 i _ (List.getElem?_eq_getElem hi))).2.1

end Go.Proofs.YtjelhdpcaileiaaDoor


/-! bar.read39: what is read of modules as they are. -/
namespace Go.Proofs.YtjelhdpcaileiaaDoor
open Go.RowKit Go.Shelf

def natV (n : Nat) : Value := .int .i64 (n : Int)
theorem nat_cell {w : World} {ad : Addr} {m : Nat} {rs : List Nat} {i n : Nat} (h : Reads w 1 (some ad) m (natCells rs)) (hi : rs[i]? = some n) : w.cell? (ad.add i) = some (.int .i64 (n : Int)) := by
  have hlt := (List.getElem?_eq_some_iff.1 hi).1
  have hl : (natCells rs).length = rs.length := natCells_len rs
  have hm := h.1
  obtain ⟨ad', e, hc⟩ := h.2 (by omega)
  obtain rfl := Option.some.inj e
  refine hc i _ ?_
  unfold natCells
  rw [List.getElem?_map, hi]
  rfl
set_option maxRecDepth 1000000 in
set_option maxHeartbeats 16000000 in
theorem read39_any (s : List UInt8) (w : World) (hl : s.length ≤ 1048576) (hT : SpOk w) :
    Calls Tryd.prog 150 #[.string ⟨s.toArray⟩] w fun e w' => e = .returned (.tuple #[.string ⟨(rd39 s).1.toArray⟩, .int .i64 (rd39 s).2]) ∧ Bl w w' := by
  have HT := Lib.hid hT
  have Hle := Lib.hid (lengths_any s w hl)
  clear hT
  go_enter Tryd.func150, Tryd.ntmps150
  go_wp2_with fail
  refine Hle.out.mono ?_
  rintro e w1 ⟨R, m, d, rfl, hbad, hgood, hb1⟩
  cases hok : lenOK s with
  | false =>
    obtain ⟨rfl, rfl⟩ := hbad hok
    have HR := Lib.hid (rd_none (s := s) (by unfold outR; rw [hok, if_neg (by decide)]))
    clear hok hbad hgood Hle
    go_wp2_with fail
    exact bodyPost_ret (v := .tuple #[.string ⟨#[]⟩, .int .i64 2]) (by simp [results, Tryd.results150, go_sem]) rfl ⟨by rw [HR.out], hb1⟩
  | true =>
    obtain ⟨hm, hrd, hmd⟩ := hgood hok
    have hOut : outR s = (decP (runsM s)).map txt := by unfold outR; rw [hok, if_pos rfl]
    obtain ⟨rs, hrs⟩ : ∃ rs, rs = runsM s := ⟨_, rfl⟩
    rw [← hrs] at hm hrd hOut
    have hlen := rn_len s s.length
    have hml : m ≤ 1048577 := by
      rw [hm, hrs]
      unfold runsM
      rw [List.length_append, List.length_singleton]
      omega
    have HOut := Lib.hid hOut; have HRd := Lib.hid hrd; have HM := Lib.hid hm; have HB1 := Lib.hid hb1
    by_cases h9 : m % 10 = 9
    · obtain ⟨ad, u0, rfl, -, -⟩ := hrd.at_ (k := 0) (by omega)
      have hm9 : (m : Int) % 10 = 9 := by omega
      have HM9 := Lib.hid h9
      clear hbad hgood hok hrd hOut hrs hlen hm hb1 Hle h9
      have hmm := @run_makeMap Tryd.prog
      have hmt := Tryd.underlying214
      go_wp2_with fail
      obtain ⟨b0, hb0⟩ : ∃ b, b = w1.heap.size := ⟨_, rfl⟩
      have hm0 : MapL strV natV (w1.alloc (.map #[] 0)) b0 ([] : List (List UInt8 × Nat)) := by rw [hb0]; exact MapL.new _
      have hb2 : Bl w1 (w1.alloc (.map #[] 0)) := (Bl.refl _).alloc _
      have HB0 := Lib.hid (show w1.heap.size ≤ b0 by rw [hb0]; exact Nat.le_refl _)
      rw [← hb0]
      generalize w1.alloc (.map #[] 0) = w2 at hm0 hb2 ⊢
      clear hb0 hmm
      refine (pieces_any _ (HT.out.bl (HB1.out.trans hb2))).mono ?_
      rintro e w3 ⟨gp, rfl, hr3, hb3⟩
      have hm3 := hm0.bl hb3
      have HGb := Lib.hid (show gp ≠ b0 from by
        obtain ⟨es, c, h1⟩ := hm3.block
        exact map_ne h1 hr3 (by decide))
      have HSt := Lib.hid (And.intro (hb2.trans hb3) (And.intro hr3 hm3))
      clear hm0 hb2 hr3 hb3 hm3
      go_wp2_with fail
      go_loopw [35] (fun v wr => ∃ d : Nat, d ≤ 44 ∧ v = .int .i64 d ∧ Bl w1 wr ∧ Reads wr 1 (some ⟨gp, 0, none⟩) pieceC.length (strCells' pieceC) ∧ MapL strV natV wr b0 (tabN d)) (fun v _ => 44 - (RowKit.intOf v).toNat)
      case atStart => exact ⟨0, Nat.zero_le _, rfl, HSt.out.1, HSt.out.2.1, HSt.out.2.2⟩
      case round =>
        rename World => wr
        obtain ⟨k, hk, rfl, hbr, hrr, hmr⟩ := hrel
        by_cases hlt : k < 44
        · obtain ⟨ad', ea, c0⟩ := str_at hrr (pieceC_at k hlt)
          obtain rfl := Option.some.inj ea
          rw [add_flat] at c0
          have hkI : (k : Int) < (pieceC.length : Int) := by show (k : Int) < 44; omega
          obtain ⟨w10, hu1, hm10, ho10⟩ := hmr.update (string_kind (P := Tryd.prog) Tryd.underlying9) hmt (pieceK k) k
          obtain ⟨P, hP⟩ : ∃ P, P = pieceK k := ⟨_, rfl⟩
          have hst : tabN (k + 1) = (pieceK k, k) :: tabN k := rfl
          rw [← hst] at hm10
          have hu1' : (Instr.mapUpdate 214 (.map (some b0)) (.string ⟨P.toArray⟩) (.int .i64 (k : Int))).run Tryd.prog wr = .ok () w10 := by rw [hP]; exact hu1
          rw [← hP] at c0
          have HM12 := Lib.hid hm10
          have HB12 := Lib.hid (ho10.2.2 w1 hbr HB0.out)
          have HR12 := Lib.hid (reads_heap hrr (ho10.1 gp HGb.out))
          clear hu1 hm10 ho10 hbr hrr hmr hP hst
          go_wp2_with fail
          exact ⟨⟨k + 1, by omega, by go_num, HB12.out, HR12.out, HM12.out⟩, by simp [RowKit.intOf] <;> omega⟩
        · obtain rfl : k = 44 := by omega
          have hkI : ¬ ((44 : Int) < (pieceC.length : Int)) := by show ¬ ((44 : Int) < 44); decide
          have HMp := Lib.hid hmr; have HBr := Lib.hid hbr
          clear hmr hbr hrr
          go_wp2_with fail
          have hmt2 := Tryd.underlying215
          go_loopw [9, 10] (fun s9 s10 wx => ∃ (j : Nat) (ks : List Nat), 10 * j ≤ m + 1 ∧ s10 = .int .i64 ((10 * j : Nat) : Int) ∧ partsP rs j = some ks ∧ s9 = .string ⟨(txt ks).toArray⟩ ∧ Bl wr wx) (fun _ v _ => m + 10 - (RowKit.intOf v).toNat)
          case atStart => exact ⟨0, [], by omega, rfl, rfl, rfl, Bl.refl _⟩
          case round =>
            rename World => wx
            obtain ⟨j, ks, hj, rfl, hps, rfl, hbx⟩ := hrel
            obtain ⟨hkl, hk44⟩ := partsP_lt hps
            obtain ⟨i, hi⟩ : ∃ i, i = 10 * j := ⟨_, rfl⟩
            rw [← hi] at hj ⊢
            have HPs := Lib.hid hps; have HBx := Lib.hid hbx; have HI := Lib.hid hi; have HK44 := Lib.hid hk44
            have htl := txt_len ks
            obtain ⟨T, hT⟩ : ∃ T, T = txt ks := ⟨_, rfl⟩
            rw [← hT] at htl ⊢
            have HTx := Lib.hid hT
            have hTl : T.length ≤ 1048577 := by omega
            clear hps hbx hT hk44
            by_cases hlt : i < m
            · have hm9 := HM9.out
              have hi9 : i + 9 ≤ m := by omega
              have hid : i + 9 ≤ d := by omega
              have hltI : (i : Int) < (m : Int) := by omega
              have HKl := Lib.hid hkl; have HTl := Lib.hid htl
              clear hi hkl htl hm9
              go_upto_region 15 with fail
              go_wp2_with fail
              try rw [show i + 9 - i = 9 from Nat.add_sub_cancel_left _ _]
              go_loopw [11, 56] (fun s11 s56 wy => ∃ x : Nat, x ≤ 9 ∧ s56 = .int .i64 (x : Int) ∧ s11 = .string ⟨(pat ((rs.drop i).take x)).toArray⟩ ∧ ((rs.drop i).take x).all (fun n => n == 1 || n == 3) = true ∧ Bl wx wy) (fun _ v _ => 9 - (RowKit.intOf v).toNat)
              case atStart => exact ⟨0, Nat.zero_le _, rfl, rfl, rfl, Bl.refl _⟩
              case round =>
                rename World => wy
                obtain ⟨x, hx, rfl, rfl, hall, hby⟩ := hrel
                have HAl := Lib.hid hall; have HBy := Lib.hid hby
                by_cases hxt : x < 9
                · have hixm : i + x < rs.length := by have := HM.out; omega
                  obtain ⟨n, hn⟩ : ∃ n, rs[i + x]? = some n := ⟨_, List.getElem?_eq_getElem hixm⟩
                  have hcx := nat_cell (HRd.out.bl (HBr.out.trans (HBx.out.trans hby))) hn
                  have hcx2 : wy.cell? ((ad.add i).add x) = some (.int .i64 (n : Int)) := by rw [add_of_add]; exact hcx
                  have hgx : (rs.drop i)[x]? = some n := by rw [List.getElem?_drop]; exact hn
                  have HTk := Lib.hid (show (rs.drop i).take (x + 1) = (rs.drop i).take x ++ [n] by rw [List.take_add_one, hgx]; rfl)
                  have hpt : pat ((rs.drop i).take (x + 1)) = pat ((rs.drop i).take x) ++ [if n = 3 then 119 else 110] := by rw [HTk.out]; unfold pat; rw [List.map_append]; rfl
                  obtain ⟨M, hM⟩ : ∃ M, M = pat ((rs.drop i).take x) := ⟨_, rfl⟩
                  have hMl : M.length ≤ 9 := by rw [hM]; unfold pat; rw [List.length_map, List.length_take]; omega
                  rw [← hM] at hpt ⊢
                  have hsM : (⟨M.toArray⟩ : ByteArray).size = M.length := Lib.size_mk M
                  have HPt := Lib.hid hpt
                  have HGx := Lib.hid hgx
                  clear hpt hM hn hgx hall hby
                  by_cases h1 : n = 1
                  · obtain rfl : n = 1 := h1
                    have HSt := Lib.hid (show pat ((rs.drop i).take (x + 1)) = M ++ [110] from HPt.out)
                    have HAl2 := Lib.hid (show ((rs.drop i).take (x + 1)).all (fun n => n == 1 || n == 3) = true by rw [HTk.out, List.all_append, HAl.out]; rfl)
                    have hoM : ¬ (9223372036854775807 < M.length + 1) := by omega
                    have hcat : (⟨M.toArray⟩ : ByteArray) ++ ⟨#[110]⟩ = ⟨(M ++ [110]).toArray⟩ := cat_two M [110]
                    clear HPt
                    go_upto_region 20 with fail
                    obtain ⟨K, hK⟩ : ∃ K, K = wy.heap.size := ⟨_, rfl⟩
                    have q0 : MapL (fun z : Int => .int .i64 z) strV (wy.alloc (.map #[] 0)) K ([] : List (Int × List UInt8)) := by rw [hK]; exact MapL.new _
                    have q1 : Bl wy (wy.alloc (.map #[] 0)) := (Bl.refl _).alloc _
                    have hKl : wy.heap.size ≤ K := by rw [hK]; exact Nat.le_refl _
                    have hmk : ∀ t, (Instr.makeMap t none).run Tryd.prog wy = .ok (.map (some K)) (wy.alloc (.map #[] 0)) := fun t => by rw [hK]; exact run_makeMap t wy
                    generalize wy.alloc (.map #[] 0) = w20 at q0 q1 hmk
                    obtain ⟨w21, q2, q3, q4⟩ := q0.update (int_kind (P := Tryd.prog) Tryd.underlying3) hmt2 1 [110]
                    obtain ⟨w22, q5, q6, q7⟩ := q3.update (int_kind (P := Tryd.prog) Tryd.underlying3) hmt2 3 [119]
                    have q2' : (Instr.mapUpdate 215 (.map (some K)) (.int .i64 1) (.string ⟨#[110]⟩)).run Tryd.prog w20 = .ok () w21 := q2
                    have q5' : (Instr.mapUpdate 215 (.map (some K)) (.int .i64 3) (.string ⟨#[119]⟩)).run Tryd.prog w21 = .ok () w22 := q5
                    have q8 := q6.lookup1 (int_kind (P := Tryd.prog) Tryd.underlying3) hmt2 (Tryd.zeroValue9 w22) 1
                    have q8' : (Instr.lookup 215 (.map (some K)) (.int .i64 1) false).run Tryd.prog w22 = .ok (.string ⟨#[110]⟩) w22 := q8
                    have HB22 := Lib.hid (HBy.out.trans (q7.2.2 wy (q4.2.2 wy q1 hKl) hKl))
                    clear q0 q1 q2 q3 q4 q5 q6 q7 q8 hK hKl
                    go_wp2_with fail
                    exact ⟨⟨x + 1, by omega, by go_num, by rw [HSt.out, ← hcat], HAl2.out, HB22.out⟩, by simp [RowKit.intOf] <;> omega⟩
                  · by_cases h3 : n = 3
                    · obtain rfl : n = 3 := h3
                      have HSt := Lib.hid (show pat ((rs.drop i).take (x + 1)) = M ++ [119] from HPt.out)
                      have HAl2 := Lib.hid (show ((rs.drop i).take (x + 1)).all (fun n => n == 1 || n == 3) = true by rw [HTk.out, List.all_append, HAl.out]; rfl)
                      have hoM : ¬ (9223372036854775807 < M.length + 1) := by omega
                      have hcat : (⟨M.toArray⟩ : ByteArray) ++ ⟨#[119]⟩ = ⟨(M ++ [119]).toArray⟩ := cat_two M [119]
                      clear HPt
                      go_upto_region 20 with fail
                      obtain ⟨K, hK⟩ : ∃ K, K = wy.heap.size := ⟨_, rfl⟩
                      have q0 : MapL (fun z : Int => .int .i64 z) strV (wy.alloc (.map #[] 0)) K ([] : List (Int × List UInt8)) := by rw [hK]; exact MapL.new _
                      have q1 : Bl wy (wy.alloc (.map #[] 0)) := (Bl.refl _).alloc _
                      have hKl : wy.heap.size ≤ K := by rw [hK]; exact Nat.le_refl _
                      have hmk : ∀ t, (Instr.makeMap t none).run Tryd.prog wy = .ok (.map (some K)) (wy.alloc (.map #[] 0)) := fun t => by rw [hK]; exact run_makeMap t wy
                      generalize wy.alloc (.map #[] 0) = w20 at q0 q1 hmk
                      obtain ⟨w21, q2, q3, q4⟩ := q0.update (int_kind (P := Tryd.prog) Tryd.underlying3) hmt2 1 [110]
                      obtain ⟨w22, q5, q6, q7⟩ := q3.update (int_kind (P := Tryd.prog) Tryd.underlying3) hmt2 3 [119]
                      have q2' : (Instr.mapUpdate 215 (.map (some K)) (.int .i64 1) (.string ⟨#[110]⟩)).run Tryd.prog w20 = .ok () w21 := q2
                      have q5' : (Instr.mapUpdate 215 (.map (some K)) (.int .i64 3) (.string ⟨#[119]⟩)).run Tryd.prog w21 = .ok () w22 := q5
                      have q8 := q6.lookup1 (int_kind (P := Tryd.prog) Tryd.underlying3) hmt2 (Tryd.zeroValue9 w22) 3
                      have q8' : (Instr.lookup 215 (.map (some K)) (.int .i64 3) false).run Tryd.prog w22 = .ok (.string ⟨#[119]⟩) w22 := q8
                      have HB22 := Lib.hid (HBy.out.trans (q7.2.2 wy (q4.2.2 wy q1 hKl) hKl))
                      clear q0 q1 q2 q3 q4 q5 q6 q7 q8 hK hKl
                      go_wp2_with fail
                      exact ⟨⟨x + 1, by omega, by go_num, by rw [HSt.out, ← hcat], HAl2.out, HB22.out⟩, by simp [RowKit.intOf] <;> omega⟩
                    · have HR := Lib.hid (rd_none (s := s) (by
                        have hg : gP rs j = none := by
                          unfold gP
                          rw [if_neg]
                          rintro ⟨ha, -⟩
                          rw [← HI.out] at ha
                          have hx9 : ((rs.drop i).take 9)[x]? = some n := by rw [List.getElem?_take_of_lt hxt]; exact HGx.out
                          have := List.all_eq_true.1 ha n (List.mem_of_getElem? hx9)
                          simp [h1, h3] at this
                        rw [HOut.out, parts_none_dec (by rw [← HI.out, ← HM.out]; exact hlt) hg]
                        rfl))
                      have n1 : ¬ ((n : Int) = 1) := by omega
                      have n3 : ¬ ((n : Int) = 3) := by omega
                      have n1b : ((n : Int) == 1) = false := by rw [beq_eq_false_iff_ne]; exact n1
                      have n3b : ((n : Int) == 3) = false := by rw [beq_eq_false_iff_ne]; exact n3
                      clear HPt
                      have key : ¬ (((n : Int) != 1) = false ∨ ((n : Int) != 3) = false) := by
                        rintro (h | h)
                        · rw [bne_eq_false_iff_eq] at h; exact n1 h
                        · rw [bne_eq_false_iff_eq] at h; exact n3 h
                      have Key := Lib.hid key
                      clear key
                      go_wp2_with fail
                      all_goals first
                        | (exact bodyPost_ret (v := .tuple #[.string ⟨#[]⟩, .int .i64 2]) (by simp [results, Tryd.results150, go_sem]) rfl ⟨by rw [HR.out], HB1.out.trans (HBr.out.trans (HBx.out.trans HBy.out))⟩)
                        | exact absurd (by assumption) Key.out
                · obtain rfl : x = 9 := by omega
                  obtain ⟨G, hG⟩ : ∃ G, G = (rs.drop i).take 9 := ⟨_, rfl⟩
                  rw [← hG] at hall ⊢
                  have hGl : G.length ≤ 9 := by rw [hG, List.length_take]; omega
                  obtain ⟨M, hM⟩ : ∃ M, M = pat G := ⟨_, rfl⟩
                  rw [← hM]
                  have hlk0 := (HMp.out.bl (HBx.out.trans hby)).lookup2 (string_kind (P := Tryd.prog) Tryd.underlying9) hmt (Tryd.zeroValue3 wy) M
                  rw [tabN_find] at hlk0
                  have hgp : gP rs j = if (G.all fun n => n == 1 || n == 3) = true ∧ (i + 9 < rs.length → rs.getD (i + 9) 0 = 1) then (List.range 44).find? fun k => pieceK k == M else none := by
                    unfold gP
                    rw [← HI.out, ← hG, ← hM]
                  have HGp := Lib.hid hgp; have HG1 := Lib.hid hall
                  clear hG hM hgp hall
                  cases hf : (List.range 44).find? fun k => pieceK k == M with
                  | none =>
                    rw [hf] at hlk0
                    have hlk : (Instr.lookup 214 (.map (some b0)) (.string ⟨M.toArray⟩) true).run Tryd.prog wy = .ok (.tuple #[.int .i64 0, .bool false]) wy := hlk0
                    have HR := Lib.hid (rd_none (s := s) (by
                      have hg : gP rs j = none := by
                        rw [HGp.out]
                        split
                        · exact hf
                        · rfl
                      rw [HOut.out, parts_none_dec (by rw [← HI.out, ← HM.out]; exact hlt) hg]
                      rfl))
                    clear hlk0 hf hby
                    go_wp2_with fail
                    exact bodyPost_ret (v := .tuple #[.string ⟨#[]⟩, .int .i64 2]) (by simp [results, Tryd.results150, go_sem]) rfl ⟨by rw [HR.out], HB1.out.trans (HBr.out.trans (HBx.out.trans HBy.out))⟩
                  | some k =>
                    rw [hf] at hlk0
                    have hlk : (Instr.lookup 214 (.map (some b0)) (.string ⟨M.toArray⟩) true).run Tryd.prog wy = .ok (.tuple #[.int .i64 (k : Int), .bool true]) wy := hlk0
                    have hk4 := (find_range hf).1
                    have hex := letOf lets44 k 44 hk4 (by decide)
                    obtain ⟨X, hX⟩ : ∃ X, X = [lets44.getD k 0] := ⟨_, rfl⟩
                    rw [← hX] at hex
                    have hX1 : X.length = 1 := by rw [hX]; rfl
                    unfold lets44 at hex
                    have hsT : (⟨T.toArray⟩ : ByteArray).size = T.length := Lib.size_mk T
                    have hsX : (⟨X.toArray⟩ : ByteArray).size = X.length := Lib.size_mk X
                    have hoT : ¬ (9223372036854775807 < T.length + X.length) := by omega
                    have hcat := cat_two T X
                    have HXt := Lib.hid (show txt (ks ++ [k]) = T ++ X by rw [txt_add, HTx.out, hX])
                    have HFf := Lib.hid hf
                    clear hlk0 hf hX
                    by_cases h9 : i + 9 < m
                    · have h9I : (i : Int) + 9 < (m : Int) := by omega
                      have h9d : i + 9 < d := by omega
                      obtain ⟨n, hn⟩ : ∃ n, rs[i + 9]? = some n := ⟨_, List.getElem?_eq_getElem (by have := HM.out; omega)⟩
                      have hcx := nat_cell (HRd.out.bl (HBr.out.trans (HBx.out.trans hby))) hn
                      have hcx3 : wy.cell? ⟨ad.block, ad.off + (i + 8 + 1), none⟩ = some (.int .i64 (n : Int)) := hcx
                      have hgn : rs.getD (i + 9) 0 = n := by rw [List.getD_eq_getElem?_getD, hn]; rfl
                      have HGn := Lib.hid hgn
                      clear hn hgn hby
                      by_cases h1 : n = 1
                      · subst h1
                        have HNx := Lib.hid (partsP_step HPs.out (show gP rs j = some k by rw [HGp.out, if_pos ⟨HG1.out, fun _ => HGn.out⟩]; exact HFf.out))
                        go_wp2_with fail
                        exact ⟨⟨j + 1, ks ++ [k], by have := HI.out; omega, by rw [show (10 * (j + 1) : Nat) = i + 10 by rw [HI.out]; omega]; simp, HNx.out, by rw [HXt.out, ← hcat], HBx.out.trans HBy.out⟩, by simp [RowKit.intOf] <;> omega⟩
                      · have HR := Lib.hid (rd_none (s := s) (by
                          have hg : gP rs j = none := by
                            rw [HGp.out, if_neg]
                            rintro ⟨-, hb⟩
                            exact h1 (HGn.out.symm.trans (hb (by have := HM.out; omega)))
                          rw [HOut.out, parts_none_dec (by rw [← HI.out, ← HM.out]; exact hlt) hg]
                          rfl))
                        have n1 : ¬ ((n : Int) = 1) := by omega
                        have n1b : ((n : Int) == 1) = false := by rw [beq_eq_false_iff_ne]; exact n1
                        go_wp2_with fail
                        exact bodyPost_ret (v := .tuple #[.string ⟨#[]⟩, .int .i64 2]) (by simp [results, Tryd.results150, go_sem]) rfl ⟨by rw [HR.out], HB1.out.trans (HBr.out.trans (HBx.out.trans HBy.out))⟩
                    · have h9I : ¬ ((i : Int) + 9 < (m : Int)) := by omega
                      have HNx := Lib.hid (partsP_step HPs.out (show gP rs j = some k by rw [HGp.out, if_pos ⟨HG1.out, fun h => absurd h (by have := HM.out; omega)⟩]; exact HFf.out))
                      have h9m : i + 9 = m := by omega
                      have H9 := Lib.hid h9m
                      clear h9 hby h9m
                      go_wp2_with fail
                      exact ⟨⟨j + 1, ks ++ [k], by have := HI.out; have := H9.out; omega, by rw [show (10 * (j + 1) : Nat) = i + 10 by rw [HI.out]; omega]; simp, HNx.out, by rw [HXt.out, ← hcat], HBx.out.trans HBy.out⟩, by simp [RowKit.intOf] <;> omega⟩
            · have hjm : 10 * j = m + 1 := by have := HM9.out; omega
              have hdk : decP rs = some ks := by
                unfold decP
                rw [← HM.out, if_pos HM9.out, show (m + 1) / 10 = j by omega]
                exact HPs.out
              have hout : outR s = some T := by rw [HOut.out, hdk, HTx.out]; rfl
              have hTm : ∀ c ∈ T, c ∈ lets44 := by rw [HTx.out]; exact txt_mem HK44.out
              have HO := Lib.hid hout; have HTm := Lib.hid hTm
              have hltI : ¬ ((i : Int) < (m : Int)) := by omega
              have hsT : (⟨T.toArray⟩ : ByteArray).size = T.length := Lib.size_mk T
              have hD : shpT T = (decide (4 ≤ T.length) && (decide (T.length ≤ 43) && (T.getD 0 0 == 42 && (T.getD (T.length - 1) 0 == 42 && !(midT T).contains 42)))) := rfl
              have HD := Lib.hid hD
              clear hjm hdk hout hTm hi hkl htl hj hD
              by_cases h4 : 4 ≤ T.length
              · by_cases h43 : T.length ≤ 43
                · obtain ⟨n, hn⟩ : ∃ n, T.length = n + 3 := ⟨T.length - 3, by omega⟩
                  have hmany : (T.length : Int) - 3 = (n : Int) := by omega
                  have hn1 : ¬ ((n : Int) < 1) := by omega
                  have hn40 : ¬ ((40 : Int) < (n : Int)) := by omega
                  have hn1N : ¬ (n = 0) := by omega
                  have hn40N : ¬ (40 < n) := by omega
                  obtain ⟨a, ha⟩ : ∃ a, T[0]? = some a := ⟨_, List.getElem?_eq_getElem (by omega)⟩
                  obtain ⟨L, hL⟩ : ∃ L, L = T.length - 1 := ⟨_, rfl⟩
                  obtain ⟨z, hz⟩ : ∃ z, T[L]? = some z := ⟨_, List.getElem?_eq_getElem (by omega)⟩
                  have hLI : (T.length : Int) - 1 = (L : Int) := by omega
                  have hLs : (L : Int) < (T.length : Int) := by omega
                  obtain ⟨a1, a2⟩ := bytes_at ha
                  obtain ⟨z1, z2⟩ := bytes_at hz
                  have hga : T.getD 0 0 = a := by rw [List.getD_eq_getElem?_getD, ha]; rfl
                  have hgz : T.getD (T.length - 1) 0 = z := by rw [← hL, List.getD_eq_getElem?_getD, hz]; rfl
                  have HD2 := Lib.hid (show shpT T = (a == 42 && (z == 42 && !(midT T).contains 42)) by rw [HD.out, decide_eq_true h4, decide_eq_true h43, hga, hgz]; rfl)
                  have HC3 := Lib.hid (fun (h1 : a = 42) (h2 : z = 42) => count_three h4 (hga.trans h1) (hgz.trans h2))
                  have hex1 : (⟨T.toArray⟩ : ByteArray).extract 1 (1 + n) = ⟨(bodyT T).toArray⟩ := by
                    rw [slice_ab]
                    unfold bodyT
                    rw [show 1 + n - 1 = T.length - 3 by omega]
                  have hex2 : (⟨T.toArray⟩ : ByteArray).extract (1 + n) (2 + n) = ⟨(lastT T).toArray⟩ := by
                    rw [slice_ab]
                    unfold lastT
                    rw [show 2 + n - (1 + n) = 1 by omega, show 1 + n = T.length - 2 by omega]
                  have HN := Lib.hid hn; have HLn := Lib.hid hL
                  have H43 := Lib.hid (And.intro h4 h43)
                  clear hga hgz ha hz hL h4 h43 HD hn
                  cases h42 : (a == 42) with
                  | false =>
                    have ha42 : ¬ ((a.toNat : Int) = 42) := fun e => by
                      have : a = 42 := UInt8.toNat_inj.1 (by have : (42 : UInt8).toNat = 42 := rfl; omega)
                      rw [this] at h42; cases h42
                    have hab : ((a.toNat : Int) == 42) = false := by rw [beq_eq_false_iff_ne]; exact ha42
                    have HR := Lib.hid (rd_shape HO.out (by rw [HD2.out, h42]; rfl))
                    clear h42 hex1 hex2
                    go_wp2_with fail
                    exact bodyPost_ret (v := .tuple #[.string ⟨#[]⟩, .int .i64 2]) (by simp [results, Tryd.results150, go_sem]) rfl ⟨by rw [HR.out], HB1.out.trans (HBr.out.trans HBx.out)⟩
                  | true =>
                    have hae : a = 42 := by simpa using h42
                    cases hz2 : (z == 42) with
                    | false =>
                      have hz42 : ¬ ((z.toNat : Int) = 42) := fun e => by
                        have : z = 42 := UInt8.toNat_inj.1 (by have : (42 : UInt8).toNat = 42 := rfl; omega)
                        rw [this] at hz2; cases hz2
                      have hzb : ((z.toNat : Int) == 42) = false := by rw [beq_eq_false_iff_ne]; exact hz42
                      have HR := Lib.hid (rd_shape HO.out (by rw [HD2.out, h42, hz2]; rfl))
                      clear h42 hz2 hex1 hex2
                      subst hae
                      go_wp2_with fail
                      exact bodyPost_ret (v := .tuple #[.string ⟨#[]⟩, .int .i64 2]) (by simp [results, Tryd.results150, go_sem]) rfl ⟨by rw [HR.out], HB1.out.trans (HBr.out.trans HBx.out)⟩
                    | true =>
                      have hze : z = 42 := by simpa using hz2
                      have hc3 := HC3.out hae hze
                      have HCt := Lib.hid (fun wx => cntB_any T 42 wx)
                      obtain ⟨cn, hcn⟩ : ∃ c, c = Lib.countByte T 42 := ⟨_, rfl⟩
                      rw [← hcn] at hc3 HCt
                      by_cases hq : cn = 2
                      · have hmid := hc3.1 hq
                        have hsh : shpT T = true := by rw [HD2.out, h42, hz2, hmid]; rfl
                        have hbo := body_ok HTm.out hsh
                        have hrd := rd_some HO.out hsh
                        have hcl := fun wx => checkLet_any (bodyT T) wx (by have := hbo.2.2.1; omega)
                        rw [hbo.2.2.2] at hcl
                        obtain ⟨V, hV⟩ : ∃ V, V = letVal (bodyT T) := ⟨_, rfl⟩
                        obtain ⟨Z, hZ⟩ : ∃ V, V = lastT T := ⟨_, rfl⟩
                        obtain ⟨Bd, hBd⟩ : ∃ V, V = bodyT T := ⟨_, rfl⟩
                        rw [← hV, ← hZ, ← hBd] at hrd
                        rw [← hZ] at hex2
                        rw [← hBd] at hex1
                        rw [← hV, ← hBd] at hcl
                        have HCl := Lib.hid hcl; have HRd := Lib.hid hrd
                        subst hq
                        clear h42 hz2 hc3 hmid hsh hbo hrd hcl hV hZ hBd hcn
                        subst hae
                        subst hze
                        go_wp2_with fail
                        refine (HCt.out _).mono ?_
                        rintro e w' ⟨rfl, hw⟩
                        subst hw
                        go_wp2_with fail
                        refine (HCl.out _).mono ?_
                        rintro e w7 ⟨rfl, hb7⟩
                        have HB7 := Lib.hid ((HB1.out.trans (HBr.out.trans HBx.out)).trans hb7)
                        clear hb7
                        cases hvz : (V == Z) with
                        | true =>
                          have HR := Lib.hid (HRd.out.trans (if_pos (by simpa using hvz)))
                          go_wp2_with fail
                          exact bodyPost_ret (v := .tuple #[.string ⟨Bd.toArray⟩, .int .i64 0]) (by simp [results, Tryd.results150, go_sem]; exact hex1) rfl ⟨by rw [HR.out], HB7.out⟩
                        | false =>
                          have HR := Lib.hid (HRd.out.trans (if_neg (by simpa using hvz)))
                          go_wp2_with fail
                          exact bodyPost_ret (v := .tuple #[.string ⟨#[]⟩, .int .i64 14]) (by simp [results, Tryd.results150, go_sem]) rfl ⟨by rw [HR.out], HB7.out⟩
                      · have hmid : (midT T).contains 42 = true := by
                          cases hx : (midT T).contains 42 with
                          | true => rfl
                          | false => exact absurd (hc3.2 hx) hq
                        have HR := Lib.hid (rd_shape HO.out (by rw [HD2.out, h42, hz2, hmid]; rfl))
                        have hq1 : ¬ ((cn : Int) = 2) := by omega
                        have hqb : ((cn : Int) == 2) = false := by rw [beq_eq_false_iff_ne]; exact hq1
                        clear h42 hz2 hex1 hex2 hc3 hmid hcn
                        subst hae
                        subst hze
                        go_wp2_with fail
                        refine (HCt.out _).mono ?_
                        rintro e w' ⟨rfl, hw⟩
                        subst hw
                        go_wp2_with fail
                        exact bodyPost_ret (v := .tuple #[.string ⟨#[]⟩, .int .i64 2]) (by simp [results, Tryd.results150, go_sem]) rfl ⟨by rw [HR.out], HB1.out.trans (HBr.out.trans HBx.out)⟩
                · have HR := Lib.hid (rd_shape HO.out (by rw [HD.out, decide_eq_false h43, Bool.false_and, Bool.and_false]))
                  have h1 : ¬ ((T.length : Int) - 3 < 1) := by omega
                  have h2 : (40 : Int) < (T.length : Int) - 3 := by omega
                  clear h4 h43 HD
                  go_wp2_with fail
                  exact bodyPost_ret (v := .tuple #[.string ⟨#[]⟩, .int .i64 2]) (by simp [results, Tryd.results150, go_sem]) rfl ⟨by rw [HR.out], HB1.out.trans (HBr.out.trans HBx.out)⟩
              · have HR := Lib.hid (rd_shape HO.out (by rw [HD.out, decide_eq_false h4, Bool.false_and]))
                have h1 : (T.length : Int) - 3 < 1 := by omega
                clear h4 HD
                go_wp2_with fail
                exact bodyPost_ret (v := .tuple #[.string ⟨#[]⟩, .int .i64 2]) (by simp [results, Tryd.results150, go_sem]) rfl ⟨by rw [HR.out], HB1.out.trans (HBr.out.trans HBx.out)⟩
    · have hdn : decP rs = none := by unfold decP; rw [← hm, if_neg h9]
      have HR := Lib.hid (rd_none (s := s) (by rw [hOut, hdn]; rfl))
      obtain ⟨q, hq⟩ : ∃ q, q = m % 10 := ⟨_, rfl⟩
      have hqm : (m : Int) % 10 = (q : Int) := by omega
      have hq9 : ¬ ((q : Int) = 9) := by omega
      have hq9b : ((q : Int) == 9) = false := by rw [beq_eq_false_iff_ne]; exact hq9
      clear hok hbad hgood Hle hdn hOut hrs hlen hm hrd hq h9
      go_wp2_with fail
      exact bodyPost_ret (v := .tuple #[.string ⟨#[]⟩, .int .i64 2]) (by simp [results, Tryd.results150, go_sem]) rfl ⟨by rw [HR.out], HB1.out⟩

end Go.Proofs.YtjelhdpcaileiaaDoor
