/- Fonts are looked at; chance. -/
import Derived.Test.YtjelhdpcaileiaaGreatDoorS10
import Derived.Test.YtjelhdpcaileiaaGreatDoorS2
import Derived.Carry
import Derived.MapFrom

namespace Go.Proofs.YtjelhdpcaileiaaGreatDoor
open Go.RowKit

/-- The map at b has these keys, each with true. -/
def MapAt (w : World) (b : Nat) (ks : List (List UInt8)) : Prop := ∃ es clock, w.heap[b]? = some (.map es clock) ∧ (∀ x ∈ es.toList, ∃ s ∈ ks, x.key = .string ⟨s.toArray⟩ ∧ x.val = .bool true) ∧ ∀ s ∈ ks, ∃ x ∈ es.toList, x.key = .string ⟨s.toArray⟩
theorem MapAt.new (w : World) : MapAt (w.alloc (.map #[] 0)) w.heap.size [] := ⟨#[], 0, (MapKept.heap_alloc w _).1, by simp, by simp⟩
theorem MapAt.bl {w w' : World} {b : Nat} {ks : List (List UInt8)} (h : MapAt w b ks) (hb : Bl w w') : MapAt w' b ks := by
  obtain ⟨es, c, h1, h2, h3⟩ := h
  exact ⟨es, c, (Below.block hb b (Array.getElem?_eq_some_iff.1 h1).1).trans h1, h2, h3⟩
theorem string_inj {s t : List UInt8} (h : Value.string ⟨s.toArray⟩ = .string ⟨t.toArray⟩) : s = t := by simpa using h
theorem MapAt.lookup {w : World} {b : Nat} {ks : List (List UInt8)} (h : MapAt w b ks) (s : List UInt8) : (Instr.lookup 159 (.map (some b)) (.string ⟨s.toArray⟩) false).run Tryz.prog w = .ok (.bool (decide (s ∈ ks))) w := by
  obtain ⟨es, c, h1, h2, h3⟩ := h
  have hk : MapKept.IsKey .string (.string ⟨s.toArray⟩) := trivial
  have hks : ∀ x ∈ es.toList, MapKept.IsKey .string x.key := fun x hx => by obtain ⟨t, _, e, _⟩ := h2 x hx; rw [e]; trivial
  rcases MapKept.findNow_spec hk es.toList 0 hks with ⟨hf, hno⟩ | ⟨j, e, hf, hj, he⟩
  · have hn : s ∉ ks := fun hm => by obtain ⟨x, hx, e⟩ := h3 s hm; exact hno x hx e
    rw [decide_eq_false hn]
    simp [Instr.lookup, run_underlying Tryz.underlying159, MapKept.run_getObj_map h1, MapKept.run_checkKey Tryz.underlying9 hk, MapKept.run_findKey Tryz.underlying9 hf, Tryz.zeroValue4, Result.andThen]
  · obtain ⟨t, ht, e1, e2⟩ := h2 e (List.mem_of_getElem? hj)
    have hs : s ∈ ks := (string_inj (he.symm.trans e1)) ▸ ht
    rw [decide_eq_true hs]
    simp [Instr.lookup, run_underlying Tryz.underlying159, MapKept.run_getObj_map h1, MapKept.run_checkKey Tryz.underlying9 hk, MapKept.run_findKey Tryz.underlying9 hf, e2, Result.andThen]
theorem bl_set {w0 w : World} (h : Bl w0 w) {b : Nat} (hb : w0.heap.size ≤ b) (o : Obj) : Bl w0 { w with heap := w.heap.setIfInBounds b o } := by
  refine ⟨h.os, h.tape, h.output, ?_, fun k hk => ?_⟩
  · have := Below.size h
    simpa using this
  · show (w.heap.setIfInBounds b o)[k]? = _
    rw [Array.getElem?_setIfInBounds_ne (by omega)]
    exact Below.block h k hk
theorem MapAt.update {w : World} {b : Nat} {ks : List (List UInt8)} (h : MapAt w b ks) (s : List UInt8) : ∃ w', (Instr.mapUpdate 159 (.map (some b)) (.string ⟨s.toArray⟩) (.bool true)).run Tryz.prog w = .ok () w' ∧ MapAt w' b (ks ++ [s]) ∧ ∀ w0, Bl w0 w → w0.heap.size ≤ b → Bl w0 w' := by
  obtain ⟨es, c, h1, h2, h3⟩ := h
  have hk : MapKept.IsKey .string (.string ⟨s.toArray⟩) := trivial
  have hks : ∀ x ∈ es.toList, MapKept.IsKey .string x.key := fun x hx => by obtain ⟨t, _, e, _⟩ := h2 x hx; rw [e]; trivial
  rcases MapKept.findNow_spec hk es.toList 0 hks with ⟨hf, hno⟩ | ⟨j, e, hf, hj, he⟩
  · refine ⟨{ w with heap := w.heap.setIfInBounds b (.map (es.push ⟨.string ⟨s.toArray⟩, .bool true, c⟩) (c + 1)) }, ?_, ⟨_, _, (MapKept.heap_set h1).1, ?_, ?_⟩, fun w0 h0 hb => bl_set h0 hb _⟩
    · simp [Instr.mapUpdate, run_underlying Tryz.underlying159, MapKept.run_getObj_map h1, MapKept.run_checkKey Tryz.underlying9 hk, MapKept.run_findKey Tryz.underlying9 hf, MapKept.run_setObj_map _ h1, Result.andThen]
    · intro x hx
      simp only [Array.toList_push, List.mem_append, List.mem_singleton] at hx
      rcases hx with hx | rfl
      · obtain ⟨t, ht, e⟩ := h2 x hx
        exact ⟨t, List.mem_append_left _ ht, e⟩
      · exact ⟨s, by simp, rfl, rfl⟩
    · intro t ht
      rcases List.mem_append.1 ht with ht | ht
      · obtain ⟨x, hx, e⟩ := h3 t ht
        exact ⟨x, by simp [hx], e⟩
      · obtain rfl := List.mem_singleton.1 ht
        exact ⟨⟨.string ⟨t.toArray⟩, .bool true, c⟩, by simp, rfl⟩
  · have hj' : es[j]? = some e := by simpa using hj
    have hmod : ∀ x ∈ (es.modify j (fun e' => { e' with key := .string ⟨s.toArray⟩, val := .bool true })).toList, x ∈ es.toList ∨ (x.key = .string ⟨s.toArray⟩ ∧ x.val = .bool true) := fun x hx => by
      rcases MapFrom.mem_modify hx with hx | ⟨e', _, rfl⟩
      · exact Or.inl hx
      · exact Or.inr ⟨rfl, rfl⟩
    have hkey := MapKept.modify_keys (es := es) j (fun e' => { e' with key := .string ⟨s.toArray⟩, val := .bool true }) (fun e' he' => by rw [hj'] at he'; cases he'; exact he.symm)
    refine ⟨{ w with heap := w.heap.setIfInBounds b (.map (es.modify j (fun e' => { e' with key := .string ⟨s.toArray⟩, val := .bool true })) c) }, ?_, ⟨_, _, (MapKept.heap_set h1).1, ?_, ?_⟩, fun w0 h0 hb => bl_set h0 hb _⟩
    · simp [Instr.mapUpdate, run_underlying Tryz.underlying159, MapKept.run_getObj_map h1, MapKept.run_checkKey Tryz.underlying9 hk, MapKept.run_findKey Tryz.underlying9 hf, hj', he, MapKept.run_keyThatStays hk, MapKept.run_setObj_map _ h1, Result.andThen]
    · intro x hx
      rcases hmod x hx with hx | ⟨e1, e2⟩
      · obtain ⟨t, ht, e⟩ := h2 x hx
        exact ⟨t, List.mem_append_left _ ht, e⟩
      · exact ⟨s, by simp, e1, e2⟩
    · intro t ht
      have hex : ∃ y ∈ es.toList, y.key = .string ⟨t.toArray⟩ := by
        rcases List.mem_append.1 ht with ht | ht
        · exact h3 t ht
        · obtain rfl := List.mem_singleton.1 ht
          exact ⟨e, List.mem_of_getElem? hj, he⟩
      obtain ⟨y, hy, e3⟩ := hex
      have hm : y.key ∈ es.toList.map (·.key) := List.mem_map.2 ⟨y, hy, rfl⟩
      rw [← hkey] at hm
      obtain ⟨x, hx, e4⟩ := List.mem_map.1 hm
      exact ⟨x, hx, e4.trans e3⟩

end Go.Proofs.YtjelhdpcaileiaaGreatDoor


/-! glyph.checkLetter is ltrErr. -/
namespace Go.Proofs.YtjelhdpcaileiaaGreatDoor
open Go.RowKit

set_option maxRecDepth 100000 in
set_option maxHeartbeats 4000000 in
theorem checkLetter_any (nm : List UInt8) (ht gap sp : Int) (L : Option Addr) (n c : Nat) (prev : List (List UInt8)) (l : Ltr) (w : World) (hA : Reads w 1 l.A l.m (l.bs.map .bool)) (hlen : l.text.length ≤ 9223372036854775807) :
    Calls Tryz.prog 149 #[.agg #[.string ⟨nm.toArray⟩, .int .i64 ht, .int .i64 gap, .int .i64 sp, .slice L n c], l.val, .bool (decide (l.text ∈ prev))] w fun e w' => e = .returned (.int .i64 (ltrErr ht prev l)) ∧ Bl w w' := by
  unfold Ltr.val
  let w1 := ((w).alloc (.cells #[.string ⟨nm.toArray⟩, .int .i64 ht, .int .i64 gap, .int .i64 sp, .slice L n c] 45)).alloc (.cells #[.string ⟨l.text.toArray⟩, .int .i64 l.W, .int .i64 l.H, .slice l.A l.m l.c] 122)
  have w1b : Bl w w1 := ((Bl.refl w).alloc _).alloc _
  have w11 : Blk w1 (w.heap.size) 45 #[.string ⟨nm.toArray⟩, .int .i64 ht, .int .i64 gap, .int .i64 sp, .slice L n c] := by
    have h0 := Blk.new (w) 45 #[.string ⟨nm.toArray⟩, .int .i64 ht, .int .i64 gap, .int .i64 sp, .slice L n c]
    exact (h0.alloc _)
  have w12 : Blk w1 (w.heap.size + 1) 122 #[.string ⟨l.text.toArray⟩, .int .i64 l.W, .int .i64 l.H, .slice l.A l.m l.c] := by
    have h0 := Blk.new ((w).alloc (.cells #[.string ⟨nm.toArray⟩, .int .i64 ht, .int .i64 gap, .int .i64 sp, .slice L n c] 45)) 122 #[.string ⟨l.text.toArray⟩, .int .i64 l.W, .int .i64 l.H, .slice l.A l.m l.c]
    simp only [World.size_alloc] at h0
    exact h0
  have k1 := w11.all5
  have k2 := w12.all4
  have HA := Lib.hid (hA.bl w1b)
  have htx := fun w => isText_any l.text w hlen
  cases hb : textB l.text
  · rw [hb] at htx
    have HE := Lib.hid (show ltrErr ht prev l = 2 by unfold ltrErr; rw [hb]; rfl)
    have Htx := Lib.hid htx
    clear hb htx hA
    go_enter Tryz.func149, Tryz.ntmps149
    go_wp2_with fail
    refine (Htx.out _).mono ?_
    rintro e w' ⟨rfl, rfl⟩
    go_wp2_with fail
    go_ret
    exact ⟨by rw [HE.out]; rfl, w1b⟩
  · rw [hb] at htx
    cases hp : decide (l.text ∈ prev)
    · have HE := Lib.hid (show ltrErr ht prev l = firstNZ [pageErr l.W l.H l.m, whenI (l.H != ht) 11, whenI (decide (64 < l.W)) 4, whenI (bareB l.bs l.W.toNat l.H.toNat) 2] by unfold ltrErr; rw [hb, hp]; rfl)
      have Htx := Lib.hid htx
      clear hb hp htx hA
      have hcol := columns_any l.W l.H l.A l.m l.c l.bs w1 HA.out
      have Hcol := Lib.hid hcol
      clear hcol
      by_cases hz : pageErr l.W l.H l.m = 0
      · obtain ⟨W', H', eW, eH, em, hW, hH, -⟩ := page_nat hz
        have HE2 := Lib.hid (show ltrErr ht prev l = firstNZ [whenI (l.H != ht) 11, whenI (decide (64 < l.W)) 4, whenI (bareB l.bs l.W.toNat l.H.toNat) 2] by rw [HE.out, hz]; rfl)
        have HZ := Lib.hid hz
        have HW := Lib.hid (show l.W.toNat ≤ 4000 by omega)
        have hq0 : (pageErr l.W l.H l.m == 0) = true := by simp [hz]
        clear eW eH em hW hH hz
        by_cases h1 : l.H = ht
        · have q1 : (l.H == ht) = true := by simp [h1]
          by_cases h2 : 64 < l.W
          · have HE3 := Lib.hid (show ltrErr ht prev l = 4 by rw [HE2.out]; simp [firstNZ, whenI, h1, h2])
            clear h1
            go_enter Tryz.func149, Tryz.ntmps149
            go_wp2_with fail
            refine (Htx.out _).mono ?_
            rintro e w' ⟨rfl, rfl⟩
            go_wp2_with fail
            refine Hcol.out.mono ?_
            rintro e w3 ⟨P, m, d, rfl, -, hb3⟩
            have k1 := (w11.bl hb3).all5
            have k2 := (w12.bl hb3).all4
            go_wp2_with fail
            go_ret
            exact ⟨by rw [HE3.out]; rfl, w1b.trans hb3⟩
          · have HE3 := Lib.hid (show ltrErr ht prev l = whenI (bareB l.bs l.W.toNat l.H.toNat) 2 by rw [HE2.out]; simp [firstNZ, whenI, h1, h2])
            clear h1
            go_enter Tryz.func149, Tryz.ntmps149
            go_wp2_with fail
            refine (Htx.out _).mono ?_
            rintro e w' ⟨rfl, rfl⟩
            go_wp2_with fail
            refine Hcol.out.mono ?_
            rintro e w3 ⟨P, m, d, rfl, hT, hb3⟩
            obtain ⟨rfl, hR⟩ := hT.1 HZ.out
            have hcon := fun wy (hy : Bl w3 wy) => containsI_any P l.W.toNat d _ 0 wy (hR.bl hy) (by have := HW.out; omega)
            simp only [bare_mem] at hcon
            have Hcon := Lib.hid hcon
            have k1 := (w11.bl hb3).all5
            have k2 := (w12.bl hb3).all4
            clear hcon hT hR
            go_wp2_with fail
            refine (Hcon.out _ (Bl.refl _)).mono ?_
            rintro e w4 ⟨rfl, rfl⟩
            cases hbr : bareB l.bs l.W.toNat l.H.toNat
            · have HF := Lib.hid (show ltrErr ht prev l = 0 by rw [HE3.out, hbr]; rfl)
              go_wp2_with fail
              go_ret
              exact ⟨by rw [HF.out]; rfl, w1b.trans hb3⟩
            · have HF := Lib.hid (show ltrErr ht prev l = 2 by rw [HE3.out, hbr]; rfl)
              go_wp2_with fail
              go_ret
              exact ⟨by rw [HF.out]; rfl, w1b.trans hb3⟩
        · have q1 : (l.H == ht) = false := by simp [h1]
          have HE3 := Lib.hid (show ltrErr ht prev l = 11 by rw [HE2.out]; simp [firstNZ, whenI, h1])
          clear h1
          go_enter Tryz.func149, Tryz.ntmps149
          go_wp2_with fail
          refine (Htx.out _).mono ?_
          rintro e w' ⟨rfl, rfl⟩
          go_wp2_with fail
          refine Hcol.out.mono ?_
          rintro e w3 ⟨P, m, d, rfl, -, hb3⟩
          have k1 := (w11.bl hb3).all5
          have k2 := (w12.bl hb3).all4
          go_wp2_with fail
          go_ret
          exact ⟨by rw [HE3.out]; rfl, w1b.trans hb3⟩
      · have hq0 : (pageErr l.W l.H l.m == 0) = false := by simp [hz]
        have HE2 := Lib.hid (show ltrErr ht prev l = pageErr l.W l.H l.m by rw [HE.out]; simp [firstNZ, hz])
        clear hz
        go_enter Tryz.func149, Tryz.ntmps149
        go_wp2_with fail
        refine (Htx.out _).mono ?_
        rintro e w' ⟨rfl, rfl⟩
        go_wp2_with fail
        refine Hcol.out.mono ?_
        rintro e w3 ⟨P, m, d, rfl, -, hb3⟩
        have k1 := (w11.bl hb3).all5
        have k2 := (w12.bl hb3).all4
        go_wp2_with fail
        go_ret
        exact ⟨by rw [HE2.out]; rfl, w1b.trans hb3⟩
    · have HE := Lib.hid (show ltrErr ht prev l = 6 by unfold ltrErr; rw [hb, hp]; rfl)
      have Htx := Lib.hid htx
      clear hb hp htx hA
      go_enter Tryz.func149, Tryz.ntmps149
      go_wp2_with fail
      refine (Htx.out _).mono ?_
      rintro e w' ⟨rfl, rfl⟩
      go_wp2_with fail
      go_ret
      exact ⟨by rw [HE.out]; rfl, w1b⟩

end Go.Proofs.YtjelhdpcaileiaaGreatDoor


/-! glyph.Check is fontErr. -/
namespace Go.Proofs.YtjelhdpcaileiaaGreatDoor
open Go.RowKit

set_option maxRecDepth 100000 in
set_option maxHeartbeats 4000000 in
theorem check_any (nm : List UInt8) (ht gap sp : Int) (L : Option Addr) (c : Nat) (ls : List Ltr) (w : World) (hL : LtrsAt w L ls) (hnm : nm.length ≤ 9223372036854775807) (hn : ls.length ≤ 9223372036854775807) :
    Calls Tryz.prog 67 #[.agg #[.string ⟨nm.toArray⟩, .int .i64 ht, .int .i64 gap, .int .i64 sp, .slice L ls.length c]] w fun e w' => e = .returned (.int .i64 (fontErr (nameB nm) ht gap sp ls)) ∧ Bl w w' := by
  let w1 := (w).alloc (.cells #[.string ⟨nm.toArray⟩, .int .i64 ht, .int .i64 gap, .int .i64 sp, .slice L ls.length c] 45)
  have w1b : Bl w w1 := (Bl.refl w).alloc _
  have w11 : Blk w1 (w.heap.size) 45 #[.string ⟨nm.toArray⟩, .int .i64 ht, .int .i64 gap, .int .i64 sp, .slice L ls.length c] := by
    have h0 := Blk.new (w) 45 #[.string ⟨nm.toArray⟩, .int .i64 ht, .int .i64 gap, .int .i64 sp, .slice L ls.length c]
    exact h0
  have HL := Lib.hid (hL.bl w1b)
  have hnm' := fun w => isName_any ⟨nm.toArray⟩ w (by rw [Lib.size_mk]; exact hnm)
  have HNm := Lib.hid hnm'
  have k1 := w11.all5
  have hmm := @run_makeMap Tryz.prog
  clear hL hnm'
  go_enter Tryz.func67, Tryz.ntmps67
  go_wp2_with fail
  refine (HNm.out _).mono ?_
  rintro e w2 ⟨rfl, hb2⟩
  have k2 := (w11.bl hb2).all5
  clear k1
  cases hN : nameB nm
  · have HE := Lib.hid (show fontErr (nameB nm) ht gap sp ls = 5 by unfold fontErr fontHead; rw [hN]; rfl)
    go_wp2_with fail
    go_ret
    exact ⟨by rw [← hN, HE.out]; rfl, w1b.trans hb2⟩
  · have HE := Lib.hid (show fontErr (nameB nm) ht gap sp ls = if fontHead true ht gap sp ls.length = 0 then ltrsErr ht [] ls else fontHead true ht gap sp ls.length by unfold fontErr; rw [hN])
    go_upto_region 3 with fail
    go_cut [12] from 13 to 40 (fun s12 wc => s12 = .bool (!rangeB ht gap sp) ∧ w2 = wc)
    case first =>
      by_cases c0 : ht < 1
      · have HR := Lib.hid (show (!rangeB ht gap sp) = true by unfold rangeB inB; simp; omega)
        go_wp2_with fail
        go_meet
        case rel => exact ⟨by rw [HR.out], rfl⟩
      · skip
        by_cases c1 : 64 < ht
        · have HR := Lib.hid (show (!rangeB ht gap sp) = true by unfold rangeB inB; simp; omega)
          go_wp2_with fail
          go_meet
          case rel => exact ⟨by rw [HR.out], rfl⟩
        · skip
          by_cases c2 : gap < 1
          · have HR := Lib.hid (show (!rangeB ht gap sp) = true by unfold rangeB inB; simp; omega)
            go_wp2_with fail
            go_meet
            case rel => exact ⟨by rw [HR.out], rfl⟩
          · skip
            by_cases c3 : 16 < gap
            · have HR := Lib.hid (show (!rangeB ht gap sp) = true by unfold rangeB inB; simp; omega)
              go_wp2_with fail
              go_meet
              case rel => exact ⟨by rw [HR.out], rfl⟩
            · skip
              by_cases c4 : sp < 1
              · have HR := Lib.hid (show (!rangeB ht gap sp) = true by unfold rangeB inB; simp; omega)
                go_wp2_with fail
                go_meet
                case rel => exact ⟨by rw [HR.out], rfl⟩
              · skip
                by_cases c5 : 64 < sp
                · have HR := Lib.hid (show (!rangeB ht gap sp) = true by unfold rangeB inB; simp; omega)
                  go_wp2_with fail
                  go_meet
                  case rel => exact ⟨by rw [HR.out], rfl⟩
                · have HR := Lib.hid (show (!rangeB ht gap sp) = false by unfold rangeB inB; simp; omega)
                  go_wp2_with fail
                  go_meet
                  case rel => exact ⟨by rw [HR.out], rfl⟩
    case rest =>
      obtain ⟨rfl, rfl⟩ := hcut
      cases hr : rangeB ht gap sp
      · have HF := Lib.hid (show fontErr (nameB nm) ht gap sp ls = 3 by rw [HE.out]; unfold fontHead; rw [hr]; rfl)
        go_wp2_with fail
        go_ret
        exact ⟨by rw [← hN, HF.out]; rfl, w1b.trans hb2⟩
      · by_cases c1 : sp ≤ gap
        · have HF := Lib.hid (show fontErr (nameB nm) ht gap sp ls = 7 by rw [HE.out]; unfold fontHead; rw [hr, decide_eq_true c1]; rfl)
          go_wp2_with fail
          go_ret
          exact ⟨by rw [← hN, HF.out]; rfl, w1b.trans hb2⟩
        · by_cases c2 : ls.length = 0
          · have HF := Lib.hid (show fontErr (nameB nm) ht gap sp ls = 9 by rw [HE.out]; unfold fontHead; rw [hr, decide_eq_false c1, decide_eq_true c2]; rfl)
            have q2 : ((ls.length : Int) == 0) = true := by rw [len0]; exact decide_eq_true c2
            clear c2
            go_wp2_with fail
            go_ret
            exact ⟨by rw [← hN, HF.out]; rfl, w1b.trans hb2⟩
          · by_cases c3 : 200 < (ls.length : Int)
            · have HF := Lib.hid (show fontErr (nameB nm) ht gap sp ls = 4 by rw [HE.out]; unfold fontHead; rw [hr, decide_eq_false c1, decide_eq_false c2, decide_eq_true (show 200 < ls.length by omega)]; rfl)
              have q2 : ((ls.length : Int) == 0) = false := by rw [len0]; exact decide_eq_false c2
              clear c2
              go_wp2_with fail
              go_ret
              exact ⟨by rw [← hN, HF.out]; rfl, w1b.trans hb2⟩
            · have HX := Lib.hid (show fontErr true ht gap sp ls = ltrsErr ht [] ls by
                rw [← hN, HE.out]; unfold fontHead; rw [hr, decide_eq_false c1, decide_eq_false c2, decide_eq_false (show ¬ 200 < ls.length by omega)]; rfl)
              have q2 : ((ls.length : Int) == 0) = false := by rw [len0]; exact decide_eq_false c2
              clear c2 HE
              have hM0 := MapAt.new w2
              have hb3 : Bl w1 (w2.alloc (.map #[] 0)) := hb2.alloc _
              have hmb : w1.heap.size ≤ w2.heap.size := hb2.le
              have k3 := (w11.bl hb3).all5
              go_wp2_with fail
              go_loopw [61] (fun u wr => ∃ i : Nat, i ≤ ls.length ∧ u = .int .i64 i ∧ Bl w1 wr ∧ MapAt wr w2.heap.size ((ls.take i).map Ltr.text) ∧ ltrsErr ht ((ls.take i).map Ltr.text) (ls.drop i) = ltrsErr ht [] ls) (fun u _ => ls.length - (RowKit.intOf u).toNat)
              case atStart => exact ⟨0, Nat.zero_le _, rfl, hb3, hM0, by simp⟩
              case round =>
                obtain ⟨i, hi, rfl, hbr, hMr, hrs⟩ := hrel
                by_cases hlt : i < ls.length
                · have hg : ls[i]? = some ls[i] := List.getElem?_eq_getElem hlt
                  obtain ⟨l, hl⟩ : ∃ l, l = ls[i] := ⟨_, rfl⟩
                  rw [← hl] at hg
                  obtain ⟨ad, rfl, j1, j2, j3, j4⟩ := (HL.out.bl hbr).at_ hg
                  obtain ⟨pv, hpv⟩ : ∃ x, x = (ls.take i).map Ltr.text := ⟨_, rfl⟩
                  have hfr := ltrsErr_from (ht := ht) hg
                  have hpv2 : (ls.take (i + 1)).map Ltr.text = pv ++ [l.text] := by rw [List.take_add_one, hg, hpv]; simp
                  rw [← hpv] at hMr hrs hfr
                  have hcl := checkLetter_any nm ht gap sp (some ad) ls.length c pv l
                  have HA := Lib.hid (HL.out.2 l (List.mem_of_getElem? hg))
                  have HRs := Lib.hid hrs; have HF := Lib.hid hfr; have HG := Lib.hid hg; have Hcl := Lib.hid hcl; have HPv := Lib.hid hpv2
                  clear hrs hfr hpv hpv2 hg hl hcl hM0
                  go_upto_region 15 with fail
                  obtain ⟨w5, hw5⟩ : ∃ x, x = wr.alloc (.cells #[.string ⟨l.text.toArray⟩, .int .i64 l.W, .int .i64 l.H, .slice l.A l.m l.c] 122) := ⟨_, rfl⟩
                  have b5 : Blk w5 wr.heap.size 122 #[.string ⟨l.text.toArray⟩, .int .i64 l.W, .int .i64 l.H, .slice l.A l.m l.c] := by rw [hw5]; exact Blk.new _ _ _
                  have hb5 : Bl w1 w5 := by rw [hw5]; exact hbr.alloc _
                  have hM5 : MapAt w5 w2.heap.size pv := by rw [hw5]; exact hMr.bl ((Bl.refl _).alloc _)
                  rw [← hw5]
                  have k5 := (w11.bl hb5).all5
                  have k6 := b5.all4
                  have hlk := hM5.lookup l.text
                  clear hw5 j1 j2 j3 j4 k2 k3 hMr
                  go_wp2_with fail
                  refine (Hcl.out _ (HA.out.1.bl hb5) HA.out.2).mono ?_
                  rintro e w6 ⟨rfl, hb6⟩
                  have hb16 := hb5.trans hb6
                  have k7 := (b5.bl hb6).all4
                  obtain ⟨w7, hup, hM7, hB7⟩ := (hM5.bl hb6).update l.text
                  have hb7 := hB7 w1 hb16 hmb
                  clear k6 k5 hlk hM5 hB7
                  by_cases hz : ltrErr ht pv l = 0
                  · have hq : (ltrErr ht pv l == 0) = true := by simp [hz]
                    have HY := Lib.hid (show ltrsErr ht ((ls.take (i + 1)).map Ltr.text) (ls.drop (i + 1)) = ltrsErr ht [] ls by rw [← HRs.out, HF.out, if_pos hz])
                    clear hz
                    go_wp2_with fail
                    exact ⟨⟨i + 1, hlt, by go_num, hb7, by rw [HPv.out]; exact hM7, HY.out⟩, by simp [RowKit.intOf]; omega⟩
                  · have hq : (ltrErr ht pv l == 0) = false := by simp [hz]
                    have HY := Lib.hid (show ltrsErr ht [] ls = ltrErr ht pv l by rw [← HRs.out, HF.out, if_neg hz])
                    clear hz
                    go_wp2_with fail
                    go_ret
                    exact ⟨by rw [hN, HX.out, HY.out]; rfl, w1b.trans hb16⟩
                · obtain rfl : i = ls.length := by omega
                  have HY := Lib.hid (show ltrsErr ht [] ls = 0 by rw [← hrs, List.drop_length]; rfl)
                  go_wp2_with fail
                  go_ret
                  exact ⟨by rw [hN, HX.out, HY.out]; rfl, w1b.trans hbr⟩

end Go.Proofs.YtjelhdpcaileiaaGreatDoor


/-! Fonts are looked at; chance. -/
namespace Go.Proofs.YtjelhdpcaileiaaGreatDoor
open Go.RowKit

theorem LtrsAt.none (w : World) : LtrsAt w none [] := ⟨⟨rfl, fun h => absurd h (by decide)⟩, fun l hl => absurd hl (by simp)⟩
set_option maxHeartbeats 1000000 in
theorem glyphs_any (w : World) : Calls Tryz.prog 21 #[] w fun e w' => e = .returned (.bool true) ∧ Bl w w' := by
  have c1 := fun w => check_any [] 0 0 0 none 0 [] w (LtrsAt.none w) (by decide) (by decide)
  have c2 := fun w => check_any [97] 1 1 2 none 0 [] w (LtrsAt.none w) (by decide) (by decide)
  rw [show fontErr (nameB []) 0 0 0 [] = 5 by decide] at c1
  rw [show fontErr (nameB [97]) 1 1 2 [] = 9 by decide] at c2
  go_enter Tryz.func21, Tryz.ntmps21
  go_wp2_with fail
  refine (c1 _).mono ?_
  rintro e w1 ⟨rfl, hb1⟩
  go_wp2_with fail
  refine (c2 _).mono ?_
  rintro e w2 ⟨rfl, hb2⟩
  go_wp2_with fail
  go_ret
  exact ⟨rfl, hb1.trans hb2⟩
def chH1 (s k : Int) : Int := bits .xor .u32 s (k % 4294967296 * 2654435769 % 4294967296)
def chH2 (h : Int) : Int := bits .xor .u32 h (h / 65536) * 2246822507 % 4294967296
def chH3 (h : Int) : Int := bits .xor .u32 h (h / 8192) * 3266489909 % 4294967296
def chH4 (h : Int) : Int := bits .xor .u32 h (h / 65536)
/-- A chance. -/
def chanceI (s k : Int) : Int := wrap64 (chH4 (chH3 (chH2 (chH1 s k))) % 1000)
end Go.Proofs.YtjelhdpcaileiaaGreatDoor
