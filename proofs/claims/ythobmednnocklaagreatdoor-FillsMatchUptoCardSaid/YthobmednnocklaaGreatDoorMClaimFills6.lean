/- strings.Builder.Grow at a fresh builder. -/
import Derived.Test.YthobmednnocklaaGreatDoorMClaimFills5
import Derived.Test.YthobmednnocklaaGreatDoorMClaimFills1
import Derived.Test.YthobmednnocklaaGreatDoorMClaimFills2
import Derived.Test.YthobmednnocklaaGreatDoorMClaimFills3
import Derived.Carry
import Derived.MapFrom
import Derived.Laws.StructEq
import Derived.Shelf.Lay
import Derived.Shelf.Vars
import Derived.Ground.NamesProg
import Derived.Shelf.Strings.Search3
import Derived.Shelf.Strings.Prefix
import Derived.Lib.TrimByte
import Derived.Shelf.Strings.Builder2

namespace Go.Proofs.YthobmednnocklaaGreatDoor
open Go.RowKit

/-- The map at b has these keys, each with true. -/
def MapAt (w : World) (b : Nat) (ks : List (List UInt8)) : Prop := ∃ es clock, w.heap[b]? = some (.map es clock) ∧ (∀ x ∈ es.toList, ∃ s ∈ ks, x.key = .string ⟨s.toArray⟩ ∧ x.val = .bool true) ∧ ∀ s ∈ ks, ∃ x ∈ es.toList, x.key = .string ⟨s.toArray⟩
theorem MapAt.new (w : World) : MapAt (w.alloc (.map #[] 0)) w.heap.size [] := ⟨#[], 0, (MapKept.heap_alloc w _).1, by simp, by simp⟩
theorem MapAt.bl {w w' : World} {b : Nat} {ks : List (List UInt8)} (h : MapAt w b ks) (hb : Bl w w') : MapAt w' b ks := by
 obtain ⟨es, c, h1, h2, h3⟩ := h
 exact ⟨es, c, (Below.block hb b (Array.getElem?_eq_some_iff.1 h1).1).trans h1, h2, h3⟩
theorem string_inj {s t : List UInt8} (h : Value.string ⟨s.toArray⟩ = .string ⟨t.toArray⟩) : s = t := by simpa using h
theorem MapAt.lookup {w : World} {b : Nat} {ks : List (List UInt8)} (h : MapAt w b ks) (s : List UInt8) : (Instr.lookup 130 (.map (some b)) (.string ⟨s.toArray⟩) false).run Tryz.prog w = .ok (.bool (decide (s ∈ ks))) w := by
 obtain ⟨es, c, h1, h2, h3⟩ := h
 have hk : MapKept.IsKey .string (.string ⟨s.toArray⟩) := trivial
 have hks : ∀ x ∈ es.toList, MapKept.IsKey .string x.key := fun x hx => by obtain ⟨t, _, e, _⟩ := h2 x hx; rw [e]; trivial
 rcases MapKept.findNow_spec hk es.toList 0 hks with ⟨hf, hno⟩ | ⟨j, e, hf, hj, he⟩
 · have hn : s ∉ ks := fun hm => by obtain ⟨x, hx, e⟩ := h3 s hm; exact hno x hx e
   rw [decide_eq_false hn]
   simp [Instr.lookup, run_underlying Tryz.underlying130, MapKept.run_getObj_map h1, MapKept.run_checkKey Tryz.underlying9 hk, MapKept.run_findKey Tryz.underlying9 hf, Tryz.zeroValue4, Result.andThen]
 · obtain ⟨t, ht, e1, e2⟩ := h2 e (List.mem_of_getElem? hj)
   have hs : s ∈ ks := (string_inj (he.symm.trans e1)) ▸ ht
   rw [decide_eq_true hs]
   simp [Instr.lookup, run_underlying Tryz.underlying130, MapKept.run_getObj_map h1, MapKept.run_checkKey Tryz.underlying9 hk, MapKept.run_findKey Tryz.underlying9 hf, e2, Result.andThen]
theorem bl_set {w0 w : World} (h : Bl w0 w) {b : Nat} (hb : w0.heap.size ≤ b) (o : Obj) : Bl w0 { w with heap := w.heap.setIfInBounds b o } := by
 refine ⟨h.os, h.tape, h.output, ?_, fun k hk => ?_⟩
 · have := Below.size h
   simpa using this
 · show (w.heap.setIfInBounds b o)[k]? = _
   rw [Array.getElem?_setIfInBounds_ne (by omega)]
   exact Below.block h k hk
theorem MapAt.update {w : World} {b : Nat} {ks : List (List UInt8)} (h : MapAt w b ks) (s : List UInt8) : ∃ w', (Instr.mapUpdate 130 (.map (some b)) (.string ⟨s.toArray⟩) (.bool true)).run Tryz.prog w = .ok () w' ∧ MapAt w' b (ks ++ [s]) ∧ ∀ w0, Bl w0 w → w0.heap.size ≤ b → Bl w0 w' := by
 obtain ⟨es, c, h1, h2, h3⟩ := h
 have hk : MapKept.IsKey .string (.string ⟨s.toArray⟩) := trivial
 have hks : ∀ x ∈ es.toList, MapKept.IsKey .string x.key := fun x hx => by obtain ⟨t, _, e, _⟩ := h2 x hx; rw [e]; trivial
 rcases MapKept.findNow_spec hk es.toList 0 hks with ⟨hf, hno⟩ | ⟨j, e, hf, hj, he⟩
 · refine ⟨{ w with heap := w.heap.setIfInBounds b (.map (es.push ⟨.string ⟨s.toArray⟩, .bool true, c⟩) (c + 1)) }, ?_, ⟨_, _, (MapKept.heap_set h1).1, ?_, ?_⟩, fun w0 h0 hb => bl_set h0 hb _⟩
   · simp [Instr.mapUpdate, run_underlying Tryz.underlying130, MapKept.run_getObj_map h1, MapKept.run_checkKey Tryz.underlying9 hk, MapKept.run_findKey Tryz.underlying9 hf, MapKept.run_setObj_map _ h1, Result.andThen]
   · intro x hx
     simp only [Array.toList_push, List.mem_append, List.mem_singleton] at hx
     rcases hx with hx | rfl
     · obtain ⟨t, ht, e⟩ := h2 x hx
       exact ⟨t, List.mem_append_left _ ht, e⟩
     · exact ⟨s, by simp, rfl, rfl⟩
   · intro t ht
     rcases List.mem_append.1 ht with ht | ht
     · obtain ⟨x, hx, e⟩ := h3 t ht
       exact ⟨x, by simp [hx], e⟩
     · obtain rfl := List.mem_singleton.1 ht
       exact ⟨⟨.string ⟨t.toArray⟩, .bool true, c⟩, by simp, rfl⟩
 · have hj' : es[j]? = some e := by simpa using hj
   have hmod : ∀ x ∈ (es.modify j (fun e' => { e' with key := .string ⟨s.toArray⟩, val := .bool true })).toList, x ∈ es.toList ∨ (x.key = .string ⟨s.toArray⟩ ∧ x.val = .bool true) := fun x hx => by
    rcases MapFrom.mem_modify hx with hx | ⟨e', _, rfl⟩
    · exact Or.inl hx
    · exact Or.inr ⟨rfl, rfl⟩
   have hkey := MapKept.modify_keys (es := es) j (fun e' => { e' with key := .string ⟨s.toArray⟩, val := .bool true }) (fun e' he' => by rw [hj'] at he'; cases he'; exact he.symm)
   refine ⟨{ w with heap := w.heap.setIfInBounds b (.map (es.modify j (fun e' => { e' with key := .string ⟨s.toArray⟩, val := .bool true })) c) }, ?_, ⟨_, _, (MapKept.heap_set h1).1, ?_, ?_⟩, fun w0 h0 hb => bl_set h0 hb _⟩
   · simp [Instr.mapUpdate, run_underlying Tryz.underlying130, MapKept.run_getObj_map h1, MapKept.run_checkKey Tryz.underlying9 hk, MapKept.run_findKey Tryz.underlying9 hf, hj', he, MapKept.run_keyThatStays hk, MapKept.run_setObj_map _ h1, Result.andThen]
   · intro x hx
     rcases hmod x hx with hx | ⟨e1, e2⟩
     · obtain ⟨t, ht, e⟩ := h2 x hx
       exact ⟨t, List.mem_append_left _ ht, e⟩
     · exact ⟨s, by simp, e1, e2⟩
   · intro t ht
     have hex : ∃ y ∈ es.toList, y.key = .string ⟨t.toArray⟩ := by
      rcases List.mem_append.1 ht with ht | ht
      · exact h3 t ht
      · obtain rfl := List.mem_singleton.1 ht
        exact ⟨e, List.mem_of_getElem? hj, he⟩
     obtain ⟨y, hy, e3⟩ := hex
     have hm : y.key ∈ es.toList.map (·.key) := List.mem_map.2 ⟨y, hy, rfl⟩
     rw [← hkey] at hm
     obtain ⟨x, hx, e4⟩ := List.mem_map.1 hm
     exact ⟨x, hx, e4.trans e3⟩

end Go.Proofs.YthobmednnocklaaGreatDoor


/-! glyph.checkLetter is ltrErr. -/
namespace Go.Proofs.YthobmednnocklaaGreatDoor
open Go.RowKit

set_option maxRecDepth 100000 in
set_option maxHeartbeats 4000000 in
theorem checkLetter_any (nm : List UInt8) (ht gap sp : Int) (L : Option Addr) (n c : Nat) (prev : List (List UInt8)) (l : Ltr) (w : World) (hA : Reads w 1 l.A l.m (l.bs.map .bool)) (hlen : l.text.length ≤ 9223372036854775807) :
 Calls Tryz.prog 83 #[.agg #[.string ⟨nm.toArray⟩, .int .i64 ht, .int .i64 gap, .int .i64 sp, .slice L n c], l.val, .bool (decide (l.text ∈ prev))] w fun e w' => e = .returned (.int .i64 (ltrErr ht prev l)) ∧ Bl w w' := by
 unfold Ltr.val
 let w1 := ((w).alloc (.cells #[.string ⟨nm.toArray⟩, .int .i64 ht, .int .i64 gap, .int .i64 sp, .slice L n c] 29)).alloc (.cells #[.string ⟨l.text.toArray⟩, .int .i64 l.W, .int .i64 l.H, .slice l.A l.m l.c] 88)
 have w1b : Bl w w1 := ((Bl.refl w).alloc _).alloc _
 have w11 : Blk w1 (w.heap.size) 29 #[.string ⟨nm.toArray⟩, .int .i64 ht, .int .i64 gap, .int .i64 sp, .slice L n c] := by
  have h0 := Blk.new (w) 29 #[.string ⟨nm.toArray⟩, .int .i64 ht, .int .i64 gap, .int .i64 sp, .slice L n c]
  exact (h0.alloc _)
 have w12 : Blk w1 (w.heap.size + 1) 88 #[.string ⟨l.text.toArray⟩, .int .i64 l.W, .int .i64 l.H, .slice l.A l.m l.c] := by
  have h0 := Blk.new ((w).alloc (.cells #[.string ⟨nm.toArray⟩, .int .i64 ht, .int .i64 gap, .int .i64 sp, .slice L n c] 29)) 88 #[.string ⟨l.text.toArray⟩, .int .i64 l.W, .int .i64 l.H, .slice l.A l.m l.c]
  simp only [World.size_alloc] at h0
  exact h0
 have k1 := w11.all5
 have k2 := w12.all4
 have HA := Lib.hid (hA.bl w1b)
 have htx := fun w => isText_any l.text w hlen
 cases hb : textB l.text
 · rw [hb] at htx
   have HE := Lib.hid (show ltrErr ht prev l = 2 by unfold ltrErr; rw [hb]; rfl)
   have Htx := Lib.hid htx
   clear hb htx hA
   go_enter Tryz.func83, Tryz.ntmps83
   go_wp2_with fail
   refine (Htx.out _).mono ?_
   rintro e w' ⟨rfl, rfl⟩
   go_wp2_with fail
   go_ret
   exact ⟨by rw [HE.out]; rfl, w1b⟩
 · rw [hb] at htx
   cases hp : decide (l.text ∈ prev)
   · have HE := Lib.hid (show ltrErr ht prev l = firstNZ [pageErr l.W l.H l.m, whenI (l.H != ht) 11, whenI (decide (64 < l.W)) 4, whenI (bareB l.bs l.W.toNat l.H.toNat) 2] by unfold ltrErr; rw [hb, hp]; rfl)
     have Htx := Lib.hid htx
     clear hb hp htx hA
     have hcol := columns_any l.W l.H l.A l.m l.c l.bs w1 HA.out
     have Hcol := Lib.hid hcol
     clear hcol
     by_cases hz : pageErr l.W l.H l.m = 0
     · obtain ⟨W', H', eW, eH, em, hW, hH, -⟩ := page_nat hz
       have HE2 := Lib.hid (show ltrErr ht prev l = firstNZ [whenI (l.H != ht) 11, whenI (decide (64 < l.W)) 4, whenI (bareB l.bs l.W.toNat l.H.toNat) 2] by rw [HE.out, hz]; rfl)
       have HZ := Lib.hid hz
       have HW := Lib.hid (show l.W.toNat ≤ 4000 by omega)
       have hq0 : (pageErr l.W l.H l.m == 0) = true := by simp [hz]
       clear eW eH em hW hH hz
       by_cases h1 : l.H = ht
       · have q1 : (l.H == ht) = true := by simp [h1]
         by_cases h2 : 64 < l.W
         · have HE3 := Lib.hid (show ltrErr ht prev l = 4 by rw [HE2.out]; simp [firstNZ, whenI, h1, h2])
           clear h1
           go_enter Tryz.func83, Tryz.ntmps83
           go_wp2_with fail
           refine (Htx.out _).mono ?_
           rintro e w' ⟨rfl, rfl⟩
           go_wp2_with fail
           refine Hcol.out.mono ?_
           rintro e w3 ⟨P, m, d, rfl, -, hb3⟩
           have k1 := (w11.bl hb3).all5
           have k2 := (w12.bl hb3).all4
           go_wp2_with fail
           go_ret
           exact ⟨by rw [HE3.out]; rfl, w1b.trans hb3⟩
         · have HE3 := Lib.hid (show ltrErr ht prev l = whenI (bareB l.bs l.W.toNat l.H.toNat) 2 by rw [HE2.out]; simp [firstNZ, whenI, h1, h2])
           clear h1
           go_enter Tryz.func83, Tryz.ntmps83
           go_wp2_with fail
           refine (Htx.out _).mono ?_
           rintro e w' ⟨rfl, rfl⟩
           go_wp2_with fail
           refine Hcol.out.mono ?_
           rintro e w3 ⟨P, m, d, rfl, hT, hb3⟩
           obtain ⟨rfl, hR⟩ := hT.1 HZ.out
           have hcon := fun wy (hy : Bl w3 wy) => containsI_any P l.W.toNat d _ 0 wy (hR.bl hy) (by have := HW.out; omega)
           simp only [bare_mem] at hcon
           have Hcon := Lib.hid hcon
           have k1 := (w11.bl hb3).all5
           have k2 := (w12.bl hb3).all4
           clear hcon hT hR
           go_wp2_with fail
           refine (Hcon.out _ (Bl.refl _)).mono ?_
           rintro e w4 ⟨rfl, rfl⟩
           cases hbr : bareB l.bs l.W.toNat l.H.toNat
           · have HF := Lib.hid (show ltrErr ht prev l = 0 by rw [HE3.out, hbr]; rfl)
             go_wp2_with fail
             go_ret
             exact ⟨by rw [HF.out]; rfl, w1b.trans hb3⟩
           · have HF := Lib.hid (show ltrErr ht prev l = 2 by rw [HE3.out, hbr]; rfl)
             go_wp2_with fail
             go_ret
             exact ⟨by rw [HF.out]; rfl, w1b.trans hb3⟩
       · have q1 : (l.H == ht) = false := by simp [h1]
         have HE3 := Lib.hid (show ltrErr ht prev l = 11 by rw [HE2.out]; simp [firstNZ, whenI, h1])
         clear h1
         go_enter Tryz.func83, Tryz.ntmps83
         go_wp2_with fail
         refine (Htx.out _).mono ?_
         rintro e w' ⟨rfl, rfl⟩
         go_wp2_with fail
         refine Hcol.out.mono ?_
         rintro e w3 ⟨P, m, d, rfl, -, hb3⟩
         have k1 := (w11.bl hb3).all5
         have k2 := (w12.bl hb3).all4
         go_wp2_with fail
         go_ret
         exact ⟨by rw [HE3.out]; rfl, w1b.trans hb3⟩
     · have hq0 : (pageErr l.W l.H l.m == 0) = false := by simp [hz]
       have HE2 := Lib.hid (show ltrErr ht prev l = pageErr l.W l.H l.m by rw [HE.out]; simp [firstNZ, hz])
       clear hz
       go_enter Tryz.func83, Tryz.ntmps83
       go_wp2_with fail
       refine (Htx.out _).mono ?_
       rintro e w' ⟨rfl, rfl⟩
       go_wp2_with fail
       refine Hcol.out.mono ?_
       rintro e w3 ⟨P, m, d, rfl, -, hb3⟩
       have k1 := (w11.bl hb3).all5
       have k2 := (w12.bl hb3).all4
       go_wp2_with fail
       go_ret
       exact ⟨by rw [HE2.out]; rfl, w1b.trans hb3⟩
   · have HE := Lib.hid (show ltrErr ht prev l = 6 by unfold ltrErr; rw [hb, hp]; rfl)
     have Htx := Lib.hid htx
     clear hb hp htx hA
     go_enter Tryz.func83, Tryz.ntmps83
     go_wp2_with fail
     refine (Htx.out _).mono ?_
     rintro e w' ⟨rfl, rfl⟩
     go_wp2_with fail
     go_ret
     exact ⟨by rw [HE.out]; rfl, w1b⟩

end Go.Proofs.YthobmednnocklaaGreatDoor


/-! glyph.Check is fontErr. -/
namespace Go.Proofs.YthobmednnocklaaGreatDoor
open Go.RowKit

set_option maxRecDepth 100000 in
set_option maxHeartbeats 4000000 in
theorem check_any (nm : List UInt8) (ht gap sp : Int) (L : Option Addr) (c : Nat) (ls : List Ltr) (w : World) (hL : LtrsAt w L ls) (hnm : nm.length ≤ 9223372036854775807) (hn : ls.length ≤ 9223372036854775807) :
 Calls Tryz.prog 33 #[.agg #[.string ⟨nm.toArray⟩, .int .i64 ht, .int .i64 gap, .int .i64 sp, .slice L ls.length c]] w fun e w' => e = .returned (.int .i64 (fontErr (nameB nm) ht gap sp ls)) ∧ Bl w w' := by
 let w1 := (w).alloc (.cells #[.string ⟨nm.toArray⟩, .int .i64 ht, .int .i64 gap, .int .i64 sp, .slice L ls.length c] 29)
 have w1b : Bl w w1 := (Bl.refl w).alloc _
 have w11 : Blk w1 (w.heap.size) 29 #[.string ⟨nm.toArray⟩, .int .i64 ht, .int .i64 gap, .int .i64 sp, .slice L ls.length c] := by
  have h0 := Blk.new (w) 29 #[.string ⟨nm.toArray⟩, .int .i64 ht, .int .i64 gap, .int .i64 sp, .slice L ls.length c]
  exact h0
 have HL := Lib.hid (hL.bl w1b)
 have hnm' := fun w => isName_any ⟨nm.toArray⟩ w (by rw [Lib.size_mk]; exact hnm)
 have HNm := Lib.hid hnm'
 have k1 := w11.all5
 have hmm := @run_makeMap Tryz.prog
 clear hL hnm'
 go_enter Tryz.func33, Tryz.ntmps33
 go_wp2_with fail
 refine (HNm.out _).mono ?_
 rintro e w2 ⟨rfl, hb2⟩
 have k2 := (w11.bl hb2).all5
 clear k1
 cases hN : nameB nm
 · have HE := Lib.hid (show fontErr (nameB nm) ht gap sp ls = 5 by unfold fontErr fontHead; rw [hN]; rfl)
   go_wp2_with fail
   go_ret
   exact ⟨by rw [← hN, HE.out]; rfl, w1b.trans hb2⟩
 · have HE := Lib.hid (show fontErr (nameB nm) ht gap sp ls = if fontHead true ht gap sp ls.length = 0 then ltrsErr ht [] ls else fontHead true ht gap sp ls.length by unfold fontErr; rw [hN])
   go_upto_region 3 with fail
   go_cut [12] from 13 to 40 (fun s12 wc => s12 = .bool (!rangeB ht gap sp) ∧ w2 = wc)
   case first =>
    by_cases c0 : ht < 1
    · have HR := Lib.hid (show (!rangeB ht gap sp) = true by unfold rangeB inB; simp; omega)
      go_wp2_with fail
      go_meet
      case rel => exact ⟨by rw [HR.out], rfl⟩
    · skip
      by_cases c1 : 64 < ht
      · have HR := Lib.hid (show (!rangeB ht gap sp) = true by unfold rangeB inB; simp; omega)
        go_wp2_with fail
        go_meet
        case rel => exact ⟨by rw [HR.out], rfl⟩
      · skip
        by_cases c2 : gap < 1
        · have HR := Lib.hid (show (!rangeB ht gap sp) = true by unfold rangeB inB; simp; omega)
          go_wp2_with fail
          go_meet
          case rel => exact ⟨by rw [HR.out], rfl⟩
        · skip
          by_cases c3 : 16 < gap
          · have HR := Lib.hid (show (!rangeB ht gap sp) = true by unfold rangeB inB; simp; omega)
            go_wp2_with fail
            go_meet
            case rel => exact ⟨by rw [HR.out], rfl⟩
          · skip
            by_cases c4 : sp < 1
            · have HR := Lib.hid (show (!rangeB ht gap sp) = true by unfold rangeB inB; simp; omega)
              go_wp2_with fail
              go_meet
              case rel => exact ⟨by rw [HR.out], rfl⟩
            · skip
              by_cases c5 : 64 < sp
              · have HR := Lib.hid (show (!rangeB ht gap sp) = true by unfold rangeB inB; simp; omega)
                go_wp2_with fail
                go_meet
                case rel => exact ⟨by rw [HR.out], rfl⟩
              · have HR := Lib.hid (show (!rangeB ht gap sp) = false by unfold rangeB inB; simp; omega)
                go_wp2_with fail
                go_meet
                case rel => exact ⟨by rw [HR.out], rfl⟩
   case rest =>
    obtain ⟨rfl, rfl⟩ := hcut
    cases hr : rangeB ht gap sp
    · have HF := Lib.hid (show fontErr (nameB nm) ht gap sp ls = 3 by rw [HE.out]; unfold fontHead; rw [hr]; rfl)
      go_wp2_with fail
      go_ret
      exact ⟨by rw [← hN, HF.out]; rfl, w1b.trans hb2⟩
    · by_cases c1 : sp ≤ gap
      · have HF := Lib.hid (show fontErr (nameB nm) ht gap sp ls = 7 by rw [HE.out]; unfold fontHead; rw [hr, decide_eq_true c1]; rfl)
        go_wp2_with fail
        go_ret
        exact ⟨by rw [← hN, HF.out]; rfl, w1b.trans hb2⟩
      · by_cases c2 : ls.length = 0
        · have HF := Lib.hid (show fontErr (nameB nm) ht gap sp ls = 9 by rw [HE.out]; unfold fontHead; rw [hr, decide_eq_false c1, decide_eq_true c2]; rfl)
          have q2 : ((ls.length : Int) == 0) = true := by rw [len0]; exact decide_eq_true c2
          clear c2
          go_wp2_with fail
          go_ret
          exact ⟨by rw [← hN, HF.out]; rfl, w1b.trans hb2⟩
        · by_cases c3 : 200 < (ls.length : Int)
          · have HF := Lib.hid (show fontErr (nameB nm) ht gap sp ls = 4 by rw [HE.out]; unfold fontHead; rw [hr, decide_eq_false c1, decide_eq_false c2, decide_eq_true (show 200 < ls.length by omega)]; rfl)
            have q2 : ((ls.length : Int) == 0) = false := by rw [len0]; exact decide_eq_false c2
            clear c2
            go_wp2_with fail
            go_ret
            exact ⟨by rw [← hN, HF.out]; rfl, w1b.trans hb2⟩
          · have HX := Lib.hid (show fontErr true ht gap sp ls = ltrsErr ht [] ls by
             rw [← hN, HE.out]; unfold fontHead; rw [hr, decide_eq_false c1, decide_eq_false c2, decide_eq_false (show ¬ 200 < ls.length by omega)]; rfl)
            have q2 : ((ls.length : Int) == 0) = false := by rw [len0]; exact decide_eq_false c2
            clear c2 HE
            have hM0 := MapAt.new w2
            have hb3 : Bl w1 (w2.alloc (.map #[] 0)) := hb2.alloc _
            have hmb : w1.heap.size ≤ w2.heap.size := hb2.le
            have k3 := (w11.bl hb3).all5
            go_wp2_with fail
            go_loopw [61] (fun u wr => ∃ i : Nat, i ≤ ls.length ∧ u = .int .i64 i ∧ Bl w1 wr ∧ MapAt wr w2.heap.size ((ls.take i).map Ltr.text) ∧ ltrsErr ht ((ls.take i).map Ltr.text) (ls.drop i) = ltrsErr ht [] ls) (fun u _ => ls.length - (RowKit.intOf u).toNat)
            case atStart => exact ⟨0, Nat.zero_le _, rfl, hb3, hM0, by simp⟩
            case round =>
             obtain ⟨i, hi, rfl, hbr, hMr, hrs⟩ := hrel
             by_cases hlt : i < ls.length
             · have hg : ls[i]? = some ls[i] := List.getElem?_eq_getElem hlt
               obtain ⟨l, hl⟩ : ∃ l, l = ls[i] := ⟨_, rfl⟩
               rw [← hl] at hg
               obtain ⟨ad, rfl, j1, j2, j3, j4⟩ := (HL.out.bl hbr).at_ hg
               obtain ⟨pv, hpv⟩ : ∃ x, x = (ls.take i).map Ltr.text := ⟨_, rfl⟩
               have hfr := ltrsErr_from (ht := ht) hg
               have hpv2 : (ls.take (i + 1)).map Ltr.text = pv ++ [l.text] := by rw [List.take_add_one, hg, hpv]; simp
               rw [← hpv] at hMr hrs hfr
               have hcl := checkLetter_any nm ht gap sp (some ad) ls.length c pv l
               have HA := Lib.hid (HL.out.2 l (List.mem_of_getElem? hg))
               have HRs := Lib.hid hrs; have HF := Lib.hid hfr; have HG := Lib.hid hg; have Hcl := Lib.hid hcl; have HPv := Lib.hid hpv2
               clear hrs hfr hpv hpv2 hg hl hcl hM0
               go_upto_region 15 with fail
               obtain ⟨w5, hw5⟩ : ∃ x, x = wr.alloc (.cells #[.string ⟨l.text.toArray⟩, .int .i64 l.W, .int .i64 l.H, .slice l.A l.m l.c] 88) := ⟨_, rfl⟩
               have b5 : Blk w5 wr.heap.size 88 #[.string ⟨l.text.toArray⟩, .int .i64 l.W, .int .i64 l.H, .slice l.A l.m l.c] := by rw [hw5]; exact Blk.new _ _ _
               have hb5 : Bl w1 w5 := by rw [hw5]; exact hbr.alloc _
               have hM5 : MapAt w5 w2.heap.size pv := by rw [hw5]; exact hMr.bl ((Bl.refl _).alloc _)
               rw [← hw5]
               have k5 := (w11.bl hb5).all5
               have k6 := b5.all4
               have hlk := hM5.lookup l.text
               clear hw5 j1 j2 j3 j4 k2 k3 hMr
               go_wp2_with fail
               refine (Hcl.out _ (HA.out.1.bl hb5) HA.out.2).mono ?_
               rintro e w6 ⟨rfl, hb6⟩
               have hb16 := hb5.trans hb6
               have k7 := (b5.bl hb6).all4
               obtain ⟨w7, hup, hM7, hB7⟩ := (hM5.bl hb6).update l.text
               have hb7 := hB7 w1 hb16 hmb
               clear k6 k5 hlk hM5 hB7
               by_cases hz : ltrErr ht pv l = 0
               · have hq : (ltrErr ht pv l == 0) = true := by simp [hz]
                 have HY := Lib.hid (show ltrsErr ht ((ls.take (i + 1)).map Ltr.text) (ls.drop (i + 1)) = ltrsErr ht [] ls by rw [← HRs.out, HF.out, if_pos hz])
                 clear hz
                 go_wp2_with fail
                 exact ⟨⟨i + 1, hlt, by go_num, hb7, by rw [HPv.out]; exact hM7, HY.out⟩, by simp [RowKit.intOf]; omega⟩
               · have hq : (ltrErr ht pv l == 0) = false := by simp [hz]
                 have HY := Lib.hid (show ltrsErr ht [] ls = ltrErr ht pv l by rw [← HRs.out, HF.out, if_neg hz])
                 clear hz
                 go_wp2_with fail
                 go_ret
                 exact ⟨by rw [hN, HX.out, HY.out]; rfl, w1b.trans hb16⟩
             · obtain rfl : i = ls.length := by omega
               have HY := Lib.hid (show ltrsErr ht [] ls = 0 by rw [← hrs, List.drop_length]; rfl)
               go_wp2_with fail
               go_ret
               exact ⟨by rw [hN, HX.out, HY.out]; rfl, w1b.trans hbr⟩

end Go.Proofs.YthobmednnocklaaGreatDoor


/-! Fonts are looked at; chance. -/
namespace Go.Proofs.YthobmednnocklaaGreatDoor
open Go.RowKit

theorem LtrsAt.none (w : World) : LtrsAt w none [] := ⟨⟨rfl, fun h => absurd h (by decide)⟩, fun l hl => absurd hl (by simp)⟩
end Go.Proofs.YthobmednnocklaaGreatDoor


/-! Rows of what is seen: slices.Equal, glyph.Text, glyph.Doubt. -/
namespace Go.Proofs.YthobmednnocklaaGreatDoor
open Go.RowKit Go.Shelf

/-- What is seen of a piece. -/
structure Sn where
 t : List UInt8
 X : Int
 Y : Int
 W : Int
 H : Int
 d : Int
 e : Int
def Sn.cells (s : Sn) : List Value := [.string ⟨s.t.toArray⟩, .int .i64 s.X, .int .i64 s.Y, .int .i64 s.W, .int .i64 s.H, .int .i64 s.d, .int .i64 s.e]
/-! ### texts -/
set_option maxHeartbeats 2000000 in
set_option maxRecDepth 100000 in
theorem writeString_any (B : Nat) (l t : List UInt8) (w : World) (h : Bui B l w) (hlen : l.length + t.length ≤ 140737488355328) (hBw : B ≤ w.heap.size) :
 Calls Tryz.prog 113 #[.pointer (some ⟨B, 0, none⟩), .string ⟨t.toArray⟩] w fun e w' => e = .returned (.tuple #[.int .i64 t.length, .nilIface]) ∧ Bui B (l ++ t) w' ∧ Below B w w' := by
 obtain ⟨i0, hi, hz0, hz1, hz2⟩ := info_parts info_u8
 have hbc : Lib.byteCells (l ++ t) = Lib.byteCells l ++ Lib.byteCells t := Lib.byteCells_append l t
 have hbl : (Lib.byteCells l).length = l.length := Lib.byteCells_length l
 have htl : (Lib.byteCells t).length = t.length := Lib.byteCells_length t
 have Hbc := Lib.hid hbc; have Hbl := Lib.hid hbl; have Htl := Lib.hid htl
 have Hts := Lib.hid (show (ByteArray.mk t.toArray).size = t.length by simp [ByteArray.size])
 clear hbc hbl htl
 obtain ⟨bs, hbs⟩ : ∃ bs, bs = Lib.byteCells l := ⟨_, rfl⟩
 have hck := builderCheck_any B l w h
 rw [← hbs] at hck Hbc Hbl
 have Hck := Lib.hid hck
 clear hbs hck h
 go_enter Tryz.func113, Tryz.ntmps113
 go_wp2_with (go_at_call 197; refine Hck.out.mono ?_)
 rintro e w1 ⟨rfl, h1, hb1⟩
 obtain ⟨hB, v, hbk, hown, hne⟩ := h1
 have c0 : w1.cell? ⟨B, 0, none⟩ = some (.pointer (some ⟨B, 0, none⟩)) := by rw [Lib.cell_of_heap hbk]; rfl
 have c1 : w1.cell? ⟨B, 1, none⟩ = some v := by rw [Lib.cell_of_heap hbk]; rfl
 go_wp2_with (at_builtin; refine Lib.wpList_append_own_stringF _ rfl _ _ 193 9 rfl B 5 i0 Tryz.underlying193 Tryz.underlying9 hi hz0 hz1 hz2 _ _ _ rfl hown ⟨t.toArray⟩ rfl ?c3 ?c4 ?c5 ?_)
 case c3 => unfold maxLen; have := Hbl.out; rw [Hts.out]; omega
 case c4 => have := Hbl.out; rw [Hts.out]; omega
 case c5 => have := hb1.size; omega
 intro v' w2 hown' hgrow _
 have hlt : B < w1.heap.size := by
  rcases Nat.lt_or_ge B w1.heap.size with h' | h'
  · exact h'
  · simp [Array.getElem?_eq_none h'] at hbk
 have hb2 : w2.heap[B]? = some (.cells #[.pointer (some ⟨B, 0, none⟩), v] 195 (0, 0)) := by
  rw [hgrow.block B hlt (fun e => hne e.symm)]
  exact hbk
 have d0 : w2.cell? ⟨B, 0, none⟩ = some (.pointer (some ⟨B, 0, none⟩)) := by rw [Lib.cell_of_heap hb2]; rfl
 have d1 : w2.cell? ⟨B, 1, none⟩ = some v := by rw [Lib.cell_of_heap hb2]; rfl
 have f1 : w2.frozen? ⟨B, 1, none⟩ = false := Lib.frozen_of_heap hb2 1
 obtain ⟨ao, n', cap, rfl⟩ : ∃ ao n' cap, v' = .slice ao n' cap := by
  rcases hown'.2 with ⟨hv, _⟩ | ⟨g, cap, cur, fz, hv, _⟩
  · exact ⟨_, _, _, hv⟩
  · exact ⟨_, _, _, hv⟩
 have hsc : Lib.strCells ⟨t.toArray⟩ = Lib.byteCells t := rfl
 have hput := Lib.BuilderAtF.put (T := 195) (e := 5) hB hb2 (bs' := bs ++ Lib.strCells ⟨t.toArray⟩) (by simpa [Lib.strCells_length, ByteArray.size] using hown') (by decide)
 have hbel := (hb1.grown hgrow (by have := hb1.size; omega) (fun k hk => (hown.lt k hk).1)).setCell (p := ⟨B, 1, none⟩) hB (.slice ao n' cap)
 rw [hsc] at hput
 have Hput := Lib.hid hput; have Hbel := Lib.hid hbel
 clear hput hbel hown' hgrow hown hbk hb2 hlt hb1 hne hsc
 go_wp2
 go_ret2
 exact ⟨rfl, by show Lib.IsBuilderF _ _ B B (Lib.byteCells (l ++ t)) _; rw [Hbc.out]; exact Or.inr Hput.out, Hbel.out⟩

/-! ### doubts -/
end Go.Proofs.YthobmednnocklaaGreatDoor


/-! strings.HasPrefix, HasSuffix, and Contains, as the walks of spelling want them. -/
namespace Go.Proofs
open Go.Shelf
def Tryz.lays99_ren : Go.Shelf.Ren := ⟨fun | 99 => 228 | 206 => 301 | n => n, fun | 9 => 9 | 4 => 4 | 3 => 3 | n => n, fun | n => n⟩
theorem Tryz.lays99 : Go.Proofs.Lays.n99 Tryz.prog Tryz.lays99_ren := {
 mixed := by kernel_rfl
 f99 := Tryz.func228.trans (congrArg some (by kernel_rfl))
 f206 := Tryz.func301.trans (congrArg some (by kernel_rfl))
 t3 := Tryz.underlying3
 a3 := Tryz.isAgg3
 z3 := Tryz.sizeOf3
 v3 := Tryz.zeroValue3
 t4 := Tryz.underlying4
 a4 := Tryz.isAgg4
 z4 := Tryz.sizeOf4
 v4 := Tryz.zeroValue4
 t9 := Tryz.underlying9
 a9 := Tryz.isAgg9
 z9 := Tryz.sizeOf9
 v9 := Tryz.zeroValue9 }

def Tryz.lays100_ren : Go.Shelf.Ren := ⟨fun | 100 => 229 | 207 => 302 | n => n, fun | 9 => 9 | 4 => 4 | 3 => 3 | n => n, fun | n => n⟩
theorem Tryz.lays100 : Go.Proofs.Lays.n100 Tryz.prog Tryz.lays100_ren := {
 mixed := by kernel_rfl
 f100 := Tryz.func229.trans (congrArg some (by kernel_rfl))
 f207 := Tryz.func302.trans (congrArg some (by kernel_rfl))
 t3 := Tryz.underlying3
 a3 := Tryz.isAgg3
 z3 := Tryz.sizeOf3
 v3 := Tryz.zeroValue3
 t4 := Tryz.underlying4
 a4 := Tryz.isAgg4
 z4 := Tryz.sizeOf4
 v4 := Tryz.zeroValue4
 t9 := Tryz.underlying9
 a9 := Tryz.isAgg9
 z9 := Tryz.sizeOf9
 v9 := Tryz.zeroValue9 }

def Tryz.lays144_ren : Go.Shelf.Ren := ⟨fun | 144 => 230 | 143 => 196 | 219 => 279 | 217 => 286 | 225 => 319 | 224 => 320 | 267 => 321 | 266 => 325 | 314 => 352 | n => n, fun | 9 => 9 | 4 => 4 | 3 => 3 | 5 => 5 | 46 => 173 | 146 => 387 | 51 => 279 | n => n, fun | 1 => 0 | n => n⟩
theorem Tryz.lays144 : Go.Proofs.Lays.n144 Tryz.prog Tryz.lays144_ren := {
 mixed := by kernel_rfl
 f143 := Tryz.func196.trans (congrArg some (by kernel_rfl))
 f144 := Tryz.func230.trans (congrArg some (by kernel_rfl))
 f217 := Tryz.func286.trans (congrArg some (by kernel_rfl))
 f219 := Tryz.func279.trans (congrArg some (by kernel_rfl))
 f224 := Tryz.func320.trans (congrArg some (by kernel_rfl))
 f225 := Tryz.func319.trans (congrArg some (by kernel_rfl))
 f266 := Tryz.func325.trans (congrArg some (by kernel_rfl))
 f267 := Tryz.func321.trans (congrArg some (by kernel_rfl))
 f314 := Tryz.func352.trans (congrArg some (by kernel_rfl))
 t3 := Tryz.underlying3
 a3 := Tryz.isAgg3
 z3 := Tryz.sizeOf3
 v3 := Tryz.zeroValue3
 t4 := Tryz.underlying4
 a4 := Tryz.isAgg4
 z4 := Tryz.sizeOf4
 v4 := Tryz.zeroValue4
 t5 := Tryz.underlying5
 a5 := Tryz.isAgg5
 z5 := Tryz.sizeOf5
 v5 := Tryz.zeroValue5
 t9 := Tryz.underlying9
 a9 := Tryz.isAgg9
 z9 := Tryz.sizeOf9
 v9 := Tryz.zeroValue9
 t46 := Tryz.underlying173
 a46 := Tryz.isAgg173
 z46 := Tryz.sizeOf173
 v46 := Tryz.zeroValue173
 t51 := Tryz.underlying279
 a51 := Tryz.isAgg279
 z51 := Tryz.sizeOf279
 v51 := Tryz.zeroValue279
 t146 := Tryz.underlying387
 a146 := Tryz.isAgg387
 z146 := Tryz.sizeOf387
 v146 := Tryz.zeroValue387
 g1 := by kernel_rfl }

end Go.Proofs
namespace Go.Proofs.YthobmednnocklaaGreatDoor
open Go.RowKit Go.Shelf

/-- The variable of the library's that a search asks. -/
def SubOk (w : World) : Prop := ∃ m : Int, w.cell? ⟨Tryz.lays144_ren.g 1, 0, none⟩ = some (.int .i64 m)
theorem SubOk.bl {w w' : World} (h : SubOk w) (hb : Bl w w') : SubOk w' := let ⟨m, hm⟩ := h; ⟨m, hb.at hm⟩
theorem hasPrefix_any (s p : List UInt8) (w : World) : Calls Tryz.prog 228 #[.string ⟨s.toArray⟩, .string ⟨p.toArray⟩] w fun e w' => e = .returned (.bool (Lib.hasPrefix s p)) ∧ w = w' := by
 have h := Any.strings_HasPrefix Tryz.lays99 ⟨s.toArray⟩ ⟨p.toArray⟩ w
 refine Calls.mono (R := fun e w' => e = .returned (.bool (Lib.hasPrefix s p)) ∧ w' = w) h ?_
 rintro e w' ⟨rfl, rfl⟩
 exact ⟨rfl, rfl⟩
theorem hasSuffix_any (s p : List UInt8) (w : World) (hs : s.length ≤ 9223372036854775807) : Calls Tryz.prog 229 #[.string ⟨s.toArray⟩, .string ⟨p.toArray⟩] w fun e w' => e = .returned (.bool (Lib.hasSuffix s p)) ∧ w = w' := by
 have h := Any.strings_HasSuffix Tryz.lays100 ⟨s.toArray⟩ ⟨p.toArray⟩ w (by rw [Lib.size_mk]; exact hs)
 refine Calls.mono (R := fun e w' => e = .returned (.bool (Lib.hasSuffix s p)) ∧ w' = w) h ?_
 rintro e w' ⟨rfl, rfl⟩
 exact ⟨rfl, rfl⟩
theorem contains_any (s p : List UInt8) (w : World) (hs : s.length < 4294967281) (hm : SubOk w) : Calls Tryz.prog 230 #[.string ⟨s.toArray⟩, .string ⟨p.toArray⟩] w fun e w' => e = .returned (.bool (Lib.contains s p)) ∧ w = w' := by
 obtain ⟨m, hm⟩ := hm
 have h := Any.strings_Contains Tryz.lays144 ⟨s.toArray⟩ ⟨p.toArray⟩ m w (by rw [Lib.size_mk]; exact hs) hm
 refine Calls.mono (R := fun e w' => e = .returned (.bool (Lib.contains s p)) ∧ w' = w) h ?_
 rintro e w' ⟨rfl, rfl⟩
 exact ⟨rfl, rfl⟩
theorem extract_drop (l : List UInt8) (k : Nat) : (⟨l.toArray⟩ : ByteArray).extract k l.length = ⟨(l.drop k).toArray⟩ := by
 apply ByteArray.ext
 rw [ByteArray.data_extract]
 apply Array.ext'
 simp only [Array.toList_extract, List.extract_eq_take_drop]
 exact List.take_of_length_le (by simp)
/-- How long a text is. -/
def strLen : Value → Nat
 | .string s => s.size
 | _ => 0
theorem txt_at {w : World} {L : Option Addr} {ls : List Ltr} {k : Nat} (h : LtrsAt w L ls) (hk : k < ls.length) : ∃ ad, L = some ad ∧ w.cell? (ad.add (k * 4)) = some (.string ⟨(txtOf ls k).toArray⟩) ∧ w.cell? ⟨(ad.add (k * 4)).block, (ad.add (k * 4)).off + 1, none⟩ = some (.int .i64 (ls[k]'hk).W) := by
 have hg : ls[k]? = some ls[k] := List.getElem?_eq_getElem hk
 obtain ⟨ad, e, h1, h2, -, -⟩ := h.at_ hg
 exact ⟨ad, e, by rw [txtOf_at hg]; exact h1, h2⟩

end Go.Proofs.YthobmednnocklaaGreatDoor


/-! strings.Builder.Grow at a fresh builder. -/
namespace Go.Proofs
open Go.Shelf
def Tryz.lays241_ren : Go.Shelf.Ren := ⟨fun | 241 => 198 | 277 => 281 | n => n, fun | 70 => 192 | 3 => 3 | 0 => 0 | 72 => 195 | 37 => 193 | 5 => 5 | n => n, fun | n => n⟩
theorem Tryz.lays241 : Go.Proofs.Lays.n241 Tryz.prog Tryz.lays241_ren := {
 mixed := by kernel_rfl
 f241 := Tryz.func198.trans (congrArg some (by kernel_rfl))
 f277 := Tryz.func281.trans (congrArg some (by kernel_rfl))
 t0 := Tryz.underlying0
 a0 := Tryz.isAgg0
 z0 := Tryz.sizeOf0
 v0 := Tryz.zeroValue0
 t3 := Tryz.underlying3
 a3 := Tryz.isAgg3
 z3 := Tryz.sizeOf3
 v3 := Tryz.zeroValue3
 t37 := Tryz.underlying193
 a37 := Tryz.isAgg193
 z37 := Tryz.sizeOf193
 v37 := Tryz.zeroValue193
 t70 := Tryz.underlying192
 a70 := Tryz.isAgg192
 z70 := Tryz.sizeOf192
 v70 := Tryz.zeroValue192
 t72 := Tryz.underlying195
 a72 := Tryz.isAgg195
 z72 := Tryz.sizeOf195
 v72 := Tryz.zeroValue195 }

theorem Tryz.builderExtra241 : Builder.Extra Tryz.prog Tryz.lays241_ren where
 sizeBuilder := by kernel_rfl
 liesBuilder := by kernel_rfl
 t5 := Tryz.underlying5
 a5 := Tryz.isAgg5
 z5 := Tryz.sizeOf5
 v5 := Tryz.zeroValue5
 infoByte := by kernel_rfl
 cellsByte := by kernel_rfl
 sizeByte := by kernel_rfl
 neB5 := by decide
end Go.Proofs
namespace Go.Proofs.YthobmednnocklaaGreatDoor
open Go.RowKit Go.Shelf

set_option maxRecDepth 100000 in
set_option maxHeartbeats 2000000 in
theorem growB_any (B n : Nat) (w : World) (hB : B = w.heap.size) (hn : n ≤ 1048576) :
 Calls Tryz.prog 116 #[.pointer (some ⟨B, 0, none⟩), .int .i64 n] (w.alloc (.cells #[.pointer none, .slice none 0 0] 195)) fun e w' => e = .returned (.tuple #[]) ∧ Bui B [] w' ∧ Bl w w' := by
 subst hB
 obtain ⟨w0, hw0⟩ : ∃ x, x = w.alloc (.cells #[.pointer none, .slice none 0 0] 195) := ⟨_, rfl⟩
 obtain ⟨B, hB⟩ : ∃ x, x = w.heap.size := ⟨_, rfl⟩
 have hbk : w0.heap[B]? = some (.cells #[.pointer none, .slice none 0 0] 195 (0, 0)) := by rw [hw0, hB]; exact heap_alloc_new w _
 have hb0 : Bl w w0 := by rw [hw0]; exact (Bl.refl _).alloc _
 have hBw : B ≤ w0.heap.size := by rw [hB]; exact hb0.le
 rw [← hw0, ← hB]
 have HB := Lib.hid hB
 clear hw0 hB
 have hbk1 : (w0.setCell ⟨B, 0, none⟩ (.pointer (some ⟨B, 0, none⟩))).heap[B]? = some (.cells #[.pointer (some ⟨B, 0, none⟩), .slice none 0 0] 195 (0, 0)) := by
  simp [World.setCell, Array.getElem?_modify, hbk]
 have c1 : (w0.setCell ⟨B, 0, none⟩ (.pointer (some ⟨B, 0, none⟩))).cell? ⟨B, 1, none⟩ = some (.slice none 0 0) := by rw [Lib.cell_of_heap hbk1]; rfl
 have hb1 : Bl w (w0.setCell ⟨B, 0, none⟩ (.pointer (some ⟨B, 0, none⟩))) := hb0.setCell (by rw [HB.out]; exact Nat.le_refl _) _
 have hck := check_fresh B w0 (by rw [Lib.cell_of_heap hbk]; rfl) (by simp [World.shape?, hbk]) (Lib.frozen_of_heap hbk 0)
 have Hck := Lib.hid hck
 obtain ⟨w1, hw1⟩ : ∃ x, x = w0.setCell ⟨B, 0, none⟩ (.pointer (some ⟨B, 0, none⟩)) := ⟨_, rfl⟩
 have hBw1 : B ≤ w1.heap.size := by rw [hw1]; simpa using hBw
 rw [← hw1] at hbk1 c1 hb1
 have HW1 := Lib.hid hw1
 have Hbk1 := Lib.hid hbk1
 clear hck hw1 hbk
 go_enter Tryz.func116, Tryz.ntmps116
 go_wp2_with fail
 refine Hck.out.mono ?_
 rintro e w2 ⟨rfl, rfl⟩
 rw [← HW1.out]
 have hU : Bui B [] w1 := Or.inr (Lib.BuilderAtF.of ⟨Nat.le_refl _, .slice none 0 0, Hbk1.out, World.ownsRow_nil _ _ _ _, by simp [Value.ownBlock]⟩)
 have HU := Lib.hid hU
 clear hU
 go_upto_region 3 with fail
 refine wp_region_flow [(true, 0), (true, 1), (true, 2), (true, 3), (true, 4), (true, 5), (true, 6), (true, 7), (true, 8), (true, 9), (true, 10), (true, 11), (true, 12)] (fun _ => false) (by kernel_rfl) (by kernel_rfl) (by kernel_rfl) (by kernel_rfl) ?_
 iterate 1
  apply Flow.mv _ rfl
  · intro K' hK'
    simp only [sqA, Act.eval, arr_getD, List.getD_cons_zero]
    exact hK'
 iterate 4
  apply Flow.calm2 _ _ rfl rfl
  · intro w' hb' K' hK'
    obtain ⟨hc', hf'⟩ := hb'.rule
    go_simp
    try go_ints
    exact hK'
  · intro K' hK'
    simp only [sqA]
    exact hK'
 iterate 1
  apply Flow.mv _ rfl
  · intro K' hK'
    simp only [sqA, Act.eval, arr_getD, List.getD_cons_zero]
    exact hK'
 iterate 5
  apply Flow.calm2 _ _ rfl rfl
  · intro w' hb' K' hK'
    obtain ⟨hc', hf'⟩ := hb'.rule
    go_simp
    try go_ints
    exact hK'
  · intro K' hK'
    simp only [sqA]
    exact hK'
 iterate 1
  apply Flow.mv _ rfl
  · intro K' hK'
    simp only [sqA, Act.eval, arr_getD, List.getD_cons_zero, List.getD_cons_succ]
    exact hK'
 iterate 1
  apply Flow.calm2 _ _ rfl rfl
  · intro w' hb' K' hK'
    obtain ⟨hc', hf'⟩ := hb'.rule
    go_simp
    try go_ints
    exact hK'
  · intro K' hK'
    simp only [sqA]
    exact hK'
 refine Flow.done ?_
 by_cases h0 : n = 0
 · subst h0
   go_wp2_with fail
   go_end0
   exact ⟨rfl, builder_bl HU.out (Bl.refl _).drew, hb1.drew⟩
 · have hlt : (0 : Int) < (n : Int) := by omega
   go_wp2_with fail
   refine (Any.Builder_grow_fresh Tryz.lays241 Tryz.builderExtra241 B B n w1.drew (Nat.le_refl _) Hbk1.out (by simpa using hBw1) (by omega)).mono ?_
   rintro e w2 ⟨rfl, h1, h2⟩
   go_wp2_with fail
   go_end0
   exact ⟨rfl, Or.inr (Lib.BuilderAtF.of h1), Bl.trans' hb1.drew HB.out.symm h2⟩

end Go.Proofs.YthobmednnocklaaGreatDoor
