/- bedref2.WidthOf. -/
import Derived.Test.YthobmednnocklaaGreatDoorMClaimLinesAreRead5
import Derived.Test.YthobmednnocklaaGreatDoorMClaimLinesAreRead1
import Derived.Test.YthobmednnocklaaGreatDoorMClaimLinesAreRead3
import Derived.Test.YthobmednnocklaaGreatDoorMClaimLinesAreRead2
import Derived.Test.YthobmednnocklaaGreatDoorMClaimLinesAreRead0
import Derived.Carry
import Derived.MapFrom
import Derived.Laws.StructEq
import Derived.WalkKit
import Derived.Ground.NamesProg
import Derived.Shelf.Lay
import Derived.Shelf.Strings.Builder1
import Derived.Shelf.Strings.BuilderF
import Derived.Shelf.Strings.BuilderK
import Derived.Deep.Onto
import Derived.Shelf.Vars
import Derived.Shelf.Strings.Search3
import Derived.Shelf.Strings.Prefix
import Derived.Lib.TrimByte

namespace Go.Proofs.YthobmednnocklaaGreatDoor
open Go.RowKit

/-- The map at b has these keys, each with true. -/
def MapAt (w : World) (b : Nat) (ks : List (List UInt8)) : Prop := ∃ es clock, w.heap[b]? = some (.map es clock) ∧ (∀ x ∈ es.toList, ∃ s ∈ ks, x.key = .string ⟨s.toArray⟩ ∧ x.val = .bool true) ∧ ∀ s ∈ ks, ∃ x ∈ es.toList, x.key = .string ⟨s.toArray⟩
theorem MapAt.new (w : World) : MapAt (w.alloc (.map #[] 0)) w.heap.size [] := ⟨#[], 0, (MapKept.heap_alloc w _).1, by simp, by simp⟩
theorem MapAt.bl {w w' : World} {b : Nat} {ks : List (List UInt8)} (h : MapAt w b ks) (hb : Bl w w') : MapAt w' b ks := by
 obtain ⟨es, c, h1, h2, h3⟩ := h
 exact ⟨es, c, (Below.block hb b (Array.getElem?_eq_some_iff.1 h1).1).trans h1, h2, h3⟩
theorem string_inj {s t : List UInt8} (h : Value.string ⟨s.toArray⟩ = .string ⟨t.toArray⟩) : s = t := by simpa using h
theorem MapAt.lookup {w : World} {b : Nat} {ks : List (List UInt8)} (h : MapAt w b ks) (s : List UInt8) : (Instr.lookup 130 (.map (some b)) (.string ⟨s.toArray⟩) false).run Tryz.prog w = .ok (.bool (decide (s ∈ ks))) w := by
 obtain ⟨es, c, h1, h2, h3⟩ := h
 have hk : MapKept.IsKey .string (.string ⟨s.toArray⟩) := trivial
 have hks : ∀ x ∈ es.toList, MapKept.IsKey .string x.key := fun x hx => by obtain ⟨t, _, e, _⟩ := h2 x hx; rw [e]; trivial
 rcases MapKept.findNow_spec hk es.toList 0 hks with ⟨hf, hno⟩ | ⟨j, e, hf, hj, he⟩
 · have hn : s ∉ ks := fun hm => by obtain ⟨x, hx, e⟩ := h3 s hm; exact hno x hx e
   rw [decide_eq_false hn]
   simp [Instr.lookup, run_underlying Tryz.underlying130, MapKept.run_getObj_map h1, MapKept.run_checkKey Tryz.underlying9 hk, MapKept.run_findKey Tryz.underlying9 hf, Tryz.zeroValue4, Result.andThen]
 · obtain ⟨t, ht, e1, e2⟩ := h2 e (List.mem_of_getElem? hj)
   have hs : s ∈ ks := (string_inj (he.symm.trans e1)) ▸ ht
   rw [decide_eq_true hs]
   simp [Instr.lookup, run_underlying Tryz.underlying130, MapKept.run_getObj_map h1, MapKept.run_checkKey Tryz.underlying9 hk, MapKept.run_findKey Tryz.underlying9 hf, e2, Result.andThen]
theorem bl_set {w0 w : World} (h : Bl w0 w) {b : Nat} (hb : w0.heap.size ≤ b) (o : Obj) : Bl w0 { w with heap := w.heap.setIfInBounds b o } := by
 refine ⟨h.os, h.tape, h.output, ?_, fun k hk => ?_⟩
 · have := Below.size h
   simpa using this
 · show (w.heap.setIfInBounds b o)[k]? = _
   rw [Array.getElem?_setIfInBounds_ne (by omega)]
   exact Below.block h k hk
theorem MapAt.update {w : World} {b : Nat} {ks : List (List UInt8)} (h : MapAt w b ks) (s : List UInt8) : ∃ w', (Instr.mapUpdate 130 (.map (some b)) (.string ⟨s.toArray⟩) (.bool true)).run Tryz.prog w = .ok () w' ∧ MapAt w' b (ks ++ [s]) ∧ ∀ w0, Bl w0 w → w0.heap.size ≤ b → Bl w0 w' := by
 obtain ⟨es, c, h1, h2, h3⟩ := h
 have hk : MapKept.IsKey .string (.string ⟨s.toArray⟩) := trivial
 have hks : ∀ x ∈ es.toList, MapKept.IsKey .string x.key := fun x hx => by obtain ⟨t, _, e, _⟩ := h2 x hx; rw [e]; trivial
 rcases MapKept.findNow_spec hk es.toList 0 hks with ⟨hf, hno⟩ | ⟨j, e, hf, hj, he⟩
 · refine ⟨{ w with heap := w.heap.setIfInBounds b (.map (es.push ⟨.string ⟨s.toArray⟩, .bool true, c⟩) (c + 1)) }, ?_, ⟨_, _, (MapKept.heap_set h1).1, ?_, ?_⟩, fun w0 h0 hb => bl_set h0 hb _⟩
   · simp [Instr.mapUpdate, run_underlying Tryz.underlying130, MapKept.run_getObj_map h1, MapKept.run_checkKey Tryz.underlying9 hk, MapKept.run_findKey Tryz.underlying9 hf, MapKept.run_setObj_map _ h1, Result.andThen]
   · intro x hx
     simp only [Array.toList_push, List.mem_append, List.mem_singleton] at hx
     rcases hx with hx | rfl
     · obtain ⟨t, ht, e⟩ := h2 x hx
       exact ⟨t, List.mem_append_left _ ht, e⟩
     · exact ⟨s, by simp, rfl, rfl⟩
   · intro t ht
     rcases List.mem_append.1 ht with ht | ht
     · obtain ⟨x, hx, e⟩ := h3 t ht
       exact ⟨x, by simp [hx], e⟩
     · obtain rfl := List.mem_singleton.1 ht
       exact ⟨⟨.string ⟨t.toArray⟩, .bool true, c⟩, by simp, rfl⟩
 · have hj' : es[j]? = some e := by simpa using hj
   have hmod : ∀ x ∈ (es.modify j (fun e' => { e' with key := .string ⟨s.toArray⟩, val := .bool true })).toList, x ∈ es.toList ∨ (x.key = .string ⟨s.toArray⟩ ∧ x.val = .bool true) := fun x hx => by
    rcases MapFrom.mem_modify hx with hx | ⟨e', _, rfl⟩
    · exact Or.inl hx
    · exact Or.inr ⟨rfl, rfl⟩
   have hkey := MapKept.modify_keys (es := es) j (fun e' => { e' with key := .string ⟨s.toArray⟩, val := .bool true }) (fun e' he' => by rw [hj'] at he'; cases he'; exact he.symm)
   refine ⟨{ w with heap := w.heap.setIfInBounds b (.map (es.modify j (fun e' => { e' with key := .string ⟨s.toArray⟩, val := .bool true })) c) }, ?_, ⟨_, _, (MapKept.heap_set h1).1, ?_, ?_⟩, fun w0 h0 hb => bl_set h0 hb _⟩
   · simp [Instr.mapUpdate, run_underlying Tryz.underlying130, MapKept.run_getObj_map h1, MapKept.run_checkKey Tryz.underlying9 hk, MapKept.run_findKey Tryz.underlying9 hf, hj', he, MapKept.run_keyThatStays hk, MapKept.run_setObj_map _ h1, Result.andThen]
   · intro x hx
     rcases hmod x hx with hx | ⟨e1, e2⟩
     · obtain ⟨t, ht, e⟩ := h2 x hx
       exact ⟨t, List.mem_append_left _ ht, e⟩
     · exact ⟨s, by simp, e1, e2⟩
   · intro t ht
     have hex : ∃ y ∈ es.toList, y.key = .string ⟨t.toArray⟩ := by
      rcases List.mem_append.1 ht with ht | ht
      · exact h3 t ht
      · obtain rfl := List.mem_singleton.1 ht
        exact ⟨e, List.mem_of_getElem? hj, he⟩
     obtain ⟨y, hy, e3⟩ := hex
     have hm : y.key ∈ es.toList.map (·.key) := List.mem_map.2 ⟨y, hy, rfl⟩
     rw [← hkey] at hm
     obtain ⟨x, hx, e4⟩ := List.mem_map.1 hm
     exact ⟨x, hx, e4.trans e3⟩

end Go.Proofs.YthobmednnocklaaGreatDoor


/-! glyph.checkLetter is ltrErr. -/
namespace Go.Proofs.YthobmednnocklaaGreatDoor
open Go.RowKit

set_option maxRecDepth 100000 in
set_option maxHeartbeats 4000000 in
theorem checkLetter_any (nm : List UInt8) (ht gap sp : Int) (L : Option Addr) (n c : Nat) (prev : List (List UInt8)) (l : Ltr) (w : World) (hA : Reads w 1 l.A l.m (l.bs.map .bool)) (hlen : l.text.length ≤ 9223372036854775807) :
 Calls Tryz.prog 83 #[.agg #[.string ⟨nm.toArray⟩, .int .i64 ht, .int .i64 gap, .int .i64 sp, .slice L n c], l.val, .bool (decide (l.text ∈ prev))] w fun e w' => e = .returned (.int .i64 (ltrErr ht prev l)) ∧ Bl w w' := by
 unfold Ltr.val
 let w1 := ((w).alloc (.cells #[.string ⟨nm.toArray⟩, .int .i64 ht, .int .i64 gap, .int .i64 sp, .slice L n c] 29)).alloc (.cells #[.string ⟨l.text.toArray⟩, .int .i64 l.W, .int .i64 l.H, .slice l.A l.m l.c] 88)
 have w1b : Bl w w1 := ((Bl.refl w).alloc _).alloc _
 have w11 : Blk w1 (w.heap.size) 29 #[.string ⟨nm.toArray⟩, .int .i64 ht, .int .i64 gap, .int .i64 sp, .slice L n c] := by
  have h0 := Blk.new (w) 29 #[.string ⟨nm.toArray⟩, .int .i64 ht, .int .i64 gap, .int .i64 sp, .slice L n c]
  exact (h0.alloc _)
 have w12 : Blk w1 (w.heap.size + 1) 88 #[.string ⟨l.text.toArray⟩, .int .i64 l.W, .int .i64 l.H, .slice l.A l.m l.c] := by
  have h0 := Blk.new ((w).alloc (.cells #[.string ⟨nm.toArray⟩, .int .i64 ht, .int .i64 gap, .int .i64 sp, .slice L n c] 29)) 88 #[.string ⟨l.text.toArray⟩, .int .i64 l.W, .int .i64 l.H, .slice l.A l.m l.c]
  simp only [World.size_alloc] at h0
  exact h0
 have k1 := w11.all5
 have k2 := w12.all4
 have HA := Lib.hid (hA.bl w1b)
 have htx := fun w => isText_any l.text w hlen
 cases hb : textB l.text
 · rw [hb] at htx
   have HE := Lib.hid (show ltrErr ht prev l = 2 by unfold ltrErr; rw [hb]; rfl)
   have Htx := Lib.hid htx
   clear hb htx hA
   go_enter Tryz.func83, Tryz.ntmps83
   go_wp2_with fail
   refine (Htx.out _).mono ?_
   rintro e w' ⟨rfl, rfl⟩
   go_wp2_with fail
   go_ret
   exact ⟨by rw [HE.out]; rfl, w1b⟩
 · rw [hb] at htx
   cases hp : decide (l.text ∈ prev)
   · have HE := Lib.hid (show ltrErr ht prev l = firstNZ [pageErr l.W l.H l.m, whenI (l.H != ht) 11, whenI (decide (64 < l.W)) 4, whenI (bareB l.bs l.W.toNat l.H.toNat) 2] by unfold ltrErr; rw [hb, hp]; rfl)
     have Htx := Lib.hid htx
     clear hb hp htx hA
     have hcol := columns_any l.W l.H l.A l.m l.c l.bs w1 HA.out
     have Hcol := Lib.hid hcol
     clear hcol
     by_cases hz : pageErr l.W l.H l.m = 0
     · obtain ⟨W', H', eW, eH, em, hW, hH, -⟩ := page_nat hz
       have HE2 := Lib.hid (show ltrErr ht prev l = firstNZ [whenI (l.H != ht) 11, whenI (decide (64 < l.W)) 4, whenI (bareB l.bs l.W.toNat l.H.toNat) 2] by rw [HE.out, hz]; rfl)
       have HZ := Lib.hid hz
       have HW := Lib.hid (show l.W.toNat ≤ 4000 by omega)
       have hq0 : (pageErr l.W l.H l.m == 0) = true := by simp [hz]
       clear eW eH em hW hH hz
       by_cases h1 : l.H = ht
       · have q1 : (l.H == ht) = true := by simp [h1]
         by_cases h2 : 64 < l.W
         · have HE3 := Lib.hid (show ltrErr ht prev l = 4 by rw [HE2.out]; simp [firstNZ, whenI, h1, h2])
           clear h1
           go_enter Tryz.func83, Tryz.ntmps83
           go_wp2_with fail
           refine (Htx.out _).mono ?_
           rintro e w' ⟨rfl, rfl⟩
           go_wp2_with fail
           refine Hcol.out.mono ?_
           rintro e w3 ⟨P, m, d, rfl, -, hb3⟩
           have k1 := (w11.bl hb3).all5
           have k2 := (w12.bl hb3).all4
           go_wp2_with fail
           go_ret
           exact ⟨by rw [HE3.out]; rfl, w1b.trans hb3⟩
         · have HE3 := Lib.hid (show ltrErr ht prev l = whenI (bareB l.bs l.W.toNat l.H.toNat) 2 by rw [HE2.out]; simp [firstNZ, whenI, h1, h2])
           clear h1
           go_enter Tryz.func83, Tryz.ntmps83
           go_wp2_with fail
           refine (Htx.out _).mono ?_
           rintro e w' ⟨rfl, rfl⟩
           go_wp2_with fail
           refine Hcol.out.mono ?_
           rintro e w3 ⟨P, m, d, rfl, hT, hb3⟩
           obtain ⟨rfl, hR⟩ := hT.1 HZ.out
           have hcon := fun wy (hy : Bl w3 wy) => containsI_any P l.W.toNat d _ 0 wy (hR.bl hy) (by have := HW.out; omega)
           simp only [bare_mem] at hcon
           have Hcon := Lib.hid hcon
           have k1 := (w11.bl hb3).all5
           have k2 := (w12.bl hb3).all4
           clear hcon hT hR
           go_wp2_with fail
           refine (Hcon.out _ (Bl.refl _)).mono ?_
           rintro e w4 ⟨rfl, rfl⟩
           cases hbr : bareB l.bs l.W.toNat l.H.toNat
           · have HF := Lib.hid (show ltrErr ht prev l = 0 by rw [HE3.out, hbr]; rfl)
             go_wp2_with fail
             go_ret
             exact ⟨by rw [HF.out]; rfl, w1b.trans hb3⟩
           · have HF := Lib.hid (show ltrErr ht prev l = 2 by rw [HE3.out, hbr]; rfl)
             go_wp2_with fail
             go_ret
             exact ⟨by rw [HF.out]; rfl, w1b.trans hb3⟩
       · have q1 : (l.H == ht) = false := by simp [h1]
         have HE3 := Lib.hid (show ltrErr ht prev l = 11 by rw [HE2.out]; simp [firstNZ, whenI, h1])
         clear h1
         go_enter Tryz.func83, Tryz.ntmps83
         go_wp2_with fail
         refine (Htx.out _).mono ?_
         rintro e w' ⟨rfl, rfl⟩
         go_wp2_with fail
         refine Hcol.out.mono ?_
         rintro e w3 ⟨P, m, d, rfl, -, hb3⟩
         have k1 := (w11.bl hb3).all5
         have k2 := (w12.bl hb3).all4
         go_wp2_with fail
         go_ret
         exact ⟨by rw [HE3.out]; rfl, w1b.trans hb3⟩
     · have hq0 : (pageErr l.W l.H l.m == 0) = false := by simp [hz]
       have HE2 := Lib.hid (show ltrErr ht prev l = pageErr l.W l.H l.m by rw [HE.out]; simp [firstNZ, hz])
       clear hz
       go_enter Tryz.func83, Tryz.ntmps83
       go_wp2_with fail
       refine (Htx.out _).mono ?_
       rintro e w' ⟨rfl, rfl⟩
       go_wp2_with fail
       refine Hcol.out.mono ?_
       rintro e w3 ⟨P, m, d, rfl, -, hb3⟩
       have k1 := (w11.bl hb3).all5
       have k2 := (w12.bl hb3).all4
       go_wp2_with fail
       go_ret
       exact ⟨by rw [HE2.out]; rfl, w1b.trans hb3⟩
   · have HE := Lib.hid (show ltrErr ht prev l = 6 by unfold ltrErr; rw [hb, hp]; rfl)
     have Htx := Lib.hid htx
     clear hb hp htx hA
     go_enter Tryz.func83, Tryz.ntmps83
     go_wp2_with fail
     refine (Htx.out _).mono ?_
     rintro e w' ⟨rfl, rfl⟩
     go_wp2_with fail
     go_ret
     exact ⟨by rw [HE.out]; rfl, w1b⟩

end Go.Proofs.YthobmednnocklaaGreatDoor


/-! glyph.Check is fontErr. -/
namespace Go.Proofs.YthobmednnocklaaGreatDoor
open Go.RowKit

set_option maxRecDepth 100000 in
set_option maxHeartbeats 4000000 in
theorem check_any (nm : List UInt8) (ht gap sp : Int) (L : Option Addr) (c : Nat) (ls : List Ltr) (w : World) (hL : LtrsAt w L ls) (hnm : nm.length ≤ 9223372036854775807) (hn : ls.length ≤ 9223372036854775807) :
 Calls Tryz.prog 33 #[.agg #[.string ⟨nm.toArray⟩, .int .i64 ht, .int .i64 gap, .int .i64 sp, .slice L ls.length c]] w fun e w' => e = .returned (.int .i64 (fontErr (nameB nm) ht gap sp ls)) ∧ Bl w w' := by
 let w1 := (w).alloc (.cells #[.string ⟨nm.toArray⟩, .int .i64 ht, .int .i64 gap, .int .i64 sp, .slice L ls.length c] 29)
 have w1b : Bl w w1 := (Bl.refl w).alloc _
 have w11 : Blk w1 (w.heap.size) 29 #[.string ⟨nm.toArray⟩, .int .i64 ht, .int .i64 gap, .int .i64 sp, .slice L ls.length c] := by
  have h0 := Blk.new (w) 29 #[.string ⟨nm.toArray⟩, .int .i64 ht, .int .i64 gap, .int .i64 sp, .slice L ls.length c]
  exact h0
 have HL := Lib.hid (hL.bl w1b)
 have hnm' := fun w => isName_any ⟨nm.toArray⟩ w (by rw [Lib.size_mk]; exact hnm)
 have HNm := Lib.hid hnm'
 have k1 := w11.all5
 have hmm := @run_makeMap Tryz.prog
 clear hL hnm'
 go_enter Tryz.func33, Tryz.ntmps33
 go_wp2_with fail
 refine (HNm.out _).mono ?_
 rintro e w2 ⟨rfl, hb2⟩
 have k2 := (w11.bl hb2).all5
 clear k1
 cases hN : nameB nm
 · have HE := Lib.hid (show fontErr (nameB nm) ht gap sp ls = 5 by unfold fontErr fontHead; rw [hN]; rfl)
   go_wp2_with fail
   go_ret
   exact ⟨by rw [← hN, HE.out]; rfl, w1b.trans hb2⟩
 · have HE := Lib.hid (show fontErr (nameB nm) ht gap sp ls = if fontHead true ht gap sp ls.length = 0 then ltrsErr ht [] ls else fontHead true ht gap sp ls.length by unfold fontErr; rw [hN])
   go_upto_region 3 with fail
   go_cut [12] from 13 to 40 (fun s12 wc => s12 = .bool (!rangeB ht gap sp) ∧ w2 = wc)
   case first =>
    by_cases c0 : ht < 1
    · have HR := Lib.hid (show (!rangeB ht gap sp) = true by unfold rangeB inB; simp; omega)
      go_wp2_with fail
      go_meet
      case rel => exact ⟨by rw [HR.out], rfl⟩
    · skip
      by_cases c1 : 64 < ht
      · have HR := Lib.hid (show (!rangeB ht gap sp) = true by unfold rangeB inB; simp; omega)
        go_wp2_with fail
        go_meet
        case rel => exact ⟨by rw [HR.out], rfl⟩
      · skip
        by_cases c2 : gap < 1
        · have HR := Lib.hid (show (!rangeB ht gap sp) = true by unfold rangeB inB; simp; omega)
          go_wp2_with fail
          go_meet
          case rel => exact ⟨by rw [HR.out], rfl⟩
        · skip
          by_cases c3 : 16 < gap
          · have HR := Lib.hid (show (!rangeB ht gap sp) = true by unfold rangeB inB; simp; omega)
            go_wp2_with fail
            go_meet
            case rel => exact ⟨by rw [HR.out], rfl⟩
          · skip
            by_cases c4 : sp < 1
            · have HR := Lib.hid (show (!rangeB ht gap sp) = true by unfold rangeB inB; simp; omega)
              go_wp2_with fail
              go_meet
              case rel => exact ⟨by rw [HR.out], rfl⟩
            · skip
              by_cases c5 : 64 < sp
              · have HR := Lib.hid (show (!rangeB ht gap sp) = true by unfold rangeB inB; simp; omega)
                go_wp2_with fail
                go_meet
                case rel => exact ⟨by rw [HR.out], rfl⟩
              · have HR := Lib.hid (show (!rangeB ht gap sp) = false by unfold rangeB inB; simp; omega)
                go_wp2_with fail
                go_meet
                case rel => exact ⟨by rw [HR.out], rfl⟩
   case rest =>
    obtain ⟨rfl, rfl⟩ := hcut
    cases hr : rangeB ht gap sp
    · have HF := Lib.hid (show fontErr (nameB nm) ht gap sp ls = 3 by rw [HE.out]; unfold fontHead; rw [hr]; rfl)
      go_wp2_with fail
      go_ret
      exact ⟨by rw [← hN, HF.out]; rfl, w1b.trans hb2⟩
    · by_cases c1 : sp ≤ gap
      · have HF := Lib.hid (show fontErr (nameB nm) ht gap sp ls = 7 by rw [HE.out]; unfold fontHead; rw [hr, decide_eq_true c1]; rfl)
        go_wp2_with fail
        go_ret
        exact ⟨by rw [← hN, HF.out]; rfl, w1b.trans hb2⟩
      · by_cases c2 : ls.length = 0
        · have HF := Lib.hid (show fontErr (nameB nm) ht gap sp ls = 9 by rw [HE.out]; unfold fontHead; rw [hr, decide_eq_false c1, decide_eq_true c2]; rfl)
          have q2 : ((ls.length : Int) == 0) = true := by rw [len0]; exact decide_eq_true c2
          clear c2
          go_wp2_with fail
          go_ret
          exact ⟨by rw [← hN, HF.out]; rfl, w1b.trans hb2⟩
        · by_cases c3 : 200 < (ls.length : Int)
          · have HF := Lib.hid (show fontErr (nameB nm) ht gap sp ls = 4 by rw [HE.out]; unfold fontHead; rw [hr, decide_eq_false c1, decide_eq_false c2, decide_eq_true (show 200 < ls.length by omega)]; rfl)
            have q2 : ((ls.length : Int) == 0) = false := by rw [len0]; exact decide_eq_false c2
            clear c2
            go_wp2_with fail
            go_ret
            exact ⟨by rw [← hN, HF.out]; rfl, w1b.trans hb2⟩
          · have HX := Lib.hid (show fontErr true ht gap sp ls = ltrsErr ht [] ls by
             rw [← hN, HE.out]; unfold fontHead; rw [hr, decide_eq_false c1, decide_eq_false c2, decide_eq_false (show ¬ 200 < ls.length by omega)]; rfl)
            have q2 : ((ls.length : Int) == 0) = false := by rw [len0]; exact decide_eq_false c2
            clear c2 HE
            have hM0 := MapAt.new w2
            have hb3 : Bl w1 (w2.alloc (.map #[] 0)) := hb2.alloc _
            have hmb : w1.heap.size ≤ w2.heap.size := hb2.le
            have k3 := (w11.bl hb3).all5
            go_wp2_with fail
            go_loopw [61] (fun u wr => ∃ i : Nat, i ≤ ls.length ∧ u = .int .i64 i ∧ Bl w1 wr ∧ MapAt wr w2.heap.size ((ls.take i).map Ltr.text) ∧ ltrsErr ht ((ls.take i).map Ltr.text) (ls.drop i) = ltrsErr ht [] ls) (fun u _ => ls.length - (RowKit.intOf u).toNat)
            case atStart => exact ⟨0, Nat.zero_le _, rfl, hb3, hM0, by simp⟩
            case round =>
             obtain ⟨i, hi, rfl, hbr, hMr, hrs⟩ := hrel
             by_cases hlt : i < ls.length
             · have hg : ls[i]? = some ls[i] := List.getElem?_eq_getElem hlt
               obtain ⟨l, hl⟩ : ∃ l, l = ls[i] := ⟨_, rfl⟩
               rw [← hl] at hg
               obtain ⟨ad, rfl, j1, j2, j3, j4⟩ := (HL.out.bl hbr).at_ hg
               obtain ⟨pv, hpv⟩ : ∃ x, x = (ls.take i).map Ltr.text := ⟨_, rfl⟩
               have hfr := ltrsErr_from (ht := ht) hg
               have hpv2 : (ls.take (i + 1)).map Ltr.text = pv ++ [l.text] := by rw [List.take_add_one, hg, hpv]; simp
               rw [← hpv] at hMr hrs hfr
               have hcl := checkLetter_any nm ht gap sp (some ad) ls.length c pv l
               have HA := Lib.hid (HL.out.2 l (List.mem_of_getElem? hg))
               have HRs := Lib.hid hrs; have HF := Lib.hid hfr; have HG := Lib.hid hg; have Hcl := Lib.hid hcl; have HPv := Lib.hid hpv2
               clear hrs hfr hpv hpv2 hg hl hcl hM0
               go_upto_region 15 with fail
               obtain ⟨w5, hw5⟩ : ∃ x, x = wr.alloc (.cells #[.string ⟨l.text.toArray⟩, .int .i64 l.W, .int .i64 l.H, .slice l.A l.m l.c] 88) := ⟨_, rfl⟩
               have b5 : Blk w5 wr.heap.size 88 #[.string ⟨l.text.toArray⟩, .int .i64 l.W, .int .i64 l.H, .slice l.A l.m l.c] := by rw [hw5]; exact Blk.new _ _ _
               have hb5 : Bl w1 w5 := by rw [hw5]; exact hbr.alloc _
               have hM5 : MapAt w5 w2.heap.size pv := by rw [hw5]; exact hMr.bl ((Bl.refl _).alloc _)
               rw [← hw5]
               have k5 := (w11.bl hb5).all5
               have k6 := b5.all4
               have hlk := hM5.lookup l.text
               clear hw5 j1 j2 j3 j4 k2 k3 hMr
               go_wp2_with fail
               refine (Hcl.out _ (HA.out.1.bl hb5) HA.out.2).mono ?_
               rintro e w6 ⟨rfl, hb6⟩
               have hb16 := hb5.trans hb6
               have k7 := (b5.bl hb6).all4
               obtain ⟨w7, hup, hM7, hB7⟩ := (hM5.bl hb6).update l.text
               have hb7 := hB7 w1 hb16 hmb
               clear k6 k5 hlk hM5 hB7
               by_cases hz : ltrErr ht pv l = 0
               · have hq : (ltrErr ht pv l == 0) = true := by simp [hz]
                 have HY := Lib.hid (show ltrsErr ht ((ls.take (i + 1)).map Ltr.text) (ls.drop (i + 1)) = ltrsErr ht [] ls by rw [← HRs.out, HF.out, if_pos hz])
                 clear hz
                 go_wp2_with fail
                 exact ⟨⟨i + 1, hlt, by go_num, hb7, by rw [HPv.out]; exact hM7, HY.out⟩, by simp [RowKit.intOf]; omega⟩
               · have hq : (ltrErr ht pv l == 0) = false := by simp [hz]
                 have HY := Lib.hid (show ltrsErr ht [] ls = ltrErr ht pv l by rw [← HRs.out, HF.out, if_neg hz])
                 clear hz
                 go_wp2_with fail
                 go_ret
                 exact ⟨by rw [hN, HX.out, HY.out]; rfl, w1b.trans hb16⟩
             · obtain rfl : i = ls.length := by omega
               have HY := Lib.hid (show ltrsErr ht [] ls = 0 by rw [← hrs, List.drop_length]; rfl)
               go_wp2_with fail
               go_ret
               exact ⟨by rw [hN, HX.out, HY.out]; rfl, w1b.trans hbr⟩

end Go.Proofs.YthobmednnocklaaGreatDoor


/-! Fonts are looked at; chance. -/
namespace Go.Proofs.YthobmednnocklaaGreatDoor
open Go.RowKit

theorem LtrsAt.none (w : World) : LtrsAt w none [] := ⟨⟨rfl, fun h => absurd h (by decide)⟩, fun l hl => absurd hl (by simp)⟩
end Go.Proofs.YthobmednnocklaaGreatDoor


/-! Rows of what is seen: slices.Equal, glyph.Text, glyph.Doubt. -/
namespace Go.Proofs.YthobmednnocklaaGreatDoor
open Go.RowKit Go.Shelf

/-- What is seen of a piece. -/
structure Sn where
 t : List UInt8
 X : Int
 Y : Int
 W : Int
 H : Int
 d : Int
 e : Int
def Sn.cells (s : Sn) : List Value := [.string ⟨s.t.toArray⟩, .int .i64 s.X, .int .i64 s.Y, .int .i64 s.W, .int .i64 s.H, .int .i64 s.d, .int .i64 s.e]
def snCells (ss : List Sn) : List Value := ss.flatMap Sn.cells
theorem snCells_at {ls : List Sn} {i : Nat} {l : Sn} (h : ls[i]? = some l) (j : Nat) (hj : j < 7) : (snCells ls)[i * 7 + j]? = l.cells[j]? := by
 induction ls generalizing i with
 | nil => simp at h
 | cons x ls ih =>
  unfold snCells
  rw [List.flatMap_cons]
  rcases i with _ | i
  · simp only [List.getElem?_cons_zero, Option.some.injEq] at h
    subst h
    rw [List.getElem?_append_left (by show 0 * 7 + j < 7; omega)]
    simp
  · rw [List.getElem?_append_right (by show 7 ≤ (i + 1) * 7 + j; omega)]
    have e : (i + 1) * 7 + j - x.cells.length = i * 7 + j := by
     show (i + 1) * 7 + j - 7 = i * 7 + j
     omega
    rw [e]
    exact ih (by simpa using h)
theorem sn_at {w : World} {A : Option Addr} {ss : List Sn} {i : Nat} {s : Sn} (h : Reads w 7 A ss.length (snCells ss)) (hi : ss[i]? = some s) : ∃ ad, A = some ad ∧ w.cell? (ad.add (i * 7)) = some (.string ⟨s.t.toArray⟩) ∧ w.cell? ⟨(ad.add (i * 7)).block, (ad.add (i * 7)).off + 1, none⟩ = some (.int .i64 s.X) ∧
 w.cell? ⟨(ad.add (i * 7)).block, (ad.add (i * 7)).off + 2, none⟩ = some (.int .i64 s.Y) ∧ w.cell? ⟨(ad.add (i * 7)).block, (ad.add (i * 7)).off + 3, none⟩ = some (.int .i64 s.W) ∧ w.cell? ⟨(ad.add (i * 7)).block, (ad.add (i * 7)).off + 4, none⟩ = some (.int .i64 s.H) ∧
 w.cell? ⟨(ad.add (i * 7)).block, (ad.add (i * 7)).off + 5, none⟩ = some (.int .i64 s.d) ∧ w.cell? ⟨(ad.add (i * 7)).block, (ad.add (i * 7)).off + 6, none⟩ = some (.int .i64 s.e) := by
 have hlt : i < ss.length := (List.getElem?_eq_some_iff.1 hi).1
 obtain ⟨ad, e, hc⟩ := h.2 (by omega)
 have key : ∀ j v, j < 7 → s.cells[j]? = some v → w.cell? ((ad.add (i * 7)).add j) = some v := fun j v hj hv => by
  rw [add_of_add]
  exact hc _ _ (by rw [snCells_at hi j hj]; exact hv)
 have k0 := key 0 _ (by omega) rfl
 have k1 := key 1 _ (by omega) rfl
 have k2 := key 2 _ (by omega) rfl
 have k3 := key 3 _ (by omega) rfl
 have k4 := key 4 _ (by omega) rfl
 have k5 := key 5 _ (by omega) rfl
 have k6 := key 6 _ (by omega) rfl
 rw [Addr.add_zero'] at k0
 rw [Addr.add_succ'] at k1 k2 k3 k4 k5 k6
 exact ⟨ad, e, k0, k1, k2, k3, k4, k5, k6⟩

set_option maxRecDepth 100000 in
theorem eq_box (n : Nat) (a b c d : Int) (w : World) : (Op.equalIn (n + 1 + 1) 26 (.agg #[.int .i64 a, .int .i64 b, .int .i64 c, .int .i64 d]) (.agg #[.int .i64 a, .int .i64 b, .int .i64 c, .int .i64 d])).run Tryz.prog w = .ok true w := by
 have u3 := Tryz.underlying3
 have a3 := Tryz.isAgg3
 have z3 := Tryz.sizeOf3
 rw [run_equalIn_agg w (n + 1) _ _ _ (by kernel_rfl) (by kernel_rfl)]
 simp only [Program.fieldsOf, Tryz.underlying26]
 go_simp
set_option maxRecDepth 100000 in
theorem neq_seen (t : ByteArray) (a b c d e f : Int) (w : World) : (binOp .neq 45 (.agg #[.string t, .int .i64 a, .int .i64 b, .int .i64 c, .int .i64 d, .int .i64 e, .int .i64 f]) (.agg #[.string t, .int .i64 a, .int .i64 b, .int .i64 c, .int .i64 d, .int .i64 e, .int .i64 f])).run Tryz.prog w = .ok (.bool false) w := by
 have u3 := Tryz.underlying3
 have a3 := Tryz.isAgg3
 have z3 := Tryz.sizeOf3
 have u9 := Tryz.underlying9
 have a9 := Tryz.isAgg9
 have z9 := Tryz.sizeOf9
 have aB := Tryz.isAgg26
 have zB := Tryz.sizeOf26
 have hb := eq_box 9997 a b c d
 rw [run_neq_struct, show (10000 : Nat) = 9997 + 1 + 1 + 1 from rfl, run_equalIn_agg w (9997 + 1 + 1) _ _ _ (by kernel_rfl) (by kernel_rfl)]
 simp only [Program.fieldsOf, Tryz.underlying45]
 go_simp

set_option maxRecDepth 100000 in
set_option maxHeartbeats 1000000 in
theorem equalSeen_any (A B : Option Addr) (c d : Nat) (ss : List Sn) (w : World) (hx : Reads w 7 A ss.length (snCells ss)) (hy : Reads w 7 B ss.length (snCells ss)) (hl : ss.length ≤ 1099511627776) :
 Calls Tryz.prog 15 #[.slice A ss.length c, .slice B ss.length d] w fun e w' => e = .returned (.bool true) ∧ Bl w w' := by
 have Hx := Lib.hid hx; have Hy := Lib.hid hy
 clear hx hy
 go_enter Tryz.func15, Tryz.ntmps15
 go_wp2
 go_loopw [13] (fun v wr => ∃ k : Nat, k ≤ ss.length ∧ v = .int .i64 k ∧ Bl w wr) (fun v _ => ss.length - (intOf v).toNat)
 case atStart => exact ⟨0, Nat.zero_le _, rfl, Bl.refl _⟩
 case round =>
  obtain ⟨k, hk, rfl, hbr⟩ := hrel
  by_cases hlt : k < ss.length
  · have hg : ss[k]? = some ss[k] := List.getElem?_eq_getElem hlt
    obtain ⟨s, hs⟩ : ∃ s, s = ss[k] := ⟨_, rfl⟩
    rw [← hs] at hg
    obtain ⟨ad, rfl, c0, c1, c2, c3, c4, c5, c6⟩ := sn_at (Hx.out.bl hbr) hg
    obtain ⟨bd, rfl, d0, d1, d2, d3, d4, d5, d6⟩ := sn_at (Hy.out.bl hbr) hg
    have hne := fun w' => neq_seen ⟨s.t.toArray⟩ s.X s.Y s.W s.H s.d s.e w'
    have hi : (k : Int) < (ss.length : Int) := by omega
    clear hs hg
    go_wp2
    refine wp_region_flow [(true, 0), (true, 1), (true, 2), (true, 3), (true, 4), (true, 5), (true, 6), (true, 7), (true, 8)] (fun _ => false) (by kernel_rfl) (by kernel_rfl) (by kernel_rfl) (by kernel_rfl) ?_
    iterate 2
     apply Flow.mv _ rfl
     · intro K' hK'
       simp only [sqA, Act.eval, arr_getD, List.getD_cons_zero, List.getD_cons_succ]
       exact hK'
    iterate 2
     apply Flow.calm2 _ _ rfl rfl
     · intro w' hb' K' hK'
       obtain ⟨hc', hf'⟩ := hb'.rule
       go_simp
       try go_ints
       exact hK'
     · intro K' hK'
       simp only [sqA]
       exact hK'
    iterate 2
     apply Flow.mv _ rfl
     · intro K' hK'
       simp only [sqA, Act.eval, arr_getD, List.getD_cons_zero, List.getD_cons_succ]
       exact hK'
    iterate 3
     apply Flow.calm2 _ _ rfl rfl
     · intro w' hb' K' hK'
       obtain ⟨hc', hf'⟩ := hb'.rule
       go_simp
       try go_ints
       exact hK'
     · intro K' hK'
       simp only [sqA]
       exact hK'
    refine Flow.done ?_
    go_wp2
    exact ⟨⟨k + 1, hlt, by go_num, hbr.drew⟩, by simp [intOf]; omega⟩
  · go_wp2
    go_ret
    exact ⟨rfl, hbr⟩

/-! ### texts -/
/-! ### doubts -/
end Go.Proofs.YthobmednnocklaaGreatDoor


/-! glyph.Read. -/
namespace Go.Proofs.YthobmednnocklaaGreatDoor
open Go.RowKit

theorem info_seen : (Tryz.prog.info? 45).map (fun i => (i.zero, i.size, i.bytes)) = some (some (.agg #[.string ⟨#[]⟩, .int .i64 0, .int .i64 0, .int .i64 0, .int .i64 0, .int .i64 0, .int .i64 0]), 7, 64) := by kernel_rfl
/-- A space that is seen. -/
def spaceCells (e g : Int) (H : Nat) : List Value := [.string ⟨#[32]⟩, .int .i64 e, .int .i64 0, .int .i64 g, .int .i64 H, .int .i64 0, .int .i64 (-1)]
def pieceAt (ps : List Piece) (i : Nat) : Piece := ps.getD i (0, 0)
def endAt (ps : List Piece) (i : Nat) : Int := (pieceAt ps i).1 + (pieceAt ps i).2
def gapAt (ps : List Piece) (i : Nat) : Int := (pieceAt ps i).1 - endAt ps (i - 1)
/-- What is seen of the first i pieces. -/
def lineTo (see : Piece → List Value) (gs : Int) (H : Nat) (ps : List Piece) : Nat → List (List Value)
 | 0 => []
 | i + 1 => lineTo see gs H ps i ++ (if 0 < i ∧ gs ≤ gapAt ps i then [spaceCells (endAt ps (i - 1)) (gapAt ps i) H] else []) ++ [see (pieceAt ps i)]
theorem line_len (see : Piece → List Value) (gs : Int) (H : Nat) (ps : List Piece) : ∀ i, (lineTo see gs H ps i).length ≤ 2 * i
 | 0 => Nat.le_refl _
 | i + 1 => by
  have ih := line_len see gs H ps i
  show (lineTo see gs H ps i ++ (if 0 < i ∧ gs ≤ gapAt ps i then [spaceCells (endAt ps (i - 1)) (gapAt ps i) H] else []) ++ [see (pieceAt ps i)]).length ≤ _
  rw [List.length_append, List.length_append]
  split <;> simp <;> omega
theorem box_at {w : World} {A : Option Addr} {H : Nat} {ps : List Piece} {i : Nat} {p : Piece} (h : Reads w 4 A ps.length (boxCells H ps)) (hi : ps[i]? = some p) : ∃ ad, A = some ad ∧ w.cell? (ad.add (i * 4)) = some (.int .i64 p.1) ∧ w.cell? ⟨(ad.add (i * 4)).block, (ad.add (i * 4)).off + 1, none⟩ = some (.int .i64 0) ∧
 w.cell? ⟨(ad.add (i * 4)).block, (ad.add (i * 4)).off + 2, none⟩ = some (.int .i64 p.2) ∧ w.cell? ⟨(ad.add (i * 4)).block, (ad.add (i * 4)).off + 3, none⟩ = some (.int .i64 H) := by
 have hlt : i < ps.length := (List.getElem?_eq_some_iff.1 hi).1
 obtain ⟨ad, e, hc⟩ := h.2 (by omega)
 have key : ∀ j v, j < 4 → ([.int .i64 p.1, .int .i64 0, .int .i64 p.2, .int .i64 H] : List Value)[j]? = some v → w.cell? ((ad.add (i * 4)).add j) = some v := fun j v hj hv => by
  rw [add_of_add]
  exact hc _ _ (by rw [boxCells_at hi j hj]; exact hv)
 have k0 := key 0 _ (by omega) rfl
 have k1 := key 1 _ (by omega) rfl
 have k2 := key 2 _ (by omega) rfl
 have k3 := key 3 _ (by omega) rfl
 rw [Addr.add_zero'] at k0
 rw [Addr.add_succ'] at k1 k2 k3
 exact ⟨ad, e, k0, k1, k2, k3⟩
theorem seen_form (b : Best) (X W H : Nat) (most ht : Int) : ∃ (t : List UInt8) (d1 d2 : Int), seenCells b X W H most ht = [.string ⟨t.toArray⟩, .int .i64 X, .int .i64 0, .int .i64 W, .int .i64 H, .int .i64 d1, .int .i64 d2] := by
 unfold seenCells
 split
 · exact ⟨[63], -1, -1, rfl⟩
 · exact ⟨b.1, b.2.1, b.2.2, rfl⟩
theorem own_apart {w : World} {base : Nat} {e : TypeId} {size n : Nat} {v : Value} {xs : List Value} (h : w.ownsRow base e size v n xs) {q : Nat} (hq : w.heap.size ≤ q) : some q ≠ v.ownBlock := fun e => by
 have := (h.lt q e.symm).2
 omega
/-- What is seen of a piece of a page. -/
def seeOf (bs : List Bool) (W H : Nat) (ls : List Ltr) (most ht : Int) (p : Piece) : List Value := seenCells (bestOf (grid p.2 H (cutF bs W p.1 0)) p.2 H [] ls) p.1 p.2 H most ht

/-- What Read says ahead of the line. -/
def readErr (fe pe bH ht most : Int) : Int := firstNZ [fe, pe, whenI (bH != ht) 11, whenI (!inB most 0 1000) 3]

def ReadRes (w : World) (fe : Int) (gap sp ht : Int) (ls : List Ltr) (W H : Int) (an : Nat) (bs : List Bool) (most : Int) (R : Option Addr) (m : Nat) (err : Int) : Prop :=
 err = readErr fe (pageErr W H an) H ht most ∧ (err ≠ 0 → R = none ∧ m = 0) ∧
 (err = 0 → m = (lineTo (seeOf bs W.toNat H.toNat ls most ht) ((gap + sp + 1) / 2) H.toNat (piecesTo (colN bs W.toNat H.toNat) W.toNat) (piecesTo (colN bs W.toNat H.toNat) W.toNat).length).length ∧
   Reads w 7 R m (lineTo (seeOf bs W.toNat H.toNat ls most ht) ((gap + sp + 1) / 2) H.toNat (piecesTo (colN bs W.toNat H.toNat) W.toNat) (piecesTo (colN bs W.toNat H.toNat) W.toNat).length).flatten)
theorem readErr_fe {fe pe bH ht most : Int} (h : fe ≠ 0) : readErr fe pe bH ht most = fe := by
 show (if fe = 0 then _ else fe) = fe
 rw [if_neg h]
theorem readErr_pe {pe bH ht most : Int} (h : pe ≠ 0) : readErr 0 pe bH ht most = pe := by
 show (if pe = 0 then _ else pe) = pe
 rw [if_neg h]
theorem readErr_h {bH ht most : Int} (h : (bH != ht) = true) : readErr 0 0 bH ht most = 11 := by
 unfold readErr
 rw [h]
 rfl
theorem readErr_m {bH ht most : Int} (h : (bH != ht) = false) : readErr 0 0 bH ht most = whenI (!inB most 0 1000) 3 := by
 unfold readErr
 rw [h]
 cases inB most 0 1000 <;> rfl

/-- As ReadRes; a row that is handed back is owned by who asked. -/
def ReadOwn (B : Nat) (w : World) (fe : Int) (gap sp ht : Int) (ls : List Ltr) (W H : Int) (an : Nat) (bs : List Bool) (most : Int) (R : Option Addr) (m d : Nat) (err : Int) : Prop :=
 ReadRes w fe gap sp ht ls W H an bs most R m err ∧ (err = 0 → w.ownsRow B 45 7 (.slice R m d) m (lineTo (seeOf bs W.toNat H.toNat ls most ht) ((gap + sp + 1) / 2) H.toNat (piecesTo (colN bs W.toNat H.toNat) W.toNat) (piecesTo (colN bs W.toNat H.toNat) W.toNat).length).flatten)
set_option maxRecDepth 100000 in
set_option maxHeartbeats 8000000 in
theorem readO_any (nm : List UInt8) (ht gap sp : Int) (L : Option Addr) (c : Nat) (ls : List Ltr) (W H : Int) (A : Option Addr) (an ac : Nat) (bs : List Bool) (most : Int) (w : World) (hL : LtrsAt w L ls) (hA : Reads w 1 A an (bs.map .bool)) (hnm : nm.length ≤ 9223372036854775807) (hn : ls.length ≤ 9223372036854775807) :
 Calls Tryz.prog 48 #[.agg #[.string ⟨nm.toArray⟩, .int .i64 ht, .int .i64 gap, .int .i64 sp, .slice L ls.length c], .agg #[.int .i64 W, .int .i64 H, .slice A an ac], .int .i64 most] w fun e w' => ∃ R m d err, e = .returned (.tuple #[.slice R m d, .int .i64 err]) ∧ ReadOwn w.heap.size w' (fontErr (nameB nm) ht gap sp ls) gap sp ht ls W H an bs most R m d err ∧ Bl w w' := by
 let w2 := ((w).alloc (.cells #[.string ⟨nm.toArray⟩, .int .i64 ht, .int .i64 gap, .int .i64 sp, .slice L ls.length c] 29)).alloc (.cells #[.int .i64 W, .int .i64 H, .slice A an ac] 24)
 have w2b : Bl w w2 := ((Bl.refl w).alloc _).alloc _
 have w21 : Blk w2 (w.heap.size) 29 #[.string ⟨nm.toArray⟩, .int .i64 ht, .int .i64 gap, .int .i64 sp, .slice L ls.length c] := by
  have h0 := Blk.new (w) 29 #[.string ⟨nm.toArray⟩, .int .i64 ht, .int .i64 gap, .int .i64 sp, .slice L ls.length c]
  exact (h0.alloc _)
 have w22 : Blk w2 (w.heap.size + 1) 24 #[.int .i64 W, .int .i64 H, .slice A an ac] := by
  have h0 := Blk.new ((w).alloc (.cells #[.string ⟨nm.toArray⟩, .int .i64 ht, .int .i64 gap, .int .i64 sp, .slice L ls.length c] 29)) 24 #[.int .i64 W, .int .i64 H, .slice A an ac]
  simp only [World.size_alloc] at h0
  exact h0
 have HL := Lib.hid (hL.bl w2b); have HA := Lib.hid (hA.bl w2b)
 obtain ⟨fe, hfe⟩ : ∃ x, x = fontErr (nameB nm) ht gap sp ls := ⟨_, rfl⟩
 have hck := check_any nm ht gap sp L c ls w2 (hL.bl w2b) hnm hn
 rw [← hfe] at hck ⊢
 have Hck := Lib.hid hck; have HFe := Lib.hid hfe
 have k1 := w21.all5
 clear hL hA hck hfe
 go_enter Tryz.func48, Tryz.ntmps48
 go_wp2_with fail
 refine Hck.out.mono ?_
 rintro e w3 ⟨rfl, hb3⟩
 clear_value w2
 clear k1 Hck
 by_cases hz : fe = 0
 case neg =>
  have hq : (fe == 0) = false := by simp [hz]
  have HZ := Lib.hid hz
  clear hz
  go_wp2_with fail
  try simp only [Exit.inBlock, Exit.then]
  refine bodyPost_ret (v := .tuple #[.slice none 0 0, .int .i64 fe]) (by simp [results, Tryz.results48, go_sem]) rfl ⟨none, 0, 0, fe, rfl, ⟨⟨(readErr_fe HZ.out).symm, fun _ => ⟨rfl, rfl⟩, fun h => absurd h HZ.out⟩, fun h => absurd h HZ.out⟩, w2b.trans hb3⟩
 case pos =>
  subst hz
  have k2 := (w22.bl hb3).all3
  have Hpc := Lib.hid (glyphPieces_any W H A an ac bs w3 (HA.out.bl hb3))
  go_wp2_with fail
  refine Hpc.out.mono ?_
  rintro e w4 ⟨R0, m0, d0, rfl, hp1, hp2, hb4⟩
  have hb24 := hb3.trans hb4
  obtain ⟨pe, hpe⟩ : ∃ x, x = pageErr W H an := ⟨_, rfl⟩
  rw [← hpe] at hp1 hp2 ⊢
  have HPe := Lib.hid hpe; have HP1 := Lib.hid hp1; have HP2 := Lib.hid hp2
  clear hpe hp1 hp2 k2 Hpc
  by_cases hz : pe = 0
  case neg =>
   have hq : (pe == 0) = false := by simp [hz]
   have HZ := Lib.hid hz
   clear hz
   go_wp2_with fail
   try simp only [Exit.inBlock, Exit.then]
   refine bodyPost_ret (v := .tuple #[.slice none 0 0, .int .i64 pe]) (by simp [results, Tryz.results48, go_sem]) rfl ⟨none, 0, 0, pe, rfl, ⟨⟨(by rw [← HPe.out, readErr_pe HZ.out]), fun _ => ⟨rfl, rfl⟩, fun h => absurd h HZ.out⟩, fun h => absurd h HZ.out⟩, w2b.trans hb24⟩
  case pos =>
   subst hz
   have k1 := (w21.bl hb24).all5
   have k2 := (w22.bl hb24).all3
   by_cases c1 : H = ht
   case neg =>
    have q1 : (H != ht) = true := by simp [c1]
    have Q1 := Lib.hid q1
    clear c1
    go_wp2_with fail
    try simp only [Exit.inBlock, Exit.then]
    refine bodyPost_ret (v := .tuple #[.slice none 0 0, .int .i64 11]) (by simp [results, Tryz.results48, go_sem]) rfl ⟨none, 0, 0, 11, rfl, ⟨⟨(by rw [← HPe.out, readErr_h Q1.out]), fun _ => ⟨rfl, rfl⟩, fun h => absurd h (by decide)⟩, fun h => absurd h (by decide)⟩, w2b.trans hb24⟩
   case pos =>
    have q1 : (H != ht) = false := by simp [c1]
    have Q1 := Lib.hid q1
    have HC1 := Lib.hid c1
    clear c1
    by_cases c2 : most < 0
    · have HM := Lib.hid (show whenI (!inB most 0 1000) 3 = 3 by
       have : inB most 0 1000 = false := by cases h : inB most 0 1000 with | false => rfl | true => have := inB_true.1 h; omega
       rw [this]; rfl)
      go_wp2_with fail
      try simp only [Exit.inBlock, Exit.then]
      refine bodyPost_ret (v := .tuple #[.slice none 0 0, .int .i64 3]) (by simp [results, Tryz.results48, go_sem]) rfl ⟨none, 0, 0, 3, rfl, ⟨⟨(by rw [← HPe.out, readErr_m Q1.out, HM.out]), fun _ => ⟨rfl, rfl⟩, fun h => absurd h (by decide)⟩, fun h => absurd h (by decide)⟩, w2b.trans hb24⟩
    · by_cases c3 : 1000 < most
      · have HM := Lib.hid (show whenI (!inB most 0 1000) 3 = 3 by
         have : inB most 0 1000 = false := by cases h : inB most 0 1000 with | false => rfl | true => have := inB_true.1 h; omega
         rw [this]; rfl)
        go_wp2_with fail
        try simp only [Exit.inBlock, Exit.then]
        refine bodyPost_ret (v := .tuple #[.slice none 0 0, .int .i64 3]) (by simp [results, Tryz.results48, go_sem]) rfl ⟨none, 0, 0, 3, rfl, ⟨⟨(by rw [← HPe.out, readErr_m Q1.out, HM.out]), fun _ => ⟨rfl, rfl⟩, fun h => absurd h (by decide)⟩, fun h => absurd h (by decide)⟩, w2b.trans hb24⟩
      · have HM := Lib.hid (show whenI (!inB most 0 1000) 3 = 0 by
         have : inB most 0 1000 = true := inB_true.2 (by omega)
         rw [this]; rfl)
        have hp0 := HPe.out.symm
        obtain ⟨W, H, rfl, rfl, rfl, hW, hH, hWH⟩ := page_nat hp0
        have hsz := sizeErr_zero (pageErr_zero hp0).1
        obtain ⟨⟨-, hrg, -, hls0, hls, hht1, hht2⟩, hltr⟩ := fontErr_zero HFe.out.symm
        have hrg2 : 1 ≤ gap ∧ gap ≤ 16 ∧ 1 ≤ sp ∧ sp ≤ 64 := by
         unfold rangeB at hrg
         simp only [Bool.and_eq_true] at hrg
         have h1 := inB_true.1 hrg.2.1
         have h2 := inB_true.1 hrg.2.2
         exact ⟨h1.1, h1.2, h2.1, h2.2⟩
        have hht := HC1.out
        subst hht
        have hR := HP2.out rfl
        simp only [Int.toNat_natCast] at hR
        obtain ⟨ps, hps⟩ : ∃ ps, ps = piecesTo (colN bs W H) W := ⟨_, rfl⟩
        rw [← hps] at hR
        obtain ⟨rfl, hR⟩ := hR
        have hin : ∀ p ∈ ps, 1 ≤ p.2 ∧ p.1 + p.2 ≤ W := by rw [hps]; exact pieces_in _ W
        have hpl : ps.length ≤ W := by rw [hps]; exact pieces_len _ W
        obtain ⟨gs, hgs⟩ : ∃ gs, gs = (gap + sp + 1) / 2 := ⟨_, rfl⟩
        have e0 : (gap + sp + 1).tdiv 2 = gs := by rw [hgs]; exact Int.tdiv_eq_ediv_of_nonneg (by omega)
        have e1 : (gap + sp + 1) / 2 = gs := hgs.symm
        obtain ⟨see, hsee⟩ : ∃ see, see = seeOf bs W H ls most (H : Int) := ⟨_, rfl⟩
        have h0 : w4.ownsRow w4.heap.size 45 7 (.slice none 0 0) (lineTo see gs H ps 0).length (lineTo see gs H ps 0).flatten := World.ownsRow_nil _ _ _ _
        have HR := Lib.hid hR; have HIn := Lib.hid hin; have HPs := Lib.hid hps; have HGs := Lib.hid hgs; have HSee := Lib.hid hsee; have HLt := Lib.hid hltr
        have hszs : 1 ≤ W ∧ 1 ≤ H := by omega
        clear hp0 hsz hrg hltr hR hin hps hgs hsee HP1 HP2 hls0
        go_wp2_with fail
        go_loopw [45, 11] (fun u v wr => ∃ i : Nat, i ≤ ps.length ∧ u = .int .i64 i ∧ Bl w4 wr ∧ wr.ownsRow w4.heap.size 45 7 v (lineTo see gs H ps i).length (lineTo see gs H ps i).flatten) (fun u _ _ => ps.length - (RowKit.intOf u).toNat)
        case atStart => exact ⟨0, Nat.zero_le _, rfl, Bl.refl _, h0⟩
        case round =>
         obtain ⟨i, hi, rfl, hbr, hown⟩ := hrel
         clear k1 k2
         obtain ⟨R1, c1', rfl, -, -⟩ := own_new hown
         have HOw := Lib.hid hown
         clear hown
         by_cases hlt : i < ps.length
         · have hg : ps[i]? = some ps[i] := List.getElem?_eq_getElem hlt
           obtain ⟨p, hp⟩ : ∃ p, p = ps[i] := ⟨_, rfl⟩
           rw [← hp] at hg
           clear hp
           obtain ⟨X, bw⟩ := p
           have hpi : 1 ≤ bw ∧ X + bw ≤ W := HIn.out _ (List.mem_of_getElem? hg)
           have hpa : pieceAt ps i = (X, bw) := by unfold pieceAt; rw [List.getD_eq_getElem?_getD, hg]; rfl
           have hll := line_len see gs H ps i
           have hst : lineTo see gs H ps (i + 1) = lineTo see gs H ps i ++ (if 0 < i ∧ gs ≤ gapAt ps i then [spaceCells (endAt ps (i - 1)) (gapAt ps i) H] else []) ++ [see (pieceAt ps i)] := rfl
           obtain ⟨sp2, hsp2⟩ : ∃ x, x = (if 0 < i ∧ gs ≤ gapAt ps i then [spaceCells (endAt ps (i - 1)) (gapAt ps i) H] else []) := ⟨_, rfl⟩
           rw [← hsp2, hpa] at hst
           have hsl : sp2.length ≤ 1 := by rw [hsp2]; split <;> simp
           obtain ⟨adb, rfl, j0, j1, j2, j3⟩ := box_at (HR.out.bl hbr) hg
           obtain ⟨n0, hn0⟩ : ∃ n, n = (lineTo see gs H ps i).length := ⟨_, rfl⟩
           have hn0l : n0 ≤ 2 * i := by omega
           have HOw := Lib.hid (show wr.ownsRow w4.heap.size 45 7 (.slice R1 n0 c1') n0 (lineTo see gs H ps i).flatten by rw [hn0]; exact HOw.out)
           rw [← hn0]
           have HG := Lib.hid hg; have HSt := Lib.hid hst; have HSp := Lib.hid hsp2; have HN0 := Lib.hid hn0; have HPa := Lib.hid hpa
           clear hg hst hsp2 hn0 hpa hll
           have k1 := (w21.bl (hb24.trans hbr)).all5
           have k2 := (w22.bl (hb24.trans hbr)).all3
           go_upto_region 15 with fail
           obtain ⟨w5, hw5⟩ : ∃ x, x = wr.alloc (.cells #[.int .i64 X, .int .i64 0, .int .i64 bw, .int .i64 H] 26) := ⟨_, rfl⟩
           obtain ⟨q, hq⟩ : ∃ x, x = wr.heap.size := ⟨_, rfl⟩
           have bq : Blk w5 q 26 #[.int .i64 X, .int .i64 0, .int .i64 bw, .int .i64 H] := by rw [hw5, hq]; exact Blk.new _ _ _
           have hbr5 : Bl wr w5 := by rw [hw5]; exact (Bl.refl _).alloc _
           have hap : some q ≠ (Value.slice R1 n0 c1').ownBlock := own_apart HOw.out (by omega)
           rw [← hw5, ← hq]
           have HOw5 := Lib.hid (own_bl HOw.out hbr5)
           have HAp := Lib.hid hap
           have hb5 := hbr.trans hbr5
           clear hw5 hq j0 j1 j2 j3 k1 k2 hap HOw
           have k1 := (w21.bl (hb24.trans hb5)).all5
           have k2 := (w22.bl (hb24.trans hb5)).all3
           have k9 := bq.all4
           go_upto_if 51 with fail
           go_cut [11, 14, 15] from 50 to 86 (fun s11 _ _ wc => wc.ownsRow w4.heap.size 45 7 s11 (n0 + sp2.length) ((lineTo see gs H ps i).flatten ++ sp2.flatten) ∧ Blk wc q 26 #[.int .i64 X, .int .i64 0, .int .i64 bw, .int .i64 H] ∧ Bl w4 wc)
           case first =>
            by_cases hi0 : 0 < i
            · obtain ⟨k, hik⟩ : ∃ k, i = k + 1 := ⟨i - 1, by omega⟩
              have hgk : ps[k]? = some ps[k] := List.getElem?_eq_getElem (by omega)
              obtain ⟨p, hp⟩ : ∃ p, p = ps[k]'(by omega) := ⟨_, rfl⟩
              rw [← hp] at hgk
              clear hp
              obtain ⟨X', bw'⟩ := p
              have hpk : 1 ≤ bw' ∧ X' + bw' ≤ W := HIn.out _ (List.mem_of_getElem? hgk)
              obtain ⟨ad', e', j0, j1, j2, j3⟩ := box_at (HR.out.bl hb5) hgk
              injection e' with e'
              subst e'
              have hend : endAt ps (i - 1) = (X' : Int) + (bw' : Int) := by
               unfold endAt pieceAt
               rw [show i - 1 = k by omega, List.getD_eq_getElem?_getD, hgk]
               rfl
              have hgap : gapAt ps i = (X : Int) - ((X' : Int) + (bw' : Int)) := by
               unfold gapAt
               rw [hend, HPa.out]
              have hsp := HSp.out
              rw [hend, hgap] at hsp
              have hidx : (i : Int) - 1 = (k : Int) := by omega
              have hklt : (k : Int) < (ps.length : Int) := by omega
              have HSp2 := Lib.hid hsp
              clear hsp hend hgap hgk hik
              go_upto_region 16 with fail
              refine wp_region_flow [(true, 0), (true, 1), (true, 2), (true, 3), (true, 4), (true, 5), (true, 6), (true, 7), (true, 8), (true, 9), (true, 10), (true, 11), (true, 12), (true, 13)] (fun _ => false) (by kernel_rfl) (by kernel_rfl) (by kernel_rfl) (by kernel_rfl) ?_
              iterate 2
               apply Flow.mv _ rfl
               · intro K' hK'
                 simp only [sqA, Act.eval, arr_getD, List.getD_cons_zero, List.getD_cons_succ]
                 exact hK'
              iterate 4
               apply Flow.calm2 _ _ rfl rfl
               · intro w' hb' K' hK'
                 obtain ⟨hc', hf'⟩ := hb'.rule
                 go_simp
                 try go_ints
                 exact hK'
               · intro K' hK'
                 simp only [sqA]
                 exact hK'
              iterate 2
               apply Flow.mv _ rfl
               · intro K' hK'
                 simp only [sqA, Act.eval, arr_getD, List.getD_cons_zero, List.getD_cons_succ]
                 exact hK'
              iterate 5
               apply Flow.calm2 _ _ rfl rfl
               · intro w' hb' K' hK'
                 obtain ⟨hc', hf'⟩ := hb'.rule
                 go_simp
                 try go_ints
                 exact hK'
               · intro K' hK'
                 simp only [sqA]
                 exact hK'
              iterate 1
               apply Flow.asg _ rfl
               · intro K' hK'
                 simp only [sqA, Act.eval, arr_getD, List.getD_cons_zero, List.getD_cons_succ]
                 exact hK'
              refine Flow.done ?_
              by_cases hq : gs ≤ (X : Int) - ((X' : Int) + (bw' : Int))
              · have HE := Lib.hid (show sp2 = [spaceCells ((X' : Int) + (bw' : Int)) ((X : Int) - ((X' : Int) + (bw' : Int))) H] by rw [HSp2.out]; exact if_pos ⟨hi0, hq⟩)
                go_wp2_with (at_builtin; refine wpList_append_bl (w1 := w4) rfl (.tmp 78) (.tmp 85) 30 rfl 45 (.agg #[.string ⟨#[]⟩, .int .i64 0, .int .i64 0, .int .i64 0, .int .i64 0, .int .i64 0, .int .i64 0]) 7 64 Tryz.underlying30 info_seen rfl (by omega) w4.heap.size _ n0 (lineTo see gs H ps i).flatten rfl (hb5.drew.alloc _) (Nat.le_refl _) ?hBr ((own_bl HOw5.out (Bl.refl _).drew).alloc _) (some ⟨w5.heap.size, 0, none⟩) 1 1 (spaceCells ((X' : Int) + (bw' : Int)) ((X : Int) - ((X' : Int) + (bw' : Int))) H) rfl ((Blk.new _ _ _).reads 1 7 rfl) ?h1 ?c1 ?c2 ?_)
                case hBr => have := hb5.le; first | omega | (simp; omega)
                case h1 => simp [spaceCells, Value.oneCell']
                case c1 => unfold maxLen; omega
                case c2 => omega
                intro v' w8 hown8 hb8 hg8
                have bq8 := (bq.drew.alloc _).grown hg8 HAp.out
                have HO8 := Lib.hid hown8; have Bq8 := Lib.hid bq8; have Hb8 := Lib.hid hb8
                clear hown8 bq8 hb8 hg8
                go_wp2_with fail
                go_meet
                case rel => exact ⟨by rw [HE.out]; simpa using HO8.out, Bq8.out, Hb8.out⟩
              · have HE := Lib.hid (show sp2 = [] by rw [HSp2.out]; exact if_neg (fun h => hq h.2))
                go_wp2_with fail
                go_meet
                case rel => exact ⟨by rw [HE.out]; simpa using own_bl HOw5.out (Bl.refl _).drew, bq.drew, hb5.drew⟩
            · have HE := Lib.hid (show sp2 = [] by rw [HSp.out]; exact if_neg (fun h => hi0 h.1))
              go_wp2_with fail
              go_meet
              case rel => exact ⟨by rw [HE.out]; simpa using HOw5.out, bq, hb5⟩
           case rest =>
            obtain ⟨hown, bq6, hb6⟩ := hcut
            rename World => w6
            clear k1 k2 k9
            have k1 := (w21.bl (hb24.trans hb6)).all5
            have k2 := (w22.bl (hb24.trans hb6)).all3
            have k9 := bq6.all4
            obtain ⟨R3, c3, rfl, -, -⟩ := own_new hown
            have HO6 := Lib.hid hown
            clear hown
            have hsc := see_any nm (H : Int) gap sp L c ls W H X bw A ac bs most w6 (HL.out.bl (hb24.trans hb6)) (HA.out.bl (hb24.trans hb6)) hW (by omega) hWH hpi.2 hpi.1 (fun l hl => ⟨(HLt.out l hl).2.1, (HLt.out l hl).2.2.2⟩) hls (by omega) (by omega)
            obtain ⟨t, d1, d2, hsf⟩ := seen_form (bestOf (grid bw H (cutF bs W X 0)) bw H [] ls) X bw H most (H : Int)
            rw [hsf] at hsc
            have hsee : see (X, bw) = [.string ⟨t.toArray⟩, .int .i64 X, .int .i64 0, .int .i64 bw, .int .i64 H, .int .i64 d1, .int .i64 d2] := by rw [HSee.out]; exact hsf
            have Hsc := Lib.hid hsc; have HSe := Lib.hid hsee
            clear hsc hsf hsee
            go_wp2_with fail
            refine Hsc.out.mono ?_
            rintro e w7 ⟨rfl, hb67⟩
            have hb7 := hb6.trans hb67
            have HO7 := Lib.hid (own_bl HO6.out hb67)
            clear k1 k2 k9 Hsc
            go_wp2_with (at_builtin; refine wpList_append_bl (w1 := w4) rfl (.tmp 87) (.tmp 93) 30 rfl 45 (.agg #[.string ⟨#[]⟩, .int .i64 0, .int .i64 0, .int .i64 0, .int .i64 0, .int .i64 0, .int .i64 0]) 7 64 Tryz.underlying30 info_seen rfl (by omega) w4.heap.size _ (n0 + sp2.length) ((lineTo see gs H ps i).flatten ++ sp2.flatten) rfl (hb7.alloc _) ?hB ?hBr (HO7.out.alloc _) (some ⟨w7.heap.size, 0, none⟩) 1 1 [.string ⟨t.toArray⟩, .int .i64 X, .int .i64 0, .int .i64 bw, .int .i64 H, .int .i64 d1, .int .i64 d2] rfl ((Blk.new _ _ _).reads 1 7 rfl) ?h1 ?c1 ?c2 ?_)
            case hB => exact Nat.le_refl _
            case hBr => have := hb7.le; first | omega | (simp; omega)
            case h1 => simp [Value.oneCell']
            case c1 => unfold maxLen; omega
            case c2 => omega
            intro v' w8 hown8 hb8 hg8
            have hfin : w8.ownsRow w4.heap.size 45 7 v' (lineTo see gs H ps (i + 1)).length (lineTo see gs H ps (i + 1)).flatten := by
             rw [HSt.out, HSe.out, List.length_append, List.length_append, List.flatten_append, List.flatten_append, ← HN0.out]
             simpa using hown8
            have HFin := Lib.hid hfin; have Hb8 := Lib.hid hb8
            clear hown8 hfin hb8 hg8
            go_wp2_with fail
            exact ⟨⟨i + 1, hlt, by go_num, Hb8.out, HFin.out⟩, by simp [RowKit.intOf] <;> omega⟩
         · obtain rfl : i = ps.length := by omega
           have hown := HOw.out
           obtain ⟨R2, c2', e2, hR2⟩ := own_reads hown
           injection e2 with q1 _ q3
           subst q1
           subst q3
           have HR2 := Lib.hid hR2
           clear hown hR2
           go_wp2_with fail
           refine bodyPost_ret (v := .tuple #[.slice R1 (lineTo see gs H ps ps.length).length c1', .int .i64 0]) (by simp [results, Tryz.results48, go_sem]) rfl ⟨R1, (lineTo see gs H ps ps.length).length, c1', 0, rfl, ⟨⟨?_, fun h => absurd rfl h, fun _ => ?_⟩, fun _ => ?_⟩, w2b.trans (hb24.trans hbr)⟩
           · rw [← HPe.out, readErr_m Q1.out, HM.out]
           · simp only [Int.toNat_natCast]
             rw [← HPs.out, ← HGs.out, ← HSee.out]
             exact ⟨rfl, HR2.out⟩
           · simp only [Int.toNat_natCast]
             rw [← HPs.out, ← HGs.out, ← HSee.out]
             exact World.ownsRow.mono HOw.out (w2b.trans hb24).le

end Go.Proofs.YthobmednnocklaaGreatDoor


/-! strings.HasPrefix, HasSuffix, and Contains, as the walks of spelling want them. -/
namespace Go.Proofs
open Go.Shelf
def Tryz.lays144_ren : Go.Shelf.Ren := ⟨fun | 144 => 230 | 143 => 196 | 219 => 279 | 217 => 286 | 225 => 319 | 224 => 320 | 267 => 321 | 266 => 325 | 314 => 352 | n => n, fun | 9 => 9 | 4 => 4 | 3 => 3 | 5 => 5 | 46 => 173 | 146 => 387 | 51 => 279 | n => n, fun | 1 => 0 | n => n⟩
theorem Tryz.lays144 : Go.Proofs.Lays.n144 Tryz.prog Tryz.lays144_ren := {
 mixed := by kernel_rfl
 f143 := Tryz.func196.trans (congrArg some (by kernel_rfl))
 f144 := Tryz.func230.trans (congrArg some (by kernel_rfl))
 f217 := Tryz.func286.trans (congrArg some (by kernel_rfl))
 f219 := Tryz.func279.trans (congrArg some (by kernel_rfl))
 f224 := Tryz.func320.trans (congrArg some (by kernel_rfl))
 f225 := Tryz.func319.trans (congrArg some (by kernel_rfl))
 f266 := Tryz.func325.trans (congrArg some (by kernel_rfl))
 f267 := Tryz.func321.trans (congrArg some (by kernel_rfl))
 f314 := Tryz.func352.trans (congrArg some (by kernel_rfl))
 t3 := Tryz.underlying3
 a3 := Tryz.isAgg3
 z3 := Tryz.sizeOf3
 v3 := Tryz.zeroValue3
 t4 := Tryz.underlying4
 a4 := Tryz.isAgg4
 z4 := Tryz.sizeOf4
 v4 := Tryz.zeroValue4
 t5 := Tryz.underlying5
 a5 := Tryz.isAgg5
 z5 := Tryz.sizeOf5
 v5 := Tryz.zeroValue5
 t9 := Tryz.underlying9
 a9 := Tryz.isAgg9
 z9 := Tryz.sizeOf9
 v9 := Tryz.zeroValue9
 t46 := Tryz.underlying173
 a46 := Tryz.isAgg173
 z46 := Tryz.sizeOf173
 v46 := Tryz.zeroValue173
 t51 := Tryz.underlying279
 a51 := Tryz.isAgg279
 z51 := Tryz.sizeOf279
 v51 := Tryz.zeroValue279
 t146 := Tryz.underlying387
 a146 := Tryz.isAgg387
 z146 := Tryz.sizeOf387
 v146 := Tryz.zeroValue387
 g1 := by kernel_rfl }

end Go.Proofs
namespace Go.Proofs.YthobmednnocklaaGreatDoor
open Go.RowKit Go.Shelf

/-- The variable of the library's that a search asks. -/
def SubOk (w : World) : Prop := ∃ m : Int, w.cell? ⟨Tryz.lays144_ren.g 1, 0, none⟩ = some (.int .i64 m)
theorem SubOk.bl {w w' : World} (h : SubOk w) (hb : Bl w w') : SubOk w' := let ⟨m, hm⟩ := h; ⟨m, hb.at hm⟩
end Go.Proofs.YthobmednnocklaaGreatDoor


/-! bedref2.WidthOf. -/
namespace Go.Proofs.YthobmednnocklaaGreatDoor
open Go.RowKit Go.Shelf

/-- What of a right font the walks of spelling lean on. -/
structure Right (ht : Nat) (gap sp : Nat) (ls : List Ltr) : Prop where
 texts : Texts ls
 many : 1 ≤ ls.length ∧ ls.length ≤ 200
 ht1 : 1 ≤ ht ∧ ht ≤ 64
 gap1 : 1 ≤ gap ∧ gap ≤ 16
 sp1 : 1 ≤ sp ∧ sp ≤ 64
 wide : gap < sp
 wd : ∀ k (h : k < ls.length), (ls[k]'h).W = (wdOf ls k : Int) ∧ 1 ≤ wdOf ls k ∧ wdOf ls k ≤ 64
 hts : ∀ k (h : k < ls.length), (ls[k]'h).H = (ht : Int)
 ms : ∀ k (h : k < ls.length), (ls[k]'h).m = wdOf ls k * ht
end Go.Proofs.YthobmednnocklaaGreatDoor
