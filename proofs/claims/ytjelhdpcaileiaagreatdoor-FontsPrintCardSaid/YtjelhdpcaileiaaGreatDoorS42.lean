/- From a statement's row to a walk: the listed variables that reading and writing numbers asks; a row of bytes with its capacity; bytes as bytes. No condition. -/
import Derived.Test.YtjelhdpcaileiaaGreatDoorS23
import Derived.Test.YtjelhdpcaileiaaGreatDoorS39
import Derived.Test.YtjelhdpcaileiaaGreatDoorS41
import Derived.LaidSub
import Derived.OpenShut
import Derived.ProofKit
import Derived.LaidMore
import Derived.LaidLaws
import Derived.Lib.LaidTab
import Derived.Lay

namespace Go.Proofs.YtjelhdpcaileiaaGreatDoor
open Go.ChangeShapes Go.WideShapes Go.ChangeAt Go.RowKit Go.Joins Go.Shelf

theorem sentinel_of_laid {l : List (String × DataW Unit)} {W : World} {n nm : String} {D : DataW Unit} (hl : (l.filter fun e => e.1 == n) = [(n, .iface nm D)]) (hp : laidMetH Tryz.prog [(n, .iface nm D)] W ↔ laidMet Tryz.prog [(n, .iface nm D)] W)
    (hty : ((Tryz.prog.globalNamed n).bind fun g => (Tryz.prog.globals[g]?).map (·.type)) = some 117) (h : laidMetH Tryz.prog l W) : ∃ t p, W.var? Tryz.prog n = some #[.iface t p] := by
  have h := h.filter (fun e => e.1 == n)
  rw [hl] at h
  obtain ⟨ps, ⟨g, t, cs, fuel, p, q, hg, ht, hv, hd, _, _⟩, _, _⟩ := hp.1 h
  rw [hg, Option.bind_some, ht] at hty
  obtain rfl := Option.some.inj hty
  obtain ⟨f', u, v, hcs, -, -⟩ := iface_of_trod Tryz.underlying117 hd
  refine ⟨u, v, ?_⟩
  rw [hv]
  congr 1
  apply Array.ext'
  simpa using hcs
theorem numOk_of_laid {l : List (String × DataW Unit)} {W : World} (h1 : (l.filter fun e => e.1 == "strconv.ErrSyntax") = [("strconv.ErrSyntax", Rows.laid_strconv_ErrSyntax)]) (h2 : (l.filter fun e => e.1 == "strconv.ErrRange") = [("strconv.ErrRange", Rows.laid_strconv_ErrRange)])
    (h3 : (l.filter fun e => e.1 == "internal/strconv.uint64pow10") = [("internal/strconv.uint64pow10", Rows.laid_internal_strconv_uint64pow10)]) (h : laidMetH Tryz.prog l W) : NumOk W where
  syn := sentinel_of_laid h1 (by rw [MakeChecks.laidMetH_plain _ _ _ (by kernel_rfl)]) (by kernel_rfl) h
  ran := sentinel_of_laid h2 (by rw [MakeChecks.laidMetH_plain _ _ _ (by kernel_rfl)]) (by kernel_rfl) h
  tab := by
    have h := h.filter (fun e => e.1 == "internal/strconv.uint64pow10")
    rw [h3, MakeChecks.laidMetH_plain _ _ _ (by kernel_rfl)] at h
    obtain ⟨g, hg⟩ := Option.isSome_iff_exists.1 (show (Tryz.prog.globalNamed "internal/strconv.uint64pow10").isSome = true by kernel_rfl)
    have hty : ((Tryz.prog.globalNamed "internal/strconv.uint64pow10").bind fun g => (Tryz.prog.globals[g]?).map (·.type)) = some 398 := by kernel_rfl
    rw [hg, Option.bind_some] at hty
    exact Lib.tabIs_of_head (zs := Lib.pow10Tab) hg hty Tryz.underlying398 Tryz.underlying270 (by kernel_rfl) (by kernel_rfl) h

section
variable {H : Type} {enc : TypeId × Value → H} {w : World} {base : Nat} {spare : Nat → Bool} {held : Bool} {r : Reach} {b0 : Nat}
theorem bytes_of (zs : List Int) (h : ∀ z ∈ zs, 0 ≤ z ∧ z ≤ 255) : ∃ bs : List UInt8, zs.map (Value.int .u8) = bs.map encB := by
  refine ⟨zs.map fun z => UInt8.ofNat z.toNat, ?_⟩
  rw [List.map_map]
  refine List.map_congr_left fun z hz => ?_
  obtain ⟨h0, h1⟩ := h z hz
  show Value.int .u8 z = Value.int .u8 ((UInt8.ofNat z.toNat).toNat : Int)
  rw [UInt8.toNat_ofNat']
  congr 1
  omega
set_option maxRecDepth 100000 in
theorem open_bytes {v : Value} {d : DataW H} {p : List MemPlace} (hv : Value.okWide Tryz.prog w r b0 40 v) (h : DataW.Trod enc Tryz.prog w base spare held 40 v d p) :
    ∃ (A : Option Addr) (n c : Nat) (bs : List UInt8), v = .slice A n c ∧ BRow w A n c bs ∧ n ≤ 9223372036854775807 := by
  obtain ⟨A, n, c, rfl⟩ := okWide_slice Tryz.underlying40 hv
  obtain ⟨fuel, hf⟩ := h
  rcases Go.ChangeShapes.open_ints Tryz.underlying40 Tryz.underlying5 (by kernel_rfl) hf with ⟨hcs, -⟩ | ⟨a, len', cap', zs, hcs, _, hl, hm, hz, hx, hcell, hwf⟩
  · simp [Value.cells] at hcs
    obtain ⟨rfl, rfl, rfl⟩ := hcs
    exact ⟨none, 0, 0, [], rfl, brow_zero w, by decide⟩
  · simp [Value.cells] at hcs
    obtain ⟨rfl, rfl, rfl⟩ := hcs
    have hlen : n ≤ zs.length := by rw [hz]; split <;> omega
    obtain ⟨bs, hbs⟩ := bytes_of (zs.take n) (fun z hz => u8_of_wf (hwf z (List.mem_of_mem_take hz)))
    have hlt : (zs.take n).length = n := by rw [List.length_take]; omega
    refine ⟨some a, n, c, bs, rfl, ⟨⟨?_, fun _ => ⟨a, rfl, fun j u hj => ?_⟩⟩, hl, fun h => by cases h⟩, by unfold maxLen at hm; omega⟩
    · rw [← hbs, List.length_map, hlt, Nat.mul_one]
    · rw [← hbs, List.getElem?_map] at hj
      obtain ⟨z, hz2, rfl⟩ := Option.map_eq_some_iff.1 hj
      have hjn : j < n := by rw [← hlt]; exact (List.getElem?_eq_some_iff.1 hz2).1
      rw [List.getElem?_take_of_lt hjn] at hz2
      have h1 := hcell j (by omega)
      rw [List.getD_eq_getElem?_getD, hz2] at h1
      exact h1
end

end Go.Proofs.YtjelhdpcaileiaaGreatDoor
