/- From the row's listed variable strings.asciiSpace to the cells that strings.Fields reads. -/
import Derived.Test.YtkipcobpnecmhaaGreatDoorMClaimBarCodes30
import Derived.Test.YtkipcobpnecmhaaGreatDoorMClaimBarCodes15
import Derived.LaidSub
import Derived.OpenShut
import Derived.ProofKit
import Derived.LaidMore
import Derived.Lay

namespace Go.Proofs.YtkipcobpnecmhaaGreatDoor
open Go.ChangeShapes Go.WideShapes Go.ChangeAt Go.RowKit Go.Joins

theorem space_list : (Rows.laid_strings_asciiSpace : DataW Unit) = .agg ((List.range 256).map fun c => .lit (.int .u8 (if Lib.isSp (UInt8.ofNat c) then 1 else 0))) := by kernel_rfl
set_option maxRecDepth 100000 in
theorem spOk_of_laid {l : List (String × DataW Unit)} {W : World} (hl : (l.filter fun e => e.1 == "strings.asciiSpace") = [("strings.asciiSpace", Rows.laid_strings_asciiSpace)]) (h : laidMetH Tryz.prog l W) : SpOk W := by
  have h := h.filter (fun e => e.1 == "strings.asciiSpace")
  rw [hl, MakeChecks.laidMetH_plain _ _ _ (by kernel_rfl)] at h
  obtain ⟨ps, ⟨g, t, cs, fuel, p, q, hg, ht, hv, hd, _, _⟩, _, _⟩ := h
  have hG : Tryz.prog.globalNamed "strings.asciiSpace" = some (Tryz.lays157_ren.g 0) := by kernel_rfl
  obtain rfl := Option.some.inj (hG.symm.trans hg)
  obtain rfl := Option.some.inj ((show (Tryz.prog.globals[Tryz.lays157_ren.g 0]?).map (·.type) = some 123 by kernel_rfl).symm.trans ht)
  obtain ⟨xs, m, _, ex, _, hlx, hel⟩ := DataW.trod_array Tryz.underlying123 hd
  have c5 : Tryz.prog.cellsOf 5 = 1 := by kernel_rfl
  intro r hr
  have hE := hel r hr
  rw [c5, Nat.mul_one, List.getElem?_eq_getElem (by omega)] at hE
  obtain ⟨z, e1, e2, _⟩ := DataW.trod_int Tryz.underlying5 hE
  have e3 : (xs.map (·.1)) = (List.range 256).map fun c => .lit (.int .u8 (if Lib.isSp (UInt8.ofNat c) then 1 else 0)) := (DataW.agg.inj ((space_list.symm.trans (Prod.mk.inj ex).1))).symm
  have e4 : (xs.map (·.1))[r]? = ((List.range 256).map fun c => (DataW.lit (.int .u8 (if Lib.isSp (UInt8.ofNat c) then 1 else 0)) : DataW Unit))[r]? := by rw [e3]
  rw [List.getElem?_map, List.getElem?_map, List.getElem?_eq_getElem (by omega : r < xs.length), List.getElem?_range hr, e2] at e4
  have hz : z = if Lib.isSp (UInt8.ofNat r) then 1 else 0 := by
    simp only [Option.map_some, Option.some.injEq, DataW.lit.injEq, Lit.int.injEq, true_and] at e4
    exact e4
  rw [World.var?_cell hG hv r, ← hz]
  have : cs.toList[r]? = some (.int .u8 z) := by
    have h0 : ((cs.toList.drop r).take 1)[0]? = some (.int .u8 z) := by rw [e1]; rfl
    simpa using h0
  simpa using this

end Go.Proofs.YtkipcobpnecmhaaGreatDoor
