/- From a statement's row to a walk: the listed variables that reading and writing numbers asks. No condition. -/
import Derived.Test.YtahfkahfaiidgaaGreatDoorMClaimForms17
import Derived.Test.YtahfkahfaiidgaaGreatDoorMClaimForms16
import Derived.LaidSub
import Derived.OpenShut
import Derived.ProofKit
import Derived.LaidMore
import Derived.LaidLaws
import Derived.Lib.LaidTab
import Derived.Lay

namespace Go.Proofs.YtahfkahfaiidgaaGreatDoor
open Go.ChangeShapes Go.WideShapes Go.ChangeAt Go.RowKit Go.Joins Go.Shelf

theorem sentinel_of_laid {l : List (String × DataW Unit)} {W : World} {n nm : String} {D : DataW Unit} (hl : (l.filter fun e => e.1 == n) = [(n, .iface nm D)]) (hp : laidMetH Tryz.prog [(n, .iface nm D)] W ↔ laidMet Tryz.prog [(n, .iface nm D)] W)
    (hty : ((Tryz.prog.globalNamed n).bind fun g => (Tryz.prog.globals[g]?).map (·.type)) = some 136) (h : laidMetH Tryz.prog l W) : ∃ t p, W.var? Tryz.prog n = some #[.iface t p] := by
  have h := h.filter (fun e => e.1 == n)
  rw [hl] at h
  obtain ⟨ps, ⟨g, t, cs, fuel, p, q, hg, ht, hv, hd, _, _⟩, _, _⟩ := hp.1 h
  rw [hg, Option.bind_some, ht] at hty
  obtain rfl := Option.some.inj hty
  obtain ⟨f', u, v, hcs, -, -⟩ := iface_of_trod Tryz.underlying136 hd
  refine ⟨u, v, ?_⟩
  rw [hv]
  congr 1
  apply Array.ext'
  simpa using hcs
theorem numOk_of_laid {l : List (String × DataW Unit)} {W : World} (h1 : (l.filter fun e => e.1 == "strconv.ErrSyntax") = [("strconv.ErrSyntax", Rows.laid_strconv_ErrSyntax)]) (h2 : (l.filter fun e => e.1 == "strconv.ErrRange") = [("strconv.ErrRange", Rows.laid_strconv_ErrRange)])
    (h3 : (l.filter fun e => e.1 == "internal/strconv.uint64pow10") = [("internal/strconv.uint64pow10", Rows.laid_internal_strconv_uint64pow10)]) (h : laidMetH Tryz.prog l W) : NumOk W where
  syn := sentinel_of_laid h1 (by rw [MakeChecks.laidMetH_plain _ _ _ (by kernel_rfl)]) (by kernel_rfl) h
  ran := sentinel_of_laid h2 (by rw [MakeChecks.laidMetH_plain _ _ _ (by kernel_rfl)]) (by kernel_rfl) h
  tab := by
    have h := h.filter (fun e => e.1 == "internal/strconv.uint64pow10")
    rw [h3, MakeChecks.laidMetH_plain _ _ _ (by kernel_rfl)] at h
    obtain ⟨g, hg⟩ := Option.isSome_iff_exists.1 (show (Tryz.prog.globalNamed "internal/strconv.uint64pow10").isSome = true by kernel_rfl)
    have hty : ((Tryz.prog.globalNamed "internal/strconv.uint64pow10").bind fun g => (Tryz.prog.globals[g]?).map (·.type)) = some 222 := by kernel_rfl
    rw [hg, Option.bind_some] at hty
    exact Lib.tabIs_of_head (zs := Lib.pow10Tab) hg hty Tryz.underlying222 Tryz.underlying174 (by kernel_rfl) (by kernel_rfl) h

end Go.Proofs.YtahfkahfaiidgaaGreatDoor
