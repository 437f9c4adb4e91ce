/- slices.Sort of ints: the shelf's contract, laid. -/
import Derived.Test.YtahfkahfaiidgaaGreatDoorMClaimForms0
import Derived.Test.YtahfkahfaiidgaaGreatDoorMClaimForms1
import Derived.Shelf.SortM.Plain
import Derived.Shelf.SlGeneric
import Derived.Shelf.Lay
import Derived.Shelf.LaySoft
import Derived.Lib.OwnBridge
import Derived.Ground.SlgmProg

namespace Go.Proofs
open Go.Shelf
def Tryz.laysSortI_ren : Go.Shelf.Ren := ⟨fun | 5 => 73 | 8 => 107 | 7 => 106 | 19 => 139 | 20 => 140 | 10 => 130 | 11 => 131 | 12 => 132 | 13 => 133 | 14 => 134 | 15 => 135 | 16 => 136 | 17 => 137 | 18 => 138 | 30 => 155 | 31 => 156 | 32 => 157 | 33 => 158 | 34 => 159 | 35 => 160 | 40 => 172 | n => n, fun | 23 => 71 | 25 => 3 | 3 => 3 | 32 => 149 | 22 => 71 | 0 => 0 | 44 => 172 | 46 => 174 | 4 => 4 | 36 => 166 | 35 => 165 | 41 => 103 | 5 => 5 | 9 => 9 | 53 => 189 | 57 => 193 | 63 => 203 | 64 => 204 | n => n, fun | n => n⟩
theorem Tryz.laysSortI : Go.Proofs.SlLaysM.n5 Tryz.prog Tryz.laysSortI_ren := {
  mixed := by kernel_rfl
  f5 := ⟨Tryz.f73.name, by decide, Tryz.func73.trans (congrArg some (by kernel_rfl))⟩
  f7 := ⟨Tryz.f106.name, by decide, Tryz.func106.trans (congrArg some (by kernel_rfl))⟩
  f8 := Tryz.func107.trans (congrArg some (by kernel_rfl))
  f10 := ⟨Tryz.f130.name, by decide, Tryz.func130.trans (congrArg some (by kernel_rfl))⟩
  f11 := ⟨Tryz.f131.name, by decide, Tryz.func131.trans (congrArg some (by kernel_rfl))⟩
  f12 := ⟨Tryz.f132.name, by decide, Tryz.func132.trans (congrArg some (by kernel_rfl))⟩
  f13 := ⟨Tryz.f133.name, by decide, Tryz.func133.trans (congrArg some (by kernel_rfl))⟩
  f14 := ⟨Tryz.f134.name, by decide, Tryz.func134.trans (congrArg some (by kernel_rfl))⟩
  f15 := ⟨Tryz.f135.name, by decide, Tryz.func135.trans (congrArg some (by kernel_rfl))⟩
  f16 := ⟨Tryz.f136.name, by decide, Tryz.func136.trans (congrArg some (by kernel_rfl))⟩
  f17 := ⟨Tryz.f137.name, by decide, Tryz.func137.trans (congrArg some (by kernel_rfl))⟩
  f18 := ⟨Tryz.f138.name, by decide, Tryz.func138.trans (congrArg some (by kernel_rfl))⟩
  f19 := Tryz.func139.trans (congrArg some (by kernel_rfl))
  f20 := Tryz.func140.trans (congrArg some (by kernel_rfl))
  f30 := ⟨Tryz.f155.name, by decide, Tryz.func155.trans (congrArg some (by kernel_rfl))⟩
  f31 := Tryz.func156.trans (congrArg some (by kernel_rfl))
  f32 := Tryz.func157.trans (congrArg some (by kernel_rfl))
  f33 := ⟨Tryz.f158.name, by decide, Tryz.func158.trans (congrArg some (by kernel_rfl))⟩
  f34 := ⟨Tryz.f159.name, by decide, Tryz.func159.trans (congrArg some (by kernel_rfl))⟩
  f35 := ⟨Tryz.f160.name, by decide, Tryz.func160.trans (congrArg some (by kernel_rfl))⟩
  f40 := ⟨Tryz.f172.name, by decide, Tryz.func172.trans (congrArg some (by kernel_rfl))⟩
  t0 := Tryz.underlying0
  a0 := Tryz.isAgg0
  z0 := Tryz.sizeOf0
  v0 := Tryz.zeroValue0
  t3 := Tryz.underlying3
  a3 := Tryz.isAgg3
  z3 := Tryz.sizeOf3
  v3 := Tryz.zeroValue3
  t4 := Tryz.underlying4
  a4 := Tryz.isAgg4
  z4 := Tryz.sizeOf4
  v4 := Tryz.zeroValue4
  t5 := Tryz.underlying5
  a5 := Tryz.isAgg5
  z5 := Tryz.sizeOf5
  v5 := Tryz.zeroValue5
  t9 := Tryz.underlying9
  a9 := Tryz.isAgg9
  z9 := Tryz.sizeOf9
  v9 := Tryz.zeroValue9
  t22 := Tryz.underlying71
  a22 := Tryz.isAgg71
  z22 := Tryz.sizeOf71
  v22 := Tryz.zeroValue71
  t23 := Tryz.underlying71
  a23 := Tryz.isAgg71
  z23 := Tryz.sizeOf71
  v23 := Tryz.zeroValue71
  t25 := Tryz.underlying3
  a25 := Tryz.isAgg3
  z25 := Tryz.sizeOf3
  v25 := Tryz.zeroValue3
  t32 := Tryz.underlying149
  a32 := Tryz.isAgg149
  z32 := Tryz.sizeOf149
  v32 := Tryz.zeroValue149
  t35 := Tryz.underlying165
  a35 := Tryz.isAgg165
  z35 := Tryz.sizeOf165
  v35 := Tryz.zeroValue165
  t36 := Tryz.underlying166
  a36 := Tryz.isAgg166
  z36 := Tryz.sizeOf166
  v36 := Tryz.zeroValue166
  t41 := Tryz.underlying103
  a41 := Tryz.isAgg103
  z41 := Tryz.sizeOf103
  v41 := Tryz.zeroValue103
  t44 := Tryz.underlying172
  a44 := Tryz.isAgg172
  z44 := Tryz.sizeOf172
  v44 := Tryz.zeroValue172
  t46 := Tryz.underlying174
  a46 := Tryz.isAgg174
  z46 := Tryz.sizeOf174
  v46 := Tryz.zeroValue174
  t53 := Tryz.underlying189
  a53 := Tryz.isAgg189
  z53 := Tryz.sizeOf189
  v53 := Tryz.zeroValue189
  t57 := Tryz.underlying193
  a57 := Tryz.isAgg193
  z57 := Tryz.sizeOf193
  v57 := Tryz.zeroValue193
  t63 := Tryz.underlying203
  a63 := Tryz.isAgg203
  z63 := Tryz.sizeOf203
  v63 := Tryz.zeroValue203
  t64 := Tryz.underlying204
  a64 := Tryz.isAgg204
  z64 := Tryz.sizeOf204
  v64 := Tryz.zeroValue204 }

end Go.Proofs
namespace Go.Proofs.YtahfkahfaiidgaaGreatDoor
open Go.RowKit Go.Shelf Go.Sort

theorem sortI_any (B g cap : Nat) (T : TypeId) (l : List Int) (w : World) (hown : w.ownsRow B T 1 (.slice (some ⟨g, 0, none⟩) l.length cap) l.length (l.map (.int .i64))) (hn : l.length ≤ 1000000) :
    Calls Tryz.prog 73 #[.slice (some ⟨g, 0, none⟩) l.length cap] w fun e w' => e = .returned (.tuple #[]) ∧ Reads w' 1 (some ⟨g, 0, none⟩) l.length ((sortI l).map (.int .i64)) ∧ w.heap.size ≤ w'.heap.size ∧ (∀ k, k < w.heap.size → k ≠ g → w'.heap[k]? = w.heap[k]?) ∧ ∀ w0, Bl w0 w → w0.heap.size ≤ g → Bl w0 w' := by
  have hblk : g < w.heap.size := (hown.lt g rfl).2
  have hH : Holds (Value.int .i64) w g 0 l.toArray := fun j hj => by
    have hj' : j < l.length := by simpa using hj
    rw [Nat.zero_add]
    refine ⟨?_, World.ownsRow.frozenAt hown j⟩
    rw [World.ownsRow.cellAt hown j (by omega)]
    simp [hj']
  have hcon := AnyM.slices_Sort_int Tryz.laysSortI g 0 cap l w hH hblk (by omega)
  refine Calls.mono (R := fun e w' => e = .returned (.tuple #[]) ∧ ∃ n os, w' = grow (putRow (Value.int .i64) (Sort.ahead w n) g 0 (sortI l).toArray) os) hcon ?_
  rintro e w' ⟨rfl, n, os, rfl⟩
  have hp : Holds (Value.int .i64) (putRow (Value.int .i64) (Sort.ahead w n) g 0 (sortI l).toArray) g 0 (sortI l).toArray := holds_putRow (Value.int .i64) _ _ _ l.toArray _ (fun j hj => hH j hj) (by simp [sortI_len])
  have hsz : (putRow (Value.int .i64) (Sort.ahead w n) g 0 (sortI l).toArray).heap.size = w.heap.size := by
    unfold putRow mapBlock Sort.ahead
    simp
  have hp2 := holds_grow (Value.int .i64) (putRow (Value.int .i64) (Sort.ahead w n) g 0 (sortI l).toArray) os g 0 (sortI l).toArray (by rw [hsz]; exact hblk) hp
  refine ⟨rfl, ⟨by simp [sortI_len], fun hk => ⟨_, rfl, fun j u hu => ?_⟩⟩, by rw [← hsz]; simp, fun k hk hne => ?_, fun w0 h0 hb => ?_⟩
  · rw [List.getElem?_map, Option.map_eq_some_iff] at hu
    obtain ⟨x, hx, rfl⟩ := hu
    have hj := (List.getElem?_eq_some_iff.1 hx).1
    have h := (hp2 j (by simpa using hj)).1
    rw [Addr.add_lit, h]
    have : (sortI l).toArray[j]! = x := by
      rw [getElem!_pos _ j (by simpa using hj)]
      simpa using Option.some.inj ((List.getElem?_eq_getElem hj).symm.trans hx)
    rw [this]
  · show ((putRow (Value.int .i64) (Sort.ahead w n) g 0 (sortI l).toArray).heap ++ os)[k]? = _
    rw [Array.getElem?_append_left (by omega)]
    unfold putRow mapBlock Sort.ahead
    simp only [Array.getElem?_modify]
    rw [if_neg (Ne.symm hne)]
  · have h1 : Bl w0 (putRow (Value.int .i64) (Sort.ahead w n) g 0 (sortI l).toArray) := Lib.below_putRow (q := n) h0 hb
    refine ⟨h1.os, h1.tape, h1.output, ?_, fun k hk => ?_⟩
    · have := Below.size h1
      show _ ≤ ((putRow (Value.int .i64) (Sort.ahead w n) g 0 (sortI l).toArray).heap ++ os).size
      simp
      omega
    · have h2 := Below.block h1 k hk
      have h3 := Below.size h1
      show ((putRow (Value.int .i64) (Sort.ahead w n) g 0 (sortI l).toArray).heap ++ os)[k]? = _
      rw [Array.getElem?_append_left (by omega)]
      exact h2
end Go.Proofs.YtahfkahfaiidgaaGreatDoor
