/- Texts backwards: slices.Reverse of bytes (the shelf's contract, laid), bar.backwards, bedref2.Flip. -/
import Derived.Test.YtkipcobpnecmhaaGreatDoorMClaimBarCodes3
import Derived.Test.YtkipcobpnecmhaaGreatDoorMClaimBarCodes1
import Derived.Shelf.SlicesE.Reverse
import Derived.Shelf.SlGeneric
import Derived.Ground.SlgnProg
import Derived.Laws.IdiomStrings
import Derived.Lib.ConvBytes
import Derived.Lib.OwnBridge
import Derived.Shelf.Strings.Cut
import Derived.Lib.CutLaws
import Derived.Lib.SlTrimSet

namespace Go.Proofs
open Go.Shelf
def Tryz.laysRevB_ren : Go.Shelf.Ren := ⟨fun | 35 => 53 | n => n, fun | 22 => 40 | 23 => 5 | 3 => 3 | 4 => 4 | 0 => 0 | n => n, fun | n => n⟩
theorem Tryz.laysRevB : Go.Proofs.SlLaysE.n35 Tryz.prog Tryz.laysRevB_ren := {
  mixed := by kernel_rfl
  f35 := ⟨Tryz.f53.name, by decide, Tryz.func53.trans (congrArg some (by kernel_rfl))⟩
  t0 := Tryz.underlying0
  a0 := Tryz.isAgg0
  z0 := Tryz.sizeOf0
  v0 := Tryz.zeroValue0
  t3 := Tryz.underlying3
  a3 := Tryz.isAgg3
  z3 := Tryz.sizeOf3
  v3 := Tryz.zeroValue3
  t4 := Tryz.underlying4
  a4 := Tryz.isAgg4
  z4 := Tryz.sizeOf4
  v4 := Tryz.zeroValue4
  t22 := Tryz.underlying40
  a22 := Tryz.isAgg40
  z22 := Tryz.sizeOf40
  v22 := Tryz.zeroValue40
  a23 := Tryz.isAgg5
  z23 := Tryz.sizeOf5 }

end Go.Proofs
namespace Go.Proofs.YtkipcobpnecmhaaGreatDoor
open Go.RowKit Go.Shelf Go.Sort

def encB (b : UInt8) : Value := .int .u8 (b.toNat : Int)
theorem bl_bytes (w : World) (e : TypeId) (s : ByteArray) : Bl w (Lib.bytesWorld w e s) := ⟨rfl, rfl, rfl, by rw [Lib.bytesWorld_size]; omega, fun j hj => Lib.bytesWorld_at_old w e s j hj⟩
theorem holds_bytes (w : World) (e : TypeId) (l : List UInt8) : Holds encB (Lib.bytesWorld w e ⟨l.toArray⟩) w.heap.size 0 l.toArray := fun j hj => by
  have hj' : j < l.length := by simpa using hj
  rw [Nat.zero_add]
  refine ⟨?_, ?_⟩
  · have h := Lib.bytesWorld_cell w e ⟨l.toArray⟩ j (by rw [Lib.size_mk]; exact hj')
    rw [h]
    unfold encB
    simp [List.getD, hj']
  · unfold World.frozen?
    rw [Lib.bytesWorld_at_new]
    have : l.length ≤ (Lib.bytesCells w e ⟨l.toArray⟩).size := by
      unfold Lib.bytesCells
      simp
    simp
    omega
theorem reverse_any (g cap : Nat) (l : List UInt8) (w : World) (hl : l.length ≤ 9223372036854775807) (hH : Holds encB w g 0 l.toArray) :
    Calls Tryz.prog 53 #[.slice (some ⟨g, 0, none⟩) l.length cap] w fun e w' => e = .returned (.tuple #[]) ∧ Holds encB w' g 0 l.reverse.toArray ∧ ∀ w0, Bl w0 w → w0.heap.size ≤ g → Bl w0 w' := by
  have h := AnyE.slices_Reverse Tryz.laysRevB encB (fun _ => rfl) g 0 cap l w hH hl
  refine Calls.mono (R := fun e w' => e = .returned (.tuple #[]) ∧ ∃ n, w' = putRow encB (Sort.ahead w n) g 0 l.reverse.toArray) h ?_
  rintro e w' ⟨rfl, n, rfl⟩
  refine ⟨rfl, holds_putRow encB _ _ _ l.toArray _ (fun j hj => hH j hj) (by simp), fun w0 hb hg => Lib.below_putRow (q := n) hb hg⟩
def FlipRes (l : List UInt8) (w : World) (e : Ending) (w' : World) : Prop := e = .returned (.string ⟨l.reverse.toArray⟩) ∧ Bl w w'

set_option maxRecDepth 100000 in
set_option maxHeartbeats 1000000 in
theorem flip_any (l : List UInt8) (w : World) (hl : l.length ≤ 9223372036854775807) :
    Calls Tryz.prog 83 #[.string ⟨l.toArray⟩] w (FlipRes l w) := by
  go_enter Tryz.func83, Tryz.ntmps83
  go_wp2_with fail
  rw [Lib.run_convert_string_bytes w 9 40 5 ⟨l.toArray⟩ Tryz.underlying9 Tryz.underlying40 Tryz.underlying5, Lib.size_mk]
  have hH := holds_bytes w 5 l
  have hb2 := bl_bytes w 5 ⟨l.toArray⟩
  obtain ⟨w2, hw2⟩ : ∃ x, x = Lib.bytesWorld w 5 ⟨l.toArray⟩ := ⟨_, rfl⟩
  obtain ⟨cp, hcp⟩ : ∃ x, x = grownCap w l.length 0 5 := ⟨_, rfl⟩
  rw [← hw2] at hH hb2 ⊢
  rw [← hcp]
  have Hrv := Lib.hid (reverse_any w.heap.size cp l w2 hl hH)
  clear hw2 hcp hH
  go_wp2_with fail
  refine Hrv.out.mono ?_
  rintro e w3 ⟨rfl, hH3, hb3⟩
  have hbl := hb3 w hb2 (Nat.le_refl _)
  have hcv := run_convert_bytes_back (P := Tryz.prog) w3 40 9 5 ⟨w.heap.size, 0, none⟩ cp l.reverse Tryz.underlying40 Tryz.underlying5 Tryz.underlying9 (fun j hj => by
    have h := (hH3 j (by simpa using hj)).1
    rw [Nat.zero_add] at h
    show w3.cell? ((⟨w.heap.size, 0, none⟩ : Addr).add j) = _
    rw [show (⟨w.heap.size, 0, none⟩ : Addr).add j = ⟨w.heap.size, j, none⟩ by (unfold Addr.add; simp; omega), h]
    unfold encB
    simp only [List.length_reverse] at hj
    simp [getElem!_pos, hj])
  rw [List.length_reverse] at hcv
  clear hH3 hb3 Hrv
  go_wp2_with fail
  go_ret
  exact ⟨rfl, hbl⟩
set_option maxRecDepth 100000 in
set_option maxHeartbeats 1000000 in
theorem backwards_any (l : List UInt8) (w : World) (hl : l.length ≤ 9223372036854775807) :
    Calls Tryz.prog 28 #[.string ⟨l.toArray⟩] w (FlipRes l w) := by
  go_enter Tryz.func28, Tryz.ntmps28
  go_wp2_with fail
  rw [Lib.run_convert_string_bytes w 9 40 5 ⟨l.toArray⟩ Tryz.underlying9 Tryz.underlying40 Tryz.underlying5, Lib.size_mk]
  have hH := holds_bytes w 5 l
  have hb2 := bl_bytes w 5 ⟨l.toArray⟩
  obtain ⟨w2, hw2⟩ : ∃ x, x = Lib.bytesWorld w 5 ⟨l.toArray⟩ := ⟨_, rfl⟩
  obtain ⟨cp, hcp⟩ : ∃ x, x = grownCap w l.length 0 5 := ⟨_, rfl⟩
  rw [← hw2] at hH hb2 ⊢
  rw [← hcp]
  have Hrv := Lib.hid (reverse_any w.heap.size cp l w2 hl hH)
  clear hw2 hcp hH
  go_wp2_with fail
  refine Hrv.out.mono ?_
  rintro e w3 ⟨rfl, hH3, hb3⟩
  have hbl := hb3 w hb2 (Nat.le_refl _)
  have hcv := run_convert_bytes_back (P := Tryz.prog) w3 40 9 5 ⟨w.heap.size, 0, none⟩ cp l.reverse Tryz.underlying40 Tryz.underlying5 Tryz.underlying9 (fun j hj => by
    have h := (hH3 j (by simpa using hj)).1
    rw [Nat.zero_add] at h
    show w3.cell? ((⟨w.heap.size, 0, none⟩ : Addr).add j) = _
    rw [show (⟨w.heap.size, 0, none⟩ : Addr).add j = ⟨w.heap.size, j, none⟩ by (unfold Addr.add; simp; omega), h]
    unfold encB
    simp only [List.length_reverse] at hj
    simp [getElem!_pos, hj])
  rw [List.length_reverse] at hcv
  clear hH3 hb3 Hrv
  go_wp2_with fail
  go_ret
  exact ⟨rfl, hbl⟩

end Go.Proofs.YtkipcobpnecmhaaGreatDoor
