/- Rows of texts in memory. -/
import Derived.Test.YtjelhdpcaileiaaDoorU0

namespace Go.Proofs.YtjelhdpcaileiaaDoor
open Go.RowKit

section
variable {P : Program} {ops : Array Oper} {Q : Exit → Act → World → Prop} {md : Region.Mode} {cl : Nat → Bool}

def withK (K : Act → World → Prop) (Q : Exit → Act → World → Prop) : Exit → Act → World → Prop
  | .normal, a, w => K a w
  | e, a, w => Q e a w

def listTo : List (Bool × Nat) → Array Bool → Array Bool
  | [], listed => listed
  | (_, i) :: σ, listed => listTo σ (listed.setIfInBounds i true)

def preOk (md : Region.Mode) (ops : Array Oper) (cl : Nat → Bool) : List (Bool × Nat) → Array Bool → Bool
  | [], _ => true
  | (true, i) :: σ, listed => (Region.ready md ops listed).contains i && Region.free md ops listed i &&
      ((List.range ops.size).all fun j => j == i || listed.getD j true || !cl j || precedes md ops i j) && preOk md ops cl σ (listed.setIfInBounds i true)
  | (false, _) :: _, _ => false

theorem fork_sound (hs : Region.noSelect ops = true) (hQ : ∀ c a d v w, Q (.panic c) (Act.put a d v) w → Q (.panic c) a w) {R : Exit → Act → World → Prop} {n : Nat} :
    ∀ (σ : List (Bool × Nat)) (fuel : Nat) (listed : Array Bool) (a : Act) (w : World), listed.size = ops.size → DownClosed md ops listed → σ.length + n ≤ fuel → preOk md ops cl σ listed = true →
      (∀ (fuel : Nat) (a : Act) (w : World), (listTo σ listed).size = ops.size → DownClosed md ops (listTo σ listed) → n ≤ fuel → R .normal a w → wpAnyT P md ops Q cl fuel (listTo σ listed) a w) →
      Flow P ops R cl σ a w → wpAnyT P md ops Q cl fuel listed a w := by
  intro σ
  induction σ with
  | nil =>
    intro fuel listed a w hsz hdc hf hok hK h
    exact hK fuel a w hsz hdc (by simpa using hf) h
  | cons s σ ih =>
    obtain ⟨b, i⟩ := s
    intro fuel listed a w hsz hdc hf hok hK h
    cases fuel with
    | zero => simp at hf
    | succ fuel =>
      have hf' : σ.length + n ≤ fuel := by simp at hf; omega
      cases b with
      | true =>
        simp only [preOk, Bool.and_eq_true] at hok
        obtain ⟨⟨⟨h1, h2⟩, h3⟩, h4⟩ := hok
        obtain ⟨o, v, ho, hy, hfl⟩ := h
        have hir : i ∈ Region.ready md ops listed := by simpa using h1
        refine wpAnyT_first ho (Region.noSelect_spec hs) (fun c a w => hQ c a o.dst v w) fuel listed a w hsz hdc ?_ (Region.free_spec ho h2) hir hy (ih fuel _ _ _ (by simpa using hsz) (hdc.set hir) hf' h4 hK hfl)
        intro j oj hj hji hun hc
        simp only [List.all_eq_true, List.mem_range] at h3
        have h5 := h3 j (Array.getElem?_eq_some_iff.1 hj).1
        simpa only [hc, hun, Bool.or_eq_true, beq_iff_eq, hji, Bool.not_true, Bool.false_eq_true, false_or] using h5
      | false => simp [preOk] at hok

def forkOk (md : Region.Mode) (ops : Array Oper) (cl : Nat → Bool) (σ : List (Bool × Nat)) (i : Nat) (σ1 : List (Bool × Nat)) (j : Nat) (σ2 : List (Bool × Nat)) (listed : Array Bool) : Bool :=
  preOk md ops cl σ listed && Region.ready md ops (listTo σ listed) == [i, j] && flowOk md ops cl σ1 ((listTo σ listed).setIfInBounds i true) && flowOk md ops cl σ2 ((listTo σ listed).setIfInBounds j true)

/-- **TWO THAT COME UP IN EITHER ORDER.** -/
theorem wp_region_fork {id : Nat} {a : Act} {w : World} (σ : List (Bool × Nat)) (i : Nat) (σ1 : List (Bool × Nat)) (j : Nat) (σ2 : List (Bool × Nat)) (cl : Nat → Bool) (hm : P.follows .mixedOrders = true) (hs : Region.noSelect ops = true)
    (hl : decide (σ.length + (σ1.length + σ2.length + 1) ≤ ops.size + σ2.length ∧ σ2.length = σ1.length) = true) (hok : forkOk .any ops cl σ i σ1 j σ2 (Array.replicate ops.size false) = true)
    (h : Flow P ops (NoPanic (withK (fun a w => Flow P ops (NoPanic Q) cl ((false, i) :: σ1) a w ∧ Flow P ops (NoPanic Q) cl ((false, j) :: σ2) a w) Q)) cl σ a w.drew) : (Code.region id ops true).wp P Q a w := by
  have hl' := of_decide_eq_true hl
  unfold forkOk at hok
  simp only [Bool.and_eq_true, beq_iff_eq] at hok
  obtain ⟨⟨⟨h1, h2⟩, h3⟩, h4⟩ := hok
  refine wp_region_noPanic (wp_region_any hm (wpAny_of_T _ _ _ _ (fork_sound (cl := cl) (n := σ1.length + 1) hs noPanic_put σ _ _ _ _ (by simp) downClosed_start (by omega) h1 ?_ h)))
  intro fuel a w hsz hdc hf hK
  obtain ⟨k1, k2⟩ : Flow P ops (NoPanic Q) cl ((false, i) :: σ1) a w ∧ Flow P ops (NoPanic Q) cl ((false, j) :: σ2) a w := hK
  cases fuel with
  | zero => omega
  | succ fuel =>
    refine ⟨fun h0 => (by rw [h0] at h2; cases h2), fun k hk => ?_⟩
    have hk0 := hk
    rw [h2] at hk
    simp only [List.mem_cons, List.not_mem_nil, or_false] at hk
    rcases hk with rfl | rfl
    · exact wpOp_mono (fun a' w' h' => ⟨h'.1, flow_sound hs noPanic_put σ1 fuel _ _ _ (by simpa using hsz) (hdc.set hk0) (by omega) h3 h'.2⟩) k1
    · exact wpOp_mono (fun a' w' h' => ⟨h'.1, flow_sound hs noPanic_put σ2 fuel _ _ _ (by simpa using hsz) (hdc.set hk0) (by omega) h4 h'.2⟩) k2

theorem Flow.fork {K : Act → World → Prop} {a : Act} {w : World} (h : K a w) : Flow P ops (NoPanic (withK K Q)) cl [] a w := h
end

end Go.Proofs.YtjelhdpcaileiaaDoor


/-! Rows of texts in memory. -/
namespace Go.Proofs.YtjelhdpcaileiaaDoor
open Go.RowKit

theorem info_str : (Tryd.prog.info? 9).map (fun i => (i.zero, i.size, i.bytes)) = some (some (.string ByteArray.empty), 1, 16) := by kernel_rfl
def strOf (l : List UInt8) : Value := .string ⟨l.toArray⟩
def strCells' (ts : List (List UInt8)) : List Value := ts.map strOf
theorem str_at {w : World} {A : Option Addr} {ts : List (List UInt8)} {i : Nat} {x : List UInt8} (h : Reads w 1 A ts.length (strCells' ts)) (hi : ts[i]? = some x) : ∃ ad, A = some ad ∧ w.cell? (ad.add i) = some (.string ⟨x.toArray⟩) := by
  have hlt := (List.getElem?_eq_some_iff.1 hi).1
  obtain ⟨ad, u, e, hu, hc⟩ := h.at_ hlt
  unfold strCells' at hu
  rw [List.getElem?_map, hi] at hu
  have hu' : strOf x = u := Option.some.inj hu
  subst hu'
  exact ⟨ad, e, hc⟩

end Go.Proofs.YtjelhdpcaileiaaDoor
