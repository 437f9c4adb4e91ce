/- glyph.Fit. -/
import Derived.Test.YtpjemcfcheijkaaDoorMClaimLetters20
import Derived.Test.YtpjemcfcheijkaaDoorMClaimLetters21
import Derived.Shelf.Strings.Split

namespace Go.Proofs
open Go.Shelf
end Go.Proofs
namespace Go.Proofs.YtpjemcfcheijkaaDoor
open Go.RowKit Go.Shelf

theorem info_str : (Tryd.prog.info? 9).map (fun i => (i.zero, i.size, i.bytes)) = some (some (.string ByteArray.empty), 1, 16) := by kernel_rfl
def strOf (l : List UInt8) : Value := .string ⟨l.toArray⟩
def strCells' (ts : List (List UInt8)) : List Value := ts.map strOf
theorem str_at {w : World} {A : Option Addr} {ts : List (List UInt8)} {i : Nat} {x : List UInt8} (h : Reads w 1 A ts.length (strCells' ts)) (hi : ts[i]? = some x) : ∃ ad, A = some ad ∧ w.cell? (ad.add i) = some (.string ⟨x.toArray⟩) := by
  have hlt := (List.getElem?_eq_some_iff.1 hi).1
  obtain ⟨ad, u, e, hu, hc⟩ := h.at_ hlt
  unfold strCells' at hu
  rw [List.getElem?_map, hi] at hu
  have hu' : strOf x = u := Option.some.inj hu
  subst hu'
  exact ⟨ad, e, hc⟩

end Go.Proofs.YtpjemcfcheijkaaDoor


/-! bedref2.FitOf. -/
namespace Go.Proofs.YtpjemcfcheijkaaDoor
open Go.RowKit Go.Shelf

theorem cat_ba (a b : List UInt8) : (ByteArray.mk a.toArray ++ ByteArray.mk b.toArray) = ByteArray.mk (a ++ b).toArray := by
  apply ByteArray.ext
  simp [ByteArray.data_append]
theorem cat_word (l w : List UInt8) : (ByteArray.mk l.toArray ++ ByteArray.mk #[32]) ++ ByteArray.mk w.toArray = ByteArray.mk (l ++ 32 :: w).toArray := by
  rw [show ByteArray.mk #[32] = ByteArray.mk [32].toArray from rfl, cat_ba, cat_ba]
  simp
theorem cat_word2 (l w : List UInt8) : ByteArray.mk l.toArray ++ (ByteArray.mk #[32] ++ ByteArray.mk w.toArray) = ByteArray.mk (l ++ 32 :: w).toArray := by
  rw [show ByteArray.mk #[32] = ByteArray.mk [32].toArray from rfl, cat_ba, cat_ba]
  simp
theorem own_at {w : World} {base : Nat} {e : TypeId} {n g cap : Nat} {xs : List Value} (h : w.ownsRow base e 1 (.slice (some ⟨g, 0, none⟩) n cap) n xs) {j : Nat} {u : Value} (hj : xs[j]? = some u) : w.cell? ⟨g, j, none⟩ = some u := by
  obtain ⟨A, c, e2, hr⟩ := own_reads h
  injection e2 with e1 _ _
  subst e1
  have hlt : j < xs.length := (List.getElem?_eq_some_iff.1 hj).1
  have hn : 0 < n := by
    rcases Nat.eq_zero_or_pos n with h0 | h0
    · have := hr.1; rw [h0, Nat.zero_mul] at this; omega
    · exact h0
  obtain ⟨ad, e3, hc⟩ := hr.2 hn
  injection e3 with e3
  subst e3
  have := hc j u hj
  rwa [add_flat] at this
theorem words_len {ls : List Ltr} {t : List UInt8} (h : textErr ls t = 0) : (wordsOf t).length ≤ 201 := by
  obtain ⟨h1, -⟩ := textErr_zero h
  obtain ⟨-, h2, -⟩ := lineErr_zero h1
  have key : ∀ (ws : List (List UInt8)), ws.length ≤ (joinW ws).length + 1 := by
    intro ws
    induction ws with
    | nil => simp
    | cons x l ih =>
      cases l with
      | nil => simp
      | cons y l =>
        show (y :: l).length + 1 ≤ (x ++ 32 :: joinW (y :: l)).length + 1
        rw [List.length_append, List.length_cons (a := 32)]
        omega
  have h3 := key (wordsOf t)
  rw [(wordsOf_spec _ t (Nat.le_refl _)).2.1] at h3
  omega
theorem fit_len (ls : List Ltr) (gap sp : Nat) (most : Int) (ws : List (List UInt8)) : ∀ i, i ≤ ws.length → (fitTo ls gap sp most ws i).length ≤ i
  | 0, _ => Nat.le_refl _
  | i + 1, hi => by
    have ih := fit_len ls gap sp most ws i (by omega)
    rw [fitTo_succ (List.getElem?_eq_getElem (by omega))]
    rcases List.eq_nil_or_concat (fitTo ls gap sp most ws i) with e | ⟨pre, l, e⟩
    · rw [e, fitStep_nil]; simp
    · rw [List.concat_eq_append] at e
      rw [e] at ih ⊢
      rw [fitStep_last]
      rw [List.length_append] at ih
      simp at ih
      split <;> simp <;> omega

end Go.Proofs.YtpjemcfcheijkaaDoor


/-! glyph.Fit. -/
namespace Go.Proofs.YtpjemcfcheijkaaDoor
open Go.RowKit Go.Shelf

def fitErr (fe : Int) (ls : List Ltr) (t : List UInt8) (most : Int) : Int := if fe = 0 then firstNZ [textErr ls t, whenI (!inB most 1 4000) 3] else fe
def FitRes (fe : Int) (ls : List Ltr) (gap sp : Int) (t : List UInt8) (most : Int) (w : World) (e : Ending) (w' : World) : Prop := ∃ R m d err, e = .returned (.tuple #[.slice R m d, .int .i64 err]) ∧ err = fitErr fe ls t most ∧ (err ≠ 0 → R = none ∧ m = 0) ∧
    (err = 0 → m = (fitTo ls gap.toNat sp.toNat most (wordsOf t) (wordsOf t).length).length ∧ Reads w' 1 R m (strCells' (fitTo ls gap.toNat sp.toNat most (wordsOf t) (wordsOf t).length))) ∧ m ≤ d ∧ Bl w w'
theorem fit_bad {fe : Int} {ls : List Ltr} {gap sp : Int} {t : List UInt8} {most : Int} {w w' : World} {err : Int} (h : fitErr fe ls t most = err) (hz : err ≠ 0) (hb : Bl w w') : FitRes fe ls gap sp t most w (.returned (.tuple #[.slice none 0 0, .int .i64 err])) w' :=
  ⟨none, 0, 0, err, rfl, h.symm, fun _ => ⟨rfl, rfl⟩, fun h => absurd h hz, Nat.le_refl _, hb⟩
theorem own_cap {w : World} {base : Nat} {e : TypeId} {size n m cap : Nat} {A : Option Addr} {xs : List Value} (h : w.ownsRow base e size (.slice A m cap) n xs) : n ≤ cap := by
  rcases h.2 with ⟨hv, hn⟩ | ⟨g', cap', cur, hv, -, hg, hn, -⟩
  · injection hv with h1 h2 h3
    omega
  · injection hv with h1 h2 h3
    omega

end Go.Proofs.YtpjemcfcheijkaaDoor
