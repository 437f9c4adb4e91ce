/- Both comparers of codes, walked; slices.SortFunc at a row of codes. -/
import Derived.Test.YtkipcobpnecmhaaGreatDoorMClaimBarCodes14
import Derived.Test.YtkipcobpnecmhaaGreatDoorMClaimBarCodes0
import Derived.Test.YtkipcobpnecmhaaGreatDoorMClaimBarCodes1
import Derived.Shelf.SlSortCmp.WholeK
import Derived.Shelf.SlGeneric
import Derived.Shelf.Lay
import Derived.Ground.SlsfProg
import Derived.Ground.SlgcProg
import Derived.Ground.NamesProg
import Derived.Shelf.SlicesG.Cmp
import Derived.Shelf.Small.Strs
import Derived.Laws.Cover1
import Derived.Lib.OwnBridge

namespace Go.Proofs
open Go.Shelf
def Tryz.laysSortCd_ren : Go.Shelf.Ren := ⟨fun | 6 => 74 | 15 => 110 | 14 => 109 | 28 => 141 | 29 => 142 | 20 => 133 | 21 => 134 | 22 => 135 | 23 => 136 | 24 => 137 | 25 => 138 | 26 => 139 | 27 => 140 | 46 => 157 | 47 => 158 | 48 => 159 | 49 => 160 | 50 => 161 | 57 => 165 | n => n, fun | 22 => 35 | 24 => 39 | 25 => 110 | 3 => 3 | 39 => 41 | 0 => 0 | 53 => 126 | 55 => 129 | 4 => 4 | 46 => 152 | 45 => 151 | 50 => 107 | 5 => 5 | 9 => 9 | 66 => 179 | 70 => 183 | 76 => 187 | 77 => 188 | n => n, fun | n => n⟩
theorem Tryz.laysSortCd : Go.Proofs.SlLaysF0.n6 Tryz.prog Tryz.laysSortCd_ren := {
  mixed := by kernel_rfl
  f6 := ⟨Tryz.f74.name, by decide, Tryz.func74.trans (congrArg some (by kernel_rfl))⟩
  f14 := ⟨Tryz.f109.name, by decide, Tryz.func109.trans (congrArg some (by kernel_rfl))⟩
  f15 := Tryz.func110.trans (congrArg some (by kernel_rfl))
  f20 := ⟨Tryz.f133.name, by decide, Tryz.func133.trans (congrArg some (by kernel_rfl))⟩
  f21 := ⟨Tryz.f134.name, by decide, Tryz.func134.trans (congrArg some (by kernel_rfl))⟩
  f22 := ⟨Tryz.f135.name, by decide, Tryz.func135.trans (congrArg some (by kernel_rfl))⟩
  f23 := ⟨Tryz.f136.name, by decide, Tryz.func136.trans (congrArg some (by kernel_rfl))⟩
  f24 := ⟨Tryz.f137.name, by decide, Tryz.func137.trans (congrArg some (by kernel_rfl))⟩
  f25 := ⟨Tryz.f138.name, by decide, Tryz.func138.trans (congrArg some (by kernel_rfl))⟩
  f26 := ⟨Tryz.f139.name, by decide, Tryz.func139.trans (congrArg some (by kernel_rfl))⟩
  f27 := ⟨Tryz.f140.name, by decide, Tryz.func140.trans (congrArg some (by kernel_rfl))⟩
  f28 := Tryz.func141.trans (congrArg some (by kernel_rfl))
  f29 := Tryz.func142.trans (congrArg some (by kernel_rfl))
  f46 := ⟨Tryz.f157.name, by decide, Tryz.func157.trans (congrArg some (by kernel_rfl))⟩
  f47 := Tryz.func158.trans (congrArg some (by kernel_rfl))
  f48 := Tryz.func159.trans (congrArg some (by kernel_rfl))
  f49 := ⟨Tryz.f160.name, by decide, Tryz.func160.trans (congrArg some (by kernel_rfl))⟩
  f50 := ⟨Tryz.f161.name, by decide, Tryz.func161.trans (congrArg some (by kernel_rfl))⟩
  f57 := ⟨Tryz.f165.name, by decide, Tryz.func165.trans (congrArg some (by kernel_rfl))⟩
  t0 := Tryz.underlying0
  a0 := Tryz.isAgg0
  z0 := Tryz.sizeOf0
  v0 := Tryz.zeroValue0
  t3 := Tryz.underlying3
  a3 := Tryz.isAgg3
  z3 := Tryz.sizeOf3
  v3 := Tryz.zeroValue3
  t4 := Tryz.underlying4
  a4 := Tryz.isAgg4
  z4 := Tryz.sizeOf4
  v4 := Tryz.zeroValue4
  t5 := Tryz.underlying5
  a5 := Tryz.isAgg5
  z5 := Tryz.sizeOf5
  v5 := Tryz.zeroValue5
  t9 := Tryz.underlying9
  a9 := Tryz.isAgg9
  z9 := Tryz.sizeOf9
  v9 := Tryz.zeroValue9
  t22 := Tryz.underlying35
  a22 := Tryz.isAgg35
  z22 := Tryz.sizeOf35
  v22 := Tryz.zeroValue35
  t25 := Tryz.underlying110
  a25 := Tryz.isAgg110
  z25 := Tryz.sizeOf110
  v25 := Tryz.zeroValue110
  t39 := Tryz.underlying41
  a39 := Tryz.isAgg41
  z39 := Tryz.sizeOf41
  v39 := Tryz.zeroValue41
  t45 := Tryz.underlying151
  a45 := Tryz.isAgg151
  z45 := Tryz.sizeOf151
  v45 := Tryz.zeroValue151
  t46 := Tryz.underlying152
  a46 := Tryz.isAgg152
  z46 := Tryz.sizeOf152
  v46 := Tryz.zeroValue152
  t50 := Tryz.underlying107
  a50 := Tryz.isAgg107
  z50 := Tryz.sizeOf107
  v50 := Tryz.zeroValue107
  t53 := Tryz.underlying126
  a53 := Tryz.isAgg126
  z53 := Tryz.sizeOf126
  v53 := Tryz.zeroValue126
  t55 := Tryz.underlying129
  a55 := Tryz.isAgg129
  z55 := Tryz.sizeOf129
  v55 := Tryz.zeroValue129
  t66 := Tryz.underlying179
  a66 := Tryz.isAgg179
  z66 := Tryz.sizeOf179
  v66 := Tryz.zeroValue179
  t70 := Tryz.underlying183
  a70 := Tryz.isAgg183
  z70 := Tryz.sizeOf183
  v70 := Tryz.zeroValue183
  t76 := Tryz.underlying187
  a76 := Tryz.isAgg187
  z76 := Tryz.sizeOf187
  v76 := Tryz.zeroValue187
  t77 := Tryz.underlying188
  a77 := Tryz.isAgg188
  z77 := Tryz.sizeOf188
  v77 := Tryz.zeroValue188 }

def Tryz.laysCmpInt_ren : Go.Shelf.Ren := ⟨fun | 5 => 111 | 7 => 143 | n => n, fun | 22 => 3 | 3 => 3 | 4 => 4 | n => n, fun | n => n⟩
theorem Tryz.laysCmpInt : Go.Proofs.SlLaysC2.n5 Tryz.prog Tryz.laysCmpInt_ren := {
  mixed := by kernel_rfl
  f5 := ⟨Tryz.f111.name, by decide, Tryz.func111.trans (congrArg some (by kernel_rfl))⟩
  f7 := ⟨Tryz.f143.name, by decide, Tryz.func143.trans (congrArg some (by kernel_rfl))⟩
  t3 := Tryz.underlying3
  a3 := Tryz.isAgg3
  z3 := Tryz.sizeOf3
  v3 := Tryz.zeroValue3
  t4 := Tryz.underlying4
  a4 := Tryz.isAgg4
  z4 := Tryz.sizeOf4
  v4 := Tryz.zeroValue4
  t22 := Tryz.underlying3
  a22 := Tryz.isAgg3
  z22 := Tryz.sizeOf3
  v22 := Tryz.zeroValue3 }

def Tryz.lays106_ren : Go.Shelf.Ren := ⟨fun | 106 => 92 | 213 => 125 | 265 => 150 | n => n, fun | 9 => 9 | 3 => 3 | n => n, fun | n => n⟩
theorem Tryz.lays106 : Go.Proofs.Lays.n106 Tryz.prog Tryz.lays106_ren := {
  mixed := by kernel_rfl
  f106 := Tryz.func92.trans (congrArg some (by kernel_rfl))
  f213 := Tryz.func125.trans (congrArg some (by kernel_rfl))
  f265 := Tryz.func150.trans (congrArg some (by kernel_rfl))
  t3 := Tryz.underlying3
  a3 := Tryz.isAgg3
  z3 := Tryz.sizeOf3
  v3 := Tryz.zeroValue3
  t9 := Tryz.underlying9
  a9 := Tryz.isAgg9
  z9 := Tryz.sizeOf9
  v9 := Tryz.zeroValue9 }

end Go.Proofs
namespace Go.Proofs.YtkipcobpnecmhaaGreatDoor
open Go.RowKit Go.Shelf Go.Sort

/-! ### comparisons in plain lists -/
structure CmpOk {α : Type} (c : α → α → Int) : Prop where
  refl : ∀ x, c x x = 0
  flip : ∀ x y, c x y < 0 ↔ 0 < c y x
  trans : ∀ x y z, c x y ≤ 0 → c y z ≤ 0 → c x z ≤ 0
theorem CmpOk.zero {α : Type} {c : α → α → Int} (h : CmpOk c) (x y : α) : c x y = 0 ↔ c y x = 0 := by
  have h1 := h.flip x y
  have h2 := h.flip y x
  omega
theorem CmpOk.swo {α : Type} {c : α → α → Int} (h : CmpOk c) : SWO (ltOf c) where
  irrefl x := by unfold ltOf; rw [h.refl]; rfl
  trans x y z h1 h2 := by
    unfold ltOf at *
    simp only [decide_eq_true_eq] at *
    have a := h.trans x y z (by omega) (by omega)
    have b := h.trans z x y
    have c1 := h.flip x z
    have c2 := h.flip z x
    have c3 := h.flip y z
    omega
  ntrans x y z h1 h2 := by
    unfold ltOf at *
    simp only [decide_eq_false_iff_not] at *
    have a := h.trans z y x
    have c1 := h.flip x y
    have c2 := h.flip y x
    have c3 := h.flip y z
    have c4 := h.flip z y
    have c5 := h.flip x z
    have c6 := h.flip z x
    omega
def lexC {α : Type} (c d : α → α → Int) (x y : α) : Int := if c x y = 0 then d x y else c x y
theorem CmpOk.lex {α : Type} {c d : α → α → Int} (h : CmpOk c) (k : CmpOk d) : CmpOk (lexC c d) where
  refl x := by unfold lexC; rw [if_pos (h.refl x)]; exact k.refl x
  flip x y := by
    unfold lexC
    have h1 := h.flip x y
    have h2 := h.flip y x
    have k1 := k.flip x y
    by_cases e : c x y = 0
    · rw [if_pos e, if_pos ((h.zero x y).1 e)]; exact k1
    · rw [if_neg e, if_neg (fun e' => e ((h.zero x y).2 e'))]; exact h1
  trans x y z h1 h2 := by
    unfold lexC at *
    have t1 := h.trans x y z
    have t2 := h.trans y z x
    have t3 := h.trans z x y
    have z1 := h.zero x z
    have f1 := h.flip x y
    have f2 := h.flip y z
    have f3 := h.flip x z
    have g1 := h.flip y x
    have g2 := h.flip z y
    have g3 := h.flip z x
    have hxy : c x y ≤ 0 := by
      by_cases e : c x y = 0
      · omega
      · rw [if_neg e] at h1; exact h1
    have hyz : c y z ≤ 0 := by
      by_cases e : c y z = 0
      · omega
      · rw [if_neg e] at h2; exact h2
    by_cases e : c x z = 0
    · have e1 : c x y = 0 := by omega
      have e2 : c y z = 0 := by omega
      rw [if_pos e1] at h1
      rw [if_pos e2] at h2
      rw [if_pos e]
      exact k.trans x y z h1 h2
    · rw [if_neg e]
      exact t1 hxy hyz
theorem CmpOk.on {α β : Type} {c : α → α → Int} (h : CmpOk c) (f : β → α) : CmpOk fun x y => c (f x) (f y) :=
  ⟨fun _ => h.refl _, fun _ _ => h.flip _ _, fun _ _ _ => h.trans _ _ _⟩
theorem cmp_diff : CmpOk fun x y : Int => x - y := ⟨fun x => by omega, fun x y => by omega, fun x y z => by omega⟩
theorem cb_cons (a b : UInt8) (x y : List UInt8) : Lib.compareBytes (a :: x) (b :: y) = if a < b then -1 else if b < a then 1 else Lib.compareBytes x y := rfl
theorem cmp_bytes : CmpOk Lib.compareBytes where
  refl x := by
    induction x with
    | nil => rfl
    | cons a x ih =>
      rw [cb_cons, if_neg (by rw [UInt8.lt_iff_toNat_lt]; omega), if_neg (by rw [UInt8.lt_iff_toNat_lt]; omega)]
      exact ih
  flip x := by
    induction x with
    | nil => intro y; cases y <;> simp [Lib.compareBytes]
    | cons a x ih =>
      intro y
      cases y with
      | nil => simp [Lib.compareBytes]
      | cons b y =>
        rw [cb_cons, cb_cons]
        have := ih y
        simp only [UInt8.lt_iff_toNat_lt]
        by_cases h1 : a.toNat < b.toNat
        · rw [if_pos h1, if_neg (by omega), if_pos h1]; omega
        · rw [if_neg h1]
          by_cases h2 : b.toNat < a.toNat
          · rw [if_pos h2, if_pos h2]; omega
          · rw [if_neg h2, if_neg h2, if_neg h1]; exact this
  trans x := by
    induction x with
    | nil => intro y z h1 h2; cases z <;> simp [Lib.compareBytes]
    | cons a x ih =>
      intro y z h1 h2
      cases y with
      | nil => simp [Lib.compareBytes] at h1
      | cons b y =>
        cases z with
        | nil => simp [Lib.compareBytes] at h2
        | cons c z =>
          rw [cb_cons] at *
          simp only [UInt8.lt_iff_toNat_lt] at *
          by_cases h3 : a.toNat < c.toNat
          · rw [if_pos h3]; omega
          · rw [if_neg h3]
            by_cases k1 : a.toNat < b.toNat
            · rw [if_neg (by omega)] at h2
              by_cases k2 : c.toNat < b.toNat
              · rw [if_pos k2] at h2; omega
              · omega
            · rw [if_neg k1] at h1
              by_cases k2 : b.toNat < a.toNat
              · rw [if_pos k2] at h1; omega
              · rw [if_neg k2] at h1
                by_cases k3 : b.toNat < c.toNat
                · omega
                · rw [if_neg k3] at h2
                  by_cases k4 : c.toNat < b.toNat
                  · rw [if_pos k4] at h2; omega
                  · rw [if_neg k4] at h2
                    rw [if_neg (by omega)]
                    exact ih y z h1 h2
def cfR (a b : Cd) : Int := lexC (fun x y : Cd => x.Y - y.Y) (lexC (fun x y : Cd => x.X - y.X) (lexC (fun x y : Cd => Lib.compareBytes x.t y.t) (fun x y : Cd => x.k - y.k))) a b
def cfP (a b : Cd) : Int := lexC (fun x y : Cd => Lib.compareInt x.Y y.Y) (lexC (fun x y : Cd => Lib.compareInt x.X y.X) (lexC (fun x y : Cd => Lib.compareBytes x.t y.t) (fun x y : Cd => Lib.compareInt x.k y.k))) a b
theorem cfR_ok : CmpOk cfR := (cmp_diff.on (fun e : Cd => e.Y)).lex ((cmp_diff.on (fun e : Cd => e.X)).lex ((cmp_bytes.on (fun e : Cd => e.t)).lex (cmp_diff.on (fun e : Cd => e.k))))
theorem compareInt_sign (a b : Int) : (Lib.compareInt a b < 0 ↔ a - b < 0) ∧ (Lib.compareInt a b = 0 ↔ a - b = 0) := by
  unfold Lib.compareInt
  by_cases h1 : a < b
  · rw [if_pos h1]; omega
  · rw [if_neg h1]
    by_cases h2 : a > b
    · rw [if_pos h2]; omega
    · rw [if_neg h2]; omega
theorem lexC_sign {α : Type} {c c' d d' : α → α → Int} {x y : α} (h : (c x y < 0 ↔ c' x y < 0) ∧ (c x y = 0 ↔ c' x y = 0)) (k : (d x y < 0 ↔ d' x y < 0) ∧ (d x y = 0 ↔ d' x y = 0)) : (lexC c d x y < 0 ↔ lexC c' d' x y < 0) ∧ (lexC c d x y = 0 ↔ lexC c' d' x y = 0) := by
  unfold lexC
  by_cases e : c x y = 0
  · rw [if_pos e, if_pos (h.2.1 e)]; exact k
  · rw [if_neg e, if_neg (fun e' => e (h.2.2 e'))]; exact h
theorem lt_same : ltOf cfP = ltOf cfR := by
  funext x y
  unfold ltOf
  have h := lexC_sign (x := x) (y := y) (c := fun x y : Cd => Lib.compareInt x.Y y.Y) (c' := fun x y : Cd => x.Y - y.Y) (compareInt_sign _ _)
    (lexC_sign (c := fun x y : Cd => Lib.compareInt x.X y.X) (c' := fun x y : Cd => x.X - y.X) (compareInt_sign _ _)
      (lexC_sign (c := fun x y : Cd => Lib.compareBytes x.t y.t) (c' := fun x y : Cd => Lib.compareBytes x.t y.t) ⟨Iff.rfl, Iff.rfl⟩ (d := fun x y : Cd => Lib.compareInt x.k y.k) (d' := fun x y : Cd => x.k - y.k) (compareInt_sign _ _)))
  exact decide_eq_decide.2 h.1
theorem first4 (p q r s : Int) : firstNZ [p, q, r, s] = if p = 0 then (if q = 0 then (if r = 0 then s else r) else q) else p := by
  show (if p = 0 then (if q = 0 then (if r = 0 then (if s = 0 then 0 else s) else r) else q) else p) = _
  by_cases hs : s = 0
  · subst hs; rfl
  · rw [if_neg hs]
theorem cfR_first (a b : Cd) : cfR a b = firstNZ [a.Y - b.Y, a.X - b.X, Lib.compareBytes a.t b.t, a.k - b.k] := by rw [first4]; rfl
theorem cfP_first (a b : Cd) : cfP a b = firstNZ [Lib.compareInt a.Y b.Y, Lib.compareInt a.X b.X, Lib.compareBytes a.t b.t, Lib.compareInt a.k b.k] := by rw [first4]; rfl
/-! ### the comparers of texts -/
theorem bytesLess_cb : ∀ a b : List UInt8, Lib.compareBytes a b = if Op.bytesLess a b = true then -1 else if a = b then 0 else 1
  | [], [] => rfl
  | [], b :: y => rfl
  | a :: x, [] => rfl
  | a :: x, b :: y => by
    rw [cb_cons, bytesLess_cb x y]
    show _ = if (decide (a < b) || (a == b && Op.bytesLess x y)) = true then _ else _
    by_cases h1 : a < b
    · simp [h1]
    · by_cases h2 : b < a
      · have hne : a ≠ b := fun e => by subst e; exact h1 h2
        simp [h1, h2, hne]
      · have he : a = b := by
          rw [UInt8.lt_iff_toNat_lt] at h1 h2
          exact UInt8.toNat_inj.1 (by omega)
        subst he
        simp [h1]
set_option maxRecDepth 100000 in
set_option maxHeartbeats 1000000 in
theorem cmpStr_any (a b : List UInt8) (w : World) :
    Calls Tryz.prog 112 #[.string ⟨a.toArray⟩, .string ⟨b.toArray⟩] w fun e w' => e = .returned (.int .i64 (Lib.compareBytes a b)) ∧ w = w' := by
  have HV := Lib.hid (bytesLess_cb a b)
  have ha : (⟨a.toArray⟩ : ByteArray).toList = a := by rw [ByteArray.toList_eq]
  have hb : (⟨b.toArray⟩ : ByteArray).toList = b := by rw [ByteArray.toList_eq]
  have hn : ∀ c : List UInt8, ∀ W, Calls Tryz.prog 144 #[.string ⟨c.toArray⟩] W fun e w' => e = .returned (.bool false) ∧ W = w' := fun c W => by
    go_enter Tryz.func144, Tryz.ntmps144
    go_wp2_with fail
    go_ret
    exact ⟨by simp, rfl⟩
  have Hn := Lib.hid hn
  clear hn
  have h3 : (Op.bytesLess a b = true) ∨ (Op.bytesLess a b = false ∧ a = b) ∨ (Op.bytesLess a b = false ∧ a ≠ b) := by
    cases Op.bytesLess a b <;> by_cases h : a = b <;> simp [h]
  go_enter Tryz.func112, Tryz.ntmps112
  go_wp2_with fail
  refine (Hn.out a w).mono ?_
  rintro e w' ⟨rfl, rfl⟩
  go_wp2_with fail
  refine (Hn.out b w).mono ?_
  rintro e w' ⟨rfl, rfl⟩
  rcases h3 with h | ⟨h, he⟩ | ⟨h, he⟩
  · have HE := Lib.hid (show Lib.compareBytes a b = -1 by rw [HV.out, if_pos h])
    clear HV
    go_wp2_with fail
    refine bodyPost_ret (v := .int .i64 (-1)) (by simp [results, Tryz.results112, go_sem]) rfl ⟨by rw [HE.out], rfl⟩
  · have HE := Lib.hid (show Lib.compareBytes a b = 0 by rw [HV.out, h, if_neg (by decide), if_pos he])
    clear HV
    subst he
    go_wp2_with fail
    refine bodyPost_ret (v := .int .i64 0) (by simp [results, Tryz.results112, go_sem]) rfl ⟨by rw [HE.out], rfl⟩
  · have HE := Lib.hid (show Lib.compareBytes a b = 1 by rw [HV.out, h, if_neg (by decide), if_neg he])
    have hq : (a == b) = false := by rw [beq_eq_false_iff_ne]; exact he
    clear HV he
    go_wp2_with fail
    refine bodyPost_ret (v := .int .i64 1) (by simp [results, Tryz.results112, go_sem]) rfl ⟨by rw [HE.out], rfl⟩

end Go.Proofs.YtkipcobpnecmhaaGreatDoor


/-! Both comparers of codes, walked; slices.SortFunc at a row of codes. -/
namespace Go.Proofs.YtkipcobpnecmhaaGreatDoor
open Go.RowKit Go.Shelf Go.Sort

/-- What a comparer leans on. -/
def CdIn (e : Cd) : Prop := (e.k = 1 ∨ e.k = 2) ∧ 0 ≤ e.X ∧ e.X ≤ 4000 ∧ 0 ≤ e.Y ∧ e.Y ≤ 4000
theorem CdOk.in_ {N : Nat} {e : Cd} (h : CdOk N e) : CdIn e := ⟨h.1, h.2.1, h.2.2.1, h.2.2.2.1, h.2.2.2.2.1⟩
abbrev CdS := {e : Cd // CdIn e}
instance : Inhabited Cd := ⟨⟨1, [], 0, 0, 0, 1⟩⟩
instance : Inhabited CdS := ⟨⟨⟨1, [], 0, 0, 0, 1⟩, by unfold CdIn; decide⟩⟩
def encS (x : CdS) : List Value := x.1.cells
def cfRS (x y : CdS) : Int := cfR x.1 y.1
def cfPS (x y : CdS) : Int := cfP x.1 y.1
theorem cfRS_swo : SWO (ltOf cfRS) := (cfR_ok.on (fun x : CdS => x.1)).swo
theorem lt_sameS : ltOf cfPS = ltOf cfRS := by
  funext x y
  exact congrFun (congrFun lt_same x.1) y.1
theorem world3 (w : World) (a b c : Obj) : grow (w.drewN 1) #[a, b, c] = (((w.alloc a).alloc b).alloc c).drew := by
  rw [alloc_eq_grow, alloc_eq_grow, alloc_eq_grow, grow_grow, grow_grow]
  rfl
set_option maxRecDepth 100000 in
set_option maxHeartbeats 4000000 in
theorem order_any (x y : CdS) (w : World) :
    Calls Tryz.prog 75 #[.agg (encS x).toArray, .agg (encS y).toArray] w fun e w' => e = .returned (.int .i64 (cfPS x y)) ∧ ∃ q os', w' = grow (w.drewN q) os' := by
  obtain ⟨⟨k1, t1, X1, Y1, W1, n1⟩, h1⟩ := x
  obtain ⟨⟨k2, t2, X2, Y2, W2, n2⟩, h2⟩ := y
  have HV := Lib.hid (cfP_first ⟨k1, t1, X1, Y1, W1, n1⟩ ⟨k2, t2, X2, Y2, W2, n2⟩)
  show Calls Tryz.prog 75 #[.agg #[.int .i64 k1, .string ⟨t1.toArray⟩, .int .i64 X1, .int .i64 Y1, .int .i64 W1, .int .i64 n1], .agg #[.int .i64 k2, .string ⟨t2.toArray⟩, .int .i64 X2, .int .i64 Y2, .int .i64 W2, .int .i64 n2]] w fun e w' => e = .returned (.int .i64 (cfP ⟨k1, t1, X1, Y1, W1, n1⟩ ⟨k2, t2, X2, Y2, W2, n2⟩)) ∧ ∃ q os', w' = grow (w.drewN q) os'
  have Hc : ∀ (a b : Int) (W : World), Calls Tryz.prog 111 #[.int .i64 a, .int .i64 b] W fun e w' => e = .returned (.int .i64 (Lib.compareInt a b)) ∧ w' = W := fun a b W => AnyG.cmp_Compare_int Tryz.laysCmpInt a b W
  have Hc := Lib.hid Hc
  obtain ⟨r1, hr1⟩ : ∃ r, r = Lib.compareInt Y1 Y2 := ⟨_, rfl⟩
  obtain ⟨r2, hr2⟩ : ∃ r, r = Lib.compareInt X1 X2 := ⟨_, rfl⟩
  obtain ⟨r3, hr3⟩ : ∃ r, r = Lib.compareBytes t1 t2 := ⟨_, rfl⟩
  obtain ⟨r4, hr4⟩ : ∃ r, r = Lib.compareInt k1 k2 := ⟨_, rfl⟩
  have C1 := Lib.hid (fun W => Hc.out Y1 Y2 W); have C2 := Lib.hid (fun W => Hc.out X1 X2 W); have C3 := Lib.hid (fun W => cmpStr_any t1 t2 W); have C4 := Lib.hid (fun W => Hc.out k1 k2 W)
  rw [← hr1] at C1; rw [← hr2] at C2; rw [← hr3] at C3; rw [← hr4] at C4
  have HV2 := Lib.hid (show cfP ⟨k1, t1, X1, Y1, W1, n1⟩ ⟨k2, t2, X2, Y2, W2, n2⟩ = firstNZ [r1, r2, r3, r4] by rw [HV.out, hr1, hr2, hr3, hr4])
  clear HV Hc hr1 hr2 hr3 hr4 h1 h2
  go_enter Tryz.func75, Tryz.ntmps75
  go_upto_region 1 with fail
  have b1 := (Blk.new w 39 #[.int .i64 k1, .string ⟨t1.toArray⟩, .int .i64 X1, .int .i64 Y1, .int .i64 W1, .int .i64 n1]).alloc (.cells #[.int .i64 k2, .string ⟨t2.toArray⟩, .int .i64 X2, .int .i64 Y2, .int .i64 W2, .int .i64 n2] 39)
  have b2 := Blk.new (w.alloc (.cells #[.int .i64 k1, .string ⟨t1.toArray⟩, .int .i64 X1, .int .i64 Y1, .int .i64 W1, .int .i64 n1] 39)) 39 #[.int .i64 k2, .string ⟨t2.toArray⟩, .int .i64 X2, .int .i64 Y2, .int .i64 W2, .int .i64 n2]
  obtain ⟨w1, hw1⟩ : ∃ x, x = (w.alloc (.cells #[.int .i64 k1, .string ⟨t1.toArray⟩, .int .i64 X1, .int .i64 Y1, .int .i64 W1, .int .i64 n1] 39)).alloc (.cells #[.int .i64 k2, .string ⟨t2.toArray⟩, .int .i64 X2, .int .i64 Y2, .int .i64 W2, .int .i64 n2] 39) := ⟨_, rfl⟩
  obtain ⟨o1, ho1⟩ : ∃ x, x = w.heap.size := ⟨_, rfl⟩
  obtain ⟨o2, ho2⟩ : ∃ x, x = (w.alloc (.cells #[.int .i64 k1, .string ⟨t1.toArray⟩, .int .i64 X1, .int .i64 Y1, .int .i64 W1, .int .i64 n1] 39)).heap.size := ⟨_, rfl⟩
  have ho2' : o2 = o1 + 1 := by rw [ho2, ho1]; simp
  rw [← hw1] at b1 b2
  rw [← ho1] at b1
  rw [← ho2] at b2
  try rw [← hw1, ← ho1]
  have HW1 := Lib.hid hw1
  rw [ho2'] at b2
  clear hw1 ho1 ho2 ho2'
  have kA := b1.all6'
  have kB := b2.all6'
  clear b1 b2
  refine wp_region_flow [(true, 0), (true, 1), (true, 2), (true, 3), (true, 5), (true, 6), (true, 7), (true, 8), (true, 10), (true, 11), (true, 12), (true, 13), (true, 15), (true, 16), (true, 17), (true, 18), (false, 4), (false, 9), (false, 14), (false, 19), (false, 20), (false, 21), (true, 22)] (fun _ => false) (by kernel_rfl) (by kernel_rfl) (by kernel_rfl) (by kernel_rfl) ?_
  iterate 1
    apply Flow.calm2 _ _ rfl rfl
    · intro w' hb' K' hK'
      obtain ⟨hc', hf'⟩ := hb'.rule
      go_simp
      try go_ints
      exact hK'
    · intro K' hK'
      simp only [Act.put, List.setIfInBounds_toArray, List.set_cons_zero, List.set_cons_succ]
      exact hK'
  iterate 1
    apply Flow.calm2 _ _ rfl rfl
    · intro w' hb' K' hK'
      obtain ⟨hc', hf'⟩ := hb'.rule
      go_simp
      try go_ints
      exact hK'
    · intro K' hK'
      simp only [Act.put, List.setIfInBounds_toArray, List.set_cons_zero, List.set_cons_succ]
      exact hK'
  iterate 1
    apply Flow.calm2 _ _ rfl rfl
    · intro w' hb' K' hK'
      obtain ⟨hc', hf'⟩ := hb'.rule
      go_simp
      try go_ints
      exact hK'
    · intro K' hK'
      simp only [Act.put, List.setIfInBounds_toArray, List.set_cons_zero, List.set_cons_succ]
      exact hK'
  iterate 1
    apply Flow.calm2 _ _ rfl rfl
    · intro w' hb' K' hK'
      obtain ⟨hc', hf'⟩ := hb'.rule
      go_simp
      try go_ints
      exact hK'
    · intro K' hK'
      simp only [Act.put, List.setIfInBounds_toArray, List.set_cons_zero, List.set_cons_succ]
      exact hK'
  iterate 1
    apply Flow.calm2 _ _ rfl rfl
    · intro w' hb' K' hK'
      obtain ⟨hc', hf'⟩ := hb'.rule
      go_simp
      try go_ints
      exact hK'
    · intro K' hK'
      simp only [Act.put, List.setIfInBounds_toArray, List.set_cons_zero, List.set_cons_succ]
      exact hK'
  iterate 1
    apply Flow.calm2 _ _ rfl rfl
    · intro w' hb' K' hK'
      obtain ⟨hc', hf'⟩ := hb'.rule
      go_simp
      try go_ints
      exact hK'
    · intro K' hK'
      simp only [Act.put, List.setIfInBounds_toArray, List.set_cons_zero, List.set_cons_succ]
      exact hK'
  iterate 1
    apply Flow.calm2 _ _ rfl rfl
    · intro w' hb' K' hK'
      obtain ⟨hc', hf'⟩ := hb'.rule
      go_simp
      try go_ints
      exact hK'
    · intro K' hK'
      simp only [Act.put, List.setIfInBounds_toArray, List.set_cons_zero, List.set_cons_succ]
      exact hK'
  iterate 1
    apply Flow.calm2 _ _ rfl rfl
    · intro w' hb' K' hK'
      obtain ⟨hc', hf'⟩ := hb'.rule
      go_simp
      try go_ints
      exact hK'
    · intro K' hK'
      simp only [Act.put, List.setIfInBounds_toArray, List.set_cons_zero, List.set_cons_succ]
      exact hK'
  iterate 1
    apply Flow.calm2 _ _ rfl rfl
    · intro w' hb' K' hK'
      obtain ⟨hc', hf'⟩ := hb'.rule
      go_simp
      try go_ints
      exact hK'
    · intro K' hK'
      simp only [Act.put, List.setIfInBounds_toArray, List.set_cons_zero, List.set_cons_succ]
      exact hK'
  iterate 1
    apply Flow.calm2 _ _ rfl rfl
    · intro w' hb' K' hK'
      obtain ⟨hc', hf'⟩ := hb'.rule
      go_simp
      try go_ints
      exact hK'
    · intro K' hK'
      simp only [Act.put, List.setIfInBounds_toArray, List.set_cons_zero, List.set_cons_succ]
      exact hK'
  iterate 1
    apply Flow.calm2 _ _ rfl rfl
    · intro w' hb' K' hK'
      obtain ⟨hc', hf'⟩ := hb'.rule
      go_simp
      try go_ints
      exact hK'
    · intro K' hK'
      simp only [Act.put, List.setIfInBounds_toArray, List.set_cons_zero, List.set_cons_succ]
      exact hK'
  iterate 1
    apply Flow.calm2 _ _ rfl rfl
    · intro w' hb' K' hK'
      obtain ⟨hc', hf'⟩ := hb'.rule
      go_simp
      try go_ints
      exact hK'
    · intro K' hK'
      simp only [Act.put, List.setIfInBounds_toArray, List.set_cons_zero, List.set_cons_succ]
      exact hK'
  iterate 1
    apply Flow.calm2 _ _ rfl rfl
    · intro w' hb' K' hK'
      obtain ⟨hc', hf'⟩ := hb'.rule
      go_simp
      try go_ints
      exact hK'
    · intro K' hK'
      simp only [Act.put, List.setIfInBounds_toArray, List.set_cons_zero, List.set_cons_succ]
      exact hK'
  iterate 1
    apply Flow.calm2 _ _ rfl rfl
    · intro w' hb' K' hK'
      obtain ⟨hc', hf'⟩ := hb'.rule
      go_simp
      try go_ints
      exact hK'
    · intro K' hK'
      simp only [Act.put, List.setIfInBounds_toArray, List.set_cons_zero, List.set_cons_succ]
      exact hK'
  iterate 1
    apply Flow.calm2 _ _ rfl rfl
    · intro w' hb' K' hK'
      obtain ⟨hc', hf'⟩ := hb'.rule
      go_simp
      try go_ints
      exact hK'
    · intro K' hK'
      simp only [Act.put, List.setIfInBounds_toArray, List.set_cons_zero, List.set_cons_succ]
      exact hK'
  iterate 1
    apply Flow.calm2 _ _ rfl rfl
    · intro w' hb' K' hK'
      obtain ⟨hc', hf'⟩ := hb'.rule
      go_simp
      try go_ints
      exact hK'
    · intro K' hK'
      simp only [Act.put, List.setIfInBounds_toArray, List.set_cons_zero, List.set_cons_succ]
      exact hK'
  apply Flow.move rfl
  go_wp2_with fail
  refine (C1.out _).mono ?_
  rintro e w' ⟨rfl, rfl⟩
  go_wp2_with fail
  refine ⟨fun _ => (by first | exact HB1 | exact Bl.refl _), ?_⟩
  apply Flow.move rfl
  go_wp2_with fail
  refine (C2.out _).mono ?_
  rintro e w' ⟨rfl, rfl⟩
  go_wp2_with fail
  refine ⟨fun _ => (by first | exact HB2 | exact Bl.refl _), ?_⟩
  apply Flow.move rfl
  go_wp2_with fail
  refine (C3.out _).mono ?_
  rintro e w' ⟨rfl, rfl⟩
  go_wp2_with fail
  refine ⟨fun _ => (by first | exact HB3 | exact Bl.refl _), ?_⟩
  apply Flow.move rfl
  go_wp2_with fail
  refine (C4.out _).mono ?_
  rintro e w' ⟨rfl, rfl⟩
  go_wp2_with fail
  refine ⟨fun _ => (by first | exact HB4 | exact Bl.refl _), ?_⟩
  apply Flow.move rfl
  go_wp2_with fail
  first | refine ⟨fun _ => ?_, ?_⟩ | refine ⟨?_, ?_⟩
  · repeat' (first | exact Bl.refl _ | refine Bl.drewL ?_ | refine Bl.drew ?_ | refine Bl.alloc ?_ _)
  apply Flow.move rfl
  go_wp2_with fail
  refine (cmpOr_any _ _ [r1, r2, r3, r4] _ (Reads.lit (Blk.new _ _ _).drew rfl) (by simp)).mono ?_
  rintro e w' ⟨rfl, rfl⟩
  go_wp2_with fail
  refine ⟨fun _ => (by first | exact HB6 | exact Bl.refl _), ?_⟩
  iterate 1
    apply Flow.asg _ rfl
    · intro K' hK'
      simp only [Act.put, Act.eval, List.setIfInBounds_toArray, List.set_cons_zero, List.set_cons_succ, arr_getD, List.getD_cons_zero, List.getD_cons_succ]
      exact hK'
  refine Flow.done ?_
  go_wp2_with fail
  go_ret
  exact ⟨ret_int HV2.out.symm, 1, #[_, _, _], by rw [HW1.out]; exact (world3 _ _ _ _).symm⟩

set_option maxRecDepth 100000 in
set_option maxHeartbeats 4000000 in
theorem voteOf2_any (x y : CdS) (w : World) :
    Calls Tryz.prog 90 #[.agg (encS x).toArray, .agg (encS y).toArray] w fun e w' => e = .returned (.int .i64 (cfRS x y)) ∧ ∃ q os', w' = grow (w.drewN q) os' := by
  obtain ⟨⟨k1, t1, X1, Y1, W1, n1⟩, h1⟩ := x
  obtain ⟨⟨k2, t2, X2, Y2, W2, n2⟩, h2⟩ := y
  have HV := Lib.hid (cfR_first ⟨k1, t1, X1, Y1, W1, n1⟩ ⟨k2, t2, X2, Y2, W2, n2⟩)
  show Calls Tryz.prog 90 #[.agg #[.int .i64 k1, .string ⟨t1.toArray⟩, .int .i64 X1, .int .i64 Y1, .int .i64 W1, .int .i64 n1], .agg #[.int .i64 k2, .string ⟨t2.toArray⟩, .int .i64 X2, .int .i64 Y2, .int .i64 W2, .int .i64 n2]] w fun e w' => e = .returned (.int .i64 (cfR ⟨k1, t1, X1, Y1, W1, n1⟩ ⟨k2, t2, X2, Y2, W2, n2⟩)) ∧ ∃ q os', w' = grow (w.drewN q) os'
  obtain ⟨hk1, hX1, hX1', hY1, hY1'⟩ : (1 ≤ k1 ∧ k1 ≤ 2) ∧ 0 ≤ X1 ∧ X1 ≤ 4000 ∧ 0 ≤ Y1 ∧ Y1 ≤ 4000 := ⟨by have : k1 = 1 ∨ k1 = 2 := h1.1; omega, h1.2.1, h1.2.2.1, h1.2.2.2.1, h1.2.2.2.2⟩
  obtain ⟨hk2, hX2, hX2', hY2, hY2'⟩ : (1 ≤ k2 ∧ k2 ≤ 2) ∧ 0 ≤ X2 ∧ X2 ≤ 4000 ∧ 0 ≤ Y2 ∧ Y2 ≤ 4000 := ⟨by have : k2 = 1 ∨ k2 = 2 := h2.1; omega, h2.2.1, h2.2.2.1, h2.2.2.2.1, h2.2.2.2.2⟩
  obtain ⟨hk1, hk1'⟩ := hk1
  obtain ⟨hk2, hk2'⟩ := hk2
  have Hc : ∀ (W : World), Calls Tryz.prog 92 #[.string ⟨t1.toArray⟩, .string ⟨t2.toArray⟩] W fun e w' => e = .returned (.int .i64 (Lib.compareBytes t1 t2)) ∧ w' = W := fun W => Any.strings_Compare Tryz.lays106 ⟨t1.toArray⟩ ⟨t2.toArray⟩ W
  obtain ⟨r3, hr3⟩ : ∃ r, r = Lib.compareBytes t1 t2 := ⟨_, rfl⟩
  rw [← hr3] at Hc
  have C3 := Lib.hid Hc
  have HV2 := Lib.hid (show cfR ⟨k1, t1, X1, Y1, W1, n1⟩ ⟨k2, t2, X2, Y2, W2, n2⟩ = firstNZ [Y1 - Y2, X1 - X2, r3, k1 - k2] by rw [HV.out, hr3])
  clear HV Hc hr3 h1 h2
  go_enter Tryz.func90, Tryz.ntmps90
  go_upto_region 1 with fail
  have b1 := (Blk.new w 39 #[.int .i64 k1, .string ⟨t1.toArray⟩, .int .i64 X1, .int .i64 Y1, .int .i64 W1, .int .i64 n1]).alloc (.cells #[.int .i64 k2, .string ⟨t2.toArray⟩, .int .i64 X2, .int .i64 Y2, .int .i64 W2, .int .i64 n2] 39)
  have b2 := Blk.new (w.alloc (.cells #[.int .i64 k1, .string ⟨t1.toArray⟩, .int .i64 X1, .int .i64 Y1, .int .i64 W1, .int .i64 n1] 39)) 39 #[.int .i64 k2, .string ⟨t2.toArray⟩, .int .i64 X2, .int .i64 Y2, .int .i64 W2, .int .i64 n2]
  obtain ⟨w1, hw1⟩ : ∃ x, x = (w.alloc (.cells #[.int .i64 k1, .string ⟨t1.toArray⟩, .int .i64 X1, .int .i64 Y1, .int .i64 W1, .int .i64 n1] 39)).alloc (.cells #[.int .i64 k2, .string ⟨t2.toArray⟩, .int .i64 X2, .int .i64 Y2, .int .i64 W2, .int .i64 n2] 39) := ⟨_, rfl⟩
  obtain ⟨o1, ho1⟩ : ∃ x, x = w.heap.size := ⟨_, rfl⟩
  obtain ⟨o2, ho2⟩ : ∃ x, x = (w.alloc (.cells #[.int .i64 k1, .string ⟨t1.toArray⟩, .int .i64 X1, .int .i64 Y1, .int .i64 W1, .int .i64 n1] 39)).heap.size := ⟨_, rfl⟩
  have ho2' : o2 = o1 + 1 := by rw [ho2, ho1]; simp
  rw [← hw1] at b1 b2
  rw [← ho1] at b1
  rw [← ho2] at b2
  try rw [← hw1, ← ho1]
  have HW1 := Lib.hid hw1
  rw [ho2'] at b2
  clear hw1 ho1 ho2 ho2'
  have kA := b1.all6'
  have kB := b2.all6'
  clear b1 b2
  refine wp_region_flow [(true, 0), (true, 1), (true, 2), (true, 3), (true, 4), (true, 5), (true, 6), (true, 7), (true, 8), (true, 9), (true, 10), (true, 11), (true, 12), (true, 13), (true, 15), (true, 16), (true, 17), (true, 18), (true, 19), (false, 14), (false, 20), (false, 21), (true, 22)] (fun _ => false) (by kernel_rfl) (by kernel_rfl) (by kernel_rfl) (by kernel_rfl) ?_
  iterate 1
    apply Flow.calm2 _ _ rfl rfl
    · intro w' hb' K' hK'
      obtain ⟨hc', hf'⟩ := hb'.rule
      go_simp
      try go_ints
      exact hK'
    · intro K' hK'
      simp only [Act.put, List.setIfInBounds_toArray, List.set_cons_zero, List.set_cons_succ]
      exact hK'
  iterate 1
    apply Flow.calm2 _ _ rfl rfl
    · intro w' hb' K' hK'
      obtain ⟨hc', hf'⟩ := hb'.rule
      go_simp
      try go_ints
      exact hK'
    · intro K' hK'
      simp only [Act.put, List.setIfInBounds_toArray, List.set_cons_zero, List.set_cons_succ]
      exact hK'
  iterate 1
    apply Flow.calm2 _ _ rfl rfl
    · intro w' hb' K' hK'
      obtain ⟨hc', hf'⟩ := hb'.rule
      go_simp
      try go_ints
      exact hK'
    · intro K' hK'
      simp only [Act.put, List.setIfInBounds_toArray, List.set_cons_zero, List.set_cons_succ]
      exact hK'
  iterate 1
    apply Flow.calm2 _ _ rfl rfl
    · intro w' hb' K' hK'
      obtain ⟨hc', hf'⟩ := hb'.rule
      go_simp
      try go_ints
      exact hK'
    · intro K' hK'
      simp only [Act.put, List.setIfInBounds_toArray, List.set_cons_zero, List.set_cons_succ]
      exact hK'
  iterate 1
    apply Flow.calm2 _ _ rfl rfl
    · intro w' hb' K' hK'
      obtain ⟨hc', hf'⟩ := hb'.rule
      go_simp
      try go_ints
      exact hK'
    · intro K' hK'
      simp only [Act.put, List.setIfInBounds_toArray, List.set_cons_zero, List.set_cons_succ]
      exact hK'
  iterate 1
    apply Flow.calm2 _ _ rfl rfl
    · intro w' hb' K' hK'
      obtain ⟨hc', hf'⟩ := hb'.rule
      go_simp
      try go_ints
      exact hK'
    · intro K' hK'
      simp only [Act.put, List.setIfInBounds_toArray, List.set_cons_zero, List.set_cons_succ]
      exact hK'
  iterate 1
    apply Flow.calm2 _ _ rfl rfl
    · intro w' hb' K' hK'
      obtain ⟨hc', hf'⟩ := hb'.rule
      go_simp
      try go_ints
      exact hK'
    · intro K' hK'
      simp only [Act.put, List.setIfInBounds_toArray, List.set_cons_zero, List.set_cons_succ]
      exact hK'
  iterate 1
    apply Flow.calm2 _ _ rfl rfl
    · intro w' hb' K' hK'
      obtain ⟨hc', hf'⟩ := hb'.rule
      go_simp
      try go_ints
      exact hK'
    · intro K' hK'
      simp only [Act.put, List.setIfInBounds_toArray, List.set_cons_zero, List.set_cons_succ]
      exact hK'
  iterate 1
    apply Flow.calm2 _ _ rfl rfl
    · intro w' hb' K' hK'
      obtain ⟨hc', hf'⟩ := hb'.rule
      go_simp
      try go_ints
      exact hK'
    · intro K' hK'
      simp only [Act.put, List.setIfInBounds_toArray, List.set_cons_zero, List.set_cons_succ]
      exact hK'
  iterate 1
    apply Flow.calm2 _ _ rfl rfl
    · intro w' hb' K' hK'
      obtain ⟨hc', hf'⟩ := hb'.rule
      go_simp
      try go_ints
      exact hK'
    · intro K' hK'
      simp only [Act.put, List.setIfInBounds_toArray, List.set_cons_zero, List.set_cons_succ]
      exact hK'
  iterate 1
    apply Flow.calm2 _ _ rfl rfl
    · intro w' hb' K' hK'
      obtain ⟨hc', hf'⟩ := hb'.rule
      go_simp
      try go_ints
      exact hK'
    · intro K' hK'
      simp only [Act.put, List.setIfInBounds_toArray, List.set_cons_zero, List.set_cons_succ]
      exact hK'
  iterate 1
    apply Flow.calm2 _ _ rfl rfl
    · intro w' hb' K' hK'
      obtain ⟨hc', hf'⟩ := hb'.rule
      go_simp
      try go_ints
      exact hK'
    · intro K' hK'
      simp only [Act.put, List.setIfInBounds_toArray, List.set_cons_zero, List.set_cons_succ]
      exact hK'
  iterate 1
    apply Flow.calm2 _ _ rfl rfl
    · intro w' hb' K' hK'
      obtain ⟨hc', hf'⟩ := hb'.rule
      go_simp
      try go_ints
      exact hK'
    · intro K' hK'
      simp only [Act.put, List.setIfInBounds_toArray, List.set_cons_zero, List.set_cons_succ]
      exact hK'
  iterate 1
    apply Flow.calm2 _ _ rfl rfl
    · intro w' hb' K' hK'
      obtain ⟨hc', hf'⟩ := hb'.rule
      go_simp
      try go_ints
      exact hK'
    · intro K' hK'
      simp only [Act.put, List.setIfInBounds_toArray, List.set_cons_zero, List.set_cons_succ]
      exact hK'
  iterate 1
    apply Flow.calm2 _ _ rfl rfl
    · intro w' hb' K' hK'
      obtain ⟨hc', hf'⟩ := hb'.rule
      go_simp
      try go_ints
      exact hK'
    · intro K' hK'
      simp only [Act.put, List.setIfInBounds_toArray, List.set_cons_zero, List.set_cons_succ]
      exact hK'
  iterate 1
    apply Flow.calm2 _ _ rfl rfl
    · intro w' hb' K' hK'
      obtain ⟨hc', hf'⟩ := hb'.rule
      go_simp
      try go_ints
      exact hK'
    · intro K' hK'
      simp only [Act.put, List.setIfInBounds_toArray, List.set_cons_zero, List.set_cons_succ]
      exact hK'
  iterate 1
    apply Flow.calm2 _ _ rfl rfl
    · intro w' hb' K' hK'
      obtain ⟨hc', hf'⟩ := hb'.rule
      go_simp
      try go_ints
      exact hK'
    · intro K' hK'
      simp only [Act.put, List.setIfInBounds_toArray, List.set_cons_zero, List.set_cons_succ]
      exact hK'
  iterate 1
    apply Flow.calm2 _ _ rfl rfl
    · intro w' hb' K' hK'
      obtain ⟨hc', hf'⟩ := hb'.rule
      go_simp
      try go_ints
      exact hK'
    · intro K' hK'
      simp only [Act.put, List.setIfInBounds_toArray, List.set_cons_zero, List.set_cons_succ]
      exact hK'
  iterate 1
    apply Flow.calm2 _ _ rfl rfl
    · intro w' hb' K' hK'
      obtain ⟨hc', hf'⟩ := hb'.rule
      go_simp
      try go_ints
      exact hK'
    · intro K' hK'
      simp only [Act.put, List.setIfInBounds_toArray, List.set_cons_zero, List.set_cons_succ]
      exact hK'
  apply Flow.move rfl
  go_wp2_with fail
  refine (C3.out _).mono ?_
  rintro e w' ⟨rfl, rfl⟩
  go_wp2_with fail
  refine ⟨fun _ => (by first | exact HB1 | exact Bl.refl _), ?_⟩
  apply Flow.move rfl
  go_wp2_with fail
  first | refine ⟨fun _ => ?_, ?_⟩ | refine ⟨?_, ?_⟩
  · repeat' (first | exact Bl.refl _ | refine Bl.drewL ?_ | refine Bl.drew ?_ | refine Bl.alloc ?_ _)
  apply Flow.move rfl
  go_wp2_with fail
  refine (cmpOr_any _ _ [Y1 - Y2, X1 - X2, r3, k1 - k2] _ (Reads.lit (Blk.new _ _ _).drew rfl) (by simp)).mono ?_
  rintro e w' ⟨rfl, rfl⟩
  go_wp2_with fail
  refine ⟨fun _ => (by first | exact HB3 | exact Bl.refl _), ?_⟩
  iterate 1
    apply Flow.asg _ rfl
    · intro K' hK'
      simp only [Act.put, Act.eval, List.setIfInBounds_toArray, List.set_cons_zero, List.set_cons_succ, arr_getD, List.getD_cons_zero, List.getD_cons_succ]
      exact hK'
  refine Flow.done ?_
  go_wp2_with fail
  go_ret
  exact ⟨ret_int HV2.out.symm, 1, #[_, _, _], by rw [HW1.out]; exact (world3 _ _ _ _).symm⟩

end Go.Proofs.YtkipcobpnecmhaaGreatDoor
