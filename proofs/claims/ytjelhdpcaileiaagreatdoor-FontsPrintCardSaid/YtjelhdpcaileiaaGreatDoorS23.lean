/- bedref2.Number. -/
import Derived.Test.YtjelhdpcaileiaaGreatDoorS6
import Derived.Test.YtjelhdpcaileiaaGreatDoorS8
import Derived.WalkKit
import Derived.Lib.AppendIntMem
import Derived.Lib.AtoiTie
import Derived.Lib.AtoiAllCases
import Derived.Shelf.Strconv.ErrVarAll
import Derived.Shelf.Strconv.Itoa3
import Derived.Shelf.Small.Wraps
import Derived.Shelf.LaySoft
import Derived.Ground.NamesProg

namespace Go.Proofs
open Go.Shelf
def Tryz.lays171_ren : Go.Shelf.Ren := ⟨fun | 171 => 69 | 243 => 151 | 246 => 234 | 283 => 302 | 284 => 303 | 285 => 304 | 286 => 305 | 129 => 297 | 317 => 353 | 318 => 354 | 319 => 355 | 320 => 356 | 337 => 374 | 338 => 375 | n => n, fun | 3 => 3 | 9 => 9 | 2 => 2 | 4 => 4 | 171 => 339 | 0 => 0 | 53 => 270 | 37 => 40 | 5 => 5 | 173 => 341 | 212 => 398 | 51 => 267 | 20 => 20 | 213 => 399 | 46 => 41 | 232 => 432 | 233 => 433 | n => n, fun | 17 => 5 | 18 => 8 | 19 => 9 | n => n⟩
theorem Tryz.lays171 : Go.Proofs.LaysM.n171 Tryz.prog Tryz.lays171_ren := {
  mixed := by kernel_rfl
  f129 := Tryz.func297.trans (congrArg some (by kernel_rfl))
  f171 := Tryz.func69.trans (congrArg some (by kernel_rfl))
  f243 := Tryz.func151.trans (congrArg some (by kernel_rfl))
  f246 := Tryz.func234.trans (congrArg some (by kernel_rfl))
  f283 := Tryz.func302.trans (congrArg some (by kernel_rfl))
  f284 := Tryz.func303.trans (congrArg some (by kernel_rfl))
  f285 := Tryz.func304.trans (congrArg some (by kernel_rfl))
  f286 := Tryz.func305.trans (congrArg some (by kernel_rfl))
  f317 := Tryz.func353.trans (congrArg some (by kernel_rfl))
  f318 := Tryz.func354.trans (congrArg some (by kernel_rfl))
  f319 := Tryz.func355.trans (congrArg some (by kernel_rfl))
  f320 := Tryz.func356.trans (congrArg some (by kernel_rfl))
  f337 := Tryz.func374.trans (congrArg some (by kernel_rfl))
  f338 := Tryz.func375.trans (congrArg some (by kernel_rfl))
  t0 := Tryz.underlying0
  a0 := Tryz.isAgg0
  z0 := Tryz.sizeOf0
  v0 := Tryz.zeroValue0
  t2 := Tryz.underlying2
  a2 := Tryz.isAgg2
  z2 := Tryz.sizeOf2
  v2 := Tryz.zeroValue2
  t3 := Tryz.underlying3
  a3 := Tryz.isAgg3
  z3 := Tryz.sizeOf3
  v3 := Tryz.zeroValue3
  t4 := Tryz.underlying4
  a4 := Tryz.isAgg4
  z4 := Tryz.sizeOf4
  v4 := Tryz.zeroValue4
  t5 := Tryz.underlying5
  a5 := Tryz.isAgg5
  z5 := Tryz.sizeOf5
  v5 := Tryz.zeroValue5
  t9 := Tryz.underlying9
  a9 := Tryz.isAgg9
  z9 := Tryz.sizeOf9
  v9 := Tryz.zeroValue9
  t20 := Tryz.underlying20
  a20 := Tryz.isAgg20
  z20 := Tryz.sizeOf20
  v20 := Tryz.zeroValue20
  t37 := Tryz.underlying40
  a37 := Tryz.isAgg40
  z37 := Tryz.sizeOf40
  v37 := Tryz.zeroValue40
  t46 := Tryz.underlying41
  a46 := Tryz.isAgg41
  z46 := Tryz.sizeOf41
  v46 := Tryz.zeroValue41
  t51 := Tryz.underlying267
  a51 := Tryz.isAgg267
  z51 := Tryz.sizeOf267
  v51 := Tryz.zeroValue267
  t53 := Tryz.underlying270
  a53 := Tryz.isAgg270
  z53 := Tryz.sizeOf270
  v53 := Tryz.zeroValue270
  t171 := Tryz.underlying339
  a171 := Tryz.isAgg339
  z171 := Tryz.sizeOf339
  v171 := Tryz.zeroValue339
  t173 := Tryz.underlying341
  a173 := Tryz.isAgg341
  z173 := Tryz.sizeOf341
  v173 := Tryz.zeroValue341
  t212 := Tryz.underlying398
  a212 := Tryz.isAgg398
  z212 := Tryz.sizeOf398
  v212 := Tryz.zeroValue398
  t213 := Tryz.underlying399
  a213 := Tryz.isAgg399
  z213 := Tryz.sizeOf399
  t232 := Tryz.underlying432
  a232 := Tryz.isAgg432
  z232 := Tryz.sizeOf432
  v232 := Tryz.zeroValue432
  t233 := Tryz.underlying433
  a233 := Tryz.isAgg433
  z233 := Tryz.sizeOf433
  v233 := Tryz.zeroValue433
  g17 := by kernel_rfl
  g18 := by kernel_rfl
  g19 := by kernel_rfl
  i0 := by kernel_rfl
  i2 := by kernel_rfl
  i3 := by kernel_rfl
  i4 := by kernel_rfl
  i5 := by kernel_rfl
  i9 := by kernel_rfl
  i20 := by kernel_rfl
  i37 := by kernel_rfl
  i46 := by kernel_rfl
  i51 := by kernel_rfl
  i53 := by kernel_rfl
  i171 := by kernel_rfl
  i173 := by kernel_rfl
  i212 := by kernel_rfl
  i232 := by kernel_rfl
  i233 := by kernel_rfl
  m17 := by kernel_rfl
  m18 := by kernel_rfl
  m19 := by kernel_rfl }

def Tryz.lays172_ren : Go.Shelf.Ren := ⟨fun | 172 => 189 | 244 => 251 | 245 => 252 | 247 => 308 | 279 => 309 | 280 => 310 | 281 => 311 | 282 => 312 | 287 => 357 | 316 => 358 | 171 => 69 | 205 => 359 | 321 => 376 | 322 => 377 | 243 => 151 | 246 => 234 | 283 => 302 | 284 => 303 | 285 => 304 | 286 => 305 | 129 => 297 | 317 => 353 | 318 => 354 | 319 => 355 | 320 => 356 | 337 => 374 | 338 => 375 | n => n, fun | 9 => 9 | 3 => 3 | 75 => 117 | 76 => 118 | 4 => 4 | 5 => 5 | 167 => 345 | 37 => 40 | 0 => 0 | 85 => 346 | 2 => 2 | 168 => 348 | 53 => 270 | 175 => 400 | 46 => 41 | 210 => 403 | 127 => 218 | 145 => 425 | 143 => 423 | 21 => 21 | 171 => 339 | 173 => 341 | 212 => 398 | 51 => 267 | 20 => 20 | 213 => 399 | 232 => 432 | 233 => 433 | 80 => 125 | n => n, fun | 15 => 6 | 16 => 7 | 17 => 5 | 18 => 8 | 19 => 9 | n => n⟩
theorem Tryz.lays172 : Go.Proofs.LaysC.n172 Tryz.prog Tryz.lays172_ren := {
  mixed := by kernel_rfl
  f129 := Tryz.func297.trans (congrArg some (by kernel_rfl))
  f171 := Tryz.func69.trans (congrArg some (by kernel_rfl))
  f172 := Tryz.func189.trans (congrArg some (by kernel_rfl))
  f205 := Tryz.func359.trans (congrArg some (by kernel_rfl))
  f243 := Tryz.func151.trans (congrArg some (by kernel_rfl))
  f244 := Tryz.func251.trans (congrArg some (by kernel_rfl))
  f245 := Tryz.func252.trans (congrArg some (by kernel_rfl))
  f246 := Tryz.func234.trans (congrArg some (by kernel_rfl))
  f247 := Tryz.func308.trans (congrArg some (by kernel_rfl))
  f279 := Tryz.func309.trans (congrArg some (by kernel_rfl))
  f280 := Tryz.func310.trans (congrArg some (by kernel_rfl))
  f281 := Tryz.func311.trans (congrArg some (by kernel_rfl))
  f282 := Tryz.func312.trans (congrArg some (by kernel_rfl))
  f283 := Tryz.func302.trans (congrArg some (by kernel_rfl))
  f284 := Tryz.func303.trans (congrArg some (by kernel_rfl))
  f285 := Tryz.func304.trans (congrArg some (by kernel_rfl))
  f286 := Tryz.func305.trans (congrArg some (by kernel_rfl))
  f287 := Tryz.func357.trans (congrArg some (by kernel_rfl))
  f316 := Tryz.func358.trans (congrArg some (by kernel_rfl))
  f317 := Tryz.func353.trans (congrArg some (by kernel_rfl))
  f318 := Tryz.func354.trans (congrArg some (by kernel_rfl))
  f319 := Tryz.func355.trans (congrArg some (by kernel_rfl))
  f320 := Tryz.func356.trans (congrArg some (by kernel_rfl))
  f321 := Tryz.func376.trans (congrArg some (by kernel_rfl))
  f322 := Tryz.func377.trans (congrArg some (by kernel_rfl))
  f337 := Tryz.func374.trans (congrArg some (by kernel_rfl))
  f338 := Tryz.func375.trans (congrArg some (by kernel_rfl))
  t0 := Tryz.underlying0
  a0 := Tryz.isAgg0
  z0 := Tryz.sizeOf0
  v0 := Tryz.zeroValue0
  t2 := Tryz.underlying2
  a2 := Tryz.isAgg2
  z2 := Tryz.sizeOf2
  v2 := Tryz.zeroValue2
  t3 := Tryz.underlying3
  a3 := Tryz.isAgg3
  z3 := Tryz.sizeOf3
  v3 := Tryz.zeroValue3
  t4 := Tryz.underlying4
  a4 := Tryz.isAgg4
  z4 := Tryz.sizeOf4
  v4 := Tryz.zeroValue4
  t5 := Tryz.underlying5
  a5 := Tryz.isAgg5
  z5 := Tryz.sizeOf5
  v5 := Tryz.zeroValue5
  t9 := Tryz.underlying9
  a9 := Tryz.isAgg9
  z9 := Tryz.sizeOf9
  v9 := Tryz.zeroValue9
  t20 := Tryz.underlying20
  a20 := Tryz.isAgg20
  z20 := Tryz.sizeOf20
  v20 := Tryz.zeroValue20
  t21 := Tryz.underlying21
  a21 := Tryz.isAgg21
  z21 := Tryz.sizeOf21
  v21 := Tryz.zeroValue21
  t37 := Tryz.underlying40
  a37 := Tryz.isAgg40
  z37 := Tryz.sizeOf40
  v37 := Tryz.zeroValue40
  t46 := Tryz.underlying41
  a46 := Tryz.isAgg41
  z46 := Tryz.sizeOf41
  v46 := Tryz.zeroValue41
  t51 := Tryz.underlying267
  a51 := Tryz.isAgg267
  z51 := Tryz.sizeOf267
  v51 := Tryz.zeroValue267
  t53 := Tryz.underlying270
  a53 := Tryz.isAgg270
  z53 := Tryz.sizeOf270
  v53 := Tryz.zeroValue270
  t75 := Tryz.underlying117
  a75 := Tryz.isAgg117
  z75 := Tryz.sizeOf117
  v75 := Tryz.zeroValue117
  t76 := Tryz.underlying118
  a76 := Tryz.isAgg118
  z76 := Tryz.sizeOf118
  v76 := Tryz.zeroValue118
  t85 := Tryz.underlying346
  a85 := Tryz.isAgg346
  z85 := Tryz.sizeOf346
  v85 := Tryz.zeroValue346
  t127 := Tryz.underlying218
  a127 := Tryz.isAgg218
  z127 := Tryz.sizeOf218
  v127 := Tryz.zeroValue218
  t143 := Tryz.underlying423
  a143 := Tryz.isAgg423
  z143 := Tryz.sizeOf423
  v143 := Tryz.zeroValue423
  t145 := Tryz.underlying425
  a145 := Tryz.isAgg425
  z145 := Tryz.sizeOf425
  v145 := Tryz.zeroValue425
  t167 := Tryz.underlying345
  a167 := Tryz.isAgg345
  z167 := Tryz.sizeOf345
  v167 := Tryz.zeroValue345
  t168 := Tryz.underlying348
  a168 := Tryz.isAgg348
  z168 := Tryz.sizeOf348
  v168 := Tryz.zeroValue348
  t171 := Tryz.underlying339
  a171 := Tryz.isAgg339
  z171 := Tryz.sizeOf339
  v171 := Tryz.zeroValue339
  t173 := Tryz.underlying341
  a173 := Tryz.isAgg341
  z173 := Tryz.sizeOf341
  v173 := Tryz.zeroValue341
  t175 := Tryz.underlying400
  a175 := Tryz.isAgg400
  z175 := Tryz.sizeOf400
  v175 := Tryz.zeroValue400
  t210 := Tryz.underlying403
  a210 := Tryz.isAgg403
  z210 := Tryz.sizeOf403
  v210 := Tryz.zeroValue403
  t212 := Tryz.underlying398
  a212 := Tryz.isAgg398
  z212 := Tryz.sizeOf398
  v212 := Tryz.zeroValue398
  t213 := Tryz.underlying399
  a213 := Tryz.isAgg399
  z213 := Tryz.sizeOf399
  t232 := Tryz.underlying432
  a232 := Tryz.isAgg432
  z232 := Tryz.sizeOf432
  v232 := Tryz.zeroValue432
  t233 := Tryz.underlying433
  a233 := Tryz.isAgg433
  z233 := Tryz.sizeOf433
  v233 := Tryz.zeroValue433
  g15 := by kernel_rfl
  g16 := by kernel_rfl
  g17 := by kernel_rfl
  g18 := by kernel_rfl
  g19 := by kernel_rfl
  t80 := Tryz.underlying125
  a80 := Tryz.isAgg125
  z80 := Tryz.sizeOf125
  v80 := Tryz.zeroValue125
  i0 := by kernel_rfl
  i2 := by kernel_rfl
  i3 := by kernel_rfl
  i4 := by kernel_rfl
  i5 := by kernel_rfl
  i9 := by kernel_rfl
  i20 := by kernel_rfl
  i21 := by kernel_rfl
  i37 := by kernel_rfl
  i46 := by kernel_rfl
  i51 := by kernel_rfl
  i53 := by kernel_rfl
  i75 := by kernel_rfl
  i76 := by kernel_rfl
  i80 := by kernel_rfl
  i85 := by kernel_rfl
  i127 := by kernel_rfl
  i143 := by kernel_rfl
  i145 := by kernel_rfl
  i167 := by kernel_rfl
  i168 := by kernel_rfl
  i171 := by kernel_rfl
  i173 := by kernel_rfl
  i175 := by kernel_rfl
  i210 := by kernel_rfl
  i212 := by kernel_rfl
  i232 := by kernel_rfl
  i233 := by kernel_rfl
  m15 := by kernel_rfl
  m16 := by kernel_rfl
  m17 := by kernel_rfl
  m18 := by kernel_rfl
  m19 := by kernel_rfl
  c0 := by kernel_rfl
  c2 := by kernel_rfl
  c3 := by kernel_rfl
  c4 := by kernel_rfl
  c5 := by kernel_rfl
  c9 := by kernel_rfl
  c20 := by kernel_rfl
  c21 := by kernel_rfl
  c37 := by kernel_rfl
  c46 := by kernel_rfl
  c51 := by kernel_rfl
  c53 := by kernel_rfl
  c75 := by kernel_rfl
  c76 := by kernel_rfl
  c80 := by kernel_rfl
  c85 := by kernel_rfl
  c127 := by kernel_rfl
  c143 := by kernel_rfl
  c145 := by kernel_rfl
  c167 := by kernel_rfl
  c168 := by kernel_rfl
  c171 := by kernel_rfl
  c173 := by kernel_rfl
  c175 := by kernel_rfl
  c210 := by kernel_rfl
  c212 := by kernel_rfl
  c213 := by kernel_rfl
  c232 := by kernel_rfl
  c233 := by kernel_rfl }

end Go.Proofs
namespace Go.Proofs.YtjelhdpcaileiaaGreatDoor
open Go.RowKit Go.Shelf

theorem var_bl {P : Program} {n : String} {cs : Array Value} {w w' : World} (h : w.var? P n = some cs) (hb : Bl w w') : w'.var? P n = some cs := by
  unfold World.var? at h ⊢
  cases hg : P.globalNamed n with
  | none => rw [hg] at h; cases h
  | some g =>
    rw [hg] at h
    have hlt : g < w.heap.size := by
      rcases Nat.lt_or_ge g w.heap.size with hl | hl
      · exact hl
      · have h' : (match w.heap[g]? with | some (.cells cs _ _) => some cs | _ => none) = some cs := h
        rw [Array.getElem?_eq_none hl] at h'
        cases h'
    have he : w'.heap[g]? = w.heap[g]? := hb.block g hlt
    show (match w'.heap[g]? with | some (.cells cs _ _) => some cs | _ => none) = some cs
    rw [he]
    exact h
/-- The library's variables that reading and writing numbers asks. -/
structure NumOk (w : World) : Prop where
  syn : ∃ t p, w.var? Tryz.prog "strconv.ErrSyntax" = some #[.iface t p]
  ran : ∃ t p, w.var? Tryz.prog "strconv.ErrRange" = some #[.iface t p]
  tab : Lib.TabIs Tryz.prog w "internal/strconv.uint64pow10" .u64 Lib.pow10Tab
theorem NumOk.bl {w w' : World} (h : NumOk w) (hb : Bl w w') : NumOk w' :=
  ⟨let ⟨t, p, e⟩ := h.syn; ⟨t, p, var_bl e hb⟩, let ⟨t, p, e⟩ := h.ran; ⟨t, p, var_bl e hb⟩, var_bl h.tab hb⟩
theorem itoa_any (v : Int) (h0 : -9223372036854775808 ≤ v) (h1 : v ≤ 9223372036854775807) (w : World) (hN : NumOk w) :
    Calls Tryz.prog 69 #[.int .i64 v] w fun e w' => e = .returned (.string ⟨(Lib.itoa v).toArray⟩) ∧ Bl w w' := by
  refine Calls.mono (R := fun e w' => e = .returned (.string ⟨(Lib.itoa v).toArray⟩) ∧ ∃ k os, w' = _) (Any.strconv_Itoa Tryz.lays171 v h0 h1 w hN.tab) ?_
  rintro e w' ⟨rfl, k, os, rfl⟩
  exact ⟨rfl, Lib.below_grow _ w (Nat.le_refl _) k os⟩
theorem atoi_ok (s : ByteArray) (hs : s.size ≤ 281474976710656) (v : Int) (h : Lib.atoiAll s.data.toList = .ok v) (w : World) :
    Calls Tryz.prog 189 #[.string s] w fun e w' => e = .returned (.tuple #[.int .i64 v, .nilIface]) ∧ Bl w w' := by
  refine Calls.mono (R := fun e w' => e = .returned (.tuple #[.int .i64 v, .nilIface]) ∧ (w' = w ∨ ∃ t, w' = Lib.bytesWorld w _ t)) (Any.strconv_Atoi_ok Tryz.lays172 s (by omega) v h w) ?_
  rintro e w' ⟨rfl, rfl | ⟨t, rfl⟩⟩
  · exact ⟨rfl, Bl.refl _⟩
  · exact ⟨rfl, Lib.bytesWorld_below _ _ _⟩
theorem atoi_bad (s : ByteArray) (hs : s.size ≤ 281474976710656) (h : ∀ v, Lib.atoiAll s.data.toList ≠ .ok v) (w : World) (hN : NumOk w) :
    Calls Tryz.prog 189 #[.string s] w fun e w' => ∃ (v : Int) (T : TypeId) (N : Nat), e = .returned (.tuple #[.int .i64 v, .iface T (.pointer (some ⟨N, 0, none⟩))]) ∧ Bl w w' := by
  rcases ha : Lib.atoiAll s.data.toList with v | _ | _
  · exact absurd ha (h v)
  · obtain ⟨t, p, hv⟩ := hN.syn
    refine Calls.mono (Any.strconv_Atoi_syntax_var Tryz.lays172 s hs ha t p w hv) ?_
    rintro e w' ⟨N, he, -, -, hb⟩
    exact ⟨_, _, N, he, hb⟩
  · obtain ⟨t, p, hv⟩ := hN.ran
    refine Calls.mono (Any.strconv_Atoi_range_var Tryz.lays172 s hs ha t p w hv) ?_
    rintro e w' ⟨N, he, -, -, hb⟩
    exact ⟨_, _, N, he, hb⟩
theorem numP_long {s : ByteArray} (h : ¬ s.size ≤ 4) : numP s.data.toList = none := by
  have hl := Lib.size_eq s
  unfold numP
  split
  · rw [if_neg (by omega)]
  · rfl
theorem atoi_all {s : ByteArray} (h : s.size ≤ 4) : Lib.atoiAll s.data.toList = Lib.NumEnd.ofOption (Lib.atoi s.data.toList) := Lib.atoiAll_short _ (by have hl := Lib.size_eq s; omega)
theorem num_at {s r : ByteArray} {v : Int} (hv : Lib.atoiAll s.data.toList = .ok v) (h4 : s.size ≤ 4) (hr : r = ⟨(Lib.itoa v).toArray⟩) : (numP s.data.toList).isSome = ((r.toList == s.toList) && decide (0 < v)) ∧ ∀ n : Nat, numP s.data.toList = some n → v = n := by
  have h := atoi_all h4
  rw [hv] at h
  have hl := Lib.size_eq s
  have ha : Lib.atoi s.data.toList = some v := by
    cases ha : Lib.atoi s.data.toList with
    | none => rw [ha] at h; cases h
    | some x => rw [ha] at h; exact congrArg some (Lib.NumEnd.ok.inj h).symm
  have hb : (r.toList == s.toList) = decide (Lib.itoa v = s.data.toList) := by
    rw [Lib.toList_data, Lib.toList_data, hr, Bool.eq_iff_iff, beq_iff_eq, decide_eq_true_eq]
  unfold numP
  rw [ha, hb]
  simp only
  by_cases c : Lib.itoa v = s.data.toList ∧ 0 < v
  · rw [if_pos ⟨by omega, c.1, c.2⟩, decide_eq_true c.1, decide_eq_true c.2]
    exact ⟨rfl, fun n hn => by have := Option.some.inj hn; omega⟩
  · rw [if_neg (fun x => c ⟨x.2.1, x.2.2⟩)]
    refine ⟨?_, fun n hn => by cases hn⟩
    rw [← Bool.decide_and, decide_eq_false c]
    rfl

end Go.Proofs.YtjelhdpcaileiaaGreatDoor


/-! bedref2.Number. -/
namespace Go.Proofs.YtjelhdpcaileiaaGreatDoor
open Go.RowKit Go.Shelf

def digCs : List UInt8 := [48, 49, 50, 51, 52, 53, 54, 55, 56, 57]
theorem digCs_has (b : UInt8) : digCs.contains b = isDg b := by
  have hb : b = UInt8.ofNat b.toNat := by simp
  rw [hb]
  have hlt : b.toNat < 256 := b.toNat_lt
  generalize b.toNat = n at hlt
  have : n ∈ List.range 256 := List.mem_range.2 hlt
  revert n
  decide +kernel
theorem trimDig_empty (s r : ByteArray) (hr : r = ⟨(Lib.trimS s.data.toList digCs).toArray⟩) : r.toList.isEmpty = s.data.toList.all isDg := by
  rw [Lib.toList_data, hr, Bool.eq_iff_iff, List.isEmpty_iff]
  show Lib.trimS s.data.toList digCs = [] ↔ _
  rw [trimS_nil_iff, List.all_eq_true]
  constructor
  · intro h b hb; rw [← digCs_has]; exact h b hb
  · intro h b hb; rw [digCs_has]; exact h b hb
theorem numR_not {s : List UInt8} (h : plainN s = false) : numR s = none := by
  unfold numR
  rw [if_neg (by rw [h]; decide)]
theorem numR_at {s : List UInt8} {v : Int} (h : plainN s = true) (ha : Lib.atoi s = some v) : (true && decide (0 < v)) = (numR s).isSome ∧ ∀ n : Nat, numR s = some n → v = n := by
  unfold numR
  rw [if_pos h, ha]
  simp only
  by_cases c : 0 < v
  · rw [if_pos c, decide_eq_true c]
    exact ⟨rfl, fun n hn => by have := Option.some.inj hn; omega⟩
  · rw [if_neg c, decide_eq_false c]
    exact ⟨rfl, fun n hn => by cases hn⟩
theorem numR_bad {s : List UInt8} (ha : ∀ v, Lib.atoi s ≠ some v) : numR s = none := by
  unfold numR
  cases h : Lib.atoi s with
  | none => split <;> rfl
  | some v => exact absurd h (ha v)
theorem plain_of {s : ByteArray} (h0 : 0 < s.size) (h4 : s.size ≤ 4) (ha : s.data.toList.all isDg = true) : plainN s.data.toList = !(decide (1 < s.size) && ((s[0].toNat : Int) == 48)) := by
  have hl := Lib.size_eq s
  have hd := head_of h0
  unfold plainN
  rw [ha, List.getD_eq_getElem?_getD, hd]
  have he : s.data.toList.isEmpty = false := by
    cases e : s.data.toList with
    | nil => rw [e, List.length_nil] at hl; omega
    | cons _ _ => rfl
  rw [he, decide_eq_true (show s.data.toList.length ≤ 4 by omega), ← hl]
  have : (s[0] == 48) = ((s[0].toNat : Int) == 48) := by
    rw [Bool.eq_iff_iff, beq_iff_eq, beq_iff_eq]
    constructor
    · intro h; rw [h]; rfl
    · intro h; apply UInt8.toNat_inj.1; show s[0].toNat = 48; omega
  show (!false && (true && (true && !(decide (1 < s.size) && (s[0] == 48))))) = _
  rw [this]
  simp
theorem plain_no {s : ByteArray} (h : ¬ (0 < s.size ∧ s.size ≤ 4 ∧ s.data.toList.all isDg = true)) : plainN s.data.toList = false := by
  have hl := Lib.size_eq s
  cases e : plainN s.data.toList with
  | false => rfl
  | true =>
    unfold plainN at e
    simp only [Bool.and_eq_true, Bool.not_eq_true', decide_eq_true_eq] at e
    obtain ⟨e1, e2, e3, -⟩ := e
    refine absurd ⟨?_, by omega, e3⟩ h
    rcases Nat.eq_zero_or_pos s.size with hz | hz
    · rw [List.eq_nil_of_length_eq_zero (show s.data.toList.length = 0 by omega)] at e1; cases e1
    · exact hz

def NumPost (s : ByteArray) (w : World) (e : Ending) (w' : World) : Prop := ∃ (v : Int) (b : Bool), e = .returned (.tuple #[.int .i64 v, .bool b]) ∧ (b && decide (0 < v)) = (numR s.data.toList).isSome ∧ (∀ n : Nat, numR s.data.toList = some n → v = n) ∧ Bl w w'
theorem numPost_no {s : ByteArray} {w w' : World} {v : Int} (h : numR s.data.toList = none) (hb : Bl w w') : NumPost s w (.returned (.tuple #[.int .i64 v, .bool false])) w' :=
  ⟨v, false, rfl, by rw [h]; rfl, (fun n hn => by rw [h] at hn; cases hn), hb⟩

set_option maxRecDepth 100000 in
set_option maxHeartbeats 1000000 in
theorem numberR_any (s : ByteArray) (w : World) (hs : s.size ≤ 281474976710656) (hN : NumOk w) :
    Calls Tryz.prog 110 #[.string s, .int .i64 4] w fun e w' => NumPost s w e w' := by
  have HN := Lib.hid hN
  clear hN
  by_cases h0 : 0 < s.size
  · have he := nonempty_of h0
    by_cases h4 : s.size ≤ 4
    · obtain ⟨r, hr⟩ : ∃ r : ByteArray, r = ⟨(Lib.trimS s.data.toList digCs).toArray⟩ := ⟨_, rfl⟩
      have hT : ∀ w, Calls Tryz.prog 59 #[.string s, .string ⟨digCs.toArray⟩] w fun e w' => e = .returned (.string r) ∧ Below w.heap.size w w' := by
        rw [hr]; exact fun w => Any.strings_Trim_laid Tryz.lays160 (by kernel_rfl) s ⟨digCs.toArray⟩ w (by omega) (by decide) (ascii_of_all (by decide))
      have hall := trimDig_empty s r hr
      clear hr
      cases hre : r.toList.isEmpty with
      | false =>
        rw [hre] at hall
        have HX := Lib.hid (numR_not (plain_no (s := s) (fun h => by rw [h.2.2] at hall; cases hall)))
        clear hall
        go_enter Tryz.func110, Tryz.ntmps110
        go_wp2_with (go_at_call 59; refine (hT _).mono ?_; rintro e w1 ⟨rfl, hb1⟩)
        go_ret2
        exact numPost_no HX.out hb1
      | true =>
        rw [hre] at hall
        have hpl := plain_of h0 h4 hall.symm
        clear hall
        have HB : Hid ((∀ v, Lib.atoiAll s.data.toList ≠ .ok v) → ∀ v, Lib.atoi s.data.toList ≠ some v) := Lib.hid (fun h v ha => by
          have := atoi_all h4
          rw [ha] at this
          exact h v this)
        have HG : Hid (∀ v, Lib.atoiAll s.data.toList = .ok v → Lib.atoi s.data.toList = some v) := Lib.hid (fun v h => by
          have ht := atoi_all h4
          rw [h] at ht
          cases ha : Lib.atoi s.data.toList with
          | none => rw [ha] at ht; cases ht
          | some x => rw [ha] at ht; exact congrArg some (Lib.NumEnd.ok.inj ht).symm)
        by_cases h1 : 1 < s.size
        · cases hz : ((s[0].toNat : Int) == 48) with
          | true =>
            have HX := Lib.hid (numR_not (show plainN s.data.toList = false by rw [hpl, hz, decide_eq_true h1]; rfl))
            clear hpl
            go_enter Tryz.func110, Tryz.ntmps110
            go_wp2_with (go_at_call 59; refine (hT _).mono ?_; rintro e w1 ⟨rfl, hb1⟩)
            go_ret2
            exact numPost_no HX.out hb1
          | false =>
            have HP := Lib.hid (show plainN s.data.toList = true by rw [hpl, hz, Bool.and_false]; rfl)
            clear hpl
            by_cases hok : ∃ v, Lib.atoiAll s.data.toList = .ok v
            · obtain ⟨v, hv⟩ := hok
              have hA := fun w => atoi_ok s hs v hv w
              have HX := Lib.hid (numR_at HP.out (HG.out v hv))
              clear hv
              go_enter Tryz.func110, Tryz.ntmps110
              go_wp2_with (go_at_call 59; refine (hT _).mono ?_; rintro e w1 ⟨rfl, hb1⟩)
              go_wp2_with (go_at_call 189; refine (hA _).mono ?_; rintro e w2 ⟨rfl, hb2⟩)
              go_region
              go_wp2_with fail
              go_ret2
              exact ⟨v, true, rfl, HX.out.1, HX.out.2, Bl.drew (Bl.trans hb1 hb2)⟩
            · have hbad : ∀ v, Lib.atoiAll s.data.toList ≠ .ok v := fun v h => hok ⟨v, h⟩
              have HA := Lib.hid (fun w hN => atoi_bad s hs hbad w hN)
              have HX := Lib.hid (numR_bad (HB.out hbad))
              clear hbad hok
              go_enter Tryz.func110, Tryz.ntmps110
              go_wp2_with (go_at_call 59; refine (hT _).mono ?_; rintro e w1 ⟨rfl, hb1⟩)
              go_wp2_with (go_at_call 189; refine (HA.out _ (HN.out.bl hb1)).mono ?_; rintro e w2 ⟨v, T, N, rfl, hb2⟩)
              go_region
              go_wp2_with fail
              go_ret2
              exact numPost_no HX.out (Bl.drew (Bl.trans hb1 hb2))
        · have HP := Lib.hid (show plainN s.data.toList = true by rw [hpl, decide_eq_false h1]; rfl)
          clear hpl
          by_cases hok : ∃ v, Lib.atoiAll s.data.toList = .ok v
          · obtain ⟨v, hv⟩ := hok
            have hA := fun w => atoi_ok s hs v hv w
            have HX := Lib.hid (numR_at HP.out (HG.out v hv))
            clear hv
            go_enter Tryz.func110, Tryz.ntmps110
            go_wp2_with (go_at_call 59; refine (hT _).mono ?_; rintro e w1 ⟨rfl, hb1⟩)
            go_wp2_with (go_at_call 189; refine (hA _).mono ?_; rintro e w2 ⟨rfl, hb2⟩)
            go_region
            go_wp2_with fail
            go_ret2
            exact ⟨v, true, rfl, HX.out.1, HX.out.2, Bl.drew (Bl.trans hb1 hb2)⟩
          · have hbad : ∀ v, Lib.atoiAll s.data.toList ≠ .ok v := fun v h => hok ⟨v, h⟩
            have HA := Lib.hid (fun w hN => atoi_bad s hs hbad w hN)
            have HX := Lib.hid (numR_bad (HB.out hbad))
            clear hbad hok
            go_enter Tryz.func110, Tryz.ntmps110
            go_wp2_with (go_at_call 59; refine (hT _).mono ?_; rintro e w1 ⟨rfl, hb1⟩)
            go_wp2_with (go_at_call 189; refine (HA.out _ (HN.out.bl hb1)).mono ?_; rintro e w2 ⟨v, T, N, rfl, hb2⟩)
            go_region
            go_wp2_with fail
            go_ret2
            exact numPost_no HX.out (Bl.drew (Bl.trans hb1 hb2))
    · have HX := Lib.hid (numR_not (plain_no (s := s) (fun h => h4 h.2.1)))
      go_enter Tryz.func110, Tryz.ntmps110
      go_wp2_with fail
      go_ret2
      exact numPost_no HX.out (Bl.refl _)
  · have he := empty_of (show s.size = 0 by omega)
    have HX := Lib.hid (numR_not (plain_no (s := s) (fun h => h0 h.1)))
    go_enter Tryz.func110, Tryz.ntmps110
    go_wp2_with fail
    go_ret2
    exact numPost_no HX.out (Bl.refl _)
end Go.Proofs.YtjelhdpcaileiaaGreatDoor
