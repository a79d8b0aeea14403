/- Parts of a proof: N1 AbMat U1 AbGrow AbUf U2 U3 N2 N3 N4 N5 N6 U4 U5 N7 N8 N9 U6 U7 U8 U9. Conditions: none. -/
import Derived.Test.YtcnndelmnobigaaM4
set_option linter.all false
namespace Go.Proofs.Ytcnndelmnobigaa
open Go Go.Ab Go.Proofs
set_option maxRecDepth 100000
set_option linter.unusedVariables false
set_option linter.unusedSimpArgs false
theorem flat1 {a : Value} (ha : isFlat a = true) : ((Value.agg #[a]).cells.toList.all isFlat) = true := by simp [Value.cells, ha]
theorem cell1 (a : Value) : (Value.agg #[a]).cells.toList = [a] := rfl
theorem callF_check (s : Value) (n : Nat) (Gl : List Int) (h : FH) (c : Nat) (hs : SlI h c s 20 n Gl) : callF G 70 [.agg #[s]] h c = some (.int .i64 (if n ≤ 1000 ∧ okAll Gl n = true then 0 else 7), h, c) := callF_of (check_sp s n Gl h c [] hs)
theorem types_sp (h : FH) (c : Nat) (df : List Nat) : G (.fn 60) [] h c df = some { e := .ret, vs := [av tyT], h := h, c := c, df := [] } := by
  refine pure_of' (fun r e => f60_go e) (by simp) ?_
  unfold f60_S
  have z1 : bldV [(.int .i64 0), (.int .i64 0), (.int .i64 0), (.int .i64 0), (.int .i64 0), (.int .i64 0), (.int .i64 0), (.int .i64 0), (.int .i64 0), (.int .i64 0), (.int .i64 0), (.int .i64 0), (.int .i64 0), (.int .i64 0), (.int .i64 0), (.int .i64 0)] [(0, 4, av [-1, 0, 1, 2]), (4, 4, av [0, -1, 2, 1]), (8, 4, av [1, 2, -1, 0]), (12, 4, av [2, 1, 0, -1])] = some (av tyT) := rfl
  have z2 : ∀ (H : FH) (b : Nat) (cs : List Value), cs.length = 16 → stN (newB H b cs) 16 (.pointer (some ⟨b, 0, none⟩)) (av tyT) = some (newB H b (ints tyT)) := fun H b cs hc => stN_all H b 16 cs tyT rfl hc
  have z3 : ∀ (H : FH) (b : Nat), ldN (newB H b (ints tyT)) 16 (.pointer (some ⟨b, 0, none⟩)) = some (av tyT) := fun H b => by rw [ldN_newB_same _ _ _ _ _ (by simp [tyT])]; rfl
  have fx := And.intro bld4 (And.intro z1 (And.intro z2 z3))
  refine Ans.go ?_
  clear fx
  (have fx := True.intro; exact Ans.pu)
theorem callF_types (h : FH) (c : Nat) : callF G 60 [] h c = some (av tyT, h, c) := callF_of (types_sp h c [])
theorem arcs_sp (s : Value) (n : Nat) (V : List Int) (t f i : Int) (h : FH) (c : Nat) (df : List Nat) (hs : SlI h c s 1 n V) (ht : 0 ≤ t) (htn : 7 * t + 7 ≤ n) (hn : n ≤ 1000000) (hf : 0 ≤ f) (hf4 : f < 4) (hi : 0 ≤ i) (hi4 : i < 4) (hne : i ≠ f)
    (hV : ∀ j : Nat, j < n → -1000000000000 ≤ gi V j ∧ gi V j ≤ 1000000000000) :
    G (.fn 50) [s, .int .i64 t, .int .i64 f, .int .i64 i] h c df = some { e := .ret, vs := [.int .i64 (arcV V t f i)], h := h, c := c, df := [] } := by
  refine pure_of' (fun r e => f50_go e) (by simp) ?_
  unfold f50_S arcV
  have hr := ty_range hi hi4 hf hf4 hne
  have k1 := hV (7 * t + i).toNat (by omega)
  have k2 := hV (7 * t + 4 + ty i f).toNat (by omega)
  have e1 : (((7 * t + i).toNat : Nat) : Int) = 7 * t + i := by omega
  have e2 : (((7 * t + 4 + ty i f).toNat : Nat) : Int) = 7 * t + 4 + ty i f := by omega
  rw [e1] at k1
  rw [e2] at k2
  have l1 := hs.rdi (7 * t + i) (by omega) (by omega)
  have l2 := hs.rdi (7 * t + 4 + ty i f) (by omega) (by omega)
  have x1 := ixV_avs tyT 4 4 .i64 i hi (by omega) rfl
  have hl4 : ((tyT.drop (i.toNat * 4)).take 4).length = 4 := by simp [tyT]; omega
  have x2 := ixV_av ((tyT.drop (i.toNat * 4)).take 4) 4 .i64 f hf (by omega) hl4
  rw [show ((tyT.drop (i.toNat * 4)).take 4).getD f.toNat 0 = ty i f from rfl] at x2
  obtain ⟨R, hR⟩ : ∃ R, (tyT.drop (i.toNat * 4)).take 4 = R := ⟨_, rfl⟩
  rw [hR] at x1 x2
  obtain ⟨T, hT⟩ : ∃ T, ty i f = T := ⟨_, rfl⟩
  rw [hT] at x2 l2 k2 hr ⊢
  obtain ⟨A, hA⟩ : ∃ A, gi V (7 * t + i) = A := ⟨_, rfl⟩
  obtain ⟨B, hB⟩ : ∃ B, gi V (7 * t + 4 + T) = B := ⟨_, rfl⟩
  rw [hA] at l1 k1 ⊢
  rw [hB] at l2 k2 ⊢
  have fx := And.intro hs.ixs1 (And.intro l1 (And.intro l2 (And.intro callF_types (And.intro x1 x2))))
  refine Ans.go ?_
  clear fx
  (have fx := True.intro; exact Ans.pu)
theorem nzC_drop {L : List Int} {i n : Nat} (hL : L.length = n) (hi : i < n) : nzC (L.drop i) = (if L.getD i 0 = 0 then 0 else 1) + nzC (L.drop (i + 1)) := by
  rw [List.drop_eq_getElem_cons (by omega), nzC]
  have : L.getD i 0 = L[i]'(by omega) := by simp [List.getD, List.getElem?_eq_getElem (by omega : i < L.length)]
  rw [this]
theorem areQ_loop (s : Value) (n : Nat) (L : List Int) (h : FH) (c : Nat) (hs : SlI h c s 1 n L) (hn : n ≤ 1000000) (df : List Nat) : ∀ (k i m : Nat), i + k = n → m ≤ i →
    Ans (G (f56_k56000 none) [.int .i64 m, s, .int .i64 n, .int .i64 i] h c df) fun r => r = { e := .exit 0, vs := [.int .i64 (m + nzC (L.drop i) : Nat), s, .int .i64 n, .int .i64 n], h := h, c := c, df := df } := by
  intro k
  have o1 := hs.okV
  induction k with
  | zero =>
    intro i m hi hm
    obtain rfl : i = n := by omega
    refine Ans.loop (fun q r => f56_N56000) (fun q => f56_Z56000) ?_
    unfold f56_L56000
    have fx := True.intro
    refine Ans.go ?_
    clear fx
    (have fx := o1; refine Ans.ex0 ?_; clear fx)
    rw [List.drop_of_length_le (by have := hs.1; omega)]
    rfl
  | succ k ih =>
    intro i m hi hm
    have hl := hs.1
    have l1 := hs.rdi i (by omega) (by omega)
    simp only [Int.toNat_natCast] at l1
    rw [gi_nat] at l1
    have hd := nzC_drop (L := L) (i := i) (n := n) (by omega) (by omega)
    obtain ⟨X, hX⟩ : ∃ X, L.getD i 0 = X := ⟨_, rfl⟩
    rw [hX] at l1 hd
    refine Ans.loop (fun q r => f56_N56000) (fun q => f56_Z56000) ?_
    unfold f56_L56000
    repeat' (first | ((with_reducible first | refine Ans.bz ?_ | refine Ans.r1 ?_ | refine Ans.pkT ?_ | refine Ans.pkF ?_); try dsimp only [v_zero, v_succ]) | (with_reducible first | refine Ans.btL ?_ | refine Ans.bfL ?_ | refine Ans.gyT ?_ | refine Ans.gyF ?_ | refine Ans.gyG ?_ | refine Ans.bb ?_ | refine Ans.bc ?_ | refine Ans.ba ?_) | ((with_reducible first | refine Ans.lsT ?_ ?_ | refine Ans.neT ?_ ?_); (focus omega)) | ((with_reducible first | refine Ans.lsF ?_ ?_ | refine Ans.neF ?_ ?_); (focus omega)) | (with_reducible first | refine Ans.lsS (fun _ => ?_) (fun _ => ?_) | refine Ans.neS (fun _ => ?_) (fun _ => ?_)) | ((with_reducible first | refine Ans.addN ?_ ?_ | refine Ans.add ?_ ?_); (focus omega)) | ((with_reducible first | refine Ans.ct ?_ ?_); (focus (simp (disch := (first | omega | with_reducible assumption | (simp <;> omega) | fail)) [hs.ixs1, l1]; done))) | ((with_reducible first | refine Ans.cf ?_ ?_); (focus (simp (disch := (first | omega | with_reducible assumption | (simp <;> omega) | fail)) [hs.ixs1, l1]; done))) | (refine Ans.step (by simp (disch := (first | omega | with_reducible assumption | (simp <;> omega) | fail)) [hs.ixs1, l1, -List.getD_eq_getElem?_getD] <;> rfl) ?_; try dsimp only [v_zero, v_succ]) | fail)
    · rename_i hne
      rw [if_neg hne] at hd
      (have fx := o1; refine Ans.nx0 ?_; clear fx)
      refine (ih (i + 1) (m + 1) (by omega) (by omega)).mono ?_
      rintro r rfl
      rw [hd, Nat.add_assoc]
    · rename_i heq
      rw [if_pos heq] at hd
      (have fx := o1; refine Ans.nx0 ?_; clear fx)
      refine (ih (i + 1) m (by omega) (by omega)).mono ?_
      rintro r rfl
      rw [hd, Nat.zero_add]
theorem areQ_sp (s : Value) (n : Nat) (L : List Int) (h : FH) (c : Nat) (df : List Nat) (hs : SlI h c s 1 n L) (hn : n ≤ 1000000) :
    G (.fn 56) [s] h c df = some { e := .ret, vs := [.bool (areQ L)], h := h, c := c, df := [] } := by
  refine pure_of' (fun r e => f56_go e) (by simp) ?_
  unfold f56_S
  have hl := hs.len
  have hr := Ans.eq (areQ_loop s n L h (c + 1 + 1 + 1) (hs.mono (by omega)) hn [] n 0 0 (by omega) (by omega))
  rw [List.drop_zero, Nat.zero_add] at hr
  simp only [Int.ofNat_eq_natCast, Int.cast_ofNat_Int] at hr
  repeat' (first | ((with_reducible first | refine Ans.bz ?_ | refine Ans.r1 ?_ | refine Ans.pkT ?_ | refine Ans.pkF ?_); try dsimp only [v_zero, v_succ]) | (with_reducible first | refine Ans.btL ?_ | refine Ans.bfL ?_ | refine Ans.gyT ?_ | refine Ans.gyF ?_ | refine Ans.gyG ?_ | refine Ans.bb ?_ | refine Ans.bc ?_ | refine Ans.ba ?_) | ((with_reducible first | refine Ans.leT ?_ ?_); (focus omega)) | ((with_reducible first | refine Ans.leF ?_ ?_); (focus omega)) | (with_reducible first | refine Ans.leS (fun _ => ?_) (fun _ => ?_)) | ((with_reducible first | refine Ans.ct ?_ ?_); (focus (simp (disch := (first | omega | with_reducible assumption | (simp <;> omega) | fail)) [hl, hr]; done))) | ((with_reducible first | refine Ans.cf ?_ ?_); (focus (simp (disch := (first | omega | with_reducible assumption | (simp <;> omega) | fail)) [hl, hr]; done))) | (refine Ans.step (by simp (disch := (first | omega | with_reducible assumption | (simp <;> omega) | fail)) [hl, hr, -List.getD_eq_getElem?_getD] <;> rfl) ?_; try dsimp only [v_zero, v_succ]) | fail)
  · rename_i hx
    exact Ans.pure (by simp [areQ]; omega) (by simp)
  · rename_i hx
    exact Ans.pure (by simp [areQ]; omega) (by simp)
theorem outside_sp (x : Int) (h : FH) (c : Nat) (df : List Nat) : G (.fn 76) [.int .i64 x] h c df = some { e := .ret, vs := [.bool (!(decide (0 ≤ x) && decide (x ≤ 1000000)))], h := h, c := c, df := [] } := by
  refine pure_of' (fun r e => f76_go e) (by simp) ?_
  unfold f76_S
  repeat' (first | ((with_reducible first | refine Ans.bz ?_ | refine Ans.r1 ?_ | refine Ans.pkT ?_ | refine Ans.pkF ?_); try dsimp only [v_zero, v_succ]) | (with_reducible first | refine Ans.btL ?_ | refine Ans.bfL ?_ | refine Ans.gyT ?_ | refine Ans.gyF ?_ | refine Ans.gyG ?_ | refine Ans.bb ?_ | refine Ans.bc ?_ | refine Ans.ba ?_) | ((with_reducible first | refine Ans.lsT ?_ ?_ | refine Ans.grT ?_ ?_); (focus omega)) | ((with_reducible first | refine Ans.lsF ?_ ?_ | refine Ans.grF ?_ ?_); (focus omega)) | (with_reducible first | refine Ans.lsS (fun _ => ?_) (fun _ => ?_) | refine Ans.grS (fun _ => ?_) (fun _ => ?_)) | ((with_reducible first | refine Ans.ct ?_ ?_); (focus (simp (disch := (first | omega | with_reducible assumption | (simp <;> omega) | fail)) []; done))) | ((with_reducible first | refine Ans.cf ?_ ?_); (focus (simp (disch := (first | omega | with_reducible assumption | (simp <;> omega) | fail)) []; done))) | (refine Ans.step (by simp (disch := (first | omega | with_reducible assumption | (simp <;> omega) | fail)) [-List.getD_eq_getElem?_getD] <;> rfl) ?_; try dsimp only [v_zero, v_succ]) | fail)
  all_goals exact Ans.pure (by simp; omega) (by simp)
theorem callV76 (h : FH) (c : Nat) (v : Value) : callV G h c (.func (.func 76) #[] #[]) [v] = callF G 76 [v] h c := by rfl
theorem callV_outside (x : Int) (h : FH) (c : Nat) : callV G h c (.func (.func 76) #[] #[]) [.int .i64 x] = some (.bool (!(decide (0 ≤ x) && decide (x ≤ 1000000))), h, c) := by
  rw [callV76]; exact callF_of (outside_sp x h c [])
theorem index_loop (s : Value) (n : Nat) (L : List Int) (h : FH) (c : Nat) (hs : SlI h c s 1 n L) (hn : n ≤ 9000000000) (df : List Nat) : ∀ (k i : Nat) (z : Value), i + k = n → OkV c z →
    Ans (G (f90_k90000 none) [s, .func (.func 76) #[] #[], z, .int .i64 n, .int .i64 i] h c df) fun r => r.h = h ∧ r.c = c ∧ r.df = df ∧
      ((r.e = .exit 0 ∧ withinB (L.drop i) = true) ∨ (r.e = .ret ∧ (∃ j : Nat, r.v 2 = .int .i64 j) ∧ withinB (L.drop i) = false)) := by
  intro k
  have o1 := hs.okV
  have o2 := OkV.fn c 76
  induction k with
  | zero =>
    intro i z hi hz
    obtain rfl : i = n := by omega
    refine Ans.loop (fun q r => f90_N90000) (fun q => f90_Z90000) ?_
    unfold f90_L90000
    have fx := True.intro
    refine Ans.go ?_
    clear fx
    (have fx := And.intro o1 (And.intro o2 hz); refine Ans.ex0 ?_; clear fx)
    exact ⟨rfl, rfl, rfl, .inl ⟨rfl, by rw [List.drop_of_length_le (by have := hs.1; omega)]; rfl⟩⟩
  | succ k ih =>
    intro i z hi hz
    have hl := hs.1
    have l1 := hs.rdi i (by omega) (by omega)
    simp only [Int.toNat_natCast] at l1
    rw [gi_nat] at l1
    have hd : L.drop i = L.getD i 0 :: L.drop (i + 1) := by
      rw [List.drop_eq_getElem_cons (by omega)]
      congr 1
      simp [List.getD, List.getElem?_eq_getElem (by omega : i < L.length)]
    obtain ⟨X, hX⟩ : ∃ X, L.getD i 0 = X := ⟨_, rfl⟩
    rw [hX] at l1 hd
    have c1 := fun H c => callV_outside X H c
    refine Ans.loop (fun q r => f90_N90000) (fun q => f90_Z90000) ?_
    unfold f90_L90000
    cases hq : (decide (0 ≤ X) && decide (X ≤ 1000000)) with
    | false =>
      rw [hq] at c1
      have fx := And.intro hs.ixs1 (And.intro l1 c1)
      refine Ans.go ?_
      clear fx
      (have fx := And.intro o1 (And.intro o2 hz); refine Ans.rt0 ?_; clear fx)
      exact ⟨rfl, rfl, rfl, .inr ⟨rfl, ⟨i, rfl⟩, by rw [hd]; simp [withinB, hq]⟩⟩
    | true =>
      rw [hq] at c1
      have fx := And.intro hs.ixs1 (And.intro l1 c1)
      refine Ans.go ?_
      clear fx
      (have fx := And.intro o1 (And.intro o2 hz); refine Ans.nx0 ?_; clear fx)
      have e : withinB (L.drop i) = withinB (L.drop (i + 1)) := by rw [hd]; simp only [withinB, List.all_cons, hq, Bool.true_and]
      rw [e]
      exact ih (i + 1) z (by omega) hz
theorem within_sp (s : Value) (n : Nat) (L : List Int) (h : FH) (c : Nat) (df : List Nat) (hs : SlI h c s 1 n L) (hn : n ≤ 9000000000) :
    G (.fn 55) [s] h c df = some { e := .ret, vs := [.bool (withinB L)], h := h, c := c, df := [] } := by
  have hl := hs.len
  have k90 : ∀ c', c ≤ c' → ∃ z : Int, (0 ≤ z ↔ withinB L = false) ∧ callF G 90 [s, .func (.func 76) #[] #[]] h c' = some (.int .i64 z, h, c') := fun c' hc => by
    obtain ⟨⟨re, rv, rh, rc, rd⟩, hr, r1, r2, r3, r4⟩ := index_loop s n L h (c' + 1 + 1) (hs.mono (by omega)) hn [] n 0 (.int .i64 0) (by omega) (by simp)
    simp only at r1 r2 r3 r4
    subst r1 r2 r3
    simp only [Int.ofNat_eq_natCast, Int.cast_ofNat_Int] at hr
    rw [List.drop_zero] at r4
    rcases r4 with ⟨rfl, r5⟩ | ⟨rfl, ⟨j, r5⟩, r6⟩
    · refine ⟨-1, by simp [r5], callF_of (pure_of' (fun r e => f90_go e) (by simp) ?_)⟩
      unfold f90_S
      have fx := And.intro hl hr
      refine Ans.go ?_
      clear fx
      exact Ans.pure rfl (by simp)
    · refine ⟨j, by simp [r6], callF_of (pure_of' (fun r e => f90_go e) (by simp) ?_)⟩
      unfold f90_S
      have fx := And.intro hl hr
      refine Ans.go ?_
      clear fx
      exact Ans.pure r5 (by simp)
  have k75 : ∀ c', c ≤ c' → callF G 75 [s, .func (.func 76) #[] #[]] h c' = some (.bool (!withinB L), h, c') := fun c' hc => by
    refine callF_of (pure_of' (fun r e => f75_go e) (by simp) ?_)
    unfold f75_S
    obtain ⟨z, hz, c1⟩ := k90 (c' + 1 + 1) (by omega)
    cases hv : withinB L with
    | true =>
      rw [hv] at hz
      have : ¬ 0 ≤ z := fun h => by simpa using hz.1 h
      have fx := c1
      refine Ans.go ?_
      clear fx
      exact Ans.pure rfl (by simp)
    | false =>
      rw [hv] at hz
      have : 0 ≤ z := hz.2 rfl
      have fx := c1
      refine Ans.go ?_
      clear fx
      exact Ans.pure rfl (by simp)
  refine pure_of' (fun r e => f55_go e) (by simp) ?_
  unfold f55_S
  have c1 := k75 (c + 1 + 1) (by omega)
  have fx := c1
  refine Ans.go ?_
  clear fx
  exact Ans.pure (by simp) (by simp)
theorem small_sp (s : Value) (n : Nat) (Gl : List Int) (h : FH) (c : Nat) (df : List Nat) (hs : SlI h c s 20 n Gl) :
    G (.fn 12) [.agg #[s]] h c df = some { e := .ret, vs := [.bool (decide (n ≤ 6))], h := h, c := c, df := [] } := by
  refine pure_of' (fun r e => f12_go e) (by simp) ?_
  unfold f12_S
  rw [flat1 hs.flat, cell1, Nat.add_zero]
  simp only [cond_true]
  have hl := hs.len
  repeat' (first | ((with_reducible first | refine Ans.bz ?_ | refine Ans.r1 ?_ | refine Ans.pkT ?_ | refine Ans.pkF ?_); try dsimp only [v_zero, v_succ]) | (with_reducible first | refine Ans.btL ?_ | refine Ans.bfL ?_ | refine Ans.gyT ?_ | refine Ans.gyF ?_ | refine Ans.gyG ?_ | refine Ans.bb ?_ | refine Ans.bc ?_ | refine Ans.ba ?_) | ((with_reducible first | refine Ans.leT ?_ ?_); (focus omega)) | ((with_reducible first | refine Ans.leF ?_ ?_); (focus omega)) | (with_reducible first | refine Ans.leS (fun _ => ?_) (fun _ => ?_)) | ((with_reducible first | refine Ans.ct ?_ ?_); (focus (simp (disch := (first | omega | with_reducible assumption | (simp <;> omega) | fail)) [hl]; done))) | ((with_reducible first | refine Ans.cf ?_ ?_); (focus (simp (disch := (first | omega | with_reducible assumption | (simp <;> omega) | fail)) [hl]; done))) | (refine Ans.step (by simp (disch := (first | omega | with_reducible assumption | (simp <;> omega) | fail)) [hl, -List.getD_eq_getElem?_getD] <;> rfl) ?_; try dsimp only [v_zero, v_succ]) | fail)
  all_goals exact Ans.pure (by simp; omega) (by simp (disch := omega))
def refE (Gl : List Int) (n : Nat) : Int := if n ≤ 1000 ∧ okAll Gl n = true then (if 60 < n then 2 else 0) else 7
theorem refused_sp (s : Value) (n : Nat) (Gl : List Int) (h : FH) (c : Nat) (df : List Nat) (hs : SlI h c s 20 n Gl) :
    G (.fn 43) [.agg #[s]] h c df = some { e := .ret, vs := [.int .i64 (refE Gl n)], h := h, c := c, df := [] } := by
  refine pure_of' (fun r e => f43_go e) (by simp) ?_
  unfold f43_S
  rw [flat1 hs.flat, cell1, Nat.add_zero]
  simp only [cond_true]
  have hl := hs.len
  have sH : Same c h (newB h (256 * c) [s]) := by simp (disch := omega)
  have g1 : Holds (newB h (256 * c) [s]) (256 * c) [s] := Holds.newB_same _ _ _
  have l1 := ldN1_own g1
  have l2 : ld1 (newB h (256 * c) [s]) (.pointer (some ⟨256 * c, 0, none⟩)) = some s := by rw [ld1_holds' g1]; rfl
  have c1 := callF_check s n Gl (newB h (256 * c) [s]) (c + 1 + 1) ((hs.same sH).mono (by omega))
  unfold refE
  by_cases hok : n ≤ 1000 ∧ okAll Gl n = true
  case neg =>
    rw [if_neg hok] at c1 ⊢
    have fx := And.intro l1 (And.intro l2 (And.intro hl c1))
    refine Ans.go ?_
    clear fx
    exact Ans.pure rfl sH
  rw [if_pos hok] at c1 ⊢
  repeat' (first | ((with_reducible first | refine Ans.bz ?_ | refine Ans.r1 ?_ | refine Ans.pkT ?_ | refine Ans.pkF ?_); try dsimp only [v_zero, v_succ]) | (with_reducible first | refine Ans.btL ?_ | refine Ans.bfL ?_ | refine Ans.gyT ?_ | refine Ans.gyF ?_ | refine Ans.gyG ?_ | refine Ans.bb ?_ | refine Ans.bc ?_ | refine Ans.ba ?_) | ((with_reducible first | refine Ans.grT ?_ ?_ | refine Ans.neT ?_ ?_); (focus omega)) | ((with_reducible first | refine Ans.grF ?_ ?_ | refine Ans.neF ?_ ?_); (focus omega)) | (with_reducible first | refine Ans.grS (fun _ => ?_) (fun _ => ?_) | refine Ans.neS (fun _ => ?_) (fun _ => ?_)) | ((with_reducible first | refine Ans.ct ?_ ?_); (focus (simp (disch := (first | omega | with_reducible assumption | (simp <;> omega) | fail)) [l1, l2, hl, c1]; done))) | ((with_reducible first | refine Ans.cf ?_ ?_); (focus (simp (disch := (first | omega | with_reducible assumption | (simp <;> omega) | fail)) [l1, l2, hl, c1]; done))) | (refine Ans.step (by simp (disch := (first | omega | with_reducible assumption | (simp <;> omega) | fail)) [l1, l2, hl, c1, -List.getD_eq_getElem?_getD] <;> rfl) ?_; try dsimp only [v_zero, v_succ]) | fail)
  · exact Ans.pure (by rw [if_pos (by omega)]) sH
  · exact Ans.pure (by rw [if_neg (by omega)]) sH
end Go.Proofs.Ytcnndelmnobigaa

namespace Go.Ab
open Go
set_option linter.unusedVariables false
set_option linter.unusedSimpArgs false
def mRow (Gl : List Int) (t f i : Nat) : List Int := [(t : Int), (f : Int), (i : Int), tetL (faceL Gl t f), (permL (faceL Gl t f)).getD f 0, (permL (faceL Gl t f)).getD i 0]
def mSkip (Gl : List Int) (t f : Nat) : Bool := decide (tetL (faceL Gl t f) < 0) || decide (tetL (faceL Gl t f) < t) || (decide (tetL (faceL Gl t f) = t) && decide ((permL (faceL Gl t f)).getD f 0 < f))
def mI (Gl : List Int) (t f : Nat) : Nat → Nat → List (List Int)
  | 0, _ => []
  | k + 1, i => (if i = f then [] else [mRow Gl t f i]) ++ mI Gl t f k (i + 1)
def mF (Gl : List Int) (t : Nat) : Nat → Nat → List (List Int)
  | 0, _ => []
  | k + 1, f => (if mSkip Gl t f = true then [] else mI Gl t f 4 0) ++ mF Gl t k (f + 1)
def mT (Gl : List Int) : Nat → Nat → List (List Int)
  | 0, _ => []
  | k + 1, t => mF Gl t 4 0 ++ mT Gl k (t + 1)
def allM (Gl : List Int) (n : Nat) : List (List Int) := mT Gl n 0
theorem bld6 (a b c d e f : Int) : bldV [(.int .i64 0), (.int .i64 0), (.int .i64 0), (.int .i64 0), (.int .i64 0), (.int .i64 0)] [(0, 1, .int .i64 a), (1, 1, .int .i64 b), (2, 1, .int .i64 c), (3, 1, .int .i64 d), (4, 1, .int .i64 e), (5, 1, .int .i64 f)] = some (av [a, b, c, d, e, f]) := (rfl)
theorem Holds.eqf {h h' : FH} {b : Nat} {cs : List Value} (e : h'.f b = h.f b) (hh : Holds h b cs) : Holds h' b cs := by
  obtain ⟨ro, op, e1⟩ := hh
  exact ⟨ro, op, e.trans e1⟩
theorem mI_mem {Gl : List Int} {t f j : Nat} (hne : j ≠ f) : ∀ {k i : Nat}, i ≤ j → j < i + k → mRow Gl t f j ∈ mI Gl t f k i
  | 0, i, h1, h2 => by omega
  | k + 1, i, h1, h2 => by
    rw [mI]
    by_cases e : i = j
    · subst e
      rw [if_neg hne]
      exact List.mem_append.2 (.inl (List.mem_singleton.2 rfl))
    · exact List.mem_append.2 (.inr (mI_mem hne (by omega) (by omega)))
theorem mF_mem {Gl : List Int} {t g i : Nat} (hi : i < 4) (hne : i ≠ g) (hs : mSkip Gl t g = false) : ∀ {k f : Nat}, f ≤ g → g < f + k → mRow Gl t g i ∈ mF Gl t k f
  | 0, f, h1, h2 => by omega
  | k + 1, f, h1, h2 => by
    rw [mF]
    by_cases e : f = g
    · subst e
      rw [if_neg (by rw [hs]; simp)]
      exact List.mem_append.2 (.inl (mI_mem hne (by omega) (by omega)))
    · exact List.mem_append.2 (.inr (mF_mem hi hne hs (by omega) (by omega)))
theorem mT_mem {Gl : List Int} {u g i : Nat} (hg : g < 4) (hi : i < 4) (hne : i ≠ g) (hs : mSkip Gl u g = false) : ∀ {k t : Nat}, t ≤ u → u < t + k → mRow Gl u g i ∈ mT Gl k t
  | 0, t, h1, h2 => by omega
  | k + 1, t, h1, h2 => by
    rw [mT]
    by_cases e : t = u
    · subst e
      exact List.mem_append.2 (.inl (mF_mem hi hne hs (by omega) (by omega)))
    · exact List.mem_append.2 (.inr (mT_mem hg hi hne hs (by omega) (by omega)))
theorem allM_mem {Gl : List Int} {n u g i : Nat} (hu : u < n) (hg : g < 4) (hi : i < 4) (hne : i ≠ g) (hs : mSkip Gl u g = false) : mRow Gl u g i ∈ allM Gl n := mT_mem hg hi hne hs (by omega) (by omega)
def eqM (V m : List Int) : Bool := decide (arcV V (m.getD 0 0) (m.getD 1 0) (m.getD 2 0) = arcV V (m.getD 3 0) (m.getD 4 0) (m.getD 5 0))
def quadAt (V : List Int) (t : Nat) : List Int := (V.drop (7 * t + 4)).take 3
def admB (Gl : List Int) (n : Nat) (V : List Int) : Bool := decide (V.length = 7 * n) && withinB V && ((List.range n).all fun t => areQ (quadAt V t)) && (allM Gl n).all fun m => eqM V m
theorem withinB_at {V : List Int} (h : withinB V = true) (j : Nat) : 0 ≤ gi V j ∧ gi V j ≤ 1000000 := by
  unfold gi
  rw [Int.toNat_natCast]
  by_cases hj : j < V.length
  · have := List.all_eq_true.1 h V[j] (List.getElem_mem hj)
    simpa [List.getD, List.getElem?_eq_getElem hj] using this
  · simp [List.getD, List.getElem?_eq_none (by omega : V.length ≤ j)]
theorem ne24 {p : List Int} (hp : p ∈ p24) {i j : Nat} (hi : i < 4) (hj : j < 4) (hne : i ≠ j) : p.getD i 0 ≠ p.getD j 0 := by
  have := all24 (Q := fun p => (List.range 4).all fun i => (List.range 4).all fun j => decide (i = j) || decide (p.getD i 0 ≠ p.getD j 0)) (by kernel_rfl) hp
  rw [List.all_eq_true] at this
  have h1 := this i (by simpa using hi)
  rw [List.all_eq_true] at h1
  have h2 := h1 j (by simpa using hj)
  simpa [hne, -List.getD_eq_getElem?_getD] using h2
theorem mRow_ok {Gl : List Int} {n t f i : Nat} (hok : okAll Gl n = true) (hG : Gl.length = n * 20) (ht : t < n) (hf : f < 4) (hi : i < 4) (hne : i ≠ f) (hsk : mSkip Gl t f = false) :
    (t : Int) ≤ tetL (faceL Gl t f) ∧ tetL (faceL Gl t f) < n ∧ permL (faceL Gl t f) ∈ p24 := by
  have ok := okAll_face hok ht hf
  simp only [mSkip, Bool.or_eq_false_iff, decide_eq_false_iff_not] at hsk
  obtain ⟨⟨h1, h2⟩, _⟩ := hsk
  obtain ⟨g1, g2, _, _⟩ := okFace_glued ok h1
  exact ⟨by omega, g1, mem24 (permL_length (faceL_length hG ht hf)) g2⟩
theorem mI_length (Gl : List Int) (t f : Nat) : ∀ k i, (mI Gl t f k i).length ≤ k
  | 0, _ => Nat.le_refl _
  | k + 1, i => by
    have := mI_length Gl t f k (i + 1)
    rw [mI, List.length_append]
    split <;> simp <;> omega
theorem mF_length (Gl : List Int) (t : Nat) : ∀ k f, (mF Gl t k f).length ≤ 4 * k
  | 0, _ => Nat.le_refl _
  | k + 1, f => by
    have h1 := mF_length Gl t k (f + 1)
    have h2 := mI_length Gl t f 4 0
    rw [mF, List.length_append]
    split
    · simp; omega
    · omega
theorem mT_length (Gl : List Int) : ∀ k t, (mT Gl k t).length ≤ 16 * k
  | 0, _ => Nat.le_refl _
  | k + 1, t => by
    have h1 := mT_length Gl k (t + 1)
    have h2 := mF_length Gl t 4 0
    rw [mT, List.length_append]
    omega
theorem allM_length (Gl : List Int) (n : Nat) : (allM Gl n).length ≤ 16 * n := mT_length Gl n 0
end Go.Ab

namespace Go.Proofs.Ytcnndelmnobigaa
open Go Go.Ab Go.Proofs
set_option maxRecDepth 100000
set_option linter.unusedVariables false
set_option linter.unusedSimpArgs false
def edL : List Int := [0, 1, 0, 2, 0, 3, 1, 2, 1, 3, 2, 3]
theorem bld2 (a b : Int) : bldV [(.int .i64 0), (.int .i64 0)] [(0, 1, .int .i64 a), (1, 1, .int .i64 b)] = some (av [a, b]) := (rfl)
theorem eq_pair2 (a0 a1 b0 b1 : Int) : aBinOp0 P .eql 115 (av [a0, a1]) (av [b0, b1]) = (cond (a0 == b0) (cond (a1 == b1) (some true) (some false)) (some false)).bind fun b => some (.bool b) := by kernel_rfl
theorem eq_pair (a0 a1 b0 b1 : Int) : aBinOp P .eql 115 (av [a0, a1]) (av [b0, b1]) = some (.bool (decide (a0 = b0 ∧ a1 = b1))) := by
  rw [aBinOp_eq, eq_pair2]
  by_cases h0 : a0 = b0 <;> by_cases h1 : a1 = b1 <;> simp [h0, h1, Bool.cond_eq_ite]
theorem edges_sp (h : FH) (c : Nat) (df : List Nat) : G (.fn 89) [] h c df = some { e := .ret, vs := [av edL], h := h, c := c, df := [] } := by
  refine pure_of' (fun r e => f89_go e) (by simp) ?_
  unfold f89_S
  have z1 : bldV [(.int .i64 0), (.int .i64 0), (.int .i64 0), (.int .i64 0), (.int .i64 0), (.int .i64 0), (.int .i64 0), (.int .i64 0), (.int .i64 0), (.int .i64 0), (.int .i64 0), (.int .i64 0)] [(0, 2, av [0, 1]), (2, 2, av [0, 2]), (4, 2, av [0, 3]), (6, 2, av [1, 2]), (8, 2, av [1, 3]), (10, 2, av [2, 3])] = some (av edL) := rfl
  have z2 : ∀ (H : FH) (b : Nat) (cs : List Value), cs.length = 12 → stN (newB H b cs) 12 (.pointer (some ⟨b, 0, none⟩)) (av edL) = some (newB H b (ints edL)) := fun H b cs hc => stN_all H b 12 cs edL rfl hc
  have z3 : ∀ (H : FH) (b : Nat), ldN (newB H b (ints edL)) 12 (.pointer (some ⟨b, 0, none⟩)) = some (av edL) := fun H b => by rw [ldN_newB_same _ _ _ _ _ (by simp [edL])]; rfl
  have fx := And.intro bld2 (And.intro z1 (And.intro z2 z3))
  refine Ans.go ?_
  clear fx
  (have fx := True.intro; exact Ans.pu)
theorem callF_edges (h : FH) (c : Nat) : callF G 89 [] h c = some (av edL, h, c) := callF_of (edges_sp h c [])
def isEd (a b i j : Int) : Bool := decide (a = i ∧ b = j) || decide (a = j ∧ b = i)
theorem isEd_sp (a b i j : Int) (p q : Nat) (h : FH) (c : Nat) (df : List Nat) (hp : p < 256 * c) (hq : q < 256 * c) (gp : Holds h p [.int .i64 i]) (gq : Holds h q [.int .i64 j]) :
    G (.fn 88) [av [a, b], ptrTo p, ptrTo q] h c df = some { e := .ret, vs := [.bool (isEd a b i j)], h := h, c := c, df := [] } := by
  refine pure_of' (fun r e => f88_go e) (by simp) ?_
  unfold f88_S isEd
  have f1 : ((av [a, b]).cells.toList.all isFlat) = true := rfl
  have f2 : (av [a, b]).cells.toList = ints [a, b] := rfl
  rw [f2, show (ints [a, b]).all isFlat = true from rfl]
  simp only [cond_true]
  have z1 : ∀ (H : FH) (b' : Nat), ldN (newB H b' (ints [a, b])) 2 (.pointer (some ⟨b', 0, none⟩)) = some (av [a, b]) := fun H b' => by rw [ldN_newB_same _ _ _ _ _ (by simp)]; rfl
  have lp : ld1 (newB h (256 * c) (ints [a, b])) (.pointer (some ⟨p, 0, none⟩)) = some (.int .i64 i) := by rw [ld1_newB_ne _ _ _ _ _ (by omega), ld1_holds' gp]; rfl
  have lq : ld1 (newB h (256 * c) (ints [a, b])) (.pointer (some ⟨q, 0, none⟩)) = some (.int .i64 j) := by rw [ld1_newB_ne _ _ _ _ _ (by omega), ld1_holds' gq]; rfl
  by_cases h1 : a = i ∧ b = j
  · have d1 : decide (a = i ∧ b = j) = true := decide_eq_true h1
    rw [d1]
    have e1 := eq_pair a b i j
    rw [d1] at e1
    have fx := And.intro z1 (And.intro lp (And.intro lq (And.intro bld2 e1)))
    refine Ans.go ?_
    clear fx
    exact Ans.pure rfl (by simp (disch := omega))
  · have d1 : decide (a = i ∧ b = j) = false := decide_eq_false h1
    rw [d1]
    have e1 := eq_pair a b i j
    have e2 := eq_pair a b j i
    rw [d1] at e1
    rw [Bool.false_or]
    obtain ⟨d, hd⟩ : ∃ d, decide (a = j ∧ b = i) = d := ⟨_, rfl⟩
    rw [hd] at e2 ⊢
    have fx := And.intro z1 (And.intro lp (And.intro lq (And.intro bld2 (And.intro e1 e2))))
    refine Ans.go ?_
    clear fx
    exact Ans.pure rfl (by simp (disch := omega))
theorem OkV.fn2 {c p q : Nat} {g : FuncId} (hp : p < 256 * c) (hq : q < 256 * c) : OkV c (.func (.func g) #[] #[ptrTo p, ptrTo q]) := by
  obtain ⟨y1, h1⟩ := OkV.ptrTo hp
  obtain ⟨y2, h2⟩ := OkV.ptrTo hq
  refine ⟨.func (.func g) #[] #[y1, y2], .fnc g rfl rfl (fun k x y h => by simp at h) (fun k x y hx hy => ?_)⟩
  match k, hx, hy with
  | 0, hx, hy => cases hx; cases hy; exact h1
  | 1, hx, hy => cases hx; cases hy; exact h2
  | k + 2, hx, hy => simp at hx
theorem callV88 (h : FH) (c p q : Nat) (v : Value) : callV G h c (.func (.func 88) #[] #[ptrTo p, ptrTo q]) [v] = callF G 88 [v, ptrTo p, ptrTo q] h c := by rfl
def edI (i j : Int) : Nat → Nat → Int
  | 0, _ => -1
  | k + 1, m => if isEd (edL.getD (2 * m) 0) (edL.getD (2 * m + 1) 0) i j then (m : Int) else edI i j k (m + 1)
theorem ed_loop (i j : Int) (p q b : Nat) (h : FH) (c : Nat) (df : List Nat) (hp : p < 256 * c) (hq : q < 256 * c) (hb : b < 256 * c) (gp : Holds h p [.int .i64 i]) (gq : Holds h q [.int .i64 j]) (gb : Holds h b (ints edL)) :
    ∀ (k m : Nat) (z : Value), m + k = 6 → OkV c z →
    Ans (G (f86_k86000 none) [.slice (some ⟨b, 0, none⟩) 6 6, .func (.func 88) #[] #[ptrTo p, ptrTo q], z, .int .i64 6, .int .i64 m] h c df) fun r => r.h = h ∧ r.c = c ∧ r.df = df ∧
      ((r.e = .exit 0 ∧ edI i j k m = -1) ∨ (r.e = .ret ∧ r.v 2 = .int .i64 (edI i j k m))) := by
  intro k
  have o1 : OkV c (.slice (some ⟨b, 0, none⟩) 6 6) := OkV.sl hb
  have o2 : OkV c (.func (.func 88) #[] #[ptrTo p, ptrTo q]) := OkV.fn2 hp hq
  induction k with
  | zero =>
    intro m z hm hz
    obtain rfl : m = 6 := by omega
    refine Ans.loop (fun q r => f86_N86000) (fun q => f86_Z86000) ?_
    unfold f86_L86000
    have fx := True.intro
    refine Ans.go ?_
    clear fx
    (have fx := And.intro o1 (And.intro o2 hz); refine Ans.ex0 ?_; clear fx)
    exact ⟨rfl, rfl, rfl, .inl ⟨rfl, rfl⟩⟩
  | succ k ih =>
    intro m z hm hz
    have l1 : ldN h 2 (.pointer (some ⟨b, m * 2, none⟩)) = some (av [edL.getD (2 * m) 0, edL.getD (2 * m + 1) 0]) := by
      rw [ldN_holds gb (by simp [edL]; omega)]
      have : m = 0 ∨ m = 1 ∨ m = 2 ∨ m = 3 ∨ m = 4 ∨ m = 5 := by omega
      rcases this with rfl | rfl | rfl | rfl | rfl | rfl <;> rfl
    rw [edI]
    obtain ⟨A, hA⟩ : ∃ A, edL.getD (2 * m) 0 = A := ⟨_, rfl⟩
    obtain ⟨B, hB⟩ : ∃ B, edL.getD (2 * m + 1) 0 = B := ⟨_, rfl⟩
    rw [hA, hB] at l1 ⊢
    have c1 := fun c' (hc : c ≤ c') => (callV88 h c' p q (av [A, B])).trans (callF_of (isEd_sp A B i j p q h c' [] (by omega) (by omega) gp gq))
    refine Ans.loop (fun q r => f86_N86000) (fun q => f86_Z86000) ?_
    unfold f86_L86000
    cases hq : isEd A B i j with
    | true =>
      rw [hq] at c1
      have fx := And.intro l1 c1
      refine Ans.go ?_
      clear fx
      (have fx := And.intro o1 (And.intro o2 hz); refine Ans.rt0 ?_; clear fx)
      exact ⟨rfl, rfl, rfl, .inr ⟨rfl, rfl⟩⟩
    | false =>
      rw [hq] at c1
      have fx := And.intro l1 c1
      refine Ans.go ?_
      clear fx
      (have fx := And.intro o1 (And.intro o2 hz); refine Ans.nx0 ?_; clear fx)
      exact ih (m + 1) z (by omega) hz
def edN (i j : Int) : Int := edI i j 6 0
theorem edN_range {i j : Int} (h1 : 0 ≤ i) (h2 : i < 4) (h3 : 0 ≤ j) (h4 : j < 4) (hne : i ≠ j) : 0 ≤ edN i j ∧ edN i j < 6 := by
  have : ((List.range 4).all fun i => (List.range 4).all fun j => decide (i = j) || (decide (0 ≤ edN (i : Nat) (j : Nat)) && decide (edN (i : Nat) (j : Nat) < 6))) = true := by decide
  rw [List.all_eq_true] at this
  have h5 := this i.toNat (by simp; omega)
  rw [List.all_eq_true] at h5
  have h6 := h5 j.toNat (by simp; omega)
  have e1 : ((i.toNat : Nat) : Int) = i := by omega
  have e2 : ((j.toNat : Nat) : Int) = j := by omega
  rw [e1, e2] at h6
  have h7 : ¬ i.toNat = j.toNat := by omega
  simpa [h7] using h6
theorem edgeList_sp (h : FH) (c : Nat) : callF G 87 [] h c = some (.slice (some ⟨256 * (c + 1) + 1, 0, none⟩) 6 6, newB h (256 * (c + 1) + 1) (ints edL), c + 1 + 1 + 1) := by
  have z2 : ∀ (H : FH) (b : Nat) (cs : List Value), cs.length = 12 → stN (newB H b cs) 12 (.pointer (some ⟨b, 0, none⟩)) (av edL) = some (newB H b (ints edL)) := fun H b cs hc => stN_all H b 12 cs edL rfl hc
  have z3 : slA 6 2 (.pointer (some ⟨256 * (c + 1) + 1, 0, none⟩)) none none none = some (.slice (some ⟨256 * (c + 1) + 1, 0, none⟩) 6 6) := rfl
  refine callF_of (df := []) (e := .ret) (f87_go (Ans.eq ?_))
  unfold f87_S
  have fx := And.intro callF_edges (And.intro z2 z3)
  refine Ans.go ?_
  clear fx
  exact .done rfl
theorem edge_sp (i j : Int) (h : FH) (c : Nat) (df : List Nat) : G (.fn 73) [.int .i64 i, .int .i64 j] h c df = some { e := .ret, vs := [.int .i64 (edN i j)], h := h, c := c, df := [] } := by
  refine pure_of' (fun r e => f73_go e) (by simp) ?_
  unfold f73_S
  rw [show (Value.int .i64 i).cells.toList = [.int .i64 i] from rfl, show (Value.int .i64 j).cells.toList = [.int .i64 j] from rfl]
  rw [show ([Value.int .i64 i]).all isFlat = true from rfl, show ([Value.int .i64 j]).all isFlat = true from rfl]
  simp only [cond_true, Nat.add_zero]
  obtain ⟨H, hH⟩ : ∃ H, H = newB (newB h (256 * c) [.int .i64 i]) (256 * c + 1) [.int .i64 j] := ⟨_, rfl⟩
  have sH : Same c h H := by rw [hH]; simp (disch := omega)
  have gp : Holds H (256 * c) [.int .i64 i] := by rw [hH]; exact (Holds.newB_same _ _ _).newB_ne (by omega)
  have gq : Holds H (256 * c + 1) [.int .i64 j] := by rw [hH]; exact Holds.newB_same _ _ _
  rw [← hH]
  clear hH
  have c1 := edgeList_sp H (c + 1 + 1)
  obtain ⟨K, hK⟩ : ∃ K, newB H (256 * (c + 1 + 1 + 1) + 1) (ints edL) = K := ⟨_, rfl⟩
  have sK : Same c h K := by rw [← hK]; exact sH.trans (by simp (disch := omega))
  have gpK : Holds K (256 * c) [.int .i64 i] := by rw [← hK]; exact gp.newB_ne (by omega)
  have gqK : Holds K (256 * c + 1) [.int .i64 j] := by rw [← hK]; exact gq.newB_ne (by omega)
  have gbK : Holds K (256 * (c + 1 + 1 + 1) + 1) (ints edL) := by rw [← hK]; exact Holds.newB_same _ _ _
  rw [hK] at c1
  clear hK
  obtain ⟨⟨re, rv, rh, rc, rd⟩, hr, r1, r2, r3, r4⟩ := ed_loop i j (256 * c) (256 * c + 1) (256 * (c + 1 + 1 + 1) + 1) K (c + 1 + 1 + 1 + 1 + 1 + 1 + 1) [] (by omega) (by omega) (by omega) gpK gqK gbK 6 0 (.int .i64 0) (by omega) (by simp)
  simp only at r1 r2 r3 r4
  subst r1 r2 r3
  simp only [Int.ofNat_eq_natCast, Int.cast_ofNat_Int] at hr
  have c2 : callF G 86 [.slice (some ⟨256 * (c + 1 + 1 + 1) + 1, 0, none⟩) 6 6, .func (.func 88) #[] #[ptrTo (256 * c), ptrTo (256 * c + 1)]] rh (c + 1 + 1 + 1 + 1 + 1) = some (.int .i64 (edN i j), rh, c + 1 + 1 + 1 + 1 + 1) := by
    refine callF_of (pure_of' (fun r e => f86_go e) (by simp) ?_)
    unfold f86_S
    rcases r4 with ⟨rfl, r5⟩ | ⟨rfl, r5⟩
    · have fx := hr
      refine Ans.go ?_
      clear fx
      exact Ans.pure (by rw [edN, r5]) (by simp)
    · have fx := hr
      refine Ans.go ?_
      clear fx
      exact Ans.pure r5 (by simp)
  have fx := And.intro c1 c2
  refine Ans.go ?_
  clear fx
  exact Ans.pure rfl sK
theorem callF_edge (i j : Int) (h : FH) (c : Nat) : callF G 73 [.int .i64 i, .int .i64 j] h c = some (.int .i64 (edN i j), h, c) := callF_of (edge_sp i j h c [])
end Go.Proofs.Ytcnndelmnobigaa

namespace Go.Ab
open Go
set_option linter.unusedVariables false
set_option linter.unusedSimpArgs false
def AppG (c0 : Nat) (h : FH) (c : Nat) (v : Value) (n : Nat) (cs : List Value) : Prop :=
  cs.length = n ∧ n ≤ 9223372036854775807 ∧ cs.all isFlat = true ∧
    ∃ i op, v = .slice (some ⟨i, 0, none⟩) n n ∧ 256 * c0 ≤ i ∧ i < 256 * c ∧ h.f i = some (.cells false op cs) ∧ (op = none ∨ op = some 1)
theorem AppG.flat {c0 : Nat} {h : FH} {c : Nat} {v : Value} {n : Nat} {cs : List Value} (ha : AppG c0 h c v n cs) : isFlat v = true ∧ v.cells = #[v] := by
  obtain ⟨_, _, _, i, op, rfl, _⟩ := ha; exact ⟨rfl, rfl⟩
theorem AppG.mono {c0 : Nat} {h : FH} {c c' : Nat} {v : Value} {n : Nat} {cs : List Value} (hc : c ≤ c') (ha : AppG c0 h c v n cs) : AppG c0 h c' v n cs := by
  obtain ⟨h1, h2, h3, i, op, h4, h5, h6, h7⟩ := ha
  exact ⟨h1, h2, h3, i, op, h4, h5, by omega, h7⟩
theorem AppG.blk {c0 : Nat} {h : FH} {c : Nat} {v : Value} {n : Nat} {cs : List Value} (ha : AppG c0 h c v n cs) : 256 * c0 ≤ blkOf v ∧ blkOf v < 256 * c := by
  obtain ⟨h1, h2, h3, i, op, rfl, h5, h6, h7⟩ := ha
  exact ⟨h5, h6⟩
theorem AppG.keep {c0 : Nat} {h h' : FH} {c : Nat} {v : Value} {n : Nat} {cs : List Value} (ha : AppG c0 h c v n cs) (hh : h'.f (blkOf v) = h.f (blkOf v)) : AppG c0 h' c v n cs := by
  obtain ⟨h1, h2, h3, i, op, rfl, h5, h6, h7, h8⟩ := ha
  exact ⟨h1, h2, h3, i, op, rfl, h5, h6, hh.trans h7, h8⟩
theorem AppG.app {c0 : Nat} {h : FH} {c c' : Nat} {v : Value} {n : Nat} {cs : List Value} (ha : AppG c0 h c v n cs) (x : Value) (hx : isFlat x = true) (by' b id : Nat) (hb : 256 * c ≤ b) (hid : 256 * c ≤ id) (hne : b ≠ id) (hc0 : c0 ≤ c)
    (hid' : id < 256 * c') (hlim : (n + 1) * (by' + 1) ≤ 17592186044416) :
    ∃ h', appV (newB h b [x]) id 1 by' v (.slice (some ⟨b, 0, none⟩) 1 1) = some (.slice (some ⟨id, 0, none⟩) (n + 1) (n + 1), h') ∧ AppG c0 h' c' (.slice (some ⟨id, 0, none⟩) (n + 1) (n + 1)) (n + 1) (cs ++ [x]) ∧
      (∀ j, j < 256 * c → j ≠ blkOf v → h'.f j = h.f j) := by
  obtain ⟨h1, h2, h3, i, op, rfl, h5, h6, h7, h8⟩ := ha
  have hlim' : Nat.ble ((n + 1) * (by' + 1)) 17592186044416 = true := Nat.ble_eq_true_of_le hlim
  have hsrc : srcCells (newB h b [x]) 1 (.slice (some ⟨b, 0, none⟩) 1 1) = some ([x], 1) := by
    have : Nat.ble (0 + 1 * 1) [x].length = true := rfl
    simp only [srcCells, rdCells, getCells, get_newB_same, Option.bind_some, this, cond_true, List.drop_zero]
    rfl
  have hn1 : n + 1 ≤ 17592186044416 := by
    have : (n + 1) * 1 ≤ (n + 1) * (by' + 1) := Nat.mul_le_mul_left _ (by omega)
    omega
  have hcap : Nat.ble (n + 1) n = false := by rw [Bool.eq_false_iff]; intro hh; have := Nat.le_of_ble_eq_true hh; omega
  have hfx : [x].all isFlat = true := by simp [hx]
  have hbi : i ≠ b := by omega
  have hg : HeapC.get (newB h b [x]) i = some (.cells false op cs) := by rw [get_newB_ne _ _ _ _ hbi]; exact h7
  have hr : Nat.ble (0 + n * 1) cs.length = true := Nat.ble_eq_true_of_le (by simp [h1])
  have ht : (cs.drop 0).take (n * 1) = cs := by rw [List.drop_zero, List.take_of_length_le (by omega)]
  rcases h8 with rfl | rfl
  · refine ⟨HeapC.set (newB h b [x]) id (.cells false (some 1) ((cs.drop 0).take (n * 1) ++ [x])), ?_, ⟨by simp [h1], by omega, by simp only [List.all_append, h3, hfx, Bool.and_self], id, some 1, rfl, by omega, hid', ?_, .inr rfl⟩, ?_⟩
    · simp only [appV, hsrc, Option.bind_some, appTo, hcap, cond_false, appGrow, hlim', hfx, Bool.and_self, cond_true, rdCells, getCells, hg, hr]
    · rw [set_f, if_pos rfl, ht]
    · intro j hj hne'
      rw [set_f, if_neg (by omega), newB_f, if_neg (by omega)]
  · refine ⟨HeapC.set (HeapC.set (newB h b [x]) i .dead) id (.cells false (some 1) ((cs.drop 0).take (n * 1) ++ [x])), ?_, ⟨by simp [h1], by omega, by simp only [List.all_append, h3, hfx, Bool.and_self], id, some 1, rfl, by omega, hid', ?_, .inr rfl⟩, ?_⟩
    · simp only [appV, hsrc, Option.bind_some, appTo, hcap, cond_false, appGrow, hlim', hfx, Bool.and_self, cond_true, rdCells, getCells, hg, hr, Nat.beq_refl, Bool.not_false, Bool.and_true]
    · rw [set_f, if_pos rfl, ht]
    · intro j hj hne'
      rw [blkOf_sl] at hne'
      rw [set_f, if_neg (by omega), set_f, if_neg hne', newB_f, if_neg (by omega)]
def addAt (L : List Int) (k : Nat) (d : Int) : List Int := L.set k (L.getD k 0 + d)
theorem addAt_length (L : List Int) (k : Nat) (d : Int) : (addAt L k d).length = L.length := by simp [addAt]
theorem addAt_bound {L : List Int} {B : Int} (h : ∀ k, -B ≤ L.getD k 0 ∧ L.getD k 0 ≤ B) (hB : 0 ≤ B) (q : Nat) (d : Int) (hd : -1 ≤ d ∧ d ≤ 1) : ∀ k, -(B + 1) ≤ (addAt L q d).getD k 0 ∧ (addAt L q d).getD k 0 ≤ B + 1 := by
  intro k
  have h1 := h k
  have h2 := h q
  unfold addAt
  by_cases hk : k < L.length
  · by_cases e : q = k
    · subst e
      rw [List.getD_eq_getElem?_getD, List.getElem?_set_self hk]
      simp only [Option.getD_some]
      omega
    · rw [List.getD_eq_getElem?_getD, List.getElem?_set_ne e, ← List.getD_eq_getElem?_getD]
      omega
  · rw [List.getD_eq_getElem?_getD, List.getElem?_eq_none (by simp; omega)]
    simp; omega
def eqRow (n : Nat) (m : List Int) : List Int :=
  addAt (addAt (addAt (addAt (List.replicate (7 * n) 0) (7 * m.getD 0 0 + m.getD 2 0).toNat 1) (7 * m.getD 0 0 + 4 + ty (m.getD 2 0) (m.getD 1 0)).toNat 1)
    (7 * m.getD 3 0 + m.getD 5 0).toNat (-1)) (7 * m.getD 3 0 + 4 + ty (m.getD 5 0) (m.getD 4 0)).toNat (-1)
theorem eqRow_length (n : Nat) (m : List Int) : (eqRow n m).length = 7 * n := by simp [eqRow, addAt_length]
theorem zero_bound (n : Nat) : ∀ k, -(0 : Int) ≤ (List.replicate n (0 : Int)).getD k 0 ∧ (List.replicate n (0 : Int)).getD k 0 ≤ 0 := by
  intro k
  by_cases hk : k < n
  · simp [List.getD, hk]
  · simp [List.getD, List.getElem?_eq_none (by simp; omega : (List.replicate n (0 : Int)).length ≤ k)]
end Go.Ab

namespace Go.Ab
open Go
set_option linter.unusedVariables false
set_option linter.unusedSimpArgs false
def Down (L : List Int) (m : Nat) : Prop := L.length = m ∧ ∀ k, k < m → 0 ≤ L.getD k 0 ∧ L.getD k 0 ≤ k
def rootF (L : List Int) : Nat → Nat → Nat
  | 0, i => i
  | k + 1, i => if L.getD i 0 = i then i else rootF L k (L.getD i 0).toNat
def rootL (L : List Int) (i : Nat) : Nat := rootF L (i + 1) i
theorem rootF_stop {L : List Int} {m : Nat} (hd : Down L m) : ∀ {k k' i : Nat}, i < m → i < k → i < k' → rootF L k i = rootF L k' i
  | 0, _, i, _, h, _ => by omega
  | k + 1, 0, i, _, _, h => by omega
  | k + 1, k' + 1, i, hi, h1, h2 => by
    rw [rootF, rootF]
    by_cases e : L.getD i 0 = i
    · rw [if_pos e, if_pos e]
    · rw [if_neg e, if_neg e]
      have := hd.2 i hi
      exact rootF_stop hd (by omega) (by omega) (by omega)
theorem rootL_self {L : List Int} {i : Nat} (e : L.getD i 0 = i) : rootL L i = i := by rw [rootL, rootF, if_pos e]
theorem rootL_next {L : List Int} {m i : Nat} (hd : Down L m) (hi : i < m) (e : ¬ L.getD i 0 = i) : rootL L i = rootL L (L.getD i 0).toNat := by
  have := hd.2 i hi
  rw [rootL, rootF, if_neg e, rootL]
  exact rootF_stop hd (by omega) (by omega) (by omega)
theorem rootF_le {L : List Int} {m : Nat} (hd : Down L m) : ∀ {k i : Nat}, i < m → rootF L k i ≤ i
  | 0, i, _ => by rw [rootF]; omega
  | k + 1, i, hi => by
    rw [rootF]
    split
    · omega
    · have := hd.2 i hi
      have := rootF_le hd (k := k) (i := (L.getD i 0).toNat) (by omega)
      omega
theorem rootL_le {L : List Int} {m i : Nat} (hd : Down L m) (hi : i < m) : rootL L i ≤ i := rootF_le hd hi
def joinL (L : List Int) (i j : Nat) : List Int := L.set (max (rootL L i) (rootL L j)) (min (rootL L i) (rootL L j) : Nat)
theorem getD_set (l : List Int) (i j : Nat) (x : Int) : (l.set i x).getD j 0 = if i = j ∧ i < l.length then x else l.getD j 0 := by
  simp only [List.getD_eq_getElem?_getD, List.getElem?_set]
  by_cases h : i = j
  · subst h
    by_cases h2 : i < l.length
    · simp [h2]
    · simp [h2]
  · simp [h]
theorem Down.set {L : List Int} {m i : Nat} {x : Nat} (hd : Down L m) (hi : i < m) (hx : x ≤ i) : Down (L.set i x) m := by
  refine ⟨by simp [hd.1], fun k hk => ?_⟩
  have hl := hd.1
  rw [getD_set]
  split
  · rename_i h; obtain ⟨rfl, _⟩ := h; omega
  · exact hd.2 k hk
theorem joinL_down {L : List Int} {m i j : Nat} (hd : Down L m) (hi : i < m) (hj : j < m) : Down (joinL L i j) m := by
  have h1 := rootL_le hd hi
  have h2 := rootL_le hd hj
  exact hd.set (by omega) (by omega)
def startL (m : Nat) : List Int := (List.range m).map fun k : Nat => (k : Int)
theorem startL_getD {m k : Nat} (h : k < m) : (startL m).getD k 0 = k := by
  simp [startL, List.getD_eq_getElem?_getD, h]
theorem startL_down (m : Nat) : Down (startL m) m := by
  refine ⟨by simp [startL], fun k hk => ?_⟩
  rw [startL_getD hk]
  omega
def firstsL (L : List Int) (m : Nat) : List Int := ((List.range m).filter fun k => decide (rootL L k = k)).map fun k : Nat => (k : Int)
theorem firstsL_succ (L : List Int) (i : Nat) : firstsL L (i + 1) = firstsL L i ++ (if rootL L i = i then [(i : Int)] else []) := by
  unfold firstsL
  rw [List.range_succ, List.filter_append, List.map_append]
  congr 1
  by_cases h : rootL L i = i <;> simp [h]
theorem firstsL_len (L : List Int) (m : Nat) : (firstsL L m).length ≤ m := by
  unfold firstsL
  rw [List.length_map]
  exact Nat.le_trans (List.length_filter_le _ _) (by simp)
theorem mem_firstsL {L : List Int} {m : Nat} {x : Int} (h : x ∈ firstsL L m) : ∃ k : Nat, x = k ∧ k < m ∧ rootL L k = k := by
  unfold firstsL at h
  rw [List.mem_map] at h
  obtain ⟨k, h1, rfl⟩ := h
  rw [List.mem_filter] at h1
  exact ⟨k, rfl, by simpa using h1.1, by simpa using h1.2⟩
theorem AppG.sl {c0 : Nat} {h : FH} {c : Nat} {v : Value} {n : Nat} {L : List Int} (ha : AppG c0 h c v n (ints L)) : SlI h c v 1 n L := by
  obtain ⟨h1, h2, h3, i, op, rfl, h5, h6, h7, h8⟩ := ha
  have hl : L.length = n := by simpa using h1
  refine ⟨by omega, h2, some ⟨i, 0, none⟩, n, rfl, .inr ⟨i, 0, ints L, rfl, h6, ⟨false, op, h7⟩, ?_⟩⟩
  rw [List.drop_zero, List.take_of_length_le (by simp [hl])]
end Go.Ab

namespace Go.Proofs.Ytcnndelmnobigaa
open Go Go.Ab Go.Proofs
set_option maxRecDepth 100000
set_option linter.unusedVariables false
set_option linter.unusedSimpArgs false
theorem max2_int (k : IntKind) (a b : Int) : foldV max2 [.int k a, .int k b] = some (.int k (if a < b then b else a)) := by
  simp [foldV, max2]
theorem min2_int (k : IntKind) (a b : Int) : foldV min2 [.int k a, .int k b] = some (.int k (if b < a then b else a)) := by
  simp [foldV, min2]
structure Uf (h : FH) (p b m : Nat) (L : List Int) : Prop where
  st : h.f p = some (.cells false none [.slice (some ⟨b, 0, none⟩) m m])
  up : h.f b = some (.cells false none (ints L))
  ne : p ≠ b
  dn : Down L m
  le : m ≤ 1000000
theorem Uf.keep {h h' : FH} {p b m : Nat} {L : List Int} (u : Uf h p b m L) (h1 : h'.f p = h.f p) (h2 : h'.f b = h.f b) : Uf h' p b m L := ⟨h1.trans u.st, h2.trans u.up, u.ne, u.dn, u.le⟩
theorem Uf.same {h h' : FH} {p b m c : Nat} {L : List Int} (u : Uf h p b m L) (hs : Same c h h') (hp : p < 256 * c) (hb : b < 256 * c) : Uf h' p b m L := u.keep (hs p hp) (hs b hb)
theorem Uf.ld {h : FH} {p b m : Nat} {L : List Int} (u : Uf h p b m L) : ld1 h (.pointer (some ⟨p, 0, none⟩)) = some (.slice (some ⟨b, 0, none⟩) m m) := by
  rw [ld1_holds' ⟨false, none, u.st⟩]; rfl
theorem Uf.rd {h : FH} {p b m : Nat} {L : List Int} (u : Uf h p b m L) {i : Nat} (hi : i < m) : ld1 h (.pointer (some ⟨b, i, none⟩)) = some (.int .i64 (L.getD i 0)) := by
  have := u.dn.1
  rw [ld1_holds' ⟨false, none, u.up⟩, ints_getD _ _ (by omega)]
theorem stN_own1 {h : FH} {b : Nat} {w v : Value} (hg : h.f b = some (.cells false none [w])) (hf : isFlat v = true) : stN h 1 (.pointer (some ⟨b, 0, none⟩)) (.agg #[v]) = some (newB h b [v]) := by
  have hg' : HeapC.get h b = some (.cells false none [w]) := hg
  simp [stN, asPtr, Value.cells, wrCells, hg', hf, splice]
  rfl
theorem fill_loop (h0 : FH) (p b m c : Nat) (v2 : Value) (df : List Nat) (hv : OkV c v2) (hp : p < 256 * c) (hb : b < 256 * c) (hne : p ≠ b) (hm : m ≤ 1000000) (h1 : h0.f p = some (.cells false none [.slice (some ⟨b, 0, none⟩) m m])) :
    ∀ (k i : Nat) (X : List Int), i + k = m → X.length = m → (∀ j, j < i → X.getD j 0 = j) →
    Ans (G (f71_k71000 none) [v2, ptrTo p, .int .i64 m, .int .i64 i] (newB h0 b (ints X)) c df) fun r => r = { e := .exit 0, vs := [v2, ptrTo p, .int .i64 m, .int .i64 m], h := newB h0 b (ints (startL m)), c := c, df := df } := by
  intro k
  induction k with
  | zero =>
    intro i X hi hX hf
    obtain rfl : i = m := by omega
    have e : X = startL i := by
      refine List.ext_getElem (by rw [hX]; simp [startL]) fun j h1 h2 => ?_
      have := hf j (by omega)
      rw [List.getD_eq_getElem?_getD, List.getElem?_eq_getElem h1] at this
      simp only [Option.getD_some] at this
      rw [this]; simp [startL]
    rw [e]
    refine Ans.loop (fun q r => f71_N71000) (fun q => f71_Z71000) ?_
    unfold f71_L71000
    have fx := True.intro
    refine Ans.go ?_
    clear fx
    (have fx := hv; refine Ans.ex0 ?_; clear fx)
    rfl
  | succ k ih =>
    intro i X hi hX hf
    have ll : ld1 (newB h0 b (ints X)) (.pointer (some ⟨p, 0, none⟩)) = some (.slice (some ⟨b, 0, none⟩) m m) := by
      rw [ld1_newB_ne _ _ _ _ _ hne, ld1_holds' ⟨false, none, h1⟩]; rfl
    have hs : stN (newB h0 b (ints X)) 1 (.pointer (some ⟨b, i, none⟩)) (.int .i64 i) = some (newB h0 b (ints (X.set i i))) := by
      rw [st1_int _ _ _ _ _ _ (by simp; omega), ints_set]
    refine Ans.loop (fun q r => f71_N71000) (fun q => f71_Z71000) ?_
    unfold f71_L71000
    have fx := And.intro ll hs
    refine Ans.go ?_
    clear fx
    (have fx := And.intro hv (And.intro hp hb); refine Ans.nxB (B := newB h0 b (ints (X.set i i))) ?_ ?_; exact Upto.both (OkVs.ints _ _) (Upto.refl _ _) hb; clear fx)
    refine ih (i + 1) (X.set i i) (by omega) (by simp [hX]) (fun j hj => ?_)
    rw [getD_set]
    by_cases e : i = j
    · rw [if_pos ⟨e, by omega⟩, e]
    · rw [if_neg (fun q => e q.1)]; exact hf j (by omega)
theorem newUnion_sp (m : Nat) (h : FH) (c : Nat) (df : List Nat) (hm : m ≤ 1000000) :
    Ans (G (.fn 71) [.int .i64 m] h c df) fun r => r = { e := .ret, vs := [.agg #[.slice (some ⟨256 * (c + 1) + 1, 0, none⟩) m m]], h := r.h, c := c + 1 + 1 + 1 + 1, df := [] } ∧ Same c h r.h ∧ r.h.f (256 * (c + 1) + 1) = some (.cells false none (ints (startL m))) := by
  refine Ans.call' (fun r e => f71_go e) ?_
  unfold f71_S
  have mk := mkS_int 1 8 .i64 .i64 m (by omega) (by omega)
  obtain ⟨B, hB⟩ : ∃ B, 256 * (c + 1) + 1 = B := ⟨_, rfl⟩
  obtain ⟨Q, hQ⟩ : ∃ Q, 256 * (c + 1) + 3 = Q := ⟨_, rfl⟩
  rw [hB, hQ]
  have hbl : bldV [(.slice none 0 0)] [(0, 1, (.slice (some ⟨B, 0, none⟩) m m))] = some (.agg #[.slice (some ⟨B, 0, none⟩) m m]) := rfl
  have st1 : stN (newB (newB (newB h (256 * c) [(.slice none 0 0)]) B (ints (List.replicate m 0))) Q [(.slice none 0 0)]) 1 (.pointer (some ⟨Q, 0, none⟩)) (.agg #[.slice (some ⟨B, 0, none⟩) m m]) = some (newB (newB (newB h (256 * c) [(.slice none 0 0)]) B (ints (List.replicate m 0))) Q [.slice (some ⟨B, 0, none⟩) m m]) := by
    rw [stN_own1 (w := .slice none 0 0) (by rw [newB_f, if_pos rfl]) rfl, newB_newB]
  obtain ⟨h0, hh0⟩ : ∃ h0, h0 = newB (newB h (256 * c) [(.slice none 0 0)]) Q [.slice (some ⟨B, 0, none⟩) m m] := ⟨_, rfl⟩
  have ec : newB (newB (newB h (256 * c) [(.slice none 0 0)]) B (ints (List.replicate m 0))) Q [.slice (some ⟨B, 0, none⟩) m m] = newB h0 B (ints (List.replicate m 0)) := by
    rw [hh0]
    apply FH.ext; intro j
    simp only [newB_f]
    by_cases e1 : j = Q <;> by_cases e2 : j = B <;> simp [e1, e2] <;> omega
  rw [ec] at st1
  have hq : h0.f Q = some (.cells false none [.slice (some ⟨B, 0, none⟩) m m]) := by rw [hh0, newB_f, if_pos rfl]
  have hc' : h0.f (256 * c) = some (.cells false none [.slice none 0 0]) := by rw [hh0, newB_f, if_neg (by omega), newB_f, if_pos rfl]
  have hl := fun v2 hv => Ans.eq (fill_loop h0 Q B m (c + 1 + 1 + 1) v2 [] hv (by omega) (by omega) (by omega) hm hq m 0 (List.replicate m 0) (by omega) (by simp) (fun j hj => by omega))
  have hl := hl (ptrTo (256 * c)) (OkV.ptrTo (by omega))
  simp only [Int.ofNat_eq_natCast, Int.cast_ofNat_Int] at hl
  have ll : ∀ X, ld1 (newB h0 B X) (.pointer (some ⟨Q, 0, none⟩)) = some (.slice (some ⟨B, 0, none⟩) m m) := fun X => by rw [ld1_newB_ne _ _ _ _ _ (by omega), ld1_holds' ⟨false, none, hq⟩]; rfl
  have lN : ∀ X, ldN (newB h0 B X) 1 (.pointer (some ⟨Q, 0, none⟩)) = some (.agg #[.slice (some ⟨B, 0, none⟩) m m]) := fun X => by rw [ldN_newB_ne _ _ _ _ _ _ (by omega), ldN1_own ⟨false, none, hq⟩]
  have hfin := stN_own1 (h := newB h0 B (ints (startL m))) (b := 256 * c) (w := .slice none 0 0) (v := .slice (some ⟨B, 0, none⟩) m m) (by rw [newB_f, if_neg (by omega), hc']) rfl
  obtain ⟨K, hK⟩ : ∃ K, newB (newB h0 B (ints (startL m))) (256 * c) [.slice (some ⟨B, 0, none⟩) m m] = K := ⟨_, rfl⟩
  rw [hK] at hfin
  have lK : ldN K 1 (.pointer (some ⟨256 * c, 0, none⟩)) = some (.agg #[.slice (some ⟨B, 0, none⟩) m m]) := ldN1_own ⟨false, none, by show K.f _ = _; rw [← hK, newB_f, if_pos rfl]⟩
  repeat' (first | ((with_reducible first | refine Ans.bz ?_ | refine Ans.r1 ?_ | refine Ans.pkT ?_ | refine Ans.pkF ?_); try dsimp only [v_zero, v_succ]) | (with_reducible first | refine Ans.btL ?_ | refine Ans.bfL ?_ | refine Ans.gyT ?_ | refine Ans.gyF ?_ | refine Ans.gyG ?_ | refine Ans.bb ?_ | refine Ans.bc ?_ | refine Ans.ba ?_) | ((with_reducible first | refine Ans.ct ?_ ?_); (focus (simp (disch := (first | omega | with_reducible assumption | (simp <;> omega) | fail)) [mk, hbl, st1, ll, lN, hl, hfin, lK, -ldN_newB_same]; done))) | ((with_reducible first | refine Ans.cf ?_ ?_); (focus (simp (disch := (first | omega | with_reducible assumption | (simp <;> omega) | fail)) [mk, hbl, st1, ll, lN, hl, hfin, lK, -ldN_newB_same]; done))) | (refine Ans.step (by simp (disch := (first | omega | with_reducible assumption | (simp <;> omega) | fail)) [mk, hbl, st1, ll, lN, hl, hfin, lK, -ldN_newB_same, -List.getD_eq_getElem?_getD] <;> rfl) ?_; try dsimp only [v_zero, v_succ]) | fail)
  refine .done ⟨rfl, ?_, ?_⟩
  · intro b hb
    show K.f b = _
    rw [← hK, newB_f, if_neg (by omega), newB_f, if_neg (by omega), hh0, newB_f, if_neg (by omega), newB_f, if_neg (by omega)]
  · show K.f B = _
    rw [← hK, newB_f, if_neg (by omega), newB_f, if_pos rfl]
theorem root_loop (h : FH) (p b m c : Nat) (L : List Int) (u : Uf h p b m L) (hp : p < 256 * c) (df : List Nat) : ∀ (k i : Nat), i < k → i < m →
    Ans (G (f46_k46000 none) [ptrTo p, .int .i64 i] h c df) fun r => r = { e := .exit 0, vs := [ptrTo p, .int .i64 (rootL L i)], h := h, c := c, df := df } := by
  intro k
  induction k with
  | zero => intro i h1; omega
  | succ k ih =>
    intro i h1 hi
    have l1 := u.ld
    have l2 := u.rd hi
    have d := u.dn.2 i hi
    refine Ans.loop (fun q r => f46_N46000) (fun q => f46_Z46000) ?_
    unfold f46_L46000
    by_cases e : L.getD i 0 = i
    · rw [rootL_self e]
      rw [e] at l2
      have fx := And.intro l1 l2
      refine Ans.go ?_
      clear fx
      (have fx := hp; refine Ans.ex0 ?_; clear fx)
      rfl
    · rw [rootL_next u.dn hi e]
      obtain ⟨x, hx⟩ : ∃ x : Nat, L.getD i 0 = x := ⟨(L.getD i 0).toNat, by omega⟩
      rw [hx] at l2 d e ⊢
      rw [Int.toNat_natCast]
      have fx := And.intro l1 l2
      refine Ans.go ?_
      clear fx
      (have fx := hp; refine Ans.nx0 ?_; clear fx)
      exact ih x (by omega) (by omega)
theorem root_sp (h : FH) (p b m c : Nat) (L : List Int) (u : Uf h p b m L) (hp : p < 256 * c) (i : Nat) (hi : i < m) (df : List Nat) : G (.fn 46) [ptrTo p, .int .i64 i] h c df = some { e := .ret, vs := [.int .i64 (rootL L i)], h := h, c := c, df := [] } := by
  refine pure_of' (fun r e => f46_go e) (by simp) ?_
  unfold f46_S
  have hr := Ans.eq (root_loop h p b m (c + 1) L u (by omega) [] (i + 1) i (by omega) hi)
  have fx := hr
  refine Ans.go ?_
  clear fx
  (have fx := True.intro; exact Ans.pu)
theorem join_sp (h : FH) (p b m c : Nat) (L : List Int) (u : Uf h p b m L) (hp : p < 256 * c) (hb : b < 256 * c) (i j : Nat) (hi : i < m) (hj : j < m) (df : List Nat) :
    G (.fn 72) [ptrTo p, .int .i64 i, .int .i64 j] h c df = some { e := .ret, vs := [.tuple #[]], h := newB h b (ints (joinL L i j)), c := c, df := [] } := by
  have c1 := fun c' (hc : c ≤ c') => callF_of (root_sp h p b m c' L u (by omega) i hi [])
  have c2 := fun c' (hc : c ≤ c') => callF_of (root_sp h p b m c' L u (by omega) j hj [])
  have r1 := rootL_le u.dn hi
  have r2 := rootL_le u.dn hj
  have l1 := u.ld
  have e1 : (if ((rootL L i : Nat) : Int) < (rootL L j : Nat) then ((rootL L j : Nat) : Int) else (rootL L i : Nat)) = ((max (rootL L i) (rootL L j) : Nat) : Int) := by split <;> omega
  have e2 : (if ((rootL L j : Nat) : Int) < (rootL L i : Nat) then ((rootL L j : Nat) : Int) else (rootL L i : Nat)) = ((min (rootL L i) (rootL L j) : Nat) : Int) := by split <;> omega
  have m1 := max2_int .i64 (rootL L i) (rootL L j)
  have m2 := min2_int .i64 (rootL L i) (rootL L j)
  rw [e1] at m1
  rw [e2] at m2
  clear e1 e2
  have hl := u.dn.1
  have hw : stN h 1 (.pointer (some ⟨b, max (rootL L i) (rootL L j), none⟩)) (.int .i64 (min (rootL L i) (rootL L j) : Nat)) = some (newB h b (ints (joinL L i j))) := by
    rw [st1_get (show HeapC.get h b = _ from u.up) (by simp; omega) rfl rfl, ints_set]; rfl
  obtain ⟨M, hM⟩ : ∃ M, max (rootL L i) (rootL L j) = M := ⟨_, rfl⟩
  obtain ⟨N, hN⟩ : ∃ N, min (rootL L i) (rootL L j) = N := ⟨_, rfl⟩
  rw [hM] at m1 hw
  rw [hN] at m2 hw
  have hS : f72_S G (ptrTo p) (.int .i64 i) (.int .i64 j) h c = some { e := .ret, vs := [.tuple #[]], h := newB h b (ints (joinL L i j)), c := c + 1 + 1, df := [] } := by
    refine Ans.eq ?_
    unfold f72_S
    have fx := And.intro c1 (And.intro c2 (And.intro l1 (And.intro m1 (And.intro m2 hw))))
    refine Ans.go ?_
    clear fx
    exact .done rfl
  rw [f72_go hS, gcR_to (B := newB h b (ints (joinL L i j))) ?_ ?_ ?_]
  · exact OkVs.cons ⟨.tuple #[], .tuple rfl (fun k x y h => by simp at h)⟩ (OkVs.nil c)
  · exact fun _ _ => rfl
  · exact Upto.old hb (OkVs.ints _ _) (Upto.refl _ _)
end Go.Proofs.Ytcnndelmnobigaa

namespace Go.Proofs.Ytcnndelmnobigaa
open Go Go.Ab Go.Proofs
set_option maxRecDepth 100000
set_option linter.unusedVariables false
set_option linter.unusedSimpArgs false
theorem firsts_loop (c0 p b m : Nat) (L : List Int) (hp : p < 256 * c0) (hb : b < 256 * c0) (df : List Nat) : ∀ (k i c : Nat) (h : FH) (v : Value), i + k = m → c0 ≤ c → Uf h p b m L → AppS c0 h c v 1 (firstsL L i).length (firstsL L i) →
    Ans (G (f45_k45000 none) [ptrTo p, v, .int .i64 m, .int .i64 i] h c df) fun r => r.e = .exit 0 ∧ r.v 0 = ptrTo p ∧ AppS c0 r.h r.c (r.v 1) 1 (firstsL L m).length (firstsL L m) ∧ c ≤ r.c ∧ r.df = df ∧ Same c0 h r.h := by
  intro k
  induction k with
  | zero =>
    intro i c h v hi hc u ha
    obtain rfl : i = m := by omega
    refine Ans.loop' (fun q r => f45_N45000) (fun q => f45_Z45000) ?_
    unfold f45_L45000
    have fx := True.intro
    refine Ans.go ?_
    clear fx
    refine Ans.exitN ⟨rfl, rfl, ?_, (by show c ≤ c + 1; omega), rfl, fun _ _ => rfl⟩
    exact ha.mono (by show c ≤ c + 1; omega)
  | succ k ih =>
    intro i c h v hi hc u ha
    have c1 := fun c' (hc : c ≤ c') => callF_of (root_sp h p b m c' L u (by omega) i (by omega) [])
    have hfl := firstsL_len L i
    have hle := u.le
    have hsu := firstsL_succ L i
    refine Ans.loop' (fun q r => f45_N45000) (fun q => f45_Z45000) ?_
    unfold f45_L45000
    by_cases e : rootL L i = i
    · rw [if_pos e] at hsu
      rw [e] at c1
      have hb1 : bldL [.int .i64 0] [(0, 1, .int .i64 i)] = some (ints [(i : Int)]) := rfl
      obtain ⟨v', h', e1, e2, e3, e4⟩ := (ha.mono (c' := c + 1 + 1 + 1) (by omega)).app (c' := c + 1 + 1 + 1 + 1) [(i : Int)] rfl (by omega) 8 (256 * (c + 1 + 1 + 1) + 2) (256 * (c + 1 + 1 + 1) + 3) (by omega) (by omega) (by omega) (by omega) (by omega) (by omega)
      have fx := And.intro c1 (And.intro hb1 e1)
      refine Ans.go ?_
      clear fx
      refine Ans.nextN ?_
      have u' : Uf h' p b m L := u.same e3 hp hb
      refine (ih (i + 1) _ h' v' (by omega) (by omega) u' ?_).mono ?_
      · rw [hsu, List.length_append]
        exact e2.mono (by omega)
      · rintro r ⟨q1, q2, q3, q4, q5, q6⟩
        exact ⟨q1, q2, q3, by omega, q5, e3.trans q6⟩
    · rw [if_neg e, List.append_nil] at hsu
      have e' : ¬ ((rootL L i : Nat) : Int) = i := by omega
      have fx := c1
      refine Ans.go ?_
      clear fx
      refine Ans.nextN ?_
      refine (ih (i + 1) _ h v (by omega) (by omega) u (by rw [hsu]; exact ha.mono (by omega))).mono ?_
      rintro r ⟨q1, q2, q3, q4, q5, q6⟩
      exact ⟨q1, q2, q3, by omega, q5, q6⟩
theorem firsts_sp (p b m : Nat) (L : List Int) (h : FH) (c : Nat) (df : List Nat) (u : Uf h p b m L) (hp : p < 256 * c) (hb : b < 256 * c) :
    Ans (G (.fn 45) [ptrTo p] h c df) fun r => ∃ v, r = { e := .ret, vs := [v], h := r.h, c := r.c, df := [] } ∧ c ≤ r.c ∧ Same c h r.h ∧ AppS c r.h r.c v 1 (firstsL L m).length (firstsL L m) := by
  refine Ans.call' (fun r e => f45_go e) ?_
  unfold f45_S
  have l1 := u.ld
  obtain ⟨⟨re, rv, rh, rc, rd⟩, hr, r1, r2, r3, r4, r5, r6⟩ := firsts_loop c p b m L hp hb [] m 0 (c + 1 + 1 + 1) h (.slice none 0 0) (by omega) (by omega) u (AppS.nil _ _ _ _)
  simp only [Int.ofNat_eq_natCast, Int.cast_ofNat_Int] at hr
  simp only at r1 r4 r5 r6
  subst r1 r5
  have fx := And.intro l1 hr
  refine Ans.go ?_
  clear fx
  refine .done ⟨_, rfl, (by show c ≤ rc + 1; omega), r6, AppS.mono (c := rc) (by show rc ≤ rc + 1; omega) r3⟩
end Go.Proofs.Ytcnndelmnobigaa

namespace Go.Proofs.Ytcnndelmnobigaa
open Go Go.Ab Go.Proofs
set_option maxRecDepth 100000
set_option linter.unusedVariables false
set_option linter.unusedSimpArgs false
structure MatchI (y s : Value) (n : Nat) (Gl : List Int) (gb : Nat) (I : List (List Int) → (Nat → Prop) → FH → Nat → Prop) (J : (Nat → Prop) → FH → Nat → Prop) : Prop where
  stab : ∀ D O h c h' c', I D O h c → c ≤ c' → (∀ b, b < 256 * c → h'.f b = h.f b) → I D O h' c'
  jstab : ∀ O h c h' c', J O h c → c ≤ c' → (∀ b, b < 256 * c → h'.f b = h.f b) → J O h' c'
  own : ∀ D O h c, I D O h c → ∀ b, O b → b < 256 * c
  read : ∀ D O h c, I D O h c → Holds h gb [s] ∧ SlI h c s 20 n Gl
  step : ∀ D O h c t f i, t < n → f < 4 → i < 4 → i ≠ f → mSkip Gl t f = false → (∃ R, D ++ (mRow Gl t f i :: R) = allM Gl n) → I D O h c →
    Ans (callV G h c y [av (mRow Gl t f i)]) (fun q => c ≤ q.2.2 ∧ ∃ O', (∀ b, O' b → O b ∨ 256 * c ≤ b) ∧ (∀ b, b < 256 * c → ¬ O b → q.2.1.f b = h.f b) ∧
      ((q.1 = .bool true ∧ I (D ++ [mRow Gl t f i]) O' q.2.1 q.2.2) ∨ (q.1 = .bool false ∧ J O' q.2.1 q.2.2)))
variable {y s : Value} {n : Nat} {Gl : List Int} {gb : Nat} {I : List (List Int) → (Nat → Prop) → FH → Nat → Prop} {J : (Nat → Prop) → FH → Nat → Prop}
set_option maxHeartbeats 1000000 in
theorem match_i (hI : MatchI y s n Gl gb I J) (t f : Nat) (ht : t < n) (hf : f < 4) (hsk : mSkip Gl t f = false) (hG : Gl.length = n * 20) (b6 : Nat) (v3 v9 v10 v16 v17 : Value) (df : List Nat) :
    ∀ (k i c : Nat) (D : List (List Int)) (O : Nat → Prop) (h : FH), i + k = 4 → (∃ R, D ++ (mI Gl t f k i ++ R) = allM Gl n) → I D O h c → b6 < 256 * c → ¬ O b6 → Holds h b6 (ints (faceL Gl t f)) →
    Ans (G (f77_k77002 none) [y, .int .i64 t, .int .i64 f, ptrTo b6, v9, v10, v3, v16, v17, .int .i64 i] h c df) fun r => c ≤ r.c ∧ r.df = df ∧ ∃ O', (∀ b, O' b → O b ∨ 256 * c ≤ b) ∧ (∀ b, b < 256 * c → ¬ O b → r.h.f b = h.f b) ∧
      ((r.e = .exit 4 ∧ r.vs = [y, .int .i64 t, .int .i64 f, ptrTo b6, v9, v10, v3, v16, v17, .int .i64 4] ∧ I (D ++ mI Gl t f k i) O' r.h r.c) ∨
       (r.e = .ret ∧ (∃ j : Nat, r.vs = [y, .int .i64 t, .int .i64 f, ptrTo b6, v9, v10, v3, v16, v17, .int .i64 j]) ∧ J O' r.h r.c)) := by
  intro k
  induction k with
  | zero =>
    intro i c D O h hi hp hI0 hb6 hO hh
    obtain rfl : i = 4 := by omega
    refine Ans.loop' (fun q r => f77_N77002) (fun q => f77_Z77002) ?_
    unfold f77_L77002
    have fx := True.intro
    refine Ans.go ?_
    clear fx
    refine Ans.exitN ⟨(by show c ≤ c + 1; omega), rfl, O, fun b hb => .inl hb, fun b _ _ => rfl, .inl ⟨rfl, rfl, ?_⟩⟩
    rw [mI, List.append_nil]
    exact hI.stab _ _ _ _ _ _ hI0 (by show c ≤ c + 1; omega) (fun b _ => rfl)
  | succ k ih =>
    intro i c D O h hi hp hI0 hb6 hO hh
    obtain ⟨R, hp⟩ := hp
    have hfl := faceL_length hG ht hf
    have hit : (i : Int) < 4 := by omega
    have m0 : ld1 h (.pointer (some ⟨b6, 0, none⟩)) = some (.int .i64 (tetL (faceL Gl t f))) := by rw [ld1_holds' hh, ints_getD _ _ (by omega)]; rfl
    have mp : ∀ j : Nat, j < 4 → ld1 h (.pointer (some ⟨b6, 1 + j, none⟩)) = some (.int .i64 ((permL (faceL Gl t f)).getD j 0)) := fun j hj => by
      rw [ld1_holds' hh, ints_getD _ _ (by omega)]
      unfold permL
      rw [getD_take _ _ _ hj, getD_drop]
    have m1 := mp f hf
    have m2 := mp i (by omega)
    by_cases hif : i = f
    · subst hif
      refine Ans.loop' (fun q r => f77_N77002) (fun q => f77_Z77002) ?_
      unfold f77_L77002
      have fx := True.intro
      refine Ans.go ?_
      clear fx
      refine Ans.nextN ?_
      refine (ih (i + 1) _ D O h (by omega) ⟨R, by rw [mI, if_pos rfl, List.nil_append] at hp; exact hp⟩ (hI.stab _ _ _ _ _ _ hI0 (by omega) (fun b _ => rfl)) (by omega) hO hh).mono ?_
      rintro r ⟨q1, q2, O', q3, q4, q5⟩
      refine ⟨by omega, q2, O', fun b hb => (q3 b hb).imp id (by omega), fun b h1 h2 => q4 b (by omega) h2, ?_⟩
      rw [mI, if_pos rfl, List.nil_append]
      exact q5
    · rw [mI, if_neg hif] at hp
      obtain ⟨⟨v, h', c'⟩, hq, hc, O', o1, o2, o3⟩ := hI.step D O h (c + 1 + 1 + 1) t f i ht hf (by omega) hif hsk ⟨mI Gl t f k (i + 1) ++ R, by simpa using hp⟩ (hI.stab _ _ _ _ _ _ hI0 (by omega) (fun b _ => rfl))
      simp only at hc o1 o2 o3
      have hm : mRow Gl t f i = [(t : Int), (f : Int), (i : Int), tetL (faceL Gl t f), (permL (faceL Gl t f)).getD f 0, (permL (faceL Gl t f)).getD i 0] := rfl
      have b6' := bld6 (t : Int) f i (tetL (faceL Gl t f)) ((permL (faceL Gl t f)).getD f 0) ((permL (faceL Gl t f)).getD i 0)
      rw [← hm] at b6'
      obtain ⟨M, hM⟩ : ∃ M, mRow Gl t f i = M := ⟨_, rfl⟩
      rw [hM] at hq b6' o3 hp
      have hne : ¬ ((i : Int) = f) := by omega
      rcases o3 with ⟨rfl, hI1⟩ | ⟨rfl, hJ⟩
      · refine Ans.loop' (fun q r => f77_N77002) (fun q => f77_Z77002) ?_
        unfold f77_L77002
        have fx := And.intro m0 (And.intro m1 (And.intro m2 (And.intro b6' hq)))
        refine Ans.go ?_
        clear fx
        refine Ans.nextN ?_
        refine (ih (i + 1) _ (D ++ [M]) O' h' (by omega) ⟨R, by simpa using hp⟩ (hI.stab _ _ _ _ _ _ hI1 (by omega) (fun b _ => rfl)) (by omega) (fun ho => (o1 b6 ho).elim hO (by omega)) (hh.eqf (o2 b6 (by omega) hO))).mono ?_
        rintro r ⟨q1, q2, O2, q3, q4, q5⟩
        refine ⟨by omega, q2, O2, fun b hb => ?_, fun b h1 h2 => ?_, ?_⟩
        · rcases q3 b hb with h1 | h1
          · exact (o1 b h1).imp id (by omega)
          · exact .inr (by omega)
        · rw [q4 b (by omega) (fun ho => (o1 b ho).elim h2 (by omega)), o2 b (by omega) h2]
        · rw [mI, if_neg hif, hM]
          rw [List.append_assoc] at q5
          exact q5
      · refine Ans.loop' (fun q r => f77_N77002) (fun q => f77_Z77002) ?_
        unfold f77_L77002
        have fx := And.intro m0 (And.intro m1 (And.intro m2 (And.intro b6' hq)))
        refine Ans.go ?_
        clear fx
        refine Ans.retN ⟨(by show c ≤ c'; omega), rfl, O', fun b hb => (o1 b hb).imp id (by omega), fun b h1 h2 => o2 b (by omega) h2, .inr ⟨rfl, ⟨i, rfl⟩, hJ⟩⟩
end Go.Proofs.Ytcnndelmnobigaa

namespace Go.Proofs.Ytcnndelmnobigaa
open Go Go.Ab Go.Proofs
set_option maxRecDepth 100000
set_option linter.unusedVariables false
set_option linter.unusedSimpArgs false
variable {y s : Value} {n : Nat} {Gl : List Int} {gb : Nat} {I : List (List Int) → (Nat → Prop) → FH → Nat → Prop} {J : (Nat → Prop) → FH → Nat → Prop}
set_option maxHeartbeats 1000000 in
theorem match_f (hI : MatchI y s n Gl gb I J) (t : Nat) (ht : t < n) (hn : n ≤ 1000000) (hG : Gl.length = n * 20) (v9 v10 : Value) (df : List Nat) :
    ∀ (k f c : Nat) (D : List (List Int)) (O : Nat → Prop) (h : FH), f + k = 4 → (∃ R, D ++ (mF Gl t k f ++ R) = allM Gl n) → I D O h c →
    Ans (G (f77_k77001 none) [y, .int .i64 t, v9, v10, .int .i64 t, av (rowL Gl t), .int .i64 f] h c df) fun r => c ≤ r.c ∧ r.df = df ∧ ∃ O', (∀ b, O' b → O b ∨ 256 * c ≤ b) ∧ (∀ b, b < 256 * c → ¬ O b → r.h.f b = h.f b) ∧
      ((r.e = .exit 2 ∧ r.vs = [y, .int .i64 t, v9, v10, .int .i64 t, av (rowL Gl t), .int .i64 4] ∧ I (D ++ mF Gl t k f) O' r.h r.c) ∨
       (r.e = .ret ∧ (∃ j : Nat, r.vs = [y, .int .i64 t, v9, v10, .int .i64 t, av (rowL Gl t), .int .i64 j]) ∧ J O' r.h r.c)) := by
  intro k
  induction k with
  | zero =>
    intro f c D O h hf hp hI0
    obtain rfl : f = 4 := by omega
    refine Ans.loop' (fun q r => f77_N77001) (fun q => f77_Z77001) ?_
    unfold f77_L77001
    have fx := True.intro
    refine Ans.go ?_
    clear fx
    refine Ans.exitN ⟨(by show c ≤ c + 1; omega), rfl, O, fun b hb => .inl hb, fun b _ _ => rfl, .inl ⟨rfl, rfl, ?_⟩⟩
    rw [mF, List.append_nil]
    exact hI.stab _ _ _ _ _ _ hI0 (by show c ≤ c + 1; omega) (fun b _ => rfl)
  | succ k ih =>
    intro f c D O h hf hp hI0
    obtain ⟨R, hp⟩ := hp
    have hf4 : f < 4 := by omega
    have hfl := faceL_length hG ht hf4
    have hrl := rowL_length hG ht
    have x1 := ixV_avs (rowL Gl t) 4 5 .i64 f (by omega) (by omega) hrl
    rw [Int.toNat_natCast, row_face hf4] at x1
    obtain ⟨H, hH⟩ : ∃ H, H = newB h (256 * (c + 1) + 2) (ints (faceL Gl t f)) := ⟨_, rfl⟩
    have hst : stN (newB h (256 * (c + 1) + 2) [.int .i64 0, .int .i64 0, .int .i64 0, .int .i64 0, .int .i64 0]) 5 (.pointer (some ⟨256 * (c + 1) + 2, 0, none⟩)) (av (faceL Gl t f)) = some H := by rw [hH]; exact stN_all _ _ 5 _ _ hfl rfl
    have hh : Holds H (256 * (c + 1) + 2) (ints (faceL Gl t f)) := by rw [hH]; exact Holds.newB_same _ _ _
    have hs : ∀ b, b < 256 * c → H.f b = h.f b := fun b hb => by rw [hH, newB_f, if_neg (by omega)]
    clear hH
    have m0 : ld1 H (.pointer (some ⟨256 * (c + 1) + 2, 0, none⟩)) = some (.int .i64 (tetL (faceL Gl t f))) := by rw [ld1_holds' hh, ints_getD _ _ (by omega)]; rfl
    have m1 : ld1 H (.pointer (some ⟨256 * (c + 1) + 2, 1 + f, none⟩)) = some (.int .i64 ((permL (faceL Gl t f)).getD f 0)) := by
      rw [ld1_holds' hh, ints_getD _ _ (by omega)]
      unfold permL
      rw [getD_take _ _ _ hf4, getD_drop]
    have hsk : mSkip Gl t f = (decide (tetL (faceL Gl t f) < 0) || decide (tetL (faceL Gl t f) < t) || (decide (tetL (faceL Gl t f) = t) && decide ((permL (faceL Gl t f)).getD f 0 < f))) := rfl
    have skip : ∀ c', c ≤ c' → mSkip Gl t f = true → Ans (G (f77_k77001 none) [y, .int .i64 t, v9, v10, .int .i64 t, av (rowL Gl t), .int .i64 (f + 1 : Nat)] H c' df) fun r => c ≤ r.c ∧ r.df = df ∧ ∃ O', (∀ b, O' b → O b ∨ 256 * c ≤ b) ∧ (∀ b, b < 256 * c → ¬ O b → r.h.f b = h.f b) ∧
        ((r.e = .exit 2 ∧ r.vs = [y, .int .i64 t, v9, v10, .int .i64 t, av (rowL Gl t), .int .i64 4] ∧ I (D ++ mF Gl t (k + 1) f) O' r.h r.c) ∨
         (r.e = .ret ∧ (∃ j : Nat, r.vs = [y, .int .i64 t, v9, v10, .int .i64 t, av (rowL Gl t), .int .i64 j]) ∧ J O' r.h r.c)) := by
      intro c' hc' hk
      refine (ih (f + 1) c' D O H (by omega) ⟨R, by rw [mF, if_pos hk, List.nil_append] at hp; exact hp⟩ (hI.stab _ _ _ _ _ _ hI0 hc' hs)).mono ?_
      rintro r ⟨q1, q2, O', q3, q4, q5⟩
      refine ⟨by omega, q2, O', fun b hb => (q3 b hb).imp id (by omega), fun b h1 h2 => by rw [q4 b (by omega) h2, hs b h1], ?_⟩
      rw [mF, if_pos hk, List.nil_append]
      exact q5
    have inner : ∀ c' : Nat, c + 2 ≤ c' → mSkip Gl t f = false → Ans (G (f77_k77002 none) [y, .int .i64 t, .int .i64 f, ptrTo (256 * (c + 1) + 2), v9, v10, .int .i64 t, av (rowL Gl t), .int .i64 f, .int .i64 0] H c' df) fun r => c' ≤ r.c ∧ r.df = df ∧ ∃ O', (∀ b, O' b → O b ∨ 256 * c' ≤ b) ∧ (∀ b, b < 256 * c' → ¬ O b → r.h.f b = H.f b) ∧
        ((r.e = .exit 4 ∧ r.vs = [y, .int .i64 t, .int .i64 f, ptrTo (256 * (c + 1) + 2), v9, v10, .int .i64 t, av (rowL Gl t), .int .i64 f, .int .i64 4] ∧ I (D ++ mI Gl t f 4 0) O' r.h r.c) ∨
         (r.e = .ret ∧ (∃ j : Nat, r.vs = [y, .int .i64 t, .int .i64 f, ptrTo (256 * (c + 1) + 2), v9, v10, .int .i64 t, av (rowL Gl t), .int .i64 f, .int .i64 j]) ∧ J O' r.h r.c)) := fun c' hc' hk =>
      match_i hI t f ht hf4 hk hG (256 * (c + 1) + 2) (.int .i64 t) v9 v10 (av (rowL Gl t)) (.int .i64 f) df 4 0 c' D O H (by omega) ⟨mF Gl t k (f + 1) ++ R, by rw [mF, if_neg (by rw [hk]; simp)] at hp; simpa using hp⟩ (hI.stab _ _ _ _ _ _ hI0 (by omega) hs) (by omega) (fun ho => by have := hI.own _ _ _ _ hI0 _ ho; omega) hh
    obtain ⟨T, hT⟩ : ∃ T, tetL (faceL Gl t f) = T := ⟨_, rfl⟩
    obtain ⟨Y, hY⟩ : ∃ Y, (permL (faceL Gl t f)).getD f 0 = Y := ⟨_, rfl⟩
    rw [hT] at m0 hsk
    rw [hY] at m1 hsk
    refine Ans.loop' (fun q r => f77_N77001) (fun q => f77_Z77001) ?_
    unfold f77_L77001
    repeat' (first | ((with_reducible first | refine Ans.bz ?_ | refine Ans.r1 ?_ | refine Ans.pkT ?_ | refine Ans.pkF ?_); try dsimp only [v_zero, v_succ]) | (with_reducible first | refine Ans.btL ?_ | refine Ans.bfL ?_ | refine Ans.gyT ?_ | refine Ans.gyF ?_ | refine Ans.gyG ?_ | refine Ans.bb ?_ | refine Ans.bc ?_ | refine Ans.ba ?_) | ((with_reducible first | refine Ans.lsT ?_ ?_ | refine Ans.eqT ?_ ?_); (focus omega)) | ((with_reducible first | refine Ans.lsF ?_ ?_ | refine Ans.eqF ?_ ?_); (focus omega)) | (with_reducible first | refine Ans.lsS (fun _ => ?_) (fun _ => ?_) | refine Ans.eqS (fun _ => ?_) (fun _ => ?_)) | ((with_reducible first | refine Ans.addN ?_ ?_ | refine Ans.add ?_ ?_); (focus omega)) | ((with_reducible first | refine Ans.ct ?_ ?_); (focus (simp (disch := (first | omega | with_reducible assumption | (simp <;> omega) | fail)) [x1, hst, m0, m1]; done))) | ((with_reducible first | refine Ans.cf ?_ ?_); (focus (simp (disch := (first | omega | with_reducible assumption | (simp <;> omega) | fail)) [x1, hst, m0, m1]; done))) | (refine Ans.step (by simp (disch := (first | omega | with_reducible assumption | (simp <;> omega) | fail)) [x1, hst, m0, m1, -List.getD_eq_getElem?_getD] <;> rfl) ?_; try dsimp only [v_zero, v_succ]) | fail)
    all_goals first
      | exact Ans.nextN (skip _ (by omega) (by rw [hsk]; simp [*]))
      | skip
    all_goals
      have hk : mSkip Gl t f = false := by rw [hsk]; simp [*]
      refine Ans.head (inner _ (by omega) hk) ?_
      rintro ⟨re, rv, rh, rc, rd⟩ ⟨q1, q2, O', q3, q4, q5⟩
      simp only at q1 q2 q4 q5
      subst q2
      rcases q5 with ⟨rfl, rfl, q6⟩ | ⟨rfl, ⟨j, rfl⟩, q6⟩
      · have fx := True.intro
        refine Ans.go ?_
        clear fx
        refine Ans.nextN ?_
        refine (ih (f + 1) _ (D ++ mI Gl t f 4 0) O' rh (by omega) ⟨R, by rw [mF, if_neg (by rw [hk]; simp)] at hp; simpa using hp⟩ (hI.stab _ _ _ _ _ _ q6 (by omega) (fun b _ => rfl))).mono ?_
        rintro r ⟨w1, w2, O2, w3, w4, w5⟩
        refine ⟨by omega, w2, O2, fun b hb => ?_, fun b h1 h2 => ?_, ?_⟩
        · rcases w3 b hb with h1 | h1
          · exact (q3 b h1).imp id (by omega)
          · exact .inr (by omega)
        · rw [w4 b (by omega) (fun ho => (q3 b ho).elim h2 (by omega)), q4 b (by omega) h2, hs b h1]
        · rw [mF, if_neg (by rw [hk]; simp)]
          rw [List.append_assoc] at w5
          exact w5
      · have fx := True.intro
        refine Ans.go ?_
        clear fx
        exact Ans.retN ⟨(by show c ≤ rc; omega), rfl, O', fun b hb => (q3 b hb).imp id (by omega), fun b h1 h2 => by show rh.f b = h.f b; rw [q4 b (by omega) h2, hs b h1], .inr ⟨rfl, ⟨f, rfl⟩, q6⟩⟩
set_option maxHeartbeats 1000000 in
theorem match_t (hI : MatchI y s n Gl gb I J) (hn : n ≤ 1000000) (hG : Gl.length = n * 20) (df : List Nat) :
    ∀ (k t c : Nat) (D : List (List Int)) (O : Nat → Prop) (h : FH), t + k = n → D ++ mT Gl k t = allM Gl n → I D O h c →
    Ans (G (f77_k77000 none) [y, s, .int .i64 n, .int .i64 t] h c df) fun r => c ≤ r.c ∧ r.df = df ∧ ∃ O', (∀ b, O' b → O b ∨ 256 * c ≤ b) ∧ (∀ b, b < 256 * c → ¬ O b → r.h.f b = h.f b) ∧
      ((r.e = .exit 0 ∧ I (D ++ mT Gl k t) O' r.h r.c) ∨ (r.e = .ret ∧ J O' r.h r.c)) := by
  intro k
  induction k with
  | zero =>
    intro t c D O h ht hp hI0
    obtain rfl : t = n := by omega
    refine Ans.loop' (fun q r => f77_N77000) (fun q => f77_Z77000) ?_
    unfold f77_L77000
    have fx := True.intro
    refine Ans.go ?_
    clear fx
    refine Ans.exitN ⟨(by show c ≤ c + 1; omega), rfl, O, fun b hb => .inl hb, fun b _ _ => rfl, .inl ⟨rfl, ?_⟩⟩
    rw [mT, List.append_nil]
    exact hI.stab _ _ _ _ _ _ hI0 (by show c ≤ c + 1; omega) (fun b _ => rfl)
  | succ k ih =>
    intro t c D O h ht hp hI0
    have htn : t < n := by omega
    have hrl := rowL_length hG htn
    obtain ⟨hgb, hs0⟩ := hI.read _ _ _ _ hI0
    have l1 := hs0.row t (by omega) (by omega)
    simp only [Int.toNat_natCast] at l1
    obtain ⟨H, hH⟩ : ∃ H, H = newB h (256 * (c + 1) + 3) (ints (rowL Gl t)) := ⟨_, rfl⟩
    have hst : stN (newB h (256 * (c + 1) + 3) [(.int .i64 0), (.int .i64 0), (.int .i64 0), (.int .i64 0), (.int .i64 0), (.int .i64 0), (.int .i64 0), (.int .i64 0), (.int .i64 0), (.int .i64 0), (.int .i64 0), (.int .i64 0), (.int .i64 0), (.int .i64 0), (.int .i64 0), (.int .i64 0), (.int .i64 0), (.int .i64 0), (.int .i64 0), (.int .i64 0)]) 20 (.pointer (some ⟨256 * (c + 1) + 3, 0, none⟩)) (av (rowL Gl t)) = some H := by rw [hH]; exact stN_all _ _ 20 _ _ hrl rfl
    have hld : ldN H 20 (.pointer (some ⟨256 * (c + 1) + 3, 0, none⟩)) = some (av (rowL Gl t)) := by
      rw [hH, ldN_newB_same _ _ _ _ _ (by simp [hrl]), List.drop_zero, List.take_of_length_le (by simp [hrl])]; rfl
    have hs : ∀ b, b < 256 * c → H.f b = h.f b := fun b hb => by rw [hH, newB_f, if_neg (by omega)]
    clear hH
    have inner := match_f hI t htn hn hG s (.int .i64 n) df 4 0 (c + 1 + 1 + 1) D O H (by omega) ⟨mT Gl k (t + 1), by rw [mT] at hp; exact hp⟩ (hI.stab _ _ _ _ _ _ hI0 (by omega) hs)
    refine Ans.loop' (fun q r => f77_N77000) (fun q => f77_Z77000) ?_
    unfold f77_L77000
    have fx := And.intro hs0.ixs (And.intro l1 (And.intro hst hld))
    refine Ans.go ?_
    clear fx
    refine Ans.head inner ?_
    rintro ⟨re, rv, rh, rc, rd⟩ ⟨q1, q2, O', q3, q4, q5⟩
    simp only at q1 q2 q4 q5
    subst q2
    rcases q5 with ⟨rfl, rfl, q6⟩ | ⟨rfl, ⟨j, rfl⟩, q6⟩
    · have fx := True.intro
      refine Ans.go ?_
      clear fx
      refine Ans.nextN ?_
      refine (ih (t + 1) _ (D ++ mF Gl t 4 0) O' rh (by omega) (by rw [mT] at hp; simpa using hp) (hI.stab _ _ _ _ _ _ q6 (by omega) (fun b _ => rfl))).mono ?_
      rintro r ⟨w1, w2, O2, w3, w4, w5⟩
      refine ⟨by omega, w2, O2, fun b hb => ?_, fun b h1 h2 => ?_, ?_⟩
      · rcases w3 b hb with h1 | h1
        · exact (q3 b h1).imp id (by omega)
        · exact .inr (by omega)
      · rw [w4 b (by omega) (fun ho => (q3 b ho).elim h2 (by omega)), q4 b (by omega) h2, hs b h1]
      · rw [mT]
        rw [List.append_assoc] at w5
        exact w5
    · have fx := True.intro
      refine Ans.go ?_
      clear fx
      exact Ans.retN ⟨(by show c ≤ rc; omega), rfl, O', fun b hb => (q3 b hb).imp id (by omega), fun b h1 h2 => by show rh.f b = h.f b; rw [q4 b (by omega) h2, hs b h1], .inr ⟨rfl, q6⟩⟩
theorem matches_sp (hI : MatchI y s n Gl gb I J) (hn : n ≤ 1000000) {O : Nat → Prop} {h : FH} {c : Nat} (hI0 : I [] O h c) (df : List Nat) :
    Ans (G (.fn 77) [y, ptrTo gb] h c df) fun r => r.e = .ret ∧ r.vs = [.tuple #[]] ∧ r.df = [] ∧ c ≤ r.c ∧ ∃ O', (∀ b, O' b → O b ∨ 256 * c ≤ b) ∧ (∀ b, b < 256 * c → ¬ O b → r.h.f b = h.f b) ∧ (I (allM Gl n) O' r.h r.c ∨ J O' r.h r.c) := by
  refine Ans.call' (fun r e => f77_go e) ?_
  obtain ⟨hgb, hs0⟩ := hI.read _ _ _ _ hI0
  have hlen := hs0.len
  have e2 : ld1 h (.pointer (some ⟨gb, 0, none⟩)) = some s := by rw [ld1_holds' hgb]; rfl
  have inner := match_t hI hn hs0.1 [] n 0 (c + 1) [] O h (by omega) rfl (hI.stab _ _ _ _ _ _ hI0 (by omega) (fun b _ => rfl))
  simp only [Int.ofNat_eq_natCast, Int.cast_ofNat_Int] at inner
  unfold f77_S
  have fx := And.intro hlen e2
  refine Ans.go ?_
  clear fx
  refine Ans.head inner ?_
  rintro ⟨re, rv, rh, rc, rd⟩ ⟨q1, q2, O', q3, q4, q5⟩
  simp only at q1 q2 q4 q5
  subst q2
  rcases q5 with ⟨rfl, q6⟩ | ⟨rfl, q6⟩
  · have fx := True.intro
    refine Ans.go ?_
    clear fx
    exact .done ⟨rfl, rfl, rfl, (by show c ≤ rc; omega), O', fun b hb => (q3 b hb).imp id (by omega), fun b h1 h2 => q4 b (by omega) h2, .inl q6⟩
  · have fx := True.intro
    refine Ans.go ?_
    clear fx
    exact .done ⟨rfl, rfl, rfl, (by show c ≤ rc; omega), O', fun b hb => (q3 b hb).imp id (by omega), fun b h1 h2 => q4 b (by omega) h2, .inr q6⟩
end Go.Proofs.Ytcnndelmnobigaa

namespace Go.Proofs.Ytcnndelmnobigaa
open Go Go.Ab Go.Proofs
set_option maxRecDepth 100000
set_option linter.unusedVariables false
set_option linter.unusedSimpArgs false
structure RoundI (s : Value) (n : Nat) (Gl : List Int) (gb l cl : Nat) (st : ALoop) (pe : Option Code) (vs : List Value) (I : List (List Int) → (Nat → Prop) → FH → Nat → Prop) (J : (Nat → Prop) → FH → Nat → Prop) : Prop where
  stab : ∀ D O h c h' c', I D O h c → c ≤ c' → (∀ b, b < 256 * c → b ≠ l → h'.f b = h.f b) → I D O h' c'
  jstab : ∀ O h c h' c', J O h c → c ≤ c' → (∀ b, b < 256 * c → b ≠ l → h'.f b = h.f b) → J O h' c'
  own : ∀ D O h c, I D O h c → ∀ b, O b → b < 256 * c
  ownJ : ∀ O h c, J O h c → ∀ b, O b → b < 256 * c
  read : ∀ D O h c, I D O h c → Holds h gb [s] ∧ SlI h c s 20 n Gl
  step : ∀ D O h c t f i, t < n → f < 4 → i < 4 → i ≠ f → mSkip Gl t f = false → (∃ R, D ++ (mRow Gl t f i :: R) = allM Gl n) → cl ≤ c → I D O h c → h.f l = some (.loop st) →
    Ans (G (.rnd st.nt st.lin st.fr st.params l st.assign st.body) (av (mRow Gl t f i) :: vs) h c []) (fun r => c ≤ r.c ∧ ∃ O', (∀ b, O' b → O b ∨ 256 * c ≤ b) ∧ (∀ b, b < 256 * c → ¬ O b → b ≠ l → r.h.f b = h.f b) ∧
      ((r.vs = [.bool true] ∧ r.h.f l = some (.loop st) ∧ I (D ++ [mRow Gl t f i]) O' r.h r.c) ∨ (r.vs = [.bool false] ∧ r.h.f l = some (.loop { st with state := .done, pending := pe }) ∧ J O' r.h r.c)))
theorem range_matches {s : Value} {n : Nat} {Gl : List Int} {gb nt : Nat} {lin : List Nat} {p : Nat} {a b : ACode} {vs : List Value} {h : FH} {c : Nat} {df : List Nat} {pe : Option Code} {ex : Ex} {I : List (List Int) → (Nat → Prop) → FH → Nat → Prop} {J : (Nat → Prop) → FH → Nat → Prop}
    (hn : n ≤ 1000000) (hp : p < nt) (hex : exOf pe = some ex)
    (hI : RoundI s n Gl gb (256 * c) (c + 1) (entryL nt lin #[p] a b vs (256 * c + 1)) pe vs I J) {O : Nat → Prop} (hO : ∀ b, O b → b < 256 * c)
    (hI0 : I [] O (entryH h c nt lin #[p] a b vs) (c + 1)) :
    Ans (rangeV G nt none lin [] #[p] a b (.func (.func 77) [].toArray [ptrTo gb].toArray) vs h c df) fun q =>
      ∃ rh O', q.2 = (HeapC.del rh (256 * c), q.2.2.1, (256 * c + 1) :: df) ∧ c + 1 ≤ q.2.2.1 ∧ rh.f (256 * c + 1) = some .dfr ∧ (∀ b, O' b → O b ∨ 256 * c ≤ b) ∧ (∀ b, b < 256 * c → ¬ O b → rh.f b = h.f b) ∧
        ((q.1 = .normal ∧ I (allM Gl n) O' rh q.2.2.1) ∨ (q.1 = ex ∧ J O' rh q.2.2.1)) := by
  obtain ⟨st, hst⟩ : ∃ st, st = entryL nt lin #[p] a b vs (256 * c + 1) := ⟨_, rfl⟩
  obtain ⟨l, hl⟩ : ∃ l, l = 256 * c := ⟨_, rfl⟩
  rw [← hst, ← hl] at hI
  have hst1 : st.state = .ready := by rw [hst]; rfl
  have hst2 : st.vals = vs := by rw [hst]; rfl
  have hst4 : st.pending = none := by rw [hst]; rfl
  have hst3 : (Nat.beq [av ([] : List Int)].length st.params.length && nodupB st.params && st.params.all (Nat.blt · st.nt)) = true := by
    have : Nat.blt p nt = true := by rw [Nat.blt_eq]; exact hp
    rw [hst]; simp [entryL, nodupB, this]
  have hM : MatchI (.func (.yield l) #[] #[]) s n Gl gb
      (fun D O h c' => c + 1 ≤ c' ∧ h.f l = some (.loop st) ∧ ∃ O1 : Nat → Prop, (∀ b, O b ↔ O1 b ∨ b = l) ∧ ¬ O1 (l + 1) ∧ I D O1 h c')
      (fun O h c' => c + 1 ≤ c' ∧ h.f l = some (.loop { st with state := .done, pending := pe }) ∧ ∃ O1 : Nat → Prop, (∀ b, O b ↔ O1 b ∨ b = l) ∧ ¬ O1 (l + 1) ∧ J O1 h c') := by
    refine ⟨fun D O h c1 h' c2 ⟨g1, g2, O1, g3, g4, g5⟩ hc hs => ⟨by omega, (hs l (by omega)).trans g2, O1, g3, g4, hI.stab _ _ _ _ _ _ g5 hc (fun b hb _ => hs b hb)⟩,
      fun O h c1 h' c2 ⟨g1, g2, O1, g3, g4, g5⟩ hc hs => ⟨by omega, (hs l (by omega)).trans g2, O1, g3, g4, hI.jstab _ _ _ _ _ g5 hc (fun b hb _ => hs b hb)⟩, ?_, fun D O h c1 ⟨g1, g2, O1, g3, g4, g5⟩ => hI.read _ _ _ _ g5, ?_⟩
    · rintro D O h c1 ⟨g1, g2, O1, g3, g4, g5⟩ b hb
      rcases (g3 b).1 hb with h1 | h1
      · exact hI.own _ _ _ _ g5 b h1
      · omega
    · rintro D O h c1 t f i ht hf hi hif hsk hpre ⟨g1, g2, O1, g3, g4, g5⟩
      refine callV_yield (st := st) g2 hst1 hst3 ?_
      obtain ⟨r, hr, q1, O2, q2, q3, q4⟩ := hI.step D O1 h c1 t f i ht hf hi hif hsk hpre g1 g5 g2
      rw [hst2]
      have k1 : ∀ b, O2 b ∨ b = l → O b ∨ 256 * c1 ≤ b := fun b hb => by
        rcases hb with hb | hb
        · exact (q2 b hb).imp (fun h => (g3 b).2 (.inl h)) id
        · exact .inl ((g3 b).2 (.inr hb))
      have k2 : ∀ b, b < 256 * c1 → ¬ O b → r.h.f b = h.f b := fun b h1 h2 => q3 b h1 (fun ho => h2 ((g3 b).2 (.inl ho))) (fun e => h2 ((g3 b).2 (.inr e)))
      have k3 : ¬ O2 (l + 1) := fun ho => (q2 _ ho).elim g4 (by omega)
      rcases q4 with ⟨w1, w2, w3⟩ | ⟨w1, w2, w3⟩
      · exact .intro hr ⟨_, w1, q1, fun b => O2 b ∨ b = l, k1, k2, .inl ⟨rfl, by show c + 1 ≤ r.c; omega, w2, O2, fun b => Iff.rfl, k3, w3⟩⟩
      · rw [hst2] at w2
        exact .intro hr ⟨_, w1, q1, fun b => O2 b ∨ b = l, k1, k2, .inr ⟨rfl, by show c + 1 ≤ r.c; omega, w2, O2, fun b => Iff.rfl, k3, w3⟩⟩
  have hE0 : (entryH h c nt lin #[p] a b vs).f l = some (.loop st) := by rw [entryH_f, if_pos hl, hst]
  have hE1 : (entryH h c nt lin #[p] a b vs).f (l + 1) = some .dfr := by rw [entryH_f, if_neg (by omega), if_pos (by omega)]
  obtain ⟨⟨re, rv, rh, rc, rd⟩, hr, r1, r2, r3, r4, O', r5, r6, r7⟩ := matches_sp hM hn (O := fun b => O b ∨ b = l) (h := entryH h c nt lin #[p] a b vs) (c := c + 1) ⟨Nat.le_refl _, hE0, O, fun b => Iff.rfl, fun ho => by have := hO _ ho; omega, hI0⟩ []
  simp only at r1 r2 r3 r4 r6 r7
  subst r1 r2 r3
  have d1 : rh.f (l + 1) = some .dfr := by rw [r6 (l + 1) (by omega) (fun ho => ho.elim (fun h => by have := hO _ h; omega) (by omega)), hE1]
  have fr : ∀ b, b < 256 * c → ¬ O b → rh.f b = h.f b := fun b h1 h2 => by
    rw [r6 b (by omega) (fun ho => ho.elim h2 (by omega)), entryH_f, if_neg (by omega), if_neg (by omega)]
  rw [hl] at hr
  have own1 : ∀ O1 : Nat → Prop, (∀ b, O' b ↔ O1 b ∨ b = l) → ∀ b, O1 b → b ≠ l → O b ∨ 256 * (c + 1) ≤ b := fun O1 g3 b hb hne => by
    rcases r5 b ((g3 b).2 (.inl hb)) with h1 | h1
    · exact .inl (h1.resolve_right hne)
    · exact .inr h1
  rcases r7 with ⟨g1, g2, O1, g3, g4, g5⟩ | ⟨g1, g2, O1, g3, g4, g5⟩
  · refine (rangeV_of (Q := fun q => q = (.normal, HeapC.del rh (256 * c), rc, (256 * c + 1) :: df)) (.intro hr ⟨st, .normal, by rw [← hl]; exact g2, by rw [hst1]; simp, by rw [hst4]; rfl, rfl⟩)).mono ?_
    rintro _ rfl
    exact ⟨rh, O1, rfl, g1, by rw [← hl]; exact d1, fun b hb => by
      by_cases e : b = l
      · exact .inr (by omega)
      · exact (own1 O1 g3 b hb e).imp id (by omega), fr, .inl ⟨rfl, g5⟩⟩
  · refine (rangeV_of (Q := fun q => q = (ex, HeapC.del rh (256 * c), rc, (256 * c + 1) :: df)) (.intro hr ⟨_, ex, by rw [← hl]; exact g2, by simp, hex, rfl⟩)).mono ?_
    rintro _ rfl
    exact ⟨rh, O1, rfl, g1, by rw [← hl]; exact d1, fun b hb => by
      by_cases e : b = l
      · exact .inr (by omega)
      · exact (own1 O1 g3 b hb e).imp id (by omega), fr, .inr ⟨rfl, g5⟩⟩
end Go.Proofs.Ytcnndelmnobigaa

namespace Go.Proofs.Ytcnndelmnobigaa
open Go Go.Ab Go.Proofs
set_option maxRecDepth 100000
set_option linter.unusedVariables false
set_option linter.unusedSimpArgs false
structure ChI (s v : Value) (n nv : Nat) (Gl V : List Int) (gb vb rb cb : Nat) (D : List (List Int)) (O : Nat → Prop) (h : FH) (c : Nat) : Prop where
  lc : cb ≤ c
  own : O = fun b => b = rb
  g : Holds h gb [s]
  sl : SlI h cb s 20 n Gl
  vv : Holds h vb [v]
  vs : SlI h cb v 1 nv V
  res : h.f rb = some (.cells false none [.int .i64 0])
  ok : ∀ m ∈ D, eqM V m = true
structure ChJ (n : Nat) (Gl V : List Int) (rb cb : Nat) (O : Nat → Prop) (h : FH) (c : Nat) : Prop where
  lc : cb ≤ c
  own : O = fun b => b = rb
  res : h.f rb = some (.cells false none [.int .i64 130])
  bad : (allM Gl n).all (fun m => eqM V m) = false
set_option maxHeartbeats 1000000 in
theorem check_round (s v : Value) (n nv : Nat) (Gl V : List Int) (gb vb rb cb l : Nat) (st : ALoop) (hst : st.state = .ready) (hst2 : st.pending = none) (hok : okAll Gl n = true) (hn : n ≤ 60) (hnv : nv = 7 * n) (hW : withinB V = true)
    (hgb : gb < 256 * cb) (hvb : vb < 256 * cb) (hrb : rb < 256 * cb) (hl : l < 256 * cb) (h1 : l ≠ gb) (h2 : l ≠ vb) (h3 : l ≠ rb) (h4 : 256 * cb ≤ 256 * cb) (hvr : vb ≠ rb) (hgr : gb ≠ rb) (hls : 0 < n → blkOf s ≠ l ∧ blkOf s ≠ rb) (hlv : 0 < n → blkOf v ≠ l ∧ blkOf v ≠ rb)
    {D : List (List Int)} {O : Nat → Prop} {h : FH} {c t f i : Nat} (ht : t < n) (hf : f < 4) (hi : i < 4) (hif : i ≠ f) (hsk : mSkip Gl t f = false) (hI : ChI s v n nv Gl V gb vb rb cb D O h c) (hlp : h.f l = some (.loop st)) :
    Ans (f47_R47002 G l (av (mRow Gl t f i)) (ptrTo rb) (ptrTo vb) h c) (fun r => c ≤ r.c ∧ ∃ O', (∀ b, O' b → O b ∨ 256 * c ≤ b) ∧ (∀ b, b < 256 * c → ¬ O b → b ≠ l → r.h.f b = h.f b) ∧
      ((r.vs = [.bool true] ∧ r.h.f l = some (.loop st) ∧ ChI s v n nv Gl V gb vb rb cb (D ++ [mRow Gl t f i]) O' r.h r.c) ∨
       (r.vs = [.bool false] ∧ r.h.f l = some (.loop { st with state := .done, pending := some .ret }) ∧ ChJ n Gl V rb cb O' r.h r.c))) := by
  have hlc := hI.lc
  have hG := hI.sl.1
  obtain ⟨k1, k2, k3⟩ := mRow_ok hok hG ht hf hi hif hsk
  have hmem := allM_mem (Gl := Gl) (n := n) ht hf hi hif hsk
  have hpf := range24 k3 hf
  have hpi := range24 k3 hi
  have hpn := ne24 k3 hi hf hif
  have heq : eqM V (mRow Gl t f i) = decide (arcV V t f i = arcV V (tetL (faceL Gl t f)) ((permL (faceL Gl t f)).getD f 0) ((permL (faceL Gl t f)).getD i 0)) := rfl
  have m0 : (mRow Gl t f i).getD 0 0 = t := rfl
  have m1 : (mRow Gl t f i).getD 1 0 = f := rfl
  have m2 : (mRow Gl t f i).getD 2 0 = i := rfl
  have m3 : (mRow Gl t f i).getD 3 0 = tetL (faceL Gl t f) := rfl
  have m4 : (mRow Gl t f i).getD 4 0 = (permL (faceL Gl t f)).getD f 0 := rfl
  have m5 : (mRow Gl t f i).getD 5 0 = (permL (faceL Gl t f)).getD i 0 := rfl
  have ml : (mRow Gl t f i).length = 6 := rfl
  obtain ⟨M, hM⟩ : ∃ M, mRow Gl t f i = M := ⟨_, rfl⟩
  obtain ⟨U, hU⟩ : ∃ U, tetL (faceL Gl t f) = U := ⟨_, rfl⟩
  obtain ⟨Y, hY⟩ : ∃ Y, (permL (faceL Gl t f)).getD f 0 = Y := ⟨_, rfl⟩
  obtain ⟨Z, hZ⟩ : ∃ Z, (permL (faceL Gl t f)).getD i 0 = Z := ⟨_, rfl⟩
  rw [hM] at heq m0 m1 m2 m3 m4 m5 ml hmem ⊢
  rw [hU] at k1 k2 m3 heq
  rw [hY] at hpf m4 heq hpn
  rw [hZ] at hpi m5 heq hpn
  have hn0 : 0 < n := by omega
  obtain ⟨ls1, ls2⟩ := hls hn0
  obtain ⟨lv1, lv2⟩ := hlv hn0
  have bs := hI.sl.blk hn0
  have bv := hI.vs.blk (by omega)
  obtain ⟨H, hH⟩ : ∃ H, H = HeapC.set (newB h (256 * c) (ints M)) l (.loop { st with state := .busy }) := ⟨_, rfl⟩
  have hb : beginSt (newB h (256 * c) (ints M)) l = some H := by
    rw [hH]
    exact beginSt_of (by rw [get_newB_ne _ _ _ _ (by omega)]; exact hlp) hst
  have r0 : ∀ j, j < 256 * c → j ≠ l → H.f j = h.f j := by
    intro j hj hne
    rw [hH, set_f, if_neg hne, newB_f, if_neg (by omega)]
  have hA : Holds H (256 * c) (ints M) := by rw [hH]; exact ((Holds.newB_same h _ _).set_ne (by omega))
  have rd : ∀ j : Nat, j < 6 → ld1 H (.pointer (some ⟨256 * c, j, none⟩)) = some (.int .i64 (M.getD j 0)) := fun j hj => by rw [ld1_holds' hA, ints_getD _ _ (by omega)]
  have a0 := rd 0 (by omega)
  have a1 := rd 1 (by omega)
  have a2 := rd 2 (by omega)
  have a3 := rd 3 (by omega)
  have a4 := rd 4 (by omega)
  have a5 := rd 5 (by omega)
  rw [m0] at a0
  rw [m1] at a1
  rw [m2] at a2
  rw [m3] at a3
  rw [m4] at a4
  rw [m5] at a5
  have lv : ld1 H (.pointer (some ⟨vb, 0, none⟩)) = some v := by rw [ld1_holds' (hI.vv.eqf (r0 vb (by omega) (Ne.symm h2)))]; rfl
  have hsv : SlI H cb v 1 nv V := hI.vs.keep (fun _ => r0 _ (by omega) lv1)
  have hV : ∀ j : Nat, j < nv → -1000000000000 ≤ gi V j ∧ gi V j ≤ 1000000000000 := fun j _ => by have := withinB_at hW j; omega
  have q1 := fun c' (hc : cb ≤ c') => callF_of (arcs_sp v nv V (t : Int) f i H c' [] (hsv.mono hc) (by omega) (by omega) (by omega) (by omega) (by omega) (by omega) (by omega) (by omega) hV)
  have q2 := fun c' (hc : cb ≤ c') => callF_of (arcs_sp v nv V U Y Z H c' [] (hsv.mono hc) (by omega) (by omega) (by omega) (by omega) (by omega) (by omega) (by omega) hpn hV)
  obtain ⟨A, hA1⟩ : ∃ A, arcV V t f i = A := ⟨_, rfl⟩
  obtain ⟨B, hB1⟩ : ∃ B, arcV V U Y Z = B := ⟨_, rfl⟩
  rw [hA1] at q1 heq
  rw [hB1] at q2 heq
  have hst6 : stN (newB h (256 * c) [.int .i64 0, .int .i64 0, .int .i64 0, .int .i64 0, .int .i64 0, .int .i64 0]) 6 (.pointer (some ⟨256 * c, 0, none⟩)) (av M) = some (newB h (256 * c) (ints M)) := stN_all _ _ 6 _ _ ml rfl
  have hres : HeapC.get H rb = some (.cells false none [.int .i64 0]) := (r0 rb (by omega) (Ne.symm h3)).trans hI.res
  have w1 := st1_get (v := .int .i64 130) (o := 0) hres (by simp) rfl rfl
  have sT : setState H l .ready none = some (HeapC.set H l (.loop st)) := by
    rw [hH, setState_set, set_set]
    congr 3
    rw [← hst, ← hst2]
  have sF : setState (HeapC.set H rb (.cells false none [.int .i64 130])) l .done (some .ret) = some (HeapC.set (HeapC.set H l (.loop { st with state := .done, pending := some .ret })) rb (.cells false none [.int .i64 130])) := by
    rw [setState_set_ne _ _ _ _ _ _ h3, hH, setState_set, set_set]
    rfl
  clear hH
  unfold f47_R47002
  repeat' (first | ((with_reducible first | refine Ans.bz ?_ | refine Ans.r1 ?_ | refine Ans.pkT ?_ | refine Ans.pkF ?_); try dsimp only [v_zero, v_succ]) | (with_reducible first | refine Ans.btL ?_ | refine Ans.bfL ?_ | refine Ans.gyT ?_ | refine Ans.gyF ?_ | refine Ans.gyG ?_ | refine Ans.bb ?_ | refine Ans.bc ?_ | refine Ans.ba ?_) | ((with_reducible first | refine Ans.neT ?_ ?_); (focus omega)) | ((with_reducible first | refine Ans.neF ?_ ?_); (focus omega)) | (with_reducible first | refine Ans.neS (fun _ => ?_) (fun _ => ?_)) | ((with_reducible first | refine Ans.ct ?_ ?_); (focus (simp (disch := (first | omega | with_reducible assumption | (simp <;> omega) | fail)) [hst6, hb, lv, a0, a1, a2, a3, a4, a5, q1, q2, w1, sT, sF]; done))) | ((with_reducible first | refine Ans.cf ?_ ?_); (focus (simp (disch := (first | omega | with_reducible assumption | (simp <;> omega) | fail)) [hst6, hb, lv, a0, a1, a2, a3, a4, a5, q1, q2, w1, sT, sF]; done))) | (refine Ans.step (by simp (disch := (first | omega | with_reducible assumption | (simp <;> omega) | fail)) [hst6, hb, lv, a0, a1, a2, a3, a4, a5, q1, q2, w1, sT, sF, -List.getD_eq_getElem?_getD] <;> rfl) ?_; try dsimp only [v_zero, v_succ]) | fail)
  · rename_i hne
    refine .done ⟨(by show c ≤ c + 1 + 1 + 1; omega), O, fun b hb => .inl hb, fun b g1 g2 g3 => ?_, .inr ⟨rfl, ?_, ?_⟩⟩
    · rw [hI.own] at g2
      show (HeapC.set _ _ _ : FH).f b = _
      rw [set_f, if_neg g2, set_f, if_neg g3, r0 b g1 g3]
    · show (HeapC.set _ _ _ : FH).f l = _
      rw [set_f, if_neg h3, set_f, if_pos rfl]
    · refine ⟨by show cb ≤ c + 1 + 1 + 1; omega, hI.own, ?_, ?_⟩
      · show (HeapC.set _ _ _ : FH).f rb = _
        rw [set_f, if_pos rfl]
      · rw [← Bool.not_eq_true, List.all_eq_true]
        intro hall
        have := hall M hmem
        rw [heq] at this
        exact hne (by simpa using this)
  · rename_i heq'
    refine .done ⟨(by show c ≤ c + 1 + 1; omega), O, fun b hb => .inl hb, fun b g1 g2 g3 => ?_, .inl ⟨rfl, ?_, ?_⟩⟩
    · show (HeapC.set _ _ _ : FH).f b = _
      rw [set_f, if_neg g3, r0 b g1 g3]
    · show (HeapC.set _ _ _ : FH).f l = _
      rw [set_f, if_pos rfl]
    · have e : ∀ b, b < 256 * c → b ≠ l → (HeapC.set H l (.loop st)).f b = h.f b := fun b g1 g3 => by rw [set_f, if_neg g3, r0 b g1 g3]
      refine ⟨by show cb ≤ c + 1 + 1; omega, hI.own, hI.g.eqf (e gb (by omega) (Ne.symm h1)), hI.sl.keep (fun _ => e _ (by omega) ls1), hI.vv.eqf (e vb (by omega) (Ne.symm h2)), hI.vs.keep (fun _ => e _ (by omega) lv1), (e rb (by omega) (Ne.symm h3)).trans hI.res, fun m hm => ?_⟩
      rcases List.mem_append.1 hm with hm | hm
      · exact hI.ok m hm
      · rw [List.mem_singleton.1 hm, heq]
        simpa using heq'
end Go.Proofs.Ytcnndelmnobigaa

namespace Go.Proofs.Ytcnndelmnobigaa
open Go Go.Ab Go.Proofs
set_option maxRecDepth 100000
set_option linter.unusedVariables false
set_option linter.unusedSimpArgs false
theorem check_quads (s v v15 v17 : Value) (n nv : Nat) (Gl V : List Int) (gb vb rb c : Nat) (v16 : Value) (h : FH) (hn : n ≤ 60) (hnv : nv = 7 * n) (hgb : gb < 256 * c) (hvb : vb < 256 * c) (hrb : rb < 256 * c)
    (hv : Holds h vb [v]) (hs : SlI h c v 1 nv V) (hx : 0 < n → SlX h v 1 nv) (hres : h.f rb = some (.cells false none [.int .i64 0])) (o1 : OkV c v15) (o2 : OkV c v16) (o3 : OkV c v17) (df : List Nat) :
    ∀ (k t : Nat), t + k = n → Ans (G (f47_k47001 none) [ptrTo gb, ptrTo rb, ptrTo vb, v15, v16, v17, .int .i64 n, .int .i64 t] h c df) fun r => r.c = c ∧ r.df = df ∧
      ((r.e = .exit 2 ∧ r.vs = [ptrTo gb, ptrTo rb, ptrTo vb, v15, v16, v17, .int .i64 n, .int .i64 n] ∧ r.h = h ∧ ∀ u, t ≤ u → u < n → areQ (quadAt V u) = true) ∨
       (r.e = .ret ∧ r.vs = [ptrTo gb, ptrTo rb, ptrTo vb, v15, v16, v17, .int .i64 n, r.v 7] ∧ r.h = HeapC.set h rb (.cells false none [.int .i64 130]) ∧ ∃ u, u < n ∧ areQ (quadAt V u) = false)) := by
  intro k
  have lv : ld1 h (.pointer (some ⟨vb, 0, none⟩)) = some v := by rw [ld1_holds' hv]; rfl
  induction k with
  | zero =>
    intro t ht
    obtain rfl : t = n := by omega
    refine Ans.loop (fun q r => f47_N47001) (fun q => f47_Z47001) ?_
    unfold f47_L47001
    have fx := True.intro
    refine Ans.go ?_
    clear fx
    (have fx := And.intro hgb (And.intro hvb (And.intro hrb (And.intro o1 (And.intro o2 o3)))); refine Ans.ex0 ?_; clear fx)
    exact ⟨rfl, rfl, .inl ⟨rfl, rfl, rfl, fun u h1 h2 => by omega⟩⟩
  | succ k ih =>
    intro t ht
    have x1 := SlX.sub hs (hx (by omega)) .i64 .i64 (7 * (t : Int) + 4) (7 * (t : Int) + 7) (by omega) (by omega) (by omega) (by omega)
    rw [show (7 * (t : Int) + 4).toNat = 7 * t + 4 by omega, show (7 * (t : Int) + 7).toNat = 7 * t + 7 by omega] at x1
    have x2 := SlI.sub hs (7 * t + 4) (7 * t + 7) (by omega) (by omega) (by omega)
    rw [show 7 * t + 7 - (7 * t + 4) = 3 by omega, Nat.mul_one, Nat.mul_one] at x2
    have c1 := fun c' (hc : c ≤ c') => callF_of (areQ_sp _ 3 _ h c' [] (x2.mono hc) (by omega))
    rw [show (V.drop (7 * t + 4)).take 3 = quadAt V t from rfl] at c1
    have w1 := st1_get (v := .int .i64 130) (o := 0) (show HeapC.get h rb = _ from hres) (by simp) rfl rfl
    refine Ans.loop (fun q r => f47_N47001) (fun q => f47_Z47001) ?_
    unfold f47_L47001
    cases hq : areQ (quadAt V t) with
    | true =>
      rw [hq] at c1
      have fx := And.intro lv (And.intro x1 c1)
      refine Ans.go ?_
      clear fx
      (have fx := And.intro hgb (And.intro hvb (And.intro hrb (And.intro o1 (And.intro o2 o3)))); refine Ans.nx0 ?_; clear fx)
      refine (ih (t + 1) (by omega)).mono ?_
      rintro r ⟨q1, q2, q3⟩
      refine ⟨q1, q2, q3.imp (fun ⟨a, b, d, e⟩ => ⟨a, b, d, fun u u1 u2 => ?_⟩) id⟩
      by_cases hu : u = t
      · rw [hu]; exact hq
      · exact e u (by omega) u2
    | false =>
      rw [hq] at c1
      have fx := And.intro lv (And.intro x1 (And.intro c1 w1))
      refine Ans.go ?_
      clear fx
      (have fx := And.intro hgb (And.intro hvb (And.intro hrb (And.intro o1 (And.intro o2 o3)))); refine Ans.rtB (B := HeapC.set h rb (.cells false none [.int .i64 130])) ?_ ?_; exact Upto.set hrb (OkVs.ints _ [130]) (Upto.refl _ _); clear fx)
      exact ⟨rfl, rfl, .inr ⟨rfl, rfl, rfl, t, by omega, hq⟩⟩
theorem matches_call (s : Value) (h : FH) (c : Nat) (hf : isFlat s = true) : callF G 59 [.agg #[s]] h c = some (.func (.func 77) [].toArray [ptrTo (256 * c)].toArray, newB h (256 * c) [s], c + 1 + 1) := by
  refine callF_of (f59_go (r := { e := .ret, vs := [_], h := _, c := _, df := [] }) ?_)
  unfold f59_S
  rw [flat1 hf, cell1]
  simp
theorem check_roundI (s v : Value) (n nv : Nat) (Gl V : List Int) (gb vb rb l cb : Nat) (hok : okAll Gl n = true) (hn : n ≤ 60) (hnv : nv = 7 * n) (hW : withinB V = true)
    (hgb : gb < 256 * cb) (hvb : vb < 256 * cb) (hrb : rb < 256 * cb) (hl : l < 256 * cb) (h1 : l ≠ gb) (h2 : l ≠ vb) (h3 : l ≠ rb) (hvr : vb ≠ rb) (hgr : gb ≠ rb) (hls : 0 < n → blkOf s ≠ l ∧ blkOf s ≠ rb) (hlv : 0 < n → blkOf v ≠ l ∧ blkOf v ≠ rb) :
    RoundI s n Gl gb l cb (entryL 71 [4, 7] #[52] f47_a47002 f47_c47002 [ptrTo rb, ptrTo vb] (l + 1)) (some .ret) [ptrTo rb, ptrTo vb] (ChI s v n nv Gl V gb vb rb cb) (ChJ n Gl V rb cb) where
  stab := fun D O h c h' c' hi hc hs => by
    have := hi.lc
    exact ⟨by omega, hi.own, hi.g.eqf (hs _ (by omega) (Ne.symm h1)), hi.sl.keep (fun hp => hs _ (by have := hi.sl.blk hp; omega) (hls hp).1), hi.vv.eqf (hs _ (by omega) (Ne.symm h2)), hi.vs.keep (fun hp => hs _ (by have := hi.vs.blk hp; omega) (hlv (by omega)).1), (hs _ (by omega) (Ne.symm h3)).trans hi.res, hi.ok⟩
  jstab := fun O h c h' c' hj hc hs => by
    have := hj.lc
    exact ⟨by omega, hj.own, (hs _ (by omega) (Ne.symm h3)).trans hj.res, hj.bad⟩
  own := fun D O h c hi b hb => by
    have := hi.lc
    rw [hi.own] at hb
    subst hb; omega
  ownJ := fun O h c hj b hb => by
    have := hj.lc
    rw [hj.own] at hb
    subst hb; omega
  read := fun D O h c hi => ⟨hi.g, hi.sl.mono hi.lc⟩
  step := fun D O h c t f i ht hf hi hif hsk _ hc hI hlp => by
    obtain ⟨r, hr, hq⟩ := check_round s v n nv Gl V gb vb rb cb l _ rfl rfl hok hn hnv hW hgb hvb hrb hl h1 h2 h3 (Nat.le_refl _) hvr hgr hls hlv ht hf hi hif hsk hI hlp
    exact ⟨r, f47_G47002 hr, hq⟩
theorem admB_iff {Gl V : List Int} {n : Nat} : admB Gl n V = true ↔ V.length = 7 * n ∧ withinB V = true ∧ (∀ t, t < n → areQ (quadAt V t) = true) ∧ (allM Gl n).all (fun m => eqM V m) = true := by
  simp [admB, and_assoc]
set_option maxHeartbeats 2000000 in
theorem check_lists (s : Value) (n : Nat) (Gl : List Int) (ss : List Value) (Vs : Nat → List Int) (nvs : Nat → Nat) (gb rb sb cb : Nat) (h0 : FH) (hn : n ≤ 60) (hok : okAll Gl n = true) (hgb : gb < 256 * cb) (hrb : rb < 256 * cb) (hsb : sb < 256 * cb) (hgr : gb ≠ rb) (hsr : sb ≠ rb)
    (hg : Holds h0 gb [s]) (hsl : SlI h0 cb s 20 n Gl) (hsrb : 0 < n → blkOf s ≠ rb) (hh : Holds h0 sb ss) (hl : ss.length ≤ 1000) (hnv : ∀ j, nvs j ≤ 1000000)
    (hV : ∀ j, j < ss.length → SlI h0 cb (ss.getD j undef) 1 (nvs j) (Vs j) ∧ SlX h0 (ss.getD j undef) 1 (nvs j) ∧ (0 < nvs j → blkOf (ss.getD j undef) ≠ rb)) :
    ∀ (k j c : Nat) (H : FH) (df : List Nat), j + k = ss.length → cb ≤ c → (∀ b, b < 256 * cb → b ≠ rb → H.f b = h0.f b) → H.f rb = some (.cells false none [.int .i64 0]) → df.Nodup → (∀ d ∈ df, H.f d = some .dfr ∧ 256 * cb ≤ d ∧ d < 256 * c) →
    Ans (G (f47_k47000 none) [ptrTo gb, ptrTo rb, .slice (some ⟨sb, 0, none⟩) ss.length ss.length, .int .i64 ss.length, .int .i64 j] H c df) fun r => c ≤ r.c ∧ r.v 1 = ptrTo rb ∧ (∀ b, b < 256 * cb → b ≠ rb → r.h.f b = h0.f b) ∧ r.df.Nodup ∧ (∀ d ∈ r.df, r.h.f d = some .dfr ∧ 256 * cb ≤ d) ∧
      ((r.e = .exit 0 ∧ r.h.f rb = some (.cells false none [.int .i64 0]) ∧ ∀ i, j ≤ i → i < ss.length → admB Gl n (Vs i) = true) ∨
       (r.e = .ret ∧ r.h.f rb = some (.cells false none [.int .i64 130]) ∧ ∃ i, i < ss.length ∧ admB Gl n (Vs i) = false)) := by
  intro k
  induction k with
  | zero =>
    intro j c H df hj hc hH hres hnd hd
    obtain rfl : j = ss.length := by omega
    refine Ans.loop' (fun q r => f47_N47000) (fun q => f47_Z47000) ?_
    unfold f47_L47000
    have fx := True.intro
    refine Ans.go ?_
    clear fx
    exact Ans.exitN ⟨(by show c ≤ c + 1; omega), rfl, hH, hnd, fun d h => ⟨(hd d h).1, (hd d h).2.1⟩, .inl ⟨rfl, hres, fun i h1 h2 => by omega⟩⟩
  | succ k ih =>
    intro j c H df hj hc hH hres hnd hd
    have hjl : j < ss.length := by omega
    obtain ⟨hv0, hx0, hvr⟩ := hV j hjl
    have hnvj := hnv j
    obtain ⟨v, hvv⟩ : ∃ v, ss.getD j undef = v := ⟨_, rfl⟩
    obtain ⟨V, hVV⟩ : ∃ V, Vs j = V := ⟨_, rfl⟩
    obtain ⟨nv, hnn⟩ : ∃ nv, nvs j = nv := ⟨_, rfl⟩
    rw [hvv] at hv0 hx0 hvr
    rw [hVV, hnn] at hv0
    rw [hnn] at hx0 hvr hnvj
    have hvj : ss[j]? = some v := by rw [← hvv]; simp [List.getD, List.getElem?_eq_getElem hjl]
    have hvf := hv0.flat
    have hss : Holds H sb ss := hh.eqf (hH sb hsb hsr)
    have l1 : ld1 H (.pointer (some ⟨sb, j, none⟩)) = some v := by rw [ld1_holds' hss, hvj]
    obtain ⟨M, hM⟩ : ∃ M, M = newB H (256 * (c + 1) + 2) [v] := ⟨_, rfl⟩
    have hst : stN (newB H (256 * (c + 1) + 2) [.slice none 0 0]) 1 (.pointer (some ⟨256 * (c + 1) + 2, 0, none⟩)) v = some M := by
      rw [hM]
      obtain ⟨_, _, a, cap, rfl, _⟩ := hv0
      exact st1_sl _ _ _ _ _ _ _ (by simp)
    have fM : ∀ b, b < 256 * (c + 1) → M.f b = H.f b := fun b hb => by rw [hM, newB_f, if_neg (by omega)]
    have hMv : Holds M (256 * (c + 1) + 2) [v] := by rw [hM]; exact Holds.newB_same _ _ _
    clear hM
    have l2 : ld1 M (.pointer (some ⟨256 * (c + 1) + 2, 0, none⟩)) = some v := by rw [ld1_holds' hMv]; rfl
    have hMg : Holds M gb [s] := hg.eqf ((fM gb (by omega)).trans (hH gb hgb hgr))
    have l3 : ld1 M (.pointer (some ⟨gb, 0, none⟩)) = some s := by rw [ld1_holds' hMg]; rfl
    have l4 := hsl.len
    have l5 := hv0.len
    have hresM : M.f rb = some (.cells false none [.int .i64 0]) := (fM rb (by omega)).trans hres
    have hMv0 : SlI M cb v 1 nv V := hv0.keep (fun hp => by
      have h1 := hv0.blk hp
      rw [fM _ (by omega), hH _ h1 (hvr hp)])
    have wM := st1_get (v := .int .i64 130) (o := 0) (show HeapC.get M rb = _ from hresM) (by simp) rfl rfl
    have cw := fun c' (hc' : cb ≤ c') => callF_of (within_sp v nv V M c' [] (hMv0.mono hc') (by omega))
    have bad : ∀ c' : Nat, c ≤ c' → admB Gl n V = false → Ans (some { e := Ex.ret, vs := [ptrTo gb, ptrTo rb, .slice (some ⟨sb, 0, none⟩) ss.length ss.length, .int .i64 ss.length, .int .i64 j], h := HeapC.set M rb (.cells false none [.int .i64 130]), c := c', df := df }) (fun q => Lk G (f47_k47000 none) (fun r => c ≤ r.c ∧ r.v 1 = ptrTo rb ∧ (∀ b, b < 256 * cb → b ≠ rb → r.h.f b = h0.f b) ∧ r.df.Nodup ∧ (∀ d ∈ r.df, r.h.f d = some .dfr ∧ 256 * cb ≤ d) ∧
      ((r.e = .exit 0 ∧ r.h.f rb = some (.cells false none [.int .i64 0]) ∧ ∀ i, j ≤ i → i < ss.length → admB Gl n (Vs i) = true) ∨
       (r.e = .ret ∧ r.h.f rb = some (.cells false none [.int .i64 130]) ∧ ∃ i, i < ss.length ∧ admB Gl n (Vs i) = false))) q) := fun c' hc' hb => by
      refine Ans.retN ⟨hc', rfl, fun b h1 h2 => ?_, hnd, fun d hd' => ⟨?_, (hd d hd').2.1⟩, .inr ⟨rfl, ?_, j, hjl, by rw [hVV]; exact hb⟩⟩
      · show (HeapC.set _ _ _ : FH).f b = _
        rw [set_f, if_neg h2, fM b (by omega), hH b h1 h2]
      · have := hd d hd'
        show (HeapC.set _ _ _ : FH).f d = _
        rw [set_f, if_neg (by omega), fM d (by omega), this.1]
      · show (HeapC.set _ _ _ : FH).f rb = _
        rw [set_f, if_pos rfl]
    refine Ans.loop' (fun q r => f47_N47000) (fun q => f47_Z47000) ?_
    unfold f47_L47000
    by_cases hlen : nv = 7 * n
    case neg =>
      have hb : admB Gl n V = false := by
        rw [← Bool.not_eq_true, admB_iff]
        rintro ⟨h1, _⟩
        have := hv0.1
        omega
      have hne : ¬ ((nv : Int) = 7 * n) := by omega
      have fx := And.intro l1 (And.intro hst (And.intro l2 (And.intro l3 (And.intro l4 (And.intro l5 wM)))))
      refine Ans.go ?_
      clear fx
      exact bad _ (by omega) hb
    have heq : ((nv : Int) = 7 * n) := by omega
    cases hW : withinB V with
    | false =>
      have hb : admB Gl n V = false := by
        rw [← Bool.not_eq_true, admB_iff]
        rintro ⟨_, h1, _⟩
        rw [hW] at h1; cases h1
      rw [hW] at cw
      have fx := And.intro l1 (And.intro hst (And.intro l2 (And.intro l3 (And.intro l4 (And.intro l5 (And.intro wM cw))))))
      refine Ans.go ?_
      clear fx
      exact bad _ (by omega) hb
    | true =>
      rw [hW] at cw
      have fx := And.intro l1 (And.intro hst (And.intro l2 (And.intro l3 (And.intro l4 (And.intro l5 cw)))))
      refine Ans.go ?_
      clear fx
      have hq := check_quads s v (.slice (some ⟨sb, 0, none⟩) ss.length ss.length) (.int .i64 j) n nv Gl V gb (256 * (c + 1) + 2) rb (c + 1 + 1 + 1 + 1) (.int .i64 ss.length) M hn (by omega) (by omega) (by omega) (by omega) hMv (hMv0.mono (by omega))
        (fun hn0 => by
          have hb0 := hv0.blk (by omega)
          have e1 : M.f (blkOf v) = h0.f (blkOf v) := by rw [fM _ (by omega), hH _ hb0 (hvr (by omega))]
          obtain ⟨q1, q2⟩ := hx0
          refine ⟨q1, ?_⟩
          obtain ⟨_, _, a, cap, rfl, hc4⟩ := hv0
          rcases hc4 with ⟨e, _⟩ | ⟨b, o, cs, rfl, _, _, _⟩
          · omega
          · simp only [adrOf, szOk, blkOf_sl] at q2 e1 ⊢
            have : HeapC.get M b = HeapC.get h0 b := e1
            rw [this]; exact q2)
        hresM (OkV.sl (by omega)) (OkV.int _ _ _) (OkV.int _ _ _) df n 0 (by omega)
      simp only [Int.ofNat_eq_natCast, Int.cast_ofNat_Int] at hq
      obtain ⟨⟨re, rv, rh, rc, rd⟩, hr, r1, r2, r3⟩ := hq
      simp only at r1 r2 r3
      subst r1 r2
      rcases r3 with ⟨rfl, rfl, rfl, hqs⟩ | ⟨rfl, hrv, rfl, u, u1, u2⟩
      case inr =>
        have hb : admB Gl n V = false := by
          rw [← Bool.not_eq_true, admB_iff]
          rintro ⟨_, _, h1, _⟩
          rw [h1 u u1] at u2; cases u2
        rw [hrv] at hr
        have fx := hr
        refine Ans.go ?_
        clear fx
        exact bad _ (by omega) hb
      have l6 := ldN1_own hMg
      have cm := matches_call s rh (c + 1 + 1 + 1 + 1 + 1) hsl.flat
      have fx := And.intro hr (And.intro l6 cm)
      refine Ans.go ?_
      clear fx
      obtain ⟨N, hN⟩ : ∃ N, N = newB rh (256 * (c + 1 + 1 + 1 + 1 + 1)) [s] := ⟨_, rfl⟩
      rw [← hN]
      have fN : ∀ b, b < 256 * (c + 1 + 1 + 1 + 1 + 1) → N.f b = rh.f b := fun b hb => by rw [hN, newB_f, if_neg (by omega)]
      have gN : N.f (256 * (c + 1 + 1 + 1 + 1 + 1)) = some (.cells false none [s]) := by rw [hN, newB_f, if_pos rfl]
      clear hN
      have hI := check_roundI s v n nv Gl V (256 * (c + 1 + 1 + 1 + 1 + 1)) (256 * (c + 1) + 2) rb (256 * (c + 1 + 1 + 1 + 1 + 1 + 1 + 1)) (c + 1 + 1 + 1 + 1 + 1 + 1 + 1 + 1) hok hn (by omega) hW (by omega) (by omega) (by omega) (by omega) (by omega) (by omega) (by omega) (by omega) (by omega)
        (fun hp => ⟨by have := hsl.blk hp; omega, hsrb hp⟩) (fun hp => ⟨by have := hv0.blk (by omega); omega, hvr (by omega)⟩)
      have hE : ∀ b, b < 256 * (c + 1 + 1 + 1 + 1 + 1 + 1 + 1) → (entryH N (c + 1 + 1 + 1 + 1 + 1 + 1 + 1) 71 [4, 7] #[52] f47_a47002 f47_c47002 [ptrTo rb, ptrTo (256 * (c + 1) + 2)]).f b = N.f b := fun b hb => by
        rw [entryH_f, if_neg (by omega), if_neg (by omega)]
      have hI0 : ChI s v n nv Gl V (256 * (c + 1 + 1 + 1 + 1 + 1)) (256 * (c + 1) + 2) rb (c + 1 + 1 + 1 + 1 + 1 + 1 + 1 + 1) [] (fun b => b = rb) (entryH N (c + 1 + 1 + 1 + 1 + 1 + 1 + 1) 71 [4, 7] #[52] f47_a47002 f47_c47002 [ptrTo rb, ptrTo (256 * (c + 1) + 2)]) (c + 1 + 1 + 1 + 1 + 1 + 1 + 1 + 1) := by
        refine ⟨Nat.le_refl _, rfl, ⟨false, none, ?_⟩, (hsl.keep (fun hp => ?_)).mono (by omega), hMv.eqf ?_, (hv0.keep (fun hp => ?_)).mono (by omega), ?_, fun m hm => by cases hm⟩
        · show (entryH _ _ _ _ _ _ _ _ : FH).f _ = _
          rw [hE _ (by omega), gN]
        · have h1 := hsl.blk hp
          rw [hE _ (by omega), fN _ (by omega), fM _ (by omega), hH _ h1 (hsrb hp)]
        · rw [hE _ (by omega), fN _ (by omega)]
        · have h1 := hv0.blk hp
          rw [hE _ (by omega), fN _ (by omega), fM _ (by omega), hH _ h1 (hvr hp)]
        · rw [hE _ (by omega), fN _ (by omega), hresM]
      refine Ans.head (range_matches (by omega) (by omega) rfl hI (O := fun b => b = rb) (fun b hb => by subst hb; omega) hI0) ?_
      rintro ⟨qe, qh, qc, qd⟩ ⟨qr, O', e1, e2, e3, e4, e5, e6⟩
      simp only [Prod.mk.injEq] at e1
      obtain ⟨rfl, -, rfl⟩ := e1
      simp only at e2 e6
      have keep1 : ∀ b, b < 256 * cb → b ≠ rb → (HeapC.del qr (256 * (c + 1 + 1 + 1 + 1 + 1 + 1 + 1)) : FH).f b = h0.f b := fun b h1 h2 => by
        rw [del_f, if_neg (by omega), e5 b (by omega) h2, fN _ (by omega), fM _ (by omega), hH b h1 h2]
      have nd : ((256 * (c + 1 + 1 + 1 + 1 + 1 + 1 + 1) + 1) :: rd : List Nat).Nodup := List.nodup_cons.2 ⟨fun hm => by have := (hd _ hm).2.2; omega, hnd⟩
      have dd : ∀ d ∈ (256 * (c + 1 + 1 + 1 + 1 + 1 + 1 + 1) + 1) :: rd, (HeapC.del qr (256 * (c + 1 + 1 + 1 + 1 + 1 + 1 + 1)) : FH).f d = some .dfr ∧ 256 * cb ≤ d ∧ d < 256 * (c + 1 + 1 + 1 + 1 + 1 + 1 + 1 + 1) := fun d hm => by
        rcases List.mem_cons.1 hm with rfl | hm
        · exact ⟨by rw [del_f, if_neg (by omega)]; exact e3, by omega, by omega⟩
        · obtain ⟨d1, d2, d3⟩ := hd d hm
          exact ⟨by rw [del_f, if_neg (by omega), e5 d (by omega) (by show ¬ d = rb; omega), fN _ (by omega), fM _ (by omega), d1], d2, by omega⟩
      rcases e6 with ⟨rfl, hi⟩ | ⟨rfl, hj'⟩
      · have fx := True.intro
        refine Ans.go ?_
        clear fx
        refine Ans.nextN ?_
        have hgood : admB Gl n V = true := admB_iff.2 ⟨by have := hv0.1; omega, hW, fun t ht => hqs t (by omega) ht, List.all_eq_true.2 hi.ok⟩
        refine (ih (j + 1) (qc + 1) (HeapC.del qr (256 * (c + 1 + 1 + 1 + 1 + 1 + 1 + 1))) ((256 * (c + 1 + 1 + 1 + 1 + 1 + 1 + 1) + 1) :: rd) (by omega) (by omega) keep1 (by rw [del_f, if_neg (by omega)]; exact hi.res) nd (fun d hm => by
          obtain ⟨d1, d2, d3⟩ := dd d hm
          exact ⟨d1, d2, by omega⟩)).mono ?_
        rintro r ⟨w1, w2, w3, w4, w5, w6⟩
        refine ⟨by omega, w2, w3, w4, w5, w6.imp (fun ⟨a, b, d⟩ => ⟨a, b, fun i i1 i2 => ?_⟩) id⟩
        by_cases hij : i = j
        · rw [hij, hVV]; exact hgood
        · exact d i (by omega) i2
      · have fx := True.intro
        refine Ans.go ?_
        clear fx
        have hb : admB Gl n V = false := by
          rw [← Bool.not_eq_true, admB_iff]
          rintro ⟨_, _, _, h1⟩
          rw [hj'.bad] at h1; cases h1
        refine Ans.retN ⟨(by show c ≤ qc; omega), rfl, keep1, nd, fun d hm => ⟨(dd d hm).1, (dd d hm).2.1⟩, .inr ⟨rfl, ?_, j, hjl, by rw [hVV]; exact hb⟩⟩
        show (HeapC.del _ _ : FH).f rb = _
        rw [del_f, if_neg (by omega)]
        exact hj'.res
end Go.Proofs.Ytcnndelmnobigaa

namespace Go.Proofs.Ytcnndelmnobigaa
open Go Go.Ab Go.Proofs
set_option maxRecDepth 100000
set_option linter.unusedVariables false
set_option linter.unusedSimpArgs false
def eIn (p : List Int) (t f i : Nat) (u : Int) : Nat → Nat → List Int → List Int
  | 0, _, L => L
  | r + 1, k, L => eIn p t f i u r (k + 1) (if k = f ∨ k = i then L else joinL L (6 * (t : Int) + edN i k).toNat (6 * u + edN (p.getD i 0) (p.getD k 0)).toNat)
theorem eIn_down {p : List Int} (hp : p ∈ p24) {t f i n : Nat} {u : Int} (ht : t < n) (hi : i < 4) (hu : 0 ≤ u) (hun : u < n) : ∀ {r k : Nat} {L : List Int}, k + r = 4 → Down L (6 * n) → Down (eIn p t f i u r k L) (6 * n)
  | 0, _, _, _, h => h
  | r + 1, k, L, hk, h => by
    rw [eIn]
    refine eIn_down hp ht hi hu hun (by omega) ?_
    split
    · exact h
    · rename_i hne
      have hne' : i ≠ k := fun e => hne (.inr e.symm)
      have a1 := edN_range (i := (i : Int)) (j := (k : Int)) (by omega) (by omega) (by omega) (by omega) (by omega)
      have b1 := range24 hp hi
      have b2 := range24 hp (i := k) (by omega)
      have a2 := edN_range b1.1 b1.2 b2.1 b2.2 (ne24 hp hi (by omega) hne')
      exact joinL_down h (by omega) (by omega)
def vStep (L M : List Int) : List Int := joinL L (4 * M.getD 0 0 + M.getD 2 0).toNat (4 * M.getD 3 0 + M.getD 5 0).toNat
def eStep (Gl : List Int) (L M : List Int) : List Int := eIn (permL (faceL Gl (M.getD 0 0).toNat (M.getD 1 0).toNat)) (M.getD 0 0).toNat (M.getD 1 0).toNat (M.getD 2 0).toNat (M.getD 3 0) 4 0 L
def vCl (n : Nat) (D : List (List Int)) : List Int := D.foldl vStep (startL (4 * n))
def eCl (Gl : List Int) (n : Nat) (D : List (List Int)) : List Int := D.foldl (eStep Gl) (startL (6 * n))
theorem vCl_snoc (n : Nat) (D : List (List Int)) (M : List Int) : vCl n (D ++ [M]) = vStep (vCl n D) M := by simp [vCl]
theorem eCl_snoc (Gl : List Int) (n : Nat) (D : List (List Int)) (M : List Int) : eCl Gl n (D ++ [M]) = eStep Gl (eCl Gl n D) M := by simp [eCl]
theorem newB_self {h : FH} {b : Nat} {cs : List Value} (e : h.f b = some (.cells false none cs)) : newB h b cs = h := by
  apply FH.ext; intro j
  rw [newB_f]
  split
  · rename_i hj; rw [hj, e]
  · rfl
theorem sameB_self (x : Option Nat) (H : FH) : sameB x H H = true := sameB_of fun i _ => rfl
theorem edges_loop (h0 : FH) (eb sb ub mb pb n c l : Nat) (p M : List Int) (t f i : Nat) (u : Int) (df : List Nat) (hn : n ≤ 60) (hp : p ∈ p24) (ht : t < n) (hf : f < 4) (hi : i < 4) (hu : 0 ≤ u) (hun : u < n)
    (he : eb < 256 * c) (hs : sb < 256 * c) (hub : ub < 256 * c) (hm : mb < 256 * c) (hpb : pb < 256 * c) (n1 : eb ≠ ub) (n2 : sb ≠ ub) (n3 : mb ≠ ub) (n4 : pb ≠ ub)
    (ge : Holds h0 eb [ptrTo sb]) (gs : h0.f sb = some (.cells false none [.slice (some ⟨ub, 0, none⟩) (6 * n) (6 * n)])) (gm : Holds h0 mb (ints M)) (gp : Holds h0 pb (ints p)) (hM : M.length = 6) (m0 : M.getD 0 0 = t) (m1 : M.getD 1 0 = f) (m2 : M.getD 2 0 = i) (m3 : M.getD 3 0 = u) :
    ∀ (r k : Nat) (L : List Int), k + r = 4 → Down L (6 * n) →
    Ans (G (f44_k44001 (some l)) [ptrTo eb, ptrTo mb, ptrTo pb, .int .i64 k] (newB h0 ub (ints L)) c df) fun q => q = { e := .exit 2, vs := [ptrTo eb, ptrTo mb, ptrTo pb, .int .i64 4], h := newB h0 ub (ints (eIn p t f i u r k L)), c := c, df := df } := by
  intro r
  induction r with
  | zero =>
    intro k L hk hd
    obtain rfl : k = 4 := by omega
    refine Ans.loop (fun q r => f44_N44001) (fun q => f44_Z44001) ?_
    unfold f44_L44001
    have fx := True.intro
    refine Ans.go ?_
    clear fx
    (have fx := And.intro he (And.intro hm hpb); refine Ans.ex0 ?_; clear fx)
    rfl
  | succ r ih =>
    intro k L hk hd
    obtain ⟨H, hH⟩ : ∃ H, newB h0 ub (ints L) = H := ⟨_, rfl⟩
    have gm' : Holds H mb (ints M) := by rw [← hH]; exact gm.newB_ne n3
    have gp' : Holds H pb (ints p) := by rw [← hH]; exact gp.newB_ne n4
    have hl := len24 hp
    have q1 : ld1 H (.pointer (some ⟨mb, 1, none⟩)) = some (.int .i64 f) := by rw [ld1_holds' gm', ints_getD _ _ (by omega), m1]
    have q2 : ld1 H (.pointer (some ⟨mb, 2, none⟩)) = some (.int .i64 i) := by rw [ld1_holds' gm', ints_getD _ _ (by omega), m2]
    have hkf : (k : Int) < 4 := by omega
    rw [eIn]
    by_cases h1 : k = f
    · subst h1
      rw [if_pos (.inl rfl)]
      rw [hH]
      refine Ans.loop (fun q r => f44_N44001) (fun q => f44_Z44001) ?_
      unfold f44_L44001
      have fx := And.intro q1 q2
      refine Ans.go ?_
      clear fx
      (have fx := And.intro he (And.intro hm hpb); refine Ans.nx0 ?_; clear fx)
      rw [← hH]
      exact ih (k + 1) L (by omega) hd
    by_cases h2 : k = i
    · subst h2
      rw [if_pos (.inr rfl)]
      rw [hH]
      have h1' : ¬ ((k : Int) = f) := by omega
      refine Ans.loop (fun q r => f44_N44001) (fun q => f44_Z44001) ?_
      unfold f44_L44001
      have fx := And.intro q1 q2
      refine Ans.go ?_
      clear fx
      (have fx := And.intro he (And.intro hm hpb); refine Ans.nx0 ?_; clear fx)
      rw [← hH]
      exact ih (k + 1) L (by omega) hd
    · rw [if_neg (by rintro (h | h); exact h1 h; exact h2 h)]
      have h1' : ¬ ((k : Int) = f) := by omega
      have h2' : ¬ ((k : Int) = i) := by omega
      have q0 : ld1 H (.pointer (some ⟨mb, 0, none⟩)) = some (.int .i64 t) := by rw [ld1_holds' gm', ints_getD _ _ (by omega), m0]
      have q3 : ld1 H (.pointer (some ⟨mb, 3, none⟩)) = some (.int .i64 u) := by rw [ld1_holds' gm', ints_getD _ _ (by omega), m3]
      have qe : ld1 H (.pointer (some ⟨eb, 0, none⟩)) = some (ptrTo sb) := by rw [← hH, ld1_newB_ne _ _ _ _ _ n1, ld1_holds' ge]; rfl
      have b1 := range24 hp hi
      have b2 := range24 hp (i := k) (by omega)
      have b3 := ne24 hp hi (j := k) (by omega) (fun e => h2 e.symm)
      have p1 : ld1 H (.pointer (some ⟨pb, i, none⟩)) = some (.int .i64 (p.getD i 0)) := by rw [ld1_holds' gp', ints_getD _ _ (by omega)]
      have p2 : ld1 H (.pointer (some ⟨pb, k, none⟩)) = some (.int .i64 (p.getD k 0)) := by rw [ld1_holds' gp', ints_getD _ _ (by omega)]
      have a1 := edN_range (i := (i : Int)) (j := (k : Int)) (by omega) (by omega) (by omega) (by omega) (by omega)
      have a2 := edN_range b1.1 b1.2 b2.1 b2.2 b3
      obtain ⟨E1, hE1⟩ : ∃ E : Nat, edN i k = E := ⟨(edN i k).toNat, by omega⟩
      obtain ⟨X, hX⟩ : ∃ X, p.getD i 0 = X := ⟨_, rfl⟩
      obtain ⟨Y, hY⟩ : ∃ Y, p.getD k 0 = Y := ⟨_, rfl⟩
      rw [hX] at p1 b1
      rw [hY] at p2 b2
      rw [hX, hY] at a2 ⊢
      obtain ⟨E2, hE2⟩ : ∃ E : Nat, edN X Y = E := ⟨(edN X Y).toNat, by omega⟩
      obtain ⟨U, rfl⟩ : ∃ U : Nat, u = U := ⟨u.toNat, by omega⟩
      have c1 := fun c' => callF_edge (i : Int) k H c'
      have c2 := fun c' => callF_edge X Y H c'
      rw [hE1] at a1 c1 ⊢
      rw [hE2] at a2 c2 ⊢
      rw [show (6 * (t : Int) + E1).toNat = 6 * t + E1 by omega, show (6 * (U : Int) + E2).toNat = 6 * U + E2 by omega]
      have uf : Uf H sb ub (6 * n) L := by
        rw [← hH]
        exact ⟨by rw [newB_f, if_neg n2]; exact gs, by rw [newB_f, if_pos rfl], n2, hd, by omega⟩
      have hj : ∀ c', c ≤ c' → callF G 72 [.pointer (some ⟨sb, 0, none⟩), .int .i64 (6 * (t : Int) + E1), .int .i64 (6 * (U : Int) + E2)] H c' = some (.tuple #[], newB H ub (ints (joinL L (6 * t + E1) (6 * U + E2))), c') := fun c' hc => by
        have := callF_of (join_sp H sb ub (6 * n) c' L uf (by omega) (by omega) (6 * t + E1) (6 * U + E2) (by omega) (by omega) [])
        simpa [ptrTo] using this
      rw [hH]
      refine Ans.loop (fun q r => f44_N44001) (fun q => f44_Z44001) ?_
      unfold f44_L44001
      have fx := And.intro q0 (And.intro q1 (And.intro q2 (And.intro q3 (And.intro qe (And.intro p1 (And.intro p2 (And.intro c1 (And.intro c2 (And.intro hj sameB_self)))))))))
      refine Ans.go ?_
      clear fx
      (have fx := And.intro he (And.intro hm hpb); refine Ans.nxB (B := newB H ub (ints (joinL L (6 * t + E1) (6 * U + E2)))) ?_ ?_; exact Upto.old hub (OkVs.ints _ _) (Upto.refl _ _); clear fx)
      rw [← hH, newB_newB]
      exact ih (k + 1) _ (by omega) (joinL_down hd (by omega) (by omega))
end Go.Proofs.Ytcnndelmnobigaa

namespace Go.Proofs.Ytcnndelmnobigaa
open Go Go.Ab Go.Proofs
set_option maxRecDepth 100000
set_option linter.unusedVariables false
set_option linter.unusedSimpArgs false
structure ClI (s : Value) (n : Nat) (Gl : List Int) (gb g2 vc vs vu ec es eu c0 cb : Nat) (D : List (List Int)) (O : Nat → Prop) (h : FH) (c : Nat) : Prop where
  lc : cb ≤ c
  g : Holds h gb [s]
  gg : Holds h g2 [s]
  sl : SlI h c0 s 20 n Gl
  pv : Holds h vc [ptrTo vs]
  pe : Holds h ec [ptrTo es]
  uv : Uf h vs vu (4 * n) (vCl n D)
  ue : Uf h es eu (6 * n) (eCl Gl n D)
  own : O = fun b => b = vu ∨ b = eu
set_option maxHeartbeats 2000000 in
theorem cl_round (s : Value) (n : Nat) (Gl : List Int) (gb g2 vc vs vu ec es eu c0 cb l : Nat) (st : ALoop) (hst : st.state = .ready) (hst2 : st.pending = none) (hok : okAll Gl n = true) (hn : n ≤ 60)
    (hgb : gb < 256 * c0) (hg2 : g2 < 256 * cb) (hl : l < 256 * cb) (hc0 : c0 ≤ cb) (hvc : vc < 256 * cb) (hvs : vs < 256 * cb) (hvu : vu < 256 * cb) (hec : ec < 256 * cb) (hes : es < 256 * cb) (heu : eu < 256 * cb)
    (hgl : gb ≠ l) (hn1 : gb ≠ vu ∧ gb ≠ eu ∧ g2 ≠ vu ∧ g2 ≠ eu ∧ vc ≠ vu ∧ vc ≠ eu ∧ ec ≠ vu ∧ ec ≠ eu ∧ vs ≠ eu ∧ es ≠ vu ∧ vu ≠ eu) (hn2 : l ≠ g2 ∧ l ≠ vc ∧ l ≠ vs ∧ l ≠ vu ∧ l ≠ ec ∧ l ≠ es ∧ l ≠ eu) (hls : 0 < n → blkOf s ≠ l ∧ blkOf s ≠ vu ∧ blkOf s ≠ eu)
    {D : List (List Int)} {O : Nat → Prop} {h : FH} {c t f i : Nat} (ht : t < n) (hf : f < 4) (hi : i < 4) (hif : i ≠ f) (hsk : mSkip Gl t f = false) (hI : ClI s n Gl gb g2 vc vs vu ec es eu c0 cb D O h c) (hlp : h.f l = some (.loop st)) :
    Ans (f44_R44000 G l (av (mRow Gl t f i)) (ptrTo gb) (ptrTo vc) (ptrTo ec) h c) (fun r => c ≤ r.c ∧ ∃ O', (∀ b, O' b → O b ∨ 256 * c ≤ b) ∧ (∀ b, b < 256 * c → ¬ O b → b ≠ l → r.h.f b = h.f b) ∧
      (r.vs = [.bool true] ∧ r.h.f l = some (.loop st) ∧ ClI s n Gl gb g2 vc vs vu ec es eu c0 cb (D ++ [mRow Gl t f i]) O' r.h r.c)) := by
  have hlc := hI.lc
  have hG := hI.sl.1
  obtain ⟨k1, k2, k3⟩ := mRow_ok hok hG ht hf hi hif hsk
  have hpf := range24 k3 hf
  have hpi := range24 k3 hi
  have m0 : (mRow Gl t f i).getD 0 0 = t := rfl
  have m1 : (mRow Gl t f i).getD 1 0 = f := rfl
  have m2 : (mRow Gl t f i).getD 2 0 = i := rfl
  have m3 : (mRow Gl t f i).getD 3 0 = tetL (faceL Gl t f) := rfl
  have m4 : (mRow Gl t f i).getD 4 0 = (permL (faceL Gl t f)).getD f 0 := rfl
  have m5 : (mRow Gl t f i).getD 5 0 = (permL (faceL Gl t f)).getD i 0 := rfl
  have ml : (mRow Gl t f i).length = 6 := rfl
  have hfl := faceL_length hG ht hf
  have hpl := permL_length hfl
  have es1 := eCl_snoc Gl n D (mRow Gl t f i)
  have vs1 := vCl_snoc n D (mRow Gl t f i)
  obtain ⟨M, hM⟩ : ∃ M, mRow Gl t f i = M := ⟨_, rfl⟩
  obtain ⟨U, hU⟩ : ∃ U : Nat, tetL (faceL Gl t f) = U := ⟨(tetL (faceL Gl t f)).toNat, by omega⟩
  obtain ⟨Z, hZ⟩ : ∃ Z : Nat, (permL (faceL Gl t f)).getD i 0 = Z := ⟨((permL (faceL Gl t f)).getD i 0).toNat, by omega⟩
  rw [hM] at m0 m1 m2 m3 m4 m5 ml es1 vs1 ⊢
  rw [hU] at k1 k2 m3
  rw [hZ] at hpi m5
  unfold eStep at es1
  rw [m0, m1, m2, m3, Int.toNat_natCast, Int.toNat_natCast, Int.toNat_natCast] at es1
  unfold vStep at vs1
  rw [m0, m2, m3, m5, show (4 * (t : Int) + i).toNat = 4 * t + i by omega, show (4 * (U : Int) + Z).toNat = 4 * U + Z by omega] at vs1
  obtain ⟨F, hF⟩ : ∃ F, faceL Gl t f = F := ⟨_, rfl⟩
  rw [hF] at k3 hfl hpl es1 m4
  have hn0 : 0 < n := by omega
  obtain ⟨ls1, ls2, ls3⟩ := hls hn0
  have bs := hI.sl.blk hn0
  obtain ⟨d1, d2, d3, d4, d5, d6, d7, d8, d9, d10, d11⟩ := hn1
  obtain ⟨x1, x2, x3, x4, x5, x6, x7⟩ := hn2
  obtain ⟨H, hH⟩ : ∃ H, H = HeapC.set (newB h (256 * c) (ints M)) l (.loop { st with state := .busy }) := ⟨_, rfl⟩
  have hb : beginSt (newB h (256 * c) (ints M)) l = some H := by
    rw [hH]
    exact beginSt_of (by rw [get_newB_ne _ _ _ _ (by omega)]; exact hlp) hst
  have r0 : ∀ j, j < 256 * c → j ≠ l → H.f j = h.f j := by
    intro j hj hne
    rw [hH, set_f, if_neg hne, newB_f, if_neg (by omega)]
  have rl : H.f l = some (.loop { st with state := .busy }) := by rw [hH, set_f, if_pos rfl]
  have hA : Holds H (256 * c) (ints M) := by rw [hH]; exact ((Holds.newB_same h _ _).set_ne (by omega))
  clear hH
  have rd : ∀ j : Nat, j < 6 → ld1 H (.pointer (some ⟨256 * c, j, none⟩)) = some (.int .i64 (M.getD j 0)) := fun j hj => by rw [ld1_holds' hA, ints_getD _ _ (by omega)]
  have a0 := rd 0 (by omega)
  have a1 := rd 1 (by omega)
  have a2 := rd 2 (by omega)
  have a3 := rd 3 (by omega)
  have a5 := rd 5 (by omega)
  clear rd
  rw [m0] at a0
  rw [m1] at a1
  rw [m2] at a2
  rw [m3] at a3
  rw [m5] at a5
  have lv : ld1 H (.pointer (some ⟨vc, 0, none⟩)) = some (ptrTo vs) := by rw [ld1_holds' (hI.pv.eqf (r0 vc (by omega) (Ne.symm x2)))]; rfl
  have hst6 : stN (newB h (256 * c) [.int .i64 0, .int .i64 0, .int .i64 0, .int .i64 0, .int .i64 0, .int .i64 0]) 6 (.pointer (some ⟨256 * c, 0, none⟩)) (av M) = some (newB h (256 * c) (ints M)) := stN_all _ _ 6 _ _ ml rfl
  have uvH : Uf H vs vu (4 * n) (vCl n D) := hI.uv.keep (r0 vs (by omega) (Ne.symm x3)) (r0 vu (by omega) (Ne.symm x4))
  have cj : callF G 72 [.pointer (some ⟨vs, 0, none⟩), .int .i64 (4 * (t : Int) + i), .int .i64 (4 * (U : Int) + Z)] H (c + 1 + 1) = some (.tuple #[], newB H vu (ints (joinL (vCl n D) (4 * t + i) (4 * U + Z))), c + 1 + 1) := by
    have := callF_of (join_sp H vs vu (4 * n) (c + 1 + 1) (vCl n D) uvH (by omega) (by omega) (4 * t + i) (4 * U + Z) (by omega) (by omega) [])
    simpa [ptrTo] using this
  rw [← vs1] at cj
  obtain ⟨K, hK⟩ : ∃ K, newB H vu (ints (vCl n (D ++ [M]))) = K := ⟨_, rfl⟩
  rw [hK] at cj
  have fK : ∀ b, b ≠ vu → K.f b = H.f b := fun b hb => by rw [← hK, newB_f, if_neg hb]
  have fKv : K.f vu = some (.cells false none (ints (vCl n (D ++ [M])))) := by rw [← hK, newB_f, if_pos rfl]
  have lg : ld1 K (.pointer (some ⟨gb, 0, none⟩)) = some s := by rw [ld1_holds' (hI.g.eqf ((fK gb d1).trans (r0 gb (by omega) hgl)))]; rfl
  have b0 : ld1 K (.pointer (some ⟨256 * c, 0, none⟩)) = some (.int .i64 t) := by rw [← hK, ld1_newB_ne _ _ _ _ _ (by omega)]; exact a0
  have b1 : ld1 K (.pointer (some ⟨256 * c, 1, none⟩)) = some (.int .i64 f) := by rw [← hK, ld1_newB_ne _ _ _ _ _ (by omega)]; exact a1
  have slK : SlI K c0 s 20 n Gl := hI.sl.keep (fun _ => by rw [fK _ ls2, r0 _ (by omega) ls1])
  have lf : ldN K 4 (.pointer (some ⟨blkOf s, offOf s + t * 20 + f * 5 + 1, none⟩)) = some (av (permL F)) := by
    rw [show offOf s + t * 20 + f * 5 + 1 = offOf s + (20 * t + 5 * f + 1) by omega, slK.rdN 4 (20 * t + 5 * f + 1) (by omega) (by omega), ← hF]
    unfold permL faceL
    rw [List.drop_take, List.drop_drop, List.take_take]; rfl
  have hst4 : ∀ b, stN (newB K b [.int .i64 0, .int .i64 0, .int .i64 0, .int .i64 0]) 4 (.pointer (some ⟨b, 0, none⟩)) (av (permL F)) = some (newB K b (ints (permL F))) := fun b => stN_all _ _ 4 _ _ hpl rfl
  obtain ⟨pb, hpb⟩ : ∃ pb, pb = 256 * (c + 1 + 1) + 10 := ⟨_, rfl⟩
  obtain ⟨K2, hK2⟩ : ∃ K2, newB K pb (ints (permL F)) = K2 := ⟨_, rfl⟩
  have fK2 : ∀ b, b ≠ pb → K2.f b = K.f b := fun b hb => by rw [← hK2, newB_f, if_neg hb]
  have eu2 : K2.f eu = some (.cells false none (ints (eCl Gl n D))) := by rw [fK2 eu (by omega), fK eu (Ne.symm d11), r0 eu (by omega) (Ne.symm x7)]; exact hI.ue.up
  have k2 : ∀ b, b < 256 * c → b ≠ l → b ≠ vu → K2.f b = h.f b := fun b h1 h2 h3 => by rw [fK2 b (by omega), fK b h3, r0 b h1 h2]
  have hin := Ans.eq (edges_loop K2 ec es eu (256 * c) pb n (c + 1 + 1 + 1 + 1) l (permL F) M t f i (U : Int) [] hn k3 ht hf hi (by omega) (by omega) (by omega) (by omega) (by omega) (by omega) (by omega) d8 (hI.ue.ne) (by omega) (by omega)
    (hI.pe.eqf (k2 ec (by omega) (Ne.symm x5) d7)) ((k2 es (by omega) (Ne.symm x6) d10).trans hI.ue.st) (hA.eqf (by rw [fK2 _ (by omega), fK _ (by omega)])) ⟨false, none, by rw [← hK2]; show (newB _ _ _ : FH).f _ = _; rw [newB_f, if_pos rfl]⟩ ml m0 m1 m2 m3 4 0 _ (by omega) hI.ue.dn)
  rw [newB_self eu2, ← es1] at hin
  simp only [Int.ofNat_eq_natCast, Int.cast_ofNat_Int] at hin
  have dE : Down (eCl Gl n (D ++ [M])) (6 * n) := by rw [es1]; exact eIn_down k3 ht hi (by omega) (by omega) (by omega) hI.ue.dn
  have dV : Down (vCl n (D ++ [M])) (4 * n) := by rw [vs1]; exact joinL_down hI.uv.dn (by omega) (by omega)
  obtain ⟨N, hN⟩ : ∃ N, newB K2 eu (ints (eCl Gl n (D ++ [M]))) = N := ⟨_, rfl⟩
  rw [hN] at hin
  have fN : ∀ b, b ≠ eu → N.f b = K2.f b := fun b hb => by rw [← hN, newB_f, if_neg hb]
  have fNe : N.f eu = some (.cells false none (ints (eCl Gl n (D ++ [M])))) := by rw [← hN, newB_f, if_pos rfl]
  have hl' : N.f l = some (.loop { st with state := .busy }) := by rw [fN l x7, fK2 l (by omega), fK l x4, rl]
  have sT : setState N l .ready none = some (HeapC.set N l (.loop st)) := by
    rw [setState_of (st := { st with state := .busy }) hl']
    congr 3
    rw [← hst, ← hst2]
  unfold f44_R44000
  simp only [Nat.add_zero]
  repeat' (first | ((with_reducible first | refine Ans.bz ?_ | refine Ans.r1 ?_ | refine Ans.pkT ?_ | refine Ans.pkF ?_); try dsimp only [v_zero, v_succ]) | (with_reducible first | refine Ans.btL ?_ | refine Ans.bfL ?_ | refine Ans.gyT ?_ | refine Ans.gyF ?_ | refine Ans.gyG ?_ | refine Ans.bb ?_ | refine Ans.bc ?_ | refine Ans.ba ?_) | ((with_reducible first | refine Ans.addN ?_ ?_ | refine Ans.add ?_ ?_ | refine Ans.mul ?_ ?_); (focus omega)) | ((with_reducible first | refine Ans.ct ?_ ?_); (focus (simp (disch := (first | omega | with_reducible assumption | (simp <;> omega) | fail)) [hst6, hb, lv, a0, a1, a2, a3, a5, cj, lg, b0, b1, slK.ixs, lf, hst4, ← hpb, hK2, hin, sT, -ld1_newB_same]; done))) | ((with_reducible first | refine Ans.cf ?_ ?_); (focus (simp (disch := (first | omega | with_reducible assumption | (simp <;> omega) | fail)) [hst6, hb, lv, a0, a1, a2, a3, a5, cj, lg, b0, b1, slK.ixs, lf, hst4, ← hpb, hK2, hin, sT, -ld1_newB_same]; done))) | (refine Ans.step (by simp (disch := (first | omega | with_reducible assumption | (simp <;> omega) | fail)) [hst6, hb, lv, a0, a1, a2, a3, a5, cj, lg, b0, b1, slK.ixs, lf, hst4, ← hpb, hK2, hin, sT, -ld1_newB_same, -List.getD_eq_getElem?_getD] <;> rfl) ?_; try dsimp only [v_zero, v_succ]) | fail)
  have fin : ∀ b, b < 256 * c → ¬ O b → b ≠ l → (HeapC.set N l (.loop st) : FH).f b = h.f b := fun b g1 g2 g3 => by
    rw [hI.own] at g2
    simp only [not_or] at g2
    rw [set_f, if_neg g3, fN b g2.2, k2 b g1 g3 g2.1]
  have nO : ∀ b, b ≠ vu → b ≠ eu → ¬ O b := fun b h1 h2 => by rw [hI.own]; rintro (e | e); exact h1 e; exact h2 e
  refine .done ⟨(by show c ≤ c + 1 + 1 + 1 + 1; omega), O, fun b hb => .inl hb, fin, rfl, ?_, ?_⟩
  · show (HeapC.set _ _ _ : FH).f l = _
    rw [set_f, if_pos rfl]
  · have uvF : (HeapC.set N l (.loop st) : FH).f vu = some (.cells false none (ints (vCl n (D ++ [M])))) := by rw [set_f, if_neg (Ne.symm x4), fN vu d11, fK2 vu (by omega), fKv]
    have ueF : (HeapC.set N l (.loop st) : FH).f eu = some (.cells false none (ints (eCl Gl n (D ++ [M])))) := by rw [set_f, if_neg (Ne.symm x7), fNe]
    exact ⟨by show cb ≤ c + 1 + 1 + 1 + 1; omega, hI.g.eqf (fin gb (by omega) (nO _ d1 d2) hgl), hI.gg.eqf (fin g2 (by omega) (nO _ d3 d4) (Ne.symm x1)), hI.sl.keep (fun _ => fin _ (by omega) (nO _ ls2 ls3) ls1), hI.pv.eqf (fin vc (by omega) (nO _ d5 d6) (Ne.symm x2)), hI.pe.eqf (fin ec (by omega) (nO _ d7 d8) (Ne.symm x5)),
      ⟨(fin vs (by omega) (nO _ hI.uv.ne d9) (Ne.symm x3)).trans hI.uv.st, uvF, hI.uv.ne, dV, hI.uv.le⟩, ⟨(fin es (by omega) (nO _ d10 hI.ue.ne) (Ne.symm x6)).trans hI.ue.st, ueF, hI.ue.ne, dE, hI.ue.le⟩, hI.own⟩
end Go.Proofs.Ytcnndelmnobigaa

namespace Go.Proofs.Ytcnndelmnobigaa
open Go Go.Ab Go.Proofs
set_option maxRecDepth 100000
set_option linter.unusedVariables false
set_option linter.unusedSimpArgs false
def chkE (Gl : List Int) (n : Nat) (all : Bool) : Int := if refE Gl n = 0 then (if all = true then 0 else 130) else refE Gl n
theorem refE_zero {Gl : List Int} {n : Nat} (h : refE Gl n = 0) : n ≤ 60 ∧ okAll Gl n = true := by
  unfold refE at h
  split at h
  · rename_i h1
    split at h
    · cases h
    · exact ⟨by omega, h1.2⟩
  · cases h
theorem SlX.keep {h h' : FH} {c : Nat} {s : Value} {sz n : Nat} {L : List Int} (hs : SlI h c s sz n L) (hh : Same c h h') (hx : SlX h s sz n) : SlX h' s sz n := by
  obtain ⟨x1, x2⟩ := hx
  refine ⟨x1, ?_⟩
  obtain ⟨_, _, a, cap, rfl, hc4⟩ := hs
  rcases hc4 with ⟨e0, ov⟩ | ⟨b, o, cs, rfl, e2, _, _⟩
  · cases a with
    | none => rfl
    | some a =>
      have hb : a.block < 256 * c := by
        obtain ⟨v', hv'⟩ := ov
        cases hv' with
        | sl hh' _ _ => exact nuD_dom (by rw [hh']; simp)
        | slE hh' => exact nuD_dom (by rw [hh']; simp)
      simp only [adrOf, szOk] at x2 ⊢
      have : HeapC.get h' a.block = HeapC.get h a.block := hh _ hb
      rw [this]; exact x2
  · simp only [adrOf, szOk] at x2 ⊢
    have : HeapC.get h' b = HeapC.get h b := hh _ e2
    rw [this]; exact x2
set_option maxHeartbeats 1000000 in
theorem checks_sp (s : Value) (n : Nat) (Gl : List Int) (ss : List Value) (Vs : Nat → List Int) (nvs : Nat → Nat) (sb : Nat) (h : FH) (c : Nat) (df : List Nat) (hs : SlI h c s 20 n Gl) (hsb : sb < 256 * c) (hh : Holds h sb ss) (hl : ss.length ≤ 1000) (hnv : ∀ j, nvs j ≤ 1000000)
    (hV : ∀ j, j < ss.length → SlI h c (ss.getD j undef) 1 (nvs j) (Vs j) ∧ SlX h (ss.getD j undef) 1 (nvs j)) :
    G (.fn 47) [.agg #[s], .slice (some ⟨sb, 0, none⟩) ss.length ss.length] h c df = some { e := .ret, vs := [.int .i64 (chkE Gl n ((List.range ss.length).all fun i => admB Gl n (Vs i)))], h := h, c := c, df := [] } := by
  refine pure_of' (fun r e => f47_go e) (by simp) ?_
  unfold f47_S
  rw [flat1 hs.flat, cell1, Nat.add_zero]
  simp only [cond_true]
  obtain ⟨H, hH⟩ : ∃ H, H = newB (newB h (256 * c) [s]) (256 * c + 1) [.int .i64 0] := ⟨_, rfl⟩
  have sH : Same c h H := by rw [hH]; simp (disch := omega)
  have hg : Holds H (256 * c) [s] := by rw [hH]; exact (Holds.newB_same _ _ _).newB_ne (by omega)
  have hr : H.f (256 * c + 1) = some (.cells false none [.int .i64 0]) := by rw [hH, newB_f, if_pos rfl]
  rw [← hH]
  clear hH
  have l1 := ldN1_own hg
  have l2 := SlI.len hs
  have c1 := callF_of (refused_sp s n Gl H (c + 1 + 1) [] ((hs.same sH).mono (by omega)))
  obtain ⟨E, hE⟩ : ∃ E, refE Gl n = E := ⟨_, rfl⟩
  have hE0 : E = 0 → n ≤ 60 ∧ okAll Gl n = true := fun e => refE_zero (hE.trans e)
  unfold chkE
  rw [hE] at c1 ⊢
  by_cases h0 : E = 0
  case neg =>
    have w1 := st1_get (v := .int .i64 E) (o := 0) (show HeapC.get H (256 * c + 1) = _ from hr) (by simp) rfl rfl
    have w2 : ld1 (HeapC.set H (256 * c + 1) (.cells false none [.int .i64 E])) (.pointer (some ⟨256 * c + 1, 0, none⟩)) = some (.int .i64 E) := by
      rw [ld1_holds' (cs := [.int .i64 E]) ⟨_, _, get_set_same _ _ _⟩]; rfl
    rw [if_neg h0]
    have fx := And.intro l1 (And.intro c1 (And.intro w1 w2))
    refine Ans.go ?_
    clear fx
    exact Ans.pure rfl (sH.set (by omega))
  obtain ⟨hn, hok⟩ := hE0 h0
  rw [if_pos h0]
  obtain ⟨⟨re, rv, rh, rc, rd⟩, hq, q1, q2, q3, q4, q5, q6⟩ := check_lists s n Gl ss Vs nvs (256 * c) (256 * c + 1) sb (c + 1 + 1 + 1 + 1) H hn hok (by omega) (by omega) (by omega) (by omega) (by omega) hg ((hs.same sH).mono (by omega)) (fun hp => by have := hs.blk hp; omega)
    (hh.same hsb sH) hl hnv (fun j hj => ⟨((hV j hj).1.same sH).mono (by omega), SlX.keep (hV j hj).1 sH (hV j hj).2, fun hp => by have := (hV j hj).1.blk hp; omega⟩) ss.length 0 (c + 1 + 1 + 1 + 1) H [] (by omega) (by omega) (fun b _ _ => rfl) hr List.nodup_nil (fun d hd => by cases hd)
  simp only at q1 q3 q4 q5 q6
  simp only [Int.ofNat_eq_natCast, Int.cast_ofNat_Int] at hq
  have hln : lenS (.slice (some ⟨sb, 0, none⟩) ss.length ss.length) = some (.int .i64 ss.length) := rfl
  have sR : ∀ b, b < 256 * c → rh.f b = h.f b := fun b hb => by rw [q3 b (by omega) (by omega), sH b hb]
  rcases q6 with ⟨rfl, q7, q8⟩ | ⟨rfl, q7, i, q8, q9⟩
  · have hall : ((List.range ss.length).all fun i => admB Gl n (Vs i)) = true := List.all_eq_true.2 fun i hi => q8 i (by omega) (by simpa using hi)
    rw [hall, if_pos rfl]
    have w1 := st1_get (v := .int .i64 0) (o := 0) (show HeapC.get rh (256 * c + 1) = _ from q7) (by simp) rfl rfl
    obtain ⟨h9, t1, t2⟩ := takeAll_ok (df := rd) (h := HeapC.set rh (256 * c + 1) (.cells false none [.int .i64 0])) q4 (fun d hd => by have := q5 d hd; rw [set_f, if_neg (by omega)]; exact this.1)
    have w2 : ld1 h9 (.pointer (some ⟨256 * c + 1, 0, none⟩)) = some (.int .i64 0) := by
      rw [ld1_holds' (cs := [.int .i64 0]) ⟨false, none, (t2 _ (fun hm => by have := q5 _ hm; omega)).trans (by rw [set_f, if_pos rfl])⟩]; rfl
    have q2' : ({ e := .exit 0, vs := rv, h := rh, c := rc, df := rd } : Rt FH).v 1 = ptrTo (256 * c + 1) := q2
    have fx := And.intro l1 (And.intro c1 (And.intro hln (And.intro hq (And.intro q2' (And.intro w1 (And.intro t1 w2))))))
    refine Ans.go ?_
    clear fx
    refine Ans.pure rfl (fun b hb => ?_)
    show h9.f b = h.f b
    rw [t2 b (fun hm => by have := q5 _ hm; omega), set_f, if_neg (by omega), sR b hb]
  · have hall : ((List.range ss.length).all fun i => admB Gl n (Vs i)) = false := by
      rw [← Bool.not_eq_true, List.all_eq_true]
      intro hall
      have := hall i (by simpa using q8)
      rw [q9] at this; cases this
    rw [hall, if_neg (by simp)]
    obtain ⟨h9, t1, t2⟩ := takeAll_ok (df := rd) (h := rh) q4 (fun d hd => (q5 d hd).1)
    have w2 : ld1 h9 (.pointer (some ⟨256 * c + 1, 0, none⟩)) = some (.int .i64 130) := by
      rw [ld1_holds' (cs := [.int .i64 130]) ⟨false, none, (t2 _ (fun hm => by have := q5 _ hm; omega)).trans q7⟩]; rfl
    have q2' : ({ e := .ret, vs := rv, h := rh, c := rc, df := rd } : Rt FH).v 1 = ptrTo (256 * c + 1) := q2
    have fx := And.intro l1 (And.intro c1 (And.intro hln (And.intro hq (And.intro q2' (And.intro t1 w2)))))
    refine Ans.go ?_
    clear fx
    refine Ans.pure rfl (fun b hb => ?_)
    show h9.f b = h.f b
    rw [t2 b (fun hm => by have := q5 _ hm; omega), sR b hb]
theorem check1 (s v : Value) (n nv : Nat) (Gl V : List Int) (sb : Nat) (h : FH) (c : Nat) (hs : SlI h c s 20 n Gl) (hv : SlI h c v 1 nv V) (hx : SlX h v 1 nv) (hnv : nv ≤ 1000000) (hsb : sb < 256 * c) (hh : Holds h sb [v]) :
    callF G 47 [.agg #[s], .slice (some ⟨sb, 0, none⟩) 1 1] h c = some (.int .i64 (chkE Gl n (admB Gl n V)), h, c) := by
  have := checks_sp s n Gl [v] (fun _ => V) (fun _ => nv) sb h c [] hs hsb hh (by simp) (fun _ => hnv) (fun j hj => by
    match j, hj with
    | 0, _ => exact ⟨hv, hx⟩)
  have e : ((List.range [v].length).all fun i => admB Gl n V) = admB Gl n V := by simp
  rw [e] at this
  exact callF_of this
theorem checkN_sp (s v : Value) (n nv : Nat) (Gl V : List Int) (h : FH) (c : Nat) (df : List Nat) (hs : SlI h c s 20 n Gl) (hv : SlI h c v 1 nv V) (hx : SlX h v 1 nv) (hnv : nv ≤ 1000000) :
    G (.fn 17) [.agg #[s], v] h c df = some { e := .ret, vs := [.int .i64 (chkE Gl n (admB Gl n V))], h := h, c := c, df := [] } := by
  refine pure_of' (fun r e => f17_go e) (by simp) ?_
  unfold f17_S
  rw [flat1 hs.flat, cell1, Nat.add_zero]
  simp only [cond_true]
  have l1 : ldN (newB h (256 * c) [s]) 1 (.pointer (some ⟨256 * c, 0, none⟩)) = some (.agg #[s]) := ldN1_own (Holds.newB_same _ _ _)
  have hbl : bldL [(.slice none 0 0)] [(0, 1, v)] = some [v] := by
    obtain ⟨_, _, a, cap, rfl, _⟩ := hv
    rfl
  have sH : Same c h (newB (newB h (256 * c) [s]) (256 * (c + 1) + 2) [v]) := by simp (disch := omega)
  have c1 := check1 s v n nv Gl V (256 * (c + 1) + 2) (newB (newB h (256 * c) [s]) (256 * (c + 1) + 2) [v]) (c + 1 + 1) ((hs.same sH).mono (by omega)) ((hv.same sH).mono (by omega)) (SlX.keep hv sH hx) hnv (by omega) (Holds.newB_same _ _ _)
  have fx := And.intro l1 (And.intro hbl c1)
  refine Ans.go ?_
  clear fx
  exact Ans.pure rfl sH
end Go.Proofs.Ytcnndelmnobigaa

namespace Go.Proofs.Ytcnndelmnobigaa
open Go Go.Ab Go.Proofs
set_option maxRecDepth 100000
set_option linter.unusedVariables false
set_option linter.unusedSimpArgs false
def RowV (c0 : Nat) (h : FH) (c : Nat) (x : Value) (w : Nat) (L : List Int) : Prop := ∃ b, x = .slice (some ⟨b, 0, none⟩) w w ∧ 256 * c0 ≤ b ∧ b < 256 * c ∧ h.f b = some (.cells false none (ints L)) ∧ L.length = w ∧ w ≤ 1000000
structure EqI (s : Value) (n : Nat) (Gl : List Int) (gb g2 ob l c0 cb : Nat) (D : List (List Int)) (O : Nat → Prop) (h : FH) (c : Nat) : Prop where
  lc : cb ≤ c
  g : Holds h gb [s]
  gg : Holds h g2 [s]
  sl : SlI h c0 s 20 n Gl
  ng : ¬ O g2
  out : ∃ vo vals, O = (fun b => b = ob ∨ b = blkOf vo) ∧ h.f ob = some (.cells false none [vo]) ∧ AppG c0 h c vo D.length vals ∧ blkOf vo ≠ ob ∧ blkOf vo ≠ l ∧
    ∀ (k : Nat) (m : List Int), D[k]? = some m → ∃ x, vals[k]? = some x ∧ RowV c0 h c x (7 * n) (eqRow n m) ∧ blkOf x ≠ ob ∧ blkOf x ≠ blkOf vo ∧ blkOf x ≠ l
set_option maxHeartbeats 2000000 in
theorem eq_round (s : Value) (n : Nat) (Gl : List Int) (gb g2 ob c0 cb l : Nat) (st : ALoop) (hst : st.state = .ready) (hst2 : st.pending = none) (hok : okAll Gl n = true) (hn : n ≤ 60)
    (hgb : gb < 256 * c0) (hg2 : g2 < 256 * cb) (hob : ob < 256 * cb) (hl : l < 256 * cb) (hc0 : c0 ≤ cb) (h1 : l ≠ gb) (h2 : l ≠ g2) (h3 : l ≠ ob) (hgo : gb ≠ ob) (hg2o : g2 ≠ ob) (hls : 0 < n → blkOf s ≠ l ∧ blkOf s ≠ ob)
    {D : List (List Int)} {O : Nat → Prop} {h : FH} {c t f i : Nat} (ht : t < n) (hf : f < 4) (hi : i < 4) (hif : i ≠ f) (hsk : mSkip Gl t f = false) (hI : EqI s n Gl gb g2 ob l c0 cb D O h c) (hD : D.length < 100000) (hlp : h.f l = some (.loop st)) :
    Ans (f27_R27000 G l (av (mRow Gl t f i)) (ptrTo gb) (ptrTo ob) h c) (fun r => c ≤ r.c ∧ ∃ O', (∀ b, O' b → O b ∨ 256 * c ≤ b) ∧ (∀ b, b < 256 * c → ¬ O b → b ≠ l → r.h.f b = h.f b) ∧
      (r.vs = [.bool true] ∧ r.h.f l = some (.loop st) ∧ EqI s n Gl gb g2 ob l c0 cb (D ++ [mRow Gl t f i]) O' r.h r.c)) := by
  have hlc := hI.lc
  have hG := hI.sl.1
  obtain ⟨k1, k2, k3⟩ := mRow_ok hok hG ht hf hi hif hsk
  have hpf := range24 k3 hf
  have hpi := range24 k3 hi
  have hpn := ne24 k3 hi hf hif
  have m0 : (mRow Gl t f i).getD 0 0 = t := rfl
  have m1 : (mRow Gl t f i).getD 1 0 = f := rfl
  have m2 : (mRow Gl t f i).getD 2 0 = i := rfl
  have m3 : (mRow Gl t f i).getD 3 0 = tetL (faceL Gl t f) := rfl
  have m4 : (mRow Gl t f i).getD 4 0 = (permL (faceL Gl t f)).getD f 0 := rfl
  have m5 : (mRow Gl t f i).getD 5 0 = (permL (faceL Gl t f)).getD i 0 := rfl
  have ml : (mRow Gl t f i).length = 6 := rfl
  obtain ⟨M, hM⟩ : ∃ M, mRow Gl t f i = M := ⟨_, rfl⟩
  obtain ⟨U, hU⟩ : ∃ U, tetL (faceL Gl t f) = U := ⟨_, rfl⟩
  obtain ⟨Y, hY⟩ : ∃ Y, (permL (faceL Gl t f)).getD f 0 = Y := ⟨_, rfl⟩
  obtain ⟨Z, hZ⟩ : ∃ Z, (permL (faceL Gl t f)).getD i 0 = Z := ⟨_, rfl⟩
  rw [hM] at m0 m1 m2 m3 m4 m5 ml ⊢
  rw [hU] at k1 k2 m3
  rw [hY] at hpf m4 hpn
  rw [hZ] at hpi m5 hpn
  have hn0 : 0 < n := by omega
  obtain ⟨ls1, ls2⟩ := hls hn0
  have bs := hI.sl.blk hn0
  have hg2O := hI.ng
  obtain ⟨vo, vals, o1, o2, o3, o4, hlvo, o5⟩ := hI.out
  have bvo := o3.blk
  have hg2vo : g2 ≠ blkOf vo := fun e => hg2O (by rw [o1]; exact .inr e)
  have e1 : eqRow n M = addAt (addAt (addAt (addAt (List.replicate (7 * n) 0) (7 * (t : Int) + i).toNat 1) (7 * (t : Int) + 4 + ty i f).toNat 1) (7 * U + Z).toNat (-1)) (7 * U + 4 + ty Z Y).toNat (-1) := by
    unfold eqRow
    rw [m0, m1, m2, m3, m4, m5]
  have tr1 := ty_range (i := (i : Int)) (f := (f : Int)) (by omega) (by omega) (by omega) (by omega) (by omega)
  have tr2 := ty_range hpi.1 hpi.2 hpf.1 hpf.2 hpn
  obtain ⟨T1, hT1⟩ : ∃ T, ty i f = T := ⟨_, rfl⟩
  obtain ⟨T2, hT2⟩ : ∃ T, ty Z Y = T := ⟨_, rfl⟩
  have x1 := ixV_avs tyT 4 4 .i64 (i : Int) (by omega) (by omega) rfl
  have x2 := ixV_av ((tyT.drop ((i : Int).toNat * 4)).take 4) 4 .i64 (f : Int) (by omega) (by omega) (by simp [tyT]; omega)
  rw [show ((tyT.drop ((i : Int).toNat * 4)).take 4).getD (f : Int).toNat 0 = ty i f from rfl, hT1] at x2
  have x3 := ixV_avs tyT 4 4 .i64 Z hpi.1 (by omega) rfl
  have x4 := ixV_av ((tyT.drop (Z.toNat * 4)).take 4) 4 .i64 Y hpf.1 (by omega) (by simp [tyT]; omega)
  rw [show ((tyT.drop (Z.toNat * 4)).take 4).getD Y.toNat 0 = ty Z Y from rfl, hT2] at x4
  obtain ⟨A1, hA1⟩ : ∃ A, (tyT.drop ((i : Int).toNat * 4)).take 4 = A := ⟨_, rfl⟩
  obtain ⟨A2, hA2⟩ : ∃ A, (tyT.drop (Z.toNat * 4)).take 4 = A := ⟨_, rfl⟩
  rw [hA1] at x1 x2
  rw [hA2] at x3 x4
  rw [hT1] at e1 tr1
  rw [hT2] at e1 tr2
  obtain ⟨L0, hL0⟩ : ∃ L, L = List.replicate (7 * n) (0 : Int) := ⟨_, rfl⟩
  obtain ⟨L1, hL1⟩ : ∃ L, L = addAt L0 (7 * (t : Int) + i).toNat 1 := ⟨_, rfl⟩
  obtain ⟨L2, hL2⟩ : ∃ L, L = addAt L1 (7 * (t : Int) + 4 + T1).toNat 1 := ⟨_, rfl⟩
  obtain ⟨L3, hL3⟩ : ∃ L, L = addAt L2 (7 * U + Z).toNat (-1) := ⟨_, rfl⟩
  rw [← hL0, ← hL1, ← hL2, ← hL3] at e1
  have n0 : L0.length = 7 * n := by rw [hL0]; simp
  have n1 : L1.length = 7 * n := by rw [hL1, addAt_length, n0]
  have n2 : L2.length = 7 * n := by rw [hL2, addAt_length, n1]
  have n3 : L3.length = 7 * n := by rw [hL3, addAt_length, n2]
  have n4 := eqRow_length n M
  have b0 : ∀ k, -(0 : Int) ≤ L0.getD k 0 ∧ L0.getD k 0 ≤ 0 := by rw [hL0]; exact zero_bound _
  have b1 := addAt_bound b0 (by omega) (7 * (t : Int) + i).toNat 1 (by omega)
  rw [← hL1] at b1
  have b2 := addAt_bound b1 (by omega) (7 * (t : Int) + 4 + T1).toNat 1 (by omega)
  rw [← hL2] at b2
  have b3 := addAt_bound b2 (by omega) (7 * U + Z).toNat (-1) (by omega)
  rw [← hL3] at b3
  have b0' := b0 (7 * (t : Int) + i).toNat
  have b1' := b1 (7 * (t : Int) + 4 + T1).toNat
  have b2' := b2 (7 * U + Z).toNat
  have b3' := b3 (7 * U + 4 + T2).toNat
  clear b0 b1 b2 b3
  obtain ⟨H, hH⟩ : ∃ H, H = HeapC.set (newB h (256 * c) (ints M)) l (.loop { st with state := .busy }) := ⟨_, rfl⟩
  have hb : beginSt (newB h (256 * c) (ints M)) l = some H := by
    rw [hH]
    exact beginSt_of (by rw [get_newB_ne _ _ _ _ (by omega)]; exact hlp) hst
  have r0 : ∀ j, j < 256 * c → j ≠ l → H.f j = h.f j := by
    intro j hj hne
    rw [hH, set_f, if_neg hne, newB_f, if_neg (by omega)]
  have rl : H.f l = some (.loop { st with state := .busy }) := by rw [hH, set_f, if_pos rfl]
  have hA : Holds H (256 * c) (ints M) := by rw [hH]; exact ((Holds.newB_same h _ _).set_ne (by omega))
  clear hH
  have rd : ∀ j : Nat, j < 6 → ld1 H (.pointer (some ⟨256 * c, j, none⟩)) = some (.int .i64 (M.getD j 0)) := fun j hj => by rw [ld1_holds' hA, ints_getD _ _ (by omega)]
  have a0 := rd 0 (by omega)
  have a1 := rd 1 (by omega)
  have a2 := rd 2 (by omega)
  have a3 := rd 3 (by omega)
  have a4 := rd 4 (by omega)
  have a5 := rd 5 (by omega)
  clear rd
  rw [m0] at a0
  rw [m1] at a1
  rw [m2] at a2
  rw [m3] at a3
  rw [m4] at a4
  rw [m5] at a5
  have lg : ld1 H (.pointer (some ⟨gb, 0, none⟩)) = some s := by rw [ld1_holds' (hI.g.eqf (r0 gb (by omega) (Ne.symm h1)))]; rfl
  have lo : ld1 H (.pointer (some ⟨ob, 0, none⟩)) = some vo := by rw [ld1_holds' (cs := [vo]) ⟨false, none, (r0 ob (by omega) (Ne.symm h3)).trans o2⟩]; rfl
  have ll := hI.sl.len
  have hst6 : stN (newB h (256 * c) [.int .i64 0, .int .i64 0, .int .i64 0, .int .i64 0, .int .i64 0, .int .i64 0]) 6 (.pointer (some ⟨256 * c, 0, none⟩)) (av M) = some (newB h (256 * c) (ints M)) := stN_all _ _ 6 _ _ ml rfl
  have mk := mkS_int 1 8 .i64 .i64 (7 * n) (by omega) (by omega)
  rw [← hL0, show ((7 * n : Nat) : Int) = 7 * (n : Int) by omega] at mk
  obtain ⟨rb, hrb⟩ : ∃ rb, rb = 256 * (c + 1) + 4 := ⟨_, rfl⟩
  have ld0 : ld1 (newB H rb (ints L0)) (.pointer (some ⟨rb, (7 * (t : Int) + i).toNat, none⟩)) = some (.int .i64 (L0.getD (7 * (t : Int) + i).toNat 0)) := ld1_ints _ _ _ _ (by omega)
  have st0 : stN (newB H rb (ints L0)) 1 (.pointer (some ⟨rb, (7 * (t : Int) + i).toNat, none⟩)) (.int .i64 (L0.getD (7 * (t : Int) + i).toNat 0 + 1)) = some (newB H rb (ints L1)) := by
    rw [st1_int _ _ _ _ _ _ (by simp; omega), ints_set, hL1]; rfl
  have ld1' : ld1 (newB H rb (ints L1)) (.pointer (some ⟨rb, (7 * (t : Int) + 4 + T1).toNat, none⟩)) = some (.int .i64 (L1.getD (7 * (t : Int) + 4 + T1).toNat 0)) := ld1_ints _ _ _ _ (by omega)
  have st1' : stN (newB H rb (ints L1)) 1 (.pointer (some ⟨rb, (7 * (t : Int) + 4 + T1).toNat, none⟩)) (.int .i64 (L1.getD (7 * (t : Int) + 4 + T1).toNat 0 + 1)) = some (newB H rb (ints L2)) := by
    rw [st1_int _ _ _ _ _ _ (by simp; omega), ints_set, hL2]; rfl
  have ld2 : ld1 (newB H rb (ints L2)) (.pointer (some ⟨rb, (7 * U + Z).toNat, none⟩)) = some (.int .i64 (L2.getD (7 * U + Z).toNat 0)) := ld1_ints _ _ _ _ (by omega)
  have st2 : stN (newB H rb (ints L2)) 1 (.pointer (some ⟨rb, (7 * U + Z).toNat, none⟩)) (.int .i64 (L2.getD (7 * U + Z).toNat 0 - 1)) = some (newB H rb (ints L3)) := by
    rw [st1_int _ _ _ _ _ _ (by simp; omega), ints_set, hL3]; rfl
  have ld3 : ld1 (newB H rb (ints L3)) (.pointer (some ⟨rb, (7 * U + 4 + T2).toNat, none⟩)) = some (.int .i64 (L3.getD (7 * U + 4 + T2).toNat 0)) := ld1_ints _ _ _ _ (by omega)
  have st3 : stN (newB H rb (ints L3)) 1 (.pointer (some ⟨rb, (7 * U + 4 + T2).toNat, none⟩)) (.int .i64 (L3.getD (7 * U + 4 + T2).toNat 0 - 1)) = some (newB H rb (ints (eqRow n M))) := by
    rw [st1_int _ _ _ _ _ _ (by simp; omega), ints_set, e1]; rfl
  obtain ⟨R4, hR4⟩ : ∃ R, newB H rb (ints (eqRow n M)) = R := ⟨_, rfl⟩
  rw [hR4] at st3
  have fR : ∀ b, b ≠ rb → R4.f b = H.f b := fun b hb => by rw [← hR4, newB_f, if_neg hb]
  have fRb : R4.f rb = some (.cells false none (ints (eqRow n M))) := by rw [← hR4, newB_f, if_pos rfl]
  have lo' : ld1 R4 (.pointer (some ⟨ob, 0, none⟩)) = some vo := by rw [← hR4, ld1_newB_ne _ _ _ _ _ (by omega)]; exact lo
  obtain ⟨d0, hd0⟩ : ∃ d, L0.getD (7 * (t : Int) + i).toNat 0 = d := ⟨_, rfl⟩
  obtain ⟨d1, hd1⟩ : ∃ d, L1.getD (7 * (t : Int) + 4 + T1).toNat 0 = d := ⟨_, rfl⟩
  obtain ⟨d2, hd2⟩ : ∃ d, L2.getD (7 * U + Z).toNat 0 = d := ⟨_, rfl⟩
  obtain ⟨d3, hd3⟩ : ∃ d, L3.getD (7 * U + 4 + T2).toNat 0 = d := ⟨_, rfl⟩
  rw [hd0] at ld0 st0 b0'
  rw [hd1] at ld1' st1' b1'
  rw [hd2] at ld2 st2 b2'
  rw [hd3] at ld3 st3 b3'
  have hbl : bldL [(.slice none 0 0)] [(0, 1, (.slice (some ⟨rb, 0, none⟩) (7 * n) (7 * n)))] = some [.slice (some ⟨rb, 0, none⟩) (7 * n) (7 * n)] := rfl
  obtain ⟨h', p1, p2, p3⟩ := ((o3.keep (h' := R4) (by rw [fR _ (by omega), r0 _ (by omega) hlvo])).mono (c' := c + 1 + 1 + 1 + 1 + 1 + 1) (by omega)).app (c' := c + 1 + 1 + 1 + 1 + 1 + 1 + 1) (.slice (some ⟨rb, 0, none⟩) (7 * n) (7 * n)) rfl 24 (256 * (c + 1 + 1 + 1 + 1 + 1 + 1) + 2) (256 * (c + 1 + 1 + 1 + 1 + 1 + 1) + 3) (by omega) (by omega) (by omega) (by omega) (by omega) (by omega)
  have ho' : h'.f ob = some (.cells false none [vo]) := by rw [p3 ob (by omega) (Ne.symm o4), fR ob (by omega), r0 ob (by omega) (Ne.symm h3), o2]
  obtain ⟨id, hid⟩ : ∃ id, id = 256 * (c + 1 + 1 + 1 + 1 + 1 + 1) + 3 := ⟨_, rfl⟩
  rw [← hid] at p1 p2
  have w1 := st1_get (v := .slice (some ⟨id, 0, none⟩) (D.length + 1) (D.length + 1)) (o := 0) (show HeapC.get h' ob = _ from ho') (by simp) rfl rfl
  have hl' : h'.f l = some (.loop { st with state := .busy }) := by rw [p3 l (by omega) (Ne.symm hlvo), fR l (by omega), rl]
  have sT : setState (HeapC.set h' ob (.cells false none [.slice (some ⟨id, 0, none⟩) (D.length + 1) (D.length + 1)])) l .ready none = some (HeapC.set (HeapC.set h' ob (.cells false none [.slice (some ⟨id, 0, none⟩) (D.length + 1) (D.length + 1)])) l (.loop st)) := by
    rw [setState_of (st := { st with state := .busy }) (by rw [get_set_ne _ _ _ _ h3]; exact hl')]
    congr 3
    rw [← hst, ← hst2]
  unfold f27_R27000
  rw [← hrb]
  repeat' (first | ((with_reducible first | refine Ans.bz ?_ | refine Ans.r1 ?_ | refine Ans.pkT ?_ | refine Ans.pkF ?_); try dsimp only [v_zero, v_succ]) | (with_reducible first | refine Ans.btL ?_ | refine Ans.bfL ?_ | refine Ans.gyT ?_ | refine Ans.gyF ?_ | refine Ans.gyG ?_ | refine Ans.bb ?_ | refine Ans.bc ?_ | refine Ans.ba ?_) | ((with_reducible first | refine Ans.addN ?_ ?_ | refine Ans.add ?_ ?_ | refine Ans.sub ?_ ?_ | refine Ans.mul ?_ ?_); (focus omega)) | ((with_reducible first | refine Ans.ct ?_ ?_); (focus (simp (disch := (first | omega | with_reducible assumption | (simp <;> omega) | fail)) [hst6, hb, lg, lo, ll, mk, a0, a1, a2, a3, a4, a5, ld0, st0, ld1', st1', ld2, st2, ld3, st3, callF_types, x1, x2, x3, x4, lo', hbl, ← hid, p1, w1, sT, -ld1_newB_same]; done))) | ((with_reducible first | refine Ans.cf ?_ ?_); (focus (simp (disch := (first | omega | with_reducible assumption | (simp <;> omega) | fail)) [hst6, hb, lg, lo, ll, mk, a0, a1, a2, a3, a4, a5, ld0, st0, ld1', st1', ld2, st2, ld3, st3, callF_types, x1, x2, x3, x4, lo', hbl, ← hid, p1, w1, sT, -ld1_newB_same]; done))) | (refine Ans.step (by simp (disch := (first | omega | with_reducible assumption | (simp <;> omega) | fail)) [hst6, hb, lg, lo, ll, mk, a0, a1, a2, a3, a4, a5, ld0, st0, ld1', st1', ld2, st2, ld3, st3, callF_types, x1, x2, x3, x4, lo', hbl, ← hid, p1, w1, sT, -ld1_newB_same, -List.getD_eq_getElem?_getD] <;> rfl) ?_; try dsimp only [v_zero, v_succ]) | fail)
  have fin : ∀ b, b < 256 * c → ¬ O b → b ≠ l → (HeapC.set (HeapC.set h' ob (.cells false none [.slice (some ⟨id, 0, none⟩) (D.length + 1) (D.length + 1)])) l (.loop st) : FH).f b = h.f b := fun b g1 g2 g3 => by
    rw [o1] at g2
    simp only [not_or] at g2
    rw [set_f, if_neg g3, set_f, if_neg g2.1, p3 b (by omega) g2.2, fR b (by omega), r0 b g1 g3]
  have hgO : ¬ O gb := by
    rw [o1]
    rintro (e | e)
    · exact hgo e
    · omega
  refine .done ⟨(by show c ≤ c + 1 + 1 + 1 + 1 + 1 + 1 + 1; omega), (fun b => b = ob ∨ b = id), fun b hb => ?_, fin, rfl, ?_, ?_⟩
  · rcases hb with rfl | rfl
    · rw [o1]; exact .inl (.inl rfl)
    · exact .inr (by omega)
  · show (HeapC.set _ _ _ : FH).f l = _
    rw [set_f, if_pos rfl]
  · have ob' : (HeapC.set (HeapC.set h' ob (.cells false none [.slice (some ⟨id, 0, none⟩) (D.length + 1) (D.length + 1)])) l (.loop st) : FH).f ob = some (.cells false none [.slice (some ⟨id, 0, none⟩) (D.length + 1) (D.length + 1)]) := by rw [set_f, if_neg (Ne.symm h3), set_f, if_pos rfl]
    refine ⟨by show cb ≤ c + 1 + 1 + 1 + 1 + 1 + 1 + 1; omega, hI.g.eqf (fin gb (by omega) hgO (Ne.symm h1)), hI.gg.eqf (fin g2 (by omega) hg2O (Ne.symm h2)), hI.sl.keep (fun _ => fin _ (by omega) (by rw [o1]; rintro (e | e); exact ls2 e; omega) ls1), by rintro (e | e); exact hg2o e; omega, .slice (some ⟨id, 0, none⟩) (D.length + 1) (D.length + 1), vals ++ [.slice (some ⟨rb, 0, none⟩) (7 * n) (7 * n)], rfl, ob', ?_, by rw [blkOf_sl]; omega, by rw [blkOf_sl]; omega, ?_⟩
    · have e : (D ++ [M]).length = D.length + 1 := by simp
      rw [e]
      exact p2.keep (by rw [blkOf_sl, set_f, if_neg (by omega), set_f, if_neg (by omega)])
    · intro k m hk
      have hvl : vals.length = D.length := o3.1
      rcases Nat.lt_or_ge k D.length with hkl | hkl
      · rw [List.getElem?_append_left hkl] at hk
        obtain ⟨x, x1, ⟨b, rfl, y1, y2, y3, y4, y5⟩, x3, x4, hbl'⟩ := o5 k m hk
        rw [blkOf_sl] at x3 x4 hbl'
        refine ⟨_, by rw [List.getElem?_append_left (by omega)]; exact x1, ⟨b, rfl, y1, by show b < 256 * (c + 1 + 1 + 1 + 1 + 1 + 1 + 1); omega, ?_, y4, y5⟩, by rw [blkOf_sl]; exact x3, by rw [blkOf_sl, blkOf_sl]; omega, by rw [blkOf_sl]; exact hbl'⟩
        rw [← y3]
        exact fin b (by omega) (by rw [o1]; rintro (e | e); exact x3 e; exact x4 e) hbl'
      · have hk0 : k = D.length := by
          have := (List.getElem?_eq_some_iff.1 hk).1
          simp at this; omega
        subst hk0
        rw [List.getElem?_append_right (Nat.le_refl _), Nat.sub_self] at hk
        cases hk
        refine ⟨_, by rw [List.getElem?_append_right (by omega), hvl, Nat.sub_self]; rfl, ⟨rb, rfl, by omega, by show rb < 256 * (c + 1 + 1 + 1 + 1 + 1 + 1 + 1); omega, ?_, n4, by omega⟩, by rw [blkOf_sl]; omega, by rw [blkOf_sl, blkOf_sl]; omega, by rw [blkOf_sl]; omega⟩
        show (HeapC.set _ _ _ : FH).f rb = _
        rw [set_f, if_neg (by omega), set_f, if_neg (by omega), p3 rb (by omega) (by omega), fRb]
end Go.Proofs.Ytcnndelmnobigaa

namespace Go.Proofs.Ytcnndelmnobigaa
open Go Go.Ab Go.Proofs
set_option maxRecDepth 100000
set_option linter.unusedVariables false
set_option linter.unusedSimpArgs false
theorem eq_roundI (s : Value) (n : Nat) (Gl : List Int) (gb g2 ob l c0 cb : Nat) (hok : okAll Gl n = true) (hn : n ≤ 60)
    (hgb : gb < 256 * c0) (hg2 : g2 < 256 * cb) (hob : ob < 256 * cb) (hl : l < 256 * cb) (hc0 : c0 ≤ cb) (h1 : l ≠ gb) (h2 : l ≠ g2) (h3 : l ≠ ob) (hgo : gb ≠ ob) (hg2o : g2 ≠ ob) (hls : 0 < n → blkOf s ≠ l ∧ blkOf s ≠ ob) :
    RoundI s n Gl g2 l cb (entryL 83 [1, 5] #[16] f27_a27000 f27_c27000 [ptrTo gb, ptrTo ob] (l + 1)) none [ptrTo gb, ptrTo ob] (EqI s n Gl gb g2 ob l c0 cb) (fun _ _ _ => False) where
  stab := fun D O h c h' c' hi hc hs => by
    have := hi.lc
    obtain ⟨vo, vals, o1, o2, o3, o4, o5, o6⟩ := hi.out
    have bvo := o3.blk
    refine ⟨by omega, hi.g.eqf (hs _ (by omega) (Ne.symm h1)), hi.gg.eqf (hs _ (by omega) (Ne.symm h2)), hi.sl.keep (fun hp => hs _ (by have := hi.sl.blk hp; omega) (hls hp).1), hi.ng, vo, vals, o1, (hs _ (by omega) (Ne.symm h3)).trans o2, (o3.keep (hs _ bvo.2 o5)).mono hc, o4, o5, fun k m hk => ?_⟩
    obtain ⟨x, x1, ⟨b, rfl, y1, y2, y3, y4, y5⟩, x3, x4, x5⟩ := o6 k m hk
    exact ⟨_, x1, ⟨b, rfl, y1, by omega, (hs b y2 x5).trans y3, y4, y5⟩, x3, x4, x5⟩
  jstab := fun O h c h' c' hj hc hs => hj
  own := fun D O h c hi b hb => by
    have := hi.lc
    obtain ⟨vo, vals, o1, o2, o3, o4, o5, o6⟩ := hi.out
    rw [o1] at hb
    rcases hb with rfl | rfl
    · omega
    · exact o3.blk.2
  ownJ := fun O h c hj b hb => hj.elim
  read := fun D O h c hi => ⟨hi.gg, hi.sl.mono (by have := hi.lc; omega)⟩
  step := fun D O h c t f i ht hf hi hif hsk hpre hc hI hlp => by
    obtain ⟨R, hR⟩ := hpre
    have hD : D.length < 100000 := by
      have h1 := congrArg List.length hR
      have h2 := allM_length Gl n
      simp at h1; omega
    obtain ⟨r, hr, q1, O', q2, q3, q4⟩ := eq_round s n Gl gb g2 ob c0 cb l _ rfl rfl hok hn hgb hg2 hob hl hc0 h1 h2 h3 hgo hg2o hls ht hf hi hif hsk hI hD hlp
    exact ⟨r, f27_G27000 hr, q1, O', q2, q3, .inl q4⟩
def EqV (c0 : Nat) (h : FH) (c n : Nat) (Gl : List Int) (v : Value) : Prop :=
  ∃ vals, AppG c0 h c v (allM Gl n).length vals ∧ ∀ (k : Nat) (m : List Int), (allM Gl n)[k]? = some m → ∃ x, vals[k]? = some x ∧ RowV c0 h c x (7 * n) (eqRow n m)
set_option maxHeartbeats 1000000 in
theorem equations_sp (s : Value) (n : Nat) (Gl : List Int) (h : FH) (c : Nat) (df : List Nat) (hs : SlI h c s 20 n Gl) :
    Ans (G (.fn 27) [.agg #[s]] h c df) fun r => r.e = .ret ∧ r.df = [] ∧ c ≤ r.c ∧ Same c h r.h ∧
      ((refE Gl n ≠ 0 ∧ r.vs = [.tuple #[.slice none 0 0, .int .i64 (refE Gl n)]]) ∨ (refE Gl n = 0 ∧ ∃ v, r.vs = [.tuple #[v, .int .i64 0]] ∧ EqV c r.h r.c n Gl v)) := by
  refine Ans.call' (fun r e => f27_go e) ?_
  unfold f27_S
  rw [flat1 hs.flat, cell1, Nat.add_zero]
  simp only [cond_true]
  obtain ⟨H, hH⟩ : ∃ H, H = newB h (256 * c) [s] := ⟨_, rfl⟩
  have sH : Same c h H := by rw [hH]; simp (disch := omega)
  have hg : Holds H (256 * c) [s] := by rw [hH]; exact Holds.newB_same _ _ _
  rw [← hH]
  clear hH
  have l1 := ldN1_own hg
  have c1 := callF_of (refused_sp s n Gl H (c + 1 + 1) [] ((hs.same sH).mono (by omega)))
  obtain ⟨E, hE⟩ : ∃ E, refE Gl n = E := ⟨_, rfl⟩
  have hE0 : E = 0 → n ≤ 60 ∧ okAll Gl n = true := fun e => refE_zero (hE.trans e)
  rw [hE] at c1 ⊢
  by_cases h0 : E = 0
  case neg =>
    have fx := And.intro l1 c1
    refine Ans.go ?_
    clear fx
    exact .done ⟨rfl, rfl, (by show c ≤ c + 1 + 1 + 1 + 1; omega), sH, .inl ⟨h0, rfl⟩⟩
  obtain ⟨hn, hok⟩ := hE0 h0
  have hb0 : bldL [] [] = some [] := rfl
  obtain ⟨N, hN⟩ : ∃ N, N = newB (newB H (256 * (c + 1 + 1 + 1)) []) (256 * (c + 1 + 1 + 1) + 1) [.slice (some ⟨256 * (c + 1 + 1 + 1), 0, none⟩) 0 0] := ⟨_, rfl⟩
  have hst : stN (newB (newB H (256 * (c + 1 + 1 + 1)) []) (256 * (c + 1 + 1 + 1) + 1) [.slice none 0 0]) 1 (.pointer (some ⟨256 * (c + 1 + 1 + 1) + 1, 0, none⟩)) (.slice (some ⟨256 * (c + 1 + 1 + 1), 0, none⟩) 0 0) = some N := by
    rw [hN, st1_sl _ _ _ _ _ _ _ (by simp)]; rfl
  have fN : ∀ b, b < 256 * (c + 1 + 1 + 1) → N.f b = H.f b := fun b hb => by rw [hN, newB_f, if_neg (by omega), newB_f, if_neg (by omega)]
  have fN0 : N.f (256 * (c + 1 + 1 + 1)) = some (.cells false none []) := by rw [hN, newB_f, if_neg (by omega), newB_f, if_pos rfl]
  have fN1 : N.f (256 * (c + 1 + 1 + 1) + 1) = some (.cells false none [.slice (some ⟨256 * (c + 1 + 1 + 1), 0, none⟩) 0 0]) := by rw [hN, newB_f, if_pos rfl]
  clear hN
  have l2 := ldN1_own (hg.eqf (fN _ (by omega)))
  have cm := matches_call s N (c + 1 + 1 + 1 + 1 + 1) hs.flat
  have fx := And.intro l1 (And.intro c1 (And.intro hb0 (And.intro hst (And.intro l2 cm))))
  refine Ans.go ?_
  clear fx
  obtain ⟨M, hM⟩ : ∃ M, M = newB N (256 * (c + 1 + 1 + 1 + 1 + 1)) [s] := ⟨_, rfl⟩
  rw [← hM]
  have fM : ∀ b, b < 256 * (c + 1 + 1 + 1 + 1 + 1) → M.f b = N.f b := fun b hb => by rw [hM, newB_f, if_neg (by omega)]
  have gM : M.f (256 * (c + 1 + 1 + 1 + 1 + 1)) = some (.cells false none [s]) := by rw [hM, newB_f, if_pos rfl]
  clear hM
  have hI := eq_roundI s n Gl (256 * c) (256 * (c + 1 + 1 + 1 + 1 + 1)) (256 * (c + 1 + 1 + 1) + 1) (256 * (c + 1 + 1 + 1 + 1 + 1 + 1 + 1)) (c + 1) (c + 1 + 1 + 1 + 1 + 1 + 1 + 1 + 1) hok hn (by omega) (by omega) (by omega) (by omega) (by omega) (by omega) (by omega) (by omega) (by omega) (by omega)
    (fun hp => ⟨by have := hs.blk hp; omega, by have := hs.blk hp; omega⟩)
  have hEf : ∀ b, b < 256 * (c + 1 + 1 + 1 + 1 + 1 + 1 + 1) → (entryH M (c + 1 + 1 + 1 + 1 + 1 + 1 + 1) 83 [1, 5] #[16] f27_a27000 f27_c27000 [ptrTo (256 * c), ptrTo (256 * (c + 1 + 1 + 1) + 1)]).f b = M.f b := fun b hb => by
    rw [entryH_f, if_neg (by omega), if_neg (by omega)]
  have hI0 : EqI s n Gl (256 * c) (256 * (c + 1 + 1 + 1 + 1 + 1)) (256 * (c + 1 + 1 + 1) + 1) (256 * (c + 1 + 1 + 1 + 1 + 1 + 1 + 1)) (c + 1) (c + 1 + 1 + 1 + 1 + 1 + 1 + 1 + 1) [] (fun b => b = 256 * (c + 1 + 1 + 1) + 1 ∨ b = 256 * (c + 1 + 1 + 1))
      (entryH M (c + 1 + 1 + 1 + 1 + 1 + 1 + 1) 83 [1, 5] #[16] f27_a27000 f27_c27000 [ptrTo (256 * c), ptrTo (256 * (c + 1 + 1 + 1) + 1)]) (c + 1 + 1 + 1 + 1 + 1 + 1 + 1 + 1) := by
    refine ⟨Nat.le_refl _, hg.eqf (by rw [hEf _ (by omega), fM _ (by omega), fN _ (by omega)]), ⟨false, none, ?_⟩, ?_, by omega, .slice (some ⟨256 * (c + 1 + 1 + 1), 0, none⟩) 0 0, [], rfl, ?_, ⟨rfl, by simp, rfl, 256 * (c + 1 + 1 + 1), none, rfl, by omega, by omega, ?_, .inl rfl⟩, by rw [blkOf_sl]; omega, by rw [blkOf_sl]; omega, fun k m hk => by simp at hk⟩
    · show (entryH _ _ _ _ _ _ _ _ : FH).f _ = _
      rw [hEf _ (by omega), gM]
    · exact ((hs.same sH).mono (by omega : c ≤ c + 1)).keep (fun hp => by have := hs.blk hp; rw [hEf _ (by omega), fM _ (by omega), fN _ (by omega)])
    · rw [hEf _ (by omega), fM _ (by omega), fN1]
    · rw [hEf _ (by omega), fM _ (by omega), fN0]
  refine Ans.head (range_matches (by omega) (by omega) rfl hI (O := fun b => b = 256 * (c + 1 + 1 + 1) + 1 ∨ b = 256 * (c + 1 + 1 + 1)) (fun b hb => by omega) hI0) ?_
  rintro ⟨qe, qh, qc, qd⟩ ⟨qr, O', e1, e2, e3, e4, e5, e6⟩
  simp only [Prod.mk.injEq] at e1
  obtain ⟨rfl, -, rfl⟩ := e1
  simp only at e2 e6
  rcases e6 with ⟨rfl, hi⟩ | ⟨-, hj⟩
  case inr => exact hj.elim
  obtain ⟨vo, vals, o1, o2, o3, o4, o5, o6⟩ := hi.out
  have lv : ld1 (HeapC.del qr (256 * (c + 1 + 1 + 1 + 1 + 1 + 1 + 1))) (.pointer (some ⟨256 * (c + 1 + 1 + 1) + 1, 0, none⟩)) = some vo := by
    rw [ld1_holds' (cs := [vo]) ⟨false, none, by show (HeapC.del _ _ : FH).f _ = _; rw [del_f, if_neg (by omega)]; exact o2⟩]; rfl
  obtain ⟨h9, t1, t2⟩ := takeAll_ok (df := [256 * (c + 1 + 1 + 1 + 1 + 1 + 1 + 1) + 1]) (h := HeapC.del qr (256 * (c + 1 + 1 + 1 + 1 + 1 + 1 + 1))) (by simp) (fun d hd => by
    rw [List.mem_singleton.1 hd, del_f, if_neg (by omega)]; exact e3)
  have k9 : ∀ b, b ≠ 256 * (c + 1 + 1 + 1 + 1 + 1 + 1 + 1) → b ≠ 256 * (c + 1 + 1 + 1 + 1 + 1 + 1 + 1) + 1 → h9.f b = qr.f b := fun b h1 h2 => by
    rw [t2 b (by simpa using h2), del_f, if_neg h1]
  have fx := And.intro lv t1
  refine Ans.go ?_
  clear fx
  have bvo := o3.blk
  refine .done ⟨rfl, rfl, (by show c ≤ qc + 1; omega), fun b hb => ?_, .inr ⟨h0, vo, rfl, vals, ?_, fun k m hk => ?_⟩⟩
  · show h9.f b = h.f b
    rw [k9 b (by omega) (by omega), e5 b (by omega) (by omega), fM b (by omega), fN b (by omega), sH b hb]
  · refine AppG.mono (c := qc) (by show qc ≤ qc + 1; omega) (AppG.keep (h := qr) ?_ (k9 _ o5 ?_))
    · obtain ⟨z1, z2, z3, i, op, z4, z5, z6⟩ := o3
      exact ⟨z1, z2, z3, i, op, z4, by omega, z6⟩
    · obtain ⟨z1, z2, z3, i, op, z4, z5, z6, z7, z8⟩ := o3
      rw [z4, blkOf_sl]
      rintro rfl
      rw [e3] at z7; cases z7
  · obtain ⟨x, x1, ⟨b, rfl, y1, y2, y3, y4, y5⟩, x3, x4, x5⟩ := o6 k m hk
    rw [blkOf_sl] at x5
    refine ⟨_, x1, b, rfl, by omega, by show b < 256 * (qc + 1); omega, ?_, y4, y5⟩
    show h9.f b = _
    rw [k9 b x5 (by rintro rfl; rw [e3] at y3; cases y3), y3]
end Go.Proofs.Ytcnndelmnobigaa

namespace Go.Proofs.Ytcnndelmnobigaa
open Go Go.Ab Go.Proofs
set_option maxRecDepth 100000
set_option linter.unusedVariables false
set_option linter.unusedSimpArgs false
theorem cl_roundI (s : Value) (n : Nat) (Gl : List Int) (gb g2 vc vs vu ec es eu c0 cb l : Nat) (hok : okAll Gl n = true) (hn : n ≤ 60)
    (hgb : gb < 256 * c0) (hg2 : g2 < 256 * cb) (hl : l < 256 * cb) (hc0 : c0 ≤ cb) (hvc : vc < 256 * cb) (hvs : vs < 256 * cb) (hvu : vu < 256 * cb) (hec : ec < 256 * cb) (hes : es < 256 * cb) (heu : eu < 256 * cb)
    (hgl : gb ≠ l) (hn1 : gb ≠ vu ∧ gb ≠ eu ∧ g2 ≠ vu ∧ g2 ≠ eu ∧ vc ≠ vu ∧ vc ≠ eu ∧ ec ≠ vu ∧ ec ≠ eu ∧ vs ≠ eu ∧ es ≠ vu ∧ vu ≠ eu) (hn2 : l ≠ g2 ∧ l ≠ vc ∧ l ≠ vs ∧ l ≠ vu ∧ l ≠ ec ∧ l ≠ es ∧ l ≠ eu) (hls : 0 < n → blkOf s ≠ l ∧ blkOf s ≠ vu ∧ blkOf s ≠ eu) :
    RoundI s n Gl g2 l cb (entryL 92 [1, 5, 6] #[25] f44_a44000 f44_c44000 [ptrTo gb, ptrTo vc, ptrTo ec] (l + 1)) none [ptrTo gb, ptrTo vc, ptrTo ec] (ClI s n Gl gb g2 vc vs vu ec es eu c0 cb) (fun _ _ _ => False) where
  stab := fun D O h c h' c' hi hc hs => by
    have := hi.lc
    obtain ⟨x1, x2, x3, x4, x5, x6, x7⟩ := hn2
    exact ⟨by omega, hi.g.eqf (hs _ (by omega) hgl), hi.gg.eqf (hs _ (by omega) (Ne.symm x1)), hi.sl.keep (fun hp => hs _ (by have := hi.sl.blk hp; omega) (hls hp).1), hi.pv.eqf (hs _ (by omega) (Ne.symm x2)), hi.pe.eqf (hs _ (by omega) (Ne.symm x5)),
      hi.uv.keep (hs _ (by omega) (Ne.symm x3)) (hs _ (by omega) (Ne.symm x4)), hi.ue.keep (hs _ (by omega) (Ne.symm x6)) (hs _ (by omega) (Ne.symm x7)), hi.own⟩
  jstab := fun O h c h' c' hj hc hs => hj
  own := fun D O h c hi b hb => by
    have := hi.lc
    rw [hi.own] at hb
    rcases hb with rfl | rfl <;> omega
  ownJ := fun O h c hj b hb => hj.elim
  read := fun D O h c hi => ⟨hi.gg, hi.sl.mono (by have := hi.lc; omega)⟩
  step := fun D O h c t f i ht hf hi hif hsk hpre hc hI hlp => by
    obtain ⟨r, hr, q1, O', q2, q3, q4⟩ := cl_round s n Gl gb g2 vc vs vu ec es eu c0 cb l _ rfl rfl hok hn hgb hg2 hl hc0 hvc hvs hvu hec hes heu hgl hn1 hn2 hls ht hf hi hif hsk hI hlp
    exact ⟨r, f44_G44000 hr, q1, O', q2, q3, .inl q4⟩
set_option maxHeartbeats 1000000 in
theorem classes_sp (s : Value) (n : Nat) (Gl : List Int) (h : FH) (c : Nat) (df : List Nat) (hs : SlI h c s 20 n Gl) (hok : okAll Gl n = true) (hn : n ≤ 60) :
    Ans (G (.fn 44) [.agg #[s]] h c df) fun r => r.e = .ret ∧ r.df = [] ∧ c ≤ r.c ∧ Same c h r.h ∧ ∃ vs vu es eu, r.vs = [.tuple #[ptrTo vs, ptrTo es]] ∧ vs < 256 * r.c ∧ vu < 256 * r.c ∧ es < 256 * r.c ∧ eu < 256 * r.c ∧
      Uf r.h vs vu (4 * n) (vCl n (allM Gl n)) ∧ Uf r.h es eu (6 * n) (eCl Gl n (allM Gl n)) := by
  refine Ans.call' (fun r e => f44_go e) ?_
  unfold f44_S
  rw [flat1 hs.flat, cell1, Nat.add_zero]
  simp only [cond_true]
  obtain ⟨H, hH⟩ : ∃ H, H = newB h (256 * c) [s] := ⟨_, rfl⟩
  have sH : Same c h H := by rw [hH]; simp (disch := omega)
  have hg : Holds H (256 * c) [s] := by rw [hH]; exact Holds.newB_same _ _ _
  rw [← hH]
  clear hH
  have l1 : ld1 H (.pointer (some ⟨256 * c, 0, none⟩)) = some s := by rw [ld1_holds' hg]; rfl
  have ll := hs.len
  obtain ⟨⟨re, rv, H1, rc, rd⟩, hr, r1, r2, r3⟩ := newUnion_sp (4 * n) H (c + 1 + 1 + 1) [] (by omega)
  simp only at r1 r2 r3
  obtain ⟨rfl, rfl, -, rfl, rfl⟩ := Rt.mk.inj r1
  clear r1
  have cu1 := callF_of hr
  rw [show ((4 * n : Nat) : Int) = 4 * (n : Int) by omega] at cu1
  obtain ⟨B0, hB0⟩ : ∃ B0, 256 * (c + 1 + 1 + 1 + 1) + 1 = B0 := ⟨_, rfl⟩
  rw [hB0] at cu1 r3
  obtain ⟨vs, hvs⟩ : ∃ vs, 256 * (c + 1 + 1) + 4 = vs := ⟨_, rfl⟩
  obtain ⟨H2, hH2⟩ : ∃ H2, newB H1 vs [.slice (some ⟨B0, 0, none⟩) (4 * n) (4 * n)] = H2 := ⟨_, rfl⟩
  obtain ⟨⟨re, rv, H3, rc, rd⟩, hr', r1', r2', r3'⟩ := newUnion_sp (6 * n) H2 (c + 1 + 1 + 1 + 1 + 1 + 1 + 1) [] (by omega)
  simp only at r1' r2' r3'
  obtain ⟨rfl, rfl, -, rfl, rfl⟩ := Rt.mk.inj r1'
  clear r1'
  have cu2 := callF_of hr'
  rw [show ((6 * n : Nat) : Int) = 6 * (n : Int) by omega] at cu2
  obtain ⟨B1, hB1⟩ : ∃ B1, 256 * (c + 1 + 1 + 1 + 1 + 1 + 1 + 1 + 1) + 1 = B1 := ⟨_, rfl⟩
  rw [hB1] at cu2 r3'
  obtain ⟨es, hes⟩ : ∃ es, 256 * (c + 1 + 1) + 9 = es := ⟨_, rfl⟩
  obtain ⟨vc, hvc⟩ : ∃ vc, 256 * (c + 1 + 1) + 10 = vc := ⟨_, rfl⟩
  obtain ⟨ec, hec⟩ : ∃ ec, 256 * (c + 1 + 1) + 11 = ec := ⟨_, rfl⟩
  have b1 : bldV [.slice none 0 0] [(0, 1, .agg #[.slice (some ⟨B0, 0, none⟩) (4 * n) (4 * n)])] = some (.agg #[.slice (some ⟨B0, 0, none⟩) (4 * n) (4 * n)]) := rfl
  have b2 : bldV [.slice none 0 0] [(0, 1, .agg #[.slice (some ⟨B1, 0, none⟩) (6 * n) (6 * n)])] = some (.agg #[.slice (some ⟨B1, 0, none⟩) (6 * n) (6 * n)]) := rfl
  obtain ⟨N, hN⟩ : ∃ N, N = newB (newB (newB H3 es [.slice (some ⟨B1, 0, none⟩) (6 * n) (6 * n)]) vc [ptrTo vs]) ec [ptrTo es] := ⟨_, rfl⟩
  have st1 : stN (newB (newB (newB H3 es [.slice (some ⟨B1, 0, none⟩) (6 * n) (6 * n)]) vc [.pointer none]) ec [.pointer none]) 1 (.pointer (some ⟨vc, 0, none⟩)) (.pointer (some ⟨vs, 0, none⟩)) = some (newB (newB (newB H3 es [.slice (some ⟨B1, 0, none⟩) (6 * n) (6 * n)]) vc [ptrTo vs]) ec [.pointer none]) := by
    rw [st1_get (cs := [.pointer none]) (op := none) (by rw [get_newB_ne _ _ _ _ (by omega), get_newB_same]) (by simp) rfl rfl]
    congr 1
    apply FH.ext; intro j
    simp only [set_f, newB_f]
    have hve : vc ≠ ec := by omega
    have hev : ec ≠ vc := by omega
    by_cases e1 : j = vc <;> by_cases e2 : j = ec <;> (first | (exfalso; omega) | skip) <;> simp [e1, e2, ptrTo, hve, hev]
  have st2 : stN (newB (newB (newB H3 es [.slice (some ⟨B1, 0, none⟩) (6 * n) (6 * n)]) vc [ptrTo vs]) ec [.pointer none]) 1 (.pointer (some ⟨ec, 0, none⟩)) (.pointer (some ⟨es, 0, none⟩)) = some N := by
    rw [st1_get (cs := [.pointer none]) (op := none) (by rw [get_newB_same]) (by simp) rfl rfl, hN]
    congr 1
    apply FH.ext; intro j
    simp only [set_f, newB_f]
    have hve : vc ≠ ec := by omega
    have hev : ec ≠ vc := by omega
    by_cases e1 : j = vc <;> by_cases e2 : j = ec <;> (first | (exfalso; omega) | skip) <;> simp [e1, e2, ptrTo, hve, hev]
  have fN : ∀ b, b ≠ es → b ≠ vc → b ≠ ec → N.f b = H3.f b := fun b h1 h2 h3 => by rw [hN, newB_f, if_neg h3, newB_f, if_neg h2, newB_f, if_neg h1]
  have fNe : N.f es = some (.cells false none [.slice (some ⟨B1, 0, none⟩) (6 * n) (6 * n)]) := by rw [hN, newB_f, if_neg (by omega), newB_f, if_neg (by omega), newB_f, if_pos rfl]
  have fNvc : N.f vc = some (.cells false none [ptrTo vs]) := by rw [hN, newB_f, if_neg (by omega), newB_f, if_pos rfl]
  have fNec : N.f ec = some (.cells false none [ptrTo es]) := by rw [hN, newB_f, if_pos rfl]
  clear hN
  have fH2 : ∀ b, b ≠ vs → H2.f b = H1.f b := fun b hb => by rw [← hH2, newB_f, if_neg hb]
  have fH2v : H2.f vs = some (.cells false none [.slice (some ⟨B0, 0, none⟩) (4 * n) (4 * n)]) := by rw [← hH2, newB_f, if_pos rfl]
  have low : ∀ b, b < 256 * (c + 1) → N.f b = H.f b := fun b hb => by rw [fN b (by omega) (by omega) (by omega), r2' b (by omega), fH2 b (by omega), r2 b (by omega)]
  have fNvs : N.f vs = some (.cells false none [.slice (some ⟨B0, 0, none⟩) (4 * n) (4 * n)]) := by rw [fN vs (by omega) (by omega) (by omega), r2' vs (by omega), fH2v]
  have fNvu : N.f B0 = some (.cells false none (ints (startL (4 * n)))) := by rw [fN B0 (by omega) (by omega) (by omega), r2' B0 (by omega), fH2 B0 (by omega), r3]
  have fNeu : N.f B1 = some (.cells false none (ints (startL (6 * n)))) := by rw [fN B1 (by omega) (by omega) (by omega), r3']
  have lN := ldN1_own (hg.eqf (low _ (by omega)))
  have cm := matches_call s N (c + 1 + 1 + 1 + 1 + 1 + 1 + 1 + 1 + 1 + 1 + 1 + 1) hs.flat
  have fl1 : ((Value.agg #[.slice (some ⟨B0, 0, none⟩) (4 * n) (4 * n)]).cells.toList.all isFlat) = true := rfl
  have fl2 : ((Value.agg #[.slice (some ⟨B1, 0, none⟩) (6 * n) (6 * n)]).cells.toList.all isFlat) = true := rfl
  rw [hvs, hes, hvc, hec]
  have fx := And.intro cell1 (And.intro l1 (And.intro ll (And.intro cu1 (And.intro b1 (And.intro fl1 (And.intro hH2 (And.intro cu2 (And.intro b2 fl2))))))))
  refine Ans.go ?_
  clear fx
  rw [show (Value.agg #[.slice (some ⟨B1, 0, none⟩) (6 * n) (6 * n)]).cells.toList = [.slice (some ⟨B1, 0, none⟩) (6 * n) (6 * n)] from rfl]
  refine Ans.step st1 (Ans.step st2 ?_)
  have fx := And.intro lN cm
  refine Ans.go ?_
  clear fx
  obtain ⟨g2, hg2⟩ : ∃ g2, 256 * (c + 1 + 1 + 1 + 1 + 1 + 1 + 1 + 1 + 1 + 1 + 1 + 1) = g2 := ⟨_, rfl⟩
  obtain ⟨l, hl⟩ : ∃ l, 256 * (c + 1 + 1 + 1 + 1 + 1 + 1 + 1 + 1 + 1 + 1 + 1 + 1 + 1 + 1) = l := ⟨_, rfl⟩
  rw [hg2]
  obtain ⟨M, hM⟩ : ∃ M, M = newB N g2 [s] := ⟨_, rfl⟩
  rw [← hM]
  have fM : ∀ b, b ≠ g2 → M.f b = N.f b := fun b hb => by rw [hM, newB_f, if_neg hb]
  have gM : M.f g2 = some (.cells false none [s]) := by rw [hM, newB_f, if_pos rfl]
  clear hM
  have hI := cl_roundI s n Gl (256 * c) g2 vc vs B0 ec es B1 (c + 1) (c + 1 + 1 + 1 + 1 + 1 + 1 + 1 + 1 + 1 + 1 + 1 + 1 + 1 + 1 + 1) l hok hn (by omega) (by omega) (by omega) (by omega) (by omega) (by omega) (by omega) (by omega) (by omega) (by omega) (by omega) ⟨by omega, by omega, by omega, by omega, by omega, by omega, by omega, by omega, by omega, by omega, by omega⟩ ⟨by omega, by omega, by omega, by omega, by omega, by omega, by omega⟩
    (fun hp => ⟨by have := hs.blk hp; omega, by have := hs.blk hp; omega, by have := hs.blk hp; omega⟩)
  have hEf : ∀ b, b < l → (entryH M (c + 1 + 1 + 1 + 1 + 1 + 1 + 1 + 1 + 1 + 1 + 1 + 1 + 1 + 1) 92 [1, 5, 6] #[25] f44_a44000 f44_c44000 [ptrTo (256 * c), ptrTo vc, ptrTo ec]).f b = M.f b := fun b hb => by
    rw [entryH_f, if_neg (by omega), if_neg (by omega)]
  have hI0 : ClI s n Gl (256 * c) g2 vc vs B0 ec es B1 (c + 1) (c + 1 + 1 + 1 + 1 + 1 + 1 + 1 + 1 + 1 + 1 + 1 + 1 + 1 + 1 + 1) [] (fun b => b = B0 ∨ b = B1) (entryH M (c + 1 + 1 + 1 + 1 + 1 + 1 + 1 + 1 + 1 + 1 + 1 + 1 + 1 + 1) 92 [1, 5, 6] #[25] f44_a44000 f44_c44000 [ptrTo (256 * c), ptrTo vc, ptrTo ec]) (c + 1 + 1 + 1 + 1 + 1 + 1 + 1 + 1 + 1 + 1 + 1 + 1 + 1 + 1 + 1) := by
    refine ⟨Nat.le_refl _, hg.eqf (by rw [hEf _ (by omega), fM _ (by omega), low _ (by omega)]), ⟨false, none, ?_⟩, ?_, ⟨false, none, ?_⟩, ⟨false, none, ?_⟩, ⟨?_, ?_, by omega, startL_down _, by omega⟩, ⟨?_, ?_, by omega, startL_down _, by omega⟩, rfl⟩
    · show (entryH _ _ _ _ _ _ _ _ : FH).f _ = _
      rw [hEf _ (by omega), gM]
    · exact ((hs.same sH).mono (by omega : c ≤ c + 1)).keep (fun hp => by have := hs.blk hp; rw [hEf _ (by omega), fM _ (by omega), low _ (by omega)])
    · show (entryH _ _ _ _ _ _ _ _ : FH).f _ = _
      rw [hEf _ (by omega), fM _ (by omega), fNvc]
    · show (entryH _ _ _ _ _ _ _ _ : FH).f _ = _
      rw [hEf _ (by omega), fM _ (by omega), fNec]
    · rw [hEf _ (by omega), fM _ (by omega), fNvs]
    · rw [hEf _ (by omega), fM _ (by omega), fNvu]; rfl
    · rw [hEf _ (by omega), fM _ (by omega), fNe]
    · rw [hEf _ (by omega), fM _ (by omega), fNeu]; rfl
  rw [← hl] at hI
  refine Ans.head (range_matches (by omega) (by omega) rfl hI (O := fun b => b = B0 ∨ b = B1) (fun b hb => by omega) hI0) ?_
  rw [hl]
  rintro ⟨qe, qh, qc, qd⟩ ⟨qr, O', e1, e2, e3, e4, e5, e6⟩
  simp only [Prod.mk.injEq] at e1
  obtain ⟨rfl, -, rfl⟩ := e1
  simp only at e2 e6
  rcases e6 with ⟨rfl, hi⟩ | ⟨-, hj⟩
  case inr => exact hj.elim
  have fd : ∀ b, b ≠ l → (HeapC.del qr l).f b = qr.f b := fun b hb => by rw [del_f, if_neg hb]
  have lv : ld1 (HeapC.del qr l) (.pointer (some ⟨vc, 0, none⟩)) = some (.pointer (some ⟨vs, 0, none⟩)) := by rw [ld1_holds' (hi.pv.eqf (fd vc (by omega)))]; rfl
  have le : ld1 (HeapC.del qr l) (.pointer (some ⟨ec, 0, none⟩)) = some (.pointer (some ⟨es, 0, none⟩)) := by rw [ld1_holds' (hi.pe.eqf (fd ec (by omega)))]; rfl
  obtain ⟨h9, t1, t2⟩ := takeAll_ok (df := [l + 1]) (h := HeapC.del qr l) (by simp) (fun d hd => by
    rw [List.mem_singleton.1 hd, del_f, if_neg (by omega)]; exact e3)
  have k9 : ∀ b, b ≠ l → b ≠ l + 1 → h9.f b = qr.f b := fun b h1 h2 => by
    rw [t2 b (by simpa using h2), fd b h1]
  have fx := And.intro lv (And.intro le t1)
  refine Ans.go ?_
  clear fx
  refine .done ⟨rfl, rfl, (by show c ≤ qc + 1; omega), fun b hb => ?_, vs, B0, es, B1, rfl, ?_, ?_, ?_, ?_, ?_, ?_⟩
  · show h9.f b = h.f b
    rw [k9 b (by omega) (by omega), e5 b (by omega) (by omega), fM b (by omega), low b (by omega), sH b hb]
  · show vs < 256 * (qc + 1); omega
  · show B0 < 256 * (qc + 1); omega
  · show es < 256 * (qc + 1); omega
  · show B1 < 256 * (qc + 1); omega
  · exact hi.uv.keep (k9 _ (by omega) (by omega)) (k9 _ (by omega) (by omega))
  · exact hi.ue.keep (k9 _ (by omega) (by omega)) (k9 _ (by omega) (by omega))
end Go.Proofs.Ytcnndelmnobigaa

namespace Go.Proofs.Ytcnndelmnobigaa
open Go Go.Ab Go.Proofs
set_option maxRecDepth 100000
set_option linter.unusedVariables false
set_option linter.unusedSimpArgs false
def wK (V : List Int) (t : Int) (T : Int) : Nat → Nat → Int → Int
  | 0, _, a => a
  | r + 1, k, a => wK V t T r (k + 1) (if (k : Int) = T then a else a + gi V (7 * t + 4 + k))
def edA (e : Int) : Int := ((edL.drop (e.toNat * 2)).take 2).getD 0 0
def edB (e : Int) : Int := ((edL.drop (e.toNat * 2)).take 2).getD 1 0
theorem ed_ends {e : Int} (h1 : 0 ≤ e) (h2 : e < 6) : 0 ≤ edA e ∧ edA e < 4 ∧ 0 ≤ edB e ∧ edB e < 4 ∧ edA e ≠ edB e := by
  have : ((List.range 6).all fun e => decide (0 ≤ edA (e : Nat) ∧ edA (e : Nat) < 4 ∧ 0 ≤ edB (e : Nat) ∧ edB (e : Nat) < 4 ∧ edA (e : Nat) ≠ edB (e : Nat))) = true := by decide
  rw [List.all_eq_true] at this
  have h5 := this e.toNat (by simp; omega)
  have e1 : ((e.toNat : Nat) : Int) = e := by omega
  rw [e1] at h5
  exact of_decide_eq_true h5
def weightL (V : List Int) (t e : Int) : Int := wK V t (ty (edA e) (edB e)) 3 0 (gi V (7 * t + edA e) + gi V (7 * t + edB e))
theorem weight_loop (s : Value) (n : Nat) (V : List Int) (t : Nat) (A B : Int) (h : FH) (c : Nat) (df : List Nat) (hs : SlI h c s 1 n V) (htn : 7 * t + 7 ≤ n) (hn : n ≤ 1000000) (hA : 0 ≤ A ∧ A < 4) (hB : 0 ≤ B ∧ B < 4) (hne : A ≠ B) (hV : ∀ j, 0 ≤ gi V j ∧ gi V j ≤ 1000000) :
    ∀ (r k : Nat) (a : Int), k + r = 3 → 0 ≤ a → a ≤ (2 + (k : Int)) * 1000000 →
    Ans (G (f74_k74000 none) [s, .int .i64 t, .int .i64 A, .int .i64 B, .int .i64 a, .int .i64 k] h c df) fun q => q = { e := .exit 0, vs := [s, .int .i64 t, .int .i64 A, .int .i64 B, .int .i64 (wK V t (ty A B) r k a), .int .i64 3], h := h, c := c, df := df } := by
  intro r
  have o1 := hs.okV
  have x1 := ixV_avs tyT 4 4 .i64 A hA.1 (by omega) rfl
  have hl4 : ((tyT.drop (A.toNat * 4)).take 4).length = 4 := by simp [tyT]; omega
  have x2 := ixV_av ((tyT.drop (A.toNat * 4)).take 4) 4 .i64 B hB.1 (by omega) hl4
  rw [show ((tyT.drop (A.toNat * 4)).take 4).getD B.toNat 0 = ty A B from rfl] at x2
  obtain ⟨R, hR⟩ : ∃ R, (tyT.drop (A.toNat * 4)).take 4 = R := ⟨_, rfl⟩
  rw [hR] at x1 x2
  obtain ⟨T, hT⟩ : ∃ T, ty A B = T := ⟨_, rfl⟩
  rw [hT] at x2 ⊢
  induction r with
  | zero =>
    intro k a hk h1 h2
    obtain rfl : k = 3 := by omega
    refine Ans.loop (fun q r => f74_N74000) (fun q => f74_Z74000) ?_
    unfold f74_L74000
    have fx := True.intro
    refine Ans.go ?_
    clear fx
    (have fx := o1; refine Ans.ex0 ?_; clear fx)
    rfl
  | succ r ih =>
    intro k a hk h1 h2
    have l1 := hs.rdi (7 * (t : Int) + 4 + k) (by omega) (by omega)
    have v1 := hV (7 * (t : Int) + 4 + k)
    rw [wK]
    obtain ⟨X, hX⟩ : ∃ X, gi V (7 * (t : Int) + 4 + k) = X := ⟨_, rfl⟩
    rw [hX] at l1 v1 ⊢
    have hk3 : (k : Int) < 3 := by omega
    refine Ans.loop (fun q r => f74_N74000) (fun q => f74_Z74000) ?_
    unfold f74_L74000
    by_cases e : (k : Int) = T
    · rw [if_pos e]
      have fx := And.intro callF_types (And.intro x1 x2)
      refine Ans.go ?_
      clear fx
      (have fx := o1; refine Ans.nx0 ?_; clear fx)
      exact ih (k + 1) a (by omega) h1 (by omega)
    · rw [if_neg e]
      have fx := And.intro callF_types (And.intro x1 (And.intro x2 (And.intro hs.ixs1 l1)))
      refine Ans.go ?_
      clear fx
      (have fx := o1; refine Ans.nx0 ?_; clear fx)
      exact ih (k + 1) _ (by omega) (by omega) (by omega)
theorem wK_bound {V : List Int} {t T : Int} (hV : ∀ j, 0 ≤ gi V j ∧ gi V j ≤ 1000000) : ∀ {r k : Nat} {a : Int}, 0 ≤ a → 0 ≤ wK V t T r k a ∧ wK V t T r k a ≤ a + r * 1000000
  | 0, k, a, h => by rw [wK]; omega
  | r + 1, k, a, h => by
    rw [wK]
    have := hV (7 * t + 4 + k)
    have := wK_bound hV (t := t) (T := T) (r := r) (k := k + 1) (a := if (k : Int) = T then a else a + gi V (7 * t + 4 + k)) (by split <;> omega)
    split at this <;> rename_i e
    · rw [if_pos e]; omega
    · rw [if_neg e]; omega
theorem weightL_bound {V : List Int} {t e : Int} (hV : ∀ j, 0 ≤ gi V j ∧ gi V j ≤ 1000000) : 0 ≤ weightL V t e ∧ weightL V t e ≤ 5000000 := by
  unfold weightL
  have h1 := hV (7 * t + edA e)
  have h2 := hV (7 * t + edB e)
  have := wK_bound hV (t := t) (T := ty (edA e) (edB e)) (r := 3) (k := 0) (a := gi V (7 * t + edA e) + gi V (7 * t + edB e)) (by omega)
  omega
theorem weight_sp (s : Value) (n : Nat) (V : List Int) (t : Nat) (e : Int) (h : FH) (c : Nat) (df : List Nat) (hs : SlI h c s 1 n V) (htn : 7 * t + 7 ≤ n) (hn : n ≤ 1000000) (he : 0 ≤ e) (he6 : e < 6) (hV : ∀ j, 0 ≤ gi V j ∧ gi V j ≤ 1000000) :
    G (.fn 74) [s, .int .i64 t, .int .i64 e] h c df = some { e := .ret, vs := [.int .i64 (weightL V t e)], h := h, c := c, df := [] } := by
  refine pure_of' (fun r e => f74_go e) (by simp) ?_
  unfold f74_S weightL
  obtain ⟨g1, g2, g3, g4, g5⟩ := ed_ends he he6
  have x1 := ixV_avs edL 6 2 .i64 e he (by omega) rfl
  have hl2 : ((edL.drop (e.toNat * 2)).take 2).length = 2 := by simp [edL]; omega
  have x2 := ixV_av ((edL.drop (e.toNat * 2)).take 2) 2 .i64 0 (by omega) (by omega) hl2
  have x3 := ixV_av ((edL.drop (e.toNat * 2)).take 2) 2 .i64 1 (by omega) (by omega) hl2
  rw [show ((edL.drop (e.toNat * 2)).take 2).getD (Int.toNat 0) 0 = edA e from rfl] at x2
  rw [show ((edL.drop (e.toNat * 2)).take 2).getD (Int.toNat 1) 0 = edB e from rfl] at x3
  obtain ⟨R, hR⟩ : ∃ R, (edL.drop (e.toNat * 2)).take 2 = R := ⟨_, rfl⟩
  rw [hR] at x1 x2 x3
  obtain ⟨A, hA⟩ : ∃ A, edA e = A := ⟨_, rfl⟩
  obtain ⟨B, hB⟩ : ∃ B, edB e = B := ⟨_, rfl⟩
  rw [hA] at x2 g1 g2 g5 ⊢
  rw [hB] at x3 g3 g4 g5 ⊢
  have l1 := hs.rdi (7 * (t : Int) + A) (by omega) (by omega)
  have l2 := hs.rdi (7 * (t : Int) + B) (by omega) (by omega)
  have v1 := hV (7 * (t : Int) + A)
  have v2 := hV (7 * (t : Int) + B)
  obtain ⟨X, hX⟩ : ∃ X, gi V (7 * (t : Int) + A) = X := ⟨_, rfl⟩
  obtain ⟨Y, hY⟩ : ∃ Y, gi V (7 * (t : Int) + B) = Y := ⟨_, rfl⟩
  rw [hX] at l1 v1 ⊢
  rw [hY] at l2 v2 ⊢
  have hr := fun c' (hc : c ≤ c') => Ans.eq (weight_loop s n V t A B h c' [] (hs.mono hc) htn hn ⟨g1, g2⟩ ⟨g3, g4⟩ g5 hV 3 0 (X + Y) (by omega) (by omega) (by omega))
  simp only [Int.ofNat_eq_natCast, Int.cast_ofNat_Int] at hr
  have fx := And.intro callF_edges (And.intro x1 (And.intro x2 (And.intro x3 (And.intro hs.ixs1 (And.intro l1 (And.intro l2 hr))))))
  refine Ans.go ?_
  clear fx
  (have fx := True.intro; exact Ans.pu)
end Go.Proofs.Ytcnndelmnobigaa

namespace Go.Proofs.Ytcnndelmnobigaa
open Go Go.Ab Go.Proofs
set_option maxRecDepth 100000
set_option linter.unusedVariables false
set_option linter.unusedSimpArgs false
def wgt (V : List Int) (x : Int) : Int := weightL V (x / 6) (x % 6)
theorem wgt_nat (V : List Int) (k : Nat) : wgt V k = weightL V (k / 6 : Nat) (k % 6 : Nat) := by
  unfold wgt
  congr 1
theorem weights_loop (v : Value) (nv : Nat) (V : List Int) (n c0 : Nat) (F : Value) (m : Nat) (L : List Int) (hn : n ≤ 60) (hnv : nv = 7 * n) (hV : ∀ j, 0 ≤ gi V j ∧ gi V j ≤ 1000000) (hL : ∀ x, x ∈ L → ∃ k : Nat, x = k ∧ k < 6 * n) (hm : m ≤ 1000) (df : List Nat) :
    ∀ (k i cc : Nat) (h : FH) (out : Value), i + k = m → c0 ≤ cc → SlI h c0 v 1 nv V → SlI h cc F 1 m L → (0 < m → blkOf F ≠ blkOf out) → AppG c0 h cc out i (ints ((L.take i).map (wgt V))) →
    Ans (G (f49_k49000 none) [v, out, F, .int .i64 m, .int .i64 i] h cc df) fun r => r.e = .exit 0 ∧ cc ≤ r.c ∧ r.df = df ∧ Same c0 h r.h ∧ AppG c0 r.h r.c (r.v 1) m (ints (L.map (wgt V))) := by
  intro k
  induction k with
  | zero =>
    intro i cc h out hi hc sv sf hne ha
    obtain rfl : i = m := by omega
    have e : L.take i = L := List.take_of_length_le (by have := sf.1; omega)
    rw [e] at ha
    refine Ans.loop' (fun q r => f49_N49000) (fun q => f49_Z49000) ?_
    unfold f49_L49000
    have fx := True.intro
    refine Ans.go ?_
    clear fx
    exact Ans.exitN ⟨rfl, (by show cc ≤ cc + 1; omega), rfl, fun _ _ => rfl, ha.mono (by show cc ≤ cc + 1; omega)⟩
  | succ k ih =>
    intro i cc h out hi hc sv sf hne ha
    have hl := sf.1
    have l1 := sf.rdi i (by omega) (by omega)
    simp only [Int.toNat_natCast] at l1
    rw [gi_nat] at l1
    have hLi : L.getD i 0 = L[i]'(by omega) := by simp [List.getD_eq_getElem?_getD, List.getElem?_eq_getElem (by omega : i < L.length)]
    obtain ⟨x, hx, hx6⟩ := hL (L[i]'(by omega)) (List.getElem_mem _)
    have ht : (L.take (i + 1)).map (wgt V) = (L.take i).map (wgt V) ++ [weightL V (x / 6 : Nat) (x % 6 : Nat)] := by
      rw [List.take_succ_eq_append_getElem (by omega), List.map_append, hx, ← wgt_nat]; rfl
    rw [hLi, hx] at l1
    have q1 : aBinOp P .quo 3 (.int .i64 (x : Int)) (.int .i64 6) = some (.int .i64 (x / 6 : Nat)) := by
      rw [aBinOp_quo _ _ _ (by omega) (by rw [Int.tdiv_eq_ediv_of_nonneg (by omega)]; omega) (by rw [Int.tdiv_eq_ediv_of_nonneg (by omega)]; omega), Int.tdiv_eq_ediv_of_nonneg (by omega)]; rfl
    have q2 : aBinOp P .rem 3 (.int .i64 (x : Int)) (.int .i64 6) = some (.int .i64 (x % 6 : Nat)) := by
      rw [aBinOp_rem _ _ _ (by omega), Int.tmod_eq_emod_of_nonneg (by omega)]; rfl
    have cw := fun c' (hc' : c0 ≤ c') => callF_of (weight_sp v nv V (x / 6) (x % 6 : Nat) h c' [] (sv.mono hc') (by omega) (by omega) (by omega) (by omega) hV)
    obtain ⟨T, hT⟩ : ∃ T, x / 6 = T := ⟨_, rfl⟩
    obtain ⟨E, hE⟩ : ∃ E, x % 6 = E := ⟨_, rfl⟩
    rw [hT] at q1 cw ht
    rw [hE] at q2 cw ht
    obtain ⟨W, hW⟩ : ∃ W, weightL V (T : Int) E = W := ⟨_, rfl⟩
    rw [hW] at cw ht
    have hb : bldL [.int .i64 0] [(0, 1, .int .i64 W)] = some [.int .i64 W] := rfl
    obtain ⟨h', p1, p2, p3⟩ := (ha.mono (c' := cc + 1 + 1) (by omega)).app (c' := cc + 1 + 1 + 1) (.int .i64 W) rfl 8 (256 * (cc + 1 + 1) + 7) (256 * (cc + 1 + 1) + 8) (by omega) (by omega) (by omega) (by omega) (by omega) (by omega)
    have bo := ha.blk
    refine Ans.loop' (fun q r => f49_N49000) (fun q => f49_Z49000) ?_
    unfold f49_L49000
    have fx := And.intro sf.ixs1 (And.intro l1 (And.intro q1 (And.intro q2 (And.intro cw (And.intro hb p1)))))
    refine Ans.go ?_
    clear fx
    refine Ans.nextN ?_
    have s0 : Same c0 h h' := fun b hb => p3 b (by omega) (by omega)
    refine (ih (i + 1) _ h' _ (by omega) (by omega) (sv.same s0) ?_ (fun hp => ?_) ?_).mono ?_
    · exact (sf.keep (fun hp => p3 _ (by have := sf.blk hp; omega) (hne hp))).mono (by omega)
    · rw [blkOf_sl]; have := sf.blk hp; omega
    · rw [ht]
      rw [ints, List.map_append]
      exact p2.mono (by omega)
    · rintro r ⟨q1, q2, q3, q4, q5⟩
      exact ⟨q1, by omega, q3, s0.trans q4, q5⟩
def edF (Gl : List Int) (n : Nat) : List Int := firstsL (eCl Gl n (allM Gl n)) (6 * n)
theorem weights_sp (s v : Value) (n nv : Nat) (Gl V : List Int) (h : FH) (c : Nat) (df : List Nat) (hs : SlI h c s 20 n Gl) (hv : SlI h c v 1 nv V) (hok : okAll Gl n = true) (hn : n ≤ 60) (hnv : nv = 7 * n) (hV : ∀ j, 0 ≤ gi V j ∧ gi V j ≤ 1000000) :
    Ans (G (.fn 49) [.agg #[s], v] h c df) fun r => ∃ w, r = { e := .ret, vs := [w], h := r.h, c := r.c, df := [] } ∧ c ≤ r.c ∧ Same c h r.h ∧ AppG c r.h r.c w (edF Gl n).length (ints ((edF Gl n).map (wgt V))) := by
  refine Ans.call' (fun r e => f49_go e) ?_
  unfold f49_S
  rw [flat1 hs.flat, cell1, Nat.add_zero]
  simp only [cond_true]
  obtain ⟨H, hH⟩ : ∃ H, H = newB h (256 * c) [s] := ⟨_, rfl⟩
  have sH : Same c h H := by rw [hH]; simp (disch := omega)
  have hg : Holds H (256 * c) [s] := by rw [hH]; exact Holds.newB_same _ _ _
  rw [← hH]
  clear hH
  have l1 := ldN1_own hg
  obtain ⟨⟨re, rv, H1, c1, rd⟩, hr, r1, r2, r3, r4, vs, vu, es, eu, rfl, b1, b2, b3, b4, u1, u2⟩ := classes_sp s n Gl H (c + 1 + 1) [] ((hs.same sH).mono (by omega)) hok hn
  simp only at r1 r2 r3 r4 b1 b2 b3 b4 u1 u2
  subst r1 r2
  have cc := callF_of hr
  have hb0 : bldL [] [] = some [] := rfl
  obtain ⟨H2, hH2⟩ : ∃ H2, newB H1 (256 * c1) [] = H2 := ⟨_, rfl⟩
  have s12 : Same c1 H1 H2 := by rw [← hH2]; intro b hb; rw [newB_f, if_neg (by omega)]
  have f2 : H2.f (256 * c1) = some (.cells false none []) := by rw [← hH2, newB_f, if_pos rfl]
  obtain ⟨⟨re, rv, H3, c3, rd⟩, hr', F, q1, q2, q3, q4⟩ := firsts_sp es eu (6 * n) _ H2 (c1 + 1 + 1) [] (u2.same s12 b3 b4) (by omega) (by omega)
  obtain ⟨rfl, rfl, -, -, rfl⟩ := Rt.mk.inj q1
  simp only at q2 q3 q4
  have cf : callF G 45 [.pointer (some ⟨es, 0, none⟩)] H2 (c1 + 1 + 1) = some (F, H3, c3) := callF_of hr'
  have hFl := firstsL_len (eCl Gl n (allM Gl n)) (6 * n)
  have hmem : ∀ x, x ∈ firstsL (eCl Gl n (allM Gl n)) (6 * n) → ∃ k : Nat, x = k ∧ k < 6 * n := fun x hx => by
    obtain ⟨k, h1, h2, _⟩ := mem_firstsL hx; exact ⟨k, h1, h2⟩
  have lf := q4.sl.len
  unfold edF
  obtain ⟨L, hL⟩ : ∃ L, firstsL (eCl Gl n (allM Gl n)) (6 * n) = L := ⟨_, rfl⟩
  rw [hL] at q4 lf hFl hmem ⊢
  have sv : Same c h H3 := sH.trans (((r4.mono (by omega : c ≤ c + 1 + 1)).trans (s12.mono (by omega))).trans (q3.mono (by omega)))
  have hne : 0 < L.length → blkOf F ≠ blkOf (.slice (some ⟨256 * c1, 0, none⟩) 0 0) := fun hp => by
    obtain ⟨z1, z2, ⟨rfl, z3⟩ | ⟨i, rfl, z3, z4, z5⟩⟩ := q4
    · omega
    · rw [blkOf_sl, blkOf_sl]; omega
  have f3 : H3.f (256 * c1) = some (.cells false none []) := by rw [q3 _ (by omega), f2]
  obtain ⟨⟨re, rv, H4, c4, rd⟩, hr2, g1, g2, g3, g4, g5⟩ := weights_loop v nv V n c1 F L.length L hn hnv hV hmem (by omega) [] L.length 0 c3 H3 (.slice (some ⟨256 * c1, 0, none⟩) 0 0) (by omega) (by omega) ((hv.same sv).mono (by omega)) q4.sl hne ⟨rfl, by omega, rfl, 256 * c1, none, rfl, by omega, by omega, f3, .inl rfl⟩
  simp only [Int.ofNat_eq_natCast, Int.cast_ofNat_Int] at hr2
  simp only at g1 g2 g3 g4 g5
  subst g1 g3
  have fx := And.intro l1 (And.intro cc (And.intro hb0 (And.intro hH2 (And.intro cf (And.intro lf hr2)))))
  refine Ans.go ?_
  clear fx
  have g6 : AppG c H4 (c4 + 1) (Rt.v { e := Ex.exit 0, vs := rv, h := H4, c := c4, df := [] } 1) L.length (ints (L.map (wgt V))) := by
    obtain ⟨z1, z2, z3, i, op, z4, z5, z6, z7, z8⟩ := g5
    exact ⟨z1, z2, z3, i, op, z4, by omega, by omega, z7, z8⟩
  exact .done ⟨_, rfl, (by show c ≤ c4 + 1; omega), sv.trans (g4.mono (by omega)), g6⟩
end Go.Proofs.Ytcnndelmnobigaa

namespace Go.Proofs.Ytcnndelmnobigaa
open Go Go.Ab Go.Proofs
set_option maxRecDepth 100000
set_option linter.unusedVariables false
set_option linter.unusedSimpArgs false
theorem withinI {V : List Int} (h : withinB V = true) (j : Int) : 0 ≤ gi V j ∧ gi V j ≤ 1000000 := by
  have := withinB_at h j.toNat
  unfold gi at this ⊢
  rwa [Int.toNat_natCast] at this
def sumL : List Int → Int
  | [] => 0
  | x :: l => x + sumL l
theorem sumL_bound {B : Int} (hB : 0 ≤ B) : ∀ {L : List Int}, (∀ x, x ∈ L → 0 ≤ x ∧ x ≤ B) → 0 ≤ sumL L ∧ sumL L ≤ L.length * B
  | [], _ => by simp [sumL]
  | x :: l, h => by
    have h1 := h x (by simp)
    have h2 := sumL_bound hB (L := l) fun y hy => h y (by simp [hy])
    rw [sumL, List.length_cons]
    have : ((l.length + 1 : Nat) : Int) * B = l.length * B + B := by rw [Int.natCast_add, Int.add_mul]; simp
    omega
theorem sumL_append : ∀ (A B : List Int), sumL (A ++ B) = sumL A + sumL B
  | [], B => by simp [sumL]
  | x :: A, B => by rw [List.cons_append, sumL, sumL, sumL_append A B]; omega
theorem total_loop (s : Value) (m : Nat) (L : List Int) (h : FH) (c : Nat) (hs : SlI h c s 1 m L) (hm : m ≤ 1000000) (hL : ∀ x, x ∈ L → 0 ≤ x ∧ x ≤ 5000000) (df : List Nat) : ∀ (k i : Nat), i + k = m →
    Ans (G (f48_k48000 none) [.int .i64 (sumL (L.take i)), s, .int .i64 m, .int .i64 i] h c df) fun r => r = { e := .exit 0, vs := [.int .i64 (sumL L), s, .int .i64 m, .int .i64 m], h := h, c := c, df := df } := by
  intro k
  have o1 := hs.okV
  have hl := hs.1
  induction k with
  | zero =>
    intro i hi
    obtain rfl : i = m := by omega
    rw [List.take_of_length_le (by omega)]
    refine Ans.loop (fun q r => f48_N48000) (fun q => f48_Z48000) ?_
    unfold f48_L48000
    have fx := True.intro
    refine Ans.go ?_
    clear fx
    (have fx := o1; refine Ans.ex0 ?_; clear fx)
    rfl
  | succ k ih =>
    intro i hi
    have l1 := hs.rdi i (by omega) (by omega)
    simp only [Int.toNat_natCast] at l1
    rw [gi_nat] at l1
    have hLi : L.getD i 0 = L[i]'(by omega) := by simp [List.getD_eq_getElem?_getD, List.getElem?_eq_getElem (by omega : i < L.length)]
    have e1 : sumL (L.take (i + 1)) = sumL (L.take i) + L.getD i 0 := by
      rw [List.take_succ_eq_append_getElem (by omega), sumL_append, hLi]
      simp [sumL]
    have b1 := sumL_bound (B := 5000000) (by omega) (L := L.take i) fun x hx => hL x (List.mem_of_mem_take hx)
    have b2 := hL (L[i]'(by omega)) (List.getElem_mem _)
    rw [← hLi] at b2
    have hlt : (L.take i).length = i := by rw [List.length_take]; omega
    rw [hlt] at b1
    obtain ⟨X, hX⟩ : ∃ X, L.getD i 0 = X := ⟨_, rfl⟩
    obtain ⟨Y, hY⟩ : ∃ Y, sumL (L.take i) = Y := ⟨_, rfl⟩
    rw [hX] at l1 e1 b2
    rw [hY] at e1 b1 ⊢
    refine Ans.loop (fun q r => f48_N48000) (fun q => f48_Z48000) ?_
    unfold f48_L48000
    have fx := And.intro hs.ixs1 l1
    refine Ans.go ?_
    clear fx
    (have fx := o1; refine Ans.nx0 ?_; clear fx)
    rw [← e1]
    exact ih (i + 1) (by omega)
theorem total_sp (s : Value) (m : Nat) (L : List Int) (h : FH) (c : Nat) (df : List Nat) (hs : SlI h c s 1 m L) (hm : m ≤ 1000000) (hL : ∀ x, x ∈ L → 0 ≤ x ∧ x ≤ 5000000) :
    G (.fn 48) [s] h c df = some { e := .ret, vs := [.int .i64 (sumL L)], h := h, c := c, df := [] } := by
  refine pure_of' (fun r e => f48_go e) (by simp) ?_
  unfold f48_S
  have hl := hs.len
  have hr := Ans.eq (total_loop s m L h (c + 1 + 1 + 1) (hs.mono (by omega)) hm hL [] m 0 (by omega))
  rw [List.take_zero] at hr
  simp only [Int.ofNat_eq_natCast, Int.cast_ofNat_Int, sumL] at hr
  have fx := And.intro hl hr
  refine Ans.go ?_
  clear fx
  (have fx := True.intro; exact Ans.pu)
def addL (A B : List Int) : List Int := (List.range A.length).map fun k : Nat => gi A k + gi B k
theorem addL_length (A B : List Int) : (addL A B).length = A.length := by simp [addL]
theorem add_loop (a b : Value) (m : Nat) (A B : List Int) (ob : Nat) (h0 : FH) (c c0 : Nat) (ha : SlI h0 c0 a 1 m A) (hb : SlI h0 c0 b 1 m B) (hob : ob < 256 * c) (hc0 : c0 ≤ c) (hlo : 256 * c0 ≤ ob) (hm : m ≤ 1000000) (hA : ∀ j, 0 ≤ gi A j ∧ gi A j ≤ 1000000) (hB : ∀ j, 0 ≤ gi B j ∧ gi B j ≤ 1000000) (df : List Nat) :
    ∀ (k i : Nat) (X : List Int), i + k = m → X.length = m → (∀ j, j < i → X.getD j 0 = gi A j + gi B j) →
    Ans (G (f67_k67000 none) [a, b, .slice (some ⟨ob, 0, none⟩) m m, .int .i64 m, .int .i64 i] (newB h0 ob (ints X)) c df) fun r => r = { e := .exit 0, vs := [a, b, .slice (some ⟨ob, 0, none⟩) m m, .int .i64 m, .int .i64 m], h := newB h0 ob (ints (addL A B)), c := c, df := df } := by
  intro k
  have o1 := (ha.mono hc0).okV
  have o2 := (hb.mono hc0).okV
  have hAl := ha.1
  induction k with
  | zero =>
    intro i X hi hX hf
    obtain rfl : i = m := by omega
    have e : X = addL A B := by
      refine List.ext_getElem (by rw [hX, addL_length]; omega) fun j h1 h2 => ?_
      have := hf j (by omega)
      rw [List.getD_eq_getElem?_getD, List.getElem?_eq_getElem h1] at this
      simp only [Option.getD_some] at this
      rw [this]; simp [addL]
    rw [e]
    refine Ans.loop (fun q r => f67_N67000) (fun q => f67_Z67000) ?_
    unfold f67_L67000
    have fx := True.intro
    refine Ans.go ?_
    clear fx
    (have fx := And.intro o1 (And.intro o2 hob); refine Ans.ex0 ?_; clear fx)
    rfl
  | succ k ih =>
    intro i X hi hX hf
    have s0 : Same c0 h0 (newB h0 ob (ints X)) := fun q hq => by rw [newB_f, if_neg (by omega)]
    have l1 := (ha.same s0).rdi i (by omega) (by omega)
    have l2 := (hb.same s0).rdi i (by omega) (by omega)
    simp only [Int.toNat_natCast] at l1 l2
    have vA := hA i
    have vB := hB i
    have hw : ∀ x : Int, stN (newB h0 ob (ints X)) 1 (.pointer (some ⟨ob, i, none⟩)) (.int .i64 x) = some (newB h0 ob (ints (X.set i x))) := fun x => by
      rw [st1_int _ _ _ _ _ _ (by simp; omega), ints_set]
    have hg : (X.set i (gi A i + gi B i)).length = m := by simp [hX]
    have hn : ∀ j, j < i + 1 → (X.set i (gi A i + gi B i)).getD j 0 = gi A j + gi B j := fun j hj => by
      rw [getD_set]
      by_cases e : i = j
      · subst e; rw [if_pos ⟨rfl, by omega⟩]
      · rw [if_neg (fun q => e q.1)]; exact hf j (by omega)
    obtain ⟨x, hx⟩ : ∃ x, gi A i = x := ⟨_, rfl⟩
    obtain ⟨y, hy⟩ : ∃ y, gi B i = y := ⟨_, rfl⟩
    rw [hx] at l1 vA hg hn
    rw [hy] at l2 vB hg hn
    refine Ans.loop (fun q r => f67_N67000) (fun q => f67_Z67000) ?_
    unfold f67_L67000
    have fx := And.intro ha.ixs1 (And.intro hb.ixs1 (And.intro l1 (And.intro l2 hw)))
    refine Ans.go ?_
    clear fx
    (have fx := And.intro o1 (And.intro o2 hob); refine Ans.nxB (B := newB h0 ob (ints (X.set i (x + y)))) ?_ ?_; exact Upto.both (OkVs.ints _ _) (Upto.refl _ _) hob; clear fx)
    exact ih (i + 1) _ (by omega) hg hn
theorem added_sp (a b : Value) (m : Nat) (A B : List Int) (h : FH) (c : Nat) (df : List Nat) (ha : SlI h c a 1 m A) (hb : SlI h c b 1 m B) (hm : m ≤ 1000000) (hA : ∀ j, 0 ≤ gi A j ∧ gi A j ≤ 1000000) (hB : ∀ j, 0 ≤ gi B j ∧ gi B j ≤ 1000000) :
    Ans (G (.fn 67) [a, b] h c df) fun r => r = { e := .ret, vs := [.slice (some ⟨256 * (c + 1) + 2, 0, none⟩) m m], h := newB h (256 * (c + 1) + 2) (ints (addL A B)), c := c + 1 + 1 + 1 + 1, df := [] } := by
  refine Ans.call' (fun r e => f67_go e) ?_
  unfold f67_S
  have l1 := ha.len
  have mk := mkS_int 1 8 .i64 .i64 m (by omega) (by omega)
  have hl := Ans.eq (add_loop a b m A B (256 * (c + 1) + 2) h (c + 1 + 1 + 1) c ha hb (by omega) (by omega) (by omega) hm hA hB [] m 0 (List.replicate m 0) (by omega) (by simp) (fun j hj => by omega))
  simp only [Int.ofNat_eq_natCast, Int.cast_ofNat_Int] at hl
  have fx := And.intro l1 (And.intro mk hl)
  refine Ans.go ?_
  clear fx
  exact .done rfl
theorem bldL_v {h : FH} {c : Nat} {v : Value} {sz n : Nat} {V : List Int} (hv : SlI h c v sz n V) : bldL [(.slice none 0 0)] [(0, 1, v)] = some [v] := by
  obtain ⟨_, _, a, cap, rfl, _⟩ := hv
  rfl
theorem weightsN_sp (s v : Value) (n nv : Nat) (Gl V : List Int) (h : FH) (c : Nat) (df : List Nat) (hs : SlI h c s 20 n Gl) (hv : SlI h c v 1 nv V) (hx : SlX h v 1 nv) (hnv : nv ≤ 1000000) :
    Ans (G (.fn 16) [.agg #[s], v] h c df) fun r => r.e = .ret ∧ r.df = [] ∧ c ≤ r.c ∧ Same c h r.h ∧
      ((chkE Gl n (admB Gl n V) ≠ 0 ∧ r.vs = [.tuple #[.slice none 0 0, .int .i64 (chkE Gl n (admB Gl n V))]]) ∨
       (chkE Gl n (admB Gl n V) = 0 ∧ ∃ w, r.vs = [.tuple #[w, .int .i64 0]] ∧ AppG c r.h r.c w (edF Gl n).length (ints ((edF Gl n).map (wgt V))))) := by
  refine Ans.call' (fun r e => f16_go e) ?_
  unfold f16_S
  rw [flat1 hs.flat, cell1, Nat.add_zero]
  simp only [cond_true]
  have hbl := bldL_v hv
  obtain ⟨H, hH⟩ : ∃ H, H = newB (newB h (256 * c) [s]) (256 * (c + 1) + 2) [v] := ⟨_, rfl⟩
  have sH : Same c h H := by rw [hH]; simp (disch := omega)
  have hg : Holds H (256 * c) [s] := by rw [hH]; exact (Holds.newB_same _ _ _).newB_ne (by omega)
  have hq : Holds H (256 * (c + 1) + 2) [v] := by rw [hH]; exact Holds.newB_same _ _ _
  have l0 : ldN (newB h (256 * c) [s]) 1 (.pointer (some ⟨256 * c, 0, none⟩)) = some (.agg #[s]) := ldN1_own (Holds.newB_same _ _ _)
  have l1 := ldN1_own hg
  have c1 := check1 s v n nv Gl V (256 * (c + 1) + 2) H (c + 1 + 1) ((hs.same sH).mono (by omega)) ((hv.same sH).mono (by omega)) (SlX.keep hv sH hx) hnv (by omega) hq
  have hH' := hH.symm
  obtain ⟨E, hE⟩ : ∃ E, chkE Gl n (admB Gl n V) = E := ⟨_, rfl⟩
  by_cases h0 : E = 0
  case neg =>
    rw [hE] at c1 ⊢
    have fx := And.intro l0 (And.intro hbl (And.intro hH' c1))
    refine Ans.go ?_
    clear fx
    exact .done ⟨rfl, rfl, (by show c ≤ c + 1 + 1 + 1 + 1; omega), sH, .inl ⟨h0, rfl⟩⟩
  have hr0 : refE Gl n = 0 ∧ admB Gl n V = true := by
    rw [h0] at hE
    unfold chkE at hE
    split at hE
    · rename_i h1
      split at hE
      · rename_i h2; exact ⟨h1, h2⟩
      · cases hE
    · rename_i h1; exact absurd hE h1
  obtain ⟨hn, hok⟩ := refE_zero hr0.1
  have ha := hr0.2
  unfold admB at ha
  simp only [Bool.and_eq_true, decide_eq_true_eq] at ha
  obtain ⟨⟨⟨a1, a2⟩, _⟩, _⟩ := ha
  rw [hE] at c1 ⊢
  obtain ⟨⟨re, rv, H2, c2, rd⟩, hr, w, q1, q2, q3, q4⟩ := weights_sp s v n nv Gl V H (c + 1 + 1 + 1 + 1) [] ((hs.same sH).mono (by omega)) ((hv.same sH).mono (by omega)) hok hn (by have := hv.1; omega) (withinI a2)
  obtain ⟨rfl, rfl, -, -, rfl⟩ := Rt.mk.inj q1
  simp only at q2 q3 q4
  have cw := callF_of hr
  subst h0
  have fx := And.intro l0 (And.intro hbl (And.intro hH' (And.intro c1 (And.intro l1 cw))))
  refine Ans.go ?_
  clear fx
  have g6 : AppG c H2 c2 w (edF Gl n).length (ints ((edF Gl n).map (wgt V))) := by
    obtain ⟨z1, z2, z3, i, op, z4, z5, z6, z7, z8⟩ := q4
    exact ⟨z1, z2, z3, i, op, z4, by omega, by omega, z7, z8⟩
  exact .done ⟨rfl, rfl, (by show c ≤ c2; omega), sH.trans (q3.mono (by omega)), .inr ⟨rfl, w, rfl, g6⟩⟩
end Go.Proofs.Ytcnndelmnobigaa
