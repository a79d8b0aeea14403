/- Parts of a proof: N1 AbMat N2 N3 N4 N5 N6 N7 AbGrow N8 N9 D1. Conditions: none. -/
import Derived.Test.YtcnndelmnobigaaM4
set_option linter.all false
namespace Go.Proofs.Ytcnndelmnobigaa
open Go Go.Ab Go.Proofs
set_option maxRecDepth 100000
set_option linter.unusedVariables false
set_option linter.unusedSimpArgs false

theorem flat1 {a : Value} (ha : isFlat a = true) : ((Value.agg #[a]).cells.toList.all isFlat) = true := by simp [Value.cells, ha]
theorem cell1 (a : Value) : (Value.agg #[a]).cells.toList = [a] := rfl
theorem callF_check (s : Value) (n : Nat) (Gl : List Int) (h : FH) (c : Nat) (hs : SlI h c s 20 n Gl) : callF G 70 [.agg #[s]] h c = some (.int .i64 (if n ≤ 1000 ∧ okAll Gl n = true then 0 else 7), h, c) := callF_of (check_sp s n Gl h c [] hs)

theorem types_sp (h : FH) (c : Nat) (df : List Nat) : G (.fn 60) [] h c df = some { e := .ret, vs := [av tyT], h := h, c := c, df := [] } := by
  refine pure_of' (fun r e => f60_go e) (by simp) ?_
  unfold f60_S
  have z1 : bldV [(.int .i64 0), (.int .i64 0), (.int .i64 0), (.int .i64 0), (.int .i64 0), (.int .i64 0), (.int .i64 0), (.int .i64 0), (.int .i64 0), (.int .i64 0), (.int .i64 0), (.int .i64 0), (.int .i64 0), (.int .i64 0), (.int .i64 0), (.int .i64 0)] [(0, 4, av [-1, 0, 1, 2]), (4, 4, av [0, -1, 2, 1]), (8, 4, av [1, 2, -1, 0]), (12, 4, av [2, 1, 0, -1])] = some (av tyT) := rfl
  have z2 : ∀ (H : FH) (b : Nat) (cs : List Value), cs.length = 16 → stN (newB H b cs) 16 (.pointer (some ⟨b, 0, none⟩)) (av tyT) = some (newB H b (ints tyT)) := fun H b cs hc => stN_all H b 16 cs tyT rfl hc
  have z3 : ∀ (H : FH) (b : Nat), ldN (newB H b (ints tyT)) 16 (.pointer (some ⟨b, 0, none⟩)) = some (av tyT) := fun H b => by rw [ldN_newB_same _ _ _ _ _ (by simp [tyT])]; rfl
  repeat' (first
   | ((with_reducible first | refine Ans.bz ?_ | refine Ans.r1 ?_ | refine Ans.pkT ?_ | refine Ans.pkF ?_); try dsimp only [v_zero, v_succ])
   | (with_reducible first | refine Ans.btL ?_ | refine Ans.bfL ?_ | refine Ans.gyT ?_ | refine Ans.gyF ?_ | refine Ans.gyG ?_ | refine Ans.bb ?_ | refine Ans.bc ?_ | refine Ans.ba ?_)
   | ((with_reducible first | refine Ans.lsT ?_ ?_ | refine Ans.leT ?_ ?_ | refine Ans.grT ?_ ?_ | refine Ans.geT ?_ ?_ | refine Ans.eqT ?_ ?_ | refine Ans.neT ?_ ?_); (focus omega))
   | ((with_reducible first | refine Ans.lsF ?_ ?_ | refine Ans.leF ?_ ?_ | refine Ans.grF ?_ ?_ | refine Ans.geF ?_ ?_ | refine Ans.eqF ?_ ?_ | refine Ans.neF ?_ ?_); (focus omega))
   | (with_reducible first | refine Ans.lsS (fun _ => ?_) (fun _ => ?_) | refine Ans.leS (fun _ => ?_) (fun _ => ?_) | refine Ans.grS (fun _ => ?_) (fun _ => ?_) | refine Ans.geS (fun _ => ?_) (fun _ => ?_) | refine Ans.eqS (fun _ => ?_) (fun _ => ?_) | refine Ans.neS (fun _ => ?_) (fun _ => ?_))
   | ((with_reducible first | refine Ans.addN ?_ ?_ | refine Ans.add ?_ ?_ | refine Ans.sub ?_ ?_ | refine Ans.mul ?_ ?_); (focus omega))
   | ((with_reducible first | refine Ans.ct ?_ ?_); (focus (simp (disch := (first | omega | with_reducible assumption | (simp <;> omega) | fail)) [bld4, z1, z2, z3]; done)))
   | ((with_reducible first | refine Ans.cf ?_ ?_); (focus (simp (disch := (first | omega | with_reducible assumption | (simp <;> omega) | fail)) [bld4, z1, z2, z3]; done)))
   | (refine Ans.step (by simp (disch := (first | omega | with_reducible assumption | (simp <;> omega) | fail)) [bld4, z1, z2, z3, -List.getD_eq_getElem?_getD] <;> rfl) ?_; try dsimp only [v_zero, v_succ])
   | fail)
  (refine Ans.pure ?_ ?_; (focus (first | rfl | (simp (disch := (first | omega | with_reducible assumption | (simp <;> omega) | fail)) []; done))); (focus (first | with_reducible assumption | (simp (disch := (first | omega | with_reducible assumption | (simp <;> omega) | fail)) []; done))))
theorem callF_types (h : FH) (c : Nat) : callF G 60 [] h c = some (av tyT, h, c) := callF_of (types_sp h c [])

theorem arcs_sp (s : Value) (n : Nat) (V : List Int) (t f i : Int) (h : FH) (c : Nat) (df : List Nat) (hs : SlI h c s 1 n V) (ht : 0 ≤ t) (htn : 7 * t + 7 ≤ n) (hn : n ≤ 1000000) (hf : 0 ≤ f) (hf4 : f < 4) (hi : 0 ≤ i) (hi4 : i < 4) (hne : i ≠ f)
    (hV : ∀ j : Nat, j < n → -1000000000000 ≤ gi V j ∧ gi V j ≤ 1000000000000) :
    G (.fn 50) [s, .int .i64 t, .int .i64 f, .int .i64 i] h c df = some { e := .ret, vs := [.int .i64 (arcV V t f i)], h := h, c := c, df := [] } := by
  refine pure_of' (fun r e => f50_go e) (by simp) ?_
  unfold f50_S arcV
  have hr := ty_range hi hi4 hf hf4 hne
  have k1 := hV (7 * t + i).toNat (by omega)
  have k2 := hV (7 * t + 4 + ty i f).toNat (by omega)
  have e1 : (((7 * t + i).toNat : Nat) : Int) = 7 * t + i := by omega
  have e2 : (((7 * t + 4 + ty i f).toNat : Nat) : Int) = 7 * t + 4 + ty i f := by omega
  rw [e1] at k1
  rw [e2] at k2
  have l1 := hs.rdi (7 * t + i) (by omega) (by omega)
  have l2 := hs.rdi (7 * t + 4 + ty i f) (by omega) (by omega)
  have x1 := ixV_avs tyT 4 4 .i64 i hi (by omega) rfl
  have hl4 : ((tyT.drop (i.toNat * 4)).take 4).length = 4 := by simp [tyT]; omega
  have x2 := ixV_av ((tyT.drop (i.toNat * 4)).take 4) 4 .i64 f hf (by omega) hl4
  rw [show ((tyT.drop (i.toNat * 4)).take 4).getD f.toNat 0 = ty i f from rfl] at x2
  obtain ⟨R, hR⟩ : ∃ R, (tyT.drop (i.toNat * 4)).take 4 = R := ⟨_, rfl⟩
  rw [hR] at x1 x2
  obtain ⟨T, hT⟩ : ∃ T, ty i f = T := ⟨_, rfl⟩
  rw [hT] at x2 l2 k2 hr ⊢
  obtain ⟨A, hA⟩ : ∃ A, gi V (7 * t + i) = A := ⟨_, rfl⟩
  obtain ⟨B, hB⟩ : ∃ B, gi V (7 * t + 4 + T) = B := ⟨_, rfl⟩
  rw [hA] at l1 k1 ⊢
  rw [hB] at l2 k2 ⊢
  repeat' (first
   | ((with_reducible first | refine Ans.bz ?_ | refine Ans.r1 ?_ | refine Ans.pkT ?_ | refine Ans.pkF ?_); try dsimp only [v_zero, v_succ])
   | (with_reducible first | refine Ans.btL ?_ | refine Ans.bfL ?_ | refine Ans.gyT ?_ | refine Ans.gyF ?_ | refine Ans.gyG ?_ | refine Ans.bb ?_ | refine Ans.bc ?_ | refine Ans.ba ?_)
   | ((with_reducible first | refine Ans.lsT ?_ ?_ | refine Ans.leT ?_ ?_ | refine Ans.grT ?_ ?_ | refine Ans.geT ?_ ?_ | refine Ans.eqT ?_ ?_ | refine Ans.neT ?_ ?_); (focus omega))
   | ((with_reducible first | refine Ans.lsF ?_ ?_ | refine Ans.leF ?_ ?_ | refine Ans.grF ?_ ?_ | refine Ans.geF ?_ ?_ | refine Ans.eqF ?_ ?_ | refine Ans.neF ?_ ?_); (focus omega))
   | (with_reducible first | refine Ans.lsS (fun _ => ?_) (fun _ => ?_) | refine Ans.leS (fun _ => ?_) (fun _ => ?_) | refine Ans.grS (fun _ => ?_) (fun _ => ?_) | refine Ans.geS (fun _ => ?_) (fun _ => ?_) | refine Ans.eqS (fun _ => ?_) (fun _ => ?_) | refine Ans.neS (fun _ => ?_) (fun _ => ?_))
   | ((with_reducible first | refine Ans.addN ?_ ?_ | refine Ans.add ?_ ?_ | refine Ans.sub ?_ ?_ | refine Ans.mul ?_ ?_); (focus omega))
   | ((with_reducible first | refine Ans.ct ?_ ?_); (focus (simp (disch := (first | omega | with_reducible assumption | (simp <;> omega) | fail)) [hs.ixs1, l1, l2, callF_types, x1, x2]; done)))
   | ((with_reducible first | refine Ans.cf ?_ ?_); (focus (simp (disch := (first | omega | with_reducible assumption | (simp <;> omega) | fail)) [hs.ixs1, l1, l2, callF_types, x1, x2]; done)))
   | (refine Ans.step (by simp (disch := (first | omega | with_reducible assumption | (simp <;> omega) | fail)) [hs.ixs1, l1, l2, callF_types, x1, x2, -List.getD_eq_getElem?_getD] <;> rfl) ?_; try dsimp only [v_zero, v_succ])
   | fail)
  (refine Ans.pure ?_ ?_; (focus (first | rfl | (simp (disch := (first | omega | with_reducible assumption | (simp <;> omega) | fail)) []; done))); (focus (first | with_reducible assumption | (simp (disch := (first | omega | with_reducible assumption | (simp <;> omega) | fail)) []; done))))

theorem nzC_drop {L : List Int} {i n : Nat} (hL : L.length = n) (hi : i < n) : nzC (L.drop i) = (if L.getD i 0 = 0 then 0 else 1) + nzC (L.drop (i + 1)) := by
  rw [List.drop_eq_getElem_cons (by omega), nzC]
  have : L.getD i 0 = L[i]'(by omega) := by simp [List.getD, List.getElem?_eq_getElem (by omega : i < L.length)]
  rw [this]

theorem areQ_loop (s : Value) (n : Nat) (L : List Int) (h : FH) (c : Nat) (hs : SlI h c s 1 n L) (hn : n ≤ 1000000) (df : List Nat) : ∀ (k i m : Nat), i + k = n → m ≤ i →
    Ans (G (f56_k56000 none) [.int .i64 m, s, .int .i64 n, .int .i64 i] h c df) fun r => r = { e := .exit 0, vs := [.int .i64 (m + nzC (L.drop i) : Nat), s, .int .i64 n, .int .i64 n], h := h, c := c, df := df } := by
  intro k
  have o1 := hs.okV
  induction k with
  | zero =>
    intro i m hi hm
    obtain rfl : i = n := by omega
    refine Ans.loop (fun q r => f56_N56000) (fun q => f56_Z56000) ?_
    unfold f56_L56000
    repeat' (first
     | ((with_reducible first | refine Ans.bz ?_ | refine Ans.r1 ?_ | refine Ans.pkT ?_ | refine Ans.pkF ?_); try dsimp only [v_zero, v_succ])
     | (with_reducible first | refine Ans.btL ?_ | refine Ans.bfL ?_ | refine Ans.gyT ?_ | refine Ans.gyF ?_ | refine Ans.gyG ?_ | refine Ans.bb ?_ | refine Ans.bc ?_ | refine Ans.ba ?_)
     | ((with_reducible first | refine Ans.lsT ?_ ?_ | refine Ans.leT ?_ ?_ | refine Ans.grT ?_ ?_ | refine Ans.geT ?_ ?_ | refine Ans.eqT ?_ ?_ | refine Ans.neT ?_ ?_); (focus omega))
     | ((with_reducible first | refine Ans.lsF ?_ ?_ | refine Ans.leF ?_ ?_ | refine Ans.grF ?_ ?_ | refine Ans.geF ?_ ?_ | refine Ans.eqF ?_ ?_ | refine Ans.neF ?_ ?_); (focus omega))
     | (with_reducible first | refine Ans.lsS (fun _ => ?_) (fun _ => ?_) | refine Ans.leS (fun _ => ?_) (fun _ => ?_) | refine Ans.grS (fun _ => ?_) (fun _ => ?_) | refine Ans.geS (fun _ => ?_) (fun _ => ?_) | refine Ans.eqS (fun _ => ?_) (fun _ => ?_) | refine Ans.neS (fun _ => ?_) (fun _ => ?_))
     | ((with_reducible first | refine Ans.addN ?_ ?_ | refine Ans.add ?_ ?_ | refine Ans.sub ?_ ?_ | refine Ans.mul ?_ ?_); (focus omega))
     | ((with_reducible first | refine Ans.ct ?_ ?_); (focus (simp (disch := (first | omega | with_reducible assumption | (simp <;> omega) | fail)) []; done)))
     | ((with_reducible first | refine Ans.cf ?_ ?_); (focus (simp (disch := (first | omega | with_reducible assumption | (simp <;> omega) | fail)) []; done)))
     | (refine Ans.step (by simp (disch := (first | omega | with_reducible assumption | (simp <;> omega) | fail)) [-List.getD_eq_getElem?_getD] <;> rfl) ?_; try dsimp only [v_zero, v_succ])
     | fail)
    (refine Ans.exit0 ?_ ?_ ?_; (focus (simp (disch := (first | omega | with_reducible assumption | (simp <;> omega) | fail)) [o1]; done)); (focus (simp (disch := (first | omega | with_reducible assumption | (simp <;> omega) | fail)) [o1]; done)))
    rw [List.drop_of_length_le (by have := hs.1; omega)]
    rfl
  | succ k ih =>
    intro i m hi hm
    have hl := hs.1
    have l1 := hs.rdi i (by omega) (by omega)
    simp only [Int.toNat_natCast] at l1
    rw [gi_nat] at l1
    have hd := nzC_drop (L := L) (i := i) (n := n) (by omega) (by omega)
    obtain ⟨X, hX⟩ : ∃ X, L.getD i 0 = X := ⟨_, rfl⟩
    rw [hX] at l1 hd
    refine Ans.loop (fun q r => f56_N56000) (fun q => f56_Z56000) ?_
    unfold f56_L56000
    repeat' (first
     | ((with_reducible first | refine Ans.bz ?_ | refine Ans.r1 ?_ | refine Ans.pkT ?_ | refine Ans.pkF ?_); try dsimp only [v_zero, v_succ])
     | (with_reducible first | refine Ans.btL ?_ | refine Ans.bfL ?_ | refine Ans.gyT ?_ | refine Ans.gyF ?_ | refine Ans.gyG ?_ | refine Ans.bb ?_ | refine Ans.bc ?_ | refine Ans.ba ?_)
     | ((with_reducible first | refine Ans.lsT ?_ ?_ | refine Ans.leT ?_ ?_ | refine Ans.grT ?_ ?_ | refine Ans.geT ?_ ?_ | refine Ans.eqT ?_ ?_ | refine Ans.neT ?_ ?_); (focus omega))
     | ((with_reducible first | refine Ans.lsF ?_ ?_ | refine Ans.leF ?_ ?_ | refine Ans.grF ?_ ?_ | refine Ans.geF ?_ ?_ | refine Ans.eqF ?_ ?_ | refine Ans.neF ?_ ?_); (focus omega))
     | (with_reducible first | refine Ans.lsS (fun _ => ?_) (fun _ => ?_) | refine Ans.leS (fun _ => ?_) (fun _ => ?_) | refine Ans.grS (fun _ => ?_) (fun _ => ?_) | refine Ans.geS (fun _ => ?_) (fun _ => ?_) | refine Ans.eqS (fun _ => ?_) (fun _ => ?_) | refine Ans.neS (fun _ => ?_) (fun _ => ?_))
     | ((with_reducible first | refine Ans.addN ?_ ?_ | refine Ans.add ?_ ?_ | refine Ans.sub ?_ ?_ | refine Ans.mul ?_ ?_); (focus omega))
     | ((with_reducible first | refine Ans.ct ?_ ?_); (focus (simp (disch := (first | omega | with_reducible assumption | (simp <;> omega) | fail)) [hs.ixs1, l1]; done)))
     | ((with_reducible first | refine Ans.cf ?_ ?_); (focus (simp (disch := (first | omega | with_reducible assumption | (simp <;> omega) | fail)) [hs.ixs1, l1]; done)))
     | (refine Ans.step (by simp (disch := (first | omega | with_reducible assumption | (simp <;> omega) | fail)) [hs.ixs1, l1, -List.getD_eq_getElem?_getD] <;> rfl) ?_; try dsimp only [v_zero, v_succ])
     | fail)
    · rename_i hne
      rw [if_neg hne] at hd
      (refine Ans.next0 ?_ ?_ ?_; (focus (simp (disch := (first | omega | with_reducible assumption | (simp <;> omega) | fail)) [o1]; done)); (focus (simp (disch := (first | omega | with_reducible assumption | (simp <;> omega) | fail)) [o1]; done)))
      refine (ih (i + 1) (m + 1) (by omega) (by omega)).mono ?_
      rintro r rfl
      rw [hd, Nat.add_assoc]
    · rename_i heq
      rw [if_pos heq] at hd
      (refine Ans.next0 ?_ ?_ ?_; (focus (simp (disch := (first | omega | with_reducible assumption | (simp <;> omega) | fail)) [o1]; done)); (focus (simp (disch := (first | omega | with_reducible assumption | (simp <;> omega) | fail)) [o1]; done)))
      refine (ih (i + 1) m (by omega) (by omega)).mono ?_
      rintro r rfl
      rw [hd, Nat.zero_add]

theorem areQ_sp (s : Value) (n : Nat) (L : List Int) (h : FH) (c : Nat) (df : List Nat) (hs : SlI h c s 1 n L) (hn : n ≤ 1000000) :
    G (.fn 56) [s] h c df = some { e := .ret, vs := [.bool (areQ L)], h := h, c := c, df := [] } := by
  refine pure_of' (fun r e => f56_go e) (by simp) ?_
  unfold f56_S
  have hl := hs.len
  have hr := Ans.eq (areQ_loop s n L h (c + 1 + 1 + 1) (hs.mono (by omega)) hn [] n 0 0 (by omega) (by omega))
  rw [List.drop_zero, Nat.zero_add] at hr
  simp only [Int.ofNat_eq_natCast, Int.cast_ofNat_Int] at hr
  repeat' (first
   | ((with_reducible first | refine Ans.bz ?_ | refine Ans.r1 ?_ | refine Ans.pkT ?_ | refine Ans.pkF ?_); try dsimp only [v_zero, v_succ])
   | (with_reducible first | refine Ans.btL ?_ | refine Ans.bfL ?_ | refine Ans.gyT ?_ | refine Ans.gyF ?_ | refine Ans.gyG ?_ | refine Ans.bb ?_ | refine Ans.bc ?_ | refine Ans.ba ?_)
   | ((with_reducible first | refine Ans.lsT ?_ ?_ | refine Ans.leT ?_ ?_ | refine Ans.grT ?_ ?_ | refine Ans.geT ?_ ?_ | refine Ans.eqT ?_ ?_ | refine Ans.neT ?_ ?_); (focus omega))
   | ((with_reducible first | refine Ans.lsF ?_ ?_ | refine Ans.leF ?_ ?_ | refine Ans.grF ?_ ?_ | refine Ans.geF ?_ ?_ | refine Ans.eqF ?_ ?_ | refine Ans.neF ?_ ?_); (focus omega))
   | (with_reducible first | refine Ans.lsS (fun _ => ?_) (fun _ => ?_) | refine Ans.leS (fun _ => ?_) (fun _ => ?_) | refine Ans.grS (fun _ => ?_) (fun _ => ?_) | refine Ans.geS (fun _ => ?_) (fun _ => ?_) | refine Ans.eqS (fun _ => ?_) (fun _ => ?_) | refine Ans.neS (fun _ => ?_) (fun _ => ?_))
   | ((with_reducible first | refine Ans.addN ?_ ?_ | refine Ans.add ?_ ?_ | refine Ans.sub ?_ ?_ | refine Ans.mul ?_ ?_); (focus omega))
   | ((with_reducible first | refine Ans.ct ?_ ?_); (focus (simp (disch := (first | omega | with_reducible assumption | (simp <;> omega) | fail)) [hl, hr]; done)))
   | ((with_reducible first | refine Ans.cf ?_ ?_); (focus (simp (disch := (first | omega | with_reducible assumption | (simp <;> omega) | fail)) [hl, hr]; done)))
   | (refine Ans.step (by simp (disch := (first | omega | with_reducible assumption | (simp <;> omega) | fail)) [hl, hr, -List.getD_eq_getElem?_getD] <;> rfl) ?_; try dsimp only [v_zero, v_succ])
   | fail)
  · rename_i hx
    exact Ans.pure (by simp [areQ]; omega) (by simp)
  · rename_i hx
    exact Ans.pure (by simp [areQ]; omega) (by simp)

theorem outside_sp (x : Int) (h : FH) (c : Nat) (df : List Nat) : G (.fn 76) [.int .i64 x] h c df = some { e := .ret, vs := [.bool (!(decide (0 ≤ x) && decide (x ≤ 1000000)))], h := h, c := c, df := [] } := by
  refine pure_of' (fun r e => f76_go e) (by simp) ?_
  unfold f76_S
  repeat' (first
   | ((with_reducible first | refine Ans.bz ?_ | refine Ans.r1 ?_ | refine Ans.pkT ?_ | refine Ans.pkF ?_); try dsimp only [v_zero, v_succ])
   | (with_reducible first | refine Ans.btL ?_ | refine Ans.bfL ?_ | refine Ans.gyT ?_ | refine Ans.gyF ?_ | refine Ans.gyG ?_ | refine Ans.bb ?_ | refine Ans.bc ?_ | refine Ans.ba ?_)
   | ((with_reducible first | refine Ans.lsT ?_ ?_ | refine Ans.leT ?_ ?_ | refine Ans.grT ?_ ?_ | refine Ans.geT ?_ ?_ | refine Ans.eqT ?_ ?_ | refine Ans.neT ?_ ?_); (focus omega))
   | ((with_reducible first | refine Ans.lsF ?_ ?_ | refine Ans.leF ?_ ?_ | refine Ans.grF ?_ ?_ | refine Ans.geF ?_ ?_ | refine Ans.eqF ?_ ?_ | refine Ans.neF ?_ ?_); (focus omega))
   | (with_reducible first | refine Ans.lsS (fun _ => ?_) (fun _ => ?_) | refine Ans.leS (fun _ => ?_) (fun _ => ?_) | refine Ans.grS (fun _ => ?_) (fun _ => ?_) | refine Ans.geS (fun _ => ?_) (fun _ => ?_) | refine Ans.eqS (fun _ => ?_) (fun _ => ?_) | refine Ans.neS (fun _ => ?_) (fun _ => ?_))
   | ((with_reducible first | refine Ans.addN ?_ ?_ | refine Ans.add ?_ ?_ | refine Ans.sub ?_ ?_ | refine Ans.mul ?_ ?_); (focus omega))
   | ((with_reducible first | refine Ans.ct ?_ ?_); (focus (simp (disch := (first | omega | with_reducible assumption | (simp <;> omega) | fail)) []; done)))
   | ((with_reducible first | refine Ans.cf ?_ ?_); (focus (simp (disch := (first | omega | with_reducible assumption | (simp <;> omega) | fail)) []; done)))
   | (refine Ans.step (by simp (disch := (first | omega | with_reducible assumption | (simp <;> omega) | fail)) [-List.getD_eq_getElem?_getD] <;> rfl) ?_; try dsimp only [v_zero, v_succ])
   | fail)
  all_goals exact Ans.pure (by simp; omega) (by simp)
theorem callV76 (h : FH) (c : Nat) (v : Value) : callV G h c (.func (.func 76) #[] #[]) [v] = callF G 76 [v] h c := by rfl
theorem callV_outside (x : Int) (h : FH) (c : Nat) : callV G h c (.func (.func 76) #[] #[]) [.int .i64 x] = some (.bool (!(decide (0 ≤ x) && decide (x ≤ 1000000))), h, c) := by
  rw [callV76]; exact callF_of (outside_sp x h c [])

theorem index_loop (s : Value) (n : Nat) (L : List Int) (h : FH) (c : Nat) (hs : SlI h c s 1 n L) (hn : n ≤ 9000000000) (df : List Nat) : ∀ (k i : Nat) (z : Value), i + k = n → OkV c z →
    Ans (G (f90_k90000 none) [s, .func (.func 76) #[] #[], z, .int .i64 n, .int .i64 i] h c df) fun r => r.h = h ∧ r.c = c ∧ r.df = df ∧
      ((r.e = .exit 0 ∧ withinB (L.drop i) = true) ∨ (r.e = .ret ∧ (∃ j : Nat, r.v 2 = .int .i64 j) ∧ withinB (L.drop i) = false)) := by
  intro k
  have o1 := hs.okV
  have o2 := OkV.fn c 76
  induction k with
  | zero =>
    intro i z hi hz
    obtain rfl : i = n := by omega
    refine Ans.loop (fun q r => f90_N90000) (fun q => f90_Z90000) ?_
    unfold f90_L90000
    repeat' (first
     | ((with_reducible first | refine Ans.bz ?_ | refine Ans.r1 ?_ | refine Ans.pkT ?_ | refine Ans.pkF ?_); try dsimp only [v_zero, v_succ])
     | (with_reducible first | refine Ans.btL ?_ | refine Ans.bfL ?_ | refine Ans.gyT ?_ | refine Ans.gyF ?_ | refine Ans.gyG ?_ | refine Ans.bb ?_ | refine Ans.bc ?_ | refine Ans.ba ?_)
     | ((with_reducible first | refine Ans.lsT ?_ ?_ | refine Ans.leT ?_ ?_ | refine Ans.grT ?_ ?_ | refine Ans.geT ?_ ?_ | refine Ans.eqT ?_ ?_ | refine Ans.neT ?_ ?_); (focus omega))
     | ((with_reducible first | refine Ans.lsF ?_ ?_ | refine Ans.leF ?_ ?_ | refine Ans.grF ?_ ?_ | refine Ans.geF ?_ ?_ | refine Ans.eqF ?_ ?_ | refine Ans.neF ?_ ?_); (focus omega))
     | (with_reducible first | refine Ans.lsS (fun _ => ?_) (fun _ => ?_) | refine Ans.leS (fun _ => ?_) (fun _ => ?_) | refine Ans.grS (fun _ => ?_) (fun _ => ?_) | refine Ans.geS (fun _ => ?_) (fun _ => ?_) | refine Ans.eqS (fun _ => ?_) (fun _ => ?_) | refine Ans.neS (fun _ => ?_) (fun _ => ?_))
     | ((with_reducible first | refine Ans.addN ?_ ?_ | refine Ans.add ?_ ?_ | refine Ans.sub ?_ ?_ | refine Ans.mul ?_ ?_); (focus omega))
     | ((with_reducible first | refine Ans.ct ?_ ?_); (focus (simp (disch := (first | omega | with_reducible assumption | (simp <;> omega) | fail)) []; done)))
     | ((with_reducible first | refine Ans.cf ?_ ?_); (focus (simp (disch := (first | omega | with_reducible assumption | (simp <;> omega) | fail)) []; done)))
     | (refine Ans.step (by simp (disch := (first | omega | with_reducible assumption | (simp <;> omega) | fail)) [-List.getD_eq_getElem?_getD] <;> rfl) ?_; try dsimp only [v_zero, v_succ])
     | fail)
    (refine Ans.exit0 ?_ ?_ ?_; (focus (simp (disch := (first | omega | with_reducible assumption | (simp <;> omega) | fail)) [o1, o2, hz]; done)); (focus (simp (disch := (first | omega | with_reducible assumption | (simp <;> omega) | fail)) [o1, o2, hz]; done)))
    exact ⟨rfl, rfl, rfl, .inl ⟨rfl, by rw [List.drop_of_length_le (by have := hs.1; omega)]; rfl⟩⟩
  | succ k ih =>
    intro i z hi hz
    have hl := hs.1
    have l1 := hs.rdi i (by omega) (by omega)
    simp only [Int.toNat_natCast] at l1
    rw [gi_nat] at l1
    have hd : L.drop i = L.getD i 0 :: L.drop (i + 1) := by
      rw [List.drop_eq_getElem_cons (by omega)]
      congr 1
      simp [List.getD, List.getElem?_eq_getElem (by omega : i < L.length)]
    obtain ⟨X, hX⟩ : ∃ X, L.getD i 0 = X := ⟨_, rfl⟩
    rw [hX] at l1 hd
    have c1 := fun H c => callV_outside X H c
    refine Ans.loop (fun q r => f90_N90000) (fun q => f90_Z90000) ?_
    unfold f90_L90000
    cases hq : (decide (0 ≤ X) && decide (X ≤ 1000000)) with
    | false =>
      rw [hq] at c1
      repeat' (first
       | ((with_reducible first | refine Ans.bz ?_ | refine Ans.r1 ?_ | refine Ans.pkT ?_ | refine Ans.pkF ?_); try dsimp only [v_zero, v_succ])
       | (with_reducible first | refine Ans.btL ?_ | refine Ans.bfL ?_ | refine Ans.gyT ?_ | refine Ans.gyF ?_ | refine Ans.gyG ?_ | refine Ans.bb ?_ | refine Ans.bc ?_ | refine Ans.ba ?_)
       | ((with_reducible first | refine Ans.lsT ?_ ?_ | refine Ans.leT ?_ ?_ | refine Ans.grT ?_ ?_ | refine Ans.geT ?_ ?_ | refine Ans.eqT ?_ ?_ | refine Ans.neT ?_ ?_); (focus omega))
       | ((with_reducible first | refine Ans.lsF ?_ ?_ | refine Ans.leF ?_ ?_ | refine Ans.grF ?_ ?_ | refine Ans.geF ?_ ?_ | refine Ans.eqF ?_ ?_ | refine Ans.neF ?_ ?_); (focus omega))
       | (with_reducible first | refine Ans.lsS (fun _ => ?_) (fun _ => ?_) | refine Ans.leS (fun _ => ?_) (fun _ => ?_) | refine Ans.grS (fun _ => ?_) (fun _ => ?_) | refine Ans.geS (fun _ => ?_) (fun _ => ?_) | refine Ans.eqS (fun _ => ?_) (fun _ => ?_) | refine Ans.neS (fun _ => ?_) (fun _ => ?_))
       | ((with_reducible first | refine Ans.addN ?_ ?_ | refine Ans.add ?_ ?_ | refine Ans.sub ?_ ?_ | refine Ans.mul ?_ ?_); (focus omega))
       | ((with_reducible first | refine Ans.ct ?_ ?_); (focus (simp (disch := (first | omega | with_reducible assumption | (simp <;> omega) | fail)) [hs.ixs1, l1, c1]; done)))
       | ((with_reducible first | refine Ans.cf ?_ ?_); (focus (simp (disch := (first | omega | with_reducible assumption | (simp <;> omega) | fail)) [hs.ixs1, l1, c1]; done)))
       | (refine Ans.step (by simp (disch := (first | omega | with_reducible assumption | (simp <;> omega) | fail)) [hs.ixs1, l1, c1, -List.getD_eq_getElem?_getD] <;> rfl) ?_; try dsimp only [v_zero, v_succ])
       | fail)
      (refine Ans.ret0 ?_ ?_ ?_; (focus (simp (disch := (first | omega | with_reducible assumption | (simp <;> omega) | fail)) [o1, o2, hz]; done)); (focus (simp (disch := (first | omega | with_reducible assumption | (simp <;> omega) | fail)) [o1, o2, hz]; done)))
      exact ⟨rfl, rfl, rfl, .inr ⟨rfl, ⟨i, rfl⟩, by rw [hd]; simp [withinB, hq]⟩⟩
    | true =>
      rw [hq] at c1
      repeat' (first
       | ((with_reducible first | refine Ans.bz ?_ | refine Ans.r1 ?_ | refine Ans.pkT ?_ | refine Ans.pkF ?_); try dsimp only [v_zero, v_succ])
       | (with_reducible first | refine Ans.btL ?_ | refine Ans.bfL ?_ | refine Ans.gyT ?_ | refine Ans.gyF ?_ | refine Ans.gyG ?_ | refine Ans.bb ?_ | refine Ans.bc ?_ | refine Ans.ba ?_)
       | ((with_reducible first | refine Ans.lsT ?_ ?_ | refine Ans.leT ?_ ?_ | refine Ans.grT ?_ ?_ | refine Ans.geT ?_ ?_ | refine Ans.eqT ?_ ?_ | refine Ans.neT ?_ ?_); (focus omega))
       | ((with_reducible first | refine Ans.lsF ?_ ?_ | refine Ans.leF ?_ ?_ | refine Ans.grF ?_ ?_ | refine Ans.geF ?_ ?_ | refine Ans.eqF ?_ ?_ | refine Ans.neF ?_ ?_); (focus omega))
       | (with_reducible first | refine Ans.lsS (fun _ => ?_) (fun _ => ?_) | refine Ans.leS (fun _ => ?_) (fun _ => ?_) | refine Ans.grS (fun _ => ?_) (fun _ => ?_) | refine Ans.geS (fun _ => ?_) (fun _ => ?_) | refine Ans.eqS (fun _ => ?_) (fun _ => ?_) | refine Ans.neS (fun _ => ?_) (fun _ => ?_))
       | ((with_reducible first | refine Ans.addN ?_ ?_ | refine Ans.add ?_ ?_ | refine Ans.sub ?_ ?_ | refine Ans.mul ?_ ?_); (focus omega))
       | ((with_reducible first | refine Ans.ct ?_ ?_); (focus (simp (disch := (first | omega | with_reducible assumption | (simp <;> omega) | fail)) [hs.ixs1, l1, c1]; done)))
       | ((with_reducible first | refine Ans.cf ?_ ?_); (focus (simp (disch := (first | omega | with_reducible assumption | (simp <;> omega) | fail)) [hs.ixs1, l1, c1]; done)))
       | (refine Ans.step (by simp (disch := (first | omega | with_reducible assumption | (simp <;> omega) | fail)) [hs.ixs1, l1, c1, -List.getD_eq_getElem?_getD] <;> rfl) ?_; try dsimp only [v_zero, v_succ])
       | fail)
      (refine Ans.next0 ?_ ?_ ?_; (focus (simp (disch := (first | omega | with_reducible assumption | (simp <;> omega) | fail)) [o1, o2, hz]; done)); (focus (simp (disch := (first | omega | with_reducible assumption | (simp <;> omega) | fail)) [o1, o2, hz]; done)))
      have e : withinB (L.drop i) = withinB (L.drop (i + 1)) := by rw [hd]; simp only [withinB, List.all_cons, hq, Bool.true_and]
      rw [e]
      exact ih (i + 1) z (by omega) hz

theorem within_sp (s : Value) (n : Nat) (L : List Int) (h : FH) (c : Nat) (df : List Nat) (hs : SlI h c s 1 n L) (hn : n ≤ 9000000000) :
    G (.fn 55) [s] h c df = some { e := .ret, vs := [.bool (withinB L)], h := h, c := c, df := [] } := by
  have hl := hs.len
  have k90 : ∀ c', c ≤ c' → ∃ z : Int, (0 ≤ z ↔ withinB L = false) ∧ callF G 90 [s, .func (.func 76) #[] #[]] h c' = some (.int .i64 z, h, c') := fun c' hc => by
    obtain ⟨⟨re, rv, rh, rc, rd⟩, hr, r1, r2, r3, r4⟩ := index_loop s n L h (c' + 1 + 1) (hs.mono (by omega)) hn [] n 0 (.int .i64 0) (by omega) (by simp)
    simp only at r1 r2 r3 r4
    subst r1 r2 r3
    simp only [Int.ofNat_eq_natCast, Int.cast_ofNat_Int] at hr
    rw [List.drop_zero] at r4
    rcases r4 with ⟨rfl, r5⟩ | ⟨rfl, ⟨j, r5⟩, r6⟩
    · refine ⟨-1, by simp [r5], callF_of (pure_of' (fun r e => f90_go e) (by simp) ?_)⟩
      unfold f90_S
      repeat' (first
       | ((with_reducible first | refine Ans.bz ?_ | refine Ans.r1 ?_ | refine Ans.pkT ?_ | refine Ans.pkF ?_); try dsimp only [v_zero, v_succ])
       | (with_reducible first | refine Ans.btL ?_ | refine Ans.bfL ?_ | refine Ans.gyT ?_ | refine Ans.gyF ?_ | refine Ans.gyG ?_ | refine Ans.bb ?_ | refine Ans.bc ?_ | refine Ans.ba ?_)
       | ((with_reducible first | refine Ans.lsT ?_ ?_ | refine Ans.leT ?_ ?_ | refine Ans.grT ?_ ?_ | refine Ans.geT ?_ ?_ | refine Ans.eqT ?_ ?_ | refine Ans.neT ?_ ?_); (focus omega))
       | ((with_reducible first | refine Ans.lsF ?_ ?_ | refine Ans.leF ?_ ?_ | refine Ans.grF ?_ ?_ | refine Ans.geF ?_ ?_ | refine Ans.eqF ?_ ?_ | refine Ans.neF ?_ ?_); (focus omega))
       | (with_reducible first | refine Ans.lsS (fun _ => ?_) (fun _ => ?_) | refine Ans.leS (fun _ => ?_) (fun _ => ?_) | refine Ans.grS (fun _ => ?_) (fun _ => ?_) | refine Ans.geS (fun _ => ?_) (fun _ => ?_) | refine Ans.eqS (fun _ => ?_) (fun _ => ?_) | refine Ans.neS (fun _ => ?_) (fun _ => ?_))
       | ((with_reducible first | refine Ans.addN ?_ ?_ | refine Ans.add ?_ ?_ | refine Ans.sub ?_ ?_ | refine Ans.mul ?_ ?_); (focus omega))
       | ((with_reducible first | refine Ans.ct ?_ ?_); (focus (simp (disch := (first | omega | with_reducible assumption | (simp <;> omega) | fail)) [hl, hr]; done)))
       | ((with_reducible first | refine Ans.cf ?_ ?_); (focus (simp (disch := (first | omega | with_reducible assumption | (simp <;> omega) | fail)) [hl, hr]; done)))
       | (refine Ans.step (by simp (disch := (first | omega | with_reducible assumption | (simp <;> omega) | fail)) [hl, hr, -List.getD_eq_getElem?_getD] <;> rfl) ?_; try dsimp only [v_zero, v_succ])
       | fail)
      exact Ans.pure rfl (by simp)
    · refine ⟨j, by simp [r6], callF_of (pure_of' (fun r e => f90_go e) (by simp) ?_)⟩
      unfold f90_S
      repeat' (first
       | ((with_reducible first | refine Ans.bz ?_ | refine Ans.r1 ?_ | refine Ans.pkT ?_ | refine Ans.pkF ?_); try dsimp only [v_zero, v_succ])
       | (with_reducible first | refine Ans.btL ?_ | refine Ans.bfL ?_ | refine Ans.gyT ?_ | refine Ans.gyF ?_ | refine Ans.gyG ?_ | refine Ans.bb ?_ | refine Ans.bc ?_ | refine Ans.ba ?_)
       | ((with_reducible first | refine Ans.lsT ?_ ?_ | refine Ans.leT ?_ ?_ | refine Ans.grT ?_ ?_ | refine Ans.geT ?_ ?_ | refine Ans.eqT ?_ ?_ | refine Ans.neT ?_ ?_); (focus omega))
       | ((with_reducible first | refine Ans.lsF ?_ ?_ | refine Ans.leF ?_ ?_ | refine Ans.grF ?_ ?_ | refine Ans.geF ?_ ?_ | refine Ans.eqF ?_ ?_ | refine Ans.neF ?_ ?_); (focus omega))
       | (with_reducible first | refine Ans.lsS (fun _ => ?_) (fun _ => ?_) | refine Ans.leS (fun _ => ?_) (fun _ => ?_) | refine Ans.grS (fun _ => ?_) (fun _ => ?_) | refine Ans.geS (fun _ => ?_) (fun _ => ?_) | refine Ans.eqS (fun _ => ?_) (fun _ => ?_) | refine Ans.neS (fun _ => ?_) (fun _ => ?_))
       | ((with_reducible first | refine Ans.addN ?_ ?_ | refine Ans.add ?_ ?_ | refine Ans.sub ?_ ?_ | refine Ans.mul ?_ ?_); (focus omega))
       | ((with_reducible first | refine Ans.ct ?_ ?_); (focus (simp (disch := (first | omega | with_reducible assumption | (simp <;> omega) | fail)) [hl, hr]; done)))
       | ((with_reducible first | refine Ans.cf ?_ ?_); (focus (simp (disch := (first | omega | with_reducible assumption | (simp <;> omega) | fail)) [hl, hr]; done)))
       | (refine Ans.step (by simp (disch := (first | omega | with_reducible assumption | (simp <;> omega) | fail)) [hl, hr, -List.getD_eq_getElem?_getD] <;> rfl) ?_; try dsimp only [v_zero, v_succ])
       | fail)
      exact Ans.pure r5 (by simp)
  have k75 : ∀ c', c ≤ c' → callF G 75 [s, .func (.func 76) #[] #[]] h c' = some (.bool (!withinB L), h, c') := fun c' hc => by
    refine callF_of (pure_of' (fun r e => f75_go e) (by simp) ?_)
    unfold f75_S
    obtain ⟨z, hz, c1⟩ := k90 (c' + 1 + 1) (by omega)
    cases hv : withinB L with
    | true =>
      rw [hv] at hz
      have : ¬ 0 ≤ z := fun h => by simpa using hz.1 h
      repeat' (first
       | ((with_reducible first | refine Ans.bz ?_ | refine Ans.r1 ?_ | refine Ans.pkT ?_ | refine Ans.pkF ?_); try dsimp only [v_zero, v_succ])
       | (with_reducible first | refine Ans.btL ?_ | refine Ans.bfL ?_ | refine Ans.gyT ?_ | refine Ans.gyF ?_ | refine Ans.gyG ?_ | refine Ans.bb ?_ | refine Ans.bc ?_ | refine Ans.ba ?_)
       | ((with_reducible first | refine Ans.lsT ?_ ?_ | refine Ans.leT ?_ ?_ | refine Ans.grT ?_ ?_ | refine Ans.geT ?_ ?_ | refine Ans.eqT ?_ ?_ | refine Ans.neT ?_ ?_); (focus omega))
       | ((with_reducible first | refine Ans.lsF ?_ ?_ | refine Ans.leF ?_ ?_ | refine Ans.grF ?_ ?_ | refine Ans.geF ?_ ?_ | refine Ans.eqF ?_ ?_ | refine Ans.neF ?_ ?_); (focus omega))
       | (with_reducible first | refine Ans.lsS (fun _ => ?_) (fun _ => ?_) | refine Ans.leS (fun _ => ?_) (fun _ => ?_) | refine Ans.grS (fun _ => ?_) (fun _ => ?_) | refine Ans.geS (fun _ => ?_) (fun _ => ?_) | refine Ans.eqS (fun _ => ?_) (fun _ => ?_) | refine Ans.neS (fun _ => ?_) (fun _ => ?_))
       | ((with_reducible first | refine Ans.addN ?_ ?_ | refine Ans.add ?_ ?_ | refine Ans.sub ?_ ?_ | refine Ans.mul ?_ ?_); (focus omega))
       | ((with_reducible first | refine Ans.ct ?_ ?_); (focus (simp (disch := (first | omega | with_reducible assumption | (simp <;> omega) | fail)) [c1]; done)))
       | ((with_reducible first | refine Ans.cf ?_ ?_); (focus (simp (disch := (first | omega | with_reducible assumption | (simp <;> omega) | fail)) [c1]; done)))
       | (refine Ans.step (by simp (disch := (first | omega | with_reducible assumption | (simp <;> omega) | fail)) [c1, -List.getD_eq_getElem?_getD] <;> rfl) ?_; try dsimp only [v_zero, v_succ])
       | fail)
      exact Ans.pure rfl (by simp)
    | false =>
      rw [hv] at hz
      have : 0 ≤ z := hz.2 rfl
      repeat' (first
       | ((with_reducible first | refine Ans.bz ?_ | refine Ans.r1 ?_ | refine Ans.pkT ?_ | refine Ans.pkF ?_); try dsimp only [v_zero, v_succ])
       | (with_reducible first | refine Ans.btL ?_ | refine Ans.bfL ?_ | refine Ans.gyT ?_ | refine Ans.gyF ?_ | refine Ans.gyG ?_ | refine Ans.bb ?_ | refine Ans.bc ?_ | refine Ans.ba ?_)
       | ((with_reducible first | refine Ans.lsT ?_ ?_ | refine Ans.leT ?_ ?_ | refine Ans.grT ?_ ?_ | refine Ans.geT ?_ ?_ | refine Ans.eqT ?_ ?_ | refine Ans.neT ?_ ?_); (focus omega))
       | ((with_reducible first | refine Ans.lsF ?_ ?_ | refine Ans.leF ?_ ?_ | refine Ans.grF ?_ ?_ | refine Ans.geF ?_ ?_ | refine Ans.eqF ?_ ?_ | refine Ans.neF ?_ ?_); (focus omega))
       | (with_reducible first | refine Ans.lsS (fun _ => ?_) (fun _ => ?_) | refine Ans.leS (fun _ => ?_) (fun _ => ?_) | refine Ans.grS (fun _ => ?_) (fun _ => ?_) | refine Ans.geS (fun _ => ?_) (fun _ => ?_) | refine Ans.eqS (fun _ => ?_) (fun _ => ?_) | refine Ans.neS (fun _ => ?_) (fun _ => ?_))
       | ((with_reducible first | refine Ans.addN ?_ ?_ | refine Ans.add ?_ ?_ | refine Ans.sub ?_ ?_ | refine Ans.mul ?_ ?_); (focus omega))
       | ((with_reducible first | refine Ans.ct ?_ ?_); (focus (simp (disch := (first | omega | with_reducible assumption | (simp <;> omega) | fail)) [c1]; done)))
       | ((with_reducible first | refine Ans.cf ?_ ?_); (focus (simp (disch := (first | omega | with_reducible assumption | (simp <;> omega) | fail)) [c1]; done)))
       | (refine Ans.step (by simp (disch := (first | omega | with_reducible assumption | (simp <;> omega) | fail)) [c1, -List.getD_eq_getElem?_getD] <;> rfl) ?_; try dsimp only [v_zero, v_succ])
       | fail)
      exact Ans.pure rfl (by simp)
  refine pure_of' (fun r e => f55_go e) (by simp) ?_
  unfold f55_S
  have c1 := k75 (c + 1 + 1) (by omega)
  repeat' (first
   | ((with_reducible first | refine Ans.bz ?_ | refine Ans.r1 ?_ | refine Ans.pkT ?_ | refine Ans.pkF ?_); try dsimp only [v_zero, v_succ])
   | (with_reducible first | refine Ans.btL ?_ | refine Ans.bfL ?_ | refine Ans.gyT ?_ | refine Ans.gyF ?_ | refine Ans.gyG ?_ | refine Ans.bb ?_ | refine Ans.bc ?_ | refine Ans.ba ?_)
   | ((with_reducible first | refine Ans.lsT ?_ ?_ | refine Ans.leT ?_ ?_ | refine Ans.grT ?_ ?_ | refine Ans.geT ?_ ?_ | refine Ans.eqT ?_ ?_ | refine Ans.neT ?_ ?_); (focus omega))
   | ((with_reducible first | refine Ans.lsF ?_ ?_ | refine Ans.leF ?_ ?_ | refine Ans.grF ?_ ?_ | refine Ans.geF ?_ ?_ | refine Ans.eqF ?_ ?_ | refine Ans.neF ?_ ?_); (focus omega))
   | (with_reducible first | refine Ans.lsS (fun _ => ?_) (fun _ => ?_) | refine Ans.leS (fun _ => ?_) (fun _ => ?_) | refine Ans.grS (fun _ => ?_) (fun _ => ?_) | refine Ans.geS (fun _ => ?_) (fun _ => ?_) | refine Ans.eqS (fun _ => ?_) (fun _ => ?_) | refine Ans.neS (fun _ => ?_) (fun _ => ?_))
   | ((with_reducible first | refine Ans.addN ?_ ?_ | refine Ans.add ?_ ?_ | refine Ans.sub ?_ ?_ | refine Ans.mul ?_ ?_); (focus omega))
   | ((with_reducible first | refine Ans.ct ?_ ?_); (focus (simp (disch := (first | omega | with_reducible assumption | (simp <;> omega) | fail)) [c1]; done)))
   | ((with_reducible first | refine Ans.cf ?_ ?_); (focus (simp (disch := (first | omega | with_reducible assumption | (simp <;> omega) | fail)) [c1]; done)))
   | (refine Ans.step (by simp (disch := (first | omega | with_reducible assumption | (simp <;> omega) | fail)) [c1, -List.getD_eq_getElem?_getD] <;> rfl) ?_; try dsimp only [v_zero, v_succ])
   | fail)
  exact Ans.pure (by simp) (by simp)

theorem small_sp (s : Value) (n : Nat) (Gl : List Int) (h : FH) (c : Nat) (df : List Nat) (hs : SlI h c s 20 n Gl) :
    G (.fn 12) [.agg #[s]] h c df = some { e := .ret, vs := [.bool (decide (n ≤ 6))], h := h, c := c, df := [] } := by
  refine pure_of' (fun r e => f12_go e) (by simp) ?_
  unfold f12_S
  rw [flat1 hs.flat, cell1, Nat.add_zero]
  simp only [cond_true]
  have hl := hs.len
  repeat' (first
   | ((with_reducible first | refine Ans.bz ?_ | refine Ans.r1 ?_ | refine Ans.pkT ?_ | refine Ans.pkF ?_); try dsimp only [v_zero, v_succ])
   | (with_reducible first | refine Ans.btL ?_ | refine Ans.bfL ?_ | refine Ans.gyT ?_ | refine Ans.gyF ?_ | refine Ans.gyG ?_ | refine Ans.bb ?_ | refine Ans.bc ?_ | refine Ans.ba ?_)
   | ((with_reducible first | refine Ans.lsT ?_ ?_ | refine Ans.leT ?_ ?_ | refine Ans.grT ?_ ?_ | refine Ans.geT ?_ ?_ | refine Ans.eqT ?_ ?_ | refine Ans.neT ?_ ?_); (focus omega))
   | ((with_reducible first | refine Ans.lsF ?_ ?_ | refine Ans.leF ?_ ?_ | refine Ans.grF ?_ ?_ | refine Ans.geF ?_ ?_ | refine Ans.eqF ?_ ?_ | refine Ans.neF ?_ ?_); (focus omega))
   | (with_reducible first | refine Ans.lsS (fun _ => ?_) (fun _ => ?_) | refine Ans.leS (fun _ => ?_) (fun _ => ?_) | refine Ans.grS (fun _ => ?_) (fun _ => ?_) | refine Ans.geS (fun _ => ?_) (fun _ => ?_) | refine Ans.eqS (fun _ => ?_) (fun _ => ?_) | refine Ans.neS (fun _ => ?_) (fun _ => ?_))
   | ((with_reducible first | refine Ans.addN ?_ ?_ | refine Ans.add ?_ ?_ | refine Ans.sub ?_ ?_ | refine Ans.mul ?_ ?_); (focus omega))
   | ((with_reducible first | refine Ans.ct ?_ ?_); (focus (simp (disch := (first | omega | with_reducible assumption | (simp <;> omega) | fail)) [hl]; done)))
   | ((with_reducible first | refine Ans.cf ?_ ?_); (focus (simp (disch := (first | omega | with_reducible assumption | (simp <;> omega) | fail)) [hl]; done)))
   | (refine Ans.step (by simp (disch := (first | omega | with_reducible assumption | (simp <;> omega) | fail)) [hl, -List.getD_eq_getElem?_getD] <;> rfl) ?_; try dsimp only [v_zero, v_succ])
   | fail)
  all_goals exact Ans.pure (by simp; omega) (by simp (disch := omega))

def refE (Gl : List Int) (n : Nat) : Int := if n ≤ 1000 ∧ okAll Gl n = true then (if 60 < n then 2 else 0) else 7
theorem refused_sp (s : Value) (n : Nat) (Gl : List Int) (h : FH) (c : Nat) (df : List Nat) (hs : SlI h c s 20 n Gl) :
    G (.fn 43) [.agg #[s]] h c df = some { e := .ret, vs := [.int .i64 (refE Gl n)], h := h, c := c, df := [] } := by
  refine pure_of' (fun r e => f43_go e) (by simp) ?_
  unfold f43_S
  rw [flat1 hs.flat, cell1, Nat.add_zero]
  simp only [cond_true]
  have hl := hs.len
  have sH : Same c h (newB h (256 * c) [s]) := by simp (disch := omega)
  have g1 : Holds (newB h (256 * c) [s]) (256 * c) [s] := Holds.newB_same _ _ _
  have l1 := ldN1_own g1
  have l2 : ld1 (newB h (256 * c) [s]) (.pointer (some ⟨256 * c, 0, none⟩)) = some s := by rw [ld1_holds' g1]; rfl
  have c1 := callF_check s n Gl (newB h (256 * c) [s]) (c + 1 + 1) ((hs.same sH).mono (by omega))
  unfold refE
  by_cases hok : n ≤ 1000 ∧ okAll Gl n = true
  case neg =>
    rw [if_neg hok] at c1 ⊢
    repeat' (first
     | ((with_reducible first | refine Ans.bz ?_ | refine Ans.r1 ?_ | refine Ans.pkT ?_ | refine Ans.pkF ?_); try dsimp only [v_zero, v_succ])
     | (with_reducible first | refine Ans.btL ?_ | refine Ans.bfL ?_ | refine Ans.gyT ?_ | refine Ans.gyF ?_ | refine Ans.gyG ?_ | refine Ans.bb ?_ | refine Ans.bc ?_ | refine Ans.ba ?_)
     | ((with_reducible first | refine Ans.lsT ?_ ?_ | refine Ans.leT ?_ ?_ | refine Ans.grT ?_ ?_ | refine Ans.geT ?_ ?_ | refine Ans.eqT ?_ ?_ | refine Ans.neT ?_ ?_); (focus omega))
     | ((with_reducible first | refine Ans.lsF ?_ ?_ | refine Ans.leF ?_ ?_ | refine Ans.grF ?_ ?_ | refine Ans.geF ?_ ?_ | refine Ans.eqF ?_ ?_ | refine Ans.neF ?_ ?_); (focus omega))
     | (with_reducible first | refine Ans.lsS (fun _ => ?_) (fun _ => ?_) | refine Ans.leS (fun _ => ?_) (fun _ => ?_) | refine Ans.grS (fun _ => ?_) (fun _ => ?_) | refine Ans.geS (fun _ => ?_) (fun _ => ?_) | refine Ans.eqS (fun _ => ?_) (fun _ => ?_) | refine Ans.neS (fun _ => ?_) (fun _ => ?_))
     | ((with_reducible first | refine Ans.addN ?_ ?_ | refine Ans.add ?_ ?_ | refine Ans.sub ?_ ?_ | refine Ans.mul ?_ ?_); (focus omega))
     | ((with_reducible first | refine Ans.ct ?_ ?_); (focus (simp (disch := (first | omega | with_reducible assumption | (simp <;> omega) | fail)) [l1, l2, hl, c1]; done)))
     | ((with_reducible first | refine Ans.cf ?_ ?_); (focus (simp (disch := (first | omega | with_reducible assumption | (simp <;> omega) | fail)) [l1, l2, hl, c1]; done)))
     | (refine Ans.step (by simp (disch := (first | omega | with_reducible assumption | (simp <;> omega) | fail)) [l1, l2, hl, c1, -List.getD_eq_getElem?_getD] <;> rfl) ?_; try dsimp only [v_zero, v_succ])
     | fail)
    exact Ans.pure rfl sH
  rw [if_pos hok] at c1 ⊢
  repeat' (first
   | ((with_reducible first | refine Ans.bz ?_ | refine Ans.r1 ?_ | refine Ans.pkT ?_ | refine Ans.pkF ?_); try dsimp only [v_zero, v_succ])
   | (with_reducible first | refine Ans.btL ?_ | refine Ans.bfL ?_ | refine Ans.gyT ?_ | refine Ans.gyF ?_ | refine Ans.gyG ?_ | refine Ans.bb ?_ | refine Ans.bc ?_ | refine Ans.ba ?_)
   | ((with_reducible first | refine Ans.lsT ?_ ?_ | refine Ans.leT ?_ ?_ | refine Ans.grT ?_ ?_ | refine Ans.geT ?_ ?_ | refine Ans.eqT ?_ ?_ | refine Ans.neT ?_ ?_); (focus omega))
   | ((with_reducible first | refine Ans.lsF ?_ ?_ | refine Ans.leF ?_ ?_ | refine Ans.grF ?_ ?_ | refine Ans.geF ?_ ?_ | refine Ans.eqF ?_ ?_ | refine Ans.neF ?_ ?_); (focus omega))
   | (with_reducible first | refine Ans.lsS (fun _ => ?_) (fun _ => ?_) | refine Ans.leS (fun _ => ?_) (fun _ => ?_) | refine Ans.grS (fun _ => ?_) (fun _ => ?_) | refine Ans.geS (fun _ => ?_) (fun _ => ?_) | refine Ans.eqS (fun _ => ?_) (fun _ => ?_) | refine Ans.neS (fun _ => ?_) (fun _ => ?_))
   | ((with_reducible first | refine Ans.addN ?_ ?_ | refine Ans.add ?_ ?_ | refine Ans.sub ?_ ?_ | refine Ans.mul ?_ ?_); (focus omega))
   | ((with_reducible first | refine Ans.ct ?_ ?_); (focus (simp (disch := (first | omega | with_reducible assumption | (simp <;> omega) | fail)) [l1, l2, hl, c1]; done)))
   | ((with_reducible first | refine Ans.cf ?_ ?_); (focus (simp (disch := (first | omega | with_reducible assumption | (simp <;> omega) | fail)) [l1, l2, hl, c1]; done)))
   | (refine Ans.step (by simp (disch := (first | omega | with_reducible assumption | (simp <;> omega) | fail)) [l1, l2, hl, c1, -List.getD_eq_getElem?_getD] <;> rfl) ?_; try dsimp only [v_zero, v_succ])
   | fail)
  · exact Ans.pure (by rw [if_pos (by omega)]) sH
  · exact Ans.pure (by rw [if_neg (by omega)]) sH
end Go.Proofs.Ytcnndelmnobigaa

/-! The matching equations of a gluing, as lists of six numbers. -/
namespace Go.Ab
open Go
set_option linter.unusedVariables false
set_option linter.unusedSimpArgs false

def mRow (Gl : List Int) (t f i : Nat) : List Int := [(t : Int), (f : Int), (i : Int), tetL (faceL Gl t f), (permL (faceL Gl t f)).getD f 0, (permL (faceL Gl t f)).getD i 0]
/-- a face that is glued to an earlier one, or free -/
def mSkip (Gl : List Int) (t f : Nat) : Bool := decide (tetL (faceL Gl t f) < 0) || decide (tetL (faceL Gl t f) < t) || (decide (tetL (faceL Gl t f) = t) && decide ((permL (faceL Gl t f)).getD f 0 < f))
def mI (Gl : List Int) (t f : Nat) : Nat → Nat → List (List Int)
  | 0, _ => []
  | k + 1, i => (if i = f then [] else [mRow Gl t f i]) ++ mI Gl t f k (i + 1)
def mF (Gl : List Int) (t : Nat) : Nat → Nat → List (List Int)
  | 0, _ => []
  | k + 1, f => (if mSkip Gl t f = true then [] else mI Gl t f 4 0) ++ mF Gl t k (f + 1)
def mT (Gl : List Int) : Nat → Nat → List (List Int)
  | 0, _ => []
  | k + 1, t => mF Gl t 4 0 ++ mT Gl k (t + 1)
/-- all matching equations -/
def allM (Gl : List Int) (n : Nat) : List (List Int) := mT Gl n 0

theorem mem_mI {Gl : List Int} {t f : Nat} {m : List Int} : ∀ {k i : Nat}, m ∈ mI Gl t f k i → ∃ j, i ≤ j ∧ j < i + k ∧ j ≠ f ∧ m = mRow Gl t f j
  | 0, i, h => by cases h
  | k + 1, i, h => by
    rcases List.mem_append.1 h with h | h
    · split at h
      · cases h
      · rename_i hne
        exact ⟨i, by omega, by omega, hne, List.mem_singleton.1 h⟩
    · obtain ⟨j, h1, h2, h3, h4⟩ := mem_mI h
      exact ⟨j, by omega, by omega, h3, h4⟩
theorem mem_mF {Gl : List Int} {t : Nat} {m : List Int} : ∀ {k f : Nat}, m ∈ mF Gl t k f → ∃ g i, f ≤ g ∧ g < f + k ∧ i < 4 ∧ i ≠ g ∧ mSkip Gl t g = false ∧ m = mRow Gl t g i
  | 0, f, h => by cases h
  | k + 1, f, h => by
    rcases List.mem_append.1 h with h | h
    · split at h
      · cases h
      · rename_i hne
        obtain ⟨j, h1, h2, h3, h4⟩ := mem_mI h
        exact ⟨f, j, by omega, by omega, by omega, h3, by simpa using hne, h4⟩
    · obtain ⟨g, i, h1, h2, h3⟩ := mem_mF h
      exact ⟨g, i, by omega, by omega, h3⟩
theorem mem_mT {Gl : List Int} {m : List Int} : ∀ {k t : Nat}, m ∈ mT Gl k t → ∃ u g i, t ≤ u ∧ u < t + k ∧ g < 4 ∧ i < 4 ∧ i ≠ g ∧ mSkip Gl u g = false ∧ m = mRow Gl u g i
  | 0, t, h => by cases h
  | k + 1, t, h => by
    rcases List.mem_append.1 h with h | h
    · obtain ⟨g, i, h1, h2, h3⟩ := mem_mF h
      exact ⟨t, g, i, by omega, by omega, by omega, h3⟩
    · obtain ⟨u, g, i, h1, h2, h3⟩ := mem_mT h
      exact ⟨u, g, i, by omega, by omega, h3⟩
theorem mem_allM {Gl : List Int} {n : Nat} {m : List Int} (h : m ∈ allM Gl n) : ∃ u g i, u < n ∧ g < 4 ∧ i < 4 ∧ i ≠ g ∧ mSkip Gl u g = false ∧ m = mRow Gl u g i := by
  obtain ⟨u, g, i, h1, h2, h3⟩ := mem_mT h
  exact ⟨u, g, i, by omega, h3⟩
theorem mRow_length (Gl : List Int) (t f i : Nat) : (mRow Gl t f i).length = 6 := rfl
theorem bld6 (a b c d e f : Int) : bldV [(.int .i64 0), (.int .i64 0), (.int .i64 0), (.int .i64 0), (.int .i64 0), (.int .i64 0)] [(0, 1, .int .i64 a), (1, 1, .int .i64 b), (2, 1, .int .i64 c), (3, 1, .int .i64 d), (4, 1, .int .i64 e), (5, 1, .int .i64 f)] = some (av [a, b, c, d, e, f]) := (rfl)
theorem Holds.eqf {h h' : FH} {b : Nat} {cs : List Value} (e : h'.f b = h.f b) (hh : Holds h b cs) : Holds h' b cs := by
  obtain ⟨ro, op, e1⟩ := hh
  exact ⟨ro, op, e.trans e1⟩

theorem mI_mem {Gl : List Int} {t f j : Nat} (hne : j ≠ f) : ∀ {k i : Nat}, i ≤ j → j < i + k → mRow Gl t f j ∈ mI Gl t f k i
  | 0, i, h1, h2 => by omega
  | k + 1, i, h1, h2 => by
    rw [mI]
    by_cases e : i = j
    · subst e
      rw [if_neg hne]
      exact List.mem_append.2 (.inl (List.mem_singleton.2 rfl))
    · exact List.mem_append.2 (.inr (mI_mem hne (by omega) (by omega)))
theorem mF_mem {Gl : List Int} {t g i : Nat} (hi : i < 4) (hne : i ≠ g) (hs : mSkip Gl t g = false) : ∀ {k f : Nat}, f ≤ g → g < f + k → mRow Gl t g i ∈ mF Gl t k f
  | 0, f, h1, h2 => by omega
  | k + 1, f, h1, h2 => by
    rw [mF]
    by_cases e : f = g
    · subst e
      rw [if_neg (by rw [hs]; simp)]
      exact List.mem_append.2 (.inl (mI_mem hne (by omega) (by omega)))
    · exact List.mem_append.2 (.inr (mF_mem hi hne hs (by omega) (by omega)))
theorem mT_mem {Gl : List Int} {u g i : Nat} (hg : g < 4) (hi : i < 4) (hne : i ≠ g) (hs : mSkip Gl u g = false) : ∀ {k t : Nat}, t ≤ u → u < t + k → mRow Gl u g i ∈ mT Gl k t
  | 0, t, h1, h2 => by omega
  | k + 1, t, h1, h2 => by
    rw [mT]
    by_cases e : t = u
    · subst e
      exact List.mem_append.2 (.inl (mF_mem hi hne hs (by omega) (by omega)))
    · exact List.mem_append.2 (.inr (mT_mem hg hi hne hs (by omega) (by omega)))
theorem allM_mem {Gl : List Int} {n u g i : Nat} (hu : u < n) (hg : g < 4) (hi : i < 4) (hne : i ≠ g) (hs : mSkip Gl u g = false) : mRow Gl u g i ∈ allM Gl n := mT_mem hg hi hne hs (by omega) (by omega)

/-- an equation holds -/
def eqM (V m : List Int) : Bool := decide (arcV V (m.getD 0 0) (m.getD 1 0) (m.getD 2 0) = arcV V (m.getD 3 0) (m.getD 4 0) (m.getD 5 0))
def quadAt (V : List Int) (t : Nat) : List Int := (V.drop (7 * t + 4)).take 3
/-- a list has admissible coordinates -/
def admB (Gl : List Int) (n : Nat) (V : List Int) : Bool := decide (V.length = 7 * n) && withinB V && ((List.range n).all fun t => areQ (quadAt V t)) && (allM Gl n).all fun m => eqM V m

theorem withinB_at {V : List Int} (h : withinB V = true) (j : Nat) : 0 ≤ gi V j ∧ gi V j ≤ 1000000 := by
  unfold gi
  rw [Int.toNat_natCast]
  by_cases hj : j < V.length
  · have := List.all_eq_true.1 h V[j] (List.getElem_mem hj)
    simpa [List.getD, List.getElem?_eq_getElem hj] using this
  · simp [List.getD, List.getElem?_eq_none (by omega : V.length ≤ j)]

theorem ne24 {p : List Int} (hp : p ∈ p24) {i j : Nat} (hi : i < 4) (hj : j < 4) (hne : i ≠ j) : p.getD i 0 ≠ p.getD j 0 := by
  have := all24 (Q := fun p => (List.range 4).all fun i => (List.range 4).all fun j => decide (i = j) || decide (p.getD i 0 ≠ p.getD j 0)) (by kernel_rfl) hp
  rw [List.all_eq_true] at this
  have h1 := this i (by simpa using hi)
  rw [List.all_eq_true] at h1
  have h2 := h1 j (by simpa using hj)
  simpa [hne, -List.getD_eq_getElem?_getD] using h2

/-- what is known of an equation of a valid gluing -/
theorem mRow_ok {Gl : List Int} {n t f i : Nat} (hok : okAll Gl n = true) (hG : Gl.length = n * 20) (ht : t < n) (hf : f < 4) (hi : i < 4) (hne : i ≠ f) (hsk : mSkip Gl t f = false) :
    (t : Int) ≤ tetL (faceL Gl t f) ∧ tetL (faceL Gl t f) < n ∧ permL (faceL Gl t f) ∈ p24 := by
  have ok := okAll_face hok ht hf
  simp only [mSkip, Bool.or_eq_false_iff, decide_eq_false_iff_not] at hsk
  obtain ⟨⟨h1, h2⟩, _⟩ := hsk
  obtain ⟨g1, g2, _, _⟩ := okFace_glued ok h1
  exact ⟨by omega, g1, mem24 (permL_length (faceL_length hG ht hf)) g2⟩

theorem mI_length (Gl : List Int) (t f : Nat) : ∀ k i, (mI Gl t f k i).length ≤ k
  | 0, _ => Nat.le_refl _
  | k + 1, i => by
    have := mI_length Gl t f k (i + 1)
    rw [mI, List.length_append]
    split <;> simp <;> omega
theorem mF_length (Gl : List Int) (t : Nat) : ∀ k f, (mF Gl t k f).length ≤ 4 * k
  | 0, _ => Nat.le_refl _
  | k + 1, f => by
    have h1 := mF_length Gl t k (f + 1)
    have h2 := mI_length Gl t f 4 0
    rw [mF, List.length_append]
    split
    · simp; omega
    · omega
theorem mT_length (Gl : List Int) : ∀ k t, (mT Gl k t).length ≤ 16 * k
  | 0, _ => Nat.le_refl _
  | k + 1, t => by
    have h1 := mT_length Gl k (t + 1)
    have h2 := mF_length Gl t 4 0
    rw [mT, List.length_append]
    omega
theorem allM_length (Gl : List Int) (n : Nat) : (allM Gl n).length ≤ 16 * n := mT_length Gl n 0
end Go.Ab

namespace Go.Proofs.Ytcnndelmnobigaa
open Go Go.Ab Go.Proofs
set_option maxRecDepth 100000
set_option linter.unusedVariables false
set_option linter.unusedSimpArgs false

structure MatchI (y s : Value) (n : Nat) (Gl : List Int) (gb : Nat) (I : List (List Int) → (Nat → Prop) → FH → Nat → Prop) (J : (Nat → Prop) → FH → Nat → Prop) : Prop where
  stab : ∀ D O h c h' c', I D O h c → c ≤ c' → (∀ b, b < 256 * c → h'.f b = h.f b) → I D O h' c'
  jstab : ∀ O h c h' c', J O h c → c ≤ c' → (∀ b, b < 256 * c → h'.f b = h.f b) → J O h' c'
  own : ∀ D O h c, I D O h c → ∀ b, O b → b < 256 * c
  read : ∀ D O h c, I D O h c → Holds h gb [s] ∧ SlI h c s 20 n Gl
  step : ∀ D O h c t f i, t < n → f < 4 → i < 4 → i ≠ f → mSkip Gl t f = false → (∃ R, D ++ (mRow Gl t f i :: R) = allM Gl n) → I D O h c →
    Ans (callV G h c y [av (mRow Gl t f i)]) (fun q => c ≤ q.2.2 ∧ ∃ O', (∀ b, O' b → O b ∨ 256 * c ≤ b) ∧ (∀ b, b < 256 * c → ¬ O b → q.2.1.f b = h.f b) ∧
      ((q.1 = .bool true ∧ I (D ++ [mRow Gl t f i]) O' q.2.1 q.2.2) ∨ (q.1 = .bool false ∧ J O' q.2.1 q.2.2)))

variable {y s : Value} {n : Nat} {Gl : List Int} {gb : Nat} {I : List (List Int) → (Nat → Prop) → FH → Nat → Prop} {J : (Nat → Prop) → FH → Nat → Prop}

set_option maxHeartbeats 1000000 in
theorem match_i (hI : MatchI y s n Gl gb I J) (t f : Nat) (ht : t < n) (hf : f < 4) (hsk : mSkip Gl t f = false) (hG : Gl.length = n * 20) (b6 : Nat) (v3 v9 v10 v16 v17 : Value) (df : List Nat) :
    ∀ (k i c : Nat) (D : List (List Int)) (O : Nat → Prop) (h : FH), i + k = 4 → (∃ R, D ++ (mI Gl t f k i ++ R) = allM Gl n) → I D O h c → b6 < 256 * c → ¬ O b6 → Holds h b6 (ints (faceL Gl t f)) →
    Ans (G (f77_k77002 none) [y, .int .i64 t, .int .i64 f, ptrTo b6, v9, v10, v3, v16, v17, .int .i64 i] h c df) fun r => c ≤ r.c ∧ r.df = df ∧ ∃ O', (∀ b, O' b → O b ∨ 256 * c ≤ b) ∧ (∀ b, b < 256 * c → ¬ O b → r.h.f b = h.f b) ∧
      ((r.e = .exit 4 ∧ r.vs = [y, .int .i64 t, .int .i64 f, ptrTo b6, v9, v10, v3, v16, v17, .int .i64 4] ∧ I (D ++ mI Gl t f k i) O' r.h r.c) ∨
       (r.e = .ret ∧ (∃ j : Nat, r.vs = [y, .int .i64 t, .int .i64 f, ptrTo b6, v9, v10, v3, v16, v17, .int .i64 j]) ∧ J O' r.h r.c)) := by
  intro k
  induction k with
  | zero =>
    intro i c D O h hi hp hI0 hb6 hO hh
    obtain rfl : i = 4 := by omega
    refine Ans.loop' (fun q r => f77_N77002) (fun q => f77_Z77002) ?_
    unfold f77_L77002
    repeat' (first
     | ((with_reducible first | refine Ans.bz ?_ | refine Ans.r1 ?_ | refine Ans.pkT ?_ | refine Ans.pkF ?_); try dsimp only [v_zero, v_succ])
     | (with_reducible first | refine Ans.btL ?_ | refine Ans.bfL ?_ | refine Ans.gyT ?_ | refine Ans.gyF ?_ | refine Ans.gyG ?_ | refine Ans.bb ?_ | refine Ans.bc ?_ | refine Ans.ba ?_)
     | ((with_reducible first | refine Ans.lsT ?_ ?_ | refine Ans.leT ?_ ?_ | refine Ans.grT ?_ ?_ | refine Ans.geT ?_ ?_ | refine Ans.eqT ?_ ?_ | refine Ans.neT ?_ ?_); (focus omega))
     | ((with_reducible first | refine Ans.lsF ?_ ?_ | refine Ans.leF ?_ ?_ | refine Ans.grF ?_ ?_ | refine Ans.geF ?_ ?_ | refine Ans.eqF ?_ ?_ | refine Ans.neF ?_ ?_); (focus omega))
     | (with_reducible first | refine Ans.lsS (fun _ => ?_) (fun _ => ?_) | refine Ans.leS (fun _ => ?_) (fun _ => ?_) | refine Ans.grS (fun _ => ?_) (fun _ => ?_) | refine Ans.geS (fun _ => ?_) (fun _ => ?_) | refine Ans.eqS (fun _ => ?_) (fun _ => ?_) | refine Ans.neS (fun _ => ?_) (fun _ => ?_))
     | ((with_reducible first | refine Ans.addN ?_ ?_ | refine Ans.add ?_ ?_ | refine Ans.sub ?_ ?_ | refine Ans.mul ?_ ?_); (focus omega))
     | ((with_reducible first | refine Ans.ct ?_ ?_); (focus (simp (disch := (first | omega | with_reducible assumption | (simp <;> omega) | fail)) []; done)))
     | ((with_reducible first | refine Ans.cf ?_ ?_); (focus (simp (disch := (first | omega | with_reducible assumption | (simp <;> omega) | fail)) []; done)))
     | (refine Ans.step (by simp (disch := (first | omega | with_reducible assumption | (simp <;> omega) | fail)) [-List.getD_eq_getElem?_getD] <;> rfl) ?_; try dsimp only [v_zero, v_succ])
     | fail)
    refine Ans.exitN ⟨(by show c ≤ c + 1; omega), rfl, O, fun b hb => .inl hb, fun b _ _ => rfl, .inl ⟨rfl, rfl, ?_⟩⟩
    rw [mI, List.append_nil]
    exact hI.stab _ _ _ _ _ _ hI0 (by show c ≤ c + 1; omega) (fun b _ => rfl)
  | succ k ih =>
    intro i c D O h hi hp hI0 hb6 hO hh
    obtain ⟨R, hp⟩ := hp
    have hfl := faceL_length hG ht hf
    have hit : (i : Int) < 4 := by omega
    have m0 : ld1 h (.pointer (some ⟨b6, 0, none⟩)) = some (.int .i64 (tetL (faceL Gl t f))) := by rw [ld1_holds' hh, ints_getD _ _ (by omega)]; rfl
    have mp : ∀ j : Nat, j < 4 → ld1 h (.pointer (some ⟨b6, 1 + j, none⟩)) = some (.int .i64 ((permL (faceL Gl t f)).getD j 0)) := fun j hj => by
      rw [ld1_holds' hh, ints_getD _ _ (by omega)]
      unfold permL
      rw [getD_take _ _ _ hj, getD_drop]
    have m1 := mp f hf
    have m2 := mp i (by omega)
    by_cases hif : i = f
    · subst hif
      refine Ans.loop' (fun q r => f77_N77002) (fun q => f77_Z77002) ?_
      unfold f77_L77002
      repeat' (first
       | ((with_reducible first | refine Ans.bz ?_ | refine Ans.r1 ?_ | refine Ans.pkT ?_ | refine Ans.pkF ?_); try dsimp only [v_zero, v_succ])
       | (with_reducible first | refine Ans.btL ?_ | refine Ans.bfL ?_ | refine Ans.gyT ?_ | refine Ans.gyF ?_ | refine Ans.gyG ?_ | refine Ans.bb ?_ | refine Ans.bc ?_ | refine Ans.ba ?_)
       | ((with_reducible first | refine Ans.lsT ?_ ?_ | refine Ans.leT ?_ ?_ | refine Ans.grT ?_ ?_ | refine Ans.geT ?_ ?_ | refine Ans.eqT ?_ ?_ | refine Ans.neT ?_ ?_); (focus omega))
       | ((with_reducible first | refine Ans.lsF ?_ ?_ | refine Ans.leF ?_ ?_ | refine Ans.grF ?_ ?_ | refine Ans.geF ?_ ?_ | refine Ans.eqF ?_ ?_ | refine Ans.neF ?_ ?_); (focus omega))
       | (with_reducible first | refine Ans.lsS (fun _ => ?_) (fun _ => ?_) | refine Ans.leS (fun _ => ?_) (fun _ => ?_) | refine Ans.grS (fun _ => ?_) (fun _ => ?_) | refine Ans.geS (fun _ => ?_) (fun _ => ?_) | refine Ans.eqS (fun _ => ?_) (fun _ => ?_) | refine Ans.neS (fun _ => ?_) (fun _ => ?_))
       | ((with_reducible first | refine Ans.addN ?_ ?_ | refine Ans.add ?_ ?_ | refine Ans.sub ?_ ?_ | refine Ans.mul ?_ ?_); (focus omega))
       | ((with_reducible first | refine Ans.ct ?_ ?_); (focus (simp (disch := (first | omega | with_reducible assumption | (simp <;> omega) | fail)) []; done)))
       | ((with_reducible first | refine Ans.cf ?_ ?_); (focus (simp (disch := (first | omega | with_reducible assumption | (simp <;> omega) | fail)) []; done)))
       | (refine Ans.step (by simp (disch := (first | omega | with_reducible assumption | (simp <;> omega) | fail)) [-List.getD_eq_getElem?_getD] <;> rfl) ?_; try dsimp only [v_zero, v_succ])
       | fail)
      refine Ans.nextN ?_
      refine (ih (i + 1) _ D O h (by omega) ⟨R, by rw [mI, if_pos rfl, List.nil_append] at hp; exact hp⟩ (hI.stab _ _ _ _ _ _ hI0 (by omega) (fun b _ => rfl)) (by omega) hO hh).mono ?_
      rintro r ⟨q1, q2, O', q3, q4, q5⟩
      refine ⟨by omega, q2, O', fun b hb => (q3 b hb).imp id (by omega), fun b h1 h2 => q4 b (by omega) h2, ?_⟩
      rw [mI, if_pos rfl, List.nil_append]
      exact q5
    · rw [mI, if_neg hif] at hp
      obtain ⟨⟨v, h', c'⟩, hq, hc, O', o1, o2, o3⟩ := hI.step D O h (c + 1 + 1 + 1) t f i ht hf (by omega) hif hsk ⟨mI Gl t f k (i + 1) ++ R, by simpa using hp⟩ (hI.stab _ _ _ _ _ _ hI0 (by omega) (fun b _ => rfl))
      simp only at hc o1 o2 o3
      have hm : mRow Gl t f i = [(t : Int), (f : Int), (i : Int), tetL (faceL Gl t f), (permL (faceL Gl t f)).getD f 0, (permL (faceL Gl t f)).getD i 0] := rfl
      have b6' := bld6 (t : Int) f i (tetL (faceL Gl t f)) ((permL (faceL Gl t f)).getD f 0) ((permL (faceL Gl t f)).getD i 0)
      rw [← hm] at b6'
      obtain ⟨M, hM⟩ : ∃ M, mRow Gl t f i = M := ⟨_, rfl⟩
      rw [hM] at hq b6' o3 hp
      have hne : ¬ ((i : Int) = f) := by omega
      rcases o3 with ⟨rfl, hI1⟩ | ⟨rfl, hJ⟩
      · refine Ans.loop' (fun q r => f77_N77002) (fun q => f77_Z77002) ?_
        unfold f77_L77002
        repeat' (first
         | ((with_reducible first | refine Ans.bz ?_ | refine Ans.r1 ?_ | refine Ans.pkT ?_ | refine Ans.pkF ?_); try dsimp only [v_zero, v_succ])
         | (with_reducible first | refine Ans.btL ?_ | refine Ans.bfL ?_ | refine Ans.gyT ?_ | refine Ans.gyF ?_ | refine Ans.gyG ?_ | refine Ans.bb ?_ | refine Ans.bc ?_ | refine Ans.ba ?_)
         | ((with_reducible first | refine Ans.lsT ?_ ?_ | refine Ans.leT ?_ ?_ | refine Ans.grT ?_ ?_ | refine Ans.geT ?_ ?_ | refine Ans.eqT ?_ ?_ | refine Ans.neT ?_ ?_); (focus omega))
         | ((with_reducible first | refine Ans.lsF ?_ ?_ | refine Ans.leF ?_ ?_ | refine Ans.grF ?_ ?_ | refine Ans.geF ?_ ?_ | refine Ans.eqF ?_ ?_ | refine Ans.neF ?_ ?_); (focus omega))
         | (with_reducible first | refine Ans.lsS (fun _ => ?_) (fun _ => ?_) | refine Ans.leS (fun _ => ?_) (fun _ => ?_) | refine Ans.grS (fun _ => ?_) (fun _ => ?_) | refine Ans.geS (fun _ => ?_) (fun _ => ?_) | refine Ans.eqS (fun _ => ?_) (fun _ => ?_) | refine Ans.neS (fun _ => ?_) (fun _ => ?_))
         | ((with_reducible first | refine Ans.addN ?_ ?_ | refine Ans.add ?_ ?_ | refine Ans.sub ?_ ?_ | refine Ans.mul ?_ ?_); (focus omega))
         | ((with_reducible first | refine Ans.ct ?_ ?_); (focus (simp (disch := (first | omega | with_reducible assumption | (simp <;> omega) | fail)) [m0, m1, m2, b6', hq]; done)))
         | ((with_reducible first | refine Ans.cf ?_ ?_); (focus (simp (disch := (first | omega | with_reducible assumption | (simp <;> omega) | fail)) [m0, m1, m2, b6', hq]; done)))
         | (refine Ans.step (by simp (disch := (first | omega | with_reducible assumption | (simp <;> omega) | fail)) [m0, m1, m2, b6', hq, -List.getD_eq_getElem?_getD] <;> rfl) ?_; try dsimp only [v_zero, v_succ])
         | fail)
        refine Ans.nextN ?_
        refine (ih (i + 1) _ (D ++ [M]) O' h' (by omega) ⟨R, by simpa using hp⟩ (hI.stab _ _ _ _ _ _ hI1 (by omega) (fun b _ => rfl)) (by omega) (fun ho => (o1 b6 ho).elim hO (by omega)) (hh.eqf (o2 b6 (by omega) hO))).mono ?_
        rintro r ⟨q1, q2, O2, q3, q4, q5⟩
        refine ⟨by omega, q2, O2, fun b hb => ?_, fun b h1 h2 => ?_, ?_⟩
        · rcases q3 b hb with h1 | h1
          · exact (o1 b h1).imp id (by omega)
          · exact .inr (by omega)
        · rw [q4 b (by omega) (fun ho => (o1 b ho).elim h2 (by omega)), o2 b (by omega) h2]
        · rw [mI, if_neg hif, hM]
          rw [List.append_assoc] at q5
          exact q5
      · refine Ans.loop' (fun q r => f77_N77002) (fun q => f77_Z77002) ?_
        unfold f77_L77002
        repeat' (first
         | ((with_reducible first | refine Ans.bz ?_ | refine Ans.r1 ?_ | refine Ans.pkT ?_ | refine Ans.pkF ?_); try dsimp only [v_zero, v_succ])
         | (with_reducible first | refine Ans.btL ?_ | refine Ans.bfL ?_ | refine Ans.gyT ?_ | refine Ans.gyF ?_ | refine Ans.gyG ?_ | refine Ans.bb ?_ | refine Ans.bc ?_ | refine Ans.ba ?_)
         | ((with_reducible first | refine Ans.lsT ?_ ?_ | refine Ans.leT ?_ ?_ | refine Ans.grT ?_ ?_ | refine Ans.geT ?_ ?_ | refine Ans.eqT ?_ ?_ | refine Ans.neT ?_ ?_); (focus omega))
         | ((with_reducible first | refine Ans.lsF ?_ ?_ | refine Ans.leF ?_ ?_ | refine Ans.grF ?_ ?_ | refine Ans.geF ?_ ?_ | refine Ans.eqF ?_ ?_ | refine Ans.neF ?_ ?_); (focus omega))
         | (with_reducible first | refine Ans.lsS (fun _ => ?_) (fun _ => ?_) | refine Ans.leS (fun _ => ?_) (fun _ => ?_) | refine Ans.grS (fun _ => ?_) (fun _ => ?_) | refine Ans.geS (fun _ => ?_) (fun _ => ?_) | refine Ans.eqS (fun _ => ?_) (fun _ => ?_) | refine Ans.neS (fun _ => ?_) (fun _ => ?_))
         | ((with_reducible first | refine Ans.addN ?_ ?_ | refine Ans.add ?_ ?_ | refine Ans.sub ?_ ?_ | refine Ans.mul ?_ ?_); (focus omega))
         | ((with_reducible first | refine Ans.ct ?_ ?_); (focus (simp (disch := (first | omega | with_reducible assumption | (simp <;> omega) | fail)) [m0, m1, m2, b6', hq]; done)))
         | ((with_reducible first | refine Ans.cf ?_ ?_); (focus (simp (disch := (first | omega | with_reducible assumption | (simp <;> omega) | fail)) [m0, m1, m2, b6', hq]; done)))
         | (refine Ans.step (by simp (disch := (first | omega | with_reducible assumption | (simp <;> omega) | fail)) [m0, m1, m2, b6', hq, -List.getD_eq_getElem?_getD] <;> rfl) ?_; try dsimp only [v_zero, v_succ])
         | fail)
        refine Ans.retN ⟨(by show c ≤ c'; omega), rfl, O', fun b hb => (o1 b hb).imp id (by omega), fun b h1 h2 => o2 b (by omega) h2, .inr ⟨rfl, ⟨i, rfl⟩, hJ⟩⟩
end Go.Proofs.Ytcnndelmnobigaa

namespace Go.Proofs.Ytcnndelmnobigaa
open Go Go.Ab Go.Proofs
set_option maxRecDepth 100000
set_option linter.unusedVariables false
set_option linter.unusedSimpArgs false

variable {y s : Value} {n : Nat} {Gl : List Int} {gb : Nat} {I : List (List Int) → (Nat → Prop) → FH → Nat → Prop} {J : (Nat → Prop) → FH → Nat → Prop}

set_option maxHeartbeats 1000000 in
theorem match_f (hI : MatchI y s n Gl gb I J) (t : Nat) (ht : t < n) (hn : n ≤ 1000000) (hG : Gl.length = n * 20) (v9 v10 : Value) (df : List Nat) :
    ∀ (k f c : Nat) (D : List (List Int)) (O : Nat → Prop) (h : FH), f + k = 4 → (∃ R, D ++ (mF Gl t k f ++ R) = allM Gl n) → I D O h c →
    Ans (G (f77_k77001 none) [y, .int .i64 t, v9, v10, .int .i64 t, av (rowL Gl t), .int .i64 f] h c df) fun r => c ≤ r.c ∧ r.df = df ∧ ∃ O', (∀ b, O' b → O b ∨ 256 * c ≤ b) ∧ (∀ b, b < 256 * c → ¬ O b → r.h.f b = h.f b) ∧
      ((r.e = .exit 2 ∧ r.vs = [y, .int .i64 t, v9, v10, .int .i64 t, av (rowL Gl t), .int .i64 4] ∧ I (D ++ mF Gl t k f) O' r.h r.c) ∨
       (r.e = .ret ∧ (∃ j : Nat, r.vs = [y, .int .i64 t, v9, v10, .int .i64 t, av (rowL Gl t), .int .i64 j]) ∧ J O' r.h r.c)) := by
  intro k
  induction k with
  | zero =>
    intro f c D O h hf hp hI0
    obtain rfl : f = 4 := by omega
    refine Ans.loop' (fun q r => f77_N77001) (fun q => f77_Z77001) ?_
    unfold f77_L77001
    repeat' (first
     | ((with_reducible first | refine Ans.bz ?_ | refine Ans.r1 ?_ | refine Ans.pkT ?_ | refine Ans.pkF ?_); try dsimp only [v_zero, v_succ])
     | (with_reducible first | refine Ans.btL ?_ | refine Ans.bfL ?_ | refine Ans.gyT ?_ | refine Ans.gyF ?_ | refine Ans.gyG ?_ | refine Ans.bb ?_ | refine Ans.bc ?_ | refine Ans.ba ?_)
     | ((with_reducible first | refine Ans.lsT ?_ ?_ | refine Ans.leT ?_ ?_ | refine Ans.grT ?_ ?_ | refine Ans.geT ?_ ?_ | refine Ans.eqT ?_ ?_ | refine Ans.neT ?_ ?_); (focus omega))
     | ((with_reducible first | refine Ans.lsF ?_ ?_ | refine Ans.leF ?_ ?_ | refine Ans.grF ?_ ?_ | refine Ans.geF ?_ ?_ | refine Ans.eqF ?_ ?_ | refine Ans.neF ?_ ?_); (focus omega))
     | (with_reducible first | refine Ans.lsS (fun _ => ?_) (fun _ => ?_) | refine Ans.leS (fun _ => ?_) (fun _ => ?_) | refine Ans.grS (fun _ => ?_) (fun _ => ?_) | refine Ans.geS (fun _ => ?_) (fun _ => ?_) | refine Ans.eqS (fun _ => ?_) (fun _ => ?_) | refine Ans.neS (fun _ => ?_) (fun _ => ?_))
     | ((with_reducible first | refine Ans.addN ?_ ?_ | refine Ans.add ?_ ?_ | refine Ans.sub ?_ ?_ | refine Ans.mul ?_ ?_); (focus omega))
     | ((with_reducible first | refine Ans.ct ?_ ?_); (focus (simp (disch := (first | omega | with_reducible assumption | (simp <;> omega) | fail)) []; done)))
     | ((with_reducible first | refine Ans.cf ?_ ?_); (focus (simp (disch := (first | omega | with_reducible assumption | (simp <;> omega) | fail)) []; done)))
     | (refine Ans.step (by simp (disch := (first | omega | with_reducible assumption | (simp <;> omega) | fail)) [-List.getD_eq_getElem?_getD] <;> rfl) ?_; try dsimp only [v_zero, v_succ])
     | fail)
    refine Ans.exitN ⟨(by show c ≤ c + 1; omega), rfl, O, fun b hb => .inl hb, fun b _ _ => rfl, .inl ⟨rfl, rfl, ?_⟩⟩
    rw [mF, List.append_nil]
    exact hI.stab _ _ _ _ _ _ hI0 (by show c ≤ c + 1; omega) (fun b _ => rfl)
  | succ k ih =>
    intro f c D O h hf hp hI0
    obtain ⟨R, hp⟩ := hp
    have hf4 : f < 4 := by omega
    have hfl := faceL_length hG ht hf4
    have hrl := rowL_length hG ht
    have x1 := ixV_avs (rowL Gl t) 4 5 .i64 f (by omega) (by omega) hrl
    rw [Int.toNat_natCast, row_face hf4] at x1
    obtain ⟨H, hH⟩ : ∃ H, H = newB h (256 * (c + 1) + 2) (ints (faceL Gl t f)) := ⟨_, rfl⟩
    have hst : stN (newB h (256 * (c + 1) + 2) [.int .i64 0, .int .i64 0, .int .i64 0, .int .i64 0, .int .i64 0]) 5 (.pointer (some ⟨256 * (c + 1) + 2, 0, none⟩)) (av (faceL Gl t f)) = some H := by rw [hH]; exact stN_all _ _ 5 _ _ hfl rfl
    have hh : Holds H (256 * (c + 1) + 2) (ints (faceL Gl t f)) := by rw [hH]; exact Holds.newB_same _ _ _
    have hs : ∀ b, b < 256 * c → H.f b = h.f b := fun b hb => by rw [hH, newB_f, if_neg (by omega)]
    clear hH
    have m0 : ld1 H (.pointer (some ⟨256 * (c + 1) + 2, 0, none⟩)) = some (.int .i64 (tetL (faceL Gl t f))) := by rw [ld1_holds' hh, ints_getD _ _ (by omega)]; rfl
    have m1 : ld1 H (.pointer (some ⟨256 * (c + 1) + 2, 1 + f, none⟩)) = some (.int .i64 ((permL (faceL Gl t f)).getD f 0)) := by
      rw [ld1_holds' hh, ints_getD _ _ (by omega)]
      unfold permL
      rw [getD_take _ _ _ hf4, getD_drop]
    have hsk : mSkip Gl t f = (decide (tetL (faceL Gl t f) < 0) || decide (tetL (faceL Gl t f) < t) || (decide (tetL (faceL Gl t f) = t) && decide ((permL (faceL Gl t f)).getD f 0 < f))) := rfl
    have skip : ∀ c', c ≤ c' → mSkip Gl t f = true → Ans (G (f77_k77001 none) [y, .int .i64 t, v9, v10, .int .i64 t, av (rowL Gl t), .int .i64 (f + 1 : Nat)] H c' df) fun r => c ≤ r.c ∧ r.df = df ∧ ∃ O', (∀ b, O' b → O b ∨ 256 * c ≤ b) ∧ (∀ b, b < 256 * c → ¬ O b → r.h.f b = h.f b) ∧
        ((r.e = .exit 2 ∧ r.vs = [y, .int .i64 t, v9, v10, .int .i64 t, av (rowL Gl t), .int .i64 4] ∧ I (D ++ mF Gl t (k + 1) f) O' r.h r.c) ∨
         (r.e = .ret ∧ (∃ j : Nat, r.vs = [y, .int .i64 t, v9, v10, .int .i64 t, av (rowL Gl t), .int .i64 j]) ∧ J O' r.h r.c)) := by
      intro c' hc' hk
      refine (ih (f + 1) c' D O H (by omega) ⟨R, by rw [mF, if_pos hk, List.nil_append] at hp; exact hp⟩ (hI.stab _ _ _ _ _ _ hI0 hc' hs)).mono ?_
      rintro r ⟨q1, q2, O', q3, q4, q5⟩
      refine ⟨by omega, q2, O', fun b hb => (q3 b hb).imp id (by omega), fun b h1 h2 => by rw [q4 b (by omega) h2, hs b h1], ?_⟩
      rw [mF, if_pos hk, List.nil_append]
      exact q5
    have inner : ∀ c' : Nat, c + 2 ≤ c' → mSkip Gl t f = false → Ans (G (f77_k77002 none) [y, .int .i64 t, .int .i64 f, ptrTo (256 * (c + 1) + 2), v9, v10, .int .i64 t, av (rowL Gl t), .int .i64 f, .int .i64 0] H c' df) fun r => c' ≤ r.c ∧ r.df = df ∧ ∃ O', (∀ b, O' b → O b ∨ 256 * c' ≤ b) ∧ (∀ b, b < 256 * c' → ¬ O b → r.h.f b = H.f b) ∧
        ((r.e = .exit 4 ∧ r.vs = [y, .int .i64 t, .int .i64 f, ptrTo (256 * (c + 1) + 2), v9, v10, .int .i64 t, av (rowL Gl t), .int .i64 f, .int .i64 4] ∧ I (D ++ mI Gl t f 4 0) O' r.h r.c) ∨
         (r.e = .ret ∧ (∃ j : Nat, r.vs = [y, .int .i64 t, .int .i64 f, ptrTo (256 * (c + 1) + 2), v9, v10, .int .i64 t, av (rowL Gl t), .int .i64 f, .int .i64 j]) ∧ J O' r.h r.c)) := fun c' hc' hk =>
      match_i hI t f ht hf4 hk hG (256 * (c + 1) + 2) (.int .i64 t) v9 v10 (av (rowL Gl t)) (.int .i64 f) df 4 0 c' D O H (by omega) ⟨mF Gl t k (f + 1) ++ R, by rw [mF, if_neg (by rw [hk]; simp)] at hp; simpa using hp⟩ (hI.stab _ _ _ _ _ _ hI0 (by omega) hs) (by omega) (fun ho => by have := hI.own _ _ _ _ hI0 _ ho; omega) hh
    obtain ⟨T, hT⟩ : ∃ T, tetL (faceL Gl t f) = T := ⟨_, rfl⟩
    obtain ⟨Y, hY⟩ : ∃ Y, (permL (faceL Gl t f)).getD f 0 = Y := ⟨_, rfl⟩
    rw [hT] at m0 hsk
    rw [hY] at m1 hsk
    refine Ans.loop' (fun q r => f77_N77001) (fun q => f77_Z77001) ?_
    unfold f77_L77001
    repeat' (first
     | ((with_reducible first | refine Ans.bz ?_ | refine Ans.r1 ?_ | refine Ans.pkT ?_ | refine Ans.pkF ?_); try dsimp only [v_zero, v_succ])
     | (with_reducible first | refine Ans.btL ?_ | refine Ans.bfL ?_ | refine Ans.gyT ?_ | refine Ans.gyF ?_ | refine Ans.gyG ?_ | refine Ans.bb ?_ | refine Ans.bc ?_ | refine Ans.ba ?_)
     | ((with_reducible first | refine Ans.lsT ?_ ?_ | refine Ans.leT ?_ ?_ | refine Ans.grT ?_ ?_ | refine Ans.geT ?_ ?_ | refine Ans.eqT ?_ ?_ | refine Ans.neT ?_ ?_); (focus omega))
     | ((with_reducible first | refine Ans.lsF ?_ ?_ | refine Ans.leF ?_ ?_ | refine Ans.grF ?_ ?_ | refine Ans.geF ?_ ?_ | refine Ans.eqF ?_ ?_ | refine Ans.neF ?_ ?_); (focus omega))
     | (with_reducible first | refine Ans.lsS (fun _ => ?_) (fun _ => ?_) | refine Ans.leS (fun _ => ?_) (fun _ => ?_) | refine Ans.grS (fun _ => ?_) (fun _ => ?_) | refine Ans.geS (fun _ => ?_) (fun _ => ?_) | refine Ans.eqS (fun _ => ?_) (fun _ => ?_) | refine Ans.neS (fun _ => ?_) (fun _ => ?_))
     | ((with_reducible first | refine Ans.addN ?_ ?_ | refine Ans.add ?_ ?_ | refine Ans.sub ?_ ?_ | refine Ans.mul ?_ ?_); (focus omega))
     | ((with_reducible first | refine Ans.ct ?_ ?_); (focus (simp (disch := (first | omega | with_reducible assumption | (simp <;> omega) | fail)) [x1, hst, m0, m1]; done)))
     | ((with_reducible first | refine Ans.cf ?_ ?_); (focus (simp (disch := (first | omega | with_reducible assumption | (simp <;> omega) | fail)) [x1, hst, m0, m1]; done)))
     | (refine Ans.step (by simp (disch := (first | omega | with_reducible assumption | (simp <;> omega) | fail)) [x1, hst, m0, m1, -List.getD_eq_getElem?_getD] <;> rfl) ?_; try dsimp only [v_zero, v_succ])
     | fail)
    all_goals first
      | exact Ans.nextN (skip _ (by omega) (by rw [hsk]; simp [*]))
      | skip
    all_goals
      have hk : mSkip Gl t f = false := by rw [hsk]; simp [*]
      refine Ans.head (inner _ (by omega) hk) ?_
      rintro ⟨re, rv, rh, rc, rd⟩ ⟨q1, q2, O', q3, q4, q5⟩
      simp only at q1 q2 q4 q5
      subst q2
      rcases q5 with ⟨rfl, rfl, q6⟩ | ⟨rfl, ⟨j, rfl⟩, q6⟩
      · repeat' (first
         | ((with_reducible first | refine Ans.bz ?_ | refine Ans.r1 ?_ | refine Ans.pkT ?_ | refine Ans.pkF ?_); try dsimp only [v_zero, v_succ])
         | (with_reducible first | refine Ans.btL ?_ | refine Ans.bfL ?_ | refine Ans.gyT ?_ | refine Ans.gyF ?_ | refine Ans.gyG ?_ | refine Ans.bb ?_ | refine Ans.bc ?_ | refine Ans.ba ?_)
         | ((with_reducible first | refine Ans.lsT ?_ ?_ | refine Ans.leT ?_ ?_ | refine Ans.grT ?_ ?_ | refine Ans.geT ?_ ?_ | refine Ans.eqT ?_ ?_ | refine Ans.neT ?_ ?_); (focus omega))
         | ((with_reducible first | refine Ans.lsF ?_ ?_ | refine Ans.leF ?_ ?_ | refine Ans.grF ?_ ?_ | refine Ans.geF ?_ ?_ | refine Ans.eqF ?_ ?_ | refine Ans.neF ?_ ?_); (focus omega))
         | (with_reducible first | refine Ans.lsS (fun _ => ?_) (fun _ => ?_) | refine Ans.leS (fun _ => ?_) (fun _ => ?_) | refine Ans.grS (fun _ => ?_) (fun _ => ?_) | refine Ans.geS (fun _ => ?_) (fun _ => ?_) | refine Ans.eqS (fun _ => ?_) (fun _ => ?_) | refine Ans.neS (fun _ => ?_) (fun _ => ?_))
         | ((with_reducible first | refine Ans.addN ?_ ?_ | refine Ans.add ?_ ?_ | refine Ans.sub ?_ ?_ | refine Ans.mul ?_ ?_); (focus omega))
         | ((with_reducible first | refine Ans.ct ?_ ?_); (focus (simp (disch := (first | omega | with_reducible assumption | (simp <;> omega) | fail)) []; done)))
         | ((with_reducible first | refine Ans.cf ?_ ?_); (focus (simp (disch := (first | omega | with_reducible assumption | (simp <;> omega) | fail)) []; done)))
         | (refine Ans.step (by simp (disch := (first | omega | with_reducible assumption | (simp <;> omega) | fail)) [-List.getD_eq_getElem?_getD] <;> rfl) ?_; try dsimp only [v_zero, v_succ])
         | fail)
        refine Ans.nextN ?_
        refine (ih (f + 1) _ (D ++ mI Gl t f 4 0) O' rh (by omega) ⟨R, by rw [mF, if_neg (by rw [hk]; simp)] at hp; simpa using hp⟩ (hI.stab _ _ _ _ _ _ q6 (by omega) (fun b _ => rfl))).mono ?_
        rintro r ⟨w1, w2, O2, w3, w4, w5⟩
        refine ⟨by omega, w2, O2, fun b hb => ?_, fun b h1 h2 => ?_, ?_⟩
        · rcases w3 b hb with h1 | h1
          · exact (q3 b h1).imp id (by omega)
          · exact .inr (by omega)
        · rw [w4 b (by omega) (fun ho => (q3 b ho).elim h2 (by omega)), q4 b (by omega) h2, hs b h1]
        · rw [mF, if_neg (by rw [hk]; simp)]
          rw [List.append_assoc] at w5
          exact w5
      · repeat' (first
         | ((with_reducible first | refine Ans.bz ?_ | refine Ans.r1 ?_ | refine Ans.pkT ?_ | refine Ans.pkF ?_); try dsimp only [v_zero, v_succ])
         | (with_reducible first | refine Ans.btL ?_ | refine Ans.bfL ?_ | refine Ans.gyT ?_ | refine Ans.gyF ?_ | refine Ans.gyG ?_ | refine Ans.bb ?_ | refine Ans.bc ?_ | refine Ans.ba ?_)
         | ((with_reducible first | refine Ans.lsT ?_ ?_ | refine Ans.leT ?_ ?_ | refine Ans.grT ?_ ?_ | refine Ans.geT ?_ ?_ | refine Ans.eqT ?_ ?_ | refine Ans.neT ?_ ?_); (focus omega))
         | ((with_reducible first | refine Ans.lsF ?_ ?_ | refine Ans.leF ?_ ?_ | refine Ans.grF ?_ ?_ | refine Ans.geF ?_ ?_ | refine Ans.eqF ?_ ?_ | refine Ans.neF ?_ ?_); (focus omega))
         | (with_reducible first | refine Ans.lsS (fun _ => ?_) (fun _ => ?_) | refine Ans.leS (fun _ => ?_) (fun _ => ?_) | refine Ans.grS (fun _ => ?_) (fun _ => ?_) | refine Ans.geS (fun _ => ?_) (fun _ => ?_) | refine Ans.eqS (fun _ => ?_) (fun _ => ?_) | refine Ans.neS (fun _ => ?_) (fun _ => ?_))
         | ((with_reducible first | refine Ans.addN ?_ ?_ | refine Ans.add ?_ ?_ | refine Ans.sub ?_ ?_ | refine Ans.mul ?_ ?_); (focus omega))
         | ((with_reducible first | refine Ans.ct ?_ ?_); (focus (simp (disch := (first | omega | with_reducible assumption | (simp <;> omega) | fail)) []; done)))
         | ((with_reducible first | refine Ans.cf ?_ ?_); (focus (simp (disch := (first | omega | with_reducible assumption | (simp <;> omega) | fail)) []; done)))
         | (refine Ans.step (by simp (disch := (first | omega | with_reducible assumption | (simp <;> omega) | fail)) [-List.getD_eq_getElem?_getD] <;> rfl) ?_; try dsimp only [v_zero, v_succ])
         | fail)
        exact Ans.retN ⟨(by show c ≤ rc; omega), rfl, O', fun b hb => (q3 b hb).imp id (by omega), fun b h1 h2 => by show rh.f b = h.f b; rw [q4 b (by omega) h2, hs b h1], .inr ⟨rfl, ⟨f, rfl⟩, q6⟩⟩

set_option maxHeartbeats 1000000 in
theorem match_t (hI : MatchI y s n Gl gb I J) (hn : n ≤ 1000000) (hG : Gl.length = n * 20) (df : List Nat) :
    ∀ (k t c : Nat) (D : List (List Int)) (O : Nat → Prop) (h : FH), t + k = n → D ++ mT Gl k t = allM Gl n → I D O h c →
    Ans (G (f77_k77000 none) [y, s, .int .i64 n, .int .i64 t] h c df) fun r => c ≤ r.c ∧ r.df = df ∧ ∃ O', (∀ b, O' b → O b ∨ 256 * c ≤ b) ∧ (∀ b, b < 256 * c → ¬ O b → r.h.f b = h.f b) ∧
      ((r.e = .exit 0 ∧ I (D ++ mT Gl k t) O' r.h r.c) ∨ (r.e = .ret ∧ J O' r.h r.c)) := by
  intro k
  induction k with
  | zero =>
    intro t c D O h ht hp hI0
    obtain rfl : t = n := by omega
    refine Ans.loop' (fun q r => f77_N77000) (fun q => f77_Z77000) ?_
    unfold f77_L77000
    repeat' (first
     | ((with_reducible first | refine Ans.bz ?_ | refine Ans.r1 ?_ | refine Ans.pkT ?_ | refine Ans.pkF ?_); try dsimp only [v_zero, v_succ])
     | (with_reducible first | refine Ans.btL ?_ | refine Ans.bfL ?_ | refine Ans.gyT ?_ | refine Ans.gyF ?_ | refine Ans.gyG ?_ | refine Ans.bb ?_ | refine Ans.bc ?_ | refine Ans.ba ?_)
     | ((with_reducible first | refine Ans.lsT ?_ ?_ | refine Ans.leT ?_ ?_ | refine Ans.grT ?_ ?_ | refine Ans.geT ?_ ?_ | refine Ans.eqT ?_ ?_ | refine Ans.neT ?_ ?_); (focus omega))
     | ((with_reducible first | refine Ans.lsF ?_ ?_ | refine Ans.leF ?_ ?_ | refine Ans.grF ?_ ?_ | refine Ans.geF ?_ ?_ | refine Ans.eqF ?_ ?_ | refine Ans.neF ?_ ?_); (focus omega))
     | (with_reducible first | refine Ans.lsS (fun _ => ?_) (fun _ => ?_) | refine Ans.leS (fun _ => ?_) (fun _ => ?_) | refine Ans.grS (fun _ => ?_) (fun _ => ?_) | refine Ans.geS (fun _ => ?_) (fun _ => ?_) | refine Ans.eqS (fun _ => ?_) (fun _ => ?_) | refine Ans.neS (fun _ => ?_) (fun _ => ?_))
     | ((with_reducible first | refine Ans.addN ?_ ?_ | refine Ans.add ?_ ?_ | refine Ans.sub ?_ ?_ | refine Ans.mul ?_ ?_); (focus omega))
     | ((with_reducible first | refine Ans.ct ?_ ?_); (focus (simp (disch := (first | omega | with_reducible assumption | (simp <;> omega) | fail)) []; done)))
     | ((with_reducible first | refine Ans.cf ?_ ?_); (focus (simp (disch := (first | omega | with_reducible assumption | (simp <;> omega) | fail)) []; done)))
     | (refine Ans.step (by simp (disch := (first | omega | with_reducible assumption | (simp <;> omega) | fail)) [-List.getD_eq_getElem?_getD] <;> rfl) ?_; try dsimp only [v_zero, v_succ])
     | fail)
    refine Ans.exitN ⟨(by show c ≤ c + 1; omega), rfl, O, fun b hb => .inl hb, fun b _ _ => rfl, .inl ⟨rfl, ?_⟩⟩
    rw [mT, List.append_nil]
    exact hI.stab _ _ _ _ _ _ hI0 (by show c ≤ c + 1; omega) (fun b _ => rfl)
  | succ k ih =>
    intro t c D O h ht hp hI0
    have htn : t < n := by omega
    have hrl := rowL_length hG htn
    obtain ⟨hgb, hs0⟩ := hI.read _ _ _ _ hI0
    have l1 := hs0.row t (by omega) (by omega)
    simp only [Int.toNat_natCast] at l1
    obtain ⟨H, hH⟩ : ∃ H, H = newB h (256 * (c + 1) + 3) (ints (rowL Gl t)) := ⟨_, rfl⟩
    have hst : stN (newB h (256 * (c + 1) + 3) [(.int .i64 0), (.int .i64 0), (.int .i64 0), (.int .i64 0), (.int .i64 0), (.int .i64 0), (.int .i64 0), (.int .i64 0), (.int .i64 0), (.int .i64 0), (.int .i64 0), (.int .i64 0), (.int .i64 0), (.int .i64 0), (.int .i64 0), (.int .i64 0), (.int .i64 0), (.int .i64 0), (.int .i64 0), (.int .i64 0)]) 20 (.pointer (some ⟨256 * (c + 1) + 3, 0, none⟩)) (av (rowL Gl t)) = some H := by rw [hH]; exact stN_all _ _ 20 _ _ hrl rfl
    have hld : ldN H 20 (.pointer (some ⟨256 * (c + 1) + 3, 0, none⟩)) = some (av (rowL Gl t)) := by
      rw [hH, ldN_newB_same _ _ _ _ _ (by simp [hrl]), List.drop_zero, List.take_of_length_le (by simp [hrl])]; rfl
    have hs : ∀ b, b < 256 * c → H.f b = h.f b := fun b hb => by rw [hH, newB_f, if_neg (by omega)]
    clear hH
    have inner := match_f hI t htn hn hG s (.int .i64 n) df 4 0 (c + 1 + 1 + 1) D O H (by omega) ⟨mT Gl k (t + 1), by rw [mT] at hp; exact hp⟩ (hI.stab _ _ _ _ _ _ hI0 (by omega) hs)
    refine Ans.loop' (fun q r => f77_N77000) (fun q => f77_Z77000) ?_
    unfold f77_L77000
    repeat' (first
     | ((with_reducible first | refine Ans.bz ?_ | refine Ans.r1 ?_ | refine Ans.pkT ?_ | refine Ans.pkF ?_); try dsimp only [v_zero, v_succ])
     | (with_reducible first | refine Ans.btL ?_ | refine Ans.bfL ?_ | refine Ans.gyT ?_ | refine Ans.gyF ?_ | refine Ans.gyG ?_ | refine Ans.bb ?_ | refine Ans.bc ?_ | refine Ans.ba ?_)
     | ((with_reducible first | refine Ans.lsT ?_ ?_ | refine Ans.leT ?_ ?_ | refine Ans.grT ?_ ?_ | refine Ans.geT ?_ ?_ | refine Ans.eqT ?_ ?_ | refine Ans.neT ?_ ?_); (focus omega))
     | ((with_reducible first | refine Ans.lsF ?_ ?_ | refine Ans.leF ?_ ?_ | refine Ans.grF ?_ ?_ | refine Ans.geF ?_ ?_ | refine Ans.eqF ?_ ?_ | refine Ans.neF ?_ ?_); (focus omega))
     | (with_reducible first | refine Ans.lsS (fun _ => ?_) (fun _ => ?_) | refine Ans.leS (fun _ => ?_) (fun _ => ?_) | refine Ans.grS (fun _ => ?_) (fun _ => ?_) | refine Ans.geS (fun _ => ?_) (fun _ => ?_) | refine Ans.eqS (fun _ => ?_) (fun _ => ?_) | refine Ans.neS (fun _ => ?_) (fun _ => ?_))
     | ((with_reducible first | refine Ans.addN ?_ ?_ | refine Ans.add ?_ ?_ | refine Ans.sub ?_ ?_ | refine Ans.mul ?_ ?_); (focus omega))
     | ((with_reducible first | refine Ans.ct ?_ ?_); (focus (simp (disch := (first | omega | with_reducible assumption | (simp <;> omega) | fail)) [hs0.ixs, l1, hst, hld]; done)))
     | ((with_reducible first | refine Ans.cf ?_ ?_); (focus (simp (disch := (first | omega | with_reducible assumption | (simp <;> omega) | fail)) [hs0.ixs, l1, hst, hld]; done)))
     | (refine Ans.step (by simp (disch := (first | omega | with_reducible assumption | (simp <;> omega) | fail)) [hs0.ixs, l1, hst, hld, -List.getD_eq_getElem?_getD] <;> rfl) ?_; try dsimp only [v_zero, v_succ])
     | fail)
    refine Ans.head inner ?_
    rintro ⟨re, rv, rh, rc, rd⟩ ⟨q1, q2, O', q3, q4, q5⟩
    simp only at q1 q2 q4 q5
    subst q2
    rcases q5 with ⟨rfl, rfl, q6⟩ | ⟨rfl, ⟨j, rfl⟩, q6⟩
    · repeat' (first
       | ((with_reducible first | refine Ans.bz ?_ | refine Ans.r1 ?_ | refine Ans.pkT ?_ | refine Ans.pkF ?_); try dsimp only [v_zero, v_succ])
       | (with_reducible first | refine Ans.btL ?_ | refine Ans.bfL ?_ | refine Ans.gyT ?_ | refine Ans.gyF ?_ | refine Ans.gyG ?_ | refine Ans.bb ?_ | refine Ans.bc ?_ | refine Ans.ba ?_)
       | ((with_reducible first | refine Ans.lsT ?_ ?_ | refine Ans.leT ?_ ?_ | refine Ans.grT ?_ ?_ | refine Ans.geT ?_ ?_ | refine Ans.eqT ?_ ?_ | refine Ans.neT ?_ ?_); (focus omega))
       | ((with_reducible first | refine Ans.lsF ?_ ?_ | refine Ans.leF ?_ ?_ | refine Ans.grF ?_ ?_ | refine Ans.geF ?_ ?_ | refine Ans.eqF ?_ ?_ | refine Ans.neF ?_ ?_); (focus omega))
       | (with_reducible first | refine Ans.lsS (fun _ => ?_) (fun _ => ?_) | refine Ans.leS (fun _ => ?_) (fun _ => ?_) | refine Ans.grS (fun _ => ?_) (fun _ => ?_) | refine Ans.geS (fun _ => ?_) (fun _ => ?_) | refine Ans.eqS (fun _ => ?_) (fun _ => ?_) | refine Ans.neS (fun _ => ?_) (fun _ => ?_))
       | ((with_reducible first | refine Ans.addN ?_ ?_ | refine Ans.add ?_ ?_ | refine Ans.sub ?_ ?_ | refine Ans.mul ?_ ?_); (focus omega))
       | ((with_reducible first | refine Ans.ct ?_ ?_); (focus (simp (disch := (first | omega | with_reducible assumption | (simp <;> omega) | fail)) []; done)))
       | ((with_reducible first | refine Ans.cf ?_ ?_); (focus (simp (disch := (first | omega | with_reducible assumption | (simp <;> omega) | fail)) []; done)))
       | (refine Ans.step (by simp (disch := (first | omega | with_reducible assumption | (simp <;> omega) | fail)) [-List.getD_eq_getElem?_getD] <;> rfl) ?_; try dsimp only [v_zero, v_succ])
       | fail)
      refine Ans.nextN ?_
      refine (ih (t + 1) _ (D ++ mF Gl t 4 0) O' rh (by omega) (by rw [mT] at hp; simpa using hp) (hI.stab _ _ _ _ _ _ q6 (by omega) (fun b _ => rfl))).mono ?_
      rintro r ⟨w1, w2, O2, w3, w4, w5⟩
      refine ⟨by omega, w2, O2, fun b hb => ?_, fun b h1 h2 => ?_, ?_⟩
      · rcases w3 b hb with h1 | h1
        · exact (q3 b h1).imp id (by omega)
        · exact .inr (by omega)
      · rw [w4 b (by omega) (fun ho => (q3 b ho).elim h2 (by omega)), q4 b (by omega) h2, hs b h1]
      · rw [mT]
        rw [List.append_assoc] at w5
        exact w5
    · repeat' (first
       | ((with_reducible first | refine Ans.bz ?_ | refine Ans.r1 ?_ | refine Ans.pkT ?_ | refine Ans.pkF ?_); try dsimp only [v_zero, v_succ])
       | (with_reducible first | refine Ans.btL ?_ | refine Ans.bfL ?_ | refine Ans.gyT ?_ | refine Ans.gyF ?_ | refine Ans.gyG ?_ | refine Ans.bb ?_ | refine Ans.bc ?_ | refine Ans.ba ?_)
       | ((with_reducible first | refine Ans.lsT ?_ ?_ | refine Ans.leT ?_ ?_ | refine Ans.grT ?_ ?_ | refine Ans.geT ?_ ?_ | refine Ans.eqT ?_ ?_ | refine Ans.neT ?_ ?_); (focus omega))
       | ((with_reducible first | refine Ans.lsF ?_ ?_ | refine Ans.leF ?_ ?_ | refine Ans.grF ?_ ?_ | refine Ans.geF ?_ ?_ | refine Ans.eqF ?_ ?_ | refine Ans.neF ?_ ?_); (focus omega))
       | (with_reducible first | refine Ans.lsS (fun _ => ?_) (fun _ => ?_) | refine Ans.leS (fun _ => ?_) (fun _ => ?_) | refine Ans.grS (fun _ => ?_) (fun _ => ?_) | refine Ans.geS (fun _ => ?_) (fun _ => ?_) | refine Ans.eqS (fun _ => ?_) (fun _ => ?_) | refine Ans.neS (fun _ => ?_) (fun _ => ?_))
       | ((with_reducible first | refine Ans.addN ?_ ?_ | refine Ans.add ?_ ?_ | refine Ans.sub ?_ ?_ | refine Ans.mul ?_ ?_); (focus omega))
       | ((with_reducible first | refine Ans.ct ?_ ?_); (focus (simp (disch := (first | omega | with_reducible assumption | (simp <;> omega) | fail)) []; done)))
       | ((with_reducible first | refine Ans.cf ?_ ?_); (focus (simp (disch := (first | omega | with_reducible assumption | (simp <;> omega) | fail)) []; done)))
       | (refine Ans.step (by simp (disch := (first | omega | with_reducible assumption | (simp <;> omega) | fail)) [-List.getD_eq_getElem?_getD] <;> rfl) ?_; try dsimp only [v_zero, v_succ])
       | fail)
      exact Ans.retN ⟨(by show c ≤ rc; omega), rfl, O', fun b hb => (q3 b hb).imp id (by omega), fun b h1 h2 => by show rh.f b = h.f b; rw [q4 b (by omega) h2, hs b h1], .inr ⟨rfl, q6⟩⟩

theorem matches_sp (hI : MatchI y s n Gl gb I J) (hn : n ≤ 1000000) {O : Nat → Prop} {h : FH} {c : Nat} (hI0 : I [] O h c) (df : List Nat) :
    Ans (G (.fn 77) [y, ptrTo gb] h c df) fun r => r.e = .ret ∧ r.vs = [.tuple #[]] ∧ r.df = [] ∧ c ≤ r.c ∧ ∃ O', (∀ b, O' b → O b ∨ 256 * c ≤ b) ∧ (∀ b, b < 256 * c → ¬ O b → r.h.f b = h.f b) ∧ (I (allM Gl n) O' r.h r.c ∨ J O' r.h r.c) := by
  refine Ans.call' (fun r e => f77_go e) ?_
  obtain ⟨hgb, hs0⟩ := hI.read _ _ _ _ hI0
  have hlen := hs0.len
  have e2 : ld1 h (.pointer (some ⟨gb, 0, none⟩)) = some s := by rw [ld1_holds' hgb]; rfl
  have inner := match_t hI hn hs0.1 [] n 0 (c + 1) [] O h (by omega) rfl (hI.stab _ _ _ _ _ _ hI0 (by omega) (fun b _ => rfl))
  simp only [Int.ofNat_eq_natCast, Int.cast_ofNat_Int] at inner
  unfold f77_S
  repeat' (first
   | ((with_reducible first | refine Ans.bz ?_ | refine Ans.r1 ?_ | refine Ans.pkT ?_ | refine Ans.pkF ?_); try dsimp only [v_zero, v_succ])
   | (with_reducible first | refine Ans.btL ?_ | refine Ans.bfL ?_ | refine Ans.gyT ?_ | refine Ans.gyF ?_ | refine Ans.gyG ?_ | refine Ans.bb ?_ | refine Ans.bc ?_ | refine Ans.ba ?_)
   | ((with_reducible first | refine Ans.lsT ?_ ?_ | refine Ans.leT ?_ ?_ | refine Ans.grT ?_ ?_ | refine Ans.geT ?_ ?_ | refine Ans.eqT ?_ ?_ | refine Ans.neT ?_ ?_); (focus omega))
   | ((with_reducible first | refine Ans.lsF ?_ ?_ | refine Ans.leF ?_ ?_ | refine Ans.grF ?_ ?_ | refine Ans.geF ?_ ?_ | refine Ans.eqF ?_ ?_ | refine Ans.neF ?_ ?_); (focus omega))
   | (with_reducible first | refine Ans.lsS (fun _ => ?_) (fun _ => ?_) | refine Ans.leS (fun _ => ?_) (fun _ => ?_) | refine Ans.grS (fun _ => ?_) (fun _ => ?_) | refine Ans.geS (fun _ => ?_) (fun _ => ?_) | refine Ans.eqS (fun _ => ?_) (fun _ => ?_) | refine Ans.neS (fun _ => ?_) (fun _ => ?_))
   | ((with_reducible first | refine Ans.addN ?_ ?_ | refine Ans.add ?_ ?_ | refine Ans.sub ?_ ?_ | refine Ans.mul ?_ ?_); (focus omega))
   | ((with_reducible first | refine Ans.ct ?_ ?_); (focus (simp (disch := (first | omega | with_reducible assumption | (simp <;> omega) | fail)) [hlen, e2]; done)))
   | ((with_reducible first | refine Ans.cf ?_ ?_); (focus (simp (disch := (first | omega | with_reducible assumption | (simp <;> omega) | fail)) [hlen, e2]; done)))
   | (refine Ans.step (by simp (disch := (first | omega | with_reducible assumption | (simp <;> omega) | fail)) [hlen, e2, -List.getD_eq_getElem?_getD] <;> rfl) ?_; try dsimp only [v_zero, v_succ])
   | fail)
  refine Ans.head inner ?_
  rintro ⟨re, rv, rh, rc, rd⟩ ⟨q1, q2, O', q3, q4, q5⟩
  simp only at q1 q2 q4 q5
  subst q2
  rcases q5 with ⟨rfl, q6⟩ | ⟨rfl, q6⟩
  · repeat' (first
     | ((with_reducible first | refine Ans.bz ?_ | refine Ans.r1 ?_ | refine Ans.pkT ?_ | refine Ans.pkF ?_); try dsimp only [v_zero, v_succ])
     | (with_reducible first | refine Ans.btL ?_ | refine Ans.bfL ?_ | refine Ans.gyT ?_ | refine Ans.gyF ?_ | refine Ans.gyG ?_ | refine Ans.bb ?_ | refine Ans.bc ?_ | refine Ans.ba ?_)
     | ((with_reducible first | refine Ans.lsT ?_ ?_ | refine Ans.leT ?_ ?_ | refine Ans.grT ?_ ?_ | refine Ans.geT ?_ ?_ | refine Ans.eqT ?_ ?_ | refine Ans.neT ?_ ?_); (focus omega))
     | ((with_reducible first | refine Ans.lsF ?_ ?_ | refine Ans.leF ?_ ?_ | refine Ans.grF ?_ ?_ | refine Ans.geF ?_ ?_ | refine Ans.eqF ?_ ?_ | refine Ans.neF ?_ ?_); (focus omega))
     | (with_reducible first | refine Ans.lsS (fun _ => ?_) (fun _ => ?_) | refine Ans.leS (fun _ => ?_) (fun _ => ?_) | refine Ans.grS (fun _ => ?_) (fun _ => ?_) | refine Ans.geS (fun _ => ?_) (fun _ => ?_) | refine Ans.eqS (fun _ => ?_) (fun _ => ?_) | refine Ans.neS (fun _ => ?_) (fun _ => ?_))
     | ((with_reducible first | refine Ans.addN ?_ ?_ | refine Ans.add ?_ ?_ | refine Ans.sub ?_ ?_ | refine Ans.mul ?_ ?_); (focus omega))
     | ((with_reducible first | refine Ans.ct ?_ ?_); (focus (simp (disch := (first | omega | with_reducible assumption | (simp <;> omega) | fail)) []; done)))
     | ((with_reducible first | refine Ans.cf ?_ ?_); (focus (simp (disch := (first | omega | with_reducible assumption | (simp <;> omega) | fail)) []; done)))
     | (refine Ans.step (by simp (disch := (first | omega | with_reducible assumption | (simp <;> omega) | fail)) [-List.getD_eq_getElem?_getD] <;> rfl) ?_; try dsimp only [v_zero, v_succ])
     | fail)
    exact .done ⟨rfl, rfl, rfl, (by show c ≤ rc; omega), O', fun b hb => (q3 b hb).imp id (by omega), fun b h1 h2 => q4 b (by omega) h2, .inl q6⟩
  · repeat' (first
     | ((with_reducible first | refine Ans.bz ?_ | refine Ans.r1 ?_ | refine Ans.pkT ?_ | refine Ans.pkF ?_); try dsimp only [v_zero, v_succ])
     | (with_reducible first | refine Ans.btL ?_ | refine Ans.bfL ?_ | refine Ans.gyT ?_ | refine Ans.gyF ?_ | refine Ans.gyG ?_ | refine Ans.bb ?_ | refine Ans.bc ?_ | refine Ans.ba ?_)
     | ((with_reducible first | refine Ans.lsT ?_ ?_ | refine Ans.leT ?_ ?_ | refine Ans.grT ?_ ?_ | refine Ans.geT ?_ ?_ | refine Ans.eqT ?_ ?_ | refine Ans.neT ?_ ?_); (focus omega))
     | ((with_reducible first | refine Ans.lsF ?_ ?_ | refine Ans.leF ?_ ?_ | refine Ans.grF ?_ ?_ | refine Ans.geF ?_ ?_ | refine Ans.eqF ?_ ?_ | refine Ans.neF ?_ ?_); (focus omega))
     | (with_reducible first | refine Ans.lsS (fun _ => ?_) (fun _ => ?_) | refine Ans.leS (fun _ => ?_) (fun _ => ?_) | refine Ans.grS (fun _ => ?_) (fun _ => ?_) | refine Ans.geS (fun _ => ?_) (fun _ => ?_) | refine Ans.eqS (fun _ => ?_) (fun _ => ?_) | refine Ans.neS (fun _ => ?_) (fun _ => ?_))
     | ((with_reducible first | refine Ans.addN ?_ ?_ | refine Ans.add ?_ ?_ | refine Ans.sub ?_ ?_ | refine Ans.mul ?_ ?_); (focus omega))
     | ((with_reducible first | refine Ans.ct ?_ ?_); (focus (simp (disch := (first | omega | with_reducible assumption | (simp <;> omega) | fail)) []; done)))
     | ((with_reducible first | refine Ans.cf ?_ ?_); (focus (simp (disch := (first | omega | with_reducible assumption | (simp <;> omega) | fail)) []; done)))
     | (refine Ans.step (by simp (disch := (first | omega | with_reducible assumption | (simp <;> omega) | fail)) [-List.getD_eq_getElem?_getD] <;> rfl) ?_; try dsimp only [v_zero, v_succ])
     | fail)
    exact .done ⟨rfl, rfl, rfl, (by show c ≤ rc; omega), O', fun b hb => (q3 b hb).imp id (by omega), fun b h1 h2 => q4 b (by omega) h2, .inr q6⟩
end Go.Proofs.Ytcnndelmnobigaa

namespace Go.Proofs.Ytcnndelmnobigaa
open Go Go.Ab Go.Proofs
set_option maxRecDepth 100000
set_option linter.unusedVariables false
set_option linter.unusedSimpArgs false

structure RoundI (s : Value) (n : Nat) (Gl : List Int) (gb l cl : Nat) (st : ALoop) (pe : Option Code) (vs : List Value) (I : List (List Int) → (Nat → Prop) → FH → Nat → Prop) (J : (Nat → Prop) → FH → Nat → Prop) : Prop where
  stab : ∀ D O h c h' c', I D O h c → c ≤ c' → (∀ b, b < 256 * c → b ≠ l → h'.f b = h.f b) → I D O h' c'
  jstab : ∀ O h c h' c', J O h c → c ≤ c' → (∀ b, b < 256 * c → b ≠ l → h'.f b = h.f b) → J O h' c'
  own : ∀ D O h c, I D O h c → ∀ b, O b → b < 256 * c
  ownJ : ∀ O h c, J O h c → ∀ b, O b → b < 256 * c
  read : ∀ D O h c, I D O h c → Holds h gb [s] ∧ SlI h c s 20 n Gl
  step : ∀ D O h c t f i, t < n → f < 4 → i < 4 → i ≠ f → mSkip Gl t f = false → (∃ R, D ++ (mRow Gl t f i :: R) = allM Gl n) → cl ≤ c → I D O h c → h.f l = some (.loop st) →
    Ans (G (.rnd st.nt st.lin st.fr st.params l st.assign st.body) (av (mRow Gl t f i) :: vs) h c []) (fun r => c ≤ r.c ∧ ∃ O', (∀ b, O' b → O b ∨ 256 * c ≤ b) ∧ (∀ b, b < 256 * c → ¬ O b → b ≠ l → r.h.f b = h.f b) ∧
      ((r.vs = [.bool true] ∧ r.h.f l = some (.loop st) ∧ I (D ++ [mRow Gl t f i]) O' r.h r.c) ∨ (r.vs = [.bool false] ∧ r.h.f l = some (.loop { st with state := .done, pending := pe }) ∧ J O' r.h r.c)))

theorem range_matches {s : Value} {n : Nat} {Gl : List Int} {gb nt : Nat} {lin : List Nat} {p : Nat} {a b : ACode} {vs : List Value} {h : FH} {c : Nat} {df : List Nat} {pe : Option Code} {ex : Ex} {I : List (List Int) → (Nat → Prop) → FH → Nat → Prop} {J : (Nat → Prop) → FH → Nat → Prop}
    (hn : n ≤ 1000000) (hp : p < nt) (hex : exOf pe = some ex)
    (hI : RoundI s n Gl gb (256 * c) (c + 1) (entryL nt lin #[p] a b vs (256 * c + 1)) pe vs I J) {O : Nat → Prop} (hO : ∀ b, O b → b < 256 * c)
    (hI0 : I [] O (entryH h c nt lin #[p] a b vs) (c + 1)) :
    Ans (rangeV G nt none lin [] #[p] a b (.func (.func 77) [].toArray [ptrTo gb].toArray) vs h c df) fun q =>
      ∃ rh O', q.2 = (HeapC.del rh (256 * c), q.2.2.1, (256 * c + 1) :: df) ∧ c + 1 ≤ q.2.2.1 ∧ rh.f (256 * c + 1) = some .dfr ∧ (∀ b, O' b → O b ∨ 256 * c ≤ b) ∧ (∀ b, b < 256 * c → ¬ O b → rh.f b = h.f b) ∧
        ((q.1 = .normal ∧ I (allM Gl n) O' rh q.2.2.1) ∨ (q.1 = ex ∧ J O' rh q.2.2.1)) := by
  obtain ⟨st, hst⟩ : ∃ st, st = entryL nt lin #[p] a b vs (256 * c + 1) := ⟨_, rfl⟩
  obtain ⟨l, hl⟩ : ∃ l, l = 256 * c := ⟨_, rfl⟩
  rw [← hst, ← hl] at hI
  have hst1 : st.state = .ready := by rw [hst]; rfl
  have hst2 : st.vals = vs := by rw [hst]; rfl
  have hst4 : st.pending = none := by rw [hst]; rfl
  have hst3 : (Nat.beq [av ([] : List Int)].length st.params.length && nodupB st.params && st.params.all (Nat.blt · st.nt)) = true := by
    have : Nat.blt p nt = true := by rw [Nat.blt_eq]; exact hp
    rw [hst]; simp [entryL, nodupB, this]
  have hM : MatchI (.func (.yield l) #[] #[]) s n Gl gb
      (fun D O h c' => c + 1 ≤ c' ∧ h.f l = some (.loop st) ∧ ∃ O1 : Nat → Prop, (∀ b, O b ↔ O1 b ∨ b = l) ∧ ¬ O1 (l + 1) ∧ I D O1 h c')
      (fun O h c' => c + 1 ≤ c' ∧ h.f l = some (.loop { st with state := .done, pending := pe }) ∧ ∃ O1 : Nat → Prop, (∀ b, O b ↔ O1 b ∨ b = l) ∧ ¬ O1 (l + 1) ∧ J O1 h c') := by
    refine ⟨fun D O h c1 h' c2 ⟨g1, g2, O1, g3, g4, g5⟩ hc hs => ⟨by omega, (hs l (by omega)).trans g2, O1, g3, g4, hI.stab _ _ _ _ _ _ g5 hc (fun b hb _ => hs b hb)⟩,
      fun O h c1 h' c2 ⟨g1, g2, O1, g3, g4, g5⟩ hc hs => ⟨by omega, (hs l (by omega)).trans g2, O1, g3, g4, hI.jstab _ _ _ _ _ g5 hc (fun b hb _ => hs b hb)⟩, ?_, fun D O h c1 ⟨g1, g2, O1, g3, g4, g5⟩ => hI.read _ _ _ _ g5, ?_⟩
    · rintro D O h c1 ⟨g1, g2, O1, g3, g4, g5⟩ b hb
      rcases (g3 b).1 hb with h1 | h1
      · exact hI.own _ _ _ _ g5 b h1
      · omega
    · rintro D O h c1 t f i ht hf hi hif hsk hpre ⟨g1, g2, O1, g3, g4, g5⟩
      refine callV_yield (st := st) g2 hst1 hst3 ?_
      obtain ⟨r, hr, q1, O2, q2, q3, q4⟩ := hI.step D O1 h c1 t f i ht hf hi hif hsk hpre g1 g5 g2
      rw [hst2]
      have k1 : ∀ b, O2 b ∨ b = l → O b ∨ 256 * c1 ≤ b := fun b hb => by
        rcases hb with hb | hb
        · exact (q2 b hb).imp (fun h => (g3 b).2 (.inl h)) id
        · exact .inl ((g3 b).2 (.inr hb))
      have k2 : ∀ b, b < 256 * c1 → ¬ O b → r.h.f b = h.f b := fun b h1 h2 => q3 b h1 (fun ho => h2 ((g3 b).2 (.inl ho))) (fun e => h2 ((g3 b).2 (.inr e)))
      have k3 : ¬ O2 (l + 1) := fun ho => (q2 _ ho).elim g4 (by omega)
      rcases q4 with ⟨w1, w2, w3⟩ | ⟨w1, w2, w3⟩
      · exact .intro hr ⟨_, w1, q1, fun b => O2 b ∨ b = l, k1, k2, .inl ⟨rfl, by show c + 1 ≤ r.c; omega, w2, O2, fun b => Iff.rfl, k3, w3⟩⟩
      · rw [hst2] at w2
        exact .intro hr ⟨_, w1, q1, fun b => O2 b ∨ b = l, k1, k2, .inr ⟨rfl, by show c + 1 ≤ r.c; omega, w2, O2, fun b => Iff.rfl, k3, w3⟩⟩
  have hE0 : (entryH h c nt lin #[p] a b vs).f l = some (.loop st) := by rw [entryH_f, if_pos hl, hst]
  have hE1 : (entryH h c nt lin #[p] a b vs).f (l + 1) = some .dfr := by rw [entryH_f, if_neg (by omega), if_pos (by omega)]
  obtain ⟨⟨re, rv, rh, rc, rd⟩, hr, r1, r2, r3, r4, O', r5, r6, r7⟩ := matches_sp hM hn (O := fun b => O b ∨ b = l) (h := entryH h c nt lin #[p] a b vs) (c := c + 1) ⟨Nat.le_refl _, hE0, O, fun b => Iff.rfl, fun ho => by have := hO _ ho; omega, hI0⟩ []
  simp only at r1 r2 r3 r4 r6 r7
  subst r1 r2 r3
  have d1 : rh.f (l + 1) = some .dfr := by rw [r6 (l + 1) (by omega) (fun ho => ho.elim (fun h => by have := hO _ h; omega) (by omega)), hE1]
  have fr : ∀ b, b < 256 * c → ¬ O b → rh.f b = h.f b := fun b h1 h2 => by
    rw [r6 b (by omega) (fun ho => ho.elim h2 (by omega)), entryH_f, if_neg (by omega), if_neg (by omega)]
  rw [hl] at hr
  have own1 : ∀ O1 : Nat → Prop, (∀ b, O' b ↔ O1 b ∨ b = l) → ∀ b, O1 b → b ≠ l → O b ∨ 256 * (c + 1) ≤ b := fun O1 g3 b hb hne => by
    rcases r5 b ((g3 b).2 (.inl hb)) with h1 | h1
    · exact .inl (h1.resolve_right hne)
    · exact .inr h1
  rcases r7 with ⟨g1, g2, O1, g3, g4, g5⟩ | ⟨g1, g2, O1, g3, g4, g5⟩
  · refine (rangeV_of (Q := fun q => q = (.normal, HeapC.del rh (256 * c), rc, (256 * c + 1) :: df)) (.intro hr ⟨st, .normal, by rw [← hl]; exact g2, by rw [hst1]; simp, by rw [hst4]; rfl, rfl⟩)).mono ?_
    rintro _ rfl
    exact ⟨rh, O1, rfl, g1, by rw [← hl]; exact d1, fun b hb => by
      by_cases e : b = l
      · exact .inr (by omega)
      · exact (own1 O1 g3 b hb e).imp id (by omega), fr, .inl ⟨rfl, g5⟩⟩
  · refine (rangeV_of (Q := fun q => q = (ex, HeapC.del rh (256 * c), rc, (256 * c + 1) :: df)) (.intro hr ⟨_, ex, by rw [← hl]; exact g2, by simp, hex, rfl⟩)).mono ?_
    rintro _ rfl
    exact ⟨rh, O1, rfl, g1, by rw [← hl]; exact d1, fun b hb => by
      by_cases e : b = l
      · exact .inr (by omega)
      · exact (own1 O1 g3 b hb e).imp id (by omega), fr, .inr ⟨rfl, g5⟩⟩
end Go.Proofs.Ytcnndelmnobigaa

namespace Go.Proofs.Ytcnndelmnobigaa
open Go Go.Ab Go.Proofs
set_option maxRecDepth 100000
set_option linter.unusedVariables false
set_option linter.unusedSimpArgs false

structure ChI (s v : Value) (n nv : Nat) (Gl V : List Int) (gb vb rb cb : Nat) (D : List (List Int)) (O : Nat → Prop) (h : FH) (c : Nat) : Prop where
  lc : cb ≤ c
  own : O = fun b => b = rb
  g : Holds h gb [s]
  sl : SlI h cb s 20 n Gl
  vv : Holds h vb [v]
  vs : SlI h cb v 1 nv V
  res : h.f rb = some (.cells false none [.int .i64 0])
  ok : ∀ m ∈ D, eqM V m = true
structure ChJ (n : Nat) (Gl V : List Int) (rb cb : Nat) (O : Nat → Prop) (h : FH) (c : Nat) : Prop where
  lc : cb ≤ c
  own : O = fun b => b = rb
  res : h.f rb = some (.cells false none [.int .i64 130])
  bad : (allM Gl n).all (fun m => eqM V m) = false

set_option maxHeartbeats 1000000 in
theorem check_round (s v : Value) (n nv : Nat) (Gl V : List Int) (gb vb rb cb l : Nat) (st : ALoop) (hst : st.state = .ready) (hst2 : st.pending = none) (hok : okAll Gl n = true) (hn : n ≤ 60) (hnv : nv = 7 * n) (hW : withinB V = true)
    (hgb : gb < 256 * cb) (hvb : vb < 256 * cb) (hrb : rb < 256 * cb) (hl : l < 256 * cb) (h1 : l ≠ gb) (h2 : l ≠ vb) (h3 : l ≠ rb) (h4 : 256 * cb ≤ 256 * cb) (hvr : vb ≠ rb) (hgr : gb ≠ rb) (hls : 0 < n → blkOf s ≠ l ∧ blkOf s ≠ rb) (hlv : 0 < n → blkOf v ≠ l ∧ blkOf v ≠ rb)
    {D : List (List Int)} {O : Nat → Prop} {h : FH} {c t f i : Nat} (ht : t < n) (hf : f < 4) (hi : i < 4) (hif : i ≠ f) (hsk : mSkip Gl t f = false) (hI : ChI s v n nv Gl V gb vb rb cb D O h c) (hlp : h.f l = some (.loop st)) :
    Ans (f47_R47002 G l (av (mRow Gl t f i)) (ptrTo rb) (ptrTo vb) h c) (fun r => c ≤ r.c ∧ ∃ O', (∀ b, O' b → O b ∨ 256 * c ≤ b) ∧ (∀ b, b < 256 * c → ¬ O b → b ≠ l → r.h.f b = h.f b) ∧
      ((r.vs = [.bool true] ∧ r.h.f l = some (.loop st) ∧ ChI s v n nv Gl V gb vb rb cb (D ++ [mRow Gl t f i]) O' r.h r.c) ∨
       (r.vs = [.bool false] ∧ r.h.f l = some (.loop { st with state := .done, pending := some .ret }) ∧ ChJ n Gl V rb cb O' r.h r.c))) := by
  have hlc := hI.lc
  have hG := hI.sl.1
  obtain ⟨k1, k2, k3⟩ := mRow_ok hok hG ht hf hi hif hsk
  have hmem := allM_mem (Gl := Gl) (n := n) ht hf hi hif hsk
  have hpf := range24 k3 hf
  have hpi := range24 k3 hi
  have hpn := ne24 k3 hi hf hif
  have heq : eqM V (mRow Gl t f i) = decide (arcV V t f i = arcV V (tetL (faceL Gl t f)) ((permL (faceL Gl t f)).getD f 0) ((permL (faceL Gl t f)).getD i 0)) := rfl
  have m0 : (mRow Gl t f i).getD 0 0 = t := rfl
  have m1 : (mRow Gl t f i).getD 1 0 = f := rfl
  have m2 : (mRow Gl t f i).getD 2 0 = i := rfl
  have m3 : (mRow Gl t f i).getD 3 0 = tetL (faceL Gl t f) := rfl
  have m4 : (mRow Gl t f i).getD 4 0 = (permL (faceL Gl t f)).getD f 0 := rfl
  have m5 : (mRow Gl t f i).getD 5 0 = (permL (faceL Gl t f)).getD i 0 := rfl
  have ml : (mRow Gl t f i).length = 6 := rfl
  obtain ⟨M, hM⟩ : ∃ M, mRow Gl t f i = M := ⟨_, rfl⟩
  obtain ⟨U, hU⟩ : ∃ U, tetL (faceL Gl t f) = U := ⟨_, rfl⟩
  obtain ⟨Y, hY⟩ : ∃ Y, (permL (faceL Gl t f)).getD f 0 = Y := ⟨_, rfl⟩
  obtain ⟨Z, hZ⟩ : ∃ Z, (permL (faceL Gl t f)).getD i 0 = Z := ⟨_, rfl⟩
  rw [hM] at heq m0 m1 m2 m3 m4 m5 ml hmem ⊢
  rw [hU] at k1 k2 m3 heq
  rw [hY] at hpf m4 heq hpn
  rw [hZ] at hpi m5 heq hpn
  have hn0 : 0 < n := by omega
  obtain ⟨ls1, ls2⟩ := hls hn0
  obtain ⟨lv1, lv2⟩ := hlv hn0
  have bs := hI.sl.blk hn0
  have bv := hI.vs.blk (by omega)
  obtain ⟨H, hH⟩ : ∃ H, H = HeapC.set (newB h (256 * c) (ints M)) l (.loop { st with state := .busy }) := ⟨_, rfl⟩
  have hb : beginSt (newB h (256 * c) (ints M)) l = some H := by
    rw [hH]
    exact beginSt_of (by rw [get_newB_ne _ _ _ _ (by omega)]; exact hlp) hst
  have r0 : ∀ j, j < 256 * c → j ≠ l → H.f j = h.f j := by
    intro j hj hne
    rw [hH, set_f, if_neg hne, newB_f, if_neg (by omega)]
  have hA : Holds H (256 * c) (ints M) := by rw [hH]; exact ((Holds.newB_same h _ _).set_ne (by omega))
  have rd : ∀ j : Nat, j < 6 → ld1 H (.pointer (some ⟨256 * c, j, none⟩)) = some (.int .i64 (M.getD j 0)) := fun j hj => by rw [ld1_holds' hA, ints_getD _ _ (by omega)]
  have a0 := rd 0 (by omega)
  have a1 := rd 1 (by omega)
  have a2 := rd 2 (by omega)
  have a3 := rd 3 (by omega)
  have a4 := rd 4 (by omega)
  have a5 := rd 5 (by omega)
  rw [m0] at a0
  rw [m1] at a1
  rw [m2] at a2
  rw [m3] at a3
  rw [m4] at a4
  rw [m5] at a5
  have lv : ld1 H (.pointer (some ⟨vb, 0, none⟩)) = some v := by rw [ld1_holds' (hI.vv.eqf (r0 vb (by omega) (Ne.symm h2)))]; rfl
  have hsv : SlI H cb v 1 nv V := hI.vs.keep (fun _ => r0 _ (by omega) lv1)
  have hV : ∀ j : Nat, j < nv → -1000000000000 ≤ gi V j ∧ gi V j ≤ 1000000000000 := fun j _ => by have := withinB_at hW j; omega
  have q1 := fun c' (hc : cb ≤ c') => callF_of (arcs_sp v nv V (t : Int) f i H c' [] (hsv.mono hc) (by omega) (by omega) (by omega) (by omega) (by omega) (by omega) (by omega) (by omega) hV)
  have q2 := fun c' (hc : cb ≤ c') => callF_of (arcs_sp v nv V U Y Z H c' [] (hsv.mono hc) (by omega) (by omega) (by omega) (by omega) (by omega) (by omega) (by omega) hpn hV)
  obtain ⟨A, hA1⟩ : ∃ A, arcV V t f i = A := ⟨_, rfl⟩
  obtain ⟨B, hB1⟩ : ∃ B, arcV V U Y Z = B := ⟨_, rfl⟩
  rw [hA1] at q1 heq
  rw [hB1] at q2 heq
  have hst6 : stN (newB h (256 * c) [.int .i64 0, .int .i64 0, .int .i64 0, .int .i64 0, .int .i64 0, .int .i64 0]) 6 (.pointer (some ⟨256 * c, 0, none⟩)) (av M) = some (newB h (256 * c) (ints M)) := stN_all _ _ 6 _ _ ml rfl
  have hres : HeapC.get H rb = some (.cells false none [.int .i64 0]) := (r0 rb (by omega) (Ne.symm h3)).trans hI.res
  have w1 := st1_get (v := .int .i64 130) (o := 0) hres (by simp) rfl rfl
  have sT : setState H l .ready none = some (HeapC.set H l (.loop st)) := by
    rw [hH, setState_set, set_set]
    congr 3
    rw [← hst, ← hst2]
  have sF : setState (HeapC.set H rb (.cells false none [.int .i64 130])) l .done (some .ret) = some (HeapC.set (HeapC.set H l (.loop { st with state := .done, pending := some .ret })) rb (.cells false none [.int .i64 130])) := by
    rw [setState_set_ne _ _ _ _ _ _ h3, hH, setState_set, set_set]
    rfl
  clear hH
  unfold f47_R47002
  repeat' (first
   | ((with_reducible first | refine Ans.bz ?_ | refine Ans.r1 ?_ | refine Ans.pkT ?_ | refine Ans.pkF ?_); try dsimp only [v_zero, v_succ])
   | (with_reducible first | refine Ans.btL ?_ | refine Ans.bfL ?_ | refine Ans.gyT ?_ | refine Ans.gyF ?_ | refine Ans.gyG ?_ | refine Ans.bb ?_ | refine Ans.bc ?_ | refine Ans.ba ?_)
   | ((with_reducible first | refine Ans.lsT ?_ ?_ | refine Ans.leT ?_ ?_ | refine Ans.grT ?_ ?_ | refine Ans.geT ?_ ?_ | refine Ans.eqT ?_ ?_ | refine Ans.neT ?_ ?_); (focus omega))
   | ((with_reducible first | refine Ans.lsF ?_ ?_ | refine Ans.leF ?_ ?_ | refine Ans.grF ?_ ?_ | refine Ans.geF ?_ ?_ | refine Ans.eqF ?_ ?_ | refine Ans.neF ?_ ?_); (focus omega))
   | (with_reducible first | refine Ans.lsS (fun _ => ?_) (fun _ => ?_) | refine Ans.leS (fun _ => ?_) (fun _ => ?_) | refine Ans.grS (fun _ => ?_) (fun _ => ?_) | refine Ans.geS (fun _ => ?_) (fun _ => ?_) | refine Ans.eqS (fun _ => ?_) (fun _ => ?_) | refine Ans.neS (fun _ => ?_) (fun _ => ?_))
   | ((with_reducible first | refine Ans.addN ?_ ?_ | refine Ans.add ?_ ?_ | refine Ans.sub ?_ ?_ | refine Ans.mul ?_ ?_); (focus omega))
   | ((with_reducible first | refine Ans.ct ?_ ?_); (focus (simp (disch := (first | omega | with_reducible assumption | (simp <;> omega) | fail)) [hst6, hb, lv, a0, a1, a2, a3, a4, a5, q1, q2, w1, sT, sF]; done)))
   | ((with_reducible first | refine Ans.cf ?_ ?_); (focus (simp (disch := (first | omega | with_reducible assumption | (simp <;> omega) | fail)) [hst6, hb, lv, a0, a1, a2, a3, a4, a5, q1, q2, w1, sT, sF]; done)))
   | (refine Ans.step (by simp (disch := (first | omega | with_reducible assumption | (simp <;> omega) | fail)) [hst6, hb, lv, a0, a1, a2, a3, a4, a5, q1, q2, w1, sT, sF, -List.getD_eq_getElem?_getD] <;> rfl) ?_; try dsimp only [v_zero, v_succ])
   | fail)
  · rename_i hne
    refine .done ⟨(by show c ≤ c + 1 + 1 + 1; omega), O, fun b hb => .inl hb, fun b g1 g2 g3 => ?_, .inr ⟨rfl, ?_, ?_⟩⟩
    · rw [hI.own] at g2
      show (HeapC.set _ _ _ : FH).f b = _
      rw [set_f, if_neg g2, set_f, if_neg g3, r0 b g1 g3]
    · show (HeapC.set _ _ _ : FH).f l = _
      rw [set_f, if_neg h3, set_f, if_pos rfl]
    · refine ⟨by show cb ≤ c + 1 + 1 + 1; omega, hI.own, ?_, ?_⟩
      · show (HeapC.set _ _ _ : FH).f rb = _
        rw [set_f, if_pos rfl]
      · rw [← Bool.not_eq_true, List.all_eq_true]
        intro hall
        have := hall M hmem
        rw [heq] at this
        exact hne (by simpa using this)
  · rename_i heq'
    refine .done ⟨(by show c ≤ c + 1 + 1; omega), O, fun b hb => .inl hb, fun b g1 g2 g3 => ?_, .inl ⟨rfl, ?_, ?_⟩⟩
    · show (HeapC.set _ _ _ : FH).f b = _
      rw [set_f, if_neg g3, r0 b g1 g3]
    · show (HeapC.set _ _ _ : FH).f l = _
      rw [set_f, if_pos rfl]
    · have e : ∀ b, b < 256 * c → b ≠ l → (HeapC.set H l (.loop st)).f b = h.f b := fun b g1 g3 => by rw [set_f, if_neg g3, r0 b g1 g3]
      refine ⟨by show cb ≤ c + 1 + 1; omega, hI.own, hI.g.eqf (e gb (by omega) (Ne.symm h1)), hI.sl.keep (fun _ => e _ (by omega) ls1), hI.vv.eqf (e vb (by omega) (Ne.symm h2)), hI.vs.keep (fun _ => e _ (by omega) lv1), (e rb (by omega) (Ne.symm h3)).trans hI.res, fun m hm => ?_⟩
      rcases List.mem_append.1 hm with hm | hm
      · exact hI.ok m hm
      · rw [List.mem_singleton.1 hm, heq]
        simpa using heq'
end Go.Proofs.Ytcnndelmnobigaa

namespace Go.Proofs.Ytcnndelmnobigaa
open Go Go.Ab Go.Proofs
set_option maxRecDepth 100000
set_option linter.unusedVariables false
set_option linter.unusedSimpArgs false

theorem check_quads (s v v15 v17 : Value) (n nv : Nat) (Gl V : List Int) (gb vb rb c : Nat) (v16 : Value) (h : FH) (hn : n ≤ 60) (hnv : nv = 7 * n) (hgb : gb < 256 * c) (hvb : vb < 256 * c) (hrb : rb < 256 * c)
    (hv : Holds h vb [v]) (hs : SlI h c v 1 nv V) (hx : 0 < n → SlX h v 1 nv) (hres : h.f rb = some (.cells false none [.int .i64 0])) (o1 : OkV c v15) (o2 : OkV c v16) (o3 : OkV c v17) (df : List Nat) :
    ∀ (k t : Nat), t + k = n → Ans (G (f47_k47001 none) [ptrTo gb, ptrTo rb, ptrTo vb, v15, v16, v17, .int .i64 n, .int .i64 t] h c df) fun r => r.c = c ∧ r.df = df ∧
      ((r.e = .exit 2 ∧ r.vs = [ptrTo gb, ptrTo rb, ptrTo vb, v15, v16, v17, .int .i64 n, .int .i64 n] ∧ r.h = h ∧ ∀ u, t ≤ u → u < n → areQ (quadAt V u) = true) ∨
       (r.e = .ret ∧ r.vs = [ptrTo gb, ptrTo rb, ptrTo vb, v15, v16, v17, .int .i64 n, r.v 7] ∧ r.h = HeapC.set h rb (.cells false none [.int .i64 130]) ∧ ∃ u, u < n ∧ areQ (quadAt V u) = false)) := by
  intro k
  have lv : ld1 h (.pointer (some ⟨vb, 0, none⟩)) = some v := by rw [ld1_holds' hv]; rfl
  induction k with
  | zero =>
    intro t ht
    obtain rfl : t = n := by omega
    refine Ans.loop (fun q r => f47_N47001) (fun q => f47_Z47001) ?_
    unfold f47_L47001
    repeat' (first
     | ((with_reducible first | refine Ans.bz ?_ | refine Ans.r1 ?_ | refine Ans.pkT ?_ | refine Ans.pkF ?_); try dsimp only [v_zero, v_succ])
     | (with_reducible first | refine Ans.btL ?_ | refine Ans.bfL ?_ | refine Ans.gyT ?_ | refine Ans.gyF ?_ | refine Ans.gyG ?_ | refine Ans.bb ?_ | refine Ans.bc ?_ | refine Ans.ba ?_)
     | ((with_reducible first | refine Ans.lsT ?_ ?_ | refine Ans.leT ?_ ?_ | refine Ans.grT ?_ ?_ | refine Ans.geT ?_ ?_ | refine Ans.eqT ?_ ?_ | refine Ans.neT ?_ ?_); (focus omega))
     | ((with_reducible first | refine Ans.lsF ?_ ?_ | refine Ans.leF ?_ ?_ | refine Ans.grF ?_ ?_ | refine Ans.geF ?_ ?_ | refine Ans.eqF ?_ ?_ | refine Ans.neF ?_ ?_); (focus omega))
     | (with_reducible first | refine Ans.lsS (fun _ => ?_) (fun _ => ?_) | refine Ans.leS (fun _ => ?_) (fun _ => ?_) | refine Ans.grS (fun _ => ?_) (fun _ => ?_) | refine Ans.geS (fun _ => ?_) (fun _ => ?_) | refine Ans.eqS (fun _ => ?_) (fun _ => ?_) | refine Ans.neS (fun _ => ?_) (fun _ => ?_))
     | ((with_reducible first | refine Ans.addN ?_ ?_ | refine Ans.add ?_ ?_ | refine Ans.sub ?_ ?_ | refine Ans.mul ?_ ?_); (focus omega))
     | ((with_reducible first | refine Ans.ct ?_ ?_); (focus (simp (disch := (first | omega | with_reducible assumption | (simp <;> omega) | fail)) []; done)))
     | ((with_reducible first | refine Ans.cf ?_ ?_); (focus (simp (disch := (first | omega | with_reducible assumption | (simp <;> omega) | fail)) []; done)))
     | (refine Ans.step (by simp (disch := (first | omega | with_reducible assumption | (simp <;> omega) | fail)) [-List.getD_eq_getElem?_getD] <;> rfl) ?_; try dsimp only [v_zero, v_succ])
     | fail)
    (refine Ans.exit0 ?_ ?_ ?_; (focus (simp (disch := (first | omega | with_reducible assumption | (simp <;> omega) | fail)) [hgb, hvb, hrb, o1, o2, o3]; done)); (focus (simp (disch := (first | omega | with_reducible assumption | (simp <;> omega) | fail)) [hgb, hvb, hrb, o1, o2, o3]; done)))
    exact ⟨rfl, rfl, .inl ⟨rfl, rfl, rfl, fun u h1 h2 => by omega⟩⟩
  | succ k ih =>
    intro t ht
    have x1 := SlX.sub hs (hx (by omega)) .i64 .i64 (7 * (t : Int) + 4) (7 * (t : Int) + 7) (by omega) (by omega) (by omega) (by omega)
    rw [show (7 * (t : Int) + 4).toNat = 7 * t + 4 by omega, show (7 * (t : Int) + 7).toNat = 7 * t + 7 by omega] at x1
    have x2 := SlI.sub hs (7 * t + 4) (7 * t + 7) (by omega) (by omega) (by omega)
    rw [show 7 * t + 7 - (7 * t + 4) = 3 by omega, Nat.mul_one, Nat.mul_one] at x2
    have c1 := fun c' (hc : c ≤ c') => callF_of (areQ_sp _ 3 _ h c' [] (x2.mono hc) (by omega))
    rw [show (V.drop (7 * t + 4)).take 3 = quadAt V t from rfl] at c1
    have w1 := st1_get (v := .int .i64 130) (o := 0) (show HeapC.get h rb = _ from hres) (by simp) rfl rfl
    refine Ans.loop (fun q r => f47_N47001) (fun q => f47_Z47001) ?_
    unfold f47_L47001
    cases hq : areQ (quadAt V t) with
    | true =>
      rw [hq] at c1
      repeat' (first
       | ((with_reducible first | refine Ans.bz ?_ | refine Ans.r1 ?_ | refine Ans.pkT ?_ | refine Ans.pkF ?_); try dsimp only [v_zero, v_succ])
       | (with_reducible first | refine Ans.btL ?_ | refine Ans.bfL ?_ | refine Ans.gyT ?_ | refine Ans.gyF ?_ | refine Ans.gyG ?_ | refine Ans.bb ?_ | refine Ans.bc ?_ | refine Ans.ba ?_)
       | ((with_reducible first | refine Ans.lsT ?_ ?_ | refine Ans.leT ?_ ?_ | refine Ans.grT ?_ ?_ | refine Ans.geT ?_ ?_ | refine Ans.eqT ?_ ?_ | refine Ans.neT ?_ ?_); (focus omega))
       | ((with_reducible first | refine Ans.lsF ?_ ?_ | refine Ans.leF ?_ ?_ | refine Ans.grF ?_ ?_ | refine Ans.geF ?_ ?_ | refine Ans.eqF ?_ ?_ | refine Ans.neF ?_ ?_); (focus omega))
       | (with_reducible first | refine Ans.lsS (fun _ => ?_) (fun _ => ?_) | refine Ans.leS (fun _ => ?_) (fun _ => ?_) | refine Ans.grS (fun _ => ?_) (fun _ => ?_) | refine Ans.geS (fun _ => ?_) (fun _ => ?_) | refine Ans.eqS (fun _ => ?_) (fun _ => ?_) | refine Ans.neS (fun _ => ?_) (fun _ => ?_))
       | ((with_reducible first | refine Ans.addN ?_ ?_ | refine Ans.add ?_ ?_ | refine Ans.sub ?_ ?_ | refine Ans.mul ?_ ?_); (focus omega))
       | ((with_reducible first | refine Ans.ct ?_ ?_); (focus (simp (disch := (first | omega | with_reducible assumption | (simp <;> omega) | fail)) [lv, x1, c1]; done)))
       | ((with_reducible first | refine Ans.cf ?_ ?_); (focus (simp (disch := (first | omega | with_reducible assumption | (simp <;> omega) | fail)) [lv, x1, c1]; done)))
       | (refine Ans.step (by simp (disch := (first | omega | with_reducible assumption | (simp <;> omega) | fail)) [lv, x1, c1, -List.getD_eq_getElem?_getD] <;> rfl) ?_; try dsimp only [v_zero, v_succ])
       | fail)
      (refine Ans.next0 ?_ ?_ ?_; (focus (simp (disch := (first | omega | with_reducible assumption | (simp <;> omega) | fail)) [hgb, hvb, hrb, o1, o2, o3]; done)); (focus (simp (disch := (first | omega | with_reducible assumption | (simp <;> omega) | fail)) [hgb, hvb, hrb, o1, o2, o3]; done)))
      refine (ih (t + 1) (by omega)).mono ?_
      rintro r ⟨q1, q2, q3⟩
      refine ⟨q1, q2, q3.imp (fun ⟨a, b, d, e⟩ => ⟨a, b, d, fun u u1 u2 => ?_⟩) id⟩
      by_cases hu : u = t
      · rw [hu]; exact hq
      · exact e u (by omega) u2
    | false =>
      rw [hq] at c1
      repeat' (first
       | ((with_reducible first | refine Ans.bz ?_ | refine Ans.r1 ?_ | refine Ans.pkT ?_ | refine Ans.pkF ?_); try dsimp only [v_zero, v_succ])
       | (with_reducible first | refine Ans.btL ?_ | refine Ans.bfL ?_ | refine Ans.gyT ?_ | refine Ans.gyF ?_ | refine Ans.gyG ?_ | refine Ans.bb ?_ | refine Ans.bc ?_ | refine Ans.ba ?_)
       | ((with_reducible first | refine Ans.lsT ?_ ?_ | refine Ans.leT ?_ ?_ | refine Ans.grT ?_ ?_ | refine Ans.geT ?_ ?_ | refine Ans.eqT ?_ ?_ | refine Ans.neT ?_ ?_); (focus omega))
       | ((with_reducible first | refine Ans.lsF ?_ ?_ | refine Ans.leF ?_ ?_ | refine Ans.grF ?_ ?_ | refine Ans.geF ?_ ?_ | refine Ans.eqF ?_ ?_ | refine Ans.neF ?_ ?_); (focus omega))
       | (with_reducible first | refine Ans.lsS (fun _ => ?_) (fun _ => ?_) | refine Ans.leS (fun _ => ?_) (fun _ => ?_) | refine Ans.grS (fun _ => ?_) (fun _ => ?_) | refine Ans.geS (fun _ => ?_) (fun _ => ?_) | refine Ans.eqS (fun _ => ?_) (fun _ => ?_) | refine Ans.neS (fun _ => ?_) (fun _ => ?_))
       | ((with_reducible first | refine Ans.addN ?_ ?_ | refine Ans.add ?_ ?_ | refine Ans.sub ?_ ?_ | refine Ans.mul ?_ ?_); (focus omega))
       | ((with_reducible first | refine Ans.ct ?_ ?_); (focus (simp (disch := (first | omega | with_reducible assumption | (simp <;> omega) | fail)) [lv, x1, c1, w1]; done)))
       | ((with_reducible first | refine Ans.cf ?_ ?_); (focus (simp (disch := (first | omega | with_reducible assumption | (simp <;> omega) | fail)) [lv, x1, c1, w1]; done)))
       | (refine Ans.step (by simp (disch := (first | omega | with_reducible assumption | (simp <;> omega) | fail)) [lv, x1, c1, w1, -List.getD_eq_getElem?_getD] <;> rfl) ?_; try dsimp only [v_zero, v_succ])
       | fail)
      (refine Ans.retB2 (B := HeapC.set h rb (.cells false none [.int .i64 130])) ?_ ?_ ?_ ?_; (focus (simp (disch := (first | omega | with_reducible assumption | (simp <;> omega) | fail)) [hgb, hvb, hrb, o1, o2, o3]; done)); (focus (simp (disch := (first | omega | with_reducible assumption | (simp <;> omega) | fail)) [hgb, hvb, hrb, o1, o2, o3]; done)); exact Upto.set hrb (OkVs.ints _ [130]) (Upto.refl _ _))
      exact ⟨rfl, rfl, .inr ⟨rfl, rfl, rfl, t, by omega, hq⟩⟩

theorem matches_call (s : Value) (h : FH) (c : Nat) (hf : isFlat s = true) : callF G 59 [.agg #[s]] h c = some (.func (.func 77) [].toArray [ptrTo (256 * c)].toArray, newB h (256 * c) [s], c + 1 + 1) := by
  refine callF_of (f59_go (r := { e := .ret, vs := [_], h := _, c := _, df := [] }) ?_)
  unfold f59_S
  rw [flat1 hf, cell1]
  simp

theorem check_roundI (s v : Value) (n nv : Nat) (Gl V : List Int) (gb vb rb l cb : Nat) (hok : okAll Gl n = true) (hn : n ≤ 60) (hnv : nv = 7 * n) (hW : withinB V = true)
    (hgb : gb < 256 * cb) (hvb : vb < 256 * cb) (hrb : rb < 256 * cb) (hl : l < 256 * cb) (h1 : l ≠ gb) (h2 : l ≠ vb) (h3 : l ≠ rb) (hvr : vb ≠ rb) (hgr : gb ≠ rb) (hls : 0 < n → blkOf s ≠ l ∧ blkOf s ≠ rb) (hlv : 0 < n → blkOf v ≠ l ∧ blkOf v ≠ rb) :
    RoundI s n Gl gb l cb (entryL 71 [4, 7] #[52] f47_a47002 f47_c47002 [ptrTo rb, ptrTo vb] (l + 1)) (some .ret) [ptrTo rb, ptrTo vb] (ChI s v n nv Gl V gb vb rb cb) (ChJ n Gl V rb cb) where
  stab := fun D O h c h' c' hi hc hs => by
    have := hi.lc
    exact ⟨by omega, hi.own, hi.g.eqf (hs _ (by omega) (Ne.symm h1)), hi.sl.keep (fun hp => hs _ (by have := hi.sl.blk hp; omega) (hls hp).1), hi.vv.eqf (hs _ (by omega) (Ne.symm h2)), hi.vs.keep (fun hp => hs _ (by have := hi.vs.blk hp; omega) (hlv (by omega)).1), (hs _ (by omega) (Ne.symm h3)).trans hi.res, hi.ok⟩
  jstab := fun O h c h' c' hj hc hs => by
    have := hj.lc
    exact ⟨by omega, hj.own, (hs _ (by omega) (Ne.symm h3)).trans hj.res, hj.bad⟩
  own := fun D O h c hi b hb => by
    have := hi.lc
    rw [hi.own] at hb
    subst hb; omega
  ownJ := fun O h c hj b hb => by
    have := hj.lc
    rw [hj.own] at hb
    subst hb; omega
  read := fun D O h c hi => ⟨hi.g, hi.sl.mono hi.lc⟩
  step := fun D O h c t f i ht hf hi hif hsk _ hc hI hlp => by
    obtain ⟨r, hr, hq⟩ := check_round s v n nv Gl V gb vb rb cb l _ rfl rfl hok hn hnv hW hgb hvb hrb hl h1 h2 h3 (Nat.le_refl _) hvr hgr hls hlv ht hf hi hif hsk hI hlp
    exact ⟨r, f47_G47002 hr, hq⟩

theorem admB_iff {Gl V : List Int} {n : Nat} : admB Gl n V = true ↔ V.length = 7 * n ∧ withinB V = true ∧ (∀ t, t < n → areQ (quadAt V t) = true) ∧ (allM Gl n).all (fun m => eqM V m) = true := by
  simp [admB, and_assoc]

set_option maxHeartbeats 2000000 in
theorem check_lists (s : Value) (n : Nat) (Gl : List Int) (ss : List Value) (Vs : Nat → List Int) (nvs : Nat → Nat) (gb rb sb cb : Nat) (h0 : FH) (hn : n ≤ 60) (hok : okAll Gl n = true) (hgb : gb < 256 * cb) (hrb : rb < 256 * cb) (hsb : sb < 256 * cb) (hgr : gb ≠ rb) (hsr : sb ≠ rb)
    (hg : Holds h0 gb [s]) (hsl : SlI h0 cb s 20 n Gl) (hsrb : 0 < n → blkOf s ≠ rb) (hh : Holds h0 sb ss) (hl : ss.length ≤ 1000) (hnv : ∀ j, nvs j ≤ 1000000)
    (hV : ∀ j, j < ss.length → SlI h0 cb (ss.getD j undef) 1 (nvs j) (Vs j) ∧ SlX h0 (ss.getD j undef) 1 (nvs j) ∧ (0 < nvs j → blkOf (ss.getD j undef) ≠ rb)) :
    ∀ (k j c : Nat) (H : FH) (df : List Nat), j + k = ss.length → cb ≤ c → (∀ b, b < 256 * cb → b ≠ rb → H.f b = h0.f b) → H.f rb = some (.cells false none [.int .i64 0]) → df.Nodup → (∀ d ∈ df, H.f d = some .dfr ∧ 256 * cb ≤ d ∧ d < 256 * c) →
    Ans (G (f47_k47000 none) [ptrTo gb, ptrTo rb, .slice (some ⟨sb, 0, none⟩) ss.length ss.length, .int .i64 ss.length, .int .i64 j] H c df) fun r => c ≤ r.c ∧ r.v 1 = ptrTo rb ∧ (∀ b, b < 256 * cb → b ≠ rb → r.h.f b = h0.f b) ∧ r.df.Nodup ∧ (∀ d ∈ r.df, r.h.f d = some .dfr ∧ 256 * cb ≤ d) ∧
      ((r.e = .exit 0 ∧ r.h.f rb = some (.cells false none [.int .i64 0]) ∧ ∀ i, j ≤ i → i < ss.length → admB Gl n (Vs i) = true) ∨
       (r.e = .ret ∧ r.h.f rb = some (.cells false none [.int .i64 130]) ∧ ∃ i, i < ss.length ∧ admB Gl n (Vs i) = false)) := by
  intro k
  induction k with
  | zero =>
    intro j c H df hj hc hH hres hnd hd
    obtain rfl : j = ss.length := by omega
    refine Ans.loop' (fun q r => f47_N47000) (fun q => f47_Z47000) ?_
    unfold f47_L47000
    repeat' (first
     | ((with_reducible first | refine Ans.bz ?_ | refine Ans.r1 ?_ | refine Ans.pkT ?_ | refine Ans.pkF ?_); try dsimp only [v_zero, v_succ])
     | (with_reducible first | refine Ans.btL ?_ | refine Ans.bfL ?_ | refine Ans.gyT ?_ | refine Ans.gyF ?_ | refine Ans.gyG ?_ | refine Ans.bb ?_ | refine Ans.bc ?_ | refine Ans.ba ?_)
     | ((with_reducible first | refine Ans.lsT ?_ ?_ | refine Ans.leT ?_ ?_ | refine Ans.grT ?_ ?_ | refine Ans.geT ?_ ?_ | refine Ans.eqT ?_ ?_ | refine Ans.neT ?_ ?_); (focus omega))
     | ((with_reducible first | refine Ans.lsF ?_ ?_ | refine Ans.leF ?_ ?_ | refine Ans.grF ?_ ?_ | refine Ans.geF ?_ ?_ | refine Ans.eqF ?_ ?_ | refine Ans.neF ?_ ?_); (focus omega))
     | (with_reducible first | refine Ans.lsS (fun _ => ?_) (fun _ => ?_) | refine Ans.leS (fun _ => ?_) (fun _ => ?_) | refine Ans.grS (fun _ => ?_) (fun _ => ?_) | refine Ans.geS (fun _ => ?_) (fun _ => ?_) | refine Ans.eqS (fun _ => ?_) (fun _ => ?_) | refine Ans.neS (fun _ => ?_) (fun _ => ?_))
     | ((with_reducible first | refine Ans.addN ?_ ?_ | refine Ans.add ?_ ?_ | refine Ans.sub ?_ ?_ | refine Ans.mul ?_ ?_); (focus omega))
     | ((with_reducible first | refine Ans.ct ?_ ?_); (focus (simp (disch := (first | omega | with_reducible assumption | (simp <;> omega) | fail)) []; done)))
     | ((with_reducible first | refine Ans.cf ?_ ?_); (focus (simp (disch := (first | omega | with_reducible assumption | (simp <;> omega) | fail)) []; done)))
     | (refine Ans.step (by simp (disch := (first | omega | with_reducible assumption | (simp <;> omega) | fail)) [-List.getD_eq_getElem?_getD] <;> rfl) ?_; try dsimp only [v_zero, v_succ])
     | fail)
    exact Ans.exitN ⟨(by show c ≤ c + 1; omega), rfl, hH, hnd, fun d h => ⟨(hd d h).1, (hd d h).2.1⟩, .inl ⟨rfl, hres, fun i h1 h2 => by omega⟩⟩
  | succ k ih =>
    intro j c H df hj hc hH hres hnd hd
    have hjl : j < ss.length := by omega
    obtain ⟨hv0, hx0, hvr⟩ := hV j hjl
    have hnvj := hnv j
    obtain ⟨v, hvv⟩ : ∃ v, ss.getD j undef = v := ⟨_, rfl⟩
    obtain ⟨V, hVV⟩ : ∃ V, Vs j = V := ⟨_, rfl⟩
    obtain ⟨nv, hnn⟩ : ∃ nv, nvs j = nv := ⟨_, rfl⟩
    rw [hvv] at hv0 hx0 hvr
    rw [hVV, hnn] at hv0
    rw [hnn] at hx0 hvr hnvj
    have hvj : ss[j]? = some v := by rw [← hvv]; simp [List.getD, List.getElem?_eq_getElem hjl]
    have hvf := hv0.flat
    have hss : Holds H sb ss := hh.eqf (hH sb hsb hsr)
    have l1 : ld1 H (.pointer (some ⟨sb, j, none⟩)) = some v := by rw [ld1_holds' hss, hvj]
    obtain ⟨M, hM⟩ : ∃ M, M = newB H (256 * (c + 1) + 2) [v] := ⟨_, rfl⟩
    have hst : stN (newB H (256 * (c + 1) + 2) [.slice none 0 0]) 1 (.pointer (some ⟨256 * (c + 1) + 2, 0, none⟩)) v = some M := by
      rw [hM]
      obtain ⟨_, _, a, cap, rfl, _⟩ := hv0
      exact st1_sl _ _ _ _ _ _ _ (by simp)
    have fM : ∀ b, b < 256 * (c + 1) → M.f b = H.f b := fun b hb => by rw [hM, newB_f, if_neg (by omega)]
    have hMv : Holds M (256 * (c + 1) + 2) [v] := by rw [hM]; exact Holds.newB_same _ _ _
    clear hM
    have l2 : ld1 M (.pointer (some ⟨256 * (c + 1) + 2, 0, none⟩)) = some v := by rw [ld1_holds' hMv]; rfl
    have hMg : Holds M gb [s] := hg.eqf ((fM gb (by omega)).trans (hH gb hgb hgr))
    have l3 : ld1 M (.pointer (some ⟨gb, 0, none⟩)) = some s := by rw [ld1_holds' hMg]; rfl
    have l4 := hsl.len
    have l5 := hv0.len
    have hresM : M.f rb = some (.cells false none [.int .i64 0]) := (fM rb (by omega)).trans hres
    have hMv0 : SlI M cb v 1 nv V := hv0.keep (fun hp => by
      have h1 := hv0.blk hp
      rw [fM _ (by omega), hH _ h1 (hvr hp)])
    have wM := st1_get (v := .int .i64 130) (o := 0) (show HeapC.get M rb = _ from hresM) (by simp) rfl rfl
    have cw := fun c' (hc' : cb ≤ c') => callF_of (within_sp v nv V M c' [] (hMv0.mono hc') (by omega))
    -- a list that is none
    have bad : ∀ c' : Nat, c ≤ c' → admB Gl n V = false → Ans (some { e := Ex.ret, vs := [ptrTo gb, ptrTo rb, .slice (some ⟨sb, 0, none⟩) ss.length ss.length, .int .i64 ss.length, .int .i64 j], h := HeapC.set M rb (.cells false none [.int .i64 130]), c := c', df := df }) (fun q => Lk G (f47_k47000 none) (fun r => c ≤ r.c ∧ r.v 1 = ptrTo rb ∧ (∀ b, b < 256 * cb → b ≠ rb → r.h.f b = h0.f b) ∧ r.df.Nodup ∧ (∀ d ∈ r.df, r.h.f d = some .dfr ∧ 256 * cb ≤ d) ∧
      ((r.e = .exit 0 ∧ r.h.f rb = some (.cells false none [.int .i64 0]) ∧ ∀ i, j ≤ i → i < ss.length → admB Gl n (Vs i) = true) ∨
       (r.e = .ret ∧ r.h.f rb = some (.cells false none [.int .i64 130]) ∧ ∃ i, i < ss.length ∧ admB Gl n (Vs i) = false))) q) := fun c' hc' hb => by
      refine Ans.retN ⟨hc', rfl, fun b h1 h2 => ?_, hnd, fun d hd' => ⟨?_, (hd d hd').2.1⟩, .inr ⟨rfl, ?_, j, hjl, by rw [hVV]; exact hb⟩⟩
      · show (HeapC.set _ _ _ : FH).f b = _
        rw [set_f, if_neg h2, fM b (by omega), hH b h1 h2]
      · have := hd d hd'
        show (HeapC.set _ _ _ : FH).f d = _
        rw [set_f, if_neg (by omega), fM d (by omega), this.1]
      · show (HeapC.set _ _ _ : FH).f rb = _
        rw [set_f, if_pos rfl]
    refine Ans.loop' (fun q r => f47_N47000) (fun q => f47_Z47000) ?_
    unfold f47_L47000
    by_cases hlen : nv = 7 * n
    case neg =>
      have hb : admB Gl n V = false := by
        rw [← Bool.not_eq_true, admB_iff]
        rintro ⟨h1, _⟩
        have := hv0.1
        omega
      have hne : ¬ ((nv : Int) = 7 * n) := by omega
      repeat' (first
       | ((with_reducible first | refine Ans.bz ?_ | refine Ans.r1 ?_ | refine Ans.pkT ?_ | refine Ans.pkF ?_); try dsimp only [v_zero, v_succ])
       | (with_reducible first | refine Ans.btL ?_ | refine Ans.bfL ?_ | refine Ans.gyT ?_ | refine Ans.gyF ?_ | refine Ans.gyG ?_ | refine Ans.bb ?_ | refine Ans.bc ?_ | refine Ans.ba ?_)
       | ((with_reducible first | refine Ans.lsT ?_ ?_ | refine Ans.leT ?_ ?_ | refine Ans.grT ?_ ?_ | refine Ans.geT ?_ ?_ | refine Ans.eqT ?_ ?_ | refine Ans.neT ?_ ?_); (focus omega))
       | ((with_reducible first | refine Ans.lsF ?_ ?_ | refine Ans.leF ?_ ?_ | refine Ans.grF ?_ ?_ | refine Ans.geF ?_ ?_ | refine Ans.eqF ?_ ?_ | refine Ans.neF ?_ ?_); (focus omega))
       | (with_reducible first | refine Ans.lsS (fun _ => ?_) (fun _ => ?_) | refine Ans.leS (fun _ => ?_) (fun _ => ?_) | refine Ans.grS (fun _ => ?_) (fun _ => ?_) | refine Ans.geS (fun _ => ?_) (fun _ => ?_) | refine Ans.eqS (fun _ => ?_) (fun _ => ?_) | refine Ans.neS (fun _ => ?_) (fun _ => ?_))
       | ((with_reducible first | refine Ans.addN ?_ ?_ | refine Ans.add ?_ ?_ | refine Ans.sub ?_ ?_ | refine Ans.mul ?_ ?_); (focus omega))
       | ((with_reducible first | refine Ans.ct ?_ ?_); (focus (simp (disch := (first | omega | with_reducible assumption | (simp <;> omega) | fail)) [l1, hst, l2, l3, l4, l5, wM]; done)))
       | ((with_reducible first | refine Ans.cf ?_ ?_); (focus (simp (disch := (first | omega | with_reducible assumption | (simp <;> omega) | fail)) [l1, hst, l2, l3, l4, l5, wM]; done)))
       | (refine Ans.step (by simp (disch := (first | omega | with_reducible assumption | (simp <;> omega) | fail)) [l1, hst, l2, l3, l4, l5, wM, -List.getD_eq_getElem?_getD] <;> rfl) ?_; try dsimp only [v_zero, v_succ])
       | fail)
      exact bad _ (by omega) hb
    have heq : ((nv : Int) = 7 * n) := by omega
    cases hW : withinB V with
    | false =>
      have hb : admB Gl n V = false := by
        rw [← Bool.not_eq_true, admB_iff]
        rintro ⟨_, h1, _⟩
        rw [hW] at h1; cases h1
      rw [hW] at cw
      repeat' (first
       | ((with_reducible first | refine Ans.bz ?_ | refine Ans.r1 ?_ | refine Ans.pkT ?_ | refine Ans.pkF ?_); try dsimp only [v_zero, v_succ])
       | (with_reducible first | refine Ans.btL ?_ | refine Ans.bfL ?_ | refine Ans.gyT ?_ | refine Ans.gyF ?_ | refine Ans.gyG ?_ | refine Ans.bb ?_ | refine Ans.bc ?_ | refine Ans.ba ?_)
       | ((with_reducible first | refine Ans.lsT ?_ ?_ | refine Ans.leT ?_ ?_ | refine Ans.grT ?_ ?_ | refine Ans.geT ?_ ?_ | refine Ans.eqT ?_ ?_ | refine Ans.neT ?_ ?_); (focus omega))
       | ((with_reducible first | refine Ans.lsF ?_ ?_ | refine Ans.leF ?_ ?_ | refine Ans.grF ?_ ?_ | refine Ans.geF ?_ ?_ | refine Ans.eqF ?_ ?_ | refine Ans.neF ?_ ?_); (focus omega))
       | (with_reducible first | refine Ans.lsS (fun _ => ?_) (fun _ => ?_) | refine Ans.leS (fun _ => ?_) (fun _ => ?_) | refine Ans.grS (fun _ => ?_) (fun _ => ?_) | refine Ans.geS (fun _ => ?_) (fun _ => ?_) | refine Ans.eqS (fun _ => ?_) (fun _ => ?_) | refine Ans.neS (fun _ => ?_) (fun _ => ?_))
       | ((with_reducible first | refine Ans.addN ?_ ?_ | refine Ans.add ?_ ?_ | refine Ans.sub ?_ ?_ | refine Ans.mul ?_ ?_); (focus omega))
       | ((with_reducible first | refine Ans.ct ?_ ?_); (focus (simp (disch := (first | omega | with_reducible assumption | (simp <;> omega) | fail)) [l1, hst, l2, l3, l4, l5, wM, cw]; done)))
       | ((with_reducible first | refine Ans.cf ?_ ?_); (focus (simp (disch := (first | omega | with_reducible assumption | (simp <;> omega) | fail)) [l1, hst, l2, l3, l4, l5, wM, cw]; done)))
       | (refine Ans.step (by simp (disch := (first | omega | with_reducible assumption | (simp <;> omega) | fail)) [l1, hst, l2, l3, l4, l5, wM, cw, -List.getD_eq_getElem?_getD] <;> rfl) ?_; try dsimp only [v_zero, v_succ])
       | fail)
      exact bad _ (by omega) hb
    | true =>
      rw [hW] at cw
      repeat' (first
       | ((with_reducible first | refine Ans.bz ?_ | refine Ans.r1 ?_ | refine Ans.pkT ?_ | refine Ans.pkF ?_); try dsimp only [v_zero, v_succ])
       | (with_reducible first | refine Ans.btL ?_ | refine Ans.bfL ?_ | refine Ans.gyT ?_ | refine Ans.gyF ?_ | refine Ans.gyG ?_ | refine Ans.bb ?_ | refine Ans.bc ?_ | refine Ans.ba ?_)
       | ((with_reducible first | refine Ans.lsT ?_ ?_ | refine Ans.leT ?_ ?_ | refine Ans.grT ?_ ?_ | refine Ans.geT ?_ ?_ | refine Ans.eqT ?_ ?_ | refine Ans.neT ?_ ?_); (focus omega))
       | ((with_reducible first | refine Ans.lsF ?_ ?_ | refine Ans.leF ?_ ?_ | refine Ans.grF ?_ ?_ | refine Ans.geF ?_ ?_ | refine Ans.eqF ?_ ?_ | refine Ans.neF ?_ ?_); (focus omega))
       | (with_reducible first | refine Ans.lsS (fun _ => ?_) (fun _ => ?_) | refine Ans.leS (fun _ => ?_) (fun _ => ?_) | refine Ans.grS (fun _ => ?_) (fun _ => ?_) | refine Ans.geS (fun _ => ?_) (fun _ => ?_) | refine Ans.eqS (fun _ => ?_) (fun _ => ?_) | refine Ans.neS (fun _ => ?_) (fun _ => ?_))
       | ((with_reducible first | refine Ans.addN ?_ ?_ | refine Ans.add ?_ ?_ | refine Ans.sub ?_ ?_ | refine Ans.mul ?_ ?_); (focus omega))
       | ((with_reducible first | refine Ans.ct ?_ ?_); (focus (simp (disch := (first | omega | with_reducible assumption | (simp <;> omega) | fail)) [l1, hst, l2, l3, l4, l5, cw]; done)))
       | ((with_reducible first | refine Ans.cf ?_ ?_); (focus (simp (disch := (first | omega | with_reducible assumption | (simp <;> omega) | fail)) [l1, hst, l2, l3, l4, l5, cw]; done)))
       | (refine Ans.step (by simp (disch := (first | omega | with_reducible assumption | (simp <;> omega) | fail)) [l1, hst, l2, l3, l4, l5, cw, -List.getD_eq_getElem?_getD] <;> rfl) ?_; try dsimp only [v_zero, v_succ])
       | fail)
      have hq := check_quads s v (.slice (some ⟨sb, 0, none⟩) ss.length ss.length) (.int .i64 j) n nv Gl V gb (256 * (c + 1) + 2) rb (c + 1 + 1 + 1 + 1) (.int .i64 ss.length) M hn (by omega) (by omega) (by omega) (by omega) hMv (hMv0.mono (by omega))
        (fun hn0 => by
          have hb0 := hv0.blk (by omega)
          have e1 : M.f (blkOf v) = h0.f (blkOf v) := by rw [fM _ (by omega), hH _ hb0 (hvr (by omega))]
          obtain ⟨q1, q2⟩ := hx0
          refine ⟨q1, ?_⟩
          obtain ⟨_, _, a, cap, rfl, hc4⟩ := hv0
          rcases hc4 with ⟨e, _⟩ | ⟨b, o, cs, rfl, _, _, _⟩
          · omega
          · simp only [adrOf, szOk, blkOf_sl] at q2 e1 ⊢
            have : HeapC.get M b = HeapC.get h0 b := e1
            rw [this]; exact q2)
        hresM (OkV.sl (by omega)) (OkV.int _ _ _) (OkV.int _ _ _) df n 0 (by omega)
      simp only [Int.ofNat_eq_natCast, Int.cast_ofNat_Int] at hq
      obtain ⟨⟨re, rv, rh, rc, rd⟩, hr, r1, r2, r3⟩ := hq
      simp only at r1 r2 r3
      subst r1 r2
      rcases r3 with ⟨rfl, rfl, rfl, hqs⟩ | ⟨rfl, hrv, rfl, u, u1, u2⟩
      case inr =>
        have hb : admB Gl n V = false := by
          rw [← Bool.not_eq_true, admB_iff]
          rintro ⟨_, _, h1, _⟩
          rw [h1 u u1] at u2; cases u2
        rw [hrv] at hr
        repeat' (first
         | ((with_reducible first | refine Ans.bz ?_ | refine Ans.r1 ?_ | refine Ans.pkT ?_ | refine Ans.pkF ?_); try dsimp only [v_zero, v_succ])
         | (with_reducible first | refine Ans.btL ?_ | refine Ans.bfL ?_ | refine Ans.gyT ?_ | refine Ans.gyF ?_ | refine Ans.gyG ?_ | refine Ans.bb ?_ | refine Ans.bc ?_ | refine Ans.ba ?_)
         | ((with_reducible first | refine Ans.lsT ?_ ?_ | refine Ans.leT ?_ ?_ | refine Ans.grT ?_ ?_ | refine Ans.geT ?_ ?_ | refine Ans.eqT ?_ ?_ | refine Ans.neT ?_ ?_); (focus omega))
         | ((with_reducible first | refine Ans.lsF ?_ ?_ | refine Ans.leF ?_ ?_ | refine Ans.grF ?_ ?_ | refine Ans.geF ?_ ?_ | refine Ans.eqF ?_ ?_ | refine Ans.neF ?_ ?_); (focus omega))
         | (with_reducible first | refine Ans.lsS (fun _ => ?_) (fun _ => ?_) | refine Ans.leS (fun _ => ?_) (fun _ => ?_) | refine Ans.grS (fun _ => ?_) (fun _ => ?_) | refine Ans.geS (fun _ => ?_) (fun _ => ?_) | refine Ans.eqS (fun _ => ?_) (fun _ => ?_) | refine Ans.neS (fun _ => ?_) (fun _ => ?_))
         | ((with_reducible first | refine Ans.addN ?_ ?_ | refine Ans.add ?_ ?_ | refine Ans.sub ?_ ?_ | refine Ans.mul ?_ ?_); (focus omega))
         | ((with_reducible first | refine Ans.ct ?_ ?_); (focus (simp (disch := (first | omega | with_reducible assumption | (simp <;> omega) | fail)) [hr]; done)))
         | ((with_reducible first | refine Ans.cf ?_ ?_); (focus (simp (disch := (first | omega | with_reducible assumption | (simp <;> omega) | fail)) [hr]; done)))
         | (refine Ans.step (by simp (disch := (first | omega | with_reducible assumption | (simp <;> omega) | fail)) [hr, -List.getD_eq_getElem?_getD] <;> rfl) ?_; try dsimp only [v_zero, v_succ])
         | fail)
        exact bad _ (by omega) hb
      have l6 := ldN1_own hMg
      have cm := matches_call s rh (c + 1 + 1 + 1 + 1 + 1) hsl.flat
      repeat' (first
       | ((with_reducible first | refine Ans.bz ?_ | refine Ans.r1 ?_ | refine Ans.pkT ?_ | refine Ans.pkF ?_); try dsimp only [v_zero, v_succ])
       | (with_reducible first | refine Ans.btL ?_ | refine Ans.bfL ?_ | refine Ans.gyT ?_ | refine Ans.gyF ?_ | refine Ans.gyG ?_ | refine Ans.bb ?_ | refine Ans.bc ?_ | refine Ans.ba ?_)
       | ((with_reducible first | refine Ans.lsT ?_ ?_ | refine Ans.leT ?_ ?_ | refine Ans.grT ?_ ?_ | refine Ans.geT ?_ ?_ | refine Ans.eqT ?_ ?_ | refine Ans.neT ?_ ?_); (focus omega))
       | ((with_reducible first | refine Ans.lsF ?_ ?_ | refine Ans.leF ?_ ?_ | refine Ans.grF ?_ ?_ | refine Ans.geF ?_ ?_ | refine Ans.eqF ?_ ?_ | refine Ans.neF ?_ ?_); (focus omega))
       | (with_reducible first | refine Ans.lsS (fun _ => ?_) (fun _ => ?_) | refine Ans.leS (fun _ => ?_) (fun _ => ?_) | refine Ans.grS (fun _ => ?_) (fun _ => ?_) | refine Ans.geS (fun _ => ?_) (fun _ => ?_) | refine Ans.eqS (fun _ => ?_) (fun _ => ?_) | refine Ans.neS (fun _ => ?_) (fun _ => ?_))
       | ((with_reducible first | refine Ans.addN ?_ ?_ | refine Ans.add ?_ ?_ | refine Ans.sub ?_ ?_ | refine Ans.mul ?_ ?_); (focus omega))
       | ((with_reducible first | refine Ans.ct ?_ ?_); (focus (simp (disch := (first | omega | with_reducible assumption | (simp <;> omega) | fail)) [hr, l6, cm]; done)))
       | ((with_reducible first | refine Ans.cf ?_ ?_); (focus (simp (disch := (first | omega | with_reducible assumption | (simp <;> omega) | fail)) [hr, l6, cm]; done)))
       | (refine Ans.step (by simp (disch := (first | omega | with_reducible assumption | (simp <;> omega) | fail)) [hr, l6, cm, -List.getD_eq_getElem?_getD] <;> rfl) ?_; try dsimp only [v_zero, v_succ])
       | fail)
      obtain ⟨N, hN⟩ : ∃ N, N = newB rh (256 * (c + 1 + 1 + 1 + 1 + 1)) [s] := ⟨_, rfl⟩
      rw [← hN]
      have fN : ∀ b, b < 256 * (c + 1 + 1 + 1 + 1 + 1) → N.f b = rh.f b := fun b hb => by rw [hN, newB_f, if_neg (by omega)]
      have gN : N.f (256 * (c + 1 + 1 + 1 + 1 + 1)) = some (.cells false none [s]) := by rw [hN, newB_f, if_pos rfl]
      clear hN
      have hI := check_roundI s v n nv Gl V (256 * (c + 1 + 1 + 1 + 1 + 1)) (256 * (c + 1) + 2) rb (256 * (c + 1 + 1 + 1 + 1 + 1 + 1 + 1)) (c + 1 + 1 + 1 + 1 + 1 + 1 + 1 + 1) hok hn (by omega) hW (by omega) (by omega) (by omega) (by omega) (by omega) (by omega) (by omega) (by omega) (by omega)
        (fun hp => ⟨by have := hsl.blk hp; omega, hsrb hp⟩) (fun hp => ⟨by have := hv0.blk (by omega); omega, hvr (by omega)⟩)
      have hE : ∀ b, b < 256 * (c + 1 + 1 + 1 + 1 + 1 + 1 + 1) → (entryH N (c + 1 + 1 + 1 + 1 + 1 + 1 + 1) 71 [4, 7] #[52] f47_a47002 f47_c47002 [ptrTo rb, ptrTo (256 * (c + 1) + 2)]).f b = N.f b := fun b hb => by
        rw [entryH_f, if_neg (by omega), if_neg (by omega)]
      have hI0 : ChI s v n nv Gl V (256 * (c + 1 + 1 + 1 + 1 + 1)) (256 * (c + 1) + 2) rb (c + 1 + 1 + 1 + 1 + 1 + 1 + 1 + 1) [] (fun b => b = rb) (entryH N (c + 1 + 1 + 1 + 1 + 1 + 1 + 1) 71 [4, 7] #[52] f47_a47002 f47_c47002 [ptrTo rb, ptrTo (256 * (c + 1) + 2)]) (c + 1 + 1 + 1 + 1 + 1 + 1 + 1 + 1) := by
        refine ⟨Nat.le_refl _, rfl, ⟨false, none, ?_⟩, (hsl.keep (fun hp => ?_)).mono (by omega), hMv.eqf ?_, (hv0.keep (fun hp => ?_)).mono (by omega), ?_, fun m hm => by cases hm⟩
        · show (entryH _ _ _ _ _ _ _ _ : FH).f _ = _
          rw [hE _ (by omega), gN]
        · have h1 := hsl.blk hp
          rw [hE _ (by omega), fN _ (by omega), fM _ (by omega), hH _ h1 (hsrb hp)]
        · rw [hE _ (by omega), fN _ (by omega)]
        · have h1 := hv0.blk hp
          rw [hE _ (by omega), fN _ (by omega), fM _ (by omega), hH _ h1 (hvr hp)]
        · rw [hE _ (by omega), fN _ (by omega), hresM]
      refine Ans.head (range_matches (by omega) (by omega) rfl hI (O := fun b => b = rb) (fun b hb => by subst hb; omega) hI0) ?_
      rintro ⟨qe, qh, qc, qd⟩ ⟨qr, O', e1, e2, e3, e4, e5, e6⟩
      simp only [Prod.mk.injEq] at e1
      obtain ⟨rfl, -, rfl⟩ := e1
      simp only at e2 e6
      have keep1 : ∀ b, b < 256 * cb → b ≠ rb → (HeapC.del qr (256 * (c + 1 + 1 + 1 + 1 + 1 + 1 + 1)) : FH).f b = h0.f b := fun b h1 h2 => by
        rw [del_f, if_neg (by omega), e5 b (by omega) h2, fN _ (by omega), fM _ (by omega), hH b h1 h2]
      have nd : ((256 * (c + 1 + 1 + 1 + 1 + 1 + 1 + 1) + 1) :: rd : List Nat).Nodup := List.nodup_cons.2 ⟨fun hm => by have := (hd _ hm).2.2; omega, hnd⟩
      have dd : ∀ d ∈ (256 * (c + 1 + 1 + 1 + 1 + 1 + 1 + 1) + 1) :: rd, (HeapC.del qr (256 * (c + 1 + 1 + 1 + 1 + 1 + 1 + 1)) : FH).f d = some .dfr ∧ 256 * cb ≤ d ∧ d < 256 * (c + 1 + 1 + 1 + 1 + 1 + 1 + 1 + 1) := fun d hm => by
        rcases List.mem_cons.1 hm with rfl | hm
        · exact ⟨by rw [del_f, if_neg (by omega)]; exact e3, by omega, by omega⟩
        · obtain ⟨d1, d2, d3⟩ := hd d hm
          exact ⟨by rw [del_f, if_neg (by omega), e5 d (by omega) (by show ¬ d = rb; omega), fN _ (by omega), fM _ (by omega), d1], d2, by omega⟩
      rcases e6 with ⟨rfl, hi⟩ | ⟨rfl, hj'⟩
      · repeat' (first
         | ((with_reducible first | refine Ans.bz ?_ | refine Ans.r1 ?_ | refine Ans.pkT ?_ | refine Ans.pkF ?_); try dsimp only [v_zero, v_succ])
         | (with_reducible first | refine Ans.btL ?_ | refine Ans.bfL ?_ | refine Ans.gyT ?_ | refine Ans.gyF ?_ | refine Ans.gyG ?_ | refine Ans.bb ?_ | refine Ans.bc ?_ | refine Ans.ba ?_)
         | ((with_reducible first | refine Ans.lsT ?_ ?_ | refine Ans.leT ?_ ?_ | refine Ans.grT ?_ ?_ | refine Ans.geT ?_ ?_ | refine Ans.eqT ?_ ?_ | refine Ans.neT ?_ ?_); (focus omega))
         | ((with_reducible first | refine Ans.lsF ?_ ?_ | refine Ans.leF ?_ ?_ | refine Ans.grF ?_ ?_ | refine Ans.geF ?_ ?_ | refine Ans.eqF ?_ ?_ | refine Ans.neF ?_ ?_); (focus omega))
         | (with_reducible first | refine Ans.lsS (fun _ => ?_) (fun _ => ?_) | refine Ans.leS (fun _ => ?_) (fun _ => ?_) | refine Ans.grS (fun _ => ?_) (fun _ => ?_) | refine Ans.geS (fun _ => ?_) (fun _ => ?_) | refine Ans.eqS (fun _ => ?_) (fun _ => ?_) | refine Ans.neS (fun _ => ?_) (fun _ => ?_))
         | ((with_reducible first | refine Ans.addN ?_ ?_ | refine Ans.add ?_ ?_ | refine Ans.sub ?_ ?_ | refine Ans.mul ?_ ?_); (focus omega))
         | ((with_reducible first | refine Ans.ct ?_ ?_); (focus (simp (disch := (first | omega | with_reducible assumption | (simp <;> omega) | fail)) []; done)))
         | ((with_reducible first | refine Ans.cf ?_ ?_); (focus (simp (disch := (first | omega | with_reducible assumption | (simp <;> omega) | fail)) []; done)))
         | (refine Ans.step (by simp (disch := (first | omega | with_reducible assumption | (simp <;> omega) | fail)) [-List.getD_eq_getElem?_getD] <;> rfl) ?_; try dsimp only [v_zero, v_succ])
         | fail)
        refine Ans.nextN ?_
        have hgood : admB Gl n V = true := admB_iff.2 ⟨by have := hv0.1; omega, hW, fun t ht => hqs t (by omega) ht, List.all_eq_true.2 hi.ok⟩
        refine (ih (j + 1) (qc + 1) (HeapC.del qr (256 * (c + 1 + 1 + 1 + 1 + 1 + 1 + 1))) ((256 * (c + 1 + 1 + 1 + 1 + 1 + 1 + 1) + 1) :: rd) (by omega) (by omega) keep1 (by rw [del_f, if_neg (by omega)]; exact hi.res) nd (fun d hm => by
          obtain ⟨d1, d2, d3⟩ := dd d hm
          exact ⟨d1, d2, by omega⟩)).mono ?_
        rintro r ⟨w1, w2, w3, w4, w5, w6⟩
        refine ⟨by omega, w2, w3, w4, w5, w6.imp (fun ⟨a, b, d⟩ => ⟨a, b, fun i i1 i2 => ?_⟩) id⟩
        by_cases hij : i = j
        · rw [hij, hVV]; exact hgood
        · exact d i (by omega) i2
      · repeat' (first
         | ((with_reducible first | refine Ans.bz ?_ | refine Ans.r1 ?_ | refine Ans.pkT ?_ | refine Ans.pkF ?_); try dsimp only [v_zero, v_succ])
         | (with_reducible first | refine Ans.btL ?_ | refine Ans.bfL ?_ | refine Ans.gyT ?_ | refine Ans.gyF ?_ | refine Ans.gyG ?_ | refine Ans.bb ?_ | refine Ans.bc ?_ | refine Ans.ba ?_)
         | ((with_reducible first | refine Ans.lsT ?_ ?_ | refine Ans.leT ?_ ?_ | refine Ans.grT ?_ ?_ | refine Ans.geT ?_ ?_ | refine Ans.eqT ?_ ?_ | refine Ans.neT ?_ ?_); (focus omega))
         | ((with_reducible first | refine Ans.lsF ?_ ?_ | refine Ans.leF ?_ ?_ | refine Ans.grF ?_ ?_ | refine Ans.geF ?_ ?_ | refine Ans.eqF ?_ ?_ | refine Ans.neF ?_ ?_); (focus omega))
         | (with_reducible first | refine Ans.lsS (fun _ => ?_) (fun _ => ?_) | refine Ans.leS (fun _ => ?_) (fun _ => ?_) | refine Ans.grS (fun _ => ?_) (fun _ => ?_) | refine Ans.geS (fun _ => ?_) (fun _ => ?_) | refine Ans.eqS (fun _ => ?_) (fun _ => ?_) | refine Ans.neS (fun _ => ?_) (fun _ => ?_))
         | ((with_reducible first | refine Ans.addN ?_ ?_ | refine Ans.add ?_ ?_ | refine Ans.sub ?_ ?_ | refine Ans.mul ?_ ?_); (focus omega))
         | ((with_reducible first | refine Ans.ct ?_ ?_); (focus (simp (disch := (first | omega | with_reducible assumption | (simp <;> omega) | fail)) []; done)))
         | ((with_reducible first | refine Ans.cf ?_ ?_); (focus (simp (disch := (first | omega | with_reducible assumption | (simp <;> omega) | fail)) []; done)))
         | (refine Ans.step (by simp (disch := (first | omega | with_reducible assumption | (simp <;> omega) | fail)) [-List.getD_eq_getElem?_getD] <;> rfl) ?_; try dsimp only [v_zero, v_succ])
         | fail)
        have hb : admB Gl n V = false := by
          rw [← Bool.not_eq_true, admB_iff]
          rintro ⟨_, _, _, h1⟩
          rw [hj'.bad] at h1; cases h1
        refine Ans.retN ⟨(by show c ≤ qc; omega), rfl, keep1, nd, fun d hm => ⟨(dd d hm).1, (dd d hm).2.1⟩, .inr ⟨rfl, ?_, j, hjl, by rw [hVV]; exact hb⟩⟩
        show (HeapC.del _ _ : FH).f rb = _
        rw [del_f, if_neg (by omega)]
        exact hj'.res
end Go.Proofs.Ytcnndelmnobigaa

namespace Go.Proofs.Ytcnndelmnobigaa
open Go Go.Ab Go.Proofs
set_option maxRecDepth 100000
set_option linter.unusedVariables false
set_option linter.unusedSimpArgs false

def chkE (Gl : List Int) (n : Nat) (all : Bool) : Int := if refE Gl n = 0 then (if all = true then 0 else 130) else refE Gl n

theorem refE_zero {Gl : List Int} {n : Nat} (h : refE Gl n = 0) : n ≤ 60 ∧ okAll Gl n = true := by
  unfold refE at h
  split at h
  · rename_i h1
    split at h
    · cases h
    · exact ⟨by omega, h1.2⟩
  · cases h

theorem SlX.keep {h h' : FH} {c : Nat} {s : Value} {sz n : Nat} {L : List Int} (hs : SlI h c s sz n L) (hh : Same c h h') (hx : SlX h s sz n) : SlX h' s sz n := by
  obtain ⟨x1, x2⟩ := hx
  refine ⟨x1, ?_⟩
  obtain ⟨_, _, a, cap, rfl, hc4⟩ := hs
  rcases hc4 with ⟨e0, ov⟩ | ⟨b, o, cs, rfl, e2, _, _⟩
  · cases a with
    | none => rfl
    | some a =>
      have hb : a.block < 256 * c := by
        obtain ⟨v', hv'⟩ := ov
        cases hv' with
        | sl hh' _ _ => exact nuD_dom (by rw [hh']; simp)
        | slE hh' => exact nuD_dom (by rw [hh']; simp)
      simp only [adrOf, szOk] at x2 ⊢
      have : HeapC.get h' a.block = HeapC.get h a.block := hh _ hb
      rw [this]; exact x2
  · simp only [adrOf, szOk] at x2 ⊢
    have : HeapC.get h' b = HeapC.get h b := hh _ e2
    rw [this]; exact x2

set_option maxHeartbeats 1000000 in
theorem checks_sp (s : Value) (n : Nat) (Gl : List Int) (ss : List Value) (Vs : Nat → List Int) (nvs : Nat → Nat) (sb : Nat) (h : FH) (c : Nat) (df : List Nat) (hs : SlI h c s 20 n Gl) (hsb : sb < 256 * c) (hh : Holds h sb ss) (hl : ss.length ≤ 1000) (hnv : ∀ j, nvs j ≤ 1000000)
    (hV : ∀ j, j < ss.length → SlI h c (ss.getD j undef) 1 (nvs j) (Vs j) ∧ SlX h (ss.getD j undef) 1 (nvs j)) :
    G (.fn 47) [.agg #[s], .slice (some ⟨sb, 0, none⟩) ss.length ss.length] h c df = some { e := .ret, vs := [.int .i64 (chkE Gl n ((List.range ss.length).all fun i => admB Gl n (Vs i)))], h := h, c := c, df := [] } := by
  refine pure_of' (fun r e => f47_go e) (by simp) ?_
  unfold f47_S
  rw [flat1 hs.flat, cell1, Nat.add_zero]
  simp only [cond_true]
  obtain ⟨H, hH⟩ : ∃ H, H = newB (newB h (256 * c) [s]) (256 * c + 1) [.int .i64 0] := ⟨_, rfl⟩
  have sH : Same c h H := by rw [hH]; simp (disch := omega)
  have hg : Holds H (256 * c) [s] := by rw [hH]; exact (Holds.newB_same _ _ _).newB_ne (by omega)
  have hr : H.f (256 * c + 1) = some (.cells false none [.int .i64 0]) := by rw [hH, newB_f, if_pos rfl]
  rw [← hH]
  clear hH
  have l1 := ldN1_own hg
  have l2 := SlI.len hs
  have c1 := callF_of (refused_sp s n Gl H (c + 1 + 1) [] ((hs.same sH).mono (by omega)))
  obtain ⟨E, hE⟩ : ∃ E, refE Gl n = E := ⟨_, rfl⟩
  have hE0 : E = 0 → n ≤ 60 ∧ okAll Gl n = true := fun e => refE_zero (hE.trans e)
  unfold chkE
  rw [hE] at c1 ⊢
  by_cases h0 : E = 0
  case neg =>
    have w1 := st1_get (v := .int .i64 E) (o := 0) (show HeapC.get H (256 * c + 1) = _ from hr) (by simp) rfl rfl
    have w2 : ld1 (HeapC.set H (256 * c + 1) (.cells false none [.int .i64 E])) (.pointer (some ⟨256 * c + 1, 0, none⟩)) = some (.int .i64 E) := by
      rw [ld1_holds' (cs := [.int .i64 E]) ⟨_, _, get_set_same _ _ _⟩]; rfl
    rw [if_neg h0]
    repeat' (first
     | ((with_reducible first | refine Ans.bz ?_ | refine Ans.r1 ?_ | refine Ans.pkT ?_ | refine Ans.pkF ?_); try dsimp only [v_zero, v_succ])
     | (with_reducible first | refine Ans.btL ?_ | refine Ans.bfL ?_ | refine Ans.gyT ?_ | refine Ans.gyF ?_ | refine Ans.gyG ?_ | refine Ans.bb ?_ | refine Ans.bc ?_ | refine Ans.ba ?_)
     | ((with_reducible first | refine Ans.lsT ?_ ?_ | refine Ans.leT ?_ ?_ | refine Ans.grT ?_ ?_ | refine Ans.geT ?_ ?_ | refine Ans.eqT ?_ ?_ | refine Ans.neT ?_ ?_); (focus omega))
     | ((with_reducible first | refine Ans.lsF ?_ ?_ | refine Ans.leF ?_ ?_ | refine Ans.grF ?_ ?_ | refine Ans.geF ?_ ?_ | refine Ans.eqF ?_ ?_ | refine Ans.neF ?_ ?_); (focus omega))
     | (with_reducible first | refine Ans.lsS (fun _ => ?_) (fun _ => ?_) | refine Ans.leS (fun _ => ?_) (fun _ => ?_) | refine Ans.grS (fun _ => ?_) (fun _ => ?_) | refine Ans.geS (fun _ => ?_) (fun _ => ?_) | refine Ans.eqS (fun _ => ?_) (fun _ => ?_) | refine Ans.neS (fun _ => ?_) (fun _ => ?_))
     | ((with_reducible first | refine Ans.addN ?_ ?_ | refine Ans.add ?_ ?_ | refine Ans.sub ?_ ?_ | refine Ans.mul ?_ ?_); (focus omega))
     | ((with_reducible first | refine Ans.ct ?_ ?_); (focus (simp (disch := (first | omega | with_reducible assumption | (simp <;> omega) | fail)) [l1, c1, w1, w2]; done)))
     | ((with_reducible first | refine Ans.cf ?_ ?_); (focus (simp (disch := (first | omega | with_reducible assumption | (simp <;> omega) | fail)) [l1, c1, w1, w2]; done)))
     | (refine Ans.step (by simp (disch := (first | omega | with_reducible assumption | (simp <;> omega) | fail)) [l1, c1, w1, w2, -List.getD_eq_getElem?_getD] <;> rfl) ?_; try dsimp only [v_zero, v_succ])
     | fail)
    exact Ans.pure rfl (sH.set (by omega))
  obtain ⟨hn, hok⟩ := hE0 h0
  rw [if_pos h0]
  obtain ⟨⟨re, rv, rh, rc, rd⟩, hq, q1, q2, q3, q4, q5, q6⟩ := check_lists s n Gl ss Vs nvs (256 * c) (256 * c + 1) sb (c + 1 + 1 + 1 + 1) H hn hok (by omega) (by omega) (by omega) (by omega) (by omega) hg ((hs.same sH).mono (by omega)) (fun hp => by have := hs.blk hp; omega)
    (hh.same hsb sH) hl hnv (fun j hj => ⟨((hV j hj).1.same sH).mono (by omega), SlX.keep (hV j hj).1 sH (hV j hj).2, fun hp => by have := (hV j hj).1.blk hp; omega⟩) ss.length 0 (c + 1 + 1 + 1 + 1) H [] (by omega) (by omega) (fun b _ _ => rfl) hr List.nodup_nil (fun d hd => by cases hd)
  simp only at q1 q3 q4 q5 q6
  simp only [Int.ofNat_eq_natCast, Int.cast_ofNat_Int] at hq
  have hln : lenS (.slice (some ⟨sb, 0, none⟩) ss.length ss.length) = some (.int .i64 ss.length) := rfl
  have sR : ∀ b, b < 256 * c → rh.f b = h.f b := fun b hb => by rw [q3 b (by omega) (by omega), sH b hb]
  rcases q6 with ⟨rfl, q7, q8⟩ | ⟨rfl, q7, i, q8, q9⟩
  · have hall : ((List.range ss.length).all fun i => admB Gl n (Vs i)) = true := List.all_eq_true.2 fun i hi => q8 i (by omega) (by simpa using hi)
    rw [hall, if_pos rfl]
    have w1 := st1_get (v := .int .i64 0) (o := 0) (show HeapC.get rh (256 * c + 1) = _ from q7) (by simp) rfl rfl
    obtain ⟨h9, t1, t2⟩ := takeAll_ok (df := rd) (h := HeapC.set rh (256 * c + 1) (.cells false none [.int .i64 0])) q4 (fun d hd => by have := q5 d hd; rw [set_f, if_neg (by omega)]; exact this.1)
    have w2 : ld1 h9 (.pointer (some ⟨256 * c + 1, 0, none⟩)) = some (.int .i64 0) := by
      rw [ld1_holds' (cs := [.int .i64 0]) ⟨false, none, (t2 _ (fun hm => by have := q5 _ hm; omega)).trans (by rw [set_f, if_pos rfl])⟩]; rfl
    have q2' : ({ e := .exit 0, vs := rv, h := rh, c := rc, df := rd } : Rt FH).v 1 = ptrTo (256 * c + 1) := q2
    repeat' (first
     | ((with_reducible first | refine Ans.bz ?_ | refine Ans.r1 ?_ | refine Ans.pkT ?_ | refine Ans.pkF ?_); try dsimp only [v_zero, v_succ])
     | (with_reducible first | refine Ans.btL ?_ | refine Ans.bfL ?_ | refine Ans.gyT ?_ | refine Ans.gyF ?_ | refine Ans.gyG ?_ | refine Ans.bb ?_ | refine Ans.bc ?_ | refine Ans.ba ?_)
     | ((with_reducible first | refine Ans.lsT ?_ ?_ | refine Ans.leT ?_ ?_ | refine Ans.grT ?_ ?_ | refine Ans.geT ?_ ?_ | refine Ans.eqT ?_ ?_ | refine Ans.neT ?_ ?_); (focus omega))
     | ((with_reducible first | refine Ans.lsF ?_ ?_ | refine Ans.leF ?_ ?_ | refine Ans.grF ?_ ?_ | refine Ans.geF ?_ ?_ | refine Ans.eqF ?_ ?_ | refine Ans.neF ?_ ?_); (focus omega))
     | (with_reducible first | refine Ans.lsS (fun _ => ?_) (fun _ => ?_) | refine Ans.leS (fun _ => ?_) (fun _ => ?_) | refine Ans.grS (fun _ => ?_) (fun _ => ?_) | refine Ans.geS (fun _ => ?_) (fun _ => ?_) | refine Ans.eqS (fun _ => ?_) (fun _ => ?_) | refine Ans.neS (fun _ => ?_) (fun _ => ?_))
     | ((with_reducible first | refine Ans.addN ?_ ?_ | refine Ans.add ?_ ?_ | refine Ans.sub ?_ ?_ | refine Ans.mul ?_ ?_); (focus omega))
     | ((with_reducible first | refine Ans.ct ?_ ?_); (focus (simp (disch := (first | omega | with_reducible assumption | (simp <;> omega) | fail)) [l1, c1, hln, hq, q2', w1, t1, w2]; done)))
     | ((with_reducible first | refine Ans.cf ?_ ?_); (focus (simp (disch := (first | omega | with_reducible assumption | (simp <;> omega) | fail)) [l1, c1, hln, hq, q2', w1, t1, w2]; done)))
     | (refine Ans.step (by simp (disch := (first | omega | with_reducible assumption | (simp <;> omega) | fail)) [l1, c1, hln, hq, q2', w1, t1, w2, -List.getD_eq_getElem?_getD] <;> rfl) ?_; try dsimp only [v_zero, v_succ])
     | fail)
    refine Ans.pure rfl (fun b hb => ?_)
    show h9.f b = h.f b
    rw [t2 b (fun hm => by have := q5 _ hm; omega), set_f, if_neg (by omega), sR b hb]
  · have hall : ((List.range ss.length).all fun i => admB Gl n (Vs i)) = false := by
      rw [← Bool.not_eq_true, List.all_eq_true]
      intro hall
      have := hall i (by simpa using q8)
      rw [q9] at this; cases this
    rw [hall, if_neg (by simp)]
    obtain ⟨h9, t1, t2⟩ := takeAll_ok (df := rd) (h := rh) q4 (fun d hd => (q5 d hd).1)
    have w2 : ld1 h9 (.pointer (some ⟨256 * c + 1, 0, none⟩)) = some (.int .i64 130) := by
      rw [ld1_holds' (cs := [.int .i64 130]) ⟨false, none, (t2 _ (fun hm => by have := q5 _ hm; omega)).trans q7⟩]; rfl
    have q2' : ({ e := .ret, vs := rv, h := rh, c := rc, df := rd } : Rt FH).v 1 = ptrTo (256 * c + 1) := q2
    repeat' (first
     | ((with_reducible first | refine Ans.bz ?_ | refine Ans.r1 ?_ | refine Ans.pkT ?_ | refine Ans.pkF ?_); try dsimp only [v_zero, v_succ])
     | (with_reducible first | refine Ans.btL ?_ | refine Ans.bfL ?_ | refine Ans.gyT ?_ | refine Ans.gyF ?_ | refine Ans.gyG ?_ | refine Ans.bb ?_ | refine Ans.bc ?_ | refine Ans.ba ?_)
     | ((with_reducible first | refine Ans.lsT ?_ ?_ | refine Ans.leT ?_ ?_ | refine Ans.grT ?_ ?_ | refine Ans.geT ?_ ?_ | refine Ans.eqT ?_ ?_ | refine Ans.neT ?_ ?_); (focus omega))
     | ((with_reducible first | refine Ans.lsF ?_ ?_ | refine Ans.leF ?_ ?_ | refine Ans.grF ?_ ?_ | refine Ans.geF ?_ ?_ | refine Ans.eqF ?_ ?_ | refine Ans.neF ?_ ?_); (focus omega))
     | (with_reducible first | refine Ans.lsS (fun _ => ?_) (fun _ => ?_) | refine Ans.leS (fun _ => ?_) (fun _ => ?_) | refine Ans.grS (fun _ => ?_) (fun _ => ?_) | refine Ans.geS (fun _ => ?_) (fun _ => ?_) | refine Ans.eqS (fun _ => ?_) (fun _ => ?_) | refine Ans.neS (fun _ => ?_) (fun _ => ?_))
     | ((with_reducible first | refine Ans.addN ?_ ?_ | refine Ans.add ?_ ?_ | refine Ans.sub ?_ ?_ | refine Ans.mul ?_ ?_); (focus omega))
     | ((with_reducible first | refine Ans.ct ?_ ?_); (focus (simp (disch := (first | omega | with_reducible assumption | (simp <;> omega) | fail)) [l1, c1, hln, hq, q2', t1, w2]; done)))
     | ((with_reducible first | refine Ans.cf ?_ ?_); (focus (simp (disch := (first | omega | with_reducible assumption | (simp <;> omega) | fail)) [l1, c1, hln, hq, q2', t1, w2]; done)))
     | (refine Ans.step (by simp (disch := (first | omega | with_reducible assumption | (simp <;> omega) | fail)) [l1, c1, hln, hq, q2', t1, w2, -List.getD_eq_getElem?_getD] <;> rfl) ?_; try dsimp only [v_zero, v_succ])
     | fail)
    refine Ans.pure rfl (fun b hb => ?_)
    show h9.f b = h.f b
    rw [t2 b (fun hm => by have := q5 _ hm; omega), sR b hb]

theorem check1 (s v : Value) (n nv : Nat) (Gl V : List Int) (sb : Nat) (h : FH) (c : Nat) (hs : SlI h c s 20 n Gl) (hv : SlI h c v 1 nv V) (hx : SlX h v 1 nv) (hnv : nv ≤ 1000000) (hsb : sb < 256 * c) (hh : Holds h sb [v]) :
    callF G 47 [.agg #[s], .slice (some ⟨sb, 0, none⟩) 1 1] h c = some (.int .i64 (chkE Gl n (admB Gl n V)), h, c) := by
  have := checks_sp s n Gl [v] (fun _ => V) (fun _ => nv) sb h c [] hs hsb hh (by simp) (fun _ => hnv) (fun j hj => by
    match j, hj with
    | 0, _ => exact ⟨hv, hx⟩)
  have e : ((List.range [v].length).all fun i => admB Gl n V) = admB Gl n V := by simp
  rw [e] at this
  exact callF_of this

theorem checkN_sp (s v : Value) (n nv : Nat) (Gl V : List Int) (h : FH) (c : Nat) (df : List Nat) (hs : SlI h c s 20 n Gl) (hv : SlI h c v 1 nv V) (hx : SlX h v 1 nv) (hnv : nv ≤ 1000000) :
    G (.fn 17) [.agg #[s], v] h c df = some { e := .ret, vs := [.int .i64 (chkE Gl n (admB Gl n V))], h := h, c := c, df := [] } := by
  refine pure_of' (fun r e => f17_go e) (by simp) ?_
  unfold f17_S
  rw [flat1 hs.flat, cell1, Nat.add_zero]
  simp only [cond_true]
  have l1 : ldN (newB h (256 * c) [s]) 1 (.pointer (some ⟨256 * c, 0, none⟩)) = some (.agg #[s]) := ldN1_own (Holds.newB_same _ _ _)
  have hbl : bldL [(.slice none 0 0)] [(0, 1, v)] = some [v] := by
    obtain ⟨_, _, a, cap, rfl, _⟩ := hv
    rfl
  have sH : Same c h (newB (newB h (256 * c) [s]) (256 * (c + 1) + 2) [v]) := by simp (disch := omega)
  have c1 := check1 s v n nv Gl V (256 * (c + 1) + 2) (newB (newB h (256 * c) [s]) (256 * (c + 1) + 2) [v]) (c + 1 + 1) ((hs.same sH).mono (by omega)) ((hv.same sH).mono (by omega)) (SlX.keep hv sH hx) hnv (by omega) (Holds.newB_same _ _ _)
  repeat' (first
   | ((with_reducible first | refine Ans.bz ?_ | refine Ans.r1 ?_ | refine Ans.pkT ?_ | refine Ans.pkF ?_); try dsimp only [v_zero, v_succ])
   | (with_reducible first | refine Ans.btL ?_ | refine Ans.bfL ?_ | refine Ans.gyT ?_ | refine Ans.gyF ?_ | refine Ans.gyG ?_ | refine Ans.bb ?_ | refine Ans.bc ?_ | refine Ans.ba ?_)
   | ((with_reducible first | refine Ans.lsT ?_ ?_ | refine Ans.leT ?_ ?_ | refine Ans.grT ?_ ?_ | refine Ans.geT ?_ ?_ | refine Ans.eqT ?_ ?_ | refine Ans.neT ?_ ?_); (focus omega))
   | ((with_reducible first | refine Ans.lsF ?_ ?_ | refine Ans.leF ?_ ?_ | refine Ans.grF ?_ ?_ | refine Ans.geF ?_ ?_ | refine Ans.eqF ?_ ?_ | refine Ans.neF ?_ ?_); (focus omega))
   | (with_reducible first | refine Ans.lsS (fun _ => ?_) (fun _ => ?_) | refine Ans.leS (fun _ => ?_) (fun _ => ?_) | refine Ans.grS (fun _ => ?_) (fun _ => ?_) | refine Ans.geS (fun _ => ?_) (fun _ => ?_) | refine Ans.eqS (fun _ => ?_) (fun _ => ?_) | refine Ans.neS (fun _ => ?_) (fun _ => ?_))
   | ((with_reducible first | refine Ans.addN ?_ ?_ | refine Ans.add ?_ ?_ | refine Ans.sub ?_ ?_ | refine Ans.mul ?_ ?_); (focus omega))
   | ((with_reducible first | refine Ans.ct ?_ ?_); (focus (simp (disch := (first | omega | with_reducible assumption | (simp <;> omega) | fail)) [l1, hbl, c1]; done)))
   | ((with_reducible first | refine Ans.cf ?_ ?_); (focus (simp (disch := (first | omega | with_reducible assumption | (simp <;> omega) | fail)) [l1, hbl, c1]; done)))
   | (refine Ans.step (by simp (disch := (first | omega | with_reducible assumption | (simp <;> omega) | fail)) [l1, hbl, c1, -List.getD_eq_getElem?_getD] <;> rfl) ?_; try dsimp only [v_zero, v_succ])
   | fail)
  exact Ans.pure rfl sH
end Go.Proofs.Ytcnndelmnobigaa

/-! Slices of values that grow; rows of equations. -/
namespace Go.Ab
open Go
set_option linter.unusedVariables false
set_option linter.unusedSimpArgs false

/-- v is a slice of n values of its own block i from c0 on -/
def AppG (c0 : Nat) (h : FH) (c : Nat) (v : Value) (n : Nat) (cs : List Value) : Prop :=
  cs.length = n ∧ n ≤ 9223372036854775807 ∧ cs.all isFlat = true ∧
    ∃ i op, v = .slice (some ⟨i, 0, none⟩) n n ∧ 256 * c0 ≤ i ∧ i < 256 * c ∧ h.f i = some (.cells false op cs) ∧ (op = none ∨ op = some 1)
theorem AppG.flat {c0 : Nat} {h : FH} {c : Nat} {v : Value} {n : Nat} {cs : List Value} (ha : AppG c0 h c v n cs) : isFlat v = true ∧ v.cells = #[v] := by
  obtain ⟨_, _, _, i, op, rfl, _⟩ := ha; exact ⟨rfl, rfl⟩
theorem AppG.mono {c0 : Nat} {h : FH} {c c' : Nat} {v : Value} {n : Nat} {cs : List Value} (hc : c ≤ c') (ha : AppG c0 h c v n cs) : AppG c0 h c' v n cs := by
  obtain ⟨h1, h2, h3, i, op, h4, h5, h6, h7⟩ := ha
  exact ⟨h1, h2, h3, i, op, h4, h5, by omega, h7⟩
theorem AppG.blk {c0 : Nat} {h : FH} {c : Nat} {v : Value} {n : Nat} {cs : List Value} (ha : AppG c0 h c v n cs) : 256 * c0 ≤ blkOf v ∧ blkOf v < 256 * c := by
  obtain ⟨h1, h2, h3, i, op, rfl, h5, h6, h7⟩ := ha
  exact ⟨h5, h6⟩
theorem AppG.keep {c0 : Nat} {h h' : FH} {c : Nat} {v : Value} {n : Nat} {cs : List Value} (ha : AppG c0 h c v n cs) (hh : h'.f (blkOf v) = h.f (blkOf v)) : AppG c0 h' c v n cs := by
  obtain ⟨h1, h2, h3, i, op, rfl, h5, h6, h7, h8⟩ := ha
  exact ⟨h1, h2, h3, i, op, rfl, h5, h6, hh.trans h7, h8⟩
theorem AppG.app {c0 : Nat} {h : FH} {c c' : Nat} {v : Value} {n : Nat} {cs : List Value} (ha : AppG c0 h c v n cs) (x : Value) (hx : isFlat x = true) (by' b id : Nat) (hb : 256 * c ≤ b) (hid : 256 * c ≤ id) (hne : b ≠ id) (hc0 : c0 ≤ c)
    (hid' : id < 256 * c') (hlim : (n + 1) * (by' + 1) ≤ 17592186044416) :
    ∃ h', appV (newB h b [x]) id 1 by' v (.slice (some ⟨b, 0, none⟩) 1 1) = some (.slice (some ⟨id, 0, none⟩) (n + 1) (n + 1), h') ∧ AppG c0 h' c' (.slice (some ⟨id, 0, none⟩) (n + 1) (n + 1)) (n + 1) (cs ++ [x]) ∧
      (∀ j, j < 256 * c → j ≠ blkOf v → h'.f j = h.f j) := by
  obtain ⟨h1, h2, h3, i, op, rfl, h5, h6, h7, h8⟩ := ha
  have hlim' : Nat.ble ((n + 1) * (by' + 1)) 17592186044416 = true := Nat.ble_eq_true_of_le hlim
  have hsrc : srcCells (newB h b [x]) 1 (.slice (some ⟨b, 0, none⟩) 1 1) = some ([x], 1) := by
    have : Nat.ble (0 + 1 * 1) [x].length = true := rfl
    simp only [srcCells, rdCells, getCells, get_newB_same, Option.bind_some, this, cond_true, List.drop_zero]
    rfl
  have hn1 : n + 1 ≤ 17592186044416 := by
    have : (n + 1) * 1 ≤ (n + 1) * (by' + 1) := Nat.mul_le_mul_left _ (by omega)
    omega
  have hcap : Nat.ble (n + 1) n = false := by rw [Bool.eq_false_iff]; intro hh; have := Nat.le_of_ble_eq_true hh; omega
  have hfx : [x].all isFlat = true := by simp [hx]
  have hbi : i ≠ b := by omega
  have hg : HeapC.get (newB h b [x]) i = some (.cells false op cs) := by rw [get_newB_ne _ _ _ _ hbi]; exact h7
  have hr : Nat.ble (0 + n * 1) cs.length = true := Nat.ble_eq_true_of_le (by simp [h1])
  have ht : (cs.drop 0).take (n * 1) = cs := by rw [List.drop_zero, List.take_of_length_le (by omega)]
  rcases h8 with rfl | rfl
  · refine ⟨HeapC.set (newB h b [x]) id (.cells false (some 1) ((cs.drop 0).take (n * 1) ++ [x])), ?_, ⟨by simp [h1], by omega, by simp only [List.all_append, h3, hfx, Bool.and_self], id, some 1, rfl, by omega, hid', ?_, .inr rfl⟩, ?_⟩
    · simp only [appV, hsrc, Option.bind_some, appTo, hcap, cond_false, appGrow, hlim', hfx, Bool.and_self, cond_true, rdCells, getCells, hg, hr]
    · rw [set_f, if_pos rfl, ht]
    · intro j hj hne'
      rw [set_f, if_neg (by omega), newB_f, if_neg (by omega)]
  · refine ⟨HeapC.set (HeapC.set (newB h b [x]) i .dead) id (.cells false (some 1) ((cs.drop 0).take (n * 1) ++ [x])), ?_, ⟨by simp [h1], by omega, by simp only [List.all_append, h3, hfx, Bool.and_self], id, some 1, rfl, by omega, hid', ?_, .inr rfl⟩, ?_⟩
    · simp only [appV, hsrc, Option.bind_some, appTo, hcap, cond_false, appGrow, hlim', hfx, Bool.and_self, cond_true, rdCells, getCells, hg, hr, Nat.beq_refl, Bool.not_false, Bool.and_true]
    · rw [set_f, if_pos rfl, ht]
    · intro j hj hne'
      rw [blkOf_sl] at hne'
      rw [set_f, if_neg (by omega), set_f, if_neg hne', newB_f, if_neg (by omega)]

/-! ### Rows of equations -/
def addAt (L : List Int) (k : Nat) (d : Int) : List Int := L.set k (L.getD k 0 + d)
theorem addAt_length (L : List Int) (k : Nat) (d : Int) : (addAt L k d).length = L.length := by simp [addAt]
theorem addAt_bound {L : List Int} {B : Int} (h : ∀ k, -B ≤ L.getD k 0 ∧ L.getD k 0 ≤ B) (hB : 0 ≤ B) (q : Nat) (d : Int) (hd : -1 ≤ d ∧ d ≤ 1) : ∀ k, -(B + 1) ≤ (addAt L q d).getD k 0 ∧ (addAt L q d).getD k 0 ≤ B + 1 := by
  intro k
  have h1 := h k
  have h2 := h q
  unfold addAt
  by_cases hk : k < L.length
  · by_cases e : q = k
    · subst e
      rw [List.getD_eq_getElem?_getD, List.getElem?_set_self hk]
      simp only [Option.getD_some]
      omega
    · rw [List.getD_eq_getElem?_getD, List.getElem?_set_ne e, ← List.getD_eq_getElem?_getD]
      omega
  · rw [List.getD_eq_getElem?_getD, List.getElem?_eq_none (by simp; omega)]
    simp; omega
theorem dotL_zero : ∀ (n : Nat) (V : List Int), dotL (List.replicate n 0) V = 0
  | 0, V => by cases V <;> rfl
  | n + 1, [] => rfl
  | n + 1, x :: V => by rw [List.replicate_succ, dotL, dotL_zero n V]; omega
theorem dotL_addAt : ∀ (L V : List Int) (k : Nat) (d : Int), k < L.length → L.length = V.length → dotL (addAt L k d) V = dotL L V + d * V.getD k 0
  | [], V, k, d, h, _ => by simp at h
  | x :: L, [], k, d, _, h => by simp at h
  | x :: L, y :: V, 0, d, _, _ => by
    show (x + d) * y + dotL L V = x * y + dotL L V + d * y
    rw [Int.add_mul]; omega
  | x :: L, y :: V, k + 1, d, h, h' => by
    have := dotL_addAt L V k d (by simpa using h) (by simpa using h')
    show x * y + dotL (addAt L k d) V = x * y + dotL L V + d * V.getD k 0
    rw [this]; omega
/-- the row of an equation -/
def eqRow (n : Nat) (m : List Int) : List Int :=
  addAt (addAt (addAt (addAt (List.replicate (7 * n) 0) (7 * m.getD 0 0 + m.getD 2 0).toNat 1) (7 * m.getD 0 0 + 4 + ty (m.getD 2 0) (m.getD 1 0)).toNat 1)
    (7 * m.getD 3 0 + m.getD 5 0).toNat (-1)) (7 * m.getD 3 0 + 4 + ty (m.getD 5 0) (m.getD 4 0)).toNat (-1)
theorem eqRow_length (n : Nat) (m : List Int) : (eqRow n m).length = 7 * n := by simp [eqRow, addAt_length]
theorem zero_bound (n : Nat) : ∀ k, -(0 : Int) ≤ (List.replicate n (0 : Int)).getD k 0 ∧ (List.replicate n (0 : Int)).getD k 0 ≤ 0 := by
  intro k
  by_cases hk : k < n
  · simp [List.getD, hk]
  · simp [List.getD, List.getElem?_eq_none (by simp; omega : (List.replicate n (0 : Int)).length ≤ k)]
theorem eqRow_bound (n : Nat) (m : List Int) : ∀ k, -4 ≤ (eqRow n m).getD k 0 ∧ (eqRow n m).getD k 0 ≤ 4 := by
  have h1 := addAt_bound (zero_bound (7 * n)) (by omega) (7 * m.getD 0 0 + m.getD 2 0).toNat 1 (by omega)
  have h2 := addAt_bound h1 (by omega) (7 * m.getD 0 0 + 4 + ty (m.getD 2 0) (m.getD 1 0)).toNat 1 (by omega)
  have h3 := addAt_bound h2 (by omega) (7 * m.getD 3 0 + m.getD 5 0).toNat (-1) (by omega)
  exact addAt_bound h3 (by omega) (7 * m.getD 3 0 + 4 + ty (m.getD 5 0) (m.getD 4 0)).toNat (-1) (by omega)
/-- the row vanishes exactly if the equation holds -/
theorem eqRow_dot {n : Nat} {m V : List Int} (hV : V.length = 7 * n) (h1 : (7 * m.getD 0 0 + m.getD 2 0).toNat < 7 * n) (h2 : (7 * m.getD 0 0 + 4 + ty (m.getD 2 0) (m.getD 1 0)).toNat < 7 * n)
    (h3 : (7 * m.getD 3 0 + m.getD 5 0).toNat < 7 * n) (h4 : (7 * m.getD 3 0 + 4 + ty (m.getD 5 0) (m.getD 4 0)).toNat < 7 * n) :
    dotL (eqRow n m) V = arcV V (m.getD 0 0) (m.getD 1 0) (m.getD 2 0) - arcV V (m.getD 3 0) (m.getD 4 0) (m.getD 5 0) := by
  unfold eqRow
  rw [dotL_addAt _ _ _ _ (by rw [addAt_length, addAt_length, addAt_length, List.length_replicate]; exact h4) (by rw [addAt_length, addAt_length, addAt_length, List.length_replicate, hV]),
    dotL_addAt _ _ _ _ (by rw [addAt_length, addAt_length, List.length_replicate]; exact h3) (by rw [addAt_length, addAt_length, List.length_replicate, hV]),
    dotL_addAt _ _ _ _ (by rw [addAt_length, List.length_replicate]; exact h2) (by rw [addAt_length, List.length_replicate, hV]), dotL_addAt _ _ _ _ (by rw [List.length_replicate]; exact h1) (by rw [List.length_replicate, hV]), dotL_zero]
  unfold arcV gi
  omega
end Go.Ab

namespace Go.Proofs.Ytcnndelmnobigaa
open Go Go.Ab Go.Proofs
set_option maxRecDepth 100000
set_option linter.unusedVariables false
set_option linter.unusedSimpArgs false

def RowV (c0 : Nat) (h : FH) (c : Nat) (x : Value) (w : Nat) (L : List Int) : Prop := ∃ b, x = .slice (some ⟨b, 0, none⟩) w w ∧ 256 * c0 ≤ b ∧ b < 256 * c ∧ h.f b = some (.cells false none (ints L)) ∧ L.length = w ∧ w ≤ 1000000

structure EqI (s : Value) (n : Nat) (Gl : List Int) (gb g2 ob l c0 cb : Nat) (D : List (List Int)) (O : Nat → Prop) (h : FH) (c : Nat) : Prop where
  lc : cb ≤ c
  g : Holds h gb [s]
  gg : Holds h g2 [s]
  sl : SlI h c0 s 20 n Gl
  ng : ¬ O g2
  out : ∃ vo vals, O = (fun b => b = ob ∨ b = blkOf vo) ∧ h.f ob = some (.cells false none [vo]) ∧ AppG c0 h c vo D.length vals ∧ blkOf vo ≠ ob ∧ blkOf vo ≠ l ∧
    ∀ (k : Nat) (m : List Int), D[k]? = some m → ∃ x, vals[k]? = some x ∧ RowV c0 h c x (7 * n) (eqRow n m) ∧ blkOf x ≠ ob ∧ blkOf x ≠ blkOf vo ∧ blkOf x ≠ l

set_option maxHeartbeats 2000000 in
theorem eq_round (s : Value) (n : Nat) (Gl : List Int) (gb g2 ob c0 cb l : Nat) (st : ALoop) (hst : st.state = .ready) (hst2 : st.pending = none) (hok : okAll Gl n = true) (hn : n ≤ 60)
    (hgb : gb < 256 * c0) (hg2 : g2 < 256 * cb) (hob : ob < 256 * cb) (hl : l < 256 * cb) (hc0 : c0 ≤ cb) (h1 : l ≠ gb) (h2 : l ≠ g2) (h3 : l ≠ ob) (hgo : gb ≠ ob) (hg2o : g2 ≠ ob) (hls : 0 < n → blkOf s ≠ l ∧ blkOf s ≠ ob)
    {D : List (List Int)} {O : Nat → Prop} {h : FH} {c t f i : Nat} (ht : t < n) (hf : f < 4) (hi : i < 4) (hif : i ≠ f) (hsk : mSkip Gl t f = false) (hI : EqI s n Gl gb g2 ob l c0 cb D O h c) (hD : D.length < 100000) (hlp : h.f l = some (.loop st)) :
    Ans (f27_R27000 G l (av (mRow Gl t f i)) (ptrTo gb) (ptrTo ob) h c) (fun r => c ≤ r.c ∧ ∃ O', (∀ b, O' b → O b ∨ 256 * c ≤ b) ∧ (∀ b, b < 256 * c → ¬ O b → b ≠ l → r.h.f b = h.f b) ∧
      (r.vs = [.bool true] ∧ r.h.f l = some (.loop st) ∧ EqI s n Gl gb g2 ob l c0 cb (D ++ [mRow Gl t f i]) O' r.h r.c)) := by
  have hlc := hI.lc
  have hG := hI.sl.1
  obtain ⟨k1, k2, k3⟩ := mRow_ok hok hG ht hf hi hif hsk
  have hpf := range24 k3 hf
  have hpi := range24 k3 hi
  have hpn := ne24 k3 hi hf hif
  have m0 : (mRow Gl t f i).getD 0 0 = t := rfl
  have m1 : (mRow Gl t f i).getD 1 0 = f := rfl
  have m2 : (mRow Gl t f i).getD 2 0 = i := rfl
  have m3 : (mRow Gl t f i).getD 3 0 = tetL (faceL Gl t f) := rfl
  have m4 : (mRow Gl t f i).getD 4 0 = (permL (faceL Gl t f)).getD f 0 := rfl
  have m5 : (mRow Gl t f i).getD 5 0 = (permL (faceL Gl t f)).getD i 0 := rfl
  have ml : (mRow Gl t f i).length = 6 := rfl
  obtain ⟨M, hM⟩ : ∃ M, mRow Gl t f i = M := ⟨_, rfl⟩
  obtain ⟨U, hU⟩ : ∃ U, tetL (faceL Gl t f) = U := ⟨_, rfl⟩
  obtain ⟨Y, hY⟩ : ∃ Y, (permL (faceL Gl t f)).getD f 0 = Y := ⟨_, rfl⟩
  obtain ⟨Z, hZ⟩ : ∃ Z, (permL (faceL Gl t f)).getD i 0 = Z := ⟨_, rfl⟩
  rw [hM] at m0 m1 m2 m3 m4 m5 ml ⊢
  rw [hU] at k1 k2 m3
  rw [hY] at hpf m4 hpn
  rw [hZ] at hpi m5 hpn
  have hn0 : 0 < n := by omega
  obtain ⟨ls1, ls2⟩ := hls hn0
  have bs := hI.sl.blk hn0
  have hg2O := hI.ng
  obtain ⟨vo, vals, o1, o2, o3, o4, hlvo, o5⟩ := hI.out
  have bvo := o3.blk
  have hg2vo : g2 ≠ blkOf vo := fun e => hg2O (by rw [o1]; exact .inr e)
  have e1 : eqRow n M = addAt (addAt (addAt (addAt (List.replicate (7 * n) 0) (7 * (t : Int) + i).toNat 1) (7 * (t : Int) + 4 + ty i f).toNat 1) (7 * U + Z).toNat (-1)) (7 * U + 4 + ty Z Y).toNat (-1) := by
    unfold eqRow
    rw [m0, m1, m2, m3, m4, m5]
  have tr1 := ty_range (i := (i : Int)) (f := (f : Int)) (by omega) (by omega) (by omega) (by omega) (by omega)
  have tr2 := ty_range hpi.1 hpi.2 hpf.1 hpf.2 hpn
  obtain ⟨T1, hT1⟩ : ∃ T, ty i f = T := ⟨_, rfl⟩
  obtain ⟨T2, hT2⟩ : ∃ T, ty Z Y = T := ⟨_, rfl⟩
  have x1 := ixV_avs tyT 4 4 .i64 (i : Int) (by omega) (by omega) rfl
  have x2 := ixV_av ((tyT.drop ((i : Int).toNat * 4)).take 4) 4 .i64 (f : Int) (by omega) (by omega) (by simp [tyT]; omega)
  rw [show ((tyT.drop ((i : Int).toNat * 4)).take 4).getD (f : Int).toNat 0 = ty i f from rfl, hT1] at x2
  have x3 := ixV_avs tyT 4 4 .i64 Z hpi.1 (by omega) rfl
  have x4 := ixV_av ((tyT.drop (Z.toNat * 4)).take 4) 4 .i64 Y hpf.1 (by omega) (by simp [tyT]; omega)
  rw [show ((tyT.drop (Z.toNat * 4)).take 4).getD Y.toNat 0 = ty Z Y from rfl, hT2] at x4
  obtain ⟨A1, hA1⟩ : ∃ A, (tyT.drop ((i : Int).toNat * 4)).take 4 = A := ⟨_, rfl⟩
  obtain ⟨A2, hA2⟩ : ∃ A, (tyT.drop (Z.toNat * 4)).take 4 = A := ⟨_, rfl⟩
  rw [hA1] at x1 x2
  rw [hA2] at x3 x4
  rw [hT1] at e1 tr1
  rw [hT2] at e1 tr2
  -- the stages of the row
  obtain ⟨L0, hL0⟩ : ∃ L, L = List.replicate (7 * n) (0 : Int) := ⟨_, rfl⟩
  obtain ⟨L1, hL1⟩ : ∃ L, L = addAt L0 (7 * (t : Int) + i).toNat 1 := ⟨_, rfl⟩
  obtain ⟨L2, hL2⟩ : ∃ L, L = addAt L1 (7 * (t : Int) + 4 + T1).toNat 1 := ⟨_, rfl⟩
  obtain ⟨L3, hL3⟩ : ∃ L, L = addAt L2 (7 * U + Z).toNat (-1) := ⟨_, rfl⟩
  rw [← hL0, ← hL1, ← hL2, ← hL3] at e1
  have n0 : L0.length = 7 * n := by rw [hL0]; simp
  have n1 : L1.length = 7 * n := by rw [hL1, addAt_length, n0]
  have n2 : L2.length = 7 * n := by rw [hL2, addAt_length, n1]
  have n3 : L3.length = 7 * n := by rw [hL3, addAt_length, n2]
  have n4 := eqRow_length n M
  have b0 : ∀ k, -(0 : Int) ≤ L0.getD k 0 ∧ L0.getD k 0 ≤ 0 := by rw [hL0]; exact zero_bound _
  have b1 := addAt_bound b0 (by omega) (7 * (t : Int) + i).toNat 1 (by omega)
  rw [← hL1] at b1
  have b2 := addAt_bound b1 (by omega) (7 * (t : Int) + 4 + T1).toNat 1 (by omega)
  rw [← hL2] at b2
  have b3 := addAt_bound b2 (by omega) (7 * U + Z).toNat (-1) (by omega)
  rw [← hL3] at b3
  have b0' := b0 (7 * (t : Int) + i).toNat
  have b1' := b1 (7 * (t : Int) + 4 + T1).toNat
  have b2' := b2 (7 * U + Z).toNat
  have b3' := b3 (7 * U + 4 + T2).toNat
  clear b0 b1 b2 b3
  obtain ⟨H, hH⟩ : ∃ H, H = HeapC.set (newB h (256 * c) (ints M)) l (.loop { st with state := .busy }) := ⟨_, rfl⟩
  have hb : beginSt (newB h (256 * c) (ints M)) l = some H := by
    rw [hH]
    exact beginSt_of (by rw [get_newB_ne _ _ _ _ (by omega)]; exact hlp) hst
  have r0 : ∀ j, j < 256 * c → j ≠ l → H.f j = h.f j := by
    intro j hj hne
    rw [hH, set_f, if_neg hne, newB_f, if_neg (by omega)]
  have rl : H.f l = some (.loop { st with state := .busy }) := by rw [hH, set_f, if_pos rfl]
  have hA : Holds H (256 * c) (ints M) := by rw [hH]; exact ((Holds.newB_same h _ _).set_ne (by omega))
  clear hH
  have rd : ∀ j : Nat, j < 6 → ld1 H (.pointer (some ⟨256 * c, j, none⟩)) = some (.int .i64 (M.getD j 0)) := fun j hj => by rw [ld1_holds' hA, ints_getD _ _ (by omega)]
  have a0 := rd 0 (by omega)
  have a1 := rd 1 (by omega)
  have a2 := rd 2 (by omega)
  have a3 := rd 3 (by omega)
  have a4 := rd 4 (by omega)
  have a5 := rd 5 (by omega)
  clear rd
  rw [m0] at a0
  rw [m1] at a1
  rw [m2] at a2
  rw [m3] at a3
  rw [m4] at a4
  rw [m5] at a5
  have lg : ld1 H (.pointer (some ⟨gb, 0, none⟩)) = some s := by rw [ld1_holds' (hI.g.eqf (r0 gb (by omega) (Ne.symm h1)))]; rfl
  have lo : ld1 H (.pointer (some ⟨ob, 0, none⟩)) = some vo := by rw [ld1_holds' (cs := [vo]) ⟨false, none, (r0 ob (by omega) (Ne.symm h3)).trans o2⟩]; rfl
  have ll := hI.sl.len
  have hst6 : stN (newB h (256 * c) [.int .i64 0, .int .i64 0, .int .i64 0, .int .i64 0, .int .i64 0, .int .i64 0]) 6 (.pointer (some ⟨256 * c, 0, none⟩)) (av M) = some (newB h (256 * c) (ints M)) := stN_all _ _ 6 _ _ ml rfl
  have mk := mkS_int 1 8 .i64 .i64 (7 * n) (by omega) (by omega)
  rw [← hL0, show ((7 * n : Nat) : Int) = 7 * (n : Int) by omega] at mk
  obtain ⟨rb, hrb⟩ : ∃ rb, rb = 256 * (c + 1) + 4 := ⟨_, rfl⟩
  have ld0 : ld1 (newB H rb (ints L0)) (.pointer (some ⟨rb, (7 * (t : Int) + i).toNat, none⟩)) = some (.int .i64 (L0.getD (7 * (t : Int) + i).toNat 0)) := ld1_ints _ _ _ _ (by omega)
  have st0 : stN (newB H rb (ints L0)) 1 (.pointer (some ⟨rb, (7 * (t : Int) + i).toNat, none⟩)) (.int .i64 (L0.getD (7 * (t : Int) + i).toNat 0 + 1)) = some (newB H rb (ints L1)) := by
    rw [st1_int _ _ _ _ _ _ (by simp; omega), ints_set, hL1]; rfl
  have ld1' : ld1 (newB H rb (ints L1)) (.pointer (some ⟨rb, (7 * (t : Int) + 4 + T1).toNat, none⟩)) = some (.int .i64 (L1.getD (7 * (t : Int) + 4 + T1).toNat 0)) := ld1_ints _ _ _ _ (by omega)
  have st1' : stN (newB H rb (ints L1)) 1 (.pointer (some ⟨rb, (7 * (t : Int) + 4 + T1).toNat, none⟩)) (.int .i64 (L1.getD (7 * (t : Int) + 4 + T1).toNat 0 + 1)) = some (newB H rb (ints L2)) := by
    rw [st1_int _ _ _ _ _ _ (by simp; omega), ints_set, hL2]; rfl
  have ld2 : ld1 (newB H rb (ints L2)) (.pointer (some ⟨rb, (7 * U + Z).toNat, none⟩)) = some (.int .i64 (L2.getD (7 * U + Z).toNat 0)) := ld1_ints _ _ _ _ (by omega)
  have st2 : stN (newB H rb (ints L2)) 1 (.pointer (some ⟨rb, (7 * U + Z).toNat, none⟩)) (.int .i64 (L2.getD (7 * U + Z).toNat 0 - 1)) = some (newB H rb (ints L3)) := by
    rw [st1_int _ _ _ _ _ _ (by simp; omega), ints_set, hL3]; rfl
  have ld3 : ld1 (newB H rb (ints L3)) (.pointer (some ⟨rb, (7 * U + 4 + T2).toNat, none⟩)) = some (.int .i64 (L3.getD (7 * U + 4 + T2).toNat 0)) := ld1_ints _ _ _ _ (by omega)
  have st3 : stN (newB H rb (ints L3)) 1 (.pointer (some ⟨rb, (7 * U + 4 + T2).toNat, none⟩)) (.int .i64 (L3.getD (7 * U + 4 + T2).toNat 0 - 1)) = some (newB H rb (ints (eqRow n M))) := by
    rw [st1_int _ _ _ _ _ _ (by simp; omega), ints_set, e1]; rfl
  obtain ⟨R4, hR4⟩ : ∃ R, newB H rb (ints (eqRow n M)) = R := ⟨_, rfl⟩
  rw [hR4] at st3
  have fR : ∀ b, b ≠ rb → R4.f b = H.f b := fun b hb => by rw [← hR4, newB_f, if_neg hb]
  have fRb : R4.f rb = some (.cells false none (ints (eqRow n M))) := by rw [← hR4, newB_f, if_pos rfl]
  have lo' : ld1 R4 (.pointer (some ⟨ob, 0, none⟩)) = some vo := by rw [← hR4, ld1_newB_ne _ _ _ _ _ (by omega)]; exact lo
  obtain ⟨d0, hd0⟩ : ∃ d, L0.getD (7 * (t : Int) + i).toNat 0 = d := ⟨_, rfl⟩
  obtain ⟨d1, hd1⟩ : ∃ d, L1.getD (7 * (t : Int) + 4 + T1).toNat 0 = d := ⟨_, rfl⟩
  obtain ⟨d2, hd2⟩ : ∃ d, L2.getD (7 * U + Z).toNat 0 = d := ⟨_, rfl⟩
  obtain ⟨d3, hd3⟩ : ∃ d, L3.getD (7 * U + 4 + T2).toNat 0 = d := ⟨_, rfl⟩
  rw [hd0] at ld0 st0 b0'
  rw [hd1] at ld1' st1' b1'
  rw [hd2] at ld2 st2 b2'
  rw [hd3] at ld3 st3 b3'
  have hbl : bldL [(.slice none 0 0)] [(0, 1, (.slice (some ⟨rb, 0, none⟩) (7 * n) (7 * n)))] = some [.slice (some ⟨rb, 0, none⟩) (7 * n) (7 * n)] := rfl
  obtain ⟨h', p1, p2, p3⟩ := ((o3.keep (h' := R4) (by rw [fR _ (by omega), r0 _ (by omega) hlvo])).mono (c' := c + 1 + 1 + 1 + 1 + 1 + 1) (by omega)).app (c' := c + 1 + 1 + 1 + 1 + 1 + 1 + 1) (.slice (some ⟨rb, 0, none⟩) (7 * n) (7 * n)) rfl 24 (256 * (c + 1 + 1 + 1 + 1 + 1 + 1) + 2) (256 * (c + 1 + 1 + 1 + 1 + 1 + 1) + 3) (by omega) (by omega) (by omega) (by omega) (by omega) (by omega)
  have ho' : h'.f ob = some (.cells false none [vo]) := by rw [p3 ob (by omega) (Ne.symm o4), fR ob (by omega), r0 ob (by omega) (Ne.symm h3), o2]
  obtain ⟨id, hid⟩ : ∃ id, id = 256 * (c + 1 + 1 + 1 + 1 + 1 + 1) + 3 := ⟨_, rfl⟩
  rw [← hid] at p1 p2
  have w1 := st1_get (v := .slice (some ⟨id, 0, none⟩) (D.length + 1) (D.length + 1)) (o := 0) (show HeapC.get h' ob = _ from ho') (by simp) rfl rfl
  have hl' : h'.f l = some (.loop { st with state := .busy }) := by rw [p3 l (by omega) (Ne.symm hlvo), fR l (by omega), rl]
  have sT : setState (HeapC.set h' ob (.cells false none [.slice (some ⟨id, 0, none⟩) (D.length + 1) (D.length + 1)])) l .ready none = some (HeapC.set (HeapC.set h' ob (.cells false none [.slice (some ⟨id, 0, none⟩) (D.length + 1) (D.length + 1)])) l (.loop st)) := by
    rw [setState_of (st := { st with state := .busy }) (by rw [get_set_ne _ _ _ _ h3]; exact hl')]
    congr 3
    rw [← hst, ← hst2]
  unfold f27_R27000
  rw [← hrb]
  repeat' (first
   | ((with_reducible first | refine Ans.bz ?_ | refine Ans.r1 ?_ | refine Ans.pkT ?_ | refine Ans.pkF ?_); try dsimp only [v_zero, v_succ])
   | (with_reducible first | refine Ans.btL ?_ | refine Ans.bfL ?_ | refine Ans.gyT ?_ | refine Ans.gyF ?_ | refine Ans.gyG ?_ | refine Ans.bb ?_ | refine Ans.bc ?_ | refine Ans.ba ?_)
   | ((with_reducible first | refine Ans.lsT ?_ ?_ | refine Ans.leT ?_ ?_ | refine Ans.grT ?_ ?_ | refine Ans.geT ?_ ?_ | refine Ans.eqT ?_ ?_ | refine Ans.neT ?_ ?_); (focus omega))
   | ((with_reducible first | refine Ans.lsF ?_ ?_ | refine Ans.leF ?_ ?_ | refine Ans.grF ?_ ?_ | refine Ans.geF ?_ ?_ | refine Ans.eqF ?_ ?_ | refine Ans.neF ?_ ?_); (focus omega))
   | (with_reducible first | refine Ans.lsS (fun _ => ?_) (fun _ => ?_) | refine Ans.leS (fun _ => ?_) (fun _ => ?_) | refine Ans.grS (fun _ => ?_) (fun _ => ?_) | refine Ans.geS (fun _ => ?_) (fun _ => ?_) | refine Ans.eqS (fun _ => ?_) (fun _ => ?_) | refine Ans.neS (fun _ => ?_) (fun _ => ?_))
   | ((with_reducible first | refine Ans.addN ?_ ?_ | refine Ans.add ?_ ?_ | refine Ans.sub ?_ ?_ | refine Ans.mul ?_ ?_); (focus omega))
   | ((with_reducible first | refine Ans.ct ?_ ?_); (focus (simp (disch := (first | omega | with_reducible assumption | (simp <;> omega) | fail)) [hst6, hb, lg, lo, ll, mk, a0, a1, a2, a3, a4, a5, ld0, st0, ld1', st1', ld2, st2, ld3, st3, callF_types, x1, x2, x3, x4, lo', hbl, ← hid, p1, w1, sT, -ld1_newB_same]; done)))
   | ((with_reducible first | refine Ans.cf ?_ ?_); (focus (simp (disch := (first | omega | with_reducible assumption | (simp <;> omega) | fail)) [hst6, hb, lg, lo, ll, mk, a0, a1, a2, a3, a4, a5, ld0, st0, ld1', st1', ld2, st2, ld3, st3, callF_types, x1, x2, x3, x4, lo', hbl, ← hid, p1, w1, sT, -ld1_newB_same]; done)))
   | (refine Ans.step (by simp (disch := (first | omega | with_reducible assumption | (simp <;> omega) | fail)) [hst6, hb, lg, lo, ll, mk, a0, a1, a2, a3, a4, a5, ld0, st0, ld1', st1', ld2, st2, ld3, st3, callF_types, x1, x2, x3, x4, lo', hbl, ← hid, p1, w1, sT, -ld1_newB_same, -List.getD_eq_getElem?_getD] <;> rfl) ?_; try dsimp only [v_zero, v_succ])
   | fail)
  have fin : ∀ b, b < 256 * c → ¬ O b → b ≠ l → (HeapC.set (HeapC.set h' ob (.cells false none [.slice (some ⟨id, 0, none⟩) (D.length + 1) (D.length + 1)])) l (.loop st) : FH).f b = h.f b := fun b g1 g2 g3 => by
    rw [o1] at g2
    simp only [not_or] at g2
    rw [set_f, if_neg g3, set_f, if_neg g2.1, p3 b (by omega) g2.2, fR b (by omega), r0 b g1 g3]
  have hgO : ¬ O gb := by
    rw [o1]
    rintro (e | e)
    · exact hgo e
    · omega
  refine .done ⟨(by show c ≤ c + 1 + 1 + 1 + 1 + 1 + 1 + 1; omega), (fun b => b = ob ∨ b = id), fun b hb => ?_, fin, rfl, ?_, ?_⟩
  · rcases hb with rfl | rfl
    · rw [o1]; exact .inl (.inl rfl)
    · exact .inr (by omega)
  · show (HeapC.set _ _ _ : FH).f l = _
    rw [set_f, if_pos rfl]
  · have ob' : (HeapC.set (HeapC.set h' ob (.cells false none [.slice (some ⟨id, 0, none⟩) (D.length + 1) (D.length + 1)])) l (.loop st) : FH).f ob = some (.cells false none [.slice (some ⟨id, 0, none⟩) (D.length + 1) (D.length + 1)]) := by rw [set_f, if_neg (Ne.symm h3), set_f, if_pos rfl]
    refine ⟨by show cb ≤ c + 1 + 1 + 1 + 1 + 1 + 1 + 1; omega, hI.g.eqf (fin gb (by omega) hgO (Ne.symm h1)), hI.gg.eqf (fin g2 (by omega) hg2O (Ne.symm h2)), hI.sl.keep (fun _ => fin _ (by omega) (by rw [o1]; rintro (e | e); exact ls2 e; omega) ls1), by rintro (e | e); exact hg2o e; omega, .slice (some ⟨id, 0, none⟩) (D.length + 1) (D.length + 1), vals ++ [.slice (some ⟨rb, 0, none⟩) (7 * n) (7 * n)], rfl, ob', ?_, by rw [blkOf_sl]; omega, by rw [blkOf_sl]; omega, ?_⟩
    · have e : (D ++ [M]).length = D.length + 1 := by simp
      rw [e]
      exact p2.keep (by rw [blkOf_sl, set_f, if_neg (by omega), set_f, if_neg (by omega)])
    · intro k m hk
      have hvl : vals.length = D.length := o3.1
      rcases Nat.lt_or_ge k D.length with hkl | hkl
      · rw [List.getElem?_append_left hkl] at hk
        obtain ⟨x, x1, ⟨b, rfl, y1, y2, y3, y4, y5⟩, x3, x4, hbl'⟩ := o5 k m hk
        rw [blkOf_sl] at x3 x4 hbl'
        refine ⟨_, by rw [List.getElem?_append_left (by omega)]; exact x1, ⟨b, rfl, y1, by show b < 256 * (c + 1 + 1 + 1 + 1 + 1 + 1 + 1); omega, ?_, y4, y5⟩, by rw [blkOf_sl]; exact x3, by rw [blkOf_sl, blkOf_sl]; omega, by rw [blkOf_sl]; exact hbl'⟩
        rw [← y3]
        exact fin b (by omega) (by rw [o1]; rintro (e | e); exact x3 e; exact x4 e) hbl'
      · have hk0 : k = D.length := by
          have := (List.getElem?_eq_some_iff.1 hk).1
          simp at this; omega
        subst hk0
        rw [List.getElem?_append_right (Nat.le_refl _), Nat.sub_self] at hk
        cases hk
        refine ⟨_, by rw [List.getElem?_append_right (by omega), hvl, Nat.sub_self]; rfl, ⟨rb, rfl, by omega, by show rb < 256 * (c + 1 + 1 + 1 + 1 + 1 + 1 + 1); omega, ?_, n4, by omega⟩, by rw [blkOf_sl]; omega, by rw [blkOf_sl, blkOf_sl]; omega, by rw [blkOf_sl]; omega⟩
        show (HeapC.set _ _ _ : FH).f rb = _
        rw [set_f, if_neg (by omega), set_f, if_neg (by omega), p3 rb (by omega) (by omega), fRb]
end Go.Proofs.Ytcnndelmnobigaa

namespace Go.Proofs.Ytcnndelmnobigaa
open Go Go.Ab Go.Proofs
set_option maxRecDepth 100000
set_option linter.unusedVariables false
set_option linter.unusedSimpArgs false

theorem eq_roundI (s : Value) (n : Nat) (Gl : List Int) (gb g2 ob l c0 cb : Nat) (hok : okAll Gl n = true) (hn : n ≤ 60)
    (hgb : gb < 256 * c0) (hg2 : g2 < 256 * cb) (hob : ob < 256 * cb) (hl : l < 256 * cb) (hc0 : c0 ≤ cb) (h1 : l ≠ gb) (h2 : l ≠ g2) (h3 : l ≠ ob) (hgo : gb ≠ ob) (hg2o : g2 ≠ ob) (hls : 0 < n → blkOf s ≠ l ∧ blkOf s ≠ ob) :
    RoundI s n Gl g2 l cb (entryL 83 [1, 5] #[16] f27_a27000 f27_c27000 [ptrTo gb, ptrTo ob] (l + 1)) none [ptrTo gb, ptrTo ob] (EqI s n Gl gb g2 ob l c0 cb) (fun _ _ _ => False) where
  stab := fun D O h c h' c' hi hc hs => by
    have := hi.lc
    obtain ⟨vo, vals, o1, o2, o3, o4, o5, o6⟩ := hi.out
    have bvo := o3.blk
    refine ⟨by omega, hi.g.eqf (hs _ (by omega) (Ne.symm h1)), hi.gg.eqf (hs _ (by omega) (Ne.symm h2)), hi.sl.keep (fun hp => hs _ (by have := hi.sl.blk hp; omega) (hls hp).1), hi.ng, vo, vals, o1, (hs _ (by omega) (Ne.symm h3)).trans o2, (o3.keep (hs _ bvo.2 o5)).mono hc, o4, o5, fun k m hk => ?_⟩
    obtain ⟨x, x1, ⟨b, rfl, y1, y2, y3, y4, y5⟩, x3, x4, x5⟩ := o6 k m hk
    exact ⟨_, x1, ⟨b, rfl, y1, by omega, (hs b y2 x5).trans y3, y4, y5⟩, x3, x4, x5⟩
  jstab := fun O h c h' c' hj hc hs => hj
  own := fun D O h c hi b hb => by
    have := hi.lc
    obtain ⟨vo, vals, o1, o2, o3, o4, o5, o6⟩ := hi.out
    rw [o1] at hb
    rcases hb with rfl | rfl
    · omega
    · exact o3.blk.2
  ownJ := fun O h c hj b hb => hj.elim
  read := fun D O h c hi => ⟨hi.gg, hi.sl.mono (by have := hi.lc; omega)⟩
  step := fun D O h c t f i ht hf hi hif hsk hpre hc hI hlp => by
    obtain ⟨R, hR⟩ := hpre
    have hD : D.length < 100000 := by
      have h1 := congrArg List.length hR
      have h2 := allM_length Gl n
      simp at h1; omega
    obtain ⟨r, hr, q1, O', q2, q3, q4⟩ := eq_round s n Gl gb g2 ob c0 cb l _ rfl rfl hok hn hgb hg2 hob hl hc0 h1 h2 h3 hgo hg2o hls ht hf hi hif hsk hI hD hlp
    exact ⟨r, f27_G27000 hr, q1, O', q2, q3, .inl q4⟩

def EqV (c0 : Nat) (h : FH) (c n : Nat) (Gl : List Int) (v : Value) : Prop :=
  ∃ vals, AppG c0 h c v (allM Gl n).length vals ∧ ∀ (k : Nat) (m : List Int), (allM Gl n)[k]? = some m → ∃ x, vals[k]? = some x ∧ RowV c0 h c x (7 * n) (eqRow n m)

set_option maxHeartbeats 1000000 in
theorem equations_sp (s : Value) (n : Nat) (Gl : List Int) (h : FH) (c : Nat) (df : List Nat) (hs : SlI h c s 20 n Gl) :
    Ans (G (.fn 27) [.agg #[s]] h c df) fun r => r.e = .ret ∧ r.df = [] ∧ c ≤ r.c ∧ Same c h r.h ∧
      ((refE Gl n ≠ 0 ∧ r.vs = [.tuple #[.slice none 0 0, .int .i64 (refE Gl n)]]) ∨ (refE Gl n = 0 ∧ ∃ v, r.vs = [.tuple #[v, .int .i64 0]] ∧ EqV c r.h r.c n Gl v)) := by
  refine Ans.call' (fun r e => f27_go e) ?_
  unfold f27_S
  rw [flat1 hs.flat, cell1, Nat.add_zero]
  simp only [cond_true]
  obtain ⟨H, hH⟩ : ∃ H, H = newB h (256 * c) [s] := ⟨_, rfl⟩
  have sH : Same c h H := by rw [hH]; simp (disch := omega)
  have hg : Holds H (256 * c) [s] := by rw [hH]; exact Holds.newB_same _ _ _
  rw [← hH]
  clear hH
  have l1 := ldN1_own hg
  have c1 := callF_of (refused_sp s n Gl H (c + 1 + 1) [] ((hs.same sH).mono (by omega)))
  obtain ⟨E, hE⟩ : ∃ E, refE Gl n = E := ⟨_, rfl⟩
  have hE0 : E = 0 → n ≤ 60 ∧ okAll Gl n = true := fun e => refE_zero (hE.trans e)
  rw [hE] at c1 ⊢
  by_cases h0 : E = 0
  case neg =>
    repeat' (first
     | ((with_reducible first | refine Ans.bz ?_ | refine Ans.r1 ?_ | refine Ans.pkT ?_ | refine Ans.pkF ?_); try dsimp only [v_zero, v_succ])
     | (with_reducible first | refine Ans.btL ?_ | refine Ans.bfL ?_ | refine Ans.gyT ?_ | refine Ans.gyF ?_ | refine Ans.gyG ?_ | refine Ans.bb ?_ | refine Ans.bc ?_ | refine Ans.ba ?_)
     | ((with_reducible first | refine Ans.lsT ?_ ?_ | refine Ans.leT ?_ ?_ | refine Ans.grT ?_ ?_ | refine Ans.geT ?_ ?_ | refine Ans.eqT ?_ ?_ | refine Ans.neT ?_ ?_); (focus omega))
     | ((with_reducible first | refine Ans.lsF ?_ ?_ | refine Ans.leF ?_ ?_ | refine Ans.grF ?_ ?_ | refine Ans.geF ?_ ?_ | refine Ans.eqF ?_ ?_ | refine Ans.neF ?_ ?_); (focus omega))
     | (with_reducible first | refine Ans.lsS (fun _ => ?_) (fun _ => ?_) | refine Ans.leS (fun _ => ?_) (fun _ => ?_) | refine Ans.grS (fun _ => ?_) (fun _ => ?_) | refine Ans.geS (fun _ => ?_) (fun _ => ?_) | refine Ans.eqS (fun _ => ?_) (fun _ => ?_) | refine Ans.neS (fun _ => ?_) (fun _ => ?_))
     | ((with_reducible first | refine Ans.addN ?_ ?_ | refine Ans.add ?_ ?_ | refine Ans.sub ?_ ?_ | refine Ans.mul ?_ ?_); (focus omega))
     | ((with_reducible first | refine Ans.ct ?_ ?_); (focus (simp (disch := (first | omega | with_reducible assumption | (simp <;> omega) | fail)) [l1, c1]; done)))
     | ((with_reducible first | refine Ans.cf ?_ ?_); (focus (simp (disch := (first | omega | with_reducible assumption | (simp <;> omega) | fail)) [l1, c1]; done)))
     | (refine Ans.step (by simp (disch := (first | omega | with_reducible assumption | (simp <;> omega) | fail)) [l1, c1, -List.getD_eq_getElem?_getD] <;> rfl) ?_; try dsimp only [v_zero, v_succ])
     | fail)
    exact .done ⟨rfl, rfl, (by show c ≤ c + 1 + 1 + 1 + 1; omega), sH, .inl ⟨h0, rfl⟩⟩
  obtain ⟨hn, hok⟩ := hE0 h0
  have hb0 : bldL [] [] = some [] := rfl
  obtain ⟨N, hN⟩ : ∃ N, N = newB (newB H (256 * (c + 1 + 1 + 1)) []) (256 * (c + 1 + 1 + 1) + 1) [.slice (some ⟨256 * (c + 1 + 1 + 1), 0, none⟩) 0 0] := ⟨_, rfl⟩
  have hst : stN (newB (newB H (256 * (c + 1 + 1 + 1)) []) (256 * (c + 1 + 1 + 1) + 1) [.slice none 0 0]) 1 (.pointer (some ⟨256 * (c + 1 + 1 + 1) + 1, 0, none⟩)) (.slice (some ⟨256 * (c + 1 + 1 + 1), 0, none⟩) 0 0) = some N := by
    rw [hN, st1_sl _ _ _ _ _ _ _ (by simp)]; rfl
  have fN : ∀ b, b < 256 * (c + 1 + 1 + 1) → N.f b = H.f b := fun b hb => by rw [hN, newB_f, if_neg (by omega), newB_f, if_neg (by omega)]
  have fN0 : N.f (256 * (c + 1 + 1 + 1)) = some (.cells false none []) := by rw [hN, newB_f, if_neg (by omega), newB_f, if_pos rfl]
  have fN1 : N.f (256 * (c + 1 + 1 + 1) + 1) = some (.cells false none [.slice (some ⟨256 * (c + 1 + 1 + 1), 0, none⟩) 0 0]) := by rw [hN, newB_f, if_pos rfl]
  clear hN
  have l2 := ldN1_own (hg.eqf (fN _ (by omega)))
  have cm := matches_call s N (c + 1 + 1 + 1 + 1 + 1) hs.flat
  repeat' (first
   | ((with_reducible first | refine Ans.bz ?_ | refine Ans.r1 ?_ | refine Ans.pkT ?_ | refine Ans.pkF ?_); try dsimp only [v_zero, v_succ])
   | (with_reducible first | refine Ans.btL ?_ | refine Ans.bfL ?_ | refine Ans.gyT ?_ | refine Ans.gyF ?_ | refine Ans.gyG ?_ | refine Ans.bb ?_ | refine Ans.bc ?_ | refine Ans.ba ?_)
   | ((with_reducible first | refine Ans.lsT ?_ ?_ | refine Ans.leT ?_ ?_ | refine Ans.grT ?_ ?_ | refine Ans.geT ?_ ?_ | refine Ans.eqT ?_ ?_ | refine Ans.neT ?_ ?_); (focus omega))
   | ((with_reducible first | refine Ans.lsF ?_ ?_ | refine Ans.leF ?_ ?_ | refine Ans.grF ?_ ?_ | refine Ans.geF ?_ ?_ | refine Ans.eqF ?_ ?_ | refine Ans.neF ?_ ?_); (focus omega))
   | (with_reducible first | refine Ans.lsS (fun _ => ?_) (fun _ => ?_) | refine Ans.leS (fun _ => ?_) (fun _ => ?_) | refine Ans.grS (fun _ => ?_) (fun _ => ?_) | refine Ans.geS (fun _ => ?_) (fun _ => ?_) | refine Ans.eqS (fun _ => ?_) (fun _ => ?_) | refine Ans.neS (fun _ => ?_) (fun _ => ?_))
   | ((with_reducible first | refine Ans.addN ?_ ?_ | refine Ans.add ?_ ?_ | refine Ans.sub ?_ ?_ | refine Ans.mul ?_ ?_); (focus omega))
   | ((with_reducible first | refine Ans.ct ?_ ?_); (focus (simp (disch := (first | omega | with_reducible assumption | (simp <;> omega) | fail)) [l1, c1, hb0, hst, l2, cm]; done)))
   | ((with_reducible first | refine Ans.cf ?_ ?_); (focus (simp (disch := (first | omega | with_reducible assumption | (simp <;> omega) | fail)) [l1, c1, hb0, hst, l2, cm]; done)))
   | (refine Ans.step (by simp (disch := (first | omega | with_reducible assumption | (simp <;> omega) | fail)) [l1, c1, hb0, hst, l2, cm, -List.getD_eq_getElem?_getD] <;> rfl) ?_; try dsimp only [v_zero, v_succ])
   | fail)
  obtain ⟨M, hM⟩ : ∃ M, M = newB N (256 * (c + 1 + 1 + 1 + 1 + 1)) [s] := ⟨_, rfl⟩
  rw [← hM]
  have fM : ∀ b, b < 256 * (c + 1 + 1 + 1 + 1 + 1) → M.f b = N.f b := fun b hb => by rw [hM, newB_f, if_neg (by omega)]
  have gM : M.f (256 * (c + 1 + 1 + 1 + 1 + 1)) = some (.cells false none [s]) := by rw [hM, newB_f, if_pos rfl]
  clear hM
  have hI := eq_roundI s n Gl (256 * c) (256 * (c + 1 + 1 + 1 + 1 + 1)) (256 * (c + 1 + 1 + 1) + 1) (256 * (c + 1 + 1 + 1 + 1 + 1 + 1 + 1)) (c + 1) (c + 1 + 1 + 1 + 1 + 1 + 1 + 1 + 1) hok hn (by omega) (by omega) (by omega) (by omega) (by omega) (by omega) (by omega) (by omega) (by omega) (by omega)
    (fun hp => ⟨by have := hs.blk hp; omega, by have := hs.blk hp; omega⟩)
  have hEf : ∀ b, b < 256 * (c + 1 + 1 + 1 + 1 + 1 + 1 + 1) → (entryH M (c + 1 + 1 + 1 + 1 + 1 + 1 + 1) 83 [1, 5] #[16] f27_a27000 f27_c27000 [ptrTo (256 * c), ptrTo (256 * (c + 1 + 1 + 1) + 1)]).f b = M.f b := fun b hb => by
    rw [entryH_f, if_neg (by omega), if_neg (by omega)]
  have hI0 : EqI s n Gl (256 * c) (256 * (c + 1 + 1 + 1 + 1 + 1)) (256 * (c + 1 + 1 + 1) + 1) (256 * (c + 1 + 1 + 1 + 1 + 1 + 1 + 1)) (c + 1) (c + 1 + 1 + 1 + 1 + 1 + 1 + 1 + 1) [] (fun b => b = 256 * (c + 1 + 1 + 1) + 1 ∨ b = 256 * (c + 1 + 1 + 1))
      (entryH M (c + 1 + 1 + 1 + 1 + 1 + 1 + 1) 83 [1, 5] #[16] f27_a27000 f27_c27000 [ptrTo (256 * c), ptrTo (256 * (c + 1 + 1 + 1) + 1)]) (c + 1 + 1 + 1 + 1 + 1 + 1 + 1 + 1) := by
    refine ⟨Nat.le_refl _, hg.eqf (by rw [hEf _ (by omega), fM _ (by omega), fN _ (by omega)]), ⟨false, none, ?_⟩, ?_, by omega, .slice (some ⟨256 * (c + 1 + 1 + 1), 0, none⟩) 0 0, [], rfl, ?_, ⟨rfl, by simp, rfl, 256 * (c + 1 + 1 + 1), none, rfl, by omega, by omega, ?_, .inl rfl⟩, by rw [blkOf_sl]; omega, by rw [blkOf_sl]; omega, fun k m hk => by simp at hk⟩
    · show (entryH _ _ _ _ _ _ _ _ : FH).f _ = _
      rw [hEf _ (by omega), gM]
    · exact ((hs.same sH).mono (by omega : c ≤ c + 1)).keep (fun hp => by have := hs.blk hp; rw [hEf _ (by omega), fM _ (by omega), fN _ (by omega)])
    · rw [hEf _ (by omega), fM _ (by omega), fN1]
    · rw [hEf _ (by omega), fM _ (by omega), fN0]
  refine Ans.head (range_matches (by omega) (by omega) rfl hI (O := fun b => b = 256 * (c + 1 + 1 + 1) + 1 ∨ b = 256 * (c + 1 + 1 + 1)) (fun b hb => by omega) hI0) ?_
  rintro ⟨qe, qh, qc, qd⟩ ⟨qr, O', e1, e2, e3, e4, e5, e6⟩
  simp only [Prod.mk.injEq] at e1
  obtain ⟨rfl, -, rfl⟩ := e1
  simp only at e2 e6
  rcases e6 with ⟨rfl, hi⟩ | ⟨-, hj⟩
  case inr => exact hj.elim
  obtain ⟨vo, vals, o1, o2, o3, o4, o5, o6⟩ := hi.out
  have lv : ld1 (HeapC.del qr (256 * (c + 1 + 1 + 1 + 1 + 1 + 1 + 1))) (.pointer (some ⟨256 * (c + 1 + 1 + 1) + 1, 0, none⟩)) = some vo := by
    rw [ld1_holds' (cs := [vo]) ⟨false, none, by show (HeapC.del _ _ : FH).f _ = _; rw [del_f, if_neg (by omega)]; exact o2⟩]; rfl
  obtain ⟨h9, t1, t2⟩ := takeAll_ok (df := [256 * (c + 1 + 1 + 1 + 1 + 1 + 1 + 1) + 1]) (h := HeapC.del qr (256 * (c + 1 + 1 + 1 + 1 + 1 + 1 + 1))) (by simp) (fun d hd => by
    rw [List.mem_singleton.1 hd, del_f, if_neg (by omega)]; exact e3)
  have k9 : ∀ b, b ≠ 256 * (c + 1 + 1 + 1 + 1 + 1 + 1 + 1) → b ≠ 256 * (c + 1 + 1 + 1 + 1 + 1 + 1 + 1) + 1 → h9.f b = qr.f b := fun b h1 h2 => by
    rw [t2 b (by simpa using h2), del_f, if_neg h1]
  repeat' (first
   | ((with_reducible first | refine Ans.bz ?_ | refine Ans.r1 ?_ | refine Ans.pkT ?_ | refine Ans.pkF ?_); try dsimp only [v_zero, v_succ])
   | (with_reducible first | refine Ans.btL ?_ | refine Ans.bfL ?_ | refine Ans.gyT ?_ | refine Ans.gyF ?_ | refine Ans.gyG ?_ | refine Ans.bb ?_ | refine Ans.bc ?_ | refine Ans.ba ?_)
   | ((with_reducible first | refine Ans.lsT ?_ ?_ | refine Ans.leT ?_ ?_ | refine Ans.grT ?_ ?_ | refine Ans.geT ?_ ?_ | refine Ans.eqT ?_ ?_ | refine Ans.neT ?_ ?_); (focus omega))
   | ((with_reducible first | refine Ans.lsF ?_ ?_ | refine Ans.leF ?_ ?_ | refine Ans.grF ?_ ?_ | refine Ans.geF ?_ ?_ | refine Ans.eqF ?_ ?_ | refine Ans.neF ?_ ?_); (focus omega))
   | (with_reducible first | refine Ans.lsS (fun _ => ?_) (fun _ => ?_) | refine Ans.leS (fun _ => ?_) (fun _ => ?_) | refine Ans.grS (fun _ => ?_) (fun _ => ?_) | refine Ans.geS (fun _ => ?_) (fun _ => ?_) | refine Ans.eqS (fun _ => ?_) (fun _ => ?_) | refine Ans.neS (fun _ => ?_) (fun _ => ?_))
   | ((with_reducible first | refine Ans.addN ?_ ?_ | refine Ans.add ?_ ?_ | refine Ans.sub ?_ ?_ | refine Ans.mul ?_ ?_); (focus omega))
   | ((with_reducible first | refine Ans.ct ?_ ?_); (focus (simp (disch := (first | omega | with_reducible assumption | (simp <;> omega) | fail)) [lv, t1]; done)))
   | ((with_reducible first | refine Ans.cf ?_ ?_); (focus (simp (disch := (first | omega | with_reducible assumption | (simp <;> omega) | fail)) [lv, t1]; done)))
   | (refine Ans.step (by simp (disch := (first | omega | with_reducible assumption | (simp <;> omega) | fail)) [lv, t1, -List.getD_eq_getElem?_getD] <;> rfl) ?_; try dsimp only [v_zero, v_succ])
   | fail)
  have bvo := o3.blk
  refine .done ⟨rfl, rfl, (by show c ≤ qc + 1; omega), fun b hb => ?_, .inr ⟨h0, vo, rfl, vals, ?_, fun k m hk => ?_⟩⟩
  · show h9.f b = h.f b
    rw [k9 b (by omega) (by omega), e5 b (by omega) (by omega), fM b (by omega), fN b (by omega), sH b hb]
  · refine AppG.mono (c := qc) (by show qc ≤ qc + 1; omega) (AppG.keep (h := qr) ?_ (k9 _ o5 ?_))
    · obtain ⟨z1, z2, z3, i, op, z4, z5, z6⟩ := o3
      exact ⟨z1, z2, z3, i, op, z4, by omega, z6⟩
    · obtain ⟨z1, z2, z3, i, op, z4, z5, z6, z7, z8⟩ := o3
      rw [z4, blkOf_sl]
      rintro rfl
      rw [e3] at z7; cases z7
  · obtain ⟨x, x1, ⟨b, rfl, y1, y2, y3, y4, y5⟩, x3, x4, x5⟩ := o6 k m hk
    rw [blkOf_sl] at x5
    refine ⟨_, x1, b, rfl, by omega, by show b < 256 * (qc + 1); omega, ?_, y4, y5⟩
    show h9.f b = _
    rw [k9 b x5 (by rintro rfl; rw [e3] at y3; cases y3), y3]

theorem dotL_drop {A B : List Int} {i n : Nat} (hA : A.length = n) (hB : B.length = n) (hi : i < n) : dotL (A.drop i) (B.drop i) = A.getD i 0 * B.getD i 0 + dotL (A.drop (i + 1)) (B.drop (i + 1)) := by
  rw [List.drop_eq_getElem_cons (by omega), List.drop_eq_getElem_cons (by omega : i < B.length), dotL]
  simp [List.getD, List.getElem?_eq_getElem (by omega : i < A.length), List.getElem?_eq_getElem (by omega : i < B.length)]

theorem mul_bd {a b : Int} (h1 : -4 ≤ a) (h2 : a ≤ 4) (h3 : 0 ≤ b) (h4 : b ≤ 1000000) : -4000000 ≤ a * b ∧ a * b ≤ 4000000 := by
  have h5 : a * b ≤ 4 * b := Int.mul_le_mul_of_nonneg_right h2 h3
  have h6 : -4 * b ≤ a * b := Int.mul_le_mul_of_nonneg_right h1 h3
  omega

theorem dot_loop (s v : Value) (n : Nat) (A B : List Int) (h : FH) (c : Nat) (hn : n ≤ 1000000) (hs : SlI h c s 1 n A) (hv : SlI h c v 1 n B) (hA : ∀ k, -4 ≤ A.getD k 0 ∧ A.getD k 0 ≤ 4) (hB : ∀ k : Nat, 0 ≤ gi B k ∧ gi B k ≤ 1000000) (df : List Nat) :
    ∀ (k i : Nat) (m : Int), i + k = n → -(4000000 * (i : Int)) ≤ m → m ≤ 4000000 * i →
    Ans (G (f33_k33000 none) [s, v, .int .i64 m, .int .i64 i] h c df) fun r => r = { e := .exit 0, vs := [s, v, .int .i64 (m + dotL (A.drop i) (B.drop i)), .int .i64 n], h := h, c := c, df := df } := by
  intro k
  have o1 := hs.okV
  have o2 := hv.okV
  have l1 := hs.len
  induction k with
  | zero =>
    intro i m hi h1 h2
    obtain rfl : i = n := by omega
    refine Ans.loop (fun q r => f33_N33000) (fun q => f33_Z33000) ?_
    unfold f33_L33000
    repeat' (first
     | ((with_reducible first | refine Ans.bz ?_ | refine Ans.r1 ?_ | refine Ans.pkT ?_ | refine Ans.pkF ?_); try dsimp only [v_zero, v_succ])
     | (with_reducible first | refine Ans.btL ?_ | refine Ans.bfL ?_ | refine Ans.gyT ?_ | refine Ans.gyF ?_ | refine Ans.gyG ?_ | refine Ans.bb ?_ | refine Ans.bc ?_ | refine Ans.ba ?_)
     | ((with_reducible first | refine Ans.lsT ?_ ?_ | refine Ans.leT ?_ ?_ | refine Ans.grT ?_ ?_ | refine Ans.geT ?_ ?_ | refine Ans.eqT ?_ ?_ | refine Ans.neT ?_ ?_); (focus omega))
     | ((with_reducible first | refine Ans.lsF ?_ ?_ | refine Ans.leF ?_ ?_ | refine Ans.grF ?_ ?_ | refine Ans.geF ?_ ?_ | refine Ans.eqF ?_ ?_ | refine Ans.neF ?_ ?_); (focus omega))
     | (with_reducible first | refine Ans.lsS (fun _ => ?_) (fun _ => ?_) | refine Ans.leS (fun _ => ?_) (fun _ => ?_) | refine Ans.grS (fun _ => ?_) (fun _ => ?_) | refine Ans.geS (fun _ => ?_) (fun _ => ?_) | refine Ans.eqS (fun _ => ?_) (fun _ => ?_) | refine Ans.neS (fun _ => ?_) (fun _ => ?_))
     | ((with_reducible first | refine Ans.addN ?_ ?_ | refine Ans.add ?_ ?_ | refine Ans.sub ?_ ?_ | refine Ans.mul ?_ ?_); (focus omega))
     | ((with_reducible first | refine Ans.ct ?_ ?_); (focus (simp (disch := (first | omega | with_reducible assumption | (simp <;> omega) | fail)) [l1]; done)))
     | ((with_reducible first | refine Ans.cf ?_ ?_); (focus (simp (disch := (first | omega | with_reducible assumption | (simp <;> omega) | fail)) [l1]; done)))
     | (refine Ans.step (by simp (disch := (first | omega | with_reducible assumption | (simp <;> omega) | fail)) [l1, -List.getD_eq_getElem?_getD] <;> rfl) ?_; try dsimp only [v_zero, v_succ])
     | fail)
    (refine Ans.exit0 ?_ ?_ ?_; (focus (simp (disch := (first | omega | with_reducible assumption | (simp <;> omega) | fail)) [o1, o2]; done)); (focus (simp (disch := (first | omega | with_reducible assumption | (simp <;> omega) | fail)) [o1, o2]; done)))
    rw [List.drop_of_length_le (by have := hs.1; omega)]
    simp [dotL]
  | succ k ih =>
    intro i m hi h1 h2
    have ha := hs.rdi i (by omega) (by omega)
    have hb := hv.rdi i (by omega) (by omega)
    simp only [Int.toNat_natCast] at ha hb
    have b1 := hA i
    have b2 := hB i
    have hd := dotL_drop (A := A) (B := B) (i := i) (n := n) (by have := hs.1; omega) (by have := hv.1; omega) (by omega)
    rw [gi_nat] at ha hb b2
    obtain ⟨X, hX⟩ : ∃ X, A.getD i 0 = X := ⟨_, rfl⟩
    obtain ⟨Y, hY⟩ : ∃ Y, B.getD i 0 = Y := ⟨_, rfl⟩
    rw [hX] at ha b1 hd
    rw [hY] at hb b2 hd
    have b3 := mul_bd b1.1 b1.2 b2.1 b2.2
    obtain ⟨Z, hZ⟩ : ∃ Z, X * Y = Z := ⟨_, rfl⟩
    have hm := aBinOp_mul (P := P) 3 X Y (by omega) (by omega)
    rw [hZ] at hm b3 hd
    refine Ans.loop (fun q r => f33_N33000) (fun q => f33_Z33000) ?_
    unfold f33_L33000
    repeat' (first
     | ((with_reducible first | refine Ans.bz ?_ | refine Ans.r1 ?_ | refine Ans.pkT ?_ | refine Ans.pkF ?_); try dsimp only [v_zero, v_succ])
     | (with_reducible first | refine Ans.btL ?_ | refine Ans.bfL ?_ | refine Ans.gyT ?_ | refine Ans.gyF ?_ | refine Ans.gyG ?_ | refine Ans.bb ?_ | refine Ans.bc ?_ | refine Ans.ba ?_)
     | ((with_reducible first | refine Ans.lsT ?_ ?_ | refine Ans.leT ?_ ?_ | refine Ans.grT ?_ ?_ | refine Ans.geT ?_ ?_ | refine Ans.eqT ?_ ?_ | refine Ans.neT ?_ ?_); (focus omega))
     | ((with_reducible first | refine Ans.lsF ?_ ?_ | refine Ans.leF ?_ ?_ | refine Ans.grF ?_ ?_ | refine Ans.geF ?_ ?_ | refine Ans.eqF ?_ ?_ | refine Ans.neF ?_ ?_); (focus omega))
     | (with_reducible first | refine Ans.lsS (fun _ => ?_) (fun _ => ?_) | refine Ans.leS (fun _ => ?_) (fun _ => ?_) | refine Ans.grS (fun _ => ?_) (fun _ => ?_) | refine Ans.geS (fun _ => ?_) (fun _ => ?_) | refine Ans.eqS (fun _ => ?_) (fun _ => ?_) | refine Ans.neS (fun _ => ?_) (fun _ => ?_))
     | ((with_reducible first | refine Ans.addN ?_ ?_ | refine Ans.add ?_ ?_ | refine Ans.sub ?_ ?_ | refine Ans.mul ?_ ?_); (focus omega))
     | ((with_reducible first | refine Ans.ct ?_ ?_); (focus (simp (disch := (first | omega | with_reducible assumption | (simp <;> omega) | fail)) [l1, hs.ixs1, hv.ixs1, ha, hb, hm, -aBinOp_mul]; done)))
     | ((with_reducible first | refine Ans.cf ?_ ?_); (focus (simp (disch := (first | omega | with_reducible assumption | (simp <;> omega) | fail)) [l1, hs.ixs1, hv.ixs1, ha, hb, hm, -aBinOp_mul]; done)))
     | (refine Ans.step (by simp (disch := (first | omega | with_reducible assumption | (simp <;> omega) | fail)) [l1, hs.ixs1, hv.ixs1, ha, hb, hm, -aBinOp_mul, -List.getD_eq_getElem?_getD] <;> rfl) ?_; try dsimp only [v_zero, v_succ])
     | fail)
    (refine Ans.next0 ?_ ?_ ?_; (focus (simp (disch := (first | omega | with_reducible assumption | (simp <;> omega) | fail)) [o1, o2]; done)); (focus (simp (disch := (first | omega | with_reducible assumption | (simp <;> omega) | fail)) [o1, o2]; done)))
    rw [hZ]
    refine (ih (i + 1) (m + Z) (by omega) (by omega) (by omega)).mono ?_
    rintro r rfl
    rw [hd, Int.add_assoc]

theorem dot_sp (s v : Value) (n : Nat) (A B : List Int) (h : FH) (c : Nat) (df : List Nat) (hn : n ≤ 1000000) (hs : SlI h c s 1 n A) (hv : SlI h c v 1 n B) (hA : ∀ k, -4 ≤ A.getD k 0 ∧ A.getD k 0 ≤ 4) (hB : ∀ k : Nat, 0 ≤ gi B k ∧ gi B k ≤ 1000000) :
    G (.fn 33) [s, v] h c df = some { e := .ret, vs := [.int .i64 (dotL A B)], h := h, c := c, df := [] } := by
  refine pure_of' (fun r e => f33_go e) (by simp) ?_
  unfold f33_S
  have hr := Ans.eq (dot_loop s v n A B h (c + 1 + 1 + 1) hn (hs.mono (by omega)) (hv.mono (by omega)) hA hB [] n 0 0 (by omega) (by omega) (by omega))
  rw [List.drop_zero, List.drop_zero, Int.zero_add] at hr
  simp only [Int.ofNat_eq_natCast, Int.cast_ofNat_Int] at hr
  repeat' (first
   | ((with_reducible first | refine Ans.bz ?_ | refine Ans.r1 ?_ | refine Ans.pkT ?_ | refine Ans.pkF ?_); try dsimp only [v_zero, v_succ])
   | (with_reducible first | refine Ans.btL ?_ | refine Ans.bfL ?_ | refine Ans.gyT ?_ | refine Ans.gyF ?_ | refine Ans.gyG ?_ | refine Ans.bb ?_ | refine Ans.bc ?_ | refine Ans.ba ?_)
   | ((with_reducible first | refine Ans.lsT ?_ ?_ | refine Ans.leT ?_ ?_ | refine Ans.grT ?_ ?_ | refine Ans.geT ?_ ?_ | refine Ans.eqT ?_ ?_ | refine Ans.neT ?_ ?_); (focus omega))
   | ((with_reducible first | refine Ans.lsF ?_ ?_ | refine Ans.leF ?_ ?_ | refine Ans.grF ?_ ?_ | refine Ans.geF ?_ ?_ | refine Ans.eqF ?_ ?_ | refine Ans.neF ?_ ?_); (focus omega))
   | (with_reducible first | refine Ans.lsS (fun _ => ?_) (fun _ => ?_) | refine Ans.leS (fun _ => ?_) (fun _ => ?_) | refine Ans.grS (fun _ => ?_) (fun _ => ?_) | refine Ans.geS (fun _ => ?_) (fun _ => ?_) | refine Ans.eqS (fun _ => ?_) (fun _ => ?_) | refine Ans.neS (fun _ => ?_) (fun _ => ?_))
   | ((with_reducible first | refine Ans.addN ?_ ?_ | refine Ans.add ?_ ?_ | refine Ans.sub ?_ ?_ | refine Ans.mul ?_ ?_); (focus omega))
   | ((with_reducible first | refine Ans.ct ?_ ?_); (focus (simp (disch := (first | omega | with_reducible assumption | (simp <;> omega) | fail)) [hr]; done)))
   | ((with_reducible first | refine Ans.cf ?_ ?_); (focus (simp (disch := (first | omega | with_reducible assumption | (simp <;> omega) | fail)) [hr]; done)))
   | (refine Ans.step (by simp (disch := (first | omega | with_reducible assumption | (simp <;> omega) | fail)) [hr, -List.getD_eq_getElem?_getD] <;> rfl) ?_; try dsimp only [v_zero, v_succ])
   | fail)
  (refine Ans.pure ?_ ?_; (focus (first | rfl | (simp (disch := (first | omega | with_reducible assumption | (simp <;> omega) | fail)) []; done))); (focus (first | with_reducible assumption | (simp (disch := (first | omega | with_reducible assumption | (simp <;> omega) | fail)) []; done))))
end Go.Proofs.Ytcnndelmnobigaa

namespace Go.Proofs.Ytcnndelmnobigaa
open Go Go.Ab Go.Proofs
set_option maxRecDepth 100000
set_option linter.unusedVariables false
set_option linter.unusedSimpArgs false

theorem refV_loop (p : List Int) (hp : p.length = 4) (h : FH) (b1 b3 c : Nat) (hb1 : b1 < 256 * c) (hb3 : b3 < 256 * c) (hne : b1 ≠ b3) (hh : Holds h b1 (ints p)) (df : List Nat) : ∀ (k i : Nat) (m : List Bool), i + k = 4 → m.length = 4 →
    Ans (G (f41_k41000 none) [ptrTo b1, .bool false, ptrTo b3, .int .i64 i] (newB h b3 (bools m)) c df) fun r => r.c = c ∧ r.df = df ∧ (∃ cs, r.h = newB h b3 cs) ∧
      (if refV (p.drop i) m = true then r.e = .exit 0 else r.e = .ret ∧ r.v 1 = .bool false) := by
  intro k
  induction k with
  | zero =>
    intro i m hi hm
    obtain rfl : i = 4 := by omega
    rw [List.drop_of_length_le (by omega)]
    refine .intro (f41_Z41000 (q := ⟨.exit 0, [ptrTo b1, .bool false, ptrTo b3, .int .i64 (4 : Nat)], newB h b3 (bools m), c + 1, df⟩) (by unfold f41_L41000; simp) (by simp)) ?_
    rw [gcR_same (by simp [hb1, hb3])]
    refine ⟨rfl, rfl, ⟨_, rfl⟩, ?_⟩
    simp [refV]
  | succ k ih =>
    intro i m hi hm
    have hlt : i < p.length := by omega
    have e0 : (i : Int) < 4 := by omega
    have hld : ∀ j, j < 4 → ld1 (newB h b3 (bools m)) (.pointer (some ⟨b1, j, none⟩)) = some (.int .i64 (p.getD j 0)) := fun j hj => by
      rw [ld1_newB_ne _ _ _ _ _ hne]
      exact ld1_holds hh (by rw [ints_getD _ _ (by omega)])
    have hldi := hld i (by omega)
    obtain ⟨x, hx⟩ : ∃ x, x = p.getD i 0 := ⟨_, rfl⟩
    have hdr : p.drop i = x :: p.drop (i + 1) := by
      rw [List.drop_eq_getElem_cons hlt, hx]
      simp [List.getD, List.getElem?_eq_getElem hlt]
    rw [hdr, refV]
    rw [← hx] at hldi
    by_cases h1 : x < 0
    · rw [if_pos (Or.inl h1)]
      refine Ans.intro (f41_Z41000 (q := ⟨.ret, [ptrTo b1, .bool false, ptrTo b3, .int .i64 i], newB h b3 (bools m), _, df⟩) (Ans.eq (by
        unfold f41_L41000
        repeat (first
          | (with_reducible refine Ans.bt ?_ ?_; exact rfl)
          | (with_reducible refine Ans.bf ?_ ?_; exact rfl)
          | (with_reducible refine Ans.ct ?_ ?_; focus (simp; done))
          | (with_reducible refine Ans.cf ?_ ?_; focus (simp; done))
          | refine Ans.step (by simp (disch := (first | omega | (simp <;> omega) | fail)) [e0, hldi, h1, -List.getD_eq_getElem?_getD] <;> rfl) ?_)
        exact .done rfl)) (by simp)) ?_
      rw [gcR_same (by simp [hb1, hb3])]
      exact ⟨rfl, rfl, ⟨_, rfl⟩, by simp⟩
    by_cases h2 : 3 < x
    · rw [if_pos (Or.inr h2)]
      refine Ans.intro (f41_Z41000 (q := ⟨.ret, [ptrTo b1, .bool false, ptrTo b3, .int .i64 i], newB h b3 (bools m), _, df⟩) (Ans.eq (by
        unfold f41_L41000
        repeat (first
          | (with_reducible refine Ans.bt ?_ ?_; exact rfl)
          | (with_reducible refine Ans.bf ?_ ?_; exact rfl)
          | (with_reducible refine Ans.ct ?_ ?_; focus (simp; done))
          | (with_reducible refine Ans.cf ?_ ?_; focus (simp; done))
          | refine Ans.step (by simp (disch := (first | omega | (simp <;> omega) | fail)) [e0, hldi, h1, h2, -List.getD_eq_getElem?_getD] <;> rfl) ?_)
        exact .done rfl)) (by simp)) ?_
      rw [gcR_same (by simp [hb1, hb3])]
      exact ⟨rfl, rfl, ⟨_, rfl⟩, by simp⟩
    rw [if_neg (by omega)]
    have hldm : ld1 (newB h b3 (bools m)) (.pointer (some ⟨b3, x.toNat, none⟩)) = some (.bool (m.getD x.toNat false)) := by
      rw [ld1_newB_same, bools_get _ _ (by omega)]
    by_cases h3 : m.getD x.toNat false = true
    · rw [if_pos h3]
      rw [h3] at hldm
      refine Ans.intro (f41_Z41000 (q := ⟨.ret, [ptrTo b1, .bool false, ptrTo b3, .int .i64 i], newB h b3 (bools m), _, df⟩) (Ans.eq (by
        unfold f41_L41000
        repeat (first
          | (with_reducible refine Ans.bt ?_ ?_; exact rfl)
          | (with_reducible refine Ans.bf ?_ ?_; exact rfl)
          | (with_reducible refine Ans.ct ?_ ?_; focus (simp; done))
          | (with_reducible refine Ans.cf ?_ ?_; focus (simp; done))
          | refine Ans.step (by simp (disch := (first | omega | (simp <;> omega) | fail)) [e0, hldi, h1, h2, hldm, -List.getD_eq_getElem?_getD] <;> rfl) ?_)
        exact .done rfl)) (by simp)) ?_
      rw [gcR_same (by simp [hb1, hb3])]
      exact ⟨rfl, rfl, ⟨_, rfl⟩, by simp⟩
    rw [if_neg h3]
    have h3' : m.getD x.toNat false = false := by simpa using h3
    rw [h3'] at hldm
    obtain ⟨r, hr, hq⟩ := ih (i + 1) (m.set x.toNat true) (by omega) (by simpa using hm)
    have hst : stN (newB h b3 (bools m)) 1 (.pointer (some ⟨b3, x.toNat, none⟩)) (.bool true) = some (newB h b3 (bools (m.set x.toNat true))) := by
      rw [st1_bool _ _ _ _ _ (by rw [bools_length]; omega), bools_set]
    refine .intro (f41_N41000 (q := ⟨.normal, [ptrTo b1, .bool false, ptrTo b3, .int .i64 (i + 1 : Nat)], newB h b3 (bools (m.set x.toNat true)), _, df⟩) (Ans.eq (by
        unfold f41_L41000
        repeat (first
          | (with_reducible refine Ans.bt ?_ ?_; exact rfl)
          | (with_reducible refine Ans.bf ?_ ?_; exact rfl)
          | (with_reducible refine Ans.ct ?_ ?_; focus (simp; done))
          | (with_reducible refine Ans.cf ?_ ?_; focus (simp; done))
          | refine Ans.step (by simp (disch := (first | omega | (simp <;> omega) | fail)) [e0, hldi, h1, h2, hldm, hst, -List.getD_eq_getElem?_getD] <;> rfl) ?_)
        exact .done rfl)) rfl ?_) hq
    rw [gcR_upd hb3 (by simp [hb1, hb3]) (OkVs.bools _ _)]
    exact hr

theorem validR_sp (p : List Int) (hp : p.length = 4) (h : FH) (c : Nat) (df : List Nat) :
    G (.fn 41) [av p] h c df = some { e := .ret, vs := [.bool (validB p)], h := h, c := c, df := [] } := by
  refine pure_of (fun r e => f41_go e) (by simp) ?_
  obtain ⟨⟨re, rv, rh, rc, rd⟩, hr, h1, h2, ⟨cs, h3⟩, h4⟩ := refV_loop p hp (newB h (256 * c) (ints p)) (256 * c) (256 * (c + 1)) (c + 1 + 1 + 1) (by omega) (by omega) (by omega) (Holds.newB_same _ _ _) [] 4 0 [false, false, false, false] rfl rfl
  simp only at h1 h2 h3
  subst h1 h2 h3
  rw [← refV_eq p hp]
  unfold f41_S
  simp only [List.drop_zero] at h4
  simp only [Int.ofNat_eq_natCast, Int.cast_ofNat_Int] at hr
  have hb : bools [false, false, false, false] = [.bool false, .bool false, .bool false, .bool false] := rfl
  rw [hb] at hr
  cases hv : refV p [false, false, false, false] with
  | true =>
    rw [hv, if_pos rfl] at h4
    subst h4
    simp (disch := omega) [hr, hp]
  | false =>
    rw [hv, if_neg (by simp)] at h4
    obtain ⟨rfl, h5⟩ := h4
    simp (disch := omega) [hr, hp, h5]
theorem callF_validR (p : List Int) (hp : p.length = 4) (h : FH) (c : Nat) : callF G 41 [av p] h c = some (.bool (validB p), h, c) := callF_of (validR_sp p hp h c [])

theorem inverseR_loop (p : List Int) (hp : p.length = 4) (hr : InR p) (h : FH) (b1 b2 b3 c : Nat) (hb1 : b1 < 256 * c) (hb2 : b2 < 256 * c) (hb3 : b3 < 256 * c) (hne : b1 ≠ b3) (hh : Holds h b1 (ints p)) (df : List Nat) : ∀ (k i : Nat) (out : List Int), i + k = 4 → out.length = 4 →
    G (f42_k42000 none) [ptrTo b1, ptrTo b2, ptrTo b3, .int .i64 i] (newB h b3 (ints out)) c df =
      some { e := .exit 0, vs := [ptrTo b1, ptrTo b2, ptrTo b3, .int .i64 4], h := newB h b3 (ints (invL (p.drop i) i out)), c := c, df := df } := by
  intro k
  induction k with
  | zero =>
    intro i out hi ho
    obtain rfl : i = 4 := by omega
    rw [List.drop_of_length_le (by omega)]
    refine (f42_Z42000 (q := ⟨.exit 0, [ptrTo b1, ptrTo b2, ptrTo b3, .int .i64 4], newB h b3 (ints out), c + 1, df⟩) (by unfold f42_L42000; simp) (by simp)).trans ?_
    rw [gcR_same (by simp [hb1, hb2, hb3])]
    rfl
  | succ k ih =>
    intro i out hi ho
    have hlt : i < p.length := by omega
    have e0 : (i : Int) < 4 := by omega
    have hld : ld1 (newB h b3 (ints out)) (.pointer (some ⟨b1, i, none⟩)) = some (.int .i64 (p.getD i 0)) := by
      rw [ld1_newB_ne _ _ _ _ _ hne]
      exact ld1_holds hh (by rw [ints_getD _ _ (by omega)])
    obtain ⟨x, hx⟩ : ∃ x, x = p.getD i 0 := ⟨_, rfl⟩
    have hdr : p.drop i = x :: p.drop (i + 1) := by
      rw [List.drop_eq_getElem_cons hlt, hx]
      simp [List.getD, List.getElem?_eq_getElem hlt]
    have hxr : 0 ≤ x ∧ x < 4 := by
      rw [hx]
      have := hr p[i] (List.getElem_mem hlt)
      simpa [List.getD, List.getElem?_eq_getElem hlt] using this
    rw [hdr, invL]
    rw [← hx] at hld
    refine f42_N42000 (q := ⟨.normal, [ptrTo b1, ptrTo b2, ptrTo b3, .int .i64 (i + 1 : Nat)], newB h b3 (ints (out.set x.toNat i)), _, df⟩) (Ans.eq (by
      unfold f42_L42000
      repeat (first
        | (with_reducible refine Ans.bt ?_ ?_; exact rfl)
        | (with_reducible refine Ans.bf ?_ ?_; exact rfl)
        | (with_reducible refine Ans.ct ?_ ?_; focus (simp; done))
        | (with_reducible refine Ans.cf ?_ ?_; focus (simp; done))
        | refine Ans.step (by simp (disch := (first | omega | (simp <;> omega) | fail)) [e0, hld, hxr, ho, -List.getD_eq_getElem?_getD] <;> rfl) ?_)
      exact .done rfl)) rfl ?_
    rw [gcR_upd hb3 (by simp [hb1, hb2, hb3]) (by simp)]
    exact ih (i + 1) _ (by omega) (by simpa using ho)

def invR (p : List Int) : List Int := if validB p = true then inv p else [0, 0, 0, 0]
theorem inverseR_sp (p : List Int) (hp : p.length = 4) (h : FH) (c : Nat) (df : List Nat) :
    G (.fn 42) [av p] h c df = some { e := .ret, vs := [av (invR p)], h := h, c := c, df := [] } := by
  refine pure_of (fun r e => f42_go e) (by simp) ?_
  have e1 : p.take 4 = p := List.take_of_length_le (by omega)
  have hv := fun h c => callF_validR p hp h c
  unfold f42_S invR
  by_cases hb : validB p = true
  · rw [if_pos hb]
    rw [hb] at hv
    have hl := inverseR_loop p hp (validB_range hb) (newB (newB h (256 * c) (ints p)) (256 * c + 1) (ints [0, 0, 0, 0])) (256 * c) (256 * c + 1) (256 * (c + 1)) (c + 1 + 1 + 1 + 1) (by omega) (by omega) (by omega) (by omega)
      (Holds.newB_ne (by omega) (Holds.newB_same _ _ _)) [] 4 0 [0, 0, 0, 0] rfl rfl
    have hl2 : (invL p 0 [0, 0, 0, 0]).length = 4 := invL_length p 0 [0, 0, 0, 0]
    have e2 : (invL p 0 [0, 0, 0, 0]).take 4 = invL p 0 [0, 0, 0, 0] := List.take_of_length_le (by omega)
    simp only [ints_cons, ints_nil, Int.ofNat_eq_natCast, Int.cast_ofNat_Int, List.drop_zero] at hl
    simp (disch := (first | omega | (simp <;> omega) | fail)) [hl, e1, e2, hp, hl2, inv, hv]
  · rw [if_neg hb]
    have hb' : validB p = false := by simpa using hb
    rw [hb'] at hv
    have hz : [Value.int .i64 0, Value.int .i64 0, Value.int .i64 0, Value.int .i64 0] = ints [0, 0, 0, 0] := rfl
    rw [hz]
    repeat (first
      | (with_reducible refine Ans.bt ?_ ?_; exact rfl)
      | (with_reducible refine Ans.bf ?_ ?_; exact rfl)
      | (with_reducible refine Ans.ct ?_ ?_; focus (simp; done))
      | (with_reducible refine Ans.cf ?_ ?_; focus (simp; done))
      | refine Ans.step (by simp (disch := (first | omega | (simp <;> omega) | fail)) [e1, hp, hv, -List.getD_eq_getElem?_getD] <;> rfl) ?_)
    refine .done ⟨rfl, rfl, ?_, rfl⟩
    simp (disch := omega)

def compR (p q : List Int) : List Int := if validB p = true ∧ validB q = true then comp p q else [0, 0, 0, 0]
end Go.Proofs.Ytcnndelmnobigaa
