/- Parts of a proof: D2 D3 AbTrie AbHeap. Conditions: none. -/
import Derived.Test.YtcnndelmnobigaaM5
import Derived.Test.YtcnndelmnobigaaM0
set_option linter.all false
namespace Go.Proofs.Ytcnndelmnobigaa
open Go Go.Ab Go.Proofs
set_option maxRecDepth 100000
set_option linter.unusedVariables false
set_option linter.unusedSimpArgs false

theorem eq_perm4 (a0 a1 a2 a3 b0 b1 b2 b3 : Int) : aBinOp0 P .eql 39 (av [a0, a1, a2, a3]) (av [b0, b1, b2, b3]) =
    (cond (a0 == b0) (cond (a1 == b1) (cond (a2 == b2) (cond (a3 == b3) (some true) (some false)) (some false)) (some false)) (some false)).bind fun b => some (.bool b) := by kernel_rfl
theorem eq_perm (x y : List Int) (hx : x.length = 4) (hy : y.length = 4) : aBinOp P .eql 39 (av x) (av y) = some (.bool (decide (x = y))) := by
  match x, hx, y, hy with
  | [a0, a1, a2, a3], _, [b0, b1, b2, b3], _ =>
    rw [aBinOp_eq, eq_perm4]
    by_cases h0 : a0 = b0 <;> by_cases h1 : a1 = b1 <;> by_cases h2 : a2 = b2 <;> by_cases h3 : a3 = b3 <;> simp [h0, h1, h2, h3, Bool.cond_eq_ite]

theorem callF_inverseR (p : List Int) (hp : p.length = 4) (h : FH) (c : Nat) : callF G 42 [av p] h c = some (av (invR p), h, c) := callF_of (inverseR_sp p hp h c [])

theorem sameB_of {x : Option Nat} {h1 h2 : FH} (e : ∀ i, x = some i → h1.f i = h2.f i) : sameB x h1 h2 = true := by
  cases x with
  | none => rfl
  | some i =>
    show @decide (h1.f i = h2.f i) (Classical.propDecidable _) = true
    exact @decide_eq_true _ (Classical.propDecidable _) (e i rfl)

theorem face_split {x : List Int} (hx : x.length = 5) : x = tetL x :: permL x := by
  match x, hx with
  | [a, b, c, d, e], _ => rfl

set_option maxHeartbeats 2000000 in
theorem checkR_face (s : Value) (n : Nat) (Gl : List Int) (gb c : Nat) (h : FH) (t f : Nat) (ht : t < n) (hf : f < 4) (hgb : gb < 256 * c)
    (h1 : Holds h gb [s]) (h2 : SlI h c s 20 n Gl) (v2 : Value) (df : List Nat) :
    Ans (f13_L13001 G none (ptrTo gb) v2 (.int .i64 n) (.int .i64 t) (.int .i64 f) h c df) fun r => r.df = df ∧ Same c h r.h ∧
      r.e = (if okFace Gl n t f = true then .normal else .ret) ∧ r.vs = (if okFace Gl n t f = true then [ptrTo gb, v2, .int .i64 n, .int .i64 t, .int .i64 (f + 1 : Nat)] else [ptrTo gb, .int .i64 7, .int .i64 n, .int .i64 t, .int .i64 f]) := by
  have hx := faceL_length h2.1 ht hf
  have hp := permL_length hx
  have hsp := face_split hx
  have ht5 : (faceL Gl t f).take 5 = faceL Gl t f := List.take_of_length_le (by omega)
  have ft : (f : Int) < 4 := by omega
  obtain ⟨b, o, cs, x1, x2, x3, x4⟩ := h2.ix .i64 (t : Int) (by omega) (by omega)
  have hface : ∀ u j : Int, 0 ≤ u → u < n → 0 ≤ j → j < 4 → ∃ b o, ixS 20 s (.int .i64 u) = some (.pointer (some ⟨b, o + u.toNat * 20, none⟩)) ∧ (∀ H : FH, (∀ i, i < 256 * c → H.f i = h.f i) → ldN H 5 (.pointer (some ⟨b, o + u.toNat * 20 + j.toNat * 5, none⟩)) = some (av (faceL Gl u.toNat j.toNat))) ∧ b < 256 * c := by
    intro u j u1 u2 j1 j2
    obtain ⟨b, o, cs, x1, x2, x3, x4⟩ := h2.ix .i64 u u1 u2
    refine ⟨b, o, x1, fun H hH => ?_, x2⟩
    have := h2.1
    have x3' : Holds H b cs := by
      obtain ⟨ro, op, e⟩ := x3
      exact ⟨ro, op, (hH b x2).trans e⟩
    rw [Nat.add_assoc, ldN_win x3' x4 (j := u.toNat * 20 + j.toNat * 5) (q := 5) (by omega) (by omega)]
    unfold faceL
    rw [Nat.mul_comm 20, Nat.mul_comm 5]
  obtain ⟨fb, fo, y1, y2, y3⟩ := hface t f (by omega) (by omega) (by omega) (by omega)
  have y2h := y2 h (fun i hi => rfl)
  simp only [Int.toNat_natCast] at y1 y2h
  have e2 : ld1 h (.pointer (some ⟨gb, 0, none⟩)) = some s := by rw [ld1_holds' h1]; rfl
  obtain ⟨H, hH⟩ : ∃ H, H = newB h (256 * (c + 1) + 7) (ints (faceL Gl t f)) := ⟨_, rfl⟩
  have hst : stN (newB h (256 * (c + 1) + 7) [.int .i64 0, .int .i64 0, .int .i64 0, .int .i64 0, .int .i64 0]) 5 (.pointer (some ⟨256 * (c + 1) + 7, 0, none⟩)) (av (faceL Gl t f)) = some H := by
    rw [stN_all _ _ 5 _ _ hx rfl, hH]
  have hS : Same c h H := by rw [hH]; exact (Same_newB (by omega)).2 (Same.refl _ _)
  have hB : Holds H (256 * (c + 1) + 7) (ints (faceL Gl t f)) := by rw [hH]; exact Holds.newB_same _ _ _
  have b1 : ld1 H (.pointer (some ⟨256 * (c + 1) + 7, 0, none⟩)) = some (.int .i64 (tetL (faceL Gl t f))) := by
    rw [ld1_holds' hB, ints_get, List.getElem?_eq_getElem (by omega)]
    simp [tetL, List.getD, List.getElem?_eq_getElem (by omega : 0 < (faceL Gl t f).length)]
  have b2 : ldN H 4 (.pointer (some ⟨256 * (c + 1) + 7, 1, none⟩)) = some (av (permL (faceL Gl t f))) := by
    rw [ldN_holds hB (by simp [hx])]; rw [ints_drop, ints_take]; rfl
  have b3 : ld1 H (.pointer (some ⟨256 * (c + 1) + 7, 1 + f, none⟩)) = some (.int .i64 ((permL (faceL Gl t f)).getD f 0)) := by
    have hlt : 1 + f < (faceL Gl t f).length := by omega
    rw [ld1_holds' hB, ints_get, List.getElem?_eq_getElem hlt]
    unfold permL
    rw [getD_take _ _ _ hf, getD_drop]
    simp [List.getD, List.getElem?_eq_getElem hlt]
  have e2' : ld1 H (.pointer (some ⟨gb, 0, none⟩)) = some s := by
    rw [ld1_holds' (cs := [s]) (by obtain ⟨ro, op, e⟩ := h1; exact ⟨ro, op, (hS gb hgb).trans e⟩)]; rfl
  have hzz : bldV [.int .i64 0, .int .i64 0, .int .i64 0, .int .i64 0] [] = some (av [0, 0, 0, 0]) := rfl
  have hz4 : ([0, 0, 0, 0] : List Int).length = 4 := rfl
  have hq : ∀ (x : Option Nat), sameB x H H = true := fun x => sameB_of fun i _ => rfl
  clear hH
  obtain ⟨F, hF⟩ : ∃ F, faceL Gl t f = F := ⟨_, rfl⟩
  rw [hF] at hx hp hsp ht5 y2h hst b1 b2 b3
  obtain ⟨X, hX⟩ : ∃ X, tetL F = X := ⟨_, rfl⟩
  obtain ⟨Y, hY⟩ : ∃ Y, permL F = Y := ⟨_, rfl⟩
  rw [hX] at b1 hsp
  rw [hY] at b2 b3 hsp hp
  have okE : okFace Gl n t f = (decide (X = -1 ∧ Y = [0, 0, 0, 0]) || (decide (0 ≤ X) && decide (X < n) && validB Y && !(decide (X = t) && decide (Y.getD f 0 = f)) && decide (faceL Gl X.toNat (Y.getD f 0).toNat = (t : Int) :: inv Y))) := by
    unfold okFace
    rw [hF, hX, hY]
    congr 1
    rw [hsp]
    simp [noneL]
  have hnl : (t : Int) :: inv Y = (t : Int) :: inv Y := rfl
  unfold f13_L13001
  repeat (first
    | (with_reducible refine Ans.bt ?_ ?_; exact rfl)
    | (with_reducible refine Ans.bf ?_ ?_; exact rfl)
    | (with_reducible refine Ans.ct ?_ ?_; focus (simp; done))
    | (with_reducible refine Ans.cf ?_ ?_; focus (simp; done))
    | refine Ans.step (by simp (disch := (first | omega | (simp <;> omega) | fail)) [ft, -List.getD_eq_getElem?_getD] <;> rfl) ?_)
  refine Ans.bind ?_
  by_cases q1 : X = -1
  · have q1' := eq_true q1
    have q0 := eq_true (show X < 0 by omega)
    by_cases q2 : Y = [0, 0, 0, 0]
    · have ok : okFace Gl n t f = true := by rw [okE]; simp [q1, q2]
      rw [ok]
      have q2' := eq_true q2
      repeat (first
        | (with_reducible refine Ans.bt ?_ ?_; exact rfl)
        | (with_reducible refine Ans.bf ?_ ?_; exact rfl)
        | (with_reducible refine Ans.ct ?_ ?_; focus (simp; done))
        | (with_reducible refine Ans.cf ?_ ?_; focus (simp; done))
        | refine Ans.step (by simp (disch := (first | omega | (simp <;> omega) | fail)) [ft, e2, y1, y2h, hst, b1, b2, hzz, hz4, eq_perm, hp, q1', q2', -List.getD_eq_getElem?_getD] <;> rfl) ?_)
      refine .done ?_
      repeat (first
        | (with_reducible refine Ans.bt ?_ ?_; exact rfl)
        | (with_reducible refine Ans.bf ?_ ?_; exact rfl)
        | (with_reducible refine Ans.ct ?_ ?_; focus (simp; done))
        | (with_reducible refine Ans.cf ?_ ?_; focus (simp; done))
        | refine Ans.step (by simp (disch := (first | omega | (simp <;> omega) | fail)) [ft, -List.getD_eq_getElem?_getD] <;> rfl) ?_)
      exact .done ⟨rfl, hS, by simp, by simp⟩
    · have ok : okFace Gl n t f = false := by rw [okE]; simp [q1, q2]
      rw [ok]
      repeat (first
        | (with_reducible refine Ans.bt ?_ ?_; exact rfl)
        | (with_reducible refine Ans.bf ?_ ?_; exact rfl)
        | (with_reducible refine Ans.ct ?_ ?_; focus (simp; done))
        | (with_reducible refine Ans.cf ?_ ?_; focus (simp; done))
        | refine Ans.step (by simp (disch := (first | omega | (simp <;> omega) | fail)) [ft, e2, y1, y2h, hst, b1, b2, hzz, hz4, eq_perm, hp, q1', q2, q0, -List.getD_eq_getElem?_getD] <;> rfl) ?_)
      refine .done ?_
      repeat (first
        | (with_reducible refine Ans.bt ?_ ?_; exact rfl)
        | (with_reducible refine Ans.bf ?_ ?_; exact rfl)
        | (with_reducible refine Ans.ct ?_ ?_; focus (simp; done))
        | (with_reducible refine Ans.cf ?_ ?_; focus (simp; done))
        | refine Ans.step (by simp (disch := (first | omega | (simp <;> omega) | fail)) [ft, -List.getD_eq_getElem?_getD] <;> rfl) ?_)
      exact .done ⟨rfl, hS, by simp, by simp⟩
  by_cases q3 : X < 0
  · have ok : okFace Gl n t f = false := by
      have : ¬ 0 ≤ X := by omega
      rw [okE]; simp [q1, this]
    rw [ok]
    repeat (first
      | (with_reducible refine Ans.bt ?_ ?_; exact rfl)
      | (with_reducible refine Ans.bf ?_ ?_; exact rfl)
      | (with_reducible refine Ans.ct ?_ ?_; focus (simp; done))
      | (with_reducible refine Ans.cf ?_ ?_; focus (simp; done))
      | refine Ans.step (by simp (disch := (first | omega | (simp <;> omega) | fail)) [ft, e2, y1, y2h, hst, b1, b2, hzz, hz4, eq_perm, hp, q1, q3, -List.getD_eq_getElem?_getD] <;> rfl) ?_)
    refine .done ?_
    repeat (first
      | (with_reducible refine Ans.bt ?_ ?_; exact rfl)
      | (with_reducible refine Ans.bf ?_ ?_; exact rfl)
      | (with_reducible refine Ans.ct ?_ ?_; focus (simp; done))
      | (with_reducible refine Ans.cf ?_ ?_; focus (simp; done))
      | refine Ans.step (by simp (disch := (first | omega | (simp <;> omega) | fail)) [ft, -List.getD_eq_getElem?_getD] <;> rfl) ?_)
    exact .done ⟨rfl, hS, by simp, by simp⟩
  by_cases q4 : (n : Int) ≤ X
  · have ok : okFace Gl n t f = false := by
      have : ¬ X < n := by omega
      rw [okE]; simp [q1, this]
    rw [ok]
    repeat (first
      | (with_reducible refine Ans.bt ?_ ?_; exact rfl)
      | (with_reducible refine Ans.bf ?_ ?_; exact rfl)
      | (with_reducible refine Ans.ct ?_ ?_; focus (simp; done))
      | (with_reducible refine Ans.cf ?_ ?_; focus (simp; done))
      | refine Ans.step (by simp (disch := (first | omega | (simp <;> omega) | fail)) [ft, e2, y1, y2h, hst, b1, b2, hzz, hz4, eq_perm, hp, q1, q3, q4, -List.getD_eq_getElem?_getD] <;> rfl) ?_)
    refine .done ?_
    repeat (first
      | (with_reducible refine Ans.bt ?_ ?_; exact rfl)
      | (with_reducible refine Ans.bf ?_ ?_; exact rfl)
      | (with_reducible refine Ans.ct ?_ ?_; focus (simp; done))
      | (with_reducible refine Ans.cf ?_ ?_; focus (simp; done))
      | refine Ans.step (by simp (disch := (first | omega | (simp <;> omega) | fail)) [ft, -List.getD_eq_getElem?_getD] <;> rfl) ?_)
    exact .done ⟨rfl, hS, by simp, by simp⟩
  cases q5 : validB Y with
  | false =>
    have ok : okFace Gl n t f = false := by rw [okE]; simp [q1, q5]
    rw [ok]
    repeat (first
      | (with_reducible refine Ans.bt ?_ ?_; exact rfl)
      | (with_reducible refine Ans.bf ?_ ?_; exact rfl)
      | (with_reducible refine Ans.ct ?_ ?_; focus (simp; done))
      | (with_reducible refine Ans.cf ?_ ?_; focus (simp; done))
      | refine Ans.step (by simp (disch := (first | omega | (simp <;> omega) | fail)) [ft, e2, y1, y2h, hst, b1, b2, hzz, hz4, eq_perm, hp, q1, q3, q4, q5, callF_validR, -List.getD_eq_getElem?_getD] <;> rfl) ?_)
    refine .done ?_
    repeat (first
      | (with_reducible refine Ans.bt ?_ ?_; exact rfl)
      | (with_reducible refine Ans.bf ?_ ?_; exact rfl)
      | (with_reducible refine Ans.ct ?_ ?_; focus (simp; done))
      | (with_reducible refine Ans.cf ?_ ?_; focus (simp; done))
      | refine Ans.step (by simp (disch := (first | omega | (simp <;> omega) | fail)) [ft, -List.getD_eq_getElem?_getD] <;> rfl) ?_)
    exact .done ⟨rfl, hS, by simp, by simp⟩
  | true =>
    have hr := validB_range q5
    have hpr : 0 ≤ Y.getD f 0 ∧ Y.getD f 0 < 4 := by
      have hlt : f < Y.length := by omega
      have := hr _ (List.getElem_mem hlt)
      simpa [List.getD, List.getElem?_eq_getElem hlt] using this
    have c1 : ∀ H c, callF G 42 [av Y] H c = some (av (inv Y), H, c) := fun H c => by
      rw [callF_inverseR Y hp, invR, if_pos q5]
    have hil : (inv Y).length = 4 := invL_length Y 0 [0, 0, 0, 0]
    by_cases q6 : X = t
    · by_cases q7 : Y.getD f 0 = f
      · have ok : okFace Gl n t f = false := by rw [okE]; simp [q1, q6, q7, -List.getD_eq_getElem?_getD]
        rw [ok]
        have q6' := eq_true q6
        have q7' := eq_true q7
        repeat (first
          | (with_reducible refine Ans.bt ?_ ?_; exact rfl)
          | (with_reducible refine Ans.bf ?_ ?_; exact rfl)
          | (with_reducible refine Ans.ct ?_ ?_; focus (simp; done))
          | (with_reducible refine Ans.cf ?_ ?_; focus (simp; done))
          | refine Ans.step (by simp (disch := (first | omega | (simp <;> omega) | fail)) [ft, e2, y1, y2h, hst, b1, b2, b3, hzz, hz4, eq_perm, hp, q1, q3, q4, q5, callF_validR, q6', q7', -List.getD_eq_getElem?_getD] <;> rfl) ?_)
        refine .done ?_
        repeat (first
          | (with_reducible refine Ans.bt ?_ ?_; exact rfl)
          | (with_reducible refine Ans.bf ?_ ?_; exact rfl)
          | (with_reducible refine Ans.ct ?_ ?_; focus (simp; done))
          | (with_reducible refine Ans.cf ?_ ?_; focus (simp; done))
          | refine Ans.step (by simp (disch := (first | omega | (simp <;> omega) | fail)) [ft, -List.getD_eq_getElem?_getD] <;> rfl) ?_)
        exact .done ⟨rfl, hS, by simp, by simp⟩
      · have q6' := eq_true q6
        obtain ⟨gb2, go, z1, z2, z3⟩ := hface X (Y.getD f 0) (by omega) (by omega) hpr.1 hpr.2
        have z2h := z2 H (fun i hi => hS i hi)
        have hfl := faceL_length (t := X.toNat) (f := (Y.getD f 0).toNat) h2.1 (by omega) (by omega)
        have hbl := bld5 (t : Int) (inv Y) hil
        have hneq := neq_face (faceL Gl X.toNat (Y.getD f 0).toNat) ((t : Int) :: inv Y) hfl (by simp [hil])
        by_cases q8 : faceL Gl X.toNat (Y.getD f 0).toNat = (t : Int) :: inv Y
        · have ok : okFace Gl n t f = true := by
            have a1 : 0 ≤ X := by omega
            have a2 : X < n := by omega
            rw [okE, decide_eq_true q8]; simp [a1, a2, q5, q7, -List.getD_eq_getElem?_getD]
          rw [ok]
          rw [decide_eq_true q8] at hneq
          repeat (first
            | (with_reducible refine Ans.bt ?_ ?_; exact rfl)
            | (with_reducible refine Ans.bf ?_ ?_; exact rfl)
            | (with_reducible refine Ans.ct ?_ ?_; focus (simp; done))
            | (with_reducible refine Ans.cf ?_ ?_; focus (simp; done))
            | refine Ans.step (by simp (disch := (first | omega | (simp <;> omega) | fail)) [ft, e2, e2', y1, y2h, hst, b1, b2, b3, hzz, hz4, eq_perm, hp, q1, q3, q4, q5, callF_validR, q6', q7, c1, z1, z2h, hbl, hneq, hq, hpr, -List.getD_eq_getElem?_getD] <;> rfl) ?_)
          refine .done ?_
          repeat (first
            | (with_reducible refine Ans.bt ?_ ?_; exact rfl)
            | (with_reducible refine Ans.bf ?_ ?_; exact rfl)
            | (with_reducible refine Ans.ct ?_ ?_; focus (simp; done))
            | (with_reducible refine Ans.cf ?_ ?_; focus (simp; done))
            | refine Ans.step (by simp (disch := (first | omega | (simp <;> omega) | fail)) [ft, -List.getD_eq_getElem?_getD] <;> rfl) ?_)
          exact .done ⟨rfl, hS, by simp, by simp⟩
        · have ok : okFace Gl n t f = false := by rw [okE, decide_eq_false q8]; simp [q1]
          rw [ok]
          rw [decide_eq_false q8] at hneq
          repeat (first
            | (with_reducible refine Ans.bt ?_ ?_; exact rfl)
            | (with_reducible refine Ans.bf ?_ ?_; exact rfl)
            | (with_reducible refine Ans.ct ?_ ?_; focus (simp; done))
            | (with_reducible refine Ans.cf ?_ ?_; focus (simp; done))
            | refine Ans.step (by simp (disch := (first | omega | (simp <;> omega) | fail)) [ft, e2, e2', y1, y2h, hst, b1, b2, b3, hzz, hz4, eq_perm, hp, q1, q3, q4, q5, callF_validR, q6', q7, c1, z1, z2h, hbl, hneq, hq, hpr, -List.getD_eq_getElem?_getD] <;> rfl) ?_)
          refine .done ?_
          repeat (first
            | (with_reducible refine Ans.bt ?_ ?_; exact rfl)
            | (with_reducible refine Ans.bf ?_ ?_; exact rfl)
            | (with_reducible refine Ans.ct ?_ ?_; focus (simp; done))
            | (with_reducible refine Ans.cf ?_ ?_; focus (simp; done))
            | refine Ans.step (by simp (disch := (first | omega | (simp <;> omega) | fail)) [ft, -List.getD_eq_getElem?_getD] <;> rfl) ?_)
          exact .done ⟨rfl, hS, by simp, by simp⟩
    · obtain ⟨gb2, go, z1, z2, z3⟩ := hface X (Y.getD f 0) (by omega) (by omega) hpr.1 hpr.2
      have z2h := z2 H (fun i hi => hS i hi)
      have hfl := faceL_length (t := X.toNat) (f := (Y.getD f 0).toNat) h2.1 (by omega) (by omega)
      have hbl := bld5 (t : Int) (inv Y) hil
      have hneq := neq_face (faceL Gl X.toNat (Y.getD f 0).toNat) ((t : Int) :: inv Y) hfl (by simp [hil])
      by_cases q8 : faceL Gl X.toNat (Y.getD f 0).toNat = (t : Int) :: inv Y
      · have ok : okFace Gl n t f = true := by
          have a1 : 0 ≤ X := by omega
          have a2 : X < n := by omega
          rw [okE, decide_eq_true q8]; simp [a1, a2, q5, q6]
        rw [ok]
        rw [decide_eq_true q8] at hneq
        repeat (first
          | (with_reducible refine Ans.bt ?_ ?_; exact rfl)
          | (with_reducible refine Ans.bf ?_ ?_; exact rfl)
          | (with_reducible refine Ans.ct ?_ ?_; focus (simp; done))
          | (with_reducible refine Ans.cf ?_ ?_; focus (simp; done))
          | refine Ans.step (by simp (disch := (first | omega | (simp <;> omega) | fail)) [ft, e2, e2', y1, y2h, hst, b1, b2, b3, hzz, hz4, eq_perm, hp, q1, q3, q4, q5, callF_validR, q6, c1, z1, z2h, hbl, hneq, hq, hpr, -List.getD_eq_getElem?_getD] <;> rfl) ?_)
        refine .done ?_
        repeat (first
          | (with_reducible refine Ans.bt ?_ ?_; exact rfl)
          | (with_reducible refine Ans.bf ?_ ?_; exact rfl)
          | (with_reducible refine Ans.ct ?_ ?_; focus (simp; done))
          | (with_reducible refine Ans.cf ?_ ?_; focus (simp; done))
          | refine Ans.step (by simp (disch := (first | omega | (simp <;> omega) | fail)) [ft, -List.getD_eq_getElem?_getD] <;> rfl) ?_)
        exact .done ⟨rfl, hS, by simp, by simp⟩
      · have ok : okFace Gl n t f = false := by rw [okE, decide_eq_false q8]; simp [q1]
        rw [ok]
        rw [decide_eq_false q8] at hneq
        repeat (first
          | (with_reducible refine Ans.bt ?_ ?_; exact rfl)
          | (with_reducible refine Ans.bf ?_ ?_; exact rfl)
          | (with_reducible refine Ans.ct ?_ ?_; focus (simp; done))
          | (with_reducible refine Ans.cf ?_ ?_; focus (simp; done))
          | refine Ans.step (by simp (disch := (first | omega | (simp <;> omega) | fail)) [ft, e2, e2', y1, y2h, hst, b1, b2, b3, hzz, hz4, eq_perm, hp, q1, q3, q4, q5, callF_validR, q6, c1, z1, z2h, hbl, hneq, hq, hpr, -List.getD_eq_getElem?_getD] <;> rfl) ?_)
        refine .done ?_
        repeat (first
          | (with_reducible refine Ans.bt ?_ ?_; exact rfl)
          | (with_reducible refine Ans.bf ?_ ?_; exact rfl)
          | (with_reducible refine Ans.ct ?_ ?_; focus (simp; done))
          | (with_reducible refine Ans.cf ?_ ?_; focus (simp; done))
          | refine Ans.step (by simp (disch := (first | omega | (simp <;> omega) | fail)) [ft, -List.getD_eq_getElem?_getD] <;> rfl) ?_)
        exact .done ⟨rfl, hS, by simp, by simp⟩
end Go.Proofs.Ytcnndelmnobigaa

namespace Go.Proofs.Ytcnndelmnobigaa
open Go Go.Ab Go.Proofs
set_option maxRecDepth 100000
set_option linter.unusedVariables false
set_option linter.unusedSimpArgs false

theorem checkR_in (s : Value) (n : Nat) (Gl : List Int) (gb c : Nat) (h : FH) (t : Nat) (ht : t < n) (hgb : gb < 256 * c)
    (h1 : Holds h gb [s]) (h2 : SlI h c s 20 n Gl) (df : List Nat) : ∀ (k f : Nat), f + k = 4 →
    ((∀ j, f ≤ j → j < 4 → okFace Gl n t j = true) ∧ G (f13_k13001 none) [ptrTo gb, .int .i64 0, .int .i64 n, .int .i64 t, .int .i64 f] h c df = some { e := .exit 2, vs := [ptrTo gb, .int .i64 0, .int .i64 n, .int .i64 t, .int .i64 4], h := h, c := c, df := df }) ∨
    ((∃ j, f ≤ j ∧ j < 4 ∧ okFace Gl n t j = false) ∧ ∃ f' : Nat, G (f13_k13001 none) [ptrTo gb, .int .i64 0, .int .i64 n, .int .i64 t, .int .i64 f] h c df = some { e := .ret, vs := [ptrTo gb, .int .i64 7, .int .i64 n, .int .i64 t, .int .i64 f'], h := h, c := c, df := df }) := by
  intro k
  induction k with
  | zero =>
    intro f hf
    obtain rfl : f = 4 := by omega
    refine .inl ⟨fun j h1 h2 => by omega, ?_⟩
    refine (f13_Z13001 (q := ⟨.exit 2, [ptrTo gb, .int .i64 0, .int .i64 n, .int .i64 t, .int .i64 4], h, c + 1, df⟩) (by unfold f13_L13001; simp) (by simp)).trans ?_
    rw [gcR_same (by simp [hgb])]
  | succ k ih =>
    intro f hf
    obtain ⟨⟨re, rv, rh, rc, rd⟩, hr, r1, r2, r3, r4⟩ := checkR_face s n Gl gb c h t f ht (by omega) hgb h1 h2 (.int .i64 0) df
    simp only at r1 r2 r3 r4
    subst r1
    cases ok : okFace Gl n t f with
    | true =>
      rw [ok] at r3 r4
      simp only [if_true] at r3 r4
      subst r3 r4
      have hg : gcR h c rd { e := .normal, vs := [ptrTo gb, .int .i64 0, .int .i64 n, .int .i64 t, .int .i64 (f + 1 : Nat)], h := rh, c := rc, df := rd } = _ := gcR_pure (by simp [hgb]) r2
      rcases ih (f + 1) (by omega) with ⟨a, b⟩ | ⟨⟨j, j1, j2, j3⟩, f', b⟩
      · refine .inl ⟨fun j h1 h2 => ?_, f13_N13001 hr rfl (by rw [hg]; exact b)⟩
        by_cases hj : j = f
        · rw [hj]; exact ok
        · exact a j (by omega) h2
      · exact .inr ⟨⟨j, by omega, j2, j3⟩, f', f13_N13001 hr rfl (by rw [hg]; exact b)⟩
    | false =>
      rw [ok] at r3 r4
      simp only [Bool.false_eq_true, if_false] at r3 r4
      subst r3 r4
      refine .inr ⟨⟨f, Nat.le_refl _, by omega, ok⟩, f, (f13_Z13001 hr (by simp)).trans ?_⟩
      rw [gcR_pure (by simp [hgb]) r2]

theorem SlI.up {h : FH} {c c' : Nat} {s : Value} {sz n : Nat} {Gl : List Int} (hs : SlI h c s sz n Gl) (hc : c ≤ c') : SlI h c' s sz n Gl := hs.mono hc

theorem checkR_out (s : Value) (n : Nat) (Gl : List Int) (gb c : Nat) (h : FH) (hgb : gb < 256 * c)
    (h1 : Holds h gb [s]) (h2 : SlI h c s 20 n Gl) (hn : n ≤ 1000) (df : List Nat) : ∀ (k t : Nat), t + k = n →
    ((∀ u j, t ≤ u → u < n → j < 4 → okFace Gl n u j = true) ∧ G (f13_k13000 none) [ptrTo gb, .int .i64 0, .int .i64 n, .int .i64 t] h c df = some { e := .exit 0, vs := [ptrTo gb, .int .i64 0, .int .i64 n, .int .i64 n], h := h, c := c, df := df }) ∨
    ((∃ u j, t ≤ u ∧ u < n ∧ j < 4 ∧ okFace Gl n u j = false) ∧ ∃ t' : Nat, G (f13_k13000 none) [ptrTo gb, .int .i64 0, .int .i64 n, .int .i64 t] h c df = some { e := .ret, vs := [ptrTo gb, .int .i64 7, .int .i64 n, .int .i64 t'], h := h, c := c, df := df }) := by
  intro k
  induction k with
  | zero =>
    intro t ht
    obtain rfl : t = n := by omega
    refine .inl ⟨fun u j h1 h2 => by omega, ?_⟩
    refine (f13_Z13000 (q := ⟨.exit 0, [ptrTo gb, .int .i64 0, .int .i64 t, .int .i64 t], h, c + 1, df⟩) (by unfold f13_L13000; simp) (by simp)).trans ?_
    rw [gcR_same (by simp [hgb])]
  | succ k ih =>
    intro t ht
    have e0 : (t : Int) < n := by omega
    have hin := checkR_in s n Gl gb (c + 1 + 1) h t (by omega) (by omega) h1 (h2.mono (by omega)) df 4 0 rfl
    simp only [Int.ofNat_eq_natCast, Int.cast_ofNat_Int] at hin
    rcases hin with ⟨a, b⟩ | ⟨⟨j, j1, j2, j3⟩, f', b⟩
    · have step : f13_L13000 G none (ptrTo gb) (.int .i64 0) (.int .i64 n) (.int .i64 t) h c df = some { e := .normal, vs := [ptrTo gb, .int .i64 0, .int .i64 n, .int .i64 (t + 1 : Nat)], h := h, c := c + 1 + 1 + 1, df := df } := by
        apply Ans.eq
        unfold f13_L13000
        repeat (first
          | (with_reducible refine Ans.bt ?_ ?_; exact rfl)
          | (with_reducible refine Ans.bf ?_ ?_; exact rfl)
          | (with_reducible refine Ans.ct ?_ ?_; focus (simp; done))
          | (with_reducible refine Ans.cf ?_ ?_; focus (simp; done))
          | refine Ans.step (by simp (disch := (first | omega | (simp <;> omega) | fail)) [e0, b, -List.getD_eq_getElem?_getD] <;> rfl) ?_)
        exact .done rfl
      have hg : gcR h c df { e := .normal, vs := [ptrTo gb, .int .i64 0, .int .i64 n, .int .i64 (t + 1 : Nat)], h := h, c := c + 1 + 1 + 1, df := df } = _ := gcR_same (by simp [hgb])
      rcases ih (t + 1) (by omega) with ⟨a2, b2⟩ | ⟨⟨u, j, u1, u2, u3, u4⟩, t', b2⟩
      · refine .inl ⟨fun u j h1 h2 h3 => ?_, f13_N13000 step rfl (by rw [hg]; exact b2)⟩
        by_cases hu : u = t
        · rw [hu]; exact a j (Nat.zero_le _) h3
        · exact a2 u j (by omega) h2 h3
      · exact .inr ⟨⟨u, j, by omega, u2, u3, u4⟩, t', f13_N13000 step rfl (by rw [hg]; exact b2)⟩
    · refine .inr ⟨⟨t, j, Nat.le_refl _, by omega, j2, j3⟩, t, ?_⟩
      have step : f13_L13000 G none (ptrTo gb) (.int .i64 0) (.int .i64 n) (.int .i64 t) h c df = some { e := .ret, vs := [ptrTo gb, .int .i64 7, .int .i64 n, .int .i64 t], h := h, c := c + 1 + 1, df := df } := by
        apply Ans.eq
        unfold f13_L13000
        repeat (first
          | (with_reducible refine Ans.bt ?_ ?_; exact rfl)
          | (with_reducible refine Ans.bf ?_ ?_; exact rfl)
          | (with_reducible refine Ans.ct ?_ ?_; focus (simp; done))
          | (with_reducible refine Ans.cf ?_ ?_; focus (simp; done))
          | refine Ans.step (by simp (disch := (first | omega | (simp <;> omega) | fail)) [e0, b, -List.getD_eq_getElem?_getD] <;> rfl) ?_)
        exact .done rfl
      refine (f13_Z13000 step (by simp)).trans ?_
      rw [gcR_same (by simp [hgb])]

theorem checkR_sp (s : Value) (n : Nat) (Gl : List Int) (h : FH) (c : Nat) (df : List Nat) (hs : SlI h c s 20 n Gl) :
    G (.fn 13) [.agg #[s]] h c df = some { e := .ret, vs := [.int .i64 (if n ≤ 1000 ∧ okAll Gl n = true then 0 else 7)], h := h, c := c, df := [] } := by
  refine pure_of (fun r e => f13_go e) (by simp) ?_
  have hflat : ((Value.agg #[s]).cells.toList.all isFlat) = true := by
    obtain ⟨_, _, a, cap, rfl, _⟩ := hs
    rfl
  have hcell : (Value.agg #[s]).cells.toList = [s] := rfl
  have hlen := hs.len
  unfold f13_S
  rw [hflat, hcell]
  simp only [cond_true]
  by_cases hn : n ≤ 1000
  · have hn' : ¬ (1000 : Int) < n := by omega
    have hsl : SlI (newB h (256 * c) [s]) (c + 1 + 1 + 1 + 1) s 20 n Gl := (hs.same ((Same_newB (by omega)).2 (Same.refl _ _))).mono (by omega)
    have ho := checkR_out s n Gl (256 * c) (c + 1 + 1 + 1 + 1) (newB h (256 * c) [s]) (by omega) (Holds.newB_same _ _ _) hsl hn [] n 0 (by omega)
    simp only [Int.ofNat_eq_natCast, Int.cast_ofNat_Int] at ho
    rcases ho with ⟨a, b⟩ | ⟨⟨u, j, u1, u2, u3, u4⟩, t', b⟩
    · have ok : okAll Gl n = true := by
        rw [okAll_iff]
        intro j hj
        exact a (j / 4) (j % 4) (Nat.zero_le _) (by omega) (by omega)
      rw [if_pos ⟨hn, ok⟩]
      repeat (first
        | (with_reducible refine Ans.bt ?_ ?_; exact rfl)
        | (with_reducible refine Ans.bf ?_ ?_; exact rfl)
        | (with_reducible refine Ans.ct ?_ ?_; focus (simp; done))
        | (with_reducible refine Ans.cf ?_ ?_; focus (simp; done))
        | refine Ans.step (by simp (disch := (first | omega | (simp <;> omega) | fail)) [hlen, hn', b, -List.getD_eq_getElem?_getD] <;> rfl) ?_)
      refine .done ⟨rfl, rfl, ?_, rfl⟩
      simp (disch := omega)
    · have ok : ¬ (n ≤ 1000 ∧ okAll Gl n = true) := by
        rintro ⟨_, ok⟩
        rw [okAll_iff] at ok
        have := ok (4 * u + j) (by omega)
        have e1 : (4 * u + j) / 4 = u := by omega
        have e2 : (4 * u + j) % 4 = j := by omega
        rw [e1, e2, u4] at this
        cases this
      rw [if_neg ok]
      repeat (first
        | (with_reducible refine Ans.bt ?_ ?_; exact rfl)
        | (with_reducible refine Ans.bf ?_ ?_; exact rfl)
        | (with_reducible refine Ans.ct ?_ ?_; focus (simp; done))
        | (with_reducible refine Ans.cf ?_ ?_; focus (simp; done))
        | refine Ans.step (by simp (disch := (first | omega | (simp <;> omega) | fail)) [hlen, hn', b, -List.getD_eq_getElem?_getD] <;> rfl) ?_)
      refine .done ⟨rfl, rfl, ?_, rfl⟩
      simp (disch := omega)
  · have hn' : (1000 : Int) < n := by omega
    rw [if_neg (fun h => hn h.1)]
    repeat (first
      | (with_reducible refine Ans.bt ?_ ?_; exact rfl)
      | (with_reducible refine Ans.bf ?_ ?_; exact rfl)
      | (with_reducible refine Ans.ct ?_ ?_; focus (simp; done))
      | (with_reducible refine Ans.cf ?_ ?_; focus (simp; done))
      | refine Ans.step (by simp (disch := (first | omega | (simp <;> omega) | fail)) [hlen, hn', -List.getD_eq_getElem?_getD] <;> rfl) ?_)
    refine .done ⟨rfl, rfl, ?_, rfl⟩
    simp (disch := omega)
end Go.Proofs.Ytcnndelmnobigaa

/-! A heap that computes. -/
namespace Go.Ab
open Go
set_option linter.unusedVariables false

inductive Tri where
  | leaf
  | node (b : Option ABlk) (l r : Tri)

def Tri.get : Tri → Nat → Option ABlk
  | .leaf, _ => none
  | .node b l r, i => cond (Nat.beq i 0) b (cond (Nat.beq (i % 2) 1) (l.get (i / 2)) (r.get (i / 2 - 1)))

def Tri.upd : Nat → Tri → Nat → Option ABlk → Tri
  | 0, t, _, o => match t with
    | .leaf => .node o .leaf .leaf
    | .node _ l r => .node o l r
  | n + 1, t, i, o => match t with
    | .leaf => cond (Nat.beq i 0) (.node o .leaf .leaf) (cond (Nat.beq (i % 2) 1) (.node none (Tri.upd n .leaf (i / 2) o) .leaf) (.node none .leaf (Tri.upd n .leaf (i / 2 - 1) o)))
    | .node b l r => cond (Nat.beq i 0) (.node o l r) (cond (Nat.beq (i % 2) 1) (.node b (Tri.upd n l (i / 2) o) r) (.node b l (Tri.upd n r (i / 2 - 1) o)))

theorem Tri.get_upd : ∀ (n : Nat) (t : Tri) (i : Nat) (o : Option ABlk) (j : Nat), i ≤ n → (Tri.upd n t i o).get j = if j = i then o else t.get j := by
  have key : ∀ (b : Option ABlk) (l r : Tri) (i : Nat), (Tri.node b l r).get i = if i = 0 then b else if i % 2 = 1 then l.get (i / 2) else r.get (i / 2 - 1) := by
    intro b l r i
    simp only [Tri.get]
    by_cases h0 : i = 0
    · subst h0; rfl
    · have : Nat.beq i 0 = false := by rw [Bool.eq_false_iff]; intro h; exact h0 (Nat.eq_of_beq_eq_true h)
      rw [this]
      simp only [h0, if_false, cond_false]
      by_cases h1 : i % 2 = 1
      · simp [h1]
      · have : Nat.beq (i % 2) 1 = false := by rw [Bool.eq_false_iff]; intro h; exact h1 (Nat.eq_of_beq_eq_true h)
        simp [h1, this]
  have leafg : ∀ j, Tri.leaf.get j = none := fun _ => rfl
  intro n
  induction n with
  | zero =>
    intro t i o j hi
    have : i = 0 := by omega
    subst this
    cases t with
    | leaf =>
      simp only [Tri.upd, key, leafg]
      split <;> simp
    | node b l r =>
      simp only [Tri.upd, key]
      by_cases h : j = 0 <;> simp [h]
  | succ n ih =>
    intro t i o j hi
    by_cases h0 : i = 0
    · subst h0
      cases t with
      | leaf =>
        simp only [Tri.upd, Nat.beq_refl, cond_true, key, leafg]
        split <;> simp
      | node b l r =>
        simp only [Tri.upd, Nat.beq_refl, cond_true, key]
        by_cases h : j = 0 <;> simp [h]
    · have hb0 : Nat.beq i 0 = false := by rw [Bool.eq_false_iff]; intro h; exact h0 (Nat.eq_of_beq_eq_true h)
      by_cases h1 : i % 2 = 1
      · have hb1 : Nat.beq (i % 2) 1 = true := by rw [h1]; rfl
        cases t with
        | leaf =>
          simp only [Tri.upd, hb0, hb1, cond_true, cond_false, key, leafg]
          by_cases hj : j = 0
          · subst hj; simp [Ne.symm h0]
          · simp only [hj, if_false]
            by_cases hj1 : j % 2 = 1
            · simp only [hj1, if_true]
              rw [ih _ _ _ _ (by omega), leafg]
              by_cases e : j = i
              · simp [e]
              · rw [if_neg e, if_neg (by omega)]
            · rw [if_neg hj1, if_neg (by omega)]
        | node b l r =>
          simp only [Tri.upd, hb0, hb1, cond_true, cond_false, key]
          by_cases hj : j = 0
          · subst hj; simp [Ne.symm h0]
          · simp only [hj, if_false]
            by_cases hj1 : j % 2 = 1
            · simp only [hj1, if_true]
              rw [ih _ _ _ _ (by omega)]
              by_cases e : j = i
              · simp [e]
              · rw [if_neg e, if_neg (by omega)]
            · rw [if_neg hj1, if_neg (show ¬ j = i by omega), if_neg hj1]
      · have hb1 : Nat.beq (i % 2) 1 = false := by rw [Bool.eq_false_iff]; intro h; exact h1 (Nat.eq_of_beq_eq_true h)
        cases t with
        | leaf =>
          simp only [Tri.upd, hb0, hb1, cond_true, cond_false, key, leafg]
          by_cases hj : j = 0
          · subst hj; simp [Ne.symm h0]
          · simp only [hj, if_false]
            by_cases hj1 : j % 2 = 1
            · rw [if_pos hj1, if_neg (by omega)]
            · rw [if_neg hj1, ih _ _ _ _ (by omega), leafg]
              by_cases e : j = i
              · simp [e]
              · rw [if_neg e, if_neg (by omega)]
        | node b l r =>
          simp only [Tri.upd, hb0, hb1, cond_true, cond_false, key]
          by_cases hj : j = 0
          · subst hj; simp [Ne.symm h0]
          · simp only [hj, if_false]
            by_cases hj1 : j % 2 = 1
            · rw [if_pos hj1, if_neg (show ¬ j = i by omega), if_pos hj1]
            · rw [if_neg hj1, ih _ _ _ _ (by omega)]
              by_cases e : j = i
              · simp [e]
              · rw [if_neg e, if_neg (by omega), if_neg hj1]

/-- Equality of values, as far as it is cheap. -/
def addrEq : Option Addr → Option Addr → Bool
  | none, none => true
  | some ⟨a, b, none⟩, some ⟨c, d, none⟩ => Nat.beq a c && Nat.beq b d
  | _, _ => false
def valEq : Value → Value → Bool
  | .bool a, .bool b => a == b
  | .int k n, .int k' n' => decide (k = k') && n == n'
  | .pointer a, .pointer b => addrEq a b
  | .slice a l c, .slice b l' c' => addrEq a b && Nat.beq l l' && Nat.beq c c'
  | .map (some a), .map (some b) => Nat.beq a b
  | .map none, .map none => true
  | .nilFunc, .nilFunc => true
  | .nilIface, .nilIface => true
  | _, _ => false
def valsEq : List Value → List Value → Bool
  | [], [] => true
  | x :: xs, y :: ys => valEq x y && valsEq xs ys
  | _, _ => false
def optNatEq : Option Nat → Option Nat → Bool
  | none, none => true
  | some a, some b => Nat.beq a b
  | _, _ => false
def blkEq : Option ABlk → Option ABlk → Bool
  | none, none => true
  | some (.cells ro o c), some (.cells ro' o' c') => ro == ro' && optNatEq o o' && valsEq c c'
  | some .dead, some .dead => true
  | some .dfr, some .dfr => true
  | _, _ => false

theorem addrEq_eq {a b : Option Addr} (h : addrEq a b = true) : a = b := by
  unfold addrEq at h
  split at h
  · rfl
  · simp only [Bool.and_eq_true] at h
    rw [Nat.eq_of_beq_eq_true h.1, Nat.eq_of_beq_eq_true h.2]
  · cases h
theorem valEq_eq {a b : Value} (h : valEq a b = true) : a = b := by
  unfold valEq at h
  split at h
  · simp at h; rw [h]
  · simp at h; rw [h.1, h.2]
  · rw [addrEq_eq h]
  · simp only [Bool.and_eq_true] at h
    rw [addrEq_eq h.1.1, Nat.eq_of_beq_eq_true h.1.2, Nat.eq_of_beq_eq_true h.2]
  · rw [Nat.eq_of_beq_eq_true h]
  · rfl
  · rfl
  · rfl
  · cases h
theorem valsEq_eq : ∀ {a b : List Value}, valsEq a b = true → a = b
  | [], [], _ => rfl
  | x :: xs, y :: ys, h => by
    simp only [valsEq, Bool.and_eq_true] at h
    rw [valEq_eq h.1, valsEq_eq h.2]
  | [], y :: ys, h => by cases h
  | x :: xs, [], h => by cases h
theorem optNatEq_eq {a b : Option Nat} (h : optNatEq a b = true) : a = b := by
  unfold optNatEq at h
  split at h
  · rfl
  · rw [Nat.eq_of_beq_eq_true h]
  · cases h
theorem blkEq_eq (a b : Option ABlk) (h : blkEq a b = true) : a = b := by
  unfold blkEq at h
  split at h
  · rfl
  · simp only [Bool.and_eq_true] at h
    have h1 := h.1.1
    rw [optNatEq_eq h.1.2, valsEq_eq h.2]
    simp at h1
    rw [h1]
  · rfl
  · rfl
  · cases h

instance : HeapC Tri where
  get h i := h.get i
  set h i b := Tri.upd i h i (some b)
  del h i := Tri.upd i h i none
  eqB := blkEq
  eqB_eq := blkEq_eq
  get_set h i b j := Tri.get_upd i h i (some b) j (Nat.le_refl _)
  get_del h i j := Tri.get_upd i h i none j (Nat.le_refl _)

end Go.Ab

/-! A heap for evaluation in the kernel: the blocks touched last in a short list, the others in a tree. -/
namespace Go.Ab
open Go
set_option linter.unusedVariables false

noncomputable def tget (t : Tri) : Nat → Option ABlk :=
  Tri.rec (motive := fun _ => Nat → Option ABlk) (fun _ => none)
    (fun b _ _ l r i => cond (Nat.beq i 0) b (cond (Nat.beq (Nat.mod i 2) 1) (l (Nat.div i 2)) (r (Nat.sub (Nat.div i 2) 1)))) t

theorem tget_eq : ∀ (t : Tri) (i : Nat), tget t i = t.get i
  | .leaf, i => rfl
  | .node b l r, i => by
    show cond (Nat.beq i 0) b (cond (Nat.beq (Nat.mod i 2) 1) (tget l (Nat.div i 2)) (tget r (Nat.sub (Nat.div i 2) 1))) = _
    rw [tget_eq l, tget_eq r]
    rfl

noncomputable def tupd (o : Option ABlk) (n : Nat) : Tri → Nat → Tri :=
  Nat.rec (motive := fun _ => Tri → Nat → Tri)
    (fun t _ => Tri.rec (motive := fun _ => Tri) (.node o .leaf .leaf) (fun _ l r _ _ => .node o l r) t)
    (fun _ ih t i => Tri.rec (motive := fun _ => Tri)
      (cond (Nat.beq i 0) (.node o .leaf .leaf) (cond (Nat.beq (Nat.mod i 2) 1) (.node none (ih .leaf (Nat.div i 2)) .leaf) (.node none .leaf (ih .leaf (Nat.sub (Nat.div i 2) 1)))))
      (fun b l r _ _ => cond (Nat.beq i 0) (.node o l r) (cond (Nat.beq (Nat.mod i 2) 1) (.node b (ih l (Nat.div i 2)) r) (.node b l (ih r (Nat.sub (Nat.div i 2) 1))))) t) n

theorem tupd_eq (o : Option ABlk) : ∀ (n : Nat) (t : Tri) (i : Nat), tupd o n t i = Tri.upd n t i o
  | 0, .leaf, i => rfl
  | 0, .node b l r, i => rfl
  | n + 1, .leaf, i => by
    show (cond (Nat.beq i 0) (Tri.node o .leaf .leaf) (cond (Nat.beq (Nat.mod i 2) 1) (Tri.node none (tupd o n .leaf (Nat.div i 2)) .leaf) (Tri.node none .leaf (tupd o n .leaf (Nat.sub (Nat.div i 2) 1))))) = _
    rw [tupd_eq o n, tupd_eq o n]; rfl
  | n + 1, .node b l r, i => by
    show (cond (Nat.beq i 0) (Tri.node o l r) (cond (Nat.beq (Nat.mod i 2) 1) (Tri.node b (tupd o n l (Nat.div i 2)) r) (Tri.node b l (tupd o n r (Nat.sub (Nat.div i 2) 1))))) = _
    rw [tupd_eq o n, tupd_eq o n]; rfl

theorem tget_tupd (t : Tri) (i : Nat) (o : Option ABlk) (j : Nat) : tget (tupd o i t i) j = if j = i then o else tget t j := by
  rw [tget_eq, tget_eq, tupd_eq]
  exact Tri.get_upd i t i o j (Nat.le_refl _)

abbrev RC := List (Nat × Option ABlk)

noncomputable def findA (i : Nat) (rc : RC) : Option (Option ABlk) :=
  List.rec (motive := fun _ => Option (Option ABlk)) none (fun x _ ih => cond (Nat.beq i x.1) (some x.2) ih) rc
noncomputable def replA (i : Nat) (o : Option ABlk) (rc : RC) : RC :=
  List.rec (motive := fun _ => RC) [] (fun x xs ih => cond (Nat.beq i x.1) ((x.1, o) :: xs) (x :: ih)) rc
noncomputable def flushA (rc : RC) (t : Tri) : Tri :=
  List.rec (motive := fun _ => Tri) t (fun x _ ih => tupd x.2 x.1 ih x.1) rc

theorem findA_cons (i : Nat) (x : Nat × Option ABlk) (xs : RC) : findA i (x :: xs) = if i = x.1 then some x.2 else findA i xs := by
  show cond (Nat.beq i x.1) (some x.2) (findA i xs) = _
  cases h : Nat.beq i x.1 with
  | true => rw [if_pos (Nat.eq_of_beq_eq_true h)]; rfl
  | false => rw [if_neg (fun e => by rw [e, Nat.beq_refl] at h; cases h)]; rfl

theorem replA_cons (i : Nat) (o : Option ABlk) (x : Nat × Option ABlk) (xs : RC) : replA i o (x :: xs) = if i = x.1 then (x.1, o) :: xs else x :: replA i o xs := by
  show cond (Nat.beq i x.1) ((x.1, o) :: xs) (x :: replA i o xs) = _
  cases h : Nat.beq i x.1 with
  | true => rw [if_pos (Nat.eq_of_beq_eq_true h)]; rfl
  | false => rw [if_neg (fun e => by rw [e, Nat.beq_refl] at h; cases h)]; rfl

theorem findA_replA (i : Nat) (o : Option ABlk) (j : Nat) : ∀ (rc : RC), findA i rc ≠ none → findA j (replA i o rc) = if j = i then some o else findA j rc
  | [], h => absurd rfl h
  | x :: xs, h => by
    rw [findA_cons] at h
    rw [replA_cons]
    by_cases e : i = x.1
    · rw [if_pos e, findA_cons, findA_cons]
      by_cases e2 : j = x.1
      · rw [if_pos e2, if_pos (e2.trans e.symm)]
      · rw [if_neg e2, if_neg (fun h => e2 (h.trans e)), if_neg e2]
    · rw [if_neg e] at h ⊢
      rw [findA_cons, findA_cons, findA_replA i o j xs h]
      by_cases e2 : j = x.1
      · rw [if_pos e2, if_pos e2, if_neg (fun h => e (h.symm.trans e2))]
      · rw [if_neg e2, if_neg e2]

theorem get_flushA (j : Nat) (t : Tri) : ∀ (rc : RC), tget (flushA rc t) j = (match findA j rc with | some o => o | none => tget t j)
  | [] => rfl
  | x :: xs => by
    show tget (tupd x.2 x.1 (flushA xs t) x.1) j = _
    rw [tget_tupd, findA_cons]
    by_cases e : j = x.1
    · rw [if_pos e, if_pos e]
    · rw [if_neg e, if_neg e, get_flushA j t xs]

structure TH where
  rc : RC
  n : Nat
  old : Tri

noncomputable def TH.put (h : TH) (i : Nat) (o : Option ABlk) : TH :=
  match findA i h.rc with
  | some _ => { rc := replA i o h.rc, n := h.n, old := h.old }
  | none => cond (Nat.blt h.n 24) { rc := (i, o) :: h.rc, n := Nat.add h.n 1, old := h.old } { rc := [(i, o)], n := 1, old := flushA h.rc h.old }

noncomputable def TH.look (h : TH) (i : Nat) : Option ABlk :=
  match findA i h.rc with
  | some o => o
  | none => tget h.old i

theorem TH.look_put (h : TH) (i : Nat) (o : Option ABlk) (j : Nat) : (h.put i o).look j = if j = i then o else h.look j := by
  unfold TH.put TH.look
  cases e : findA i h.rc with
  | some x =>
    dsimp only
    rw [findA_replA i o j h.rc (by rw [e]; simp)]
    by_cases e2 : j = i
    · rw [if_pos e2, if_pos e2]
    · rw [if_neg e2, if_neg e2]
  | none =>
    dsimp only
    cases Nat.blt h.n 24 with
    | true =>
      dsimp only [cond_true]
      rw [findA_cons]
      by_cases e2 : j = i
      · rw [if_pos e2, if_pos e2]
      · rw [if_neg e2, if_neg e2]
    | false =>
      dsimp only [cond_false]
      rw [findA_cons]
      by_cases e2 : j = i
      · rw [if_pos e2, if_pos e2]
      · rw [if_neg e2, if_neg e2]
        exact get_flushA j h.old h.rc

noncomputable instance : HeapC TH where
  get h i := h.look i
  set h i b := h.put i (some b)
  del h i := h.put i none
  eqB := blkEq
  eqB_eq := blkEq_eq
  get_set h i b j := TH.look_put h i (some b) j
  get_del h i j := TH.look_put h i none j

noncomputable def TH.empty : TH := { rc := [], n := 0, old := .leaf }
theorem TH.inv_empty (h : TH) (e : h = TH.empty) (i : Nat) : HeapC.get h i = none := by subst e; rfl

end Go.Ab
