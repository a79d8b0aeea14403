/- Parts of a proof: D2 D3 AbAuto AbPm AbRn D4 C5 D7 D5 D6. Conditions: none. -/
import Derived.Test.YtemkjcpfgmbibaaM4
set_option linter.all false
namespace Go.Proofs.Ytemkjcpfgmbibaa
open Go Go.Ab Go.Proofs
set_option maxRecDepth 100000
set_option linter.unusedVariables false
set_option linter.unusedSimpArgs false

theorem eq_perm4 (a0 a1 a2 a3 b0 b1 b2 b3 : Int) : aBinOp0 P .eql 67 (av [a0, a1, a2, a3]) (av [b0, b1, b2, b3]) =
    (cond (a0 == b0) (cond (a1 == b1) (cond (a2 == b2) (cond (a3 == b3) (some true) (some false)) (some false)) (some false)) (some false)).bind fun b => some (.bool b) := by kernel_rfl
theorem eq_perm (x y : List Int) (hx : x.length = 4) (hy : y.length = 4) : aBinOp P .eql 67 (av x) (av y) = some (.bool (decide (x = y))) := by
  match x, hx, y, hy with
  | [a0, a1, a2, a3], _, [b0, b1, b2, b3], _ =>
    rw [aBinOp_eq, eq_perm4]
    by_cases h0 : a0 = b0 <;> by_cases h1 : a1 = b1 <;> by_cases h2 : a2 = b2 <;> by_cases h3 : a3 = b3 <;> simp [h0, h1, h2, h3, Bool.cond_eq_ite]

theorem callF_inverseR (p : List Int) (hp : p.length = 4) (h : FH) (c : Nat) : callF G 47 [av p] h c = some (av (invR p), h, c) := callF_of (inverseR_sp p hp h c [])

theorem sameB_of {x : Option Nat} {h1 h2 : FH} (e : ∀ i, x = some i → h1.f i = h2.f i) : sameB x h1 h2 = true := by
  cases x with
  | none => rfl
  | some i =>
    show @decide (h1.f i = h2.f i) (Classical.propDecidable _) = true
    exact @decide_eq_true _ (Classical.propDecidable _) (e i rfl)

theorem face_split {x : List Int} (hx : x.length = 5) : x = tetL x :: permL x := by
  match x, hx with
  | [a, b, c, d, e], _ => rfl

set_option maxHeartbeats 2000000 in
theorem checkR_face (s : Value) (n : Nat) (Gl : List Int) (gb c : Nat) (h : FH) (t f : Nat) (ht : t < n) (hf : f < 4) (hgb : gb < 256 * c)
    (h1 : Holds h gb [s]) (h2 : SlI h c s 20 n Gl) (v2 : Value) (df : List Nat) :
    Ans (f23_L23001 G none (ptrTo gb) v2 (.int .i64 n) (.int .i64 t) (.int .i64 f) h c df) fun r => r.df = df ∧ Same c h r.h ∧
      r.e = (if okFace Gl n t f = true then .normal else .ret) ∧ r.vs = (if okFace Gl n t f = true then [ptrTo gb, v2, .int .i64 n, .int .i64 t, .int .i64 (f + 1 : Nat)] else [ptrTo gb, .int .i64 7, .int .i64 n, .int .i64 t, .int .i64 f]) := by
  have hx := faceL_length h2.1 ht hf
  have hp := permL_length hx
  have hsp := face_split hx
  have ht5 : (faceL Gl t f).take 5 = faceL Gl t f := List.take_of_length_le (by omega)
  have ft : (f : Int) < 4 := by omega
  obtain ⟨b, o, cs, x1, x2, x3, x4⟩ := h2.ix .i64 (t : Int) (by omega) (by omega)
  have hface : ∀ u j : Int, 0 ≤ u → u < n → 0 ≤ j → j < 4 → ∃ b o, ixS 20 s (.int .i64 u) = some (.pointer (some ⟨b, o + u.toNat * 20, none⟩)) ∧ (∀ H : FH, (∀ i, i < 256 * c → H.f i = h.f i) → ldN H 5 (.pointer (some ⟨b, o + u.toNat * 20 + j.toNat * 5, none⟩)) = some (av (faceL Gl u.toNat j.toNat))) ∧ b < 256 * c := by
    intro u j u1 u2 j1 j2
    obtain ⟨b, o, cs, x1, x2, x3, x4⟩ := h2.ix .i64 u u1 u2
    refine ⟨b, o, x1, fun H hH => ?_, x2⟩
    have := h2.1
    have x3' : Holds H b cs := by
      obtain ⟨ro, op, e⟩ := x3
      exact ⟨ro, op, (hH b x2).trans e⟩
    rw [Nat.add_assoc, ldN_win x3' x4 (j := u.toNat * 20 + j.toNat * 5) (q := 5) (by omega) (by omega)]
    unfold faceL
    rw [Nat.mul_comm 20, Nat.mul_comm 5]
  obtain ⟨fb, fo, y1, y2, y3⟩ := hface t f (by omega) (by omega) (by omega) (by omega)
  have y2h := y2 h (fun i hi => rfl)
  simp only [Int.toNat_natCast] at y1 y2h
  have e2 : ld1 h (.pointer (some ⟨gb, 0, none⟩)) = some s := by rw [ld1_holds' h1]; rfl
  obtain ⟨H, hH⟩ : ∃ H, H = newB h (256 * (c + 1) + 7) (ints (faceL Gl t f)) := ⟨_, rfl⟩
  have hst : stN (newB h (256 * (c + 1) + 7) [.int .i64 0, .int .i64 0, .int .i64 0, .int .i64 0, .int .i64 0]) 5 (.pointer (some ⟨256 * (c + 1) + 7, 0, none⟩)) (av (faceL Gl t f)) = some H := by
    rw [stN_all _ _ 5 _ _ hx rfl, hH]
  have hS : Same c h H := by rw [hH]; exact (Same_newB (by omega)).2 (Same.refl _ _)
  have hB : Holds H (256 * (c + 1) + 7) (ints (faceL Gl t f)) := by rw [hH]; exact Holds.newB_same _ _ _
  have b1 : ld1 H (.pointer (some ⟨256 * (c + 1) + 7, 0, none⟩)) = some (.int .i64 (tetL (faceL Gl t f))) := by
    rw [ld1_holds' hB, ints_get, List.getElem?_eq_getElem (by omega)]
    simp [tetL, List.getD, List.getElem?_eq_getElem (by omega : 0 < (faceL Gl t f).length)]
  have b2 : ldN H 4 (.pointer (some ⟨256 * (c + 1) + 7, 1, none⟩)) = some (av (permL (faceL Gl t f))) := by
    rw [ldN_holds hB (by simp [hx])]; rw [ints_drop, ints_take]; rfl
  have b3 : ld1 H (.pointer (some ⟨256 * (c + 1) + 7, 1 + f, none⟩)) = some (.int .i64 ((permL (faceL Gl t f)).getD f 0)) := by
    have hlt : 1 + f < (faceL Gl t f).length := by omega
    rw [ld1_holds' hB, ints_get, List.getElem?_eq_getElem hlt]
    unfold permL
    rw [getD_take _ _ _ hf, getD_drop]
    simp [List.getD, List.getElem?_eq_getElem hlt]
  have e2' : ld1 H (.pointer (some ⟨gb, 0, none⟩)) = some s := by
    rw [ld1_holds' (cs := [s]) (by obtain ⟨ro, op, e⟩ := h1; exact ⟨ro, op, (hS gb hgb).trans e⟩)]; rfl
  have hzz : bldV [.int .i64 0, .int .i64 0, .int .i64 0, .int .i64 0] [] = some (av [0, 0, 0, 0]) := rfl
  have hz4 : ([0, 0, 0, 0] : List Int).length = 4 := rfl
  have hq : ∀ (x : Option Nat), sameB x H H = true := fun x => sameB_of fun i _ => rfl
  clear hH
  obtain ⟨F, hF⟩ : ∃ F, faceL Gl t f = F := ⟨_, rfl⟩
  rw [hF] at hx hp hsp ht5 y2h hst b1 b2 b3
  obtain ⟨X, hX⟩ : ∃ X, tetL F = X := ⟨_, rfl⟩
  obtain ⟨Y, hY⟩ : ∃ Y, permL F = Y := ⟨_, rfl⟩
  rw [hX] at b1 hsp
  rw [hY] at b2 b3 hsp hp
  have okE : okFace Gl n t f = (decide (X = -1 ∧ Y = [0, 0, 0, 0]) || (decide (0 ≤ X) && decide (X < n) && validB Y && !(decide (X = t) && decide (Y.getD f 0 = f)) && decide (faceL Gl X.toNat (Y.getD f 0).toNat = (t : Int) :: inv Y))) := by
    unfold okFace
    rw [hF, hX, hY]
    congr 1
    rw [hsp]
    simp [noneL]
  have hnl : (t : Int) :: inv Y = (t : Int) :: inv Y := rfl
  unfold f23_L23001
  repeat (first
    | (with_reducible refine Ans.bt ?_ ?_; exact rfl)
    | (with_reducible refine Ans.bf ?_ ?_; exact rfl)
    | (with_reducible refine Ans.ct ?_ ?_; focus (simp; done))
    | (with_reducible refine Ans.cf ?_ ?_; focus (simp; done))
    | refine Ans.step (by (simp (disch := (first | omega | (simp <;> omega) | fail)) [ft, -List.getD_eq_getElem?_getD]) <;> rfl) ?_)
  refine Ans.bind ?_
  by_cases q1 : X = -1
  · have q1' := eq_true q1
    have q0 := eq_true (show X < 0 by omega)
    by_cases q2 : Y = [0, 0, 0, 0]
    · have ok : okFace Gl n t f = true := by rw [okE]; simp [q1, q2]
      rw [ok]
      have q2' := eq_true q2
      repeat (first
        | (with_reducible refine Ans.bt ?_ ?_; exact rfl)
        | (with_reducible refine Ans.bf ?_ ?_; exact rfl)
        | (with_reducible refine Ans.ct ?_ ?_; focus (simp; done))
        | (with_reducible refine Ans.cf ?_ ?_; focus (simp; done))
        | refine Ans.step (by (simp (disch := (first | omega | (simp <;> omega) | fail)) [ft, e2, y1, y2h, hst, b1, b2, hzz, hz4, eq_perm, hp, q1', q2', -List.getD_eq_getElem?_getD]) <;> rfl) ?_)
      refine .done ?_
      repeat (first
        | (with_reducible refine Ans.bt ?_ ?_; exact rfl)
        | (with_reducible refine Ans.bf ?_ ?_; exact rfl)
        | (with_reducible refine Ans.ct ?_ ?_; focus (simp; done))
        | (with_reducible refine Ans.cf ?_ ?_; focus (simp; done))
        | refine Ans.step (by (simp (disch := (first | omega | (simp <;> omega) | fail)) [ft, -List.getD_eq_getElem?_getD]) <;> rfl) ?_)
      exact .done ⟨rfl, hS, by simp, by simp⟩
    · have ok : okFace Gl n t f = false := by rw [okE]; simp [q1, q2]
      rw [ok]
      repeat (first
        | (with_reducible refine Ans.bt ?_ ?_; exact rfl)
        | (with_reducible refine Ans.bf ?_ ?_; exact rfl)
        | (with_reducible refine Ans.ct ?_ ?_; focus (simp; done))
        | (with_reducible refine Ans.cf ?_ ?_; focus (simp; done))
        | refine Ans.step (by (simp (disch := (first | omega | (simp <;> omega) | fail)) [ft, e2, y1, y2h, hst, b1, b2, hzz, hz4, eq_perm, hp, q1', q2, q0, -List.getD_eq_getElem?_getD]) <;> rfl) ?_)
      refine .done ?_
      repeat (first
        | (with_reducible refine Ans.bt ?_ ?_; exact rfl)
        | (with_reducible refine Ans.bf ?_ ?_; exact rfl)
        | (with_reducible refine Ans.ct ?_ ?_; focus (simp; done))
        | (with_reducible refine Ans.cf ?_ ?_; focus (simp; done))
        | refine Ans.step (by (simp (disch := (first | omega | (simp <;> omega) | fail)) [ft, -List.getD_eq_getElem?_getD]) <;> rfl) ?_)
      exact .done ⟨rfl, hS, by simp, by simp⟩
  by_cases q3 : X < 0
  · have ok : okFace Gl n t f = false := by
      have : ¬ 0 ≤ X := by omega
      rw [okE]; simp [q1, this]
    rw [ok]
    repeat (first
      | (with_reducible refine Ans.bt ?_ ?_; exact rfl)
      | (with_reducible refine Ans.bf ?_ ?_; exact rfl)
      | (with_reducible refine Ans.ct ?_ ?_; focus (simp; done))
      | (with_reducible refine Ans.cf ?_ ?_; focus (simp; done))
      | refine Ans.step (by (simp (disch := (first | omega | (simp <;> omega) | fail)) [ft, e2, y1, y2h, hst, b1, b2, hzz, hz4, eq_perm, hp, q1, q3, -List.getD_eq_getElem?_getD]) <;> rfl) ?_)
    refine .done ?_
    repeat (first
      | (with_reducible refine Ans.bt ?_ ?_; exact rfl)
      | (with_reducible refine Ans.bf ?_ ?_; exact rfl)
      | (with_reducible refine Ans.ct ?_ ?_; focus (simp; done))
      | (with_reducible refine Ans.cf ?_ ?_; focus (simp; done))
      | refine Ans.step (by (simp (disch := (first | omega | (simp <;> omega) | fail)) [ft, -List.getD_eq_getElem?_getD]) <;> rfl) ?_)
    exact .done ⟨rfl, hS, by simp, by simp⟩
  by_cases q4 : (n : Int) ≤ X
  · have ok : okFace Gl n t f = false := by
      have : ¬ X < n := by omega
      rw [okE]; simp [q1, this]
    rw [ok]
    repeat (first
      | (with_reducible refine Ans.bt ?_ ?_; exact rfl)
      | (with_reducible refine Ans.bf ?_ ?_; exact rfl)
      | (with_reducible refine Ans.ct ?_ ?_; focus (simp; done))
      | (with_reducible refine Ans.cf ?_ ?_; focus (simp; done))
      | refine Ans.step (by (simp (disch := (first | omega | (simp <;> omega) | fail)) [ft, e2, y1, y2h, hst, b1, b2, hzz, hz4, eq_perm, hp, q1, q3, q4, -List.getD_eq_getElem?_getD]) <;> rfl) ?_)
    refine .done ?_
    repeat (first
      | (with_reducible refine Ans.bt ?_ ?_; exact rfl)
      | (with_reducible refine Ans.bf ?_ ?_; exact rfl)
      | (with_reducible refine Ans.ct ?_ ?_; focus (simp; done))
      | (with_reducible refine Ans.cf ?_ ?_; focus (simp; done))
      | refine Ans.step (by (simp (disch := (first | omega | (simp <;> omega) | fail)) [ft, -List.getD_eq_getElem?_getD]) <;> rfl) ?_)
    exact .done ⟨rfl, hS, by simp, by simp⟩
  cases q5 : validB Y with
  | false =>
    have ok : okFace Gl n t f = false := by rw [okE]; simp [q1, q5]
    rw [ok]
    repeat (first
      | (with_reducible refine Ans.bt ?_ ?_; exact rfl)
      | (with_reducible refine Ans.bf ?_ ?_; exact rfl)
      | (with_reducible refine Ans.ct ?_ ?_; focus (simp; done))
      | (with_reducible refine Ans.cf ?_ ?_; focus (simp; done))
      | refine Ans.step (by (simp (disch := (first | omega | (simp <;> omega) | fail)) [ft, e2, y1, y2h, hst, b1, b2, hzz, hz4, eq_perm, hp, q1, q3, q4, q5, callF_validR, -List.getD_eq_getElem?_getD]) <;> rfl) ?_)
    refine .done ?_
    repeat (first
      | (with_reducible refine Ans.bt ?_ ?_; exact rfl)
      | (with_reducible refine Ans.bf ?_ ?_; exact rfl)
      | (with_reducible refine Ans.ct ?_ ?_; focus (simp; done))
      | (with_reducible refine Ans.cf ?_ ?_; focus (simp; done))
      | refine Ans.step (by (simp (disch := (first | omega | (simp <;> omega) | fail)) [ft, -List.getD_eq_getElem?_getD]) <;> rfl) ?_)
    exact .done ⟨rfl, hS, by simp, by simp⟩
  | true =>
    have hr := validB_range q5
    have hpr : 0 ≤ Y.getD f 0 ∧ Y.getD f 0 < 4 := by
      have hlt : f < Y.length := by omega
      have := hr _ (List.getElem_mem hlt)
      simpa [List.getD, List.getElem?_eq_getElem hlt] using this
    have c1 : ∀ H c, callF G 47 [av Y] H c = some (av (inv Y), H, c) := fun H c => by
      rw [callF_inverseR Y hp, invR, if_pos q5]
    have hil : (inv Y).length = 4 := invL_length Y 0 [0, 0, 0, 0]
    by_cases q6 : X = t
    · by_cases q7 : Y.getD f 0 = f
      · have ok : okFace Gl n t f = false := by rw [okE]; simp [q1, q6, q7, -List.getD_eq_getElem?_getD]
        rw [ok]
        have q6' := eq_true q6
        have q7' := eq_true q7
        repeat (first
          | (with_reducible refine Ans.bt ?_ ?_; exact rfl)
          | (with_reducible refine Ans.bf ?_ ?_; exact rfl)
          | (with_reducible refine Ans.ct ?_ ?_; focus (simp; done))
          | (with_reducible refine Ans.cf ?_ ?_; focus (simp; done))
          | refine Ans.step (by (simp (disch := (first | omega | (simp <;> omega) | fail)) [ft, e2, y1, y2h, hst, b1, b2, b3, hzz, hz4, eq_perm, hp, q1, q3, q4, q5, callF_validR, q6', q7', -List.getD_eq_getElem?_getD]) <;> rfl) ?_)
        refine .done ?_
        repeat (first
          | (with_reducible refine Ans.bt ?_ ?_; exact rfl)
          | (with_reducible refine Ans.bf ?_ ?_; exact rfl)
          | (with_reducible refine Ans.ct ?_ ?_; focus (simp; done))
          | (with_reducible refine Ans.cf ?_ ?_; focus (simp; done))
          | refine Ans.step (by (simp (disch := (first | omega | (simp <;> omega) | fail)) [ft, -List.getD_eq_getElem?_getD]) <;> rfl) ?_)
        exact .done ⟨rfl, hS, by simp, by simp⟩
      · have q6' := eq_true q6
        obtain ⟨gb2, go, z1, z2, z3⟩ := hface X (Y.getD f 0) (by omega) (by omega) hpr.1 hpr.2
        have z2h := z2 H (fun i hi => hS i hi)
        have hfl := faceL_length (t := X.toNat) (f := (Y.getD f 0).toNat) h2.1 (by omega) (by omega)
        have hbl := bld5 (t : Int) (inv Y) hil
        have hneq := neq_face (faceL Gl X.toNat (Y.getD f 0).toNat) ((t : Int) :: inv Y) hfl (by simp [hil])
        by_cases q8 : faceL Gl X.toNat (Y.getD f 0).toNat = (t : Int) :: inv Y
        · have ok : okFace Gl n t f = true := by
            have a1 : 0 ≤ X := by omega
            have a2 : X < n := by omega
            rw [okE, decide_eq_true q8]; simp [a1, a2, q5, q7, -List.getD_eq_getElem?_getD]
          rw [ok]
          rw [decide_eq_true q8] at hneq
          repeat (first
            | (with_reducible refine Ans.bt ?_ ?_; exact rfl)
            | (with_reducible refine Ans.bf ?_ ?_; exact rfl)
            | (with_reducible refine Ans.ct ?_ ?_; focus (simp; done))
            | (with_reducible refine Ans.cf ?_ ?_; focus (simp; done))
            | refine Ans.step (by (simp (disch := (first | omega | (simp <;> omega) | fail)) [ft, e2, e2', y1, y2h, hst, b1, b2, b3, hzz, hz4, eq_perm, hp, q1, q3, q4, q5, callF_validR, q6', q7, c1, z1, z2h, hbl, hneq, hq, hpr, -List.getD_eq_getElem?_getD]) <;> rfl) ?_)
          refine .done ?_
          repeat (first
            | (with_reducible refine Ans.bt ?_ ?_; exact rfl)
            | (with_reducible refine Ans.bf ?_ ?_; exact rfl)
            | (with_reducible refine Ans.ct ?_ ?_; focus (simp; done))
            | (with_reducible refine Ans.cf ?_ ?_; focus (simp; done))
            | refine Ans.step (by (simp (disch := (first | omega | (simp <;> omega) | fail)) [ft, -List.getD_eq_getElem?_getD]) <;> rfl) ?_)
          exact .done ⟨rfl, hS, by simp, by simp⟩
        · have ok : okFace Gl n t f = false := by rw [okE, decide_eq_false q8]; simp [q1]
          rw [ok]
          rw [decide_eq_false q8] at hneq
          repeat (first
            | (with_reducible refine Ans.bt ?_ ?_; exact rfl)
            | (with_reducible refine Ans.bf ?_ ?_; exact rfl)
            | (with_reducible refine Ans.ct ?_ ?_; focus (simp; done))
            | (with_reducible refine Ans.cf ?_ ?_; focus (simp; done))
            | refine Ans.step (by (simp (disch := (first | omega | (simp <;> omega) | fail)) [ft, e2, e2', y1, y2h, hst, b1, b2, b3, hzz, hz4, eq_perm, hp, q1, q3, q4, q5, callF_validR, q6', q7, c1, z1, z2h, hbl, hneq, hq, hpr, -List.getD_eq_getElem?_getD]) <;> rfl) ?_)
          refine .done ?_
          repeat (first
            | (with_reducible refine Ans.bt ?_ ?_; exact rfl)
            | (with_reducible refine Ans.bf ?_ ?_; exact rfl)
            | (with_reducible refine Ans.ct ?_ ?_; focus (simp; done))
            | (with_reducible refine Ans.cf ?_ ?_; focus (simp; done))
            | refine Ans.step (by (simp (disch := (first | omega | (simp <;> omega) | fail)) [ft, -List.getD_eq_getElem?_getD]) <;> rfl) ?_)
          exact .done ⟨rfl, hS, by simp, by simp⟩
    · obtain ⟨gb2, go, z1, z2, z3⟩ := hface X (Y.getD f 0) (by omega) (by omega) hpr.1 hpr.2
      have z2h := z2 H (fun i hi => hS i hi)
      have hfl := faceL_length (t := X.toNat) (f := (Y.getD f 0).toNat) h2.1 (by omega) (by omega)
      have hbl := bld5 (t : Int) (inv Y) hil
      have hneq := neq_face (faceL Gl X.toNat (Y.getD f 0).toNat) ((t : Int) :: inv Y) hfl (by simp [hil])
      by_cases q8 : faceL Gl X.toNat (Y.getD f 0).toNat = (t : Int) :: inv Y
      · have ok : okFace Gl n t f = true := by
          have a1 : 0 ≤ X := by omega
          have a2 : X < n := by omega
          rw [okE, decide_eq_true q8]; simp [a1, a2, q5, q6]
        rw [ok]
        rw [decide_eq_true q8] at hneq
        repeat (first
          | (with_reducible refine Ans.bt ?_ ?_; exact rfl)
          | (with_reducible refine Ans.bf ?_ ?_; exact rfl)
          | (with_reducible refine Ans.ct ?_ ?_; focus (simp; done))
          | (with_reducible refine Ans.cf ?_ ?_; focus (simp; done))
          | refine Ans.step (by (simp (disch := (first | omega | (simp <;> omega) | fail)) [ft, e2, e2', y1, y2h, hst, b1, b2, b3, hzz, hz4, eq_perm, hp, q1, q3, q4, q5, callF_validR, q6, c1, z1, z2h, hbl, hneq, hq, hpr, -List.getD_eq_getElem?_getD]) <;> rfl) ?_)
        refine .done ?_
        repeat (first
          | (with_reducible refine Ans.bt ?_ ?_; exact rfl)
          | (with_reducible refine Ans.bf ?_ ?_; exact rfl)
          | (with_reducible refine Ans.ct ?_ ?_; focus (simp; done))
          | (with_reducible refine Ans.cf ?_ ?_; focus (simp; done))
          | refine Ans.step (by (simp (disch := (first | omega | (simp <;> omega) | fail)) [ft, -List.getD_eq_getElem?_getD]) <;> rfl) ?_)
        exact .done ⟨rfl, hS, by simp, by simp⟩
      · have ok : okFace Gl n t f = false := by rw [okE, decide_eq_false q8]; simp [q1]
        rw [ok]
        rw [decide_eq_false q8] at hneq
        repeat (first
          | (with_reducible refine Ans.bt ?_ ?_; exact rfl)
          | (with_reducible refine Ans.bf ?_ ?_; exact rfl)
          | (with_reducible refine Ans.ct ?_ ?_; focus (simp; done))
          | (with_reducible refine Ans.cf ?_ ?_; focus (simp; done))
          | refine Ans.step (by (simp (disch := (first | omega | (simp <;> omega) | fail)) [ft, e2, e2', y1, y2h, hst, b1, b2, b3, hzz, hz4, eq_perm, hp, q1, q3, q4, q5, callF_validR, q6, c1, z1, z2h, hbl, hneq, hq, hpr, -List.getD_eq_getElem?_getD]) <;> rfl) ?_)
        refine .done ?_
        repeat (first
          | (with_reducible refine Ans.bt ?_ ?_; exact rfl)
          | (with_reducible refine Ans.bf ?_ ?_; exact rfl)
          | (with_reducible refine Ans.ct ?_ ?_; focus (simp; done))
          | (with_reducible refine Ans.cf ?_ ?_; focus (simp; done))
          | refine Ans.step (by (simp (disch := (first | omega | (simp <;> omega) | fail)) [ft, -List.getD_eq_getElem?_getD]) <;> rfl) ?_)
        exact .done ⟨rfl, hS, by simp, by simp⟩
end Go.Proofs.Ytemkjcpfgmbibaa

namespace Go.Proofs.Ytemkjcpfgmbibaa
open Go Go.Ab Go.Proofs
set_option maxRecDepth 100000
set_option linter.unusedVariables false
set_option linter.unusedSimpArgs false

theorem checkR_in (s : Value) (n : Nat) (Gl : List Int) (gb c : Nat) (h : FH) (t : Nat) (ht : t < n) (hgb : gb < 256 * c)
    (h1 : Holds h gb [s]) (h2 : SlI h c s 20 n Gl) (df : List Nat) : ∀ (k f : Nat), f + k = 4 →
    ((∀ j, f ≤ j → j < 4 → okFace Gl n t j = true) ∧ G (f23_k23001 none) [ptrTo gb, .int .i64 0, .int .i64 n, .int .i64 t, .int .i64 f] h c df = some { e := .exit 2, vs := [ptrTo gb, .int .i64 0, .int .i64 n, .int .i64 t, .int .i64 4], h := h, c := c, df := df }) ∨
    ((∃ j, f ≤ j ∧ j < 4 ∧ okFace Gl n t j = false) ∧ ∃ f' : Nat, G (f23_k23001 none) [ptrTo gb, .int .i64 0, .int .i64 n, .int .i64 t, .int .i64 f] h c df = some { e := .ret, vs := [ptrTo gb, .int .i64 7, .int .i64 n, .int .i64 t, .int .i64 f'], h := h, c := c, df := df }) := by
  intro k
  induction k with
  | zero =>
    intro f hf
    obtain rfl : f = 4 := by omega
    refine .inl ⟨fun j h1 h2 => by omega, ?_⟩
    refine (f23_Z23001 (q := ⟨.exit 2, [ptrTo gb, .int .i64 0, .int .i64 n, .int .i64 t, .int .i64 4], h, c + 1, df⟩) (by unfold f23_L23001; simp) (by simp)).trans ?_
    rw [gcR_same (by simp [hgb])]
  | succ k ih =>
    intro f hf
    obtain ⟨⟨re, rv, rh, rc, rd⟩, hr, r1, r2, r3, r4⟩ := checkR_face s n Gl gb c h t f ht (by omega) hgb h1 h2 (.int .i64 0) df
    simp only at r1 r2 r3 r4
    subst r1
    cases ok : okFace Gl n t f with
    | true =>
      rw [ok] at r3 r4
      simp only [if_true] at r3 r4
      subst r3 r4
      have hg : gcR h c rd { e := .normal, vs := [ptrTo gb, .int .i64 0, .int .i64 n, .int .i64 t, .int .i64 (f + 1 : Nat)], h := rh, c := rc, df := rd } = _ := gcR_pure (by simp [hgb]) r2
      rcases ih (f + 1) (by omega) with ⟨a, b⟩ | ⟨⟨j, j1, j2, j3⟩, f', b⟩
      · refine .inl ⟨fun j h1 h2 => ?_, f23_N23001 hr rfl (by rw [hg]; exact b)⟩
        by_cases hj : j = f
        · rw [hj]; exact ok
        · exact a j (by omega) h2
      · exact .inr ⟨⟨j, by omega, j2, j3⟩, f', f23_N23001 hr rfl (by rw [hg]; exact b)⟩
    | false =>
      rw [ok] at r3 r4
      simp only [Bool.false_eq_true, if_false] at r3 r4
      subst r3 r4
      refine .inr ⟨⟨f, Nat.le_refl _, by omega, ok⟩, f, (f23_Z23001 hr (by simp)).trans ?_⟩
      rw [gcR_pure (by simp [hgb]) r2]

theorem SlI.up {h : FH} {c c' : Nat} {s : Value} {sz n : Nat} {Gl : List Int} (hs : SlI h c s sz n Gl) (hc : c ≤ c') : SlI h c' s sz n Gl := hs.mono hc

theorem checkR_out (s : Value) (n : Nat) (Gl : List Int) (gb c : Nat) (h : FH) (hgb : gb < 256 * c)
    (h1 : Holds h gb [s]) (h2 : SlI h c s 20 n Gl) (hn : n ≤ 1000) (df : List Nat) : ∀ (k t : Nat), t + k = n →
    ((∀ u j, t ≤ u → u < n → j < 4 → okFace Gl n u j = true) ∧ G (f23_k23000 none) [ptrTo gb, .int .i64 0, .int .i64 n, .int .i64 t] h c df = some { e := .exit 0, vs := [ptrTo gb, .int .i64 0, .int .i64 n, .int .i64 n], h := h, c := c, df := df }) ∨
    ((∃ u j, t ≤ u ∧ u < n ∧ j < 4 ∧ okFace Gl n u j = false) ∧ ∃ t' : Nat, G (f23_k23000 none) [ptrTo gb, .int .i64 0, .int .i64 n, .int .i64 t] h c df = some { e := .ret, vs := [ptrTo gb, .int .i64 7, .int .i64 n, .int .i64 t'], h := h, c := c, df := df }) := by
  intro k
  induction k with
  | zero =>
    intro t ht
    obtain rfl : t = n := by omega
    refine .inl ⟨fun u j h1 h2 => by omega, ?_⟩
    refine (f23_Z23000 (q := ⟨.exit 0, [ptrTo gb, .int .i64 0, .int .i64 t, .int .i64 t], h, c + 1, df⟩) (by unfold f23_L23000; simp) (by simp)).trans ?_
    rw [gcR_same (by simp [hgb])]
  | succ k ih =>
    intro t ht
    have e0 : (t : Int) < n := by omega
    have hin := checkR_in s n Gl gb (c + 1 + 1) h t (by omega) (by omega) h1 (h2.mono (by omega)) df 4 0 rfl
    simp only [Int.ofNat_eq_natCast, Int.cast_ofNat_Int] at hin
    rcases hin with ⟨a, b⟩ | ⟨⟨j, j1, j2, j3⟩, f', b⟩
    · have step : f23_L23000 G none (ptrTo gb) (.int .i64 0) (.int .i64 n) (.int .i64 t) h c df = some { e := .normal, vs := [ptrTo gb, .int .i64 0, .int .i64 n, .int .i64 (t + 1 : Nat)], h := h, c := c + 1 + 1 + 1, df := df } := by
        apply Ans.eq
        unfold f23_L23000
        repeat (first
          | (with_reducible refine Ans.bt ?_ ?_; exact rfl)
          | (with_reducible refine Ans.bf ?_ ?_; exact rfl)
          | (with_reducible refine Ans.ct ?_ ?_; focus (simp; done))
          | (with_reducible refine Ans.cf ?_ ?_; focus (simp; done))
          | refine Ans.step (by simp (disch := (first | omega | (simp <;> omega) | fail)) [e0, b, -List.getD_eq_getElem?_getD] <;> rfl) ?_)
        exact .done rfl
      have hg : gcR h c df { e := .normal, vs := [ptrTo gb, .int .i64 0, .int .i64 n, .int .i64 (t + 1 : Nat)], h := h, c := c + 1 + 1 + 1, df := df } = _ := gcR_same (by simp [hgb])
      rcases ih (t + 1) (by omega) with ⟨a2, b2⟩ | ⟨⟨u, j, u1, u2, u3, u4⟩, t', b2⟩
      · refine .inl ⟨fun u j h1 h2 h3 => ?_, f23_N23000 step rfl (by rw [hg]; exact b2)⟩
        by_cases hu : u = t
        · rw [hu]; exact a j (Nat.zero_le _) h3
        · exact a2 u j (by omega) h2 h3
      · exact .inr ⟨⟨u, j, by omega, u2, u3, u4⟩, t', f23_N23000 step rfl (by rw [hg]; exact b2)⟩
    · refine .inr ⟨⟨t, j, Nat.le_refl _, by omega, j2, j3⟩, t, ?_⟩
      have step : f23_L23000 G none (ptrTo gb) (.int .i64 0) (.int .i64 n) (.int .i64 t) h c df = some { e := .ret, vs := [ptrTo gb, .int .i64 7, .int .i64 n, .int .i64 t], h := h, c := c + 1 + 1, df := df } := by
        apply Ans.eq
        unfold f23_L23000
        repeat (first
          | (with_reducible refine Ans.bt ?_ ?_; exact rfl)
          | (with_reducible refine Ans.bf ?_ ?_; exact rfl)
          | (with_reducible refine Ans.ct ?_ ?_; focus (simp; done))
          | (with_reducible refine Ans.cf ?_ ?_; focus (simp; done))
          | refine Ans.step (by simp (disch := (first | omega | (simp <;> omega) | fail)) [e0, b, -List.getD_eq_getElem?_getD] <;> rfl) ?_)
        exact .done rfl
      refine (f23_Z23000 step (by simp)).trans ?_
      rw [gcR_same (by simp [hgb])]

theorem checkR_sp (s : Value) (n : Nat) (Gl : List Int) (h : FH) (c : Nat) (df : List Nat) (hs : SlI h c s 20 n Gl) :
    G (.fn 23) [.agg #[s]] h c df = some { e := .ret, vs := [.int .i64 (if n ≤ 1000 ∧ okAll Gl n = true then 0 else 7)], h := h, c := c, df := [] } := by
  refine pure_of (fun r e => f23_go e) (by simp) ?_
  have hflat : ((Value.agg #[s]).cells.toList.all isFlat) = true := by
    obtain ⟨_, _, a, cap, rfl, _⟩ := hs
    rfl
  have hcell : (Value.agg #[s]).cells.toList = [s] := rfl
  have hlen := hs.len
  unfold f23_S
  rw [hflat, hcell]
  simp only [cond_true]
  by_cases hn : n ≤ 1000
  · have hn' : ¬ (1000 : Int) < n := by omega
    have hsl : SlI (newB h (256 * c) [s]) (c + 1 + 1 + 1 + 1) s 20 n Gl := (hs.same ((Same_newB (by omega)).2 (Same.refl _ _))).mono (by omega)
    have ho := checkR_out s n Gl (256 * c) (c + 1 + 1 + 1 + 1) (newB h (256 * c) [s]) (by omega) (Holds.newB_same _ _ _) hsl hn [] n 0 (by omega)
    simp only [Int.ofNat_eq_natCast, Int.cast_ofNat_Int] at ho
    rcases ho with ⟨a, b⟩ | ⟨⟨u, j, u1, u2, u3, u4⟩, t', b⟩
    · have ok : okAll Gl n = true := by
        rw [okAll_iff]
        intro j hj
        exact a (j / 4) (j % 4) (Nat.zero_le _) (by omega) (by omega)
      rw [if_pos ⟨hn, ok⟩]
      repeat (first
        | (with_reducible refine Ans.bt ?_ ?_; exact rfl)
        | (with_reducible refine Ans.bf ?_ ?_; exact rfl)
        | (with_reducible refine Ans.ct ?_ ?_; focus (simp; done))
        | (with_reducible refine Ans.cf ?_ ?_; focus (simp; done))
        | refine Ans.step (by simp (disch := (first | omega | (simp <;> omega) | fail)) [hlen, hn', b, -List.getD_eq_getElem?_getD] <;> rfl) ?_)
      refine .done ⟨rfl, rfl, ?_, rfl⟩
      simp (disch := omega)
    · have ok : ¬ (n ≤ 1000 ∧ okAll Gl n = true) := by
        rintro ⟨_, ok⟩
        rw [okAll_iff] at ok
        have := ok (4 * u + j) (by omega)
        have e1 : (4 * u + j) / 4 = u := by omega
        have e2 : (4 * u + j) % 4 = j := by omega
        rw [e1, e2, u4] at this
        cases this
      rw [if_neg ok]
      repeat (first
        | (with_reducible refine Ans.bt ?_ ?_; exact rfl)
        | (with_reducible refine Ans.bf ?_ ?_; exact rfl)
        | (with_reducible refine Ans.ct ?_ ?_; focus (simp; done))
        | (with_reducible refine Ans.cf ?_ ?_; focus (simp; done))
        | refine Ans.step (by simp (disch := (first | omega | (simp <;> omega) | fail)) [hlen, hn', b, -List.getD_eq_getElem?_getD] <;> rfl) ?_)
      refine .done ⟨rfl, rfl, ?_, rfl⟩
      simp (disch := omega)
  · have hn' : (1000 : Int) < n := by omega
    rw [if_neg (fun h => hn h.1)]
    repeat (first
      | (with_reducible refine Ans.bt ?_ ?_; exact rfl)
      | (with_reducible refine Ans.bf ?_ ?_; exact rfl)
      | (with_reducible refine Ans.ct ?_ ?_; focus (simp; done))
      | (with_reducible refine Ans.cf ?_ ?_; focus (simp; done))
      | refine Ans.step (by simp (disch := (first | omega | (simp <;> omega) | fail)) [hlen, hn', -List.getD_eq_getElem?_getD] <;> rfl) ?_)
    refine .done ⟨rfl, rfl, ?_, rfl⟩
    simp (disch := omega)
end Go.Proofs.Ytemkjcpfgmbibaa

/-! Rules for proofs that run by themselves: splits, rounds, slices. -/
namespace Go.Ab
open Go
set_option linter.unusedVariables false
set_option linter.unusedSimpArgs false

variable {P : Program}

/-! ### Splits -/
theorem Ans.dt {β : Type} {p : Prop} [Decidable p] {x y : Option β} {Q : β → Prop} (h : p) (k : Ans x Q) : Ans (boolK (.bool (decide p)) x y) Q := by rw [decide_eq_true h]; exact k
theorem Ans.df {β : Type} {p : Prop} [Decidable p] {x y : Option β} {Q : β → Prop} (h : ¬p) (k : Ans y Q) : Ans (boolK (.bool (decide p)) x y) Q := by rw [decide_eq_false h]; exact k
theorem Ans.nt {β : Type} {p : Prop} [Decidable p] {x y : Option β} {Q : β → Prop} (h : ¬p) (k : Ans x Q) : Ans (boolK (.bool (!decide p)) x y) Q := by rw [decide_eq_false h]; exact k
theorem Ans.nf {β : Type} {p : Prop} [Decidable p] {x y : Option β} {Q : β → Prop} (h : p) (k : Ans y Q) : Ans (boolK (.bool (!decide p)) x y) Q := by rw [decide_eq_true h]; exact k
theorem Ans.ds {β : Type} {p : Prop} [Decidable p] {x y : Option β} {Q : β → Prop} (h1 : p → Ans x Q) (h2 : ¬p → Ans y Q) : Ans (boolK (.bool (decide p)) x y) Q := by
  by_cases h : p
  · exact .dt h (h1 h)
  · exact .df h (h2 h)
theorem Ans.ns {β : Type} {p : Prop} [Decidable p] {x y : Option β} {Q : β → Prop} (h1 : ¬p → Ans x Q) (h2 : p → Ans y Q) : Ans (boolK (.bool (!decide p)) x y) Q := by
  by_cases h : p
  · exact .nf h (h2 h)
  · exact .nt h (h1 h)
theorem Ans.gt {β : Type} {b : Bool} {x y : Option β} {Q : β → Prop} (h : b = true) (k : Ans x Q) : Ans (boolK (.bool b) x y) Q := by rw [h]; exact k
theorem Ans.gf {β : Type} {b : Bool} {x y : Option β} {Q : β → Prop} (h : b = false) (k : Ans y Q) : Ans (boolK (.bool b) x y) Q := by rw [h]; exact k
theorem Ans.hs {β : Type} {b : Bool} {x y : Option β} {Q : β → Prop} (h1 : b = true → Ans x Q) (h2 : b = false → Ans y Q) : Ans (boolK (.bool b) x y) Q := by
  cases h : b with
  | true => exact h1 h
  | false => exact h2 h
theorem Ans.mt {β : Type} {b : Bool} {x y : Option β} {Q : β → Prop} (h : b = false) (k : Ans x Q) : Ans (boolK (.bool (!b)) x y) Q := by rw [h]; exact k
theorem Ans.mf {β : Type} {b : Bool} {x y : Option β} {Q : β → Prop} (h : b = true) (k : Ans y Q) : Ans (boolK (.bool (!b)) x y) Q := by rw [h]; exact k
theorem Ans.ms {β : Type} {b : Bool} {x y : Option β} {Q : β → Prop} (h1 : b = false → Ans x Q) (h2 : b = true → Ans y Q) : Ans (boolK (.bool (!b)) x y) Q := by
  cases h : b with
  | true => exact h2 h
  | false => exact h1 h

theorem Ans.bb {α β : Type} {v : Value} {x y : Option α} {f : α → Option β} {Q : β → Prop} (h : Ans (boolK v (x.bind f) (y.bind f)) Q) : Ans ((boolK v x y).bind f) Q := by
  cases v <;> first | exact h | skip
  rename_i b
  cases b <;> exact h
theorem Ans.bc {α β : Type} {v : Bool} {x y : Option α} {f : α → Option β} {Q : β → Prop} (h : Ans (cond v (x.bind f) (y.bind f)) Q) : Ans ((cond v x y).bind f) Q := by cases v <;> exact h
theorem Ans.ba {α β γ : Type} {x : Option α} {g : α → Option β} {f : β → Option γ} {Q : γ → Prop} (h : Ans (x.bind fun a => (g a).bind f) Q) : Ans ((x.bind g).bind f) Q := by
  cases x <;> exact h
theorem Ans.bz {α β : Type} {a : α} {f : α → Option β} {Q : β → Prop} (h : Ans (f a) Q) : Ans ((some a).bind f) Q := h

/-! ### Operations -/
theorem Ans.lsT {β : Type} {k : IntKind} {ty : TypeId} {a b : Int} {f : Value → Option β} {Q : β → Prop} (h : a < b) (x : Ans (f (.bool true)) Q) : Ans ((aBinOp P .lss ty (.int k a) (.int k b)).bind f) Q := Ans.step (by rw [aBinOp_lss, decide_eq_true h]) x
theorem Ans.lsF {β : Type} {k : IntKind} {ty : TypeId} {a b : Int} {f : Value → Option β} {Q : β → Prop} (h : ¬(a < b)) (x : Ans (f (.bool false)) Q) : Ans ((aBinOp P .lss ty (.int k a) (.int k b)).bind f) Q := Ans.step (by rw [aBinOp_lss, decide_eq_false h]) x
theorem Ans.lsS {β : Type} {k : IntKind} {ty : TypeId} {a b : Int} {f : Value → Option β} {Q : β → Prop} (h1 : a < b → Ans (f (.bool true)) Q) (h2 : ¬(a < b) → Ans (f (.bool false)) Q) : Ans ((aBinOp P .lss ty (.int k a) (.int k b)).bind f) Q := if h : a < b then Ans.lsT h (h1 h) else Ans.lsF h (h2 h)
theorem Ans.leT {β : Type} {k : IntKind} {ty : TypeId} {a b : Int} {f : Value → Option β} {Q : β → Prop} (h : a ≤ b) (x : Ans (f (.bool true)) Q) : Ans ((aBinOp P .leq ty (.int k a) (.int k b)).bind f) Q := Ans.step (by rw [aBinOp_leq, decide_eq_true h]) x
theorem Ans.leF {β : Type} {k : IntKind} {ty : TypeId} {a b : Int} {f : Value → Option β} {Q : β → Prop} (h : ¬(a ≤ b)) (x : Ans (f (.bool false)) Q) : Ans ((aBinOp P .leq ty (.int k a) (.int k b)).bind f) Q := Ans.step (by rw [aBinOp_leq, decide_eq_false h]) x
theorem Ans.leS {β : Type} {k : IntKind} {ty : TypeId} {a b : Int} {f : Value → Option β} {Q : β → Prop} (h1 : a ≤ b → Ans (f (.bool true)) Q) (h2 : ¬(a ≤ b) → Ans (f (.bool false)) Q) : Ans ((aBinOp P .leq ty (.int k a) (.int k b)).bind f) Q := if h : a ≤ b then Ans.leT h (h1 h) else Ans.leF h (h2 h)
theorem Ans.grT {β : Type} {k : IntKind} {ty : TypeId} {a b : Int} {f : Value → Option β} {Q : β → Prop} (h : b < a) (x : Ans (f (.bool true)) Q) : Ans ((aBinOp P .gtr ty (.int k a) (.int k b)).bind f) Q := Ans.step (by rw [aBinOp_gtr, decide_eq_true h]) x
theorem Ans.grF {β : Type} {k : IntKind} {ty : TypeId} {a b : Int} {f : Value → Option β} {Q : β → Prop} (h : ¬(b < a)) (x : Ans (f (.bool false)) Q) : Ans ((aBinOp P .gtr ty (.int k a) (.int k b)).bind f) Q := Ans.step (by rw [aBinOp_gtr, decide_eq_false h]) x
theorem Ans.grS {β : Type} {k : IntKind} {ty : TypeId} {a b : Int} {f : Value → Option β} {Q : β → Prop} (h1 : b < a → Ans (f (.bool true)) Q) (h2 : ¬(b < a) → Ans (f (.bool false)) Q) : Ans ((aBinOp P .gtr ty (.int k a) (.int k b)).bind f) Q := if h : b < a then Ans.grT h (h1 h) else Ans.grF h (h2 h)
theorem Ans.geT {β : Type} {k : IntKind} {ty : TypeId} {a b : Int} {f : Value → Option β} {Q : β → Prop} (h : b ≤ a) (x : Ans (f (.bool true)) Q) : Ans ((aBinOp P .geq ty (.int k a) (.int k b)).bind f) Q := Ans.step (by rw [aBinOp_geq, decide_eq_true h]) x
theorem Ans.geF {β : Type} {k : IntKind} {ty : TypeId} {a b : Int} {f : Value → Option β} {Q : β → Prop} (h : ¬(b ≤ a)) (x : Ans (f (.bool false)) Q) : Ans ((aBinOp P .geq ty (.int k a) (.int k b)).bind f) Q := Ans.step (by rw [aBinOp_geq, decide_eq_false h]) x
theorem Ans.geS {β : Type} {k : IntKind} {ty : TypeId} {a b : Int} {f : Value → Option β} {Q : β → Prop} (h1 : b ≤ a → Ans (f (.bool true)) Q) (h2 : ¬(b ≤ a) → Ans (f (.bool false)) Q) : Ans ((aBinOp P .geq ty (.int k a) (.int k b)).bind f) Q := if h : b ≤ a then Ans.geT h (h1 h) else Ans.geF h (h2 h)
theorem Ans.eqT {β : Type} {k : IntKind} {ty : TypeId} {a b : Int} {f : Value → Option β} {Q : β → Prop} (h : a = b) (x : Ans (f (.bool true)) Q) : Ans ((aBinOp P .eql ty (.int k a) (.int k b)).bind f) Q := Ans.step (by rw [aBinOp_eql, decide_eq_true h]) x
theorem Ans.eqF {β : Type} {k : IntKind} {ty : TypeId} {a b : Int} {f : Value → Option β} {Q : β → Prop} (h : ¬(a = b)) (x : Ans (f (.bool false)) Q) : Ans ((aBinOp P .eql ty (.int k a) (.int k b)).bind f) Q := Ans.step (by rw [aBinOp_eql, decide_eq_false h]) x
theorem Ans.eqS {β : Type} {k : IntKind} {ty : TypeId} {a b : Int} {f : Value → Option β} {Q : β → Prop} (h1 : a = b → Ans (f (.bool true)) Q) (h2 : ¬(a = b) → Ans (f (.bool false)) Q) : Ans ((aBinOp P .eql ty (.int k a) (.int k b)).bind f) Q := if h : a = b then Ans.eqT h (h1 h) else Ans.eqF h (h2 h)
theorem Ans.neT {β : Type} {k : IntKind} {ty : TypeId} {a b : Int} {f : Value → Option β} {Q : β → Prop} (h : ¬(a = b)) (x : Ans (f (.bool true)) Q) : Ans ((aBinOp P .neq ty (.int k a) (.int k b)).bind f) Q := Ans.step (by rw [aBinOp_neq, decide_eq_false h]; rfl) x
theorem Ans.neF {β : Type} {k : IntKind} {ty : TypeId} {a b : Int} {f : Value → Option β} {Q : β → Prop} (h : a = b) (x : Ans (f (.bool false)) Q) : Ans ((aBinOp P .neq ty (.int k a) (.int k b)).bind f) Q := Ans.step (by rw [aBinOp_neq, decide_eq_true h]; rfl) x
theorem Ans.neS {β : Type} {k : IntKind} {ty : TypeId} {a b : Int} {f : Value → Option β} {Q : β → Prop} (h1 : ¬(a = b) → Ans (f (.bool true)) Q) (h2 : a = b → Ans (f (.bool false)) Q) : Ans ((aBinOp P .neq ty (.int k a) (.int k b)).bind f) Q := if h : a = b then Ans.neF h (h2 h) else Ans.neT h (h1 h)
theorem Ans.add {β : Type} {ty : TypeId} {a b : Int} {f : Value → Option β} {Q : β → Prop} (h : -9223372036854775808 ≤ a + b ∧ a + b < 9223372036854775808) (x : Ans (f (.int .i64 (a + b))) Q) : Ans ((aBinOp P .add ty (.int .i64 a) (.int .i64 b)).bind f) Q := Ans.step (aBinOp_add ty a b h.1 h.2) x
theorem Ans.sub {β : Type} {ty : TypeId} {a b : Int} {f : Value → Option β} {Q : β → Prop} (h : -9223372036854775808 ≤ a - b ∧ a - b < 9223372036854775808) (x : Ans (f (.int .i64 (a - b))) Q) : Ans ((aBinOp P .sub ty (.int .i64 a) (.int .i64 b)).bind f) Q := Ans.step (aBinOp_sub ty a b h.1 h.2) x
theorem Ans.mul {β : Type} {ty : TypeId} {a b : Int} {f : Value → Option β} {Q : β → Prop} (h : -9223372036854775808 ≤ a * b ∧ a * b < 9223372036854775808) (x : Ans (f (.int .i64 (a * b))) Q) : Ans ((aBinOp P .mul ty (.int .i64 a) (.int .i64 b)).bind f) Q := Ans.step (aBinOp_mul ty a b h.1 h.2) x
/-- the sum of numbers that are not negative -/
theorem Ans.addN {β : Type} {ty : TypeId} {a : Nat} {f : Value → Option β} {Q : β → Prop} (h : (a : Int) < 9223372036854775807) (x : Ans (f (.int .i64 ((a + 1 : Nat) : Int))) Q) : Ans ((aBinOp P .add ty (.int .i64 (a : Int)) (.int .i64 1)).bind f) Q := Ans.step (aBinOp_add ty a 1 (by omega) (by omega)) x
/-- a comparison, from its value -/
theorem Ans.bT {β : Type} {op : BinOp} {ty : TypeId} {a b : Value} {p : Prop} [Decidable p] {f : Value → Option β} {Q : β → Prop} (e : aBinOp P op ty a b = some (.bool (decide p))) (h : p) (x : Ans (f (.bool true)) Q) : Ans ((aBinOp P op ty a b).bind f) Q := Ans.step (by rw [e, decide_eq_true h]) x
theorem Ans.bF {β : Type} {op : BinOp} {ty : TypeId} {a b : Value} {p : Prop} [Decidable p] {f : Value → Option β} {Q : β → Prop} (e : aBinOp P op ty a b = some (.bool (decide p))) (h : ¬p) (x : Ans (f (.bool false)) Q) : Ans ((aBinOp P op ty a b).bind f) Q := Ans.step (by rw [e, decide_eq_false h]) x
theorem Ans.bS {β : Type} {op : BinOp} {ty : TypeId} {a b : Value} {p : Prop} [Decidable p] {f : Value → Option β} {Q : β → Prop} (e : aBinOp P op ty a b = some (.bool (decide p))) (h1 : p → Ans (f (.bool true)) Q) (h2 : ¬p → Ans (f (.bool false)) Q) : Ans ((aBinOp P op ty a b).bind f) Q :=
  if h : p then Ans.bT e h (h1 h) else Ans.bF e h (h2 h)
theorem Ans.nS {β : Type} {op : BinOp} {ty : TypeId} {a b : Value} {p : Prop} [Decidable p] {f : Value → Option β} {Q : β → Prop} (e : aBinOp P op ty a b = some (.bool (!decide p))) (h1 : ¬p → Ans (f (.bool true)) Q) (h2 : p → Ans (f (.bool false)) Q) : Ans ((aBinOp P op ty a b).bind f) Q :=
  if h : p then Ans.step (by rw [e, decide_eq_true h]; rfl) (h2 h) else Ans.step (by rw [e, decide_eq_false h]; rfl) (h1 h)
theorem Ans.oT {β : Type} {op : BinOp} {ty : TypeId} {a b : Value} {t : Bool} {f : Value → Option β} {Q : β → Prop} (e : aBinOp P op ty a b = some (.bool t)) (ht : t = true) (x : Ans (f (.bool true)) Q) : Ans ((aBinOp P op ty a b).bind f) Q := Ans.step (by rw [e, ht]) x
theorem Ans.oF {β : Type} {op : BinOp} {ty : TypeId} {a b : Value} {t : Bool} {f : Value → Option β} {Q : β → Prop} (e : aBinOp P op ty a b = some (.bool t)) (ht : t = false) (x : Ans (f (.bool false)) Q) : Ans ((aBinOp P op ty a b).bind f) Q := Ans.step (by rw [e, ht]) x
theorem Ans.oS {β : Type} {op : BinOp} {ty : TypeId} {a b : Value} {t : Bool} {f : Value → Option β} {Q : β → Prop} (e : aBinOp P op ty a b = some (.bool t)) (h1 : t = true → Ans (f (.bool true)) Q) (h2 : t = false → Ans (f (.bool false)) Q) : Ans ((aBinOp P op ty a b).bind f) Q := by
  cases ht : t with
  | true => exact Ans.oT e ht (h1 ht)
  | false => exact Ans.oF e ht (h2 ht)
/-- a call that answers yes or no -/
theorem Ans.cT {β : Type} {o : Orc FH} {g : FuncId} {avs : List Value} {h h' : FH} {c c' : Nat} {b : Bool} {f : Value × FH × Nat → Option β} {Q : β → Prop} (e : callF o g avs h c = some (.bool b, h', c')) (hb : b = true) (x : Ans (f (.bool true, h', c')) Q) : Ans ((callF o g avs h c).bind f) Q := Ans.step (by rw [e, hb]) x
theorem Ans.cF {β : Type} {o : Orc FH} {g : FuncId} {avs : List Value} {h h' : FH} {c c' : Nat} {b : Bool} {f : Value × FH × Nat → Option β} {Q : β → Prop} (e : callF o g avs h c = some (.bool b, h', c')) (hb : b = false) (x : Ans (f (.bool false, h', c')) Q) : Ans ((callF o g avs h c).bind f) Q := Ans.step (by rw [e, hb]) x
theorem Ans.cS {β : Type} {o : Orc FH} {g : FuncId} {avs : List Value} {h h' : FH} {c c' : Nat} {b : Bool} {f : Value × FH × Nat → Option β} {Q : β → Prop} (e : callF o g avs h c = some (.bool b, h', c')) (h1 : b = true → Ans (f (.bool true, h', c')) Q) (h2 : b = false → Ans (f (.bool false, h', c')) Q) : Ans ((callF o g avs h c).bind f) Q := by
  cases hb : b with
  | true => exact Ans.cT e hb (h1 hb)
  | false => exact Ans.cF e hb (h2 hb)

theorem Ans.ldT {β : Type} {h : FH} {a : Value} {b : Bool} {f : Value → Option β} {Q : β → Prop} (e : ld1 h a = some (.bool b)) (hb : b = true) (x : Ans (f (.bool true)) Q) : Ans ((ld1 h a).bind f) Q := Ans.step (by rw [e, hb]) x
theorem Ans.ldF {β : Type} {h : FH} {a : Value} {b : Bool} {f : Value → Option β} {Q : β → Prop} (e : ld1 h a = some (.bool b)) (hb : b = false) (x : Ans (f (.bool false)) Q) : Ans ((ld1 h a).bind f) Q := Ans.step (by rw [e, hb]) x
theorem Ans.ldS {β : Type} {h : FH} {a : Value} {b : Bool} {f : Value → Option β} {Q : β → Prop} (e : ld1 h a = some (.bool b)) (h1 : b = true → Ans (f (.bool true)) Q) (h2 : b = false → Ans (f (.bool false)) Q) : Ans ((ld1 h a).bind f) Q := by
  cases hb : b with
  | true => exact Ans.ldT e hb (h1 hb)
  | false => exact Ans.ldF e hb (h2 hb)

/-! ### Guards -/
theorem Ans.gyT {α β : Type} {b : Bool} {X Y : Option α} {f : α → Option β} {Q : β → Prop} (h : Ans (X.bind f) Q) : Ans (((gv (.bool b) b).bind fun w => cond w X Y).bind f) Q := by
  cases b <;> exact h
theorem Ans.gyF {α β : Type} {X Y : Option α} {f : α → Option β} {Q : β → Prop} (h : Ans (Y.bind f) Q) : Ans (((gv (.bool true) false).bind fun w => cond w X Y).bind f) Q := h
theorem Ans.gyG {α β : Type} {X Y : Option α} {f : α → Option β} {Q : β → Prop} (h : Ans (Y.bind f) Q) : Ans (((gv (.bool false) true).bind fun w => cond w X Y).bind f) Q := h
theorem Ans.r1 {β : Type} {h : FH} {c : Nat} {x : Option Value} {f : Value × FH × Nat → Option β} {Q : β → Prop} (e : Ans (x.bind fun v => f (v, h, c)) Q) : Ans ((ret1 h c x).bind f) Q := by
  cases x <;> exact e
theorem Ans.pkT {β : Type} {a b : Value} {f : Value → Option β} {Q : β → Prop} (e : Ans (f a) Q) : Ans ((pickV (.bool true) a b).bind f) Q := e
theorem Ans.pkF {β : Type} {a b : Value} {f : Value → Option β} {Q : β → Prop} (e : Ans (f b) Q) : Ans ((pickV (.bool false) a b).bind f) Q := e
theorem Ans.btL {β : Type} {x y : Option β} {Q : β → Prop} (k : Ans x Q) : Ans (boolK (.bool true) x y) Q := k
theorem Ans.bfL {β : Type} {x y : Option β} {Q : β → Prop} (k : Ans y Q) : Ans (boolK (.bool false) x y) Q := k

/-! ### Rounds -/
/-- what a loop does with the end of a round -/
def Lk (o : Orc FH) (k : Key) (Q : Rt FH → Prop) (q : Rt FH) : Prop := if q.e = .normal then Ans (o k q.vs q.h q.c q.df) Q else Q q

theorem Ans.loop {o : Orc FH} {k : Key} {L X : Option (Rt FH)} {h : FH} {c : Nat} {df : List Nat} {Q : Rt FH → Prop}
    (N : ∀ q r, L = some q → q.e = .normal → o k q.vs (gcR h c df q).h (gcR h c df q).c q.df = some r → X = some r)
    (Z : ∀ q, L = some q → q.e ≠ .normal → X = some (gcR h c df q))
    (e : Ans L (fun q => Lk o k Q (gcR h c df q))) : Ans X Q := by
  obtain ⟨q, hq, hl⟩ := e
  unfold Lk at hl
  rw [gcR_e, gcR_vs, gcR_df] at hl
  by_cases hn : q.e = .normal
  · rw [if_pos hn] at hl
    obtain ⟨r, hr, h2⟩ := hl
    exact ⟨r, N q r hq hn hr, h2⟩
  · rw [if_neg hn] at hl
    exact ⟨_, Z q hq hn, hl⟩

/-- the same, where nothing is forgotten -/
theorem Ans.loop' {o : Orc FH} {k : Key} {L X : Option (Rt FH)} {Q : Rt FH → Prop}
    (N : ∀ q r, L = some q → q.e = .normal → o k q.vs q.h q.c q.df = some r → X = some r)
    (Z : ∀ q, L = some q → q.e ≠ .normal → X = some q)
    (e : Ans L (fun q => Lk o k Q q)) : Ans X Q := by
  obtain ⟨q, hq, hl⟩ := e
  unfold Lk at hl
  by_cases hn : q.e = .normal
  · rw [if_pos hn] at hl
    obtain ⟨r, hr, h2⟩ := hl
    exact ⟨r, N q r hq hn hr, h2⟩
  · rw [if_neg hn] at hl
    exact ⟨_, Z q hq hn, hl⟩

theorem Lk.next {o : Orc FH} {k : Key} {Q : Rt FH → Prop} {vs : List Value} {h : FH} {c : Nat} {df : List Nat} (e : Ans (o k vs h c df) Q) : Lk o k Q { e := .normal, vs := vs, h := h, c := c, df := df } := by
  unfold Lk; rw [if_pos rfl]; exact e
theorem Lk.exit {o : Orc FH} {k : Key} {Q : Rt FH → Prop} {i : Nat} {vs : List Value} {h : FH} {c : Nat} {df : List Nat} (e : Q { e := .exit i, vs := vs, h := h, c := c, df := df }) : Lk o k Q { e := .exit i, vs := vs, h := h, c := c, df := df } := by
  unfold Lk; rw [if_neg (by simp)]; exact e
theorem Lk.ret {o : Orc FH} {k : Key} {Q : Rt FH → Prop} {vs : List Value} {h : FH} {c : Nat} {df : List Nat} (e : Q { e := .ret, vs := vs, h := h, c := c, df := df }) : Lk o k Q { e := .ret, vs := vs, h := h, c := c, df := df } := by
  unfold Lk; rw [if_neg (by simp)]; exact e

/-- a round that leaves what was there alone -/
theorem Ans.next0 {o : Orc FH} {k : Key} {Q : Rt FH → Prop} {A h : FH} {c c' : Nat} {vs : List Value} {df : List Nat} (h1 : OkVs c vs) (h2 : Same c A h) (e : Ans (o k vs A c df) Q) :
    Ans (some { e := .normal, vs := vs, h := h, c := c', df := df }) (fun q => Lk o k Q (gcR A c df q)) := .done (by rw [gcR_pure h1 h2]; exact .next e)
theorem Ans.exit0 {o : Orc FH} {k : Key} {Q : Rt FH → Prop} {A h : FH} {c c' : Nat} {vs : List Value} {df : List Nat} {i : Nat} (h1 : OkVs c vs) (h2 : Same c A h) (e : Q { e := .exit i, vs := vs, h := A, c := c, df := df }) :
    Ans (some { e := .exit i, vs := vs, h := h, c := c', df := df }) (fun q => Lk o k Q (gcR A c df q)) := .done (by rw [gcR_pure h1 h2]; exact .exit e)
theorem Ans.ret0 {o : Orc FH} {k : Key} {Q : Rt FH → Prop} {A h : FH} {c c' : Nat} {vs : List Value} {df : List Nat} (h1 : OkVs c vs) (h2 : Same c A h) (e : Q { e := .ret, vs := vs, h := A, c := c, df := df }) :
    Ans (some { e := .ret, vs := vs, h := h, c := c', df := df }) (fun q => Lk o k Q (gcR A c df q)) := .done (by rw [gcR_pure h1 h2]; exact .ret e)

/-- a round that writes into blocks that were there -/
theorem Ans.nextB {o : Orc FH} {k : Key} {Q : Rt FH → Prop} {A B h : FH} {c c' : Nat} {vs : List Value} {df : List Nat} (e : Ans (o k vs B c df) Q) (h1 : OkVs c vs) (h2 : Same c B h) (h3 : Upto c A B) :
    Ans (some { e := .normal, vs := vs, h := h, c := c', df := df }) (fun q => Lk o k Q (gcR A c df q)) := .done (by rw [gcR_to h1 h2 h3]; exact .next e)
theorem Ans.exitB {o : Orc FH} {k : Key} {Q : Rt FH → Prop} {A B h : FH} {c c' : Nat} {vs : List Value} {df : List Nat} {i : Nat} (e : Q { e := .exit i, vs := vs, h := B, c := c, df := df }) (h1 : OkVs c vs) (h2 : Same c B h) (h3 : Upto c A B) :
    Ans (some { e := .exit i, vs := vs, h := h, c := c', df := df }) (fun q => Lk o k Q (gcR A c df q)) := .done (by rw [gcR_to h1 h2 h3]; exact .exit e)
theorem Ans.retB {o : Orc FH} {k : Key} {Q : Rt FH → Prop} {A B h : FH} {c c' : Nat} {vs : List Value} {df : List Nat} (e : Q { e := .ret, vs := vs, h := B, c := c, df := df }) (h1 : OkVs c vs) (h2 : Same c B h) (h3 : Upto c A B) :
    Ans (some { e := .ret, vs := vs, h := h, c := c', df := df }) (fun q => Lk o k Q (gcR A c df q)) := .done (by rw [gcR_to h1 h2 h3]; exact .ret e)

theorem Ans.nextB2 {o : Orc FH} {k : Key} {Q : Rt FH → Prop} {A B h : FH} {c c' : Nat} {vs : List Value} {df : List Nat} (h1 : OkVs c vs) (h2 : Same c B h) (h3 : Upto c A B) (e : Ans (o k vs B c df) Q) :
    Ans (some { e := .normal, vs := vs, h := h, c := c', df := df }) (fun q => Lk o k Q (gcR A c df q)) := Ans.nextB e h1 h2 h3
theorem Ans.exitB2 {o : Orc FH} {k : Key} {Q : Rt FH → Prop} {A B h : FH} {c c' : Nat} {vs : List Value} {df : List Nat} {i : Nat} (h1 : OkVs c vs) (h2 : Same c B h) (h3 : Upto c A B) (e : Q { e := .exit i, vs := vs, h := B, c := c, df := df }) :
    Ans (some { e := .exit i, vs := vs, h := h, c := c', df := df }) (fun q => Lk o k Q (gcR A c df q)) := Ans.exitB e h1 h2 h3
theorem Ans.retB2 {o : Orc FH} {k : Key} {Q : Rt FH → Prop} {A B h : FH} {c c' : Nat} {vs : List Value} {df : List Nat} (h1 : OkVs c vs) (h2 : Same c B h) (h3 : Upto c A B) (e : Q { e := .ret, vs := vs, h := B, c := c, df := df }) :
    Ans (some { e := .ret, vs := vs, h := h, c := c', df := df }) (fun q => Lk o k Q (gcR A c df q)) := Ans.retB e h1 h2 h3

/-- nothing is forgotten -/
theorem Ans.nextN {o : Orc FH} {k : Key} {Q : Rt FH → Prop} {h : FH} {c : Nat} {vs : List Value} {df : List Nat} (e : Ans (o k vs h c df) Q) :
    Ans (some { e := .normal, vs := vs, h := h, c := c, df := df }) (fun q => Lk o k Q q) := .done (.next e)
theorem Ans.exitN {o : Orc FH} {k : Key} {Q : Rt FH → Prop} {h : FH} {c : Nat} {vs : List Value} {df : List Nat} {i : Nat} (e : Q { e := .exit i, vs := vs, h := h, c := c, df := df }) :
    Ans (some { e := .exit i, vs := vs, h := h, c := c, df := df }) (fun q => Lk o k Q q) := .done (.exit e)
theorem Ans.retN {o : Orc FH} {k : Key} {Q : Rt FH → Prop} {h : FH} {c : Nat} {vs : List Value} {df : List Nat} (e : Q { e := .ret, vs := vs, h := h, c := c, df := df }) :
    Ans (some { e := .ret, vs := vs, h := h, c := c, df := df }) (fun q => Lk o k Q q) := .done (.ret e)

theorem OkV.mono {c c' : Nat} {v : Value} (hc : c ≤ c') (h : OkV c v) : OkV c' v := by
  obtain ⟨v', hv⟩ := h
  exact ⟨_, VR.mono (μ' := nuD c') (fun i m e => by
    have := nuD_dom (c := c) (i := i) (by rw [e]; simp)
    rw [nuD_of this] at e
    rw [nuD_of (by omega)]; exact e) hv⟩

theorem OkV.fn (c : Nat) (g : FuncId) : OkV c (.func (.func g) #[] #[]) := ⟨.func (.func g) #[] #[], .fnc g rfl rfl (fun k x y h => by simp at h) (fun k x y h => by simp at h)⟩

@[simp] theorem extV_20 (a b : Value) : extV (.tuple #[a, b]) 0 = some a := rfl
@[simp] theorem extV_21 (a b : Value) : extV (.tuple #[a, b]) 1 = some b := rfl
@[simp] theorem extV_30 (a b c : Value) : extV (.tuple #[a, b, c]) 0 = some a := rfl
@[simp] theorem extV_31 (a b c : Value) : extV (.tuple #[a, b, c]) 1 = some b := rfl
@[simp] theorem extV_32 (a b c : Value) : extV (.tuple #[a, b, c]) 2 = some c := rfl

/-! ### Slices -/
def blkOf : Value → Nat
  | .slice (some a) _ _ => a.block
  | _ => 0
def offOf : Value → Nat
  | .slice (some a) _ _ => a.off
  | _ => 0
def capOf : Value → Nat
  | .slice _ _ k => k
  | _ => 0
@[simp] theorem blkOf_sl (b o n k : Nat) : blkOf (.slice (some ⟨b, o, none⟩) n k) = b := rfl
@[simp] theorem offOf_sl (b o n k : Nat) : offOf (.slice (some ⟨b, o, none⟩) n k) = o := rfl

/-- the element with a number -/
def gi (L : List Int) (i : Int) : Int := L.getD i.toNat 0
theorem gi_nat (L : List Int) (i : Nat) : gi L i = L.getD i 0 := rfl

theorem SlI.blk {h : FH} {c : Nat} {s : Value} {sz n : Nat} {L : List Int} (hs : SlI h c s sz n L) : 0 < n → blkOf s < 256 * c := by
  obtain ⟨g1, g2, a, cap, rfl, h4⟩ := hs
  intro hn
  rcases h4 with ⟨e, hv⟩ | ⟨b, o, cs, rfl, e2, e3, e4⟩
  · omega
  · exact e2
theorem SlI.ixs {h : FH} {c : Nat} {s : Value} {sz n : Nat} {L : List Int} (hs : SlI h c s sz n L) (k : IntKind) (i : Int) (h1 : 0 ≤ i) (h2 : i < (n : Int)) :
    ixS sz s (.int k i) = some (.pointer (some ⟨blkOf s, offOf s + i.toNat * sz, none⟩)) := by
  obtain ⟨g1, g2, a, cap, rfl, h4⟩ := hs
  rcases h4 with ⟨e, hv⟩ | ⟨b, o, cs, rfl, e2, e3, e4⟩
  · omega
  · exact ixS_sl sz b o n cap k i h1 h2
theorem SlI.rd {h : FH} {c : Nat} {s : Value} {sz n : Nat} {L : List Int} (hs : SlI h c s sz n L) (j : Nat) (hj : j < n * sz) :
    ld1 h (.pointer (some ⟨blkOf s, offOf s + j, none⟩)) = some (.int .i64 (L.getD j 0)) := by
  obtain ⟨g1, g2, a, cap, rfl, h4⟩ := hs
  rcases h4 with ⟨e, hv⟩ | ⟨b, o, cs, rfl, e2, e3, e4⟩
  · rw [e, Nat.zero_mul] at hj; omega
  · exact ld1_win e3 e4 (by omega)
theorem SlI.rd2 {h : FH} {c : Nat} {s : Value} {sz n : Nat} {L : List Int} (hs : SlI h c s sz n L) (j k : Nat) (hj : j + k < n * sz) :
    ld1 h (.pointer (some ⟨blkOf s, offOf s + j + k, none⟩)) = some (.int .i64 (L.getD (j + k) 0)) := by rw [Nat.add_assoc]; exact hs.rd _ hj
theorem SlI.rd3 {h : FH} {c : Nat} {s : Value} {sz n : Nat} {L : List Int} (hs : SlI h c s sz n L) (j k l : Nat) (hj : j + k + l < n * sz) :
    ld1 h (.pointer (some ⟨blkOf s, offOf s + j + k + l, none⟩)) = some (.int .i64 (L.getD (j + k + l) 0)) := by rw [Nat.add_assoc, Nat.add_assoc, ← Nat.add_assoc j]; exact hs.rd _ hj
theorem SlI.ixs1 {h : FH} {c : Nat} {s : Value} {n : Nat} {L : List Int} (hs : SlI h c s 1 n L) (k : IntKind) (i : Int) (h1 : 0 ≤ i) (h2 : i < (n : Int)) :
    ixS 1 s (.int k i) = some (.pointer (some ⟨blkOf s, offOf s + i.toNat, none⟩)) := by rw [hs.ixs k i h1 h2, Nat.mul_one]
/-- an element of a list of numbers -/
theorem SlI.rdi {h : FH} {c : Nat} {s : Value} {n : Nat} {L : List Int} (hs : SlI h c s 1 n L) (i : Int) (h1 : 0 ≤ i) (h2 : i < (n : Int)) :
    ld1 h (.pointer (some ⟨blkOf s, offOf s + i.toNat, none⟩)) = some (.int .i64 (gi L i)) := by
  rw [hs.rd _ (by omega)]; rfl
theorem SlI.rdN {h : FH} {c : Nat} {s : Value} {sz n : Nat} {L : List Int} (hs : SlI h c s sz n L) (q j : Nat) (hq : 0 < q) (hj : j + q ≤ n * sz) :
    ldN h q (.pointer (some ⟨blkOf s, offOf s + j, none⟩)) = some (av ((L.drop j).take q)) := by
  obtain ⟨g1, g2, a, cap, rfl, h4⟩ := hs
  rcases h4 with ⟨e, hv⟩ | ⟨b, o, cs, rfl, e2, e3, e4⟩
  · rw [e, Nat.zero_mul] at hj; omega
  · exact ldN_win e3 e4 (by omega) hq
theorem SlI.rdN2 {h : FH} {c : Nat} {s : Value} {sz n : Nat} {L : List Int} (hs : SlI h c s sz n L) (q j k : Nat) (hq : 0 < q) (hj : j + k + q ≤ n * sz) :
    ldN h q (.pointer (some ⟨blkOf s, offOf s + j + k, none⟩)) = some (av ((L.drop (j + k)).take q)) := by rw [Nat.add_assoc]; exact hs.rdN q _ hq (by omega)
/-- a face of a gluing -/
theorem SlI.face {h : FH} {c : Nat} {s : Value} {n : Nat} {L : List Int} (hs : SlI h c s 20 n L) (t f : Int) (h1 : 0 ≤ t) (h2 : t < (n : Int)) (h3 : 0 ≤ f) (h4 : f < 4) :
    ldN h 5 (.pointer (some ⟨blkOf s, offOf s + t.toNat * 20 + f.toNat * 5, none⟩)) = some (av (faceL L t.toNat f.toNat)) := by
  rw [hs.rdN2 5 _ _ (by omega) (by omega)]
  unfold faceL
  rw [Nat.mul_comm 20, Nat.mul_comm 5]
theorem SlI.row {h : FH} {c : Nat} {s : Value} {n : Nat} {L : List Int} (hs : SlI h c s 20 n L) (t : Int) (h1 : 0 ≤ t) (h2 : t < (n : Int)) :
    ldN h 20 (.pointer (some ⟨blkOf s, offOf s + t.toNat * 20, none⟩)) = some (av (rowL L t.toNat)) := by
  rw [hs.rdN 20 _ (by omega) (by omega)]
  unfold rowL
  rw [Nat.mul_comm 20]
/-- a permutation of a list of permutations -/
def permAt (Pm : List Int) (i : Nat) : List Int := (Pm.drop (4 * i)).take 4
theorem permAt_length {Pm : List Int} {n i : Nat} (h : Pm.length = n * 4) (hi : i < n) : (permAt Pm i).length = 4 := by simp [permAt]; omega
theorem SlI.perm {h : FH} {c : Nat} {s : Value} {n : Nat} {L : List Int} (hs : SlI h c s 4 n L) (t : Int) (h1 : 0 ≤ t) (h2 : t < (n : Int)) :
    ldN h 4 (.pointer (some ⟨blkOf s, offOf s + t.toNat * 4, none⟩)) = some (av (permAt L t.toNat)) := by
  rw [hs.rdN 4 _ (by omega) (by omega)]
  unfold permAt
  rw [Nat.mul_comm 4]

theorem SlI.keep {h h' : FH} {c : Nat} {s : Value} {sz n : Nat} {L : List Int} (hs : SlI h c s sz n L) (hh : 0 < n → h'.f (blkOf s) = h.f (blkOf s)) : SlI h' c s sz n L := by
  by_cases hn : 0 < n
  · obtain ⟨h1, h2, a, cap, rfl, h4⟩ := hs
    refine ⟨h1, h2, a, cap, rfl, ?_⟩
    rcases h4 with ⟨e, hv⟩ | ⟨b, o, cs, rfl, e2, ⟨ro, op, e3⟩, e4⟩
    · omega
    · exact .inr ⟨b, o, cs, rfl, e2, ⟨ro, op, (hh hn).trans e3⟩, e4⟩
  · have ho := hs.okV
    obtain ⟨h1, h2, a, cap, rfl, h4⟩ := hs
    exact ⟨h1, h2, a, cap, rfl, .inl ⟨by omega, ho⟩⟩
theorem SlI.nil (h : FH) (c sz : Nat) : SlI h c (.slice none 0 0) sz 0 [] := ⟨by simp, by omega, none, 0, rfl, .inl ⟨rfl, OkV.sl0 _ _ _⟩⟩
theorem SlI.flat {h : FH} {c : Nat} {s : Value} {sz n : Nat} {L : List Int} (hs : SlI h c s sz n L) : isFlat s = true := by
  obtain ⟨_, _, a, cap, rfl, _⟩ := hs
  rfl

/-! ### New slices -/
theorem zeros_one (v : Value) : ∀ n : Nat, zeros [v] n = List.replicate n v
  | 0 => rfl
  | n + 1 => by rw [zeros, zeros_one v n]; rfl
theorem zeros_ints (l : List Int) : ∀ n : Nat, zeros (ints l) n = ints (List.replicate n l).flatten
  | 0 => rfl
  | n + 1 => by rw [zeros, zeros_ints l n, List.replicate_succ, List.flatten_cons, ints_append]
theorem flat_rep (k : Nat) (x : Int) : ∀ n : Nat, (List.replicate n (List.replicate k x)).flatten = List.replicate (n * k) x
  | 0 => by simp
  | n + 1 => by
    rw [List.replicate_succ, List.flatten_cons, flat_rep k x n, List.replicate_append_replicate, Nat.succ_mul, Nat.add_comm]
theorem mkS_any (sz by' : Nat) (z : List Value) (k k' : IntKind) (n : Nat) (h : by' * n ≤ 281474976710656) (h2 : n ≤ 281474976710656) : mkS sz by' z (.int k (n : Int)) (.int k' (n : Int)) = some (zeros z n, n, n) := by
  have h3 : (by' : Int) * (n : Int) ≤ 281474976710656 := by rw [← Int.natCast_mul]; omega
  have h4 : (n : Int) ≤ 281474976710656 := by omega
  have h5 : (0 : Int) ≤ n := by omega
  simp only [mkS, aInt, Option.bind_some, decide_eq_true h3, decide_eq_true h4, decide_eq_true h5, decide_eq_true (Int.le_refl (n : Int)), Bool.and_self, cond_true, Int.toNat_natCast]
theorem mkS_int (sz by' : Nat) (k k' : IntKind) (n : Nat) (h : by' * n ≤ 281474976710656) (h2 : n ≤ 281474976710656) : mkS sz by' [.int .i64 0] (.int k (n : Int)) (.int k' (n : Int)) = some (ints (List.replicate n 0), n, n) := by
  rw [mkS_any sz by' _ k k' n h h2, zeros_one, ints, List.map_replicate]
theorem mkS_bool (sz by' : Nat) (k k' : IntKind) (n : Nat) (h : by' * n ≤ 281474976710656) (h2 : n ≤ 281474976710656) : mkS sz by' [.bool false] (.int k (n : Int)) (.int k' (n : Int)) = some (bools (List.replicate n false), n, n) := by
  rw [mkS_any sz by' _ k k' n h h2, zeros_one, bools, List.map_replicate]
theorem mkS_int4 (sz by' : Nat) (k k' : IntKind) (n : Nat) (h : by' * n ≤ 281474976710656) (h2 : n ≤ 281474976710656) : mkS sz by' [.int .i64 0, .int .i64 0, .int .i64 0, .int .i64 0] (.int k (n : Int)) (.int k' (n : Int)) = some (ints (List.replicate (n * 4) 0), n, n) := by
  rw [mkS_any sz by' _ k k' n h h2, ← flat_rep]
  exact congrArg (fun x => some (x, n, n)) (zeros_ints [0, 0, 0, 0] n)

/-! ### Blocks that may be written -/
/-- the block b holds cs, and may be written -/
def Own (h : FH) (b : Nat) (op : Option Nat) (cs : List Value) : Prop := HeapC.get h b = some (.cells false op cs)
theorem Own.holds {h : FH} {b : Nat} {op : Option Nat} {cs : List Value} (e : Own h b op cs) : Holds h b cs := ⟨false, op, e⟩
theorem Own.same {h h' : FH} {c b : Nat} {op : Option Nat} {cs : List Value} (hb : b < 256 * c) (hs : Same c h h') (e : Own h b op cs) : Own h' b op cs := (hs b hb).trans e
theorem Own.new (h : FH) (b : Nat) (cs : List Value) : Own (newB h b cs) b none cs := get_newB_same h b cs
theorem Own.set (h : FH) (b : Nat) (op : Option Nat) (cs : List Value) : Own (HeapC.set h b (.cells false op cs)) b op cs := get_set_same h b _

theorem newB_eq_set (h : FH) (b : Nat) (cs : List Value) : newB h b cs = HeapC.set h b (.cells false none cs) := rfl
theorem Upto.set {c b : Nat} {A B : FH} {op : Option Nat} {ro : Bool} {cs : List Value} (hb : b < 256 * c) (hc : OkVs c cs) (h : Upto c A B) : Upto c A (HeapC.set B b (.cells ro op cs)) := by
  intro i
  rw [set_f]
  refine ⟨fun hi => ?_, fun hi => ?_⟩
  · rw [if_neg (by omega)]; exact (h i).1 hi
  · split
    · exact .inr hc
    · exact (h i).2 hi

/-! ### Calls -/
/-- a call, from its text -/
theorem Ans.call {S X : Option (Rt FH)} {h : FH} {c : Nat} {Q : Rt FH → Prop} (hgo : ∀ r, S = some r → X = some (gcR h c [] r)) (hS : Ans S (fun r => Q (gcR h c [] r))) : Ans X Q := by
  obtain ⟨r, e, hq⟩ := hS
  exact ⟨_, hgo r e, hq⟩
theorem Ans.call' {S X : Option (Rt FH)} {Q : Rt FH → Prop} (hgo : ∀ r, S = some r → X = some r) (hS : Ans S Q) : Ans X Q := by
  obtain ⟨r, e, hq⟩ := hS
  exact ⟨_, hgo r e, hq⟩
/-- what is answered is one value over the old heap -/
def PureR (h : FH) (c : Nat) (v : Value) (r : Rt FH) : Prop := r.e = .ret ∧ r.vs = [v] ∧ Same c h r.h ∧ r.df = []
theorem pure_of' {X S : Option (Rt FH)} {h : FH} {c : Nat} {v : Value} (hgo : ∀ r, S = some r → X = some (gcR h c [] r)) (hv : OkV c v) (hS : Ans S (PureR h c v)) :
    X = some { e := .ret, vs := [v], h := h, c := c, df := [] } := pure_of hgo hv hS
theorem Ans.pure {h h' : FH} {c c' : Nat} {v w : Value} (hv : w = v) (hs : Same c h h') : Ans (some { e := .ret, vs := [w], h := h', c := c', df := [] }) (PureR h c v) := .done ⟨rfl, by rw [hv], hs, rfl⟩

/-- callF through what is known of the answer -/
theorem callF_ans {o : Orc FH} {g : FuncId} {args : List Value} {h : FH} {c : Nat} {Q : Value × FH × Nat → Prop} (e : Ans (o (.fn g) args h c []) fun r => ∃ v, r.vs = [v] ∧ Q (v, r.h, r.c)) : Ans (callF o g args h c) Q := by
  obtain ⟨r, e1, v, hv, hq⟩ := e
  refine ⟨(v, r.h, r.c), ?_, hq⟩
  simp only [callF, e1, Option.bind_some, hv]

theorem sameB_of {x : Option Nat} {h1 h2 : FH} (e : ∀ i, x = some i → h1.f i = h2.f i) : sameB x h1 h2 = true := by
  cases x with
  | none => rfl
  | some i =>
    show @decide (h1.f i = h2.f i) (Classical.propDecidable _) = true
    exact @decide_eq_true _ (Classical.propDecidable _) (e i rfl)
theorem face_split {x : List Int} (hx : x.length = 5) : x = tetL x :: permL x := by
  match x, hx with
  | [a, b, c, d, e], _ => rfl
end Go.Ab

/-! The permutations of four, and slices that grow. -/
namespace Go.Ab
open Go
set_option maxRecDepth 100000
set_option linter.unusedVariables false
set_option linter.unusedSimpArgs false

def p24 : List (List Int) := [[0,1,2,3],[0,1,3,2],[0,2,1,3],[0,2,3,1],[0,3,1,2],[0,3,2,1],[1,0,2,3],[1,0,3,2],[1,2,0,3],[1,2,3,0],[1,3,0,2],[1,3,2,0],[2,0,1,3],[2,0,3,1],[2,1,0,3],[2,1,3,0],[2,3,0,1],[2,3,1,0],[3,0,1,2],[3,0,2,1],[3,1,0,2],[3,1,2,0],[3,2,0,1],[3,2,1,0]]

theorem mem24 {p : List Int} (hp : p.length = 4) (h : validB p = true) : p ∈ p24 := by
  have hr := validB_range h
  match p, hp with
  | [a, b, c, d], _ =>
    have ha := hr a (by simp)
    have hb := hr b (by simp)
    have hc := hr c (by simp)
    have hd := hr d (by simp)
    have := all256 (Q := fun a b c d => !validB [(a : Int), (b : Int), (c : Int), (d : Int)] || p24.contains [(a : Int), (b : Int), (c : Int), (d : Int)]) (by kernel_rfl)
      (a := a.toNat) (b := b.toNat) (c := c.toNat) (d := d.toNat) (by omega) (by omega) (by omega) (by omega)
    have ea : ((a.toNat : Nat) : Int) = a := by omega
    have eb : ((b.toNat : Nat) : Int) = b := by omega
    have ec : ((c.toNat : Nat) : Int) = c := by omega
    have ed : ((d.toNat : Nat) : Int) = d := by omega
    rw [ea, eb, ec, ed, h] at this
    simpa using this
theorem all24 {Q : List Int → Bool} (h : p24.all Q = true) {p : List Int} (hp : p ∈ p24) : Q p = true := List.all_eq_true.1 h p hp
theorem all24' {Q : List Int → List Int → Bool} (h : (p24.all fun p => p24.all fun q => Q p q) = true) {p q : List Int} (hp : p ∈ p24) (hq : q ∈ p24) : Q p q = true := List.all_eq_true.1 (List.all_eq_true.1 h p hp) q hq
theorem valid24 {p : List Int} (hp : p ∈ p24) : validB p = true := all24 (Q := validB) (by kernel_rfl) hp
theorem len24 {p : List Int} (hp : p ∈ p24) : p.length = 4 := by simpa using all24 (Q := fun p => p.length == 4) (by kernel_rfl) hp
theorem inv24 {p : List Int} (hp : p ∈ p24) : inv p ∈ p24 := by simpa using all24 (Q := fun p => p24.contains (inv p)) (by kernel_rfl) hp
theorem comp24 {p q : List Int} (hp : p ∈ p24) (hq : q ∈ p24) : comp p q ∈ p24 := by simpa using all24' (Q := fun p q => p24.contains (comp p q)) (by kernel_rfl) hp hq
theorem inv_inv {p : List Int} (hp : p ∈ p24) : inv (inv p) = p := by simpa using all24 (Q := fun p => inv (inv p) == p) (by kernel_rfl) hp
theorem comp_inv {p : List Int} (hp : p ∈ p24) : comp p (inv p) = [0, 1, 2, 3] := by simpa using all24 (Q := fun p => comp p (inv p) == [0, 1, 2, 3]) (by kernel_rfl) hp
theorem inv_comp {p : List Int} (hp : p ∈ p24) : comp (inv p) p = [0, 1, 2, 3] := by simpa using all24 (Q := fun p => comp (inv p) p == [0, 1, 2, 3]) (by kernel_rfl) hp
theorem comp_id {p : List Int} (hp : p ∈ p24) : comp p [0, 1, 2, 3] = p := by simpa using all24 (Q := fun p => comp p [0, 1, 2, 3] == p) (by kernel_rfl) hp
theorem id_comp {p : List Int} (hp : p ∈ p24) : comp [0, 1, 2, 3] p = p := by simpa using all24 (Q := fun p => comp [0, 1, 2, 3] p == p) (by kernel_rfl) hp
theorem inv_of_comp {p q : List Int} (hp : p ∈ p24) (hq : q ∈ p24) : inv (comp p q) = comp (inv q) (inv p) := by simpa using all24' (Q := fun p q => inv (comp p q) == comp (inv q) (inv p)) (by kernel_rfl) hp hq
theorem range24 {p : List Int} (hp : p ∈ p24) {i : Nat} (hi : i < 4) : 0 ≤ p.getD i 0 ∧ p.getD i 0 < 4 := by
  have := all24 (Q := fun p => (List.range 4).all fun i => decide (0 ≤ p.getD i 0) && decide (p.getD i 0 < 4)) (by kernel_rfl) hp
  rw [List.all_eq_true] at this
  simpa using this i (by simpa using hi)
theorem inv_at {p : List Int} (hp : p ∈ p24) {i : Nat} (hi : i < 4) : (inv p).getD (p.getD i 0).toNat 0 = i := by
  have := all24 (Q := fun p => (List.range 4).all fun i => decide ((inv p).getD (p.getD i 0).toNat 0 = (i : Int))) (by kernel_rfl) hp
  rw [List.all_eq_true] at this
  simpa using this i (by simpa using hi)
theorem comp_at {p q : List Int} (hq : q.length = 4) {i : Nat} (hi : i < 4) : (comp p q).getD i 0 = p.getD (q.getD i 0).toNat 0 := by
  simp only [comp, List.getD_eq_getElem?_getD, List.getElem?_map]
  rw [List.getElem?_eq_getElem (by omega : i < q.length)]
  simp
theorem comp_length (p q : List Int) : (comp p q).length = q.length := by simp [comp]
theorem comp_assoc {p q r : List Int} (hq : q ∈ p24) (hr : r ∈ p24) : comp (comp p q) r = comp p (comp q r) := by
  have hl := len24 hr
  apply List.ext_getElem?
  intro i
  by_cases hi : i < 4
  · have e1 := comp_at (p := comp p q) hl hi
    have e2 := comp_at (p := p) (q := comp q r) (by rw [comp_length, hl]) hi
    have e3 := comp_at (p := q) hl hi
    have hg := range24 hr hi
    have e4 := comp_at (p := p) (q := q) (len24 hq) (i := (r.getD i 0).toNat) (by omega)
    have : (comp (comp p q) r).getD i 0 = (comp p (comp q r)).getD i 0 := by rw [e1, e4, e2, e3]
    rw [List.getElem?_eq_getElem (by rw [comp_length]; omega), List.getElem?_eq_getElem (by rw [comp_length, comp_length]; omega)]
    simp only [List.getD_eq_getElem?_getD] at this
    rw [List.getElem?_eq_getElem (by rw [comp_length]; omega), List.getElem?_eq_getElem (by rw [comp_length, comp_length]; omega)] at this
    simpa using this
  · rw [List.getElem?_eq_none (by rw [comp_length]; omega), List.getElem?_eq_none (by rw [comp_length, comp_length]; omega)]

/-- what a face of a valid gluing says -/
theorem okFace_free {Gl : List Int} {n t f : Nat} (h : okFace Gl n t f = true) (ht : tetL (faceL Gl t f) < 0) : faceL Gl t f = noneL := by
  unfold okFace at h
  have : ¬ (0 ≤ tetL (faceL Gl t f)) := by omega
  simpa [this] using h
theorem okFace_glued {Gl : List Int} {n t f : Nat} (h : okFace Gl n t f = true) (ht : ¬ tetL (faceL Gl t f) < 0) :
    tetL (faceL Gl t f) < n ∧ validB (permL (faceL Gl t f)) = true ∧ ¬ (tetL (faceL Gl t f) = t ∧ (permL (faceL Gl t f)).getD f 0 = f) ∧
      faceL Gl (tetL (faceL Gl t f)).toNat ((permL (faceL Gl t f)).getD f 0).toNat = (t : Int) :: inv (permL (faceL Gl t f)) := by
  unfold okFace at h
  have h0 : faceL Gl t f ≠ noneL := fun e => ht (by rw [e]; decide)
  simp only [h0, decide_false, Bool.false_or, Bool.and_eq_true, decide_eq_true_eq, Bool.not_eq_true'] at h
  obtain ⟨⟨⟨⟨h1, h2⟩, h3⟩, h4⟩, h5⟩ := h
  refine ⟨h2, h3, fun ⟨a, b⟩ => ?_, h5⟩
  rw [decide_eq_true a, decide_eq_true b] at h4
  cases h4
theorem okAll_face {Gl : List Int} {n t f : Nat} (h : okAll Gl n = true) (ht : t < n) (hf : f < 4) : okFace Gl n t f = true := by
  have := (okAll_iff Gl n).1 h (4 * t + f) (by omega)
  have e1 : (4 * t + f) / 4 = t := by omega
  have e2 : (4 * t + f) % 4 = f := by omega
  rwa [e1, e2] at this

/-! ### Slices that grow -/
/-- v is a slice of n elements of sz integers each, of its own block from c0 on, or nil -/
def AppS (c0 : Nat) (h : FH) (c : Nat) (v : Value) (sz n : Nat) (L : List Int) : Prop :=
  L.length = n * sz ∧ n ≤ 9223372036854775807 ∧ ((v = .slice none 0 0 ∧ n = 0) ∨
    ∃ i, v = .slice (some ⟨i, 0, none⟩) n n ∧ 256 * c0 ≤ i ∧ i < 256 * c ∧ h.f i = some (.cells false (some sz) (ints L)))
theorem AppS.nil (c0 : Nat) (h : FH) (c sz : Nat) : AppS c0 h c (.slice none 0 0) sz 0 [] := ⟨by simp, by omega, .inl ⟨rfl, rfl⟩⟩
theorem AppS.flat {c0 : Nat} {h : FH} {c : Nat} {v : Value} {sz n : Nat} {L : List Int} (ha : AppS c0 h c v sz n L) : isFlat v = true ∧ v.cells = #[v] := by
  obtain ⟨_, _, ⟨rfl, _⟩ | ⟨i, rfl, _⟩⟩ := ha <;> exact ⟨rfl, rfl⟩
theorem AppS.sl {c0 : Nat} {h : FH} {c : Nat} {v : Value} {sz n : Nat} {L : List Int} (ha : AppS c0 h c v sz n L) : SlI h c v sz n L := by
  obtain ⟨h1, h2, ⟨rfl, rfl⟩ | ⟨i, rfl, h3, h4, h5⟩⟩ := ha
  · exact ⟨h1, h2, none, 0, rfl, .inl ⟨rfl, OkV.sl0 _ _ _⟩⟩
  · refine ⟨h1, h2, some ⟨i, 0, none⟩, n, rfl, .inr ⟨i, 0, ints L, rfl, h4, ⟨false, some sz, h5⟩, ?_⟩⟩
    rw [List.drop_zero, List.take_of_length_le (by simp [h1])]
theorem AppS.mono {c0 : Nat} {h : FH} {c c' : Nat} {v : Value} {sz n : Nat} {L : List Int} (hc : c ≤ c') (ha : AppS c0 h c v sz n L) : AppS c0 h c' v sz n L := by
  obtain ⟨h1, h2, h3 | ⟨i, rfl, h3, h4, h5⟩⟩ := ha
  · exact ⟨h1, h2, .inl h3⟩
  · exact ⟨h1, h2, .inr ⟨i, rfl, h3, by omega, h5⟩⟩
theorem AppS.keep {c0 : Nat} {h h' : FH} {c : Nat} {v : Value} {sz n : Nat} {L : List Int} (hh : ∀ i, 256 * c0 ≤ i → i < 256 * c → h'.f i = h.f i) (ha : AppS c0 h c v sz n L) : AppS c0 h' c v sz n L := by
  obtain ⟨h1, h2, h3 | ⟨i, rfl, h3, h4, h5⟩⟩ := ha
  · exact ⟨h1, h2, .inl h3⟩
  · exact ⟨h1, h2, .inr ⟨i, rfl, h3, h4, by rw [hh i h3 h4, h5]⟩⟩

/-- one element more -/
theorem AppS.app {c0 : Nat} {h : FH} {c c' : Nat} {v : Value} {sz n : Nat} {L : List Int} (ha : AppS c0 h c v sz n L) (X : List Int) (hX : X.length = sz) (hsz : 0 < sz) (by' b id : Nat) (hb : 256 * c ≤ b) (hid : 256 * c ≤ id) (hne : b ≠ id) (hc0 : c0 ≤ c)
    (hid' : id < 256 * c') (hlim : (n + 1) * (by' + 1) ≤ 17592186044416) :
    ∃ v' h', appV (newB h b (ints X)) id sz by' v (.slice (some ⟨b, 0, none⟩) 1 1) = some (v', h') ∧ AppS c0 h' c' v' sz (n + 1) (L ++ X) ∧ Same c0 h h' ∧ v' = .slice (some ⟨id, 0, none⟩) (n + 1) (n + 1) := by
  obtain ⟨h1, h2, h3⟩ := ha
  have hlim' : Nat.ble ((n + 1) * (by' + 1)) 17592186044416 = true := Nat.ble_eq_true_of_le hlim
  have hsrc : srcCells (newB h b (ints X)) sz (.slice (some ⟨b, 0, none⟩) 1 1) = some (ints X, 1) := by
    have : Nat.ble (0 + 1 * sz) (ints X).length = true := Nat.ble_eq_true_of_le (by simp [hX])
    simp only [srcCells, rdCells, getCells, get_newB_same, Option.bind_some, this, cond_true, List.drop_zero]
    rw [List.take_of_length_le (by simp [hX])]
  have hn1 : n + 1 ≤ 17592186044416 := by
    have : (n + 1) * 1 ≤ (n + 1) * (by' + 1) := Nat.mul_le_mul_left _ (by omega)
    omega
  have hcap : Nat.ble (n + 1) n = false := by rw [Bool.eq_false_iff]; intro hh; have := Nat.le_of_ble_eq_true hh; omega
  rcases h3 with ⟨rfl, rfl⟩ | ⟨i, rfl, h3, h4, h5⟩
  · have hL : L = [] := List.eq_nil_of_length_eq_zero (by simpa using h1)
    subst hL
    refine ⟨_, HeapC.set (newB h b (ints X)) id (.cells false (some sz) (ints X)), ?_, ⟨by simp [hX], by omega, .inr ⟨id, rfl, by omega, hid', ?_⟩⟩, ?_, rfl⟩
    · simp only [appV, hsrc, Option.bind_some, appTo, hcap, cond_false, appGrow, hlim', ints_flat, Bool.and_self, cond_true, Nat.beq_refl, Nat.zero_add]
    · rw [set_f, if_pos rfl]; rfl
    · intro j hj
      rw [set_f, if_neg (by omega), newB_f, if_neg (by omega)]
  · have hbi : i ≠ b := by omega
    have hg : HeapC.get (newB h b (ints X)) i = some (.cells false (some sz) (ints L)) := by rw [get_newB_ne _ _ _ _ hbi]; exact h5
    have hr : Nat.ble (0 + n * sz) (ints L).length = true := Nat.ble_eq_true_of_le (by simp [h1])
    refine ⟨_, HeapC.set (HeapC.set (newB h b (ints X)) i .dead) id (.cells false (some sz) (((ints L).drop 0).take (n * sz) ++ ints X)), ?_, ⟨?_, by omega, .inr ⟨id, rfl, by omega, hid', ?_⟩⟩, ?_, rfl⟩
    · simp only [appV, hsrc, Option.bind_some, appTo, hcap, cond_false, appGrow, hlim', ints_flat, Bool.and_self, cond_true, rdCells, getCells, hg, hr, Nat.beq_refl, Bool.not_false, Bool.and_true]
    · simp [h1, hX, Nat.succ_mul]
    · rw [set_f, if_pos rfl, List.drop_zero, List.take_of_length_le (by simp [h1]), ints_append]
    · intro j hj
      rw [set_f, if_neg (by omega), set_f, if_neg (by omega), newB_f, if_neg (by omega)]

/-! ### Rows -/
/-- the first faces of a row -/
def rowTo (F : Nat → List Int) : Nat → List Int
  | 0 => []
  | f + 1 => rowTo F f ++ F f
theorem rowTo_length {F : Nat → List Int} (hF : ∀ f, f < 4 → (F f).length = 5) : ∀ f, f ≤ 4 → (rowTo F f).length = 5 * f
  | 0, _ => rfl
  | f + 1, h => by
    rw [rowTo, List.length_append, rowTo_length hF f (by omega), hF f (by omega)]; omega
/-- a row of which the first faces are laid -/
def rowP (F : Nat → List Int) (f : Nat) : List Int := rowTo F f ++ List.replicate (20 - 5 * f) 0
theorem rowP_length {F : Nat → List Int} (hF : ∀ f, f < 4 → (F f).length = 5) {f : Nat} (h : f ≤ 4) : (rowP F f).length = 20 := by
  rw [rowP, List.length_append, rowTo_length hF f h, List.length_replicate]; omega
theorem rowP_zero (F : Nat → List Int) : rowP F 0 = List.replicate 20 0 := rfl
theorem rowP_four (F : Nat → List Int) : rowP F 4 = rowTo F 4 := by simp [rowP]
/-- five entries put into a list -/
theorem splice_ints (l x : List Int) (o : Nat) : splice (ints l) o (ints x) = ints (l.take o ++ x ++ l.drop (o + x.length)) := by
  simp [splice, ints, List.map_take, List.map_drop]
theorem rowP_put {F : Nat → List Int} (hF : ∀ f, f < 4 → (F f).length = 5) {f : Nat} (hf : f < 4) (X : List Int) (hX : X.length = 5) :
    (rowP F f).take (5 * f) ++ X ++ (rowP F f).drop (5 * f + X.length) = rowTo F f ++ X ++ List.replicate (20 - 5 * (f + 1)) 0 := by
  have hl := rowTo_length hF f (by omega)
  rw [rowP, List.take_append_of_le_length (by omega), List.take_of_length_le (by omega), List.drop_append, List.drop_eq_nil_of_le (by omega), List.nil_append, List.drop_replicate, hX, hl]
  congr 2
  omega
theorem rowQ_put {F : Nat → List Int} (hF : ∀ f, f < 4 → (F f).length = 5) {f : Nat} (hf : f < 4) (Y X : List Int) (hY : Y.length = 5) (hX : X.length = 5) :
    (rowTo F f ++ Y ++ List.replicate (20 - 5 * (f + 1)) 0).take (5 * f) ++ X ++ (rowTo F f ++ Y ++ List.replicate (20 - 5 * (f + 1)) 0).drop (5 * f + X.length) = rowTo F f ++ X ++ List.replicate (20 - 5 * (f + 1)) 0 := by
  have hl := rowTo_length hF f (by omega)
  have h2 : (rowTo F f ++ Y).length = 5 * f + X.length := by simp [hl, hX, hY]
  have e1 : (rowTo F f ++ Y ++ List.replicate (20 - 5 * (f + 1)) 0).take (5 * f) = rowTo F f := by
    rw [List.append_assoc, List.take_append_of_le_length (by omega), List.take_of_length_le (by omega)]
  have e2 : (rowTo F f ++ Y ++ List.replicate (20 - 5 * (f + 1)) 0).drop (5 * f + X.length) = List.replicate (20 - 5 * (f + 1)) 0 := by
    rw [← h2, List.drop_left]
  rw [e1, e2]
end Go.Ab

/-! What renumbering comes to. -/
namespace Go.Ab
open Go
set_option maxRecDepth 100000
set_option linter.unusedVariables false
set_option linter.unusedSimpArgs false

/-- IsOrder, from some entries on -/
def ordF (Ord Pm : List Int) (n : Nat) : Nat → Nat → List Bool → Bool
  | 0, _, _ => true
  | k + 1, i, met => if Ord.getD i 0 < 0 ∨ (n : Int) ≤ Ord.getD i 0 then false else if met.getD (Ord.getD i 0).toNat false = true then false else
      if validB (permAt Pm i) = false then false else ordF Ord Pm n k (i + 1) (met.set (Ord.getD i 0).toNat true)
def ordB (Ord Pm : List Int) (a b n : Nat) : Bool := decide (a = n) && decide (b = n) && ordF Ord Pm n n 0 (List.replicate n false)

theorem ordF_range {Ord Pm : List Int} {n : Nat} : ∀ {k i : Nat} {met : List Bool}, ordF Ord Pm n k i met = true → ∀ j, i ≤ j → j < i + k → 0 ≤ Ord.getD j 0 ∧ Ord.getD j 0 < n ∧ validB (permAt Pm j) = true
  | 0, i, met, h, j, h1, h2 => by omega
  | k + 1, i, met, h, j, h1, h2 => by
    unfold ordF at h
    split at h
    · cases h
    split at h
    · cases h
    split at h
    · cases h
    rename_i q1 q2 q3
    by_cases hj : j = i
    · subst hj
      exact ⟨by omega, by omega, by simpa using q3⟩
    · exact ordF_range h j (by omega) (by omega)

/-- the same without the permutations -/
def ordG (Ord : List Int) (n : Nat) : Nat → Nat → List Bool → Bool
  | 0, _, _ => true
  | k + 1, i, met => if Ord.getD i 0 < 0 ∨ (n : Int) ≤ Ord.getD i 0 then false else if met.getD (Ord.getD i 0).toNat false = true then false else ordG Ord n k (i + 1) (met.set (Ord.getD i 0).toNat true)
theorem ordF_G {Ord Pm : List Int} {n : Nat} : ∀ {k i : Nat} {met : List Bool}, (∀ j, i ≤ j → j < i + k → validB (permAt Pm j) = true) → ordF Ord Pm n k i met = ordG Ord n k i met
  | 0, _, _, _ => rfl
  | k + 1, i, met, h => by
    unfold ordF ordG
    rw [ordF_G (k := k) (i := i + 1) (fun j h1 h2 => h j (by omega) (by omega))]
    have := h i (by omega) (by omega)
    simp [this]

/-- where the tetrahedra go -/
def backL (Ord : List Int) : Nat → Nat → List Int → List Int
  | 0, _, l => l
  | k + 1, i, l => backL Ord k (i + 1) (l.set (Ord.getD i 0).toNat i)
theorem backL_length (Ord : List Int) : ∀ (k i : Nat) (l : List Int), (backL Ord k i l).length = l.length
  | 0, _, _ => rfl
  | k + 1, i, l => by rw [backL, backL_length Ord k]; simp
theorem backL_range (Ord : List Int) {n : Nat} : ∀ (k i : Nat) (l : List Int), i + k ≤ n → (∀ x ∈ l, 0 ≤ x ∧ x < (n : Int)) → ∀ x ∈ backL Ord k i l, 0 ≤ x ∧ x < (n : Int)
  | 0, _, _, _, h => h
  | k + 1, i, l, hn, h => by
    refine backL_range Ord k (i + 1) _ (by omega) ?_
    intro x hx
    rcases List.mem_or_eq_of_mem_set hx with h1 | h1
    · exact h x h1
    · omega
def back (Ord : List Int) (n : Nat) : List Int := backL Ord n 0 (List.replicate n 0)
theorem back_length (Ord : List Int) (n : Nat) : (back Ord n).length = n := by simp [back, backL_length]
theorem back_range (Ord : List Int) {n : Nat} (hn : 0 < n) (i : Nat) (hi : i < n) : 0 ≤ (back Ord n).getD i 0 ∧ (back Ord n).getD i 0 < n := by
  have := backL_range Ord n 0 (List.replicate n 0) (n := n) (by omega) (fun x hx => by
    have := List.eq_of_mem_replicate hx; omega)
  have hl : i < (back Ord n).length := by rw [back_length]; exact hi
  have h2 := this (back Ord n)[i] (List.getElem_mem hl)
  simpa [List.getD, List.getElem?_eq_getElem hl] using h2

/-- a face of the renumbered gluing -/
def rnF (Gl Ord Pm Bk : List Int) (i f : Nat) : List Int :=
  if tetL (faceL Gl (Ord.getD i 0).toNat ((permAt Pm i).getD f 0).toNat) < 0 then noneL else
    Bk.getD (tetL (faceL Gl (Ord.getD i 0).toNat ((permAt Pm i).getD f 0).toNat)).toNat 0 ::
      comp (inv (permAt Pm (Bk.getD (tetL (faceL Gl (Ord.getD i 0).toNat ((permAt Pm i).getD f 0).toNat)).toNat 0).toNat))
        (comp (permL (faceL Gl (Ord.getD i 0).toNat ((permAt Pm i).getD f 0).toNat)) (permAt Pm i))
/-- the rows of the renumbered gluing -/
def rnL (Gl Ord Pm Bk : List Int) : Nat → List Int
  | 0 => []
  | i + 1 => rnL Gl Ord Pm Bk i ++ rowTo (rnF Gl Ord Pm Bk i) 4

/-- what is known of a gluing and a renumbering of it -/
structure RnOk (Gl Ord Pm : List Int) (n : Nat) : Prop where
  gl : Gl.length = n * 20
  ol : Ord.length = n
  pl : Pm.length = n * 4
  ok : okAll Gl n = true
  rng : ∀ j, j < n → 0 ≤ Ord.getD j 0 ∧ Ord.getD j 0 < n ∧ validB (permAt Pm j) = true

theorem RnOk.p24 {Gl Ord Pm : List Int} {n : Nat} (h : RnOk Gl Ord Pm n) {j : Nat} (hj : j < n) : permAt Pm j ∈ Ab.p24 := mem24 (permAt_length h.pl hj) (h.rng j hj).2.2

theorem rnF_length {Gl Ord Pm : List Int} {n : Nat} (h : RnOk Gl Ord Pm n) {i : Nat} (hi : i < n) {f : Nat} (hf : f < 4) : (rnF Gl Ord Pm (back Ord n) i f).length = 5 := by
  unfold rnF
  split
  · rfl
  · rw [List.length_cons, comp_length, comp_length, permAt_length h.pl hi]
theorem rnL_length {Gl Ord Pm : List Int} {n : Nat} (h : RnOk Gl Ord Pm n) : ∀ i, i ≤ n → (rnL Gl Ord Pm (back Ord n) i).length = i * 20
  | 0, _ => rfl
  | i + 1, hi => by
    rw [rnL, List.length_append, rnL_length h i (by omega), rowTo_length (fun f hf => rnF_length h (by omega) hf) 4 (by omega)]; omega

/-- whether gluings are equal -/
def sameB2 (n m : Nat) (Gl Hl : List Int) : Bool := decide (n = m) && decide (Gl = Hl)

/-- what Renumber answers -/
def rnE (Gl Ord Pm : List Int) (n a b : Nat) : Int := if n ≤ 1000 ∧ okAll Gl n = true then (if ordB Ord Pm a b n = true then 0 else 1) else 7
def rnN (Gl Ord Pm : List Int) (n a b : Nat) : Nat := if n ≤ 1000 ∧ okAll Gl n = true ∧ ordB Ord Pm a b n = true then n else 0
def rnR (Gl Ord Pm : List Int) (n a b : Nat) : List Int := if n ≤ 1000 ∧ okAll Gl n = true ∧ ordB Ord Pm a b n = true then rnL Gl Ord Pm (back Ord n) n else []

theorem ordB_iff {Ord Pm : List Int} {a b n : Nat} : ordB Ord Pm a b n = true ↔ a = n ∧ b = n ∧ ordF Ord Pm n n 0 (List.replicate n false) = true := by
  simp [ordB, and_assoc]
theorem RnOk.of {Gl Ord Pm : List Int} {n a b : Nat} (hG : Gl.length = n * 20) (hO : Ord.length = a) (hP : Pm.length = b * 4) (h2 : okAll Gl n = true) (h3 : ordB Ord Pm a b n = true) : RnOk Gl Ord Pm n := by
  obtain ⟨rfl, rfl, h4⟩ := ordB_iff.1 h3
  exact ⟨hG, hO, hP, h2, fun j hj => ordF_range h4 j (by omega) (by omega)⟩

theorem bldL20 (R : List Int) (hR : R.length = 20) : bldL [(.int .i64 0), (.int .i64 0), (.int .i64 0), (.int .i64 0), (.int .i64 0), (.int .i64 0), (.int .i64 0), (.int .i64 0), (.int .i64 0), (.int .i64 0), (.int .i64 0), (.int .i64 0), (.int .i64 0), (.int .i64 0), (.int .i64 0), (.int .i64 0), (.int .i64 0), (.int .i64 0), (.int .i64 0), (.int .i64 0)] [(0, 20, av R)] = some (ints R) := by
  have h1 : Nat.beq (av R).cells.size 20 = true := by simp [hR]
  show cond (Nat.beq (av R).cells.size 20 && Nat.ble (0 + 20) 20) (some (splice _ 0 (av R).cells.toList)) none = _
  rw [h1]
  simp only [Bool.true_and, av_cells]
  show some (splice _ 0 (ints R)) = _
  unfold splice
  rw [List.take_zero, List.nil_append, List.drop_of_length_le (by simp [hR]), List.append_nil]

@[simp] theorem st1_agg (h : FH) (i o : Nat) (cs : List Value) (v : Value) (ho : o < cs.length) (hv : isFlat v = true) : stN (newB h i cs) 1 (.pointer (some ⟨i, o, none⟩)) (.agg #[v]) = some (newB h i (cs.set o v)) := by
  rw [stN_newB_same h 1 i o cs (.agg #[v]) rfl (by omega) (by simp [Value.cells, hv])]
  show some (newB h i (splice cs o [v])) = _
  rw [splice_one cs o _ ho]
@[simp] theorem st1_sl (h : FH) (i o : Nat) (cs : List Value) (a : Option Addr) (n k : Nat) (ho : o < cs.length) : stN (newB h i cs) 1 (.pointer (some ⟨i, o, none⟩)) (.slice a n k) = some (newB h i (cs.set o (.slice a n k))) := by
  rw [stN_newB_same h 1 i o cs (.slice a n k) rfl (by omega) rfl]
  show some (newB h i (splice cs o [.slice a n k])) = _
  rw [splice_one cs o _ ho]
theorem st1_own {h : FH} {b o : Nat} {op : Option Nat} {cs : List Value} {v : Value} (hg : h.f b = some (.cells false op cs)) (ho : o < cs.length) (hf : isFlat v = true) :
    stN h 1 (.pointer (some ⟨b, o, none⟩)) (.agg #[v]) = some (HeapC.set h b (.cells false op (cs.set o v))) := by
  have h1 : Nat.ble (o + 1) cs.length = true := Nat.ble_eq_true_of_le (by omega)
  have hg' : HeapC.get h b = some (.cells false op cs) := hg
  simp [stN, asPtr, Value.cells, wrCells, hg', h1, hf, splice_one cs o v ho]
theorem ldN1_own {h : FH} {b : Nat} {cs : List Value} {v : Value} (hg : Holds h b (v :: cs)) : ldN h 1 (.pointer (some ⟨b, 0, none⟩)) = some (.agg #[v]) := by
  rw [ldN_holds hg (by simp)]; simp
/-- what Renumber answers with -/
def RnPost (h : FH) (c : Nat) (Gl Ord Pm : List Int) (n a b : Nat) (r : Rt FH) : Prop :=
  r.e = .ret ∧ r.df = [] ∧ c ≤ r.c ∧ Same c h r.h ∧ ∃ v, r.vs = [.tuple #[.agg #[v], .int .i64 (rnE Gl Ord Pm n a b)]] ∧ SlI r.h r.c v 20 (rnN Gl Ord Pm n a b) (rnR Gl Ord Pm n a b) ∧ (0 < rnN Gl Ord Pm n a b → 256 * c ≤ blkOf v)

theorem RnPost.callF {o : Orc FH} {g : FuncId} {args : List Value} {h : FH} {c : Nat} {Gl Ord Pm : List Int} {n a b : Nat} (e : Ans (o (.fn g) args h c []) (RnPost h c Gl Ord Pm n a b)) :
    ∃ v h' c', callF o g args h c = some (.tuple #[.agg #[v], .int .i64 (rnE Gl Ord Pm n a b)], h', c') ∧ c ≤ c' ∧ Same c h h' ∧ SlI h' c' v 20 (rnN Gl Ord Pm n a b) (rnR Gl Ord Pm n a b) ∧ (0 < rnN Gl Ord Pm n a b → 256 * c ≤ blkOf v) := by
  obtain ⟨r, e1, r1, r2, r3, r4, v, r5, r6, r7⟩ := e
  refine ⟨v, r.h, r.c, ?_, r3, r4, r6, r7⟩
  simp only [Ab.callF, e1, Option.bind_some, r5]

/-- what Check of isomorphisms says -/
def isoE (Gl Hl Ord Pm : List Int) (n m a b : Nat) : Int :=
  if n ≤ 1000 ∧ okAll Gl n = true then (if m ≤ 1000 ∧ okAll Hl m = true then
    (if rnE Gl Ord Pm n a b = 0 then (if sameB2 (rnN Gl Ord Pm n a b) m (rnR Gl Ord Pm n a b) Hl = true then 0 else 30) else 30) else 7) else 7
end Go.Ab

namespace Go.Proofs.Ytemkjcpfgmbibaa
open Go Go.Ab Go.Proofs
set_option maxRecDepth 100000
set_option linter.unusedVariables false
set_option linter.unusedSimpArgs false

theorem isOrder_loop (so sp : Value) (n : Nat) (Ord Pm : List Int) (h : FH) (bm c : Nat) (hbm : bm < 256 * c) (cm : Nat) (hcm : cm ≤ c) (hbm2 : 256 * cm ≤ bm) (h1 : SlI h cm so 1 n Ord) (h2 : SlI h cm sp 4 n Pm) (hn : n ≤ 1000000) (df : List Nat) :
    ∀ (k i : Nat) (met : List Bool), i + k = n → met.length = n →
    Ans (G (f48_k48000 none) [so, sp, .int .i64 n, .bool false, .slice (some ⟨bm, 0, none⟩) n n, .int .i64 i] (newB h bm (bools met)) c df) fun r => r.c = c ∧ r.df = df ∧ (∃ m', r.h = newB h bm (bools m')) ∧
      (if ordF Ord Pm n k i met = true then r.e = .exit 0 else r.e = .ret ∧ r.v 3 = .bool false) := by
  intro k
  have ov1 := (h1.mono hcm).okV
  have ov2 := (h2.mono hcm).okV
  have b1 := h1.blk
  have b2 := h2.blk
  induction k with
  | zero =>
    intro i met hi hm
    refine Ans.loop (fun q r => f48_N48000) (fun q => f48_Z48000) ?_
    unfold f48_L48000
    repeat' (first
     | ((with_reducible first | refine Ans.bz ?_ | refine Ans.r1 ?_ | refine Ans.pkT ?_ | refine Ans.pkF ?_); try dsimp only [v_zero, v_succ])
     | (with_reducible first | refine Ans.btL ?_ | refine Ans.bfL ?_ | refine Ans.gyT ?_ | refine Ans.gyF ?_ | refine Ans.gyG ?_ | refine Ans.bb ?_ | refine Ans.bc ?_ | refine Ans.ba ?_)
     | ((with_reducible first | refine Ans.lsT ?_ ?_ | refine Ans.leT ?_ ?_ | refine Ans.grT ?_ ?_ | refine Ans.geT ?_ ?_ | refine Ans.eqT ?_ ?_ | refine Ans.neT ?_ ?_); (focus omega))
     | ((with_reducible first | refine Ans.lsF ?_ ?_ | refine Ans.leF ?_ ?_ | refine Ans.grF ?_ ?_ | refine Ans.geF ?_ ?_ | refine Ans.eqF ?_ ?_ | refine Ans.neF ?_ ?_); (focus omega))
     | (with_reducible first | refine Ans.lsS (fun _ => ?_) (fun _ => ?_) | refine Ans.leS (fun _ => ?_) (fun _ => ?_) | refine Ans.grS (fun _ => ?_) (fun _ => ?_) | refine Ans.geS (fun _ => ?_) (fun _ => ?_) | refine Ans.eqS (fun _ => ?_) (fun _ => ?_) | refine Ans.neS (fun _ => ?_) (fun _ => ?_))
     | ((with_reducible first | refine Ans.addN ?_ ?_ | refine Ans.add ?_ ?_ | refine Ans.sub ?_ ?_ | refine Ans.mul ?_ ?_); (focus omega))
     | ((with_reducible first | refine Ans.ct ?_ ?_); (focus (simp (disch := (first | omega | with_reducible assumption | (simp <;> omega) | fail)) []; done)))
     | ((with_reducible first | refine Ans.cf ?_ ?_); (focus (simp (disch := (first | omega | with_reducible assumption | (simp <;> omega) | fail)) []; done)))
     | (refine Ans.step (by simp (disch := (first | omega | with_reducible assumption | (simp <;> omega) | fail)) [-List.getD_eq_getElem?_getD] <;> rfl) ?_; try dsimp only [v_zero, v_succ])
     | fail)
    refine Ans.exit0 (by simp (disch := (first | omega | assumption)) [ov1, ov2]) (by simp (disch := (first | omega | assumption)) []) ⟨rfl, rfl, ⟨_, rfl⟩, by simp [ordF]⟩
  | succ k ih =>
    intro i met hi hm
    have hpl := permAt_length (i := i) h2.1 (by omega)
    have l1 := h1.rdi i (by omega) (by omega)
    have l2 := h2.perm i (by omega) (by omega)
    simp only [Int.toNat_natCast] at l1 l2
    rw [gi_nat] at l1
    unfold ordF
    obtain ⟨x, hx⟩ : ∃ x, Ord.getD i 0 = x := ⟨_, rfl⟩
    rw [hx] at l1 ⊢
    have hlm : 0 ≤ x → x < n → ld1 (newB h bm (bools met)) (.pointer (some ⟨bm, x.toNat, none⟩)) = some (.bool (met.getD x.toNat false)) := fun _ _ => by
      rw [ld1_newB_same, bools_get _ _ (by omega)]
    have hst : 0 ≤ x → x < n → stN (newB h bm (bools met)) 1 (.pointer (some ⟨bm, x.toNat, none⟩)) (.bool true) = some (newB h bm (bools (met.set x.toNat true))) := fun _ _ => by
      rw [st1_bool _ _ _ _ _ (by rw [bools_length]; omega), bools_set]
    refine Ans.loop (fun q r => f48_N48000) (fun q => f48_Z48000) ?_
    unfold f48_L48000
    repeat' (first
     | ((with_reducible first | refine Ans.bz ?_ | refine Ans.r1 ?_ | refine Ans.pkT ?_ | refine Ans.pkF ?_); try dsimp only [v_zero, v_succ])
     | (with_reducible first | refine Ans.btL ?_ | refine Ans.bfL ?_ | refine Ans.gyT ?_ | refine Ans.gyF ?_ | refine Ans.gyG ?_ | refine Ans.bb ?_ | refine Ans.bc ?_ | refine Ans.ba ?_)
     | ((with_reducible first | refine Ans.lsT ?_ ?_ | refine Ans.leT ?_ ?_ | refine Ans.grT ?_ ?_ | refine Ans.geT ?_ ?_ | refine Ans.eqT ?_ ?_ | refine Ans.neT ?_ ?_); (focus omega))
     | ((with_reducible first | refine Ans.lsF ?_ ?_ | refine Ans.leF ?_ ?_ | refine Ans.grF ?_ ?_ | refine Ans.geF ?_ ?_ | refine Ans.eqF ?_ ?_ | refine Ans.neF ?_ ?_); (focus omega))
     | (with_reducible first | refine Ans.lsS (fun _ => ?_) (fun _ => ?_) | refine Ans.leS (fun _ => ?_) (fun _ => ?_) | refine Ans.grS (fun _ => ?_) (fun _ => ?_) | refine Ans.geS (fun _ => ?_) (fun _ => ?_) | refine Ans.eqS (fun _ => ?_) (fun _ => ?_) | refine Ans.neS (fun _ => ?_) (fun _ => ?_))
     | ((with_reducible first | refine Ans.addN ?_ ?_ | refine Ans.add ?_ ?_ | refine Ans.sub ?_ ?_ | refine Ans.mul ?_ ?_); (focus omega))
     | ((with_reducible first | refine Ans.ct ?_ ?_); (focus (simp (disch := (first | omega | with_reducible assumption | (simp <;> omega) | fail)) [h1.ixs1, h2.ixs, l1, l2, hst, hpl]; done)))
     | ((with_reducible first | refine Ans.cf ?_ ?_); (focus (simp (disch := (first | omega | with_reducible assumption | (simp <;> omega) | fail)) [h1.ixs1, h2.ixs, l1, l2, hst, hpl]; done)))
     | ((with_reducible refine Ans.ldT (by simp (disch := (first | omega | with_reducible assumption | (simp <;> omega) | fail)) only [hlm, callF_validR _ hpl] <;> rfl) ?_ ?_); (focus (with_reducible assumption)); try dsimp only [v_zero, v_succ])
     | ((with_reducible refine Ans.cT (by simp (disch := (first | omega | with_reducible assumption | (simp <;> omega) | fail)) only [hlm, callF_validR _ hpl] <;> rfl) ?_ ?_); (focus (with_reducible assumption)); try dsimp only [v_zero, v_succ])
     | ((with_reducible refine Ans.ldF (by simp (disch := (first | omega | with_reducible assumption | (simp <;> omega) | fail)) only [hlm, callF_validR _ hpl] <;> rfl) ?_ ?_); (focus (with_reducible assumption)); try dsimp only [v_zero, v_succ])
     | ((with_reducible refine Ans.cF (by simp (disch := (first | omega | with_reducible assumption | (simp <;> omega) | fail)) only [hlm, callF_validR _ hpl] <;> rfl) ?_ ?_); (focus (with_reducible assumption)); try dsimp only [v_zero, v_succ])
     | ((with_reducible refine Ans.ldS (by simp (disch := (first | omega | with_reducible assumption | (simp <;> omega) | fail)) only [hlm, callF_validR _ hpl] <;> rfl) (fun _ => ?_) (fun _ => ?_)) <;> try dsimp only [v_zero, v_succ])
     | ((with_reducible refine Ans.cS (by simp (disch := (first | omega | with_reducible assumption | (simp <;> omega) | fail)) only [hlm, callF_validR _ hpl] <;> rfl) (fun _ => ?_) (fun _ => ?_)) <;> try dsimp only [v_zero, v_succ])
     | (refine Ans.step (by simp (disch := (first | omega | with_reducible assumption | (simp <;> omega) | fail)) [h1.ixs1, h2.ixs, l1, l2, hst, hpl, -List.getD_eq_getElem?_getD] <;> rfl) ?_; try dsimp only [v_zero, v_succ])
     | fail)
    · (refine Ans.ret0 ?_ ?_ ?_; (focus (simp (disch := (first | omega | with_reducible assumption | (simp <;> omega) | fail)) [ov1, ov2, hbm]; done)); (focus (simp (disch := (first | omega | with_reducible assumption | (simp <;> omega) | fail)) [ov1, ov2, hbm]; done))); exact ⟨rfl, rfl, ⟨_, rfl⟩, by simp [*, -List.getD_eq_getElem?_getD]⟩
    · (refine Ans.ret0 ?_ ?_ ?_; (focus (simp (disch := (first | omega | with_reducible assumption | (simp <;> omega) | fail)) [ov1, ov2, hbm]; done)); (focus (simp (disch := (first | omega | with_reducible assumption | (simp <;> omega) | fail)) [ov1, ov2, hbm]; done))); exact ⟨rfl, rfl, ⟨_, rfl⟩, by simp [*, -List.getD_eq_getElem?_getD]⟩
    · (refine Ans.ret0 ?_ ?_ ?_; (focus (simp (disch := (first | omega | with_reducible assumption | (simp <;> omega) | fail)) [ov1, ov2, hbm]; done)); (focus (simp (disch := (first | omega | with_reducible assumption | (simp <;> omega) | fail)) [ov1, ov2, hbm]; done))); exact ⟨rfl, rfl, ⟨_, rfl⟩, by simp [*, -List.getD_eq_getElem?_getD]⟩
    · (refine Ans.nextB2 (B := newB h bm (bools (met.set x.toNat true))) ?_ ?_ ?_ ?_; (focus (simp (disch := (first | omega | with_reducible assumption | (simp <;> omega) | fail)) [ov1, ov2, hbm]; done)); (focus (simp (disch := (first | omega | with_reducible assumption | (simp <;> omega) | fail)) [ov1, ov2, hbm]; done)); exact Upto.both (OkVs.bools _ _) (Upto.refl _ _) hbm)
      obtain ⟨r, hr, hq⟩ := ih (i + 1) (met.set x.toNat true) (by omega) (by simpa using hm)
      exact ⟨r, hr, by simpa [*, -List.getD_eq_getElem?_getD] using hq⟩
    · (refine Ans.ret0 ?_ ?_ ?_; (focus (simp (disch := (first | omega | with_reducible assumption | (simp <;> omega) | fail)) [ov1, ov2, hbm]; done)); (focus (simp (disch := (first | omega | with_reducible assumption | (simp <;> omega) | fail)) [ov1, ov2, hbm]; done))); exact ⟨rfl, rfl, ⟨_, rfl⟩, by simp [*, -List.getD_eq_getElem?_getD]⟩
theorem isOrder_sp (so sp : Value) (a b n : Nat) (Ord Pm : List Int) (h : FH) (c : Nat) (df : List Nat) (h1 : SlI h c so 1 a Ord) (h2 : SlI h c sp 4 b Pm) (hn : n ≤ 1000000) :
    G (.fn 48) [so, sp, .int .i64 n] h c df = some { e := .ret, vs := [.bool (ordB Ord Pm a b n)], h := h, c := c, df := [] } := by
  refine pure_of' (fun r e => f48_go e) (by simp) ?_
  unfold f48_S
  have l1 := h1.len
  have l2 := h2.len
  have hl := isOrder_loop so sp n Ord Pm h (256 * (c + 1 + 1) + 1) (c + 1 + 1 + 1 + 1) (by omega) c (by omega) (by omega)
  repeat' (first
   | ((with_reducible first | refine Ans.bz ?_ | refine Ans.r1 ?_ | refine Ans.pkT ?_ | refine Ans.pkF ?_); try dsimp only [v_zero, v_succ])
   | (with_reducible first | refine Ans.btL ?_ | refine Ans.bfL ?_ | refine Ans.gyT ?_ | refine Ans.gyF ?_ | refine Ans.gyG ?_ | refine Ans.bb ?_ | refine Ans.bc ?_ | refine Ans.ba ?_)
   | ((with_reducible first | refine Ans.lsT ?_ ?_ | refine Ans.leT ?_ ?_ | refine Ans.grT ?_ ?_ | refine Ans.geT ?_ ?_ | refine Ans.eqT ?_ ?_ | refine Ans.neT ?_ ?_); (focus omega))
   | ((with_reducible first | refine Ans.lsF ?_ ?_ | refine Ans.leF ?_ ?_ | refine Ans.grF ?_ ?_ | refine Ans.geF ?_ ?_ | refine Ans.eqF ?_ ?_ | refine Ans.neF ?_ ?_); (focus omega))
   | (with_reducible first | refine Ans.lsS (fun _ => ?_) (fun _ => ?_) | refine Ans.leS (fun _ => ?_) (fun _ => ?_) | refine Ans.grS (fun _ => ?_) (fun _ => ?_) | refine Ans.geS (fun _ => ?_) (fun _ => ?_) | refine Ans.eqS (fun _ => ?_) (fun _ => ?_) | refine Ans.neS (fun _ => ?_) (fun _ => ?_))
   | ((with_reducible first | refine Ans.addN ?_ ?_ | refine Ans.add ?_ ?_ | refine Ans.sub ?_ ?_ | refine Ans.mul ?_ ?_); (focus omega))
   | ((with_reducible first | refine Ans.ct ?_ ?_); (focus (simp (disch := (first | omega | with_reducible assumption | (simp <;> omega) | fail)) [l1, l2, mkS_bool]; done)))
   | ((with_reducible first | refine Ans.cf ?_ ?_); (focus (simp (disch := (first | omega | with_reducible assumption | (simp <;> omega) | fail)) [l1, l2, mkS_bool]; done)))
   | (refine Ans.step (by simp (disch := (first | omega | with_reducible assumption | (simp <;> omega) | fail)) [l1, l2, mkS_bool, -List.getD_eq_getElem?_getD] <;> rfl) ?_; try dsimp only [v_zero, v_succ])
   | fail)
  · exact Ans.pure (by simp [ordB, *]; omega) (by simp)
  · exact Ans.pure (by simp [ordB, *]; omega) (by simp)
  obtain rfl : a = n := by omega
  obtain rfl : b = a := by omega
  obtain ⟨⟨re, rv, rh, rc, rd⟩, hr, r1, r2, ⟨m', r3⟩, r4⟩ := hl h1 h2 hn [] b 0 (List.replicate b false) (by omega) (by simp)
  simp only at r1 r2 r3 r4
  subst r1 r2 r3
  simp only [Int.ofNat_eq_natCast, Int.cast_ofNat_Int] at hr
  cases hb : ordF Ord Pm b b 0 (List.replicate b false) with
  | true =>
    rw [hb, if_pos rfl] at r4
    subst r4
    repeat' (first
     | ((with_reducible first | refine Ans.bz ?_ | refine Ans.r1 ?_ | refine Ans.pkT ?_ | refine Ans.pkF ?_); try dsimp only [v_zero, v_succ])
     | (with_reducible first | refine Ans.btL ?_ | refine Ans.bfL ?_ | refine Ans.gyT ?_ | refine Ans.gyF ?_ | refine Ans.gyG ?_ | refine Ans.bb ?_ | refine Ans.bc ?_ | refine Ans.ba ?_)
     | ((with_reducible first | refine Ans.lsT ?_ ?_ | refine Ans.leT ?_ ?_ | refine Ans.grT ?_ ?_ | refine Ans.geT ?_ ?_ | refine Ans.eqT ?_ ?_ | refine Ans.neT ?_ ?_); (focus omega))
     | ((with_reducible first | refine Ans.lsF ?_ ?_ | refine Ans.leF ?_ ?_ | refine Ans.grF ?_ ?_ | refine Ans.geF ?_ ?_ | refine Ans.eqF ?_ ?_ | refine Ans.neF ?_ ?_); (focus omega))
     | (with_reducible first | refine Ans.lsS (fun _ => ?_) (fun _ => ?_) | refine Ans.leS (fun _ => ?_) (fun _ => ?_) | refine Ans.grS (fun _ => ?_) (fun _ => ?_) | refine Ans.geS (fun _ => ?_) (fun _ => ?_) | refine Ans.eqS (fun _ => ?_) (fun _ => ?_) | refine Ans.neS (fun _ => ?_) (fun _ => ?_))
     | ((with_reducible first | refine Ans.addN ?_ ?_ | refine Ans.add ?_ ?_ | refine Ans.sub ?_ ?_ | refine Ans.mul ?_ ?_); (focus omega))
     | ((with_reducible first | refine Ans.ct ?_ ?_); (focus (simp (disch := (first | omega | with_reducible assumption | (simp <;> omega) | fail)) [hr]; done)))
     | ((with_reducible first | refine Ans.cf ?_ ?_); (focus (simp (disch := (first | omega | with_reducible assumption | (simp <;> omega) | fail)) [hr]; done)))
     | (refine Ans.step (by simp (disch := (first | omega | with_reducible assumption | (simp <;> omega) | fail)) [hr, -List.getD_eq_getElem?_getD] <;> rfl) ?_; try dsimp only [v_zero, v_succ])
     | fail)
    exact Ans.pure (by simp [ordB, hb]) (by simp (disch := omega))
  | false =>
    rw [hb, if_neg (by simp)] at r4
    obtain ⟨rfl, r5⟩ := r4
    repeat' (first
     | ((with_reducible first | refine Ans.bz ?_ | refine Ans.r1 ?_ | refine Ans.pkT ?_ | refine Ans.pkF ?_); try dsimp only [v_zero, v_succ])
     | (with_reducible first | refine Ans.btL ?_ | refine Ans.bfL ?_ | refine Ans.gyT ?_ | refine Ans.gyF ?_ | refine Ans.gyG ?_ | refine Ans.bb ?_ | refine Ans.bc ?_ | refine Ans.ba ?_)
     | ((with_reducible first | refine Ans.lsT ?_ ?_ | refine Ans.leT ?_ ?_ | refine Ans.grT ?_ ?_ | refine Ans.geT ?_ ?_ | refine Ans.eqT ?_ ?_ | refine Ans.neT ?_ ?_); (focus omega))
     | ((with_reducible first | refine Ans.lsF ?_ ?_ | refine Ans.leF ?_ ?_ | refine Ans.grF ?_ ?_ | refine Ans.geF ?_ ?_ | refine Ans.eqF ?_ ?_ | refine Ans.neF ?_ ?_); (focus omega))
     | (with_reducible first | refine Ans.lsS (fun _ => ?_) (fun _ => ?_) | refine Ans.leS (fun _ => ?_) (fun _ => ?_) | refine Ans.grS (fun _ => ?_) (fun _ => ?_) | refine Ans.geS (fun _ => ?_) (fun _ => ?_) | refine Ans.eqS (fun _ => ?_) (fun _ => ?_) | refine Ans.neS (fun _ => ?_) (fun _ => ?_))
     | ((with_reducible first | refine Ans.addN ?_ ?_ | refine Ans.add ?_ ?_ | refine Ans.sub ?_ ?_ | refine Ans.mul ?_ ?_); (focus omega))
     | ((with_reducible first | refine Ans.ct ?_ ?_); (focus (simp (disch := (first | omega | with_reducible assumption | (simp <;> omega) | fail)) [hr, r5]; done)))
     | ((with_reducible first | refine Ans.cf ?_ ?_); (focus (simp (disch := (first | omega | with_reducible assumption | (simp <;> omega) | fail)) [hr, r5]; done)))
     | (refine Ans.step (by simp (disch := (first | omega | with_reducible assumption | (simp <;> omega) | fail)) [hr, r5, -List.getD_eq_getElem?_getD] <;> rfl) ?_; try dsimp only [v_zero, v_succ])
     | fail)
    exact Ans.pure (by rw [r5]; simp [ordB, hb]) (by simp (disch := omega))
end Go.Proofs.Ytemkjcpfgmbibaa

namespace Go.Proofs.Ytemkjcpfgmbibaa
open Go Go.Ab Go.Proofs
set_option maxRecDepth 100000
set_option linter.unusedVariables false
set_option linter.unusedSimpArgs false

theorem eqF19 (a0 a1 a2 a3 a4 b0 b1 b2 b3 b4 : Int) : aEq P 19 72 (av [a0, a1, a2, a3, a4]) (av [b0, b1, b2, b3, b4]) =
    (cond (a0 == b0) ((cond (a1 == b1) (cond (a2 == b2) (cond (a3 == b3) (cond (a4 == b4) (some true) (some false)) (some false)) (some false)) (some false)).bind fun r => cond r (some true) (some false)) (some false)) := by kernel_rfl
theorem eqF (x y : List Int) (hx : x.length = 5) (hy : y.length = 5) : aEq P 19 72 (av x) (av y) = some (decide (x = y)) := by
  match x, hx, y, hy with
  | [a0, a1, a2, a3, a4], _, [b0, b1, b2, b3, b4], _ =>
    rw [eqF19]
    by_cases h0 : a0 = b0 <;> by_cases h1 : a1 = b1 <;> by_cases h2 : a2 = b2 <;> by_cases h3 : a3 = b3 <;> by_cases h4 : a4 = b4 <;> simp [h0, h1, h2, h3, h4, Bool.cond_eq_ite]
theorem part72 (xs : List Value) (o : Nat) : aPart P 72 xs o = partN xs true o 5 := by kernel_rfl
theorem part_ints (x : List Int) (o : Nat) (h : o + 5 ≤ x.length) : aPart P 72 (ints x) o = some (av ((x.drop o).take 5)) := by
  have : Nat.ble (o + 5) (ints x).length = true := Nat.ble_eq_true_of_le (by simpa using h)
  rw [part72]
  simp only [partN, cond_true, this, ints_drop, ints_take]
  rfl
theorem eqR0 (x y : List Value) : aBinOp0 P .eql 73 (.agg x.toArray) (.agg y.toArray) = (aEqEs (aEq P 19 72) P 72 5 x y [0, 1, 2, 3]).bind fun b => some (.bool b) := by kernel_rfl
theorem neR0 (x y : List Value) : aBinOp0 P .neq 73 (.agg x.toArray) (.agg y.toArray) = (aEqEs (aEq P 19 72) P 72 5 x y [0, 1, 2, 3]).bind fun b => some (.bool (!b)) := by kernel_rfl
theorem eqRows (x y : List Int) (hx : x.length = 20) (hy : y.length = 20) : aEqEs (aEq P 19 72) P 72 5 (ints x) (ints y) [0, 1, 2, 3] = some (decide (x = y)) := by
  have e : x = y ↔ (x.drop 0).take 5 = (y.drop 0).take 5 ∧ (x.drop 5).take 5 = (y.drop 5).take 5 ∧ (x.drop 10).take 5 = (y.drop 10).take 5 ∧ (x.drop 15).take 5 = (y.drop 15).take 5 := by
    constructor
    · rintro rfl; exact ⟨rfl, rfl, rfl, rfl⟩
    · rintro ⟨h1, h2, h3, h4⟩
      have s : ∀ l : List Int, l.length = 20 → l = (l.drop 0).take 5 ++ ((l.drop 5).take 5 ++ ((l.drop 10).take 5 ++ (l.drop 15).take 5)) := fun l hl => by
        match l, hl with
        | [_, _, _, _, _, _, _, _, _, _, _, _, _, _, _, _, _, _, _, _], _ => rfl
      rw [s x hx, s y hy, h1, h2, h3, h4]
  have l : ∀ (z : List Int) (o : Nat), z.length = 20 → o ≤ 15 → ((z.drop o).take 5).length = 5 := fun z o hz ho => by simp; omega
  simp only [aEqEs]
  rw [part_ints x (0 * 5) (by omega), part_ints y (0 * 5) (by omega), part_ints x (1 * 5) (by omega), part_ints y (1 * 5) (by omega), part_ints x (2 * 5) (by omega), part_ints y (2 * 5) (by omega), part_ints x (3 * 5) (by omega), part_ints y (3 * 5) (by omega)]
  simp only [Option.bind_some]
  rw [eqF _ _ (l x _ hx (by omega)) (l y _ hy (by omega)), eqF _ _ (l x _ hx (by omega)) (l y _ hy (by omega)), eqF _ _ (l x _ hx (by omega)) (l y _ hy (by omega)), eqF _ _ (l x _ hx (by omega)) (l y _ hy (by omega))]
  simp only [Option.bind_some]
  rw [show (0 * 5 : Nat) = 0 from rfl, show (1 * 5 : Nat) = 5 from rfl, show (2 * 5 : Nat) = 10 from rfl, show (3 * 5 : Nat) = 15 from rfl]
  by_cases q1 : (x.drop 0).take 5 = (y.drop 0).take 5 <;> by_cases q2 : (x.drop 5).take 5 = (y.drop 5).take 5 <;> by_cases q3 : (x.drop 10).take 5 = (y.drop 10).take 5 <;> by_cases q4 : (x.drop 15).take 5 = (y.drop 15).take 5 <;>
    simp only [e, q1, q2, q3, q4, decide_true, decide_false, cond_true, cond_false, and_true, and_false, and_self, true_and, false_and]
theorem eq_row (x y : List Int) (hx : x.length = 20) (hy : y.length = 20) : aBinOp P .eql 73 (av x) (av y) = some (.bool (decide (x = y))) := by
  rw [aBinOp_eq]
  exact (eqR0 (ints x) (ints y)).trans (by rw [eqRows x y hx hy]; rfl)
theorem neq_row (x y : List Int) (hx : x.length = 20) (hy : y.length = 20) : aBinOp P .neq 73 (av x) (av y) = some (.bool (!decide (x = y))) := by
  rw [aBinOp_eq]
  exact (neR0 (ints x) (ints y)).trans (by rw [eqRows x y hx hy]; rfl)
end Go.Proofs.Ytemkjcpfgmbibaa

namespace Go.Proofs.Ytemkjcpfgmbibaa
open Go Go.Ab Go.Proofs
set_option maxRecDepth 100000
set_option linter.unusedVariables false
set_option linter.unusedSimpArgs false

theorem sameR_loop (s s' : Value) (n : Nat) (Gl Hl : List Int) (g1 g2 c : Nat) (h : FH) (hn : n ≤ 1000000) (hg1 : g1 < 256 * c) (hg2 : g2 < 256 * c) (h1 : Holds h g1 [s]) (h2 : Holds h g2 [s']) (h3 : SlI h c s 20 n Gl) (h4 : SlI h c s' 20 n Hl) (df : List Nat) :
    ∀ (k i : Nat), i + k = n →
    Ans (G (f25_k25000 none) [ptrTo g1, ptrTo g2, .bool false, .int .i64 i] h c df) fun r => r.h = h ∧ r.c = c ∧ r.df = df ∧
      ((r.e = .exit 0 ∧ ∀ j, i ≤ j → j < n → rowL Gl j = rowL Hl j) ∨ (r.e = .ret ∧ r.v 2 = .bool false ∧ ∃ j, j < n ∧ rowL Gl j ≠ rowL Hl j)) := by
  intro k
  have e1 : ld1 h (.pointer (some ⟨g1, 0, none⟩)) = some s := by rw [ld1_holds' h1]; rfl
  have e2 : ld1 h (.pointer (some ⟨g2, 0, none⟩)) = some s' := by rw [ld1_holds' h2]; rfl
  have l1 := h3.len
  induction k with
  | zero =>
    intro i hi
    obtain rfl : i = n := by omega
    refine Ans.loop (fun q r => f25_N25000) (fun q => f25_Z25000) ?_
    unfold f25_L25000
    repeat' (first
     | ((with_reducible first | refine Ans.bz ?_ | refine Ans.r1 ?_ | refine Ans.pkT ?_ | refine Ans.pkF ?_); try dsimp only [v_zero, v_succ])
     | (with_reducible first | refine Ans.btL ?_ | refine Ans.bfL ?_ | refine Ans.gyT ?_ | refine Ans.gyF ?_ | refine Ans.gyG ?_ | refine Ans.bb ?_ | refine Ans.bc ?_ | refine Ans.ba ?_)
     | ((with_reducible first | refine Ans.lsT ?_ ?_ | refine Ans.leT ?_ ?_ | refine Ans.grT ?_ ?_ | refine Ans.geT ?_ ?_ | refine Ans.eqT ?_ ?_ | refine Ans.neT ?_ ?_); (focus omega))
     | ((with_reducible first | refine Ans.lsF ?_ ?_ | refine Ans.leF ?_ ?_ | refine Ans.grF ?_ ?_ | refine Ans.geF ?_ ?_ | refine Ans.eqF ?_ ?_ | refine Ans.neF ?_ ?_); (focus omega))
     | (with_reducible first | refine Ans.lsS (fun _ => ?_) (fun _ => ?_) | refine Ans.leS (fun _ => ?_) (fun _ => ?_) | refine Ans.grS (fun _ => ?_) (fun _ => ?_) | refine Ans.geS (fun _ => ?_) (fun _ => ?_) | refine Ans.eqS (fun _ => ?_) (fun _ => ?_) | refine Ans.neS (fun _ => ?_) (fun _ => ?_))
     | ((with_reducible first | refine Ans.addN ?_ ?_ | refine Ans.add ?_ ?_ | refine Ans.sub ?_ ?_ | refine Ans.mul ?_ ?_); (focus omega))
     | ((with_reducible first | refine Ans.ct ?_ ?_); (focus (simp (disch := (first | omega | with_reducible assumption | (simp <;> omega) | fail)) [e1, l1]; done)))
     | ((with_reducible first | refine Ans.cf ?_ ?_); (focus (simp (disch := (first | omega | with_reducible assumption | (simp <;> omega) | fail)) [e1, l1]; done)))
     | (refine Ans.step (by simp (disch := (first | omega | with_reducible assumption | (simp <;> omega) | fail)) [e1, l1, -List.getD_eq_getElem?_getD] <;> rfl) ?_; try dsimp only [v_zero, v_succ])
     | fail)
    (refine Ans.exit0 ?_ ?_ ?_; (focus (simp (disch := (first | omega | with_reducible assumption | (simp <;> omega) | fail)) [hg1, hg2]; done)); (focus (simp (disch := (first | omega | with_reducible assumption | (simp <;> omega) | fail)) [hg1, hg2]; done)))
    exact ⟨rfl, rfl, rfl, .inl ⟨rfl, fun j h1 h2 => by omega⟩⟩
  | succ k ih =>
    intro i hi
    have r1 := h3.row i (by omega) (by omega)
    have r2 := h4.row i (by omega) (by omega)
    simp only [Int.toNat_natCast] at r1 r2
    have hq := neq_row (rowL Gl i) (rowL Hl i) (rowL_length h3.1 (by omega)) (rowL_length h4.1 (by omega))
    refine Ans.loop (fun q r => f25_N25000) (fun q => f25_Z25000) ?_
    unfold f25_L25000
    repeat' (first
     | ((with_reducible first | refine Ans.bz ?_ | refine Ans.r1 ?_ | refine Ans.pkT ?_ | refine Ans.pkF ?_); try dsimp only [v_zero, v_succ])
     | (with_reducible first | refine Ans.btL ?_ | refine Ans.bfL ?_ | refine Ans.gyT ?_ | refine Ans.gyF ?_ | refine Ans.gyG ?_ | refine Ans.bb ?_ | refine Ans.bc ?_ | refine Ans.ba ?_)
     | ((with_reducible first | refine Ans.lsT ?_ ?_ | refine Ans.leT ?_ ?_ | refine Ans.grT ?_ ?_ | refine Ans.geT ?_ ?_ | refine Ans.eqT ?_ ?_ | refine Ans.neT ?_ ?_); (focus omega))
     | ((with_reducible first | refine Ans.lsF ?_ ?_ | refine Ans.leF ?_ ?_ | refine Ans.grF ?_ ?_ | refine Ans.geF ?_ ?_ | refine Ans.eqF ?_ ?_ | refine Ans.neF ?_ ?_); (focus omega))
     | (with_reducible first | refine Ans.lsS (fun _ => ?_) (fun _ => ?_) | refine Ans.leS (fun _ => ?_) (fun _ => ?_) | refine Ans.grS (fun _ => ?_) (fun _ => ?_) | refine Ans.geS (fun _ => ?_) (fun _ => ?_) | refine Ans.eqS (fun _ => ?_) (fun _ => ?_) | refine Ans.neS (fun _ => ?_) (fun _ => ?_))
     | ((with_reducible first | refine Ans.addN ?_ ?_ | refine Ans.add ?_ ?_ | refine Ans.sub ?_ ?_ | refine Ans.mul ?_ ?_); (focus omega))
     | ((with_reducible first | refine Ans.ct ?_ ?_); (focus (simp (disch := (first | omega | with_reducible assumption | (simp <;> omega) | fail)) [e1, e2, l1, h3.ixs, h4.ixs, r1, r2]; done)))
     | ((with_reducible first | refine Ans.cf ?_ ?_); (focus (simp (disch := (first | omega | with_reducible assumption | (simp <;> omega) | fail)) [e1, e2, l1, h3.ixs, h4.ixs, r1, r2]; done)))
     | ((with_reducible refine Ans.oT (by simp (disch := (first | omega | with_reducible assumption | (simp <;> omega) | fail)) only [hq] <;> rfl) ?_ ?_); (focus (with_reducible assumption)); try dsimp only [v_zero, v_succ])
     | ((with_reducible refine Ans.oF (by simp (disch := (first | omega | with_reducible assumption | (simp <;> omega) | fail)) only [hq] <;> rfl) ?_ ?_); (focus (with_reducible assumption)); try dsimp only [v_zero, v_succ])
     | ((with_reducible refine Ans.oS (by simp (disch := (first | omega | with_reducible assumption | (simp <;> omega) | fail)) only [hq] <;> rfl) (fun _ => ?_) (fun _ => ?_)) <;> try dsimp only [v_zero, v_succ])
     | (refine Ans.step (by simp (disch := (first | omega | with_reducible assumption | (simp <;> omega) | fail)) [e1, e2, l1, h3.ixs, h4.ixs, r1, r2, -List.getD_eq_getElem?_getD] <;> rfl) ?_; try dsimp only [v_zero, v_succ])
     | fail)
    · rename_i hne
      (refine Ans.ret0 ?_ ?_ ?_; (focus (simp (disch := (first | omega | with_reducible assumption | (simp <;> omega) | fail)) [hg1, hg2]; done)); (focus (simp (disch := (first | omega | with_reducible assumption | (simp <;> omega) | fail)) [hg1, hg2]; done)))
      exact ⟨rfl, rfl, rfl, .inr ⟨rfl, rfl, i, by omega, by simpa using hne⟩⟩
    · rename_i heq
      (refine Ans.next0 ?_ ?_ ?_; (focus (simp (disch := (first | omega | with_reducible assumption | (simp <;> omega) | fail)) [hg1, hg2]; done)); (focus (simp (disch := (first | omega | with_reducible assumption | (simp <;> omega) | fail)) [hg1, hg2]; done)))
      refine (ih (i + 1) (by omega)).mono ?_
      rintro r ⟨q1, q2, q3, q4⟩
      refine ⟨q1, q2, q3, q4.imp (fun ⟨a, b⟩ => ⟨a, fun j j1 j2 => ?_⟩) id⟩
      by_cases hj : j = i
      · rw [hj]; simpa using heq
      · exact b j (by omega) j2

theorem rows_ext {Gl Hl : List Int} {n : Nat} (h1 : Gl.length = n * 20) (h2 : Hl.length = n * 20) (h : ∀ j, j < n → rowL Gl j = rowL Hl j) : Gl = Hl := by
  apply List.ext_getElem?
  intro i
  by_cases hi : i < n * 20
  · have := congrArg (fun l => l[i % 20]?) (h (i / 20) (by omega))
    simp only [rowL, List.getElem?_take_of_lt (Nat.mod_lt i (by omega : 0 < 20)), List.getElem?_drop, Nat.div_add_mod] at this
    exact this
  · rw [List.getElem?_eq_none (by omega), List.getElem?_eq_none (by omega)]

theorem sameR_sp (s s' : Value) (n m : Nat) (Gl Hl : List Int) (h : FH) (c : Nat) (df : List Nat) (h3 : SlI h c s 20 n Gl) (h4 : SlI h c s' 20 m Hl) (hn : n ≤ 1000000) :
    G (.fn 25) [.agg #[s], .agg #[s']] h c df = some { e := .ret, vs := [.bool (sameB2 n m Gl Hl)], h := h, c := c, df := [] } := by
  refine pure_of' (fun r e => f25_go e) (by simp) ?_
  have hf1 : ((Value.agg #[s]).cells.toList.all isFlat) = true := by simp [Value.cells, h3.flat]
  have hf2 : ((Value.agg #[s']).cells.toList.all isFlat) = true := by simp [Value.cells, h4.flat]
  have hc1 : (Value.agg #[s]).cells.toList = [s] := rfl
  have hc2 : (Value.agg #[s']).cells.toList = [s'] := rfl
  unfold f25_S
  rw [hf1, hf2, hc1, hc2]
  simp only [cond_true]
  obtain ⟨H, hH⟩ : ∃ H, H = newB (newB h (256 * c) [s]) (256 * c + 1) [s'] := ⟨_, rfl⟩
  have sH : Same c h H := by rw [hH]; simp (disch := omega)
  have g1 : Holds H (256 * c) [s] := by rw [hH]; exact Holds.newB_ne (by omega) (Holds.newB_same _ _ _)
  have g2 : Holds H (256 * c + 1) [s'] := by rw [hH]; exact Holds.newB_same _ _ _
  rw [Nat.add_zero, ← hH]
  have e1 : ld1 H (.pointer (some ⟨256 * c, 0, none⟩)) = some s := by rw [ld1_holds' g1]; rfl
  have e2 : ld1 H (.pointer (some ⟨256 * c + 1, 0, none⟩)) = some s' := by rw [ld1_holds' g2]; rfl
  have l1 := h3.len
  have l2 := h4.len
  by_cases hnm : n = m
  case neg =>
    repeat' (first
     | ((with_reducible first | refine Ans.bz ?_ | refine Ans.r1 ?_ | refine Ans.pkT ?_ | refine Ans.pkF ?_); try dsimp only [v_zero, v_succ])
     | (with_reducible first | refine Ans.btL ?_ | refine Ans.bfL ?_ | refine Ans.gyT ?_ | refine Ans.gyF ?_ | refine Ans.gyG ?_ | refine Ans.bb ?_ | refine Ans.bc ?_ | refine Ans.ba ?_)
     | ((with_reducible first | refine Ans.lsT ?_ ?_ | refine Ans.leT ?_ ?_ | refine Ans.grT ?_ ?_ | refine Ans.geT ?_ ?_ | refine Ans.eqT ?_ ?_ | refine Ans.neT ?_ ?_); (focus omega))
     | ((with_reducible first | refine Ans.lsF ?_ ?_ | refine Ans.leF ?_ ?_ | refine Ans.grF ?_ ?_ | refine Ans.geF ?_ ?_ | refine Ans.eqF ?_ ?_ | refine Ans.neF ?_ ?_); (focus omega))
     | (with_reducible first | refine Ans.lsS (fun _ => ?_) (fun _ => ?_) | refine Ans.leS (fun _ => ?_) (fun _ => ?_) | refine Ans.grS (fun _ => ?_) (fun _ => ?_) | refine Ans.geS (fun _ => ?_) (fun _ => ?_) | refine Ans.eqS (fun _ => ?_) (fun _ => ?_) | refine Ans.neS (fun _ => ?_) (fun _ => ?_))
     | ((with_reducible first | refine Ans.addN ?_ ?_ | refine Ans.add ?_ ?_ | refine Ans.sub ?_ ?_ | refine Ans.mul ?_ ?_); (focus omega))
     | ((with_reducible first | refine Ans.ct ?_ ?_); (focus (simp (disch := (first | omega | with_reducible assumption | (simp <;> omega) | fail)) [e1, e2, l1, l2]; done)))
     | ((with_reducible first | refine Ans.cf ?_ ?_); (focus (simp (disch := (first | omega | with_reducible assumption | (simp <;> omega) | fail)) [e1, e2, l1, l2]; done)))
     | (refine Ans.step (by simp (disch := (first | omega | with_reducible assumption | (simp <;> omega) | fail)) [e1, e2, l1, l2, -List.getD_eq_getElem?_getD] <;> rfl) ?_; try dsimp only [v_zero, v_succ])
     | fail)
    exact Ans.pure (by simp [sameB2, hnm]) sH
  subst hnm
  obtain ⟨⟨re, rv, rh, rc, rd⟩, hr, r1, r2, r3, r4⟩ := sameR_loop s s' n Gl Hl (256 * c) (256 * c + 1) (c + 1 + 1 + 1) H hn (by omega) (by omega) g1 g2 ((h3.same sH).mono (by omega)) ((h4.same sH).mono (by omega)) [] n 0 (by omega)
  simp only at r1 r2 r3 r4
  subst r1 r2 r3
  simp only [Int.ofNat_eq_natCast, Int.cast_ofNat_Int] at hr
  rcases r4 with ⟨rfl, r5⟩ | ⟨rfl, r5, j, r6, r7⟩
  · repeat' (first
     | ((with_reducible first | refine Ans.bz ?_ | refine Ans.r1 ?_ | refine Ans.pkT ?_ | refine Ans.pkF ?_); try dsimp only [v_zero, v_succ])
     | (with_reducible first | refine Ans.btL ?_ | refine Ans.bfL ?_ | refine Ans.gyT ?_ | refine Ans.gyF ?_ | refine Ans.gyG ?_ | refine Ans.bb ?_ | refine Ans.bc ?_ | refine Ans.ba ?_)
     | ((with_reducible first | refine Ans.lsT ?_ ?_ | refine Ans.leT ?_ ?_ | refine Ans.grT ?_ ?_ | refine Ans.geT ?_ ?_ | refine Ans.eqT ?_ ?_ | refine Ans.neT ?_ ?_); (focus omega))
     | ((with_reducible first | refine Ans.lsF ?_ ?_ | refine Ans.leF ?_ ?_ | refine Ans.grF ?_ ?_ | refine Ans.geF ?_ ?_ | refine Ans.eqF ?_ ?_ | refine Ans.neF ?_ ?_); (focus omega))
     | (with_reducible first | refine Ans.lsS (fun _ => ?_) (fun _ => ?_) | refine Ans.leS (fun _ => ?_) (fun _ => ?_) | refine Ans.grS (fun _ => ?_) (fun _ => ?_) | refine Ans.geS (fun _ => ?_) (fun _ => ?_) | refine Ans.eqS (fun _ => ?_) (fun _ => ?_) | refine Ans.neS (fun _ => ?_) (fun _ => ?_))
     | ((with_reducible first | refine Ans.addN ?_ ?_ | refine Ans.add ?_ ?_ | refine Ans.sub ?_ ?_ | refine Ans.mul ?_ ?_); (focus omega))
     | ((with_reducible first | refine Ans.ct ?_ ?_); (focus (simp (disch := (first | omega | with_reducible assumption | (simp <;> omega) | fail)) [e1, e2, l1, l2, hr]; done)))
     | ((with_reducible first | refine Ans.cf ?_ ?_); (focus (simp (disch := (first | omega | with_reducible assumption | (simp <;> omega) | fail)) [e1, e2, l1, l2, hr]; done)))
     | (refine Ans.step (by simp (disch := (first | omega | with_reducible assumption | (simp <;> omega) | fail)) [e1, e2, l1, l2, hr, -List.getD_eq_getElem?_getD] <;> rfl) ?_; try dsimp only [v_zero, v_succ])
     | fail)
    exact Ans.pure (by simp [sameB2, rows_ext h3.1 h4.1 (fun j hj => r5 j (by omega) hj)]) sH
  · repeat' (first
     | ((with_reducible first | refine Ans.bz ?_ | refine Ans.r1 ?_ | refine Ans.pkT ?_ | refine Ans.pkF ?_); try dsimp only [v_zero, v_succ])
     | (with_reducible first | refine Ans.btL ?_ | refine Ans.bfL ?_ | refine Ans.gyT ?_ | refine Ans.gyF ?_ | refine Ans.gyG ?_ | refine Ans.bb ?_ | refine Ans.bc ?_ | refine Ans.ba ?_)
     | ((with_reducible first | refine Ans.lsT ?_ ?_ | refine Ans.leT ?_ ?_ | refine Ans.grT ?_ ?_ | refine Ans.geT ?_ ?_ | refine Ans.eqT ?_ ?_ | refine Ans.neT ?_ ?_); (focus omega))
     | ((with_reducible first | refine Ans.lsF ?_ ?_ | refine Ans.leF ?_ ?_ | refine Ans.grF ?_ ?_ | refine Ans.geF ?_ ?_ | refine Ans.eqF ?_ ?_ | refine Ans.neF ?_ ?_); (focus omega))
     | (with_reducible first | refine Ans.lsS (fun _ => ?_) (fun _ => ?_) | refine Ans.leS (fun _ => ?_) (fun _ => ?_) | refine Ans.grS (fun _ => ?_) (fun _ => ?_) | refine Ans.geS (fun _ => ?_) (fun _ => ?_) | refine Ans.eqS (fun _ => ?_) (fun _ => ?_) | refine Ans.neS (fun _ => ?_) (fun _ => ?_))
     | ((with_reducible first | refine Ans.addN ?_ ?_ | refine Ans.add ?_ ?_ | refine Ans.sub ?_ ?_ | refine Ans.mul ?_ ?_); (focus omega))
     | ((with_reducible first | refine Ans.ct ?_ ?_); (focus (simp (disch := (first | omega | with_reducible assumption | (simp <;> omega) | fail)) [e1, e2, l1, l2, hr]; done)))
     | ((with_reducible first | refine Ans.cf ?_ ?_); (focus (simp (disch := (first | omega | with_reducible assumption | (simp <;> omega) | fail)) [e1, e2, l1, l2, hr]; done)))
     | (refine Ans.step (by simp (disch := (first | omega | with_reducible assumption | (simp <;> omega) | fail)) [e1, e2, l1, l2, hr, -List.getD_eq_getElem?_getD] <;> rfl) ?_; try dsimp only [v_zero, v_succ])
     | fail)
    refine Ans.pure ?_ sH
    rw [r5]
    have : ¬ Gl = Hl := fun e => r7 (by rw [e])
    simp [sameB2, this]

theorem equal_loop (s s' : Value) (n : Nat) (Gl Hl : List Int) (c : Nat) (h : FH) (hn : n ≤ 1000000) (h3 : SlI h c s 20 n Gl) (h4 : SlI h c s' 20 n Hl) (df : List Nat) :
    ∀ (k i : Nat), i + k = n →
    Ans (G (f67_k67000 none) [s, s', .bool false, .int .i64 n, .int .i64 i] h c df) fun r => r.h = h ∧ r.c = c ∧ r.df = df ∧
      ((r.e = .exit 0 ∧ ∀ j, i ≤ j → j < n → rowL Gl j = rowL Hl j) ∨ (r.e = .ret ∧ r.v 2 = .bool false ∧ ∃ j, j < n ∧ rowL Gl j ≠ rowL Hl j)) := by
  intro k
  have o1 := h3.okV
  have o2 := h4.okV
  induction k with
  | zero =>
    intro i hi
    obtain rfl : i = n := by omega
    refine Ans.loop (fun q r => f67_N67000) (fun q => f67_Z67000) ?_
    unfold f67_L67000
    repeat' (first
     | ((with_reducible first | refine Ans.bz ?_ | refine Ans.r1 ?_ | refine Ans.pkT ?_ | refine Ans.pkF ?_); try dsimp only [v_zero, v_succ])
     | (with_reducible first | refine Ans.btL ?_ | refine Ans.bfL ?_ | refine Ans.gyT ?_ | refine Ans.gyF ?_ | refine Ans.gyG ?_ | refine Ans.bb ?_ | refine Ans.bc ?_ | refine Ans.ba ?_)
     | ((with_reducible first | refine Ans.lsT ?_ ?_ | refine Ans.leT ?_ ?_ | refine Ans.grT ?_ ?_ | refine Ans.geT ?_ ?_ | refine Ans.eqT ?_ ?_ | refine Ans.neT ?_ ?_); (focus omega))
     | ((with_reducible first | refine Ans.lsF ?_ ?_ | refine Ans.leF ?_ ?_ | refine Ans.grF ?_ ?_ | refine Ans.geF ?_ ?_ | refine Ans.eqF ?_ ?_ | refine Ans.neF ?_ ?_); (focus omega))
     | (with_reducible first | refine Ans.lsS (fun _ => ?_) (fun _ => ?_) | refine Ans.leS (fun _ => ?_) (fun _ => ?_) | refine Ans.grS (fun _ => ?_) (fun _ => ?_) | refine Ans.geS (fun _ => ?_) (fun _ => ?_) | refine Ans.eqS (fun _ => ?_) (fun _ => ?_) | refine Ans.neS (fun _ => ?_) (fun _ => ?_))
     | ((with_reducible first | refine Ans.addN ?_ ?_ | refine Ans.add ?_ ?_ | refine Ans.sub ?_ ?_ | refine Ans.mul ?_ ?_); (focus omega))
     | ((with_reducible first | refine Ans.ct ?_ ?_); (focus (simp (disch := (first | omega | with_reducible assumption | (simp <;> omega) | fail)) []; done)))
     | ((with_reducible first | refine Ans.cf ?_ ?_); (focus (simp (disch := (first | omega | with_reducible assumption | (simp <;> omega) | fail)) []; done)))
     | (refine Ans.step (by simp (disch := (first | omega | with_reducible assumption | (simp <;> omega) | fail)) [-List.getD_eq_getElem?_getD] <;> rfl) ?_; try dsimp only [v_zero, v_succ])
     | fail)
    (refine Ans.exit0 ?_ ?_ ?_; (focus (simp (disch := (first | omega | with_reducible assumption | (simp <;> omega) | fail)) [o1, o2]; done)); (focus (simp (disch := (first | omega | with_reducible assumption | (simp <;> omega) | fail)) [o1, o2]; done)))
    exact ⟨rfl, rfl, rfl, .inl ⟨rfl, fun j h1 h2 => by omega⟩⟩
  | succ k ih =>
    intro i hi
    have r1 := h3.row i (by omega) (by omega)
    have r2 := h4.row i (by omega) (by omega)
    simp only [Int.toNat_natCast] at r1 r2
    have hq := neq_row (rowL Gl i) (rowL Hl i) (rowL_length h3.1 (by omega)) (rowL_length h4.1 (by omega))
    refine Ans.loop (fun q r => f67_N67000) (fun q => f67_Z67000) ?_
    unfold f67_L67000
    repeat' (first
     | ((with_reducible first | refine Ans.bz ?_ | refine Ans.r1 ?_ | refine Ans.pkT ?_ | refine Ans.pkF ?_); try dsimp only [v_zero, v_succ])
     | (with_reducible first | refine Ans.btL ?_ | refine Ans.bfL ?_ | refine Ans.gyT ?_ | refine Ans.gyF ?_ | refine Ans.gyG ?_ | refine Ans.bb ?_ | refine Ans.bc ?_ | refine Ans.ba ?_)
     | ((with_reducible first | refine Ans.lsT ?_ ?_ | refine Ans.leT ?_ ?_ | refine Ans.grT ?_ ?_ | refine Ans.geT ?_ ?_ | refine Ans.eqT ?_ ?_ | refine Ans.neT ?_ ?_); (focus omega))
     | ((with_reducible first | refine Ans.lsF ?_ ?_ | refine Ans.leF ?_ ?_ | refine Ans.grF ?_ ?_ | refine Ans.geF ?_ ?_ | refine Ans.eqF ?_ ?_ | refine Ans.neF ?_ ?_); (focus omega))
     | (with_reducible first | refine Ans.lsS (fun _ => ?_) (fun _ => ?_) | refine Ans.leS (fun _ => ?_) (fun _ => ?_) | refine Ans.grS (fun _ => ?_) (fun _ => ?_) | refine Ans.geS (fun _ => ?_) (fun _ => ?_) | refine Ans.eqS (fun _ => ?_) (fun _ => ?_) | refine Ans.neS (fun _ => ?_) (fun _ => ?_))
     | ((with_reducible first | refine Ans.addN ?_ ?_ | refine Ans.add ?_ ?_ | refine Ans.sub ?_ ?_ | refine Ans.mul ?_ ?_); (focus omega))
     | ((with_reducible first | refine Ans.ct ?_ ?_); (focus (simp (disch := (first | omega | with_reducible assumption | (simp <;> omega) | fail)) [h3.ixs, h4.ixs, r1, r2]; done)))
     | ((with_reducible first | refine Ans.cf ?_ ?_); (focus (simp (disch := (first | omega | with_reducible assumption | (simp <;> omega) | fail)) [h3.ixs, h4.ixs, r1, r2]; done)))
     | ((with_reducible refine Ans.oT (by simp (disch := (first | omega | with_reducible assumption | (simp <;> omega) | fail)) only [hq] <;> rfl) ?_ ?_); (focus (with_reducible assumption)); try dsimp only [v_zero, v_succ])
     | ((with_reducible refine Ans.oF (by simp (disch := (first | omega | with_reducible assumption | (simp <;> omega) | fail)) only [hq] <;> rfl) ?_ ?_); (focus (with_reducible assumption)); try dsimp only [v_zero, v_succ])
     | ((with_reducible refine Ans.oS (by simp (disch := (first | omega | with_reducible assumption | (simp <;> omega) | fail)) only [hq] <;> rfl) (fun _ => ?_) (fun _ => ?_)) <;> try dsimp only [v_zero, v_succ])
     | (refine Ans.step (by simp (disch := (first | omega | with_reducible assumption | (simp <;> omega) | fail)) [h3.ixs, h4.ixs, r1, r2, -List.getD_eq_getElem?_getD] <;> rfl) ?_; try dsimp only [v_zero, v_succ])
     | fail)
    · rename_i hne
      (refine Ans.ret0 ?_ ?_ ?_; (focus (simp (disch := (first | omega | with_reducible assumption | (simp <;> omega) | fail)) [o1, o2]; done)); (focus (simp (disch := (first | omega | with_reducible assumption | (simp <;> omega) | fail)) [o1, o2]; done)))
      exact ⟨rfl, rfl, rfl, .inr ⟨rfl, rfl, i, by omega, by simpa using hne⟩⟩
    · rename_i heq
      (refine Ans.next0 ?_ ?_ ?_; (focus (simp (disch := (first | omega | with_reducible assumption | (simp <;> omega) | fail)) [o1, o2]; done)); (focus (simp (disch := (first | omega | with_reducible assumption | (simp <;> omega) | fail)) [o1, o2]; done)))
      refine (ih (i + 1) (by omega)).mono ?_
      rintro r ⟨q1, q2, q3, q4⟩
      refine ⟨q1, q2, q3, q4.imp (fun ⟨a, b⟩ => ⟨a, fun j j1 j2 => ?_⟩) id⟩
      by_cases hj : j = i
      · rw [hj]; simpa using heq
      · exact b j (by omega) j2

theorem equal_sp (s s' : Value) (n m : Nat) (Gl Hl : List Int) (h : FH) (c : Nat) (df : List Nat) (h3 : SlI h c s 20 n Gl) (h4 : SlI h c s' 20 m Hl) (hn : n ≤ 1000000) :
    G (.fn 67) [s, s'] h c df = some { e := .ret, vs := [.bool (sameB2 n m Gl Hl)], h := h, c := c, df := [] } := by
  refine pure_of' (fun r e => f67_go e) (by simp) ?_
  unfold f67_S
  have l1 := h3.len
  have l2 := h4.len
  by_cases hnm : n = m
  case neg =>
    repeat' (first
     | ((with_reducible first | refine Ans.bz ?_ | refine Ans.r1 ?_ | refine Ans.pkT ?_ | refine Ans.pkF ?_); try dsimp only [v_zero, v_succ])
     | (with_reducible first | refine Ans.btL ?_ | refine Ans.bfL ?_ | refine Ans.gyT ?_ | refine Ans.gyF ?_ | refine Ans.gyG ?_ | refine Ans.bb ?_ | refine Ans.bc ?_ | refine Ans.ba ?_)
     | ((with_reducible first | refine Ans.lsT ?_ ?_ | refine Ans.leT ?_ ?_ | refine Ans.grT ?_ ?_ | refine Ans.geT ?_ ?_ | refine Ans.eqT ?_ ?_ | refine Ans.neT ?_ ?_); (focus omega))
     | ((with_reducible first | refine Ans.lsF ?_ ?_ | refine Ans.leF ?_ ?_ | refine Ans.grF ?_ ?_ | refine Ans.geF ?_ ?_ | refine Ans.eqF ?_ ?_ | refine Ans.neF ?_ ?_); (focus omega))
     | (with_reducible first | refine Ans.lsS (fun _ => ?_) (fun _ => ?_) | refine Ans.leS (fun _ => ?_) (fun _ => ?_) | refine Ans.grS (fun _ => ?_) (fun _ => ?_) | refine Ans.geS (fun _ => ?_) (fun _ => ?_) | refine Ans.eqS (fun _ => ?_) (fun _ => ?_) | refine Ans.neS (fun _ => ?_) (fun _ => ?_))
     | ((with_reducible first | refine Ans.addN ?_ ?_ | refine Ans.add ?_ ?_ | refine Ans.sub ?_ ?_ | refine Ans.mul ?_ ?_); (focus omega))
     | ((with_reducible first | refine Ans.ct ?_ ?_); (focus (simp (disch := (first | omega | with_reducible assumption | (simp <;> omega) | fail)) [l1, l2]; done)))
     | ((with_reducible first | refine Ans.cf ?_ ?_); (focus (simp (disch := (first | omega | with_reducible assumption | (simp <;> omega) | fail)) [l1, l2]; done)))
     | (refine Ans.step (by simp (disch := (first | omega | with_reducible assumption | (simp <;> omega) | fail)) [l1, l2, -List.getD_eq_getElem?_getD] <;> rfl) ?_; try dsimp only [v_zero, v_succ])
     | fail)
    exact Ans.pure (by simp [sameB2, hnm]) (by simp)
  subst hnm
  obtain ⟨⟨re, rv, rh, rc, rd⟩, hr, r1, r2, r3, r4⟩ := equal_loop s s' n Gl Hl (c + 1 + 1 + 1) h hn (h3.mono (by omega)) (h4.mono (by omega)) [] n 0 (by omega)
  simp only at r1 r2 r3 r4
  subst r1 r2 r3
  simp only [Int.ofNat_eq_natCast, Int.cast_ofNat_Int] at hr
  rcases r4 with ⟨rfl, r5⟩ | ⟨rfl, r5, j, r6, r7⟩
  · repeat' (first
     | ((with_reducible first | refine Ans.bz ?_ | refine Ans.r1 ?_ | refine Ans.pkT ?_ | refine Ans.pkF ?_); try dsimp only [v_zero, v_succ])
     | (with_reducible first | refine Ans.btL ?_ | refine Ans.bfL ?_ | refine Ans.gyT ?_ | refine Ans.gyF ?_ | refine Ans.gyG ?_ | refine Ans.bb ?_ | refine Ans.bc ?_ | refine Ans.ba ?_)
     | ((with_reducible first | refine Ans.lsT ?_ ?_ | refine Ans.leT ?_ ?_ | refine Ans.grT ?_ ?_ | refine Ans.geT ?_ ?_ | refine Ans.eqT ?_ ?_ | refine Ans.neT ?_ ?_); (focus omega))
     | ((with_reducible first | refine Ans.lsF ?_ ?_ | refine Ans.leF ?_ ?_ | refine Ans.grF ?_ ?_ | refine Ans.geF ?_ ?_ | refine Ans.eqF ?_ ?_ | refine Ans.neF ?_ ?_); (focus omega))
     | (with_reducible first | refine Ans.lsS (fun _ => ?_) (fun _ => ?_) | refine Ans.leS (fun _ => ?_) (fun _ => ?_) | refine Ans.grS (fun _ => ?_) (fun _ => ?_) | refine Ans.geS (fun _ => ?_) (fun _ => ?_) | refine Ans.eqS (fun _ => ?_) (fun _ => ?_) | refine Ans.neS (fun _ => ?_) (fun _ => ?_))
     | ((with_reducible first | refine Ans.addN ?_ ?_ | refine Ans.add ?_ ?_ | refine Ans.sub ?_ ?_ | refine Ans.mul ?_ ?_); (focus omega))
     | ((with_reducible first | refine Ans.ct ?_ ?_); (focus (simp (disch := (first | omega | with_reducible assumption | (simp <;> omega) | fail)) [l1, l2, hr]; done)))
     | ((with_reducible first | refine Ans.cf ?_ ?_); (focus (simp (disch := (first | omega | with_reducible assumption | (simp <;> omega) | fail)) [l1, l2, hr]; done)))
     | (refine Ans.step (by simp (disch := (first | omega | with_reducible assumption | (simp <;> omega) | fail)) [l1, l2, hr, -List.getD_eq_getElem?_getD] <;> rfl) ?_; try dsimp only [v_zero, v_succ])
     | fail)
    exact Ans.pure (by simp [sameB2, rows_ext h3.1 h4.1 (fun j hj => r5 j (by omega) hj)]) (by simp)
  · repeat' (first
     | ((with_reducible first | refine Ans.bz ?_ | refine Ans.r1 ?_ | refine Ans.pkT ?_ | refine Ans.pkF ?_); try dsimp only [v_zero, v_succ])
     | (with_reducible first | refine Ans.btL ?_ | refine Ans.bfL ?_ | refine Ans.gyT ?_ | refine Ans.gyF ?_ | refine Ans.gyG ?_ | refine Ans.bb ?_ | refine Ans.bc ?_ | refine Ans.ba ?_)
     | ((with_reducible first | refine Ans.lsT ?_ ?_ | refine Ans.leT ?_ ?_ | refine Ans.grT ?_ ?_ | refine Ans.geT ?_ ?_ | refine Ans.eqT ?_ ?_ | refine Ans.neT ?_ ?_); (focus omega))
     | ((with_reducible first | refine Ans.lsF ?_ ?_ | refine Ans.leF ?_ ?_ | refine Ans.grF ?_ ?_ | refine Ans.geF ?_ ?_ | refine Ans.eqF ?_ ?_ | refine Ans.neF ?_ ?_); (focus omega))
     | (with_reducible first | refine Ans.lsS (fun _ => ?_) (fun _ => ?_) | refine Ans.leS (fun _ => ?_) (fun _ => ?_) | refine Ans.grS (fun _ => ?_) (fun _ => ?_) | refine Ans.geS (fun _ => ?_) (fun _ => ?_) | refine Ans.eqS (fun _ => ?_) (fun _ => ?_) | refine Ans.neS (fun _ => ?_) (fun _ => ?_))
     | ((with_reducible first | refine Ans.addN ?_ ?_ | refine Ans.add ?_ ?_ | refine Ans.sub ?_ ?_ | refine Ans.mul ?_ ?_); (focus omega))
     | ((with_reducible first | refine Ans.ct ?_ ?_); (focus (simp (disch := (first | omega | with_reducible assumption | (simp <;> omega) | fail)) [l1, l2, hr]; done)))
     | ((with_reducible first | refine Ans.cf ?_ ?_); (focus (simp (disch := (first | omega | with_reducible assumption | (simp <;> omega) | fail)) [l1, l2, hr]; done)))
     | (refine Ans.step (by simp (disch := (first | omega | with_reducible assumption | (simp <;> omega) | fail)) [l1, l2, hr, -List.getD_eq_getElem?_getD] <;> rfl) ?_; try dsimp only [v_zero, v_succ])
     | fail)
    refine Ans.pure ?_ (by simp)
    rw [r5]
    have : ¬ Gl = Hl := fun e => r7 (by rw [e])
    simp [sameB2, this]

theorem same_sp (s s' : Value) (n m : Nat) (Gl Hl : List Int) (h : FH) (c : Nat) (df : List Nat) (h3 : SlI h c s 20 n Gl) (h4 : SlI h c s' 20 m Hl) (hn : n ≤ 1000000) :
    G (.fn 41) [.agg #[s], .agg #[s']] h c df = some { e := .ret, vs := [.bool (sameB2 n m Gl Hl)], h := h, c := c, df := [] } := by
  refine pure_of' (fun r e => f41_go e) (by simp) ?_
  have hf1 : ((Value.agg #[s]).cells.toList.all isFlat) = true := by simp [Value.cells, h3.flat]
  have hf2 : ((Value.agg #[s']).cells.toList.all isFlat) = true := by simp [Value.cells, h4.flat]
  have hc1 : (Value.agg #[s]).cells.toList = [s] := rfl
  have hc2 : (Value.agg #[s']).cells.toList = [s'] := rfl
  unfold f41_S
  rw [hf1, hf2, hc1, hc2]
  simp only [cond_true]
  obtain ⟨H, hH⟩ : ∃ H, H = newB (newB h (256 * c) [s]) (256 * c + 1) [s'] := ⟨_, rfl⟩
  have sH : Same c h H := by rw [hH]; simp (disch := omega)
  have g1 : Holds H (256 * c) [s] := by rw [hH]; exact Holds.newB_ne (by omega) (Holds.newB_same _ _ _)
  have g2 : Holds H (256 * c + 1) [s'] := by rw [hH]; exact Holds.newB_same _ _ _
  rw [Nat.add_zero, ← hH]
  have e1 : ld1 H (.pointer (some ⟨256 * c, 0, none⟩)) = some s := by rw [ld1_holds' g1]; rfl
  have e2 : ld1 H (.pointer (some ⟨256 * c + 1, 0, none⟩)) = some s' := by rw [ld1_holds' g2]; rfl
  have c1 := callF_of (equal_sp s s' n m Gl Hl H (c + 1 + 1) [] ((h3.same sH).mono (by omega)) ((h4.same sH).mono (by omega)) hn)
  repeat' (first
   | ((with_reducible first | refine Ans.bz ?_ | refine Ans.r1 ?_ | refine Ans.pkT ?_ | refine Ans.pkF ?_); try dsimp only [v_zero, v_succ])
   | (with_reducible first | refine Ans.btL ?_ | refine Ans.bfL ?_ | refine Ans.gyT ?_ | refine Ans.gyF ?_ | refine Ans.gyG ?_ | refine Ans.bb ?_ | refine Ans.bc ?_ | refine Ans.ba ?_)
   | ((with_reducible first | refine Ans.lsT ?_ ?_ | refine Ans.leT ?_ ?_ | refine Ans.grT ?_ ?_ | refine Ans.geT ?_ ?_ | refine Ans.eqT ?_ ?_ | refine Ans.neT ?_ ?_); (focus omega))
   | ((with_reducible first | refine Ans.lsF ?_ ?_ | refine Ans.leF ?_ ?_ | refine Ans.grF ?_ ?_ | refine Ans.geF ?_ ?_ | refine Ans.eqF ?_ ?_ | refine Ans.neF ?_ ?_); (focus omega))
   | (with_reducible first | refine Ans.lsS (fun _ => ?_) (fun _ => ?_) | refine Ans.leS (fun _ => ?_) (fun _ => ?_) | refine Ans.grS (fun _ => ?_) (fun _ => ?_) | refine Ans.geS (fun _ => ?_) (fun _ => ?_) | refine Ans.eqS (fun _ => ?_) (fun _ => ?_) | refine Ans.neS (fun _ => ?_) (fun _ => ?_))
   | ((with_reducible first | refine Ans.addN ?_ ?_ | refine Ans.add ?_ ?_ | refine Ans.sub ?_ ?_ | refine Ans.mul ?_ ?_); (focus omega))
   | ((with_reducible first | refine Ans.ct ?_ ?_); (focus (simp (disch := (first | omega | with_reducible assumption | (simp <;> omega) | fail)) [e1, e2, c1]; done)))
   | ((with_reducible first | refine Ans.cf ?_ ?_); (focus (simp (disch := (first | omega | with_reducible assumption | (simp <;> omega) | fail)) [e1, e2, c1]; done)))
   | (refine Ans.step (by simp (disch := (first | omega | with_reducible assumption | (simp <;> omega) | fail)) [e1, e2, c1, -List.getD_eq_getElem?_getD] <;> rfl) ?_; try dsimp only [v_zero, v_succ])
   | fail)
  exact Ans.pure rfl sH

theorem notValid_sp (p : List Int) (hp : p.length = 4) (h : FH) (c : Nat) (df : List Nat) :
    G (.fn 64) [av p] h c df = some { e := .ret, vs := [.bool (!validB p)], h := h, c := c, df := [] } := by
  refine pure_of' (fun r e => f64_go e) (by simp) ?_
  have e1 : p.take 4 = p := List.take_of_length_le (by omega)
  have c1 := fun H c => callF_valid p hp H c
  unfold f64_S
  cases hv : validB p with
  | true =>
    rw [hv] at c1
    repeat' (first
     | ((with_reducible first | refine Ans.bz ?_ | refine Ans.r1 ?_ | refine Ans.pkT ?_ | refine Ans.pkF ?_); try dsimp only [v_zero, v_succ])
     | (with_reducible first | refine Ans.btL ?_ | refine Ans.bfL ?_ | refine Ans.gyT ?_ | refine Ans.gyF ?_ | refine Ans.gyG ?_ | refine Ans.bb ?_ | refine Ans.bc ?_ | refine Ans.ba ?_)
     | ((with_reducible first | refine Ans.lsT ?_ ?_ | refine Ans.leT ?_ ?_ | refine Ans.grT ?_ ?_ | refine Ans.geT ?_ ?_ | refine Ans.eqT ?_ ?_ | refine Ans.neT ?_ ?_); (focus omega))
     | ((with_reducible first | refine Ans.lsF ?_ ?_ | refine Ans.leF ?_ ?_ | refine Ans.grF ?_ ?_ | refine Ans.geF ?_ ?_ | refine Ans.eqF ?_ ?_ | refine Ans.neF ?_ ?_); (focus omega))
     | (with_reducible first | refine Ans.lsS (fun _ => ?_) (fun _ => ?_) | refine Ans.leS (fun _ => ?_) (fun _ => ?_) | refine Ans.grS (fun _ => ?_) (fun _ => ?_) | refine Ans.geS (fun _ => ?_) (fun _ => ?_) | refine Ans.eqS (fun _ => ?_) (fun _ => ?_) | refine Ans.neS (fun _ => ?_) (fun _ => ?_))
     | ((with_reducible first | refine Ans.addN ?_ ?_ | refine Ans.add ?_ ?_ | refine Ans.sub ?_ ?_ | refine Ans.mul ?_ ?_); (focus omega))
     | ((with_reducible first | refine Ans.ct ?_ ?_); (focus (simp (disch := (first | omega | with_reducible assumption | (simp <;> omega) | fail)) [e1, hp, c1]; done)))
     | ((with_reducible first | refine Ans.cf ?_ ?_); (focus (simp (disch := (first | omega | with_reducible assumption | (simp <;> omega) | fail)) [e1, hp, c1]; done)))
     | (refine Ans.step (by simp (disch := (first | omega | with_reducible assumption | (simp <;> omega) | fail)) [e1, hp, c1, -List.getD_eq_getElem?_getD] <;> rfl) ?_; try dsimp only [v_zero, v_succ])
     | fail)
    exact Ans.pure rfl (by simp (disch := omega))
  | false =>
    rw [hv] at c1
    repeat' (first
     | ((with_reducible first | refine Ans.bz ?_ | refine Ans.r1 ?_ | refine Ans.pkT ?_ | refine Ans.pkF ?_); try dsimp only [v_zero, v_succ])
     | (with_reducible first | refine Ans.btL ?_ | refine Ans.bfL ?_ | refine Ans.gyT ?_ | refine Ans.gyF ?_ | refine Ans.gyG ?_ | refine Ans.bb ?_ | refine Ans.bc ?_ | refine Ans.ba ?_)
     | ((with_reducible first | refine Ans.lsT ?_ ?_ | refine Ans.leT ?_ ?_ | refine Ans.grT ?_ ?_ | refine Ans.geT ?_ ?_ | refine Ans.eqT ?_ ?_ | refine Ans.neT ?_ ?_); (focus omega))
     | ((with_reducible first | refine Ans.lsF ?_ ?_ | refine Ans.leF ?_ ?_ | refine Ans.grF ?_ ?_ | refine Ans.geF ?_ ?_ | refine Ans.eqF ?_ ?_ | refine Ans.neF ?_ ?_); (focus omega))
     | (with_reducible first | refine Ans.lsS (fun _ => ?_) (fun _ => ?_) | refine Ans.leS (fun _ => ?_) (fun _ => ?_) | refine Ans.grS (fun _ => ?_) (fun _ => ?_) | refine Ans.geS (fun _ => ?_) (fun _ => ?_) | refine Ans.eqS (fun _ => ?_) (fun _ => ?_) | refine Ans.neS (fun _ => ?_) (fun _ => ?_))
     | ((with_reducible first | refine Ans.addN ?_ ?_ | refine Ans.add ?_ ?_ | refine Ans.sub ?_ ?_ | refine Ans.mul ?_ ?_); (focus omega))
     | ((with_reducible first | refine Ans.ct ?_ ?_); (focus (simp (disch := (first | omega | with_reducible assumption | (simp <;> omega) | fail)) [e1, hp, c1]; done)))
     | ((with_reducible first | refine Ans.cf ?_ ?_); (focus (simp (disch := (first | omega | with_reducible assumption | (simp <;> omega) | fail)) [e1, hp, c1]; done)))
     | (refine Ans.step (by simp (disch := (first | omega | with_reducible assumption | (simp <;> omega) | fail)) [e1, hp, c1, -List.getD_eq_getElem?_getD] <;> rfl) ?_; try dsimp only [v_zero, v_succ])
     | fail)
    exact Ans.pure rfl (by simp (disch := omega))

theorem callV64 (h : FH) (c : Nat) (v : Value) : callV G h c (.func (.func 64) #[] #[]) [v] = callF G 64 [v] h c := by rfl
theorem callV_notValid (p : List Int) (hp : p.length = 4) (h : FH) (c : Nat) : callV G h c (.func (.func 64) #[] #[]) [av p] = some (.bool (!validB p), h, c) := by
  rw [callV64]; exact callF_of (notValid_sp p hp h c [])

theorem index_loop (sp : Value) (b : Nat) (Pm : List Int) (c : Nat) (h : FH) (hb : b ≤ 1000000000) (h3 : SlI h c sp 4 b Pm) (df : List Nat) :
    ∀ (k i : Nat) (z : Value), i + k = b → OkV c z →
    Ans (G (f72_k72000 none) [sp, .func (.func 64) #[] #[], z, .int .i64 b, .int .i64 i] h c df) fun r => r.h = h ∧ r.c = c ∧ r.df = df ∧
      ((r.e = .exit 0 ∧ ∀ j, i ≤ j → j < b → validB (permAt Pm j) = true) ∨ (r.e = .ret ∧ ∃ j : Nat, r.v 2 = .int .i64 j ∧ j < b ∧ validB (permAt Pm j) = false)) := by
  intro k
  have o1 := h3.okV
  have o2 : OkV c (.func (.func 64) #[] #[]) := OkV.fn c 64
  induction k with
  | zero =>
    intro i z hi hz
    obtain rfl : i = b := by omega
    refine Ans.loop (fun q r => f72_N72000) (fun q => f72_Z72000) ?_
    unfold f72_L72000
    repeat' (first
     | ((with_reducible first | refine Ans.bz ?_ | refine Ans.r1 ?_ | refine Ans.pkT ?_ | refine Ans.pkF ?_); try dsimp only [v_zero, v_succ])
     | (with_reducible first | refine Ans.btL ?_ | refine Ans.bfL ?_ | refine Ans.gyT ?_ | refine Ans.gyF ?_ | refine Ans.gyG ?_ | refine Ans.bb ?_ | refine Ans.bc ?_ | refine Ans.ba ?_)
     | ((with_reducible first | refine Ans.lsT ?_ ?_ | refine Ans.leT ?_ ?_ | refine Ans.grT ?_ ?_ | refine Ans.geT ?_ ?_ | refine Ans.eqT ?_ ?_ | refine Ans.neT ?_ ?_); (focus omega))
     | ((with_reducible first | refine Ans.lsF ?_ ?_ | refine Ans.leF ?_ ?_ | refine Ans.grF ?_ ?_ | refine Ans.geF ?_ ?_ | refine Ans.eqF ?_ ?_ | refine Ans.neF ?_ ?_); (focus omega))
     | (with_reducible first | refine Ans.lsS (fun _ => ?_) (fun _ => ?_) | refine Ans.leS (fun _ => ?_) (fun _ => ?_) | refine Ans.grS (fun _ => ?_) (fun _ => ?_) | refine Ans.geS (fun _ => ?_) (fun _ => ?_) | refine Ans.eqS (fun _ => ?_) (fun _ => ?_) | refine Ans.neS (fun _ => ?_) (fun _ => ?_))
     | ((with_reducible first | refine Ans.addN ?_ ?_ | refine Ans.add ?_ ?_ | refine Ans.sub ?_ ?_ | refine Ans.mul ?_ ?_); (focus omega))
     | ((with_reducible first | refine Ans.ct ?_ ?_); (focus (simp (disch := (first | omega | with_reducible assumption | (simp <;> omega) | fail)) []; done)))
     | ((with_reducible first | refine Ans.cf ?_ ?_); (focus (simp (disch := (first | omega | with_reducible assumption | (simp <;> omega) | fail)) []; done)))
     | (refine Ans.step (by simp (disch := (first | omega | with_reducible assumption | (simp <;> omega) | fail)) [-List.getD_eq_getElem?_getD] <;> rfl) ?_; try dsimp only [v_zero, v_succ])
     | fail)
    (refine Ans.exit0 ?_ ?_ ?_; (focus (simp (disch := (first | omega | with_reducible assumption | (simp <;> omega) | fail)) [o1, o2, hz]; done)); (focus (simp (disch := (first | omega | with_reducible assumption | (simp <;> omega) | fail)) [o1, o2, hz]; done)))
    exact ⟨rfl, rfl, rfl, .inl ⟨rfl, fun j h1 h2 => by omega⟩⟩
  | succ k ih =>
    intro i z hi hz
    have r1 := h3.perm i (by omega) (by omega)
    simp only [Int.toNat_natCast] at r1
    have c1 := fun H c => callV_notValid (permAt Pm i) (permAt_length h3.1 (by omega)) H c
    refine Ans.loop (fun q r => f72_N72000) (fun q => f72_Z72000) ?_
    unfold f72_L72000
    cases hv : validB (permAt Pm i) with
    | false =>
      rw [hv] at c1
      repeat' (first
       | ((with_reducible first | refine Ans.bz ?_ | refine Ans.r1 ?_ | refine Ans.pkT ?_ | refine Ans.pkF ?_); try dsimp only [v_zero, v_succ])
       | (with_reducible first | refine Ans.btL ?_ | refine Ans.bfL ?_ | refine Ans.gyT ?_ | refine Ans.gyF ?_ | refine Ans.gyG ?_ | refine Ans.bb ?_ | refine Ans.bc ?_ | refine Ans.ba ?_)
       | ((with_reducible first | refine Ans.lsT ?_ ?_ | refine Ans.leT ?_ ?_ | refine Ans.grT ?_ ?_ | refine Ans.geT ?_ ?_ | refine Ans.eqT ?_ ?_ | refine Ans.neT ?_ ?_); (focus omega))
       | ((with_reducible first | refine Ans.lsF ?_ ?_ | refine Ans.leF ?_ ?_ | refine Ans.grF ?_ ?_ | refine Ans.geF ?_ ?_ | refine Ans.eqF ?_ ?_ | refine Ans.neF ?_ ?_); (focus omega))
       | (with_reducible first | refine Ans.lsS (fun _ => ?_) (fun _ => ?_) | refine Ans.leS (fun _ => ?_) (fun _ => ?_) | refine Ans.grS (fun _ => ?_) (fun _ => ?_) | refine Ans.geS (fun _ => ?_) (fun _ => ?_) | refine Ans.eqS (fun _ => ?_) (fun _ => ?_) | refine Ans.neS (fun _ => ?_) (fun _ => ?_))
       | ((with_reducible first | refine Ans.addN ?_ ?_ | refine Ans.add ?_ ?_ | refine Ans.sub ?_ ?_ | refine Ans.mul ?_ ?_); (focus omega))
       | ((with_reducible first | refine Ans.ct ?_ ?_); (focus (simp (disch := (first | omega | with_reducible assumption | (simp <;> omega) | fail)) [h3.ixs, r1, c1]; done)))
       | ((with_reducible first | refine Ans.cf ?_ ?_); (focus (simp (disch := (first | omega | with_reducible assumption | (simp <;> omega) | fail)) [h3.ixs, r1, c1]; done)))
       | (refine Ans.step (by simp (disch := (first | omega | with_reducible assumption | (simp <;> omega) | fail)) [h3.ixs, r1, c1, -List.getD_eq_getElem?_getD] <;> rfl) ?_; try dsimp only [v_zero, v_succ])
       | fail)
      (refine Ans.ret0 ?_ ?_ ?_; (focus (simp (disch := (first | omega | with_reducible assumption | (simp <;> omega) | fail)) [o1, o2, hz]; done)); (focus (simp (disch := (first | omega | with_reducible assumption | (simp <;> omega) | fail)) [o1, o2, hz]; done)))
      exact ⟨rfl, rfl, rfl, .inr ⟨rfl, i, rfl, by omega, hv⟩⟩
    | true =>
      rw [hv] at c1
      repeat' (first
       | ((with_reducible first | refine Ans.bz ?_ | refine Ans.r1 ?_ | refine Ans.pkT ?_ | refine Ans.pkF ?_); try dsimp only [v_zero, v_succ])
       | (with_reducible first | refine Ans.btL ?_ | refine Ans.bfL ?_ | refine Ans.gyT ?_ | refine Ans.gyF ?_ | refine Ans.gyG ?_ | refine Ans.bb ?_ | refine Ans.bc ?_ | refine Ans.ba ?_)
       | ((with_reducible first | refine Ans.lsT ?_ ?_ | refine Ans.leT ?_ ?_ | refine Ans.grT ?_ ?_ | refine Ans.geT ?_ ?_ | refine Ans.eqT ?_ ?_ | refine Ans.neT ?_ ?_); (focus omega))
       | ((with_reducible first | refine Ans.lsF ?_ ?_ | refine Ans.leF ?_ ?_ | refine Ans.grF ?_ ?_ | refine Ans.geF ?_ ?_ | refine Ans.eqF ?_ ?_ | refine Ans.neF ?_ ?_); (focus omega))
       | (with_reducible first | refine Ans.lsS (fun _ => ?_) (fun _ => ?_) | refine Ans.leS (fun _ => ?_) (fun _ => ?_) | refine Ans.grS (fun _ => ?_) (fun _ => ?_) | refine Ans.geS (fun _ => ?_) (fun _ => ?_) | refine Ans.eqS (fun _ => ?_) (fun _ => ?_) | refine Ans.neS (fun _ => ?_) (fun _ => ?_))
       | ((with_reducible first | refine Ans.addN ?_ ?_ | refine Ans.add ?_ ?_ | refine Ans.sub ?_ ?_ | refine Ans.mul ?_ ?_); (focus omega))
       | ((with_reducible first | refine Ans.ct ?_ ?_); (focus (simp (disch := (first | omega | with_reducible assumption | (simp <;> omega) | fail)) [h3.ixs, r1, c1]; done)))
       | ((with_reducible first | refine Ans.cf ?_ ?_); (focus (simp (disch := (first | omega | with_reducible assumption | (simp <;> omega) | fail)) [h3.ixs, r1, c1]; done)))
       | (refine Ans.step (by simp (disch := (first | omega | with_reducible assumption | (simp <;> omega) | fail)) [h3.ixs, r1, c1, -List.getD_eq_getElem?_getD] <;> rfl) ?_; try dsimp only [v_zero, v_succ])
       | fail)
      (refine Ans.next0 ?_ ?_ ?_; (focus (simp (disch := (first | omega | with_reducible assumption | (simp <;> omega) | fail)) [o1, o2, hz]; done)); (focus (simp (disch := (first | omega | with_reducible assumption | (simp <;> omega) | fail)) [o1, o2, hz]; done)))
      refine (ih (i + 1) z (by omega) hz).mono ?_
      rintro r ⟨q1, q2, q3, q4⟩
      refine ⟨q1, q2, q3, q4.imp (fun ⟨a, b⟩ => ⟨a, fun j j1 j2 => ?_⟩) id⟩
      by_cases hj : j = i
      · rw [hj]; exact hv
      · exact b j (by omega) j2

def anyBad (Pm : List Int) (b : Nat) : Bool := (List.range b).any fun j => !validB (permAt Pm j)
theorem anyBad_false {Pm : List Int} {b : Nat} : anyBad Pm b = false ↔ ∀ j, j < b → validB (permAt Pm j) = true := by simp [anyBad]
theorem anyBad_true {Pm : List Int} {b : Nat} : anyBad Pm b = true ↔ ∃ j, j < b ∧ validB (permAt Pm j) = false := by simp [anyBad]

theorem contains_sp (sp : Value) (b : Nat) (Pm : List Int) (h : FH) (c : Nat) (df : List Nat) (hb : b ≤ 1000000000) (h3 : SlI h c sp 4 b Pm) :
    G (.fn 63) [sp, .func (.func 64) #[] #[]] h c df = some { e := .ret, vs := [.bool (anyBad Pm b)], h := h, c := c, df := [] } := by
  refine pure_of' (fun r e => f63_go e) (by simp) ?_
  have l1 := h3.len
  obtain ⟨⟨re, rv, rh, rc, rd⟩, hr, r1, r2, r3, r4⟩ := index_loop sp b Pm (c + 1 + 1 + 1 + 1) h hb (h3.mono (by omega)) [] b 0 (.int .i64 0) (by omega) (by simp)
  simp only at r1 r2 r3 r4
  subst r1 r2 r3
  simp only [Int.ofNat_eq_natCast, Int.cast_ofNat_Int] at hr
  have key : ∃ z : Int, (0 ≤ z ↔ anyBad Pm b = true) ∧ G (.fn 72) [sp, .func (.func 64) #[] #[]] rh (c + 1 + 1) [] = some { e := .ret, vs := [.int .i64 z], h := rh, c := c + 1 + 1, df := [] } := by
    rcases r4 with ⟨rfl, r5⟩ | ⟨rfl, j, r5, r6, r7⟩
    · refine ⟨-1, ?_, pure_of' (fun r e => f72_go e) (by simp) ?_⟩
      · have : anyBad Pm b = false := anyBad_false.2 fun j hj => r5 j (by omega) hj
        simp [this]
      · unfold f72_S
        repeat' (first
         | ((with_reducible first | refine Ans.bz ?_ | refine Ans.r1 ?_ | refine Ans.pkT ?_ | refine Ans.pkF ?_); try dsimp only [v_zero, v_succ])
         | (with_reducible first | refine Ans.btL ?_ | refine Ans.bfL ?_ | refine Ans.gyT ?_ | refine Ans.gyF ?_ | refine Ans.gyG ?_ | refine Ans.bb ?_ | refine Ans.bc ?_ | refine Ans.ba ?_)
         | ((with_reducible first | refine Ans.lsT ?_ ?_ | refine Ans.leT ?_ ?_ | refine Ans.grT ?_ ?_ | refine Ans.geT ?_ ?_ | refine Ans.eqT ?_ ?_ | refine Ans.neT ?_ ?_); (focus omega))
         | ((with_reducible first | refine Ans.lsF ?_ ?_ | refine Ans.leF ?_ ?_ | refine Ans.grF ?_ ?_ | refine Ans.geF ?_ ?_ | refine Ans.eqF ?_ ?_ | refine Ans.neF ?_ ?_); (focus omega))
         | (with_reducible first | refine Ans.lsS (fun _ => ?_) (fun _ => ?_) | refine Ans.leS (fun _ => ?_) (fun _ => ?_) | refine Ans.grS (fun _ => ?_) (fun _ => ?_) | refine Ans.geS (fun _ => ?_) (fun _ => ?_) | refine Ans.eqS (fun _ => ?_) (fun _ => ?_) | refine Ans.neS (fun _ => ?_) (fun _ => ?_))
         | ((with_reducible first | refine Ans.addN ?_ ?_ | refine Ans.add ?_ ?_ | refine Ans.sub ?_ ?_ | refine Ans.mul ?_ ?_); (focus omega))
         | ((with_reducible first | refine Ans.ct ?_ ?_); (focus (simp (disch := (first | omega | with_reducible assumption | (simp <;> omega) | fail)) [l1, hr]; done)))
         | ((with_reducible first | refine Ans.cf ?_ ?_); (focus (simp (disch := (first | omega | with_reducible assumption | (simp <;> omega) | fail)) [l1, hr]; done)))
         | (refine Ans.step (by simp (disch := (first | omega | with_reducible assumption | (simp <;> omega) | fail)) [l1, hr, -List.getD_eq_getElem?_getD] <;> rfl) ?_; try dsimp only [v_zero, v_succ])
         | fail)
        exact Ans.pure rfl (by simp)
    · refine ⟨j, ?_, pure_of' (fun r e => f72_go e) (by simp) ?_⟩
      · have : anyBad Pm b = true := anyBad_true.2 ⟨j, r6, r7⟩
        simp [this]
      · unfold f72_S
        repeat' (first
         | ((with_reducible first | refine Ans.bz ?_ | refine Ans.r1 ?_ | refine Ans.pkT ?_ | refine Ans.pkF ?_); try dsimp only [v_zero, v_succ])
         | (with_reducible first | refine Ans.btL ?_ | refine Ans.bfL ?_ | refine Ans.gyT ?_ | refine Ans.gyF ?_ | refine Ans.gyG ?_ | refine Ans.bb ?_ | refine Ans.bc ?_ | refine Ans.ba ?_)
         | ((with_reducible first | refine Ans.lsT ?_ ?_ | refine Ans.leT ?_ ?_ | refine Ans.grT ?_ ?_ | refine Ans.geT ?_ ?_ | refine Ans.eqT ?_ ?_ | refine Ans.neT ?_ ?_); (focus omega))
         | ((with_reducible first | refine Ans.lsF ?_ ?_ | refine Ans.leF ?_ ?_ | refine Ans.grF ?_ ?_ | refine Ans.geF ?_ ?_ | refine Ans.eqF ?_ ?_ | refine Ans.neF ?_ ?_); (focus omega))
         | (with_reducible first | refine Ans.lsS (fun _ => ?_) (fun _ => ?_) | refine Ans.leS (fun _ => ?_) (fun _ => ?_) | refine Ans.grS (fun _ => ?_) (fun _ => ?_) | refine Ans.geS (fun _ => ?_) (fun _ => ?_) | refine Ans.eqS (fun _ => ?_) (fun _ => ?_) | refine Ans.neS (fun _ => ?_) (fun _ => ?_))
         | ((with_reducible first | refine Ans.addN ?_ ?_ | refine Ans.add ?_ ?_ | refine Ans.sub ?_ ?_ | refine Ans.mul ?_ ?_); (focus omega))
         | ((with_reducible first | refine Ans.ct ?_ ?_); (focus (simp (disch := (first | omega | with_reducible assumption | (simp <;> omega) | fail)) [l1, hr]; done)))
         | ((with_reducible first | refine Ans.cf ?_ ?_); (focus (simp (disch := (first | omega | with_reducible assumption | (simp <;> omega) | fail)) [l1, hr]; done)))
         | (refine Ans.step (by simp (disch := (first | omega | with_reducible assumption | (simp <;> omega) | fail)) [l1, hr, -List.getD_eq_getElem?_getD] <;> rfl) ?_; try dsimp only [v_zero, v_succ])
         | fail)
        exact Ans.pure r5 (by simp)
  obtain ⟨z, hz, hc⟩ := key
  have c1 := callF_of hc
  unfold f63_S
  cases hv : anyBad Pm b with
  | true =>
    rw [hv] at hz
    have : 0 ≤ z := hz.2 rfl
    repeat' (first
     | ((with_reducible first | refine Ans.bz ?_ | refine Ans.r1 ?_ | refine Ans.pkT ?_ | refine Ans.pkF ?_); try dsimp only [v_zero, v_succ])
     | (with_reducible first | refine Ans.btL ?_ | refine Ans.bfL ?_ | refine Ans.gyT ?_ | refine Ans.gyF ?_ | refine Ans.gyG ?_ | refine Ans.bb ?_ | refine Ans.bc ?_ | refine Ans.ba ?_)
     | ((with_reducible first | refine Ans.lsT ?_ ?_ | refine Ans.leT ?_ ?_ | refine Ans.grT ?_ ?_ | refine Ans.geT ?_ ?_ | refine Ans.eqT ?_ ?_ | refine Ans.neT ?_ ?_); (focus omega))
     | ((with_reducible first | refine Ans.lsF ?_ ?_ | refine Ans.leF ?_ ?_ | refine Ans.grF ?_ ?_ | refine Ans.geF ?_ ?_ | refine Ans.eqF ?_ ?_ | refine Ans.neF ?_ ?_); (focus omega))
     | (with_reducible first | refine Ans.lsS (fun _ => ?_) (fun _ => ?_) | refine Ans.leS (fun _ => ?_) (fun _ => ?_) | refine Ans.grS (fun _ => ?_) (fun _ => ?_) | refine Ans.geS (fun _ => ?_) (fun _ => ?_) | refine Ans.eqS (fun _ => ?_) (fun _ => ?_) | refine Ans.neS (fun _ => ?_) (fun _ => ?_))
     | ((with_reducible first | refine Ans.addN ?_ ?_ | refine Ans.add ?_ ?_ | refine Ans.sub ?_ ?_ | refine Ans.mul ?_ ?_); (focus omega))
     | ((with_reducible first | refine Ans.ct ?_ ?_); (focus (simp (disch := (first | omega | with_reducible assumption | (simp <;> omega) | fail)) [c1]; done)))
     | ((with_reducible first | refine Ans.cf ?_ ?_); (focus (simp (disch := (first | omega | with_reducible assumption | (simp <;> omega) | fail)) [c1]; done)))
     | (refine Ans.step (by simp (disch := (first | omega | with_reducible assumption | (simp <;> omega) | fail)) [c1, -List.getD_eq_getElem?_getD] <;> rfl) ?_; try dsimp only [v_zero, v_succ])
     | fail)
    exact Ans.pure rfl (by simp)
  | false =>
    rw [hv] at hz
    have : ¬ 0 ≤ z := fun h => by simpa using hz.1 h
    repeat' (first
     | ((with_reducible first | refine Ans.bz ?_ | refine Ans.r1 ?_ | refine Ans.pkT ?_ | refine Ans.pkF ?_); try dsimp only [v_zero, v_succ])
     | (with_reducible first | refine Ans.btL ?_ | refine Ans.bfL ?_ | refine Ans.gyT ?_ | refine Ans.gyF ?_ | refine Ans.gyG ?_ | refine Ans.bb ?_ | refine Ans.bc ?_ | refine Ans.ba ?_)
     | ((with_reducible first | refine Ans.lsT ?_ ?_ | refine Ans.leT ?_ ?_ | refine Ans.grT ?_ ?_ | refine Ans.geT ?_ ?_ | refine Ans.eqT ?_ ?_ | refine Ans.neT ?_ ?_); (focus omega))
     | ((with_reducible first | refine Ans.lsF ?_ ?_ | refine Ans.leF ?_ ?_ | refine Ans.grF ?_ ?_ | refine Ans.geF ?_ ?_ | refine Ans.eqF ?_ ?_ | refine Ans.neF ?_ ?_); (focus omega))
     | (with_reducible first | refine Ans.lsS (fun _ => ?_) (fun _ => ?_) | refine Ans.leS (fun _ => ?_) (fun _ => ?_) | refine Ans.grS (fun _ => ?_) (fun _ => ?_) | refine Ans.geS (fun _ => ?_) (fun _ => ?_) | refine Ans.eqS (fun _ => ?_) (fun _ => ?_) | refine Ans.neS (fun _ => ?_) (fun _ => ?_))
     | ((with_reducible first | refine Ans.addN ?_ ?_ | refine Ans.add ?_ ?_ | refine Ans.sub ?_ ?_ | refine Ans.mul ?_ ?_); (focus omega))
     | ((with_reducible first | refine Ans.ct ?_ ?_); (focus (simp (disch := (first | omega | with_reducible assumption | (simp <;> omega) | fail)) [c1]; done)))
     | ((with_reducible first | refine Ans.cf ?_ ?_); (focus (simp (disch := (first | omega | with_reducible assumption | (simp <;> omega) | fail)) [c1]; done)))
     | (refine Ans.step (by simp (disch := (first | omega | with_reducible assumption | (simp <;> omega) | fail)) [c1, -List.getD_eq_getElem?_getD] <;> rfl) ?_; try dsimp only [v_zero, v_succ])
     | fail)
    exact Ans.pure rfl (by simp)

def fstE (E : Nat → Int) : Nat → Nat → Int
  | 0, _ => 0
  | k + 1, i => if E i = 0 then fstE E k (i + 1) else E i
theorem checked_loop (ss : List Value) (b : Nat) (E : Nat → Int) (h : FH) (c : Nat) (hb : b < 256 * c) (hl : ss.length ≤ 1000) (hh : Holds h b ss) (hE : ∀ i, i < ss.length → ∀ H c', Same c h H → c ≤ c' → callF G 57 [.agg #[ss.getD i undef]] H c' = some (.int .i64 (E i), H, c'))
    (hf : ∀ s ∈ ss, isFlat s = true) (df : List Nat) : ∀ (k i : Nat), i + k = ss.length →
    Ans (G (f31_k31000 none) [.int .i64 0, .slice (some ⟨b, 0, none⟩) ss.length ss.length, .int .i64 ss.length, .int .i64 i] h c df) fun r => r.h = h ∧ r.c = c ∧ r.df = df ∧
      ((r.e = .exit 0 ∧ fstE E k i = 0) ∨ (r.e = .ret ∧ r.v 0 = .int .i64 (fstE E k i))) := by
  intro k
  induction k with
  | zero =>
    intro i hi
    obtain rfl : i = ss.length := by omega
    refine Ans.loop (fun q r => f31_N31000) (fun q => f31_Z31000) ?_
    unfold f31_L31000
    repeat' (first
     | ((with_reducible first | refine Ans.bz ?_ | refine Ans.r1 ?_ | refine Ans.pkT ?_ | refine Ans.pkF ?_); try dsimp only [v_zero, v_succ])
     | (with_reducible first | refine Ans.btL ?_ | refine Ans.bfL ?_ | refine Ans.gyT ?_ | refine Ans.gyF ?_ | refine Ans.gyG ?_ | refine Ans.bb ?_ | refine Ans.bc ?_ | refine Ans.ba ?_)
     | ((with_reducible first | refine Ans.lsT ?_ ?_ | refine Ans.leT ?_ ?_ | refine Ans.grT ?_ ?_ | refine Ans.geT ?_ ?_ | refine Ans.eqT ?_ ?_ | refine Ans.neT ?_ ?_); (focus omega))
     | ((with_reducible first | refine Ans.lsF ?_ ?_ | refine Ans.leF ?_ ?_ | refine Ans.grF ?_ ?_ | refine Ans.geF ?_ ?_ | refine Ans.eqF ?_ ?_ | refine Ans.neF ?_ ?_); (focus omega))
     | (with_reducible first | refine Ans.lsS (fun _ => ?_) (fun _ => ?_) | refine Ans.leS (fun _ => ?_) (fun _ => ?_) | refine Ans.grS (fun _ => ?_) (fun _ => ?_) | refine Ans.geS (fun _ => ?_) (fun _ => ?_) | refine Ans.eqS (fun _ => ?_) (fun _ => ?_) | refine Ans.neS (fun _ => ?_) (fun _ => ?_))
     | ((with_reducible first | refine Ans.addN ?_ ?_ | refine Ans.add ?_ ?_ | refine Ans.sub ?_ ?_ | refine Ans.mul ?_ ?_); (focus omega))
     | ((with_reducible first | refine Ans.ct ?_ ?_); (focus (simp (disch := (first | omega | with_reducible assumption | (simp <;> omega) | fail)) []; done)))
     | ((with_reducible first | refine Ans.cf ?_ ?_); (focus (simp (disch := (first | omega | with_reducible assumption | (simp <;> omega) | fail)) []; done)))
     | (refine Ans.step (by simp (disch := (first | omega | with_reducible assumption | (simp <;> omega) | fail)) [-List.getD_eq_getElem?_getD] <;> rfl) ?_; try dsimp only [v_zero, v_succ])
     | fail)
    (refine Ans.exit0 ?_ ?_ ?_; (focus (simp (disch := (first | omega | with_reducible assumption | (simp <;> omega) | fail)) [hb]; done)); (focus (simp (disch := (first | omega | with_reducible assumption | (simp <;> omega) | fail)) [hb]; done)))
    exact ⟨rfl, rfl, rfl, .inl ⟨rfl, rfl⟩⟩
  | succ k ih =>
    intro i hi
    obtain ⟨s, hs⟩ : ∃ s, ss.getD i undef = s := ⟨_, rfl⟩
    have hil : i < ss.length := by omega
    have hsi : ss[i]? = some s := by rw [← hs]; simp [List.getD, List.getElem?_eq_getElem hil]
    have hsf : isFlat s = true := hf s (List.mem_of_getElem? hsi)
    have l1 : ldN h 1 (.pointer (some ⟨b, i, none⟩)) = some (.agg #[s]) := by
      rw [ldN_holds hh (by omega)]
      congr 2
      rw [List.drop_eq_getElem_cons hil, List.take_succ_cons, List.take_zero]
      have := (List.getElem?_eq_some_iff.1 hsi).2
      rw [this]
    have c1 := hE i hil (newB h (256 * (c + 1) + 2) [s]) (c + 1 + 1 + 1) (by simp (disch := omega)) (by omega)
    rw [hs] at c1
    have l2 : ldN (newB h (256 * (c + 1) + 2) [s]) 1 (.pointer (some ⟨256 * (c + 1) + 2, 0, none⟩)) = some (.agg #[s]) := ldN1_own (Holds.newB_same _ _ _)
    refine Ans.loop (fun q r => f31_N31000) (fun q => f31_Z31000) ?_
    unfold f31_L31000
    rw [fstE]
    repeat' (first
     | ((with_reducible first | refine Ans.bz ?_ | refine Ans.r1 ?_ | refine Ans.pkT ?_ | refine Ans.pkF ?_); try dsimp only [v_zero, v_succ])
     | (with_reducible first | refine Ans.btL ?_ | refine Ans.bfL ?_ | refine Ans.gyT ?_ | refine Ans.gyF ?_ | refine Ans.gyG ?_ | refine Ans.bb ?_ | refine Ans.bc ?_ | refine Ans.ba ?_)
     | ((with_reducible first | refine Ans.lsT ?_ ?_ | refine Ans.leT ?_ ?_ | refine Ans.grT ?_ ?_ | refine Ans.geT ?_ ?_ | refine Ans.eqT ?_ ?_ | refine Ans.neT ?_ ?_); (focus omega))
     | ((with_reducible first | refine Ans.lsF ?_ ?_ | refine Ans.leF ?_ ?_ | refine Ans.grF ?_ ?_ | refine Ans.geF ?_ ?_ | refine Ans.eqF ?_ ?_ | refine Ans.neF ?_ ?_); (focus omega))
     | (with_reducible first | refine Ans.lsS (fun _ => ?_) (fun _ => ?_) | refine Ans.leS (fun _ => ?_) (fun _ => ?_) | refine Ans.grS (fun _ => ?_) (fun _ => ?_) | refine Ans.geS (fun _ => ?_) (fun _ => ?_) | refine Ans.eqS (fun _ => ?_) (fun _ => ?_) | refine Ans.neS (fun _ => ?_) (fun _ => ?_))
     | ((with_reducible first | refine Ans.addN ?_ ?_ | refine Ans.add ?_ ?_ | refine Ans.sub ?_ ?_ | refine Ans.mul ?_ ?_); (focus omega))
     | ((with_reducible first | refine Ans.ct ?_ ?_); (focus (simp (disch := (first | omega | with_reducible assumption | (simp <;> omega) | fail)) [l1, l2, c1, hsf]; done)))
     | ((with_reducible first | refine Ans.cf ?_ ?_); (focus (simp (disch := (first | omega | with_reducible assumption | (simp <;> omega) | fail)) [l1, l2, c1, hsf]; done)))
     | (refine Ans.step (by simp (disch := (first | omega | with_reducible assumption | (simp <;> omega) | fail)) [l1, l2, c1, hsf, -List.getD_eq_getElem?_getD] <;> rfl) ?_; try dsimp only [v_zero, v_succ])
     | fail)
    · rename_i hne
      rw [if_neg hne]
      (refine Ans.ret0 ?_ ?_ ?_; (focus (simp (disch := (first | omega | with_reducible assumption | (simp <;> omega) | fail)) [hb]; done)); (focus (simp (disch := (first | omega | with_reducible assumption | (simp <;> omega) | fail)) [hb]; done)))
      exact ⟨rfl, rfl, rfl, .inr ⟨rfl, rfl⟩⟩
    · rename_i heq
      rw [if_pos heq]
      (refine Ans.next0 ?_ ?_ ?_; (focus (simp (disch := (first | omega | with_reducible assumption | (simp <;> omega) | fail)) [hb]; done)); (focus (simp (disch := (first | omega | with_reducible assumption | (simp <;> omega) | fail)) [hb]; done)))
      exact ih (i + 1) (by omega)

theorem checked_sp (ss : List Value) (b : Nat) (E : Nat → Int) (h : FH) (c : Nat) (df : List Nat) (hb : b < 256 * c) (hl : ss.length ≤ 1000) (hh : Holds h b ss) (hE : ∀ i, i < ss.length → ∀ H c', Same c h H → c ≤ c' → callF G 57 [.agg #[ss.getD i undef]] H c' = some (.int .i64 (E i), H, c'))
    (hf : ∀ s ∈ ss, isFlat s = true) : G (.fn 31) [.slice (some ⟨b, 0, none⟩) ss.length ss.length] h c df = some { e := .ret, vs := [.int .i64 (fstE E ss.length 0)], h := h, c := c, df := [] } := by
  refine pure_of' (fun r e => f31_go e) (by simp) ?_
  obtain ⟨⟨re, rv, rh, rc, rd⟩, hr, r1, r2, r3, r4⟩ := checked_loop ss b E h (c + 1 + 1) (by omega) hl hh (fun i hi H c' h1 h2 => hE i hi H c' (h1.mono (by omega)) (by omega)) hf [] ss.length 0 (by omega)
  simp only at r1 r2 r3 r4
  subst r1 r2 r3
  simp only [Int.ofNat_eq_natCast, Int.cast_ofNat_Int] at hr
  unfold f31_S
  rcases r4 with ⟨rfl, r5⟩ | ⟨rfl, r5⟩
  · repeat' (first
     | ((with_reducible first | refine Ans.bz ?_ | refine Ans.r1 ?_ | refine Ans.pkT ?_ | refine Ans.pkF ?_); try dsimp only [v_zero, v_succ])
     | (with_reducible first | refine Ans.btL ?_ | refine Ans.bfL ?_ | refine Ans.gyT ?_ | refine Ans.gyF ?_ | refine Ans.gyG ?_ | refine Ans.bb ?_ | refine Ans.bc ?_ | refine Ans.ba ?_)
     | ((with_reducible first | refine Ans.lsT ?_ ?_ | refine Ans.leT ?_ ?_ | refine Ans.grT ?_ ?_ | refine Ans.geT ?_ ?_ | refine Ans.eqT ?_ ?_ | refine Ans.neT ?_ ?_); (focus omega))
     | ((with_reducible first | refine Ans.lsF ?_ ?_ | refine Ans.leF ?_ ?_ | refine Ans.grF ?_ ?_ | refine Ans.geF ?_ ?_ | refine Ans.eqF ?_ ?_ | refine Ans.neF ?_ ?_); (focus omega))
     | (with_reducible first | refine Ans.lsS (fun _ => ?_) (fun _ => ?_) | refine Ans.leS (fun _ => ?_) (fun _ => ?_) | refine Ans.grS (fun _ => ?_) (fun _ => ?_) | refine Ans.geS (fun _ => ?_) (fun _ => ?_) | refine Ans.eqS (fun _ => ?_) (fun _ => ?_) | refine Ans.neS (fun _ => ?_) (fun _ => ?_))
     | ((with_reducible first | refine Ans.addN ?_ ?_ | refine Ans.add ?_ ?_ | refine Ans.sub ?_ ?_ | refine Ans.mul ?_ ?_); (focus omega))
     | ((with_reducible first | refine Ans.ct ?_ ?_); (focus (simp (disch := (first | omega | with_reducible assumption | (simp <;> omega) | fail)) [hr]; done)))
     | ((with_reducible first | refine Ans.cf ?_ ?_); (focus (simp (disch := (first | omega | with_reducible assumption | (simp <;> omega) | fail)) [hr]; done)))
     | (refine Ans.step (by simp (disch := (first | omega | with_reducible assumption | (simp <;> omega) | fail)) [hr, -List.getD_eq_getElem?_getD] <;> rfl) ?_; try dsimp only [v_zero, v_succ])
     | fail)
    exact Ans.pure (by rw [r5]) (by simp)
  · repeat' (first
     | ((with_reducible first | refine Ans.bz ?_ | refine Ans.r1 ?_ | refine Ans.pkT ?_ | refine Ans.pkF ?_); try dsimp only [v_zero, v_succ])
     | (with_reducible first | refine Ans.btL ?_ | refine Ans.bfL ?_ | refine Ans.gyT ?_ | refine Ans.gyF ?_ | refine Ans.gyG ?_ | refine Ans.bb ?_ | refine Ans.bc ?_ | refine Ans.ba ?_)
     | ((with_reducible first | refine Ans.lsT ?_ ?_ | refine Ans.leT ?_ ?_ | refine Ans.grT ?_ ?_ | refine Ans.geT ?_ ?_ | refine Ans.eqT ?_ ?_ | refine Ans.neT ?_ ?_); (focus omega))
     | ((with_reducible first | refine Ans.lsF ?_ ?_ | refine Ans.leF ?_ ?_ | refine Ans.grF ?_ ?_ | refine Ans.geF ?_ ?_ | refine Ans.eqF ?_ ?_ | refine Ans.neF ?_ ?_); (focus omega))
     | (with_reducible first | refine Ans.lsS (fun _ => ?_) (fun _ => ?_) | refine Ans.leS (fun _ => ?_) (fun _ => ?_) | refine Ans.grS (fun _ => ?_) (fun _ => ?_) | refine Ans.geS (fun _ => ?_) (fun _ => ?_) | refine Ans.eqS (fun _ => ?_) (fun _ => ?_) | refine Ans.neS (fun _ => ?_) (fun _ => ?_))
     | ((with_reducible first | refine Ans.addN ?_ ?_ | refine Ans.add ?_ ?_ | refine Ans.sub ?_ ?_ | refine Ans.mul ?_ ?_); (focus omega))
     | ((with_reducible first | refine Ans.ct ?_ ?_); (focus (simp (disch := (first | omega | with_reducible assumption | (simp <;> omega) | fail)) [hr]; done)))
     | ((with_reducible first | refine Ans.cf ?_ ?_); (focus (simp (disch := (first | omega | with_reducible assumption | (simp <;> omega) | fail)) [hr]; done)))
     | (refine Ans.step (by simp (disch := (first | omega | with_reducible assumption | (simp <;> omega) | fail)) [hr, -List.getD_eq_getElem?_getD] <;> rfl) ?_; try dsimp only [v_zero, v_succ])
     | fail)
    exact Ans.pure (by rw [r5]) (by simp)
end Go.Proofs.Ytemkjcpfgmbibaa

namespace Go.Proofs.Ytemkjcpfgmbibaa
open Go Go.Ab Go.Proofs
set_option maxRecDepth 100000
set_option linter.unusedVariables false
set_option linter.unusedSimpArgs false

theorem callF_composeR (p q : List Int) (hp : p ∈ p24) (hq : q ∈ p24) (h : FH) (c : Nat) : callF G 45 [av p, av q] h c = some (av (comp p q), h, c) := by
  rw [callF_of (composeR_sp p q (len24 hp) (len24 hq) h c []), compR, if_pos ⟨valid24 hp, valid24 hq⟩]
theorem callF_invR (p : List Int) (hp : p ∈ p24) (h : FH) (c : Nat) : callF G 47 [av p] h c = some (av (inv p), h, c) := by
  rw [callF_inverseR p (len24 hp), invR, if_pos (valid24 hp)]

set_option maxHeartbeats 400000 in
theorem rnR_in (s so sp sb v6 v11 : Value) (n : Nat) (Gl Ord Pm : List Int) (gb br cm c : Nat) (h : FH) (i : Nat) (hi : i < n) (hn : n ≤ 1000) (hcm : cm ≤ c) (hgb : gb < 256 * cm) (hbr : br < 256 * c) (hbr1 : 256 * cm ≤ br)
    (hh : Holds h gb [s]) (hg : SlI h cm s 20 n Gl) (ho : SlI h cm so 1 n Ord) (hp : SlI h cm sp 4 n Pm) (hb : SlI h cm sb 1 n (back Ord n)) (hok : RnOk Gl Ord Pm n) (hv6 : OkV c v6) (hv11 : OkV c v11) (df : List Nat) :
    ∀ (k f : Nat), f + k = 4 →
    Ans (G (f20_k20002 none) [so, sp, ptrTo gb, v6, .int .i64 n, sb, v11, .int .i64 i, ptrTo br, .int .i64 f] (newB h br (ints (rowP (rnF Gl Ord Pm (back Ord n) i) f))) c df)
      fun r => r = { e := .exit 4, vs := [so, sp, ptrTo gb, v6, .int .i64 n, sb, v11, .int .i64 i, ptrTo br, .int .i64 4], h := newB h br (ints (rowTo (rnF Gl Ord Pm (back Ord n) i) 4)), c := c, df := df } := by
  intro k
  have o1 := (hg.mono hcm).okV
  have o2 := (ho.mono hcm).okV
  have o3 := (hp.mono hcm).okV
  have o4 := (hb.mono hcm).okV
  have b1 := hg.blk (by omega)
  have b2 := ho.blk (by omega)
  have b3 := hp.blk (by omega)
  have b4 := hb.blk (by omega)
  induction k with
  | zero =>
    intro f hf
    obtain rfl : f = 4 := by omega
    refine Ans.loop (fun q r => f20_N20002) (fun q => f20_Z20002) ?_
    unfold f20_L20002
    repeat' (first
     | ((with_reducible first | refine Ans.bz ?_ | refine Ans.r1 ?_ | refine Ans.pkT ?_ | refine Ans.pkF ?_); try dsimp only [v_zero, v_succ])
     | (with_reducible first | refine Ans.btL ?_ | refine Ans.bfL ?_ | refine Ans.gyT ?_ | refine Ans.gyF ?_ | refine Ans.gyG ?_ | refine Ans.bb ?_ | refine Ans.bc ?_ | refine Ans.ba ?_)
     | ((with_reducible first | refine Ans.lsT ?_ ?_ | refine Ans.leT ?_ ?_ | refine Ans.grT ?_ ?_ | refine Ans.geT ?_ ?_ | refine Ans.eqT ?_ ?_ | refine Ans.neT ?_ ?_); (focus omega))
     | ((with_reducible first | refine Ans.lsF ?_ ?_ | refine Ans.leF ?_ ?_ | refine Ans.grF ?_ ?_ | refine Ans.geF ?_ ?_ | refine Ans.eqF ?_ ?_ | refine Ans.neF ?_ ?_); (focus omega))
     | (with_reducible first | refine Ans.lsS (fun _ => ?_) (fun _ => ?_) | refine Ans.leS (fun _ => ?_) (fun _ => ?_) | refine Ans.grS (fun _ => ?_) (fun _ => ?_) | refine Ans.geS (fun _ => ?_) (fun _ => ?_) | refine Ans.eqS (fun _ => ?_) (fun _ => ?_) | refine Ans.neS (fun _ => ?_) (fun _ => ?_))
     | ((with_reducible first | refine Ans.addN ?_ ?_ | refine Ans.add ?_ ?_ | refine Ans.sub ?_ ?_ | refine Ans.mul ?_ ?_); (focus omega))
     | ((with_reducible first | refine Ans.ct ?_ ?_); (focus (simp (disch := (first | omega | with_reducible assumption | (simp <;> omega) | fail)) []; done)))
     | ((with_reducible first | refine Ans.cf ?_ ?_); (focus (simp (disch := (first | omega | with_reducible assumption | (simp <;> omega) | fail)) []; done)))
     | (refine Ans.step (by simp (disch := (first | omega | with_reducible assumption | (simp <;> omega) | fail)) [-List.getD_eq_getElem?_getD] <;> rfl) ?_; try dsimp only [v_zero, v_succ])
     | fail)
    (refine Ans.exit0 ?_ ?_ ?_; (focus (simp (disch := (first | omega | with_reducible assumption | (simp <;> omega) | fail)) [o2, o3, o4, hv6, hv11, hgb, hbr]; done)); (focus (simp (disch := (first | omega | with_reducible assumption | (simp <;> omega) | fail)) [o2, o3, o4, hv6, hv11, hgb, hbr]; done)))
    rw [rowP_four]
    rfl
  | succ k ih =>
    intro f hf
    have hF : ∀ f, f < 4 → (rnF Gl Ord Pm (back Ord n) i f).length = 5 := fun f hf => rnF_length hok hi hf
    have ft : (f : Int) < 4 := by omega
    obtain ⟨x1, x2, x3⟩ := hok.rng i hi
    have hpi := hok.p24 hi
    have hpr := range24 hpi (i := f) (by omega)
    have e2 : ld1 h (.pointer (some ⟨gb, 0, none⟩)) = some s := by rw [ld1_holds' hh]; rfl
    have l1 := ho.rdi i (by omega) (by omega)
    have l2 := hp.perm i (by omega) (by omega)
    have l3 := hp.rd (i * 4 + f) (by omega)
    rw [← Nat.add_assoc] at l3
    simp only [Int.toNat_natCast] at l1 l2
    rw [gi_nat] at l1
    have l3' : Pm.getD (i * 4 + f) 0 = (permAt Pm i).getD f 0 := by rw [permAt, getD_take _ _ _ (by omega), getD_drop, Nat.mul_comm]
    rw [l3'] at l3
    obtain ⟨X, hX⟩ : ∃ X, Ord.getD i 0 = X := ⟨_, rfl⟩
    obtain ⟨Y, hY⟩ : ∃ Y, (permAt Pm i).getD f 0 = Y := ⟨_, rfl⟩
    have fin := hF f (by omega)
    have fdef : rnF Gl Ord Pm (back Ord n) i f = rnF Gl Ord Pm (back Ord n) i f := rfl
    conv at fdef => rhs; unfold rnF
    rw [hX, hY] at fdef
    rw [hX] at l1 x1 x2
    rw [hY] at l3 hpr
    have l4 := hg.face X Y x1 x2 hpr.1 hpr.2
    have okf := okAll_face hok.ok (t := X.toNat) (f := Y.toNat) (by omega) (by omega)
    have hfl := faceL_length hok.gl (t := X.toNat) (f := Y.toNat) (by omega) (by omega)
    have okg := okFace_glued okf
    obtain ⟨F, hFF⟩ : ∃ F, faceL Gl X.toNat Y.toNat = F := ⟨_, rfl⟩
    rw [hFF] at l4 hfl fdef okg
    clear okf
    have hT : F.getD 0 0 = tetL F := rfl
    obtain ⟨T, hTT⟩ : ∃ T, tetL F = T := ⟨_, rfl⟩
    rw [hTT] at hT okg fdef
    have b5 : ∀ H tm, ld1 (newB H tm (ints F)) (.pointer (some ⟨tm, 0, none⟩)) = some (.int .i64 T) := fun H tm => by
      rw [ld1_newB_same, ints_getD _ _ (by omega), hT]
    have b6 : ∀ H tm, ldN (newB H tm (ints F)) 4 (.pointer (some ⟨tm, 1, none⟩)) = some (av (permL F)) := fun H tm => by
      rw [ldN_newB_same _ _ _ _ _ (by simp [hfl]), ints_drop, ints_take]; rfl
    have hRl := rowP_length hF (f := f) (by omega)
    have hst : ∀ X, X.length = 5 → stN (newB h br (ints (rowP (rnF Gl Ord Pm (back Ord n) i) f))) 5 (.pointer (some ⟨br, f * 5, none⟩)) (av X) = some (newB h br (ints (rowTo (rnF Gl Ord Pm (back Ord n) i) f ++ X ++ List.replicate (20 - 5 * (f + 1)) 0))) := fun X hX => by
      rw [stN_newB_same _ _ _ _ _ _ (by simp [hX]) (by simp [hRl]; omega) (by simp)]
      rw [av_cells, splice_ints, Nat.mul_comm, rowP_put hF (by omega) X hX]
    have hs1 : stN (newB h br (ints (rowP (rnF Gl Ord Pm (back Ord n) i) f))) 1 (.pointer (some ⟨br, f * 5, none⟩)) (.int .i64 (-1)) = some (newB h br (ints (rowTo (rnF Gl Ord Pm (back Ord n) i) f ++ noneL ++ List.replicate (20 - 5 * (f + 1)) 0))) := by
      rw [st1_int _ _ _ _ _ _ (by simp [hRl]; omega), ints_set]
      congr 3
      rw [rowP, List.set_append_right _ _ (by rw [rowTo_length hF f (by omega)]; omega), rowTo_length hF f (by omega), show f * 5 - 5 * f = 0 by omega, show 20 - 5 * f = 5 + (20 - 5 * (f + 1)) by omega, ← List.replicate_append_replicate, List.append_assoc]
      rfl
    refine Ans.loop (fun q r => f20_N20002) (fun q => f20_Z20002) ?_
    unfold f20_L20002
    by_cases h0 : T < 0
    · clear okg
      rw [if_pos h0] at fdef
      have hs2 : stN (newB h br (ints (rowP (rnF Gl Ord Pm (back Ord n) i) f))) 1 (.pointer (some ⟨br, f * 5, none⟩)) (.int .i64 (-1)) = some (newB h br (ints (rowP (rnF Gl Ord Pm (back Ord n) i) (f + 1)))) := by
        rw [hs1, rowP, rowTo, fdef]
      repeat' (first
       | ((with_reducible first | refine Ans.bz ?_ | refine Ans.r1 ?_ | refine Ans.pkT ?_ | refine Ans.pkF ?_); try dsimp only [v_zero, v_succ])
       | (with_reducible first | refine Ans.btL ?_ | refine Ans.bfL ?_ | refine Ans.gyT ?_ | refine Ans.gyF ?_ | refine Ans.gyG ?_ | refine Ans.bb ?_ | refine Ans.bc ?_ | refine Ans.ba ?_)
       | ((with_reducible first | refine Ans.lsT ?_ ?_ | refine Ans.leT ?_ ?_ | refine Ans.grT ?_ ?_ | refine Ans.geT ?_ ?_ | refine Ans.eqT ?_ ?_ | refine Ans.neT ?_ ?_); (focus omega))
       | ((with_reducible first | refine Ans.lsF ?_ ?_ | refine Ans.leF ?_ ?_ | refine Ans.grF ?_ ?_ | refine Ans.geF ?_ ?_ | refine Ans.eqF ?_ ?_ | refine Ans.neF ?_ ?_); (focus omega))
       | (with_reducible first | refine Ans.lsS (fun _ => ?_) (fun _ => ?_) | refine Ans.leS (fun _ => ?_) (fun _ => ?_) | refine Ans.grS (fun _ => ?_) (fun _ => ?_) | refine Ans.geS (fun _ => ?_) (fun _ => ?_) | refine Ans.eqS (fun _ => ?_) (fun _ => ?_) | refine Ans.neS (fun _ => ?_) (fun _ => ?_))
       | ((with_reducible first | refine Ans.addN ?_ ?_ | refine Ans.add ?_ ?_ | refine Ans.sub ?_ ?_ | refine Ans.mul ?_ ?_); (focus omega))
       | ((with_reducible first | refine Ans.ct ?_ ?_); (focus (simp (disch := (first | omega | with_reducible assumption | (simp <;> omega) | fail)) [e2, ho.ixs1, hp.ixs, hg.ixs, hb.ixs1, l1, l2, l3, l4, b5, hs2, hfl]; done)))
       | ((with_reducible first | refine Ans.cf ?_ ?_); (focus (simp (disch := (first | omega | with_reducible assumption | (simp <;> omega) | fail)) [e2, ho.ixs1, hp.ixs, hg.ixs, hb.ixs1, l1, l2, l3, l4, b5, hs2, hfl]; done)))
       | (refine Ans.step (by simp (disch := (first | omega | with_reducible assumption | (simp <;> omega) | fail)) [e2, ho.ixs1, hp.ixs, hg.ixs, hb.ixs1, l1, l2, l3, l4, b5, hs2, hfl, -List.getD_eq_getElem?_getD] <;> rfl) ?_; try dsimp only [v_zero, v_succ])
       | fail)
      (refine Ans.nextB2 (B := newB h br (ints (rowP (rnF Gl Ord Pm (back Ord n) i) (f + 1)))) ?_ ?_ ?_ ?_; (focus (simp (disch := (first | omega | with_reducible assumption | (simp <;> omega) | fail)) [o2, o3, o4, hv6, hv11, hgb, hbr]; done)); (focus (simp (disch := (first | omega | with_reducible assumption | (simp <;> omega) | fail)) [o2, o3, o4, hv6, hv11, hgb, hbr]; done)); exact Upto.both (OkVs.ints _ _) (Upto.refl _ _) hbr)
      exact ih (f + 1) (by omega)
    · rw [if_neg h0] at fdef
      obtain ⟨tn, g1, -, -⟩ := okg h0
      clear okg
      have pf := mem24 (permL_length hfl) g1
      have kr : 0 ≤ gi (back Ord n) T ∧ gi (back Ord n) T < n := back_range Ord (n := n) (by omega) T.toNat (by omega)
      have l5 := hb.rdi T (by omega) tn
      have e7 : (back Ord n).getD T.toNat 0 = gi (back Ord n) T := rfl
      rw [e7] at fdef
      obtain ⟨K, hK⟩ : ∃ K, gi (back Ord n) T = K := ⟨_, rfl⟩
      rw [hK] at kr l5 fdef
      have l6 := hp.perm K kr.1 kr.2
      have pk := hok.p24 (j := K.toNat) (by omega)
      have c1 := fun H c => callF_invR _ pk H c
      have c2 := fun H c => callF_composeR _ _ pf hpi H c
      have c3 := fun H c => callF_composeR _ _ (inv24 pk) (comp24 pf hpi) H c
      have cl : (comp (inv (permAt Pm K.toNat)) (comp (permL F) (permAt Pm i))).length = 4 := by rw [comp_length, comp_length, len24 hpi]
      have c4 := bld5 K _ cl
      have hst2 := hst (K :: comp (inv (permAt Pm K.toNat)) (comp (permL F) (permAt Pm i))) (by simp [cl])
      have hst3 : stN (newB h br (ints (rowP (rnF Gl Ord Pm (back Ord n) i) f))) 5 (.pointer (some ⟨br, f * 5, none⟩)) (av (K :: comp (inv (permAt Pm K.toNat)) (comp (permL F) (permAt Pm i)))) = some (newB h br (ints (rowP (rnF Gl Ord Pm (back Ord n) i) (f + 1)))) := by
        rw [hst2, rowP, rowTo, fdef]
      repeat' (first
       | ((with_reducible first | refine Ans.bz ?_ | refine Ans.r1 ?_ | refine Ans.pkT ?_ | refine Ans.pkF ?_); try dsimp only [v_zero, v_succ])
       | (with_reducible first | refine Ans.btL ?_ | refine Ans.bfL ?_ | refine Ans.gyT ?_ | refine Ans.gyF ?_ | refine Ans.gyG ?_ | refine Ans.bb ?_ | refine Ans.bc ?_ | refine Ans.ba ?_)
       | ((with_reducible first | refine Ans.lsT ?_ ?_ | refine Ans.leT ?_ ?_ | refine Ans.grT ?_ ?_ | refine Ans.geT ?_ ?_ | refine Ans.eqT ?_ ?_ | refine Ans.neT ?_ ?_); (focus omega))
       | ((with_reducible first | refine Ans.lsF ?_ ?_ | refine Ans.leF ?_ ?_ | refine Ans.grF ?_ ?_ | refine Ans.geF ?_ ?_ | refine Ans.eqF ?_ ?_ | refine Ans.neF ?_ ?_); (focus omega))
       | (with_reducible first | refine Ans.lsS (fun _ => ?_) (fun _ => ?_) | refine Ans.leS (fun _ => ?_) (fun _ => ?_) | refine Ans.grS (fun _ => ?_) (fun _ => ?_) | refine Ans.geS (fun _ => ?_) (fun _ => ?_) | refine Ans.eqS (fun _ => ?_) (fun _ => ?_) | refine Ans.neS (fun _ => ?_) (fun _ => ?_))
       | ((with_reducible first | refine Ans.addN ?_ ?_ | refine Ans.add ?_ ?_ | refine Ans.sub ?_ ?_ | refine Ans.mul ?_ ?_); (focus omega))
       | ((with_reducible first | refine Ans.ct ?_ ?_); (focus (simp (disch := (first | omega | with_reducible assumption | (simp <;> omega) | fail)) [e2, ho.ixs1, hp.ixs, hg.ixs, hb.ixs1, l1, l2, l3, l4, l5, l6, b5, b6, hfl, c1, c2, c3, c4, hst3, -ldN_newB_same]; done)))
       | ((with_reducible first | refine Ans.cf ?_ ?_); (focus (simp (disch := (first | omega | with_reducible assumption | (simp <;> omega) | fail)) [e2, ho.ixs1, hp.ixs, hg.ixs, hb.ixs1, l1, l2, l3, l4, l5, l6, b5, b6, hfl, c1, c2, c3, c4, hst3, -ldN_newB_same]; done)))
       | (refine Ans.step (by simp (disch := (first | omega | with_reducible assumption | (simp <;> omega) | fail)) [e2, ho.ixs1, hp.ixs, hg.ixs, hb.ixs1, l1, l2, l3, l4, l5, l6, b5, b6, hfl, c1, c2, c3, c4, hst3, -ldN_newB_same, -List.getD_eq_getElem?_getD] <;> rfl) ?_; try dsimp only [v_zero, v_succ])
       | fail)
      (refine Ans.nextB2 (B := newB h br (ints (rowP (rnF Gl Ord Pm (back Ord n) i) (f + 1)))) ?_ ?_ ?_ ?_; (focus (simp (disch := (first | omega | with_reducible assumption | (simp <;> omega) | fail)) [o2, o3, o4, hv6, hv11, hgb, hbr]; done)); (focus (simp (disch := (first | omega | with_reducible assumption | (simp <;> omega) | fail)) [o2, o3, o4, hv6, hv11, hgb, hbr]; done)); exact Upto.both (OkVs.ints _ _) (Upto.refl _ _) hbr)
      exact ih (f + 1) (by omega)

theorem rnR_back (so sp sb v2 v3 : Value) (n : Nat) (Ord : List Int) (bm cm c : Nat) (h : FH) (hn : n ≤ 1000) (hcm : cm ≤ c) (hbm : bm < 256 * c) (hbm1 : 256 * cm ≤ bm) (hsb : sb = .slice (some ⟨bm, 0, none⟩) n n)
    (ho : SlI h cm so 1 n Ord) (hO : ∀ j, j < n → 0 ≤ Ord.getD j 0 ∧ Ord.getD j 0 < n) (o1 : OkV c sp) (o2 : OkV c v2) (o3 : OkV c v3) (df : List Nat) :
    ∀ (k i : Nat) (l : List Int), i + k = n → l.length = n →
    Ans (G (f20_k20000 none) [so, sp, v2, v3, .int .i64 n, sb, .int .i64 i] (newB h bm (ints l)) c df)
      fun r => r = { e := .exit 0, vs := [so, sp, v2, v3, .int .i64 n, sb, .int .i64 n], h := newB h bm (ints (backL Ord k i l)), c := c, df := df } := by
  intro k
  have o4 := (ho.mono hcm).okV
  subst hsb
  induction k with
  | zero =>
    intro i l hi hl
    obtain rfl : i = n := by omega
    refine Ans.loop (fun q r => f20_N20000) (fun q => f20_Z20000) ?_
    unfold f20_L20000
    repeat' (first
     | ((with_reducible first | refine Ans.bz ?_ | refine Ans.r1 ?_ | refine Ans.pkT ?_ | refine Ans.pkF ?_); try dsimp only [v_zero, v_succ])
     | (with_reducible first | refine Ans.btL ?_ | refine Ans.bfL ?_ | refine Ans.gyT ?_ | refine Ans.gyF ?_ | refine Ans.gyG ?_ | refine Ans.bb ?_ | refine Ans.bc ?_ | refine Ans.ba ?_)
     | ((with_reducible first | refine Ans.lsT ?_ ?_ | refine Ans.leT ?_ ?_ | refine Ans.grT ?_ ?_ | refine Ans.geT ?_ ?_ | refine Ans.eqT ?_ ?_ | refine Ans.neT ?_ ?_); (focus omega))
     | ((with_reducible first | refine Ans.lsF ?_ ?_ | refine Ans.leF ?_ ?_ | refine Ans.grF ?_ ?_ | refine Ans.geF ?_ ?_ | refine Ans.eqF ?_ ?_ | refine Ans.neF ?_ ?_); (focus omega))
     | (with_reducible first | refine Ans.lsS (fun _ => ?_) (fun _ => ?_) | refine Ans.leS (fun _ => ?_) (fun _ => ?_) | refine Ans.grS (fun _ => ?_) (fun _ => ?_) | refine Ans.geS (fun _ => ?_) (fun _ => ?_) | refine Ans.eqS (fun _ => ?_) (fun _ => ?_) | refine Ans.neS (fun _ => ?_) (fun _ => ?_))
     | ((with_reducible first | refine Ans.addN ?_ ?_ | refine Ans.add ?_ ?_ | refine Ans.sub ?_ ?_ | refine Ans.mul ?_ ?_); (focus omega))
     | ((with_reducible first | refine Ans.ct ?_ ?_); (focus (simp (disch := (first | omega | with_reducible assumption | (simp <;> omega) | fail)) []; done)))
     | ((with_reducible first | refine Ans.cf ?_ ?_); (focus (simp (disch := (first | omega | with_reducible assumption | (simp <;> omega) | fail)) []; done)))
     | (refine Ans.step (by simp (disch := (first | omega | with_reducible assumption | (simp <;> omega) | fail)) [-List.getD_eq_getElem?_getD] <;> rfl) ?_; try dsimp only [v_zero, v_succ])
     | fail)
    (refine Ans.exit0 ?_ ?_ ?_; (focus (simp (disch := (first | omega | with_reducible assumption | (simp <;> omega) | fail)) [o1, o2, o3, o4, hbm]; done)); (focus (simp (disch := (first | omega | with_reducible assumption | (simp <;> omega) | fail)) [o1, o2, o3, o4, hbm]; done)))
    rfl
  | succ k ih =>
    intro i l hi hl
    have b1 := ho.blk (by omega)
    have l1 := ho.rdi i (by omega) (by omega)
    have x1 := hO i (by omega)
    simp only [Int.toNat_natCast] at l1
    rw [gi_nat] at l1
    rw [backL]
    obtain ⟨X, hX⟩ : ∃ X, Ord.getD i 0 = X := ⟨_, rfl⟩
    rw [hX] at l1 x1 ⊢
    have hst : stN (newB h bm (ints l)) 1 (.pointer (some ⟨bm, X.toNat, none⟩)) (.int .i64 i) = some (newB h bm (ints (l.set X.toNat i))) := by
      rw [st1_int _ _ _ _ _ _ (by simp; omega), ints_set]
    refine Ans.loop (fun q r => f20_N20000) (fun q => f20_Z20000) ?_
    unfold f20_L20000
    repeat' (first
     | ((with_reducible first | refine Ans.bz ?_ | refine Ans.r1 ?_ | refine Ans.pkT ?_ | refine Ans.pkF ?_); try dsimp only [v_zero, v_succ])
     | (with_reducible first | refine Ans.btL ?_ | refine Ans.bfL ?_ | refine Ans.gyT ?_ | refine Ans.gyF ?_ | refine Ans.gyG ?_ | refine Ans.bb ?_ | refine Ans.bc ?_ | refine Ans.ba ?_)
     | ((with_reducible first | refine Ans.lsT ?_ ?_ | refine Ans.leT ?_ ?_ | refine Ans.grT ?_ ?_ | refine Ans.geT ?_ ?_ | refine Ans.eqT ?_ ?_ | refine Ans.neT ?_ ?_); (focus omega))
     | ((with_reducible first | refine Ans.lsF ?_ ?_ | refine Ans.leF ?_ ?_ | refine Ans.grF ?_ ?_ | refine Ans.geF ?_ ?_ | refine Ans.eqF ?_ ?_ | refine Ans.neF ?_ ?_); (focus omega))
     | (with_reducible first | refine Ans.lsS (fun _ => ?_) (fun _ => ?_) | refine Ans.leS (fun _ => ?_) (fun _ => ?_) | refine Ans.grS (fun _ => ?_) (fun _ => ?_) | refine Ans.geS (fun _ => ?_) (fun _ => ?_) | refine Ans.eqS (fun _ => ?_) (fun _ => ?_) | refine Ans.neS (fun _ => ?_) (fun _ => ?_))
     | ((with_reducible first | refine Ans.addN ?_ ?_ | refine Ans.add ?_ ?_ | refine Ans.sub ?_ ?_ | refine Ans.mul ?_ ?_); (focus omega))
     | ((with_reducible first | refine Ans.ct ?_ ?_); (focus (simp (disch := (first | omega | with_reducible assumption | (simp <;> omega) | fail)) [ho.ixs1, l1, hst]; done)))
     | ((with_reducible first | refine Ans.cf ?_ ?_); (focus (simp (disch := (first | omega | with_reducible assumption | (simp <;> omega) | fail)) [ho.ixs1, l1, hst]; done)))
     | (refine Ans.step (by simp (disch := (first | omega | with_reducible assumption | (simp <;> omega) | fail)) [ho.ixs1, l1, hst, -List.getD_eq_getElem?_getD] <;> rfl) ?_; try dsimp only [v_zero, v_succ])
     | fail)
    (refine Ans.nextB2 (B := newB h bm (ints (l.set X.toNat i))) ?_ ?_ ?_ ?_; (focus (simp (disch := (first | omega | with_reducible assumption | (simp <;> omega) | fail)) [o1, o2, o3, o4, hbm]; done)); (focus (simp (disch := (first | omega | with_reducible assumption | (simp <;> omega) | fail)) [o1, o2, o3, o4, hbm]; done)); exact Upto.both (OkVs.ints _ _) (Upto.refl _ _) hbm)
    exact ih (i + 1) _ (by omega) (by simpa using hl)

theorem rnR_mid (s so sp sb v6 : Value) (n : Nat) (Gl Ord Pm : List Int) (gb bo cm c1 : Nat) (h : FH) (hn : n ≤ 1000) (hgb : gb < 256 * cm) (hbo : 256 * cm ≤ bo) (hbo1 : bo < 256 * c1) (hcm : cm ≤ c1)
    (hh : Holds h gb [s]) (hg : SlI h cm s 20 n Gl) (ho : SlI h cm so 1 n Ord) (hp : SlI h cm sp 4 n Pm) (hb : SlI h cm sb 1 n (back Ord n)) (hok : RnOk Gl Ord Pm n) (hv6 : OkV cm v6) (df : List Nat) :
    ∀ (k i c : Nat) (H : FH) (v : Value), i + k = n → c1 ≤ c → Same cm h H → H.f bo = some (.cells false none [v]) → AppS c1 H c v 20 i (rnL Gl Ord Pm (back Ord n) i) →
    Ans (G (f20_k20001 none) [so, sp, ptrTo gb, v6, .int .i64 n, sb, ptrTo bo, .int .i64 i] H c df)
      fun r => r.e = .exit 2 ∧ r.vs = [so, sp, ptrTo gb, v6, .int .i64 n, sb, ptrTo bo, .int .i64 n] ∧ r.df = df ∧ c ≤ r.c ∧ Same cm h r.h ∧
        ∃ v, r.h.f bo = some (.cells false none [v]) ∧ AppS c1 r.h r.c v 20 n (rnL Gl Ord Pm (back Ord n) n) := by
  intro k
  induction k with
  | zero =>
    intro i c H v hi hc hH hv ha
    obtain rfl : i = n := by omega
    refine Ans.loop' (fun q r => f20_N20001) (fun q => f20_Z20001) ?_
    unfold f20_L20001
    repeat' (first
     | ((with_reducible first | refine Ans.bz ?_ | refine Ans.r1 ?_ | refine Ans.pkT ?_ | refine Ans.pkF ?_); try dsimp only [v_zero, v_succ])
     | (with_reducible first | refine Ans.btL ?_ | refine Ans.bfL ?_ | refine Ans.gyT ?_ | refine Ans.gyF ?_ | refine Ans.gyG ?_ | refine Ans.bb ?_ | refine Ans.bc ?_ | refine Ans.ba ?_)
     | ((with_reducible first | refine Ans.lsT ?_ ?_ | refine Ans.leT ?_ ?_ | refine Ans.grT ?_ ?_ | refine Ans.geT ?_ ?_ | refine Ans.eqT ?_ ?_ | refine Ans.neT ?_ ?_); (focus omega))
     | ((with_reducible first | refine Ans.lsF ?_ ?_ | refine Ans.leF ?_ ?_ | refine Ans.grF ?_ ?_ | refine Ans.geF ?_ ?_ | refine Ans.eqF ?_ ?_ | refine Ans.neF ?_ ?_); (focus omega))
     | (with_reducible first | refine Ans.lsS (fun _ => ?_) (fun _ => ?_) | refine Ans.leS (fun _ => ?_) (fun _ => ?_) | refine Ans.grS (fun _ => ?_) (fun _ => ?_) | refine Ans.geS (fun _ => ?_) (fun _ => ?_) | refine Ans.eqS (fun _ => ?_) (fun _ => ?_) | refine Ans.neS (fun _ => ?_) (fun _ => ?_))
     | ((with_reducible first | refine Ans.addN ?_ ?_ | refine Ans.add ?_ ?_ | refine Ans.sub ?_ ?_ | refine Ans.mul ?_ ?_); (focus omega))
     | ((with_reducible first | refine Ans.ct ?_ ?_); (focus (simp (disch := (first | omega | with_reducible assumption | (simp <;> omega) | fail)) []; done)))
     | ((with_reducible first | refine Ans.cf ?_ ?_); (focus (simp (disch := (first | omega | with_reducible assumption | (simp <;> omega) | fail)) []; done)))
     | (refine Ans.step (by simp (disch := (first | omega | with_reducible assumption | (simp <;> omega) | fail)) [-List.getD_eq_getElem?_getD] <;> rfl) ?_; try dsimp only [v_zero, v_succ])
     | fail)
    exact Ans.exitN ⟨rfl, rfl, rfl, (by show c ≤ c + 1; omega), hH, v, hv, ha.mono (by show c ≤ c + 1; omega)⟩
  | succ k ih =>
    intro i c H v hi hc hH hv ha
    have hF : ∀ f, f < 4 → (rnF Gl Ord Pm (back Ord n) i f).length = 5 := fun f hf => rnF_length hok (by omega) hf
    have hin := Ans.eq (rnR_in s so sp sb v6 (ptrTo bo) n Gl Ord Pm gb (256 * (c + 1)) cm (c + 1 + 1 + 1) H i (by omega) hn (by omega) hgb (by omega) (by omega)
      (hh.same hgb hH) (hg.same hH) (ho.same hH) (hp.same hH) (hb.same hH) hok (by obtain ⟨v', hv'⟩ := hv6; exact OkV.mono (by omega) ⟨v', hv'⟩) (OkV.ptrTo (by omega)) df 4 0 rfl)
    have hz : ints (rowP (rnF Gl Ord Pm (back Ord n) i) 0) = [(.int .i64 0), (.int .i64 0), (.int .i64 0), (.int .i64 0), (.int .i64 0), (.int .i64 0), (.int .i64 0), (.int .i64 0), (.int .i64 0), (.int .i64 0), (.int .i64 0), (.int .i64 0), (.int .i64 0), (.int .i64 0), (.int .i64 0), (.int .i64 0), (.int .i64 0), (.int .i64 0), (.int .i64 0), (.int .i64 0)] := rfl
    rw [hz] at hin
    simp only [Int.ofNat_eq_natCast, Int.cast_ofNat_Int] at hin
    have hRl := rowTo_length hF 4 (by omega)
    obtain ⟨R, hR⟩ : ∃ R, rowTo (rnF Gl Ord Pm (back Ord n) i) 4 = R := ⟨_, rfl⟩
    have hL : rnL Gl Ord Pm (back Ord n) (i + 1) = rnL Gl Ord Pm (back Ord n) i ++ R := by rw [rnL, hR]
    rw [hR] at hin hRl
    have lv : ld1 H (.pointer (some ⟨bo, 0, none⟩)) = some v := by rw [ld1_holds' (cs := [v]) ⟨false, none, hv⟩]; rfl
    have lr : ldN (newB H (256 * (c + 1)) (ints R)) 20 (.pointer (some ⟨256 * (c + 1), 0, none⟩)) = some (av R) := by
      rw [ldN_newB_same _ _ _ _ _ (by simp [hRl]), List.drop_zero, List.take_of_length_le (by simp [hRl])]; rfl
    have hbl := bldL20 R hRl
    obtain ⟨v', h', e1, e2, e3, e4⟩ := (ha.keep (h' := newB H (256 * (c + 1)) (ints R)) (fun j _ hj => by rw [newB_f, if_neg (by omega)])).mono (c' := c + 1 + 1 + 1) (by omega) |>.app (c' := c + 1 + 1 + 1 + 1 + 1) R hRl (by omega) 160 (256 * (c + 1 + 1 + 1) + 3) (256 * (c + 1 + 1 + 1) + 4) (by omega) (by omega) (by omega) (by omega) (by omega) (by omega)
    have hs0 : Same c1 H h' := Same.trans ((Same_newB (by omega)).2 (Same.refl _ _)) e3
    have hv' : h'.f bo = some (.cells false none [v]) := (hs0 bo hbo1).trans hv
    have hst := st1_get (v := v') (o := 0) (show HeapC.get h' bo = _ from hv') (by simp) e2.flat.2 e2.flat.1
    refine Ans.loop' (fun q r => f20_N20001) (fun q => f20_Z20001) ?_
    unfold f20_L20001
    repeat' (first
     | ((with_reducible first | refine Ans.bz ?_ | refine Ans.r1 ?_ | refine Ans.pkT ?_ | refine Ans.pkF ?_); try dsimp only [v_zero, v_succ])
     | (with_reducible first | refine Ans.btL ?_ | refine Ans.bfL ?_ | refine Ans.gyT ?_ | refine Ans.gyF ?_ | refine Ans.gyG ?_ | refine Ans.bb ?_ | refine Ans.bc ?_ | refine Ans.ba ?_)
     | ((with_reducible first | refine Ans.lsT ?_ ?_ | refine Ans.leT ?_ ?_ | refine Ans.grT ?_ ?_ | refine Ans.geT ?_ ?_ | refine Ans.eqT ?_ ?_ | refine Ans.neT ?_ ?_); (focus omega))
     | ((with_reducible first | refine Ans.lsF ?_ ?_ | refine Ans.leF ?_ ?_ | refine Ans.grF ?_ ?_ | refine Ans.geF ?_ ?_ | refine Ans.eqF ?_ ?_ | refine Ans.neF ?_ ?_); (focus omega))
     | (with_reducible first | refine Ans.lsS (fun _ => ?_) (fun _ => ?_) | refine Ans.leS (fun _ => ?_) (fun _ => ?_) | refine Ans.grS (fun _ => ?_) (fun _ => ?_) | refine Ans.geS (fun _ => ?_) (fun _ => ?_) | refine Ans.eqS (fun _ => ?_) (fun _ => ?_) | refine Ans.neS (fun _ => ?_) (fun _ => ?_))
     | ((with_reducible first | refine Ans.addN ?_ ?_ | refine Ans.add ?_ ?_ | refine Ans.sub ?_ ?_ | refine Ans.mul ?_ ?_); (focus omega))
     | ((with_reducible first | refine Ans.ct ?_ ?_); (focus (simp (disch := (first | omega | with_reducible assumption | (simp <;> omega) | fail)) [hin, lv, lr, hbl, e1, hst]; done)))
     | ((with_reducible first | refine Ans.cf ?_ ?_); (focus (simp (disch := (first | omega | with_reducible assumption | (simp <;> omega) | fail)) [hin, lv, lr, hbl, e1, hst]; done)))
     | (refine Ans.step (by simp (disch := (first | omega | with_reducible assumption | (simp <;> omega) | fail)) [hin, lv, lr, hbl, e1, hst, -List.getD_eq_getElem?_getD] <;> rfl) ?_; try dsimp only [v_zero, v_succ])
     | fail)
    refine Ans.nextN ?_
    refine (ih (i + 1) _ _ v' (by omega) (by omega) ?_ ?_ ?_).mono ?_
    · intro j hj
      rw [set_f, if_neg (by omega), hs0 j (by omega), hH j hj]
    · rw [set_f, if_pos rfl]
    · rw [hL]
      exact e2.keep (fun j h1 h2 => by rw [set_f, if_neg (by omega)])
    · rintro r ⟨q1, q2, q3, q4, q5, q6⟩
      exact ⟨q1, q2, q3, by omega, q5, q6⟩
end Go.Proofs.Ytemkjcpfgmbibaa

namespace Go.Proofs.Ytemkjcpfgmbibaa
open Go Go.Ab Go.Proofs
set_option maxRecDepth 100000
set_option linter.unusedVariables false
set_option linter.unusedSimpArgs false

theorem callF_checkR (s : Value) (n : Nat) (Gl : List Int) (h : FH) (c : Nat) (hs : SlI h c s 20 n Gl) : callF G 23 [.agg #[s]] h c = some (.int .i64 (if n ≤ 1000 ∧ okAll Gl n = true then 0 else 7), h, c) := callF_of (checkR_sp s n Gl h c [] hs)

set_option maxHeartbeats 1000000 in
theorem renumR_sp (s so sp : Value) (n a b : Nat) (Gl Ord Pm : List Int) (h : FH) (c : Nat) (df : List Nat) (hs : SlI h c s 20 n Gl) (ho : SlI h c so 1 a Ord) (hp : SlI h c sp 4 b Pm) :
    Ans (G (.fn 20) [.agg #[s], so, sp] h c df) (RnPost h c Gl Ord Pm n a b) := by
  refine Ans.call' (fun r e => f20_go e) ?_
  have hflat : ((Value.agg #[s]).cells.toList.all isFlat) = true := by simp [Value.cells, hs.flat]
  have hcell : (Value.agg #[s]).cells.toList = [s] := rfl
  unfold f20_S
  rw [hflat, hcell]
  simp only [cond_true]
  obtain ⟨H, hH⟩ : ∃ H, H = newB (newB h (256 * c) [s]) (256 * c + 1) [.slice none 0 0] := ⟨_, rfl⟩
  have sH : Same c h H := by rw [hH]; simp (disch := omega)
  have hg : Holds H (256 * c) [s] := by rw [hH]; exact Holds.newB_ne (by omega) (Holds.newB_same _ _ _)
  have hr : H.f (256 * c + 1) = some (.cells false none [.slice none 0 0]) := by rw [hH, newB_f, if_pos rfl]
  have l0 := ldN1_own hg
  have l1 : ld1 H (.pointer (some ⟨256 * c, 0, none⟩)) = some s := by rw [ld1_holds' hg]; rfl
  have c1 := callF_checkR s n Gl H (c + 1 + 1) ((hs.same sH).mono (by omega))
  have hlen := hs.len
  have w0 := st1_own hr (o := 0) (v := .slice none 0 0) (by simp) rfl
  have hz : bldV [(.slice none 0 0)] [] = some (.agg #[.slice none 0 0]) := rfl
  rw [Nat.add_zero, ← hH]
  clear hH
  have w1 := ldN1_own (h := HeapC.set H (256 * c + 1) (.cells false none [.slice none 0 0])) (b := 256 * c + 1) (cs := []) (v := .slice none 0 0) ⟨_, _, get_set_same _ _ _⟩
  by_cases hok : n ≤ 1000 ∧ okAll Gl n = true
  case neg =>
    rw [if_neg hok] at c1
    repeat' (first
     | ((with_reducible first | refine Ans.bz ?_ | refine Ans.r1 ?_ | refine Ans.pkT ?_ | refine Ans.pkF ?_); try dsimp only [v_zero, v_succ])
     | (with_reducible first | refine Ans.btL ?_ | refine Ans.bfL ?_ | refine Ans.gyT ?_ | refine Ans.gyF ?_ | refine Ans.gyG ?_ | refine Ans.bb ?_ | refine Ans.bc ?_ | refine Ans.ba ?_)
     | ((with_reducible first | refine Ans.lsT ?_ ?_ | refine Ans.leT ?_ ?_ | refine Ans.grT ?_ ?_ | refine Ans.geT ?_ ?_ | refine Ans.eqT ?_ ?_ | refine Ans.neT ?_ ?_); (focus omega))
     | ((with_reducible first | refine Ans.lsF ?_ ?_ | refine Ans.leF ?_ ?_ | refine Ans.grF ?_ ?_ | refine Ans.geF ?_ ?_ | refine Ans.eqF ?_ ?_ | refine Ans.neF ?_ ?_); (focus omega))
     | (with_reducible first | refine Ans.lsS (fun _ => ?_) (fun _ => ?_) | refine Ans.leS (fun _ => ?_) (fun _ => ?_) | refine Ans.grS (fun _ => ?_) (fun _ => ?_) | refine Ans.geS (fun _ => ?_) (fun _ => ?_) | refine Ans.eqS (fun _ => ?_) (fun _ => ?_) | refine Ans.neS (fun _ => ?_) (fun _ => ?_))
     | ((with_reducible first | refine Ans.addN ?_ ?_ | refine Ans.add ?_ ?_ | refine Ans.sub ?_ ?_ | refine Ans.mul ?_ ?_); (focus omega))
     | ((with_reducible first | refine Ans.ct ?_ ?_); (focus (simp (disch := (first | omega | with_reducible assumption | (simp <;> omega) | fail)) [l0, c1, hz, w0, w1]; done)))
     | ((with_reducible first | refine Ans.cf ?_ ?_); (focus (simp (disch := (first | omega | with_reducible assumption | (simp <;> omega) | fail)) [l0, c1, hz, w0, w1]; done)))
     | (refine Ans.step (by simp (disch := (first | omega | with_reducible assumption | (simp <;> omega) | fail)) [l0, c1, hz, w0, w1, -List.getD_eq_getElem?_getD] <;> rfl) ?_; try dsimp only [v_zero, v_succ])
     | fail)
    refine .done ⟨rfl, rfl, (by show c ≤ c + 1 + 1 + 1; omega), ?_, .slice none 0 0, by rw [rnE, if_neg hok], ?_⟩
    · exact sH.set (by omega)
    · rw [rnN, rnR, if_neg (fun h => hok ⟨h.1, h.2.1⟩), if_neg (fun h => hok ⟨h.1, h.2.1⟩)]
      exact ⟨SlI.nil _ _ _, fun h => absurd h (by omega)⟩
  rw [if_pos hok] at c1
  have c2 := callF_of (isOrder_sp so sp a b n Ord Pm H (c + 1 + 1 + 1 + 1) [] ((ho.same sH).mono (by omega)) ((hp.same sH).mono (by omega)) (by omega))
  cases hord : ordB Ord Pm a b n with
  | false =>
    rw [hord] at c2
    repeat' (first
     | ((with_reducible first | refine Ans.bz ?_ | refine Ans.r1 ?_ | refine Ans.pkT ?_ | refine Ans.pkF ?_); try dsimp only [v_zero, v_succ])
     | (with_reducible first | refine Ans.btL ?_ | refine Ans.bfL ?_ | refine Ans.gyT ?_ | refine Ans.gyF ?_ | refine Ans.gyG ?_ | refine Ans.bb ?_ | refine Ans.bc ?_ | refine Ans.ba ?_)
     | ((with_reducible first | refine Ans.lsT ?_ ?_ | refine Ans.leT ?_ ?_ | refine Ans.grT ?_ ?_ | refine Ans.geT ?_ ?_ | refine Ans.eqT ?_ ?_ | refine Ans.neT ?_ ?_); (focus omega))
     | ((with_reducible first | refine Ans.lsF ?_ ?_ | refine Ans.leF ?_ ?_ | refine Ans.grF ?_ ?_ | refine Ans.geF ?_ ?_ | refine Ans.eqF ?_ ?_ | refine Ans.neF ?_ ?_); (focus omega))
     | (with_reducible first | refine Ans.lsS (fun _ => ?_) (fun _ => ?_) | refine Ans.leS (fun _ => ?_) (fun _ => ?_) | refine Ans.grS (fun _ => ?_) (fun _ => ?_) | refine Ans.geS (fun _ => ?_) (fun _ => ?_) | refine Ans.eqS (fun _ => ?_) (fun _ => ?_) | refine Ans.neS (fun _ => ?_) (fun _ => ?_))
     | ((with_reducible first | refine Ans.addN ?_ ?_ | refine Ans.add ?_ ?_ | refine Ans.sub ?_ ?_ | refine Ans.mul ?_ ?_); (focus omega))
     | ((with_reducible first | refine Ans.ct ?_ ?_); (focus (simp (disch := (first | omega | with_reducible assumption | (simp <;> omega) | fail)) [l0, l1, hlen, c1, c2, hz, w0, w1]; done)))
     | ((with_reducible first | refine Ans.cf ?_ ?_); (focus (simp (disch := (first | omega | with_reducible assumption | (simp <;> omega) | fail)) [l0, l1, hlen, c1, c2, hz, w0, w1]; done)))
     | (refine Ans.step (by simp (disch := (first | omega | with_reducible assumption | (simp <;> omega) | fail)) [l0, l1, hlen, c1, c2, hz, w0, w1, -List.getD_eq_getElem?_getD] <;> rfl) ?_; try dsimp only [v_zero, v_succ])
     | fail)
    refine .done ⟨rfl, rfl, (by show c ≤ c + 1 + 1 + 1 + 1 + 1; omega), ?_, .slice none 0 0, by rw [rnE, if_pos hok, hord, if_neg (by simp)], ?_⟩
    · exact sH.set (by omega)
    · rw [rnN, rnR, if_neg (fun h => by rw [hord] at h; simp at h), if_neg (fun h => by rw [hord] at h; simp at h)]
      exact ⟨SlI.nil _ _ _, fun h => absurd h (by omega)⟩
  | true =>
    rw [hord] at c2
    have hrn := RnOk.of hs.1 (by simpa using ho.1) hp.1 hok.2 hord
    obtain ⟨rfl, rfl, hord2⟩ := ordB_iff.1 hord
    have hbk := Ans.eq (rnR_back so sp (.slice (some ⟨256 * (c + 1 + 1 + 1 + 1) + 1, 0, none⟩) b b) (ptrTo (256 * c)) (ptrTo (256 * c + 1)) b Ord (256 * (c + 1 + 1 + 1 + 1) + 1) c (c + 1 + 1 + 1 + 1 + 1 + 1) H hok.1 (by omega) (by omega) (by omega) rfl
      (ho.same sH) (fun j hj => ⟨(hrn.rng j hj).1, (hrn.rng j hj).2.1⟩) (hp.mono (by omega)).okV (OkV.ptrTo (by omega)) (OkV.ptrTo (by omega)) [] b 0 (List.replicate b 0) (by omega) (by simp))
    rw [show backL Ord b 0 (List.replicate b 0) = back Ord b from rfl] at hbk
    simp only [Int.ofNat_eq_natCast, Int.cast_ofNat_Int] at hbk
    obtain ⟨H2, hH2⟩ : ∃ H2, H2 = newB H (256 * (c + 1 + 1 + 1 + 1) + 1) (ints (back Ord b)) := ⟨_, rfl⟩
    rw [← hH2] at hbk
    have sH2 : Same (c + 1 + 1 + 1 + 1) H H2 := by rw [hH2]; simp (disch := omega)
    have sb : SlI H2 (c + 1 + 1 + 1 + 1 + 1 + 1) (.slice (some ⟨256 * (c + 1 + 1 + 1 + 1) + 1, 0, none⟩) b b) 1 b (back Ord b) := by
      refine ⟨by rw [back_length, Nat.mul_one], by omega, _, _, rfl, .inr ⟨_, 0, ints (back Ord b), rfl, by omega, ?_, ?_⟩⟩
      · rw [hH2]; exact Holds.newB_same _ _ _
      · rw [List.drop_zero, List.take_of_length_le (by simp [back_length])]
    have sc : Same c h H2 := sH.trans (sH2.mono (by omega))
    clear hH2
    obtain ⟨⟨re, rv, rh, rc, rd⟩, hm, m1, m2, m3, m4, m5, v, m6, m7⟩ := rnR_mid s so sp (.slice (some ⟨256 * (c + 1 + 1 + 1 + 1) + 1, 0, none⟩) b b) (ptrTo (256 * c + 1)) b Gl Ord Pm (256 * c) (256 * (c + 1 + 1 + 1 + 1 + 1 + 1)) (c + 1 + 1 + 1 + 1 + 1 + 1) (c + 1 + 1 + 1 + 1 + 1 + 1 + 1 + 1) H2 hok.1 (by omega) (by omega) (by omega) (by omega)
      (hg.same (by omega) sH2) ((hs.same sc).mono (by omega)) ((ho.same sc).mono (by omega)) ((hp.same sc).mono (by omega)) sb hrn (OkV.ptrTo (by omega)) [] b 0 (c + 1 + 1 + 1 + 1 + 1 + 1 + 1 + 1) (newB H2 (256 * (c + 1 + 1 + 1 + 1 + 1 + 1)) [.slice none 0 0]) (.slice none 0 0) (by omega) (by omega)
      ((Same_newB (by omega)).2 (Same.refl _ _)) (by rw [newB_f, if_pos rfl]) (AppS.nil _ _ _ _)
    simp only at m1 m2 m3 m4 m5 m6 m7
    subst m1 m2 m3
    simp only [Int.ofNat_eq_natCast, Int.cast_ofNat_Int] at hm
    have l2 := ldN1_own ⟨_, _, m6⟩
    have hr2 : rh.f (256 * c + 1) = some (.cells false none [.slice none 0 0]) := (m5 _ (by omega)).trans ((sH2 _ (by omega)).trans hr)
    have w2 := st1_own hr2 (o := 0) (v := v) (by simp) m7.flat.1
    have w3 := ldN1_own (h := HeapC.set rh (256 * c + 1) (.cells false none [v])) (b := 256 * c + 1) (cs := []) (v := v) ⟨_, _, get_set_same _ _ _⟩
    repeat' (first
     | ((with_reducible first | refine Ans.bz ?_ | refine Ans.r1 ?_ | refine Ans.pkT ?_ | refine Ans.pkF ?_); try dsimp only [v_zero, v_succ])
     | (with_reducible first | refine Ans.btL ?_ | refine Ans.bfL ?_ | refine Ans.gyT ?_ | refine Ans.gyF ?_ | refine Ans.gyG ?_ | refine Ans.bb ?_ | refine Ans.bc ?_ | refine Ans.ba ?_)
     | ((with_reducible first | refine Ans.lsT ?_ ?_ | refine Ans.leT ?_ ?_ | refine Ans.grT ?_ ?_ | refine Ans.geT ?_ ?_ | refine Ans.eqT ?_ ?_ | refine Ans.neT ?_ ?_); (focus omega))
     | ((with_reducible first | refine Ans.lsF ?_ ?_ | refine Ans.leF ?_ ?_ | refine Ans.grF ?_ ?_ | refine Ans.geF ?_ ?_ | refine Ans.eqF ?_ ?_ | refine Ans.neF ?_ ?_); (focus omega))
     | (with_reducible first | refine Ans.lsS (fun _ => ?_) (fun _ => ?_) | refine Ans.leS (fun _ => ?_) (fun _ => ?_) | refine Ans.grS (fun _ => ?_) (fun _ => ?_) | refine Ans.geS (fun _ => ?_) (fun _ => ?_) | refine Ans.eqS (fun _ => ?_) (fun _ => ?_) | refine Ans.neS (fun _ => ?_) (fun _ => ?_))
     | ((with_reducible first | refine Ans.addN ?_ ?_ | refine Ans.add ?_ ?_ | refine Ans.sub ?_ ?_ | refine Ans.mul ?_ ?_); (focus omega))
     | ((with_reducible first | refine Ans.ct ?_ ?_); (focus (simp (disch := (first | omega | with_reducible assumption | (simp <;> omega) | fail)) [l0, l1, hlen, c1, c2, hz, mkS_int, hbk, hm, l2, w2, w3]; done)))
     | ((with_reducible first | refine Ans.cf ?_ ?_); (focus (simp (disch := (first | omega | with_reducible assumption | (simp <;> omega) | fail)) [l0, l1, hlen, c1, c2, hz, mkS_int, hbk, hm, l2, w2, w3]; done)))
     | (refine Ans.step (by simp (disch := (first | omega | with_reducible assumption | (simp <;> omega) | fail)) [l0, l1, hlen, c1, c2, hz, mkS_int, hbk, hm, l2, w2, w3, -List.getD_eq_getElem?_getD] <;> rfl) ?_; try dsimp only [v_zero, v_succ])
     | fail)
    refine .done ⟨rfl, rfl, (by show c ≤ rc + 1; omega), ?_, v, by rw [rnE, if_pos hok, hord, if_pos rfl], ?_⟩
    · exact (sc.trans (m5.mono (by omega))).set (by omega)
    · rw [rnN, rnR, if_pos ⟨hok.1, hok.2, hord⟩, if_pos ⟨hok.1, hok.2, hord⟩]
      refine ⟨((m7.keep (fun j h1 h2 => by rw [set_f, if_neg (by omega)])).mono (by show rc ≤ rc + 1; omega)).sl, fun hb => ?_⟩
      rcases m7.2.2 with ⟨_, h0⟩ | ⟨j, rfl, h0, _, _⟩
      · omega
      · rw [blkOf_sl]; omega
end Go.Proofs.Ytemkjcpfgmbibaa
