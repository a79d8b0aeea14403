/- Parts of a proof: D10 AbRow AbRow2 RowK. Conditions: none. -/
import Derived.Test.YtemkjcpfgmbibaaM6
import Derived.Test.YtemkjcpfgmbibaaM7
import Derived.Test.YtemkjcpfgmbibaaM4
import Derived.ProofKit
import Derived.Test.YtemkjcpfgmbibaaM5
import Derived.Test.YtemkjcpfgmbibaaRows
set_option linter.all false
namespace Go.Proofs.Ytemkjcpfgmbibaa
open Go Go.Ab Go.Proofs
set_option maxRecDepth 100000
set_option linter.unusedVariables false
set_option linter.unusedSimpArgs false

theorem flat2 {a b : Value} (ha : isFlat a = true) (hb : isFlat b = true) : ((Value.agg #[a, b]).cells.toList.all isFlat) = true := by simp [Value.cells, ha, hb]
theorem flat1 {a : Value} (ha : isFlat a = true) : ((Value.agg #[a]).cells.toList.all isFlat) = true := by simp [Value.cells, ha]

set_option maxHeartbeats 1000000 in
theorem isoCheck_sp (s1 s2 so sp : Value) (n m a b : Nat) (Gl Hl Ord Pm : List Int) (h : FH) (c : Nat) (df : List Nat) (h1 : SlI h c s1 20 n Gl) (h2 : SlI h c s2 20 m Hl) (ho : SlI h c so 1 a Ord) (hp : SlI h c sp 4 b Pm) :
    G (.fn 14) [.agg #[s1], .agg #[s2], .agg #[so, sp]] h c df = some { e := .ret, vs := [.int .i64 (isoE Gl Hl Ord Pm n m a b)], h := h, c := c, df := [] } := by
  refine pure_of' (fun r e => f14_go e) (by simp) ?_
  have hc1 : (Value.agg #[s1]).cells.toList = [s1] := rfl
  have hc2 : (Value.agg #[s2]).cells.toList = [s2] := rfl
  have hc3 : (Value.agg #[so, sp]).cells.toList = [so, sp] := rfl
  unfold f14_S
  rw [flat1 h1.flat, flat1 h2.flat, flat2 ho.flat hp.flat, hc1, hc2, hc3]
  simp only [cond_true]
  obtain ⟨H, hH⟩ : ∃ H, H = newB (newB (newB h (256 * c) [s1]) (256 * c + 1) [s2]) (256 * c + 2) [so, sp] := ⟨_, rfl⟩
  have sH : Same c h H := by rw [hH]; simp (disch := omega)
  have g1 : Holds H (256 * c) [s1] := by rw [hH]; exact Holds.newB_ne (by omega) (Holds.newB_ne (by omega) (Holds.newB_same _ _ _))
  have g2 : Holds H (256 * c + 1) [s2] := by rw [hH]; exact Holds.newB_ne (by omega) (Holds.newB_same _ _ _)
  have g3 : Holds H (256 * c + 2) [so, sp] := by rw [hH]; exact Holds.newB_same _ _ _
  rw [Nat.add_zero, ← hH]
  clear hH
  obtain ⟨M, hM⟩ : ∃ M, M = newB H (256 * (c + 1) + 2) [s1, s2] := ⟨_, rfl⟩
  have sM : Same (c + 1) H M := by rw [hM]; simp (disch := omega)
  have scM : Same c h M := sH.trans (sM.mono (by omega))
  have gM : Holds M (256 * (c + 1) + 2) [s1, s2] := by rw [hM]; exact Holds.newB_same _ _ _
  have l1 := ldN1_own g1
  have l2 := ldN1_own g2
  have hbl : bldL [(.slice none 0 0), (.slice none 0 0)] [(0, 1, .agg #[s1]), (1, 1, .agg #[s2])] = some [s1, s2] := rfl
  have q1 := ldN1_own (g1.same (by omega) sM)
  have q2 := ldN1_own (g2.same (by omega) sM)
  have q3 : ld1 M (.pointer (some ⟨256 * c + 2, 0, none⟩)) = some so := by rw [ld1_holds' (g3.same (by omega) sM)]; rfl
  have q4 : ld1 M (.pointer (some ⟨256 * c + 2, 1, none⟩)) = some sp := by rw [ld1_holds' (g3.same (by omega) sM)]; rfl
  have ck := checked_sp [s1, s2] (256 * (c + 1) + 2) (fun i => if i = 0 then (if n ≤ 1000 ∧ okAll Gl n = true then 0 else 7) else (if m ≤ 1000 ∧ okAll Hl m = true then 0 else 7)) M (c + 1 + 1) [] (by omega) (by simp) gM
    (fun i hi H' c' hs hc => by
      match i, hi with
      | 0, _ => exact callF_check s1 n Gl H' c' (((h1.same scM).mono (by omega : c ≤ c + 1 + 1)).same hs |>.mono hc)
      | 1, _ => exact callF_check s2 m Hl H' c' (((h2.same scM).mono (by omega : c ≤ c + 1 + 1)).same hs |>.mono hc))
    (fun s hs => by
      rcases List.mem_cons.1 hs with rfl | hs
      · exact h1.flat
      · rw [List.mem_singleton.1 hs]; exact h2.flat)
  have ck' := callF_of ck
  rw [show ([s1, s2] : List Value).length = 2 from rfl] at ck'
  have hfe : fstE (fun i => if i = 0 then (if n ≤ 1000 ∧ okAll Gl n = true then (0 : Int) else 7) else (if m ≤ 1000 ∧ okAll Hl m = true then 0 else 7)) 2 0 = if n ≤ 1000 ∧ okAll Gl n = true then (if m ≤ 1000 ∧ okAll Hl m = true then 0 else 7) else 7 := by
    by_cases z1 : n ≤ 1000 ∧ okAll Gl n = true <;> by_cases z2 : m ≤ 1000 ∧ okAll Hl m = true <;> simp [fstE, z1, z2]
  rw [hfe] at ck'
  unfold isoE
  by_cases z1 : n ≤ 1000 ∧ okAll Gl n = true
  case neg =>
    rw [if_neg z1] at ck' ⊢
    repeat' (first
     | ((with_reducible first | refine Ans.bz ?_ | refine Ans.r1 ?_ | refine Ans.pkT ?_ | refine Ans.pkF ?_); try dsimp only [v_zero, v_succ])
     | (with_reducible first | refine Ans.btL ?_ | refine Ans.bfL ?_ | refine Ans.gyT ?_ | refine Ans.gyF ?_ | refine Ans.gyG ?_ | refine Ans.bb ?_ | refine Ans.bc ?_ | refine Ans.ba ?_)
     | ((with_reducible first | refine Ans.lsT ?_ ?_ | refine Ans.leT ?_ ?_ | refine Ans.grT ?_ ?_ | refine Ans.geT ?_ ?_ | refine Ans.eqT ?_ ?_ | refine Ans.neT ?_ ?_); (focus omega))
     | ((with_reducible first | refine Ans.lsF ?_ ?_ | refine Ans.leF ?_ ?_ | refine Ans.grF ?_ ?_ | refine Ans.geF ?_ ?_ | refine Ans.eqF ?_ ?_ | refine Ans.neF ?_ ?_); (focus omega))
     | (with_reducible first | refine Ans.lsS (fun _ => ?_) (fun _ => ?_) | refine Ans.leS (fun _ => ?_) (fun _ => ?_) | refine Ans.grS (fun _ => ?_) (fun _ => ?_) | refine Ans.geS (fun _ => ?_) (fun _ => ?_) | refine Ans.eqS (fun _ => ?_) (fun _ => ?_) | refine Ans.neS (fun _ => ?_) (fun _ => ?_))
     | ((with_reducible first | refine Ans.addN ?_ ?_ | refine Ans.add ?_ ?_ | refine Ans.sub ?_ ?_ | refine Ans.mul ?_ ?_); (focus omega))
     | ((with_reducible first | refine Ans.ct ?_ ?_); (focus (simp (disch := (first | omega | with_reducible assumption | (simp <;> omega) | fail)) [l1, l2, hbl, ← hM, ck']; done)))
     | ((with_reducible first | refine Ans.cf ?_ ?_); (focus (simp (disch := (first | omega | with_reducible assumption | (simp <;> omega) | fail)) [l1, l2, hbl, ← hM, ck']; done)))
     | (refine Ans.step (by simp (disch := (first | omega | with_reducible assumption | (simp <;> omega) | fail)) [l1, l2, hbl, ← hM, ck', -List.getD_eq_getElem?_getD] <;> rfl) ?_; try dsimp only [v_zero, v_succ])
     | fail)
    exact Ans.pure rfl scM
  rw [if_pos z1] at ck' ⊢
  by_cases z2 : m ≤ 1000 ∧ okAll Hl m = true
  case neg =>
    rw [if_neg z2] at ck' ⊢
    repeat' (first
     | ((with_reducible first | refine Ans.bz ?_ | refine Ans.r1 ?_ | refine Ans.pkT ?_ | refine Ans.pkF ?_); try dsimp only [v_zero, v_succ])
     | (with_reducible first | refine Ans.btL ?_ | refine Ans.bfL ?_ | refine Ans.gyT ?_ | refine Ans.gyF ?_ | refine Ans.gyG ?_ | refine Ans.bb ?_ | refine Ans.bc ?_ | refine Ans.ba ?_)
     | ((with_reducible first | refine Ans.lsT ?_ ?_ | refine Ans.leT ?_ ?_ | refine Ans.grT ?_ ?_ | refine Ans.geT ?_ ?_ | refine Ans.eqT ?_ ?_ | refine Ans.neT ?_ ?_); (focus omega))
     | ((with_reducible first | refine Ans.lsF ?_ ?_ | refine Ans.leF ?_ ?_ | refine Ans.grF ?_ ?_ | refine Ans.geF ?_ ?_ | refine Ans.eqF ?_ ?_ | refine Ans.neF ?_ ?_); (focus omega))
     | (with_reducible first | refine Ans.lsS (fun _ => ?_) (fun _ => ?_) | refine Ans.leS (fun _ => ?_) (fun _ => ?_) | refine Ans.grS (fun _ => ?_) (fun _ => ?_) | refine Ans.geS (fun _ => ?_) (fun _ => ?_) | refine Ans.eqS (fun _ => ?_) (fun _ => ?_) | refine Ans.neS (fun _ => ?_) (fun _ => ?_))
     | ((with_reducible first | refine Ans.addN ?_ ?_ | refine Ans.add ?_ ?_ | refine Ans.sub ?_ ?_ | refine Ans.mul ?_ ?_); (focus omega))
     | ((with_reducible first | refine Ans.ct ?_ ?_); (focus (simp (disch := (first | omega | with_reducible assumption | (simp <;> omega) | fail)) [l1, l2, hbl, ← hM, ck']; done)))
     | ((with_reducible first | refine Ans.cf ?_ ?_); (focus (simp (disch := (first | omega | with_reducible assumption | (simp <;> omega) | fail)) [l1, l2, hbl, ← hM, ck']; done)))
     | (refine Ans.step (by simp (disch := (first | omega | with_reducible assumption | (simp <;> omega) | fail)) [l1, l2, hbl, ← hM, ck', -List.getD_eq_getElem?_getD] <;> rfl) ?_; try dsimp only [v_zero, v_succ])
     | fail)
    exact Ans.pure rfl scM
  rw [if_pos z2] at ck' ⊢
  obtain ⟨v, h', c', e1, e2, e3, e4, e5⟩ := RnPost.callF (renumG_sp s1 so sp n a b Gl Ord Pm M (c + 1 + 1 + 1 + 1) [] ((h1.same scM).mono (by omega)) ((ho.same scM).mono (by omega)) ((hp.same scM).mono (by omega)))
  have fv := e4.flat
  obtain ⟨E, hE⟩ : ∃ E, rnE Gl Ord Pm n a b = E := ⟨_, rfl⟩
  rw [hE] at e1 ⊢
  have sc' : Same c h h' := scM.trans (e3.mono (by omega))
  by_cases hE0 : E = 0
  case neg =>
    rw [if_neg hE0]
    repeat' (first
     | ((with_reducible first | refine Ans.bz ?_ | refine Ans.r1 ?_ | refine Ans.pkT ?_ | refine Ans.pkF ?_); try dsimp only [v_zero, v_succ])
     | (with_reducible first | refine Ans.btL ?_ | refine Ans.bfL ?_ | refine Ans.gyT ?_ | refine Ans.gyF ?_ | refine Ans.gyG ?_ | refine Ans.bb ?_ | refine Ans.bc ?_ | refine Ans.ba ?_)
     | ((with_reducible first | refine Ans.lsT ?_ ?_ | refine Ans.leT ?_ ?_ | refine Ans.grT ?_ ?_ | refine Ans.geT ?_ ?_ | refine Ans.eqT ?_ ?_ | refine Ans.neT ?_ ?_); (focus omega))
     | ((with_reducible first | refine Ans.lsF ?_ ?_ | refine Ans.leF ?_ ?_ | refine Ans.grF ?_ ?_ | refine Ans.geF ?_ ?_ | refine Ans.eqF ?_ ?_ | refine Ans.neF ?_ ?_); (focus omega))
     | (with_reducible first | refine Ans.lsS (fun _ => ?_) (fun _ => ?_) | refine Ans.leS (fun _ => ?_) (fun _ => ?_) | refine Ans.grS (fun _ => ?_) (fun _ => ?_) | refine Ans.geS (fun _ => ?_) (fun _ => ?_) | refine Ans.eqS (fun _ => ?_) (fun _ => ?_) | refine Ans.neS (fun _ => ?_) (fun _ => ?_))
     | ((with_reducible first | refine Ans.addN ?_ ?_ | refine Ans.add ?_ ?_ | refine Ans.sub ?_ ?_ | refine Ans.mul ?_ ?_); (focus omega))
     | ((with_reducible first | refine Ans.ct ?_ ?_); (focus (simp (disch := (first | omega | with_reducible assumption | (simp <;> omega) | fail)) [l1, l2, hbl, ← hM, ck', q1, q2, q3, q4, e1, fv]; done)))
     | ((with_reducible first | refine Ans.cf ?_ ?_); (focus (simp (disch := (first | omega | with_reducible assumption | (simp <;> omega) | fail)) [l1, l2, hbl, ← hM, ck', q1, q2, q3, q4, e1, fv]; done)))
     | (refine Ans.step (by simp (disch := (first | omega | with_reducible assumption | (simp <;> omega) | fail)) [l1, l2, hbl, ← hM, ck', q1, q2, q3, q4, e1, fv, -List.getD_eq_getElem?_getD] <;> rfl) ?_; try dsimp only [v_zero, v_succ])
     | fail)
    (refine Ans.pure ?_ ?_; (focus (first | rfl | (simp (disch := (first | omega | with_reducible assumption | (simp <;> omega) | fail)) [sc']; done))); (focus (first | with_reducible assumption | (simp (disch := (first | omega | with_reducible assumption | (simp <;> omega) | fail)) [sc']; done))))
  rw [if_pos hE0]
  have lv : ldN (newB h' (256 * (c + 1 + 1 + 1) + 9) [v]) 1 (.pointer (some ⟨256 * (c + 1 + 1 + 1) + 9, 0, none⟩)) = some (.agg #[v]) := ldN1_own (Holds.newB_same _ _ _)
  have q5 := ldN1_own ((g2.same (by omega) sM).same (by omega) e3)
  have cs := callF_of (same_sp v s2 (rnN Gl Ord Pm n a b) m (rnR Gl Ord Pm n a b) Hl (newB h' (256 * (c + 1 + 1 + 1) + 9) [v]) (c' + 1) [] ((e4.keep (fun hb => by have := e5 hb; rw [newB_f, if_neg (by omega)])).mono (by omega))
    (((h2.same sc').keep (fun hb => by have := h2.blk hb; rw [newB_f, if_neg (by omega)])).mono (by omega)) (by unfold rnN; split <;> omega))
  cases hsm : sameB2 (rnN Gl Ord Pm n a b) m (rnR Gl Ord Pm n a b) Hl with
  | true =>
    rw [hsm] at cs
    repeat' (first
     | ((with_reducible first | refine Ans.bz ?_ | refine Ans.r1 ?_ | refine Ans.pkT ?_ | refine Ans.pkF ?_); try dsimp only [v_zero, v_succ])
     | (with_reducible first | refine Ans.btL ?_ | refine Ans.bfL ?_ | refine Ans.gyT ?_ | refine Ans.gyF ?_ | refine Ans.gyG ?_ | refine Ans.bb ?_ | refine Ans.bc ?_ | refine Ans.ba ?_)
     | ((with_reducible first | refine Ans.lsT ?_ ?_ | refine Ans.leT ?_ ?_ | refine Ans.grT ?_ ?_ | refine Ans.geT ?_ ?_ | refine Ans.eqT ?_ ?_ | refine Ans.neT ?_ ?_); (focus omega))
     | ((with_reducible first | refine Ans.lsF ?_ ?_ | refine Ans.leF ?_ ?_ | refine Ans.grF ?_ ?_ | refine Ans.geF ?_ ?_ | refine Ans.eqF ?_ ?_ | refine Ans.neF ?_ ?_); (focus omega))
     | (with_reducible first | refine Ans.lsS (fun _ => ?_) (fun _ => ?_) | refine Ans.leS (fun _ => ?_) (fun _ => ?_) | refine Ans.grS (fun _ => ?_) (fun _ => ?_) | refine Ans.geS (fun _ => ?_) (fun _ => ?_) | refine Ans.eqS (fun _ => ?_) (fun _ => ?_) | refine Ans.neS (fun _ => ?_) (fun _ => ?_))
     | ((with_reducible first | refine Ans.addN ?_ ?_ | refine Ans.add ?_ ?_ | refine Ans.sub ?_ ?_ | refine Ans.mul ?_ ?_); (focus omega))
     | ((with_reducible first | refine Ans.ct ?_ ?_); (focus (simp (disch := (first | omega | with_reducible assumption | (simp <;> omega) | fail)) [l1, l2, hbl, ← hM, ck', q1, q2, q3, q4, q5, e1, fv, lv, cs]; done)))
     | ((with_reducible first | refine Ans.cf ?_ ?_); (focus (simp (disch := (first | omega | with_reducible assumption | (simp <;> omega) | fail)) [l1, l2, hbl, ← hM, ck', q1, q2, q3, q4, q5, e1, fv, lv, cs]; done)))
     | (refine Ans.step (by simp (disch := (first | omega | with_reducible assumption | (simp <;> omega) | fail)) [l1, l2, hbl, ← hM, ck', q1, q2, q3, q4, q5, e1, fv, lv, cs, -List.getD_eq_getElem?_getD] <;> rfl) ?_; try dsimp only [v_zero, v_succ])
     | fail)
    (refine Ans.pure ?_ ?_; (focus (first | rfl | (simp (disch := (first | omega | with_reducible assumption | (simp <;> omega) | fail)) [sc']; done))); (focus (first | with_reducible assumption | (simp (disch := (first | omega | with_reducible assumption | (simp <;> omega) | fail)) [sc']; done))))
  | false =>
    rw [hsm] at cs
    repeat' (first
     | ((with_reducible first | refine Ans.bz ?_ | refine Ans.r1 ?_ | refine Ans.pkT ?_ | refine Ans.pkF ?_); try dsimp only [v_zero, v_succ])
     | (with_reducible first | refine Ans.btL ?_ | refine Ans.bfL ?_ | refine Ans.gyT ?_ | refine Ans.gyF ?_ | refine Ans.gyG ?_ | refine Ans.bb ?_ | refine Ans.bc ?_ | refine Ans.ba ?_)
     | ((with_reducible first | refine Ans.lsT ?_ ?_ | refine Ans.leT ?_ ?_ | refine Ans.grT ?_ ?_ | refine Ans.geT ?_ ?_ | refine Ans.eqT ?_ ?_ | refine Ans.neT ?_ ?_); (focus omega))
     | ((with_reducible first | refine Ans.lsF ?_ ?_ | refine Ans.leF ?_ ?_ | refine Ans.grF ?_ ?_ | refine Ans.geF ?_ ?_ | refine Ans.eqF ?_ ?_ | refine Ans.neF ?_ ?_); (focus omega))
     | (with_reducible first | refine Ans.lsS (fun _ => ?_) (fun _ => ?_) | refine Ans.leS (fun _ => ?_) (fun _ => ?_) | refine Ans.grS (fun _ => ?_) (fun _ => ?_) | refine Ans.geS (fun _ => ?_) (fun _ => ?_) | refine Ans.eqS (fun _ => ?_) (fun _ => ?_) | refine Ans.neS (fun _ => ?_) (fun _ => ?_))
     | ((with_reducible first | refine Ans.addN ?_ ?_ | refine Ans.add ?_ ?_ | refine Ans.sub ?_ ?_ | refine Ans.mul ?_ ?_); (focus omega))
     | ((with_reducible first | refine Ans.ct ?_ ?_); (focus (simp (disch := (first | omega | with_reducible assumption | (simp <;> omega) | fail)) [l1, l2, hbl, ← hM, ck', q1, q2, q3, q4, q5, e1, fv, lv, cs]; done)))
     | ((with_reducible first | refine Ans.cf ?_ ?_); (focus (simp (disch := (first | omega | with_reducible assumption | (simp <;> omega) | fail)) [l1, l2, hbl, ← hM, ck', q1, q2, q3, q4, q5, e1, fv, lv, cs]; done)))
     | (refine Ans.step (by simp (disch := (first | omega | with_reducible assumption | (simp <;> omega) | fail)) [l1, l2, hbl, ← hM, ck', q1, q2, q3, q4, q5, e1, fv, lv, cs, -List.getD_eq_getElem?_getD] <;> rfl) ?_; try dsimp only [v_zero, v_succ])
     | fail)
    (refine Ans.pure ?_ ?_; (focus (first | rfl | (simp (disch := (first | omega | with_reducible assumption | (simp <;> omega) | fail)) [sc']; done))); (focus (first | with_reducible assumption | (simp (disch := (first | omega | with_reducible assumption | (simp <;> omega) | fail)) [sc']; done))))

set_option maxHeartbeats 1000000 in
theorem refCheck_sp (s1 s2 so sp : Value) (n m a b : Nat) (Gl Hl Ord Pm : List Int) (h : FH) (c : Nat) (df : List Nat) (h1 : SlI h c s1 20 n Gl) (h2 : SlI h c s2 20 m Hl) (ho : SlI h c so 1 a Ord) (hp : SlI h c sp 4 b Pm) :
    G (.fn 15) [.agg #[s1], .agg #[s2], .agg #[so, sp]] h c df = some { e := .ret, vs := [.int .i64 (isoE Gl Hl Ord Pm n m a b)], h := h, c := c, df := [] } := by
  refine pure_of' (fun r e => f15_go e) (by simp) ?_
  have hc1 : (Value.agg #[s1]).cells.toList = [s1] := rfl
  have hc2 : (Value.agg #[s2]).cells.toList = [s2] := rfl
  have hc3 : (Value.agg #[so, sp]).cells.toList = [so, sp] := rfl
  unfold f15_S
  rw [flat1 h1.flat, flat1 h2.flat, flat2 ho.flat hp.flat, hc1, hc2, hc3]
  simp only [cond_true]
  obtain ⟨M, hM⟩ : ∃ H, H = newB (newB (newB h (256 * c) [s1]) (256 * c + 1) [s2]) (256 * c + 2) [so, sp] := ⟨_, rfl⟩
  have scM : Same c h M := by rw [hM]; simp (disch := omega)
  have g1 : Holds M (256 * c) [s1] := by rw [hM]; exact Holds.newB_ne (by omega) (Holds.newB_ne (by omega) (Holds.newB_same _ _ _))
  have g2 : Holds M (256 * c + 1) [s2] := by rw [hM]; exact Holds.newB_ne (by omega) (Holds.newB_same _ _ _)
  have g3 : Holds M (256 * c + 2) [so, sp] := by rw [hM]; exact Holds.newB_same _ _ _
  rw [Nat.add_zero, ← hM]
  clear hM
  have q1 := ldN1_own g1
  have q2 := ldN1_own g2
  have q3 : ld1 M (.pointer (some ⟨256 * c + 2, 0, none⟩)) = some so := by rw [ld1_holds' g3]; rfl
  have q4 : ld1 M (.pointer (some ⟨256 * c + 2, 1, none⟩)) = some sp := by rw [ld1_holds' g3]; rfl
  have k1 := callF_checkR s1 n Gl M (c + 1 + 1) ((h1.same scM).mono (by omega))
  have k2 := callF_checkR s2 m Hl M (c + 1 + 1) ((h2.same scM).mono (by omega))
  unfold isoE
  by_cases z1 : n ≤ 1000 ∧ okAll Gl n = true
  case neg =>
    rw [if_neg z1] at k1 ⊢
    repeat' (first
     | ((with_reducible first | refine Ans.bz ?_ | refine Ans.r1 ?_ | refine Ans.pkT ?_ | refine Ans.pkF ?_); try dsimp only [v_zero, v_succ])
     | (with_reducible first | refine Ans.btL ?_ | refine Ans.bfL ?_ | refine Ans.gyT ?_ | refine Ans.gyF ?_ | refine Ans.gyG ?_ | refine Ans.bb ?_ | refine Ans.bc ?_ | refine Ans.ba ?_)
     | ((with_reducible first | refine Ans.lsT ?_ ?_ | refine Ans.leT ?_ ?_ | refine Ans.grT ?_ ?_ | refine Ans.geT ?_ ?_ | refine Ans.eqT ?_ ?_ | refine Ans.neT ?_ ?_); (focus omega))
     | ((with_reducible first | refine Ans.lsF ?_ ?_ | refine Ans.leF ?_ ?_ | refine Ans.grF ?_ ?_ | refine Ans.geF ?_ ?_ | refine Ans.eqF ?_ ?_ | refine Ans.neF ?_ ?_); (focus omega))
     | (with_reducible first | refine Ans.lsS (fun _ => ?_) (fun _ => ?_) | refine Ans.leS (fun _ => ?_) (fun _ => ?_) | refine Ans.grS (fun _ => ?_) (fun _ => ?_) | refine Ans.geS (fun _ => ?_) (fun _ => ?_) | refine Ans.eqS (fun _ => ?_) (fun _ => ?_) | refine Ans.neS (fun _ => ?_) (fun _ => ?_))
     | ((with_reducible first | refine Ans.addN ?_ ?_ | refine Ans.add ?_ ?_ | refine Ans.sub ?_ ?_ | refine Ans.mul ?_ ?_); (focus omega))
     | ((with_reducible first | refine Ans.ct ?_ ?_); (focus (simp (disch := (first | omega | with_reducible assumption | (simp <;> omega) | fail)) [q1, k1]; done)))
     | ((with_reducible first | refine Ans.cf ?_ ?_); (focus (simp (disch := (first | omega | with_reducible assumption | (simp <;> omega) | fail)) [q1, k1]; done)))
     | (refine Ans.step (by simp (disch := (first | omega | with_reducible assumption | (simp <;> omega) | fail)) [q1, k1, -List.getD_eq_getElem?_getD] <;> rfl) ?_; try dsimp only [v_zero, v_succ])
     | fail)
    exact Ans.pure rfl scM
  rw [if_pos z1] at k1 ⊢
  by_cases z2 : m ≤ 1000 ∧ okAll Hl m = true
  case neg =>
    rw [if_neg z2] at k2 ⊢
    repeat' (first
     | ((with_reducible first | refine Ans.bz ?_ | refine Ans.r1 ?_ | refine Ans.pkT ?_ | refine Ans.pkF ?_); try dsimp only [v_zero, v_succ])
     | (with_reducible first | refine Ans.btL ?_ | refine Ans.bfL ?_ | refine Ans.gyT ?_ | refine Ans.gyF ?_ | refine Ans.gyG ?_ | refine Ans.bb ?_ | refine Ans.bc ?_ | refine Ans.ba ?_)
     | ((with_reducible first | refine Ans.lsT ?_ ?_ | refine Ans.leT ?_ ?_ | refine Ans.grT ?_ ?_ | refine Ans.geT ?_ ?_ | refine Ans.eqT ?_ ?_ | refine Ans.neT ?_ ?_); (focus omega))
     | ((with_reducible first | refine Ans.lsF ?_ ?_ | refine Ans.leF ?_ ?_ | refine Ans.grF ?_ ?_ | refine Ans.geF ?_ ?_ | refine Ans.eqF ?_ ?_ | refine Ans.neF ?_ ?_); (focus omega))
     | (with_reducible first | refine Ans.lsS (fun _ => ?_) (fun _ => ?_) | refine Ans.leS (fun _ => ?_) (fun _ => ?_) | refine Ans.grS (fun _ => ?_) (fun _ => ?_) | refine Ans.geS (fun _ => ?_) (fun _ => ?_) | refine Ans.eqS (fun _ => ?_) (fun _ => ?_) | refine Ans.neS (fun _ => ?_) (fun _ => ?_))
     | ((with_reducible first | refine Ans.addN ?_ ?_ | refine Ans.add ?_ ?_ | refine Ans.sub ?_ ?_ | refine Ans.mul ?_ ?_); (focus omega))
     | ((with_reducible first | refine Ans.ct ?_ ?_); (focus (simp (disch := (first | omega | with_reducible assumption | (simp <;> omega) | fail)) [q1, q2, k1, k2]; done)))
     | ((with_reducible first | refine Ans.cf ?_ ?_); (focus (simp (disch := (first | omega | with_reducible assumption | (simp <;> omega) | fail)) [q1, q2, k1, k2]; done)))
     | (refine Ans.step (by simp (disch := (first | omega | with_reducible assumption | (simp <;> omega) | fail)) [q1, q2, k1, k2, -List.getD_eq_getElem?_getD] <;> rfl) ?_; try dsimp only [v_zero, v_succ])
     | fail)
    exact Ans.pure rfl scM
  rw [if_pos z2] at k2 ⊢
  obtain ⟨v, h', c', e1, e2, e3, e4, e5⟩ := RnPost.callF (renumR_sp s1 so sp n a b Gl Ord Pm M (c + 1 + 1 + 1) [] ((h1.same scM).mono (by omega)) ((ho.same scM).mono (by omega)) ((hp.same scM).mono (by omega)))
  have fv := e4.flat
  obtain ⟨E, hE⟩ : ∃ E, rnE Gl Ord Pm n a b = E := ⟨_, rfl⟩
  rw [hE] at e1 ⊢
  have sc' : Same c h h' := scM.trans (e3.mono (by omega))
  by_cases hE0 : E = 0
  case neg =>
    rw [if_neg hE0]
    repeat' (first
     | ((with_reducible first | refine Ans.bz ?_ | refine Ans.r1 ?_ | refine Ans.pkT ?_ | refine Ans.pkF ?_); try dsimp only [v_zero, v_succ])
     | (with_reducible first | refine Ans.btL ?_ | refine Ans.bfL ?_ | refine Ans.gyT ?_ | refine Ans.gyF ?_ | refine Ans.gyG ?_ | refine Ans.bb ?_ | refine Ans.bc ?_ | refine Ans.ba ?_)
     | ((with_reducible first | refine Ans.lsT ?_ ?_ | refine Ans.leT ?_ ?_ | refine Ans.grT ?_ ?_ | refine Ans.geT ?_ ?_ | refine Ans.eqT ?_ ?_ | refine Ans.neT ?_ ?_); (focus omega))
     | ((with_reducible first | refine Ans.lsF ?_ ?_ | refine Ans.leF ?_ ?_ | refine Ans.grF ?_ ?_ | refine Ans.geF ?_ ?_ | refine Ans.eqF ?_ ?_ | refine Ans.neF ?_ ?_); (focus omega))
     | (with_reducible first | refine Ans.lsS (fun _ => ?_) (fun _ => ?_) | refine Ans.leS (fun _ => ?_) (fun _ => ?_) | refine Ans.grS (fun _ => ?_) (fun _ => ?_) | refine Ans.geS (fun _ => ?_) (fun _ => ?_) | refine Ans.eqS (fun _ => ?_) (fun _ => ?_) | refine Ans.neS (fun _ => ?_) (fun _ => ?_))
     | ((with_reducible first | refine Ans.addN ?_ ?_ | refine Ans.add ?_ ?_ | refine Ans.sub ?_ ?_ | refine Ans.mul ?_ ?_); (focus omega))
     | ((with_reducible first | refine Ans.ct ?_ ?_); (focus (simp (disch := (first | omega | with_reducible assumption | (simp <;> omega) | fail)) [q1, q2, q3, q4, k1, k2, e1, fv]; done)))
     | ((with_reducible first | refine Ans.cf ?_ ?_); (focus (simp (disch := (first | omega | with_reducible assumption | (simp <;> omega) | fail)) [q1, q2, q3, q4, k1, k2, e1, fv]; done)))
     | (refine Ans.step (by simp (disch := (first | omega | with_reducible assumption | (simp <;> omega) | fail)) [q1, q2, q3, q4, k1, k2, e1, fv, -List.getD_eq_getElem?_getD] <;> rfl) ?_; try dsimp only [v_zero, v_succ])
     | fail)
    (refine Ans.pure ?_ ?_; (focus (first | rfl | (simp (disch := (first | omega | with_reducible assumption | (simp <;> omega) | fail)) [sc']; done))); (focus (first | with_reducible assumption | (simp (disch := (first | omega | with_reducible assumption | (simp <;> omega) | fail)) [sc']; done))))
  rw [if_pos hE0]
  have lv : ldN (newB h' (256 * (c + 1 + 1) + 9) [v]) 1 (.pointer (some ⟨256 * (c + 1 + 1) + 9, 0, none⟩)) = some (.agg #[v]) := ldN1_own (Holds.newB_same _ _ _)
  have q5 := ldN1_own (g2.same (by omega) e3)
  have cs := callF_of (sameR_sp v s2 (rnN Gl Ord Pm n a b) m (rnR Gl Ord Pm n a b) Hl (newB h' (256 * (c + 1 + 1) + 9) [v]) (c' + 1) [] ((e4.keep (fun hb => by have := e5 hb; rw [newB_f, if_neg (by omega)])).mono (by omega))
    (((h2.same sc').keep (fun hb => by have := h2.blk hb; rw [newB_f, if_neg (by omega)])).mono (by omega)) (by unfold rnN; split <;> omega))
  cases hsm : sameB2 (rnN Gl Ord Pm n a b) m (rnR Gl Ord Pm n a b) Hl with
  | true =>
    rw [hsm] at cs
    repeat' (first
     | ((with_reducible first | refine Ans.bz ?_ | refine Ans.r1 ?_ | refine Ans.pkT ?_ | refine Ans.pkF ?_); try dsimp only [v_zero, v_succ])
     | (with_reducible first | refine Ans.btL ?_ | refine Ans.bfL ?_ | refine Ans.gyT ?_ | refine Ans.gyF ?_ | refine Ans.gyG ?_ | refine Ans.bb ?_ | refine Ans.bc ?_ | refine Ans.ba ?_)
     | ((with_reducible first | refine Ans.lsT ?_ ?_ | refine Ans.leT ?_ ?_ | refine Ans.grT ?_ ?_ | refine Ans.geT ?_ ?_ | refine Ans.eqT ?_ ?_ | refine Ans.neT ?_ ?_); (focus omega))
     | ((with_reducible first | refine Ans.lsF ?_ ?_ | refine Ans.leF ?_ ?_ | refine Ans.grF ?_ ?_ | refine Ans.geF ?_ ?_ | refine Ans.eqF ?_ ?_ | refine Ans.neF ?_ ?_); (focus omega))
     | (with_reducible first | refine Ans.lsS (fun _ => ?_) (fun _ => ?_) | refine Ans.leS (fun _ => ?_) (fun _ => ?_) | refine Ans.grS (fun _ => ?_) (fun _ => ?_) | refine Ans.geS (fun _ => ?_) (fun _ => ?_) | refine Ans.eqS (fun _ => ?_) (fun _ => ?_) | refine Ans.neS (fun _ => ?_) (fun _ => ?_))
     | ((with_reducible first | refine Ans.addN ?_ ?_ | refine Ans.add ?_ ?_ | refine Ans.sub ?_ ?_ | refine Ans.mul ?_ ?_); (focus omega))
     | ((with_reducible first | refine Ans.ct ?_ ?_); (focus (simp (disch := (first | omega | with_reducible assumption | (simp <;> omega) | fail)) [q1, q2, q3, q4, q5, k1, k2, e1, fv, lv, cs]; done)))
     | ((with_reducible first | refine Ans.cf ?_ ?_); (focus (simp (disch := (first | omega | with_reducible assumption | (simp <;> omega) | fail)) [q1, q2, q3, q4, q5, k1, k2, e1, fv, lv, cs]; done)))
     | (refine Ans.step (by simp (disch := (first | omega | with_reducible assumption | (simp <;> omega) | fail)) [q1, q2, q3, q4, q5, k1, k2, e1, fv, lv, cs, -List.getD_eq_getElem?_getD] <;> rfl) ?_; try dsimp only [v_zero, v_succ])
     | fail)
    (refine Ans.pure ?_ ?_; (focus (first | rfl | (simp (disch := (first | omega | with_reducible assumption | (simp <;> omega) | fail)) [sc']; done))); (focus (first | with_reducible assumption | (simp (disch := (first | omega | with_reducible assumption | (simp <;> omega) | fail)) [sc']; done))))
  | false =>
    rw [hsm] at cs
    repeat' (first
     | ((with_reducible first | refine Ans.bz ?_ | refine Ans.r1 ?_ | refine Ans.pkT ?_ | refine Ans.pkF ?_); try dsimp only [v_zero, v_succ])
     | (with_reducible first | refine Ans.btL ?_ | refine Ans.bfL ?_ | refine Ans.gyT ?_ | refine Ans.gyF ?_ | refine Ans.gyG ?_ | refine Ans.bb ?_ | refine Ans.bc ?_ | refine Ans.ba ?_)
     | ((with_reducible first | refine Ans.lsT ?_ ?_ | refine Ans.leT ?_ ?_ | refine Ans.grT ?_ ?_ | refine Ans.geT ?_ ?_ | refine Ans.eqT ?_ ?_ | refine Ans.neT ?_ ?_); (focus omega))
     | ((with_reducible first | refine Ans.lsF ?_ ?_ | refine Ans.leF ?_ ?_ | refine Ans.grF ?_ ?_ | refine Ans.geF ?_ ?_ | refine Ans.eqF ?_ ?_ | refine Ans.neF ?_ ?_); (focus omega))
     | (with_reducible first | refine Ans.lsS (fun _ => ?_) (fun _ => ?_) | refine Ans.leS (fun _ => ?_) (fun _ => ?_) | refine Ans.grS (fun _ => ?_) (fun _ => ?_) | refine Ans.geS (fun _ => ?_) (fun _ => ?_) | refine Ans.eqS (fun _ => ?_) (fun _ => ?_) | refine Ans.neS (fun _ => ?_) (fun _ => ?_))
     | ((with_reducible first | refine Ans.addN ?_ ?_ | refine Ans.add ?_ ?_ | refine Ans.sub ?_ ?_ | refine Ans.mul ?_ ?_); (focus omega))
     | ((with_reducible first | refine Ans.ct ?_ ?_); (focus (simp (disch := (first | omega | with_reducible assumption | (simp <;> omega) | fail)) [q1, q2, q3, q4, q5, k1, k2, e1, fv, lv, cs]; done)))
     | ((with_reducible first | refine Ans.cf ?_ ?_); (focus (simp (disch := (first | omega | with_reducible assumption | (simp <;> omega) | fail)) [q1, q2, q3, q4, q5, k1, k2, e1, fv, lv, cs]; done)))
     | (refine Ans.step (by simp (disch := (first | omega | with_reducible assumption | (simp <;> omega) | fail)) [q1, q2, q3, q4, q5, k1, k2, e1, fv, lv, cs, -List.getD_eq_getElem?_getD] <;> rfl) ?_; try dsimp only [v_zero, v_succ])
     | fail)
    (refine Ans.pure ?_ ?_; (focus (first | rfl | (simp (disch := (first | omega | with_reducible assumption | (simp <;> omega) | fail)) [sc']; done))); (focus (first | with_reducible assumption | (simp (disch := (first | omega | with_reducible assumption | (simp <;> omega) | fail)) [sc']; done))))

theorem sane_call (h : FH) (c : Nat) : callF G 13 [] h c = some (.bool true, h, c) := callF_of (runG_ext (f := 13) (args := []) (h := h) (c := c) (r := { e := .ret, vs := [.bool true], h := h, c := c, df := [] }) rfl)

theorem isoChecks_true (s1 s2 so sp : Value) (n m a b : Nat) (Gl Hl Ord Pm : List Int) (h : FH) (c : Nat) (h1 : SlI h c s1 20 n Gl) (h2 : SlI h c s2 20 m Hl) (ho : SlI h c so 1 a Ord) (hp : SlI h c sp 4 b Pm) :
    Ans (G (.fn 4) [.agg #[s1], .agg #[s2], .agg #[so, sp]] h c []) fun x => x.e = .ret ∧ x.vs = [.bool true] := by
  suffices hs : Ans (f4_S G (.agg #[s1]) (.agg #[s2]) (.agg #[so, sp]) h c) fun x => x.e = .ret ∧ x.vs = [.bool true] by
    obtain ⟨x, q1, q2⟩ := hs
    exact ⟨_, f4_go q1, by show (gcR h c [] x).e = _ ∧ (gcR h c [] x).vs = _; rw [gcR_e, gcR_vs]; exact q2⟩
  have hc1 : (Value.agg #[s1]).cells.toList = [s1] := rfl
  have hc2 : (Value.agg #[s2]).cells.toList = [s2] := rfl
  have hc3 : (Value.agg #[so, sp]).cells.toList = [so, sp] := rfl
  unfold f4_S
  rw [flat1 h1.flat, flat1 h2.flat, flat2 ho.flat hp.flat, hc1, hc2, hc3]
  simp only [cond_true]
  obtain ⟨M, hM⟩ : ∃ H, H = newB (newB (newB h (256 * c) [s1]) (256 * c + 1) [s2]) (256 * c + 2) [so, sp] := ⟨_, rfl⟩
  have scM : Same c h M := by rw [hM]; simp (disch := omega)
  have g1 : Holds M (256 * c) [s1] := by rw [hM]; exact Holds.newB_ne (by omega) (Holds.newB_ne (by omega) (Holds.newB_same _ _ _))
  have g2 : Holds M (256 * c + 1) [s2] := by rw [hM]; exact Holds.newB_ne (by omega) (Holds.newB_same _ _ _)
  have g3 : Holds M (256 * c + 2) [so, sp] := by rw [hM]; exact Holds.newB_same _ _ _
  rw [Nat.add_zero, ← hM]
  clear hM
  have q1 := ldN1_own g1
  have q2 := ldN1_own g2
  have q3 : ldN M 2 (.pointer (some ⟨256 * c + 2, 0, none⟩)) = some (.agg #[so, sp]) := by rw [ldN_holds g3 (by simp)]; rfl
  have q4 : ld1 M (.pointer (some ⟨256 * c, 0, none⟩)) = some s1 := by rw [ld1_holds' g1]; rfl
  have q5 : ld1 M (.pointer (some ⟨256 * c + 1, 0, none⟩)) = some s2 := by rw [ld1_holds' g2]; rfl
  have k0 := sane_call M
  have l1 := h1.len
  have l2 := h2.len
  have k1 := fun c' (hc : c ≤ c') => callF_of (isoCheck_sp s1 s2 so sp n m a b Gl Hl Ord Pm M c' [] ((h1.same scM).mono hc) ((h2.same scM).mono hc) ((ho.same scM).mono hc) ((hp.same scM).mono hc))
  have k2 := fun c' (hc : c ≤ c') => callF_of (refCheck_sp s1 s2 so sp n m a b Gl Hl Ord Pm M c' [] ((h1.same scM).mono hc) ((h2.same scM).mono hc) ((ho.same scM).mono hc) ((hp.same scM).mono hc))
  repeat' (first
   | ((with_reducible first | refine Ans.bz ?_ | refine Ans.r1 ?_ | refine Ans.pkT ?_ | refine Ans.pkF ?_); try dsimp only [v_zero, v_succ])
   | (with_reducible first | refine Ans.btL ?_ | refine Ans.bfL ?_ | refine Ans.gyT ?_ | refine Ans.gyF ?_ | refine Ans.gyG ?_ | refine Ans.bb ?_ | refine Ans.bc ?_ | refine Ans.ba ?_)
   | ((with_reducible first | refine Ans.lsT ?_ ?_ | refine Ans.leT ?_ ?_ | refine Ans.grT ?_ ?_ | refine Ans.geT ?_ ?_ | refine Ans.eqT ?_ ?_ | refine Ans.neT ?_ ?_); (focus omega))
   | ((with_reducible first | refine Ans.lsF ?_ ?_ | refine Ans.leF ?_ ?_ | refine Ans.grF ?_ ?_ | refine Ans.geF ?_ ?_ | refine Ans.eqF ?_ ?_ | refine Ans.neF ?_ ?_); (focus omega))
   | (with_reducible first | refine Ans.lsS (fun _ => ?_) (fun _ => ?_) | refine Ans.leS (fun _ => ?_) (fun _ => ?_) | refine Ans.grS (fun _ => ?_) (fun _ => ?_) | refine Ans.geS (fun _ => ?_) (fun _ => ?_) | refine Ans.eqS (fun _ => ?_) (fun _ => ?_) | refine Ans.neS (fun _ => ?_) (fun _ => ?_))
   | ((with_reducible first | refine Ans.addN ?_ ?_ | refine Ans.add ?_ ?_ | refine Ans.sub ?_ ?_ | refine Ans.mul ?_ ?_); (focus omega))
   | ((with_reducible first | refine Ans.ct ?_ ?_); (focus (simp (disch := (first | omega | with_reducible assumption | (simp <;> omega) | fail)) [q1, q2, q3, q4, q5, l1, l2, k0, k1, k2]; done)))
   | ((with_reducible first | refine Ans.cf ?_ ?_); (focus (simp (disch := (first | omega | with_reducible assumption | (simp <;> omega) | fail)) [q1, q2, q3, q4, q5, l1, l2, k0, k1, k2]; done)))
   | (refine Ans.step (by simp (disch := (first | omega | with_reducible assumption | (simp <;> omega) | fail)) [q1, q2, q3, q4, q5, l1, l2, k0, k1, k2, -List.getD_eq_getElem?_getD] <;> rfl) ?_; try dsimp only [v_zero, v_succ])
   | fail)
  all_goals exact .done ⟨rfl, rfl⟩
end Go.Proofs.Ytemkjcpfgmbibaa

/-! From what a call answers to the row of its statement. -/
namespace Go.Ab
open Go Go.ChangeShapes Go.RowKit
set_option linter.unusedVariables false
set_option linter.unusedSimpArgs false

section post
variable {H : Type} {enc : TypeId × Value → H} {P : Program}

theorem trodAll_lt : ∀ {ts : List TypeId} {w : World} {vs : List Value} {ds : List (DataW H)} {ps : List MemPlace}, DataW.TrodAll enc P w 0 (fun _ => true) true ts vs ds ps → ∀ x ∈ ps, x.block < w.heap.size
  | [], w, vs, ds, ps, h, x, hx => by
    obtain ⟨_, _, rfl⟩ := trodAll_nil h
    cases hx
  | t :: ts, w, vs, ds, ps, h, x, hx => by
    obtain ⟨v, vs', d, ds', p, q, rfl, rfl, rfl, h1, h2⟩ := trodAll_cons h
    rcases List.mem_append.1 hx with hx | hx
    · obtain ⟨n, h1⟩ := h1
      exact DataW.trod_lt n _ _ _ h1 x hx
    · exact trodAll_lt h2 x hx

theorem trodAll_stays (hl : laidOutB P = true) : ∀ {ts : List TypeId} {w w' : World} {sp : Nat → Bool} {vs : List Value} {ds : List (DataW H)} {ps : List MemPlace}, (∀ t ∈ ts, P.readableRec t = true ∧ t < P.types.size) →
    DataW.TrodAll enc P w 0 (fun _ => true) true ts vs ds ps → (∀ p ∈ ps, w.sameAt w' p) → (∀ p ∈ ps, sp p.block = true) → DataW.TrodAll enc P w' 0 sp true ts vs ds ps
  | [], w, w', sp, vs, ds, ps, _, h, _, _ => by
    obtain ⟨rfl, rfl, rfl⟩ := trodAll_nil h
    exact rfl
  | t :: ts, w, w', sp, vs, ds, ps, hr, h, h1, h2 => by
    obtain ⟨v, vs', d, ds', p, q, rfl, rfl, rfl, g1, g2⟩ := trodAll_cons h
    refine ⟨p, q, ?_, ?_, rfl⟩
    · exact WideElems.Trod_stays hl (hr t (by simp)).1 (hr t (by simp)).2 g1 (fun x hx => h1 x (List.mem_append.2 (.inl hx))) (fun x hx => h2 x (List.mem_append.2 (.inl hx)))
    · exact trodAll_stays hl (fun u hu => hr u (by simp [hu])) g2 (fun x hx => h1 x (List.mem_append.2 (.inr hx))) (fun x hx => h2 x (List.mem_append.2 (.inr hx)))

/-- a law that returned true over a world in which nothing that was there has changed -/
theorem row_post (hl : laidOutB P = true) {f : Func} {s : ChangeSpec} {apart fresh handsOn again : Bool} {W W' : World} {args : Array Value} {ds gs : List (DataW H)} {before : List MemPlace} {tb : TypeId}
    (hts : ∀ t ∈ f.params.toList, P.readableRec t = true ∧ t < P.types.size) (hvars : s.vars = []) (hres : (s.fn H (ds ++ gs)).results = [.lit (.bool true)]) (hargs : (s.fn H (ds ++ gs)).args = ds) (hvs : (s.fn H (ds ++ gs)).vars = [])
    (hrt : f.resultTypes = #[tb]) (htb : P.underlying tb = some .bool) (hW : DataW.Whole enc P f.params.toList s.vars apart W args.toList ds gs before) (hB : Below W.heap.size W W') :
    s.post enc P f apart fresh handsOn again W args (.bool true) W' := by
  have hW0 := hW
  obtain ⟨p, q, hA, hV, rfl, hfz, hnd⟩ := hW
  rw [hvars] at hV
  have hgq : gs = [] ∧ q = [] := by
    cases gs with
    | nil => exact ⟨rfl, hV⟩
    | cons g gs => exact hV.elim
  obtain ⟨rfl, rfl⟩ := hgq
  have hlt := trodAll_lt hA
  have hrl : Value.resultList f.resultTypes.size (.bool true) = [.bool true] := by rw [hrt]; rfl
  have hR : ∀ (b : Nat) (sp : Nat → Bool) (hd : Bool), DataW.TrodAll enc P W' b sp hd f.resultTypes.toList (Value.resultList f.resultTypes.size (.bool true)) (s.fn H (ds ++ [])).results [] := by
    intro b sp hd
    rw [hrl, hres, hrt]
    exact ⟨[], [], shut_bool htb true, rfl, rfl⟩
  have hS : ∀ sp : Nat → Bool, (∀ x ∈ p, sp x.block = true) → DataW.TrodAll enc P W' 0 sp true f.params.toList args.toList (s.fn H (ds ++ [])).args p := by
    intro sp hsp
    rw [hargs]
    exact trodAll_stays hl hts hA (fun x hx => hB.same (hlt x hx)) hsp
  have hV' : ∀ sp : Nat → Bool, DataW.TrodVars enc P W' sp s.vars (s.fn H (ds ++ [])).vars [] := by
    intro sp; rw [hvars, hvs]; exact rfl
  have hfz' : W'.noneFrozen (p ++ []) := by
    intro b off hp
    have h1 := hfz b off hp
    have h2 : W'.heap[b]? = W.heap[b]? := hB.block b (hlt (.cell b off) (by simpa using hp))
    unfold World.frozen? at h1 ⊢
    simp only at h1 ⊢
    rw [h2]; exact h1
  have hok : ∀ (j : Nat) (t : TypeId) (r : Value), f.resultTypes[j]? = some t → (Value.resultList f.resultTypes.size (.bool true))[j]? = some r → Value.okWide P W' .any 0 t r :=
    ok_one hrt rfl (by simp [Value.okWide, htb, Cell.okWide, Cell.ok])
  refine ⟨ds, [], p ++ [], [], p, [], hW0, hR _ _ _, hS _ (fun x hx => by simpa using hlt x hx), hV' _, ?_, fun _ => ?_⟩
  · refine ⟨hB.os, hB.output, fun i hi => ?_⟩
    rw [hB.block i hi]
    split
    · rename_i h1 h2
      rw [h1] at h2
      cases h2
      exact ⟨rfl, rfl, rfl, fun _ _ => rfl⟩
    · rename_i h1 h2
      rw [h1] at h2
      cases h2
      exact .inr ⟨rfl, rfl⟩
    · rfl
  · refine ⟨hok, _, _, ([] ++ p) ++ [], ⟨[] ++ p, [], trodAll_append (hS (fun _ => true) (fun _ _ => rfl)) (hR _ _ _), hV' _, rfl, ?_, ?_⟩, ?_⟩
    · intro b off hp
      exact hfz' b off (by simpa using hp)
    · intro ha
      have := hnd ha
      simpa using this
    · intro x hx _
      simpa using hx
end post

/-! ### Arguments -/
/-- a slice of the caller's that reads n elements of sz integers each -/
def OpenS (W : World) (v : Value) (sz n : Nat) (Gl : List Int) : Prop :=
  Gl.length = n * sz ∧ n ≤ 9223372036854775807 ∧ ((v = .slice none 0 0 ∧ n = 0) ∨
    ∃ b o cap C E fr, v = .slice (some ⟨b, o, none⟩) n cap ∧ n ≤ cap ∧ W.heap[b]? = some (.cells C E fr) ∧ ∀ j, j < Gl.length → C[o + j]? = some (.int .i64 (Gl.getD j 0)))

/-- the abstract slice over the block i -/
def absS (i : Nat) (v : Value) : Value :=
  match v with
  | .slice (some _) n cap => .slice (some ⟨i, 0, none⟩) n cap
  | v => v
/-- where it lies -/
def absM (v : Value) : Option ME :=
  match v with
  | .slice (some a) _ _ => some ⟨a.block, a.off, none⟩
  | _ => none

theorem OpenS.vr {W : World} {v : Value} {sz n : Nat} {Gl : List Int} (h : OpenS W v sz n Gl) {μ : Mu} {i : Nat} (hm : ∀ m, absM v = some m → μ i = some m) : VR μ (absS i v) v := by
  obtain ⟨h1, h2, ⟨rfl, _⟩ | ⟨b, o, cap, C, E, fr, rfl, _, _, _⟩⟩ := h
  · exact .sl0 0 0
  · have := hm ⟨b, o, none⟩ rfl
    exact VR.sl (i := i) (o := 0) this (Nat.le_refl _) (.inl rfl)

theorem OpenS.sl {W : World} {v : Value} {sz n : Nat} {Gl : List Int} (h : OpenS W v sz n Gl) {A : FH} {i c : Nat} (hi : i < 256 * c) (ha : ∀ m, absM v = some m → A.f i = some (.cells true none (ints Gl))) : SlI A c (absS i v) sz n Gl := by
  obtain ⟨h1, h2, ⟨rfl, rfl⟩ | ⟨b, o, cap, C, E, fr, rfl, _, _, _⟩⟩ := h
  · exact ⟨h1, h2, none, 0, rfl, .inl ⟨rfl, OkV.sl0 _ _ _⟩⟩
  · refine ⟨h1, h2, some ⟨i, 0, none⟩, cap, rfl, .inr ⟨i, 0, ints Gl, rfl, hi, ⟨true, none, ha _ rfl⟩, ?_⟩⟩
    rw [List.drop_zero, List.take_of_length_le (by simp [h1])]

theorem OpenS.blk {W : World} {v : Value} {sz n : Nat} {Gl : List Int} (h : OpenS W v sz n Gl) {μ : Mu} {m : ME} (hm : absM v = some m) : BlkR μ m W.heap (some (.cells true none (ints Gl))) ∧ m.b < W.heap.size := by
  obtain ⟨h1, h2, ⟨rfl, rfl⟩ | ⟨b, o, cap, C, E, fr, rfl, _, h3, h4⟩⟩ := h
  · cases hm
  · cases hm
    refine ⟨⟨C, E, fr, h3, fun k x hx => ?_, (fun h => by cases h), rfl⟩, (Array.getElem?_eq_some_iff.1 h3).1⟩
    have hk : k < Gl.length := by have := (List.getElem?_eq_some_iff.1 hx).1; simpa using this
    rw [ints_getD _ _ hk] at hx
    cases hx
    exact ⟨_, h4 k hk, .int _ _⟩

/-! ### Types whose cells are integers -/
def FlatT (P : Program) (e : TypeId) (sz : Nat) : Prop :=
  P.cellsOf e = sz ∧ ∀ (H : Type) (enc : TypeId × Value → H) (w : World) (base : Nat) (spare : Nat → Bool) (held : Bool) (fuel : Nat) (cs : List Value) (x : DataW H × List MemPlace),
    DataW.trod enc P w base spare held fuel e cs = some x → cs.length = sz ∧ ∀ v ∈ cs, ∃ n, v = .int .i64 n

section flat
variable {P : Program}

theorem FlatT.int {e : TypeId} (he : P.underlying e = some (.int .i64)) (hc : P.cellsOf e = 1) : FlatT P e 1 := by
  refine ⟨hc, fun H enc w base spare held fuel cs x h => ?_⟩
  obtain ⟨n, rfl, _, _⟩ := DataW.trod_int he h
  exact ⟨rfl, fun v hv => ⟨n, by simpa using hv⟩⟩

theorem mapM_get {α β : Type} {f : α → Option β} : ∀ {l : List α} {r : List β}, l.mapM f = some r → ∀ a ∈ l, ∃ b, f a = some b
  | [], r, h, a, ha => by cases ha
  | x :: l, r, h, a, ha => by
    rw [List.mapM_cons] at h
    simp only [Option.bind_eq_bind, Option.bind_eq_some_iff] at h
    obtain ⟨y, hy, ys, hys, _⟩ := h
    rcases List.mem_cons.1 ha with rfl | ha
    · exact ⟨y, hy⟩
    · exact mapM_get hys a ha

theorem FlatT.array {t e : TypeId} {n z : Nat} (ht : P.underlying t = some (.array n e)) (hf : FlatT P e z) (hc : P.cellsOf t = n * z) : FlatT P t (n * z) := by
  refine ⟨hc, fun H enc w base spare held fuel cs x h => ?_⟩
  cases fuel with
  | zero => simp [DataW.trod] at h
  | succ fuel =>
    have h' : (if cs.length = P.cellsOf t then ((List.range n).mapM fun i => DataW.trod enc P w base spare held fuel e ((cs.drop (i * P.cellsOf e)).take (P.cellsOf e))).map fun xs => ((.agg (xs.map (·.1)), xs.flatMap (·.2)) : DataW H × List MemPlace) else none) = some x := by
      have h1 := h
      unfold DataW.trod at h1
      rw [ht] at h1
      split at h1 <;> first | exact h1 | (rename_i e1 _; cases e1) | (rename_i e1 _ _; cases e1) | (rename_i e1; cases e1) | skip
      all_goals first | exact h1 | (simp_all; done) | skip
    split at h'
    · rename_i hl
      rw [hc] at hl
      refine ⟨hl, fun v hv => ?_⟩
      cases hm : (List.range n).mapM fun i => DataW.trod enc P w base spare held fuel e ((cs.drop (i * P.cellsOf e)).take (P.cellsOf e)) with
      | none => rw [hm] at h'; cases h'
      | some ys =>
        obtain ⟨j, hj⟩ := List.getElem?_of_mem hv
        have hjl : j < n * z := by have := (List.getElem?_eq_some_iff.1 hj).1; omega
        have hz : 0 < z := by
          rcases Nat.eq_zero_or_pos z with e | e
          · rw [e] at hjl; simp at hjl
          · exact e
        have hi : j / z < n := by rw [Nat.div_lt_iff_lt_mul hz]; exact hjl
        obtain ⟨y, hy⟩ := mapM_get hm (j / z) (by simpa using hi)
        rw [hf.1] at hy
        refine (hf.2 _ _ _ _ _ _ _ _ _ hy).2 v ?_
        refine List.mem_of_getElem? (i := j % z) ?_
        rw [List.getElem?_take_of_lt (Nat.mod_lt _ hz), List.getElem?_drop, Nat.mul_comm, Nat.div_add_mod]
        exact hj
    · cases h'

theorem FlatT.struct2 {t : TypeId} {f0 f1 : Field} {z0 z1 : Nat} (ht : P.underlying t = some (.struct #[f0, f1])) (h0 : FlatT P f0.type z0) (h1 : FlatT P f1.type z1) (o0 : f0.offset = 0) (o1 : f1.offset = z0) (hc : P.cellsOf t = z0 + z1) : FlatT P t (z0 + z1) := by
  refine ⟨hc, fun H enc w base spare held fuel cs x h => ?_⟩
  obtain ⟨xs, n, rfl, _, hl, hxl, hf⟩ := DataW.trod_struct ht h
  rw [hc] at hl
  refine ⟨hl, fun v hv => ?_⟩
  have g0 := hf 0 f0 rfl
  have g1 := hf 1 f1 rfl
  have l2 : xs.length = 2 := hxl
  rw [List.getElem?_eq_getElem (by omega)] at g0 g1
  rw [h0.1, o0, List.drop_zero] at g0
  rw [h1.1, o1] at g1
  obtain ⟨j, hj⟩ := List.getElem?_of_mem hv
  have hjl : j < z0 + z1 := by have := (List.getElem?_eq_some_iff.1 hj).1; omega
  by_cases hlt : j < z0
  · refine (h0.2 _ _ _ _ _ _ _ _ _ g0).2 v (List.mem_of_getElem? (i := j) ?_)
    rw [List.getElem?_take_of_lt hlt]; exact hj
  · refine (h1.2 _ _ _ _ _ _ _ _ _ g1).2 v (List.mem_of_getElem? (i := j - z0) ?_)
    rw [List.getElem?_take_of_lt (by omega), List.getElem?_drop, show z0 + (j - z0) = j by omega]
    exact hj

/-- a slice argument whose elements are flat -/
theorem open_flat {H : Type} {enc : TypeId × Value → H} {W : World} {base : Nat} {t e : TypeId} {sz : Nat} {v : Value} {fuel : Nat} {x : DataW H × List MemPlace} (ht : P.underlying t = some (.slice e)) (hf : FlatT P e sz) (hz : 0 < sz)
    (hval : Cell.okWide P W .any base t v) (hd : DataW.trod enc P W 0 (fun _ => true) true fuel t [v] = some x) : ∃ n Gl, OpenS W v sz n Gl := by
  rcases DataW.trod_slice ht hd with ⟨h1, _⟩ | ⟨a, len, cap, elems, rest, n, _, h1, _, hb, hl, hm, hlen, hel, _, _⟩
  · cases h1
    exact ⟨0, [], by simp, by omega, .inl ⟨rfl, rfl⟩⟩
  · cases h1
    -- the block
    have hok : Cell.ok P W .any base t (.slice (some a) len cap) := by
      unfold Cell.okWide at hval
      rw [ht] at hval
      exact hval
    unfold Cell.ok at hok
    rw [ht] at hok
    obtain ⟨_, _, _, hsp, row, cells, hsh, _⟩ := hok
    obtain ⟨b, o, sp⟩ := a
    simp only at hsp
    subst hsp
    unfold World.shape? at hsh
    have hblk : ∃ C E fr, W.heap[b]? = some (.cells C E fr) := by
      split at hsh
      · rename_i c el fr hh; exact ⟨c, el, fr, hh⟩
      · cases hsh
    obtain ⟨C, E, fr, hC⟩ := hblk
    have hadd : ∀ o k, (⟨b, o, none⟩ : Addr).add k = ⟨b, o + k, none⟩ := fun o k => by unfold Addr.add; split <;> simp_all
    -- the cells
    have hcell : ∀ j, j < len * sz → ∃ z, C[o + j]? = some (.int .i64 z) := by
      intro j hj
      have hi : j / sz < len := by rw [Nat.div_lt_iff_lt_mul hz]; exact hj
      have h2 := hel (j / sz) hi
      rw [List.getElem?_eq_getElem (by omega)] at h2
      simp only [Option.bind_eq_some_iff] at h2
      obtain ⟨cs, hcs, htr⟩ := h2
      rw [hf.1] at hcs
      obtain ⟨_, hcl, hcg⟩ := World.cells?_some hcs
      have h3 := hcg (j % sz) (Nat.mod_lt _ hz)
      have hfl := hf.2 _ _ _ _ _ _ _ _ _ htr
      have hjm : j % sz < cs.length := by rw [hcl]; exact Nat.mod_lt _ hz
      rw [List.getElem?_eq_getElem hjm] at h3
      obtain ⟨z, hz'⟩ := hfl.2 cs[j % sz] (List.getElem_mem hjm)
      rw [hz', hadd] at h3
      have : (⟨b, o + j / sz * sz, none⟩ : Addr).add (j % sz) = ⟨b, o + j, none⟩ := by
        rw [hadd]
        have := Nat.div_add_mod j sz
        rw [Nat.mul_comm] at this
        congr 1; omega
      rw [this] at h3
      refine ⟨z, ?_⟩
      simpa [World.cell?, hC] using h3
    refine ⟨len, (List.range (len * sz)).map fun j => (match C[o + j]? with | some (.int .i64 z) => z | _ => 0), by simp, ?_, .inr ⟨b, o, cap, C, E, fr, rfl, hl, hC, fun j hj => ?_⟩⟩
    · unfold maxLen at hm
      have : cap ≤ 9223372036854775807 := by simp at hm; omega
      omega
    · have hj' : j < len * sz := by simpa using hj
      obtain ⟨z, hz'⟩ := hcell j hj'
      rw [hz']
      congr 2
      simp [List.getD, hj', hz']

end flat

end Go.Ab

/-! Opening arguments: structs of slices; the heap of a call. -/
namespace Go.Ab
open Go Go.ChangeShapes Go.RowKit
set_option linter.unusedVariables false
set_option linter.unusedSimpArgs false

variable {P : Program}

theorem okStruct {W : World} {base : Nat} {t : TypeId} {fs : Array Field} {v : Value} {ts : List TypeId} (ht : P.underlying t = some (.struct fs)) (hts : P.cellTypes P.depth t = some ts) (hval : Value.okWide P W .any base t v) :
    ∃ cs, v = .agg cs ∧ cs.size = P.cellsOf t ∧ ∀ i x, cs[i]? = some x → ∃ u, ts[i % ts.length]? = some u ∧ Cell.okWide P W .any base u x := by
  unfold Value.okWide at hval
  rw [ht] at hval
  obtain ⟨cs, rfl, h1, ts', h2, _, h3⟩ := hval
  rw [hts] at h2
  cases h2
  exact ⟨cs, rfl, h1, h3⟩

/-- a struct of one slice -/
theorem open_s1 {H : Type} {enc : TypeId × Value → H} {W : World} {base : Nat} {tG tS e : TypeId} {sz : Nat} {v : Value} {f0 : Field} {d : DataW H} {ps : List MemPlace} (ht : P.underlying tG = some (.struct #[f0])) (hts : P.cellTypes P.depth tG = some [tS]) (hc : P.cellsOf tG = 1)
    (hS : P.underlying tS = some (.slice e)) (h0 : f0.type = tS) (o0 : f0.offset = 0) (hcS : P.cellsOf tS = 1) (hf : FlatT P e sz) (hz : 0 < sz) (hval : Value.okWide P W .any base tG v) (hd : DataW.Trod enc P W 0 (fun _ => true) true tG v d ps) :
    ∃ s n Gl, v = .agg #[s] ∧ OpenS W s sz n Gl := by
  obtain ⟨cs, rfl, h1, h2⟩ := okStruct ht hts hval
  rw [hc] at h1
  have hcs : ∃ s, cs = #[s] := by
    obtain ⟨l⟩ := cs
    match l, h1 with
    | [s], _ => exact ⟨s, rfl⟩
  match hcs with
  | ⟨s, hs⟩ =>
    subst hs
    obtain ⟨u, hu, hok⟩ := h2 0 s rfl
    simp at hu
    subst hu
    obtain ⟨fuel, hd⟩ := hd
    obtain ⟨y0, n, _, _, h3⟩ := trod_struct1 ht hd
    rw [h0, o0, hcS] at h3
    obtain ⟨n, Gl, ho⟩ := open_flat hS hf hz hok (fuel := n) (x := y0) (by simpa [Value.cells] using h3)
    exact ⟨s, n, Gl, rfl, ho⟩

/-- a struct of two slices -/
theorem open_s2 {H : Type} {enc : TypeId × Value → H} {W : World} {base : Nat} {tG tS tT e e' : TypeId} {sz sz' : Nat} {v : Value} {f0 f1 : Field} {d : DataW H} {ps : List MemPlace} (ht : P.underlying tG = some (.struct #[f0, f1])) (hts : P.cellTypes P.depth tG = some [tS, tT]) (hc : P.cellsOf tG = 2)
    (hS : P.underlying tS = some (.slice e)) (hT : P.underlying tT = some (.slice e')) (h0 : f0.type = tS) (o0 : f0.offset = 0) (k1 : f1.type = tT) (o1 : f1.offset = 1) (hcS : P.cellsOf tS = 1) (hcT : P.cellsOf tT = 1) (hf : FlatT P e sz) (hz : 0 < sz) (hf' : FlatT P e' sz') (hz' : 0 < sz')
    (hval : Value.okWide P W .any base tG v) (hd : DataW.Trod enc P W 0 (fun _ => true) true tG v d ps) :
    ∃ s s' n n' Gl Gl', v = .agg #[s, s'] ∧ OpenS W s sz n Gl ∧ OpenS W s' sz' n' Gl' := by
  obtain ⟨cs, rfl, h1, h2⟩ := okStruct ht hts hval
  rw [hc] at h1
  have hcs : ∃ s s', cs = #[s, s'] := by
    obtain ⟨l⟩ := cs
    match l, h1 with
    | [s, s'], _ => exact ⟨s, s', rfl⟩
  match hcs with
  | ⟨s, s', hs⟩ =>
    subst hs
    obtain ⟨u, hu, hok⟩ := h2 0 s rfl
    simp at hu
    subst hu
    obtain ⟨u, hu, hok'⟩ := h2 1 s' rfl
    simp at hu
    subst hu
    obtain ⟨fuel, hd⟩ := hd
    obtain ⟨y0, y1, n, _, _, h3, h4⟩ := trod_struct2 ht hd
    rw [h0, o0, hcS] at h3
    rw [k1, o1, hcT] at h4
    obtain ⟨n, Gl, ho⟩ := open_flat hS hf hz hok (fuel := n) (x := y0) (by simpa [Value.cells] using h3)
    obtain ⟨n', Gl', ho'⟩ := open_flat hT hf' hz' hok' (x := y1) (by simpa [Value.cells] using h4)
    exact ⟨s, s', n, n', Gl, Gl', rfl, ho, ho'⟩

/-- a slice -/
theorem open_sl {H : Type} {enc : TypeId × Value → H} {W : World} {base : Nat} {tS e : TypeId} {sz : Nat} {v : Value} {d : DataW H} {ps : List MemPlace} (hS : P.underlying tS = some (.slice e)) (hf : FlatT P e sz) (hz : 0 < sz)
    (hval : Value.okWide P W .any base tS v) (hd : DataW.Trod enc P W 0 (fun _ => true) true tS v d ps) : ∃ n Gl, OpenS W v sz n Gl := by
  unfold Value.okWide at hval
  rw [hS] at hval
  obtain ⟨fuel, hd⟩ := hd
  have hcs : v.cells.toList = [v] := by
    have hok : Cell.ok P W .any base tS v := by
      unfold Cell.okWide at hval
      rw [hS] at hval
      cases v <;> exact hval
    unfold Cell.ok at hok
    rw [hS] at hok
    cases v <;> first | rfl | exact hok.elim
  exact open_flat hS hf hz hval (fuel := fuel) (x := (d, ps)) (by rw [← hcs]; exact hd)

/-- the heap of a call over slices of the caller's -/
theorem rows_rel {W : World} (l : List (Value × Nat × Nat × List Int)) (hl : l.length ≤ 256) (h : ∀ (k : Nat) (p : Value × Nat × Nat × List Int), l[k]? = some p → OpenS W p.1 p.2.1 p.2.2.1 p.2.2.2) :
    ∃ (A : FH) (μ : Mu), R μ A W ∧ Fresh μ 1 ∧ (∀ i m, μ i = some m → wrB (HeapC.get A i) = false) ∧ ∀ (k : Nat) (p : Value × Nat × Nat × List Int), l[k]? = some p → SlI A 1 (absS k p.1) p.2.1 p.2.2.1 p.2.2.2 ∧ VR μ (absS k p.1) p.1 := by
  let blk : Nat → Option ABlk := fun i => (l[i]?).bind fun p => (absM p.1).map fun _ => .cells true none (ints p.2.2.2)
  let mu : Mu := fun i => (l[i]?).bind fun p => absM p.1
  have key : ∀ i m, mu i = some m → ∃ p, l[i]? = some p ∧ absM p.1 = some m ∧ blk i = some (.cells true none (ints p.2.2.2)) := by
    intro i m e
    cases hp : l[i]? with
    | none => simp only [mu, hp] at e; cases e
    | some p =>
      simp only [mu, hp, Option.bind_some] at e
      exact ⟨p, rfl, e, by simp only [blk, hp, Option.bind_some, e, Option.map_some]⟩
  refine ⟨⟨blk⟩, mu, ⟨fun i m e => ?_, fun i j mi mj ei ej hne di dj hro => ?_, fun i m e => ?_⟩, fun i hi => ?_, fun i m e => ?_, fun k p hp => ?_⟩
  · obtain ⟨p, h1, h2, h3⟩ := key i m e
    have := ((h i p h1).blk (μ := mu) h2).1
    show BlkR mu m W.heap (blk i)
    rw [h3]; exact this
  · obtain ⟨p, h1, h2, h3⟩ := key i mi ei
    obtain ⟨q, g1, g2, g3⟩ := key j mj ej
    exact absurd (show roB (blk i) = true ∧ roB (blk j) = true by rw [h3, g3]; exact ⟨rfl, rfl⟩) hro
  · obtain ⟨p, h1, h2, h3⟩ := key i m e
    exact ((h i p h1).blk (μ := mu) h2).2
  · have : l[i]? = none := List.getElem?_eq_none (by omega)
    simp only [mu, this]; rfl
  · obtain ⟨p, h1, h2, h3⟩ := key i m e
    show wrB (blk i) = false
    rw [h3]; rfl
  · have hk : k < l.length := (List.getElem?_eq_some_iff.1 hp).1
    refine ⟨(h k p hp).sl (by omega) (fun m hm => ?_), (h k p hp).vr (fun m hm => ?_)⟩
    · show blk k = _
      simp only [blk, hp, Option.bind_some, hm, Option.map_some]
    · simp only [mu, hp, Option.bind_some, hm]
theorem VR.agg1 {μ : Mu} {a b : Value} (h : VR μ a b) : VR μ (.agg #[a]) (.agg #[b]) := VR.agg_iff.2 (VRs.cons h (VRs.nil _))
theorem VR.agg2 {μ : Mu} {a b a' b' : Value} (h : VR μ a b) (h' : VR μ a' b') : VR μ (.agg #[a, a']) (.agg #[b, b']) := VR.agg_iff.2 (VRs.cons h (VRs.cons h' (VRs.nil _)))

/-- what a law's call does to the caller's world -/
def LawEnd (W : World) (e : Ending) (W' : World) : Prop := e = .returned (.bool true) ∧ Below W.heap.size W W'
end Go.Ab

namespace Go.Proofs.Ytemkjcpfgmbibaa
open Go.ChangeShapes Go.WideShapes Go.ChangeAt Go.RowKit
open Go Go.Ab Go.Proofs
set_option linter.unusedVariables false
set_option maxRecDepth 100000

theorem Try.own : ownKnob Try.prog.godebug = none := by kernel_rfl
theorem Try.laidOut : laidOutB Try.prog = true := by kernel_rfl

theorem flatInt : FlatT P 3 1 := FlatT.int Try.underlying3 (by kernel_rfl)
theorem flatPerm : FlatT P 67 4 := FlatT.array (n := 4) (z := 1) Try.underlying67 flatInt (by kernel_rfl)
theorem flatFace : FlatT P 72 5 := FlatT.struct2 (z0 := 1) (z1 := 4) Try.underlying72 flatInt flatPerm rfl rfl (by kernel_rfl)
theorem flatRow : FlatT P 73 20 := FlatT.array (n := 4) (z := 5) Try.underlying73 flatFace (by kernel_rfl)

theorem open_gluing {H : Type} {enc : TypeId × Value → H} {W : World} {base : Nat} {v : Value} {d : DataW H} {ps : List MemPlace} (hval : Value.okWide P W .any base 24 v) (hd : DataW.Trod enc P W 0 (fun _ => true) true 24 v d ps) :
    ∃ s n Gl, v = .agg #[s] ∧ OpenS W s 20 n Gl :=
  open_s1 Try.underlying24 (by kernel_rfl) (by kernel_rfl) Try.underlying22 rfl rfl (by kernel_rfl) flatRow (by omega) hval hd
theorem open_iso {H : Type} {enc : TypeId × Value → H} {W : World} {base : Nat} {v : Value} {d : DataW H} {ps : List MemPlace} (hval : Value.okWide P W .any base 36 v) (hd : DataW.Trod enc P W 0 (fun _ => true) true 36 v d ps) :
    ∃ s s' n n' Gl Gl', v = .agg #[s, s'] ∧ OpenS W s 1 n Gl ∧ OpenS W s' 4 n' Gl' :=
  open_s2 Try.underlying36 (by kernel_rfl) (by kernel_rfl) Try.underlying33 Try.underlying34 rfl rfl rfl rfl (by kernel_rfl) (by kernel_rfl) flatInt (by omega) flatPerm (by omega) hval hd

theorem law_calls {f : FuncId} {W : World} {A : FH} {μ : Mu} {xs ys : List Value} (hR : R μ A W) (hf : Fresh μ 1) (hro : ∀ i m, μ i = some m → wrB (HeapC.get A i) = false) (hv : VRs μ xs ys) (h : Ans (G (.fn f) xs A 1 []) fun x => x.e = .ret ∧ x.vs = [.bool true]) :
    Calls P f ys.toArray W (LawEnd W) := by
  obtain ⟨x, hx, he, hvs⟩ := h
  refine (runG_calls bk_ok ext_ok mixed hx hv hR hf).mono ?_
  rintro en w' ⟨u, v', μ', h1, h2, h3, hE⟩
  rw [hvs] at h1
  cases h1
  exact ⟨by rw [h2, h3.bool_left], hE.os, hE.tape, hE.output, hE.size, fun k hk => hE.fr k hk (fun i m e hw => by rw [hro i m e] at hw; cases hw)⟩
end Go.Proofs.Ytemkjcpfgmbibaa
