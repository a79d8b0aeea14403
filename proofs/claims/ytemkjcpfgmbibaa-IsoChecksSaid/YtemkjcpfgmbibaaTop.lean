/- For every two gluings and everything that is given as a renumbering, the law IsoChecks returns true and leaves its arguments as they were. Conditions: none. -/
import Derived.Test.YtemkjcpfgmbibaaM8
set_option linter.all false
namespace Go.Proofs.Ytemkjcpfgmbibaa
open Go.ChangeShapes Go.WideShapes Go.ChangeAt Go.RowKit
open Go Go.Ab Go.Proofs
set_option linter.unusedVariables false

theorem isoChecks_calls {W : World} {s1 s2 so sp : Value} {n m a b : Nat} {Gl Hl Ord Pm : List Int} (h1 : OpenS W s1 20 n Gl) (h2 : OpenS W s2 20 m Hl) (ho : OpenS W so 1 a Ord) (hp : OpenS W sp 4 b Pm) :
    Calls P 4 #[.agg #[s1], .agg #[s2], .agg #[so, sp]] W (LawEnd W) := by
  obtain ⟨A, μ, hR, hf, hro, hk⟩ := rows_rel (W := W) [(s1, 20, n, Gl), (s2, 20, m, Hl), (so, 1, a, Ord), (sp, 4, b, Pm)] (by simp) (fun k p hp' => by
    match k, hp' with
    | 0, e => cases e; exact h1
    | 1, e => cases e; exact h2
    | 2, e => cases e; exact ho
    | 3, e => cases e; exact hp
    | k + 4, e => simp at e)
  obtain ⟨q1, v1⟩ := hk 0 _ rfl
  obtain ⟨q2, v2⟩ := hk 1 _ rfl
  obtain ⟨q3, v3⟩ := hk 2 _ rfl
  obtain ⟨q4, v4⟩ := hk 3 _ rfl
  exact law_calls (ys := [.agg #[s1], .agg #[s2], .agg #[so, sp]]) hR hf hro (VRs.cons (VR.agg1 v1) (VRs.cons (VR.agg1 v2) (VRs.cons (VR.agg2 v3 v4) (VRs.nil _)))) (isoChecks_true _ _ _ _ n m a b Gl Hl Ord Pm A 1 q1 q2 q3 q4)

set_option maxRecDepth 100000 in
theorem isoChecks_lifted (os : Os) (started : os.Started) (H : Type) (enc : TypeId × Value → H) :
    ReturnsInHanded {} Try.checked os 4 .any (Rows.isoChecksSpec.pre6 enc Try.prog Try.f4 Rows.isoChecksRow.domain false) (Rows.isoChecksSpec.post enc Try.prog Try.f4 false true false false) := by
  refine returnsInHanded_of_change (C := Try.checked) Try.own started (by kernel_rfl) Try.func4
    (ChangeSpec.witness6 (enc := enc) (C := Try.checked) false ⟨#[], #[.agg #[.slice none 0 0], .agg #[.slice none 0 0], .agg #[.slice none 0 0, .slice none 0 0]], []⟩ 8 (by kernel_rfl) (by kernel_rfl) (by kernel_rfl) (by kernel_rfl)) ?_
  intro W base args ds gs before hval0 hW hcnd _
  have hval : ∀ (j : Nat) t v, Try.f4.params[j]? = some t → args[j]? = some v → Value.okWide Try.prog W .any base t v := hval0
  have hW' := hW
  obtain ⟨p, q, hA0, hV, rfl, hfz, hnd⟩ := hW
  have hA : DataW.TrodAll enc Try.prog W 0 (fun _ => true) true Try.f4.params.toList args.toList ds p := hA0
  rw [Try.params4] at hA hval
  obtain ⟨v0, v1, v2, d0, d1, d2, p0, p1, p2, rfl, rfl, rfl, h0, h1, h2⟩ := trodAll_three hA
  obtain ⟨rfl, rfl⟩ := trodVars_none hV
  obtain ⟨s1, n, Gl, rfl, g1⟩ := open_gluing (hval 0 24 v0 rfl rfl) h0
  obtain ⟨s2, m, Hl, rfl, g2⟩ := open_gluing (hval 1 24 v1 rfl rfl) h1
  obtain ⟨so, sp, a, b, Ord, Pm, rfl, g3, g4⟩ := open_iso (hval 2 36 v2 rfl rfl) h2
  refine (isoChecks_calls g1 g2 g3 g4).mono fun e W' ⟨he, hw⟩ => ?_
  subst he
  refine ⟨_, rfl, row_post Try.laidOut (tb := 4) ?_ rfl rfl rfl rfl rfl Try.underlying4 hW' hw⟩
  rw [Try.params4]
  intro t ht
  simp only [List.mem_cons, List.not_mem_nil, or_false] at ht
  rcases ht with rfl | rfl | rfl <;> exact ⟨by kernel_rfl, by exact of_decide_eq_true (by kernel_rfl)⟩

theorem isoChecks_holds : Rows.IsoChecksSaid :=
  OpenClaim.holds_of_wide 4 Try.f4 rfl rfl rfl rfl rfl rfl rfl ⟨rfl, rfl, rfl, rfl, rfl⟩ rfl rfl rfl rfl rfl (by kernel_rfl) Try.func4 (by kernel_rfl)
    (of_decide_eq_true (by kernel_rfl)) (by unfold Func.isWrapper; first | (rw [if_pos (by decide +kernel)]; kernel_rfl) | (rw [if_neg (by decide +kernel)]; exact ⟨rfl, rfl⟩))
    (fun os started H enc _ => isoChecks_lifted os started H enc)

end Go.Proofs.Ytemkjcpfgmbibaa
