/- The row of NormalSums: the law returns true whatever the input; the input reads as it did. Conditions: none. -/
import Derived.Test.YtcnndelmnobigaaM8
set_option linter.all false
namespace Go.Proofs.Ytcnndelmnobigaa
open Go.ChangeShapes Go.WideShapes Go.ChangeAt Go.RowKit
open Go Go.Ab Go.Proofs
set_option linter.unusedVariables false
theorem normalSums_calls {W : World} {s u v : Value} {n nu nv : Nat} {Gl U V : List Int} (h1 : OpenS W s 20 n Gl) (h2 : OpenS W u 1 nu U) (h3 : OpenS W v 1 nv V) :
    Calls P 8 #[.agg #[s], u, v] W (LawEnd W) := by
  obtain ⟨A, μ, hR, hf, hro, hk⟩ := rows_relX (W := W) [(s, 20, n, Gl), (u, 1, nu, U), (v, 1, nv, V)] (by simp) (fun k p hp' => by
    match k, hp' with
    | 0, e => cases e; exact h1
    | 1, e => cases e; exact h2
    | 2, e => cases e; exact h3
    | k + 3, e => simp at e)
  obtain ⟨q1, v1, _⟩ := hk 0 _ rfl
  obtain ⟨q2, v2, x2⟩ := hk 1 _ rfl
  obtain ⟨q3, v3, x3⟩ := hk 2 _ rfl
  exact law_calls (ys := [.agg #[s], u, v]) hR hf hro (VRs.cons (VR.agg1 v1) (VRs.cons v2 (VRs.cons v3 (VRs.nil _)))) (normalSums_true _ _ _ n nu nv Gl U V A 1 q1 q2 q3 x2 x3)
set_option maxRecDepth 100000 in
theorem normalSums_lifted (os : Os) (started : os.Started) (H : Type) (enc : TypeId × Value → H) :
    ReturnsInHanded {} Try.checked os 8 .any (Rows.normalSumsSpec.pre6 enc Try.prog Try.f8 Rows.normalSumsRow.domain false) (Rows.normalSumsSpec.post enc Try.prog Try.f8 false true false false) := by
  refine returnsInHanded_of_change (C := Try.checked) Try.own started (by kernel_rfl) Try.func8
    (ChangeSpec.witness6 (enc := enc) (C := Try.checked) false ⟨#[], #[.agg #[.slice none 0 0], .slice none 0 0, .slice none 0 0], []⟩ 8 (by kernel_rfl) (by kernel_rfl) (by kernel_rfl) (by kernel_rfl)) ?_
  intro W base args ds gs before hval0 hW hcnd _
  have hval : ∀ (j : Nat) t v, Try.f8.params[j]? = some t → args[j]? = some v → Value.okWide Try.prog W .any base t v := hval0
  have hW' := hW
  obtain ⟨p, q, hA0, hV, rfl, hfz, hnd⟩ := hW
  have hA : DataW.TrodAll enc Try.prog W 0 (fun _ => true) true Try.f8.params.toList args.toList ds p := hA0
  rw [Try.params8] at hA hval
  obtain ⟨v0, v1, v2, d0, d1, d2, p0, p1, p2, rfl, rfl, rfl, h0, h1, h2⟩ := trodAll_three hA
  obtain ⟨rfl, rfl⟩ := trodVars_none hV
  obtain ⟨s1, n, Gl, rfl, g1⟩ := open_gluing (hval 0 24 v0 rfl rfl) h0
  obtain ⟨nu, U, g2⟩ := open_v (hval 1 34 v1 rfl rfl) h1
  obtain ⟨nv, V, g3⟩ := open_v (hval 2 34 v2 rfl rfl) h2
  refine (normalSums_calls g1 g2 g3).mono fun e W' ⟨he, hw⟩ => ?_
  subst he
  refine ⟨_, rfl, row_post Try.laidOut (tb := 4) ?_ rfl rfl rfl rfl rfl Try.underlying4 hW' hw⟩
  rw [Try.params8]
  intro t ht
  simp only [List.mem_cons, List.not_mem_nil, or_false] at ht
  rcases ht with rfl | rfl | rfl <;> exact ⟨by kernel_rfl, by exact of_decide_eq_true (by kernel_rfl)⟩
theorem normalSums_holds : Rows.NormalSumsSaid :=
  OpenClaim.holds_of_wide 8 Try.f8 rfl rfl rfl rfl rfl rfl rfl ⟨rfl, rfl, rfl, rfl, rfl⟩ rfl rfl rfl rfl rfl (by kernel_rfl) Try.func8 (by kernel_rfl)
    (of_decide_eq_true (by kernel_rfl)) (by unfold Func.isWrapper; first | (rw [if_pos (by decide +kernel)]; kernel_rfl) | (rw [if_neg (by decide +kernel)]; exact ⟨rfl, rfl⟩))
    (fun os started H enc _ => normalSums_lifted os started H enc)
end Go.Proofs.Ytcnndelmnobigaa
