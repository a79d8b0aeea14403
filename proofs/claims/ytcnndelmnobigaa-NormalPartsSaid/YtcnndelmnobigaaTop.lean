/- NormalParts: coordinates are the rest and the links as often as Part says; Fill of Quads is the rest. Conditions: none. -/
import Derived.Test.YtcnndelmnobigaaM7
set_option linter.all false
namespace Go.Proofs.Ytcnndelmnobigaa
open Go.ChangeShapes Go.WideShapes Go.ChangeAt Go.RowKit
open Go Go.Ab Go.Proofs
set_option linter.unusedVariables false
theorem normalParts_calls {W : World} {s v : Value} {n nv : Nat} {Gl V : List Int} (h1 : OpenS W s 20 n Gl) (h2 : OpenS W v 1 nv V) :
    Calls P 5 #[.agg #[s], v] W (LawEnd W) := by
  obtain ⟨A, μ, hR, hf, hro, hk⟩ := rows_relC (W := W) [(s, 20, n, Gl), (v, 1, nv, V)] (by simp) (fun k p hp' => by
    match k, hp' with
    | 0, e => cases e; exact h1
    | 1, e => cases e; exact h2
    | k + 2, e => simp at e)
  obtain ⟨q1, v1, _⟩ := hk 0 _ rfl
  obtain ⟨q2, v2, x2, y2⟩ := hk 1 _ rfl
  exact law_calls (ys := [.agg #[s], v]) hR hf hro (VRs.cons (VR.agg1 v1) (VRs.cons v2 (VRs.nil _))) (normalParts_true _ _ n nv Gl V A 1 q1 q2 x2 y2)
set_option maxRecDepth 100000 in
theorem normalParts_lifted (os : Os) (started : os.Started) (H : Type) (enc : TypeId × Value → H) :
    ReturnsInHanded {} Try.checked os 5 .any (Rows.normalPartsSpec.pre6 enc Try.prog Try.f5 Rows.normalPartsRow.domain false) (Rows.normalPartsSpec.post enc Try.prog Try.f5 false true false false) := by
  refine returnsInHanded_of_change (C := Try.checked) Try.own started (by kernel_rfl) Try.func5
    (ChangeSpec.witness6 (enc := enc) (C := Try.checked) false ⟨#[], #[.agg #[.slice none 0 0], .slice none 0 0], []⟩ 8 (by kernel_rfl) (by kernel_rfl) (by kernel_rfl) (by kernel_rfl)) ?_
  intro W base args ds gs before hval0 hW hcnd _
  have hval : ∀ (j : Nat) t v, Try.f5.params[j]? = some t → args[j]? = some v → Value.okWide Try.prog W .any base t v := hval0
  have hW' := hW
  obtain ⟨p, q, hA0, hV, rfl, hfz, hnd⟩ := hW
  have hA : DataW.TrodAll enc Try.prog W 0 (fun _ => true) true Try.f5.params.toList args.toList ds p := hA0
  rw [Try.params5] at hA hval
  obtain ⟨v0, v1, d0, d1, p0, p1, rfl, rfl, rfl, h0, h1⟩ := trodAll_two hA
  obtain ⟨rfl, rfl⟩ := trodVars_none hV
  obtain ⟨s1, n, Gl, rfl, g1⟩ := open_gluing (hval 0 24 v0 rfl rfl) h0
  obtain ⟨m, V, g2⟩ := open_v (hval 1 34 v1 rfl rfl) h1
  refine (normalParts_calls g1 g2).mono fun e W' ⟨he, hw⟩ => ?_
  subst he
  refine ⟨_, rfl, row_post Try.laidOut (tb := 4) ?_ rfl rfl rfl rfl rfl Try.underlying4 hW' hw⟩
  rw [Try.params5]
  intro t ht
  simp only [List.mem_cons, List.not_mem_nil, or_false] at ht
  rcases ht with rfl | rfl <;> exact ⟨by kernel_rfl, by exact of_decide_eq_true (by kernel_rfl)⟩
theorem normalParts_holds : Rows.NormalPartsSaid :=
  OpenClaim.holds_of_wide 5 Try.f5 rfl rfl rfl rfl rfl rfl rfl ⟨rfl, rfl, rfl, rfl, rfl⟩ rfl rfl rfl rfl rfl (by kernel_rfl) Try.func5 (by kernel_rfl)
    (of_decide_eq_true (by kernel_rfl)) (by unfold Func.isWrapper; first | (rw [if_pos (by decide +kernel)]; kernel_rfl) | (rw [if_neg (by decide +kernel)]; exact ⟨rfl, rfl⟩))
    (fun os started H enc _ => normalParts_lifted os started H enc)
end Go.Proofs.Ytcnndelmnobigaa
