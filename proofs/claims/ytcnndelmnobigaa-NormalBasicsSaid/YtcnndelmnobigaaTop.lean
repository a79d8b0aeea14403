/- NormalBasics: Check, Equations, Weights, Euler and Links match the specification. Conditions: none. -/
import Derived.Test.YtcnndelmnobigaaM24
set_option linter.all false
set_option maxRecDepth 100000
namespace Go.Proofs.Ytcnndelmnobigaa
open Go.ChangeShapes Go.WideShapes Go.ChangeAt Go.RowKit
open Go Go.Ab Go.Proofs
theorem Z7h {W : World} {s v : Value} {n nv : Nat} {Gl V : List Int} (h1 : Z5J W s 20 n Gl) (h2 : Z5J W v 1 nv V) :
 Calls P 6 #[.agg #[s], v] W (ZpL W) := by
 obtain ⟨A, μ, hR, hf, hro, hk⟩ := Zjy (W := W) [(s, 20, n, Gl), (v, 1, nv, V)] (by simp) (fun k p hp' => by
  match k, hp' with
  | 0, e => cases e; exact h1
  | 1, e => cases e; exact h2
  | k + 2, e => simp at e)
 obtain ⟨q1, v1, _⟩ := hk 0 _ rfl
 obtain ⟨q2, v2, x2⟩ := hk 1 _ rfl
 exact Zk8 (ys := [.agg #[s], v]) hR hf hro (VRs.cons (VR.agg1 v1) (VRs.cons v2 (VRs.nil _))) (Z7Y _ _ n nv Gl V A 1 q1 q2 x2)
set_option maxRecDepth 100000 in
theorem Z6Y (os : Os) (started : os.Started) (H : Type) (enc : TypeId × Value -> H) :
 ReturnsInHanded {} Try.checked os 6 .any (Rows.normalBasicsSpec.pre6 enc Try.prog Try.f6 Rows.normalBasicsRow.domain false) (Rows.normalBasicsSpec.post enc Try.prog Try.f6 false true false false) := by
 refine returnsInHanded_of_change (C := Try.checked) Try.own started (by kernel_rfl) Try.func6
  (ChangeSpec.witness6 (enc := enc) (C := Try.checked) false ⟨#[], #[.agg #[.slice none 0 0], .slice none 0 0], []⟩ 8 (by kernel_rfl) (by kernel_rfl) (by kernel_rfl) (by kernel_rfl)) ?_
 intro W base args ds gs before hval0 hW hcnd _
 have hval : ∀ (j : Nat) t v, Try.f6.params[j]? = some t -> args[j]? = some v -> Value.okWide Try.prog W .any base t v := hval0
 have hW' := hW
 obtain ⟨p, q, hA0, hV, rfl, hfz, hnd⟩ := hW
 have hA : DataW.TrodAll enc Try.prog W 0 (fun _ => true) true Try.f6.params.toList args.toList ds p := hA0
 rw [Try.params6] at hA hval
 obtain ⟨v0, v1, d0, d1, p0, p1, rfl, rfl, rfl, h0, h1⟩ := trodAll_two hA
 obtain ⟨rfl, rfl⟩ := trodVars_none hV
 obtain ⟨s1, n, Gl, rfl, g1⟩ := Zev (hval 0 24 v0 rfl rfl) h0
 obtain ⟨m, V, g2⟩ := open_v (hval 1 34 v1 rfl rfl) h1
 refine (Z7h g1 g2).mono fun e W' ⟨he, hw⟩ => ?_
 subst he
 refine ⟨_, rfl, ZlT Try.laidOut (tb := 4) ?_ rfl rfl rfl rfl rfl Try.underlying4 hW' hw⟩
 rw [Try.params6]
 intro t ht
 simp only [List.mem_cons, List.not_mem_nil, or_false] at ht
 rcases ht with rfl | rfl <;> exact ⟨by kernel_rfl, by exact of_decide_eq_true (by kernel_rfl)⟩
theorem normalBasics_holds : Rows.NormalBasicsSaid :=
 OpenClaim.holds_of_wide 6 Try.f6 rfl rfl rfl rfl rfl rfl rfl ⟨rfl, rfl, rfl, rfl, rfl⟩ rfl rfl rfl rfl rfl (by kernel_rfl) Try.func6 (by kernel_rfl)
  (of_decide_eq_true (by kernel_rfl)) (by unfold Func.isWrapper; first | (rw [if_pos (by decide +kernel)]; kernel_rfl) | (rw [if_neg (by decide +kernel)]; exact ⟨rfl, rfl⟩))
  (fun os started H enc _ => Z6Y os started H enc)
end Go.Proofs.Ytcnndelmnobigaa
