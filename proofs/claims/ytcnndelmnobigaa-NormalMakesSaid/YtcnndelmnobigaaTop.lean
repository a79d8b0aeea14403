/- NormalMakes: Sum, Quads, Fill, Part Conditions: none. -/
import Derived.Test.YtcnndelmnobigaaM25
import Derived.Test.YtcnndelmnobigaaM26
import Derived.Carry
set_option linter.all false
set_option maxRecDepth 100000
namespace Go.Proofs.Ytcnndelmnobigaa
open Go.ChangeShapes Go.WideShapes Go.ChangeAt Go.RowKit
open Go Go.Ab Go.Proofs
theorem Z8p {W : World} {s u v q : Value} {n nu nv nq : Nat} {Gl U V Qd : List Int} (h1 : Z5c W s 20 n Gl) (h2 : Z5c W u 1 nu U) (h3 : Z5c W v 1 nv V) (h4 : Z5c W q 1 nq Qd) :
 Calls P 9 #[.agg #[s], u, v, q] W (Zqd W) := by
 obtain ⟨A, μ, hR, hf, hro, hk⟩ := Zk4 (W := W) [(s, 20, n, Gl), (u, 1, nu, U), (v, 1, nv, V), (q, 1, nq, Qd)] (by simp) (fun k p hp' => by
  match k, hp' with
  | 0, e => cases e; exact h1
  | 1, e => cases e; exact h2
  | 2, e => cases e; exact h3
  | 3, e => cases e; exact h4
  | k + 4, e => simp at e)
 obtain ⟨q1, v1, y1, x1⟩ := hk 0 _ rfl
 obtain ⟨q2, v2, y2, x2⟩ := hk 1 _ rfl
 obtain ⟨q3, v3, y3, x3⟩ := hk 2 _ rfl
 obtain ⟨q4, v4, y4, x4⟩ := hk 3 _ rfl
 exact ZkF (ys := [.agg #[s], u, v, q]) hR hf hro (VRs.cons (VR.agg1 v1) (VRs.cons v2 (VRs.cons v3 (VRs.cons v4 (VRs.nil _))))) (Za4 _ _ _ _ n nu nv nq Gl U V Qd A 1 q1 q2 q3 q4 x1 x2 x3 x4 y2 y3 y4)
set_option maxRecDepth 100000 in
theorem Z7F (os : Os) (started : os.Started) (H : Type) (enc : TypeId × Value -> H) :
 ReturnsInHanded {} Try.checked os 9 .any (Rows.normalMakesSpec.pre6 enc Try.prog Try.f9 Rows.normalMakesRow.domain false) (Rows.normalMakesSpec.post enc Try.prog Try.f9 false true false false) := by
 refine returnsInHanded_of_change (C := Try.checked) Try.own started (by kernel_rfl) Try.func9
  (ChangeSpec.witness6 (enc := enc) (C := Try.checked) false ⟨#[], #[.agg #[.slice none 0 0], .slice none 0 0, .slice none 0 0, .slice none 0 0], []⟩ 9 (by kernel_rfl) (by kernel_rfl) (by kernel_rfl) (by kernel_rfl)) ?_
 intro W base args ds gs before hval0 hW hcnd _
 have hval : ∀ (j : Nat) t v, Try.f9.params[j]? = some t -> args[j]? = some v -> Value.okWide Try.prog W .any base t v := hval0
 have hW' := hW
 obtain ⟨p, q, hA0, hV, rfl, hfz, hnd⟩ := hW
 have hA : DataW.TrodAll enc Try.prog W 0 (fun _ => true) true Try.f9.params.toList args.toList ds p := hA0
 rw [Try.params9] at hA hval
 obtain ⟨v0, v1, v2, v3, d0, d1, d2, d3, p0, p1, p2, p3, rfl, rfl, rfl, h0, h1, h2, h3⟩ := trodAll_four hA
 obtain ⟨rfl, rfl⟩ := trodVars_none hV
 obtain ⟨s1, n, Gl, rfl, g1⟩ := Zfi (hval 0 24 v0 rfl rfl) h0
 obtain ⟨nu, U, g2⟩ := Zkp (hval 1 34 v1 rfl rfl) h1
 obtain ⟨nv, V, g3⟩ := Zkp (hval 2 34 v2 rfl rfl) h2
 obtain ⟨nq, Qd, g4⟩ := Zkp (hval 3 34 v3 rfl rfl) h3
 refine (Z8p g1 g2 g3 g4).mono fun e W' ⟨he, hw⟩ => ?_
 subst he
 refine ⟨_, rfl, Zmc Try.laidOut (tb := 4) ?_ rfl rfl rfl rfl rfl Try.underlying4 hW' hw⟩
 rw [Try.params9]
 intro t ht
 simp only [List.mem_cons, List.not_mem_nil, or_false] at ht
 rcases ht with rfl | rfl | rfl | rfl <;> exact ⟨by kernel_rfl, by exact of_decide_eq_true (by kernel_rfl)⟩
theorem normalMakes_holds : Rows.NormalMakesSaid :=
 OpenClaim.holds_of_wide 9 Try.f9 rfl rfl rfl rfl rfl rfl rfl ⟨rfl, rfl, rfl, rfl, rfl⟩ rfl rfl rfl rfl rfl (by kernel_rfl) Try.func9 (by kernel_rfl)
  (of_decide_eq_true (by kernel_rfl)) (by unfold Func.isWrapper; first | (rw [if_pos (by decide +kernel)]; kernel_rfl) | (rw [if_neg (by decide +kernel)]; exact ⟨rfl, rfl⟩))
  (fun os started H enc _ => Z7F os started H enc)
end Go.Proofs.Ytcnndelmnobigaa
