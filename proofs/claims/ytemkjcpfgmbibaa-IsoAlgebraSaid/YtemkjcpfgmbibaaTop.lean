/- IsoAlgebra: composition and inverses of renumberings Conditions: none. -/
import Derived.Test.YtemkjcpfgmbibaaM21
import Derived.Carry
set_option linter.all false
set_option maxRecDepth 100000
namespace Go.Proofs.Ytemkjcpfgmbibaa
open Go.ChangeShapes Go.WideShapes Go.ChangeAt Go.RowKit
open Go Go.Ab Go.Proofs
theorem Z7J {W : World} {ao ap bo bp co cp s : Value} {na pa nb pb nc pc n : Nat} {A Pa B Pb C Pc Gl : List Int} (h1 : Z3w W ao 1 na A) (h2 : Z3w W ap 4 pa Pa) (h3 : Z3w W bo 1 nb B) (h4 : Z3w W bp 4 pb Pb) (h5 : Z3w W co 1 nc C) (h6 : Z3w W cp 4 pc Pc) (h7 : Z3w W s 20 n Gl) :
 Calls P 5 #[.agg #[ao, ap], .agg #[bo, bp], .agg #[co, cp], .agg #[s]] W (Zme W) := by
 obtain ⟨A, μ, hR, hf, hro, hk⟩ := ZiD (W := W) [(ao, 1, na, A), (ap, 4, pa, Pa), (bo, 1, nb, B), (bp, 4, pb, Pb), (co, 1, nc, C), (cp, 4, pc, Pc), (s, 20, n, Gl)] (by simp) (fun k p hp' => by
  match k, hp' with
  | 0, e => cases e; exact h1
  | 1, e => cases e; exact h2
  | 2, e => cases e; exact h3
  | 3, e => cases e; exact h4
  | 4, e => cases e; exact h5
  | 5, e => cases e; exact h6
  | 6, e => cases e; exact h7
  | k + 7, e => simp at e)
 obtain ⟨q1, v1⟩ := hk 0 _ rfl
 obtain ⟨q2, v2⟩ := hk 1 _ rfl
 obtain ⟨q3, v3⟩ := hk 2 _ rfl
 obtain ⟨q4, v4⟩ := hk 3 _ rfl
 obtain ⟨q5, v5⟩ := hk 4 _ rfl
 obtain ⟨q6, v6⟩ := hk 5 _ rfl
 obtain ⟨q7, v7⟩ := hk 6 _ rfl
 exact Zhh (ys := [.agg #[ao, ap], .agg #[bo, bp], .agg #[co, cp], .agg #[s]]) hR hf hro (VRs.cons (VR.agg2 v1 v2) (VRs.cons (VR.agg2 v3 v4) (VRs.cons (VR.agg2 v5 v6) (VRs.cons (VR.agg1 v7) (VRs.nil _))))) (Z8x _ _ _ _ _ _ _ na pa nb pb nc pc n _ Pa B Pb C Pc Gl _ 1 q1 q2 q3 q4 q5 q6 q7)
set_option maxRecDepth 100000 in
theorem Z6p (os : Os) (started : os.Started) (H : Type) (enc : TypeId × Value -> H) :
 ReturnsInHanded {} Try.checked os 5 .any (Rows.isoAlgebraSpec.pre6 enc Try.prog Try.f5 Rows.isoAlgebraRow.domain false) (Rows.isoAlgebraSpec.post enc Try.prog Try.f5 false true false false) := by
 refine returnsInHanded_of_change (C := Try.checked) Try.own started (by kernel_rfl) Try.func5
  (ChangeSpec.witness6 (enc := enc) (C := Try.checked) false ⟨#[], #[.agg #[.slice none 0 0, .slice none 0 0], .agg #[.slice none 0 0, .slice none 0 0], .agg #[.slice none 0 0, .slice none 0 0], .agg #[.slice none 0 0]], []⟩ 10 (by kernel_rfl) (by kernel_rfl) (by kernel_rfl) (by kernel_rfl)) ?_
 intro W base args ds gs before hval0 hW hcnd _
 have hval : ∀ (j : Nat) t v, Try.f5.params[j]? = some t -> args[j]? = some v -> Value.okWide Try.prog W .any base t v := hval0
 have hW' := hW
 obtain ⟨p, q, hA0, hV, rfl, hfz, hnd⟩ := hW
 have hA : DataW.TrodAll enc Try.prog W 0 (fun _ => true) true Try.f5.params.toList args.toList ds p := hA0
 rw [Try.params5] at hA hval
 obtain ⟨v0, v1, v2, v3, d0, d1, d2, d3, p0, p1, p2, p3, rfl, rfl, rfl, h0, h1, h2, h3⟩ := trodAll_four hA
 obtain ⟨rfl, rfl⟩ := trodVars_none hV
 obtain ⟨ao, ap, na, pa, A, Pa, rfl, g1, g2⟩ := Zap (hval 0 36 v0 rfl rfl) h0
 obtain ⟨bo, bp, nb, pb, B, Pb, rfl, g3, g4⟩ := Zap (hval 1 36 v1 rfl rfl) h1
 obtain ⟨co, cp, nc, pc, C, Pc, rfl, g5, g6⟩ := Zap (hval 2 36 v2 rfl rfl) h2
 obtain ⟨s1, n, Gl, rfl, g7⟩ := Zcy (hval 3 24 v3 rfl rfl) h3
 refine (Z7J g1 g2 g3 g4 g5 g6 g7).mono fun e W' ⟨he, hw⟩ => ?_
 subst he
 refine ⟨_, rfl, ZiF Try.laidOut (tb := 4) ?_ rfl rfl rfl rfl rfl Try.underlying4 hW' hw⟩
 rw [Try.params5]
 intro t ht
 simp only [List.mem_cons, List.not_mem_nil, or_false] at ht
 rcases ht with rfl | rfl | rfl | rfl <;> exact ⟨by kernel_rfl, by exact of_decide_eq_true (by kernel_rfl)⟩
theorem isoAlgebra_holds : Rows.IsoAlgebraSaid :=
 OpenClaim.holds_of_wide 5 Try.f5 rfl rfl rfl rfl rfl rfl rfl ⟨rfl, rfl, rfl, rfl, rfl⟩ rfl rfl rfl rfl rfl (by kernel_rfl) Try.func5 (by kernel_rfl)
  (of_decide_eq_true (by kernel_rfl)) (by unfold Func.isWrapper; first | (rw [if_pos (by decide +kernel)]; kernel_rfl) | (rw [if_neg (by decide +kernel)]; exact ⟨rfl, rfl⟩))
  (fun os started H enc _ => Z6p os started H enc)
end Go.Proofs.Ytemkjcpfgmbibaa
