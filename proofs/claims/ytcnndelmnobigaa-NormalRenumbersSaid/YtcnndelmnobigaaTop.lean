/- NormalRenumbers: renumbering carries coordinates over Conditions: none. -/
import Derived.Test.YtcnndelmnobigaaM22
import Derived.Carry
set_option linter.all false
set_option maxRecDepth 100000
namespace Go.Proofs.Ytcnndelmnobigaa
open Go.ChangeShapes Go.WideShapes Go.ChangeAt Go.RowKit
open Go Go.Ab Go.Proofs
set_option maxRecDepth 100000 in
theorem Zg4 {H : Type} {enc : TypeId × Value -> H} {W : World} {base : Nat} {v : Value} {d : DataW H} {ps : List MemPlace} (hval : Value.okWide P W .any base 43 v) (hd : DataW.Trod enc P W 0 (fun _ => true) true 43 v d ps) :
 ∃ n Gl, Z3M W v 4 n Gl := ZhQ (e := 39) (sz := 4) Try.underlying43 ZeN (by omega) hval hd
theorem Z5b {W : World} {s v so sp : Value} {n nv a b : Nat} {Gl V Ord Pm : List Int} (h1 : Z3M W s 20 n Gl) (h2 : Z3M W v 1 nv V) (h3 : Z3M W so 1 a Ord) (h4 : Z3M W sp 4 b Pm) :
 Calls P 4 #[.agg #[s], v, so, sp] W (ZmW W) := by
 obtain ⟨A, μ, hR, hf, hro, hk⟩ := ZhC (W := W) [(s, 20, n, Gl), (v, 1, nv, V), (so, 1, a, Ord), (sp, 4, b, Pm)] (by simp) (fun k p hp' => by
  match k, hp' with
  | 0, e => cases e; exact h1
  | 1, e => cases e; exact h2
  | 2, e => cases e; exact h3
  | 3, e => cases e; exact h4
  | k + 4, e => simp at e)
 obtain ⟨q1, v1, _⟩ := hk 0 _ rfl
 obtain ⟨q2, v2, x2⟩ := hk 1 _ rfl
 obtain ⟨q3, v3, _⟩ := hk 2 _ rfl
 obtain ⟨q4, v4, _⟩ := hk 3 _ rfl
 exact Zi6 (ys := [.agg #[s], v, so, sp]) hR hf hro (VRs.cons (VR.agg1 v1) (VRs.cons v2 (VRs.cons v3 (VRs.cons v4 (VRs.nil _))))) (Z5F _ _ _ _ n nv a b Gl V Ord Pm A 1 q1 q2 q3 q4 x2)
set_option maxRecDepth 100000 in
theorem Z4Z (os : Os) (started : os.Started) (H : Type) (enc : TypeId × Value -> H) :
 ReturnsInHanded {} Try.checked os 4 .any (Rows.normalRenumbersSpec.pre6 enc Try.prog Try.f4 Rows.normalRenumbersRow.domain false) (Rows.normalRenumbersSpec.post enc Try.prog Try.f4 false true false false) := by
 refine returnsInHanded_of_change (C := Try.checked) Try.own started (by kernel_rfl) Try.func4
  (ChangeSpec.witness6 (enc := enc) (C := Try.checked) false ⟨#[], #[.agg #[.slice none 0 0], .slice none 0 0, .slice none 0 0, .slice none 0 0], []⟩ 10 (by kernel_rfl) (by kernel_rfl) (by kernel_rfl) (by kernel_rfl)) ?_
 intro W base args ds gs before hval0 hW hcnd _
 have hval : ∀ (j : Nat) t v, Try.f4.params[j]? = some t -> args[j]? = some v -> Value.okWide Try.prog W .any base t v := hval0
 have hW' := hW
 obtain ⟨p, q, hA0, hV, rfl, hfz, hnd⟩ := hW
 have hA : DataW.TrodAll enc Try.prog W 0 (fun _ => true) true Try.f4.params.toList args.toList ds p := hA0
 rw [Try.params4] at hA hval
 obtain ⟨v0, v1, v2, v3, d0, d1, d2, d3, p0, p1, p2, p3, rfl, rfl, rfl, h0, h1, h2, h3⟩ := trodAll_four hA
 obtain ⟨rfl, rfl⟩ := trodVars_none hV
 obtain ⟨s1, n, Gl, rfl, g1⟩ := Zcu (hval 0 24 v0 rfl rfl) h0
 obtain ⟨nv, V, g2⟩ := Zmt (hval 1 34 v1 rfl rfl) h1
 obtain ⟨a, Ord, g3⟩ := Zmt (hval 2 34 v2 rfl rfl) h2
 obtain ⟨b, Pm, g4⟩ := Zg4 (hval 3 43 v3 rfl rfl) h3
 refine (Z5b g1 g2 g3 g4).mono fun e W' ⟨he, hw⟩ => ?_
 subst he
 refine ⟨_, rfl, ZjF Try.laidOut (tb := 4) ?_ rfl rfl rfl rfl rfl Try.underlying4 hW' hw⟩
 rw [Try.params4]
 intro t ht
 simp only [List.mem_cons, List.not_mem_nil, or_false] at ht
 rcases ht with rfl | rfl | rfl | rfl <;> exact ⟨by kernel_rfl, by exact of_decide_eq_true (by kernel_rfl)⟩
theorem normalRenumbers_holds : Rows.NormalRenumbersSaid :=
 OpenClaim.holds_of_wide 4 Try.f4 rfl rfl rfl rfl rfl rfl rfl ⟨rfl, rfl, rfl, rfl, rfl⟩ rfl rfl rfl rfl rfl (by kernel_rfl) Try.func4 (by kernel_rfl)
  (of_decide_eq_true (by kernel_rfl)) (by unfold Func.isWrapper; first | (rw [if_pos (by decide +kernel)]; kernel_rfl) | (rw [if_neg (by decide +kernel)]; exact ⟨rfl, rfl⟩))
  (fun os started H enc _ => Z4Z os started H enc)
end Go.Proofs.Ytcnndelmnobigaa
