/- SkelClasses Conditions: none. -/
import Derived.Test.YtdodippbpdechaaM25
import Derived.Carry
set_option linter.all false
set_option maxRecDepth 100000
set_option maxHeartbeats 4000000
namespace Go.Proofs.Ytdodippbpdechaa
open Go.ChangeShapes Go.WideShapes Go.ChangeAt Go.RowKit
open Go Go.Ab Go.Proofs
theorem Z7L {W : World} {s : Value} {n : Nat} {Gl : List Int} {i j : Int} (h1 : Z6B W s 20 n Gl) :
 Calls P 6 #[.agg #[s], .int .i64 i, .int .i64 j] W (ZoL W) := by
 obtain ⟨A, μ, hR, hf, hro, hk⟩ := ZiM (W := W) [(s, 20, n, Gl)] (by simp) (fun k p hp' => by
  match k, hp' with
  | 0, e => cases e; exact h1
  | k + 1, e => simp at e)
 obtain ⟨q1, v1, _, x1⟩ := hk 0 _ rfl
 exact Zje (ys := [.agg #[s], .int .i64 i, .int .i64 j]) hR hf hro (VRs.cons (VR.agg1 v1) (VRs.cons (.int _ _) (VRs.cons (.int _ _) (VRs.nil _)))) (Z9u _ n Gl i j A 1 q1)
set_option maxRecDepth 100000 in
theorem Z6H (os : Os) (started : os.Started) (H : Type) (enc : TypeId × Value -> H) :
 ReturnsInHanded {} Try.checked os 6 .any (Rows.skelClassesSpec.pre6 enc Try.prog Try.f6 Rows.skelClassesRow.domain false) (Rows.skelClassesSpec.post enc Try.prog Try.f6 false true false false) := by
 refine returnsInHanded_of_change (C := Try.checked) Try.own started (by kernel_rfl) Try.func6
  (ChangeSpec.witness6 (enc := enc) (C := Try.checked) false ⟨#[], #[.agg #[.slice none 0 0], .int .i64 0, .int .i64 0], []⟩ 10 (by kernel_rfl) (by kernel_rfl) (by kernel_rfl) (by kernel_rfl)) ?_
 intro W base args ds gs before hval0 hW hcnd _
 have hval : ∀ (j : Nat) t v, Try.f6.params[j]? = some t -> args[j]? = some v -> Value.okWide Try.prog W .any base t v := hval0
 have hW' := hW
 obtain ⟨p, q, hA0, hV, rfl, hfz, hnd⟩ := hW
 have hA : DataW.TrodAll enc Try.prog W 0 (fun _ => true) true Try.f6.params.toList args.toList ds p := hA0
 rw [Try.params6] at hA hval
 obtain ⟨v0, v1, v2, d0, d1, d2, p0, p1, p2, rfl, rfl, rfl, h0, h1, h2⟩ := trodAll_three hA
 obtain ⟨rfl, rfl⟩ := trodVars_none hV
 obtain ⟨s1, n, Gl, rfl, g1⟩ := Zen (hval 0 24 v0 rfl rfl) h0
 obtain ⟨a, rfl, rfl, rfl, wa⟩ := open_int Try.underlying3 (hval 1 3 v1 rfl rfl) h1
 obtain ⟨b, rfl, rfl, rfl, wb⟩ := open_int Try.underlying3 (hval 2 3 v2 rfl rfl) h2
 refine (Z7L (i := a) (j := b) g1).mono fun e W' ⟨he, hw⟩ => ?_
 subst he
 refine ⟨_, rfl, ZkW Try.laidOut (tb := 4) ?_ rfl rfl rfl rfl rfl Try.underlying4 hW' hw⟩
 rw [Try.params6]
 intro t ht
 simp only [List.mem_cons, List.not_mem_nil, or_false] at ht
 rcases ht with rfl | rfl | rfl <;> exact ⟨by kernel_rfl, by exact of_decide_eq_true (by kernel_rfl)⟩
theorem skelClasses_holds : Rows.SkelClassesSaid :=
 OpenClaim.holds_of_wide 6 Try.f6 rfl rfl rfl rfl rfl rfl rfl ⟨rfl, rfl, rfl, rfl, rfl⟩ rfl rfl rfl rfl rfl (by kernel_rfl) Try.func6 (by kernel_rfl)
  (of_decide_eq_true (by kernel_rfl)) (by unfold Func.isWrapper; first | (rw [if_pos (by decide +kernel)]; kernel_rfl) | (rw [if_neg (by decide +kernel)]; exact ⟨rfl, rfl⟩))
  (fun os started H enc _ => Z6H os started H enc)
end Go.Proofs.Ytdodippbpdechaa
