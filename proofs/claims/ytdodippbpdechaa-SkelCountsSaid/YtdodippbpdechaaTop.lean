/- For every gluing SkelCounts returns true and its argument reads as before; no condition. Conditions: none. -/
import Derived.Test.YtdodippbpdechaaM20
import Derived.Carry
set_option linter.all false
set_option maxRecDepth 100000
namespace Go.Proofs.Ytdodippbpdechaa
open Go.ChangeShapes Go.WideShapes Go.ChangeAt Go.RowKit
open Go Go.Ab Go.Proofs
theorem Z6Q {W : World} {s : Value} {n : Nat} {Gl : List Int} (h1 : Z5M W s 20 n Gl) :
 Calls P 3 #[.agg #[s]] W (ZkA W) := by
 obtain ⟨A, μ, hR, hf, hro, hk⟩ := Zfx (W := W) [(s, 20, n, Gl)] (by simp) (fun k p hp' => by
  match k, hp' with
  | 0, e => cases e; exact h1
  | k + 1, e => simp at e)
 obtain ⟨q1, v1, _, x1⟩ := hk 0 _ rfl
 exact Zg5 (ys := [.agg #[s]]) hR hf hro (VRs.cons (VR.agg1 v1) (VRs.nil _)) (Z7h _ n Gl A 1 q1)
set_option maxRecDepth 100000 in
theorem Z6k (os : Os) (started : os.Started) (H : Type) (enc : TypeId × Value -> H) :
 ReturnsInHanded {} Try.checked os 3 .any (Rows.skelCountsSpec.pre6 enc Try.prog Try.f3 Rows.skelCountsRow.domain false) (Rows.skelCountsSpec.post enc Try.prog Try.f3 false true false false) := by
 refine returnsInHanded_of_change (C := Try.checked) Try.own started (by kernel_rfl) Try.func3
  (ChangeSpec.witness6 (enc := enc) (C := Try.checked) false ⟨#[], #[.agg #[.slice none 0 0]], []⟩ 10 (by kernel_rfl) (by kernel_rfl) (by kernel_rfl) (by kernel_rfl)) ?_
 intro W base args ds gs before hval0 hW hcnd _
 have hval : ∀ (j : Nat) t v, Try.f3.params[j]? = some t -> args[j]? = some v -> Value.okWide Try.prog W .any base t v := hval0
 have hW' := hW
 obtain ⟨p, q, hA0, hV, rfl, hfz, hnd⟩ := hW
 have hA : DataW.TrodAll enc Try.prog W 0 (fun _ => true) true Try.f3.params.toList args.toList ds p := hA0
 rw [Try.params3] at hA hval
 obtain ⟨v0, d0, rfl, rfl, h0⟩ := trodAll_one hA
 obtain ⟨rfl, rfl⟩ := trodVars_none hV
 obtain ⟨s1, n, Gl, rfl, g1⟩ := Zbl (hval 0 24 v0 rfl rfl) h0
 refine (Z6Q g1).mono fun e W' ⟨he, hw⟩ => ?_
 subst he
 refine ⟨_, rfl, ZhM Try.laidOut (tb := 4) ?_ rfl rfl rfl rfl rfl Try.underlying4 hW' hw⟩
 rw [Try.params3]
 intro t ht
 simp only [List.mem_cons, List.not_mem_nil, or_false] at ht
 subst ht; exact ⟨by kernel_rfl, by exact of_decide_eq_true (by kernel_rfl)⟩
theorem skelCounts_holds : Rows.SkelCountsSaid :=
 OpenClaim.holds_of_wide 3 Try.f3 rfl rfl rfl rfl rfl rfl rfl ⟨rfl, rfl, rfl, rfl, rfl⟩ rfl rfl rfl rfl rfl (by kernel_rfl) Try.func3 (by kernel_rfl)
  (of_decide_eq_true (by kernel_rfl)) (by unfold Func.isWrapper; first | (rw [if_pos (by decide +kernel)]; kernel_rfl) | (rw [if_neg (by decide +kernel)]; exact ⟨rfl, rfl⟩))
  (fun os started H enc _ => Z6k os started H enc)
end Go.Proofs.Ytdodippbpdechaa
