/- SkelTurns Conditions: none. -/
import Derived.Test.YtdodippbpdechaaM24
import Derived.Test.YtdodippbpdechaaM25
import Derived.Carry
set_option linter.all false
set_option maxRecDepth 100000
namespace Go.Proofs.Ytdodippbpdechaa
open Go.ChangeShapes Go.WideShapes Go.ChangeAt Go.RowKit
open Go Go.Ab Go.Proofs
theorem Z8f {W : World} {s : Value} {n : Nat} {Gl : List Int} {t v : Int} {p : List Int} (hp : p.length = 4) (h1 : Z6f W s 20 n Gl) :
 Calls P 7 #[.agg #[s], .int .i64 t, av p, .int .i64 v] W (Zm5 W) := by
 obtain ⟨A, μ, hR, hf, hro, hk⟩ := Zgx (W := W) [(s, 20, n, Gl)] (by simp) (fun k p hp' => by
  match k, hp' with
  | 0, e => cases e; exact h1
  | k + 1, e => simp at e)
 obtain ⟨q1, v1, _, x1⟩ := hk 0 _ rfl
 exact Zh4 (ys := [.agg #[s], .int .i64 t, av p, .int .i64 v]) hR hf hro (VRs.cons (VR.agg1 v1) (VRs.cons (.int _ _) (VRs.cons (VR.av _ _) (VRs.cons (.int _ _) (VRs.nil _))))) (Z98 _ n Gl t v p hp A 1 q1)
set_option maxRecDepth 100000 in
theorem Z7J (os : Os) (started : os.Started) (H : Type) (enc : TypeId × Value -> H) :
 ReturnsInHanded {} Try.checked os 7 .any (Rows.skelTurnsSpec.pre6 enc Try.prog Try.f7 Rows.skelTurnsRow.domain false) (Rows.skelTurnsSpec.post enc Try.prog Try.f7 false true false false) := by
 refine returnsInHanded_of_change (C := Try.checked) Try.own started (by kernel_rfl) Try.func7
  (ChangeSpec.witness6 (enc := enc) (C := Try.checked) false ⟨#[], #[.agg #[.slice none 0 0], .int .i64 0, .agg #[.int .i64 0, .int .i64 0, .int .i64 0, .int .i64 0], .int .i64 0], []⟩ 10 (by kernel_rfl) (by kernel_rfl) (by kernel_rfl) (by kernel_rfl)) ?_
 intro W base args ds gs before hval0 hW hcnd _
 have hval : ∀ (j : Nat) t v, Try.f7.params[j]? = some t -> args[j]? = some v -> Value.okWide Try.prog W .any base t v := hval0
 have hW' := hW
 obtain ⟨p, q, hA0, hV, rfl, hfz, hnd⟩ := hW
 have hA : DataW.TrodAll enc Try.prog W 0 (fun _ => true) true Try.f7.params.toList args.toList ds p := hA0
 rw [Try.params7] at hA hval
 obtain ⟨v0, v1, v2, v3, d0, d1, d2, d3, p0, p1, p2, p3, rfl, rfl, rfl, h0, h1, h2, h3⟩ := trodAll_four hA
 obtain ⟨rfl, rfl⟩ := trodVars_none hV
 obtain ⟨s1, n, Gl, rfl, g1⟩ := Zcq (hval 0 24 v0 rfl rfl) h0
 obtain ⟨a, rfl, rfl, rfl, wa⟩ := open_int Try.underlying3 (hval 1 3 v1 rfl rfl) h1
 obtain ⟨pl, rfl, hpl⟩ := ZgM (hval 2 42 v2 rfl rfl) h2
 obtain ⟨b, rfl, rfl, rfl, wb⟩ := open_int Try.underlying3 (hval 3 3 v3 rfl rfl) h3
 refine (Z8f (t := a) (v := b) hpl g1).mono fun e W' ⟨he, hw⟩ => ?_
 subst he
 refine ⟨_, rfl, ZiH Try.laidOut (tb := 4) ?_ rfl rfl rfl rfl rfl Try.underlying4 hW' hw⟩
 rw [Try.params7]
 intro t ht
 simp only [List.mem_cons, List.not_mem_nil, or_false] at ht
 rcases ht with rfl | rfl | rfl | rfl <;> exact ⟨by kernel_rfl, by exact of_decide_eq_true (by kernel_rfl)⟩
theorem skelTurns_holds : Rows.SkelTurnsSaid :=
 OpenClaim.holds_of_wide 7 Try.f7 rfl rfl rfl rfl rfl rfl rfl ⟨rfl, rfl, rfl, rfl, rfl⟩ rfl rfl rfl rfl rfl (by kernel_rfl) Try.func7 (by kernel_rfl)
  (of_decide_eq_true (by kernel_rfl)) (by unfold Func.isWrapper; first | (rw [if_pos (by decide +kernel)]; kernel_rfl) | (rw [if_neg (by decide +kernel)]; exact ⟨rfl, rfl⟩))
  (fun os started H enc _ => Z7J os started H enc)
end Go.Proofs.Ytdodippbpdechaa
