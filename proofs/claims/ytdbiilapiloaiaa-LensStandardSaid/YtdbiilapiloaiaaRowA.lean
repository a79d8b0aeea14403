/- A part of the claim's proof: YtdbiilapiloaiaaRowA. Conditions: none. -/
import Derived.Test.YtdbiilapiloaiaaLaw
import Derived.Test.YtdbiilapiloaiaaSane
import Derived.Test.YtdbiilapiloaiaaAbRow
import Derived.Test.YtdbiilapiloaiaaRows
import Derived.ProofKit
/-! The row of LensStandard. -/
set_option linter.all false
namespace Go.Proofs.Ytdbiilapiloaiaa
open Go.ChangeShapes Go.WideShapes Go.ChangeAt Go.RowKit
open Go Go.Ab Go.Proofs
set_option linter.unusedVariables false

theorem Try.own : ownKnob Try.prog.godebug = none := by kernel_rfl
theorem Try.laidOut : laidOutB Try.prog = true := by kernel_rfl

/-- the law's call, in the model -/
theorem lensStandard_calls (a b d : Int) (w : World) : Calls P 4 #[.int .i64 a, .int .i64 b, .int .i64 d] w (fun e w' => e = .returned (.bool true) ∧ Below w.heap.size w w') := by
  obtain ⟨x, hx, he, hv⟩ := law_true a b d Base.h0 0
  have h0 : R (fun _ => none : Mu) Base.h0 w := ⟨(fun i m e => by cases e), (fun i j mi mj ei => by cases ei), (fun i m e => by cases e)⟩
  have hargs : VRs (fun _ => none : Mu) [.int .i64 a, .int .i64 b, .int .i64 d] [.int .i64 a, .int .i64 b, .int .i64 d] := VRs.cons (.int _ _) (VRs.cons (.int _ _) (VRs.cons (.int _ _) (VRs.nil _)))
  refine (runG_calls bk_ok ext_ok mixed hx hargs h0 (fun i hi => rfl)).mono ?_
  rintro en w' ⟨u, v', μ', h1, h2, h3, hE⟩
  rw [hv] at h1
  cases h1
  refine ⟨by rw [h2, h3.bool_left], hE.os, hE.tape, hE.output, hE.size, fun k hk => hE.fr k hk (fun i m e => (by cases e))⟩

set_option maxRecDepth 100000 in
theorem lensStandard_lifted (os : Os) (started : os.Started) (H : Type) (enc : TypeId × Value → H) :
    ReturnsInHanded {} Try.checked os 4 .any (Rows.lensStandardSpec.pre6 enc Try.prog Try.f4 Rows.lensStandardRow.domain false) (Rows.lensStandardSpec.post enc Try.prog Try.f4 false true false false) := by
  refine returnsInHanded_of_change (C := Try.checked) Try.own started (by kernel_rfl) Try.func4
    (ChangeSpec.witness6 (enc := enc) (C := Try.checked) false ⟨#[], #[.int .i64 0, .int .i64 0, .int .i64 0], []⟩ 8 (by kernel_rfl) (by kernel_rfl) (by kernel_rfl) (by kernel_rfl)) ?_
  intro W base args ds gs before hval0 hW hcnd _
  have hval : ∀ (j : Nat) t v, Try.f4.params[j]? = some t → args[j]? = some v → Value.okWide Try.prog W .any base t v := hval0
  have hW' := hW
  obtain ⟨p, q, hA0, hV, rfl, hfz, hnd⟩ := hW
  have hA : DataW.TrodAll enc Try.prog W 0 (fun _ => true) true Try.f4.params.toList args.toList ds p := hA0
  rw [Try.params4] at hA hval
  obtain ⟨v0, v1, v2, d0, d1, d2, p0, p1, p2, rfl, rfl, rfl, h0, h1, h2⟩ := trodAll_three hA
  obtain ⟨rfl, rfl⟩ := trodVars_none hV
  obtain ⟨a, rfl, rfl, rfl, wa⟩ := open_int Try.underlying3 (hval 0 3 v0 rfl rfl) h0
  obtain ⟨b, rfl, rfl, rfl, wb⟩ := open_int Try.underlying3 (hval 1 3 v1 rfl rfl) h1
  obtain ⟨d, rfl, rfl, rfl, wd⟩ := open_int Try.underlying3 (hval 2 3 v2 rfl rfl) h2
  refine (lensStandard_calls a b d W).mono fun e W' ⟨he, hw⟩ => ?_
  subst he
  refine ⟨_, rfl, row_post Try.laidOut (tb := 4) ?_ rfl rfl rfl rfl rfl Try.underlying4 hW' hw⟩
  rw [Try.params4]
  intro t ht
  simp only [List.mem_cons, List.not_mem_nil, or_false, or_self] at ht
  subst ht
  exact ⟨by kernel_rfl, by exact of_decide_eq_true (by kernel_rfl)⟩

theorem lensStandard_holds : Rows.LensStandardSaid :=
  OpenClaim.holds_of_wide 4 Try.f4 rfl rfl rfl rfl rfl rfl rfl ⟨rfl, rfl, rfl, rfl, rfl⟩ rfl rfl rfl rfl rfl (by kernel_rfl) Try.func4 (by kernel_rfl)
    (of_decide_eq_true (by kernel_rfl)) (by unfold Func.isWrapper; first | (rw [if_pos (by decide +kernel)]; kernel_rfl) | (rw [if_neg (by decide +kernel)]; exact ⟨rfl, rfl⟩))
    (fun os started H enc _ => lensStandard_lifted os started H enc)

end Go.Proofs.Ytdbiilapiloaiaa
