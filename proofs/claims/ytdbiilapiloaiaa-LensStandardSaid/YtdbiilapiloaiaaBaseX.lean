/- A part of the claim's proof: YtdbiilapiloaiaaBaseX. Conditions: none. -/
import Derived.Test.YtdbiilapiloaiaaBaseSp
import Derived.Test.YtdbiilapiloaiaaAbPerm
/-! Calls that are answered by heart: glue.Valid, inverse, compose. -/
set_option linter.all false
namespace Go.Proofs.Ytdbiilapiloaiaa.Base
open Go Go.Ab Go.Proofs
set_option maxRecDepth 100000
set_option linter.unusedVariables false
set_option linter.unusedSimpArgs false

theorem ext_none : FnOK P ext := by
  intro f args A c r e
  unfold ext at e
  cases args with
  | cons x xs => cases e
  | nil => cases e

noncomputable def h0 : FH := ⟨fun _ => none⟩

theorem validB_eq {a b c d : Nat} (ha : a < 4) (hb : b < 4) (hc : c < 4) (hd : d < 4) : validB [(a : Int), (b : Int), (c : Int), (d : Int)] = Nat.beq (2 ^ a + 2 ^ b + 2 ^ c + 2 ^ d) 15 := by
  have h := all256 (Q := fun a b c d => validB [(a : Int), (b : Int), (c : Int), (d : Int)] == Nat.beq (2 ^ a + 2 ^ b + 2 ^ c + 2 ^ d) 15) (by kernel_rfl) ha hb hc hd
  simpa using h

theorem inv_eq {a b c d : Nat} {l : List Int} (ha : a < 4) (hb : b < 4) (hc : c < 4) (hd : d < 4) (h : invN a b c d = some l) : inv [(a : Int), (b : Int), (c : Int), (d : Int)] = l := by
  have h1 := all256 (Q := fun a b c d => match invN a b c d with | some l => inv [(a : Int), (b : Int), (c : Int), (d : Int)] == l | none => true) (by kernel_rfl) ha hb hc hd
  rw [h] at h1
  simpa using h1

theorem inR4 {a b c d : Nat} (ha : a < 4) (hb : b < 4) (hc : c < 4) (hd : d < 4) : InR [(a : Int), (b : Int), (c : Int), (d : Int)] := by
  intro t ht
  simp only [List.mem_cons, List.not_mem_nil, or_false] at ht
  omega

noncomputable def purX (f : FuncId) (args : List Value) : Option Value :=
  cond (Nat.beq f 72) (match args with | [v] => fastValid v | _ => none)
   (cond (Nat.beq f 73) (match args with | [v] => fastInv v | _ => none)
    (cond (Nat.beq f 110) (match args with | [v, w] => fastComp v w | _ => none) none))
noncomputable def extP {H : Type} [HeapC H] : Fo H := fun f args h c => (purX f args).bind fun v => some { e := .ret, vs := [v], h := h, c := c, df := [] }

theorem extP_ok {H : Type} [HeapC H] : FnOKX P (extP (H := H)) := by
  intro f args A c r e
  simp only [extP, Option.bind_eq_some_iff] at e
  obtain ⟨v, e, hr⟩ := e
  cases hr
  unfold purX at e
  cases h1 : Nat.beq f 72 with
  | true =>
    rw [h1] at e
    obtain rfl := Nat.eq_of_beq_eq_true h1
    simp only [cond_true] at e
    split at e
    · obtain ⟨a, b, cc, d, hv, ha, hb, hc, hd, hr⟩ := fastValid_some e
      subst hv hr
      refine ⟨fun vs w => run_callFunc Try.func72 (by kernel_rfl) rfl vs w, fun μ w args' ha' hR hf => ?_⟩
      exact plain_ok (A0 := h0) (args0 := []) rfl (fun μ args' h => av_vrs1 h) (fun μ μ' v' h => bool_vr h) (fun μ w args' ha hR hf => runG_calls bk_ok ext_none mixed ((valid_sp _ rfl h0 0 []).trans (by rw [validB_eq ‹a < 4› hb hc hd])) ha hR hf) A c μ w args' ha' hR hf
    · cases e
  | false =>
    rw [h1] at e
    cases h2 : Nat.beq f 73 with
    | true =>
      rw [h2] at e
      obtain rfl := Nat.eq_of_beq_eq_true h2
      simp only [cond_true, cond_false] at e
      split at e
      · obtain ⟨a, b, cc, d, l, hv, g1, g2, g3, g4, hl, hr⟩ := fastInv_some e
        subst hv hr
        have hin := inR4 g1 g2 g3 g4
        have hinv := inv_eq g1 g2 g3 g4 hl
        refine ⟨fun vs w => run_callFunc Try.func73 (by kernel_rfl) rfl vs w, fun μ w args' ha' hR hf => ?_⟩
        exact plain_ok (A0 := h0) (args0 := []) rfl (fun μ args' h => av_vrs1 h) (fun μ μ' v' h => av_vr h) (fun μ w args' ha hR hf => runG_calls bk_ok ext_none mixed ((inverse_sp _ rfl hin h0 0 []).trans (by rw [hinv])) ha hR hf) A c μ w args' ha' hR hf
      · cases e
    | false =>
      rw [h2] at e
      cases h3 : Nat.beq f 110 with
      | true =>
        rw [h3] at e
        obtain rfl := Nat.eq_of_beq_eq_true h3
        simp only [cond_true, cond_false] at e
        split at e
        · obtain ⟨a, b, cc, d, x, y, z, u, hv, hw, g1, g2, g3, g4, hr⟩ := fastComp_some e
          subst hv hw hr
          have hin := inR4 g1 g2 g3 g4
          refine ⟨fun vs w => run_callFunc Try.func110 (by kernel_rfl) rfl vs w, fun μ w args' ha' hR hf => ?_⟩
          exact plain_ok (A0 := h0) (args0 := []) rfl (fun μ args' h => av_vrs2 h) (fun μ μ' v' h => av_vr h) (fun μ w args' ha hR hf => runG_calls bk_ok ext_none mixed (compose_sp _ _ rfl rfl hin h0 0 []) ha hR hf) A c μ w args' ha' hR hf
        · cases e
      | false => rw [h3] at e; cases e
end Go.Proofs.Ytdbiilapiloaiaa.Base
