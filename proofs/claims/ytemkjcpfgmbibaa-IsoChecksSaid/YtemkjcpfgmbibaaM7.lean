/- Parts of a proof: Sane. Conditions: none. -/
import Derived.Test.YtemkjcpfgmbibaaM4
import Derived.Test.YtemkjcpfgmbibaaM6
set_option linter.all false
namespace Go.Proofs.Ytemkjcpfgmbibaa
open Go Go.Ab Go.Proofs
set_option maxRecDepth 1000000
set_option linter.unusedVariables false

noncomputable def heart {H : Type} [HeapC H] (f : FuncId) : Orc H → List Value → H → Nat → Option (Rt H) := fun _ args h c => Base.extP f args h c
noncomputable def tabX {H : Type} [HeapC H] : Tab H :=
  { F := fun f => cond (Nat.beq f 60) (some (heart 60)) (cond (Nat.beq f 66) (some (heart 66)) (cond (Nat.beq f 65) (some (heart 65)) (tbF.look f))), L := tab.L, R := tab.R }

theorem heart_ok {H : Type} [HeapC H] {f : FuncId} {o : Orc H} {args : List Value} {h : H} {c : Nat} {r : Rt H} (e : heart f o args h c = some r) : Base.extP f args h c = some r ∧ r.h = h := by
  refine ⟨e, ?_⟩
  simp only [heart, Base.extP, Option.bind_eq_some_iff] at e
  obtain ⟨v, _, e⟩ := e
  cases e
  rfl

theorem tabX_ok {H : Type} [HeapC H] : TabX (H := H) P bk K Base.extP tabX where
  F := by
    intro f F e
    simp only [tabX] at e
    cases h1 : Nat.beq f 60 with
    | true => rw [h1] at e; cases e; rw [Nat.eq_of_beq_eq_true h1]; exact .inr fun o args h c r e => heart_ok (o := o) e
    | false =>
      rw [h1] at e
      cases h2 : Nat.beq f 66 with
      | true => rw [h2] at e; cases e; rw [Nat.eq_of_beq_eq_true h2]; exact .inr fun o args h c r e => heart_ok (o := o) e
      | false =>
        rw [h2] at e
        cases h3 : Nat.beq f 65 with
        | true => rw [h3] at e; cases e; rw [Nat.eq_of_beq_eq_true h3]; exact .inr fun o args h c r e => heart_ok (o := o) e
        | false =>
          rw [h3] at e
          refine .inl ⟨fun args h c => ?_, tab_ok.F f F e⟩
          simp only [Base.extP, Base.purX, h1, h2, h3, cond_false, Option.bind_none]
  L := fun j B e lin b nt hk => tab_ok.L j B lin b nt e hk
  R := fun nt ps D e lin a b hk => tab_ok.R nt ps D lin a b e hk

theorem sane_ev : (evT (H := TH) tabX 1000000 (.fn 13) [] TH.empty 0 []).map (fun r => r.vs) = some [.bool true] := by kernel_rfl

theorem sane_run : ∃ r, runX (H := TH) P bk Base.extP (.fn 13) [] TH.empty 0 [] = some r ∧ r.vs = [.bool true] := by
  have h := sane_ev
  cases e : evT (H := TH) tabX 1000000 (.fn 13) [] TH.empty 0 [] with
  | none => rw [e] at h; cases h
  | some r =>
    rw [e] at h
    simp only [Option.map_some, Option.some.injEq] at h
    exact ⟨r, (evX_good tabX_ok 1000000 (.fn 13) [] TH.empty 0 [] r trivial (fun i st hst => by rw [TH.inv_empty TH.empty rfl i] at hst; cases hst) e).1, h⟩

theorem sane_calls (A : FH) (c : Nat) (μ : Mu) (w : World) (args' : List Value) (ha : VRs μ [] args') (hR : R μ A w) (hf : Fresh μ c) :
    Calls P 13 args'.toArray w (CallR μ A c w { e := .ret, vs := [.bool true], h := A, c := c, df := [] }) := by
  obtain ⟨r0, h1, h2⟩ := sane_run
  exact plain_ok (args := []) (args0 := []) h2 (fun μ args' h => by rw [h.nil_left]; exact VRs.nil _) (fun μ μ' v' h => bool_vr h)
    (fun μ w args' ha hR hf => runX_calls bk_ok Base.extP_ok mixed h1 ha hR hf) A c μ w args' ha hR hf

theorem ext_ok : FnOK P ext := by
  intro f args A c r e
  unfold ext at e
  cases args with
  | cons x xs => cases e
  | nil =>
    dsimp only at e
    cases hn : nmem f [13] with
    | false => rw [hn] at e; cases e
    | true =>
      rw [hn] at e
      simp only [cond_true, Option.some.injEq] at e
      have hf : f = 13 := by
        simp only [nmem] at hn
        cases hb : Nat.beq f 13 with
        | true => exact Nat.eq_of_beq_eq_true hb
        | false => rw [hb] at hn; cases hn
      subst hf
      subst e
      exact ⟨fun vs w => run_callFunc Try.func13 (by kernel_rfl) rfl vs w, fun μ w args' ha hR hf => sane_calls A c μ w args' ha hR hf⟩
end Go.Proofs.Ytemkjcpfgmbibaa
