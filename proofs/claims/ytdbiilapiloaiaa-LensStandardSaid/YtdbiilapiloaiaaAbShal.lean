/- A part of the claim's proof: AbShal. Conditions: none. -/
import Derived.Test.YtdbiilapiloaiaaAbMono
/-! Shallow pieces: lists of values in place of temporaries. -/
set_option linter.all false
namespace Go.Ab
open Go
set_option linter.unusedVariables false
set_option linter.unusedSimpArgs false

variable {H : Type} [HeapC H] {P : Program}

theorem rid_le {o : Orc H} {ops : Array Oper} {base i nt c : Nat} {tm tm' : Tm} {h : H} {oper : Oper} {r : Value × H × Nat} (hl : tm.le tm') (e : stepOp P o ops base i nt tm h c oper = some r) : rid ops tm' oper = rid ops tm oper := by
  obtain ⟨b, hb, _, _, he⟩ := stepOp_some e
  have hb' := wantedA_le hl hb
  simp only [rid, hb, hb']
  cases b with
  | false => rfl
  | true =>
    rcases he with ⟨_, he⟩ | ⟨h0, _⟩
    · simp only
      cases hop : oper.op <;> rw [hop] at he <;> try rfl
      case load t a =>
        simp only [doOp, Option.bind_eq_some_iff] at he
        obtain ⟨v, hv, _⟩ := he
        simp only [ridOf, hv, evalO_le hl hv]
      case lookup t m k ok =>
        simp only [doOp, Option.bind_eq_some_iff] at he
        obtain ⟨v, hv, _⟩ := he
        simp only [ridOf, hv, evalO_le hl hv]
      case slice t x lo hi mx =>
        simp only [doOp, Option.bind_eq_some_iff] at he
        obtain ⟨v, hv, _⟩ := he
        simp only [ridOf, hv, evalO_le hl hv]
      case call k =>
        obtain ⟨callee, args, ats⟩ := k
        cases callee with
        | builtin b =>
          cases b <;> try rfl
          simp only [doOp, Option.bind_eq_some_iff] at he
          obtain ⟨as, ha, _⟩ := he
          simp only [ridOf]
          cases hal : args.toList with
          | nil =>
            have : args[0]? = none := by rw [← Array.getElem?_toList, hal]; rfl
            rw [this]; rfl
          | cons y ys =>
            rw [hal] at ha
            simp only [evalOs, Option.bind_eq_some_iff] at ha
            obtain ⟨v0, h0, _⟩ := ha
            have : args[0]? = some y := by rw [← Array.getElem?_toList, hal]; rfl
            rw [this]
            simp only [Option.bind_some, h0, evalO_le hl h0]
        | _ => rfl
    · cases h0

theorem runOpsT_le {o : Orc H} {ops : Array Oper} {base nt : Nat} : ∀ {l : List Oper} {i : Nat} {tm tm' : Tm} {h : H} {c : Nat} {q : Tm × H × Nat × List (Option Nat × H)}, tm.le tm' → runOpsT P o ops base nt l i tm h c = some q →
    ∃ tm1, runOpsT P o ops base nt l i tm' h c = some (tm1, q.2) ∧ q.1.le tm1
  | [], i, tm, tm', h, c, q, hl, e => by
    simp only [runOpsT, Option.some.injEq] at e ⊢
    subst e
    exact ⟨tm', rfl, hl⟩
  | oper :: l, i, tm, tm', h, c, q, hl, e => by
    simp only [runOpsT, Option.bind_eq_some_iff] at e ⊢
    obtain ⟨r, hr, q1, hq1, e⟩ := e
    cases e
    obtain ⟨tm1, h1, h2⟩ := runOpsT_le (putT_le hl oper.dst r.1) hq1
    refine ⟨tm1, ⟨r, stepOp_le hl hr, _, h1, ?_⟩, h2⟩
    rw [rid_le hl hr]

theorem runReg_le {o : Orc H} {ops : Array Oper} {draw : Bool} {nt : Nat} {tm tm' : Tm} {h : H} {c : Nat} {r : Tm × H × Nat} (hl : tm.le tm') (e : runReg P o ops draw nt tm h c = some r) :
    ∃ tm1, runReg P o ops draw nt tm' h c = some (tm1, r.2) ∧ r.1.le tm1 := by
  cases draw with
  | false => exact runOps_le hl e
  | true =>
    obtain ⟨hreg, e1⟩ := cond_some (show cond (regOk ops) _ none = some r from e)
    clear e
    show ∃ tm1, cond (regOk ops) _ none = _ ∧ _
    rw [hreg]
    simp only [cond_true]
    cases hw : (lws ops).isEmpty with
    | true => rw [hw] at e1; exact runOps_le hl e1
    | false =>
      rw [hw] at e1
      simp only [cond_false, Option.bind_eq_some_iff] at e1 ⊢
      obtain ⟨q, hq, e2⟩ := e1
      obtain ⟨hlw, e3⟩ := cond_some e2
      cases e3
      obtain ⟨tm1, h1, h2⟩ := runOpsT_le hl hq
      exact ⟨tm1, ⟨_, h1, by simp only [hlw]; rfl⟩, h2⟩

theorem tmOf_le_of_vals {tm : Tm} {lin : List Nat} {vs : List Value} (h : vals tm lin = some vs) : (tmOf lin vs).le tm := fun t v e => vals_tmOf h t v e

theorem vals_length {tm : Tm} : ∀ {l : List Nat} {vs : List Value}, vals tm l = some vs → vs.length = l.length
  | [], vs, h => by simp only [Ab.vals, Option.some.injEq] at h; subst h; rfl
  | t :: l, vs, h => by
    simp only [Ab.vals, Option.bind_eq_some_iff] at h
    obtain ⟨x, _, ws, hw, h⟩ := h
    cases h
    simp [vals_length hw]

theorem vals_cong {tm tm' : Tm} : ∀ {l : List Nat}, (∀ t ∈ l, tm t = tm' t) → vals tm l = vals tm' l
  | [], _ => rfl
  | t :: l, h => by simp only [Ab.vals, h t (by simp), vals_cong (l := l) (fun x hx => h x (by simp [hx]))]

theorem vals_tmOf_self : ∀ {l : List Nat} {vs : List Value}, nodupB l = true → vs.length = l.length → vals (tmOf l vs) l = some vs
  | [], [], _, _ => rfl
  | [], v :: vs, _, h => by simp at h
  | t :: l, [], _, h => by simp at h
  | t :: l, v :: vs, hn, h => by
    obtain ⟨h1, h2⟩ := nodupB_cons hn
    have ih := vals_tmOf_self (l := l) (vs := vs) h2 (by simpa using h)
    have hc : vals (tmOf (t :: l) (v :: vs)) l = vals (tmOf l vs) l := vals_cong (fun x hx => by
      have hne : Nat.beq x t = false := by rw [Bool.eq_false_iff]; intro hh; exact h1 (Nat.eq_of_beq_eq_true hh ▸ hx)
      simp only [tmOf, hne, cond_false])
    have h0 : tmOf (t :: l) (v :: vs) t = some v := by simp only [tmOf, Nat.beq_refl, cond_true]
    simp only [Ab.vals, h0, hc, ih, Option.bind_some]

end Go.Ab
