/- A part of the claim's proof: AbMono. Conditions: none. -/
import Derived.Test.YtdbiilapiloaiaaAbOrc
/-! More temporaries do no harm. -/
set_option linter.all false
namespace Go.Ab
open Go
set_option linter.unusedVariables false
set_option linter.unusedSimpArgs false

variable {H : Type} [HeapC H] {P : Program}

/-- tm' knows all that tm knows -/
def Tm.le (tm tm' : Tm) : Prop := ∀ t v, tm t = some v → tm' t = some v

theorem evalO_le {tm tm' : Tm} (h : tm.le tm') {x : Operand} {v : Value} (e : evalO tm x = some v) : evalO tm' x = some v := by
  cases x with
  | tmp t => exact h t v e
  | _ => exact e

theorem evalOs_le {tm tm' : Tm} (h : tm.le tm') : ∀ {xs : List Operand} {vs : List Value}, evalOs tm xs = some vs → evalOs tm' xs = some vs
  | [], vs, e => e
  | x :: xs, vs, e => by
    simp only [evalOs, Option.bind_eq_some_iff] at e ⊢
    obtain ⟨v, hv, ws, hw, e⟩ := e
    exact ⟨v, evalO_le h hv, ws, evalOs_le h hw, e⟩

theorem evalPs_le {tm tm' : Tm} (h : tm.le tm') : ∀ {xs : List (Nat × Operand)} {vs : List (Nat × Value)}, evalPs tm xs = some vs → evalPs tm' xs = some vs
  | [], vs, e => e
  | (i, x) :: xs, vs, e => by
    simp only [evalPs, Option.bind_eq_some_iff] at e ⊢
    obtain ⟨v, hv, ws, hw, e⟩ := e
    exact ⟨v, evalO_le h hv, ws, evalPs_le h hw, e⟩

theorem optO_le {tm tm' : Tm} (h : tm.le tm') {x : Option Operand} {v : Option Value} (e : optO tm x = some v) : optO tm' x = some v := by
  cases x with
  | none => exact e
  | some x =>
    simp only [optO, Option.bind_eq_some_iff] at e ⊢
    obtain ⟨v, hv, e⟩ := e
    exact ⟨v, evalO_le h hv, e⟩

theorem vals_le {tm tm' : Tm} (h : tm.le tm') : ∀ {l : List Nat} {vs : List Value}, vals tm l = some vs → vals tm' l = some vs
  | [], vs, e => e
  | t :: l, vs, e => by
    simp only [Ab.vals, Option.bind_eq_some_iff] at e ⊢
    obtain ⟨v, hv, ws, hw, e⟩ := e
    exact ⟨v, h t v hv, ws, vals_le h hw, e⟩

theorem putT_le {tm tm' : Tm} (h : tm.le tm') (d : Option Tmp) (x : Value) : (putT tm d x).le (putT tm' d x) := by
  intro t v e
  cases d with
  | none => exact h t v e
  | some d =>
    simp only [putT] at e ⊢
    cases hb : Nat.beq t d with
    | true => rw [hb] at e; exact e
    | false => rw [hb] at e; exact h t v e

theorem doOp_le {o : Orc H} {id : Nat} {tm tm' : Tm} {h : H} {c : Nat} {op : Op} {r : Value × H × Nat} (hl : tm.le tm') (e : doOp P o id tm h c op = some r) : doOp P o id tm' h c op = some r := by
  cases op with
  | move x =>
    simp only [doOp] at e ⊢
    cases hx : evalO tm x with
    | none => rw [hx] at e; cases e
    | some v => rw [evalO_le hl hx]; rw [hx] at e; exact e
  | assign x =>
    simp only [doOp] at e ⊢
    cases hx : evalO tm x with
    | none => rw [hx] at e; cases e
    | some v => rw [evalO_le hl hx]; rw [hx] at e; exact e
  | pick k a b =>
    simp only [doOp, Option.bind_eq_some_iff] at e ⊢
    obtain ⟨x, hx, y, hy, z, hz, e⟩ := e
    exact ⟨x, evalO_le hl hx, y, evalO_le hl hy, z, evalO_le hl hz, e⟩
  | alloc t => exact e
  | box t x =>
    simp only [doOp, Option.bind_eq_some_iff] at e ⊢
    obtain ⟨x, hx, e⟩ := e
    exact ⟨x, evalO_le hl hx, e⟩
  | build t ps =>
    simp only [doOp, Option.bind_eq_some_iff] at e ⊢
    obtain ⟨x, hx, e⟩ := e
    exact ⟨x, evalPs_le hl hx, e⟩
  | buildSlice t len ps =>
    simp only [doOp, Option.bind_eq_some_iff] at e ⊢
    obtain ⟨x, hx, e⟩ := e
    exact ⟨x, evalPs_le hl hx, e⟩
  | makeFunc fn a b =>
    cases fn with
    | func g =>
      simp only [doOp, Option.bind_eq_some_iff] at e ⊢
      obtain ⟨x, hx, y, hy, e⟩ := e
      exact ⟨x, evalOs_le hl hx, y, evalOs_le hl hy, e⟩
    | _ => exact e
  | makeMap t r =>
    cases r with
    | none => exact e
    | some x =>
      simp only [doOp, Option.bind_eq_some_iff] at e ⊢
      obtain ⟨ke, hke, x, hx, e⟩ := e
      exact ⟨ke, hke, x, evalO_le hl hx, e⟩
  | slice t x lo hi mx =>
    simp only [doOp, Option.bind_eq_some_iff] at e ⊢
    obtain ⟨x, hx, l, hlo, hh, hhi, m, hm, e⟩ := e
    exact ⟨x, evalO_le hl hx, l, optO_le hl hlo, hh, optO_le hl hhi, m, optO_le hl hm, e⟩
  | call k =>
    simp only [doOp, Option.bind_eq_some_iff] at e ⊢
    obtain ⟨as, ha, e⟩ := e
    refine ⟨as, evalOs_le hl ha, ?_⟩
    split at e
    · rename_i f hk
      simp only [Option.bind_eq_some_iff] at e ⊢
      obtain ⟨fv, hf, e⟩ := e
      exact ⟨fv, evalO_le hl hf, e⟩
    · exact e
    · exact e
  | store _ x y =>
    simp only [doOp, Option.bind_eq_some_iff] at e ⊢
    obtain ⟨x, hx, y, hy, e⟩ := e
    exact ⟨x, evalO_le hl hx, y, evalO_le hl hy, e⟩
  | binOp _ _ x y _ =>
    simp only [doOp, Option.bind_eq_some_iff] at e ⊢
    obtain ⟨x, hx, y, hy, e⟩ := e
    exact ⟨x, evalO_le hl hx, y, evalO_le hl hy, e⟩
  | makeSlice _ x y =>
    simp only [doOp, Option.bind_eq_some_iff] at e ⊢
    obtain ⟨x, hx, y, hy, e⟩ := e
    exact ⟨x, evalO_le hl hx, y, evalO_le hl hy, e⟩
  | indexAddr _ x y =>
    simp only [doOp, Option.bind_eq_some_iff] at e ⊢
    obtain ⟨x, hx, y, hy, e⟩ := e
    exact ⟨x, evalO_le hl hx, y, evalO_le hl hy, e⟩
  | index _ x y =>
    simp only [doOp, Option.bind_eq_some_iff] at e ⊢
    obtain ⟨x, hx, y, hy, e⟩ := e
    exact ⟨x, evalO_le hl hx, y, evalO_le hl hy, e⟩
  | lookup _ x y _ =>
    simp only [doOp, Option.bind_eq_some_iff] at e ⊢
    obtain ⟨x, hx, y, hy, e⟩ := e
    exact ⟨x, evalO_le hl hx, y, evalO_le hl hy, e⟩
  | mapUpdate _ x y z =>
    simp only [doOp, Option.bind_eq_some_iff] at e ⊢
    obtain ⟨x, hx, y, hy, z, hz, e⟩ := e
    exact ⟨x, evalO_le hl hx, y, evalO_le hl hy, z, evalO_le hl hz, e⟩
  | insert _ x y z =>
    simp only [doOp, Option.bind_eq_some_iff] at e ⊢
    obtain ⟨x, hx, y, hy, z, hz, e⟩ := e
    exact ⟨x, evalO_le hl hx, y, evalO_le hl hy, z, evalO_le hl hz, e⟩
  | convert _ _ x =>
    simp only [doOp, Option.bind_eq_some_iff] at e ⊢
    obtain ⟨d, hd, x, hx, e⟩ := e
    exact ⟨d, hd, x, evalO_le hl hx, e⟩
  | load _ x | nilCheck x | unOp _ _ x | sliceToArrayPointer _ x | makeInterface _ x | fieldAddr _ x _ | field _ x _ | extract x _ =>
    simp only [doOp, Option.bind_eq_some_iff] at e ⊢
    obtain ⟨x, hx, e⟩ := e
    exact ⟨x, evalO_le hl hx, e⟩
  | _ => exact e

theorem wantedA_le {ops : Array Oper} {tm tm' : Tm} {oper : Oper} {b : Bool} (hl : tm.le tm') (e : wantedA ops tm oper = some b) : wantedA ops tm' oper = some b := by
  unfold wantedA at e ⊢
  split at e
  · exact e
  · simp only [Option.bind_eq_some_iff] at e ⊢
    obtain ⟨d, hd, v, hv, e⟩ := e
    exact ⟨d, hd, v, hl d v hv, e⟩

theorem stepOp_le {o : Orc H} {ops : Array Oper} {base i nt c : Nat} {tm tm' : Tm} {h : H} {oper : Oper} {r : Value × H × Nat} (hl : tm.le tm') (e : stepOp P o ops base i nt tm h c oper = some r) : stepOp P o ops base i nt tm' h c oper = some r := by
  simp only [stepOp, Option.bind_eq_some_iff] at e ⊢
  obtain ⟨b, hb, e⟩ := e
  refine ⟨b, wantedA_le hl hb, ?_⟩
  obtain ⟨hg, e1⟩ := cond_some e
  rw [hg]
  cases b
  · exact e1
  · exact doOp_le hl e1

theorem runOps_le {o : Orc H} {ops : Array Oper} {base nt : Nat} : ∀ {l : List Oper} {i : Nat} {tm tm' : Tm} {h : H} {c : Nat} {r : Tm × H × Nat}, tm.le tm' → runOps P o ops base nt l i tm h c = some r →
    ∃ tm1, runOps P o ops base nt l i tm' h c = some (tm1, r.2.1, r.2.2) ∧ r.1.le tm1
  | [], i, tm, tm', h, c, r, hl, e => by
    simp only [runOps, Option.some.injEq] at e ⊢
    subst e
    exact ⟨tm', rfl, hl⟩
  | oper :: l, i, tm, tm', h, c, r, hl, e => by
    simp only [runOps, Option.bind_eq_some_iff] at e ⊢
    obtain ⟨q, hq, e⟩ := e
    obtain ⟨tm1, h1, h2⟩ := runOps_le (putT_le hl oper.dst q.1) e
    exact ⟨tm1, ⟨q, stepOp_le hl hq, h1⟩, h2⟩

/-! ### Continuations -/
def runOpsK {β : Type} (P : Program) (o : Orc H) (ops : Array Oper) (base nt : Nat) (K : Tm → H → Nat → Option β) : List Oper → Nat → Tm → H → Nat → Option β
  | [], _, tm, h, c => K tm h c
  | op :: rest, i, tm, h, c => (stepOp P o ops base i nt tm h c op).bind fun r => runOpsK P o ops base nt K rest (i + 1) (putT tm op.dst r.1) r.2.1 r.2.2

theorem runOpsK_eq {β : Type} {o : Orc H} {ops : Array Oper} {base nt : Nat} {K : Tm → H → Nat → Option β} : ∀ {l : List Oper} {i : Nat} {tm : Tm} {h : H} {c : Nat},
    runOpsK P o ops base nt K l i tm h c = (runOps P o ops base nt l i tm h c).bind fun r => K r.1 r.2.1 r.2.2
  | [], i, tm, h, c => rfl
  | oper :: l, i, tm, h, c => by
    simp only [runOpsK, runOps, Option.bind_assoc]
    congr 1
    funext r
    exact runOpsK_eq

end Go.Ab
