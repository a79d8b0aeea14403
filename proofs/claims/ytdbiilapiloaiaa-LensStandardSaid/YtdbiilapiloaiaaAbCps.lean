/- A part of the claim's proof: AbCps. Conditions: none. -/
import Derived.Test.YtdbiilapiloaiaaAbShal
/-! Operations with a continuation. -/
set_option linter.all false
namespace Go.Ab
open Go
set_option linter.unusedVariables false
set_option linter.unusedSimpArgs false

variable {H : Type} [HeapC H] {P : Program}

abbrev Kt (H β : Type) := Value → H → Nat → Option β

def callK {β : Type} (o : Orc H) (h : H) (c : Nat) (fv : Value) (args : List Value) (k : Kt H β) : Option β :=
  (callV o h c fv args).bind fun r => k r.1 r.2.1 r.2.2

def pickV (kv a b : Value) : Option Value :=
  match kv with
  | .bool t => some (cond t a b)
  | _ => none

def extV (v : Value) (i : Nat) : Option Value :=
  match v with
  | .tuple vs => vs[i]?
  | _ => none

/-- builtins; those that look only go on with the heap -/
def biK {β : Type} (P : Program) (h : H) (id c : Nat) (b : Builtin) (ts : List TypeId) (args : List Value) (k : Kt H β) : Option β :=
  match b with
  | .len => match ts, args with
    | t :: _, x :: _ => (aLen P h t x).bind fun v => k v h c
    | _, _ => none
  | .max => (foldV max2 args).bind fun v => k v h c
  | .min => (foldV min2 args).bind fun v => k v h c
  | b => (aBuiltin P h id b ts args).bind fun r => k r.1 r.2 c

theorem biK_eq {β : Type} {h : H} {id c : Nat} {b : Builtin} {ts : List TypeId} {args : List Value} {k : Kt H β} : biK P h id c b ts args k = (aBuiltin P h id b ts args).bind fun r => k r.1 r.2 c := by
  cases b <;> try rfl
  · cases ts <;> cases args <;> simp [biK, aBuiltin, Option.bind_assoc]
  · simp [biK, aBuiltin, Option.bind_assoc]
  · simp [biK, aBuiltin, Option.bind_assoc]

def doOpK {β : Type} (P : Program) (o : Orc H) (id : Nat) (tm : Tm) (h : H) (c : Nat) (op : Op) (k : Kt H β) : Option β :=
  match op with
  | .move x | .assign x => (evalO tm x).bind fun v => k v h c
  | .pick x a b => (evalO tm x).bind fun kv => (evalO tm a).bind fun av => (evalO tm b).bind fun bv => (pickV kv av bv).bind fun v => k v h c
  | .box _ x => (evalO tm x).bind fun v => cond (v.cells.toList.all isFlat) (k (ptrTo id) (newB h id v.cells.toList) c) none
  | .build t ps => (evalPs tm ps.toList).bind fun vs => (aBuild P t vs).bind fun v => k v h c
  | .load t a => (evalO tm a).bind fun p => (aLoad P h t p).bind fun v => k v h c
  | .store t a x => (evalO tm a).bind fun p => (evalO tm x).bind fun v => (aStore P h t p v).bind fun h' => k (.tuple #[]) h' c
  | .nilCheck x => (evalO tm x).bind fun v => (aNilCheck v).bind fun v => k v h c
  | .binOp bo t x y _ => (evalO tm x).bind fun a => (evalO tm y).bind fun b => (aBinOp P bo t a b).bind fun v => k v h c
  | .unOp u _ x => (evalO tm x).bind fun a => (aUnOp u a).bind fun v => k v h c
  | .fieldAddr t x f => (evalO tm x).bind fun p => (aFieldAddr P t p f).bind fun v => k v h c
  | .field t x f => (evalO tm x).bind fun v => (aField P t v f).bind fun v => k v h c
  | .indexAddr t x i => (evalO tm x).bind fun v => (evalO tm i).bind fun j => (aIndexAddr P t v j).bind fun v => k v h c
  | .index t x i => (evalO tm x).bind fun v => (evalO tm i).bind fun j => (aIndex P t v j).bind fun v => k v h c
  | .slice t x lo hi mx => (evalO tm x).bind fun v => (optO tm lo).bind fun l => (optO tm hi).bind fun hh => (optO tm mx).bind fun m => (aSlice P h t v l hh m).bind fun v => k v h c
  | .lookup t m x ok => (evalO tm m).bind fun mv => (evalO tm x).bind fun kv => (aLookup P h t mv kv ok).bind fun v => k v h c
  | .extract t i => (evalO tm t).bind fun v => (extV v i).bind fun v => k v h c
  | .call cl => (evalOs tm cl.args.toList).bind fun args =>
      match cl.callee with
      | .value f => (evalO tm f).bind fun fv => callK o h c fv args k
      | .builtin b => biK P h id c b cl.argTypes.toList args k
      | .invoke _ _ => none
  | .convert s d x => (P.underlying s).bind fun _ => (evalO tm x).bind fun a => (aConvert P s d a).bind fun v => k v h c
  | .buildSlice t len ps => (evalPs tm ps.toList).bind fun vs => (aBuildSlice P t len vs).bind fun cs => k (.slice (some ⟨id, 0, none⟩) len len) (newB h id cs) c
  | .makeSlice t l m => (evalO tm l).bind fun lv => (evalO tm m).bind fun kv => (aMakeSlice P t lv kv).bind fun r => k (.slice (some ⟨id, 0, none⟩) r.2.1 r.2.2) (newB h id r.1) c
  | .mapUpdate t m x v | .insert t m x v => (evalO tm m).bind fun mv => (evalO tm x).bind fun kv => (evalO tm v).bind fun vv => (aMapUpdate P h t mv kv vv).bind fun h' => k (.tuple #[]) h' c
  | .sliceToArrayPointer t x => (evalO tm x).bind fun a => (aArrPtr P t a).bind fun v => k v h c
  | op => (doOp P o id tm h c op).bind fun r => k r.1 r.2.1 r.2.2

theorem doOpK_eq {β : Type} {o : Orc H} {id : Nat} {tm : Tm} {h : H} {c : Nat} {op : Op} {k : Kt H β} : doOpK P o id tm h c op k = (doOp P o id tm h c op).bind fun r => k r.1 r.2.1 r.2.2 := by
  cases op with
  | pick x a b =>
    simp only [doOpK, doOp, Option.bind_assoc]
    congr 1; funext kv; congr 1; funext av; congr 1; funext bv
    cases kv <;> rfl
  | box t x =>
    simp only [doOpK, doOp, Option.bind_assoc]
    congr 1; funext v
    cases v.cells.toList.all isFlat <;> rfl
  | extract t i =>
    simp only [doOpK, doOp, Option.bind_assoc]
    congr 1; funext v
    cases v <;> first | rfl | simp only [extV, Option.bind_assoc, Option.bind_some]
  | call cl =>
    simp only [doOpK, doOp, Option.bind_assoc]
    congr 1; funext args
    cases cl.callee with
    | value f => simp only [Option.bind_assoc, callK]
    | builtin b => simp only [Option.bind_assoc, Option.bind_some, biK_eq]
    | invoke _ _ => rfl
  | _ => simp only [doOpK, doOp, ret1, Option.bind_assoc, Option.bind_some]

def gv (v : Value) (want : Bool) : Option Bool :=
  match v with
  | .bool b => some (b == want)
  | _ => some false

def dstB (nt : Nat) (d : Option Tmp) : Bool := match d with | some d => Nat.blt d nt | none => true

/-- an operation under a guard joins behind it; others go on -/
def stepK {β : Type} (P : Program) (o : Orc H) (ops : Array Oper) (base i nt : Nat) (tm : Tm) (h : H) (c : Nat) (op : Oper) (k : Kt H β) : Option β :=
  match op.guard with
  | none => cond (Nat.blt i 256 && dstB nt op.dst) (doOpK P o (256 * base + i) tm h c op.op k) none
  | some _ => (stepOp P o ops base i nt tm h c op).bind fun r => k r.1 r.2.1 r.2.2

theorem stepK_eq {β : Type} {o : Orc H} {ops : Array Oper} {base i nt : Nat} {tm : Tm} {h : H} {c : Nat} {op : Oper} {k : Kt H β} :
    stepK P o ops base i nt tm h c op k = (stepOp P o ops base i nt tm h c op).bind fun r => k r.1 r.2.1 r.2.2 := by
  obtain ⟨dst, o', ty, pos, af, gd⟩ := op
  cases gd with
  | some p => rfl
  | none =>
    simp only [stepK, stepOp, wantedA, Option.bind_some, cond_true]
    have hd : (match dst with | some d => Nat.blt d nt | none => true) = dstB nt dst := by cases dst <;> rfl
    cases hb : (Nat.blt i 256 && dstB nt dst) with
    | false =>
      cases dst <;> simp only [dstB] at hb <;> simp only [hb] <;> rfl
    | true =>
      cases dst <;> simp only [dstB] at hb <;> simp only [hb, cond_true] <;> exact doOpK_eq

def opsK {β : Type} (P : Program) (o : Orc H) (ops : Array Oper) (base nt : Nat) (K : Tm → H → Nat → Option β) : List Oper → Nat → Tm → H → Nat → Option β
  | [], _, tm, h, c => K tm h c
  | op :: rest, i, tm, h, c => stepK P o ops base i nt tm h c op fun v h' c' => opsK P o ops base nt K rest (i + 1) (putT tm op.dst v) h' c'

theorem opsK_eq {β : Type} {o : Orc H} {ops : Array Oper} {base nt : Nat} {K : Tm → H → Nat → Option β} : ∀ {l : List Oper} {i : Nat} {tm : Tm} {h : H} {c : Nat},
    opsK P o ops base nt K l i tm h c = (runOps P o ops base nt l i tm h c).bind fun r => K r.1 r.2.1 r.2.2
  | [], i, tm, h, c => rfl
  | oper :: l, i, tm, h, c => by
    simp only [opsK, runOps, stepK_eq, Option.bind_assoc]
    congr 1
    funext r
    exact opsK_eq

/-- a call of a known function, its one result -/
def callF (o : Orc H) (g : FuncId) (args : List Value) (h : H) (c : Nat) : Option (Value × H × Nat) :=
  (o (.fn g) args h c []).bind fun r =>
    match r.vs with
    | [v] => some (v, r.h, r.c)
    | _ => none

end Go.Ab
