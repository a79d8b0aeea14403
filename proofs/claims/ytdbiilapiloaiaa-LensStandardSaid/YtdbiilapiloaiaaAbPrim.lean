/- A part of the claim's proof: AbPrim. Conditions: none. -/
import Derived.Test.YtdbiilapiloaiaaAbJx
/-! Words of the shallow texts. -/
set_option linter.all false
namespace Go.Ab
open Go

variable {H : Type} [HeapC H]

def pth : Code → List Nat → Code
  | .seq a b, i :: p => cond (Nat.beq i 0) (pth a p) (pth b p)
  | .cond _ a b, i :: p => cond (Nat.beq i 0) (pth a p) (pth b p)
  | .block _ a, _ :: p => pth a p
  | .loop a, _ :: p => pth a p
  | .rangeFunc _ _ a b, i :: p => cond (Nat.beq i 0) (pth a p) (pth b p)
  | c, _ => c

def opsAt (c : Code) (p : List Nat) : Array Oper :=
  match pth c p with
  | .region _ ops _ => ops
  | _ => #[]

def bodyOf (f : Func) : Code := f.body.getD .skip

def boolK {β : Type} (v : Value) (a b : Option β) : Option β :=
  match v with
  | .bool t => cond t a b
  | _ => none

def Rt.v (r : Rt H) (i : Nat) : Value := nthV r.vs i

def pickR (h : H) (c : Nat) (kv a b : Value) : Option (Value × H × Nat) :=
  match kv with
  | .bool t => some (cond t a b, h, c)
  | _ => none

def extR (h : H) (c : Nat) (v : Value) (i : Nat) : Option (Value × H × Nat) :=
  match v with
  | .tuple vs => (vs[i]?).bind fun x => some (x, h, c)
  | _ => none

/-- what follows the assignments of a round -/
def rndK (P : Program) (o : Orc H) (nt l : Nat) (b : ACode) : Kx H (Rt H) := fun e tm h c df =>
  match e with
  | .normal => (beginSt h l).bind fun h1 => jx P o nt (some l) b tm h1 c df (Krd l)
  | .exit _ => none
  | .ret => none

def lenS (x : Value) : Option Value :=
  match x with
  | .slice _ n _ => some (goInt n)
  | _ => none

def fldV (agg : Bool) (off n : Nat) (x : Value) : Option Value := (aggL x).bind fun cs => partN cs agg off n
def ixV (len : Nat) (agg : Bool) (sz : Nat) (x i : Value) : Option Value := (aggL x).bind fun cs => (aIdx len i).bind fun k => partN cs agg (k * sz) sz
def ixStr (x i : Value) : Option Value :=
  match x with
  | .string s => strAt s i
  | _ => none

def bldL : List Value → List (Nat × Nat × Value) → Option (List Value)
  | cs, [] => some cs
  | cs, (off, n, v) :: r => cond (Nat.beq v.cells.size n && Nat.ble (off + n) cs.length) (bldL (splice cs off v.cells.toList) r) none

def bldV (z : List Value) (ps : List (Nat × Nat × Value)) : Option Value := (bldL z ps).bind fun cs => some (.agg cs.toArray)

def slStrV (x : Value) (lo hi : Option Value) : Option Value :=
  match x with
  | .string s => slStr s lo hi
  | _ => none

def appV (h : H) (id sz by' : Nat) (s x : Value) : Option (Value × H) := (srcCells h sz x).bind fun r => appTo h id sz by' s r.1 r.2

def mkS (sz by' : Nat) (z : List Value) (l c : Value) : Option (List Value × Nat × Nat) :=
  (aInt l).bind fun l => (aInt c).bind fun c =>
    cond (decide (0 ≤ l) && decide (l ≤ c) && decide ((by' : Int) * c ≤ 281474976710656) && decide (c ≤ 281474976710656) && true && true)
      (some (zeros z c.toNat, l.toNat, c.toNat)) none

def cnvI (k : IntKind) (x : Value) : Option Value :=
  match x with
  | .int _ n => some (.int k (k.wrap n))
  | _ => none

end Go.Ab
