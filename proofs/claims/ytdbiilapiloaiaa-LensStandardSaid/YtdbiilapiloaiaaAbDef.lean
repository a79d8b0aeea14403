/- A part of the claim's proof: AbDef. Conditions: none. -/
import Derived.RangeFuncLeaves
import Derived.OrdersIn
import Derived.Below
import Derived.Laws.StructEq
/-! The abstract machine: a deterministic reading of the model's code over an abstract heap. -/
set_option linter.all false
namespace Go.Ab
open Go

inductive Ex where
  | normal
  | exit (id : Nat)
  | ret
  deriving DecidableEq

/-! ### Annotated code -/
inductive ACode where
  | skip
  | region (id : Nat) (ops : Array Oper) (draw : Bool)
  | seq (a b : ACode)
  | cond (c : Operand) (thn els : ACode)
  | block (id : Nat) (body : ACode)
  | loop (j : Nat) (lin fr : List Nat) (outs : List Ex) (body : ACode)
  | rangeFunc (j : Nat) (lin fr : List Nat) (outs : List Ex) (f : Operand) (params : Array Tmp) (assign body : ACode)
  | exit (id : Nat)
  | ret
  | bad (c : Code)
  | join (lays : List (Ex × List Nat)) (a : ACode)

def strip : ACode → Code
  | .skip => .skip
  | .region id ops d => .region id ops d
  | .seq a b => .seq (strip a) (strip b)
  | .cond c a b => .cond c (strip a) (strip b)
  | .block id b => .block id (strip b)
  | .loop _ _ _ _ b => .loop (strip b)
  | .rangeFunc _ _ _ _ f ps a b => .rangeFunc f ps (strip a) (strip b)
  | .exit id => .exit id
  | .ret => .ret
  | .bad c => c
  | .join _ a => strip a

/-- Regions and loops are numbered in the order of the text; `an` gives each region the temporaries that live behind it, each loop its live temporaries and those whose boxes are dropped. -/
def annot (an : Nat → List Nat × List Nat) : Code → Nat → ACode × Nat
  | .skip, n => (.skip, n)
  | .region id ops d, n => (.region id ops d, n + 1)
  | .seq a b, n => (.seq (annot an a n).1 (annot an b (annot an a n).2).1, (annot an b (annot an a n).2).2)
  | .cond c a b, n => (.cond c (annot an a n).1 (annot an b (annot an a n).2).1, (annot an b (annot an a n).2).2)
  | .block id b, n => (.block id (annot an b n).1, (annot an b n).2)
  | .loop b, n => (.loop n (an n).1 (an n).2 [] (annot an b (n + 1)).1, (annot an b (n + 1)).2)
  | .rangeFunc f ps a b, n =>
    (.rangeFunc n (an n).1 (an n).2 [] f ps (annot an a (n + 1)).1 (annot an b (annot an a (n + 1)).2).1, (annot an b (annot an a (n + 1)).2).2)
  | .exit id, n => (.exit id, n)
  | .ret, n => (.ret, n)
  | c, n => (.bad c, n)

theorem strip_annot (an : Nat → List Nat × List Nat) (c : Code) : ∀ n, strip (annot an c n).1 = c := by
  induction c with
  | seq a b iha ihb => intro n; simp [annot, strip, iha, ihb]
  | cond c a b iha ihb => intro n; simp [annot, strip, iha, ihb]
  | block id b ih => intro n; simp [annot, strip, ih]
  | loop b ih => intro n; simp [annot, strip, ih]
  | rangeFunc f ps a b iha ihb => intro n; simp [annot, strip, iha, ihb]
  | scope b ih => intro n; rfl
  | _ => intro n; rfl

/-! ### The abstract heap -/
structure ALoop where
  state : LoopState
  pending : Option Code
  nt : Nat
  vals : List Value
  lin : List Nat
  fr : List Nat
  params : List Nat
  assign : ACode
  body : ACode
  dfr : Nat

inductive ABlk where
  | cells (ro : Bool) (opn : Option Nat) (c : List Value)
  | dead
  | map (es : List (Value × Value))
  | loop (l : ALoop)
  | dfr

/-- A heap: blocks by their numbers. -/
class HeapC (H : Type) where
  get : H → Nat → Option ABlk
  set : H → Nat → ABlk → H
  del : H → Nat → H
  eqB : Option ABlk → Option ABlk → Bool
  eqB_eq : ∀ a b, eqB a b = true → a = b
  get_set : ∀ h i b j, get (set h i b) j = if j = i then some b else get h j
  get_del : ∀ h i j, get (del h i) j = if j = i then none else get h j

/-- The plain heap: a function. -/
structure FH where
  f : Nat → Option ABlk

noncomputable instance : HeapC FH where
  get h i := h.f i
  set h i b := ⟨fun j => cond (Nat.beq j i) (some b) (h.f j)⟩
  del h i := ⟨fun j => cond (Nat.beq j i) none (h.f j)⟩
  eqB a b := @decide (a = b) (Classical.propDecidable _)
  eqB_eq := fun _ _ h => @of_decide_eq_true _ (Classical.propDecidable _) h
  get_set h i b j := by
    by_cases e : j = i
    · simp [e]
    · have : Nat.beq j i = false := by rw [Bool.eq_false_iff]; intro h; exact e (Nat.eq_of_beq_eq_true h)
      simp [e, this]
  get_del h i j := by
    by_cases e : j = i
    · simp [e]
    · have : Nat.beq j i = false := by rw [Bool.eq_false_iff]; intro h; exact e (Nat.eq_of_beq_eq_true h)
      simp [e, this]

abbrev Tm := Nat → Option Value

structure St (H : Type) where
  tm : Tm
  h : H
  c : Nat
  nt : Nat
  df : List Nat
  rd : Option Nat

inductive Key where
  | fn (f : FuncId)
  | lp (j : Nat) (lin fr : List Nat) (body : ACode) (nt : Nat) (rd : Option Nat)
  | rnd (nt : Nat) (lin fr params : List Nat) (l : Nat) (assign body : ACode)

structure Rt (H : Type) where
  e : Ex
  vs : List Value
  h : H
  c : Nat
  df : List Nat

abbrev Orc (H : Type) := Key → List Value → H → Nat → List Nat → Option (Rt H)

/-! ### Values and memory -/
def plainV : Value → Bool
  | .bool _ | .int _ _ | .string _ | .pointer none | .slice none _ _ | .map none | .nilFunc | .nilIface => true
  | _ => false

def evalO (tm : Tm) : Operand → Option Value
  | .tmp t => tm t
  | .const v => cond (plainV v) (some v) none
  | .global _ => none
  | .func f => some (.func (.func f) #[] #[])

def evalOs (tm : Tm) : List Operand → Option (List Value)
  | [] => some []
  | x :: xs => (evalO tm x).bind fun v => (evalOs tm xs).bind fun vs => some (v :: vs)

def tmOf : List Nat → List Value → Tm
  | t :: ts, v :: vs => fun x => cond (Nat.beq x t) (some v) (tmOf ts vs x)
  | _, _ => fun _ => none

def vals (tm : Tm) : List Nat → Option (List Value)
  | [] => some []
  | t :: ts => (tm t).bind fun v => (vals tm ts).bind fun vs => some (v :: vs)

def putT (tm : Tm) (dst : Option Tmp) (v : Value) : Tm :=
  match dst with
  | some d => fun x => cond (Nat.beq x d) (some v) (tm x)
  | none => tm

variable {H : Type} [HeapC H]

def getCells (h : H) (i : Nat) : Option (List Value) :=
  match HeapC.get h i with
  | some (.cells _ _ c) => some c
  | _ => none

/-- n cells from off on -/
def rdCells (h : H) (i off n : Nat) : Option (List Value) :=
  (getCells h i).bind fun c => cond (Nat.ble (off + n) c.length) (some ((c.drop off).take n)) none

def rdCell (h : H) (i off : Nat) : Option Value := (getCells h i).bind fun c => c[off]?

def isFlat : Value → Bool
  | .agg _ | .tuple _ => false
  | _ => true

/-- xs laid over c from off on -/
def splice (c : List Value) (off : Nat) (xs : List Value) : List Value := c.take off ++ xs ++ c.drop (off + xs.length)

def wrCells (h : H) (i off : Nat) (xs : List Value) : Option H :=
  match HeapC.get h i with
  | some (.cells false o c) => cond (Nat.ble (off + xs.length) c.length && xs.all isFlat) (some (HeapC.set h i (.cells false o (splice c off xs)))) none
  | _ => none

def asPtr : Value → Option (Nat × Nat)
  | .pointer (some ⟨i, o, none⟩) => some (i, o)
  | _ => none

def isAggT (P : Program) (t : TypeId) : Option Bool :=
  match P.underlying t with
  | some (.struct _) | some (.array _ _) => some true
  | some _ => some false
  | none => none

def sizeT (P : Program) (t : TypeId) : Option Nat := (P.info? t).map (·.size)
def bytesT (P : Program) (t : TypeId) : Option Nat := (P.info? t).map (·.bytes)
def zeroT (P : Program) (t : TypeId) : Option Value := (P.info? t).bind (·.zero)

def plainL (v : Value) : Bool := match v with
  | .agg cs => cs.toList.all plainV
  | v => plainV v

def ldN (h : H) (n : Nat) (p : Value) : Option Value :=
  (asPtr p).bind fun a => (rdCells h a.1 a.2 n).bind fun cs => some (.agg cs.toArray)

def ld1 (h : H) (p : Value) : Option Value := (asPtr p).bind fun a => rdCell h a.1 a.2

def aLoad (P : Program) (h : H) (t : TypeId) (p : Value) : Option Value :=
  (isAggT P t).bind fun b => cond b ((sizeT P t).bind fun n => ldN h n p) (ld1 h p)

def stN (h : H) (n : Nat) (p x : Value) : Option H :=
  (asPtr p).bind fun a => cond (Nat.beq x.cells.size n) (wrCells h a.1 a.2 x.cells.toList) none

def aStore (P : Program) (h : H) (t : TypeId) (p x : Value) : Option H := (sizeT P t).bind fun n => stN h n p x

/-- a new block -/
def newB (h : H) (id : Nat) (cs : List Value) : H := HeapC.set h id (.cells false none cs)

def ptrTo (id : Nat) : Value := .pointer (some ⟨id, 0, none⟩)

def aIdx (len : Nat) : Value → Option Nat
  | .int _ i => match i with
    | .ofNat m => cond (Nat.blt m len) (some m) none
    | .negSucc _ => none
  | _ => none

def addOff (p : Value) (n : Nat) : Option Value := (asPtr p).bind fun a => some (.pointer (some ⟨a.1, a.2 + n, none⟩))

def fieldT (P : Program) (s : TypeId) (f : Nat) : Option Field :=
  match P.underlying s with
  | some (.struct fs) => fs[f]?
  | _ => none

def aFieldAddr (P : Program) (s : TypeId) (p : Value) (f : Nat) : Option Value :=
  (fieldT P s f).bind fun fd => (sizeT P fd.type).bind fun z => cond (Nat.beq z 0) none (addOff p fd.offset)

def partN (cs : List Value) (agg : Bool) (off n : Nat) : Option Value :=
  cond agg (cond (Nat.ble (off + n) cs.length) (some (.agg ((cs.drop off).take n).toArray)) none) (cs[off]?)

def aPart (P : Program) (t : TypeId) (cs : List Value) (off : Nat) : Option Value :=
  (isAggT P t).bind fun b => (sizeT P t).bind fun n => partN cs b off n

def aggL : Value → Option (List Value)
  | .agg cs => some cs.toList
  | _ => none

def aField (P : Program) (t : TypeId) (x : Value) (f : Nat) : Option Value :=
  (fieldT P t f).bind fun fd => (aggL x).bind fun cs => aPart P fd.type cs fd.offset

def ixA (len sz : Nat) (p i : Value) : Option Value := (aIdx len i).bind fun k => addOff p (k * sz)

def ixS (sz : Nat) (x i : Value) : Option Value :=
  match x with
  | .slice (some ⟨b, o, none⟩) len _ => (aIdx len i).bind fun k => some (.pointer (some ⟨b, o + k * sz, none⟩))
  | _ => none

def aIndexAddr (P : Program) (t : TypeId) (x i : Value) : Option Value :=
  match P.underlying t with
  | some (.array len e) => (sizeT P e).bind fun sz => ixA len sz x i
  | some (.slice e) => (sizeT P e).bind fun sz => ixS sz x i
  | _ => none

def strAt (s : ByteArray) (i : Value) : Option Value :=
  (aIdx s.size i).bind fun k => (s[k]?).bind fun b => some (.int .u8 b.toNat)

def aIndex (P : Program) (t : TypeId) (x i : Value) : Option Value :=
  match P.underlying t with
  | some (.array len e) => (aggL x).bind fun cs => (aIdx len i).bind fun k => (sizeT P e).bind fun sz => aPart P e cs (k * sz)
  | some .string => match x with
    | .string s => strAt s i
    | _ => none
  | _ => none

def aInt : Value → Option Int
  | .int _ i => some i
  | _ => none

/-- A slice's bounds: low, high, max. -/
def bnd (y : Nat) : Value → Option Nat
  | .int _ i => cond (decide (0 ≤ i) && decide (i ≤ (y : Int))) (some i.toNat) none
  | _ => none

def bndO (y d : Nat) : Option Value → Option Nat
  | some v => bnd y v
  | none => cond (Nat.ble d y) (some d) none

def bnds (len cap : Nat) (lo hi mx : Option Value) : Option (Nat × Nat × Nat) :=
  (bndO cap cap mx).bind fun m => (bndO m len hi).bind fun h =>
    cond (mx.isSome && hi.isNone) none ((bndO h 0 lo).bind fun l => some (l, h, m))

def slOf (sz : Nat) (a : Option Addr) (l h m : Nat) : Option Value :=
  match a with
  | none => some (.slice none (h - l) (m - l))
  | some ⟨b, o, none⟩ => some (.slice (some ⟨b, o + l * sz, none⟩) (h - l) (m - l))
  | _ => none

/-- may a slice with elements of this size lie in this block? -/
def szOk (h : H) (sz : Nat) : Option Addr → Bool
  | none => true
  | some a => match HeapC.get h a.block with
    | some (.cells _ none _) => true
    | some (.cells _ (some e) _) => Nat.beq e sz
    | _ => false

def slS (h : H) (sz : Nat) (x : Value) (lo hi mx : Option Value) : Option Value :=
  match x with
  | .slice a len cap => cond (szOk h sz a) ((bnds len cap lo hi mx).bind fun r => slOf sz a r.1 r.2.1 r.2.2) none
  | _ => none

def slA (n sz : Nat) (x : Value) (lo hi mx : Option Value) : Option Value :=
  (asPtr x).bind fun a => (bnds n n lo hi mx).bind fun r => slOf sz (some ⟨a.1, a.2, none⟩) r.1 r.2.1 r.2.2

def slStr (s : ByteArray) (lo hi : Option Value) : Option Value :=
  (bnds s.size s.size lo hi none).bind fun r => some (.string (s.extract r.1 r.2.1))

def aSlice (P : Program) (h : H) (t : TypeId) (x : Value) (lo hi mx : Option Value) : Option Value :=
  match P.underlying t with
  | some (.array n e) => (sizeT P e).bind fun sz => slA n sz x lo hi mx
  | some (.slice e) => (sizeT P e).bind fun sz => slS h sz x lo hi mx
  | some .string => match x, mx with
    | .string s, none => slStr s lo hi
    | _, _ => none
  | _ => none

def aArrPtr (P : Program) (t : TypeId) (x : Value) : Option Value :=
  match P.underlying t, x with
  | some (.array n _), .slice (some ⟨b, o, none⟩) len _ => cond (Nat.ble 1 n && Nat.ble n len) (some (.pointer (some ⟨b, o, none⟩))) none
  | _, _ => none

/-! ### Arithmetic -/
def intBin (op : BinOp) (k : IntKind) (a b : Int) : Option Value :=
  match op with
  | .add => some (.int k (k.wrap (a + b)))
  | .sub => some (.int k (k.wrap (a - b)))
  | .mul => some (.int k (k.wrap (a * b)))
  | .quo => cond (decide (b = 0)) none (some (.int k (k.wrap (a.tdiv b))))
  | .rem => cond (decide (b = 0)) none (some (.int k (a.tmod b)))
  | .and => some (.int k (k.wrap ((BitVec.ofInt k.bits a &&& BitVec.ofInt k.bits b).toNat)))
  | .or => some (.int k (k.wrap ((BitVec.ofInt k.bits a ||| BitVec.ofInt k.bits b).toNat)))
  | .xor => some (.int k (k.wrap ((BitVec.ofInt k.bits a ^^^ BitVec.ofInt k.bits b).toNat)))
  | .andNot => some (.int k (k.wrap ((BitVec.ofInt k.bits a &&& ~~~ BitVec.ofInt k.bits b).toNat)))
  | .eql => some (.bool (a == b))
  | .neq => some (.bool (a != b))
  | .lss => some (.bool (decide (a < b)))
  | .leq => some (.bool (decide (a ≤ b)))
  | .gtr => some (.bool (decide (a > b)))
  | .geq => some (.bool (decide (a ≥ b)))
  | _ => none

def shiftBin (op : BinOp) (k : IntKind) (a b : Int) : Option Value :=
  match op with
  | .shl => cond (decide (b < 0)) none (some (.int k (k.wrap (a * 2 ^ (min b.toNat k.bits)))))
  | .shr => cond (decide (b < 0)) none (some (.int k (a.fdiv (2 ^ (min b.toNat k.bits)))))
  | _ => none

def strBin (op : BinOp) (x y : ByteArray) : Option Value :=
  match op with
  | .add => cond (Nat.ble (x.size + y.size) 1099511627776) (some (.string (x ++ y))) none
  | .eql => some (.bool (x.toList == y.toList))
  | .neq => some (.bool !(x.toList == y.toList))
  | .lss => some (.bool (Op.bytesLess x.toList y.toList))
  | .leq => some (.bool (Op.bytesLess x.toList y.toList || x.toList == y.toList))
  | .gtr => some (.bool !(Op.bytesLess x.toList y.toList || x.toList == y.toList))
  | .geq => some (.bool !(Op.bytesLess x.toList y.toList))
  | _ => none

/-- '==' as far as it looks at no address. -/
def aEqFs (eq : TypeId → Value → Value → Option Bool) (P : Program) (xs ys : List Value) : List Field → Option Bool
  | [] => some true
  | f :: fs => cond (f.name == "_") (aEqFs eq P xs ys fs)
      ((aPart P f.type xs f.offset).bind fun a => (aPart P f.type ys f.offset).bind fun b => (eq f.type a b).bind fun r => cond r (aEqFs eq P xs ys fs) (some false))

def aEqEs (eq : Value → Value → Option Bool) (P : Program) (e : TypeId) (n : Nat) (xs ys : List Value) : List Nat → Option Bool
  | [] => some true
  | i :: is => (aPart P e xs (i * n)).bind fun a => (aPart P e ys (i * n)).bind fun b => (eq a b).bind fun r => cond r (aEqEs eq P e n xs ys is) (some false)

def aEq (P : Program) : Nat → TypeId → Value → Value → Option Bool
  | 0, _, _, _ => none
  | d + 1, t, x, y =>
    match P.underlying t, x, y with
    | some .bool, .bool a, .bool b => some (a == b)
    | some (.int _), .int k a, .int k' b => cond (decide (k = k')) (some (a == b)) none
    | some .string, .string a, .string b => some (a.toList == b.toList)
    | some (.struct fs), .agg xs, .agg ys => cond (P.stoodInHeld t) none (aEqFs (aEq P d) P xs.toList ys.toList fs.toList)
    | some (.array len e), .agg xs, .agg ys => (sizeT P e).bind fun n => aEqEs (aEq P d e) P e n xs.toList ys.toList (List.range len)
    | some (.slice _), .slice none _ _, .slice b _ _ => some b.isNone
    | some (.slice _), .slice _ _ _, .slice none _ _ => some false
    | some (.map _ _), .map none, .map b => some b.isNone
    | some (.map _ _), .map _, .map none => some false
    | some (.func _ _ _), .nilFunc, .nilFunc => some true
    | some (.func _ _ _), .nilFunc, .func _ _ _ => some false
    | some (.func _ _ _), .func _ _ _, .nilFunc => some false
    | some (.pointer _), .pointer none, .pointer b => some b.isNone
    | some (.pointer _), .pointer _, .pointer none => some false
    | _, _, _ => none

def eqDepth : Nat := 20

def guardOk (P : Program) (t : TypeId) : Value → Bool
  | .agg _ => !(P.eqGuardType P.depth t)
  | .nilIface => false
  | _ => true

def aBinOp0 (P : Program) (op : BinOp) (t : TypeId) (x y : Value) : Option Value :=
  match x, y with
  | .int k a, .int k' b =>
    match op with
    | .shl | .shr => shiftBin op k a b
    | _ => cond (decide (k = k')) (intBin op k a b) none
  | .string a, .string b => strBin op a b
  | x, y =>
    match op with
    | .eql => cond (guardOk P t x) ((aEq P eqDepth t x y).bind fun b => some (.bool b)) none
    | .neq => cond (guardOk P t x) ((aEq P eqDepth t x y).bind fun b => some (.bool (!b))) none
    | _ => none

/-! The same, in forms that the kernel evaluates fast. -/
def kN : IntKind → Nat
  | .i8 => 0 | .i16 => 1 | .i32 => 2 | .i64 => 3 | .u8 => 4 | .u16 => 5 | .u32 => 6 | .u64 => 7

def iLt (a b : Int) : Bool :=
  match a with
  | .ofNat m => match b with
    | .ofNat n => Nat.blt m n
    | .negSucc _ => false
  | .negSucc m => match b with
    | .ofNat _ => true
    | .negSucc n => Nat.blt n m

def iEq (a b : Int) : Bool :=
  match a with
  | .ofNat m => match b with
    | .ofNat n => Nat.beq m n
    | .negSucc _ => false
  | .negSucc m => match b with
    | .ofNat _ => false
    | .negSucc n => Nat.beq n m

def iSubN (m n : Nat) : Int := cond (Nat.ble n m) (.ofNat (Nat.sub m n)) (.negSucc (Nat.sub (Nat.sub n m) 1))

def iAdd (a b : Int) : Int :=
  match a with
  | .ofNat m => match b with
    | .ofNat n => .ofNat (Nat.add m n)
    | .negSucc n => iSubN m (Nat.succ n)
  | .negSucc m => match b with
    | .ofNat n => iSubN n (Nat.succ m)
    | .negSucc n => .negSucc (Nat.add (Nat.add m n) 1)

def iNeg (a : Int) : Int :=
  match a with
  | .ofNat m => iSubN 0 m
  | .negSucc m => .ofNat (Nat.succ m)

def iMul (a b : Int) : Int :=
  match a with
  | .ofNat m => match b with
    | .ofNat n => .ofNat (Nat.mul m n)
    | .negSucc n => iSubN 0 (Nat.mul m (Nat.succ n))
  | .negSucc m => match b with
    | .ofNat n => iSubN 0 (Nat.mul (Nat.succ m) n)
    | .negSucc n => .ofNat (Nat.mul (Nat.succ m) (Nat.succ n))

def two63 : Nat := 9223372036854775808

def iWrap (k : IntKind) (x : Int) : Int :=
  match k with
  | .i64 => match x with
    | .ofNat m => cond (Nat.blt m two63) (.ofNat m) (IntKind.i64.wrap (.ofNat m))
    | .negSucc m => cond (Nat.blt m two63) (.negSucc m) (IntKind.i64.wrap (.negSucc m))
  | k => k.wrap x

def intF (op : BinOp) (k : IntKind) (a b : Int) : Option Value :=
  match op with
  | .add => some (.int k (iWrap k (iAdd a b)))
  | .sub => some (.int k (iWrap k (iAdd a (iNeg b))))
  | .mul => some (.int k (iWrap k (iMul a b)))
  | .eql => some (.bool (iEq a b))
  | .neq => some (.bool (!(iEq a b)))
  | .lss => some (.bool (iLt a b))
  | .leq => some (.bool (!(iLt b a)))
  | .gtr => some (.bool (iLt b a))
  | .geq => some (.bool (!(iLt a b)))
  | op => intBin op k a b

def aBinOp (P : Program) (op : BinOp) (t : TypeId) (x y : Value) : Option Value :=
  match x with
  | .int k a => match y with
    | .int k' b => match op with
      | .shl => shiftBin .shl k a b
      | .shr => shiftBin .shr k a b
      | op => cond (Nat.beq (kN k) (kN k')) (intF op k a b) none
    | y => aBinOp0 P op t (.int k a) y
  | x => aBinOp0 P op t x y

theorem iLt_eq (a b : Int) : iLt a b = decide (a < b) := by
  cases a <;> cases b <;> simp only [iLt]
  · rename_i m n; rw [Bool.eq_iff_iff]; simp [Nat.blt_eq]
  · rename_i m n; symm; simp; omega
  · rename_i m n; symm; simp; omega
  · rename_i m n; rw [Bool.eq_iff_iff]; simp only [Nat.blt_eq, decide_eq_true_eq]; omega
theorem iEq_eq (a b : Int) : iEq a b = (a == b) := by
  rw [Bool.eq_iff_iff]
  cases a <;> cases b <;> simp only [iEq, beq_iff_eq, Int.negSucc.injEq, Int.ofNat.injEq, Nat.beq_eq]
  · simp
  · simp
  · exact eq_comm
theorem iSubN_eq (m n : Nat) : iSubN m n = (m : Int) - n := by
  unfold iSubN
  cases h : Nat.ble n m with
  | true => have := Nat.le_of_ble_eq_true h; simp; omega
  | false =>
    have : ¬ n ≤ m := fun hh => by rw [Nat.ble_eq_true_of_le hh] at h; cases h
    simp only [cond_false, Int.negSucc_eq]
    have e : Nat.sub (Nat.sub n m) 1 = n - m - 1 := rfl
    rw [e]; omega
theorem iAdd_eq (a b : Int) : iAdd a b = a + b := by
  cases a <;> cases b <;> simp only [iAdd, iSubN_eq, Int.negSucc_eq]
  · rfl
  · rename_i m n; have : (Nat.succ n : Int) = n + 1 := rfl; rw [this]; simp; omega
  · rename_i m n; have : (Nat.succ m : Int) = m + 1 := rfl; rw [this]; simp; omega
  · rename_i m n; have : ((Nat.add (Nat.add m n) 1 : Nat) : Int) = m + n + 1 := by have e : Nat.add (Nat.add m n) 1 = m + n + 1 := rfl; rw [e]; omega
    rw [this]; omega
theorem iNeg_eq (a : Int) : iNeg a = -a := by
  cases a <;> simp only [iNeg, iSubN_eq, Int.negSucc_eq]
  · simp
  · rename_i m; have : Int.ofNat (Nat.succ m) = m + 1 := rfl; rw [this]; omega
theorem iMul_eq (a b : Int) : iMul a b = a * b := by
  have s : ∀ m : Nat, (Nat.succ m : Int) = m + 1 := fun _ => rfl
  cases a <;> cases b <;> simp only [iMul, iSubN_eq, Int.negSucc_eq]
  · rfl
  · rename_i m n
    have e : Nat.mul m (Nat.succ n) = m * (n + 1) := rfl
    rw [e]; push_cast; simp [Int.mul_neg]
  · rename_i m n
    have e : Nat.mul (Nat.succ m) n = (m + 1) * n := rfl
    rw [e]; push_cast; simp [Int.neg_mul]
  · rename_i m n
    have e : Nat.mul (Nat.succ m) (Nat.succ n) = (m + 1) * (n + 1) := rfl
    rw [e, Int.neg_mul_neg]; rfl
theorem blt_true {a b : Nat} (h : Nat.blt a b = true) : a < b := by rw [Nat.blt_eq] at h; exact h
theorem wrap_i64 {y : Int} (h1 : -9223372036854775808 ≤ y) (h2 : y < 9223372036854775808) : IntKind.i64.wrap y = y := by
  have e0 : (2 : Int) ^ IntKind.i64.bits = 18446744073709551616 := by decide
  have e1 : (2 : Int) ^ (IntKind.i64.bits - 1) = 9223372036854775808 := by decide
  have e2 : IntKind.i64.signed = true := rfl
  unfold IntKind.wrap
  simp only [e0, e1, e2, Bool.true_and, decide_eq_true_eq]
  split <;> omega
theorem two63_eq : two63 = 9223372036854775808 := by unfold two63; rfl
theorem w64a (m : Nat) : cond (Nat.blt m two63) (Int.ofNat m) (IntKind.i64.wrap (Int.ofNat m)) = IntKind.i64.wrap (Int.ofNat m) := by
  cases h : Nat.blt m two63 with
  | false => rw [cond_false]
  | true =>
    have h1 := blt_true h
    rw [two63_eq] at h1
    rw [cond_true, wrap_i64 (by simp only [Int.ofNat_eq_natCast]; omega) (by simp only [Int.ofNat_eq_natCast]; omega)]
theorem w64b (m : Nat) : cond (Nat.blt m two63) (Int.negSucc m) (IntKind.i64.wrap (Int.negSucc m)) = IntKind.i64.wrap (Int.negSucc m) := by
  cases h : Nat.blt m two63 with
  | false => rw [cond_false]
  | true =>
    have h1 := blt_true h
    rw [two63_eq] at h1
    rw [cond_true, wrap_i64 (by simp only [Int.negSucc_eq]; omega) (by simp only [Int.negSucc_eq]; omega)]
theorem iWrap_eq (k : IntKind) (x : Int) : iWrap k x = k.wrap x := by
  cases k with
  | i64 => cases x with
    | ofNat m => exact w64a m
    | negSucc m => exact w64b m
  | _ => rfl
theorem kN_eq (k k' : IntKind) : Nat.beq (kN k) (kN k') = decide (k = k') := by cases k <;> cases k' <;> first | rfl | (simp [kN] <;> rfl)
theorem intF_eq (op : BinOp) (k : IntKind) (a b : Int) : intF op k a b = intBin op k a b := by
  cases op <;> simp only [intF, intBin, iWrap_eq, iAdd_eq, iNeg_eq, iMul_eq, iEq_eq, iLt_eq]
  · rfl
  · rfl
  · congr 2; rw [Bool.eq_iff_iff]; simp
  · congr 2; rw [Bool.eq_iff_iff]; simp
theorem aBinOp_eq (P : Program) (op : BinOp) (t : TypeId) (x y : Value) : aBinOp P op t x y = aBinOp0 P op t x y := by
  cases x with
  | int k a =>
    cases y with
    | int k' b => cases op <;> simp only [aBinOp, aBinOp0, kN_eq, intF_eq]
    | _ => rfl
  | _ => rfl

def aUnOp (op : UnOp) : Value → Option Value
  | .int k n => match op with
    | .neg => some (.int k (k.wrap (0 - n)))
    | .xor => intBin .xor k (if k.signed then -1 else k.max) n
    | _ => none
  | .bool b => match op with
    | .not => some (.bool !b)
    | _ => none
  | _ => none

def aConvert (P : Program) (_src dst : TypeId) (x : Value) : Option Value :=
  match P.underlying dst, x with
  | some (.int k), .int _ n => some (.int k (k.wrap n))
  | some .string, .string s => some (.string s)
  | _, _ => none

def aNilCheck : Value → Option Value
  | .pointer (some a) => some (.pointer (some a))
  | .func (.func f) a b => some (.func (.func f) a b)
  | .func (.yield l) a b => some (.func (.yield l) a b)
  | _ => none

/-! ### Aggregates -/
def placeOf (P : Program) (t : TypeId) : Option (Nat → Option (Nat × Nat)) :=
  match P.underlying t with
  | some (.struct fs) => cond (fs.toList.all fun f => (sizeT P f.type).isSome) (some fun i => (fs[i]?).bind fun f => (sizeT P f.type).bind fun z => some (f.offset, z)) none
  | some (.array _ e) => (sizeT P e).bind fun z => some fun i => some (i * z, z)
  | _ => none

def fillL (place : Nat → Option (Nat × Nat)) : List Value → List (Nat × Value) → Option (List Value)
  | cs, [] => some cs
  | cs, (i, v) :: rest => (place i).bind fun p =>
      cond (Nat.beq v.cells.size p.2 && Nat.ble (p.1 + p.2) cs.length) (fillL place (splice cs p.1 v.cells.toList) rest) none

def evalPs (tm : Tm) : List (Nat × Operand) → Option (List (Nat × Value))
  | [] => some []
  | (i, x) :: xs => (evalO tm x).bind fun v => (evalPs tm xs).bind fun vs => some ((i, v) :: vs)

def aBuild (P : Program) (t : TypeId) (ps : List (Nat × Value)) : Option Value :=
  (zeroT P t).bind fun z => cond (plainL z) ((placeOf P t).bind fun pl => (fillL pl z.cells.toList ps).bind fun cs => some (.agg cs.toArray)) none

def zeros (z : List Value) : Nat → List Value
  | 0 => []
  | n + 1 => z ++ zeros z n

def elemT (P : Program) (t : TypeId) : Option TypeId :=
  match P.underlying t with
  | some (.slice e) => some e
  | _ => none

def aBuildSlice (P : Program) (t : TypeId) (len : Nat) (ps : List (Nat × Value)) : Option (List Value) :=
  (elemT P t).bind fun e => (sizeT P e).bind fun z => (zeroT P e).bind fun zv =>
    cond (Nat.ble (len * z) 16777216 && plainL zv && Nat.beq zv.cells.size z) (fillL (fun i => some (i * z, z)) (zeros zv.cells.toList len) ps) none

def aMakeSlice (P : Program) (t : TypeId) (l c : Value) : Option (List Value × Nat × Nat) :=
  (elemT P t).bind fun e => (sizeT P e).bind fun z => (bytesT P e).bind fun by' => (zeroT P e).bind fun zv =>
    (aInt l).bind fun l => (aInt c).bind fun c =>
      cond (decide (0 ≤ l) && decide (l ≤ c) && decide ((by' : Int) * c ≤ 281474976710656) && decide (c ≤ 281474976710656) && plainL zv && Nat.beq zv.cells.size z)
        (some (zeros zv.cells.toList c.toNat, l.toNat, c.toNat)) none

/-! ### Maps -/
def mapT (P : Program) (t : TypeId) : Option (TypeId × TypeId) :=
  match P.underlying t with
  | some (.map k e) => some (k, e)
  | _ => none

def keyOk (P : Program) : Nat → TypeId → Value → Bool
  | 0, _, _ => false
  | d + 1, t, v =>
    match P.underlying t, v with
    | some (.int _), .int _ _ => true
    | some .string, .string _ => true
    | some .bool, .bool _ => true
    | some (.array len e), .agg cs =>
      match sizeT P e with
      | some n => (List.range len).all fun i => match aPart P e cs.toList (i * n) with
        | some x => keyOk P d e x
        | none => false
      | none => false
    | some (.struct fs), .agg cs => fs.toList.all fun f => f.name == "_" || match aPart P f.type cs.toList f.offset with
        | some x => keyOk P d f.type x
        | none => false
    | _, _ => false

def findM (P : Program) (kt : TypeId) (k : Value) : List (Value × Value) → Nat → Option (Option (Nat × Value))
  | [], _ => some none
  | (a, v) :: es, i => (aEq P eqDepth kt k a).bind fun b => cond b (some (some (i, v))) (findM P kt k es (i + 1))

def aLookup (P : Program) (h : H) (t : TypeId) (m k : Value) (ok : Bool) : Option Value :=
  (mapT P t).bind fun ke => cond (keyOk P eqDepth ke.1 k) ((zeroT P ke.2).bind fun z => cond (plainL z)
    ((match m with
      | .map none => some ([] : List (Value × Value))
      | .map (some i) => match HeapC.get h i with
        | some (.map es) => some es
        | _ => none
      | _ => none).bind fun es => (findM P ke.1 k es 0).bind fun r =>
        match r with
        | some (_, v) => some (cond ok (.tuple #[v, .bool true]) v)
        | none => some (cond ok (.tuple #[z, .bool false]) z)) none) none

def aMapUpdate (P : Program) (h : H) (t : TypeId) (m k v : Value) : Option H :=
  (mapT P t).bind fun ke => cond (keyOk P eqDepth ke.1 k && plainL k)
    (match m with
      | .map (some i) => match HeapC.get h i with
        | some (.map es) => (findM P ke.1 k es 0).bind fun r =>
          match r with
          | some (j, _) => match es[j]? with
            | some (old, _) => cond (plainL old && Instr.sameBits 10000 old k) (some (HeapC.set h i (.map (es.set j (k, v))))) none
            | none => none
          | none => some (HeapC.set h i (.map (es ++ [(k, v)])))
        | _ => none
      | _ => none) none

/-! ### Builtins -/
def aLen (P : Program) (h : H) (t : TypeId) (x : Value) : Option Value :=
  match P.underlying t, x with
  | some .string, .string s => some (goInt s.size)
  | some (.array n _), _ => some (goInt n)
  | some (.slice _), .slice _ n _ => some (goInt n)
  | some (.map _ _), .map none => some (goInt 0)
  | some (.map _ _), .map (some i) => match HeapC.get h i with
    | some (.map es) => some (goInt es.length)
    | _ => none
  | _, _ => none

def max2 : Value → Value → Option Value
  | .int k x, .int k' y => cond (decide (k = k')) (some (.int k (if y > x then y else x))) none
  | _, _ => none

def min2 : Value → Value → Option Value
  | .int k x, .int k' y => cond (decide (k = k')) (some (.int k (if y < x then y else x))) none
  | _, _ => none

def foldV (f : Value → Value → Option Value) : List Value → Option Value
  | [] => none
  | x :: rest => rest.foldlM f x

/-- What append appends: the cells, and how many elements. -/
def srcCells (h : H) (sz : Nat) (x : Value) : Option (List Value × Nat) :=
  match x with
  | .slice none n _ => cond (Nat.beq n 0) (some ([], 0)) none
  | .slice (some ⟨i, o, none⟩) n _ => (rdCells h i o (n * sz)).bind fun cs => some (cs, n)
  | .string s => cond (Nat.beq sz 1) (some (s.data.toList.map fun b => .int .u8 b.toNat, s.size)) none
  | _ => none

def appGrow (h : H) (id sz by' : Nat) (base : Option Addr) (len need : Nat) (new : List Value) : Option (Value × H) :=
  cond (Nat.ble (need * (by' + 1)) 17592186044416 && new.all isFlat)
    (match base with
    | none => cond (Nat.beq len 0) (some (.slice (some ⟨id, 0, none⟩) need need, HeapC.set h id (.cells false (some sz) new))) none
    | some ⟨i, o, none⟩ => (rdCells h i o (len * sz)).bind fun old =>
      match HeapC.get h i with
      | some (.cells ro opn _) =>
        match opn with
        | none => some (.slice (some ⟨id, 0, none⟩) need need, HeapC.set h id (.cells false (some sz) (old ++ new)))
        | some e => cond (Nat.beq e sz && !ro) (some (.slice (some ⟨id, 0, none⟩) need need, HeapC.set (HeapC.set h i .dead) id (.cells false (some sz) (old ++ new)))) none
      | _ => none
    | _ => none) none

def appTo (h : H) (id sz by' : Nat) (s : Value) (new : List Value) (n : Nat) : Option (Value × H) :=
  match s with
  | .slice base len cap =>
    cond (Nat.ble (len + n) cap)
      (match base with
       | some ⟨i, o, none⟩ => cond (Nat.beq new.length 0) (some (.slice base (len + n) cap, h)) ((wrCells h i (o + len * sz) new).bind fun h' => some (.slice base (len + n) cap, h'))
       | none => cond (Nat.beq new.length 0) (some (.slice base (len + n) cap, h)) none
       | _ => none)
      (appGrow h id sz by' base len (len + n) new)
  | _ => none

def isIntT (P : Program) (t : TypeId) : Bool :=
  match P.underlying t with
  | some (.int _) => true
  | _ => false

def aAppend (P : Program) (h : H) (id : Nat) (ts : List TypeId) (args : List Value) : Option (Value × H) :=
  match ts, args with
  | st :: rest, [s, x] =>
    (elemT P st).bind fun e => (sizeT P e).bind fun sz => (bytesT P e).bind fun by' => (zeroT P e).bind fun z =>
      cond (plainL z && Nat.beq z.cells.size sz)
      (match rest with
      | [xt] => (P.underlying xt).bind fun xd => cond (isIntT P xt)
          ((aInt x).bind fun n => cond (decide (0 ≤ n) && decide (n * (by' : Int) ≤ 17592186044416) && decide (n ≤ 17592186044416))
            (appTo h id sz by' s (zeros z.cells.toList n.toNat) n.toNat) none)
          ((srcCells h sz x).bind fun r => appTo h id sz by' s r.1 r.2)
      | _ => none) none
  | _, _ => none

def aCopy (P : Program) (h : H) (ts : List TypeId) (args : List Value) : Option (Value × H) :=
  match ts, args with
  | dt :: _, [.slice base dl _, .slice sb sl sc] =>
    (elemT P dt).bind fun e => (sizeT P e).bind fun sz =>
      match base with
      | none => cond (Nat.beq dl 0) (some (goInt 0, h)) none
      | some ⟨i, o, none⟩ => (srcCells h sz (.slice sb (Nat.min sl dl) sc)).bind fun r => (wrCells h i o r.1).bind fun h' => some (goInt (Nat.min sl dl), h')
      | _ => none
  | _, _ => none

def aClear (P : Program) (h : H) (ts : List TypeId) (args : List Value) : Option (Value × H) :=
  match ts, args with
  | t :: _, [x] =>
    match x with
    | .slice none _ _ => some (.tuple #[], h)
    | .slice (some ⟨i, o, none⟩) n _ => (elemT P t).bind fun e => (sizeT P e).bind fun sz => (zeroT P e).bind fun z =>
        cond (plainL z && Nat.beq z.cells.size sz) ((wrCells h i o (zeros z.cells.toList n)).bind fun h' => some (.tuple #[], h')) none
    | _ => none
  | _, _ => none

/-! ### One operation -/
def nodupB : List Nat → Bool
  | [] => true
  | x :: xs => !(xs.any (Nat.beq x)) && nodupB xs

def callV (o : Orc H) (h : H) (c : Nat) (fv : Value) (args : List Value) : Option (Value × H × Nat) :=
  match fv with
  | .func (.func g) first cap =>
    (o (.fn g) (first.toList ++ args ++ cap.toList) h c []).bind fun r =>
      match r.vs with
      | [v] => some (v, r.h, r.c)
      | _ => none
  | .func (.yield l) first cap =>
    cond (Nat.beq first.size 0 && Nat.beq cap.size 0)
      (match HeapC.get h l with
       | some (.loop st) =>
         cond (decide (st.state = .ready) && Nat.beq args.length st.params.length && nodupB st.params && st.params.all (Nat.blt · st.nt))
           ((o (.rnd st.nt st.lin st.fr st.params l st.assign st.body) (args ++ st.vals) h c []).bind fun r =>
             match r.vs with
             | [v] => some (v, r.h, r.c)
             | _ => none) none
       | _ => none) none
  | _ => none

def aBuiltin (P : Program) (h : H) (id : Nat) (b : Builtin) (ts : List TypeId) (args : List Value) : Option (Value × H) :=
  match b with
  | .len => match ts, args with
    | t :: _, x :: _ => (aLen P h t x).bind fun v => some (v, h)
    | _, _ => none
  | .max => (foldV max2 args).bind fun v => some (v, h)
  | .min => (foldV min2 args).bind fun v => some (v, h)
  | .append => aAppend P h id ts args
  | .copy => aCopy P h ts args
  | .clear => match ts with
    | t :: _ => (P.underlying t).bind fun _ => aClear P h ts args
    | [] => none
  | _ => none

def wantedA (ops : Array Oper) (tm : Tm) (o : Oper) : Option Bool :=
  match o.guard with
  | none => some true
  | some (j, want) => ((ops[j]?).bind (·.dst)).bind fun d => (tm d).bind fun v =>
    match v with
    | .bool b => some (b == want)
    | _ => some false

def optO (tm : Tm) : Option Operand → Option (Option Value)
  | none => some none
  | some x => (evalO tm x).bind fun v => some (some v)

def ret1 (h : H) (c : Nat) (v : Option Value) : Option (Value × H × Nat) := v.bind fun v => some (v, h, c)

/-- id: the number of the block that this operation may lay. -/
def doOp (P : Program) (o : Orc H) (id : Nat) (tm : Tm) (h : H) (c : Nat) (op : Op) : Option (Value × H × Nat) :=
  match op with
  | .move x | .assign x => ret1 h c (evalO tm x)
  | .pick k a b => (evalO tm k).bind fun kv => (evalO tm a).bind fun av => (evalO tm b).bind fun bv =>
      match kv with
      | .bool t => some (cond t av bv, h, c)
      | _ => none
  | .alloc t => (zeroT P t).bind fun z => cond (plainL z) (some (ptrTo id, newB h id z.cells.toList, c)) none
  | .box _ x => (evalO tm x).bind fun v => cond (v.cells.toList.all isFlat) (some (ptrTo id, newB h id v.cells.toList, c)) none
  | .build t ps => (evalPs tm ps.toList).bind fun vs => ret1 h c (aBuild P t vs)
  | .buildSlice t len ps => (evalPs tm ps.toList).bind fun vs => (aBuildSlice P t len vs).bind fun cs =>
      some (.slice (some ⟨id, 0, none⟩) len len, newB h id cs, c)
  | .load t a => (evalO tm a).bind fun p => ret1 h c (aLoad P h t p)
  | .store t a x => (evalO tm a).bind fun p => (evalO tm x).bind fun v => (aStore P h t p v).bind fun h' => some (.tuple #[], h', c)
  | .nilCheck x => (evalO tm x).bind fun v => ret1 h c (aNilCheck v)
  | .binOp bo t x y _ => (evalO tm x).bind fun a => (evalO tm y).bind fun b => ret1 h c (aBinOp P bo t a b)
  | .unOp u _ x => (evalO tm x).bind fun a => ret1 h c (aUnOp u a)
  | .convert s d x => (P.underlying s).bind fun _ => (evalO tm x).bind fun a => ret1 h c (aConvert P s d a)
  | .sliceToArrayPointer t x => (evalO tm x).bind fun a => ret1 h c (aArrPtr P t a)
  | .makeInterface t x => (evalO tm x).bind fun a => match P.underlying t with
      | some (.interface _) | none => none
      | some _ => some (.iface t a, h, c)
  | .makeFunc fn first cap => match fn with
      | .func g => (evalOs tm first.toList).bind fun f => (evalOs tm cap.toList).bind fun k => some (.func (.func g) f.toArray k.toArray, h, c)
      | _ => none
  | .makeMap t r => match r with
      | none => some (.map (some id), HeapC.set h id (.map []), c)
      | some x => (mapT P t).bind fun _ => (evalO tm x).bind fun v => (aInt v).bind fun _ => some (.map (some id), HeapC.set h id (.map []), c)
  | .makeSlice t l k => (evalO tm l).bind fun lv => (evalO tm k).bind fun kv => (aMakeSlice P t lv kv).bind fun r =>
      some (.slice (some ⟨id, 0, none⟩) r.2.1 r.2.2, newB h id r.1, c)
  | .slice t x lo hi mx => (evalO tm x).bind fun v => (optO tm lo).bind fun l => (optO tm hi).bind fun hh => (optO tm mx).bind fun m => ret1 h c (aSlice P h t v l hh m)
  | .fieldAddr t x f => (evalO tm x).bind fun p => ret1 h c (aFieldAddr P t p f)
  | .field t x f => (evalO tm x).bind fun v => ret1 h c (aField P t v f)
  | .indexAddr t x i => (evalO tm x).bind fun v => (evalO tm i).bind fun k => ret1 h c (aIndexAddr P t v k)
  | .index t x i => (evalO tm x).bind fun v => (evalO tm i).bind fun k => ret1 h c (aIndex P t v k)
  | .lookup t m k ok => (evalO tm m).bind fun mv => (evalO tm k).bind fun kv => ret1 h c (aLookup P h t mv kv ok)
  | .mapUpdate t m k v | .insert t m k v => (evalO tm m).bind fun mv => (evalO tm k).bind fun kv => (evalO tm v).bind fun vv =>
      (aMapUpdate P h t mv kv vv).bind fun h' => some (.tuple #[], h', c)
  | .extract t i => (evalO tm t).bind fun v => match v with
      | .tuple vs => (vs[i]?).bind fun x => some (x, h, c)
      | _ => none
  | .call k => (evalOs tm k.args.toList).bind fun args =>
      match k.callee with
      | .value f => (evalO tm f).bind fun fv => callV o h c fv args
      | .builtin b => (aBuiltin P h id b k.argTypes.toList args).bind fun r => some (r.1, r.2, c)
      | .invoke _ _ => none
  | _ => none

def stepOp (P : Program) (o : Orc H) (ops : Array Oper) (base i nt : Nat) (tm : Tm) (h : H) (c : Nat) (op : Oper) : Option (Value × H × Nat) :=
  (wantedA ops tm op).bind fun w =>
    cond (Nat.blt i 256 && (match op.dst with | some d => Nat.blt d nt | none => true))
      (cond w (doOp P o (256 * base + i) tm h c op.op) (some (undef, h, c))) none

def runOps (P : Program) (o : Orc H) (ops : Array Oper) (base nt : Nat) : List Oper → Nat → Tm → H → Nat → Option (Tm × H × Nat)
  | [], _, tm, h, c => some (tm, h, c)
  | op :: rest, i, tm, h, c => (stepOp P o ops base i nt tm h c op).bind fun r => runOps P o ops base nt rest (i + 1) (putT tm op.dst r.1) r.2.1 r.2.2

/-! ### Regions that draw their order -/
/-- 0: looks at operands alone; 1: reads memory; 2: lays a block; 3: all else. -/
def cls : Op → Nat
  | .move _ | .assign _ | .pick .. | .build .. | .nilCheck _ | .binOp .. | .unOp .. | .convert .. | .sliceToArrayPointer .. | .makeInterface ..
  | .makeFunc .. | .fieldAddr .. | .field .. | .indexAddr .. | .index .. | .extract .. => 0
  | .load .. | .lookup .. | .slice .. => 1
  | .alloc _ | .box .. | .buildSlice .. | .makeMap .. | .makeSlice .. => 2
  | .call { callee := .builtin .len, .. } => 1
  | .call { callee := .builtin .max, .. } | .call { callee := .builtin .min, .. } => 0
  | _ => 3

def maskOf (acc : List Nat) (o : Oper) : Nat :=
  o.after.toList.foldl (fun s e => cond (Region.binds .any e) (s ||| (2 ^ e.on) ||| acc.getD e.on 0) s) 0

def masks : List Oper → List Nat → List Nat
  | [], acc => acc
  | o :: rest, acc => masks rest (acc ++ [maskOf acc o])

/-- the temporaries that an operation looks at -/
def tmpsOf (ops : Array Oper) (o : Oper) : List Nat :=
  (o.op.operands.toList.filterMap fun | .tmp t => some t | _ => none) ++
  (match o.guard with
   | some (g, _) => ((ops[g]?).bind (·.dst)).toList
   | none => [])

def touch (ops : Array Oper) (a b : Oper) : Bool :=
  match a.dst with
  | some d => (tmpsOf ops b).contains d || b.dst == some d
  | none => false

/-- Of two operations, one ahead of the other by the text: ordered, or free of each other. -/
def pairOk (ops : Array Oper) (ms : List Nat) (i j : Nat) : Bool :=
  match ops[i]?, ops[j]? with
  | some a, some b => (ms.getD j 0).testBit i || (!(touch ops a b) && !(touch ops b a) && !(Nat.beq (cls a.op) 3 && Nat.beq (cls b.op) 3))
  | _, _ => true

def below (n : Nat) (p : Nat → Bool) : Bool := Nat.rec true (fun k ih => p k && ih) n

def edgesOk : List Oper → Nat → Bool
  | [], _ => true
  | o :: rest, i => (o.after.toList.all fun e => !(Region.binds .any e) || Nat.blt e.on i) && edgesOk rest (i + 1)

def regOk (ops : Array Oper) : Bool :=
  edgesOk ops.toList 0 && below ops.size fun j => below j fun i => pairOk ops (masks ops.toList []) i j

/-- The reads that may come ahead of or behind a write: (place of the read, place of the write). -/
def lws (ops : Array Oper) : List (Nat × Nat) :=
  (List.range ops.size).flatMap fun i => (List.range ops.size).filterMap fun j =>
    match ops[i]?, ops[j]? with
    | some a, some b => cond (Nat.beq (cls a.op) 1 && Nat.beq (cls b.op) 3 && !(((masks ops.toList []).getD j 0).testBit i) && !(((masks ops.toList []).getD i 0).testBit j)) (some (i, j)) none
    | _, _ => none

def ridV : Value → Option Nat
  | .pointer (some ⟨i, _, _⟩) => some i
  | .map (some i) => some i
  | .slice (some ⟨i, _, _⟩) _ _ => some i
  | _ => none

/-- The block that a reading operation looks at. -/
def ridOf (tm : Tm) : Op → Option Nat
  | .load _ a => (evalO tm a).bind ridV
  | .lookup _ m _ _ => (evalO tm m).bind ridV
  | .slice _ x _ _ _ => (evalO tm x).bind ridV
  | .call { callee := .builtin .len, args, .. } => (args[0]?).bind fun x => (evalO tm x).bind ridV
  | _ => none

def rid (ops : Array Oper) (tm : Tm) (o : Oper) : Option Nat :=
  match wantedA ops tm o with
  | some true => ridOf tm o.op
  | _ => none

/-- The reads that were made, and the heap ahead of each operation; behind the last one. -/
def runOpsT (P : Program) (o : Orc H) (ops : Array Oper) (base nt : Nat) : List Oper → Nat → Tm → H → Nat → Option (Tm × H × Nat × List (Option Nat × H))
  | [], _, tm, h, c => some (tm, h, c, [(none, h)])
  | op :: rest, i, tm, h, c => (stepOp P o ops base i nt tm h c op).bind fun r =>
      (runOpsT P o ops base nt rest (i + 1) (putT tm op.dst r.1) r.2.1 r.2.2).bind fun q => some (q.1, q.2.1, q.2.2.1, (rid ops tm op, h) :: q.2.2.2)

def lwOk (tr : List (Option Nat × H)) (p : Nat × Nat) : Bool :=
  match tr[p.1]? with
  | some (some x, _) => match tr[p.2]?, tr[p.2 + 1]? with
    | some (_, h1), some (_, h2) => HeapC.eqB H (HeapC.get h1 x) (HeapC.get h2 x)
    | _, _ => false
  | _ => true

def runReg (P : Program) (o : Orc H) (ops : Array Oper) (draw : Bool) (nt : Nat) (tm : Tm) (h : H) (c : Nat) : Option (Tm × H × Nat) :=
  cond draw
    (cond (regOk ops)
      (cond (lws ops).isEmpty (runOps P o ops c nt ops.toList 0 tm h (c + 1))
        ((runOpsT P o ops c nt ops.toList 0 tm h (c + 1)).bind fun q => cond ((lws ops).all (lwOk q.2.2.2)) (some (q.1, q.2.1, q.2.2.1)) none)) none)
    (runOps P o ops c nt ops.toList 0 tm h (c + 1))

/-! ### Code -/
def dropB (tm : Tm) (h : H) (t : Nat) : H :=
  match tm t with
  | some (.pointer (some ⟨i, 0, none⟩)) => match HeapC.get h i with
    | some (.cells false none _) => HeapC.del h i
    | _ => h
  | _ => h

def dropBs (tm : Tm) (h : H) : List Nat → H
  | [] => h
  | t :: ts => dropBs tm (dropB tm h t) ts

def jumpOf : Ex → Option Code
  | .normal => none
  | .ret => some .ret
  | .exit id => some (.exit id)

def exOf : Option Code → Option Ex
  | none => some .normal
  | some .ret => some .ret
  | some (.exit id) => some (.exit id)
  | _ => none

def enterDfr (h : H) (c : Nat) : Option Nat → Option (H × Nat)
  | none => some (HeapC.set h (256 * c + 1) .dfr, 256 * c + 1)
  | some l => match HeapC.get h l with
    | some (.loop st) => some (h, st.dfr)
    | _ => none

def execRange (o : Orc H) (s : St H) (lin fr : List Nat) (f : Operand) (params : Array Tmp) (assign body : ACode) : Option (Ex × St H) :=
  (evalO s.tm f).bind fun fv =>
    match fv with
    | .func (.func g) first cap =>
      (vals s.tm lin).bind fun vs => (enterDfr s.h s.c s.rd).bind fun hd =>
        (o (.fn g) (first.toList ++ [.func (.yield (256 * s.c)) #[] #[]] ++ cap.toList)
          (HeapC.set hd.1 (256 * s.c) (.loop { state := .ready, pending := none, nt := s.nt, vals := vs, lin := lin, fr := fr, params := params.toList, assign := assign, body := body, dfr := hd.2 }))
          (s.c + 1) []).bind fun r =>
          match HeapC.get r.h (256 * s.c) with
          | some (.loop st) => cond (decide (st.state = .busy)) none ((exOf st.pending).bind fun e =>
              some (e, { s with h := HeapC.del r.h (256 * s.c), c := r.c, df := (match s.rd with | none => hd.2 :: s.df | some _ => s.df) }))
          | _ => none
    | _ => none

def exec (P : Program) (o : Orc H) : ACode → St H → Option (Ex × St H)
  | .skip, s => some (.normal, s)
  | .region _ ops draw, s => (runReg P o ops draw s.nt s.tm s.h s.c).bind fun r => some (.normal, { s with tm := r.1, h := r.2.1, c := r.2.2 })
  | .seq a b, s => (exec P o a s).bind fun r =>
      match r.1 with
      | .normal => exec P o b r.2
      | e => some (e, r.2)
  | .cond c a b, s => (evalO s.tm c).bind fun v =>
      match v with
      | .bool t => cond t (exec P o a s) (exec P o b s)
      | _ => none
  | .block id b, s => (exec P o b s).bind fun r =>
      match r.1 with
      | .exit id' => some (cond (Nat.beq id' id) .normal (.exit id'), r.2)
      | e => some (e, r.2)
  | .loop j lin fr _ b, s => (vals s.tm lin).bind fun vs =>
      (o (.lp j lin fr b s.nt s.rd) vs s.h s.c s.df).bind fun r => some (r.e, { s with tm := tmOf lin r.vs, h := r.h, c := r.c, df := r.df })
  | .rangeFunc _ lin fr _ f ps a b, s => execRange o s lin fr f ps a b
  | .exit id, s => some (.exit id, s)
  | .ret, s => some (.ret, s)
  | .bad _, _ => none
  | .join _ a, s => exec P o a s

/-! ### Functions -/
structure AFun where
  code : ACode
  nt : Nat
  res : List ResultVar
  fr : List Nat

/-- what the annotations say of a function: its loops; the temporaries whose boxes are dropped at its end -/
structure Ann where
  loops : Nat → List Nat × List Nat
  fr : List Nat

def afun (P : Program) (an : FuncId → Ann) (f : FuncId) : Option AFun :=
  (P.funcs[f]?).bind fun fn => (fn.body).bind fun c =>
    cond (fn.name == "runtime.NumGoroutine") none (some { code := (annot (an f).loops c 0).1, nt := fn.ntmps, res := fn.results.toList, fr := (an f).fr })

def resOf (P : Program) (tm : Tm) (h : H) : List ResultVar → Option (List Value)
  | [] => some []
  | .tmp t :: rs => (tm t).bind fun v => (resOf P tm h rs).bind fun vs => some (v :: vs)
  | .cell a t :: rs => (tm a).bind fun p => (aLoad P h t p).bind fun v => (resOf P tm h rs).bind fun vs => some (v :: vs)

def tup : List Value → Value
  | [v] => v
  | vs => .tuple vs.toArray

def takeAll (h : H) : List Nat → Option H
  | [] => some h
  | d :: ds => match HeapC.get h d with
    | some .dfr => takeAll (HeapC.del h d) ds
    | _ => none

def setState (h : H) (l : Nat) (st : LoopState) (pd : Option Code) : Option H :=
  match HeapC.get h l with
  | some (.loop r) => some (HeapC.set h l (.loop { r with state := st, pending := pd }))
  | _ => none

def beginSt (h : H) (l : Nat) : Option H :=
  match HeapC.get h l with
  | some (.loop r) => cond (decide (r.state = .ready)) (some (HeapC.set h l (.loop { r with state := .busy }))) none
  | _ => none

/-- One round of what the oracle answers. -/
def answer (P : Program) (bk : FuncId → Option AFun) (o : Orc H) : Orc H
  | .fn f, args, h, c, _ => (bk f).bind fun a => cond (Nat.ble args.length a.nt)
      ((exec P o a.code { tm := tmOf (List.range args.length) args, h := h, c := c, nt := a.nt, df := [], rd := none }).bind fun r =>
        match r.1 with
        | .exit _ => none
        | _ => (takeAll r.2.h r.2.df).bind fun h1 => (resOf P r.2.tm h1 a.res).bind fun vs =>
          some { e := .ret, vs := [tup vs], h := dropBs r.2.tm h1 a.fr, c := r.2.c, df := [] }) none
  | .lp j lin fr b nt rd, vs, h, c, df =>
      (exec P o b { tm := tmOf lin vs, h := h, c := c, nt := nt, df := df, rd := rd }).bind fun r =>
        (vals r.2.tm lin).bind fun vs' =>
          match r.1 with
          | .normal => o (.lp j lin fr b nt rd) vs' (dropBs r.2.tm r.2.h fr) r.2.c r.2.df
          | e => some { e := e, vs := vs', h := dropBs r.2.tm r.2.h fr, c := r.2.c, df := r.2.df }
  | .rnd nt lin fr params l a b, vs, h, c, _ =>
      (exec P o a { tm := tmOf (params ++ lin) vs, h := h, c := c, nt := nt, df := [], rd := some l }).bind fun r =>
        match r.1 with
        | .normal => (beginSt r.2.h l).bind fun h1 =>
            (exec P o b { r.2 with h := h1 }).bind fun q =>
              (setState (dropBs q.2.tm q.2.h fr) l (cond (jumpOf q.1).isNone .ready .done) (jumpOf q.1)).bind fun h2 =>
                cond (q.2.df.isEmpty) (some { e := .ret, vs := [.bool (jumpOf q.1).isNone], h := h2, c := q.2.c, df := [] }) none
        | _ => none

def orc (P : Program) (bk : FuncId → Option AFun) : Nat → Orc H
  | 0 => fun _ _ _ _ _ => none
  | n + 1 => answer P bk (orc P bk n)

/-- the book speaks of the program's own functions -/
def BookOK (P : Program) (bk : FuncId → Option AFun) : Prop :=
  ∀ f a, bk f = some a → ∃ fn c, P.funcs[f]? = some fn ∧ fn.body = some c ∧ (fn.name == "runtime.NumGoroutine") = false ∧ strip a.code = c ∧ a.nt = fn.ntmps ∧ a.res = fn.results.toList

end Go.Ab
