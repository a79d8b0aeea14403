/- Parts of a proof: AbDef AbRel AbOps AbPure AbArith AbMem AbMap AbApp AbDo. Conditions: none. -/
import Derived.RangeFuncLeaves
import Derived.OrdersIn
import Derived.Below
import Derived.Laws.StructEq
import Derived.WideKeyRuns
set_option linter.all false
namespace Go.Ab
open Go
inductive Ex where
  | normal
  | exit (id : Nat)
  | ret
  deriving DecidableEq
inductive ACode where
  | skip
  | region (id : Nat) (ops : Array Oper) (draw : Bool)
  | seq (a b : ACode)
  | cond (c : Operand) (thn els : ACode)
  | block (id : Nat) (body : ACode)
  | loop (j : Nat) (lin fr : List Nat) (outs : List Ex) (body : ACode)
  | rangeFunc (j : Nat) (lin fr : List Nat) (outs : List Ex) (f : Operand) (params : Array Tmp) (assign body : ACode)
  | exit (id : Nat)
  | ret
  | bad (c : Code)
  | join (lays : List (Ex × List Nat)) (a : ACode)
def strip : ACode → Code
  | .skip => .skip
  | .region id ops d => .region id ops d
  | .seq a b => .seq (strip a) (strip b)
  | .cond c a b => .cond c (strip a) (strip b)
  | .block id b => .block id (strip b)
  | .loop _ _ _ _ b => .loop (strip b)
  | .rangeFunc _ _ _ _ f ps a b => .rangeFunc f ps (strip a) (strip b)
  | .exit id => .exit id
  | .ret => .ret
  | .bad c => c
  | .join _ a => strip a
structure ALoop where
  state : LoopState
  pending : Option Code
  nt : Nat
  vals : List Value
  lin : List Nat
  fr : List Nat
  params : List Nat
  assign : ACode
  body : ACode
  dfr : Nat
inductive ABlk where
  | cells (ro : Bool) (opn : Option Nat) (c : List Value)
  | dead
  | map (es : List (Value × Value))
  | loop (l : ALoop)
  | dfr
class HeapC (H : Type) where
  get : H → Nat → Option ABlk
  set : H → Nat → ABlk → H
  del : H → Nat → H
  eqB : Option ABlk → Option ABlk → Bool
  eqB_eq : ∀ a b, eqB a b = true → a = b
  get_set : ∀ h i b j, get (set h i b) j = if j = i then some b else get h j
  get_del : ∀ h i j, get (del h i) j = if j = i then none else get h j
structure FH where
  f : Nat → Option ABlk
noncomputable instance : HeapC FH where
  get h i := h.f i
  set h i b := ⟨fun j => cond (Nat.beq j i) (some b) (h.f j)⟩
  del h i := ⟨fun j => cond (Nat.beq j i) none (h.f j)⟩
  eqB a b := @decide (a = b) (Classical.propDecidable _)
  eqB_eq := fun _ _ h => @of_decide_eq_true _ (Classical.propDecidable _) h
  get_set h i b j := by
    by_cases e : j = i
    · simp [e]
    · have : Nat.beq j i = false := by rw [Bool.eq_false_iff]; intro h; exact e (Nat.eq_of_beq_eq_true h)
      simp [e, this]
  get_del h i j := by
    by_cases e : j = i
    · simp [e]
    · have : Nat.beq j i = false := by rw [Bool.eq_false_iff]; intro h; exact e (Nat.eq_of_beq_eq_true h)
      simp [e, this]
abbrev Tm := Nat → Option Value
structure St (H : Type) where
  tm : Tm
  h : H
  c : Nat
  nt : Nat
  df : List Nat
  rd : Option Nat
inductive Key where
  | fn (f : FuncId)
  | lp (j : Nat) (lin fr : List Nat) (body : ACode) (nt : Nat) (rd : Option Nat)
  | rnd (nt : Nat) (lin fr params : List Nat) (l : Nat) (assign body : ACode)
structure Rt (H : Type) where
  e : Ex
  vs : List Value
  h : H
  c : Nat
  df : List Nat
abbrev Orc (H : Type) := Key → List Value → H → Nat → List Nat → Option (Rt H)
def plainV : Value → Bool
  | .bool _ | .int _ _ | .string _ | .pointer none | .slice none _ _ | .map none | .nilFunc | .nilIface => true
  | _ => false
def evalO (tm : Tm) : Operand → Option Value
  | .tmp t => tm t
  | .const v => cond (plainV v) (some v) none
  | .global _ => none
  | .func f => some (.func (.func f) #[] #[])
def evalOs (tm : Tm) : List Operand → Option (List Value)
  | [] => some []
  | x :: xs => (evalO tm x).bind fun v => (evalOs tm xs).bind fun vs => some (v :: vs)
def tmOf : List Nat → List Value → Tm
  | t :: ts, v :: vs => fun x => cond (Nat.beq x t) (some v) (tmOf ts vs x)
  | _, _ => fun _ => none
def vals (tm : Tm) : List Nat → Option (List Value)
  | [] => some []
  | t :: ts => (tm t).bind fun v => (vals tm ts).bind fun vs => some (v :: vs)
def putT (tm : Tm) (dst : Option Tmp) (v : Value) : Tm :=
  match dst with
  | some d => fun x => cond (Nat.beq x d) (some v) (tm x)
  | none => tm
variable {H : Type} [HeapC H]
def getCells (h : H) (i : Nat) : Option (List Value) :=
  match HeapC.get h i with
  | some (.cells _ _ c) => some c
  | _ => none
def rdCells (h : H) (i off n : Nat) : Option (List Value) :=
  (getCells h i).bind fun c => cond (Nat.ble (off + n) c.length) (some ((c.drop off).take n)) none
def rdCell (h : H) (i off : Nat) : Option Value := (getCells h i).bind fun c => c[off]?
def isFlat : Value → Bool
  | .agg _ | .tuple _ => false
  | _ => true
def splice (c : List Value) (off : Nat) (xs : List Value) : List Value := c.take off ++ xs ++ c.drop (off + xs.length)
def wrCells (h : H) (i off : Nat) (xs : List Value) : Option H :=
  match HeapC.get h i with
  | some (.cells false o c) => cond (Nat.ble (off + xs.length) c.length && xs.all isFlat) (some (HeapC.set h i (.cells false o (splice c off xs)))) none
  | _ => none
def asPtr : Value → Option (Nat × Nat)
  | .pointer (some ⟨i, o, none⟩) => some (i, o)
  | _ => none
def isAggT (P : Program) (t : TypeId) : Option Bool :=
  match P.underlying t with
  | some (.struct _) | some (.array _ _) => some true
  | some _ => some false
  | none => none
def sizeT (P : Program) (t : TypeId) : Option Nat := (P.info? t).map (·.size)
def bytesT (P : Program) (t : TypeId) : Option Nat := (P.info? t).map (·.bytes)
def zeroT (P : Program) (t : TypeId) : Option Value := (P.info? t).bind (·.zero)
def plainL (v : Value) : Bool := match v with
  | .agg cs => cs.toList.all plainV
  | v => plainV v
def ldN (h : H) (n : Nat) (p : Value) : Option Value :=
  (asPtr p).bind fun a => (rdCells h a.1 a.2 n).bind fun cs => some (.agg cs.toArray)
def ld1 (h : H) (p : Value) : Option Value := (asPtr p).bind fun a => rdCell h a.1 a.2
def aLoad (P : Program) (h : H) (t : TypeId) (p : Value) : Option Value :=
  (isAggT P t).bind fun b => cond b ((sizeT P t).bind fun n => ldN h n p) (ld1 h p)
def stN (h : H) (n : Nat) (p x : Value) : Option H :=
  (asPtr p).bind fun a => cond (Nat.beq x.cells.size n) (wrCells h a.1 a.2 x.cells.toList) none
def aStore (P : Program) (h : H) (t : TypeId) (p x : Value) : Option H := (sizeT P t).bind fun n => stN h n p x
def newB (h : H) (id : Nat) (cs : List Value) : H := HeapC.set h id (.cells false none cs)
def ptrTo (id : Nat) : Value := .pointer (some ⟨id, 0, none⟩)
def aIdx (len : Nat) : Value → Option Nat
  | .int _ i => match i with
    | .ofNat m => cond (Nat.blt m len) (some m) none
    | .negSucc _ => none
  | _ => none
def addOff (p : Value) (n : Nat) : Option Value := (asPtr p).bind fun a => some (.pointer (some ⟨a.1, a.2 + n, none⟩))
def fieldT (P : Program) (s : TypeId) (f : Nat) : Option Field :=
  match P.underlying s with
  | some (.struct fs) => fs[f]?
  | _ => none
def aFieldAddr (P : Program) (s : TypeId) (p : Value) (f : Nat) : Option Value :=
  (fieldT P s f).bind fun fd => (sizeT P fd.type).bind fun z => cond (Nat.beq z 0) none (addOff p fd.offset)
def partN (cs : List Value) (agg : Bool) (off n : Nat) : Option Value :=
  cond agg (cond (Nat.ble (off + n) cs.length) (some (.agg ((cs.drop off).take n).toArray)) none) (cs[off]?)
def aPart (P : Program) (t : TypeId) (cs : List Value) (off : Nat) : Option Value :=
  (isAggT P t).bind fun b => (sizeT P t).bind fun n => partN cs b off n
def aggL : Value → Option (List Value)
  | .agg cs => some cs.toList
  | _ => none
def aField (P : Program) (t : TypeId) (x : Value) (f : Nat) : Option Value :=
  (fieldT P t f).bind fun fd => (aggL x).bind fun cs => aPart P fd.type cs fd.offset
def ixA (len sz : Nat) (p i : Value) : Option Value := (aIdx len i).bind fun k => addOff p (k * sz)
def ixS (sz : Nat) (x i : Value) : Option Value :=
  match x with
  | .slice (some ⟨b, o, none⟩) len _ => (aIdx len i).bind fun k => some (.pointer (some ⟨b, o + k * sz, none⟩))
  | _ => none
def aIndexAddr (P : Program) (t : TypeId) (x i : Value) : Option Value :=
  match P.underlying t with
  | some (.array len e) => (sizeT P e).bind fun sz => ixA len sz x i
  | some (.slice e) => (sizeT P e).bind fun sz => ixS sz x i
  | _ => none
def strAt (s : ByteArray) (i : Value) : Option Value :=
  (aIdx s.size i).bind fun k => (s[k]?).bind fun b => some (.int .u8 b.toNat)
def aIndex (P : Program) (t : TypeId) (x i : Value) : Option Value :=
  match P.underlying t with
  | some (.array len e) => (aggL x).bind fun cs => (aIdx len i).bind fun k => (sizeT P e).bind fun sz => aPart P e cs (k * sz)
  | some .string => match x with
    | .string s => strAt s i
    | _ => none
  | _ => none
def aInt : Value → Option Int
  | .int _ i => some i
  | _ => none
def bnd (y : Nat) : Value → Option Nat
  | .int _ i => cond (decide (0 ≤ i) && decide (i ≤ (y : Int))) (some i.toNat) none
  | _ => none
def bndO (y d : Nat) : Option Value → Option Nat
  | some v => bnd y v
  | none => cond (Nat.ble d y) (some d) none
def bnds (len cap : Nat) (lo hi mx : Option Value) : Option (Nat × Nat × Nat) :=
  (bndO cap cap mx).bind fun m => (bndO m len hi).bind fun h =>
    cond (mx.isSome && hi.isNone) none ((bndO h 0 lo).bind fun l => some (l, h, m))
def slOf (sz : Nat) (a : Option Addr) (l h m : Nat) : Option Value :=
  match a with
  | none => some (.slice none (h - l) (m - l))
  | some ⟨b, o, none⟩ => some (.slice (some ⟨b, o + l * sz, none⟩) (h - l) (m - l))
  | _ => none
def szOk (h : H) (sz : Nat) : Option Addr → Bool
  | none => true
  | some a => match HeapC.get h a.block with
    | some (.cells _ none _) => true
    | some (.cells _ (some e) _) => Nat.beq e sz
    | _ => false
def slS (h : H) (sz : Nat) (x : Value) (lo hi mx : Option Value) : Option Value :=
  match x with
  | .slice a len cap => cond (szOk h sz a) ((bnds len cap lo hi mx).bind fun r => slOf sz a r.1 r.2.1 r.2.2) none
  | _ => none
def slA (n sz : Nat) (x : Value) (lo hi mx : Option Value) : Option Value :=
  (asPtr x).bind fun a => (bnds n n lo hi mx).bind fun r => slOf sz (some ⟨a.1, a.2, none⟩) r.1 r.2.1 r.2.2
def slStr (s : ByteArray) (lo hi : Option Value) : Option Value :=
  (bnds s.size s.size lo hi none).bind fun r => some (.string (s.extract r.1 r.2.1))
def aSlice (P : Program) (h : H) (t : TypeId) (x : Value) (lo hi mx : Option Value) : Option Value :=
  match P.underlying t with
  | some (.array n e) => (sizeT P e).bind fun sz => slA n sz x lo hi mx
  | some (.slice e) => (sizeT P e).bind fun sz => slS h sz x lo hi mx
  | some .string => match x, mx with
    | .string s, none => slStr s lo hi
    | _, _ => none
  | _ => none
def aArrPtr (P : Program) (t : TypeId) (x : Value) : Option Value :=
  match P.underlying t, x with
  | some (.array n _), .slice (some ⟨b, o, none⟩) len _ => cond (Nat.ble 1 n && Nat.ble n len) (some (.pointer (some ⟨b, o, none⟩))) none
  | _, _ => none
def intBin (op : BinOp) (k : IntKind) (a b : Int) : Option Value :=
  match op with
  | .add => some (.int k (k.wrap (a + b)))
  | .sub => some (.int k (k.wrap (a - b)))
  | .mul => some (.int k (k.wrap (a * b)))
  | .quo => cond (decide (b = 0)) none (some (.int k (k.wrap (a.tdiv b))))
  | .rem => cond (decide (b = 0)) none (some (.int k (a.tmod b)))
  | .and => some (.int k (k.wrap ((BitVec.ofInt k.bits a &&& BitVec.ofInt k.bits b).toNat)))
  | .or => some (.int k (k.wrap ((BitVec.ofInt k.bits a ||| BitVec.ofInt k.bits b).toNat)))
  | .xor => some (.int k (k.wrap ((BitVec.ofInt k.bits a ^^^ BitVec.ofInt k.bits b).toNat)))
  | .andNot => some (.int k (k.wrap ((BitVec.ofInt k.bits a &&& ~~~ BitVec.ofInt k.bits b).toNat)))
  | .eql => some (.bool (a == b))
  | .neq => some (.bool (a != b))
  | .lss => some (.bool (decide (a < b)))
  | .leq => some (.bool (decide (a ≤ b)))
  | .gtr => some (.bool (decide (a > b)))
  | .geq => some (.bool (decide (a ≥ b)))
  | _ => none
def shiftBin (op : BinOp) (k : IntKind) (a b : Int) : Option Value :=
  match op with
  | .shl => cond (decide (b < 0)) none (some (.int k (k.wrap (a * 2 ^ (min b.toNat k.bits)))))
  | .shr => cond (decide (b < 0)) none (some (.int k (a.fdiv (2 ^ (min b.toNat k.bits)))))
  | _ => none
def strBin (op : BinOp) (x y : ByteArray) : Option Value :=
  match op with
  | .add => cond (Nat.ble (x.size + y.size) 1099511627776) (some (.string (x ++ y))) none
  | .eql => some (.bool (x.toList == y.toList))
  | .neq => some (.bool !(x.toList == y.toList))
  | .lss => some (.bool (Op.bytesLess x.toList y.toList))
  | .leq => some (.bool (Op.bytesLess x.toList y.toList || x.toList == y.toList))
  | .gtr => some (.bool !(Op.bytesLess x.toList y.toList || x.toList == y.toList))
  | .geq => some (.bool !(Op.bytesLess x.toList y.toList))
  | _ => none
def aEqFs (eq : TypeId → Value → Value → Option Bool) (P : Program) (xs ys : List Value) : List Field → Option Bool
  | [] => some true
  | f :: fs => cond (f.name == "_") (aEqFs eq P xs ys fs)
      ((aPart P f.type xs f.offset).bind fun a => (aPart P f.type ys f.offset).bind fun b => (eq f.type a b).bind fun r => cond r (aEqFs eq P xs ys fs) (some false))
def aEqEs (eq : Value → Value → Option Bool) (P : Program) (e : TypeId) (n : Nat) (xs ys : List Value) : List Nat → Option Bool
  | [] => some true
  | i :: is => (aPart P e xs (i * n)).bind fun a => (aPart P e ys (i * n)).bind fun b => (eq a b).bind fun r => cond r (aEqEs eq P e n xs ys is) (some false)
def aEq (P : Program) : Nat → TypeId → Value → Value → Option Bool
  | 0, _, _, _ => none
  | d + 1, t, x, y =>
    match P.underlying t, x, y with
    | some .bool, .bool a, .bool b => some (a == b)
    | some (.int _), .int k a, .int k' b => cond (decide (k = k')) (some (a == b)) none
    | some .string, .string a, .string b => some (a.toList == b.toList)
    | some (.struct fs), .agg xs, .agg ys => cond (P.stoodInHeld t) none (aEqFs (aEq P d) P xs.toList ys.toList fs.toList)
    | some (.array len e), .agg xs, .agg ys => (sizeT P e).bind fun n => aEqEs (aEq P d e) P e n xs.toList ys.toList (List.range len)
    | some (.slice _), .slice none _ _, .slice b _ _ => some b.isNone
    | some (.slice _), .slice _ _ _, .slice none _ _ => some false
    | some (.map _ _), .map none, .map b => some b.isNone
    | some (.map _ _), .map _, .map none => some false
    | some (.func _ _ _), .nilFunc, .nilFunc => some true
    | some (.func _ _ _), .nilFunc, .func _ _ _ => some false
    | some (.func _ _ _), .func _ _ _, .nilFunc => some false
    | some (.pointer _), .pointer none, .pointer b => some b.isNone
    | some (.pointer _), .pointer _, .pointer none => some false
    | _, _, _ => none
def eqDepth : Nat := 20
def guardOk (P : Program) (t : TypeId) : Value → Bool
  | .agg _ => !(P.eqGuardType P.depth t)
  | .nilIface => false
  | _ => true
def aBinOp0 (P : Program) (op : BinOp) (t : TypeId) (x y : Value) : Option Value :=
  match x, y with
  | .int k a, .int k' b =>
    match op with
    | .shl | .shr => shiftBin op k a b
    | _ => cond (decide (k = k')) (intBin op k a b) none
  | .string a, .string b => strBin op a b
  | x, y =>
    match op with
    | .eql => cond (guardOk P t x) ((aEq P eqDepth t x y).bind fun b => some (.bool b)) none
    | .neq => cond (guardOk P t x) ((aEq P eqDepth t x y).bind fun b => some (.bool (!b))) none
    | _ => none
def kN : IntKind → Nat
  | .i8 => 0 | .i16 => 1 | .i32 => 2 | .i64 => 3 | .u8 => 4 | .u16 => 5 | .u32 => 6 | .u64 => 7
def iLt (a b : Int) : Bool :=
  match a with
  | .ofNat m => match b with
    | .ofNat n => Nat.blt m n
    | .negSucc _ => false
  | .negSucc m => match b with
    | .ofNat _ => true
    | .negSucc n => Nat.blt n m
def iEq (a b : Int) : Bool :=
  match a with
  | .ofNat m => match b with
    | .ofNat n => Nat.beq m n
    | .negSucc _ => false
  | .negSucc m => match b with
    | .ofNat _ => false
    | .negSucc n => Nat.beq n m
def iSubN (m n : Nat) : Int := cond (Nat.ble n m) (.ofNat (Nat.sub m n)) (.negSucc (Nat.sub (Nat.sub n m) 1))
def iAdd (a b : Int) : Int :=
  match a with
  | .ofNat m => match b with
    | .ofNat n => .ofNat (Nat.add m n)
    | .negSucc n => iSubN m (Nat.succ n)
  | .negSucc m => match b with
    | .ofNat n => iSubN n (Nat.succ m)
    | .negSucc n => .negSucc (Nat.add (Nat.add m n) 1)
def iNeg (a : Int) : Int :=
  match a with
  | .ofNat m => iSubN 0 m
  | .negSucc m => .ofNat (Nat.succ m)
def iMul (a b : Int) : Int :=
  match a with
  | .ofNat m => match b with
    | .ofNat n => .ofNat (Nat.mul m n)
    | .negSucc n => iSubN 0 (Nat.mul m (Nat.succ n))
  | .negSucc m => match b with
    | .ofNat n => iSubN 0 (Nat.mul (Nat.succ m) n)
    | .negSucc n => .ofNat (Nat.mul (Nat.succ m) (Nat.succ n))
def two63 : Nat := 9223372036854775808
def iWrap (k : IntKind) (x : Int) : Int :=
  match k with
  | .i64 => match x with
    | .ofNat m => cond (Nat.blt m two63) (.ofNat m) (IntKind.i64.wrap (.ofNat m))
    | .negSucc m => cond (Nat.blt m two63) (.negSucc m) (IntKind.i64.wrap (.negSucc m))
  | k => k.wrap x
def intF (op : BinOp) (k : IntKind) (a b : Int) : Option Value :=
  match op with
  | .add => some (.int k (iWrap k (iAdd a b)))
  | .sub => some (.int k (iWrap k (iAdd a (iNeg b))))
  | .mul => some (.int k (iWrap k (iMul a b)))
  | .eql => some (.bool (iEq a b))
  | .neq => some (.bool (!(iEq a b)))
  | .lss => some (.bool (iLt a b))
  | .leq => some (.bool (!(iLt b a)))
  | .gtr => some (.bool (iLt b a))
  | .geq => some (.bool (!(iLt a b)))
  | op => intBin op k a b
def aBinOp (P : Program) (op : BinOp) (t : TypeId) (x y : Value) : Option Value :=
  match x with
  | .int k a => match y with
    | .int k' b => match op with
      | .shl => shiftBin .shl k a b
      | .shr => shiftBin .shr k a b
      | op => cond (Nat.beq (kN k) (kN k')) (intF op k a b) none
    | y => aBinOp0 P op t (.int k a) y
  | x => aBinOp0 P op t x y
theorem iLt_eq (a b : Int) : iLt a b = decide (a < b) := by
  cases a <;> cases b <;> simp only [iLt]
  · rename_i m n; rw [Bool.eq_iff_iff]; simp [Nat.blt_eq]
  · rename_i m n; symm; simp; omega
  · rename_i m n; symm; simp; omega
  · rename_i m n; rw [Bool.eq_iff_iff]; simp only [Nat.blt_eq, decide_eq_true_eq]; omega
theorem iEq_eq (a b : Int) : iEq a b = (a == b) := by
  rw [Bool.eq_iff_iff]
  cases a <;> cases b <;> simp only [iEq, beq_iff_eq, Int.negSucc.injEq, Int.ofNat.injEq, Nat.beq_eq]
  · simp
  · simp
  · exact eq_comm
theorem iSubN_eq (m n : Nat) : iSubN m n = (m : Int) - n := by
  unfold iSubN
  cases h : Nat.ble n m with
  | true => have := Nat.le_of_ble_eq_true h; simp; omega
  | false =>
    have : ¬ n ≤ m := fun hh => by rw [Nat.ble_eq_true_of_le hh] at h; cases h
    simp only [cond_false, Int.negSucc_eq]
    have e : Nat.sub (Nat.sub n m) 1 = n - m - 1 := rfl
    rw [e]; omega
theorem iAdd_eq (a b : Int) : iAdd a b = a + b := by
  cases a <;> cases b <;> simp only [iAdd, iSubN_eq, Int.negSucc_eq]
  · rfl
  · rename_i m n; have : (Nat.succ n : Int) = n + 1 := rfl; rw [this]; simp; omega
  · rename_i m n; have : (Nat.succ m : Int) = m + 1 := rfl; rw [this]; simp; omega
  · rename_i m n; have : ((Nat.add (Nat.add m n) 1 : Nat) : Int) = m + n + 1 := by have e : Nat.add (Nat.add m n) 1 = m + n + 1 := rfl; rw [e]; omega
    rw [this]; omega
theorem iNeg_eq (a : Int) : iNeg a = -a := by
  cases a <;> simp only [iNeg, iSubN_eq, Int.negSucc_eq]
  · simp
  · rename_i m; have : Int.ofNat (Nat.succ m) = m + 1 := rfl; rw [this]; omega
theorem iMul_eq (a b : Int) : iMul a b = a * b := by
  have s : ∀ m : Nat, (Nat.succ m : Int) = m + 1 := fun _ => rfl
  cases a <;> cases b <;> simp only [iMul, iSubN_eq, Int.negSucc_eq]
  · rfl
  · rename_i m n
    have e : Nat.mul m (Nat.succ n) = m * (n + 1) := rfl
    rw [e]; push_cast; simp [Int.mul_neg]
  · rename_i m n
    have e : Nat.mul (Nat.succ m) n = (m + 1) * n := rfl
    rw [e]; push_cast; simp [Int.neg_mul]
  · rename_i m n
    have e : Nat.mul (Nat.succ m) (Nat.succ n) = (m + 1) * (n + 1) := rfl
    rw [e, Int.neg_mul_neg]; rfl
theorem blt_true {a b : Nat} (h : Nat.blt a b = true) : a < b := by rw [Nat.blt_eq] at h; exact h
theorem wrap_i64 {y : Int} (h1 : -9223372036854775808 ≤ y) (h2 : y < 9223372036854775808) : IntKind.i64.wrap y = y := by
  have e0 : (2 : Int) ^ IntKind.i64.bits = 18446744073709551616 := by decide
  have e1 : (2 : Int) ^ (IntKind.i64.bits - 1) = 9223372036854775808 := by decide
  have e2 : IntKind.i64.signed = true := rfl
  unfold IntKind.wrap
  simp only [e0, e1, e2, Bool.true_and, decide_eq_true_eq]
  split <;> omega
theorem two63_eq : two63 = 9223372036854775808 := by unfold two63; rfl
theorem w64a (m : Nat) : cond (Nat.blt m two63) (Int.ofNat m) (IntKind.i64.wrap (Int.ofNat m)) = IntKind.i64.wrap (Int.ofNat m) := by
  cases h : Nat.blt m two63 with
  | false => rw [cond_false]
  | true =>
    have h1 := blt_true h
    rw [two63_eq] at h1
    rw [cond_true, wrap_i64 (by simp only [Int.ofNat_eq_natCast]; omega) (by simp only [Int.ofNat_eq_natCast]; omega)]
theorem w64b (m : Nat) : cond (Nat.blt m two63) (Int.negSucc m) (IntKind.i64.wrap (Int.negSucc m)) = IntKind.i64.wrap (Int.negSucc m) := by
  cases h : Nat.blt m two63 with
  | false => rw [cond_false]
  | true =>
    have h1 := blt_true h
    rw [two63_eq] at h1
    rw [cond_true, wrap_i64 (by simp only [Int.negSucc_eq]; omega) (by simp only [Int.negSucc_eq]; omega)]
theorem iWrap_eq (k : IntKind) (x : Int) : iWrap k x = k.wrap x := by
  cases k with
  | i64 => cases x with
    | ofNat m => exact w64a m
    | negSucc m => exact w64b m
  | _ => rfl
theorem kN_eq (k k' : IntKind) : Nat.beq (kN k) (kN k') = decide (k = k') := by cases k <;> cases k' <;> first | rfl | (simp [kN] <;> rfl)
theorem intF_eq (op : BinOp) (k : IntKind) (a b : Int) : intF op k a b = intBin op k a b := by
  cases op <;> simp only [intF, intBin, iWrap_eq, iAdd_eq, iNeg_eq, iMul_eq, iEq_eq, iLt_eq]
  · rfl
  · rfl
  · congr 2; rw [Bool.eq_iff_iff]; simp
  · congr 2; rw [Bool.eq_iff_iff]; simp
theorem aBinOp_eq (P : Program) (op : BinOp) (t : TypeId) (x y : Value) : aBinOp P op t x y = aBinOp0 P op t x y := by
  cases x with
  | int k a =>
    cases y with
    | int k' b => cases op <;> simp only [aBinOp, aBinOp0, kN_eq, intF_eq]
    | _ => rfl
  | _ => rfl
def aUnOp (op : UnOp) : Value → Option Value
  | .int k n => match op with
    | .neg => some (.int k (k.wrap (0 - n)))
    | .xor => intBin .xor k (if k.signed then -1 else k.max) n
    | _ => none
  | .bool b => match op with
    | .not => some (.bool !b)
    | _ => none
  | _ => none
def aConvert (P : Program) (_src dst : TypeId) (x : Value) : Option Value :=
  match P.underlying dst, x with
  | some (.int k), .int _ n => some (.int k (k.wrap n))
  | some .string, .string s => some (.string s)
  | _, _ => none
def aNilCheck : Value → Option Value
  | .pointer (some a) => some (.pointer (some a))
  | .func (.func f) a b => some (.func (.func f) a b)
  | .func (.yield l) a b => some (.func (.yield l) a b)
  | _ => none
def placeOf (P : Program) (t : TypeId) : Option (Nat → Option (Nat × Nat)) :=
  match P.underlying t with
  | some (.struct fs) => cond (fs.toList.all fun f => (sizeT P f.type).isSome) (some fun i => (fs[i]?).bind fun f => (sizeT P f.type).bind fun z => some (f.offset, z)) none
  | some (.array _ e) => (sizeT P e).bind fun z => some fun i => some (i * z, z)
  | _ => none
def fillL (place : Nat → Option (Nat × Nat)) : List Value → List (Nat × Value) → Option (List Value)
  | cs, [] => some cs
  | cs, (i, v) :: rest => (place i).bind fun p =>
      cond (Nat.beq v.cells.size p.2 && Nat.ble (p.1 + p.2) cs.length) (fillL place (splice cs p.1 v.cells.toList) rest) none
def evalPs (tm : Tm) : List (Nat × Operand) → Option (List (Nat × Value))
  | [] => some []
  | (i, x) :: xs => (evalO tm x).bind fun v => (evalPs tm xs).bind fun vs => some ((i, v) :: vs)
def aBuild (P : Program) (t : TypeId) (ps : List (Nat × Value)) : Option Value :=
  (zeroT P t).bind fun z => cond (plainL z) ((placeOf P t).bind fun pl => (fillL pl z.cells.toList ps).bind fun cs => some (.agg cs.toArray)) none
def zeros (z : List Value) : Nat → List Value
  | 0 => []
  | n + 1 => z ++ zeros z n
def elemT (P : Program) (t : TypeId) : Option TypeId :=
  match P.underlying t with
  | some (.slice e) => some e
  | _ => none
def aBuildSlice (P : Program) (t : TypeId) (len : Nat) (ps : List (Nat × Value)) : Option (List Value) :=
  (elemT P t).bind fun e => (sizeT P e).bind fun z => (zeroT P e).bind fun zv =>
    cond (Nat.ble (len * z) 16777216 && plainL zv && Nat.beq zv.cells.size z) (fillL (fun i => some (i * z, z)) (zeros zv.cells.toList len) ps) none
def aMakeSlice (P : Program) (t : TypeId) (l c : Value) : Option (List Value × Nat × Nat) :=
  (elemT P t).bind fun e => (sizeT P e).bind fun z => (bytesT P e).bind fun by' => (zeroT P e).bind fun zv =>
    (aInt l).bind fun l => (aInt c).bind fun c =>
      cond (decide (0 ≤ l) && decide (l ≤ c) && decide ((by' : Int) * c ≤ 281474976710656) && decide (c ≤ 281474976710656) && plainL zv && Nat.beq zv.cells.size z)
        (some (zeros zv.cells.toList c.toNat, l.toNat, c.toNat)) none
def mapT (P : Program) (t : TypeId) : Option (TypeId × TypeId) :=
  match P.underlying t with
  | some (.map k e) => some (k, e)
  | _ => none
def keyOk (P : Program) : Nat → TypeId → Value → Bool
  | 0, _, _ => false
  | d + 1, t, v =>
    match P.underlying t, v with
    | some (.int _), .int _ _ => true
    | some .string, .string _ => true
    | some .bool, .bool _ => true
    | some (.array len e), .agg cs =>
      match sizeT P e with
      | some n => (List.range len).all fun i => match aPart P e cs.toList (i * n) with
        | some x => keyOk P d e x
        | none => false
      | none => false
    | some (.struct fs), .agg cs => fs.toList.all fun f => f.name == "_" || match aPart P f.type cs.toList f.offset with
        | some x => keyOk P d f.type x
        | none => false
    | _, _ => false
def findM (P : Program) (kt : TypeId) (k : Value) : List (Value × Value) → Nat → Option (Option (Nat × Value))
  | [], _ => some none
  | (a, v) :: es, i => (aEq P eqDepth kt k a).bind fun b => cond b (some (some (i, v))) (findM P kt k es (i + 1))
def aLookup (P : Program) (h : H) (t : TypeId) (m k : Value) (ok : Bool) : Option Value :=
  (mapT P t).bind fun ke => cond (keyOk P eqDepth ke.1 k) ((zeroT P ke.2).bind fun z => cond (plainL z)
    ((match m with
      | .map none => some ([] : List (Value × Value))
      | .map (some i) => match HeapC.get h i with
        | some (.map es) => some es
        | _ => none
      | _ => none).bind fun es => (findM P ke.1 k es 0).bind fun r =>
        match r with
        | some (_, v) => some (cond ok (.tuple #[v, .bool true]) v)
        | none => some (cond ok (.tuple #[z, .bool false]) z)) none) none
def aMapUpdate (P : Program) (h : H) (t : TypeId) (m k v : Value) : Option H :=
  (mapT P t).bind fun ke => cond (keyOk P eqDepth ke.1 k && plainL k)
    (match m with
      | .map (some i) => match HeapC.get h i with
        | some (.map es) => (findM P ke.1 k es 0).bind fun r =>
          match r with
          | some (j, _) => match es[j]? with
            | some (old, _) => cond (plainL old && Instr.sameBits 10000 old k) (some (HeapC.set h i (.map (es.set j (k, v))))) none
            | none => none
          | none => some (HeapC.set h i (.map (es ++ [(k, v)])))
        | _ => none
      | _ => none) none
def aLen (P : Program) (h : H) (t : TypeId) (x : Value) : Option Value :=
  match P.underlying t, x with
  | some .string, .string s => some (goInt s.size)
  | some (.array n _), _ => some (goInt n)
  | some (.slice _), .slice _ n _ => some (goInt n)
  | some (.map _ _), .map none => some (goInt 0)
  | some (.map _ _), .map (some i) => match HeapC.get h i with
    | some (.map es) => some (goInt es.length)
    | _ => none
  | _, _ => none
def max2 : Value → Value → Option Value
  | .int k x, .int k' y => cond (decide (k = k')) (some (.int k (if y > x then y else x))) none
  | _, _ => none
def min2 : Value → Value → Option Value
  | .int k x, .int k' y => cond (decide (k = k')) (some (.int k (if y < x then y else x))) none
  | _, _ => none
def foldV (f : Value → Value → Option Value) : List Value → Option Value
  | [] => none
  | x :: rest => rest.foldlM f x
def srcCells (h : H) (sz : Nat) (x : Value) : Option (List Value × Nat) :=
  match x with
  | .slice none n _ => cond (Nat.beq n 0) (some ([], 0)) none
  | .slice (some ⟨i, o, none⟩) n _ => (rdCells h i o (n * sz)).bind fun cs => some (cs, n)
  | .string s => cond (Nat.beq sz 1) (some (s.data.toList.map fun b => .int .u8 b.toNat, s.size)) none
  | _ => none
def appGrow (h : H) (id sz by' : Nat) (base : Option Addr) (len need : Nat) (new : List Value) : Option (Value × H) :=
  cond (Nat.ble (need * (by' + 1)) 17592186044416 && new.all isFlat)
    (match base with
    | none => cond (Nat.beq len 0) (some (.slice (some ⟨id, 0, none⟩) need need, HeapC.set h id (.cells false (some sz) new))) none
    | some ⟨i, o, none⟩ => (rdCells h i o (len * sz)).bind fun old =>
      match HeapC.get h i with
      | some (.cells ro opn _) =>
        match opn with
        | none => some (.slice (some ⟨id, 0, none⟩) need need, HeapC.set h id (.cells false (some sz) (old ++ new)))
        | some e => cond (Nat.beq e sz && !ro) (some (.slice (some ⟨id, 0, none⟩) need need, HeapC.set (HeapC.set h i .dead) id (.cells false (some sz) (old ++ new)))) none
      | _ => none
    | _ => none) none
def appTo (h : H) (id sz by' : Nat) (s : Value) (new : List Value) (n : Nat) : Option (Value × H) :=
  match s with
  | .slice base len cap =>
    cond (Nat.ble (len + n) cap)
      (match base with
       | some ⟨i, o, none⟩ => cond (Nat.beq new.length 0) (some (.slice base (len + n) cap, h)) ((wrCells h i (o + len * sz) new).bind fun h' => some (.slice base (len + n) cap, h'))
       | none => cond (Nat.beq new.length 0) (some (.slice base (len + n) cap, h)) none
       | _ => none)
      (appGrow h id sz by' base len (len + n) new)
  | _ => none
def isIntT (P : Program) (t : TypeId) : Bool :=
  match P.underlying t with
  | some (.int _) => true
  | _ => false
def aAppend (P : Program) (h : H) (id : Nat) (ts : List TypeId) (args : List Value) : Option (Value × H) :=
  match ts, args with
  | st :: rest, [s, x] =>
    (elemT P st).bind fun e => (sizeT P e).bind fun sz => (bytesT P e).bind fun by' => (zeroT P e).bind fun z =>
      cond (plainL z && Nat.beq z.cells.size sz)
      (match rest with
      | [xt] => (P.underlying xt).bind fun xd => cond (isIntT P xt)
          ((aInt x).bind fun n => cond (decide (0 ≤ n) && decide (n * (by' : Int) ≤ 17592186044416) && decide (n ≤ 17592186044416))
            (appTo h id sz by' s (zeros z.cells.toList n.toNat) n.toNat) none)
          ((srcCells h sz x).bind fun r => appTo h id sz by' s r.1 r.2)
      | _ => none) none
  | _, _ => none
def aCopy (P : Program) (h : H) (ts : List TypeId) (args : List Value) : Option (Value × H) :=
  match ts, args with
  | dt :: _, [.slice base dl _, .slice sb sl sc] =>
    (elemT P dt).bind fun e => (sizeT P e).bind fun sz =>
      match base with
      | none => cond (Nat.beq dl 0) (some (goInt 0, h)) none
      | some ⟨i, o, none⟩ => (srcCells h sz (.slice sb (Nat.min sl dl) sc)).bind fun r => (wrCells h i o r.1).bind fun h' => some (goInt (Nat.min sl dl), h')
      | _ => none
  | _, _ => none
def aClear (P : Program) (h : H) (ts : List TypeId) (args : List Value) : Option (Value × H) :=
  match ts, args with
  | t :: _, [x] =>
    match x with
    | .slice none _ _ => some (.tuple #[], h)
    | .slice (some ⟨i, o, none⟩) n _ => (elemT P t).bind fun e => (sizeT P e).bind fun sz => (zeroT P e).bind fun z =>
        cond (plainL z && Nat.beq z.cells.size sz) ((wrCells h i o (zeros z.cells.toList n)).bind fun h' => some (.tuple #[], h')) none
    | _ => none
  | _, _ => none
def nodupB : List Nat → Bool
  | [] => true
  | x :: xs => !(xs.any (Nat.beq x)) && nodupB xs
def callV (o : Orc H) (h : H) (c : Nat) (fv : Value) (args : List Value) : Option (Value × H × Nat) :=
  match fv with
  | .func (.func g) first cap =>
    (o (.fn g) (first.toList ++ args ++ cap.toList) h c []).bind fun r =>
      match r.vs with
      | [v] => some (v, r.h, r.c)
      | _ => none
  | .func (.yield l) first cap =>
    cond (Nat.beq first.size 0 && Nat.beq cap.size 0)
      (match HeapC.get h l with
       | some (.loop st) =>
         cond (decide (st.state = .ready) && Nat.beq args.length st.params.length && nodupB st.params && st.params.all (Nat.blt · st.nt))
           ((o (.rnd st.nt st.lin st.fr st.params l st.assign st.body) (args ++ st.vals) h c []).bind fun r =>
             match r.vs with
             | [v] => some (v, r.h, r.c)
             | _ => none) none
       | _ => none) none
  | _ => none
def aBuiltin (P : Program) (h : H) (id : Nat) (b : Builtin) (ts : List TypeId) (args : List Value) : Option (Value × H) :=
  match b with
  | .len => match ts, args with
    | t :: _, x :: _ => (aLen P h t x).bind fun v => some (v, h)
    | _, _ => none
  | .max => (foldV max2 args).bind fun v => some (v, h)
  | .min => (foldV min2 args).bind fun v => some (v, h)
  | .append => aAppend P h id ts args
  | .copy => aCopy P h ts args
  | .clear => match ts with
    | t :: _ => (P.underlying t).bind fun _ => aClear P h ts args
    | [] => none
  | _ => none
def wantedA (ops : Array Oper) (tm : Tm) (o : Oper) : Option Bool :=
  match o.guard with
  | none => some true
  | some (j, want) => ((ops[j]?).bind (·.dst)).bind fun d => (tm d).bind fun v =>
    match v with
    | .bool b => some (b == want)
    | _ => some false
def optO (tm : Tm) : Option Operand → Option (Option Value)
  | none => some none
  | some x => (evalO tm x).bind fun v => some (some v)
def ret1 (h : H) (c : Nat) (v : Option Value) : Option (Value × H × Nat) := v.bind fun v => some (v, h, c)
def doOp (P : Program) (o : Orc H) (id : Nat) (tm : Tm) (h : H) (c : Nat) (op : Op) : Option (Value × H × Nat) :=
  match op with
  | .move x | .assign x => ret1 h c (evalO tm x)
  | .pick k a b => (evalO tm k).bind fun kv => (evalO tm a).bind fun av => (evalO tm b).bind fun bv =>
      match kv with
      | .bool t => some (cond t av bv, h, c)
      | _ => none
  | .alloc t => (zeroT P t).bind fun z => cond (plainL z) (some (ptrTo id, newB h id z.cells.toList, c)) none
  | .box _ x => (evalO tm x).bind fun v => cond (v.cells.toList.all isFlat) (some (ptrTo id, newB h id v.cells.toList, c)) none
  | .build t ps => (evalPs tm ps.toList).bind fun vs => ret1 h c (aBuild P t vs)
  | .buildSlice t len ps => (evalPs tm ps.toList).bind fun vs => (aBuildSlice P t len vs).bind fun cs =>
      some (.slice (some ⟨id, 0, none⟩) len len, newB h id cs, c)
  | .load t a => (evalO tm a).bind fun p => ret1 h c (aLoad P h t p)
  | .store t a x => (evalO tm a).bind fun p => (evalO tm x).bind fun v => (aStore P h t p v).bind fun h' => some (.tuple #[], h', c)
  | .nilCheck x => (evalO tm x).bind fun v => ret1 h c (aNilCheck v)
  | .binOp bo t x y _ => (evalO tm x).bind fun a => (evalO tm y).bind fun b => ret1 h c (aBinOp P bo t a b)
  | .unOp u _ x => (evalO tm x).bind fun a => ret1 h c (aUnOp u a)
  | .convert s d x => (P.underlying s).bind fun _ => (evalO tm x).bind fun a => ret1 h c (aConvert P s d a)
  | .sliceToArrayPointer t x => (evalO tm x).bind fun a => ret1 h c (aArrPtr P t a)
  | .makeInterface t x => (evalO tm x).bind fun a => match P.underlying t with
      | some (.interface _) | none => none
      | some _ => some (.iface t a, h, c)
  | .makeFunc fn first cap => match fn with
      | .func g => (evalOs tm first.toList).bind fun f => (evalOs tm cap.toList).bind fun k => some (.func (.func g) f.toArray k.toArray, h, c)
      | _ => none
  | .makeMap t r => match r with
      | none => some (.map (some id), HeapC.set h id (.map []), c)
      | some x => (mapT P t).bind fun _ => (evalO tm x).bind fun v => (aInt v).bind fun _ => some (.map (some id), HeapC.set h id (.map []), c)
  | .makeSlice t l k => (evalO tm l).bind fun lv => (evalO tm k).bind fun kv => (aMakeSlice P t lv kv).bind fun r =>
      some (.slice (some ⟨id, 0, none⟩) r.2.1 r.2.2, newB h id r.1, c)
  | .slice t x lo hi mx => (evalO tm x).bind fun v => (optO tm lo).bind fun l => (optO tm hi).bind fun hh => (optO tm mx).bind fun m => ret1 h c (aSlice P h t v l hh m)
  | .fieldAddr t x f => (evalO tm x).bind fun p => ret1 h c (aFieldAddr P t p f)
  | .field t x f => (evalO tm x).bind fun v => ret1 h c (aField P t v f)
  | .indexAddr t x i => (evalO tm x).bind fun v => (evalO tm i).bind fun k => ret1 h c (aIndexAddr P t v k)
  | .index t x i => (evalO tm x).bind fun v => (evalO tm i).bind fun k => ret1 h c (aIndex P t v k)
  | .lookup t m k ok => (evalO tm m).bind fun mv => (evalO tm k).bind fun kv => ret1 h c (aLookup P h t mv kv ok)
  | .mapUpdate t m k v | .insert t m k v => (evalO tm m).bind fun mv => (evalO tm k).bind fun kv => (evalO tm v).bind fun vv =>
      (aMapUpdate P h t mv kv vv).bind fun h' => some (.tuple #[], h', c)
  | .extract t i => (evalO tm t).bind fun v => match v with
      | .tuple vs => (vs[i]?).bind fun x => some (x, h, c)
      | _ => none
  | .call k => (evalOs tm k.args.toList).bind fun args =>
      match k.callee with
      | .value f => (evalO tm f).bind fun fv => callV o h c fv args
      | .builtin b => (aBuiltin P h id b k.argTypes.toList args).bind fun r => some (r.1, r.2, c)
      | .invoke _ _ => none
  | _ => none
def stepOp (P : Program) (o : Orc H) (ops : Array Oper) (base i nt : Nat) (tm : Tm) (h : H) (c : Nat) (op : Oper) : Option (Value × H × Nat) :=
  (wantedA ops tm op).bind fun w =>
    cond (Nat.blt i 256 && (match op.dst with | some d => Nat.blt d nt | none => true))
      (cond w (doOp P o (256 * base + i) tm h c op.op) (some (undef, h, c))) none
def runOps (P : Program) (o : Orc H) (ops : Array Oper) (base nt : Nat) : List Oper → Nat → Tm → H → Nat → Option (Tm × H × Nat)
  | [], _, tm, h, c => some (tm, h, c)
  | op :: rest, i, tm, h, c => (stepOp P o ops base i nt tm h c op).bind fun r => runOps P o ops base nt rest (i + 1) (putT tm op.dst r.1) r.2.1 r.2.2
def cls : Op → Nat
  | .move _ | .assign _ | .pick .. | .build .. | .nilCheck _ | .binOp .. | .unOp .. | .convert .. | .sliceToArrayPointer .. | .makeInterface ..
  | .makeFunc .. | .fieldAddr .. | .field .. | .indexAddr .. | .index .. | .extract .. => 0
  | .load .. | .lookup .. | .slice .. => 1
  | .alloc _ | .box .. | .buildSlice .. | .makeMap .. | .makeSlice .. => 2
  | .call { callee := .builtin .len, .. } => 1
  | .call { callee := .builtin .max, .. } | .call { callee := .builtin .min, .. } => 0
  | _ => 3
def maskOf (acc : List Nat) (o : Oper) : Nat :=
  o.after.toList.foldl (fun s e => cond (Region.binds .any e) (s ||| (2 ^ e.on) ||| acc.getD e.on 0) s) 0
def masks : List Oper → List Nat → List Nat
  | [], acc => acc
  | o :: rest, acc => masks rest (acc ++ [maskOf acc o])
def tmpsOf (ops : Array Oper) (o : Oper) : List Nat :=
  (o.op.operands.toList.filterMap fun | .tmp t => some t | _ => none) ++
  (match o.guard with
   | some (g, _) => ((ops[g]?).bind (·.dst)).toList
   | none => [])
def touch (ops : Array Oper) (a b : Oper) : Bool :=
  match a.dst with
  | some d => (tmpsOf ops b).contains d || b.dst == some d
  | none => false
def pairOk (ops : Array Oper) (ms : List Nat) (i j : Nat) : Bool :=
  match ops[i]?, ops[j]? with
  | some a, some b => (ms.getD j 0).testBit i || (!(touch ops a b) && !(touch ops b a) && !(Nat.beq (cls a.op) 3 && Nat.beq (cls b.op) 3))
  | _, _ => true
def below (n : Nat) (p : Nat → Bool) : Bool := Nat.rec true (fun k ih => p k && ih) n
def edgesOk : List Oper → Nat → Bool
  | [], _ => true
  | o :: rest, i => (o.after.toList.all fun e => !(Region.binds .any e) || Nat.blt e.on i) && edgesOk rest (i + 1)
def regOk (ops : Array Oper) : Bool :=
  edgesOk ops.toList 0 && below ops.size fun j => below j fun i => pairOk ops (masks ops.toList []) i j
def lws (ops : Array Oper) : List (Nat × Nat) :=
  (List.range ops.size).flatMap fun i => (List.range ops.size).filterMap fun j =>
    match ops[i]?, ops[j]? with
    | some a, some b => cond (Nat.beq (cls a.op) 1 && Nat.beq (cls b.op) 3 && !(((masks ops.toList []).getD j 0).testBit i) && !(((masks ops.toList []).getD i 0).testBit j)) (some (i, j)) none
    | _, _ => none
def ridV : Value → Option Nat
  | .pointer (some ⟨i, _, _⟩) => some i
  | .map (some i) => some i
  | .slice (some ⟨i, _, _⟩) _ _ => some i
  | _ => none
def ridOf (tm : Tm) : Op → Option Nat
  | .load _ a => (evalO tm a).bind ridV
  | .lookup _ m _ _ => (evalO tm m).bind ridV
  | .slice _ x _ _ _ => (evalO tm x).bind ridV
  | .call { callee := .builtin .len, args, .. } => (args[0]?).bind fun x => (evalO tm x).bind ridV
  | _ => none
def rid (ops : Array Oper) (tm : Tm) (o : Oper) : Option Nat :=
  match wantedA ops tm o with
  | some true => ridOf tm o.op
  | _ => none
def runOpsT (P : Program) (o : Orc H) (ops : Array Oper) (base nt : Nat) : List Oper → Nat → Tm → H → Nat → Option (Tm × H × Nat × List (Option Nat × H))
  | [], _, tm, h, c => some (tm, h, c, [(none, h)])
  | op :: rest, i, tm, h, c => (stepOp P o ops base i nt tm h c op).bind fun r =>
      (runOpsT P o ops base nt rest (i + 1) (putT tm op.dst r.1) r.2.1 r.2.2).bind fun q => some (q.1, q.2.1, q.2.2.1, (rid ops tm op, h) :: q.2.2.2)
def lwOk (tr : List (Option Nat × H)) (p : Nat × Nat) : Bool :=
  match tr[p.1]? with
  | some (some x, _) => match tr[p.2]?, tr[p.2 + 1]? with
    | some (_, h1), some (_, h2) => HeapC.eqB H (HeapC.get h1 x) (HeapC.get h2 x)
    | _, _ => false
  | _ => true
def runReg (P : Program) (o : Orc H) (ops : Array Oper) (draw : Bool) (nt : Nat) (tm : Tm) (h : H) (c : Nat) : Option (Tm × H × Nat) :=
  cond draw
    (cond (regOk ops)
      (cond (lws ops).isEmpty (runOps P o ops c nt ops.toList 0 tm h (c + 1))
        ((runOpsT P o ops c nt ops.toList 0 tm h (c + 1)).bind fun q => cond ((lws ops).all (lwOk q.2.2.2)) (some (q.1, q.2.1, q.2.2.1)) none)) none)
    (runOps P o ops c nt ops.toList 0 tm h (c + 1))
def dropB (tm : Tm) (h : H) (t : Nat) : H :=
  match tm t with
  | some (.pointer (some ⟨i, 0, none⟩)) => match HeapC.get h i with
    | some (.cells false none _) => HeapC.del h i
    | _ => h
  | _ => h
def dropBs (tm : Tm) (h : H) : List Nat → H
  | [] => h
  | t :: ts => dropBs tm (dropB tm h t) ts
def jumpOf : Ex → Option Code
  | .normal => none
  | .ret => some .ret
  | .exit id => some (.exit id)
def exOf : Option Code → Option Ex
  | none => some .normal
  | some .ret => some .ret
  | some (.exit id) => some (.exit id)
  | _ => none
def enterDfr (h : H) (c : Nat) : Option Nat → Option (H × Nat)
  | none => some (HeapC.set h (256 * c + 1) .dfr, 256 * c + 1)
  | some l => match HeapC.get h l with
    | some (.loop st) => some (h, st.dfr)
    | _ => none
def execRange (o : Orc H) (s : St H) (lin fr : List Nat) (f : Operand) (params : Array Tmp) (assign body : ACode) : Option (Ex × St H) :=
  (evalO s.tm f).bind fun fv =>
    match fv with
    | .func (.func g) first cap =>
      (vals s.tm lin).bind fun vs => (enterDfr s.h s.c s.rd).bind fun hd =>
        (o (.fn g) (first.toList ++ [.func (.yield (256 * s.c)) #[] #[]] ++ cap.toList)
          (HeapC.set hd.1 (256 * s.c) (.loop { state := .ready, pending := none, nt := s.nt, vals := vs, lin := lin, fr := fr, params := params.toList, assign := assign, body := body, dfr := hd.2 }))
          (s.c + 1) []).bind fun r =>
          match HeapC.get r.h (256 * s.c) with
          | some (.loop st) => cond (decide (st.state = .busy)) none ((exOf st.pending).bind fun e =>
              some (e, { s with h := HeapC.del r.h (256 * s.c), c := r.c, df := (match s.rd with | none => hd.2 :: s.df | some _ => s.df) }))
          | _ => none
    | _ => none
def exec (P : Program) (o : Orc H) : ACode → St H → Option (Ex × St H)
  | .skip, s => some (.normal, s)
  | .region _ ops draw, s => (runReg P o ops draw s.nt s.tm s.h s.c).bind fun r => some (.normal, { s with tm := r.1, h := r.2.1, c := r.2.2 })
  | .seq a b, s => (exec P o a s).bind fun r =>
      match r.1 with
      | .normal => exec P o b r.2
      | e => some (e, r.2)
  | .cond c a b, s => (evalO s.tm c).bind fun v =>
      match v with
      | .bool t => cond t (exec P o a s) (exec P o b s)
      | _ => none
  | .block id b, s => (exec P o b s).bind fun r =>
      match r.1 with
      | .exit id' => some (cond (Nat.beq id' id) .normal (.exit id'), r.2)
      | e => some (e, r.2)
  | .loop j lin fr _ b, s => (vals s.tm lin).bind fun vs =>
      (o (.lp j lin fr b s.nt s.rd) vs s.h s.c s.df).bind fun r => some (r.e, { s with tm := tmOf lin r.vs, h := r.h, c := r.c, df := r.df })
  | .rangeFunc _ lin fr _ f ps a b, s => execRange o s lin fr f ps a b
  | .exit id, s => some (.exit id, s)
  | .ret, s => some (.ret, s)
  | .bad _, _ => none
  | .join _ a, s => exec P o a s
structure AFun where
  code : ACode
  nt : Nat
  res : List ResultVar
  fr : List Nat
structure Ann where
  loops : Nat → List Nat × List Nat
  fr : List Nat
def resOf (P : Program) (tm : Tm) (h : H) : List ResultVar → Option (List Value)
  | [] => some []
  | .tmp t :: rs => (tm t).bind fun v => (resOf P tm h rs).bind fun vs => some (v :: vs)
  | .cell a t :: rs => (tm a).bind fun p => (aLoad P h t p).bind fun v => (resOf P tm h rs).bind fun vs => some (v :: vs)
def tup : List Value → Value
  | [v] => v
  | vs => .tuple vs.toArray
def takeAll (h : H) : List Nat → Option H
  | [] => some h
  | d :: ds => match HeapC.get h d with
    | some .dfr => takeAll (HeapC.del h d) ds
    | _ => none
def setState (h : H) (l : Nat) (st : LoopState) (pd : Option Code) : Option H :=
  match HeapC.get h l with
  | some (.loop r) => some (HeapC.set h l (.loop { r with state := st, pending := pd }))
  | _ => none
def beginSt (h : H) (l : Nat) : Option H :=
  match HeapC.get h l with
  | some (.loop r) => cond (decide (r.state = .ready)) (some (HeapC.set h l (.loop { r with state := .busy }))) none
  | _ => none
def answer (P : Program) (bk : FuncId → Option AFun) (o : Orc H) : Orc H
  | .fn f, args, h, c, _ => (bk f).bind fun a => cond (Nat.ble args.length a.nt)
      ((exec P o a.code { tm := tmOf (List.range args.length) args, h := h, c := c, nt := a.nt, df := [], rd := none }).bind fun r =>
        match r.1 with
        | .exit _ => none
        | _ => (takeAll r.2.h r.2.df).bind fun h1 => (resOf P r.2.tm h1 a.res).bind fun vs =>
          some { e := .ret, vs := [tup vs], h := dropBs r.2.tm h1 a.fr, c := r.2.c, df := [] }) none
  | .lp j lin fr b nt rd, vs, h, c, df =>
      (exec P o b { tm := tmOf lin vs, h := h, c := c, nt := nt, df := df, rd := rd }).bind fun r =>
        (vals r.2.tm lin).bind fun vs' =>
          match r.1 with
          | .normal => o (.lp j lin fr b nt rd) vs' (dropBs r.2.tm r.2.h fr) r.2.c r.2.df
          | e => some { e := e, vs := vs', h := dropBs r.2.tm r.2.h fr, c := r.2.c, df := r.2.df }
  | .rnd nt lin fr params l a b, vs, h, c, _ =>
      (exec P o a { tm := tmOf (params ++ lin) vs, h := h, c := c, nt := nt, df := [], rd := some l }).bind fun r =>
        match r.1 with
        | .normal => (beginSt r.2.h l).bind fun h1 =>
            (exec P o b { r.2 with h := h1 }).bind fun q =>
              (setState (dropBs q.2.tm q.2.h fr) l (cond (jumpOf q.1).isNone .ready .done) (jumpOf q.1)).bind fun h2 =>
                cond (q.2.df.isEmpty) (some { e := .ret, vs := [.bool (jumpOf q.1).isNone], h := h2, c := q.2.c, df := [] }) none
        | _ => none
def orc (P : Program) (bk : FuncId → Option AFun) : Nat → Orc H
  | 0 => fun _ _ _ _ _ => none
  | n + 1 => answer P bk (orc P bk n)
def BookOK (P : Program) (bk : FuncId → Option AFun) : Prop :=
  ∀ f a, bk f = some a → ∃ fn c, P.funcs[f]? = some fn ∧ fn.body = some c ∧ (fn.name == "runtime.NumGoroutine") = false ∧ strip a.code = c ∧ a.nt = fn.ntmps ∧ a.res = fn.results.toList
end Go.Ab

namespace Go.Ab
open Go
structure ME where
  b : Nat
  s : Nat
  opn : Option (Nat × Nat)
abbrev Mu := Nat → Option ME
inductive VR (μ : Mu) : Value → Value → Prop
  | bool (b : Bool) : VR μ (.bool b) (.bool b)
  | int (k : IntKind) (n : Int) : VR μ (.int k n) (.int k n)
  | str (s : ByteArray) : VR μ (.string s) (.string s)
  | ptr0 : VR μ (.pointer none) (.pointer none)
  | ptr {i o : Nat} {m : ME} (h : μ i = some m) : VR μ (.pointer (some ⟨i, o, none⟩)) (.pointer (some ⟨m.b, m.s + o, none⟩))
  | sl0 (l c : Nat) : VR μ (.slice none l c) (.slice none l c)
  | sl {i o l c c' : Nat} {m : ME} (h : μ i = some m) (hc : c ≤ c') (hz : c = c' ∨ ∃ e Z, m.opn = some (e, Z) ∧ m.s + o + c' * e ≤ Z) :
      VR μ (.slice (some ⟨i, o, none⟩) l c) (.slice (some ⟨m.b, m.s + o, none⟩) l c')
  | slE {i o x : Nat} {m : ME} (h : μ i = some m) : VR μ (.slice (some ⟨i, o, none⟩) 0 0) (.slice (some ⟨m.b, x, none⟩) 0 0)
  | map0 : VR μ (.map none) (.map none)
  | map {i : Nat} {m : ME} (h : μ i = some m) : VR μ (.map (some i)) (.map (some m.b))
  | nilFunc : VR μ .nilFunc .nilFunc
  | nilIface : VR μ .nilIface .nilIface
  | iface (t : TypeId) {v v' : Value} (h : VR μ v v') : VR μ (.iface t v) (.iface t v')
  | agg {xs ys : Array Value} (hs : xs.size = ys.size) (h : ∀ (k : Nat) (x y : Value), xs[k]? = some x → ys[k]? = some y → VR μ x y) : VR μ (.agg xs) (.agg ys)
  | tuple {xs ys : Array Value} (hs : xs.size = ys.size) (h : ∀ (k : Nat) (x y : Value), xs[k]? = some x → ys[k]? = some y → VR μ x y) : VR μ (.tuple xs) (.tuple ys)
  | fnc (f : FuncId) {avs avs' bs bs' : Array Value} (ha : avs.size = avs'.size) (hb : bs.size = bs'.size)
      (h1 : ∀ (k : Nat) (x y : Value), avs[k]? = some x → avs'[k]? = some y → VR μ x y)
      (h2 : ∀ (k : Nat) (x y : Value), bs[k]? = some x → bs'[k]? = some y → VR μ x y) : VR μ (.func (.func f) avs bs) (.func (.func f) avs' bs')
  | yield {l : Nat} {m : ME} (h : μ l = some m) : VR μ (.func (.yield l) #[] #[]) (.func (.yield m.b) #[] #[])
def VRs (μ : Mu) (xs ys : List Value) : Prop := xs.length = ys.length ∧ ∀ (k : Nat) (x y : Value), xs[k]? = some x → ys[k]? = some y → VR μ x y
theorem VRs.nil (μ : Mu) : VRs μ [] [] := ⟨rfl, by simp⟩
theorem VRs.cons {μ : Mu} {x y : Value} {xs ys : List Value} (h : VR μ x y) (hs : VRs μ xs ys) : VRs μ (x :: xs) (y :: ys) := by
  refine ⟨by simp [hs.1], fun k a b ha hb => ?_⟩
  cases k with
  | zero => simp at ha hb; subst ha; subst hb; exact h
  | succ k => simp at ha hb; exact hs.2 k a b ha hb
theorem VRs.head {μ : Mu} {x y : Value} {xs ys : List Value} (h : VRs μ (x :: xs) (y :: ys)) : VR μ x y := h.2 0 x y (by simp) (by simp)
theorem VRs.tail {μ : Mu} {x y : Value} {xs ys : List Value} (h : VRs μ (x :: xs) (y :: ys)) : VRs μ xs ys :=
  ⟨by simpa using h.1, fun k a b ha hb => h.2 (k + 1) a b (by simpa using ha) (by simpa using hb)⟩
theorem VRs.left {μ : Mu} {x : Value} {xs ys : List Value} (h : VRs μ (x :: xs) ys) : ∃ y zs, ys = y :: zs ∧ VR μ x y ∧ VRs μ xs zs := by
  cases ys with
  | nil => exact absurd h.1 (by simp)
  | cons y zs => exact ⟨y, zs, rfl, h.head, h.tail⟩
theorem VRs.nil_left {μ : Mu} {ys : List Value} (h : VRs μ [] ys) : ys = [] := by
  cases ys with
  | nil => rfl
  | cons y zs => exact absurd h.1 (by simp)
theorem VRs.append {μ : Mu} {xs ys xs' ys' : List Value} (h : VRs μ xs ys) (h' : VRs μ xs' ys') : VRs μ (xs ++ xs') (ys ++ ys') := by
  induction xs generalizing ys with
  | nil => rw [h.nil_left]; simpa using h'
  | cons x xs ih => obtain ⟨y, zs, rfl, h1, h2⟩ := h.left; exact VRs.cons h1 (ih h2)
theorem VRs.get {μ : Mu} {xs ys : List Value} (h : VRs μ xs ys) {k : Nat} {x : Value} (hx : xs[k]? = some x) : ∃ y, ys[k]? = some y ∧ VR μ x y := by
  have hk : k < xs.length := (List.getElem?_eq_some_iff.1 hx).1
  have hk' : k < ys.length := h.1 ▸ hk
  exact ⟨ys[k], List.getElem?_eq_getElem hk', h.2 k x _ hx (List.getElem?_eq_getElem hk')⟩
theorem VRs.drop {μ : Mu} {xs ys : List Value} (h : VRs μ xs ys) (n : Nat) : VRs μ (xs.drop n) (ys.drop n) :=
  ⟨by simp [h.1], fun k a b ha hb => h.2 (n + k) a b (by simpa using ha) (by simpa using hb)⟩
theorem VRs.take {μ : Mu} {xs ys : List Value} (h : VRs μ xs ys) (n : Nat) : VRs μ (xs.take n) (ys.take n) := by
  refine ⟨by simp [h.1], fun k a b ha hb => ?_⟩
  rw [List.getElem?_take] at ha hb
  split at ha
  · rename_i hk; simp [hk] at hb; exact h.2 k a b ha hb
  · simp at ha
theorem VR.agg_iff {μ : Mu} {xs ys : Array Value} : VR μ (.agg xs) (.agg ys) ↔ VRs μ xs.toList ys.toList := by
  constructor
  · intro h; cases h with
    | agg hs h => exact ⟨by simpa using hs, fun k x y hx hy => h k x y (by simpa using hx) (by simpa using hy)⟩
  · intro h; exact .agg (by simpa using h.1) (fun k x y hx hy => h.2 k x y (by simpa using hx) (by simpa using hy))
theorem VR.tuple_iff {μ : Mu} {xs ys : Array Value} : VR μ (.tuple xs) (.tuple ys) ↔ VRs μ xs.toList ys.toList := by
  constructor
  · intro h; cases h with
    | tuple hs h => exact ⟨by simpa using hs, fun k x y hx hy => h k x y (by simpa using hx) (by simpa using hy)⟩
  · intro h; exact .tuple (by simpa using h.1) (fun k x y hx hy => h.2 k x y (by simpa using hx) (by simpa using hy))
def Mu.le (μ μ' : Mu) : Prop := ∀ i m, μ i = some m → μ' i = some m
theorem VR.mono {μ μ' : Mu} (hm : μ.le μ') {v v' : Value} (h : VR μ v v') : VR μ' v v' := by
  induction h with
  | bool b => exact .bool b
  | int k n => exact .int k n
  | str s => exact .str s
  | ptr0 => exact .ptr0
  | ptr h => exact .ptr (hm _ _ h)
  | sl0 l c => exact .sl0 l c
  | sl h hc hz => exact .sl (hm _ _ h) hc hz
  | slE h => exact .slE (hm _ _ h)
  | map0 => exact .map0
  | map h => exact .map (hm _ _ h)
  | nilFunc => exact .nilFunc
  | nilIface => exact .nilIface
  | iface t _ ih => exact .iface t ih
  | agg hs _ ih => exact .agg hs ih
  | tuple hs _ ih => exact .tuple hs ih
  | fnc f ha hb _ _ ih1 ih2 => exact .fnc f ha hb ih1 ih2
  | yield h => exact .yield (hm _ _ h)
theorem VRs.mono {μ μ' : Mu} (hm : μ.le μ') {xs ys : List Value} (h : VRs μ xs ys) : VRs μ' xs ys := ⟨h.1, fun k x y hx hy => (h.2 k x y hx hy).mono hm⟩
theorem VR.plain {μ : Mu} {v : Value} (h : plainV v = true) : VR μ v v := by
  cases v with
  | bool b => exact .bool b
  | int k n => exact .int k n
  | string s => exact .str s
  | pointer a => cases a with
    | none => exact .ptr0
    | some a => simp [plainV] at h
  | slice a l c => cases a with
    | none => exact .sl0 l c
    | some a => simp [plainV] at h
  | map r => cases r with
    | none => exact .map0
    | some r => simp [plainV] at h
  | nilFunc => exact .nilFunc
  | nilIface => exact .nilIface
  | _ => simp [plainV] at h
theorem VRs.plain {μ : Mu} {xs : List Value} (h : xs.all plainV = true) : VRs μ xs xs := by
  refine ⟨rfl, fun k x y hx hy => ?_⟩
  rw [hx] at hy
  cases hy
  exact VR.plain (List.all_eq_true.1 h x (List.mem_of_getElem? hx))
theorem VR.plainL {μ : Mu} {v : Value} (h : plainL v = true) : VR μ v v := by
  cases v with
  | agg cs => exact VR.agg_iff.2 (VRs.plain h)
  | _ => exact VR.plain h
theorem VR.flat {μ : Mu} {v v' : Value} (h : VR μ v v') : isFlat v = true → v'.oneCell' = true := by
  cases h <;> simp [isFlat, Value.oneCell']
theorem VR.cells {μ : Mu} {v v' : Value} (h : VR μ v v') : VRs μ v.cells.toList v'.cells.toList := by
  cases h with
  | agg hs h => exact VR.agg_iff.1 (.agg hs h)
  | tuple hs h => exact VRs.cons (.tuple hs h) (VRs.nil μ)
  | bool b => exact VRs.cons (.bool b) (VRs.nil μ)
  | int k n => exact VRs.cons (.int k n) (VRs.nil μ)
  | str s => exact VRs.cons (.str s) (VRs.nil μ)
  | ptr0 => exact VRs.cons .ptr0 (VRs.nil μ)
  | ptr h => exact VRs.cons (.ptr h) (VRs.nil μ)
  | sl0 l c => exact VRs.cons (.sl0 l c) (VRs.nil μ)
  | sl h hc hz => exact VRs.cons (.sl h hc hz) (VRs.nil μ)
  | slE h => exact VRs.cons (.slE h) (VRs.nil μ)
  | map0 => exact VRs.cons .map0 (VRs.nil μ)
  | map h => exact VRs.cons (.map h) (VRs.nil μ)
  | nilFunc => exact VRs.cons .nilFunc (VRs.nil μ)
  | nilIface => exact VRs.cons .nilIface (VRs.nil μ)
  | iface t h => exact VRs.cons (.iface t h) (VRs.nil μ)
  | fnc f ha hb h1 h2 => exact VRs.cons (.fnc f ha hb h1 h2) (VRs.nil μ)
  | yield h => exact VRs.cons (.yield h) (VRs.nil μ)
theorem VRs.flat {μ : Mu} {xs ys : List Value} (h : VRs μ xs ys) (hf : xs.all isFlat = true) : ∀ v ∈ ys, v.oneCell' = true := by
  intro v hv
  obtain ⟨k, hk⟩ := List.getElem?_of_mem hv
  have hlt : k < ys.length := (List.getElem?_eq_some_iff.1 hk).1
  have hlx : k < xs.length := h.1 ▸ hlt
  have hx : xs[k]? = some xs[k] := List.getElem?_eq_getElem hlx
  exact (h.2 k _ v hx hk).flat (List.all_eq_true.1 hf _ (List.mem_of_getElem? hx))
structure TmR (μ : Mu) (tm : Tm) (nt : Nat) (ts : Array Value) : Prop where
  size : ts.size = nt
  val : ∀ t v, tm t = some v → ∃ v', ts[t]? = some v' ∧ VR μ v v'
theorem TmR.mono {μ μ' : Mu} (hm : μ.le μ') {tm : Tm} {nt : Nat} {ts : Array Value} (h : TmR μ tm nt ts) : TmR μ' tm nt ts :=
  ⟨h.size, fun t v e => let ⟨v', a, b⟩ := h.val t v e; ⟨v', a, b.mono hm⟩⟩
theorem TmR.eval {μ : Mu} {tm : Tm} {nt : Nat} {a : Act} (h : TmR μ tm nt a.tmps) {x : Operand} {v : Value} (e : evalO tm x = some v) : VR μ v (a.eval x) := by
  cases x with
  | tmp t =>
    obtain ⟨v', h1, h2⟩ := h.val t v e
    simp only [Act.eval, Array.getD_eq_getD_getElem?, h1]
    exact h2
  | const c =>
    simp only [evalO] at e
    cases hp : plainV c with
    | true => simp [hp] at e; subst e; exact VR.plain hp
    | false => simp [hp] at e
  | global g => simp [evalO] at e
  | func f =>
    simp only [evalO, Option.some.injEq] at e
    subst e
    exact .fnc f rfl rfl (by simp) (by simp)
theorem TmR.evals {μ : Mu} {tm : Tm} {nt : Nat} {a : Act} (h : TmR μ tm nt a.tmps) : ∀ {xs : List Operand} {vs : List Value}, evalOs tm xs = some vs → VRs μ vs (xs.map a.eval)
  | [], vs, e => by simp [evalOs] at e; subst e; exact VRs.nil μ
  | x :: xs, vs, e => by
    simp only [evalOs, Option.bind_eq_some_iff] at e
    obtain ⟨v, hv, ws, hw, e⟩ := e
    cases e
    exact VRs.cons (h.eval hv) (h.evals hw)
theorem TmR.put {μ : Mu} {tm : Tm} {nt : Nat} {a : Act} (h : TmR μ tm nt a.tmps) {dst : Option Tmp} {v v' : Value} (hd : ∀ d, dst = some d → d < nt) (hv : VR μ v v') :
    TmR μ (putT tm dst v) nt (a.put dst v').tmps := by
  cases dst with
  | none => exact h
  | some d =>
    refine ⟨by simp [Act.put, h.size], fun t u e => ?_⟩
    simp only [putT] at e
    simp only [Act.put]
    by_cases hdt : t = d
    · subst hdt
      simp at e
      subst e
      exact ⟨v', by simp [h.size, hd t rfl], hv⟩
    · have hb : Nat.beq t d = false := by rw [Bool.eq_false_iff]; intro hh; exact hdt (Nat.eq_of_beq_eq_true hh)
      simp [hb] at e
      obtain ⟨u', h1, h2⟩ := h.val t u e
      exact ⟨u', by rw [Array.getElem?_setIfInBounds_ne (Ne.symm hdt)]; exact h1, h2⟩
variable {H : Type} [HeapC H]
def wrB : Option ABlk → Bool
  | some (.cells ro _ _) => !ro
  | some .dead | none => false
  | some _ => true
def roB : Option ABlk → Bool
  | some (.cells ro _ _) => ro
  | _ => false
def deadB : Option ABlk → Bool
  | some .dead => true
  | _ => false
def EsR (μ : Mu) (es : List (Value × Value)) (es' : List MapEntry) : Prop :=
  es.length = es'.length ∧ ∀ (k : Nat) (x : Value × Value) (y : MapEntry), es[k]? = some x → es'[k]? = some y → VR μ x.1 y.key ∧ VR μ x.2 y.val
structure LoopR (μ : Mu) (a : ALoop) (r : Loop) : Prop where
  state : r.state = a.state
  pending : r.pending = a.pending
  params : r.params.toList = a.params
  assign : r.assign = strip a.assign
  body : r.body = strip a.body
  size : r.tmps.size = a.nt
  vals : ∀ t v, tmOf a.lin a.vals t = some v → ∃ v', r.tmps[t]? = some v' ∧ VR μ v v'
  dfr : ∃ m, μ a.dfr = some m ∧ m.b = r.defers
def BlkR (μ : Mu) (m : ME) (heap : Array Obj) : Option ABlk → Prop
  | some (.cells ro opn c) => ∃ C E fr, heap[m.b]? = some (.cells C E fr) ∧ (∀ k x, c[k]? = some x → ∃ y, C[m.s + k]? = some y ∧ VR μ x y) ∧
      (ro = false → fr = (0, 0)) ∧ m.opn = opn.map fun e => (e, C.size)
  | some (.map es) => ∃ es' clk, heap[m.b]? = some (.map es' clk) ∧ EsR μ es es'.toList
  | some (.loop a) => ∃ r, heap[m.b]? = some (.loop r) ∧ LoopR μ a r
  | some .dfr => heap[m.b]? = some (.deferred (some []))
  | some .dead | none => True
structure R (μ : Mu) (A : H) (w : World) : Prop where
  blk : ∀ i m, μ i = some m → BlkR μ m w.heap (HeapC.get A i)
  inj : ∀ i j mi mj, μ i = some mi → μ j = some mj → i ≠ j → deadB (HeapC.get A i) = false → deadB (HeapC.get A j) = false →
    ¬ (roB (HeapC.get A i) = true ∧ roB (HeapC.get A j) = true) → mi.b ≠ mj.b
  lt : ∀ i m, μ i = some m → m.b < w.heap.size
structure Ext (μ : Mu) (A : H) (c : Nat) (w : World) (own : Nat → Prop) (μ' : Mu) (A' : H) (c' : Nat) (w' : World) : Prop where
  mu : μ.le μ'
  new : ∀ i, μ i = none → μ' i ≠ none → own i ∨ (256 * c ≤ i ∧ i < 256 * c')
  cle : c ≤ c'
  rel : R μ' A' w'
  af : ∀ i, μ i = none → i < 256 * c → ¬ own i → HeapC.get A' i = HeapC.get A i
  os : w'.os = w.os
  tape : w'.tape = w.tape
  output : w'.output = w.output
  size : w.heap.size ≤ w'.heap.size
  fr : ∀ b, b < w.heap.size → (∀ i m, μ i = some m → wrB (HeapC.get A i) = true → m.b ≠ b) → w'.heap[b]? = w.heap[b]?
  wrm : ∀ i m, μ i = some m → wrB (HeapC.get A' i) = true → wrB (HeapC.get A i) = true
  newb : ∀ i m, μ i = none → μ' i = some m → w.heap.size ≤ m.b ∨ ∃ j mj, μ j = some mj ∧ mj.b = m.b ∧ wrB (HeapC.get A j) = true
  dd : ∀ i m, μ i = some m → deadB (HeapC.get A i) = true → deadB (HeapC.get A' i) = true
theorem Ext.refl {μ : Mu} {A : H} {c : Nat} {w : World} {own : Nat → Prop} (h : R μ A w) : Ext μ A c w own μ A c w where
  mu := fun _ _ e => e
  new := fun i h1 h2 => absurd h1 h2
  cle := Nat.le_refl _
  rel := h
  af := fun _ _ _ _ => rfl
  os := rfl
  tape := rfl
  output := rfl
  size := Nat.le_refl _
  fr := fun _ _ _ => rfl
  wrm := fun _ _ _ h => h
  newb := fun i m h1 h2 => by rw [h1] at h2; cases h2
  dd := fun _ _ _ h => h
theorem Ext.trans {μ μ1 μ2 : Mu} {A A1 A2 : H} {c c1 c2 : Nat} {w w1 w2 : World} {own own' : Nat → Prop}
    (h : Ext μ A c w own μ1 A1 c1 w1) (k : Ext μ1 A1 c1 w1 own' μ2 A2 c2 w2) (ho : ∀ i, own i → i < 256 * c) (ho' : ∀ i, own' i → μ1 i = none ∨ own' i) :
    Ext μ A c w (fun i => own i ∨ own' i) μ2 A2 c2 w2 where
  mu := fun i m e => k.mu i m (h.mu i m e)
  new := fun i h1 h2 => by
    cases e : μ1 i with
    | none =>
      rcases k.new i e h2 with a | ⟨a, b⟩
      · exact .inl (.inr a)
      · exact .inr ⟨by have := h.cle; omega, b⟩
    | some m =>
      rcases h.new i h1 (by rw [e]; simp) with a | ⟨a, b⟩
      · exact .inl (.inl a)
      · exact .inr ⟨a, by have := k.cle; omega⟩
  cle := Nat.le_trans h.cle k.cle
  rel := k.rel
  af := fun i h1 h2 h3 => by
    have e1 := h.af i h1 h2 (fun a => h3 (.inl a))
    cases e : μ1 i with
    | none => rw [k.af i e (by have := h.cle; omega) (fun a => h3 (.inr a)), e1]
    | some m =>
      rcases h.new i h1 (by rw [e]; simp) with a | ⟨a, _⟩
      · exact absurd (.inl a) h3
      · omega
  os := k.os.trans h.os
  tape := k.tape.trans h.tape
  output := k.output.trans h.output
  size := Nat.le_trans h.size k.size
  fr := fun b hb hn => by
    rw [k.fr b (by have := h.size; omega) ?_, h.fr b hb hn]
    intro i m hi hw e
    cases e0 : μ i with
    | some m0 =>
      have := h.mu i m0 e0
      rw [hi] at this
      cases this
      exact hn i m e0 (h.wrm i m e0 hw) e
    | none =>
      rcases h.newb i m e0 hi with a | ⟨j, mj, a, a2, a3⟩
      · omega
      · exact hn j mj a a3 (a2.trans e)
  wrm := fun i m hi hw => h.wrm i m hi (k.wrm i m (h.mu i m hi) hw)
  dd := fun i m hi h0 => k.dd i m (h.mu i m hi) (h.dd i m hi h0)
  newb := fun i m h1 h2 => by
    cases e : μ1 i with
    | some m1 =>
      have := k.mu i m1 e
      rw [h2] at this
      cases this
      exact h.newb i m h1 e
    | none =>
      rcases k.newb i m e h2 with a | ⟨j, mj, a, a2, a3⟩
      · exact .inl (Nat.le_trans h.size a)
      · cases e0 : μ j with
        | some m0 =>
          have := h.mu j m0 e0
          rw [a] at this
          cases this
          exact .inr ⟨j, mj, e0, a2, h.wrm j mj e0 a3⟩
        | none =>
          rcases h.newb j mj e0 a with b | ⟨j', mj', b1, b2, b3⟩
          · exact .inl (by omega)
          · exact .inr ⟨j', mj', b1, b2.trans a2, b3⟩
def Fresh (μ : Mu) (c : Nat) : Prop := ∀ i, 256 * c ≤ i → μ i = none
theorem Ext.fresh {μ μ' : Mu} {A A' : H} {c c' : Nat} {w w' : World} {own : Nat → Prop} (h : Ext μ A c w own μ' A' c' w') (hf : Fresh μ c) (ho : ∀ i, own i → i < 256 * c) : Fresh μ' c' := by
  intro i hi
  cases e : μ' i with
  | none => rfl
  | some m =>
    have e0 := hf i (by have := h.cle; omega)
    rcases h.new i e0 (by rw [e]; simp) with a | ⟨_, a⟩
    · have := ho i a; have := h.cle; omega
    · omega
theorem Ext.weaken {μ μ' : Mu} {A A' : H} {c c' : Nat} {w w' : World} {own own' : Nat → Prop} (h : Ext μ A c w own μ' A' c' w') (ho : ∀ i, own i → own' i) : Ext μ A c w own' μ' A' c' w' :=
  { h with new := fun i a b => (h.new i a b).imp (ho i) id, af := fun i a b d => h.af i a b (fun e => d (ho i e)) }
end Go.Ab

namespace Go.Ab
open Go
set_option linter.unusedVariables false
set_option linter.unusedSimpArgs false
variable {H : Type} [HeapC H] {P : Program} {μ : Mu} {A : H} {w : World}
theorem cond_some {α : Type} {b : Bool} {x : Option α} {v : α} (h : cond b x none = some v) : b = true ∧ x = some v := by
  cases b <;> simp_all
theorem cond_none_some {α : Type} {b : Bool} {x : Option α} {v : α} (h : cond b none x = some v) : b = false ∧ x = some v := by
  cases b <;> simp_all
theorem asPtr_some {v : Value} {a : Nat × Nat} (h : asPtr v = some a) : v = .pointer (some ⟨a.1, a.2, none⟩) := by
  unfold asPtr at h
  split at h
  · cases h; rfl
  · cases h
theorem VR.ptr_inv {i o : Nat} {v' : Value} (h : VR μ (.pointer (some ⟨i, o, none⟩)) v') : ∃ m, μ i = some m ∧ v' = .pointer (some ⟨m.b, m.s + o, none⟩) := by
  cases h with
  | ptr h => exact ⟨_, h, rfl⟩
theorem run_isAgg' {t : TypeId} {b : Bool} (h : isAggT P t = some b) (w : World) : (isAgg t).run P w = .ok b w := by
  unfold isAggT at h
  unfold isAgg
  split at h <;> cases h <;> simp [run_underlying ‹_›]
theorem run_sizeOf' {t : TypeId} {n : Nat} (h : sizeT P t = some n) (w : World) : (sizeOf t).run P w = .ok n w := by
  simp only [sizeT, Option.map_eq_some_iff] at h
  obtain ⟨i, hi, rfl⟩ := h
  simp [sizeOf, typeInfo, hi]
theorem run_typeInfo' {t : TypeId} {i : TypeInfo} (h : P.info? t = some i) (w : World) : (typeInfo t).run P w = .ok i w := by
  simp [typeInfo, h]
theorem run_zeroValue' {t : TypeId} {z : Value} (h : zeroT P t = some z) (w : World) : (zeroValue t).run P w = .ok z w := by
  simp only [zeroT, Option.bind_eq_some_iff] at h
  obtain ⟨i, hi, hz⟩ := h
  simp [zeroValue, typeInfo, hi, hz]
theorem add_mk (b o j : Nat) : (⟨b, o, none⟩ : Addr).add j = ⟨b, o + j, none⟩ := by unfold Addr.add; split <;> simp_all
theorem getCells_some {i : Nat} {c : List Value} (h : getCells A i = some c) : ∃ ro opn, HeapC.get A i = some (.cells ro opn c) := by
  unfold getCells at h
  split at h
  · cases h; exact ⟨_, _, ‹_›⟩
  · cases h
theorem BlkR.cell {m : ME} {ro : Bool} {opn : Option Nat} {c : List Value} (h : BlkR μ m w.heap (some (.cells ro opn c))) {k : Nat} {x : Value} (hx : c[k]? = some x) :
    ∃ y, w.cell? ⟨m.b, m.s + k, none⟩ = some y ∧ VR μ x y := by
  obtain ⟨C, E, fr, h1, h2, _, _⟩ := h
  obtain ⟨y, hy, hv⟩ := h2 k x hx
  exact ⟨y, by simp [World.cell?, h1, hy], hv⟩
theorem rdCells_sim (hR : R μ A w) {i o n : Nat} {m : ME} (hm : μ i = some m) {cs : List Value} (e : rdCells A i o n = some cs) :
    cs.length = n ∧ ∃ cs', VRs μ cs cs' ∧ ∀ j v, cs'[j]? = some v → w.cell? ⟨m.b, m.s + o + j, none⟩ = some v := by
  simp only [rdCells, Option.bind_eq_some_iff] at e
  obtain ⟨c, hc, e⟩ := e
  obtain ⟨hle, e⟩ := cond_some e
  cases e
  have hle := Nat.le_of_ble_eq_true hle
  obtain ⟨ro, opn, hg⟩ := getCells_some hc
  have hb := hR.blk i m hm
  rw [hg] at hb
  have hlen : ((c.drop o).take n).length = n := by simp; omega
  refine ⟨hlen, ?_⟩
  have key : ∀ j, j < n → ∃ y, w.cell? ⟨m.b, m.s + o + j, none⟩ = some y ∧ VR μ (((c.drop o).take n).getD j undef) y := by
    intro j hj
    have hx : c[o + j]? = some c[o + j] := List.getElem?_eq_getElem (by omega)
    obtain ⟨y, h1, h2⟩ := hb.cell hx
    refine ⟨y, by rw [Nat.add_assoc]; exact h1, ?_⟩
    have : ((c.drop o).take n).getD j undef = c[o + j] := by
      simp only [List.getD_eq_getElem?_getD, List.getElem?_take, hj, if_true, List.getElem?_drop, hx, Option.getD_some]
    rw [this]; exact h2
  refine ⟨(List.range n).map fun j => (w.cell? ⟨m.b, m.s + o + j, none⟩).getD undef, ⟨by simp [hlen], fun k x y hx hy => ?_⟩, fun j v hv => ?_⟩
  · have hk : k < n := by have := (List.getElem?_eq_some_iff.1 hx).1; omega
    obtain ⟨z, h1, h2⟩ := key k hk
    simp [hk, h1] at hy
    subst hy
    rw [List.getD_eq_getElem?_getD, hx] at h2
    exact h2
  · have hj : j < n := by have := (List.getElem?_eq_some_iff.1 hv).1; simpa using this
    obtain ⟨z, h1, h2⟩ := key j hj
    simp [hj, h1] at hv
    rw [h1, hv]
theorem rdCell_sim (hR : R μ A w) {i o : Nat} {m : ME} (hm : μ i = some m) {x : Value} (e : rdCell A i o = some x) :
    ∃ y, w.cell? ⟨m.b, m.s + o, none⟩ = some y ∧ VR μ x y := by
  simp only [rdCell, Option.bind_eq_some_iff] at e
  obtain ⟨c, hc, e⟩ := e
  obtain ⟨ro, opn, hg⟩ := getCells_some hc
  have hb := hR.blk i m hm
  rw [hg] at hb
  exact hb.cell e
theorem run_loadCells_of {a : Addr} {cs : List Value} {n : Nat} (hn : cs.length = n) (h : ∀ j v, cs[j]? = some v → w.cell? (a.add j) = some v) :
    (loadCells a n).run P w = .ok cs.toArray w := hn ▸ run_loadCells_list (P := P) w a cs h
theorem aLoad_sim (hR : R μ A w) {t : TypeId} {p p' v : Value} (e : aLoad P A t p = some v) (hp : VR μ p p') :
    ∃ v', (Instr.loadAt t p').run P w = .ok v' w ∧ VR μ v v' := by
  simp only [aLoad, Option.bind_eq_some_iff] at e
  obtain ⟨b, hb, e⟩ := e
  cases b with
  | true =>
    simp only [cond_true, Option.bind_eq_some_iff, ldN] at e
    obtain ⟨n, hn, ⟨i, o⟩, ha, cs, hcs, e⟩ := e
    cases e
    have := asPtr_some ha; subst this
    obtain ⟨m, hm, rfl⟩ := hp.ptr_inv
    obtain ⟨hl, cs', h1, h2⟩ := rdCells_sim hR hm hcs
    refine ⟨.agg cs'.toArray, ?_, VR.agg_iff.2 (by simpa using h1)⟩
    simp only [Instr.loadAt, Instr.sureAddr, loadVar, Sem.run_bind, Sem.run_pure, Result.andThen_ok, run_isAgg' hb, if_true, run_sizeOf' hn]
    rw [run_loadCells_of (P := P) (w := w) (cs := cs') (by rw [← h1.1]; exact hl) (fun j v hv => by rw [add_mk]; exact h2 j v hv)]
    rfl
  | false =>
    simp only [cond_false, ld1, Option.bind_eq_some_iff] at e
    obtain ⟨⟨i, o⟩, ha, hcs⟩ := e
    have := asPtr_some ha; subst this
    obtain ⟨m, hm, rfl⟩ := hp.ptr_inv
    obtain ⟨y, h1, h2⟩ := rdCell_sim hR hm hcs
    refine ⟨y, ?_, h2⟩
    simp only [Instr.loadAt, Instr.sureAddr, loadVar, Sem.run_bind, Sem.run_pure, Result.andThen_ok, run_isAgg' hb, if_false, Bool.false_eq_true, run_load, h1]
theorem BlkR.congr {m : ME} {h h' : Array Obj} {b : Option ABlk} (hb : BlkR μ m h b) (e : h'[m.b]? = h[m.b]?) : BlkR μ m h' b := by
  unfold BlkR at *
  split <;> simp_all
theorem LoopR.mono {μ' : Mu} (hm : μ.le μ') {a : ALoop} {r : Loop} (h : LoopR μ a r) : LoopR μ' a r :=
  { h with vals := fun t v e => let ⟨v', a, b⟩ := h.vals t v e; ⟨v', a, b.mono hm⟩, dfr := let ⟨m, a, b⟩ := h.dfr; ⟨m, hm _ _ a, b⟩ }
theorem BlkR.mono {μ' : Mu} (hm : μ.le μ') {m : ME} {h : Array Obj} {b : Option ABlk} (hb : BlkR μ m h b) : BlkR μ' m h b := by
  unfold BlkR at *
  split
  · obtain ⟨C, E, fr, h1, h2, h3, h4⟩ := hb
    exact ⟨C, E, fr, h1, fun k x hx => let ⟨y, a, b⟩ := h2 k x hx; ⟨y, a, b.mono hm⟩, h3, h4⟩
  · obtain ⟨es', clk, h1, h2, h3⟩ := hb
    exact ⟨es', clk, h1, h2, fun k x y hx hy => ⟨(h3 k x y hx hy).1.mono hm, (h3 k x y hx hy).2.mono hm⟩⟩
  · obtain ⟨r, h1, h2⟩ := hb
    exact ⟨r, h1, h2.mono hm⟩
  · exact hb
  · trivial
  · trivial
theorem dead_of_wr {b : Option ABlk} (h : wrB b = true) : deadB b = false := by
  unfold wrB at h; unfold deadB; split <;> simp_all
theorem ro_of_wr {b : Option ABlk} (h : wrB b = true) : roB b = false := by
  unfold wrB at h; unfold roB; split <;> simp_all
theorem Ext.write {c : Nat} {own : Nat → Prop} (hR : R μ A w) {i : Nat} {m : ME} (hm : μ i = some m) (hw : wrB (HeapC.get A i) = true) {blk : ABlk} (hn : wrB (some blk) = true)
    {w' : World} (os : w'.os = w.os) (tape : w'.tape = w.tape) (output : w'.output = w.output) (size : w'.heap.size = w.heap.size)
    (oth : ∀ b, b ≠ m.b → w'.heap[b]? = w.heap[b]?) (hb : BlkR μ m w'.heap (some blk)) :
    Ext μ A c w own μ (HeapC.set A i blk) c w' where
  mu := fun _ _ e => e
  new := fun i h1 h2 => absurd h1 h2
  cle := Nat.le_refl _
  rel := {
    blk := fun j mj hj => by
      rw [HeapC.get_set]
      by_cases e : j = i
      · subst e; rw [hm] at hj; cases hj; simpa using hb
      · simp only [e, if_false]
        have h0 := hR.blk j mj hj
        cases hd : deadB (HeapC.get A j) with
        | true =>
          unfold deadB at hd
          split at hd
          · rename_i hg; rw [hg]; trivial
          · cases hd
        | false =>
          refine h0.congr (oth _ ?_)
          exact hR.inj j i mj m hj hm e hd (dead_of_wr hw) (by rw [ro_of_wr hw]; simp)
    inj := fun a b ma mb ha hb' hne => by
      rw [HeapC.get_set, HeapC.get_set]
      by_cases ea : a = i <;> by_cases eb : b = i
      · exact absurd (ea.trans eb.symm) hne
      · subst ea
        simp only [eb, if_true, if_false]
        intro _ h2 h3
        exact hR.inj a b ma mb ha hb' hne (dead_of_wr hw) h2 (by rw [ro_of_wr hw]; simp)
      · subst eb
        simp only [ea, if_true, if_false]
        intro h1 _ h3
        exact hR.inj a b ma mb ha hb' hne h1 (dead_of_wr hw) (by rw [ro_of_wr hw]; simp)
      · simp only [ea, eb, if_false]
        exact hR.inj a b ma mb ha hb' hne
    lt := fun j mj hj => by rw [size]; exact hR.lt j mj hj }
  af := fun j h1 _ _ => by
    rw [HeapC.get_set, if_neg]
    intro e; subst e; rw [hm] at h1; cases h1
  os := os
  tape := tape
  output := output
  size := by omega
  fr := fun b _ h => oth b (fun e => h i m hm hw e.symm)
  wrm := fun j mj hj h => by
    rw [HeapC.get_set] at h
    by_cases e : j = i
    · subst e; exact hw
    · simpa [e] using h
  newb := fun j mj h1 h2 => by rw [h1] at h2; cases h2
  dd := fun j mj hj h => by
    rw [HeapC.get_set]
    by_cases e : j = i
    · subst e; rw [dead_of_wr hw] at h; cases h
    · simpa [e] using h
def Mu.upd (μ : Mu) (i : Nat) (m : ME) : Mu := fun j => if j = i then some m else μ j
theorem Mu.upd_self (μ : Mu) (i : Nat) (m : ME) : μ.upd i m i = some m := by simp [Mu.upd]
theorem Mu.le_upd {i : Nat} {m : ME} (h : μ i = none) : μ.le (μ.upd i m) := by
  intro j mj hj
  unfold Mu.upd
  by_cases e : j = i
  · subst e; rw [h] at hj; cases hj
  · simpa [e] using hj
theorem Ext.alloc {c : Nat} (hR : R μ A w) {id : Nat} (hid : μ id = none) {m : ME} (hmb : m.b = w.heap.size) {blk : ABlk} (hlive : roB (some blk) = false)
    {w' : World} {o : Obj} (os : w'.os = w.os) (tape : w'.tape = w.tape) (output : w'.output = w.output) (hh : w'.heap = w.heap.push o)
    (hb : BlkR (μ.upd id m) m w'.heap (some blk)) :
    Ext μ A c w (fun i => i = id) (μ.upd id m) (HeapC.set A id blk) c w' := by
  have hle : μ.le (μ.upd id m) := Mu.le_upd hid
  have hold : ∀ b, b < w.heap.size → w'.heap[b]? = w.heap[b]? := fun b h => by rw [hh, Array.getElem?_push, if_neg (by omega)]
  have hne : ∀ j mj, μ j = some mj → j ≠ id := fun j mj hj e => by subst e; rw [hid] at hj; cases hj
  have hcase : ∀ j mj, (μ.upd id m) j = some mj → (j = id ∧ mj = m) ∨ (j ≠ id ∧ μ j = some mj) := by
    intro j mj hj
    unfold Mu.upd at hj
    by_cases e : j = id
    · simp [e] at hj; exact .inl ⟨e, hj.symm⟩
    · simp [e] at hj; exact .inr ⟨e, hj⟩
  refine { mu := hle, new := fun i h1 h2 => ?_, cle := Nat.le_refl _, rel := ⟨?_, ?_, ?_⟩, af := fun j h1 _ h3 => by rw [HeapC.get_set, if_neg h3], os := os, tape := tape, output := output,
           size := by rw [hh]; simp, fr := fun b h _ => hold b h, wrm := fun j mj hj h => by rw [HeapC.get_set, if_neg (hne j mj hj)] at h; exact h, dd := fun j mj hj h => by rw [HeapC.get_set, if_neg (hne j mj hj)]; exact h, newb := fun j mj h1 h2 => ?_ }
  · cases e : (μ.upd id m) i with
    | none => exact absurd e h2
    | some mi =>
      rcases hcase i mi e with ⟨rfl, _⟩ | ⟨_, e'⟩
      · exact .inl rfl
      · rw [h1] at e'; cases e'
  · intro j mj hj
    rw [HeapC.get_set]
    rcases hcase j mj hj with ⟨rfl, rfl⟩ | ⟨e, hj'⟩
    · simpa using hb
    · simp only [e, if_false]
      exact ((hR.blk j mj hj').congr (hold _ (hR.lt j mj hj'))).mono hle
  · intro a b ma mb ha hb' hn
    rw [HeapC.get_set, HeapC.get_set]
    rcases hcase a ma ha with ⟨ea, rfl⟩ | ⟨ea, ha'⟩ <;> rcases hcase b mb hb' with ⟨eb, rfl⟩ | ⟨eb, hb''⟩
    · exact absurd (ea.trans eb.symm) hn
    · intro _ _ _ e; have := hR.lt b mb hb''; omega
    · intro _ _ _ e; have := hR.lt a ma ha'; omega
    · simp only [ea, eb, if_false]
      exact hR.inj a b ma mb ha' hb'' hn
  · intro j mj hj
    rcases hcase j mj hj with ⟨_, rfl⟩ | ⟨_, hj'⟩
    · rw [hh]; simp; omega
    · rw [hh]; simp; have := hR.lt j mj hj'; omega
  · rcases hcase j mj h2 with ⟨_, rfl⟩ | ⟨_, hj'⟩
    · exact .inl (by omega)
    · rw [h1] at hj'; cases hj'
theorem splice_get {c xs : List Value} {off k : Nat} {x : Value} (hle : off + xs.length ≤ c.length) (h : (splice c off xs)[k]? = some x) :
    (off ≤ k ∧ k < off + xs.length ∧ xs[k - off]? = some x) ∨ ((k < off ∨ off + xs.length ≤ k) ∧ c[k]? = some x) := by
  unfold splice at h
  rw [List.getElem?_append] at h
  split at h
  · rename_i h1
    rw [List.getElem?_append] at h
    split at h
    · rename_i h2
      simp at h2
      rw [List.getElem?_take] at h
      split at h
      · exact .inr ⟨.inl (by omega), h⟩
      · cases h
    · rename_i h2
      simp at h2 h1
      have e : min off c.length = off := by omega
      simp [e] at h
      exact .inl ⟨by omega, by omega, h⟩
  · rename_i h1
    simp at h1
    have e : min off c.length = off := by omega
    simp [e] at h
    refine .inr ⟨.inr (by omega), ?_⟩
    rw [← h]; congr 1; omega
theorem wrCells_sim {c0 : Nat} {own : Nat → Prop} (hR : R μ A w) {i o : Nat} {m : ME} (hm : μ i = some m) {xs xs' : List Value} (hx : VRs μ xs xs') {A' : H} (e : wrCells A i o xs = some A') :
    ∃ w', (storeCells ⟨m.b, m.s + o, none⟩ xs').run P w = .ok () w' ∧ Ext μ A c0 w own μ A' c0 w' := by
  unfold wrCells at e
  split at e
  · rename_i opn c hg
    obtain ⟨hc, e⟩ := cond_some e
    cases e
    simp only [Bool.and_eq_true] at hc
    have hle := Nat.le_of_ble_eq_true hc.1
    have hflat := hx.flat hc.2
    have hb := hR.blk i m hm
    rw [hg] at hb
    obtain ⟨C, E, fr, h1, h2, h3, h4⟩ := hb
    have hfr := h3 rfl
    subst hfr
    have hlen : m.s + o + xs'.length ≤ C.size ∨ xs'.length = 0 := by
      by_cases h0 : xs'.length = 0
      · exact .inr h0
      · left
        have hk : o + xs'.length - 1 < c.length := by have := hx.1; omega
        obtain ⟨y, hy, _⟩ := h2 (o + xs'.length - 1) c[o + xs'.length - 1] (List.getElem?_eq_getElem hk)
        have := (Array.getElem?_eq_some_iff.1 hy).1
        omega
    rcases hlen with hlen | h0
    · refine ⟨_, run_storeCells_at (P := P) m.b (m.s + o) E xs' 0 C w h1 (by omega) hflat, ?_⟩
      refine Ext.write hR hm (by rw [hg]; rfl) rfl rfl rfl rfl (setRow_size _ _ _) (fun b hbn => setRow_other _ _ _ _ hbn) ?_
      refine ⟨_, E, (0, 0), setRow_heap w m.b C _ E (0, 0) h1, fun k x hk => ?_, fun _ => rfl, ?_⟩
      · rcases splice_get hle hk with ⟨a1, a2, a3⟩ | ⟨a1, a3⟩
        · obtain ⟨y, hy, hv⟩ := hx.get a3
          refine ⟨y, ?_, hv⟩
          have hlt := (List.getElem?_eq_some_iff.1 hy).1
          simp only [List.getElem?_toArray, Nat.add_zero]
          rw [List.getElem?_append, if_pos (by simp; omega), List.getElem?_append, if_neg (by simp; omega)]
          rw [← hy]; congr 1; simp; omega
        · obtain ⟨y, hy, hv⟩ := h2 k x a3
          refine ⟨y, ?_, hv⟩
          have hyl := (Array.getElem?_eq_some_iff.1 hy).1
          have hxl := hx.1
          simp only [List.getElem?_toArray, Nat.add_zero]
          rcases a1 with a1 | a1
          · rw [List.getElem?_append, if_pos (by simp; omega), List.getElem?_append, if_pos (by simp; omega), List.getElem?_take, if_pos (by omega)]
            simpa using hy
          · rw [List.getElem?_append, if_neg (by simp; omega), List.getElem?_drop]
            rw [← hy, ← Array.getElem?_toList]; congr 1; simp; omega
      · rw [h4]
        cases opn with
        | none => rfl
        | some e => simp; omega
    · have hx0 : xs' = [] := List.eq_nil_of_length_eq_zero h0
      have hxs : xs = [] := List.eq_nil_of_length_eq_zero (by rw [hx.1, h0])
      subst hx0; subst hxs
      refine ⟨w, rfl, ?_⟩
      have hsp : splice c o [] = c := by simp [splice]
      rw [hsp]
      exact Ext.write hR hm (by rw [hg]; rfl) rfl rfl rfl rfl rfl (fun _ _ => rfl) ⟨C, E, (0, 0), h1, h2, h3, h4⟩
  · cases e
theorem aStore_sim {c0 : Nat} {own : Nat → Prop} (hR : R μ A w) {t : TypeId} {p p' v v' : Value} {A' : H} (e : aStore P A t p v = some A') (hp : VR μ p p') (hv : VR μ v v') :
    ∃ w', (Instr.storeAt t p' v').run P w = .ok () w' ∧ Ext μ A c0 w own μ A' c0 w' := by
  simp only [aStore, stN, Option.bind_eq_some_iff] at e
  obtain ⟨n, hn, ⟨i, o⟩, ha, e⟩ := e
  obtain ⟨hs, e⟩ := cond_some e
  have hs := Nat.eq_of_beq_eq_true hs
  have := asPtr_some ha; subst this
  obtain ⟨m, hm, rfl⟩ := hp.ptr_inv
  obtain ⟨w', h1, h2⟩ := wrCells_sim (P := P) (c0 := c0) (own := own) hR hm hv.cells e
  refine ⟨w', ?_, h2⟩
  have hsz : v'.cells.size = n := by have := hv.cells.1; simp at this; omega
  simp only [Instr.storeAt, Instr.sureAddr, storeVar, Sem.run_bind, Sem.run_pure, Result.andThen_ok, run_sizeOf' hn, hsz, ne_eq, not_true_eq_false, if_false]
  exact h1
end Go.Ab

namespace Go.Ab
open Go
set_option linter.unusedVariables false
set_option linter.unusedSimpArgs false
variable {H : Type} [HeapC H] {P : Program} {μ : Mu} {A : H} {w : World}
theorem addOff_sim {p p' v : Value} {n : Nat} (e : addOff p n = some v) (hp : VR μ p p') : ∃ b o, p' = .pointer (some ⟨b, o, none⟩) ∧ VR μ v (.pointer (some ⟨b, o + n, none⟩)) := by
  simp only [addOff, Option.bind_eq_some_iff] at e
  obtain ⟨⟨i, o⟩, ha, e⟩ := e
  cases e
  have := asPtr_some ha; subst this
  obtain ⟨m, hm, rfl⟩ := hp.ptr_inv
  exact ⟨m.b, m.s + o, rfl, by rw [Nat.add_assoc]; exact .ptr hm⟩
theorem fieldT_some {s : TypeId} {f : Nat} {fd : Field} (h : fieldT P s f = some fd) : ∃ fs, P.underlying s = some (.struct fs) ∧ fs[f]? = some fd := by
  unfold fieldT at h
  split at h
  · exact ⟨_, ‹_›, h⟩
  · cases h
theorem aFieldAddr_sim {t : TypeId} {p p' v : Value} {f : Nat} (e : aFieldAddr P t p f = some v) (hp : VR μ p p') :
    ∃ v', (Instr.fieldAt t p' f).run P w = .ok v' w ∧ VR μ v v' := by
  simp only [aFieldAddr, Option.bind_eq_some_iff] at e
  obtain ⟨fd, hf, z, hz, e⟩ := e
  obtain ⟨hz0, e⟩ := cond_none_some e
  obtain ⟨b, o, rfl, hv⟩ := addOff_sim e hp
  obtain ⟨fs, hu, hfd⟩ := fieldT_some hf
  refine ⟨_, ?_, hv⟩
  have hz1 : ¬ z = 0 := by intro h; subst h; simp at hz0
  simp only [Instr.fieldAt, Sem.run_bind, run_underlying hu, Result.andThen_ok, hfd, Instr.sureAddr, Sem.run_pure, fieldPlace, run_sizeOf' hz, hz1, if_false, add_mk]
theorem aPart_sim {t : TypeId} {cs cs' : List Value} {off : Nat} {v : Value} (e : aPart P t cs off = some v) (h : VRs μ cs cs') :
    ∃ v', (part t cs'.toArray off).run P w = .ok v' w ∧ VR μ v v' := by
  simp only [aPart, Option.bind_eq_some_iff] at e
  obtain ⟨b, hb, n, hn, e⟩ := e
  cases b with
  | true =>
    simp only [partN, cond_true] at e
    obtain ⟨hle, e⟩ := cond_some e
    cases e
    refine ⟨.agg ((cs'.drop off).take n).toArray, ?_, VR.agg_iff.2 (by simpa using (h.drop off).take n)⟩
    simp only [part, Sem.run_bind, run_isAgg' hb, Result.andThen_ok, if_true, run_sizeOf' hn, Sem.run_pure]
    congr 2
    apply Array.ext'
    simp [List.extract_eq_take_drop]
  | false =>
    simp only [partN, cond_false] at e
    obtain ⟨y, hy, hv⟩ := h.get e
    refine ⟨y, ?_, hv⟩
    simp only [part, Sem.run_bind, run_isAgg' hb, Result.andThen_ok, if_false, Bool.false_eq_true, List.getElem?_toArray, hy, Sem.run_pure]
theorem VR.agg_left {cs : Array Value} {v' : Value} (h : VR μ (.agg cs) v') : ∃ cs', v' = .agg cs' ∧ VRs μ cs.toList cs'.toList := by
  cases h with
  | agg hs h => exact ⟨_, rfl, VR.agg_iff.1 (.agg hs h)⟩
theorem aggL_some {x : Value} {cs : List Value} (h : aggL x = some cs) : ∃ a : Array Value, x = .agg a ∧ cs = a.toList := by
  unfold aggL at h
  split at h
  · cases h; exact ⟨_, rfl, rfl⟩
  · cases h
theorem aField_sim {t : TypeId} {x x' v : Value} {f : Nat} (e : aField P t x f = some v) (hx : VR μ x x') :
    ∃ v', (Instr.field t x' f).run P w = .ok v' w ∧ VR μ v v' := by
  simp only [aField, Option.bind_eq_some_iff] at e
  obtain ⟨fd, hf, cs, hcs, e⟩ := e
  obtain ⟨a, rfl, rfl⟩ := aggL_some hcs
  obtain ⟨cs', rfl, hr⟩ := hx.agg_left
  obtain ⟨fs, hu, hfd⟩ := fieldT_some hf
  obtain ⟨v', h1, h2⟩ := aPart_sim (w := w) e hr
  refine ⟨v', ?_, h2⟩
  simp only [Instr.field, Sem.run_bind, run_underlying hu, Result.andThen_ok, hfd, asAgg, Sem.run_pure]
  simpa using h1
theorem VR.int_left {k : IntKind} {n : Int} {v' : Value} (h : VR μ (.int k n) v') : v' = .int k n := by cases h; rfl
theorem VR.bool_left {b : Bool} {v' : Value} (h : VR μ (.bool b) v') : v' = .bool b := by cases h; rfl
theorem VR.str_left {b : ByteArray} {v' : Value} (h : VR μ (.string b) v') : v' = .string b := by cases h; rfl
theorem aIdx_some {len : Nat} {i : Value} {k : Nat} (h : aIdx len i = some k) : ∃ kd n, i = .int kd n ∧ (0 ≤ n ∧ n < (len : Int)) ∧ k = n.toNat := by
  unfold aIdx at h
  split at h
  · split at h
    · obtain ⟨hc, h⟩ := cond_some h
      cases h
      have := blt_true hc
      exact ⟨_, _, rfl, ⟨by simp, by simpa using this⟩, by simp⟩
    · cases h
  · cases h
theorem aIndexAddr_sim {t : TypeId} {x x' i i' v : Value} (e : aIndexAddr P t x i = some v) (hx : VR μ x x') (hi : VR μ i i') :
    ∃ v', (Instr.indexAt t x' i').run P w = .ok v' w ∧ VR μ v v' := by
  unfold aIndexAddr at e
  split at e
  · rename_i len el hu
    simp only [Option.bind_eq_some_iff, ixA] at e
    obtain ⟨sz, hsz, k, hk, e⟩ := e
    obtain ⟨kd, n, rfl, hb, rfl⟩ := aIdx_some hk
    obtain rfl := hi.int_left
    obtain ⟨b, o, rfl, hv⟩ := addOff_sim e hx
    refine ⟨_, ?_, hv⟩
    simp only [Instr.indexAt, asIntOf, Sem.run_bind, Sem.run_pure, Result.andThen_ok, run_underlying hu, Instr.sureAddr, hb, and_self, if_true, run_sizeOf' hsz, add_mk]
  · rename_i el hu
    simp only [Option.bind_eq_some_iff] at e
    obtain ⟨sz, hsz, e⟩ := e
    unfold ixS at e
    split at e
    · rename_i b o len cap
      simp only [Option.bind_eq_some_iff] at e
      obtain ⟨k, hk, e⟩ := e
      cases e
      obtain ⟨kd, n, rfl, hb, rfl⟩ := aIdx_some hk
      obtain rfl := hi.int_left
      cases hx with
      | sl hm hc hz =>
        rename_i c' m
        refine ⟨.pointer (some ⟨m.b, m.s + (o + n.toNat * sz), none⟩), ?_, .ptr hm⟩
        simp only [Instr.indexAt, asIntOf, Sem.run_bind, Sem.run_pure, Result.andThen_ok, run_underlying hu, hb, and_self, if_true, run_sizeOf' hsz, add_mk]
        rw [Nat.add_assoc]
      | slE hm => simp at hb; omega
    · cases e
  · cases e
theorem strAt_some {s : ByteArray} {i v : Value} (h : strAt s i = some v) : ∃ kd n b, i = .int kd n ∧ 0 ≤ n ∧ s[n.toNat]? = some b ∧ v = .int .u8 b.toNat := by
  simp only [strAt, Option.bind_eq_some_iff] at h
  obtain ⟨k, hk, b, hb, h⟩ := h
  cases h
  obtain ⟨kd, n, rfl, hn, rfl⟩ := aIdx_some hk
  exact ⟨kd, n, b, rfl, hn.1, hb, rfl⟩
theorem aIndex_sim {t : TypeId} {x x' i i' v : Value} (e : aIndex P t x i = some v) (hx : VR μ x x') (hi : VR μ i i') :
    ∃ v', (Instr.index t x' i').run P w = .ok v' w ∧ VR μ v v' := by
  unfold aIndex at e
  split at e
  · rename_i len el hu
    simp only [Option.bind_eq_some_iff] at e
    obtain ⟨cs, hcs, k, hk, sz, hsz, e⟩ := e
    obtain ⟨a, rfl, rfl⟩ := aggL_some hcs
    obtain ⟨cs', rfl, hr⟩ := hx.agg_left
    obtain ⟨kd, n, rfl, hb, rfl⟩ := aIdx_some hk
    obtain rfl := hi.int_left
    obtain ⟨v', h1, h2⟩ := aPart_sim (w := w) e hr
    refine ⟨v', ?_, h2⟩
    simp only [Instr.index, asIntOf, Sem.run_bind, Sem.run_pure, Result.andThen_ok, run_underlying hu, hb, and_self, if_true, run_sizeOf' hsz]
    simpa using h1
  · rename_i hu
    split at e
    · rename_i s
      obtain ⟨kd, n, b, rfl, hn, hb, rfl⟩ := strAt_some e
      obtain rfl := hi.int_left
      obtain rfl := hx.str_left
      refine ⟨_, ?_, .int _ _⟩
      simp only [Instr.index, asIntOf, Sem.run_bind, Sem.run_pure, Result.andThen_ok, run_underlying hu, hn, if_true, hb]
    · cases e
  · cases e
theorem bnd_some {y : Nat} {v : Value} {n : Nat} (h : bnd y v = some n) : ∃ k i, v = .int k i ∧ (0 ≤ i ∧ i ≤ (y : Int)) ∧ n = i.toNat := by
  unfold bnd at h
  split at h
  · obtain ⟨hc, h⟩ := cond_some h
    cases h
    simp at hc
    exact ⟨_, _, rfl, hc, rfl⟩
  · cases h
theorem bndO_le {y d : Nat} {o : Option Value} {n : Nat} (h : bndO y d o = some n) : n ≤ y := by
  cases o with
  | none => simp only [bndO] at h; obtain ⟨hc, h⟩ := cond_some h; cases h; exact Nat.le_of_ble_eq_true hc
  | some v => obtain ⟨_, i, _, hbb, rfl⟩ := bnd_some h; omega
theorem bndO_none {y d n : Nat} (h : bndO y d none = some n) : n = d := by
  simp only [bndO] at h; obtain ⟨_, h⟩ := cond_some h; cases h; rfl
theorem bnds_le {len cap : Nat} {lo hi mx : Option Value} {r : Nat × Nat × Nat} (e : bnds len cap lo hi mx = some r) : r.1 ≤ r.2.1 ∧ r.2.1 ≤ r.2.2 ∧ r.2.2 ≤ cap := by
  simp only [bnds, Option.bind_eq_some_iff] at e
  obtain ⟨m, hm, hh, hhi, e⟩ := e
  obtain ⟨hmh, e⟩ := cond_none_some e
  simp only [Option.bind_eq_some_iff] at e
  obtain ⟨l, hl, e⟩ := e
  cases e
  exact ⟨bndO_le hl, bndO_le hhi, bndO_le hm⟩
def VRo (μ : Mu) : Option Value → Option Value → Prop
  | none, none => True
  | some v, some v' => VR μ v v'
  | _, _ => False
theorem run_sliceBound {y y' : Nat} {v v' : Value} {n : Nat} {code : BoundsCode} (h : bnd y v = some n) (hv : VR μ v v') (hy : y ≤ y') :
    (Instr.sliceBound v' y' code).run P w = .ok n w := by
  obtain ⟨k, i, rfl, hb, rfl⟩ := bnd_some h
  obtain rfl := hv.int_left
  have : 0 ≤ i ∧ i ≤ (y' : Int) := ⟨hb.1, by omega⟩
  simp only [Instr.sliceBound, asIntOf, Sem.run_bind, Sem.run_pure, Result.andThen_ok, this, and_self, if_true]
theorem run_sliceBounds {isS : Bool} {len cap cap' : Nat} {lo hi mx lo' hi' mx' : Option Value} {r : Nat × Nat × Nat} (e : bnds len cap lo hi mx = some r)
    (h1 : VRo μ lo lo') (h2 : VRo μ hi hi') (h3 : VRo μ mx mx') (hc : cap ≤ cap') :
    (Instr.sliceBounds isS len cap' lo' hi' mx').run P w = .ok (r.1, r.2.1, cond mx.isSome r.2.2 cap') w ∧ (mx.isSome = false → r.2.2 = cap) := by
  simp only [bnds, Option.bind_eq_some_iff] at e
  obtain ⟨m, hm, hh, hhi, e⟩ := e
  obtain ⟨hmh, e⟩ := cond_none_some e
  simp only [Option.bind_eq_some_iff] at e
  obtain ⟨l, hl, e⟩ := e
  cases e
  have hlo : ∀ (y : Nat) (c1 : BoundsCode), hh ≤ y → (match lo' with
      | some v => Instr.sliceBound v y c1
      | none => pure 0).run P w = .ok l w := by
    intro y c1 hy
    cases lo <;> cases lo' <;> simp only [VRo] at h1
    · rw [bndO_none hl]; rfl
    · exact run_sliceBound (P := P) (w := w) hl h1 hy
  cases mx <;> cases mx' <;> simp only [VRo] at h3
  · have e0 := bndO_none hm
    subst e0
    refine ⟨?_, by simp⟩
    cases hi <;> cases hi' <;> simp only [VRo] at h2
    · have e1 := bndO_none hhi
      subst e1
      have := hlo hh .sliceB (Nat.le_refl _)
      simp only [Instr.sliceBounds, Sem.run_bind, Sem.run_pure, Result.andThen_ok, Option.isSome, Bool.false_eq_true, if_false, cond_false]
      revert this; cases lo' <;> intro this <;> simp_all
    · have := hlo hh .sliceB (Nat.le_refl _)
      simp only [Instr.sliceBounds, Sem.run_bind, Sem.run_pure, Result.andThen_ok, Option.isSome, Bool.false_eq_true, if_false, cond_false, run_sliceBound (P := P) (w := w) hhi h2 hc]
      revert this; cases lo' <;> intro this <;> simp_all
  · refine ⟨?_, by simp⟩
    cases hi <;> cases hi' <;> simp only [VRo] at h2
    · simp at hmh
    · have := hlo hh .slice3C (Nat.le_refl _)
      simp only [Instr.sliceBounds, Sem.run_bind, Sem.run_pure, Result.andThen_ok, Option.isSome, if_true, cond_true, run_sliceBound (P := P) (w := w) hm h3 hc, run_sliceBound (P := P) (w := w) hhi h2 (Nat.le_refl _)]
      revert this; cases lo' <;> intro this <;> simp_all
theorem szOk_opn (hR : R μ A w) {i : Nat} {o sz : Nat} {m : ME} (hm : μ i = some m) (h : szOk A sz (some ⟨i, o, none⟩) = true) : ∀ e Z, m.opn = some (e, Z) → e = sz := by
  intro e Z he
  have hb := hR.blk i m hm
  simp only [szOk] at h
  split at h
  · rename_i hg; rw [hg] at hb; obtain ⟨C, E, fr, _, _, _, h4⟩ := hb; rw [he] at h4; cases h4
  · rename_i hg; rw [hg] at hb; obtain ⟨C, E, fr, _, _, _, h4⟩ := hb; rw [he] at h4; simp at h4; rw [h4.1]; exact Nat.eq_of_beq_eq_true h
  · cases h
theorem slS_sim (hR : R μ A w) {t el : TypeId} (hu : P.underlying t = some (.slice el)) {sz : Nat} (hsz : sizeT P el = some sz) {x x' v : Value} {lo hi mx lo' hi' mx' : Option Value}
    (e : slS A sz x lo hi mx = some v) (hx : VR μ x x') (h1 : VRo μ lo lo') (h2 : VRo μ hi hi') (h3 : VRo μ mx mx') :
    ∃ v', (Instr.sliceAt t x' lo' hi' mx').run P w = .ok v' w ∧ VR μ v v' := by
  unfold slS at e
  split at e
  · rename_i a len cap
    obtain ⟨hok, e1⟩ := cond_some e
    clear e
    simp only [Option.bind_eq_some_iff] at e1
    obtain ⟨⟨l, hh, m⟩, hb, e⟩ := e1
    obtain ⟨hle1, hle2, hle3⟩ := bnds_le hb
    simp only at hle1 hle2 hle3
    cases hx with
    | sl0 =>
      obtain ⟨hrun, hm1⟩ := run_sliceBounds (P := P) (w := w) (isS := true) hb h1 h2 h3 (Nat.le_refl _)
      simp only [slOf, Option.some.injEq] at e
      subst e
      have hcm : (cond mx.isSome m cap) = m := by cases hx : mx.isSome <;> simp; exact (hm1 hx).symm
      simp only [hcm] at hrun
      refine ⟨_, ?_, .sl0 _ _⟩
      simp only [Instr.sliceAt, Sem.run_bind, run_underlying hu, Result.andThen_ok, Instr.slice, hrun, run_sizeOf' hsz, Sem.run_pure]
      split <;> rfl
    | @sl i o _ _ c' me hm hc hz =>
      obtain ⟨hrun, hm1⟩ := run_sliceBounds (P := P) (w := w) (isS := true) hb h1 h2 h3 hc
      simp only [slOf, Option.some.injEq] at e
      subst e
      simp only at hm1
      generalize hM : (cond mx.isSome m c') = M at hrun
      have hmM : m ≤ M := by subst hM; cases hx : mx.isSome <;> simp; have := hm1 hx; omega
      have hrun2 : (Instr.sliceAt t (.slice (some ⟨me.b, me.s + o, none⟩) len c') lo' hi' mx').run P w = .ok (.slice (if M = l then some ⟨me.b, me.s + o, none⟩ else some ⟨me.b, me.s + o + l * sz, none⟩) (hh - l) (M - l)) w := by
        simp only [Instr.sliceAt, Sem.run_bind, run_underlying hu, Result.andThen_ok, Instr.slice, hrun, run_sizeOf' hsz, Sem.run_pure, Option.map_some, add_mk]
      refine ⟨_, hrun2, ?_⟩
      by_cases hl : M = l
      · rw [if_pos hl]
        have e1 : hh - l = 0 := by omega
        have e2 : m - l = 0 := by omega
        have e3 : M - l = 0 := by omega
        rw [e1, e2, e3]
        exact .slE hm
      · rw [if_neg hl, Nat.add_assoc]
        refine .sl hm (by omega) ?_
        by_cases hmm : m = M
        · left; omega
        · right
          have hx : mx.isSome = false := by cases hx : mx.isSome with
            | false => rfl
            | true => rw [hx] at hM; simp at hM; exact absurd hM hmm
          have hmc := hm1 hx
          rw [hx] at hM
          simp at hM
          subst hM
          rcases hz with hz | ⟨e', Z, he, hZ⟩
          · omega
          · have := szOk_opn hR hm hok e' Z he
            subst this
            refine ⟨e', Z, he, ?_⟩
            have : l * e' + (c' - l) * e' = c' * e' := by rw [← Nat.add_mul]; congr 1; omega
            omega
    | @slE i o x me hm =>
      obtain ⟨hrun, hm1⟩ := run_sliceBounds (P := P) (w := w) (isS := true) hb h1 h2 h3 (Nat.le_refl _)
      simp only [slOf, Option.some.injEq] at e
      subst e
      have e1 : hh = 0 := by omega
      have e2 : l = 0 := by omega
      have e3 : m = 0 := by omega
      subst e1; subst e2; subst e3
      have hcm : (cond mx.isSome 0 0) = 0 := by cases mx.isSome <;> rfl
      simp only [hcm] at hrun
      refine ⟨.slice (some ⟨me.b, x, none⟩) 0 0, ?_, .slE hm⟩
      simp only [Instr.sliceAt, Sem.run_bind, run_underlying hu, Result.andThen_ok, Instr.slice, hrun, run_sizeOf' hsz, Sem.run_pure, if_true]
  · cases e
theorem aSlice_sim (hR : R μ A w) {t : TypeId} {x x' v : Value} {lo hi mx lo' hi' mx' : Option Value}
    (e : aSlice P A t x lo hi mx = some v) (hx : VR μ x x') (h1 : VRo μ lo lo') (h2 : VRo μ hi hi') (h3 : VRo μ mx mx') :
    ∃ v', (Instr.sliceAt t x' lo' hi' mx').run P w = .ok v' w ∧ VR μ v v' := by
  unfold aSlice at e
  split at e
  · rename_i n el hu
    simp only [Option.bind_eq_some_iff, slA] at e
    obtain ⟨sz, hsz, ⟨i, o⟩, ha, ⟨l, hh, m⟩, hb, e⟩ := e
    have := asPtr_some ha; subst this
    obtain ⟨me, hm, rfl⟩ := hx.ptr_inv
    obtain ⟨hle1, hle2, hle3⟩ := bnds_le hb
    simp only at hle1 hle2 hle3
    obtain ⟨hrun, hm1⟩ := run_sliceBounds (P := P) (w := w) (isS := false) hb h1 h2 h3 (Nat.le_refl _)
    simp only [slOf, Option.some.injEq] at e
    subst e
    have hcm : (cond mx.isSome m n) = m := by cases hx : mx.isSome <;> simp; exact (hm1 hx).symm
    simp only [hcm] at hrun
    refine ⟨.slice (some (if m = l then ⟨me.b, me.s + o, none⟩ else ⟨me.b, me.s + o + l * sz, none⟩)) (hh - l) (m - l), ?_, ?_⟩
    · simp only [Instr.sliceAt, Sem.run_bind, run_underlying hu, Result.andThen_ok, Instr.sureAddr, Sem.run_pure, hrun, run_sizeOf' hsz, add_mk]
    · by_cases hl : m = l
      · rw [if_pos hl]
        have e1 : hh - l = 0 := by omega
        have e2 : m - l = 0 := by omega
        rw [e1, e2]
        exact .slE hm
      · rw [if_neg hl, Nat.add_assoc]
        exact .sl hm (Nat.le_refl _) (.inl rfl)
  · rename_i el hu
    simp only [Option.bind_eq_some_iff] at e
    obtain ⟨sz, hsz, e⟩ := e
    exact slS_sim hR hu hsz e hx h1 h2 h3
  · rename_i hu
    split at e
    · rename_i s
      simp only [slStr, Option.bind_eq_some_iff] at e
      obtain ⟨⟨l, hh, m⟩, hb, e⟩ := e
      cases e
      obtain rfl := hx.str_left
      cases mx' with
      | some v => exact h3.elim
      | none =>
        obtain ⟨hrun, hm1⟩ := run_sliceBounds (P := P) (w := w) (isS := false) hb h1 h2 h3 (Nat.le_refl _)
        refine ⟨_, ?_, .str _⟩
        simp only [Instr.sliceAt, Sem.run_bind, run_underlying hu, Result.andThen_ok, Instr.slice, Option.isSome, Bool.false_eq_true, if_false, hrun, Sem.run_pure, pure_bind]
    · cases e
  · cases e
theorem aArrPtr_sim {t : TypeId} {x x' v : Value} (e : aArrPtr P t x = some v) (hx : VR μ x x') : ∃ v', (Instr.arrayAt t x').run P w = .ok v' w ∧ VR μ v v' := by
  unfold aArrPtr at e
  split at e
  · rename_i n el b o len cap hu
    obtain ⟨hc, e⟩ := cond_some e
    cases e
    simp only [Bool.and_eq_true] at hc
    have h1 := Nat.le_of_ble_eq_true hc.1
    have h2 := Nat.le_of_ble_eq_true hc.2
    cases hx with
    | @sl _ _ _ _ c' me hm hc hz =>
      refine ⟨_, ?_, .ptr hm⟩
      have : ¬ len < n := by omega
      simp only [Instr.arrayAt, Sem.run_bind, run_underlying hu, Result.andThen_ok, this, if_false, Sem.run_pure]
    | slE hm => omega
  · cases e
theorem aNilCheck_sim {x x' v : Value} (e : aNilCheck x = some v) (hx : VR μ x x') : v = x ∧ ((∃ a, x' = .pointer (some a)) ∨ (∃ f a b, x' = .func (.func f) a b) ∨ (∃ f a b, x' = .func (.yield f) a b)) := by
  unfold aNilCheck at e
  split at e
  · cases e
    rename_i a
    refine ⟨rfl, .inl ?_⟩
    cases hx with
    | ptr hm => exact ⟨_, rfl⟩
  · cases e
    refine ⟨rfl, .inr (.inl ?_)⟩
    cases hx with
    | fnc => exact ⟨_, _, _, rfl⟩
  · cases e
    refine ⟨rfl, .inr (.inr ?_)⟩
    cases hx with
    | yield => exact ⟨_, _, _, rfl⟩
  · cases e
end Go.Ab

namespace Go.Ab
open Go
set_option linter.unusedVariables false
set_option linter.unusedSimpArgs false
variable {H : Type} [HeapC H] {P : Program} {μ : Mu} {A : H} {w : World}
theorem aEq_sim : ∀ (d : Nat) {t : TypeId} {x y x' y' : Value} {b : Bool}, aEq P d t x y = some b → VR μ x x' → VR μ y y' →
    ∀ (w : World) (k : Nat), d ≤ k → (Op.equalIn k t x' y').run P w = .ok b w
  | 0, t, x, y, x', y', b, e, hx, hy => by simp [aEq] at e
  | d + 1, t, x, y, x', y', b, e, hx, hy => by
    intro w k hk
    obtain ⟨k, rfl⟩ : ∃ n, k = n + 1 := ⟨k - 1, by omega⟩
    have hk : d ≤ k := by omega
    have ih := fun {t x y x' y' b} => aEq_sim (t := t) (x := x) (y := y) (x' := x') (y' := y') (b := b) d
    unfold aEq at e
    split at e
    · rename_i hu
      cases e; obtain rfl := hx.bool_left; obtain rfl := hy.bool_left
      simp [Op.equalIn, run_underlying hu]
    · rename_i hu
      obtain ⟨hc, e⟩ := cond_some e
      cases e; obtain rfl := hx.int_left; obtain rfl := hy.int_left
      simp at hc; subst hc
      simp [Op.equalIn, run_underlying hu]
    · rename_i hu
      cases e; obtain rfl := hx.str_left; obtain rfl := hy.str_left
      simp [Op.equalIn, run_underlying hu, beq_toListBytes]
    · rename_i fs xs ys hu
      obtain ⟨hst, e⟩ := cond_none_some e
      obtain ⟨xs', rfl, hxs⟩ := hx.agg_left
      obtain ⟨ys', rfl, hys⟩ := hy.agg_left
      have hfo : P.fieldsOf t = fs := by simp [Program.fieldsOf, hu]
      rw [run_equalIn_struct w k t xs' ys' (by rw [hfo]; exact hu) hst, hfo]
      generalize fs.toList = l at e
      induction l with
      | nil => simp [aEqFs] at e; subst e; simp [Op.eqFields]
      | cons f l ihl =>
        simp only [aEqFs] at e
        simp only [Op.eqFields]
        cases hf : f.name == "_" with
        | true =>
          rw [hf] at e
          simp only [cond_true] at e
          have hf' : f.name = "_" := by simpa using hf
          simp only [hf', ne_eq, not_true_eq_false, if_false]
          exact ihl e
        | false =>
          rw [hf] at e
          simp only [cond_false, Option.bind_eq_some_iff] at e
          obtain ⟨a, ha, c, hc, r, hr, e⟩ := e
          have hf' : f.name ≠ "_" := by simpa using hf
          obtain ⟨a', h1, h2⟩ := aPart_sim (w := w) ha hxs
          obtain ⟨c', h3, h4⟩ := aPart_sim (w := w) hc hys
          have h5 := ih hr h2 h4 w k hk
          simp only [Array.toArray_toList] at h1 h3
          simp only [hf', ne_eq, not_false_eq_true, if_true, Sem.run_bind, h1, h3, h5, Result.andThen_ok]
          cases r with
          | true => simp only [cond_true] at e; simpa using ihl e
          | false => simp at e; subst e; simp
    · rename_i len el xs ys hu
      simp only [Option.bind_eq_some_iff] at e
      obtain ⟨n, hn, e⟩ := e
      obtain ⟨xs', rfl, hxs⟩ := hx.agg_left
      obtain ⟨ys', rfl, hys⟩ := hy.agg_left
      have hn' := hn
      simp only [sizeT, Option.map_eq_some_iff] at hn'
      obtain ⟨inf, hinf, hsz⟩ := hn'
      have hcell : P.cellsOf el = n := by simp [Program.cellsOf, hinf, hsz]
      rw [run_equalIn_array w k xs' ys' hu hinf, hcell]
      generalize List.range len = l at e
      induction l with
      | nil => simp [aEqEs] at e; subst e; simp [Op.eqItems]
      | cons i l ihl =>
        simp only [aEqEs, Option.bind_eq_some_iff] at e
        obtain ⟨a, ha, c, hc, r, hr, e⟩ := e
        obtain ⟨a', h1, h2⟩ := aPart_sim (w := w) ha hxs
        obtain ⟨c', h3, h4⟩ := aPart_sim (w := w) hc hys
        have h5 := ih hr h2 h4 w k hk
        simp only [Array.toArray_toList] at h1 h3
        simp only [Op.eqItems, Sem.run_bind, h1, h3, h5, Result.andThen_ok]
        cases r with
        | true => simp only [cond_true] at e; simpa using ihl e
        | false => simp at e; subst e; simp
    · rename_i hu
      cases e
      cases hx
      cases hy <;> (rw [Op.equalIn, Sem.run_bind, run_underlying hu]; rfl)
    · obtain ⟨el, hu⟩ : ∃ el, P.underlying t = some (.slice el) := ⟨_, by assumption⟩
      cases e
      cases hy
      cases hx <;> first | (exfalso; simp_all; done) | (rw [Op.equalIn, Sem.run_bind, run_underlying hu]; rfl)
    · rename_i hu
      cases e
      cases hx
      cases hy <;> (rw [Op.equalIn, Sem.run_bind, run_underlying hu]; rfl)
    · obtain ⟨kk, el, hu⟩ : ∃ kk el, P.underlying t = some (.map kk el) := ⟨_, _, by assumption⟩
      cases e
      cases hy
      cases hx <;> first | (exfalso; simp_all; done) | (rw [Op.equalIn, Sem.run_bind, run_underlying hu]; rfl)
    · rename_i hu
      cases e
      cases hx; cases hy
      rw [Op.equalIn, Sem.run_bind, run_underlying hu]; rfl
    · rename_i hu
      cases e
      cases hx; cases hy <;> (rw [Op.equalIn, Sem.run_bind, run_underlying hu]; rfl)
    · rename_i hu
      cases e
      cases hy; cases hx <;> (rw [Op.equalIn, Sem.run_bind, run_underlying hu]; rfl)
    · rename_i hu
      cases e
      cases hx
      cases hy <;> (rw [Op.equalIn, Sem.run_bind, run_underlying hu]; rfl)
    · obtain ⟨el, hu⟩ : ∃ el, P.underlying t = some (.pointer el) := ⟨_, by assumption⟩
      cases e
      cases hy
      cases hx <;> first | (exfalso; simp_all; done) | (rw [Op.equalIn, Sem.run_bind, run_underlying hu]; rfl)
    · cases e
theorem intBin_sim {op : BinOp} {k : IntKind} {a b : Int} {v : Value} (e : intBin op k a b = some v) (h1 : op ≠ .shl) (h2 : op ≠ .shr) (t : TypeId) :
    (binOp op t (.int k a) (.int k b)).run P w = .ok v w ∧ VR μ v v := by
  unfold intBin at e
  split at e <;> first
    | (cases e; refine ⟨?_, VR.plain rfl⟩; simp [binOp, Op.intArith, Op.intBits, Op.intCmp]; done)
    | (obtain ⟨hc, e⟩ := cond_none_some e; cases e; refine ⟨?_, VR.plain rfl⟩; simp at hc; simp [binOp, Op.intDiv, hc]; done)
    | cases e
theorem shiftBin_sim {op : BinOp} {k k' : IntKind} {a b : Int} {v : Value} (e : shiftBin op k a b = some v) (t : TypeId) :
    (binOp op t (.int k a) (.int k' b)).run P w = .ok v w ∧ VR μ v v := by
  unfold shiftBin at e
  split at e
  · obtain ⟨hc, e⟩ := cond_none_some e
    cases e
    refine ⟨?_, VR.plain rfl⟩
    have : ¬ b < 0 := by simpa using hc
    simp [binOp, Op.shift, this]
  · obtain ⟨hc, e⟩ := cond_none_some e
    cases e
    refine ⟨?_, VR.plain rfl⟩
    have : ¬ b < 0 := by simpa using hc
    simp [binOp, Op.shift, this]
  · cases e
theorem strBin_sim {op : BinOp} {a b : ByteArray} {v : Value} (e : strBin op a b = some v) (t : TypeId) :
    (binOp op t (.string a) (.string b)).run P w = .ok v w ∧ VR μ v v := by
  unfold strBin at e
  split at e <;> first
    | (cases e; refine ⟨?_, VR.plain rfl⟩; simp [binOp, Op.stringOp]; done)
    | (obtain ⟨hc, e⟩ := cond_some e; cases e; refine ⟨?_, VR.plain rfl⟩; have := Nat.le_of_ble_eq_true hc
       have h9 : ¬ ((a.size + b.size : Nat) : Int) > IntKind.i64.max := by
         have : IntKind.i64.max = 9223372036854775807 := by decide
         omega
       simp only [binOp, Op.stringOp, h9, if_false, Sem.run_pure]; done)
    | cases e
theorem guardOk_sim {t : TypeId} {x x' y' : Value} {op : BinOp} {ox oy : Operand} (h : guardOk P t x = true) (hx : VR μ x x') : (eqGuard op t ox oy x' y').run P w = .ok () w := by
  cases hx <;> simp only [guardOk] at h
  case agg xs ys hs hh =>
    cases y' with
    | agg zs => exact run_eqGuard_agg w op t ox oy ys zs (by simpa using h)
    | _ => cases op <;> simp [eqGuard]
  all_goals first
    | (cases op <;> simp [eqGuard]; done)
    | (simp at h; done)
theorem binOp_eq_of {d : Nat} {t : TypeId} {x y x' y' : Value} {b : Bool} (e : aEq P (d + 1) t x y = some b) (hx : VR μ x x') (hy : VR μ y y')
    (hni : ∀ k a k' c, x = .int k a → y = .int k' c → False) (hns : ∀ a c, x = .string a → y = .string c → False) :
    (binOp .eql t x' y').run P w = ((Op.equal t x' y').run P w).andThen (fun b w' => .ok (.bool b) w') ∧
    (binOp .neq t x' y').run P w = ((Op.equal t x' y').run P w).andThen (fun b w' => .ok (.bool (!b)) w') := by
  unfold aEq at e
  split at e
  · obtain rfl := hx.bool_left; obtain rfl := hy.bool_left; constructor <;> simp [binOp]
  · exact (hni _ _ _ _ rfl rfl).elim
  · exact (hns _ _ rfl rfl).elim
  · obtain ⟨xs', rfl, _⟩ := hx.agg_left; obtain ⟨ys', rfl, _⟩ := hy.agg_left; constructor <;> simp [binOp]
  · obtain ⟨xs', rfl, _⟩ := hx.agg_left; obtain ⟨ys', rfl, _⟩ := hy.agg_left; constructor <;> simp [binOp]
  · clear e hni hns; cases hx <;> cases hy <;> constructor <;> simp [binOp]
  · clear e hni hns; cases hy; cases hx <;> constructor <;> simp [binOp]
  · clear e hni hns; cases hx; cases hy <;> constructor <;> simp [binOp]
  · clear e hni hns; cases hy; cases hx <;> constructor <;> simp [binOp]
  · clear e hni hns; cases hx; cases hy; constructor <;> simp [binOp]
  · clear e hni hns; cases hx; cases hy <;> constructor <;> simp [binOp]
  · clear e hni hns; cases hy; cases hx <;> constructor <;> simp [binOp]
  · clear e hni hns; cases hx; cases hy <;> constructor <;> simp [binOp]
  · clear e hni hns; cases hy; cases hx <;> constructor <;> simp [binOp]
  · cases e
theorem aBinOp_sim {op : BinOp} {t : TypeId} {x y x' y' v : Value} {ox oy : Operand} (e : aBinOp P op t x y = some v) (hx : VR μ x x') (hy : VR μ y y') :
    ∃ v', (do eqGuard op t ox oy x' y'; binOp op t x' y' : Sem Value).run P w = .ok v' w ∧ VR μ v v' := by
  rw [aBinOp_eq] at e
  unfold aBinOp0 at e
  split at e
  · rename_i k a k' b
    obtain rfl := hx.int_left; obtain rfl := hy.int_left
    have hg : (eqGuard op t ox oy (.int k a) (.int k' b)).run P w = .ok () w := by cases op <;> simp [eqGuard]
    simp only [Sem.run_bind, hg, Result.andThen_ok]
    split at e
    · obtain ⟨h1, h2⟩ := shiftBin_sim (P := P) (w := w) (μ := μ) (k' := k') e t; exact ⟨v, h1, h2⟩
    · obtain ⟨h1, h2⟩ := shiftBin_sim (P := P) (w := w) (μ := μ) (k' := k') e t; exact ⟨v, h1, h2⟩
    · rename_i hn1 hn2
      obtain ⟨hc, e1⟩ := cond_some e
      clear e
      have hc : k = k' := by simpa using hc
      subst hc
      obtain ⟨h1, h2⟩ := intBin_sim (P := P) (w := w) (μ := μ) e1 hn1 hn2 t
      exact ⟨v, h1, h2⟩
  · rename_i a b
    obtain rfl := hx.str_left; obtain rfl := hy.str_left
    have hg : (eqGuard op t ox oy (.string a) (.string b)).run P w = .ok () w := by cases op <;> simp [eqGuard]
    simp only [Sem.run_bind, hg, Result.andThen_ok]
    obtain ⟨h1, h2⟩ := strBin_sim (P := P) (w := w) (μ := μ) e t
    exact ⟨v, h1, h2⟩
  · rename_i hni hns
    split at e
    · obtain ⟨hg, e⟩ := cond_some e
      simp only [Option.bind_eq_some_iff] at e
      obtain ⟨b, hb, e⟩ := e
      cases e
      have h1 := guardOk_sim (w := w) (y' := y') (op := .eql) (ox := ox) (oy := oy) hg hx
      have h2 := aEq_sim eqDepth hb hx hy w 10000 (by decide)
      refine ⟨.bool b, ?_, .bool b⟩
      have h3 := (binOp_eq_of (w := w) (d := 19) hb hx hy hni hns).1
      simp only [Sem.run_bind, h1, Result.andThen_ok, h3, Op.equal, Op.maxDepth, h2]
    · obtain ⟨hg, e⟩ := cond_some e
      simp only [Option.bind_eq_some_iff] at e
      obtain ⟨b, hb, e⟩ := e
      cases e
      have h1 := guardOk_sim (w := w) (y' := y') (op := .neq) (ox := ox) (oy := oy) hg hx
      have h2 := aEq_sim eqDepth hb hx hy w 10000 (by decide)
      refine ⟨.bool (!b), ?_, .bool _⟩
      have h3 := (binOp_eq_of (w := w) (d := 19) hb hx hy hni hns).2
      simp only [Sem.run_bind, h1, Result.andThen_ok, h3, Op.equal, Op.maxDepth, h2]
    · cases e
theorem aUnOp_sim {op : UnOp} {x x' v : Value} (e : aUnOp op x = some v) (hx : VR μ x x') : ∃ v', (Op.unary op x').run P w = .ok v' w ∧ VR μ v v' := by
  unfold aUnOp at e
  split at e
  · obtain rfl := hx.int_left
    split at e
    · cases e; exact ⟨_, by simp [Op.unary, Op.intArith], VR.plain rfl⟩
    · rename_i k n
      unfold intBin at e
      simp at e
      subst e
      exact ⟨_, by simp [Op.unary, Op.intBits], VR.plain rfl⟩
    · cases e
  · obtain rfl := hx.bool_left
    split at e
    · cases e; exact ⟨_, by simp [Op.unary], VR.plain rfl⟩
    · cases e
  · cases e
theorem aConvert_sim {s d : TypeId} {x x' v : Value} (e : aConvert P s d x = some v) (hx : VR μ x x') (hs : ∃ ds, P.underlying s = some ds) : ∃ v', (convert s d x').run P w = .ok v' w ∧ VR μ v v' := by
  obtain ⟨ds, hds⟩ := hs
  unfold aConvert at e
  split at e
  · rename_i k k2 n hu
    cases e; obtain rfl := hx.int_left
    refine ⟨_, ?_, VR.plain rfl⟩
    simp only [convert, Sem.run_bind, run_underlying hds, run_underlying hu, Result.andThen_ok]
    cases ds <;> simp [Conv.intToInt]
  · rename_i s hu
    cases e; obtain rfl := hx.str_left
    refine ⟨_, ?_, VR.plain rfl⟩
    simp only [convert, Sem.run_bind, run_underlying hds, run_underlying hu, Result.andThen_ok]
    cases ds <;> simp
  · cases e
end Go.Ab

namespace Go.Ab
open Go
set_option linter.unusedVariables false
set_option linter.unusedSimpArgs false
variable {H : Type} [HeapC H] {P : Program} {μ : Mu} {A : H} {w : World}
def PsR (μ : Mu) (ps ps' : List (Nat × Value)) : Prop := ps.map (·.1) = ps'.map (·.1) ∧ VRs μ (ps.map (·.2)) (ps'.map (·.2))
theorem PsR.left {i : Nat} {v : Value} {ps ps' : List (Nat × Value)} (h : PsR μ ((i, v) :: ps) ps') : ∃ v' qs, ps' = (i, v') :: qs ∧ VR μ v v' ∧ PsR μ ps qs := by
  cases ps' with
  | nil => simp [PsR] at h
  | cons p qs =>
    obtain ⟨j, v'⟩ := p
    obtain ⟨h1, h2⟩ := h
    simp at h1 h2
    obtain ⟨rfl, h1⟩ := h1
    exact ⟨v', qs, rfl, h2.head, h1, h2.tail⟩
theorem PsR.nil_left {ps' : List (Nat × Value)} (h : PsR μ [] ps') : ps' = [] := by
  cases ps' with
  | nil => rfl
  | cons p qs => simp [PsR] at h
theorem TmR.evalPs {tm : Tm} {nt : Nat} {a : Act} (h : TmR μ tm nt a.tmps) : ∀ {ps : List (Nat × Operand)} {vs : List (Nat × Value)}, Ab.evalPs tm ps = some vs → PsR μ vs (ps.map fun (i, x) => (i, a.eval x))
  | [], vs, e => by simp [Ab.evalPs] at e; subst e; exact ⟨rfl, VRs.nil μ⟩
  | (i, x) :: ps, vs, e => by
    simp only [Ab.evalPs, Option.bind_eq_some_iff] at e
    obtain ⟨v, hv, ws, hw, e⟩ := e
    cases e
    obtain ⟨h1, h2⟩ := h.evalPs hw
    exact ⟨by simpa using h1, VRs.cons (h.eval hv) h2⟩
theorem foldl_splice (off : Nat) : ∀ (xs : List Value) (k : Nat) (cs : Array Value), off + k + xs.length ≤ cs.size →
    ((xs.zipIdx k).foldl (fun (cs : Array Value) (p : Value × Nat) => cs.setIfInBounds (off + p.2) p.1) cs).toList = splice cs.toList (off + k) xs
  | [], k, cs, h => by simp [splice]
  | x :: xs, k, cs, h => by
    simp only [List.zipIdx_cons, List.foldl_cons]
    simp at h
    rw [foldl_splice off xs (k + 1) _ (by simp; omega)]
    simp only [splice, Array.toList_setIfInBounds]
    apply List.ext_getElem?
    intro j
    simp only [List.getElem?_append, List.length_append, List.length_take, List.length_set, List.getElem?_take, List.getElem?_drop, List.getElem?_set, Array.length_toList, List.length_cons]
    have hmin1 : min (off + (k + 1)) cs.size = off + k + 1 := by omega
    have hmin2 : min (off + k) cs.size = off + k := by omega
    simp only [hmin1, hmin2]
    by_cases h1 : j < off + k
    · have : j < off + k + 1 + xs.length := by omega
      have h2 : j < off + k + 1 := by omega
      have h3 : j < off + (k + 1) := by omega
      have h4 : j < off + k + (xs.length + 1) := by omega
      have h5 : ¬ off + k = j := by omega
      simp [h1, h2, h3, h4, h5, this]
    · by_cases h2 : j = off + k
      · subst h2
        have : off + k < off + k + 1 + xs.length := by omega
        have h3 : off + k < off + (k + 1) := by omega
        have h4 : off + k < off + k + (xs.length + 1) := by omega
        have h5 : off + k < cs.size := by omega
        simp [this, h3, h4, h5]
      · by_cases h3 : j < off + k + 1 + xs.length
        · have h4 : ¬ j < off + k + 1 := by omega
          have h5 : j < off + k + (xs.length + 1) := by omega
          have h6 : j - (off + k) = (j - (off + k + 1)) + 1 := by omega
          simp [h1, h3, h4, h5, h6]
        · have h4 : ¬ j < off + k + (xs.length + 1) := by omega
          have h6 : ¬ off + k = off + (k + 1) + xs.length + (j - (off + k + 1 + xs.length)) := by omega
          simp [h3, h4, h6]
          congr 1
          omega
theorem fill_sim {place : Nat → Option (Nat × Nat)} : ∀ {ps ps' : List (Nat × Value)} {cs cs' r : List Value}, fillL place cs ps = some r → PsR μ ps ps' → VRs μ cs cs' →
    ∃ r', Instr.fill place cs'.toArray ps' = some r' ∧ VRs μ r r'.toList
  | [], ps', cs, cs', r, e, hp, hc => by
    rw [hp.nil_left]
    simp [fillL] at e
    subst e
    exact ⟨_, rfl, by simpa using hc⟩
  | (i, v) :: ps, ps', cs, cs', r, e, hp, hc => by
    obtain ⟨v', qs, rfl, hv, hq⟩ := hp.left
    simp only [fillL, Option.bind_eq_some_iff] at e
    obtain ⟨⟨off, size⟩, hpl, e⟩ := e
    obtain ⟨hb, e⟩ := cond_some e
    simp only [Bool.and_eq_true] at hb
    have hb1 := Nat.eq_of_beq_eq_true hb.1
    have hb2 := Nat.le_of_ble_eq_true hb.2
    have hvs : v'.cells.size = size := by have := hv.cells.1; simp at this; omega
    have hcl : cs'.length = cs.length := hc.1.symm
    have hspl : VRs μ (splice cs off v.cells.toList) (splice cs' off v'.cells.toList) := by
      unfold splice
      rw [show off + v'.cells.toList.length = off + v.cells.toList.length from by have := hv.cells.1; omega]
      exact ((hc.take _).append hv.cells).append (hc.drop _)
    have hfold := foldl_splice off v'.cells.toList 0 cs'.toArray (by simp only [Array.length_toList, List.size_toArray, Nat.add_zero]; omega)
    obtain ⟨r', h1, h2⟩ := fill_sim e hq hspl
    refine ⟨r', ?_, h2⟩
    have hcond : (decide (v'.cells.size ≠ size) || decide (off + v'.cells.size > cs'.toArray.size)) = false := by
      simp [hvs]; omega
    simp only [Instr.fill, hpl]
    rw [if_neg (by simpa using hcond)]
    rw [← h1]
    congr 1
    apply Array.ext'
    rw [← Array.foldl_toList, Array.toList_zipIdx]
    simpa using hfold
theorem placeOf_run {t : TypeId} {pl : Nat → Option (Nat × Nat)} (h : placeOf P t = some pl) :
    (∃ fs, P.underlying t = some (.struct fs) ∧ (∀ f ∈ fs.toList, ∃ z, sizeT P f.type = some z) ∧ pl = fun i => (fs[i]?).bind fun f => (sizeT P f.type).bind fun z => some (f.offset, z)) ∨
    (∃ n e z, P.underlying t = some (.array n e) ∧ sizeT P e = some z ∧ pl = fun i => some (i * z, z)) := by
  unfold placeOf at h
  split at h
  · obtain ⟨hc, h⟩ := cond_some h
    cases h
    exact .inl ⟨_, ‹_›, fun f hf => Option.isSome_iff_exists.1 (List.all_eq_true.1 hc f hf), rfl⟩
  · simp only [Option.bind_eq_some_iff] at h
    obtain ⟨z, hz, h⟩ := h
    cases h
    exact .inr ⟨_, _, _, ‹_›, hz, rfl⟩
  · cases h
theorem run_mapM_places : ∀ (fs : List Field), (∀ f ∈ fs, ∃ z, sizeT P f.type = some z) → ∀ (w : World),
    (fs.mapM (m := Sem) fun f => do pure (f.offset, ← sizeOf f.type)).run P w = .ok (fs.map fun f => (f.offset, (sizeT P f.type).getD 0)) w
  | [], _, w => by simp
  | f :: fs, h, w => by
    obtain ⟨z, hz⟩ := h f (by simp)
    have ih := run_mapM_places fs (fun g hg => h g (by simp [hg])) w
    rw [List.mapM_cons]
    simp only [Sem.run_bind, run_sizeOf' hz, Result.andThen_ok, Sem.run_pure, ih]
    simp [hz]
theorem fillL_places {pl pl' : Nat → Option (Nat × Nat)} : ∀ {ps : List (Nat × Value)} {cs r : List Value}, (∀ i p, pl i = some p → pl' i = some p) → fillL pl cs ps = some r → fillL pl' cs ps = some r
  | [], cs, r, h, e => e
  | (i, v) :: ps, cs, r, h, e => by
    simp only [fillL, Option.bind_eq_some_iff] at e ⊢
    obtain ⟨p, hp, e⟩ := e
    obtain ⟨hb, e⟩ := cond_some e
    exact ⟨p, h i p hp, by rw [hb]; exact fillL_places h e⟩
theorem aBuild_sim {t : TypeId} {ps ps' : List (Nat × Value)} {v : Value} (e : aBuild P t ps = some v) (hp : PsR μ ps ps') : ∃ v', (Instr.build t ps'.toArray).run P w = .ok v' w ∧ VR μ v v' := by
  simp only [aBuild, Option.bind_eq_some_iff] at e
  obtain ⟨z, hz, e⟩ := e
  obtain ⟨hpz, e⟩ := cond_some e
  simp only [Option.bind_eq_some_iff] at e
  obtain ⟨pl, hpl, cs, hcs, e⟩ := e
  cases e
  have hzr : VRs μ z.cells.toList z.cells.toList := (VR.plainL (μ := μ) hpz).cells
  rcases placeOf_run hpl with ⟨fs, hu, hall, rfl⟩ | ⟨n, el, sz, hu, hsz, rfl⟩
  · have hm := run_mapM_places (P := P) fs.toList hall w
    have hcs' := fillL_places (pl' := fun i => (fs.map fun f => (f.offset, (sizeT P f.type).getD 0))[i]?) (fun i p h => by
      simp only [Option.bind_eq_some_iff] at h
      obtain ⟨f, hf, y, hy, h⟩ := h
      cases h
      simp [hf, hy]) hcs
    obtain ⟨r', h1, h2⟩ := fill_sim hcs' hp hzr
    refine ⟨.agg r', ?_, VR.agg_iff.2 (by simpa using h2)⟩
    have hma : (fs.mapM (m := Sem) fun f => do pure (f.offset, ← sizeOf f.type)).run P w = .ok (fs.map fun f => (f.offset, (sizeT P f.type).getD 0)) w := by
      rw [Array.mapM_eq_mapM_toList]
      simp only [Sem.run_map, hm, Result.andThen_ok]
      congr 1
      apply Array.ext'
      simp
    simp only [Instr.build, Sem.run_bind, run_zeroValue' hz, run_underlying hu, Result.andThen_ok, hma]
    simp only [Array.toArray_toList] at h1
    simp only [h1, Sem.run_pure]
  · obtain ⟨r', h1, h2⟩ := fill_sim hcs hp hzr
    refine ⟨.agg r', ?_, VR.agg_iff.2 (by simpa using h2)⟩
    simp only [Array.toArray_toList] at h1
    simp only [Instr.build, Sem.run_bind, run_zeroValue' hz, run_underlying hu, Result.andThen_ok, run_sizeOf' hsz, h1, Sem.run_pure]
theorem zeros_length (z : List Value) : ∀ n, (zeros z n).length = n * z.length
  | 0 => by simp [zeros]
  | n + 1 => by simp [zeros, zeros_length z n, Nat.add_mul, Nat.add_comm]
theorem zeros_get (z : List Value) : ∀ (n i : Nat), i < n * z.length → (zeros z n)[i]? = z[i % z.length]?
  | 0, i, h => by simp at h
  | n + 1, i, h => by
    simp only [zeros]
    have hz : 0 < z.length := by
      rcases Nat.eq_zero_or_pos z.length with h0 | h0
      · rw [h0] at h; simp at h
      · exact h0
    by_cases hi : i < z.length
    · rw [List.getElem?_append_left hi, Nat.mod_eq_of_lt hi]
    · rw [List.getElem?_append_right (by omega), zeros_get z n (i - z.length) (by rw [Nat.add_mul] at h; omega)]
      congr 1
      rw [Nat.mod_eq_sub_mod (by omega : i ≥ z.length)]
theorem zeros_array (z : Array Value) (n : Nat) : ((Array.range (n * z.size)).map fun i => z[i % z.size]!).toList = zeros z.toList n := by
  apply List.ext_getElem?
  intro i
  simp only [Array.toList_map, Array.toList_range, List.getElem?_map]
  by_cases h : i < n * z.size
  · rw [zeros_get z.toList n i (by simpa using h), List.getElem?_range h]
    have hz : 0 < z.size := by
      rcases Nat.eq_zero_or_pos z.size with h0 | h0
      · rw [h0] at h; simp at h
      · exact h0
    have hm : i % z.size < z.size := Nat.mod_lt _ hz
    simp [getElem!_pos, hm]
  · rw [List.getElem?_eq_none (by simp; omega), List.getElem?_eq_none (by rw [zeros_length]; simp; omega)]
    rfl
theorem zeros_plain {z : List Value} (h : VRs μ z z) : ∀ n, VRs μ (zeros z n) (zeros z n)
  | 0 => VRs.nil μ
  | n + 1 => h.append (zeros_plain h n)
theorem elemT_some {t e : TypeId} (h : elemT P t = some e) : P.underlying t = some (.slice e) := by
  unfold elemT at h
  split at h
  · cases h; assumption
  · cases h
theorem newB_sim {c : Nat} (hR : R μ A w) {id : Nat} (hid : μ id = none) {cs cs' : List Value} (h : VRs μ cs cs') (E : TypeId) :
    Ext μ A c w (fun i => i = id) (μ.upd id ⟨w.heap.size, 0, none⟩) (newB A id cs) c { w with heap := w.heap.push (.cells cs'.toArray E) } := by
  refine Ext.alloc hR hid rfl rfl rfl rfl rfl rfl ?_
  refine ⟨cs'.toArray, E, (0, 0), by simp, fun k x hx => ?_, fun _ => rfl, rfl⟩
  obtain ⟨y, hy, hv⟩ := h.get hx
  exact ⟨y, by simpa using hy, hv.mono (Mu.le_upd hid)⟩
theorem ptrTo_VR {id : Nat} {b : Nat} (hid : μ id = none) : VR (μ.upd id ⟨b, 0, none⟩) (ptrTo id) (.pointer (some ⟨b, 0, none⟩)) := by
  have := VR.ptr (μ := μ.upd id ⟨b, 0, none⟩) (o := 0) (Mu.upd_self μ id ⟨b, 0, none⟩)
  simpa [ptrTo] using this
theorem slTo_VR {id : Nat} {b l c : Nat} : VR (μ.upd id ⟨b, 0, none⟩) (.slice (some ⟨id, 0, none⟩) l c) (.slice (some ⟨b, 0, none⟩) l c) := by
  have := VR.sl (μ := μ.upd id ⟨b, 0, none⟩) (o := 0) (l := l) (c := c) (c' := c) (Mu.upd_self μ id ⟨b, 0, none⟩) (Nat.le_refl _) (.inl rfl)
  simpa using this
theorem aBuildSlice_sim {t : TypeId} {len : Nat} {ps ps' : List (Nat × Value)} {cs : List Value} (e : aBuildSlice P t len ps = some cs) (hp : PsR μ ps ps') :
    ∃ cs' E, (Instr.buildSlice t len ps'.toArray).run P w = .ok (.slice (some ⟨w.heap.size, 0, none⟩) len len) { w with heap := w.heap.push (.cells cs'.toArray E) } ∧ VRs μ cs cs' := by
  simp only [aBuildSlice, Option.bind_eq_some_iff] at e
  obtain ⟨el, hel, sz, hsz, zv, hz, e⟩ := e
  obtain ⟨hc, e⟩ := cond_some e
  simp only [Bool.and_eq_true] at hc
  have hc1 := Nat.le_of_ble_eq_true hc.1.1
  have hc3 := Nat.eq_of_beq_eq_true hc.2
  have hu := elemT_some hel
  have hzr : VRs μ zv.cells.toList zv.cells.toList := (VR.plainL (μ := μ) hc.1.2).cells
  obtain ⟨r', h1, h2⟩ := fill_sim e hp (zeros_plain hzr len)
  refine ⟨r'.toList, el, ?_, h2⟩
  have h16 : ¬ len * sz > 2 ^ 24 := by omega
  have hzeros : ((Array.range (len * sz)).map fun x => (if len * sz = 0 then #[] else zv.cells)[x % (if len * sz = 0 then #[] else zv.cells).size]!) = (zeros zv.cells.toList len).toArray := by
    apply Array.ext'
    by_cases h0 : len * sz = 0
    · rw [h0]
      have : (zeros zv.cells.toList len).length = 0 := by rw [zeros_length]; simp [hc3, h0]
      rw [List.eq_nil_of_length_eq_zero this]
      simp
    · simp only [h0, if_false]
      rw [← hc3]
      simpa using zeros_array zv.cells len
  simp only [Instr.buildSlice, Sem.run_bind, run_underlying hu, Result.andThen_ok, run_sizeOf' hsz]
  rw [if_neg h16]
  by_cases h0 : len * sz = 0
  · simp only [h0, if_true] at hzeros
    simp only [Sem.run_bind, h0, if_true, Sem.run_pure, Result.andThen_ok, hzeros, h1, newRow, run_newObj]
  · simp only [h0, if_false] at hzeros
    simp only [Sem.run_bind, h0, if_false, run_zeroValue' hz, Sem.run_pure, Result.andThen_ok, hzeros, h1, newRow, run_newObj]
theorem aInt_some {v : Value} {i : Int} (h : aInt v = some i) : ∃ k, v = .int k i := by
  unfold aInt at h
  split at h
  · cases h; exact ⟨_, rfl⟩
  · cases h
theorem wrap_small {n : Int} (h0 : 0 ≤ n) (h : n ≤ 281474976710656) : IntKind.i64.wrap n = n := by
  unfold IntKind.wrap IntKind.bits IntKind.signed
  simp only [Bool.true_and]
  have : n % (2 ^ 64 : Int) = n := Int.emod_eq_of_lt h0 (by omega)
  rw [this]
  have h2 : ¬ (n ≥ (2 ^ (64 - 1) : Int)) := by omega
  simp [h2]
  omega
theorem aMakeSlice_sim {t : TypeId} {l k l' k' : Value} {r : List Value × Nat × Nat} (e : aMakeSlice P t l k = some r) (hl : VR μ l l') (hk : VR μ k k') :
    ∃ cs' E, (Instr.makeSlice t l' k').run P w = .ok (.slice (some ⟨w.heap.size, 0, none⟩) r.2.1 r.2.2) { w with heap := w.heap.push (.cells cs'.toArray E) } ∧ VRs μ r.1 cs' := by
  simp only [aMakeSlice, Option.bind_eq_some_iff] at e
  obtain ⟨el, hel, sz, hsz, by', hby, zv, hz, ln, hln, cn, hcn, e⟩ := e
  obtain ⟨hc, e⟩ := cond_some e
  cases e
  simp only [Bool.and_eq_true, decide_eq_true_eq] at hc
  obtain ⟨⟨⟨⟨⟨h1, h2⟩, h3⟩, h4⟩, h5⟩, h6⟩ := hc
  have h6 := Nat.eq_of_beq_eq_true h6
  have hu := elemT_some hel
  obtain ⟨k1, rfl⟩ := aInt_some hln
  obtain ⟨k2, rfl⟩ := aInt_some hcn
  obtain rfl := hl.int_left
  obtain rfl := hk.int_left
  have hzr : VRs μ zv.cells.toList zv.cells.toList := (VR.plainL (μ := μ) h5).cells
  refine ⟨zeros zv.cells.toList cn.toNat, el, ?_, zeros_plain hzr _⟩
  have hti : ∃ i, P.info? el = some i ∧ i.bytes = by' := by
    simp only [bytesT, Option.map_eq_some_iff] at hby; exact hby
  obtain ⟨inf, hinf, hbytes⟩ := hti
  have w1 := wrap_small (n := ln) h1 (by omega)
  have w2 := wrap_small (n := cn) (by omega) h4
  have t1 : (decide (cn < 0) || decide ((by' : Int) * cn > 2 ^ 48)) = false := by
    have a1 : ¬ cn < 0 := by omega
    have a2 : ¬ (by' : Int) * cn > 2 ^ 48 := by omega
    rw [decide_eq_false a1, decide_eq_false a2]; rfl
  have hcnd : ((decide (cn < 0) || decide ((by' : Int) * cn > 2 ^ 48)) || decide (ln < 0) || decide (ln > cn)) = false := by
    rw [t1]
    have a1 : ¬ ln < 0 := by omega
    have a2 : ¬ ln > cn := by omega
    simp [a1, a2]
  have hzeros : ((Array.range (cn.toNat * sz)).map fun x => (if cn.toNat * sz = 0 then #[] else zv.cells)[x % (if cn.toNat * sz = 0 then #[] else zv.cells).size]!) = (zeros zv.cells.toList cn.toNat).toArray := by
    apply Array.ext'
    by_cases h0 : cn.toNat * sz = 0
    · rw [h0]
      have : (zeros zv.cells.toList cn.toNat).length = 0 := by rw [zeros_length]; simp [h6, h0]
      rw [List.eq_nil_of_length_eq_zero this]
      simp
    · simp only [h0, if_false]
      rw [← h6]
      simpa using zeros_array zv.cells cn.toNat
  by_cases h0 : cn.toNat * sz = 0
  · simp only [h0, if_true] at hzeros
    simp only [Instr.makeSlice, Sem.run_bind, run_underlying hu, Result.andThen_ok, asInt, asIntOf, Sem.run_pure, run_typeInfo' hinf, hbytes, w1, w2]
    rw [if_neg (by simpa using hcnd)]
    simp only [Sem.run_bind, run_askRoom, Result.andThen_ok, run_sizeOf' hsz, h0, if_true, Sem.run_pure, hzeros, newRow, run_newObj]
  · simp only [h0, if_false] at hzeros
    simp only [Instr.makeSlice, Sem.run_bind, run_underlying hu, Result.andThen_ok, asInt, asIntOf, Sem.run_pure, run_typeInfo' hinf, hbytes, w1, w2]
    rw [if_neg (by simpa using hcnd)]
    simp only [Sem.run_bind, run_askRoom, Result.andThen_ok, run_sizeOf' hsz, h0, if_false, run_zeroValue' hz, Sem.run_pure, hzeros, newRow, run_newObj]
end Go.Ab

namespace Go.Ab
open Go
set_option linter.unusedVariables false
set_option linter.unusedSimpArgs false
variable {H : Type} [HeapC H] {P : Program} {μ : Mu} {A : H} {w : World}
theorem run_forIn_unit {α : Type} (f : α → PUnit → Sem (ForInStep PUnit)) : ∀ (l : List α), (∀ a ∈ l, ∀ (u : PUnit) (w : World), (f a u).run P w = .ok (.yield ⟨⟩) w) → ∀ (w : World),
    (forIn l PUnit.unit f : Sem PUnit).run P w = .ok ⟨⟩ w
  | [], _, w => by simp
  | a :: l, h, w => by
    rw [List.forIn_cons]
    simp only [Sem.run_bind, h a (by simp), Result.andThen_ok]
    exact run_forIn_unit f l (fun b hb => h b (by simp [hb])) w
theorem keyOk_sim : ∀ (d : Nat) {t : TypeId} {v v' : Value}, keyOk P d t v = true → VR μ v v' → ∀ (em : Bool) (k : Nat) (w : World), d ≤ k → (Instr.checkKey em k t v').run P w = .ok () w
  | 0, t, v, v', e, hv => by simp [keyOk] at e
  | d + 1, t, v, v', e, hv => by
    intro em k w hk
    obtain ⟨k, rfl⟩ : ∃ n, k = n + 1 := ⟨k - 1, by omega⟩
    have hk : d ≤ k := by omega
    have ih := fun {t v v'} => keyOk_sim d (t := t) (v := v) (v' := v')
    unfold keyOk at e
    split at e
    · rename_i hu; obtain rfl := hv.int_left
      simp only [Instr.checkKey, Sem.run_bind, run_underlying hu, Result.andThen_ok, Sem.run_pure]
    · rename_i hu; obtain rfl := hv.str_left
      simp only [Instr.checkKey, Sem.run_bind, run_underlying hu, Result.andThen_ok, Sem.run_pure]
    · rename_i hu; obtain rfl := hv.bool_left
      simp only [Instr.checkKey, Sem.run_bind, run_underlying hu, Result.andThen_ok, Sem.run_pure]
    · rename_i len el cs hu
      obtain ⟨cs', rfl, hcs⟩ := hv.agg_left
      split at e
      · rename_i n hn
        simp only [Instr.checkKey, Sem.run_bind, run_underlying hu, Result.andThen_ok]
        simp only [Std.Legacy.Range.forIn_eq_forIn_range', Std.Legacy.Range.size, Nat.sub_zero, Nat.add_one_sub_one, Nat.div_one]
        refine Eq.trans (congrArg (fun r => Result.andThen r _) (run_forIn_unit (P := P) _ _ (fun i hi u w => ?_) w)) rfl
        have hi' : i < len := by simpa [List.mem_range'] using hi
        have := List.all_eq_true.1 e i (List.mem_range.2 hi')
        split at this
        · rename_i x hx
          obtain ⟨x', h1, h2⟩ := aPart_sim (w := w) hx hcs
          simp only [Array.toArray_toList] at h1
          simp only [Sem.run_bind, run_sizeOf' hn, Result.andThen_ok, h1, ih this h2 em k w hk, Sem.run_pure]
        · cases this
      · cases e
    · rename_i fs cs hu
      obtain ⟨cs', rfl, hcs⟩ := hv.agg_left
      simp only [Instr.checkKey, Sem.run_bind, run_underlying hu, Result.andThen_ok]
      rw [← Array.forIn_toList]
      refine Eq.trans (congrArg (fun r => Result.andThen r _) (run_forIn_unit (P := P) _ _ (fun f hf u w => ?_) w)) rfl
      have := List.all_eq_true.1 e f hf
      by_cases hn : f.name = "_"
      · simp [hn]
      · have hb : (f.name == "_") = false := by simpa using hn
        simp only [hb, Bool.false_or] at this
        split at this
        · rename_i x hx
          obtain ⟨x', h1, h2⟩ := aPart_sim (w := w) hx hcs
          simp only [Array.toArray_toList] at h1
          simp only [ne_eq, hn, not_false_eq_true, if_true, Sem.run_bind, Result.andThen_ok, h1, ih this h2 em k w hk, Sem.run_pure]
        · cases this
    · cases e
theorem EsR.left {x : Value × Value} {es : List (Value × Value)} {es' : List MapEntry} (h : EsR μ (x :: es) es') : ∃ y ys, es' = y :: ys ∧ VR μ x.1 y.key ∧ VR μ x.2 y.val ∧ EsR μ es ys := by
  cases es' with
  | nil => exact absurd h.1 (by simp)
  | cons y ys =>
    obtain ⟨h1, h2⟩ := h
    exact ⟨y, ys, rfl, (h2 0 x y (by simp) (by simp)).1, (h2 0 x y (by simp) (by simp)).2, by simpa using h1, fun k a b ha hb => h2 (k + 1) a b (by simpa using ha) (by simpa using hb)⟩
theorem EsR.nil_left {es' : List MapEntry} (h : EsR μ [] es') : es' = [] := by
  cases es' with
  | nil => rfl
  | cons y ys => exact absurd h.1 (by simp)
def FoundR (μ : Mu) : Option (Nat × Value) → Option (Nat × Value) → Prop
  | none, none => True
  | some (i, v), some (j, v') => i = j ∧ VR μ v v'
  | _, _ => False
theorem findAsking_sim {kt : TypeId} {k k' : Value} (hk : VR μ k k') : ∀ {es : List (Value × Value)} {es' : List MapEntry} {i : Nat} {r : Option (Nat × Value)}, findM P kt k es i = some r → EsR μ es es' → ∀ (w : World),
    ∃ r', (Instr.findAsking kt k' es' i).run P w = .ok r' w ∧ FoundR μ r r'
  | [], es', i, r, e, he, w => by
    rw [he.nil_left]
    simp [findM] at e
    subst e
    exact ⟨none, rfl, trivial⟩
  | (a, v) :: es, es', i, r, e, he, w => by
    obtain ⟨y, ys, rfl, h1, h2, h3⟩ := he.left
    simp only [findM, Option.bind_eq_some_iff] at e
    obtain ⟨b, hb, e⟩ := e
    have hq := aEq_sim eqDepth hb hk h1 w 10000 (by decide)
    simp only [Instr.findAsking, Sem.run_bind, Op.equal, Op.maxDepth, hq, Result.andThen_ok]
    cases b with
    | true =>
      simp only [cond_true, Option.some.injEq] at e
      subst e
      exact ⟨some (i, y.val), by simp, rfl, h2⟩
    | false =>
      simp only [cond_false] at e
      obtain ⟨r', h4, h5⟩ := findAsking_sim hk e h3 w
      exact ⟨r', by simpa using h4, h5⟩
theorem findNow_eq {td : TypeDesc} {kt : TypeId} (hu : P.underlying kt = some td) {k : Value} : ∀ {es : List MapEntry} {i : Nat} {r r' : Option (Nat × Value)} {w : World},
    Instr.findNow td k es i = some r → (Instr.findAsking kt k es i).run P w = .ok r' w → r = r'
  | [], i, r, r', w, h, h' => by
    simp [Instr.findNow] at h
    simp [Instr.findAsking] at h'
    rw [← h, ← h']
  | e :: es, i, r, r', w, h, h' => by
    unfold Instr.findNow at h
    have key : ∀ b, Instr.sameNow td k e.key = some b → (Op.equal kt k e.key).run P w = .ok b w := by
      intro b hb
      generalize e.key = kk at hb ⊢
      unfold Instr.sameNow at hb
      split at hb
      · split at hb
        · rename_i hkk
          subst hkk
          cases hb
          exact run_equalIn_int (P := P) w 9999 kt _ _ _ _ hu
        · cases hb
      · cases hb; rw [beq_toListBytes]; exact run_equalIn_string (P := P) w 9999 kt _ _ hu
      · cases hb; exact run_equalIn_bool' (P := P) w 9999 kt _ _ hu
      · cases hb
    split at h
    · rename_i hs
      cases h
      simp only [Instr.findAsking, Sem.run_bind, key _ hs, Result.andThen_ok, if_true, Sem.run_pure] at h'
      cases h'; rfl
    · rename_i hs
      simp only [Instr.findAsking, Sem.run_bind, key _ hs, Result.andThen_ok, Bool.false_eq_true, if_false] at h'
      exact findNow_eq hu h h'
    · cases h
theorem findKey_sim {kt : TypeId} {k k' : Value} (hk : VR μ k k') {es : List (Value × Value)} {es' : List MapEntry} {r : Option (Nat × Value)} (hko : ∃ td, P.underlying kt = some td) (e : findM P kt k es 0 = some r) (he : EsR μ es es') (w : World) :
    ∃ r', (Instr.findKey kt k' es').run P w = .ok r' w ∧ FoundR μ r r' := by
  obtain ⟨td, hu⟩ := hko
  obtain ⟨r', h1, h2⟩ := findAsking_sim hk e he w
  refine ⟨r', ?_, h2⟩
  simp only [Instr.findKey, Sem.run_bind, run_underlying hu, Result.andThen_ok]
  split
  · rename_i q hq
    rw [findNow_eq hu hq h1]
    rfl
  · exact h1
theorem keyOk_under {d : Nat} {t : TypeId} {v : Value} (h : keyOk P d t v = true) : ∃ td, P.underlying t = some td := by
  cases d with
  | zero => simp [keyOk] at h
  | succ d => unfold keyOk at h; split at h <;> first | exact ⟨_, by assumption⟩ | cases h
theorem mapT_some {t : TypeId} {ke : TypeId × TypeId} (h : mapT P t = some ke) : P.underlying t = some (.map ke.1 ke.2) := by
  unfold mapT at h
  split at h
  · cases h; assumption
  · cases h
theorem run_getObj_map {b : Nat} {es : Array MapEntry} {clk : Nat} (h : w.heap[b]? = some (.map es clk)) : (getObj b).run P w = .ok (.map es clk) w := by
  simp [getObj, Sem.run, h]
theorem aLookup_sim (hR : R μ A w) {t : TypeId} {m m' k k' v : Value} {ok : Bool} (e : aLookup P A t m k ok = some v) (hm : VR μ m m') (hk : VR μ k k') :
    ∃ v', (Instr.lookup t m' k' ok).run P w = .ok v' w ∧ VR μ v v' := by
  simp only [aLookup, Option.bind_eq_some_iff] at e
  obtain ⟨ke, hke, e⟩ := e
  obtain ⟨hkok, e⟩ := cond_some e
  simp only [Option.bind_eq_some_iff] at e
  obtain ⟨z, hz, e⟩ := e
  obtain ⟨hpz, e⟩ := cond_some e
  simp only [Option.bind_eq_some_iff] at e
  obtain ⟨es, hes, r, hr, e⟩ := e
  have hu := mapT_some hke
  have hentries : (m' = .map none ∧ es = []) ∨ ∃ (b : Nat) (es' : Array MapEntry) (clk : Nat), m' = .map (some b) ∧ w.heap[b]? = some (.map es' clk) ∧ EsR μ es es'.toList := by
    split at hes
    · cases hes
      cases hm
      exact .inl ⟨rfl, rfl⟩
    · rename_i i
      split at hes
      · cases hes
        rename_i hg
        cases hm with
        | map hm =>
          have hb := hR.blk _ _ hm
          rw [hg] at hb
          obtain ⟨es', clk, h1, h2⟩ := hb
          exact .inr ⟨_, es', clk, rfl, h1, h2⟩
      · cases hes
    · cases hes
  have hrun : ∃ es' : Array MapEntry, EsR μ es es'.toList ∧ ∀ x, ((Instr.checkKey es'.isEmpty 10000 ke.1 k').run P w = .ok () w) → (Instr.findKey ke.1 k' es'.toList).run P w = .ok x w →
      (Instr.lookup t m' k' ok).run P w = (do
        let (v, ok') ← match x with
          | some (_, v) => pure (v, true)
          | none => pure (← zeroValue ke.2, false)
        pure (if ok then .tuple #[v, .bool ok'] else v) : Sem Value).run P w := by
    rcases hentries with ⟨rfl, rfl⟩ | ⟨b, es', clk, rfl, h1, h2⟩
    · refine ⟨#[], ⟨rfl, by simp⟩, fun x hc hx => ?_⟩
      simp only [Instr.lookup, Sem.run_bind, run_underlying hu, Result.andThen_ok, Sem.run_pure, hc, hx]
      cases x <;> rfl
    · refine ⟨es', h2, fun x hc hx => ?_⟩
      simp only [Instr.lookup, Sem.run_bind, run_underlying hu, Result.andThen_ok, run_getObj_map h1, Sem.run_pure, hc, hx]
      cases x <;> rfl
  obtain ⟨es', he, hrun⟩ := hrun
  obtain ⟨r', h1, h2⟩ := findKey_sim (P := P) hk (keyOk_under hkok) hr he w
  have hck := keyOk_sim eqDepth hkok hk (es'.isEmpty) 10000 w (by decide)
  rw [hrun r' hck h1]
  cases r with
  | none =>
    cases r' with
    | some _ => exact h2.elim
    | none =>
      simp only at e
      have hvz : VR μ z z := VR.plainL hpz
      cases ok with
      | true =>
        simp at e; subst e
        exact ⟨.tuple #[z, .bool false], by simp [run_zeroValue' hz], VR.tuple_iff.2 (VRs.cons hvz (VRs.cons (.bool _) (VRs.nil μ)))⟩
      | false =>
        simp at e; subst e
        exact ⟨z, by simp [run_zeroValue' hz], hvz⟩
  | some p =>
    cases r' with
    | none => exact h2.elim
    | some p' =>
      obtain ⟨i, x⟩ := p
      obtain ⟨j, y⟩ := p'
      obtain ⟨rfl, hv⟩ := h2
      simp only at e
      cases ok with
      | true =>
        simp at e; subst e
        exact ⟨.tuple #[y, .bool true], by simp, VR.tuple_iff.2 (VRs.cons hv (VRs.cons (.bool _) (VRs.nil μ)))⟩
      | false =>
        simp at e; subst e
        exact ⟨y, by simp, hv⟩
theorem EsR.append {es fs : List (Value × Value)} {es' fs' : List MapEntry} (h : EsR μ es es') (k : EsR μ fs fs') : EsR μ (es ++ fs) (es' ++ fs') := by
  refine ⟨by simp [h.1, k.1], fun n x y hx hy => ?_⟩
  rw [List.getElem?_append] at hx hy
  rw [h.1] at hx
  split at hx
  · rename_i hn; rw [if_pos hn] at hy; exact h.2 n x y hx hy
  · rename_i hn; rw [if_neg hn] at hy; exact k.2 _ x y hx hy
theorem EsR.one {k v : Value} {e : MapEntry} (h1 : VR μ k e.key) (h2 : VR μ v e.val) : EsR μ [(k, v)] [e] := by
  refine ⟨rfl, fun n x y hx hy => ?_⟩
  cases n with
  | zero => simp at hx hy; subst hx; subst hy; exact ⟨h1, h2⟩
  | succ n => simp at hx
theorem VR.plain_eq {v v' : Value} (h : plainV v = true) (hv : VR μ v v') : v' = v := by
  cases hv <;> simp [plainV] at h <;> rfl
theorem VRs.plain_eq {xs ys : List Value} (h : xs.all plainV = true) (hv : VRs μ xs ys) : ys = xs := by
  induction xs generalizing ys with
  | nil => exact hv.nil_left
  | cons x xs ih =>
    obtain ⟨y, zs, rfl, h1, h2⟩ := hv.left
    simp only [List.all_cons, Bool.and_eq_true] at h
    rw [h1.plain_eq h.1, ih h.2 h2]
theorem VR.plainL_eq {v v' : Value} (h : Ab.plainL v = true) (hv : VR μ v v') : v' = v := by
  cases v with
  | agg cs =>
    obtain ⟨cs', rfl, hr⟩ := hv.agg_left
    have := VRs.plain_eq h hr
    congr 1
    exact Array.ext' this
  | _ => exact hv.plain_eq h
theorem EsR.set {es : List (Value × Value)} {es' : List MapEntry} (h : EsR μ es es') {j : Nat} {k v : Value} {e : MapEntry} (h1 : VR μ k e.key) (h2 : VR μ v e.val) : EsR μ (es.set j (k, v)) (es'.set j e) := by
  refine ⟨by simp [h.1], fun n x y hx hy => ?_⟩
  rw [List.getElem?_set] at hx hy
  by_cases hj : j = n
  · simp only [hj, if_true] at hx hy
    split at hx
    · split at hy
      · cases hx; cases hy; exact ⟨h1, h2⟩
      · cases hy
    · cases hx
  · simp only [hj, if_false] at hx hy
    exact h.2 n x y hx hy
theorem run_setObj_map {b : Nat} {es : Array MapEntry} {clk : Nat} (h : w.heap[b]? = some (.map es clk)) (o : Obj) : (setObj b o).run P w = .ok () { w with heap := w.heap.setIfInBounds b o } := by
  simp [setObj, Sem.run, h]
theorem Ext.setObj {c : Nat} {own : Nat → Prop} (hR : R μ A w) {i : Nat} {m : ME} (hm : μ i = some m) (hw : wrB (HeapC.get A i) = true) {blk : ABlk} (hn : wrB (some blk) = true) {o : Obj}
    (hb : ∀ h : Array Obj, h[m.b]? = some o → BlkR μ m h (some blk)) :
    Ext μ A c w own μ (HeapC.set A i blk) c { w with heap := w.heap.setIfInBounds m.b o } := by
  refine Ext.write hR hm hw hn rfl rfl rfl (by simp) (fun b hne => by simp only; rw [Array.getElem?_setIfInBounds_ne (Ne.symm hne)]) (hb _ ?_)
  have := hR.lt i m hm
  simp [this]
theorem aMapUpdate_sim {c : Nat} {own : Nat → Prop} (hR : R μ A w) {t : TypeId} {m m' k k' v v' : Value} {A' : H} (e : aMapUpdate P A t m k v = some A') (hm : VR μ m m') (hk : VR μ k k') (hv : VR μ v v') :
    ∃ w', (Instr.mapUpdate t m' k' v').run P w = .ok () w' ∧ Ext μ A c w own μ A' c w' := by
  simp only [aMapUpdate, Option.bind_eq_some_iff] at e
  obtain ⟨ke, hke, e1⟩ := e
  obtain ⟨hkok, e⟩ := cond_some e1
  clear e1
  simp only [Bool.and_eq_true] at hkok
  obtain ⟨hkok, hpk⟩ := hkok
  have hu := mapT_some hke
  split at e
  · rename_i i
    split at e
    · rename_i es hg
      simp only [Option.bind_eq_some_iff] at e
      obtain ⟨r, hr, e⟩ := e
      cases hm with
      | @map _ me hm =>
        have hb := hR.blk _ _ hm
        rw [hg] at hb
        obtain ⟨es', clk, h1, h2⟩ := hb
        obtain ⟨r', h3, h4⟩ := findKey_sim (P := P) hk (keyOk_under hkok) hr h2 w
        have hck := keyOk_sim eqDepth hkok hk false 10000 w (by decide)
        have hw : wrB (HeapC.get A i) = true := by rw [hg]; rfl
        cases r with
        | some p =>
          obtain ⟨j, x⟩ := p
          cases r' with
          | none => exact h4.elim
          | some p' =>
            obtain ⟨j', y⟩ := p'
            obtain ⟨rfl, _⟩ := h4
            simp only at e
            split at e
            · rename_i old ov hj
              obtain ⟨hs, e⟩ := cond_some e
              simp only [Bool.and_eq_true] at hs
              cases e
              have hjl : j < es'.size := by have := (List.getElem?_eq_some_iff.1 hj).1; have := h2.1; simp at this; omega
              have hje : es'[j]? = some es'[j] := Array.getElem?_eq_getElem hjl
              have hold := (h2.2 j (old, ov) es'[j] hj (by simpa using hje)).1
              have ho := hold.plainL_eq hs.1
              have hk2 := hk.plainL_eq hpk
              refine ⟨_, ?_, Ext.setObj hR hm hw rfl (o := .map (es'.setIfInBounds j { es'[j] with key := k', val := v' }) clk) (fun h hh => ⟨_, clk, hh, ?_⟩)⟩
              · have hks : (Instr.keyThatStays es'[j].key k').run P w = .ok k' w := by
                  rw [ho, hk2]
                  simp [Instr.keyThatStays, hs.2]
                simp only [Instr.mapUpdate, Sem.run_bind, run_underlying hu, Result.andThen_ok, run_getObj_map h1, hck, h3, hje, Option.map_some, Option.getD_some, hks]
                rw [run_setObj_map h1]
                congr 4
              · rw [Array.toList_setIfInBounds]
                exact h2.set hk hv
            · cases e
        | none =>
          cases r' with
          | some _ => exact h4.elim
          | none =>
            simp only at e
            cases e
            refine ⟨_, ?_, Ext.setObj hR hm hw rfl (o := .map (es'.push { key := k', val := v', born := clk }) (clk + 1)) (fun h hh => ⟨_, _, hh, ?_⟩)⟩
            · simp only [Instr.mapUpdate, Sem.run_bind, run_underlying hu, Result.andThen_ok, run_getObj_map h1, hck, h3]
              rw [run_setObj_map h1]
            · rw [Array.toList_push]
              exact h2.append (EsR.one hk hv)
    · cases e
  · cases e
theorem aLen_sim (hR : R μ A w) {t : TypeId} {x x' v : Value} {ts' : List TypeId} {xs' : List Value} {ty : TypeId} (e : aLen P A t x = some v) (hx : VR μ x x') :
    ∃ v', (Builtin.len_ (t :: ts').toArray ty (x' :: xs').toArray).run P w = .ok v' w ∧ VR μ v v' := by
  unfold aLen at e
  split at e
  · rename_i hu; cases e; obtain rfl := hx.str_left
    exact ⟨goInt _, by simp [Builtin.len_, run_underlying hu], VR.int .i64 _⟩
  · rename_i hu; cases e
    exact ⟨goInt _, by simp only [Builtin.len_, List.getElem?_toArray, List.getElem?_cons_zero, Sem.run_bind, run_underlying hu, Result.andThen_ok, Sem.run_pure], VR.int .i64 _⟩
  · rename_i hu; cases e
    cases hx with
    | sl0 => exact ⟨goInt _, by simp [Builtin.len_, run_underlying hu], VR.int .i64 _⟩
    | sl => exact ⟨goInt _, by simp [Builtin.len_, run_underlying hu], VR.int .i64 _⟩
    | slE => exact ⟨goInt _, by simp [Builtin.len_, run_underlying hu], VR.int .i64 _⟩
  · rename_i hu; cases e
    cases hx
    exact ⟨goInt _, by simp [Builtin.len_, run_underlying hu], VR.int .i64 _⟩
  · rename_i hu
    split at e
    · rename_i hg
      cases e
      cases hx with
      | map hm =>
        have hb := hR.blk _ _ hm
        rw [hg] at hb
        obtain ⟨es', clk, h1, h2⟩ := hb
        refine ⟨goInt es'.size, by simp only [Builtin.len_, List.getElem?_toArray, List.getElem?_cons_zero, Sem.run_bind, run_underlying hu, Result.andThen_ok, Sem.run_pure, run_getObj_map h1], ?_⟩
        rw [h2.1]
        simp only [Array.length_toList]
        exact VR.int .i64 _
    · cases e
  · cases e
theorem max2_sim {x y x' y' v : Value} (e : max2 x y = some v) (hx : VR μ x x') (hy : VR μ y y') : (Builtin.max2 x' y').run P w = .ok v w ∧ VR μ v v := by
  unfold max2 at e
  split at e
  · obtain ⟨_, e⟩ := cond_some e; cases e; obtain rfl := hx.int_left; obtain rfl := hy.int_left; exact ⟨rfl, .int _ _⟩
  · cases e
theorem min2_sim {x y x' y' v : Value} (e : min2 x y = some v) (hx : VR μ x x') (hy : VR μ y y') : (Builtin.min2 x' y').run P w = .ok v w ∧ VR μ v v := by
  unfold min2 at e
  split at e
  · obtain ⟨_, e⟩ := cond_some e; cases e; obtain rfl := hx.int_left; obtain rfl := hy.int_left; exact ⟨rfl, .int _ _⟩
  · cases e
theorem foldlM_sim {f : Value → Value → Option Value} {g : Value → Value → Sem Value}
    (h : ∀ {x y x' y' v : Value}, f x y = some v → VR μ x x' → VR μ y y' → ∃ v', (g x' y').run P w = .ok v' w ∧ VR μ v v') :
    ∀ {xs xs' : List Value} {a a' v : Value}, xs.foldlM f a = some v → VRs μ xs xs' → VR μ a a' → ∃ v', (xs'.foldlM g a').run P w = .ok v' w ∧ VR μ v v'
  | [], xs', a, a', v, e, hx, ha => by rw [hx.nil_left]; simp at e; subst e; exact ⟨a', rfl, ha⟩
  | x :: xs, xs', a, a', v, e, hx, ha => by
    obtain ⟨y, ys, rfl, h1, h2⟩ := hx.left
    rw [List.foldlM_cons] at e
    simp only [bind, Option.bind_eq_some_iff] at e
    obtain ⟨b, hb, e⟩ := e
    obtain ⟨b', h3, h4⟩ := h hb ha h1
    obtain ⟨v', h5, h6⟩ := foldlM_sim h e h2 h4
    exact ⟨v', by rw [List.foldlM_cons]; simp only [Sem.run_bind, h3, Result.andThen_ok, h5], h6⟩
end Go.Ab

namespace Go.Ab
open Go
set_option linter.unusedVariables false
set_option linter.unusedSimpArgs false
variable {H : Type} [HeapC H] {P : Program} {μ : Mu} {A : H} {w : World}
theorem growBy_le (need : Nat) (h256 : 256 ≤ need) : ∀ (r c : Nat), c ≤ 2 * need → Builtin.growBy need r c ≤ 2 * need
  | 0, c, h => h
  | r + 1, c, h => by
    unfold Builtin.growBy
    split
    · exact h
    · exact growBy_le need h256 r _ (by omega)
theorem nextcap_le {need c : Nat} (h : c < need) : Builtin.nextslicecap need c ≤ 2 * need := by
  unfold Builtin.nextslicecap
  split
  · omega
  · split
    · omega
    · exact growBy_le need (by omega) 4 c (by omega)
def SrcR (P : Program) (μ : Mu) (w : World) (xs : List Value) (ap : Sem (Array Value)) : Prop :=
  ∃ ys : List Value, VRs μ xs ys ∧ ∀ w' : World, w'.heap = w.heap → ap.run P w' = .ok ys.toArray w'
theorem cell?_heap {w w' : World} (h : w'.heap = w.heap) (a : Addr) : w'.cell? a = w.cell? a := by simp [World.cell?, h]
theorem firstCells_sim (hR : R μ A w) {sz : Nat} {x x' : Value} {cs : List Value} {n : Nat} (e : srcCells A sz x = some (cs, n)) (hx : VR μ x x') :
    (Builtin.lenOf x').run P w = .ok n w ∧ SrcR P μ w cs (Builtin.firstCells sz n x') := by
  unfold srcCells at e
  split at e
  · obtain ⟨hn, e⟩ := cond_some e
    cases e
    have hn := Nat.eq_of_beq_eq_true hn
    subst hn
    cases hx
    exact ⟨rfl, [], VRs.nil μ, fun w' _ => rfl⟩
  · rename_i i o n0 c
    simp only [Option.bind_eq_some_iff] at e
    obtain ⟨cs0, hcs, e⟩ := e
    cases e
    cases hx with
    | @sl _ _ _ _ c' m hm hc hz =>
      obtain ⟨hl, cs', h1, h2⟩ := rdCells_sim hR hm hcs
      refine ⟨rfl, cs', h1, fun w' hw' => ?_⟩
      simp only [Builtin.firstCells]
      exact run_loadCells_of (P := P) (w := w') (cs := cs') (by rw [← h1.1]; exact hl) (fun j v hv => by rw [add_mk, cell?_heap hw']; exact h2 j v hv)
    | @slE _ _ x m hm =>
      obtain ⟨hl, _⟩ := rdCells_sim hR hm hcs
      simp at hl
      subst hl
      exact ⟨rfl, [], VRs.nil μ, fun w' hw' => by simp [Builtin.firstCells, loadCells, loadCellsFrom]⟩
  · rename_i s
    obtain ⟨hs, e⟩ := cond_some e
    cases e
    obtain rfl := hx.str_left
    refine ⟨rfl, s.data.toList.map fun b => .int .u8 b.toNat, ?_, fun w' _ => ?_⟩
    rotate_left
    · simp only [Builtin.firstCells, Sem.run_pure]
      congr 1
      apply Array.ext'
      simp
    · exact VRs.plain (List.all_eq_true.2 (by intro x hx; simp only [List.mem_map] at hx; obtain ⟨b, _, rfl⟩ := hx; rfl))
  · cases e
theorem zeroCells_eq (z : Array Value) (n : Nat) : Builtin.zeroCells z n = (zeros z.toList n).toArray := by
  apply Array.ext'
  simpa [Builtin.zeroCells] using zeros_array z n
theorem run_grow {s' : Value} {sLen cap' n size by' : Nat} {el : TypeId} {zv : Value} (hz : zeroT P el = some zv) (hplain : plainL zv = true) {need : Nat} (hneed : need = sLen + n)
    {old new : List Value} {ap : Sem (Array Value)} (hold : ∀ w' : World, w'.heap = w.heap → (Builtin.firstCells size sLen s').run P w' = .ok old.toArray w')
    (hap : ∀ w' : World, w'.heap = w.heap → ap.run P w' = .ok new.toArray w') :
    ∃ (newCap : Nat) (w' : World), need ≤ newCap ∧ (do
      let newCap ← choose (.appendCap need cap' el)
      askRoom (newCap * by')
      let old ← Builtin.firstCells size sLen s'
      let new ← ap
      let rest := Builtin.zeroCells (← zeroValue el).cells (newCap - need)
      pure (.slice (some (← newRow el (old ++ new ++ rest))) need newCap) : Sem Value).run P w = .ok (.slice (some ⟨w.heap.size, 0, none⟩) need newCap) w' ∧
      w'.heap = w.heap.push (.cells (old ++ new ++ zeros zv.cells.toList (newCap - need)).toArray el) ∧ w'.os = w.os ∧ w'.tape = w.tape ∧ w'.output = w.output := by
  have hq : (Question.appendCap need cap' el).forced = false := rfl
  let w1 : World := { w with drawn := w.drawn + 1 }
  let nc := (Question.appendCap need cap' el).cut (w.tape w.drawn (.appendCap need cap' el))
  have hnc : need ≤ nc := by show need ≤ need + _; omega
  refine ⟨nc, { w1 with heap := w1.heap.push (.cells (old ++ new ++ zeros zv.cells.toList (nc - need)).toArray el) }, hnc, ?_, rfl, rfl, rfl, rfl⟩
  have h1 : (choose (.appendCap need cap' el)).run P w = .ok nc w1 := by rw [run_choose, hq]; rfl
  simp only [Sem.run_bind, h1, Result.andThen_ok, run_askRoom, hold w1 rfl, hap w1 rfl, run_zeroValue' hz, zeroCells_eq, newRow, run_newObj, Sem.run_pure]
  simp [w1]
def modelApp (el : TypeId) (size : Nat) (s : Value) (n : Nat) (ap : Sem (Array Value)) (by' : Nat) : Sem Value :=
  match s with
  | .slice base sLen sCap =>
    if sLen + n ≤ sCap then do
      let new ← ap
      if let some a := base then storeCells (a.add (sLen * size)) new.toList
      pure (.slice base (sLen + n) sCap)
    else do
      let newCap ← choose (.appendCap (sLen + n) sCap el)
      askRoom (newCap * by')
      let old ← Builtin.firstCells size sLen s
      let new ← ap
      let rest := Builtin.zeroCells (← zeroValue el).cells (newCap - (sLen + n))
      pure (.slice (some (← newRow el (old ++ new ++ rest))) (sLen + n) newCap)
  | _ => stuck ""
theorem blk_grown {m : ME} {cs cs' : List Value} {rest : List Value} {h : Array Obj} {E : TypeId} {e : Nat} {μ' : Mu} (hcs : VRs μ' cs cs') (hm : m.s = 0)
    (hh : h[m.b]? = some (.cells (cs' ++ rest).toArray E)) (ho : m.opn = some (e, (cs' ++ rest).length)) : BlkR μ' m h (some (.cells false (some e) cs)) := by
  refine ⟨(cs' ++ rest).toArray, E, (0, 0), hh, fun k x hx => ?_, fun _ => rfl, by rw [ho]; simp⟩
  obtain ⟨y, hy, hv⟩ := hcs.get hx
  have hlt := (List.getElem?_eq_some_iff.1 hy).1
  exact ⟨y, by rw [hm, Nat.zero_add, List.getElem?_toArray, List.getElem?_append_left hlt]; exact hy, hv⟩
theorem R.kill (hR : R μ A w) (i : Nat) : R μ (HeapC.set A i .dead) w where
  blk := fun j mj hj => by
    rw [HeapC.get_set]
    by_cases e : j = i
    · simp only [e, if_true]; trivial
    · simp only [e, if_false]; exact hR.blk j mj hj
  inj := fun a b ma mb ha hb hn => by
    rw [HeapC.get_set, HeapC.get_set]
    by_cases ea : a = i <;> by_cases eb : b = i
    · exact absurd (ea.trans eb.symm) hn
    · simp only [ea, if_true]; intro h; simp [deadB] at h
    · simp only [eb, if_true]; intro _ h; simp [deadB] at h
    · simp only [ea, eb, if_false]; exact hR.inj a b ma mb ha hb hn
  lt := hR.lt
theorem Ext.kill {c : Nat} {own : Nat → Prop} (hR : R μ A w) {i : Nat} (hi : (μ i).isSome = true) : Ext μ A c w own μ (HeapC.set A i .dead) c w :=
  { Ext.refl (own := own) (c := c) hR with
    rel := hR.kill i
    af := fun j h1 _ _ => by
      rw [HeapC.get_set, if_neg]
      intro e; subst e; rw [h1] at hi; cases hi
    wrm := fun j mj hj h => by
      rw [HeapC.get_set] at h
      by_cases e : j = i
      · simp [e, wrB] at h
      · simpa [e] using h
    dd := fun j mj hj h => by
      rw [HeapC.get_set]
      by_cases e : j = i
      · simp [e, deadB]
      · simpa [e] using h }
theorem realloc_sim {c : Nat} (hR : R μ A w) {id : Nat} (hid : μ id = none) {el : TypeId} {sz by' cap' len n : Nat} {zv s' : Value} (hz : zeroT P el = some zv) (hplain : plainL zv = true) (hzs : zv.cells.size = sz)
    {old old' new ys : List Value} (ho : VRs μ old old') (hn : VRs μ new ys) (hol : old.length = len * sz) (hnl : new.length = n * sz) {ap : Sem (Array Value)}
    (hold : ∀ w' : World, w'.heap = w.heap → (Builtin.firstCells sz len s').run P w' = .ok old'.toArray w') (hap : ∀ w' : World, w'.heap = w.heap → ap.run P w' = .ok ys.toArray w') :
    ∃ v' μ' w', (do
      let newCap ← choose (.appendCap (len + n) cap' el)
      askRoom (newCap * by')
      let old ← Builtin.firstCells sz len s'
      let new ← ap
      let rest := Builtin.zeroCells (← zeroValue el).cells (newCap - (len + n))
      pure (.slice (some (← newRow el (old ++ new ++ rest))) (len + n) newCap) : Sem Value).run P w = .ok v' w' ∧
      VR μ' (.slice (some ⟨id, 0, none⟩) (len + n) (len + n)) v' ∧ Ext μ A c w (fun i => i = id) μ' (HeapC.set A id (.cells false (some sz) (old ++ new))) c w' := by
  obtain ⟨nc, w', h1, h2, h3, h4, h5, h6⟩ := run_grow (P := P) (w := w) (cap' := cap') (by' := by') hz hplain (n := n) (need := len + n) rfl hold hap
  have hlen : ((old' ++ ys) ++ zeros zv.cells.toList (nc - (len + n))).length = nc * sz := by
    have e1 := ho.1
    have e2 := hn.1
    simp only [List.length_append, zeros_length, Array.length_toList, hzs]
    rw [← e1, ← e2, hol, hnl, ← Nat.add_mul, ← Nat.add_mul]
    congr 1; omega
  refine ⟨.slice (some ⟨w.heap.size, 0, none⟩) (len + n) nc, μ.upd id ⟨w.heap.size, 0, some (sz, nc * sz)⟩, w', h2, ?_, Ext.alloc hR hid rfl rfl h4 h5 h6 h3 ?_⟩
  · have := VR.sl (μ := μ.upd id ⟨w.heap.size, 0, some (sz, nc * sz)⟩) (o := 0) (l := len + n) (c := len + n) (c' := nc) (Mu.upd_self μ id _) h1 (.inr ⟨sz, nc * sz, rfl, by simp⟩)
    simpa using this
  · exact blk_grown (E := el) (rest := zeros zv.cells.toList (nc - (len + n))) ((ho.append hn).mono (Mu.le_upd hid)) rfl (by rw [h3]; simp) (by rw [hlen])
theorem Ext.inplace {c : Nat} (hR : R μ A w) {i id : Nat} (hid : μ id = none) {m me : ME} (hm : μ i = some m) (hw : wrB (HeapC.get A i) = true) (hb : me.b = m.b) {blk : ABlk} (hro : roB (some blk) = false)
    {w' : World} (os : w'.os = w.os) (tape : w'.tape = w.tape) (output : w'.output = w.output) (size : w'.heap.size = w.heap.size)
    (oth : ∀ b, b ≠ m.b → w'.heap[b]? = w.heap[b]?) (hblk : BlkR (μ.upd id me) me w'.heap (some blk)) :
    Ext μ A c w (fun j => j = id) (μ.upd id me) (HeapC.set (HeapC.set A i .dead) id blk) c w' := by
  have hle : μ.le (μ.upd id me) := Mu.le_upd hid
  have hii : i ≠ id := by intro e; subst e; rw [hid] at hm; cases hm
  have hne : ∀ j mj, μ j = some mj → j ≠ id := fun j mj hj e => by subst e; rw [hid] at hj; cases hj
  have hcase : ∀ j mj, (μ.upd id me) j = some mj → (j = id ∧ mj = me) ∨ (j ≠ id ∧ μ j = some mj) := by
    intro j mj hj
    unfold Mu.upd at hj
    by_cases e : j = id
    · simp [e] at hj; exact .inl ⟨e, hj.symm⟩
    · simp [e] at hj; exact .inr ⟨e, hj⟩
  have hget : ∀ j, HeapC.get (HeapC.set (HeapC.set A i .dead) id blk) j = if j = id then some blk else if j = i then some .dead else HeapC.get A j := by
    intro j; rw [HeapC.get_set, HeapC.get_set]
  have hdiff : ∀ j mj, μ j = some mj → j ≠ i → deadB (HeapC.get A j) = false → mj.b ≠ m.b := fun j mj hj hji hd =>
    hR.inj j i mj m hj hm hji hd (dead_of_wr hw) (by rw [ro_of_wr hw]; simp)
  refine { mu := hle, new := fun j h1 h2 => ?_, cle := Nat.le_refl _, rel := ⟨?_, ?_, ?_⟩, af := fun j h1 _ h3 => ?_, os := os, tape := tape, output := output,
           size := by omega, fr := fun b h hn => oth b (fun e => hn i m hm hw e.symm), wrm := fun j mj hj h => ?_, dd := fun j mj hj h => by rw [hget, if_neg (hne j mj hj)]; by_cases e : j = i <;> simp [e, deadB] <;> exact h, newb := fun j mj h1 h2 => ?_ }
  · cases e : (μ.upd id me) j with
    | none => exact absurd e h2
    | some mj =>
      rcases hcase j mj e with ⟨rfl, _⟩ | ⟨_, e'⟩
      · exact .inl rfl
      · rw [h1] at e'; cases e'
  · intro j mj hj
    rw [hget]
    rcases hcase j mj hj with ⟨rfl, rfl⟩ | ⟨e, hj'⟩
    · simpa using hblk
    · simp only [e, if_false]
      by_cases hji : j = i
      · simp only [hji, if_true]; trivial
      · simp only [hji, if_false]
        have h0 := hR.blk j mj hj'
        cases hd : deadB (HeapC.get A j) with
        | true =>
          unfold deadB at hd
          split at hd
          · rename_i hg; rw [hg]; trivial
          · cases hd
        | false => exact (h0.congr (oth _ (hdiff j mj hj' hji hd))).mono hle
  · intro a b ma mb ha hb' hn
    rw [hget, hget]
    rcases hcase a ma ha with ⟨ea, rfl⟩ | ⟨ea, ha'⟩ <;> rcases hcase b mb hb' with ⟨eb, rfl⟩ | ⟨eb, hb''⟩
    · exact absurd (ea.trans eb.symm) hn
    · simp only [eb, if_false]
      by_cases hbi : b = i
      · simp only [hbi, if_true]; intro _ h; simp [deadB] at h
      · simp only [hbi, if_false]
        intro _ h2 _ e
        exact hdiff b mb hb'' hbi h2 (by omega)
    · simp only [ea, if_false]
      by_cases hai : a = i
      · simp only [hai, if_true]; intro h; simp [deadB] at h
      · simp only [hai, if_false]
        intro h1 _ _ e
        exact hdiff a ma ha' hai h1 (by omega)
    · simp only [ea, eb, if_false]
      by_cases hai : a = i
      · simp only [hai, if_true]; intro h; simp [deadB] at h
      · by_cases hbi : b = i
        · simp only [hbi, if_true]; intro _ h; simp [deadB] at h
        · simp only [hai, hbi, if_false]
          exact hR.inj a b ma mb ha' hb'' hn
  · intro j mj hj
    rcases hcase j mj hj with ⟨_, rfl⟩ | ⟨_, hj'⟩
    · have := hR.lt i m hm; omega
    · have := hR.lt j mj hj'; omega
  · rw [hget, if_neg h3, if_neg]
    intro e; subst e; rw [hm] at h1; cases h1
  · rw [hget, if_neg (hne j mj hj)] at h
    by_cases hji : j = i
    · subst hji; exact hw
    · simpa [hji] using h
  · rcases hcase j mj h2 with ⟨_, rfl⟩ | ⟨_, hj'⟩
    · exact .inr ⟨i, m, hm, hb.symm, hw⟩
    · rw [h1] at hj'; cases hj'
theorem appTo_sim {c : Nat} (hR : R μ A w) {id : Nat} (hid : μ id = none) {el : TypeId} {sz by' : Nat} {zv : Value} (hz : zeroT P el = some zv) (hplain : plainL zv = true) (hzs : zv.cells.size = sz)
    {s s' v : Value} {new : List Value} {n : Nat} {A' : H} (e : appTo A id sz by' s new n = some (v, A')) (hs : VR μ s s') (hnl : new.length = n * sz)
    {ap : Sem (Array Value)} (hap : SrcR P μ w new ap) :
    ∃ v' μ' w', (modelApp el sz s' n ap by').run P w = .ok v' w' ∧ VR μ' v v' ∧ Ext μ A c w (fun i => i = id) μ' A' c w' := by
  unfold appTo at e
  split at e
  · rename_i base len cap
    obtain ⟨ys, hyr, hap'⟩ := hap
    have hys := hap' w rfl
    cases hfit : Nat.ble (len + n) cap with
    | true =>
      rw [hfit] at e
      have hfit := Nat.le_of_ble_eq_true hfit
      simp only [cond_true] at e
      cases hs with
      | sl0 =>
        simp only at e
        obtain ⟨h0, e⟩ := cond_some e
        cases e
        refine ⟨_, μ, w, ?_, .sl0 _ _, Ext.refl hR⟩
        simp only [modelApp, hfit, if_true, Sem.run_bind, hys, Result.andThen_ok, Sem.run_pure]
      | @sl i o _ _ c' m hm hc hz' =>
        simp only at e
        have hfit' : len + n ≤ c' := by omega
        cases h0 : Nat.beq new.length 0 with
        | true =>
          rw [h0] at e
          simp only [cond_true, Option.some.injEq, Prod.mk.injEq] at e
          obtain ⟨rfl, rfl⟩ := e
          have h0 := Nat.eq_of_beq_eq_true h0
          have hy0 : ys = [] := List.eq_nil_of_length_eq_zero (by rw [← hyr.1, h0])
          subst hy0
          refine ⟨.slice (some ⟨m.b, m.s + o, none⟩) (len + n) c', μ, w, ?_, .sl hm hc hz', Ext.refl hR⟩
          simp only [modelApp, hfit', if_true, Sem.run_bind, hys, Result.andThen_ok, storeCells, Sem.run_pure]
        | false =>
          rw [h0] at e
          simp only [cond_false, Option.bind_eq_some_iff] at e
          obtain ⟨h1, hw, e⟩ := e
          cases e
          obtain ⟨w', hrun, hext⟩ := wrCells_sim (P := P) (c0 := c) (own := fun i => i = id) hR hm hyr hw
          refine ⟨.slice (some ⟨m.b, m.s + o, none⟩) (len + n) c', μ, w', ?_, .sl hm hc hz', hext⟩
          simp only [modelApp, hfit', if_true, Sem.run_bind, hys, Result.andThen_ok, add_mk, Nat.add_assoc] at hrun ⊢
          simp only [hrun, Result.andThen_ok, Sem.run_pure]
      | @slE i o x m hm =>
        have hn0 : n = 0 := by omega
        subst hn0
        have hnl0 : new.length = 0 := by simpa using hnl
        simp only [hnl0, show Nat.beq 0 0 = true from rfl, cond_true] at e
        have hy0 : ys = [] := List.eq_nil_of_length_eq_zero (by rw [← hyr.1, hnl0])
        subst hy0
        have e : (Value.slice (some ⟨i, o, none⟩) (0 + 0) 0, A) = (v, A') := by simpa using e
        cases e
        refine ⟨.slice (some ⟨m.b, x, none⟩) 0 0, μ, w, ?_, .slE hm, Ext.refl hR⟩
        simp only [modelApp, Nat.le_refl, if_true, Sem.run_bind, hys, Result.andThen_ok, storeCells, Sem.run_pure, Nat.add_zero]
    | false =>
      rw [hfit] at e
      have hfit : ¬ len + n ≤ cap := by intro h; rw [Nat.ble_eq_true_of_le h] at hfit; cases hfit
      simp only [cond_false, appGrow] at e
      obtain ⟨hb, e⟩ := cond_some e
      simp only [Bool.and_eq_true] at hb
      have hflat := hb.2
      have hb := Nat.le_of_ble_eq_true hb.1
      cases hs with
      | sl0 =>
        simp only at e
        obtain ⟨h0, e⟩ := cond_some e
        have h0 := Nat.eq_of_beq_eq_true h0
        subst h0
        cases e
        obtain ⟨v', μ', w', h1, h2, h3⟩ := realloc_sim (c := c) (cap' := cap) (by' := by') (len := 0) (n := n) (s' := .slice none 0 cap) hR hid hz hplain hzs (VRs.nil μ) hyr (by simp) hnl (fun w' _ => rfl) hap'
        exact ⟨v', μ', w', by simp only [modelApp, hfit, if_false]; exact h1, h2, h3⟩
      | @sl i o _ _ c' m hm hc hz' =>
        simp only [Option.bind_eq_some_iff] at e
        obtain ⟨old, hold, e⟩ := e
        obtain ⟨hol, old', hor, hocell⟩ := rdCells_sim hR hm hold
        have hfc : ∀ w' : World, w'.heap = w.heap → (Builtin.firstCells sz len (.slice (some ⟨m.b, m.s + o, none⟩) len c')).run P w' = .ok old'.toArray w' := fun w' hw' => by
          simp only [Builtin.firstCells]
          exact run_loadCells_of (P := P) (w := w') (cs := old') (by rw [← hor.1]; exact hol) (fun j v hv => by rw [add_mk, cell?_heap hw']; exact hocell j v hv)
        have hblk := hR.blk i m hm
        split at e
        · rename_i ro opn cs0 hg
          rw [hg] at hblk
          obtain ⟨C, E, fr, hC1, hC2, hC3, hC4⟩ := hblk
          cases opn with
          | none =>
            simp only [Option.map_none] at hC4
            simp only [Option.some.injEq, Prod.mk.injEq] at e
            obtain ⟨rfl, rfl⟩ := e
            have hcc : cap = c' := by
              rcases hz' with h | ⟨e', Z, h, _⟩
              · exact h
              · rw [hC4] at h; cases h
            subst hcc
            obtain ⟨v', μ', w', h1, h2, h3⟩ := realloc_sim (c := c) (cap' := cap) (by' := by') (len := len) (n := n) (s' := .slice (some ⟨m.b, m.s + o, none⟩) len cap) hR hid hz hplain hzs hor hyr hol hnl hfc hap'
            exact ⟨v', μ', w', by simp only [modelApp, hfit, if_false]; exact h1, h2, h3⟩
          | some e0 =>
            simp only [Option.map_some] at hC4
            obtain ⟨hro, e1⟩ := cond_some e
            clear e
            simp only [Bool.and_eq_true, Bool.not_eq_true'] at hro
            obtain ⟨he0, hro⟩ := hro
            have he0 := Nat.eq_of_beq_eq_true he0
            subst he0
            subst hro
            simp only [Option.some.injEq, Prod.mk.injEq] at e1
            obtain ⟨rfl, rfl⟩ := e1
            have hfr := hC3 rfl
            subst hfr
            have hKill := Ext.kill (c := c) (own := fun _ => False) hR (i := i) (by rw [hm]; rfl)
            by_cases hin : len + n ≤ c'
            · -- in place
              have hZ : m.s + o + c' * e0 ≤ C.size := by
                rcases hz' with h | ⟨e', Z, h, hle⟩
                · omega
                · rw [hC4] at h; cases h; exact hle
              have hys_len : ys.length = n * e0 := by rw [← hyr.1, hnl]
              have hmul : (len + n) * e0 ≤ c' * e0 := Nat.mul_le_mul_right e0 hin
              rw [Nat.add_mul] at hmul
              have hst := run_storeCells_at (P := P) m.b (m.s + o + len * e0) E ys 0 C w hC1 (by omega) (hyr.flat hflat)
              refine ⟨.slice (some ⟨m.b, m.s + o, none⟩) (len + n) c', μ.upd id ⟨m.b, m.s + o, some (e0, C.size)⟩, _, ?_, ?_,
                Ext.inplace (me := ⟨m.b, m.s + o, some (e0, C.size)⟩) (w' := w.setRow m.b (C.toList.take (m.s + o + len * e0 + 0) ++ ys ++ C.toList.drop (m.s + o + len * e0 + 0 + ys.length)).toArray)
                  hR hid hm (by rw [hg]; rfl) rfl rfl rfl rfl rfl (setRow_size _ _ _) (fun b hbn => setRow_other _ _ _ _ hbn) ?_⟩
              · simp only [modelApp, hin, if_true, Sem.run_bind, hys, Result.andThen_ok, add_mk, hst, Sem.run_pure]
              · have := VR.sl (μ := μ.upd id ⟨m.b, m.s + o, some (e0, C.size)⟩) (o := 0) (l := len + n) (c := len + n) (c' := c') (Mu.upd_self μ id _) hin (.inr ⟨e0, C.size, rfl, by simpa using hZ⟩)
                simpa using this
              · refine ⟨_, E, (0, 0), setRow_heap w m.b C _ E (0, 0) hC1, fun k x hk => ?_, fun _ => rfl, ?_⟩
                · have hol' : old'.length = len * e0 := by rw [← hor.1, hol]
                  rw [List.getElem?_append] at hk
                  split at hk
                  · rename_i hlt
                    obtain ⟨y, hy, hv⟩ := hor.get hk
                    have hcell := hocell k y hy
                    refine ⟨y, ?_, hv.mono (Mu.le_upd hid)⟩
                    have hCk : C[m.s + o + k]? = some y := by simpa [World.cell?, hC1] using hcell
                    have hCl := (Array.getElem?_eq_some_iff.1 hCk).1
                    simp only [List.getElem?_toArray, Nat.add_zero]
                    rw [List.getElem?_append_left (by simp; omega), List.getElem?_append_left (by simp; omega), List.getElem?_take, if_pos (by omega)]
                    simpa using hCk
                  · rename_i hge
                    obtain ⟨y, hy, hv⟩ := hyr.get hk
                    have hyl := (List.getElem?_eq_some_iff.1 hy).1
                    refine ⟨y, ?_, hv.mono (Mu.le_upd hid)⟩
                    simp only [List.getElem?_toArray, Nat.add_zero]
                    rw [List.getElem?_append_left (by simp; omega), List.getElem?_append_right (by simp; omega)]
                    rw [← hy]; congr 1; simp; omega
                · simp; omega
            · obtain ⟨v', μ', w', h1, h2, h3⟩ := realloc_sim (c := c) (cap' := c') (by' := by') (len := len) (n := n) (s' := .slice (some ⟨m.b, m.s + o, none⟩) len c') hKill.rel hid hz hplain hzs hor hyr hol hnl hfc hap'
              refine ⟨v', μ', w', by simp only [modelApp, hin, if_false]; exact h1, h2, ?_⟩
              exact (hKill.trans h3 (fun _ h => h.elim) (fun _ h => .inr h)).weaken (fun i h => h.elim False.elim (fun e => e))
        · cases e
      | @slE i o x m hm =>
        simp only [Option.bind_eq_some_iff] at e
        obtain ⟨old, hold, e⟩ := e
        obtain ⟨hol, old', hor, hocell⟩ := rdCells_sim hR hm hold
        have hol0 : old = [] := List.eq_nil_of_length_eq_zero (by simpa using hol)
        subst hol0
        have hfc : ∀ w' : World, w'.heap = w.heap → (Builtin.firstCells sz 0 (.slice (some ⟨m.b, x, none⟩) 0 0)).run P w' = .ok ([] : List Value).toArray w' := fun w' hw' => by
          simp [Builtin.firstCells, loadCells, loadCellsFrom]
        split at e
        · rename_i ro opn cs0 hg
          cases opn with
          | none =>
            simp only [Option.some.injEq, Prod.mk.injEq] at e
            obtain ⟨rfl, rfl⟩ := e
            obtain ⟨v', μ', w', h1, h2, h3⟩ := realloc_sim (c := c) (cap' := 0) (by' := by') (len := 0) (n := n) (s' := .slice (some ⟨m.b, x, none⟩) 0 0) hR hid hz hplain hzs (VRs.nil μ) hyr (by simp) hnl hfc hap'
            exact ⟨v', μ', w', by simp only [modelApp, hfit, if_false]; exact h1, h2, h3⟩
          | some e0 =>
            obtain ⟨hro, e1⟩ := cond_some e
            clear e
            simp only [Option.some.injEq, Prod.mk.injEq] at e1
            obtain ⟨rfl, rfl⟩ := e1
            have hKill := Ext.kill (c := c) (own := fun _ => False) hR (i := i) (by rw [hm]; rfl)
            obtain ⟨v', μ', w', h1, h2, h3⟩ := realloc_sim (c := c) (cap' := 0) (by' := by') (len := 0) (n := n) (s' := .slice (some ⟨m.b, x, none⟩) 0 0) hKill.rel hid hz hplain hzs (VRs.nil μ) hyr (by simp) hnl hfc hap'
            refine ⟨v', μ', w', by simp only [modelApp, hfit, if_false]; exact h1, h2, ?_⟩
            exact (hKill.trans h3 (fun _ h => h.elim) (fun _ h => .inr h)).weaken (fun i h => h.elim False.elim (fun e => e))
        · cases e
  · cases e
theorem append_model {st xt el : TypeId} (hu : P.underlying st = some (.slice el)) {sz by' n : Nat} (hsz : sizeT P el = some sz) (hby : bytesT P el = some by') {s' x' : Value} {b l c : Nat} {base : Option Addr}
    (hs : s' = .slice base l c) {td : TypeDesc} (hxt : P.underlying xt = some td) (hni : ∀ k, td ≠ .int k) (hlen : (Builtin.lenOf x').run P w = .ok n w) (hneed : ¬ l + n ≤ c → (l + n) * (by' + 1) ≤ 17592186044416) {ty : TypeId} :
    (Builtin.append_ #[st, xt] ty #[s', x']).run P w = (modelApp el sz s' n (Builtin.firstCells sz n x') by').run P w := by
  subst hs
  have hi : ∃ i, P.info? el = some i ∧ i.bytes = by' := by simpa [bytesT, Option.map_eq_some_iff] using hby
  obtain ⟨inf, hinf, hbytes⟩ := hi
  have h0 : (#[st, xt] : Array TypeId)[0]? = some st := rfl
  have h1 : (#[st, xt] : Array TypeId)[1]? = some xt := rfl
  have h2 : (#[Value.slice base l c, x'] : Array Value)[0]? = some (.slice base l c) := rfl
  have h3 : (#[Value.slice base l c, x'] : Array Value)[1]? = some x' := rfl
  have hmax : IntKind.i64.max = 9223372036854775807 := by decide
  by_cases hfit : l + n ≤ c
  · cases td
    case int k => exact absurd rfl (hni k)
    all_goals
      simp only [Builtin.append_, h0, h1, h2, h3, Sem.run_bind, run_underlying hu, run_underlying hxt, Result.andThen_ok, run_sizeOf' hsz, Sem.run_pure, Bool.false_eq_true, if_false, hlen, modelApp, hfit, if_true, Bool.not_false]
      cases base <;> simp only [Sem.run_bind, Sem.run_pure]
  · have hneed := hneed hfit
    have hle : l + n ≤ 17592186044416 := Nat.le_trans (Nat.le_mul_of_pos_right _ (by omega)) hneed
    have hbig : ¬ (((l + n : Nat) : Int) > IntKind.i64.max ∧ ((false : Bool) = true ∨ by' = 0)) := by rw [hmax]; omega
    have hcap : ¬ (Builtin.nextslicecap (l + n) c * by' > 2 ^ 48) := by
      have h9 := nextcap_le (need := l + n) (c := c) (by omega)
      have h10 : Builtin.nextslicecap (l + n) c * by' ≤ 2 * (l + n) * by' := Nat.mul_le_mul_right _ h9
      have h11 : 2 * (l + n) * by' ≤ 2 * ((l + n) * (by' + 1)) := by rw [Nat.mul_assoc]; exact Nat.mul_le_mul_left 2 (Nat.mul_le_mul_left _ (by omega))
      omega
    cases td
    case int k => exact absurd rfl (hni k)
    all_goals
      simp only [Builtin.append_, h0, h1, h2, h3, Sem.run_bind, run_underlying hu, run_underlying hxt, Result.andThen_ok, run_sizeOf' hsz, Sem.run_pure, Bool.false_eq_true, if_false, hlen, modelApp, hfit, Bool.not_false, if_true,
        run_typeInfo' hinf, hbytes]
      rw [if_neg (by rw [hmax]; omega)]
      simp only [Sem.run_bind, run_typeInfo' hinf, hbytes, Result.andThen_ok]
      rw [if_neg hcap]
      simp only [Sem.run_bind, run_typeInfo' hinf, hbytes, Result.andThen_ok, Sem.run_pure]
def zeroSrc (el : TypeId) (n sz : Nat) : Sem (Array Value) :=
  if n * sz = 0 then pure #[]
  else do pure (Builtin.zeroCells (← zeroValue el).cells n)
theorem append_model0 {st xt el : TypeId} (hu : P.underlying st = some (.slice el)) {sz by' n : Nat} (hsz : sizeT P el = some sz) (hby : bytesT P el = some by') {s' : Value} {b l c : Nat} {base : Option Addr}
    (hs : s' = .slice base l c) {q k : IntKind} (hxt : P.underlying xt = some (.int q)) (hn1 : n ≤ 17592186044416) (hn2 : n * by' ≤ 17592186044416) (hneed : ¬ l + n ≤ c → (l + n) * (by' + 1) ≤ 17592186044416) {ty : TypeId} :
    (Builtin.append_ #[st, xt] ty #[s', .int k n]).run P w = (modelApp el sz s' n (zeroSrc el n sz) by').run P w := by
  subst hs
  have hi : ∃ i, P.info? el = some i ∧ i.bytes = by' := by simpa [bytesT, Option.map_eq_some_iff] using hby
  obtain ⟨inf, hinf, hbytes⟩ := hi
  have h0 : (#[st, xt] : Array TypeId)[0]? = some st := rfl
  have h1 : (#[st, xt] : Array TypeId)[1]? = some xt := rfl
  have h2 : (#[Value.slice base l c, .int k n] : Array Value)[0]? = some (.slice base l c) := rfl
  have h3 : (#[Value.slice base l c, .int k n] : Array Value)[1]? = some (.int k n) := rfl
  have hmax : IntKind.i64.max = 9223372036854775807 := by decide
  have hwrap : IntKind.i64.wrap (n : Int) = n := wrap_small (by omega) (by omega)
  have hneg : ¬ ((n : Int) < 0) := by omega
  clear hmax
  have hmul : ¬ ((n : Int) * (by' : Int) > 2 ^ 48) := by
    rw [← Int.natCast_mul]
    omega
  have hpre : (Builtin.append_ #[st, xt] ty #[.slice base l c, .int k n]).run P w = (Builtin.append_ #[st, xt] ty #[.slice base l c, .int k n]).run P w := rfl
  conv at hpre => rhs; unfold Builtin.append_
  simp only [h0, h1, h2, h3, Sem.run_bind, run_underlying hu, run_underlying hxt, Result.andThen_ok, run_sizeOf' hsz, Sem.run_pure, if_true, asInt, asIntOf, hwrap] at hpre
  rw [if_neg hneg] at hpre
  simp only [Sem.run_bind, run_typeInfo' hinf, hbytes, Result.andThen_ok] at hpre
  rw [if_neg hmul] at hpre
  simp only [Sem.run_bind, Sem.run_pure, Result.andThen_ok, Int.toNat_natCast] at hpre
  rw [hpre]
  clear hpre hwrap hneg hmul
  by_cases hfit : l + n ≤ c
  · simp only [Sem.run_bind, modelApp, hfit, if_true, Bool.not_true, Bool.false_eq_true, if_false, zeroSrc]
    cases base <;> simp only [Sem.run_bind, Sem.run_pure]
  · have hneed := hneed hfit
    have hle : l + n ≤ 17592186044416 := Nat.le_trans (Nat.le_mul_of_pos_right _ (by omega)) hneed
    have hcap : ¬ (Builtin.nextslicecap (l + n) c * by' > 2 ^ 48) := by
      have h9 := nextcap_le (need := l + n) (c := c) (by omega)
      have h10 : Builtin.nextslicecap (l + n) c * by' ≤ 2 * (l + n) * by' := Nat.mul_le_mul_right _ h9
      have h11 : 2 * (l + n) * by' ≤ 2 * ((l + n) * (by' + 1)) := by rw [Nat.mul_assoc]; exact Nat.mul_le_mul_left 2 (Nat.mul_le_mul_left _ (by omega))
      omega
    simp only [Sem.run_bind, modelApp, hfit, if_false, Bool.not_true, Bool.false_eq_true, zeroSrc, run_typeInfo' hinf, hbytes, Result.andThen_ok]
    rw [if_neg (by have hmax : IntKind.i64.max = 9223372036854775807 := by decide
                   rw [hmax]; omega)]
    simp only [Sem.run_bind, run_typeInfo' hinf, hbytes, Result.andThen_ok]
    rw [if_neg hcap]
    simp only [Sem.run_bind, run_typeInfo' hinf, hbytes, Result.andThen_ok, Sem.run_pure]
theorem VR.slice_left {base : Option Addr} {l c : Nat} {v' : Value} (h : VR μ (.slice base l c) v') : ∃ base' c', v' = .slice base' l c' ∧ c ≤ c' := by
  cases h with
  | sl0 => exact ⟨_, _, rfl, Nat.le_refl _⟩
  | sl hm hc hz => exact ⟨_, _, rfl, hc⟩
  | slE hm => exact ⟨_, _, rfl, Nat.le_refl _⟩
theorem isIntT_iff {t : TypeId} : isIntT P t = true ↔ ∃ k, P.underlying t = some (.int k) := by
  unfold isIntT
  split
  · exact ⟨fun _ => ⟨_, by assumption⟩, fun _ => rfl⟩
  · rename_i h
    constructor
    · intro h'; cases h'
    · intro h'; obtain ⟨k, hk⟩ := h'; exact absurd hk (h k)
theorem appTo_need {id sz by' : Nat} {base : Option Addr} {len cap n : Nat} {new : List Value} {r : Value × H} (e : appTo A id sz by' (.slice base len cap) new n = some r) :
    ¬ len + n ≤ cap → (len + n) * (by' + 1) ≤ 17592186044416 := by
  intro h
  simp only [appTo] at e
  have hb : Nat.ble (len + n) cap = false := by
    cases hh : Nat.ble (len + n) cap with
    | true => exact absurd (Nat.le_of_ble_eq_true hh) h
    | false => rfl
  rw [hb] at e
  simp only [cond_false, appGrow] at e
  obtain ⟨hc, _⟩ := cond_some e
  simp only [Bool.and_eq_true] at hc
  exact Nat.le_of_ble_eq_true hc.1
theorem srcCells_len (hR : R μ A w) {sz : Nat} {x x' : Value} {cs : List Value} {n : Nat} (e : srcCells A sz x = some (cs, n)) (hx : VR μ x x') : cs.length = n * sz := by
  unfold srcCells at e
  split at e
  · obtain ⟨hn, e1⟩ := cond_some e
    cases e1
    simp
  · simp only [Option.bind_eq_some_iff] at e
    obtain ⟨cs0, hcs, e⟩ := e
    cases e
    cases hx with
    | sl hm hc hz => exact (rdCells_sim hR hm hcs).1
    | slE hm => exact (rdCells_sim hR hm hcs).1
  · obtain ⟨hs, e1⟩ := cond_some e
    cases e1
    have := Nat.eq_of_beq_eq_true hs
    rw [this]; simp
  · cases e
theorem aAppend_sim {c : Nat} (hR : R μ A w) {id : Nat} (hid : μ id = none) {ts : List TypeId} {args args' : List Value} {v : Value} {A' : H} {ty : TypeId} (e : aAppend P A id ts args = some (v, A')) (ha : VRs μ args args')
    : ∃ v' μ' w', (Builtin.append_ ts.toArray ty args'.toArray).run P w = .ok v' w' ∧ VR μ' v v' ∧ Ext μ A c w (fun i => i = id) μ' A' c w' := by
  unfold aAppend at e
  split at e
  · rename_i st rest s x
    obtain ⟨s', as1, rfl, hs, ha1⟩ := ha.left
    obtain ⟨x', as2, rfl, hx, ha2⟩ := ha1.left
    rw [ha2.nil_left]
    simp only [Option.bind_eq_some_iff] at e
    obtain ⟨el, hel, sz, hsz, by', hby, z, hz, e⟩ := e
    obtain ⟨hzc, e2⟩ := cond_some e
    clear e
    have e := e2
    clear e2
    simp only [Bool.and_eq_true] at hzc
    obtain ⟨h4, h5⟩ := hzc
    have h5 := Nat.eq_of_beq_eq_true h5
    have hu := elemT_some hel
    split at e
    · rename_i xt
      simp only [Option.bind_eq_some_iff] at e
      obtain ⟨xd, hxd, e⟩ := e
      cases s with
      | slice base l cp =>
        obtain ⟨base', c', rfl, hcc⟩ := hs.slice_left
        cases hit : isIntT P xt with
        | true =>
          rw [hit] at e
          simp only [cond_true, Option.bind_eq_some_iff] at e
          obtain ⟨n, hn, e⟩ := e
          obtain ⟨hc, e⟩ := cond_some e
          simp only [Bool.and_eq_true, decide_eq_true_eq] at hc
          obtain ⟨⟨h1, h2⟩, h3⟩ := hc
          obtain ⟨q, hq⟩ := isIntT_iff.1 hit
          obtain ⟨k, rfl⟩ := aInt_some hn
          obtain rfl := hx.int_left
          obtain ⟨m, rfl⟩ := Int.eq_ofNat_of_zero_le h1
          rw [Int.toNat_natCast] at e
          have hzr : VRs μ (zeros z.cells.toList m) (zeros z.cells.toList m) := zeros_plain (VR.plainL (μ := μ) h4).cells m
          have hsrc : SrcR P μ w (zeros z.cells.toList m) (zeroSrc el m sz) := by
            refine ⟨zeros z.cells.toList m, hzr, fun w' _ => ?_⟩
            unfold zeroSrc
            by_cases hm0 : m * sz = 0
            · rw [if_pos hm0]
              have : (zeros z.cells.toList m).length = 0 := by rw [zeros_length, Array.length_toList, h5]; exact hm0
              rw [List.eq_nil_of_length_eq_zero this]; rfl
            · rw [if_neg hm0]
              simp only [Sem.run_bind, run_zeroValue' hz, Result.andThen_ok, Sem.run_pure, zeroCells_eq]
          obtain ⟨v', μ', w', r1, r2, r3⟩ := appTo_sim (P := P) (w := w) (c := c) hR hid hz h4 h5 e hs (by rw [zeros_length, Array.length_toList, h5]) hsrc
          refine ⟨v', μ', w', ?_, r2, r3⟩
          have hnd := appTo_need e
          rw [← r1]
          have hmb : m * by' ≤ 17592186044416 := by
            have h2' : ((m : Int) * (by' : Int)) ≤ 17592186044416 := h2
            rw [← Int.natCast_mul] at h2'
            omega
          exact append_model0 (P := P) (w := w) (b := 0) hu hsz hby rfl hq (by omega) hmb (fun h => hnd (by omega))
        | false =>
          rw [hit] at e
          simp only [cond_false, Option.bind_eq_some_iff] at e
          obtain ⟨⟨cs, n⟩, hsrc, e⟩ := e
          obtain ⟨hlen, hS⟩ := firstCells_sim (P := P) hR hsrc hx
          have hcl := srcCells_len hR hsrc hx
          obtain ⟨v', μ', w', r1, r2, r3⟩ := appTo_sim (P := P) (w := w) (c := c) hR hid hz h4 h5 e hs hcl hS
          refine ⟨v', μ', w', ?_, r2, r3⟩
          have hnd := appTo_need e
          rw [← r1]
          refine append_model (P := P) (w := w) (b := 0) hu hsz hby rfl hxd (fun k hk => ?_) hlen (fun h => hnd (by omega))
          have : isIntT P xt = true := isIntT_iff.2 ⟨k, by rw [hxd, hk]⟩
          rw [hit] at this; cases this
      | _ =>
        exfalso
        cases hit : isIntT P xt <;> rw [hit] at e <;> simp [appTo, Option.bind_eq_some_iff] at e
    · cases e
  · cases e
theorem aCopy_sim {c : Nat} {own : Nat → Prop} (hR : R μ A w) {ts : List TypeId} {args args' : List Value} {v : Value} {A' : H} {ty : TypeId} (e : aCopy P A ts args = some (v, A')) (ha : VRs μ args args') :
    ∃ v' w', (Builtin.copy_ ts.toArray ty args'.toArray).run P w = .ok v' w' ∧ VR μ v v' ∧ Ext μ A c w own μ A' c w' := by
  unfold aCopy at e
  split at e
  · rename_i dt rest base dl dc sb sl sc
    obtain ⟨d', as1, rfl, hd, ha1⟩ := ha.left
    obtain ⟨s', as2, rfl, hs, ha2⟩ := ha1.left
    rw [ha2.nil_left]
    simp only [Option.bind_eq_some_iff] at e
    obtain ⟨el, hel, sz, hsz, e⟩ := e
    have hu := elemT_some hel
    obtain ⟨sb', sc', rfl, hscc⟩ := hs.slice_left
    have h0 : ((dt :: rest).toArray : Array TypeId)[0]? = some dt := rfl
    split at e
    · obtain ⟨hdl, e⟩ := cond_some e
      cases e
      have hdl := Nat.eq_of_beq_eq_true hdl
      subst hdl
      cases hd
      refine ⟨goInt 0, w, ?_, VR.int .i64 _, Ext.refl hR⟩
      have hfc : (Builtin.firstCells sz 0 (.slice sb' sl sc')).run P w = .ok #[] w := by
        cases sb' with
        | none => rfl
        | some a => simp [Builtin.firstCells, loadCells, loadCellsFrom]
      simp [Builtin.copy_, run_underlying hu, Builtin.lenOf, run_sizeOf' hsz, hfc]
    · rename_i i o
      simp only [Option.bind_eq_some_iff] at e
      obtain ⟨⟨cs, n⟩, hsrc, A1, hw, e⟩ := e
      cases e
      have hs2 : VR μ (.slice sb (Nat.min sl dl) sc) (.slice sb' (Nat.min sl dl) sc') := by
        cases hs with
        | sl0 => exact .sl0 _ _
        | sl hm hc hz => exact .sl hm hc hz
        | slE hm => rw [show Nat.min 0 dl = 0 from Nat.zero_min dl]; exact .slE hm
      obtain ⟨hlen, ys, hyr, hrun⟩ := firstCells_sim (P := P) hR hsrc hs2
      have hn : n = Nat.min sl dl := by
        unfold srcCells at hsrc
        split at hsrc
        · obtain ⟨hn, h9⟩ := cond_some hsrc
          cases h9
          rename_i heq
          cases heq
          exact (Nat.eq_of_beq_eq_true hn).symm
        · rename_i heq
          cases heq
          simp only [Option.bind_eq_some_iff] at hsrc
          obtain ⟨_, _, h9⟩ := hsrc
          cases h9; rfl
        · rename_i heq; cases heq
        · cases hsrc
      have hrun' : (Builtin.firstCells sz (Nat.min sl dl) (.slice sb' sl sc')).run P w = .ok ys.toArray w := by
        have := hrun w rfl
        rw [hn] at this
        cases sb' <;> simpa [Builtin.firstCells] using this
      cases hd with
      | @sl _ _ _ _ c' m hm hc hz =>
        obtain ⟨w', hst, hext⟩ := wrCells_sim (P := P) (c0 := c) (own := own) hR hm hyr hw
        refine ⟨goInt (Nat.min sl dl), w', ?_, VR.int .i64 _, hext⟩
        simp [Builtin.copy_, run_underlying hu, Builtin.lenOf, run_sizeOf' hsz, hrun', hst]
      | @slE _ _ x m hm =>
        have h00 : Nat.min sl 0 = 0 := Nat.min_zero sl
        rw [h00] at hn hrun'
        have hcl := srcCells_len hR hsrc hs2
        rw [hn] at hcl
        have hc0 : cs = [] := List.eq_nil_of_length_eq_zero (by simpa using hcl)
        subst hc0
        have hy0 : ys = [] := hyr.nil_left
        subst hy0
        obtain ⟨w', hst, hext⟩ := wrCells_sim (P := P) (c0 := c) (own := own) hR hm hyr hw
        have hww : w = w' := by simpa [storeCells] using hst
        subst hww
        refine ⟨goInt (Nat.min sl 0), w, ?_, VR.int .i64 _, hext⟩
        simp [Builtin.copy_, run_underlying hu, Builtin.lenOf, run_sizeOf' hsz, hrun', storeCells]
    · cases e
  · cases e
theorem aClear_sim {c : Nat} {own : Nat → Prop} (hR : R μ A w) {ts : List TypeId} {args args' : List Value} {v : Value} {A' : H} {ty : TypeId} (e : aClear P A ts args = some (v, A')) (ha : VRs μ args args')
    (hts : ∀ t, ts.head? = some t → ∃ td, P.underlying t = some td) :
    ∃ v' w', (Builtin.clear_ ts.toArray ty args'.toArray).run P w = .ok v' w' ∧ VR μ v v' ∧ Ext μ A c w own μ A' c w' := by
  unfold aClear at e
  split at e
  · rename_i t rest x
    obtain ⟨x', as1, rfl, hx, ha1⟩ := ha.left
    rw [ha1.nil_left]
    obtain ⟨td, htd⟩ := hts t rfl
    have hv : VR μ (.tuple #[]) (.tuple #[]) := VR.tuple_iff.2 (VRs.nil μ)
    split at e
    · cases e
      cases hx
      refine ⟨.tuple #[], w, ?_, hv, Ext.refl hR⟩
      simp only [Builtin.clear_, List.getElem?_toArray, List.getElem?_cons_zero, Sem.run_bind, run_underlying htd, Result.andThen_ok]
      cases td <;> simp
    · rename_i i o n cp
      simp only [Option.bind_eq_some_iff] at e
      obtain ⟨el, hel, sz, hsz, z, hz, e⟩ := e
      obtain ⟨hzc, e⟩ := cond_some e
      simp only [Option.bind_eq_some_iff] at e
      obtain ⟨A1, hw, e⟩ := e
      cases e
      simp only [Bool.and_eq_true] at hzc
      have hzr : VRs μ (zeros z.cells.toList n) (zeros z.cells.toList n) := zeros_plain (VR.plainL (μ := μ) hzc.1).cells n
      have hu := elemT_some hel
      cases hx with
      | @sl _ _ _ _ c' m hm hc hz' =>
        obtain ⟨w', hst, hext⟩ := wrCells_sim (P := P) (c0 := c) (own := own) hR hm hzr hw
        refine ⟨.tuple #[], w', ?_, hv, hext⟩
        cases n with
        | zero =>
          have hww : w = w' := by simpa [storeCells, zeros] using hst
          subst hww
          simp [Builtin.clear_, run_underlying hu]
        | succ n =>
          simp only [Builtin.clear_, List.getElem?_toArray, List.getElem?_cons_zero, Sem.run_bind, run_underlying hu, Result.andThen_ok, run_zeroValue' hz, zeroCells_eq]
          simp [hst]
      | @slE _ _ x m hm =>
        obtain ⟨w', hst, hext⟩ := wrCells_sim (P := P) (c0 := c) (own := own) hR hm hzr hw
        have hww : w = w' := by simpa [storeCells, zeros] using hst
        subst hww
        refine ⟨.tuple #[], w, ?_, hv, hext⟩
        simp [Builtin.clear_, run_underlying hu]
    · cases e
  · cases e
end Go.Ab

namespace Go.Ab
open Go
set_option linter.unusedVariables false
set_option linter.unusedSimpArgs false
variable {H : Type} [HeapC H] {P : Program} {μ : Mu} {A : H} {w : World}
def wd (ro : Option Nat) : Fence := { Fence.wide with round := ro }
theorem wd_calls {ro : Option Nat} {n : Nat} {f : FuncId} {args : Array Value} {Rq : Ending → World → Prop} (h : Calls P f args w Rq) : CallsIn (wd ro) n P f args w Rq :=
  callsIn_wide (n := n).2 h
def CallR (μ : Mu) (A : H) (c : Nat) (w : World) (r : Rt H) (e : Ending) (w' : World) : Prop :=
  ∃ v v' μ', r.vs = [v] ∧ e = .returned v' ∧ VR μ' v v' ∧ Ext μ A c w (fun _ => False) μ' r.h r.c w'
structure OS (P : Program) (o : Orc H) : Prop where
  fn : ∀ (f : FuncId) (args : List Value) (A : H) (c : Nat) (df : List Nat) (r : Rt H), o (.fn f) args A c df = some r →
    (∀ avs w, (callFunc f avs).run P w = .ok (.enter f avs) w) ∧
    ∀ (μ : Mu) (w : World) (args' : List Value), VRs μ args args' → R μ A w → Fresh μ c → Calls P f args'.toArray w (CallR μ A c w r)
  rnd : ∀ (nt : Nat) (lin fr params : List Nat) (l : Nat) (a b : ACode) (vs : List Value) (A : H) (c : Nat) (df : List Nat) (r : Rt H), o (.rnd nt lin fr params l a b) vs A c df = some r →
    ∀ (μ : Mu) (w : World) (ts : Array Value) (m : ME) (ro : Option Nat) (n : Nat) (f : FuncId), μ l = some m → TmR μ (tmOf (params ++ lin) vs) nt ts → R μ A w → Fresh μ c →
      RoundIn (wd ro) n P m.b f ts (strip a) (strip b) w (CallR μ A c w r)
theorem wpIn_value {o : Oper} {a : Act} {ro : Option Nat} {n : Nat} {K : Act → World → Prop} {Q : Exit → Act → World → Prop} {v' : Value} {w' : World} (hd : ∀ c, o.op ≠ .defer c)
    (h : (execOp a.eval o).run P w = .ok (.value v') w') (hK : K (a.put o.dst v') w') : o.wpIn (wd ro) n P a w K Q := by
  refine ⟨fun _ _ => trivial, ?_⟩
  rw [Oper.semAt_eq _ _ _ hd, h]
  exact hK
theorem wpIn_skip' {o : Oper} {a : Act} {ro : Option Nat} {n : Nat} {K : Act → World → Prop} {Q : Exit → Act → World → Prop} {w' : World} (hd : ∀ c, o.op ≠ .defer c)
    (h : (execOp a.eval o).run P w = .ok .skip w') (hK : K (a.put o.dst undef) w') : o.wpIn (wd ro) n P a w K Q := by
  refine ⟨fun _ _ => trivial, ?_⟩
  rw [Oper.semAt_eq _ _ _ hd, h]
  exact hK
theorem run_v {s : Sem Value} {v' : Value} {w' : World} (h : s.run P w = .ok v' w') : (do pure (Next.value (← s)) : Sem Next).run P w = .ok (.value v') w' := by
  simp only [Sem.run_bind, h, Result.andThen_ok, Sem.run_pure]
theorem ret1_some {h : H} {c : Nat} {v : Option Value} {r : Value × H × Nat} (e : ret1 h c v = some r) : v = some r.1 ∧ r.2.1 = h ∧ r.2.2 = c := by
  simp only [ret1, Option.bind_eq_some_iff] at e
  obtain ⟨x, hx, e⟩ := e
  cases e
  exact ⟨hx, rfl, rfl⟩
theorem TmR.opt {tm : Tm} {nt : Nat} {a : Act} (h : TmR μ tm nt a.tmps) {x : Option Operand} {v : Option Value} (e : optO tm x = some v) : VRo μ v (x.map a.eval) := by
  cases x with
  | none => simp [optO] at e; subst e; trivial
  | some x =>
    simp only [optO, Option.bind_eq_some_iff] at e
    obtain ⟨y, hy, e⟩ := e
    cases e
    exact h.eval hy
theorem mk_ext {c : Nat} (hR : R μ A w) {id : Nat} (hid : μ id = none) :
    Ext μ A c w (fun i => i = id) (μ.upd id ⟨w.heap.size, 0, none⟩) (HeapC.set A id (.map [])) c { w with heap := w.heap.push (.map #[] 0) } := by
  refine Ext.alloc hR hid rfl rfl rfl rfl rfl rfl ?_
  exact ⟨#[], 0, by simp, rfl, by simp⟩
theorem look {o : Oper} {a : Act} {ro : Option Nat} {n c : Nat} {K : Act → World → Prop} {Q : Exit → Act → World → Prop} {v : Value} {s : Sem Value} (hR : R μ A w) (hd : ∀ c, o.op ≠ .defer c)
    (hs : execOp a.eval o = (do pure (.value (← s)))) (h : ∃ v', s.run P w = .ok v' w ∧ VR μ v v')
    {own : Nat → Prop} (hK : ∀ v' μ' w', VR μ' v v' → Ext μ A c w own μ' A c w' → K (a.put o.dst v') w') : o.wpIn (wd ro) n P a w K Q := by
  obtain ⟨v', h1, h2⟩ := h
  exact wpIn_value hd (by rw [hs]; exact run_v h1) (hK v' μ w h2 (Ext.refl hR))
theorem doOp_simple {o : Orc H} {d : Option Tmp} {op : Op} {ty : TypeId} {pos : String} {af : Array Edge} {gd : Option (Nat × Bool)} {id : Nat} {tm : Tm} {nt c c' : Nat} {v : Value} {A' : H} {a : Act}
    (hcall : ∀ k, op ≠ .call k) (e : doOp P o id tm A c op = some (v, A', c')) (ht : TmR μ tm nt a.tmps) (hR : R μ A w) (hid : μ id = none)
    {ro : Option Nat} {n : Nat} {K : Act → World → Prop} {Q : Exit → Act → World → Prop}
    (hK : ∀ v' μ' w', VR μ' v v' → Ext μ A c w (fun i => i = id ∧ 2 ≤ cls op) μ' A' c' w' → K (a.put d v') w') :
    (Oper.mk d op ty pos af gd).wpIn (wd ro) n P a w K Q := by
  have hu : VR μ undef undef := VR.tuple_iff.2 (VRs.nil μ)
  cases op with
  | move x =>
    obtain ⟨h1, h2, h3⟩ := ret1_some e
    subst h2; subst h3
    exact wpIn_value (by simp) (by rfl) (hK _ μ w (ht.eval h1) (Ext.refl hR))
  | assign x =>
    obtain ⟨h1, h2, h3⟩ := ret1_some e
    subst h2; subst h3
    exact wpIn_value (by simp) (by rfl) (hK _ μ w (ht.eval h1) (Ext.refl hR))
  | pick k x y =>
    simp only [doOp, Option.bind_eq_some_iff] at e
    obtain ⟨kv, hk, xv, hx, yv, hy, e⟩ := e
    split at e
    · rename_i t
      cases e
      have h1 := (ht.eval hk).bool_left
      refine wpIn_value (v' := if t then a.eval x else a.eval y) (by simp) ?_ (hK _ μ w ?_ (Ext.refl hR))
      · simp [execOp, h1, asBool]
      · cases t
        · exact ht.eval hy
        · exact ht.eval hx
    · cases e
  | alloc t =>
    simp only [doOp, Option.bind_eq_some_iff] at e
    obtain ⟨z, hz, e⟩ := e
    obtain ⟨hp, e⟩ := cond_some e
    cases e
    have hzr : VRs μ z.cells.toList z.cells.toList := (VR.plainL (μ := μ) hp).cells
    refine wpIn_value (v' := .pointer (some ⟨w.heap.size, 0, none⟩)) (w' := { w with heap := w.heap.push (.cells z.cells t) }) (by simp) ?_ (hK _ _ _ (ptrTo_VR hid) (Ext.weaken (own := fun i => i = id) ?_ (fun i h => ⟨h, by simp [cls]⟩)))
    · simp [execOp, Instr.alloc, run_zeroValue' hz, newVar, newRow]
    · simpa using newB_sim (c := c) hR hid hzr t
  | box t x =>
    simp only [doOp, Option.bind_eq_some_iff] at e
    obtain ⟨xv, hx, e⟩ := e
    obtain ⟨hp, e⟩ := cond_some e
    cases e
    have hr := (ht.eval hx).cells
    refine wpIn_value (v' := .pointer (some ⟨w.heap.size, 0, none⟩)) (w' := { w with heap := w.heap.push (.cells (a.eval x).cells t) }) (by simp) ?_ (hK _ _ _ (ptrTo_VR hid) (Ext.weaken (own := fun i => i = id) ?_ (fun i h => ⟨h, by simp [cls]⟩)))
    · simp [execOp, Instr.box, newVar, newRow]
    · simpa using newB_sim (c := c) hR hid hr t
  | build t ps =>
    simp only [doOp, Option.bind_eq_some_iff] at e
    obtain ⟨vs, hvs, e⟩ := e
    obtain ⟨h1, h2, h3⟩ := ret1_some e
    subst h2; subst h3
    have hp := ht.evalPs hvs
    refine look hR (by simp) rfl ?_ hK
    have hq : (ps.toList.map fun (p : Nat × Operand) => (p.1, a.eval p.2)).toArray = ps.map fun p => (p.1, a.eval p.2) := by apply Array.ext'; simp
    have := aBuild_sim (w := w) h1 hp
    rw [hq] at this
    exact this
  | buildSlice t len ps =>
    simp only [doOp, Option.bind_eq_some_iff] at e
    obtain ⟨vs, hvs, cs, hcs, e⟩ := e
    cases e
    have hp := ht.evalPs hvs
    obtain ⟨cs', E, h1, h2⟩ := aBuildSlice_sim (w := w) hcs hp
    have hq : (ps.toList.map fun (p : Nat × Operand) => (p.1, a.eval p.2)).toArray = ps.map fun p => (p.1, a.eval p.2) := by apply Array.ext'; simp
    rw [hq] at h1
    exact wpIn_value (by simp) (run_v h1) (hK _ _ _ slTo_VR ((newB_sim (c := c) hR hid h2 E).weaken (fun i h => ⟨h, by simp [cls]⟩)))
  | insert t m k x =>
    simp only [doOp, Option.bind_eq_some_iff] at e
    obtain ⟨mv, hm, kv, hk, xv, hx, A1, hA, e⟩ := e
    cases e
    obtain ⟨w', h1, h2⟩ := aMapUpdate_sim (c := c) (own := fun i => i = id ∧ _) hR hA (ht.eval hm) (ht.eval hk) (ht.eval hx)
    refine wpIn_skip' (by simp) ?_ (hK _ μ w' hu h2)
    simp only [execOp, Sem.run_bind, h1, Result.andThen_ok, Sem.run_pure]
  | load t x =>
    simp only [doOp, Option.bind_eq_some_iff] at e
    obtain ⟨p, hp, e⟩ := e
    obtain ⟨h1, h2, h3⟩ := ret1_some e
    subst h2; subst h3
    exact look hR (by simp) rfl (aLoad_sim hR h1 (ht.eval hp)) hK
  | store t x y =>
    simp only [doOp, Option.bind_eq_some_iff] at e
    obtain ⟨p, hp, xv, hx, A1, hA, e⟩ := e
    cases e
    obtain ⟨w', h1, h2⟩ := aStore_sim (P := P) (c0 := c) (own := fun i => i = id ∧ _) hR hA (ht.eval hp) (ht.eval hx)
    refine wpIn_skip' (by simp) ?_ (hK _ μ w' hu h2)
    simp only [execOp, Sem.run_bind, h1, Result.andThen_ok, Sem.run_pure]
  | nilCheck x =>
    simp only [doOp, Option.bind_eq_some_iff] at e
    obtain ⟨p, hp, e⟩ := e
    obtain ⟨h1, h2, h3⟩ := ret1_some e
    subst h2; subst h3
    have hv := ht.eval hp
    obtain ⟨h4, h5⟩ := aNilCheck_sim h1 hv
    subst h4
    refine wpIn_value (v' := a.eval x) (by simp) ?_ (hK _ μ w hv (Ext.refl hR))
    rcases h5 with ⟨q, h5⟩ | ⟨f, q, q2, h5⟩ | ⟨f, q, q2, h5⟩ <;> simp [execOp, h5]
  | binOp bo t x y yt =>
    simp only [doOp, Option.bind_eq_some_iff] at e
    obtain ⟨xv, hx, yv, hy, e⟩ := e
    obtain ⟨h1, h2, h3⟩ := ret1_some e
    subst h2; subst h3
    exact look hR (by simp) rfl (aBinOp_sim h1 (ht.eval hx) (ht.eval hy)) hK
  | unOp u t x =>
    simp only [doOp, Option.bind_eq_some_iff] at e
    obtain ⟨xv, hx, e⟩ := e
    obtain ⟨h1, h2, h3⟩ := ret1_some e
    subst h2; subst h3
    exact look hR (by simp) rfl (aUnOp_sim h1 (ht.eval hx)) hK
  | convert s dd x =>
    simp only [doOp, Option.bind_eq_some_iff] at e
    obtain ⟨ds, hds, xv, hx, e⟩ := e
    obtain ⟨h1, h2, h3⟩ := ret1_some e
    subst h2; subst h3
    exact look hR (by simp) rfl (aConvert_sim h1 (ht.eval hx) ⟨ds, hds⟩) hK
  | sliceToArrayPointer t x =>
    simp only [doOp, Option.bind_eq_some_iff] at e
    obtain ⟨xv, hx, e⟩ := e
    obtain ⟨h1, h2, h3⟩ := ret1_some e
    subst h2; subst h3
    exact look hR (by simp) rfl (aArrPtr_sim h1 (ht.eval hx)) hK
  | makeInterface t x =>
    simp only [doOp, Option.bind_eq_some_iff] at e
    obtain ⟨xv, hx, e⟩ := e
    split at e
    · cases e
    · cases e
    · rename_i td hni htd
      cases e
      refine look hR (by simp) rfl ⟨.iface t (a.eval x), ?_, .iface t (ht.eval hx)⟩ hK
      simp only [Instr.makeInterface, Sem.run_bind, run_underlying htd, Result.andThen_ok]
      cases td <;> first | rfl | (exact absurd rfl (hni _))
  | makeFunc fn first cap =>
    simp only [doOp] at e
    split at e
    · rename_i g
      simp only [Option.bind_eq_some_iff] at e
      obtain ⟨fv, hfv, kv, hkv, e⟩ := e
      cases e
      have h1 := ht.evals hfv
      have h2 := ht.evals hkv
      refine look hR (by simp) rfl ⟨.func (.func g) (first.map a.eval) (cap.map a.eval), rfl, ?_⟩ hK
      refine .fnc g ?_ ?_ ?_ ?_
      · have := h1.1; simpa using this
      · have := h2.1; simpa using this
      · intro k x y hx hy; exact h1.2 k x y (by simpa using hx) (by simpa [← Array.getElem?_toList] using hy)
      · intro k x y hx hy; exact h2.2 k x y (by simpa using hx) (by simpa [← Array.getElem?_toList] using hy)
    · cases e
  | makeMap t r =>
    simp only [doOp] at e
    cases r with
    | none =>
      simp only [Option.some.injEq, Prod.mk.injEq] at e
      obtain ⟨rfl, rfl, rfl⟩ := e
      refine wpIn_value (v' := .map (some w.heap.size)) (by simp) ?_ (hK _ _ _ (.map (Mu.upd_self μ id ⟨w.heap.size, 0, none⟩)) ((mk_ext (c := c) hR hid).weaken (fun i h => ⟨h, by simp [cls]⟩)))
      simp [execOp, Instr.makeMap]
    | some x =>
      simp only [Option.bind_eq_some_iff] at e
      obtain ⟨ke, hke, xv, hx, i, hi, e⟩ := e
      cases e
      obtain ⟨k, rfl⟩ := aInt_some hi
      have hx' := (ht.eval hx).int_left
      refine wpIn_value (v' := .map (some w.heap.size)) (by simp) ?_ (hK _ _ _ (.map (Mu.upd_self μ id ⟨w.heap.size, 0, none⟩)) ((mk_ext (c := c) hR hid).weaken (fun i h => ⟨h, by simp [cls]⟩)))
      simp [execOp, Instr.makeMap, run_underlying (mapT_some hke), hx', asInt, asIntOf]
  | makeSlice t l k =>
    simp only [doOp, Option.bind_eq_some_iff] at e
    obtain ⟨lv, hl, kv, hk, r, hr, e⟩ := e
    cases e
    obtain ⟨cs', E, h1, h2⟩ := aMakeSlice_sim (w := w) hr (ht.eval hl) (ht.eval hk)
    exact wpIn_value (by simp) (run_v h1) (hK _ _ _ slTo_VR ((newB_sim (c := c) hR hid h2 E).weaken (fun i h => ⟨h, by simp [cls]⟩)))
  | slice t x lo hi mx =>
    simp only [doOp, Option.bind_eq_some_iff] at e
    obtain ⟨xv, hx, l, hl, hh, hhi, m, hm, e⟩ := e
    obtain ⟨h1, h2, h3⟩ := ret1_some e
    subst h2; subst h3
    exact look hR (by simp) rfl (aSlice_sim hR h1 (ht.eval hx) (ht.opt hl) (ht.opt hhi) (ht.opt hm)) hK
  | fieldAddr t x f =>
    simp only [doOp, Option.bind_eq_some_iff] at e
    obtain ⟨xv, hx, e⟩ := e
    obtain ⟨h1, h2, h3⟩ := ret1_some e
    subst h2; subst h3
    exact look hR (by simp) rfl (aFieldAddr_sim h1 (ht.eval hx)) hK
  | field t x f =>
    simp only [doOp, Option.bind_eq_some_iff] at e
    obtain ⟨xv, hx, e⟩ := e
    obtain ⟨h1, h2, h3⟩ := ret1_some e
    subst h2; subst h3
    exact look hR (by simp) rfl (aField_sim h1 (ht.eval hx)) hK
  | indexAddr t x i =>
    simp only [doOp, Option.bind_eq_some_iff] at e
    obtain ⟨xv, hx, iv, hi, e⟩ := e
    obtain ⟨h1, h2, h3⟩ := ret1_some e
    subst h2; subst h3
    exact look hR (by simp) rfl (aIndexAddr_sim h1 (ht.eval hx) (ht.eval hi)) hK
  | index t x i =>
    simp only [doOp, Option.bind_eq_some_iff] at e
    obtain ⟨xv, hx, iv, hi, e⟩ := e
    obtain ⟨h1, h2, h3⟩ := ret1_some e
    subst h2; subst h3
    exact look hR (by simp) rfl (aIndex_sim h1 (ht.eval hx) (ht.eval hi)) hK
  | lookup t m k ok =>
    simp only [doOp, Option.bind_eq_some_iff] at e
    obtain ⟨mv, hm, kv, hk, e⟩ := e
    obtain ⟨h1, h2, h3⟩ := ret1_some e
    subst h2; subst h3
    exact look hR (by simp) rfl (aLookup_sim hR h1 (ht.eval hm) (ht.eval hk)) hK
  | mapUpdate t m k x =>
    simp only [doOp, Option.bind_eq_some_iff] at e
    obtain ⟨mv, hm, kv, hk, xv, hx, A1, hA, e⟩ := e
    cases e
    obtain ⟨w', h1, h2⟩ := aMapUpdate_sim (c := c) (own := fun i => i = id ∧ _) hR hA (ht.eval hm) (ht.eval hk) (ht.eval hx)
    refine wpIn_skip' (by simp) ?_ (hK _ μ w' hu h2)
    simp only [execOp, Sem.run_bind, h1, Result.andThen_ok, Sem.run_pure]
  | extract t i =>
    simp only [doOp, Option.bind_eq_some_iff] at e
    obtain ⟨tv, htv, e⟩ := e
    split at e
    · rename_i vs
      simp only [Option.bind_eq_some_iff] at e
      obtain ⟨x, hx, e⟩ := e
      cases e
      have hv := ht.eval htv
      generalize hev : a.eval t = tv' at hv
      cases hv with
      | @tuple _ ys hs hh =>
        have hl : i < ys.size := by have := (Array.getElem?_eq_some_iff.1 hx).1; omega
        refine look hR (by simp) rfl ⟨ys[i], ?_, hh i _ ys[i] hx (Array.getElem?_eq_getElem hl)⟩ hK
        simp [Instr.extract, hev, hl]
    · cases e
  | call k => exact absurd rfl (hcall k)
  | _ => simp [doOp] at e
theorem run_resolve_value {c : Call} {f : Operand} (hc : c.callee = .value f) {a : Act} {ty : TypeId} {fn : Fn} {fs cap : Array Value} (hf : a.eval f = .func fn fs cap) :
    (resolve a.eval c ty).run P w = .ok { target := .fn fn cap, args := fs ++ c.args.map a.eval } w := by
  simp [resolve, hc, hf, Deferred.ofValue]
theorem run_execCall {o : Oper} {c : Call} (ho : o.op = .call c) {a : Act} {d : Deferred} (h : (resolve a.eval c o.type).run P w = .ok d w) :
    (execOp a.eval o).run P w = (invoke d.target d.args).run P w := by
  simp only [execOp, ho, Sem.run_bind, h, Result.andThen_ok]
theorem tmOf_append : ∀ {ps : List Nat} {xs : List Value} {l : List Nat} {vs : List Value} (t : Nat), ps.length = xs.length → tmOf (ps ++ l) (xs ++ vs) t = (tmOf ps xs t).or (tmOf l vs t)
  | [], [], l, vs, t, h => by simp [tmOf]
  | [], x :: xs, l, vs, t, h => by simp at h
  | p :: ps, [], l, vs, t, h => by simp at h
  | p :: ps, x :: xs, l, vs, t, h => by
    have ih := tmOf_append (ps := ps) (xs := xs) (l := l) (vs := vs) t (by simpa using h)
    simp only [List.cons_append, tmOf]
    cases Nat.beq t p <;> simp [ih]
theorem tmOf_mem : ∀ {ps : List Nat} {xs : List Value} {t : Nat} {v : Value}, tmOf ps xs t = some v → t ∈ ps
  | [], xs, t, v, h => by simp [tmOf] at h
  | p :: ps, [], t, v, h => by simp [tmOf] at h
  | p :: ps, x :: xs, t, v, h => by
    simp only [tmOf] at h
    cases hb : Nat.beq t p with
    | true => rw [Nat.eq_of_beq_eq_true hb]; simp
    | false => rw [hb] at h; exact List.mem_cons_of_mem _ (tmOf_mem h)
theorem nodupB_cons {x : Nat} {xs : List Nat} (h : nodupB (x :: xs) = true) : x ∉ xs ∧ nodupB xs = true := by
  simp only [nodupB, Bool.and_eq_true, Bool.not_eq_true'] at h
  refine ⟨fun hm => ?_, h.2⟩
  have : xs.any (Nat.beq x) = true := List.any_eq_true.2 ⟨x, hm, by simp⟩
  rw [h.1] at this; cases this
theorem fold_params : ∀ (ps : List Nat) (xs xs' : List Value) (base : Tm) (nt : Nat) (ts : Array Value), ps.length = xs.length → VRs μ xs xs' → nodupB ps = true → (∀ p ∈ ps, p < nt) → TmR μ base nt ts →
    TmR μ (fun t => (tmOf ps xs t).or (base t)) nt ((ps.zip xs').foldl (fun (tmps : Array Value) (p : Tmp × Value) => tmps.setIfInBounds p.1 p.2) ts)
  | [], [], xs', base, nt, ts, hl, hx, hn, hb, h => by
    rw [hx.nil_left]
    simpa [tmOf] using h
  | [], x :: xs, xs', base, nt, ts, hl, hx, hn, hb, h => by simp at hl
  | p :: ps, [], xs', base, nt, ts, hl, hx, hn, hb, h => by simp at hl
  | p :: ps, x :: xs, xs', base, nt, ts, hl, hx, hn, hb, h => by
    obtain ⟨x', ys, rfl, h1, h2⟩ := hx.left
    obtain ⟨hp, hn'⟩ := nodupB_cons hn
    have h3 : TmR μ (putT base (some p) x) nt (ts.setIfInBounds p x') := TmR.put (a := ⟨ts, []⟩) h (fun d hd => by cases hd; exact hb p (by simp)) h1
    have ih := fold_params ps xs ys (putT base (some p) x) nt (ts.setIfInBounds p x') (by simpa using hl) h2 hn' (fun q hq => hb q (by simp [hq])) h3
    simp only [List.zip_cons_cons, List.foldl_cons]
    refine ⟨ih.size, fun t v e => ih.val t v ?_⟩
    simp only [tmOf] at e
    cases hbq : Nat.beq t p with
    | true =>
      have htp := Nat.eq_of_beq_eq_true hbq
      subst htp
      rw [hbq] at e
      simp only [cond_true, Option.some_or] at e
      have : tmOf ps xs t = none := by
        cases hq : tmOf ps xs t with
        | none => rfl
        | some u => exact absurd (tmOf_mem hq) hp
      rw [this]
      simpa [putT] using e
    | false =>
      rw [hbq] at e
      simp only [cond_false] at e
      simpa [putT, hbq] using e
theorem call_wp {o : Orc H} (hO : OS P o) {oper : Oper} {k : Call} (hop : oper.op = .call k) {fo : Operand} (hk : k.callee = .value fo) {tm : Tm} {nt c c' : Nat} {fv v : Value} {args : List Value} {A' : H} {a : Act}
    (ht : TmR μ tm nt a.tmps) (hR : R μ A w) (hfr : Fresh μ c) (hargs : evalOs tm k.args.toList = some args) (hfv : evalO tm fo = some fv) (e : callV o A c fv args = some (v, A', c'))
    {ro : Option Nat} {n : Nat} {K : Act → World → Prop} {Q : Exit → Act → World → Prop}
    {own : Nat → Prop} (hK : ∀ v' μ' w', VR μ' v v' → Ext μ A c w own μ' A' c' w' → K (a.put oper.dst v') w') : oper.wpIn (wd ro) n P a w K Q := by
  have hav := ht.evals hargs
  have hfv' := ht.eval hfv
  have hnd : ∀ d, oper.op ≠ .defer d := by rw [hop]; simp
  have hend : ∀ (r : Rt H), (match r.vs with | [v] => some (v, r.h, r.c) | _ => none) = some (v, A', c') → ∀ en w', CallR μ A c w r en w' → ∃ v', en = .returned v' ∧ K (a.put oper.dst v') w' := by
    intro r hr en w' ⟨x, x', μ', h1, h2, h3, h4⟩
    rw [h1] at hr
    cases hr
    exact ⟨x', h2, hK x' μ' w' h3 (h4.weaken (fun _ h => h.elim))⟩
  have hmono : ∀ (r : Rt H), (match r.vs with | [v] => some (v, r.h, r.c) | _ => none) = some (v, A', c') → ∀ en w', CallR μ A c w r en w' → (fun
      | Ending.returned v, w'' => K (a.put oper.dst v) w''
      | .panicked chain, w'' => Q (.panic chain) a w''
      | .outgrown, _ => LetsOut Q : Ending → World → Prop) en w' := by
    intro r hr en w' hc
    obtain ⟨v', rfl, h⟩ := hend r hr en w' hc
    exact h
  unfold callV at e
  split at e
  · rename_i g first cap
    simp only [Option.bind_eq_some_iff] at e
    obtain ⟨r, hr, e⟩ := e
    obtain ⟨hcf, hcall⟩ := hO.fn _ _ _ _ _ _ hr
    generalize hev : a.eval fo = fv' at hfv'
    cases hfv' with
    | @fnc _ avs avs' bs bs' h1 h2 h3 h4 =>
      have hargsR : VRs μ (first.toList ++ args ++ cap.toList) (avs'.toList ++ k.args.toList.map a.eval ++ bs'.toList) := by
        refine VRs.append (VRs.append ⟨by simpa using h1, fun n x y hx hy => h3 n x y (by simpa using hx) (by simpa using hy)⟩ hav) ⟨by simpa using h2, fun n x y hx hy => h4 n x y (by simpa using hx) (by simpa using hy)⟩
      have hC := hcall μ w _ hargsR hR hfr
      refine ⟨fun _ _ => trivial, ?_⟩
      rw [Oper.semAt_eq _ _ _ hnd, run_execCall hop (run_resolve_value (P := P) (w := w) hk hev)]
      have harr : (avs'.toList ++ k.args.toList.map a.eval ++ bs'.toList).toArray = avs' ++ k.args.map a.eval ++ bs' := by apply Array.ext'; simp
      rw [harr] at hC
      simp only [invoke, hcf, Oper.uponIn_enter]
      exact ⟨fun h => by simp [wd, Fence.wide] at h, (wd_calls hC).mono (hmono r e)⟩
  · rename_i l first cap
    obtain ⟨hz, e1⟩ := cond_some e
    clear e
    simp only [Bool.and_eq_true] at hz
    split at e1
    · rename_i st hg
      obtain ⟨hst, e2⟩ := cond_some e1
      clear e1
      simp only [Bool.and_eq_true, decide_eq_true_eq] at hst
      simp only [Option.bind_eq_some_iff] at e2
      obtain ⟨r, hr, e⟩ := e2
      generalize hev : a.eval fo = fv' at hfv'
      cases hfv' with
      | @yield _ m hm =>
        have hb := hR.blk l m hm
        rw [hg] at hb
        obtain ⟨lp, hlp, hL⟩ := hb
        have hal := Nat.eq_of_beq_eq_true hst.1.1.2
        have hpl : k.args.size = lp.params.size := by
          have h1 := hav.1
          have h4 : lp.params.size = st.params.length := by rw [← hL.params]; simp
          simp at h1
          omega
        have hzip : (lp.params.zip (k.args.map a.eval)).foldl (fun (tmps : Array Value) (p : Tmp × Value) => tmps.setIfInBounds p.1 p.2) lp.tmps = (st.params.zip (k.args.toList.map a.eval)).foldl (fun (tmps : Array Value) (p : Tmp × Value) => tmps.setIfInBounds p.1 p.2) lp.tmps := by
          rw [← Array.foldl_toList, Array.toList_zip, hL.params, Array.toList_map]
        have hts : TmR μ (tmOf (st.params ++ st.lin) (args ++ st.vals)) st.nt ((lp.params.zip (k.args.map a.eval)).foldl (fun (tmps : Array Value) (p : Tmp × Value) => tmps.setIfInBounds p.1 p.2) lp.tmps) := by
          rw [hzip]
          have h0 : TmR μ (tmOf st.lin st.vals) st.nt lp.tmps := ⟨hL.size, hL.vals⟩
          have h1 := fold_params st.params args (k.args.toList.map a.eval) _ st.nt lp.tmps (by omega) hav hst.1.2
            (fun p hp => by have := List.all_eq_true.1 hst.2 p hp; simp [Nat.blt] at this; omega) h0
          exact ⟨h1.size, fun t v e => h1.val t v (by rw [tmOf_append t (by omega)] at e; exact e)⟩
        have hC := hO.rnd _ _ _ _ _ _ _ _ _ _ _ _ hr μ w _ m ro (n - 1) lp.fn hm hts hR hfr
        refine ⟨fun _ _ => trivial, ?_⟩
        rw [Oper.semAt_eq _ _ _ hnd, run_execCall hop (run_resolve_value (P := P) (w := w) hk hev)]
        have hgl : (Instr.getLoop m.b).run P w = .ok lp w := by simp [Instr.getLoop, getObj, Sem.run, hlp]
        have hsz : ¬ ((#[] ++ k.args.map a.eval : Array Value).size ≠ lp.params.size) := by simp [hpl]
        have hrun : (invoke (.fn (.yield m.b) #[]) (#[] ++ k.args.map a.eval)).run P w = .ok (.round m.b lp.fn ((lp.params.zip (k.args.map a.eval)).foldl (fun (tmps : Array Value) (p : Tmp × Value) => tmps.setIfInBounds p.1 p.2) lp.tmps) lp.assign lp.body) w := by
          simp only [invoke, Instr.yield, Sem.run_bind, hgl, Result.andThen_ok]
          rw [if_neg hsz]
          simp
        rw [hrun, Oper.uponIn_round, hL.assign, hL.body]
        exact ⟨fun h => by simp [wd, Fence.wide] at h, hC.mono (hmono r e)⟩
    · cases e1
  · cases e
theorem run_execBuiltin {o : Oper} {c : Call} (ho : o.op = .call c) {b : Builtin} (hc : c.callee = .builtin b) {a : Act} :
    ∃ cs, (execOp a.eval o).run P w = (builtin b c.argTypes o.type cs (c.args.map a.eval)).run P w := by
  refine ⟨c.args.map fun | .const _ => true | _ => false, ?_⟩
  simp only [execOp, ho, Sem.run_bind, resolve, hc, Sem.run_pure, Result.andThen_ok, invoke]
  rfl
theorem builtin_wp {oper : Oper} {k : Call} (hop : oper.op = .call k) {b : Builtin} (hk : k.callee = .builtin b) {tm : Tm} {nt c : Nat} {v : Value} {args : List Value} {A' : H} {a : Act} {id : Nat}
    (ht : TmR μ tm nt a.tmps) (hR : R μ A w) (hid : μ id = none) (hargs : evalOs tm k.args.toList = some args) (e : aBuiltin P A id b k.argTypes.toList args = some (v, A'))
    {ro : Option Nat} {n : Nat} {K : Act → World → Prop} {Q : Exit → Act → World → Prop}
    {own : Nat → Prop} (how : b = .append → own id) (hK : ∀ v' μ' w', VR μ' v v' → Ext μ A c w own μ' A' c w' → K (a.put oper.dst v') w') : oper.wpIn (wd ro) n P a w K Q := by
  have hav := ht.evals hargs
  have hnd : ∀ d, oper.op ≠ .defer d := by rw [hop]; simp
  obtain ⟨cs, hrun⟩ := run_execBuiltin (P := P) (w := w) hop hk (a := a)
  have hmap : (k.args.toList.map a.eval).toArray = k.args.map a.eval := by apply Array.ext'; simp
  unfold aBuiltin at e
  split at e
  · -- len
    split at e
    · rename_i t ts x xs hts'
      simp only [Option.bind_eq_some_iff] at e
      obtain ⟨u, hu, e⟩ := e
      cases e
      generalize hxs : k.args.toList.map a.eval = ys at hav hmap
      obtain ⟨x', ys', rfl, hx, hys⟩ := hav.left
      obtain ⟨v', h1, h2⟩ := aLen_sim (P := P) (w := w) (ts' := ts) (xs' := ys') (ty := oper.type) hR hu hx
      refine wpIn_value hnd ?_ (hK v' μ w h2 (Ext.refl hR))
      have hat : k.argTypes = (t :: ts).toArray := by apply Array.ext'; simpa using hts'
      rw [hrun, ← hmap, hat]
      simp only [builtin, Sem.run_bind, h1, Result.andThen_ok, Sem.run_pure]
    · cases e
  · -- max
    simp only [Option.bind_eq_some_iff] at e
    obtain ⟨u, hu, e⟩ := e
    cases e
    cases args with
    | nil => simp [foldV] at hu
    | cons x xs =>
      generalize hxs : k.args.toList.map a.eval = ys at hav hmap
      obtain ⟨x', ys', rfl, hx, hys⟩ := hav.left
      simp only [foldV] at hu
      obtain ⟨v', h1, h2⟩ := foldlM_sim (P := P) (w := w) (g := Builtin.max2) (fun he h1 h2 => ⟨_, max2_sim he h1 h2⟩) hu hys hx
      refine wpIn_value hnd ?_ (hK v' μ w h2 (Ext.refl hR))
      rw [hrun, ← hmap]
      simp only [builtin, Builtin.max_, Sem.run_bind, h1, Result.andThen_ok, Sem.run_pure]
  · -- min
    simp only [Option.bind_eq_some_iff] at e
    obtain ⟨u, hu, e⟩ := e
    cases e
    cases args with
    | nil => simp [foldV] at hu
    | cons x xs =>
      generalize hxs : k.args.toList.map a.eval = ys at hav hmap
      obtain ⟨x', ys', rfl, hx, hys⟩ := hav.left
      simp only [foldV] at hu
      obtain ⟨v', h1, h2⟩ := foldlM_sim (P := P) (w := w) (g := Builtin.min2) (fun he h1 h2 => ⟨_, min2_sim he h1 h2⟩) hu hys hx
      refine wpIn_value hnd ?_ (hK v' μ w h2 (Ext.refl hR))
      rw [hrun, ← hmap]
      simp only [builtin, Builtin.min_, Sem.run_bind, h1, Result.andThen_ok, Sem.run_pure]
  · -- append
    obtain ⟨v', μ', w', h1, h2, h3⟩ := aAppend_sim (P := P) (w := w) (c := c) (ty := oper.type) hR hid e hav
    refine wpIn_value hnd ?_ (hK v' μ' w' h2 (h3.weaken (fun i h => h ▸ how rfl)))
    rw [hrun, ← hmap]
    simp only [Array.toArray_toList] at h1
    simp only [builtin, Sem.run_bind, h1, Result.andThen_ok, Sem.run_pure]
  · -- copy
    obtain ⟨v', w', h1, h2, h3⟩ := aCopy_sim (P := P) (w := w) (c := c) (own := own) (ty := oper.type) hR e hav
    refine wpIn_value hnd ?_ (hK v' μ w' h2 h3)
    rw [hrun, ← hmap]
    simp only [Array.toArray_toList] at h1
    simp only [builtin, Sem.run_bind, h1, Result.andThen_ok, Sem.run_pure]
  · -- clear
    split at e
    · rename_i t ts hts
      simp only [Option.bind_eq_some_iff] at e
      obtain ⟨td, htd, e⟩ := e
      obtain ⟨v', w', h1, h2, h3⟩ := aClear_sim (P := P) (w := w) (c := c) (own := own) (ty := oper.type) hR e hav (fun t' h => by rw [hts] at h; cases h; exact ⟨td, htd⟩)
      refine wpIn_value hnd ?_ (hK v' μ w' h2 h3)
      rw [hrun, ← hmap]
      simp only [Array.toArray_toList] at h1
      simp only [builtin, Sem.run_bind, h1, Result.andThen_ok, Sem.run_pure]
    · cases e
  · cases e
theorem doOp_sim {o : Orc H} (hO : OS P o) {d : Option Tmp} {op : Op} {ty : TypeId} {pos : String} {af : Array Edge} {gd : Option (Nat × Bool)} {id : Nat} {tm : Tm} {nt c c' : Nat} {v : Value} {A' : H} {a : Act}
    (e : doOp P o id tm A c op = some (v, A', c')) (ht : TmR μ tm nt a.tmps) (hR : R μ A w) (hid : μ id = none) (hfr : Fresh μ c)
    {ro : Option Nat} {n : Nat} {K : Act → World → Prop} {Q : Exit → Act → World → Prop}
    (hK : ∀ v' μ' w', VR μ' v v' → Ext μ A c w (fun i => i = id ∧ 2 ≤ cls op) μ' A' c' w' → K (a.put d v') w') :
    (Oper.mk d op ty pos af gd).wpIn (wd ro) n P a w K Q := by
  by_cases hcall : ∃ k, op = .call k
  · obtain ⟨k, rfl⟩ := hcall
    simp only [doOp, Option.bind_eq_some_iff] at e
    obtain ⟨args, hargs, e⟩ := e
    split at e
    · rename_i f hk
      simp only [Option.bind_eq_some_iff] at e
      obtain ⟨fv, hfv, e⟩ := e
      exact call_wp hO rfl hk ht hR hfr hargs hfv e hK
    · rename_i b hk
      simp only [Option.bind_eq_some_iff] at e
      obtain ⟨r, hr, e⟩ := e
      cases e
      exact builtin_wp rfl hk ht hR hid hargs hr (fun hb => ⟨rfl, by subst hb; obtain ⟨callee, args, ats⟩ := k; simp at hk; subst hk; simp [cls]⟩) hK
    · cases e
  · exact doOp_simple (fun k h => hcall ⟨k, h⟩) e ht hR hid hK
end Go.Ab
