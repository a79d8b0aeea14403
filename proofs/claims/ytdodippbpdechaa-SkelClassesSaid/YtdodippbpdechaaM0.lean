/- Parts of a proof: AbDef AbRel. Conditions: none. -/
import Derived.RangeFuncLeaves
import Derived.OrdersIn
import Derived.Below
import Derived.Laws.StructEq
set_option linter.all false
set_option maxRecDepth 100000
set_option maxHeartbeats 4000000
namespace Go.Ab
def qA:=@Option.bind_eq_some_iff
def qB:=@List.getD_eq_getElem?_getD
def qC:=@Int.ofNat_eq_natCast
def qD:=@Option.bind_some
def qE:=@Int.toNat_natCast
def qF:=@Int.cast_ofNat_Int
def qG:=@Nat.le_refl
def qH:=@List.take_of_length_le
def qI:=@List.getElem?_eq_getElem
def qJ:=@Nat.eq_of_beq_eq_true
def qK:=@Nat.ble_eq_true_of_le
def qL:=@List.append_nil
def qM:=@List.drop_zero
def qN:=@Bool.and_eq_true
def qP:=@Nat.le_of_ble_eq_true
def qQ:=@List.append_assoc
def qR:=@Array.getElem?_eq_getElem
def qS:=@List.length_drop
def qT:=@List.length_take
def qU:=@List.drop_of_length_le
def qV:=@Bool.and_self
def qW:=@Nat.add_zero
def qX:=@List.eq_nil_of_length_eq_zero
def qY:=@Bool.eq_false_iff
def qZ:=@Result.andThen_ok
def jA:=@Sem.run_bind
def jB:=@Sem.run_pure
def jC:=@List.getElem?_eq_some_iff
def jD:=@Array.getElem?_eq_some_iff
def jE:=@List.getElem?_append_left
def jF:=@List.getElem?_eq_none
def jG:=@List.mem_singleton
def jH:=@Int.natCast_add
def jI:=@List.length_append
def jJ:=@List.length_replicate
def jK:=@List.length_cons
def jL:=@List.length_set
def jM:=@List.getElem?_replicate
theorem jN {α : Type _} (a : α) : ∃ b, a = b := ⟨a, rfl⟩
end Go.Ab
namespace Go.Ab
theorem qO {p : Prop} (h : p := by omega) : p := h
end Go.Ab
namespace Go.Ab
open Go
inductive Ex where
 | normal
 | exit (id:Nat)
 | ret
 deriving DecidableEq
inductive ACode where
 | skip
 | region (id:Nat) (ops:Array Oper) (draw:Bool)
 | seq (a b:ACode)
 | cond (c:Operand) (thn els:ACode)
 | block (id:Nat) (body:ACode)
 | loop (j:Nat) (lin fr:List Nat) (outs:List Ex) (body:ACode)
 | rangeFunc (j:Nat) (lin fr:List Nat) (outs:List Ex) (f:Operand) (params:Array Tmp) (assign body:ACode)
 | exit (id:Nat)
 | ret
 | bad (c:Code)
 | join (lays:List (Ex × List Nat)) (a:ACode)
def Z3V:ACode->Code
 | .skip=>.skip
 | .region id ops d=>.region id ops d
 | .seq a b=>.seq (Z3V a) (Z3V b)
 | .cond c a b=>.cond c (Z3V a) (Z3V b)
 | .block id b=>.block id (Z3V b)
 | .loop _ _ _ _ b=>.loop (Z3V b)
 | .rangeFunc _ _ _ _ f ps a b=>.rangeFunc f ps (Z3V a) (Z3V b)
 | .exit id=>.exit id
 | .ret=>.ret
 | .bad c=>c
 | .join _ a=>Z3V a
structure ALoop where
 state:LoopState
 pending:Option Code
 nt:Nat
 vals:List Value
 lin:List Nat
 fr:List Nat
 params:List Nat
 assign:ACode
 body:ACode
 dfr:Nat
inductive ABlk where
 | cells (ro:Bool) (opn:Option Nat) (c:List Value)
 | dead
 | map (es:List (Value × Value))
 | loop (l:ALoop)
 | dfr
class HeapC (H:Type) where
 get:H->Nat->Option ABlk
 set:H->Nat->ABlk->H
 del:H->Nat->H
 eqB:Option ABlk->Option ABlk->Bool
 eqB_eq:∀ a b,eqB a b=true->a=b
 get_set:∀ h i b j,get (set h i b) j=if j=i then some b else get h j
 get_del:∀ h i j,get (del h i) j=if j=i then none else get h j
structure FH where
 f:Nat->Option ABlk
noncomputable instance:HeapC FH where
 get h i:=h.f i
 set h i b:=⟨fun j=>cond (Nat.beq j i) (some b) (h.f j)⟩
 del h i:=⟨fun j=>cond (Nat.beq j i) none (h.f j)⟩
 eqB a b:=@decide (a=b) (Classical.propDecidable _)
 eqB_eq:=fun _ _ h=>@of_decide_eq_true _ (Classical.propDecidable _) h
 get_set h i b j:=by
  by_cases e:j=i
  · simp [e]
  · have:Nat.beq j i=false:=by rw [qY]; intro h; exact e (qJ h)
    simp [e,this]
 get_del h i j:=by
  by_cases e:j=i
  · simp [e]
  · have:Nat.beq j i=false:=by rw [qY]; intro h; exact e (qJ h)
    simp [e,this]
abbrev Tm:=Nat->Option Value
structure St (H:Type) where
 tm:Tm
 h:H
 c:Nat
 nt:Nat
 df:List Nat
 rd:Option Nat
inductive Key where
 | fn (f:FuncId)
 | lp (j:Nat) (lin fr:List Nat) (body:ACode) (nt:Nat) (rd:Option Nat)
 | rnd (nt:Nat) (lin fr params:List Nat) (l:Nat) (assign body:ACode)
structure Rt (H:Type) where
 e:Ex
 vs:List Value
 h:H
 c:Nat
 df:List Nat
abbrev Orc (H:Type):=Key->List Value->H->Nat->List Nat->Option (Rt H)
def Z2P:Value->Bool
 | .bool _ | .int _ _ | .string _ | .pointer none | .slice none _ _ | .map none | .nilFunc | .nilIface=>true
 | _=>false
def Z0j (tm:Tm):Operand->Option Value
 | .tmp t=>tm t
 | .const v=>cond (Z2P v) (some v) none
 | .global _=>none
 | .func f=>some (.func (.func f) #[] #[])
def Z1I (tm:Tm):List Operand->Option (List Value)
 | []=>some []
 | x::xs=>(Z0j tm x).bind fun v=>(Z1I tm xs).bind fun vs=>some (v::vs)
def Z0h:List Nat->List Value->Tm
 | t::ts,v::vs=>fun x=>cond (Nat.beq x t) (some v) (Z0h ts vs x)
 | _,_=>fun _=>none
def vals (tm:Tm):List Nat->Option (List Value)
 | []=>some []
 | t::ts=>(tm t).bind fun v=>(vals tm ts).bind fun vs=>some (v::vs)
def Z7G (tm:Tm) (dst:Option Tmp) (v:Value):Tm :=
 match dst with
 | some d=>fun x=>cond (Nat.beq x d) (some v) (tm x)
 | none=>tm
variable {H:Type} [HeapC H]
def Z0s (h:H) (i:Nat):Option (List Value) :=
 match HeapC.get h i with
 | some (.cells _ _ c)=>some c
 | _=>none
def Z0S (h:H) (i off n:Nat):Option (List Value) :=
 (Z0s h i).bind fun c=>cond (Nat.ble (off+n) c.length) (some ((c.drop off).take n)) none
def Z6j (h:H) (i off:Nat):Option Value:=(Z0s h i).bind fun c=>c[off]?
def Z08:Value->Bool
 | .agg _ | .tuple _=>false
 | _=>true
def Z0Z (c:List Value) (off:Nat) (xs:List Value):List Value:=c.take off++xs++c.drop (off+xs.length)
def Z2I (h:H) (i off:Nat) (xs:List Value):Option H :=
 match HeapC.get h i with
 | some (.cells false o c)=>cond (Nat.ble (off+xs.length) c.length && xs.all Z08) (some (HeapC.set h i (.cells false o (Z0Z c off xs)))) none
 | _=>none
def Z2N:Value->Option (Nat × Nat)
 | .pointer (some ⟨i,o,none⟩)=>some (i,o)
 | _=>none
def Zgl (P:Program) (t:TypeId):Option Bool :=
 match P.underlying t with
 | some (.struct _) | some (.array _ _)=>some true
 | some _=>some false
 | none=>none
def Z1E (P:Program) (t:TypeId):Option Nat:=(P.info? t).map (·.size)
def Zaw (P:Program) (t:TypeId):Option Nat:=(P.info? t).map (·.bytes)
def Z7I (P:Program) (t:TypeId):Option Value:=(P.info? t).bind (·.zero)
def plainL (v:Value):Bool:=match v with
 | .agg cs=>cs.toList.all Z2P
 | v=>Z2P v
def ldN (h:H) (n:Nat) (p:Value):Option Value :=
 (Z2N p).bind fun a=>(Z0S h a.1 a.2 n).bind fun cs=>some (.agg cs.toArray)
def ld1 (h:H) (p:Value):Option Value:=(Z2N p).bind fun a=>Z6j h a.1 a.2
def Zdb (P:Program) (h:H) (t:TypeId) (p:Value):Option Value :=
 (Zgl P t).bind fun b=>cond b ((Z1E P t).bind fun n=>ldN h n p) (ld1 h p)
def stN (h:H) (n:Nat) (p x:Value):Option H :=
 (Z2N p).bind fun a=>cond (Nat.beq x.cells.size n) (Z2I h a.1 a.2 x.cells.toList) none
def Zcs (P:Program) (h:H) (t:TypeId) (p x:Value):Option H:=(Z1E P t).bind fun n=>stN h n p x
def newB (h:H) (id:Nat) (cs:List Value):H:=HeapC.set h id (.cells false none cs)
def ptrTo (id:Nat):Value:=.pointer (some ⟨id,0,none⟩)
def Zob (len:Nat):Value->Option Nat
 | .int _ i=>match i with
  | .ofNat m=>cond (Nat.blt m len) (some m) none
  | .negSucc _=>none
 | _=>none
def Z03 (p:Value) (n:Nat):Option Value:=(Z2N p).bind fun a=>some (.pointer (some ⟨a.1,a.2+n,none⟩))
def Zgq (P:Program) (s:TypeId) (f:Nat):Option Field :=
 match P.underlying s with
 | some (.struct fs)=>fs[f]?
 | _=>none
def Z6e (P:Program) (s:TypeId) (p:Value) (f:Nat):Option Value :=
 (Zgq P s f).bind fun fd=>(Z1E P fd.type).bind fun z=>cond (Nat.beq z 0) none (Z03 p fd.offset)
def Zhw (cs:List Value) (agg:Bool) (off n:Nat):Option Value :=
 cond agg (cond (Nat.ble (off+n) cs.length) (some (.agg ((cs.drop off).take n).toArray)) none) (cs[off]?)
def ZaM (P:Program) (t:TypeId) (cs:List Value) (off:Nat):Option Value :=
 (Zgl P t).bind fun b=>(Z1E P t).bind fun n=>Zhw cs b off n
def Zqx:Value->Option (List Value)
 | .agg cs=>some cs.toList
 | _=>none
def Zhc (P:Program) (t:TypeId) (x:Value) (f:Nat):Option Value :=
 (Zgq P t f).bind fun fd=>(Zqx x).bind fun cs=>ZaM P fd.type cs fd.offset
def ixA (len sz:Nat) (p i:Value):Option Value:=(Zob len i).bind fun k=>Z03 p (k*sz)
def ixS (sz:Nat) (x i:Value):Option Value :=
 match x with
 | .slice (some ⟨b,o,none⟩) len _=>(Zob len i).bind fun k=>some (.pointer (some ⟨b,o+k*sz,none⟩))
 | _=>none
def Z6d (P:Program) (t:TypeId) (x i:Value):Option Value :=
 match P.underlying t with
 | some (.array len e)=>(Z1E P e).bind fun sz=>ixA len sz x i
 | some (.slice e)=>(Z1E P e).bind fun sz=>ixS sz x i
 | _=>none
def ZkH (s:ByteArray) (i:Value):Option Value :=
 (Zob s.size i).bind fun k=>(s[k]?).bind fun b=>some (.int .u8 b.toNat)
def Zhb (P:Program) (t:TypeId) (x i:Value):Option Value :=
 match P.underlying t with
 | some (.array len e)=>(Zqx x).bind fun cs=>(Zob len i).bind fun k=>(Z1E P e).bind fun sz=>ZaM P e cs (k*sz)
 | some .string=>match x with
  | .string s=>ZkH s i
  | _=>none
 | _=>none
def Zoa:Value->Option Int
 | .int _ i=>some i
 | _=>none
def bnd (y:Nat):Value->Option Nat
 | .int _ i=>cond (decide (0<=i) && decide (i<=(y:Int))) (some i.toNat) none
 | _=>none
def Zo3 (y d:Nat):Option Value->Option Nat
 | some v=>bnd y v
 | none=>cond (Nat.ble d y) (some d) none
def Zo2 (len cap:Nat) (lo hi mx:Option Value):Option (Nat × Nat × Nat) :=
 (Zo3 cap cap mx).bind fun m=>(Zo3 m len hi).bind fun h =>
  cond (mx.isSome && hi.isNone) none ((Zo3 h 0 lo).bind fun l=>some (l,h,m))
def Zoi (sz:Nat) (a:Option Addr) (l h m:Nat):Option Value :=
 match a with
 | none=>some (.slice none (h-l) (m-l))
 | some ⟨b,o,none⟩=>some (.slice (some ⟨b,o+l*sz,none⟩) (h-l) (m-l))
 | _=>none
def Zkr (h:H) (sz:Nat):Option Addr->Bool
 | none=>true
 | some a=>match HeapC.get h a.block with
  | some (.cells _ none _)=>true
  | some (.cells _ (some e) _)=>Nat.beq e sz
  | _=>false
def slS (h:H) (sz:Nat) (x:Value) (lo hi mx:Option Value):Option Value :=
 match x with
 | .slice a len cap=>cond (Zkr h sz a) ((Zo2 len cap lo hi mx).bind fun r=>Zoi sz a r.1 r.2.1 r.2.2) none
 | _=>none
def slA (n sz:Nat) (x:Value) (lo hi mx:Option Value):Option Value :=
 (Z2N x).bind fun a=>(Zo2 n n lo hi mx).bind fun r=>Zoi sz (some ⟨a.1,a.2,none⟩) r.1 r.2.1 r.2.2
def ZoU (s:ByteArray) (lo hi:Option Value):Option Value :=
 (Zo2 s.size s.size lo hi none).bind fun r=>some (.string (s.extract r.1 r.2.1))
def ZdX (P:Program) (h:H) (t:TypeId) (x:Value) (lo hi mx:Option Value):Option Value :=
 match P.underlying t with
 | some (.array n e)=>(Z1E P e).bind fun sz=>slA n sz x lo hi mx
 | some (.slice e)=>(Z1E P e).bind fun sz=>slS h sz x lo hi mx
 | some .string=>match x,mx with
  | .string s,none=>ZoU s lo hi
  | _,_=>none
 | _=>none
def Z5x (P:Program) (t:TypeId) (x:Value):Option Value :=
 match P.underlying t,x with
 | some (.array n _),.slice (some ⟨b,o,none⟩) len _=>cond (Nat.ble 1 n && Nat.ble n len) (some (.pointer (some ⟨b,o,none⟩))) none
 | _,_=>none
def Z1U (op:BinOp) (k:IntKind) (a b:Int):Option Value :=
 match op with
 | .add=>some (.int k (k.wrap (a+b)))
 | .sub=>some (.int k (k.wrap (a-b)))
 | .mul=>some (.int k (k.wrap (a*b)))
 | .quo=>cond (decide (b=0)) none (some (.int k (k.wrap (a.tdiv b))))
 | .rem=>cond (decide (b=0)) none (some (.int k (a.tmod b)))
 | .and=>some (.int k (k.wrap ((BitVec.ofInt k.bits a &&& BitVec.ofInt k.bits b).toNat)))
 | .or=>some (.int k (k.wrap ((BitVec.ofInt k.bits a ||| BitVec.ofInt k.bits b).toNat)))
 | .xor=>some (.int k (k.wrap ((BitVec.ofInt k.bits a ^^^ BitVec.ofInt k.bits b).toNat)))
 | .andNot=>some (.int k (k.wrap ((BitVec.ofInt k.bits a &&& ~~~ BitVec.ofInt k.bits b).toNat)))
 | .eql=>some (.bool (a == b))
 | .neq=>some (.bool (a != b))
 | .lss=>some (.bool (decide (a<b)))
 | .leq=>some (.bool (decide (a<=b)))
 | .gtr=>some (.bool (decide (a > b)))
 | .geq=>some (.bool (decide (a >= b)))
 | _=>none
def Z5R (op:BinOp) (k:IntKind) (a b:Int):Option Value :=
 match op with
 | .shl=>cond (decide (b<0)) none (some (.int k (k.wrap (a*2 ^ (min b.toNat k.bits)))))
 | .shr=>cond (decide (b<0)) none (some (.int k (a.fdiv (2 ^ (min b.toNat k.bits)))))
 | _=>none
def ZiD (op:BinOp) (x y:ByteArray):Option Value :=
 match op with
 | .add=>cond (Nat.ble (x.size+y.size) 1099511627776) (some (.string (x++y))) none
 | .eql=>some (.bool (x.toList == y.toList))
 | .neq=>some (.bool !(x.toList == y.toList))
 | .lss=>some (.bool (Op.bytesLess x.toList y.toList))
 | .leq=>some (.bool (Op.bytesLess x.toList y.toList || x.toList == y.toList))
 | .gtr=>some (.bool !(Op.bytesLess x.toList y.toList || x.toList == y.toList))
 | .geq=>some (.bool !(Op.bytesLess x.toList y.toList))
 | _=>none
def Zkn (eq:TypeId->Value->Value->Option Bool) (P:Program) (xs ys:List Value):List Field->Option Bool
 | []=>some true
 | f::fs=>cond (f.name == "_") (Zkn eq P xs ys fs)
  ((ZaM P f.type xs f.offset).bind fun a=>(ZaM P f.type ys f.offset).bind fun b=>(eq f.type a b).bind fun r=>cond r (Zkn eq P xs ys fs) (some false))
def Zoc (eq:Value->Value->Option Bool) (P:Program) (e:TypeId) (n:Nat) (xs ys:List Value):List Nat->Option Bool
 | []=>some true
 | i::is=>(ZaM P e xs (i*n)).bind fun a=>(ZaM P e ys (i*n)).bind fun b=>(eq a b).bind fun r=>cond r (Zoc eq P e n xs ys is) (some false)
def aEq (P:Program):Nat->TypeId->Value->Value->Option Bool
 | 0,_,_,_=>none
 | d+1,t,x,y =>
  match P.underlying t,x,y with
  | some .bool,.bool a,.bool b=>some (a == b)
  | some (.int _),.int k a,.int k' b=>cond (decide (k=k')) (some (a == b)) none
  | some .string,.string a,.string b=>some (a.toList == b.toList)
  | some (.struct fs),.agg xs,.agg ys=>cond (P.stoodInHeld t) none (Zkn (aEq P d) P xs.toList ys.toList fs.toList)
  | some (.array len e),.agg xs,.agg ys=>(Z1E P e).bind fun n=>Zoc (aEq P d e) P e n xs.toList ys.toList (List.range len)
  | some (.slice _),.slice none _ _,.slice b _ _=>some b.isNone
  | some (.slice _),.slice _ _ _,.slice none _ _=>some false
  | some (.map _ _),.map none,.map b=>some b.isNone
  | some (.map _ _),.map _,.map none=>some false
  | some (.func _ _ _),.nilFunc,.nilFunc=>some true
  | some (.func _ _ _),.nilFunc,.func _ _ _=>some false
  | some (.func _ _ _),.func _ _ _,.nilFunc=>some false
  | some (.pointer _),.pointer none,.pointer b=>some b.isNone
  | some (.pointer _),.pointer _,.pointer none=>some false
  | _,_,_=>none
def Z1a:Nat:=20
def Z6x (P:Program) (t:TypeId):Value->Bool
 | .agg _=>!(P.eqGuardType P.depth t)
 | .nilIface=>false
 | _=>true
def Z0O (P:Program) (op:BinOp) (t:TypeId) (x y:Value):Option Value :=
 match x,y with
 | .int k a,.int k' b =>
  match op with
  | .shl | .shr=>Z5R op k a b
  | _=>cond (decide (k=k')) (Z1U op k a b) none
 | .string a,.string b=>ZiD op a b
 | x,y =>
  match op with
  | .eql=>cond (Z6x P t x) ((aEq P Z1a t x y).bind fun b=>some (.bool b)) none
  | .neq=>cond (Z6x P t x) ((aEq P Z1a t x y).bind fun b=>some (.bool (!b))) none
  | _=>none
def kN:IntKind->Nat
 | .i8=>0 | .i16=>1 | .i32=>2 | .i64=>3 | .u8=>4 | .u16=>5 | .u32=>6 | .u64=>7
def iLt (a b:Int):Bool :=
 match a with
 | .ofNat m=>match b with
  | .ofNat n=>Nat.blt m n
  | .negSucc _=>false
 | .negSucc m=>match b with
  | .ofNat _=>true
  | .negSucc n=>Nat.blt n m
def iEq (a b:Int):Bool :=
 match a with
 | .ofNat m=>match b with
  | .ofNat n=>Nat.beq m n
  | .negSucc _=>false
 | .negSucc m=>match b with
  | .ofNat _=>false
  | .negSucc n=>Nat.beq n m
def Zet (m n:Nat):Int:=cond (Nat.ble n m) (.ofNat (Nat.sub m n)) (.negSucc (Nat.sub (Nat.sub n m) 1))
def iAdd (a b:Int):Int :=
 match a with
 | .ofNat m=>match b with
  | .ofNat n=>.ofNat (Nat.add m n)
  | .negSucc n=>Zet m (Nat.succ n)
 | .negSucc m=>match b with
  | .ofNat n=>Zet n (Nat.succ m)
  | .negSucc n=>.negSucc (Nat.add (Nat.add m n) 1)
def iNeg (a:Int):Int :=
 match a with
 | .ofNat m=>Zet 0 m
 | .negSucc m=>.ofNat (Nat.succ m)
def iMul (a b:Int):Int :=
 match a with
 | .ofNat m=>match b with
  | .ofNat n=>.ofNat (Nat.mul m n)
  | .negSucc n=>Zet 0 (Nat.mul m (Nat.succ n))
 | .negSucc m=>match b with
  | .ofNat n=>Zet 0 (Nat.mul (Nat.succ m) n)
  | .negSucc n=>.ofNat (Nat.mul (Nat.succ m) (Nat.succ n))
def Zdj:Nat:=9223372036854775808
def ZmF (k:IntKind) (x:Int):Int :=
 match k with
 | .i64=>match x with
  | .ofNat m=>cond (Nat.blt m Zdj) (.ofNat m) (IntKind.i64.wrap (.ofNat m))
  | .negSucc m=>cond (Nat.blt m Zdj) (.negSucc m) (IntKind.i64.wrap (.negSucc m))
 | k=>k.wrap x
def intF (op:BinOp) (k:IntKind) (a b:Int):Option Value :=
 match op with
 | .add=>some (.int k (ZmF k (iAdd a b)))
 | .sub=>some (.int k (ZmF k (iAdd a (iNeg b))))
 | .mul=>some (.int k (ZmF k (iMul a b)))
 | .eql=>some (.bool (iEq a b))
 | .neq=>some (.bool (!(iEq a b)))
 | .lss=>some (.bool (iLt a b))
 | .leq=>some (.bool (!(iLt b a)))
 | .gtr=>some (.bool (iLt b a))
 | .geq=>some (.bool (!(iLt a b)))
 | op=>Z1U op k a b
def Z00 (P:Program) (op:BinOp) (t:TypeId) (x y:Value):Option Value :=
 match x with
 | .int k a=>match y with
  | .int k' b=>match op with
   | .shl=>Z5R .shl k a b
   | .shr=>Z5R .shr k a b
   | op=>cond (Nat.beq (kN k) (kN k')) (intF op k a b) none
  | y=>Z0O P op t (.int k a) y
 | x=>Z0O P op t x y
theorem iLt_eq (a b:Int):iLt a b=decide (a<b):=by
 cases a <;> cases b <;> simp only [iLt]
 · rename_i m n; rw [Bool.eq_iff_iff]; simp [Nat.blt_eq]
 · rename_i m n; symm; simp; omega
 · rename_i m n; symm; simp; omega
 · rename_i m n; rw [Bool.eq_iff_iff]; simp only [Nat.blt_eq,decide_eq_true_eq]; omega
theorem iEq_eq (a b:Int):iEq a b=(a == b):=by
 rw [Bool.eq_iff_iff]
 cases a <;> cases b <;> simp only [iEq,beq_iff_eq,Int.negSucc.injEq,Int.ofNat.injEq,Nat.beq_eq]
 · simp
 · simp
 · exact eq_comm
theorem ZcP (m n:Nat):Zet m n=(m:Int)-n:=by
 unfold Zet
 cases h:Nat.ble n m with
 | true=>have:=qP h; simp; omega
 | false =>
  have:¬ n<=m:=fun hh=>by rw [qK hh] at h; cases h
  simp only [cond_false,Int.negSucc_eq]
  have e:Nat.sub (Nat.sub n m) 1=n-m-1:=rfl
  rw [e]; omega
theorem Zpv (a b:Int):iAdd a b=a+b:=by
 cases a <;> cases b <;> simp only [iAdd,ZcP,Int.negSucc_eq]
 · rfl
 · rename_i m n; have:(Nat.succ n:Int)=n+1:=rfl; rw [this]; simp; omega
 · rename_i m n; have:(Nat.succ m:Int)=m+1:=rfl; rw [this]; simp; omega
 · rename_i m n; have:((Nat.add (Nat.add m n) 1:Nat):Int)=m+n+1:=by have e:Nat.add (Nat.add m n) 1=m+n+1:=rfl; rw [e]; omega
   rw [this]; omega
theorem Zpt (a:Int):iNeg a = -a:=by
 cases a <;> simp only [iNeg,ZcP,Int.negSucc_eq]
 · simp
 · rename_i m; have:Int.ofNat (Nat.succ m)=m+1:=rfl; rw [this]; omega
theorem Zpu (a b:Int):iMul a b=a*b:=by
 have s:∀ m:Nat,(Nat.succ m:Int)=m+1:=fun _=>rfl
 cases a <;> cases b <;> simp only [iMul,ZcP,Int.negSucc_eq]
 · rfl
 · rename_i m n
   have e:Nat.mul m (Nat.succ n)=m*(n+1):=rfl
   rw [e]; push_cast; simp [Int.mul_neg]
 · rename_i m n
   have e:Nat.mul (Nat.succ m) n=(m+1)*n:=rfl
   rw [e]; push_cast; simp [Int.neg_mul]
 · rename_i m n
   have e:Nat.mul (Nat.succ m) (Nat.succ n)=(m+1)*(n+1):=rfl
   rw [e,Int.neg_mul_neg]; rfl
theorem Zd8 {a b:Nat} (h:Nat.blt a b=true):a<b:=by rw [Nat.blt_eq] at h; exact h
theorem Z45 {y:Int} (h1:-9223372036854775808<=y) (h2:y<9223372036854775808):IntKind.i64.wrap y=y:=by
 have e0:(2:Int) ^ IntKind.i64.bits=18446744073709551616:=by decide
 have e1:(2:Int) ^ (IntKind.i64.bits-1)=9223372036854775808:=by decide
 have e2:IntKind.i64.signed=true:=rfl
 unfold IntKind.wrap
 simp only [e0,e1,e2,Bool.true_and,decide_eq_true_eq]
 split <;> omega
theorem Zfn:Zdj=9223372036854775808:=by unfold Zdj; rfl
theorem w64a (m:Nat):cond (Nat.blt m Zdj) (Int.ofNat m) (IntKind.i64.wrap (Int.ofNat m))=IntKind.i64.wrap (Int.ofNat m):=by
 cases h:Nat.blt m Zdj with
 | false=>rw [cond_false]
 | true =>
  have h1:=Zd8 h
  rw [Zfn] at h1
  rw [cond_true,Z45 (by simp only [qC]; omega) (by simp only [qC]; omega)]
theorem w64b (m:Nat):cond (Nat.blt m Zdj) (Int.negSucc m) (IntKind.i64.wrap (Int.negSucc m))=IntKind.i64.wrap (Int.negSucc m):=by
 cases h:Nat.blt m Zdj with
 | false=>rw [cond_false]
 | true =>
  have h1:=Zd8 h
  rw [Zfn] at h1
  rw [cond_true,Z45 (by simp only [Int.negSucc_eq]; omega) (by simp only [Int.negSucc_eq]; omega)]
theorem ZmE (k:IntKind) (x:Int):ZmF k x=k.wrap x:=by
 cases k with
 | i64=>cases x with
  | ofNat m=>exact w64a m
  | negSucc m=>exact w64b m
 | _=>rfl
theorem kN_eq (k k':IntKind):Nat.beq (kN k) (kN k')=decide (k=k'):=by cases k <;> cases k' <;> first | rfl | (simp [kN] <;> rfl)
theorem Zpr (op:BinOp) (k:IntKind) (a b:Int):intF op k a b=Z1U op k a b:=by
 cases op <;> simp only [intF,Z1U,ZmE,Zpv,Zpt,Zpu,iEq_eq,iLt_eq]
 · rfl
 · rfl
 · congr 2; rw [Bool.eq_iff_iff]; simp
 · congr 2; rw [Bool.eq_iff_iff]; simp
theorem Z0A (P:Program) (op:BinOp) (t:TypeId) (x y:Value):Z00 P op t x y=Z0O P op t x y:=by
 cases x with
 | int k a =>
  cases y with
  | int k' b=>cases op <;> simp only [Z00,Z0O,kN_eq,Zpr]
  | _=>rfl
 | _=>rfl
def Z2g (op:UnOp):Value->Option Value
 | .int k n=>match op with
  | .neg=>some (.int k (k.wrap (0-n)))
  | .xor=>Z1U .xor k (if k.signed then -1 else k.max) n
  | _=>none
 | .bool b=>match op with
  | .not=>some (.bool !b)
  | _=>none
 | _=>none
def Z9K (P:Program) (_src dst:TypeId) (x:Value):Option Value :=
 match P.underlying dst,x with
 | some (.int k),.int _ n=>some (.int k (k.wrap n))
 | some .string,.string s=>some (.string s)
 | _,_=>none
def Z0e:Value->Option Value
 | .pointer (some a)=>some (.pointer (some a))
 | .func (.func f) a b=>some (.func (.func f) a b)
 | .func (.yield l) a b=>some (.func (.yield l) a b)
 | _=>none
def Zeg (P:Program) (t:TypeId):Option (Nat->Option (Nat × Nat)) :=
 match P.underlying t with
 | some (.struct fs)=>cond (fs.toList.all fun f=>(Z1E P f.type).isSome) (some fun i=>(fs[i]?).bind fun f=>(Z1E P f.type).bind fun z=>some (f.offset,z)) none
 | some (.array _ e)=>(Z1E P e).bind fun z=>some fun i=>some (i*z,z)
 | _=>none
def ZcR (place:Nat->Option (Nat × Nat)):List Value->List (Nat × Value)->Option (List Value)
 | cs,[]=>some cs
 | cs,(i,v)::rest=>(place i).bind fun p =>
  cond (Nat.beq v.cells.size p.2 && Nat.ble (p.1+p.2) cs.length) (ZcR place (Z0Z cs p.1 v.cells.toList) rest) none
def evalPs (tm:Tm):List (Nat × Operand)->Option (List (Nat × Value))
 | []=>some []
 | (i,x)::xs=>(Z0j tm x).bind fun v=>(evalPs tm xs).bind fun vs=>some ((i,v)::vs)
def Zhe (P:Program) (t:TypeId) (ps:List (Nat × Value)):Option Value :=
 (Z7I P t).bind fun z=>cond (plainL z) ((Zeg P t).bind fun pl=>(ZcR pl z.cells.toList ps).bind fun cs=>some (.agg cs.toArray)) none
def Z1s (z:List Value):Nat->List Value
 | 0=>[]
 | n+1=>z++Z1s z n
def Zf3 (P:Program) (t:TypeId):Option TypeId :=
 match P.underlying t with
 | some (.slice e)=>some e
 | _=>none
def Z5w (P:Program) (t:TypeId) (len:Nat) (ps:List (Nat × Value)):Option (List Value) :=
 (Zf3 P t).bind fun e=>(Z1E P e).bind fun z=>(Z7I P e).bind fun zv =>
  cond (Nat.ble (len*z) 16777216 && plainL zv && Nat.beq zv.cells.size z) (ZcR (fun i=>some (i*z,z)) (Z1s zv.cells.toList len) ps) none
def Z6c (P:Program) (t:TypeId) (l c:Value):Option (List Value × Nat × Nat) :=
 (Zf3 P t).bind fun e=>(Z1E P e).bind fun z=>(Zaw P e).bind fun by'=>(Z7I P e).bind fun zv =>
  (Zoa l).bind fun l=>(Zoa c).bind fun c =>
   cond (decide (0<=l) && decide (l<=c) && decide ((by':Int)*c<=281474976710656) && decide (c<=281474976710656) && plainL zv && Nat.beq zv.cells.size z)
    (some (Z1s zv.cells.toList c.toNat,l.toNat,c.toNat)) none
def Zpi (P:Program) (t:TypeId):Option (TypeId × TypeId) :=
 match P.underlying t with
 | some (.map k e)=>some (k,e)
 | _=>none
def Z9x (P:Program):Nat->TypeId->Value->Bool
 | 0,_,_=>false
 | d+1,t,v =>
  match P.underlying t,v with
  | some (.int _),.int _ _=>true
  | some .string,.string _=>true
  | some .bool,.bool _=>true
  | some (.array len e),.agg cs =>
   match Z1E P e with
   | some n=>(List.range len).all fun i=>match ZaM P e cs.toList (i*n) with
    | some x=>Z9x P d e x
    | none=>false
   | none=>false
  | some (.struct fs),.agg cs=>fs.toList.all fun f=>f.name == "_" || match ZaM P f.type cs.toList f.offset with
   | some x=>Z9x P d f.type x
   | none=>false
  | _,_=>false
def Zai (P:Program) (kt:TypeId) (k:Value):List (Value × Value)->Nat->Option (Option (Nat × Value))
 | [],_=>some none
 | (a,v)::es,i=>(aEq P Z1a kt k a).bind fun b=>cond b (some (some (i,v))) (Zai P kt k es (i+1))
def Z5Q (P:Program) (h:H) (t:TypeId) (m k:Value) (ok:Bool):Option Value :=
 (Zpi P t).bind fun ke=>cond (Z9x P Z1a ke.1 k) ((Z7I P ke.2).bind fun z=>cond (plainL z)
  ((match m with
   | .map none=>some ([]:List (Value × Value))
   | .map (some i)=>match HeapC.get h i with
    | some (.map es)=>some es
    | _=>none
   | _=>none).bind fun es=>(Zai P ke.1 k es 0).bind fun r =>
    match r with
    | some (_,v)=>some (cond ok (.tuple #[v,.bool true]) v)
    | none=>some (cond ok (.tuple #[z,.bool false]) z)) none) none
def Z0P (P:Program) (h:H) (t:TypeId) (m k v:Value):Option H :=
 (Zpi P t).bind fun ke=>cond (Z9x P Z1a ke.1 k && plainL k)
  (match m with
   | .map (some i)=>match HeapC.get h i with
    | some (.map es)=>(Zai P ke.1 k es 0).bind fun r =>
     match r with
     | some (j,_)=>match es[j]? with
      | some (old,_)=>cond (plainL old && Instr.sameBits 10000 old k) (some (HeapC.set h i (.map (es.set j (k,v))))) none
      | none=>none
     | none=>some (HeapC.set h i (.map (es++[(k,v)])))
    | _=>none
   | _=>none) none
def ZdZ (P:Program) (h:H) (t:TypeId) (x:Value):Option Value :=
 match P.underlying t,x with
 | some .string,.string s=>some (goInt s.size)
 | some (.array n _),_=>some (goInt n)
 | some (.slice _),.slice _ n _=>some (goInt n)
 | some (.map _ _),.map none=>some (goInt 0)
 | some (.map _ _),.map (some i)=>match HeapC.get h i with
  | some (.map es)=>some (goInt es.length)
  | _=>none
 | _,_=>none
def max2:Value->Value->Option Value
 | .int k x,.int k' y=>cond (decide (k=k')) (some (.int k (if y > x then y else x))) none
 | _,_=>none
def min2:Value->Value->Option Value
 | .int k x,.int k' y=>cond (decide (k=k')) (some (.int k (if y<x then y else x))) none
 | _,_=>none
def Z5A (f:Value->Value->Option Value):List Value->Option Value
 | []=>none
 | x::rest=>rest.foldlM f x
def Z0M (h:H) (sz:Nat) (x:Value):Option (List Value × Nat) :=
 match x with
 | .slice none n _=>cond (Nat.beq n 0) (some ([],0)) none
 | .slice (some ⟨i,o,none⟩) n _=>(Z0S h i o (n*sz)).bind fun cs=>some (cs,n)
 | .string s=>cond (Nat.beq sz 1) (some (s.data.toList.map fun b=>.int .u8 b.toNat,s.size)) none
 | _=>none
def Z1Q (h:H) (id sz by':Nat) (base:Option Addr) (len need:Nat) (new:List Value):Option (Value × H) :=
 cond (Nat.ble (need*(by'+1)) 17592186044416 && new.all Z08)
  (match base with
  | none=>cond (Nat.beq len 0) (some (.slice (some ⟨id,0,none⟩) need need,HeapC.set h id (.cells false (some sz) new))) none
  | some ⟨i,o,none⟩=>(Z0S h i o (len*sz)).bind fun old =>
   match HeapC.get h i with
   | some (.cells ro opn _) =>
    match opn with
    | none=>some (.slice (some ⟨id,0,none⟩) need need,HeapC.set h id (.cells false (some sz) (old++new)))
    | some e=>cond (Nat.beq e sz && !ro) (some (.slice (some ⟨id,0,none⟩) need need,HeapC.set (HeapC.set h i .dead) id (.cells false (some sz) (old++new)))) none
   | _=>none
  | _=>none) none
def appTo (h:H) (id sz by':Nat) (s:Value) (new:List Value) (n:Nat):Option (Value × H) :=
 match s with
 | .slice base len cap =>
  cond (Nat.ble (len+n) cap)
   (match base with
    | some ⟨i,o,none⟩=>cond (Nat.beq new.length 0) (some (.slice base (len+n) cap,h)) ((Z2I h i (o+len*sz) new).bind fun h'=>some (.slice base (len+n) cap,h'))
    | none=>cond (Nat.beq new.length 0) (some (.slice base (len+n) cap,h)) none
    | _=>none)
   (Z1Q h id sz by' base len (len+n) new)
 | _=>none
def Zb3 (P:Program) (t:TypeId):Bool :=
 match P.underlying t with
 | some (.int _)=>true
 | _=>false
def Zdd (P:Program) (h:H) (id:Nat) (ts:List TypeId) (args:List Value):Option (Value × H) :=
 match ts,args with
 | st::rest,[s,x] =>
  (Zf3 P st).bind fun e=>(Z1E P e).bind fun sz=>(Zaw P e).bind fun by'=>(Z7I P e).bind fun z =>
   cond (plainL z && Nat.beq z.cells.size sz)
   (match rest with
   | [xt]=>(P.underlying xt).bind fun xd=>cond (Zb3 P xt)
    ((Zoa x).bind fun n=>cond (decide (0<=n) && decide (n*(by':Int)<=17592186044416) && decide (n<=17592186044416))
     (appTo h id sz by' s (Z1s z.cells.toList n.toNat) n.toNat) none)
    ((Z0M h sz x).bind fun r=>appTo h id sz by' s r.1 r.2)
   | _=>none) none
 | _,_=>none
def Zod (P:Program) (h:H) (ts:List TypeId) (args:List Value):Option (Value × H) :=
 match ts,args with
 | dt::_,[.slice base dl _,.slice sb sl sc] =>
  (Zf3 P dt).bind fun e=>(Z1E P e).bind fun sz =>
   match base with
   | none=>cond (Nat.beq dl 0) (some (goInt 0,h)) none
   | some ⟨i,o,none⟩=>(Z0M h sz (.slice sb (Nat.min sl dl) sc)).bind fun r=>(Z2I h i o r.1).bind fun h'=>some (goInt (Nat.min sl dl),h')
   | _=>none
 | _,_=>none
def Zhd (P:Program) (h:H) (ts:List TypeId) (args:List Value):Option (Value × H) :=
 match ts,args with
 | t::_,[x] =>
  match x with
  | .slice none _ _=>some (.tuple #[],h)
  | .slice (some ⟨i,o,none⟩) n _=>(Zf3 P t).bind fun e=>(Z1E P e).bind fun sz=>(Z7I P e).bind fun z =>
   cond (plainL z && Nat.beq z.cells.size sz) ((Z2I h i o (Z1s z.cells.toList n)).bind fun h'=>some (.tuple #[],h')) none
  | _=>none
 | _,_=>none
def Z9r:List Nat->Bool
 | []=>true
 | x::xs=>!(xs.any (Nat.beq x)) && Z9r xs
def Z43 (o:Orc H) (h:H) (c:Nat) (fv:Value) (args:List Value):Option (Value × H × Nat) :=
 match fv with
 | .func (.func g) first cap =>
  (o (.fn g) (first.toList++args++cap.toList) h c []).bind fun r =>
   match r.vs with
   | [v]=>some (v,r.h,r.c)
   | _=>none
 | .func (.yield l) first cap =>
  cond (Nat.beq first.size 0 && Nat.beq cap.size 0)
   (match HeapC.get h l with
    | some (.loop st) =>
     cond (decide (st.state = .ready) && Nat.beq args.length st.params.length && Z9r st.params && st.params.all (Nat.blt · st.nt))
      ((o (.rnd st.nt st.lin st.fr st.params l st.assign st.body) (args++st.vals) h c []).bind fun r =>
       match r.vs with
       | [v]=>some (v,r.h,r.c)
       | _=>none) none
    | _=>none) none
 | _=>none
def Z0T (P:Program) (h:H) (id:Nat) (b:Builtin) (ts:List TypeId) (args:List Value):Option (Value × H) :=
 match b with
 | .len=>match ts,args with
  | t::_,x::_=>(ZdZ P h t x).bind fun v=>some (v,h)
  | _,_=>none
 | .max=>(Z5A max2 args).bind fun v=>some (v,h)
 | .min=>(Z5A min2 args).bind fun v=>some (v,h)
 | .append=>Zdd P h id ts args
 | .copy=>Zod P h ts args
 | .clear=>match ts with
  | t::_=>(P.underlying t).bind fun _=>Zhd P h ts args
  | []=>none
 | _=>none
def Z13 (ops:Array Oper) (tm:Tm) (o:Oper):Option Bool :=
 match o.guard with
 | none=>some true
 | some (j,want)=>((ops[j]?).bind (·.dst)).bind fun d=>(tm d).bind fun v =>
  match v with
  | .bool b=>some (b == want)
  | _=>some false
def Zek (tm:Tm):Option Operand->Option (Option Value)
 | none=>some none
 | some x=>(Z0j tm x).bind fun v=>some (some v)
def Z7F (h:H) (c:Nat) (v:Option Value):Option (Value × H × Nat):=v.bind fun v=>some (v,h,c)
def Z0u (P:Program) (o:Orc H) (id:Nat) (tm:Tm) (h:H) (c:Nat) (op:Op):Option (Value × H × Nat) :=
 match op with
 | .move x | .assign x=>Z7F h c (Z0j tm x)
 | .pick k a b=>(Z0j tm k).bind fun kv=>(Z0j tm a).bind fun av=>(Z0j tm b).bind fun bv =>
  match kv with
  | .bool t=>some (cond t av bv,h,c)
  | _=>none
 | .alloc t=>(Z7I P t).bind fun z=>cond (plainL z) (some (ptrTo id,newB h id z.cells.toList,c)) none
 | .box _ x=>(Z0j tm x).bind fun v=>cond (v.cells.toList.all Z08) (some (ptrTo id,newB h id v.cells.toList,c)) none
 | .build t ps=>(evalPs tm ps.toList).bind fun vs=>Z7F h c (Zhe P t vs)
 | .buildSlice t len ps=>(evalPs tm ps.toList).bind fun vs=>(Z5w P t len vs).bind fun cs =>
  some (.slice (some ⟨id,0,none⟩) len len,newB h id cs,c)
 | .load t a=>(Z0j tm a).bind fun p=>Z7F h c (Zdb P h t p)
 | .store t a x=>(Z0j tm a).bind fun p=>(Z0j tm x).bind fun v=>(Zcs P h t p v).bind fun h'=>some (.tuple #[],h',c)
 | .nilCheck x=>(Z0j tm x).bind fun v=>Z7F h c (Z0e v)
 | .binOp bo t x y _=>(Z0j tm x).bind fun a=>(Z0j tm y).bind fun b=>Z7F h c (Z00 P bo t a b)
 | .unOp u _ x=>(Z0j tm x).bind fun a=>Z7F h c (Z2g u a)
 | .convert s d x=>(P.underlying s).bind fun _=>(Z0j tm x).bind fun a=>Z7F h c (Z9K P s d a)
 | .sliceToArrayPointer t x=>(Z0j tm x).bind fun a=>Z7F h c (Z5x P t a)
 | .makeInterface t x=>(Z0j tm x).bind fun a=>match P.underlying t with
  | some (.interface _) | none=>none
  | some _=>some (.iface t a,h,c)
 | .makeFunc fn first cap=>match fn with
  | .func g=>(Z1I tm first.toList).bind fun f=>(Z1I tm cap.toList).bind fun k=>some (.func (.func g) f.toArray k.toArray,h,c)
  | _=>none
 | .makeMap t r=>match r with
  | none=>some (.map (some id),HeapC.set h id (.map []),c)
  | some x=>(Zpi P t).bind fun _=>(Z0j tm x).bind fun v=>(Zoa v).bind fun _=>some (.map (some id),HeapC.set h id (.map []),c)
 | .makeSlice t l k=>(Z0j tm l).bind fun lv=>(Z0j tm k).bind fun kv=>(Z6c P t lv kv).bind fun r =>
  some (.slice (some ⟨id,0,none⟩) r.2.1 r.2.2,newB h id r.1,c)
 | .slice t x lo hi mx=>(Z0j tm x).bind fun v=>(Zek tm lo).bind fun l=>(Zek tm hi).bind fun hh=>(Zek tm mx).bind fun m=>Z7F h c (ZdX P h t v l hh m)
 | .fieldAddr t x f=>(Z0j tm x).bind fun p=>Z7F h c (Z6e P t p f)
 | .field t x f=>(Z0j tm x).bind fun v=>Z7F h c (Zhc P t v f)
 | .indexAddr t x i=>(Z0j tm x).bind fun v=>(Z0j tm i).bind fun k=>Z7F h c (Z6d P t v k)
 | .index t x i=>(Z0j tm x).bind fun v=>(Z0j tm i).bind fun k=>Z7F h c (Zhb P t v k)
 | .lookup t m k ok=>(Z0j tm m).bind fun mv=>(Z0j tm k).bind fun kv=>Z7F h c (Z5Q P h t mv kv ok)
 | .mapUpdate t m k v | .insert t m k v=>(Z0j tm m).bind fun mv=>(Z0j tm k).bind fun kv=>(Z0j tm v).bind fun vv =>
  (Z0P P h t mv kv vv).bind fun h'=>some (.tuple #[],h',c)
 | .extract t i=>(Z0j tm t).bind fun v=>match v with
  | .tuple vs=>(vs[i]?).bind fun x=>some (x,h,c)
  | _=>none
 | .call k=>(Z1I tm k.args.toList).bind fun args =>
  match k.callee with
  | .value f=>(Z0j tm f).bind fun fv=>Z43 o h c fv args
  | .builtin b=>(Z0T P h id b k.argTypes.toList args).bind fun r=>some (r.1,r.2,c)
  | .invoke _ _=>none
 | _=>none
def Z15 (P:Program) (o:Orc H) (ops:Array Oper) (base i nt:Nat) (tm:Tm) (h:H) (c:Nat) (op:Oper):Option (Value × H × Nat) :=
 (Z13 ops tm op).bind fun w =>
  cond (Nat.blt i 256 && (match op.dst with | some d=>Nat.blt d nt | none=>true))
   (cond w (Z0u P o (256*base+i) tm h c op.op) (some (undef,h,c))) none
def Z1l (P:Program) (o:Orc H) (ops:Array Oper) (base nt:Nat):List Oper->Nat->Tm->H->Nat->Option (Tm × H × Nat)
 | [],_,tm,h,c=>some (tm,h,c)
 | op::rest,i,tm,h,c=>(Z15 P o ops base i nt tm h c op).bind fun r=>Z1l P o ops base nt rest (i+1) (Z7G tm op.dst r.1) r.2.1 r.2.2
def cls:Op->Nat
 | .move _ | .assign _ | .pick .. | .build .. | .nilCheck _ | .binOp .. | .unOp .. | .convert .. | .sliceToArrayPointer .. | .makeInterface ..
 | .makeFunc .. | .fieldAddr .. | .field .. | .indexAddr .. | .index .. | .extract ..=>0
 | .load .. | .lookup .. | .slice ..=>1
 | .alloc _ | .box .. | .buildSlice .. | .makeMap .. | .makeSlice ..=>2
 | .call { callee:=.builtin .len,.. }=>1
 | .call { callee:=.builtin .max,.. } | .call { callee:=.builtin .min,.. }=>0
 | _=>3
def Za9 (acc:List Nat) (o:Oper):Nat :=
 o.after.toList.foldl (fun s e=>cond (Region.binds .any e) (s ||| (2 ^ e.on) ||| acc.getD e.on 0) s) 0
def ZcK:List Oper->List Nat->List Nat
 | [],acc=>acc
 | o::rest,acc=>ZcK rest (acc++[Za9 acc o])
def Z2C (ops:Array Oper) (o:Oper):List Nat :=
 (o.op.operands.toList.filterMap fun | .tmp t=>some t | _=>none) ++
 (match o.guard with
  | some (g,_)=>((ops[g]?).bind (·.dst)).toList
  | none=>[])
def Zhh (ops:Array Oper) (a b:Oper):Bool :=
 match a.dst with
 | some d=>(Z2C ops b).contains d || b.dst == some d
 | none=>false
def Zok (ops:Array Oper) (ms:List Nat) (i j:Nat):Bool :=
 match ops[i]?,ops[j]? with
 | some a,some b=>(ms.getD j 0).testBit i || (!(Zhh ops a b) && !(Zhh ops b a) && !(Nat.beq (cls a.op) 3 && Nat.beq (cls b.op) 3))
 | _,_=>true
def Zo5 (n:Nat) (p:Nat->Bool):Bool:=Nat.rec true (fun k ih=>p k && ih) n
def Z5O:List Oper->Nat->Bool
 | [],_=>true
 | o::rest,i=>(o.after.toList.all fun e=>!(Region.binds .any e) || Nat.blt e.on i) && Z5O rest (i+1)
def Za3 (ops:Array Oper):Bool :=
 Z5O ops.toList 0 && Zo5 ops.size fun j=>Zo5 j fun i=>Zok ops (ZcK ops.toList []) i j
def lws (ops:Array Oper):List (Nat × Nat) :=
 (List.range ops.size).flatMap fun i=>(List.range ops.size).filterMap fun j =>
  match ops[i]?,ops[j]? with
  | some a,some b=>cond (Nat.beq (cls a.op) 1 && Nat.beq (cls b.op) 3 && !(((ZcK ops.toList []).getD j 0).testBit i) && !(((ZcK ops.toList []).getD i 0).testBit j)) (some (i,j)) none
  | _,_=>none
def Z2O:Value->Option Nat
 | .pointer (some ⟨i,_,_⟩)=>some i
 | .map (some i)=>some i
 | .slice (some ⟨i,_,_⟩) _ _=>some i
 | _=>none
def Za1 (tm:Tm):Op->Option Nat
 | .load _ a=>(Z0j tm a).bind Z2O
 | .lookup _ m _ _=>(Z0j tm m).bind Z2O
 | .slice _ x _ _ _=>(Z0j tm x).bind Z2O
 | .call { callee:=.builtin .len,args,.. }=>(args[0]?).bind fun x=>(Z0j tm x).bind Z2O
 | _=>none
def rid (ops:Array Oper) (tm:Tm) (o:Oper):Option Nat :=
 match Z13 ops tm o with
 | some true=>Za1 tm o.op
 | _=>none
def Z1d (P:Program) (o:Orc H) (ops:Array Oper) (base nt:Nat):List Oper->Nat->Tm->H->Nat->Option (Tm × H × Nat × List (Option Nat × H))
 | [],_,tm,h,c=>some (tm,h,c,[(none,h)])
 | op::rest,i,tm,h,c=>(Z15 P o ops base i nt tm h c op).bind fun r =>
  (Z1d P o ops base nt rest (i+1) (Z7G tm op.dst r.1) r.2.1 r.2.2).bind fun q=>some (q.1,q.2.1,q.2.2.1,(rid ops tm op,h)::q.2.2.2)
def lwOk (tr:List (Option Nat × H)) (p:Nat × Nat):Bool :=
 match tr[p.1]? with
 | some (some x,_)=>match tr[p.2]?,tr[p.2+1]? with
  | some (_,h1),some (_,h2)=>HeapC.eqB H (HeapC.get h1 x) (HeapC.get h2 x)
  | _,_=>false
 | _=>true
def Z5z (P:Program) (o:Orc H) (ops:Array Oper) (draw:Bool) (nt:Nat) (tm:Tm) (h:H) (c:Nat):Option (Tm × H × Nat) :=
 cond draw
  (cond (Za3 ops)
   (cond (lws ops).isEmpty (Z1l P o ops c nt ops.toList 0 tm h (c+1))
    ((Z1d P o ops c nt ops.toList 0 tm h (c+1)).bind fun q=>cond ((lws ops).all (lwOk q.2.2.2)) (some (q.1,q.2.1,q.2.2.1)) none)) none)
  (Z1l P o ops c nt ops.toList 0 tm h (c+1))
def Zqi (tm:Tm) (h:H) (t:Nat):H :=
 match tm t with
 | some (.pointer (some ⟨i,0,none⟩))=>match HeapC.get h i with
  | some (.cells false none _)=>HeapC.del h i
  | _=>h
 | _=>h
def Z1J (tm:Tm) (h:H):List Nat->H
 | []=>h
 | t::ts=>Z1J tm (Zqi tm h t) ts
def Z3Z:Ex->Option Code
 | .normal=>none
 | .ret=>some .ret
 | .exit id=>some (.exit id)
def exOf:Option Code->Option Ex
 | none=>some .normal
 | some .ret=>some .ret
 | some (.exit id)=>some (.exit id)
 | _=>none
def Z31 (h:H) (c:Nat):Option Nat->Option (H × Nat)
 | none=>some (HeapC.set h (256*c+1) .dfr,256*c+1)
 | some l=>match HeapC.get h l with
  | some (.loop st)=>some (h,st.dfr)
  | _=>none
def Z4L (o:Orc H) (s:St H) (lin fr:List Nat) (f:Operand) (params:Array Tmp) (assign body:ACode):Option (Ex × St H) :=
 (Z0j s.tm f).bind fun fv =>
  match fv with
  | .func (.func g) first cap =>
   (vals s.tm lin).bind fun vs=>(Z31 s.h s.c s.rd).bind fun hd =>
    (o (.fn g) (first.toList++[.func (.yield (256*s.c)) #[] #[]]++cap.toList)
     (HeapC.set hd.1 (256*s.c) (.loop { state:=.ready,pending:=none,nt:=s.nt,vals:=vs,lin:=lin,fr:=fr,params:=params.toList,assign:=assign,body:=body,dfr:=hd.2 }))
     (s.c+1) []).bind fun r =>
     match HeapC.get r.h (256*s.c) with
     | some (.loop st)=>cond (decide (st.state = .busy)) none ((exOf st.pending).bind fun e =>
      some (e,{ s with h:=HeapC.del r.h (256*s.c),c:=r.c,df:=(match s.rd with | none=>hd.2::s.df | some _=>s.df) }))
     | _=>none
  | _=>none
def Z2e (P:Program) (o:Orc H):ACode->St H->Option (Ex × St H)
 | .skip,s=>some (.normal,s)
 | .region _ ops draw,s=>(Z5z P o ops draw s.nt s.tm s.h s.c).bind fun r=>some (.normal,{ s with tm:=r.1,h:=r.2.1,c:=r.2.2 })
 | .seq a b,s=>(Z2e P o a s).bind fun r =>
  match r.1 with
  | .normal=>Z2e P o b r.2
  | e=>some (e,r.2)
 | .cond c a b,s=>(Z0j s.tm c).bind fun v =>
  match v with
  | .bool t=>cond t (Z2e P o a s) (Z2e P o b s)
  | _=>none
 | .block id b,s=>(Z2e P o b s).bind fun r =>
  match r.1 with
  | .exit id'=>some (cond (Nat.beq id' id) .normal (.exit id'),r.2)
  | e=>some (e,r.2)
 | .loop j lin fr _ b,s=>(vals s.tm lin).bind fun vs =>
  (o (.lp j lin fr b s.nt s.rd) vs s.h s.c s.df).bind fun r=>some (r.e,{ s with tm:=Z0h lin r.vs,h:=r.h,c:=r.c,df:=r.df })
 | .rangeFunc _ lin fr _ f ps a b,s=>Z4L o s lin fr f ps a b
 | .exit id,s=>some (.exit id,s)
 | .ret,s=>some (.ret,s)
 | .bad _,_=>none
 | .join _ a,s=>Z2e P o a s
structure AFun where
 code:ACode
 nt:Nat
 res:List ResultVar
 fr:List Nat
structure Ann where
 loops:Nat->List Nat × List Nat
 fr:List Nat
def Z6f (P:Program) (tm:Tm) (h:H):List ResultVar->Option (List Value)
 | []=>some []
 | .tmp t::rs=>(tm t).bind fun v=>(Z6f P tm h rs).bind fun vs=>some (v::vs)
 | .cell a t::rs=>(tm a).bind fun p=>(Zdb P h t p).bind fun v=>(Z6f P tm h rs).bind fun vs=>some (v::vs)
def tup:List Value->Value
 | [v]=>v
 | vs=>.tuple vs.toArray
def Z0a (h:H):List Nat->Option H
 | []=>some h
 | d::ds=>match HeapC.get h d with
  | some .dfr=>Z0a (HeapC.del h d) ds
  | _=>none
def Z12 (h:H) (l:Nat) (st:LoopState) (pd:Option Code):Option H :=
 match HeapC.get h l with
 | some (.loop r)=>some (HeapC.set h l (.loop { r with state:=st,pending:=pd }))
 | _=>none
def Z4e (h:H) (l:Nat):Option H :=
 match HeapC.get h l with
 | some (.loop r)=>cond (decide (r.state = .ready)) (some (HeapC.set h l (.loop { r with state:=.busy }))) none
 | _=>none
def Z1L (P:Program) (bk:FuncId->Option AFun) (o:Orc H):Orc H
 | .fn f,args,h,c,_=>(bk f).bind fun a=>cond (Nat.ble args.length a.nt)
  ((Z2e P o a.code { tm:=Z0h (List.range args.length) args,h:=h,c:=c,nt:=a.nt,df:=[],rd:=none }).bind fun r =>
   match r.1 with
   | .exit _=>none
   | _=>(Z0a r.2.h r.2.df).bind fun h1=>(Z6f P r.2.tm h1 a.res).bind fun vs =>
    some { e:=.ret,vs:=[tup vs],h:=Z1J r.2.tm h1 a.fr,c:=r.2.c,df:=[] }) none
 | .lp j lin fr b nt rd,vs,h,c,df =>
  (Z2e P o b { tm:=Z0h lin vs,h:=h,c:=c,nt:=nt,df:=df,rd:=rd }).bind fun r =>
   (vals r.2.tm lin).bind fun vs' =>
    match r.1 with
    | .normal=>o (.lp j lin fr b nt rd) vs' (Z1J r.2.tm r.2.h fr) r.2.c r.2.df
    | e=>some { e:=e,vs:=vs',h:=Z1J r.2.tm r.2.h fr,c:=r.2.c,df:=r.2.df }
 | .rnd nt lin fr params l a b,vs,h,c,_ =>
  (Z2e P o a { tm:=Z0h (params++lin) vs,h:=h,c:=c,nt:=nt,df:=[],rd:=some l }).bind fun r =>
   match r.1 with
   | .normal=>(Z4e r.2.h l).bind fun h1 =>
    (Z2e P o b { r.2 with h:=h1 }).bind fun q =>
     (Z12 (Z1J q.2.tm q.2.h fr) l (cond (Z3Z q.1).isNone .ready .done) (Z3Z q.1)).bind fun h2 =>
      cond (q.2.df.isEmpty) (some { e:=.ret,vs:=[.bool (Z3Z q.1).isNone],h:=h2,c:=q.2.c,df:=[] }) none
   | _=>none
def orc (P:Program) (bk:FuncId->Option AFun):Nat->Orc H
 | 0=>fun _ _ _ _ _=>none
 | n+1=>Z1L P bk (orc P bk n)
def Z7E (P:Program) (bk:FuncId->Option AFun):Prop :=
 ∀ f a,bk f=some a -> ∃ fn c,P.funcs[f]? = some fn/\fn.body=some c/\(fn.name == "runtime.NumGoroutine")=false/\Z3V a.code=c/\a.nt=fn.ntmps/\a.res=fn.results.toList
end Go.Ab

namespace Go.Ab
open Go
structure ME where
 b:Nat
 s:Nat
 opn:Option (Nat × Nat)
abbrev Mu:=Nat->Option ME
inductive VR (μ:Mu):Value->Value->Prop
 | bool (b:Bool):VR μ (.bool b) (.bool b)
 | int (k:IntKind) (n:Int):VR μ (.int k n) (.int k n)
 | str (s:ByteArray):VR μ (.string s) (.string s)
 | ptr0:VR μ (.pointer none) (.pointer none)
 | ptr {i o:Nat} {m:ME} (h:μ i=some m):VR μ (.pointer (some ⟨i,o,none⟩)) (.pointer (some ⟨m.b,m.s+o,none⟩))
 | sl0 (l c:Nat):VR μ (.slice none l c) (.slice none l c)
 | sl {i o l c c':Nat} {m:ME} (h:μ i=some m) (hc:c<=c') (hz:c=c' ∨ ∃ e Z,m.opn=some (e,Z)/\m.s+o+c'*e<=Z) :
  VR μ (.slice (some ⟨i,o,none⟩) l c) (.slice (some ⟨m.b,m.s+o,none⟩) l c')
 | slE {i o x:Nat} {m:ME} (h:μ i=some m):VR μ (.slice (some ⟨i,o,none⟩) 0 0) (.slice (some ⟨m.b,x,none⟩) 0 0)
 | map0:VR μ (.map none) (.map none)
 | map {i:Nat} {m:ME} (h:μ i=some m):VR μ (.map (some i)) (.map (some m.b))
 | nilFunc:VR μ .nilFunc .nilFunc
 | nilIface:VR μ .nilIface .nilIface
 | iface (t:TypeId) {v v':Value} (h:VR μ v v'):VR μ (.iface t v) (.iface t v')
 | agg {xs ys:Array Value} (hs:xs.size=ys.size) (h:∀ (k:Nat) (x y:Value),xs[k]? = some x->ys[k]? = some y->VR μ x y):VR μ (.agg xs) (.agg ys)
 | tuple {xs ys:Array Value} (hs:xs.size=ys.size) (h:∀ (k:Nat) (x y:Value),xs[k]? = some x->ys[k]? = some y->VR μ x y):VR μ (.tuple xs) (.tuple ys)
 | fnc (f:FuncId) {avs avs' bs bs':Array Value} (ha:avs.size=avs'.size) (hb:bs.size=bs'.size)
  (h1:∀ (k:Nat) (x y:Value),avs[k]? = some x->avs'[k]? = some y->VR μ x y)
  (h2:∀ (k:Nat) (x y:Value),bs[k]? = some x->bs'[k]? = some y->VR μ x y):VR μ (.func (.func f) avs bs) (.func (.func f) avs' bs')
 | yield {l:Nat} {m:ME} (h:μ l=some m):VR μ (.func (.yield l) #[] #[]) (.func (.yield m.b) #[] #[])
def VRs (μ:Mu) (xs ys:List Value):Prop:=xs.length=ys.length /\ ∀ (k:Nat) (x y:Value),xs[k]? = some x->ys[k]? = some y->VR μ x y
theorem VRs.nil (μ:Mu):VRs μ [] []:=⟨rfl,by simp⟩
theorem VRs.cons {μ:Mu} {x y:Value} {xs ys:List Value} (h:VR μ x y) (hs:VRs μ xs ys):VRs μ (x::xs) (y::ys):=by
 refine ⟨by simp [hs.1],fun k a b ha hb=>?_⟩
 cases k with
 | zero=>simp at ha hb; subst ha; subst hb; exact h
 | succ k=>simp at ha hb; exact hs.2 k a b ha hb
theorem VRs.head {μ:Mu} {x y:Value} {xs ys:List Value} (h:VRs μ (x::xs) (y::ys)):VR μ x y:=h.2 0 x y (by simp) (by simp)
theorem VRs.tail {μ:Mu} {x y:Value} {xs ys:List Value} (h:VRs μ (x::xs) (y::ys)):VRs μ xs ys :=
 ⟨by simpa using h.1,fun k a b ha hb=>h.2 (k+1) a b (by simpa using ha) (by simpa using hb)⟩
theorem VRs.left {μ:Mu} {x:Value} {xs ys:List Value} (h:VRs μ (x::xs) ys):∃ y zs,ys=y::zs/\VR μ x y/\VRs μ xs zs:=by
 cases ys with
 | nil=>exact absurd h.1 (by simp)
 | cons y zs=>exact ⟨y,zs,rfl,h.head,h.tail⟩
theorem VRs.nil_left {μ:Mu} {ys:List Value} (h:VRs μ [] ys):ys=[]:=by
 cases ys with
 | nil=>rfl
 | cons y zs=>exact absurd h.1 (by simp)
theorem VRs.append {μ:Mu} {xs ys xs' ys':List Value} (h:VRs μ xs ys) (h':VRs μ xs' ys'):VRs μ (xs++xs') (ys++ys'):=by
 induction xs generalizing ys with
 | nil=>rw [h.nil_left]; simpa using h'
 | cons x xs ih=>obtain ⟨y,zs,rfl,h1,h2⟩:=h.left; exact VRs.cons h1 (ih h2)
theorem VRs.get {μ:Mu} {xs ys:List Value} (h:VRs μ xs ys) {k:Nat} {x:Value} (hx:xs[k]? = some x):∃ y,ys[k]? = some y/\VR μ x y:=by
 have hk:k<xs.length:=(jC.1 hx).1
 have hk':k<ys.length:=h.1 ▸ hk
 exact ⟨ys[k],qI hk',h.2 k x _ hx (qI hk')⟩
theorem VRs.drop {μ:Mu} {xs ys:List Value} (h:VRs μ xs ys) (n:Nat):VRs μ (xs.drop n) (ys.drop n) :=
 ⟨by simp [h.1],fun k a b ha hb=>h.2 (n+k) a b (by simpa using ha) (by simpa using hb)⟩
theorem VRs.take {μ:Mu} {xs ys:List Value} (h:VRs μ xs ys) (n:Nat):VRs μ (xs.take n) (ys.take n):=by
 refine ⟨by simp [h.1],fun k a b ha hb=>?_⟩
 rw [List.getElem?_take] at ha hb
 split at ha
 · rename_i hk; simp [hk] at hb; exact h.2 k a b ha hb
 · simp at ha
theorem VR.agg_iff {μ:Mu} {xs ys:Array Value}:VR μ (.agg xs) (.agg ys) ↔ VRs μ xs.toList ys.toList:=by
 constructor
 · intro h; cases h with
   | agg hs h=>exact ⟨by simpa using hs,fun k x y hx hy=>h k x y (by simpa using hx) (by simpa using hy)⟩
 · intro h; exact .agg (by simpa using h.1) (fun k x y hx hy=>h.2 k x y (by simpa using hx) (by simpa using hy))
theorem VR.tuple_iff {μ:Mu} {xs ys:Array Value}:VR μ (.tuple xs) (.tuple ys) ↔ VRs μ xs.toList ys.toList:=by
 constructor
 · intro h; cases h with
   | tuple hs h=>exact ⟨by simpa using hs,fun k x y hx hy=>h k x y (by simpa using hx) (by simpa using hy)⟩
 · intro h; exact .tuple (by simpa using h.1) (fun k x y hx hy=>h.2 k x y (by simpa using hx) (by simpa using hy))
def Mu.le (μ μ':Mu):Prop:=∀ i m,μ i=some m->μ' i=some m
theorem VR.mono {μ μ':Mu} (hm:μ.le μ') {v v':Value} (h:VR μ v v'):VR μ' v v':=by
 induction h with
 | bool b=>exact .bool b
 | int k n=>exact .int k n
 | str s=>exact .str s
 | ptr0=>exact .ptr0
 | ptr h=>exact .ptr (hm _ _ h)
 | sl0 l c=>exact .sl0 l c
 | sl h hc hz=>exact .sl (hm _ _ h) hc hz
 | slE h=>exact .slE (hm _ _ h)
 | map0=>exact .map0
 | map h=>exact .map (hm _ _ h)
 | nilFunc=>exact .nilFunc
 | nilIface=>exact .nilIface
 | iface t _ ih=>exact .iface t ih
 | agg hs _ ih=>exact .agg hs ih
 | tuple hs _ ih=>exact .tuple hs ih
 | fnc f ha hb _ _ ih1 ih2=>exact .fnc f ha hb ih1 ih2
 | yield h=>exact .yield (hm _ _ h)
theorem VRs.mono {μ μ':Mu} (hm:μ.le μ') {xs ys:List Value} (h:VRs μ xs ys):VRs μ' xs ys:=⟨h.1,fun k x y hx hy=>(h.2 k x y hx hy).mono hm⟩
theorem VR.plain {μ:Mu} {v:Value} (h:Z2P v=true):VR μ v v:=by
 cases v with
 | bool b=>exact .bool b
 | int k n=>exact .int k n
 | string s=>exact .str s
 | pointer a=>cases a with
  | none=>exact .ptr0
  | some a=>simp [Z2P] at h
 | slice a l c=>cases a with
  | none=>exact .sl0 l c
  | some a=>simp [Z2P] at h
 | map r=>cases r with
  | none=>exact .map0
  | some r=>simp [Z2P] at h
 | nilFunc=>exact .nilFunc
 | nilIface=>exact .nilIface
 | _=>simp [Z2P] at h
theorem VRs.plain {μ:Mu} {xs:List Value} (h:xs.all Z2P=true):VRs μ xs xs:=by
 refine ⟨rfl,fun k x y hx hy=>?_⟩
 rw [hx] at hy
 cases hy
 exact VR.plain (List.all_eq_true.1 h x (List.mem_of_getElem? hx))
theorem VR.plainL {μ:Mu} {v:Value} (h:plainL v=true):VR μ v v:=by
 cases v with
 | agg cs=>exact VR.agg_iff.2 (VRs.plain h)
 | _=>exact VR.plain h
theorem VR.flat {μ:Mu} {v v':Value} (h:VR μ v v'):Z08 v=true->v'.oneCell'=true:=by
 cases h <;> simp [Z08,Value.oneCell']
theorem VR.cells {μ:Mu} {v v':Value} (h:VR μ v v'):VRs μ v.cells.toList v'.cells.toList:=by
 cases h with
 | agg hs h=>exact VR.agg_iff.1 (.agg hs h)
 | tuple hs h=>exact VRs.cons (.tuple hs h) (VRs.nil μ)
 | bool b=>exact VRs.cons (.bool b) (VRs.nil μ)
 | int k n=>exact VRs.cons (.int k n) (VRs.nil μ)
 | str s=>exact VRs.cons (.str s) (VRs.nil μ)
 | ptr0=>exact VRs.cons .ptr0 (VRs.nil μ)
 | ptr h=>exact VRs.cons (.ptr h) (VRs.nil μ)
 | sl0 l c=>exact VRs.cons (.sl0 l c) (VRs.nil μ)
 | sl h hc hz=>exact VRs.cons (.sl h hc hz) (VRs.nil μ)
 | slE h=>exact VRs.cons (.slE h) (VRs.nil μ)
 | map0=>exact VRs.cons .map0 (VRs.nil μ)
 | map h=>exact VRs.cons (.map h) (VRs.nil μ)
 | nilFunc=>exact VRs.cons .nilFunc (VRs.nil μ)
 | nilIface=>exact VRs.cons .nilIface (VRs.nil μ)
 | iface t h=>exact VRs.cons (.iface t h) (VRs.nil μ)
 | fnc f ha hb h1 h2=>exact VRs.cons (.fnc f ha hb h1 h2) (VRs.nil μ)
 | yield h=>exact VRs.cons (.yield h) (VRs.nil μ)
theorem VRs.flat {μ:Mu} {xs ys:List Value} (h:VRs μ xs ys) (hf:xs.all Z08=true):∀ v ∈ ys,v.oneCell'=true:=by
 intro v hv
 obtain ⟨k,hk⟩:=List.getElem?_of_mem hv
 have hlt:k<ys.length:=(jC.1 hk).1
 have hlx:k<xs.length:=h.1 ▸ hlt
 have hx:xs[k]? = some xs[k]:=qI hlx
 exact (h.2 k _ v hx hk).flat (List.all_eq_true.1 hf _ (List.mem_of_getElem? hx))
structure TmR (μ:Mu) (tm:Tm) (nt:Nat) (ts:Array Value):Prop where
 size:ts.size=nt
 val:∀ t v,tm t=some v -> ∃ v',ts[t]? = some v'/\VR μ v v'
theorem TmR.mono {μ μ':Mu} (hm:μ.le μ') {tm:Tm} {nt:Nat} {ts:Array Value} (h:TmR μ tm nt ts):TmR μ' tm nt ts :=
 ⟨h.size,fun t v e=>let ⟨v',a,b⟩:=h.val t v e; ⟨v',a,b.mono hm⟩⟩
theorem TmR.eval {μ:Mu} {tm:Tm} {nt:Nat} {a:Act} (h:TmR μ tm nt a.tmps) {x:Operand} {v:Value} (e:Z0j tm x=some v):VR μ v (a.eval x):=by
 cases x with
 | tmp t =>
  obtain ⟨v',h1,h2⟩:=h.val t v e
  simp only [Act.eval,Array.getD_eq_getD_getElem?,h1]
  exact h2
 | const c =>
  simp only [Z0j] at e
  cases hp:Z2P c with
  | true=>simp [hp] at e; subst e; exact VR.plain hp
  | false=>simp [hp] at e
 | global g=>simp [Z0j] at e
 | func f =>
  simp only [Z0j,Option.some.injEq] at e
  subst e
  exact .fnc f rfl rfl (by simp) (by simp)
theorem TmR.evals {μ:Mu} {tm:Tm} {nt:Nat} {a:Act} (h:TmR μ tm nt a.tmps):∀ {xs:List Operand} {vs:List Value},Z1I tm xs=some vs->VRs μ vs (xs.map a.eval)
 | [],vs,e=>by simp [Z1I] at e; subst e; exact VRs.nil μ
 | x::xs,vs,e=>by
  simp only [Z1I,qA] at e
  obtain ⟨v,hv,ws,hw,e⟩:=e
  cases e
  exact VRs.cons (h.eval hv) (h.evals hw)
theorem TmR.put {μ:Mu} {tm:Tm} {nt:Nat} {a:Act} (h:TmR μ tm nt a.tmps) {dst:Option Tmp} {v v':Value} (hd:∀ d,dst=some d->d<nt) (hv:VR μ v v') :
 TmR μ (Z7G tm dst v) nt (a.put dst v').tmps:=by
 cases dst with
 | none=>exact h
 | some d =>
  refine ⟨by simp [Act.put,h.size],fun t u e=>?_⟩
  simp only [Z7G] at e
  simp only [Act.put]
  by_cases hdt:t=d
  · subst hdt
    simp at e
    subst e
    exact ⟨v',by simp [h.size,hd t rfl],hv⟩
  · have hb:Nat.beq t d=false:=by rw [qY]; intro hh; exact hdt (qJ hh)
    simp [hb] at e
    obtain ⟨u',h1,h2⟩:=h.val t u e
    exact ⟨u',by rw [Array.getElem?_setIfInBounds_ne (Ne.symm hdt)]; exact h1,h2⟩
variable {H:Type} [HeapC H]
def wrB:Option ABlk->Bool
 | some (.cells ro _ _)=>!ro
 | some .dead | none=>false
 | some _=>true
def roB:Option ABlk->Bool
 | some (.cells ro _ _)=>ro
 | _=>false
def Z2w:Option ABlk->Bool
 | some .dead=>true
 | _=>false
def EsR (μ:Mu) (es:List (Value × Value)) (es':List MapEntry):Prop :=
 es.length=es'.length /\ ∀ (k:Nat) (x:Value × Value) (y:MapEntry),es[k]? = some x->es'[k]? = some y->VR μ x.1 y.key/\VR μ x.2 y.val
structure LoopR (μ:Mu) (a:ALoop) (r:Loop):Prop where
 state:r.state=a.state
 pending:r.pending=a.pending
 params:r.params.toList=a.params
 assign:r.assign=Z3V a.assign
 body:r.body=Z3V a.body
 size:r.tmps.size=a.nt
 vals:∀ t v,Z0h a.lin a.vals t=some v -> ∃ v',r.tmps[t]? = some v'/\VR μ v v'
 dfr:∃ m,μ a.dfr=some m/\m.b=r.defers
def Z7H (μ:Mu) (m:ME) (heap:Array Obj):Option ABlk->Prop
 | some (.cells ro opn c)=>∃ C E fr,heap[m.b]? = some (.cells C E fr)/\(∀ k x,c[k]? = some x -> ∃ y,C[m.s+k]? = some y/\VR μ x y) ∧
  (ro=false->fr=(0,0))/\m.opn=opn.map fun e=>(e,C.size)
 | some (.map es)=>∃ es' clk,heap[m.b]? = some (.map es' clk)/\EsR μ es es'.toList
 | some (.loop a)=>∃ r,heap[m.b]? = some (.loop r)/\LoopR μ a r
 | some .dfr=>heap[m.b]? = some (.deferred (some []))
 | some .dead | none=>True
structure R (μ:Mu) (A:H) (w:World):Prop where
 blk:∀ i m,μ i=some m->Z7H μ m w.heap (HeapC.get A i)
 inj:∀ i j mi mj,μ i=some mi->μ j=some mj->i ≠ j->Z2w (HeapC.get A i)=false->Z2w (HeapC.get A j)=false →
  ¬ (roB (HeapC.get A i)=true/\roB (HeapC.get A j)=true)->mi.b ≠ mj.b
 lt:∀ i m,μ i=some m->m.b<w.heap.size
structure Ext (μ:Mu) (A:H) (c:Nat) (w:World) (own:Nat->Prop) (μ':Mu) (A':H) (c':Nat) (w':World):Prop where
 mu:μ.le μ'
 new:∀ i,μ i=none->μ' i ≠ none->own i ∨ (256*c<=i/\i<256*c')
 cle:c<=c'
 rel:R μ' A' w'
 af:∀ i,μ i=none->i<256*c -> ¬ own i->HeapC.get A' i=HeapC.get A i
 os:w'.os=w.os
 tape:w'.tape=w.tape
 output:w'.output=w.output
 size:w.heap.size<=w'.heap.size
 fr:∀ b,b<w.heap.size->(∀ i m,μ i=some m->wrB (HeapC.get A i)=true->m.b ≠ b)->w'.heap[b]? = w.heap[b]?
 wrm:∀ i m,μ i=some m->wrB (HeapC.get A' i)=true->wrB (HeapC.get A i)=true
 newb:∀ i m,μ i=none->μ' i=some m->w.heap.size<=m.b ∨ ∃ j mj,μ j=some mj/\mj.b=m.b/\wrB (HeapC.get A j)=true
 dd:∀ i m,μ i=some m->Z2w (HeapC.get A i)=true->Z2w (HeapC.get A' i)=true
theorem Ext.refl {μ:Mu} {A:H} {c:Nat} {w:World} {own:Nat->Prop} (h:R μ A w):Ext μ A c w own μ A c w where
 mu:=fun _ _ e=>e
 new:=fun i h1 h2=>absurd h1 h2
 cle:=qG _
 rel:=h
 af:=fun _ _ _ _=>rfl
 os:=rfl
 tape:=rfl
 output:=rfl
 size:=qG _
 fr:=fun _ _ _=>rfl
 wrm:=fun _ _ _ h=>h
 newb:=fun i m h1 h2=>by rw [h1] at h2; cases h2
 dd:=fun _ _ _ h=>h
theorem Ext.trans {μ μ1 μ2:Mu} {A A1 A2:H} {c c1 c2:Nat} {w w1 w2:World} {own own':Nat->Prop}
 (h:Ext μ A c w own μ1 A1 c1 w1) (k:Ext μ1 A1 c1 w1 own' μ2 A2 c2 w2) (ho:∀ i,own i->i<256*c) (ho':∀ i,own' i->μ1 i=none ∨ own' i) :
 Ext μ A c w (fun i=>own i ∨ own' i) μ2 A2 c2 w2 where
 mu:=fun i m e=>k.mu i m (h.mu i m e)
 new:=fun i h1 h2=>by
  cases e:μ1 i with
  | none =>
   rcases k.new i e h2 with a | ⟨a,b⟩
   · exact .inl (.inr a)
   · exact .inr ⟨by have:=h.cle; omega,b⟩
  | some m =>
   rcases h.new i h1 (by rw [e]; simp) with a | ⟨a,b⟩
   · exact .inl (.inl a)
   · exact .inr ⟨a,by have:=k.cle; omega⟩
 cle:=Nat.le_trans h.cle k.cle
 rel:=k.rel
 af:=fun i h1 h2 h3=>by
  have e1:=h.af i h1 h2 (fun a=>h3 (.inl a))
  cases e:μ1 i with
  | none=>rw [k.af i e (by have:=h.cle; omega) (fun a=>h3 (.inr a)),e1]
  | some m =>
   rcases h.new i h1 (by rw [e]; simp) with a | ⟨a,_⟩
   · exact absurd (.inl a) h3
   · omega
 os:=k.os.trans h.os
 tape:=k.tape.trans h.tape
 output:=k.output.trans h.output
 size:=Nat.le_trans h.size k.size
 fr:=fun b hb hn=>by
  rw [k.fr b (by have:=h.size; omega) ?_,h.fr b hb hn]
  intro i m hi hw e
  cases e0:μ i with
  | some m0 =>
   have:=h.mu i m0 e0
   rw [hi] at this
   cases this
   exact hn i m e0 (h.wrm i m e0 hw) e
  | none =>
   rcases h.newb i m e0 hi with a | ⟨j,mj,a,a2,a3⟩
   · omega
   · exact hn j mj a a3 (a2.trans e)
 wrm:=fun i m hi hw=>h.wrm i m hi (k.wrm i m (h.mu i m hi) hw)
 dd:=fun i m hi h0=>k.dd i m (h.mu i m hi) (h.dd i m hi h0)
 newb:=fun i m h1 h2=>by
  cases e:μ1 i with
  | some m1 =>
   have:=k.mu i m1 e
   rw [h2] at this
   cases this
   exact h.newb i m h1 e
  | none =>
   rcases k.newb i m e h2 with a | ⟨j,mj,a,a2,a3⟩
   · exact .inl (Nat.le_trans h.size a)
   · cases e0:μ j with
     | some m0 =>
      have:=h.mu j m0 e0
      rw [a] at this
      cases this
      exact .inr ⟨j,mj,e0,a2,h.wrm j mj e0 a3⟩
     | none =>
      rcases h.newb j mj e0 a with b | ⟨j',mj',b1,b2,b3⟩
      · exact .inl qO
      · exact .inr ⟨j',mj',b1,b2.trans a2,b3⟩
def Z22 (μ:Mu) (c:Nat):Prop:=∀ i,256*c<=i->μ i=none
theorem Ext.fresh {μ μ':Mu} {A A':H} {c c':Nat} {w w':World} {own:Nat->Prop} (h:Ext μ A c w own μ' A' c' w') (hf:Z22 μ c) (ho:∀ i,own i->i<256*c):Z22 μ' c':=by
 intro i hi
 cases e:μ' i with
 | none=>rfl
 | some m =>
  have e0:=hf i (by have:=h.cle; omega)
  rcases h.new i e0 (by rw [e]; simp) with a | ⟨_,a⟩
  · have:=ho i a; have:=h.cle; omega
  · omega
theorem Ext.weaken {μ μ':Mu} {A A':H} {c c':Nat} {w w':World} {own own':Nat->Prop} (h:Ext μ A c w own μ' A' c' w') (ho:∀ i,own i->own' i):Ext μ A c w own' μ' A' c' w' :=
 { h with new:=fun i a b=>(h.new i a b).imp (ho i) id,af:=fun i a b d=>h.af i a b (fun e=>d (ho i e)) }
end Go.Ab
