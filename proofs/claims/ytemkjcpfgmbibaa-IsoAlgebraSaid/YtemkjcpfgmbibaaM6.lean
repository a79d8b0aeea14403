/- Parts of a proof: AbJx AbPrim AbEval AbGc. Conditions: none. -/
import Derived.Test.YtemkjcpfgmbibaaM5
set_option linter.all false
set_option maxRecDepth 100000
namespace Go.Ab
open Go
variable {H:Type} [HeapC H] {P:Program}
abbrev Kx (H β:Type):=Ex->Tm->H->Nat->List Nat->Option β
def nthV:List Value->Nat->Value
 | [],_=>undef
 | v::vs,i=>Nat.rec v (fun n _=>nthV vs n) i
def ZmN:List Nat->Nat->Nat->Option Nat
 | [],_,_=>none
 | x::xs,t,i=>cond (Nat.beq t x) (some i) (ZmN xs t (i+1))
def tmL (lin:List Nat) (vs:List Value):Tm:=fun t=>(ZmN lin t 0).bind fun i=>some (nthV vs i)
theorem Zha (v:Value) (vs:List Value) (i:Nat):nthV (v::vs) (i+1)=nthV vs i:=rfl
theorem Z9C:∀ (l:List Nat) (t i:Nat),ZmN l t (i+1)=(ZmN l t i).map (· + 1)
 | [],t,i=>rfl
 | x::xs,t,i=>by
  simp only [ZmN]
  cases Nat.beq t x with
  | true=>rfl
  | false=>exact Z9C xs t (i+1)
theorem ZgM:∀ {lin:List Nat} {vs:List Value},vs.length=lin.length -> ∀ t,tmL lin vs t=Z0g lin vs t
 | [],[],_,t=>rfl
 | x::xs,v::vs,h,t=>by
  have ih:=ZgM (lin:=xs) (vs:=vs) (by simpa using h) t
  simp only [tmL,ZmN,Z0g] at ih ⊢
  cases hb:Nat.beq t x with
  | true=>rfl
  | false =>
   simp only [cond_false]
   rw [← ih,Z9C]
   cases ZmN xs t 0 with
   | none=>rfl
   | some i=>simp only [Option.map_some,Option.bind_some,Zha]
 | [],v::vs,h,t=>by simp at h
 | x::xs,[],h,t=>by simp at h
def Z0t:Ex->Ex->Bool
 | .normal,.normal=>true
 | .ret,.ret=>true
 | .exit a,.exit b=>Nat.beq a b
 | _,_=>false
theorem Zbg {a b:Ex} (h:Z0t a b=true):a=b:=by
 cases a <;> cases b <;> simp only [Z0t] at h <;> first | rfl | cases h | rw [Nat.eq_of_beq_eq_true h]
def Zm6 {β:Type} (e:Ex) (K:Ex->Option β):List Ex->Option β
 | []=>none
 | x::xs=>cond (Z0t e x) (K x) (Zm6 e K xs)
def ZnS (e:Ex):List (Ex × List Nat)->Option (List Nat)
 | []=>none
 | x::xs=>cond (Z0t e x.1) (some x.2) (ZnS e xs)
def Zgr {β:Type} (r:Rt H) (K:Kx H β):List (Ex × List Nat)->Option β
 | []=>none
 | x::xs=>cond (Z0t r.e x.1) (K x.1 (tmL x.2 r.vs) r.h r.c r.df) (Zgr r K xs)
def ZiO {β:Type} (P:Program) (o:Orc H) (ops:Array Oper) (base nt:Nat) (K:Tm->H->Nat->List (Option Nat × H)->Option β):List Oper->Nat->Tm->H->Nat->List (Option Nat × H)->Option β
 | [],_,tm,h,c,tr=>K tm h c (tr++[(none,h)])
 | op::rest,i,tm,h,c,tr=>Zit P o ops base i nt tm h c op fun v h' c'=>ZiO P o ops base nt K rest (i+1) (Z6f tm op.dst v) h' c' (tr++[(rid ops tm op,h)])
theorem Zdz {β:Type} {o:Orc H} {ops:Array Oper} {base nt:Nat} {K:Tm->H->Nat->List (Option Nat × H)->Option β}:∀ {l:List Oper} {i:Nat} {tm:Tm} {h:H} {c:Nat} {tr:List (Option Nat × H)},
 ZiO P o ops base nt K l i tm h c tr=(Z11 P o ops base nt l i tm h c).bind fun r=>K r.1 r.2.1 r.2.2.1 (tr++r.2.2.2)
 | [],i,tm,h,c,tr=>rfl
 | oper::l,i,tm,h,c,tr=>by
  simp only [ZiO,Z11,Zdt,Option.bind_assoc]
  congr 1
  funext r
  rw [Zdz]
  congr 1
  funext q
  simp only [Option.bind_some,List.append_assoc,List.cons_append,List.nil_append]
def Z14 (x:Option Nat) (h1 h2:H):Bool :=
 match x with
 | some x=>HeapC.eqB H (HeapC.get h1 x) (HeapC.get h2 x)
 | none=>true
def lwC (tr:List (Option Nat × H)) (p:Nat × Nat):Bool :=
 match tr[p.1]? with
 | none=>true
 | some e=>match tr[p.2]? with
  | none=>e.1.isNone
  | some a=>match tr[p.2+1]? with
   | none=>e.1.isNone
   | some b=>Z14 e.1 a.2 b.2
theorem lwC_eq:(lwC:List (Option Nat × H)->Nat × Nat->Bool)=lwOk:=by
 funext tr p
 unfold lwC lwOk
 cases tr[p.1]? with
 | none=>rfl
 | some e =>
  obtain ⟨x,h⟩:=e
  cases tr[p.2]? with
  | none=>cases x <;> rfl
  | some a =>
   cases tr[p.2+1]? with
   | none=>cases x <;> rfl
   | some b=>cases x <;> rfl
def regK {β:Type} (P:Program) (o:Orc H) (ops:Array Oper) (draw:Bool) (nt:Nat) (tm:Tm) (h:H) (c:Nat) (K:Tm->H->Nat->Option β):Option β :=
 cond draw
  (cond (Z8i ops)
   (cond (lws ops).isEmpty (opsK P o ops c nt K ops.toList 0 tm h (c+1))
    (ZiO P o ops c nt (fun tm h c tr=>cond ((lws ops).all (lwC tr)) (K tm h c) none) ops.toList 0 tm h (c+1) [])) none)
  (opsK P o ops c nt K ops.toList 0 tm h (c+1))
theorem Zcm {β:Type} {o:Orc H} {ops:Array Oper} {draw:Bool} {nt:Nat} {tm:Tm} {h:H} {c:Nat} {K:Tm->H->Nat->Option β} :
 regK P o ops draw nt tm h c K=(Z4y P o ops draw nt tm h c).bind fun r=>K r.1 r.2.1 r.2.2:=by
 unfold regK Z4y
 cases draw with
 | false=>exact Zcx
 | true =>
  cases Z8i ops with
  | false=>rfl
  | true =>
   cases (lws ops).isEmpty with
   | true=>exact Zcx
   | false =>
    simp only [cond_true,cond_false,Zdz,Option.bind_assoc,List.nil_append,lwC_eq]
    congr 1
    funext r
    cases (lws ops).all (lwOk r.2.2.2) <;> rfl
def Z4N (o:Orc H) (nt:Nat) (rd:Option Nat) (lin fr:List Nat) (ps:Array Tmp) (a b:ACode) (fv:Value) (vs:List Value) (h:H) (c:Nat) (df:List Nat):Option (Ex × H × Nat × List Nat) :=
 match fv with
 | .func (.func g) first cap=>(Z2p h c rd).bind fun hd =>
  (o (.fn g) (first.toList++[.func (.yield (256*c)) #[] #[]]++cap.toList)
   (HeapC.set hd.1 (256*c) (.loop { state:=.ready,pending:=none,nt:=nt,vals:=vs,lin:=lin,fr:=fr,params:=ps.toList,assign:=a,body:=b,dfr:=hd.2 })) (c+1) []).bind fun r =>
   match HeapC.get r.h (256*c) with
   | some (.loop st)=>cond (decide (st.state = .busy)) none ((exOf st.pending).bind fun e=>some (e,HeapC.del r.h (256*c),r.c,match rd with | none=>hd.2::df | some _=>df))
   | _=>none
 | _=>none
theorem Zco {o:Orc H} {nt:Nat} {rd:Option Nat} {lin fr:List Nat} {ps:Array Tmp} {a b:ACode} {tm:Tm} {f:Operand} {fv:Value} {vs:List Value} {h:H} {c:Nat} {df:List Nat} {r:Ex × H × Nat × List Nat}
 (hf:Z0c tm f=some fv) (hv:vals tm lin=some vs) (e:Z4N o nt rd lin fr ps a b fv vs h c df=some r) :
 Z45 o { tm:=tm,h:=h,c:=c,nt:=nt,df:=df,rd:=rd } lin fr f ps a b=some (r.1,{ tm:=tm,h:=r.2.1,c:=r.2.2.1,nt:=nt,df:=r.2.2.2,rd:=rd }):=by
 unfold Z4N at e
 split at e
 · rename_i g first cap
   simp only [Option.bind_eq_some_iff] at e
   obtain ⟨hd,hhd,q,hq,e⟩:=e
   simp only [Z45,hf,hv,hhd,hq,Option.bind_some]
   split at e
   · rename_i st hg
     simp only [hg]
     cases hb:decide (st.state=LoopState.busy) with
     | true=>rw [hb] at e; cases e
     | false =>
      rw [hb] at e
      simp only [cond_false,Option.bind_eq_some_iff] at e
      obtain ⟨x,hx,e⟩:=e
      cases e
      simp only [cond_false,hx,Option.bind_some]
      rfl
   · cases e
 · cases e
def jx {β:Type} (P:Program) (o:Orc H) (nt:Nat) (rd:Option Nat):ACode->Tm->H->Nat->List Nat->Kx H β->Option β
 | .skip,tm,h,c,df,K=>K .normal tm h c df
 | .region _ ops draw,tm,h,c,df,K=>regK P o ops draw nt tm h c fun tm h c=>K .normal tm h c df
 | .seq a b,tm,h,c,df,K=>jx P o nt rd a tm h c df fun e tm h c df =>
  match e with
  | .normal=>jx P o nt rd b tm h c df K
  | .exit i=>K (.exit i) tm h c df
  | .ret=>K .ret tm h c df
 | .cond x a b,tm,h,c,df,K=>(Z0c tm x).bind fun v =>
  match v with
  | .bool t=>cond t (jx P o nt rd a tm h c df K) (jx P o nt rd b tm h c df K)
  | _=>none
 | .block id a,tm,h,c,df,K=>jx P o nt rd a tm h c df fun e tm h c df =>
  match e with
  | .normal=>K .normal tm h c df
  | .exit i=>cond (Nat.beq i id) (K .normal tm h c df) (K (.exit i) tm h c df)
  | .ret=>K .ret tm h c df
 | .loop j lin fr outs b,tm,h,c,df,K=>(vals tm lin).bind fun vs =>
  (o (.lp j lin fr b nt rd) vs h c df).bind fun r=>Zm6 r.e (fun e=>K e (tmL lin r.vs) r.h r.c r.df) outs
 | .rangeFunc j lin fr outs f ps a b,tm,h,c,df,K=>(Z0c tm f).bind fun fv=>(vals tm lin).bind fun vs =>
  (Z4N o nt rd lin fr ps a b fv vs h c df).bind fun r=>Zm6 r.1 (fun e=>K e tm r.2.1 r.2.2.1 r.2.2.2) outs
 | .exit id,tm,h,c,df,K=>K (.exit id) tm h c df
 | .ret,tm,h,c,df,K=>K .ret tm h c df
 | .bad _,_,_,_,_,_=>none
 | .join lays a,tm,h,c,df,K =>
  (jx P o nt rd a tm h c df fun e tm h c df=>(ZnS e lays).bind fun l=>(vals tm l).bind fun vs=>some ({ e:=e,vs:=vs,h:=h,c:=c,df:=df }:Rt H)).bind fun r=>Zgr r K lays
theorem Z8N {β:Type} {e:Ex} {K:Ex->Option β} {x:β}:∀ {l:List Ex},Zm6 e K l=some x->K e=some x
 | [],h=>by cases h
 | y::l,h=>by
  simp only [Zm6] at h
  cases hb:Z0t e y with
  | true=>rw [hb] at h; rw [Zbg hb]; exact h
  | false=>rw [hb] at h; exact Z8N h
theorem Z5b {β:Type} {r:Rt H} {K:Kx H β} {x:β}:∀ {l:List (Ex × List Nat)},Zgr r K l=some x -> ∃ lay,ZnS r.e l=some lay/\K r.e (tmL lay r.vs) r.h r.c r.df=some x
 | [],h=>by cases h
 | y::l,h=>by
  simp only [Zgr] at h
  simp only [ZnS]
  cases hb:Z0t r.e y.1 with
  | true=>rw [hb] at h; refine ⟨y.2,rfl, ?_⟩; rw [Zbg hb]; exact h
  | false=>rw [hb] at h; exact Z5b h
def OLen (o:Orc H):Prop:=∀ j lin fr b nt rd vs h c df r,o (.lp j lin fr b nt rd) vs h c df=some r->r.vs.length=lin.length
theorem Tm.le_refl (tm:Tm):tm.le tm:=fun _ _ h=>h
theorem Tm.le_trans {a b c:Tm} (h:a.le b) (k:b.le c):a.le c:=fun t v e=>k t v (h t v e)
theorem Z2e {β:Type} {o:Orc H} (ho:OLen o) {nt:Nat} {rd:Option Nat}:∀ {code:ACode} {tm:Tm} {h:H} {c:Nat} {df:List Nat} {K:Kx H β} {x:β},jx P o nt rd code tm h c df K=some x →
 ∀ {tm':Tm},tm.le tm' -> ∃ e tm1 tm1' h1 c1 df1,Z1V P o code { tm:=tm',h:=h,c:=c,nt:=nt,df:=df,rd:=rd } = some (e,{ tm:=tm1',h:=h1,c:=c1,nt:=nt,df:=df1,rd:=rd })/\tm1.le tm1'/\K e tm1 h1 c1 df1=some x:=by
 intro code
 induction code generalizing β with
 | skip=>intro tm h c df K x e tm' hl; exact ⟨_,_,_,_,_,_,rfl,hl,e⟩
 | region id ops d =>
  intro tm h c df K x e tm' hl
  simp only [jx,Zcm,Option.bind_eq_some_iff] at e
  obtain ⟨q,hq,e⟩:=e
  obtain ⟨tm1,h1,h2⟩:=ZgW hl hq
  refine ⟨_,_,_,_,_,_, ?_,h2,e⟩
  simp only [Z1V,h1,Option.bind_some]
 | seq a b iha ihb =>
  intro tm h c df K x e tm' hl
  simp only [jx] at e
  obtain ⟨e1,tm1,tm1',h1,c1,df1,hx,hl1,hk⟩:=iha e hl
  cases e1 with
  | normal =>
   obtain ⟨e2,tm2,tm2',h2,c2,df2,hx2,hl2,hk2⟩:=ihb hk hl1
   exact ⟨_,_,_,_,_,_,by simp only [Z1V,hx,Option.bind_some]; exact hx2,hl2,hk2⟩
  | exit i=>exact ⟨_,_,_,_,_,_,by simp only [Z1V,hx,Option.bind_some],hl1,hk⟩
  | ret=>exact ⟨_,_,_,_,_,_,by simp only [Z1V,hx,Option.bind_some],hl1,hk⟩
 | cond y a b iha ihb =>
  intro tm h c df K x e tm' hl
  simp only [jx,Option.bind_eq_some_iff] at e
  obtain ⟨v,hv,e⟩:=e
  have hv':=Z0e hl hv
  split at e
  · rename_i t
    cases t
    · obtain ⟨e1,tm1,tm1',h1,c1,df1,hx,hl1,hk⟩:=ihb e hl
      exact ⟨_,_,_,_,_,_,by simp only [Z1V,hv',Option.bind_some,cond_false]; exact hx,hl1,hk⟩
    · obtain ⟨e1,tm1,tm1',h1,c1,df1,hx,hl1,hk⟩:=iha e hl
      exact ⟨_,_,_,_,_,_,by simp only [Z1V,hv',Option.bind_some,cond_true]; exact hx,hl1,hk⟩
  · cases e
 | block id a ih =>
  intro tm h c df K x e tm' hl
  simp only [jx] at e
  obtain ⟨e1,tm1,tm1',h1,c1,df1,hx,hl1,hk⟩:=ih e hl
  cases e1 with
  | normal=>exact ⟨_,_,_,_,_,_,by simp only [Z1V,hx,Option.bind_some],hl1,hk⟩
  | exit i =>
   cases hb:Nat.beq i id with
   | true=>simp only [hb] at hk; exact ⟨_,_,_,_,_,_,by simp only [Z1V,hx,Option.bind_some,hb,cond_true],hl1,hk⟩
   | false=>simp only [hb] at hk; exact ⟨_,_,_,_,_,_,by simp only [Z1V,hx,Option.bind_some,hb,cond_false],hl1,hk⟩
  | ret=>exact ⟨_,_,_,_,_,_,by simp only [Z1V,hx,Option.bind_some],hl1,hk⟩
 | loop j lin fr outs b _ =>
  intro tm h c df K x e tm' hl
  simp only [jx,Option.bind_eq_some_iff] at e
  obtain ⟨vs,hv,r,hr,e⟩:=e
  have hlen:=ho _ _ _ _ _ _ _ _ _ _ _ hr
  refine ⟨r.e,tmL lin r.vs,Z0g lin r.vs,r.h,r.c,r.df, ?_, ?_,Z8N e⟩
  · simp only [Z1V,Z5x hl hv,hr,Option.bind_some]
  · intro t v ht; rw [ZgM hlen] at ht; exact ht
 | rangeFunc j lin fr outs f ps a b _ _ =>
  intro tm h c df K x e tm' hl
  simp only [jx,Option.bind_eq_some_iff] at e
  obtain ⟨fv,hf,vs,hv,r,hr,e⟩:=e
  refine ⟨r.1,tm,tm',r.2.1,r.2.2.1,r.2.2.2, ?_,hl,Z8N e⟩
  simp only [Z1V]
  exact Zco (Z0e hl hf) (Z5x hl hv) hr
 | exit id=>intro tm h c df K x e tm' hl; exact ⟨_,_,_,_,_,_,rfl,hl,e⟩
 | ret=>intro tm h c df K x e tm' hl; exact ⟨_,_,_,_,_,_,rfl,hl,e⟩
 | bad _=>intro tm h c df K x e tm' hl; cases e
 | join lays a ih =>
  intro tm h c df K x e tm' hl
  simp only [jx,Option.bind_eq_some_iff] at e
  obtain ⟨r,hr,e⟩:=e
  obtain ⟨e1,tm1,tm1',h1,c1,df1,hx,hl1,hk⟩:=ih hr hl
  simp only [Option.bind_eq_some_iff] at hk
  obtain ⟨l,hlf,vs,hvs,hk⟩:=hk
  cases hk
  obtain ⟨lay,h3,h4⟩:=Z5b e
  simp only at h3 h4
  rw [hlf] at h3
  cases h3
  refine ⟨e1,tmL l vs,tm1',h1,c1,df1,by simp only [Z1V]; exact hx, ?_,h4⟩
  intro t v ht
  rw [ZgM (Z20 hvs)] at ht
  exact hl1 _ _ (Z3K hvs _ _ ht)
theorem Z52 {tm tm':Tm} (hl:tm.le tm') {h:H}:∀ {rs:List ResultVar} {vs:List Value},Z5h P tm h rs=some vs->Z5h P tm' h rs=some vs
 | [],vs,e=>e
 | .tmp t::rs,vs,e=>by
  simp only [Z5h,Option.bind_eq_some_iff] at e ⊢
  obtain ⟨v,hv,ws,hw,e⟩:=e
  exact ⟨v,hl _ _ hv,ws,Z52 hl hw,e⟩
 | .cell a t::rs,vs,e=>by
  simp only [Z5h,Option.bind_eq_some_iff] at e ⊢
  obtain ⟨p,hp,v,hv,ws,hw,e⟩:=e
  exact ⟨p,hl _ _ hp,v,hv,ws,Z52 hl hw,e⟩
def Zmw {β:Type} (P:Program) (tm:Tm) (h:H):List ResultVar->(List Value->Option β)->Option β
 | [],k=>k []
 | .tmp t::rs,k=>(tm t).bind fun v=>Zmw P tm h rs fun vs=>k (v::vs)
 | .cell a t::rs,k=>(tm a).bind fun p=>(Zbo P h t p).bind fun v=>Zmw P tm h rs fun vs=>k (v::vs)
theorem Z4M {β:Type} {tm:Tm} {h:H}:∀ {rs:List ResultVar} {k:List Value->Option β},Zmw P tm h rs k=(Z5h P tm h rs).bind k
 | [],k=>rfl
 | .tmp t::rs,k=>by simp only [Zmw,Z5h,Z4M,Option.bind_assoc,Option.bind_some]
 | .cell a t::rs,k=>by simp only [Zmw,Z5h,Z4M,Option.bind_assoc,Option.bind_some]
def Kfn (P:Program) (res:List ResultVar):Kx H (Rt H):=fun e tm h c df =>
 match e with
 | .exit _=>none
 | .normal=>(Z07 h df).bind fun h1=>Zmw P tm h1 res fun vs=>some { e:=.ret,vs:=[tup vs],h:=h1,c:=c,df:=[] }
 | .ret=>(Z07 h df).bind fun h1=>Zmw P tm h1 res fun vs=>some { e:=.ret,vs:=[tup vs],h:=h1,c:=c,df:=[] }
def Klp (lin:List Nat):Kx H (Rt H):=fun e tm h c df=>(vals tm lin).bind fun vs=>some { e:=e,vs:=vs,h:=h,c:=c,df:=df }
def Krd (l:Nat):Kx H (Rt H):=fun e tm h c df =>
 (Z0I h l (cond (Z3q e).isNone .ready .done) (Z3q e)).bind fun h2=>cond df.isEmpty (some { e:=.ret,vs:=[.bool (Z3q e).isNone],h:=h2,c:=c,df:=[] }) none
end Go.Ab

namespace Go.Ab
open Go
variable {H:Type} [HeapC H]
def pth:Code->List Nat->Code
 | .seq a b,i::p=>cond (Nat.beq i 0) (pth a p) (pth b p)
 | .cond _ a b,i::p=>cond (Nat.beq i 0) (pth a p) (pth b p)
 | .block _ a,_::p=>pth a p
 | .loop a,_::p=>pth a p
 | .rangeFunc _ _ a b,i::p=>cond (Nat.beq i 0) (pth a p) (pth b p)
 | c,_=>c
def Z3E (c:Code) (p:List Nat):Array Oper :=
 match pth c p with
 | .region _ ops _=>ops
 | _=>#[]
def Z0h (f:Func):Code:=f.body.getD .skip
def Z09 {β:Type} (v:Value) (a b:Option β):Option β :=
 match v with
 | .bool t=>cond t a b
 | _=>none
def Rt.v (r:Rt H) (i:Nat):Value:=nthV r.vs i
def Zmy (h:H) (c:Nat) (kv a b:Value):Option (Value × H × Nat) :=
 match kv with
 | .bool t=>some (cond t a b,h,c)
 | _=>none
def ZlO (P:Program) (o:Orc H) (nt l:Nat) (b:ACode):Kx H (Rt H):=fun e tm h c df =>
 match e with
 | .normal=>(Z2m h l).bind fun h1=>jx P o nt (some l) b tm h1 c df (Krd l)
 | .exit _=>none
 | .ret=>none
def Z1f (x:Value):Option Value :=
 match x with
 | .slice _ n _=>some (goInt n)
 | _=>none
def ixV (len:Nat) (agg:Bool) (sz:Nat) (x i:Value):Option Value:=(ZnM x).bind fun cs=>(ZlJ len i).bind fun k=>ZbJ cs agg (k*sz) sz
def Z5d:List Value->List (Nat × Nat × Value)->Option (List Value)
 | cs,[]=>some cs
 | cs,(off,n,v)::r=>cond (Nat.beq v.cells.size n && Nat.ble (off+n) cs.length) (Z5d (Z0M cs off v.cells.toList) r) none
def Z1v (z:List Value) (ps:List (Nat × Nat × Value)):Option Value:=(Z5d z ps).bind fun cs=>some (.agg cs.toArray)
def Z67 (h:H) (id sz by':Nat) (s x:Value):Option (Value × H):=(Z0W h sz x).bind fun r=>appTo h id sz by' s r.1 r.2
def mkS (sz by':Nat) (z:List Value) (l c:Value):Option (List Value × Nat × Nat) :=
 (ZlI l).bind fun l=>(ZlI c).bind fun c =>
  cond (decide (0<=l) && decide (l<=c) && decide ((by':Int)*c<=281474976710656) && decide (c<=281474976710656) && true && true)
   (some (Z19 z c.toNat,l.toNat,c.toNat)) none
def Zin (k:IntKind) (x:Value):Option Value :=
 match x with
 | .int _ n=>some (.int k (k.wrap n))
 | _=>none
end Go.Ab

namespace Go.Ab
open Go
variable {H:Type} [HeapC H] {P:Program}
structure LB where
 loop:Nat->Option (List Nat × ACode × Nat)
 rng:Nat->List Nat->Option (List Nat × ACode × ACode)
def Z05 (K:LB) (nt:Nat):ACode->Prop
 | .seq a b=>Z05 K nt a/\Z05 K nt b
 | .cond _ a b=>Z05 K nt a/\Z05 K nt b
 | .block _ a=>Z05 K nt a
 | .join _ a=>Z05 K nt a
 | .loop j lin fr _ b=>fr=[]/\K.loop j=some (lin,b,nt)
 | .rangeFunc _ lin fr _ _ ps a b=>fr=[]/\K.rng nt ps.toList=some (lin,a,b)
 | _=>True
def KeyOK (K:LB):Key->Prop
 | .fn _=>True
 | .lp j lin fr b nt _=>fr=[]/\K.loop j=some (lin,b,nt)
 | .rnd nt lin fr params _ a b=>fr=[]/\K.rng nt params=some (lin,a,b)
def Z6b (K:LB) (h:H):Prop:=∀ i st,HeapC.get h i=some (.loop st)->st.fr=[]/\K.rng st.nt st.params=some (st.lin,st.assign,st.body)
def NoL (h h':H):Prop:=∀ i st,HeapC.get h' i=some (.loop st)->HeapC.get h i=some (.loop st)
theorem NoL.refl (h:H):NoL h h:=fun _ _ e=>e
theorem NoL.trans {a b c:H} (h:NoL a b) (k:NoL b c):NoL a c:=fun i st e=>h i st (k i st e)
theorem NoL.set {h:H} {i:Nat} {b:ABlk} (hb:∀ st,b ≠ .loop st):NoL h (HeapC.set h i b):=by
 intro j st e
 rw [HeapC.get_set] at e
 split at e
 · cases e; exact absurd rfl (hb st)
 · exact e
theorem NoL.del {h:H} {i:Nat}:NoL h (HeapC.del h i):=by
 intro j st e
 rw [HeapC.get_del] at e
 split at e
 · cases e
 · exact e
theorem NoL.inv {K:LB} {h h':H} (n:NoL h h') (hi:Z6b K h):Z6b K h':=fun i st e=>hi i st (n i st e)
theorem NoL.wr {h h':H} {i off:Nat} {xs:List Value} (e:Z1N h i off xs=some h'):NoL h h':=by
 unfold Z1N at e
 split at e
 · obtain ⟨_,e⟩:=Z02 e; cases e; exact NoL.set (fun st=>by simp)
 · cases e
theorem NoL.store {t:TypeId} {h h':H} {p x:Value} (e:Zab P h t p x=some h'):NoL h h':=by
 simp only [Zab,stN,Option.bind_eq_some_iff] at e
 obtain ⟨n,_,a,_,e⟩:=e
 obtain ⟨_,e⟩:=Z02 e
 exact NoL.wr e
theorem NoL.mapUpdate {t:TypeId} {h h':H} {m k v:Value} (e:Z0T P h t m k v=some h'):NoL h h':=by
 simp only [Z0T,Option.bind_eq_some_iff] at e
 obtain ⟨ke,_,e⟩:=e
 obtain ⟨_,e⟩:=Z02 e
 split at e
 · split at e
   · simp only [Option.bind_eq_some_iff] at e
     obtain ⟨r,_,e⟩:=e
     split at e
     · split at e
       · obtain ⟨_,e⟩:=Z02 e; cases e; exact NoL.set (fun st=>by simp)
       · cases e
     · cases e; exact NoL.set (fun st=>by simp)
   · cases e
 · cases e
theorem NoL.grow {h:H} {id sz by':Nat} {base:Option Addr} {len need:Nat} {new:List Value} {r:Value × H} (e:Z3u h id sz by' base len need new=some r):NoL h r.2:=by
 unfold Z3u at e
 obtain ⟨_,e⟩:=Z02 e
 split at e
 · obtain ⟨_,e⟩:=Z02 e; cases e; exact NoL.set (fun st=>by simp)
 · simp only [Option.bind_eq_some_iff] at e
   obtain ⟨old,_,e⟩:=e
   split at e
   · split at e
     · cases e; exact NoL.set (fun st=>by simp)
     · obtain ⟨_,e⟩:=Z02 e; cases e; exact (NoL.set (fun st=>by simp)).trans (NoL.set (fun st=>by simp))
   · cases e
 · cases e
theorem NoL.appTo {h:H} {id sz by':Nat} {s:Value} {new:List Value} {n:Nat} {r:Value × H} (e:appTo h id sz by' s new n=some r):NoL h r.2:=by
 unfold Ab.appTo at e
 split at e
 · rename_i base len cap
   cases hb:Nat.ble (len+n) cap with
   | true =>
    rw [hb] at e
    simp only [cond_true] at e
    split at e
    · cases hc:Nat.beq new.length 0 with
      | true=>rw [hc] at e; cases e; exact NoL.refl _
      | false =>
       rw [hc] at e
       simp only [cond_false,Option.bind_eq_some_iff] at e
       obtain ⟨h',hw,e⟩:=e
       cases e
       exact NoL.wr hw
    · obtain ⟨_,e⟩:=Z02 e; cases e; exact NoL.refl _
    · cases e
   | false=>rw [hb] at e; exact NoL.grow e
 · cases e
theorem NoL.builtin {h:H} {id:Nat} {b:Builtin} {ts:List TypeId} {args:List Value} {r:Value × H} (e:Z0K P h id b ts args=some r):NoL h r.2:=by
 cases b with
 | len =>
  simp only [Z0K] at e
  split at e
  · simp only [Option.bind_eq_some_iff] at e; obtain ⟨v,_,e⟩:=e; cases e; exact NoL.refl _
  · cases e
 | max=>simp only [Z0K,Option.bind_eq_some_iff] at e; obtain ⟨v,_,e⟩:=e; cases e; exact NoL.refl _
 | min=>simp only [Z0K,Option.bind_eq_some_iff] at e; obtain ⟨v,_,e⟩:=e; cases e; exact NoL.refl _
 | append =>
  simp only [Z0K,Zbr] at e
  split at e
  · simp only [Option.bind_eq_some_iff] at e
    obtain ⟨el,_,sz,_,by',_,z,_,e⟩:=e
    obtain ⟨_,e⟩:=Z02 e
    split at e
    · simp only [Option.bind_eq_some_iff] at e
      obtain ⟨xd,_,e⟩:=e
      have bs:∀ {t:Bool} {x y:Option (Value × H)},cond t x y=some r->x=some r ∨ y=some r:=by
       intro t x y e
       cases t
       · exact .inr e
       · exact .inl e
      rcases bs e with e | e
      · simp only [Option.bind_eq_some_iff] at e
        obtain ⟨n,_,e⟩:=e
        obtain ⟨_,e⟩:=Z02 e
        exact NoL.appTo e
      · simp only [Option.bind_eq_some_iff] at e
        obtain ⟨q,_,e⟩:=e
        exact NoL.appTo e
    · cases e
  · cases e
 | copy =>
  simp only [Z0K,ZlK] at e
  split at e
  · simp only [Option.bind_eq_some_iff] at e
    obtain ⟨el,_,sz,_,e⟩:=e
    split at e
    · obtain ⟨_,e⟩:=Z02 e; cases e; exact NoL.refl _
    · simp only [Option.bind_eq_some_iff] at e
      obtain ⟨q,_,h',hw,e⟩:=e
      cases e
      exact NoL.wr hw
    · cases e
  · cases e
 | clear =>
  simp only [Z0K] at e
  split at e
  · simp only [Option.bind_eq_some_iff] at e
    obtain ⟨_,_,e⟩:=e
    unfold Zf0 at e
    split at e
    · split at e
      · cases e; exact NoL.refl _
      · simp only [Option.bind_eq_some_iff] at e
        obtain ⟨el,_,sz,_,z,_,e⟩:=e
        obtain ⟨_,e⟩:=Z02 e
        simp only [Option.bind_eq_some_iff] at e
        obtain ⟨h',hw,e⟩:=e
        cases e
        exact NoL.wr hw
      · cases e
    · cases e
  · cases e
 | _=>simp [Z0K] at e
theorem ZgZ {h:H} {c:Nat} {v:Option Value} {r:Value × H × Nat} (e:Z6e h c v=some r):r.2.1=h:=by
 simp only [Z6e,Option.bind_eq_some_iff] at e
 obtain ⟨x,_,e⟩:=e
 cases e
 rfl
theorem Zlt {o:Orc H} {id:Nat} {tm:Tm} {h:H} {c:Nat} {op:Op} {r:Value × H × Nat} (hop:∀ k,op ≠ .call k) (e:Z0k P o id tm h c op=some r):NoL h r.2.1:=by
 have R1:∀ {v:Option Value},Z6e h c v=some r->NoL h r.2.1:=fun e=>by rw [ZgZ e]; exact NoL.refl _
 cases op with
 | call k=>exact absurd rfl (hop k)
 | move x=>exact R1 e
 | assign x=>exact R1 e
 | pick x a b =>
  simp only [Z0k,Option.bind_eq_some_iff] at e
  obtain ⟨_,_,_,_,_,_,e⟩:=e
  split at e
  · cases e; exact NoL.refl _
  · cases e
 | alloc t =>
  simp only [Z0k,Option.bind_eq_some_iff] at e
  obtain ⟨_,_,e⟩:=e
  obtain ⟨_,e⟩:=Z02 e
  cases e
  exact NoL.set (fun st=>by simp)
 | box t x =>
  simp only [Z0k,Option.bind_eq_some_iff] at e
  obtain ⟨_,_,e⟩:=e
  obtain ⟨_,e⟩:=Z02 e
  cases e
  exact NoL.set (fun st=>by simp)
 | build t ps=>simp only [Z0k,Option.bind_eq_some_iff] at e; obtain ⟨_,_,e⟩:=e; exact R1 e
 | buildSlice t l ps =>
  simp only [Z0k,Option.bind_eq_some_iff] at e
  obtain ⟨_,_,_,_,e⟩:=e
  cases e
  exact NoL.set (fun st=>by simp)
 | load t a=>simp only [Z0k,Option.bind_eq_some_iff] at e; obtain ⟨_,_,e⟩:=e; exact R1 e
 | store t a x =>
  simp only [Z0k,Option.bind_eq_some_iff] at e
  obtain ⟨_,_,_,_,h',hs,e⟩:=e
  cases e
  exact NoL.store hs
 | nilCheck x=>simp only [Z0k,Option.bind_eq_some_iff] at e; obtain ⟨_,_,e⟩:=e; exact R1 e
 | binOp b t x y u=>simp only [Z0k,Option.bind_eq_some_iff] at e; obtain ⟨_,_,_,_,e⟩:=e; exact R1 e
 | unOp u t x=>simp only [Z0k,Option.bind_eq_some_iff] at e; obtain ⟨_,_,e⟩:=e; exact R1 e
 | convert s d x=>simp only [Z0k,Option.bind_eq_some_iff] at e; obtain ⟨_,_,_,_,e⟩:=e; exact R1 e
 | sliceToArrayPointer t x=>simp only [Z0k,Option.bind_eq_some_iff] at e; obtain ⟨_,_,e⟩:=e; exact R1 e
 | makeInterface t x =>
  simp only [Z0k,Option.bind_eq_some_iff] at e
  obtain ⟨_,_,e⟩:=e
  split at e
  · cases e
  · cases e
  · cases e; exact NoL.refl _
 | makeFunc f a b =>
  simp only [Z0k] at e
  split at e
  · simp only [Option.bind_eq_some_iff] at e; obtain ⟨_,_,_,_,e⟩:=e; cases e; exact NoL.refl _
  · cases e
 | makeMap t x =>
  simp only [Z0k] at e
  split at e
  · cases e; exact NoL.set (fun st=>by simp)
  · simp only [Option.bind_eq_some_iff] at e; obtain ⟨_,_,_,_,_,_,e⟩:=e; cases e; exact NoL.set (fun st=>by simp)
 | makeSlice t l k =>
  simp only [Z0k,Option.bind_eq_some_iff] at e
  obtain ⟨_,_,_,_,_,_,e⟩:=e
  cases e
  exact NoL.set (fun st=>by simp)
 | slice t x lo hi mx=>simp only [Z0k,Option.bind_eq_some_iff] at e; obtain ⟨_,_,_,_,_,_,_,_,e⟩:=e; exact R1 e
 | fieldAddr t x f=>simp only [Z0k,Option.bind_eq_some_iff] at e; obtain ⟨_,_,e⟩:=e; exact R1 e
 | field t x f=>simp only [Z0k,Option.bind_eq_some_iff] at e; obtain ⟨_,_,e⟩:=e; exact R1 e
 | indexAddr t x i=>simp only [Z0k,Option.bind_eq_some_iff] at e; obtain ⟨_,_,_,_,e⟩:=e; exact R1 e
 | index t x i=>simp only [Z0k,Option.bind_eq_some_iff] at e; obtain ⟨_,_,_,_,e⟩:=e; exact R1 e
 | lookup t m k ok=>simp only [Z0k,Option.bind_eq_some_iff] at e; obtain ⟨_,_,_,_,e⟩:=e; exact R1 e
 | mapUpdate t m k v =>
  simp only [Z0k,Option.bind_eq_some_iff] at e
  obtain ⟨_,_,_,_,_,_,h',hs,e⟩:=e
  cases e
  exact NoL.mapUpdate hs
 | insert t m k v =>
  simp only [Z0k,Option.bind_eq_some_iff] at e
  obtain ⟨_,_,_,_,_,_,h',hs,e⟩:=e
  cases e
  exact NoL.mapUpdate hs
 | extract t i =>
  simp only [Z0k,Option.bind_eq_some_iff] at e
  obtain ⟨_,_,e⟩:=e
  split at e
  · simp only [Option.bind_eq_some_iff] at e; obtain ⟨_,_,e⟩:=e; cases e; exact NoL.refl _
  · cases e
 | _=>cases e
def Zbs (K:LB) (o q:Orc H):Prop:=∀ key args h c df r,KeyOK K key->Z6b K h->o key args h c df=some r->q key args h c df=some r/\Z6b K r.h
section
variable {K:LB} {o q:Orc H}
theorem Zgw (hG:Zbs K o q) {h:H} {c:Nat} {fv:Value} {args:List Value} {r:Value × H × Nat} (hi:Z6b K h) (e:Z1S o h c fv args=some r):Z1S q h c fv args=some r/\Z6b K r.2.1:=by
 cases fv with
 | func f first cap =>
  cases f with
  | func g =>
   simp only [Z1S,Option.bind_eq_some_iff] at e ⊢
   obtain ⟨x,hx,e⟩:=e
   obtain ⟨h1,h2⟩:=hG (.fn g) _ _ _ _ _ trivial hi hx
   refine ⟨⟨x,h1,e⟩, ?_⟩
   split at e
   · cases e; exact h2
   · cases e
  | yield l =>
   simp only [Z1S] at e ⊢
   obtain ⟨h0,e⟩:=Z02 e
   rw [h0]
   split at e
   · rename_i st hg
     obtain ⟨h1,e⟩:=Z02 e
     simp only [Option.bind_eq_some_iff] at e
     obtain ⟨x,hx,e⟩:=e
     obtain ⟨h2,h3⟩:=hG (.rnd _ _ _ _ _ _ _) _ _ _ _ _ (hi _ _ hg) hi hx
     simp only [h1,cond_true,Option.bind_eq_some_iff]
     refine ⟨⟨x,h2,e⟩, ?_⟩
     split at e
     · cases e; exact h3
     · cases e
   · cases e
  | _=>simp [Z1S] at e
 | _=>simp [Z1S] at e
theorem Zi4 (hG:Zbs K o q) {id:Nat} {tm:Tm} {h:H} {c:Nat} {op:Op} {r:Value × H × Nat} (hi:Z6b K h) (e:Z0k P o id tm h c op=some r):Z0k P q id tm h c op=some r/\Z6b K r.2.1:=by
 cases op with
 | call k =>
  simp only [Z0k,Option.bind_eq_some_iff] at e ⊢
  obtain ⟨args,ha,e⟩:=e
  cases hk:k.callee with
  | value f =>
   rw [hk] at e
   simp only [Option.bind_eq_some_iff] at e
   obtain ⟨fv,hf,e⟩:=e
   obtain ⟨h1,h2⟩:=Zgw hG hi e
   exact ⟨⟨args,ha,by simp only [hf,Option.bind_some]; exact h1⟩,h2⟩
  | builtin b =>
   rw [hk] at e
   refine ⟨⟨args,ha,e⟩, ?_⟩
   simp only [Option.bind_eq_some_iff] at e
   obtain ⟨x,hx,e⟩:=e
   cases e
   exact (NoL.builtin hx).inv hi
  | invoke _ _=>rw [hk] at e; cases e
 | _=>exact ⟨e,(Zlt (by intro k hk; cases hk) e).inv hi⟩
theorem Z85 (hG:Zbs K o q) {ops:Array Oper} {base i nt:Nat} {tm:Tm} {h:H} {c:Nat} {op:Oper} {r:Value × H × Nat} (hi:Z6b K h) (e:Z0U P o ops base i nt tm h c op=some r) :
 Z0U P q ops base i nt tm h c op=some r/\Z6b K r.2.1:=by
 simp only [Z0U,Option.bind_eq_some_iff] at e ⊢
 obtain ⟨w,hw,e⟩:=e
 obtain ⟨h0,e⟩:=Z02 e
 cases w with
 | true =>
  obtain ⟨h1,h2⟩:=Zi4 hG hi e
  exact ⟨⟨true,hw,by rw [h0]; exact h1⟩,h2⟩
 | false =>
  refine ⟨⟨false,hw,by rw [h0]; exact e⟩, ?_⟩
  cases e
  exact hi
theorem Z5B (hG:Zbs K o q) {ops:Array Oper} {base nt:Nat}:∀ {l:List Oper} {i:Nat} {tm:Tm} {h:H} {c:Nat} {r:Tm × H × Nat},Z6b K h->Z1a P o ops base nt l i tm h c=some r →
 Z1a P q ops base nt l i tm h c=some r/\Z6b K r.2.1
 | [],i,tm,h,c,r,hi,e=>⟨e,by cases e; exact hi⟩
 | op::l,i,tm,h,c,r,hi,e=>by
  simp only [Z1a,Option.bind_eq_some_iff] at e ⊢
  obtain ⟨x,hx,e⟩:=e
  obtain ⟨h1,h2⟩:=Z85 hG hi hx
  obtain ⟨h3,h4⟩:=Z5B hG h2 e
  exact ⟨⟨x,h1,h3⟩,h4⟩
theorem Z7y (hG:Zbs K o q) {ops:Array Oper} {base nt:Nat}:∀ {l:List Oper} {i:Nat} {tm:Tm} {h:H} {c:Nat} {r:Tm × H × Nat × List (Option Nat × H)},Z6b K h →
 Z11 P o ops base nt l i tm h c=some r->Z11 P q ops base nt l i tm h c=some r/\Z6b K r.2.1
 | [],i,tm,h,c,r,hi,e=>⟨e,by cases e; exact hi⟩
 | op::l,i,tm,h,c,r,hi,e=>by
  simp only [Z11,Option.bind_eq_some_iff] at e ⊢
  obtain ⟨x,hx,y,hy,e⟩:=e
  obtain ⟨h1,h2⟩:=Z85 hG hi hx
  obtain ⟨h3,h4⟩:=Z7y hG h2 hy
  refine ⟨⟨x,h1,y,h3,e⟩, ?_⟩
  cases e
  exact h4
theorem Zcj (hG:Zbs K o q) {ops:Array Oper} {draw:Bool} {nt:Nat} {tm:Tm} {h:H} {c:Nat} {r:Tm × H × Nat} (hi:Z6b K h) (e:Z4y P o ops draw nt tm h c=some r) :
 Z4y P q ops draw nt tm h c=some r/\Z6b K r.2.1:=by
 simp only [Z4y] at e ⊢
 cases draw with
 | false=>exact Z5B hG hi e
 | true =>
  obtain ⟨h0,e⟩:=Z02 e
  simp only [cond_true,h0]
  cases h1:(lws ops).isEmpty with
  | true=>rw [h1] at e; exact Z5B hG hi e
  | false =>
   rw [h1] at e
   simp only [cond_false,Option.bind_eq_some_iff] at e ⊢
   obtain ⟨x,hx,e⟩:=e
   obtain ⟨h2,h3⟩:=Z7y hG hi hx
   refine ⟨⟨x,h2,e⟩, ?_⟩
   obtain ⟨_,e⟩:=Z02 e
   cases e
   exact h3
theorem Z8O {β γ:Type} {e:Ex} {f:Ex->Option β} {g:Ex->Option γ} {x:β}:∀ {l:List Ex},Zm6 e f l=some x->f e=some x/\Zm6 e g l=g e
 | [],h=>by cases h
 | y::l,h=>by
  simp only [Zm6] at h ⊢
  cases hb:Z0t e y with
  | true=>rw [hb] at h; rw [Zbg hb]; exact ⟨h,rfl⟩
  | false=>rw [hb] at h; exact Z8O h
theorem Zcn (hG:Zbs K o q) {nt:Nat} {rd:Option Nat} {lin:List Nat} {ps:Array Tmp} {a b:ACode} {fv:Value} {vs:List Value} {h:H} {c:Nat} {df:List Nat} {r:Ex × H × Nat × List Nat} (hi:Z6b K h)
 (hk:K.rng nt ps.toList=some (lin,a,b)) (e:Z4N o nt rd lin [] ps a b fv vs h c df=some r):Z4N q nt rd lin [] ps a b fv vs h c df=some r/\Z6b K r.2.1:=by
 unfold Z4N at e ⊢
 split at e
 · rename_i g first cap
   simp only [Option.bind_eq_some_iff] at e ⊢
   obtain ⟨hd,hhd,x,hx,e⟩:=e
   have hi1:Z6b K hd.1:=by
    unfold Z2p at hhd
    split at hhd
    · cases hhd; exact (NoL.set (fun st=>by simp)).inv hi
    · split at hhd
      · cases hhd; exact hi
      · cases hhd
   have hi2:Z6b K (HeapC.set hd.1 (256*c) (.loop { state:=.ready,pending:=none,nt:=nt,vals:=vs,lin:=lin,fr:=[],params:=ps.toList,assign:=a,body:=b,dfr:=hd.2 })):=by
    intro i st hst
    rw [HeapC.get_set] at hst
    split at hst
    · cases hst; exact ⟨rfl,hk⟩
    · exact hi1 i st hst
   obtain ⟨h1,h2⟩:=hG (.fn g) _ _ _ _ _ trivial hi2 hx
   refine ⟨⟨hd,hhd,x,h1,e⟩, ?_⟩
   split at e
   · rename_i st hg
     cases hb:decide (st.state=LoopState.busy) with
     | true=>rw [hb] at e; cases e
     | false =>
      rw [hb] at e
      simp only [cond_false,Option.bind_eq_some_iff] at e
      obtain ⟨y,_,e⟩:=e
      cases e
      exact NoL.del.inv h2
   · cases e
 · cases e
theorem Zat (hG:Zbs K o q) {nt:Nat} {rd:Option Nat}:∀ {code:ACode},Z05 K nt code -> ∀ {β:Type} {tm:Tm} {h:H} {c:Nat} {df:List Nat} {Kf:Kx H β} {x:β},Z6b K h->jx P o nt rd code tm h c df Kf=some x →
 ∃ e tm1 h1 c1 df1,Kf e tm1 h1 c1 df1=some x/\Z6b K h1 /\ ∀ {γ:Type} (Kg:Kx H γ),jx P q nt rd code tm h c df Kg=Kg e tm1 h1 c1 df1:=by
 intro code
 induction code with
 | skip=>intro _ β tm h c df Kf x hi e; exact ⟨_,_,_,_,_,e,hi,fun _=>rfl⟩
 | region id ops d =>
  intro _ β tm h c df Kf x hi e
  simp only [jx,Zcm,Option.bind_eq_some_iff] at e
  obtain ⟨y,hy,e⟩:=e
  obtain ⟨h1,h2⟩:=Zcj hG hi hy
  exact ⟨_,_,_,_,_,e,h2,fun Kg=>by simp only [jx,Zcm,h1,Option.bind_some]⟩
 | seq a b iha ihb =>
  intro hok β tm h c df Kf x hi e
  simp only [jx] at e
  obtain ⟨e1,tm1,h1,c1,df1,hk,hi1,hg⟩:=iha hok.1 hi e
  cases e1 with
  | normal =>
   obtain ⟨e2,tm2,h2,c2,df2,hk2,hi2,hg2⟩:=ihb hok.2 hi1 hk
   exact ⟨_,_,_,_,_,hk2,hi2,fun Kg=>by simp only [jx]; rw [hg]; exact hg2 Kg⟩
  | exit i=>exact ⟨_,_,_,_,_,hk,hi1,fun Kg=>by simp only [jx]; rw [hg]⟩
  | ret=>exact ⟨_,_,_,_,_,hk,hi1,fun Kg=>by simp only [jx]; rw [hg]⟩
 | cond y a b iha ihb =>
  intro hok β tm h c df Kf x hi e
  simp only [jx,Option.bind_eq_some_iff] at e
  obtain ⟨v,hv,e⟩:=e
  split at e
  · rename_i t
    cases t
    · obtain ⟨e1,tm1,h1,c1,df1,hk,hi1,hg⟩:=ihb hok.2 hi e
      exact ⟨_,_,_,_,_,hk,hi1,fun Kg=>by simp only [jx,hv,Option.bind_some,cond_false]; exact hg Kg⟩
    · obtain ⟨e1,tm1,h1,c1,df1,hk,hi1,hg⟩:=iha hok.1 hi e
      exact ⟨_,_,_,_,_,hk,hi1,fun Kg=>by simp only [jx,hv,Option.bind_some,cond_true]; exact hg Kg⟩
  · cases e
 | block id a ih =>
  intro hok β tm h c df Kf x hi e
  simp only [jx] at e
  obtain ⟨e1,tm1,h1,c1,df1,hk,hi1,hg⟩:=ih hok hi e
  cases e1 with
  | normal=>exact ⟨_,_,_,_,_,hk,hi1,fun Kg=>by simp only [jx]; rw [hg]⟩
  | exit i =>
   cases hb:Nat.beq i id with
   | true=>simp only [hb] at hk; exact ⟨_,_,_,_,_,hk,hi1,fun Kg=>by simp only [jx]; rw [hg]; simp only [hb,cond_true]⟩
   | false=>simp only [hb] at hk; exact ⟨_,_,_,_,_,hk,hi1,fun Kg=>by simp only [jx]; rw [hg]; simp only [hb,cond_false]⟩
  | ret=>exact ⟨_,_,_,_,_,hk,hi1,fun Kg=>by simp only [jx]; rw [hg]⟩
 | loop j lin fr outs b _ =>
  intro hok β tm h c df Kf x hi e
  simp only [jx,Option.bind_eq_some_iff] at e
  obtain ⟨vs,hv,r,hr,e⟩:=e
  obtain ⟨h1,h2⟩:=hG (.lp j lin fr b nt rd) _ _ _ _ _ hok hi hr
  refine ⟨r.e,tmL lin r.vs,r.h,r.c,r.df, ?_,h2,fun {γ} Kg=>?_⟩
  · exact (Z8O (γ:=β) (g:=fun _=>none) e).1
  · simp only [jx,hv,Option.bind_some,h1]
    exact (Z8O (g:=fun e=>Kg e (tmL lin r.vs) r.h r.c r.df) e).2
 | rangeFunc j lin fr outs f ps a b _ _ =>
  intro hok β tm h c df Kf x hi e
  obtain ⟨rfl,hk⟩:=hok
  simp only [jx,Option.bind_eq_some_iff] at e
  obtain ⟨fv,hf,vs,hv,r,hr,e⟩:=e
  obtain ⟨h1,h2⟩:=Zcn hG hi hk hr
  refine ⟨r.1,tm,r.2.1,r.2.2.1,r.2.2.2, ?_,h2,fun {γ} Kg=>?_⟩
  · exact (Z8O (γ:=β) (g:=fun _=>none) e).1
  · simp only [jx,hf,hv,Option.bind_some,h1]
    exact (Z8O (g:=fun e=>Kg e tm r.2.1 r.2.2.1 r.2.2.2) e).2
 | exit id=>intro _ β tm h c df Kf x hi e; exact ⟨_,_,_,_,_,e,hi,fun _=>rfl⟩
 | ret=>intro _ β tm h c df Kf x hi e; exact ⟨_,_,_,_,_,e,hi,fun _=>rfl⟩
 | bad _=>intro _ β tm h c df Kf x hi e; cases e
 | join lays a ih =>
  intro hok β tm h c df Kf x hi e
  simp only [jx,Option.bind_eq_some_iff] at e
  obtain ⟨r,hr,e⟩:=e
  obtain ⟨e1,tm1,h1,c1,df1,hk,hi1,hg⟩:=ih hok hi hr
  have hk':=hk
  simp only [Option.bind_eq_some_iff] at hk'
  obtain ⟨l,hl,vs,hvs,hk'⟩:=hk'
  cases hk'
  refine ⟨e1,tmL l vs,h1,c1,df1, ?_,hi1,fun {γ} Kg=>?_⟩
  · obtain ⟨lay,h3,h4⟩:=Z5b e
    simp only at h3 h4
    rw [hl] at h3
    cases h3
    exact h4
  · simp only [jx]
    rw [hg]
    simp only [hl,hvs,Option.bind_some]
    obtain ⟨lay,h3,h4⟩:=Z5b e
    simp only at h3 h4
    rw [hl] at h3
    cases h3
    clear hg hk hr h4
    have:∀ {ls:List (Ex × List Nat)} {l:List Nat},ZnS e1 ls=some l->Zgr ({ e:=e1,vs:=vs,h:=h1,c:=c1,df:=df1 }:Rt H) Kg ls=Kg e1 (tmL l vs) h1 c1 df1:=by
     intro ls
     induction ls with
     | nil=>intro l h; cases h
     | cons y ls ih2 =>
      intro l h
      simp only [ZnS] at h
      simp only [Zgr]
      cases hb:Z0t e1 y.1 with
      | true=>rw [hb] at h; cases h; rw [Zbg hb]; rfl
      | false=>rw [hb] at h; exact ih2 h
    exact this hl
end
structure Tab (H:Type) where
 F:FuncId->Option (Orc H->List Value->H->Nat->Option (Rt H))
 L:Nat->Option (Orc H->Option Nat->List Value->H->Nat->List Nat->Option (Rt H))
 R:Nat->List Nat->Option (Orc H->Nat->List Value->H->Nat->Option (Rt H))
noncomputable def evT (T:Tab H) (n:Nat):Orc H :=
 Nat.rec (motive:=fun _=>Orc H) (fun _ _ _ _ _=>none)
  (fun _ o key args h c df=>Key.rec (motive:=fun _=>Option (Rt H))
   (fun f=>(T.F f).bind fun F=>F o args h c)
   (fun j lin fr b nt rd=>(T.L j).bind fun B=>(B o rd args h c df).bind fun q =>
    match q.e with
    | .normal=>o (.lp j lin fr b nt rd) q.vs q.h q.c q.df
    | .exit i=>some { q with e:=.exit i }
    | .ret=>some { q with e:=.ret })
   (fun nt _ _ params l _ _=>(T.R nt params).bind fun D=>D o l args h c) key) n
theorem Zbh (T:Tab H) (n:Nat) (key:Key) (args:List Value) (h:H) (c:Nat) (df:List Nat):evT T (n+1) key args h c df =
 match key with
 | .fn f=>(T.F f).bind fun F=>F (evT T n) args h c
 | .lp j lin fr b nt rd=>(T.L j).bind fun B=>(B (evT T n) rd args h c df).bind fun q =>
  match q.e with
  | .normal=>evT T n (.lp j lin fr b nt rd) q.vs q.h q.c q.df
  | .exit i=>some { q with e:=.exit i }
  | .ret=>some { q with e:=.ret }
 | .rnd nt _ _ params l _ _=>(T.R nt params).bind fun D=>D (evT T n) l args h c:=by
 cases key <;> rfl
structure TabOK (P:Program) (bk:FuncId->Option AFun) (K:LB) (T:Tab H):Prop where
 F:∀ f F,T.F f=some F -> ∃ a,bk f=some a/\a.fr=[]/\Z05 K a.nt a.code /\ ∀ o args h c r,F o args h c=some r →
  Nat.ble args.length a.nt=true/\jx P o a.nt none a.code (Z0g (List.range args.length) args) h c [] (Kfn P a.res)=some r
 L:∀ j B lin b nt,T.L j=some B->K.loop j=some (lin,b,nt)->Z05 K nt b /\ ∀ o rd vs h c df q,B o rd vs h c df=some q->jx P o nt rd b (Z0g lin vs) h c df (Klp lin)=some q
 R:∀ nt ps D lin a b,T.R nt ps=some D->K.rng nt ps=some (lin,a,b)->Z05 K nt a/\Z05 K nt b /\ ∀ o l vs h c r,D o l vs h c=some r →
  jx P o nt (some l) a (Z0g (ps++lin) vs) h c [] (ZlO P o nt l b)=some r
theorem ZnQ {K:LB} {res:List ResultVar} {e:Ex} {tm:Tm} {h:H} {c:Nat} {df:List Nat} {r:Rt H} (hi:Z6b K h) (hk:Kfn P res e tm h c df=some r):Z6b K r.h:=by
 have tk:∀ (ds:List Nat) (h h1:H),Z07 h ds=some h1->NoL h h1:=by
  intro ds
  induction ds with
  | nil=>intro h h1 e; cases e; exact NoL.refl _
  | cons d ds ih =>
   intro h h1 e
   simp only [Z07] at e
   split at e
   · exact NoL.del.trans (ih _ _ e)
   · cases e
 cases e with
 | exit i=>cases hk
 | normal =>
  simp only [Kfn,Z4M,Option.bind_eq_some_iff] at hk
  obtain ⟨h1,ht,vs,_,hk⟩:=hk
  cases hk
  exact (tk _ _ _ ht).inv hi
 | ret =>
  simp only [Kfn,Z4M,Option.bind_eq_some_iff] at hk
  obtain ⟨h1,ht,vs,_,hk⟩:=hk
  cases hk
  exact (tk _ _ _ ht).inv hi
theorem ZbC {K:LB} {h h':H} {l:Nat} {s:LoopState} {pd:Option Code} (hi:Z6b K h) (e:Z0I h l s pd=some h'):Z6b K h':=by
 unfold Z0I at e
 split at e
 · rename_i st hg
   cases e
   intro i st' h'
   rw [HeapC.get_set] at h'
   split at h'
   · cases h'; exact hi l st hg
   · exact hi _ _ h'
 · cases e
theorem Zde {K:LB} {h h':H} {l:Nat} (hi:Z6b K h) (e:Z2m h l=some h'):Z6b K h':=by
 unfold Z2m at e
 split at e
 · rename_i st hg
   obtain ⟨_,e⟩:=Z02 e
   cases e
   intro i st' h'
   rw [HeapC.get_set] at h'
   split at h'
   · cases h'; exact hi l st hg
   · exact hi _ _ h'
 · cases e
inductive BT (α:Type) where
 | leaf
 | node (k:Nat) (v:α) (l r:BT α)
noncomputable def BT.look {α:Type} (t:BT α) (f:Nat):Option α :=
 BT.rec (motive:=fun _=>Option α) none (fun k v _ _ l r=>cond (Nat.beq f k) (some v) (cond (Nat.blt f k) l r)) t
theorem BT.look_node {α:Type} (k:Nat) (v:α) (l r:BT α) (f:Nat):(BT.node k v l r).look f=cond (Nat.beq f k) (some v) (cond (Nat.blt f k) (l.look f) (r.look f)):=rfl
def BT.All {α:Type} (Q:Nat->α->Prop):BT α->Prop
 | .leaf=>True
 | .node k v l r=>Q k v/\l.All Q/\r.All Q
theorem BT.look_all {α:Type} {Q:Nat->α->Prop}:∀ {t:BT α},t.All Q -> ∀ {f:Nat} {v:α},t.look f=some v->Q f v
 | .leaf,_,f,v,e=>by cases e
 | .node k w l r,h,f,v,e=>by
  rw [BT.look_node] at e
  cases hb:Nat.beq f k with
  | true=>rw [hb] at e; cases e; rw [Nat.eq_of_beq_eq_true hb]; exact h.1
  | false =>
   rw [hb] at e
   cases hc:Nat.blt f k with
   | true=>rw [hc] at e; exact look_all h.2.1 e
   | false=>rw [hc] at e; exact look_all h.2.2 e
def nlEq:List Nat->List Nat->Bool
 | [],[]=>true
 | x::xs,y::ys=>cond (Nat.beq x y) (nlEq xs ys) false
 | _,_=>false
theorem Zhc:∀ {a b:List Nat},nlEq a b=true->a=b
 | [],[],_=>rfl
 | x::xs,y::ys,h=>by
  simp only [nlEq] at h
  cases hb:Nat.beq x y with
  | true=>rw [hb] at h; rw [Nat.eq_of_beq_eq_true hb,Zhc h]
  | false=>rw [hb] at h; cases h
 | [],y::ys,h=>by cases h
 | x::xs,[],h=>by cases h
def Zhg {α:Type} (nt:Nat) (ps:List Nat):List (Nat × List Nat × α)->Option α
 | []=>none
 | x::xs=>cond (cond (Nat.beq nt x.1) (nlEq ps x.2.1) false) (some x.2.2) (Zhg nt ps xs)
def AllR {α:Type} (Q:Nat->List Nat->α->Prop):List (Nat × List Nat × α)->Prop
 | []=>True
 | x::xs=>Q x.1 x.2.1 x.2.2/\AllR Q xs
theorem ZbN {α:Type} {Q:Nat->List Nat->α->Prop} {nt:Nat} {ps:List Nat}:∀ {l:List (Nat × List Nat × α)},AllR Q l -> ∀ {v:α},Zhg nt ps l=some v->Q nt ps v
 | [],_,v,e=>by cases e
 | x::xs,h,v,e=>by
  simp only [Zhg] at e
  cases hb:cond (Nat.beq nt x.1) (nlEq ps x.2.1) false with
  | false=>rw [hb] at e; exact ZbN h.2 e
  | true =>
   rw [hb] at e
   cases e
   cases hc:Nat.beq nt x.1 with
   | false=>rw [hc] at hb; cases hb
   | true=>rw [hc] at hb; rw [Nat.eq_of_beq_eq_true hc,Zhc hb]; exact h.1
def Z0w (P:Program) (f:FuncId) (a:AFun):Prop :=
 ∃ fn c,P.funcs[f]? = some fn/\fn.body=some c/\(fn.name == "runtime.NumGoroutine")=false/\Z3n a.code=c/\a.nt=fn.ntmps/\a.res=fn.results.toList
def FE (P:Program) (bk:FuncId->Option AFun) (K:LB) (f:FuncId) (F:Orc H->List Value->H->Nat->Option (Rt H)):Prop :=
 ∃ a,bk f=some a/\a.fr=[]/\Z05 K a.nt a.code /\ ∀ o args h c r,F o args h c=some r →
  Nat.ble args.length a.nt=true/\jx P o a.nt none a.code (Z0g (List.range args.length) args) h c [] (Kfn P a.res)=some r
def LE (P:Program) (K:LB) (j:Nat) (B:Orc H->Option Nat->List Value->H->Nat->List Nat->Option (Rt H)):Prop :=
 ∀ lin b nt,K.loop j=some (lin,b,nt)->Z05 K nt b /\ ∀ o rd vs h c df q,B o rd vs h c df=some q->jx P o nt rd b (Z0g lin vs) h c df (Klp lin)=some q
def RE (P:Program) (K:LB) (nt:Nat) (ps:List Nat) (D:Orc H->Nat->List Value->H->Nat->Option (Rt H)):Prop :=
 ∀ lin a b,K.rng nt ps=some (lin,a,b)->Z05 K nt a/\Z05 K nt b /\ ∀ o l vs h c r,D o l vs h c=some r->jx P o nt (some l) a (Z0g (ps++lin) vs) h c [] (ZlO P o nt l b)=some r
end Go.Ab

namespace Go.Ab
open Go
variable {P:Program}
noncomputable def nuD (c:Nat):Mu:=fun i=>if i<256*c then some ⟨i,0,none⟩ else none
theorem Z8p {c i:Nat} (h:i<256*c):nuD c i=some ⟨i,0,none⟩:=by simp [nuD,h]
theorem Zaq {c i:Nat} (h:nuD c i ≠ none):i<256*c:=by
 unfold nuD at h
 split at h
 · assumption
 · exact absurd rfl h
def OkV (c:Nat) (v:Value):Prop:=∃ v',VR (nuD c) v v'
theorem OkV.bool (c:Nat) (b:Bool):OkV c (.bool b):=⟨_,.bool b⟩
theorem OkV.int (c:Nat) (k:IntKind) (n:Int):OkV c (.int k n):=⟨_,.int k n⟩
theorem OkV.str (c:Nat) (s:ByteArray):OkV c (.string s):=⟨_,.str s⟩
theorem OkV.ptr0 (c:Nat):OkV c (.pointer none):=⟨_,.ptr0⟩
theorem OkV.ptr {c i o:Nat} (h:i<256*c):OkV c (.pointer (some ⟨i,o,none⟩)):=⟨_,.ptr (Z8p h)⟩
theorem OkV.ptrTo {c i:Nat} (h:i<256*c):OkV c (ptrTo i):=⟨_,.ptr (Z8p h)⟩
theorem OkV.sl0 (c l k:Nat):OkV c (.slice none l k):=⟨_,.sl0 l k⟩
theorem OkV.sl {c i o l k:Nat} (h:i<256*c):OkV c (.slice (some ⟨i,o,none⟩) l k):=⟨_,.sl (Z8p h) (Nat.le_refl _) (.inl rfl)⟩
theorem OkV.map0 (c:Nat):OkV c (.map none):=⟨_,.map0⟩
theorem OkV.map {c i:Nat} (h:i<256*c):OkV c (.map (some i)):=⟨_,.map (Z8p h)⟩
theorem OkV.nilFunc (c:Nat):OkV c .nilFunc:=⟨_,.nilFunc⟩
theorem OkV.yield {c l:Nat} (h:l<256*c):OkV c (.func (.yield l) #[] #[]):=⟨_,.yield (Z8p h)⟩
def Z1X (c:Nat) (vs:List Value):Prop:=∀ v ∈ vs,OkV c v
theorem Z1X.nil (c:Nat):Z1X c []:=fun _ h=>by cases h
theorem Z1X.cons {c:Nat} {v:Value} {vs:List Value} (h:OkV c v) (hs:Z1X c vs):Z1X c (v::vs):=by
 intro x hx
 rcases List.mem_cons.1 hx with rfl | hx
 · exact h
 · exact hs x hx
theorem Z1X.cons_iff {c:Nat} {v:Value} {vs:List Value}:Z1X c (v::vs) ↔ OkV c v/\Z1X c vs :=
 ⟨fun h=>⟨h v (by simp),fun x hx=>h x (by simp [hx])⟩,fun h=>Z1X.cons h.1 h.2⟩
theorem Z1X.vrs {c:Nat}:∀ {vs:List Value},Z1X c vs -> ∃ ws,VRs (nuD c) vs ws
 | [],_=>⟨[],VRs.nil _⟩
 | v::vs,h=>by
  obtain ⟨v',h1⟩:=h v (by simp)
  obtain ⟨ws,h2⟩:=Z1X.vrs (vs:=vs) (fun x hx=>h x (by simp [hx]))
  exact ⟨v'::ws,VRs.cons h1 h2⟩
theorem OkV.agg {c:Nat} {l:List Value} (h:Z1X c l):OkV c (.agg l.toArray):=by
 obtain ⟨ws,h1⟩:=h.vrs
 exact ⟨.agg ws.toArray,VR.agg_iff.2 (by simpa using h1)⟩
theorem OkV.agg_iff {c:Nat} {l:List Value}:OkV c (.agg l.toArray) ↔ Z1X c l:=by
 refine ⟨fun h=>?_,OkV.agg⟩
 obtain ⟨v',hv⟩:=h
 cases hv with
 | @agg _ ys hs g =>
  intro x hx
  obtain ⟨k,hk⟩:=List.getElem?_of_mem hx
  have hl:k<ys.size:=by
   have:=(List.getElem?_eq_some_iff.1 hk).1
   simp at hs; omega
  exact ⟨_,g k x ys[k] (by simpa using hk) (Array.getElem?_eq_getElem hl)⟩
def OkB (c:Nat):Option ABlk->Prop
 | some (.cells _ _ cs)=>Z1X c cs
 | some (.map es)=>∀ e ∈ es,OkV c e.1/\OkV c e.2
 | some (.loop a)=>Z1X c a.vals/\a.dfr<256*c
 | _=>True
def GcH (c:Nat) (h A:FH):Prop:=∀ i,i<256*c->h.f i=A.f i ∨ OkB c (h.f i)
noncomputable def mrg (c:Nat) (h A:FH):FH:=⟨fun i=>if i<256*c then h.f i else A.f i⟩
def GcOk (A:FH) (c:Nat) (df:List Nat) (r:Rt FH):Prop:=Z1X c r.vs/\r.df=df/\GcH c r.h A
open Classical in
noncomputable def gcR (A:FH) (c:Nat) (df:List Nat) (r:Rt FH):Rt FH :=
 if GcOk A c df r then { e:=r.e,vs:=r.vs,h:=mrg c r.h A,c:=c,df:=df } else r
theorem Zhv {A:FH} {c:Nat} {df:List Nat} {e:Ex} {vs:List Value} {h:FH} {c':Nat} (h1:Z1X c vs) (h2:GcH c h A):gcR A c df { e:=e,vs:=vs,h:=h,c:=c',df:=df } = { e:=e,vs:=vs,h:=mrg c h A,c:=c,df:=df }:=by
 unfold gcR
 rw [if_pos ⟨h1,rfl,h2⟩]
theorem ZmR {A:FH} {c:Nat} {df:List Nat} {r:Rt FH}:(gcR A c df r).e=r.e:=by unfold gcR; split <;> rfl
theorem Zhu {A:FH} {c:Nat} {df:List Nat} {r:Rt FH}:(gcR A c df r).vs=r.vs:=by unfold gcR; split <;> rfl
theorem ZlZ {A:FH} {c:Nat} {df:List Nat} {r:Rt FH}:(gcR A c df r).df=r.df:=by
 unfold gcR
 split
 · rename_i h; exact h.2.1.symm
 · rfl
theorem OkV.on {c:Nat} {μ:Mu} {v v':Value} (h:VR μ v v') (hv:OkV c v):VR (μ.on (fun i=>i<256*c)) v v' :=
 let ⟨_,k⟩:=hv; h.on (fun i=>Zaq) k
theorem OkB.on {c:Nat} {μ:Mu} {m:ME} {hp:Array Obj} {b:Option ABlk} (h:Z6g μ m hp b) (hb:OkB c b):Z6g (μ.on (fun i=>i<256*c)) m hp b:=by
 unfold Z6g at h ⊢
 unfold OkB at hb
 split at h
 · rename_i ro opn cs
   obtain ⟨C,E,fr,h1,h2,h3,h4⟩:=h
   refine ⟨C,E,fr,h1,fun k x hx=>?_,h3,h4⟩
   obtain ⟨y,h5,h6⟩:=h2 k x hx
   exact ⟨y,h5,(hb x (List.mem_of_getElem? hx)).on h6⟩
 · rename_i es
   obtain ⟨es',clk,h1,h2,h3⟩:=h
   refine ⟨es',clk,h1,h2,fun k x y hx hy=>?_⟩
   have a:=h3 k x y hx hy
   have b:=hb x (List.mem_of_getElem? hx)
   exact ⟨b.1.on a.1,b.2.on a.2⟩
 · rename_i a
   obtain ⟨r,h1,h2⟩:=h
   refine ⟨r,h1,⟨h2.state,h2.pending,h2.params,h2.assign,h2.body,h2.size,fun t v e=>?_, ?_⟩⟩
   · obtain ⟨v',h3,h4⟩:=h2.vals t v e
     have hmem:∀ (l:List Nat) (vs:List Value),Z0g l vs t=some v->v ∈ vs:=by
      intro l
      induction l with
      | nil=>intro vs h; simp [Z0g] at h
      | cons x l ih =>
       intro vs h
       cases vs with
       | nil=>simp [Z0g] at h
       | cons u vs =>
        simp only [Z0g] at h
        cases hq:Nat.beq t x with
        | true=>rw [hq] at h; cases h; simp
        | false=>rw [hq] at h; simp [ih vs h]
     exact ⟨v',h3,(hb.1 v (hmem _ _ e)).on h4⟩
   · obtain ⟨m1,h3,h4⟩:=h2.dfr
     exact ⟨m1,by rw [Mu.on_of (D:=fun i=>i<256*c) hb.2]; exact h3,h4⟩
 · exact h
 · trivial
 · trivial
theorem gcExt {μ μ':Mu} {A h:FH} {c c':Nat} {w w':World} (hE:Ext μ A c w (fun _=>False) μ' h c' w') (hR:R μ A w) (hf:Z1C μ c) (hg:GcH c h A) :
 Ext μ A c w (fun _=>False) (μ'.on (fun i=>i<256*c)) (mrg c h A) c w':=by
 have lt:∀ {i:Nat} {m:ME},μ i=some m->i<256*c:=fun {i m} e=>by
  by_cases hi:i<256*c
  · exact hi
  · rw [hf i qO] at e; cases e
 have old:∀ {i:Nat} {m:ME},μ'.on (fun i=>i<256*c) i=some m->i<256*c/\μ' i=some m/\μ i=some m:=fun {i m} e=>by
  obtain ⟨h1,h2⟩:=Mu.on_some e
  refine ⟨h1,h2, ?_⟩
  cases e0:μ i with
  | none =>
   rcases hE.new i e0 (by rw [h2]; simp) with a | ⟨a,_⟩
   · exact a.elim
   · omega
  | some m0=>rw [← hE.mu i m0 e0,h2]
 have gm:∀ {i:Nat},i<256*c->HeapC.get (mrg c h A) i=HeapC.get h i:=fun {i} hi=>by show (mrg c h A).f i=h.f i; simp [mrg,hi]
 refine { mu:=fun i m e=>?_,new:=fun i e0 e1=>?_,cle:=Nat.le_refl _,rel:=?_,af:=fun i e0 hi _=>?_,os:=hE.os,tape:=hE.tape,output:=hE.output,size:=hE.size,fr:=hE.fr,wrm:=fun i m e hw=>?_,newb:=fun i m e0 e1=>?_,dd:=fun i m e hd=>?_ }
 · rw [Mu.on_of (D:=fun i=>i<256*c) (lt e)]; exact hE.mu i m e
 · cases e2:μ'.on (fun i=>i<256*c) i with
   | none=>exact absurd e2 e1
   | some m=>rw [(old e2).2.2] at e0; cases e0
 · refine ⟨fun i m e=>?_,fun i j mi mj ei ej hne di dj hro=>?_,fun i m e=>hE.rel.lt i m (old e).2.1⟩
   · obtain ⟨h1,h2,h3⟩:=old e
     rw [gm h1]
     have hb:=hE.rel.blk i m h2
     rcases hg i h1 with a | a
     · have hb':=hR.blk i m h3
       have ha:HeapC.get h i=HeapC.get A i:=a
       rw [ha] at hb ⊢
       exact hb.onS ⟨μ,m,w.heap,hb',fun j hj=>by
        cases ej:μ j with
        | none=>exact absurd ej hj
        | some mj=>exact lt ej⟩
     · exact OkB.on hb a
   · obtain ⟨i1,i2,i3⟩:=old ei
     obtain ⟨j1,j2,j3⟩:=old ej
     rw [gm i1] at di hro
     rw [gm j1] at dj hro
     exact hE.rel.inj i j mi mj i2 j2 hne di dj hro
 · rw [gm hi]; exact hE.af i e0 hi (fun h=>h)
 · rw [gm (lt e)] at hw; exact hE.wrm i m e hw
 · rw [(old e1).2.2] at e0; cases e0
 · rw [gm (lt e)]; exact hE.dd i m e hd
theorem gcCall {μ:Mu} {A:FH} {c:Nat} {w w':World} {r:Rt FH} {e:Ending} (hR:R μ A w) (hf:Z1C μ c) (h:Z4D μ A c w r e w'):Z4D μ A c w (gcR A c [] r) e w':=by
 unfold gcR
 split
 · rename_i hg
   obtain ⟨v,v',μ',h1,h2,h3,h4⟩:=h
   refine ⟨v,v',_,h1,h2, ?_,gcExt h4 hR hf hg.2.2⟩
   exact (hg.1 v (by rw [h1]; simp)).on h3
 · exact h
noncomputable def gcS (sel:Key->Bool) (k:Key) (A:FH) (c:Nat) (df:List Nat) (r:Rt FH):Rt FH:=cond (sel k) (gcR A c df r) r
theorem gcS_e {sel:Key->Bool} {k:Key} {A:FH} {c:Nat} {df:List Nat} {r:Rt FH}:(gcS sel k A c df r).e=r.e:=by unfold gcS; cases sel k <;> first | rfl | exact ZmR
theorem Zeu {sel:Key->Bool} {k:Key} {A:FH} {c:Nat} {df:List Nat} {r:Rt FH}:(gcS sel k A c df r).vs=r.vs:=by unfold gcS; cases sel k <;> first | rfl | exact Zhu
theorem ZlX {sel:Key->Bool} {k:Key} {A:FH} {c:Nat} {df:List Nat} {r:Rt FH}:(gcS sel k A c df r).df=r.df:=by unfold gcS; cases sel k <;> first | rfl | exact ZlZ
theorem Zht {sel:Key->Bool} {k:Key} {μ:Mu} {A:FH} {c:Nat} {w w':World} {r:Rt FH} {e:Ending} (hR:R μ A w) (hf:Z1C μ c) (h:Z4D μ A c w r e w'):Z4D μ A c w (gcS sel k A c [] r) e w':=by
 unfold gcS
 cases sel k with
 | true=>exact gcCall hR hf h
 | false=>exact h
abbrev Fo (H:Type):=FuncId->List Value->H->Nat->Option (Rt H)
def FnOK (P:Program) (oc:Fo FH):Prop :=
 ∀ (f:FuncId) (args:List Value) (A:FH) (c:Nat) (r:Rt FH),oc f args A c=some r →
  (∀ avs w,(callFunc f avs).run P w = .ok (.enter f avs) w) ∧
  ∀ (μ:Mu) (w:World) (args':List Value),VRs μ args args'->R μ A w->Z1C μ c->Calls P f args'.toArray w (Z4D μ A c w r)
noncomputable def Z1e (P:Program) (bk:FuncId->Option AFun) (sel:Key->Bool) (ext:Fo FH) (o:Orc FH):Orc FH
 | .fn f,args,h,c,df =>
  match ext f args h c with
  | some r=>some r
  | none=>(Z1t P bk o (.fn f) args h c df).bind fun r=>some (gcS sel (.fn f) h c [] r)
 | .lp j lin fr b nt rd,vs,h,c,df =>
  (Z1V P o b { tm:=Z0g lin vs,h:=h,c:=c,nt:=nt,df:=df,rd:=rd }).bind fun r =>
   (vals r.2.tm lin).bind fun vs' =>
    match r.1 with
    | .normal=>o (.lp j lin fr b nt rd) vs' (gcS sel (.lp j lin fr b nt rd) h c df { e:=.normal,vs:=vs',h:=Z1B r.2.tm r.2.h fr,c:=r.2.c,df:=r.2.df }).h (gcS sel (.lp j lin fr b nt rd) h c df { e:=.normal,vs:=vs',h:=Z1B r.2.tm r.2.h fr,c:=r.2.c,df:=r.2.df }).c r.2.df
    | e=>some (gcS sel (.lp j lin fr b nt rd) h c df { e:=e,vs:=vs',h:=Z1B r.2.tm r.2.h fr,c:=r.2.c,df:=r.2.df })
 | .rnd nt lin fr params l a b,vs,h,c,df=>(Z1t P bk o (.rnd nt lin fr params l a b) vs h c df).bind fun r=>some (gcS sel (.rnd nt lin fr params l a b) h c [] r)
theorem Zdq {t:Nat} {v:Value}:∀ {l:List Nat} {vs:List Value},Z0g l vs t=some v->v ∈ vs
 | [],vs,h=>by simp [Z0g] at h
 | x::l,[],h=>by simp [Z0g] at h
 | x::l,u::vs,h=>by
  simp only [Z0g] at h
  cases hq:Nat.beq t x with
  | true=>rw [hq] at h; cases h; simp
  | false=>rw [hq] at h; simp [Zdq h]
theorem DfR.lt {μ:Mu} {c:Nat} (hf:Z1C μ c) {ds:List Nat} {es:List Deferred} (h:DfR μ ds es):∀ i ∈ ds,i<256*c:=by
 induction h with
 | nil=>intro i hi; cases hi
 | @cons i m d ds es hm ht hs ih =>
  intro j hj
  rcases List.mem_cons.1 hj with rfl | hj
  · by_cases hi:j<256*c
    · exact hi
    · rw [hf j qO] at hm; cases hm
  · exact ih j hj
theorem DfR.on {μ:Mu} {D:Nat->Prop} {ds:List Nat} {es:List Deferred} (h:DfR μ ds es) (hD:∀ i ∈ ds,D i):DfR (μ.on D) ds es:=by
 induction h with
 | nil=>exact .nil
 | cons hm ht _ ih=>exact .cons (by rw [Mu.on_of (hD _ (by simp))]; exact hm) ht (ih fun i hi=>hD i (by simp [hi]))
theorem Z1Y.stepG {bk:FuncId->Option AFun} {sel:Key->Bool} {ext:Fo FH} {o:Orc FH} {k:Nat} (hO:OS P o) (hL:Z1Y P o k) (hmix:P.follows .mixedOrders=true):Z1Y P (Z1e P bk sel ext o) (k+1):=by
 intro j lin fr b nt rd vs A c df r e μ w a ro n Q ht hR hfr hrd hdf hQ
 simp only [Z1e,Option.bind_eq_some_iff] at e
 obtain ⟨⟨ex,s1⟩,h1,vs',hvs',e⟩:=e
 refine Z8J hO hL hmix h1 ht hR hfr hrd hdf fun a1 μ1 w1 ht1 hdf1 hE1=>?_
 have hdrop:=Z47 (c:=s1.c) ht1 fr s1.h hE1.rel
 have hE2:=hE1.trans0 hdrop
 have ht2:=ht1.sub (Z3K hvs')
 have key:∀ (ex:Ex) (Q':Exit->Act->World->Prop),
  (∀ μ2,TmR μ2 (Z0g lin vs') nt a1.tmps->DfR μ2 s1.df a1.defers->Ext μ A c w (fun _=>False) μ2 (gcS sel (.lp j lin fr b nt rd) A c df { e:=ex,vs:=vs',h:=Z1B s1.tm s1.h fr,c:=s1.c,df:=s1.df }).h
   (gcS sel (.lp j lin fr b nt rd) A c df { e:=ex,vs:=vs',h:=Z1B s1.tm s1.h fr,c:=s1.c,df:=s1.df }).c w1->Q' (ZeR ex) a1 w1)->Q' (ZeR ex) a1 w1:=by
  intro ex Q' hq
  by_cases hg:sel (.lp j lin fr b nt rd)=true/\GcOk A c df { e:=ex,vs:=vs',h:=Z1B s1.tm s1.h fr,c:=s1.c,df:=s1.df }
  · refine hq (μ1.on (fun i=>i<256*c)) ?_ ?_ ?_
    · refine ⟨ht2.size,fun t v hv=>?_⟩
      obtain ⟨v',h3,h4⟩:=ht2.val t v hv
      exact ⟨v',h3,(hg.2.1 v (Zdq hv)).on h4⟩
    · refine hdf1.on ?_
      have:s1.df=df:=hg.2.2.1
      rw [this]
      exact hdf.lt hfr
    · unfold gcS gcR
      rw [hg.1,cond_true,if_pos hg.2]
      exact gcExt hE2 hR hfr hg.2.2.2
  · refine hq μ1 ht2 hdf1 ?_
    unfold gcS gcR
    cases hs:sel (.lp j lin fr b nt rd) with
    | false=>exact hE2
    | true =>
     rw [cond_true,if_neg (fun h=>hg ⟨hs,h⟩)]
     exact hE2
 cases ex with
 | normal =>
  refine key .normal (Exit.then (Code.roundsIn (wd ro) n P (Z3n b) Q k) Q) fun μ2 ht3 hdf3 hE3=>?_
  exact hL _ _ _ _ _ _ _ _ _ _ _ e μ2 w1 a1 ro n Q ht3 hE3.rel (hE3.fresh hfr (fun _ h=>h.elim)) (hrd.mono hE3.mu) hdf3 (fun a2 μ3 w2 h3 h4 h5=>hQ a2 μ3 w2 h3 h4 (hE3.trans0 h5))
 | exit id =>
  cases e
  refine key (.exit id) Q fun μ2 ht3 hdf3 hE3=>?_
  exact hQ a1 μ2 w1 (by rw [Zeu]; exact ht3) (by rw [ZlX]; exact hdf3) hE3 |> fun h=>by rw [gcS_e] at h; exact h
 | ret =>
  cases e
  refine key .ret Q fun μ2 ht3 hdf3 hE3=>?_
  exact hQ a1 μ2 w1 (by rw [Zeu]; exact ht3) (by rw [ZlX]; exact hdf3) hE3 |> fun h=>by rw [gcS_e] at h; exact h
theorem OS.stepG {bk:FuncId->Option AFun} {sel:Key->Bool} {ext:Fo FH} (hbk:Z6c P bk) (hext:FnOK P ext) {o:Orc FH} {k:Nat} (hO:OS P o) (hL:Z1Y P o k) (hmix:P.follows .mixedOrders=true):OS P (Z1e P bk sel ext o) where
 fn:=by
  intro f args A c df r e
  simp only [Z1e] at e
  cases he:ext f args A c with
  | some q =>
   rw [he] at e
   cases e
   exact hext f args A c _ he
  | none =>
   rw [he] at e
   simp only [Option.bind_eq_some_iff] at e
   obtain ⟨q,hq,e⟩:=e
   cases e
   obtain ⟨h1,h2⟩:=(OS.step hbk hO hL hmix).fn f args A c df q hq
   exact ⟨h1,fun μ w args' ha hR hf=>(h2 μ w args' ha hR hf).mono fun e w' h=>Zht hR hf h⟩
 rnd:=by
  intro nt lin fr params l x y vs A c df r e μ w ts m ro n f hm ht hR hf
  simp only [Z1e,Option.bind_eq_some_iff] at e
  obtain ⟨q,hq,e⟩:=e
  cases e
  exact ((OS.step hbk hO hL hmix).rnd nt lin fr params l x y vs A c df q hq μ w ts m ro n f hm ht hR hf).mono fun e w' h=>Zht hR hf h
noncomputable def ZbL (P:Program) (bk:FuncId->Option AFun) (sel:Key->Bool) (ext:Fo FH):Nat->Orc FH
 | 0=>fun _ _ _ _ _=>none
 | n+1=>Z1e P bk sel ext (ZbL P bk sel ext n)
theorem Z8m {bk:FuncId->Option AFun} {sel:Key->Bool} {ext:Fo FH} (hbk:Z6c P bk) (hext:FnOK P ext) (hmix:P.follows .mixedOrders=true):∀ n,OS P (ZbL P bk sel ext n)/\Z1Y P (ZbL P bk sel ext n) n
 | 0=>⟨⟨(fun _ _ _ _ _ _ e=>by cases e),(fun _ _ _ _ _ _ _ _ _ _ _ _ e=>by cases e)⟩,fun _ _ _ _ _ _ _ _ _ _ _ e=>by cases e⟩
 | n+1=>⟨OS.stepG hbk hext (Z8m (sel:=sel) (ext:=ext) hbk hext hmix n).1 (Z8m (sel:=sel) (ext:=ext) hbk hext hmix n).2 hmix,Z1Y.stepG (Z8m (sel:=sel) (ext:=ext) hbk hext hmix n).1 (Z8m (sel:=sel) (ext:=ext) hbk hext hmix n).2 hmix⟩
theorem Za9 {bk:FuncId->Option AFun} {sel:Key->Bool} {ext:Fo FH} {ox:Orc FH} {os:Nat->Orc FH} (hF:Fam ox os):Fam (Z1e P bk sel ext ox) (fun n=>Z1e P bk sel ext (os n)):=by
 intro k args h c df r e
 cases k with
 | fn f =>
  simp only [Z1e] at e ⊢
  cases he:ext f args h c with
  | some q=>rw [he] at e; exact Ev.const e
  | none =>
   rw [he] at e
   simp only [Option.bind_eq_some_iff] at e
   obtain ⟨q,hq,e⟩:=e
   exact Ev.bind (Z4Z hF _ _ _ _ _ _ hq) (Ev.const e)
 | rnd nt lin fr params l a b =>
  simp only [Z1e,Option.bind_eq_some_iff] at e ⊢
  obtain ⟨q,hq,e⟩:=e
  exact Ev.bind (Z4Z hF _ _ _ _ _ _ hq) (Ev.const e)
 | lp j lin fr b nt rd =>
  simp only [Z1e,Option.bind_eq_some_iff] at e ⊢
  obtain ⟨q,hq,vs,hv,e⟩:=e
  refine Ev.bind (Z8K hF hq) (Ev.bindc hv ?_)
  cases hq1:q.1 with
  | normal=>rw [hq1] at e; exact hF _ _ _ _ _ _ e
  | exit id=>rw [hq1] at e; exact Ev.const e
  | ret=>rw [hq1] at e; exact Ev.const e
theorem Z7B {bk:FuncId->Option AFun} {sel:Key->Bool} {ext:Fo FH}:∀ n k args h c df r,ZbL P bk sel ext n k args h c df=some r->ZbL P bk sel ext (n+1) k args h c df=some r
 | 0,k,args,h,c,df,r,e=>by cases e
 | n+1,k,args,h,c,df,r,e=>by
  have hF:Fam (ZbL P bk sel ext n) (fun _=>ZbL P bk sel ext (n+1)):=fun k args h c df r e=>Ev.const (Z7B n k args h c df r e)
  obtain ⟨m,hm⟩:=Za9 hF k args h c df r e
  exact hm m (Nat.le_refl _)
theorem Zct {bk:FuncId->Option AFun} {sel:Key->Bool} {ext:Fo FH} {n m:Nat} (hnm:n<=m) {k:Key} {args:List Value} {h:FH} {c:Nat} {df:List Nat} {r:Rt FH} (e:ZbL P bk sel ext n k args h c df=some r):ZbL P bk sel ext m k args h c df=some r:=by
 induction hnm with
 | refl=>exact e
 | step _ ih=>exact Z7B _ _ _ _ _ _ _ ih
open Classical in
noncomputable def Z6d (P:Program) (bk:FuncId->Option AFun) (sel:Key->Bool) (ext:Fo FH):Orc FH:=fun k args h c df =>
 if hx:∃ n r,ZbL P bk sel ext n k args h c df=some r then ZbL P bk sel ext (Classical.choose hx) k args h c df else none
theorem Zms {bk:FuncId->Option AFun} {sel:Key->Bool} {ext:Fo FH} {n:Nat} {k:Key} {args:List Value} {h:FH} {c:Nat} {df:List Nat} {r:Rt FH} (e:ZbL P bk sel ext n k args h c df=some r):Z6d P bk sel ext k args h c df=some r:=by
 have hx:∃ n r,ZbL P bk sel ext n k args h c df=some r:=⟨n,r,e⟩
 unfold Z6d
 rw [dif_pos hx]
 obtain ⟨r',h'⟩:=Classical.choose_spec hx
 have h1:=Zct (Nat.le_max_left (Classical.choose hx) n) h'
 have h2:=Zct (Nat.le_max_right (Classical.choose hx) n) e
 rw [h1] at h2
 rw [h',h2]
theorem Z8d {bk:FuncId->Option AFun} {sel:Key->Bool} {ext:Fo FH} {k:Key} {args:List Value} {h:FH} {c:Nat} {df:List Nat} {r:Rt FH} (e:Z6d P bk sel ext k args h c df=some r):∃ n,ZbL P bk sel ext n k args h c df=some r:=by
 unfold Z6d at e
 split at e
 · exact ⟨_,e⟩
 · cases e
theorem ZiB {bk:FuncId->Option AFun} {sel:Key->Bool} {ext:Fo FH}:Fam (Z6d P bk sel ext) (ZbL P bk sel ext):=by
 intro k args h c df r e
 obtain ⟨n,hn⟩:=Z8d e
 exact ⟨n,fun m hm=>Zct hm hn⟩
theorem Z4K {bk:FuncId->Option AFun} {sel:Key->Bool} {ext:Fo FH} {k:Key} {args:List Value} {h:FH} {c:Nat} {df:List Nat} {r:Rt FH} (e:Z1e P bk sel ext (Z6d P bk sel ext) k args h c df=some r):Z6d P bk sel ext k args h c df=some r:=by
 obtain ⟨n,hn⟩:=Za9 (ZiB (P:=P) (bk:=bk) (sel:=sel) (ext:=ext)) k args h c df r e
 exact Zms (n:=n+1) (hn n (Nat.le_refl _))
theorem Z5p {bk:FuncId->Option AFun} {sel:Key->Bool} {ext:Fo FH}:∀ n j lin fr b nt rd vs (h:FH) c df r,ZbL P bk sel ext n (.lp j lin fr b nt rd) vs h c df=some r->r.vs.length=lin.length
 | 0,_,_,_,_,_,_,_,_,_,_,_,e=>by cases e
 | n+1,j,lin,fr,b,nt,rd,vs,h,c,df,r,e=>by
  simp only [ZbL,Z1e,Option.bind_eq_some_iff] at e
  obtain ⟨q,hq,ws,hw,e⟩:=e
  cases hq1:q.1 with
  | normal=>rw [hq1] at e; exact Z5p n j lin fr b nt rd _ _ _ _ r e
  | exit id=>rw [hq1] at e; cases e; rw [Zeu]; exact Z20 hw
  | ret=>rw [hq1] at e; cases e; rw [Zeu]; exact Z20 hw
theorem Z4L {bk:FuncId->Option AFun} {sel:Key->Bool} {ext:Fo FH}:OLen (Z6d P bk sel ext):=fun _ _ _ _ _ _ _ _ _ _ _ e=>by
 obtain ⟨n,hn⟩:=Z8d e
 exact Z5p _ _ _ _ _ _ _ _ _ _ _ _ hn
theorem Z51 {bk:FuncId->Option AFun} {sel:Key->Bool} {ext:Fo FH} (hbk:Z6c P bk) (hext:FnOK P ext) (hmix:P.follows .mixedOrders=true) {f:FuncId} {args args':List Value} {A:FH} {c:Nat} {r:Rt FH} (e:Z6d P bk sel ext (.fn f) args A c []=some r) {μ:Mu} {w:World}
 (hv:VRs μ args args') (hR:R μ A w) (hfr:Z1C μ c):Calls P f args'.toArray w (Z4D μ A c w r):=by
 obtain ⟨n,hn⟩:=Z8d e
 exact ((Z8m (sel:=sel) (ext:=ext) hbk hext hmix n).1.fn f args A c [] r hn).2 μ w args' hv hR hfr
theorem Z0p {bk:FuncId->Option AFun} {sel:Key->Bool} {ext:Fo FH} {f:FuncId} {a:AFun} (ha:bk f=some a) (hfr:a.fr=[]) (hxt:∀ args h c,ext f args h c=none) {args:List Value} {h:FH} {c:Nat} {df:List Nat} {r:Rt FH} (hlen:Nat.ble args.length a.nt=true)
 (e:jx P (Z6d P bk sel ext) a.nt none a.code (Z0g (List.range args.length) args) h c [] (Kfn P a.res)=some r):Z6d P bk sel ext (.fn f) args h c df=some (gcS sel (.fn f) h c [] r):=by
 refine Z4K ?_
 obtain ⟨e1,tm1,tm1',h1,c1,df1,hx,hl,hk⟩:=Z2e Z4L e (Tm.le_refl _)
 simp only [Z1e,hxt,Option.bind_eq_some_iff]
 refine ⟨r, ?_,rfl⟩
 simp only [Z1t,ha,Option.bind_some,hlen,cond_true,hx,hfr,Z1B]
 cases e1 with
 | exit id=>cases hk
 | normal =>
  simp only [Kfn,Z4M,Option.bind_eq_some_iff] at hk ⊢
  obtain ⟨h2,ht,vs,hv,hk⟩:=hk
  exact ⟨h2,ht,vs,Z52 hl hv,hk⟩
 | ret =>
  simp only [Kfn,Z4M,Option.bind_eq_some_iff] at hk ⊢
  obtain ⟨h2,ht,vs,hv,hk⟩:=hk
  exact ⟨h2,ht,vs,Z52 hl hv,hk⟩
theorem Z0y {bk:FuncId->Option AFun} {sel:Key->Bool} {ext:Fo FH} {j nt:Nat} {lin:List Nat} {b:ACode} {rd:Option Nat} {vs:List Value} {h:FH} {c:Nat} {df:List Nat} {q r:Rt FH}
 (e:jx P (Z6d P bk sel ext) nt rd b (Z0g lin vs) h c df (Klp lin)=some q) (hq:q.e = .normal) (k:Z6d P bk sel ext (.lp j lin [] b nt rd) q.vs (gcS sel (.lp j lin [] b nt rd) h c df q).h (gcS sel (.lp j lin [] b nt rd) h c df q).c q.df=some r):Z6d P bk sel ext (.lp j lin [] b nt rd) vs h c df=some r:=by
 refine Z4K ?_
 obtain ⟨e1,tm1,tm1',h1,c1,df1,hx,hl,hk⟩:=Z2e Z4L e (Tm.le_refl _)
 simp only [Klp,Option.bind_eq_some_iff] at hk
 obtain ⟨ws,hw,hk⟩:=hk
 cases hk
 simp only at hq
 subst hq
 simp only [Z1e,hx,Option.bind_some,Z5x hl hw,Z1B]
 exact k
theorem Z0z {bk:FuncId->Option AFun} {sel:Key->Bool} {ext:Fo FH} {j nt:Nat} {lin:List Nat} {b:ACode} {rd:Option Nat} {vs:List Value} {h:FH} {c:Nat} {df:List Nat} {q:Rt FH}
 (e:jx P (Z6d P bk sel ext) nt rd b (Z0g lin vs) h c df (Klp lin)=some q) (hq:q.e ≠ .normal):Z6d P bk sel ext (.lp j lin [] b nt rd) vs h c df=some (gcS sel (.lp j lin [] b nt rd) h c df q):=by
 refine Z4K ?_
 obtain ⟨e1,tm1,tm1',h1,c1,df1,hx,hl,hk⟩:=Z2e Z4L e (Tm.le_refl _)
 simp only [Klp,Option.bind_eq_some_iff] at hk
 obtain ⟨ws,hw,hk⟩:=hk
 cases hk
 simp only at hq
 simp only [Z1e,hx,Option.bind_some,Z5x hl hw,Z1B]
theorem ZiA {bk:FuncId->Option AFun} {sel:Key->Bool} {ext:Fo FH} {nt l:Nat} {lin params:List Nat} {a b:ACode} {vs:List Value} {h:FH} {c:Nat} {df:List Nat} {r:Rt FH}
 (e:jx P (Z6d P bk sel ext) nt (some l) a (Z0g (params++lin) vs) h c [] (ZlO P (Z6d P bk sel ext) nt l b)=some r):Z6d P bk sel ext (.rnd nt lin [] params l a b) vs h c df=some (gcS sel (.rnd nt lin [] params l a b) h c [] r):=by
 refine Z4K ?_
 obtain ⟨e1,tm1,tm1',h1,c1,df1,hx,hl,hk⟩:=Z2e Z4L e (Tm.le_refl _)
 simp only [Z1e,Option.bind_eq_some_iff]
 refine ⟨r, ?_,rfl⟩
 cases e1 with
 | exit id=>cases hk
 | ret=>cases hk
 | normal =>
  simp only [ZlO,Option.bind_eq_some_iff] at hk
  obtain ⟨h2,hb,hk⟩:=hk
  obtain ⟨e3,tm3,tm3',h3,c3,df3,hx3,hl3,hk3⟩:=Z2e Z4L hk hl
  simp only [Z1t,hx,Option.bind_some,hb,hx3,Z1B]
  exact hk3
theorem ZiC {bk:FuncId->Option AFun} {sel:Key->Bool} {ext:Fo FH} {f:FuncId} {args:List Value} {h:FH} {c:Nat} {df:List Nat} {r:Rt FH} (e:ext f args h c=some r):Z6d P bk sel ext (.fn f) args h c df=some r:=by
 refine Z4K ?_
 simp only [Z1e,e]
end Go.Ab
