/- Parts of a proof: AbJx AbPrim AbEval. Conditions: none. -/
import Derived.Test.YtdodippbpdechaaM5
set_option linter.all false
set_option maxRecDepth 100000
namespace Go.Ab
open Go
variable {H:Type} [HeapC H] {P:Program}
abbrev Kx (H β:Type):=Ex->Tm->H->Nat->List Nat->Option β
def nthV:List Value->Nat->Value
 | [],_=>undef
 | v::vs,i=>Nat.rec v (fun n _=>nthV vs n) i
def ZmO:List Nat->Nat->Nat->Option Nat
 | [],_,_=>none
 | x::xs,t,i=>cond (Nat.beq t x) (some i) (ZmO xs t (i+1))
def tmL (lin:List Nat) (vs:List Value):Tm:=fun t=>(ZmO lin t 0).bind fun i=>some (nthV vs i)
theorem ZgR (v:Value) (vs:List Value) (i:Nat):nthV (v::vs) (i+1)=nthV vs i:=rfl
theorem Z9B:∀ (l:List Nat) (t i:Nat),ZmO l t (i+1)=(ZmO l t i).map (· + 1)
 | [],t,i=>rfl
 | x::xs,t,i=>by
  simp only [ZmO]
  cases Nat.beq t x with
  | true=>rfl
  | false=>exact Z9B xs t (i+1)
theorem Zgk:∀ {lin:List Nat} {vs:List Value},vs.length=lin.length -> ∀ t,tmL lin vs t=Z0l lin vs t
 | [],[],_,t=>rfl
 | x::xs,v::vs,h,t=>by
  have ih:=Zgk (lin:=xs) (vs:=vs) (by simpa using h) t
  simp only [tmL,ZmO,Z0l] at ih ⊢
  cases hb:Nat.beq t x with
  | true=>rfl
  | false =>
   simp only [cond_false]
   rw [← ih,Z9B]
   cases ZmO xs t 0 with
   | none=>rfl
   | some i=>simp only [Option.map_some,Option.bind_some,ZgR]
 | [],v::vs,h,t=>by simp at h
 | x::xs,[],h,t=>by simp at h
def Z0u:Ex->Ex->Bool
 | .normal,.normal=>true
 | .ret,.ret=>true
 | .exit a,.exit b=>Nat.beq a b
 | _,_=>false
theorem Zbe {a b:Ex} (h:Z0u a b=true):a=b:=by
 cases a <;> cases b <;> simp only [Z0u] at h <;> first | rfl | cases h | rw [Nat.eq_of_beq_eq_true h]
def ZlX {β:Type} (e:Ex) (K:Ex->Option β):List Ex->Option β
 | []=>none
 | x::xs=>cond (Z0u e x) (K x) (ZlX e K xs)
def ZnU (e:Ex):List (Ex × List Nat)->Option (List Nat)
 | []=>none
 | x::xs=>cond (Z0u e x.1) (some x.2) (ZnU e xs)
def Zg2 {β:Type} (r:Rt H) (K:Kx H β):List (Ex × List Nat)->Option β
 | []=>none
 | x::xs=>cond (Z0u r.e x.1) (K x.1 (tmL x.2 r.vs) r.h r.c r.df) (Zg2 r K xs)
def ZiU {β:Type} (P:Program) (o:Orc H) (ops:Array Oper) (base nt:Nat) (K:Tm->H->Nat->List (Option Nat × H)->Option β):List Oper->Nat->Tm->H->Nat->List (Option Nat × H)->Option β
 | [],_,tm,h,c,tr=>K tm h c (tr++[(none,h)])
 | op::rest,i,tm,h,c,tr=>Ziv P o ops base i nt tm h c op fun v h' c'=>ZiU P o ops base nt K rest (i+1) (Z6O tm op.dst v) h' c' (tr++[(rid ops tm op,h)])
theorem Zdw {β:Type} {o:Orc H} {ops:Array Oper} {base nt:Nat} {K:Tm->H->Nat->List (Option Nat × H)->Option β}:∀ {l:List Oper} {i:Nat} {tm:Tm} {h:H} {c:Nat} {tr:List (Option Nat × H)},
 ZiU P o ops base nt K l i tm h c tr=(Z18 P o ops base nt l i tm h c).bind fun r=>K r.1 r.2.1 r.2.2.1 (tr++r.2.2.2)
 | [],i,tm,h,c,tr=>rfl
 | oper::l,i,tm,h,c,tr=>by
  simp only [ZiU,Z18,Zdp,Option.bind_assoc]
  congr 1
  funext r
  rw [Zdw]
  congr 1
  funext q
  simp only [Option.bind_some,List.append_assoc,List.cons_append,List.nil_append]
def Z1f (x:Option Nat) (h1 h2:H):Bool :=
 match x with
 | some x=>HeapC.eqB H (HeapC.get h1 x) (HeapC.get h2 x)
 | none=>true
def lwC (tr:List (Option Nat × H)) (p:Nat × Nat):Bool :=
 match tr[p.1]? with
 | none=>true
 | some e=>match tr[p.2]? with
  | none=>e.1.isNone
  | some a=>match tr[p.2+1]? with
   | none=>e.1.isNone
   | some b=>Z1f e.1 a.2 b.2
theorem lwC_eq:(lwC:List (Option Nat × H)->Nat × Nat->Bool)=lwOk:=by
 funext tr p
 unfold lwC lwOk
 cases tr[p.1]? with
 | none=>rfl
 | some e =>
  obtain ⟨x,h⟩:=e
  cases tr[p.2]? with
  | none=>cases x <;> rfl
  | some a =>
   cases tr[p.2+1]? with
   | none=>cases x <;> rfl
   | some b=>cases x <;> rfl
def regK {β:Type} (P:Program) (o:Orc H) (ops:Array Oper) (draw:Bool) (nt:Nat) (tm:Tm) (h:H) (c:Nat) (K:Tm->H->Nat->Option β):Option β :=
 cond draw
  (cond (Z8o ops)
   (cond (lws ops).isEmpty (opsK P o ops c nt K ops.toList 0 tm h (c+1))
    (ZiU P o ops c nt (fun tm h c tr=>cond ((lws ops).all (lwC tr)) (K tm h c) none) ops.toList 0 tm h (c+1) [])) none)
  (opsK P o ops c nt K ops.toList 0 tm h (c+1))
theorem Zcg {β:Type} {o:Orc H} {ops:Array Oper} {draw:Bool} {nt:Nat} {tm:Tm} {h:H} {c:Nat} {K:Tm->H->Nat->Option β} :
 regK P o ops draw nt tm h c K=(Z5c P o ops draw nt tm h c).bind fun r=>K r.1 r.2.1 r.2.2:=by
 unfold regK Z5c
 cases draw with
 | false=>exact Zcp
 | true =>
  cases Z8o ops with
  | false=>rfl
  | true =>
   cases (lws ops).isEmpty with
   | true=>exact Zcp
   | false =>
    simp only [cond_true,cond_false,Zdw,Option.bind_assoc,List.nil_append,lwC_eq]
    congr 1
    funext r
    cases (lws ops).all (lwOk r.2.2.2) <;> rfl
def Z3O (o:Orc H) (nt:Nat) (rd:Option Nat) (lin fr:List Nat) (ps:Array Tmp) (a b:ACode) (fv:Value) (vs:List Value) (h:H) (c:Nat) (df:List Nat):Option (Ex × H × Nat × List Nat) :=
 match fv with
 | .func (.func g) first cap=>(Z2Q h c rd).bind fun hd =>
  (o (.fn g) (first.toList++[.func (.yield (256*c)) #[] #[]]++cap.toList)
   (HeapC.set hd.1 (256*c) (.loop { state:=.ready,pending:=none,nt:=nt,vals:=vs,lin:=lin,fr:=fr,params:=ps.toList,assign:=a,body:=b,dfr:=hd.2 })) (c+1) []).bind fun r =>
   match HeapC.get r.h (256*c) with
   | some (.loop st)=>cond (decide (st.state = .busy)) none ((exOf st.pending).bind fun e=>some (e,HeapC.del r.h (256*c),r.c,match rd with | none=>hd.2::df | some _=>df))
   | _=>none
 | _=>none
theorem Zci {o:Orc H} {nt:Nat} {rd:Option Nat} {lin fr:List Nat} {ps:Array Tmp} {a b:ACode} {tm:Tm} {f:Operand} {fv:Value} {vs:List Value} {h:H} {c:Nat} {df:List Nat} {r:Ex × H × Nat × List Nat}
 (hf:Z0g tm f=some fv) (hv:vals tm lin=some vs) (e:Z3O o nt rd lin fr ps a b fv vs h c df=some r) :
 Z4x o { tm:=tm,h:=h,c:=c,nt:=nt,df:=df,rd:=rd } lin fr f ps a b=some (r.1,{ tm:=tm,h:=r.2.1,c:=r.2.2.1,nt:=nt,df:=r.2.2.2,rd:=rd }):=by
 unfold Z3O at e
 split at e
 · rename_i g first cap
   simp only [Option.bind_eq_some_iff] at e
   obtain ⟨hd,hhd,q,hq,e⟩:=e
   simp only [Z4x,hf,hv,hhd,hq,Option.bind_some]
   split at e
   · rename_i st hg
     simp only [hg]
     cases hb:decide (st.state=LoopState.busy) with
     | true=>rw [hb] at e; cases e
     | false =>
      rw [hb] at e
      simp only [cond_false,Option.bind_eq_some_iff] at e
      obtain ⟨x,hx,e⟩:=e
      cases e
      simp only [cond_false,hx,Option.bind_some]
      rfl
   · cases e
 · cases e
def jx {β:Type} (P:Program) (o:Orc H) (nt:Nat) (rd:Option Nat):ACode->Tm->H->Nat->List Nat->Kx H β->Option β
 | .skip,tm,h,c,df,K=>K .normal tm h c df
 | .region _ ops draw,tm,h,c,df,K=>regK P o ops draw nt tm h c fun tm h c=>K .normal tm h c df
 | .seq a b,tm,h,c,df,K=>jx P o nt rd a tm h c df fun e tm h c df =>
  match e with
  | .normal=>jx P o nt rd b tm h c df K
  | .exit i=>K (.exit i) tm h c df
  | .ret=>K .ret tm h c df
 | .cond x a b,tm,h,c,df,K=>(Z0g tm x).bind fun v =>
  match v with
  | .bool t=>cond t (jx P o nt rd a tm h c df K) (jx P o nt rd b tm h c df K)
  | _=>none
 | .block id a,tm,h,c,df,K=>jx P o nt rd a tm h c df fun e tm h c df =>
  match e with
  | .normal=>K .normal tm h c df
  | .exit i=>cond (Nat.beq i id) (K .normal tm h c df) (K (.exit i) tm h c df)
  | .ret=>K .ret tm h c df
 | .loop j lin fr outs b,tm,h,c,df,K=>(vals tm lin).bind fun vs =>
  (o (.lp j lin fr b nt rd) vs h c df).bind fun r=>ZlX r.e (fun e=>K e (tmL lin r.vs) r.h r.c r.df) outs
 | .rangeFunc j lin fr outs f ps a b,tm,h,c,df,K=>(Z0g tm f).bind fun fv=>(vals tm lin).bind fun vs =>
  (Z3O o nt rd lin fr ps a b fv vs h c df).bind fun r=>ZlX r.1 (fun e=>K e tm r.2.1 r.2.2.1 r.2.2.2) outs
 | .exit id,tm,h,c,df,K=>K (.exit id) tm h c df
 | .ret,tm,h,c,df,K=>K .ret tm h c df
 | .bad _,_,_,_,_,_=>none
 | .join lays a,tm,h,c,df,K =>
  (jx P o nt rd a tm h c df fun e tm h c df=>(ZnU e lays).bind fun l=>(vals tm l).bind fun vs=>some ({ e:=e,vs:=vs,h:=h,c:=c,df:=df }:Rt H)).bind fun r=>Zg2 r K lays
theorem Z8Y {β:Type} {e:Ex} {K:Ex->Option β} {x:β}:∀ {l:List Ex},ZlX e K l=some x->K e=some x
 | [],h=>by cases h
 | y::l,h=>by
  simp only [ZlX] at h
  cases hb:Z0u e y with
  | true=>rw [hb] at h; rw [Zbe hb]; exact h
  | false=>rw [hb] at h; exact Z8Y h
theorem Z5L {β:Type} {r:Rt H} {K:Kx H β} {x:β}:∀ {l:List (Ex × List Nat)},Zg2 r K l=some x -> ∃ lay,ZnU r.e l=some lay/\K r.e (tmL lay r.vs) r.h r.c r.df=some x
 | [],h=>by cases h
 | y::l,h=>by
  simp only [Zg2] at h
  simp only [ZnU]
  cases hb:Z0u r.e y.1 with
  | true=>rw [hb] at h; refine ⟨y.2,rfl, ?_⟩; rw [Zbe hb]; exact h
  | false=>rw [hb] at h; exact Z5L h
def OLen (o:Orc H):Prop:=∀ j lin fr b nt rd vs h c df r,o (.lp j lin fr b nt rd) vs h c df=some r->r.vs.length=lin.length
theorem Tm.le_refl (tm:Tm):tm.le tm:=fun _ _ h=>h
theorem Tm.le_trans {a b c:Tm} (h:a.le b) (k:b.le c):a.le c:=fun t v e=>k t v (h t v e)
theorem Z2u {β:Type} {o:Orc H} (ho:OLen o) {nt:Nat} {rd:Option Nat}:∀ {code:ACode} {tm:Tm} {h:H} {c:Nat} {df:List Nat} {K:Kx H β} {x:β},jx P o nt rd code tm h c df K=some x →
 ∀ {tm':Tm},tm.le tm' -> ∃ e tm1 tm1' h1 c1 df1,Z28 P o code { tm:=tm',h:=h,c:=c,nt:=nt,df:=df,rd:=rd } = some (e,{ tm:=tm1',h:=h1,c:=c1,nt:=nt,df:=df1,rd:=rd })/\tm1.le tm1'/\K e tm1 h1 c1 df1=some x:=by
 intro code
 induction code generalizing β with
 | skip=>intro tm h c df K x e tm' hl; exact ⟨_,_,_,_,_,_,rfl,hl,e⟩
 | region id ops d =>
  intro tm h c df K x e tm' hl
  simp only [jx,Zcg,Option.bind_eq_some_iff] at e
  obtain ⟨q,hq,e⟩:=e
  obtain ⟨tm1,h1,h2⟩:=Zgv hl hq
  refine ⟨_,_,_,_,_,_, ?_,h2,e⟩
  simp only [Z28,h1,Option.bind_some]
 | seq a b iha ihb =>
  intro tm h c df K x e tm' hl
  simp only [jx] at e
  obtain ⟨e1,tm1,tm1',h1,c1,df1,hx,hl1,hk⟩:=iha e hl
  cases e1 with
  | normal =>
   obtain ⟨e2,tm2,tm2',h2,c2,df2,hx2,hl2,hk2⟩:=ihb hk hl1
   exact ⟨_,_,_,_,_,_,by simp only [Z28,hx,Option.bind_some]; exact hx2,hl2,hk2⟩
  | exit i=>exact ⟨_,_,_,_,_,_,by simp only [Z28,hx,Option.bind_some],hl1,hk⟩
  | ret=>exact ⟨_,_,_,_,_,_,by simp only [Z28,hx,Option.bind_some],hl1,hk⟩
 | cond y a b iha ihb =>
  intro tm h c df K x e tm' hl
  simp only [jx,Option.bind_eq_some_iff] at e
  obtain ⟨v,hv,e⟩:=e
  have hv':=Z0h hl hv
  split at e
  · rename_i t
    cases t
    · obtain ⟨e1,tm1,tm1',h1,c1,df1,hx,hl1,hk⟩:=ihb e hl
      exact ⟨_,_,_,_,_,_,by simp only [Z28,hv',Option.bind_some,cond_false]; exact hx,hl1,hk⟩
    · obtain ⟨e1,tm1,tm1',h1,c1,df1,hx,hl1,hk⟩:=iha e hl
      exact ⟨_,_,_,_,_,_,by simp only [Z28,hv',Option.bind_some,cond_true]; exact hx,hl1,hk⟩
  · cases e
 | block id a ih =>
  intro tm h c df K x e tm' hl
  simp only [jx] at e
  obtain ⟨e1,tm1,tm1',h1,c1,df1,hx,hl1,hk⟩:=ih e hl
  cases e1 with
  | normal=>exact ⟨_,_,_,_,_,_,by simp only [Z28,hx,Option.bind_some],hl1,hk⟩
  | exit i =>
   cases hb:Nat.beq i id with
   | true=>simp only [hb] at hk; exact ⟨_,_,_,_,_,_,by simp only [Z28,hx,Option.bind_some,hb,cond_true],hl1,hk⟩
   | false=>simp only [hb] at hk; exact ⟨_,_,_,_,_,_,by simp only [Z28,hx,Option.bind_some,hb,cond_false],hl1,hk⟩
  | ret=>exact ⟨_,_,_,_,_,_,by simp only [Z28,hx,Option.bind_some],hl1,hk⟩
 | loop j lin fr outs b _ =>
  intro tm h c df K x e tm' hl
  simp only [jx,Option.bind_eq_some_iff] at e
  obtain ⟨vs,hv,r,hr,e⟩:=e
  have hlen:=ho _ _ _ _ _ _ _ _ _ _ _ hr
  refine ⟨r.e,tmL lin r.vs,Z0l lin r.vs,r.h,r.c,r.df, ?_, ?_,Z8Y e⟩
  · simp only [Z28,Z62 hl hv,hr,Option.bind_some]
  · intro t v ht; rw [Zgk hlen] at ht; exact ht
 | rangeFunc j lin fr outs f ps a b _ _ =>
  intro tm h c df K x e tm' hl
  simp only [jx,Option.bind_eq_some_iff] at e
  obtain ⟨fv,hf,vs,hv,r,hr,e⟩:=e
  refine ⟨r.1,tm,tm',r.2.1,r.2.2.1,r.2.2.2, ?_,hl,Z8Y e⟩
  simp only [Z28]
  exact Zci (Z0h hl hf) (Z62 hl hv) hr
 | exit id=>intro tm h c df K x e tm' hl; exact ⟨_,_,_,_,_,_,rfl,hl,e⟩
 | ret=>intro tm h c df K x e tm' hl; exact ⟨_,_,_,_,_,_,rfl,hl,e⟩
 | bad _=>intro tm h c df K x e tm' hl; cases e
 | join lays a ih =>
  intro tm h c df K x e tm' hl
  simp only [jx,Option.bind_eq_some_iff] at e
  obtain ⟨r,hr,e⟩:=e
  obtain ⟨e1,tm1,tm1',h1,c1,df1,hx,hl1,hk⟩:=ih hr hl
  simp only [Option.bind_eq_some_iff] at hk
  obtain ⟨l,hlf,vs,hvs,hk⟩:=hk
  cases hk
  obtain ⟨lay,h3,h4⟩:=Z5L e
  simp only at h3 h4
  rw [hlf] at h3
  cases h3
  refine ⟨e1,tmL l vs,tm1',h1,c1,df1,by simp only [Z28]; exact hx, ?_,h4⟩
  intro t v ht
  rw [Zgk (Z2a hvs)] at ht
  exact hl1 _ _ (Z4a hvs _ _ ht)
theorem Z5x {tm tm':Tm} (hl:tm.le tm') {h:H}:∀ {rs:List ResultVar} {vs:List Value},Z5P P tm h rs=some vs->Z5P P tm' h rs=some vs
 | [],vs,e=>e
 | .tmp t::rs,vs,e=>by
  simp only [Z5P,Option.bind_eq_some_iff] at e ⊢
  obtain ⟨v,hv,ws,hw,e⟩:=e
  exact ⟨v,hl _ _ hv,ws,Z5x hl hw,e⟩
 | .cell a t::rs,vs,e=>by
  simp only [Z5P,Option.bind_eq_some_iff] at e ⊢
  obtain ⟨p,hp,v,hv,ws,hw,e⟩:=e
  exact ⟨p,hl _ _ hp,v,hv,ws,Z5x hl hw,e⟩
def Zmt {β:Type} (P:Program) (tm:Tm) (h:H):List ResultVar->(List Value->Option β)->Option β
 | [],k=>k []
 | .tmp t::rs,k=>(tm t).bind fun v=>Zmt P tm h rs fun vs=>k (v::vs)
 | .cell a t::rs,k=>(tm a).bind fun p=>(Zbl P h t p).bind fun v=>Zmt P tm h rs fun vs=>k (v::vs)
theorem Z5l {β:Type} {tm:Tm} {h:H}:∀ {rs:List ResultVar} {k:List Value->Option β},Zmt P tm h rs k=(Z5P P tm h rs).bind k
 | [],k=>rfl
 | .tmp t::rs,k=>by simp only [Zmt,Z5P,Z5l,Option.bind_assoc,Option.bind_some]
 | .cell a t::rs,k=>by simp only [Zmt,Z5P,Z5l,Option.bind_assoc,Option.bind_some]
def Kfn (P:Program) (res:List ResultVar):Kx H (Rt H):=fun e tm h c df =>
 match e with
 | .exit _=>none
 | .normal=>(Z09 h df).bind fun h1=>Zmt P tm h1 res fun vs=>some { e:=.ret,vs:=[tup vs],h:=h1,c:=c,df:=[] }
 | .ret=>(Z09 h df).bind fun h1=>Zmt P tm h1 res fun vs=>some { e:=.ret,vs:=[tup vs],h:=h1,c:=c,df:=[] }
def Klp (lin:List Nat):Kx H (Rt H):=fun e tm h c df=>(vals tm lin).bind fun vs=>some { e:=e,vs:=vs,h:=h,c:=c,df:=df }
def Krd (l:Nat):Kx H (Rt H):=fun e tm h c df =>
 (Z0t h l (cond (Z3P e).isNone .ready .done) (Z3P e)).bind fun h2=>cond df.isEmpty (some { e:=.ret,vs:=[.bool (Z3P e).isNone],h:=h2,c:=c,df:=[] }) none
theorem Z6k {bk:FuncId->Option AFun}:OLen (run (H:=H) P bk):=fun _ _ _ _ _ _ _ _ _ _ _ e=>Zay e
theorem run_fn {bk:FuncId->Option AFun} {f:FuncId} {a:AFun} (ha:bk f=some a) (hfr:a.fr=[]) {args:List Value} {h:H} {c:Nat} {df:List Nat} {r:Rt H} (hlen:Nat.ble args.length a.nt=true)
 (e:jx P (run P bk) a.nt none a.code (Z0l (List.range args.length) args) h c [] (Kfn P a.res)=some r):run P bk (.fn f) args h c df=some r:=by
 refine Z7T ?_
 obtain ⟨e1,tm1,tm1',h1,c1,df1,hx,hl,hk⟩:=Z2u Z6k e (Tm.le_refl _)
 simp only [Z1D,ha,Option.bind_some,hlen,cond_true,hx,hfr,Z1C]
 cases e1 with
 | exit id=>cases hk
 | normal =>
  simp only [Kfn,Z5l,Option.bind_eq_some_iff] at hk ⊢
  obtain ⟨h2,ht,vs,hv,hk⟩:=hk
  exact ⟨h2,ht,vs,Z5x hl hv,hk⟩
 | ret =>
  simp only [Kfn,Z5l,Option.bind_eq_some_iff] at hk ⊢
  obtain ⟨h2,ht,vs,hv,hk⟩:=hk
  exact ⟨h2,ht,vs,Z5x hl hv,hk⟩
theorem Zc9 {bk:FuncId->Option AFun} {j nt:Nat} {lin:List Nat} {b:ACode} {rd:Option Nat} {vs:List Value} {h:H} {c:Nat} {df:List Nat} {q r:Rt H}
 (e:jx P (run P bk) nt rd b (Z0l lin vs) h c df (Klp lin)=some q) (hq:q.e = .normal) (k:run P bk (.lp j lin [] b nt rd) q.vs q.h q.c q.df=some r):run P bk (.lp j lin [] b nt rd) vs h c df=some r:=by
 refine Z7T ?_
 obtain ⟨e1,tm1,tm1',h1,c1,df1,hx,hl,hk⟩:=Z2u Z6k e (Tm.le_refl _)
 simp only [Klp,Option.bind_eq_some_iff] at hk
 obtain ⟨ws,hw,hk⟩:=hk
 cases hk
 simp only at hq
 subst hq
 simp only [Z1D,hx,Option.bind_some,Z62 hl hw,Z1C]
 exact k
theorem Z8g {bk:FuncId->Option AFun} {j nt:Nat} {lin:List Nat} {b:ACode} {rd:Option Nat} {vs:List Value} {h:H} {c:Nat} {df:List Nat} {q:Rt H}
 (e:jx P (run P bk) nt rd b (Z0l lin vs) h c df (Klp lin)=some q) (hq:q.e ≠ .normal):run P bk (.lp j lin [] b nt rd) vs h c df=some q:=by
 refine Z7T ?_
 obtain ⟨e1,tm1,tm1',h1,c1,df1,hx,hl,hk⟩:=Z2u Z6k e (Tm.le_refl _)
 simp only [Klp,Option.bind_eq_some_iff] at hk
 obtain ⟨ws,hw,hk⟩:=hk
 cases hk
 simp only at hq
 simp only [Z1D,hx,Option.bind_some,Z62 hl hw,Z1C]
theorem Zml {bk:FuncId->Option AFun} {nt l:Nat} {lin params:List Nat} {a b:ACode} {vs:List Value} {h:H} {c:Nat} {df:List Nat} {r:Rt H}
 (e:jx P (run P bk) nt (some l) a (Z0l (params++lin) vs) h c [] (fun e tm h c df=>match e with
  | .normal=>(Z27 h l).bind fun h1=>jx P (run P bk) nt (some l) b tm h1 c df (Krd l)
  | .exit _=>none
  | .ret=>none)=some r):run P bk (.rnd nt lin [] params l a b) vs h c df=some r:=by
 refine Z7T ?_
 obtain ⟨e1,tm1,tm1',h1,c1,df1,hx,hl,hk⟩:=Z2u Z6k e (Tm.le_refl _)
 cases e1 with
 | exit id=>cases hk
 | ret=>cases hk
 | normal =>
  simp only [Option.bind_eq_some_iff] at hk
  obtain ⟨h2,hb,hk⟩:=hk
  obtain ⟨e3,tm3,tm3',h3,c3,df3,hx3,hl3,hk3⟩:=Z2u Z6k hk hl
  simp only [Z1D,hx,Option.bind_some,hb,hx3,Z1C]
  exact hk3
end Go.Ab

namespace Go.Ab
open Go
variable {H:Type} [HeapC H]
def pth:Code->List Nat->Code
 | .seq a b,i::p=>cond (Nat.beq i 0) (pth a p) (pth b p)
 | .cond _ a b,i::p=>cond (Nat.beq i 0) (pth a p) (pth b p)
 | .block _ a,_::p=>pth a p
 | .loop a,_::p=>pth a p
 | .rangeFunc _ _ a b,i::p=>cond (Nat.beq i 0) (pth a p) (pth b p)
 | c,_=>c
def opsAt (c:Code) (p:List Nat):Array Oper :=
 match pth c p with
 | .region _ ops _=>ops
 | _=>#[]
def Z0p (f:Func):Code:=f.body.getD .skip
def Z08 {β:Type} (v:Value) (a b:Option β):Option β :=
 match v with
 | .bool t=>cond t a b
 | _=>none
def Rt.v (r:Rt H) (i:Nat):Value:=nthV r.vs i
def Z8r (h:H) (c:Nat) (kv a b:Value):Option (Value × H × Nat) :=
 match kv with
 | .bool t=>some (cond t a b,h,c)
 | _=>none
def ZiI (P:Program) (o:Orc H) (nt l:Nat) (b:ACode):Kx H (Rt H):=fun e tm h c df =>
 match e with
 | .normal=>(Z27 h l).bind fun h1=>jx P o nt (some l) b tm h1 c df (Krd l)
 | .exit _=>none
 | .ret=>none
def Z2d (x:Value):Option Value :=
 match x with
 | .slice _ n _=>some (goInt n)
 | _=>none
def ixV (len:Nat) (agg:Bool) (sz:Nat) (x i:Value):Option Value:=(ZnN x).bind fun cs=>(Zlv len i).bind fun k=>Zfe cs agg (k*sz) sz
def Zfh (x i:Value):Option Value :=
 match x with
 | .string s=>Ziu s i
 | _=>none
def Z7R:List Value->List (Nat × Nat × Value)->Option (List Value)
 | cs,[]=>some cs
 | cs,(off,n,v)::r=>cond (Nat.beq v.cells.size n && Nat.ble (off+n) cs.length) (Z7R (Z0W cs off v.cells.toList) r) none
def Z1z (z:List Value) (ps:List (Nat × Nat × Value)):Option Value:=(Z7R z ps).bind fun cs=>some (.agg cs.toArray)
def slStrV (x:Value) (lo hi:Option Value):Option Value :=
 match x with
 | .string s=>Zmd s lo hi
 | _=>none
def Z6e (h:H) (id sz by':Nat) (s x:Value):Option (Value × H):=(Z0A h sz x).bind fun r=>appTo h id sz by' s r.1 r.2
def mkS (sz by':Nat) (z:List Value) (l c:Value):Option (List Value × Nat × Nat) :=
 (Zlu l).bind fun l=>(Zlu c).bind fun c =>
  cond (decide (0<=l) && decide (l<=c) && decide ((by':Int)*c<=281474976710656) && decide (c<=281474976710656) && true && true)
   (some (Z1n z c.toNat,l.toNat,c.toNat)) none
def cnvI (k:IntKind) (x:Value):Option Value :=
 match x with
 | .int _ n=>some (.int k (k.wrap n))
 | _=>none
end Go.Ab

namespace Go.Ab
open Go
variable {H:Type} [HeapC H] {P:Program}
structure LB where
 loop:Nat->Option (List Nat × ACode × Nat)
 rng:Nat->List Nat->Option (List Nat × ACode × ACode)
def Z0a (K:LB) (nt:Nat):ACode->Prop
 | .seq a b=>Z0a K nt a/\Z0a K nt b
 | .cond _ a b=>Z0a K nt a/\Z0a K nt b
 | .block _ a=>Z0a K nt a
 | .join _ a=>Z0a K nt a
 | .loop j lin fr _ b=>fr=[]/\K.loop j=some (lin,b,nt)
 | .rangeFunc _ lin fr _ _ ps a b=>fr=[]/\K.rng nt ps.toList=some (lin,a,b)
 | _=>True
def KeyOK (K:LB):Key->Prop
 | .fn _=>True
 | .lp j lin fr b nt _=>fr=[]/\K.loop j=some (lin,b,nt)
 | .rnd nt lin fr params _ a b=>fr=[]/\K.rng nt params=some (lin,a,b)
def Z6g (K:LB) (h:H):Prop:=∀ i st,HeapC.get h i=some (.loop st)->st.fr=[]/\K.rng st.nt st.params=some (st.lin,st.assign,st.body)
def NoL (h h':H):Prop:=∀ i st,HeapC.get h' i=some (.loop st)->HeapC.get h i=some (.loop st)
theorem NoL.refl (h:H):NoL h h:=fun _ _ e=>e
theorem NoL.trans {a b c:H} (h:NoL a b) (k:NoL b c):NoL a c:=fun i st e=>h i st (k i st e)
theorem NoL.set {h:H} {i:Nat} {b:ABlk} (hb:∀ st,b ≠ .loop st):NoL h (HeapC.set h i b):=by
 intro j st e
 rw [HeapC.get_set] at e
 split at e
 · cases e; exact absurd rfl (hb st)
 · exact e
theorem NoL.del {h:H} {i:Nat}:NoL h (HeapC.del h i):=by
 intro j st e
 rw [HeapC.get_del] at e
 split at e
 · cases e
 · exact e
theorem NoL.inv {K:LB} {h h':H} (n:NoL h h') (hi:Z6g K h):Z6g K h':=fun i st e=>hi i st (n i st e)
theorem NoL.wr {h h':H} {i off:Nat} {xs:List Value} (e:Z2D h i off xs=some h'):NoL h h':=by
 unfold Z2D at e
 split at e
 · obtain ⟨_,e⟩:=Z05 e; cases e; exact NoL.set (fun st=>by simp)
 · cases e
theorem NoL.store {t:TypeId} {h h':H} {p x:Value} (e:Zap P h t p x=some h'):NoL h h':=by
 simp only [Zap,stN,Option.bind_eq_some_iff] at e
 obtain ⟨n,_,a,_,e⟩:=e
 obtain ⟨_,e⟩:=Z05 e
 exact NoL.wr e
theorem NoL.mapUpdate {t:TypeId} {h h':H} {m k v:Value} (e:Z0D P h t m k v=some h'):NoL h h':=by
 simp only [Z0D,Option.bind_eq_some_iff] at e
 obtain ⟨ke,_,e⟩:=e
 obtain ⟨_,e⟩:=Z05 e
 split at e
 · split at e
   · simp only [Option.bind_eq_some_iff] at e
     obtain ⟨r,_,e⟩:=e
     split at e
     · split at e
       · obtain ⟨_,e⟩:=Z05 e; cases e; exact NoL.set (fun st=>by simp)
       · cases e
     · cases e; exact NoL.set (fun st=>by simp)
   · cases e
 · cases e
theorem NoL.grow {h:H} {id sz by':Nat} {base:Option Addr} {len need:Nat} {new:List Value} {r:Value × H} (e:Z1M h id sz by' base len need new=some r):NoL h r.2:=by
 unfold Z1M at e
 obtain ⟨_,e⟩:=Z05 e
 split at e
 · obtain ⟨_,e⟩:=Z05 e; cases e; exact NoL.set (fun st=>by simp)
 · simp only [Option.bind_eq_some_iff] at e
   obtain ⟨old,_,e⟩:=e
   split at e
   · split at e
     · cases e; exact NoL.set (fun st=>by simp)
     · obtain ⟨_,e⟩:=Z05 e; cases e; exact (NoL.set (fun st=>by simp)).trans (NoL.set (fun st=>by simp))
   · cases e
 · cases e
theorem NoL.appTo {h:H} {id sz by':Nat} {s:Value} {new:List Value} {n:Nat} {r:Value × H} (e:appTo h id sz by' s new n=some r):NoL h r.2:=by
 unfold Ab.appTo at e
 split at e
 · rename_i base len cap
   cases hb:Nat.ble (len+n) cap with
   | true =>
    rw [hb] at e
    simp only [cond_true] at e
    split at e
    · cases hc:Nat.beq new.length 0 with
      | true=>rw [hc] at e; cases e; exact NoL.refl _
      | false =>
       rw [hc] at e
       simp only [cond_false,Option.bind_eq_some_iff] at e
       obtain ⟨h',hw,e⟩:=e
       cases e
       exact NoL.wr hw
    · obtain ⟨_,e⟩:=Z05 e; cases e; exact NoL.refl _
    · cases e
   | false=>rw [hb] at e; exact NoL.grow e
 · cases e
theorem NoL.builtin {h:H} {id:Nat} {b:Builtin} {ts:List TypeId} {args:List Value} {r:Value × H} (e:Z0J P h id b ts args=some r):NoL h r.2:=by
 cases b with
 | len =>
  simp only [Z0J] at e
  split at e
  · simp only [Option.bind_eq_some_iff] at e; obtain ⟨v,_,e⟩:=e; cases e; exact NoL.refl _
  · cases e
 | max=>simp only [Z0J,Option.bind_eq_some_iff] at e; obtain ⟨v,_,e⟩:=e; cases e; exact NoL.refl _
 | min=>simp only [Z0J,Option.bind_eq_some_iff] at e; obtain ⟨v,_,e⟩:=e; cases e; exact NoL.refl _
 | append =>
  simp only [Z0J,Zbn] at e
  split at e
  · simp only [Option.bind_eq_some_iff] at e
    obtain ⟨el,_,sz,_,by',_,z,_,e⟩:=e
    obtain ⟨_,e⟩:=Z05 e
    split at e
    · simp only [Option.bind_eq_some_iff] at e
      obtain ⟨xd,_,e⟩:=e
      have bs:∀ {t:Bool} {x y:Option (Value × H)},cond t x y=some r->x=some r ∨ y=some r:=by
       intro t x y e
       cases t
       · exact .inr e
       · exact .inl e
      rcases bs e with e | e
      · simp only [Option.bind_eq_some_iff] at e
        obtain ⟨n,_,e⟩:=e
        obtain ⟨_,e⟩:=Z05 e
        exact NoL.appTo e
      · simp only [Option.bind_eq_some_iff] at e
        obtain ⟨q,_,e⟩:=e
        exact NoL.appTo e
    · cases e
  · cases e
 | copy =>
  simp only [Z0J,Zlx] at e
  split at e
  · simp only [Option.bind_eq_some_iff] at e
    obtain ⟨el,_,sz,_,e⟩:=e
    split at e
    · obtain ⟨_,e⟩:=Z05 e; cases e; exact NoL.refl _
    · simp only [Option.bind_eq_some_iff] at e
      obtain ⟨q,_,h',hw,e⟩:=e
      cases e
      exact NoL.wr hw
    · cases e
  · cases e
 | clear =>
  simp only [Z0J] at e
  split at e
  · simp only [Option.bind_eq_some_iff] at e
    obtain ⟨_,_,e⟩:=e
    unfold ZeY at e
    split at e
    · split at e
      · cases e; exact NoL.refl _
      · simp only [Option.bind_eq_some_iff] at e
        obtain ⟨el,_,sz,_,z,_,e⟩:=e
        obtain ⟨_,e⟩:=Z05 e
        simp only [Option.bind_eq_some_iff] at e
        obtain ⟨h',hw,e⟩:=e
        cases e
        exact NoL.wr hw
      · cases e
    · cases e
  · cases e
 | _=>simp [Z0J] at e
theorem ZgC {h:H} {c:Nat} {v:Option Value} {r:Value × H × Nat} (e:Z6N h c v=some r):r.2.1=h:=by
 simp only [Z6N,Option.bind_eq_some_iff] at e
 obtain ⟨x,_,e⟩:=e
 cases e
 rfl
theorem Zlh {o:Orc H} {id:Nat} {tm:Tm} {h:H} {c:Nat} {op:Op} {r:Value × H × Nat} (hop:∀ k,op ≠ .call k) (e:Z0m P o id tm h c op=some r):NoL h r.2.1:=by
 have R1:∀ {v:Option Value},Z6N h c v=some r->NoL h r.2.1:=fun e=>by rw [ZgC e]; exact NoL.refl _
 cases op with
 | call k=>exact absurd rfl (hop k)
 | move x=>exact R1 e
 | assign x=>exact R1 e
 | pick x a b =>
  simp only [Z0m,Option.bind_eq_some_iff] at e
  obtain ⟨_,_,_,_,_,_,e⟩:=e
  split at e
  · cases e; exact NoL.refl _
  · cases e
 | alloc t =>
  simp only [Z0m,Option.bind_eq_some_iff] at e
  obtain ⟨_,_,e⟩:=e
  obtain ⟨_,e⟩:=Z05 e
  cases e
  exact NoL.set (fun st=>by simp)
 | box t x =>
  simp only [Z0m,Option.bind_eq_some_iff] at e
  obtain ⟨_,_,e⟩:=e
  obtain ⟨_,e⟩:=Z05 e
  cases e
  exact NoL.set (fun st=>by simp)
 | build t ps=>simp only [Z0m,Option.bind_eq_some_iff] at e; obtain ⟨_,_,e⟩:=e; exact R1 e
 | buildSlice t l ps =>
  simp only [Z0m,Option.bind_eq_some_iff] at e
  obtain ⟨_,_,_,_,e⟩:=e
  cases e
  exact NoL.set (fun st=>by simp)
 | load t a=>simp only [Z0m,Option.bind_eq_some_iff] at e; obtain ⟨_,_,e⟩:=e; exact R1 e
 | store t a x =>
  simp only [Z0m,Option.bind_eq_some_iff] at e
  obtain ⟨_,_,_,_,h',hs,e⟩:=e
  cases e
  exact NoL.store hs
 | nilCheck x=>simp only [Z0m,Option.bind_eq_some_iff] at e; obtain ⟨_,_,e⟩:=e; exact R1 e
 | binOp b t x y u=>simp only [Z0m,Option.bind_eq_some_iff] at e; obtain ⟨_,_,_,_,e⟩:=e; exact R1 e
 | unOp u t x=>simp only [Z0m,Option.bind_eq_some_iff] at e; obtain ⟨_,_,e⟩:=e; exact R1 e
 | convert s d x=>simp only [Z0m,Option.bind_eq_some_iff] at e; obtain ⟨_,_,_,_,e⟩:=e; exact R1 e
 | sliceToArrayPointer t x=>simp only [Z0m,Option.bind_eq_some_iff] at e; obtain ⟨_,_,e⟩:=e; exact R1 e
 | makeInterface t x =>
  simp only [Z0m,Option.bind_eq_some_iff] at e
  obtain ⟨_,_,e⟩:=e
  split at e
  · cases e
  · cases e
  · cases e; exact NoL.refl _
 | makeFunc f a b =>
  simp only [Z0m] at e
  split at e
  · simp only [Option.bind_eq_some_iff] at e; obtain ⟨_,_,_,_,e⟩:=e; cases e; exact NoL.refl _
  · cases e
 | makeMap t x =>
  simp only [Z0m] at e
  split at e
  · cases e; exact NoL.set (fun st=>by simp)
  · simp only [Option.bind_eq_some_iff] at e; obtain ⟨_,_,_,_,_,_,e⟩:=e; cases e; exact NoL.set (fun st=>by simp)
 | makeSlice t l k =>
  simp only [Z0m,Option.bind_eq_some_iff] at e
  obtain ⟨_,_,_,_,_,_,e⟩:=e
  cases e
  exact NoL.set (fun st=>by simp)
 | slice t x lo hi mx=>simp only [Z0m,Option.bind_eq_some_iff] at e; obtain ⟨_,_,_,_,_,_,_,_,e⟩:=e; exact R1 e
 | fieldAddr t x f=>simp only [Z0m,Option.bind_eq_some_iff] at e; obtain ⟨_,_,e⟩:=e; exact R1 e
 | field t x f=>simp only [Z0m,Option.bind_eq_some_iff] at e; obtain ⟨_,_,e⟩:=e; exact R1 e
 | indexAddr t x i=>simp only [Z0m,Option.bind_eq_some_iff] at e; obtain ⟨_,_,_,_,e⟩:=e; exact R1 e
 | index t x i=>simp only [Z0m,Option.bind_eq_some_iff] at e; obtain ⟨_,_,_,_,e⟩:=e; exact R1 e
 | lookup t m k ok=>simp only [Z0m,Option.bind_eq_some_iff] at e; obtain ⟨_,_,_,_,e⟩:=e; exact R1 e
 | mapUpdate t m k v =>
  simp only [Z0m,Option.bind_eq_some_iff] at e
  obtain ⟨_,_,_,_,_,_,h',hs,e⟩:=e
  cases e
  exact NoL.mapUpdate hs
 | insert t m k v =>
  simp only [Z0m,Option.bind_eq_some_iff] at e
  obtain ⟨_,_,_,_,_,_,h',hs,e⟩:=e
  cases e
  exact NoL.mapUpdate hs
 | extract t i =>
  simp only [Z0m,Option.bind_eq_some_iff] at e
  obtain ⟨_,_,e⟩:=e
  split at e
  · simp only [Option.bind_eq_some_iff] at e; obtain ⟨_,_,e⟩:=e; cases e; exact NoL.refl _
  · cases e
 | _=>cases e
def Zbo (K:LB) (o q:Orc H):Prop:=∀ key args h c df r,KeyOK K key->Z6g K h->o key args h c df=some r->q key args h c df=some r/\Z6g K r.h
section
variable {K:LB} {o q:Orc H}
theorem Zg5 (hG:Zbo K o q) {h:H} {c:Nat} {fv:Value} {args:List Value} {r:Value × H × Nat} (hi:Z6g K h) (e:Z3V o h c fv args=some r):Z3V q h c fv args=some r/\Z6g K r.2.1:=by
 cases fv with
 | func f first cap =>
  cases f with
  | func g =>
   simp only [Z3V,Option.bind_eq_some_iff] at e ⊢
   obtain ⟨x,hx,e⟩:=e
   obtain ⟨h1,h2⟩:=hG (.fn g) _ _ _ _ _ trivial hi hx
   refine ⟨⟨x,h1,e⟩, ?_⟩
   split at e
   · cases e; exact h2
   · cases e
  | yield l =>
   simp only [Z3V] at e ⊢
   obtain ⟨h0,e⟩:=Z05 e
   rw [h0]
   split at e
   · rename_i st hg
     obtain ⟨h1,e⟩:=Z05 e
     simp only [Option.bind_eq_some_iff] at e
     obtain ⟨x,hx,e⟩:=e
     obtain ⟨h2,h3⟩:=hG (.rnd _ _ _ _ _ _ _) _ _ _ _ _ (hi _ _ hg) hi hx
     simp only [h1,cond_true,Option.bind_eq_some_iff]
     refine ⟨⟨x,h2,e⟩, ?_⟩
     split at e
     · cases e; exact h3
     · cases e
   · cases e
  | _=>simp [Z3V] at e
 | _=>simp [Z3V] at e
theorem ZhY (hG:Zbo K o q) {id:Nat} {tm:Tm} {h:H} {c:Nat} {op:Op} {r:Value × H × Nat} (hi:Z6g K h) (e:Z0m P o id tm h c op=some r):Z0m P q id tm h c op=some r/\Z6g K r.2.1:=by
 cases op with
 | call k =>
  simp only [Z0m,Option.bind_eq_some_iff] at e ⊢
  obtain ⟨args,ha,e⟩:=e
  cases hk:k.callee with
  | value f =>
   rw [hk] at e
   simp only [Option.bind_eq_some_iff] at e
   obtain ⟨fv,hf,e⟩:=e
   obtain ⟨h1,h2⟩:=Zg5 hG hi e
   exact ⟨⟨args,ha,by simp only [hf,Option.bind_some]; exact h1⟩,h2⟩
  | builtin b =>
   rw [hk] at e
   refine ⟨⟨args,ha,e⟩, ?_⟩
   simp only [Option.bind_eq_some_iff] at e
   obtain ⟨x,hx,e⟩:=e
   cases e
   exact (NoL.builtin hx).inv hi
  | invoke _ _=>rw [hk] at e; cases e
 | _=>exact ⟨e,(Zlh (by intro k hk; cases hk) e).inv hi⟩
theorem Z8b (hG:Zbo K o q) {ops:Array Oper} {base i nt:Nat} {tm:Tm} {h:H} {c:Nat} {op:Oper} {r:Value × H × Nat} (hi:Z6g K h) (e:Z0V P o ops base i nt tm h c op=some r) :
 Z0V P q ops base i nt tm h c op=some r/\Z6g K r.2.1:=by
 simp only [Z0V,Option.bind_eq_some_iff] at e ⊢
 obtain ⟨w,hw,e⟩:=e
 obtain ⟨h0,e⟩:=Z05 e
 cases w with
 | true =>
  obtain ⟨h1,h2⟩:=ZhY hG hi e
  exact ⟨⟨true,hw,by rw [h0]; exact h1⟩,h2⟩
 | false =>
  refine ⟨⟨false,hw,by rw [h0]; exact e⟩, ?_⟩
  cases e
  exact hi
theorem Z65 (hG:Zbo K o q) {ops:Array Oper} {base nt:Nat}:∀ {l:List Oper} {i:Nat} {tm:Tm} {h:H} {c:Nat} {r:Tm × H × Nat},Z6g K h->Z1g P o ops base nt l i tm h c=some r →
 Z1g P q ops base nt l i tm h c=some r/\Z6g K r.2.1
 | [],i,tm,h,c,r,hi,e=>⟨e,by cases e; exact hi⟩
 | op::l,i,tm,h,c,r,hi,e=>by
  simp only [Z1g,Option.bind_eq_some_iff] at e ⊢
  obtain ⟨x,hx,e⟩:=e
  obtain ⟨h1,h2⟩:=Z8b hG hi hx
  obtain ⟨h3,h4⟩:=Z65 hG h2 e
  exact ⟨⟨x,h1,h3⟩,h4⟩
theorem Z7y (hG:Zbo K o q) {ops:Array Oper} {base nt:Nat}:∀ {l:List Oper} {i:Nat} {tm:Tm} {h:H} {c:Nat} {r:Tm × H × Nat × List (Option Nat × H)},Z6g K h →
 Z18 P o ops base nt l i tm h c=some r->Z18 P q ops base nt l i tm h c=some r/\Z6g K r.2.1
 | [],i,tm,h,c,r,hi,e=>⟨e,by cases e; exact hi⟩
 | op::l,i,tm,h,c,r,hi,e=>by
  simp only [Z18,Option.bind_eq_some_iff] at e ⊢
  obtain ⟨x,hx,y,hy,e⟩:=e
  obtain ⟨h1,h2⟩:=Z8b hG hi hx
  obtain ⟨h3,h4⟩:=Z7y hG h2 hy
  refine ⟨⟨x,h1,y,h3,e⟩, ?_⟩
  cases e
  exact h4
theorem Zca (hG:Zbo K o q) {ops:Array Oper} {draw:Bool} {nt:Nat} {tm:Tm} {h:H} {c:Nat} {r:Tm × H × Nat} (hi:Z6g K h) (e:Z5c P o ops draw nt tm h c=some r) :
 Z5c P q ops draw nt tm h c=some r/\Z6g K r.2.1:=by
 simp only [Z5c] at e ⊢
 cases draw with
 | false=>exact Z65 hG hi e
 | true =>
  obtain ⟨h0,e⟩:=Z05 e
  simp only [cond_true,h0]
  cases h1:(lws ops).isEmpty with
  | true=>rw [h1] at e; exact Z65 hG hi e
  | false =>
   rw [h1] at e
   simp only [cond_false,Option.bind_eq_some_iff] at e ⊢
   obtain ⟨x,hx,e⟩:=e
   obtain ⟨h2,h3⟩:=Z7y hG hi hx
   refine ⟨⟨x,h2,e⟩, ?_⟩
   obtain ⟨_,e⟩:=Z05 e
   cases e
   exact h3
theorem Z8Z {β γ:Type} {e:Ex} {f:Ex->Option β} {g:Ex->Option γ} {x:β}:∀ {l:List Ex},ZlX e f l=some x->f e=some x/\ZlX e g l=g e
 | [],h=>by cases h
 | y::l,h=>by
  simp only [ZlX] at h ⊢
  cases hb:Z0u e y with
  | true=>rw [hb] at h; rw [Zbe hb]; exact ⟨h,rfl⟩
  | false=>rw [hb] at h; exact Z8Z h
theorem Zch (hG:Zbo K o q) {nt:Nat} {rd:Option Nat} {lin:List Nat} {ps:Array Tmp} {a b:ACode} {fv:Value} {vs:List Value} {h:H} {c:Nat} {df:List Nat} {r:Ex × H × Nat × List Nat} (hi:Z6g K h)
 (hk:K.rng nt ps.toList=some (lin,a,b)) (e:Z3O o nt rd lin [] ps a b fv vs h c df=some r):Z3O q nt rd lin [] ps a b fv vs h c df=some r/\Z6g K r.2.1:=by
 unfold Z3O at e ⊢
 split at e
 · rename_i g first cap
   simp only [Option.bind_eq_some_iff] at e ⊢
   obtain ⟨hd,hhd,x,hx,e⟩:=e
   have hi1:Z6g K hd.1:=by
    unfold Z2Q at hhd
    split at hhd
    · cases hhd; exact (NoL.set (fun st=>by simp)).inv hi
    · split at hhd
      · cases hhd; exact hi
      · cases hhd
   have hi2:Z6g K (HeapC.set hd.1 (256*c) (.loop { state:=.ready,pending:=none,nt:=nt,vals:=vs,lin:=lin,fr:=[],params:=ps.toList,assign:=a,body:=b,dfr:=hd.2 })):=by
    intro i st hst
    rw [HeapC.get_set] at hst
    split at hst
    · cases hst; exact ⟨rfl,hk⟩
    · exact hi1 i st hst
   obtain ⟨h1,h2⟩:=hG (.fn g) _ _ _ _ _ trivial hi2 hx
   refine ⟨⟨hd,hhd,x,h1,e⟩, ?_⟩
   split at e
   · rename_i st hg
     cases hb:decide (st.state=LoopState.busy) with
     | true=>rw [hb] at e; cases e
     | false =>
      rw [hb] at e
      simp only [cond_false,Option.bind_eq_some_iff] at e
      obtain ⟨y,_,e⟩:=e
      cases e
      exact NoL.del.inv h2
   · cases e
 · cases e
theorem ZaI (hG:Zbo K o q) {nt:Nat} {rd:Option Nat}:∀ {code:ACode},Z0a K nt code -> ∀ {β:Type} {tm:Tm} {h:H} {c:Nat} {df:List Nat} {Kf:Kx H β} {x:β},Z6g K h->jx P o nt rd code tm h c df Kf=some x →
 ∃ e tm1 h1 c1 df1,Kf e tm1 h1 c1 df1=some x/\Z6g K h1 /\ ∀ {γ:Type} (Kg:Kx H γ),jx P q nt rd code tm h c df Kg=Kg e tm1 h1 c1 df1:=by
 intro code
 induction code with
 | skip=>intro _ β tm h c df Kf x hi e; exact ⟨_,_,_,_,_,e,hi,fun _=>rfl⟩
 | region id ops d =>
  intro _ β tm h c df Kf x hi e
  simp only [jx,Zcg,Option.bind_eq_some_iff] at e
  obtain ⟨y,hy,e⟩:=e
  obtain ⟨h1,h2⟩:=Zca hG hi hy
  exact ⟨_,_,_,_,_,e,h2,fun Kg=>by simp only [jx,Zcg,h1,Option.bind_some]⟩
 | seq a b iha ihb =>
  intro hok β tm h c df Kf x hi e
  simp only [jx] at e
  obtain ⟨e1,tm1,h1,c1,df1,hk,hi1,hg⟩:=iha hok.1 hi e
  cases e1 with
  | normal =>
   obtain ⟨e2,tm2,h2,c2,df2,hk2,hi2,hg2⟩:=ihb hok.2 hi1 hk
   exact ⟨_,_,_,_,_,hk2,hi2,fun Kg=>by simp only [jx]; rw [hg]; exact hg2 Kg⟩
  | exit i=>exact ⟨_,_,_,_,_,hk,hi1,fun Kg=>by simp only [jx]; rw [hg]⟩
  | ret=>exact ⟨_,_,_,_,_,hk,hi1,fun Kg=>by simp only [jx]; rw [hg]⟩
 | cond y a b iha ihb =>
  intro hok β tm h c df Kf x hi e
  simp only [jx,Option.bind_eq_some_iff] at e
  obtain ⟨v,hv,e⟩:=e
  split at e
  · rename_i t
    cases t
    · obtain ⟨e1,tm1,h1,c1,df1,hk,hi1,hg⟩:=ihb hok.2 hi e
      exact ⟨_,_,_,_,_,hk,hi1,fun Kg=>by simp only [jx,hv,Option.bind_some,cond_false]; exact hg Kg⟩
    · obtain ⟨e1,tm1,h1,c1,df1,hk,hi1,hg⟩:=iha hok.1 hi e
      exact ⟨_,_,_,_,_,hk,hi1,fun Kg=>by simp only [jx,hv,Option.bind_some,cond_true]; exact hg Kg⟩
  · cases e
 | block id a ih =>
  intro hok β tm h c df Kf x hi e
  simp only [jx] at e
  obtain ⟨e1,tm1,h1,c1,df1,hk,hi1,hg⟩:=ih hok hi e
  cases e1 with
  | normal=>exact ⟨_,_,_,_,_,hk,hi1,fun Kg=>by simp only [jx]; rw [hg]⟩
  | exit i =>
   cases hb:Nat.beq i id with
   | true=>simp only [hb] at hk; exact ⟨_,_,_,_,_,hk,hi1,fun Kg=>by simp only [jx]; rw [hg]; simp only [hb,cond_true]⟩
   | false=>simp only [hb] at hk; exact ⟨_,_,_,_,_,hk,hi1,fun Kg=>by simp only [jx]; rw [hg]; simp only [hb,cond_false]⟩
  | ret=>exact ⟨_,_,_,_,_,hk,hi1,fun Kg=>by simp only [jx]; rw [hg]⟩
 | loop j lin fr outs b _ =>
  intro hok β tm h c df Kf x hi e
  simp only [jx,Option.bind_eq_some_iff] at e
  obtain ⟨vs,hv,r,hr,e⟩:=e
  obtain ⟨h1,h2⟩:=hG (.lp j lin fr b nt rd) _ _ _ _ _ hok hi hr
  refine ⟨r.e,tmL lin r.vs,r.h,r.c,r.df, ?_,h2,fun {γ} Kg=>?_⟩
  · exact (Z8Z (γ:=β) (g:=fun _=>none) e).1
  · simp only [jx,hv,Option.bind_some,h1]
    exact (Z8Z (g:=fun e=>Kg e (tmL lin r.vs) r.h r.c r.df) e).2
 | rangeFunc j lin fr outs f ps a b _ _ =>
  intro hok β tm h c df Kf x hi e
  obtain ⟨rfl,hk⟩:=hok
  simp only [jx,Option.bind_eq_some_iff] at e
  obtain ⟨fv,hf,vs,hv,r,hr,e⟩:=e
  obtain ⟨h1,h2⟩:=Zch hG hi hk hr
  refine ⟨r.1,tm,r.2.1,r.2.2.1,r.2.2.2, ?_,h2,fun {γ} Kg=>?_⟩
  · exact (Z8Z (γ:=β) (g:=fun _=>none) e).1
  · simp only [jx,hf,hv,Option.bind_some,h1]
    exact (Z8Z (g:=fun e=>Kg e tm r.2.1 r.2.2.1 r.2.2.2) e).2
 | exit id=>intro _ β tm h c df Kf x hi e; exact ⟨_,_,_,_,_,e,hi,fun _=>rfl⟩
 | ret=>intro _ β tm h c df Kf x hi e; exact ⟨_,_,_,_,_,e,hi,fun _=>rfl⟩
 | bad _=>intro _ β tm h c df Kf x hi e; cases e
 | join lays a ih =>
  intro hok β tm h c df Kf x hi e
  simp only [jx,Option.bind_eq_some_iff] at e
  obtain ⟨r,hr,e⟩:=e
  obtain ⟨e1,tm1,h1,c1,df1,hk,hi1,hg⟩:=ih hok hi hr
  have hk':=hk
  simp only [Option.bind_eq_some_iff] at hk'
  obtain ⟨l,hl,vs,hvs,hk'⟩:=hk'
  cases hk'
  refine ⟨e1,tmL l vs,h1,c1,df1, ?_,hi1,fun {γ} Kg=>?_⟩
  · obtain ⟨lay,h3,h4⟩:=Z5L e
    simp only at h3 h4
    rw [hl] at h3
    cases h3
    exact h4
  · simp only [jx]
    rw [hg]
    simp only [hl,hvs,Option.bind_some]
    obtain ⟨lay,h3,h4⟩:=Z5L e
    simp only at h3 h4
    rw [hl] at h3
    cases h3
    clear hg hk hr h4
    have:∀ {ls:List (Ex × List Nat)} {l:List Nat},ZnU e1 ls=some l->Zg2 ({ e:=e1,vs:=vs,h:=h1,c:=c1,df:=df1 }:Rt H) Kg ls=Kg e1 (tmL l vs) h1 c1 df1:=by
     intro ls
     induction ls with
     | nil=>intro l h; cases h
     | cons y ls ih2 =>
      intro l h
      simp only [ZnU] at h
      simp only [Zg2]
      cases hb:Z0u e1 y.1 with
      | true=>rw [hb] at h; cases h; rw [Zbe hb]; rfl
      | false=>rw [hb] at h; exact ih2 h
    exact this hl
end
structure Tab (H:Type) where
 F:FuncId->Option (Orc H->List Value->H->Nat->Option (Rt H))
 L:Nat->Option (Orc H->Option Nat->List Value->H->Nat->List Nat->Option (Rt H))
 R:Nat->List Nat->Option (Orc H->Nat->List Value->H->Nat->Option (Rt H))
noncomputable def evT (T:Tab H) (n:Nat):Orc H :=
 Nat.rec (motive:=fun _=>Orc H) (fun _ _ _ _ _=>none)
  (fun _ o key args h c df=>Key.rec (motive:=fun _=>Option (Rt H))
   (fun f=>(T.F f).bind fun F=>F o args h c)
   (fun j lin fr b nt rd=>(T.L j).bind fun B=>(B o rd args h c df).bind fun q =>
    match q.e with
    | .normal=>o (.lp j lin fr b nt rd) q.vs q.h q.c q.df
    | .exit i=>some { q with e:=.exit i }
    | .ret=>some { q with e:=.ret })
   (fun nt _ _ params l _ _=>(T.R nt params).bind fun D=>D o l args h c) key) n
theorem Zbf (T:Tab H) (n:Nat) (key:Key) (args:List Value) (h:H) (c:Nat) (df:List Nat):evT T (n+1) key args h c df =
 match key with
 | .fn f=>(T.F f).bind fun F=>F (evT T n) args h c
 | .lp j lin fr b nt rd=>(T.L j).bind fun B=>(B (evT T n) rd args h c df).bind fun q =>
  match q.e with
  | .normal=>evT T n (.lp j lin fr b nt rd) q.vs q.h q.c q.df
  | .exit i=>some { q with e:=.exit i }
  | .ret=>some { q with e:=.ret }
 | .rnd nt _ _ params l _ _=>(T.R nt params).bind fun D=>D (evT T n) l args h c:=by
 cases key <;> rfl
structure TabOK (P:Program) (bk:FuncId->Option AFun) (K:LB) (T:Tab H):Prop where
 F:∀ f F,T.F f=some F -> ∃ a,bk f=some a/\a.fr=[]/\Z0a K a.nt a.code /\ ∀ o args h c r,F o args h c=some r →
  Nat.ble args.length a.nt=true/\jx P o a.nt none a.code (Z0l (List.range args.length) args) h c [] (Kfn P a.res)=some r
 L:∀ j B lin b nt,T.L j=some B->K.loop j=some (lin,b,nt)->Z0a K nt b /\ ∀ o rd vs h c df q,B o rd vs h c df=some q->jx P o nt rd b (Z0l lin vs) h c df (Klp lin)=some q
 R:∀ nt ps D lin a b,T.R nt ps=some D->K.rng nt ps=some (lin,a,b)->Z0a K nt a/\Z0a K nt b /\ ∀ o l vs h c r,D o l vs h c=some r →
  jx P o nt (some l) a (Z0l (ps++lin) vs) h c [] (ZiI P o nt l b)=some r
theorem ZnQ {K:LB} {res:List ResultVar} {e:Ex} {tm:Tm} {h:H} {c:Nat} {df:List Nat} {r:Rt H} (hi:Z6g K h) (hk:Kfn P res e tm h c df=some r):Z6g K r.h:=by
 have tk:∀ (ds:List Nat) (h h1:H),Z09 h ds=some h1->NoL h h1:=by
  intro ds
  induction ds with
  | nil=>intro h h1 e; cases e; exact NoL.refl _
  | cons d ds ih =>
   intro h h1 e
   simp only [Z09] at e
   split at e
   · exact NoL.del.trans (ih _ _ e)
   · cases e
 cases e with
 | exit i=>cases hk
 | normal =>
  simp only [Kfn,Z5l,Option.bind_eq_some_iff] at hk
  obtain ⟨h1,ht,vs,_,hk⟩:=hk
  cases hk
  exact (tk _ _ _ ht).inv hi
 | ret =>
  simp only [Kfn,Z5l,Option.bind_eq_some_iff] at hk
  obtain ⟨h1,ht,vs,_,hk⟩:=hk
  cases hk
  exact (tk _ _ _ ht).inv hi
theorem Zbz {K:LB} {h h':H} {l:Nat} {s:LoopState} {pd:Option Code} (hi:Z6g K h) (e:Z0t h l s pd=some h'):Z6g K h':=by
 unfold Z0t at e
 split at e
 · rename_i st hg
   cases e
   intro i st' h'
   rw [HeapC.get_set] at h'
   split at h'
   · cases h'; exact hi l st hg
   · exact hi _ _ h'
 · cases e
theorem Zda {K:LB} {h h':H} {l:Nat} (hi:Z6g K h) (e:Z27 h l=some h'):Z6g K h':=by
 unfold Z27 at e
 split at e
 · rename_i st hg
   obtain ⟨_,e⟩:=Z05 e
   cases e
   intro i st' h'
   rw [HeapC.get_set] at h'
   split at h'
   · cases h'; exact hi l st hg
   · exact hi _ _ h'
 · cases e
theorem ZeP {bk:FuncId->Option AFun} {K:LB} {T:Tab H} (hT:TabOK P bk K T):∀ n,Zbo K (evT T n) (run P bk)
 | 0=>fun _ _ _ _ _ _ _ _ e=>by cases e
 | n+1=>by
  have ih:=ZeP hT n
  intro key args h c df r hk hi e
  cases key with
  | fn f =>
   simp only [Zbf,Option.bind_eq_some_iff] at e
   obtain ⟨F,hF,e⟩:=e
   obtain ⟨a,ha,hfr,hok,h1⟩:=hT.F f F hF
   obtain ⟨hlen,h2⟩:=h1 _ _ _ _ _ e
   obtain ⟨e1,tm1,h3,c1,df1,h4,h5,h6⟩:=ZaI ih hok hi h2
   exact ⟨run_fn ha hfr hlen (by rw [h6]; exact h4),ZnQ h5 h4⟩
  | lp j lin fr b nt rd =>
   obtain ⟨rfl,hkl⟩:=hk
   simp only [Zbf,Option.bind_eq_some_iff] at e
   obtain ⟨B,hB,q,hq,e⟩:=e
   obtain ⟨hok,h1⟩:=hT.L j B lin b nt hB hkl
   have h2:=h1 _ _ _ _ _ _ _ hq
   obtain ⟨e1,tm1,h3,c1,df1,h4,h5,h6⟩:=ZaI ih hok hi h2
   have h7:jx P (run P bk) nt rd b (Z0l lin args) h c df (Klp lin)=some q:=by rw [h6]; exact h4
   have hqe:q.e=e1/\Z6g K q.h:=by
    simp only [Klp,Option.bind_eq_some_iff] at h4
    obtain ⟨ws,_,h4⟩:=h4
    cases h4
    exact ⟨rfl,h5⟩
   cases hx:q.e with
   | normal =>
    rw [hx] at e
    obtain ⟨h8,h9⟩:=ih (.lp j lin [] b nt rd) _ _ _ _ _ ⟨rfl,hkl⟩ hqe.2 e
    exact ⟨Zc9 h7 hx h8,h9⟩
   | exit i =>
    rw [hx] at e
    have:r=q:=by obtain ⟨qe,qv,qh,qc,qd⟩:=q; simp only at hx; subst hx; cases e; rfl
    subst this
    exact ⟨Z8g h7 (by rw [hx]; simp),hqe.2⟩
   | ret =>
    rw [hx] at e
    have:r=q:=by obtain ⟨qe,qv,qh,qc,qd⟩:=q; simp only at hx; subst hx; cases e; rfl
    subst this
    exact ⟨Z8g h7 (by rw [hx]; simp),hqe.2⟩
  | rnd nt lin fr params l a b =>
   obtain ⟨rfl,hkr⟩:=hk
   simp only [Zbf,Option.bind_eq_some_iff] at e
   obtain ⟨D,hD,e⟩:=e
   obtain ⟨hoa,hob,h1⟩:=hT.R nt params D lin a b hD hkr
   have h2:=h1 _ _ _ _ _ _ e
   obtain ⟨e1,tm1,h3,c1,df1,h4,h5,h6⟩:=ZaI ih hoa hi h2
   cases e1 with
   | exit i=>cases h4
   | ret=>cases h4
   | normal =>
    simp only [ZiI,Option.bind_eq_some_iff] at h4
    obtain ⟨h7,hb,h8⟩:=h4
    obtain ⟨e2,tm2,h9,c2,df2,h10,h11,h12⟩:=ZaI ih hob (Zda h5 hb) h8
    refine ⟨Zml (by rw [h6]; simp only [hb,Option.bind_some]; rw [h12]; exact h10), ?_⟩
    simp only [Krd,Option.bind_eq_some_iff] at h10
    obtain ⟨h13,hs,h14⟩:=h10
    obtain ⟨_,h14⟩:=Z05 h14
    cases h14
    exact Zbz h11 hs
inductive BT (α:Type) where
 | leaf
 | node (k:Nat) (v:α) (l r:BT α)
noncomputable def BT.look {α:Type} (t:BT α) (f:Nat):Option α :=
 BT.rec (motive:=fun _=>Option α) none (fun k v _ _ l r=>cond (Nat.beq f k) (some v) (cond (Nat.blt f k) l r)) t
theorem BT.look_node {α:Type} (k:Nat) (v:α) (l r:BT α) (f:Nat):(BT.node k v l r).look f=cond (Nat.beq f k) (some v) (cond (Nat.blt f k) (l.look f) (r.look f)):=rfl
def BT.All {α:Type} (Q:Nat->α->Prop):BT α->Prop
 | .leaf=>True
 | .node k v l r=>Q k v/\l.All Q/\r.All Q
theorem BT.look_all {α:Type} {Q:Nat->α->Prop}:∀ {t:BT α},t.All Q -> ∀ {f:Nat} {v:α},t.look f=some v->Q f v
 | .leaf,_,f,v,e=>by cases e
 | .node k w l r,h,f,v,e=>by
  rw [BT.look_node] at e
  cases hb:Nat.beq f k with
  | true=>rw [hb] at e; cases e; rw [Nat.eq_of_beq_eq_true hb]; exact h.1
  | false =>
   rw [hb] at e
   cases hc:Nat.blt f k with
   | true=>rw [hc] at e; exact look_all h.2.1 e
   | false=>rw [hc] at e; exact look_all h.2.2 e
def nlEq:List Nat->List Nat->Bool
 | [],[]=>true
 | x::xs,y::ys=>cond (Nat.beq x y) (nlEq xs ys) false
 | _,_=>false
theorem ZgS:∀ {a b:List Nat},nlEq a b=true->a=b
 | [],[],_=>rfl
 | x::xs,y::ys,h=>by
  simp only [nlEq] at h
  cases hb:Nat.beq x y with
  | true=>rw [hb] at h; rw [Nat.eq_of_beq_eq_true hb,ZgS h]
  | false=>rw [hb] at h; cases h
 | [],y::ys,h=>by cases h
 | x::xs,[],h=>by cases h
def Zh3 {α:Type} (nt:Nat) (ps:List Nat):List (Nat × List Nat × α)->Option α
 | []=>none
 | x::xs=>cond (cond (Nat.beq nt x.1) (nlEq ps x.2.1) false) (some x.2.2) (Zh3 nt ps xs)
def AllR {α:Type} (Q:Nat->List Nat->α->Prop):List (Nat × List Nat × α)->Prop
 | []=>True
 | x::xs=>Q x.1 x.2.1 x.2.2/\AllR Q xs
theorem ZbK {α:Type} {Q:Nat->List Nat->α->Prop} {nt:Nat} {ps:List Nat}:∀ {l:List (Nat × List Nat × α)},AllR Q l -> ∀ {v:α},Zh3 nt ps l=some v->Q nt ps v
 | [],_,v,e=>by cases e
 | x::xs,h,v,e=>by
  simp only [Zh3] at e
  cases hb:cond (Nat.beq nt x.1) (nlEq ps x.2.1) false with
  | false=>rw [hb] at e; exact ZbK h.2 e
  | true =>
   rw [hb] at e
   cases e
   cases hc:Nat.beq nt x.1 with
   | false=>rw [hc] at hb; cases hb
   | true=>rw [hc] at hb; rw [Nat.eq_of_beq_eq_true hc,ZgS hb]; exact h.1
def Z0M (P:Program) (f:FuncId) (a:AFun):Prop :=
 ∃ fn c,P.funcs[f]? = some fn/\fn.body=some c/\(fn.name == "runtime.NumGoroutine")=false/\Z3K a.code=c/\a.nt=fn.ntmps/\a.res=fn.results.toList
def FE (P:Program) (bk:FuncId->Option AFun) (K:LB) (f:FuncId) (F:Orc H->List Value->H->Nat->Option (Rt H)):Prop :=
 ∃ a,bk f=some a/\a.fr=[]/\Z0a K a.nt a.code /\ ∀ o args h c r,F o args h c=some r →
  Nat.ble args.length a.nt=true/\jx P o a.nt none a.code (Z0l (List.range args.length) args) h c [] (Kfn P a.res)=some r
def LE (P:Program) (K:LB) (j:Nat) (B:Orc H->Option Nat->List Value->H->Nat->List Nat->Option (Rt H)):Prop :=
 ∀ lin b nt,K.loop j=some (lin,b,nt)->Z0a K nt b /\ ∀ o rd vs h c df q,B o rd vs h c df=some q->jx P o nt rd b (Z0l lin vs) h c df (Klp lin)=some q
def RE (P:Program) (K:LB) (nt:Nat) (ps:List Nat) (D:Orc H->Nat->List Value->H->Nat->Option (Rt H)):Prop :=
 ∀ lin a b,K.rng nt ps=some (lin,a,b)->Z0a K nt a/\Z0a K nt b /\ ∀ o l vs h c r,D o l vs h c=some r->jx P o nt (some l) a (Z0l (ps++lin) vs) h c [] (ZiI P o nt l b)=some r
end Go.Ab
