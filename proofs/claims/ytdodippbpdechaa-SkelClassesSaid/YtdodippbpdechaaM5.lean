/- Parts of a proof: AbShal AbGen AbEv AbCps AbJx AbPrim AbEval. Conditions: none. -/
import Derived.Test.YtdodippbpdechaaM4
set_option linter.all false
set_option maxRecDepth 100000
set_option maxHeartbeats 4000000
namespace Go.Ab
open Go
variable {H:Type} [HeapC H] {P:Program}
theorem rid_le {o:Orc H} {ops:Array Oper} {base i nt c:Nat} {tm tm':Tm} {h:H} {oper:Oper} {r:Value × H × Nat} (hl:tm.le tm') (e:Z15 P o ops base i nt tm h c oper=some r):rid ops tm' oper=rid ops tm oper:=by
 obtain ⟨b,hb,_,_,he⟩:=Z1i e
 have hb':=ZaQ hl hb
 simp only [rid,hb,hb']
 cases b with
 | false=>rfl
 | true =>
  rcases he with ⟨_,he⟩ | ⟨h0,_⟩
  · simp only
    cases hop:oper.op <;> rw [hop] at he <;> try rfl
    case load t a =>
     simp only [Z0u,qA] at he
     obtain ⟨v,hv,_⟩:=he
     simp only [Za1,hv,Z0k hl hv]
    case lookup t m k ok =>
     simp only [Z0u,qA] at he
     obtain ⟨v,hv,_⟩:=he
     simp only [Za1,hv,Z0k hl hv]
    case slice t x lo hi mx =>
     simp only [Z0u,qA] at he
     obtain ⟨v,hv,_⟩:=he
     simp only [Za1,hv,Z0k hl hv]
    case call k =>
     obtain ⟨callee,args,ats⟩:=k
     cases callee with
     | builtin b =>
      cases b <;> try rfl
      simp only [Z0u,qA] at he
      obtain ⟨avs,ha,_⟩:=he
      simp only [Za1]
      cases hal:args.toList with
      | nil =>
       have:args[0]? = none:=by rw [← Array.getElem?_toList,hal]; rfl
       rw [this]; rfl
      | cons y ys =>
       rw [hal] at ha
       simp only [Z1I,qA] at ha
       obtain ⟨v0,h0,_⟩:=ha
       have:args[0]? = some y:=by rw [← Array.getElem?_toList,hal]; rfl
       rw [this]
       simp only [qD,h0,Z0k hl h0]
     | _=>rfl
  · cases h0
theorem ZaW {o:Orc H} {ops:Array Oper} {base nt:Nat}:∀ {l:List Oper} {i:Nat} {tm tm':Tm} {h:H} {c:Nat} {q:Tm × H × Nat × List (Option Nat × H)},tm.le tm'->Z1d P o ops base nt l i tm h c=some q →
 ∃ tm1,Z1d P o ops base nt l i tm' h c=some (tm1,q.2)/\q.1.le tm1
 | [],i,tm,tm',h,c,q,hl,e=>by
  simp only [Z1d,Option.some.injEq] at e ⊢
  subst e
  exact ⟨tm',rfl,hl⟩
 | oper::l,i,tm,tm',h,c,q,hl,e=>by
  simp only [Z1d,qA] at e ⊢
  obtain ⟨r,hr,q1,hq1,e⟩:=e
  cases e
  obtain ⟨tm1,h1,h2⟩:=ZaW (ZiU hl oper.dst r.1) hq1
  refine ⟨tm1,⟨r,Zdm hl hr,_,h1, ?_⟩,h2⟩
  rw [rid_le hl hr]
theorem ZiK {o:Orc H} {ops:Array Oper} {draw:Bool} {nt:Nat} {tm tm':Tm} {h:H} {c:Nat} {r:Tm × H × Nat} (hl:tm.le tm') (e:Z5z P o ops draw nt tm h c=some r) :
 ∃ tm1,Z5z P o ops draw nt tm' h c=some (tm1,r.2)/\r.1.le tm1:=by
 cases draw with
 | false=>exact Z9W hl e
 | true =>
  obtain ⟨hreg,e1⟩:=Z06 (show cond (Za3 ops) _ none=some r from e)
  clear e
  show ∃ tm1,cond (Za3 ops) _ none=_/\_
  rw [hreg]
  simp only [cond_true]
  cases hw:(lws ops).isEmpty with
  | true=>rw [hw] at e1; exact Z9W hl e1
  | false =>
   rw [hw] at e1
   simp only [cond_false,qA] at e1 ⊢
   obtain ⟨q,hq,e2⟩:=e1
   obtain ⟨hlw,e3⟩:=Z06 e2
   cases e3
   obtain ⟨tm1,h1,h2⟩:=ZaW hl hq
   exact ⟨tm1,⟨_,h1,by simp only [hlw]; rfl⟩,h2⟩
theorem Z2j {tm:Tm}:∀ {l:List Nat} {vs:List Value},vals tm l=some vs->vs.length=l.length
 | [],vs,h=>by simp only [Ab.vals,Option.some.injEq] at h; subst h; rfl
 | t::l,vs,h=>by
  simp only [Ab.vals,qA] at h
  obtain ⟨x,_,ws,hw,h⟩:=h
  cases h
  simp [Z2j hw]
end Go.Ab


namespace Go.Ab
open Go
variable {H:Type} [HeapC H] {P:Program}
def Ev {α:Type} (xs:Nat->Option α) (r:α):Prop:=∃ n,∀ m,n<=m->xs m=some r
theorem Ev.const {α:Type} {x:Option α} {r:α} (h:x=some r):Ev (fun _=>x) r:=⟨0,fun _ _=>h⟩
theorem Ev.bind {α β:Type} {xs:Nat->Option α} {a:α} {fs:Nat->α->Option β} {b:β} (h:Ev xs a) (k:Ev (fun n=>fs n a) b):Ev (fun n=>(xs n).bind (fs n)) b:=by
 obtain ⟨n,hn⟩:=h
 obtain ⟨m,hm⟩:=k
 exact ⟨n+m,fun q hq=>by simp only [hn q qO,qD]; exact hm q qO⟩
theorem Ev.bindc {α β:Type} {x:Option α} {a:α} {fs:Nat->α->Option β} {b:β} (h:x=some a) (k:Ev (fun n=>fs n a) b):Ev (fun n=>x.bind (fs n)) b:=Ev.bind (Ev.const h) k
theorem Ev.cond {α:Type} {t:Bool} {xs ys:Nat->Option α} {r:α} (h:t=true->Ev xs r) (k:t=false->Ev ys r):Ev (fun n=>cond t (xs n) (ys n)) r:=by
 cases t with
 | true=>exact h rfl
 | false=>exact k rfl
theorem Ev.congr {α:Type} {xs ys:Nat->Option α} {r:α} (e:∀ n,xs n=ys n) (h:Ev xs r):Ev ys r:=by
 obtain ⟨n,hn⟩:=h
 exact ⟨n,fun m hm=>by rw [← e]; exact hn m hm⟩
def Fam (ox:Orc H) (os:Nat->Orc H):Prop:=∀ k args h c df r,ox k args h c df=some r->Ev (fun n=>os n k args h c df) r
section
variable {ox:Orc H} {os:Nat->Orc H}
theorem Zo1 (hF:Fam ox os) {h:H} {c:Nat} {fv:Value} {args:List Value} {r:Value × H × Nat} (e:Z43 ox h c fv args=some r):Ev (fun n=>Z43 (os n) h c fv args) r:=by
 cases fv with
 | func f first cap =>
  cases f with
  | func g =>
   simp only [Z43,qA] at e ⊢
   obtain ⟨q,hq,e⟩:=e
   exact Ev.bind (hF _ _ _ _ _ _ hq) (Ev.const e)
  | yield l =>
   simp only [Z43] at e ⊢
   refine Ev.cond (fun h0=>?_) (fun h0=>by rw [h0] at e; cases e)
   rw [h0] at e
   simp only [cond_true] at e
   split at e
   · rename_i st hg
     refine Ev.cond (fun h1=>?_) (fun h1=>by rw [h1] at e; cases e)
     rw [h1] at e
     simp only [cond_true,qA] at e
     obtain ⟨q,hq,e⟩:=e
     exact Ev.bind (hF _ _ _ _ _ _ hq) (Ev.const e)
   · cases e
  | _=>simp [Z43] at e
 | _=>simp [Z43] at e
theorem Zqk (hF:Fam ox os) {id:Nat} {tm:Tm} {h:H} {c:Nat} {op:Op} {r:Value × H × Nat} (e:Z0u P ox id tm h c op=some r):Ev (fun n=>Z0u P (os n) id tm h c op) r:=by
 cases op with
 | call k =>
  simp only [Z0u,qA] at e ⊢
  obtain ⟨args,ha,e⟩:=e
  refine Ev.bindc ha ?_
  cases hk:k.callee with
  | value f =>
   rw [hk] at e
   simp only [qA] at e
   obtain ⟨fv,hf,e⟩:=e
   exact Ev.bindc hf (Zo1 hF e)
  | builtin b=>rw [hk] at e; exact Ev.const e
  | invoke _ _=>rw [hk] at e; cases e
 | _=>exact Ev.const e
theorem Zdn (hF:Fam ox os) {ops:Array Oper} {base i nt:Nat} {tm:Tm} {h:H} {c:Nat} {op:Oper} {r:Value × H × Nat} (e:Z15 P ox ops base i nt tm h c op=some r) :
 Ev (fun n=>Z15 P (os n) ops base i nt tm h c op) r:=by
 simp only [Z15,qA] at e ⊢
 obtain ⟨w,hw,e⟩:=e
 refine Ev.bindc hw ?_
 refine Ev.cond (fun h0=>?_) (fun h0=>by rw [h0] at e; cases e)
 rw [h0] at e
 refine Ev.cond (fun h1=>?_) (fun h1=>by rw [h1] at e; exact Ev.const e)
 rw [h1] at e
 exact Zqk hF e
theorem Z9X (hF:Fam ox os) {ops:Array Oper} {base nt:Nat}:∀ {l:List Oper} {i:Nat} {tm:Tm} {h:H} {c:Nat} {r:Tm × H × Nat},Z1l P ox ops base nt l i tm h c=some r->Ev (fun n=>Z1l P (os n) ops base nt l i tm h c) r
 | [],i,tm,h,c,r,e=>Ev.const e
 | op::l,i,tm,h,c,r,e=>by
  simp only [Z1l,qA] at e ⊢
  obtain ⟨q,hq,e⟩:=e
  exact Ev.bind (Zdn hF hq) (Z9X hF e)
theorem ZaX (hF:Fam ox os) {ops:Array Oper} {base nt:Nat}:∀ {l:List Oper} {i:Nat} {tm:Tm} {h:H} {c:Nat} {r:Tm × H × Nat × List (Option Nat × H)},
 Z1d P ox ops base nt l i tm h c=some r->Ev (fun n=>Z1d P (os n) ops base nt l i tm h c) r
 | [],i,tm,h,c,r,e=>Ev.const e
 | op::l,i,tm,h,c,r,e=>by
  simp only [Z1d,qA] at e ⊢
  obtain ⟨q,hq,q2,hq2,e⟩:=e
  exact Ev.bind (Zdn hF hq) (Ev.bind (ZaX hF hq2) (Ev.const e))
theorem ZiL (hF:Fam ox os) {ops:Array Oper} {draw:Bool} {nt:Nat} {tm:Tm} {h:H} {c:Nat} {r:Tm × H × Nat} (e:Z5z P ox ops draw nt tm h c=some r):Ev (fun n=>Z5z P (os n) ops draw nt tm h c) r:=by
 simp only [Z5z] at e ⊢
 refine Ev.cond (fun h0=>?_) (fun h0=>by rw [h0] at e; exact Z9X hF e)
 rw [h0] at e
 refine Ev.cond (fun h1=>?_) (fun h1=>by rw [h1] at e; cases e)
 rw [h1] at e
 refine Ev.cond (fun h2=>by rw [h2] at e; exact Z9X hF e) (fun h2=>?_)
 rw [h2] at e
 simp only [cond_true,cond_false,qA] at e
 obtain ⟨q,hq,e⟩:=e
 exact Ev.bind (ZaX hF hq) (Ev.const e)
theorem Zaq (hF:Fam ox os):∀ {code:ACode} {s:St H} {r:Ex × St H},Z2e P ox code s=some r->Ev (fun n=>Z2e P (os n) code s) r:=by
 intro code
 induction code with
 | region id ops d =>
  intro s r e
  simp only [Z2e,qA] at e ⊢
  obtain ⟨q,hq,e⟩:=e
  exact Ev.bind (ZiL hF hq) (Ev.const e)
 | seq a b iha ihb =>
  intro s r e
  simp only [Z2e,qA] at e ⊢
  obtain ⟨⟨e2,s2⟩,h1,e⟩:=e
  refine Ev.bind (iha h1) ?_
  cases e2 with
  | normal=>exact ihb e
  | exit id=>exact Ev.const e
  | ret=>exact Ev.const e
 | cond c a b iha ihb =>
  intro s r e
  simp only [Z2e,qA] at e ⊢
  obtain ⟨v,hv,e⟩:=e
  refine Ev.bindc hv ?_
  cases v with
  | bool t =>
   cases t
   · exact ihb e
   · exact iha e
  | _=>cases e
 | block id b ih =>
  intro s r e
  simp only [Z2e,qA] at e ⊢
  obtain ⟨q,hq,e⟩:=e
  exact Ev.bind (ih hq) (Ev.const e)
 | loop j lin fr outs b _ =>
  intro s r e
  simp only [Z2e,qA] at e ⊢
  obtain ⟨vs,hv,q,hq,e⟩:=e
  exact Ev.bindc hv (Ev.bind (hF _ _ _ _ _ _ hq) (Ev.const e))
 | rangeFunc j lin fr outs f ps a b _ _ =>
  intro s r e
  simp only [Z2e,Z4L,qA] at e ⊢
  obtain ⟨fv,hf,e⟩:=e
  refine Ev.bindc hf ?_
  cases fv with
  | func fk first cap =>
   cases fk with
   | func g =>
    simp only [qA] at e
    obtain ⟨vs,hv,hd,hhd,q,hq,e⟩:=e
    exact Ev.bindc hv (Ev.bindc hhd (Ev.bind (hF _ _ _ _ _ _ hq) (Ev.const e)))
   | _=>cases e
  | _=>cases e
 | join lays a ih=>intro s r e; simp only [Z2e] at e ⊢; exact ih e
 | _=>intro s r e; exact Ev.const e
theorem Z7A {bk:FuncId->Option AFun} (hF:Fam ox os):Fam (Z1L P bk ox) (fun n=>Z1L P bk (os n)):=by
 intro k args h c df r e
 cases k with
 | fn f =>
  simp only [Z1L,qA] at e ⊢
  obtain ⟨a,ha,e⟩:=e
  refine Ev.bindc ha ?_
  refine Ev.cond (fun h0=>?_) (fun h0=>by rw [h0] at e; cases e)
  rw [h0] at e
  simp only [cond_true,qA] at e
  obtain ⟨q,hq,e⟩:=e
  exact Ev.bind (Zaq hF hq) (Ev.const e)
 | lp j lin fr b nt rd =>
  simp only [Z1L,qA] at e ⊢
  obtain ⟨q,hq,vs,hv,e⟩:=e
  refine Ev.bind (Zaq hF hq) (Ev.bindc hv ?_)
  cases hq1:q.1 with
  | normal=>rw [hq1] at e; exact hF _ _ _ _ _ _ e
  | exit id=>rw [hq1] at e; exact Ev.const e
  | ret=>rw [hq1] at e; exact Ev.const e
 | rnd nt lin fr params l a b =>
  simp only [Z1L,qA] at e ⊢
  obtain ⟨q,hq,e⟩:=e
  refine Ev.bind (Zaq hF hq) ?_
  cases hq1:q.1 with
  | normal =>
   rw [hq1] at e
   simp only [qA] at e
   obtain ⟨h1,hb,q2,hq2,e⟩:=e
   exact Ev.bindc hb (Ev.bind (Zaq hF hq2) (Ev.const (by simp only [qA]; exact e)))
  | exit id=>rw [hq1] at e; cases e
  | ret=>rw [hq1] at e; cases e
end
theorem Za6 {bk:FuncId->Option AFun}:∀ n k args (h:H) c df r,orc P bk n k args h c df=some r->orc P bk (n+1) k args h c df=some r
 | 0,k,args,h,c,df,r,e=>by cases e
 | n+1,k,args,h,c,df,r,e=>by
  have hF:Fam (orc (H:=H) P bk n) (fun _=>orc P bk (n+1)):=fun k args h c df r e=>Ev.const (Za6 n k args h c df r e)
  obtain ⟨m,hm⟩:=Z7A hF k args h c df r e
  exact hm m (qG _)
theorem ZiW {bk:FuncId->Option AFun} {n m:Nat} (hnm:n<=m) {k:Key} {args:List Value} {h:H} {c:Nat} {df:List Nat} {r:Rt H} (e:orc P bk n k args h c df=some r):orc P bk m k args h c df=some r:=by
 induction hnm with
 | refl=>exact e
 | step _ ih=>exact Za6 _ _ _ _ _ _ _ ih
open Classical in
noncomputable def run (P:Program) (bk:FuncId->Option AFun):Orc H:=fun k args h c df =>
 if hx:∃ n r,orc P bk n k args h c df=some r then orc P bk (Classical.choose hx) k args h c df else none
theorem run_of {bk:FuncId->Option AFun} {n:Nat} {k:Key} {args:List Value} {h:H} {c:Nat} {df:List Nat} {r:Rt H} (e:orc P bk n k args h c df=some r):run P bk k args h c df=some r:=by
 have hx:∃ n r,orc P bk n k args h c df=some r:=⟨n,r,e⟩
 unfold run
 rw [dif_pos hx]
 obtain ⟨r',h'⟩:=Classical.choose_spec hx
 have h1:=ZiW (Nat.le_max_left (Classical.choose hx) n) h'
 have h2:=ZiW (Nat.le_max_right (Classical.choose hx) n) e
 rw [h1] at h2
 rw [h',h2]
theorem Zcz {bk:FuncId->Option AFun} {k:Key} {args:List Value} {h:H} {c:Nat} {df:List Nat} {r:Rt H} (e:run P bk k args h c df=some r):∃ n,orc P bk n k args h c df=some r:=by
 unfold run at e
 split at e
 · exact ⟨_,e⟩
 · cases e
theorem Zp4 {bk:FuncId->Option AFun}:Fam (run (H:=H) P bk) (orc P bk):=by
 intro k args h c df r e
 obtain ⟨n,hn⟩:=Zcz e
 exact ⟨n,fun m hm=>ZiW hm hn⟩
theorem Z9F {bk:FuncId->Option AFun} {k:Key} {args:List Value} {h:H} {c:Nat} {df:List Nat} {r:Rt H} (e:Z1L P bk (run P bk) k args h c df=some r):run P bk k args h c df=some r:=by
 obtain ⟨n,hn⟩:=Z7A (Zp4 (P:=P) (bk:=bk)) k args h c df r e
 exact run_of (n:=n+1) (hn n (qG _))
theorem Z6M {bk:FuncId->Option AFun}:∀ n j lin fr b nt rd vs (h:H) c df r,orc P bk n (.lp j lin fr b nt rd) vs h c df=some r->r.vs.length=lin.length
 | 0,_,_,_,_,_,_,_,_,_,_,_,e=>by cases e
 | n+1,j,lin,fr,b,nt,rd,vs,h,c,df,r,e=>by
  simp only [orc,Z1L,qA] at e
  obtain ⟨q,hq,ws,hw,e⟩:=e
  cases hq1:q.1 with
  | normal=>rw [hq1] at e; exact Z6M n j lin fr b nt rd _ _ _ _ r e
  | exit id=>rw [hq1] at e; cases e; exact Z2j hw
  | ret=>rw [hq1] at e; cases e; exact Z2j hw
theorem ZcA {bk:FuncId->Option AFun} {j:Nat} {lin fr:List Nat} {b:ACode} {nt:Nat} {rd:Option Nat} {vs:List Value} {h:H} {c:Nat} {df:List Nat} {r:Rt H} (e:run P bk (.lp j lin fr b nt rd) vs h c df=some r):r.vs.length=lin.length:=by
 obtain ⟨n,hn⟩:=Zcz e
 exact Z6M _ _ _ _ _ _ _ _ _ _ _ _ hn
theorem ZiJ {bk:FuncId->Option AFun} (hbk:Z7E P bk) (hmix:P.follows .mixedOrders=true) {f:FuncId} {args args':List Value} {A:H} {c:Nat} {r:Rt H} (e:run P bk (.fn f) args A c []=some r) {μ:Mu} {w:World}
 (hv:VRs μ args args') (hR:R μ A w) (hfr:Z22 μ c):Calls P f args'.toArray w (Z6g μ A c w r):=by
 obtain ⟨n,hn⟩:=Zcz e
 exact ZiX hbk hmix hn hv hR hfr
end Go.Ab

namespace Go.Ab
open Go
variable {H:Type} [HeapC H] {P:Program}
abbrev Kt (H β:Type):=Value->H->Nat->Option β
def callK {β:Type} (o:Orc H) (h:H) (c:Nat) (fv:Value) (args:List Value) (k:Kt H β):Option β :=
 (Z43 o h c fv args).bind fun r=>k r.1 r.2.1 r.2.2
def Z0C (kv a b:Value):Option Value :=
 match kv with
 | .bool t=>some (cond t a b)
 | _=>none
def Z19 (v:Value) (i:Nat):Option Value :=
 match v with
 | .tuple vs=>vs[i]?
 | _=>none
def biK {β:Type} (P:Program) (h:H) (id c:Nat) (b:Builtin) (ts:List TypeId) (args:List Value) (k:Kt H β):Option β :=
 match b with
 | .len=>match ts,args with
  | t::_,x::_=>(ZdZ P h t x).bind fun v=>k v h c
  | _,_=>none
 | .max=>(Z5A max2 args).bind fun v=>k v h c
 | .min=>(Z5A min2 args).bind fun v=>k v h c
 | b=>(Z0T P h id b ts args).bind fun r=>k r.1 r.2 c
theorem biK_eq {β:Type} {h:H} {id c:Nat} {b:Builtin} {ts:List TypeId} {args:List Value} {k:Kt H β}:biK P h id c b ts args k=(Z0T P h id b ts args).bind fun r=>k r.1 r.2 c:=by
 cases b <;> try rfl
 · cases ts <;> cases args <;> simp [biK,Z0T,Option.bind_assoc]
 · simp [biK,Z0T,Option.bind_assoc]
 · simp [biK,Z0T,Option.bind_assoc]
def Zf6 {β:Type} (P:Program) (o:Orc H) (id:Nat) (tm:Tm) (h:H) (c:Nat) (op:Op) (k:Kt H β):Option β :=
 match op with
 | .move x | .assign x=>(Z0j tm x).bind fun v=>k v h c
 | .pick x a b=>(Z0j tm x).bind fun kv=>(Z0j tm a).bind fun av=>(Z0j tm b).bind fun bv=>(Z0C kv av bv).bind fun v=>k v h c
 | .box _ x=>(Z0j tm x).bind fun v=>cond (v.cells.toList.all Z08) (k (ptrTo id) (newB h id v.cells.toList) c) none
 | .build t ps=>(evalPs tm ps.toList).bind fun vs=>(Zhe P t vs).bind fun v=>k v h c
 | .load t a=>(Z0j tm a).bind fun p=>(Zdb P h t p).bind fun v=>k v h c
 | .store t a x=>(Z0j tm a).bind fun p=>(Z0j tm x).bind fun v=>(Zcs P h t p v).bind fun h'=>k (.tuple #[]) h' c
 | .nilCheck x=>(Z0j tm x).bind fun v=>(Z0e v).bind fun v=>k v h c
 | .binOp bo t x y _=>(Z0j tm x).bind fun a=>(Z0j tm y).bind fun b=>(Z00 P bo t a b).bind fun v=>k v h c
 | .unOp u _ x=>(Z0j tm x).bind fun a=>(Z2g u a).bind fun v=>k v h c
 | .fieldAddr t x f=>(Z0j tm x).bind fun p=>(Z6e P t p f).bind fun v=>k v h c
 | .field t x f=>(Z0j tm x).bind fun v=>(Zhc P t v f).bind fun v=>k v h c
 | .indexAddr t x i=>(Z0j tm x).bind fun v=>(Z0j tm i).bind fun j=>(Z6d P t v j).bind fun v=>k v h c
 | .index t x i=>(Z0j tm x).bind fun v=>(Z0j tm i).bind fun j=>(Zhb P t v j).bind fun v=>k v h c
 | .slice t x lo hi mx=>(Z0j tm x).bind fun v=>(Zek tm lo).bind fun l=>(Zek tm hi).bind fun hh=>(Zek tm mx).bind fun m=>(ZdX P h t v l hh m).bind fun v=>k v h c
 | .lookup t m x ok=>(Z0j tm m).bind fun mv=>(Z0j tm x).bind fun kv=>(Z5Q P h t mv kv ok).bind fun v=>k v h c
 | .extract t i=>(Z0j tm t).bind fun v=>(Z19 v i).bind fun v=>k v h c
 | .call cl=>(Z1I tm cl.args.toList).bind fun args =>
  match cl.callee with
  | .value f=>(Z0j tm f).bind fun fv=>callK o h c fv args k
  | .builtin b=>biK P h id c b cl.argTypes.toList args k
  | .invoke _ _=>none
 | .convert s d x=>(P.underlying s).bind fun _=>(Z0j tm x).bind fun a=>(Z9K P s d a).bind fun v=>k v h c
 | .buildSlice t len ps=>(evalPs tm ps.toList).bind fun vs=>(Z5w P t len vs).bind fun cs=>k (.slice (some ⟨id,0,none⟩) len len) (newB h id cs) c
 | .makeSlice t l m=>(Z0j tm l).bind fun lv=>(Z0j tm m).bind fun kv=>(Z6c P t lv kv).bind fun r=>k (.slice (some ⟨id,0,none⟩) r.2.1 r.2.2) (newB h id r.1) c
 | .mapUpdate t m x v | .insert t m x v=>(Z0j tm m).bind fun mv=>(Z0j tm x).bind fun kv=>(Z0j tm v).bind fun vv=>(Z0P P h t mv kv vv).bind fun h'=>k (.tuple #[]) h' c
 | .sliceToArrayPointer t x=>(Z0j tm x).bind fun a=>(Z5x P t a).bind fun v=>k v h c
 | op=>(Z0u P o id tm h c op).bind fun r=>k r.1 r.2.1 r.2.2
theorem ZnW {β:Type} {o:Orc H} {id:Nat} {tm:Tm} {h:H} {c:Nat} {op:Op} {k:Kt H β}:Zf6 P o id tm h c op k=(Z0u P o id tm h c op).bind fun r=>k r.1 r.2.1 r.2.2:=by
 cases op with
 | pick x a b =>
  simp only [Zf6,Z0u,Option.bind_assoc]
  congr 1; funext kv; congr 1; funext av; congr 1; funext bv
  cases kv <;> rfl
 | box t x =>
  simp only [Zf6,Z0u,Option.bind_assoc]
  congr 1; funext v
  cases v.cells.toList.all Z08 <;> rfl
 | extract t i =>
  simp only [Zf6,Z0u,Option.bind_assoc]
  congr 1; funext v
  cases v <;> first | rfl | simp only [Z19,Option.bind_assoc,qD]
 | call cl =>
  simp only [Zf6,Z0u,Option.bind_assoc]
  congr 1; funext args
  cases cl.callee with
  | value f=>simp only [Option.bind_assoc,callK]
  | builtin b=>simp only [Option.bind_assoc,qD,biK_eq]
  | invoke _ _=>rfl
 | _=>simp only [Zf6,Z0u,Z7F,Option.bind_assoc,qD]
def gv (v:Value) (want:Bool):Option Bool :=
 match v with
 | .bool b=>some (b == want)
 | _=>some false
def dstB (nt:Nat) (d:Option Tmp):Bool:=match d with | some d=>Nat.blt d nt | none=>true
def ZkI {β:Type} (P:Program) (o:Orc H) (ops:Array Oper) (base i nt:Nat) (tm:Tm) (h:H) (c:Nat) (op:Oper) (k:Kt H β):Option β :=
 match op.guard with
 | none=>cond (Nat.blt i 256 && dstB nt op.dst) (Zf6 P o (256*base+i) tm h c op.op k) none
 | some _=>(Z15 P o ops base i nt tm h c op).bind fun r=>k r.1 r.2.1 r.2.2
theorem Zfr {β:Type} {o:Orc H} {ops:Array Oper} {base i nt:Nat} {tm:Tm} {h:H} {c:Nat} {op:Oper} {k:Kt H β} :
 ZkI P o ops base i nt tm h c op k=(Z15 P o ops base i nt tm h c op).bind fun r=>k r.1 r.2.1 r.2.2:=by
 obtain ⟨dst,o',ty,pos,af,gd⟩:=op
 cases gd with
 | some p=>rfl
 | none =>
  simp only [ZkI,Z15,Z13,qD,cond_true]
  have hd:(match dst with | some d=>Nat.blt d nt | none=>true)=dstB nt dst:=by cases dst <;> rfl
  cases hb:(Nat.blt i 256 && dstB nt dst) with
  | false =>
   cases dst <;> simp only [dstB] at hb <;> simp only [hb] <;> rfl
  | true =>
   cases dst <;> simp only [dstB] at hb <;> simp only [hb,cond_true] <;> exact ZnW
def opsK {β:Type} (P:Program) (o:Orc H) (ops:Array Oper) (base nt:Nat) (K:Tm->H->Nat->Option β):List Oper->Nat->Tm->H->Nat->Option β
 | [],_,tm,h,c=>K tm h c
 | op::rest,i,tm,h,c=>ZkI P o ops base i nt tm h c op fun v h' c'=>opsK P o ops base nt K rest (i+1) (Z7G tm op.dst v) h' c'
theorem Zem {β:Type} {o:Orc H} {ops:Array Oper} {base nt:Nat} {K:Tm->H->Nat->Option β}:∀ {l:List Oper} {i:Nat} {tm:Tm} {h:H} {c:Nat},
 opsK P o ops base nt K l i tm h c=(Z1l P o ops base nt l i tm h c).bind fun r=>K r.1 r.2.1 r.2.2
 | [],i,tm,h,c=>rfl
 | oper::l,i,tm,h,c=>by
  simp only [opsK,Z1l,Zfr,Option.bind_assoc]
  congr 1
  funext r
  exact Zem
def callF (o:Orc H) (g:FuncId) (args:List Value) (h:H) (c:Nat):Option (Value × H × Nat) :=
 (o (.fn g) args h c []).bind fun r =>
  match r.vs with
  | [v]=>some (v,r.h,r.c)
  | _=>none
end Go.Ab

namespace Go.Ab
open Go
variable {H:Type} [HeapC H] {P:Program}
abbrev Kx (H β:Type):=Ex->Tm->H->Nat->List Nat->Option β
def nthV:List Value->Nat->Value
 | [],_=>undef
 | v::vs,i=>Nat.rec v (fun n _=>nthV vs n) i
def Zps:List Nat->Nat->Nat->Option Nat
 | [],_,_=>none
 | x::xs,t,i=>cond (Nat.beq t x) (some i) (Zps xs t (i+1))
def tmL (lin:List Nat) (vs:List Value):Tm:=fun t=>(Zps lin t 0).bind fun i=>some (nthV vs i)
theorem Zj2 (v:Value) (vs:List Value) (i:Nat):nthV (v::vs) (i+1)=nthV vs i:=rfl
theorem Zb4:∀ (l:List Nat) (t i:Nat),Zps l t (i+1)=(Zps l t i).map (· + 1)
 | [],t,i=>rfl
 | x::xs,t,i=>by
  simp only [Zps]
  cases Nat.beq t x with
  | true=>rfl
  | false=>exact Zb4 xs t (i+1)
theorem Ziz:∀ {lin:List Nat} {vs:List Value},vs.length=lin.length -> ∀ t,tmL lin vs t=Z0h lin vs t
 | [],[],_,t=>rfl
 | x::xs,v::vs,h,t=>by
  have ih:=Ziz (lin:=xs) (vs:=vs) (by simpa using h) t
  simp only [tmL,Zps,Z0h] at ih ⊢
  cases hb:Nat.beq t x with
  | true=>rfl
  | false =>
   simp only [cond_false]
   rw [← ih,Zb4]
   cases Zps xs t 0 with
   | none=>rfl
   | some i=>simp only [Option.map_some,qD,Zj2]
 | [],v::vs,h,t=>by simp at h
 | x::xs,[],h,t=>by simp at h
def Z0r:Ex->Ex->Bool
 | .normal,.normal=>true
 | .ret,.ret=>true
 | .exit a,.exit b=>Nat.beq a b
 | _,_=>false
theorem Zd5 {a b:Ex} (h:Z0r a b=true):a=b:=by
 cases a <;> cases b <;> simp only [Z0r] at h <;> first | rfl | cases h | rw [qJ h]
def ZoC {β:Type} (e:Ex) (K:Ex->Option β):List Ex->Option β
 | []=>none
 | x::xs=>cond (Z0r e x) (K x) (ZoC e K xs)
def ZqE (e:Ex):List (Ex × List Nat)->Option (List Nat)
 | []=>none
 | x::xs=>cond (Z0r e x.1) (some x.2) (ZqE e xs)
def Zie {β:Type} (r:Rt H) (K:Kx H β):List (Ex × List Nat)->Option β
 | []=>none
 | x::xs=>cond (Z0r r.e x.1) (K x.1 (tmL x.2 r.vs) r.h r.c r.df) (Zie r K xs)
def Zl3 {β:Type} (P:Program) (o:Orc H) (ops:Array Oper) (base nt:Nat) (K:Tm->H->Nat->List (Option Nat × H)->Option β):List Oper->Nat->Tm->H->Nat->List (Option Nat × H)->Option β
 | [],_,tm,h,c,tr=>K tm h c (tr++[(none,h)])
 | op::rest,i,tm,h,c,tr=>ZkI P o ops base i nt tm h c op fun v h' c'=>Zl3 P o ops base nt K rest (i+1) (Z7G tm op.dst v) h' c' (tr++[(rid ops tm op,h)])
theorem Zfy {β:Type} {o:Orc H} {ops:Array Oper} {base nt:Nat} {K:Tm->H->Nat->List (Option Nat × H)->Option β}:∀ {l:List Oper} {i:Nat} {tm:Tm} {h:H} {c:Nat} {tr:List (Option Nat × H)},
 Zl3 P o ops base nt K l i tm h c tr=(Z1d P o ops base nt l i tm h c).bind fun r=>K r.1 r.2.1 r.2.2.1 (tr++r.2.2.2)
 | [],i,tm,h,c,tr=>rfl
 | oper::l,i,tm,h,c,tr=>by
  simp only [Zl3,Z1d,Zfr,Option.bind_assoc]
  congr 1
  funext r
  rw [Zfy]
  congr 1
  funext q
  simp only [qD,qQ,List.cons_append,List.nil_append]
def Z1y (x:Option Nat) (h1 h2:H):Bool :=
 match x with
 | some x=>HeapC.eqB H (HeapC.get h1 x) (HeapC.get h2 x)
 | none=>true
def lwC (tr:List (Option Nat × H)) (p:Nat × Nat):Bool :=
 match tr[p.1]? with
 | none=>true
 | some e=>match tr[p.2]? with
  | none=>e.1.isNone
  | some a=>match tr[p.2+1]? with
   | none=>e.1.isNone
   | some b=>Z1y e.1 a.2 b.2
theorem lwC_eq:(lwC:List (Option Nat × H)->Nat × Nat->Bool)=lwOk:=by
 funext tr p
 unfold lwC lwOk
 cases tr[p.1]? with
 | none=>rfl
 | some e =>
  obtain ⟨x,h⟩:=e
  cases tr[p.2]? with
  | none=>cases x <;> rfl
  | some a =>
   cases tr[p.2+1]? with
   | none=>cases x <;> rfl
   | some b=>cases x <;> rfl
def regK {β:Type} (P:Program) (o:Orc H) (ops:Array Oper) (draw:Bool) (nt:Nat) (tm:Tm) (h:H) (c:Nat) (K:Tm->H->Nat->Option β):Option β :=
 cond draw
  (cond (Za3 ops)
   (cond (lws ops).isEmpty (opsK P o ops c nt K ops.toList 0 tm h (c+1))
    (Zl3 P o ops c nt (fun tm h c tr=>cond ((lws ops).all (lwC tr)) (K tm h c) none) ops.toList 0 tm h (c+1) [])) none)
  (opsK P o ops c nt K ops.toList 0 tm h (c+1))
theorem Zec {β:Type} {o:Orc H} {ops:Array Oper} {draw:Bool} {nt:Nat} {tm:Tm} {h:H} {c:Nat} {K:Tm->H->Nat->Option β} :
 regK P o ops draw nt tm h c K=(Z5z P o ops draw nt tm h c).bind fun r=>K r.1 r.2.1 r.2.2:=by
 unfold regK Z5z
 cases draw with
 | false=>exact Zem
 | true =>
  cases Za3 ops with
  | false=>rfl
  | true =>
   cases (lws ops).isEmpty with
   | true=>exact Zem
   | false =>
    simp only [cond_true,cond_false,Zfy,Option.bind_assoc,List.nil_append,lwC_eq]
    congr 1
    funext r
    cases (lws ops).all (lwOk r.2.2.2) <;> rfl
def Z6L (o:Orc H) (nt:Nat) (rd:Option Nat) (lin fr:List Nat) (ps:Array Tmp) (a b:ACode) (fv:Value) (vs:List Value) (h:H) (c:Nat) (df:List Nat):Option (Ex × H × Nat × List Nat) :=
 match fv with
 | .func (.func g) first cap=>(Z31 h c rd).bind fun hd =>
  (o (.fn g) (first.toList++[.func (.yield (256*c)) #[] #[]]++cap.toList)
   (HeapC.set hd.1 (256*c) (.loop { state:=.ready,pending:=none,nt:=nt,vals:=vs,lin:=lin,fr:=fr,params:=ps.toList,assign:=a,body:=b,dfr:=hd.2 })) (c+1) []).bind fun r =>
   match HeapC.get r.h (256*c) with
   | some (.loop st)=>cond (decide (st.state = .busy)) none ((exOf st.pending).bind fun e=>some (e,HeapC.del r.h (256*c),r.c,match rd with | none=>hd.2::df | some _=>df))
   | _=>none
 | _=>none
theorem Zee {o:Orc H} {nt:Nat} {rd:Option Nat} {lin fr:List Nat} {ps:Array Tmp} {a b:ACode} {tm:Tm} {f:Operand} {fv:Value} {vs:List Value} {h:H} {c:Nat} {df:List Nat} {r:Ex × H × Nat × List Nat}
 (hf:Z0j tm f=some fv) (hv:vals tm lin=some vs) (e:Z6L o nt rd lin fr ps a b fv vs h c df=some r) :
 Z4L o { tm:=tm,h:=h,c:=c,nt:=nt,df:=df,rd:=rd } lin fr f ps a b=some (r.1,{ tm:=tm,h:=r.2.1,c:=r.2.2.1,nt:=nt,df:=r.2.2.2,rd:=rd }):=by
 unfold Z6L at e
 split at e
 · rename_i g first cap
   simp only [qA] at e
   obtain ⟨hd,hhd,q,hq,e⟩:=e
   simp only [Z4L,hf,hv,hhd,hq,qD]
   split at e
   · rename_i st hg
     simp only [hg]
     cases hb:decide (st.state=LoopState.busy) with
     | true=>rw [hb] at e; cases e
     | false =>
      rw [hb] at e
      simp only [cond_false,qA] at e
      obtain ⟨x,hx,e⟩:=e
      cases e
      simp only [cond_false,hx,qD]
      rfl
   · cases e
 · cases e
def jx {β:Type} (P:Program) (o:Orc H) (nt:Nat) (rd:Option Nat):ACode->Tm->H->Nat->List Nat->Kx H β->Option β
 | .skip,tm,h,c,df,K=>K .normal tm h c df
 | .region _ ops draw,tm,h,c,df,K=>regK P o ops draw nt tm h c fun tm h c=>K .normal tm h c df
 | .seq a b,tm,h,c,df,K=>jx P o nt rd a tm h c df fun e tm h c df =>
  match e with
  | .normal=>jx P o nt rd b tm h c df K
  | .exit i=>K (.exit i) tm h c df
  | .ret=>K .ret tm h c df
 | .cond x a b,tm,h,c,df,K=>(Z0j tm x).bind fun v =>
  match v with
  | .bool t=>cond t (jx P o nt rd a tm h c df K) (jx P o nt rd b tm h c df K)
  | _=>none
 | .block id a,tm,h,c,df,K=>jx P o nt rd a tm h c df fun e tm h c df =>
  match e with
  | .normal=>K .normal tm h c df
  | .exit i=>cond (Nat.beq i id) (K .normal tm h c df) (K (.exit i) tm h c df)
  | .ret=>K .ret tm h c df
 | .loop j lin fr outs b,tm,h,c,df,K=>(vals tm lin).bind fun vs =>
  (o (.lp j lin fr b nt rd) vs h c df).bind fun r=>ZoC r.e (fun e=>K e (tmL lin r.vs) r.h r.c r.df) outs
 | .rangeFunc j lin fr outs f ps a b,tm,h,c,df,K=>(Z0j tm f).bind fun fv=>(vals tm lin).bind fun vs =>
  (Z6L o nt rd lin fr ps a b fv vs h c df).bind fun r=>ZoC r.1 (fun e=>K e tm r.2.1 r.2.2.1 r.2.2.2) outs
 | .exit id,tm,h,c,df,K=>K (.exit id) tm h c df
 | .ret,tm,h,c,df,K=>K .ret tm h c df
 | .bad _,_,_,_,_,_=>none
 | .join lays a,tm,h,c,df,K =>
  (jx P o nt rd a tm h c df fun e tm h c df=>(ZqE e lays).bind fun l=>(vals tm l).bind fun vs=>some ({ e:=e,vs:=vs,h:=h,c:=c,df:=df }:Rt H)).bind fun r=>Zie r K lays
theorem Zat {β:Type} {e:Ex} {K:Ex->Option β} {x:β}:∀ {l:List Ex},ZoC e K l=some x->K e=some x
 | [],h=>by cases h
 | y::l,h=>by
  simp only [ZoC] at h
  cases hb:Z0r e y with
  | true=>rw [hb] at h; rw [Zd5 hb]; exact h
  | false=>rw [hb] at h; exact Zat h
theorem Z6a {β:Type} {r:Rt H} {K:Kx H β} {x:β}:∀ {l:List (Ex × List Nat)},Zie r K l=some x -> ∃ lay,ZqE r.e l=some lay/\K r.e (tmL lay r.vs) r.h r.c r.df=some x
 | [],h=>by cases h
 | y::l,h=>by
  simp only [Zie] at h
  simp only [ZqE]
  cases hb:Z0r r.e y.1 with
  | true=>rw [hb] at h; refine ⟨y.2,rfl, ?_⟩; rw [Zd5 hb]; exact h
  | false=>rw [hb] at h; exact Z6a h
def OLen (o:Orc H):Prop:=∀ j lin fr b nt rd vs h c df r,o (.lp j lin fr b nt rd) vs h c df=some r->r.vs.length=lin.length
theorem Tm.le_refl (tm:Tm):tm.le tm:=fun _ _ h=>h
theorem Tm.le_trans {a b c:Tm} (h:a.le b) (k:b.le c):a.le c:=fun t v e=>k t v (h t v e)
theorem Z2A {β:Type} {o:Orc H} (ho:OLen o) {nt:Nat} {rd:Option Nat}:∀ {code:ACode} {tm:Tm} {h:H} {c:Nat} {df:List Nat} {K:Kx H β} {x:β},jx P o nt rd code tm h c df K=some x →
 ∀ {tm':Tm},tm.le tm' -> ∃ e tm1 tm1' h1 c1 df1,Z2e P o code { tm:=tm',h:=h,c:=c,nt:=nt,df:=df,rd:=rd } = some (e,{ tm:=tm1',h:=h1,c:=c1,nt:=nt,df:=df1,rd:=rd })/\tm1.le tm1'/\K e tm1 h1 c1 df1=some x:=by
 intro code
 induction code generalizing β with
 | skip=>intro tm h c df K x e tm' hl; exact ⟨_,_,_,_,_,_,rfl,hl,e⟩
 | region id ops d =>
  intro tm h c df K x e tm' hl
  simp only [jx,Zec,qA] at e
  obtain ⟨q,hq,e⟩:=e
  obtain ⟨tm1,h1,h2⟩:=ZiK hl hq
  refine ⟨_,_,_,_,_,_, ?_,h2,e⟩
  simp only [Z2e,h1,qD]
 | seq a b iha ihb =>
  intro tm h c df K x e tm' hl
  simp only [jx] at e
  obtain ⟨e1,tm1,tm1',h1,c1,df1,hx,hl1,hk⟩:=iha e hl
  cases e1 with
  | normal =>
   obtain ⟨e2,tm2,tm2',h2,c2,df2,hx2,hl2,hk2⟩:=ihb hk hl1
   exact ⟨_,_,_,_,_,_,by simp only [Z2e,hx,qD]; exact hx2,hl2,hk2⟩
  | exit i=>exact ⟨_,_,_,_,_,_,by simp only [Z2e,hx,qD],hl1,hk⟩
  | ret=>exact ⟨_,_,_,_,_,_,by simp only [Z2e,hx,qD],hl1,hk⟩
 | cond y a b iha ihb =>
  intro tm h c df K x e tm' hl
  simp only [jx,qA] at e
  obtain ⟨v,hv,e⟩:=e
  have hv':=Z0k hl hv
  split at e
  · rename_i t
    cases t
    · obtain ⟨e1,tm1,tm1',h1,c1,df1,hx,hl1,hk⟩:=ihb e hl
      exact ⟨_,_,_,_,_,_,by simp only [Z2e,hv',qD,cond_false]; exact hx,hl1,hk⟩
    · obtain ⟨e1,tm1,tm1',h1,c1,df1,hx,hl1,hk⟩:=iha e hl
      exact ⟨_,_,_,_,_,_,by simp only [Z2e,hv',qD,cond_true]; exact hx,hl1,hk⟩
  · cases e
 | block id a ih =>
  intro tm h c df K x e tm' hl
  simp only [jx] at e
  obtain ⟨e1,tm1,tm1',h1,c1,df1,hx,hl1,hk⟩:=ih e hl
  cases e1 with
  | normal=>exact ⟨_,_,_,_,_,_,by simp only [Z2e,hx,qD],hl1,hk⟩
  | exit i =>
   cases hb:Nat.beq i id with
   | true=>simp only [hb] at hk; exact ⟨_,_,_,_,_,_,by simp only [Z2e,hx,qD,hb,cond_true],hl1,hk⟩
   | false=>simp only [hb] at hk; exact ⟨_,_,_,_,_,_,by simp only [Z2e,hx,qD,hb,cond_false],hl1,hk⟩
  | ret=>exact ⟨_,_,_,_,_,_,by simp only [Z2e,hx,qD],hl1,hk⟩
 | loop j lin fr outs b _ =>
  intro tm h c df K x e tm' hl
  simp only [jx,qA] at e
  obtain ⟨vs,hv,r,hr,e⟩:=e
  have hlen:=ho _ _ _ _ _ _ _ _ _ _ _ hr
  refine ⟨r.e,tmL lin r.vs,Z0h lin r.vs,r.h,r.c,r.df, ?_, ?_,Zat e⟩
  · simp only [Z2e,Z6q hl hv,hr,qD]
  · intro t v ht; rw [Ziz hlen] at ht; exact ht
 | rangeFunc j lin fr outs f ps a b _ _ =>
  intro tm h c df K x e tm' hl
  simp only [jx,qA] at e
  obtain ⟨fv,hf,vs,hv,r,hr,e⟩:=e
  refine ⟨r.1,tm,tm',r.2.1,r.2.2.1,r.2.2.2, ?_,hl,Zat e⟩
  simp only [Z2e]
  exact Zee (Z0k hl hf) (Z6q hl hv) hr
 | exit id=>intro tm h c df K x e tm' hl; exact ⟨_,_,_,_,_,_,rfl,hl,e⟩
 | ret=>intro tm h c df K x e tm' hl; exact ⟨_,_,_,_,_,_,rfl,hl,e⟩
 | bad _=>intro tm h c df K x e tm' hl; cases e
 | join lays a ih =>
  intro tm h c df K x e tm' hl
  simp only [jx,qA] at e
  obtain ⟨r,hr,e⟩:=e
  obtain ⟨e1,tm1,tm1',h1,c1,df1,hx,hl1,hk⟩:=ih hr hl
  simp only [qA] at hk
  obtain ⟨l,hlf,vs,hvs,hk⟩:=hk
  cases hk
  obtain ⟨lay,h3,h4⟩:=Z6a e
  simp only at h3 h4
  rw [hlf] at h3
  cases h3
  refine ⟨e1,tmL l vs,tm1',h1,c1,df1,by simp only [Z2e]; exact hx, ?_,h4⟩
  intro t v ht
  rw [Ziz (Z2j hvs)] at ht
  exact hl1 _ _ (Z4f hvs _ _ ht)
theorem Z5U {tm tm':Tm} (hl:tm.le tm') {h:H}:∀ {rs:List ResultVar} {vs:List Value},Z6f P tm h rs=some vs->Z6f P tm' h rs=some vs
 | [],vs,e=>e
 | .tmp t::rs,vs,e=>by
  simp only [Z6f,qA] at e ⊢
  obtain ⟨v,hv,ws,hw,e⟩:=e
  exact ⟨v,hl _ _ hv,ws,Z5U hl hw,e⟩
 | .cell a t::rs,vs,e=>by
  simp only [Z6f,qA] at e ⊢
  obtain ⟨p,hp,v,hv,ws,hw,e⟩:=e
  exact ⟨p,hl _ _ hp,v,hv,ws,Z5U hl hw,e⟩
def Zp7 {β:Type} (P:Program) (tm:Tm) (h:H):List ResultVar->(List Value->Option β)->Option β
 | [],k=>k []
 | .tmp t::rs,k=>(tm t).bind fun v=>Zp7 P tm h rs fun vs=>k (v::vs)
 | .cell a t::rs,k=>(tm a).bind fun p=>(Zdb P h t p).bind fun v=>Zp7 P tm h rs fun vs=>k (v::vs)
theorem Z5I {β:Type} {tm:Tm} {h:H}:∀ {rs:List ResultVar} {k:List Value->Option β},Zp7 P tm h rs k=(Z6f P tm h rs).bind k
 | [],k=>rfl
 | .tmp t::rs,k=>by simp only [Zp7,Z6f,Z5I,Option.bind_assoc,qD]
 | .cell a t::rs,k=>by simp only [Zp7,Z6f,Z5I,Option.bind_assoc,qD]
def Kfn (P:Program) (res:List ResultVar):Kx H (Rt H):=fun e tm h c df =>
 match e with
 | .exit _=>none
 | .normal=>(Z0a h df).bind fun h1=>Zp7 P tm h1 res fun vs=>some { e:=.ret,vs:=[tup vs],h:=h1,c:=c,df:=[] }
 | .ret=>(Z0a h df).bind fun h1=>Zp7 P tm h1 res fun vs=>some { e:=.ret,vs:=[tup vs],h:=h1,c:=c,df:=[] }
def Klp (lin:List Nat):Kx H (Rt H):=fun e tm h c df=>(vals tm lin).bind fun vs=>some { e:=e,vs:=vs,h:=h,c:=c,df:=df }
def Krd (l:Nat):Kx H (Rt H):=fun e tm h c df =>
 (Z12 h l (cond (Z3Z e).isNone .ready .done) (Z3Z e)).bind fun h2=>cond df.isEmpty (some { e:=.ret,vs:=[.bool (Z3Z e).isNone],h:=h2,c:=c,df:=[] }) none
theorem Z6I {bk:FuncId->Option AFun}:OLen (run (H:=H) P bk):=fun _ _ _ _ _ _ _ _ _ _ _ e=>ZcA e
theorem run_fn {bk:FuncId->Option AFun} {f:FuncId} {a:AFun} (ha:bk f=some a) (hfr:a.fr=[]) {args:List Value} {h:H} {c:Nat} {df:List Nat} {r:Rt H} (hlen:Nat.ble args.length a.nt=true)
 (e:jx P (run P bk) a.nt none a.code (Z0h (List.range args.length) args) h c [] (Kfn P a.res)=some r):run P bk (.fn f) args h c df=some r:=by
 refine Z9F ?_
 obtain ⟨e1,tm1,tm1',h1,c1,df1,hx,hl,hk⟩:=Z2A Z6I e (Tm.le_refl _)
 simp only [Z1L,ha,qD,hlen,cond_true,hx,hfr,Z1J]
 cases e1 with
 | exit id=>cases hk
 | normal =>
  simp only [Kfn,Z5I,qA] at hk ⊢
  obtain ⟨h2,ht,vs,hv,hk⟩:=hk
  exact ⟨h2,ht,vs,Z5U hl hv,hk⟩
 | ret =>
  simp only [Kfn,Z5I,qA] at hk ⊢
  obtain ⟨h2,ht,vs,hv,hk⟩:=hk
  exact ⟨h2,ht,vs,Z5U hl hv,hk⟩
theorem Ze8 {bk:FuncId->Option AFun} {j nt:Nat} {lin:List Nat} {b:ACode} {rd:Option Nat} {vs:List Value} {h:H} {c:Nat} {df:List Nat} {q r:Rt H}
 (e:jx P (run P bk) nt rd b (Z0h lin vs) h c df (Klp lin)=some q) (hq:q.e = .normal) (k:run P bk (.lp j lin [] b nt rd) q.vs q.h q.c q.df=some r):run P bk (.lp j lin [] b nt rd) vs h c df=some r:=by
 refine Z9F ?_
 obtain ⟨e1,tm1,tm1',h1,c1,df1,hx,hl,hk⟩:=Z2A Z6I e (Tm.le_refl _)
 simp only [Klp,qA] at hk
 obtain ⟨ws,hw,hk⟩:=hk
 cases hk
 simp only at hq
 subst hq
 simp only [Z1L,hx,qD,Z6q hl hw,Z1J]
 exact k
theorem Z9U {bk:FuncId->Option AFun} {j nt:Nat} {lin:List Nat} {b:ACode} {rd:Option Nat} {vs:List Value} {h:H} {c:Nat} {df:List Nat} {q:Rt H}
 (e:jx P (run P bk) nt rd b (Z0h lin vs) h c df (Klp lin)=some q) (hq:q.e ≠ .normal):run P bk (.lp j lin [] b nt rd) vs h c df=some q:=by
 refine Z9F ?_
 obtain ⟨e1,tm1,tm1',h1,c1,df1,hx,hl,hk⟩:=Z2A Z6I e (Tm.le_refl _)
 simp only [Klp,qA] at hk
 obtain ⟨ws,hw,hk⟩:=hk
 cases hk
 simp only at hq
 simp only [Z1L,hx,qD,Z6q hl hw,Z1J]
theorem Zp3 {bk:FuncId->Option AFun} {nt l:Nat} {lin params:List Nat} {a b:ACode} {vs:List Value} {h:H} {c:Nat} {df:List Nat} {r:Rt H}
 (e:jx P (run P bk) nt (some l) a (Z0h (params++lin) vs) h c [] (fun e tm h c df=>match e with
  | .normal=>(Z4e h l).bind fun h1=>jx P (run P bk) nt (some l) b tm h1 c df (Krd l)
  | .exit _=>none
  | .ret=>none)=some r):run P bk (.rnd nt lin [] params l a b) vs h c df=some r:=by
 refine Z9F ?_
 obtain ⟨e1,tm1,tm1',h1,c1,df1,hx,hl,hk⟩:=Z2A Z6I e (Tm.le_refl _)
 cases e1 with
 | exit id=>cases hk
 | ret=>cases hk
 | normal =>
  simp only [qA] at hk
  obtain ⟨h2,hb,hk⟩:=hk
  obtain ⟨e3,tm3,tm3',h3,c3,df3,hx3,hl3,hk3⟩:=Z2A Z6I hk hl
  simp only [Z1L,hx,qD,hb,hx3,Z1J]
  exact hk3
end Go.Ab

namespace Go.Ab
open Go
variable {H:Type} [HeapC H]
def pth:Code->List Nat->Code
 | .seq a b,i::p=>cond (Nat.beq i 0) (pth a p) (pth b p)
 | .cond _ a b,i::p=>cond (Nat.beq i 0) (pth a p) (pth b p)
 | .block _ a,_::p=>pth a p
 | .loop a,_::p=>pth a p
 | .rangeFunc _ _ a b,i::p=>cond (Nat.beq i 0) (pth a p) (pth b p)
 | c,_=>c
def opsAt (c:Code) (p:List Nat):Array Oper :=
 match pth c p with
 | .region _ ops _=>ops
 | _=>#[]
def Z0o (f:Func):Code:=f.body.getD .skip
def Z09 {β:Type} (v:Value) (a b:Option β):Option β :=
 match v with
 | .bool t=>cond t a b
 | _=>none
def Rt.v (r:Rt H) (i:Nat):Value:=nthV r.vs i
def Zdz (h:H) (c:Nat) (kv a b:Value):Option (Value × H × Nat) :=
 match kv with
 | .bool t=>some (cond t a b,h,c)
 | _=>none
def ZqB (P:Program) (o:Orc H) (nt l:Nat) (b:ACode):Kx H (Rt H):=fun e tm h c df =>
 match e with
 | .normal=>(Z4e h l).bind fun h1=>jx P o nt (some l) b tm h1 c df (Krd l)
 | .exit _=>none
 | .ret=>none
def Z1q (x:Value):Option Value :=
 match x with
 | .slice _ n _=>some (goInt n)
 | _=>none
def ixV (len:Nat) (agg:Bool) (sz:Nat) (x i:Value):Option Value:=(Zqx x).bind fun cs=>(Zob len i).bind fun k=>Zhw cs agg (k*sz) sz
def ZhD (x i:Value):Option Value :=
 match x with
 | .string s=>ZkH s i
 | _=>none
def Z9D:List Value->List (Nat × Nat × Value)->Option (List Value)
 | cs,[]=>some cs
 | cs,(off,n,v)::r=>cond (Nat.beq v.cells.size n && Nat.ble (off+n) cs.length) (Z9D (Z0Z cs off v.cells.toList) r) none
def Z1K (z:List Value) (ps:List (Nat × Nat × Value)):Option Value:=(Z9D z ps).bind fun cs=>some (.agg cs.toArray)
def slStrV (x:Value) (lo hi:Option Value):Option Value :=
 match x with
 | .string s=>ZoU s lo hi
 | _=>none
def Z5D (h:H) (id sz by':Nat) (s x:Value):Option (Value × H):=(Z0M h sz x).bind fun r=>appTo h id sz by' s r.1 r.2
def mkS (sz by':Nat) (z:List Value) (l c:Value):Option (List Value × Nat × Nat) :=
 (Zoa l).bind fun l=>(Zoa c).bind fun c =>
  cond (decide (0<=l) && decide (l<=c) && decide ((by':Int)*c<=281474976710656) && decide (c<=281474976710656) && true && true)
   (some (Z1s z c.toNat,l.toNat,c.toNat)) none
def cnvI (k:IntKind) (x:Value):Option Value :=
 match x with
 | .int _ n=>some (.int k (k.wrap n))
 | _=>none
end Go.Ab

namespace Go.Ab
open Go
variable {H:Type} [HeapC H] {P:Program}
structure LB where
 loop:Nat->Option (List Nat × ACode × Nat)
 rng:Nat->List Nat->Option (List Nat × ACode × ACode)
def Z0b (K:LB) (nt:Nat):ACode->Prop
 | .seq a b=>Z0b K nt a/\Z0b K nt b
 | .cond _ a b=>Z0b K nt a/\Z0b K nt b
 | .block _ a=>Z0b K nt a
 | .join _ a=>Z0b K nt a
 | .loop j lin fr _ b=>fr=[]/\K.loop j=some (lin,b,nt)
 | .rangeFunc _ lin fr _ _ ps a b=>fr=[]/\K.rng nt ps.toList=some (lin,a,b)
 | _=>True
def KeyOK (K:LB):Key->Prop
 | .fn _=>True
 | .lp j lin fr b nt _=>fr=[]/\K.loop j=some (lin,b,nt)
 | .rnd nt lin fr params _ a b=>fr=[]/\K.rng nt params=some (lin,a,b)
def Z6C (K:LB) (h:H):Prop:=∀ i st,HeapC.get h i=some (.loop st)->st.fr=[]/\K.rng st.nt st.params=some (st.lin,st.assign,st.body)
def NoL (h h':H):Prop:=∀ i st,HeapC.get h' i=some (.loop st)->HeapC.get h i=some (.loop st)
theorem NoL.refl (h:H):NoL h h:=fun _ _ e=>e
theorem NoL.trans {a b c:H} (h:NoL a b) (k:NoL b c):NoL a c:=fun i st e=>h i st (k i st e)
theorem NoL.set {h:H} {i:Nat} {b:ABlk} (hb:∀ st,b ≠ .loop st):NoL h (HeapC.set h i b):=by
 intro j st e
 rw [HeapC.get_set] at e
 split at e
 · cases e; exact absurd rfl (hb st)
 · exact e
theorem NoL.del {h:H} {i:Nat}:NoL h (HeapC.del h i):=by
 intro j st e
 rw [HeapC.get_del] at e
 split at e
 · cases e
 · exact e
theorem NoL.inv {K:LB} {h h':H} (n:NoL h h') (hi:Z6C K h):Z6C K h':=fun i st e=>hi i st (n i st e)
theorem NoL.wr {h h':H} {i off:Nat} {xs:List Value} (e:Z2I h i off xs=some h'):NoL h h':=by
 unfold Z2I at e
 split at e
 · obtain ⟨_,e⟩:=Z06 e; cases e; exact NoL.set (fun st=>by simp)
 · cases e
theorem NoL.store {t:TypeId} {h h':H} {p x:Value} (e:Zcs P h t p x=some h'):NoL h h':=by
 simp only [Zcs,stN,qA] at e
 obtain ⟨n,_,a,_,e⟩:=e
 obtain ⟨_,e⟩:=Z06 e
 exact NoL.wr e
theorem NoL.mapUpdate {t:TypeId} {h h':H} {m k v:Value} (e:Z0P P h t m k v=some h'):NoL h h':=by
 simp only [Z0P,qA] at e
 obtain ⟨ke,_,e⟩:=e
 obtain ⟨_,e⟩:=Z06 e
 split at e
 · split at e
   · simp only [qA] at e
     obtain ⟨r,_,e⟩:=e
     split at e
     · split at e
       · obtain ⟨_,e⟩:=Z06 e; cases e; exact NoL.set (fun st=>by simp)
       · cases e
     · cases e; exact NoL.set (fun st=>by simp)
   · cases e
 · cases e
theorem NoL.grow {h:H} {id sz by':Nat} {base:Option Addr} {len need:Nat} {new:List Value} {r:Value × H} (e:Z1Q h id sz by' base len need new=some r):NoL h r.2:=by
 unfold Z1Q at e
 obtain ⟨_,e⟩:=Z06 e
 split at e
 · obtain ⟨_,e⟩:=Z06 e; cases e; exact NoL.set (fun st=>by simp)
 · simp only [qA] at e
   obtain ⟨old,_,e⟩:=e
   split at e
   · split at e
     · cases e; exact NoL.set (fun st=>by simp)
     · obtain ⟨_,e⟩:=Z06 e; cases e; exact (NoL.set (fun st=>by simp)).trans (NoL.set (fun st=>by simp))
   · cases e
 · cases e
theorem NoL.appTo {h:H} {id sz by':Nat} {s:Value} {new:List Value} {n:Nat} {r:Value × H} (e:appTo h id sz by' s new n=some r):NoL h r.2:=by
 unfold Ab.appTo at e
 split at e
 · rename_i base len cap
   cases hb:Nat.ble (len+n) cap with
   | true =>
    rw [hb] at e
    simp only [cond_true] at e
    split at e
    · cases hc:Nat.beq new.length 0 with
      | true=>rw [hc] at e; cases e; exact NoL.refl _
      | false =>
       rw [hc] at e
       simp only [cond_false,qA] at e
       obtain ⟨h',hw,e⟩:=e
       cases e
       exact NoL.wr hw
    · obtain ⟨_,e⟩:=Z06 e; cases e; exact NoL.refl _
    · cases e
   | false=>rw [hb] at e; exact NoL.grow e
 · cases e
theorem NoL.builtin {h:H} {id:Nat} {b:Builtin} {ts:List TypeId} {args:List Value} {r:Value × H} (e:Z0T P h id b ts args=some r):NoL h r.2:=by
 cases b with
 | len =>
  simp only [Z0T] at e
  split at e
  · simp only [qA] at e; obtain ⟨v,_,e⟩:=e; cases e; exact NoL.refl _
  · cases e
 | max=>simp only [Z0T,qA] at e; obtain ⟨v,_,e⟩:=e; cases e; exact NoL.refl _
 | min=>simp only [Z0T,qA] at e; obtain ⟨v,_,e⟩:=e; cases e; exact NoL.refl _
 | append =>
  simp only [Z0T,Zdd] at e
  split at e
  · simp only [qA] at e
    obtain ⟨el,_,sz,_,by',_,z,_,e⟩:=e
    obtain ⟨_,e⟩:=Z06 e
    split at e
    · simp only [qA] at e
      obtain ⟨xd,_,e⟩:=e
      have bs:∀ {t:Bool} {x y:Option (Value × H)},cond t x y=some r->x=some r ∨ y=some r:=by
       intro t x y e
       cases t
       · exact .inr e
       · exact .inl e
      rcases bs e with e | e
      · simp only [qA] at e
        obtain ⟨n,_,e⟩:=e
        obtain ⟨_,e⟩:=Z06 e
        exact NoL.appTo e
      · simp only [qA] at e
        obtain ⟨q,_,e⟩:=e
        exact NoL.appTo e
    · cases e
  · cases e
 | copy =>
  simp only [Z0T,Zod] at e
  split at e
  · simp only [qA] at e
    obtain ⟨el,_,sz,_,e⟩:=e
    split at e
    · obtain ⟨_,e⟩:=Z06 e; cases e; exact NoL.refl _
    · simp only [qA] at e
      obtain ⟨q,_,h',hw,e⟩:=e
      cases e
      exact NoL.wr hw
    · cases e
  · cases e
 | clear =>
  simp only [Z0T] at e
  split at e
  · simp only [qA] at e
    obtain ⟨_,_,e⟩:=e
    unfold Zhd at e
    split at e
    · split at e
      · cases e; exact NoL.refl _
      · simp only [qA] at e
        obtain ⟨el,_,sz,_,z,_,e⟩:=e
        obtain ⟨_,e⟩:=Z06 e
        simp only [qA] at e
        obtain ⟨h',hw,e⟩:=e
        cases e
        exact NoL.wr hw
      · cases e
    · cases e
  · cases e
 | _=>simp [Z0T] at e
theorem ZiQ {h:H} {c:Nat} {v:Option Value} {r:Value × H × Nat} (e:Z7F h c v=some r):r.2.1=h:=by
 simp only [Z7F,qA] at e
 obtain ⟨x,_,e⟩:=e
 cases e
 rfl
theorem ZnV {o:Orc H} {id:Nat} {tm:Tm} {h:H} {c:Nat} {op:Op} {r:Value × H × Nat} (hop:∀ k,op ≠ .call k) (e:Z0u P o id tm h c op=some r):NoL h r.2.1:=by
 have R1:∀ {v:Option Value},Z7F h c v=some r->NoL h r.2.1:=fun e=>by rw [ZiQ e]; exact NoL.refl _
 cases op with
 | call k=>exact absurd rfl (hop k)
 | move x=>exact R1 e
 | assign x=>exact R1 e
 | pick x a b =>
  simp only [Z0u,qA] at e
  obtain ⟨_,_,_,_,_,_,e⟩:=e
  split at e
  · cases e; exact NoL.refl _
  · cases e
 | alloc t =>
  simp only [Z0u,qA] at e
  obtain ⟨_,_,e⟩:=e
  obtain ⟨_,e⟩:=Z06 e
  cases e
  exact NoL.set (fun st=>by simp)
 | box t x =>
  simp only [Z0u,qA] at e
  obtain ⟨_,_,e⟩:=e
  obtain ⟨_,e⟩:=Z06 e
  cases e
  exact NoL.set (fun st=>by simp)
 | build t ps=>simp only [Z0u,qA] at e; obtain ⟨_,_,e⟩:=e; exact R1 e
 | buildSlice t l ps =>
  simp only [Z0u,qA] at e
  obtain ⟨_,_,_,_,e⟩:=e
  cases e
  exact NoL.set (fun st=>by simp)
 | load t a=>simp only [Z0u,qA] at e; obtain ⟨_,_,e⟩:=e; exact R1 e
 | store t a x =>
  simp only [Z0u,qA] at e
  obtain ⟨_,_,_,_,h',hs,e⟩:=e
  cases e
  exact NoL.store hs
 | nilCheck x=>simp only [Z0u,qA] at e; obtain ⟨_,_,e⟩:=e; exact R1 e
 | binOp b t x y u=>simp only [Z0u,qA] at e; obtain ⟨_,_,_,_,e⟩:=e; exact R1 e
 | unOp u t x=>simp only [Z0u,qA] at e; obtain ⟨_,_,e⟩:=e; exact R1 e
 | convert s d x=>simp only [Z0u,qA] at e; obtain ⟨_,_,_,_,e⟩:=e; exact R1 e
 | sliceToArrayPointer t x=>simp only [Z0u,qA] at e; obtain ⟨_,_,e⟩:=e; exact R1 e
 | makeInterface t x =>
  simp only [Z0u,qA] at e
  obtain ⟨_,_,e⟩:=e
  split at e
  · cases e
  · cases e
  · cases e; exact NoL.refl _
 | makeFunc f a b =>
  simp only [Z0u] at e
  split at e
  · simp only [qA] at e; obtain ⟨_,_,_,_,e⟩:=e; cases e; exact NoL.refl _
  · cases e
 | makeMap t x =>
  simp only [Z0u] at e
  split at e
  · cases e; exact NoL.set (fun st=>by simp)
  · simp only [qA] at e; obtain ⟨_,_,_,_,_,_,e⟩:=e; cases e; exact NoL.set (fun st=>by simp)
 | makeSlice t l k =>
  simp only [Z0u,qA] at e
  obtain ⟨_,_,_,_,_,_,e⟩:=e
  cases e
  exact NoL.set (fun st=>by simp)
 | slice t x lo hi mx=>simp only [Z0u,qA] at e; obtain ⟨_,_,_,_,_,_,_,_,e⟩:=e; exact R1 e
 | fieldAddr t x f=>simp only [Z0u,qA] at e; obtain ⟨_,_,e⟩:=e; exact R1 e
 | field t x f=>simp only [Z0u,qA] at e; obtain ⟨_,_,e⟩:=e; exact R1 e
 | indexAddr t x i=>simp only [Z0u,qA] at e; obtain ⟨_,_,_,_,e⟩:=e; exact R1 e
 | index t x i=>simp only [Z0u,qA] at e; obtain ⟨_,_,_,_,e⟩:=e; exact R1 e
 | lookup t m k ok=>simp only [Z0u,qA] at e; obtain ⟨_,_,_,_,e⟩:=e; exact R1 e
 | mapUpdate t m k v =>
  simp only [Z0u,qA] at e
  obtain ⟨_,_,_,_,_,_,h',hs,e⟩:=e
  cases e
  exact NoL.mapUpdate hs
 | insert t m k v =>
  simp only [Z0u,qA] at e
  obtain ⟨_,_,_,_,_,_,h',hs,e⟩:=e
  cases e
  exact NoL.mapUpdate hs
 | extract t i =>
  simp only [Z0u,qA] at e
  obtain ⟨_,_,e⟩:=e
  split at e
  · simp only [qA] at e; obtain ⟨_,_,e⟩:=e; cases e; exact NoL.refl _
  · cases e
 | _=>cases e
def Zde (K:LB) (o q:Orc H):Prop:=∀ key args h c df r,KeyOK K key->Z6C K h->o key args h c df=some r->q key args h c df=some r/\Z6C K r.h
section
variable {K:LB} {o q:Orc H}
theorem Zih (hG:Zde K o q) {h:H} {c:Nat} {fv:Value} {args:List Value} {r:Value × H × Nat} (hi:Z6C K h) (e:Z43 o h c fv args=some r):Z43 q h c fv args=some r/\Z6C K r.2.1:=by
 cases fv with
 | func f first cap =>
  cases f with
  | func g =>
   simp only [Z43,qA] at e ⊢
   obtain ⟨x,hx,e⟩:=e
   obtain ⟨h1,h2⟩:=hG (.fn g) _ _ _ _ _ trivial hi hx
   refine ⟨⟨x,h1,e⟩, ?_⟩
   split at e
   · cases e; exact h2
   · cases e
  | yield l =>
   simp only [Z43] at e ⊢
   obtain ⟨h0,e⟩:=Z06 e
   rw [h0]
   split at e
   · rename_i st hg
     obtain ⟨h1,e⟩:=Z06 e
     simp only [qA] at e
     obtain ⟨x,hx,e⟩:=e
     obtain ⟨h2,h3⟩:=hG (.rnd _ _ _ _ _ _ _) _ _ _ _ _ (hi _ _ hg) hi hx
     simp only [h1,cond_true,qA]
     refine ⟨⟨x,h2,e⟩, ?_⟩
     split at e
     · cases e; exact h3
     · cases e
   · cases e
  | _=>simp [Z43] at e
 | _=>simp [Z43] at e
theorem Zkd (hG:Zde K o q) {id:Nat} {tm:Tm} {h:H} {c:Nat} {op:Op} {r:Value × H × Nat} (hi:Z6C K h) (e:Z0u P o id tm h c op=some r):Z0u P q id tm h c op=some r/\Z6C K r.2.1:=by
 cases op with
 | call k =>
  simp only [Z0u,qA] at e ⊢
  obtain ⟨args,ha,e⟩:=e
  cases hk:k.callee with
  | value f =>
   rw [hk] at e
   simp only [qA] at e
   obtain ⟨fv,hf,e⟩:=e
   obtain ⟨h1,h2⟩:=Zih hG hi e
   exact ⟨⟨args,ha,by simp only [hf,qD]; exact h1⟩,h2⟩
  | builtin b =>
   rw [hk] at e
   refine ⟨⟨args,ha,e⟩, ?_⟩
   simp only [qA] at e
   obtain ⟨x,hx,e⟩:=e
   cases e
   exact (NoL.builtin hx).inv hi
  | invoke _ _=>rw [hk] at e; cases e
 | _=>exact ⟨e,(ZnV (by intro k hk; cases hk) e).inv hi⟩
theorem Z9S (hG:Zde K o q) {ops:Array Oper} {base i nt:Nat} {tm:Tm} {h:H} {c:Nat} {op:Oper} {r:Value × H × Nat} (hi:Z6C K h) (e:Z15 P o ops base i nt tm h c op=some r) :
 Z15 P q ops base i nt tm h c op=some r/\Z6C K r.2.1:=by
 simp only [Z15,qA] at e ⊢
 obtain ⟨w,hw,e⟩:=e
 obtain ⟨h0,e⟩:=Z06 e
 cases w with
 | true =>
  obtain ⟨h1,h2⟩:=Zkd hG hi e
  exact ⟨⟨true,hw,by rw [h0]; exact h1⟩,h2⟩
 | false =>
  refine ⟨⟨false,hw,by rw [h0]; exact e⟩, ?_⟩
  cases e
  exact hi
theorem Z6t (hG:Zde K o q) {ops:Array Oper} {base nt:Nat}:∀ {l:List Oper} {i:Nat} {tm:Tm} {h:H} {c:Nat} {r:Tm × H × Nat},Z6C K h->Z1l P o ops base nt l i tm h c=some r →
 Z1l P q ops base nt l i tm h c=some r/\Z6C K r.2.1
 | [],i,tm,h,c,r,hi,e=>⟨e,by cases e; exact hi⟩
 | op::l,i,tm,h,c,r,hi,e=>by
  simp only [Z1l,qA] at e ⊢
  obtain ⟨x,hx,e⟩:=e
  obtain ⟨h1,h2⟩:=Z9S hG hi hx
  obtain ⟨h3,h4⟩:=Z6t hG h2 e
  exact ⟨⟨x,h1,h3⟩,h4⟩
theorem Z9o (hG:Zde K o q) {ops:Array Oper} {base nt:Nat}:∀ {l:List Oper} {i:Nat} {tm:Tm} {h:H} {c:Nat} {r:Tm × H × Nat × List (Option Nat × H)},Z6C K h →
 Z1d P o ops base nt l i tm h c=some r->Z1d P q ops base nt l i tm h c=some r/\Z6C K r.2.1
 | [],i,tm,h,c,r,hi,e=>⟨e,by cases e; exact hi⟩
 | op::l,i,tm,h,c,r,hi,e=>by
  simp only [Z1d,qA] at e ⊢
  obtain ⟨x,hx,y,hy,e⟩:=e
  obtain ⟨h1,h2⟩:=Z9S hG hi hx
  obtain ⟨h3,h4⟩:=Z9o hG h2 hy
  refine ⟨⟨x,h1,y,h3,e⟩, ?_⟩
  cases e
  exact h4
theorem Ze9 (hG:Zde K o q) {ops:Array Oper} {draw:Bool} {nt:Nat} {tm:Tm} {h:H} {c:Nat} {r:Tm × H × Nat} (hi:Z6C K h) (e:Z5z P o ops draw nt tm h c=some r) :
 Z5z P q ops draw nt tm h c=some r/\Z6C K r.2.1:=by
 simp only [Z5z] at e ⊢
 cases draw with
 | false=>exact Z6t hG hi e
 | true =>
  obtain ⟨h0,e⟩:=Z06 e
  simp only [cond_true,h0]
  cases h1:(lws ops).isEmpty with
  | true=>rw [h1] at e; exact Z6t hG hi e
  | false =>
   rw [h1] at e
   simp only [cond_false,qA] at e ⊢
   obtain ⟨x,hx,e⟩:=e
   obtain ⟨h2,h3⟩:=Z9o hG hi hx
   refine ⟨⟨x,h2,e⟩, ?_⟩
   obtain ⟨_,e⟩:=Z06 e
   cases e
   exact h3
theorem Zau {β γ:Type} {e:Ex} {f:Ex->Option β} {g:Ex->Option γ} {x:β}:∀ {l:List Ex},ZoC e f l=some x->f e=some x/\ZoC e g l=g e
 | [],h=>by cases h
 | y::l,h=>by
  simp only [ZoC] at h ⊢
  cases hb:Z0r e y with
  | true=>rw [hb] at h; rw [Zd5 hb]; exact ⟨h,rfl⟩
  | false=>rw [hb] at h; exact Zau h
theorem Zed (hG:Zde K o q) {nt:Nat} {rd:Option Nat} {lin:List Nat} {ps:Array Tmp} {a b:ACode} {fv:Value} {vs:List Value} {h:H} {c:Nat} {df:List Nat} {r:Ex × H × Nat × List Nat} (hi:Z6C K h)
 (hk:K.rng nt ps.toList=some (lin,a,b)) (e:Z6L o nt rd lin [] ps a b fv vs h c df=some r):Z6L q nt rd lin [] ps a b fv vs h c df=some r/\Z6C K r.2.1:=by
 unfold Z6L at e ⊢
 split at e
 · rename_i g first cap
   simp only [qA] at e ⊢
   obtain ⟨hd,hhd,x,hx,e⟩:=e
   have hi1:Z6C K hd.1:=by
    unfold Z31 at hhd
    split at hhd
    · cases hhd; exact (NoL.set (fun st=>by simp)).inv hi
    · split at hhd
      · cases hhd; exact hi
      · cases hhd
   have hi2:Z6C K (HeapC.set hd.1 (256*c) (.loop { state:=.ready,pending:=none,nt:=nt,vals:=vs,lin:=lin,fr:=[],params:=ps.toList,assign:=a,body:=b,dfr:=hd.2 })):=by
    intro i st hst
    rw [HeapC.get_set] at hst
    split at hst
    · cases hst; exact ⟨rfl,hk⟩
    · exact hi1 i st hst
   obtain ⟨h1,h2⟩:=hG (.fn g) _ _ _ _ _ trivial hi2 hx
   refine ⟨⟨hd,hhd,x,h1,e⟩, ?_⟩
   split at e
   · rename_i st hg
     cases hb:decide (st.state=LoopState.busy) with
     | true=>rw [hb] at e; cases e
     | false =>
      rw [hb] at e
      simp only [cond_false,qA] at e
      obtain ⟨y,_,e⟩:=e
      cases e
      exact NoL.del.inv h2
   · cases e
 · cases e
theorem ZcM (hG:Zde K o q) {nt:Nat} {rd:Option Nat}:∀ {code:ACode},Z0b K nt code -> ∀ {β:Type} {tm:Tm} {h:H} {c:Nat} {df:List Nat} {Kf:Kx H β} {x:β},Z6C K h->jx P o nt rd code tm h c df Kf=some x →
 ∃ e tm1 h1 c1 df1,Kf e tm1 h1 c1 df1=some x/\Z6C K h1 /\ ∀ {γ:Type} (Kg:Kx H γ),jx P q nt rd code tm h c df Kg=Kg e tm1 h1 c1 df1:=by
 intro code
 induction code with
 | skip=>intro _ β tm h c df Kf x hi e; exact ⟨_,_,_,_,_,e,hi,fun _=>rfl⟩
 | region id ops d =>
  intro _ β tm h c df Kf x hi e
  simp only [jx,Zec,qA] at e
  obtain ⟨y,hy,e⟩:=e
  obtain ⟨h1,h2⟩:=Ze9 hG hi hy
  exact ⟨_,_,_,_,_,e,h2,fun Kg=>by simp only [jx,Zec,h1,qD]⟩
 | seq a b iha ihb =>
  intro hok β tm h c df Kf x hi e
  simp only [jx] at e
  obtain ⟨e1,tm1,h1,c1,df1,hk,hi1,hg⟩:=iha hok.1 hi e
  cases e1 with
  | normal =>
   obtain ⟨e2,tm2,h2,c2,df2,hk2,hi2,hg2⟩:=ihb hok.2 hi1 hk
   exact ⟨_,_,_,_,_,hk2,hi2,fun Kg=>by simp only [jx]; rw [hg]; exact hg2 Kg⟩
  | exit i=>exact ⟨_,_,_,_,_,hk,hi1,fun Kg=>by simp only [jx]; rw [hg]⟩
  | ret=>exact ⟨_,_,_,_,_,hk,hi1,fun Kg=>by simp only [jx]; rw [hg]⟩
 | cond y a b iha ihb =>
  intro hok β tm h c df Kf x hi e
  simp only [jx,qA] at e
  obtain ⟨v,hv,e⟩:=e
  split at e
  · rename_i t
    cases t
    · obtain ⟨e1,tm1,h1,c1,df1,hk,hi1,hg⟩:=ihb hok.2 hi e
      exact ⟨_,_,_,_,_,hk,hi1,fun Kg=>by simp only [jx,hv,qD,cond_false]; exact hg Kg⟩
    · obtain ⟨e1,tm1,h1,c1,df1,hk,hi1,hg⟩:=iha hok.1 hi e
      exact ⟨_,_,_,_,_,hk,hi1,fun Kg=>by simp only [jx,hv,qD,cond_true]; exact hg Kg⟩
  · cases e
 | block id a ih =>
  intro hok β tm h c df Kf x hi e
  simp only [jx] at e
  obtain ⟨e1,tm1,h1,c1,df1,hk,hi1,hg⟩:=ih hok hi e
  cases e1 with
  | normal=>exact ⟨_,_,_,_,_,hk,hi1,fun Kg=>by simp only [jx]; rw [hg]⟩
  | exit i =>
   cases hb:Nat.beq i id with
   | true=>simp only [hb] at hk; exact ⟨_,_,_,_,_,hk,hi1,fun Kg=>by simp only [jx]; rw [hg]; simp only [hb,cond_true]⟩
   | false=>simp only [hb] at hk; exact ⟨_,_,_,_,_,hk,hi1,fun Kg=>by simp only [jx]; rw [hg]; simp only [hb,cond_false]⟩
  | ret=>exact ⟨_,_,_,_,_,hk,hi1,fun Kg=>by simp only [jx]; rw [hg]⟩
 | loop j lin fr outs b _ =>
  intro hok β tm h c df Kf x hi e
  simp only [jx,qA] at e
  obtain ⟨vs,hv,r,hr,e⟩:=e
  obtain ⟨h1,h2⟩:=hG (.lp j lin fr b nt rd) _ _ _ _ _ hok hi hr
  refine ⟨r.e,tmL lin r.vs,r.h,r.c,r.df, ?_,h2,fun {γ} Kg=>?_⟩
  · exact (Zau (γ:=β) (g:=fun _=>none) e).1
  · simp only [jx,hv,qD,h1]
    exact (Zau (g:=fun e=>Kg e (tmL lin r.vs) r.h r.c r.df) e).2
 | rangeFunc j lin fr outs f ps a b _ _ =>
  intro hok β tm h c df Kf x hi e
  obtain ⟨rfl,hk⟩:=hok
  simp only [jx,qA] at e
  obtain ⟨fv,hf,vs,hv,r,hr,e⟩:=e
  obtain ⟨h1,h2⟩:=Zed hG hi hk hr
  refine ⟨r.1,tm,r.2.1,r.2.2.1,r.2.2.2, ?_,h2,fun {γ} Kg=>?_⟩
  · exact (Zau (γ:=β) (g:=fun _=>none) e).1
  · simp only [jx,hf,hv,qD,h1]
    exact (Zau (g:=fun e=>Kg e tm r.2.1 r.2.2.1 r.2.2.2) e).2
 | exit id=>intro _ β tm h c df Kf x hi e; exact ⟨_,_,_,_,_,e,hi,fun _=>rfl⟩
 | ret=>intro _ β tm h c df Kf x hi e; exact ⟨_,_,_,_,_,e,hi,fun _=>rfl⟩
 | bad _=>intro _ β tm h c df Kf x hi e; cases e
 | join lays a ih =>
  intro hok β tm h c df Kf x hi e
  simp only [jx,qA] at e
  obtain ⟨r,hr,e⟩:=e
  obtain ⟨e1,tm1,h1,c1,df1,hk,hi1,hg⟩:=ih hok hi hr
  have hk':=hk
  simp only [qA] at hk'
  obtain ⟨l,hl,vs,hvs,hk'⟩:=hk'
  cases hk'
  refine ⟨e1,tmL l vs,h1,c1,df1, ?_,hi1,fun {γ} Kg=>?_⟩
  · obtain ⟨lay,h3,h4⟩:=Z6a e
    simp only at h3 h4
    rw [hl] at h3
    cases h3
    exact h4
  · simp only [jx]
    rw [hg]
    simp only [hl,hvs,qD]
    obtain ⟨lay,h3,h4⟩:=Z6a e
    simp only at h3 h4
    rw [hl] at h3
    cases h3
    clear hg hk hr h4
    have:∀ {ls:List (Ex × List Nat)} {l:List Nat},ZqE e1 ls=some l->Zie ({ e:=e1,vs:=vs,h:=h1,c:=c1,df:=df1 }:Rt H) Kg ls=Kg e1 (tmL l vs) h1 c1 df1:=by
     intro ls
     induction ls with
     | nil=>intro l h; cases h
     | cons y ls ih2 =>
      intro l h
      simp only [ZqE] at h
      simp only [Zie]
      cases hb:Z0r e1 y.1 with
      | true=>rw [hb] at h; cases h; rw [Zd5 hb]; rfl
      | false=>rw [hb] at h; exact ih2 h
    exact this hl
end
structure Tab (H:Type) where
 F:FuncId->Option (Orc H->List Value->H->Nat->Option (Rt H))
 L:Nat->Option (Orc H->Option Nat->List Value->H->Nat->List Nat->Option (Rt H))
 R:Nat->List Nat->Option (Orc H->Nat->List Value->H->Nat->Option (Rt H))
noncomputable def evT (T:Tab H) (n:Nat):Orc H :=
 Nat.rec (motive:=fun _=>Orc H) (fun _ _ _ _ _=>none)
  (fun _ o key args h c df=>Key.rec (motive:=fun _=>Option (Rt H))
   (fun f=>(T.F f).bind fun F=>F o args h c)
   (fun j lin fr b nt rd=>(T.L j).bind fun B=>(B o rd args h c df).bind fun q =>
    match q.e with
    | .normal=>o (.lp j lin fr b nt rd) q.vs q.h q.c q.df
    | .exit i=>some { q with e:=.exit i }
    | .ret=>some { q with e:=.ret })
   (fun nt _ _ params l _ _=>(T.R nt params).bind fun D=>D o l args h c) key) n
theorem Zd6 (T:Tab H) (n:Nat) (key:Key) (args:List Value) (h:H) (c:Nat) (df:List Nat):evT T (n+1) key args h c df =
 match key with
 | .fn f=>(T.F f).bind fun F=>F (evT T n) args h c
 | .lp j lin fr b nt rd=>(T.L j).bind fun B=>(B (evT T n) rd args h c df).bind fun q =>
  match q.e with
  | .normal=>evT T n (.lp j lin fr b nt rd) q.vs q.h q.c q.df
  | .exit i=>some { q with e:=.exit i }
  | .ret=>some { q with e:=.ret }
 | .rnd nt _ _ params l _ _=>(T.R nt params).bind fun D=>D (evT T n) l args h c:=by
 cases key <;> rfl
structure TabOK (P:Program) (bk:FuncId->Option AFun) (K:LB) (T:Tab H):Prop where
 F:∀ f F,T.F f=some F -> ∃ a,bk f=some a/\a.fr=[]/\Z0b K a.nt a.code /\ ∀ o args h c r,F o args h c=some r →
  Nat.ble args.length a.nt=true/\jx P o a.nt none a.code (Z0h (List.range args.length) args) h c [] (Kfn P a.res)=some r
 L:∀ j B lin b nt,T.L j=some B->K.loop j=some (lin,b,nt)->Z0b K nt b /\ ∀ o rd vs h c df q,B o rd vs h c df=some q->jx P o nt rd b (Z0h lin vs) h c df (Klp lin)=some q
 R:∀ nt ps D lin a b,T.R nt ps=some D->K.rng nt ps=some (lin,a,b)->Z0b K nt a/\Z0b K nt b /\ ∀ o l vs h c r,D o l vs h c=some r →
  jx P o nt (some l) a (Z0h (ps++lin) vs) h c [] (ZqB P o nt l b)=some r
theorem Zqz {K:LB} {res:List ResultVar} {e:Ex} {tm:Tm} {h:H} {c:Nat} {df:List Nat} {r:Rt H} (hi:Z6C K h) (hk:Kfn P res e tm h c df=some r):Z6C K r.h:=by
 have tk:∀ (ds:List Nat) (h h1:H),Z0a h ds=some h1->NoL h h1:=by
  intro ds
  induction ds with
  | nil=>intro h h1 e; cases e; exact NoL.refl _
  | cons d ds ih =>
   intro h h1 e
   simp only [Z0a] at e
   split at e
   · exact NoL.del.trans (ih _ _ e)
   · cases e
 cases e with
 | exit i=>cases hk
 | normal =>
  simp only [Kfn,Z5I,qA] at hk
  obtain ⟨h1,ht,vs,_,hk⟩:=hk
  cases hk
  exact (tk _ _ _ ht).inv hi
 | ret =>
  simp only [Kfn,Z5I,qA] at hk
  obtain ⟨h1,ht,vs,_,hk⟩:=hk
  cases hk
  exact (tk _ _ _ ht).inv hi
theorem Zdr {K:LB} {h h':H} {l:Nat} {s:LoopState} {pd:Option Code} (hi:Z6C K h) (e:Z12 h l s pd=some h'):Z6C K h':=by
 unfold Z12 at e
 split at e
 · rename_i st hg
   cases e
   intro i st' h'
   rw [HeapC.get_set] at h'
   split at h'
   · cases h'; exact hi l st hg
   · exact hi _ _ h'
 · cases e
theorem Zfd {K:LB} {h h':H} {l:Nat} (hi:Z6C K h) (e:Z4e h l=some h'):Z6C K h':=by
 unfold Z4e at e
 split at e
 · rename_i st hg
   obtain ⟨_,e⟩:=Z06 e
   cases e
   intro i st' h'
   rw [HeapC.get_set] at h'
   split at h'
   · cases h'; exact hi l st hg
   · exact hi _ _ h'
 · cases e
theorem ZgY {bk:FuncId->Option AFun} {K:LB} {T:Tab H} (hT:TabOK P bk K T):∀ n,Zde K (evT T n) (run P bk)
 | 0=>fun _ _ _ _ _ _ _ _ e=>by cases e
 | n+1=>by
  have ih:=ZgY hT n
  intro key args h c df r hk hi e
  cases key with
  | fn f =>
   simp only [Zd6,qA] at e
   obtain ⟨F,hF,e⟩:=e
   obtain ⟨a,ha,hfr,hok,h1⟩:=hT.F f F hF
   obtain ⟨hlen,h2⟩:=h1 _ _ _ _ _ e
   obtain ⟨e1,tm1,h3,c1,df1,h4,h5,h6⟩:=ZcM ih hok hi h2
   exact ⟨run_fn ha hfr hlen (by rw [h6]; exact h4),Zqz h5 h4⟩
  | lp j lin fr b nt rd =>
   obtain ⟨rfl,hkl⟩:=hk
   simp only [Zd6,qA] at e
   obtain ⟨B,hB,q,hq,e⟩:=e
   obtain ⟨hok,h1⟩:=hT.L j B lin b nt hB hkl
   have h2:=h1 _ _ _ _ _ _ _ hq
   obtain ⟨e1,tm1,h3,c1,df1,h4,h5,h6⟩:=ZcM ih hok hi h2
   have h7:jx P (run P bk) nt rd b (Z0h lin args) h c df (Klp lin)=some q:=by rw [h6]; exact h4
   have hqe:q.e=e1/\Z6C K q.h:=by
    simp only [Klp,qA] at h4
    obtain ⟨ws,_,h4⟩:=h4
    cases h4
    exact ⟨rfl,h5⟩
   cases hx:q.e with
   | normal =>
    rw [hx] at e
    obtain ⟨h8,h9⟩:=ih (.lp j lin [] b nt rd) _ _ _ _ _ ⟨rfl,hkl⟩ hqe.2 e
    exact ⟨Ze8 h7 hx h8,h9⟩
   | exit i =>
    rw [hx] at e
    have:r=q:=by obtain ⟨qe,qv,qh,qc,qd⟩:=q; simp only at hx; subst hx; cases e; rfl
    subst this
    exact ⟨Z9U h7 (by rw [hx]; simp),hqe.2⟩
   | ret =>
    rw [hx] at e
    have:r=q:=by obtain ⟨qe,qv,qh,qc,qd⟩:=q; simp only at hx; subst hx; cases e; rfl
    subst this
    exact ⟨Z9U h7 (by rw [hx]; simp),hqe.2⟩
  | rnd nt lin fr params l a b =>
   obtain ⟨rfl,hkr⟩:=hk
   simp only [Zd6,qA] at e
   obtain ⟨D,hD,e⟩:=e
   obtain ⟨hoa,hob,h1⟩:=hT.R nt params D lin a b hD hkr
   have h2:=h1 _ _ _ _ _ _ e
   obtain ⟨e1,tm1,h3,c1,df1,h4,h5,h6⟩:=ZcM ih hoa hi h2
   cases e1 with
   | exit i=>cases h4
   | ret=>cases h4
   | normal =>
    simp only [ZqB,qA] at h4
    obtain ⟨h7,hb,h8⟩:=h4
    obtain ⟨e2,tm2,h9,c2,df2,h10,h11,h12⟩:=ZcM ih hob (Zfd h5 hb) h8
    refine ⟨Zp3 (by rw [h6]; simp only [hb,qD]; rw [h12]; exact h10), ?_⟩
    simp only [Krd,qA] at h10
    obtain ⟨h13,hs,h14⟩:=h10
    obtain ⟨_,h14⟩:=Z06 h14
    cases h14
    exact Zdr h11 hs
inductive BT (α:Type) where
 | leaf
 | node (k:Nat) (v:α) (l r:BT α)
noncomputable def BT.look {α:Type} (t:BT α) (f:Nat):Option α :=
 BT.rec (motive:=fun _=>Option α) none (fun k v _ _ l r=>cond (Nat.beq f k) (some v) (cond (Nat.blt f k) l r)) t
theorem BT.look_node {α:Type} (k:Nat) (v:α) (l r:BT α) (f:Nat):(BT.node k v l r).look f=cond (Nat.beq f k) (some v) (cond (Nat.blt f k) (l.look f) (r.look f)):=rfl
def BT.All {α:Type} (Q:Nat->α->Prop):BT α->Prop
 | .leaf=>True
 | .node k v l r=>Q k v/\l.All Q/\r.All Q
theorem BT.look_all {α:Type} {Q:Nat->α->Prop}:∀ {t:BT α},t.All Q -> ∀ {f:Nat} {v:α},t.look f=some v->Q f v
 | .leaf,_,f,v,e=>by cases e
 | .node k w l r,h,f,v,e=>by
  rw [BT.look_node] at e
  cases hb:Nat.beq f k with
  | true=>rw [hb] at e; cases e; rw [qJ hb]; exact h.1
  | false =>
   rw [hb] at e
   cases hc:Nat.blt f k with
   | true=>rw [hc] at e; exact look_all h.2.1 e
   | false=>rw [hc] at e; exact look_all h.2.2 e
def nlEq:List Nat->List Nat->Bool
 | [],[]=>true
 | x::xs,y::ys=>cond (Nat.beq x y) (nlEq xs ys) false
 | _,_=>false
theorem Zj3:∀ {a b:List Nat},nlEq a b=true->a=b
 | [],[],_=>rfl
 | x::xs,y::ys,h=>by
  simp only [nlEq] at h
  cases hb:Nat.beq x y with
  | true=>rw [hb] at h; rw [qJ hb,Zj3 h]
  | false=>rw [hb] at h; cases h
 | [],y::ys,h=>by cases h
 | x::xs,[],h=>by cases h
def Zjd {α:Type} (nt:Nat) (ps:List Nat):List (Nat × List Nat × α)->Option α
 | []=>none
 | x::xs=>cond (cond (Nat.beq nt x.1) (nlEq ps x.2.1) false) (some x.2.2) (Zjd nt ps xs)
def AllR {α:Type} (Q:Nat->List Nat->α->Prop):List (Nat × List Nat × α)->Prop
 | []=>True
 | x::xs=>Q x.1 x.2.1 x.2.2/\AllR Q xs
theorem ZdE {α:Type} {Q:Nat->List Nat->α->Prop} {nt:Nat} {ps:List Nat}:∀ {l:List (Nat × List Nat × α)},AllR Q l -> ∀ {v:α},Zjd nt ps l=some v->Q nt ps v
 | [],_,v,e=>by cases e
 | x::xs,h,v,e=>by
  simp only [Zjd] at e
  cases hb:cond (Nat.beq nt x.1) (nlEq ps x.2.1) false with
  | false=>rw [hb] at e; exact ZdE h.2 e
  | true =>
   rw [hb] at e
   cases e
   cases hc:Nat.beq nt x.1 with
   | false=>rw [hc] at hb; cases hb
   | true=>rw [hc] at hb; rw [qJ hc,Zj3 hb]; exact h.1
def Z0F (P:Program) (f:FuncId) (a:AFun):Prop :=
 ∃ fn c,P.funcs[f]? = some fn/\fn.body=some c/\(fn.name == "runtime.NumGoroutine")=false/\Z3V a.code=c/\a.nt=fn.ntmps/\a.res=fn.results.toList
def FE (P:Program) (bk:FuncId->Option AFun) (K:LB) (f:FuncId) (F:Orc H->List Value->H->Nat->Option (Rt H)):Prop :=
 ∃ a,bk f=some a/\a.fr=[]/\Z0b K a.nt a.code /\ ∀ o args h c r,F o args h c=some r →
  Nat.ble args.length a.nt=true/\jx P o a.nt none a.code (Z0h (List.range args.length) args) h c [] (Kfn P a.res)=some r
def LE (P:Program) (K:LB) (j:Nat) (B:Orc H->Option Nat->List Value->H->Nat->List Nat->Option (Rt H)):Prop :=
 ∀ lin b nt,K.loop j=some (lin,b,nt)->Z0b K nt b /\ ∀ o rd vs h c df q,B o rd vs h c df=some q->jx P o nt rd b (Z0h lin vs) h c df (Klp lin)=some q
def RE (P:Program) (K:LB) (nt:Nat) (ps:List Nat) (D:Orc H->Nat->List Value->H->Nat->Option (Rt H)):Prop :=
 ∀ lin a b,K.rng nt ps=some (lin,a,b)->Z0b K nt a/\Z0b K nt b /\ ∀ o l vs h c r,D o l vs h c=some r->jx P o nt (some l) a (Z0h (ps++lin) vs) h c [] (ZqB P o nt l b)=some r
end Go.Ab
