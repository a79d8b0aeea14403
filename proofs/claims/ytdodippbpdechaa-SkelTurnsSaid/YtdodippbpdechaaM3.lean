/- Parts of a proof: AbDo AbSup AbReg. Conditions: none. -/
import Derived.Test.YtdodippbpdechaaM2
set_option linter.all false
set_option maxRecDepth 100000
namespace Go.Ab
open Go
variable {H:Type} [HeapC H] {P:Program} {μ:Mu} {A:H} {w:World}
def wd (ro:Option Nat):Fence:={ Fence.wide with round:=ro }
theorem Zdg {ro:Option Nat} {n:Nat} {f:FuncId} {args:Array Value} {Rq:Ending->World->Prop} (h:Calls P f args w Rq):CallsIn (wd ro) n P f args w Rq :=
 callsIn_wide (n:=n).2 h
def Z5Q (μ:Mu) (A:H) (c:Nat) (w:World) (r:Rt H) (e:Ending) (w':World):Prop :=
 ∃ v v' μ',r.vs=[v]/\e = .returned v'/\VR μ' v v'/\Ext μ A c w (fun _=>False) μ' r.h r.c w'
structure OS (P:Program) (o:Orc H):Prop where
 fn:∀ (f:FuncId) (args:List Value) (A:H) (c:Nat) (df:List Nat) (r:Rt H),o (.fn f) args A c df=some r →
  (∀ avs w,(callFunc f avs).run P w = .ok (.enter f avs) w) ∧
  ∀ (μ:Mu) (w:World) (args':List Value),VRs μ args args'->R μ A w->Z1Y μ c->Calls P f args'.toArray w (Z5Q μ A c w r)
 rnd:∀ (nt:Nat) (lin fr params:List Nat) (l:Nat) (a b:ACode) (vs:List Value) (A:H) (c:Nat) (df:List Nat) (r:Rt H),o (.rnd nt lin fr params l a b) vs A c df=some r →
  ∀ (μ:Mu) (w:World) (ts:Array Value) (m:ME) (ro:Option Nat) (n:Nat) (f:FuncId),μ l=some m->TmR μ (Z0l (params++lin) vs) nt ts->R μ A w->Z1Y μ c →
   RoundIn (wd ro) n P m.b f ts (Z3K a) (Z3K b) w (Z5Q μ A c w r)
theorem Z0w {o:Oper} {a:Act} {ro:Option Nat} {n:Nat} {K:Act->World->Prop} {Q:Exit->Act->World->Prop} {v':Value} {w':World} (hd:∀ c,o.op ≠ .defer c)
 (h:(execOp a.eval o).run P w = .ok (.value v') w') (hK:K (a.put o.dst v') w'):o.wpIn (wd ro) n P a w K Q:=by
 refine ⟨fun _ _=>trivial, ?_⟩
 rw [Oper.semAt_eq _ _ _ hd,h]
 exact hK
theorem Z6S {o:Oper} {a:Act} {ro:Option Nat} {n:Nat} {K:Act->World->Prop} {Q:Exit->Act->World->Prop} {w':World} (hd:∀ c,o.op ≠ .defer c)
 (h:(execOp a.eval o).run P w = .ok .skip w') (hK:K (a.put o.dst undef) w'):o.wpIn (wd ro) n P a w K Q:=by
 refine ⟨fun _ _=>trivial, ?_⟩
 rw [Oper.semAt_eq _ _ _ hd,h]
 exact hK
theorem Zmk {s:Sem Value} {v':Value} {w':World} (h:s.run P w = .ok v' w'):(do pure (Next.value (← s)):Sem Next).run P w = .ok (.value v') w':=by
 simp only [Sem.run_bind,h,Result.andThen_ok,Sem.run_pure]
theorem Z0O {h:H} {c:Nat} {v:Option Value} {r:Value × H × Nat} (e:Z6N h c v=some r):v=some r.1/\r.2.1=h/\r.2.2=c:=by
 simp only [Z6N,Option.bind_eq_some_iff] at e
 obtain ⟨x,hx,e⟩:=e
 cases e
 exact ⟨hx,rfl,rfl⟩
theorem TmR.opt {tm:Tm} {nt:Nat} {a:Act} (h:TmR μ tm nt a.tmps) {x:Option Operand} {v:Option Value} (e:Zcn tm x=some v):VRo μ v (x.map a.eval):=by
 cases x with
 | none=>simp [Zcn] at e; subst e; trivial
 | some x =>
  simp only [Zcn,Option.bind_eq_some_iff] at e
  obtain ⟨y,hy,e⟩:=e
  cases e
  exact h.eval hy
theorem ZlI {c:Nat} (hR:R μ A w) {id:Nat} (hid:μ id=none) :
 Ext μ A c w (fun i=>i=id) (μ.upd id ⟨w.heap.size,0,none⟩) (HeapC.set A id (.map [])) c { w with heap:=w.heap.push (.map #[] 0) }:=by
 refine Ext.alloc hR hid rfl rfl rfl rfl rfl rfl ?_
 exact ⟨#[],0,by simp,rfl,by simp⟩
theorem look {o:Oper} {a:Act} {ro:Option Nat} {n c:Nat} {K:Act->World->Prop} {Q:Exit->Act->World->Prop} {v:Value} {s:Sem Value} (hR:R μ A w) (hd:∀ c,o.op ≠ .defer c)
 (hs:execOp a.eval o=(do pure (.value (← s)))) (h:∃ v',s.run P w = .ok v' w/\VR μ v v')
 {own:Nat->Prop} (hK:∀ v' μ' w',VR μ' v v'->Ext μ A c w own μ' A c w'->K (a.put o.dst v') w'):o.wpIn (wd ro) n P a w K Q:=by
 obtain ⟨v',h1,h2⟩:=h
 exact Z0w hd (by rw [hs]; exact Zmk h1) (hK v' μ w h2 (Ext.refl hR))
theorem Zd3 {o:Orc H} {d:Option Tmp} {op:Op} {ty:TypeId} {pos:String} {af:Array Edge} {gd:Option (Nat × Bool)} {id:Nat} {tm:Tm} {nt c c':Nat} {v:Value} {A':H} {a:Act}
 (hcall:∀ k,op ≠ .call k) (e:Z0m P o id tm A c op=some (v,A',c')) (ht:TmR μ tm nt a.tmps) (hR:R μ A w) (hid:μ id=none)
 {ro:Option Nat} {n:Nat} {K:Act->World->Prop} {Q:Exit->Act->World->Prop}
 (hK:∀ v' μ' w',VR μ' v v'->Ext μ A c w (fun i=>i=id/\2<=cls op) μ' A' c' w'->K (a.put d v') w') :
 (Oper.mk d op ty pos af gd).wpIn (wd ro) n P a w K Q:=by
 have hu:VR μ undef undef:=VR.tuple_iff.2 (VRs.nil μ)
 cases op with
 | move x =>
  obtain ⟨h1,h2,h3⟩:=Z0O e
  subst h2; subst h3
  exact Z0w (by simp) (by rfl) (hK _ μ w (ht.eval h1) (Ext.refl hR))
 | assign x =>
  obtain ⟨h1,h2,h3⟩:=Z0O e
  subst h2; subst h3
  exact Z0w (by simp) (by rfl) (hK _ μ w (ht.eval h1) (Ext.refl hR))
 | pick k x y =>
  simp only [Z0m,Option.bind_eq_some_iff] at e
  obtain ⟨kv,hk,xv,hx,yv,hy,e⟩:=e
  split at e
  · rename_i t
    cases e
    have h1:=(ht.eval hk).bool_left
    refine Z0w (v':=if t then a.eval x else a.eval y) (by simp) ?_ (hK _ μ w ?_ (Ext.refl hR))
    · simp [execOp,h1,asBool]
    · cases t
      · exact ht.eval hy
      · exact ht.eval hx
  · cases e
 | alloc t =>
  simp only [Z0m,Option.bind_eq_some_iff] at e
  obtain ⟨z,hz,e⟩:=e
  obtain ⟨hp,e⟩:=Z05 e
  cases e
  have hzr:VRs μ z.cells.toList z.cells.toList:=(VR.plainL (μ:=μ) hp).cells
  refine Z0w (v':=.pointer (some ⟨w.heap.size,0,none⟩)) (w':={ w with heap:=w.heap.push (.cells z.cells t) }) (by simp) ?_ (hK _ _ _ (Zdu hid) (Ext.weaken (own:=fun i=>i=id) ?_ (fun i h=>⟨h,by simp [cls]⟩)))
  · simp [execOp,Instr.alloc,Z0y hz,newVar,newRow]
  · simpa using Z7W (c:=c) hR hid hzr t
 | box t x =>
  simp only [Z0m,Option.bind_eq_some_iff] at e
  obtain ⟨xv,hx,e⟩:=e
  obtain ⟨hp,e⟩:=Z05 e
  cases e
  have hr:=(ht.eval hx).cells
  refine Z0w (v':=.pointer (some ⟨w.heap.size,0,none⟩)) (w':={ w with heap:=w.heap.push (.cells (a.eval x).cells t) }) (by simp) ?_ (hK _ _ _ (Zdu hid) (Ext.weaken (own:=fun i=>i=id) ?_ (fun i h=>⟨h,by simp [cls]⟩)))
  · simp [execOp,Instr.box,newVar,newRow]
  · simpa using Z7W (c:=c) hR hid hr t
 | build t ps =>
  simp only [Z0m,Option.bind_eq_some_iff] at e
  obtain ⟨vs,hvs,e⟩:=e
  obtain ⟨h1,h2,h3⟩:=Z0O e
  subst h2; subst h3
  have hp:=ht.evalPs hvs
  refine look hR (by simp) rfl ?_ hK
  have hq:(ps.toList.map fun (p:Nat × Operand)=>(p.1,a.eval p.2)).toArray=ps.map fun p=>(p.1,a.eval p.2):=by apply Array.ext'; simp
  have:=Zge (w:=w) h1 hp
  rw [hq] at this
  exact this
 | buildSlice t len ps =>
  simp only [Z0m,Option.bind_eq_some_iff] at e
  obtain ⟨vs,hvs,cs,hcs,e⟩:=e
  cases e
  have hp:=ht.evalPs hvs
  obtain ⟨cs',E,h1,h2⟩:=Z96 (w:=w) hcs hp
  have hq:(ps.toList.map fun (p:Nat × Operand)=>(p.1,a.eval p.2)).toArray=ps.map fun p=>(p.1,a.eval p.2):=by apply Array.ext'; simp
  rw [hq] at h1
  exact Z0w (by simp) (Zmk h1) (hK _ _ _ Zgq ((Z7W (c:=c) hR hid h2 E).weaken (fun i h=>⟨h,by simp [cls]⟩)))
 | insert t m k x =>
  simp only [Z0m,Option.bind_eq_some_iff] at e
  obtain ⟨mv,hm,kv,hk,xv,hx,A1,hA,e⟩:=e
  cases e
  obtain ⟨w',h1,h2⟩:=Z60 (c:=c) (own:=fun i=>i=id/\_) hR hA (ht.eval hm) (ht.eval hk) (ht.eval hx)
  refine Z6S (by simp) ?_ (hK _ μ w' hu h2)
  simp only [execOp,Sem.run_bind,h1,Result.andThen_ok,Sem.run_pure]
 | load t x =>
  simp only [Z0m,Option.bind_eq_some_iff] at e
  obtain ⟨p,hp,e⟩:=e
  obtain ⟨h1,h2,h3⟩:=Z0O e
  subst h2; subst h3
  exact look hR (by simp) rfl (ZbY hR h1 (ht.eval hp)) hK
 | store t x y =>
  simp only [Z0m,Option.bind_eq_some_iff] at e
  obtain ⟨p,hp,xv,hx,A1,hA,e⟩:=e
  cases e
  obtain ⟨w',h1,h2⟩:=Zg9 (P:=P) (c0:=c) (own:=fun i=>i=id/\_) hR hA (ht.eval hp) (ht.eval hx)
  refine Z6S (by simp) ?_ (hK _ μ w' hu h2)
  simp only [execOp,Sem.run_bind,h1,Result.andThen_ok,Sem.run_pure]
 | nilCheck x =>
  simp only [Z0m,Option.bind_eq_some_iff] at e
  obtain ⟨p,hp,e⟩:=e
  obtain ⟨h1,h2,h3⟩:=Z0O e
  subst h2; subst h3
  have hv:=ht.eval hp
  obtain ⟨h4,h5⟩:=Zbk h1 hv
  subst h4
  refine Z0w (v':=a.eval x) (by simp) ?_ (hK _ μ w hv (Ext.refl hR))
  rcases h5 with ⟨q,h5⟩ | ⟨f,q,q2,h5⟩ | ⟨f,q,q2,h5⟩ <;> simp [execOp,h5]
 | binOp bo t x y yt =>
  simp only [Z0m,Option.bind_eq_some_iff] at e
  obtain ⟨xv,hx,yv,hy,e⟩:=e
  obtain ⟨h1,h2,h3⟩:=Z0O e
  subst h2; subst h3
  exact look hR (by simp) rfl (Zgf h1 (ht.eval hx) (ht.eval hy)) hK
 | unOp u t x =>
  simp only [Z0m,Option.bind_eq_some_iff] at e
  obtain ⟨xv,hx,e⟩:=e
  obtain ⟨h1,h2,h3⟩:=Z0O e
  subst h2; subst h3
  exact look hR (by simp) rfl (Zib h1 (ht.eval hx)) hK
 | convert s dd x =>
  simp only [Z0m,Option.bind_eq_some_iff] at e
  obtain ⟨ds,hds,xv,hx,e⟩:=e
  obtain ⟨h1,h2,h3⟩:=Z0O e
  subst h2; subst h3
  exact look hR (by simp) rfl (Zc0 h1 (ht.eval hx) ⟨ds,hds⟩) hK
 | sliceToArrayPointer t x =>
  simp only [Z0m,Option.bind_eq_some_iff] at e
  obtain ⟨xv,hx,e⟩:=e
  obtain ⟨h1,h2,h3⟩:=Z0O e
  subst h2; subst h3
  exact look hR (by simp) rfl (Zdd h1 (ht.eval hx)) hK
 | makeInterface t x =>
  simp only [Z0m,Option.bind_eq_some_iff] at e
  obtain ⟨xv,hx,e⟩:=e
  split at e
  · cases e
  · cases e
  · rename_i td hni htd
    cases e
    refine look hR (by simp) rfl ⟨.iface t (a.eval x), ?_,.iface t (ht.eval hx)⟩ hK
    simp only [Instr.makeInterface,Sem.run_bind,run_underlying htd,Result.andThen_ok]
    cases td <;> first | rfl | (exact absurd rfl (hni _))
 | makeFunc fn first cap =>
  simp only [Z0m] at e
  split at e
  · rename_i g
    simp only [Option.bind_eq_some_iff] at e
    obtain ⟨fv,hfv,kv,hkv,e⟩:=e
    cases e
    have h1:=ht.evals hfv
    have h2:=ht.evals hkv
    refine look hR (by simp) rfl ⟨.func (.func g) (first.map a.eval) (cap.map a.eval),rfl, ?_⟩ hK
    refine .fnc g ?_ ?_ ?_ ?_
    · have:=h1.1; simpa using this
    · have:=h2.1; simpa using this
    · intro k x y hx hy; exact h1.2 k x y (by simpa using hx) (by simpa [← Array.getElem?_toList] using hy)
    · intro k x y hx hy; exact h2.2 k x y (by simpa using hx) (by simpa [← Array.getElem?_toList] using hy)
  · cases e
 | makeMap t r =>
  simp only [Z0m] at e
  cases r with
  | none =>
   simp only [Option.some.injEq,Prod.mk.injEq] at e
   obtain ⟨rfl,rfl,rfl⟩:=e
   refine Z0w (v':=.map (some w.heap.size)) (by simp) ?_ (hK _ _ _ (.map (Mu.upd_self μ id ⟨w.heap.size,0,none⟩)) ((ZlI (c:=c) hR hid).weaken (fun i h=>⟨h,by simp [cls]⟩)))
   simp [execOp,Instr.makeMap]
  | some x =>
   simp only [Option.bind_eq_some_iff] at e
   obtain ⟨ke,hke,xv,hx,i,hi,e⟩:=e
   cases e
   obtain ⟨k,rfl⟩:=Z6J hi
   have hx':=(ht.eval hx).int_left
   refine Z0w (v':=.map (some w.heap.size)) (by simp) ?_ (hK _ _ _ (.map (Mu.upd_self μ id ⟨w.heap.size,0,none⟩)) ((ZlI (c:=c) hR hid).weaken (fun i h=>⟨h,by simp [cls]⟩)))
   simp [execOp,Instr.makeMap,run_underlying (Z6p hke),hx',asInt,asIntOf]
 | makeSlice t l k =>
  simp only [Z0m,Option.bind_eq_some_iff] at e
  obtain ⟨lv,hl,kv,hk,r,hr,e⟩:=e
  cases e
  obtain ⟨cs',E,h1,h2⟩:=Z9l (w:=w) hr (ht.eval hl) (ht.eval hk)
  exact Z0w (by simp) (Zmk h1) (hK _ _ _ Zgq ((Z7W (c:=c) hR hid h2 E).weaken (fun i h=>⟨h,by simp [cls]⟩)))
 | slice t x lo hi mx =>
  simp only [Z0m,Option.bind_eq_some_iff] at e
  obtain ⟨xv,hx,l,hl,hh,hhi,m,hm,e⟩:=e
  obtain ⟨h1,h2,h3⟩:=Z0O e
  subst h2; subst h3
  exact look hR (by simp) rfl (Zga hR h1 (ht.eval hx) (ht.opt hl) (ht.opt hhi) (ht.opt hm)) hK
 | fieldAddr t x f =>
  simp only [Z0m,Option.bind_eq_some_iff] at e
  obtain ⟨xv,hx,e⟩:=e
  obtain ⟨h1,h2,h3⟩:=Z0O e
  subst h2; subst h3
  exact look hR (by simp) rfl (Z9n h1 (ht.eval hx)) hK
 | field t x f =>
  simp only [Z0m,Option.bind_eq_some_iff] at e
  obtain ⟨xv,hx,e⟩:=e
  obtain ⟨h1,h2,h3⟩:=Z0O e
  subst h2; subst h3
  exact look hR (by simp) rfl (Zgc h1 (ht.eval hx)) hK
 | indexAddr t x i =>
  simp only [Z0m,Option.bind_eq_some_iff] at e
  obtain ⟨xv,hx,iv,hi,e⟩:=e
  obtain ⟨h1,h2,h3⟩:=Z0O e
  subst h2; subst h3
  exact look hR (by simp) rfl (Z9m h1 (ht.eval hx) (ht.eval hi)) hK
 | index t x i =>
  simp only [Z0m,Option.bind_eq_some_iff] at e
  obtain ⟨xv,hx,iv,hi,e⟩:=e
  obtain ⟨h1,h2,h3⟩:=Z0O e
  subst h2; subst h3
  exact look hR (by simp) rfl (Zgb h1 (ht.eval hx) (ht.eval hi)) hK
 | lookup t m k ok =>
  simp only [Z0m,Option.bind_eq_some_iff] at e
  obtain ⟨mv,hm,kv,hk,e⟩:=e
  obtain ⟨h1,h2,h3⟩:=Z0O e
  subst h2; subst h3
  exact look hR (by simp) rfl (Zdb hR h1 (ht.eval hm) (ht.eval hk)) hK
 | mapUpdate t m k x =>
  simp only [Z0m,Option.bind_eq_some_iff] at e
  obtain ⟨mv,hm,kv,hk,xv,hx,A1,hA,e⟩:=e
  cases e
  obtain ⟨w',h1,h2⟩:=Z60 (c:=c) (own:=fun i=>i=id/\_) hR hA (ht.eval hm) (ht.eval hk) (ht.eval hx)
  refine Z6S (by simp) ?_ (hK _ μ w' hu h2)
  simp only [execOp,Sem.run_bind,h1,Result.andThen_ok,Sem.run_pure]
 | extract t i =>
  simp only [Z0m,Option.bind_eq_some_iff] at e
  obtain ⟨tv,htv,e⟩:=e
  split at e
  · rename_i vs
    simp only [Option.bind_eq_some_iff] at e
    obtain ⟨x,hx,e⟩:=e
    cases e
    have hv:=ht.eval htv
    generalize hev:a.eval t=tv' at hv
    cases hv with
    | @tuple _ ys hs hh =>
     have hl:i<ys.size:=by have:=(Array.getElem?_eq_some_iff.1 hx).1; omega
     refine look hR (by simp) rfl ⟨ys[i], ?_,hh i _ ys[i] hx (Array.getElem?_eq_getElem hl)⟩ hK
     simp [Instr.extract,hev,hl]
  · cases e
 | call k=>exact absurd rfl (hcall k)
 | _=>simp [Z0m] at e
theorem Z2b {c:Call} {f:Operand} (hc:c.callee = .value f) {a:Act} {ty:TypeId} {fn:Fn} {fs cap:Array Value} (hf:a.eval f = .func fn fs cap) :
 (resolve a.eval c ty).run P w = .ok { target:=.fn fn cap,args:=fs++c.args.map a.eval } w:=by
 simp [resolve,hc,hf,Deferred.ofValue]
theorem Z7v {o:Oper} {c:Call} (ho:o.op = .call c) {a:Act} {d:Deferred} (h:(resolve a.eval c o.type).run P w = .ok d w) :
 (execOp a.eval o).run P w=(invoke d.target d.args).run P w:=by
 simp only [execOp,ho,Sem.run_bind,h,Result.andThen_ok]
theorem Z86:∀ {ps:List Nat} {xs:List Value} {l:List Nat} {vs:List Value} (t:Nat),ps.length=xs.length->Z0l (ps++l) (xs++vs) t=(Z0l ps xs t).or (Z0l l vs t)
 | [],[],l,vs,t,h=>by simp [Z0l]
 | [],x::xs,l,vs,t,h=>by simp at h
 | p::ps,[],l,vs,t,h=>by simp at h
 | p::ps,x::xs,l,vs,t,h=>by
  have ih:=Z86 (ps:=ps) (xs:=xs) (l:=l) (vs:=vs) t (by simpa using h)
  simp only [List.cons_append,Z0l]
  cases Nat.beq t p <;> simp [ih]
theorem Zdn:∀ {ps:List Nat} {xs:List Value} {t:Nat} {v:Value},Z0l ps xs t=some v->t ∈ ps
 | [],xs,t,v,h=>by simp [Z0l] at h
 | p::ps,[],t,v,h=>by simp [Z0l] at h
 | p::ps,x::xs,t,v,h=>by
  simp only [Z0l] at h
  cases hb:Nat.beq t p with
  | true=>rw [Nat.eq_of_beq_eq_true hb]; simp
  | false=>rw [hb] at h; exact List.mem_cons_of_mem _ (Zdn h)
theorem Zcs {x:Nat} {xs:List Nat} (h:Z7C (x::xs)=true):x ∉ xs/\Z7C xs=true:=by
 simp only [Z7C,Bool.and_eq_true,Bool.not_eq_true'] at h
 refine ⟨fun hm=>?_,h.2⟩
 have:xs.any (Nat.beq x)=true:=List.any_eq_true.2 ⟨x,hm,by simp⟩
 rw [h.1] at this; cases this
theorem Z8J:∀ (ps:List Nat) (xs xs':List Value) (base:Tm) (nt:Nat) (ts:Array Value),ps.length=xs.length->VRs μ xs xs'->Z7C ps=true->(∀ p ∈ ps,p<nt)->TmR μ base nt ts →
 TmR μ (fun t=>(Z0l ps xs t).or (base t)) nt ((ps.zip xs').foldl (fun (tmps:Array Value) (p:Tmp × Value)=>tmps.setIfInBounds p.1 p.2) ts)
 | [],[],xs',base,nt,ts,hl,hx,hn,hb,h=>by
  rw [hx.nil_left]
  simpa [Z0l] using h
 | [],x::xs,xs',base,nt,ts,hl,hx,hn,hb,h=>by simp at hl
 | p::ps,[],xs',base,nt,ts,hl,hx,hn,hb,h=>by simp at hl
 | p::ps,x::xs,xs',base,nt,ts,hl,hx,hn,hb,h=>by
  obtain ⟨x',ys,rfl,h1,h2⟩:=hx.left
  obtain ⟨hp,hn'⟩:=Zcs hn
  have h3:TmR μ (Z6O base (some p) x) nt (ts.setIfInBounds p x'):=TmR.put (a:=⟨ts,[]⟩) h (fun d hd=>by cases hd; exact hb p (by simp)) h1
  have ih:=Z8J ps xs ys (Z6O base (some p) x) nt (ts.setIfInBounds p x') (by simpa using hl) h2 hn' (fun q hq=>hb q (by simp [hq])) h3
  simp only [List.zip_cons_cons,List.foldl_cons]
  refine ⟨ih.size,fun t v e=>ih.val t v ?_⟩
  simp only [Z0l] at e
  cases hbq:Nat.beq t p with
  | true =>
   have htp:=Nat.eq_of_beq_eq_true hbq
   subst htp
   rw [hbq] at e
   simp only [cond_true,Option.some_or] at e
   have:Z0l ps xs t=none:=by
    cases hq:Z0l ps xs t with
    | none=>rfl
    | some u=>exact absurd (Zdn hq) hp
   rw [this]
   simpa [Z6O] using e
  | false =>
   rw [hbq] at e
   simp only [cond_false] at e
   simpa [Z6O,hbq] using e
theorem ZnK {o:Orc H} (hO:OS P o) {oper:Oper} {k:Call} (hop:oper.op = .call k) {fo:Operand} (hk:k.callee = .value fo) {tm:Tm} {nt c c':Nat} {fv v:Value} {args:List Value} {A':H} {a:Act}
 (ht:TmR μ tm nt a.tmps) (hR:R μ A w) (hfr:Z1Y μ c) (hargs:Z1B tm k.args.toList=some args) (hfv:Z0g tm fo=some fv) (e:Z3V o A c fv args=some (v,A',c'))
 {ro:Option Nat} {n:Nat} {K:Act->World->Prop} {Q:Exit->Act->World->Prop}
 {own:Nat->Prop} (hK:∀ v' μ' w',VR μ' v v'->Ext μ A c w own μ' A' c' w'->K (a.put oper.dst v') w'):oper.wpIn (wd ro) n P a w K Q:=by
 have hav:=ht.evals hargs
 have hfv':=ht.eval hfv
 have hnd:∀ d,oper.op ≠ .defer d:=by rw [hop]; simp
 have hend:∀ (r:Rt H),(match r.vs with | [v]=>some (v,r.h,r.c) | _=>none)=some (v,A',c') -> ∀ en w',Z5Q μ A c w r en w' -> ∃ v',en = .returned v'/\K (a.put oper.dst v') w':=by
  intro r hr en w' ⟨x,x',μ',h1,h2,h3,h4⟩
  rw [h1] at hr
  cases hr
  exact ⟨x',h2,hK x' μ' w' h3 (h4.weaken (fun _ h=>h.elim))⟩
 have hmono:∀ (r:Rt H),(match r.vs with | [v]=>some (v,r.h,r.c) | _=>none)=some (v,A',c') -> ∀ en w',Z5Q μ A c w r en w'->(fun
  | Ending.returned v,w''=>K (a.put oper.dst v) w''
  | .panicked chain,w''=>Q (.panic chain) a w''
  | .outgrown,_=>LetsOut Q:Ending->World->Prop) en w':=by
  intro r hr en w' hc
  obtain ⟨v',rfl,h⟩:=hend r hr en w' hc
  exact h
 unfold Z3V at e
 split at e
 · rename_i g first cap
   simp only [Option.bind_eq_some_iff] at e
   obtain ⟨r,hr,e⟩:=e
   obtain ⟨hcf,hcall⟩:=hO.fn _ _ _ _ _ _ hr
   generalize hev:a.eval fo=fv' at hfv'
   cases hfv' with
   | @fnc _ avs avs' bs bs' h1 h2 h3 h4 =>
    have hargsR:VRs μ (first.toList++args++cap.toList) (avs'.toList++k.args.toList.map a.eval++bs'.toList):=by
     refine VRs.append (VRs.append ⟨by simpa using h1,fun n x y hx hy=>h3 n x y (by simpa using hx) (by simpa using hy)⟩ hav) ⟨by simpa using h2,fun n x y hx hy=>h4 n x y (by simpa using hx) (by simpa using hy)⟩
    have hC:=hcall μ w _ hargsR hR hfr
    refine ⟨fun _ _=>trivial, ?_⟩
    rw [Oper.semAt_eq _ _ _ hnd,Z7v hop (Z2b (P:=P) (w:=w) hk hev)]
    have harr:(avs'.toList++k.args.toList.map a.eval++bs'.toList).toArray=avs'++k.args.map a.eval++bs':=by apply Array.ext'; simp
    rw [harr] at hC
    simp only [invoke,hcf,Oper.uponIn_enter]
    exact ⟨fun h=>by simp [wd,Fence.wide] at h,(Zdg hC).mono (hmono r e)⟩
 · rename_i l first cap
   obtain ⟨hz,e1⟩:=Z05 e
   clear e
   simp only [Bool.and_eq_true] at hz
   split at e1
   · rename_i st hg
     obtain ⟨hst,e2⟩:=Z05 e1
     clear e1
     simp only [Bool.and_eq_true,decide_eq_true_eq] at hst
     simp only [Option.bind_eq_some_iff] at e2
     obtain ⟨r,hr,e⟩:=e2
     generalize hev:a.eval fo=fv' at hfv'
     cases hfv' with
     | @yield _ m hm =>
      have hb:=hR.blk l m hm
      rw [hg] at hb
      obtain ⟨lp,hlp,hL⟩:=hb
      have hal:=Nat.eq_of_beq_eq_true hst.1.1.2
      have hpl:k.args.size=lp.params.size:=by
       have h1:=hav.1
       have h4:lp.params.size=st.params.length:=by rw [← hL.params]; simp
       simp at h1
       omega
      have hzip:(lp.params.zip (k.args.map a.eval)).foldl (fun (tmps:Array Value) (p:Tmp × Value)=>tmps.setIfInBounds p.1 p.2) lp.tmps=(st.params.zip (k.args.toList.map a.eval)).foldl (fun (tmps:Array Value) (p:Tmp × Value)=>tmps.setIfInBounds p.1 p.2) lp.tmps:=by
       rw [← Array.foldl_toList,Array.toList_zip,hL.params,Array.toList_map]
      have hts:TmR μ (Z0l (st.params++st.lin) (args++st.vals)) st.nt ((lp.params.zip (k.args.map a.eval)).foldl (fun (tmps:Array Value) (p:Tmp × Value)=>tmps.setIfInBounds p.1 p.2) lp.tmps):=by
       rw [hzip]
       have h0:TmR μ (Z0l st.lin st.vals) st.nt lp.tmps:=⟨hL.size,hL.vals⟩
       have h1:=Z8J st.params args (k.args.toList.map a.eval) _ st.nt lp.tmps qO hav hst.1.2
        (fun p hp=>by have:=List.all_eq_true.1 hst.2 p hp; simp [Nat.blt] at this; omega) h0
       exact ⟨h1.size,fun t v e=>h1.val t v (by rw [Z86 t qO] at e; exact e)⟩
      have hC:=hO.rnd _ _ _ _ _ _ _ _ _ _ _ _ hr μ w _ m ro (n-1) lp.fn hm hts hR hfr
      refine ⟨fun _ _=>trivial, ?_⟩
      rw [Oper.semAt_eq _ _ _ hnd,Z7v hop (Z2b (P:=P) (w:=w) hk hev)]
      have hgl:(Instr.getLoop m.b).run P w = .ok lp w:=by simp [Instr.getLoop,getObj,Sem.run,hlp]
      have hsz:¬ ((#[]++k.args.map a.eval:Array Value).size ≠ lp.params.size):=by simp [hpl]
      have hrun:(invoke (.fn (.yield m.b) #[]) (#[]++k.args.map a.eval)).run P w = .ok (.round m.b lp.fn ((lp.params.zip (k.args.map a.eval)).foldl (fun (tmps:Array Value) (p:Tmp × Value)=>tmps.setIfInBounds p.1 p.2) lp.tmps) lp.assign lp.body) w:=by
       simp only [invoke,Instr.yield,Sem.run_bind,hgl,Result.andThen_ok]
       rw [if_neg hsz]
       simp
      rw [hrun,Oper.uponIn_round,hL.assign,hL.body]
      exact ⟨fun h=>by simp [wd,Fence.wide] at h,hC.mono (hmono r e)⟩
   · cases e1
 · cases e
theorem Z8h {o:Oper} {c:Call} (ho:o.op = .call c) {b:Builtin} (hc:c.callee = .builtin b) {a:Act} :
 ∃ cs,(execOp a.eval o).run P w=(builtin b c.argTypes o.type cs (c.args.map a.eval)).run P w:=by
 refine ⟨c.args.map fun | .const _=>true | _=>false, ?_⟩
 simp only [execOp,ho,Sem.run_bind,resolve,hc,Sem.run_pure,Result.andThen_ok,invoke]
 rfl
theorem Zg7 {oper:Oper} {k:Call} (hop:oper.op = .call k) {b:Builtin} (hk:k.callee = .builtin b) {tm:Tm} {nt c:Nat} {v:Value} {args:List Value} {A':H} {a:Act} {id:Nat}
 (ht:TmR μ tm nt a.tmps) (hR:R μ A w) (hid:μ id=none) (hargs:Z1B tm k.args.toList=some args) (e:Z0J P A id b k.argTypes.toList args=some (v,A'))
 {ro:Option Nat} {n:Nat} {K:Act->World->Prop} {Q:Exit->Act->World->Prop}
 {own:Nat->Prop} (how:b = .append->own id) (hK:∀ v' μ' w',VR μ' v v'->Ext μ A c w own μ' A' c w'->K (a.put oper.dst v') w'):oper.wpIn (wd ro) n P a w K Q:=by
 have hav:=ht.evals hargs
 have hnd:∀ d,oper.op ≠ .defer d:=by rw [hop]; simp
 obtain ⟨cs,hrun⟩:=Z8h (P:=P) (w:=w) hop hk (a:=a)
 have hmap:(k.args.toList.map a.eval).toArray=k.args.map a.eval:=by apply Array.ext'; simp
 unfold Z0J at e
 split at e
 · -- len
   split at e
   · rename_i t ts x xs hts'
     simp only [Option.bind_eq_some_iff] at e
     obtain ⟨u,hu,e⟩:=e
     cases e
     generalize hxs:k.args.toList.map a.eval=ys at hav hmap
     obtain ⟨x',ys',rfl,hx,hys⟩:=hav.left
     obtain ⟨v',h1,h2⟩:=Zlt (P:=P) (w:=w) (ts':=ts) (xs':=ys') (ty:=oper.type) hR hu hx
     refine Z0w hnd ?_ (hK v' μ w h2 (Ext.refl hR))
     have hat:k.argTypes=(t::ts).toArray:=by apply Array.ext'; simpa using hts'
     rw [hrun,← hmap,hat]
     simp only [builtin,Sem.run_bind,h1,Result.andThen_ok,Sem.run_pure]
   · cases e
 · -- max
   simp only [Option.bind_eq_some_iff] at e
   obtain ⟨u,hu,e⟩:=e
   cases e
   cases args with
   | nil=>simp [Z5f] at hu
   | cons x xs =>
    generalize hxs:k.args.toList.map a.eval=ys at hav hmap
    obtain ⟨x',ys',rfl,hx,hys⟩:=hav.left
    simp only [Z5f] at hu
    obtain ⟨v',h1,h2⟩:=Z6Z (P:=P) (w:=w) (g:=Builtin.max2) (fun he h1 h2=>⟨_,Zj4 he h1 h2⟩) hu hys hx
    refine Z0w hnd ?_ (hK v' μ w h2 (Ext.refl hR))
    rw [hrun,← hmap]
    simp only [builtin,Builtin.max_,Sem.run_bind,h1,Result.andThen_ok,Sem.run_pure]
 · -- min
   simp only [Option.bind_eq_some_iff] at e
   obtain ⟨u,hu,e⟩:=e
   cases e
   cases args with
   | nil=>simp [Z5f] at hu
   | cons x xs =>
    generalize hxs:k.args.toList.map a.eval=ys at hav hmap
    obtain ⟨x',ys',rfl,hx,hys⟩:=hav.left
    simp only [Z5f] at hu
    obtain ⟨v',h1,h2⟩:=Z6Z (P:=P) (w:=w) (g:=Builtin.min2) (fun he h1 h2=>⟨_,Zj2 he h1 h2⟩) hu hys hx
    refine Z0w hnd ?_ (hK v' μ w h2 (Ext.refl hR))
    rw [hrun,← hmap]
    simp only [builtin,Builtin.min_,Sem.run_bind,h1,Result.andThen_ok,Sem.run_pure]
 · -- append
   obtain ⟨v',μ',w',h1,h2,h3⟩:=Zde (P:=P) (w:=w) (c:=c) (ty:=oper.type) hR hid e hav
   refine Z0w hnd ?_ (hK v' μ' w' h2 (h3.weaken (fun i h=>h ▸ how rfl)))
   rw [hrun,← hmap]
   simp only [Array.toArray_toList] at h1
   simp only [builtin,Sem.run_bind,h1,Result.andThen_ok,Sem.run_pure]
 · -- copy
   obtain ⟨v',w',h1,h2,h3⟩:=Zie (P:=P) (w:=w) (c:=c) (own:=own) (ty:=oper.type) hR e hav
   refine Z0w hnd ?_ (hK v' μ w' h2 h3)
   rw [hrun,← hmap]
   simp only [Array.toArray_toList] at h1
   simp only [builtin,Sem.run_bind,h1,Result.andThen_ok,Sem.run_pure]
 · -- clear
   split at e
   · rename_i t ts hts
     simp only [Option.bind_eq_some_iff] at e
     obtain ⟨td,htd,e⟩:=e
     obtain ⟨v',w',h1,h2,h3⟩:=Zgd (P:=P) (w:=w) (c:=c) (own:=own) (ty:=oper.type) hR e hav (fun t' h=>by rw [hts] at h; cases h; exact ⟨td,htd⟩)
     refine Z0w hnd ?_ (hK v' μ w' h2 h3)
     rw [hrun,← hmap]
     simp only [Array.toArray_toList] at h1
     simp only [builtin,Sem.run_bind,h1,Result.andThen_ok,Sem.run_pure]
   · cases e
 · cases e
theorem Zlg {o:Orc H} (hO:OS P o) {d:Option Tmp} {op:Op} {ty:TypeId} {pos:String} {af:Array Edge} {gd:Option (Nat × Bool)} {id:Nat} {tm:Tm} {nt c c':Nat} {v:Value} {A':H} {a:Act}
 (e:Z0m P o id tm A c op=some (v,A',c')) (ht:TmR μ tm nt a.tmps) (hR:R μ A w) (hid:μ id=none) (hfr:Z1Y μ c)
 {ro:Option Nat} {n:Nat} {K:Act->World->Prop} {Q:Exit->Act->World->Prop}
 (hK:∀ v' μ' w',VR μ' v v'->Ext μ A c w (fun i=>i=id/\2<=cls op) μ' A' c' w'->K (a.put d v') w') :
 (Oper.mk d op ty pos af gd).wpIn (wd ro) n P a w K Q:=by
 by_cases hcall:∃ k,op = .call k
 · obtain ⟨k,rfl⟩:=hcall
   simp only [Z0m,Option.bind_eq_some_iff] at e
   obtain ⟨args,hargs,e⟩:=e
   split at e
   · rename_i f hk
     simp only [Option.bind_eq_some_iff] at e
     obtain ⟨fv,hfv,e⟩:=e
     exact ZnK hO rfl hk ht hR hfr hargs hfv e hK
   · rename_i b hk
     simp only [Option.bind_eq_some_iff] at e
     obtain ⟨r,hr,e⟩:=e
     cases e
     exact Zg7 rfl hk ht hR hid hargs hr (fun hb=>⟨rfl,by subst hb; obtain ⟨callee,args,ats⟩:=k; simp at hk; subst hk; simp [cls]⟩) hK
   · cases e
 · exact Zd3 (fun k h=>hcall ⟨k,h⟩) e ht hR hid hK
end Go.Ab

namespace Go.Ab
open Go
variable {H:Type} [HeapC H] {P:Program} {μ:Mu} {A:H} {w:World}
open Classical in
noncomputable def Mu.on (μ:Mu) (D:Nat->Prop):Mu:=fun i=>if D i then μ i else none
theorem Mu.on_some {D:Nat->Prop} {i:Nat} {m:ME} (h:μ.on D i=some m):D i/\μ i=some m:=by
 unfold Mu.on at h
 split at h
 · rename_i hd; exact ⟨hd,h⟩
 · cases h
theorem Mu.on_of {D:Nat->Prop} {i:Nat} (h:D i):μ.on D i=μ i:=by simp [Mu.on,h]
theorem Mu.on_not {D:Nat->Prop} {i:Nat} (h:¬ D i):μ.on D i=none:=by simp [Mu.on,h]
theorem VR.on {ν:Mu} {D:Nat->Prop} (hD:∀ i,ν i ≠ none->D i) {v v':Value} (h:VR μ v v'):∀ {v'':Value},VR ν v v''->VR (μ.on D) v v':=by
 have hd:∀ {i:Nat} {m:ME},ν i=some m->D i:=fun e=>hD _ (by rw [e]; simp)
 induction h with
 | bool b=>intro _ _; exact .bool b
 | int k n=>intro _ _; exact .int k n
 | str s=>intro _ _; exact .str s
 | ptr0=>intro _ _; exact .ptr0
 | ptr h=>intro _ g; cases g with | ptr g=>exact .ptr (by rw [Mu.on_of (hd g)]; exact h)
 | sl0 l c=>intro _ _; exact .sl0 l c
 | sl h hc hz=>intro _ g; cases g with
  | sl g _ _=>exact .sl (by rw [Mu.on_of (hd g)]; exact h) hc hz
  | slE g=>exact .sl (by rw [Mu.on_of (hd g)]; exact h) hc hz
 | slE h=>intro _ g; cases g with
  | sl g _ _=>exact .slE (by rw [Mu.on_of (hd g)]; exact h)
  | slE g=>exact .slE (by rw [Mu.on_of (hd g)]; exact h)
 | map0=>intro _ _; exact .map0
 | map h=>intro _ g; cases g with | map g=>exact .map (by rw [Mu.on_of (hd g)]; exact h)
 | nilFunc=>intro _ _; exact .nilFunc
 | nilIface=>intro _ _; exact .nilIface
 | iface t _ ih=>intro _ g; cases g with | iface _ g=>exact .iface t (ih g)
 | agg hs _ ih=>intro _ g; cases g with
  | @agg _ zs hs' g=>exact .agg hs (fun k x y hx hy=>by
   have hl:k<zs.size:=by have:=(Array.getElem?_eq_some_iff.1 hx).1; omega
   exact ih k x y hx hy (g k x zs[k] hx (Array.getElem?_eq_getElem hl)))
 | tuple hs _ ih=>intro _ g; cases g with
  | @tuple _ zs hs' g=>exact .tuple hs (fun k x y hx hy=>by
   have hl:k<zs.size:=by have:=(Array.getElem?_eq_some_iff.1 hx).1; omega
   exact ih k x y hx hy (g k x zs[k] hx (Array.getElem?_eq_getElem hl)))
 | fnc f ha hb _ _ ih1 ih2=>intro _ g; cases g with
  | @fnc _ _ zs _ zs' g1 g2 g3 g4 =>
   refine VR.fnc f ha hb (fun k x y hx hy=>?_) (fun k x y hx hy=>?_)
   · have hl:k<zs.size:=by have:=(Array.getElem?_eq_some_iff.1 hx).1; omega
     exact ih1 k x y hx hy (g3 k x zs[k] hx (Array.getElem?_eq_getElem hl))
   · have hl:k<zs'.size:=by have:=(Array.getElem?_eq_some_iff.1 hx).1; omega
     exact ih2 k x y hx hy (g4 k x zs'[k] hx (Array.getElem?_eq_getElem hl))
 | yield h=>intro _ g; cases g with | yield g=>exact .yield (by rw [Mu.on_of (hd g)]; exact h)
def Sup (D:Nat->Prop) (v:Value):Prop:=∃ ν v',VR ν v v' /\ ∀ i,ν i ≠ none->D i
theorem Sup.mono {D D':Nat->Prop} (h:∀ i,D i->D' i) {v:Value} (hs:Sup D v):Sup D' v :=
 let ⟨ν,v',a,b⟩:=hs; ⟨ν,v',a,fun i e=>h i (b i e)⟩
theorem VR.onS {D:Nat->Prop} {v v':Value} (h:VR μ v v') (hs:Sup D v):VR (μ.on D) v v' :=
 let ⟨_,_,a,b⟩:=hs; h.on b a
def Zih (D:Nat->Prop) (b:Option ABlk):Prop:=∃ ν m h,Z6P ν m h b /\ ∀ i,ν i ≠ none->D i
theorem Z6P.onS {D:Nat->Prop} {m:ME} {h:Array Obj} {b:Option ABlk} (hb:Z6P μ m h b) (hs:Zih D b):Z6P (μ.on D) m h b:=by
 obtain ⟨ν,m',h',hb',hD⟩:=hs
 unfold Z6P at hb hb' ⊢
 split at hb
 · rename_i ro opn c
   obtain ⟨C,E,fr,h1,h2,h3,h4⟩:=hb
   obtain ⟨C',E',fr',g1,g2,g3,g4⟩:=hb'
   refine ⟨C,E,fr,h1,fun k x hx=>?_,h3,h4⟩
   obtain ⟨y,h5,h6⟩:=h2 k x hx
   obtain ⟨y',g5,g6⟩:=g2 k x hx
   exact ⟨y,h5,h6.on hD g6⟩
 · rename_i es
   obtain ⟨es',clk,h1,h2,h3⟩:=hb
   obtain ⟨fs,clk',g1,g2,g3⟩:=hb'
   refine ⟨es',clk,h1,h2,fun k x y hx hy=>?_⟩
   have hl:k<fs.toList.length:=by have:=(List.getElem?_eq_some_iff.1 hx).1; omega
   have a:=h3 k x y hx hy
   have b:=g3 k x fs.toList[k] hx (List.getElem?_eq_getElem hl)
   exact ⟨a.1.on hD b.1,a.2.on hD b.2⟩
 · rename_i a
   obtain ⟨r,h1,h2⟩:=hb
   obtain ⟨r',g1,g2⟩:=hb'
   refine ⟨r,h1,⟨h2.state,h2.pending,h2.params,h2.assign,h2.body,h2.size,fun t v e=>?_, ?_⟩⟩
   · obtain ⟨v',h3,h4⟩:=h2.vals t v e
     obtain ⟨v'',g3,g4⟩:=g2.vals t v e
     exact ⟨v',h3,h4.on hD g4⟩
   · obtain ⟨m1,h3,h4⟩:=h2.dfr
     obtain ⟨m2,g3,g4⟩:=g2.dfr
     exact ⟨m1,by rw [Mu.on_of (hD _ (by rw [g3]; simp))]; exact h3,h4⟩
 · exact hb
 · trivial
 · trivial
theorem Z8W {tm tm':Tm} {x:Operand} (h:∀ t,x = .tmp t->tm t=tm' t):Z0g tm x=Z0g tm' x:=by
 cases x with
 | tmp t=>exact h t rfl
 | _=>rfl
theorem Z41 {tm tm':Tm}:∀ {xs:List Operand},(∀ x ∈ xs,Z0g tm x=Z0g tm' x)->Z1B tm xs=Z1B tm' xs
 | [],_=>rfl
 | x::xs,h=>by simp only [Z1B,h x (by simp),Z41 (xs:=xs) (fun y hy=>h y (List.mem_cons_of_mem _ hy))]
theorem Z5r {tm tm':Tm}:∀ {xs:List (Nat × Operand)},(∀ x ∈ xs,Z0g tm x.2=Z0g tm' x.2)->evalPs tm xs=evalPs tm' xs
 | [],_=>rfl
 | (i,x)::xs,h=>by simp only [evalPs,h (i,x) (by simp),Z5r (xs:=xs) (fun y hy=>h y (List.mem_cons_of_mem _ hy))]
theorem Z6W {tm tm':Tm} {x:Option Operand} (h:∀ y,x=some y->Z0g tm y=Z0g tm' y):Zcn tm x=Zcn tm' x:=by
 cases x with
 | none=>rfl
 | some y=>simp only [Zcn,h y rfl]
theorem Zag {o:Orc H} {id:Nat} {tm tm':Tm} {h:H} {c:Nat} {op:Op} (he:∀ x ∈ op.operands.toList,Z0g tm x=Z0g tm' x):Z0m P o id tm h c op=Z0m P o id tm' h c op:=by
 cases op with
 | call k =>
  have h1:Z1B tm k.args.toList=Z1B tm' k.args.toList:=Z41 fun x hx=>he x (by
   simp only [Op.operands,Call.operands]; cases k.callee <;> simp <;> simp at hx <;> simp [hx])
  have h2:∀ f,k.callee = .value f->Z0g tm f=Z0g tm' f:=fun f hf=>he f (by simp [Op.operands,Call.operands,hf])
  simp only [Z0m,h1]
  congr 1
  funext args
  cases hk:k.callee with
  | value f=>simp only [h2 f hk]
  | _=>rfl
 | build t ps=>simp only [Z0m,Z5r (tm:=tm) (tm':=tm') (xs:=ps.toList) (fun x hx=>he x.2 (by simp only [Op.operands,List.toList_toArray,List.mem_map]; exact ⟨x,hx,rfl⟩))]
 | buildSlice t l ps=>simp only [Z0m,Z5r (tm:=tm) (tm':=tm') (xs:=ps.toList) (fun x hx=>he x.2 (by simp only [Op.operands,List.toList_toArray,List.mem_map]; exact ⟨x,hx,rfl⟩))]
 | makeFunc fn first cap =>
  simp only [Z0m]
  rw [Z41 (tm:=tm) (tm':=tm') (xs:=first.toList) (fun x hx=>he x (by simp [Op.operands]; exact .inl (by simpa using hx))),
   Z41 (tm:=tm) (tm':=tm') (xs:=cap.toList) (fun x hx=>he x (by simp [Op.operands]; exact .inr (by simpa using hx)))]
 | makeMap t r =>
  cases r with
  | none=>rfl
  | some x=>simp only [Z0m,he x (by simp [Op.operands])]
 | slice t x lo hi mx =>
  simp only [Z0m]
  rw [he x (by simp [Op.operands]),Z6W (tm:=tm) (tm':=tm') (x:=lo) (fun y hy=>he y (by simp [Op.operands,hy])),
   Z6W (tm:=tm) (tm':=tm') (x:=hi) (fun y hy=>he y (by simp [Op.operands,hy])),Z6W (tm:=tm) (tm':=tm') (x:=mx) (fun y hy=>he y (by simp [Op.operands,hy]))]
 | move x=>simp only [Z0m,he x (by simp [Op.operands])]
 | assign x=>simp only [Z0m,he x (by simp [Op.operands])]
 | box _ x=>simp only [Z0m,he x (by simp [Op.operands])]
 | load _ x=>simp only [Z0m,he x (by simp [Op.operands])]
 | nilCheck x=>simp only [Z0m,he x (by simp [Op.operands])]
 | unOp _ _ x=>simp only [Z0m,he x (by simp [Op.operands])]
 | convert _ _ x=>simp only [Z0m,he x (by simp [Op.operands])]
 | sliceToArrayPointer _ x=>simp only [Z0m,he x (by simp [Op.operands])]
 | makeInterface _ x=>simp only [Z0m,he x (by simp [Op.operands])]
 | fieldAddr _ x _=>simp only [Z0m,he x (by simp [Op.operands])]
 | field _ x _=>simp only [Z0m,he x (by simp [Op.operands])]
 | extract x _=>simp only [Z0m,he x (by simp [Op.operands])]
 | pick k x y=>simp only [Z0m,he k (by simp [Op.operands]),he x (by simp [Op.operands]),he y (by simp [Op.operands])]
 | store _ x y=>simp only [Z0m,he x (by simp [Op.operands]),he y (by simp [Op.operands])]
 | binOp _ _ x y _=>simp only [Z0m,he x (by simp [Op.operands]),he y (by simp [Op.operands])]
 | makeSlice _ x y=>simp only [Z0m,he x (by simp [Op.operands]),he y (by simp [Op.operands])]
 | indexAddr _ x y=>simp only [Z0m,he x (by simp [Op.operands]),he y (by simp [Op.operands])]
 | index _ x y=>simp only [Z0m,he x (by simp [Op.operands]),he y (by simp [Op.operands])]
 | lookup _ x y _=>simp only [Z0m,he x (by simp [Op.operands]),he y (by simp [Op.operands])]
 | mapUpdate _ m k v=>simp only [Z0m,he m (by simp [Op.operands]),he k (by simp [Op.operands]),he v (by simp [Op.operands])]
 | insert _ m k v=>simp only [Z0m,he m (by simp [Op.operands]),he k (by simp [Op.operands]),he v (by simp [Op.operands])]
 | _=>rfl
variable {H':Type} [HeapC H']
theorem Z1d {h:H} {c:Nat} {v:Option Value} {x:Value} {h1:H} {c1:Nat}:Z6N h c v=some (x,h1,c1) ↔ v=some x/\h1=h/\c1=c:=by
 cases v with
 | none=>simp [Z6N]
 | some y=>simp [Z6N]; intro _; constructor <;> rintro ⟨a,b⟩ <;> exact ⟨a.symm,b.symm⟩
theorem ZlU {o:Orc H} {id:Nat} {tm:Tm} {h h1:H} {c c1:Nat} {op:Op} {v:Value} (hc:cls op=0) (e:Z0m P o id tm h c op=some (v,h1,c1)) :
 h1=h/\c1=c /\ ∀ (o':Orc H') (h':H') (c':Nat),Z0m P o' id tm h' c' op=some (v,h',c'):=by
 cases op with
 | move x=>simp only [Z0m,Z1d] at e ⊢; exact ⟨e.2.1,e.2.2,fun _ _ _=>⟨e.1,trivial,trivial⟩⟩
 | assign x=>simp only [Z0m,Z1d] at e ⊢; exact ⟨e.2.1,e.2.2,fun _ _ _=>⟨e.1,trivial,trivial⟩⟩
 | pick k x y =>
  simp only [Z0m,Option.bind_eq_some_iff] at e ⊢
  obtain ⟨kv,hk,xv,hx,yv,hy,e⟩:=e
  split at e
  · cases e; exact ⟨rfl,rfl,fun _ _ _=>⟨_,hk,_,hx,_,hy,rfl⟩⟩
  · cases e
 | build t ps =>
  simp only [Z0m,Option.bind_eq_some_iff,Z1d] at e ⊢
  obtain ⟨a,ha,e1,e2,e3⟩:=e
  exact ⟨e2,e3,fun _ _ _=>⟨a,ha,e1,trivial,trivial⟩⟩
 | nilCheck x =>
  simp only [Z0m,Option.bind_eq_some_iff,Z1d] at e ⊢
  obtain ⟨a,ha,e1,e2,e3⟩:=e
  exact ⟨e2,e3,fun _ _ _=>⟨a,ha,e1,trivial,trivial⟩⟩
 | binOp bo t x y yt =>
  simp only [Z0m,Option.bind_eq_some_iff,Z1d] at e ⊢
  obtain ⟨a,ha,b,hb,e1,e2,e3⟩:=e
  exact ⟨e2,e3,fun _ _ _=>⟨a,ha,b,hb,e1,trivial,trivial⟩⟩
 | unOp u t x =>
  simp only [Z0m,Option.bind_eq_some_iff,Z1d] at e ⊢
  obtain ⟨a,ha,e1,e2,e3⟩:=e
  exact ⟨e2,e3,fun _ _ _=>⟨a,ha,e1,trivial,trivial⟩⟩
 | convert s d x =>
  simp only [Z0m,Option.bind_eq_some_iff,Z1d] at e ⊢
  obtain ⟨b,hb,a,ha,e1,e2,e3⟩:=e
  exact ⟨e2,e3,fun _ _ _=>⟨b,hb,a,ha,e1,trivial,trivial⟩⟩
 | sliceToArrayPointer t x =>
  simp only [Z0m,Option.bind_eq_some_iff,Z1d] at e ⊢
  obtain ⟨a,ha,e1,e2,e3⟩:=e
  exact ⟨e2,e3,fun _ _ _=>⟨a,ha,e1,trivial,trivial⟩⟩
 | makeInterface t x =>
  simp only [Z0m,Option.bind_eq_some_iff] at e ⊢
  obtain ⟨a,ha,e⟩:=e
  split at e
  · cases e
  · cases e
  · cases e; exact ⟨rfl,rfl,fun _ _ _=>⟨_,ha,rfl⟩⟩
 | makeFunc fn first cap =>
  cases fn with
  | func g =>
   simp only [Z0m,Option.bind_eq_some_iff] at e ⊢
   obtain ⟨a,ha,b,hb,e⟩:=e
   cases e
   exact ⟨rfl,rfl,fun _ _ _=>⟨a,ha,b,hb,rfl⟩⟩
  | _=>simp [Z0m] at e
 | fieldAddr t x f =>
  simp only [Z0m,Option.bind_eq_some_iff,Z1d] at e ⊢
  obtain ⟨a,ha,e1,e2,e3⟩:=e
  exact ⟨e2,e3,fun _ _ _=>⟨a,ha,e1,trivial,trivial⟩⟩
 | field t x f =>
  simp only [Z0m,Option.bind_eq_some_iff,Z1d] at e ⊢
  obtain ⟨a,ha,e1,e2,e3⟩:=e
  exact ⟨e2,e3,fun _ _ _=>⟨a,ha,e1,trivial,trivial⟩⟩
 | indexAddr t x i =>
  simp only [Z0m,Option.bind_eq_some_iff,Z1d] at e ⊢
  obtain ⟨a,ha,b,hb,e1,e2,e3⟩:=e
  exact ⟨e2,e3,fun _ _ _=>⟨a,ha,b,hb,e1,trivial,trivial⟩⟩
 | index t x i =>
  simp only [Z0m,Option.bind_eq_some_iff,Z1d] at e ⊢
  obtain ⟨a,ha,b,hb,e1,e2,e3⟩:=e
  exact ⟨e2,e3,fun _ _ _=>⟨a,ha,b,hb,e1,trivial,trivial⟩⟩
 | extract t i =>
  simp only [Z0m,Option.bind_eq_some_iff] at e ⊢
  obtain ⟨a,ha,e⟩:=e
  split at e
  · simp only [Option.bind_eq_some_iff] at e
    obtain ⟨x,hx,e⟩:=e
    cases e
    exact ⟨rfl,rfl,fun _ _ _=>⟨_,ha,by simp [hx]⟩⟩
  · cases e
 | call k =>
  obtain ⟨callee,args,ats⟩:=k
  cases callee with
  | builtin b =>
   cases b with
   | max =>
    simp only [Z0m,Option.bind_eq_some_iff,Z0J] at e ⊢
    obtain ⟨avs,ha,r,⟨u,hu,hr⟩,e⟩:=e
    cases hr; cases e
    exact ⟨rfl,rfl,fun _ _ _=>⟨avs,ha,_,⟨u,hu,rfl⟩,rfl⟩⟩
   | min =>
    simp only [Z0m,Option.bind_eq_some_iff,Z0J] at e ⊢
    obtain ⟨avs,ha,r,⟨u,hu,hr⟩,e⟩:=e
    cases hr; cases e
    exact ⟨rfl,rfl,fun _ _ _=>⟨avs,ha,_,⟨u,hu,rfl⟩,rfl⟩⟩
   | _=>simp [cls] at hc
  | _=>simp [cls] at hc
 | _=>simp [cls] at hc
theorem Z9c {h:H} {h':H'} {i:Nat} (e:HeapC.get h' i=HeapC.get h i):Z0k h' i=Z0k h i:=by simp only [Z0k,e]
theorem ZlV {o:Orc H} {id:Nat} {tm:Tm} {h h1:H} {c c1:Nat} {op:Op} {v:Value} (hc:cls op=1) (e:Z0m P o id tm h c op=some (v,h1,c1)) :
 h1=h/\c1=c /\ ∀ (o':Orc H') (h':H') (c':Nat),(∀ x,Z8m tm op=some x->HeapC.get h' x=HeapC.get h x)->Z0m P o' id tm h' c' op=some (v,h',c'):=by
 cases op with
 | load t x =>
  simp only [Z0m,Option.bind_eq_some_iff,Z1d] at e ⊢
  obtain ⟨a,ha,e1,e2,e3⟩:=e
  refine ⟨e2,e3,fun _ h' _ hg=>⟨a,ha, ?_,trivial,trivial⟩⟩
  have hp:∀ p:Nat × Nat,Z2F a=some p->Z0k h' p.1=Z0k h p.1:=by
   intro p hp
   unfold Z2F at hp
   split at hp
   · cases hp; exact Z9c (hg _ (by simp [Z8m,ha,Z2t]))
   · cases hp
  rw [← e1]
  simp only [Zbl,ldN,ld1]
  cases hp':Z2F a with
  | none=>rfl
  | some p=>simp only [Option.bind_some,Z0I,Z5T,hp p hp']
 | lookup t m k ok =>
  simp only [Z0m,Option.bind_eq_some_iff,Z1d] at e ⊢
  obtain ⟨mv,hm,kv,hk,e1,e2,e3⟩:=e
  refine ⟨e2,e3,fun _ h' _ hg=>⟨mv,hm,kv,hk, ?_,trivial,trivial⟩⟩
  rw [← e1]
  have hq:∀ i,mv = .map (some i)->HeapC.get h' i=HeapC.get h i:=fun i hi=>hg i (by simp [Z8m,hm,Z2t,hi])
  unfold Z5t
  congr 1
  funext ke
  congr 1
  congr 1
  funext z
  congr 1
  congr 1
  split
  · rfl
  · rename_i i
    rw [hq i rfl]
  · rfl
 | slice t x lo hi mx =>
  simp only [Z0m,Option.bind_eq_some_iff,Z1d] at e ⊢
  obtain ⟨xv,hx,l,hl,hh,hhi,m,hm,e1,e2,e3⟩:=e
  refine ⟨e2,e3,fun _ h' _ hg=>⟨xv,hx,l,hl,hh,hhi,m,hm, ?_,trivial,trivial⟩⟩
  rw [← e1]
  have hq:∀ a len cap sz,xv = .slice a len cap->Zii h' sz a=Zii h sz a:=by
   intro a len cap sz ha
   cases a with
   | none=>rfl
   | some a=>simp only [Zii,hg a.block (by simp [Z8m,hx,Z2t,ha])]
  unfold ZbX
  split
  · rfl
  · congr 1
    funext sz
    unfold slS
    split
    · rename_i a len cap
      rw [hq a len cap sz rfl]
    · rfl
  · rfl
  · rfl
 | call k =>
  obtain ⟨callee,args,ats⟩:=k
  cases callee with
  | builtin b =>
   cases b with
   | len =>
    simp only [Z0m,Option.bind_eq_some_iff,Z0J] at e ⊢
    obtain ⟨avs,ha,r,hr,e⟩:=e
    split at hr
    · rename_i t ts x xs hts
      simp only [Option.bind_eq_some_iff] at hr
      obtain ⟨u,hu,hr⟩:=hr
      cases hr; cases e
      refine ⟨rfl,rfl,fun _ h' _ hg=>⟨_,ha,(u,h'), ?_,rfl⟩⟩
      have hq:∀ i,x = .map (some i)->HeapC.get h' i=HeapC.get h i:=by
       intro i hi
       refine hg i ?_
       simp only [Z8m]
       cases hal:args.toList with
       | nil=>rw [hal] at ha; simp [Z1B] at ha
       | cons y ys =>
        rw [hal] at ha
        simp only [Z1B,Option.bind_eq_some_iff] at ha
        obtain ⟨v0,h0,vs,_,h2⟩:=ha
        cases h2
        have:args[0]? = some y:=by rw [← Array.getElem?_toList,hal]; rfl
        rw [this]
        simp only [Option.bind_some,h0,hi,Z2t]
      rw [hts]
      simp only [Option.bind_eq_some_iff]
      refine ⟨u, ?_,rfl⟩
      rw [← hu]
      unfold ZbZ
      split
      · rfl
      · rfl
      · rfl
      · rfl
      · rename_i i _
        rw [hq _ rfl]
      · rfl
    · cases hr
   | _=>simp [cls] at hc
  | _=>simp [cls] at hc
 | _=>simp [cls] at hc
theorem ZlW {o:Orc H} {id:Nat} {tm:Tm} {h h1:H} {c c1:Nat} {op:Op} {v:Value} (hc:cls op=2) (e:Z0m P o id tm h c op=some (v,h1,c1)) :
 c1=c /\ ∃ b,h1=HeapC.set h id b/\wrB (some b)=true /\ ∀ (o':Orc H') (h':H') (c':Nat),Z0m P o' id tm h' c' op=some (v,HeapC.set h' id b,c'):=by
 cases op with
 | alloc t =>
  simp only [Z0m,Option.bind_eq_some_iff] at e ⊢
  obtain ⟨z,hz,e⟩:=e
  obtain ⟨hp,e1⟩:=Z05 e
  cases e1
  exact ⟨rfl,_,rfl,rfl,fun _ _ _=>⟨z,hz,by rw [hp]; rfl⟩⟩
 | box t x =>
  simp only [Z0m,Option.bind_eq_some_iff] at e ⊢
  obtain ⟨z,hz,e⟩:=e
  obtain ⟨hp,e1⟩:=Z05 e
  cases e1
  exact ⟨rfl,_,rfl,rfl,fun _ _ _=>⟨z,hz,by rw [hp]; rfl⟩⟩
 | buildSlice t len ps =>
  simp only [Z0m,Option.bind_eq_some_iff] at e ⊢
  obtain ⟨vs,hvs,cs,hcs,e⟩:=e
  cases e
  exact ⟨rfl,_,rfl,rfl,fun _ _ _=>⟨vs,hvs,cs,hcs,rfl⟩⟩
 | makeMap t r =>
  cases r with
  | none =>
   simp only [Z0m] at e ⊢
   cases e
   exact ⟨rfl,_,rfl,rfl,fun _ _ _=>rfl⟩
  | some x =>
   simp only [Z0m,Option.bind_eq_some_iff] at e ⊢
   obtain ⟨ke,hke,v,hv,n,hn,e⟩:=e
   cases e
   exact ⟨rfl,_,rfl,rfl,fun _ _ _=>⟨ke,hke,v,hv,n,hn,rfl⟩⟩
 | makeSlice t l k =>
  simp only [Z0m,Option.bind_eq_some_iff] at e ⊢
  obtain ⟨lv,hl,kv,hk,r,hr,e⟩:=e
  cases e
  exact ⟨rfl,_,rfl,rfl,fun _ _ _=>⟨lv,hl,kv,hk,r,hr,rfl⟩⟩
 | call k =>
  obtain ⟨callee,args,ats⟩:=k
  cases callee with
  | builtin b=>cases b <;> simp [cls] at hc
  | _=>simp [cls] at hc
 | _=>simp [cls] at hc
theorem Zc2 {ops:Array Oper} {tm:Tm} {a:Act} {o:Oper} {b:Bool} (e:Z0T ops tm o=some b)
 (ht:∀ j want d v,o.guard=some (j,want)->(ops[j]?).bind (·.dst)=some d->tm d=some v -> ∃ v',a.tmps[d]? = some v' /\ ∃ μ,VR μ v v') :
 Region.wanted o (yielded ops a.tmps)=b:=by
 unfold Z0T at e
 unfold Region.wanted
 cases hg:o.guard with
 | none=>rw [hg] at e; simpa using e
 | some p =>
  obtain ⟨j,want⟩:=p
  rw [hg] at e
  simp only [Option.bind_eq_some_iff] at e
  obtain ⟨d,⟨oo,hoo,hd⟩,v,hv,e⟩:=e
  have hd':(ops[j]?).bind (·.dst)=some d:=by rw [hoo]; simpa using hd
  obtain ⟨v',h1,μ,h2⟩:=ht j want d v hg hd' hv
  simp only [yielded,hd',Option.bind_some,h1]
  cases h2 <;> simp at e ⊢ <;> first | exact e | (subst e; simp)
end Go.Ab

namespace Go.Ab
open Go
variable {H:Type} [HeapC H] {P:Program} {μ:Mu} {A:H} {w:World}
theorem Z1c {o:Orc H} {ops:Array Oper} {base i nt:Nat} {tm:Tm} {h:H} {c:Nat} {op:Oper} {r:Value × H × Nat} (e:Z0V P o ops base i nt tm h c op=some r) :
 ∃ b,Z0T ops tm op=some b/\i<256/\(∀ d,op.dst=some d->d<nt)/\((b=true/\Z0m P o (256*base+i) tm h c op.op=some r) ∨ (b=false/\r=(undef,h,c))):=by
 simp only [Z0V,Option.bind_eq_some_iff] at e
 obtain ⟨b,hb,e⟩:=e
 obtain ⟨hg,e1⟩:=Z05 e
 clear e
 simp only [Bool.and_eq_true] at hg
 refine ⟨b,hb,by have:=hg.1; simp [Nat.blt] at this; omega,fun d hd=>?_, ?_⟩
 · have:=hg.2
   rw [hd] at this
   have h2:Nat.ble (d+1) nt=true:=this
   exact Nat.le_of_ble_eq_true h2
 · cases b
   · exact .inr ⟨rfl,by cases e1; rfl⟩
   · exact .inl ⟨rfl,e1⟩
theorem VR.undef (μ:Mu):VR μ Go.undef Go.undef:=VR.tuple_iff.2 (VRs.nil μ)
theorem Zau {o:Orc H} (hO:OS P o) {ops:Array Oper} {base i nt c c':Nat} {tm:Tm} {oper:Oper} {v:Value} {A':H} {a:Act} (hi:ops[i]? = some oper)
 (e:Z0V P o ops base i nt tm A c oper=some (v,A',c')) (ht:TmR μ tm nt a.tmps) (hR:R μ A w) (hid:μ (256*base+i)=none) (hfr:Z1Y μ c)
 {ro:Option Nat} {n:Nat} {K:Act->World->Prop} {Q:Exit->Act->World->Prop}
 (hK:∀ v' μ' w',VR μ' v v'->Ext μ A c w (fun j=>j=256*base+i/\2<=cls oper.op/\Z0T ops tm oper=some true) μ' A' c' w'->K (a.put oper.dst v') w'):wpOpIn (wd ro) n P ops Q i K a w:=by
 obtain ⟨b,hb,hlt,hd,he⟩:=Z1c e
 have hw:=Zc2 (a:=a) hb (fun j want d v' _ _ hv=>let ⟨v'',h1,h2⟩:=ht.val d v' hv; ⟨v'',h1,μ,h2⟩)
 simp only [wpOpIn,hi,hw]
 rcases he with ⟨rfl,he⟩ | ⟨rfl,he⟩
 · simp only [if_true]
   exact Zlg hO he ht hR hid hfr (fun v' μ' w' hv hE=>hK v' μ' w' hv (hE.weaken (fun j h=>⟨h.1,h.2,hb⟩)))
 · cases he
   simp only [Bool.false_eq_true,if_false]
   exact ⟨fun _ _=>trivial,hK _ μ w (VR.undef μ) (Ext.refl hR)⟩
theorem Zgh {ops:Array Oper} {i:Nat} {K:Act->World->Prop} {a:Act} (h:wpOpIn (wd none) 0 P ops (fun _ _ _=>False) i K a w):∃ a' w',K a' w':=by
 have hfalse:¬ LetsOut (fun (_:Exit) (_:Act) (_:World)=>False):=fun ⟨_,_,h⟩=>h
 unfold wpOpIn at h
 split at h
 · exact ⟨_,_,h⟩
 · rename_i o ho
   split at h
   · have h2:=h.2
     generalize (o.semAt (wd none).round a.eval).run P w=r at h2
     cases r with
     | ok x w' =>
      cases x with
      | enter f args =>
       obtain ⟨e,w'',fr,hr,_⟩:=h2.2.2 [] (room_wide _)
       cases e with
       | returned v=>exact ⟨_,_,hr⟩
       | panicked ch=>exact hr.elim
       | outgrown=>exact (hfalse hr).elim
      | row row args =>
       obtain ⟨v,w'',hr,_⟩:=h2.2 default [] (room_wide _)
       exact ⟨_,_,hr⟩
      | round l f tmps avs bd =>
       obtain ⟨e,w'',hr,_⟩:=h2.2.2 default [] (room_wide _)
       cases e with
       | returned v=>exact ⟨_,_,hr⟩
       | panicked ch=>exact hr.elim
       | outgrown=>exact (hfalse hr).elim
      | value v=>exact ⟨_,_,h2⟩
      | skip=>exact ⟨_,_,h2⟩
      | defer d=>exact ⟨_,_,h2⟩
      | _=>exact h2.elim
     | halt x w' =>
      cases x <;> exact h2.elim
   · exact ⟨_,_,h.2⟩
def Zij (base i:Nat) (j:Nat):Prop:=256*base+i<=j/\j<256*base+256
theorem ZbB {o:Orc H} (hO:OS P o) {ops:Array Oper} {base nt:Nat} {ro:Option Nat} {n:Nat} {Q:Exit->Act->World->Prop} :
 ∀ (rest:List Oper) (i:Nat) (tm:Tm) (A:H) (c:Nat) (tm':Tm) (A':H) (c':Nat) (μ:Mu) (w:World) (a:Act),
 Z1g P o ops base nt rest i tm A c=some (tm',A',c')->(∀ k,rest[k]? = ops[i+k]?)->TmR μ tm nt a.tmps->R μ A w->Z1Y μ c->(∀ j,Zij base i j->μ j=none)->base<c →
 (∀ a' μ' w',TmR μ' tm' nt a'.tmps->a'.defers=a.defers->Ext μ A c w (Zij base i) μ' A' c' w'->Q .normal a' w') →
 wpOpsIn (wd ro) n P ops Q (List.range' i rest.length) a w
 | [],i,tm,A,c,tm',A',c',μ,w,a,e,hr,ht,hR,hfr,hown,hbc,hQ=>by
  simp only [Z1g,Option.some.injEq,Prod.mk.injEq] at e
  obtain ⟨rfl,rfl,rfl⟩:=e
  exact hQ a μ w ht rfl (Ext.refl hR)
 | oper::rest,i,tm,A,c,tm',A',c',μ,w,a,e,hr,ht,hR,hfr,hown,hbc,hQ=>by
  simp only [Z1g,Option.bind_eq_some_iff] at e
  obtain ⟨⟨v,A1,c1⟩,h1,h2⟩:=e
  have hi:ops[i]? = some oper:=by have:=hr 0; simpa using this.symm
  obtain ⟨_,_,hlt,hd,_⟩:=Z1c h1
  rw [List.length_cons,List.range'_succ,wpOpsIn_cons]
  have hid:μ (256*base+i)=none:=hown _ ⟨by omega,by omega⟩
  refine Zau hO hi h1 ht hR hid hfr fun v' μ1 w1 hv hE0=>?_
  have hE:=hE0.weaken (own':=fun j=>j=256*base+i) (fun j h=>h.1)
  have hm:=hE.mu
  have ht1:TmR μ1 (Z6O tm oper.dst v) nt (a.put oper.dst v').tmps:=(ht.mono hm).put hd hv
  have hfr1:Z1Y μ1 c1:=hE.fresh hfr (fun j hj=>by omega)
  refine ZbB hO rest (i+1) _ A1 c1 tm' A' c' μ1 w1 _ h2 (fun k=>by have:=hr (k+1); simp at this; rw [this]; congr 1; omega) ht1 hE.rel hfr1 ?_ (by have:=hE.cle; omega) ?_
  · intro j hj
    cases e:μ1 j with
    | none=>rfl
    | some m =>
     have h0:=hown j ⟨by have:=hj.1; omega,hj.2⟩
     rcases hE.new j h0 (by rw [e]; simp) with h | ⟨h,_⟩
     · have:=hj.1; omega
     · have:=hj.2; omega
  · intro a' μ' w' h3 h4 h5
    refine hQ a' μ' w' h3 (by rw [h4]; cases oper.dst <;> rfl) ?_
    refine (hE.trans h5 (fun j hj=>by omega) (fun j hj=>.inr hj)).weaken ?_
    rintro j (rfl | hj)
    · exact ⟨by omega,by omega⟩
    · exact ⟨by have:=hj.1; omega,hj.2⟩
structure Tr (P:Program) (o:Orc H) (ops:Array Oper) (base nt:Nat) (f:Nat->Tm × H × Nat) (v:Nat->Value):Prop where
 step:∀ k oper,ops[k]? = some oper->Z0V P o ops base k nt (f k).1 (f k).2.1 (f k).2.2 oper=some (v k,(f (k+1)).2.1,(f (k+1)).2.2)/\(f (k+1)).1=Z6O (f k).1 oper.dst (v k)
theorem ZbC {o:Orc H} {ops:Array Oper} {base nt:Nat}:∀ (rest:List Oper) (i:Nat) (tm:Tm) (A:H) (c:Nat) (tm':Tm) (A':H) (c':Nat),
 Z1g P o ops base nt rest i tm A c=some (tm',A',c') -> ∃ (f:Nat->Tm × H × Nat) (v:Nat->Value),f i=(tm,A,c)/\f (i+rest.length)=(tm',A',c') ∧
  ∀ k oper,rest[k]? = some oper->Z0V P o ops base (i+k) nt (f (i+k)).1 (f (i+k)).2.1 (f (i+k)).2.2 oper=some (v (i+k),(f (i+k+1)).2.1,(f (i+k+1)).2.2)/\(f (i+k+1)).1=Z6O (f (i+k)).1 oper.dst (v (i+k))
 | [],i,tm,A,c,tm',A',c',e=>by
  simp only [Z1g,Option.some.injEq] at e
  exact ⟨fun _=>(tm,A,c),fun _=>undef,rfl,e,by simp⟩
 | oper::rest,i,tm,A,c,tm',A',c',e=>by
  simp only [Z1g,Option.bind_eq_some_iff] at e
  obtain ⟨⟨v,A1,c1⟩,h1,h2⟩:=e
  obtain ⟨f,vs,h3,h4,h5⟩:=ZbC rest (i+1) _ A1 c1 tm' A' c' h2
  refine ⟨fun k=>if k<=i then (tm,A,c) else f k,fun k=>if k<=i then v else vs k,by simp, ?_, ?_⟩
  · simp only [List.length_cons]
    rw [if_neg qO,← h4]
    congr 1; omega
  · intro k op hk
    cases k with
    | zero =>
     simp only [List.getElem?_cons_zero,Option.some.injEq] at hk
     subst hk
     simp only [Nat.add_zero,Nat.le_refl,if_true]
     rw [if_neg qO,h3]
     exact ⟨h1,rfl⟩
    | succ k =>
     simp only [List.getElem?_cons_succ] at hk
     have:=h5 k op hk
     have e1:i+(k+1)=i+1+k:=by omega
     have e2:¬ (i+1+k<=i):=by omega
     have e3:¬ (i+1+k+1<=i):=by omega
     simp only [e1,e2,e3,if_false]
     exact this
theorem Z5S {o:Orc H} {ops:Array Oper} {base nt:Nat}:∀ (rest:List Oper) (i:Nat) (tm:Tm) (A:H) (c:Nat) (q:Tm × H × Nat × List (Option Nat × H)),
 Z18 P o ops base nt rest i tm A c=some q->Z1g P o ops base nt rest i tm A c=some (q.1,q.2.1,q.2.2.1)
 | [],i,tm,A,c,q,e=>by simp only [Z18,Option.some.injEq] at e; subst e; rfl
 | oper::rest,i,tm,A,c,q,e=>by
  simp only [Z18,Option.bind_eq_some_iff] at e
  obtain ⟨r,h1,q',h2,e⟩:=e
  cases e
  simp only [Z1g,Option.bind_eq_some_iff]
  exact ⟨r,h1,Z5S rest (i+1) _ _ _ q' h2⟩
theorem Z7x {o:Orc H} {ops:Array Oper} {base nt:Nat}:∀ (rest:List Oper) (i:Nat) (tm:Tm) (A:H) (c:Nat) (q:Tm × H × Nat × List (Option Nat × H)) (f:Nat->Tm × H × Nat) (v:Nat->Value),
 Z18 P o ops base nt rest i tm A c=some q->f i=(tm,A,c) →
 (∀ k oper,rest[k]? = some oper->Z0V P o ops base (i+k) nt (f (i+k)).1 (f (i+k)).2.1 (f (i+k)).2.2 oper=some (v (i+k),(f (i+k+1)).2.1,(f (i+k+1)).2.2)/\(f (i+k+1)).1=Z6O (f (i+k)).1 oper.dst (v (i+k))) →
 (∀ k oper,rest[k]? = some oper->q.2.2.2[k]? = some (rid ops (f (i+k)).1 oper,(f (i+k)).2.1))/\(∃ x,q.2.2.2[rest.length]? = some (x,(f (i+rest.length)).2.1))
 | [],i,tm,A,c,q,f,v,e,h0,hs=>by
  simp only [Z18,Option.some.injEq] at e
  subst e
  exact ⟨by simp,none,by simp [h0]⟩
 | oper::rest,i,tm,A,c,q,f,v,e,h0,hs=>by
  simp only [Z18,Option.bind_eq_some_iff] at e
  obtain ⟨r,h1,q',h2,e⟩:=e
  cases e
  have hs0:=hs 0 oper (by simp)
  simp only [Nat.add_zero,h0] at hs0
  rw [h1] at hs0
  obtain ⟨hs1,hs2⟩:=hs0
  cases hs1
  have hf1:f (i+1)=(Z6O tm oper.dst (v i),(f (i+1)).2.1,(f (i+1)).2.2):=by rw [← hs2]
  obtain ⟨h3,h4⟩:=Z7x rest (i+1) _ _ _ q' f v h2 hf1 (fun k op hk=>by
   have:=hs (k+1) op (by simpa using hk)
   have e1:i+(k+1)=i+1+k:=by omega
   rw [e1] at this
   exact this)
  refine ⟨fun k op hk=>?_, ?_⟩
  · cases k with
    | zero=>simp at hk; subst hk; simp [h0]
    | succ k =>
     have:=h3 k op (by simpa using hk)
     have e1:i+(k+1)=i+1+k:=by omega
     rw [e1]
     simpa using this
  · obtain ⟨x,hx⟩:=h4
    refine ⟨x, ?_⟩
    have e1:i+(oper::rest).length=i+1+rest.length:=by simp; omega
    rw [e1]
    simpa using hx
theorem Zfg {acc:List Nat} {o:Oper} {i:Nat}:(Z8z acc o).testBit i=true ↔ ∃ e ∈ o.after.toList,Region.binds .any e=true/\(i=e.on ∨ (acc.getD e.on 0).testBit i=true):=by
 unfold Z8z
 suffices h:∀ (l:List Edge) (s:Nat),(l.foldl (fun s e=>cond (Region.binds .any e) (s ||| (2 ^ e.on) ||| acc.getD e.on 0) s) s).testBit i=true ↔
  s.testBit i=true ∨ ∃ e ∈ l,Region.binds .any e=true/\(i=e.on ∨ (acc.getD e.on 0).testBit i=true) by
  rw [h]; simp
 intro l
 induction l with
 | nil=>intro s; simp
 | cons e l ih =>
  intro s
  rw [List.foldl_cons,ih]
  cases hb:Region.binds .any e with
  | false=>simp [hb]
  | true =>
   simp only [cond_true,Nat.testBit_or,Bool.or_eq_true,Nat.testBit_two_pow,decide_eq_true_eq,List.mem_cons,exists_eq_or_imp,hb,true_and]
   constructor
   · rintro (((h | h) | h) | h)
     · exact .inl h
     · exact .inr (.inl (.inl h.symm))
     · exact .inr (.inl (.inr h))
     · exact .inr (.inr h)
   · rintro (h | (h | h) | h)
     · exact .inl (.inl (.inl h))
     · exact .inl (.inl (.inr h.symm))
     · exact .inl (.inr h)
     · exact .inr h
theorem Z6Y:∀ (l:List Oper) (acc:List Nat),∃ r,ZaG l acc=acc++r/\r.length=l.length /\ ∀ k o,l[k]? = some o->(acc++r).getD (acc.length+k) 0=Z8z ((acc++r).take (acc.length+k)) o
 | [],acc=>⟨[],by simp [ZaG],rfl,by simp⟩
 | o::rest,acc=>by
  obtain ⟨r,h1,h2,h3⟩:=Z6Y rest (acc++[Z8z acc o])
  refine ⟨Z8z acc o::r,by simp [ZaG,h1],by simp [h2],fun k o' hk=>?_⟩
  cases k with
  | zero =>
   simp at hk; subst hk
   simp [List.getD_eq_getElem?_getD]
  | succ k =>
   have:=h3 k o' (by simpa using hk)
   simp only [List.length_append,List.length_cons,List.length_nil,List.append_assoc,List.cons_append,List.nil_append] at this
   have e1:acc.length+(k+1)=acc.length+(0+1)+k:=by omega
   rw [e1]
   exact this
def msk (ops:Array Oper) (j:Nat):Nat:=(ZaG ops.toList []).getD j 0
theorem msk_eq {ops:Array Oper} {j:Nat} {o:Oper} (h:ops[j]? = some o):msk ops j=Z8z ((ZaG ops.toList []).take j) o:=by
 obtain ⟨r,h1,h2,h3⟩:=Z6Y ops.toList []
 have:=h3 j o (by simpa using h)
 simp only [List.nil_append,List.length_nil,Nat.zero_add] at this
 simp only [msk,h1,List.nil_append]
 exact this
theorem Z1V:∀ (l:List Oper) (i:Nat),Z5s l i=true -> ∀ k o,l[k]? = some o -> ∀ e ∈ o.after.toList,Region.binds .any e=true->e.on<i+k
 | [],i,h,k,o,hk,e,he,hb=>by simp at hk
 | x::l,i,h,k,o,hk,e,he,hb=>by
  simp only [Z5s,Bool.and_eq_true] at h
  cases k with
  | zero =>
   simp at hk; subst hk
   have:=List.all_eq_true.1 h.1 e he
   simp [hb,Nat.blt] at this
   omega
  | succ k =>
   have:=Z1V l (i+1) h.2 k o (by simpa using hk) e he hb
   omega
theorem ZgV {ops:Array Oper} (hE:Z5s ops.toList 0=true) {j i:Nat} {o:Oper} (h:ops[j]? = some o) :
 (msk ops j).testBit i=true ↔ ∃ e ∈ o.after.toList,Region.binds .any e=true/\(i=e.on ∨ (msk ops e.on).testBit i=true):=by
 rw [msk_eq h,Zfg]
 constructor <;> rintro ⟨e,h1,h2,h3⟩ <;> refine ⟨e,h1,h2,h3.imp id fun h3=>?_⟩
 all_goals
  have hlt:=Z1V _ 0 hE j o (by simpa using h) e h1 h2
  simp only [List.getD_eq_getElem?_getD,msk] at h3 ⊢
  simp only [Nat.zero_add] at hlt
  simpa [List.getElem?_take,hlt] using h3
theorem ZlH {ops:Array Oper} (hE:Z5s ops.toList 0=true):∀ (j i:Nat),(msk ops j).testBit i=true->i<j:=by
 intro j
 induction j using Nat.strongRecOn with
 | _ j ih =>
  intro i hb
  cases ho:ops[j]? with
  | none =>
   exfalso
   obtain ⟨r,h1,h2,_⟩:=Z6Y ops.toList []
   have:ops.size<=j:=by simpa using ho
   simp [msk,h1,List.getD_eq_getElem?_getD,List.getElem?_eq_none (show r.length<=j by simp [h2]; exact this)] at hb
  | some o =>
   obtain ⟨e,h1,h2,h3⟩:=(ZgV hE ho).1 hb
   have hlt:=Z1V _ 0 hE j o (by simpa using ho) e h1 h2
   rcases h3 with rfl | h3
   · omega
   · have:=ih e.on qO i h3
     omega
theorem Z2S {ops:Array Oper} (hE:Z5s ops.toList 0=true) {S:Nat->Prop} (hS:∀ k o,S k->ops[k]? = some o -> ∀ e ∈ o.after.toList,Region.binds .any e=true->S e.on) :
 ∀ (j i:Nat) (o:Oper),ops[j]? = some o->(∀ e ∈ o.after.toList,Region.binds .any e=true->S e.on)->(msk ops j).testBit i=true->S i:=by
 intro j
 induction j using Nat.strongRecOn with
 | _ j ih =>
  intro i o ho hpred hb
  obtain ⟨e,h1,h2,h3⟩:=(ZgV hE ho).1 hb
  have hlt:=Z1V _ 0 hE j o (by simpa using ho) e h1 h2
  have hse:=hpred e h1 h2
  rcases h3 with rfl | h3
  · exact hse
  · have:∃ o',ops[e.on]? = some o':=by
     have:j<ops.size:=(Array.getElem?_eq_some_iff.1 ho).1
     exact ⟨ops[e.on]'qO,Array.getElem?_eq_getElem qO⟩
    obtain ⟨o',ho'⟩:=this
    exact ih e.on qO i o' ho' (hS _ _ hse ho') h3
theorem Zak {n:Nat} {p:Nat->Bool} (h:Zlp n p=true):∀ i,i<n->p i=true:=by
 induction n with
 | zero=>intro i hi; omega
 | succ n ih =>
  have h':(p n && Zlp n p)=true:=h
  simp only [Bool.and_eq_true] at h'
  intro i hi
  by_cases e:i=n
  · subst e; exact h'.1
  · exact ih h'.2 i qO
theorem Z5y {ops:Array Oper} (h:Z8o ops=true) {i j:Nat} {a b:Oper} (hij:i<j) (ha:ops[i]? = some a) (hb:ops[j]? = some b) :
 (msk ops j).testBit i=true ∨ (Zf3 ops a b=false/\Zf3 ops b a=false /\ ¬ (cls a.op=3/\cls b.op=3)):=by
 simp only [Z8o,Bool.and_eq_true] at h
 have h2:=Zak (Zak h.2 j (Array.getElem?_eq_some_iff.1 hb).1) i hij
 simp only [ZlF,ha,hb,Bool.or_eq_true,Bool.and_eq_true,Bool.not_eq_true'] at h2
 rcases h2 with h2 | h2
 · exact .inl h2
 · refine .inr ⟨h2.1.1,h2.1.2,fun hh=>?_⟩
   have:=h2.2
   rw [hh.1,hh.2] at this
   simp at this
theorem Z3M {ops:Array Oper} (h:Z8o ops=true):Z5s ops.toList 0=true:=by
 simp only [Z8o,Bool.and_eq_true] at h; exact h.1
end Go.Ab
