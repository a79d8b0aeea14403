/- Parts of a proof: AbExec AbOrc AbMono AbShal AbGen AbEv AbCps. Conditions: none. -/
import Derived.Test.YtdodippbpdechaaM4
import Derived.LoopNIn
set_option linter.all false
set_option maxRecDepth 100000
namespace Go.Ab
open Go
variable {H:Type} [HeapC H] {P:Program} {μ:Mu} {A:H} {w:World}
theorem Ext.del {c:Nat} {own:Nat->Prop} (hR:R μ A w) {i:Nat} {m:ME} (hm:μ i=some m) (hw:wrB (HeapC.get A i)=true)
 {w':World} (os:w'.os=w.os) (tape:w'.tape=w.tape) (output:w'.output=w.output) (size:w'.heap.size=w.heap.size) (oth:∀ b,b ≠ m.b->w'.heap[b]? = w.heap[b]?) :
 Ext μ A c w own μ (HeapC.del A i) c w' where
 mu:=fun _ _ e=>e
 new:=fun i h1 h2=>absurd h1 h2
 cle:=Nat.le_refl _
 rel:={
  blk:=fun j mj hj=>by
   rw [HeapC.get_del]
   by_cases e:j=i
   · simp only [e,if_true]; trivial
   · simp only [e,if_false]
     have h0:=hR.blk j mj hj
     cases hd:Z2o (HeapC.get A j) with
     | true =>
      unfold Z2o at hd
      split at hd
      · rename_i hg; rw [hg]; trivial
      · cases hd
     | false =>
      refine h0.congr (oth _ ?_)
      exact hR.inj j i mj m hj hm e hd (Z1x hw) (by rw [Z4I hw]; simp)
  inj:=fun a b ma mb ha hb' hne=>by
   rw [HeapC.get_del,HeapC.get_del]
   by_cases ea:a=i <;> by_cases eb:b=i
   · exact absurd (ea.trans eb.symm) hne
   · subst ea
     simp only [eb,if_true,if_false]
     intro _ h2 h3
     exact hR.inj a b ma mb ha hb' hne (Z1x hw) h2 (by rw [Z4I hw]; simp)
   · subst eb
     simp only [ea,if_true,if_false]
     intro h1 _ h3
     exact hR.inj a b ma mb ha hb' hne h1 (Z1x hw) (by rw [Z4I hw]; simp)
   · simp only [ea,eb,if_false]
     exact hR.inj a b ma mb ha hb' hne
  lt:=fun j mj hj=>by rw [size]; exact hR.lt j mj hj }
 af:=fun j h1 _ _=>by
  rw [HeapC.get_del,if_neg]
  intro e; subst e; rw [hm] at h1; cases h1
 os:=os
 tape:=tape
 output:=output
 size:=by omega
 fr:=fun b _ h=>oth b (fun e=>h i m hm hw e.symm)
 wrm:=fun j mj hj h=>by
  rw [HeapC.get_del] at h
  by_cases e:j=i
  · simp [e,wrB] at h
  · simpa [e] using h
 newb:=fun j mj h1 h2=>by rw [h1] at h2; cases h2
 dd:=fun j mj hj h=>by
  rw [HeapC.get_del]
  by_cases e:j=i
  · subst e; rw [Z1x hw] at h; cases h
  · simpa [e] using h
theorem ZbP {c nt t:Nat} {tm:Tm} {ts:Array Value} (ht:TmR μ tm nt ts) (hR:R μ A w):Ext μ A c w (fun _=>False) μ (ZnA tm A t) c w:=by
 unfold ZnA
 split
 · rename_i i hv
   split
   · rename_i cs hg
     obtain ⟨v',_,h2⟩:=ht.val t _ hv
     cases h2 with
     | @ptr _ _ m hm =>
      exact Ext.del hR hm (by rw [hg]; rfl) rfl rfl rfl rfl (fun _ _=>rfl)
   · exact Ext.refl hR
 · exact Ext.refl hR
theorem Ext.trans0 {μ μ1 μ2:Mu} {A A1 A2:H} {c c1 c2:Nat} {w w1 w2:World} (h:Ext μ A c w (fun _=>False) μ1 A1 c1 w1) (k:Ext μ1 A1 c1 w1 (fun _=>False) μ2 A2 c2 w2):Ext μ A c w (fun _=>False) μ2 A2 c2 w2 :=
 (h.trans k (fun _ h=>h.elim) (fun _ h=>h.elim)).weaken (fun _ h=>h.elim id id)
theorem Z4z {c nt:Nat} {tm:Tm} {ts:Array Value} (ht:TmR μ tm nt ts):∀ (l:List Nat) (A:H),R μ A w->Ext μ A c w (fun _=>False) μ (Z1C tm A l) c w
 | [],A,hR=>Ext.refl hR
 | t::l,A,hR=>(ZbP ht hR).trans0 (Z4z ht l _ (ZbP (c:=c) ht hR).rel)
theorem Z4G {b:Nat} {lp:Loop} (h:w.heap[b]? = some (.loop lp)):(Instr.getLoop b).run P w = .ok lp w:=by
 simp [Instr.getLoop,getObj,Sem.run,h]
theorem Z64 {b:Nat} {lp lp':Loop} (h:w.heap[b]? = some (.loop lp)):(setObj b (.loop lp')).run P w = .ok () { w with heap:=w.heap.setIfInBounds b (.loop lp') }:=by
 simp [setObj,Sem.run,h]
theorem Ext.setLoop {c:Nat} {own:Nat->Prop} (hR:R μ A w) {i:Nat} {m:ME} (hm:μ i=some m) {st st':ALoop} (hg:HeapC.get A i=some (.loop st)) {lp':Loop} (hL:LoopR μ st' lp') :
 Ext μ A c w own μ (HeapC.set A i (.loop st')) c { w with heap:=w.heap.setIfInBounds m.b (.loop lp') } :=
 Ext.setObj hR hm (by rw [hg]; rfl) rfl (fun h hh=>⟨lp',hh,hL⟩)
inductive DfR (μ:Mu):List Nat->List Deferred->Prop
 | nil:DfR μ [] []
 | cons {i:Nat} {m:ME} {d:Deferred} {ds:List Nat} {es:List Deferred} (h:μ i=some m) (ht:d.target = .collected m.b) (hs:DfR μ ds es):DfR μ (i::ds) (d::es)
theorem DfR.mono {μ':Mu} (hm:μ.le μ') {ds:List Nat} {es:List Deferred} (h:DfR μ ds es):DfR μ' ds es:=by
 induction h with
 | nil=>exact .nil
 | cons h ht _ ih=>exact .cons (hm _ _ h) ht ih
def RdR (μ:Mu) (rd ro:Option Nat):Prop :=
 match rd,ro with
 | none,none=>True
 | some l,some b=>∃ m,μ l=some m/\m.b=b
 | _,_=>False
theorem RdR.mono {μ':Mu} (hm:μ.le μ') {rd ro:Option Nat} (h:RdR μ rd ro):RdR μ' rd ro:=by
 cases rd <;> cases ro <;> first | exact h | exact (let ⟨m,a,b⟩:=h; ⟨m,hm _ _ a,b⟩)
def ZeO:Ex->Exit
 | .normal=>.normal
 | .exit id=>.exit id
 | .ret=>.ret
def Z4B (P:Program) (o:Orc H) (k:Nat):Prop :=
 ∀ (j:Nat) (lin fr:List Nat) (b:ACode) (nt:Nat) (rd:Option Nat) (vs:List Value) (A:H) (c:Nat) (df:List Nat) (r:Rt H),o (.lp j lin fr b nt rd) vs A c df=some r →
  ∀ (μ:Mu) (w:World) (a:Act) (ro:Option Nat) (n:Nat) (Q:Exit->Act->World->Prop),TmR μ (Z0l lin vs) nt a.tmps->R μ A w->Z1Y μ c->RdR μ rd ro->DfR μ df a.defers →
  (∀ a' μ' w',TmR μ' (Z0l lin r.vs) nt a'.tmps->DfR μ' r.df a'.defers->Ext μ A c w (fun _=>False) μ' r.h r.c w'->Q (ZeO r.e) a' w')->Code.roundsIn (wd ro) n P (Z3K b) Q k a w
theorem Z4a {tm:Tm}:∀ {lin:List Nat} {vs:List Value},vals tm lin=some vs -> ∀ t v,Z0l lin vs t=some v->tm t=some v
 | [],vs,h,t,v,e=>by simp [Z0l] at e
 | x::xs,vs,h,t,v,e=>by
  simp only [Ab.vals,Option.bind_eq_some_iff] at h
  obtain ⟨y,hy,ys,hys,h⟩:=h
  cases h
  simp only [Z0l] at e
  cases hb:Nat.beq t x with
  | true=>rw [hb] at e; rw [Nat.eq_of_beq_eq_true hb,hy]; exact e
  | false=>rw [hb] at e; exact Z4a hys t v e
theorem TmR.sub {tm tm':Tm} {nt:Nat} {ts:Array Value} (h:TmR μ tm nt ts) (hs:∀ t v,tm' t=some v->tm t=some v):TmR μ tm' nt ts :=
 ⟨h.size,fun t v e=>h.val t v (hs t v e)⟩
theorem Z5K {o:Orc H}:∀ {code:ACode} {s s':St H} {e:Ex},Z28 P o code s=some (e,s')->s'.nt=s.nt/\s'.rd=s.rd:=by
 intro code
 induction code with
 | skip=>intro s s' e h; simp only [Z28,Option.some.injEq,Prod.mk.injEq] at h; obtain ⟨_,rfl⟩:=h; exact ⟨rfl,rfl⟩
 | region id ops d=>intro s s' e h; simp only [Z28,Option.bind_eq_some_iff] at h; obtain ⟨r,_,h⟩:=h; cases h; exact ⟨rfl,rfl⟩
 | join lays x ih=>intro s s' e h; exact ih (by simpa only [Z28] using h)
 | seq x y ihx ihy =>
  intro s s' e h
  simp only [Z28,Option.bind_eq_some_iff] at h
  obtain ⟨⟨e1,s1⟩,h1,h⟩:=h
  have k1:=ihx h1
  cases e1 with
  | normal=>have k2:=ihy h; exact ⟨k2.1.trans k1.1,k2.2.trans k1.2⟩
  | exit id=>cases h; exact k1
  | ret=>cases h; exact k1
 | cond c x y ihx ihy =>
  intro s s' e h
  simp only [Z28,Option.bind_eq_some_iff] at h
  obtain ⟨v,hv,h⟩:=h
  split at h
  · rename_i t; cases t
    · exact ihy h
    · exact ihx h
  · cases h
 | block id x ih =>
  intro s s' e h
  simp only [Z28,Option.bind_eq_some_iff] at h
  obtain ⟨⟨e1,s1⟩,h1,h⟩:=h
  have k1:=ih h1
  cases e1 <;> cases h <;> exact k1
 | loop j lin fr outs b _ =>
  intro s s' e h
  simp only [Z28,Option.bind_eq_some_iff] at h
  obtain ⟨vs,_,r,_,h⟩:=h
  cases h; exact ⟨rfl,rfl⟩
 | rangeFunc j lin fr outs f ps x y _ _ =>
  intro s s' e h
  simp only [Z28,Z4x,Option.bind_eq_some_iff] at h
  obtain ⟨fv,_,h⟩:=h
  split at h
  · simp only [Option.bind_eq_some_iff] at h
    obtain ⟨vs,_,hd,_,r,_,h⟩:=h
    split at h
    · rename_i st _
      cases hb:decide (st.state=LoopState.busy) with
      | true=>rw [hb] at h; cases h
      | false =>
       rw [hb] at h
       simp only [cond_false,Option.bind_eq_some_iff] at h
       obtain ⟨x,_,h⟩:=h
       cases h; exact ⟨rfl,rfl⟩
    · cases h
  · cases h
 | exit id=>intro s s' e h; simp only [Z28,Option.some.injEq,Prod.mk.injEq] at h; obtain ⟨_,rfl⟩:=h; exact ⟨rfl,rfl⟩
 | ret=>intro s s' e h; simp only [Z28,Option.some.injEq,Prod.mk.injEq] at h; obtain ⟨_,rfl⟩:=h; exact ⟨rfl,rfl⟩
 | bad c=>intro s s' e h; simp [Z28] at h
theorem ZhS {c:Nat} {s:St H} {rd ro:Option Nat} (hR:R μ A w) (hfr:Z1Y μ c) (hrd:RdR μ rd ro) {hd:H × Nat} (e:Z2Q A c rd=some hd) {tmps:Array Value} {fn:FuncId} {ps:Array Tmp} {x y:Code} :
 ∃ l mark w1 μ1,(Instr.enterLoop fn tmps ps x y ro).run P w = .ok (l,mark) w1/\l+1=w1.heap.size ∧
  (∃ w0,Ext μ A c w (fun i=>i=256*c+1) μ1 hd.1 c w0/\(∃ m,μ1 hd.2=some m/\w1 = { w0 with heap:=w0.heap.push (.loop { state:=.ready,pending:=none,fn,tmps,params:=ps,assign:=x,body:=y,defers:=m.b }) } /\ l=w0.heap.size ∧
   ((rd=none -> ∃ d,mark=[d]/\d.target = .collected m.b)/\(∀ l',rd=some l'->mark=[]))))/\μ1 (256*c)=none:=by
 cases rd with
 | none =>
  cases ro with
  | some b=>exact hrd.elim
  | none =>
   simp only [Z2Q,Option.some.injEq] at e
   subst e
   have hid:μ (256*c+1)=none:=hfr _ qO
   have hE:Ext μ A c w (fun i=>i=256*c+1) (μ.upd (256*c+1) ⟨w.heap.size,0,none⟩) (HeapC.set A (256*c+1) .dfr) c { w with heap:=w.heap.push (.deferred (some [])) } :=
    Ext.alloc hR hid rfl rfl rfl rfl rfl rfl (by simp [Z6P])
   refine ⟨w.heap.size+1,[{ target:=.collected w.heap.size,args:=#[] }],_,_, ?_, ?_,⟨_,hE,⟨w.heap.size,0,none⟩,Mu.upd_self μ _ _,rfl,by simp,(fun _=>⟨{ target:=.collected w.heap.size,args:=#[] },rfl,rfl⟩),(fun _ h=>by cases h)⟩, ?_⟩
   · simp [Instr.enterLoop,newObj,Sem.run,Sem.run_bind]
     rfl
   · simp
   · simp only [Mu.upd]; rw [if_neg qO]; exact hfr _ qO
 | some l =>
  cases ro with
  | none=>exact hrd.elim
  | some b =>
   obtain ⟨m,hm,rfl⟩:=hrd
   simp only [Z2Q] at e
   split at e
   · rename_i st hg
     simp only [Option.some.injEq] at e
     subst e
     have hb:=hR.blk l m hm
     rw [hg] at hb
     obtain ⟨lp,hlp,hL⟩:=hb
     obtain ⟨md,hmd,hmb⟩:=hL.dfr
     refine ⟨w.heap.size,[],_,μ, ?_, ?_,⟨w,Ext.refl hR,md,hmd,rfl,rfl,(fun h=>by cases h),(fun _ _=>rfl)⟩,hfr _ qO⟩
     · simp only [Instr.enterLoop,Sem.run_bind,Z4G hlp,Result.andThen_ok,Sem.run_pure]
       simp [newObj,Sem.run,hmb]
     · simp
   · cases e
theorem Z8T {o:Orc H} {k:Nat} (hO:OS P o) (hL:Z4B P o k) (hmix:P.follows .mixedOrders=true):∀ {code:ACode} {s s':St H} {e:Ex},Z28 P o code s=some (e,s') →
 ∀ {μ:Mu} {w:World} {a:Act} {ro:Option Nat} {n:Nat} {Q:Exit->Act->World->Prop},TmR μ s.tm s.nt a.tmps->R μ s.h w->Z1Y μ s.c->RdR μ s.rd ro->DfR μ s.df a.defers →
 (∀ a' μ' w',TmR μ' s'.tm s.nt a'.tmps->DfR μ' s'.df a'.defers->Ext μ s.h s.c w (fun _=>False) μ' s'.h s'.c w'->Q (ZeO e) a' w')->(Z3K code).wpIn (wd ro) n P Q a w:=by
 intro code
 induction code with
 | skip =>
  intro s s' e h μ w a ro n Q ht hR hfr hrd hdf hQ
  simp only [Z28,Option.some.injEq,Prod.mk.injEq] at h
  obtain ⟨rfl,rfl⟩:=h
  exact wpIn_skip (hQ a μ w ht hdf (Ext.refl hR))
 | join lays x ih=>intro s s' e h; simp only [Z3K]; exact ih (by simpa only [Z28] using h)
 | region id ops d =>
  intro s s' e h μ w a ro n Q ht hR hfr hrd hdf hQ
  simp only [Z28,Option.bind_eq_some_iff] at h
  obtain ⟨⟨tm',A',c'⟩,hr,h⟩:=h
  cases h
  exact ZgE hO hmix hr ht hR hfr (fun a' μ' w' h1 h2 h3=>hQ a' μ' w' h1 (by rw [h2]; exact hdf.mono h3.mu) h3)
 | seq x y ihx ihy =>
  intro s s' e h μ w a ro n Q ht hR hfr hrd hdf hQ
  simp only [Z28,Option.bind_eq_some_iff] at h
  obtain ⟨⟨e1,s1⟩,h1,h⟩:=h
  have k1:=Z5K h1
  refine wpIn_seq (ihx h1 ht hR hfr hrd hdf fun a1 μ1 w1 ht1 hdf1 hE1=>?_)
  cases e1 with
  | normal =>
   refine ihy h (by rw [k1.1]; exact ht1) hE1.rel (hE1.fresh hfr (fun _ h=>h.elim)) (by rw [k1.2]; exact hrd.mono hE1.mu) hdf1 fun a2 μ2 w2 ht2 hdf2 hE2=>?_
   exact hQ a2 μ2 w2 (by rw [k1.1] at ht2; exact ht2) hdf2 (hE1.trans0 hE2)
  | exit id=>cases h; exact hQ a1 μ1 w1 ht1 hdf1 hE1
  | ret=>cases h; exact hQ a1 μ1 w1 ht1 hdf1 hE1
 | cond c x y ihx ihy =>
  intro s s' e h μ w a ro n Q ht hR hfr hrd hdf hQ
  simp only [Z28,Option.bind_eq_some_iff] at h
  obtain ⟨v,hv,h⟩:=h
  split at h
  · rename_i t
    have hc:=(ht.eval (a:=a) hv).bool_left
    refine wpIn_cond hc ?_
    cases t
    · exact ihy h ht hR hfr hrd hdf hQ
    · exact ihx h ht hR hfr hrd hdf hQ
  · cases h
 | block id x ih =>
  intro s s' e h μ w a ro n Q ht hR hfr hrd hdf hQ
  simp only [Z28,Option.bind_eq_some_iff] at h
  obtain ⟨⟨e1,s1⟩,h1,h⟩:=h
  refine wpIn_block (ih h1 ht hR hfr hrd hdf fun a1 μ1 w1 ht1 hdf1 hE1=>?_)
  cases e1 with
  | normal=>cases h; exact hQ a1 μ1 w1 ht1 hdf1 hE1
  | exit id' =>
   simp only [Option.some.injEq,Prod.mk.injEq] at h
   obtain ⟨he,rfl⟩:=h
   show if id'=id then Q .normal a1 w1 else Q (.exit id') a1 w1
   by_cases hid:id'=id
   · subst hid
     simp only [Nat.beq_refl,cond_true] at he
     subst he
     simp only [if_true]
     exact hQ a1 μ1 w1 ht1 hdf1 hE1
   · have hb:Nat.beq id' id=false:=by rw [Bool.eq_false_iff]; intro hh; exact hid (Nat.eq_of_beq_eq_true hh)
     rw [hb] at he
     simp only [cond_false] at he
     subst he
     simp only [hid,if_false]
     exact hQ a1 μ1 w1 ht1 hdf1 hE1
  | ret=>cases h; exact hQ a1 μ1 w1 ht1 hdf1 hE1
 | loop j lin fr outs b _ =>
  intro s s' e h μ w a ro n Q ht hR hfr hrd hdf hQ
  simp only [Z28,Option.bind_eq_some_iff] at h
  obtain ⟨vs,hvs,r,hr,h⟩:=h
  cases h
  exact wpIn_loop_rounds k (hL _ _ _ _ _ _ _ _ _ _ _ hr μ w a ro n Q (ht.sub (Z4a hvs)) hR hfr hrd hdf (fun a' μ' w' h1 h2 h3=>hQ a' μ' w' h1 h2 h3))
 | rangeFunc j lin fr outs f ps x y _ _ =>
  intro s s' e h μ w a ro n Q ht hR hfr hrd hdf hQ
  simp only [Z28,Z4x,Option.bind_eq_some_iff] at h
  obtain ⟨fv,hfv,h⟩:=h
  split at h
  · rename_i g first cap
    simp only [Option.bind_eq_some_iff] at h
    obtain ⟨vs,hvs,hd,hhd,r,hr,h⟩:=h
    obtain ⟨hcf,hcall⟩:=hO.fn _ _ _ _ _ _ hr
    have hfv':=ht.eval (a:=a) hfv
    refine wpIn_rangeFunc fun fn _=>?_
    obtain ⟨l,mark,w1,μ1,he,hl,⟨w0,hE0,m,hm,hw1,hl0,hmark⟩,hμ1⟩:=ZhS (P:=P) (s:=s) hR hfr hrd hhd (tmps:=a.tmps) (fn:=fn) (ps:=ps) (x:=Z3K x) (y:=Z3K y)
    let st:ALoop:={ state:=.ready,pending:=none,nt:=s.nt,vals:=vs,lin:=lin,fr:=fr,params:=ps.toList,assign:=x,body:=y,dfr:=hd.2 }
    have hE1:Ext μ1 hd.1 s.c w0 (fun i=>i=256*s.c) (μ1.upd (256*s.c) ⟨l,0,none⟩) (HeapC.set hd.1 (256*s.c) (.loop st)) s.c w1:=by
     subst hw1
     refine Ext.alloc hE0.rel hμ1 (by simp [hl0]) rfl rfl rfl rfl rfl ?_
     refine ⟨{ state:=.ready,pending:=none,fn:=fn,tmps:=a.tmps,params:=ps,assign:=Z3K x,body:=Z3K y,defers:=m.b },by simp [hl0], ?_⟩
     have hle:=hE0.mu
     refine ⟨rfl,rfl,rfl,rfl,rfl,ht.size,fun t v hv=>?_, ?_⟩
     · obtain ⟨v',h1,h2⟩:=ht.val t v (Z4a hvs t v hv)
       exact ⟨v',h1,(h2.mono hle).mono (Mu.le_upd hμ1)⟩
     · exact ⟨m,Mu.le_upd hμ1 _ _ hm,rfl⟩
    have hE01:Ext μ s.h s.c w (fun i=>i=256*s.c+1 ∨ i=256*s.c) (μ1.upd (256*s.c) ⟨l,0,none⟩) (HeapC.set hd.1 (256*s.c) (.loop st)) (s.c+1) w1:=by
     have hf0:∀ i,256*s.c<=i->μ i=none:=hfr
     refine { mu:=fun i m h=>hE1.mu i m (hE0.mu i m h),new:=?_,cle:=by omega,rel:=hE1.rel,af:=?_,os:=hE1.os.trans hE0.os,tape:=hE1.tape.trans hE0.tape,output:=hE1.output.trans hE0.output,size:=Nat.le_trans hE0.size hE1.size,fr:=?_,wrm:=?_,newb:=?_,dd:=fun i m hi h0=>hE1.dd i m (hE0.mu i m hi) (hE0.dd i m hi h0) }
     · intro i h0 h1
       cases e1:μ1 i with
       | none =>
        rcases hE1.new i e1 h1 with h | ⟨h,h'⟩
        · exact .inl (.inr h)
        · omega
       | some m1 =>
        rcases hE0.new i h0 (by rw [e1]; simp) with h | ⟨h,h'⟩
        · exact .inl (.inl h)
        · omega
     · intro i h0 h1 h2
       have hne1:i ≠ 256*s.c:=fun hh=>h2 (.inr hh)
       have hne2:i ≠ 256*s.c+1:=fun hh=>h2 (.inl hh)
       rw [HeapC.get_set,if_neg hne1]
       cases hrd':s.rd with
       | none =>
        rw [hrd'] at hhd
        simp only [Z2Q,Option.some.injEq] at hhd
        rw [← hhd]
        simp only [HeapC.get_set,hne2,if_false]
       | some l' =>
        rw [hrd'] at hhd
        simp only [Z2Q] at hhd
        split at hhd
        · simp only [Option.some.injEq] at hhd; rw [← hhd]
        · cases hhd
     · intro b hb hn
       rw [hE1.fr b (Nat.lt_of_lt_of_le hb hE0.size) ?_,hE0.fr b hb hn]
       intro i m' hi hw' hbb
       cases e0:μ i with
       | some m0 =>
        have:=hE0.mu i m0 e0
        rw [hi] at this; cases this
        exact hn i m' e0 (hE0.wrm i m' e0 hw') hbb
       | none =>
        rcases hE0.newb i m' e0 hi with h | ⟨j',mj,a1,a2,a3⟩
        · omega
        · exact hn j' mj a1 a3 (a2.trans hbb)
     · intro i m' hi hw'
       exact hE0.wrm i m' hi (hE1.wrm i m' (hE0.mu i m' hi) hw')
     · intro i m' h0 h1
       cases e1:μ1 i with
       | some m1 =>
        have:=hE1.mu i m1 e1
        rw [h1] at this; cases this
        exact hE0.newb i m' h0 e1
       | none =>
        rcases hE1.newb i m' e1 h1 with h | ⟨j',mj,a1,a2,a3⟩
        · exact .inl (Nat.le_trans hE0.size h)
        · cases e0:μ j' with
          | some m0 =>
           have:=hE0.mu j' m0 e0
           rw [a1] at this; cases this
           exact .inr ⟨j',mj,e0,a2,hE0.wrm j' mj e0 a3⟩
          | none =>
           rcases hE0.newb j' mj e0 a1 with h | ⟨q,mq,b1,b2,b3⟩
           · exact .inl qO
           · exact .inr ⟨q,mq,b1,b2.trans a2,b3⟩
    have hfr1:Z1Y (μ1.upd (256*s.c) ⟨l,0,none⟩) (s.c+1):=by
     intro i hi
     cases e1:(μ1.upd (256*s.c) ⟨l,0,none⟩) i with
     | none=>rfl
     | some m1 =>
      rcases hE01.new i (hfr i qO) (by rw [e1]; simp) with (h | h) | ⟨_,h⟩ <;> omega
    generalize hev:a.eval f=fv' at hfv'
    cases hfv' with
    | @fnc _ avs avs' bs bs' z1 z2 z3 z4 =>
     have hle:=hE01.mu
     have hyv:VR (μ1.upd (256*s.c) ⟨l,0,none⟩) (.func (.yield (256*s.c)) #[] #[]) (.func (.yield l) #[] #[]):=VR.yield (Mu.upd_self _ _ _)
     have hargs:VRs (μ1.upd (256*s.c) ⟨l,0,none⟩) (first.toList++[.func (.yield (256*s.c)) #[] #[]]++cap.toList) (avs'.toList++[.func (.yield l) #[] #[]]++bs'.toList):=by
      refine VRs.append (VRs.append ?_ (VRs.cons hyv (VRs.nil _))) ?_
      · exact ⟨by simpa using z1,fun k' u u' hu hu'=>(z3 k' u u' (by simpa using hu) (by simpa using hu')).mono hle⟩
      · exact ⟨by simpa using z2,fun k' u u' hu hu'=>(z4 k' u u' (by simpa using hu) (by simpa using hu')).mono hle⟩
     have hC:=hcall _ w1 _ hargs hE1.rel hfr1
     have hres:=Z2b (P:=P) (w:=w1) (c:=rangeCall f l) (f:=f) rfl (ty:=0) hev
     refine ⟨l,mark,w1,_,w1,g,avs'++(rangeCall f l).args.map a.eval++bs',w1,he,hres,fun _ _=>trivial, ?_,fun hh=>by simp [wd,Fence.wide] at hh, ?_⟩
     · simp only [invoke]; exact hcf _ _
     · have harr:(avs'++(rangeCall f l).args.map a.eval++bs')=(avs'.toList++[Value.func (.yield l) #[] #[]]++bs'.toList).toArray:=by
        have hmap:(rangeCall f l).args.map a.eval = #[Value.func (.yield l) #[] #[]]:=by simp [rangeCall,Act.eval]
        rw [hmap]
        apply Array.ext'; simp
       rw [harr]
       refine (Zdg hC).mono ?_
       rintro en w3 ⟨z,z',μ2,hz1,rfl,hz3,hE2⟩
       split at h
       · rename_i st2 hg2
         cases hbusy:decide (st2.state=LoopState.busy) with
         | true=>rw [hbusy] at h; cases h
         | false =>
          rw [hbusy] at h
          simp only [cond_false,Option.bind_eq_some_iff] at h
          obtain ⟨ex,hex,h⟩:=h
          cases h
          have hm2:μ2 (256*s.c)=some ⟨l,0,none⟩:=hE2.mu _ _ (Mu.upd_self _ _ _)
          have hb2:=hE2.rel.blk _ _ hm2
          rw [hg2] at hb2
          obtain ⟨lp,hlp,hL2⟩:=hb2
          have hnb:¬ (lp.state == LoopState.busy)=true:=by
           rw [hL2.state]
           intro hh
           have:=of_decide_eq_false hbusy
           exact this (by simpa using hh)
          have hendl:(Instr.endLoop l).run P w3 = .ok lp.pending { w3 with heap:=w3.heap.setIfInBounds l (.loop { lp with state:=.exhausted }) }:=by
           simp only [Instr.endLoop,Sem.run_bind,Z4G hlp,Result.andThen_ok]
           rw [if_neg hnb]
           simp only [Sem.run_pure,Sem.run_bind,Result.andThen_ok,Z64 hlp]
          have hE3:Ext μ2 r.h r.c w3 (fun _=>False) μ2 (HeapC.del r.h (256*s.c)) r.c { w3 with heap:=w3.heap.setIfInBounds l (.loop { lp with state:=.exhausted }) }:=by
           refine Ext.del hE2.rel hm2 (by rw [hg2]; rfl) rfl rfl rfl (by simp) (fun b hb=>?_)
           simp only
           rw [Array.getElem?_setIfInBounds_ne (Ne.symm hb)]
          have hEall:Ext μ s.h s.c w (fun _=>False) μ2 (HeapC.del r.h (256*s.c)) r.c { w3 with heap:=w3.heap.setIfInBounds l (.loop { lp with state:=.exhausted }) }:=by
           have h23:=hE2.trans0 hE3
           have hcc:=h23.cle
           refine { mu:=fun i m h=>h23.mu i m (hE01.mu i m h),new:=?_,cle:=by omega,rel:=h23.rel,af:=?_,os:=h23.os.trans hE01.os,tape:=h23.tape.trans hE01.tape,output:=h23.output.trans hE01.output,size:=Nat.le_trans hE01.size h23.size,fr:=?_,wrm:=fun i m' hi hw'=>hE01.wrm i m' hi (h23.wrm i m' (hE01.mu i m' hi) hw'),newb:=?_,dd:=fun i m' hi h0=>h23.dd i m' (hE01.mu i m' hi) (hE01.dd i m' hi h0) }
           · intro i h0 h1
             cases e1:(μ1.upd (256*s.c) ⟨l,0,none⟩) i with
             | none =>
              rcases h23.new i e1 h1 with h | ⟨h,h'⟩
              · exact h.elim
              · exact .inr ⟨by omega,h'⟩
             | some m1 =>
              rcases hE01.new i h0 (by rw [e1]; simp) with (h | h) | ⟨h,h'⟩
              · exact .inr ⟨by omega,by omega⟩
              · exact .inr ⟨by omega,by omega⟩
              · exact .inr ⟨h,by omega⟩
           · intro i h0 h1 _
             have hno:(μ1.upd (256*s.c) ⟨l,0,none⟩) i=none:=by
              cases e1:(μ1.upd (256*s.c) ⟨l,0,none⟩) i with
              | none=>rfl
              | some m1=>rcases hE01.new i h0 (by rw [e1]; simp) with (h | h) | ⟨h,h'⟩ <;> omega
             rw [h23.af i hno qO (fun h=>h),hE01.af i h0 h1 (fun h=>by rcases h with h | h <;> omega)]
           · intro b hb hn
             rw [h23.fr b (Nat.lt_of_lt_of_le hb hE01.size) ?_,hE01.fr b hb hn]
             intro i m' hi hw' hbb
             cases e0:μ i with
             | some m0 =>
              have:=hE01.mu i m0 e0
              rw [hi] at this; cases this
              exact hn i m' e0 (hE01.wrm i m' e0 hw') hbb
             | none =>
              rcases hE01.newb i m' e0 hi with h | ⟨j',mj,a1,a2,a3⟩
              · omega
              · exact hn j' mj a1 a3 (a2.trans hbb)
           · intro i m' h0 h1
             cases e1:(μ1.upd (256*s.c) ⟨l,0,none⟩) i with
             | some m1 =>
              have:=h23.mu i m1 e1
              rw [h1] at this; cases this
              exact hE01.newb i m' h0 e1
             | none =>
              rcases h23.newb i m' e1 h1 with h | ⟨j',mj,a1,a2,a3⟩
              · exact .inl (Nat.le_trans hE01.size h)
              · cases e0:μ j' with
                | some m0 =>
                 have:=hE01.mu j' m0 e0
                 rw [a1] at this; cases this
                 exact .inr ⟨j',mj,e0,a2,hE01.wrm j' mj e0 a3⟩
                | none =>
                 rcases hE01.newb j' mj e0 a1 with h | ⟨q,mq,b1,b2,b3⟩
                 · exact .inl qO
                 · exact .inr ⟨q,mq,b1,b2.trans a2,b3⟩
          have hdf2:DfR μ2 (match s.rd with | none=>hd.2::s.df | some _=>s.df) (mark++a.defers):=by
           have hle2:μ.le μ2:=fun i m' h'=>hEall.mu i m' h'
           have hmm:μ2 hd.2=some m:=hE2.mu _ _ (Mu.le_upd hμ1 _ _ hm)
           cases hrd':s.rd with
           | none =>
            obtain ⟨d,rfl,hd'⟩:=hmark.1 hrd'
            exact .cons hmm hd' (hdf.mono hle2)
           | some l' =>
            have hmk:=hmark.2 l' hrd'
            subst hmk
            exact hdf.mono hle2
          have hq:=hQ { a with defers:=mark++a.defers } μ2 _ (ht.mono hEall.mu) hdf2 hEall
          refine ⟨lp.pending,_,hendl, ?_⟩
          revert hq
          generalize ({ w3 with heap:=w3.heap.setIfInBounds l (.loop { lp with state:=.exhausted }) }:World)=w4
          intro hq
          rw [hL2.pending]
          unfold exOf at hex
          split at hex
          · rename_i hp; cases hex; rw [hp]; exact hq
          · rename_i hp; cases hex; rw [hp]; exact wpIn_ret hq
          · rename_i id' hp; cases hex; rw [hp]; exact wpIn_exit hq
          · cases hex
       · cases h
  · cases h
 | exit id =>
  intro s s' e h μ w a ro n Q ht hR hfr hrd hdf hQ
  simp only [Z28,Option.some.injEq,Prod.mk.injEq] at h
  obtain ⟨rfl,rfl⟩:=h
  exact wpIn_exit (hQ a μ w ht hdf (Ext.refl hR))
 | ret =>
  intro s s' e h μ w a ro n Q ht hR hfr hrd hdf hQ
  simp only [Z28,Option.some.injEq,Prod.mk.injEq] at h
  obtain ⟨rfl,rfl⟩:=h
  exact wpIn_ret (hQ a μ w ht hdf (Ext.refl hR))
 | bad c =>
  intro s s' e h
  simp [Z28] at h
end Go.Ab

namespace Go.Ab
open Go
variable {H:Type} [HeapC H] {P:Program} {μ:Mu} {A:H} {w:World}
theorem Z4B.step {bk:FuncId->Option AFun} {o:Orc H} {k:Nat} (hO:OS P o) (hL:Z4B P o k) (hmix:P.follows .mixedOrders=true):Z4B P (Z1D P bk o) (k+1):=by
 intro j lin fr b nt rd vs A c df r e μ w a ro n Q ht hR hfr hrd hdf hQ
 simp only [Z1D,Option.bind_eq_some_iff] at e
 obtain ⟨⟨ex,s1⟩,h1,vs',hvs',e⟩:=e
 have k1:=Z5K h1
 refine Z8T hO hL hmix h1 ht hR hfr hrd hdf fun a1 μ1 w1 ht1 hdf1 hE1=>?_
 have hdrop:=Z4z (c:=s1.c) ht1 fr s1.h hE1.rel
 have hE2:=hE1.trans0 hdrop
 have ht2:=ht1.sub (Z4a hvs')
 cases ex with
 | normal =>
  exact hL _ _ _ _ _ _ _ _ _ _ _ e μ1 w1 a1 ro n Q ht2 hE2.rel (hE2.fresh hfr (fun _ h=>h.elim)) (hrd.mono hE1.mu) hdf1 (fun a2 μ2 w2 h3 h4 h5=>hQ a2 μ2 w2 h3 h4 (hE2.trans0 h5))
 | exit id=>cases e; exact hQ a1 μ1 w1 ht2 hdf1 hE2
 | ret=>cases e; exact hQ a1 μ1 w1 ht2 hdf1 hE2
theorem Z7w {f:FuncId} {fn:Func} (hf:P.funcs[f]? = some fn) (hn:(fn.name == "runtime.NumGoroutine")=false) {c:Code} (hb:fn.body=some c) (avs:Array Value) (w:World):(callFunc f avs).run P w = .ok (.enter f avs) w:=by
 have hp:(program:Sem Program).run P w = .ok P w:=rfl
 simp only [callFunc,Sem.run_bind,hp,Result.andThen_ok,hf,hn,hb]
 rfl
theorem Z9r:∀ (args:List Value) (k t:Nat) (v:Value),Z0l (List.range' k args.length) args t=some v->k<=t/\args[t-k]? = some v
 | [],k,t,v,h=>by simp [Z0l] at h
 | x::xs,k,t,v,h=>by
  simp only [List.length_cons,List.range'_succ,Z0l] at h
  cases hb:Nat.beq t k with
  | true =>
   rw [hb] at h
   have:=Nat.eq_of_beq_eq_true hb
   subst this
   exact ⟨Nat.le_refl _,by simpa using h⟩
  | false =>
   rw [hb] at h
   obtain ⟨h1,h2⟩:=Z9r xs (k+1) t v h
   refine ⟨by omega, ?_⟩
   have:t-k=(t-(k+1))+1:=by omega
   rw [this]; simpa using h2
theorem Zlq {args args':List Value} (h:VRs μ args args') {nt:Nat} (hl:args.length<=nt):TmR μ (Z0l (List.range args.length) args) nt (args'.toArray++Array.replicate (nt-args'.toArray.size) undef):=by
 have hlen:=h.1
 refine ⟨by simp; omega,fun t v e=>?_⟩
 rw [List.range_eq_range'] at e
 obtain ⟨_,h2⟩:=Z9r args 0 t v e
 simp only [Nat.sub_zero] at h2
 obtain ⟨y,h3,h4⟩:=h.get h2
 have hlt:t<args'.length:=(List.getElem?_eq_some_iff.1 h3).1
 refine ⟨y, ?_,h4⟩
 rw [Array.getElem?_append_left (by simpa using hlt)]
 simpa using h3
theorem Z7K {b:Nat} (h:w.heap[b]? = some (.deferred (some []))):(Instr.takeDeferred b).run P w = .ok [] { w with heap:=w.heap.setIfInBounds b (.deferred none) }:=by
 simp [Instr.takeDeferred,getObj,setObj,Sem.run,h,Sem.run_bind]
theorem Z87 {c:Nat} {fn:Func} {tmps:Array Value} {Rq:Ending->World->Prop} {n:Nat}:∀ (df:List Nat) (ds:List Deferred) (A:H) (w:World) (A':H),DfR μ df ds->R μ A w->Z09 A df=some A' →
 (∀ w',Ext μ A c w (fun _=>False) μ A' c w'->LeavesIn Fence.wide n P fn tmps Rq [] .returning w')->LeavesInM Fence.wide n P fn tmps Rq ds .returning w
 | _,_,A,w,A',.nil,hR,e,h=>by
  simp only [Z09,Option.some.injEq] at e
  subst e
  exact h w (Ext.refl hR)
 | _,_,A,w,A',.cons (i:=i) (m:=m) (ds:=ds) (es:=es) hm ht hs,hR,e,h=>by
  simp only [Z09] at e
  split at e
  · rename_i hg
    have hb:=hR.blk i m hm
    rw [hg] at hb
    have hE:Ext μ A c w (fun _=>False) μ (HeapC.del A i) c { w with heap:=w.heap.setIfInBounds m.b (.deferred none) } :=
     Ext.del hR hm (by rw [hg]; rfl) rfl rfl rfl (by simp) (fun b hbb=>by simp only; rw [Array.getElem?_setIfInBounds_ne (Ne.symm hbb)])
    refine ⟨by simp,.inl ⟨m.b,_,ht,Z7K hb, ?_⟩⟩
    exact Z87 ds es _ _ A' hs hE.rel e (fun w' hE'=>h w' (hE.trans0 hE'))
  · cases e
theorem Zic (hR:R μ A w) {t:TypeId} {p p' v:Value} (e:Zbl P A t p=some v) (hp:VR μ p p'):∃ a v',(asAddr p':Sem Addr).run P w = .ok a w/\(loadVar t a).run P w = .ok v' w/\VR μ v v':=by
 obtain ⟨v',h1,h2⟩:=ZbY (P:=P) hR e hp
 have:∃ i o,p = .pointer (some ⟨i,o,none⟩):=by
  simp only [Zbl,Option.bind_eq_some_iff] at e
  obtain ⟨b,hb,e⟩:=e
  cases b with
  | true =>
   simp only [cond_true,Option.bind_eq_some_iff,ldN] at e
   obtain ⟨n,hn,⟨i,o⟩,ha,_⟩:=e
   exact ⟨i,o,Z2q ha⟩
  | false =>
   simp only [cond_false,ld1,Option.bind_eq_some_iff] at e
   obtain ⟨⟨i,o⟩,ha,_⟩:=e
   exact ⟨i,o,Z2q ha⟩
 obtain ⟨i,o,rfl⟩:=this
 obtain ⟨m,hm,rfl⟩:=hp.ptr_inv
 refine ⟨⟨m.b,m.s+o,none⟩,v', ?_, ?_,h2⟩
 · simp [asAddr]
 · simpa [Instr.loadAt,Instr.sureAddr,Sem.run_bind] using h1
theorem Z7u {f:ResultVar->Sem Value}:∀ {l:List ResultVar} {vs:List Value},l.length=vs.length->(∀ (k:Nat) (x:ResultVar) (y:Value),l[k]? = some x->vs[k]? = some y->(f x).run P w = .ok y w) →
 (l.mapM f).run P w = .ok vs w
 | [],[],_,_=>by simp
 | [],y::ys,h,_=>by simp at h
 | x::xs,[],h,_=>by simp at h
 | x::xs,y::ys,h,hh=>by
  rw [List.mapM_cons]
  simp only [Sem.run_bind,hh 0 x y (by simp) (by simp),Result.andThen_ok]
  rw [Z7u (l:=xs) (vs:=ys) (by simpa using h) (fun k a b ha hb=>hh (k+1) a b (by simpa using ha) (by simpa using hb))]
  simp
theorem Z8n {tm:Tm} {nt:Nat} {ts:Array Value} (ht:TmR μ tm nt ts) (hR:R μ A w):∀ {l:List ResultVar} {vs:List Value},Z5P P tm A l=some vs →
 ∃ vs',l.length=vs'.length/\VRs μ vs vs' /\ ∀ (k:Nat) (x:ResultVar) (y:Value),l[k]? = some x->vs'[k]? = some y →
  ((match x with
   | .tmp t=>pure (ts.getD t undef)
   | .cell a t=>do loadVar t (← asAddr (ts.getD a undef))):Sem Value).run P w = .ok y w
 | [],vs,e=>by
  simp only [Z5P,Option.some.injEq] at e
  subst e
  exact ⟨[],rfl,VRs.nil μ,by simp⟩
 | .tmp t::l,vs,e=>by
  simp only [Z5P,Option.bind_eq_some_iff] at e
  obtain ⟨v,hv,us,hus,e⟩:=e
  cases e
  obtain ⟨vs',h1,h2,h3⟩:=Z8n ht hR hus
  obtain ⟨v',h4,h5⟩:=ht.val t v hv
  refine ⟨v'::vs',by simp [h1],VRs.cons h5 h2,fun k x y hx hy=>?_⟩
  cases k with
  | zero =>
   simp at hx hy
   subst hx; subst hy
   simp [Array.getD_eq_getD_getElem?,h4]
  | succ k=>exact h3 k x y (by simpa using hx) (by simpa using hy)
 | .cell a t::l,vs,e=>by
  simp only [Z5P,Option.bind_eq_some_iff] at e
  obtain ⟨p,hp,v,hv,us,hus,e⟩:=e
  cases e
  obtain ⟨vs',h1,h2,h3⟩:=Z8n ht hR hus
  obtain ⟨p',h4,h5⟩:=ht.val a p hp
  obtain ⟨ad,v',h6,h7,h8⟩:=Zic (P:=P) hR hv h5
  refine ⟨v'::vs',by simp [h1],VRs.cons h8 h2,fun k x y hx hy=>?_⟩
  cases k with
  | zero =>
   simp at hx hy
   subst hx; subst hy
   have hg:ts.getD a undef=p':=by simp [Array.getD_eq_getD_getElem?,h4]
   simp only [hg,Sem.run_bind,h6,Result.andThen_ok,h7]
  | succ k=>exact h3 k x y (by simpa using hx) (by simpa using hy)
theorem Zcf {fn:Func} {tm:Tm} {nt:Nat} {ts:Array Value} (ht:TmR μ tm nt ts) (hR:R μ A w) {vs:List Value} (e:Z5P P tm A fn.results.toList=some vs) :
 ∃ v',(results fn ts).run P w = .ok v' w/\VR μ (tup vs) v':=by
 obtain ⟨vs',h1,h2,h3⟩:=Z8n ht hR e
 have hm:=Z7u (P:=P) (w:=w) h1 h3
 have hrun:(results fn ts).run P w = .ok (if h:vs'.toArray.size=1 then vs'.toArray[0] else .tuple vs'.toArray) w:=by
  unfold results
  rw [Sem.run_bind,Array.mapM_eq_mapM_toList]
  simp only [map_eq_pure_bind,Sem.run_bind]
  erw [hm]
  simp
 refine ⟨_,hrun, ?_⟩
 have hlen:=h2.1
 cases vs with
 | nil =>
  have:=h2.nil_left; subst this
  simp only [List.toArray,tup]
  exact VR.tuple_iff.2 (VRs.nil μ)
 | cons x xs =>
  obtain ⟨y,ys,rfl,hxy,hxs⟩:=h2.left
  cases xs with
  | nil =>
   have:=hxs.nil_left; subst this
   simpa [tup] using hxy
  | cons x2 xs =>
   obtain ⟨y2,ys',rfl,_,_⟩:=hxs.left
   have:¬ ((y::y2::ys').toArray.size=1):=by simp
   rw [dif_neg this]
   simp only [tup]
   exact VR.tuple_iff.2 (by simpa using h2)
theorem OS.step {bk:FuncId->Option AFun} (hbk:Z6M P bk) {o:Orc H} {k:Nat} (hO:OS P o) (hL:Z4B P o k) (hmix:P.follows .mixedOrders=true):OS P (Z1D P bk o) where
 fn:=by
  intro f args A c df r e
  simp only [Z1D,Option.bind_eq_some_iff] at e
  obtain ⟨af,haf,e⟩:=e
  obtain ⟨fn,cd,hf,hb,hn,hs,hnt,hres⟩:=hbk _ _ haf
  refine ⟨fun avs w=>Z7w hf hn hb avs w,fun μ w args' hargs hR hfresh=>?_⟩
  obtain ⟨hlen,e1⟩:=Z05 e
  clear e
  simp only [Option.bind_eq_some_iff] at e1
  obtain ⟨⟨ex,s1⟩,h1,e2⟩:=e1
  refine callsIn_wide (n:=0).1 (callsIn_of_wp_marks hf hb trivial ?_)
  rw [← hs]
  have ht0:=Zlq hargs (Nat.le_of_ble_eq_true hlen)
  rw [hnt] at ht0
  have:=Z8T (ro:=none) (n:=0) (Q:=bodyPostM Fence.wide 0 P fn (Z5Q μ A c w r)) hO hL hmix h1 (w:=w) (a:={ tmps:=args'.toArray++Array.replicate (fn.ntmps-args'.toArray.size) undef,defers:=[] })
   (by rw [hnt]; exact ht0) hR hfresh trivial .nil ?_
  · exact this
  intro a1 μ1 w1 ht1 hdf1 hE1
  have hmain:∀ (h1':H) (vs:List Value),Z09 s1.h s1.df=some h1'->Z5P P s1.tm h1' af.res=some vs->r = { e:=.ret,vs:=[tup vs],h:=Z1C s1.tm h1' af.fr,c:=s1.c,df:=[] } →
   LeavesInM Fence.wide 0 P fn a1.tmps (Z5Q μ A c w r) a1.defers .returning w1:=by
   intro h1' vs htk hrs hr
   refine Z87 (c:=s1.c) s1.df a1.defers s1.h w1 h1' hdf1 hE1.rel htk fun w2 hE2=>?_
   rw [hres] at hrs
   obtain ⟨v',hv1,hv2⟩:=Zcf (P:=P) ht1 hE2.rel hrs
   refine ⟨v',hv1,tup vs,v',μ1,by rw [hr],rfl,hv2, ?_⟩
   rw [hr]
   have hdrop:=Z4z (c:=s1.c) ht1 af.fr h1' hE2.rel
   exact (hE1.trans0 hE2).trans0 hdrop
  cases ex with
  | exit id=>cases e2
  | normal =>
   simp only [Option.bind_eq_some_iff] at e2
   obtain ⟨h1',htk,vs,hrs,hr⟩:=e2
   cases hr
   exact hmain h1' vs htk hrs rfl
  | ret =>
   simp only [Option.bind_eq_some_iff] at e2
   obtain ⟨h1',htk,vs,hrs,hr⟩:=e2
   cases hr
   exact hmain h1' vs htk hrs rfl
 rnd:=by
  intro nt lin fr params l x y vs A c df r e μ w ts m ro n f hm ht hR hfr
  simp only [Z1D,Option.bind_eq_some_iff] at e
  obtain ⟨⟨ex,s1⟩,h1,e1⟩:=e
  cases ex with
  | exit id=>cases e1
  | ret=>cases e1
  | normal =>
   simp only [Option.bind_eq_some_iff] at e1
   obtain ⟨hb1,hbeg,⟨ex2,s2⟩,h2,hs2,hset,e2⟩:=e1
   obtain ⟨hemp,e3⟩:=Z05 e2
   clear e2
   have k1:=Z5K h1
   have k2:=Z5K h2
   refine roundIn_of_wpIn trivial ?_
   have hrd:RdR μ (some l) (some m.b):=⟨m,hm,rfl⟩
   refine Z8T (ro:=some m.b) hO hL hmix h1 (a:={ tmps:=ts,defers:=[] }) ht hR hfr hrd .nil fun a1 μ1 w1 ht1 hdf1 hE1=>?_
   unfold Z27 at hbeg
   split at hbeg
   · rename_i st hg
     obtain ⟨hready,hbeg'⟩:=Z05 hbeg
     cases hbeg'
     simp only [decide_eq_true_eq] at hready
     have hm1:=hE1.mu l m hm
     have hbk:=hE1.rel.blk l m hm1
     rw [hg] at hbk
     obtain ⟨lp,hlp,hL1⟩:=hbk
     have hbr:(Instr.beginRound m.b).run P w1 = .ok () { w1 with heap:=w1.heap.setIfInBounds m.b (.loop { lp with state:=.busy }) }:=by
      simp only [Instr.beginRound,Sem.run_bind,Z4G hlp,Result.andThen_ok,Z64 hlp]
      rw [hL1.state,hready]
      simp
     refine ⟨_,hbr, ?_⟩
     have hLb:LoopR μ1 { st with state:=.busy } { lp with state:=.busy }:=⟨rfl,hL1.pending,hL1.params,hL1.assign,hL1.body,hL1.size,hL1.vals,hL1.dfr⟩
     have hE2:=Ext.setLoop (c:=s1.c) (own:=fun _=>False) hE1.rel hm1 hg hLb
     have hE12:=hE1.trans0 hE2
     refine Z8T (ro:=some m.b) hO hL hmix h2 (by rw [k1.1]; exact ht1) hE2.rel (hE12.fresh hfr (fun _ h=>h.elim)) (by rw [k1.2]; exact hrd.mono hE12.mu) hdf1 fun a2 μ2 w2 ht2 hdf2 hE3=>?_
     have hE123:=hE12.trans0 hE3
     have hdrop:=Z4z (c:=s2.c) ht2 fr s2.h hE3.rel
     have hE4:=hE123.trans0 hdrop
     unfold Z0t at hset
     split at hset
     · rename_i st2 hg2
       cases hset
       have hm2:=hE123.mu l m hm
       have hbk2:=hdrop.rel.blk l m hm2
       rw [hg2] at hbk2
       obtain ⟨lp2,hlp2,hL2⟩:=hbk2
       have hend:∀ jump:Option Code,jump=Z3P ex2 -> ∃ v w',(Instr.endRound m.b jump).run P w2 = .ok v w'/\Z5Q μ A c w r (.returned v) w':=by
        intro jump hj
        subst hj
        cases e3
        refine ⟨.bool (Z3P ex2).isNone,{ w2 with heap:=w2.heap.setIfInBounds m.b (.loop { lp2 with state:=if (Z3P ex2).isNone then .ready else .done,pending:=Z3P ex2 }) }, ?_, ?_⟩
        · simp only [Instr.endRound,Sem.run_bind,Z4G hlp2,Result.andThen_ok,Z64 hlp2,Sem.run_pure]
        · have hLe:LoopR μ2 { st2 with state:=cond (Z3P ex2).isNone .ready .done,pending:=Z3P ex2 } { lp2 with state:=if (Z3P ex2).isNone then .ready else .done,pending:=Z3P ex2 } :=
           ⟨by cases (Z3P ex2).isNone <;> rfl,rfl,hL2.params,hL2.assign,hL2.body,hL2.size,hL2.vals,hL2.dfr⟩
          have hE5:=Ext.setLoop (c:=s2.c) (own:=fun _=>False) hdrop.rel hm2 hg2 hLe
          exact ⟨_,_,μ2,rfl,rfl,.bool _,hE4.trans0 hE5⟩
       cases ex2 with
       | normal=>exact hend none rfl
       | ret=>exact hend (some .ret) rfl
       | exit id=>exact hend (some (.exit id)) rfl
     · cases hset
   · cases hbeg
theorem ZbF {bk:FuncId->Option AFun} (hbk:Z6M P bk) (hmix:P.follows .mixedOrders=true):∀ n,OS (H:=H) P (orc P bk n)/\Z4B (H:=H) P (orc P bk n) n
 | 0=>⟨⟨(fun _ _ _ _ _ _ e=>by cases e),(fun _ _ _ _ _ _ _ _ _ _ _ _ e=>by cases e)⟩,fun _ _ _ _ _ _ _ _ _ _ _ e=>by cases e⟩
 | n+1=>⟨OS.step hbk (ZbF hbk hmix n).1 (ZbF hbk hmix n).2 hmix,Z4B.step (ZbF hbk hmix n).1 (ZbF hbk hmix n).2 hmix⟩
theorem ZgL {bk:FuncId->Option AFun} (hbk:Z6M P bk) (hmix:P.follows .mixedOrders=true) {n:Nat} {f:FuncId} {args args':List Value} {A:H} {c:Nat} {r:Rt H} (e:orc P bk n (.fn f) args A c []=some r)
 (hv:VRs μ args args') (hR:R μ A w) (hfr:Z1Y μ c):Calls P f args'.toArray w (Z5Q μ A c w r) :=
 ((ZbF hbk hmix n).1.fn f args A c [] r e).2 μ w args' hv hR hfr
end Go.Ab

namespace Go.Ab
open Go
variable {H:Type} [HeapC H] {P:Program}
def Tm.le (tm tm':Tm):Prop:=∀ t v,tm t=some v->tm' t=some v
theorem Z0h {tm tm':Tm} (h:tm.le tm') {x:Operand} {v:Value} (e:Z0g tm x=some v):Z0g tm' x=some v:=by
 cases x with
 | tmp t=>exact h t v e
 | _=>exact e
theorem Z6D {tm tm':Tm} (h:tm.le tm'):∀ {xs:List Operand} {vs:List Value},Z1B tm xs=some vs->Z1B tm' xs=some vs
 | [],vs,e=>e
 | x::xs,vs,e=>by
  simp only [Z1B,Option.bind_eq_some_iff] at e ⊢
  obtain ⟨v,hv,ws,hw,e⟩:=e
  exact ⟨v,Z0h h hv,ws,Z6D h hw,e⟩
theorem Z8V {tm tm':Tm} (h:tm.le tm'):∀ {xs:List (Nat × Operand)} {vs:List (Nat × Value)},evalPs tm xs=some vs->evalPs tm' xs=some vs
 | [],vs,e=>e
 | (i,x)::xs,vs,e=>by
  simp only [evalPs,Option.bind_eq_some_iff] at e ⊢
  obtain ⟨v,hv,ws,hw,e⟩:=e
  exact ⟨v,Z0h h hv,ws,Z8V h hw,e⟩
theorem Zcm {tm tm':Tm} (h:tm.le tm') {x:Option Operand} {v:Option Value} (e:Zcn tm x=some v):Zcn tm' x=some v:=by
 cases x with
 | none=>exact e
 | some x =>
  simp only [Zcn,Option.bind_eq_some_iff] at e ⊢
  obtain ⟨v,hv,e⟩:=e
  exact ⟨v,Z0h h hv,e⟩
theorem Z62 {tm tm':Tm} (h:tm.le tm'):∀ {l:List Nat} {vs:List Value},vals tm l=some vs->vals tm' l=some vs
 | [],vs,e=>e
 | t::l,vs,e=>by
  simp only [Ab.vals,Option.bind_eq_some_iff] at e ⊢
  obtain ⟨v,hv,ws,hw,e⟩:=e
  exact ⟨v,h t v hv,ws,Z62 h hw,e⟩
theorem ZgH {tm tm':Tm} (h:tm.le tm') (d:Option Tmp) (x:Value):(Z6O tm d x).le (Z6O tm' d x):=by
 intro t v e
 cases d with
 | none=>exact h t v e
 | some d =>
  simp only [Z6O] at e ⊢
  cases hb:Nat.beq t d with
  | true=>rw [hb] at e; exact e
  | false=>rw [hb] at e; exact h t v e
theorem ZnB {o:Orc H} {id:Nat} {tm tm':Tm} {h:H} {c:Nat} {op:Op} {r:Value × H × Nat} (hl:tm.le tm') (e:Z0m P o id tm h c op=some r):Z0m P o id tm' h c op=some r:=by
 cases op with
 | move x =>
  simp only [Z0m] at e ⊢
  cases hx:Z0g tm x with
  | none=>rw [hx] at e; cases e
  | some v=>rw [Z0h hl hx]; rw [hx] at e; exact e
 | assign x =>
  simp only [Z0m] at e ⊢
  cases hx:Z0g tm x with
  | none=>rw [hx] at e; cases e
  | some v=>rw [Z0h hl hx]; rw [hx] at e; exact e
 | pick k a b =>
  simp only [Z0m,Option.bind_eq_some_iff] at e ⊢
  obtain ⟨x,hx,y,hy,z,hz,e⟩:=e
  exact ⟨x,Z0h hl hx,y,Z0h hl hy,z,Z0h hl hz,e⟩
 | alloc t=>exact e
 | box t x =>
  simp only [Z0m,Option.bind_eq_some_iff] at e ⊢
  obtain ⟨x,hx,e⟩:=e
  exact ⟨x,Z0h hl hx,e⟩
 | build t ps =>
  simp only [Z0m,Option.bind_eq_some_iff] at e ⊢
  obtain ⟨x,hx,e⟩:=e
  exact ⟨x,Z8V hl hx,e⟩
 | buildSlice t len ps =>
  simp only [Z0m,Option.bind_eq_some_iff] at e ⊢
  obtain ⟨x,hx,e⟩:=e
  exact ⟨x,Z8V hl hx,e⟩
 | makeFunc fn a b =>
  cases fn with
  | func g =>
   simp only [Z0m,Option.bind_eq_some_iff] at e ⊢
   obtain ⟨x,hx,y,hy,e⟩:=e
   exact ⟨x,Z6D hl hx,y,Z6D hl hy,e⟩
  | _=>exact e
 | makeMap t r =>
  cases r with
  | none=>exact e
  | some x =>
   simp only [Z0m,Option.bind_eq_some_iff] at e ⊢
   obtain ⟨ke,hke,x,hx,e⟩:=e
   exact ⟨ke,hke,x,Z0h hl hx,e⟩
 | slice t x lo hi mx =>
  simp only [Z0m,Option.bind_eq_some_iff] at e ⊢
  obtain ⟨x,hx,l,hlo,hh,hhi,m,hm,e⟩:=e
  exact ⟨x,Z0h hl hx,l,Zcm hl hlo,hh,Zcm hl hhi,m,Zcm hl hm,e⟩
 | call k =>
  simp only [Z0m,Option.bind_eq_some_iff] at e ⊢
  obtain ⟨avs,ha,e⟩:=e
  refine ⟨avs,Z6D hl ha, ?_⟩
  split at e
  · rename_i f hk
    simp only [Option.bind_eq_some_iff] at e ⊢
    obtain ⟨fv,hf,e⟩:=e
    exact ⟨fv,Z0h hl hf,e⟩
  · exact e
  · exact e
 | store _ x y =>
  simp only [Z0m,Option.bind_eq_some_iff] at e ⊢
  obtain ⟨x,hx,y,hy,e⟩:=e
  exact ⟨x,Z0h hl hx,y,Z0h hl hy,e⟩
 | binOp _ _ x y _ =>
  simp only [Z0m,Option.bind_eq_some_iff] at e ⊢
  obtain ⟨x,hx,y,hy,e⟩:=e
  exact ⟨x,Z0h hl hx,y,Z0h hl hy,e⟩
 | makeSlice _ x y =>
  simp only [Z0m,Option.bind_eq_some_iff] at e ⊢
  obtain ⟨x,hx,y,hy,e⟩:=e
  exact ⟨x,Z0h hl hx,y,Z0h hl hy,e⟩
 | indexAddr _ x y =>
  simp only [Z0m,Option.bind_eq_some_iff] at e ⊢
  obtain ⟨x,hx,y,hy,e⟩:=e
  exact ⟨x,Z0h hl hx,y,Z0h hl hy,e⟩
 | index _ x y =>
  simp only [Z0m,Option.bind_eq_some_iff] at e ⊢
  obtain ⟨x,hx,y,hy,e⟩:=e
  exact ⟨x,Z0h hl hx,y,Z0h hl hy,e⟩
 | lookup _ x y _ =>
  simp only [Z0m,Option.bind_eq_some_iff] at e ⊢
  obtain ⟨x,hx,y,hy,e⟩:=e
  exact ⟨x,Z0h hl hx,y,Z0h hl hy,e⟩
 | mapUpdate _ x y z =>
  simp only [Z0m,Option.bind_eq_some_iff] at e ⊢
  obtain ⟨x,hx,y,hy,z,hz,e⟩:=e
  exact ⟨x,Z0h hl hx,y,Z0h hl hy,z,Z0h hl hz,e⟩
 | insert _ x y z =>
  simp only [Z0m,Option.bind_eq_some_iff] at e ⊢
  obtain ⟨x,hx,y,hy,z,hz,e⟩:=e
  exact ⟨x,Z0h hl hx,y,Z0h hl hy,z,Z0h hl hz,e⟩
 | convert _ _ x =>
  simp only [Z0m,Option.bind_eq_some_iff] at e ⊢
  obtain ⟨d,hd,x,hx,e⟩:=e
  exact ⟨d,hd,x,Z0h hl hx,e⟩
 | load _ x | nilCheck x | unOp _ _ x | sliceToArrayPointer _ x | makeInterface _ x | fieldAddr _ x _ | field _ x _ | extract x _ =>
  simp only [Z0m,Option.bind_eq_some_iff] at e ⊢
  obtain ⟨x,hx,e⟩:=e
  exact ⟨x,Z0h hl hx,e⟩
 | _=>exact e
theorem Z9o {ops:Array Oper} {tm tm':Tm} {oper:Oper} {b:Bool} (hl:tm.le tm') (e:Z0T ops tm oper=some b):Z0T ops tm' oper=some b:=by
 unfold Z0T at e ⊢
 split at e
 · exact e
 · simp only [Option.bind_eq_some_iff] at e ⊢
   obtain ⟨d,hd,v,hv,e⟩:=e
   exact ⟨d,hd,v,hl d v hv,e⟩
theorem Zbw {o:Orc H} {ops:Array Oper} {base i nt c:Nat} {tm tm':Tm} {h:H} {oper:Oper} {r:Value × H × Nat} (hl:tm.le tm') (e:Z0V P o ops base i nt tm h c oper=some r):Z0V P o ops base i nt tm' h c oper=some r:=by
 simp only [Z0V,Option.bind_eq_some_iff] at e ⊢
 obtain ⟨b,hb,e⟩:=e
 refine ⟨b,Z9o hl hb, ?_⟩
 obtain ⟨hg,e1⟩:=Z05 e
 rw [hg]
 cases b
 · exact e1
 · exact ZnB hl e1
theorem Z8i {o:Orc H} {ops:Array Oper} {base nt:Nat}:∀ {l:List Oper} {i:Nat} {tm tm':Tm} {h:H} {c:Nat} {r:Tm × H × Nat},tm.le tm'->Z1g P o ops base nt l i tm h c=some r →
 ∃ tm1,Z1g P o ops base nt l i tm' h c=some (tm1,r.2.1,r.2.2)/\r.1.le tm1
 | [],i,tm,tm',h,c,r,hl,e=>by
  simp only [Z1g,Option.some.injEq] at e ⊢
  subst e
  exact ⟨tm',rfl,hl⟩
 | oper::l,i,tm,tm',h,c,r,hl,e=>by
  simp only [Z1g,Option.bind_eq_some_iff] at e ⊢
  obtain ⟨q,hq,e⟩:=e
  obtain ⟨tm1,h1,h2⟩:=Z8i (ZgH hl oper.dst q.1) e
  exact ⟨tm1,⟨q,Zbw hl hq,h1⟩,h2⟩
end Go.Ab

namespace Go.Ab
open Go
variable {H:Type} [HeapC H] {P:Program}
theorem rid_le {o:Orc H} {ops:Array Oper} {base i nt c:Nat} {tm tm':Tm} {h:H} {oper:Oper} {r:Value × H × Nat} (hl:tm.le tm') (e:Z0V P o ops base i nt tm h c oper=some r):rid ops tm' oper=rid ops tm oper:=by
 obtain ⟨b,hb,_,_,he⟩:=Z1c e
 have hb':=Z9o hl hb
 simp only [rid,hb,hb']
 cases b with
 | false=>rfl
 | true =>
  rcases he with ⟨_,he⟩ | ⟨h0,_⟩
  · simp only
    cases hop:oper.op <;> rw [hop] at he <;> try rfl
    case load t a =>
     simp only [Z0m,Option.bind_eq_some_iff] at he
     obtain ⟨v,hv,_⟩:=he
     simp only [Z8m,hv,Z0h hl hv]
    case lookup t m k ok =>
     simp only [Z0m,Option.bind_eq_some_iff] at he
     obtain ⟨v,hv,_⟩:=he
     simp only [Z8m,hv,Z0h hl hv]
    case slice t x lo hi mx =>
     simp only [Z0m,Option.bind_eq_some_iff] at he
     obtain ⟨v,hv,_⟩:=he
     simp only [Z8m,hv,Z0h hl hv]
    case call k =>
     obtain ⟨callee,args,ats⟩:=k
     cases callee with
     | builtin b =>
      cases b <;> try rfl
      simp only [Z0m,Option.bind_eq_some_iff] at he
      obtain ⟨avs,ha,_⟩:=he
      simp only [Z8m]
      cases hal:args.toList with
      | nil =>
       have:args[0]? = none:=by rw [← Array.getElem?_toList,hal]; rfl
       rw [this]; rfl
      | cons y ys =>
       rw [hal] at ha
       simp only [Z1B,Option.bind_eq_some_iff] at ha
       obtain ⟨v0,h0,_⟩:=ha
       have:args[0]? = some y:=by rw [← Array.getElem?_toList,hal]; rfl
       rw [this]
       simp only [Option.bind_some,h0,Z0h hl h0]
     | _=>rfl
  · cases h0
theorem Z9t {o:Orc H} {ops:Array Oper} {base nt:Nat}:∀ {l:List Oper} {i:Nat} {tm tm':Tm} {h:H} {c:Nat} {q:Tm × H × Nat × List (Option Nat × H)},tm.le tm'->Z18 P o ops base nt l i tm h c=some q →
 ∃ tm1,Z18 P o ops base nt l i tm' h c=some (tm1,q.2)/\q.1.le tm1
 | [],i,tm,tm',h,c,q,hl,e=>by
  simp only [Z18,Option.some.injEq] at e ⊢
  subst e
  exact ⟨tm',rfl,hl⟩
 | oper::l,i,tm,tm',h,c,q,hl,e=>by
  simp only [Z18,Option.bind_eq_some_iff] at e ⊢
  obtain ⟨r,hr,q1,hq1,e⟩:=e
  cases e
  obtain ⟨tm1,h1,h2⟩:=Z9t (ZgH hl oper.dst r.1) hq1
  refine ⟨tm1,⟨r,Zbw hl hr,_,h1, ?_⟩,h2⟩
  rw [rid_le hl hr]
theorem Zgv {o:Orc H} {ops:Array Oper} {draw:Bool} {nt:Nat} {tm tm':Tm} {h:H} {c:Nat} {r:Tm × H × Nat} (hl:tm.le tm') (e:Z5c P o ops draw nt tm h c=some r) :
 ∃ tm1,Z5c P o ops draw nt tm' h c=some (tm1,r.2)/\r.1.le tm1:=by
 cases draw with
 | false=>exact Z8i hl e
 | true =>
  obtain ⟨hreg,e1⟩:=Z05 (show cond (Z8o ops) _ none=some r from e)
  clear e
  show ∃ tm1,cond (Z8o ops) _ none=_/\_
  rw [hreg]
  simp only [cond_true]
  cases hw:(lws ops).isEmpty with
  | true=>rw [hw] at e1; exact Z8i hl e1
  | false =>
   rw [hw] at e1
   simp only [cond_false,Option.bind_eq_some_iff] at e1 ⊢
   obtain ⟨q,hq,e2⟩:=e1
   obtain ⟨hlw,e3⟩:=Z05 e2
   cases e3
   obtain ⟨tm1,h1,h2⟩:=Z9t hl hq
   exact ⟨tm1,⟨_,h1,by simp only [hlw]; rfl⟩,h2⟩
theorem Z2a {tm:Tm}:∀ {l:List Nat} {vs:List Value},vals tm l=some vs->vs.length=l.length
 | [],vs,h=>by simp only [Ab.vals,Option.some.injEq] at h; subst h; rfl
 | t::l,vs,h=>by
  simp only [Ab.vals,Option.bind_eq_some_iff] at h
  obtain ⟨x,_,ws,hw,h⟩:=h
  cases h
  simp [Z2a hw]
end Go.Ab


namespace Go.Ab
open Go
variable {H:Type} [HeapC H] {P:Program}
def Ev {α:Type} (xs:Nat->Option α) (r:α):Prop:=∃ n,∀ m,n<=m->xs m=some r
theorem Ev.const {α:Type} {x:Option α} {r:α} (h:x=some r):Ev (fun _=>x) r:=⟨0,fun _ _=>h⟩
theorem Ev.bind {α β:Type} {xs:Nat->Option α} {a:α} {fs:Nat->α->Option β} {b:β} (h:Ev xs a) (k:Ev (fun n=>fs n a) b):Ev (fun n=>(xs n).bind (fs n)) b:=by
 obtain ⟨n,hn⟩:=h
 obtain ⟨m,hm⟩:=k
 exact ⟨n+m,fun q hq=>by simp only [hn q qO,Option.bind_some]; exact hm q qO⟩
theorem Ev.bindc {α β:Type} {x:Option α} {a:α} {fs:Nat->α->Option β} {b:β} (h:x=some a) (k:Ev (fun n=>fs n a) b):Ev (fun n=>x.bind (fs n)) b:=Ev.bind (Ev.const h) k
theorem Ev.cond {α:Type} {t:Bool} {xs ys:Nat->Option α} {r:α} (h:t=true->Ev xs r) (k:t=false->Ev ys r):Ev (fun n=>cond t (xs n) (ys n)) r:=by
 cases t with
 | true=>exact h rfl
 | false=>exact k rfl
theorem Ev.congr {α:Type} {xs ys:Nat->Option α} {r:α} (e:∀ n,xs n=ys n) (h:Ev xs r):Ev ys r:=by
 obtain ⟨n,hn⟩:=h
 exact ⟨n,fun m hm=>by rw [← e]; exact hn m hm⟩
def Fam (ox:Orc H) (os:Nat->Orc H):Prop:=∀ k args h c df r,ox k args h c df=some r->Ev (fun n=>os n k args h c df) r
section
variable {ox:Orc H} {os:Nat->Orc H}
theorem Zlk (hF:Fam ox os) {h:H} {c:Nat} {fv:Value} {args:List Value} {r:Value × H × Nat} (e:Z3V ox h c fv args=some r):Ev (fun n=>Z3V (os n) h c fv args) r:=by
 cases fv with
 | func f first cap =>
  cases f with
  | func g =>
   simp only [Z3V,Option.bind_eq_some_iff] at e ⊢
   obtain ⟨q,hq,e⟩:=e
   exact Ev.bind (hF _ _ _ _ _ _ hq) (Ev.const e)
  | yield l =>
   simp only [Z3V] at e ⊢
   refine Ev.cond (fun h0=>?_) (fun h0=>by rw [h0] at e; cases e)
   rw [h0] at e
   simp only [cond_true] at e
   split at e
   · rename_i st hg
     refine Ev.cond (fun h1=>?_) (fun h1=>by rw [h1] at e; cases e)
     rw [h1] at e
     simp only [cond_true,Option.bind_eq_some_iff] at e
     obtain ⟨q,hq,e⟩:=e
     exact Ev.bind (hF _ _ _ _ _ _ hq) (Ev.const e)
   · cases e
  | _=>simp [Z3V] at e
 | _=>simp [Z3V] at e
theorem ZnC (hF:Fam ox os) {id:Nat} {tm:Tm} {h:H} {c:Nat} {op:Op} {r:Value × H × Nat} (e:Z0m P ox id tm h c op=some r):Ev (fun n=>Z0m P (os n) id tm h c op) r:=by
 cases op with
 | call k =>
  simp only [Z0m,Option.bind_eq_some_iff] at e ⊢
  obtain ⟨args,ha,e⟩:=e
  refine Ev.bindc ha ?_
  cases hk:k.callee with
  | value f =>
   rw [hk] at e
   simp only [Option.bind_eq_some_iff] at e
   obtain ⟨fv,hf,e⟩:=e
   exact Ev.bindc hf (Zlk hF e)
  | builtin b=>rw [hk] at e; exact Ev.const e
  | invoke _ _=>rw [hk] at e; cases e
 | _=>exact Ev.const e
theorem Zbx (hF:Fam ox os) {ops:Array Oper} {base i nt:Nat} {tm:Tm} {h:H} {c:Nat} {op:Oper} {r:Value × H × Nat} (e:Z0V P ox ops base i nt tm h c op=some r) :
 Ev (fun n=>Z0V P (os n) ops base i nt tm h c op) r:=by
 simp only [Z0V,Option.bind_eq_some_iff] at e ⊢
 obtain ⟨w,hw,e⟩:=e
 refine Ev.bindc hw ?_
 refine Ev.cond (fun h0=>?_) (fun h0=>by rw [h0] at e; cases e)
 rw [h0] at e
 refine Ev.cond (fun h1=>?_) (fun h1=>by rw [h1] at e; exact Ev.const e)
 rw [h1] at e
 exact ZnC hF e
theorem Z8j (hF:Fam ox os) {ops:Array Oper} {base nt:Nat}:∀ {l:List Oper} {i:Nat} {tm:Tm} {h:H} {c:Nat} {r:Tm × H × Nat},Z1g P ox ops base nt l i tm h c=some r->Ev (fun n=>Z1g P (os n) ops base nt l i tm h c) r
 | [],i,tm,h,c,r,e=>Ev.const e
 | op::l,i,tm,h,c,r,e=>by
  simp only [Z1g,Option.bind_eq_some_iff] at e ⊢
  obtain ⟨q,hq,e⟩:=e
  exact Ev.bind (Zbx hF hq) (Z8j hF e)
theorem Z9u (hF:Fam ox os) {ops:Array Oper} {base nt:Nat}:∀ {l:List Oper} {i:Nat} {tm:Tm} {h:H} {c:Nat} {r:Tm × H × Nat × List (Option Nat × H)},
 Z18 P ox ops base nt l i tm h c=some r->Ev (fun n=>Z18 P (os n) ops base nt l i tm h c) r
 | [],i,tm,h,c,r,e=>Ev.const e
 | op::l,i,tm,h,c,r,e=>by
  simp only [Z18,Option.bind_eq_some_iff] at e ⊢
  obtain ⟨q,hq,q2,hq2,e⟩:=e
  exact Ev.bind (Zbx hF hq) (Ev.bind (Z9u hF hq2) (Ev.const e))
theorem Zgw (hF:Fam ox os) {ops:Array Oper} {draw:Bool} {nt:Nat} {tm:Tm} {h:H} {c:Nat} {r:Tm × H × Nat} (e:Z5c P ox ops draw nt tm h c=some r):Ev (fun n=>Z5c P (os n) ops draw nt tm h c) r:=by
 simp only [Z5c] at e ⊢
 refine Ev.cond (fun h0=>?_) (fun h0=>by rw [h0] at e; exact Z8j hF e)
 rw [h0] at e
 refine Ev.cond (fun h1=>?_) (fun h1=>by rw [h1] at e; cases e)
 rw [h1] at e
 refine Ev.cond (fun h2=>by rw [h2] at e; exact Z8j hF e) (fun h2=>?_)
 rw [h2] at e
 simp only [cond_true,cond_false,Option.bind_eq_some_iff] at e
 obtain ⟨q,hq,e⟩:=e
 exact Ev.bind (Z9u hF hq) (Ev.const e)
theorem Z8U (hF:Fam ox os):∀ {code:ACode} {s:St H} {r:Ex × St H},Z28 P ox code s=some r->Ev (fun n=>Z28 P (os n) code s) r:=by
 intro code
 induction code with
 | region id ops d =>
  intro s r e
  simp only [Z28,Option.bind_eq_some_iff] at e ⊢
  obtain ⟨q,hq,e⟩:=e
  exact Ev.bind (Zgw hF hq) (Ev.const e)
 | seq a b iha ihb =>
  intro s r e
  simp only [Z28,Option.bind_eq_some_iff] at e ⊢
  obtain ⟨⟨e2,s2⟩,h1,e⟩:=e
  refine Ev.bind (iha h1) ?_
  cases e2 with
  | normal=>exact ihb e
  | exit id=>exact Ev.const e
  | ret=>exact Ev.const e
 | cond c a b iha ihb =>
  intro s r e
  simp only [Z28,Option.bind_eq_some_iff] at e ⊢
  obtain ⟨v,hv,e⟩:=e
  refine Ev.bindc hv ?_
  cases v with
  | bool t =>
   cases t
   · exact ihb e
   · exact iha e
  | _=>cases e
 | block id b ih =>
  intro s r e
  simp only [Z28,Option.bind_eq_some_iff] at e ⊢
  obtain ⟨q,hq,e⟩:=e
  exact Ev.bind (ih hq) (Ev.const e)
 | loop j lin fr outs b _ =>
  intro s r e
  simp only [Z28,Option.bind_eq_some_iff] at e ⊢
  obtain ⟨vs,hv,q,hq,e⟩:=e
  exact Ev.bindc hv (Ev.bind (hF _ _ _ _ _ _ hq) (Ev.const e))
 | rangeFunc j lin fr outs f ps a b _ _ =>
  intro s r e
  simp only [Z28,Z4x,Option.bind_eq_some_iff] at e ⊢
  obtain ⟨fv,hf,e⟩:=e
  refine Ev.bindc hf ?_
  cases fv with
  | func fk first cap =>
   cases fk with
   | func g =>
    simp only [Option.bind_eq_some_iff] at e
    obtain ⟨vs,hv,hd,hhd,q,hq,e⟩:=e
    exact Ev.bindc hv (Ev.bindc hhd (Ev.bind (hF _ _ _ _ _ _ hq) (Ev.const e)))
   | _=>cases e
  | _=>cases e
 | join lays a ih=>intro s r e; simp only [Z28] at e ⊢; exact ih e
 | _=>intro s r e; exact Ev.const e
theorem Z6I {bk:FuncId->Option AFun} (hF:Fam ox os):Fam (Z1D P bk ox) (fun n=>Z1D P bk (os n)):=by
 intro k args h c df r e
 cases k with
 | fn f =>
  simp only [Z1D,Option.bind_eq_some_iff] at e ⊢
  obtain ⟨a,ha,e⟩:=e
  refine Ev.bindc ha ?_
  refine Ev.cond (fun h0=>?_) (fun h0=>by rw [h0] at e; cases e)
  rw [h0] at e
  simp only [cond_true,Option.bind_eq_some_iff] at e
  obtain ⟨q,hq,e⟩:=e
  exact Ev.bind (Z8U hF hq) (Ev.const e)
 | lp j lin fr b nt rd =>
  simp only [Z1D,Option.bind_eq_some_iff] at e ⊢
  obtain ⟨q,hq,vs,hv,e⟩:=e
  refine Ev.bind (Z8U hF hq) (Ev.bindc hv ?_)
  cases hq1:q.1 with
  | normal=>rw [hq1] at e; exact hF _ _ _ _ _ _ e
  | exit id=>rw [hq1] at e; exact Ev.const e
  | ret=>rw [hq1] at e; exact Ev.const e
 | rnd nt lin fr params l a b =>
  simp only [Z1D,Option.bind_eq_some_iff] at e ⊢
  obtain ⟨q,hq,e⟩:=e
  refine Ev.bind (Z8U hF hq) ?_
  cases hq1:q.1 with
  | normal =>
   rw [hq1] at e
   simp only [Option.bind_eq_some_iff] at e
   obtain ⟨h1,hb,q2,hq2,e⟩:=e
   exact Ev.bindc hb (Ev.bind (Z8U hF hq2) (Ev.const (by simp only [Option.bind_eq_some_iff]; exact e)))
  | exit id=>rw [hq1] at e; cases e
  | ret=>rw [hq1] at e; cases e
end
theorem Z8s {bk:FuncId->Option AFun}:∀ n k args (h:H) c df r,orc P bk n k args h c df=some r->orc P bk (n+1) k args h c df=some r
 | 0,k,args,h,c,df,r,e=>by cases e
 | n+1,k,args,h,c,df,r,e=>by
  have hF:Fam (orc (H:=H) P bk n) (fun _=>orc P bk (n+1)):=fun k args h c df r e=>Ev.const (Z8s n k args h c df r e)
  obtain ⟨m,hm⟩:=Z6I hF k args h c df r e
  exact hm m (Nat.le_refl _)
theorem ZgK {bk:FuncId->Option AFun} {n m:Nat} (hnm:n<=m) {k:Key} {args:List Value} {h:H} {c:Nat} {df:List Nat} {r:Rt H} (e:orc P bk n k args h c df=some r):orc P bk m k args h c df=some r:=by
 induction hnm with
 | refl=>exact e
 | step _ ih=>exact Z8s _ _ _ _ _ _ _ ih
open Classical in
noncomputable def run (P:Program) (bk:FuncId->Option AFun):Orc H:=fun k args h c df =>
 if hx:∃ n r,orc P bk n k args h c df=some r then orc P bk (Classical.choose hx) k args h c df else none
theorem run_of {bk:FuncId->Option AFun} {n:Nat} {k:Key} {args:List Value} {h:H} {c:Nat} {df:List Nat} {r:Rt H} (e:orc P bk n k args h c df=some r):run P bk k args h c df=some r:=by
 have hx:∃ n r,orc P bk n k args h c df=some r:=⟨n,r,e⟩
 unfold run
 rw [dif_pos hx]
 obtain ⟨r',h'⟩:=Classical.choose_spec hx
 have h1:=ZgK (Nat.le_max_left (Classical.choose hx) n) h'
 have h2:=ZgK (Nat.le_max_right (Classical.choose hx) n) e
 rw [h1] at h2
 rw [h',h2]
theorem Zax {bk:FuncId->Option AFun} {k:Key} {args:List Value} {h:H} {c:Nat} {df:List Nat} {r:Rt H} (e:run P bk k args h c df=some r):∃ n,orc P bk n k args h c df=some r:=by
 unfold run at e
 split at e
 · exact ⟨_,e⟩
 · cases e
theorem Zmm {bk:FuncId->Option AFun}:Fam (run (H:=H) P bk) (orc P bk):=by
 intro k args h c df r e
 obtain ⟨n,hn⟩:=Zax e
 exact ⟨n,fun m hm=>ZgK hm hn⟩
theorem Z7T {bk:FuncId->Option AFun} {k:Key} {args:List Value} {h:H} {c:Nat} {df:List Nat} {r:Rt H} (e:Z1D P bk (run P bk) k args h c df=some r):run P bk k args h c df=some r:=by
 obtain ⟨n,hn⟩:=Z6I (Zmm (P:=P) (bk:=bk)) k args h c df r e
 exact run_of (n:=n+1) (hn n (Nat.le_refl _))
theorem Z6n {bk:FuncId->Option AFun}:∀ n j lin fr b nt rd vs (h:H) c df r,orc P bk n (.lp j lin fr b nt rd) vs h c df=some r->r.vs.length=lin.length
 | 0,_,_,_,_,_,_,_,_,_,_,_,e=>by cases e
 | n+1,j,lin,fr,b,nt,rd,vs,h,c,df,r,e=>by
  simp only [orc,Z1D,Option.bind_eq_some_iff] at e
  obtain ⟨q,hq,ws,hw,e⟩:=e
  cases hq1:q.1 with
  | normal=>rw [hq1] at e; exact Z6n n j lin fr b nt rd _ _ _ _ r e
  | exit id=>rw [hq1] at e; cases e; exact Z2a hw
  | ret=>rw [hq1] at e; cases e; exact Z2a hw
theorem Zay {bk:FuncId->Option AFun} {j:Nat} {lin fr:List Nat} {b:ACode} {nt:Nat} {rd:Option Nat} {vs:List Value} {h:H} {c:Nat} {df:List Nat} {r:Rt H} (e:run P bk (.lp j lin fr b nt rd) vs h c df=some r):r.vs.length=lin.length:=by
 obtain ⟨n,hn⟩:=Zax e
 exact Z6n _ _ _ _ _ _ _ _ _ _ _ _ hn
theorem Zgu {bk:FuncId->Option AFun} (hbk:Z6M P bk) (hmix:P.follows .mixedOrders=true) {f:FuncId} {args args':List Value} {A:H} {c:Nat} {r:Rt H} (e:run P bk (.fn f) args A c []=some r) {μ:Mu} {w:World}
 (hv:VRs μ args args') (hR:R μ A w) (hfr:Z1Y μ c):Calls P f args'.toArray w (Z5Q μ A c w r):=by
 obtain ⟨n,hn⟩:=Zax e
 exact ZgL hbk hmix hn hv hR hfr
end Go.Ab

namespace Go.Ab
open Go
variable {H:Type} [HeapC H] {P:Program}
abbrev Kt (H β:Type):=Value->H->Nat->Option β
def callK {β:Type} (o:Orc H) (h:H) (c:Nat) (fv:Value) (args:List Value) (k:Kt H β):Option β :=
 (Z3V o h c fv args).bind fun r=>k r.1 r.2.1 r.2.2
def Z0B (kv a b:Value):Option Value :=
 match kv with
 | .bool t=>some (cond t a b)
 | _=>none
def Z46 (v:Value) (i:Nat):Option Value :=
 match v with
 | .tuple vs=>vs[i]?
 | _=>none
def biK {β:Type} (P:Program) (h:H) (id c:Nat) (b:Builtin) (ts:List TypeId) (args:List Value) (k:Kt H β):Option β :=
 match b with
 | .len=>match ts,args with
  | t::_,x::_=>(ZbZ P h t x).bind fun v=>k v h c
  | _,_=>none
 | .max=>(Z5f max2 args).bind fun v=>k v h c
 | .min=>(Z5f min2 args).bind fun v=>k v h c
 | b=>(Z0J P h id b ts args).bind fun r=>k r.1 r.2 c
theorem biK_eq {β:Type} {h:H} {id c:Nat} {b:Builtin} {ts:List TypeId} {args:List Value} {k:Kt H β}:biK P h id c b ts args k=(Z0J P h id b ts args).bind fun r=>k r.1 r.2 c:=by
 cases b <;> try rfl
 · cases ts <;> cases args <;> simp [biK,Z0J,Option.bind_assoc]
 · simp [biK,Z0J,Option.bind_assoc]
 · simp [biK,Z0J,Option.bind_assoc]
def Zd4 {β:Type} (P:Program) (o:Orc H) (id:Nat) (tm:Tm) (h:H) (c:Nat) (op:Op) (k:Kt H β):Option β :=
 match op with
 | .move x | .assign x=>(Z0g tm x).bind fun v=>k v h c
 | .pick x a b=>(Z0g tm x).bind fun kv=>(Z0g tm a).bind fun av=>(Z0g tm b).bind fun bv=>(Z0B kv av bv).bind fun v=>k v h c
 | .box _ x=>(Z0g tm x).bind fun v=>cond (v.cells.toList.all Z07) (k (ptrTo id) (newB h id v.cells.toList) c) none
 | .build t ps=>(evalPs tm ps.toList).bind fun vs=>(ZeZ P t vs).bind fun v=>k v h c
 | .load t a=>(Z0g tm a).bind fun p=>(Zbl P h t p).bind fun v=>k v h c
 | .store t a x=>(Z0g tm a).bind fun p=>(Z0g tm x).bind fun v=>(Zap P h t p v).bind fun h'=>k (.tuple #[]) h' c
 | .nilCheck x=>(Z0g tm x).bind fun v=>(Z0e v).bind fun v=>k v h c
 | .binOp bo t x y _=>(Z0g tm x).bind fun a=>(Z0g tm y).bind fun b=>(Z00 P bo t a b).bind fun v=>k v h c
 | .unOp u _ x=>(Z0g tm x).bind fun a=>(Z1X u a).bind fun v=>k v h c
 | .fieldAddr t x f=>(Z0g tm x).bind fun p=>(Z5O P t p f).bind fun v=>k v h c
 | .field t x f=>(Z0g tm x).bind fun v=>(ZeX P t v f).bind fun v=>k v h c
 | .indexAddr t x i=>(Z0g tm x).bind fun v=>(Z0g tm i).bind fun j=>(Z5N P t v j).bind fun v=>k v h c
 | .index t x i=>(Z0g tm x).bind fun v=>(Z0g tm i).bind fun j=>(ZeW P t v j).bind fun v=>k v h c
 | .slice t x lo hi mx=>(Z0g tm x).bind fun v=>(Zcn tm lo).bind fun l=>(Zcn tm hi).bind fun hh=>(Zcn tm mx).bind fun m=>(ZbX P h t v l hh m).bind fun v=>k v h c
 | .lookup t m x ok=>(Z0g tm m).bind fun mv=>(Z0g tm x).bind fun kv=>(Z5t P h t mv kv ok).bind fun v=>k v h c
 | .extract t i=>(Z0g tm t).bind fun v=>(Z46 v i).bind fun v=>k v h c
 | .call cl=>(Z1B tm cl.args.toList).bind fun args =>
  match cl.callee with
  | .value f=>(Z0g tm f).bind fun fv=>callK o h c fv args k
  | .builtin b=>biK P h id c b cl.argTypes.toList args k
  | .invoke _ _=>none
 | .convert s d x=>(P.underlying s).bind fun _=>(Z0g tm x).bind fun a=>(Z7Z P s d a).bind fun v=>k v h c
 | .buildSlice t len ps=>(evalPs tm ps.toList).bind fun vs=>(Z5a P t len vs).bind fun cs=>k (.slice (some ⟨id,0,none⟩) len len) (newB h id cs) c
 | .makeSlice t l m=>(Z0g tm l).bind fun lv=>(Z0g tm m).bind fun kv=>(Z5M P t lv kv).bind fun r=>k (.slice (some ⟨id,0,none⟩) r.2.1 r.2.2) (newB h id r.1) c
 | .mapUpdate t m x v | .insert t m x v=>(Z0g tm m).bind fun mv=>(Z0g tm x).bind fun kv=>(Z0g tm v).bind fun vv=>(Z0D P h t mv kv vv).bind fun h'=>k (.tuple #[]) h' c
 | .sliceToArrayPointer t x=>(Z0g tm x).bind fun a=>(Z5b P t a).bind fun v=>k v h c
 | op=>(Z0m P o id tm h c op).bind fun r=>k r.1 r.2.1 r.2.2
theorem Zli {β:Type} {o:Orc H} {id:Nat} {tm:Tm} {h:H} {c:Nat} {op:Op} {k:Kt H β}:Zd4 P o id tm h c op k=(Z0m P o id tm h c op).bind fun r=>k r.1 r.2.1 r.2.2:=by
 cases op with
 | pick x a b =>
  simp only [Zd4,Z0m,Option.bind_assoc]
  congr 1; funext kv; congr 1; funext av; congr 1; funext bv
  cases kv <;> rfl
 | box t x =>
  simp only [Zd4,Z0m,Option.bind_assoc]
  congr 1; funext v
  cases v.cells.toList.all Z07 <;> rfl
 | extract t i =>
  simp only [Zd4,Z0m,Option.bind_assoc]
  congr 1; funext v
  cases v <;> first | rfl | simp only [Z46,Option.bind_assoc,Option.bind_some]
 | call cl =>
  simp only [Zd4,Z0m,Option.bind_assoc]
  congr 1; funext args
  cases cl.callee with
  | value f=>simp only [Option.bind_assoc,callK]
  | builtin b=>simp only [Option.bind_assoc,Option.bind_some,biK_eq]
  | invoke _ _=>rfl
 | _=>simp only [Zd4,Z0m,Z6N,Option.bind_assoc,Option.bind_some]
def gv (v:Value) (want:Bool):Option Bool :=
 match v with
 | .bool b=>some (b == want)
 | _=>some false
def dstB (nt:Nat) (d:Option Tmp):Bool:=match d with | some d=>Nat.blt d nt | none=>true
def Ziv {β:Type} (P:Program) (o:Orc H) (ops:Array Oper) (base i nt:Nat) (tm:Tm) (h:H) (c:Nat) (op:Oper) (k:Kt H β):Option β :=
 match op.guard with
 | none=>cond (Nat.blt i 256 && dstB nt op.dst) (Zd4 P o (256*base+i) tm h c op.op k) none
 | some _=>(Z0V P o ops base i nt tm h c op).bind fun r=>k r.1 r.2.1 r.2.2
theorem Zdp {β:Type} {o:Orc H} {ops:Array Oper} {base i nt:Nat} {tm:Tm} {h:H} {c:Nat} {op:Oper} {k:Kt H β} :
 Ziv P o ops base i nt tm h c op k=(Z0V P o ops base i nt tm h c op).bind fun r=>k r.1 r.2.1 r.2.2:=by
 obtain ⟨dst,o',ty,pos,af,gd⟩:=op
 cases gd with
 | some p=>rfl
 | none =>
  simp only [Ziv,Z0V,Z0T,Option.bind_some,cond_true]
  have hd:(match dst with | some d=>Nat.blt d nt | none=>true)=dstB nt dst:=by cases dst <;> rfl
  cases hb:(Nat.blt i 256 && dstB nt dst) with
  | false =>
   cases dst <;> simp only [dstB] at hb <;> simp only [hb] <;> rfl
  | true =>
   cases dst <;> simp only [dstB] at hb <;> simp only [hb,cond_true] <;> exact Zli
def opsK {β:Type} (P:Program) (o:Orc H) (ops:Array Oper) (base nt:Nat) (K:Tm->H->Nat->Option β):List Oper->Nat->Tm->H->Nat->Option β
 | [],_,tm,h,c=>K tm h c
 | op::rest,i,tm,h,c=>Ziv P o ops base i nt tm h c op fun v h' c'=>opsK P o ops base nt K rest (i+1) (Z6O tm op.dst v) h' c'
theorem Zcp {β:Type} {o:Orc H} {ops:Array Oper} {base nt:Nat} {K:Tm->H->Nat->Option β}:∀ {l:List Oper} {i:Nat} {tm:Tm} {h:H} {c:Nat},
 opsK P o ops base nt K l i tm h c=(Z1g P o ops base nt l i tm h c).bind fun r=>K r.1 r.2.1 r.2.2
 | [],i,tm,h,c=>rfl
 | oper::l,i,tm,h,c=>by
  simp only [opsK,Z1g,Zdp,Option.bind_assoc]
  congr 1
  funext r
  exact Zcp
def callF (o:Orc H) (g:FuncId) (args:List Value) (h:H) (c:Nat):Option (Value × H × Nat) :=
 (o (.fn g) args h c []).bind fun r =>
  match r.vs with
  | [v]=>some (v,r.h,r.c)
  | _=>none
end Go.Ab
