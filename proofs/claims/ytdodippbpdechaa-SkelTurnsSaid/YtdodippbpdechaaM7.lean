/- Parts of a proof: AbGc AbX AbSym AbPerm AbGlue AbRng. Conditions: none. -/
import Derived.Test.YtdodippbpdechaaM6
import Derived.KernelRfl
set_option linter.all false
set_option maxRecDepth 100000
namespace Go.Ab
open Go
variable {P:Program}
noncomputable def nuD (c:Nat):Mu:=fun i=>if i<256*c then some ⟨i,0,none⟩ else none
theorem Z8v {c i:Nat} (h:i<256*c):nuD c i=some ⟨i,0,none⟩:=by simp [nuD,h]
theorem ZaE {c i:Nat} (h:nuD c i ≠ none):i<256*c:=by
 unfold nuD at h
 split at h
 · assumption
 · exact absurd rfl h
def OkV (c:Nat) (v:Value):Prop:=∃ v',VR (nuD c) v v'
theorem OkV.bool (c:Nat) (b:Bool):OkV c (.bool b):=⟨_,.bool b⟩
theorem OkV.int (c:Nat) (k:IntKind) (n:Int):OkV c (.int k n):=⟨_,.int k n⟩
theorem OkV.str (c:Nat) (s:ByteArray):OkV c (.string s):=⟨_,.str s⟩
theorem OkV.ptr0 (c:Nat):OkV c (.pointer none):=⟨_,.ptr0⟩
theorem OkV.ptr {c i o:Nat} (h:i<256*c):OkV c (.pointer (some ⟨i,o,none⟩)):=⟨_,.ptr (Z8v h)⟩
theorem OkV.ptrTo {c i:Nat} (h:i<256*c):OkV c (ptrTo i):=⟨_,.ptr (Z8v h)⟩
theorem OkV.sl0 (c l k:Nat):OkV c (.slice none l k):=⟨_,.sl0 l k⟩
theorem OkV.sl {c i o l k:Nat} (h:i<256*c):OkV c (.slice (some ⟨i,o,none⟩) l k):=⟨_,.sl (Z8v h) (Nat.le_refl _) (.inl rfl)⟩
theorem OkV.map0 (c:Nat):OkV c (.map none):=⟨_,.map0⟩
theorem OkV.map {c i:Nat} (h:i<256*c):OkV c (.map (some i)):=⟨_,.map (Z8v h)⟩
theorem OkV.nilFunc (c:Nat):OkV c .nilFunc:=⟨_,.nilFunc⟩
theorem OkV.yield {c l:Nat} (h:l<256*c):OkV c (.func (.yield l) #[] #[]):=⟨_,.yield (Z8v h)⟩
def Z1F (c:Nat) (vs:List Value):Prop:=∀ v ∈ vs,OkV c v
theorem Z1F.nil (c:Nat):Z1F c []:=fun _ h=>by cases h
theorem Z1F.cons {c:Nat} {v:Value} {vs:List Value} (h:OkV c v) (hs:Z1F c vs):Z1F c (v::vs):=by
 intro x hx
 rcases List.mem_cons.1 hx with rfl | hx
 · exact h
 · exact hs x hx
theorem Z1F.cons_iff {c:Nat} {v:Value} {vs:List Value}:Z1F c (v::vs) ↔ OkV c v/\Z1F c vs :=
 ⟨fun h=>⟨h v (by simp),fun x hx=>h x (by simp [hx])⟩,fun h=>Z1F.cons h.1 h.2⟩
theorem Z1F.vrs {c:Nat}:∀ {vs:List Value},Z1F c vs -> ∃ ws,VRs (nuD c) vs ws
 | [],_=>⟨[],VRs.nil _⟩
 | v::vs,h=>by
  obtain ⟨v',h1⟩:=h v (by simp)
  obtain ⟨ws,h2⟩:=Z1F.vrs (vs:=vs) (fun x hx=>h x (by simp [hx]))
  exact ⟨v'::ws,VRs.cons h1 h2⟩
theorem OkV.agg {c:Nat} {l:List Value} (h:Z1F c l):OkV c (.agg l.toArray):=by
 obtain ⟨ws,h1⟩:=h.vrs
 exact ⟨.agg ws.toArray,VR.agg_iff.2 (by simpa using h1)⟩
theorem OkV.agg_iff {c:Nat} {l:List Value}:OkV c (.agg l.toArray) ↔ Z1F c l:=by
 refine ⟨fun h=>?_,OkV.agg⟩
 obtain ⟨v',hv⟩:=h
 cases hv with
 | @agg _ ys hs g =>
  intro x hx
  obtain ⟨k,hk⟩:=List.getElem?_of_mem hx
  have hl:k<ys.size:=by
   have:=(List.getElem?_eq_some_iff.1 hk).1
   simp at hs; omega
  exact ⟨_,g k x ys[k] (by simpa using hk) (Array.getElem?_eq_getElem hl)⟩
def OkB (c:Nat):Option ABlk->Prop
 | some (.cells _ _ cs)=>Z1F c cs
 | some (.map es)=>∀ e ∈ es,OkV c e.1/\OkV c e.2
 | some (.loop a)=>Z1F c a.vals/\a.dfr<256*c
 | _=>True
def GcH (c:Nat) (h A:FH):Prop:=∀ i,i<256*c->h.f i=A.f i ∨ OkB c (h.f i)
noncomputable def mrg (c:Nat) (h A:FH):FH:=⟨fun i=>if i<256*c then h.f i else A.f i⟩
def GcOk (A:FH) (c:Nat) (df:List Nat) (r:Rt FH):Prop:=Z1F c r.vs/\r.df=df/\GcH c r.h A
open Classical in
noncomputable def gcR (A:FH) (c:Nat) (df:List Nat) (r:Rt FH):Rt FH :=
 if GcOk A c df r then { e:=r.e,vs:=r.vs,h:=mrg c r.h A,c:=c,df:=df } else r
theorem Zhg {A:FH} {c:Nat} {df:List Nat} {e:Ex} {vs:List Value} {h:FH} {c':Nat} (h1:Z1F c vs) (h2:GcH c h A):gcR A c df { e:=e,vs:=vs,h:=h,c:=c',df:=df } = { e:=e,vs:=vs,h:=mrg c h A,c:=c,df:=df }:=by
 unfold gcR
 rw [if_pos ⟨h1,rfl,h2⟩]
theorem ZmT {A:FH} {c:Nat} {df:List Nat} {r:Rt FH}:(gcR A c df r).e=r.e:=by unfold gcR; split <;> rfl
theorem Zhf {A:FH} {c:Nat} {df:List Nat} {r:Rt FH}:(gcR A c df r).vs=r.vs:=by unfold gcR; split <;> rfl
theorem ZlN {A:FH} {c:Nat} {df:List Nat} {r:Rt FH}:(gcR A c df r).df=r.df:=by
 unfold gcR
 split
 · rename_i h; exact h.2.1.symm
 · rfl
theorem OkV.on {c:Nat} {μ:Mu} {v v':Value} (h:VR μ v v') (hv:OkV c v):VR (μ.on (fun i=>i<256*c)) v v' :=
 let ⟨_,k⟩:=hv; h.on (fun i=>ZaE) k
theorem OkB.on {c:Nat} {μ:Mu} {m:ME} {hp:Array Obj} {b:Option ABlk} (h:Z6P μ m hp b) (hb:OkB c b):Z6P (μ.on (fun i=>i<256*c)) m hp b:=by
 unfold Z6P at h ⊢
 unfold OkB at hb
 split at h
 · rename_i ro opn cs
   obtain ⟨C,E,fr,h1,h2,h3,h4⟩:=h
   refine ⟨C,E,fr,h1,fun k x hx=>?_,h3,h4⟩
   obtain ⟨y,h5,h6⟩:=h2 k x hx
   exact ⟨y,h5,(hb x (List.mem_of_getElem? hx)).on h6⟩
 · rename_i es
   obtain ⟨es',clk,h1,h2,h3⟩:=h
   refine ⟨es',clk,h1,h2,fun k x y hx hy=>?_⟩
   have a:=h3 k x y hx hy
   have b:=hb x (List.mem_of_getElem? hx)
   exact ⟨b.1.on a.1,b.2.on a.2⟩
 · rename_i a
   obtain ⟨r,h1,h2⟩:=h
   refine ⟨r,h1,⟨h2.state,h2.pending,h2.params,h2.assign,h2.body,h2.size,fun t v e=>?_, ?_⟩⟩
   · obtain ⟨v',h3,h4⟩:=h2.vals t v e
     have hmem:∀ (l:List Nat) (vs:List Value),Z0l l vs t=some v->v ∈ vs:=by
      intro l
      induction l with
      | nil=>intro vs h; simp [Z0l] at h
      | cons x l ih =>
       intro vs h
       cases vs with
       | nil=>simp [Z0l] at h
       | cons u vs =>
        simp only [Z0l] at h
        cases hq:Nat.beq t x with
        | true=>rw [hq] at h; cases h; simp
        | false=>rw [hq] at h; simp [ih vs h]
     exact ⟨v',h3,(hb.1 v (hmem _ _ e)).on h4⟩
   · obtain ⟨m1,h3,h4⟩:=h2.dfr
     exact ⟨m1,by rw [Mu.on_of (D:=fun i=>i<256*c) hb.2]; exact h3,h4⟩
 · exact h
 · trivial
 · trivial
theorem gcExt {μ μ':Mu} {A h:FH} {c c':Nat} {w w':World} (hE:Ext μ A c w (fun _=>False) μ' h c' w') (hR:R μ A w) (hf:Z1Y μ c) (hg:GcH c h A) :
 Ext μ A c w (fun _=>False) (μ'.on (fun i=>i<256*c)) (mrg c h A) c w':=by
 have lt:∀ {i:Nat} {m:ME},μ i=some m->i<256*c:=fun {i m} e=>by
  by_cases hi:i<256*c
  · exact hi
  · rw [hf i qO] at e; cases e
 have old:∀ {i:Nat} {m:ME},μ'.on (fun i=>i<256*c) i=some m->i<256*c/\μ' i=some m/\μ i=some m:=fun {i m} e=>by
  obtain ⟨h1,h2⟩:=Mu.on_some e
  refine ⟨h1,h2, ?_⟩
  cases e0:μ i with
  | none =>
   rcases hE.new i e0 (by rw [h2]; simp) with a | ⟨a,_⟩
   · exact a.elim
   · omega
  | some m0=>rw [← hE.mu i m0 e0,h2]
 have gm:∀ {i:Nat},i<256*c->HeapC.get (mrg c h A) i=HeapC.get h i:=fun {i} hi=>by show (mrg c h A).f i=h.f i; simp [mrg,hi]
 refine { mu:=fun i m e=>?_,new:=fun i e0 e1=>?_,cle:=Nat.le_refl _,rel:=?_,af:=fun i e0 hi _=>?_,os:=hE.os,tape:=hE.tape,output:=hE.output,size:=hE.size,fr:=hE.fr,wrm:=fun i m e hw=>?_,newb:=fun i m e0 e1=>?_,dd:=fun i m e hd=>?_ }
 · rw [Mu.on_of (D:=fun i=>i<256*c) (lt e)]; exact hE.mu i m e
 · cases e2:μ'.on (fun i=>i<256*c) i with
   | none=>exact absurd e2 e1
   | some m=>rw [(old e2).2.2] at e0; cases e0
 · refine ⟨fun i m e=>?_,fun i j mi mj ei ej hne di dj hro=>?_,fun i m e=>hE.rel.lt i m (old e).2.1⟩
   · obtain ⟨h1,h2,h3⟩:=old e
     rw [gm h1]
     have hb:=hE.rel.blk i m h2
     rcases hg i h1 with a | a
     · have hb':=hR.blk i m h3
       have ha:HeapC.get h i=HeapC.get A i:=a
       rw [ha] at hb ⊢
       exact hb.onS ⟨μ,m,w.heap,hb',fun j hj=>by
        cases ej:μ j with
        | none=>exact absurd ej hj
        | some mj=>exact lt ej⟩
     · exact OkB.on hb a
   · obtain ⟨i1,i2,i3⟩:=old ei
     obtain ⟨j1,j2,j3⟩:=old ej
     rw [gm i1] at di hro
     rw [gm j1] at dj hro
     exact hE.rel.inj i j mi mj i2 j2 hne di dj hro
 · rw [gm hi]; exact hE.af i e0 hi (fun h=>h)
 · rw [gm (lt e)] at hw; exact hE.wrm i m e hw
 · rw [(old e1).2.2] at e0; cases e0
 · rw [gm (lt e)]; exact hE.dd i m e hd
theorem gcCall {μ:Mu} {A:FH} {c:Nat} {w w':World} {r:Rt FH} {e:Ending} (hR:R μ A w) (hf:Z1Y μ c) (h:Z5Q μ A c w r e w'):Z5Q μ A c w (gcR A c [] r) e w':=by
 unfold gcR
 split
 · rename_i hg
   obtain ⟨v,v',μ',h1,h2,h3,h4⟩:=h
   refine ⟨v,v',_,h1,h2, ?_,gcExt h4 hR hf hg.2.2⟩
   exact (hg.1 v (by rw [h1]; simp)).on h3
 · exact h
noncomputable def gcS (sel:Key->Bool) (k:Key) (A:FH) (c:Nat) (df:List Nat) (r:Rt FH):Rt FH:=cond (sel k) (gcR A c df r) r
theorem gcS_e {sel:Key->Bool} {k:Key} {A:FH} {c:Nat} {df:List Nat} {r:Rt FH}:(gcS sel k A c df r).e=r.e:=by unfold gcS; cases sel k <;> first | rfl | exact ZmT
theorem Zel {sel:Key->Bool} {k:Key} {A:FH} {c:Nat} {df:List Nat} {r:Rt FH}:(gcS sel k A c df r).vs=r.vs:=by unfold gcS; cases sel k <;> first | rfl | exact Zhf
theorem ZlM {sel:Key->Bool} {k:Key} {A:FH} {c:Nat} {df:List Nat} {r:Rt FH}:(gcS sel k A c df r).df=r.df:=by unfold gcS; cases sel k <;> first | rfl | exact ZlN
theorem Zhe {sel:Key->Bool} {k:Key} {μ:Mu} {A:FH} {c:Nat} {w w':World} {r:Rt FH} {e:Ending} (hR:R μ A w) (hf:Z1Y μ c) (h:Z5Q μ A c w r e w'):Z5Q μ A c w (gcS sel k A c [] r) e w':=by
 unfold gcS
 cases sel k with
 | true=>exact gcCall hR hf h
 | false=>exact h
abbrev Fo (H:Type):=FuncId->List Value->H->Nat->Option (Rt H)
def FnOK (P:Program) (oc:Fo FH):Prop :=
 ∀ (f:FuncId) (args:List Value) (A:FH) (c:Nat) (r:Rt FH),oc f args A c=some r →
  (∀ avs w,(callFunc f avs).run P w = .ok (.enter f avs) w) ∧
  ∀ (μ:Mu) (w:World) (args':List Value),VRs μ args args'->R μ A w->Z1Y μ c->Calls P f args'.toArray w (Z5Q μ A c w r)
noncomputable def Z1k (P:Program) (bk:FuncId->Option AFun) (sel:Key->Bool) (ext:Fo FH) (o:Orc FH):Orc FH
 | .fn f,args,h,c,df =>
  match ext f args h c with
  | some r=>some r
  | none=>(Z1D P bk o (.fn f) args h c df).bind fun r=>some (gcS sel (.fn f) h c [] r)
 | .lp j lin fr b nt rd,vs,h,c,df =>
  (Z28 P o b { tm:=Z0l lin vs,h:=h,c:=c,nt:=nt,df:=df,rd:=rd }).bind fun r =>
   (vals r.2.tm lin).bind fun vs' =>
    match r.1 with
    | .normal=>o (.lp j lin fr b nt rd) vs' (gcS sel (.lp j lin fr b nt rd) h c df { e:=.normal,vs:=vs',h:=Z1C r.2.tm r.2.h fr,c:=r.2.c,df:=r.2.df }).h (gcS sel (.lp j lin fr b nt rd) h c df { e:=.normal,vs:=vs',h:=Z1C r.2.tm r.2.h fr,c:=r.2.c,df:=r.2.df }).c r.2.df
    | e=>some (gcS sel (.lp j lin fr b nt rd) h c df { e:=e,vs:=vs',h:=Z1C r.2.tm r.2.h fr,c:=r.2.c,df:=r.2.df })
 | .rnd nt lin fr params l a b,vs,h,c,df=>(Z1D P bk o (.rnd nt lin fr params l a b) vs h c df).bind fun r=>some (gcS sel (.rnd nt lin fr params l a b) h c [] r)
theorem Zdm {t:Nat} {v:Value}:∀ {l:List Nat} {vs:List Value},Z0l l vs t=some v->v ∈ vs
 | [],vs,h=>by simp [Z0l] at h
 | x::l,[],h=>by simp [Z0l] at h
 | x::l,u::vs,h=>by
  simp only [Z0l] at h
  cases hq:Nat.beq t x with
  | true=>rw [hq] at h; cases h; simp
  | false=>rw [hq] at h; simp [Zdm h]
theorem DfR.lt {μ:Mu} {c:Nat} (hf:Z1Y μ c) {ds:List Nat} {es:List Deferred} (h:DfR μ ds es):∀ i ∈ ds,i<256*c:=by
 induction h with
 | nil=>intro i hi; cases hi
 | @cons i m d ds es hm ht hs ih =>
  intro j hj
  rcases List.mem_cons.1 hj with rfl | hj
  · by_cases hi:j<256*c
    · exact hi
    · rw [hf j qO] at hm; cases hm
  · exact ih j hj
theorem DfR.on {μ:Mu} {D:Nat->Prop} {ds:List Nat} {es:List Deferred} (h:DfR μ ds es) (hD:∀ i ∈ ds,D i):DfR (μ.on D) ds es:=by
 induction h with
 | nil=>exact .nil
 | cons hm ht _ ih=>exact .cons (by rw [Mu.on_of (hD _ (by simp))]; exact hm) ht (ih fun i hi=>hD i (by simp [hi]))
theorem Z4B.stepG {bk:FuncId->Option AFun} {sel:Key->Bool} {ext:Fo FH} {o:Orc FH} {k:Nat} (hO:OS P o) (hL:Z4B P o k) (hmix:P.follows .mixedOrders=true):Z4B P (Z1k P bk sel ext o) (k+1):=by
 intro j lin fr b nt rd vs A c df r e μ w a ro n Q ht hR hfr hrd hdf hQ
 simp only [Z1k,Option.bind_eq_some_iff] at e
 obtain ⟨⟨ex,s1⟩,h1,vs',hvs',e⟩:=e
 refine Z8T hO hL hmix h1 ht hR hfr hrd hdf fun a1 μ1 w1 ht1 hdf1 hE1=>?_
 have hdrop:=Z4z (c:=s1.c) ht1 fr s1.h hE1.rel
 have hE2:=hE1.trans0 hdrop
 have ht2:=ht1.sub (Z4a hvs')
 have key:∀ (ex:Ex) (Q':Exit->Act->World->Prop),
  (∀ μ2,TmR μ2 (Z0l lin vs') nt a1.tmps->DfR μ2 s1.df a1.defers->Ext μ A c w (fun _=>False) μ2 (gcS sel (.lp j lin fr b nt rd) A c df { e:=ex,vs:=vs',h:=Z1C s1.tm s1.h fr,c:=s1.c,df:=s1.df }).h
   (gcS sel (.lp j lin fr b nt rd) A c df { e:=ex,vs:=vs',h:=Z1C s1.tm s1.h fr,c:=s1.c,df:=s1.df }).c w1->Q' (ZeO ex) a1 w1)->Q' (ZeO ex) a1 w1:=by
  intro ex Q' hq
  by_cases hg:sel (.lp j lin fr b nt rd)=true/\GcOk A c df { e:=ex,vs:=vs',h:=Z1C s1.tm s1.h fr,c:=s1.c,df:=s1.df }
  · refine hq (μ1.on (fun i=>i<256*c)) ?_ ?_ ?_
    · refine ⟨ht2.size,fun t v hv=>?_⟩
      obtain ⟨v',h3,h4⟩:=ht2.val t v hv
      exact ⟨v',h3,(hg.2.1 v (Zdm hv)).on h4⟩
    · refine hdf1.on ?_
      have:s1.df=df:=hg.2.2.1
      rw [this]
      exact hdf.lt hfr
    · unfold gcS gcR
      rw [hg.1,cond_true,if_pos hg.2]
      exact gcExt hE2 hR hfr hg.2.2.2
  · refine hq μ1 ht2 hdf1 ?_
    unfold gcS gcR
    cases hs:sel (.lp j lin fr b nt rd) with
    | false=>exact hE2
    | true =>
     rw [cond_true,if_neg (fun h=>hg ⟨hs,h⟩)]
     exact hE2
 cases ex with
 | normal =>
  refine key .normal (Exit.then (Code.roundsIn (wd ro) n P (Z3K b) Q k) Q) fun μ2 ht3 hdf3 hE3=>?_
  exact hL _ _ _ _ _ _ _ _ _ _ _ e μ2 w1 a1 ro n Q ht3 hE3.rel (hE3.fresh hfr (fun _ h=>h.elim)) (hrd.mono hE3.mu) hdf3 (fun a2 μ3 w2 h3 h4 h5=>hQ a2 μ3 w2 h3 h4 (hE3.trans0 h5))
 | exit id =>
  cases e
  refine key (.exit id) Q fun μ2 ht3 hdf3 hE3=>?_
  exact hQ a1 μ2 w1 (by rw [Zel]; exact ht3) (by rw [ZlM]; exact hdf3) hE3 |> fun h=>by rw [gcS_e] at h; exact h
 | ret =>
  cases e
  refine key .ret Q fun μ2 ht3 hdf3 hE3=>?_
  exact hQ a1 μ2 w1 (by rw [Zel]; exact ht3) (by rw [ZlM]; exact hdf3) hE3 |> fun h=>by rw [gcS_e] at h; exact h
theorem OS.stepG {bk:FuncId->Option AFun} {sel:Key->Bool} {ext:Fo FH} (hbk:Z6M P bk) (hext:FnOK P ext) {o:Orc FH} {k:Nat} (hO:OS P o) (hL:Z4B P o k) (hmix:P.follows .mixedOrders=true):OS P (Z1k P bk sel ext o) where
 fn:=by
  intro f args A c df r e
  simp only [Z1k] at e
  cases he:ext f args A c with
  | some q =>
   rw [he] at e
   cases e
   exact hext f args A c _ he
  | none =>
   rw [he] at e
   simp only [Option.bind_eq_some_iff] at e
   obtain ⟨q,hq,e⟩:=e
   cases e
   obtain ⟨h1,h2⟩:=(OS.step hbk hO hL hmix).fn f args A c df q hq
   exact ⟨h1,fun μ w args' ha hR hf=>(h2 μ w args' ha hR hf).mono fun e w' h=>Zhe hR hf h⟩
 rnd:=by
  intro nt lin fr params l x y vs A c df r e μ w ts m ro n f hm ht hR hf
  simp only [Z1k,Option.bind_eq_some_iff] at e
  obtain ⟨q,hq,e⟩:=e
  cases e
  exact ((OS.step hbk hO hL hmix).rnd nt lin fr params l x y vs A c df q hq μ w ts m ro n f hm ht hR hf).mono fun e w' h=>Zhe hR hf h
noncomputable def ZbG (P:Program) (bk:FuncId->Option AFun) (sel:Key->Bool) (ext:Fo FH):Nat->Orc FH
 | 0=>fun _ _ _ _ _=>none
 | n+1=>Z1k P bk sel ext (ZbG P bk sel ext n)
theorem Z8t {bk:FuncId->Option AFun} {sel:Key->Bool} {ext:Fo FH} (hbk:Z6M P bk) (hext:FnOK P ext) (hmix:P.follows .mixedOrders=true):∀ n,OS P (ZbG P bk sel ext n)/\Z4B P (ZbG P bk sel ext n) n
 | 0=>⟨⟨(fun _ _ _ _ _ _ e=>by cases e),(fun _ _ _ _ _ _ _ _ _ _ _ _ e=>by cases e)⟩,fun _ _ _ _ _ _ _ _ _ _ _ e=>by cases e⟩
 | n+1=>⟨OS.stepG hbk hext (Z8t (sel:=sel) (ext:=ext) hbk hext hmix n).1 (Z8t (sel:=sel) (ext:=ext) hbk hext hmix n).2 hmix,Z4B.stepG (Z8t (sel:=sel) (ext:=ext) hbk hext hmix n).1 (Z8t (sel:=sel) (ext:=ext) hbk hext hmix n).2 hmix⟩
theorem Zan {bk:FuncId->Option AFun} {sel:Key->Bool} {ext:Fo FH} {ox:Orc FH} {os:Nat->Orc FH} (hF:Fam ox os):Fam (Z1k P bk sel ext ox) (fun n=>Z1k P bk sel ext (os n)):=by
 intro k args h c df r e
 cases k with
 | fn f =>
  simp only [Z1k] at e ⊢
  cases he:ext f args h c with
  | some q=>rw [he] at e; exact Ev.const e
  | none =>
   rw [he] at e
   simp only [Option.bind_eq_some_iff] at e
   obtain ⟨q,hq,e⟩:=e
   exact Ev.bind (Z6I hF _ _ _ _ _ _ hq) (Ev.const e)
 | rnd nt lin fr params l a b =>
  simp only [Z1k,Option.bind_eq_some_iff] at e ⊢
  obtain ⟨q,hq,e⟩:=e
  exact Ev.bind (Z6I hF _ _ _ _ _ _ hq) (Ev.const e)
 | lp j lin fr b nt rd =>
  simp only [Z1k,Option.bind_eq_some_iff] at e ⊢
  obtain ⟨q,hq,vs,hv,e⟩:=e
  refine Ev.bind (Z8U hF hq) (Ev.bindc hv ?_)
  cases hq1:q.1 with
  | normal=>rw [hq1] at e; exact hF _ _ _ _ _ _ e
  | exit id=>rw [hq1] at e; exact Ev.const e
  | ret=>rw [hq1] at e; exact Ev.const e
theorem Z7A {bk:FuncId->Option AFun} {sel:Key->Bool} {ext:Fo FH}:∀ n k args h c df r,ZbG P bk sel ext n k args h c df=some r->ZbG P bk sel ext (n+1) k args h c df=some r
 | 0,k,args,h,c,df,r,e=>by cases e
 | n+1,k,args,h,c,df,r,e=>by
  have hF:Fam (ZbG P bk sel ext n) (fun _=>ZbG P bk sel ext (n+1)):=fun k args h c df r e=>Ev.const (Z7A n k args h c df r e)
  obtain ⟨m,hm⟩:=Zan hF k args h c df r e
  exact hm m (Nat.le_refl _)
theorem Zcl {bk:FuncId->Option AFun} {sel:Key->Bool} {ext:Fo FH} {n m:Nat} (hnm:n<=m) {k:Key} {args:List Value} {h:FH} {c:Nat} {df:List Nat} {r:Rt FH} (e:ZbG P bk sel ext n k args h c df=some r):ZbG P bk sel ext m k args h c df=some r:=by
 induction hnm with
 | refl=>exact e
 | step _ ih=>exact Z7A _ _ _ _ _ _ _ ih
open Classical in
noncomputable def Z6U (P:Program) (bk:FuncId->Option AFun) (sel:Key->Bool) (ext:Fo FH):Orc FH:=fun k args h c df =>
 if hx:∃ n r,ZbG P bk sel ext n k args h c df=some r then ZbG P bk sel ext (Classical.choose hx) k args h c df else none
theorem Zmn {bk:FuncId->Option AFun} {sel:Key->Bool} {ext:Fo FH} {n:Nat} {k:Key} {args:List Value} {h:FH} {c:Nat} {df:List Nat} {r:Rt FH} (e:ZbG P bk sel ext n k args h c df=some r):Z6U P bk sel ext k args h c df=some r:=by
 have hx:∃ n r,ZbG P bk sel ext n k args h c df=some r:=⟨n,r,e⟩
 unfold Z6U
 rw [dif_pos hx]
 obtain ⟨r',h'⟩:=Classical.choose_spec hx
 have h1:=Zcl (Nat.le_max_left (Classical.choose hx) n) h'
 have h2:=Zcl (Nat.le_max_right (Classical.choose hx) n) e
 rw [h1] at h2
 rw [h',h2]
theorem Z8k {bk:FuncId->Option AFun} {sel:Key->Bool} {ext:Fo FH} {k:Key} {args:List Value} {h:FH} {c:Nat} {df:List Nat} {r:Rt FH} (e:Z6U P bk sel ext k args h c df=some r):∃ n,ZbG P bk sel ext n k args h c df=some r:=by
 unfold Z6U at e
 split at e
 · exact ⟨_,e⟩
 · cases e
theorem ZiF {bk:FuncId->Option AFun} {sel:Key->Bool} {ext:Fo FH}:Fam (Z6U P bk sel ext) (ZbG P bk sel ext):=by
 intro k args h c df r e
 obtain ⟨n,hn⟩:=Z8k e
 exact ⟨n,fun m hm=>Zcl hm hn⟩
theorem Z5j {bk:FuncId->Option AFun} {sel:Key->Bool} {ext:Fo FH} {k:Key} {args:List Value} {h:FH} {c:Nat} {df:List Nat} {r:Rt FH} (e:Z1k P bk sel ext (Z6U P bk sel ext) k args h c df=some r):Z6U P bk sel ext k args h c df=some r:=by
 obtain ⟨n,hn⟩:=Zan (ZiF (P:=P) (bk:=bk) (sel:=sel) (ext:=ext)) k args h c df r e
 exact Zmn (n:=n+1) (hn n (Nat.le_refl _))
theorem Z5U {bk:FuncId->Option AFun} {sel:Key->Bool} {ext:Fo FH}:∀ n j lin fr b nt rd vs (h:FH) c df r,ZbG P bk sel ext n (.lp j lin fr b nt rd) vs h c df=some r->r.vs.length=lin.length
 | 0,_,_,_,_,_,_,_,_,_,_,_,e=>by cases e
 | n+1,j,lin,fr,b,nt,rd,vs,h,c,df,r,e=>by
  simp only [ZbG,Z1k,Option.bind_eq_some_iff] at e
  obtain ⟨q,hq,ws,hw,e⟩:=e
  cases hq1:q.1 with
  | normal=>rw [hq1] at e; exact Z5U n j lin fr b nt rd _ _ _ _ r e
  | exit id=>rw [hq1] at e; cases e; rw [Zel]; exact Z2a hw
  | ret=>rw [hq1] at e; cases e; rw [Zel]; exact Z2a hw
theorem Z5k {bk:FuncId->Option AFun} {sel:Key->Bool} {ext:Fo FH}:OLen (Z6U P bk sel ext):=fun _ _ _ _ _ _ _ _ _ _ _ e=>by
 obtain ⟨n,hn⟩:=Z8k e
 exact Z5U _ _ _ _ _ _ _ _ _ _ _ _ hn
theorem Zf7 {bk:FuncId->Option AFun} {sel:Key->Bool} {ext:Fo FH} (hbk:Z6M P bk) (hext:FnOK P ext) (hmix:P.follows .mixedOrders=true) {f:FuncId} {args args':List Value} {A:FH} {c:Nat} {r:Rt FH} (e:Z6U P bk sel ext (.fn f) args A c []=some r) {μ:Mu} {w:World}
 (hv:VRs μ args args') (hR:R μ A w) (hfr:Z1Y μ c):Calls P f args'.toArray w (Z5Q μ A c w r):=by
 obtain ⟨n,hn⟩:=Z8k e
 exact ((Z8t (sel:=sel) (ext:=ext) hbk hext hmix n).1.fn f args A c [] r hn).2 μ w args' hv hR hfr
theorem Z0r {bk:FuncId->Option AFun} {sel:Key->Bool} {ext:Fo FH} {f:FuncId} {a:AFun} (ha:bk f=some a) (hfr:a.fr=[]) (hxt:∀ args h c,ext f args h c=none) {args:List Value} {h:FH} {c:Nat} {df:List Nat} {r:Rt FH} (hlen:Nat.ble args.length a.nt=true)
 (e:jx P (Z6U P bk sel ext) a.nt none a.code (Z0l (List.range args.length) args) h c [] (Kfn P a.res)=some r):Z6U P bk sel ext (.fn f) args h c df=some (gcS sel (.fn f) h c [] r):=by
 refine Z5j ?_
 obtain ⟨e1,tm1,tm1',h1,c1,df1,hx,hl,hk⟩:=Z2u Z5k e (Tm.le_refl _)
 simp only [Z1k,hxt,Option.bind_eq_some_iff]
 refine ⟨r, ?_,rfl⟩
 simp only [Z1D,ha,Option.bind_some,hlen,cond_true,hx,hfr,Z1C]
 cases e1 with
 | exit id=>cases hk
 | normal =>
  simp only [Kfn,Z5l,Option.bind_eq_some_iff] at hk ⊢
  obtain ⟨h2,ht,vs,hv,hk⟩:=hk
  exact ⟨h2,ht,vs,Z5x hl hv,hk⟩
 | ret =>
  simp only [Kfn,Z5l,Option.bind_eq_some_iff] at hk ⊢
  obtain ⟨h2,ht,vs,hv,hk⟩:=hk
  exact ⟨h2,ht,vs,Z5x hl hv,hk⟩
theorem Z0K {bk:FuncId->Option AFun} {sel:Key->Bool} {ext:Fo FH} {j nt:Nat} {lin:List Nat} {b:ACode} {rd:Option Nat} {vs:List Value} {h:FH} {c:Nat} {df:List Nat} {q r:Rt FH}
 (e:jx P (Z6U P bk sel ext) nt rd b (Z0l lin vs) h c df (Klp lin)=some q) (hq:q.e = .normal) (k:Z6U P bk sel ext (.lp j lin [] b nt rd) q.vs (gcS sel (.lp j lin [] b nt rd) h c df q).h (gcS sel (.lp j lin [] b nt rd) h c df q).c q.df=some r):Z6U P bk sel ext (.lp j lin [] b nt rd) vs h c df=some r:=by
 refine Z5j ?_
 obtain ⟨e1,tm1,tm1',h1,c1,df1,hx,hl,hk⟩:=Z2u Z5k e (Tm.le_refl _)
 simp only [Klp,Option.bind_eq_some_iff] at hk
 obtain ⟨ws,hw,hk⟩:=hk
 cases hk
 simp only at hq
 subst hq
 simp only [Z1k,hx,Option.bind_some,Z62 hl hw,Z1C]
 exact k
theorem Z0L {bk:FuncId->Option AFun} {sel:Key->Bool} {ext:Fo FH} {j nt:Nat} {lin:List Nat} {b:ACode} {rd:Option Nat} {vs:List Value} {h:FH} {c:Nat} {df:List Nat} {q:Rt FH}
 (e:jx P (Z6U P bk sel ext) nt rd b (Z0l lin vs) h c df (Klp lin)=some q) (hq:q.e ≠ .normal):Z6U P bk sel ext (.lp j lin [] b nt rd) vs h c df=some (gcS sel (.lp j lin [] b nt rd) h c df q):=by
 refine Z5j ?_
 obtain ⟨e1,tm1,tm1',h1,c1,df1,hx,hl,hk⟩:=Z2u Z5k e (Tm.le_refl _)
 simp only [Klp,Option.bind_eq_some_iff] at hk
 obtain ⟨ws,hw,hk⟩:=hk
 cases hk
 simp only at hq
 simp only [Z1k,hx,Option.bind_some,Z62 hl hw,Z1C]
theorem Z7U {bk:FuncId->Option AFun} {sel:Key->Bool} {ext:Fo FH} {nt l:Nat} {lin params:List Nat} {a b:ACode} {vs:List Value} {h:FH} {c:Nat} {df:List Nat} {r:Rt FH}
 (e:jx P (Z6U P bk sel ext) nt (some l) a (Z0l (params++lin) vs) h c [] (ZiI P (Z6U P bk sel ext) nt l b)=some r):Z6U P bk sel ext (.rnd nt lin [] params l a b) vs h c df=some (gcS sel (.rnd nt lin [] params l a b) h c [] r):=by
 refine Z5j ?_
 obtain ⟨e1,tm1,tm1',h1,c1,df1,hx,hl,hk⟩:=Z2u Z5k e (Tm.le_refl _)
 simp only [Z1k,Option.bind_eq_some_iff]
 refine ⟨r, ?_,rfl⟩
 cases e1 with
 | exit id=>cases hk
 | ret=>cases hk
 | normal =>
  simp only [ZiI,Option.bind_eq_some_iff] at hk
  obtain ⟨h2,hb,hk⟩:=hk
  obtain ⟨e3,tm3,tm3',h3,c3,df3,hx3,hl3,hk3⟩:=Z2u Z5k hk hl
  simp only [Z1D,hx,Option.bind_some,hb,hx3,Z1C]
  exact hk3
theorem ZiG {bk:FuncId->Option AFun} {sel:Key->Bool} {ext:Fo FH} {f:FuncId} {args:List Value} {h:FH} {c:Nat} {df:List Nat} {r:Rt FH} (e:ext f args h c=some r):Z6U P bk sel ext (.fn f) args h c df=some r:=by
 refine Z5j ?_
 simp only [Z1k,e]
theorem Zi1 {H:Type} [HeapC H] {bk:FuncId->Option AFun} (hbk:Z6M P bk) (hmix:P.follows .mixedOrders=true) {f:FuncId} {A0:H} {r0:Rt H} {b:Bool} (e:run P bk (.fn f) [] A0 0 []=some r0) (hv:r0.vs=[.bool b])
 (A:FH) (c:Nat) (μ:Mu) (w:World) (args':List Value) (ha:VRs μ [] args') (hR:R μ A w) (hf:Z1Y μ c):Calls P f args'.toArray w (Z5Q μ A c w { e:=.ret,vs:=[.bool b],h:=A,c:=c,df:=[] }):=by
 have h0:R (fun _=>none:Mu) A0 w:=⟨(fun i m e=>by cases e),(fun i j mi mj ei=>by cases ei),(fun i m e=>by cases e)⟩
 have ha':args'=[]:=List.eq_nil_of_length_eq_zero ha.1.symm
 subst ha'
 refine (Zgu hbk hmix e (VRs.nil _) h0 (fun i hi=>rfl)).mono ?_
 rintro en w' ⟨v,v',μ',h1,h2,h3,hE⟩
 rw [hv] at h1
 cases h1
 have h3':=h3.bool_left
 subst h3'
 have hfr:∀ b,b<w.heap.size->w'.heap[b]? = w.heap[b]?:=fun b hb=>hE.fr b hb (fun i m e=>(by cases e))
 refine ⟨_,_,μ,rfl,h2,.bool b, ?_⟩
 refine { mu:=fun i m e=>e,new:=fun i e0 e1=>absurd e0 e1,cle:=Nat.le_refl _,rel:=?_,af:=fun i e0 hi _=>rfl,os:=hE.os,tape:=hE.tape,output:=hE.output,size:=hE.size,fr:=fun b hb _=>hfr b hb,wrm:=fun i m e hw=>hw,newb:=fun i m e0 e1=>(by rw [e0] at e1; cases e1),dd:=fun i m e hd=>hd }
 refine ⟨fun i m em=>?_,hR.inj,fun i m em=>Nat.lt_of_lt_of_le (hR.lt i m em) hE.size⟩
 have hb:=hR.blk i m em
 have hl:=hR.lt i m em
 unfold Z6P at hb ⊢
 rw [hfr m.b hl]
 exact hb
end Go.Ab


namespace Go.Ab
open Go
variable {P:Program}
@[simp] theorem boolK_bool {β:Type} (t:Bool) (a b:Option β):Z08 (.bool t) a b=cond t a b:=rfl
@[simp] theorem gv_bool (b w:Bool):gv (.bool b) w=some (b == w):=rfl
@[simp] theorem ret1_v {H:Type} (h:H) (c:Nat) (v:Value):Z6N h c (some v)=some (v,h,c):=rfl
@[simp] theorem pickV_bool (t:Bool) (a b:Value):Z0B (.bool t) a b=some (cond t a b):=rfl
@[simp] theorem pickR_bool {H:Type} (h:H) (c:Nat) (t:Bool) (a b:Value):Z8r h c (.bool t) a b=some (cond t a b,h,c):=rfl
@[simp] theorem exIs_nn:Z0u .normal .normal=true:=rfl
@[simp] theorem exIs_rr:Z0u .ret .ret=true:=rfl
@[simp] theorem exIs_nr:Z0u .normal .ret=false:=rfl
@[simp] theorem exIs_rn:Z0u .ret .normal=false:=rfl
@[simp] theorem exIs_ne (i:Nat):Z0u .normal (.exit i)=false:=rfl
@[simp] theorem exIs_re (i:Nat):Z0u .ret (.exit i)=false:=rfl
@[simp] theorem exIs_en (i:Nat):Z0u (.exit i) .normal=false:=rfl
@[simp] theorem exIs_er (i:Nat):Z0u (.exit i) .ret=false:=rfl
@[simp] theorem exIs_ee (i j:Nat):Z0u (.exit i) (.exit j)=decide (i=j):=by
 show Nat.beq i j=_
 rw [Bool.eq_iff_iff]; simp
@[simp] theorem v_zero {H:Type} (e:Ex) (v:Value) (vs:List Value) (h:H) (c:Nat) (df:List Nat):Rt.v { e:=e,vs:=v::vs,h:=h,c:=c,df:=df } 0=v:=rfl
@[simp] theorem v_succ {H:Type} (e:Ex) (v:Value) (vs:List Value) (h:H) (c:Nat) (df:List Nat) (i:Nat) :
 Rt.v { e:=e,vs:=v::vs,h:=h,c:=c,df:=df } (i+1)=Rt.v { e:=e,vs:=vs,h:=h,c:=c,df:=df } i:=rfl
@[simp] theorem aBinOp_lss (t:TypeId) (k:IntKind) (a b:Int):Z00 P .lss t (.int k a) (.int k b)=some (.bool (decide (a<b))):=by rw [Z0o]; simp [Z0F,Z1O]
@[simp] theorem aBinOp_leq (t:TypeId) (k:IntKind) (a b:Int):Z00 P .leq t (.int k a) (.int k b)=some (.bool (decide (a<=b))):=by rw [Z0o]; simp [Z0F,Z1O]
@[simp] theorem aBinOp_gtr (t:TypeId) (k:IntKind) (a b:Int):Z00 P .gtr t (.int k a) (.int k b)=some (.bool (decide (b<a))):=by rw [Z0o]; simp [Z0F,Z1O]
@[simp] theorem aBinOp_geq (t:TypeId) (k:IntKind) (a b:Int):Z00 P .geq t (.int k a) (.int k b)=some (.bool (decide (b<=a))):=by rw [Z0o]; simp [Z0F,Z1O]
@[simp] theorem aBinOp_eql (t:TypeId) (k:IntKind) (a b:Int):Z00 P .eql t (.int k a) (.int k b)=some (.bool (decide (a=b))):=by rw [Z0o]; simp only [Z0F,Z1O,decide_true,cond_true]; congr
@[simp] theorem aBinOp_neq (t:TypeId) (k:IntKind) (a b:Int):Z00 P .neq t (.int k a) (.int k b)=some (.bool (!decide (a=b))):=by rw [Z0o]; simp only [Z0F,Z1O,decide_true,cond_true]; congr
theorem Z97 (t:TypeId) (a b:Int):Z00 P .add t (.int .i64 a) (.int .i64 b)=some (.int .i64 (IntKind.i64.wrap (a+b))):=by rw [Z0o]; simp [Z0F,Z1O]
@[simp] theorem aBinOp_add (t:TypeId) (a b:Int) (h1:-9223372036854775808<=a+b) (h2:a+b<9223372036854775808):Z00 P .add t (.int .i64 a) (.int .i64 b)=some (.int .i64 (a+b)):=by
 rw [Z97,Z3Y h1 h2]
@[simp] theorem aBinOp_sub (t:TypeId) (a b:Int) (h1:-9223372036854775808<=a-b) (h2:a-b<9223372036854775808):Z00 P .sub t (.int .i64 a) (.int .i64 b)=some (.int .i64 (a-b)):=by
 rw [Z0o]; simp only [Z0F,Z1O,decide_true,cond_true,Z3Y h1 h2]
@[simp] theorem aBinOp_mul (t:TypeId) (a b:Int) (h1:-9223372036854775808<=a*b) (h2:a*b<9223372036854775808):Z00 P .mul t (.int .i64 a) (.int .i64 b)=some (.int .i64 (a*b)):=by
 rw [Z0o]; simp only [Z0F,Z1O,decide_true,cond_true,Z3Y h1 h2]
@[simp] theorem aBinOp_quo (t:TypeId) (a b:Int) (h:b ≠ 0) (h1:-9223372036854775808<=a.tdiv b) (h2:a.tdiv b<9223372036854775808):Z00 P .quo t (.int .i64 a) (.int .i64 b)=some (.int .i64 (a.tdiv b)):=by
 rw [Z0o]; simp only [Z0F,Z1O,decide_true,cond_true,Z3Y h1 h2,h,decide_false,cond_false]
@[simp] theorem aBinOp_rem (t:TypeId) (a b:Int) (h:b ≠ 0):Z00 P .rem t (.int .i64 a) (.int .i64 b)=some (.int .i64 (a.tmod b)):=by
 rw [Z0o]; simp only [Z0F,Z1O,decide_true,cond_true,h,decide_false,cond_false]
@[simp] theorem aUnOp_not (b:Bool):Z1X .not (.bool b)=some (.bool (!b)):=rfl
@[simp] theorem aUnOp_neg (a:Int) (h1:-9223372036854775808 <= -a) (h2:-a<9223372036854775808):Z1X .neg (.int .i64 a)=some (.int .i64 (-a)):=by
 simp only [Z1X,Int.zero_sub,Z3Y h1 h2]
@[simp] theorem cnvI_i64 (k:IntKind) (a:Int) (h1:-9223372036854775808<=a) (h2:a<9223372036854775808):cnvI .i64 (.int k a)=some (.int .i64 a):=by simp only [cnvI,Z3Y h1 h2]
@[simp] theorem foldV_max (a b:Int):Z5f max2 [.int .i64 a,.int .i64 b]=some (.int .i64 (max a b)):=by
 simp only [Z5f,List.foldlM,max2,decide_true,cond_true]
 show some (Value.int .i64 _)=_
 congr 2
 split <;> omega
@[simp] theorem foldV_min (a b:Int):Z5f min2 [.int .i64 a,.int .i64 b]=some (.int .i64 (min a b)):=by
 simp only [Z5f,List.foldlM,min2,decide_true,cond_true]
 show some (Value.int .i64 _)=_
 congr 2
 split <;> omega
@[simp] theorem lenS_sl (a:Option Addr) (n k:Nat):Z2d (.slice a n k)=some (.int .i64 n):=rfl
@[simp] theorem addOff_ptrTo (i n:Nat):Z04 (ptrTo i) n=some (.pointer (some ⟨i,n,none⟩)):=by simp [Z04,ptrTo,Z2F]
@[simp] theorem addOff_ptr (i o n:Nat):Z04 (.pointer (some ⟨i,o,none⟩)) n=some (.pointer (some ⟨i,o+n,none⟩)):=rfl
@[simp] theorem nilCheck_ptrTo (i:Nat):Z0e (ptrTo i)=some (ptrTo i):=rfl
@[simp] theorem nilCheck_ptr (i o:Nat):Z0e (.pointer (some ⟨i,o,none⟩))=some (.pointer (some ⟨i,o,none⟩)):=rfl
theorem Z6L {len:Nat} {k:IntKind} {i:Int} (h1:0<=i) (h2:i<(len:Int)):Zlv len (.int k i)=some i.toNat:=by
 unfold Zlv
 cases i with
 | ofNat m =>
  dsimp only
  have:Nat.blt m len=true:=by rw [Nat.blt_eq]; simpa using h2
  rw [this]; rfl
 | negSucc m=>simp at h1
@[simp] theorem ixA_ptrTo (len sz b:Nat) (k:IntKind) (i:Int) (h1:0<=i) (h2:i<(len:Int)):ixA len sz (ptrTo b) (.int k i)=some (.pointer (some ⟨b,i.toNat*sz,none⟩)):=by
 simp [ixA,Z6L h1 h2]
@[simp] theorem ixA_ptr (len sz b o:Nat) (k:IntKind) (i:Int) (h1:0<=i) (h2:i<(len:Int)):ixA len sz (.pointer (some ⟨b,o,none⟩)) (.int k i)=some (.pointer (some ⟨b,o+i.toNat*sz,none⟩)):=by
 simp [ixA,Z6L h1 h2]
@[simp] theorem ixS_sl (sz b o n cap:Nat) (k:IntKind) (i:Int) (h1:0<=i) (h2:i<(n:Int)):ixS sz (.slice (some ⟨b,o,none⟩) n cap) (.int k i)=some (.pointer (some ⟨b,o+i.toNat*sz,none⟩)):=by
 simp [ixS,Z6L h1 h2]
@[simp] theorem get_newB_same (h:FH) (i:Nat) (cs:List Value):HeapC.get (newB h i cs) i=some (.cells false none cs):=by simp [newB,HeapC.get_set]
@[simp] theorem get_newB_ne (h:FH) (i j:Nat) (cs:List Value) (hne:j ≠ i):HeapC.get (newB h i cs) j=HeapC.get h j:=by simp [newB,HeapC.get_set,hne]
theorem FH.ext {a b:FH} (h:∀ i,a.f i=b.f i):a=b:=by
 cases a; cases b
 congr
 exact funext h
theorem Z01 (h:FH) (i:Nat) (cs:List Value) (j:Nat):(newB h i cs).f j=if j=i then some (.cells false none cs) else h.f j:=HeapC.get_set (H:=FH) h i _ j
@[simp] theorem newB_newB (h:FH) (i:Nat) (a b:List Value):newB (newB h i a) i b=newB h i b:=by
 apply FH.ext
 intro j
 simp only [Z01]
 split <;> rfl
theorem newB_same (h:FH) (i:Nat) (cs:List Value) (hg:HeapC.get h i=some (.cells false none cs)):newB h i cs=h:=by
 apply FH.ext
 intro k
 rw [Z01]
 split
 · rename_i e; rw [e]; exact hg.symm
 · rfl
def Z0f (h:FH) (b:Nat) (cs:List Value):Prop:=∃ ro op,HeapC.get h b=some (.cells ro op cs)
theorem Z0f.newB_same (h:FH) (i:Nat) (cs:List Value):Z0f (newB h i cs) i cs:=⟨_,_,get_newB_same h i cs⟩
theorem Z0f.newB_ne {h:FH} {i j:Nat} {cs ds:List Value} (hne:j ≠ i) (hh:Z0f h j ds):Z0f (newB h i cs) j ds:=by
 obtain ⟨ro,op,e⟩:=hh
 exact ⟨ro,op,by rw [get_newB_ne h i j cs hne]; exact e⟩
theorem ld1_holds {h:FH} {b o:Nat} {cs:List Value} {v:Value} (hh:Z0f h b cs) (hv:cs[o]? = some v):ld1 h (.pointer (some ⟨b,o,none⟩))=some v:=by
 obtain ⟨ro,op,e⟩:=hh
 simp [ld1,Z2F,Z5T,Z0k,e,hv]
theorem ldN_holds {h:FH} {n b o:Nat} {cs:List Value} (hh:Z0f h b cs) (hv:o+n<=cs.length):ldN h n (.pointer (some ⟨b,o,none⟩))=some (.agg ((cs.drop o).take n).toArray):=by
 obtain ⟨ro,op,e⟩:=hh
 have:Nat.ble (o+n) cs.length=true:=Nat.ble_eq_true_of_le hv
 simp [ldN,Z2F,Z0I,Z0k,e,this]
@[simp] theorem ld1_newB_same (h:FH) (i o:Nat) (cs:List Value):ld1 (newB h i cs) (.pointer (some ⟨i,o,none⟩))=cs[o]?:=by simp [ld1,Z2F,Z5T,Z0k]
@[simp] theorem ld1_newB_ne (h:FH) (i j o:Nat) (cs:List Value) (hne:j ≠ i):ld1 (newB h i cs) (.pointer (some ⟨j,o,none⟩))=ld1 h (.pointer (some ⟨j,o,none⟩)):=by simp [ld1,Z2F,Z5T,Z0k,hne]
@[simp] theorem ld1_ptrTo (h:FH) (i:Nat):ld1 h (ptrTo i)=ld1 h (.pointer (some ⟨i,0,none⟩)):=rfl
@[simp] theorem ldN_ptrTo (h:FH) (n i:Nat):ldN h n (ptrTo i)=ldN h n (.pointer (some ⟨i,0,none⟩)):=rfl
@[simp] theorem ldN_newB_same (h:FH) (n i o:Nat) (cs:List Value) (hl:o+n<=cs.length):ldN (newB h i cs) n (.pointer (some ⟨i,o,none⟩))=some (.agg ((cs.drop o).take n).toArray) :=
 ldN_holds (Z0f.newB_same h i cs) hl
@[simp] theorem ldN_newB_ne (h:FH) (n i j o:Nat) (cs:List Value) (hne:j ≠ i):ldN (newB h i cs) n (.pointer (some ⟨j,o,none⟩))=ldN h n (.pointer (some ⟨j,o,none⟩)):=by simp [ldN,Z2F,Z0I,Z0k,hne]
theorem Z0z (h:FH) (n i o:Nat) (cs:List Value) (x:Value) (h1:x.cells.size=n) (h2:o+n<=cs.length) (h3:x.cells.toList.all Z07=true) :
 stN (newB h i cs) n (.pointer (some ⟨i,o,none⟩)) x=some (newB h i (Z0W cs o x.cells.toList)):=by
 have a:Nat.beq x.cells.size n=true:=by rw [h1]; exact Nat.beq_refl n
 have b:Nat.ble (o+x.cells.toList.length) cs.length=true:=Nat.ble_eq_true_of_le (by simpa [h1] using h2)
 simp only [stN,Z2F,Option.bind_some,a,cond_true,Z2D,get_newB_same,b,h3,Bool.and_self]
 have:=newB_newB h i cs (Z0W cs o x.cells.toList)
 simp only [newB] at this ⊢
 rw [this]
@[simp] theorem stN_newB_ne (h:FH) (n i j o:Nat) (cs:List Value) (x:Value) (hne:j ≠ i) :
 stN (newB h i cs) n (.pointer (some ⟨j,o,none⟩)) x=(stN h n (.pointer (some ⟨j,o,none⟩)) x).map fun h'=>newB h' i cs:=by
 simp only [stN,Z2F,Option.bind_some]
 cases Nat.beq x.cells.size n with
 | false=>rfl
 | true =>
  simp only [cond_true,Z2D,get_newB_ne h i j cs hne]
  split
  · rename_i op c _
    cases Nat.ble (o+x.cells.toList.length) c.length && x.cells.toList.all Z07 with
    | false=>rfl
    | true =>
     simp only [cond_true,Option.map_some]
     congr 1
     apply FH.ext
     intro k
     have g:∀ (h:FH) (i:Nat) (b:ABlk) (k:Nat),(HeapC.set h i b).f k=if k=i then some b else h.f k:=fun h i b k=>HeapC.get_set (H:=FH) h i b k
     simp only [Z01,g]
     by_cases hk:k=j
     · have h2:¬ k=i:=by omega
       rw [if_pos hk,if_neg h2,if_pos hk]
     · rw [if_neg hk,if_neg hk]
  · rfl
@[simp] theorem stN_ptrTo (h:FH) (n i:Nat) (x:Value):stN h n (ptrTo i) x=stN h n (.pointer (some ⟨i,0,none⟩)) x:=rfl
theorem Zff (c:Nat) (h A:FH) (i:Nat):(mrg c h A).f i=if i<256*c then h.f i else A.f i:=rfl
@[simp] theorem mrg_self (c:Nat) (A:FH):mrg c A A=A:=by
 apply FH.ext; intro i; rw [Zff]; split <;> rfl
@[simp] theorem mrg_new (c:Nat) (h A:FH) (i:Nat) (cs:List Value) (hi:256*c<=i):mrg c (newB h i cs) A=mrg c h A:=by
 apply FH.ext; intro j
 rw [Zff,Zff,Z01]
 split
 · rw [if_neg qO]
 · rfl
@[simp] theorem mrg_old (c:Nat) (h A:FH) (i:Nat) (cs:List Value) (hi:i<256*c):mrg c (newB h i cs) A=newB (mrg c h A) i cs:=by
 apply FH.ext; intro j
 simp only [Zff,Z01]
 by_cases e:j=i
 · rw [if_pos e,if_pos e,if_pos qO]
 · rw [if_neg e,if_neg e]
theorem GcH.refl (c:Nat) (A:FH):GcH c A A:=fun _ _=>.inl rfl
theorem GcH.new {c i:Nat} {h A:FH} {cs:List Value} (hi:256*c<=i) (hh:GcH c h A):GcH c (newB h i cs) A:=by
 intro j hj
 rw [Z01,if_neg qO]
 exact hh j hj
theorem GcH.old {c i:Nat} {h A:FH} {cs:List Value} (hc:Z1F c cs) (hh:GcH c h A):GcH c (newB h i cs) A:=by
 intro j hj
 rw [Z01]
 split
 · exact .inr hc
 · exact hh j hj
def ints (l:List Int):List Value:=l.map (.int .i64)
@[simp] theorem ints_length (l:List Int):(ints l).length=l.length:=by simp [ints]
theorem Z4K (l:List Int) (i:Nat):(ints l)[i]? = l[i]?.map (.int .i64):=by simp [ints]
theorem Z0Q (l:List Int):(ints l).all Z07=true:=by simp [ints,Z07]
theorem Z1F.ints (c:Nat) (l:List Int):Z1F c (ints l):=by
 intro v hv
 obtain ⟨n,_,rfl⟩:=List.mem_map.1 hv
 exact OkV.int c _ n
theorem Z1a (l:List Int) (n:Nat):(ints l).drop n=ints (l.drop n):=by simp [ints]
theorem Z0G (l:List Int) (n:Nat):(ints l).take n=ints (l.take n):=by simp [ints]
theorem Z3S (l m:List Int):ints l++ints m=ints (l++m):=by simp [ints]
theorem Z1Z (l:List Int) (i:Nat) (x:Int):(ints l).set i (.int .i64 x)=ints (l.set i x):=by simp [ints,List.map_set]
theorem Z4b (cs:List Value) (o:Nat) (v:Value) (h:o<cs.length):Z0W cs o [v]=cs.set o v:=by
 unfold Z0W
 rw [List.set_eq_take_append_cons_drop,if_pos h]
 simp
@[simp] theorem ints_getElem (l:List Int) (i:Nat) (h:i<(ints l).length):(ints l)[i] = .int .i64 (l[i]'(by simpa using h)):=by simp [ints]
def av (l:List Int):Value:=.agg (ints l).toArray
theorem ZnM (l:List Int):(av l).cells.toList.all Z07=true:=by simp [av,Value.cells,ints,Z07]
theorem Z1y (l:List Int):(av l).cells.toList=ints l:=by simp [av,Value.cells]
theorem Zi9 (l:List Int):(av l).cells.size=l.length:=by simp [av,Value.cells]
theorem OkV.av (c:Nat) (l:List Int):OkV c (av l):=OkV.agg (Z1F.ints c l)
theorem Zef (l:List Int) (len:Nat) (k:IntKind) (i:Int) (h1:0<=i) (h2:i<(len:Int)) (h3:l.length=len):ixV len false 1 (av l) (.int k i)=some (.int .i64 (l.getD i.toNat 0)):=by
 have h4:i.toNat<l.length:=by omega
 have h5:(ints l)[i.toNat*1]? = some (.int .i64 (l.getD i.toNat 0)):=by rw [Nat.mul_one,Z4K,List.getElem?_eq_getElem h4]; simp [List.getD,List.getElem?_eq_getElem h4]
 simp only [ixV,av,ZnN,Option.bind_some,Z6L h1 h2,Zfe,cond_false,List.toList_toArray]
 exact h5
theorem Z8F (l:List Int) (len sz:Nat) (k:IntKind) (i:Int) (h1:0<=i) (h2:i<(len:Int)) (h3:l.length=len*sz):ixV len true sz (av l) (.int k i)=some (av ((l.drop (i.toNat*sz)).take sz)):=by
 have h4:i.toNat<len:=by omega
 have h5:i.toNat*sz+sz<=len*sz:=by have:=Nat.mul_le_mul_right sz (Nat.succ_le_of_lt h4); rw [Nat.succ_mul] at this; exact this
 have h6:Nat.ble (i.toNat*sz+sz) (ints l).length=true:=Nat.ble_eq_true_of_le (by simpa [h3] using h5)
 simp only [ixV,av,ZnN,Option.bind_some,Z6L h1 h2,Zfe,cond_true,List.toList_toArray,h6,Z1a,Z0G]
def Z0s (c:Nat) (h h':FH):Prop:=∀ i,i<256*c->h'.f i=h.f i
theorem Z0s.refl (c:Nat) (h:FH):Z0s c h h:=fun _ _=>rfl
theorem Z0s.newB {c i:Nat} {h h':FH} {cs:List Value} (hi:256*c<=i) (hh:Z0s c h h'):Z0s c h (newB h' i cs):=by
 intro j hj
 rw [Z01,if_neg qO]
 exact hh j hj
theorem Z0b (h:FH) (i:Nat) (b:ABlk) (j:Nat):(HeapC.set h i b).f j=if j=i then some b else h.f j:=HeapC.get_set (H:=FH) h i b j
theorem Z6G (h:FH) (i:Nat) (j:Nat):(HeapC.del h i).f j=if j=i then none else h.f j:=HeapC.get_del (H:=FH) h i j
theorem Z0s.set {c i:Nat} {h h':FH} {b:ABlk} (hi:256*c<=i) (hh:Z0s c h h'):Z0s c h (HeapC.set h' i b):=by
 intro j hj
 rw [Z0b,if_neg qO]
 exact hh j hj
theorem Z0s.mono {c c':Nat} {h h':FH} (hc:c<=c') (hh:Z0s c' h h'):Z0s c h h':=fun i hi=>hh i qO
theorem Z0s.trans {c:Nat} {a b d:FH} (h:Z0s c a b) (k:Z0s c b d):Z0s c a d:=fun i hi=>(k i hi).trans (h i hi)
def SlI (h:FH) (c:Nat) (s:Value) (sz n:Nat) (G:List Int):Prop :=
 G.length=n*sz/\n<=9223372036854775807 /\ ∃ a cap,s = .slice a n cap/\(n=0/\OkV c s ∨ ∃ b o cs,a=some ⟨b,o,none⟩/\b<256*c/\Z0f h b cs/\(cs.drop o).take (n*sz)=ints G)
theorem SlI.same {h h':FH} {c:Nat} {s:Value} {sz n:Nat} {G:List Int} (hs:SlI h c s sz n G) (hh:Z0s c h h'):SlI h' c s sz n G:=by
 obtain ⟨h1,h2,a,cap,h3,h4⟩:=hs
 refine ⟨h1,h2,a,cap,h3,h4.imp id ?_⟩
 rintro ⟨b,o,cs,e1,e2,⟨ro,op,e3⟩,e4⟩
 exact ⟨b,o,cs,e1,e2,⟨ro,op,(hh b e2).trans e3⟩,e4⟩
theorem SlI.mono {h:FH} {c c':Nat} {s:Value} {sz n:Nat} {G:List Int} (hs:SlI h c s sz n G) (hc:c<=c'):SlI h c' s sz n G:=by
 obtain ⟨h1,h2,a,cap,h3,h4⟩:=hs
 refine ⟨h1,h2,a,cap,h3, ?_⟩
 rcases h4 with ⟨e,v',hv⟩ | ⟨b,o,cs,e1,e2,e3,e4⟩
 · refine .inl ⟨e, ?_⟩
   subst h3
   cases a with
   | none=>exact OkV.sl0 _ _ _
   | some a =>
    cases hv with
    | sl h _ _=>exact OkV.sl (by have:=ZaE (c:=c) (i:=_) (by rw [h]; simp); omega)
    | slE h=>exact OkV.sl (by have:=ZaE (c:=c) (i:=_) (by rw [h]; simp); omega)
 · exact .inr ⟨b,o,cs,e1,by omega,e3,e4⟩
theorem SlI.okV {h:FH} {c:Nat} {s:Value} {sz n:Nat} {G:List Int} (hs:SlI h c s sz n G):OkV c s:=by
 obtain ⟨h1,h2,a,cap,rfl,h4⟩:=hs
 rcases h4 with ⟨e,hv⟩ | ⟨b,o,cs,rfl,e2,e3,e4⟩
 · exact hv
 · exact OkV.sl e2
theorem SlI.len {h:FH} {c:Nat} {s:Value} {sz n:Nat} {G:List Int} (hs:SlI h c s sz n G):Z2d s=some (.int .i64 n):=by
 obtain ⟨h1,h2,a,cap,rfl,h4⟩:=hs
 rfl
theorem SlI.ix {h:FH} {c:Nat} {s:Value} {sz n:Nat} {G:List Int} (hs:SlI h c s sz n G) (k:IntKind) (i:Int) (h1:0<=i) (h2:i<(n:Int)) :
 ∃ b o cs,ixS sz s (.int k i)=some (.pointer (some ⟨b,o+i.toNat*sz,none⟩))/\b<256*c/\Z0f h b cs/\(cs.drop o).take (n*sz)=ints G:=by
 obtain ⟨g1,g2,a,cap,rfl,h4⟩:=hs
 rcases h4 with ⟨e,hv⟩ | ⟨b,o,cs,rfl,e2,e3,e4⟩
 · omega
 · exact ⟨b,o,cs,ixS_sl sz b o n cap k i h1 h2,e2,e3,e4⟩
theorem Zm9 {cs:List Value} {o m:Nat} {G:List Int} (e:(cs.drop o).take m=ints G) {j:Nat} (hj:j<G.length):cs[o+j]? = some (.int .i64 (G.getD j 0)):=by
 have h1:((cs.drop o).take m)[j]? = some (.int .i64 (G.getD j 0)):=by
  rw [e,Z4K,List.getElem?_eq_getElem hj]; simp [List.getD,List.getElem?_eq_getElem hj]
 have hjm:j<m:=by
  have:=(List.getElem?_eq_some_iff.1 h1).1
  simp at this; omega
 rw [List.getElem?_take_of_lt hjm,List.getElem?_drop] at h1
 exact h1
theorem Zm8 {cs:List Value} {o m:Nat} {G:List Int} (e:(cs.drop o).take m=ints G) (h:0<G.length):o+G.length<=cs.length:=by
 have:=congrArg List.length e
 simp at this; omega
theorem Zgi {cs:List Value} {o m:Nat} {G:List Int} (e:(cs.drop o).take m=ints G) {j q:Nat} (hj:j+q<=G.length):(cs.drop (o+j)).take q=ints ((G.drop j).take q):=by
 rw [← Z0G,← Z1a,← e,List.drop_take,List.drop_drop,List.take_take]
 have hm:G.length<=m:=by have:=congrArg List.length e; simp at this; omega
 congr 1
 omega
theorem ZmJ {h:FH} {b o m:Nat} {cs:List Value} {G:List Int} (hh:Z0f h b cs) (e:(cs.drop o).take m=ints G) {j:Nat} (hj:j<G.length):ld1 h (.pointer (some ⟨b,o+j,none⟩))=some (.int .i64 (G.getD j 0)) :=
 ld1_holds hh (Zm9 e hj)
theorem ZaH {h:FH} {b o m q:Nat} {cs:List Value} {G:List Int} (hh:Z0f h b cs) (e:(cs.drop o).take m=ints G) {j:Nat} (hj:j+q<=G.length) (hq:0<q):ldN h q (.pointer (some ⟨b,o+j,none⟩))=some (av ((G.drop j).take q)):=by
 have:=Zm8 e qO
 rw [ldN_holds hh qO,Zgi e hj]
 rfl
theorem Z1t {A:FH} {c:Nat} {df:List Nat} {e:Ex} {vs:List Value} {c':Nat} (h1:Z1F c vs):gcR A c df { e:=e,vs:=vs,h:=A,c:=c',df:=df } = { e:=e,vs:=vs,h:=A,c:=c,df:=df }:=by
 rw [Zhg h1 (GcH.refl c A),mrg_self]
theorem Z0c {o:Orc FH} {g:FuncId} {args:List Value} {h h':FH} {c c':Nat} {v:Value} {e:Ex} {df:List Nat} (e1:o (.fn g) args h c []=some { e:=e,vs:=[v],h:=h',c:=c',df:=df }):callF o g args h c=some (v,h',c'):=by
 simp only [callF,e1,Option.bind_some]
attribute [simp] OkV.bool OkV.int OkV.str OkV.ptr0 OkV.sl0 OkV.map0 OkV.nilFunc Z1F.nil Z1F.cons_iff OkV.av Z1F.ints OkV.ptr OkV.ptrTo OkV.sl OkV.map GcH.refl ZnM Z1y Zi9
def Ans {α:Type} (x:Option α) (Q:α->Prop):Prop:=∃ r,x=some r/\Q r
theorem Ans.intro {α:Type} {x:Option α} {Q:α->Prop} {r:α} (h:x=some r) (hq:Q r):Ans x Q:=⟨r,h,hq⟩
theorem Ans.mono {α:Type} {x:Option α} {Q Q':α->Prop} (h:Ans x Q) (hq:∀ r,Q r->Q' r):Ans x Q':=let ⟨r,a,b⟩:=h; ⟨r,a,hq r b⟩
@[simp] theorem Ans_some {α:Type} {r:α} {Q:α->Prop}:Ans (some r) Q ↔ Q r:=⟨fun ⟨_,e,h⟩=>by cases e; exact h,fun h=>⟨r,rfl,h⟩⟩
theorem Ans.eq {α:Type} {x:Option α} {r:α} (h:Ans x (fun q=>q=r)):x=some r:=by
 obtain ⟨q,e,rfl⟩:=h
 exact e
theorem Z5B {A h:FH} {c:Nat} {df:List Nat} {e:Ex} {vs:List Value} {c':Nat} (h1:Z1F c vs) (h2:Z0s c A h):gcR A c df { e:=e,vs:=vs,h:=h,c:=c',df:=df } = { e:=e,vs:=vs,h:=A,c:=c,df:=df }:=by
 rw [Zhg h1 (fun i hi=>.inl (h2 i hi))]
 have:mrg c h A=A:=by
  apply FH.ext
  intro i
  rw [Zff]
  split
  · rename_i hi; exact h2 i hi
  · rfl
 rw [this]
theorem Z67 {X S:Option (Rt FH)} {h:FH} {c:Nat} {v:Value} (hgo:∀ r,S=some r->X=some (gcR h c [] r)) (hv:OkV c v) (hS:Ans S (fun r=>r.e = .ret/\r.vs=[v]/\Z0s c h r.h/\r.df=[])) :
 X=some { e:=.ret,vs:=[v],h:=h,c:=c,df:=[] }:=by
 obtain ⟨⟨re,rv,rh,rc,rd⟩,e,h1,h2,h3,h4⟩:=hS
 simp only at h1 h2 h3 h4
 subst h1 h2 h4
 rw [hgo _ e,Z5B (Z1F.cons hv (Z1F.nil c)) h3]
attribute [simp] Z0s.refl
@[simp] theorem Same_newB {c i:Nat} {h h':FH} {cs:List Value} (hi:256*c<=i):Z0s c h (newB h' i cs) ↔ Z0s c h h':=by
 refine ⟨fun hh j hj=>?_,fun hh=>hh.newB hi⟩
 have:=hh j hj
 rw [Z01,if_neg qO] at this
 exact this
@[simp] theorem Same_set {c i:Nat} {h h':FH} {b:ABlk} (hi:256*c<=i):Z0s c h (HeapC.set h' i b) ↔ Z0s c h h':=by
 refine ⟨fun hh j hj=>?_,fun hh=>hh.set hi⟩
 have:=hh j hj
 rw [Z0b,if_neg qO] at this
 exact this
attribute [simp] Z0Q Z0G Z1a
@[simp] theorem agg_ints (l:List Int):Value.agg (ints l).toArray=av l:=rfl
@[simp] theorem takeAll_nil {H:Type} [HeapC H] (h:H):Z09 h []=some h:=rfl
def Z42 (c:Nat) (A B:FH):Prop:=∀ i,(256*c<=i->B.f i=A.f i)/\(i<256*c->B.f i=A.f i ∨ OkB c (B.f i))
@[simp] theorem Z42.refl (c:Nat) (A:FH):Z42 c A A:=fun _=>⟨fun _=>rfl,fun _=>.inl rfl⟩
theorem Z42.old {c b:Nat} {A B:FH} {cs:List Value} (hb:b<256*c) (hc:Z1F c cs) (h:Z42 c A B):Z42 c A (newB B b cs):=by
 intro i
 rw [Z01]
 refine ⟨fun hi=>?_,fun hi=>?_⟩
 · rw [if_neg qO]; exact (h i).1 hi
 · split
   · exact .inr hc
   · exact (h i).2 hi
theorem Z42.both {c b:Nat} {A B:FH} {ds cs:List Value} (hc:Z1F c cs) (h:Z42 c A B) (hb:b<256*c):Z42 c (newB A b ds) (newB B b cs):=by
 intro i
 rw [Z01,Z01]
 refine ⟨fun hi=>?_,fun hi=>?_⟩
 · rw [if_neg qO,if_neg qO]; exact (h i).1 hi
 · by_cases e:i=b
   · rw [if_pos e]; exact .inr hc
   · rw [if_neg e,if_neg e]; exact (h i).2 hi
theorem Zem {A h B:FH} {c:Nat} {df:List Nat} {e:Ex} {vs:List Value} {c':Nat} (h1:Z1F c vs) (h2:Z0s c B h) (h3:Z42 c A B):gcR A c df { e:=e,vs:=vs,h:=h,c:=c',df:=df } = { e:=e,vs:=vs,h:=B,c:=c,df:=df }:=by
 rw [Zhg h1 (fun i hi=>by rw [h2 i hi]; exact (h3 i).2 hi)]
 have:mrg c h A=B:=by
  apply FH.ext
  intro i
  rw [Zff]
  split
  · rename_i hi; exact h2 i hi
  · exact ((h3 i).1 qO).symm
 rw [this]
theorem Zcz {h:FH} {b c:Nat} {df:List Nat} {e:Ex} {vs cs cs':List Value} {c':Nat} (hb:b<256*c) (h1:Z1F c vs) (h2:Z1F c cs') :
 gcR (newB h b cs) c df { e:=e,vs:=vs,h:=newB h b cs',c:=c',df:=df } = { e:=e,vs:=vs,h:=newB h b cs',c:=c,df:=df } :=
 Zem h1 (Z0s.refl _ _) (Z42.both h2 (Z42.refl _ _) hb)
theorem ZbM (a:Int) (l:List Int):ints (a::l) = .int .i64 a::ints l:=rfl
theorem Zek:ints []=[]:=rfl
@[simp] theorem st1_int (h:FH) (i o:Nat) (cs:List Value) (k:IntKind) (x:Int) (ho:o<cs.length):stN (newB h i cs) 1 (.pointer (some ⟨i,o,none⟩)) (.int k x)=some (newB h i (cs.set o (.int k x))):=by
 rw [Z0z h 1 i o cs (.int k x) rfl qO rfl]
 show some (newB h i (Z0W cs o [.int k x]))=_
 rw [Z4b cs o _ ho]
@[simp] theorem st1_bool (h:FH) (i o:Nat) (cs:List Value) (x:Bool) (ho:o<cs.length):stN (newB h i cs) 1 (.pointer (some ⟨i,o,none⟩)) (.bool x)=some (newB h i (cs.set o (.bool x))):=by
 rw [Z0z h 1 i o cs (.bool x) rfl qO rfl]
 show some (newB h i (Z0W cs o [.bool x]))=_
 rw [Z4b cs o _ ho]
@[simp] theorem ints_set' (l:List Int) (i:Nat) (x:Int):(ints l).set i (.int .i64 x)=ints (l.set i x):=Z1Z l i x
@[simp] theorem stN_all (h:FH) (i n:Nat) (cs:List Value) (l:List Int) (h1:l.length=n) (h2:cs.length=n):stN (newB h i cs) n (.pointer (some ⟨i,0,none⟩)) (av l)=some (newB h i (ints l)):=by
 rw [Z0z h n i 0 cs (av l) (by simp [h1]) qO (by simp)]
 simp only [Z1y,Z0W,List.take_zero,List.nil_append,Nat.zero_add,ints_length]
 rw [List.drop_of_length_le qO,List.append_nil]
@[simp] theorem isFlat_int (k:IntKind) (n:Int):Z07 (.int k n)=true:=rfl
@[simp] theorem isFlat_bool (n:Bool):Z07 (.bool n)=true:=rfl
@[simp] theorem isFlat_sl (a:Option Addr) (n k:Nat):Z07 (.slice a n k)=true:=rfl
@[simp] theorem isFlat_ptr (a:Option Addr):Z07 (.pointer a)=true:=rfl
theorem ZnL (a b:Int):Z1z [(.int .i64 0),(.int .i64 0)] [(0,1,.int .i64 a),(1,1,.int .i64 b)]=some (av [a,b]):=(rfl)
theorem ZnW (a:Int) (p:List Int) (hp:p.length=4):Z1z [(.int .i64 0),(.int .i64 0),(.int .i64 0),(.int .i64 0),(.int .i64 0)] [(0,1,.int .i64 a),(1,4,av p)]=some (av (a::p)):=by
 match p,hp with
 | [a,b,c,d],_=>rfl
theorem Ans.step {α β:Type} {x:Option α} {v:α} {f:α->Option β} {Q:β->Prop} (h:x=some v) (k:Ans (f v) Q):Ans (x.bind f) Q:=by rw [h]; exact k
theorem Ans.bt {β:Type} {v:Value} {x y:Option β} {Q:β->Prop} (h:v = .bool true) (k:Ans x Q):Ans (Z08 v x y) Q:=by rw [h]; exact k
theorem Ans.bf {β:Type} {v:Value} {x y:Option β} {Q:β->Prop} (h:v = .bool false) (k:Ans y Q):Ans (Z08 v x y) Q:=by rw [h]; exact k
theorem Ans.ct {β:Type} {b:Bool} {x y:Option β} {Q:β->Prop} (h:b=true) (k:Ans x Q):Ans (cond b x y) Q:=by rw [h]; exact k
theorem Ans.cf {β:Type} {b:Bool} {x y:Option β} {Q:β->Prop} (h:b=false) (k:Ans y Q):Ans (cond b x y) Q:=by rw [h]; exact k
theorem Ans.done {α:Type} {r:α} {Q:α->Prop} (h:Q r):Ans (some r) Q:=⟨r,rfl,h⟩
theorem Ans.head {α β:Type} {x:Option α} {f:α->Option β} {Q:β->Prop} {R:α->Prop} (h:Ans x R) (k:∀ a,R a->Ans (f a) Q):Ans (x.bind f) Q:=by
 obtain ⟨a,e,hr⟩:=h
 exact Ans.step e (k a hr)
@[simp] theorem ints_getD (l:List Int) (o:Nat) (h:o<l.length):(ints l)[o]? = some (.int .i64 (l.getD o 0)):=by
 rw [Z4K,List.getElem?_eq_getElem h]; simp [List.getD,List.getElem?_eq_getElem h]
end Go.Ab

namespace Go.Ab
open Go
def s4 {α β:Type} (a b c d:α) (x:Nat) (k:α->Option β):Option β :=
 cond (Nat.beq x 0) (k a) (cond (Nat.beq x 1) (k b) (cond (Nat.beq x 2) (k c) (cond (Nat.beq x 3) (k d) none)))
theorem Zm1 {Q:Nat->Nat->Nat->Nat->Bool} (h:((List.range 256).all fun n=>Q (n / 64) (n / 16 % 4) (n / 4 % 4) (n % 4))=true) {a b c d:Nat} (ha:a<4) (hb:b<4) (hc:c<4) (hd:d<4):Q a b c d=true:=by
 have:=List.all_eq_true.1 h (64*a+16*b+4*c+d) (by simp; omega)
 have e1:(64*a+16*b+4*c+d) / 64=a:=by omega
 have e2:(64*a+16*b+4*c+d) / 16 % 4=b:=by omega
 have e3:(64*a+16*b+4*c+d) / 4 % 4=c:=by omega
 have e4:(64*a+16*b+4*c+d) % 4=d:=by omega
 simpa only [e1,e2,e3,e4] using this
end Go.Ab

namespace Go.Ab
open Go
def orB (a b:Int):Int:=IntKind.i64.wrap ((BitVec.ofInt 64 a ||| BitVec.ofInt 64 b).toNat)
def shB (x:Int):Int:=IntKind.i64.wrap (1*2 ^ (min x.toNat 64))
def Z6i:List Int->Int->Option Int
 | [],m=>some m
 | x::xs,m=>if x<0 ∨ 3<x then none else Z6i xs (orB m (shB x))
def Z0N (p:List Int):Bool:=decide (Z6i p 0=some 15)
def Zfj:List Int->Nat->List Int->List Int
 | [],_,out=>out
 | x::xs,i,out=>Zfj xs (i+1) (out.set x.toNat i)
theorem Z3R:∀ (p:List Int) (i:Nat) (out:List Int),(Zfj p i out).length=out.length
 | [],_,_=>rfl
 | x::xs,i,out=>by rw [Zfj,Z3R]; simp
def inv (p:List Int):List Int:=Zfj p 0 [0,0,0,0]
def InR (p:List Int):Prop:=∀ x ∈ p,0<=x/\x<4
def Z0S (p q:List Int):List Int:=q.map fun x=>p.getD x.toNat 0
def Z03 (Gl:List Int) (t f:Nat):List Int:=(Gl.drop (20*t+5*f)).take 5
def Z66 (Gl:List Int) (t:Nat):List Int:=(Gl.drop (20*t)).take 20
theorem Z0j {Gl:List Int} {n t f:Nat} (hG:Gl.length=n*20) (ht:t<n) (hf:f<4):(Z03 Gl t f).length=5:=by
 simp [Z03]; omega
theorem Z4H {Gl:List Int} {n t:Nat} (hG:Gl.length=n*20) (ht:t<n):(Z66 Gl t).length=20:=by
 simp [Z66]; omega
theorem Zaz {Gl:List Int} {t f:Nat} (hf:f<4):((Z66 Gl t).drop (f*5)).take 5=Z03 Gl t f:=by
 unfold Z66 Z03
 rw [List.drop_take,List.drop_drop,List.take_take]
 congr 1
 · omega
 · congr 1; omega
theorem Ans.bind {α β:Type} {x:Option α} {f:α->Option β} {Q:β->Prop} (h:Ans x (fun a=>Ans (f a) Q)):Ans (x.bind f) Q:=by
 obtain ⟨a,e,b,e2,hq⟩:=h
 exact ⟨b,by rw [e]; exact e2,hq⟩
theorem Z7r:∀ (p:List Int) (m m':Int),Z6i p m=some m'->InR p
 | [],_,_,_=>fun x hx=>by cases hx
 | x::xs,m,m',e=>by
  simp only [Z6i] at e
  by_cases h:x<0 ∨ 3<x
  · rw [if_pos h] at e; cases e
  · rw [if_neg h] at e
    intro y hy
    rcases List.mem_cons.1 hy with rfl | hy
    · omega
    · exact Z7r xs _ _ e y hy
theorem Z2v {p:List Int} (h:Z0N p=true):InR p:=by
 unfold Z0N at h
 exact Z7r p 0 15 (by simpa using h)
def Z0x (x:List Int):Int:=x.getD 0 0
def Z0d (x:List Int):List Int:=(x.drop 1).take 4
theorem Z0X {x:List Int} (h:x.length=5):(Z0d x).length=4:=by simp [Z0d,h]
def Z6X:List Int:=[-1,0,0,0,0]
def Z0n (Gl:List Int) (n t f:Nat):Bool :=
 decide (Z03 Gl t f=Z6X) ||
 (decide (0<=Z0x (Z03 Gl t f)) && decide (Z0x (Z03 Gl t f)<n) && Z0N (Z0d (Z03 Gl t f)) &&
  !(decide (Z0x (Z03 Gl t f)=t) && decide ((Z0d (Z03 Gl t f)).getD f 0=f)) &&
  decide (Z03 Gl (Z0x (Z03 Gl t f)).toNat ((Z0d (Z03 Gl t f)).getD f 0).toNat=(t:Int)::inv (Z0d (Z03 Gl t f))))
def ZgO (Gl:List Int) (n:Nat) (k:Nat):Prop:=∀ j,j<k->Z0n Gl n (j / 4) (j % 4)=true
def Z0v (Gl:List Int) (n:Nat):Bool:=(List.range (4*n)).all fun j=>Z0n Gl n (j / 4) (j % 4)
theorem Z5m (Gl:List Int) (n:Nat):Z0v Gl n=true ↔ ZgO Gl n (4*n):=by simp [Z0v,ZgO]
def bools (l:List Bool):List Value:=l.map .bool
theorem Z7I (l:List Bool):(bools l).length=l.length:=by simp [bools]
theorem Z1F.bools (c:Nat) (l:List Bool):Z1F c (bools l):=by
 intro v hv
 simp only [Go.Ab.bools,List.mem_map] at hv
 obtain ⟨b,_,rfl⟩:=hv
 exact OkV.bool c b
theorem ZbR (l:List Bool) (i:Nat) (x:Bool):(bools l).set i (.bool x)=bools (l.set i x):=by simp [bools,List.map_set]
theorem Z92 (l:List Bool) (o:Nat) (h:o<l.length):(bools l)[o]? = some (.bool (l.getD o false)):=by
 simp [bools,List.getD,List.getElem?_eq_getElem h]
def ZiN:List Int->List Bool->Bool
 | [],_=>true
 | x::xs,met=>if x<0 ∨ 3<x then false else if met.getD x.toNat false=true then false else ZiN xs (met.set x.toNat true)
theorem Zdt:∀ (p:List Int) (m:List Bool),(∃ x ∈ p,x<0 ∨ 3<x)->ZiN p m=false
 | [],m,h=>by obtain ⟨x,hx,_⟩:=h; cases hx
 | y::p,m,h=>by
  unfold ZiN
  by_cases h1:y<0 ∨ 3<y
  · rw [if_pos h1]
  · rw [if_neg h1]
    split
    · rfl
    · refine Zdt p _ ?_
      obtain ⟨x,hx,h2⟩:=h
      rcases List.mem_cons.1 hx with rfl | hx
      · exact absurd h2 h1
      · exact ⟨x,hx,h2⟩
theorem Zf1 {p:List Int} (h:∃ x ∈ p,x<0 ∨ 3<x):Z0N p=false:=by
 cases hv:Z0N p with
 | false=>rfl
 | true =>
  obtain ⟨x,hx,h2⟩:=h
  have:=Z2v hv x hx
  omega
theorem Zmu (p:List Int) (hp:p.length=4):ZiN p [false,false,false,false]=Z0N p:=by
 by_cases h:∃ x ∈ p,x<0 ∨ 3<x
 · rw [Zdt p _ h,Zf1 h]
 · match p,hp with
   | [a,b,c,d],_ =>
    have hh:∀ x ∈ [a,b,c,d],0<=x/\x<4:=fun x hx=>by
     by_cases h2:x<0 ∨ 3<x
     · exact absurd ⟨x,hx,h2⟩ h
     · omega
    have ha:=hh a (by simp)
    have hb:=hh b (by simp)
    have hc:=hh c (by simp)
    have hd:=hh d (by simp)
    have:=Zm1 (Q:=fun a b c d=>ZiN [(a:Int),(b:Int),(c:Int),(d:Int)] [false,false,false,false] == Z0N [(a:Int),(b:Int),(c:Int),(d:Int)]) (by kernel_rfl)
     (a:=a.toNat) (b:=b.toNat) (c:=c.toNat) (d:=d.toNat) qO qO qO qO
    simp only [beq_iff_eq] at this
    have ea:((a.toNat:Nat):Int)=a:=by omega
    have eb:((b.toNat:Nat):Int)=b:=by omega
    have ec:((c.toNat:Nat):Int)=c:=by omega
    have ed:((d.toNat:Nat):Int)=d:=by omega
    rw [ea,eb,ec,ed] at this
    exact this
end Go.Ab

namespace Go.Ab
open Go
variable {P:Program}
theorem Z59 {o:Orc FH} {h:FH} {c l:Nat} {st:ALoop} {args:List Value} {Q:Value × FH × Nat->Prop} (hg:HeapC.get h l=some (.loop st)) (hs:st.state = .ready)
 (hok:(Nat.beq args.length st.params.length && Z7C st.params && st.params.all (Nat.blt · st.nt))=true)
 (hr:Ans (o (.rnd st.nt st.lin st.fr st.params l st.assign st.body) (args++st.vals) h c []) fun r=>∃ v,r.vs=[v]/\Q (v,r.h,r.c)):Ans (Z3V o h c (.func (.yield l) #[] #[]) args) Q:=by
 obtain ⟨r,e,v,hv,hq⟩:=hr
 have h1:(decide (st.state=LoopState.ready) && Nat.beq args.length st.params.length && Z7C st.params && st.params.all (Nat.blt · st.nt))=true:=by
  simp only [Bool.and_eq_true] at hok ⊢
  exact ⟨⟨⟨by simp [hs],hok.1.1⟩,hok.1.2⟩,hok.2⟩
 refine ⟨(v,r.h,r.c), ?_,hq⟩
 simp only [Z3V,Array.size_empty,Nat.beq_refl,Bool.and_self,cond_true,hg,h1,e,Option.bind_some,hv]
def Z7G (nt:Nat) (lin:List Nat) (ps:Array Tmp) (a b:ACode) (vs:List Value) (d:Nat):ALoop :=
 { state:=.ready,pending:=none,nt:=nt,vals:=vs,lin:=lin,fr:=[],params:=ps.toList,assign:=a,body:=b,dfr:=d }
noncomputable def Z7H (h:FH) (c nt:Nat) (lin:List Nat) (ps:Array Tmp) (a b:ACode) (vs:List Value):FH :=
 HeapC.set (HeapC.set h (256*c+1) .dfr) (256*c) (.loop (Z7G nt lin ps a b vs (256*c+1)))
theorem Z1E (h:FH) (c nt:Nat) (lin:List Nat) (ps:Array Tmp) (a b:ACode) (vs:List Value) (i:Nat) :
 (Z7H h c nt lin ps a b vs).f i=if i=256*c then some (.loop (Z7G nt lin ps a b vs (256*c+1))) else if i=256*c+1 then some .dfr else h.f i:=by
 simp only [Z7H,Z0b]
theorem Z4d {o:Orc FH} {nt:Nat} {lin:List Nat} {ps:Array Tmp} {a b:ACode} {g:FuncId} {cap:Array Value} {vs:List Value} {h:FH} {c:Nat} {df:List Nat} {Q:Ex × FH × Nat × List Nat->Prop}
 (hr:Ans (o (.fn g) (.func (.yield (256*c)) #[] #[]::cap.toList) (Z7H h c nt lin ps a b vs) (c+1) []) fun r =>
  ∃ st e,HeapC.get r.h (256*c)=some (.loop st)/\st.state ≠ .busy/\exOf st.pending=some e/\Q (e,HeapC.del r.h (256*c),r.c,(256*c+1)::df)) :
 Ans (Z3O o nt none lin [] ps a b (.func (.func g) [].toArray cap) vs h c df) Q:=by
 obtain ⟨r,e1,st,e,hg,hs,he,hq⟩:=hr
 refine ⟨_, ?_,hq⟩
 simp only [Z7H,Z7G] at e1
 have hs':decide (st.state=LoopState.busy)=false:=decide_eq_false hs
 simp only [Z3O,Z2Q,Option.bind_some,List.nil_append,List.singleton_append,e1,hg,hs',cond_false,he]
theorem Zal {h:FH} {l:Nat} {st:ALoop} (hg:HeapC.get h l=some (.loop st)) (hs:st.state = .ready):Z27 h l=some (HeapC.set h l (.loop { st with state:=.busy })):=by
 simp [Z27,hg,hs]
theorem Z3L {h:FH} {l:Nat} {st:ALoop} (hg:HeapC.get h l=some (.loop st)) (s:LoopState) (pd:Option Code):Z0t h l s pd=some (HeapC.set h l (.loop { st with state:=s,pending:=pd })):=by
 simp [Z0t,hg]
@[simp] theorem get_set_same (h:FH) (i:Nat) (b:ABlk):HeapC.get (HeapC.set h i b) i=some b:=by simp [HeapC.get_set]
@[simp] theorem get_set_ne (h:FH) (i j:Nat) (b:ABlk) (hne:j ≠ i):HeapC.get (HeapC.set h i b) j=HeapC.get h j:=by simp [HeapC.get_set,hne]
@[simp] theorem get_del_ne (h:FH) (i j:Nat) (hne:j ≠ i):HeapC.get (HeapC.del h i) j=HeapC.get h j:=by simp [HeapC.get_del,hne]
@[simp] theorem ld1_set_ne (h:FH) (i j o:Nat) (b:ABlk) (hne:j ≠ i):ld1 (HeapC.set h i b) (.pointer (some ⟨j,o,none⟩))=ld1 h (.pointer (some ⟨j,o,none⟩)):=by simp [ld1,Z2F,Z5T,Z0k,hne]
@[simp] theorem ldN_set_ne (h:FH) (n i j o:Nat) (b:ABlk) (hne:j ≠ i):ldN (HeapC.set h i b) n (.pointer (some ⟨j,o,none⟩))=ldN h n (.pointer (some ⟨j,o,none⟩)):=by simp [ldN,Z2F,Z0I,Z0k,hne]
@[simp] theorem ld1_del_ne (h:FH) (i j o:Nat) (hne:j ≠ i):ld1 (HeapC.del h i) (.pointer (some ⟨j,o,none⟩))=ld1 h (.pointer (some ⟨j,o,none⟩)):=by simp [ld1,Z2F,Z5T,Z0k,hne]
@[simp] theorem ldN_del_ne (h:FH) (n i j o:Nat) (hne:j ≠ i):ldN (HeapC.del h i) n (.pointer (some ⟨j,o,none⟩))=ldN h n (.pointer (some ⟨j,o,none⟩)):=by simp [ldN,Z2F,Z0I,Z0k,hne]
theorem Z0f.set_ne {h:FH} {i j:Nat} {b:ABlk} {ds:List Value} (hne:j ≠ i) (hh:Z0f h j ds):Z0f (HeapC.set h i b) j ds:=by
 obtain ⟨ro,op,e⟩:=hh
 exact ⟨ro,op,by rw [get_set_ne h i j b hne]; exact e⟩
theorem Z0f.same {h h':FH} {c j:Nat} {ds:List Value} (hj:j<256*c) (hs:Z0s c h h') (hh:Z0f h j ds):Z0f h' j ds:=by
 obtain ⟨ro,op,e⟩:=hh
 exact ⟨ro,op,(hs j hj).trans e⟩
theorem Z02 {h:FH} {b o:Nat} {cs:List Value} (hh:Z0f h b cs):ld1 h (.pointer (some ⟨b,o,none⟩))=cs[o]?:=by
 obtain ⟨ro,op,e⟩:=hh
 simp [ld1,Z2F,Z5T,Z0k,e]
theorem Z11 {h:FH} {b o:Nat} {op:Option Nat} {cs:List Value} {v:Value} (hg:HeapC.get h b=some (.cells false op cs)) (ho:o<cs.length) (hv:v.cells = #[v]) (hf:Z07 v=true) :
 stN h 1 (.pointer (some ⟨b,o,none⟩)) v=some (HeapC.set h b (.cells false op (cs.set o v))):=by
 have h1:Nat.ble (o+1) cs.length=true:=Nat.ble_eq_true_of_le qO
 simp [stN,Z2F,hv,Z2D,hg,h1,hf,Z4b cs o v ho]
@[simp] theorem sameB_self (x:Option Nat) (h:FH):Z1f x h h=true:=by
 unfold Z1f
 split
 · show @decide _ (Classical.propDecidable _)=true
   simp
 · rfl
theorem Z2y (l:List Int) (i j:Nat):(l.drop i).getD j 0=l.getD (i+j) 0:=by simp [List.getD]
theorem Z3T (l:List Int) (i j:Nat) (h:j<i):(l.take i).getD j 0=l.getD j 0:=by simp [List.getD,List.getElem?_take,h]
@[simp] theorem set_set (h:FH) (i:Nat) (a b:ABlk):HeapC.set (HeapC.set h i a) i b=HeapC.set h i b:=by
 apply FH.ext; intro j; simp only [Z0b]; split <;> rfl
@[simp] theorem setState_set (h:FH) (l:Nat) (st:ALoop) (s:LoopState) (pd:Option Code):Z0t (HeapC.set h l (.loop st)) l s pd=some (HeapC.set h l (.loop { st with state:=s,pending:=pd })):=by
 rw [Z3L (get_set_same h l (.loop st)),set_set]
theorem Zdr (h:FH) (i j:Nat) (a b:ABlk) (hne:i ≠ j):HeapC.set (HeapC.set h i a) j b=HeapC.set (HeapC.set h j b) i a:=by
 apply FH.ext; intro k; simp only [Z0b]
 by_cases h1:k=j
 · have:¬ k=i:=by omega
   rw [if_pos h1,if_neg this,if_pos h1]
 · rw [if_neg h1,if_neg h1]
@[simp] theorem setState_newB (h:FH) (l i:Nat) (cs:List Value) (s:LoopState) (pd:Option Code) (hne:l ≠ i):Z0t (newB h i cs) l s pd=(Z0t h l s pd).map fun h'=>newB h' i cs:=by
 unfold Z0t
 rw [get_newB_ne _ _ _ _ hne]
 split
 · simp only [Option.map_some,newB]
   rw [Zdr _ _ _ _ _ (Ne.symm hne)]
 · rfl
@[simp] theorem setState_set_ne (h:FH) (l i:Nat) (b:ABlk) (s:LoopState) (pd:Option Code) (hne:l ≠ i):Z0t (HeapC.set h i b) l s pd=(Z0t h l s pd).map fun h'=>HeapC.set h' i b:=by
 unfold Z0t
 rw [get_set_ne _ _ _ _ hne]
 split
 · simp only [Option.map_some]
   rw [Zdr _ _ _ _ _ (Ne.symm hne)]
 · rfl
@[simp] theorem gv_undef (w:Bool):gv undef w=some false:=rfl
end Go.Ab
