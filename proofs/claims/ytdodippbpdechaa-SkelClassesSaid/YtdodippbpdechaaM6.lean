/- Parts of a proof: AbGc AbX AbSym AbPerm AbGlue AbRng. Conditions: none. -/
import Derived.Test.YtdodippbpdechaaM5
import Derived.KernelRfl
set_option linter.all false
set_option maxRecDepth 100000
set_option maxHeartbeats 4000000
namespace Go.Ab
open Go
variable {P:Program}
noncomputable def nuD (c:Nat):Mu:=fun i=>if i<256*c then some ⟨i,0,none⟩ else none
theorem Za8 {c i:Nat} (h:i<256*c):nuD c i=some ⟨i,0,none⟩:=by simp [nuD,h]
theorem ZcJ {c i:Nat} (h:nuD c i ≠ none):i<256*c:=by
 unfold nuD at h
 split at h
 · assumption
 · exact absurd rfl h
def OkV (c:Nat) (v:Value):Prop:=∃ v',VR (nuD c) v v'
theorem OkV.bool (c:Nat) (b:Bool):OkV c (.bool b):=⟨_,.bool b⟩
theorem OkV.int (c:Nat) (k:IntKind) (n:Int):OkV c (.int k n):=⟨_,.int k n⟩
theorem OkV.str (c:Nat) (s:ByteArray):OkV c (.string s):=⟨_,.str s⟩
theorem OkV.ptr0 (c:Nat):OkV c (.pointer none):=⟨_,.ptr0⟩
theorem OkV.ptr {c i o:Nat} (h:i<256*c):OkV c (.pointer (some ⟨i,o,none⟩)):=⟨_,.ptr (Za8 h)⟩
theorem OkV.ptrTo {c i:Nat} (h:i<256*c):OkV c (ptrTo i):=⟨_,.ptr (Za8 h)⟩
theorem OkV.sl0 (c l k:Nat):OkV c (.slice none l k):=⟨_,.sl0 l k⟩
theorem OkV.sl {c i o l k:Nat} (h:i<256*c):OkV c (.slice (some ⟨i,o,none⟩) l k):=⟨_,.sl (Za8 h) (qG _) (.inl rfl)⟩
theorem OkV.map0 (c:Nat):OkV c (.map none):=⟨_,.map0⟩
theorem OkV.map {c i:Nat} (h:i<256*c):OkV c (.map (some i)):=⟨_,.map (Za8 h)⟩
theorem OkV.nilFunc (c:Nat):OkV c .nilFunc:=⟨_,.nilFunc⟩
theorem OkV.yield {c l:Nat} (h:l<256*c):OkV c (.func (.yield l) #[] #[]):=⟨_,.yield (Za8 h)⟩
def Z0Q (c:Nat) (vs:List Value):Prop:=∀ v ∈ vs,OkV c v
theorem Z0Q.nil (c:Nat):Z0Q c []:=fun _ h=>by cases h
theorem Z0Q.cons {c:Nat} {v:Value} {vs:List Value} (h:OkV c v) (hs:Z0Q c vs):Z0Q c (v::vs):=by
 intro x hx
 rcases List.mem_cons.1 hx with rfl | hx
 · exact h
 · exact hs x hx
theorem Z0Q.cons_iff {c:Nat} {v:Value} {vs:List Value}:Z0Q c (v::vs) ↔ OkV c v/\Z0Q c vs :=
 ⟨fun h=>⟨h v (by simp),fun x hx=>h x (by simp [hx])⟩,fun h=>Z0Q.cons h.1 h.2⟩
theorem Z0Q.vrs {c:Nat}:∀ {vs:List Value},Z0Q c vs -> ∃ ws,VRs (nuD c) vs ws
 | [],_=>⟨[],VRs.nil _⟩
 | v::vs,h=>by
  obtain ⟨v',h1⟩:=h v (by simp)
  obtain ⟨ws,h2⟩:=Z0Q.vrs (vs:=vs) (fun x hx=>h x (by simp [hx]))
  exact ⟨v'::ws,VRs.cons h1 h2⟩
theorem OkV.agg {c:Nat} {l:List Value} (h:Z0Q c l):OkV c (.agg l.toArray):=by
 obtain ⟨ws,h1⟩:=h.vrs
 exact ⟨.agg ws.toArray,VR.agg_iff.2 (by simpa using h1)⟩
theorem OkV.agg_iff {c:Nat} {l:List Value}:OkV c (.agg l.toArray) ↔ Z0Q c l:=by
 refine ⟨fun h=>?_,OkV.agg⟩
 obtain ⟨v',hv⟩:=h
 cases hv with
 | @agg _ ys hs g =>
  intro x hx
  obtain ⟨k,hk⟩:=List.getElem?_of_mem hx
  have hl:k<ys.size:=by
   have:=(jC.1 hk).1
   simp at hs; omega
  exact ⟨_,g k x ys[k] (by simpa using hk) (qR hl)⟩
def OkB (c:Nat):Option ABlk->Prop
 | some (.cells _ _ cs)=>Z0Q c cs
 | some (.map es)=>∀ e ∈ es,OkV c e.1/\OkV c e.2
 | some (.loop a)=>Z0Q c a.vals/\a.dfr<256*c
 | _=>True
def GcH (c:Nat) (h A:FH):Prop:=∀ i,i<256*c->h.f i=A.f i ∨ OkB c (h.f i)
noncomputable def mrg (c:Nat) (h A:FH):FH:=⟨fun i=>if i<256*c then h.f i else A.f i⟩
def GcOk (A:FH) (c:Nat) (df:List Nat) (r:Rt FH):Prop:=Z0Q c r.vs/\r.df=df/\GcH c r.h A
open Classical in
noncomputable def gcR (A:FH) (c:Nat) (df:List Nat) (r:Rt FH):Rt FH :=
 if GcOk A c df r then { e:=r.e,vs:=r.vs,h:=mrg c r.h A,c:=c,df:=df } else r
theorem Zjm {A:FH} {c:Nat} {df:List Nat} {e:Ex} {vs:List Value} {h:FH} {c':Nat} (h1:Z0Q c vs) (h2:GcH c h A):gcR A c df { e:=e,vs:=vs,h:=h,c:=c',df:=df } = { e:=e,vs:=vs,h:=mrg c h A,c:=c,df:=df }:=by
 unfold gcR
 rw [if_pos ⟨h1,rfl,h2⟩]
theorem Zpw {A:FH} {c:Nat} {df:List Nat} {r:Rt FH}:(gcR A c df r).e=r.e:=by unfold gcR; split <;> rfl
theorem Zjl {A:FH} {c:Nat} {df:List Nat} {r:Rt FH}:(gcR A c df r).vs=r.vs:=by unfold gcR; split <;> rfl
theorem Zoq {A:FH} {c:Nat} {df:List Nat} {r:Rt FH}:(gcR A c df r).df=r.df:=by
 unfold gcR
 split
 · rename_i h; exact h.2.1.symm
 · rfl
theorem OkV.on {c:Nat} {μ:Mu} {v v':Value} (h:VR μ v v') (hv:OkV c v):VR (μ.on (fun i=>i<256*c)) v v' :=
 let ⟨_,k⟩:=hv; h.on (fun i=>ZcJ) k
theorem OkB.on {c:Nat} {μ:Mu} {m:ME} {hp:Array Obj} {b:Option ABlk} (h:Z7H μ m hp b) (hb:OkB c b):Z7H (μ.on (fun i=>i<256*c)) m hp b:=by
 unfold Z7H at h ⊢
 unfold OkB at hb
 split at h
 · rename_i ro opn cs
   obtain ⟨C,E,fr,h1,h2,h3,h4⟩:=h
   refine ⟨C,E,fr,h1,fun k x hx=>?_,h3,h4⟩
   obtain ⟨y,h5,h6⟩:=h2 k x hx
   exact ⟨y,h5,(hb x (List.mem_of_getElem? hx)).on h6⟩
 · rename_i es
   obtain ⟨es',clk,h1,h2,h3⟩:=h
   refine ⟨es',clk,h1,h2,fun k x y hx hy=>?_⟩
   have a:=h3 k x y hx hy
   have b:=hb x (List.mem_of_getElem? hx)
   exact ⟨b.1.on a.1,b.2.on a.2⟩
 · rename_i a
   obtain ⟨r,h1,h2⟩:=h
   refine ⟨r,h1,⟨h2.state,h2.pending,h2.params,h2.assign,h2.body,h2.size,fun t v e=>?_, ?_⟩⟩
   · obtain ⟨v',h3,h4⟩:=h2.vals t v e
     have hmem:∀ (l:List Nat) (vs:List Value),Z0h l vs t=some v->v ∈ vs:=by
      intro l
      induction l with
      | nil=>intro vs h; simp [Z0h] at h
      | cons x l ih =>
       intro vs h
       cases vs with
       | nil=>simp [Z0h] at h
       | cons u vs =>
        simp only [Z0h] at h
        cases hq:Nat.beq t x with
        | true=>rw [hq] at h; cases h; simp
        | false=>rw [hq] at h; simp [ih vs h]
     exact ⟨v',h3,(hb.1 v (hmem _ _ e)).on h4⟩
   · obtain ⟨m1,h3,h4⟩:=h2.dfr
     exact ⟨m1,by rw [Mu.on_of (D:=fun i=>i<256*c) hb.2]; exact h3,h4⟩
 · exact h
 · trivial
 · trivial
theorem gcExt {μ μ':Mu} {A h:FH} {c c':Nat} {w w':World} (hE:Ext μ A c w (fun _=>False) μ' h c' w') (hR:R μ A w) (hf:Z22 μ c) (hg:GcH c h A) :
 Ext μ A c w (fun _=>False) (μ'.on (fun i=>i<256*c)) (mrg c h A) c w':=by
 have lt:∀ {i:Nat} {m:ME},μ i=some m->i<256*c:=fun {i m} e=>by
  by_cases hi:i<256*c
  · exact hi
  · rw [hf i qO] at e; cases e
 have old:∀ {i:Nat} {m:ME},μ'.on (fun i=>i<256*c) i=some m->i<256*c/\μ' i=some m/\μ i=some m:=fun {i m} e=>by
  obtain ⟨h1,h2⟩:=Mu.on_some e
  refine ⟨h1,h2, ?_⟩
  cases e0:μ i with
  | none =>
   rcases hE.new i e0 (by rw [h2]; simp) with a | ⟨a,_⟩
   · exact a.elim
   · omega
  | some m0=>rw [← hE.mu i m0 e0,h2]
 have gm:∀ {i:Nat},i<256*c->HeapC.get (mrg c h A) i=HeapC.get h i:=fun {i} hi=>by show (mrg c h A).f i=h.f i; simp [mrg,hi]
 refine { mu:=fun i m e=>?_,new:=fun i e0 e1=>?_,cle:=qG _,rel:=?_,af:=fun i e0 hi _=>?_,os:=hE.os,tape:=hE.tape,output:=hE.output,size:=hE.size,fr:=hE.fr,wrm:=fun i m e hw=>?_,newb:=fun i m e0 e1=>?_,dd:=fun i m e hd=>?_ }
 · rw [Mu.on_of (D:=fun i=>i<256*c) (lt e)]; exact hE.mu i m e
 · cases e2:μ'.on (fun i=>i<256*c) i with
   | none=>exact absurd e2 e1
   | some m=>rw [(old e2).2.2] at e0; cases e0
 · refine ⟨fun i m e=>?_,fun i j mi mj ei ej hne di dj hro=>?_,fun i m e=>hE.rel.lt i m (old e).2.1⟩
   · obtain ⟨h1,h2,h3⟩:=old e
     rw [gm h1]
     have hb:=hE.rel.blk i m h2
     rcases hg i h1 with a | a
     · have hb':=hR.blk i m h3
       have ha:HeapC.get h i=HeapC.get A i:=a
       rw [ha] at hb ⊢
       exact hb.onS ⟨μ,m,w.heap,hb',fun j hj=>by
        cases ej:μ j with
        | none=>exact absurd ej hj
        | some mj=>exact lt ej⟩
     · exact OkB.on hb a
   · obtain ⟨i1,i2,i3⟩:=old ei
     obtain ⟨j1,j2,j3⟩:=old ej
     rw [gm i1] at di hro
     rw [gm j1] at dj hro
     exact hE.rel.inj i j mi mj i2 j2 hne di dj hro
 · rw [gm hi]; exact hE.af i e0 hi (fun h=>h)
 · rw [gm (lt e)] at hw; exact hE.wrm i m e hw
 · rw [(old e1).2.2] at e0; cases e0
 · rw [gm (lt e)]; exact hE.dd i m e hd
theorem gcCall {μ:Mu} {A:FH} {c:Nat} {w w':World} {r:Rt FH} {e:Ending} (hR:R μ A w) (hf:Z22 μ c) (h:Z6g μ A c w r e w'):Z6g μ A c w (gcR A c [] r) e w':=by
 unfold gcR
 split
 · rename_i hg
   obtain ⟨v,v',μ',h1,h2,h3,h4⟩:=h
   refine ⟨v,v',_,h1,h2, ?_,gcExt h4 hR hf hg.2.2⟩
   exact (hg.1 v (by rw [h1]; simp)).on h3
 · exact h
noncomputable def gcS (sel:Key->Bool) (k:Key) (A:FH) (c:Nat) (df:List Nat) (r:Rt FH):Rt FH:=cond (sel k) (gcR A c df r) r
theorem gcS_e {sel:Key->Bool} {k:Key} {A:FH} {c:Nat} {df:List Nat} {r:Rt FH}:(gcS sel k A c df r).e=r.e:=by unfold gcS; cases sel k <;> first | rfl | exact Zpw
theorem Zgo {sel:Key->Bool} {k:Key} {A:FH} {c:Nat} {df:List Nat} {r:Rt FH}:(gcS sel k A c df r).vs=r.vs:=by unfold gcS; cases sel k <;> first | rfl | exact Zjl
theorem Zop {sel:Key->Bool} {k:Key} {A:FH} {c:Nat} {df:List Nat} {r:Rt FH}:(gcS sel k A c df r).df=r.df:=by unfold gcS; cases sel k <;> first | rfl | exact Zoq
theorem Zjk {sel:Key->Bool} {k:Key} {μ:Mu} {A:FH} {c:Nat} {w w':World} {r:Rt FH} {e:Ending} (hR:R μ A w) (hf:Z22 μ c) (h:Z6g μ A c w r e w'):Z6g μ A c w (gcS sel k A c [] r) e w':=by
 unfold gcS
 cases sel k with
 | true=>exact gcCall hR hf h
 | false=>exact h
abbrev Fo (H:Type):=FuncId->List Value->H->Nat->Option (Rt H)
def FnOK (P:Program) (oc:Fo FH):Prop :=
 ∀ (f:FuncId) (args:List Value) (A:FH) (c:Nat) (r:Rt FH),oc f args A c=some r →
  (∀ avs w,(callFunc f avs).run P w = .ok (.enter f avs) w) ∧
  ∀ (μ:Mu) (w:World) (args':List Value),VRs μ args args'->R μ A w->Z22 μ c->Calls P f args'.toArray w (Z6g μ A c w r)
noncomputable def Z1p (P:Program) (bk:FuncId->Option AFun) (sel:Key->Bool) (ext:Fo FH) (o:Orc FH):Orc FH
 | .fn f,args,h,c,df =>
  match ext f args h c with
  | some r=>some r
  | none=>(Z1L P bk o (.fn f) args h c df).bind fun r=>some (gcS sel (.fn f) h c [] r)
 | .lp j lin fr b nt rd,vs,h,c,df =>
  (Z2e P o b { tm:=Z0h lin vs,h:=h,c:=c,nt:=nt,df:=df,rd:=rd }).bind fun r =>
   (vals r.2.tm lin).bind fun vs' =>
    match r.1 with
    | .normal=>o (.lp j lin fr b nt rd) vs' (gcS sel (.lp j lin fr b nt rd) h c df { e:=.normal,vs:=vs',h:=Z1J r.2.tm r.2.h fr,c:=r.2.c,df:=r.2.df }).h (gcS sel (.lp j lin fr b nt rd) h c df { e:=.normal,vs:=vs',h:=Z1J r.2.tm r.2.h fr,c:=r.2.c,df:=r.2.df }).c r.2.df
    | e=>some (gcS sel (.lp j lin fr b nt rd) h c df { e:=e,vs:=vs',h:=Z1J r.2.tm r.2.h fr,c:=r.2.c,df:=r.2.df })
 | .rnd nt lin fr params l a b,vs,h,c,df=>(Z1L P bk o (.rnd nt lin fr params l a b) vs h c df).bind fun r=>some (gcS sel (.rnd nt lin fr params l a b) h c [] r)
theorem Zfo {t:Nat} {v:Value}:∀ {l:List Nat} {vs:List Value},Z0h l vs t=some v->v ∈ vs
 | [],vs,h=>by simp [Z0h] at h
 | x::l,[],h=>by simp [Z0h] at h
 | x::l,u::vs,h=>by
  simp only [Z0h] at h
  cases hq:Nat.beq t x with
  | true=>rw [hq] at h; cases h; simp
  | false=>rw [hq] at h; simp [Zfo h]
theorem DfR.lt {μ:Mu} {c:Nat} (hf:Z22 μ c) {ds:List Nat} {es:List Deferred} (h:DfR μ ds es):∀ i ∈ ds,i<256*c:=by
 induction h with
 | nil=>intro i hi; cases hi
 | @cons i m d ds es hm ht hs ih =>
  intro j hj
  rcases List.mem_cons.1 hj with rfl | hj
  · by_cases hi:j<256*c
    · exact hi
    · rw [hf j qO] at hm; cases hm
  · exact ih j hj
theorem DfR.on {μ:Mu} {D:Nat->Prop} {ds:List Nat} {es:List Deferred} (h:DfR μ ds es) (hD:∀ i ∈ ds,D i):DfR (μ.on D) ds es:=by
 induction h with
 | nil=>exact .nil
 | cons hm ht _ ih=>exact .cons (by rw [Mu.on_of (hD _ (by simp))]; exact hm) ht (ih fun i hi=>hD i (by simp [hi]))
theorem Z4P.stepG {bk:FuncId->Option AFun} {sel:Key->Bool} {ext:Fo FH} {o:Orc FH} {k:Nat} (hO:OS P o) (hL:Z4P P o k) (hmix:P.follows .mixedOrders=true):Z4P P (Z1p P bk sel ext o) (k+1):=by
 intro j lin fr b nt rd vs A c df r e μ w a ro n Q ht hR hfr hrd hdf hQ
 simp only [Z1p,qA] at e
 obtain ⟨⟨ex,s1⟩,h1,vs',hvs',e⟩:=e
 refine Zap hO hL hmix h1 ht hR hfr hrd hdf fun a1 μ1 w1 ht1 hdf1 hE1=>?_
 have hdrop:=Z4O (c:=s1.c) ht1 fr s1.h hE1.rel
 have hE2:=hE1.trans0 hdrop
 have ht2:=ht1.sub (Z4f hvs')
 have key:∀ (ex:Ex) (Q':Exit->Act->World->Prop),
  (∀ μ2,TmR μ2 (Z0h lin vs') nt a1.tmps->DfR μ2 s1.df a1.defers->Ext μ A c w (fun _=>False) μ2 (gcS sel (.lp j lin fr b nt rd) A c df { e:=ex,vs:=vs',h:=Z1J s1.tm s1.h fr,c:=s1.c,df:=s1.df }).h
   (gcS sel (.lp j lin fr b nt rd) A c df { e:=ex,vs:=vs',h:=Z1J s1.tm s1.h fr,c:=s1.c,df:=s1.df }).c w1->Q' (ZgX ex) a1 w1)->Q' (ZgX ex) a1 w1:=by
  intro ex Q' hq
  by_cases hg:sel (.lp j lin fr b nt rd)=true/\GcOk A c df { e:=ex,vs:=vs',h:=Z1J s1.tm s1.h fr,c:=s1.c,df:=s1.df }
  · refine hq (μ1.on (fun i=>i<256*c)) ?_ ?_ ?_
    · refine ⟨ht2.size,fun t v hv=>?_⟩
      obtain ⟨v',h3,h4⟩:=ht2.val t v hv
      exact ⟨v',h3,(hg.2.1 v (Zfo hv)).on h4⟩
    · refine hdf1.on ?_
      have:s1.df=df:=hg.2.2.1
      rw [this]
      exact hdf.lt hfr
    · unfold gcS gcR
      rw [hg.1,cond_true,if_pos hg.2]
      exact gcExt hE2 hR hfr hg.2.2.2
  · refine hq μ1 ht2 hdf1 ?_
    unfold gcS gcR
    cases hs:sel (.lp j lin fr b nt rd) with
    | false=>exact hE2
    | true =>
     rw [cond_true,if_neg (fun h=>hg ⟨hs,h⟩)]
     exact hE2
 cases ex with
 | normal =>
  refine key .normal (Exit.then (Code.roundsIn (wd ro) n P (Z3V b) Q k) Q) fun μ2 ht3 hdf3 hE3=>?_
  exact hL _ _ _ _ _ _ _ _ _ _ _ e μ2 w1 a1 ro n Q ht3 hE3.rel (hE3.fresh hfr (fun _ h=>h.elim)) (hrd.mono hE3.mu) hdf3 (fun a2 μ3 w2 h3 h4 h5=>hQ a2 μ3 w2 h3 h4 (hE3.trans0 h5))
 | exit id =>
  cases e
  refine key (.exit id) Q fun μ2 ht3 hdf3 hE3=>?_
  exact hQ a1 μ2 w1 (by rw [Zgo]; exact ht3) (by rw [Zop]; exact hdf3) hE3 |> fun h=>by rw [gcS_e] at h; exact h
 | ret =>
  cases e
  refine key .ret Q fun μ2 ht3 hdf3 hE3=>?_
  exact hQ a1 μ2 w1 (by rw [Zgo]; exact ht3) (by rw [Zop]; exact hdf3) hE3 |> fun h=>by rw [gcS_e] at h; exact h
theorem OS.stepG {bk:FuncId->Option AFun} {sel:Key->Bool} {ext:Fo FH} (hbk:Z7E P bk) (hext:FnOK P ext) {o:Orc FH} {k:Nat} (hO:OS P o) (hL:Z4P P o k) (hmix:P.follows .mixedOrders=true):OS P (Z1p P bk sel ext o) where
 fn:=by
  intro f args A c df r e
  simp only [Z1p] at e
  cases he:ext f args A c with
  | some q =>
   rw [he] at e
   cases e
   exact hext f args A c _ he
  | none =>
   rw [he] at e
   simp only [qA] at e
   obtain ⟨q,hq,e⟩:=e
   cases e
   obtain ⟨h1,h2⟩:=(OS.step hbk hO hL hmix).fn f args A c df q hq
   exact ⟨h1,fun μ w args' ha hR hf=>(h2 μ w args' ha hR hf).mono fun e w' h=>Zjk hR hf h⟩
 rnd:=by
  intro nt lin fr params l x y vs A c df r e μ w ts m ro n f hm ht hR hf
  simp only [Z1p,qA] at e
  obtain ⟨q,hq,e⟩:=e
  cases e
  exact ((OS.step hbk hO hL hmix).rnd nt lin fr params l x y vs A c df q hq μ w ts m ro n f hm ht hR hf).mono fun e w' h=>Zjk hR hf h
noncomputable def ZdB (P:Program) (bk:FuncId->Option AFun) (sel:Key->Bool) (ext:Fo FH):Nat->Orc FH
 | 0=>fun _ _ _ _ _=>none
 | n+1=>Z1p P bk sel ext (ZdB P bk sel ext n)
theorem Za7 {bk:FuncId->Option AFun} {sel:Key->Bool} {ext:Fo FH} (hbk:Z7E P bk) (hext:FnOK P ext) (hmix:P.follows .mixedOrders=true):∀ n,OS P (ZdB P bk sel ext n)/\Z4P P (ZdB P bk sel ext n) n
 | 0=>⟨⟨(fun _ _ _ _ _ _ e=>by cases e),(fun _ _ _ _ _ _ _ _ _ _ _ _ e=>by cases e)⟩,fun _ _ _ _ _ _ _ _ _ _ _ e=>by cases e⟩
 | n+1=>⟨OS.stepG hbk hext (Za7 (sel:=sel) (ext:=ext) hbk hext hmix n).1 (Za7 (sel:=sel) (ext:=ext) hbk hext hmix n).2 hmix,Z4P.stepG (Za7 (sel:=sel) (ext:=ext) hbk hext hmix n).1 (Za7 (sel:=sel) (ext:=ext) hbk hext hmix n).2 hmix⟩
theorem Zcq {bk:FuncId->Option AFun} {sel:Key->Bool} {ext:Fo FH} {ox:Orc FH} {os:Nat->Orc FH} (hF:Fam ox os):Fam (Z1p P bk sel ext ox) (fun n=>Z1p P bk sel ext (os n)):=by
 intro k args h c df r e
 cases k with
 | fn f =>
  simp only [Z1p] at e ⊢
  cases he:ext f args h c with
  | some q=>rw [he] at e; exact Ev.const e
  | none =>
   rw [he] at e
   simp only [qA] at e
   obtain ⟨q,hq,e⟩:=e
   exact Ev.bind (Z7A hF _ _ _ _ _ _ hq) (Ev.const e)
 | rnd nt lin fr params l a b =>
  simp only [Z1p,qA] at e ⊢
  obtain ⟨q,hq,e⟩:=e
  exact Ev.bind (Z7A hF _ _ _ _ _ _ hq) (Ev.const e)
 | lp j lin fr b nt rd =>
  simp only [Z1p,qA] at e ⊢
  obtain ⟨q,hq,vs,hv,e⟩:=e
  refine Ev.bind (Zaq hF hq) (Ev.bindc hv ?_)
  cases hq1:q.1 with
  | normal=>rw [hq1] at e; exact hF _ _ _ _ _ _ e
  | exit id=>rw [hq1] at e; exact Ev.const e
  | ret=>rw [hq1] at e; exact Ev.const e
theorem Z9q {bk:FuncId->Option AFun} {sel:Key->Bool} {ext:Fo FH}:∀ n k args h c df r,ZdB P bk sel ext n k args h c df=some r->ZdB P bk sel ext (n+1) k args h c df=some r
 | 0,k,args,h,c,df,r,e=>by cases e
 | n+1,k,args,h,c,df,r,e=>by
  have hF:Fam (ZdB P bk sel ext n) (fun _=>ZdB P bk sel ext (n+1)):=fun k args h c df r e=>Ev.const (Z9q n k args h c df r e)
  obtain ⟨m,hm⟩:=Zcq hF k args h c df r e
  exact hm m (qG _)
theorem Zei {bk:FuncId->Option AFun} {sel:Key->Bool} {ext:Fo FH} {n m:Nat} (hnm:n<=m) {k:Key} {args:List Value} {h:FH} {c:Nat} {df:List Nat} {r:Rt FH} (e:ZdB P bk sel ext n k args h c df=some r):ZdB P bk sel ext m k args h c df=some r:=by
 induction hnm with
 | refl=>exact e
 | step _ ih=>exact Z9q _ _ _ _ _ _ _ ih
open Classical in
noncomputable def Z7N (P:Program) (bk:FuncId->Option AFun) (sel:Key->Bool) (ext:Fo FH):Orc FH:=fun k args h c df =>
 if hx:∃ n r,ZdB P bk sel ext n k args h c df=some r then ZdB P bk sel ext (Classical.choose hx) k args h c df else none
theorem Zp5 {bk:FuncId->Option AFun} {sel:Key->Bool} {ext:Fo FH} {n:Nat} {k:Key} {args:List Value} {h:FH} {c:Nat} {df:List Nat} {r:Rt FH} (e:ZdB P bk sel ext n k args h c df=some r):Z7N P bk sel ext k args h c df=some r:=by
 have hx:∃ n r,ZdB P bk sel ext n k args h c df=some r:=⟨n,r,e⟩
 unfold Z7N
 rw [dif_pos hx]
 obtain ⟨r',h'⟩:=Classical.choose_spec hx
 have h1:=Zei (Nat.le_max_left (Classical.choose hx) n) h'
 have h2:=Zei (Nat.le_max_right (Classical.choose hx) n) e
 rw [h1] at h2
 rw [h',h2]
theorem Z9Y {bk:FuncId->Option AFun} {sel:Key->Bool} {ext:Fo FH} {k:Key} {args:List Value} {h:FH} {c:Nat} {df:List Nat} {r:Rt FH} (e:Z7N P bk sel ext k args h c df=some r):∃ n,ZdB P bk sel ext n k args h c df=some r:=by
 unfold Z7N at e
 split at e
 · exact ⟨_,e⟩
 · cases e
theorem ZkU {bk:FuncId->Option AFun} {sel:Key->Bool} {ext:Fo FH}:Fam (Z7N P bk sel ext) (ZdB P bk sel ext):=by
 intro k args h c df r e
 obtain ⟨n,hn⟩:=Z9Y e
 exact ⟨n,fun m hm=>Zei hm hn⟩
theorem Z5G {bk:FuncId->Option AFun} {sel:Key->Bool} {ext:Fo FH} {k:Key} {args:List Value} {h:FH} {c:Nat} {df:List Nat} {r:Rt FH} (e:Z1p P bk sel ext (Z7N P bk sel ext) k args h c df=some r):Z7N P bk sel ext k args h c df=some r:=by
 obtain ⟨n,hn⟩:=Zcq (ZkU (P:=P) (bk:=bk) (sel:=sel) (ext:=ext)) k args h c df r e
 exact Zp5 (n:=n+1) (hn n (qG _))
theorem Z6k {bk:FuncId->Option AFun} {sel:Key->Bool} {ext:Fo FH}:∀ n j lin fr b nt rd vs (h:FH) c df r,ZdB P bk sel ext n (.lp j lin fr b nt rd) vs h c df=some r->r.vs.length=lin.length
 | 0,_,_,_,_,_,_,_,_,_,_,_,e=>by cases e
 | n+1,j,lin,fr,b,nt,rd,vs,h,c,df,r,e=>by
  simp only [ZdB,Z1p,qA] at e
  obtain ⟨q,hq,ws,hw,e⟩:=e
  cases hq1:q.1 with
  | normal=>rw [hq1] at e; exact Z6k n j lin fr b nt rd _ _ _ _ r e
  | exit id=>rw [hq1] at e; cases e; rw [Zgo]; exact Z2j hw
  | ret=>rw [hq1] at e; cases e; rw [Zgo]; exact Z2j hw
theorem Z5H {bk:FuncId->Option AFun} {sel:Key->Bool} {ext:Fo FH}:OLen (Z7N P bk sel ext):=fun _ _ _ _ _ _ _ _ _ _ _ e=>by
 obtain ⟨n,hn⟩:=Z9Y e
 exact Z6k _ _ _ _ _ _ _ _ _ _ _ _ hn
theorem Zhr {bk:FuncId->Option AFun} {sel:Key->Bool} {ext:Fo FH} (hbk:Z7E P bk) (hext:FnOK P ext) (hmix:P.follows .mixedOrders=true) {f:FuncId} {args args':List Value} {A:FH} {c:Nat} {r:Rt FH} (e:Z7N P bk sel ext (.fn f) args A c []=some r) {μ:Mu} {w:World}
 (hv:VRs μ args args') (hR:R μ A w) (hfr:Z22 μ c):Calls P f args'.toArray w (Z6g μ A c w r):=by
 obtain ⟨n,hn⟩:=Z9Y e
 exact ((Za7 (sel:=sel) (ext:=ext) hbk hext hmix n).1.fn f args A c [] r hn).2 μ w args' hv hR hfr
theorem Z0f {bk:FuncId->Option AFun} {sel:Key->Bool} {ext:Fo FH} {f:FuncId} {a:AFun} (ha:bk f=some a) (hfr:a.fr=[]) (hxt:∀ args h c,ext f args h c=none) {args:List Value} {h:FH} {c:Nat} {df:List Nat} {r:Rt FH} (hlen:Nat.ble args.length a.nt=true)
 (e:jx P (Z7N P bk sel ext) a.nt none a.code (Z0h (List.range args.length) args) h c [] (Kfn P a.res)=some r):Z7N P bk sel ext (.fn f) args h c df=some (gcS sel (.fn f) h c [] r):=by
 refine Z5G ?_
 obtain ⟨e1,tm1,tm1',h1,c1,df1,hx,hl,hk⟩:=Z2A Z5H e (Tm.le_refl _)
 simp only [Z1p,hxt,qA]
 refine ⟨r, ?_,rfl⟩
 simp only [Z1L,ha,qD,hlen,cond_true,hx,hfr,Z1J]
 cases e1 with
 | exit id=>cases hk
 | normal =>
  simp only [Kfn,Z5I,qA] at hk ⊢
  obtain ⟨h2,ht,vs,hv,hk⟩:=hk
  exact ⟨h2,ht,vs,Z5U hl hv,hk⟩
 | ret =>
  simp only [Kfn,Z5I,qA] at hk ⊢
  obtain ⟨h2,ht,vs,hv,hk⟩:=hk
  exact ⟨h2,ht,vs,Z5U hl hv,hk⟩
theorem Z0U {bk:FuncId->Option AFun} {sel:Key->Bool} {ext:Fo FH} {j nt:Nat} {lin:List Nat} {b:ACode} {rd:Option Nat} {vs:List Value} {h:FH} {c:Nat} {df:List Nat} {q r:Rt FH}
 (e:jx P (Z7N P bk sel ext) nt rd b (Z0h lin vs) h c df (Klp lin)=some q) (hq:q.e = .normal) (k:Z7N P bk sel ext (.lp j lin [] b nt rd) q.vs (gcS sel (.lp j lin [] b nt rd) h c df q).h (gcS sel (.lp j lin [] b nt rd) h c df q).c q.df=some r):Z7N P bk sel ext (.lp j lin [] b nt rd) vs h c df=some r:=by
 refine Z5G ?_
 obtain ⟨e1,tm1,tm1',h1,c1,df1,hx,hl,hk⟩:=Z2A Z5H e (Tm.le_refl _)
 simp only [Klp,qA] at hk
 obtain ⟨ws,hw,hk⟩:=hk
 cases hk
 simp only at hq
 subst hq
 simp only [Z1p,hx,qD,Z6q hl hw,Z1J]
 exact k
theorem Z0V {bk:FuncId->Option AFun} {sel:Key->Bool} {ext:Fo FH} {j nt:Nat} {lin:List Nat} {b:ACode} {rd:Option Nat} {vs:List Value} {h:FH} {c:Nat} {df:List Nat} {q:Rt FH}
 (e:jx P (Z7N P bk sel ext) nt rd b (Z0h lin vs) h c df (Klp lin)=some q) (hq:q.e ≠ .normal):Z7N P bk sel ext (.lp j lin [] b nt rd) vs h c df=some (gcS sel (.lp j lin [] b nt rd) h c df q):=by
 refine Z5G ?_
 obtain ⟨e1,tm1,tm1',h1,c1,df1,hx,hl,hk⟩:=Z2A Z5H e (Tm.le_refl _)
 simp only [Klp,qA] at hk
 obtain ⟨ws,hw,hk⟩:=hk
 cases hk
 simp only at hq
 simp only [Z1p,hx,qD,Z6q hl hw,Z1J]
theorem ZkT {bk:FuncId->Option AFun} {sel:Key->Bool} {ext:Fo FH} {nt l:Nat} {lin params:List Nat} {a b:ACode} {vs:List Value} {h:FH} {c:Nat} {df:List Nat} {r:Rt FH}
 (e:jx P (Z7N P bk sel ext) nt (some l) a (Z0h (params++lin) vs) h c [] (ZqB P (Z7N P bk sel ext) nt l b)=some r):Z7N P bk sel ext (.rnd nt lin [] params l a b) vs h c df=some (gcS sel (.rnd nt lin [] params l a b) h c [] r):=by
 refine Z5G ?_
 obtain ⟨e1,tm1,tm1',h1,c1,df1,hx,hl,hk⟩:=Z2A Z5H e (Tm.le_refl _)
 simp only [Z1p,qA]
 refine ⟨r, ?_,rfl⟩
 cases e1 with
 | exit id=>cases hk
 | ret=>cases hk
 | normal =>
  simp only [ZqB,qA] at hk
  obtain ⟨h2,hb,hk⟩:=hk
  obtain ⟨e3,tm3,tm3',h3,c3,df3,hx3,hl3,hk3⟩:=Z2A Z5H hk hl
  simp only [Z1L,hx,qD,hb,hx3,Z1J]
  exact hk3
theorem ZkV {bk:FuncId->Option AFun} {sel:Key->Bool} {ext:Fo FH} {f:FuncId} {args:List Value} {h:FH} {c:Nat} {df:List Nat} {r:Rt FH} (e:ext f args h c=some r):Z7N P bk sel ext (.fn f) args h c df=some r:=by
 refine Z5G ?_
 simp only [Z1p,e]
theorem Zkf {H:Type} [HeapC H] {bk:FuncId->Option AFun} (hbk:Z7E P bk) (hmix:P.follows .mixedOrders=true) {f:FuncId} {A0:H} {r0:Rt H} {b:Bool} (e:run P bk (.fn f) [] A0 0 []=some r0) (hv:r0.vs=[.bool b])
 (A:FH) (c:Nat) (μ:Mu) (w:World) (args':List Value) (ha:VRs μ [] args') (hR:R μ A w) (hf:Z22 μ c):Calls P f args'.toArray w (Z6g μ A c w { e:=.ret,vs:=[.bool b],h:=A,c:=c,df:=[] }):=by
 have h0:R (fun _=>none:Mu) A0 w:=⟨(fun i m e=>by cases e),(fun i j mi mj ei=>by cases ei),(fun i m e=>by cases e)⟩
 have ha':args'=[]:=qX ha.1.symm
 subst ha'
 refine (ZiJ hbk hmix e (VRs.nil _) h0 (fun i hi=>rfl)).mono ?_
 rintro en w' ⟨v,v',μ',h1,h2,h3,hE⟩
 rw [hv] at h1
 cases h1
 have h3':=h3.bool_left
 subst h3'
 have hfr:∀ b,b<w.heap.size->w'.heap[b]? = w.heap[b]?:=fun b hb=>hE.fr b hb (fun i m e=>(by cases e))
 refine ⟨_,_,μ,rfl,h2,.bool b, ?_⟩
 refine { mu:=fun i m e=>e,new:=fun i e0 e1=>absurd e0 e1,cle:=qG _,rel:=?_,af:=fun i e0 hi _=>rfl,os:=hE.os,tape:=hE.tape,output:=hE.output,size:=hE.size,fr:=fun b hb _=>hfr b hb,wrm:=fun i m e hw=>hw,newb:=fun i m e0 e1=>(by rw [e0] at e1; cases e1),dd:=fun i m e hd=>hd }
 refine ⟨fun i m em=>?_,hR.inj,fun i m em=>Nat.lt_of_lt_of_le (hR.lt i m em) hE.size⟩
 have hb:=hR.blk i m em
 have hl:=hR.lt i m em
 unfold Z7H at hb ⊢
 rw [hfr m.b hl]
 exact hb
end Go.Ab


namespace Go.Ab
open Go
variable {P:Program}
@[simp] theorem boolK_bool {β:Type} (t:Bool) (a b:Option β):Z09 (.bool t) a b=cond t a b:=rfl
@[simp] theorem gv_bool (b w:Bool):gv (.bool b) w=some (b == w):=rfl
@[simp] theorem ret1_v {H:Type} (h:H) (c:Nat) (v:Value):Z7F h c (some v)=some (v,h,c):=rfl
@[simp] theorem pickV_bool (t:Bool) (a b:Value):Z0C (.bool t) a b=some (cond t a b):=rfl
@[simp] theorem pickR_bool {H:Type} (h:H) (c:Nat) (t:Bool) (a b:Value):Zdz h c (.bool t) a b=some (cond t a b,h,c):=rfl
@[simp] theorem exIs_nn:Z0r .normal .normal=true:=rfl
@[simp] theorem exIs_rr:Z0r .ret .ret=true:=rfl
@[simp] theorem exIs_nr:Z0r .normal .ret=false:=rfl
@[simp] theorem exIs_rn:Z0r .ret .normal=false:=rfl
@[simp] theorem exIs_ne (i:Nat):Z0r .normal (.exit i)=false:=rfl
@[simp] theorem exIs_re (i:Nat):Z0r .ret (.exit i)=false:=rfl
@[simp] theorem exIs_en (i:Nat):Z0r (.exit i) .normal=false:=rfl
@[simp] theorem exIs_er (i:Nat):Z0r (.exit i) .ret=false:=rfl
@[simp] theorem exIs_ee (i j:Nat):Z0r (.exit i) (.exit j)=decide (i=j):=by
 show Nat.beq i j=_
 rw [Bool.eq_iff_iff]; simp
@[simp] theorem v_zero {H:Type} (e:Ex) (v:Value) (vs:List Value) (h:H) (c:Nat) (df:List Nat):Rt.v { e:=e,vs:=v::vs,h:=h,c:=c,df:=df } 0=v:=rfl
@[simp] theorem v_succ {H:Type} (e:Ex) (v:Value) (vs:List Value) (h:H) (c:Nat) (df:List Nat) (i:Nat) :
 Rt.v { e:=e,vs:=v::vs,h:=h,c:=c,df:=df } (i+1)=Rt.v { e:=e,vs:=vs,h:=h,c:=c,df:=df } i:=rfl
@[simp] theorem aBinOp_lss (t:TypeId) (k:IntKind) (a b:Int):Z00 P .lss t (.int k a) (.int k b)=some (.bool (decide (a<b))):=by rw [Z0A]; simp [Z0O,Z1U]
@[simp] theorem aBinOp_leq (t:TypeId) (k:IntKind) (a b:Int):Z00 P .leq t (.int k a) (.int k b)=some (.bool (decide (a<=b))):=by rw [Z0A]; simp [Z0O,Z1U]
@[simp] theorem aBinOp_gtr (t:TypeId) (k:IntKind) (a b:Int):Z00 P .gtr t (.int k a) (.int k b)=some (.bool (decide (b<a))):=by rw [Z0A]; simp [Z0O,Z1U]
@[simp] theorem aBinOp_geq (t:TypeId) (k:IntKind) (a b:Int):Z00 P .geq t (.int k a) (.int k b)=some (.bool (decide (b<=a))):=by rw [Z0A]; simp [Z0O,Z1U]
@[simp] theorem aBinOp_eql (t:TypeId) (k:IntKind) (a b:Int):Z00 P .eql t (.int k a) (.int k b)=some (.bool (decide (a=b))):=by rw [Z0A]; simp only [Z0O,Z1U,decide_true,cond_true]; congr
@[simp] theorem aBinOp_neq (t:TypeId) (k:IntKind) (a b:Int):Z00 P .neq t (.int k a) (.int k b)=some (.bool (!decide (a=b))):=by rw [Z0A]; simp only [Z0O,Z1U,decide_true,cond_true]; congr
theorem ZaB (t:TypeId) (a b:Int):Z00 P .add t (.int .i64 a) (.int .i64 b)=some (.int .i64 (IntKind.i64.wrap (a+b))):=by rw [Z0A]; simp [Z0O,Z1U]
@[simp] theorem aBinOp_add (t:TypeId) (a b:Int) (h1:-9223372036854775808<=a+b) (h2:a+b<9223372036854775808):Z00 P .add t (.int .i64 a) (.int .i64 b)=some (.int .i64 (a+b)):=by
 rw [ZaB,Z45 h1 h2]
@[simp] theorem aBinOp_sub (t:TypeId) (a b:Int) (h1:-9223372036854775808<=a-b) (h2:a-b<9223372036854775808):Z00 P .sub t (.int .i64 a) (.int .i64 b)=some (.int .i64 (a-b)):=by
 rw [Z0A]; simp only [Z0O,Z1U,decide_true,cond_true,Z45 h1 h2]
@[simp] theorem aBinOp_mul (t:TypeId) (a b:Int) (h1:-9223372036854775808<=a*b) (h2:a*b<9223372036854775808):Z00 P .mul t (.int .i64 a) (.int .i64 b)=some (.int .i64 (a*b)):=by
 rw [Z0A]; simp only [Z0O,Z1U,decide_true,cond_true,Z45 h1 h2]
@[simp] theorem aBinOp_quo (t:TypeId) (a b:Int) (h:b ≠ 0) (h1:-9223372036854775808<=a.tdiv b) (h2:a.tdiv b<9223372036854775808):Z00 P .quo t (.int .i64 a) (.int .i64 b)=some (.int .i64 (a.tdiv b)):=by
 rw [Z0A]; simp only [Z0O,Z1U,decide_true,cond_true,Z45 h1 h2,h,decide_false,cond_false]
@[simp] theorem aBinOp_rem (t:TypeId) (a b:Int) (h:b ≠ 0):Z00 P .rem t (.int .i64 a) (.int .i64 b)=some (.int .i64 (a.tmod b)):=by
 rw [Z0A]; simp only [Z0O,Z1U,decide_true,cond_true,h,decide_false,cond_false]
@[simp] theorem aUnOp_not (b:Bool):Z2g .not (.bool b)=some (.bool (!b)):=rfl
@[simp] theorem aUnOp_neg (a:Int) (h1:-9223372036854775808 <= -a) (h2:-a<9223372036854775808):Z2g .neg (.int .i64 a)=some (.int .i64 (-a)):=by
 simp only [Z2g,Int.zero_sub,Z45 h1 h2]
@[simp] theorem cnvI_i64 (k:IntKind) (a:Int) (h1:-9223372036854775808<=a) (h2:a<9223372036854775808):cnvI .i64 (.int k a)=some (.int .i64 a):=by simp only [cnvI,Z45 h1 h2]
@[simp] theorem foldV_max (a b:Int):Z5A max2 [.int .i64 a,.int .i64 b]=some (.int .i64 (max a b)):=by
 simp only [Z5A,List.foldlM,max2,decide_true,cond_true]
 show some (Value.int .i64 _)=_
 congr 2
 split <;> omega
@[simp] theorem foldV_min (a b:Int):Z5A min2 [.int .i64 a,.int .i64 b]=some (.int .i64 (min a b)):=by
 simp only [Z5A,List.foldlM,min2,decide_true,cond_true]
 show some (Value.int .i64 _)=_
 congr 2
 split <;> omega
@[simp] theorem lenS_sl (a:Option Addr) (n k:Nat):Z1q (.slice a n k)=some (.int .i64 n):=rfl
@[simp] theorem addOff_ptrTo (i n:Nat):Z03 (ptrTo i) n=some (.pointer (some ⟨i,n,none⟩)):=by simp [Z03,ptrTo,Z2N]
@[simp] theorem addOff_ptr (i o n:Nat):Z03 (.pointer (some ⟨i,o,none⟩)) n=some (.pointer (some ⟨i,o+n,none⟩)):=rfl
@[simp] theorem nilCheck_ptrTo (i:Nat):Z0e (ptrTo i)=some (ptrTo i):=rfl
@[simp] theorem nilCheck_ptr (i o:Nat):Z0e (.pointer (some ⟨i,o,none⟩))=some (.pointer (some ⟨i,o,none⟩)):=rfl
theorem Z7D {len:Nat} {k:IntKind} {i:Int} (h1:0<=i) (h2:i<(len:Int)):Zob len (.int k i)=some i.toNat:=by
 unfold Zob
 cases i with
 | ofNat m =>
  dsimp only
  have:Nat.blt m len=true:=by rw [Nat.blt_eq]; simpa using h2
  rw [this]; rfl
 | negSucc m=>simp at h1
@[simp] theorem ixA_ptrTo (len sz b:Nat) (k:IntKind) (i:Int) (h1:0<=i) (h2:i<(len:Int)):ixA len sz (ptrTo b) (.int k i)=some (.pointer (some ⟨b,i.toNat*sz,none⟩)):=by
 simp [ixA,Z7D h1 h2]
@[simp] theorem ixA_ptr (len sz b o:Nat) (k:IntKind) (i:Int) (h1:0<=i) (h2:i<(len:Int)):ixA len sz (.pointer (some ⟨b,o,none⟩)) (.int k i)=some (.pointer (some ⟨b,o+i.toNat*sz,none⟩)):=by
 simp [ixA,Z7D h1 h2]
@[simp] theorem ixS_sl (sz b o n cap:Nat) (k:IntKind) (i:Int) (h1:0<=i) (h2:i<(n:Int)):ixS sz (.slice (some ⟨b,o,none⟩) n cap) (.int k i)=some (.pointer (some ⟨b,o+i.toNat*sz,none⟩)):=by
 simp [ixS,Z7D h1 h2]
@[simp] theorem get_newB_same (h:FH) (i:Nat) (cs:List Value):HeapC.get (newB h i cs) i=some (.cells false none cs):=by simp [newB,HeapC.get_set]
@[simp] theorem get_newB_ne (h:FH) (i j:Nat) (cs:List Value) (hne:j ≠ i):HeapC.get (newB h i cs) j=HeapC.get h j:=by simp [newB,HeapC.get_set,hne]
theorem FH.ext {a b:FH} (h:∀ i,a.f i=b.f i):a=b:=by
 cases a; cases b
 congr
 exact funext h
theorem Z01 (h:FH) (i:Nat) (cs:List Value) (j:Nat):(newB h i cs).f j=if j=i then some (.cells false none cs) else h.f j:=HeapC.get_set (H:=FH) h i _ j
@[simp] theorem newB_newB (h:FH) (i:Nat) (a b:List Value):newB (newB h i a) i b=newB h i b:=by
 apply FH.ext
 intro j
 simp only [Z01]
 split <;> rfl
theorem Z1F (h:FH) (i j:Nat) (a b:List Value) (hne:i ≠ j):newB (newB h i a) j b=newB (newB h j b) i a:=by
 apply FH.ext
 intro k
 simp only [Z01]
 by_cases h1:k=j
 · have h2:¬ k=i:=qO
   rw [if_pos h1,if_neg h2,if_pos h1]
 · rw [if_neg h1,if_neg h1]
theorem newB_same (h:FH) (i:Nat) (cs:List Value) (hg:HeapC.get h i=some (.cells false none cs)):newB h i cs=h:=by
 apply FH.ext
 intro k
 rw [Z01]
 split
 · rename_i e; rw [e]; exact hg.symm
 · rfl
def Z0d (h:FH) (b:Nat) (cs:List Value):Prop:=∃ ro op,HeapC.get h b=some (.cells ro op cs)
theorem Z0d.newB_same (h:FH) (i:Nat) (cs:List Value):Z0d (newB h i cs) i cs:=⟨_,_,get_newB_same h i cs⟩
theorem Z0d.newB_ne {h:FH} {i j:Nat} {cs ds:List Value} (hne:j ≠ i) (hh:Z0d h j ds):Z0d (newB h i cs) j ds:=by
 obtain ⟨ro,op,e⟩:=hh
 exact ⟨ro,op,by rw [get_newB_ne h i j cs hne]; exact e⟩
theorem ld1_holds {h:FH} {b o:Nat} {cs:List Value} {v:Value} (hh:Z0d h b cs) (hv:cs[o]? = some v):ld1 h (.pointer (some ⟨b,o,none⟩))=some v:=by
 obtain ⟨ro,op,e⟩:=hh
 simp [ld1,Z2N,Z6j,Z0s,e,hv]
theorem ldN_holds {h:FH} {n b o:Nat} {cs:List Value} (hh:Z0d h b cs) (hv:o+n<=cs.length):ldN h n (.pointer (some ⟨b,o,none⟩))=some (.agg ((cs.drop o).take n).toArray):=by
 obtain ⟨ro,op,e⟩:=hh
 have:Nat.ble (o+n) cs.length=true:=qK hv
 simp [ldN,Z2N,Z0S,Z0s,e,this]
@[simp] theorem ld1_newB_same (h:FH) (i o:Nat) (cs:List Value):ld1 (newB h i cs) (.pointer (some ⟨i,o,none⟩))=cs[o]?:=by simp [ld1,Z2N,Z6j,Z0s]
@[simp] theorem ld1_newB_ne (h:FH) (i j o:Nat) (cs:List Value) (hne:j ≠ i):ld1 (newB h i cs) (.pointer (some ⟨j,o,none⟩))=ld1 h (.pointer (some ⟨j,o,none⟩)):=by simp [ld1,Z2N,Z6j,Z0s,hne]
@[simp] theorem ld1_ptrTo (h:FH) (i:Nat):ld1 h (ptrTo i)=ld1 h (.pointer (some ⟨i,0,none⟩)):=rfl
@[simp] theorem ldN_ptrTo (h:FH) (n i:Nat):ldN h n (ptrTo i)=ldN h n (.pointer (some ⟨i,0,none⟩)):=rfl
@[simp] theorem ldN_newB_same (h:FH) (n i o:Nat) (cs:List Value) (hl:o+n<=cs.length):ldN (newB h i cs) n (.pointer (some ⟨i,o,none⟩))=some (.agg ((cs.drop o).take n).toArray) :=
 ldN_holds (Z0d.newB_same h i cs) hl
@[simp] theorem ldN_newB_ne (h:FH) (n i j o:Nat) (cs:List Value) (hne:j ≠ i):ldN (newB h i cs) n (.pointer (some ⟨j,o,none⟩))=ldN h n (.pointer (some ⟨j,o,none⟩)):=by simp [ldN,Z2N,Z0S,Z0s,hne]
theorem Z0q (h:FH) (n i o:Nat) (cs:List Value) (x:Value) (h1:x.cells.size=n) (h2:o+n<=cs.length) (h3:x.cells.toList.all Z08=true) :
 stN (newB h i cs) n (.pointer (some ⟨i,o,none⟩)) x=some (newB h i (Z0Z cs o x.cells.toList)):=by
 have a:Nat.beq x.cells.size n=true:=by rw [h1]; exact Nat.beq_refl n
 have b:Nat.ble (o+x.cells.toList.length) cs.length=true:=qK (by simpa [h1] using h2)
 simp only [stN,Z2N,qD,a,cond_true,Z2I,get_newB_same,b,h3,qV]
 have:=newB_newB h i cs (Z0Z cs o x.cells.toList)
 simp only [newB] at this ⊢
 rw [this]
@[simp] theorem stN_newB_ne (h:FH) (n i j o:Nat) (cs:List Value) (x:Value) (hne:j ≠ i) :
 stN (newB h i cs) n (.pointer (some ⟨j,o,none⟩)) x=(stN h n (.pointer (some ⟨j,o,none⟩)) x).map fun h'=>newB h' i cs:=by
 simp only [stN,Z2N,qD]
 cases Nat.beq x.cells.size n with
 | false=>rfl
 | true =>
  simp only [cond_true,Z2I,get_newB_ne h i j cs hne]
  split
  · rename_i op c _
    cases Nat.ble (o+x.cells.toList.length) c.length && x.cells.toList.all Z08 with
    | false=>rfl
    | true =>
     simp only [cond_true,Option.map_some]
     congr 1
     apply FH.ext
     intro k
     have g:∀ (h:FH) (i:Nat) (b:ABlk) (k:Nat),(HeapC.set h i b).f k=if k=i then some b else h.f k:=fun h i b k=>HeapC.get_set (H:=FH) h i b k
     simp only [Z01,g]
     by_cases hk:k=j
     · have h2:¬ k=i:=qO
       rw [if_pos hk,if_neg h2,if_pos hk]
     · rw [if_neg hk,if_neg hk]
  · rfl
@[simp] theorem stN_ptrTo (h:FH) (n i:Nat) (x:Value):stN h n (ptrTo i) x=stN h n (.pointer (some ⟨i,0,none⟩)) x:=rfl
theorem Zhy (c:Nat) (h A:FH) (i:Nat):(mrg c h A).f i=if i<256*c then h.f i else A.f i:=rfl
@[simp] theorem mrg_self (c:Nat) (A:FH):mrg c A A=A:=by
 apply FH.ext; intro i; rw [Zhy]; split <;> rfl
@[simp] theorem mrg_new (c:Nat) (h A:FH) (i:Nat) (cs:List Value) (hi:256*c<=i):mrg c (newB h i cs) A=mrg c h A:=by
 apply FH.ext; intro j
 rw [Zhy,Zhy,Z01]
 split
 · rw [if_neg qO]
 · rfl
@[simp] theorem mrg_old (c:Nat) (h A:FH) (i:Nat) (cs:List Value) (hi:i<256*c):mrg c (newB h i cs) A=newB (mrg c h A) i cs:=by
 apply FH.ext; intro j
 simp only [Zhy,Z01]
 by_cases e:j=i
 · rw [if_pos e,if_pos e,if_pos qO]
 · rw [if_neg e,if_neg e]
theorem GcH.refl (c:Nat) (A:FH):GcH c A A:=fun _ _=>.inl rfl
theorem GcH.new {c i:Nat} {h A:FH} {cs:List Value} (hi:256*c<=i) (hh:GcH c h A):GcH c (newB h i cs) A:=by
 intro j hj
 rw [Z01,if_neg qO]
 exact hh j hj
theorem GcH.old {c i:Nat} {h A:FH} {cs:List Value} (hc:Z0Q c cs) (hh:GcH c h A):GcH c (newB h i cs) A:=by
 intro j hj
 rw [Z01]
 split
 · exact .inr hc
 · exact hh j hj
def ints (l:List Int):List Value:=l.map (.int .i64)
@[simp] theorem ints_length (l:List Int):(ints l).length=l.length:=by simp [ints]
theorem Z4V (l:List Int) (i:Nat):(ints l)[i]? = l[i]?.map (.int .i64):=by simp [ints]
theorem Z18 (l:List Int):(ints l).all Z08=true:=by simp [ints,Z08]
theorem Z0Q.ints (c:Nat) (l:List Int):Z0Q c (ints l):=by
 intro v hv
 obtain ⟨n,_,rfl⟩:=List.mem_map.1 hv
 exact OkV.int c _ n
theorem Z1G (l:List Int) (n:Nat):(ints l).drop n=ints (l.drop n):=by simp [ints]
theorem Z1e (l:List Int) (n:Nat):(ints l).take n=ints (l.take n):=by simp [ints]
theorem Z4W (l m:List Int):ints l++ints m=ints (l++m):=by simp [ints]
theorem Z1r (l:List Int) (i:Nat) (x:Int):(ints l).set i (.int .i64 x)=ints (l.set i x):=by simp [ints,List.map_set]
theorem Z4g (cs:List Value) (o:Nat) (v:Value) (h:o<cs.length):Z0Z cs o [v]=cs.set o v:=by
 unfold Z0Z
 rw [List.set_eq_take_append_cons_drop,if_pos h]
 simp
@[simp] theorem ints_getElem (l:List Int) (i:Nat) (h:i<(ints l).length):(ints l)[i] = .int .i64 (l[i]'(by simpa using h)):=by simp [ints]
def av (l:List Int):Value:=.agg (ints l).toArray
theorem Zqw (l:List Int):(av l).cells.toList.all Z08=true:=by simp [av,Value.cells,ints,Z08]
theorem Z6b (l:List Int):(av l).cells.toList=ints l:=by simp [av,Value.cells]
theorem Zkk (l:List Int):(av l).cells.size=l.length:=by simp [av,Value.cells]
theorem OkV.av (c:Nat) (l:List Int):OkV c (av l):=OkV.agg (Z0Q.ints c l)
theorem Zgk (l:List Int) (len:Nat) (k:IntKind) (i:Int) (h1:0<=i) (h2:i<(len:Int)) (h3:l.length=len):ixV len false 1 (av l) (.int k i)=some (.int .i64 (l.getD i.toNat 0)):=by
 have h4:i.toNat<l.length:=qO
 have h5:(ints l)[i.toNat*1]? = some (.int .i64 (l.getD i.toNat 0)):=by rw [Nat.mul_one,Z4V,qI h4]; simp [List.getD,qI h4]
 simp only [ixV,av,Zqx,qD,Z7D h1 h2,Zhw,cond_false,List.toList_toArray]
 exact h5
theorem Z2p (l:List Int) (len sz:Nat) (k:IntKind) (i:Int) (h1:0<=i) (h2:i<(len:Int)) (h3:l.length=len*sz):ixV len true sz (av l) (.int k i)=some (av ((l.drop (i.toNat*sz)).take sz)):=by
 have h4:i.toNat<len:=qO
 have h5:i.toNat*sz+sz<=len*sz:=by have:=Nat.mul_le_mul_right sz (Nat.succ_le_of_lt h4); rw [Nat.succ_mul] at this; exact this
 have h6:Nat.ble (i.toNat*sz+sz) (ints l).length=true:=qK (by simpa [h3] using h5)
 simp only [ixV,av,Zqx,qD,Z7D h1 h2,Zhw,cond_true,List.toList_toArray,h6,Z1G,Z1e]
def Z0l (c:Nat) (h h':FH):Prop:=∀ i,i<256*c->h'.f i=h.f i
theorem Z0l.refl (c:Nat) (h:FH):Z0l c h h:=fun _ _=>rfl
theorem Z0l.newB {c i:Nat} {h h':FH} {cs:List Value} (hi:256*c<=i) (hh:Z0l c h h'):Z0l c h (newB h' i cs):=by
 intro j hj
 rw [Z01,if_neg qO]
 exact hh j hj
theorem Z0c (h:FH) (i:Nat) (b:ABlk) (j:Nat):(HeapC.set h i b).f j=if j=i then some b else h.f j:=HeapC.get_set (H:=FH) h i b j
theorem ZnX (h:FH) (i:Nat) (j:Nat):(HeapC.del h i).f j=if j=i then none else h.f j:=HeapC.get_del (H:=FH) h i j
theorem Z0l.set {c i:Nat} {h h':FH} {b:ABlk} (hi:256*c<=i) (hh:Z0l c h h'):Z0l c h (HeapC.set h' i b):=by
 intro j hj
 rw [Z0c,if_neg qO]
 exact hh j hj
theorem Z0l.mono {c c':Nat} {h h':FH} (hc:c<=c') (hh:Z0l c' h h'):Z0l c h h':=fun i hi=>hh i qO
theorem Z0l.trans {c:Nat} {a b d:FH} (h:Z0l c a b) (k:Z0l c b d):Z0l c a d:=fun i hi=>(k i hi).trans (h i hi)
def SlI (h:FH) (c:Nat) (s:Value) (sz n:Nat) (G:List Int):Prop :=
 G.length=n*sz/\n<=9223372036854775807 /\ ∃ a cap,s = .slice a n cap/\(n=0/\OkV c s ∨ ∃ b o cs,a=some ⟨b,o,none⟩/\b<256*c/\Z0d h b cs/\(cs.drop o).take (n*sz)=ints G)
theorem SlI.same {h h':FH} {c:Nat} {s:Value} {sz n:Nat} {G:List Int} (hs:SlI h c s sz n G) (hh:Z0l c h h'):SlI h' c s sz n G:=by
 obtain ⟨h1,h2,a,cap,h3,h4⟩:=hs
 refine ⟨h1,h2,a,cap,h3,h4.imp id ?_⟩
 rintro ⟨b,o,cs,e1,e2,⟨ro,op,e3⟩,e4⟩
 exact ⟨b,o,cs,e1,e2,⟨ro,op,(hh b e2).trans e3⟩,e4⟩
theorem SlI.mono {h:FH} {c c':Nat} {s:Value} {sz n:Nat} {G:List Int} (hs:SlI h c s sz n G) (hc:c<=c'):SlI h c' s sz n G:=by
 obtain ⟨h1,h2,a,cap,h3,h4⟩:=hs
 refine ⟨h1,h2,a,cap,h3, ?_⟩
 rcases h4 with ⟨e,v',hv⟩ | ⟨b,o,cs,e1,e2,e3,e4⟩
 · refine .inl ⟨e, ?_⟩
   subst h3
   cases a with
   | none=>exact OkV.sl0 _ _ _
   | some a =>
    cases hv with
    | sl h _ _=>exact OkV.sl (by have:=ZcJ (c:=c) (i:=_) (by rw [h]; simp); omega)
    | slE h=>exact OkV.sl (by have:=ZcJ (c:=c) (i:=_) (by rw [h]; simp); omega)
 · exact .inr ⟨b,o,cs,e1,qO,e3,e4⟩
theorem SlI.okV {h:FH} {c:Nat} {s:Value} {sz n:Nat} {G:List Int} (hs:SlI h c s sz n G):OkV c s:=by
 obtain ⟨h1,h2,a,cap,rfl,h4⟩:=hs
 rcases h4 with ⟨e,hv⟩ | ⟨b,o,cs,rfl,e2,e3,e4⟩
 · exact hv
 · exact OkV.sl e2
theorem SlI.len {h:FH} {c:Nat} {s:Value} {sz n:Nat} {G:List Int} (hs:SlI h c s sz n G):Z1q s=some (.int .i64 n):=by
 obtain ⟨h1,h2,a,cap,rfl,h4⟩:=hs
 rfl
theorem SlI.ix {h:FH} {c:Nat} {s:Value} {sz n:Nat} {G:List Int} (hs:SlI h c s sz n G) (k:IntKind) (i:Int) (h1:0<=i) (h2:i<(n:Int)) :
 ∃ b o cs,ixS sz s (.int k i)=some (.pointer (some ⟨b,o+i.toNat*sz,none⟩))/\b<256*c/\Z0d h b cs/\(cs.drop o).take (n*sz)=ints G:=by
 obtain ⟨g1,g2,a,cap,rfl,h4⟩:=hs
 rcases h4 with ⟨e,hv⟩ | ⟨b,o,cs,rfl,e2,e3,e4⟩
 · omega
 · exact ⟨b,o,cs,ixS_sl sz b o n cap k i h1 h2,e2,e3,e4⟩
theorem ZoQ {cs:List Value} {o m:Nat} {G:List Int} (e:(cs.drop o).take m=ints G) {j:Nat} (hj:j<G.length):cs[o+j]? = some (.int .i64 (G.getD j 0)):=by
 have h1:((cs.drop o).take m)[j]? = some (.int .i64 (G.getD j 0)):=by
  rw [e,Z4V,qI hj]; simp [List.getD,qI hj]
 have hjm:j<m:=by
  have:=(jC.1 h1).1
  simp at this; omega
 rw [List.getElem?_take_of_lt hjm,List.getElem?_drop] at h1
 exact h1
theorem ZoP {cs:List Value} {o m:Nat} {G:List Int} (e:(cs.drop o).take m=ints G) (h:0<G.length):o+G.length<=cs.length:=by
 have:=congrArg List.length e
 simp at this; omega
theorem Ziw {cs:List Value} {o m:Nat} {G:List Int} (e:(cs.drop o).take m=ints G) {j q:Nat} (hj:j+q<=G.length):(cs.drop (o+j)).take q=ints ((G.drop j).take q):=by
 rw [← Z1e,← Z1G,← e,List.drop_take,List.drop_drop,List.take_take]
 have hm:G.length<=m:=by have:=congrArg List.length e; simp at this; omega
 congr 1
 omega
theorem Zpm {h:FH} {b o m:Nat} {cs:List Value} {G:List Int} (hh:Z0d h b cs) (e:(cs.drop o).take m=ints G) {j:Nat} (hj:j<G.length):ld1 h (.pointer (some ⟨b,o+j,none⟩))=some (.int .i64 (G.getD j 0)) :=
 ld1_holds hh (ZoQ e hj)
theorem ZcL {h:FH} {b o m q:Nat} {cs:List Value} {G:List Int} (hh:Z0d h b cs) (e:(cs.drop o).take m=ints G) {j:Nat} (hj:j+q<=G.length) (hq:0<q):ldN h q (.pointer (some ⟨b,o+j,none⟩))=some (av ((G.drop j).take q)):=by
 have:=ZoP e qO
 rw [ldN_holds hh qO,Ziw e hj]
 rfl
theorem Z1z {A:FH} {c:Nat} {df:List Nat} {e:Ex} {vs:List Value} {c':Nat} (h1:Z0Q c vs):gcR A c df { e:=e,vs:=vs,h:=A,c:=c',df:=df } = { e:=e,vs:=vs,h:=A,c:=c,df:=df }:=by
 rw [Zjm h1 (GcH.refl c A),mrg_self]
theorem Z05 {o:Orc FH} {g:FuncId} {args:List Value} {h h':FH} {c c':Nat} {v:Value} {e:Ex} {df:List Nat} (e1:o (.fn g) args h c []=some { e:=e,vs:=[v],h:=h',c:=c',df:=df }):callF o g args h c=some (v,h',c'):=by
 simp only [callF,e1,qD]
attribute [simp] OkV.bool OkV.int OkV.str OkV.ptr0 OkV.sl0 OkV.map0 OkV.nilFunc Z0Q.nil Z0Q.cons_iff OkV.av Z0Q.ints OkV.ptr OkV.ptrTo OkV.sl OkV.map GcH.refl Zqw Z6b Zkk
def Ans {α:Type} (x:Option α) (Q:α->Prop):Prop:=∃ r,x=some r/\Q r
theorem Ans.intro {α:Type} {x:Option α} {Q:α->Prop} {r:α} (h:x=some r) (hq:Q r):Ans x Q:=⟨r,h,hq⟩
theorem Ans.mono {α:Type} {x:Option α} {Q Q':α->Prop} (h:Ans x Q) (hq:∀ r,Q r->Q' r):Ans x Q':=let ⟨r,a,b⟩:=h; ⟨r,a,hq r b⟩
@[simp] theorem Ans_some {α:Type} {r:α} {Q:α->Prop}:Ans (some r) Q ↔ Q r:=⟨fun ⟨_,e,h⟩=>by cases e; exact h,fun h=>⟨r,rfl,h⟩⟩
theorem Ans.eq {α:Type} {x:Option α} {r:α} (h:Ans x (fun q=>q=r)):x=some r:=by
 obtain ⟨q,e,rfl⟩:=h
 exact e
theorem Z5Y {A h:FH} {c:Nat} {df:List Nat} {e:Ex} {vs:List Value} {c':Nat} (h1:Z0Q c vs) (h2:Z0l c A h):gcR A c df { e:=e,vs:=vs,h:=h,c:=c',df:=df } = { e:=e,vs:=vs,h:=A,c:=c,df:=df }:=by
 rw [Zjm h1 (fun i hi=>.inl (h2 i hi))]
 have:mrg c h A=A:=by
  apply FH.ext
  intro i
  rw [Zhy]
  split
  · rename_i hi; exact h2 i hi
  · rfl
 rw [this]
theorem Z6u {X S:Option (Rt FH)} {h:FH} {c:Nat} {v:Value} (hgo:∀ r,S=some r->X=some (gcR h c [] r)) (hv:OkV c v) (hS:Ans S (fun r=>r.e = .ret/\r.vs=[v]/\Z0l c h r.h/\r.df=[])) :
 X=some { e:=.ret,vs:=[v],h:=h,c:=c,df:=[] }:=by
 obtain ⟨⟨re,rv,rh,rc,rd⟩,e,h1,h2,h3,h4⟩:=hS
 simp only at h1 h2 h3 h4
 subst h1 h2 h4
 rw [hgo _ e,Z5Y (Z0Q.cons hv (Z0Q.nil c)) h3]
attribute [simp] Z0l.refl
@[simp] theorem Same_newB {c i:Nat} {h h':FH} {cs:List Value} (hi:256*c<=i):Z0l c h (newB h' i cs) ↔ Z0l c h h':=by
 refine ⟨fun hh j hj=>?_,fun hh=>hh.newB hi⟩
 have:=hh j hj
 rw [Z01,if_neg qO] at this
 exact this
@[simp] theorem Same_set {c i:Nat} {h h':FH} {b:ABlk} (hi:256*c<=i):Z0l c h (HeapC.set h' i b) ↔ Z0l c h h':=by
 refine ⟨fun hh j hj=>?_,fun hh=>hh.set hi⟩
 have:=hh j hj
 rw [Z0c,if_neg qO] at this
 exact this
attribute [simp] Z18 Z1e Z1G
@[simp] theorem agg_ints (l:List Int):Value.agg (ints l).toArray=av l:=rfl
@[simp] theorem takeAll_nil {H:Type} [HeapC H] (h:H):Z0a h []=some h:=rfl
def Z0G (c:Nat) (A B:FH):Prop:=∀ i,(256*c<=i->B.f i=A.f i)/\(i<256*c->B.f i=A.f i ∨ OkB c (B.f i))
@[simp] theorem Z0G.refl (c:Nat) (A:FH):Z0G c A A:=fun _=>⟨fun _=>rfl,fun _=>.inl rfl⟩
theorem Z0G.old {c b:Nat} {A B:FH} {cs:List Value} (hb:b<256*c) (hc:Z0Q c cs) (h:Z0G c A B):Z0G c A (newB B b cs):=by
 intro i
 rw [Z01]
 refine ⟨fun hi=>?_,fun hi=>?_⟩
 · rw [if_neg qO]; exact (h i).1 hi
 · split
   · exact .inr hc
   · exact (h i).2 hi
theorem Z0G.both {c b:Nat} {A B:FH} {ds cs:List Value} (hc:Z0Q c cs) (h:Z0G c A B) (hb:b<256*c):Z0G c (newB A b ds) (newB B b cs):=by
 intro i
 rw [Z01,Z01]
 refine ⟨fun hi=>?_,fun hi=>?_⟩
 · rw [if_neg qO,if_neg qO]; exact (h i).1 hi
 · by_cases e:i=b
   · rw [if_pos e]; exact .inr hc
   · rw [if_neg e,if_neg e]; exact (h i).2 hi
theorem ZdK {A h B:FH} {c:Nat} {df:List Nat} {e:Ex} {vs:List Value} {c':Nat} (h1:Z0Q c vs) (h2:Z0l c B h) (h3:Z0G c A B):gcR A c df { e:=e,vs:=vs,h:=h,c:=c',df:=df } = { e:=e,vs:=vs,h:=B,c:=c,df:=df }:=by
 rw [Zjm h1 (fun i hi=>by rw [h2 i hi]; exact (h3 i).2 hi)]
 have:mrg c h A=B:=by
  apply FH.ext
  intro i
  rw [Zhy]
  split
  · rename_i hi; exact h2 i hi
  · exact ((h3 i).1 qO).symm
 rw [this]
theorem Zeu {h:FH} {b c:Nat} {df:List Nat} {e:Ex} {vs cs cs':List Value} {c':Nat} (hb:b<256*c) (h1:Z0Q c vs) (h2:Z0Q c cs') :
 gcR (newB h b cs) c df { e:=e,vs:=vs,h:=newB h b cs',c:=c',df:=df } = { e:=e,vs:=vs,h:=newB h b cs',c:=c,df:=df } :=
 ZdK h1 (Z0l.refl _ _) (Z0G.both h2 (Z0G.refl _ _) hb)
theorem ZdH (a:Int) (l:List Int):ints (a::l) = .int .i64 a::ints l:=rfl
theorem Zgm:ints []=[]:=rfl
@[simp] theorem st1_int (h:FH) (i o:Nat) (cs:List Value) (k:IntKind) (x:Int) (ho:o<cs.length):stN (newB h i cs) 1 (.pointer (some ⟨i,o,none⟩)) (.int k x)=some (newB h i (cs.set o (.int k x))):=by
 rw [Z0q h 1 i o cs (.int k x) rfl qO rfl]
 show some (newB h i (Z0Z cs o [.int k x]))=_
 rw [Z4g cs o _ ho]
@[simp] theorem st1_bool (h:FH) (i o:Nat) (cs:List Value) (x:Bool) (ho:o<cs.length):stN (newB h i cs) 1 (.pointer (some ⟨i,o,none⟩)) (.bool x)=some (newB h i (cs.set o (.bool x))):=by
 rw [Z0q h 1 i o cs (.bool x) rfl qO rfl]
 show some (newB h i (Z0Z cs o [.bool x]))=_
 rw [Z4g cs o _ ho]
@[simp] theorem ints_set' (l:List Int) (i:Nat) (x:Int):(ints l).set i (.int .i64 x)=ints (l.set i x):=Z1r l i x
@[simp] theorem stN_all (h:FH) (i n:Nat) (cs:List Value) (l:List Int) (h1:l.length=n) (h2:cs.length=n):stN (newB h i cs) n (.pointer (some ⟨i,0,none⟩)) (av l)=some (newB h i (ints l)):=by
 rw [Z0q h n i 0 cs (av l) (by simp [h1]) qO (by simp)]
 simp only [Z6b,Z0Z,List.take_zero,List.nil_append,Nat.zero_add,ints_length]
 rw [qU qO,qL]
@[simp] theorem isFlat_int (k:IntKind) (n:Int):Z08 (.int k n)=true:=rfl
@[simp] theorem isFlat_bool (n:Bool):Z08 (.bool n)=true:=rfl
@[simp] theorem isFlat_sl (a:Option Addr) (n k:Nat):Z08 (.slice a n k)=true:=rfl
@[simp] theorem isFlat_ptr (a:Option Addr):Z08 (.pointer a)=true:=rfl
theorem Zqv (a b:Int):Z1K [(.int .i64 0),(.int .i64 0)] [(0,1,.int .i64 a),(1,1,.int .i64 b)]=some (av [a,b]):=(rfl)
theorem ZqG (a:Int) (p:List Int) (hp:p.length=4):Z1K [(.int .i64 0),(.int .i64 0),(.int .i64 0),(.int .i64 0),(.int .i64 0)] [(0,1,.int .i64 a),(1,4,av p)]=some (av (a::p)):=by
 match p,hp with
 | [a,b,c,d],_=>rfl
theorem Ans.step {α β:Type} {x:Option α} {v:α} {f:α->Option β} {Q:β->Prop} (h:x=some v) (k:Ans (f v) Q):Ans (x.bind f) Q:=by rw [h]; exact k
theorem Ans.bt {β:Type} {v:Value} {x y:Option β} {Q:β->Prop} (h:v = .bool true) (k:Ans x Q):Ans (Z09 v x y) Q:=by rw [h]; exact k
theorem Ans.bf {β:Type} {v:Value} {x y:Option β} {Q:β->Prop} (h:v = .bool false) (k:Ans y Q):Ans (Z09 v x y) Q:=by rw [h]; exact k
theorem Ans.ct {β:Type} {b:Bool} {x y:Option β} {Q:β->Prop} (h:b=true) (k:Ans x Q):Ans (cond b x y) Q:=by rw [h]; exact k
theorem Ans.cf {β:Type} {b:Bool} {x y:Option β} {Q:β->Prop} (h:b=false) (k:Ans y Q):Ans (cond b x y) Q:=by rw [h]; exact k
theorem Ans.done {α:Type} {r:α} {Q:α->Prop} (h:Q r):Ans (some r) Q:=⟨r,rfl,h⟩
theorem Ans.head {α β:Type} {x:Option α} {f:α->Option β} {Q:β->Prop} {R:α->Prop} (h:Ans x R) (k:∀ a,R a->Ans (f a) Q):Ans (x.bind f) Q:=by
 obtain ⟨a,e,hr⟩:=h
 exact Ans.step e (k a hr)
@[simp] theorem ints_getD (l:List Int) (o:Nat) (h:o<l.length):(ints l)[o]? = some (.int .i64 (l.getD o 0)):=by
 rw [Z4V,qI h]; simp [List.getD,qI h]
end Go.Ab

namespace Go.Ab
open Go
def s4 {α β:Type} (a b c d:α) (x:Nat) (k:α->Option β):Option β :=
 cond (Nat.beq x 0) (k a) (cond (Nat.beq x 1) (k b) (cond (Nat.beq x 2) (k c) (cond (Nat.beq x 3) (k d) none)))
theorem ZoI {Q:Nat->Nat->Nat->Nat->Bool} (h:((List.range 256).all fun n=>Q (n / 64) (n / 16 % 4) (n / 4 % 4) (n % 4))=true) {a b c d:Nat} (ha:a<4) (hb:b<4) (hc:c<4) (hd:d<4):Q a b c d=true:=by
 have:=List.all_eq_true.1 h (64*a+16*b+4*c+d) (by simp; omega)
 have e1:(64*a+16*b+4*c+d) / 64=a:=qO
 have e2:(64*a+16*b+4*c+d) / 16 % 4=b:=qO
 have e3:(64*a+16*b+4*c+d) / 4 % 4=c:=qO
 have e4:(64*a+16*b+4*c+d) % 4=d:=qO
 simpa only [e1,e2,e3,e4] using this
end Go.Ab

namespace Go.Ab
open Go
def orB (a b:Int):Int:=IntKind.i64.wrap ((BitVec.ofInt 64 a ||| BitVec.ofInt 64 b).toNat)
def shB (x:Int):Int:=IntKind.i64.wrap (1*2 ^ (min x.toNat 64))
def Z6E:List Int->Int->Option Int
 | [],m=>some m
 | x::xs,m=>if x<0 ∨ 3<x then none else Z6E xs (orB m (shB x))
def Z1f (p:List Int):Bool:=decide (Z6E p 0=some 15)
def ZhF:List Int->Nat->List Int->List Int
 | [],_,out=>out
 | x::xs,i,out=>ZhF xs (i+1) (out.set x.toNat i)
theorem Z40:∀ (p:List Int) (i:Nat) (out:List Int),(ZhF p i out).length=out.length
 | [],_,_=>rfl
 | x::xs,i,out=>by rw [ZhF,Z40]; simp
def inv (p:List Int):List Int:=ZhF p 0 [0,0,0,0]
def InR (p:List Int):Prop:=∀ x ∈ p,0<=x/\x<4
def Zo0 (p q:List Int):List Int:=q.map fun x=>p.getD x.toNat 0
def Z04 (Gl:List Int) (t f:Nat):List Int:=(Gl.drop (20*t+5*f)).take 5
def Z0K (Gl:List Int) (t:Nat):List Int:=(Gl.drop (20*t)).take 20
theorem Z0i {Gl:List Int} {n t f:Nat} (hG:Gl.length=n*20) (ht:t<n) (hf:f<4):(Z04 Gl t f).length=5:=by
 simp [Z04]; omega
theorem Z0E {Gl:List Int} {n t:Nat} (hG:Gl.length=n*20) (ht:t<n):(Z0K Gl t).length=20:=by
 simp [Z0K]; omega
theorem Z23 {Gl:List Int} {t f:Nat} (hf:f<4):((Z0K Gl t).drop (f*5)).take 5=Z04 Gl t f:=by
 unfold Z0K Z04
 rw [List.drop_take,List.drop_drop,List.take_take]
 congr 1
 · omega
 · congr 1; omega
theorem Ans.bind {α β:Type} {x:Option α} {f:α->Option β} {Q:β->Prop} (h:Ans x (fun a=>Ans (f a) Q)):Ans (x.bind f) Q:=by
 obtain ⟨a,e,b,e2,hq⟩:=h
 exact ⟨b,by rw [e]; exact e2,hq⟩
theorem Z9g:∀ (p:List Int) (m m':Int),Z6E p m=some m'->InR p
 | [],_,_,_=>fun x hx=>by cases hx
 | x::xs,m,m',e=>by
  simp only [Z6E] at e
  by_cases h:x<0 ∨ 3<x
  · rw [if_pos h] at e; cases e
  · rw [if_neg h] at e
    intro y hy
    rcases List.mem_cons.1 hy with rfl | hy
    · omega
    · exact Z9g xs _ _ e y hy
theorem Z2B {p:List Int} (h:Z1f p=true):InR p:=by
 unfold Z1f at h
 exact Z9g p 0 15 (by simpa using h)
def Z0D (x:List Int):Int:=x.getD 0 0
def Z0v (x:List Int):List Int:=(x.drop 1).take 4
theorem Z1g {x:List Int} (h:x.length=5):(Z0v x).length=4:=by simp [Z0v,h]
def Z7S:List Int:=[-1,0,0,0,0]
def Z0y (Gl:List Int) (n t f:Nat):Bool :=
 decide (Z04 Gl t f=Z7S) ||
 (decide (0<=Z0D (Z04 Gl t f)) && decide (Z0D (Z04 Gl t f)<n) && Z1f (Z0v (Z04 Gl t f)) &&
  !(decide (Z0D (Z04 Gl t f)=t) && decide ((Z0v (Z04 Gl t f)).getD f 0=f)) &&
  decide (Z04 Gl (Z0D (Z04 Gl t f)).toNat ((Z0v (Z04 Gl t f)).getD f 0).toNat=(t:Int)::inv (Z0v (Z04 Gl t f))))
def ZiZ (Gl:List Int) (n:Nat) (k:Nat):Prop:=∀ j,j<k->Z0y Gl n (j / 4) (j % 4)=true
def Z0w (Gl:List Int) (n:Nat):Bool:=(List.range (4*n)).all fun j=>Z0y Gl n (j / 4) (j % 4)
theorem Z5J (Gl:List Int) (n:Nat):Z0w Gl n=true ↔ ZiZ Gl n (4*n):=by simp [Z0w,ZiZ]
def bools (l:List Bool):List Value:=l.map .bool
theorem Z5P (l:List Bool):(bools l).length=l.length:=by simp [bools]
theorem Z0Q.bools (c:Nat) (l:List Bool):Z0Q c (bools l):=by
 intro v hv
 simp only [Go.Ab.bools,List.mem_map] at hv
 obtain ⟨b,_,rfl⟩:=hv
 exact OkV.bool c b
theorem Zax (l:List Bool) (i:Nat) (x:Bool):(bools l).set i (.bool x)=bools (l.set i x):=by simp [bools,List.map_set]
theorem Z7z (l:List Bool) (o:Nat) (h:o<l.length):(bools l)[o]? = some (.bool (l.getD o false)):=by
 simp [bools,List.getD,qI h]
def ZkZ:List Int->List Bool->Bool
 | [],_=>true
 | x::xs,met=>if x<0 ∨ 3<x then false else if met.getD x.toNat false=true then false else ZkZ xs (met.set x.toNat true)
theorem Zfw:∀ (p:List Int) (m:List Bool),(∃ x ∈ p,x<0 ∨ 3<x)->ZkZ p m=false
 | [],m,h=>by obtain ⟨x,hx,_⟩:=h; cases hx
 | y::p,m,h=>by
  unfold ZkZ
  by_cases h1:y<0 ∨ 3<y
  · rw [if_pos h1]
  · rw [if_neg h1]
    split
    · rfl
    · refine Zfw p _ ?_
      obtain ⟨x,hx,h2⟩:=h
      rcases List.mem_cons.1 hx with rfl | hx
      · exact absurd h2 h1
      · exact ⟨x,hx,h2⟩
theorem Zhg {p:List Int} (h:∃ x ∈ p,x<0 ∨ 3<x):Z1f p=false:=by
 cases hv:Z1f p with
 | false=>rfl
 | true =>
  obtain ⟨x,hx,h2⟩:=h
  have:=Z2B hv x hx
  omega
theorem Zp8 (p:List Int) (hp:p.length=4):ZkZ p [false,false,false,false]=Z1f p:=by
 by_cases h:∃ x ∈ p,x<0 ∨ 3<x
 · rw [Zfw p _ h,Zhg h]
 · match p,hp with
   | [a,b,c,d],_ =>
    have hh:∀ x ∈ [a,b,c,d],0<=x/\x<4:=fun x hx=>by
     by_cases h2:x<0 ∨ 3<x
     · exact absurd ⟨x,hx,h2⟩ h
     · omega
    have ha:=hh a (by simp)
    have hb:=hh b (by simp)
    have hc:=hh c (by simp)
    have hd:=hh d (by simp)
    have:=ZoI (Q:=fun a b c d=>ZkZ [(a:Int),(b:Int),(c:Int),(d:Int)] [false,false,false,false] == Z1f [(a:Int),(b:Int),(c:Int),(d:Int)]) (by kernel_rfl)
     (a:=a.toNat) (b:=b.toNat) (c:=c.toNat) (d:=d.toNat) qO qO qO qO
    simp only [beq_iff_eq] at this
    have ea:((a.toNat:Nat):Int)=a:=qO
    have eb:((b.toNat:Nat):Int)=b:=qO
    have ec:((c.toNat:Nat):Int)=c:=qO
    have ed:((d.toNat:Nat):Int)=d:=qO
    rw [ea,eb,ec,ed] at this
    exact this
end Go.Ab

namespace Go.Ab
open Go
variable {P:Program}
theorem Zfa {o:Orc FH} {h:FH} {c l:Nat} {st:ALoop} {args:List Value} {Q:Value × FH × Nat->Prop} (hg:HeapC.get h l=some (.loop st)) (hs:st.state = .ready)
 (hok:(Nat.beq args.length st.params.length && Z9r st.params && st.params.all (Nat.blt · st.nt))=true)
 (hr:Ans (o (.rnd st.nt st.lin st.fr st.params l st.assign st.body) (args++st.vals) h c []) fun r=>∃ v,r.vs=[v]/\Q (v,r.h,r.c)):Ans (Z43 o h c (.func (.yield l) #[] #[]) args) Q:=by
 obtain ⟨r,e,v,hv,hq⟩:=hr
 have h1:(decide (st.state=LoopState.ready) && Nat.beq args.length st.params.length && Z9r st.params && st.params.all (Nat.blt · st.nt))=true:=by
  simp only [qN] at hok ⊢
  exact ⟨⟨⟨by simp [hs],hok.1.1⟩,hok.1.2⟩,hok.2⟩
 refine ⟨(v,r.h,r.c), ?_,hq⟩
 simp only [Z43,Array.size_empty,Nat.beq_refl,qV,cond_true,hg,h1,e,qD,hv]
def ZdM (nt:Nat) (lin:List Nat) (ps:Array Tmp) (a b:ACode) (vs:List Value) (d:Nat):ALoop :=
 { state:=.ready,pending:=none,nt:=nt,vals:=vs,lin:=lin,fr:=[],params:=ps.toList,assign:=a,body:=b,dfr:=d }
noncomputable def ZdN (h:FH) (c nt:Nat) (lin:List Nat) (ps:Array Tmp) (a b:ACode) (vs:List Value):FH :=
 HeapC.set (HeapC.set h (256*c+1) .dfr) (256*c) (.loop (ZdM nt lin ps a b vs (256*c+1)))
theorem Zd7 (h:FH) (c nt:Nat) (lin:List Nat) (ps:Array Tmp) (a b:ACode) (vs:List Value) (i:Nat) :
 (ZdN h c nt lin ps a b vs).f i=if i=256*c then some (.loop (ZdM nt lin ps a b vs (256*c+1))) else if i=256*c+1 then some .dfr else h.f i:=by
 simp only [ZdN,Z0c]
theorem Zdy {o:Orc FH} {nt:Nat} {lin:List Nat} {ps:Array Tmp} {a b:ACode} {g:FuncId} {cap:Array Value} {vs:List Value} {h:FH} {c:Nat} {df:List Nat} {Q:Ex × FH × Nat × List Nat->Prop}
 (hr:Ans (o (.fn g) (.func (.yield (256*c)) #[] #[]::cap.toList) (ZdN h c nt lin ps a b vs) (c+1) []) fun r =>
  ∃ st e,HeapC.get r.h (256*c)=some (.loop st)/\st.state ≠ .busy/\exOf st.pending=some e/\Q (e,HeapC.del r.h (256*c),r.c,(256*c+1)::df)) :
 Ans (Z6L o nt none lin [] ps a b (.func (.func g) [].toArray cap) vs h c df) Q:=by
 obtain ⟨r,e1,st,e,hg,hs,he,hq⟩:=hr
 refine ⟨_, ?_,hq⟩
 simp only [ZdN,ZdM] at e1
 have hs':decide (st.state=LoopState.busy)=false:=decide_eq_false hs
 simp only [Z6L,Z31,qD,List.nil_append,List.singleton_append,e1,hg,hs',cond_false,he]
theorem Zik {h:FH} {l:Nat} {st:ALoop} (hg:HeapC.get h l=some (.loop st)) (hs:st.state = .ready):Z4e h l=some (HeapC.set h l (.loop { st with state:=.busy })):=by
 simp [Z4e,hg,hs]
theorem Ze7 {h:FH} {l:Nat} {st:ALoop} (hg:HeapC.get h l=some (.loop st)) (s:LoopState) (pd:Option Code):Z12 h l s pd=some (HeapC.set h l (.loop { st with state:=s,pending:=pd })):=by
 simp [Z12,hg]
@[simp] theorem get_set_same (h:FH) (i:Nat) (b:ABlk):HeapC.get (HeapC.set h i b) i=some b:=by simp [HeapC.get_set]
@[simp] theorem get_set_ne (h:FH) (i j:Nat) (b:ABlk) (hne:j ≠ i):HeapC.get (HeapC.set h i b) j=HeapC.get h j:=by simp [HeapC.get_set,hne]
@[simp] theorem get_del_ne (h:FH) (i j:Nat) (hne:j ≠ i):HeapC.get (HeapC.del h i) j=HeapC.get h j:=by simp [HeapC.get_del,hne]
@[simp] theorem ld1_set_ne (h:FH) (i j o:Nat) (b:ABlk) (hne:j ≠ i):ld1 (HeapC.set h i b) (.pointer (some ⟨j,o,none⟩))=ld1 h (.pointer (some ⟨j,o,none⟩)):=by simp [ld1,Z2N,Z6j,Z0s,hne]
@[simp] theorem ldN_set_ne (h:FH) (n i j o:Nat) (b:ABlk) (hne:j ≠ i):ldN (HeapC.set h i b) n (.pointer (some ⟨j,o,none⟩))=ldN h n (.pointer (some ⟨j,o,none⟩)):=by simp [ldN,Z2N,Z0S,Z0s,hne]
@[simp] theorem ld1_del_ne (h:FH) (i j o:Nat) (hne:j ≠ i):ld1 (HeapC.del h i) (.pointer (some ⟨j,o,none⟩))=ld1 h (.pointer (some ⟨j,o,none⟩)):=by simp [ld1,Z2N,Z6j,Z0s,hne]
@[simp] theorem ldN_del_ne (h:FH) (n i j o:Nat) (hne:j ≠ i):ldN (HeapC.del h i) n (.pointer (some ⟨j,o,none⟩))=ldN h n (.pointer (some ⟨j,o,none⟩)):=by simp [ldN,Z2N,Z0S,Z0s,hne]
theorem Z0d.set_ne {h:FH} {i j:Nat} {b:ABlk} {ds:List Value} (hne:j ≠ i) (hh:Z0d h j ds):Z0d (HeapC.set h i b) j ds:=by
 obtain ⟨ro,op,e⟩:=hh
 exact ⟨ro,op,by rw [get_set_ne h i j b hne]; exact e⟩
theorem Z0d.same {h h':FH} {c j:Nat} {ds:List Value} (hj:j<256*c) (hs:Z0l c h h') (hh:Z0d h j ds):Z0d h' j ds:=by
 obtain ⟨ro,op,e⟩:=hh
 exact ⟨ro,op,(hs j hj).trans e⟩
theorem Z02 {h:FH} {b o:Nat} {cs:List Value} (hh:Z0d h b cs):ld1 h (.pointer (some ⟨b,o,none⟩))=cs[o]?:=by
 obtain ⟨ro,op,e⟩:=hh
 simp [ld1,Z2N,Z6j,Z0s,e]
theorem Z0L {h:FH} {b o:Nat} {op:Option Nat} {cs:List Value} {v:Value} (hg:HeapC.get h b=some (.cells false op cs)) (ho:o<cs.length) (hv:v.cells = #[v]) (hf:Z08 v=true) :
 stN h 1 (.pointer (some ⟨b,o,none⟩)) v=some (HeapC.set h b (.cells false op (cs.set o v))):=by
 have h1:Nat.ble (o+1) cs.length=true:=qK qO
 simp [stN,Z2N,hv,Z2I,hg,h1,hf,Z4g cs o v ho]
@[simp] theorem sameB_self (x:Option Nat) (h:FH):Z1y x h h=true:=by
 unfold Z1y
 split
 · show @decide _ (Classical.propDecidable _)=true
   simp
 · rfl
theorem Z26 (l:List Int) (i j:Nat):(l.drop i).getD j 0=l.getD (i+j) 0:=by simp [List.getD]
theorem Z2D (l:List Int) (i j:Nat) (h:j<i):(l.take i).getD j 0=l.getD j 0:=by simp [List.getD,List.getElem?_take,h]
@[simp] theorem set_set (h:FH) (i:Nat) (a b:ABlk):HeapC.set (HeapC.set h i a) i b=HeapC.set h i b:=by
 apply FH.ext; intro j; simp only [Z0c]; split <;> rfl
@[simp] theorem setState_set (h:FH) (l:Nat) (st:ALoop) (s:LoopState) (pd:Option Code):Z12 (HeapC.set h l (.loop st)) l s pd=some (HeapC.set h l (.loop { st with state:=s,pending:=pd })):=by
 rw [Ze7 (get_set_same h l (.loop st)),set_set]
theorem Zft (h:FH) (i j:Nat) (a b:ABlk) (hne:i ≠ j):HeapC.set (HeapC.set h i a) j b=HeapC.set (HeapC.set h j b) i a:=by
 apply FH.ext; intro k; simp only [Z0c]
 by_cases h1:k=j
 · have:¬ k=i:=qO
   rw [if_pos h1,if_neg this,if_pos h1]
 · rw [if_neg h1,if_neg h1]
@[simp] theorem setState_newB (h:FH) (l i:Nat) (cs:List Value) (s:LoopState) (pd:Option Code) (hne:l ≠ i):Z12 (newB h i cs) l s pd=(Z12 h l s pd).map fun h'=>newB h' i cs:=by
 unfold Z12
 rw [get_newB_ne _ _ _ _ hne]
 split
 · simp only [Option.map_some,newB]
   rw [Zft _ _ _ _ _ (Ne.symm hne)]
 · rfl
@[simp] theorem setState_set_ne (h:FH) (l i:Nat) (b:ABlk) (s:LoopState) (pd:Option Code) (hne:l ≠ i):Z12 (HeapC.set h i b) l s pd=(Z12 h l s pd).map fun h'=>HeapC.set h' i b:=by
 unfold Z12
 rw [get_set_ne _ _ _ _ hne]
 split
 · simp only [Option.map_some]
   rw [Zft _ _ _ _ _ (Ne.symm hne)]
 · rfl
@[simp] theorem gv_undef (w:Bool):gv undef w=some false:=rfl
end Go.Ab
