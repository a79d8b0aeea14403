/- Parts of a proof: C2 C3 C4 L2 K1 K2. Conditions: none. -/
import Derived.Test.YtdodippbpdechaaM14
import Derived.Test.YtdodippbpdechaaM6
import Derived.Test.YtdodippbpdechaaM13
set_option linter.all false
set_option maxRecDepth 100000
set_option maxHeartbeats 4000000
namespace Go.Proofs.Ytdodippbpdechaa
open Go Go.Ab Go.Proofs
theorem ZnP (a0 a1 a2 a3 a4 b0 b1 b2 b3 b4:Int):Z0O P .eql 44 (av [a0,a1,a2,a3,a4]) (av [b0,b1,b2,b3,b4]) =
 (cond (a0 == b0) ((cond (a1 == b1) (cond (a2 == b2) (cond (a3 == b3) (cond (a4 == b4) (some true) (some false)) (some false)) (some false)) (some false)).bind fun r=>cond r (some true) (some false)) (some false)).bind fun b=>some (.bool b):=by kernel_rfl
theorem Z4d (x y:List Int) (hx:x.length=5) (hy:y.length=5):Z00 P .eql 44 (av x) (av y)=some (.bool (decide (x=y))):=by
 match x,hx,y,hy with
 | [a0,a1,a2,a3,a4],_,[b0,b1,b2,b3,b4],_ =>
  rw [Z0A,ZnP]
  by_cases h0:a0=b0 <;> by_cases h1:a1=b1 <;> by_cases h2:a2=b2 <;> by_cases h3:a3=b3 <;> by_cases h4:a4=b4 <;> simp [h0,h1,h2,h3,h4,Bool.cond_eq_ite]
theorem Z5W (x y:List Int) (hx:x.length=5) (hy:y.length=5):Z00 P .neq 44 (av x) (av y)=some (.bool (!decide (x=y))):=by
 have h:=Z4d x y hx hy;rw [Z0A] at h ⊢;have e1:Z0O P .eql 44 (av x) (av y)=cond (Z6x P 44 (av x)) ((aEq P Z1a 44 (av x) (av y)).bind fun b=>some (.bool b)) none:=rfl;have e2:Z0O P .neq 44 (av x) (av y)=cond (Z6x P 44 (av x)) ((aEq P Z1a 44 (av x) (av y)).bind fun b=>some (.bool (!b))) none:=rfl;rw [e1] at h;rw [e2]
 cases hg:Z6x P 44 (av x) with
 | false=>rw [hg] at h; cases h
 | true =>
  rw [hg] at h;simp only [cond_true] at h ⊢
  cases hq:aEq P Z1a 44 (av x) (av y) with
  | none=>rw [hq] at h; cases h
  | some b=>rw [hq] at h; simp only [qD,Option.some.injEq,Value.bool.injEq] at h ⊢; rw [h]
structure FacesI (y:Value) (s:Value) (n:Nat) (Gl:List Int) (gb:Nat) (I:Nat->FH->Nat->Prop) (J:FH->Nat->Prop):Prop where
 stab:∀ k h c h' c',I k h c->c<=c'->Z0l c h h'->I k h' c'
 jstab:∀ h c h' c',J h c->c<=c'->Z0l c h h'->J h' c'
 read:∀ k h c,I k h c->Z0d h gb [s]/\SlI h c s 20 n Gl
 step:∀ t f h c,t<n->f<4->I (4*t+f) h c →
  Ans (Z43 G h c y [av [(t:Int),(f:Int)],av (Z04 Gl t f)]) (fun q=>c<=q.2.2/\((q.1 = .bool true/\I (4*t+f+1) q.2.1 q.2.2) ∨ (q.1 = .bool false/\J q.2.1 q.2.2)))
theorem ZmO {y s:Value} {n:Nat} {Gl:List Int} {gb:Nat} {I:Nat->FH->Nat->Prop} {J:FH->Nat->Prop} (hI:FacesI y s n Gl gb I J) (hG:Gl.length=n*20) (t:Nat) (ht:t<n) (df:List Nat) :
 ∀ (k f:Nat) (h:FH) (c:Nat),f+k=4->I (4*t+f) h c →
 Ans (G (Z4m none) [y,ptrTo gb,.int .i64 t,.int .i64 n,.int .i64 t,av (Z0K Gl t),.int .i64 f] h c df) fun r=>c<=r.c/\r.df=df ∧
  ((r.e = .exit 2/\r.vs=[y,ptrTo gb,.int .i64 t,.int .i64 n,.int .i64 t,av (Z0K Gl t),.int .i64 4]/\I (4*t+4) r.h r.c) ∨ (r.e = .ret/\r.vs.length=7/\J r.h r.c)):=by
 intro k
 induction k with
 | zero =>
  intro f h c hf hi;obtain rfl:f=4:=qO;refine .intro (Zbm (q:=⟨.exit 2,_,h,c+1,df⟩) (by unfold Z1X; simp; rfl) (by simp)) ?_;exact ⟨by simp,rfl,.inl ⟨rfl,rfl,hI.stab _ _ _ _ _ hi (by simp) (Z0l.refl _ _)⟩⟩
 | succ k ih =>
  intro f h c hf hi;have hf4:f<4:=qO;have e0:(f:Int)<4:=qO;have hl:=Z0i hG ht hf4;have hrl:=Z0E hG ht;have hb:∀ cs,Z0l c h (newB h (256*(c+1)+2) cs):=fun cs=>(Z0l.refl _ _).newB qO
  obtain ⟨q,hq,hcq,hcase⟩:=hI.step t f (newB h (256*(c+1)+2) (ints (Z04 Gl t f))) (c+1+1+1) ht hf4 (hI.stab _ _ _ _ _ hi qO (hb _));have e1:(Z04 Gl t f).take 5=Z04 Gl t f:=qH qO;have body:Z1X G none y (ptrTo gb) (.int .i64 t) (.int .i64 n) (.int .i64 t) (av (Z0K Gl t)) (.int .i64 f) h c df =
   (Z2g .not q.1).bind fun t27=>Z09 t27 (some ⟨.ret,[y,ptrTo gb,.int .i64 t,.int .i64 n,.int .i64 t,av (Z0K Gl t),.int .i64 f],q.2.1,q.2.2,df⟩)
    (some ⟨.normal,[y,ptrTo gb,.int .i64 t,.int .i64 n,.int .i64 t,av (Z0K Gl t),.int .i64 (f+1:Nat)],q.2.1,q.2.2+1,df⟩):=by
   unfold Z1X;simp (disch:=(first | omega | (simp <;> omega) | fail)) [e0,Z2p,hrl,Z23 hf4,hl,e1,Zqv,hq]
  rcases hcase with ⟨hv,hi2⟩ | ⟨hv,hj⟩
  · rw [hv] at body;simp only [aUnOp_not,qD,boolK_bool,Bool.not_true,cond_false] at body;refine (ih (f+1) q.2.1 (q.2.2+1) qO (hI.stab _ _ _ _ _ hi2 qO (Z0l.refl _ _))).elim fun r ⟨hr,h1,h2⟩=>?_
    exact .intro (ZhK body rfl hr) ⟨qO,h2⟩
  · rw [hv] at body;simp only [aUnOp_not,qD,boolK_bool,Bool.not_false,cond_true] at body;exact .intro (Zbm body (by simp)) ⟨by simp; omega,rfl,.inr ⟨rfl,rfl,hj⟩⟩
theorem Zju {y s:Value} {n:Nat} {Gl:List Int} {gb:Nat} {I:Nat->FH->Nat->Prop} {J:FH->Nat->Prop} (hI:FacesI y s n Gl gb I J) (hG:Gl.length=n*20) (hn:n<=9223372036854775807) (df:List Nat) :
 ∀ (k t:Nat) (h:FH) (c:Nat),t+k=n->I (4*t) h c →
 Ans (G (Z4n none) [y,ptrTo gb,.int .i64 n,.int .i64 t] h c df) fun r=>c<=r.c/\r.df=df ∧
  ((r.e = .exit 0/\I (4*n) r.h r.c) ∨ (r.e = .ret/\J r.h r.c)):=by
 intro k
 induction k with
 | zero =>
  intro t h c ht hi;obtain rfl:t=n:=qO;refine .intro (Zbn (q:=⟨.exit 0,_,h,c+1,df⟩) (by unfold Z1Y; simp; rfl) (by simp)) ?_;exact ⟨by simp,rfl,.inl ⟨rfl,hI.stab _ _ _ _ _ hi (by simp) (Z0l.refl _ _)⟩⟩
 | succ k ih =>
  intro t h c ht hi;have htn:t<n:=qO;have e0:(t:Int)<n:=qO;obtain ⟨hgb,hs⟩:=hI.read _ _ _ hi;obtain ⟨b,o,cs,e1,hb,hh,hw⟩:=hs.ix .i64 t qO e0;have e2:ld1 h (.pointer (some ⟨gb,0,none⟩))=some s:=by rw [Z02 hgb]; rfl
  have e3:ldN h 20 (.pointer (some ⟨b,o+t*20,none⟩))=some (av (Z0K Gl t)):=by
   have:=ZcL hh hw (j:=t*20) (q:=20) qO qO;rw [this]; unfold Z0K; rw [Nat.mul_comm]
  simp only [qE] at e1;obtain ⟨r,hr,hcr,hdf,hcase⟩:=ZmO hI hG t htn df 4 0 h (c+1+1+1) rfl (hI.stab _ _ _ _ _ hi qO (Z0l.refl _ _));have body:Z1Y G none y (ptrTo gb) (.int .i64 n) (.int .i64 t) h c df =
   cond (Z0r r.e (.exit 2)) ((Z00 P .add 3 (r.v 4) (.int .i64 1)).bind fun t29=>some ⟨.normal,[(r.v 0),(r.v 1),(r.v 3),t29],r.h,(r.c+1),r.df⟩)
    (cond (Z0r r.e .ret) (some ⟨.ret,[(r.v 0),(r.v 1),(r.v 3),(r.v 4)],r.h,r.c,r.df⟩) none):=by
   unfold Z1Y;simp only [qC,qF] at hr;simp (disch:=(first | omega | (simp <;> omega) | fail)) [e0,e2,e1,e3,hr]
  obtain ⟨re,rv,rh,rc,rd⟩:=r;simp only at hcase hcr hdf;subst hdf;rcases hcase with ⟨rfl,rfl,hi2⟩ | ⟨rfl,hl,hj⟩
  · simp (disch:=omega) at body;refine (ih (t+1) rh (rc+1) qO (hI.stab _ _ _ _ _ hi2 qO (Z0l.refl _ _))).elim fun r ⟨hr2,h1,h2⟩=>?_
    exact .intro (ZhL body rfl (by simpa using hr2)) ⟨qO,h2⟩
  · simp at body;exact .intro (Zbn body (by simp)) ⟨by simp; omega,rfl,.inr ⟨rfl,hj⟩⟩
theorem ZmN {y s:Value} {n:Nat} {Gl:List Int} {gb:Nat} {I:Nat->FH->Nat->Prop} {J:FH->Nat->Prop} (hI:FacesI y s n Gl gb I J) {h:FH} {c:Nat} (hi:I 0 h c) (df:List Nat) :
 Ans (G (.fn 85) [y,ptrTo gb] h c df) fun r=>r.e = .ret/\r.vs=[.tuple #[]]/\r.df=[]/\c<=r.c/\(I (4*n) r.h r.c ∨ J r.h r.c):=by
 obtain ⟨hgb,hs⟩:=hI.read _ _ _ hi;obtain ⟨r,hr,hcr,hdf,hcase⟩:=Zju hI hs.1 hs.2.1 [] n 0 h (c+1) qO (hI.stab _ _ _ _ _ hi qO (Z0l.refl _ _));have e2:ld1 h (.pointer (some ⟨gb,0,none⟩))=some s:=by rw [Z02 hgb]; rfl
 obtain ⟨re,rv,rh,rc,rd⟩:=r;simp only at hcase hcr hdf;subst hdf;simp only [qC,qF] at hr;rcases hcase with ⟨rfl,hi2⟩ | ⟨rfl,hj⟩
 · refine .intro (Zot (r:=⟨.ret,[.tuple #[]],rh,rc,[]⟩) (by unfold ZhJ; simp [e2,hs.len,hr])) ?_;exact ⟨rfl,rfl,rfl,by simp; omega,.inl hi2⟩
 · refine .intro (Zot (r:=⟨.ret,[.tuple #[]],rh,rc,[]⟩) (by unfold ZhJ; simp [e2,hs.len,hr])) ?_;exact ⟨rfl,rfl,rfl,by simp; omega,.inr hj⟩

theorem Z1P (p:List Int) (hp:p.length=4) (h:FH) (c:Nat):callF G 56 [av p] h c=some (.bool (Z1f p),h,c):=Z05 (Zkz p hp h c [])
theorem Z32 (p:List Int) (hp:p.length=4) (hr:InR p) (h:FH) (c:Nat):callF G 64 [av p] h c=some (av (inv p),h,c):=Z05 (ZhE p hp hr h c [])
theorem Zkg (s:Value) (n:Nat) (Gl:List Int) (gb rb nb l c0 c:Nat) (st:ALoop) (h:FH) (hc:c0<=c) (t f:Nat) (ht:t<n) (hf:f<4)
 (hgb:gb<256*c0) (hrb:rb<256*c0) (hnb:nb<256*c0) (hl:l<256*c0) (hlr:l ≠ rb) (hlg:l ≠ gb) (hln:l ≠ nb)
 (h1:Z0d h gb [s]) (h2:SlI h c0 s 20 n Gl) (h3:Z0d h nb (ints Z7S)) (h4:HeapC.get h rb=some (.cells false none [.int .i64 0])) (h5:HeapC.get h l=some (.loop st)) (h6:st.state = .ready) :
 Ans (Z3M G l (av [(t:Int),(f:Int)]) (av (Z04 Gl t f)) (ptrTo gb) (ptrTo rb) (ptrTo nb) h c) fun r=>c<=r.c/\r.e = .ret/\r.df=[]/\r.vs=[.bool (Z0y Gl n t f)] ∧
  r.h.f l=some (.loop { st with state:=if Z0y Gl n t f then .ready else .done,pending:=if Z0y Gl n t f then none else some .ret }) ∧
  (∀ i,i<256*c->i ≠ l->r.h.f i=if i=rb/\Z0y Gl n t f=false then some (.cells false none [.int .i64 7]) else h.f i):=by
 have hx:=Z0i h2.1 ht hf;have hp:=Z1g hx;have ht5:(Z04 Gl t f).take 5=Z04 Gl t f:=qH qO;have hnl:Z7S.length=5:=rfl;obtain ⟨H,hH⟩:∃ H,H=HeapC.set (newB (newB h (256*c) (ints [(t:Int),(f:Int)])) (256*(c+1)) (ints (Z04 Gl t f))) l (.loop { st with state:=.busy }):=⟨_,rfl⟩;have hb:Z4e (newB (newB h (256*c) (ints [(t:Int),(f:Int)])) (256*(c+1)) (ints (Z04 Gl t f))) l=some H:=by
  rw [hH];exact Zik (by rw [get_newB_ne _ _ _ _ qO,get_newB_ne _ _ _ _ qO]; exact h5) h6
 have r0:∀ j,j<256*c->j ≠ l->H.f j=h.f j:=by
  intro j hj hne;rw [hH,Z0c,if_neg hne,Z01,if_neg qO,Z01,if_neg qO]
 have hol:∀ b cs,b<256*c0->Z0d h b cs->Z0d H b cs:=by
  intro b cs hb ⟨ro,op,e⟩;have hne:b ≠ l:=by
   rintro rfl
   rw [h5] at e; cases e
  exact ⟨ro,op,(r0 b qO hne).trans e⟩
 have hA:Z0d H (256*c) (ints [(t:Int),(f:Int)]):=by
  rw [hH];exact (((Z0d.newB_same h _ _).newB_ne qO).set_ne qO)
 have hB:Z0d H (256*(c+1)) (ints (Z04 Gl t f)):=by
  rw [hH];exact ((Z0d.newB_same _ _ _).set_ne qO)
 have a0:ld1 H (.pointer (some ⟨256*c,0,none⟩))=some (.int .i64 t):=by rw [Z02 hA]; rfl
 have a1:ld1 H (.pointer (some ⟨256*c,1,none⟩))=some (.int .i64 f):=by rw [Z02 hA]; rfl
 have b0:ldN H 5 (.pointer (some ⟨256*(c+1),0,none⟩))=some (av (Z04 Gl t f)):=by
  rw [ldN_holds hB (by simp [hx])]; simp [ht5]
 have b1:ld1 H (.pointer (some ⟨256*(c+1),0,none⟩))=some (.int .i64 (Z0D (Z04 Gl t f))):=by
  rw [Z02 hB,Z4V,qI qO];simp [Z0D,List.getD,qI (by omega:0<(Z04 Gl t f).length)]
 have b2:ldN H 4 (.pointer (some ⟨256*(c+1),1,none⟩))=some (av (Z0v (Z04 Gl t f))):=by
  rw [ldN_holds hB (by simp [hx])]; rw [Z1G,Z1e]; rfl
 have b3:ld1 H (.pointer (some ⟨256*(c+1),1+f,none⟩))=some (.int .i64 ((Z0v (Z04 Gl t f)).getD f 0)):=by
  have hlt:1+f<(Z04 Gl t f).length:=qO;rw [Z02 hB,Z4V,qI hlt];unfold Z0v;rw [Z2D _ _ _ hf,Z26];simp [List.getD,qI hlt]
 have e1:ldN H 5 (.pointer (some ⟨nb,0,none⟩))=some (av Z7S):=by
  rw [ldN_holds (hol nb _ hnb h3) (by simp [Z7S])]; rfl
 have e2:ld1 H (.pointer (some ⟨gb,0,none⟩))=some s:=by rw [Z02 (hol gb _ hgb h1)]; rfl
 have e3:=h2.len;have endT:∀ c',c<=c'->Z0y Gl n t f=true->Ans ((Z12 H l .ready none).bind fun h37=>some (⟨.ret,[.bool true],h37,c',[]⟩:Rt FH)) fun r=>c<=r.c/\r.e = .ret/\r.df=[]/\r.vs=[.bool (Z0y Gl n t f)] ∧
  r.h.f l=some (.loop { st with state:=if Z0y Gl n t f then .ready else .done,pending:=if Z0y Gl n t f then none else some .ret }) ∧
  (∀ i,i<256*c->i ≠ l->r.h.f i=if i=rb/\Z0y Gl n t f=false then some (.cells false none [.int .i64 7]) else h.f i):=by
  intro c' hc' ok;rw [ok,hH,setState_set];simp only [qD,Ans_some,if_true,Bool.true_eq_false,and_false,if_false];refine ⟨hc',trivial,trivial,trivial,by rw [Z0c,if_pos rfl],fun i hi hne=>?_⟩;rw [Z0c,if_neg hne,Z01,if_neg qO,Z01,if_neg qO]
 have endF:∀ c',c<=c'->Z0y Gl n t f=false -> ∃ H',stN H 1 (.pointer (some ⟨rb,0,none⟩)) (.int .i64 7)=some H'/\Ans ((Z12 H' l .done (some .ret)).bind fun h36=>some (⟨.ret,[.bool false],h36,c',[]⟩:Rt FH)) fun r=>c<=r.c/\r.e = .ret/\r.df=[]/\r.vs=[.bool (Z0y Gl n t f)] ∧
  r.h.f l=some (.loop { st with state:=if Z0y Gl n t f then .ready else .done,pending:=if Z0y Gl n t f then none else some .ret }) ∧
  (∀ i,i<256*c->i ≠ l->r.h.f i=if i=rb/\Z0y Gl n t f=false then some (.cells false none [.int .i64 7]) else h.f i):=by
  intro c' hc' ok;have hg:HeapC.get H rb=some (.cells false none [.int .i64 0]):=(r0 rb qO (Ne.symm hlr)).trans h4;refine ⟨_,Z0L (cs:=[.int .i64 0]) hg (by simp) rfl rfl, ?_⟩;rw [ok,setState_set_ne _ _ _ _ _ _ hlr,hH,setState_set];simp only [Option.map_some,qD,Ans_some,Bool.false_eq_true,if_false,and_true];refine ⟨hc',trivial,trivial,trivial,by rw [Z0c,if_neg hlr,Z0c,if_pos rfl],fun i hi hne=>?_⟩;rw [Z0c]
  split
  · rfl
  · rw [Z0c,if_neg hne,Z01,if_neg qO,Z01,if_neg qO]
 clear hH;have hface:∀ u j:Int,0<=u->u<n->0<=j->j<4 -> ∃ b o,ixS 20 s (.int .i64 u)=some (.pointer (some ⟨b,o+u.toNat*20,none⟩))/\ldN H 5 (.pointer (some ⟨b,o+u.toNat*20+j.toNat*5,none⟩))=some (av (Z04 Gl u.toNat j.toNat)):=by
  intro u j u1 u2 j1 j2;obtain ⟨b,o,cs,x1,x2,x3,x4⟩:=h2.ix .i64 u u1 u2;refine ⟨b,o,x1, ?_⟩;have:=h2.1;rw [Nat.add_assoc,ZcL (hol b cs x2 x3) x4 (j:=u.toNat*20+j.toNat*5) (q:=5) qO qO];unfold Z04;rw [Nat.mul_comm 20,Nat.mul_comm 5]
 unfold Z3M;rw [stN_ptrTo,qW,stN_all _ _ 2 _ [(t:Int),(f:Int)] rfl rfl];simp only [qD];rw [stN_ptrTo,qW,stN_all _ _ 5 _ _ hx rfl];simp only [qD,hb]
 by_cases q1:Z04 Gl t f=Z7S
 · have ok:Z0y Gl n t f=true:=by simp [Z0y,q1]
   refine Ans.step (v:=(⟨.normal,[],H,c+1+1+1,[]⟩:Rt FH)) ?_ (endT (c+1+1+1) qO ok);apply Ans.eq
   repeat (first | (with_reducible refine Ans.bt ?_ ?_; exact rfl) | (with_reducible refine Ans.bf ?_ ?_; exact rfl) | (with_reducible refine Ans.ct ?_ ?_; focus (simp; done)) | (with_reducible refine Ans.cf ?_ ?_; focus (simp; done)) | refine Ans.step (by (simp (disch:=(first | omega | (simp <;> omega) | fail)) [b0,e1,Z4d,hx,hnl,q1,-List.getD_eq_getElem?_getD]) <;> rfl) ?_)
   exact Ans.done rfl
 · by_cases q2:Z0D (Z04 Gl t f)<0
   · have ok:Z0y Gl n t f=false:=by
      have:¬ (0<=Z0D (Z04 Gl t f)):=qO;simp [Z0y,q1,this]
     obtain ⟨H',x1,x2⟩:=endF (c+1+1+1+1+1) qO ok;refine Ans.step (v:=(⟨.ret,[],H',c+1+1+1+1+1,[]⟩:Rt FH)) ?_ x2;apply Ans.eq
     repeat (first | (with_reducible refine Ans.bt ?_ ?_; exact rfl) | (with_reducible refine Ans.bf ?_ ?_; exact rfl) | (with_reducible refine Ans.ct ?_ ?_; focus (simp; done)) | (with_reducible refine Ans.cf ?_ ?_; focus (simp; done)) | refine Ans.step (by (simp (disch:=(first | omega | (simp <;> omega) | fail)) [b0,b1,e1,Z4d,hx,hnl,q1,q2,x1,-List.getD_eq_getElem?_getD]) <;> rfl) ?_)
     exact Ans.done rfl
   · by_cases q3:(n:Int)<=Z0D (Z04 Gl t f)
     · have ok:Z0y Gl n t f=false:=by
        have:¬ (Z0D (Z04 Gl t f)<n):=qO;simp [Z0y,q1,this]
       obtain ⟨H',x1,x2⟩:=endF (c+1+1+1+1+1) qO ok;refine Ans.step (v:=(⟨.ret,[],H',c+1+1+1+1+1,[]⟩:Rt FH)) ?_ x2;apply Ans.eq
       repeat (first | (with_reducible refine Ans.bt ?_ ?_; exact rfl) | (with_reducible refine Ans.bf ?_ ?_; exact rfl) | (with_reducible refine Ans.ct ?_ ?_; focus (simp; done)) | (with_reducible refine Ans.cf ?_ ?_; focus (simp; done)) | refine Ans.step (by (simp (disch:=(first | omega | (simp <;> omega) | fail)) [b0,b1,e1,e2,e3,Z4d,hx,hnl,q1,q2,q3,x1,-List.getD_eq_getElem?_getD]) <;> rfl) ?_)
       exact Ans.done rfl
     · cases q4:Z1f (Z0v (Z04 Gl t f)) with
       | false =>
        have ok:Z0y Gl n t f=false:=by simp [Z0y,q1,q4]
        obtain ⟨H',x1,x2⟩:=endF (c+1+1+1+1+1) qO ok;refine Ans.step (v:=(⟨.ret,[],H',c+1+1+1+1+1,[]⟩:Rt FH)) ?_ x2;apply Ans.eq
        repeat (first | (with_reducible refine Ans.bt ?_ ?_; exact rfl) | (with_reducible refine Ans.bf ?_ ?_; exact rfl) | (with_reducible refine Ans.ct ?_ ?_; focus (simp; done)) | (with_reducible refine Ans.cf ?_ ?_; focus (simp; done)) | refine Ans.step (by (simp (disch:=(first | omega | (simp <;> omega) | fail)) [b0,b1,b2,e1,e2,e3,Z4d,hx,hnl,q1,q2,q3,q4,x1,Z1P,hp,-List.getD_eq_getElem?_getD]) <;> rfl) ?_)
        exact Ans.done rfl
       | true =>
        have hr:=Z2B q4;have hpr:0<=(Z0v (Z04 Gl t f)).getD f 0/\(Z0v (Z04 Gl t f)).getD f 0<4:=by
         have hlt:f<(Z0v (Z04 Gl t f)).length:=qO;have:=hr _ (List.getElem_mem hlt);simpa [List.getD,qI hlt] using this
        have ft:(f:Int)<4:=qO
        by_cases q5:Z0D (Z04 Gl t f)=t/\(Z0v (Z04 Gl t f)).getD f 0=f
        · obtain ⟨q5,q6⟩:=q5;have ok:Z0y Gl n t f=false:=by simp [Z0y,q1,q5,q6,-List.getD_eq_getElem?_getD]
          obtain ⟨H',x1,x2⟩:=endF (c+1+1+1+1+1) qO ok;have q2':¬ (t:Int)<0:=qO;have q3':¬ (n:Int)<=t:=qO;refine Ans.step (v:=(⟨.ret,[],H',c+1+1+1+1+1,[]⟩:Rt FH)) ?_ x2;apply Ans.eq
          repeat (first | (with_reducible refine Ans.bt ?_ ?_; exact rfl) | (with_reducible refine Ans.bf ?_ ?_; exact rfl) | (with_reducible refine Ans.ct ?_ ?_; focus (simp; done)) | (with_reducible refine Ans.cf ?_ ?_; focus (simp; done)) | refine Ans.step (by (simp (disch:=(first | omega | (simp <;> omega) | fail)) [b0,b1,b2,b3,a0,a1,e1,e2,e3,Z4d,hx,hnl,q1,q2',q3',q4,q5,q6,ft,x1,Z1P,hp,-List.getD_eq_getElem?_getD]) <;> rfl) ?_)
          exact Ans.done rfl
        · obtain ⟨b,o,f1,f2⟩:=hface (Z0D (Z04 Gl t f)) ((Z0v (Z04 Gl t f)).getD f 0) qO qO hpr.1 hpr.2;have hfl:(Z04 Gl (Z0D (Z04 Gl t f)).toNat ((Z0v (Z04 Gl t f)).getD f 0).toNat).length=5:=Z0i h2.1 qO qO;have hil:(inv (Z0v (Z04 Gl t f))).length=4:=Z40 _ _ _;have hil5:((t:Int)::inv (Z0v (Z04 Gl t f))).length=5:=by rw [jK,hil]
          have q5d:(decide (Z0D (Z04 Gl t f)=(t:Int)) && decide ((Z0v (Z04 Gl t f)).getD f 0=(f:Int)))=false:=by simpa [-List.getD_eq_getElem?_getD] using q5
          have key:∀ X:Bool,decide (Z04 Gl (Z0D (Z04 Gl t f)).toNat ((Z0v (Z04 Gl t f)).getD f 0).toNat=(t:Int)::inv (Z0v (Z04 Gl t f)))=X->Z0y Gl n t f=X:=by
           intro X hX;unfold Z0y;rw [hX,q5d,q4];have z1:0<=Z0D (Z04 Gl t f):=qO;have z2:Z0D (Z04 Gl t f)<n:=qO;simp [q1,z1,z2]
          have dd:∃ X:Bool,decide (Z0D (Z04 Gl t f)=(t:Int))=X/\(X=true->decide ((Z0v (Z04 Gl t f)).getD f 0=(f:Int))=false):=by
           refine ⟨_,rfl,fun e=>?_⟩;rw [e] at q5d;simpa only [Bool.true_and] using q5d
          obtain ⟨X,d5,d6⟩:=dd
          cases q7:decide (Z04 Gl (Z0D (Z04 Gl t f)).toNat ((Z0v (Z04 Gl t f)).getD f 0).toNat=(t:Int)::inv (Z0v (Z04 Gl t f))) with
          | true =>
           have ok:=key _ q7;refine Ans.step (v:=(⟨.normal,[],H,c+1+1+1+1+1,[]⟩:Rt FH)) ?_ (endT (c+1+1+1+1+1) qO ok);apply Ans.eq
           cases X with
           | true =>
            have d6':=d6 rfl
            repeat (first | (with_reducible refine Ans.bt ?_ ?_; exact rfl) | (with_reducible refine Ans.bf ?_ ?_; exact rfl) | (with_reducible refine Ans.ct ?_ ?_; focus (simp; done)) | (with_reducible refine Ans.cf ?_ ?_; focus (simp; done)) | refine Ans.step (by (simp (disch:=(first | omega | (simp <;> omega) | fail)) [b0,b1,b2,b3,a0,a1,e1,e2,e3,Z4d,Z5W,hx,hnl,q1,q2,q3,q4,d5,d6',ft,Z1P,Z32,hp,hr,hpr,f1,f2,ZqG,hil,hfl,q7,-List.getD_eq_getElem?_getD]) <;> rfl) ?_)
            exact Ans.done rfl
           | false =>
            repeat (first | (with_reducible refine Ans.bt ?_ ?_; exact rfl) | (with_reducible refine Ans.bf ?_ ?_; exact rfl) | (with_reducible refine Ans.ct ?_ ?_; focus (simp; done)) | (with_reducible refine Ans.cf ?_ ?_; focus (simp; done)) | refine Ans.step (by (simp (disch:=(first | omega | (simp <;> omega) | fail)) [b0,b1,b2,b3,a0,a1,e1,e2,e3,Z4d,Z5W,hx,hnl,q1,q2,q3,q4,d5,ft,Z1P,Z32,hp,hr,hpr,f1,f2,ZqG,hil,hfl,q7,-List.getD_eq_getElem?_getD]) <;> rfl) ?_)
            exact Ans.done rfl
          | false =>
           have ok:=key _ q7;obtain ⟨H',x1,x2⟩:=endF (c+1+1+1+1+1+1) qO ok;refine Ans.step (v:=(⟨.ret,[],H',c+1+1+1+1+1+1,[]⟩:Rt FH)) ?_ x2;apply Ans.eq
           cases X with
           | true =>
            have d6':=d6 rfl
            repeat (first | (with_reducible refine Ans.bt ?_ ?_; exact rfl) | (with_reducible refine Ans.bf ?_ ?_; exact rfl) | (with_reducible refine Ans.ct ?_ ?_; focus (simp; done)) | (with_reducible refine Ans.cf ?_ ?_; focus (simp; done)) | refine Ans.step (by (simp (disch:=(first | omega | (simp <;> omega) | fail)) [b0,b1,b2,b3,a0,a1,e1,e2,e3,Z4d,Z5W,hx,hnl,q1,q2,q3,q4,d5,d6',ft,Z1P,Z32,hp,hr,hpr,f1,f2,ZqG,hil,hfl,q7,x1,-List.getD_eq_getElem?_getD]) <;> rfl) ?_)
            exact Ans.done rfl
           | false =>
            repeat (first | (with_reducible refine Ans.bt ?_ ?_; exact rfl) | (with_reducible refine Ans.bf ?_ ?_; exact rfl) | (with_reducible refine Ans.ct ?_ ?_; focus (simp; done)) | (with_reducible refine Ans.cf ?_ ?_; focus (simp; done)) | refine Ans.step (by (simp (disch:=(first | omega | (simp <;> omega) | fail)) [b0,b1,b2,b3,a0,a1,e1,e2,e3,Z4d,Z5W,hx,hnl,q1,q2,q3,q4,d5,ft,Z1P,Z32,hp,hr,hpr,f1,f2,ZqG,hil,hfl,q7,x1,-List.getD_eq_getElem?_getD]) <;> rfl) ?_)
            exact Ans.done rfl

structure ChkI (s:Value) (n:Nat) (Gl:List Int) (gb gi rb nb l:Nat) (st:ALoop) (c0 ce:Nat) (h0:FH) (k:Nat) (h:FH) (c:Nat):Prop where
 lc:c0<=c
 g:Z0d h gb [s]
 i:Z0d h gi [s]
 sl:SlI h c0 s 20 n Gl
 nn:Z0d h nb (ints Z7S)
 res:h.f rb=some (.cells false none [.int .i64 0])
 loop:h.f l=some (.loop st)
 dfr:h.f (l+1)=some .dfr
 same:Z0l ce h0 h
 ok:ZiZ Gl n k
structure ChkJ (n:Nat) (Gl:List Int) (rb l:Nat) (st:ALoop) (c0 ce:Nat) (h0:FH) (h:FH) (c:Nat):Prop where
 lc:c0<=c
 res:h.f rb=some (.cells false none [.int .i64 7])
 loop:h.f l=some (.loop { st with state:=.done,pending:=some .ret })
 dfr:h.f (l+1)=some .dfr
 same:Z0l ce h0 h
 bad:∃ j,j<4*n/\Z0y Gl n (j / 4) (j % 4)=false
theorem Z9J (s:Value) (n:Nat) (Gl:List Int) (h0:FH) (ce:Nat) (df:List Nat) (hs:SlI h0 ce s 20 n Gl) :
 G (.fn 38) [.agg #[s]] h0 ce df=some ⟨.ret,[.int .i64 (if n<=1000/\Z0w Gl n=true then 0 else 7)],h0,ce,[]⟩:=by
 refine Z6u (fun r e=>f38_go e) (by simp) ?_;have hflat:((Value.agg #[s]).cells.toList.all Z08)=true:=by
  obtain ⟨_,_,a,cap,rfl,_⟩:=hs;rfl
 have hcell:(Value.agg #[s]).cells.toList=[s]:=rfl;have hlen:=hs.len;unfold ZjV;rw [hflat,hcell];simp only [cond_true]
 by_cases hn:n<=1000
 · have hn':¬ (1000:Int)<n:=qO;have hbn:Z1K [.int .i64 0,.int .i64 0,.int .i64 0,.int .i64 0,.int .i64 0] [(0,1,.int .i64 (-1))]=some (av Z7S):=rfl;have hnl:Z7S.length=5:=rfl
   repeat (first | (with_reducible refine Ans.bt ?_ ?_; exact rfl) | (with_reducible refine Ans.bf ?_ ?_; exact rfl) | (with_reducible refine Ans.ct ?_ ?_; focus (simp; done)) | (with_reducible refine Ans.cf ?_ ?_; focus (simp; done)) | refine Ans.step (by (simp (disch:=(first | omega | (simp <;> omega) | fail)) [hlen,hn',hbn,hnl,-List.getD_eq_getElem?_getD]) <;> rfl) ?_)
   obtain ⟨H,hH⟩:∃ H,H=newB (newB (newB h0 (256*ce) [s]) (256*ce+1) [.int .i64 0]) (256*(ce+1+1)+1) (ints Z7S):=⟨_,rfl⟩;have hc130:callF G 63 [.agg #[s]] H (ce+1+1+1+1)=some (.func (.func 85) [].toArray [ptrTo (256*(ce+1+1+1+1))].toArray,newB H (256*(ce+1+1+1+1)) [s],ce+1+1+1+1+1+1):=by
    refine Z05 (f63_go (r:=⟨.ret,[_],_,_,[]⟩) ?_);unfold ZjJ;rw [hflat,hcell];simp
   rw [← hH];refine Ans.step hc130 ?_;dsimp only;simp only [qW];obtain ⟨l,hl⟩:∃ l,l=256*(ce+1+1+1+1+1+1):=⟨_,rfl⟩;obtain ⟨st,hst⟩:∃ st,st=ZdM 71 [1,2,3] #[13,14] Z1C Z1B [ptrTo (256*ce),ptrTo (256*ce+1),ptrTo (256*(ce+1+1)+1)] (l+1):=⟨_,rfl⟩;have hI:FacesI (.func (.yield l) #[] #[]) s n Gl (256*(ce+1+1+1+1))
    (ChkI s n Gl (256*ce) (256*(ce+1+1+1+1)) (256*ce+1) (256*(ce+1+1)+1) l st (ce+1+1+1+1+1+1+1) ce h0)
    (ChkJ n Gl (256*ce+1) l st (ce+1+1+1+1+1+1+1) ce h0):=by
    refine ⟨fun k h c h' c' hi hc hs=>?_,fun h c h' c' hj hc hs=>?_,fun k h c hi=>⟨hi.i,hi.sl.mono hi.lc⟩,fun t f h c ht hf hi=>?_⟩
    · have:=hi.lc;exact ⟨qO,hi.g.same qO hs,hi.i.same qO hs,hi.sl.same (hs.mono qO),hi.nn.same qO hs,(hs _ qO).trans hi.res,(hs _ qO).trans hi.loop,(hs _ qO).trans hi.dfr,hi.same.trans (hs.mono qO),hi.ok⟩
    · have:=hj.lc;exact ⟨qO,(hs _ qO).trans hj.res,(hs _ qO).trans hj.loop,(hs _ qO).trans hj.dfr,hj.same.trans (hs.mono qO),hj.bad⟩
    · have hlc:=hi.lc;refine Zfa (st:=st) hi.loop (by rw [hst]; rfl) (by rw [hst]; rfl) ?_;obtain ⟨r,hr,r1,r2,r3,r4,r5,r6⟩:=Zkg s n Gl (256*ce) (256*ce+1) (256*(ce+1+1)+1) l (ce+1+1+1+1+1+1+1) c st h hlc t f ht hf qO qO qO qO qO qO qO
       hi.g hi.sl hi.nn hi.res hi.loop (by rw [hst]; rfl)
      have hk:G (.rnd st.nt st.lin st.fr st.params l st.assign st.body) ([av [(t:Int),(f:Int)],av (Z04 Gl t f)]++st.vals) h c []=some r:=by rw [hst]; exact Zi6 hr
      refine .intro hk ⟨_,r4,r1, ?_⟩;dsimp only;have hk4:(4*t+f) / 4=t/\(4*t+f) % 4=f:=qO;have hold:∀ b cs,b<256*c->b ≠ l->b ≠ 256*ce+1->Z0d h b cs->Z0d r.h b cs:=by
       intro b cs h1 h2 h3 ⟨ro,op,e⟩;refine ⟨ro,op, ?_⟩;have:=r6 b h1 h2;rw [if_neg (fun hh=>h3 hh.1)] at this;exact this.trans e
      cases hok:Z0y Gl n t f with
      | true =>
       left;rw [hok] at r5 r6;refine ⟨rfl, ?_⟩;have hfe:∀ i,i<256*c->r.h.f i=h.f i:=by
        intro i hi'
        by_cases e:i=l
        · rw [e,r5,hi.loop]; rw [hst]; rfl
        · rw [r6 i hi' e,if_neg (fun hh=>by cases hh.2)]
       have hsm:Z0l c h r.h:=hfe;refine ⟨qO,hi.g.same qO hsm,hi.i.same qO hsm,hi.sl.same (hsm.mono qO),hi.nn.same qO hsm,(hsm _ qO).trans hi.res,(hsm _ qO).trans hi.loop,(hsm _ qO).trans hi.dfr,hi.same.trans (hsm.mono qO), ?_⟩;intro j hj
       by_cases e:j=4*t+f
       · rw [e,hk4.1,hk4.2]; exact hok
       · exact hi.ok j qO
      | false =>
       right;rw [hok] at r5 r6;refine ⟨rfl,qO, ?_, ?_, ?_, ?_,⟨4*t+f,qO,by rw [hk4.1,hk4.2]; exact hok⟩⟩
       · rw [r6 _ qO qO,if_pos ⟨rfl,rfl⟩]
       · rw [r5]; rfl
       · rw [r6 _ qO qO,if_neg qO]; exact hi.dfr
       · intro i hi';rw [r6 i qO qO,if_neg qO];exact hi.same i hi'
   have hH0:∀ i,i<256*ce->H.f i=h0.f i:=by
    intro i hi';rw [hH,Z01,if_neg qO,Z01,if_neg qO,Z01,if_neg qO]
   obtain ⟨E,hE⟩:∃ E,E=ZdN (newB H (256*(ce+1+1+1+1)) [s]) (ce+1+1+1+1+1+1) 71 [1,2,3] #[13,14] Z1C Z1B [ptrTo (256*ce),ptrTo (256*ce+1),ptrTo (256*(ce+1+1)+1)]:=⟨_,rfl⟩;have hEf:∀ i,i<l->E.f i=(newB H (256*(ce+1+1+1+1)) [s]).f i:=by
    intro i hi';rw [hE,Zd7,if_neg qO,if_neg qO]
   have hI0:ChkI s n Gl (256*ce) (256*(ce+1+1+1+1)) (256*ce+1) (256*(ce+1+1)+1) l st (ce+1+1+1+1+1+1+1) ce h0 0 E (ce+1+1+1+1+1+1+1):=by
    have hsame:Z0l ce h0 E:=by
     intro i hi';rw [hEf i qO,Z01,if_neg qO];exact hH0 i hi'
    refine ⟨qG _,⟨false,none, ?_⟩,⟨false,none, ?_⟩,(hs.same hsame).mono qO,⟨false,none, ?_⟩, ?_, ?_, ?_,hsame,fun j hj=>qO⟩
    · show E.f _=_;rw [hEf _ qO,Z01,if_neg qO,hH,Z01,if_neg qO,Z01,if_neg qO,Z01,if_pos rfl]
    · show E.f _=_;rw [hEf _ qO,Z01,if_pos rfl]
    · show E.f _=_;rw [hEf _ qO,Z01,if_neg qO,hH,Z01,if_pos rfl]
    · rw [hEf _ qO,Z01,if_neg qO,hH,Z01,if_neg qO,Z01,if_pos rfl]
    · rw [hE,Zd7,if_pos hl,hst,hl]
    · rw [hE,Zd7,if_neg qO,if_pos qO]
   obtain ⟨⟨re,rv,rh,rc,rd⟩,hr,r1,r2,r3,r4,r5⟩:=ZmN hI hI0 [];simp only at r1 r2 r3 r4 r5;subst r1 r2 r3;rw [hl,hE] at hr;rcases r5 with r5 | r5
   · have hall:Z0w Gl n=true:=(Z5J Gl n).2 r5.ok;rw [if_pos ⟨hn,hall⟩];have hlc:=r5.lc;have hg:HeapC.get rh (256*ce+1)=some (.cells false none [.int .i64 0]):=r5.res;refine Ans.head (R:=fun q=>q=(Ex.normal,HeapC.del rh l,rc,[l+1])) (Zdy (.intro hr ⟨st,.normal,by rw [← hl]; exact r5.loop,by rw [hst]; simp [ZdM],by rw [hst]; rfl,by rw [hl]⟩)) ?_
     rintro _ rfl
     have e1:stN (HeapC.del rh l) 1 (.pointer (some ⟨256*ce+1,0,none⟩)) (.int .i64 0)=some (HeapC.set (HeapC.del rh l) (256*ce+1) (.cells false none [.int .i64 0])) :=
      Z0L (cs:=[.int .i64 0]) (by rw [get_del_ne _ _ _ qO]; exact hg) (by simp) rfl rfl
     have e2:Z0a (HeapC.set (HeapC.del rh l) (256*ce+1) (.cells false none [.int .i64 0])) [l+1]=some (HeapC.del (HeapC.set (HeapC.del rh l) (256*ce+1) (.cells false none [.int .i64 0])) (l+1)):=by
      have:HeapC.get (HeapC.set (HeapC.del rh l) (256*ce+1) (.cells false none [.int .i64 0])) (l+1)=some .dfr:=by
       rw [get_set_ne _ _ _ _ qO,get_del_ne _ _ _ qO]; exact r5.dfr
      simp [Z0a,this]
     have e3:ld1 (HeapC.del (HeapC.set (HeapC.del rh l) (256*ce+1) (.cells false none [.int .i64 0])) (l+1)) (.pointer (some ⟨256*ce+1,0,none⟩))=some (.int .i64 0):=by
      rw [ld1_del_ne _ _ _ _ qO];exact ld1_holds ⟨_,_,get_set_same _ _ _⟩ rfl
     repeat (first | (with_reducible refine Ans.bt ?_ ?_; exact rfl) | (with_reducible refine Ans.bf ?_ ?_; exact rfl) | (with_reducible refine Ans.ct ?_ ?_; focus (simp; done)) | (with_reducible refine Ans.cf ?_ ?_; focus (simp; done)) | refine Ans.step (by (simp (disch:=(first | omega | (simp <;> omega) | fail)) [e1,e2,e3,-List.getD_eq_getElem?_getD]) <;> rfl) ?_)
     refine Ans.done ⟨rfl,rfl, ?_,rfl⟩;intro i hi';show (HeapC.del (HeapC.set (HeapC.del rh l) (256*ce+1) (.cells false none [.int .i64 0])) (l+1)).f i=_;rw [ZnX,if_neg qO,Z0c,if_neg qO,ZnX,if_neg qO];exact r5.same i hi'
   · have hall:¬ (n<=1000/\Z0w Gl n=true):=by
      rintro ⟨_,h⟩
      obtain ⟨j,h1,h2⟩:=r5.bad;have:=(Z5J Gl n).1 h j h1;rw [h2] at this; cases this
     rw [if_neg hall];have hlc:=r5.lc;have hg:HeapC.get rh (256*ce+1)=some (.cells false none [.int .i64 7]):=r5.res;refine Ans.head (R:=fun q=>q=(Ex.ret,HeapC.del rh l,rc,[l+1])) (Zdy (.intro hr ⟨_,.ret,by rw [← hl]; exact r5.loop,by simp,rfl,by rw [hl]⟩)) ?_
     rintro _ rfl
     have e2:Z0a (HeapC.del rh l) [l+1]=some (HeapC.del (HeapC.del rh l) (l+1)):=by
      have:HeapC.get (HeapC.del rh l) (l+1)=some .dfr:=by
       rw [get_del_ne _ _ _ qO]; exact r5.dfr
      simp [Z0a,this]
     have e3:ld1 (HeapC.del (HeapC.del rh l) (l+1)) (.pointer (some ⟨256*ce+1,0,none⟩))=some (.int .i64 7):=by
      rw [ld1_del_ne _ _ _ _ qO,ld1_del_ne _ _ _ _ qO];exact ld1_holds ⟨_,_,hg⟩ rfl
     repeat (first | (with_reducible refine Ans.bt ?_ ?_; exact rfl) | (with_reducible refine Ans.bf ?_ ?_; exact rfl) | (with_reducible refine Ans.ct ?_ ?_; focus (simp; done)) | (with_reducible refine Ans.cf ?_ ?_; focus (simp; done)) | refine Ans.step (by (simp (disch:=(first | omega | (simp <;> omega) | fail)) [e2,e3,-List.getD_eq_getElem?_getD]) <;> rfl) ?_)
     refine Ans.done ⟨rfl,rfl, ?_,rfl⟩;intro i hi';show (HeapC.del (HeapC.del rh l) (l+1)).f i=_;rw [ZnX,if_neg qO,ZnX,if_neg qO];exact r5.same i hi'
 · have hn':(1000:Int)<n:=qO;have:¬ (n<=1000/\Z0w Gl n=true):=fun h=>hn h.1
   rw [if_neg this]
   repeat (first | (with_reducible refine Ans.bt ?_ ?_; exact rfl) | (with_reducible refine Ans.bf ?_ ?_; exact rfl) | (with_reducible refine Ans.ct ?_ ?_; focus (simp; done)) | (with_reducible refine Ans.cf ?_ ?_; focus (simp; done)) | refine Ans.step (by (simp (disch:=(first | omega | (simp <;> omega) | fail)) [hlen,hn',-List.getD_eq_getElem?_getD]) <;> rfl) ?_)
   refine Ans.done ?_;simp (disch:=omega)

structure JX (P:Prs) (m:Nat) (L:List Int):Prop where
 e:L=jn P (Z0g m)
 d:Z2h L m
theorem JX.nil (m:Nat):JX [] m (Z0g m):=⟨rfl,Z0B m⟩
theorem JX.snoc {P:Prs} {m:Nat} {L:List Int} {i j:Nat} (h:JX P m L) (hi:i<m) (hj:j<m):JX (P++[(i,j)]) m (Z1k L i j):=by
 refine ⟨?_,Z35 h.d hi hj⟩;rw [Zae,← h.e]; rfl
structure XB (Gl:List Int) (n t f xb pb:Nat) (h0:FH):Prop where
 hx:Z0d h0 xb (ints (Z04 Gl t f))
 ne:xb ≠ pb
 ok:Z0w Gl n=true
 gl:Gl.length=n*20
 ht:t<n
 hf:f<4
section
variable {Gl:List Int} {n t f xb pb:Nat} {h0:FH} (x:XB Gl n t f xb pb h0)
 include x
theorem XB.l0 (cs:List Value):ld1 (newB h0 pb cs) (.pointer (some ⟨xb,0,none⟩))=some (.int .i64 (Z0D (Z04 Gl t f))):=by
 have hl:=Z0i x.gl x.ht x.hf;rw [Z02 (x.hx.newB_ne x.ne),ints_getD _ _ qO]; rfl
theorem XB.gb (hg:¬ Z0D (Z04 Gl t f)<0):GB Gl n t f:=Z2L x.ok x.gl x.ht x.hf hg
theorem XB.u (hg:¬ Z0D (Z04 Gl t f)<0):Z0D (Z04 Gl t f)=(fU Gl t f:Nat):=by unfold fU; omega
theorem XB.l1 (hg:¬ Z0D (Z04 Gl t f)<0) (cs:List Value) {i:Nat} (hi:i<4):ld1 (newB h0 pb cs) (.pointer (some ⟨xb,1+i,none⟩))=some (.int .i64 (fJ Gl t f i:Nat)):=by
 have hl:=Z0i x.gl x.ht x.hf;have k:=(Z1S (Z33 x.ok x.ht x.hf) hg).2.1;have hp:=Zeq (Z1g hl) k;have hr:=Z7Q hp hi;have e:(Z0v (Z04 Gl t f)).getD i 0=(Z04 Gl t f).getD (1+i) 0:=by
  unfold Z0v;rw [Z2D _ _ _ hi,Z26]
 rw [Z02 (x.hx.newB_ne x.ne),ints_getD _ _ qO,← e];unfold fJ;rw [show (((Z0v (Z04 Gl t f)).getD i 0).toNat:Int)=(Z0v (Z04 Gl t f)).getD i 0 by omega]
end
theorem vx_i (pb n xb t f c:Nat) (Gl:List Int) (x1 x2 x3 x4 x5:Value) (h0:FH) (df:List Nat) (PV:Prs) (hn:n<=1000) (x:XB Gl n t f xb pb h0) (lp:pb<256*c) (lx:xb<256*c)
 (o1:OkV c x1) (o2:OkV c x2) (o3:OkV c x3) (o4:OkV c x4) (o5:OkV c x5) :
 ∀ (r i:Nat) (L:List Int),i+r=4->(Z0D (Z04 Gl t f)<0->i=0)->JX (PV++if Z0D (Z04 Gl t f)<0 then [] else upL (vI Gl t f) i) (4*n) L →
 Ans (G (ZbM none) [.slice (some ⟨pb,0,none⟩) (4*n) (4*n),.int .i64 t,.int .i64 f,ptrTo xb,.int .i64 i,x1,x2,x3,x4,x5] (newB h0 pb (ints L)) c df) fun q=>∃ L' v,q=⟨.exit 4,[.slice (some ⟨pb,0,none⟩) (4*n) (4*n),.int .i64 t,.int .i64 f,ptrTo xb,v,x1,x2,x3,x4,x5],newB h0 pb (ints L'),c,df⟩/\JX (PV++vF Gl t f) (4*n) L':=by
 intro r;have ht:=x.ht;have hf:=x.hf
 induction r with
 | zero =>
  intro i L hi h0' j;obtain rfl:i=4:=qO;have hg:¬ Z0D (Z04 Gl t f)<0:=fun z=>by have:=h0' z; omega
  refine Ans.lpG rfl rfl (Z2V ..) ?_;unfold Z4v;obtain ⟨H,hH⟩:=jN (newB h0 pb (ints L));rw [hH];have fx:=True.intro;refine Ans.go ?_;clear fx
  (have fx:=ai lp (ai lx (ai o1 (ai o2 (ai o3 (ai o4 o5))))); refine Ans.ex0 ?_; clear fx)
  exact ⟨L,.int .i64 4,by rw [hH]; rfl,j⟩
 | succ r ih =>
  intro i L hi h0' j;have hi4:i<4:=qO;have i4:(i:Int)<4:=qO;have l0:=x.l0 (ints L)
  by_cases hg:Z0D (Z04 Gl t f)<0
  · obtain rfl:i=0:=h0' hg;obtain ⟨F,hF⟩:=jN (Z0D (Z04 Gl t f));obtain ⟨H,hH⟩:=jN (newB h0 pb (ints L));have j':JX (PV++vF Gl t f) (4*n) L:=by
     rw [if_pos hg] at j;unfold vF;rw [if_pos hg]; exact j
    rw [hF] at l0 hg;rw [hH] at l0 ⊢;refine Ans.lpG rfl rfl (Z2V ..) ?_;unfold Z4v;have fx:=l0;refine Ans.go ?_;clear fx
    (have fx:=ai lp (ai lx (ai o1 (ai o2 (ai o3 (ai o4 o5))))); refine Ans.ex0 ?_; clear fx)
    exact ⟨L,_,by rw [hH],j'⟩
  · have b:=x.gb hg;have hu:=b.u;have hj:=b.j i hi4;rw [x.u hg] at l0;have l1:=x.l1 hg (ints L) hi4;rw [if_neg hg] at j;simp only [if_neg hg] at ih
    by_cases q:i=f
    · have qv:vI Gl t f i=[]:=if_pos q;have hk:=ih (i+1) L qO (fun z=>absurd z hg) (by rw [upL,qv,qL]; exact j);obtain ⟨u,hu'⟩:=jN (fU Gl t f);rw [hu'] at l0;obtain ⟨S,hS⟩:=jN (newB h0 pb (ints L));rw [hS] at hk l0 ⊢;have q1:(i:Int)=f:=qO;refine Ans.lpG rfl rfl (Z2V ..) ?_;unfold Z4v;have fx:=ai l0 q1;refine Ans.go ?_;clear fx
      (have fx:=ai lp (ai lx (ai o1 (ai o2 (ai o3 (ai o4 o5))))); refine Ans.nx0 ?_; clear fx)
      exact hk
    · have qv:vI Gl t f i=[(4*t+i,4*fU Gl t f+fJ Gl t f i)]:=if_neg q;have g:=Z41 pb (4*n) L j.d (newB h0 pb (ints L)) (c+1+1+1) [] (by rw [Z01,if_pos rfl]) qO qO (4*t+i) (4*fU Gl t f+fJ Gl t f i) qO qO;rw [ZdD] at g;have j':=j.snoc (i:=4*t+i) (j:=4*fU Gl t f+fJ Gl t f i) qO qO;have hk:=ih (i+1) (Z1k L (4*t+i) (4*fU Gl t f+fJ Gl t f i)) qO (fun z=>absurd z hg) (by rw [upL,qv,← qQ]; exact j');have cv:=Z05 g;have e3:((4*t+i:Nat):Int)=4*(t:Int)+i:=qO;have e4:((4*fU Gl t f+fJ Gl t f i:Nat):Int)=4*(fU Gl t f:Int)+(fJ Gl t f i:Nat):=qO;rw [e3,e4] at cv;have q1:¬ (i:Int)=f:=qO;have up:Z0G c (newB h0 pb (ints L)) (newB h0 pb (ints (Z1k L (4*t+i) (4*fU Gl t f+fJ Gl t f i)))):=Z0G.both (Z0Q.ints _ _) (Z0G.refl _ _) lp;clear g j' e3 e4;obtain ⟨S,hS⟩:=jN (newB h0 pb (ints L));obtain ⟨S2,hS2⟩:=jN (newB h0 pb (ints (Z1k L (4*t+i) (4*fU Gl t f+fJ Gl t f i))));rw [hS] at l0 l1 cv up ⊢;rw [hS2] at cv up hk;obtain ⟨u,hu'⟩:=jN (fU Gl t f);obtain ⟨p,hp'⟩:=jN (fJ Gl t f i);rw [hu'] at l0 cv hu;rw [hp'] at l1 cv hj;refine Ans.lpG rfl rfl (Z2V ..) ?_;unfold Z4v;have fx:=ai l0 (ai l1 (ai cv q1));refine Ans.go ?_;clear fx
      (have fx:=ai lp (ai lx (ai o1 (ai o2 (ai o3 (ai o4 o5))))); refine Ans.nxB (B:=S2) ?_ ?_; exact (up); clear fx)
      exact hk
theorem vx_f (pb n t c:Nat) (Gl:List Int) (x1 x2 x3:Value) (h0:FH) (df:List Nat) (PV:Prs) (hn:n<=1000) (hok:Z0w Gl n=true) (hG:Gl.length=n*20) (ht:t<n) (lp:pb<256*c)
 (o1:OkV c x1) (o2:OkV c x2) (o3:OkV c x3) :
 ∀ (r f:Nat) (L:List Int),f+r=4->JX (PV++upL (vF Gl t) f) (4*n) L →
 Ans (G (ZbN none) [.slice (some ⟨pb,0,none⟩) (4*n) (4*n),.int .i64 t,x1,x2,x3,av (Z0K Gl t),.int .i64 f] (newB h0 pb (ints L)) c df) fun q=>∃ L',q=⟨.exit 2,[.slice (some ⟨pb,0,none⟩) (4*n) (4*n),.int .i64 t,x1,x2,x3,av (Z0K Gl t),.int .i64 4],newB h0 pb (ints L'),c,df⟩/\JX (PV++vT Gl t) (4*n) L':=by
 intro r;have hrl:=Z0E hG ht;have orow:OkV c (av (Z0K Gl t)):=OkV.av _ _
 induction r with
 | zero =>
  intro f L hf j;obtain rfl:f=4:=qO;refine Ans.lpG rfl rfl (Z7g ..) ?_;unfold Z8I;obtain ⟨H,hH⟩:=jN (newB h0 pb (ints L));rw [hH];have fx:=True.intro;refine Ans.go ?_;clear fx
  (have fx:=ai lp (ai o1 (ai o2 (ai o3 orow))); refine Ans.ex0 ?_; clear fx)
  exact ⟨L,by rw [hH]; rfl,j⟩
 | succ r ih =>
  intro f L hf j;have hf4:f<4:=qO;have f4:(f:Int)<4:=qO;have x1':=Z2p (Z0K Gl t) 4 5 .i64 (f:Int) qO qO hrl;rw [qE,Z23 hf4] at x1';have hfl:=Z0i hG ht hf4;obtain ⟨xb,hxb⟩:=jN (256*(c+1)+2);have hne:xb ≠ pb:=qO;obtain ⟨h1,hh1⟩:=jN (newB h0 xb (ints (Z04 Gl t f)));have cm:newB (newB h0 pb (ints L)) xb (ints (Z04 Gl t f))=newB h1 pb (ints L):=by rw [← hh1,Z1F _ _ _ _ _ (Ne.symm hne)]
  have x:XB Gl n t f xb pb h1:=⟨by rw [← hh1]; exact Z0d.newB_same _ _ _,hne,hok,hG,ht,hf4⟩;have w1:stN (newB (newB h0 pb (ints L)) xb [.int .i64 0,.int .i64 0,.int .i64 0,.int .i64 0,.int .i64 0]) 5 (.pointer (some ⟨xb,0,none⟩)) (av (Z04 Gl t f))=some (newB h1 pb (ints L)):=by
   rw [← cm]; exact stN_all _ _ 5 _ _ hfl rfl
  obtain ⟨q9,hq9,L',v,rfl,j'⟩:=vx_i pb n xb t f (c+1+1+1) Gl x1 x2 x3 (av (Z0K Gl t)) (.int .i64 f) h1 df (PV++upL (vF Gl t) f) hn x qO qO (o1.mono qO) (o2.mono qO) (o3.mono qO) (OkV.av _ _) (OkV.int _ _ _) 4 0 L qO (fun _=>rfl) (by rw [upL,ite_self,qL]; exact j);have hk:=ih (f+1) L' qO (by rw [upL,← qQ]; exact j');simp only [qC,qF] at hq9;have up:Z0G c (newB h0 pb (ints L)) (newB h0 pb (ints L')):=Z0G.both (Z0Q.ints _ _) (Z0G.refl _ _) lp;have sB:Z0l c (newB h0 pb (ints L')) (newB h1 pb (ints L')):=fun j hj=>by rw [Z01,Z01,← hh1,Z01,if_neg (show ¬ j=xb by omega)]
  obtain ⟨S,hS⟩:=jN (newB h0 pb (ints L));obtain ⟨S1,hS1⟩:=jN (newB h1 pb (ints L));obtain ⟨S2,hS2⟩:=jN (newB h0 pb (ints L'));obtain ⟨S3,hS3⟩:=jN (newB h1 pb (ints L'));rw [hS] at w1 up ⊢;rw [hS1] at w1 hq9;rw [hS2] at up sB hk;rw [hS3] at sB hq9;obtain ⟨F,hF⟩:=jN (Z04 Gl t f);rw [hF] at w1 x1';refine Ans.lpG rfl rfl (Z7g ..) ?_;unfold Z8I;have fx:=ai x1' (ai hxb (ai w1 hq9));refine Ans.go ?_;clear fx
  (have fx:=ai lp (ai o1 (ai o2 (ai o3 (ai orow sB)))); refine Ans.nxB (B:=S2) ?_ ?_; exact (up); clear fx)
  exact hk
def z20:List Value:=[.int .i64 0,.int .i64 0,.int .i64 0,.int .i64 0,.int .i64 0,.int .i64 0,.int .i64 0,.int .i64 0,.int .i64 0,.int .i64 0,.int .i64 0,.int .i64 0,.int .i64 0,.int .i64 0,.int .i64 0,.int .i64 0,.int .i64 0,.int .i64 0,.int .i64 0,.int .i64 0]
theorem Z9N:[Value.int .i64 0,Value.int .i64 0,Value.int .i64 0,Value.int .i64 0,Value.int .i64 0,Value.int .i64 0,Value.int .i64 0,Value.int .i64 0,Value.int .i64 0,Value.int .i64 0,Value.int .i64 0,Value.int .i64 0,Value.int .i64 0,Value.int .i64 0,Value.int .i64 0,Value.int .i64 0,Value.int .i64 0,Value.int .i64 0,Value.int .i64 0,Value.int .i64 0]=z20:=rfl
theorem Zdw {h0:FH} {cm pb:Nat} {s:Value} {n t:Nat} {Gl:List Int} (hs:SlI h0 cm s 20 n Gl) (hpb:256*cm<=pb) (ht:t<n) (cs:List Value) :
 ixS 20 s (.int .i64 t)=some (.pointer (some ⟨Z0p s,Z4a s+t*20,none⟩))/\ldN (newB h0 pb cs) 20 (.pointer (some ⟨Z0p s,Z4a s+t*20,none⟩))=some (av (Z0K Gl t)):=by
 have hs':SlI (newB h0 pb cs) cm s 20 n Gl:=hs.same fun j hj=>by rw [Z01,if_neg qO]
 have ix:=hs'.ixs .i64 t qO qO;rw [qE] at ix;refine ⟨ix, ?_⟩;rw [hs'.rdN 20 _ qO qO];unfold Z0K;rw [show t*20=20*t by omega]
theorem Z9Z (H:FH) (b:Nat) {Gl:List Int} {n t:Nat} (hG:Gl.length=n*20) (ht:t<n):stN (newB H b z20) 20 (.pointer (some ⟨b,0,none⟩)) (av (Z0K Gl t))=some (newB H b (ints (Z0K Gl t)))/\ldN (newB H b (ints (Z0K Gl t))) 20 (.pointer (some ⟨b,0,none⟩))=some (av (Z0K Gl t)):=by
 have hl:=Z0E hG ht;refine ⟨stN_all _ _ 20 _ _ hl rfl, ?_⟩;rw [ldN_holds (cs:=ints (Z0K Gl t)) (Z0d.newB_same _ _ _) (by rw [ints_length]; omega),av,qM,qH (by rw [ints_length]; omega)]
theorem vx_t (pb n c cm:Nat) (Gl:List Int) (s:Value) (h0:FH) (df:List Nat) (hn:n<=1000) (hok:Z0w Gl n=true) (hs:SlI h0 cm s 20 n Gl) (hcm:cm<=c) (mp:256*cm<=pb) (lp:pb<256*c) :
 ∀ (r t:Nat) (L:List Int),t+r=n->JX (upL (vT Gl) t) (4*n) L →
 Ans (G (ZbO none) [.slice (some ⟨pb,0,none⟩) (4*n) (4*n),s,.int .i64 n,.int .i64 t] (newB h0 pb (ints L)) c df) fun q=>q=⟨.exit 0,[.slice (some ⟨pb,0,none⟩) (4*n) (4*n),s,.int .i64 n,.int .i64 n],newB h0 pb (ints (vCs Gl n)),c,df⟩:=by
 intro r;have os:OkV c s:=(hs.mono hcm).okV;have hG:=hs.1
 induction r with
 | zero =>
  intro t L ht j;obtain rfl:t=n:=qO;have e:L=vCs Gl t:=j.e;refine Ans.lpG rfl rfl (Z7h ..) ?_;unfold Z8J;obtain ⟨H,hH⟩:=jN (newB h0 pb (ints L));rw [← e,hH];have fx:=True.intro;refine Ans.go ?_;clear fx
  (have fx:=ai lp os; refine Ans.ex0 ?_; clear fx)
  rfl
 | succ r ih =>
  intro t L ht j;have htn:t<n:=qO;have tl:(t:Int)<n:=qO;have tn:(n:Int)<=1000:=qO;obtain ⟨ix,l1⟩:=Zdw hs mp htn (ints L);obtain ⟨kb,hkb⟩:=jN (256*(c+1)+3);have hne:kb ≠ pb:=qO;obtain ⟨w1,w2⟩:=Z9Z (newB h0 pb (ints L)) kb hG htn;obtain ⟨h1,hh1⟩:=jN (newB h0 kb (ints (Z0K Gl t)));have cm':newB (newB h0 pb (ints L)) kb (ints (Z0K Gl t))=newB h1 pb (ints L):=by rw [← hh1,Z1F _ _ _ _ _ (Ne.symm hne)]
  rw [cm'] at w1 w2;obtain ⟨q9,hq9,L',rfl,j'⟩:=vx_f pb n t (c+1+1+1) Gl s (.int .i64 n) (.int .i64 t) h1 df (upL (vT Gl) t) hn hok hG htn qO (os.mono qO) (OkV.int _ _ _) (OkV.int _ _ _) 4 0 L qO (by rw [upL,qL]; exact j);have hk:=ih (t+1) L' qO (by rw [upL]; exact j');simp only [qC,qF] at hq9;have up:Z0G c (newB h0 pb (ints L)) (newB h0 pb (ints L')):=Z0G.both (Z0Q.ints _ _) (Z0G.refl _ _) lp;have sB:Z0l c (newB h0 pb (ints L')) (newB h1 pb (ints L')):=fun j hj=>by rw [Z01,Z01,← hh1,Z01,if_neg (show ¬ j=kb by omega)]
  obtain ⟨S,hS⟩:=jN (newB h0 pb (ints L));obtain ⟨S1,hS1⟩:=jN (newB h1 pb (ints L));obtain ⟨S2,hS2⟩:=jN (newB h0 pb (ints L'));obtain ⟨S3,hS3⟩:=jN (newB h1 pb (ints L'));rw [hS] at w1 l1 up ⊢;rw [hS1] at w1 w2 hq9;rw [hS2] at up sB hk;rw [hS3] at sB hq9;obtain ⟨R,hR⟩:=jN (av (Z0K Gl t));rw [hR] at l1 w1 w2 hq9;refine Ans.lpG rfl rfl (Z7h ..) ?_;unfold Z8J;rw [Z9N];obtain ⟨Z,hZ⟩:=jN (z20);rw [hZ] at w1 ⊢;have fx:=ai ix (ai l1 (ai hkb (ai w1 (ai w2 hq9))));refine Ans.go ?_;clear fx
  (have fx:=ai lp (ai os sB); refine Ans.nxB (B:=S2) ?_ ?_; exact (up); clear fx)
  exact hk
theorem Z9f (s:Value) (n:Nat) (Gl:List Int) (h:FH) (c:Nat) (df:List Nat) (hs:SlI h c s 20 n Gl) (hok:Z0w Gl n=true) (hn:n<=1000) :
 Ans (G (.fn 59) [.agg #[s]] h c df) fun r=>∃ b,r=⟨.ret,[.tuple #[.slice (some ⟨b,0,none⟩) (4*n) (4*n),.int .i64 (Z1x (vCs Gl n) (4*n))]],r.h,r.c,[]⟩/\c<=r.c/\Z0l c h r.h/\256*c<=b/\b<256*r.c/\r.h.f b=some (.cells false none (ints (Z6N (vCs Gl n) (4*n)))):=by
 refine Ans.call' (fun r e=>f59_go e) ?_;have Z0X:((Value.agg #[s]).cells.toList.all Z08)=true:=by simp [Value.cells,hs.flat]
 have Z0Y:(Value.agg #[s]).cells.toList=[s]:=rfl;unfold ZpY;rw [Z0X,Z0Y];simp only [cond_true,qW];obtain ⟨g0,hg0⟩:=jN (256*c);rw [hg0];obtain ⟨M,hM⟩:=jN (newB h g0 [s]);rw [hM];have Mg:M.f g0=some (.cells false none [s]):=by rw [← hM,Z01,if_pos rfl]
 have sM:Z0l c h M:=fun j hj=>by rw [← hM,Z01,if_neg qO]
 have l0:ld1 M (.pointer (some ⟨g0,0,none⟩))=some s:=by rw [Z02 (cs:=[s]) ⟨false,none,Mg⟩]; rfl
 have len:=hs.len;have cs:=Z05 (Z4h (4*n) M (c+1+1) [] qO);obtain ⟨pb,hpb⟩:=jN (256*(c+1+1+1)+1);rw [hpb] at cs;have l1:ld1 (newB M pb (ints (Z0g (4*n)))) (.pointer (some ⟨g0,0,none⟩))=some s:=by rw [ld1_newB_ne _ _ _ _ _ qO]; exact l0
 have hsM:SlI M (c+1) s 20 n Gl:=(hs.same sM).mono qO;have lo:=Ans.eq (vx_t pb n (c+1+1+1+1+1+1+1) (c+1) Gl s M [] hn hok hsM qO qO qO n 0 (Z0g (4*n)) qO (JX.nil _));have hd:=Zfl hok hs.1;have nu:=Z05 (Z6v pb (4*n) (vCs Gl n) hd (newB M pb (ints (vCs Gl n))) (c+1+1+1+1+1+1+1+1) [] (by rw [Z01,if_pos rfl]) qO qO);simp only [qC,qF] at lo;obtain ⟨ob,hob⟩:=jN (256*(c+1+1+1+1+1+1+1+1+1)+2);rw [hob] at nu;have e4:((4*n:Nat):Int)=4*(n:Int):=qO;rw [e4] at cs;have xv0:∀ a b:Value,Z19 (.tuple #[a,b]) 0=some a:=fun _ _=>rfl
 have xv1:∀ a b:Value,Z19 (.tuple #[a,b]) 1=some b:=fun _ _=>rfl
 obtain ⟨K1,hK1⟩:=jN (newB M pb (ints (Z0g (4*n))));obtain ⟨K2,hK2⟩:=jN (newB M pb (ints (vCs Gl n)));rw [hK1] at cs l1 lo;rw [hK2] at lo nu;obtain ⟨K3,hK3⟩:=jN (newB K2 ob (ints (Z6N (vCs Gl n) (4*n))));rw [hK3] at nu;obtain ⟨F,hF⟩:=jN (Z1x (vCs Gl n) (4*n));rw [hF] at nu ⊢;have fx:=ai l0 (ai len (ai cs (ai l1 (ai lo (ai nu (ai xv0 xv1))))));refine Ans.go ?_;clear fx;refine .done ⟨ob,rfl,by dsimp only; omega,fun j hj=>?_,qO,by dsimp only; omega, ?_⟩
 · show K3.f j=_;rw [← hK3,Z01,if_neg qO,← hK2,Z01,if_neg qO];exact sM j hj
 · show K3.f ob=_;rw [← hK3,Z01,if_pos rfl]

theorem Zld (k:IntKind) (a b:Int):Z5A max2 [.int k a,.int k b]=some (.int k (if a<b then b else a)):=by
 simp [Z5A,max2]
theorem Zlb (k:IntKind) (a b:Int):Z5A min2 [.int k a,.int k b]=some (.int k (if b<a then b else a)):=by
 simp [Z5A,min2]
theorem Zfs {h:FH} {b:Nat} {w v:Value} (hg:h.f b=some (.cells false none [w])) (hf:Z08 v=true):stN h 1 (.pointer (some ⟨b,0,none⟩)) (.agg #[v])=some (newB h b [v]):=by
 have hg':HeapC.get h b=some (.cells false none [w]):=hg;simp [stN,Z2N,Value.cells,Z2I,hg',hf,Z0Z];rfl
theorem Zjt (h0:FH) (p b m c:Nat) (v2:Value) (df:List Nat) (hv:OkV c v2) (hp:p<256*c) (hb:b<256*c) (hne:p ≠ b) (hm:m<=1000000) (h1:h0.f p=some (.cells false none [.slice (some ⟨b,0,none⟩) m m])) :
 ∀ (k i:Nat) (X:List Int),i+k=m->X.length=m->(∀ j,j<i->X.getD j 0=j) →
 Ans (G (ZbG none) [v2,ptrTo p,.int .i64 m,.int .i64 i] (newB h0 b (ints X)) c df) fun r=>r=⟨.exit 0,[v2,ptrTo p,.int .i64 m,.int .i64 m],newB h0 b (ints (Z0g m)),c,df⟩:=by
 intro k
 induction k with
 | zero =>
  intro i X hi hX hf;obtain rfl:i=m:=qO;have e:X=Z0g i:=by
   refine List.ext_getElem (by rw [hX]; simp [Z0g]) fun j h1 h2=>?_
   have:=hf j qO;rw [qB,qI h1] at this;simp only [Option.getD_some] at this;rw [this]; simp [Z0g]
  rw [e];refine Ans.lpG rfl rfl (Z58 ..) ?_;unfold Z4q;have fx:=True.intro;refine Ans.go ?_;clear fx
  (have fx:=hv; refine Ans.ex0 ?_; clear fx)
  rfl
 | succ k ih =>
  intro i X hi hX hf;have ll:ld1 (newB h0 b (ints X)) (.pointer (some ⟨p,0,none⟩))=some (.slice (some ⟨b,0,none⟩) m m):=by
   rw [ld1_newB_ne _ _ _ _ _ hne,Z02 ⟨false,none,h1⟩]; rfl
  have hs:stN (newB h0 b (ints X)) 1 (.pointer (some ⟨b,i,none⟩)) (.int .i64 i)=some (newB h0 b (ints (X.set i i))):=by
   rw [st1_int _ _ _ _ _ _ (by simp; omega),Z1r]
  refine Ans.lpG rfl rfl (Z58 ..) ?_;unfold Z4q;have fx:=ai ll hs;refine Ans.go ?_;clear fx
  (have fx:=ai hv (ai hp hb); refine Ans.nxB (B:=newB h0 b (ints (X.set i i))) ?_ ?_; exact (Z0G.both (Z0Q.ints _ _) (Z0G.refl _ _) hb); clear fx)
  refine ih (i+1) (X.set i i) qO (by simp [hX]) (fun j hj=>?_);rw [Z0I]
  by_cases e:i=j
  · rw [if_pos ⟨e,qO⟩,e]
  · rw [if_neg (fun q=>e q.1)]; exact hf j qO
theorem Z4U (m:Nat) (h:FH) (c:Nat) (df:List Nat) (hm:m<=1000000) :
 Ans (G (.fn 66) [.int .i64 m] h c df) fun r=>r=⟨.ret,[.agg #[.slice (some ⟨256*(c+1)+1,0,none⟩) m m]],r.h,c+1+1+1+1,[]⟩/\Z0l c h r.h/\r.h.f (256*(c+1)+1)=some (.cells false none (ints (Z0g m))):=by
 refine Ans.call' (fun r e=>f66_go e) ?_;unfold ZjG;have mk:=Z5L 1 8 .i64 .i64 m qO qO;obtain ⟨B,hB⟩:=jN (256*(c+1)+1);obtain ⟨Q,hQ⟩:=jN (256*(c+1)+3);rw [hB,hQ];have hbl:Z1K [(.slice none 0 0)] [(0,1,(.slice (some ⟨B,0,none⟩) m m))]=some (.agg #[.slice (some ⟨B,0,none⟩) m m]):=rfl;have st1:stN (newB (newB (newB h (256*c) [(.slice none 0 0)]) B (ints (List.replicate m 0))) Q [(.slice none 0 0)]) 1 (.pointer (some ⟨Q,0,none⟩)) (.agg #[.slice (some ⟨B,0,none⟩) m m])=some (newB (newB (newB h (256*c) [(.slice none 0 0)]) B (ints (List.replicate m 0))) Q [.slice (some ⟨B,0,none⟩) m m]):=by
  rw [Zfs (w:=.slice none 0 0) (by rw [Z01,if_pos rfl]) rfl,newB_newB]
 obtain ⟨h0,hh0⟩:∃ h0,h0=newB (newB h (256*c) [(.slice none 0 0)]) Q [.slice (some ⟨B,0,none⟩) m m]:=⟨_,rfl⟩;have ec:newB (newB (newB h (256*c) [(.slice none 0 0)]) B (ints (List.replicate m 0))) Q [.slice (some ⟨B,0,none⟩) m m]=newB h0 B (ints (List.replicate m 0)):=by
  rw [hh0];apply FH.ext; intro j;simp only [Z01]
  by_cases e1:j=Q <;> by_cases e2:j=B <;> simp [e1,e2] <;> omega
 rw [ec] at st1;have hq:h0.f Q=some (.cells false none [.slice (some ⟨B,0,none⟩) m m]):=by rw [hh0,Z01,if_pos rfl]
 have hc':h0.f (256*c)=some (.cells false none [.slice none 0 0]):=by rw [hh0,Z01,if_neg qO,Z01,if_pos rfl]
 have hl:=fun v2 hv=>Ans.eq (Zjt h0 Q B m (c+1+1+1) v2 [] hv qO qO qO hm hq m 0 (List.replicate m 0) qO (by simp) (fun j hj=>qO))
 have hl:=hl (ptrTo (256*c)) (OkV.ptrTo qO);simp only [qC,qF] at hl;have ll:∀ X,ld1 (newB h0 B X) (.pointer (some ⟨Q,0,none⟩))=some (.slice (some ⟨B,0,none⟩) m m):=fun X=>by rw [ld1_newB_ne _ _ _ _ _ qO,Z02 ⟨false,none,hq⟩]; rfl
 have lN:∀ X,ldN (newB h0 B X) 1 (.pointer (some ⟨Q,0,none⟩))=some (.agg #[.slice (some ⟨B,0,none⟩) m m]):=fun X=>by rw [ldN_newB_ne _ _ _ _ _ _ qO,Z0N ⟨false,none,hq⟩]
 have hfin:=Zfs (h:=newB h0 B (ints (Z0g m))) (b:=256*c) (w:=.slice none 0 0) (v:=.slice (some ⟨B,0,none⟩) m m) (by rw [Z01,if_neg qO,hc']) rfl;obtain ⟨K,hK⟩:=jN (newB (newB h0 B (ints (Z0g m))) (256*c) [.slice (some ⟨B,0,none⟩) m m]);rw [hK] at hfin;have lK:ldN K 1 (.pointer (some ⟨256*c,0,none⟩))=some (.agg #[.slice (some ⟨B,0,none⟩) m m]):=Z0N ⟨false,none,by show K.f _=_; rw [← hK,Z01,if_pos rfl]⟩
 repeat' (first | ((with_reducible first | refine Ans.bz ?_ | refine Ans.r1 ?_ | refine Ans.pkT ?_ | refine Ans.pkF ?_); try dsimp only [v_zero,v_succ]) | (with_reducible first | refine Ans.btL ?_ | refine Ans.bfL ?_ | refine Ans.gyT ?_ | refine Ans.gyF ?_ | refine Ans.gyG ?_ | refine Ans.bb ?_ | refine Ans.bc ?_ | refine Ans.ba ?_) | ((with_reducible first | refine Ans.lsT ?_ ?_ | refine Ans.leT ?_ ?_ | refine Ans.grT ?_ ?_ | refine Ans.geT ?_ ?_ | refine Ans.eqT ?_ ?_ | refine Ans.neT ?_ ?_); (focus omega)) | ((with_reducible first | refine Ans.lsF ?_ ?_ | refine Ans.leF ?_ ?_ | refine Ans.grF ?_ ?_ | refine Ans.geF ?_ ?_ | refine Ans.eqF ?_ ?_ | refine Ans.neF ?_ ?_); (focus omega)) | (with_reducible first | refine Ans.lsS (fun _=>?_) (fun _=>?_) | refine Ans.leS (fun _=>?_) (fun _=>?_) | refine Ans.grS (fun _=>?_) (fun _=>?_) | refine Ans.geS (fun _=>?_) (fun _=>?_) | refine Ans.eqS (fun _=>?_) (fun _=>?_) | refine Ans.neS (fun _=>?_) (fun _=>?_)) | ((with_reducible first | refine Ans.addN ?_ ?_ | refine Ans.add ?_ ?_ | refine Ans.sub ?_ ?_ | refine Ans.mul ?_ ?_); (focus omega)) | ((with_reducible first | refine Ans.ct ?_ ?_); (focus (simp (disch:=(first | omega | with_reducible assumption | (simp <;> omega) | fail)) [mk,hbl,st1,ll,lN,hl,hfin,lK,-ldN_newB_same]; done))) | ((with_reducible first | refine Ans.cf ?_ ?_); (focus (simp (disch:=(first | omega | with_reducible assumption | (simp <;> omega) | fail)) [mk,hbl,st1,ll,lN,hl,hfin,lK,-ldN_newB_same]; done))) | (refine Ans.step (by simp (disch:=(first | omega | with_reducible assumption | (simp <;> omega) | fail)) [mk,hbl,st1,ll,lN,hl,hfin,lK,-ldN_newB_same,-List.getD_eq_getElem?_getD] <;> rfl) ?_; try dsimp only [v_zero,v_succ]) | fail)
 refine .done ⟨rfl, ?_, ?_⟩
 · intro b hb;show K.f b=_;rw [← hK,Z01,if_neg qO,Z01,if_neg qO,hh0,Z01,if_neg qO,Z01,if_neg qO]
 · show K.f B=_;rw [← hK,Z01,if_neg qO,Z01,if_pos rfl]
structure Uo (h:FH) (cb o b m:Nat) (L:List Int):Prop where
 st:∃ cs,Z0d h cb cs/\cs[o]? = some (.slice (some ⟨b,0,none⟩) m m)
 up:h.f b=some (.cells false none (ints L))
 ne:cb ≠ b
 dn:Z2h L m
 le:m<=1000000
theorem Uo.ld {h:FH} {cb o b m:Nat} {L:List Int} (u:Uo h cb o b m L):ld1 h (.pointer (some ⟨cb,o,none⟩))=some (.slice (some ⟨b,0,none⟩) m m):=by
 obtain ⟨cs,h1,h2⟩:=u.st;rw [Z02 h1,h2]
theorem Uo.rd {h:FH} {cb o b m:Nat} {L:List Int} (u:Uo h cb o b m L) {i:Nat} (hi:i<m):ld1 h (.pointer (some ⟨b,i,none⟩))=some (.int .i64 (L.getD i 0)):=by
 have:=u.dn.1;rw [Z02 ⟨false,none,u.up⟩,ints_getD _ _ qO]
theorem Uo.keep {h h':FH} {cb o b m:Nat} {L:List Int} (u:Uo h cb o b m L) (h1:h'.f cb=h.f cb) (h2:h'.f b=h.f b):Uo h' cb o b m L:=by
 obtain ⟨⟨cs,⟨ro,op,e⟩,q⟩,a,b',d,f⟩:=u;have e':h.f cb=some (.cells ro op cs):=e;exact ⟨⟨cs,⟨ro,op,h1.trans e'⟩,q⟩,h2.trans a,b',d,f⟩
theorem Uo.upd {h:FH} {cb o b m:Nat} {L L':List Int} (u:Uo h cb o b m L) (hd:Z2h L' m):Uo (newB h b (ints L')) cb o b m L':=by
 obtain ⟨⟨cs,⟨ro,op,e⟩,q⟩,a,b',d,f⟩:=u;have e':h.f cb=some (.cells ro op cs):=e;exact ⟨⟨cs,⟨ro,op,by show (newB h b (ints L')).f cb=_; rw [Z01,if_neg b']; exact e'⟩,q⟩,by rw [Z01,if_pos rfl],b',hd,f⟩
theorem Z6P (h:FH) (b:Nat) (cs ds:List Value):newB (newB h b cs) b ds=newB h b ds:=by
 apply FH.ext; intro j;rw [Z01,Z01,Z01]
 split <;> rfl
theorem Zb1 {h:FH} {cb o b m:Nat} {L:List Int} (u:Uo h cb o b m L):newB h b (ints L)=h:=by
 apply FH.ext; intro j;rw [Z01]
 split
 · rename_i e; rw [e,u.up]
 · rfl
theorem ZiO (cb o b m c:Nat) (h0:FH) (hcb:cb<256*c) (hb:b<256*c) (df:List Nat):∀ (k i:Nat) (L:List Int),i<k->i<m->Uo (newB h0 b (ints L)) cb o b m L →
 Ans (G (ZbF none) [.pointer (some ⟨cb,o,none⟩),.int .i64 i] (newB h0 b (ints L)) c df) fun r=>∃ L',Z44 L L' m/\r=⟨.exit 0,[.pointer (some ⟨cb,o,none⟩),.int .i64 (Z07 L i)],newB h0 b (ints L'),c,df⟩:=by
 intro k;have op:OkV c (.pointer (some ⟨cb,o,none⟩)):=OkV.ptr hcb
 induction k with
 | zero=>intro i L h1; omega
 | succ k ih =>
  intro i L h1 hi u;have l1:=u.ld;have l2:=u.rd hi;have d:=u.dn.2 i hi;have hl:=u.dn.1;refine Ans.lpG rfl rfl (Z7f ..) ?_;unfold Z64
  by_cases e:L.getD i 0=i
  · rw [Z0W e];rw [e] at l2;obtain ⟨H,hH⟩:=jN (newB h0 b (ints L));rw [hH] at l1 l2 ⊢;have fx:=ai l1 l2;refine Ans.go ?_;clear fx
    (have fx:=op; refine Ans.ex0 ?_; clear fx)
    exact ⟨L,Z44.refl u.dn,by rw [hH]⟩
  · have hs:=ZhI u.dn hi;have hu:=ZmG u.dn hi e;have u':Uo (newB h0 b (ints (Z9y L i))) cb o b m (Z9y L i):=by
     have:=u.upd hs.1;rwa [Z6P] at this
    have hk:=ih (L.getD (L.getD i 0).toNat 0).toNat (Z9y L i) qO qO u';have m1:=u'.ld;have m2:=u'.rd hi;rw [ZcQ u.dn hi,if_pos rfl] at m2;have l3:=u.rd (i:=(L.getD i 0).toNat) qO;have hw:stN (newB h0 b (ints L)) 1 (.pointer (some ⟨b,i,none⟩)) (.int .i64 (L.getD (L.getD i 0).toNat 0))=some (newB h0 b (ints (Z9y L i))):=by
     rw [st1_int _ _ _ _ _ _ (by simp; omega),Z1r]; rfl
    rw [hs.2 _ qO,hu.2.2] at hk;obtain ⟨y,hy⟩:∃ y:Nat,L.getD (L.getD i 0).toNat 0=y:=⟨(L.getD (L.getD i 0).toNat 0).toNat,qO⟩;rw [hy] at hw l3 m2 hk;rw [qE] at hk;obtain ⟨x,hx⟩:∃ x:Nat,L.getD i 0=x:=⟨(L.getD i 0).toNat,qO⟩;rw [hx] at l2 l3 d e;rw [qE] at l3;have e':¬ (x:Int)=i:=e;obtain ⟨H,hH⟩:=jN (newB h0 b (ints L));obtain ⟨H',hH'⟩:=jN (newB h0 b (ints (Z9y L i)));have eB:H'=HeapC.set H b (.cells false none (ints (Z9y L i))):=by
     rw [← hH',← hH];apply FH.ext; intro j;rw [Z01,Z0c,Z01]
     split <;> rfl
    have up:Z0G c H H':=by rw [eB]; exact Z0G.set hb (Z0Q.ints _ _) (Z0G.refl _ _)
    rw [hH] at l1 l2 l3 hw ⊢;rw [hH'] at hw m1 m2 hk;have fx:=ai l1 (ai l2 (ai l3 (ai hw (ai m1 m2))));refine Ans.go ?_;clear fx
    (have fx:=op; refine Ans.nxB (B:=H') ?_ ?_; exact (up); clear fx)
    refine hk.mono ?_
    rintro r ⟨L',s1,rfl⟩
    exact ⟨L',hs.trans s1,rfl⟩
theorem Zea (h:FH) (cb o b m c:Nat) (L:List Int) (u:Uo h cb o b m L) (hcb:cb<256*c) (hb:b<256*c) (i:Nat) (hi:i<m) (df:List Nat) :
 ∃ L',Z44 L L' m/\G (.fn 68) [.pointer (some ⟨cb,o,none⟩),.int .i64 i] h c df=some ⟨.ret,[.int .i64 (Z07 L i)],newB h b (ints L'),c,[]⟩:=by
 have u':Uo (newB h b (ints L)) cb o b m L:=u.upd u.dn;obtain ⟨r,hr,L',s1,rfl⟩:=ZiO cb o b m (c+1) h qO qO [] (i+1) i L qO hi u';rw [Zb1 u] at hr;refine ⟨L',s1, ?_⟩;have hS:ZhT G (.pointer (some ⟨cb,o,none⟩)) (.int .i64 i) h c=some ⟨.ret,[.int .i64 (Z07 L i)],newB h b (ints L'),c+1+1,[]⟩:=by
  refine Ans.eq ?_;unfold ZhT;have fx:=hr;refine Ans.go ?_;clear fx;exact .done rfl
 rw [f68_go hS,ZdK (B:=newB h b (ints L')) ?_ ?_ ?_]
 · exact Z0Q.cons (OkV.int _ _ _) (Z0Q.nil c)
 · exact fun _ _=>rfl
 · exact Z0G.old hb (Z0Q.ints _ _) (Z0G.refl _ _)
theorem ZcN (h:FH) (cb o b m c:Nat) (L:List Int) (u:Uo h cb o b m L) (hcb:cb<256*c) (hb:b<256*c) (i j:Nat) (hi:i<m) (hj:j<m) (df:List Nat) :
 ∃ L',Z44 (Z1k L i j) L' m/\G (.fn 67) [.pointer (some ⟨cb,o,none⟩),.int .i64 i,.int .i64 j] h c df=some ⟨.ret,[.tuple #[]],newB h b (ints L'),c,[]⟩:=by
 obtain ⟨L1,s1,g1⟩:=Zea h cb o b m (c+1) L u qO qO i hi [];have u1:Uo (newB h b (ints L1)) cb o b m L1:=u.upd s1.1;obtain ⟨L2,s2,g2⟩:=Zea (newB h b (ints L1)) cb o b m (c+1) L1 u1 qO qO j hj [];rw [Z6P] at g2;rw [s1.2 j hj] at g2;have s12:=s1.trans s2;have u2:Uo (newB h b (ints L2)) cb o b m L2:=u.upd s2.1;have c1:=Z05 g1;have c2:=Z05 g2;have r1:=Z16 u.dn hi;have r2:=Z16 u.dn hj;have l1:=u2.ld;have e1:(if ((Z07 L i:Nat):Int)<(Z07 L j:Nat) then ((Z07 L j:Nat):Int) else (Z07 L i:Nat))=((max (Z07 L i) (Z07 L j):Nat):Int):=by split <;> omega
 have e2:(if ((Z07 L j:Nat):Int)<(Z07 L i:Nat) then ((Z07 L j:Nat):Int) else (Z07 L i:Nat))=((min (Z07 L i) (Z07 L j):Nat):Int):=by split <;> omega
 have m1:=Zld .i64 (Z07 L i) (Z07 L j);have m2:=Zlb .i64 (Z07 L i) (Z07 L j);rw [e1] at m1;rw [e2] at m2;clear e1 e2;have hl:=s2.1.1;have hj2:Z1k L2 i j=L2.set (max (Z07 L i) (Z07 L j)) (min (Z07 L i) (Z07 L j):Nat):=by
  unfold Z1k;rw [s12.2 i hi,s12.2 j hj]
 have hw:stN (newB h b (ints L2)) 1 (.pointer (some ⟨b,max (Z07 L i) (Z07 L j),none⟩)) (.int .i64 (min (Z07 L i) (Z07 L j):Nat))=some (newB h b (ints (Z1k L2 i j))):=by
  rw [st1_int _ _ _ _ _ _ (by simp; omega),Z1r,hj2]
 refine ⟨Z1k L2 i j,Z44.join u.dn s12 hi hj, ?_⟩;obtain ⟨M,hM⟩:=jN (max (Z07 L i) (Z07 L j));obtain ⟨N,hN⟩:=jN (min (Z07 L i) (Z07 L j));rw [hM] at m1 hw;rw [hN] at m2 hw;obtain ⟨K1,hK1⟩:=jN (newB h b (ints L1));obtain ⟨K2,hK2⟩:=jN (newB h b (ints L2));obtain ⟨K3,hK3⟩:=jN (newB h b (ints (Z1k L2 i j)));rw [hK1] at c1 c2;rw [hK2] at c2 l1 hw;rw [hK3] at hw;have hML:(M:Int)<m:=qO;have hS:ZhU G (.pointer (some ⟨cb,o,none⟩)) (.int .i64 i) (.int .i64 j) h c=some ⟨.ret,[.tuple #[]],K3,c+1+1,[]⟩:=by
  refine Ans.eq ?_;unfold ZhU;have fx:=ai c1 (ai c2 (ai l1 (ai m1 (ai m2 hw))));refine Ans.go ?_;clear fx;exact .done rfl
 rw [hK3,f67_go hS,ZdK (B:=K3) ?_ ?_ ?_]
 · exact Z0Q.cons ⟨.tuple #[],.tuple rfl (fun k x y h=>by simp at h)⟩ (Z0Q.nil c)
 · exact fun _ _=>rfl
 · rw [← hK3]; exact Z0G.old hb (Z0Q.ints _ _) (Z0G.refl _ _)

theorem Zqv (a b:Int):Z1K [(.int .i64 0),(.int .i64 0)] [(0,1,.int .i64 a),(1,1,.int .i64 b)]=some (av [a,b]):=(rfl)
theorem ZnO (a0 a1 b0 b1:Int):Z0O P .eql 106 (av [a0,a1]) (av [b0,b1])=(cond (a0 == b0) (cond (a1 == b1) (some true) (some false)) (some false)).bind fun b=>some (.bool b):=by kernel_rfl
theorem Zk5 (a0 a1 b0 b1:Int):Z00 P .eql 106 (av [a0,a1]) (av [b0,b1])=some (.bool (decide (a0=b0/\a1=b1))):=by
 rw [Z0A,ZnO]
 by_cases h0:a0=b0 <;> by_cases h1:a1=b1 <;> simp [h0,h1,Bool.cond_eq_ite]
theorem Zl1 (h:FH) (c:Nat) (df:List Nat):G (.fn 54) [] h c df=some ⟨.ret,[av edL],h,c,[]⟩:=by
 refine Z0t (fun r e=>f54_go e) (by simp) ?_;unfold ZjN;have z1:Z1K [(.int .i64 0),(.int .i64 0),(.int .i64 0),(.int .i64 0),(.int .i64 0),(.int .i64 0),(.int .i64 0),(.int .i64 0),(.int .i64 0),(.int .i64 0),(.int .i64 0),(.int .i64 0)] [(0,2,av [0,1]),(2,2,av [0,2]),(4,2,av [0,3]),(6,2,av [1,2]),(8,2,av [1,3]),(10,2,av [2,3])]=some (av edL):=rfl;have z2:∀ (H:FH) (b:Nat) (cs:List Value),cs.length=12->stN (newB H b cs) 12 (.pointer (some ⟨b,0,none⟩)) (av edL)=some (newB H b (ints edL)):=fun H b cs hc=>stN_all H b 12 cs edL rfl hc
 have z3:∀ (H:FH) (b:Nat),ldN (newB H b (ints edL)) 12 (.pointer (some ⟨b,0,none⟩))=some (av edL):=fun H b=>by rw [ldN_newB_same _ _ _ _ _ (by simp [edL])]; rfl
 have fx:=ai Zqv (ai z1 (ai z2 z3));refine Ans.go ?_;clear fx
 (have fx:=True.intro; exact Ans.pu)
theorem Z6z (h:FH) (c:Nat):callF G 54 [] h c=some (av edL,h,c):=Z05 (Zl1 h c [])
theorem Zk9 {m:Nat} (hm:m<6):(edL.drop (m*2)).take 2=[edL.getD (2*m) 0,edL.getD (2*m+1) 0]:=by
 have:m=0 ∨ m=1 ∨ m=2 ∨ m=3 ∨ m=4 ∨ m=5:=qO;rcases this with rfl | rfl | rfl | rfl | rfl | rfl <;> rfl
theorem Zk8 (i j:Int) (z:Value) (h:FH) (c:Nat) (df:List Nat) (hz:OkV c z) :
 ∀ (k m:Nat),m+k=6->Ans (G (Zc9 none) [.int .i64 i,.int .i64 j,z,av edL,.int .i64 m] h c df) fun r=>r.h=h/\r.c=c/\r.df=df ∧
  ((r.e = .exit 0/\edI i j k m = -1) ∨ (r.e = .ret/\r.v 2 = .int .i64 (edI i j k m))):=by
 intro k;have o1:OkV c (av edL):=OkV.av _ _
 induction k with
 | zero =>
  intro m hm;obtain rfl:m=6:=qO;refine Ans.lpG rfl rfl (Z5o ..) ?_;unfold Z4H;have fx:=True.intro;refine Ans.go ?_;clear fx
  (have fx:=ai o1 hz; refine Ans.ex0 ?_; clear fx)
  exact ⟨rfl,rfl,rfl,.inl ⟨rfl,rfl⟩⟩
 | succ k ih =>
  intro m hm;have x1:=Z2p edL 6 2 .i64 (m:Int) qO qO rfl;rw [qE,Zk9 qO] at x1;have hm6:(m:Int)<6:=qO;rw [edI];obtain ⟨A,hA⟩:=jN (edL.getD (2*m) 0);obtain ⟨B,hB⟩:=jN (edL.getD (2*m+1) 0);rw [hA,hB] at x1 ⊢;have hst:∀ b,stN (newB h b [.int .i64 0,.int .i64 0]) 2 (.pointer (some ⟨b,0,none⟩)) (av [A,B])=some (newB h b (ints [A,B])):=fun b=>stN_all _ _ 2 _ _ rfl rfl
  have hld:∀ b,ldN (newB h b (ints [A,B])) 2 (.pointer (some ⟨b,0,none⟩))=some (av [A,B]):=fun b=>by rw [ldN_newB_same _ _ _ _ _ (by simp)]; rfl
  have e1:=Zk5 A B i j;have e2:=Zk5 A B j i;have b1:=Zqv i j;have b2:=Zqv j i;refine Ans.lpG rfl rfl (Z5o ..) ?_;unfold Z4H
  by_cases q1:A=i/\B=j
  · have q:ZmC A B i j=true:=by simp [ZmC,q1]
    rw [decide_eq_true q1] at e1;rw [q,if_pos rfl];have fx:=ai x1 (ai hst (ai hld (ai e1 b1)));refine Ans.go ?_;clear fx
    (have fx:=ai o1 hz; refine Ans.rt0 ?_; clear fx)
    exact ⟨rfl,rfl,rfl,.inr ⟨rfl,rfl⟩⟩
  · rw [decide_eq_false q1] at e1
    by_cases q2:A=j/\B=i
    · have q:ZmC A B i j=true:=by simp [ZmC,q2]
      rw [decide_eq_true q2] at e2;rw [q,if_pos rfl];have fx:=ai x1 (ai hst (ai hld (ai e1 (ai b1 (ai e2 b2)))));refine Ans.go ?_;clear fx
      (have fx:=ai o1 hz; refine Ans.rt0 ?_; clear fx)
      exact ⟨rfl,rfl,rfl,.inr ⟨rfl,rfl⟩⟩
    · have q:ZmC A B i j=false:=by rw [ZmC,decide_eq_false q1,decide_eq_false q2]; rfl
      rw [decide_eq_false q2] at e2;rw [q,if_neg (by simp)];have fx:=ai x1 (ai hst (ai hld (ai e1 (ai b1 (ai e2 b2)))));refine Ans.go ?_;clear fx
      (have fx:=ai o1 hz; refine Ans.nx0 ?_; clear fx)
      exact ih (m+1) qO
theorem Zqg (i j:Int) (h:FH) (c:Nat) (df:List Nat):G (.fn 27) [.int .i64 i,.int .i64 j] h c df=some ⟨.ret,[.int .i64 (edN i j)],h,c,[]⟩:=by
 refine Z0t (fun r e=>f27_go e) (by simp) ?_;unfold ZjY;have c1:=Z6z h;obtain ⟨⟨re,rv,rh,rc,rd⟩,hr,r1,r2,r3,r4⟩:=Zk8 i j (.int .i64 0) h (c+1+1) [] (by simp) 6 0 qO;simp only at r1 r2 r3 r4;subst r1 r2 r3;simp only [qC,qF] at hr;rcases r4 with ⟨rfl,r5⟩ | ⟨rfl,r5⟩
 · have fx:=ai c1 hr;refine Ans.go ?_;clear fx;exact Ans.pure (by rw [edN,r5]) (Z0l.refl _ _)
 · have fx:=ai c1 hr;refine Ans.go ?_;clear fx;exact Ans.pure r5 (Z0l.refl _ _)
theorem Z9d (i j:Int) (h:FH) (c:Nat):callF G 27 [.int .i64 i,.int .i64 j] h c=some (.int .i64 (edN i j),h,c):=Z05 (Zqg i j h c [])
theorem OkV.tup2 (c:Nat) (k k':IntKind) (a b:Int):OkV c (.tuple #[.int k a,.int k' b]):=by
 refine ⟨.tuple #[.int k a,.int k' b],.tuple rfl (fun i x y hx hy=>?_)⟩
 match i,hx,hy with
 | 0,hx,hy=>cases hx; cases hy; exact .int _ _
 | 1,hx,hy=>cases hx; cases hy; exact .int _ _
 | i+2,hx,hy=>simp at hx
theorem Zqf (e:Int) (h:FH) (c:Nat) (df:List Nat):G (.fn 25) [.int .i64 e] h c df=some ⟨.ret,[.tuple #[.int .i64 (if 0<=e/\e<6 then edA e else -1),.int .i64 (if 0<=e/\e<6 then edB e else -1)]],h,c,[]⟩:=by
 refine Z0t (fun r e=>f25_go e) (OkV.tup2 _ _ _ _ _) ?_;unfold Zq8
 by_cases h0:0<=e/\e<6
 · rw [if_pos h0,if_pos h0];have c1:=Z6z h;have x1:=Z2p edL 6 2 .i64 e qO qO rfl;obtain ⟨X,hX⟩:=jN ((edL.drop (e.toNat*2)).take 2);have hl:X.length=2:=by rw [← hX]; simp [edL]; omega
   have eA:X.getD 0 0=edA e:=by rw [← hX]; rfl
   have eB:X.getD 1 0=edB e:=by rw [← hX]; rfl
   rw [hX] at x1;have hst:∀ b,stN (newB h b [.int .i64 0,.int .i64 0]) 2 (.pointer (some ⟨b,0,none⟩)) (av X)=some (newB h b (ints X)):=fun b=>stN_all _ _ 2 _ _ hl rfl
   have b0:∀ b,ld1 (newB h b (ints X)) (.pointer (some ⟨b,0,none⟩))=some (.int .i64 (edA e)):=fun b=>by rw [ld1_newB_same,ints_getD _ _ qO,eA]
   have b1:∀ b,ld1 (newB h b (ints X)) (.pointer (some ⟨b,1,none⟩))=some (.int .i64 (edB e)):=fun b=>by rw [ld1_newB_same,ints_getD _ _ qO,eB]
   have q1:=h0.1;have q2:=h0.2
   repeat' (first | ((with_reducible first | refine Ans.bz ?_ | refine Ans.r1 ?_ | refine Ans.pkT ?_ | refine Ans.pkF ?_); try dsimp only [v_zero,v_succ]) | (with_reducible first | refine Ans.btL ?_ | refine Ans.bfL ?_ | refine Ans.gyT ?_ | refine Ans.gyF ?_ | refine Ans.gyG ?_ | refine Ans.bb ?_ | refine Ans.bc ?_ | refine Ans.ba ?_) | ((with_reducible first | refine Ans.lsT ?_ ?_ | refine Ans.leT ?_ ?_ | refine Ans.grT ?_ ?_ | refine Ans.geT ?_ ?_ | refine Ans.eqT ?_ ?_ | refine Ans.neT ?_ ?_); (focus omega)) | ((with_reducible first | refine Ans.lsF ?_ ?_ | refine Ans.leF ?_ ?_ | refine Ans.grF ?_ ?_ | refine Ans.geF ?_ ?_ | refine Ans.eqF ?_ ?_ | refine Ans.neF ?_ ?_); (focus omega)) | (with_reducible first | refine Ans.lsS (fun _=>?_) (fun _=>?_) | refine Ans.leS (fun _=>?_) (fun _=>?_) | refine Ans.grS (fun _=>?_) (fun _=>?_) | refine Ans.geS (fun _=>?_) (fun _=>?_) | refine Ans.eqS (fun _=>?_) (fun _=>?_) | refine Ans.neS (fun _=>?_) (fun _=>?_)) | ((with_reducible first | refine Ans.addN ?_ ?_ | refine Ans.add ?_ ?_ | refine Ans.sub ?_ ?_ | refine Ans.mul ?_ ?_); (focus omega)) | ((with_reducible first | refine Ans.ct ?_ ?_); (focus (simp (disch:=(first | omega | with_reducible assumption | (simp <;> omega) | fail)) [c1,x1,hst,b0,b1,-ld1_newB_same]; done))) | ((with_reducible first | refine Ans.cf ?_ ?_); (focus (simp (disch:=(first | omega | with_reducible assumption | (simp <;> omega) | fail)) [c1,x1,hst,b0,b1,-ld1_newB_same]; done))) | (refine Ans.step (by simp (disch:=(first | omega | with_reducible assumption | (simp <;> omega) | fail)) [c1,x1,hst,b0,b1,-ld1_newB_same,-List.getD_eq_getElem?_getD] <;> rfl) ?_; try dsimp only [v_zero,v_succ]) | fail)
   (have fx:=True.intro; exact Ans.pu)
 · rw [if_neg h0,if_neg h0]
   by_cases q1:e<0
   · have fx:=True.intro;refine Ans.go ?_;clear fx
     (have fx:=True.intro; exact Ans.pu)
   · have q2:5<e:=qO;have fx:=True.intro;refine Ans.go ?_;clear fx
     (have fx:=True.intro; exact Ans.pu)
end Go.Proofs.Ytdodippbpdechaa
