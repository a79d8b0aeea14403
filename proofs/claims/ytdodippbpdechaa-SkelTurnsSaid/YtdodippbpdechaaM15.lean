/- Parts of a proof: C2 C3 C4 K3 K4. Conditions: none. -/
import Derived.Test.YtdodippbpdechaaM14
import Derived.Test.YtdodippbpdechaaM7
set_option linter.all false
set_option maxRecDepth 100000
namespace Go.Proofs.Ytdodippbpdechaa
open Go Go.Ab Go.Proofs
theorem Zlc (a0 a1 a2 a3 a4 b0 b1 b2 b3 b4:Int):Z0F P .eql 44 (av [a0,a1,a2,a3,a4]) (av [b0,b1,b2,b3,b4]) =
 (cond (a0 == b0) ((cond (a1 == b1) (cond (a2 == b2) (cond (a3 == b3) (cond (a4 == b4) (some true) (some false)) (some false)) (some false)) (some false)).bind fun r=>cond r (some true) (some false)) (some false)).bind fun b=>some (.bool b):=by kernel_rfl
theorem Z48 (x y:List Int) (hx:x.length=5) (hy:y.length=5):Z00 P .eql 44 (av x) (av y)=some (.bool (decide (x=y))):=by
 match x,hx,y,hy with
 | [a0,a1,a2,a3,a4],_,[b0,b1,b2,b3,b4],_ =>
  rw [Z0o,Zlc]
  by_cases h0:a0=b0 <;> by_cases h1:a1=b1 <;> by_cases h2:a2=b2 <;> by_cases h3:a3=b3 <;> by_cases h4:a4=b4 <;> simp [h0,h1,h2,h3,h4,Bool.cond_eq_ite]
theorem Z5A (x y:List Int) (hx:x.length=5) (hy:y.length=5):Z00 P .neq 44 (av x) (av y)=some (.bool (!decide (x=y))):=by
 have h:=Z48 x y hx hy
 rw [Z0o] at h ⊢
 have e1:Z0F P .eql 44 (av x) (av y)=cond (Z6a P 44 (av x)) ((aEq P Z13 44 (av x) (av y)).bind fun b=>some (.bool b)) none:=rfl
 have e2:Z0F P .neq 44 (av x) (av y)=cond (Z6a P 44 (av x)) ((aEq P Z13 44 (av x) (av y)).bind fun b=>some (.bool (!b))) none:=rfl
 rw [e1] at h
 rw [e2]
 cases hg:Z6a P 44 (av x) with
 | false=>rw [hg] at h; cases h
 | true =>
  rw [hg] at h
  simp only [cond_true] at h ⊢
  cases hq:aEq P Z13 44 (av x) (av y) with
  | none=>rw [hq] at h; cases h
  | some b=>rw [hq] at h; simp only [Option.bind_some,Option.some.injEq,Value.bool.injEq] at h ⊢; rw [h]
structure FacesI (y:Value) (s:Value) (n:Nat) (Gl:List Int) (gb:Nat) (I:Nat->FH->Nat->Prop) (J:FH->Nat->Prop):Prop where
 stab:∀ k h c h' c',I k h c->c<=c'->Z0s c h h'->I k h' c'
 jstab:∀ h c h' c',J h c->c<=c'->Z0s c h h'->J h' c'
 read:∀ k h c,I k h c->Z0f h gb [s]/\SlI h c s 20 n Gl
 step:∀ t f h c,t<n->f<4->I (4*t+f) h c →
  Ans (Z3V G h c y [av [(t:Int),(f:Int)],av (Z03 Gl t f)]) (fun q=>c<=q.2.2/\((q.1 = .bool true/\I (4*t+f+1) q.2.1 q.2.2) ∨ (q.1 = .bool false/\J q.2.1 q.2.2)))
theorem Zky {y s:Value} {n:Nat} {Gl:List Int} {gb:Nat} {I:Nat->FH->Nat->Prop} {J:FH->Nat->Prop} (hI:FacesI y s n Gl gb I J) (hG:Gl.length=n*20) (t:Nat) (ht:t<n) (df:List Nat) :
 ∀ (k f:Nat) (h:FH) (c:Nat),f+k=4->I (4*t+f) h c →
 Ans (G (Z4h none) [y,ptrTo gb,.int .i64 t,.int .i64 n,.int .i64 t,av (Z66 Gl t),.int .i64 f] h c df) fun r=>c<=r.c/\r.df=df ∧
  ((r.e = .exit 2/\r.vs=[y,ptrTo gb,.int .i64 t,.int .i64 n,.int .i64 t,av (Z66 Gl t),.int .i64 4]/\I (4*t+4) r.h r.c) ∨ (r.e = .ret/\r.vs.length=7/\J r.h r.c)):=by
 intro k
 induction k with
 | zero =>
  intro f h c hf hi
  obtain rfl:f=4:=by omega
  refine .intro (Z9K (q:=⟨.exit 2,_,h,c+1,df⟩) (by unfold Z1R; simp; rfl) (by simp)) ?_
  exact ⟨by simp,rfl,.inl ⟨rfl,rfl,hI.stab _ _ _ _ _ hi (by simp) (Z0s.refl _ _)⟩⟩
 | succ k ih =>
  intro f h c hf hi
  have hf4:f<4:=by omega
  have e0:(f:Int)<4:=by omega
  have hl:=Z0j hG ht hf4
  have hrl:=Z4H hG ht
  have hb:∀ cs,Z0s c h (newB h (256*(c+1)+2) cs):=fun cs=>(Z0s.refl _ _).newB qO
  obtain ⟨q,hq,hcq,hcase⟩:=hI.step t f (newB h (256*(c+1)+2) (ints (Z03 Gl t f))) (c+1+1+1) ht hf4 (hI.stab _ _ _ _ _ hi qO (hb _))
  have e1:(Z03 Gl t f).take 5=Z03 Gl t f:=List.take_of_length_le qO
  have body:Z1R G none y (ptrTo gb) (.int .i64 t) (.int .i64 n) (.int .i64 t) (av (Z66 Gl t)) (.int .i64 f) h c df =
   (Z1X .not q.1).bind fun t27=>Z08 t27 (some ⟨.ret,[y,ptrTo gb,.int .i64 t,.int .i64 n,.int .i64 t,av (Z66 Gl t),.int .i64 f],q.2.1,q.2.2,df⟩)
    (some ⟨.normal,[y,ptrTo gb,.int .i64 t,.int .i64 n,.int .i64 t,av (Z66 Gl t),.int .i64 (f+1:Nat)],q.2.1,q.2.2+1,df⟩):=by
   unfold Z1R
   simp (disch:=(first | omega | (simp <;> omega) | fail)) [e0,Z8F,hrl,Zaz hf4,hl,e1,ZnL,hq]
  rcases hcase with ⟨hv,hi2⟩ | ⟨hv,hj⟩
  · rw [hv] at body
    simp only [aUnOp_not,Option.bind_some,boolK_bool,Bool.not_true,cond_false] at body
    refine (ih (f+1) q.2.1 (q.2.2+1) qO (hI.stab _ _ _ _ _ hi2 qO (Z0s.refl _ _))).elim fun r ⟨hr,h1,h2⟩=>?_
    exact .intro (Zfo body rfl hr) ⟨by omega,h2⟩
  · rw [hv] at body
    simp only [aUnOp_not,Option.bind_some,boolK_bool,Bool.not_false,cond_true] at body
    exact .intro (Z9K body (by simp)) ⟨by simp; omega,rfl,.inr ⟨rfl,rfl,hj⟩⟩
theorem Zhq {y s:Value} {n:Nat} {Gl:List Int} {gb:Nat} {I:Nat->FH->Nat->Prop} {J:FH->Nat->Prop} (hI:FacesI y s n Gl gb I J) (hG:Gl.length=n*20) (hn:n<=9223372036854775807) (df:List Nat) :
 ∀ (k t:Nat) (h:FH) (c:Nat),t+k=n->I (4*t) h c →
 Ans (G (Z4i none) [y,ptrTo gb,.int .i64 n,.int .i64 t] h c df) fun r=>c<=r.c/\r.df=df ∧
  ((r.e = .exit 0/\I (4*n) r.h r.c) ∨ (r.e = .ret/\J r.h r.c)):=by
 intro k
 induction k with
 | zero =>
  intro t h c ht hi
  obtain rfl:t=n:=by omega
  refine .intro (Z9L (q:=⟨.exit 0,_,h,c+1,df⟩) (by unfold Z1S; simp; rfl) (by simp)) ?_
  exact ⟨by simp,rfl,.inl ⟨rfl,hI.stab _ _ _ _ _ hi (by simp) (Z0s.refl _ _)⟩⟩
 | succ k ih =>
  intro t h c ht hi
  have htn:t<n:=by omega
  have e0:(t:Int)<n:=by omega
  obtain ⟨hgb,hs⟩:=hI.read _ _ _ hi
  obtain ⟨b,o,cs,e1,hb,hh,hw⟩:=hs.ix .i64 t qO e0
  have e2:ld1 h (.pointer (some ⟨gb,0,none⟩))=some s:=by rw [Z02 hgb]; rfl
  have e3:ldN h 20 (.pointer (some ⟨b,o+t*20,none⟩))=some (av (Z66 Gl t)):=by
   have:=ZaH hh hw (j:=t*20) (q:=20) qO qO
   rw [this]; unfold Z66; rw [Nat.mul_comm]
  simp only [Int.toNat_natCast] at e1
  obtain ⟨r,hr,hcr,hdf,hcase⟩:=Zky hI hG t htn df 4 0 h (c+1+1+1) rfl (hI.stab _ _ _ _ _ hi qO (Z0s.refl _ _))
  have body:Z1S G none y (ptrTo gb) (.int .i64 n) (.int .i64 t) h c df =
   cond (Z0u r.e (.exit 2)) ((Z00 P .add 3 (r.v 4) (.int .i64 1)).bind fun t29=>some ⟨.normal,[(r.v 0),(r.v 1),(r.v 3),t29],r.h,(r.c+1),r.df⟩)
    (cond (Z0u r.e .ret) (some ⟨.ret,[(r.v 0),(r.v 1),(r.v 3),(r.v 4)],r.h,r.c,r.df⟩) none):=by
   unfold Z1S
   simp only [Int.ofNat_eq_natCast,Int.cast_ofNat_Int] at hr
   simp (disch:=(first | omega | (simp <;> omega) | fail)) [e0,e2,e1,e3,hr]
  obtain ⟨re,rv,rh,rc,rd⟩:=r
  simp only at hcase hcr hdf
  subst hdf
  rcases hcase with ⟨rfl,rfl,hi2⟩ | ⟨rfl,hl,hj⟩
  · simp (disch:=omega) at body
    refine (ih (t+1) rh (rc+1) qO (hI.stab _ _ _ _ _ hi2 qO (Z0s.refl _ _))).elim fun r ⟨hr2,h1,h2⟩=>?_
    exact .intro (Zfp body rfl (by simpa using hr2)) ⟨by omega,h2⟩
  · simp at body
    exact .intro (Z9L body (by simp)) ⟨by simp; omega,rfl,.inr ⟨rfl,hj⟩⟩
theorem Zkx {y s:Value} {n:Nat} {Gl:List Int} {gb:Nat} {I:Nat->FH->Nat->Prop} {J:FH->Nat->Prop} (hI:FacesI y s n Gl gb I J) {h:FH} {c:Nat} (hi:I 0 h c) (df:List Nat) :
 Ans (G (.fn 85) [y,ptrTo gb] h c df) fun r=>r.e = .ret/\r.vs=[.tuple #[]]/\r.df=[]/\c<=r.c/\(I (4*n) r.h r.c ∨ J r.h r.c):=by
 obtain ⟨hgb,hs⟩:=hI.read _ _ _ hi
 obtain ⟨r,hr,hcr,hdf,hcase⟩:=Zhq hI hs.1 hs.2.1 [] n 0 h (c+1) qO (hI.stab _ _ _ _ _ hi qO (Z0s.refl _ _))
 have e2:ld1 h (.pointer (some ⟨gb,0,none⟩))=some s:=by rw [Z02 hgb]; rfl
 obtain ⟨re,rv,rh,rc,rd⟩:=r
 simp only at hcase hcr hdf
 subst hdf
 simp only [Int.ofNat_eq_natCast,Int.cast_ofNat_Int] at hr
 rcases hcase with ⟨rfl,hi2⟩ | ⟨rfl,hj⟩
 · refine .intro (ZlQ (r:=⟨.ret,[.tuple #[]],rh,rc,[]⟩) (by unfold Zfn; simp [e2,hs.len,hr])) ?_
   exact ⟨rfl,rfl,rfl,by simp; omega,.inl hi2⟩
 · refine .intro (ZlQ (r:=⟨.ret,[.tuple #[]],rh,rc,[]⟩) (by unfold Zfn; simp [e2,hs.len,hr])) ?_
   exact ⟨rfl,rfl,rfl,by simp; omega,.inr hj⟩

theorem Z16 (p:List Int) (hp:p.length=4) (h:FH) (c:Nat):callF G 56 [av p] h c=some (.bool (Z0N p),h,c):=Z0c (Zin p hp h c [])
theorem Z2R (p:List Int) (hp:p.length=4) (hr:InR p) (h:FH) (c:Nat):callF G 64 [av p] h c=some (av (inv p),h,c):=Z0c (Zfi p hp hr h c [])
theorem Zi3 (s:Value) (n:Nat) (Gl:List Int) (gb rb nb l c0 c:Nat) (st:ALoop) (h:FH) (hc:c0<=c) (t f:Nat) (ht:t<n) (hf:f<4)
 (hgb:gb<256*c0) (hrb:rb<256*c0) (hnb:nb<256*c0) (hl:l<256*c0) (hlr:l ≠ rb) (hlg:l ≠ gb) (hln:l ≠ nb)
 (h1:Z0f h gb [s]) (h2:SlI h c0 s 20 n Gl) (h3:Z0f h nb (ints Z6X)) (h4:HeapC.get h rb=some (.cells false none [.int .i64 0])) (h5:HeapC.get h l=some (.loop st)) (h6:st.state = .ready) :
 Ans (Z3z G l (av [(t:Int),(f:Int)]) (av (Z03 Gl t f)) (ptrTo gb) (ptrTo rb) (ptrTo nb) h c) fun r=>c<=r.c/\r.e = .ret/\r.df=[]/\r.vs=[.bool (Z0n Gl n t f)] ∧
  r.h.f l=some (.loop { st with state:=if Z0n Gl n t f then .ready else .done,pending:=if Z0n Gl n t f then none else some .ret }) ∧
  (∀ i,i<256*c->i ≠ l->r.h.f i=if i=rb/\Z0n Gl n t f=false then some (.cells false none [.int .i64 7]) else h.f i):=by
 have hx:=Z0j h2.1 ht hf
 have hp:=Z0X hx
 have ht5:(Z03 Gl t f).take 5=Z03 Gl t f:=List.take_of_length_le qO
 have hnl:Z6X.length=5:=rfl
 obtain ⟨H,hH⟩:∃ H,H=HeapC.set (newB (newB h (256*c) (ints [(t:Int),(f:Int)])) (256*(c+1)) (ints (Z03 Gl t f))) l (.loop { st with state:=.busy }):=⟨_,rfl⟩
 have hb:Z27 (newB (newB h (256*c) (ints [(t:Int),(f:Int)])) (256*(c+1)) (ints (Z03 Gl t f))) l=some H:=by
  rw [hH]
  exact Zal (by rw [get_newB_ne _ _ _ _ qO,get_newB_ne _ _ _ _ qO]; exact h5) h6
 have r0:∀ j,j<256*c->j ≠ l->H.f j=h.f j:=by
  intro j hj hne
  rw [hH,Z0b,if_neg hne,Z01,if_neg qO,Z01,if_neg qO]
 have hol:∀ b cs,b<256*c0->Z0f h b cs->Z0f H b cs:=by
  intro b cs hb ⟨ro,op,e⟩
  have hne:b ≠ l:=by
   rintro rfl
   rw [h5] at e; cases e
  exact ⟨ro,op,(r0 b qO hne).trans e⟩
 have hA:Z0f H (256*c) (ints [(t:Int),(f:Int)]):=by
  rw [hH]
  exact (((Z0f.newB_same h _ _).newB_ne qO).set_ne qO)
 have hB:Z0f H (256*(c+1)) (ints (Z03 Gl t f)):=by
  rw [hH]
  exact ((Z0f.newB_same _ _ _).set_ne qO)
 have a0:ld1 H (.pointer (some ⟨256*c,0,none⟩))=some (.int .i64 t):=by rw [Z02 hA]; rfl
 have a1:ld1 H (.pointer (some ⟨256*c,1,none⟩))=some (.int .i64 f):=by rw [Z02 hA]; rfl
 have b0:ldN H 5 (.pointer (some ⟨256*(c+1),0,none⟩))=some (av (Z03 Gl t f)):=by
  rw [ldN_holds hB (by simp [hx])]; simp [ht5]
 have b1:ld1 H (.pointer (some ⟨256*(c+1),0,none⟩))=some (.int .i64 (Z0x (Z03 Gl t f))):=by
  rw [Z02 hB,Z4K,List.getElem?_eq_getElem qO]
  simp [Z0x,List.getD,List.getElem?_eq_getElem (by omega:0<(Z03 Gl t f).length)]
 have b2:ldN H 4 (.pointer (some ⟨256*(c+1),1,none⟩))=some (av (Z0d (Z03 Gl t f))):=by
  rw [ldN_holds hB (by simp [hx])]; rw [Z1a,Z0G]; rfl
 have b3:ld1 H (.pointer (some ⟨256*(c+1),1+f,none⟩))=some (.int .i64 ((Z0d (Z03 Gl t f)).getD f 0)):=by
  have hlt:1+f<(Z03 Gl t f).length:=by omega
  rw [Z02 hB,Z4K,List.getElem?_eq_getElem hlt]
  unfold Z0d
  rw [Z3T _ _ _ hf,Z2y]
  simp [List.getD,List.getElem?_eq_getElem hlt]
 have e1:ldN H 5 (.pointer (some ⟨nb,0,none⟩))=some (av Z6X):=by
  rw [ldN_holds (hol nb _ hnb h3) (by simp [Z6X])]; rfl
 have e2:ld1 H (.pointer (some ⟨gb,0,none⟩))=some s:=by rw [Z02 (hol gb _ hgb h1)]; rfl
 have e3:=h2.len
 have endT:∀ c',c<=c'->Z0n Gl n t f=true->Ans ((Z0t H l .ready none).bind fun h37=>some (⟨.ret,[.bool true],h37,c',[]⟩:Rt FH)) fun r=>c<=r.c/\r.e = .ret/\r.df=[]/\r.vs=[.bool (Z0n Gl n t f)] ∧
  r.h.f l=some (.loop { st with state:=if Z0n Gl n t f then .ready else .done,pending:=if Z0n Gl n t f then none else some .ret }) ∧
  (∀ i,i<256*c->i ≠ l->r.h.f i=if i=rb/\Z0n Gl n t f=false then some (.cells false none [.int .i64 7]) else h.f i):=by
  intro c' hc' ok
  rw [ok,hH,setState_set]
  simp only [Option.bind_some,Ans_some,if_true,Bool.true_eq_false,and_false,if_false]
  refine ⟨hc',trivial,trivial,trivial,by rw [Z0b,if_pos rfl],fun i hi hne=>?_⟩
  rw [Z0b,if_neg hne,Z01,if_neg qO,Z01,if_neg qO]
 have endF:∀ c',c<=c'->Z0n Gl n t f=false -> ∃ H',stN H 1 (.pointer (some ⟨rb,0,none⟩)) (.int .i64 7)=some H'/\Ans ((Z0t H' l .done (some .ret)).bind fun h36=>some (⟨.ret,[.bool false],h36,c',[]⟩:Rt FH)) fun r=>c<=r.c/\r.e = .ret/\r.df=[]/\r.vs=[.bool (Z0n Gl n t f)] ∧
  r.h.f l=some (.loop { st with state:=if Z0n Gl n t f then .ready else .done,pending:=if Z0n Gl n t f then none else some .ret }) ∧
  (∀ i,i<256*c->i ≠ l->r.h.f i=if i=rb/\Z0n Gl n t f=false then some (.cells false none [.int .i64 7]) else h.f i):=by
  intro c' hc' ok
  have hg:HeapC.get H rb=some (.cells false none [.int .i64 0]):=(r0 rb qO (Ne.symm hlr)).trans h4
  refine ⟨_,Z11 (cs:=[.int .i64 0]) hg (by simp) rfl rfl, ?_⟩
  rw [ok,setState_set_ne _ _ _ _ _ _ hlr,hH,setState_set]
  simp only [Option.map_some,Option.bind_some,Ans_some,Bool.false_eq_true,if_false,and_true]
  refine ⟨hc',trivial,trivial,trivial,by rw [Z0b,if_neg hlr,Z0b,if_pos rfl],fun i hi hne=>?_⟩
  rw [Z0b]
  split
  · rfl
  · rw [Z0b,if_neg hne,Z01,if_neg qO,Z01,if_neg qO]
 clear hH
 have hface:∀ u j:Int,0<=u->u<n->0<=j->j<4 -> ∃ b o,ixS 20 s (.int .i64 u)=some (.pointer (some ⟨b,o+u.toNat*20,none⟩))/\ldN H 5 (.pointer (some ⟨b,o+u.toNat*20+j.toNat*5,none⟩))=some (av (Z03 Gl u.toNat j.toNat)):=by
  intro u j u1 u2 j1 j2
  obtain ⟨b,o,cs,x1,x2,x3,x4⟩:=h2.ix .i64 u u1 u2
  refine ⟨b,o,x1, ?_⟩
  have:=h2.1
  rw [Nat.add_assoc,ZaH (hol b cs x2 x3) x4 (j:=u.toNat*20+j.toNat*5) (q:=5) qO qO]
  unfold Z03
  rw [Nat.mul_comm 20,Nat.mul_comm 5]
 unfold Z3z
 rw [stN_ptrTo,Nat.add_zero,stN_all _ _ 2 _ [(t:Int),(f:Int)] rfl rfl]
 simp only [Option.bind_some]
 rw [stN_ptrTo,Nat.add_zero,stN_all _ _ 5 _ _ hx rfl]
 simp only [Option.bind_some,hb]
 by_cases q1:Z03 Gl t f=Z6X
 · have ok:Z0n Gl n t f=true:=by simp [Z0n,q1]
   refine Ans.step (v:=(⟨.normal,[],H,c+1+1+1,[]⟩:Rt FH)) ?_ (endT (c+1+1+1) qO ok)
   apply Ans.eq
   repeat (first | (with_reducible refine Ans.bt ?_ ?_; exact rfl) | (with_reducible refine Ans.bf ?_ ?_; exact rfl) | (with_reducible refine Ans.ct ?_ ?_; focus (simp; done)) | (with_reducible refine Ans.cf ?_ ?_; focus (simp; done)) | refine Ans.step (by (simp (disch:=(first | omega | (simp <;> omega) | fail)) [b0,e1,Z48,hx,hnl,q1,-List.getD_eq_getElem?_getD]) <;> rfl) ?_)
   exact Ans.done rfl
 · by_cases q2:Z0x (Z03 Gl t f)<0
   · have ok:Z0n Gl n t f=false:=by
      have:¬ (0<=Z0x (Z03 Gl t f)):=by omega
      simp [Z0n,q1,this]
     obtain ⟨H',x1,x2⟩:=endF (c+1+1+1+1+1) qO ok
     refine Ans.step (v:=(⟨.ret,[],H',c+1+1+1+1+1,[]⟩:Rt FH)) ?_ x2
     apply Ans.eq
     repeat (first | (with_reducible refine Ans.bt ?_ ?_; exact rfl) | (with_reducible refine Ans.bf ?_ ?_; exact rfl) | (with_reducible refine Ans.ct ?_ ?_; focus (simp; done)) | (with_reducible refine Ans.cf ?_ ?_; focus (simp; done)) | refine Ans.step (by (simp (disch:=(first | omega | (simp <;> omega) | fail)) [b0,b1,e1,Z48,hx,hnl,q1,q2,x1,-List.getD_eq_getElem?_getD]) <;> rfl) ?_)
     exact Ans.done rfl
   · by_cases q3:(n:Int)<=Z0x (Z03 Gl t f)
     · have ok:Z0n Gl n t f=false:=by
        have:¬ (Z0x (Z03 Gl t f)<n):=by omega
        simp [Z0n,q1,this]
       obtain ⟨H',x1,x2⟩:=endF (c+1+1+1+1+1) qO ok
       refine Ans.step (v:=(⟨.ret,[],H',c+1+1+1+1+1,[]⟩:Rt FH)) ?_ x2
       apply Ans.eq
       repeat (first | (with_reducible refine Ans.bt ?_ ?_; exact rfl) | (with_reducible refine Ans.bf ?_ ?_; exact rfl) | (with_reducible refine Ans.ct ?_ ?_; focus (simp; done)) | (with_reducible refine Ans.cf ?_ ?_; focus (simp; done)) | refine Ans.step (by (simp (disch:=(first | omega | (simp <;> omega) | fail)) [b0,b1,e1,e2,e3,Z48,hx,hnl,q1,q2,q3,x1,-List.getD_eq_getElem?_getD]) <;> rfl) ?_)
       exact Ans.done rfl
     · cases q4:Z0N (Z0d (Z03 Gl t f)) with
       | false =>
        have ok:Z0n Gl n t f=false:=by simp [Z0n,q1,q4]
        obtain ⟨H',x1,x2⟩:=endF (c+1+1+1+1+1) qO ok
        refine Ans.step (v:=(⟨.ret,[],H',c+1+1+1+1+1,[]⟩:Rt FH)) ?_ x2
        apply Ans.eq
        repeat (first | (with_reducible refine Ans.bt ?_ ?_; exact rfl) | (with_reducible refine Ans.bf ?_ ?_; exact rfl) | (with_reducible refine Ans.ct ?_ ?_; focus (simp; done)) | (with_reducible refine Ans.cf ?_ ?_; focus (simp; done)) | refine Ans.step (by (simp (disch:=(first | omega | (simp <;> omega) | fail)) [b0,b1,b2,e1,e2,e3,Z48,hx,hnl,q1,q2,q3,q4,x1,Z16,hp,-List.getD_eq_getElem?_getD]) <;> rfl) ?_)
        exact Ans.done rfl
       | true =>
        have hr:=Z2v q4
        have hpr:0<=(Z0d (Z03 Gl t f)).getD f 0/\(Z0d (Z03 Gl t f)).getD f 0<4:=by
         have hlt:f<(Z0d (Z03 Gl t f)).length:=by omega
         have:=hr _ (List.getElem_mem hlt)
         simpa [List.getD,List.getElem?_eq_getElem hlt] using this
        have ft:(f:Int)<4:=by omega
        by_cases q5:Z0x (Z03 Gl t f)=t/\(Z0d (Z03 Gl t f)).getD f 0=f
        · obtain ⟨q5,q6⟩:=q5
          have ok:Z0n Gl n t f=false:=by simp [Z0n,q1,q5,q6,-List.getD_eq_getElem?_getD]
          obtain ⟨H',x1,x2⟩:=endF (c+1+1+1+1+1) qO ok
          have q2':¬ (t:Int)<0:=by omega
          have q3':¬ (n:Int)<=t:=by omega
          refine Ans.step (v:=(⟨.ret,[],H',c+1+1+1+1+1,[]⟩:Rt FH)) ?_ x2
          apply Ans.eq
          repeat (first | (with_reducible refine Ans.bt ?_ ?_; exact rfl) | (with_reducible refine Ans.bf ?_ ?_; exact rfl) | (with_reducible refine Ans.ct ?_ ?_; focus (simp; done)) | (with_reducible refine Ans.cf ?_ ?_; focus (simp; done)) | refine Ans.step (by (simp (disch:=(first | omega | (simp <;> omega) | fail)) [b0,b1,b2,b3,a0,a1,e1,e2,e3,Z48,hx,hnl,q1,q2',q3',q4,q5,q6,ft,x1,Z16,hp,-List.getD_eq_getElem?_getD]) <;> rfl) ?_)
          exact Ans.done rfl
        · obtain ⟨b,o,f1,f2⟩:=hface (Z0x (Z03 Gl t f)) ((Z0d (Z03 Gl t f)).getD f 0) qO qO hpr.1 hpr.2
          have hfl:(Z03 Gl (Z0x (Z03 Gl t f)).toNat ((Z0d (Z03 Gl t f)).getD f 0).toNat).length=5:=Z0j h2.1 qO qO
          have hil:(inv (Z0d (Z03 Gl t f))).length=4:=Z3R _ _ _
          have hil5:((t:Int)::inv (Z0d (Z03 Gl t f))).length=5:=by rw [List.length_cons,hil]
          have q5d:(decide (Z0x (Z03 Gl t f)=(t:Int)) && decide ((Z0d (Z03 Gl t f)).getD f 0=(f:Int)))=false:=by simpa [-List.getD_eq_getElem?_getD] using q5
          have key:∀ X:Bool,decide (Z03 Gl (Z0x (Z03 Gl t f)).toNat ((Z0d (Z03 Gl t f)).getD f 0).toNat=(t:Int)::inv (Z0d (Z03 Gl t f)))=X->Z0n Gl n t f=X:=by
           intro X hX
           unfold Z0n
           rw [hX,q5d,q4]
           have z1:0<=Z0x (Z03 Gl t f):=by omega
           have z2:Z0x (Z03 Gl t f)<n:=by omega
           simp [q1,z1,z2]
          have dd:∃ X:Bool,decide (Z0x (Z03 Gl t f)=(t:Int))=X/\(X=true->decide ((Z0d (Z03 Gl t f)).getD f 0=(f:Int))=false):=by
           refine ⟨_,rfl,fun e=>?_⟩
           rw [e] at q5d
           simpa only [Bool.true_and] using q5d
          obtain ⟨X,d5,d6⟩:=dd
          cases q7:decide (Z03 Gl (Z0x (Z03 Gl t f)).toNat ((Z0d (Z03 Gl t f)).getD f 0).toNat=(t:Int)::inv (Z0d (Z03 Gl t f))) with
          | true =>
           have ok:=key _ q7
           refine Ans.step (v:=(⟨.normal,[],H,c+1+1+1+1+1,[]⟩:Rt FH)) ?_ (endT (c+1+1+1+1+1) qO ok)
           apply Ans.eq
           cases X with
           | true =>
            have d6':=d6 rfl
            repeat (first | (with_reducible refine Ans.bt ?_ ?_; exact rfl) | (with_reducible refine Ans.bf ?_ ?_; exact rfl) | (with_reducible refine Ans.ct ?_ ?_; focus (simp; done)) | (with_reducible refine Ans.cf ?_ ?_; focus (simp; done)) | refine Ans.step (by (simp (disch:=(first | omega | (simp <;> omega) | fail)) [b0,b1,b2,b3,a0,a1,e1,e2,e3,Z48,Z5A,hx,hnl,q1,q2,q3,q4,d5,d6',ft,Z16,Z2R,hp,hr,hpr,f1,f2,ZnW,hil,hfl,q7,-List.getD_eq_getElem?_getD]) <;> rfl) ?_)
            exact Ans.done rfl
           | false =>
            repeat (first | (with_reducible refine Ans.bt ?_ ?_; exact rfl) | (with_reducible refine Ans.bf ?_ ?_; exact rfl) | (with_reducible refine Ans.ct ?_ ?_; focus (simp; done)) | (with_reducible refine Ans.cf ?_ ?_; focus (simp; done)) | refine Ans.step (by (simp (disch:=(first | omega | (simp <;> omega) | fail)) [b0,b1,b2,b3,a0,a1,e1,e2,e3,Z48,Z5A,hx,hnl,q1,q2,q3,q4,d5,ft,Z16,Z2R,hp,hr,hpr,f1,f2,ZnW,hil,hfl,q7,-List.getD_eq_getElem?_getD]) <;> rfl) ?_)
            exact Ans.done rfl
          | false =>
           have ok:=key _ q7
           obtain ⟨H',x1,x2⟩:=endF (c+1+1+1+1+1+1) qO ok
           refine Ans.step (v:=(⟨.ret,[],H',c+1+1+1+1+1+1,[]⟩:Rt FH)) ?_ x2
           apply Ans.eq
           cases X with
           | true =>
            have d6':=d6 rfl
            repeat (first | (with_reducible refine Ans.bt ?_ ?_; exact rfl) | (with_reducible refine Ans.bf ?_ ?_; exact rfl) | (with_reducible refine Ans.ct ?_ ?_; focus (simp; done)) | (with_reducible refine Ans.cf ?_ ?_; focus (simp; done)) | refine Ans.step (by (simp (disch:=(first | omega | (simp <;> omega) | fail)) [b0,b1,b2,b3,a0,a1,e1,e2,e3,Z48,Z5A,hx,hnl,q1,q2,q3,q4,d5,d6',ft,Z16,Z2R,hp,hr,hpr,f1,f2,ZnW,hil,hfl,q7,x1,-List.getD_eq_getElem?_getD]) <;> rfl) ?_)
            exact Ans.done rfl
           | false =>
            repeat (first | (with_reducible refine Ans.bt ?_ ?_; exact rfl) | (with_reducible refine Ans.bf ?_ ?_; exact rfl) | (with_reducible refine Ans.ct ?_ ?_; focus (simp; done)) | (with_reducible refine Ans.cf ?_ ?_; focus (simp; done)) | refine Ans.step (by (simp (disch:=(first | omega | (simp <;> omega) | fail)) [b0,b1,b2,b3,a0,a1,e1,e2,e3,Z48,Z5A,hx,hnl,q1,q2,q3,q4,d5,ft,Z16,Z2R,hp,hr,hpr,f1,f2,ZnW,hil,hfl,q7,x1,-List.getD_eq_getElem?_getD]) <;> rfl) ?_)
            exact Ans.done rfl

structure ChkI (s:Value) (n:Nat) (Gl:List Int) (gb gi rb nb l:Nat) (st:ALoop) (c0 ce:Nat) (h0:FH) (k:Nat) (h:FH) (c:Nat):Prop where
 lc:c0<=c
 g:Z0f h gb [s]
 i:Z0f h gi [s]
 sl:SlI h c0 s 20 n Gl
 nn:Z0f h nb (ints Z6X)
 res:h.f rb=some (.cells false none [.int .i64 0])
 loop:h.f l=some (.loop st)
 dfr:h.f (l+1)=some .dfr
 same:Z0s ce h0 h
 ok:ZgO Gl n k
structure ChkJ (n:Nat) (Gl:List Int) (rb l:Nat) (st:ALoop) (c0 ce:Nat) (h0:FH) (h:FH) (c:Nat):Prop where
 lc:c0<=c
 res:h.f rb=some (.cells false none [.int .i64 7])
 loop:h.f l=some (.loop { st with state:=.done,pending:=some .ret })
 dfr:h.f (l+1)=some .dfr
 same:Z0s ce h0 h
 bad:∃ j,j<4*n/\Z0n Gl n (j / 4) (j % 4)=false
theorem Zbh (s:Value) (n:Nat) (Gl:List Int) (h0:FH) (ce:Nat) (df:List Nat) (hs:SlI h0 ce s 20 n Gl) :
 G (.fn 38) [.agg #[s]] h0 ce df=some ⟨.ret,[.int .i64 (if n<=1000/\Z0v Gl n=true then 0 else 7)],h0,ce,[]⟩:=by
 refine Z67 (fun r e=>f38_go e) (by simp) ?_
 have hflat:((Value.agg #[s]).cells.toList.all Z07)=true:=by
  obtain ⟨_,_,a,cap,rfl,_⟩:=hs
  rfl
 have hcell:(Value.agg #[s]).cells.toList=[s]:=rfl
 have hlen:=hs.len
 unfold ZhL
 rw [hflat,hcell]
 simp only [cond_true]
 by_cases hn:n<=1000
 · have hn':¬ (1000:Int)<n:=by omega
   have hbn:Z1z [.int .i64 0,.int .i64 0,.int .i64 0,.int .i64 0,.int .i64 0] [(0,1,.int .i64 (-1))]=some (av Z6X):=rfl
   have hnl:Z6X.length=5:=rfl
   repeat (first | (with_reducible refine Ans.bt ?_ ?_; exact rfl) | (with_reducible refine Ans.bf ?_ ?_; exact rfl) | (with_reducible refine Ans.ct ?_ ?_; focus (simp; done)) | (with_reducible refine Ans.cf ?_ ?_; focus (simp; done)) | refine Ans.step (by (simp (disch:=(first | omega | (simp <;> omega) | fail)) [hlen,hn',hbn,hnl,-List.getD_eq_getElem?_getD]) <;> rfl) ?_)
   obtain ⟨H,hH⟩:∃ H,H=newB (newB (newB h0 (256*ce) [s]) (256*ce+1) [.int .i64 0]) (256*(ce+1+1)+1) (ints Z6X):=⟨_,rfl⟩
   have hc130:callF G 63 [.agg #[s]] H (ce+1+1+1+1)=some (.func (.func 85) [].toArray [ptrTo (256*(ce+1+1+1+1))].toArray,newB H (256*(ce+1+1+1+1)) [s],ce+1+1+1+1+1+1):=by
    refine Z0c (f63_go (r:=⟨.ret,[_],_,_,[]⟩) ?_)
    unfold ZhB
    rw [hflat,hcell]
    simp
   rw [← hH]
   refine Ans.step hc130 ?_
   dsimp only
   simp only [Nat.add_zero]
   obtain ⟨l,hl⟩:∃ l,l=256*(ce+1+1+1+1+1+1):=⟨_,rfl⟩
   obtain ⟨st,hst⟩:∃ st,st=Z7G 71 [1,2,3] #[13,14] Z1w Z1v [ptrTo (256*ce),ptrTo (256*ce+1),ptrTo (256*(ce+1+1)+1)] (l+1):=⟨_,rfl⟩
   have hI:FacesI (.func (.yield l) #[] #[]) s n Gl (256*(ce+1+1+1+1))
    (ChkI s n Gl (256*ce) (256*(ce+1+1+1+1)) (256*ce+1) (256*(ce+1+1)+1) l st (ce+1+1+1+1+1+1+1) ce h0)
    (ChkJ n Gl (256*ce+1) l st (ce+1+1+1+1+1+1+1) ce h0):=by
    refine ⟨fun k h c h' c' hi hc hs=>?_,fun h c h' c' hj hc hs=>?_,fun k h c hi=>⟨hi.i,hi.sl.mono hi.lc⟩,fun t f h c ht hf hi=>?_⟩
    · have:=hi.lc
      exact ⟨by omega,hi.g.same qO hs,hi.i.same qO hs,hi.sl.same (hs.mono qO),hi.nn.same qO hs,(hs _ qO).trans hi.res,(hs _ qO).trans hi.loop,(hs _ qO).trans hi.dfr,hi.same.trans (hs.mono qO),hi.ok⟩
    · have:=hj.lc
      exact ⟨by omega,(hs _ qO).trans hj.res,(hs _ qO).trans hj.loop,(hs _ qO).trans hj.dfr,hj.same.trans (hs.mono qO),hj.bad⟩
    · have hlc:=hi.lc
      refine Z59 (st:=st) hi.loop (by rw [hst]; rfl) (by rw [hst]; rfl) ?_
      obtain ⟨r,hr,r1,r2,r3,r4,r5,r6⟩:=Zi3 s n Gl (256*ce) (256*ce+1) (256*(ce+1+1)+1) l (ce+1+1+1+1+1+1+1) c st h hlc t f ht hf qO qO qO qO qO qO qO
       hi.g hi.sl hi.nn hi.res hi.loop (by rw [hst]; rfl)
      have hk:G (.rnd st.nt st.lin st.fr st.params l st.assign st.body) ([av [(t:Int),(f:Int)],av (Z03 Gl t f)]++st.vals) h c []=some r:=by rw [hst]; exact ZfR hr
      refine .intro hk ⟨_,r4,r1, ?_⟩
      dsimp only
      have hk4:(4*t+f) / 4=t/\(4*t+f) % 4=f:=by omega
      have hold:∀ b cs,b<256*c->b ≠ l->b ≠ 256*ce+1->Z0f h b cs->Z0f r.h b cs:=by
       intro b cs h1 h2 h3 ⟨ro,op,e⟩
       refine ⟨ro,op, ?_⟩
       have:=r6 b h1 h2
       rw [if_neg (fun hh=>h3 hh.1)] at this
       exact this.trans e
      cases hok:Z0n Gl n t f with
      | true =>
       left
       rw [hok] at r5 r6
       refine ⟨rfl, ?_⟩
       have hfe:∀ i,i<256*c->r.h.f i=h.f i:=by
        intro i hi'
        by_cases e:i=l
        · rw [e,r5,hi.loop]; rw [hst]; rfl
        · rw [r6 i hi' e,if_neg (fun hh=>by cases hh.2)]
       have hsm:Z0s c h r.h:=hfe
       refine ⟨by omega,hi.g.same qO hsm,hi.i.same qO hsm,hi.sl.same (hsm.mono qO),hi.nn.same qO hsm,(hsm _ qO).trans hi.res,(hsm _ qO).trans hi.loop,(hsm _ qO).trans hi.dfr,hi.same.trans (hsm.mono qO), ?_⟩
       intro j hj
       by_cases e:j=4*t+f
       · rw [e,hk4.1,hk4.2]; exact hok
       · exact hi.ok j qO
      | false =>
       right
       rw [hok] at r5 r6
       refine ⟨rfl,by omega, ?_, ?_, ?_, ?_,⟨4*t+f,by omega,by rw [hk4.1,hk4.2]; exact hok⟩⟩
       · rw [r6 _ qO qO,if_pos ⟨rfl,rfl⟩]
       · rw [r5]; rfl
       · rw [r6 _ qO qO,if_neg qO]; exact hi.dfr
       · intro i hi'
         rw [r6 i qO qO,if_neg qO]
         exact hi.same i hi'
   have hH0:∀ i,i<256*ce->H.f i=h0.f i:=by
    intro i hi'
    rw [hH,Z01,if_neg qO,Z01,if_neg qO,Z01,if_neg qO]
   obtain ⟨E,hE⟩:∃ E,E=Z7H (newB H (256*(ce+1+1+1+1)) [s]) (ce+1+1+1+1+1+1) 71 [1,2,3] #[13,14] Z1w Z1v [ptrTo (256*ce),ptrTo (256*ce+1),ptrTo (256*(ce+1+1)+1)]:=⟨_,rfl⟩
   have hEf:∀ i,i<l->E.f i=(newB H (256*(ce+1+1+1+1)) [s]).f i:=by
    intro i hi'
    rw [hE,Z1E,if_neg qO,if_neg qO]
   have hI0:ChkI s n Gl (256*ce) (256*(ce+1+1+1+1)) (256*ce+1) (256*(ce+1+1)+1) l st (ce+1+1+1+1+1+1+1) ce h0 0 E (ce+1+1+1+1+1+1+1):=by
    have hsame:Z0s ce h0 E:=by
     intro i hi'
     rw [hEf i qO,Z01,if_neg qO]
     exact hH0 i hi'
    refine ⟨Nat.le_refl _,⟨false,none, ?_⟩,⟨false,none, ?_⟩,(hs.same hsame).mono qO,⟨false,none, ?_⟩, ?_, ?_, ?_,hsame,fun j hj=>by omega⟩
    · show E.f _=_
      rw [hEf _ qO,Z01,if_neg qO,hH,Z01,if_neg qO,Z01,if_neg qO,Z01,if_pos rfl]
    · show E.f _=_
      rw [hEf _ qO,Z01,if_pos rfl]
    · show E.f _=_
      rw [hEf _ qO,Z01,if_neg qO,hH,Z01,if_pos rfl]
    · rw [hEf _ qO,Z01,if_neg qO,hH,Z01,if_neg qO,Z01,if_pos rfl]
    · rw [hE,Z1E,if_pos hl,hst,hl]
    · rw [hE,Z1E,if_neg qO,if_pos qO]
   obtain ⟨⟨re,rv,rh,rc,rd⟩,hr,r1,r2,r3,r4,r5⟩:=Zkx hI hI0 []
   simp only at r1 r2 r3 r4 r5
   subst r1 r2 r3
   rw [hl,hE] at hr
   rcases r5 with r5 | r5
   · have hall:Z0v Gl n=true:=(Z5m Gl n).2 r5.ok
     rw [if_pos ⟨hn,hall⟩]
     have hlc:=r5.lc
     have hg:HeapC.get rh (256*ce+1)=some (.cells false none [.int .i64 0]):=r5.res
     refine Ans.head (R:=fun q=>q=(Ex.normal,HeapC.del rh l,rc,[l+1])) (Z4d (.intro hr ⟨st,.normal,by rw [← hl]; exact r5.loop,by rw [hst]; simp [Z7G],by rw [hst]; rfl,by rw [hl]⟩)) ?_
     rintro _ rfl
     have e1:stN (HeapC.del rh l) 1 (.pointer (some ⟨256*ce+1,0,none⟩)) (.int .i64 0)=some (HeapC.set (HeapC.del rh l) (256*ce+1) (.cells false none [.int .i64 0])) :=
      Z11 (cs:=[.int .i64 0]) (by rw [get_del_ne _ _ _ qO]; exact hg) (by simp) rfl rfl
     have e2:Z09 (HeapC.set (HeapC.del rh l) (256*ce+1) (.cells false none [.int .i64 0])) [l+1]=some (HeapC.del (HeapC.set (HeapC.del rh l) (256*ce+1) (.cells false none [.int .i64 0])) (l+1)):=by
      have:HeapC.get (HeapC.set (HeapC.del rh l) (256*ce+1) (.cells false none [.int .i64 0])) (l+1)=some .dfr:=by
       rw [get_set_ne _ _ _ _ qO,get_del_ne _ _ _ qO]; exact r5.dfr
      simp [Z09,this]
     have e3:ld1 (HeapC.del (HeapC.set (HeapC.del rh l) (256*ce+1) (.cells false none [.int .i64 0])) (l+1)) (.pointer (some ⟨256*ce+1,0,none⟩))=some (.int .i64 0):=by
      rw [ld1_del_ne _ _ _ _ qO]
      exact ld1_holds ⟨_,_,get_set_same _ _ _⟩ rfl
     repeat (first | (with_reducible refine Ans.bt ?_ ?_; exact rfl) | (with_reducible refine Ans.bf ?_ ?_; exact rfl) | (with_reducible refine Ans.ct ?_ ?_; focus (simp; done)) | (with_reducible refine Ans.cf ?_ ?_; focus (simp; done)) | refine Ans.step (by (simp (disch:=(first | omega | (simp <;> omega) | fail)) [e1,e2,e3,-List.getD_eq_getElem?_getD]) <;> rfl) ?_)
     refine Ans.done ⟨rfl,rfl, ?_,rfl⟩
     intro i hi'
     show (HeapC.del (HeapC.set (HeapC.del rh l) (256*ce+1) (.cells false none [.int .i64 0])) (l+1)).f i=_
     rw [Z6G,if_neg qO,Z0b,if_neg qO,Z6G,if_neg qO]
     exact r5.same i hi'
   · have hall:¬ (n<=1000/\Z0v Gl n=true):=by
      rintro ⟨_,h⟩
      obtain ⟨j,h1,h2⟩:=r5.bad
      have:=(Z5m Gl n).1 h j h1
      rw [h2] at this; cases this
     rw [if_neg hall]
     have hlc:=r5.lc
     have hg:HeapC.get rh (256*ce+1)=some (.cells false none [.int .i64 7]):=r5.res
     refine Ans.head (R:=fun q=>q=(Ex.ret,HeapC.del rh l,rc,[l+1])) (Z4d (.intro hr ⟨_,.ret,by rw [← hl]; exact r5.loop,by simp,rfl,by rw [hl]⟩)) ?_
     rintro _ rfl
     have e2:Z09 (HeapC.del rh l) [l+1]=some (HeapC.del (HeapC.del rh l) (l+1)):=by
      have:HeapC.get (HeapC.del rh l) (l+1)=some .dfr:=by
       rw [get_del_ne _ _ _ qO]; exact r5.dfr
      simp [Z09,this]
     have e3:ld1 (HeapC.del (HeapC.del rh l) (l+1)) (.pointer (some ⟨256*ce+1,0,none⟩))=some (.int .i64 7):=by
      rw [ld1_del_ne _ _ _ _ qO,ld1_del_ne _ _ _ _ qO]
      exact ld1_holds ⟨_,_,hg⟩ rfl
     repeat (first | (with_reducible refine Ans.bt ?_ ?_; exact rfl) | (with_reducible refine Ans.bf ?_ ?_; exact rfl) | (with_reducible refine Ans.ct ?_ ?_; focus (simp; done)) | (with_reducible refine Ans.cf ?_ ?_; focus (simp; done)) | refine Ans.step (by (simp (disch:=(first | omega | (simp <;> omega) | fail)) [e2,e3,-List.getD_eq_getElem?_getD]) <;> rfl) ?_)
     refine Ans.done ⟨rfl,rfl, ?_,rfl⟩
     intro i hi'
     show (HeapC.del (HeapC.del rh l) (l+1)).f i=_
     rw [Z6G,if_neg qO,Z6G,if_neg qO]
     exact r5.same i hi'
 · have hn':(1000:Int)<n:=by omega
   have:¬ (n<=1000/\Z0v Gl n=true):=fun h=>hn h.1
   rw [if_neg this]
   repeat (first | (with_reducible refine Ans.bt ?_ ?_; exact rfl) | (with_reducible refine Ans.bf ?_ ?_; exact rfl) | (with_reducible refine Ans.ct ?_ ?_; focus (simp; done)) | (with_reducible refine Ans.cf ?_ ?_; focus (simp; done)) | refine Ans.step (by (simp (disch:=(first | omega | (simp <;> omega) | fail)) [hlen,hn',-List.getD_eq_getElem?_getD]) <;> rfl) ?_)
   refine Ans.done ?_
   simp (disch:=omega)

noncomputable def fH (h:FH) (vb db eb tb:Nat) (V D E T:List Int):FH:=newB (newB (newB (newB h vb (ints V)) db (ints D)) eb (ints E)) tb (ints T)
theorem Z7N (h:FH) (vb db eb tb:Nat) (V D E T:List Int) (j:Nat):(fH h vb db eb tb V D E T).f j=if j=tb then some (.cells false none (ints T)) else if j=eb then some (.cells false none (ints E)) else if j=db then some (.cells false none (ints D)) else if j=vb then some (.cells false none (ints V)) else h.f j:=by
 unfold fH
 rw [Z01,Z01,Z01,Z01]
structure N4 (vb db eb tb:Nat):Prop where
 a:vb ≠ db
 b:vb ≠ eb
 c:vb ≠ tb
 d:db ≠ eb
 e:db ≠ tb
 f:eb ≠ tb
section
variable {vb db eb tb:Nat} (q:N4 vb db eb tb) (h:FH) (V D E T X:List Int)
 include q
theorem fH_V:newB (fH h vb db eb tb V D E T) vb (ints X)=fH h vb db eb tb X D E T:=by
 obtain ⟨a,b,c,d,e,f⟩:=q
 apply FH.ext; intro j
 rw [Z01,Z7N,Z7N]
 by_cases z:j=vb
 · subst z; rw [if_pos rfl,if_neg c,if_neg b,if_neg a,if_pos rfl]
 · rw [if_neg z,if_neg z,if_neg z]
theorem fH_D:newB (fH h vb db eb tb V D E T) db (ints X)=fH h vb db eb tb V X E T:=by
 obtain ⟨a,b,c,d,e,f⟩:=q
 apply FH.ext; intro j
 rw [Z01,Z7N,Z7N]
 by_cases z:j=db
 · subst z; rw [if_pos rfl,if_neg e,if_neg d,if_pos rfl]
 · rw [if_neg z,if_neg z,if_neg z]
theorem fH_E:newB (fH h vb db eb tb V D E T) eb (ints X)=fH h vb db eb tb V D X T:=by
 obtain ⟨a,b,c,d,e,f⟩:=q
 apply FH.ext; intro j
 rw [Z01,Z7N,Z7N]
 by_cases z:j=eb
 · subst z; rw [if_pos rfl,if_neg f,if_pos rfl]
 · rw [if_neg z,if_neg z,if_neg z]
theorem fH_T:newB (fH h vb db eb tb V D E T) tb (ints X)=fH h vb db eb tb V D E X:=by
 obtain ⟨a,b,c,d,e,f⟩:=q
 apply FH.ext; intro j
 rw [Z01,Z7N,Z7N]
 by_cases z:j=tb
 · subst z; rw [if_pos rfl,if_pos rfl]
 · rw [if_neg z,if_neg z,if_neg z]
end
def Zm4 (b vb db eb tb:Nat):Prop:=b ≠ vb/\b ≠ db/\b ≠ eb/\b ≠ tb
theorem Zeq {b vb db eb tb:Nat} (o:Zm4 b vb db eb tb) (h:FH) (V D E T:List Int):(fH h vb db eb tb V D E T).f b=h.f b:=by
 rw [Z7N,if_neg o.2.2.2,if_neg o.2.2.1,if_neg o.2.1,if_neg o.1]
theorem ZcD {b vb db eb tb:Nat} (o:Zm4 b vb db eb tb) (h:FH) (V D E T:List Int) (cs:List Value):newB (fH h vb db eb tb V D E T) b cs=fH (newB h b cs) vb db eb tb V D E T:=by
 obtain ⟨o1,o2,o3,o4⟩:=o
 apply FH.ext; intro j
 rw [Z01,Z7N,Z7N,Z01]
 by_cases z:j=b
 · subst z; rw [if_pos rfl,if_neg o4,if_neg o3,if_neg o2,if_neg o1,if_pos rfl]
 · rw [if_neg z,if_neg z]
theorem ZaQ (h:FH) {vb db eb tb c:Nat} (h1:vb<256*c) (h2:db<256*c) (h3:eb<256*c) (h4:tb<256*c) (V D E T V' D' E' T':List Int):Z42 c (fH h vb db eb tb V D E T) (fH h vb db eb tb V' D' E' T'):=by
 intro j
 rw [Z7N,Z7N]
 refine ⟨fun hj=>by rw [if_neg qO,if_neg qO,if_neg qO,if_neg qO,if_neg qO,if_neg qO,if_neg qO,if_neg qO],fun hj=>?_⟩
 by_cases e1:j=tb
 · rw [if_pos e1]; exact .inr (Z1F.ints _ _)
 rw [if_neg e1,if_neg e1]
 by_cases e2:j=eb
 · rw [if_pos e2]; exact .inr (Z1F.ints _ _)
 rw [if_neg e2,if_neg e2]
 by_cases e3:j=db
 · rw [if_pos e3]; exact .inr (Z1F.ints _ _)
 rw [if_neg e3,if_neg e3]
 by_cases e4:j=vb
 · rw [if_pos e4]; exact .inr (Z1F.ints _ _)
 rw [if_neg e4,if_neg e4]; exact .inl rfl
theorem Zhr (h h':FH) {vb db eb tb c:Nat} (hs:Z0s c h h') (V D E T:List Int):Z0s c (fH h vb db eb tb V D E T) (fH h' vb db eb tb V D E T):=fun j hj=>by
 rw [Z7N,Z7N,hs j hj]
theorem Zhs (h:FH) {vb db eb tb c:Nat} (h1:256*c<=vb) (h2:256*c<=db) (h3:256*c<=eb) (h4:256*c<=tb) (V D E T:List Int):Z0s c h (fH h vb db eb tb V D E T):=fun j hj=>by
 rw [Z7N,if_neg qO,if_neg qO,if_neg qO,if_neg qO]
structure E4 (h0:FH) (cb vb db eb tb n:Nat) (s:Value):Prop where
 st:Z0f h0 cb [s,.slice (some ⟨vb,0,none⟩) (4*n) (4*n),.slice (some ⟨db,0,none⟩) (16*n) (16*n),.slice (some ⟨eb,0,none⟩) (6*n) (6*n),.slice (some ⟨tb,0,none⟩) (4*n) (4*n)]
 q:N4 vb db eb tb
 o:Zm4 cb vb db eb tb
 le:n<=60
section
variable {h0:FH} {cb vb db eb tb n:Nat} {s:Value} (e:E4 h0 cb vb db eb tb n s) {V D E T:List Int}
 include e
theorem E4.hold:Z0f (fH h0 vb db eb tb V D E T) cb [s,.slice (some ⟨vb,0,none⟩) (4*n) (4*n),.slice (some ⟨db,0,none⟩) (16*n) (16*n),.slice (some ⟨eb,0,none⟩) (6*n) (6*n),.slice (some ⟨tb,0,none⟩) (4*n) (4*n)]:=by
 obtain ⟨ro,op,z⟩:=e.st
 exact ⟨ro,op,(Zeq e.o h0 V D E T).trans z⟩
theorem E4.vu (hd:Z49 V (4*n)):Uo (fH h0 vb db eb tb V D E T) cb 1 vb (4*n) V :=
 ⟨⟨_,e.hold,rfl⟩,by rw [Z7N,if_neg e.q.c,if_neg e.q.b,if_neg e.q.a,if_pos rfl],e.o.1,hd,by have:=e.le; omega⟩
theorem E4.du (hd:Z49 D (16*n)):Uo (fH h0 vb db eb tb V D E T) cb 2 db (16*n) D :=
 ⟨⟨_,e.hold,rfl⟩,by rw [Z7N,if_neg e.q.e,if_neg e.q.d,if_pos rfl],e.o.2.1,hd,by have:=e.le; omega⟩
theorem E4.eu (hd:Z49 E (6*n)):Uo (fH h0 vb db eb tb V D E T) cb 3 eb (6*n) E :=
 ⟨⟨_,e.hold,rfl⟩,by rw [Z7N,if_neg e.q.f,if_pos rfl],e.o.2.2.1,hd,by have:=e.le; omega⟩
theorem E4.tu (hd:Z49 T (4*n)):Uo (fH h0 vb db eb tb V D E T) cb 4 tb (4*n) T :=
 ⟨⟨_,e.hold,rfl⟩,by rw [Z7N,if_pos rfl],e.o.2.2.2,hd,by have:=e.le; omega⟩
end
theorem E4.newB {h0:FH} {cb vb db eb tb n:Nat} {s:Value} (e:E4 h0 cb vb db eb tb n s) {b:Nat} (hb:cb ≠ b) (cs:List Value):E4 (Go.Ab.newB h0 b cs) cb vb db eb tb n s:=⟨e.st.newB_ne hb,e.q,e.o,e.le⟩
structure XF (Gl:List Int) (n t f xb pb vb db eb tb:Nat) (h0:FH):Prop where
 hx:Z0f h0 xb (ints (Z03 Gl t f))
 hp:Z0f h0 pb (ints (Z0d (Z03 Gl t f)))
 ox:Zm4 xb vb db eb tb
 op:Zm4 pb vb db eb tb
 ok:Z0v Gl n=true
 gl:Gl.length=n*20
 ht:t<n
 hf:f<4
 g:¬ Z0x (Z03 Gl t f)<0
section
variable {Gl:List Int} {n t f xb pb vb db eb tb:Nat} {h0:FH} (x:XF Gl n t f xb pb vb db eb tb h0)
 include x
theorem XF.perm:Z0d (Z03 Gl t f) ∈ p24/\fU Gl t f<n/\Z0x (Z03 Gl t f)=(fU Gl t f:Nat):=by
 obtain ⟨k1,k2,k3,k4⟩:=Z0Y (Z1s x.ok x.ht x.hf) x.g
 have:=x.g
 exact ⟨Z9b (Z0X (Z0j x.gl x.ht x.hf)) k2,by unfold fU; omega,by unfold fU; omega⟩
theorem XF.j {i:Nat} (hi:i<4):fJ Gl t f i<4/\(Z0d (Z03 Gl t f)).getD i 0=(fJ Gl t f i:Nat):=by
 have:=Z2c x.perm.1 hi
 unfold fJ
 omega
theorem XF.ne {i j:Nat} (hi:i<4) (hj:j<4) (h:i ≠ j):fJ Gl t f i ≠ fJ Gl t f j:=by
 have:=Zik x.perm.1 hi hj h
 have:=(x.j hi).2
 have:=(x.j hj).2
 omega
theorem XF.l0 (V D E T:List Int):ld1 (fH h0 vb db eb tb V D E T) (.pointer (some ⟨xb,0,none⟩))=some (.int .i64 (fU Gl t f:Nat)):=by
 obtain ⟨ro,op,z⟩:=x.hx
 have hl:=Z0j x.gl x.ht x.hf
 have e:(Z03 Gl t f).getD 0 0=Z0x (Z03 Gl t f):=rfl
 rw [Z02 ⟨ro,op,(Zeq x.ox h0 V D E T).trans z⟩,ints_getD _ _ qO,e,x.perm.2.2]
theorem XF.l1 (V D E T:List Int) {i:Nat} (hi:i<4):ld1 (fH h0 vb db eb tb V D E T) (.pointer (some ⟨pb,i,none⟩))=some (.int .i64 (fJ Gl t f i:Nat)):=by
 obtain ⟨ro,op,z⟩:=x.hp
 have hl:=Z44 x.perm.1
 rw [Z02 ⟨ro,op,(Zeq x.op h0 V D E T).trans z⟩,ints_getD _ _ qO,(x.j hi).2]
end
set_option maxHeartbeats 1000000 in
theorem nc_j (cb vb db eb tb n xb pb t f i c:Nat) (Gl V T:List Int) (s x1 x2 x3 x4 x5 x6:Value) (h0:FH) (df:List Nat) (PD PE:Prs) (e:E4 h0 cb vb db eb tb n s) (x:XF Gl n t f xb pb vb db eb tb h0) (hi:i<4) (hif:i ≠ f) (lc:cb<256*c) (lv:vb<256*c) (ld:db<256*c) (le:eb<256*c) (lt:tb<256*c) (lx:xb<256*c) (lp:pb<256*c)
 (o1:OkV c x1) (o2:OkV c x2) (o3:OkV c x3) (o4:OkV c x4) (o5:OkV c x5) (o6:OkV c x6) :
 ∀ (r j:Nat) (D E:List Int),j+r=4->Jn (PD++upL (dJ Gl t f i) j) (16*n) D->Jn (PE++upL (eJ Gl t f i) j) (6*n) E →
 Ans (G (Z9Y none) [ptrTo cb,.int .i64 t,.int .i64 f,ptrTo xb,ptrTo pb,.int .i64 i,x1,x2,x3,x4,x5,x6,.int .i64 j] (fH h0 vb db eb tb V D E T) c df) fun q=>∃ D' E',q=⟨.exit 6,[ptrTo cb,.int .i64 t,.int .i64 f,ptrTo xb,ptrTo pb,.int .i64 i,x1,x2,x3,x4,x5,x6,.int .i64 4],fH h0 vb db eb tb V D' E' T,c,df⟩/\Jn (PD++upL (dJ Gl t f i) 4) (16*n) D'/\Jn (PE++upL (eJ Gl t f i) 4) (6*n) E':=by
 intro r
 have ht:=x.ht
 have hf:=x.hf
 have hu:=x.perm.2.1
 have hji:=x.j hi
 induction r with
 | zero =>
  intro j D E hj jd je
  obtain rfl:j=4:=by omega
  refine Ans.lpG rfl rfl (Z2L ..) ?_
  unfold Z3s
  obtain ⟨H,hH⟩:∃ H,fH h0 vb db eb tb V D E T=H:=⟨_,rfl⟩
  rw [hH]
  have fx:=True.intro
  refine Ans.go ?_
  clear fx
  (have fx:=ai lc (ai lx (ai lp (ai o1 (ai o2 (ai o3 (ai o4 (ai o5 o6))))))); refine Ans.ex0 ?_; clear fx)
  exact ⟨D,E,by rw [hH]; rfl,jd,je⟩
 | succ r ih =>
  intro j D E hj jd je
  have hj4:j<4:=by omega
  have hjj:=x.j hj4
  by_cases q:j ≠ f/\j ≠ i
  · have qd:dJ Gl t f i j=[(16*t+4*i+j,16*fU Gl t f+4*fJ Gl t f i+fJ Gl t f j)]:=if_pos q
    have qe:eJ Gl t f i j=[(eNo t i j,eNo (fU Gl t f) (fJ Gl t f i) (fJ Gl t f j))]:=if_pos q
    have r1:=Z6E (i:=(i:Int)) (j:=(j:Int)) qO qO qO qO qO
    have r2:=Z6E (i:=(fJ Gl t f i:Int)) (j:=(fJ Gl t f j:Int)) qO qO qO qO (by have:=x.ne hi hj4 (fun z=>q.2 z.symm); omega)
    obtain ⟨D',sd,gd⟩:=ZaJ (fH h0 vb db eb tb V D E T) cb 2 db (16*n) (c+1+1+1+1) D (e.du jd.dn) qO qO (16*t+4*i+j) (16*fU Gl t f+4*fJ Gl t f i+fJ Gl t f j) qO qO []
    rw [fH_D e.q] at gd
    obtain ⟨E',se,ge⟩:=ZaJ (fH h0 vb db eb tb V D' E T) cb 3 eb (6*n) (c+1+1+1+1+1) E (e.eu je.dn) qO qO (eNo t i j) (eNo (fU Gl t f) (fJ Gl t f i) (fJ Gl t f j)) (by unfold eNo; omega) (by unfold eNo; omega) []
    rw [fH_E e.q] at ge
    have jd':=jd.snoc qO qO sd
    have je':=je.snoc (by unfold eNo; omega) (by unfold eNo; omega) se
    have hk:=ih (j+1) D' E' qO (by rw [upL,qd,← List.append_assoc]; exact jd') (by rw [upL,qe,← List.append_assoc]; exact je')
    have cd:=Z0c gd
    have ce:=Z0c ge
    have e1:((eNo t i j:Nat):Int)=6*(t:Int)+edN i j:=by unfold eNo; omega
    have e2:((eNo (fU Gl t f) (fJ Gl t f i) (fJ Gl t f j):Nat):Int)=6*(fU Gl t f:Int)+edN (fJ Gl t f i:Nat) (fJ Gl t f j:Nat):=by unfold eNo; omega
    have e3:((16*t+4*i+j:Nat):Int)=16*(t:Int)+4*(i:Int)+j:=by omega
    have e4:((16*fU Gl t f+4*fJ Gl t f i+fJ Gl t f j:Nat):Int)=16*(fU Gl t f:Int)+4*(fJ Gl t f i:Int)+(fJ Gl t f j:Nat):=by omega
    rw [e1,e2] at ce
    rw [e3,e4] at cd
    have a0:=x.l0 V D E T
    have a1:=x.l1 V D E T hi
    have a2:=x.l1 V D E T hj4
    have b0:=x.l0 V D' E T
    have b1:=x.l1 V D' E T hi
    have b2:=x.l1 V D' E T hj4
    have k1:=Zaj i j
    have k2:=Zaj (fJ Gl t f i:Nat) (fJ Gl t f j:Nat)
    have q1:¬ (j:Int)=f:=by omega
    have q2:¬ (j:Int)=i:=by omega
    have up:=ZaQ h0 lv ld le lt V D E T V D' E' T
    obtain ⟨y1,hy1⟩:∃ y,edN (i:Nat) (j:Nat)=y:=⟨_,rfl⟩
    obtain ⟨y2,hy2⟩:∃ y,edN (fJ Gl t f i:Nat) (fJ Gl t f j:Nat)=y:=⟨_,rfl⟩
    rw [hy1] at r1 k1 ce
    rw [hy2] at r2 k2 ce
    obtain ⟨u,hu'⟩:∃ u,fU Gl t f=u:=⟨_,rfl⟩
    obtain ⟨p,hp'⟩:∃ u,fJ Gl t f i=u:=⟨_,rfl⟩
    obtain ⟨p2,hp2⟩:∃ u,fJ Gl t f j=u:=⟨_,rfl⟩
    rw [hu'] at a0 b0 cd ce hu
    rw [hp'] at a1 b1 cd k2 hji
    rw [hp2] at a2 b2 cd k2 hjj
    clear sd gd se ge jd' je' e1 e2 e3 e4
    have tn:t<60:=by have:=e.le; omega
    have un:u<60:=by have:=e.le; omega
    obtain ⟨S,hS⟩:∃ S,fH h0 vb db eb tb V D E T=S:=⟨_,rfl⟩
    obtain ⟨S1,hS1⟩:∃ S,fH h0 vb db eb tb V D' E T=S:=⟨_,rfl⟩
    obtain ⟨S2,hS2⟩:∃ S,fH h0 vb db eb tb V D' E' T=S:=⟨_,rfl⟩
    rw [hS] at a0 a1 a2 cd up ⊢
    rw [hS1] at b0 b1 b2 cd ce
    rw [hS2] at ce up hk
    refine Ans.lpG rfl rfl (Z2L ..) ?_
    unfold Z3s
    have fx:=ai a0 (ai a1 (ai a2 (ai b0 (ai b1 (ai b2 (ai cd (ai ce (ai k1 (ai k2 (ai q1 (ai q2 sameB_self)))))))))))
    refine Ans.go ?_
    clear fx
    (have fx:=ai lc (ai lx (ai lp (ai o1 (ai o2 (ai o3 (ai o4 (ai o5 o6))))))); refine Ans.nxB (B:=S2) ?_ ?_; exact (up); clear fx)
    exact hk
  · have qd:dJ Gl t f i j=[]:=if_neg q
    have qe:eJ Gl t f i j=[]:=if_neg q
    have hk:=ih (j+1) D E qO (by rw [upL,qd,List.append_nil]; exact jd) (by rw [upL,qe,List.append_nil]; exact je)
    obtain ⟨S,hS⟩:∃ S,fH h0 vb db eb tb V D E T=S:=⟨_,rfl⟩
    rw [hS] at hk ⊢
    refine Ans.lpG rfl rfl (Z2L ..) ?_
    unfold Z3s
    by_cases q1:j=f
    · have q1':(j:Int)=f:=by omega
      have fx:=q1'
      refine Ans.go ?_
      clear fx
      (have fx:=ai lc (ai lx (ai lp (ai o1 (ai o2 (ai o3 (ai o4 (ai o5 o6))))))); refine Ans.nx0 ?_; clear fx)
      exact hk
    · have q1':¬ (j:Int)=f:=by omega
      have q2':(j:Int)=i:=by omega
      have fx:=ai q1' q2'
      refine Ans.go ?_
      clear fx
      (have fx:=ai lc (ai lx (ai lp (ai o1 (ai o2 (ai o3 (ai o4 (ai o5 o6))))))); refine Ans.nx0 ?_; clear fx)
      exact hk

set_option maxRecDepth 100000
set_option maxHeartbeats 1000000 in
theorem nc_i (cb vb db eb tb n xb pb t f c:Nat) (Gl T:List Int) (s x1 x2 x3 x4 x5:Value) (h0:FH) (df:List Nat) (PV PD PE:Prs) (e:E4 h0 cb vb db eb tb n s) (x:XF Gl n t f xb pb vb db eb tb h0) (lc:cb<256*c) (lv:vb<256*c) (ld:db<256*c) (le:eb<256*c) (lt:tb<256*c) (lx:xb<256*c) (lp:pb<256*c)
 (o1:OkV c x1) (o2:OkV c x2) (o3:OkV c x3) (o4:OkV c x4) (o5:OkV c x5) :
 ∀ (r i:Nat) (V D E:List Int),i+r=4->Jn (PV++upL (vI Gl t f) i) (4*n) V->Jn (PD++upL (dI Gl t f) i) (16*n) D->Jn (PE++upL (eI Gl t f) i) (6*n) E →
 Ans (G (Z9Z none) [ptrTo cb,.int .i64 t,.int .i64 f,ptrTo xb,ptrTo pb,x1,x2,x3,x4,x5,.int .i64 i] (fH h0 vb db eb tb V D E T) c df) fun q=>∃ V' D' E',q=⟨.exit 4,[ptrTo cb,.int .i64 t,.int .i64 f,ptrTo xb,ptrTo pb,x1,x2,x3,x4,x5,.int .i64 4],fH h0 vb db eb tb V' D' E' T,c,df⟩ ∧
  Jn (PV++upL (vI Gl t f) 4) (4*n) V'/\Jn (PD++upL (dI Gl t f) 4) (16*n) D'/\Jn (PE++upL (eI Gl t f) 4) (6*n) E':=by
 intro r
 have ht:=x.ht
 have hf:=x.hf
 have hu:=x.perm.2.1
 induction r with
 | zero =>
  intro i V D E hi jv jd je
  obtain rfl:i=4:=by omega
  refine Ans.lpG rfl rfl (Z2M ..) ?_
  unfold Z3t
  obtain ⟨H,hH⟩:∃ H,fH h0 vb db eb tb V D E T=H:=⟨_,rfl⟩
  rw [hH]
  have fx:=True.intro
  refine Ans.go ?_
  clear fx
  (have fx:=ai lc (ai lx (ai lp (ai o1 (ai o2 (ai o3 (ai o4 o5)))))); refine Ans.ex0 ?_; clear fx)
  exact ⟨V,D,E,by rw [hH]; rfl,jv,jd,je⟩
 | succ r ih =>
  intro i V D E hi jv jd je
  have hi4:i<4:=by omega
  have hji:=x.j hi4
  by_cases q:i=f
  · have qv:vI Gl t f i=[]:=if_pos q
    have qd:dI Gl t f i=[]:=if_pos q
    have qe:eI Gl t f i=[]:=if_pos q
    have hk:=ih (i+1) V D E qO (by rw [upL,qv,List.append_nil]; exact jv) (by rw [upL,qd,List.append_nil]; exact jd) (by rw [upL,qe,List.append_nil]; exact je)
    obtain ⟨S,hS⟩:∃ S,fH h0 vb db eb tb V D E T=S:=⟨_,rfl⟩
    rw [hS] at hk ⊢
    have q1':(i:Int)=f:=by omega
    refine Ans.lpG rfl rfl (Z2M ..) ?_
    unfold Z3t
    have fx:=q1'
    refine Ans.go ?_
    clear fx
    (have fx:=ai lc (ai lx (ai lp (ai o1 (ai o2 (ai o3 (ai o4 o5)))))); refine Ans.nx0 ?_; clear fx)
    exact hk
  · have qv:vI Gl t f i=[(4*t+i,4*fU Gl t f+fJ Gl t f i)]:=if_neg q
    have qd:dI Gl t f i=upL (dJ Gl t f i) 4:=if_neg q
    have qe:eI Gl t f i=upL (eJ Gl t f i) 4:=if_neg q
    obtain ⟨V',sv,gv'⟩:=ZaJ (fH h0 vb db eb tb V D E T) cb 1 vb (4*n) (c+1+1+1+1) V (e.vu jv.dn) qO qO (4*t+i) (4*fU Gl t f+fJ Gl t f i) qO qO []
    rw [fH_V e.q] at gv'
    have jv':=jv.snoc qO qO sv
    obtain ⟨q9,hq9,D',E',rfl,jd',je'⟩:=nc_j cb vb db eb tb n xb pb t f i (c+1+1+1+1+1) Gl V' T s x1 x2 x3 x4 x5 (.int .i64 i) h0 df (PD++upL (dI Gl t f) i) (PE++upL (eI Gl t f) i) e x hi4 q qO qO qO qO qO qO qO
     (o1.mono qO) (o2.mono qO) (o3.mono qO) (o4.mono qO) (o5.mono qO) (OkV.int _ _ _) 4 0 D E qO (by rw [upL,List.append_nil]; exact jd) (by rw [upL,List.append_nil]; exact je)
    have hk:=ih (i+1) V' D' E' qO (by rw [upL,qv,← List.append_assoc]; exact jv') (by rw [upL,qd,← List.append_assoc]; exact jd') (by rw [upL,qe,← List.append_assoc]; exact je')
    have cv:=Z0c gv'
    have e3:((4*t+i:Nat):Int)=4*(t:Int)+i:=by omega
    have e4:((4*fU Gl t f+fJ Gl t f i:Nat):Int)=4*(fU Gl t f:Int)+(fJ Gl t f i:Nat):=by omega
    rw [e3,e4] at cv
    simp only [Int.ofNat_eq_natCast,Int.cast_ofNat_Int] at hq9
    have a0:=x.l0 V D E T
    have a1:=x.l1 V D E T hi4
    have q1:¬ (i:Int)=f:=by omega
    have up:=ZaQ h0 lv ld le lt V D E T V' D' E' T
    obtain ⟨u,hu'⟩:∃ u,fU Gl t f=u:=⟨_,rfl⟩
    obtain ⟨p,hp'⟩:∃ u,fJ Gl t f i=u:=⟨_,rfl⟩
    rw [hu'] at a0 cv hu
    rw [hp'] at a1 cv hji
    clear sv gv' jv' jd' je' e3 e4
    have tn:t<60:=by have:=e.le; omega
    have un:u<60:=by have:=e.le; omega
    obtain ⟨S,hS⟩:∃ S,fH h0 vb db eb tb V D E T=S:=⟨_,rfl⟩
    obtain ⟨S1,hS1⟩:∃ S,fH h0 vb db eb tb V' D E T=S:=⟨_,rfl⟩
    obtain ⟨S2,hS2⟩:∃ S,fH h0 vb db eb tb V' D' E' T=S:=⟨_,rfl⟩
    rw [hS] at a0 a1 cv up ⊢
    rw [hS1] at cv hq9
    rw [hS2] at hq9 up hk
    refine Ans.lpG rfl rfl (Z2M ..) ?_
    unfold Z3t
    have fx:=ai a0 (ai a1 (ai cv (ai q1 hq9)))
    refine Ans.go ?_
    clear fx
    (have fx:=ai lc (ai lx (ai lp (ai o1 (ai o2 (ai o3 (ai o4 o5)))))); refine Ans.nxB (B:=S2) ?_ ?_; exact (up); clear fx)
    exact hk
set_option maxHeartbeats 1000000 in
theorem nc_f (cb vb db eb tb n t c:Nat) (Gl:List Int) (s x1 x2 x3:Value) (h0:FH) (df:List Nat) (PV PD PE PT:Prs) (e:E4 h0 cb vb db eb tb n s) (hok:Z0v Gl n=true) (hG:Gl.length=n*20) (ht:t<n) (lc:cb<256*c) (lv:vb<256*c) (ld:db<256*c) (le:eb<256*c) (lt:tb<256*c)
 (o1:OkV c x1) (o2:OkV c x2) (o3:OkV c x3) :
 ∀ (r f:Nat) (V D E T:List Int),f+r=4->Jn (PV++upL (vF Gl t) f) (4*n) V->Jn (PD++upL (dF Gl t) f) (16*n) D->Jn (PE++upL (eF Gl t) f) (6*n) E->Jn (PT++upL (tF Gl t) f) (4*n) T →
 Ans (G (Za0 none) [ptrTo cb,.int .i64 t,x1,x2,x3,av (Z66 Gl t),.int .i64 f] (fH h0 vb db eb tb V D E T) c df) fun q=>∃ V' D' E' T',q=⟨.exit 2,[ptrTo cb,.int .i64 t,x1,x2,x3,av (Z66 Gl t),.int .i64 4],fH h0 vb db eb tb V' D' E' T',c,df⟩ ∧
  Jn (PV++upL (vF Gl t) 4) (4*n) V'/\Jn (PD++upL (dF Gl t) 4) (16*n) D'/\Jn (PE++upL (eF Gl t) 4) (6*n) E'/\Jn (PT++upL (tF Gl t) 4) (4*n) T':=by
 intro r
 have hrl:=Z4H hG ht
 have orow:OkV c (av (Z66 Gl t)):=OkV.av _ _
 induction r with
 | zero =>
  intro f V D E T hf jv jd je jt
  obtain rfl:f=4:=by omega
  refine Ans.lpG rfl rfl (Z2N ..) ?_
  unfold Z3u
  obtain ⟨H,hH⟩:∃ H,fH h0 vb db eb tb V D E T=H:=⟨_,rfl⟩
  rw [hH]
  have fx:=True.intro
  refine Ans.go ?_
  clear fx
  (have fx:=ai lc (ai o1 (ai o2 (ai o3 orow))); refine Ans.ex0 ?_; clear fx)
  exact ⟨V,D,E,T,by rw [hH]; rfl,jv,jd,je,jt⟩
 | succ r ih =>
  intro f V D E T hf jv jd je jt
  have hf4:f<4:=by omega
  have x1':=Z8F (Z66 Gl t) 4 5 .i64 (f:Int) qO qO hrl
  rw [Int.toNat_natCast,Zaz hf4] at x1'
  have hfl:=Z0j hG ht hf4
  have f4:(f:Int)<4:=by omega
  obtain ⟨xb,hxb⟩:∃ b,256*(c+1)+2=b:=⟨_,rfl⟩
  obtain ⟨pb,hpb⟩:∃ b,256*(c+1+1+1)+2=b:=⟨_,rfl⟩
  have ox:Zm4 xb vb db eb tb:=⟨by omega,by omega,by omega,by omega⟩
  have op:Zm4 pb vb db eb tb:=⟨by omega,by omega,by omega,by omega⟩
  have hst:∀ H:FH,stN (newB H xb [.int .i64 0,.int .i64 0,.int .i64 0,.int .i64 0,.int .i64 0]) 5 (.pointer (some ⟨xb,0,none⟩)) (av (Z03 Gl t f))=some (newB H xb (ints (Z03 Gl t f))):=fun H=>stN_all _ _ 5 _ _ hfl rfl
  have b0:∀ H:FH,ld1 (newB H xb (ints (Z03 Gl t f))) (.pointer (some ⟨xb,0,none⟩))=some (.int .i64 (Z0x (Z03 Gl t f))):=fun H=>by rw [ld1_newB_same,ints_getD _ _ qO]; rfl
  by_cases hg:Z0x (Z03 Gl t f)<0
  · have qv:vF Gl t f=[]:=if_pos hg
    have qd:dF Gl t f=[]:=if_pos hg
    have qe:eF Gl t f=[]:=if_pos hg
    have qt:tF Gl t f=[]:=if_pos hg
    have hk:=ih (f+1) V D E T qO (by rw [upL,qv,List.append_nil]; exact jv) (by rw [upL,qd,List.append_nil]; exact jd) (by rw [upL,qe,List.append_nil]; exact je) (by rw [upL,qt,List.append_nil]; exact jt)
    obtain ⟨S,hS⟩:∃ S,fH h0 vb db eb tb V D E T=S:=⟨_,rfl⟩
    have w1:=hst S
    have w2:=b0 S
    rw [hS] at hk ⊢
    obtain ⟨F,hF⟩:∃ F,Z03 Gl t f=F:=⟨_,rfl⟩
    rw [hF] at w1 w2 x1' hg
    refine Ans.lpG rfl rfl (Z2N ..) ?_
    unfold Z3u
    have sB:Z0s c S (newB S xb (ints F)):=fun j hj=>by rw [Z01,if_neg qO]
    repeat' (first | ((with_reducible first | refine Ans.bz ?_ | refine Ans.r1 ?_ | refine Ans.pkT ?_ | refine Ans.pkF ?_); try dsimp only [v_zero,v_succ]) | (with_reducible first | refine Ans.btL ?_ | refine Ans.bfL ?_ | refine Ans.gyT ?_ | refine Ans.gyF ?_ | refine Ans.gyG ?_ | refine Ans.bb ?_ | refine Ans.bc ?_ | refine Ans.ba ?_) | ((with_reducible first | refine Ans.lsT ?_ ?_ | refine Ans.leT ?_ ?_ | refine Ans.grT ?_ ?_ | refine Ans.geT ?_ ?_ | refine Ans.eqT ?_ ?_ | refine Ans.neT ?_ ?_); (focus omega)) | ((with_reducible first | refine Ans.lsF ?_ ?_ | refine Ans.leF ?_ ?_ | refine Ans.grF ?_ ?_ | refine Ans.geF ?_ ?_ | refine Ans.eqF ?_ ?_ | refine Ans.neF ?_ ?_); (focus omega)) | (with_reducible first | refine Ans.lsS (fun _=>?_) (fun _=>?_) | refine Ans.leS (fun _=>?_) (fun _=>?_) | refine Ans.grS (fun _=>?_) (fun _=>?_) | refine Ans.geS (fun _=>?_) (fun _=>?_) | refine Ans.eqS (fun _=>?_) (fun _=>?_) | refine Ans.neS (fun _=>?_) (fun _=>?_)) | ((with_reducible first | refine Ans.addN ?_ ?_ | refine Ans.add ?_ ?_ | refine Ans.sub ?_ ?_ | refine Ans.mul ?_ ?_); (focus omega)) | ((with_reducible first | refine Ans.ct ?_ ?_); (focus (simp (disch:=(first | omega | with_reducible assumption | (simp <;> omega) | fail)) [x1',hxb,w1,w2,hg,-ld1_newB_same]; done))) | ((with_reducible first | refine Ans.cf ?_ ?_); (focus (simp (disch:=(first | omega | with_reducible assumption | (simp <;> omega) | fail)) [x1',hxb,w1,w2,hg,-ld1_newB_same]; done))) | (refine Ans.step (by simp (disch:=(first | omega | with_reducible assumption | (simp <;> omega) | fail)) [x1',hxb,w1,w2,hg,-ld1_newB_same,-List.getD_eq_getElem?_getD] <;> rfl) ?_; try dsimp only [v_zero,v_succ]) | fail)
    (have fx:=ai lc (ai o1 (ai o2 (ai o3 (ai orow sB)))); refine Ans.nx0 ?_; clear fx)
    exact hk
  · have qv:vF Gl t f=upL (vI Gl t f) 4:=if_neg hg
    have qd:dF Gl t f=upL (dI Gl t f) 4:=if_neg hg
    have qe:eF Gl t f=upL (eI Gl t f) 4:=if_neg hg
    have qt:tF Gl t f=[(4*t+f,4*fU Gl t f+fJ Gl t f f)]:=if_neg hg
    obtain ⟨h1,hh1⟩:∃ h1,newB (newB h0 xb (ints (Z03 Gl t f))) pb (ints (Z0d (Z03 Gl t f)))=h1:=⟨_,rfl⟩
    have x:XF Gl n t f xb pb vb db eb tb h1:=⟨by rw [← hh1]; exact (Z0f.newB_same _ _ _).newB_ne qO,by rw [← hh1]; exact Z0f.newB_same _ _ _,ox,op,hok,hG,ht,hf4,hg⟩
    have e1:E4 h1 cb vb db eb tb n s:=by rw [← hh1]; exact (e.newB qO _).newB qO _
    have hu:=x.perm.2.1
    have hjf:=x.j hf4
    have t1:Z0s (c+1) h0 h1:=fun j hj=>by rw [← hh1,Z01,if_neg qO,Z01,if_neg qO]
    have ec:newB (newB (fH h0 vb db eb tb V D E T) xb (ints (Z03 Gl t f))) pb (ints (Z0d (Z03 Gl t f)))=fH h1 vb db eb tb V D E T:=by
     rw [ZcD ox,ZcD op,hh1]
    obtain ⟨T',st,gt⟩:=ZaJ (fH h1 vb db eb tb V D E T) cb 4 tb (4*n) (c+1+1+1+1+1) T (e1.tu jt.dn) qO qO (4*t+f) (4*fU Gl t f+fJ Gl t f f) qO qO []
    rw [fH_T e.q] at gt
    have jt':=jt.snoc qO qO st
    obtain ⟨q9,hq9,V',D',E',rfl,jv',jd',je'⟩:=nc_i cb vb db eb tb n xb pb t f (c+1+1+1+1+1+1) Gl T' s x1 x2 x3 (av (Z66 Gl t)) (.int .i64 f) h1 df (PV++upL (vF Gl t) f) (PD++upL (dF Gl t) f) (PE++upL (eF Gl t) f) e1 x qO qO qO qO qO qO qO
     (o1.mono qO) (o2.mono qO) (o3.mono qO) (OkV.av _ _) (OkV.int _ _ _) 4 0 V D E qO (by rw [upL,List.append_nil]; exact jv) (by rw [upL,List.append_nil]; exact jd) (by rw [upL,List.append_nil]; exact je)
    have hk:=ih (f+1) V' D' E' T' qO (by rw [upL,qv,← List.append_assoc]; exact jv') (by rw [upL,qd,← List.append_assoc]; exact jd') (by rw [upL,qe,← List.append_assoc]; exact je') (by rw [upL,qt,← List.append_assoc]; exact jt')
    have ct:=Z0c gt
    have e3:((4*t+f:Nat):Int)=4*(t:Int)+f:=by omega
    have e4:((4*fU Gl t f+fJ Gl t f f:Nat):Int)=4*(fU Gl t f:Int)+(fJ Gl t f f:Nat):=by omega
    rw [e3,e4] at ct
    simp only [Int.ofNat_eq_natCast,Int.cast_ofNat_Int] at hq9
    have a0:=x.l0 V D E T
    have a1:=x.l1 V D E T hf4
    have hgz:=x.perm.2.2
    have up:=ZaQ h0 lv ld le lt V D E T V' D' E' T'
    have sB:Z0s c (fH h0 vb db eb tb V' D' E' T') (fH h1 vb db eb tb V' D' E' T'):=Zhr h0 h1 (t1.mono qO) V' D' E' T'
    have lp:ldN (newB (fH h0 vb db eb tb V D E T) xb (ints (Z03 Gl t f))) 4 (.pointer (some ⟨xb,1,none⟩))=some (av (Z0d (Z03 Gl t f))):=by
     rw [ldN_newB_same _ _ _ _ _ (by simp [hfl])]
     unfold Z0d
     rw [Z1a,Z0G]; rfl
    have hpl:=Z44 x.perm.1
    have hst2:∀ H:FH,stN (newB H pb [.int .i64 0,.int .i64 0,.int .i64 0,.int .i64 0]) 4 (.pointer (some ⟨pb,0,none⟩)) (av (Z0d (Z03 Gl t f)))=some (newB H pb (ints (Z0d (Z03 Gl t f)))):=fun H=>stN_all _ _ 4 _ _ hpl rfl
    have w1:=hst (fH h0 vb db eb tb V D E T)
    have w2:=b0 (fH h0 vb db eb tb V D E T)
    have w3:=hst2 (newB (fH h0 vb db eb tb V D E T) xb (ints (Z03 Gl t f)))
    rw [ec] at w3
    rw [hgz] at w2
    obtain ⟨u,hu'⟩:∃ u,fU Gl t f=u:=⟨_,rfl⟩
    obtain ⟨p,hp'⟩:∃ u,fJ Gl t f f=u:=⟨_,rfl⟩
    rw [hu'] at a0 ct hu w2
    rw [hp'] at a1 ct hjf
    clear st gt jt' jv' jd' je' e3 e4 hst b0 hst2 ec
    have tn:t<60:=by have:=e.le; omega
    have un:u<60:=by have:=e.le; omega
    obtain ⟨S,hS⟩:∃ S,fH h0 vb db eb tb V D E T=S:=⟨_,rfl⟩
    obtain ⟨S1,hS1⟩:∃ S,fH h1 vb db eb tb V D E T=S:=⟨_,rfl⟩
    obtain ⟨S2,hS2⟩:∃ S,fH h1 vb db eb tb V D E T'=S:=⟨_,rfl⟩
    obtain ⟨S3,hS3⟩:∃ S,fH h1 vb db eb tb V' D' E' T'=S:=⟨_,rfl⟩
    obtain ⟨S4,hS4⟩:∃ S,fH h0 vb db eb tb V' D' E' T'=S:=⟨_,rfl⟩
    rw [hS] at up w1 w2 w3 lp ⊢
    rw [hS1] at a0 a1 ct w3
    rw [hS2] at ct hq9
    rw [hS3] at hq9 sB
    rw [hS4] at up hk sB
    obtain ⟨F,hF⟩:∃ F,Z03 Gl t f=F:=⟨_,rfl⟩
    rw [hF] at w1 w2 w3 lp x1'
    refine Ans.lpG rfl rfl (Z2N ..) ?_
    unfold Z3u
    repeat' (first | ((with_reducible first | refine Ans.bz ?_ | refine Ans.r1 ?_ | refine Ans.pkT ?_ | refine Ans.pkF ?_); try dsimp only [v_zero,v_succ]) | (with_reducible first | refine Ans.btL ?_ | refine Ans.bfL ?_ | refine Ans.gyT ?_ | refine Ans.gyF ?_ | refine Ans.gyG ?_ | refine Ans.bb ?_ | refine Ans.bc ?_ | refine Ans.ba ?_) | ((with_reducible first | refine Ans.lsT ?_ ?_ | refine Ans.leT ?_ ?_ | refine Ans.grT ?_ ?_ | refine Ans.geT ?_ ?_ | refine Ans.eqT ?_ ?_ | refine Ans.neT ?_ ?_); (focus omega)) | ((with_reducible first | refine Ans.lsF ?_ ?_ | refine Ans.leF ?_ ?_ | refine Ans.grF ?_ ?_ | refine Ans.geF ?_ ?_ | refine Ans.eqF ?_ ?_ | refine Ans.neF ?_ ?_); (focus omega)) | (with_reducible first | refine Ans.lsS (fun _=>?_) (fun _=>?_) | refine Ans.leS (fun _=>?_) (fun _=>?_) | refine Ans.grS (fun _=>?_) (fun _=>?_) | refine Ans.geS (fun _=>?_) (fun _=>?_) | refine Ans.eqS (fun _=>?_) (fun _=>?_) | refine Ans.neS (fun _=>?_) (fun _=>?_)) | ((with_reducible first | refine Ans.addN ?_ ?_ | refine Ans.add ?_ ?_ | refine Ans.sub ?_ ?_ | refine Ans.mul ?_ ?_); (focus omega)) | ((with_reducible first | refine Ans.ct ?_ ?_); (focus (simp (disch:=(first | omega | with_reducible assumption | (simp <;> omega) | fail)) [x1',hxb,w1,w2,lp,hpb,w3,a0,a1,ct,hq9,-ld1_newB_same,-ldN_newB_same]; done))) | ((with_reducible first | refine Ans.cf ?_ ?_); (focus (simp (disch:=(first | omega | with_reducible assumption | (simp <;> omega) | fail)) [x1',hxb,w1,w2,lp,hpb,w3,a0,a1,ct,hq9,-ld1_newB_same,-ldN_newB_same]; done))) | (refine Ans.step (by simp (disch:=(first | omega | with_reducible assumption | (simp <;> omega) | fail)) [x1',hxb,w1,w2,lp,hpb,w3,a0,a1,ct,hq9,-ld1_newB_same,-ldN_newB_same,-List.getD_eq_getElem?_getD] <;> rfl) ?_; try dsimp only [v_zero,v_succ]) | fail)
    (have fx:=ai lc (ai o1 (ai o2 (ai o3 (ai orow sB)))); refine Ans.nxB (B:=S4) ?_ ?_; exact (up); clear fx)
    exact hk
end Go.Proofs.Ytdodippbpdechaa
