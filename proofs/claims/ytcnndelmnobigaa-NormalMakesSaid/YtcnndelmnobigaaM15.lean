/- Parts of a proof: C3 C4 AbGo AbPm AbRn AbRow AbSub. Conditions: none. -/
import Derived.Test.YtcnndelmnobigaaM14
import Derived.Test.YtcnndelmnobigaaM8
import Derived.Test.YtcnndelmnobigaaM7
import Derived.ProofKit
set_option linter.all false
set_option maxRecDepth 100000
namespace Go.Proofs.Ytcnndelmnobigaa
open Go Go.Ab Go.Proofs
theorem Z2B (p:List Int) (hp:p.length=4) (h:FH) (c:Nat):callF G 84 [av p] h c=some (.bool (Z1s p),h,c):=Z05 (ZlR p hp h c [])
theorem Z37 (p:List Int) (hp:p.length=4) (hr:InR p) (h:FH) (c:Nat):callF G 85 [av p] h c=some (av (inv p),h,c):=Z05 (ZiO p hp hr h c [])
theorem Zlx (s:Value) (n:Nat) (Gl:List Int) (gb rb nb l c0 c:Nat) (st:ALoop) (h:FH) (hc:c0<=c) (t f:Nat) (ht:t<n) (hf:f<4)
 (hgb:gb<256*c0) (hrb:rb<256*c0) (hnb:nb<256*c0) (hl:l<256*c0) (hlr:l ≠ rb) (hlg:l ≠ gb) (hln:l ≠ nb)
 (h1:Z09 h gb [s]) (h2:SlI h c0 s 20 n Gl) (h3:Z09 h nb (ints Z8q)) (h4:HeapC.get h rb=some (.cells false none [.int .i64 0])) (h5:HeapC.get h l=some (.loop st)) (h6:st.state = .ready) :
 Ans (Z3m G l (av [(t:Int),(f:Int)]) (av (Z03 Gl t f)) (ptrTo gb) (ptrTo rb) (ptrTo nb) h c) fun r=>c<=r.c/\r.e = .ret/\r.df=[]/\r.vs=[.bool (Z0s Gl n t f)] ∧
  r.h.f l=some (.loop { st with state:=if Z0s Gl n t f then .ready else .done,pending:=if Z0s Gl n t f then none else some .ret }) ∧
  (∀ i,i<256*c->i ≠ l->r.h.f i=if i=rb/\Z0s Gl n t f=false then some (.cells false none [.int .i64 7]) else h.f i):=by
 have hx:=Z0o h2.1 ht hf
 have hp:=Z1S hx
 have ht5:(Z03 Gl t f).take 5=Z03 Gl t f:=List.take_of_length_le qO
 have hnl:Z8q.length=5:=rfl
 obtain ⟨H,hH⟩:∃ H,H=HeapC.set (newB (newB h (256*c) (ints [(t:Int),(f:Int)])) (256*(c+1)) (ints (Z03 Gl t f))) l (.loop { st with state:=.busy }):=⟨_,rfl⟩
 have hb:Z2f (newB (newB h (256*c) (ints [(t:Int),(f:Int)])) (256*(c+1)) (ints (Z03 Gl t f))) l=some H:=by
  rw [hH]
  exact Z9K (by rw [get_newB_ne _ _ _ _ qO,get_newB_ne _ _ _ _ qO]; exact h5) h6
 have r0:∀ j,j<256*c->j ≠ l->H.f j=h.f j:=by
  intro j hj hne
  rw [hH,Z0g,if_neg hne,Z08,if_neg qO,Z08,if_neg qO]
 have hol:∀ b cs,b<256*c0->Z09 h b cs->Z09 H b cs:=by
  intro b cs hb ⟨ro,op,e⟩
  have hne:b ≠ l:=by
   rintro rfl
   rw [h5] at e; cases e
  exact ⟨ro,op,(r0 b qO hne).trans e⟩
 have hA:Z09 H (256*c) (ints [(t:Int),(f:Int)]):=by
  rw [hH]
  exact (((Z09.newB_same h _ _).newB_ne qO).set_ne qO)
 have hB:Z09 H (256*(c+1)) (ints (Z03 Gl t f)):=by
  rw [hH]
  exact ((Z09.newB_same _ _ _).set_ne qO)
 have a0:ld1 H (.pointer (some ⟨256*c,0,none⟩))=some (.int .i64 t):=by rw [Z01 hA]; rfl
 have a1:ld1 H (.pointer (some ⟨256*c,1,none⟩))=some (.int .i64 f):=by rw [Z01 hA]; rfl
 have b0:ldN H 5 (.pointer (some ⟨256*(c+1),0,none⟩))=some (av (Z03 Gl t f)):=by
  rw [ldN_holds hB (by simp [hx])]; simp [ht5]
 have b1:ld1 H (.pointer (some ⟨256*(c+1),0,none⟩))=some (.int .i64 (Z0L (Z03 Gl t f))):=by
  rw [Z01 hB,Z4o,List.getElem?_eq_getElem qO]
  simp [Z0L,List.getD,List.getElem?_eq_getElem (by omega:0<(Z03 Gl t f).length)]
 have b2:ldN H 4 (.pointer (some ⟨256*(c+1),1,none⟩))=some (av (Z0e (Z03 Gl t f))):=by
  rw [ldN_holds hB (by simp [hx])]; rw [Z6j,Z6i]; rfl
 have b3:ld1 H (.pointer (some ⟨256*(c+1),1+f,none⟩))=some (.int .i64 ((Z0e (Z03 Gl t f)).getD f 0)):=by
  have hlt:1+f<(Z03 Gl t f).length:=by omega
  rw [Z01 hB,Z4o,List.getElem?_eq_getElem hlt]
  unfold Z0e
  rw [Z26 _ _ _ hf,Z27]
  simp [List.getD,List.getElem?_eq_getElem hlt]
 have e1:ldN H 5 (.pointer (some ⟨nb,0,none⟩))=some (av Z8q):=by
  rw [ldN_holds (hol nb _ hnb h3) (by simp [Z8q])]; rfl
 have e2:ld1 H (.pointer (some ⟨gb,0,none⟩))=some s:=by rw [Z01 (hol gb _ hgb h1)]; rfl
 have e3:=h2.len
 have endT:∀ c',c<=c'->Z0s Gl n t f=true->Ans ((Z0I H l .ready none).bind fun h37=>some (⟨.ret,[.bool true],h37,c',[]⟩:Rt FH)) fun r=>c<=r.c/\r.e = .ret/\r.df=[]/\r.vs=[.bool (Z0s Gl n t f)] ∧
  r.h.f l=some (.loop { st with state:=if Z0s Gl n t f then .ready else .done,pending:=if Z0s Gl n t f then none else some .ret }) ∧
  (∀ i,i<256*c->i ≠ l->r.h.f i=if i=rb/\Z0s Gl n t f=false then some (.cells false none [.int .i64 7]) else h.f i):=by
  intro c' hc' ok
  rw [ok,hH,setState_set]
  simp only [Option.bind_some,Ans_some,if_true,Bool.true_eq_false,and_false,if_false]
  refine ⟨hc',trivial,trivial,trivial,by rw [Z0g,if_pos rfl],fun i hi hne=>?_⟩
  rw [Z0g,if_neg hne,Z08,if_neg qO,Z08,if_neg qO]
 have endF:∀ c',c<=c'->Z0s Gl n t f=false -> ∃ H',stN H 1 (.pointer (some ⟨rb,0,none⟩)) (.int .i64 7)=some H'/\Ans ((Z0I H' l .done (some .ret)).bind fun h36=>some (⟨.ret,[.bool false],h36,c',[]⟩:Rt FH)) fun r=>c<=r.c/\r.e = .ret/\r.df=[]/\r.vs=[.bool (Z0s Gl n t f)] ∧
  r.h.f l=some (.loop { st with state:=if Z0s Gl n t f then .ready else .done,pending:=if Z0s Gl n t f then none else some .ret }) ∧
  (∀ i,i<256*c->i ≠ l->r.h.f i=if i=rb/\Z0s Gl n t f=false then some (.cells false none [.int .i64 7]) else h.f i):=by
  intro c' hc' ok
  have hg:HeapC.get H rb=some (.cells false none [.int .i64 0]):=(r0 rb qO (Ne.symm hlr)).trans h4
  refine ⟨_,Z12 (cs:=[.int .i64 0]) hg (by simp) rfl rfl, ?_⟩
  rw [ok,setState_set_ne _ _ _ _ _ _ hlr,hH,setState_set]
  simp only [Option.map_some,Option.bind_some,Ans_some,Bool.false_eq_true,if_false,and_true]
  refine ⟨hc',trivial,trivial,trivial,by rw [Z0g,if_neg hlr,Z0g,if_pos rfl],fun i hi hne=>?_⟩
  rw [Z0g]
  split
  · rfl
  · rw [Z0g,if_neg hne,Z08,if_neg qO,Z08,if_neg qO]
 clear hH
 have hface:∀ u j:Int,0<=u->u<n->0<=j->j<4 -> ∃ b o,ixS 20 s (.int .i64 u)=some (.pointer (some ⟨b,o+u.toNat*20,none⟩))/\ldN H 5 (.pointer (some ⟨b,o+u.toNat*20+j.toNat*5,none⟩))=some (av (Z03 Gl u.toNat j.toNat)):=by
  intro u j u1 u2 j1 j2
  obtain ⟨b,o,cs,x1,x2,x3,x4⟩:=h2.ix .i64 u u1 u2
  refine ⟨b,o,x1, ?_⟩
  have:=h2.1
  rw [Nat.add_assoc,Zdl (hol b cs x2 x3) x4 (j:=u.toNat*20+j.toNat*5) (q:=5) qO qO]
  unfold Z03
  rw [Nat.mul_comm 20,Nat.mul_comm 5]
 unfold Z3m
 rw [stN_ptrTo,Nat.add_zero,stN_all _ _ 2 _ [(t:Int),(f:Int)] rfl rfl]
 simp only [Option.bind_some]
 rw [stN_ptrTo,Nat.add_zero,stN_all _ _ 5 _ _ hx rfl]
 simp only [Option.bind_some,hb]
 by_cases q1:Z03 Gl t f=Z8q
 · have ok:Z0s Gl n t f=true:=by simp [Z0s,q1]
   refine Ans.step (v:=(⟨.normal,[],H,c+1+1+1,[]⟩:Rt FH)) ?_ (endT (c+1+1+1) qO ok)
   apply Ans.eq
   repeat (first | (with_reducible refine Ans.bt ?_ ?_; exact rfl) | (with_reducible refine Ans.bf ?_ ?_; exact rfl) | (with_reducible refine Ans.ct ?_ ?_; focus (simp; done)) | (with_reducible refine Ans.cf ?_ ?_; focus (simp; done)) | refine Ans.step (by (simp (disch:=(first | omega | (simp <;> omega) | fail)) [b0,e1,Z4v,hx,hnl,q1,-List.getD_eq_getElem?_getD]) <;> rfl) ?_)
   exact Ans.done rfl
 · by_cases q2:Z0L (Z03 Gl t f)<0
   · have ok:Z0s Gl n t f=false:=by
      have:¬ (0<=Z0L (Z03 Gl t f)):=by omega
      simp [Z0s,q1,this]
     obtain ⟨H',x1,x2⟩:=endF (c+1+1+1+1+1) qO ok
     refine Ans.step (v:=(⟨.ret,[],H',c+1+1+1+1+1,[]⟩:Rt FH)) ?_ x2
     apply Ans.eq
     repeat (first | (with_reducible refine Ans.bt ?_ ?_; exact rfl) | (with_reducible refine Ans.bf ?_ ?_; exact rfl) | (with_reducible refine Ans.ct ?_ ?_; focus (simp; done)) | (with_reducible refine Ans.cf ?_ ?_; focus (simp; done)) | refine Ans.step (by (simp (disch:=(first | omega | (simp <;> omega) | fail)) [b0,b1,e1,Z4v,hx,hnl,q1,q2,x1,-List.getD_eq_getElem?_getD]) <;> rfl) ?_)
     exact Ans.done rfl
   · by_cases q3:(n:Int)<=Z0L (Z03 Gl t f)
     · have ok:Z0s Gl n t f=false:=by
        have:¬ (Z0L (Z03 Gl t f)<n):=by omega
        simp [Z0s,q1,this]
       obtain ⟨H',x1,x2⟩:=endF (c+1+1+1+1+1) qO ok
       refine Ans.step (v:=(⟨.ret,[],H',c+1+1+1+1+1,[]⟩:Rt FH)) ?_ x2
       apply Ans.eq
       repeat (first | (with_reducible refine Ans.bt ?_ ?_; exact rfl) | (with_reducible refine Ans.bf ?_ ?_; exact rfl) | (with_reducible refine Ans.ct ?_ ?_; focus (simp; done)) | (with_reducible refine Ans.cf ?_ ?_; focus (simp; done)) | refine Ans.step (by (simp (disch:=(first | omega | (simp <;> omega) | fail)) [b0,b1,e1,e2,e3,Z4v,hx,hnl,q1,q2,q3,x1,-List.getD_eq_getElem?_getD]) <;> rfl) ?_)
       exact Ans.done rfl
     · cases q4:Z1s (Z0e (Z03 Gl t f)) with
       | false =>
        have ok:Z0s Gl n t f=false:=by simp [Z0s,q1,q4]
        obtain ⟨H',x1,x2⟩:=endF (c+1+1+1+1+1) qO ok
        refine Ans.step (v:=(⟨.ret,[],H',c+1+1+1+1+1,[]⟩:Rt FH)) ?_ x2
        apply Ans.eq
        repeat (first | (with_reducible refine Ans.bt ?_ ?_; exact rfl) | (with_reducible refine Ans.bf ?_ ?_; exact rfl) | (with_reducible refine Ans.ct ?_ ?_; focus (simp; done)) | (with_reducible refine Ans.cf ?_ ?_; focus (simp; done)) | refine Ans.step (by (simp (disch:=(first | omega | (simp <;> omega) | fail)) [b0,b1,b2,e1,e2,e3,Z4v,hx,hnl,q1,q2,q3,q4,x1,Z2B,hp,-List.getD_eq_getElem?_getD]) <;> rfl) ?_)
        exact Ans.done rfl
       | true =>
        have hr:=Z2J q4
        have hpr:0<=(Z0e (Z03 Gl t f)).getD f 0/\(Z0e (Z03 Gl t f)).getD f 0<4:=by
         have hlt:f<(Z0e (Z03 Gl t f)).length:=by omega
         have:=hr _ (List.getElem_mem hlt)
         simpa [List.getD,List.getElem?_eq_getElem hlt] using this
        have ft:(f:Int)<4:=by omega
        by_cases q5:Z0L (Z03 Gl t f)=t/\(Z0e (Z03 Gl t f)).getD f 0=f
        · obtain ⟨q5,q6⟩:=q5
          have ok:Z0s Gl n t f=false:=by simp [Z0s,q1,q5,q6,-List.getD_eq_getElem?_getD]
          obtain ⟨H',x1,x2⟩:=endF (c+1+1+1+1+1) qO ok
          have q2':¬ (t:Int)<0:=by omega
          have q3':¬ (n:Int)<=t:=by omega
          refine Ans.step (v:=(⟨.ret,[],H',c+1+1+1+1+1,[]⟩:Rt FH)) ?_ x2
          apply Ans.eq
          repeat (first | (with_reducible refine Ans.bt ?_ ?_; exact rfl) | (with_reducible refine Ans.bf ?_ ?_; exact rfl) | (with_reducible refine Ans.ct ?_ ?_; focus (simp; done)) | (with_reducible refine Ans.cf ?_ ?_; focus (simp; done)) | refine Ans.step (by (simp (disch:=(first | omega | (simp <;> omega) | fail)) [b0,b1,b2,b3,a0,a1,e1,e2,e3,Z4v,hx,hnl,q1,q2',q3',q4,q5,q6,ft,x1,Z2B,hp,-List.getD_eq_getElem?_getD]) <;> rfl) ?_)
          exact Ans.done rfl
        · obtain ⟨b,o,f1,f2⟩:=hface (Z0L (Z03 Gl t f)) ((Z0e (Z03 Gl t f)).getD f 0) qO qO hpr.1 hpr.2
          have hfl:(Z03 Gl (Z0L (Z03 Gl t f)).toNat ((Z0e (Z03 Gl t f)).getD f 0).toNat).length=5:=Z0o h2.1 qO qO
          have hil:(inv (Z0e (Z03 Gl t f))).length=4:=Z4e _ _ _
          have hil5:((t:Int)::inv (Z0e (Z03 Gl t f))).length=5:=by rw [List.length_cons,hil]
          have q5d:(decide (Z0L (Z03 Gl t f)=(t:Int)) && decide ((Z0e (Z03 Gl t f)).getD f 0=(f:Int)))=false:=by simpa [-List.getD_eq_getElem?_getD] using q5
          have key:∀ X:Bool,decide (Z03 Gl (Z0L (Z03 Gl t f)).toNat ((Z0e (Z03 Gl t f)).getD f 0).toNat=(t:Int)::inv (Z0e (Z03 Gl t f)))=X->Z0s Gl n t f=X:=by
           intro X hX
           unfold Z0s
           rw [hX,q5d,q4]
           have z1:0<=Z0L (Z03 Gl t f):=by omega
           have z2:Z0L (Z03 Gl t f)<n:=by omega
           simp [q1,z1,z2]
          have dd:∃ X:Bool,decide (Z0L (Z03 Gl t f)=(t:Int))=X/\(X=true->decide ((Z0e (Z03 Gl t f)).getD f 0=(f:Int))=false):=by
           refine ⟨_,rfl,fun e=>?_⟩
           rw [e] at q5d
           simpa only [Bool.true_and] using q5d
          obtain ⟨X,d5,d6⟩:=dd
          cases q7:decide (Z03 Gl (Z0L (Z03 Gl t f)).toNat ((Z0e (Z03 Gl t f)).getD f 0).toNat=(t:Int)::inv (Z0e (Z03 Gl t f))) with
          | true =>
           have ok:=key _ q7
           refine Ans.step (v:=(⟨.normal,[],H,c+1+1+1+1+1,[]⟩:Rt FH)) ?_ (endT (c+1+1+1+1+1) qO ok)
           apply Ans.eq
           cases X with
           | true =>
            have d6':=d6 rfl
            repeat (first | (with_reducible refine Ans.bt ?_ ?_; exact rfl) | (with_reducible refine Ans.bf ?_ ?_; exact rfl) | (with_reducible refine Ans.ct ?_ ?_; focus (simp; done)) | (with_reducible refine Ans.cf ?_ ?_; focus (simp; done)) | refine Ans.step (by (simp (disch:=(first | omega | (simp <;> omega) | fail)) [b0,b1,b2,b3,a0,a1,e1,e2,e3,Z4v,Z6B,hx,hnl,q1,q2,q3,q4,d5,d6',ft,Z2B,Z37,hp,hr,hpr,f1,f2,Zs1,hil,hfl,q7,-List.getD_eq_getElem?_getD]) <;> rfl) ?_)
            exact Ans.done rfl
           | false =>
            repeat (first | (with_reducible refine Ans.bt ?_ ?_; exact rfl) | (with_reducible refine Ans.bf ?_ ?_; exact rfl) | (with_reducible refine Ans.ct ?_ ?_; focus (simp; done)) | (with_reducible refine Ans.cf ?_ ?_; focus (simp; done)) | refine Ans.step (by (simp (disch:=(first | omega | (simp <;> omega) | fail)) [b0,b1,b2,b3,a0,a1,e1,e2,e3,Z4v,Z6B,hx,hnl,q1,q2,q3,q4,d5,ft,Z2B,Z37,hp,hr,hpr,f1,f2,Zs1,hil,hfl,q7,-List.getD_eq_getElem?_getD]) <;> rfl) ?_)
            exact Ans.done rfl
          | false =>
           have ok:=key _ q7
           obtain ⟨H',x1,x2⟩:=endF (c+1+1+1+1+1+1) qO ok
           refine Ans.step (v:=(⟨.ret,[],H',c+1+1+1+1+1+1,[]⟩:Rt FH)) ?_ x2
           apply Ans.eq
           cases X with
           | true =>
            have d6':=d6 rfl
            repeat (first | (with_reducible refine Ans.bt ?_ ?_; exact rfl) | (with_reducible refine Ans.bf ?_ ?_; exact rfl) | (with_reducible refine Ans.ct ?_ ?_; focus (simp; done)) | (with_reducible refine Ans.cf ?_ ?_; focus (simp; done)) | refine Ans.step (by (simp (disch:=(first | omega | (simp <;> omega) | fail)) [b0,b1,b2,b3,a0,a1,e1,e2,e3,Z4v,Z6B,hx,hnl,q1,q2,q3,q4,d5,d6',ft,Z2B,Z37,hp,hr,hpr,f1,f2,Zs1,hil,hfl,q7,x1,-List.getD_eq_getElem?_getD]) <;> rfl) ?_)
            exact Ans.done rfl
           | false =>
            repeat (first | (with_reducible refine Ans.bt ?_ ?_; exact rfl) | (with_reducible refine Ans.bf ?_ ?_; exact rfl) | (with_reducible refine Ans.ct ?_ ?_; focus (simp; done)) | (with_reducible refine Ans.cf ?_ ?_; focus (simp; done)) | refine Ans.step (by (simp (disch:=(first | omega | (simp <;> omega) | fail)) [b0,b1,b2,b3,a0,a1,e1,e2,e3,Z4v,Z6B,hx,hnl,q1,q2,q3,q4,d5,ft,Z2B,Z37,hp,hr,hpr,f1,f2,Zs1,hil,hfl,q7,x1,-List.getD_eq_getElem?_getD]) <;> rfl) ?_)
            exact Ans.done rfl

structure ChkI (s:Value) (n:Nat) (Gl:List Int) (gb gi rb nb l:Nat) (st:ALoop) (c0 ce:Nat) (h0:FH) (k:Nat) (h:FH) (c:Nat):Prop where
 lc:c0<=c
 g:Z09 h gb [s]
 i:Z09 h gi [s]
 sl:SlI h c0 s 20 n Gl
 nn:Z09 h nb (ints Z8q)
 res:h.f rb=some (.cells false none [.int .i64 0])
 loop:h.f l=some (.loop st)
 dfr:h.f (l+1)=some .dfr
 same:Z0u ce h0 h
 ok:Zkq Gl n k
structure ChkJ (n:Nat) (Gl:List Int) (rb l:Nat) (st:ALoop) (c0 ce:Nat) (h0:FH) (h:FH) (c:Nat):Prop where
 lc:c0<=c
 res:h.f rb=some (.cells false none [.int .i64 7])
 loop:h.f l=some (.loop { st with state:=.done,pending:=some .ret })
 dfr:h.f (l+1)=some .dfr
 same:Z0u ce h0 h
 bad:∃ j,j<4*n/\Z0s Gl n (j / 4) (j % 4)=false
theorem Zpl (s:Value) (n:Nat) (Gl:List Int) (h0:FH) (ce:Nat) (df:List Nat) (hs:SlI h0 ce s 20 n Gl) :
 G (.fn 70) [.agg #[s]] h0 ce df=some ⟨.ret,[.int .i64 (if n<=1000/\Z0t Gl n=true then 0 else 7)],h0,ce,[]⟩:=by
 refine Z7h (fun r e=>f70_go e) (by simp) ?_
 have hflat:((Value.agg #[s]).cells.toList.all Z0c)=true:=by
  obtain ⟨_,_,a,cap,rfl,_⟩:=hs
  rfl
 have hcell:(Value.agg #[s]).cells.toList=[s]:=rfl
 have hlen:=hs.len
 unfold Zl6
 rw [hflat,hcell]
 simp only [cond_true]
 by_cases hn:n<=1000
 · have hn':¬ (1000:Int)<n:=by omega
   have hbn:Z4w [.int .i64 0,.int .i64 0,.int .i64 0,.int .i64 0,.int .i64 0] [(0,1,.int .i64 (-1))]=some (av Z8q):=rfl
   have hnl:Z8q.length=5:=rfl
   repeat (first | (with_reducible refine Ans.bt ?_ ?_; exact rfl) | (with_reducible refine Ans.bf ?_ ?_; exact rfl) | (with_reducible refine Ans.ct ?_ ?_; focus (simp; done)) | (with_reducible refine Ans.cf ?_ ?_; focus (simp; done)) | refine Ans.step (by (simp (disch:=(first | omega | (simp <;> omega) | fail)) [hlen,hn',hbn,hnl,-List.getD_eq_getElem?_getD]) <;> rfl) ?_)
   obtain ⟨H,hH⟩:∃ H,H=newB (newB (newB h0 (256*ce) [s]) (256*ce+1) [.int .i64 0]) (256*(ce+1+1)+1) (ints Z8q):=⟨_,rfl⟩
   have hc130:callF G 83 [.agg #[s]] H (ce+1+1+1+1)=some (.func (.func 91) [].toArray [ptrTo (256*(ce+1+1+1+1))].toArray,newB H (256*(ce+1+1+1+1)) [s],ce+1+1+1+1+1+1):=by
    refine Z05 (f83_go (r:=⟨.ret,[_],_,_,[]⟩) ?_)
    unfold Zl0
    rw [hflat,hcell]
    simp
   rw [← hH]
   refine Ans.step hc130 ?_
   dsimp only
   simp only [Nat.add_zero]
   obtain ⟨l,hl⟩:∃ l,l=256*(ce+1+1+1+1+1+1):=⟨_,rfl⟩
   obtain ⟨st,hst⟩:∃ st,st=Z7a 71 [1,2,3] #[13,14] Z1E Z1D [ptrTo (256*ce),ptrTo (256*ce+1),ptrTo (256*(ce+1+1)+1)] (l+1):=⟨_,rfl⟩
   have hI:FacesI (.func (.yield l) #[] #[]) s n Gl (256*(ce+1+1+1+1))
    (ChkI s n Gl (256*ce) (256*(ce+1+1+1+1)) (256*ce+1) (256*(ce+1+1)+1) l st (ce+1+1+1+1+1+1+1) ce h0)
    (ChkJ n Gl (256*ce+1) l st (ce+1+1+1+1+1+1+1) ce h0):=by
    refine ⟨fun k h c h' c' hi hc hs=>?_,fun h c h' c' hj hc hs=>?_,fun k h c hi=>⟨hi.i,hi.sl.mono hi.lc⟩,fun t f h c ht hf hi=>?_⟩
    · have:=hi.lc
      exact ⟨by omega,hi.g.same qO hs,hi.i.same qO hs,hi.sl.same (hs.mono qO),hi.nn.same qO hs,(hs _ qO).trans hi.res,(hs _ qO).trans hi.loop,(hs _ qO).trans hi.dfr,hi.same.trans (hs.mono qO),hi.ok⟩
    · have:=hj.lc
      exact ⟨by omega,(hs _ qO).trans hj.res,(hs _ qO).trans hj.loop,(hs _ qO).trans hj.dfr,hj.same.trans (hs.mono qO),hj.bad⟩
    · have hlc:=hi.lc
      refine Zb6 (st:=st) hi.loop (by rw [hst]; rfl) (by rw [hst]; rfl) ?_
      obtain ⟨r,hr,r1,r2,r3,r4,r5,r6⟩:=Zlx s n Gl (256*ce) (256*ce+1) (256*(ce+1+1)+1) l (ce+1+1+1+1+1+1+1) c st h hlc t f ht hf qO qO qO qO qO qO qO
       hi.g hi.sl hi.nn hi.res hi.loop (by rw [hst]; rfl)
      have hk:G (.rnd st.nt st.lin st.fr st.params l st.assign st.body) ([av [(t:Int),(f:Int)],av (Z03 Gl t f)]++st.vals) h c []=some r:=by rw [hst]; exact Zj4 hr
      refine .intro hk ⟨_,r4,r1, ?_⟩
      dsimp only
      have hk4:(4*t+f) / 4=t/\(4*t+f) % 4=f:=by omega
      have hold:∀ b cs,b<256*c->b ≠ l->b ≠ 256*ce+1->Z09 h b cs->Z09 r.h b cs:=by
       intro b cs h1 h2 h3 ⟨ro,op,e⟩
       refine ⟨ro,op, ?_⟩
       have:=r6 b h1 h2
       rw [if_neg (fun hh=>h3 hh.1)] at this
       exact this.trans e
      cases hok:Z0s Gl n t f with
      | true =>
       left
       rw [hok] at r5 r6
       refine ⟨rfl, ?_⟩
       have hfe:∀ i,i<256*c->r.h.f i=h.f i:=by
        intro i hi'
        by_cases e:i=l
        · rw [e,r5,hi.loop]; rw [hst]; rfl
        · rw [r6 i hi' e,if_neg (fun hh=>by cases hh.2)]
       have hsm:Z0u c h r.h:=hfe
       refine ⟨by omega,hi.g.same qO hsm,hi.i.same qO hsm,hi.sl.same (hsm.mono qO),hi.nn.same qO hsm,(hsm _ qO).trans hi.res,(hsm _ qO).trans hi.loop,(hsm _ qO).trans hi.dfr,hi.same.trans (hsm.mono qO), ?_⟩
       intro j hj
       by_cases e:j=4*t+f
       · rw [e,hk4.1,hk4.2]; exact hok
       · exact hi.ok j qO
      | false =>
       right
       rw [hok] at r5 r6
       refine ⟨rfl,by omega, ?_, ?_, ?_, ?_,⟨4*t+f,by omega,by rw [hk4.1,hk4.2]; exact hok⟩⟩
       · rw [r6 _ qO qO,if_pos ⟨rfl,rfl⟩]
       · rw [r5]; rfl
       · rw [r6 _ qO qO,if_neg qO]; exact hi.dfr
       · intro i hi'
         rw [r6 i qO qO,if_neg qO]
         exact hi.same i hi'
   have hH0:∀ i,i<256*ce->H.f i=h0.f i:=by
    intro i hi'
    rw [hH,Z08,if_neg qO,Z08,if_neg qO,Z08,if_neg qO]
   obtain ⟨E,hE⟩:∃ E,E=Z2N (newB H (256*(ce+1+1+1+1)) [s]) (ce+1+1+1+1+1+1) 71 [1,2,3] #[13,14] Z1E Z1D [ptrTo (256*ce),ptrTo (256*ce+1),ptrTo (256*(ce+1+1)+1)]:=⟨_,rfl⟩
   have hEf:∀ i,i<l->E.f i=(newB H (256*(ce+1+1+1+1)) [s]).f i:=by
    intro i hi'
    rw [hE,Z4q,if_neg qO,if_neg qO]
   have hI0:ChkI s n Gl (256*ce) (256*(ce+1+1+1+1)) (256*ce+1) (256*(ce+1+1)+1) l st (ce+1+1+1+1+1+1+1) ce h0 0 E (ce+1+1+1+1+1+1+1):=by
    have hsame:Z0u ce h0 E:=by
     intro i hi'
     rw [hEf i qO,Z08,if_neg qO]
     exact hH0 i hi'
    refine ⟨Nat.le_refl _,⟨false,none, ?_⟩,⟨false,none, ?_⟩,(hs.same hsame).mono qO,⟨false,none, ?_⟩, ?_, ?_, ?_,hsame,fun j hj=>by omega⟩
    · show E.f _=_
      rw [hEf _ qO,Z08,if_neg qO,hH,Z08,if_neg qO,Z08,if_neg qO,Z08,if_pos rfl]
    · show E.f _=_
      rw [hEf _ qO,Z08,if_pos rfl]
    · show E.f _=_
      rw [hEf _ qO,Z08,if_neg qO,hH,Z08,if_pos rfl]
    · rw [hEf _ qO,Z08,if_neg qO,hH,Z08,if_neg qO,Z08,if_pos rfl]
    · rw [hE,Z4q,if_pos hl,hst,hl]
    · rw [hE,Z4q,if_neg qO,if_pos qO]
   obtain ⟨⟨re,rv,rh,rc,rd⟩,hr,r1,r2,r3,r4,r5⟩:=Zo9 hI hI0 []
   simp only at r1 r2 r3 r4 r5
   subst r1 r2 r3
   rw [hl,hE] at hr
   rcases r5 with r5 | r5
   · have hall:Z0t Gl n=true:=(Z6f Gl n).2 r5.ok
     rw [if_pos ⟨hn,hall⟩]
     have hlc:=r5.lc
     have hg:HeapC.get rh (256*ce+1)=some (.cells false none [.int .i64 0]):=r5.res
     refine Ans.head (R:=fun q=>q=(Ex.normal,HeapC.del rh l,rc,[l+1])) (Z7A (.intro hr ⟨st,.normal,by rw [← hl]; exact r5.loop,by rw [hst]; simp [Z7a],by rw [hst]; rfl,by rw [hl]⟩)) ?_
     rintro _ rfl
     have e1:stN (HeapC.del rh l) 1 (.pointer (some ⟨256*ce+1,0,none⟩)) (.int .i64 0)=some (HeapC.set (HeapC.del rh l) (256*ce+1) (.cells false none [.int .i64 0])) :=
      Z12 (cs:=[.int .i64 0]) (by rw [get_del_ne _ _ _ qO]; exact hg) (by simp) rfl rfl
     have e2:Z0a (HeapC.set (HeapC.del rh l) (256*ce+1) (.cells false none [.int .i64 0])) [l+1]=some (HeapC.del (HeapC.set (HeapC.del rh l) (256*ce+1) (.cells false none [.int .i64 0])) (l+1)):=by
      have:HeapC.get (HeapC.set (HeapC.del rh l) (256*ce+1) (.cells false none [.int .i64 0])) (l+1)=some .dfr:=by
       rw [get_set_ne _ _ _ _ qO,get_del_ne _ _ _ qO]; exact r5.dfr
      simp [Z0a,this]
     have e3:ld1 (HeapC.del (HeapC.set (HeapC.del rh l) (256*ce+1) (.cells false none [.int .i64 0])) (l+1)) (.pointer (some ⟨256*ce+1,0,none⟩))=some (.int .i64 0):=by
      rw [ld1_del_ne _ _ _ _ qO]
      exact ld1_holds ⟨_,_,get_set_same _ _ _⟩ rfl
     repeat (first | (with_reducible refine Ans.bt ?_ ?_; exact rfl) | (with_reducible refine Ans.bf ?_ ?_; exact rfl) | (with_reducible refine Ans.ct ?_ ?_; focus (simp; done)) | (with_reducible refine Ans.cf ?_ ?_; focus (simp; done)) | refine Ans.step (by (simp (disch:=(first | omega | (simp <;> omega) | fail)) [e1,e2,e3,-List.getD_eq_getElem?_getD]) <;> rfl) ?_)
     refine Ans.done ⟨rfl,rfl, ?_,rfl⟩
     intro i hi'
     show (HeapC.del (HeapC.set (HeapC.del rh l) (256*ce+1) (.cells false none [.int .i64 0])) (l+1)).f i=_
     rw [Z9I,if_neg qO,Z0g,if_neg qO,Z9I,if_neg qO]
     exact r5.same i hi'
   · have hall:¬ (n<=1000/\Z0t Gl n=true):=by
      rintro ⟨_,h⟩
      obtain ⟨j,h1,h2⟩:=r5.bad
      have:=(Z6f Gl n).1 h j h1
      rw [h2] at this; cases this
     rw [if_neg hall]
     have hlc:=r5.lc
     have hg:HeapC.get rh (256*ce+1)=some (.cells false none [.int .i64 7]):=r5.res
     refine Ans.head (R:=fun q=>q=(Ex.ret,HeapC.del rh l,rc,[l+1])) (Z7A (.intro hr ⟨_,.ret,by rw [← hl]; exact r5.loop,by simp,rfl,by rw [hl]⟩)) ?_
     rintro _ rfl
     have e2:Z0a (HeapC.del rh l) [l+1]=some (HeapC.del (HeapC.del rh l) (l+1)):=by
      have:HeapC.get (HeapC.del rh l) (l+1)=some .dfr:=by
       rw [get_del_ne _ _ _ qO]; exact r5.dfr
      simp [Z0a,this]
     have e3:ld1 (HeapC.del (HeapC.del rh l) (l+1)) (.pointer (some ⟨256*ce+1,0,none⟩))=some (.int .i64 7):=by
      rw [ld1_del_ne _ _ _ _ qO,ld1_del_ne _ _ _ _ qO]
      exact ld1_holds ⟨_,_,hg⟩ rfl
     repeat (first | (with_reducible refine Ans.bt ?_ ?_; exact rfl) | (with_reducible refine Ans.bf ?_ ?_; exact rfl) | (with_reducible refine Ans.ct ?_ ?_; focus (simp; done)) | (with_reducible refine Ans.cf ?_ ?_; focus (simp; done)) | refine Ans.step (by (simp (disch:=(first | omega | (simp <;> omega) | fail)) [e2,e3,-List.getD_eq_getElem?_getD]) <;> rfl) ?_)
     refine Ans.done ⟨rfl,rfl, ?_,rfl⟩
     intro i hi'
     show (HeapC.del (HeapC.del rh l) (l+1)).f i=_
     rw [Z9I,if_neg qO,Z9I,if_neg qO]
     exact r5.same i hi'
 · have hn':(1000:Int)<n:=by omega
   have:¬ (n<=1000/\Z0t Gl n=true):=fun h=>hn h.1
   rw [if_neg this]
   repeat (first | (with_reducible refine Ans.bt ?_ ?_; exact rfl) | (with_reducible refine Ans.bf ?_ ?_; exact rfl) | (with_reducible refine Ans.ct ?_ ?_; focus (simp; done)) | (with_reducible refine Ans.cf ?_ ?_; focus (simp; done)) | refine Ans.step (by (simp (disch:=(first | omega | (simp <;> omega) | fail)) [hlen,hn',-List.getD_eq_getElem?_getD]) <;> rfl) ?_)
   refine Ans.done ?_
   simp (disch:=omega)
end Go.Proofs.Ytcnndelmnobigaa

namespace Go.Ab
open Go
structure Hid (q:Prop):Prop where
 h:q
theorem Ans.go {β:Type} {x:Option β} {Q:β->Prop} {q:Prop} (k:q) (h:Hid q->Ans x Q:=by
 intro kk
 repeat' (first | ((with_reducible first | refine Ans.bz ?_ | refine Ans.r1 ?_ | refine Ans.pkT ?_ | refine Ans.pkF ?_); try dsimp only [v_zero,v_succ]) | (with_reducible first | refine Ans.btL ?_ | refine Ans.bfL ?_ | refine Ans.gyT ?_ | refine Ans.gyF ?_ | refine Ans.gyG ?_ | refine Ans.bb ?_ | refine Ans.bc ?_ | refine Ans.ba ?_) | ((with_reducible first | refine Ans.lsT ?_ ?_ | refine Ans.leT ?_ ?_ | refine Ans.grT ?_ ?_ | refine Ans.geT ?_ ?_ | refine Ans.eqT ?_ ?_ | refine Ans.neT ?_ ?_); (focus omega)) | ((with_reducible first | refine Ans.lsF ?_ ?_ | refine Ans.leF ?_ ?_ | refine Ans.grF ?_ ?_ | refine Ans.geF ?_ ?_ | refine Ans.eqF ?_ ?_ | refine Ans.neF ?_ ?_); (focus omega)) | (with_reducible first | refine Ans.lsS (fun _=>?_) (fun _=>?_) | refine Ans.leS (fun _=>?_) (fun _=>?_) | refine Ans.grS (fun _=>?_) (fun _=>?_) | refine Ans.geS (fun _=>?_) (fun _=>?_) | refine Ans.eqS (fun _=>?_) (fun _=>?_) | refine Ans.neS (fun _=>?_) (fun _=>?_)) | ((with_reducible first | refine Ans.addN ?_ ?_ | refine Ans.add ?_ ?_ | refine Ans.sub ?_ ?_ | refine Ans.mul ?_ ?_); (focus omega)) | ((with_reducible first | refine Ans.ct ?_ ?_); (focus (simp (disch:=(first | omega | with_reducible assumption | (simp <;> omega) | fail)) [fx]; done))) | ((with_reducible first | refine Ans.cf ?_ ?_); (focus (simp (disch:=(first | omega | with_reducible assumption | (simp <;> omega) | fail)) [fx]; done))) | (refine Ans.step (by simp (disch:=(first | omega | with_reducible assumption | (simp <;> omega) | fail)) [fx,-List.getD_eq_getElem?_getD] <;> rfl) ?_; try dsimp only [v_zero,v_succ]) | fail)
 exact kk.h):Ans x Q:=h ⟨k⟩
theorem Ans.nx0 {o:Orc FH} {k:Key} {Q:Rt FH->Prop} {A h:FH} {c c':Nat} {vs:List Value} {df:List Nat} (e:Ans (o k vs A c df) Q) (h1:Z1c c vs:=by (simp (disch:=(first | omega | with_reducible assumption | (simp <;> omega) | fail)) [fx]; done)) (h2:Z0u c A h:=by (simp (disch:=(first | omega | with_reducible assumption | (simp <;> omega) | fail)) [fx]; done)) :
 Ans (some { e:=.normal,vs:=vs,h:=h,c:=c',df:=df }) (fun q=>Lk o k Q (gcR A c df q)):=Ans.next0 h1 h2 e
theorem Ans.ex0 {o:Orc FH} {k:Key} {Q:Rt FH->Prop} {A h:FH} {c c':Nat} {vs:List Value} {df:List Nat} {i:Nat} (e:Q { e:=.exit i,vs:=vs,h:=A,c:=c,df:=df }) (h1:Z1c c vs:=by (simp (disch:=(first | omega | with_reducible assumption | (simp <;> omega) | fail)) [fx]; done)) (h2:Z0u c A h:=by (simp (disch:=(first | omega | with_reducible assumption | (simp <;> omega) | fail)) [fx]; done)) :
 Ans (some { e:=.exit i,vs:=vs,h:=h,c:=c',df:=df }) (fun q=>Lk o k Q (gcR A c df q)):=Ans.exit0 h1 h2 e
theorem Ans.rt0 {o:Orc FH} {k:Key} {Q:Rt FH->Prop} {A h:FH} {c c':Nat} {vs:List Value} {df:List Nat} (e:Q { e:=.ret,vs:=vs,h:=A,c:=c,df:=df }) (h1:Z1c c vs:=by (simp (disch:=(first | omega | with_reducible assumption | (simp <;> omega) | fail)) [fx]; done)) (h2:Z0u c A h:=by (simp (disch:=(first | omega | with_reducible assumption | (simp <;> omega) | fail)) [fx]; done)) :
 Ans (some { e:=.ret,vs:=vs,h:=h,c:=c',df:=df }) (fun q=>Lk o k Q (gcR A c df q)):=Ans.ret0 h1 h2 e
theorem Ans.nxB {o:Orc FH} {k:Key} {Q:Rt FH->Prop} {A B h:FH} {c c':Nat} {vs:List Value} {df:List Nat} (h3:Z1A c A B) (e:Ans (o k vs B c df) Q) (h1:Z1c c vs:=by (simp (disch:=(first | omega | with_reducible assumption | (simp <;> omega) | fail)) [fx]; done)) (h2:Z0u c B h:=by (simp (disch:=(first | omega | with_reducible assumption | (simp <;> omega) | fail)) [fx]; done)) :
 Ans (some { e:=.normal,vs:=vs,h:=h,c:=c',df:=df }) (fun q=>Lk o k Q (gcR A c df q)):=Ans.nextB e h1 h2 h3
theorem Ans.rtB {o:Orc FH} {k:Key} {Q:Rt FH->Prop} {A B h:FH} {c c':Nat} {vs:List Value} {df:List Nat} (h3:Z1A c A B) (e:Q { e:=.ret,vs:=vs,h:=B,c:=c,df:=df }) (h1:Z1c c vs:=by (simp (disch:=(first | omega | with_reducible assumption | (simp <;> omega) | fail)) [fx]; done)) (h2:Z0u c B h:=by (simp (disch:=(first | omega | with_reducible assumption | (simp <;> omega) | fail)) [fx]; done)) :
 Ans (some { e:=.ret,vs:=vs,h:=h,c:=c',df:=df }) (fun q=>Lk o k Q (gcR A c df q)):=Ans.retB e h1 h2 h3
theorem Ans.pu {h h':FH} {c c':Nat} {v w:Value} (hv:w=v:=by first | rfl | (simp (disch:=(first | omega | with_reducible assumption | (simp <;> omega) | fail)) [fx]; done)) (hs:Z0u c h h':=by first | with_reducible assumption | (simp (disch:=(first | omega | with_reducible assumption | (simp <;> omega) | fail)) [fx]; done)) :
 Ans (some { e:=.ret,vs:=[w],h:=h',c:=c',df:=[] }) (ZrU h c v):=Ans.pure hv hs
end Go.Ab

namespace Go.Ab
open Go
def p24:List (List Int):=[[0,1,2,3],[0,1,3,2],[0,2,1,3],[0,2,3,1],[0,3,1,2],[0,3,2,1],[1,0,2,3],[1,0,3,2],[1,2,0,3],[1,2,3,0],[1,3,0,2],[1,3,2,0],[2,0,1,3],[2,0,3,1],[2,1,0,3],[2,1,3,0],[2,3,0,1],[2,3,1,0],[3,0,1,2],[3,0,2,1],[3,1,0,2],[3,1,2,0],[3,2,0,1],[3,2,1,0]]
theorem Zms {p:List Int} (hp:p.length=4) (h:Z1s p=true):p ∈ p24:=by
 have hr:=Z2J h
 match p,hp with
 | [a,b,c,d],_ =>
  have ha:=hr a (by simp)
  have hb:=hr b (by simp)
  have hc:=hr c (by simp)
  have hd:=hr d (by simp)
  have:=Zq9 (Q:=fun a b c d=>!Z1s [(a:Int),(b:Int),(c:Int),(d:Int)] || p24.contains [(a:Int),(b:Int),(c:Int),(d:Int)]) (by kernel_rfl)
   (a:=a.toNat) (b:=b.toNat) (c:=c.toNat) (d:=d.toNat) qO qO qO qO
  have ea:((a.toNat:Nat):Int)=a:=by omega
  have eb:((b.toNat:Nat):Int)=b:=by omega
  have ec:((c.toNat:Nat):Int)=c:=by omega
  have ed:((d.toNat:Nat):Int)=d:=by omega
  rw [ea,eb,ec,ed,h] at this
  simpa using this
theorem ZlE {Q:List Int->Bool} (h:p24.all Q=true) {p:List Int} (hp:p ∈ p24):Q p=true:=List.all_eq_true.1 h p hp
theorem len24 {p:List Int} (hp:p ∈ p24):p.length=4:=by simpa using ZlE (Q:=fun p=>p.length == 4) (by kernel_rfl) hp
theorem inv24 {p:List Int} (hp:p ∈ p24):inv p ∈ p24:=by simpa using ZlE (Q:=fun p=>p24.contains (inv p)) (by kernel_rfl) hp
theorem Z1N {p:List Int} (hp:p ∈ p24) {i:Nat} (hi:i<4):0<=p.getD i 0/\p.getD i 0<4:=by
 have:=ZlE (Q:=fun p=>(List.range 4).all fun i=>decide (0<=p.getD i 0) && decide (p.getD i 0<4)) (by kernel_rfl) hp
 rw [List.all_eq_true] at this
 simpa using this i (by simpa using hi)
theorem ZpT {p:List Int} (hp:p ∈ p24) {i:Nat} (hi:i<4):(inv p).getD (p.getD i 0).toNat 0=i:=by
 have:=ZlE (Q:=fun p=>(List.range 4).all fun i=>decide ((inv p).getD (p.getD i 0).toNat 0=(i:Int))) (by kernel_rfl) hp
 rw [List.all_eq_true] at this
 simpa using this i (by simpa using hi)
theorem Z6e {Gl:List Int} {n t f:Nat} (h:Z0s Gl n t f=true) (ht:¬ Z0L (Z03 Gl t f)<0) :
 Z0L (Z03 Gl t f)<n/\Z1s (Z0e (Z03 Gl t f))=true /\ ¬ (Z0L (Z03 Gl t f)=t/\(Z0e (Z03 Gl t f)).getD f 0=f) ∧
  Z03 Gl (Z0L (Z03 Gl t f)).toNat ((Z0e (Z03 Gl t f)).getD f 0).toNat=(t:Int)::inv (Z0e (Z03 Gl t f)):=by
 unfold Z0s at h
 have h0:Z03 Gl t f ≠ Z8q:=fun e=>ht (by rw [e]; decide)
 simp only [h0,decide_false,Bool.false_or,Bool.and_eq_true,decide_eq_true_eq,Bool.not_eq_true'] at h
 obtain ⟨⟨⟨⟨h1,h2⟩,h3⟩,h4⟩,h5⟩:=h
 refine ⟨h2,h3,fun ⟨a,b⟩=>?_,h5⟩
 rw [decide_eq_true a,decide_eq_true b] at h4
 cases h4
theorem Z8o {Gl:List Int} {n t f:Nat} (h:Z0t Gl n=true) (ht:t<n) (hf:f<4):Z0s Gl n t f=true:=by
 have:=(Z6f Gl n).1 h (4*t+f) qO
 have e1:(4*t+f) / 4=t:=by omega
 have e2:(4*t+f) % 4=f:=by omega
 rwa [e1,e2] at this
def ZcV (c0:Nat) (h:FH) (c:Nat) (v:Value) (sz n:Nat) (L:List Int):Prop :=
 L.length=n*sz/\n<=9223372036854775807/\((v = .slice none 0 0/\n=0) ∨
  ∃ i,v = .slice (some ⟨i,0,none⟩) n n/\256*c0<=i/\i<256*c/\h.f i=some (.cells false (some sz) (ints L)))
theorem ZcV.nil (c0:Nat) (h:FH) (c sz:Nat):ZcV c0 h c (.slice none 0 0) sz 0 []:=⟨by simp,by omega,.inl ⟨rfl,rfl⟩⟩
theorem ZcV.flat {c0:Nat} {h:FH} {c:Nat} {v:Value} {sz n:Nat} {L:List Int} (ha:ZcV c0 h c v sz n L):Z0c v=true/\v.cells = #[v]:=by
 obtain ⟨_,_,⟨rfl,_⟩ | ⟨i,rfl,_⟩⟩:=ha <;> exact ⟨rfl,rfl⟩
theorem ZcV.sl {c0:Nat} {h:FH} {c:Nat} {v:Value} {sz n:Nat} {L:List Int} (ha:ZcV c0 h c v sz n L):SlI h c v sz n L:=by
 obtain ⟨h1,h2,⟨rfl,rfl⟩ | ⟨i,rfl,h3,h4,h5⟩⟩:=ha
 · exact ⟨h1,h2,none,0,rfl,.inl ⟨rfl,OkV.sl0 _ _ _⟩⟩
 · refine ⟨h1,h2,some ⟨i,0,none⟩,n,rfl,.inr ⟨i,0,ints L,rfl,h4,⟨false,some sz,h5⟩, ?_⟩⟩
   rw [List.drop_zero,List.take_of_length_le (by simp [h1])]
theorem ZcV.mono {c0:Nat} {h:FH} {c c':Nat} {v:Value} {sz n:Nat} {L:List Int} (hc:c<=c') (ha:ZcV c0 h c v sz n L):ZcV c0 h c' v sz n L:=by
 obtain ⟨h1,h2,h3 | ⟨i,rfl,h3,h4,h5⟩⟩:=ha
 · exact ⟨h1,h2,.inl h3⟩
 · exact ⟨h1,h2,.inr ⟨i,rfl,h3,by omega,h5⟩⟩
theorem ZcV.keep {c0:Nat} {h h':FH} {c:Nat} {v:Value} {sz n:Nat} {L:List Int} (hh:∀ i,256*c0<=i->i<256*c->h'.f i=h.f i) (ha:ZcV c0 h c v sz n L):ZcV c0 h' c v sz n L:=by
 obtain ⟨h1,h2,h3 | ⟨i,rfl,h3,h4,h5⟩⟩:=ha
 · exact ⟨h1,h2,.inl h3⟩
 · exact ⟨h1,h2,.inr ⟨i,rfl,h3,h4,by rw [hh i h3 h4,h5]⟩⟩
theorem ZcV.app {c0:Nat} {h:FH} {c c':Nat} {v:Value} {sz n:Nat} {L:List Int} (ha:ZcV c0 h c v sz n L) (X:List Int) (hX:X.length=sz) (hsz:0<sz) (by' b id:Nat) (hb:256*c<=b) (hid:256*c<=id) (hne:b ≠ id) (hc0:c0<=c)
 (hid':id<256*c') (hlim:(n+1)*(by'+1)<=17592186044416) :
 ∃ v' h',Z7q (newB h b (ints X)) id sz by' v (.slice (some ⟨b,0,none⟩) 1 1)=some (v',h')/\ZcV c0 h' c' v' sz (n+1) (L++X)/\Z0u c0 h h'/\v' = .slice (some ⟨id,0,none⟩) (n+1) (n+1):=by
 obtain ⟨h1,h2,h3⟩:=ha
 have hlim':Nat.ble ((n+1)*(by'+1)) 17592186044416=true:=Nat.ble_eq_true_of_le hlim
 have hsrc:Z0N (newB h b (ints X)) sz (.slice (some ⟨b,0,none⟩) 1 1)=some (ints X,1):=by
  have:Nat.ble (0+1*sz) (ints X).length=true:=Nat.ble_eq_true_of_le (by simp [hX])
  simp only [Z0N,Z0Q,Z0n,get_newB_same,Option.bind_some,this,cond_true,List.drop_zero]
  rw [List.take_of_length_le (by simp [hX])]
 have hn1:n+1<=17592186044416:=by
  have:(n+1)*1<=(n+1)*(by'+1):=Nat.mul_le_mul_left _ qO
  omega
 have hcap:Nat.ble (n+1) n=false:=by rw [Bool.eq_false_iff]; intro hh; have:=Nat.le_of_ble_eq_true hh; omega
 rcases h3 with ⟨rfl,rfl⟩ | ⟨i,rfl,h3,h4,h5⟩
 · have hL:L=[]:=List.eq_nil_of_length_eq_zero (by simpa using h1)
   subst hL
   refine ⟨_,HeapC.set (newB h b (ints X)) id (.cells false (some sz) (ints X)), ?_,⟨by simp [hX],by omega,.inr ⟨id,rfl,by omega,hid', ?_⟩⟩, ?_,rfl⟩
   · simp only [Z7q,hsrc,Option.bind_some,appTo,hcap,cond_false,Z2g,hlim',Z1I,Bool.and_self,cond_true,Nat.beq_refl,Nat.zero_add]
   · rw [Z0g,if_pos rfl]; rfl
   · intro j hj
     rw [Z0g,if_neg qO,Z08,if_neg qO]
 · have hbi:i ≠ b:=by omega
   have hg:HeapC.get (newB h b (ints X)) i=some (.cells false (some sz) (ints L)):=by rw [get_newB_ne _ _ _ _ hbi]; exact h5
   have hr:Nat.ble (0+n*sz) (ints L).length=true:=Nat.ble_eq_true_of_le (by simp [h1])
   refine ⟨_,HeapC.set (HeapC.set (newB h b (ints X)) i .dead) id (.cells false (some sz) (((ints L).drop 0).take (n*sz)++ints X)), ?_,⟨?_,by omega,.inr ⟨id,rfl,by omega,hid', ?_⟩⟩, ?_,rfl⟩
   · simp only [Z7q,hsrc,Option.bind_some,appTo,hcap,cond_false,Z2g,hlim',Z1I,Bool.and_self,cond_true,Z0Q,Z0n,hg,hr,Nat.beq_refl,Bool.not_false,Bool.and_true]
   · simp [h1,hX,Nat.succ_mul]
   · rw [Z0g,if_pos rfl,List.drop_zero,List.take_of_length_le (by simp [h1]),Zfn]
   · intro j hj
     rw [Z0g,if_neg qO,Z0g,if_neg qO,Z08,if_neg qO]
def rowTo (F:Nat->List Int):Nat->List Int
 | 0=>[]
 | f+1=>rowTo F f++F f
theorem Zf2 (l x:List Int) (o:Nat):Z1d (ints l) o (ints x)=ints (l.take o++x++l.drop (o+x.length)):=by
 simp [Z1d,ints,List.map_take,List.map_drop]
end Go.Ab

namespace Go.Ab
open Go
def ordF (Ord Pm:List Int) (n:Nat):Nat->Nat->List Bool->Bool
 | 0,_,_=>true
 | k+1,i,met=>if Ord.getD i 0<0 ∨ (n:Int)<=Ord.getD i 0 then false else if met.getD (Ord.getD i 0).toNat false=true then false else
  if Z1s (Z5Z Pm i)=false then false else ordF Ord Pm n k (i+1) (met.set (Ord.getD i 0).toNat true)
def ZrX (Ord Pm:List Int) (a b n:Nat):Bool:=decide (a=n) && decide (b=n) && ordF Ord Pm n n 0 (List.replicate n false)
theorem ZbH {Ord Pm:List Int} {n:Nat}:∀ {k i:Nat} {met:List Bool},ordF Ord Pm n k i met=true -> ∀ j,i<=j->j<i+k->0<=Ord.getD j 0/\Ord.getD j 0<n/\Z1s (Z5Z Pm j)=true
 | 0,i,met,h,j,h1,h2=>by omega
 | k+1,i,met,h,j,h1,h2=>by
  unfold ordF at h
  split at h
  · cases h
  split at h
  · cases h
  split at h
  · cases h
  rename_i q1 q2 q3
  by_cases hj:j=i
  · subst hj
    exact ⟨by omega,by omega,by simpa using q3⟩
  · exact ZbH h j qO qO
def backL (Ord:List Int):Nat->Nat->List Int->List Int
 | 0,_,l=>l
 | k+1,i,l=>backL Ord k (i+1) (l.set (Ord.getD i 0).toNat i)
def back (Ord:List Int) (n:Nat):List Int:=backL Ord n 0 (List.replicate n 0)
def rnF (Gl Ord Pm Bk:List Int) (i f:Nat):List Int :=
 if Z0L (Z03 Gl (Ord.getD i 0).toNat ((Z5Z Pm i).getD f 0).toNat)<0 then Z8q else
  Bk.getD (Z0L (Z03 Gl (Ord.getD i 0).toNat ((Z5Z Pm i).getD f 0).toNat)).toNat 0 ::
   comp (inv (Z5Z Pm (Bk.getD (Z0L (Z03 Gl (Ord.getD i 0).toNat ((Z5Z Pm i).getD f 0).toNat)).toNat 0).toNat))
    (comp (Z0e (Z03 Gl (Ord.getD i 0).toNat ((Z5Z Pm i).getD f 0).toNat)) (Z5Z Pm i))
def rnL (Gl Ord Pm Bk:List Int):Nat->List Int
 | 0=>[]
 | i+1=>rnL Gl Ord Pm Bk i++rowTo (rnF Gl Ord Pm Bk i) 4
structure RnOk (Gl Ord Pm:List Int) (n:Nat):Prop where
 gl:Gl.length=n*20
 ol:Ord.length=n
 pl:Pm.length=n*4
 ok:Z0t Gl n=true
 rng:∀ j,j<n->0<=Ord.getD j 0/\Ord.getD j 0<n/\Z1s (Z5Z Pm j)=true
theorem RnOk.p24 {Gl Ord Pm:List Int} {n:Nat} (h:RnOk Gl Ord Pm n) {j:Nat} (hj:j<n):Z5Z Pm j ∈ Ab.p24:=Zms (Zde h.pl hj) (h.rng j hj).2.2
def rnE (Gl Ord Pm:List Int) (n a b:Nat):Int:=if n<=1000/\Z0t Gl n=true then (if ZrX Ord Pm a b n=true then 0 else 1) else 7
def rnN (Gl Ord Pm:List Int) (n a b:Nat):Nat:=if n<=1000/\Z0t Gl n=true/\ZrX Ord Pm a b n=true then n else 0
def rnR (Gl Ord Pm:List Int) (n a b:Nat):List Int:=if n<=1000/\Z0t Gl n=true/\ZrX Ord Pm a b n=true then rnL Gl Ord Pm (back Ord n) n else []
theorem Zml {Ord Pm:List Int} {a b n:Nat}:ZrX Ord Pm a b n=true ↔ a=n/\b=n/\ordF Ord Pm n n 0 (List.replicate n false)=true:=by
 simp [ZrX,and_assoc]
theorem RnOk.of {Gl Ord Pm:List Int} {n a b:Nat} (hG:Gl.length=n*20) (hO:Ord.length=a) (hP:Pm.length=b*4) (h2:Z0t Gl n=true) (h3:ZrX Ord Pm a b n=true):RnOk Gl Ord Pm n:=by
 obtain ⟨rfl,rfl,h4⟩:=Zml.1 h3
 exact ⟨hG,hO,hP,h2,fun j hj=>ZbH h4 j qO qO⟩
@[simp] theorem st1_agg (h:FH) (i o:Nat) (cs:List Value) (v:Value) (ho:o<cs.length) (hv:Z0c v=true):stN (newB h i cs) 1 (.pointer (some ⟨i,o,none⟩)) (.agg #[v])=some (newB h i (cs.set o v)):=by
 rw [Z24 h 1 i o cs (.agg #[v]) rfl qO (by simp [Value.cells,hv])]
 show some (newB h i (Z1d cs o [v]))=_
 rw [Z4B cs o _ ho]
@[simp] theorem st1_sl (h:FH) (i o:Nat) (cs:List Value) (a:Option Addr) (n k:Nat) (ho:o<cs.length):stN (newB h i cs) 1 (.pointer (some ⟨i,o,none⟩)) (.slice a n k)=some (newB h i (cs.set o (.slice a n k))):=by
 rw [Z24 h 1 i o cs (.slice a n k) rfl qO rfl]
 show some (newB h i (Z1d cs o [.slice a n k]))=_
 rw [Z4B cs o _ ho]
theorem Z0p {h:FH} {b:Nat} {cs:List Value} {v:Value} (hg:Z09 h b (v::cs)):ldN h 1 (.pointer (some ⟨b,0,none⟩))=some (.agg #[v]):=by
 rw [ldN_holds hg (by simp)]; simp
def Zqb (h:FH) (c:Nat) (Gl Ord Pm:List Int) (n a b:Nat) (r:Rt FH):Prop :=
 r.e = .ret/\r.df=[]/\c<=r.c/\Z0u c h r.h /\ ∃ v,r.vs=[.tuple #[.agg #[v],.int .i64 (rnE Gl Ord Pm n a b)]]/\SlI r.h r.c v 20 (rnN Gl Ord Pm n a b) (rnR Gl Ord Pm n a b)/\(0<rnN Gl Ord Pm n a b->256*c<=Z0l v)
theorem Zqb.callF {o:Orc FH} {g:FuncId} {args:List Value} {h:FH} {c:Nat} {Gl Ord Pm:List Int} {n a b:Nat} (e:Ans (o (.fn g) args h c []) (Zqb h c Gl Ord Pm n a b)) :
 ∃ v h' c',callF o g args h c=some (.tuple #[.agg #[v],.int .i64 (rnE Gl Ord Pm n a b)],h',c')/\c<=c'/\Z0u c h h'/\SlI h' c' v 20 (rnN Gl Ord Pm n a b) (rnR Gl Ord Pm n a b)/\(0<rnN Gl Ord Pm n a b->256*c<=Z0l v):=by
 obtain ⟨r,e1,r1,r2,r3,r4,v,r5,r6,r7⟩:=e
 refine ⟨v,r.h,r.c, ?_,r3,r4,r6,r7⟩
 simp only [Ab.callF,e1,Option.bind_some,r5]
end Go.Ab

namespace Go.Ab
open Go Go.ChangeShapes Go.RowKit
section post
variable {H:Type} {enc:TypeId × Value->H} {P:Program}
theorem Zby:∀ {ts:List TypeId} {w:World} {vs:List Value} {ds:List (DataW H)} {ps:List MemPlace},DataW.TrodAll enc P w 0 (fun _=>true) true ts vs ds ps -> ∀ x ∈ ps,x.block<w.heap.size
 | [],w,vs,ds,ps,h,x,hx=>by
  obtain ⟨_,_,rfl⟩:=trodAll_nil h
  cases hx
 | t::ts,w,vs,ds,ps,h,x,hx=>by
  obtain ⟨v,vs',d,ds',p,q,rfl,rfl,rfl,h1,h2⟩:=trodAll_cons h
  rcases List.mem_append.1 hx with hx | hx
  · obtain ⟨n,h1⟩:=h1
    exact DataW.trod_lt n _ _ _ h1 x hx
  · exact Zby h2 x hx
theorem Z7v (hl:laidOutB P=true):∀ {ts:List TypeId} {w w':World} {sp:Nat->Bool} {vs:List Value} {ds:List (DataW H)} {ps:List MemPlace},(∀ t ∈ ts,P.readableRec t=true/\t<P.types.size) →
 DataW.TrodAll enc P w 0 (fun _=>true) true ts vs ds ps->(∀ p ∈ ps,w.sameAt w' p)->(∀ p ∈ ps,sp p.block=true)->DataW.TrodAll enc P w' 0 sp true ts vs ds ps
 | [],w,w',sp,vs,ds,ps,_,h,_,_=>by
  obtain ⟨rfl,rfl,rfl⟩:=trodAll_nil h
  exact rfl
 | t::ts,w,w',sp,vs,ds,ps,hr,h,h1,h2=>by
  obtain ⟨v,vs',d,ds',p,q,rfl,rfl,rfl,g1,g2⟩:=trodAll_cons h
  refine ⟨p,q, ?_, ?_,rfl⟩
  · exact WideElems.Trod_stays hl (hr t (by simp)).1 (hr t (by simp)).2 g1 (fun x hx=>h1 x (List.mem_append.2 (.inl hx))) (fun x hx=>h2 x (List.mem_append.2 (.inl hx)))
  · exact Z7v hl (fun u hu=>hr u (by simp [hu])) g2 (fun x hx=>h1 x (List.mem_append.2 (.inr hx))) (fun x hx=>h2 x (List.mem_append.2 (.inr hx)))
theorem Zmc (hl:laidOutB P=true) {f:Func} {s:ChangeSpec} {apart fresh handsOn again:Bool} {W W':World} {args:Array Value} {ds gs:List (DataW H)} {before:List MemPlace} {tb:TypeId}
 (hts:∀ t ∈ f.params.toList,P.readableRec t=true/\t<P.types.size) (hvars:s.vars=[]) (hres:(s.fn H (ds++gs)).results=[.lit (.bool true)]) (hargs:(s.fn H (ds++gs)).args=ds) (hvs:(s.fn H (ds++gs)).vars=[])
 (hrt:f.resultTypes = #[tb]) (htb:P.underlying tb=some .bool) (hW:DataW.Whole enc P f.params.toList s.vars apart W args.toList ds gs before) (hB:Below W.heap.size W W') :
 s.post enc P f apart fresh handsOn again W args (.bool true) W':=by
 have hW0:=hW
 obtain ⟨p,q,hA,hV,rfl,hfz,hnd⟩:=hW
 rw [hvars] at hV
 have hgq:gs=[]/\q=[]:=by
  cases gs with
  | nil=>exact ⟨rfl,hV⟩
  | cons g gs=>exact hV.elim
 obtain ⟨rfl,rfl⟩:=hgq
 have hlt:=Zby hA
 have hrl:Value.resultList f.resultTypes.size (.bool true)=[.bool true]:=by rw [hrt]; rfl
 have hR:∀ (b:Nat) (sp:Nat->Bool) (hd:Bool),DataW.TrodAll enc P W' b sp hd f.resultTypes.toList (Value.resultList f.resultTypes.size (.bool true)) (s.fn H (ds++[])).results []:=by
  intro b sp hd
  rw [hrl,hres,hrt]
  exact ⟨[],[],shut_bool htb true,rfl,rfl⟩
 have hS:∀ sp:Nat->Bool,(∀ x ∈ p,sp x.block=true)->DataW.TrodAll enc P W' 0 sp true f.params.toList args.toList (s.fn H (ds++[])).args p:=by
  intro sp hsp
  rw [hargs]
  exact Z7v hl hts hA (fun x hx=>hB.same (hlt x hx)) hsp
 have hV':∀ sp:Nat->Bool,DataW.TrodVars enc P W' sp s.vars (s.fn H (ds++[])).vars []:=by
  intro sp; rw [hvars,hvs]; exact rfl
 have hfz':W'.noneFrozen (p++[]):=by
  intro b off hp
  have h1:=hfz b off hp
  have h2:W'.heap[b]? = W.heap[b]?:=hB.block b (hlt (.cell b off) (by simpa using hp))
  unfold World.frozen? at h1 ⊢
  simp only at h1 ⊢
  rw [h2]; exact h1
 have hok:∀ (j:Nat) (t:TypeId) (r:Value),f.resultTypes[j]? = some t->(Value.resultList f.resultTypes.size (.bool true))[j]? = some r->Value.okWide P W' .any 0 t r :=
  ok_one hrt rfl (by simp [Value.okWide,htb,Cell.okWide,Cell.ok])
 refine ⟨ds,[],p++[],[],p,[],hW0,hR _ _ _,hS _ (fun x hx=>by simpa using hlt x hx),hV' _, ?_,fun _=>?_⟩
 · refine ⟨hB.os,hB.output,fun i hi=>?_⟩
   rw [hB.block i hi]
   split
   · rename_i h1 h2
     rw [h1] at h2
     cases h2
     exact ⟨rfl,rfl,rfl,fun _ _=>rfl⟩
   · rename_i h1 h2
     rw [h1] at h2
     cases h2
     exact .inr ⟨rfl,rfl⟩
   · rfl
 · refine ⟨hok,_,_,([]++p)++[],⟨[]++p,[],trodAll_append (hS (fun _=>true) (fun _ _=>rfl)) (hR _ _ _),hV' _,rfl, ?_, ?_⟩, ?_⟩
   · intro b off hp
     exact hfz' b off (by simpa using hp)
   · intro ha
     have:=hnd ha
     simpa using this
   · intro x hx _
     simpa using hx
end post
def Z5c (W:World) (v:Value) (sz n:Nat) (Gl:List Int):Prop :=
 Gl.length=n*sz/\n<=9223372036854775807/\((v = .slice none 0 0/\n=0) ∨
  ∃ b o cap C E fr,v = .slice (some ⟨b,o,none⟩) n cap/\n<=cap/\W.heap[b]? = some (.cells C E fr) /\ ∀ j,j<Gl.length->C[o+j]? = some (.int .i64 (Gl.getD j 0)))
def ZlO (i:Nat) (v:Value):Value :=
 match v with
 | .slice (some _) n cap=>.slice (some ⟨i,0,none⟩) n cap
 | v=>v
def ZpA (v:Value):Option ME :=
 match v with
 | .slice (some a) _ _=>some ⟨a.block,a.off,none⟩
 | _=>none
theorem Z5c.vr {W:World} {v:Value} {sz n:Nat} {Gl:List Int} (h:Z5c W v sz n Gl) {μ:Mu} {i:Nat} (hm:∀ m,ZpA v=some m->μ i=some m):VR μ (ZlO i v) v:=by
 obtain ⟨h1,h2,⟨rfl,_⟩ | ⟨b,o,cap,C,E,fr,rfl,_,_,_⟩⟩:=h
 · exact .sl0 0 0
 · have:=hm ⟨b,o,none⟩ rfl
   exact VR.sl (i:=i) (o:=0) this (Nat.le_refl _) (.inl rfl)
theorem Z5c.sl {W:World} {v:Value} {sz n:Nat} {Gl:List Int} (h:Z5c W v sz n Gl) {A:FH} {i c:Nat} (hi:i<256*c) (ha:∀ m,ZpA v=some m->A.f i=some (.cells true none (ints Gl))):SlI A c (ZlO i v) sz n Gl:=by
 obtain ⟨h1,h2,⟨rfl,rfl⟩ | ⟨b,o,cap,C,E,fr,rfl,_,_,_⟩⟩:=h
 · exact ⟨h1,h2,none,0,rfl,.inl ⟨rfl,OkV.sl0 _ _ _⟩⟩
 · refine ⟨h1,h2,some ⟨i,0,none⟩,cap,rfl,.inr ⟨i,0,ints Gl,rfl,hi,⟨true,none,ha _ rfl⟩, ?_⟩⟩
   rw [List.drop_zero,List.take_of_length_le (by simp [h1])]
theorem Z5c.blk {W:World} {v:Value} {sz n:Nat} {Gl:List Int} (h:Z5c W v sz n Gl) {μ:Mu} {m:ME} (hm:ZpA v=some m):Z8h μ m W.heap (some (.cells true none (ints Gl)))/\m.b<W.heap.size:=by
 obtain ⟨h1,h2,⟨rfl,rfl⟩ | ⟨b,o,cap,C,E,fr,rfl,_,h3,h4⟩⟩:=h
 · cases hm
 · cases hm
   refine ⟨⟨C,E,fr,h3,fun k x hx=>?_,(fun h=>by cases h),rfl⟩,(Array.getElem?_eq_some_iff.1 h3).1⟩
   have hk:k<Gl.length:=by have:=(List.getElem?_eq_some_iff.1 hx).1; simpa using this
   rw [ints_getD _ _ hk] at hx
   cases hx
   exact ⟨_,h4 k hk,.int _ _⟩
def Z5e (P:Program) (e:TypeId) (sz:Nat):Prop :=
 P.cellsOf e=sz /\ ∀ (H:Type) (enc:TypeId × Value->H) (w:World) (base:Nat) (spare:Nat->Bool) (held:Bool) (fuel:Nat) (cs:List Value) (x:DataW H × List MemPlace),
  DataW.trod enc P w base spare held fuel e cs=some x->cs.length=sz /\ ∀ v ∈ cs,∃ n,v = .int .i64 n
section flat
variable {P:Program}
theorem Z5e.int {e:TypeId} (he:P.underlying e=some (.int .i64)) (hc:P.cellsOf e=1):Z5e P e 1:=by
 refine ⟨hc,fun H enc w base spare held fuel cs x h=>?_⟩
 obtain ⟨n,rfl,_,_⟩:=DataW.trod_int he h
 exact ⟨rfl,fun v hv=>⟨n,by simpa using hv⟩⟩
theorem ZgL {α β:Type} {f:α->Option β}:∀ {l:List α} {r:List β},l.mapM f=some r -> ∀ a ∈ l,∃ b,f a=some b
 | [],r,h,a,ha=>by cases ha
 | x::l,r,h,a,ha=>by
  rw [List.mapM_cons] at h
  simp only [Option.bind_eq_bind,Option.bind_eq_some_iff] at h
  obtain ⟨y,hy,ys,hys,_⟩:=h
  rcases List.mem_cons.1 ha with rfl | ha
  · exact ⟨y,hy⟩
  · exact ZgL hys a ha
theorem Z5e.array {t e:TypeId} {n z:Nat} (ht:P.underlying t=some (.array n e)) (hf:Z5e P e z) (hc:P.cellsOf t=n*z):Z5e P t (n*z):=by
 refine ⟨hc,fun H enc w base spare held fuel cs x h=>?_⟩
 cases fuel with
 | zero=>simp [DataW.trod] at h
 | succ fuel =>
  have h':(if cs.length=P.cellsOf t then ((List.range n).mapM fun i=>DataW.trod enc P w base spare held fuel e ((cs.drop (i*P.cellsOf e)).take (P.cellsOf e))).map fun xs=>((.agg (xs.map (·.1)),xs.flatMap (·.2)):DataW H × List MemPlace) else none)=some x:=by
   have h1:=h
   unfold DataW.trod at h1
   rw [ht] at h1
   split at h1 <;> first | exact h1 | (rename_i e1 _; cases e1) | (rename_i e1 _ _; cases e1) | (rename_i e1; cases e1) | skip
   all_goals first | exact h1 | (simp_all; done) | skip
  split at h'
  · rename_i hl
    rw [hc] at hl
    refine ⟨hl,fun v hv=>?_⟩
    cases hm:(List.range n).mapM fun i=>DataW.trod enc P w base spare held fuel e ((cs.drop (i*P.cellsOf e)).take (P.cellsOf e)) with
    | none=>rw [hm] at h'; cases h'
    | some ys =>
     obtain ⟨j,hj⟩:=List.getElem?_of_mem hv
     have hjl:j<n*z:=by have:=(List.getElem?_eq_some_iff.1 hj).1; omega
     have hz:0<z:=by
      rcases Nat.eq_zero_or_pos z with e | e
      · rw [e] at hjl; simp at hjl
      · exact e
     have hi:j / z<n:=by rw [Nat.div_lt_iff_lt_mul hz]; exact hjl
     obtain ⟨y,hy⟩:=ZgL hm (j / z) (by simpa using hi)
     rw [hf.1] at hy
     refine (hf.2 _ _ _ _ _ _ _ _ _ hy).2 v ?_
     refine List.mem_of_getElem? (i:=j % z) ?_
     rw [List.getElem?_take_of_lt (Nat.mod_lt _ hz),List.getElem?_drop,Nat.mul_comm,Nat.div_add_mod]
     exact hj
  · cases h'
theorem Z5e.struct2 {t:TypeId} {f0 f1:Field} {z0 z1:Nat} (ht:P.underlying t=some (.struct #[f0,f1])) (h0:Z5e P f0.type z0) (h1:Z5e P f1.type z1) (o0:f0.offset=0) (o1:f1.offset=z0) (hc:P.cellsOf t=z0+z1):Z5e P t (z0+z1):=by
 refine ⟨hc,fun H enc w base spare held fuel cs x h=>?_⟩
 obtain ⟨xs,n,rfl,_,hl,hxl,hf⟩:=DataW.trod_struct ht h
 rw [hc] at hl
 refine ⟨hl,fun v hv=>?_⟩
 have g0:=hf 0 f0 rfl
 have g1:=hf 1 f1 rfl
 have l2:xs.length=2:=hxl
 rw [List.getElem?_eq_getElem qO] at g0 g1
 rw [h0.1,o0,List.drop_zero] at g0
 rw [h1.1,o1] at g1
 obtain ⟨j,hj⟩:=List.getElem?_of_mem hv
 have hjl:j<z0+z1:=by have:=(List.getElem?_eq_some_iff.1 hj).1; omega
 by_cases hlt:j<z0
 · refine (h0.2 _ _ _ _ _ _ _ _ _ g0).2 v (List.mem_of_getElem? (i:=j) ?_)
   rw [List.getElem?_take_of_lt hlt]; exact hj
 · refine (h1.2 _ _ _ _ _ _ _ _ _ g1).2 v (List.mem_of_getElem? (i:=j-z0) ?_)
   rw [List.getElem?_take_of_lt qO,List.getElem?_drop,show z0+(j-z0)=j by omega]
   exact hj
theorem Zem {H:Type} {enc:TypeId × Value->H} {W:World} {base:Nat} {t e:TypeId} {sz:Nat} {v:Value} {fuel:Nat} {x:DataW H × List MemPlace} (ht:P.underlying t=some (.slice e)) (hf:Z5e P e sz) (hz:0<sz)
 (hval:Cell.okWide P W .any base t v) (hd:DataW.trod enc P W 0 (fun _=>true) true fuel t [v]=some x):∃ n Gl,Z5c W v sz n Gl:=by
 rcases DataW.trod_slice ht hd with ⟨h1,_⟩ | ⟨a,len,cap,elems,rest,n,_,h1,_,hb,hl,hm,hlen,hel,_,_⟩
 · cases h1
   exact ⟨0,[],by simp,by omega,.inl ⟨rfl,rfl⟩⟩
 · cases h1
   have hok:Cell.ok P W .any base t (.slice (some a) len cap):=by
    unfold Cell.okWide at hval
    rw [ht] at hval
    exact hval
   unfold Cell.ok at hok
   rw [ht] at hok
   obtain ⟨_,_,_,hsp,row,cells,hsh,_⟩:=hok
   obtain ⟨b,o,sp⟩:=a
   simp only at hsp
   subst hsp
   unfold World.shape? at hsh
   have hblk:∃ C E fr,W.heap[b]? = some (.cells C E fr):=by
    split at hsh
    · rename_i c el fr hh; exact ⟨c,el,fr,hh⟩
    · cases hsh
   obtain ⟨C,E,fr,hC⟩:=hblk
   have hadd:∀ o k,(⟨b,o,none⟩:Addr).add k=⟨b,o+k,none⟩:=fun o k=>by unfold Addr.add; split <;> simp_all
   have hcell:∀ j,j<len*sz -> ∃ z,C[o+j]? = some (.int .i64 z):=by
    intro j hj
    have hi:j / sz<len:=by rw [Nat.div_lt_iff_lt_mul hz]; exact hj
    have h2:=hel (j / sz) hi
    rw [List.getElem?_eq_getElem qO] at h2
    simp only [Option.bind_eq_some_iff] at h2
    obtain ⟨cs,hcs,htr⟩:=h2
    rw [hf.1] at hcs
    obtain ⟨_,hcl,hcg⟩:=World.cells?_some hcs
    have h3:=hcg (j % sz) (Nat.mod_lt _ hz)
    have hfl:=hf.2 _ _ _ _ _ _ _ _ _ htr
    have hjm:j % sz<cs.length:=by rw [hcl]; exact Nat.mod_lt _ hz
    rw [List.getElem?_eq_getElem hjm] at h3
    obtain ⟨z,hz'⟩:=hfl.2 cs[j % sz] (List.getElem_mem hjm)
    rw [hz',hadd] at h3
    have:(⟨b,o+j / sz*sz,none⟩:Addr).add (j % sz)=⟨b,o+j,none⟩:=by
     rw [hadd]
     have:=Nat.div_add_mod j sz
     rw [Nat.mul_comm] at this
     congr 1; omega
    rw [this] at h3
    refine ⟨z, ?_⟩
    simpa [World.cell?,hC] using h3
   refine ⟨len,(List.range (len*sz)).map fun j=>(match C[o+j]? with | some (.int .i64 z)=>z | _=>0),by simp, ?_,.inr ⟨b,o,cap,C,E,fr,rfl,hl,hC,fun j hj=>?_⟩⟩
   · unfold maxLen at hm
     have:cap<=9223372036854775807:=by simp at hm; omega
     omega
   · have hj':j<len*sz:=by simpa using hj
     obtain ⟨z,hz'⟩:=hcell j hj'
     rw [hz']
     congr 2
     simp [List.getD,hj',hz']
end flat
end Go.Ab

namespace Go.Ab
open Go
def Za6:Value->Option Addr
 | .slice a _ _=>a
 | _=>none
def SlX (h:FH) (s:Value) (sz n:Nat):Prop:=n<=capOf s/\Ze4 h sz (Za6 s)=true
def subS (sz lo hi:Nat):Value->Value
 | .slice (some ⟨b,o,none⟩) _ cap=>.slice (some ⟨b,o+lo*sz,none⟩) (hi-lo) (cap-lo)
 | v=>v
theorem SlX.sub {h:FH} {c:Nat} {s:Value} {sz n:Nat} {L:List Int} (hs:SlI h c s sz n L) (hx:SlX h s sz n) (k k':IntKind) (lo hi:Int) (h1:0<=lo) (h2:lo<=hi) (h3:hi<=(n:Int)) (hn:0<n) :
 slS h sz s (some (.int k lo)) (some (.int k' hi)) none=some (subS sz lo.toNat hi.toNat s):=by
 obtain ⟨g1,g2,a,cap,rfl,h4⟩:=hs
 obtain ⟨x1,x2⟩:=hx
 rcases h4 with ⟨e,hv⟩ | ⟨b,o,cs,rfl,e2,e3,e4⟩
 · omega
 · simp only [capOf,Za6] at x1 x2
   have q0:Nat.ble cap cap=true:=Nat.ble_eq_true_of_le (Nat.le_refl _)
   have q1:(0:Int)<=hi:=by omega
   have q2:hi<=(cap:Int):=by omega
   have q3:lo<=(hi.toNat:Int):=by omega
   simp only [slS,x2,cond_true,Zpn,Zpo,q0,Option.bind_some,bnd,decide_eq_true q1,decide_eq_true q2,decide_eq_true h1,decide_eq_true q3,Bool.and_self,Option.isSome_none,Bool.false_and,cond_false,ZpH,subS]
theorem SlI.sub {h:FH} {c:Nat} {s:Value} {sz n:Nat} {L:List Int} (hs:SlI h c s sz n L) (lo hi:Nat) (h2:lo<=hi) (h3:hi<=n) (hn:0<n) :
 SlI h c (subS sz lo hi s) sz (hi-lo) ((L.drop (lo*sz)).take ((hi-lo)*sz)):=by
 obtain ⟨g1,g2,a,cap,rfl,h4⟩:=hs
 rcases h4 with ⟨e,hv⟩ | ⟨b,o,cs,rfl,e2,e3,e4⟩
 · omega
 · have hm:lo*sz+(hi-lo)*sz<=L.length:=by
    rw [g1,← Nat.add_mul]; exact Nat.mul_le_mul_right _ qO
   refine ⟨by rw [List.length_take,List.length_drop]; omega,by omega,_,_,rfl,.inr ⟨b,o+lo*sz,cs,rfl,e2,e3, ?_⟩⟩
   exact ZjQ e4 hm
theorem SlX.same {h h':FH} {c:Nat} {s:Value} {sz n:Nat} {L:List Int} (hs:SlI h c s sz n L) (hn:0<n) (hh:Z0u c h h') (hx:SlX h s sz n):SlX h' s sz n:=by
 obtain ⟨g1,g2,a,cap,rfl,h4⟩:=hs
 obtain ⟨x1,x2⟩:=hx
 rcases h4 with ⟨e,hv⟩ | ⟨b,o,cs,rfl,e2,e3,e4⟩
 · omega
 · refine ⟨x1, ?_⟩
   simp only [Za6,Ze4] at x2 ⊢
   have:HeapC.get h' b=HeapC.get h b:=hh b e2
   rw [this]; exact x2
theorem Z5c.slx {W:World} {v:Value} {sz n:Nat} {Gl:List Int} (h:Z5c W v sz n Gl) {A:FH} {i:Nat} (ha:∀ m,ZpA v=some m->A.f i=some (.cells true none (ints Gl))):SlX A (ZlO i v) sz n:=by
 obtain ⟨h1,h2,⟨rfl,rfl⟩ | ⟨b,o,cap,C,E,fr,rfl,g1,_,_⟩⟩:=h
 · exact ⟨Nat.zero_le _,rfl⟩
 · refine ⟨g1, ?_⟩
   have:HeapC.get A i=some (.cells true none (ints Gl)):=ha _ rfl
   simp only [ZlO,Za6,Ze4,this]
def tyT:List Int:=[-1,0,1,2,0,-1,2,1,1,2,-1,0,2,1,0,-1]
def ty (i f:Int):Int:=((tyT.drop (i.toNat*4)).take 4).getD f.toNat 0
theorem Z0V {i f:Int} (h1:0<=i) (h2:i<4) (h3:0<=f) (h4:f<4) (hne:i ≠ f):0<=ty i f/\ty i f<3:=by
 have:((List.range 4).all fun i=>(List.range 4).all fun f=>decide (i=f) || (decide (0<=ty (i:Nat) (f:Nat)) && decide (ty (i:Nat) (f:Nat)<3)))=true:=by decide
 rw [List.all_eq_true] at this
 have h5:=this i.toNat (by simp; omega)
 rw [List.all_eq_true] at h5
 have h6:=h5 f.toNat (by simp; omega)
 have e1:((i.toNat:Nat):Int)=i:=by omega
 have e2:((f.toNat:Nat):Int)=f:=by omega
 rw [e1,e2] at h6
 have h7:¬ i.toNat=f.toNat:=by omega
 simpa [h7] using h6
def Z7o (V:List Int) (t f i:Int):Int:=gi V (7*t+i)+gi V (7*t+4+ty i f)
def nzC:List Int->Nat
 | []=>0
 | x::l=>(if x=0 then 0 else 1)+nzC l
def Z7n (L:List Int):Bool:=decide (nzC L<=1)
theorem ZgH:∀ l:List Int,nzC l<=l.length
 | []=>Nat.le_refl _
 | x::l=>by have:=ZgH l; simp only [nzC,List.length_cons]; split <;> omega
def Z0x (L:List Int):Bool:=L.all fun x=>decide (0<=x) && decide (x<=1000000)
def ZcM:List Int->List Int->Int
 | a::l,b::m=>a*b+ZcM l m
 | _,_=>0
theorem Z6t:∀ {df:List Nat} {h:FH},df.Nodup->(∀ d ∈ df,h.f d=some .dfr) -> ∃ h',Z0a h df=some h' /\ ∀ i,i ∉ df->h'.f i=h.f i
 | [],h,_,_=>⟨h,rfl,fun _ _=>rfl⟩
 | d::df,h,hn,hd=>by
  have h1:=hd d (by simp)
  have hg:HeapC.get h d=some .dfr:=h1
  obtain ⟨hn1,hn2⟩:=List.nodup_cons.1 hn
  obtain ⟨h',e,k⟩:=Z6t (df:=df) (h:=HeapC.del h d) hn2 (fun x hx=>by
   have hne:¬ x=d:=fun e=>hn1 (by rw [← e]; exact hx)
   rw [Z9I,if_neg hne]
   exact hd x (by simp [hx]))
  refine ⟨h',by simp only [Z0a,hg,e],fun i hi=>?_⟩
  simp only [List.mem_cons,not_or] at hi
  rw [k i hi.2,Z9I,if_neg hi.1]
end Go.Ab
