/- Parts of a proof: C3 C4 D1 D2 D3 AbGo. Conditions: none. -/
import Derived.Test.YtemkjcpfgmbibaaM14
import Derived.Test.YtemkjcpfgmbibaaM7
import Derived.Test.YtemkjcpfgmbibaaM8
set_option linter.all false
set_option maxRecDepth 100000
namespace Go.Proofs.Ytemkjcpfgmbibaa
open Go Go.Ab Go.Proofs
theorem Z0O (p:List Int) (hp:p.length=4) (h:FH) (c:Nat):callF G 60 [av p] h c=some (.bool (Z0n p),h,c):=Z0j (Zae p hp h c [])
theorem Z1T (p:List Int) (hp:p.length=4) (hr:InR p) (h:FH) (c:Nat):callF G 66 [av p] h c=some (av (inv p),h,c):=Z0j (Z6q p hp hr h c [])
theorem Zi6 (s:Value) (n:Nat) (Gl:List Int) (gb rb nb l c0 c:Nat) (st:ALoop) (h:FH) (hc:c0<=c) (t f:Nat) (ht:t<n) (hf:f<4)
 (hgb:gb<256*c0) (hrb:rb<256*c0) (hnb:nb<256*c0) (hl:l<256*c0) (hlr:l ≠ rb) (hlg:l ≠ gb) (hln:l ≠ nb)
 (h1:Z0a h gb [s]) (h2:SlI h c0 s 20 n Gl) (h3:Z0a h nb (ints Z4O)) (h4:HeapC.get h rb=some (.cells false none [.int .i64 0])) (h5:HeapC.get h l=some (.loop st)) (h6:st.state = .ready) :
 Ans (Z2X G l (av [(t:Int),(f:Int)]) (av (Z06 Gl t f)) (ptrTo gb) (ptrTo rb) (ptrTo nb) h c) fun r=>c<=r.c/\r.e = .ret/\r.df=[]/\r.vs=[.bool (Z0i Gl n t f)] ∧
  r.h.f l=some (.loop { st with state:=if Z0i Gl n t f then .ready else .done,pending:=if Z0i Gl n t f then none else some .ret }) ∧
  (∀ i,i<256*c->i ≠ l->r.h.f i=if i=rb/\Z0i Gl n t f=false then some (.cells false none [.int .i64 7]) else h.f i):=by
 have hx:=Z0G h2.1 ht hf
 have hp:=Z1j hx
 have ht5:(Z06 Gl t f).take 5=Z06 Gl t f:=List.take_of_length_le qO
 have hnl:Z4O.length=5:=rfl
 obtain ⟨H,hH⟩:∃ H,H=HeapC.set (newB (newB h (256*c) (ints [(t:Int),(f:Int)])) (256*(c+1)) (ints (Z06 Gl t f))) l (.loop { st with state:=.busy }):=⟨_,rfl⟩
 have hb:Z2m (newB (newB h (256*c) (ints [(t:Int),(f:Int)])) (256*(c+1)) (ints (Z06 Gl t f))) l=some H:=by
  rw [hH]
  exact Zgz (by rw [get_newB_ne _ _ _ _ qO,get_newB_ne _ _ _ _ qO]; exact h5) h6
 have r0:∀ j,j<256*c->j ≠ l->H.f j=h.f j:=by
  intro j hj hne
  rw [hH,Z0m,if_neg hne,Z0b,if_neg qO,Z0b,if_neg qO]
 have hol:∀ b cs,b<256*c0->Z0a h b cs->Z0a H b cs:=by
  intro b cs hb ⟨ro,op,e⟩
  have hne:b ≠ l:=by
   rintro rfl
   rw [h5] at e; cases e
  exact ⟨ro,op,(r0 b qO hne).trans e⟩
 have hA:Z0a H (256*c) (ints [(t:Int),(f:Int)]):=by
  rw [hH]
  exact (((Z0a.newB_same h _ _).newB_ne qO).set_ne qO)
 have hB:Z0a H (256*(c+1)) (ints (Z06 Gl t f)):=by
  rw [hH]
  exact ((Z0a.newB_same _ _ _).set_ne qO)
 have a0:ld1 H (.pointer (some ⟨256*c,0,none⟩))=some (.int .i64 t):=by rw [Z03 hA]; rfl
 have a1:ld1 H (.pointer (some ⟨256*c,1,none⟩))=some (.int .i64 f):=by rw [Z03 hA]; rfl
 have b0:ldN H 5 (.pointer (some ⟨256*(c+1),0,none⟩))=some (av (Z06 Gl t f)):=by
  rw [ldN_holds hB (by simp [hx])]; simp [ht5]
 have b1:ld1 H (.pointer (some ⟨256*(c+1),0,none⟩))=some (.int .i64 (Z1d (Z06 Gl t f))):=by
  rw [Z03 hB,Z3z,List.getElem?_eq_getElem qO]
  simp [Z1d,List.getD,List.getElem?_eq_getElem (by omega:0<(Z06 Gl t f).length)]
 have b2:ldN H 4 (.pointer (some ⟨256*(c+1),1,none⟩))=some (av (Z0D (Z06 Gl t f))):=by
  rw [ldN_holds hB (by simp [hx])]; rw [Z1Q,Z1y]; rfl
 have b3:ld1 H (.pointer (some ⟨256*(c+1),1+f,none⟩))=some (.int .i64 ((Z0D (Z06 Gl t f)).getD f 0)):=by
  have hlt:1+f<(Z06 Gl t f).length:=by omega
  rw [Z03 hB,Z3z,List.getElem?_eq_getElem hlt]
  unfold Z0D
  rw [Z4R _ _ _ hf,Z4S]
  simp [List.getD,List.getElem?_eq_getElem hlt]
 have e1:ldN H 5 (.pointer (some ⟨nb,0,none⟩))=some (av Z4O):=by
  rw [ldN_holds (hol nb _ hnb h3) (by simp [Z4O])]; rfl
 have e2:ld1 H (.pointer (some ⟨gb,0,none⟩))=some s:=by rw [Z03 (hol gb _ hgb h1)]; rfl
 have e3:=h2.len
 have endT:∀ c',c<=c'->Z0i Gl n t f=true->Ans ((Z0I H l .ready none).bind fun h37=>some (⟨.ret,[.bool true],h37,c',[]⟩:Rt FH)) fun r=>c<=r.c/\r.e = .ret/\r.df=[]/\r.vs=[.bool (Z0i Gl n t f)] ∧
  r.h.f l=some (.loop { st with state:=if Z0i Gl n t f then .ready else .done,pending:=if Z0i Gl n t f then none else some .ret }) ∧
  (∀ i,i<256*c->i ≠ l->r.h.f i=if i=rb/\Z0i Gl n t f=false then some (.cells false none [.int .i64 7]) else h.f i):=by
  intro c' hc' ok
  rw [ok,hH,setState_set]
  simp only [Option.bind_some,Ans_some,if_true,Bool.true_eq_false,and_false,if_false]
  refine ⟨hc',trivial,trivial,trivial,by rw [Z0m,if_pos rfl],fun i hi hne=>?_⟩
  rw [Z0m,if_neg hne,Z0b,if_neg qO,Z0b,if_neg qO]
 have endF:∀ c',c<=c'->Z0i Gl n t f=false -> ∃ H',stN H 1 (.pointer (some ⟨rb,0,none⟩)) (.int .i64 7)=some H'/\Ans ((Z0I H' l .done (some .ret)).bind fun h36=>some (⟨.ret,[.bool false],h36,c',[]⟩:Rt FH)) fun r=>c<=r.c/\r.e = .ret/\r.df=[]/\r.vs=[.bool (Z0i Gl n t f)] ∧
  r.h.f l=some (.loop { st with state:=if Z0i Gl n t f then .ready else .done,pending:=if Z0i Gl n t f then none else some .ret }) ∧
  (∀ i,i<256*c->i ≠ l->r.h.f i=if i=rb/\Z0i Gl n t f=false then some (.cells false none [.int .i64 7]) else h.f i):=by
  intro c' hc' ok
  have hg:HeapC.get H rb=some (.cells false none [.int .i64 0]):=(r0 rb qO (Ne.symm hlr)).trans h4
  refine ⟨_,Z4F (cs:=[.int .i64 0]) hg (by simp) rfl rfl, ?_⟩
  rw [ok,setState_set_ne _ _ _ _ _ _ hlr,hH,setState_set]
  simp only [Option.map_some,Option.bind_some,Ans_some,Bool.false_eq_true,if_false,and_true]
  refine ⟨hc',trivial,trivial,trivial,by rw [Z0m,if_neg hlr,Z0m,if_pos rfl],fun i hi hne=>?_⟩
  rw [Z0m]
  split
  · rfl
  · rw [Z0m,if_neg hne,Z0b,if_neg qO,Z0b,if_neg qO]
 clear hH
 have hface:∀ u j:Int,0<=u->u<n->0<=j->j<4 -> ∃ b o,ixS 20 s (.int .i64 u)=some (.pointer (some ⟨b,o+u.toNat*20,none⟩))/\ldN H 5 (.pointer (some ⟨b,o+u.toNat*20+j.toNat*5,none⟩))=some (av (Z06 Gl u.toNat j.toNat)):=by
  intro u j u1 u2 j1 j2
  obtain ⟨b,o,cs,x1,x2,x3,x4⟩:=h2.ix .i64 u u1 u2
  refine ⟨b,o,x1, ?_⟩
  have:=h2.1
  rw [Nat.add_assoc,Zas (hol b cs x2 x3) x4 (j:=u.toNat*20+j.toNat*5) (q:=5) qO qO]
  unfold Z06
  rw [Nat.mul_comm 20,Nat.mul_comm 5]
 unfold Z2X
 rw [stN_ptrTo,Nat.add_zero,stN_all _ _ 2 _ [(t:Int),(f:Int)] rfl rfl]
 simp only [Option.bind_some]
 rw [stN_ptrTo,Nat.add_zero,stN_all _ _ 5 _ _ hx rfl]
 simp only [Option.bind_some,hb]
 by_cases q1:Z06 Gl t f=Z4O
 · have ok:Z0i Gl n t f=true:=by simp [Z0i,q1]
   refine Ans.step (v:=(⟨.normal,[],H,c+1+1+1,[]⟩:Rt FH)) ?_ (endT (c+1+1+1) qO ok)
   apply Ans.eq
   repeat (first | (with_reducible refine Ans.bt ?_ ?_; exact rfl) | (with_reducible refine Ans.bf ?_ ?_; exact rfl) | (with_reducible refine Ans.ct ?_ ?_; focus (simp; done)) | (with_reducible refine Ans.cf ?_ ?_; focus (simp; done)) | refine Ans.step (by (simp (disch:=(first | omega | (simp <;> omega) | fail)) [b0,e1,Z3H,hx,hnl,q1,-List.getD_eq_getElem?_getD]) <;> rfl) ?_)
   exact Ans.done rfl
 · by_cases q2:Z1d (Z06 Gl t f)<0
   · have ok:Z0i Gl n t f=false:=by
      have:¬ (0<=Z1d (Z06 Gl t f)):=by omega
      simp [Z0i,q1,this]
     obtain ⟨H',x1,x2⟩:=endF (c+1+1+1+1+1) qO ok
     refine Ans.step (v:=(⟨.ret,[],H',c+1+1+1+1+1,[]⟩:Rt FH)) ?_ x2
     apply Ans.eq
     repeat (first | (with_reducible refine Ans.bt ?_ ?_; exact rfl) | (with_reducible refine Ans.bf ?_ ?_; exact rfl) | (with_reducible refine Ans.ct ?_ ?_; focus (simp; done)) | (with_reducible refine Ans.cf ?_ ?_; focus (simp; done)) | refine Ans.step (by (simp (disch:=(first | omega | (simp <;> omega) | fail)) [b0,b1,e1,Z3H,hx,hnl,q1,q2,x1,-List.getD_eq_getElem?_getD]) <;> rfl) ?_)
     exact Ans.done rfl
   · by_cases q3:(n:Int)<=Z1d (Z06 Gl t f)
     · have ok:Z0i Gl n t f=false:=by
        have:¬ (Z1d (Z06 Gl t f)<n):=by omega
        simp [Z0i,q1,this]
       obtain ⟨H',x1,x2⟩:=endF (c+1+1+1+1+1) qO ok
       refine Ans.step (v:=(⟨.ret,[],H',c+1+1+1+1+1,[]⟩:Rt FH)) ?_ x2
       apply Ans.eq
       repeat (first | (with_reducible refine Ans.bt ?_ ?_; exact rfl) | (with_reducible refine Ans.bf ?_ ?_; exact rfl) | (with_reducible refine Ans.ct ?_ ?_; focus (simp; done)) | (with_reducible refine Ans.cf ?_ ?_; focus (simp; done)) | refine Ans.step (by (simp (disch:=(first | omega | (simp <;> omega) | fail)) [b0,b1,e1,e2,e3,Z3H,hx,hnl,q1,q2,q3,x1,-List.getD_eq_getElem?_getD]) <;> rfl) ?_)
       exact Ans.done rfl
     · cases q4:Z0n (Z0D (Z06 Gl t f)) with
       | false =>
        have ok:Z0i Gl n t f=false:=by simp [Z0i,q1,q4]
        obtain ⟨H',x1,x2⟩:=endF (c+1+1+1+1+1) qO ok
        refine Ans.step (v:=(⟨.ret,[],H',c+1+1+1+1+1,[]⟩:Rt FH)) ?_ x2
        apply Ans.eq
        repeat (first | (with_reducible refine Ans.bt ?_ ?_; exact rfl) | (with_reducible refine Ans.bf ?_ ?_; exact rfl) | (with_reducible refine Ans.ct ?_ ?_; focus (simp; done)) | (with_reducible refine Ans.cf ?_ ?_; focus (simp; done)) | refine Ans.step (by (simp (disch:=(first | omega | (simp <;> omega) | fail)) [b0,b1,b2,e1,e2,e3,Z3H,hx,hnl,q1,q2,q3,q4,x1,Z0O,hp,-List.getD_eq_getElem?_getD]) <;> rfl) ?_)
        exact Ans.done rfl
       | true =>
        have hr:=Z1h q4
        have hpr:0<=(Z0D (Z06 Gl t f)).getD f 0/\(Z0D (Z06 Gl t f)).getD f 0<4:=by
         have hlt:f<(Z0D (Z06 Gl t f)).length:=by omega
         have:=hr _ (List.getElem_mem hlt)
         simpa [List.getD,List.getElem?_eq_getElem hlt] using this
        have ft:(f:Int)<4:=by omega
        by_cases q5:Z1d (Z06 Gl t f)=t/\(Z0D (Z06 Gl t f)).getD f 0=f
        · obtain ⟨q5,q6⟩:=q5
          have ok:Z0i Gl n t f=false:=by simp [Z0i,q1,q5,q6,-List.getD_eq_getElem?_getD]
          obtain ⟨H',x1,x2⟩:=endF (c+1+1+1+1+1) qO ok
          have q2':¬ (t:Int)<0:=by omega
          have q3':¬ (n:Int)<=t:=by omega
          refine Ans.step (v:=(⟨.ret,[],H',c+1+1+1+1+1,[]⟩:Rt FH)) ?_ x2
          apply Ans.eq
          repeat (first | (with_reducible refine Ans.bt ?_ ?_; exact rfl) | (with_reducible refine Ans.bf ?_ ?_; exact rfl) | (with_reducible refine Ans.ct ?_ ?_; focus (simp; done)) | (with_reducible refine Ans.cf ?_ ?_; focus (simp; done)) | refine Ans.step (by (simp (disch:=(first | omega | (simp <;> omega) | fail)) [b0,b1,b2,b3,a0,a1,e1,e2,e3,Z3H,hx,hnl,q1,q2',q3',q4,q5,q6,ft,x1,Z0O,hp,-List.getD_eq_getElem?_getD]) <;> rfl) ?_)
          exact Ans.done rfl
        · obtain ⟨b,o,f1,f2⟩:=hface (Z1d (Z06 Gl t f)) ((Z0D (Z06 Gl t f)).getD f 0) qO qO hpr.1 hpr.2
          have hfl:(Z06 Gl (Z1d (Z06 Gl t f)).toNat ((Z0D (Z06 Gl t f)).getD f 0).toNat).length=5:=Z0G h2.1 qO qO
          have hil:(inv (Z0D (Z06 Gl t f))).length=4:=Z24 _ _ _
          have hil5:((t:Int)::inv (Z0D (Z06 Gl t f))).length=5:=by rw [List.length_cons,hil]
          have q5d:(decide (Z1d (Z06 Gl t f)=(t:Int)) && decide ((Z0D (Z06 Gl t f)).getD f 0=(f:Int)))=false:=by simpa [-List.getD_eq_getElem?_getD] using q5
          have key:∀ X:Bool,decide (Z06 Gl (Z1d (Z06 Gl t f)).toNat ((Z0D (Z06 Gl t f)).getD f 0).toNat=(t:Int)::inv (Z0D (Z06 Gl t f)))=X->Z0i Gl n t f=X:=by
           intro X hX
           unfold Z0i
           rw [hX,q5d,q4]
           have z1:0<=Z1d (Z06 Gl t f):=by omega
           have z2:Z1d (Z06 Gl t f)<n:=by omega
           simp [q1,z1,z2]
          have dd:∃ X:Bool,decide (Z1d (Z06 Gl t f)=(t:Int))=X/\(X=true->decide ((Z0D (Z06 Gl t f)).getD f 0=(f:Int))=false):=by
           refine ⟨_,rfl,fun e=>?_⟩
           rw [e] at q5d
           simpa only [Bool.true_and] using q5d
          obtain ⟨X,d5,d6⟩:=dd
          cases q7:decide (Z06 Gl (Z1d (Z06 Gl t f)).toNat ((Z0D (Z06 Gl t f)).getD f 0).toNat=(t:Int)::inv (Z0D (Z06 Gl t f))) with
          | true =>
           have ok:=key _ q7
           refine Ans.step (v:=(⟨.normal,[],H,c+1+1+1+1+1,[]⟩:Rt FH)) ?_ (endT (c+1+1+1+1+1) qO ok)
           apply Ans.eq
           cases X with
           | true =>
            have d6':=d6 rfl
            repeat (first | (with_reducible refine Ans.bt ?_ ?_; exact rfl) | (with_reducible refine Ans.bf ?_ ?_; exact rfl) | (with_reducible refine Ans.ct ?_ ?_; focus (simp; done)) | (with_reducible refine Ans.cf ?_ ?_; focus (simp; done)) | refine Ans.step (by (simp (disch:=(first | omega | (simp <;> omega) | fail)) [b0,b1,b2,b3,a0,a1,e1,e2,e3,Z3H,Z56,hx,hnl,q1,q2,q3,q4,d5,d6',ft,Z0O,Z1T,hp,hr,hpr,f1,f2,Zmc,hil,hfl,q7,-List.getD_eq_getElem?_getD]) <;> rfl) ?_)
            exact Ans.done rfl
           | false =>
            repeat (first | (with_reducible refine Ans.bt ?_ ?_; exact rfl) | (with_reducible refine Ans.bf ?_ ?_; exact rfl) | (with_reducible refine Ans.ct ?_ ?_; focus (simp; done)) | (with_reducible refine Ans.cf ?_ ?_; focus (simp; done)) | refine Ans.step (by (simp (disch:=(first | omega | (simp <;> omega) | fail)) [b0,b1,b2,b3,a0,a1,e1,e2,e3,Z3H,Z56,hx,hnl,q1,q2,q3,q4,d5,ft,Z0O,Z1T,hp,hr,hpr,f1,f2,Zmc,hil,hfl,q7,-List.getD_eq_getElem?_getD]) <;> rfl) ?_)
            exact Ans.done rfl
          | false =>
           have ok:=key _ q7
           obtain ⟨H',x1,x2⟩:=endF (c+1+1+1+1+1+1) qO ok
           refine Ans.step (v:=(⟨.ret,[],H',c+1+1+1+1+1+1,[]⟩:Rt FH)) ?_ x2
           apply Ans.eq
           cases X with
           | true =>
            have d6':=d6 rfl
            repeat (first | (with_reducible refine Ans.bt ?_ ?_; exact rfl) | (with_reducible refine Ans.bf ?_ ?_; exact rfl) | (with_reducible refine Ans.ct ?_ ?_; focus (simp; done)) | (with_reducible refine Ans.cf ?_ ?_; focus (simp; done)) | refine Ans.step (by (simp (disch:=(first | omega | (simp <;> omega) | fail)) [b0,b1,b2,b3,a0,a1,e1,e2,e3,Z3H,Z56,hx,hnl,q1,q2,q3,q4,d5,d6',ft,Z0O,Z1T,hp,hr,hpr,f1,f2,Zmc,hil,hfl,q7,x1,-List.getD_eq_getElem?_getD]) <;> rfl) ?_)
            exact Ans.done rfl
           | false =>
            repeat (first | (with_reducible refine Ans.bt ?_ ?_; exact rfl) | (with_reducible refine Ans.bf ?_ ?_; exact rfl) | (with_reducible refine Ans.ct ?_ ?_; focus (simp; done)) | (with_reducible refine Ans.cf ?_ ?_; focus (simp; done)) | refine Ans.step (by (simp (disch:=(first | omega | (simp <;> omega) | fail)) [b0,b1,b2,b3,a0,a1,e1,e2,e3,Z3H,Z56,hx,hnl,q1,q2,q3,q4,d5,ft,Z0O,Z1T,hp,hr,hpr,f1,f2,Zmc,hil,hfl,q7,x1,-List.getD_eq_getElem?_getD]) <;> rfl) ?_)
            exact Ans.done rfl

structure ChkI (s:Value) (n:Nat) (Gl:List Int) (gb gi rb nb l:Nat) (st:ALoop) (c0 ce:Nat) (h0:FH) (k:Nat) (h:FH) (c:Nat):Prop where
 lc:c0<=c
 g:Z0a h gb [s]
 i:Z0a h gi [s]
 sl:SlI h c0 s 20 n Gl
 nn:Z0a h nb (ints Z4O)
 res:h.f rb=some (.cells false none [.int .i64 0])
 loop:h.f l=some (.loop st)
 dfr:h.f (l+1)=some .dfr
 same:Z0q ce h0 h
 ok:Zh9 Gl n k
structure ChkJ (n:Nat) (Gl:List Int) (rb l:Nat) (st:ALoop) (c0 ce:Nat) (h0:FH) (h:FH) (c:Nat):Prop where
 lc:c0<=c
 res:h.f rb=some (.cells false none [.int .i64 7])
 loop:h.f l=some (.loop { st with state:=.done,pending:=some .ret })
 dfr:h.f (l+1)=some .dfr
 same:Z0q ce h0 h
 bad:∃ j,j<4*n/\Z0i Gl n (j / 4) (j % 4)=false
theorem Zlw (s:Value) (n:Nat) (Gl:List Int) (h0:FH) (ce:Nat) (df:List Nat) (hs:SlI h0 ce s 20 n Gl) :
 G (.fn 57) [.agg #[s]] h0 ce df=some ⟨.ret,[.int .i64 (if n<=1000/\Z0Y Gl n=true then 0 else 7)],h0,ce,[]⟩:=by
 refine Z1P (fun r e=>f57_go e) (by simp) ?_
 have hflat:((Value.agg #[s]).cells.toList.all Z08)=true:=by
  obtain ⟨_,_,a,cap,rfl,_⟩:=hs
  rfl
 have hcell:(Value.agg #[s]).cells.toList=[s]:=rfl
 have hlen:=hs.len
 unfold ZhR
 rw [hflat,hcell]
 simp only [cond_true]
 by_cases hn:n<=1000
 · have hn':¬ (1000:Int)<n:=by omega
   have hbn:Z1v [.int .i64 0,.int .i64 0,.int .i64 0,.int .i64 0,.int .i64 0] [(0,1,.int .i64 (-1))]=some (av Z4O):=rfl
   have hnl:Z4O.length=5:=rfl
   repeat (first | (with_reducible refine Ans.bt ?_ ?_; exact rfl) | (with_reducible refine Ans.bf ?_ ?_; exact rfl) | (with_reducible refine Ans.ct ?_ ?_; focus (simp; done)) | (with_reducible refine Ans.cf ?_ ?_; focus (simp; done)) | refine Ans.step (by (simp (disch:=(first | omega | (simp <;> omega) | fail)) [hlen,hn',hbn,hnl,-List.getD_eq_getElem?_getD]) <;> rfl) ?_)
   obtain ⟨H,hH⟩:∃ H,H=newB (newB (newB h0 (256*ce) [s]) (256*ce+1) [.int .i64 0]) (256*(ce+1+1)+1) (ints Z4O):=⟨_,rfl⟩
   have hc130:callF G 71 [.agg #[s]] H (ce+1+1+1+1)=some (.func (.func 78) [].toArray [ptrTo (256*(ce+1+1+1+1))].toArray,newB H (256*(ce+1+1+1+1)) [s],ce+1+1+1+1+1+1):=by
    refine Z0j (f71_go (r:=⟨.ret,[_],_,_,[]⟩) ?_)
    unfold ZhD
    rw [hflat,hcell]
    simp
   rw [← hH]
   refine Ans.step hc130 ?_
   dsimp only
   simp only [Nat.add_zero]
   obtain ⟨l,hl⟩:∃ l,l=256*(ce+1+1+1+1+1+1):=⟨_,rfl⟩
   obtain ⟨st,hst⟩:∃ st,st=ZbY 71 [1,2,3] #[13,14] Z1p Z1o [ptrTo (256*ce),ptrTo (256*ce+1),ptrTo (256*(ce+1+1)+1)] (l+1):=⟨_,rfl⟩
   have hI:FacesI (.func (.yield l) #[] #[]) s n Gl (256*(ce+1+1+1+1))
    (ChkI s n Gl (256*ce) (256*(ce+1+1+1+1)) (256*ce+1) (256*(ce+1+1)+1) l st (ce+1+1+1+1+1+1+1) ce h0)
    (ChkJ n Gl (256*ce+1) l st (ce+1+1+1+1+1+1+1) ce h0):=by
    refine ⟨fun k h c h' c' hi hc hs=>?_,fun h c h' c' hj hc hs=>?_,fun k h c hi=>⟨hi.i,hi.sl.mono hi.lc⟩,fun t f h c ht hf hi=>?_⟩
    · have:=hi.lc
      exact ⟨by omega,hi.g.same qO hs,hi.i.same qO hs,hi.sl.same (hs.mono qO),hi.nn.same qO hs,(hs _ qO).trans hi.res,(hs _ qO).trans hi.loop,(hs _ qO).trans hi.dfr,hi.same.trans (hs.mono qO),hi.ok⟩
    · have:=hj.lc
      exact ⟨by omega,(hs _ qO).trans hj.res,(hs _ qO).trans hj.loop,(hs _ qO).trans hj.dfr,hj.same.trans (hs.mono qO),hj.bad⟩
    · have hlc:=hi.lc
      refine Zdc (st:=st) hi.loop (by rw [hst]; rfl) (by rw [hst]; rfl) ?_
      obtain ⟨r,hr,r1,r2,r3,r4,r5,r6⟩:=Zi6 s n Gl (256*ce) (256*ce+1) (256*(ce+1+1)+1) l (ce+1+1+1+1+1+1+1) c st h hlc t f ht hf qO qO qO qO qO qO qO
       hi.g hi.sl hi.nn hi.res hi.loop (by rw [hst]; rfl)
      have hk:G (.rnd st.nt st.lin st.fr st.params l st.assign st.body) ([av [(t:Int),(f:Int)],av (Z06 Gl t f)]++st.vals) h c []=some r:=by rw [hst]; exact Zg1 hr
      refine .intro hk ⟨_,r4,r1, ?_⟩
      dsimp only
      have hk4:(4*t+f) / 4=t/\(4*t+f) % 4=f:=by omega
      have hold:∀ b cs,b<256*c->b ≠ l->b ≠ 256*ce+1->Z0a h b cs->Z0a r.h b cs:=by
       intro b cs h1 h2 h3 ⟨ro,op,e⟩
       refine ⟨ro,op, ?_⟩
       have:=r6 b h1 h2
       rw [if_neg (fun hh=>h3 hh.1)] at this
       exact this.trans e
      cases hok:Z0i Gl n t f with
      | true =>
       left
       rw [hok] at r5 r6
       refine ⟨rfl, ?_⟩
       have hfe:∀ i,i<256*c->r.h.f i=h.f i:=by
        intro i hi'
        by_cases e:i=l
        · rw [e,r5,hi.loop]; rw [hst]; rfl
        · rw [r6 i hi' e,if_neg (fun hh=>by cases hh.2)]
       have hsm:Z0q c h r.h:=hfe
       refine ⟨by omega,hi.g.same qO hsm,hi.i.same qO hsm,hi.sl.same (hsm.mono qO),hi.nn.same qO hsm,(hsm _ qO).trans hi.res,(hsm _ qO).trans hi.loop,(hsm _ qO).trans hi.dfr,hi.same.trans (hsm.mono qO), ?_⟩
       intro j hj
       by_cases e:j=4*t+f
       · rw [e,hk4.1,hk4.2]; exact hok
       · exact hi.ok j qO
      | false =>
       right
       rw [hok] at r5 r6
       refine ⟨rfl,by omega, ?_, ?_, ?_, ?_,⟨4*t+f,by omega,by rw [hk4.1,hk4.2]; exact hok⟩⟩
       · rw [r6 _ qO qO,if_pos ⟨rfl,rfl⟩]
       · rw [r5]; rfl
       · rw [r6 _ qO qO,if_neg qO]; exact hi.dfr
       · intro i hi'
         rw [r6 i qO qO,if_neg qO]
         exact hi.same i hi'
   have hH0:∀ i,i<256*ce->H.f i=h0.f i:=by
    intro i hi'
    rw [hH,Z0b,if_neg qO,Z0b,if_neg qO,Z0b,if_neg qO]
   obtain ⟨E,hE⟩:∃ E,E=ZbZ (newB H (256*(ce+1+1+1+1)) [s]) (ce+1+1+1+1+1+1) 71 [1,2,3] #[13,14] Z1p Z1o [ptrTo (256*ce),ptrTo (256*ce+1),ptrTo (256*(ce+1+1)+1)]:=⟨_,rfl⟩
   have hEf:∀ i,i<l->E.f i=(newB H (256*(ce+1+1+1+1)) [s]).f i:=by
    intro i hi'
    rw [hE,Zbi,if_neg qO,if_neg qO]
   have hI0:ChkI s n Gl (256*ce) (256*(ce+1+1+1+1)) (256*ce+1) (256*(ce+1+1)+1) l st (ce+1+1+1+1+1+1+1) ce h0 0 E (ce+1+1+1+1+1+1+1):=by
    have hsame:Z0q ce h0 E:=by
     intro i hi'
     rw [hEf i qO,Z0b,if_neg qO]
     exact hH0 i hi'
    refine ⟨Nat.le_refl _,⟨false,none, ?_⟩,⟨false,none, ?_⟩,(hs.same hsame).mono qO,⟨false,none, ?_⟩, ?_, ?_, ?_,hsame,fun j hj=>by omega⟩
    · show E.f _=_
      rw [hEf _ qO,Z0b,if_neg qO,hH,Z0b,if_neg qO,Z0b,if_neg qO,Z0b,if_pos rfl]
    · show E.f _=_
      rw [hEf _ qO,Z0b,if_pos rfl]
    · show E.f _=_
      rw [hEf _ qO,Z0b,if_neg qO,hH,Z0b,if_pos rfl]
    · rw [hEf _ qO,Z0b,if_neg qO,hH,Z0b,if_neg qO,Z0b,if_pos rfl]
    · rw [hE,Zbi,if_pos hl,hst,hl]
    · rw [hE,Zbi,if_neg qO,if_pos qO]
   obtain ⟨⟨re,rv,rh,rc,rd⟩,hr,r1,r2,r3,r4,r5⟩:=ZkB hI hI0 []
   simp only at r1 r2 r3 r4 r5
   subst r1 r2 r3
   rw [hl,hE] at hr
   rcases r5 with r5 | r5
   · have hall:Z0Y Gl n=true:=(Z3L Gl n).2 r5.ok
     rw [if_pos ⟨hn,hall⟩]
     have hlc:=r5.lc
     have hg:HeapC.get rh (256*ce+1)=some (.cells false none [.int .i64 0]):=r5.res
     refine Ans.head (R:=fun q=>q=(Ex.normal,HeapC.del rh l,rc,[l+1])) (ZbH (.intro hr ⟨st,.normal,by rw [← hl]; exact r5.loop,by rw [hst]; simp [ZbY],by rw [hst]; rfl,by rw [hl]⟩)) ?_
     rintro _ rfl
     have e1:stN (HeapC.del rh l) 1 (.pointer (some ⟨256*ce+1,0,none⟩)) (.int .i64 0)=some (HeapC.set (HeapC.del rh l) (256*ce+1) (.cells false none [.int .i64 0])) :=
      Z4F (cs:=[.int .i64 0]) (by rw [get_del_ne _ _ _ qO]; exact hg) (by simp) rfl rfl
     have e2:Z07 (HeapC.set (HeapC.del rh l) (256*ce+1) (.cells false none [.int .i64 0])) [l+1]=some (HeapC.del (HeapC.set (HeapC.del rh l) (256*ce+1) (.cells false none [.int .i64 0])) (l+1)):=by
      have:HeapC.get (HeapC.set (HeapC.del rh l) (256*ce+1) (.cells false none [.int .i64 0])) (l+1)=some .dfr:=by
       rw [get_set_ne _ _ _ _ qO,get_del_ne _ _ _ qO]; exact r5.dfr
      simp [Z07,this]
     have e3:ld1 (HeapC.del (HeapC.set (HeapC.del rh l) (256*ce+1) (.cells false none [.int .i64 0])) (l+1)) (.pointer (some ⟨256*ce+1,0,none⟩))=some (.int .i64 0):=by
      rw [ld1_del_ne _ _ _ _ qO]
      exact ld1_holds ⟨_,_,get_set_same _ _ _⟩ rfl
     repeat (first | (with_reducible refine Ans.bt ?_ ?_; exact rfl) | (with_reducible refine Ans.bf ?_ ?_; exact rfl) | (with_reducible refine Ans.ct ?_ ?_; focus (simp; done)) | (with_reducible refine Ans.cf ?_ ?_; focus (simp; done)) | refine Ans.step (by (simp (disch:=(first | omega | (simp <;> omega) | fail)) [e1,e2,e3,-List.getD_eq_getElem?_getD]) <;> rfl) ?_)
     refine Ans.done ⟨rfl,rfl, ?_,rfl⟩
     intro i hi'
     show (HeapC.del (HeapC.set (HeapC.del rh l) (256*ce+1) (.cells false none [.int .i64 0])) (l+1)).f i=_
     rw [Zlv,if_neg qO,Z0m,if_neg qO,Zlv,if_neg qO]
     exact r5.same i hi'
   · have hall:¬ (n<=1000/\Z0Y Gl n=true):=by
      rintro ⟨_,h⟩
      obtain ⟨j,h1,h2⟩:=r5.bad
      have:=(Z3L Gl n).1 h j h1
      rw [h2] at this; cases this
     rw [if_neg hall]
     have hlc:=r5.lc
     have hg:HeapC.get rh (256*ce+1)=some (.cells false none [.int .i64 7]):=r5.res
     refine Ans.head (R:=fun q=>q=(Ex.ret,HeapC.del rh l,rc,[l+1])) (ZbH (.intro hr ⟨_,.ret,by rw [← hl]; exact r5.loop,by simp,rfl,by rw [hl]⟩)) ?_
     rintro _ rfl
     have e2:Z07 (HeapC.del rh l) [l+1]=some (HeapC.del (HeapC.del rh l) (l+1)):=by
      have:HeapC.get (HeapC.del rh l) (l+1)=some .dfr:=by
       rw [get_del_ne _ _ _ qO]; exact r5.dfr
      simp [Z07,this]
     have e3:ld1 (HeapC.del (HeapC.del rh l) (l+1)) (.pointer (some ⟨256*ce+1,0,none⟩))=some (.int .i64 7):=by
      rw [ld1_del_ne _ _ _ _ qO,ld1_del_ne _ _ _ _ qO]
      exact ld1_holds ⟨_,_,hg⟩ rfl
     repeat (first | (with_reducible refine Ans.bt ?_ ?_; exact rfl) | (with_reducible refine Ans.bf ?_ ?_; exact rfl) | (with_reducible refine Ans.ct ?_ ?_; focus (simp; done)) | (with_reducible refine Ans.cf ?_ ?_; focus (simp; done)) | refine Ans.step (by (simp (disch:=(first | omega | (simp <;> omega) | fail)) [e2,e3,-List.getD_eq_getElem?_getD]) <;> rfl) ?_)
     refine Ans.done ⟨rfl,rfl, ?_,rfl⟩
     intro i hi'
     show (HeapC.del (HeapC.del rh l) (l+1)).f i=_
     rw [Zlv,if_neg qO,Zlv,if_neg qO]
     exact r5.same i hi'
 · have hn':(1000:Int)<n:=by omega
   have:¬ (n<=1000/\Z0Y Gl n=true):=fun h=>hn h.1
   rw [if_neg this]
   repeat (first | (with_reducible refine Ans.bt ?_ ?_; exact rfl) | (with_reducible refine Ans.bf ?_ ?_; exact rfl) | (with_reducible refine Ans.ct ?_ ?_; focus (simp; done)) | (with_reducible refine Ans.cf ?_ ?_; focus (simp; done)) | refine Ans.step (by (simp (disch:=(first | omega | (simp <;> omega) | fail)) [hlen,hn',-List.getD_eq_getElem?_getD]) <;> rfl) ?_)
   refine Ans.done ?_
   simp (disch:=omega)

theorem Zh4 (p:List Int) (hp:p.length=4) (h:FH) (b1 b3 c:Nat) (hb1:b1<256*c) (hb3:b3<256*c) (hne:b1 ≠ b3) (hh:Z0a h b1 (ints p)) (df:List Nat):∀ (k i:Nat) (m:List Bool),i+k=4->m.length=4 →
 Ans (G (Z3R none) [ptrTo b1,.bool false,ptrTo b3,.int .i64 i] (newB h b3 (bools m)) c df) fun r=>r.c=c/\r.df=df/\(∃ cs,r.h=newB h b3 cs) ∧
  (if ZiK (p.drop i) m=true then r.e = .exit 0 else r.e = .ret/\r.v 1 = .bool false):=by
 intro k
 induction k with
 | zero =>
  intro i m hi hm
  obtain rfl:i=4:=by omega
  rw [List.drop_of_length_le qO]
  refine .intro (Z59 (q:=⟨.exit 0,[ptrTo b1,.bool false,ptrTo b3,.int .i64 (4:Nat)],newB h b3 (bools m),c+1,df⟩) (by unfold Z1K; simp) (by simp)) ?_
  rw [Z0P (by simp [hb1,hb3])]
  refine ⟨rfl,rfl,⟨_,rfl⟩, ?_⟩
  simp [ZiK]
 | succ k ih =>
  intro i m hi hm
  have hlt:i<p.length:=by omega
  have e0:(i:Int)<4:=by omega
  have hld:∀ j,j<4->ld1 (newB h b3 (bools m)) (.pointer (some ⟨b1,j,none⟩))=some (.int .i64 (p.getD j 0)):=fun j hj=>by
   rw [ld1_newB_ne _ _ _ _ _ hne]
   exact ld1_holds hh (by rw [ints_getD _ _ qO])
  have hldi:=hld i qO
  obtain ⟨x,hx⟩:∃ x,x=p.getD i 0:=⟨_,rfl⟩
  have hdr:p.drop i=x::p.drop (i+1):=by
   rw [List.drop_eq_getElem_cons hlt,hx]
   simp [List.getD,List.getElem?_eq_getElem hlt]
  rw [hdr,ZiK]
  rw [← hx] at hldi
  by_cases h1:x<0
  · rw [if_pos (Or.inl h1)]
    refine Ans.intro (Z59 (q:=⟨.ret,[ptrTo b1,.bool false,ptrTo b3,.int .i64 i],newB h b3 (bools m),_,df⟩) (Ans.eq (by
     unfold Z1K
     repeat (first | (with_reducible refine Ans.bt ?_ ?_; exact rfl) | (with_reducible refine Ans.bf ?_ ?_; exact rfl) | (with_reducible refine Ans.ct ?_ ?_; focus (simp; done)) | (with_reducible refine Ans.cf ?_ ?_; focus (simp; done)) | refine Ans.step (by simp (disch:=(first | omega | (simp <;> omega) | fail)) [e0,hldi,h1,-List.getD_eq_getElem?_getD] <;> rfl) ?_)
     exact .done rfl)) (by simp)) ?_
    rw [Z0P (by simp [hb1,hb3])]
    exact ⟨rfl,rfl,⟨_,rfl⟩,by simp⟩
  by_cases h2:3<x
  · rw [if_pos (Or.inr h2)]
    refine Ans.intro (Z59 (q:=⟨.ret,[ptrTo b1,.bool false,ptrTo b3,.int .i64 i],newB h b3 (bools m),_,df⟩) (Ans.eq (by
     unfold Z1K
     repeat (first | (with_reducible refine Ans.bt ?_ ?_; exact rfl) | (with_reducible refine Ans.bf ?_ ?_; exact rfl) | (with_reducible refine Ans.ct ?_ ?_; focus (simp; done)) | (with_reducible refine Ans.cf ?_ ?_; focus (simp; done)) | refine Ans.step (by simp (disch:=(first | omega | (simp <;> omega) | fail)) [e0,hldi,h1,h2,-List.getD_eq_getElem?_getD] <;> rfl) ?_)
     exact .done rfl)) (by simp)) ?_
    rw [Z0P (by simp [hb1,hb3])]
    exact ⟨rfl,rfl,⟨_,rfl⟩,by simp⟩
  rw [if_neg qO]
  have hldm:ld1 (newB h b3 (bools m)) (.pointer (some ⟨b3,x.toNat,none⟩))=some (.bool (m.getD x.toNat false)):=by
   rw [ld1_newB_same,Z8S _ _ qO]
  by_cases h3:m.getD x.toNat false=true
  · rw [if_pos h3]
    rw [h3] at hldm
    refine Ans.intro (Z59 (q:=⟨.ret,[ptrTo b1,.bool false,ptrTo b3,.int .i64 i],newB h b3 (bools m),_,df⟩) (Ans.eq (by
     unfold Z1K
     repeat (first | (with_reducible refine Ans.bt ?_ ?_; exact rfl) | (with_reducible refine Ans.bf ?_ ?_; exact rfl) | (with_reducible refine Ans.ct ?_ ?_; focus (simp; done)) | (with_reducible refine Ans.cf ?_ ?_; focus (simp; done)) | refine Ans.step (by simp (disch:=(first | omega | (simp <;> omega) | fail)) [e0,hldi,h1,h2,hldm,-List.getD_eq_getElem?_getD] <;> rfl) ?_)
     exact .done rfl)) (by simp)) ?_
    rw [Z0P (by simp [hb1,hb3])]
    exact ⟨rfl,rfl,⟨_,rfl⟩,by simp⟩
  rw [if_neg h3]
  have h3':m.getD x.toNat false=false:=by simpa using h3
  rw [h3'] at hldm
  obtain ⟨r,hr,hq⟩:=ih (i+1) (m.set x.toNat true) qO (by simpa using hm)
  have hst:stN (newB h b3 (bools m)) 1 (.pointer (some ⟨b3,x.toNat,none⟩)) (.bool true)=some (newB h b3 (bools (m.set x.toNat true))):=by
   rw [st1_bool _ _ _ _ _ (by rw [Z4Y]; omega),Z8R]
  refine .intro (Zg2 (q:=⟨.normal,[ptrTo b1,.bool false,ptrTo b3,.int .i64 (i+1:Nat)],newB h b3 (bools (m.set x.toNat true)),_,df⟩) (Ans.eq (by
   unfold Z1K
   repeat (first | (with_reducible refine Ans.bt ?_ ?_; exact rfl) | (with_reducible refine Ans.bf ?_ ?_; exact rfl) | (with_reducible refine Ans.ct ?_ ?_; focus (simp; done)) | (with_reducible refine Ans.cf ?_ ?_; focus (simp; done)) | refine Ans.step (by simp (disch:=(first | omega | (simp <;> omega) | fail)) [e0,hldi,h1,h2,hldm,hst,-List.getD_eq_getElem?_getD] <;> rfl) ?_)
   exact .done rfl)) rfl ?_) hq
  rw [Z8D hb3 (by simp [hb1,hb3]) (Z1X.bools _ _)]
  exact hr
theorem ZgK (p:List Int) (hp:p.length=4) (h:FH) (c:Nat) (df:List Nat) :
 G (.fn 50) [av p] h c df=some ⟨.ret,[.bool (Z0n p)],h,c,[]⟩:=by
 refine Z1P (fun r e=>f50_go e) (by simp) ?_
 obtain ⟨⟨re,rv,rh,rc,rd⟩,hr,h1,h2,⟨cs,h3⟩,h4⟩:=Zh4 p hp (newB h (256*c) (ints p)) (256*c) (256*(c+1)) (c+1+1+1) qO qO qO (Z0a.newB_same _ _ _) [] 4 0 [false,false,false,false] rfl rfl
 simp only at h1 h2 h3
 subst h1 h2 h3
 rw [← Zmx p hp]
 unfold Zne
 simp only [List.drop_zero] at h4
 simp only [Int.ofNat_eq_natCast,Int.cast_ofNat_Int] at hr
 have hb:bools [false,false,false,false]=[.bool false,.bool false,.bool false,.bool false]:=rfl
 rw [hb] at hr
 cases hv:ZiK p [false,false,false,false] with
 | true =>
  rw [hv,if_pos rfl] at h4
  subst h4
  simp (disch:=omega) [hr,hp]
 | false =>
  rw [hv,if_neg (by simp)] at h4
  obtain ⟨rfl,h5⟩:=h4
  simp (disch:=omega) [hr,hp,h5]
theorem Z0s (p:List Int) (hp:p.length=4) (h:FH) (c:Nat):callF G 50 [av p] h c=some (.bool (Z0n p),h,c):=Z0j (ZgK p hp h c [])
theorem Zau (p:List Int) (hp:p.length=4) (hr:InR p) (h:FH) (b1 b2 b3 c:Nat) (hb1:b1<256*c) (hb2:b2<256*c) (hb3:b3<256*c) (hne:b1 ≠ b3) (hh:Z0a h b1 (ints p)) (df:List Nat):∀ (k i:Nat) (out:List Int),i+k=4->out.length=4 →
 G (Z3S none) [ptrTo b1,ptrTo b2,ptrTo b3,.int .i64 i] (newB h b3 (ints out)) c df =
  some ⟨.exit 0,[ptrTo b1,ptrTo b2,ptrTo b3,.int .i64 4],newB h b3 (ints (ZbR (p.drop i) i out)),c,df⟩:=by
 intro k
 induction k with
 | zero =>
  intro i out hi ho
  obtain rfl:i=4:=by omega
  rw [List.drop_of_length_le qO]
  refine (Zg7 (q:=⟨.exit 0,[ptrTo b1,ptrTo b2,ptrTo b3,.int .i64 4],newB h b3 (ints out),c+1,df⟩) (by unfold Z3T; simp) (by simp)).trans ?_
  rw [Z0P (by simp [hb1,hb2,hb3])]
  rfl
 | succ k ih =>
  intro i out hi ho
  have hlt:i<p.length:=by omega
  have e0:(i:Int)<4:=by omega
  have hld:ld1 (newB h b3 (ints out)) (.pointer (some ⟨b1,i,none⟩))=some (.int .i64 (p.getD i 0)):=by
   rw [ld1_newB_ne _ _ _ _ _ hne]
   exact ld1_holds hh (by rw [ints_getD _ _ qO])
  obtain ⟨x,hx⟩:∃ x,x=p.getD i 0:=⟨_,rfl⟩
  have hdr:p.drop i=x::p.drop (i+1):=by
   rw [List.drop_eq_getElem_cons hlt,hx]
   simp [List.getD,List.getElem?_eq_getElem hlt]
  have hxr:0<=x/\x<4:=by
   rw [hx]
   have:=hr p[i] (List.getElem_mem hlt)
   simpa [List.getD,List.getElem?_eq_getElem hlt] using this
  rw [hdr,ZbR]
  rw [← hx] at hld
  refine Zg8 (q:=⟨.normal,[ptrTo b1,ptrTo b2,ptrTo b3,.int .i64 (i+1:Nat)],newB h b3 (ints (out.set x.toNat i)),_,df⟩) (Ans.eq (by
   unfold Z3T
   repeat (first | (with_reducible refine Ans.bt ?_ ?_; exact rfl) | (with_reducible refine Ans.bf ?_ ?_; exact rfl) | (with_reducible refine Ans.ct ?_ ?_; focus (simp; done)) | (with_reducible refine Ans.cf ?_ ?_; focus (simp; done)) | refine Ans.step (by simp (disch:=(first | omega | (simp <;> omega) | fail)) [e0,hld,hxr,ho,-List.getD_eq_getElem?_getD] <;> rfl) ?_)
   exact .done rfl)) rfl ?_
  rw [Z8D hb3 (by simp [hb1,hb2,hb3]) (by simp)]
  exact ih (i+1) _ qO (by simpa using ho)
def invR (p:List Int):List Int:=if Z0n p=true then inv p else [0,0,0,0]
theorem ZcE (p:List Int) (hp:p.length=4) (h:FH) (c:Nat) (df:List Nat) :
 G (.fn 47) [av p] h c df=some ⟨.ret,[av (invR p)],h,c,[]⟩:=by
 refine Z1P (fun r e=>f47_go e) (by simp) ?_
 have e1:p.take 4=p:=List.take_of_length_le qO
 have hv:=fun h c=>Z0s p hp h c
 unfold Znh invR
 by_cases hb:Z0n p=true
 · rw [if_pos hb]
   rw [hb] at hv
   have hl:=Zau p hp (Z1h hb) (newB (newB h (256*c) (ints p)) (256*c+1) (ints [0,0,0,0])) (256*c) (256*c+1) (256*(c+1)) (c+1+1+1+1) qO qO qO qO
    (Z0a.newB_ne qO (Z0a.newB_same _ _ _)) [] 4 0 [0,0,0,0] rfl rfl
   have hl2:(ZbR p 0 [0,0,0,0]).length=4:=Z24 p 0 [0,0,0,0]
   have e2:(ZbR p 0 [0,0,0,0]).take 4=ZbR p 0 [0,0,0,0]:=List.take_of_length_le qO
   simp only [Z8z,Zav,Int.ofNat_eq_natCast,Int.cast_ofNat_Int,List.drop_zero] at hl
   simp (disch:=(first | omega | (simp <;> omega) | fail)) [hl,e1,e2,hp,hl2,inv,hv]
 · rw [if_neg hb]
   have hb':Z0n p=false:=by simpa using hb
   rw [hb'] at hv
   have hz:[Value.int .i64 0,Value.int .i64 0,Value.int .i64 0,Value.int .i64 0]=ints [0,0,0,0]:=rfl
   rw [hz]
   repeat (first | (with_reducible refine Ans.bt ?_ ?_; exact rfl) | (with_reducible refine Ans.bf ?_ ?_; exact rfl) | (with_reducible refine Ans.ct ?_ ?_; focus (simp; done)) | (with_reducible refine Ans.cf ?_ ?_; focus (simp; done)) | refine Ans.step (by simp (disch:=(first | omega | (simp <;> omega) | fail)) [e1,hp,hv,-List.getD_eq_getElem?_getD] <;> rfl) ?_)
   refine .done ⟨rfl,rfl, ?_,rfl⟩
   simp (disch:=omega)
theorem Zbj (p q:List Int) (hp:p.length=4) (hq:q.length=4) (hr:InR q) (h:FH) (b1 b2 b3 b4 c:Nat) (hb1:b1<256*c) (hb2:b2<256*c) (hb3:b3<256*c) (hb4:b4<256*c) (hne1:b1 ≠ b4) (hne2:b2 ≠ b4)
 (hh1:Z0a h b1 (ints p)) (hh2:Z0a h b2 (ints q)) (df:List Nat):∀ (k i:Nat) (out:List Int),i+k=4->out.length=4->out.take i=(comp p q).take i →
 G (Z3V none) [ptrTo b1,ptrTo b2,ptrTo b3,ptrTo b4,.int .i64 i] (newB h b4 (ints out)) c df =
  some ⟨.exit 0,[ptrTo b1,ptrTo b2,ptrTo b3,ptrTo b4,.int .i64 4],newB h b4 (ints (comp p q)),c,df⟩:=by
 intro k
 induction k with
 | zero =>
  intro i out hi ho ht
  obtain rfl:i=4:=by omega
  have hcl:(comp p q).length=4:=by simp [comp,hq]
  rw [List.take_of_length_le qO,List.take_of_length_le qO] at ht
  subst ht
  refine (Zg9 (q:=⟨.exit 0,[ptrTo b1,ptrTo b2,ptrTo b3,ptrTo b4,.int .i64 4],newB h b4 (ints (comp p q)),c+1,df⟩) (by unfold Z3W; simp) (by simp)).trans ?_
  rw [Z0P (by simp [hb1,hb2,hb3,hb4])]
 | succ k ih =>
  intro i out hi ho ht
  have hlt:i<q.length:=by omega
  have e0:(i:Int)<4:=by omega
  have hld1:∀ j,j<4->ld1 (newB h b4 (ints out)) (.pointer (some ⟨b1,j,none⟩))=some (.int .i64 (p.getD j 0)):=fun j hj=>by
   rw [ld1_newB_ne _ _ _ _ _ hne1]
   exact ld1_holds hh1 (by rw [ints_getD _ _ qO])
  have hld2:ld1 (newB h b4 (ints out)) (.pointer (some ⟨b2,i,none⟩))=some (.int .i64 (q.getD i 0)):=by
   rw [ld1_newB_ne _ _ _ _ _ hne2]
   exact ld1_holds hh2 (by rw [ints_getD _ _ qO])
  obtain ⟨x,hx⟩:∃ x,x=q.getD i 0:=⟨_,rfl⟩
  have hxr:0<=x/\x<4:=by
   rw [hx]
   have:=hr q[i] (List.getElem_mem hlt)
   simpa [List.getD,List.getElem?_eq_getElem hlt] using this
  rw [← hx] at hld2
  have hld1x:=hld1 x.toNat qO
  refine Zga (q:=⟨.normal,[ptrTo b1,ptrTo b2,ptrTo b3,ptrTo b4,.int .i64 (i+1:Nat)],newB h b4 (ints (out.set i (p.getD x.toNat 0))),_,df⟩) (Ans.eq (by
   unfold Z3W
   repeat (first | (with_reducible refine Ans.bt ?_ ?_; exact rfl) | (with_reducible refine Ans.bf ?_ ?_; exact rfl) | (with_reducible refine Ans.ct ?_ ?_; focus (simp; done)) | (with_reducible refine Ans.cf ?_ ?_; focus (simp; done)) | refine Ans.step (by simp (disch:=(first | omega | (simp <;> omega) | fail)) [e0,hld2,hld1x,hxr,ho,-List.getD_eq_getElem?_getD] <;> rfl) ?_)
   exact .done rfl)) rfl ?_
  rw [Z8D hb4 (by simp [hb1,hb2,hb3,hb4]) (by simp)]
  refine ih (i+1) _ qO (by simpa using ho) ?_
  have hcl:(comp p q).length=4:=by simp [comp,hq]
  have hci:(comp p q)[i]'qO=p.getD x.toNat 0:=by
   simp only [comp,List.getElem_map,hx]
   simp [List.getD,List.getElem?_eq_getElem hlt]
  rw [List.take_add_one,List.take_add_one,List.take_set_of_le qO,ht,List.getElem?_set_self qO,List.getElem?_eq_getElem (by omega:i<(comp p q).length),hci]
def ZnG (p q:List Int):List Int:=if Z0n p=true/\Z0n q=true then comp p q else [0,0,0,0]
theorem Zd8 (p q:List Int) (hp:p.length=4) (hq:q.length=4) (h:FH) (c:Nat) (df:List Nat) :
 G (.fn 45) [av p,av q] h c df=some ⟨.ret,[av (ZnG p q)],h,c,[]⟩:=by
 refine Z1P (fun r e=>f45_go e) (by simp) ?_
 have e1:p.take 4=p:=List.take_of_length_le qO
 have e2:q.take 4=q:=List.take_of_length_le qO
 have hv:=fun h c=>Z0s p hp h c
 have hw:=fun h c=>Z0s q hq h c
 have hz:[Value.int .i64 0,Value.int .i64 0,Value.int .i64 0,Value.int .i64 0]=ints [0,0,0,0]:=rfl
 unfold Zni ZnG
 rw [hz]
 by_cases hb:Z0n p=true
 · rw [hb] at hv
   by_cases hc:Z0n q=true
   · rw [if_pos ⟨hb,hc⟩]
     rw [hc] at hw
     have hcl:(comp p q).length=4:=by simp [comp,hq]
     have e3:(comp p q).take 4=comp p q:=List.take_of_length_le qO
     have hl:=fun c' (hc':c<c')=>Zbj p q hp hq (Z1h hc) (newB (newB (newB h (256*c) (ints p)) (256*c+1) (ints q)) (256*c+2) (ints [0,0,0,0])) (256*c) (256*c+1) (256*c+2) (256*(c+1)) (c'+1) qO qO qO qO qO qO
      (Z0a.newB_ne qO (Z0a.newB_ne qO (Z0a.newB_same _ _ _))) (Z0a.newB_ne qO (Z0a.newB_same _ _ _)) [] 4 0 [0,0,0,0] rfl rfl rfl
     have hl1:=hl (c+1+1+1) qO
     simp only [Int.ofNat_eq_natCast,Int.cast_ofNat_Int] at hl1
     repeat (first | (with_reducible refine Ans.bt ?_ ?_; exact rfl) | (with_reducible refine Ans.bf ?_ ?_; exact rfl) | (with_reducible refine Ans.ct ?_ ?_; focus (simp; done)) | (with_reducible refine Ans.cf ?_ ?_; focus (simp; done)) | refine Ans.step (by simp (disch:=(first | omega | (simp <;> omega) | fail)) [e1,e2,e3,hp,hq,hv,hw,hl1,hcl,-List.getD_eq_getElem?_getD] <;> rfl) ?_)
     refine .done ⟨rfl,rfl, ?_,rfl⟩
     simp (disch:=omega)
   · rw [if_neg (fun h=>hc h.2)]
     have hc':Z0n q=false:=by simpa using hc
     rw [hc'] at hw
     repeat (first | (with_reducible refine Ans.bt ?_ ?_; exact rfl) | (with_reducible refine Ans.bf ?_ ?_; exact rfl) | (with_reducible refine Ans.ct ?_ ?_; focus (simp; done)) | (with_reducible refine Ans.cf ?_ ?_; focus (simp; done)) | refine Ans.step (by simp (disch:=(first | omega | (simp <;> omega) | fail)) [e1,e2,hp,hq,hv,hw,-List.getD_eq_getElem?_getD] <;> rfl) ?_)
     refine .done ⟨rfl,rfl, ?_,rfl⟩
     simp (disch:=omega)
 · rw [if_neg (fun h=>hb h.1)]
   have hb':Z0n p=false:=by simpa using hb
   rw [hb'] at hv
   repeat (first | (with_reducible refine Ans.bt ?_ ?_; exact rfl) | (with_reducible refine Ans.bf ?_ ?_; exact rfl) | (with_reducible refine Ans.ct ?_ ?_; focus (simp; done)) | (with_reducible refine Ans.cf ?_ ?_; focus (simp; done)) | refine Ans.step (by simp (disch:=(first | omega | (simp <;> omega) | fail)) [e1,e2,hp,hq,hv,-List.getD_eq_getElem?_getD] <;> rfl) ?_)
   refine .done ⟨rfl,rfl, ?_,rfl⟩
   simp (disch:=omega)

theorem Zlq (a0 a1 a2 a3 b0 b1 b2 b3:Int):Z0H P .eql 67 (av [a0,a1,a2,a3]) (av [b0,b1,b2,b3]) =
 (cond (a0 == b0) (cond (a1 == b1) (cond (a2 == b2) (cond (a3 == b3) (some true) (some false)) (some false)) (some false)) (some false)).bind fun b=>some (.bool b):=by kernel_rfl
theorem Z3G (x y:List Int) (hx:x.length=4) (hy:y.length=4):Z00 P .eql 67 (av x) (av y)=some (.bool (decide (x=y))):=by
 match x,hx,y,hy with
 | [a0,a1,a2,a3],_,[b0,b1,b2,b3],_ =>
  rw [Z0u,Zlq]
  by_cases h0:a0=b0 <;> by_cases h1:a1=b1 <;> by_cases h2:a2=b2 <;> by_cases h3:a3=b3 <;> simp [h0,h1,h2,h3,Bool.cond_eq_ite]
theorem Z5s (p:List Int) (hp:p.length=4) (h:FH) (c:Nat):callF G 47 [av p] h c=some (av (invR p),h,c):=Z0j (ZcE p hp h c [])
theorem Zal {x:Option Nat} {h1 h2:FH} (e:∀ i,x=some i->h1.f i=h2.f i):Z14 x h1 h2=true:=by
 cases x with
 | none=>rfl
 | some i =>
  show @decide (h1.f i=h2.f i) (Classical.propDecidable _)=true
  exact @decide_eq_true _ (Classical.propDecidable _) (e i rfl)
theorem Z9F {x:List Int} (hx:x.length=5):x=Z1d x::Z0D x:=by
 match x,hx with
 | [a,b,c,d,e],_=>rfl
set_option maxHeartbeats 2000000 in
theorem Zda (s:Value) (n:Nat) (Gl:List Int) (gb c:Nat) (h:FH) (t f:Nat) (ht:t<n) (hf:f<4) (hgb:gb<256*c)
 (h1:Z0a h gb [s]) (h2:SlI h c s 20 n Gl) (v2:Value) (df:List Nat) :
 Ans (Z3f G none (ptrTo gb) v2 (.int .i64 n) (.int .i64 t) (.int .i64 f) h c df) fun r=>r.df=df/\Z0q c h r.h ∧
  r.e=(if Z0i Gl n t f=true then .normal else .ret)/\r.vs=(if Z0i Gl n t f=true then [ptrTo gb,v2,.int .i64 n,.int .i64 t,.int .i64 (f+1:Nat)] else [ptrTo gb,.int .i64 7,.int .i64 n,.int .i64 t,.int .i64 f]):=by
 have hx:=Z0G h2.1 ht hf
 have hp:=Z1j hx
 have hsp:=Z9F hx
 have ht5:(Z06 Gl t f).take 5=Z06 Gl t f:=List.take_of_length_le qO
 have ft:(f:Int)<4:=by omega
 obtain ⟨b,o,cs,x1,x2,x3,x4⟩:=h2.ix .i64 (t:Int) qO qO
 have hface:∀ u j:Int,0<=u->u<n->0<=j->j<4 -> ∃ b o,ixS 20 s (.int .i64 u)=some (.pointer (some ⟨b,o+u.toNat*20,none⟩))/\(∀ H:FH,(∀ i,i<256*c->H.f i=h.f i)->ldN H 5 (.pointer (some ⟨b,o+u.toNat*20+j.toNat*5,none⟩))=some (av (Z06 Gl u.toNat j.toNat)))/\b<256*c:=by
  intro u j u1 u2 j1 j2
  obtain ⟨b,o,cs,x1,x2,x3,x4⟩:=h2.ix .i64 u u1 u2
  refine ⟨b,o,x1,fun H hH=>?_,x2⟩
  have:=h2.1
  have x3':Z0a H b cs:=by
   obtain ⟨ro,op,e⟩:=x3
   exact ⟨ro,op,(hH b x2).trans e⟩
  rw [Nat.add_assoc,Zas x3' x4 (j:=u.toNat*20+j.toNat*5) (q:=5) qO qO]
  unfold Z06
  rw [Nat.mul_comm 20,Nat.mul_comm 5]
 obtain ⟨fb,fo,y1,y2,y3⟩:=hface t f qO qO qO qO
 have y2h:=y2 h (fun i hi=>rfl)
 simp only [Int.toNat_natCast] at y1 y2h
 have e2:ld1 h (.pointer (some ⟨gb,0,none⟩))=some s:=by rw [Z03 h1]; rfl
 obtain ⟨H,hH⟩:∃ H,H=newB h (256*(c+1)+7) (ints (Z06 Gl t f)):=⟨_,rfl⟩
 have hst:stN (newB h (256*(c+1)+7) [.int .i64 0,.int .i64 0,.int .i64 0,.int .i64 0,.int .i64 0]) 5 (.pointer (some ⟨256*(c+1)+7,0,none⟩)) (av (Z06 Gl t f))=some H:=by
  rw [stN_all _ _ 5 _ _ hx rfl,hH]
 have hS:Z0q c h H:=by rw [hH]; exact (Same_newB qO).2 (Z0q.refl _ _)
 have hB:Z0a H (256*(c+1)+7) (ints (Z06 Gl t f)):=by rw [hH]; exact Z0a.newB_same _ _ _
 have b1:ld1 H (.pointer (some ⟨256*(c+1)+7,0,none⟩))=some (.int .i64 (Z1d (Z06 Gl t f))):=by
  rw [Z03 hB,Z3z,List.getElem?_eq_getElem qO]
  simp [Z1d,List.getD,List.getElem?_eq_getElem (by omega:0<(Z06 Gl t f).length)]
 have b2:ldN H 4 (.pointer (some ⟨256*(c+1)+7,1,none⟩))=some (av (Z0D (Z06 Gl t f))):=by
  rw [ldN_holds hB (by simp [hx])]; rw [Z1Q,Z1y]; rfl
 have b3:ld1 H (.pointer (some ⟨256*(c+1)+7,1+f,none⟩))=some (.int .i64 ((Z0D (Z06 Gl t f)).getD f 0)):=by
  have hlt:1+f<(Z06 Gl t f).length:=by omega
  rw [Z03 hB,Z3z,List.getElem?_eq_getElem hlt]
  unfold Z0D
  rw [Z4R _ _ _ hf,Z4S]
  simp [List.getD,List.getElem?_eq_getElem hlt]
 have e2':ld1 H (.pointer (some ⟨gb,0,none⟩))=some s:=by
  rw [Z03 (cs:=[s]) (by obtain ⟨ro,op,e⟩:=h1; exact ⟨ro,op,(hS gb hgb).trans e⟩)]; rfl
 have hzz:Z1v [.int .i64 0,.int .i64 0,.int .i64 0,.int .i64 0] []=some (av [0,0,0,0]):=rfl
 have hz4:([0,0,0,0]:List Int).length=4:=rfl
 have hq:∀ (x:Option Nat),Z14 x H H=true:=fun x=>Zal fun i _=>rfl
 clear hH
 obtain ⟨F,hF⟩:∃ F,Z06 Gl t f=F:=⟨_,rfl⟩
 rw [hF] at hx hp hsp ht5 y2h hst b1 b2 b3
 obtain ⟨X,hX⟩:∃ X,Z1d F=X:=⟨_,rfl⟩
 obtain ⟨Y,hY⟩:∃ Y,Z0D F=Y:=⟨_,rfl⟩
 rw [hX] at b1 hsp
 rw [hY] at b2 b3 hsp hp
 have okE:Z0i Gl n t f=(decide (X = -1/\Y=[0,0,0,0]) || (decide (0<=X) && decide (X<n) && Z0n Y && !(decide (X=t) && decide (Y.getD f 0=f)) && decide (Z06 Gl X.toNat (Y.getD f 0).toNat=(t:Int)::inv Y))):=by
  unfold Z0i
  rw [hF,hX,hY]
  congr 1
  rw [hsp]
  simp [Z4O]
 have hnl:(t:Int)::inv Y=(t:Int)::inv Y:=rfl
 unfold Z3f
 repeat (first | (with_reducible refine Ans.bt ?_ ?_; exact rfl) | (with_reducible refine Ans.bf ?_ ?_; exact rfl) | (with_reducible refine Ans.ct ?_ ?_; focus (simp; done)) | (with_reducible refine Ans.cf ?_ ?_; focus (simp; done)) | refine Ans.step (by simp (disch:=(first | omega | (simp <;> omega) | fail)) [ft,-List.getD_eq_getElem?_getD] <;> rfl) ?_)
 refine Ans.bind ?_
 by_cases q1:X = -1
 · have q1':=eq_true q1
   have q0:=eq_true (show X<0 by omega)
   by_cases q2:Y=[0,0,0,0]
   · have ok:Z0i Gl n t f=true:=by rw [okE]; simp [q1,q2]
     rw [ok]
     have q2':=eq_true q2
     repeat (first | (with_reducible refine Ans.bt ?_ ?_; exact rfl) | (with_reducible refine Ans.bf ?_ ?_; exact rfl) | (with_reducible refine Ans.ct ?_ ?_; focus (simp; done)) | (with_reducible refine Ans.cf ?_ ?_; focus (simp; done)) | refine Ans.step (by simp (disch:=(first | omega | (simp <;> omega) | fail)) [ft,e2,y1,y2h,hst,b1,b2,hzz,hz4,Z3G,hp,q1',q2',-List.getD_eq_getElem?_getD] <;> rfl) ?_)
     refine .done ?_
     repeat (first | (with_reducible refine Ans.bt ?_ ?_; exact rfl) | (with_reducible refine Ans.bf ?_ ?_; exact rfl) | (with_reducible refine Ans.ct ?_ ?_; focus (simp; done)) | (with_reducible refine Ans.cf ?_ ?_; focus (simp; done)) | refine Ans.step (by simp (disch:=(first | omega | (simp <;> omega) | fail)) [ft,-List.getD_eq_getElem?_getD] <;> rfl) ?_)
     exact .done ⟨rfl,hS,by simp,by simp⟩
   · have ok:Z0i Gl n t f=false:=by rw [okE]; simp [q1,q2]
     rw [ok]
     repeat (first | (with_reducible refine Ans.bt ?_ ?_; exact rfl) | (with_reducible refine Ans.bf ?_ ?_; exact rfl) | (with_reducible refine Ans.ct ?_ ?_; focus (simp; done)) | (with_reducible refine Ans.cf ?_ ?_; focus (simp; done)) | refine Ans.step (by simp (disch:=(first | omega | (simp <;> omega) | fail)) [ft,e2,y1,y2h,hst,b1,b2,hzz,hz4,Z3G,hp,q1',q2,q0,-List.getD_eq_getElem?_getD] <;> rfl) ?_)
     refine .done ?_
     repeat (first | (with_reducible refine Ans.bt ?_ ?_; exact rfl) | (with_reducible refine Ans.bf ?_ ?_; exact rfl) | (with_reducible refine Ans.ct ?_ ?_; focus (simp; done)) | (with_reducible refine Ans.cf ?_ ?_; focus (simp; done)) | refine Ans.step (by simp (disch:=(first | omega | (simp <;> omega) | fail)) [ft,-List.getD_eq_getElem?_getD] <;> rfl) ?_)
     exact .done ⟨rfl,hS,by simp,by simp⟩
 by_cases q3:X<0
 · have ok:Z0i Gl n t f=false:=by
    have:¬ 0<=X:=by omega
    rw [okE]; simp [q1,this]
   rw [ok]
   repeat (first | (with_reducible refine Ans.bt ?_ ?_; exact rfl) | (with_reducible refine Ans.bf ?_ ?_; exact rfl) | (with_reducible refine Ans.ct ?_ ?_; focus (simp; done)) | (with_reducible refine Ans.cf ?_ ?_; focus (simp; done)) | refine Ans.step (by simp (disch:=(first | omega | (simp <;> omega) | fail)) [ft,e2,y1,y2h,hst,b1,b2,hzz,hz4,Z3G,hp,q1,q3,-List.getD_eq_getElem?_getD] <;> rfl) ?_)
   refine .done ?_
   repeat (first | (with_reducible refine Ans.bt ?_ ?_; exact rfl) | (with_reducible refine Ans.bf ?_ ?_; exact rfl) | (with_reducible refine Ans.ct ?_ ?_; focus (simp; done)) | (with_reducible refine Ans.cf ?_ ?_; focus (simp; done)) | refine Ans.step (by simp (disch:=(first | omega | (simp <;> omega) | fail)) [ft,-List.getD_eq_getElem?_getD] <;> rfl) ?_)
   exact .done ⟨rfl,hS,by simp,by simp⟩
 by_cases q4:(n:Int)<=X
 · have ok:Z0i Gl n t f=false:=by
    have:¬ X<n:=by omega
    rw [okE]; simp [q1,this]
   rw [ok]
   repeat (first | (with_reducible refine Ans.bt ?_ ?_; exact rfl) | (with_reducible refine Ans.bf ?_ ?_; exact rfl) | (with_reducible refine Ans.ct ?_ ?_; focus (simp; done)) | (with_reducible refine Ans.cf ?_ ?_; focus (simp; done)) | refine Ans.step (by simp (disch:=(first | omega | (simp <;> omega) | fail)) [ft,e2,y1,y2h,hst,b1,b2,hzz,hz4,Z3G,hp,q1,q3,q4,-List.getD_eq_getElem?_getD] <;> rfl) ?_)
   refine .done ?_
   repeat (first | (with_reducible refine Ans.bt ?_ ?_; exact rfl) | (with_reducible refine Ans.bf ?_ ?_; exact rfl) | (with_reducible refine Ans.ct ?_ ?_; focus (simp; done)) | (with_reducible refine Ans.cf ?_ ?_; focus (simp; done)) | refine Ans.step (by simp (disch:=(first | omega | (simp <;> omega) | fail)) [ft,-List.getD_eq_getElem?_getD] <;> rfl) ?_)
   exact .done ⟨rfl,hS,by simp,by simp⟩
 cases q5:Z0n Y with
 | false =>
  have ok:Z0i Gl n t f=false:=by rw [okE]; simp [q1,q5]
  rw [ok]
  repeat (first | (with_reducible refine Ans.bt ?_ ?_; exact rfl) | (with_reducible refine Ans.bf ?_ ?_; exact rfl) | (with_reducible refine Ans.ct ?_ ?_; focus (simp; done)) | (with_reducible refine Ans.cf ?_ ?_; focus (simp; done)) | refine Ans.step (by simp (disch:=(first | omega | (simp <;> omega) | fail)) [ft,e2,y1,y2h,hst,b1,b2,hzz,hz4,Z3G,hp,q1,q3,q4,q5,Z0s,-List.getD_eq_getElem?_getD] <;> rfl) ?_)
  refine .done ?_
  repeat (first | (with_reducible refine Ans.bt ?_ ?_; exact rfl) | (with_reducible refine Ans.bf ?_ ?_; exact rfl) | (with_reducible refine Ans.ct ?_ ?_; focus (simp; done)) | (with_reducible refine Ans.cf ?_ ?_; focus (simp; done)) | refine Ans.step (by simp (disch:=(first | omega | (simp <;> omega) | fail)) [ft,-List.getD_eq_getElem?_getD] <;> rfl) ?_)
  exact .done ⟨rfl,hS,by simp,by simp⟩
 | true =>
  have hr:=Z1h q5
  have hpr:0<=Y.getD f 0/\Y.getD f 0<4:=by
   have hlt:f<Y.length:=by omega
   have:=hr _ (List.getElem_mem hlt)
   simpa [List.getD,List.getElem?_eq_getElem hlt] using this
  have c1:∀ H c,callF G 47 [av Y] H c=some (av (inv Y),H,c):=fun H c=>by
   rw [Z5s Y hp,invR,if_pos q5]
  have hil:(inv Y).length=4:=Z24 Y 0 [0,0,0,0]
  by_cases q6:X=t
  · by_cases q7:Y.getD f 0=f
    · have ok:Z0i Gl n t f=false:=by rw [okE]; simp [q1,q6,q7,-List.getD_eq_getElem?_getD]
      rw [ok]
      have q6':=eq_true q6
      have q7':=eq_true q7
      repeat (first | (with_reducible refine Ans.bt ?_ ?_; exact rfl) | (with_reducible refine Ans.bf ?_ ?_; exact rfl) | (with_reducible refine Ans.ct ?_ ?_; focus (simp; done)) | (with_reducible refine Ans.cf ?_ ?_; focus (simp; done)) | refine Ans.step (by simp (disch:=(first | omega | (simp <;> omega) | fail)) [ft,e2,y1,y2h,hst,b1,b2,b3,hzz,hz4,Z3G,hp,q1,q3,q4,q5,Z0s,q6',q7',-List.getD_eq_getElem?_getD] <;> rfl) ?_)
      refine .done ?_
      repeat (first | (with_reducible refine Ans.bt ?_ ?_; exact rfl) | (with_reducible refine Ans.bf ?_ ?_; exact rfl) | (with_reducible refine Ans.ct ?_ ?_; focus (simp; done)) | (with_reducible refine Ans.cf ?_ ?_; focus (simp; done)) | refine Ans.step (by simp (disch:=(first | omega | (simp <;> omega) | fail)) [ft,-List.getD_eq_getElem?_getD] <;> rfl) ?_)
      exact .done ⟨rfl,hS,by simp,by simp⟩
    · have q6':=eq_true q6
      obtain ⟨gb2,go,z1,z2,z3⟩:=hface X (Y.getD f 0) qO qO hpr.1 hpr.2
      have z2h:=z2 H (fun i hi=>hS i hi)
      have hfl:=Z0G (t:=X.toNat) (f:=(Y.getD f 0).toNat) h2.1 qO qO
      have hbl:=Zmc (t:Int) (inv Y) hil
      have hneq:=Z56 (Z06 Gl X.toNat (Y.getD f 0).toNat) ((t:Int)::inv Y) hfl (by simp [hil])
      by_cases q8:Z06 Gl X.toNat (Y.getD f 0).toNat=(t:Int)::inv Y
      · have ok:Z0i Gl n t f=true:=by
         have a1:0<=X:=by omega
         have a2:X<n:=by omega
         rw [okE,decide_eq_true q8]; simp [a1,a2,q5,q7,-List.getD_eq_getElem?_getD]
        rw [ok]
        rw [decide_eq_true q8] at hneq
        repeat (first | (with_reducible refine Ans.bt ?_ ?_; exact rfl) | (with_reducible refine Ans.bf ?_ ?_; exact rfl) | (with_reducible refine Ans.ct ?_ ?_; focus (simp; done)) | (with_reducible refine Ans.cf ?_ ?_; focus (simp; done)) | refine Ans.step (by simp (disch:=(first | omega | (simp <;> omega) | fail)) [ft,e2,e2',y1,y2h,hst,b1,b2,b3,hzz,hz4,Z3G,hp,q1,q3,q4,q5,Z0s,q6',q7,c1,z1,z2h,hbl,hneq,hq,hpr,-List.getD_eq_getElem?_getD] <;> rfl) ?_)
        refine .done ?_
        repeat (first | (with_reducible refine Ans.bt ?_ ?_; exact rfl) | (with_reducible refine Ans.bf ?_ ?_; exact rfl) | (with_reducible refine Ans.ct ?_ ?_; focus (simp; done)) | (with_reducible refine Ans.cf ?_ ?_; focus (simp; done)) | refine Ans.step (by simp (disch:=(first | omega | (simp <;> omega) | fail)) [ft,-List.getD_eq_getElem?_getD] <;> rfl) ?_)
        exact .done ⟨rfl,hS,by simp,by simp⟩
      · have ok:Z0i Gl n t f=false:=by rw [okE,decide_eq_false q8]; simp [q1]
        rw [ok]
        rw [decide_eq_false q8] at hneq
        repeat (first | (with_reducible refine Ans.bt ?_ ?_; exact rfl) | (with_reducible refine Ans.bf ?_ ?_; exact rfl) | (with_reducible refine Ans.ct ?_ ?_; focus (simp; done)) | (with_reducible refine Ans.cf ?_ ?_; focus (simp; done)) | refine Ans.step (by simp (disch:=(first | omega | (simp <;> omega) | fail)) [ft,e2,e2',y1,y2h,hst,b1,b2,b3,hzz,hz4,Z3G,hp,q1,q3,q4,q5,Z0s,q6',q7,c1,z1,z2h,hbl,hneq,hq,hpr,-List.getD_eq_getElem?_getD] <;> rfl) ?_)
        refine .done ?_
        repeat (first | (with_reducible refine Ans.bt ?_ ?_; exact rfl) | (with_reducible refine Ans.bf ?_ ?_; exact rfl) | (with_reducible refine Ans.ct ?_ ?_; focus (simp; done)) | (with_reducible refine Ans.cf ?_ ?_; focus (simp; done)) | refine Ans.step (by simp (disch:=(first | omega | (simp <;> omega) | fail)) [ft,-List.getD_eq_getElem?_getD] <;> rfl) ?_)
        exact .done ⟨rfl,hS,by simp,by simp⟩
  · obtain ⟨gb2,go,z1,z2,z3⟩:=hface X (Y.getD f 0) qO qO hpr.1 hpr.2
    have z2h:=z2 H (fun i hi=>hS i hi)
    have hfl:=Z0G (t:=X.toNat) (f:=(Y.getD f 0).toNat) h2.1 qO qO
    have hbl:=Zmc (t:Int) (inv Y) hil
    have hneq:=Z56 (Z06 Gl X.toNat (Y.getD f 0).toNat) ((t:Int)::inv Y) hfl (by simp [hil])
    by_cases q8:Z06 Gl X.toNat (Y.getD f 0).toNat=(t:Int)::inv Y
    · have ok:Z0i Gl n t f=true:=by
       have a1:0<=X:=by omega
       have a2:X<n:=by omega
       rw [okE,decide_eq_true q8]; simp [a1,a2,q5,q6]
      rw [ok]
      rw [decide_eq_true q8] at hneq
      repeat (first | (with_reducible refine Ans.bt ?_ ?_; exact rfl) | (with_reducible refine Ans.bf ?_ ?_; exact rfl) | (with_reducible refine Ans.ct ?_ ?_; focus (simp; done)) | (with_reducible refine Ans.cf ?_ ?_; focus (simp; done)) | refine Ans.step (by simp (disch:=(first | omega | (simp <;> omega) | fail)) [ft,e2,e2',y1,y2h,hst,b1,b2,b3,hzz,hz4,Z3G,hp,q1,q3,q4,q5,Z0s,q6,c1,z1,z2h,hbl,hneq,hq,hpr,-List.getD_eq_getElem?_getD] <;> rfl) ?_)
      refine .done ?_
      repeat (first | (with_reducible refine Ans.bt ?_ ?_; exact rfl) | (with_reducible refine Ans.bf ?_ ?_; exact rfl) | (with_reducible refine Ans.ct ?_ ?_; focus (simp; done)) | (with_reducible refine Ans.cf ?_ ?_; focus (simp; done)) | refine Ans.step (by simp (disch:=(first | omega | (simp <;> omega) | fail)) [ft,-List.getD_eq_getElem?_getD] <;> rfl) ?_)
      exact .done ⟨rfl,hS,by simp,by simp⟩
    · have ok:Z0i Gl n t f=false:=by rw [okE,decide_eq_false q8]; simp [q1]
      rw [ok]
      rw [decide_eq_false q8] at hneq
      repeat (first | (with_reducible refine Ans.bt ?_ ?_; exact rfl) | (with_reducible refine Ans.bf ?_ ?_; exact rfl) | (with_reducible refine Ans.ct ?_ ?_; focus (simp; done)) | (with_reducible refine Ans.cf ?_ ?_; focus (simp; done)) | refine Ans.step (by simp (disch:=(first | omega | (simp <;> omega) | fail)) [ft,e2,e2',y1,y2h,hst,b1,b2,b3,hzz,hz4,Z3G,hp,q1,q3,q4,q5,Z0s,q6,c1,z1,z2h,hbl,hneq,hq,hpr,-List.getD_eq_getElem?_getD] <;> rfl) ?_)
      refine .done ?_
      repeat (first | (with_reducible refine Ans.bt ?_ ?_; exact rfl) | (with_reducible refine Ans.bf ?_ ?_; exact rfl) | (with_reducible refine Ans.ct ?_ ?_; focus (simp; done)) | (with_reducible refine Ans.cf ?_ ?_; focus (simp; done)) | refine Ans.step (by simp (disch:=(first | omega | (simp <;> omega) | fail)) [ft,-List.getD_eq_getElem?_getD] <;> rfl) ?_)
      exact .done ⟨rfl,hS,by simp,by simp⟩

theorem Zi8 (s:Value) (n:Nat) (Gl:List Int) (gb c:Nat) (h:FH) (t:Nat) (ht:t<n) (hgb:gb<256*c)
 (h1:Z0a h gb [s]) (h2:SlI h c s 20 n Gl) (df:List Nat):∀ (k f:Nat),f+k=4 →
 ((∀ j,f<=j->j<4->Z0i Gl n t j=true)/\G (Z3d none) [ptrTo gb,.int .i64 0,.int .i64 n,.int .i64 t,.int .i64 f] h c df=some ⟨.exit 2,[ptrTo gb,.int .i64 0,.int .i64 n,.int .i64 t,.int .i64 4],h,c,df⟩) ∨
 ((∃ j,f<=j/\j<4/\Z0i Gl n t j=false) /\ ∃ f':Nat,G (Z3d none) [ptrTo gb,.int .i64 0,.int .i64 n,.int .i64 t,.int .i64 f] h c df=some ⟨.ret,[ptrTo gb,.int .i64 7,.int .i64 n,.int .i64 t,.int .i64 f'],h,c,df⟩):=by
 intro k
 induction k with
 | zero =>
  intro f hf
  obtain rfl:f=4:=by omega
  refine .inl ⟨fun j h1 h2=>by omega, ?_⟩
  refine (Z9T (q:=⟨.exit 2,[ptrTo gb,.int .i64 0,.int .i64 n,.int .i64 t,.int .i64 4],h,c+1,df⟩) (by unfold Z3f; simp) (by simp)).trans ?_
  rw [Z0P (by simp [hgb])]
 | succ k ih =>
  intro f hf
  obtain ⟨⟨re,rv,rh,rc,rd⟩,hr,r1,r2,r3,r4⟩:=Zda s n Gl gb c h t f ht qO hgb h1 h2 (.int .i64 0) df
  simp only at r1 r2 r3 r4
  subst r1
  cases ok:Z0i Gl n t f with
  | true =>
   rw [ok] at r3 r4
   simp only [if_true] at r3 r4
   subst r3 r4
   have hg:gcR h c rd ⟨.normal,[ptrTo gb,.int .i64 0,.int .i64 n,.int .i64 t,.int .i64 (f+1:Nat)],rh,rc,rd⟩=_:=Z58 (by simp [hgb]) r2
   rcases ih (f+1) qO with ⟨a,b⟩ | ⟨⟨j,j1,j2,j3⟩,f',b⟩
   · refine .inl ⟨fun j h1 h2=>?_,Z9V hr rfl (by rw [hg]; exact b)⟩
     by_cases hj:j=f
     · rw [hj]; exact ok
     · exact a j qO h2
   · exact .inr ⟨⟨j,by omega,j2,j3⟩,f',Z9V hr rfl (by rw [hg]; exact b)⟩
  | false =>
   rw [ok] at r3 r4
   simp only [Bool.false_eq_true,if_false] at r3 r4
   subst r3 r4
   refine .inr ⟨⟨f,Nat.le_refl _,by omega,ok⟩,f,(Z9T hr (by simp)).trans ?_⟩
   rw [Z58 (by simp [hgb]) r2]
theorem SlI.up {h:FH} {c c':Nat} {s:Value} {sz n:Nat} {Gl:List Int} (hs:SlI h c s sz n Gl) (hc:c<=c'):SlI h c' s sz n Gl:=hs.mono hc
theorem Zgv (s:Value) (n:Nat) (Gl:List Int) (gb c:Nat) (h:FH) (hgb:gb<256*c)
 (h1:Z0a h gb [s]) (h2:SlI h c s 20 n Gl) (hn:n<=1000) (df:List Nat):∀ (k t:Nat),t+k=n →
 ((∀ u j,t<=u->u<n->j<4->Z0i Gl n u j=true)/\G (Z3e none) [ptrTo gb,.int .i64 0,.int .i64 n,.int .i64 t] h c df=some ⟨.exit 0,[ptrTo gb,.int .i64 0,.int .i64 n,.int .i64 n],h,c,df⟩) ∨
 ((∃ u j,t<=u/\u<n/\j<4/\Z0i Gl n u j=false) /\ ∃ t':Nat,G (Z3e none) [ptrTo gb,.int .i64 0,.int .i64 n,.int .i64 t] h c df=some ⟨.ret,[ptrTo gb,.int .i64 7,.int .i64 n,.int .i64 t'],h,c,df⟩):=by
 intro k
 induction k with
 | zero =>
  intro t ht
  obtain rfl:t=n:=by omega
  refine .inl ⟨fun u j h1 h2=>by omega, ?_⟩
  refine (Z9U (q:=⟨.exit 0,[ptrTo gb,.int .i64 0,.int .i64 t,.int .i64 t],h,c+1,df⟩) (by unfold Z1L; simp) (by simp)).trans ?_
  rw [Z0P (by simp [hgb])]
 | succ k ih =>
  intro t ht
  have e0:(t:Int)<n:=by omega
  have hin:=Zi8 s n Gl gb (c+1+1) h t qO qO h1 (h2.mono qO) df 4 0 rfl
  simp only [Int.ofNat_eq_natCast,Int.cast_ofNat_Int] at hin
  rcases hin with ⟨a,b⟩ | ⟨⟨j,j1,j2,j3⟩,f',b⟩
  · have step:Z1L G none (ptrTo gb) (.int .i64 0) (.int .i64 n) (.int .i64 t) h c df=some ⟨.normal,[ptrTo gb,.int .i64 0,.int .i64 n,.int .i64 (t+1:Nat)],h,c+1+1+1,df⟩:=by
     apply Ans.eq
     unfold Z1L
     repeat (first | (with_reducible refine Ans.bt ?_ ?_; exact rfl) | (with_reducible refine Ans.bf ?_ ?_; exact rfl) | (with_reducible refine Ans.ct ?_ ?_; focus (simp; done)) | (with_reducible refine Ans.cf ?_ ?_; focus (simp; done)) | refine Ans.step (by simp (disch:=(first | omega | (simp <;> omega) | fail)) [e0,b,-List.getD_eq_getElem?_getD] <;> rfl) ?_)
     exact .done rfl
    have hg:gcR h c df ⟨.normal,[ptrTo gb,.int .i64 0,.int .i64 n,.int .i64 (t+1:Nat)],h,c+1+1+1,df⟩=_:=Z0P (by simp [hgb])
    rcases ih (t+1) qO with ⟨a2,b2⟩ | ⟨⟨u,j,u1,u2,u3,u4⟩,t',b2⟩
    · refine .inl ⟨fun u j h1 h2 h3=>?_,Z9W step rfl (by rw [hg]; exact b2)⟩
      by_cases hu:u=t
      · rw [hu]; exact a j (Nat.zero_le _) h3
      · exact a2 u j qO h2 h3
    · exact .inr ⟨⟨u,j,by omega,u2,u3,u4⟩,t',Z9W step rfl (by rw [hg]; exact b2)⟩
  · refine .inr ⟨⟨t,j,Nat.le_refl _,by omega,j2,j3⟩,t, ?_⟩
    have step:Z1L G none (ptrTo gb) (.int .i64 0) (.int .i64 n) (.int .i64 t) h c df=some ⟨.ret,[ptrTo gb,.int .i64 7,.int .i64 n,.int .i64 t],h,c+1+1,df⟩:=by
     apply Ans.eq
     unfold Z1L
     repeat (first | (with_reducible refine Ans.bt ?_ ?_; exact rfl) | (with_reducible refine Ans.bf ?_ ?_; exact rfl) | (with_reducible refine Ans.ct ?_ ?_; focus (simp; done)) | (with_reducible refine Ans.cf ?_ ?_; focus (simp; done)) | refine Ans.step (by simp (disch:=(first | omega | (simp <;> omega) | fail)) [e0,b,-List.getD_eq_getElem?_getD] <;> rfl) ?_)
     exact .done rfl
    refine (Z9U step (by simp)).trans ?_
    rw [Z0P (by simp [hgb])]
theorem Zi7 (s:Value) (n:Nat) (Gl:List Int) (h:FH) (c:Nat) (df:List Nat) (hs:SlI h c s 20 n Gl) :
 G (.fn 23) [.agg #[s]] h c df=some ⟨.ret,[.int .i64 (if n<=1000/\Z0Y Gl n=true then 0 else 7)],h,c,[]⟩:=by
 refine Z1P (fun r e=>f23_go e) (by simp) ?_
 have hflat:((Value.agg #[s]).cells.toList.all Z08)=true:=by
  obtain ⟨_,_,a,cap,rfl,_⟩:=hs
  rfl
 have hcell:(Value.agg #[s]).cells.toList=[s]:=rfl
 have hlen:=hs.len
 unfold Znu
 rw [hflat,hcell]
 simp only [cond_true]
 by_cases hn:n<=1000
 · have hn':¬ (1000:Int)<n:=by omega
   have hsl:SlI (newB h (256*c) [s]) (c+1+1+1+1) s 20 n Gl:=(hs.same ((Same_newB qO).2 (Z0q.refl _ _))).mono qO
   have ho:=Zgv s n Gl (256*c) (c+1+1+1+1) (newB h (256*c) [s]) qO (Z0a.newB_same _ _ _) hsl hn [] n 0 qO
   simp only [Int.ofNat_eq_natCast,Int.cast_ofNat_Int] at ho
   rcases ho with ⟨a,b⟩ | ⟨⟨u,j,u1,u2,u3,u4⟩,t',b⟩
   · have ok:Z0Y Gl n=true:=by
      rw [Z3L]
      intro j hj
      exact a (j / 4) (j % 4) (Nat.zero_le _) qO qO
     rw [if_pos ⟨hn,ok⟩]
     repeat (first | (with_reducible refine Ans.bt ?_ ?_; exact rfl) | (with_reducible refine Ans.bf ?_ ?_; exact rfl) | (with_reducible refine Ans.ct ?_ ?_; focus (simp; done)) | (with_reducible refine Ans.cf ?_ ?_; focus (simp; done)) | refine Ans.step (by simp (disch:=(first | omega | (simp <;> omega) | fail)) [hlen,hn',b,-List.getD_eq_getElem?_getD] <;> rfl) ?_)
     refine .done ⟨rfl,rfl, ?_,rfl⟩
     simp (disch:=omega)
   · have ok:¬ (n<=1000/\Z0Y Gl n=true):=by
      rintro ⟨_,ok⟩
      rw [Z3L] at ok
      have:=ok (4*u+j) qO
      have e1:(4*u+j) / 4=u:=by omega
      have e2:(4*u+j) % 4=j:=by omega
      rw [e1,e2,u4] at this
      cases this
     rw [if_neg ok]
     repeat (first | (with_reducible refine Ans.bt ?_ ?_; exact rfl) | (with_reducible refine Ans.bf ?_ ?_; exact rfl) | (with_reducible refine Ans.ct ?_ ?_; focus (simp; done)) | (with_reducible refine Ans.cf ?_ ?_; focus (simp; done)) | refine Ans.step (by simp (disch:=(first | omega | (simp <;> omega) | fail)) [hlen,hn',b,-List.getD_eq_getElem?_getD] <;> rfl) ?_)
     refine .done ⟨rfl,rfl, ?_,rfl⟩
     simp (disch:=omega)
 · have hn':(1000:Int)<n:=by omega
   rw [if_neg (fun h=>hn h.1)]
   repeat (first | (with_reducible refine Ans.bt ?_ ?_; exact rfl) | (with_reducible refine Ans.bf ?_ ?_; exact rfl) | (with_reducible refine Ans.ct ?_ ?_; focus (simp; done)) | (with_reducible refine Ans.cf ?_ ?_; focus (simp; done)) | refine Ans.step (by simp (disch:=(first | omega | (simp <;> omega) | fail)) [hlen,hn',-List.getD_eq_getElem?_getD] <;> rfl) ?_)
   refine .done ⟨rfl,rfl, ?_,rfl⟩
   simp (disch:=omega)
end Go.Proofs.Ytemkjcpfgmbibaa

namespace Go.Ab
open Go
structure Hid (q:Prop):Prop where
 h:q
theorem Ans.go {β:Type} {x:Option β} {Q:β->Prop} {q:Prop} (k:q) (h:Hid q->Ans x Q:=by
 intro kk
 repeat' (first | ((with_reducible first | refine Ans.bz ?_ | refine Ans.r1 ?_ | refine Ans.pkT ?_ | refine Ans.pkF ?_); try dsimp only [v_zero,v_succ]) | (with_reducible first | refine Ans.btL ?_ | refine Ans.bfL ?_ | refine Ans.gyT ?_ | refine Ans.gyF ?_ | refine Ans.gyG ?_ | refine Ans.bb ?_ | refine Ans.bc ?_ | refine Ans.ba ?_) | ((with_reducible first | refine Ans.lsT ?_ ?_ | refine Ans.leT ?_ ?_ | refine Ans.grT ?_ ?_ | refine Ans.geT ?_ ?_ | refine Ans.eqT ?_ ?_ | refine Ans.neT ?_ ?_); (focus omega)) | ((with_reducible first | refine Ans.lsF ?_ ?_ | refine Ans.leF ?_ ?_ | refine Ans.grF ?_ ?_ | refine Ans.geF ?_ ?_ | refine Ans.eqF ?_ ?_ | refine Ans.neF ?_ ?_); (focus omega)) | (with_reducible first | refine Ans.lsS (fun _=>?_) (fun _=>?_) | refine Ans.leS (fun _=>?_) (fun _=>?_) | refine Ans.grS (fun _=>?_) (fun _=>?_) | refine Ans.geS (fun _=>?_) (fun _=>?_) | refine Ans.eqS (fun _=>?_) (fun _=>?_) | refine Ans.neS (fun _=>?_) (fun _=>?_)) | ((with_reducible first | refine Ans.addN ?_ ?_ | refine Ans.add ?_ ?_ | refine Ans.sub ?_ ?_ | refine Ans.mul ?_ ?_); (focus omega)) | ((with_reducible first | refine Ans.ct ?_ ?_); (focus (simp (disch:=(first | omega | with_reducible assumption | (simp <;> omega) | fail)) [fx]; done))) | ((with_reducible first | refine Ans.cf ?_ ?_); (focus (simp (disch:=(first | omega | with_reducible assumption | (simp <;> omega) | fail)) [fx]; done))) | (refine Ans.step (by simp (disch:=(first | omega | with_reducible assumption | (simp <;> omega) | fail)) [fx,-List.getD_eq_getElem?_getD] <;> rfl) ?_; try dsimp only [v_zero,v_succ]) | fail)
 exact kk.h):Ans x Q:=h ⟨k⟩
theorem Ans.nx0 {o:Orc FH} {k:Key} {Q:Rt FH->Prop} {A h:FH} {c c':Nat} {vs:List Value} {df:List Nat} (e:Ans (o k vs A c df) Q) (h1:Z1X c vs:=by (simp (disch:=(first | omega | with_reducible assumption | (simp <;> omega) | fail)) [fx]; done)) (h2:Z0q c A h:=by (simp (disch:=(first | omega | with_reducible assumption | (simp <;> omega) | fail)) [fx]; done)) :
 Ans (some { e:=.normal,vs:=vs,h:=h,c:=c',df:=df }) (fun q=>Lk o k Q (gcR A c df q)):=Ans.next0 h1 h2 e
theorem Ans.ex0 {o:Orc FH} {k:Key} {Q:Rt FH->Prop} {A h:FH} {c c':Nat} {vs:List Value} {df:List Nat} {i:Nat} (e:Q { e:=.exit i,vs:=vs,h:=A,c:=c,df:=df }) (h1:Z1X c vs:=by (simp (disch:=(first | omega | with_reducible assumption | (simp <;> omega) | fail)) [fx]; done)) (h2:Z0q c A h:=by (simp (disch:=(first | omega | with_reducible assumption | (simp <;> omega) | fail)) [fx]; done)) :
 Ans (some { e:=.exit i,vs:=vs,h:=h,c:=c',df:=df }) (fun q=>Lk o k Q (gcR A c df q)):=Ans.exit0 h1 h2 e
theorem Ans.rt0 {o:Orc FH} {k:Key} {Q:Rt FH->Prop} {A h:FH} {c c':Nat} {vs:List Value} {df:List Nat} (e:Q { e:=.ret,vs:=vs,h:=A,c:=c,df:=df }) (h1:Z1X c vs:=by (simp (disch:=(first | omega | with_reducible assumption | (simp <;> omega) | fail)) [fx]; done)) (h2:Z0q c A h:=by (simp (disch:=(first | omega | with_reducible assumption | (simp <;> omega) | fail)) [fx]; done)) :
 Ans (some { e:=.ret,vs:=vs,h:=h,c:=c',df:=df }) (fun q=>Lk o k Q (gcR A c df q)):=Ans.ret0 h1 h2 e
theorem Ans.nxB {o:Orc FH} {k:Key} {Q:Rt FH->Prop} {A B h:FH} {c c':Nat} {vs:List Value} {df:List Nat} (h3:Z4C c A B) (e:Ans (o k vs B c df) Q) (h1:Z1X c vs:=by (simp (disch:=(first | omega | with_reducible assumption | (simp <;> omega) | fail)) [fx]; done)) (h2:Z0q c B h:=by (simp (disch:=(first | omega | with_reducible assumption | (simp <;> omega) | fail)) [fx]; done)) :
 Ans (some { e:=.normal,vs:=vs,h:=h,c:=c',df:=df }) (fun q=>Lk o k Q (gcR A c df q)):=Ans.nextB e h1 h2 h3
theorem Ans.pu {h h':FH} {c c':Nat} {v w:Value} (hv:w=v:=by first | rfl | (simp (disch:=(first | omega | with_reducible assumption | (simp <;> omega) | fail)) [fx]; done)) (hs:Z0q c h h':=by first | with_reducible assumption | (simp (disch:=(first | omega | with_reducible assumption | (simp <;> omega) | fail)) [fx]; done)) :
 Ans (some { e:=.ret,vs:=[w],h:=h',c:=c',df:=[] }) (ZnP h c v):=Ans.pure hv hs
end Go.Ab
