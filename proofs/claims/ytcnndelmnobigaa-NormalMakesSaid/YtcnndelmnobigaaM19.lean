/- Parts of a proof: D2 D3 AbTrie AbHeap. Conditions: none. -/
import Derived.Test.YtcnndelmnobigaaM18
import Derived.Test.YtcnndelmnobigaaM0
set_option linter.all false
set_option maxRecDepth 100000
namespace Go.Proofs.Ytcnndelmnobigaa
open Go Go.Ab Go.Proofs
theorem Zp9 (a0 a1 a2 a3 b0 b1 b2 b3:Int):Z0U P .eql 39 (av [a0,a1,a2,a3]) (av [b0,b1,b2,b3]) =
 (cond (a0 == b0) (cond (a1 == b1) (cond (a2 == b2) (cond (a3 == b3) (some true) (some false)) (some false)) (some false)) (some false)).bind fun b=>some (.bool b):=by kernel_rfl
theorem Z4u (x y:List Int) (hx:x.length=4) (hy:y.length=4):Z00 P .eql 39 (av x) (av y)=some (.bool (decide (x=y))):=by
 match x,hx,y,hy with
 | [a0,a1,a2,a3],_,[b0,b1,b2,b3],_ =>
  rw [Z0H,Zp9]
  by_cases h0:a0=b0 <;> by_cases h1:a1=b1 <;> by_cases h2:a2=b2 <;> by_cases h3:a3=b3 <;> simp [h0,h1,h2,h3,Bool.cond_eq_ite]
theorem Zbq (p:List Int) (hp:p.length=4) (h:FH) (c:Nat):callF G 42 [av p] h c=some (av (invR p),h,c):=Z05 (Zfm p hp h c [])
theorem Zd6 {x:Option Nat} {h1 h2:FH} (e:∀ i,x=some i->h1.f i=h2.f i):Z18 x h1 h2=true:=by
 cases x with
 | none=>rfl
 | some i =>
  show @decide (h1.f i=h2.f i) (Classical.propDecidable _)=true
  exact @decide_eq_true _ (Classical.propDecidable _) (e i rfl)
theorem ZbS {x:List Int} (hx:x.length=5):x=Z0L x::Z0e x:=by
 match x,hx with
 | [a,b,c,d,e],_=>rfl
set_option maxHeartbeats 2000000 in
theorem Zgg (s:Value) (n:Nat) (Gl:List Int) (gb c:Nat) (h:FH) (t f:Nat) (ht:t<n) (hf:f<4) (hgb:gb<256*c)
 (h1:Z09 h gb [s]) (h2:SlI h c s 20 n Gl) (v2:Value) (df:List Nat) :
 Ans (Z20 G none (ptrTo gb) v2 (.int .i64 n) (.int .i64 t) (.int .i64 f) h c df) fun r=>r.df=df/\Z0u c h r.h ∧
  r.e=(if Z0s Gl n t f=true then .normal else .ret)/\r.vs=(if Z0s Gl n t f=true then [ptrTo gb,v2,.int .i64 n,.int .i64 t,.int .i64 (f+1:Nat)] else [ptrTo gb,.int .i64 7,.int .i64 n,.int .i64 t,.int .i64 f]):=by
 have hx:=Z0o h2.1 ht hf
 have hp:=Z1S hx
 have hsp:=ZbS hx
 have ht5:(Z03 Gl t f).take 5=Z03 Gl t f:=List.take_of_length_le qO
 have ft:(f:Int)<4:=by omega
 obtain ⟨b,o,cs,x1,x2,x3,x4⟩:=h2.ix .i64 (t:Int) qO qO
 have hface:∀ u j:Int,0<=u->u<n->0<=j->j<4 -> ∃ b o,ixS 20 s (.int .i64 u)=some (.pointer (some ⟨b,o+u.toNat*20,none⟩))/\(∀ H:FH,(∀ i,i<256*c->H.f i=h.f i)->ldN H 5 (.pointer (some ⟨b,o+u.toNat*20+j.toNat*5,none⟩))=some (av (Z03 Gl u.toNat j.toNat)))/\b<256*c:=by
  intro u j u1 u2 j1 j2
  obtain ⟨b,o,cs,x1,x2,x3,x4⟩:=h2.ix .i64 u u1 u2
  refine ⟨b,o,x1,fun H hH=>?_,x2⟩
  have:=h2.1
  have x3':Z09 H b cs:=by
   obtain ⟨ro,op,e⟩:=x3
   exact ⟨ro,op,(hH b x2).trans e⟩
  rw [Nat.add_assoc,Zdl x3' x4 (j:=u.toNat*20+j.toNat*5) (q:=5) qO qO]
  unfold Z03
  rw [Nat.mul_comm 20,Nat.mul_comm 5]
 obtain ⟨fb,fo,y1,y2,y3⟩:=hface t f qO qO qO qO
 have y2h:=y2 h (fun i hi=>rfl)
 simp only [Int.toNat_natCast] at y1 y2h
 have e2:ld1 h (.pointer (some ⟨gb,0,none⟩))=some s:=by rw [Z01 h1]; rfl
 obtain ⟨H,hH⟩:∃ H,H=newB h (256*(c+1)+7) (ints (Z03 Gl t f)):=⟨_,rfl⟩
 have hst:stN (newB h (256*(c+1)+7) [.int .i64 0,.int .i64 0,.int .i64 0,.int .i64 0,.int .i64 0]) 5 (.pointer (some ⟨256*(c+1)+7,0,none⟩)) (av (Z03 Gl t f))=some H:=by
  rw [stN_all _ _ 5 _ _ hx rfl,hH]
 have hS:Z0u c h H:=by rw [hH]; exact (Same_newB qO).2 (Z0u.refl _ _)
 have hB:Z09 H (256*(c+1)+7) (ints (Z03 Gl t f)):=by rw [hH]; exact Z09.newB_same _ _ _
 have b1:ld1 H (.pointer (some ⟨256*(c+1)+7,0,none⟩))=some (.int .i64 (Z0L (Z03 Gl t f))):=by
  rw [Z01 hB,Z4o,List.getElem?_eq_getElem qO]
  simp [Z0L,List.getD,List.getElem?_eq_getElem (by omega:0<(Z03 Gl t f).length)]
 have b2:ldN H 4 (.pointer (some ⟨256*(c+1)+7,1,none⟩))=some (av (Z0e (Z03 Gl t f))):=by
  rw [ldN_holds hB (by simp [hx])]; rw [Z6j,Z6i]; rfl
 have b3:ld1 H (.pointer (some ⟨256*(c+1)+7,1+f,none⟩))=some (.int .i64 ((Z0e (Z03 Gl t f)).getD f 0)):=by
  have hlt:1+f<(Z03 Gl t f).length:=by omega
  rw [Z01 hB,Z4o,List.getElem?_eq_getElem hlt]
  unfold Z0e
  rw [Z26 _ _ _ hf,Z27]
  simp [List.getD,List.getElem?_eq_getElem hlt]
 have e2':ld1 H (.pointer (some ⟨gb,0,none⟩))=some s:=by
  rw [Z01 (cs:=[s]) (by obtain ⟨ro,op,e⟩:=h1; exact ⟨ro,op,(hS gb hgb).trans e⟩)]; rfl
 have hzz:Z4w [.int .i64 0,.int .i64 0,.int .i64 0,.int .i64 0] []=some (av [0,0,0,0]):=rfl
 have hz4:([0,0,0,0]:List Int).length=4:=rfl
 have hq:∀ (x:Option Nat),Z18 x H H=true:=fun x=>Zd6 fun i _=>rfl
 clear hH
 obtain ⟨F,hF⟩:∃ F,Z03 Gl t f=F:=⟨_,rfl⟩
 rw [hF] at hx hp hsp ht5 y2h hst b1 b2 b3
 obtain ⟨X,hX⟩:∃ X,Z0L F=X:=⟨_,rfl⟩
 obtain ⟨Y,hY⟩:∃ Y,Z0e F=Y:=⟨_,rfl⟩
 rw [hX] at b1 hsp
 rw [hY] at b2 b3 hsp hp
 have okE:Z0s Gl n t f=(decide (X = -1/\Y=[0,0,0,0]) || (decide (0<=X) && decide (X<n) && Z1s Y && !(decide (X=t) && decide (Y.getD f 0=f)) && decide (Z03 Gl X.toNat (Y.getD f 0).toNat=(t:Int)::inv Y))):=by
  unfold Z0s
  rw [hF,hX,hY]
  congr 1
  rw [hsp]
  simp [Z8q]
 have hnl:(t:Int)::inv Y=(t:Int)::inv Y:=rfl
 unfold Z20
 repeat (first | (with_reducible refine Ans.bt ?_ ?_; exact rfl) | (with_reducible refine Ans.bf ?_ ?_; exact rfl) | (with_reducible refine Ans.ct ?_ ?_; focus (simp; done)) | (with_reducible refine Ans.cf ?_ ?_; focus (simp; done)) | refine Ans.step (by simp (disch:=(first | omega | (simp <;> omega) | fail)) [ft,-List.getD_eq_getElem?_getD] <;> rfl) ?_)
 refine Ans.bind ?_
 by_cases q1:X = -1
 · have q1':=eq_true q1
   have q0:=eq_true (show X<0 by omega)
   by_cases q2:Y=[0,0,0,0]
   · have ok:Z0s Gl n t f=true:=by rw [okE]; simp [q1,q2]
     rw [ok]
     have q2':=eq_true q2
     repeat (first | (with_reducible refine Ans.bt ?_ ?_; exact rfl) | (with_reducible refine Ans.bf ?_ ?_; exact rfl) | (with_reducible refine Ans.ct ?_ ?_; focus (simp; done)) | (with_reducible refine Ans.cf ?_ ?_; focus (simp; done)) | refine Ans.step (by simp (disch:=(first | omega | (simp <;> omega) | fail)) [ft,e2,y1,y2h,hst,b1,b2,hzz,hz4,Z4u,hp,q1',q2',-List.getD_eq_getElem?_getD] <;> rfl) ?_)
     refine .done ?_
     repeat (first | (with_reducible refine Ans.bt ?_ ?_; exact rfl) | (with_reducible refine Ans.bf ?_ ?_; exact rfl) | (with_reducible refine Ans.ct ?_ ?_; focus (simp; done)) | (with_reducible refine Ans.cf ?_ ?_; focus (simp; done)) | refine Ans.step (by simp (disch:=(first | omega | (simp <;> omega) | fail)) [ft,-List.getD_eq_getElem?_getD] <;> rfl) ?_)
     exact .done ⟨rfl,hS,by simp,by simp⟩
   · have ok:Z0s Gl n t f=false:=by rw [okE]; simp [q1,q2]
     rw [ok]
     repeat (first | (with_reducible refine Ans.bt ?_ ?_; exact rfl) | (with_reducible refine Ans.bf ?_ ?_; exact rfl) | (with_reducible refine Ans.ct ?_ ?_; focus (simp; done)) | (with_reducible refine Ans.cf ?_ ?_; focus (simp; done)) | refine Ans.step (by simp (disch:=(first | omega | (simp <;> omega) | fail)) [ft,e2,y1,y2h,hst,b1,b2,hzz,hz4,Z4u,hp,q1',q2,q0,-List.getD_eq_getElem?_getD] <;> rfl) ?_)
     refine .done ?_
     repeat (first | (with_reducible refine Ans.bt ?_ ?_; exact rfl) | (with_reducible refine Ans.bf ?_ ?_; exact rfl) | (with_reducible refine Ans.ct ?_ ?_; focus (simp; done)) | (with_reducible refine Ans.cf ?_ ?_; focus (simp; done)) | refine Ans.step (by simp (disch:=(first | omega | (simp <;> omega) | fail)) [ft,-List.getD_eq_getElem?_getD] <;> rfl) ?_)
     exact .done ⟨rfl,hS,by simp,by simp⟩
 by_cases q3:X<0
 · have ok:Z0s Gl n t f=false:=by
    have:¬ 0<=X:=by omega
    rw [okE]; simp [q1,this]
   rw [ok]
   repeat (first | (with_reducible refine Ans.bt ?_ ?_; exact rfl) | (with_reducible refine Ans.bf ?_ ?_; exact rfl) | (with_reducible refine Ans.ct ?_ ?_; focus (simp; done)) | (with_reducible refine Ans.cf ?_ ?_; focus (simp; done)) | refine Ans.step (by simp (disch:=(first | omega | (simp <;> omega) | fail)) [ft,e2,y1,y2h,hst,b1,b2,hzz,hz4,Z4u,hp,q1,q3,-List.getD_eq_getElem?_getD] <;> rfl) ?_)
   refine .done ?_
   repeat (first | (with_reducible refine Ans.bt ?_ ?_; exact rfl) | (with_reducible refine Ans.bf ?_ ?_; exact rfl) | (with_reducible refine Ans.ct ?_ ?_; focus (simp; done)) | (with_reducible refine Ans.cf ?_ ?_; focus (simp; done)) | refine Ans.step (by simp (disch:=(first | omega | (simp <;> omega) | fail)) [ft,-List.getD_eq_getElem?_getD] <;> rfl) ?_)
   exact .done ⟨rfl,hS,by simp,by simp⟩
 by_cases q4:(n:Int)<=X
 · have ok:Z0s Gl n t f=false:=by
    have:¬ X<n:=by omega
    rw [okE]; simp [q1,this]
   rw [ok]
   repeat (first | (with_reducible refine Ans.bt ?_ ?_; exact rfl) | (with_reducible refine Ans.bf ?_ ?_; exact rfl) | (with_reducible refine Ans.ct ?_ ?_; focus (simp; done)) | (with_reducible refine Ans.cf ?_ ?_; focus (simp; done)) | refine Ans.step (by simp (disch:=(first | omega | (simp <;> omega) | fail)) [ft,e2,y1,y2h,hst,b1,b2,hzz,hz4,Z4u,hp,q1,q3,q4,-List.getD_eq_getElem?_getD] <;> rfl) ?_)
   refine .done ?_
   repeat (first | (with_reducible refine Ans.bt ?_ ?_; exact rfl) | (with_reducible refine Ans.bf ?_ ?_; exact rfl) | (with_reducible refine Ans.ct ?_ ?_; focus (simp; done)) | (with_reducible refine Ans.cf ?_ ?_; focus (simp; done)) | refine Ans.step (by simp (disch:=(first | omega | (simp <;> omega) | fail)) [ft,-List.getD_eq_getElem?_getD] <;> rfl) ?_)
   exact .done ⟨rfl,hS,by simp,by simp⟩
 cases q5:Z1s Y with
 | false =>
  have ok:Z0s Gl n t f=false:=by rw [okE]; simp [q1,q5]
  rw [ok]
  repeat (first | (with_reducible refine Ans.bt ?_ ?_; exact rfl) | (with_reducible refine Ans.bf ?_ ?_; exact rfl) | (with_reducible refine Ans.ct ?_ ?_; focus (simp; done)) | (with_reducible refine Ans.cf ?_ ?_; focus (simp; done)) | refine Ans.step (by simp (disch:=(first | omega | (simp <;> omega) | fail)) [ft,e2,y1,y2h,hst,b1,b2,hzz,hz4,Z4u,hp,q1,q3,q4,q5,Z1z,-List.getD_eq_getElem?_getD] <;> rfl) ?_)
  refine .done ?_
  repeat (first | (with_reducible refine Ans.bt ?_ ?_; exact rfl) | (with_reducible refine Ans.bf ?_ ?_; exact rfl) | (with_reducible refine Ans.ct ?_ ?_; focus (simp; done)) | (with_reducible refine Ans.cf ?_ ?_; focus (simp; done)) | refine Ans.step (by simp (disch:=(first | omega | (simp <;> omega) | fail)) [ft,-List.getD_eq_getElem?_getD] <;> rfl) ?_)
  exact .done ⟨rfl,hS,by simp,by simp⟩
 | true =>
  have hr:=Z2J q5
  have hpr:0<=Y.getD f 0/\Y.getD f 0<4:=by
   have hlt:f<Y.length:=by omega
   have:=hr _ (List.getElem_mem hlt)
   simpa [List.getD,List.getElem?_eq_getElem hlt] using this
  have c1:∀ H c,callF G 42 [av Y] H c=some (av (inv Y),H,c):=fun H c=>by
   rw [Zbq Y hp,invR,if_pos q5]
  have hil:(inv Y).length=4:=Z4e Y 0 [0,0,0,0]
  by_cases q6:X=t
  · by_cases q7:Y.getD f 0=f
    · have ok:Z0s Gl n t f=false:=by rw [okE]; simp [q1,q6,q7,-List.getD_eq_getElem?_getD]
      rw [ok]
      have q6':=eq_true q6
      have q7':=eq_true q7
      repeat (first | (with_reducible refine Ans.bt ?_ ?_; exact rfl) | (with_reducible refine Ans.bf ?_ ?_; exact rfl) | (with_reducible refine Ans.ct ?_ ?_; focus (simp; done)) | (with_reducible refine Ans.cf ?_ ?_; focus (simp; done)) | refine Ans.step (by simp (disch:=(first | omega | (simp <;> omega) | fail)) [ft,e2,y1,y2h,hst,b1,b2,b3,hzz,hz4,Z4u,hp,q1,q3,q4,q5,Z1z,q6',q7',-List.getD_eq_getElem?_getD] <;> rfl) ?_)
      refine .done ?_
      repeat (first | (with_reducible refine Ans.bt ?_ ?_; exact rfl) | (with_reducible refine Ans.bf ?_ ?_; exact rfl) | (with_reducible refine Ans.ct ?_ ?_; focus (simp; done)) | (with_reducible refine Ans.cf ?_ ?_; focus (simp; done)) | refine Ans.step (by simp (disch:=(first | omega | (simp <;> omega) | fail)) [ft,-List.getD_eq_getElem?_getD] <;> rfl) ?_)
      exact .done ⟨rfl,hS,by simp,by simp⟩
    · have q6':=eq_true q6
      obtain ⟨gb2,go,z1,z2,z3⟩:=hface X (Y.getD f 0) qO qO hpr.1 hpr.2
      have z2h:=z2 H (fun i hi=>hS i hi)
      have hfl:=Z0o (t:=X.toNat) (f:=(Y.getD f 0).toNat) h2.1 qO qO
      have hbl:=Zs1 (t:Int) (inv Y) hil
      have hneq:=Z6B (Z03 Gl X.toNat (Y.getD f 0).toNat) ((t:Int)::inv Y) hfl (by simp [hil])
      by_cases q8:Z03 Gl X.toNat (Y.getD f 0).toNat=(t:Int)::inv Y
      · have ok:Z0s Gl n t f=true:=by
         have a1:0<=X:=by omega
         have a2:X<n:=by omega
         rw [okE,decide_eq_true q8]; simp [a1,a2,q5,q7,-List.getD_eq_getElem?_getD]
        rw [ok]
        rw [decide_eq_true q8] at hneq
        repeat (first | (with_reducible refine Ans.bt ?_ ?_; exact rfl) | (with_reducible refine Ans.bf ?_ ?_; exact rfl) | (with_reducible refine Ans.ct ?_ ?_; focus (simp; done)) | (with_reducible refine Ans.cf ?_ ?_; focus (simp; done)) | refine Ans.step (by simp (disch:=(first | omega | (simp <;> omega) | fail)) [ft,e2,e2',y1,y2h,hst,b1,b2,b3,hzz,hz4,Z4u,hp,q1,q3,q4,q5,Z1z,q6',q7,c1,z1,z2h,hbl,hneq,hq,hpr,-List.getD_eq_getElem?_getD] <;> rfl) ?_)
        refine .done ?_
        repeat (first | (with_reducible refine Ans.bt ?_ ?_; exact rfl) | (with_reducible refine Ans.bf ?_ ?_; exact rfl) | (with_reducible refine Ans.ct ?_ ?_; focus (simp; done)) | (with_reducible refine Ans.cf ?_ ?_; focus (simp; done)) | refine Ans.step (by simp (disch:=(first | omega | (simp <;> omega) | fail)) [ft,-List.getD_eq_getElem?_getD] <;> rfl) ?_)
        exact .done ⟨rfl,hS,by simp,by simp⟩
      · have ok:Z0s Gl n t f=false:=by rw [okE,decide_eq_false q8]; simp [q1]
        rw [ok]
        rw [decide_eq_false q8] at hneq
        repeat (first | (with_reducible refine Ans.bt ?_ ?_; exact rfl) | (with_reducible refine Ans.bf ?_ ?_; exact rfl) | (with_reducible refine Ans.ct ?_ ?_; focus (simp; done)) | (with_reducible refine Ans.cf ?_ ?_; focus (simp; done)) | refine Ans.step (by simp (disch:=(first | omega | (simp <;> omega) | fail)) [ft,e2,e2',y1,y2h,hst,b1,b2,b3,hzz,hz4,Z4u,hp,q1,q3,q4,q5,Z1z,q6',q7,c1,z1,z2h,hbl,hneq,hq,hpr,-List.getD_eq_getElem?_getD] <;> rfl) ?_)
        refine .done ?_
        repeat (first | (with_reducible refine Ans.bt ?_ ?_; exact rfl) | (with_reducible refine Ans.bf ?_ ?_; exact rfl) | (with_reducible refine Ans.ct ?_ ?_; focus (simp; done)) | (with_reducible refine Ans.cf ?_ ?_; focus (simp; done)) | refine Ans.step (by simp (disch:=(first | omega | (simp <;> omega) | fail)) [ft,-List.getD_eq_getElem?_getD] <;> rfl) ?_)
        exact .done ⟨rfl,hS,by simp,by simp⟩
  · obtain ⟨gb2,go,z1,z2,z3⟩:=hface X (Y.getD f 0) qO qO hpr.1 hpr.2
    have z2h:=z2 H (fun i hi=>hS i hi)
    have hfl:=Z0o (t:=X.toNat) (f:=(Y.getD f 0).toNat) h2.1 qO qO
    have hbl:=Zs1 (t:Int) (inv Y) hil
    have hneq:=Z6B (Z03 Gl X.toNat (Y.getD f 0).toNat) ((t:Int)::inv Y) hfl (by simp [hil])
    by_cases q8:Z03 Gl X.toNat (Y.getD f 0).toNat=(t:Int)::inv Y
    · have ok:Z0s Gl n t f=true:=by
       have a1:0<=X:=by omega
       have a2:X<n:=by omega
       rw [okE,decide_eq_true q8]; simp [a1,a2,q5,q6]
      rw [ok]
      rw [decide_eq_true q8] at hneq
      repeat (first | (with_reducible refine Ans.bt ?_ ?_; exact rfl) | (with_reducible refine Ans.bf ?_ ?_; exact rfl) | (with_reducible refine Ans.ct ?_ ?_; focus (simp; done)) | (with_reducible refine Ans.cf ?_ ?_; focus (simp; done)) | refine Ans.step (by simp (disch:=(first | omega | (simp <;> omega) | fail)) [ft,e2,e2',y1,y2h,hst,b1,b2,b3,hzz,hz4,Z4u,hp,q1,q3,q4,q5,Z1z,q6,c1,z1,z2h,hbl,hneq,hq,hpr,-List.getD_eq_getElem?_getD] <;> rfl) ?_)
      refine .done ?_
      repeat (first | (with_reducible refine Ans.bt ?_ ?_; exact rfl) | (with_reducible refine Ans.bf ?_ ?_; exact rfl) | (with_reducible refine Ans.ct ?_ ?_; focus (simp; done)) | (with_reducible refine Ans.cf ?_ ?_; focus (simp; done)) | refine Ans.step (by simp (disch:=(first | omega | (simp <;> omega) | fail)) [ft,-List.getD_eq_getElem?_getD] <;> rfl) ?_)
      exact .done ⟨rfl,hS,by simp,by simp⟩
    · have ok:Z0s Gl n t f=false:=by rw [okE,decide_eq_false q8]; simp [q1]
      rw [ok]
      rw [decide_eq_false q8] at hneq
      repeat (first | (with_reducible refine Ans.bt ?_ ?_; exact rfl) | (with_reducible refine Ans.bf ?_ ?_; exact rfl) | (with_reducible refine Ans.ct ?_ ?_; focus (simp; done)) | (with_reducible refine Ans.cf ?_ ?_; focus (simp; done)) | refine Ans.step (by simp (disch:=(first | omega | (simp <;> omega) | fail)) [ft,e2,e2',y1,y2h,hst,b1,b2,b3,hzz,hz4,Z4u,hp,q1,q3,q4,q5,Z1z,q6,c1,z1,z2h,hbl,hneq,hq,hpr,-List.getD_eq_getElem?_getD] <;> rfl) ?_)
      refine .done ?_
      repeat (first | (with_reducible refine Ans.bt ?_ ?_; exact rfl) | (with_reducible refine Ans.bf ?_ ?_; exact rfl) | (with_reducible refine Ans.ct ?_ ?_; focus (simp; done)) | (with_reducible refine Ans.cf ?_ ?_; focus (simp; done)) | refine Ans.step (by simp (disch:=(first | omega | (simp <;> omega) | fail)) [ft,-List.getD_eq_getElem?_getD] <;> rfl) ?_)
      exact .done ⟨rfl,hS,by simp,by simp⟩

theorem Zlz (s:Value) (n:Nat) (Gl:List Int) (gb c:Nat) (h:FH) (t:Nat) (ht:t<n) (hgb:gb<256*c)
 (h1:Z09 h gb [s]) (h2:SlI h c s 20 n Gl) (df:List Nat):∀ (k f:Nat),f+k=4 →
 ((∀ j,f<=j->j<4->Z0s Gl n t j=true)/\G (Z3Z none) [ptrTo gb,.int .i64 0,.int .i64 n,.int .i64 t,.int .i64 f] h c df=some ⟨.exit 2,[ptrTo gb,.int .i64 0,.int .i64 n,.int .i64 t,.int .i64 4],h,c,df⟩) ∨
 ((∃ j,f<=j/\j<4/\Z0s Gl n t j=false) /\ ∃ f':Nat,G (Z3Z none) [ptrTo gb,.int .i64 0,.int .i64 n,.int .i64 t,.int .i64 f] h c df=some ⟨.ret,[ptrTo gb,.int .i64 7,.int .i64 n,.int .i64 t,.int .i64 f'],h,c,df⟩):=by
 intro k
 induction k with
 | zero =>
  intro f hf
  obtain rfl:f=4:=by omega
  refine .inl ⟨fun j h1 h2=>by omega, ?_⟩
  refine (ZcI (q:=⟨.exit 2,[ptrTo gb,.int .i64 0,.int .i64 n,.int .i64 t,.int .i64 4],h,c+1,df⟩) (by unfold Z20; simp) (by simp)).trans ?_
  rw [Z1C (by simp [hgb])]
 | succ k ih =>
  intro f hf
  obtain ⟨⟨re,rv,rh,rc,rd⟩,hr,r1,r2,r3,r4⟩:=Zgg s n Gl gb c h t f ht qO hgb h1 h2 (.int .i64 0) df
  simp only at r1 r2 r3 r4
  subst r1
  cases ok:Z0s Gl n t f with
  | true =>
   rw [ok] at r3 r4
   simp only [if_true] at r3 r4
   subst r3 r4
   have hg:gcR h c rd ⟨.normal,[ptrTo gb,.int .i64 0,.int .i64 n,.int .i64 t,.int .i64 (f+1:Nat)],rh,rc,rd⟩=_:=Z6C (by simp [hgb]) r2
   rcases ih (f+1) qO with ⟨a,b⟩ | ⟨⟨j,j1,j2,j3⟩,f',b⟩
   · refine .inl ⟨fun j h1 h2=>?_,ZcK hr rfl (by rw [hg]; exact b)⟩
     by_cases hj:j=f
     · rw [hj]; exact ok
     · exact a j qO h2
   · exact .inr ⟨⟨j,by omega,j2,j3⟩,f',ZcK hr rfl (by rw [hg]; exact b)⟩
  | false =>
   rw [ok] at r3 r4
   simp only [Bool.false_eq_true,if_false] at r3 r4
   subst r3 r4
   refine .inr ⟨⟨f,Nat.le_refl _,by omega,ok⟩,f,(ZcI hr (by simp)).trans ?_⟩
   rw [Z6C (by simp [hgb]) r2]
theorem SlI.up {h:FH} {c c':Nat} {s:Value} {sz n:Nat} {Gl:List Int} (hs:SlI h c s sz n Gl) (hc:c<=c'):SlI h c' s sz n Gl:=hs.mono hc
theorem ZjD (s:Value) (n:Nat) (Gl:List Int) (gb c:Nat) (h:FH) (hgb:gb<256*c)
 (h1:Z09 h gb [s]) (h2:SlI h c s 20 n Gl) (hn:n<=1000) (df:List Nat):∀ (k t:Nat),t+k=n →
 ((∀ u j,t<=u->u<n->j<4->Z0s Gl n u j=true)/\G (Z40 none) [ptrTo gb,.int .i64 0,.int .i64 n,.int .i64 t] h c df=some ⟨.exit 0,[ptrTo gb,.int .i64 0,.int .i64 n,.int .i64 n],h,c,df⟩) ∨
 ((∃ u j,t<=u/\u<n/\j<4/\Z0s Gl n u j=false) /\ ∃ t':Nat,G (Z40 none) [ptrTo gb,.int .i64 0,.int .i64 n,.int .i64 t] h c df=some ⟨.ret,[ptrTo gb,.int .i64 7,.int .i64 n,.int .i64 t'],h,c,df⟩):=by
 intro k
 induction k with
 | zero =>
  intro t ht
  obtain rfl:t=n:=by omega
  refine .inl ⟨fun u j h1 h2=>by omega, ?_⟩
  refine (ZcJ (q:=⟨.exit 0,[ptrTo gb,.int .i64 0,.int .i64 t,.int .i64 t],h,c+1,df⟩) (by unfold Z1q; simp) (by simp)).trans ?_
  rw [Z1C (by simp [hgb])]
 | succ k ih =>
  intro t ht
  have e0:(t:Int)<n:=by omega
  have hin:=Zlz s n Gl gb (c+1+1) h t qO qO h1 (h2.mono qO) df 4 0 rfl
  simp only [Int.ofNat_eq_natCast,Int.cast_ofNat_Int] at hin
  rcases hin with ⟨a,b⟩ | ⟨⟨j,j1,j2,j3⟩,f',b⟩
  · have step:Z1q G none (ptrTo gb) (.int .i64 0) (.int .i64 n) (.int .i64 t) h c df=some ⟨.normal,[ptrTo gb,.int .i64 0,.int .i64 n,.int .i64 (t+1:Nat)],h,c+1+1+1,df⟩:=by
     apply Ans.eq
     unfold Z1q
     repeat (first | (with_reducible refine Ans.bt ?_ ?_; exact rfl) | (with_reducible refine Ans.bf ?_ ?_; exact rfl) | (with_reducible refine Ans.ct ?_ ?_; focus (simp; done)) | (with_reducible refine Ans.cf ?_ ?_; focus (simp; done)) | refine Ans.step (by simp (disch:=(first | omega | (simp <;> omega) | fail)) [e0,b,-List.getD_eq_getElem?_getD] <;> rfl) ?_)
     exact .done rfl
    have hg:gcR h c df ⟨.normal,[ptrTo gb,.int .i64 0,.int .i64 n,.int .i64 (t+1:Nat)],h,c+1+1+1,df⟩=_:=Z1C (by simp [hgb])
    rcases ih (t+1) qO with ⟨a2,b2⟩ | ⟨⟨u,j,u1,u2,u3,u4⟩,t',b2⟩
    · refine .inl ⟨fun u j h1 h2 h3=>?_,ZcL step rfl (by rw [hg]; exact b2)⟩
      by_cases hu:u=t
      · rw [hu]; exact a j (Nat.zero_le _) h3
      · exact a2 u j qO h2 h3
    · exact .inr ⟨⟨u,j,by omega,u2,u3,u4⟩,t',ZcL step rfl (by rw [hg]; exact b2)⟩
  · refine .inr ⟨⟨t,j,Nat.le_refl _,by omega,j2,j3⟩,t, ?_⟩
    have step:Z1q G none (ptrTo gb) (.int .i64 0) (.int .i64 n) (.int .i64 t) h c df=some ⟨.ret,[ptrTo gb,.int .i64 7,.int .i64 n,.int .i64 t],h,c+1+1,df⟩:=by
     apply Ans.eq
     unfold Z1q
     repeat (first | (with_reducible refine Ans.bt ?_ ?_; exact rfl) | (with_reducible refine Ans.bf ?_ ?_; exact rfl) | (with_reducible refine Ans.ct ?_ ?_; focus (simp; done)) | (with_reducible refine Ans.cf ?_ ?_; focus (simp; done)) | refine Ans.step (by simp (disch:=(first | omega | (simp <;> omega) | fail)) [e0,b,-List.getD_eq_getElem?_getD] <;> rfl) ?_)
     exact .done rfl
    refine (ZcJ step (by simp)).trans ?_
    rw [Z1C (by simp [hgb])]
theorem Zly (s:Value) (n:Nat) (Gl:List Int) (h:FH) (c:Nat) (df:List Nat) (hs:SlI h c s 20 n Gl) :
 G (.fn 13) [.agg #[s]] h c df=some ⟨.ret,[.int .i64 (if n<=1000/\Z0t Gl n=true then 0 else 7)],h,c,[]⟩:=by
 refine Z7h (fun r e=>f13_go e) (by simp) ?_
 have hflat:((Value.agg #[s]).cells.toList.all Z0c)=true:=by
  obtain ⟨_,_,a,cap,rfl,_⟩:=hs
  rfl
 have hcell:(Value.agg #[s]).cells.toList=[s]:=rfl
 have hlen:=hs.len
 unfold Zlp
 rw [hflat,hcell]
 simp only [cond_true]
 by_cases hn:n<=1000
 · have hn':¬ (1000:Int)<n:=by omega
   have hsl:SlI (newB h (256*c) [s]) (c+1+1+1+1) s 20 n Gl:=(hs.same ((Same_newB qO).2 (Z0u.refl _ _))).mono qO
   have ho:=ZjD s n Gl (256*c) (c+1+1+1+1) (newB h (256*c) [s]) qO (Z09.newB_same _ _ _) hsl hn [] n 0 qO
   simp only [Int.ofNat_eq_natCast,Int.cast_ofNat_Int] at ho
   rcases ho with ⟨a,b⟩ | ⟨⟨u,j,u1,u2,u3,u4⟩,t',b⟩
   · have ok:Z0t Gl n=true:=by
      rw [Z6f]
      intro j hj
      exact a (j / 4) (j % 4) (Nat.zero_le _) qO qO
     rw [if_pos ⟨hn,ok⟩]
     repeat (first | (with_reducible refine Ans.bt ?_ ?_; exact rfl) | (with_reducible refine Ans.bf ?_ ?_; exact rfl) | (with_reducible refine Ans.ct ?_ ?_; focus (simp; done)) | (with_reducible refine Ans.cf ?_ ?_; focus (simp; done)) | refine Ans.step (by simp (disch:=(first | omega | (simp <;> omega) | fail)) [hlen,hn',b,-List.getD_eq_getElem?_getD] <;> rfl) ?_)
     refine .done ⟨rfl,rfl, ?_,rfl⟩
     simp (disch:=omega)
   · have ok:¬ (n<=1000/\Z0t Gl n=true):=by
      rintro ⟨_,ok⟩
      rw [Z6f] at ok
      have:=ok (4*u+j) qO
      have e1:(4*u+j) / 4=u:=by omega
      have e2:(4*u+j) % 4=j:=by omega
      rw [e1,e2,u4] at this
      cases this
     rw [if_neg ok]
     repeat (first | (with_reducible refine Ans.bt ?_ ?_; exact rfl) | (with_reducible refine Ans.bf ?_ ?_; exact rfl) | (with_reducible refine Ans.ct ?_ ?_; focus (simp; done)) | (with_reducible refine Ans.cf ?_ ?_; focus (simp; done)) | refine Ans.step (by simp (disch:=(first | omega | (simp <;> omega) | fail)) [hlen,hn',b,-List.getD_eq_getElem?_getD] <;> rfl) ?_)
     refine .done ⟨rfl,rfl, ?_,rfl⟩
     simp (disch:=omega)
 · have hn':(1000:Int)<n:=by omega
   rw [if_neg (fun h=>hn h.1)]
   repeat (first | (with_reducible refine Ans.bt ?_ ?_; exact rfl) | (with_reducible refine Ans.bf ?_ ?_; exact rfl) | (with_reducible refine Ans.ct ?_ ?_; focus (simp; done)) | (with_reducible refine Ans.cf ?_ ?_; focus (simp; done)) | refine Ans.step (by simp (disch:=(first | omega | (simp <;> omega) | fail)) [hlen,hn',-List.getD_eq_getElem?_getD] <;> rfl) ?_)
   refine .done ⟨rfl,rfl, ?_,rfl⟩
   simp (disch:=omega)
end Go.Proofs.Ytcnndelmnobigaa

namespace Go.Ab
open Go
inductive Tri where
 | leaf
 | node (b:Option ABlk) (l r:Tri)
def Tri.get:Tri->Nat->Option ABlk
 | .leaf,_=>none
 | .node b l r,i=>cond (Nat.beq i 0) b (cond (Nat.beq (i % 2) 1) (l.get (i / 2)) (r.get (i / 2-1)))
def Tri.upd:Nat->Tri->Nat->Option ABlk->Tri
 | 0,t,_,o=>match t with
  | .leaf=>.node o .leaf .leaf
  | .node _ l r=>.node o l r
 | n+1,t,i,o=>match t with
  | .leaf=>cond (Nat.beq i 0) (.node o .leaf .leaf) (cond (Nat.beq (i % 2) 1) (.node none (Tri.upd n .leaf (i / 2) o) .leaf) (.node none .leaf (Tri.upd n .leaf (i / 2-1) o)))
  | .node b l r=>cond (Nat.beq i 0) (.node o l r) (cond (Nat.beq (i % 2) 1) (.node b (Tri.upd n l (i / 2) o) r) (.node b l (Tri.upd n r (i / 2-1) o)))
theorem Tri.get_upd:∀ (n:Nat) (t:Tri) (i:Nat) (o:Option ABlk) (j:Nat),i<=n->(Tri.upd n t i o).get j=if j=i then o else t.get j:=by
 have key:∀ (b:Option ABlk) (l r:Tri) (i:Nat),(Tri.node b l r).get i=if i=0 then b else if i % 2=1 then l.get (i / 2) else r.get (i / 2-1):=by
  intro b l r i
  simp only [Tri.get]
  by_cases h0:i=0
  · subst h0; rfl
  · have:Nat.beq i 0=false:=by rw [Bool.eq_false_iff]; intro h; exact h0 (Nat.eq_of_beq_eq_true h)
    rw [this]
    simp only [h0,if_false,cond_false]
    by_cases h1:i % 2=1
    · simp [h1]
    · have:Nat.beq (i % 2) 1=false:=by rw [Bool.eq_false_iff]; intro h; exact h1 (Nat.eq_of_beq_eq_true h)
      simp [h1,this]
 have leafg:∀ j,Tri.leaf.get j=none:=fun _=>rfl
 intro n
 induction n with
 | zero =>
  intro t i o j hi
  have:i=0:=by omega
  subst this
  cases t with
  | leaf =>
   simp only [Tri.upd,key,leafg]
   split <;> simp
  | node b l r =>
   simp only [Tri.upd,key]
   by_cases h:j=0 <;> simp [h]
 | succ n ih =>
  intro t i o j hi
  by_cases h0:i=0
  · subst h0
    cases t with
    | leaf =>
     simp only [Tri.upd,Nat.beq_refl,cond_true,key,leafg]
     split <;> simp
    | node b l r =>
     simp only [Tri.upd,Nat.beq_refl,cond_true,key]
     by_cases h:j=0 <;> simp [h]
  · have hb0:Nat.beq i 0=false:=by rw [Bool.eq_false_iff]; intro h; exact h0 (Nat.eq_of_beq_eq_true h)
    by_cases h1:i % 2=1
    · have hb1:Nat.beq (i % 2) 1=true:=by rw [h1]; rfl
      cases t with
      | leaf =>
       simp only [Tri.upd,hb0,hb1,cond_true,cond_false,key,leafg]
       by_cases hj:j=0
       · subst hj; simp [Ne.symm h0]
       · simp only [hj,if_false]
         by_cases hj1:j % 2=1
         · simp only [hj1,if_true]
           rw [ih _ _ _ _ qO,leafg]
           by_cases e:j=i
           · simp [e]
           · rw [if_neg e,if_neg qO]
         · rw [if_neg hj1,if_neg qO]
      | node b l r =>
       simp only [Tri.upd,hb0,hb1,cond_true,cond_false,key]
       by_cases hj:j=0
       · subst hj; simp [Ne.symm h0]
       · simp only [hj,if_false]
         by_cases hj1:j % 2=1
         · simp only [hj1,if_true]
           rw [ih _ _ _ _ qO]
           by_cases e:j=i
           · simp [e]
           · rw [if_neg e,if_neg qO]
         · rw [if_neg hj1,if_neg (show ¬ j=i by omega),if_neg hj1]
    · have hb1:Nat.beq (i % 2) 1=false:=by rw [Bool.eq_false_iff]; intro h; exact h1 (Nat.eq_of_beq_eq_true h)
      cases t with
      | leaf =>
       simp only [Tri.upd,hb0,hb1,cond_true,cond_false,key,leafg]
       by_cases hj:j=0
       · subst hj; simp [Ne.symm h0]
       · simp only [hj,if_false]
         by_cases hj1:j % 2=1
         · rw [if_pos hj1,if_neg qO]
         · rw [if_neg hj1,ih _ _ _ _ qO,leafg]
           by_cases e:j=i
           · simp [e]
           · rw [if_neg e,if_neg qO]
      | node b l r =>
       simp only [Tri.upd,hb0,hb1,cond_true,cond_false,key]
       by_cases hj:j=0
       · subst hj; simp [Ne.symm h0]
       · simp only [hj,if_false]
         by_cases hj1:j % 2=1
         · rw [if_pos hj1,if_neg (show ¬ j=i by omega),if_pos hj1]
         · rw [if_neg hj1,ih _ _ _ _ qO]
           by_cases e:j=i
           · simp [e]
           · rw [if_neg e,if_neg qO,if_neg hj1]
def Zin:Option Addr->Option Addr->Bool
 | none,none=>true
 | some ⟨a,b,none⟩,some ⟨c,d,none⟩=>Nat.beq a c && Nat.beq b d
 | _,_=>false
def Zqh:Value->Value->Bool
 | .bool a,.bool b=>a == b
 | .int k n,.int k' n'=>decide (k=k') && n == n'
 | .pointer a,.pointer b=>Zin a b
 | .slice a l c,.slice b l' c'=>Zin a b && Nat.beq l l' && Nat.beq c c'
 | .map (some a),.map (some b)=>Nat.beq a b
 | .map none,.map none=>true
 | .nilFunc,.nilFunc=>true
 | .nilIface,.nilIface=>true
 | _,_=>false
def Zgu:List Value->List Value->Bool
 | [],[]=>true
 | x::xs,y::ys=>Zqh x y && Zgu xs ys
 | _,_=>false
def Zdh:Option Nat->Option Nat->Bool
 | none,none=>true
 | some a,some b=>Nat.beq a b
 | _,_=>false
def Zpp:Option ABlk->Option ABlk->Bool
 | none,none=>true
 | some (.cells ro o c),some (.cells ro' o' c')=>ro == ro' && Zdh o o' && Zgu c c'
 | some .dead,some .dead=>true
 | some .dfr,some .dfr=>true
 | _,_=>false
theorem ZeV {a b:Option Addr} (h:Zin a b=true):a=b:=by
 unfold Zin at h
 split at h
 · rfl
 · simp only [Bool.and_eq_true] at h
   rw [Nat.eq_of_beq_eq_true h.1,Nat.eq_of_beq_eq_true h.2]
 · cases h
theorem ZlS {a b:Value} (h:Zqh a b=true):a=b:=by
 unfold Zqh at h
 split at h
 · simp at h; rw [h]
 · simp at h; rw [h.1,h.2]
 · rw [ZeV h]
 · simp only [Bool.and_eq_true] at h
   rw [ZeV h.1.1,Nat.eq_of_beq_eq_true h.1.2,Nat.eq_of_beq_eq_true h.2]
 · rw [Nat.eq_of_beq_eq_true h]
 · rfl
 · rfl
 · rfl
 · cases h
theorem Ze8:∀ {a b:List Value},Zgu a b=true->a=b
 | [],[],_=>rfl
 | x::xs,y::ys,h=>by
  simp only [Zgu,Bool.and_eq_true] at h
  rw [ZlS h.1,Ze8 h.2]
 | [],y::ys,h=>by cases h
 | x::xs,[],h=>by cases h
theorem Zfg {a b:Option Nat} (h:Zdh a b=true):a=b:=by
 unfold Zdh at h
 split at h
 · rfl
 · rw [Nat.eq_of_beq_eq_true h]
 · cases h
theorem Zij (a b:Option ABlk) (h:Zpp a b=true):a=b:=by
 unfold Zpp at h
 split at h
 · rfl
 · simp only [Bool.and_eq_true] at h
   have h1:=h.1.1
   rw [Zfg h.1.2,Ze8 h.2]
   simp at h1
   rw [h1]
 · rfl
 · rfl
 · cases h
instance:HeapC Tri where
 get h i:=h.get i
 set h i b:=Tri.upd i h i (some b)
 del h i:=Tri.upd i h i none
 eqB:=Zpp
 eqB_eq:=Zij
 get_set h i b j:=Tri.get_upd i h i (some b) j (Nat.le_refl _)
 get_del h i j:=Tri.get_upd i h i none j (Nat.le_refl _)
end Go.Ab

namespace Go.Ab
open Go
noncomputable def ZlW (t:Tri):Nat->Option ABlk :=
 Tri.rec (motive:=fun _=>Nat->Option ABlk) (fun _=>none)
  (fun b _ _ l r i=>cond (Nat.beq i 0) b (cond (Nat.beq (Nat.mod i 2) 1) (l (Nat.div i 2)) (r (Nat.sub (Nat.div i 2) 1)))) t
theorem Zd1:∀ (t:Tri) (i:Nat),ZlW t i=t.get i
 | .leaf,i=>rfl
 | .node b l r,i=>by
  show cond (Nat.beq i 0) b (cond (Nat.beq (Nat.mod i 2) 1) (ZlW l (Nat.div i 2)) (ZlW r (Nat.sub (Nat.div i 2) 1)))=_
  rw [Zd1 l,Zd1 r]
  rfl
noncomputable def ZpG (o:Option ABlk) (n:Nat):Tri->Nat->Tri :=
 Nat.rec (motive:=fun _=>Tri->Nat->Tri)
  (fun t _=>Tri.rec (motive:=fun _=>Tri) (.node o .leaf .leaf) (fun _ l r _ _=>.node o l r) t)
  (fun _ ih t i=>Tri.rec (motive:=fun _=>Tri)
   (cond (Nat.beq i 0) (.node o .leaf .leaf) (cond (Nat.beq (Nat.mod i 2) 1) (.node none (ih .leaf (Nat.div i 2)) .leaf) (.node none .leaf (ih .leaf (Nat.sub (Nat.div i 2) 1)))))
   (fun b l r _ _=>cond (Nat.beq i 0) (.node o l r) (cond (Nat.beq (Nat.mod i 2) 1) (.node b (ih l (Nat.div i 2)) r) (.node b l (ih r (Nat.sub (Nat.div i 2) 1))))) t) n
theorem Zai (o:Option ABlk):∀ (n:Nat) (t:Tri) (i:Nat),ZpG o n t i=Tri.upd n t i o
 | 0,.leaf,i=>rfl
 | 0,.node b l r,i=>rfl
 | n+1,.leaf,i=>by
  show (cond (Nat.beq i 0) (Tri.node o .leaf .leaf) (cond (Nat.beq (Nat.mod i 2) 1) (Tri.node none (ZpG o n .leaf (Nat.div i 2)) .leaf) (Tri.node none .leaf (ZpG o n .leaf (Nat.sub (Nat.div i 2) 1)))))=_
  rw [Zai o n,Zai o n]; rfl
 | n+1,.node b l r,i=>by
  show (cond (Nat.beq i 0) (Tri.node o l r) (cond (Nat.beq (Nat.mod i 2) 1) (Tri.node b (ZpG o n l (Nat.div i 2)) r) (Tri.node b l (ZpG o n r (Nat.sub (Nat.div i 2) 1)))))=_
  rw [Zai o n,Zai o n]; rfl
theorem ZjV (t:Tri) (i:Nat) (o:Option ABlk) (j:Nat):ZlW (ZpG o i t i) j=if j=i then o else ZlW t j:=by
 rw [Zd1,Zd1,Zai]
 exact Tri.get_upd i t i o j (Nat.le_refl _)
abbrev RC:=List (Nat × Option ABlk)
noncomputable def Zbg (i:Nat) (rc:RC):Option (Option ABlk) :=
 List.rec (motive:=fun _=>Option (Option ABlk)) none (fun x _ ih=>cond (Nat.beq i x.1) (some x.2) ih) rc
noncomputable def Zkb (i:Nat) (o:Option ABlk) (rc:RC):RC :=
 List.rec (motive:=fun _=>RC) [] (fun x xs ih=>cond (Nat.beq i x.1) ((x.1,o)::xs) (x::ih)) rc
noncomputable def ZkL (rc:RC) (t:Tri):Tri :=
 List.rec (motive:=fun _=>Tri) t (fun x _ ih=>ZpG x.2 x.1 ih x.1) rc
theorem Z1V (i:Nat) (x:Nat × Option ABlk) (xs:RC):Zbg i (x::xs)=if i=x.1 then some x.2 else Zbg i xs:=by
 show cond (Nat.beq i x.1) (some x.2) (Zbg i xs)=_
 cases h:Nat.beq i x.1 with
 | true=>rw [if_pos (Nat.eq_of_beq_eq_true h)]; rfl
 | false=>rw [if_neg (fun e=>by rw [e,Nat.beq_refl] at h; cases h)]; rfl
theorem ZiC (i:Nat) (o:Option ABlk) (x:Nat × Option ABlk) (xs:RC):Zkb i o (x::xs)=if i=x.1 then (x.1,o)::xs else x::Zkb i o xs:=by
 show cond (Nat.beq i x.1) ((x.1,o)::xs) (x::Zkb i o xs)=_
 cases h:Nat.beq i x.1 with
 | true=>rw [if_pos (Nat.eq_of_beq_eq_true h)]; rfl
 | false=>rw [if_neg (fun e=>by rw [e,Nat.beq_refl] at h; cases h)]; rfl
theorem ZaU (i:Nat) (o:Option ABlk) (j:Nat):∀ (rc:RC),Zbg i rc ≠ none->Zbg j (Zkb i o rc)=if j=i then some o else Zbg j rc
 | [],h=>absurd rfl h
 | x::xs,h=>by
  rw [Z1V] at h
  rw [ZiC]
  by_cases e:i=x.1
  · rw [if_pos e,Z1V,Z1V]
    by_cases e2:j=x.1
    · rw [if_pos e2,if_pos (e2.trans e.symm)]
    · rw [if_neg e2,if_neg (fun h=>e2 (h.trans e)),if_neg e2]
  · rw [if_neg e] at h ⊢
    rw [Z1V,Z1V,ZaU i o j xs h]
    by_cases e2:j=x.1
    · rw [if_pos e2,if_pos e2,if_neg (fun h=>e (h.symm.trans e2))]
    · rw [if_neg e2,if_neg e2]
theorem ZbO (j:Nat) (t:Tri):∀ (rc:RC),ZlW (ZkL rc t) j=(match Zbg j rc with | some o=>o | none=>ZlW t j)
 | []=>rfl
 | x::xs=>by
  show ZlW (ZpG x.2 x.1 (ZkL xs t) x.1) j=_
  rw [ZjV,Z1V]
  by_cases e:j=x.1
  · rw [if_pos e,if_pos e]
  · rw [if_neg e,if_neg e,ZbO j t xs]
structure TH where
 rc:RC
 n:Nat
 old:Tri
noncomputable def TH.put (h:TH) (i:Nat) (o:Option ABlk):TH :=
 match Zbg i h.rc with
 | some _=>{ rc:=Zkb i o h.rc,n:=h.n,old:=h.old }
 | none=>cond (Nat.blt h.n 24) { rc:=(i,o)::h.rc,n:=Nat.add h.n 1,old:=h.old } { rc:=[(i,o)],n:=1,old:=ZkL h.rc h.old }
noncomputable def TH.look (h:TH) (i:Nat):Option ABlk :=
 match Zbg i h.rc with
 | some o=>o
 | none=>ZlW h.old i
theorem TH.look_put (h:TH) (i:Nat) (o:Option ABlk) (j:Nat):(h.put i o).look j=if j=i then o else h.look j:=by
 unfold TH.put TH.look
 cases e:Zbg i h.rc with
 | some x =>
  dsimp only
  rw [ZaU i o j h.rc (by rw [e]; simp)]
  by_cases e2:j=i
  · rw [if_pos e2,if_pos e2]
  · rw [if_neg e2,if_neg e2]
 | none =>
  dsimp only
  cases Nat.blt h.n 24 with
  | true =>
   dsimp only [cond_true]
   rw [Z1V]
   by_cases e2:j=i
   · rw [if_pos e2,if_pos e2]
   · rw [if_neg e2,if_neg e2]
  | false =>
   dsimp only [cond_false]
   rw [Z1V]
   by_cases e2:j=i
   · rw [if_pos e2,if_pos e2]
   · rw [if_neg e2,if_neg e2]
     exact ZbO j h.old h.rc
noncomputable instance:HeapC TH where
 get h i:=h.look i
 set h i b:=h.put i (some b)
 del h i:=h.put i none
 eqB:=Zpp
 eqB_eq:=Zij
 get_set h i b j:=TH.look_put h i (some b) j
 get_del h i j:=TH.look_put h i none j
noncomputable def TH.empty:TH:={ rc:=[],n:=0,old:=.leaf }
theorem TH.inv_empty (h:TH) (e:h=TH.empty) (i:Nat):HeapC.get h i=none:=by subst e; rfl
end Go.Ab
