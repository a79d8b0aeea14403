/- Parts of a proof: D2 D3 AbGA L3 L4 K29 L5 AbSk L1 L2 L6 K32 K33 L7 AbTrie. Conditions: none. -/
import Derived.Test.YtdodippbpdechaaM19
import Derived.Test.YtdodippbpdechaaM17
import Derived.Test.YtdodippbpdechaaM14
import Derived.Test.YtdodippbpdechaaM18
import Derived.Test.YtdodippbpdechaaM13
import Derived.Test.YtdodippbpdechaaM15
import Derived.Test.YtdodippbpdechaaM0
set_option linter.all false
set_option maxRecDepth 100000
namespace Go.Proofs.Ytdodippbpdechaa
open Go Go.Ab Go.Proofs
theorem Zla (a0 a1 a2 a3 b0 b1 b2 b3:Int):Z0F P .eql 42 (av [a0,a1,a2,a3]) (av [b0,b1,b2,b3]) =
 (cond (a0 == b0) (cond (a1 == b1) (cond (a2 == b2) (cond (a3 == b3) (some true) (some false)) (some false)) (some false)) (some false)).bind fun b=>some (.bool b):=by kernel_rfl
theorem Z47 (x y:List Int) (hx:x.length=4) (hy:y.length=4):Z00 P .eql 42 (av x) (av y)=some (.bool (decide (x=y))):=by
 match x,hx,y,hy with
 | [a0,a1,a2,a3],_,[b0,b1,b2,b3],_ =>
  rw [Z0o,Zla]
  by_cases h0:a0=b0 <;> by_cases h1:a1=b1 <;> by_cases h2:a2=b2 <;> by_cases h3:a3=b3 <;> simp [h0,h1,h2,h3,Bool.cond_eq_ite]
theorem Z9j (p:List Int) (hp:p.length=4) (h:FH) (c:Nat):callF G 45 [av p] h c=some (av (invR p),h,c):=Z0c (Zcx p hp h c [])
theorem Z7S {x:Option Nat} {h1 h2:FH} (e:∀ i,x=some i->h1.f i=h2.f i):Z1f x h1 h2=true:=by
 cases x with
 | none=>rfl
 | some i =>
  show @decide (h1.f i=h2.f i) (Classical.propDecidable _)=true
  exact @decide_eq_true _ (Classical.propDecidable _) (e i rfl)
theorem Z9E {x:List Int} (hx:x.length=5):x=Z0x x::Z0d x:=by
 match x,hx with
 | [a,b,c,d,e],_=>rfl
set_option maxHeartbeats 2000000 in
theorem Zd7 (s:Value) (n:Nat) (Gl:List Int) (gb c:Nat) (h:FH) (t f:Nat) (ht:t<n) (hf:f<4) (hgb:gb<256*c)
 (h1:Z0f h gb [s]) (h2:SlI h c s 20 n Gl) (v2:Value) (df:List Nat) :
 Ans (Z1U G none (ptrTo gb) v2 (.int .i64 n) (.int .i64 t) (.int .i64 f) h c df) fun r=>r.df=df/\Z0s c h r.h ∧
  r.e=(if Z0n Gl n t f=true then .normal else .ret)/\r.vs=(if Z0n Gl n t f=true then [ptrTo gb,v2,.int .i64 n,.int .i64 t,.int .i64 (f+1:Nat)] else [ptrTo gb,.int .i64 7,.int .i64 n,.int .i64 t,.int .i64 f]):=by
 have hx:=Z0j h2.1 ht hf
 have hp:=Z0X hx
 have hsp:=Z9E hx
 have ht5:(Z03 Gl t f).take 5=Z03 Gl t f:=List.take_of_length_le qO
 have ft:(f:Int)<4:=by omega
 obtain ⟨b,o,cs,x1,x2,x3,x4⟩:=h2.ix .i64 (t:Int) qO qO
 have hface:∀ u j:Int,0<=u->u<n->0<=j->j<4 -> ∃ b o,ixS 20 s (.int .i64 u)=some (.pointer (some ⟨b,o+u.toNat*20,none⟩))/\(∀ H:FH,(∀ i,i<256*c->H.f i=h.f i)->ldN H 5 (.pointer (some ⟨b,o+u.toNat*20+j.toNat*5,none⟩))=some (av (Z03 Gl u.toNat j.toNat)))/\b<256*c:=by
  intro u j u1 u2 j1 j2
  obtain ⟨b,o,cs,x1,x2,x3,x4⟩:=h2.ix .i64 u u1 u2
  refine ⟨b,o,x1,fun H hH=>?_,x2⟩
  have:=h2.1
  have x3':Z0f H b cs:=by
   obtain ⟨ro,op,e⟩:=x3
   exact ⟨ro,op,(hH b x2).trans e⟩
  rw [Nat.add_assoc,ZaH x3' x4 (j:=u.toNat*20+j.toNat*5) (q:=5) qO qO]
  unfold Z03
  rw [Nat.mul_comm 20,Nat.mul_comm 5]
 obtain ⟨fb,fo,y1,y2,y3⟩:=hface t f qO qO qO qO
 have y2h:=y2 h (fun i hi=>rfl)
 simp only [Int.toNat_natCast] at y1 y2h
 have e2:ld1 h (.pointer (some ⟨gb,0,none⟩))=some s:=by rw [Z02 h1]; rfl
 obtain ⟨H,hH⟩:∃ H,H=newB h (256*(c+1)+7) (ints (Z03 Gl t f)):=⟨_,rfl⟩
 have hst:stN (newB h (256*(c+1)+7) [.int .i64 0,.int .i64 0,.int .i64 0,.int .i64 0,.int .i64 0]) 5 (.pointer (some ⟨256*(c+1)+7,0,none⟩)) (av (Z03 Gl t f))=some H:=by
  rw [stN_all _ _ 5 _ _ hx rfl,hH]
 have hS:Z0s c h H:=by rw [hH]; exact (Same_newB qO).2 (Z0s.refl _ _)
 have hB:Z0f H (256*(c+1)+7) (ints (Z03 Gl t f)):=by rw [hH]; exact Z0f.newB_same _ _ _
 have b1:ld1 H (.pointer (some ⟨256*(c+1)+7,0,none⟩))=some (.int .i64 (Z0x (Z03 Gl t f))):=by
  rw [Z02 hB,Z4K,List.getElem?_eq_getElem qO]
  simp [Z0x,List.getD,List.getElem?_eq_getElem (by omega:0<(Z03 Gl t f).length)]
 have b2:ldN H 4 (.pointer (some ⟨256*(c+1)+7,1,none⟩))=some (av (Z0d (Z03 Gl t f))):=by
  rw [ldN_holds hB (by simp [hx])]; rw [Z1a,Z0G]; rfl
 have b3:ld1 H (.pointer (some ⟨256*(c+1)+7,1+f,none⟩))=some (.int .i64 ((Z0d (Z03 Gl t f)).getD f 0)):=by
  have hlt:1+f<(Z03 Gl t f).length:=by omega
  rw [Z02 hB,Z4K,List.getElem?_eq_getElem hlt]
  unfold Z0d
  rw [Z3T _ _ _ hf,Z2y]
  simp [List.getD,List.getElem?_eq_getElem hlt]
 have e2':ld1 H (.pointer (some ⟨gb,0,none⟩))=some s:=by
  rw [Z02 (cs:=[s]) (by obtain ⟨ro,op,e⟩:=h1; exact ⟨ro,op,(hS gb hgb).trans e⟩)]; rfl
 have hzz:Z1z [.int .i64 0,.int .i64 0,.int .i64 0,.int .i64 0] []=some (av [0,0,0,0]):=rfl
 have hz4:([0,0,0,0]:List Int).length=4:=rfl
 have hq:∀ (x:Option Nat),Z1f x H H=true:=fun x=>Z7S fun i _=>rfl
 clear hH
 obtain ⟨F,hF⟩:∃ F,Z03 Gl t f=F:=⟨_,rfl⟩
 rw [hF] at hx hp hsp ht5 y2h hst b1 b2 b3
 obtain ⟨X,hX⟩:∃ X,Z0x F=X:=⟨_,rfl⟩
 obtain ⟨Y,hY⟩:∃ Y,Z0d F=Y:=⟨_,rfl⟩
 rw [hX] at b1 hsp
 rw [hY] at b2 b3 hsp hp
 have okE:Z0n Gl n t f=(decide (X = -1/\Y=[0,0,0,0]) || (decide (0<=X) && decide (X<n) && Z0N Y && !(decide (X=t) && decide (Y.getD f 0=f)) && decide (Z03 Gl X.toNat (Y.getD f 0).toNat=(t:Int)::inv Y))):=by
  unfold Z0n
  rw [hF,hX,hY]
  congr 1
  rw [hsp]
  simp [Z6X]
 have hnl:(t:Int)::inv Y=(t:Int)::inv Y:=rfl
 unfold Z1U
 repeat (first | (with_reducible refine Ans.bt ?_ ?_; exact rfl) | (with_reducible refine Ans.bf ?_ ?_; exact rfl) | (with_reducible refine Ans.ct ?_ ?_; focus (simp; done)) | (with_reducible refine Ans.cf ?_ ?_; focus (simp; done)) | refine Ans.step (by simp (disch:=(first | omega | (simp <;> omega) | fail)) [ft,-List.getD_eq_getElem?_getD] <;> rfl) ?_)
 refine Ans.bind ?_
 by_cases q1:X = -1
 · have q1':=eq_true q1
   have q0:=eq_true (show X<0 by omega)
   by_cases q2:Y=[0,0,0,0]
   · have ok:Z0n Gl n t f=true:=by rw [okE]; simp [q1,q2]
     rw [ok]
     have q2':=eq_true q2
     repeat (first | (with_reducible refine Ans.bt ?_ ?_; exact rfl) | (with_reducible refine Ans.bf ?_ ?_; exact rfl) | (with_reducible refine Ans.ct ?_ ?_; focus (simp; done)) | (with_reducible refine Ans.cf ?_ ?_; focus (simp; done)) | refine Ans.step (by simp (disch:=(first | omega | (simp <;> omega) | fail)) [ft,e2,y1,y2h,hst,b1,b2,hzz,hz4,Z47,hp,q1',q2',-List.getD_eq_getElem?_getD] <;> rfl) ?_)
     refine .done ?_
     repeat (first | (with_reducible refine Ans.bt ?_ ?_; exact rfl) | (with_reducible refine Ans.bf ?_ ?_; exact rfl) | (with_reducible refine Ans.ct ?_ ?_; focus (simp; done)) | (with_reducible refine Ans.cf ?_ ?_; focus (simp; done)) | refine Ans.step (by simp (disch:=(first | omega | (simp <;> omega) | fail)) [ft,-List.getD_eq_getElem?_getD] <;> rfl) ?_)
     exact .done ⟨rfl,hS,by simp,by simp⟩
   · have ok:Z0n Gl n t f=false:=by rw [okE]; simp [q1,q2]
     rw [ok]
     repeat (first | (with_reducible refine Ans.bt ?_ ?_; exact rfl) | (with_reducible refine Ans.bf ?_ ?_; exact rfl) | (with_reducible refine Ans.ct ?_ ?_; focus (simp; done)) | (with_reducible refine Ans.cf ?_ ?_; focus (simp; done)) | refine Ans.step (by simp (disch:=(first | omega | (simp <;> omega) | fail)) [ft,e2,y1,y2h,hst,b1,b2,hzz,hz4,Z47,hp,q1',q2,q0,-List.getD_eq_getElem?_getD] <;> rfl) ?_)
     refine .done ?_
     repeat (first | (with_reducible refine Ans.bt ?_ ?_; exact rfl) | (with_reducible refine Ans.bf ?_ ?_; exact rfl) | (with_reducible refine Ans.ct ?_ ?_; focus (simp; done)) | (with_reducible refine Ans.cf ?_ ?_; focus (simp; done)) | refine Ans.step (by simp (disch:=(first | omega | (simp <;> omega) | fail)) [ft,-List.getD_eq_getElem?_getD] <;> rfl) ?_)
     exact .done ⟨rfl,hS,by simp,by simp⟩
 by_cases q3:X<0
 · have ok:Z0n Gl n t f=false:=by
    have:¬ 0<=X:=by omega
    rw [okE]; simp [q1,this]
   rw [ok]
   repeat (first | (with_reducible refine Ans.bt ?_ ?_; exact rfl) | (with_reducible refine Ans.bf ?_ ?_; exact rfl) | (with_reducible refine Ans.ct ?_ ?_; focus (simp; done)) | (with_reducible refine Ans.cf ?_ ?_; focus (simp; done)) | refine Ans.step (by simp (disch:=(first | omega | (simp <;> omega) | fail)) [ft,e2,y1,y2h,hst,b1,b2,hzz,hz4,Z47,hp,q1,q3,-List.getD_eq_getElem?_getD] <;> rfl) ?_)
   refine .done ?_
   repeat (first | (with_reducible refine Ans.bt ?_ ?_; exact rfl) | (with_reducible refine Ans.bf ?_ ?_; exact rfl) | (with_reducible refine Ans.ct ?_ ?_; focus (simp; done)) | (with_reducible refine Ans.cf ?_ ?_; focus (simp; done)) | refine Ans.step (by simp (disch:=(first | omega | (simp <;> omega) | fail)) [ft,-List.getD_eq_getElem?_getD] <;> rfl) ?_)
   exact .done ⟨rfl,hS,by simp,by simp⟩
 by_cases q4:(n:Int)<=X
 · have ok:Z0n Gl n t f=false:=by
    have:¬ X<n:=by omega
    rw [okE]; simp [q1,this]
   rw [ok]
   repeat (first | (with_reducible refine Ans.bt ?_ ?_; exact rfl) | (with_reducible refine Ans.bf ?_ ?_; exact rfl) | (with_reducible refine Ans.ct ?_ ?_; focus (simp; done)) | (with_reducible refine Ans.cf ?_ ?_; focus (simp; done)) | refine Ans.step (by simp (disch:=(first | omega | (simp <;> omega) | fail)) [ft,e2,y1,y2h,hst,b1,b2,hzz,hz4,Z47,hp,q1,q3,q4,-List.getD_eq_getElem?_getD] <;> rfl) ?_)
   refine .done ?_
   repeat (first | (with_reducible refine Ans.bt ?_ ?_; exact rfl) | (with_reducible refine Ans.bf ?_ ?_; exact rfl) | (with_reducible refine Ans.ct ?_ ?_; focus (simp; done)) | (with_reducible refine Ans.cf ?_ ?_; focus (simp; done)) | refine Ans.step (by simp (disch:=(first | omega | (simp <;> omega) | fail)) [ft,-List.getD_eq_getElem?_getD] <;> rfl) ?_)
   exact .done ⟨rfl,hS,by simp,by simp⟩
 cases q5:Z0N Y with
 | false =>
  have ok:Z0n Gl n t f=false:=by rw [okE]; simp [q1,q5]
  rw [ok]
  repeat (first | (with_reducible refine Ans.bt ?_ ?_; exact rfl) | (with_reducible refine Ans.bf ?_ ?_; exact rfl) | (with_reducible refine Ans.ct ?_ ?_; focus (simp; done)) | (with_reducible refine Ans.cf ?_ ?_; focus (simp; done)) | refine Ans.step (by simp (disch:=(first | omega | (simp <;> omega) | fail)) [ft,e2,y1,y2h,hst,b1,b2,hzz,hz4,Z47,hp,q1,q3,q4,q5,Z1b,-List.getD_eq_getElem?_getD] <;> rfl) ?_)
  refine .done ?_
  repeat (first | (with_reducible refine Ans.bt ?_ ?_; exact rfl) | (with_reducible refine Ans.bf ?_ ?_; exact rfl) | (with_reducible refine Ans.ct ?_ ?_; focus (simp; done)) | (with_reducible refine Ans.cf ?_ ?_; focus (simp; done)) | refine Ans.step (by simp (disch:=(first | omega | (simp <;> omega) | fail)) [ft,-List.getD_eq_getElem?_getD] <;> rfl) ?_)
  exact .done ⟨rfl,hS,by simp,by simp⟩
 | true =>
  have hr:=Z2v q5
  have hpr:0<=Y.getD f 0/\Y.getD f 0<4:=by
   have hlt:f<Y.length:=by omega
   have:=hr _ (List.getElem_mem hlt)
   simpa [List.getD,List.getElem?_eq_getElem hlt] using this
  have c1:∀ H c,callF G 45 [av Y] H c=some (av (inv Y),H,c):=fun H c=>by
   rw [Z9j Y hp,invR,if_pos q5]
  have hil:(inv Y).length=4:=Z3R Y 0 [0,0,0,0]
  by_cases q6:X=t
  · by_cases q7:Y.getD f 0=f
    · have ok:Z0n Gl n t f=false:=by rw [okE]; simp [q1,q6,q7,-List.getD_eq_getElem?_getD]
      rw [ok]
      have q6':=eq_true q6
      have q7':=eq_true q7
      repeat (first | (with_reducible refine Ans.bt ?_ ?_; exact rfl) | (with_reducible refine Ans.bf ?_ ?_; exact rfl) | (with_reducible refine Ans.ct ?_ ?_; focus (simp; done)) | (with_reducible refine Ans.cf ?_ ?_; focus (simp; done)) | refine Ans.step (by simp (disch:=(first | omega | (simp <;> omega) | fail)) [ft,e2,y1,y2h,hst,b1,b2,b3,hzz,hz4,Z47,hp,q1,q3,q4,q5,Z1b,q6',q7',-List.getD_eq_getElem?_getD] <;> rfl) ?_)
      refine .done ?_
      repeat (first | (with_reducible refine Ans.bt ?_ ?_; exact rfl) | (with_reducible refine Ans.bf ?_ ?_; exact rfl) | (with_reducible refine Ans.ct ?_ ?_; focus (simp; done)) | (with_reducible refine Ans.cf ?_ ?_; focus (simp; done)) | refine Ans.step (by simp (disch:=(first | omega | (simp <;> omega) | fail)) [ft,-List.getD_eq_getElem?_getD] <;> rfl) ?_)
      exact .done ⟨rfl,hS,by simp,by simp⟩
    · have q6':=eq_true q6
      obtain ⟨gb2,go,z1,z2,z3⟩:=hface X (Y.getD f 0) qO qO hpr.1 hpr.2
      have z2h:=z2 H (fun i hi=>hS i hi)
      have hfl:=Z0j (t:=X.toNat) (f:=(Y.getD f 0).toNat) h2.1 qO qO
      have hbl:=ZnW (t:Int) (inv Y) hil
      have hneq:=Z5A (Z03 Gl X.toNat (Y.getD f 0).toNat) ((t:Int)::inv Y) hfl (by simp [hil])
      by_cases q8:Z03 Gl X.toNat (Y.getD f 0).toNat=(t:Int)::inv Y
      · have ok:Z0n Gl n t f=true:=by
         have a1:0<=X:=by omega
         have a2:X<n:=by omega
         rw [okE,decide_eq_true q8]; simp [a1,a2,q5,q7,-List.getD_eq_getElem?_getD]
        rw [ok]
        rw [decide_eq_true q8] at hneq
        repeat (first | (with_reducible refine Ans.bt ?_ ?_; exact rfl) | (with_reducible refine Ans.bf ?_ ?_; exact rfl) | (with_reducible refine Ans.ct ?_ ?_; focus (simp; done)) | (with_reducible refine Ans.cf ?_ ?_; focus (simp; done)) | refine Ans.step (by simp (disch:=(first | omega | (simp <;> omega) | fail)) [ft,e2,e2',y1,y2h,hst,b1,b2,b3,hzz,hz4,Z47,hp,q1,q3,q4,q5,Z1b,q6',q7,c1,z1,z2h,hbl,hneq,hq,hpr,-List.getD_eq_getElem?_getD] <;> rfl) ?_)
        refine .done ?_
        repeat (first | (with_reducible refine Ans.bt ?_ ?_; exact rfl) | (with_reducible refine Ans.bf ?_ ?_; exact rfl) | (with_reducible refine Ans.ct ?_ ?_; focus (simp; done)) | (with_reducible refine Ans.cf ?_ ?_; focus (simp; done)) | refine Ans.step (by simp (disch:=(first | omega | (simp <;> omega) | fail)) [ft,-List.getD_eq_getElem?_getD] <;> rfl) ?_)
        exact .done ⟨rfl,hS,by simp,by simp⟩
      · have ok:Z0n Gl n t f=false:=by rw [okE,decide_eq_false q8]; simp [q1]
        rw [ok]
        rw [decide_eq_false q8] at hneq
        repeat (first | (with_reducible refine Ans.bt ?_ ?_; exact rfl) | (with_reducible refine Ans.bf ?_ ?_; exact rfl) | (with_reducible refine Ans.ct ?_ ?_; focus (simp; done)) | (with_reducible refine Ans.cf ?_ ?_; focus (simp; done)) | refine Ans.step (by simp (disch:=(first | omega | (simp <;> omega) | fail)) [ft,e2,e2',y1,y2h,hst,b1,b2,b3,hzz,hz4,Z47,hp,q1,q3,q4,q5,Z1b,q6',q7,c1,z1,z2h,hbl,hneq,hq,hpr,-List.getD_eq_getElem?_getD] <;> rfl) ?_)
        refine .done ?_
        repeat (first | (with_reducible refine Ans.bt ?_ ?_; exact rfl) | (with_reducible refine Ans.bf ?_ ?_; exact rfl) | (with_reducible refine Ans.ct ?_ ?_; focus (simp; done)) | (with_reducible refine Ans.cf ?_ ?_; focus (simp; done)) | refine Ans.step (by simp (disch:=(first | omega | (simp <;> omega) | fail)) [ft,-List.getD_eq_getElem?_getD] <;> rfl) ?_)
        exact .done ⟨rfl,hS,by simp,by simp⟩
  · obtain ⟨gb2,go,z1,z2,z3⟩:=hface X (Y.getD f 0) qO qO hpr.1 hpr.2
    have z2h:=z2 H (fun i hi=>hS i hi)
    have hfl:=Z0j (t:=X.toNat) (f:=(Y.getD f 0).toNat) h2.1 qO qO
    have hbl:=ZnW (t:Int) (inv Y) hil
    have hneq:=Z5A (Z03 Gl X.toNat (Y.getD f 0).toNat) ((t:Int)::inv Y) hfl (by simp [hil])
    by_cases q8:Z03 Gl X.toNat (Y.getD f 0).toNat=(t:Int)::inv Y
    · have ok:Z0n Gl n t f=true:=by
       have a1:0<=X:=by omega
       have a2:X<n:=by omega
       rw [okE,decide_eq_true q8]; simp [a1,a2,q5,q6]
      rw [ok]
      rw [decide_eq_true q8] at hneq
      repeat (first | (with_reducible refine Ans.bt ?_ ?_; exact rfl) | (with_reducible refine Ans.bf ?_ ?_; exact rfl) | (with_reducible refine Ans.ct ?_ ?_; focus (simp; done)) | (with_reducible refine Ans.cf ?_ ?_; focus (simp; done)) | refine Ans.step (by simp (disch:=(first | omega | (simp <;> omega) | fail)) [ft,e2,e2',y1,y2h,hst,b1,b2,b3,hzz,hz4,Z47,hp,q1,q3,q4,q5,Z1b,q6,c1,z1,z2h,hbl,hneq,hq,hpr,-List.getD_eq_getElem?_getD] <;> rfl) ?_)
      refine .done ?_
      repeat (first | (with_reducible refine Ans.bt ?_ ?_; exact rfl) | (with_reducible refine Ans.bf ?_ ?_; exact rfl) | (with_reducible refine Ans.ct ?_ ?_; focus (simp; done)) | (with_reducible refine Ans.cf ?_ ?_; focus (simp; done)) | refine Ans.step (by simp (disch:=(first | omega | (simp <;> omega) | fail)) [ft,-List.getD_eq_getElem?_getD] <;> rfl) ?_)
      exact .done ⟨rfl,hS,by simp,by simp⟩
    · have ok:Z0n Gl n t f=false:=by rw [okE,decide_eq_false q8]; simp [q1]
      rw [ok]
      rw [decide_eq_false q8] at hneq
      repeat (first | (with_reducible refine Ans.bt ?_ ?_; exact rfl) | (with_reducible refine Ans.bf ?_ ?_; exact rfl) | (with_reducible refine Ans.ct ?_ ?_; focus (simp; done)) | (with_reducible refine Ans.cf ?_ ?_; focus (simp; done)) | refine Ans.step (by simp (disch:=(first | omega | (simp <;> omega) | fail)) [ft,e2,e2',y1,y2h,hst,b1,b2,b3,hzz,hz4,Z47,hp,q1,q3,q4,q5,Z1b,q6,c1,z1,z2h,hbl,hneq,hq,hpr,-List.getD_eq_getElem?_getD] <;> rfl) ?_)
      refine .done ?_
      repeat (first | (with_reducible refine Ans.bt ?_ ?_; exact rfl) | (with_reducible refine Ans.bf ?_ ?_; exact rfl) | (with_reducible refine Ans.ct ?_ ?_; focus (simp; done)) | (with_reducible refine Ans.cf ?_ ?_; focus (simp; done)) | refine Ans.step (by simp (disch:=(first | omega | (simp <;> omega) | fail)) [ft,-List.getD_eq_getElem?_getD] <;> rfl) ?_)
      exact .done ⟨rfl,hS,by simp,by simp⟩

theorem Zi5 (s:Value) (n:Nat) (Gl:List Int) (gb c:Nat) (h:FH) (t:Nat) (ht:t<n) (hgb:gb<256*c)
 (h1:Z0f h gb [s]) (h2:SlI h c s 20 n Gl) (df:List Nat):∀ (k f:Nat),f+k=4 →
 ((∀ j,f<=j->j<4->Z0n Gl n t j=true)/\G (Z3D none) [ptrTo gb,.int .i64 0,.int .i64 n,.int .i64 t,.int .i64 f] h c df=some ⟨.exit 2,[ptrTo gb,.int .i64 0,.int .i64 n,.int .i64 t,.int .i64 4],h,c,df⟩) ∨
 ((∃ j,f<=j/\j<4/\Z0n Gl n t j=false) /\ ∃ f':Nat,G (Z3D none) [ptrTo gb,.int .i64 0,.int .i64 n,.int .i64 t,.int .i64 f] h c df=some ⟨.ret,[ptrTo gb,.int .i64 7,.int .i64 n,.int .i64 t,.int .i64 f'],h,c,df⟩):=by
 intro k
 induction k with
 | zero =>
  intro f hf
  obtain rfl:f=4:=by omega
  refine .inl ⟨fun j h1 h2=>by omega, ?_⟩
  refine (Zac (q:=⟨.exit 2,[ptrTo gb,.int .i64 0,.int .i64 n,.int .i64 t,.int .i64 4],h,c+1,df⟩) (by unfold Z1U; simp) (by simp)).trans ?_
  rw [Z1t (by simp [hgb])]
 | succ k ih =>
  intro f hf
  obtain ⟨⟨re,rv,rh,rc,rd⟩,hr,r1,r2,r3,r4⟩:=Zd7 s n Gl gb c h t f ht qO hgb h1 h2 (.int .i64 0) df
  simp only at r1 r2 r3 r4
  subst r1
  cases ok:Z0n Gl n t f with
  | true =>
   rw [ok] at r3 r4
   simp only [if_true] at r3 r4
   subst r3 r4
   have hg:gcR h c rd ⟨.normal,[ptrTo gb,.int .i64 0,.int .i64 n,.int .i64 t,.int .i64 (f+1:Nat)],rh,rc,rd⟩=_:=Z5B (by simp [hgb]) r2
   rcases ih (f+1) qO with ⟨a,b⟩ | ⟨⟨j,j1,j2,j3⟩,f',b⟩
   · refine .inl ⟨fun j h1 h2=>?_,Zae hr rfl (by rw [hg]; exact b)⟩
     by_cases hj:j=f
     · rw [hj]; exact ok
     · exact a j qO h2
   · exact .inr ⟨⟨j,by omega,j2,j3⟩,f',Zae hr rfl (by rw [hg]; exact b)⟩
  | false =>
   rw [ok] at r3 r4
   simp only [Bool.false_eq_true,if_false] at r3 r4
   subst r3 r4
   refine .inr ⟨⟨f,Nat.le_refl _,by omega,ok⟩,f,(Zac hr (by simp)).trans ?_⟩
   rw [Z5B (by simp [hgb]) r2]
theorem SlI.up {h:FH} {c c':Nat} {s:Value} {sz n:Nat} {Gl:List Int} (hs:SlI h c s sz n Gl) (hc:c<=c'):SlI h c' s sz n Gl:=hs.mono hc
theorem Zg4 (s:Value) (n:Nat) (Gl:List Int) (gb c:Nat) (h:FH) (hgb:gb<256*c)
 (h1:Z0f h gb [s]) (h2:SlI h c s 20 n Gl) (hn:n<=1000) (df:List Nat):∀ (k t:Nat),t+k=n →
 ((∀ u j,t<=u->u<n->j<4->Z0n Gl n u j=true)/\G (Z3E none) [ptrTo gb,.int .i64 0,.int .i64 n,.int .i64 t] h c df=some ⟨.exit 0,[ptrTo gb,.int .i64 0,.int .i64 n,.int .i64 n],h,c,df⟩) ∨
 ((∃ u j,t<=u/\u<n/\j<4/\Z0n Gl n u j=false) /\ ∃ t':Nat,G (Z3E none) [ptrTo gb,.int .i64 0,.int .i64 n,.int .i64 t] h c df=some ⟨.ret,[ptrTo gb,.int .i64 7,.int .i64 n,.int .i64 t'],h,c,df⟩):=by
 intro k
 induction k with
 | zero =>
  intro t ht
  obtain rfl:t=n:=by omega
  refine .inl ⟨fun u j h1 h2=>by omega, ?_⟩
  refine (Zad (q:=⟨.exit 0,[ptrTo gb,.int .i64 0,.int .i64 t,.int .i64 t],h,c+1,df⟩) (by unfold Z1j; simp) (by simp)).trans ?_
  rw [Z1t (by simp [hgb])]
 | succ k ih =>
  intro t ht
  have e0:(t:Int)<n:=by omega
  have hin:=Zi5 s n Gl gb (c+1+1) h t qO qO h1 (h2.mono qO) df 4 0 rfl
  simp only [Int.ofNat_eq_natCast,Int.cast_ofNat_Int] at hin
  rcases hin with ⟨a,b⟩ | ⟨⟨j,j1,j2,j3⟩,f',b⟩
  · have step:Z1j G none (ptrTo gb) (.int .i64 0) (.int .i64 n) (.int .i64 t) h c df=some ⟨.normal,[ptrTo gb,.int .i64 0,.int .i64 n,.int .i64 (t+1:Nat)],h,c+1+1+1,df⟩:=by
     apply Ans.eq
     unfold Z1j
     repeat (first | (with_reducible refine Ans.bt ?_ ?_; exact rfl) | (with_reducible refine Ans.bf ?_ ?_; exact rfl) | (with_reducible refine Ans.ct ?_ ?_; focus (simp; done)) | (with_reducible refine Ans.cf ?_ ?_; focus (simp; done)) | refine Ans.step (by simp (disch:=(first | omega | (simp <;> omega) | fail)) [e0,b,-List.getD_eq_getElem?_getD] <;> rfl) ?_)
     exact .done rfl
    have hg:gcR h c df ⟨.normal,[ptrTo gb,.int .i64 0,.int .i64 n,.int .i64 (t+1:Nat)],h,c+1+1+1,df⟩=_:=Z1t (by simp [hgb])
    rcases ih (t+1) qO with ⟨a2,b2⟩ | ⟨⟨u,j,u1,u2,u3,u4⟩,t',b2⟩
    · refine .inl ⟨fun u j h1 h2 h3=>?_,Zaf step rfl (by rw [hg]; exact b2)⟩
      by_cases hu:u=t
      · rw [hu]; exact a j (Nat.zero_le _) h3
      · exact a2 u j qO h2 h3
    · exact .inr ⟨⟨u,j,by omega,u2,u3,u4⟩,t',Zaf step rfl (by rw [hg]; exact b2)⟩
  · refine .inr ⟨⟨t,j,Nat.le_refl _,by omega,j2,j3⟩,t, ?_⟩
    have step:Z1j G none (ptrTo gb) (.int .i64 0) (.int .i64 n) (.int .i64 t) h c df=some ⟨.ret,[ptrTo gb,.int .i64 7,.int .i64 n,.int .i64 t],h,c+1+1,df⟩:=by
     apply Ans.eq
     unfold Z1j
     repeat (first | (with_reducible refine Ans.bt ?_ ?_; exact rfl) | (with_reducible refine Ans.bf ?_ ?_; exact rfl) | (with_reducible refine Ans.ct ?_ ?_; focus (simp; done)) | (with_reducible refine Ans.cf ?_ ?_; focus (simp; done)) | refine Ans.step (by simp (disch:=(first | omega | (simp <;> omega) | fail)) [e0,b,-List.getD_eq_getElem?_getD] <;> rfl) ?_)
     exact .done rfl
    refine (Zad step (by simp)).trans ?_
    rw [Z1t (by simp [hgb])]
theorem Zi4 (s:Value) (n:Nat) (Gl:List Int) (h:FH) (c:Nat) (df:List Nat) (hs:SlI h c s 20 n Gl) :
 G (.fn 14) [.agg #[s]] h c df=some ⟨.ret,[.int .i64 (if n<=1000/\Z0v Gl n=true then 0 else 7)],h,c,[]⟩:=by
 refine Z67 (fun r e=>f14_go e) (by simp) ?_
 have hflat:((Value.agg #[s]).cells.toList.all Z07)=true:=by
  obtain ⟨_,_,a,cap,rfl,_⟩:=hs
  rfl
 have hcell:(Value.agg #[s]).cells.toList=[s]:=rfl
 have hlen:=hs.len
 unfold ZhN
 rw [hflat,hcell]
 simp only [cond_true]
 by_cases hn:n<=1000
 · have hn':¬ (1000:Int)<n:=by omega
   have hsl:SlI (newB h (256*c) [s]) (c+1+1+1+1) s 20 n Gl:=(hs.same ((Same_newB qO).2 (Z0s.refl _ _))).mono qO
   have ho:=Zg4 s n Gl (256*c) (c+1+1+1+1) (newB h (256*c) [s]) qO (Z0f.newB_same _ _ _) hsl hn [] n 0 qO
   simp only [Int.ofNat_eq_natCast,Int.cast_ofNat_Int] at ho
   rcases ho with ⟨a,b⟩ | ⟨⟨u,j,u1,u2,u3,u4⟩,t',b⟩
   · have ok:Z0v Gl n=true:=by
      rw [Z5m]
      intro j hj
      exact a (j / 4) (j % 4) (Nat.zero_le _) qO qO
     rw [if_pos ⟨hn,ok⟩]
     repeat (first | (with_reducible refine Ans.bt ?_ ?_; exact rfl) | (with_reducible refine Ans.bf ?_ ?_; exact rfl) | (with_reducible refine Ans.ct ?_ ?_; focus (simp; done)) | (with_reducible refine Ans.cf ?_ ?_; focus (simp; done)) | refine Ans.step (by simp (disch:=(first | omega | (simp <;> omega) | fail)) [hlen,hn',b,-List.getD_eq_getElem?_getD] <;> rfl) ?_)
     refine .done ⟨rfl,rfl, ?_,rfl⟩
     simp (disch:=omega)
   · have ok:¬ (n<=1000/\Z0v Gl n=true):=by
      rintro ⟨_,ok⟩
      rw [Z5m] at ok
      have:=ok (4*u+j) qO
      have e1:(4*u+j) / 4=u:=by omega
      have e2:(4*u+j) % 4=j:=by omega
      rw [e1,e2,u4] at this
      cases this
     rw [if_neg ok]
     repeat (first | (with_reducible refine Ans.bt ?_ ?_; exact rfl) | (with_reducible refine Ans.bf ?_ ?_; exact rfl) | (with_reducible refine Ans.ct ?_ ?_; focus (simp; done)) | (with_reducible refine Ans.cf ?_ ?_; focus (simp; done)) | refine Ans.step (by simp (disch:=(first | omega | (simp <;> omega) | fail)) [hlen,hn',b,-List.getD_eq_getElem?_getD] <;> rfl) ?_)
     refine .done ⟨rfl,rfl, ?_,rfl⟩
     simp (disch:=omega)
 · have hn':(1000:Int)<n:=by omega
   rw [if_neg (fun h=>hn h.1)]
   repeat (first | (with_reducible refine Ans.bt ?_ ?_; exact rfl) | (with_reducible refine Ans.bf ?_ ?_; exact rfl) | (with_reducible refine Ans.ct ?_ ?_; focus (simp; done)) | (with_reducible refine Ans.cf ?_ ?_; focus (simp; done)) | refine Ans.step (by simp (disch:=(first | omega | (simp <;> omega) | fail)) [hlen,hn',-List.getD_eq_getElem?_getD] <;> rfl) ?_)
   refine .done ⟨rfl,rfl, ?_,rfl⟩
   simp (disch:=omega)
end Go.Proofs.Ytdodippbpdechaa

namespace Go.Ab
open Go
def GrA (c0:Nat) (h:FH) (c:Nat) (v:Value) (sz n:Nat) (L:List Value):Prop :=
 0<n/\L.length=n*sz/\n<=9223372036854775807/\L.all Z07=true /\ ∃ i op,v = .slice (some ⟨i,0,none⟩) n n/\256*c0<=i/\i<256*c/\h.f i=some (.cells false op L)/\(op=none ∨ op=some sz)
theorem GrA.mono {c0:Nat} {h:FH} {c c':Nat} {v:Value} {sz n:Nat} {L:List Value} (hc:c<=c') (ha:GrA c0 h c v sz n L):GrA c0 h c' v sz n L:=by
 obtain ⟨a,b,d,x,i,op,e,f,g,k⟩:=ha
 exact ⟨a,b,d,x,i,op,e,f,by omega,k⟩
theorem GrA.keep {c0:Nat} {h h':FH} {c:Nat} {v:Value} {sz n:Nat} {L:List Value} (ha:GrA c0 h c v sz n L) (hh:h'.f (Z0q v)=h.f (Z0q v)):GrA c0 h' c v sz n L:=by
 obtain ⟨a,b,d,x,i,op,rfl,f,g,k,l⟩:=ha
 exact ⟨a,b,d,x,i,op,rfl,f,g,hh.trans k,l⟩
theorem GrA.sl {c0:Nat} {h:FH} {c:Nat} {v:Value} {sz n:Nat} {L:List Int} (ha:GrA c0 h c v sz n (ints L)):SlI h c v sz n L:=by
 obtain ⟨a,b,d,x,i,op,rfl,f,g,k,l⟩:=ha
 rw [ints_length] at b
 refine ⟨b,d,some ⟨i,0,none⟩,n,rfl,.inr ⟨i,0,ints L,rfl,g,⟨false,op,k⟩, ?_⟩⟩
 rw [List.drop_zero,List.take_of_length_le (by simp [b])]
theorem GrA.blk {c0:Nat} {h:FH} {c:Nat} {v:Value} {sz n:Nat} {L:List Value} (ha:GrA c0 h c v sz n L):256*c0<=Z0q v/\Z0q v<256*c:=by
 obtain ⟨a,b,d,x,i,op,rfl,f,g,k,l⟩:=ha
 exact ⟨f,g⟩
theorem GrA.flat {c0:Nat} {h:FH} {c:Nat} {v:Value} {sz n:Nat} {L:List Value} (ha:GrA c0 h c v sz n L):Z07 v=true/\v.cells = #[v]:=by
 obtain ⟨a,b,d,x,i,op,rfl,f,g,k,l⟩:=ha
 exact ⟨rfl,rfl⟩
theorem GrA.len {c0:Nat} {h:FH} {c:Nat} {v:Value} {sz n:Nat} {L:List Value} (ha:GrA c0 h c v sz n L):Z2d v=some (.int .i64 n):=by
 obtain ⟨a,b,d,x,i,op,rfl,f,g,k,l⟩:=ha
 rfl
theorem GrA.app {c0:Nat} {h:FH} {c c':Nat} {v:Value} {sz n:Nat} {L:List Value} (ha:GrA c0 h c v sz n L) (X:List Value) (hX:X.length=sz) (hXf:X.all Z07=true) (hsz:0<sz) (by' b id:Nat) (hb:256*c<=b) (hid:256*c<=id) (hne:b ≠ id) (hc0:c0<=c)
 (hid':id<256*c') (hlim:(n+1)*(by'+1)<=17592186044416) :
 ∃ h',Z6e (newB h b X) id sz by' v (.slice (some ⟨b,0,none⟩) 1 1)=some (.slice (some ⟨id,0,none⟩) (n+1) (n+1),h')/\GrA c0 h' c' (.slice (some ⟨id,0,none⟩) (n+1) (n+1)) sz (n+1) (L++X)/\(∀ j,j<256*c->j ≠ Z0q v->h'.f j=h.f j):=by
 obtain ⟨h0,h1,h2,hf,i,op,rfl,h3,h4,h5,h8⟩:=ha
 have hlim':Nat.ble ((n+1)*(by'+1)) 17592186044416=true:=Nat.ble_eq_true_of_le hlim
 have hsrc:Z0A (newB h b X) sz (.slice (some ⟨b,0,none⟩) 1 1)=some (X,1):=by
  have:Nat.ble (0+1*sz) X.length=true:=Nat.ble_eq_true_of_le (by simp [hX])
  simp only [Z0A,Z0I,Z0k,get_newB_same,Option.bind_some,this,cond_true,List.drop_zero]
  rw [List.take_of_length_le (by simp [hX])]
 have hn1:n+1<=17592186044416:=by
  have:(n+1)*1<=(n+1)*(by'+1):=Nat.mul_le_mul_left _ qO
  omega
 have hcap:Nat.ble (n+1) n=false:=by rw [Bool.eq_false_iff]; intro hh; have:=Nat.le_of_ble_eq_true hh; omega
 have hbi:i ≠ b:=by omega
 have hg:HeapC.get (newB h b X) i=some (.cells false op L):=by rw [get_newB_ne _ _ _ _ hbi]; exact h5
 have hr:Nat.ble (0+n*sz) L.length=true:=Nat.ble_eq_true_of_le (by simp [h1])
 have ht:(L.drop 0).take (n*sz)=L:=by rw [List.drop_zero,List.take_of_length_le qO]
 rcases h8 with rfl | rfl
 · refine ⟨HeapC.set (newB h b X) id (.cells false (some sz) ((L.drop 0).take (n*sz)++X)), ?_,⟨by omega,by simp [h1,hX,Nat.succ_mul],by omega,by rw [List.all_append,hf,hXf]; rfl,id,some sz,rfl,by omega,hid',by rw [Z0b,if_pos rfl,ht],.inr rfl⟩, ?_⟩
   · simp only [Z6e,hsrc,Option.bind_some,appTo,hcap,cond_false,Z1M,hlim',hXf,Bool.and_self,cond_true,Z0I,Z0k,hg,hr]
   · intro j hj hv
     rw [Z0b,if_neg qO,Z01,if_neg qO]
 · refine ⟨HeapC.set (HeapC.set (newB h b X) i .dead) id (.cells false (some sz) ((L.drop 0).take (n*sz)++X)), ?_,⟨by omega,by simp [h1,hX,Nat.succ_mul],by omega,by rw [List.all_append,hf,hXf]; rfl,id,some sz,rfl,by omega,hid',by rw [Z0b,if_pos rfl,ht],.inr rfl⟩, ?_⟩
   · simp only [Z6e,hsrc,Option.bind_some,appTo,hcap,cond_false,Z1M,hlim',hXf,Bool.and_self,cond_true,Z0I,Z0k,hg,hr,Nat.beq_refl,Bool.not_false,Bool.and_true]
   · intro j hj hv
     rw [blkOf_sl] at hv
     rw [Z0b,if_neg qO,Z0b,if_neg hv,Z01,if_neg qO]
end Go.Ab

namespace Go.Proofs.Ytdodippbpdechaa
open Go Go.Ab Go.Proofs

theorem Zce {Gl:List Int} {n lab:Nat} {s:List Int} (hok:Z0v Gl n=true) (hG:Gl.length=n*20) (hl:lab<4) (hs:WOk n s):∀ {k:Nat},(∀ j,j<k->(it (wN Gl lab) s j).isSome=true)->(rgL Gl lab s k).length=k*5
 | 0,_=>rfl
 | k+1,h=>by
  obtain ⟨x,hx⟩:=Option.isSome_iff_exists.1 (h k qO)
  have hw:=Z1W (S:=WOk n) (Z1o hok hG hl) hs hx
  rw [Z7V hx,List.length_append,Zce hok hG hl hs fun j hj=>h j qO,hw.l]
  omega
theorem rgL_at {Gl:List Int} {n lab:Nat} {s x:List Int} (hok:Z0v Gl n=true) (hG:Gl.length=n*20) (hl:lab<4) (hs:WOk n s) {k:Nat} (hx:it (wN Gl lab) s k=some x):((rgL Gl lab s (k+1)).drop (k*5)).take 5=x:=by
 have hw:=Z1W (S:=WOk n) (Z1o hok hG hl) hs hx
 have hlen:=Zce hok hG hl hs (k:=k) fun j hj=>Z1e hx qO
 rw [Z7V hx,List.drop_append,List.drop_of_length_le qO,List.nil_append,hlen,Nat.sub_self,List.drop_zero,List.take_of_length_le (by rw [hw.l]; omega)]
structure RE (s:Value) (n:Nat) (Gl x0:List Int) (g0 fp c0 cb:Nat) (h:FH):Prop where
 g:h.f g0=some (.cells false none [s])
 f:h.f fp=some (.cells false none (ints x0))
 sl:SlI h cb s 20 n Gl
 ok:Z0v Gl n=true
 hn:n<=60
 x:WOk n x0
 lg:g0<256*c0
 lf:fp<256*c0
 lb:cb<=c0
theorem RE.keep {s:Value} {n:Nat} {Gl x0:List Int} {g0 fp c0 cb:Nat} {h h':FH} (e:RE s n Gl x0 g0 fp c0 cb h) (hs:Z0s c0 h h'):RE s n Gl x0 g0 fp c0 cb h' :=
 ⟨(hs _ e.lg).trans e.g,(hs _ e.lf).trans e.f,e.sl.same (hs.mono e.lb),e.ok,e.hn,e.x,e.lg,e.lf,e.lb⟩

theorem Z8d {h:FH} {b:Nat} {v:Value} (hf:h.f b=some (.cells false none [v])) (h1:v.cells = #[v]) (h2:Z07 v=true):stN h 1 (.pointer (some ⟨b,0,none⟩)) v=some h:=by
 rw [Z11 (show HeapC.get h b=_ from hf) (by simp) h1 h2]
 congr 1
 apply FH.ext; intro j
 rw [Z0b]; split
 · rename_i e; rw [e,hf]; rfl
 · rfl
theorem Zgp {h:FH} {b:Nat} {v w:Value} (hf:h.f b=some (.cells false none [w])) (h1:v.cells = #[v]) (h2:Z07 v=true):stN h 1 (.pointer (some ⟨b,0,none⟩)) v=some (newB h b [v]):=by
 rw [Z11 (show HeapC.get h b=_ from hf) (by simp) h1 h2]
 rfl
theorem Z1I {h:FH} {b:Nat} {v:Value} (hf:h.f b=some (.cells false none [v])):ld1 h (.pointer (some ⟨b,0,none⟩))=some v:=by
 rw [Z02 (cs:=[v]) ⟨false,none,hf⟩]; rfl
theorem Z7q (s:Value) (x:List Int) (lab:Int) (h:FH) (c:Nat) (hs:Z07 s=true):callF G 57 [.agg #[s],av x,.int .i64 lab] h c=some (.func (.func 78) [].toArray [ptrTo (256*c+1),ptrTo (256*c),ptrTo (256*c+2)].toArray,newB (newB (newB h (256*c) [s]) (256*c+1) (ints x)) (256*c+2) [.int .i64 lab],c+1+1):=by
 refine Z0c (f57_go (r:=⟨.ret,[_],_,_,[]⟩) ?_)
 unfold Znh
 have Z6b:((Value.agg #[s]).cells.toList.all Z07)=true:=by simp [Value.cells,hs]
 have Z6d:(Value.agg #[s]).cells.toList=[s]:=rfl
 have flat2:((av x).cells.toList.all Z07)=true:=by simp
 rw [Z6b,flat2,Z6d,Z1y]
 rfl
def RgO (Gl x0 y:List Int) (k:Nat):Prop:=(∃ m,it (wN Gl 2) x0 m=none)/\(∃ i,it (wN Gl 3) x0 i=some y/\it (wN Gl 3) x0 (i+1)=none) /\ ∃ x,it (wN Gl 2) y k=some x/\it (wN Gl 2) y (k+1)=none
def RgA (c0:Nat) (h:FH) (c:Nat) (ov:Value) (cl:Bool) (e t:Int) (p:List Int) (n:Nat) (Gl:List Int):Prop :=
 (Z0v Gl n=false/\ov = .slice none 0 0/\cl=false/\e=7) ∨ (Z0v Gl n=true /\ ¬ (0<=t/\t<n/\Z0N p=true)/\ov = .slice none 0 0/\cl=false/\e=1) ∨
 (Z0v Gl n=true/\(0<=t/\t<n/\Z0N p=true)/\e=0/\((cl=true /\ ∃ k,RgC Gl (t::p) 2 k/\GrC c0 h c ov 5 k (ints (rgL Gl 2 (t::p) k))) ∨ (cl=false /\ ∃ y k,RgO Gl (t::p) y k/\GrC c0 h c ov 5 (k+1) (ints (rgL Gl 2 y (k+1))))))
theorem Zma {s:Value} {n:Nat} {Gl x:List Int} {lab cb c:Nat} {M:FH} (sl:SlI M cb s 20 n Gl) (hc:cb<=c) (ok:Z0v Gl n=true) (hn:n<=60) (hx:WOk n x) (l4:lab<4) :
 WC s n Gl x lab (256*c+1) (256*c) (256*c+2) cb (c+1+1) (newB (newB (newB M (256*c) [s]) (256*c+1) (ints x)) (256*c+2) [.int .i64 lab]):=by
 refine ⟨?_,⟨false,none, ?_⟩,⟨false,none, ?_⟩,by omega,by omega,by omega,by omega,sl.same fun j hj=>?_,ok,hn,hx,l4⟩
 · rw [Z01,if_neg qO,Z01,if_pos rfl]
 · show FH.f (newB _ _ _) _=_
   rw [Z01,if_neg qO,Z01,if_neg qO,Z01,if_pos rfl]
 · show FH.f (newB _ _ _) _=_
   rw [Z01,if_pos rfl]
 · rw [Z01,if_neg qO,Z01,if_neg qO,Z01,if_neg qO]
theorem Zc4 (M:FH) (c:Nat) (s:Value) (x:List Int) (v:Value) {j:Nat} (hj:j<256*c):(newB (newB (newB M (256*c) [s]) (256*c+1) (ints x)) (256*c+2) [v]).f j=M.f j:=by
 rw [Z01,if_neg qO,Z01,if_neg qO,Z01,if_neg qO]
set_option maxHeartbeats 2000000 in
theorem Zig (s:Value) (n:Nat) (Gl:List Int) (t:Int) (p:List Int) (hp:p.length=4) (h:FH) (c:Nat) (df:List Nat) (hs:SlI h c s 20 n Gl) (hn:n<=60) :
 Ans (G (.fn 29) [.agg #[s],.int .i64 t,av p] h c df) fun r=>∃ ov cl e,r=⟨.ret,[.tuple #[ov,.bool cl,.int .i64 e]],r.h,r.c,[]⟩/\c<=r.c/\Z0s c h r.h/\RgA c r.h r.c ov cl e t p n Gl:=by
 refine Ans.call' (fun r e=>f29_go e) ?_
 have hsf:=hs.flat
 have Z6b:((Value.agg #[s]).cells.toList.all Z07)=true:=by simp [Value.cells,hs.flat]
 have Z6d:(Value.agg #[s]).cells.toList=[s]:=rfl
 have flat2:((av p).cells.toList.all Z07)=true:=by simp
 unfold Znr
 rw [Z6b,flat2,Z6d,Z1y]
 simp only [cond_true,Nat.add_zero]
 obtain ⟨g0,hg0⟩:∃ b,256*c=b:=⟨_,rfl⟩
 obtain ⟨p0,hp0⟩:∃ b,256*c+1=b:=⟨_,rfl⟩
 obtain ⟨rp,hrp⟩:∃ b,256*c+2=b:=⟨_,rfl⟩
 obtain ⟨tp,htp⟩:∃ b,256*c+3=b:=⟨_,rfl⟩
 obtain ⟨ep,hep⟩:∃ b,256*c+4=b:=⟨_,rfl⟩
 rw [hp0,hrp,htp,hep,hg0]
 obtain ⟨M,hM⟩:∃ M,newB (newB (newB (newB (newB h g0 [s]) p0 (ints p)) rp [.slice none 0 0]) tp [.bool false]) ep [.int .i64 0]=M:=⟨_,rfl⟩
 rw [hM]
 have Mf:∀ j,M.f j=if j=ep then some (.cells false none [.int .i64 0]) else if j=tp then some (.cells false none [.bool false]) else if j=rp then some (.cells false none [.slice none 0 0]) else if j=p0 then some (.cells false none (ints p)) else if j=g0 then some (.cells false none [s]) else h.f j:=fun j=>by rw [← hM,Z01,Z01,Z01,Z01,Z01]
 have sM:Z0s c h M:=fun j hj=>by rw [Mf,if_neg qO,if_neg qO,if_neg qO,if_neg qO,if_neg qO]
 have Mg:M.f g0=some (.cells false none [s]):=by rw [Mf,if_neg qO,if_neg qO,if_neg qO,if_neg qO,if_pos rfl]
 have Mp:M.f p0=some (.cells false none (ints p)):=by rw [Mf,if_neg qO,if_neg qO,if_neg qO,if_pos rfl]
 have Mr:M.f rp=some (.cells false none [.slice none 0 0]):=by rw [Mf,if_neg qO,if_neg qO,if_pos rfl]
 have Mt:M.f tp=some (.cells false none [.bool false]):=by rw [Mf,if_neg qO,if_pos rfl]
 have Me:M.f ep=some (.cells false none [.int .i64 0]):=by rw [Mf,if_pos rfl]
 have slM:SlI M c s 20 n Gl:=hs.same sM
 have l0:ldN M 1 (.pointer (some ⟨g0,0,none⟩))=some (.agg #[s]):=Z1m (cs:=[]) ⟨false,none,Mg⟩
 have ck:=Z0c (Zbh s n Gl M (c+1+1) [] (slM.mono qO))
 have w1:=Z8d Mr rfl rfl
 have w2:=Z8d Mt rfl rfl
 have r1:=Z1I Mr
 have r2:=Z1I Mt
 have hE:∀ v:Int,∃ E,stN M 1 (.pointer (some ⟨ep,0,none⟩)) (.int .i64 v)=some E/\E.f ep=some (.cells false none [.int .i64 v]) /\ ∀ j,j ≠ ep->E.f j=M.f j:=fun v=>⟨_,Zgp Me rfl rfl,by rw [Z01,if_pos rfl],fun j hj=>by rw [Z01,if_neg hj]⟩
 have fail:∀ (k:Nat) (v:Int),c<=k -> ∃ E,stN M 1 (.pointer (some ⟨ep,0,none⟩)) (.int .i64 v)=some E/\ld1 E (.pointer (some ⟨rp,0,none⟩))=some (.slice none 0 0)/\ld1 E (.pointer (some ⟨tp,0,none⟩))=some (.bool false)/\ld1 E (.pointer (some ⟨ep,0,none⟩))=some (.int .i64 v)/\Z0s c h E:=fun k v hk=>by
  obtain ⟨E,e1,e2,e3⟩:=hE v
  exact ⟨E,e1,Z1I ((e3 rp qO).trans Mr),Z1I ((e3 tp qO).trans Mt),Z1I e2,fun j hj=>(e3 j qO).trans (sM j hj)⟩
 by_cases hok:Z0v Gl n=true
 · rw [if_pos ⟨by omega,hok⟩] at ck
   have g1:=Z1I Mg
   have len:=hs.len
   have l4:ldN M 4 (.pointer (some ⟨p0,0,none⟩))=some (av p):=Z1r Mp (by rw [ints_length,hp])
   have cv:=Z16 p hp M (c+1+1+1)
   obtain ⟨E1,f1,f2,f3,f4,f5⟩:=fail (c+1+1+1) 1 qO
   by_cases h1:t<0
   · have fx:=ai l0 (ai ck (ai w1 (ai w2 (ai f1 (ai f2 (ai f3 f4))))))
     refine Ans.go ?_
     clear fx
     exact .done ⟨_,false,1,rfl,by dsimp only; omega,f5,.inr (.inl ⟨hok,by omega,rfl,rfl,rfl⟩)⟩
   by_cases h2:(n:Int)<=t
   · have fx:=ai l0 (ai ck (ai g1 (ai len (ai w1 (ai w2 (ai f1 (ai f2 (ai f3 f4))))))))
     refine Ans.go ?_
     clear fx
     exact .done ⟨_,false,1,rfl,by dsimp only; omega,f5,.inr (.inl ⟨hok,by omega,rfl,rfl,rfl⟩)⟩
   by_cases h3:Z0N p=true
   · rw [h3] at cv
     have hp24:=Z9b hp h3
     obtain ⟨u,rfl⟩:∃ u:Nat,t=u:=⟨t.toNat,by omega⟩
     have hx:WOk n ((u:Int)::p):=WOk.mk' qO hp24
     obtain ⟨x0,hx0⟩:∃ x,(u:Int)::p=x:=⟨_,rfl⟩
     have b5:Z1z z5 [(0,1,.int .i64 u),(1,4,av p)]=some (av x0):=by
      rw [← hx0]
      match p,hp with
      | [a,b,d,e],_=>rfl
     rw [hx0] at hx
     have hx5:=hx.l
     obtain ⟨fp,hfp⟩:∃ b,256*(c+1+1+1)+3=b:=⟨_,rfl⟩
     have st:stN (newB M fp z5) 5 (.pointer (some ⟨fp,0,none⟩)) (av x0)=some (newB M fp (ints x0)):=stN_all _ _ 5 _ _ hx5 rfl
     obtain ⟨A,hA⟩:∃ A,newB M fp (ints x0)=A:=⟨_,rfl⟩
     rw [hA] at st
     have Af:∀ j,j ≠ fp->A.f j=M.f j:=fun j hj=>by rw [← hA,Z01,if_neg hj]
     have Afp:A.f fp=some (.cells false none (ints x0)):=by rw [← hA,Z01,if_pos rfl]
     have a0:ldN A 1 (.pointer (some ⟨g0,0,none⟩))=some (.agg #[s]):=Z1m (cs:=[]) ⟨false,none,(Af g0 qO).trans Mg⟩
     have a5:ldN A 5 (.pointer (some ⟨fp,0,none⟩))=some (av x0):=Z1r Afp (by rw [ints_length,hx5])
     have slA:SlI A c s 20 n Gl:=slM.same fun j hj=>Af j qO
     have cw1:=Z7q s x0 2 A (c+1+1+1+1+1) hsf
     have W1:WC s n Gl x0 2 _ _ _ c (c+1+1+1+1+1+1+1) _:=Zma (c:=c+1+1+1+1+1) slA qO hok hn hx qO
     have B1:=fun j hj=>Zc4 A (c+1+1+1+1+1) s x0 (.int .i64 (2:Nat)) (j:=j) hj
     obtain ⟨B,hB⟩:∃ B,newB (newB (newB A (256*(c+1+1+1+1+1)) [s]) (256*(c+1+1+1+1+1)+1) (ints x0)) (256*(c+1+1+1+1+1)+2) [.int .i64 (2:Nat)]=B:=⟨_,rfl⟩
     have hB':newB (newB (newB A (256*(c+1+1+1+1+1)) [s]) (256*(c+1+1+1+1+1)+1) (ints x0)) (256*(c+1+1+1+1+1)+2) [.int .i64 2]=B:=hB
     rw [hB'] at cw1
     rw [hB] at W1
     simp only [hB] at B1
     obtain ⟨⟨e1,Q,k1,d1⟩,hq1,y1,y2,y3,y4,y5⟩:=Zfb (rp:=rp) (tp:=tp) (ep:=ep) (fp:=fp) W1 qO qO qO qO qO qO qO qO qO qO qO qO
      (by rw [B1 _ qO,Af _ qO]; exact Mr) (by rw [B1 _ qO,Af _ qO]; exact Mt) (by rw [B1 _ qO,Af _ qO]; exact Me) ⟨false,none,by show B.f fp=_; rw [B1 _ qO]; exact Afp⟩ []
     dsimp only at y1 y2 y3 y4 y5
     subst y2
     have low1:∀ j,j<256*(c+1+1+1)->j ≠ rp->j ≠ tp->Q.f j=M.f j:=fun j hj q1 q2=>by rw [y4 j qO q1 q2,B1 j qO,Af j qO]
     rw [show [Value.int .i64 0,Value.int .i64 0,Value.int .i64 0,Value.int .i64 0,Value.int .i64 0]=z5 from rfl]
     obtain ⟨Z,hZ⟩:∃ Z,z5=Z:=⟨_,rfl⟩
     rcases y5 with ⟨rfl,z1,k,ov,z2,z3,z4⟩ | ⟨rfl,z1,m,ov,z2,z3,z4,z5'⟩
     · obtain ⟨Q',t1,t2⟩:=Z6T (df:=[256*(c+1+1+1+1+1+1+1)+1]) (h:=Q) (by simp) (fun d hd=>by simp only [List.mem_singleton] at hd; rw [hd]; exact y3)
       have t2':∀ j,j ≠ 256*(c+1+1+1+1+1+1+1)+1->Q'.f j=Q.f j:=fun j hj=>t2 j (by simpa using hj)
       have v1:=Z1I ((t2' rp qO).trans z3)
       have v2:=Z1I ((t2' tp qO).trans z1)
       have v3:=Z1I ((t2' ep qO).trans ((low1 ep qO qO qO).trans Me))
       rw [hZ] at b5 st ⊢
       have fx:=ai l0 (ai ck (ai g1 (ai len (ai l4 (ai cv (ai b5 (ai hfp (ai st (ai a0 (ai a5 (ai cw1 (ai hq1 (ai t1 (ai v1 (ai v2 v3)))))))))))))))
       refine Ans.go ?_
       clear fx
       refine .done ⟨ov,true,0,rfl,by dsimp only; omega,fun j hj=>?_,.inr (.inr ⟨hok,⟨by omega,by omega,h3⟩,rfl,.inl ⟨rfl,k, ?_, ?_⟩⟩)⟩
       · show Q'.f j=_
         rw [t2' j qO,low1 j qO qO qO]; exact sM j hj
       · rw [hx0]; exact z2
       · rw [hx0]
         refine Z4L (c1:=c+1+1+1+1+1+1+1) (z4.keep fun hv=>t2' _ fun e=>?_) qO
         rcases z4 with ⟨q,_⟩ | ⟨_,_,_,_,i,rfl,_,_,q⟩
         · exact hv q
         · rw [blkOf_sl] at e
           rw [e,y3] at q; cases q
     · -- the walk meets a free face
       have hxQ:Q.f fp=some (.cells false none (ints x0)):=by rw [y4 fp qO qO qO,B1 fp qO]; exact Afp
       have qa:ldN Q 5 (.pointer (some ⟨fp,0,none⟩))=some (av x0):=Z1r hxQ (by rw [ints_length,hx5])
       obtain ⟨sp,hsp⟩:∃ b,256*k1+1=b:=⟨_,rfl⟩
       have st2:stN (newB Q sp z5) 5 (.pointer (some ⟨sp,0,none⟩)) (av x0)=some (newB Q sp (ints x0)):=stN_all _ _ 5 _ _ hx5 rfl
       obtain ⟨A2,hA2⟩:∃ A,newB Q sp (ints x0)=A:=⟨_,rfl⟩
       rw [hA2] at st2
       have A2f:∀ j,j ≠ sp->A2.f j=Q.f j:=fun j hj=>by rw [← hA2,Z01,if_neg hj]
       have A2s:A2.f sp=some (.cells false none (ints x0)):=by rw [← hA2,Z01,if_pos rfl]
       have Qg:Q.f g0=some (.cells false none [s]):=(low1 g0 qO qO qO).trans Mg
       have q0:ldN A2 1 (.pointer (some ⟨g0,0,none⟩))=some (.agg #[s]):=Z1m (cs:=[]) ⟨false,none,(A2f g0 qO).trans Qg⟩
       have q5:ldN A2 5 (.pointer (some ⟨fp,0,none⟩))=some (av x0):=Z1r ((A2f fp qO).trans hxQ) (by rw [ints_length,hx5])
       have slA2:SlI A2 c s 20 n Gl:=slM.same fun j hj=>(A2f j qO).trans (low1 j qO qO qO)
       have cw2:=Z7q s x0 3 A2 (k1+1+1) hsf
       have W2:WC s n Gl x0 3 _ _ _ c (k1+1+1+1+1) _:=Zma (c:=k1+1+1) slA2 qO hok hn hx qO
       have B2:=fun j hj=>Zc4 A2 (k1+1+1) s x0 (.int .i64 (3:Nat)) (j:=j) hj
       obtain ⟨C,hC⟩:∃ B,newB (newB (newB A2 (256*(k1+1+1)) [s]) (256*(k1+1+1)+1) (ints x0)) (256*(k1+1+1)+2) [.int .i64 (3:Nat)]=B:=⟨_,rfl⟩
       have hC':newB (newB (newB A2 (256*(k1+1+1)) [s]) (256*(k1+1+1)+1) (ints x0)) (256*(k1+1+1)+2) [.int .i64 3]=C:=hC
       rw [hC'] at cw2
       rw [hC] at W2
       simp only [hC] at B2
       obtain ⟨m3,m31,m32⟩:=ZmK (f:=wN Gl 2) (b:=wN Gl 3) (S:=WOk n) (cd:=wCd) (N:=256*n) (Z1o hok hs.1 qO) (Z1o hok hs.1 qO) Zbr Z82 (Z4D hok hs.1 (lab:=2) (lab':=3) qO qO rfl) (Z4D hok hs.1 (lab:=3) (lab':=2) qO qO rfl) hx z2
       obtain ⟨⟨e2,Q2,k2,d2⟩,hq2,i,y,rfl,x2,rfl,x4,x5,x6,x7,x8⟩:=Zfc (sp:=sp) W2 qO qO qO qO qO ((B2 sp qO).trans A2s) m32 [256*(c+1+1+1+1+1+1+1)+1]
       dsimp only at x2 x4 x5 x8
       have hy:WOk n y:=Z1W (S:=WOk n) (Z1o hok hs.1 qO) hx x6
       have hy5:=hy.l
       have low2:∀ j,j<256*k1->j ≠ sp->Q2.f j=Q.f j:=fun j hj q1=>by rw [x5 j qO q1,B2 j qO,A2f j q1]
       have Q2r:Q2.f rp=some (.cells false none [ov]):=(low2 rp qO qO).trans z3
       have st3:=Zgp (v:=.slice none 0 0) Q2r rfl rfl
       obtain ⟨D,hD⟩:∃ D,newB Q2 rp [.slice none 0 0]=D:=⟨_,rfl⟩
       rw [hD] at st3
       have Df:∀ j,j ≠ rp->D.f j=Q2.f j:=fun j hj=>by rw [← hD,Z01,if_neg hj]
       have Dr:D.f rp=some (.cells false none [.slice none 0 0]):=by rw [← hD,Z01,if_pos rfl]
       have D1:∀ j,j<256*(c+1+1+1)->j ≠ rp->j ≠ tp->D.f j=M.f j:=fun j hj q1 q2=>by rw [Df j q1,low2 j qO qO,low1 j hj q1 q2]
       have u0:ldN D 1 (.pointer (some ⟨g0,0,none⟩))=some (.agg #[s]):=Z1m (cs:=[]) ⟨false,none,(D1 g0 qO qO qO).trans Mg⟩
       have u5:ldN D 5 (.pointer (some ⟨sp,0,none⟩))=some (av y):=Z1r ((Df sp qO).trans x8) (by rw [ints_length,hy5])
       have slD:SlI D c s 20 n Gl:=slM.same fun j hj=>D1 j qO qO qO
       have cw3:=Z7q s y 2 D (k2+1+1) hsf
       have W3:WC s n Gl y 2 _ _ _ c (k2+1+1+1+1) _:=Zma (c:=k2+1+1) slD qO hok hn hy qO
       have B3:=fun j hj=>Zc4 D (k2+1+1) s y (.int .i64 (2:Nat)) (j:=j) hj
       obtain ⟨F,hF⟩:∃ B,newB (newB (newB D (256*(k2+1+1)) [s]) (256*(k2+1+1)+1) (ints y)) (256*(k2+1+1)+2) [.int .i64 (2:Nat)]=B:=⟨_,rfl⟩
       have hF':newB (newB (newB D (256*(k2+1+1)) [s]) (256*(k2+1+1)+1) (ints y)) (256*(k2+1+1)+2) [.int .i64 2]=F:=hF
       rw [hF'] at cw3
       rw [hF] at W3
       simp only [hF] at B3
       have y3n:wN Gl 3 y=none:=by
        have:=x7
        rw [it,x6] at this; exact this
       obtain ⟨m4,m41,m42⟩:=Zeg (f:=wN Gl 2) (S:=WOk n) (cd:=wCd) (N:=256*n) (Z1o hok hs.1 qO) Zbr Z82 (Zdh hok hs.1 qO) hy (fun a ha e=>by
        have:=Z4D hok hs.1 (lab:=2) (lab':=3) qO qO rfl a y ha e
        rw [y3n] at this; cases this)
       obtain ⟨⟨e3,Q3,k3,d3⟩,hq3,k,x,ow,rfl,j2,rfl,j4,j5,j6,j7,j8,j9⟩:=ZgG (rp:=rp) W3 qO qO qO qO qO ((B3 rp qO).trans Dr) m42 qO [256*(k1+1+1+1+1)+1,256*(c+1+1+1+1+1+1+1)+1]
       dsimp only at j2 j4 j5 j8 j9
       have low3:∀ j,j<256*k2->j ≠ rp->Q3.f j=Q2.f j:=fun j hj q1=>by rw [j5 j qO q1,B3 j qO,Df j q1]
       have v0:=Z1I j8
       have v1:=Z8d j8 j9.flat.2 j9.flat.1
       have Q3t:Q3.f tp=some (.cells false none [.bool false]):=by rw [low3 tp qO qO,low2 tp qO qO]; exact z1
       have v2:=Z8d Q3t rfl rfl
       have Q3e:Q3.f ep=some (.cells false none [.int .i64 0]):=by rw [low3 ep qO qO,low2 ep qO qO,low1 ep qO qO qO]; exact Me
       have v3:=Z8d Q3e rfl rfl
       obtain ⟨Q',t1,t2⟩:=Z6T (df:=[256*(k2+1+1+1+1)+1,256*(k1+1+1+1+1)+1,256*(c+1+1+1+1+1+1+1)+1]) (h:=Q3) (by simp; omega) (fun d hd=>by
        simp only [List.mem_cons,List.not_mem_nil,or_false] at hd
        rcases hd with rfl | rfl | rfl
        · exact j4
        · exact (low3 (256*(k1+1+1+1+1)+1) qO qO).trans x4
        · exact ((low3 (256*(c+1+1+1+1+1+1+1)+1) qO qO).trans (low2 (256*(c+1+1+1+1+1+1+1)+1) qO qO)).trans y3)
       have t2':∀ j,j<256*(c+1+1+1)->Q'.f j=Q3.f j:=fun j hj=>t2 j (by simp; omega)
       have v4:=Z1I ((t2' rp qO).trans j8)
       have v5:=Z1I ((t2' tp qO).trans Q3t)
       have v6:=Z1I ((t2' ep qO).trans Q3e)
       rw [hZ] at b5 st st2 ⊢
       have fx:=ai l0 (ai ck (ai g1 (ai len (ai l4 (ai cv (ai b5 (ai hfp (ai st (ai a0 (ai a5 (ai cw1 (ai hq1 (ai qa (ai hsp (ai st2 (ai q0 (ai q5 (ai cw2 (ai hq2 (ai st3 (ai u0 (ai u5 (ai cw3 (ai hq3 (ai v0 (ai v1 (ai v2 (ai v3 (ai t1 (ai v4 (ai v5 v6)))))))))))))))))))))))))))))))
       refine Ans.go ?_
       clear fx
       refine .done ⟨ow,false,0,rfl,by dsimp only; omega,fun j hj=>?_,.inr (.inr ⟨hok,⟨by omega,by omega,h3⟩,rfl,.inr ⟨rfl,y,k, ?_, ?_⟩⟩)⟩
       · show Q'.f j=_
         rw [t2' j qO,low3 j qO qO,low2 j qO qO,low1 j qO qO qO]; exact sM j hj
       · rw [hx0]; exact ⟨⟨m,z2⟩,⟨i,x6,x7⟩,x,j6,j7⟩
       · refine Z4L (c1:=k2+1+1+1+1) ((j9.mono (show k3<=k3+1 by omega)).keep fun hv=>t2 _ ?_) qO
         have hb:=(j9.blk hv).1
         rcases j9 with ⟨q,_⟩ | ⟨_,_,_,_,i,rfl,_,_,q⟩
         · exact absurd q hv
         · rw [blkOf_sl] at hb ⊢
           simp only [List.mem_cons,List.not_mem_nil,or_false,not_or]
           refine ⟨fun e=>?_,by omega,by omega⟩
           rw [e,j4] at q; cases q
   · have cv':Z0N p=false:=by simpa using h3
     rw [cv'] at cv
     have fx:=ai l0 (ai ck (ai g1 (ai len (ai l4 (ai cv (ai w1 (ai w2 (ai f1 (ai f2 (ai f3 f4))))))))))
     refine Ans.go ?_
     clear fx
     exact .done ⟨_,false,1,rfl,by dsimp only; omega,f5,.inr (.inl ⟨hok,fun z=>h3 z.2.2,rfl,rfl,rfl⟩)⟩
 · rw [if_neg (fun z=>hok z.2)] at ck
   obtain ⟨E1,f1,f2,f3,f4,f5⟩:=fail (c+1+1+1) 7 qO
   have fx:=ai l0 (ai ck (ai w1 (ai w2 (ai f1 (ai f2 (ai f3 f4))))))
   refine Ans.go ?_
   clear fx
   exact .done ⟨_,false,7,rfl,by dsimp only; omega,f5,.inl ⟨by simpa using hok,rfl,rfl,rfl⟩⟩

end Go.Proofs.Ytdodippbpdechaa

namespace Go.Ab
open Go
theorem Zit {p:Nat->Prop} [DecidablePred p] {N b:Nat} (hb:b<N) (h:p b) (hu:∀ a,a<N->p a->a=b):Z3X (fun a=>if p a then 1 else 0) N=1:=by
 have:Z3X (fun a=>if p a then (1:Int) else 0) N=Z3X (fun a=>if a=b then (1:Int) else 0) N:=Z1h fun a ha=>by
  by_cases e:a=b
  · subst e; rw [if_pos h,if_pos rfl]
  · rw [if_neg (fun q=>e (hu a ha q)),if_neg e]
 rw [this,Z3J (fun _=>1) b,if_pos hb]
theorem Zgn {p:Nat->Prop} [DecidablePred p] {N:Nat} (h:∀ a,a<N -> ¬ p a):Z3X (fun a=>if p a then (1:Int) else 0) N=0:=by
 rw [Z1h (g:=fun _=>0) fun a ha=>if_neg (h a ha),Z89]
def cl (C:List Int) (x:Nat):Nat:=Z5e C (Z06 C x)
section
variable {C:List Int} {m:Nat} (hd:Z49 C m)
 include hd
theorem Zcc {x:Nat} (hx:x<m):Z06 C x<m:=by have:=Z2H hd hx; omega
theorem cl_lt {x:Nat} (hx:x<m):cl C x<Z5e C m:=Zhk (Zcc hd hx) (Z4c hd hx)
theorem Zi2 {x y:Nat} (hx:x<m) (hy:y<m):cl C x=cl C y ↔ Z06 C x=Z06 C y :=
 ⟨fun e=>Zkv (Zcc hd hx) (Zcc hd hy) (Z4c hd hx) (Z4c hd hy) e,fun e=>by unfold cl; rw [e]⟩
theorem ZnJ {r:Nat} (hr:r<m) (e:Z06 C r=r):cl C r=Z5e C r:=by unfold cl; rw [e]
theorem ZnI {v:Nat} (hv:v<Z5e C m):∃ r,r<m/\Z06 C r=r/\cl C r=v:=by
 have hl:v<(Z1J C m).length:=hv
 have hm:=List.getElem_mem hl
 obtain ⟨k,h1,h2,h3⟩:=Zct hm
 refine ⟨k,h2,h3, ?_⟩
 rw [ZnJ hd h2 h3]
 exact Z8K (m:=m) (by rw [List.getElem?_eq_getElem hl,h1])
end
theorem Zcr (C:List Int) {m k:Nat} (h:k<m):(ZbJ C m).getD k 0=(cl C k:Nat):=Z8u C h
structure GB (Gl:List Int) (n t f:Nat):Prop where
 u:fU Gl t f<n
 j:∀ i,i<4->fJ Gl t f i<4
 inj:∀ i k,i<4->k<4->fJ Gl t f i=fJ Gl t f k->i=k
 ne:¬ (fU Gl t f=t/\fJ Gl t f f=f)
 g:¬ Z0x (Z03 Gl (fU Gl t f) (fJ Gl t f f))<0
 bu:fU Gl (fU Gl t f) (fJ Gl t f f)=t
 bj:∀ i,i<4->fJ Gl (fU Gl t f) (fJ Gl t f f) (fJ Gl t f i)=i
theorem Z20 {Gl:List Int} {n t f:Nat} (hok:Z0v Gl n=true) (hG:Gl.length=n*20) (ht:t<n) (hf:f<4) (hg:¬ Z0x (Z03 Gl t f)<0):GB Gl n t f:=by
 obtain ⟨k1,k2,k3,k4⟩:=Z0Y (Z1s hok ht hf) hg
 have hp:=Z9b (Z0X (Z0j hG ht hf)) k2
 have hJ:∀ i,i<4->(Z0d (Z03 Gl t f)).getD i 0=(fJ Gl t f i:Nat)/\fJ Gl t f i<4:=fun i hi=>by
  have:=Z2c hp hi
  unfold fJ; omega
 have hfl:=hJ f hf
 have hU:Z0x (Z03 Gl t f)=(fU Gl t f:Nat):=by unfold fU; omega
 have hb:Z03 Gl (fU Gl t f) (fJ Gl t f f)=(t:Int)::inv (Z0d (Z03 Gl t f)):=k4
 have h4:=Z44 (inv24 hp)
 have hp':Z0d ((t:Int)::inv (Z0d (Z03 Gl t f)))=inv (Z0d (Z03 Gl t f)):=by
  show (inv _).take 4=_
  exact List.take_of_length_le qO
 refine ⟨by omega,fun i hi=>(hJ i hi).2,fun i k hi hk e=>?_,fun ⟨e1,e2⟩=>k3 ⟨by omega,by omega⟩, ?_, ?_,fun i hi=>?_⟩
 · by_cases z:i=k
   · exact z
   · have:=Zik hp hi hk z
     have:=hJ i hi
     have:=hJ k hk
     omega
 · rw [hb]
   show ¬ (t:Int)<0
   omega
 · rw [fU,hb]
   show ((t:Int)).toNat=t
   omega
 · rw [fJ,hb,hp']
   have e:(Z0S (inv (Z0d (Z03 Gl t f))) (Z0d (Z03 Gl t f))).getD i 0=[0,1,2,3].getD i (0:Int):=by rw [Zej hp]
   rw [Z1L (Z44 hp) hi,(hJ i hi).1,Int.toNat_natCast] at e
   rw [e]
   match i,hi with
   | 0,_=>rfl
   | 1,_=>rfl
   | 2,_=>rfl
   | 3,_=>rfl
section
variable {Gl:List Int} {n:Nat} {p:Nat × Nat}
theorem Z0E {α:Type} {c:Prop} [Decidable c] {x:α} {l:List α}:x ∈ (if c then [] else l) ↔ ¬ c/\x ∈ l:=by
 by_cases h:c
 · rw [if_pos h]; simp [h]
 · rw [if_neg h]; simp [h]
theorem Z40 {α:Type} {c:Prop} [Decidable c] {x y:α}:x ∈ (if c then [y] else []) ↔ c/\x=y:=by
 by_cases h:c
 · rw [if_pos h]; simp [h]
 · rw [if_neg h]; simp [h]
theorem ZlJ:p ∈ vP Gl n ↔ ∃ t f i,t<n/\f<4/\i<4 /\ ¬ Z0x (Z03 Gl t f)<0/\i ≠ f/\p=(4*t+i,4*fU Gl t f+fJ Gl t f i):=by
 unfold vP vT vF vI
 constructor
 · intro h
   obtain ⟨t,ht,h⟩:=Z0P.1 h
   obtain ⟨f,hf,h⟩:=Z0P.1 h
   obtain ⟨h1,h⟩:=Z0E.1 h
   obtain ⟨i,hi,h⟩:=Z0P.1 h
   obtain ⟨h2,h3⟩:=Z0E.1 h
   exact ⟨t,f,i,ht,hf,hi,h1,h2,List.mem_singleton.1 h3⟩
 · rintro ⟨t,f,i,ht,hf,hi,h1,h2,rfl⟩
   exact Z0P.2 ⟨t,ht,Z0P.2 ⟨f,hf,Z0E.2 ⟨h1,Z0P.2 ⟨i,hi,Z0E.2 ⟨h2,by simp⟩⟩⟩⟩⟩
theorem ZgY:p ∈ dP Gl n ↔ ∃ t f i j,t<n/\f<4/\i<4/\j<4 /\ ¬ Z0x (Z03 Gl t f)<0/\i ≠ f/\j ≠ f/\j ≠ i/\p=(16*t+4*i+j,16*fU Gl t f+4*fJ Gl t f i+fJ Gl t f j):=by
 unfold dP dT dF dI dJ
 constructor
 · intro h
   obtain ⟨t,ht,h⟩:=Z0P.1 h
   obtain ⟨f,hf,h⟩:=Z0P.1 h
   obtain ⟨h1,h⟩:=Z0E.1 h
   obtain ⟨i,hi,h⟩:=Z0P.1 h
   obtain ⟨h2,h⟩:=Z0E.1 h
   obtain ⟨j,hj,h⟩:=Z0P.1 h
   obtain ⟨h3,h4⟩:=Z40.1 h
   exact ⟨t,f,i,j,ht,hf,hi,hj,h1,h2,h3.1,h3.2,h4⟩
 · rintro ⟨t,f,i,j,ht,hf,hi,hj,h1,h2,h3,h4,rfl⟩
   exact Z0P.2 ⟨t,ht,Z0P.2 ⟨f,hf,Z0E.2 ⟨h1,Z0P.2 ⟨i,hi,Z0E.2 ⟨h2,Z0P.2 ⟨j,hj,Z40.2 ⟨⟨h3,h4⟩,rfl⟩⟩⟩⟩⟩⟩⟩
theorem ZgX:p ∈ eP Gl n ↔ ∃ t f i j,t<n/\f<4/\i<4/\j<4 /\ ¬ Z0x (Z03 Gl t f)<0/\i ≠ f/\j ≠ f/\j ≠ i/\p=(eNo t i j,eNo (fU Gl t f) (fJ Gl t f i) (fJ Gl t f j)):=by
 unfold eP eT eF eI eJ
 constructor
 · intro h
   obtain ⟨t,ht,h⟩:=Z0P.1 h
   obtain ⟨f,hf,h⟩:=Z0P.1 h
   obtain ⟨h1,h⟩:=Z0E.1 h
   obtain ⟨i,hi,h⟩:=Z0P.1 h
   obtain ⟨h2,h⟩:=Z0E.1 h
   obtain ⟨j,hj,h⟩:=Z0P.1 h
   obtain ⟨h3,h4⟩:=Z40.1 h
   exact ⟨t,f,i,j,ht,hf,hi,hj,h1,h2,h3.1,h3.2,h4⟩
 · rintro ⟨t,f,i,j,ht,hf,hi,hj,h1,h2,h3,h4,rfl⟩
   exact Z0P.2 ⟨t,ht,Z0P.2 ⟨f,hf,Z0E.2 ⟨h1,Z0P.2 ⟨i,hi,Z0E.2 ⟨h2,Z0P.2 ⟨j,hj,Z40.2 ⟨⟨h3,h4⟩,rfl⟩⟩⟩⟩⟩⟩⟩
end
theorem ZhW {t i j:Nat} (hi:i<4) (hj:j<4) (hne:j ≠ i):∃ k,k<6/\eNo t i j=6*t+k:=by
 have:=Z6E (i:=(i:Int)) (j:=(j:Int)) qO qO qO qO qO
 exact ⟨(edN i j).toNat,by omega,rfl⟩
section
variable {Gl:List Int} {n:Nat} (hok:Z0v Gl n=true) (hG:Gl.length=n*20)
 include hok hG
theorem vP_lt:∀ p,p ∈ vP Gl n->p.1<4*n/\p.2<4*n:=fun p hp=>by
 obtain ⟨t,f,i,ht,hf,hi,hg,hif,rfl⟩:=ZlJ.1 hp
 have b:=Z20 hok hG ht hf hg
 have:=b.u
 have:=b.j i hi
 exact ⟨by dsimp only; omega,by dsimp only; omega⟩
theorem ZnE:∀ p,p ∈ dP Gl n->p.1<16*n/\p.2<16*n:=fun p hp=>by
 obtain ⟨t,f,i,j,ht,hf,hi,hj,hg,_,_,_,rfl⟩:=ZgY.1 hp
 have b:=Z20 hok hG ht hf hg
 have:=b.u
 have:=b.j i hi
 have:=b.j j hj
 exact ⟨by dsimp only; omega,by dsimp only; omega⟩
theorem Zny:∀ p,p ∈ eP Gl n->p.1<6*n/\p.2<6*n:=fun p hp=>by
 obtain ⟨t,f,i,j,ht,hf,hi,hj,hg,_,_,hji,rfl⟩:=ZgX.1 hp
 have b:=Z20 hok hG ht hf hg
 have:=b.u
 obtain ⟨k,hk,e⟩:=ZhW (t:=t) hi hj hji
 obtain ⟨k',hk',e'⟩:=ZhW (t:=fU Gl t f) (b.j i hi) (b.j j hj) (fun q=>hji (b.inj j i hj hi q))
 exact ⟨by dsimp only; omega,by dsimp only; omega⟩
theorem Zip:Z49 (vCs Gl n) (4*n):=(Z69 _ _ (Z10 _) (vP_lt hok hG)).1
theorem Zlj:Z49 (dCs Gl n) (16*n):=(Z69 _ _ (Z10 _) (ZnE hok hG)).1
theorem Z6F:Z49 (eCs Gl n) (6*n):=(Z69 _ _ (Z10 _) (Zny hok hG)).1
theorem Zdj {t f i:Nat} (ht:t<n) (hf:f<4) (hi:i<4) (hg:¬ Z0x (Z03 Gl t f)<0) (hif:i ≠ f):Z06 (vCs Gl n) (4*t+i)=Z06 (vCs Gl n) (4*fU Gl t f+fJ Gl t f i) :=
 (Z69 _ _ (Z10 _) (vP_lt hok hG)).2.2 _ (ZlJ.2 ⟨t,f,i,ht,hf,hi,hg,hif,rfl⟩)
theorem Z7Y {t f i j:Nat} (ht:t<n) (hf:f<4) (hi:i<4) (hj:j<4) (hg:¬ Z0x (Z03 Gl t f)<0) (hif:i ≠ f) (hjf:j ≠ f) (hji:j ≠ i) :
 Z06 (dCs Gl n) (16*t+4*i+j)=Z06 (dCs Gl n) (16*fU Gl t f+4*fJ Gl t f i+fJ Gl t f j) :=
 (Z69 _ _ (Z10 _) (ZnE hok hG)).2.2 _ (ZgY.2 ⟨t,f,i,j,ht,hf,hi,hj,hg,hif,hjf,hji,rfl⟩)
theorem Zlf {t f i j:Nat} (ht:t<n) (hf:f<4) (hi:i<4) (hj:j<4) (hg:¬ Z0x (Z03 Gl t f)<0) (hif:i ≠ f) (hjf:j ≠ f) (hji:j ≠ i) :
 Z06 (eCs Gl n) (eNo t i j)=Z06 (eCs Gl n) (eNo (fU Gl t f) (fJ Gl t f i) (fJ Gl t f j)) :=
 (Z69 _ _ (Z10 _) (Zny hok hG)).2.2 _ (ZgX.2 ⟨t,f,i,j,ht,hf,hi,hj,hg,hif,hjf,hji,rfl⟩)
theorem Z6H (S:Nat->Prop) (h:∀ t f i j,t<n->f<4->i<4->j<4 -> ¬ Z0x (Z03 Gl t f)<0->i ≠ f->j ≠ f->j ≠ i->(S (16*t+4*i+j) ↔ S (16*fU Gl t f+4*fJ Gl t f i+fJ Gl t f j))) {a b:Nat} (ha:a<16*n) (hb:b<16*n) (e:Z06 (dCs Gl n) a=Z06 (dCs Gl n) b):S a ↔ S b :=
 Z5V S (fun p hp=>by
  have:=ZnE hok hG p hp
  obtain ⟨t,f,i,j,ht,hf,hi,hj,hg,h1,h2,h3,rfl⟩:=ZgY.1 hp
  exact ⟨this.1,this.2,h t f i j ht hf hi hj hg h1 h2 h3⟩) ha hb e
theorem ZhX (S:Nat->Prop) (h:∀ t f i j,t<n->f<4->i<4->j<4 -> ¬ Z0x (Z03 Gl t f)<0->i ≠ f->j ≠ f->j ≠ i->(S (eNo t i j) ↔ S (eNo (fU Gl t f) (fJ Gl t f i) (fJ Gl t f j)))) {a b:Nat} (ha:a<6*n) (hb:b<6*n) (e:Z06 (eCs Gl n) a=Z06 (eCs Gl n) b):S a ↔ S b :=
 Z5V S (fun p hp=>by
  have:=Zny hok hG p hp
  obtain ⟨t,f,i,j,ht,hf,hi,hj,hg,h1,h2,h3,rfl⟩:=ZgX.1 hp
  exact ⟨this.1,this.2,h t f i j ht hf hi hj hg h1 h2 h3⟩) ha hb e
end
end Go.Ab

namespace Go.Proofs.Ytdodippbpdechaa
open Go Go.Ab Go.Proofs

structure JX (P:Prs) (m:Nat) (L:List Int):Prop where
 e:L=jn P (Z0R m)
 d:Z49 L m
theorem JX.nil (m:Nat):JX [] m (Z0R m):=⟨rfl,Z10 m⟩
theorem JX.snoc {P:Prs} {m:Nat} {L:List Int} {i j:Nat} (h:JX P m L) (hi:i<m) (hj:j<m):JX (P++[(i,j)]) m (Z3Q L i j):=by
 refine ⟨?_,Z2T h.d hi hj⟩
 rw [Z8E,← h.e]; rfl
structure XB (Gl:List Int) (n t f xb pb:Nat) (h0:FH):Prop where
 hx:Z0f h0 xb (ints (Z03 Gl t f))
 ne:xb ≠ pb
 ok:Z0v Gl n=true
 gl:Gl.length=n*20
 ht:t<n
 hf:f<4
section
variable {Gl:List Int} {n t f xb pb:Nat} {h0:FH} (x:XB Gl n t f xb pb h0)
 include x
theorem XB.l0 (cs:List Value):ld1 (newB h0 pb cs) (.pointer (some ⟨xb,0,none⟩))=some (.int .i64 (Z0x (Z03 Gl t f))):=by
 have hl:=Z0j x.gl x.ht x.hf
 rw [Z02 (x.hx.newB_ne x.ne),ints_getD _ _ qO]; rfl
theorem XB.gb (hg:¬ Z0x (Z03 Gl t f)<0):GB Gl n t f:=Z20 x.ok x.gl x.ht x.hf hg
theorem XB.u (hg:¬ Z0x (Z03 Gl t f)<0):Z0x (Z03 Gl t f)=(fU Gl t f:Nat):=by unfold fU; omega
theorem XB.l1 (hg:¬ Z0x (Z03 Gl t f)<0) (cs:List Value) {i:Nat} (hi:i<4):ld1 (newB h0 pb cs) (.pointer (some ⟨xb,1+i,none⟩))=some (.int .i64 (fJ Gl t f i:Nat)):=by
 have hl:=Z0j x.gl x.ht x.hf
 have k:=(Z0Y (Z1s x.ok x.ht x.hf) hg).2.1
 have hp:=Z9b (Z0X hl) k
 have hr:=Z2c hp hi
 have e:(Z0d (Z03 Gl t f)).getD i 0=(Z03 Gl t f).getD (1+i) 0:=by
  unfold Z0d
  rw [Z3T _ _ _ hi,Z2y]
 rw [Z02 (x.hx.newB_ne x.ne),ints_getD _ _ qO,← e]
 unfold fJ
 rw [show (((Z0d (Z03 Gl t f)).getD i 0).toNat:Int)=(Z0d (Z03 Gl t f)).getD i 0 by omega]
end

def o6 (Q:Nat->Bool):Nat->List Int
 | 0=>[]
 | x+1=>o6 Q x++if Q x=true then [((x / 4:Nat):Int),((x % 4:Nat):Int),0,0,0,0] else []

abbrev nd (y:Nat):Prop:=y % 4 ≠ y / 4 % 4
abbrev frY (Gl:List Int) (y:Nat):Prop:=Z0x (Z03 Gl (y / 16) (y % 4))<0
def sE (E D:List Int) (z:List Int × List Bool):Nat->List Int × List Bool
 | 0=>z
 | e+1=>sSt E D (e / 6) (e % 6) (sE E D z e)
theorem sKs_e (E D:List Int) (z0:List Int × List Bool) (t:Nat):∀ (r k:Nat),k+r<=6->sKs E D t r k (sE E D z0 (6*t+k))=sE E D z0 (6*t+k+r)
 | 0,k,_=>rfl
 | r+1,k,h=>by
  have e:sSt E D t k (sE E D z0 (6*t+k))=sE E D z0 (6*t+(k+1)):=by
   rw [show 6*t+(k+1)=6*t+k+1 by omega,sE,show (6*t+k) / 6=t by omega,show (6*t+k) % 6=k by omega]
  rw [sKs,e,sKs_e E D z0 t r (k+1) qO,show 6*t+(k+1)+r=6*t+k+(r+1) by omega]
theorem sTs_e (E D:List Int) (z0:List Int × List Bool):∀ (r t:Nat),sTs E D r t (sE E D z0 (6*t))=sE E D z0 (6*(t+r))
 | 0,t=>rfl
 | r+1,t=>by
  have:=sKs_e E D z0 t 6 0 qO
  rw [Nat.add_zero] at this
  rw [sTs,this,show 6*t+6=6*(t+1) by omega,sTs_e E D z0 r (t+1),show t+1+r=t+(r+1) by omega]
theorem Ziy (Gl:List Int) (n:Nat):skZ Gl n=sE (eN Gl n) (dN Gl n) (List.replicate (nE Gl n) 0,List.replicate (nE Gl n) false) (6*n):=by
 have:=sTs_e (eN Gl n) (dN Gl n) (List.replicate (nE Gl n) 0,List.replicate (nE Gl n) false) n 0
 rw [Nat.zero_add,Nat.mul_zero] at this
 exact this
abbrev rvE (D:List Int) (e:Nat):Prop:=D.getD (16*(e / 6)+4*eAn (e % 6)+eBn (e % 6)) 0=D.getD (16*(e / 6)+4*eBn (e % 6)+eAn (e % 6)) 0
theorem Zhc (l:List Bool) (i j:Nat) (x:Bool):(l.set i x).getD j false=if i=j/\i<l.length then x else l.getD j false:=by
 simp only [List.getD_eq_getElem?_getD,List.getElem?_set]
 by_cases h:i=j
 · subst h
   by_cases h2:i<l.length
   · simp [h2]
   · simp [h2]
 · simp [h]
theorem ZbA (E D:List Int) (z:List Int × List Bool):∀ m,(sE E D z m).1.length=z.1.length/\(sE E D z m).2.length=z.2.length
 | 0=>⟨rfl,rfl⟩
 | m+1=>by
  obtain ⟨h1,h2⟩:=ZbA E D z m
  rw [sE,sSt]
  refine ⟨by rw [List.length_set]; exact h1, ?_⟩
  dsimp only
  split
  · rw [List.length_set]; exact h2
  · exact h2
theorem ZlD (E D:List Int) (N:Nat) {v:Nat} (hv:v<N):∀ m,(∀ e,e<m->0<=E.getD e 0/\E.getD e 0<N)->(sE E D (List.replicate N 0,List.replicate N false) m).1.getD v 0=Z3X (fun e=>if E.getD e 0=v then 1 else 0) m
 | 0,_=>by simp [sE,Z3X,List.getD_eq_getElem?_getD,hv]
 | m+1,h=>by
  have ih:=ZlD E D N hv m fun e he=>h e qO
  have hl:=(ZbA E D (List.replicate N 0,List.replicate N false) m).1
  rw [List.length_replicate] at hl
  have hm:=h m qO
  rw [sE,sSt,Z3X,← ih]
  show (List.set _ _ _).getD v 0=_
  rw [show 6*(m / 6)+m % 6=m by omega,Z0C]
  by_cases e:E.getD m 0=v
  · rw [if_pos e,if_pos ⟨by omega,by omega⟩,e,Int.toNat_natCast]
  · rw [if_neg e,if_neg (fun z=>e qO)]; omega
theorem ZlC (E D:List Int) (N:Nat) {v:Nat} (hv:v<N):∀ m,(∀ e,e<m->0<=E.getD e 0/\E.getD e 0<N)->((sE E D (List.replicate N 0,List.replicate N false) m).2.getD v false=true ↔ ∃ e,e<m/\E.getD e 0=v/\rvE D e)
 | 0,_=>by simp [sE,List.getD_eq_getElem?_getD,hv]
 | m+1,h=>by
  have ih:=ZlC E D N hv m fun e he=>h e qO
  have hl:=(ZbA E D (List.replicate N 0,List.replicate N false) m).2
  rw [List.length_replicate] at hl
  have hm:=h m qO
  have up:(∃ e,e<m/\E.getD e 0=v/\rvE D e) -> ∃ e,e<m+1/\E.getD e 0=v/\rvE D e:=fun ⟨y,h,q⟩=>⟨y,by omega,q⟩
  have dn:¬ (E.getD m 0=v/\rvE D m)->(∃ e,e<m+1/\E.getD e 0=v/\rvE D e) -> ∃ e,e<m/\E.getD e 0=v/\rvE D e:=fun hn ⟨y,h,q⟩=>by
   by_cases e:y=m
   · exact absurd (e ▸ q) hn
   · exact ⟨y,by omega,q⟩
  rw [sE,sSt,show 6*(m / 6)+m % 6=m by omega]
  dsimp only
  by_cases hr:rvE D m
  · rw [if_pos hr,Zhc]
    by_cases e:E.getD m 0=v
    · rw [if_pos ⟨by omega,by omega⟩]
      exact ⟨fun _=>⟨m,by omega,e,hr⟩,fun _=>rfl⟩
    · rw [if_neg (fun z=>e qO),ih]
      exact ⟨up,dn fun z=>e z.1⟩
  · rw [if_neg hr,ih]
    exact ⟨up,dn fun z=>hr z.2⟩

theorem dN_at {Gl:List Int} {n x:Nat} (hx:x<16*n):(dN Gl n).getD x 0=(cl (dCs Gl n) x:Nat):=Zcr _ hx
theorem Zle {Gl:List Int} {n x:Nat} (hx:x<6*n):(eN Gl n).getD x 0=(cl (eCs Gl n) x:Nat):=Zcr _ hx
section
variable {Gl:List Int} {n:Nat} (hok:Z0v Gl n=true) (hG:Gl.length=n*20)
 include hok hG
end

end Go.Proofs.Ytdodippbpdechaa

namespace Go.Ab
open Go
inductive Tri where
 | leaf
 | node (b:Option ABlk) (l r:Tri)
def Tri.get:Tri->Nat->Option ABlk
 | .leaf,_=>none
 | .node b l r,i=>cond (Nat.beq i 0) b (cond (Nat.beq (i % 2) 1) (l.get (i / 2)) (r.get (i / 2-1)))
def Tri.upd:Nat->Tri->Nat->Option ABlk->Tri
 | 0,t,_,o=>match t with
  | .leaf=>.node o .leaf .leaf
  | .node _ l r=>.node o l r
 | n+1,t,i,o=>match t with
  | .leaf=>cond (Nat.beq i 0) (.node o .leaf .leaf) (cond (Nat.beq (i % 2) 1) (.node none (Tri.upd n .leaf (i / 2) o) .leaf) (.node none .leaf (Tri.upd n .leaf (i / 2-1) o)))
  | .node b l r=>cond (Nat.beq i 0) (.node o l r) (cond (Nat.beq (i % 2) 1) (.node b (Tri.upd n l (i / 2) o) r) (.node b l (Tri.upd n r (i / 2-1) o)))
theorem Tri.get_upd:∀ (n:Nat) (t:Tri) (i:Nat) (o:Option ABlk) (j:Nat),i<=n->(Tri.upd n t i o).get j=if j=i then o else t.get j:=by
 have key:∀ (b:Option ABlk) (l r:Tri) (i:Nat),(Tri.node b l r).get i=if i=0 then b else if i % 2=1 then l.get (i / 2) else r.get (i / 2-1):=by
  intro b l r i
  simp only [Tri.get]
  by_cases h0:i=0
  · subst h0; rfl
  · have:Nat.beq i 0=false:=by rw [Bool.eq_false_iff]; intro h; exact h0 (Nat.eq_of_beq_eq_true h)
    rw [this]
    simp only [h0,if_false,cond_false]
    by_cases h1:i % 2=1
    · simp [h1]
    · have:Nat.beq (i % 2) 1=false:=by rw [Bool.eq_false_iff]; intro h; exact h1 (Nat.eq_of_beq_eq_true h)
      simp [h1,this]
 have leafg:∀ j,Tri.leaf.get j=none:=fun _=>rfl
 intro n
 induction n with
 | zero =>
  intro t i o j hi
  have:i=0:=by omega
  subst this
  cases t with
  | leaf =>
   simp only [Tri.upd,key,leafg]
   split <;> simp
  | node b l r =>
   simp only [Tri.upd,key]
   by_cases h:j=0 <;> simp [h]
 | succ n ih =>
  intro t i o j hi
  by_cases h0:i=0
  · subst h0
    cases t with
    | leaf =>
     simp only [Tri.upd,Nat.beq_refl,cond_true,key,leafg]
     split <;> simp
    | node b l r =>
     simp only [Tri.upd,Nat.beq_refl,cond_true,key]
     by_cases h:j=0 <;> simp [h]
  · have hb0:Nat.beq i 0=false:=by rw [Bool.eq_false_iff]; intro h; exact h0 (Nat.eq_of_beq_eq_true h)
    by_cases h1:i % 2=1
    · have hb1:Nat.beq (i % 2) 1=true:=by rw [h1]; rfl
      cases t with
      | leaf =>
       simp only [Tri.upd,hb0,hb1,cond_true,cond_false,key,leafg]
       by_cases hj:j=0
       · subst hj; simp [Ne.symm h0]
       · simp only [hj,if_false]
         by_cases hj1:j % 2=1
         · simp only [hj1,if_true]
           rw [ih _ _ _ _ qO,leafg]
           by_cases e:j=i
           · simp [e]
           · rw [if_neg e,if_neg qO]
         · rw [if_neg hj1,if_neg qO]
      | node b l r =>
       simp only [Tri.upd,hb0,hb1,cond_true,cond_false,key]
       by_cases hj:j=0
       · subst hj; simp [Ne.symm h0]
       · simp only [hj,if_false]
         by_cases hj1:j % 2=1
         · simp only [hj1,if_true]
           rw [ih _ _ _ _ qO]
           by_cases e:j=i
           · simp [e]
           · rw [if_neg e,if_neg qO]
         · rw [if_neg hj1,if_neg (show ¬ j=i by omega),if_neg hj1]
    · have hb1:Nat.beq (i % 2) 1=false:=by rw [Bool.eq_false_iff]; intro h; exact h1 (Nat.eq_of_beq_eq_true h)
      cases t with
      | leaf =>
       simp only [Tri.upd,hb0,hb1,cond_true,cond_false,key,leafg]
       by_cases hj:j=0
       · subst hj; simp [Ne.symm h0]
       · simp only [hj,if_false]
         by_cases hj1:j % 2=1
         · rw [if_pos hj1,if_neg qO]
         · rw [if_neg hj1,ih _ _ _ _ qO,leafg]
           by_cases e:j=i
           · simp [e]
           · rw [if_neg e,if_neg qO]
      | node b l r =>
       simp only [Tri.upd,hb0,hb1,cond_true,cond_false,key]
       by_cases hj:j=0
       · subst hj; simp [Ne.symm h0]
       · simp only [hj,if_false]
         by_cases hj1:j % 2=1
         · rw [if_pos hj1,if_neg (show ¬ j=i by omega),if_pos hj1]
         · rw [if_neg hj1,ih _ _ _ _ qO]
           by_cases e:j=i
           · simp [e]
           · rw [if_neg e,if_neg qO,if_neg hj1]
def ZeV:Option Addr->Option Addr->Bool
 | none,none=>true
 | some ⟨a,b,none⟩,some ⟨c,d,none⟩=>Nat.beq a c && Nat.beq b d
 | _,_=>false
def Zmb:Value->Value->Bool
 | .bool a,.bool b=>a == b
 | .int k n,.int k' n'=>decide (k=k') && n == n'
 | .pointer a,.pointer b=>ZeV a b
 | .slice a l c,.slice b l' c'=>ZeV a b && Nat.beq l l' && Nat.beq c c'
 | .map (some a),.map (some b)=>Nat.beq a b
 | .map none,.map none=>true
 | .nilFunc,.nilFunc=>true
 | .nilIface,.nilIface=>true
 | _,_=>false
def Zdi:List Value->List Value->Bool
 | [],[]=>true
 | x::xs,y::ys=>Zmb x y && Zdi xs ys
 | _,_=>false
def ZaD:Option Nat->Option Nat->Bool
 | none,none=>true
 | some a,some b=>Nat.beq a b
 | _,_=>false
def Zln:Option ABlk->Option ABlk->Bool
 | none,none=>true
 | some (.cells ro o c),some (.cells ro' o' c')=>ro == ro' && ZaD o o' && Zdi c c'
 | some .dead,some .dead=>true
 | some .dfr,some .dfr=>true
 | _,_=>false
theorem ZbW {a b:Option Addr} (h:ZeV a b=true):a=b:=by
 unfold ZeV at h
 split at h
 · rfl
 · simp only [Bool.and_eq_true] at h
   rw [Nat.eq_of_beq_eq_true h.1,Nat.eq_of_beq_eq_true h.2]
 · cases h
theorem Zio {a b:Value} (h:Zmb a b=true):a=b:=by
 unfold Zmb at h
 split at h
 · simp at h; rw [h]
 · simp at h; rw [h.1,h.2]
 · rw [ZbW h]
 · simp only [Bool.and_eq_true] at h
   rw [ZbW h.1.1,Nat.eq_of_beq_eq_true h.1.2,Nat.eq_of_beq_eq_true h.2]
 · rw [Nat.eq_of_beq_eq_true h]
 · rfl
 · rfl
 · rfl
 · cases h
theorem Zbs:∀ {a b:List Value},Zdi a b=true->a=b
 | [],[],_=>rfl
 | x::xs,y::ys,h=>by
  simp only [Zdi,Bool.and_eq_true] at h
  rw [Zio h.1,Zbs h.2]
 | [],y::ys,h=>by cases h
 | x::xs,[],h=>by cases h
theorem Zco {a b:Option Nat} (h:ZaD a b=true):a=b:=by
 unfold ZaD at h
 split at h
 · rfl
 · rw [Nat.eq_of_beq_eq_true h]
 · cases h
theorem ZeU (a b:Option ABlk) (h:Zln a b=true):a=b:=by
 unfold Zln at h
 split at h
 · rfl
 · simp only [Bool.and_eq_true] at h
   have h1:=h.1.1
   rw [Zco h.1.2,Zbs h.2]
   simp at h1
   rw [h1]
 · rfl
 · rfl
 · cases h
instance:HeapC Tri where
 get h i:=h.get i
 set h i b:=Tri.upd i h i (some b)
 del h i:=Tri.upd i h i none
 eqB:=Zln
 eqB_eq:=ZeU
 get_set h i b j:=Tri.get_upd i h i (some b) j (Nat.le_refl _)
 get_del h i j:=Tri.get_upd i h i none j (Nat.le_refl _)
end Go.Ab
