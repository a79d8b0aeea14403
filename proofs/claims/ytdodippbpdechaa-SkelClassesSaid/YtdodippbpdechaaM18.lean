/- Parts of a proof: AbGC Q5 D1 D2 D3 T1 AbSg K38. Conditions: none. -/
import Derived.Test.YtdodippbpdechaaM17
import Derived.Test.YtdodippbpdechaaM16
import Derived.Test.YtdodippbpdechaaM15
import Derived.Test.YtdodippbpdechaaM6
import Derived.Test.YtdodippbpdechaaM14
set_option linter.all false
set_option maxRecDepth 100000
set_option maxHeartbeats 4000000
namespace Go.Ab
open Go
def GrC (c0:Nat) (h:FH) (c:Nat) (v:Value) (sz n:Nat) (L:List Value):Prop :=
 (v = .slice none 0 0/\n=0/\L=[]) ∨ (0<n/\L.length=n*sz/\n<=9223372036854775807/\L.all Z08=true /\ ∃ i,v = .slice (some ⟨i,0,none⟩) n n/\256*c0<=i/\i<256*c/\h.f i=some (.cells false (some sz) L))
theorem GrC.mono {c0:Nat} {h:FH} {c c':Nat} {v:Value} {sz n:Nat} {L:List Value} (hc:c<=c') (ha:GrC c0 h c v sz n L):GrC c0 h c' v sz n L:=by
 rcases ha with ha | ⟨a,b,d,x,i,e,f,g,k⟩
 · exact .inl ha
 · exact .inr ⟨a,b,d,x,i,e,f,qO,k⟩
theorem GrC.keep {c0:Nat} {h h':FH} {c:Nat} {v:Value} {sz n:Nat} {L:List Value} (ha:GrC c0 h c v sz n L) (hh:v ≠ .slice none 0 0->h'.f (Z0p v)=h.f (Z0p v)):GrC c0 h' c v sz n L:=by
 rcases ha with ha | ⟨a,b,d,x,i,rfl,f,g,k⟩
 · exact .inl ha
 · have:=hh (by intro e; cases e)
   rw [blkOf_sl] at this
   exact .inr ⟨a,b,d,x,i,rfl,f,g,this.trans k⟩
theorem GrC.sl {c0:Nat} {h:FH} {c:Nat} {v:Value} {sz n:Nat} {L:List Int} (ha:GrC c0 h c v sz n (ints L)):SlI h c v sz n L:=by
 rcases ha with ⟨rfl,rfl,e⟩ | ⟨a,b,d,x,i,rfl,f,g,k⟩
 · have:L=[]:=by simpa [ints] using e
   subst this
   exact ⟨by simp,qO,none,0,rfl,.inl ⟨rfl,OkV.sl0 _ _ _⟩⟩
 · rw [ints_length] at b
   refine ⟨b,d,some ⟨i,0,none⟩,n,rfl,.inr ⟨i,0,ints L,rfl,g,⟨false,some sz,k⟩, ?_⟩⟩
   rw [qM,qH (by simp [b])]
theorem GrC.blk {c0:Nat} {h:FH} {c:Nat} {v:Value} {sz n:Nat} {L:List Value} (ha:GrC c0 h c v sz n L) (hn:v ≠ .slice none 0 0):256*c0<=Z0p v/\Z0p v<256*c:=by
 rcases ha with ⟨rfl,rfl,rfl⟩ | ⟨a,b,d,x,i,rfl,f,g,k⟩
 · exact absurd rfl hn
 · exact ⟨f,g⟩
theorem GrC.flat {c0:Nat} {h:FH} {c:Nat} {v:Value} {sz n:Nat} {L:List Value} (ha:GrC c0 h c v sz n L):Z08 v=true/\v.cells = #[v]:=by
 rcases ha with ⟨rfl,rfl,rfl⟩ | ⟨a,b,d,x,i,rfl,f,g,k⟩ <;> exact ⟨rfl,rfl⟩
theorem GrC.len {c0:Nat} {h:FH} {c:Nat} {v:Value} {sz n:Nat} {L:List Value} (ha:GrC c0 h c v sz n L):Z1q v=some (.int .i64 n):=by
 rcases ha with ⟨rfl,rfl,rfl⟩ | ⟨a,b,d,x,i,rfl,f,g,k⟩ <;> rfl
theorem GrC.app {c0:Nat} {h:FH} {c c':Nat} {v:Value} {sz n:Nat} {L:List Value} (ha:GrC c0 h c v sz n L) (X:List Value) (hX:X.length=sz) (hXf:X.all Z08=true) (hsz:0<sz) (by' b id:Nat) (hb:256*c<=b) (hid:256*c<=id) (hne:b ≠ id) (hc0:c0<=c)
 (hid':id<256*c') (hlim:(n+1)*(by'+1)<=17592186044416) :
 ∃ h',Z5D (newB h b X) id sz by' v (.slice (some ⟨b,0,none⟩) 1 1)=some (.slice (some ⟨id,0,none⟩) (n+1) (n+1),h')/\GrC c0 h' c' (.slice (some ⟨id,0,none⟩) (n+1) (n+1)) sz (n+1) (L++X)/\(∀ j,j<256*c->(v ≠ .slice none 0 0->j ≠ Z0p v)->h'.f j=h.f j):=by
 have hlim':Nat.ble ((n+1)*(by'+1)) 17592186044416=true:=qK hlim
 have hsrc:Z0M (newB h b X) sz (.slice (some ⟨b,0,none⟩) 1 1)=some (X,1):=by
  have:Nat.ble (0+1*sz) X.length=true:=qK (by simp [hX])
  simp only [Z0M,Z0S,Z0s,get_newB_same,qD,this,cond_true,qM]
  rw [qH (by simp [hX])]
 have hn1:n+1<=17592186044416:=by
  have:(n+1)*1<=(n+1)*(by'+1):=Nat.mul_le_mul_left _ qO
  omega
 have hcap:Nat.ble (n+1) n=false:=by rw [qY]; intro hh; have:=qP hh; omega
 rcases ha with ⟨rfl,rfl,rfl⟩ | ⟨h0,h1,h2,hf,i,rfl,h3,h4,h5⟩
 · refine ⟨HeapC.set (newB h b X) id (.cells false (some sz) X), ?_,.inr ⟨qO,by simp [hX],qO,by simpa using hXf,id,rfl,qO,hid', ?_⟩, ?_⟩
   · simp only [Z5D,hsrc,qD,appTo,hcap,cond_false,Z1Q,hlim',hXf,qV,cond_true,Nat.beq_refl,Nat.zero_add]
   · rw [Z0c,if_pos rfl]; rfl
   · intro j hj _
     rw [Z0c,if_neg qO,Z01,if_neg qO]
 · have hbi:i ≠ b:=qO
   have hg:HeapC.get (newB h b X) i=some (.cells false (some sz) L):=by rw [get_newB_ne _ _ _ _ hbi]; exact h5
   have hr:Nat.ble (0+n*sz) L.length=true:=qK (by simp [h1])
   refine ⟨HeapC.set (HeapC.set (newB h b X) i .dead) id (.cells false (some sz) ((L.drop 0).take (n*sz)++X)), ?_,.inr ⟨qO, ?_,qO, ?_,id,rfl,qO,hid', ?_⟩, ?_⟩
   · simp only [Z5D,hsrc,qD,appTo,hcap,cond_false,Z1Q,hlim',hXf,qV,cond_true,Z0S,Z0s,hg,hr,Nat.beq_refl,Bool.not_false,Bool.and_true]
   · simp [h1,hX,Nat.succ_mul]
   · rw [List.all_append,hf,hXf]; rfl
   · rw [Z0c,if_pos rfl,qM,qH (by simp [h1])]
   · intro j hj hv
     have:=hv (by intro e; cases e)
     rw [blkOf_sl] at this
     rw [Z0c,if_neg qO,Z0c,if_neg this,Z01,if_neg qO]
theorem GrC.step {c0:Nat} {h:FH} {c c' sb o:Nat} {fs:List Value} {v:Value} {sz n:Nat} {L:List Value} (hf:h.f sb=some (.cells false none fs)) (ho:fs[o]? = some v) (lsb:sb<256*c0) (ha:GrC c0 h c v sz n L) (X:List Value) (hX:X.length=sz) (hXf:X.all Z08=true) (hsz:0<sz) (by' b id:Nat) (hb:256*c<=b) (hid:256*c<=id) (hne:b ≠ id) (hc0:c0<=c)
 (hid':id<256*c') (hlim:(n+1)*(by'+1)<=17592186044416) :
 ∃ h1 h2,ld1 h (.pointer (some ⟨sb,o,none⟩))=some v/\Z5D (newB h b X) id sz by' v (.slice (some ⟨b,0,none⟩) 1 1)=some (.slice (some ⟨id,0,none⟩) (n+1) (n+1),h1) ∧
  stN h1 1 (.pointer (some ⟨sb,o,none⟩)) (.slice (some ⟨id,0,none⟩) (n+1) (n+1))=some h2/\h2.f sb=some (.cells false none (fs.set o (.slice (some ⟨id,0,none⟩) (n+1) (n+1)))) ∧
  GrC c0 h2 c' (.slice (some ⟨id,0,none⟩) (n+1) (n+1)) sz (n+1) (L++X)/\(∀ j,j<256*c->j ≠ sb->(v ≠ .slice none 0 0->j ≠ Z0p v)->h2.f j=h.f j):=by
 obtain ⟨h1,e1,e2,e3⟩:=ha.app X hX hXf hsz by' b id hb hid hne hc0 hid' hlim
 have hol:o<fs.length:=by
  rcases Nat.lt_or_ge o fs.length with q | q
  · exact q
  · rw [jF qO] at ho; cases ho
 have f1:h1.f sb=some (.cells false none fs):=(e3 sb qO (fun hv=>by have:=(ha.blk hv).1; omega)).trans hf
 refine ⟨h1,_, ?_,e1,Z0L (show HeapC.get h1 sb=_ from f1) hol e2.flat.2 e2.flat.1,by rw [Z0c,if_pos rfl],e2.keep fun _=>?_,fun j hj h1' h2'=>?_⟩
 · rw [Z02 (cs:=fs) ⟨false,none,hf⟩,ho]
 · rw [blkOf_sl,Z0c,if_neg qO]
 · rw [Z0c,if_neg h1']
   exact e3 j hj h2'
theorem Ze6 {h:FH} {b m:Nat} {cs:List Value} (hf:h.f b=some (.cells false none cs)) (k k':IntKind) (lo hi:Nat) (h1:lo<=hi) (h2:hi<=m):slS h 1 (.slice (some ⟨b,0,none⟩) m m) (some (.int k lo)) (some (.int k' hi)) none=some (.slice (some ⟨b,lo,none⟩) (hi-lo) (m-lo)):=by
 have g:HeapC.get h b=some (.cells false none cs):=hf
 have q0:Nat.ble m m=true:=qK (qG _)
 have q1:(0:Int)<=hi:=qO
 have q2:(hi:Int)<=(m:Int):=qO
 have q3:(lo:Int)<=(hi:Int):=qO
 have q4:(0:Int)<=lo:=qO
 simp only [slS,Zkr,g,cond_true,Zo2,Zo3,q0,qD,bnd,decide_eq_true q1,decide_eq_true q2,qE,decide_eq_true q4,decide_eq_true q3,qV,Option.isSome_none,Bool.false_and,cond_false,Zoi,Nat.zero_add,Nat.mul_one]
end Go.Ab

namespace Go.Proofs.Ytdodippbpdechaa
open Go Go.Ab Go.Proofs
theorem Zql (v:Value) (x:Int) (L:List Int) (K:Nat) (h:FH) (c:Nat) (df:List Nat) (sl:SlI h c v 1 K L) (hK:K<=100000) :
 ∀ (r i:Nat),i+r=K->(∀ j,j<i->L.getD j 0 ≠ x)->Ans (G (Zbg none) [v,.int .i64 x,.slice none 0 0,v,.int .i64 K,.int .i64 i] h c df) fun q =>
  (x ∉ L/\q=⟨.exit 0,[v,.int .i64 x,.slice none 0 0,v,.int .i64 K,.int .i64 K],h,c,df⟩) ∨ (x ∈ L /\ ∃ i',q=⟨.ret,[v,.int .i64 x,v,v,.int .i64 K,.int .i64 i'],h,c,df⟩):=by
 intro r;have ov:=sl.okV;have hl:L.length=K*1:=sl.1
 induction r with
 | zero =>
  intro i hi hn;obtain rfl:i=K:=qO;have hx:x ∉ L:=fun hm=>by
   obtain ⟨j,hj,e⟩:=List.getElem_of_mem hm;exact hn j qO (by rw [qB,qI hj]; exact e)
  refine Ans.lpG rfl rfl (Z52 ..) ?_;unfold Z60;have fx:=True.intro;refine Ans.go ?_;clear fx
  (have fx:=ov; refine Ans.ex0 ?_; clear fx)
  exact .inl ⟨hx,rfl⟩
 | succ r ih =>
  intro i hi hn;have i1:(i:Int)<K:=qO;have kk:(K:Int)<=100000:=qO;have ix:=sl.ixs1 .i64 i qO qO;rw [qE] at ix;have l1:=sl.rd i qO;have hil:i<L.length:=qO
  by_cases e:L.getD i 0=x
  · have hm:x ∈ L:=by
     rw [← e,qB,qI hil];exact List.getElem_mem hil
    obtain ⟨y,hy⟩:=jN (L.getD i 0);rw [hy] at l1 e;refine Ans.lpG rfl rfl (Z52 ..) ?_;unfold Z60;have fx:=ai ix (ai l1 e);refine Ans.go ?_;clear fx
    (have fx:=ov; refine Ans.rt0 ?_; clear fx)
    exact .inr ⟨hm,i,rfl⟩
  · have hk:=ih (i+1) qO (fun j hj=>by
     by_cases w:j=i
     · rw [w]; exact e
     · exact hn j qO)
    obtain ⟨y,hy⟩:=jN (L.getD i 0);rw [hy] at l1 e;refine Ans.lpG rfl rfl (Z52 ..) ?_;unfold Z60;have fx:=ai ix (ai l1 e);refine Ans.go ?_;clear fx
    (have fx:=ov; refine Ans.nx0 ?_; clear fx)
    exact hk
theorem Zf7 (v:Value) (x:Int) (L:List Int) (K c0:Nat) (h:FH) (c:Nat) (df:List Nat) (g:GrC c0 h c v 1 K (ints L)) (hc0:c0<=c) (hK:K<=100000) :
 Ans (G (.fn 88) [v,.int .i64 x] h c df) fun r=>∃ v',r=⟨.ret,[v'],r.h,r.c,[]⟩/\c<=r.c/\GrC c0 r.h r.c v' 1 (ZdI L x).length (ints (ZdI L x))/\(∀ j,j<256*c->(v ≠ .slice none 0 0->j ≠ Z0p v)->r.h.f j=h.f j)/\(v'=v ∨ 256*c<=Z0p v'):=by
 refine Ans.call' (fun r e=>f88_go e) ?_;have len:=g.len;have hl:L.length=K:=by have:=g.sl.1; omega
 obtain ⟨q,hq,q1⟩:=Zql v x L K h (c+1+1) [] (g.sl.mono qO) hK K 0 qO (fun j hj=>qO);simp only [qC,qF] at hq;have tk:∀ h:FH,Z0a h []=some h:=fun _=>rfl
 unfold ZpF;rcases q1 with ⟨hx,rfl⟩ | ⟨hx,i',rfl⟩
 · have hbl:Z9D [.int .i64 0] [(0,1,.int .i64 x)]=some [.int .i64 x]:=rfl;obtain ⟨h2,e1,e2,e3⟩:=(g.mono (show c<=c+1+1 by omega)).app (c':=c+1+1+1) [.int .i64 x] rfl rfl qO 8 (256*(c+1+1)+2) (256*(c+1+1)+3) qO qO qO qO qO qO;have ei:ZdI L x=L++[x]:=if_neg hx;have fx:=ai len (ai hq (ai hbl (ai e1 tk)));refine Ans.go ?_;clear fx;refine .done ⟨_,rfl,by dsimp only; omega, ?_,fun j hj hv=>e3 j qO hv,.inr (by rw [blkOf_sl]; omega)⟩;rw [ei,show (L++[x]).length=K+1 by simp [hl],show ints (L++[x])=ints L++[Value.int .i64 x] by simp [ints]];exact e2
 · have ei:ZdI L x=L:=if_pos hx;have fx:=ai len (ai hq tk);refine Ans.go ?_;clear fx;refine .done ⟨_,rfl,by dsimp only; omega, ?_,fun j hj hv=>rfl,.inl rfl⟩;rw [ei,hl];exact g.mono (by dsimp only; omega)

theorem ZiT (p:List Int) (hp:p.length=4) (h:FH) (b1 b3 c:Nat) (hb1:b1<256*c) (hb3:b3<256*c) (hne:b1 ≠ b3) (hh:Z0d h b1 (ints p)) (df:List Nat):∀ (k i:Nat) (m:List Bool),i+k=4->m.length=4 →
 Ans (G (Z4z none) [ptrTo b1,.bool false,ptrTo b3,.int .i64 i] (newB h b3 (bools m)) c df) fun r=>r.c=c/\r.df=df/\(∃ cs,r.h=newB h b3 cs) ∧
  (if ZkZ (p.drop i) m=true then r.e = .exit 0 else r.e = .ret/\r.v 1 = .bool false):=by
 intro k
 induction k with
 | zero =>
  intro i m hi hm;obtain rfl:i=4:=qO;rw [qU qO];refine .intro (Z66 (q:=⟨.exit 0,[ptrTo b1,.bool false,ptrTo b3,.int .i64 (4:Nat)],newB h b3 (bools m),c+1,df⟩) (by unfold Z1m; simp) (by simp)) ?_;rw [Z1z (by simp [hb1,hb3])];refine ⟨rfl,rfl,⟨_,rfl⟩, ?_⟩;simp [ZkZ]
 | succ k ih =>
  intro i m hi hm;have hlt:i<p.length:=qO;have e0:(i:Int)<4:=qO;have hld:∀ j,j<4->ld1 (newB h b3 (bools m)) (.pointer (some ⟨b1,j,none⟩))=some (.int .i64 (p.getD j 0)):=fun j hj=>by
   rw [ld1_newB_ne _ _ _ _ _ hne];exact ld1_holds hh (by rw [ints_getD _ _ qO])
  have hldi:=hld i qO;obtain ⟨x,hx⟩:∃ x,x=p.getD i 0:=⟨_,rfl⟩;have hdr:p.drop i=x::p.drop (i+1):=by
   rw [List.drop_eq_getElem_cons hlt,hx];simp [List.getD,qI hlt]
  rw [hdr,ZkZ];rw [← hx] at hldi
  by_cases h1:x<0
  · rw [if_pos (Or.inl h1)];refine Ans.intro (Z66 (q:=⟨.ret,[ptrTo b1,.bool false,ptrTo b3,.int .i64 i],newB h b3 (bools m),_,df⟩) (Ans.eq (by
     unfold Z1m
     repeat (first | (with_reducible refine Ans.bt ?_ ?_; exact rfl) | (with_reducible refine Ans.bf ?_ ?_; exact rfl) | (with_reducible refine Ans.ct ?_ ?_; focus (simp; done)) | (with_reducible refine Ans.cf ?_ ?_; focus (simp; done)) | refine Ans.step (by simp (disch:=(first | omega | (simp <;> omega) | fail)) [e0,hldi,h1,-List.getD_eq_getElem?_getD] <;> rfl) ?_)
     exact .done rfl)) (by simp)) ?_
    rw [Z1z (by simp [hb1,hb3])];exact ⟨rfl,rfl,⟨_,rfl⟩,by simp⟩
  by_cases h2:3<x
  · rw [if_pos (Or.inr h2)];refine Ans.intro (Z66 (q:=⟨.ret,[ptrTo b1,.bool false,ptrTo b3,.int .i64 i],newB h b3 (bools m),_,df⟩) (Ans.eq (by
     unfold Z1m
     repeat (first | (with_reducible refine Ans.bt ?_ ?_; exact rfl) | (with_reducible refine Ans.bf ?_ ?_; exact rfl) | (with_reducible refine Ans.ct ?_ ?_; focus (simp; done)) | (with_reducible refine Ans.cf ?_ ?_; focus (simp; done)) | refine Ans.step (by simp (disch:=(first | omega | (simp <;> omega) | fail)) [e0,hldi,h1,h2,-List.getD_eq_getElem?_getD] <;> rfl) ?_)
     exact .done rfl)) (by simp)) ?_
    rw [Z1z (by simp [hb1,hb3])];exact ⟨rfl,rfl,⟨_,rfl⟩,by simp⟩
  rw [if_neg qO];have hldm:ld1 (newB h b3 (bools m)) (.pointer (some ⟨b3,x.toNat,none⟩))=some (.bool (m.getD x.toNat false)):=by
   rw [ld1_newB_same,Z7z _ _ qO]
  by_cases h3:m.getD x.toNat false=true
  · rw [if_pos h3];rw [h3] at hldm;refine Ans.intro (Z66 (q:=⟨.ret,[ptrTo b1,.bool false,ptrTo b3,.int .i64 i],newB h b3 (bools m),_,df⟩) (Ans.eq (by
     unfold Z1m
     repeat (first | (with_reducible refine Ans.bt ?_ ?_; exact rfl) | (with_reducible refine Ans.bf ?_ ?_; exact rfl) | (with_reducible refine Ans.ct ?_ ?_; focus (simp; done)) | (with_reducible refine Ans.cf ?_ ?_; focus (simp; done)) | refine Ans.step (by simp (disch:=(first | omega | (simp <;> omega) | fail)) [e0,hldi,h1,h2,hldm,-List.getD_eq_getElem?_getD] <;> rfl) ?_)
     exact .done rfl)) (by simp)) ?_
    rw [Z1z (by simp [hb1,hb3])];exact ⟨rfl,rfl,⟨_,rfl⟩,by simp⟩
  rw [if_neg h3];have h3':m.getD x.toNat false=false:=by simpa using h3
  rw [h3'] at hldm;obtain ⟨r,hr,hq⟩:=ih (i+1) (m.set x.toNat true) qO (by simpa using hm);have hst:stN (newB h b3 (bools m)) 1 (.pointer (some ⟨b3,x.toNat,none⟩)) (.bool true)=some (newB h b3 (bools (m.set x.toNat true))):=by
   rw [st1_bool _ _ _ _ _ (by rw [Z5P]; omega),Zax]
  refine .intro (Zi5 (q:=⟨.normal,[ptrTo b1,.bool false,ptrTo b3,.int .i64 (i+1:Nat)],newB h b3 (bools (m.set x.toNat true)),_,df⟩) (Ans.eq (by
   unfold Z1m
   repeat (first | (with_reducible refine Ans.bt ?_ ?_; exact rfl) | (with_reducible refine Ans.bf ?_ ?_; exact rfl) | (with_reducible refine Ans.ct ?_ ?_; focus (simp; done)) | (with_reducible refine Ans.cf ?_ ?_; focus (simp; done)) | refine Ans.step (by simp (disch:=(first | omega | (simp <;> omega) | fail)) [e0,hldi,h1,h2,hldm,hst,-List.getD_eq_getElem?_getD] <;> rfl) ?_)
   exact .done rfl)) rfl ?_) hq
  rw [Zeu hb3 (by simp [hb1,hb3]) (Z0Q.bools _ _)];exact hr
theorem Zix (p:List Int) (hp:p.length=4) (h:FH) (c:Nat) (df:List Nat) :
 G (.fn 44) [av p] h c df=some ⟨.ret,[.bool (Z1f p)],h,c,[]⟩:=by
 refine Z6u (fun r e=>f44_go e) (by simp) ?_;obtain ⟨⟨re,rv,rh,rc,rd⟩,hr,h1,h2,⟨cs,h3⟩,h4⟩:=ZiT p hp (newB h (256*c) (ints p)) (256*c) (256*(c+1)) (c+1+1+1) qO qO qO (Z0d.newB_same _ _ _) [] 4 0 [false,false,false,false] rfl rfl;simp only at h1 h2 h3;subst h1 h2 h3;rw [← Zp8 p hp];unfold ZjP;simp only [qM] at h4;simp only [qC,qF] at hr;have hb:bools [false,false,false,false]=[.bool false,.bool false,.bool false,.bool false]:=rfl;rw [hb] at hr
 cases hv:ZkZ p [false,false,false,false] with
 | true =>
  rw [hv,if_pos rfl] at h4;subst h4;simp (disch:=omega) [hr,hp]
 | false =>
  rw [hv,if_neg (by simp)] at h4;obtain ⟨rfl,h5⟩:=h4;simp (disch:=omega) [hr,hp,h5]
theorem Z1h (p:List Int) (hp:p.length=4) (h:FH) (c:Nat):callF G 44 [av p] h c=some (.bool (Z1f p),h,c):=Z05 (Zix p hp h c [])
theorem ZcO (p:List Int) (hp:p.length=4) (hr:InR p) (h:FH) (b1 b2 b3 c:Nat) (hb1:b1<256*c) (hb2:b2<256*c) (hb3:b3<256*c) (hne:b1 ≠ b3) (hh:Z0d h b1 (ints p)) (df:List Nat):∀ (k i:Nat) (out:List Int),i+k=4->out.length=4 →
 G (Z4y none) [ptrTo b1,ptrTo b2,ptrTo b3,.int .i64 i] (newB h b3 (ints out)) c df =
  some ⟨.exit 0,[ptrTo b1,ptrTo b2,ptrTo b3,.int .i64 4],newB h b3 (ints (ZhF (p.drop i) i out)),c,df⟩:=by
 intro k
 induction k with
 | zero =>
  intro i out hi ho;obtain rfl:i=4:=qO;rw [qU qO];refine (Zi3 (q:=⟨.exit 0,[ptrTo b1,ptrTo b2,ptrTo b3,.int .i64 4],newB h b3 (ints out),c+1,df⟩) (by unfold Z2u; simp) (by simp)).trans ?_;rw [Z1z (by simp [hb1,hb2,hb3])];rfl
 | succ k ih =>
  intro i out hi ho;have hlt:i<p.length:=qO;have e0:(i:Int)<4:=qO;have hld:ld1 (newB h b3 (ints out)) (.pointer (some ⟨b1,i,none⟩))=some (.int .i64 (p.getD i 0)):=by
   rw [ld1_newB_ne _ _ _ _ _ hne];exact ld1_holds hh (by rw [ints_getD _ _ qO])
  obtain ⟨x,hx⟩:∃ x,x=p.getD i 0:=⟨_,rfl⟩;have hdr:p.drop i=x::p.drop (i+1):=by
   rw [List.drop_eq_getElem_cons hlt,hx];simp [List.getD,qI hlt]
  have hxr:0<=x/\x<4:=by
   rw [hx];have:=hr p[i] (List.getElem_mem hlt);simpa [List.getD,qI hlt] using this
  rw [hdr,ZhF];rw [← hx] at hld;refine Zi4 (q:=⟨.normal,[ptrTo b1,ptrTo b2,ptrTo b3,.int .i64 (i+1:Nat)],newB h b3 (ints (out.set x.toNat i)),_,df⟩) (Ans.eq (by
   unfold Z2u
   repeat (first | (with_reducible refine Ans.bt ?_ ?_; exact rfl) | (with_reducible refine Ans.bf ?_ ?_; exact rfl) | (with_reducible refine Ans.ct ?_ ?_; focus (simp; done)) | (with_reducible refine Ans.cf ?_ ?_; focus (simp; done)) | refine Ans.step (by simp (disch:=(first | omega | (simp <;> omega) | fail)) [e0,hld,hxr,ho,-List.getD_eq_getElem?_getD] <;> rfl) ?_)
   exact .done rfl)) rfl ?_
  rw [Zeu hb3 (by simp [hb1,hb2,hb3]) (by simp)];exact ih (i+1) _ qO (by simpa using ho)
def invR (p:List Int):List Int:=if Z1f p=true then inv p else [0,0,0,0]
theorem Zes (p:List Int) (hp:p.length=4) (h:FH) (c:Nat) (df:List Nat) :
 G (.fn 45) [av p] h c df=some ⟨.ret,[av (invR p)],h,c,[]⟩:=by
 refine Z6u (fun r e=>f45_go e) (by simp) ?_;have e1:p.take 4=p:=qH qO;have hv:=fun h c=>Z1h p hp h c
 unfold ZjO invR
 by_cases hb:Z1f p=true
 · rw [if_pos hb];rw [hb] at hv;have hl:=ZcO p hp (Z2B hb) (newB (newB h (256*c) (ints p)) (256*c+1) (ints [0,0,0,0])) (256*c) (256*c+1) (256*(c+1)) (c+1+1+1+1) qO qO qO qO
    (Z0d.newB_ne qO (Z0d.newB_same _ _ _)) [] 4 0 [0,0,0,0] rfl rfl
   have hl2:(ZhF p 0 [0,0,0,0]).length=4:=Z40 p 0 [0,0,0,0];have e2:(ZhF p 0 [0,0,0,0]).take 4=ZhF p 0 [0,0,0,0]:=qH qO;simp only [ZdH,Zgm,qC,qF,qM] at hl;simp (disch:=(first | omega | (simp <;> omega) | fail)) [hl,e1,e2,hp,hl2,inv,hv]
 · rw [if_neg hb];have hb':Z1f p=false:=by simpa using hb
   rw [hb'] at hv;have hz:[Value.int .i64 0,Value.int .i64 0,Value.int .i64 0,Value.int .i64 0]=ints [0,0,0,0]:=rfl;rw [hz]
   repeat (first | (with_reducible refine Ans.bt ?_ ?_; exact rfl) | (with_reducible refine Ans.bf ?_ ?_; exact rfl) | (with_reducible refine Ans.ct ?_ ?_; focus (simp; done)) | (with_reducible refine Ans.cf ?_ ?_; focus (simp; done)) | refine Ans.step (by simp (disch:=(first | omega | (simp <;> omega) | fail)) [e1,hp,hv,-List.getD_eq_getElem?_getD] <;> rfl) ?_)
   refine .done ⟨rfl,rfl, ?_,rfl⟩;simp (disch:=omega)

theorem ZnN (a0 a1 a2 a3 b0 b1 b2 b3:Int):Z0O P .eql 42 (av [a0,a1,a2,a3]) (av [b0,b1,b2,b3]) =
 (cond (a0 == b0) (cond (a1 == b1) (cond (a2 == b2) (cond (a3 == b3) (some true) (some false)) (some false)) (some false)) (some false)).bind fun b=>some (.bool b):=by kernel_rfl
theorem Z4c (x y:List Int) (hx:x.length=4) (hy:y.length=4):Z00 P .eql 42 (av x) (av y)=some (.bool (decide (x=y))):=by
 match x,hx,y,hy with
 | [a0,a1,a2,a3],_,[b0,b1,b2,b3],_ =>
  rw [Z0A,ZnN]
  by_cases h0:a0=b0 <;> by_cases h1:a1=b1 <;> by_cases h2:a2=b2 <;> by_cases h3:a3=b3 <;> simp [h0,h1,h2,h3,Bool.cond_eq_ite]
theorem ZaL (p:List Int) (hp:p.length=4) (h:FH) (c:Nat):callF G 45 [av p] h c=some (av (invR p),h,c):=Z05 (Zes p hp h c [])
theorem Z9E {x:Option Nat} {h1 h2:FH} (e:∀ i,x=some i->h1.f i=h2.f i):Z1y x h1 h2=true:=by
 cases x with
 | none=>rfl
 | some i =>
  show @decide (h1.f i=h2.f i) (Classical.propDecidable _)=true;exact @decide_eq_true _ (Classical.propDecidable _) (e i rfl)
theorem Zb8 {x:List Int} (hx:x.length=5):x=Z0D x::Z0v x:=by
 match x,hx with
 | [a,b,c,d,e],_=>rfl
theorem Zf9 (s:Value) (n:Nat) (Gl:List Int) (gb c:Nat) (h:FH) (t f:Nat) (ht:t<n) (hf:f<4) (hgb:gb<256*c)
 (h1:Z0d h gb [s]) (h2:SlI h c s 20 n Gl) (v2:Value) (df:List Nat) :
 Ans (Z20 G none (ptrTo gb) v2 (.int .i64 n) (.int .i64 t) (.int .i64 f) h c df) fun r=>r.df=df/\Z0l c h r.h ∧
  r.e=(if Z0y Gl n t f=true then .normal else .ret)/\r.vs=(if Z0y Gl n t f=true then [ptrTo gb,v2,.int .i64 n,.int .i64 t,.int .i64 (f+1:Nat)] else [ptrTo gb,.int .i64 7,.int .i64 n,.int .i64 t,.int .i64 f]):=by
 have hx:=Z0i h2.1 ht hf;have hp:=Z1g hx;have hsp:=Zb8 hx;have ht5:(Z04 Gl t f).take 5=Z04 Gl t f:=qH qO;have ft:(f:Int)<4:=qO;obtain ⟨b,o,cs,x1,x2,x3,x4⟩:=h2.ix .i64 (t:Int) qO qO;have hface:∀ u j:Int,0<=u->u<n->0<=j->j<4 -> ∃ b o,ixS 20 s (.int .i64 u)=some (.pointer (some ⟨b,o+u.toNat*20,none⟩))/\(∀ H:FH,(∀ i,i<256*c->H.f i=h.f i)->ldN H 5 (.pointer (some ⟨b,o+u.toNat*20+j.toNat*5,none⟩))=some (av (Z04 Gl u.toNat j.toNat)))/\b<256*c:=by
  intro u j u1 u2 j1 j2;obtain ⟨b,o,cs,x1,x2,x3,x4⟩:=h2.ix .i64 u u1 u2;refine ⟨b,o,x1,fun H hH=>?_,x2⟩;have:=h2.1;have x3':Z0d H b cs:=by
   obtain ⟨ro,op,e⟩:=x3;exact ⟨ro,op,(hH b x2).trans e⟩
  rw [Nat.add_assoc,ZcL x3' x4 (j:=u.toNat*20+j.toNat*5) (q:=5) qO qO];unfold Z04;rw [Nat.mul_comm 20,Nat.mul_comm 5]
 obtain ⟨fb,fo,y1,y2,y3⟩:=hface t f qO qO qO qO;have y2h:=y2 h (fun i hi=>rfl);simp only [qE] at y1 y2h;have e2:ld1 h (.pointer (some ⟨gb,0,none⟩))=some s:=by rw [Z02 h1]; rfl
 obtain ⟨H,hH⟩:∃ H,H=newB h (256*(c+1)+7) (ints (Z04 Gl t f)):=⟨_,rfl⟩;have hst:stN (newB h (256*(c+1)+7) [.int .i64 0,.int .i64 0,.int .i64 0,.int .i64 0,.int .i64 0]) 5 (.pointer (some ⟨256*(c+1)+7,0,none⟩)) (av (Z04 Gl t f))=some H:=by
  rw [stN_all _ _ 5 _ _ hx rfl,hH]
 have hS:Z0l c h H:=by rw [hH]; exact (Same_newB qO).2 (Z0l.refl _ _)
 have hB:Z0d H (256*(c+1)+7) (ints (Z04 Gl t f)):=by rw [hH]; exact Z0d.newB_same _ _ _
 have b1:ld1 H (.pointer (some ⟨256*(c+1)+7,0,none⟩))=some (.int .i64 (Z0D (Z04 Gl t f))):=by
  rw [Z02 hB,Z4V,qI qO];simp [Z0D,List.getD,qI (by omega:0<(Z04 Gl t f).length)]
 have b2:ldN H 4 (.pointer (some ⟨256*(c+1)+7,1,none⟩))=some (av (Z0v (Z04 Gl t f))):=by
  rw [ldN_holds hB (by simp [hx])]; rw [Z1G,Z1e]; rfl
 have b3:ld1 H (.pointer (some ⟨256*(c+1)+7,1+f,none⟩))=some (.int .i64 ((Z0v (Z04 Gl t f)).getD f 0)):=by
  have hlt:1+f<(Z04 Gl t f).length:=qO;rw [Z02 hB,Z4V,qI hlt];unfold Z0v;rw [Z2D _ _ _ hf,Z26];simp [List.getD,qI hlt]
 have e2':ld1 H (.pointer (some ⟨gb,0,none⟩))=some s:=by
  rw [Z02 (cs:=[s]) (by obtain ⟨ro,op,e⟩:=h1; exact ⟨ro,op,(hS gb hgb).trans e⟩)]; rfl
 have hzz:Z1K [.int .i64 0,.int .i64 0,.int .i64 0,.int .i64 0] []=some (av [0,0,0,0]):=rfl;have hz4:([0,0,0,0]:List Int).length=4:=rfl;have hq:∀ (x:Option Nat),Z1y x H H=true:=fun x=>Z9E fun i _=>rfl
 clear hH;obtain ⟨F,hF⟩:=jN (Z04 Gl t f);rw [hF] at hx hp hsp ht5 y2h hst b1 b2 b3;obtain ⟨X,hX⟩:=jN (Z0D F);obtain ⟨Y,hY⟩:=jN (Z0v F);rw [hX] at b1 hsp;rw [hY] at b2 b3 hsp hp;have okE:Z0y Gl n t f=(decide (X = -1/\Y=[0,0,0,0]) || (decide (0<=X) && decide (X<n) && Z1f Y && !(decide (X=t) && decide (Y.getD f 0=f)) && decide (Z04 Gl X.toNat (Y.getD f 0).toNat=(t:Int)::inv Y))):=by
  unfold Z0y;rw [hF,hX,hY];congr 1;rw [hsp];simp [Z7S]
 have hnl:(t:Int)::inv Y=(t:Int)::inv Y:=rfl;unfold Z20
 repeat (first | (with_reducible refine Ans.bt ?_ ?_; exact rfl) | (with_reducible refine Ans.bf ?_ ?_; exact rfl) | (with_reducible refine Ans.ct ?_ ?_; focus (simp; done)) | (with_reducible refine Ans.cf ?_ ?_; focus (simp; done)) | refine Ans.step (by simp (disch:=(first | omega | (simp <;> omega) | fail)) [ft,-List.getD_eq_getElem?_getD] <;> rfl) ?_)
 refine Ans.bind ?_
 by_cases q1:X = -1
 · have q1':=eq_true q1;have q0:=eq_true (show X<0 by omega)
   by_cases q2:Y=[0,0,0,0]
   · have ok:Z0y Gl n t f=true:=by rw [okE]; simp [q1,q2]
     rw [ok];have q2':=eq_true q2
     repeat (first | (with_reducible refine Ans.bt ?_ ?_; exact rfl) | (with_reducible refine Ans.bf ?_ ?_; exact rfl) | (with_reducible refine Ans.ct ?_ ?_; focus (simp; done)) | (with_reducible refine Ans.cf ?_ ?_; focus (simp; done)) | refine Ans.step (by simp (disch:=(first | omega | (simp <;> omega) | fail)) [ft,e2,y1,y2h,hst,b1,b2,hzz,hz4,Z4c,hp,q1',q2',-List.getD_eq_getElem?_getD] <;> rfl) ?_)
     refine .done ?_
     repeat (first | (with_reducible refine Ans.bt ?_ ?_; exact rfl) | (with_reducible refine Ans.bf ?_ ?_; exact rfl) | (with_reducible refine Ans.ct ?_ ?_; focus (simp; done)) | (with_reducible refine Ans.cf ?_ ?_; focus (simp; done)) | refine Ans.step (by simp (disch:=(first | omega | (simp <;> omega) | fail)) [ft,-List.getD_eq_getElem?_getD] <;> rfl) ?_)
     exact .done ⟨rfl,hS,by simp,by simp⟩
   · have ok:Z0y Gl n t f=false:=by rw [okE]; simp [q1,q2]
     rw [ok]
     repeat (first | (with_reducible refine Ans.bt ?_ ?_; exact rfl) | (with_reducible refine Ans.bf ?_ ?_; exact rfl) | (with_reducible refine Ans.ct ?_ ?_; focus (simp; done)) | (with_reducible refine Ans.cf ?_ ?_; focus (simp; done)) | refine Ans.step (by simp (disch:=(first | omega | (simp <;> omega) | fail)) [ft,e2,y1,y2h,hst,b1,b2,hzz,hz4,Z4c,hp,q1',q2,q0,-List.getD_eq_getElem?_getD] <;> rfl) ?_)
     refine .done ?_
     repeat (first | (with_reducible refine Ans.bt ?_ ?_; exact rfl) | (with_reducible refine Ans.bf ?_ ?_; exact rfl) | (with_reducible refine Ans.ct ?_ ?_; focus (simp; done)) | (with_reducible refine Ans.cf ?_ ?_; focus (simp; done)) | refine Ans.step (by simp (disch:=(first | omega | (simp <;> omega) | fail)) [ft,-List.getD_eq_getElem?_getD] <;> rfl) ?_)
     exact .done ⟨rfl,hS,by simp,by simp⟩
 by_cases q3:X<0
 · have ok:Z0y Gl n t f=false:=by
    have:¬ 0<=X:=qO;rw [okE]; simp [q1,this]
   rw [ok]
   repeat (first | (with_reducible refine Ans.bt ?_ ?_; exact rfl) | (with_reducible refine Ans.bf ?_ ?_; exact rfl) | (with_reducible refine Ans.ct ?_ ?_; focus (simp; done)) | (with_reducible refine Ans.cf ?_ ?_; focus (simp; done)) | refine Ans.step (by simp (disch:=(first | omega | (simp <;> omega) | fail)) [ft,e2,y1,y2h,hst,b1,b2,hzz,hz4,Z4c,hp,q1,q3,-List.getD_eq_getElem?_getD] <;> rfl) ?_)
   refine .done ?_
   repeat (first | (with_reducible refine Ans.bt ?_ ?_; exact rfl) | (with_reducible refine Ans.bf ?_ ?_; exact rfl) | (with_reducible refine Ans.ct ?_ ?_; focus (simp; done)) | (with_reducible refine Ans.cf ?_ ?_; focus (simp; done)) | refine Ans.step (by simp (disch:=(first | omega | (simp <;> omega) | fail)) [ft,-List.getD_eq_getElem?_getD] <;> rfl) ?_)
   exact .done ⟨rfl,hS,by simp,by simp⟩
 by_cases q4:(n:Int)<=X
 · have ok:Z0y Gl n t f=false:=by
    have:¬ X<n:=qO;rw [okE]; simp [q1,this]
   rw [ok]
   repeat (first | (with_reducible refine Ans.bt ?_ ?_; exact rfl) | (with_reducible refine Ans.bf ?_ ?_; exact rfl) | (with_reducible refine Ans.ct ?_ ?_; focus (simp; done)) | (with_reducible refine Ans.cf ?_ ?_; focus (simp; done)) | refine Ans.step (by simp (disch:=(first | omega | (simp <;> omega) | fail)) [ft,e2,y1,y2h,hst,b1,b2,hzz,hz4,Z4c,hp,q1,q3,q4,-List.getD_eq_getElem?_getD] <;> rfl) ?_)
   refine .done ?_
   repeat (first | (with_reducible refine Ans.bt ?_ ?_; exact rfl) | (with_reducible refine Ans.bf ?_ ?_; exact rfl) | (with_reducible refine Ans.ct ?_ ?_; focus (simp; done)) | (with_reducible refine Ans.cf ?_ ?_; focus (simp; done)) | refine Ans.step (by simp (disch:=(first | omega | (simp <;> omega) | fail)) [ft,-List.getD_eq_getElem?_getD] <;> rfl) ?_)
   exact .done ⟨rfl,hS,by simp,by simp⟩
 cases q5:Z1f Y with
 | false =>
  have ok:Z0y Gl n t f=false:=by rw [okE]; simp [q1,q5]
  rw [ok]
  repeat (first | (with_reducible refine Ans.bt ?_ ?_; exact rfl) | (with_reducible refine Ans.bf ?_ ?_; exact rfl) | (with_reducible refine Ans.ct ?_ ?_; focus (simp; done)) | (with_reducible refine Ans.cf ?_ ?_; focus (simp; done)) | refine Ans.step (by simp (disch:=(first | omega | (simp <;> omega) | fail)) [ft,e2,y1,y2h,hst,b1,b2,hzz,hz4,Z4c,hp,q1,q3,q4,q5,Z1h,-List.getD_eq_getElem?_getD] <;> rfl) ?_)
  refine .done ?_
  repeat (first | (with_reducible refine Ans.bt ?_ ?_; exact rfl) | (with_reducible refine Ans.bf ?_ ?_; exact rfl) | (with_reducible refine Ans.ct ?_ ?_; focus (simp; done)) | (with_reducible refine Ans.cf ?_ ?_; focus (simp; done)) | refine Ans.step (by simp (disch:=(first | omega | (simp <;> omega) | fail)) [ft,-List.getD_eq_getElem?_getD] <;> rfl) ?_)
  exact .done ⟨rfl,hS,by simp,by simp⟩
 | true =>
  have hr:=Z2B q5;have hpr:0<=Y.getD f 0/\Y.getD f 0<4:=by
   have hlt:f<Y.length:=qO;have:=hr _ (List.getElem_mem hlt);simpa [List.getD,qI hlt] using this
  have c1:∀ H c,callF G 45 [av Y] H c=some (av (inv Y),H,c):=fun H c=>by
   rw [ZaL Y hp,invR,if_pos q5]
  have hil:(inv Y).length=4:=Z40 Y 0 [0,0,0,0]
  by_cases q6:X=t
  · by_cases q7:Y.getD f 0=f
    · have ok:Z0y Gl n t f=false:=by rw [okE]; simp [q1,q6,q7,-List.getD_eq_getElem?_getD]
      rw [ok];have q6':=eq_true q6;have q7':=eq_true q7
      repeat (first | (with_reducible refine Ans.bt ?_ ?_; exact rfl) | (with_reducible refine Ans.bf ?_ ?_; exact rfl) | (with_reducible refine Ans.ct ?_ ?_; focus (simp; done)) | (with_reducible refine Ans.cf ?_ ?_; focus (simp; done)) | refine Ans.step (by simp (disch:=(first | omega | (simp <;> omega) | fail)) [ft,e2,y1,y2h,hst,b1,b2,b3,hzz,hz4,Z4c,hp,q1,q3,q4,q5,Z1h,q6',q7',-List.getD_eq_getElem?_getD] <;> rfl) ?_)
      refine .done ?_
      repeat (first | (with_reducible refine Ans.bt ?_ ?_; exact rfl) | (with_reducible refine Ans.bf ?_ ?_; exact rfl) | (with_reducible refine Ans.ct ?_ ?_; focus (simp; done)) | (with_reducible refine Ans.cf ?_ ?_; focus (simp; done)) | refine Ans.step (by simp (disch:=(first | omega | (simp <;> omega) | fail)) [ft,-List.getD_eq_getElem?_getD] <;> rfl) ?_)
      exact .done ⟨rfl,hS,by simp,by simp⟩
    · have q6':=eq_true q6;obtain ⟨gb2,go,z1,z2,z3⟩:=hface X (Y.getD f 0) qO qO hpr.1 hpr.2;have z2h:=z2 H (fun i hi=>hS i hi);have hfl:=Z0i (t:=X.toNat) (f:=(Y.getD f 0).toNat) h2.1 qO qO;have hbl:=ZqG (t:Int) (inv Y) hil;have hneq:=Z5W (Z04 Gl X.toNat (Y.getD f 0).toNat) ((t:Int)::inv Y) hfl (by simp [hil])
      by_cases q8:Z04 Gl X.toNat (Y.getD f 0).toNat=(t:Int)::inv Y
      · have ok:Z0y Gl n t f=true:=by
         have a1:0<=X:=qO;have a2:X<n:=qO;rw [okE,decide_eq_true q8]; simp [a1,a2,q5,q7,-List.getD_eq_getElem?_getD]
        rw [ok];rw [decide_eq_true q8] at hneq
        repeat (first | (with_reducible refine Ans.bt ?_ ?_; exact rfl) | (with_reducible refine Ans.bf ?_ ?_; exact rfl) | (with_reducible refine Ans.ct ?_ ?_; focus (simp; done)) | (with_reducible refine Ans.cf ?_ ?_; focus (simp; done)) | refine Ans.step (by simp (disch:=(first | omega | (simp <;> omega) | fail)) [ft,e2,e2',y1,y2h,hst,b1,b2,b3,hzz,hz4,Z4c,hp,q1,q3,q4,q5,Z1h,q6',q7,c1,z1,z2h,hbl,hneq,hq,hpr,-List.getD_eq_getElem?_getD] <;> rfl) ?_)
        refine .done ?_
        repeat (first | (with_reducible refine Ans.bt ?_ ?_; exact rfl) | (with_reducible refine Ans.bf ?_ ?_; exact rfl) | (with_reducible refine Ans.ct ?_ ?_; focus (simp; done)) | (with_reducible refine Ans.cf ?_ ?_; focus (simp; done)) | refine Ans.step (by simp (disch:=(first | omega | (simp <;> omega) | fail)) [ft,-List.getD_eq_getElem?_getD] <;> rfl) ?_)
        exact .done ⟨rfl,hS,by simp,by simp⟩
      · have ok:Z0y Gl n t f=false:=by rw [okE,decide_eq_false q8]; simp [q1]
        rw [ok];rw [decide_eq_false q8] at hneq
        repeat (first | (with_reducible refine Ans.bt ?_ ?_; exact rfl) | (with_reducible refine Ans.bf ?_ ?_; exact rfl) | (with_reducible refine Ans.ct ?_ ?_; focus (simp; done)) | (with_reducible refine Ans.cf ?_ ?_; focus (simp; done)) | refine Ans.step (by simp (disch:=(first | omega | (simp <;> omega) | fail)) [ft,e2,e2',y1,y2h,hst,b1,b2,b3,hzz,hz4,Z4c,hp,q1,q3,q4,q5,Z1h,q6',q7,c1,z1,z2h,hbl,hneq,hq,hpr,-List.getD_eq_getElem?_getD] <;> rfl) ?_)
        refine .done ?_
        repeat (first | (with_reducible refine Ans.bt ?_ ?_; exact rfl) | (with_reducible refine Ans.bf ?_ ?_; exact rfl) | (with_reducible refine Ans.ct ?_ ?_; focus (simp; done)) | (with_reducible refine Ans.cf ?_ ?_; focus (simp; done)) | refine Ans.step (by simp (disch:=(first | omega | (simp <;> omega) | fail)) [ft,-List.getD_eq_getElem?_getD] <;> rfl) ?_)
        exact .done ⟨rfl,hS,by simp,by simp⟩
  · obtain ⟨gb2,go,z1,z2,z3⟩:=hface X (Y.getD f 0) qO qO hpr.1 hpr.2;have z2h:=z2 H (fun i hi=>hS i hi);have hfl:=Z0i (t:=X.toNat) (f:=(Y.getD f 0).toNat) h2.1 qO qO;have hbl:=ZqG (t:Int) (inv Y) hil;have hneq:=Z5W (Z04 Gl X.toNat (Y.getD f 0).toNat) ((t:Int)::inv Y) hfl (by simp [hil])
    by_cases q8:Z04 Gl X.toNat (Y.getD f 0).toNat=(t:Int)::inv Y
    · have ok:Z0y Gl n t f=true:=by
       have a1:0<=X:=qO;have a2:X<n:=qO;rw [okE,decide_eq_true q8]; simp [a1,a2,q5,q6]
      rw [ok];rw [decide_eq_true q8] at hneq
      repeat (first | (with_reducible refine Ans.bt ?_ ?_; exact rfl) | (with_reducible refine Ans.bf ?_ ?_; exact rfl) | (with_reducible refine Ans.ct ?_ ?_; focus (simp; done)) | (with_reducible refine Ans.cf ?_ ?_; focus (simp; done)) | refine Ans.step (by simp (disch:=(first | omega | (simp <;> omega) | fail)) [ft,e2,e2',y1,y2h,hst,b1,b2,b3,hzz,hz4,Z4c,hp,q1,q3,q4,q5,Z1h,q6,c1,z1,z2h,hbl,hneq,hq,hpr,-List.getD_eq_getElem?_getD] <;> rfl) ?_)
      refine .done ?_
      repeat (first | (with_reducible refine Ans.bt ?_ ?_; exact rfl) | (with_reducible refine Ans.bf ?_ ?_; exact rfl) | (with_reducible refine Ans.ct ?_ ?_; focus (simp; done)) | (with_reducible refine Ans.cf ?_ ?_; focus (simp; done)) | refine Ans.step (by simp (disch:=(first | omega | (simp <;> omega) | fail)) [ft,-List.getD_eq_getElem?_getD] <;> rfl) ?_)
      exact .done ⟨rfl,hS,by simp,by simp⟩
    · have ok:Z0y Gl n t f=false:=by rw [okE,decide_eq_false q8]; simp [q1]
      rw [ok];rw [decide_eq_false q8] at hneq
      repeat (first | (with_reducible refine Ans.bt ?_ ?_; exact rfl) | (with_reducible refine Ans.bf ?_ ?_; exact rfl) | (with_reducible refine Ans.ct ?_ ?_; focus (simp; done)) | (with_reducible refine Ans.cf ?_ ?_; focus (simp; done)) | refine Ans.step (by simp (disch:=(first | omega | (simp <;> omega) | fail)) [ft,e2,e2',y1,y2h,hst,b1,b2,b3,hzz,hz4,Z4c,hp,q1,q3,q4,q5,Z1h,q6,c1,z1,z2h,hbl,hneq,hq,hpr,-List.getD_eq_getElem?_getD] <;> rfl) ?_)
      refine .done ?_
      repeat (first | (with_reducible refine Ans.bt ?_ ?_; exact rfl) | (with_reducible refine Ans.bf ?_ ?_; exact rfl) | (with_reducible refine Ans.ct ?_ ?_; focus (simp; done)) | (with_reducible refine Ans.cf ?_ ?_; focus (simp; done)) | refine Ans.step (by simp (disch:=(first | omega | (simp <;> omega) | fail)) [ft,-List.getD_eq_getElem?_getD] <;> rfl) ?_)
      exact .done ⟨rfl,hS,by simp,by simp⟩

theorem Zkh (s:Value) (n:Nat) (Gl:List Int) (gb c:Nat) (h:FH) (t:Nat) (ht:t<n) (hgb:gb<256*c)
 (h1:Z0d h gb [s]) (h2:SlI h c s 20 n Gl) (df:List Nat):∀ (k f:Nat),f+k=4 →
 ((∀ j,f<=j->j<4->Z0y Gl n t j=true)/\G (Z3P none) [ptrTo gb,.int .i64 0,.int .i64 n,.int .i64 t,.int .i64 f] h c df=some ⟨.exit 2,[ptrTo gb,.int .i64 0,.int .i64 n,.int .i64 t,.int .i64 4],h,c,df⟩) ∨
 ((∃ j,f<=j/\j<4/\Z0y Gl n t j=false) /\ ∃ f':Nat,G (Z3P none) [ptrTo gb,.int .i64 0,.int .i64 n,.int .i64 t,.int .i64 f] h c df=some ⟨.ret,[ptrTo gb,.int .i64 7,.int .i64 n,.int .i64 t,.int .i64 f'],h,c,df⟩):=by
 intro k
 induction k with
 | zero =>
  intro f hf;obtain rfl:f=4:=qO;refine .inl ⟨fun j h1 h2=>qO, ?_⟩;refine (Zch (q:=⟨.exit 2,[ptrTo gb,.int .i64 0,.int .i64 n,.int .i64 t,.int .i64 4],h,c+1,df⟩) (by unfold Z20; simp) (by simp)).trans ?_;rw [Z1z (by simp [hgb])]
 | succ k ih =>
  intro f hf;obtain ⟨⟨re,rv,rh,rc,rd⟩,hr,r1,r2,r3,r4⟩:=Zf9 s n Gl gb c h t f ht qO hgb h1 h2 (.int .i64 0) df;simp only at r1 r2 r3 r4;subst r1
  cases ok:Z0y Gl n t f with
  | true =>
   rw [ok] at r3 r4;simp only [if_true] at r3 r4;subst r3 r4;have hg:gcR h c rd ⟨.normal,[ptrTo gb,.int .i64 0,.int .i64 n,.int .i64 t,.int .i64 (f+1:Nat)],rh,rc,rd⟩=_:=Z5Y (by simp [hgb]) r2;rcases ih (f+1) qO with ⟨a,b⟩ | ⟨⟨j,j1,j2,j3⟩,f',b⟩
   · refine .inl ⟨fun j h1 h2=>?_,Zcj hr rfl (by rw [hg]; exact b)⟩
     by_cases hj:j=f
     · rw [hj]; exact ok
     · exact a j qO h2
   · exact .inr ⟨⟨j,qO,j2,j3⟩,f',Zcj hr rfl (by rw [hg]; exact b)⟩
  | false =>
   rw [ok] at r3 r4;simp only [Bool.false_eq_true,if_false] at r3 r4;subst r3 r4;refine .inr ⟨⟨f,qG _,qO,ok⟩,f,(Zch hr (by simp)).trans ?_⟩;rw [Z5Y (by simp [hgb]) r2]
theorem SlI.up {h:FH} {c c':Nat} {s:Value} {sz n:Nat} {Gl:List Int} (hs:SlI h c s sz n Gl) (hc:c<=c'):SlI h c' s sz n Gl:=hs.mono hc
theorem Zig (s:Value) (n:Nat) (Gl:List Int) (gb c:Nat) (h:FH) (hgb:gb<256*c)
 (h1:Z0d h gb [s]) (h2:SlI h c s 20 n Gl) (hn:n<=1000) (df:List Nat):∀ (k t:Nat),t+k=n →
 ((∀ u j,t<=u->u<n->j<4->Z0y Gl n u j=true)/\G (Z3Q none) [ptrTo gb,.int .i64 0,.int .i64 n,.int .i64 t] h c df=some ⟨.exit 0,[ptrTo gb,.int .i64 0,.int .i64 n,.int .i64 n],h,c,df⟩) ∨
 ((∃ u j,t<=u/\u<n/\j<4/\Z0y Gl n u j=false) /\ ∃ t':Nat,G (Z3Q none) [ptrTo gb,.int .i64 0,.int .i64 n,.int .i64 t] h c df=some ⟨.ret,[ptrTo gb,.int .i64 7,.int .i64 n,.int .i64 t'],h,c,df⟩):=by
 intro k
 induction k with
 | zero =>
  intro t ht;obtain rfl:t=n:=qO;refine .inl ⟨fun u j h1 h2=>qO, ?_⟩;refine (Zci (q:=⟨.exit 0,[ptrTo gb,.int .i64 0,.int .i64 t,.int .i64 t],h,c+1,df⟩) (by unfold Z1n; simp) (by simp)).trans ?_;rw [Z1z (by simp [hgb])]
 | succ k ih =>
  intro t ht;have e0:(t:Int)<n:=qO;have hin:=Zkh s n Gl gb (c+1+1) h t qO qO h1 (h2.mono qO) df 4 0 rfl;simp only [qC,qF] at hin;rcases hin with ⟨a,b⟩ | ⟨⟨j,j1,j2,j3⟩,f',b⟩
  · have step:Z1n G none (ptrTo gb) (.int .i64 0) (.int .i64 n) (.int .i64 t) h c df=some ⟨.normal,[ptrTo gb,.int .i64 0,.int .i64 n,.int .i64 (t+1:Nat)],h,c+1+1+1,df⟩:=by
     apply Ans.eq;unfold Z1n
     repeat (first | (with_reducible refine Ans.bt ?_ ?_; exact rfl) | (with_reducible refine Ans.bf ?_ ?_; exact rfl) | (with_reducible refine Ans.ct ?_ ?_; focus (simp; done)) | (with_reducible refine Ans.cf ?_ ?_; focus (simp; done)) | refine Ans.step (by simp (disch:=(first | omega | (simp <;> omega) | fail)) [e0,b,-List.getD_eq_getElem?_getD] <;> rfl) ?_)
     exact .done rfl
    have hg:gcR h c df ⟨.normal,[ptrTo gb,.int .i64 0,.int .i64 n,.int .i64 (t+1:Nat)],h,c+1+1+1,df⟩=_:=Z1z (by simp [hgb]);rcases ih (t+1) qO with ⟨a2,b2⟩ | ⟨⟨u,j,u1,u2,u3,u4⟩,t',b2⟩
    · refine .inl ⟨fun u j h1 h2 h3=>?_,Zck step rfl (by rw [hg]; exact b2)⟩
      by_cases hu:u=t
      · rw [hu]; exact a j (Nat.zero_le _) h3
      · exact a2 u j qO h2 h3
    · exact .inr ⟨⟨u,j,qO,u2,u3,u4⟩,t',Zck step rfl (by rw [hg]; exact b2)⟩
  · refine .inr ⟨⟨t,j,qG _,qO,j2,j3⟩,t, ?_⟩;have step:Z1n G none (ptrTo gb) (.int .i64 0) (.int .i64 n) (.int .i64 t) h c df=some ⟨.ret,[ptrTo gb,.int .i64 7,.int .i64 n,.int .i64 t],h,c+1+1,df⟩:=by
     apply Ans.eq;unfold Z1n
     repeat (first | (with_reducible refine Ans.bt ?_ ?_; exact rfl) | (with_reducible refine Ans.bf ?_ ?_; exact rfl) | (with_reducible refine Ans.ct ?_ ?_; focus (simp; done)) | (with_reducible refine Ans.cf ?_ ?_; focus (simp; done)) | refine Ans.step (by simp (disch:=(first | omega | (simp <;> omega) | fail)) [e0,b,-List.getD_eq_getElem?_getD] <;> rfl) ?_)
     exact .done rfl
    refine (Zci step (by simp)).trans ?_;rw [Z1z (by simp [hgb])]
theorem Z7y (s:Value) (n:Nat) (Gl:List Int) (h:FH) (c:Nat) (df:List Nat) (hs:SlI h c s 20 n Gl) :
 G (.fn 14) [.agg #[s]] h c df=some ⟨.ret,[.int .i64 (if n<=1000/\Z0w Gl n=true then 0 else 7)],h,c,[]⟩:=by
 refine Z6u (fun r e=>f14_go e) (by simp) ?_;have hflat:((Value.agg #[s]).cells.toList.all Z08)=true:=by
  obtain ⟨_,_,a,cap,rfl,_⟩:=hs;rfl
 have hcell:(Value.agg #[s]).cells.toList=[s]:=rfl;have hlen:=hs.len;unfold Zk0;rw [hflat,hcell];simp only [cond_true]
 by_cases hn:n<=1000
 · have hn':¬ (1000:Int)<n:=qO;have hsl:SlI (newB h (256*c) [s]) (c+1+1+1+1) s 20 n Gl:=(hs.same ((Same_newB qO).2 (Z0l.refl _ _))).mono qO;have ho:=Zig s n Gl (256*c) (c+1+1+1+1) (newB h (256*c) [s]) qO (Z0d.newB_same _ _ _) hsl hn [] n 0 qO;simp only [qC,qF] at ho;rcases ho with ⟨a,b⟩ | ⟨⟨u,j,u1,u2,u3,u4⟩,t',b⟩
   · have ok:Z0w Gl n=true:=by
      rw [Z5J];intro j hj;exact a (j / 4) (j % 4) (Nat.zero_le _) qO qO
     rw [if_pos ⟨hn,ok⟩]
     repeat (first | (with_reducible refine Ans.bt ?_ ?_; exact rfl) | (with_reducible refine Ans.bf ?_ ?_; exact rfl) | (with_reducible refine Ans.ct ?_ ?_; focus (simp; done)) | (with_reducible refine Ans.cf ?_ ?_; focus (simp; done)) | refine Ans.step (by simp (disch:=(first | omega | (simp <;> omega) | fail)) [hlen,hn',b,-List.getD_eq_getElem?_getD] <;> rfl) ?_)
     refine .done ⟨rfl,rfl, ?_,rfl⟩;simp (disch:=omega)
   · have ok:¬ (n<=1000/\Z0w Gl n=true):=by
      rintro ⟨_,ok⟩
      rw [Z5J] at ok;have:=ok (4*u+j) qO;have e1:(4*u+j) / 4=u:=qO;have e2:(4*u+j) % 4=j:=qO;rw [e1,e2,u4] at this
      cases this
     rw [if_neg ok]
     repeat (first | (with_reducible refine Ans.bt ?_ ?_; exact rfl) | (with_reducible refine Ans.bf ?_ ?_; exact rfl) | (with_reducible refine Ans.ct ?_ ?_; focus (simp; done)) | (with_reducible refine Ans.cf ?_ ?_; focus (simp; done)) | refine Ans.step (by simp (disch:=(first | omega | (simp <;> omega) | fail)) [hlen,hn',b,-List.getD_eq_getElem?_getD] <;> rfl) ?_)
     refine .done ⟨rfl,rfl, ?_,rfl⟩;simp (disch:=omega)
 · have hn':(1000:Int)<n:=qO;rw [if_neg (fun h=>hn h.1)]
   repeat (first | (with_reducible refine Ans.bt ?_ ?_; exact rfl) | (with_reducible refine Ans.bf ?_ ?_; exact rfl) | (with_reducible refine Ans.ct ?_ ?_; focus (simp; done)) | (with_reducible refine Ans.cf ?_ ?_; focus (simp; done)) | refine Ans.step (by simp (disch:=(first | omega | (simp <;> omega) | fail)) [hlen,hn',-List.getD_eq_getElem?_getD] <;> rfl) ?_)
   refine .done ⟨rfl,rfl, ?_,rfl⟩;simp (disch:=omega)

theorem ZkO (p:List Int) (hp:p.length=4) (h:FH) (b c j:Nat) (hb:b<256*c) (hj:j<4) (hg:Z0d h b (ints p)) (df:List Nat) :
 ∀ (r i:Nat) (s:Int),i+r=j->(s=1 ∨ s = -1)->Ans (G (ZbW none) [ptrTo b,.int .i64 s,.int .i64 j,.int .i64 i] h c df) fun q=>q=⟨.exit 2,[ptrTo b,.int .i64 (sgI p j r i s),.int .i64 j,.int .i64 j],h,c,df⟩:=by
 intro r;have l2:ld1 h (.pointer (some ⟨b,j,none⟩))=some (.int .i64 (p.getD j 0)):=by rw [Z02 hg,ints_getD _ _ qO]
 have j4:(j:Int)<4:=qO
 induction r with
 | zero =>
  intro i s hi hs;obtain rfl:i=j:=qO;refine Ans.lpG rfl rfl (Z7o ..) ?_;unfold Z8Z;have fx:=True.intro;refine Ans.go ?_;clear fx
  (have fx:=hb; refine Ans.ex0 ?_; clear fx)
  rfl
 | succ r ih =>
  intro i s hi hs;have l1:ld1 h (.pointer (some ⟨b,i,none⟩))=some (.int .i64 (p.getD i 0)):=by rw [Z02 hg,ints_getD _ _ qO]
  rw [sgI];obtain ⟨x,hx⟩:=jN (p.getD i 0);obtain ⟨y,hy⟩:=jN (p.getD j 0);rw [hx] at l1 ⊢;rw [hy] at l2 ⊢;refine Ans.lpG rfl rfl (Z7o ..) ?_;unfold Z8Z
  by_cases e:y<x
  · rw [if_pos e];have hk:=ih (i+1) (-s) qO qO;have fx:=ai l1 l2;refine Ans.go ?_;clear fx
    (have fx:=hb; refine Ans.nx0 ?_; clear fx)
    exact hk
  · rw [if_neg e];have hk:=ih (i+1) s qO hs;have fx:=ai l1 l2;refine Ans.go ?_;clear fx
    (have fx:=hb; refine Ans.nx0 ?_; clear fx)
    exact hk
theorem ZiF (p:List Int) (hp:p.length=4) (h:FH) (b c:Nat) (hb:b<256*c) (hg:Z0d h b (ints p)) (df:List Nat) :
 ∀ (r j:Nat) (s:Int),j+r=4->(s=1 ∨ s = -1)->Ans (G (ZbX none) [ptrTo b,.int .i64 s,.int .i64 j] h c df) fun q=>q=⟨.exit 0,[ptrTo b,.int .i64 (sgO p r j s),.int .i64 4],h,c,df⟩:=by
 intro r
 induction r with
 | zero =>
  intro j s hj hs;obtain rfl:j=4:=qO;refine Ans.lpG rfl rfl (Z7p ..) ?_;unfold Z90;have fx:=True.intro;refine Ans.go ?_;clear fx
  (have fx:=hb; refine Ans.ex0 ?_; clear fx)
  rfl
 | succ r ih =>
  intro j s hj hs;have hin:=Ans.eq (ZkO p hp h b (c+1+1) j qO qO hg df j 0 s qO hs);simp only [qC,qF] at hin;have hs':=Zcy (p:=p) (j:=j) (r:=j) (i:=0) hs;have hk:=ih (j+1) (sgI p j j 0 s) qO hs';have j4:(j:Int)<4:=qO;rw [sgO];obtain ⟨z,hz⟩:=jN (sgI p j j 0 s);rw [hz] at hin hk ⊢;refine Ans.lpG rfl rfl (Z7p ..) ?_;unfold Z90;have fx:=hin;refine Ans.go ?_;clear fx
  (have fx:=hb; refine Ans.nx0 ?_; clear fx)
  exact hk
theorem ZkN (p:List Int) (hp:p ∈ p24) (h:FH) (c:Nat) (df:List Nat):G (.fn 49) [av p] h c df=some ⟨.ret,[.int .i64 (sgP p)],h,c,[]⟩:=by
 refine Z0t (fun r e=>f49_go e) (by simp) ?_;have lp:=ZhA hp;have u7:(av p).cells.toList=ints p:=Z6b p;unfold Zq4;rw [u7,Z18];simp only [cond_true,qW];have l1:ldN (newB h (256*c) (ints p)) 4 (.pointer (some ⟨256*c,0,none⟩))=some (av p):=by
  rw [ldN_newB_same _ _ _ _ _ (by simp [lp]),qM,Z1e,qH qO]; rfl
 have hl:=Ans.eq (ZiF p lp (newB h (256*c) (ints p)) (256*c) (c+1+1+1+1) qO (Z0d.newB_same _ _ _) [] 4 0 1 qO (.inl rfl));simp only [qC,qF] at hl;have sK:Z0l c h (newB h (256*c) (ints p)):=fun j hj=>by rw [Z01,if_neg qO]
 obtain ⟨K,hK⟩:=jN (newB h (256*c) (ints p));rw [hK] at hl sK l1 ⊢;have hv:=fun c=>Z1h p lp K c
 rw [Ziy hp] at hv;have fx:=ai hl (ai l1 hv);refine Ans.go ?_;clear fx;exact Ans.pure rfl sK
theorem Zfb (p:List Int) (hp:p ∈ p24) (h:FH) (c:Nat):callF G 49 [av p] h c=some (.int .i64 (sgP p),h,c):=Z05 (ZkN p hp h c [])
end Go.Proofs.Ytdodippbpdechaa

namespace Go.Ab
open Go
def zcn:List Int->Nat
 | []=>0
 | x::l=>(if x=0 then 1 else 0)+zcn l
theorem Zoe:∀ l:List Int,zcn l<=l.length
 | []=>qG _
 | x::l=>by have:=Zoe l; rw [zcn,jK]; split <;> omega
theorem Ziu:∀ {l:List Int} {k:Nat} {w:Int},k<l.length->l.getD k 0=0->w ≠ 0->zcn (l.set k w)+1=zcn l
 | [],k,w,h,_,_=>by simp at h
 | x::l,0,w,_,h2,h3=>by
  have hx:x=0:=h2
  rw [List.set_cons_zero,zcn,zcn,if_neg h3,if_pos hx]; omega
 | x::l,k+1,w,h1,h2,h3=>by
  have:=Ziu (l:=l) (k:=k) (w:=w) (by simpa using h1) h2 h3
  rw [List.set_cons_succ,zcn,zcn]; omega
theorem Z6Q {a b:Int} (ha:a=1 ∨ a = -1) (hb:b=1 ∨ b = -1):-a*b=1 ∨ -a*b = -1:=by
 rcases ha with rfl | rfl <;> rcases hb with rfl | rfl <;> simp
section
variable (K:Nat) (nb m:Nat->Nat->Int)
def gSt (a f:Nat) (S q:List Int):Option (List Int × List Int) :=
 if nb a f<0 then some (S,q)
 else if S.getD (nb a f).toNat 0=0 then some (S.set (nb a f).toNat (-S.getD a 0*m a f),q++[nb a f])
 else if S.getD (nb a f).toNat 0 ≠ -S.getD a 0*m a f then none else some (S,q)
def gFs (a:Nat):Nat->Nat->List Int->List Int->Option (List Int × List Int)
 | 0,_,S,q=>some (S,q)
 | r+1,f,S,q=>(gSt nb m a f S q).bind fun z=>gFs a r (f+1) z.1 z.2
def gQ:Nat->Nat->List Int->List Int->Option (List Int × List Int)
 | 0,_,S,q=>some (S,q)
 | r+1,k,S,q=>if k<q.length then (gFs nb m (q.getD k 0).toNat 4 0 S q).bind fun z=>gQ r (k+1) z.1 z.2 else some (S,q)
def gR:Nat->Nat->List Int->Option (List Int)
 | 0,_,S=>some S
 | r+1,f,S=>if S.getD f 0 ≠ 0 then gR r (f+1) S else (gQ nb m 1000 0 (S.set f 1) [(f:Int)]).bind fun z=>gR r (f+1) z.1
def ZqA (s:Nat->Int):Prop:=∀ a,a<K->(s a=1 ∨ s a = -1) /\ ∀ f,f<4->0<=nb a f->s (nb a f).toNat = -s a*m a f
structure Cl (S:List Int):Prop where
 l:S.length=K
 v:∀ j,S.getD j 0=0 ∨ S.getD j 0=1 ∨ S.getD j 0 = -1
 c:∀ a,a<K->S.getD a 0 ≠ 0 -> ∀ f,f<4->0<=nb a f->S.getD (nb a f).toNat 0 = -S.getD a 0*m a f
structure RV (S0 S q:List Int) (N:Nat):Prop where
 l:S.length=K
 v:∀ j,S.getD j 0=0 ∨ S.getD j 0=1 ∨ S.getD j 0 = -1
 keep:∀ j,S0.getD j 0 ≠ 0->S.getD j 0=S0.getD j 0
 qs:∀ x,x ∈ q->0<=x/\x<K/\S.getD x.toNat 0 ≠ 0/\S0.getD x.toNat 0=0
 qc:∀ j,j<K->S.getD j 0 ≠ 0->S0.getD j 0=0->(j:Int) ∈ q
 n:zcn S+q.length=N
variable {K nb m}
variable (hnb:∀ a f,a<K->f<4->nb a f = -1 ∨ (0<=nb a f/\nb a f<K)) (hm:∀ a f,m a f=1 ∨ m a f = -1) (hsym:∀ a f,a<K->f<4->0<=nb a f -> ∃ g,g<4/\nb (nb a f).toNat g=a)
 include hnb hm hsym
theorem Zpx {S0 S q:List Int} {N a f:Nat} (c0:Cl K nb m S0) (h:RV K S0 S q N) (ha:(a:Int) ∈ q) (hf:f<4) :
 match gSt nb m a f S q with
 | none=>∀ (s:Nat->Int) (e:Int),ZqA K nb m s->(∀ x,x ∈ q->S.getD x.toNat 0=e*s x.toNat)->False
 | some z=>RV K S0 z.1 z.2 N/\(∀ j,S.getD j 0 ≠ 0->z.1.getD j 0=S.getD j 0)/\(∃ t,z.2=q++t)/\(0<=nb a f->z.1.getD (nb a f).toNat 0 = -z.1.getD a 0*m a f) ∧
  ∀ (s:Nat->Int) (e:Int),ZqA K nb m s->(∀ x,x ∈ q->S.getD x.toNat 0=e*s x.toNat) -> ∀ x,x ∈ z.2->z.1.getD x.toNat 0=e*s x.toNat:=by
 obtain ⟨a1,a2,a3,a4⟩:=h.qs a ha
 rw [qE] at a3 a4
 have haK:a<K:=qO
 have va:=(h.v a).resolve_left a3
 have hw:=Z6Q va (hm a f)
 unfold gSt
 by_cases h1:nb a f<0
 · rw [if_pos h1]
   exact ⟨h,fun _ _=>rfl,⟨[],by simp⟩,fun z=>qO,fun s e hs hq=>hq⟩
 · rw [if_neg h1]
   obtain ⟨b,hb⟩:∃ b:Nat,nb a f=b:=⟨(nb a f).toNat,qO⟩
   have hbK:b<K:=by have:=hnb a f haK hf; omega
   rw [hb,qE]
   by_cases h2:S.getD b 0=0
   · rw [if_pos h2]
     have keep:∀ j,S.getD j 0 ≠ 0->(S.set b (-S.getD a 0*m a f)).getD j 0=S.getD j 0:=fun j hj=>by
      rw [Z0I,if_neg (fun z=>hj (by rw [← z.1]; exact h2))]
     have at':(S.set b (-S.getD a 0*m a f)).getD b 0 = -S.getD a 0*m a f:=by rw [Z0I,if_pos ⟨rfl,by rw [h.l]; exact hbK⟩]
     have s0b:S0.getD b 0=0:=by
      rcases Int.decEq (S0.getD b 0) 0 with q | q
      · exact absurd ((h.keep b q).symm.trans h2) q
      · exact q
     refine ⟨⟨by rw [jL]; exact h.l,fun j=>?_,fun j hj=>?_,fun x hx=>?_,fun j hj hs h0=>?_, ?_⟩,keep,⟨[(b:Int)],rfl⟩,fun _=>?_,fun s e hs hq x hx=>?_⟩
     · rw [Z0I]
       split
       · exact .inr hw
       · exact h.v j
     · rw [keep j (by rw [h.keep j hj]; exact hj)]; exact h.keep j hj
     · rcases List.mem_append.1 hx with q | q
       · obtain ⟨u1,u2,u3,u4⟩:=h.qs x q
         exact ⟨u1,u2,by rw [keep _ u3]; exact u3,u4⟩
       · rw [jG.1 q,qE,at']
         exact ⟨qO,qO,qO,s0b⟩
     · by_cases e:j=b
       · rw [e]; simp
       · rw [Z0I,if_neg (fun z=>e z.1.symm)] at hs
         exact List.mem_append_left _ (h.qc j hj hs h0)
     · have:=Ziu (l:=S) (k:=b) (w:=-S.getD a 0*m a f) (by rw [h.l]; exact hbK) h2 qO
       have:=h.n
       rw [jI]
       simp only [jK,List.length_nil]
       omega
     · rw [at',keep a a3]
     · rcases List.mem_append.1 hx with q | q
       · rw [keep _ (h.qs x q).2.2.1]; exact hq x q
       · rw [jG.1 q,qE,at']
         have g:=(hs a haK).2 f hf qO
         rw [hb,qE] at g
         have:=hq a ha
         rw [qE] at this
         rw [g,this,← Int.neg_mul_eq_neg_mul,← Int.neg_mul_eq_neg_mul,Int.mul_neg,Int.mul_assoc]
   · rw [if_neg h2]
     by_cases h3:S.getD b 0 = -S.getD a 0*m a f
     · rw [if_neg (fun z=>z h3)]
       exact ⟨h,fun _ _=>rfl,⟨[],by simp⟩,fun _=>h3,fun s e hs hq=>hq⟩
     · rw [if_pos h3]
       intro s e hs hq
       have g:=(hs a haK).2 f hf qO
       rw [hb,qE] at g
       have ea:=hq a ha
       rw [qE] at ea
       by_cases q0:S0.getD b 0=0
       · have eb:=hq b (h.qc b hbK h2 q0)
         rw [qE] at eb
         refine h3 ?_
         rw [eb,g,ea,← Int.neg_mul_eq_neg_mul,← Int.neg_mul_eq_neg_mul,Int.mul_neg,Int.mul_assoc]
       · obtain ⟨g',g1,g2⟩:=hsym a f haK hf qO
         rw [hb,qE] at g2
         have:=c0.c b hbK q0 g' g1 (by rw [g2]; omega)
         rw [g2,qE,a4] at this
         have:=Z6Q ((c0.v b).resolve_left q0) (hm b g')
         omega
theorem Zjo {S0:List Int} {N a:Nat} (c0:Cl K nb m S0):∀ (r f:Nat) {S q:List Int},RV K S0 S q N->(a:Int) ∈ q->f+r=4 →
 (match gFs nb m a r f S q with
 | none=>∀ (s:Nat->Int) (e:Int),ZqA K nb m s->(∀ x,x ∈ q->S.getD x.toNat 0=e*s x.toNat)->False
 | some z=>RV K S0 z.1 z.2 N/\(∀ j,S.getD j 0 ≠ 0->z.1.getD j 0=S.getD j 0)/\(∃ t,z.2=q++t)/\(∀ g,f<=g->g<4->0<=nb a g->z.1.getD (nb a g).toNat 0 = -z.1.getD a 0*m a g) ∧
  ∀ (s:Nat->Int) (e:Int),ZqA K nb m s->(∀ x,x ∈ q->S.getD x.toNat 0=e*s x.toNat) -> ∀ x,x ∈ z.2->z.1.getD x.toNat 0=e*s x.toNat)
 | 0,f,S,q,h,ha,hf=>⟨h,fun _ _=>rfl,⟨[],by simp⟩,fun g h1 h2=>qO,fun s e hs hq=>hq⟩
 | r+1,f,S,q,h,ha,hf=>by
  have st:=Zpx hnb hm hsym c0 h ha (f:=f) qO
  rw [gFs]
  cases hz:gSt nb m a f S q with
  | none =>
   rw [hz] at st
   exact st
  | some z =>
   rw [hz] at st
   obtain ⟨s1,s2,⟨t,s3⟩,s4,s5⟩:=st
   have ha':(a:Int) ∈ z.2:=by rw [s3]; exact List.mem_append_left _ ha
   have ih:=Zjo c0 r (f+1) s1 ha' qO
   show match gFs nb m a r (f+1) z.1 z.2 with | none=>_ | some z=>_
   cases hw:gFs nb m a r (f+1) z.1 z.2 with
   | none =>
    rw [hw] at ih
    exact fun s e hs hq=>ih s e hs (s5 s e hs hq)
   | some w =>
    rw [hw] at ih
    obtain ⟨i1,i2,⟨t',i3⟩,i4,i5⟩:=ih
    refine ⟨i1,fun j hj=>?_,⟨t++t',by rw [i3,s3,qQ]⟩,fun g h1 h2 h3=>?_,fun s e hs hq=>i5 s e hs (s5 s e hs hq)⟩
    · rw [i2 j (by rw [s2 j hj]; exact hj),s2 j hj]
    · by_cases e:g=f
      · subst e
        have s4:=s4 h3
        have na:z.1.getD a 0 ≠ 0:=by
         have:=(s1.qs a ha').2.2.1
         rwa [qE] at this
        have:=Z6Q ((s1.v a).resolve_left na) (hm a g)
        rw [i2 a na,i2 _ qO,s4]
      · exact i4 g qO h2 h3
def Done (nb m:Nat->Nat->Int) (S q:List Int) (k:Nat):Prop:=∀ i,i<k -> ∀ g,g<4->0<=nb (q.getD i 0).toNat g->S.getD (nb (q.getD i 0).toNat g).toNat 0 = -S.getD (q.getD i 0).toNat 0*m (q.getD i 0).toNat g
theorem Zor {S0:List Int} {N:Nat} (c0:Cl K nb m S0):∀ (r k:Nat) {S q:List Int},RV K S0 S q N->k<=q.length->N<k+r->Done nb m S q k →
 (match gQ nb m r k S q with
 | none=>∀ (s:Nat->Int) (e:Int),ZqA K nb m s->(∀ x,x ∈ q->S.getD x.toNat 0=e*s x.toNat)->False
 | some z=>Cl K nb m z.1/\(∀ j,S.getD j 0 ≠ 0->z.1.getD j 0=S.getD j 0))
 | 0,k,S,q,h,hk,hN,hd=>by have:=h.n; omega
 | r+1,k,S,q,h,hk,hN,hd=>by
  rw [gQ]
  by_cases hl:k<q.length
  · rw [if_pos hl]
    have hmem:q.getD k 0 ∈ q:=by
     rw [qB,qI hl]
     exact List.getElem_mem hl
    obtain ⟨q1,q2,q3,q4⟩:=h.qs _ hmem
    obtain ⟨a,ha⟩:∃ a:Nat,q.getD k 0=a:=⟨(q.getD k 0).toNat,qO⟩
    rw [ha] at hmem ⊢
    rw [qE]
    have st:=Zjo hnb hm hsym c0 4 0 h hmem rfl
    cases hz:gFs nb m a 4 0 S q with
    | none =>
     rw [hz] at st
     exact st
    | some z =>
     rw [hz] at st
     obtain ⟨s1,s2,⟨t,s3⟩,s4,s5⟩:=st
     have get:∀ i,i<q.length->z.2.getD i 0=q.getD i 0:=fun i hi=>by
      rw [s3,qB,jE hi,← qB]
     have hd':Done nb m z.1 z.2 (k+1):=fun i hi g hg h0=>by
      rw [get i qO] at h0 ⊢
      by_cases e:i=k
      · subst e
        rw [ha,qE] at h0 ⊢
        exact s4 g qO hg h0
      · have hmi:q.getD i 0 ∈ q:=by
         rw [qB,qI qO]
         exact List.getElem_mem qO
        obtain ⟨u1,u2,u3,u4⟩:=h.qs _ hmi
        have d:=hd i qO g hg h0
        have:=Z6Q ((h.v _).resolve_left u3) (hm (q.getD i 0).toNat g)
        rw [s2 _ qO,s2 _ u3,d]
     have ih:=Zor c0 r (k+1) s1 (by rw [s3,jI]; omega) qO hd'
     show match gQ nb m r (k+1) z.1 z.2 with | none=>_ | some z=>_
     cases hw:gQ nb m r (k+1) z.1 z.2 with
     | none =>
      rw [hw] at ih
      exact fun s e hs hq=>ih s e hs (s5 s e hs hq)
     | some w =>
      rw [hw] at ih
      exact ⟨ih.1,fun j hj=>by rw [ih.2 j (by rw [s2 j hj]; exact hj),s2 j hj]⟩
  · rw [if_neg hl]
    refine ⟨⟨h.l,h.v,fun a ha hs f hf h0=>?_⟩,fun _ _=>rfl⟩
    show S.getD (nb a f).toNat 0 = -S.getD a 0*m a f
    by_cases q0:S0.getD a 0=0
    · have hmem:=h.qc a ha hs q0
      obtain ⟨i,hi,he⟩:=List.getElem_of_mem hmem
      have eg:q.getD i 0=a:=by rw [qB,qI hi]; exact he
      have:=hd i qO f hf (by rw [eg,qE]; exact h0)
      rw [eg,qE] at this
      exact this
    · have:=c0.c a ha q0 f hf h0
      have w:=Z6Q ((c0.v a).resolve_left q0) (hm a f)
      rw [h.keep a q0,h.keep _ qO,this]
theorem Zjn (hK:K<=900):∀ (r f:Nat) {S:List Int},f+r=K->Cl K nb m S->(∀ j,j<f->S.getD j 0 ≠ 0) →
 (match gR nb m r f S with
 | none=>∀ s:Nat->Int,ZqA K nb m s->False
 | some z=>Cl K nb m z /\ ∀ j,j<K->z.getD j 0 ≠ 0)
 | 0,f,S,hf,h,hj=>⟨h,fun j hjK=>hj j qO⟩
 | r+1,f,S,hf,h,hj=>by
  rw [gR]
  by_cases h0:S.getD f 0=0
  · rw [if_neg (by rw [h0]; simp)]
    have hl:=h.l
    have hat:(S.set f 1).getD f 0=1:=by rw [Z0I,if_pos ⟨rfl,qO⟩]
    have keep:∀ j,S.getD j 0 ≠ 0->(S.set f 1).getD j 0=S.getD j 0:=fun j hj=>by
     rw [Z0I,if_neg (fun z=>hj (by rw [← z.1]; exact h0))]
    have rv:RV K S (S.set f 1) [(f:Int)] (zcn (S.set f 1)+1):=by
     refine ⟨by rw [jL]; exact hl,fun j=>?_,keep,fun x hx=>?_,fun j hjK hs h0'=>?_,rfl⟩
     · rw [Z0I]
       split
       · exact .inr (.inl rfl)
       · exact h.v j
     · rw [jG.1 hx,qE,hat]
       exact ⟨qO,qO,qO,h0⟩
     · by_cases e:f=j
       · rw [e]; simp
       · rw [Z0I,if_neg (fun z=>e z.1)] at hs
         exact absurd h0' hs
    have zl:=Zoe (S.set f 1)
    rw [jL,hl] at zl
    have st:=Zor hnb hm hsym h 1000 0 rv (by simp) qO (fun i hi=>qO)
    cases hz:gQ nb m 1000 0 (S.set f 1) [(f:Int)] with
    | none =>
     rw [hz] at st
     intro s hs
     refine st s (s f) hs fun x hx=>?_
     rw [jG.1 hx,qE,hat]
     rcases (hs f qO).1 with q | q <;> rw [q] <;> rfl
    | some z =>
     rw [hz] at st
     have ih:=Zjn hK r (f+1) qO st.1 fun j hj'=>by
      by_cases e:j=f
      · rw [e,st.2 f (by rw [hat]; omega),hat]; omega
      · have k1:=hj j qO
        rw [st.2 j (by rw [keep j k1]; exact k1),keep j k1]; exact k1
     exact ih
  · rw [if_pos h0]
    exact Zjn hK r (f+1) qO h fun j hj'=>by
     by_cases e:j=f
     · rw [e]; exact h0
     · exact hj j qO
theorem gR_iff (hK:K<=900):(gR nb m K 0 (List.replicate K 0)).isSome=true ↔ ∃ s,ZqA K nb m s:=by
 have z0:∀ j,(List.replicate K (0:Int)).getD j 0=0:=fun j=>by
  rw [qB,jM]; split <;> rfl
 have st:=Zjn hnb hm hsym hK K 0 (S:=List.replicate K 0) qO ⟨by simp,fun j=>.inl (z0 j),fun a _ h=>absurd (z0 a) h⟩ (fun j hj=>qO)
 cases hz:gR nb m K 0 (List.replicate K 0) with
 | none =>
  rw [hz] at st
  exact ⟨(fun h=>by cases h),fun ⟨s,hs⟩=>(st s hs).elim⟩
 | some z =>
  rw [hz] at st
  refine ⟨fun _=>⟨fun a=>z.getD a 0,fun a ha=>⟨(st.1.v a).resolve_left (st.2 a ha),fun f hf h0=>st.1.c a ha (st.2 a ha) f hf h0⟩⟩,fun _=>rfl⟩
end
end Go.Ab

namespace Go.Proofs.Ytdodippbpdechaa
open Go Go.Ab Go.Proofs
def oNb (Gl:List Int) (Q:Nat->Bool) (C:List Int) (a f:Nat):Int:=nxV Gl Q (oT C a) (oC C a) f
def oM (Gl:List Int) (C:List Int) (a f:Nat):Int:=sgP (Z0v (Z04 Gl (oT C a) f))
theorem oFs_g (Gl:List Int) (Q:Nat->Bool) (C:List Int) (a:Nat):∀ (r f:Nat) (S q:List Int),oFs Gl Q (oT C a) (oC C a) a r f S q=gFs (oNb Gl Q C) (oM Gl C) a r f S q
 | 0,f,S,q=>rfl
 | r+1,f,S,q=>by
  rw [oFs,gFs];have e:oSt Gl Q (oT C a) (oC C a) a f S q=gSt (oNb Gl Q C) (oM Gl C) a f S q:=rfl;rw [e];congr 1
  funext z
  exact oFs_g Gl Q C a r (f+1) z.1 z.2
theorem oQ_g (Gl:List Int) (Q:Nat->Bool) (C:List Int):∀ (r k:Nat) (S q:List Int),oQ Gl Q C r k S q=gQ (oNb Gl Q C) (oM Gl C) r k S q
 | 0,k,S,q=>rfl
 | r+1,k,S,q=>by
  rw [oQ,gQ,oFs_g]
  split
  · congr 1
    funext z
    exact oQ_g Gl Q C r (k+1) z.1 z.2
  · rfl
theorem oR_g (Gl:List Int) (Q:Nat->Bool) (C:List Int):∀ (r f:Nat) (S:List Int),oR Gl Q C r f S=gR (oNb Gl Q C) (oM Gl C) r f S
 | 0,f,S=>rfl
 | r+1,f,S=>by
  rw [oR,gR,oQ_g,oR_g Gl Q C r (f+1) S]
  split
  · rfl
  · congr 1
    funext z
    exact oR_g Gl Q C r (f+1) z.1
def SgnC (Gl:List Int) (n:Nat) (Q:Nat->Bool) (s:Nat->Int):Prop:=∀ t i,t<n->i<4->Q (4*t+i)=true->(s (4*t+i)=1 ∨ s (4*t+i) = -1) ∧
 ∀ f,f<4->f ≠ i -> ¬ Z0D (Z04 Gl t f)<0->s (4*fU Gl t f+fJ Gl t f i) = -s (4*t+i)*sgP (Z0v (Z04 Gl t f))
theorem Zpb {Gl:List Int} {n:Nat} (hok:Z0w Gl n=true) (hG:Gl.length=n*20) (hn:n<=200) {Q:Nat->Bool} (hQ:∀ t f i,t<n->f<4->i<4 -> ¬ Z0D (Z04 Gl t f)<0->i ≠ f->Q (4*t+i)=true->Q (4*fU Gl t f+fJ Gl t f i)=true) :
 orB n Gl Q=true ↔ ∃ s,SgnC Gl n Q s:=by
 obtain ⟨C,hC⟩:=jN (crn Q (4*n));have at':∀ x,x<4*n->Q x=true->oT C (rk Q x)=x / 4/\oC C (rk Q x)=x % 4:=fun x hx hq=>by rw [← hC]; exact Zl5 hq hx
 have nx:∀ t i f,t<n->i<4->f<4->Q (4*t+i)=true->(f=i ∨ Z0D (Z04 Gl t f)<0->nxV Gl Q t i f = -1)/\(f ≠ i -> ¬ Z0D (Z04 Gl t f)<0->nxV Gl Q t i f=(rk Q (4*fU Gl t f+fJ Gl t f i):Nat)):=fun t i f ht hi hf hq=>by
  refine ⟨fun z=>if_pos z,fun h1 h2=>?_⟩;have h3:nxV Gl Q t i f=if Q (fV Gl t f i)=true then (rk Q (fV Gl t f i):Int) else 0:=if_neg (fun z=>z.elim h1 h2)
  rw [h3];exact if_pos (hQ t f i ht hf hi h2 (Ne.symm h1) hq)
 have hnb:∀ a f,a<rk Q (4*n)->f<4->oNb Gl Q C a f = -1 ∨ (0<=oNb Gl Q C a f/\oNb Gl Q C a f<rk Q (4*n)):=fun a f ha hf=>by
  obtain ⟨x,hx,hq,rfl⟩:=Z7P Q ha;obtain ⟨e1,e2⟩:=at' x hx hq;unfold oNb;rw [e1,e2];exact Zol hok hG qO qO hf (by rw [show 4*(x / 4)+x % 4=x by omega]; exact hq)
 have hsym:∀ a f,a<rk Q (4*n)->f<4->0<=oNb Gl Q C a f -> ∃ g,g<4/\oNb Gl Q C (oNb Gl Q C a f).toNat g=a:=fun a f ha hf h0=>by
  obtain ⟨x,hx,hq,rfl⟩:=Z7P Q ha;obtain ⟨e1,e2⟩:=at' x hx hq;have hq':Q (4*(x / 4)+x % 4)=true:=by rw [show 4*(x / 4)+x % 4=x by omega]; exact hq
  have hx':=nx (x / 4) (x % 4) f qO qO hf hq';have ev:oNb Gl Q C (rk Q x) f=nxV Gl Q (x / 4) (x % 4) f:=by unfold oNb; rw [e1,e2]
  rw [ev] at h0 ⊢;have h1:f ≠ x % 4:=fun z=>by rw [hx'.1 (.inl z)] at h0; omega
  have h2:¬ Z0D (Z04 Gl (x / 4) f)<0:=fun z=>by rw [hx'.1 (.inr z)] at h0; omega
  have b:=Z2L hok hG (t:=x / 4) (f:=f) qO hf h2;have hu:=b.u;have hj:=b.j (x % 4) qO;have hjf:=b.j f hf;have hy:=hQ (x / 4) f (x % 4) qO hf qO h2 (Ne.symm h1) hq';rw [hx'.2 h1 h2,qE];obtain ⟨y1,y2⟩:=at' (4*fU Gl (x / 4) f+fJ Gl (x / 4) f (x % 4)) qO hy;refine ⟨fJ Gl (x / 4) f f,hjf, ?_⟩;unfold oNb;rw [y1,y2,show (4*fU Gl (x / 4) f+fJ Gl (x / 4) f (x % 4)) / 4=fU Gl (x / 4) f by omega,show (4*fU Gl (x / 4) f+fJ Gl (x / 4) f (x % 4)) % 4=fJ Gl (x / 4) f (x % 4) by omega,
   (nx (fU Gl (x / 4) f) (fJ Gl (x / 4) f (x % 4)) (fJ Gl (x / 4) f f) hu hj hjf hy).2 (fun z=>h1 (b.inj f (x % 4) hf qO z)) b.g,b.bu,b.bj (x % 4) qO,show 4*(x / 4)+x % 4=x by omega]
 have hr:=Z9w Q (4*n);have main:=gR_iff (m:=oM Gl C) hnb (fun a f=>Z7M _) hsym qO;unfold orB;rw [hC,oR_g];refine main.trans ⟨fun ⟨s,hs⟩=>⟨fun x=>s (rk Q x),fun t i ht hi hq=>?_⟩,fun ⟨s,hs⟩=>⟨fun a=>s (4*oT C a+oC C a),fun a ha=>?_⟩⟩
 · have hx:4*t+i<4*n:=qO;obtain ⟨e1,e2⟩:=at' (4*t+i) hx hq;rw [show (4*t+i) / 4=t by omega] at e1;rw [show (4*t+i) % 4=i by omega] at e2;obtain ⟨g1,g2⟩:=hs (rk Q (4*t+i)) (ZkX Q hx hq);refine ⟨g1,fun f hf h1 h2=>?_⟩;have ev:oNb Gl Q C (rk Q (4*t+i)) f=(rk Q (4*fU Gl t f+fJ Gl t f i):Nat):=by
    unfold oNb;rw [e1,e2];exact (nx t i f ht hi hf hq).2 h1 h2
   have:=g2 f hf (by rw [ev]; omega);rw [ev,qE] at this;have em:oM Gl C (rk Q (4*t+i)) f=sgP (Z0v (Z04 Gl t f)):=by unfold oM; rw [e1]
   rw [em] at this;exact this
 · obtain ⟨x,hx,hq,rfl⟩:=Z7P Q ha;obtain ⟨e1,e2⟩:=at' x hx hq;have hq':Q (4*(x / 4)+x % 4)=true:=by rw [show 4*(x / 4)+x % 4=x by omega]; exact hq
   obtain ⟨g1,g2⟩:=hs (x / 4) (x % 4) qO qO hq';dsimp only;rw [e1,e2];refine ⟨g1,fun f hf h0=>?_⟩;have ev:oNb Gl Q C (rk Q x) f=nxV Gl Q (x / 4) (x % 4) f:=by unfold oNb; rw [e1,e2]
   have hx':=nx (x / 4) (x % 4) f qO qO hf hq';rw [ev] at h0 ⊢;have h1:f ≠ x % 4:=fun z=>by rw [hx'.1 (.inl z)] at h0; omega
   have h2:¬ Z0D (Z04 Gl (x / 4) f)<0:=fun z=>by rw [hx'.1 (.inr z)] at h0; omega
   have b:=Z2L hok hG (t:=x / 4) (f:=f) qO hf h2;have hu:=b.u;have hj:=b.j (x % 4) qO;have hy:=hQ (x / 4) f (x % 4) qO hf qO h2 (Ne.symm h1) hq';obtain ⟨y1,y2⟩:=at' (4*fU Gl (x / 4) f+fJ Gl (x / 4) f (x % 4)) qO hy;have em:oM Gl C (rk Q x) f=sgP (Z0v (Z04 Gl (x / 4) f)):=by unfold oM; rw [e1]
   rw [hx'.2 h1 h2,qE,y1,y2,em,show (4*fU Gl (x / 4) f+fJ Gl (x / 4) f (x % 4)) / 4=fU Gl (x / 4) f by omega,show (4*fU Gl (x / 4) f+fJ Gl (x / 4) f (x % 4)) % 4=fJ Gl (x / 4) f (x % 4) by omega];exact g2 f hf h1 h2
theorem ZhH {Gl:List Int} {n:Nat} (hok:Z0w Gl n=true) (hG:Gl.length=n*20) (k:Int):∀ t f i,t<n->f<4->i<4 -> ¬ Z0D (Z04 Gl t f)<0->i ≠ f->inC (Z6N (vCs Gl n) (4*n)) k (4*t+i)=true->inC (Z6N (vCs Gl n) (4*n)) k (4*fU Gl t f+fJ Gl t f i)=true:=fun t f i ht hf hi hg hif h=>by
 have b:=Z2L hok hG ht hf hg;have hu:=b.u;have hj:=b.j i hi;have h:=of_decide_eq_true h;refine decide_eq_true ?_;rw [Zeo _ qO] at h ⊢;rw [← h];have:=(cl_eq (Zfl hok hG) (x:=4*t+i) (y:=4*fU Gl t f+fJ Gl t f i) qO qO).2 (ZkB hok hG ht hf hi hg hif);omega
end Go.Proofs.Ytdodippbpdechaa
