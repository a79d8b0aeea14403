/- Parts of a proof: Q1 Q4 K3 K4 K5 K6. Conditions: none. -/
import Derived.Test.YtdodippbpdechaaM15
set_option linter.all false
set_option maxRecDepth 100000
set_option maxHeartbeats 4000000
namespace Go.Proofs.Ytdodippbpdechaa
open Go Go.Ab Go.Proofs
theorem Zh0 (i j:Nat) (hij:i<j) (hj:j<4) (h:FH) (c:Nat) (df:List Nat):G (.fn 28) [.int .i64 i,.int .i64 j] h c df=some ⟨.ret,[.int .i64 (edN i j)],h,c,[]⟩:=by
 refine Z0t (fun r e=>ZjW e) (by simp) ?_;unfold ZjX;have:(i=0/\j=1) ∨ (i=0/\j=2) ∨ (i=0/\j=3) ∨ (i=1/\j=2) ∨ (i=1/\j=3) ∨ (i=2/\j=3):=qO;rcases this with ⟨rfl,rfl⟩ | ⟨rfl,rfl⟩ | ⟨rfl,rfl⟩ | ⟨rfl,rfl⟩ | ⟨rfl,rfl⟩ | ⟨rfl,rfl⟩
 · rw [show edN (((0:Nat)):Int) ((1:Nat):Int)=0 by decide];simp only [qF,Int.natCast_zero,Int.natCast_one];have fx:=True.intro;refine Ans.go ?_;clear fx
   (have fx:=True.intro; exact Ans.pu)
 · rw [show edN (((0:Nat)):Int) ((2:Nat):Int)=1 by decide];simp only [qF,Int.natCast_zero,Int.natCast_one];have fx:=True.intro;refine Ans.go ?_;clear fx
   (have fx:=True.intro; exact Ans.pu)
 · rw [show edN (((0:Nat)):Int) ((3:Nat):Int)=2 by decide];simp only [qF,Int.natCast_zero,Int.natCast_one];have fx:=True.intro;refine Ans.go ?_;clear fx
   (have fx:=True.intro; exact Ans.pu)
 · rw [show edN (((1:Nat)):Int) ((2:Nat):Int)=3 by decide];simp only [qF,Int.natCast_zero,Int.natCast_one];have fx:=True.intro;refine Ans.go ?_;clear fx
   (have fx:=True.intro; exact Ans.pu)
 · rw [show edN (((1:Nat)):Int) ((3:Nat):Int)=4 by decide];simp only [qF,Int.natCast_zero,Int.natCast_one];have fx:=True.intro;refine Ans.go ?_;clear fx
   (have fx:=True.intro; exact Ans.pu)
 · rw [show edN (((2:Nat)):Int) ((3:Nat):Int)=5 by decide];simp only [qF,Int.natCast_zero,Int.natCast_one];have fx:=True.intro;refine Ans.go ?_;clear fx
   (have fx:=True.intro; exact Ans.pu)
theorem Zqh {i j:Int} (h:¬ (0<=i/\i<4/\0<=j/\j<4/\i ≠ j)):edN i j = -1:=by
 have:∀ a b:Int,0<=a->a<b->b<4->ZmC a b i j=false:=fun a b h1 h2 h3=>by
  rw [ZmC,decide_eq_false qO,decide_eq_false qO]; rfl
 unfold edN;simp only [edI];rw [show edL.getD (2*0) 0=0 from rfl,show edL.getD (2*0+1) 0=1 from rfl,show edL.getD (2*(0+1)) 0=0 from rfl,show edL.getD (2*(0+1)+1) 0=2 from rfl,show edL.getD (2*(0+1+1)) 0=0 from rfl,show edL.getD (2*(0+1+1)+1) 0=3 from rfl,
  show edL.getD (2*(0+1+1+1)) 0=1 from rfl,show edL.getD (2*(0+1+1+1)+1) 0=2 from rfl,show edL.getD (2*(0+1+1+1+1)) 0=1 from rfl,show edL.getD (2*(0+1+1+1+1)+1) 0=3 from rfl,show edL.getD (2*(0+1+1+1+1+1)) 0=2 from rfl,show edL.getD (2*(0+1+1+1+1+1)+1) 0=3 from rfl,
  this 0 1 qO qO qO,this 0 2 qO qO qO,this 0 3 qO qO qO,this 1 2 qO qO qO,this 1 3 qO qO qO,this 2 3 qO qO qO]
 rfl
theorem ZnR (i j:Int) (h:FH) (c:Nat) (df:List Nat):G (.fn 28) [.int .i64 i,.int .i64 j] h c df=some ⟨.ret,[.int .i64 (edN i j)],h,c,[]⟩:=by
 by_cases q:0<=i/\i<4/\0<=j/\j<4/\i ≠ j
 · obtain ⟨a,rfl⟩:∃ a:Nat,i=a:=⟨i.toNat,qO⟩;obtain ⟨b,rfl⟩:∃ b:Nat,j=b:=⟨j.toNat,qO⟩;obtain ⟨q1,q2,q3,q4,q5⟩:=q;rcases Nat.lt_or_ge a b with z | z
   · exact Zh0 a b z qO h c df
   · have z:b<a:=qO;refine Z0t (fun r e=>ZjW e) (by simp) ?_;have lo:=Z05 (Zh0 b a z qO h (c+1+1+1+1) []);rw [Zh1 qO qO] at lo;have ij:(b:Int)<a:=qO;unfold ZjX;have fx:=lo;refine Ans.go ?_;clear fx
     (have fx:=True.intro; exact Ans.pu)
 · rw [Zqh q];refine Z0t (fun r e=>ZjW e) (by simp) ?_;unfold ZjX
   by_cases a1:i<0
   · have fx:=True.intro;refine Ans.go ?_;clear fx
     (have fx:=True.intro; exact Ans.pu)
   by_cases a2:j<0
   · have fx:=True.intro;refine Ans.go ?_;clear fx
     (have fx:=True.intro; exact Ans.pu)
   by_cases a3:3<i
   · have fx:=True.intro;refine Ans.go ?_;clear fx
     (have fx:=True.intro; exact Ans.pu)
   by_cases a4:3<j
   · have fx:=True.intro;refine Ans.go ?_;clear fx
     (have fx:=True.intro; exact Ans.pu)
   obtain rfl:i=j:=qO;have fx:=True.intro;refine Ans.go ?_;clear fx
   (have fx:=True.intro; exact Ans.pu)
theorem Z6A (i j:Int) (h:FH) (c:Nat):callF G 28 [.int .i64 i,.int .i64 j] h c=some (.int .i64 (edN i j),h,c):=Z05 (ZnR i j h c [])
theorem ZnQ (e:Int) (i:Nat) (hi:i<4) (h:FH) (c:Nat) (df:List Nat) :
 ∀ (r j:Nat),j+r=4->i<j->Ans (G (Zce none) [.int .i64 e,.int .i64 0,.int .i64 0,.int .i64 i,.int .i64 j] h c df) fun q =>
  (q=⟨.exit 2,[.int .i64 e,.int .i64 0,.int .i64 0,.int .i64 i,.int .i64 4],h,c,df⟩ /\ ∀ j':Nat,j<=j'->j'<4->edN i j' ≠ e) ∨
  ∃ j':Nat,j<=j'/\j'<4/\edN i j'=e/\q=⟨.ret,[.int .i64 e,.int .i64 i,.int .i64 j',.int .i64 i,.int .i64 j'],h,c,df⟩:=by
 intro r
 induction r with
 | zero =>
  intro j hj hij;obtain rfl:j=4:=qO;refine Ans.lpG rfl rfl (Z5p ..) ?_;unfold Z67;have fx:=True.intro;refine Ans.go ?_;clear fx
  (have fx:=True.intro; refine Ans.ex0 ?_; clear fx)
  exact .inl ⟨rfl,fun j' h1 h2=>qO⟩
 | succ r ih =>
  intro j hj hij;have j4:(j:Int)<4:=qO;have hk:=ih (j+1) qO qO;have cE:=Z6A (i:Int) (j:Int) h
  by_cases q:edN i j=e
  · obtain ⟨y,hy⟩:=jN (edN (i:Int) j);rw [hy] at q cE;refine Ans.lpG rfl rfl (Z5p ..) ?_;unfold Z67;have fx:=ai cE q;refine Ans.go ?_;clear fx
    (have fx:=True.intro; refine Ans.rt0 ?_; clear fx)
    exact .inr ⟨j,qG _,qO,by rw [hy]; exact q,rfl⟩
  · obtain ⟨y,hy⟩:=jN (edN (i:Int) j);have q':=q;rw [hy] at q cE;refine Ans.lpG rfl rfl (Z5p ..) ?_;unfold Z67;have fx:=ai cE q;refine Ans.go ?_;clear fx
    (have fx:=True.intro; refine Ans.nx0 ?_; clear fx)
    refine hk.mono fun z hz=>?_
    rcases hz with ⟨z1,z2⟩ | ⟨j',z1,z2,z3,z4⟩
    · refine .inl ⟨z1,fun j' h1 h2=>?_⟩
      by_cases w:j'=j
      · rw [w]; exact q'
      · exact z2 j' qO h2
    · exact .inr ⟨j',qO,z2,z3,z4⟩
theorem Zk7 (e:Int) (h:FH) (c:Nat) (df:List Nat) :
 ∀ (r i:Nat),i+r=4->Ans (G (Zcf none) [.int .i64 e,.int .i64 0,.int .i64 0,.int .i64 i] h c df) fun q =>
  (q=⟨.exit 0,[.int .i64 e,.int .i64 0,.int .i64 0,.int .i64 4],h,c,df⟩ /\ ∀ i' j':Nat,i<=i'->i'<j'->j'<4->edN i' j' ≠ e) ∨
  ∃ i' j':Nat,i'<j'/\j'<4/\edN i' j'=e/\q=⟨.ret,[.int .i64 e,.int .i64 i',.int .i64 j',.int .i64 i'],h,c,df⟩:=by
 intro r
 induction r with
 | zero =>
  intro i hi;obtain rfl:i=4:=qO;refine Ans.lpG rfl rfl (Z5q ..) ?_;unfold Z68;have fx:=True.intro;refine Ans.go ?_;clear fx
  (have fx:=True.intro; refine Ans.ex0 ?_; clear fx)
  exact .inl ⟨rfl,fun i' j' h1 h2 h3=>qO⟩
 | succ r ih =>
  intro i hi;have i4:(i:Int)<4:=qO;have hk:=ih (i+1) qO;obtain ⟨q,hq,q1⟩:=ZnQ e i qO h (c+1+1) df (4-(i+1)) (i+1) qO qO;have e1:((i+1:Nat):Int)=(i:Int)+1:=qO;rw [e1] at hq;rcases q1 with ⟨rfl,z⟩ | ⟨j',z1,z2,z3,rfl⟩
  · refine Ans.lpG rfl rfl (Z5q ..) ?_;unfold Z68;have fx:=hq;refine Ans.go ?_;clear fx
    (have fx:=True.intro; refine Ans.nx0 ?_; clear fx)
    refine hk.mono fun w hw=>?_
    rcases hw with ⟨w1,w2⟩ | w
    · refine .inl ⟨w1,fun i' j' h1 h2 h3=>?_⟩
      by_cases u:i'=i
      · subst u; exact z j' qO h3
      · exact w2 i' j' qO h2 h3
    · exact .inr w
  · refine Ans.lpG rfl rfl (Z5q ..) ?_;unfold Z68;have fx:=hq;refine Ans.go ?_;clear fx
    (have fx:=True.intro; refine Ans.rt0 ?_; clear fx)
    exact .inr ⟨i,j',qO,z2,z3,rfl⟩
theorem ZgZ (e:Int) (h:FH) (c:Nat) (df:List Nat):G (.fn 24) [.int .i64 e] h c df=some ⟨.ret,[.tuple #[.int .i64 (if 0<=e/\e<6 then edA e else -1),.int .i64 (if 0<=e/\e<6 then edB e else -1)]],h,c,[]⟩:=by
 refine Z0t (fun r e=>f24_go e) (OkV.tup2 _ _ _ _ _) ?_;unfold Zq9;obtain ⟨q,hq,q1⟩:=Zk7 e h (c+1+1) [] 4 0 qO;simp only [qC,qF] at hq;rcases q1 with ⟨rfl,z⟩ | ⟨i',j',z1,z2,z3,rfl⟩
 · have h0:¬ (0<=e/\e<6):=fun w=>by
    obtain ⟨m,rfl⟩:∃ m:Nat,e=m:=⟨e.toNat,qO⟩;have tab:∀ a:Fin 6,∃ x y:Fin 4,(x:Nat)<y/\edN ((x:Nat):Int) ((y:Nat):Int)=(a:Nat):=by decide
    obtain ⟨x,y,h1,h2⟩:=tab ⟨m,qO⟩;exact z x y qO h1 y.2 h2
   rw [if_neg h0,if_neg h0];have fx:=hq;refine Ans.go ?_;clear fx
   (have fx:=True.intro; exact Ans.pu)
 · have er:=Z4N (i:=(i':Int)) (j:=j') qO qO qO qO qO;obtain ⟨a1,a2⟩:=Zox (i:=i') (j:=j') qO z2 qO;rw [z3] at er a1 a2;rw [if_pos er,if_pos er,a1,a2,show min i' j'=i' by omega,show max i' j'=j' by omega];have fx:=hq;refine Ans.go ?_;clear fx
   (have fx:=True.intro; exact Ans.pu)
theorem Zav (k:Nat) (hk:k<6) (h:FH) (c:Nat):callF G 24 [.int .i64 k] h c=some (.tuple #[.int .i64 (edA k),.int .i64 (edB k)],h,c):=by
 have:=Z05 (ZgZ (k:Int) h c []);rwa [if_pos ⟨qO,qO⟩,if_pos ⟨qO,qO⟩] at this

set_option maxRecDepth 100000
theorem dx_j (pb n xb t f i c:Nat) (Gl:List Int) (x1 x2 x3 x4 x5:Value) (h0:FH) (df:List Nat) (PV:Prs) (hn:n<=1000) (x:XB Gl n t f xb pb h0) (hg:¬ Z0D (Z04 Gl t f)<0) (hi:i<4) (lp:pb<256*c) (lx:xb<256*c)
 (o1:OkV c x1) (o2:OkV c x2) (o3:OkV c x3) (o4:OkV c x4) (o5:OkV c x5) :
 ∀ (r k:Nat) (L:List Int),k+r=4->JX (PV++if i=f then [] else upL (dJ Gl t f i) k) (16*n) L →
 Ans (G (Zbw none) [.slice (some ⟨pb,0,none⟩) (16*n) (16*n),.int .i64 t,.int .i64 f,ptrTo xb,.int .i64 i,.int .i64 k,x1,x2,x3,x4,x5] (newB h0 pb (ints L)) c df) fun q=>∃ L',q=⟨.exit 6,[.slice (some ⟨pb,0,none⟩) (16*n) (16*n),.int .i64 t,.int .i64 f,ptrTo xb,.int .i64 i,.int .i64 4,x1,x2,x3,x4,x5],newB h0 pb (ints L'),c,df⟩/\JX (PV++dI Gl t f i) (16*n) L':=by
 intro r;have ht:=x.ht;have hf:=x.hf;have i4:(i:Int)<4:=qO
 induction r with
 | zero =>
  intro k L hk j;obtain rfl:k=4:=qO;refine Ans.lpG rfl rfl (Z2T ..) ?_;unfold Z4p;obtain ⟨H,hH⟩:=jN (newB h0 pb (ints L));rw [hH];have fx:=True.intro;refine Ans.go ?_;clear fx
  (have fx:=ai lp (ai lx (ai o1 (ai o2 (ai o3 (ai o4 o5))))); refine Ans.ex0 ?_; clear fx)
  exact ⟨L,by rw [hH]; rfl,j⟩
 | succ r ih =>
  intro k L hk j;have hk4:k<4:=qO;have k4:(k:Int)<4:=qO;have l0:=x.l0 (ints L);have b:=x.gb hg;have hu:=b.u;rw [x.u hg] at l0
  by_cases q:i=f
  · rw [if_pos q] at j;have hk':=ih (k+1) L qO (by rw [if_pos q]; exact j);obtain ⟨S,hS⟩:=jN (newB h0 pb (ints L));rw [hS] at hk' ⊢;have q1:(i:Int)=f:=qO;refine Ans.lpG rfl rfl (Z2T ..) ?_;unfold Z4p
    by_cases q2:(i:Int)=k
    · have fx:=ai q1 q2;refine Ans.go ?_;clear fx
      (have fx:=ai lp (ai lx (ai o1 (ai o2 (ai o3 (ai o4 o5))))); refine Ans.nx0 ?_; clear fx)
      exact hk'
    · have fx:=ai q1 q2;refine Ans.go ?_;clear fx
      (have fx:=ai lp (ai lx (ai o1 (ai o2 (ai o3 (ai o4 o5))))); refine Ans.nx0 ?_; clear fx)
      exact hk'
  · rw [if_neg q] at j;simp only [if_neg q] at ih;have q1:¬ (i:Int)=f:=qO
    by_cases q2:k ≠ f/\k ≠ i
    · have hjA:=b.j i hi;have hjB:=b.j k hk4;have l1:=x.l1 hg (ints L) (i:=i) hi;have l2:=x.l1 hg (ints L) (i:=k) hk4;have qv:dJ Gl t f i k=[(16*t+4*i+k,16*fU Gl t f+4*fJ Gl t f i+fJ Gl t f k)]:=if_pos q2;have g:=Z41 pb (16*n) L j.d (newB h0 pb (ints L)) (c+1+1+1) [] (by rw [Z01,if_pos rfl]) qO qO (16*t+4*i+k) (16*fU Gl t f+4*fJ Gl t f i+fJ Gl t f k) qO qO;rw [ZdD] at g;have j':=j.snoc (i:=16*t+4*i+k) (j:=16*fU Gl t f+4*fJ Gl t f i+fJ Gl t f k) qO qO;obtain ⟨L',hL'⟩:=jN (Z1k L (16*t+4*i+k) (16*fU Gl t f+4*fJ Gl t f i+fJ Gl t f k));rw [hL'] at j' g;have hk':=ih (k+1) L' qO (by rw [upL,qv,← qQ]; exact j');have cv:=Z05 g;have e3:((16*t+4*i+k:Nat):Int)=16*(t:Int)+4*i+k:=qO;have e4:((16*fU Gl t f+4*fJ Gl t f i+fJ Gl t f k:Nat):Int)=16*(fU Gl t f:Int)+4*(fJ Gl t f i:Nat)+(fJ Gl t f k:Nat):=qO;rw [e3,e4] at cv;have up:Z0G c (newB h0 pb (ints L)) (newB h0 pb (ints L')):=Z0G.both (Z0Q.ints _ _) (Z0G.refl _ _) lp;clear g j' e3 e4;obtain ⟨q3,q4⟩:=q2;have q3:¬ (k:Int)=f:=qO;have q4:¬ (i:Int)=k:=qO;obtain ⟨S,hS⟩:=jN (newB h0 pb (ints L));obtain ⟨S2,hS2⟩:=jN (newB h0 pb (ints L'));rw [hS] at l0 l1 l2 cv up ⊢;rw [hS2] at cv up hk';obtain ⟨u,hu'⟩:=jN (fU Gl t f);obtain ⟨p,hp'⟩:=jN (fJ Gl t f i);obtain ⟨p2,hp2⟩:=jN (fJ Gl t f k);rw [hu'] at l0 cv hu;rw [hp'] at l1 cv hjA;rw [hp2] at l2 cv hjB;refine Ans.lpG rfl rfl (Z2T ..) ?_;unfold Z4p;have fx:=ai l0 (ai l1 (ai l2 (ai cv (ai q1 (ai q3 q4)))));refine Ans.go ?_;clear fx
      (have fx:=ai lp (ai lx (ai o1 (ai o2 (ai o3 (ai o4 o5))))); refine Ans.nxB (B:=S2) ?_ ?_; exact (up); clear fx)
      exact hk'
    · have qv:dJ Gl t f i k=[]:=if_neg q2;have hk':=ih (k+1) L qO (by rw [upL,qv,qL]; exact j);obtain ⟨S,hS⟩:=jN (newB h0 pb (ints L));rw [hS] at hk' ⊢;refine Ans.lpG rfl rfl (Z2T ..) ?_;unfold Z4p
      by_cases q3:(i:Int)=k
      · have fx:=ai q1 q3;refine Ans.go ?_;clear fx
        (have fx:=ai lp (ai lx (ai o1 (ai o2 (ai o3 (ai o4 o5))))); refine Ans.nx0 ?_; clear fx)
        exact hk'
      · have q4:(k:Int)=f:=qO;have fx:=ai q1 (ai q3 q4);refine Ans.go ?_;clear fx
        (have fx:=ai lp (ai lx (ai o1 (ai o2 (ai o3 (ai o4 o5))))); refine Ans.nx0 ?_; clear fx)
        exact hk'
theorem dx_i (pb n xb t f c:Nat) (Gl:List Int) (x1 x2 x3 x4 x5:Value) (h0:FH) (df:List Nat) (PV:Prs) (hn:n<=1000) (x:XB Gl n t f xb pb h0) (hg:¬ Z0D (Z04 Gl t f)<0) (lp:pb<256*c) (lx:xb<256*c)
 (o1:OkV c x1) (o2:OkV c x2) (o3:OkV c x3) (o4:OkV c x4) (o5:OkV c x5) :
 ∀ (r i:Nat) (L:List Int),i+r=4->JX (PV++upL (dI Gl t f) i) (16*n) L →
 Ans (G (Zbx none) [.slice (some ⟨pb,0,none⟩) (16*n) (16*n),.int .i64 t,.int .i64 f,ptrTo xb,.int .i64 i,x1,x2,x3,x4,x5] (newB h0 pb (ints L)) c df) fun q=>∃ L',q=⟨.exit 4,[.slice (some ⟨pb,0,none⟩) (16*n) (16*n),.int .i64 t,.int .i64 f,ptrTo xb,.int .i64 4,x1,x2,x3,x4,x5],newB h0 pb (ints L'),c,df⟩/\JX (PV++dF Gl t f) (16*n) L':=by
 intro r;have ht:=x.ht;have hf:=x.hf
 induction r with
 | zero =>
  intro i L hi j;obtain rfl:i=4:=qO;have e:dF Gl t f=upL (dI Gl t f) 4:=if_neg hg;refine Ans.lpG rfl rfl (Z79 ..) ?_;unfold Z8s;obtain ⟨H,hH⟩:=jN (newB h0 pb (ints L));rw [hH];have fx:=True.intro;refine Ans.go ?_;clear fx
  (have fx:=ai lp (ai lx (ai o1 (ai o2 (ai o3 (ai o4 o5))))); refine Ans.ex0 ?_; clear fx)
  exact ⟨L,by rw [hH]; rfl,by rw [e]; exact j⟩
 | succ r ih =>
  intro i L hi j;have hi4:i<4:=qO;have i4:(i:Int)<4:=qO;obtain ⟨q9,hq9,L',rfl,j'⟩:=dx_j pb n xb t f i (c+1+1) Gl x1 x2 x3 x4 x5 h0 df (PV++upL (dI Gl t f) i) hn x hg hi4 qO qO (o1.mono qO) (o2.mono qO) (o3.mono qO) (o4.mono qO) (o5.mono qO) 4 0 L qO (by rw [upL,ite_self,qL]; exact j);have hk:=ih (i+1) L' qO (by rw [upL,← qQ]; exact j');simp only [qC,qF] at hq9;have up:Z0G c (newB h0 pb (ints L)) (newB h0 pb (ints L')):=Z0G.both (Z0Q.ints _ _) (Z0G.refl _ _) lp;obtain ⟨S,hS⟩:=jN (newB h0 pb (ints L));obtain ⟨S2,hS2⟩:=jN (newB h0 pb (ints L'));rw [hS] at hq9 up ⊢;rw [hS2] at hq9 up hk;refine Ans.lpG rfl rfl (Z79 ..) ?_;unfold Z8s;have fx:=hq9;refine Ans.go ?_;clear fx
  (have fx:=ai lp (ai lx (ai o1 (ai o2 (ai o3 (ai o4 o5))))); refine Ans.nxB (B:=S2) ?_ ?_; exact (up); clear fx)
  exact hk
theorem dx_f (pb n t c:Nat) (Gl:List Int) (x1 x2 x3:Value) (h0:FH) (df:List Nat) (PV:Prs) (hn:n<=1000) (hok:Z0w Gl n=true) (hG:Gl.length=n*20) (ht:t<n) (lp:pb<256*c)
 (o1:OkV c x1) (o2:OkV c x2) (o3:OkV c x3) :
 ∀ (r f:Nat) (L:List Int),f+r=4->JX (PV++upL (dF Gl t) f) (16*n) L →
 Ans (G (Zby none) [.slice (some ⟨pb,0,none⟩) (16*n) (16*n),.int .i64 t,x1,x2,x3,av (Z0K Gl t),.int .i64 f] (newB h0 pb (ints L)) c df) fun q=>∃ L',q=⟨.exit 2,[.slice (some ⟨pb,0,none⟩) (16*n) (16*n),.int .i64 t,x1,x2,x3,av (Z0K Gl t),.int .i64 4],newB h0 pb (ints L'),c,df⟩/\JX (PV++dT Gl t) (16*n) L':=by
 intro r;have hrl:=Z0E hG ht;have orow:OkV c (av (Z0K Gl t)):=OkV.av _ _
 induction r with
 | zero =>
  intro f L hf j;obtain rfl:f=4:=qO;refine Ans.lpG rfl rfl (Z56 ..) ?_;unfold Z62;obtain ⟨H,hH⟩:=jN (newB h0 pb (ints L));rw [hH];have fx:=True.intro;refine Ans.go ?_;clear fx
  (have fx:=ai lp (ai o1 (ai o2 (ai o3 orow))); refine Ans.ex0 ?_; clear fx)
  exact ⟨L,by rw [hH]; rfl,j⟩
 | succ r ih =>
  intro f L hf j;have hf4:f<4:=qO;have f4:(f:Int)<4:=qO;have x1':=Z2p (Z0K Gl t) 4 5 .i64 (f:Int) qO qO hrl;rw [qE,Z23 hf4] at x1';have hfl:=Z0i hG ht hf4;obtain ⟨xb,hxb⟩:=jN (256*(c+1)+2);have hne:xb ≠ pb:=qO;obtain ⟨h1,hh1⟩:=jN (newB h0 xb (ints (Z04 Gl t f)));have cm:newB (newB h0 pb (ints L)) xb (ints (Z04 Gl t f))=newB h1 pb (ints L):=by rw [← hh1,Z1F _ _ _ _ _ (Ne.symm hne)]
  have x:XB Gl n t f xb pb h1:=⟨by rw [← hh1]; exact Z0d.newB_same _ _ _,hne,hok,hG,ht,hf4⟩;have w1:stN (newB (newB h0 pb (ints L)) xb [.int .i64 0,.int .i64 0,.int .i64 0,.int .i64 0,.int .i64 0]) 5 (.pointer (some ⟨xb,0,none⟩)) (av (Z04 Gl t f))=some (newB h1 pb (ints L)):=by
   rw [← cm]; exact stN_all _ _ 5 _ _ hfl rfl
  have l0:=x.l0 (ints L)
  by_cases hg:Z0D (Z04 Gl t f)<0
  · have qv:dF Gl t f=[]:=if_pos hg;have hk:=ih (f+1) L qO (by rw [upL,qv,qL]; exact j);have sB:Z0l c (newB h0 pb (ints L)) (newB h1 pb (ints L)):=fun j hj=>by rw [Z01,Z01,← hh1,Z01,if_neg (show ¬ j=xb by omega)]
    obtain ⟨S,hS⟩:=jN (newB h0 pb (ints L));obtain ⟨S1,hS1⟩:=jN (newB h1 pb (ints L));rw [hS] at w1 hk sB ⊢;rw [hS1] at w1 l0 sB;obtain ⟨F,hF⟩:=jN (Z04 Gl t f);rw [hF] at w1 x1' l0 hg;obtain ⟨z,hz⟩:=jN (Z0D F);rw [hz] at l0 hg;refine Ans.lpG rfl rfl (Z56 ..) ?_;unfold Z62;have fx:=ai x1' (ai hxb (ai w1 l0));refine Ans.go ?_;clear fx
    (have fx:=ai lp (ai o1 (ai o2 (ai o3 (ai orow sB)))); refine Ans.nx0 ?_; clear fx)
    exact hk
  rw [x.u hg] at l0;obtain ⟨q9,hq9,L',rfl,j'⟩:=dx_i pb n xb t f (c+1+1+1+1) Gl x1 x2 x3 (av (Z0K Gl t)) (.int .i64 f) h1 df (PV++upL (dF Gl t) f) hn x hg qO qO (o1.mono qO) (o2.mono qO) (o3.mono qO) (OkV.av _ _) (OkV.int _ _ _) 4 0 L qO (by rw [upL,qL]; exact j);have hk:=ih (f+1) L' qO (by rw [upL,← qQ]; exact j');simp only [qC,qF] at hq9;have up:Z0G c (newB h0 pb (ints L)) (newB h0 pb (ints L')):=Z0G.both (Z0Q.ints _ _) (Z0G.refl _ _) lp;have sB:Z0l c (newB h0 pb (ints L')) (newB h1 pb (ints L')):=fun j hj=>by rw [Z01,Z01,← hh1,Z01,if_neg (show ¬ j=xb by omega)]
  obtain ⟨S,hS⟩:=jN (newB h0 pb (ints L));obtain ⟨S1,hS1⟩:=jN (newB h1 pb (ints L));obtain ⟨S2,hS2⟩:=jN (newB h0 pb (ints L'));obtain ⟨S3,hS3⟩:=jN (newB h1 pb (ints L'));rw [hS] at w1 up ⊢;rw [hS1] at w1 hq9 l0;obtain ⟨u,hu⟩:=jN (fU Gl t f);rw [hu] at l0;rw [hS2] at up sB hk;rw [hS3] at sB hq9;obtain ⟨F,hF⟩:=jN (Z04 Gl t f);rw [hF] at w1 x1';refine Ans.lpG rfl rfl (Z56 ..) ?_;unfold Z62;have fx:=ai x1' (ai hxb (ai w1 (ai l0 hq9)));refine Ans.go ?_;clear fx
  (have fx:=ai lp (ai o1 (ai o2 (ai o3 (ai orow sB)))); refine Ans.nxB (B:=S2) ?_ ?_; exact (up); clear fx)
  exact hk
theorem dx_t (pb n c cm:Nat) (Gl:List Int) (s:Value) (h0:FH) (df:List Nat) (hn:n<=1000) (hok:Z0w Gl n=true) (hs:SlI h0 cm s 20 n Gl) (hcm:cm<=c) (mp:256*cm<=pb) (lp:pb<256*c) :
 ∀ (r t:Nat) (L:List Int),t+r=n->JX (upL (dT Gl) t) (16*n) L →
 Ans (G (Zbz none) [.slice (some ⟨pb,0,none⟩) (16*n) (16*n),s,.int .i64 n,.int .i64 t] (newB h0 pb (ints L)) c df) fun q=>q=⟨.exit 0,[.slice (some ⟨pb,0,none⟩) (16*n) (16*n),s,.int .i64 n,.int .i64 n],newB h0 pb (ints (dCs Gl n)),c,df⟩:=by
 intro r;have os:OkV c s:=(hs.mono hcm).okV;have hG:=hs.1
 induction r with
 | zero =>
  intro t L ht j;obtain rfl:t=n:=qO;have e:L=dCs Gl t:=j.e;refine Ans.lpG rfl rfl (Z7a ..) ?_;unfold Z8t;obtain ⟨H,hH⟩:=jN (newB h0 pb (ints L));rw [← e,hH];have fx:=True.intro;refine Ans.go ?_;clear fx
  (have fx:=ai lp os; refine Ans.ex0 ?_; clear fx)
  rfl
 | succ r ih =>
  intro t L ht j;have htn:t<n:=qO;have tl:(t:Int)<n:=qO;have tn:(n:Int)<=1000:=qO;obtain ⟨ix,l1⟩:=Zdw hs mp htn (ints L);obtain ⟨kb,hkb⟩:=jN (256*(c+1)+3);have hne:kb ≠ pb:=qO;obtain ⟨w1,w2⟩:=Z9Z (newB h0 pb (ints L)) kb hG htn;obtain ⟨h1,hh1⟩:=jN (newB h0 kb (ints (Z0K Gl t)));have cm':newB (newB h0 pb (ints L)) kb (ints (Z0K Gl t))=newB h1 pb (ints L):=by rw [← hh1,Z1F _ _ _ _ _ (Ne.symm hne)]
  rw [cm'] at w1 w2;obtain ⟨q9,hq9,L',rfl,j'⟩:=dx_f pb n t (c+1+1+1) Gl s (.int .i64 n) (.int .i64 t) h1 df (upL (dT Gl) t) hn hok hG htn qO (os.mono qO) (OkV.int _ _ _) (OkV.int _ _ _) 4 0 L qO (by rw [upL,qL]; exact j);have hk:=ih (t+1) L' qO (by rw [upL]; exact j');simp only [qC,qF] at hq9;have up:Z0G c (newB h0 pb (ints L)) (newB h0 pb (ints L')):=Z0G.both (Z0Q.ints _ _) (Z0G.refl _ _) lp;have sB:Z0l c (newB h0 pb (ints L')) (newB h1 pb (ints L')):=fun j hj=>by rw [Z01,Z01,← hh1,Z01,if_neg (show ¬ j=kb by omega)]
  obtain ⟨S,hS⟩:=jN (newB h0 pb (ints L));obtain ⟨S1,hS1⟩:=jN (newB h1 pb (ints L));obtain ⟨S2,hS2⟩:=jN (newB h0 pb (ints L'));obtain ⟨S3,hS3⟩:=jN (newB h1 pb (ints L'));rw [hS] at w1 l1 up ⊢;rw [hS1] at w1 w2 hq9;rw [hS2] at up sB hk;rw [hS3] at sB hq9;obtain ⟨R,hR⟩:=jN (av (Z0K Gl t));rw [hR] at l1 w1 w2 hq9;refine Ans.lpG rfl rfl (Z7a ..) ?_;unfold Z8t;rw [Z9N];obtain ⟨Z,hZ⟩:=jN (z20);rw [hZ] at w1 ⊢;have fx:=ai ix (ai l1 (ai hkb (ai w1 (ai w2 hq9))));refine Ans.go ?_;clear fx
  (have fx:=ai lp (ai os sB); refine Ans.nxB (B:=S2) ?_ ?_; exact (up); clear fx)
  exact hk
def rtL (C:List Int) (m:Nat):List Int:=(List.range m).map fun k=>((Z07 C k:Nat):Int)
theorem Z7O (C:List Int) (m:Nat):(rtL C m).length=m:=by simp [rtL]
theorem ZcB (C:List Int) {m k:Nat} (h:k<m):(rtL C m).getD k 0=(Z07 C k:Nat):=by simp [rtL,qB,h]
theorem dx_out (pb ob m c:Nat) (C:List Int) (h0:FH) (df:List Nat) (hm:m<=1000000) (hd:Z2h C m) (hf:h0.f pb=some (.cells false none (ints C))) (hne:ob ≠ pb) (lp:pb<256*c) (lo:ob<256*c) :
 ∀ (r k:Nat) (X:List Int),k+r=m->X.length=m->(∀ j,j<k->X.getD j 0=(Z07 C j:Nat)) →
 Ans (G (Zbv none) [.slice (some ⟨pb,0,none⟩) m m,.slice (some ⟨ob,0,none⟩) m m,.int .i64 m,.int .i64 k] (newB h0 ob (ints X)) c df) fun q=>q=⟨.exit 8,[.slice (some ⟨pb,0,none⟩) m m,.slice (some ⟨ob,0,none⟩) m m,.int .i64 m,.int .i64 m],newB h0 ob (ints (rtL C m)),c,df⟩:=by
 intro r
 induction r with
 | zero =>
  intro k X hk hX hj;obtain rfl:k=m:=qO;have e:X=rtL C k:=Z1w (m:=k) hX (Z7O _ _) fun j hj'=>by rw [hj j hj',ZcB _ hj']
  rw [e];refine Ans.lpG rfl rfl (Z78 ..) ?_;unfold Z8r;have fx:=True.intro;refine Ans.go ?_;clear fx
  (have fx:=ai lp lo; refine Ans.ex0 ?_; clear fx)
  rfl
 | succ r ih =>
  intro k X hk hX hj;have kl:(k:Int)<m:=qO;have hf':(newB h0 ob (ints X)).f pb=some (.cells false none (ints C)):=by rw [Z01,if_neg (Ne.symm hne)]; exact hf
  have cr:=Z05 (Z5T pb m C hd (newB h0 ob (ints X)) (c+1+1+1) [] hf' qO hm k qO);have ix:=Z6w ob m .i64 k qO;have hw:=Zdh (h:=newB h0 ob (ints X)) (b:=ob) (i:=k) (L:=X) (by rw [Z01,if_pos rfl]) qO (Z07 C k:Nat);rw [ZdD] at hw;have hk':=ih (k+1) (X.set k (Z07 C k:Nat)) qO (by rw [jL]; exact hX) (fun j hj'=>by
   rw [Z0I]
   by_cases e:k=j
   · subst e; rw [if_pos ⟨rfl,qO⟩]
   · rw [if_neg (fun z=>e z.1)]; exact hj j qO)
  have up:Z0G c (newB h0 ob (ints X)) (newB h0 ob (ints (X.set k (Z07 C k:Nat)))):=Z0G.both (Z0Q.ints _ _) (Z0G.refl _ _) lo;obtain ⟨S,hS⟩:=jN (newB h0 ob (ints X));obtain ⟨S2,hS2⟩:=jN (newB h0 ob (ints (X.set k (Z07 C k:Nat))));rw [hS] at cr hw up ⊢;rw [hS2] at hw up hk';obtain ⟨R,hR⟩:=jN (Z07 C k);rw [hR] at cr hw;refine Ans.lpG rfl rfl (Z78 ..) ?_;unfold Z8r;have fx:=ai cr (ai ix hw);refine Ans.go ?_;clear fx
  (have fx:=ai lp lo; refine Ans.nxB (B:=S2) ?_ ?_; exact (up); clear fx)
  exact hk'
theorem ZdQ (s:Value) (n:Nat) (Gl:List Int) (h:FH) (c:Nat) (df:List Nat) (hs:SlI h c s 20 n Gl) (hok:Z0w Gl n=true) (hn:n<=1000) :
 Ans (G (.fn 75) [.agg #[s]] h c df) fun r=>∃ b,r=⟨.ret,[.slice (some ⟨b,0,none⟩) (16*n) (16*n)],r.h,r.c,[]⟩/\c<=r.c/\Z0l c h r.h/\256*c<=b/\b<256*r.c/\r.h.f b=some (.cells false none (ints (rtL (dCs Gl n) (16*n)))):=by
 refine Ans.call' (fun r e=>f75_go e) ?_;have Z0X:((Value.agg #[s]).cells.toList.all Z08)=true:=by simp [Value.cells,hs.flat]
 have Z0Y:(Value.agg #[s]).cells.toList=[s]:=rfl;unfold ZpN;rw [Z0X,Z0Y];simp only [cond_true,qW];obtain ⟨g0,hg0⟩:=jN (256*c);rw [hg0];obtain ⟨M,hM⟩:=jN (newB h g0 [s]);rw [hM];have Mg:M.f g0=some (.cells false none [s]):=by rw [← hM,Z01,if_pos rfl]
 have sM:Z0l c h M:=fun j hj=>by rw [← hM,Z01,if_neg qO]
 have l0:ld1 M (.pointer (some ⟨g0,0,none⟩))=some s:=by rw [Z02 (cs:=[s]) ⟨false,none,Mg⟩]; rfl
 have len:=hs.len;have cs:=Z05 (Z4h (16*n) M (c+1+1) [] qO);obtain ⟨pb,hpb⟩:=jN (256*(c+1+1+1)+1);rw [hpb] at cs;have l1:ld1 (newB M pb (ints (Z0g (16*n)))) (.pointer (some ⟨g0,0,none⟩))=some s:=by rw [ld1_newB_ne _ _ _ _ _ qO]; exact l0
 have hsM:SlI M (c+1) s 20 n Gl:=(hs.same sM).mono qO;have lo:=Ans.eq (dx_t pb n (c+1+1+1+1+1+1+1) (c+1) Gl s M [] hn hok hsM qO qO qO n 0 (Z0g (16*n)) qO (JX.nil _));have hd:=Zh4 hok hs.1;simp only [qC,qF] at lo;obtain ⟨ob,hob⟩:=jN (256*(c+1+1+1+1+1+1+1)+2);have mk:=Z5L 1 8 .i64 .i64 (16*n) qO qO;have lo2:=Ans.eq (dx_out pb ob (16*n) (c+1+1+1+1+1+1+1+1+1) (dCs Gl n) (newB M pb (ints (dCs Gl n))) [] qO hd (by rw [Z01,if_pos rfl]) qO qO qO (16*n) 0 (List.replicate (16*n) 0) qO (by simp) (fun j hj=>qO));simp only [qC,qF] at lo2;have e4:((16*n:Nat):Int)=16*(n:Int):=qO;rw [e4] at cs mk lo2;obtain ⟨K1,hK1⟩:=jN (newB M pb (ints (Z0g (16*n))));obtain ⟨K2,hK2⟩:=jN (newB M pb (ints (dCs Gl n)));rw [hK1] at cs l1 lo;rw [hK2] at lo lo2;obtain ⟨K3,hK3⟩:=jN (newB K2 ob (ints (rtL (dCs Gl n) (16*n))));rw [hK3] at lo2;have fx:=ai l0 (ai len (ai cs (ai l1 (ai lo (ai mk (ai hob lo2))))));refine Ans.go ?_;clear fx;refine .done ⟨ob,rfl,by dsimp only; omega,fun j hj=>?_,qO,by dsimp only; omega, ?_⟩
 · show K3.f j=_;rw [← hK3,Z01,if_neg qO,← hK2,Z01,if_neg qO];exact sM j hj
 · show K3.f ob=_;rw [← hK3,Z01,if_pos rfl]

noncomputable def fH (h:FH) (vb db eb tb:Nat) (V D E T:List Int):FH:=newB (newB (newB (newB h vb (ints V)) db (ints D)) eb (ints E)) tb (ints T)
theorem Z9z (h:FH) (vb db eb tb:Nat) (V D E T:List Int) (j:Nat):(fH h vb db eb tb V D E T).f j=if j=tb then some (.cells false none (ints T)) else if j=eb then some (.cells false none (ints E)) else if j=db then some (.cells false none (ints D)) else if j=vb then some (.cells false none (ints V)) else h.f j:=by
 unfold fH;rw [Z01,Z01,Z01,Z01]
structure N4 (vb db eb tb:Nat):Prop where
 a:vb ≠ db
 b:vb ≠ eb
 c:vb ≠ tb
 d:db ≠ eb
 e:db ≠ tb
 f:eb ≠ tb
section
variable {vb db eb tb:Nat} (q:N4 vb db eb tb) (h:FH) (V D E T X:List Int)
 include q
theorem fH_V:newB (fH h vb db eb tb V D E T) vb (ints X)=fH h vb db eb tb X D E T:=by
 obtain ⟨a,b,c,d,e,f⟩:=q;apply FH.ext; intro j;rw [Z01,Z9z,Z9z]
 by_cases z:j=vb
 · subst z; rw [if_pos rfl,if_neg c,if_neg b,if_neg a,if_pos rfl]
 · rw [if_neg z,if_neg z,if_neg z]
theorem fH_D:newB (fH h vb db eb tb V D E T) db (ints X)=fH h vb db eb tb V X E T:=by
 obtain ⟨a,b,c,d,e,f⟩:=q;apply FH.ext; intro j;rw [Z01,Z9z,Z9z]
 by_cases z:j=db
 · subst z; rw [if_pos rfl,if_neg e,if_neg d,if_pos rfl]
 · rw [if_neg z,if_neg z,if_neg z]
theorem fH_E:newB (fH h vb db eb tb V D E T) eb (ints X)=fH h vb db eb tb V D X T:=by
 obtain ⟨a,b,c,d,e,f⟩:=q;apply FH.ext; intro j;rw [Z01,Z9z,Z9z]
 by_cases z:j=eb
 · subst z; rw [if_pos rfl,if_neg f,if_pos rfl]
 · rw [if_neg z,if_neg z,if_neg z]
theorem fH_T:newB (fH h vb db eb tb V D E T) tb (ints X)=fH h vb db eb tb V D E X:=by
 obtain ⟨a,b,c,d,e,f⟩:=q;apply FH.ext; intro j;rw [Z01,Z9z,Z9z]
 by_cases z:j=tb
 · subst z; rw [if_pos rfl,if_pos rfl]
 · rw [if_neg z,if_neg z,if_neg z]
end
def ZoK (b vb db eb tb:Nat):Prop:=b ≠ vb/\b ≠ db/\b ≠ eb/\b ≠ tb
theorem Zgr {b vb db eb tb:Nat} (o:ZoK b vb db eb tb) (h:FH) (V D E T:List Int):(fH h vb db eb tb V D E T).f b=h.f b:=by
 rw [Z9z,if_neg o.2.2.2,if_neg o.2.2.1,if_neg o.2.1,if_neg o.1]
theorem Zew {b vb db eb tb:Nat} (o:ZoK b vb db eb tb) (h:FH) (V D E T:List Int) (cs:List Value):newB (fH h vb db eb tb V D E T) b cs=fH (newB h b cs) vb db eb tb V D E T:=by
 obtain ⟨o1,o2,o3,o4⟩:=o;apply FH.ext; intro j;rw [Z01,Z9z,Z9z,Z01]
 by_cases z:j=b
 · subst z; rw [if_pos rfl,if_neg o4,if_neg o3,if_neg o2,if_neg o1,if_pos rfl]
 · rw [if_neg z,if_neg z]
theorem ZcS (h:FH) {vb db eb tb c:Nat} (h1:vb<256*c) (h2:db<256*c) (h3:eb<256*c) (h4:tb<256*c) (V D E T V' D' E' T':List Int):Z0G c (fH h vb db eb tb V D E T) (fH h vb db eb tb V' D' E' T'):=by
 intro j;rw [Z9z,Z9z];refine ⟨fun hj=>by rw [if_neg qO,if_neg qO,if_neg qO,if_neg qO,if_neg qO,if_neg qO,if_neg qO,if_neg qO],fun hj=>?_⟩
 by_cases e1:j=tb
 · rw [if_pos e1]; exact .inr (Z0Q.ints _ _)
 rw [if_neg e1,if_neg e1]
 by_cases e2:j=eb
 · rw [if_pos e2]; exact .inr (Z0Q.ints _ _)
 rw [if_neg e2,if_neg e2]
 by_cases e3:j=db
 · rw [if_pos e3]; exact .inr (Z0Q.ints _ _)
 rw [if_neg e3,if_neg e3]
 by_cases e4:j=vb
 · rw [if_pos e4]; exact .inr (Z0Q.ints _ _)
 rw [if_neg e4,if_neg e4]; exact .inl rfl
theorem Zjv (h h':FH) {vb db eb tb c:Nat} (hs:Z0l c h h') (V D E T:List Int):Z0l c (fH h vb db eb tb V D E T) (fH h' vb db eb tb V D E T):=fun j hj=>by
 rw [Z9z,Z9z,hs j hj]
theorem Zjw (h:FH) {vb db eb tb c:Nat} (h1:256*c<=vb) (h2:256*c<=db) (h3:256*c<=eb) (h4:256*c<=tb) (V D E T:List Int):Z0l c h (fH h vb db eb tb V D E T):=fun j hj=>by
 rw [Z9z,if_neg qO,if_neg qO,if_neg qO,if_neg qO]
structure E4 (h0:FH) (cb vb db eb tb n:Nat) (s:Value):Prop where
 st:Z0d h0 cb [s,.slice (some ⟨vb,0,none⟩) (4*n) (4*n),.slice (some ⟨db,0,none⟩) (16*n) (16*n),.slice (some ⟨eb,0,none⟩) (6*n) (6*n),.slice (some ⟨tb,0,none⟩) (4*n) (4*n)]
 q:N4 vb db eb tb
 o:ZoK cb vb db eb tb
 le:n<=60
section
variable {h0:FH} {cb vb db eb tb n:Nat} {s:Value} (e:E4 h0 cb vb db eb tb n s) {V D E T:List Int}
 include e
theorem E4.hold:Z0d (fH h0 vb db eb tb V D E T) cb [s,.slice (some ⟨vb,0,none⟩) (4*n) (4*n),.slice (some ⟨db,0,none⟩) (16*n) (16*n),.slice (some ⟨eb,0,none⟩) (6*n) (6*n),.slice (some ⟨tb,0,none⟩) (4*n) (4*n)]:=by
 obtain ⟨ro,op,z⟩:=e.st;exact ⟨ro,op,(Zgr e.o h0 V D E T).trans z⟩
theorem E4.vu (hd:Z2h V (4*n)):Uo (fH h0 vb db eb tb V D E T) cb 1 vb (4*n) V :=
 ⟨⟨_,e.hold,rfl⟩,by rw [Z9z,if_neg e.q.c,if_neg e.q.b,if_neg e.q.a,if_pos rfl],e.o.1,hd,by have:=e.le; omega⟩
theorem E4.du (hd:Z2h D (16*n)):Uo (fH h0 vb db eb tb V D E T) cb 2 db (16*n) D :=
 ⟨⟨_,e.hold,rfl⟩,by rw [Z9z,if_neg e.q.e,if_neg e.q.d,if_pos rfl],e.o.2.1,hd,by have:=e.le; omega⟩
theorem E4.eu (hd:Z2h E (6*n)):Uo (fH h0 vb db eb tb V D E T) cb 3 eb (6*n) E :=
 ⟨⟨_,e.hold,rfl⟩,by rw [Z9z,if_neg e.q.f,if_pos rfl],e.o.2.2.1,hd,by have:=e.le; omega⟩
theorem E4.tu (hd:Z2h T (4*n)):Uo (fH h0 vb db eb tb V D E T) cb 4 tb (4*n) T :=
 ⟨⟨_,e.hold,rfl⟩,by rw [Z9z,if_pos rfl],e.o.2.2.2,hd,by have:=e.le; omega⟩
end
theorem E4.newB {h0:FH} {cb vb db eb tb n:Nat} {s:Value} (e:E4 h0 cb vb db eb tb n s) {b:Nat} (hb:cb ≠ b) (cs:List Value):E4 (Go.Ab.newB h0 b cs) cb vb db eb tb n s:=⟨e.st.newB_ne hb,e.q,e.o,e.le⟩
structure XF (Gl:List Int) (n t f xb pb vb db eb tb:Nat) (h0:FH):Prop where
 hx:Z0d h0 xb (ints (Z04 Gl t f))
 hp:Z0d h0 pb (ints (Z0v (Z04 Gl t f)))
 ox:ZoK xb vb db eb tb
 op:ZoK pb vb db eb tb
 ok:Z0w Gl n=true
 gl:Gl.length=n*20
 ht:t<n
 hf:f<4
 g:¬ Z0D (Z04 Gl t f)<0
section
variable {Gl:List Int} {n t f xb pb vb db eb tb:Nat} {h0:FH} (x:XF Gl n t f xb pb vb db eb tb h0)
 include x
theorem XF.perm:Z0v (Z04 Gl t f) ∈ p24/\fU Gl t f<n/\Z0D (Z04 Gl t f)=(fU Gl t f:Nat):=by
 obtain ⟨k1,k2,k3,k4⟩:=Z1S (Z33 x.ok x.ht x.hf) x.g;have:=x.g;exact ⟨Zeq (Z1g (Z0i x.gl x.ht x.hf)) k2,by unfold fU; omega,by unfold fU; omega⟩
theorem XF.j {i:Nat} (hi:i<4):fJ Gl t f i<4/\(Z0v (Z04 Gl t f)).getD i 0=(fJ Gl t f i:Nat):=by
 have:=Z7Q x.perm.1 hi;unfold fJ;omega
theorem XF.ne {i j:Nat} (hi:i<4) (hj:j<4) (h:i ≠ j):fJ Gl t f i ≠ fJ Gl t f j:=by
 have:=ne24 x.perm.1 hi hj h;have:=(x.j hi).2;have:=(x.j hj).2;omega
theorem XF.l0 (V D E T:List Int):ld1 (fH h0 vb db eb tb V D E T) (.pointer (some ⟨xb,0,none⟩))=some (.int .i64 (fU Gl t f:Nat)):=by
 obtain ⟨ro,op,z⟩:=x.hx;have hl:=Z0i x.gl x.ht x.hf;have e:(Z04 Gl t f).getD 0 0=Z0D (Z04 Gl t f):=rfl;rw [Z02 ⟨ro,op,(Zgr x.ox h0 V D E T).trans z⟩,ints_getD _ _ qO,e,x.perm.2.2]
theorem XF.l1 (V D E T:List Int) {i:Nat} (hi:i<4):ld1 (fH h0 vb db eb tb V D E T) (.pointer (some ⟨pb,i,none⟩))=some (.int .i64 (fJ Gl t f i:Nat)):=by
 obtain ⟨ro,op,z⟩:=x.hp;have hl:=ZhA x.perm.1;rw [Z02 ⟨ro,op,(Zgr x.op h0 V D E T).trans z⟩,ints_getD _ _ qO,(x.j hi).2]
end
theorem nc_j (cb vb db eb tb n xb pb t f i c:Nat) (Gl V T:List Int) (s x1 x2 x3 x4 x5 x6:Value) (h0:FH) (df:List Nat) (PD PE:Prs) (e:E4 h0 cb vb db eb tb n s) (x:XF Gl n t f xb pb vb db eb tb h0) (hi:i<4) (hif:i ≠ f) (lc:cb<256*c) (lv:vb<256*c) (ld:db<256*c) (le:eb<256*c) (lt:tb<256*c) (lx:xb<256*c) (lp:pb<256*c)
 (o1:OkV c x1) (o2:OkV c x2) (o3:OkV c x3) (o4:OkV c x4) (o5:OkV c x5) (o6:OkV c x6) :
 ∀ (r j:Nat) (D E:List Int),j+r=4->Jn (PD++upL (dJ Gl t f i) j) (16*n) D->Jn (PE++upL (eJ Gl t f i) j) (6*n) E →
 Ans (G (Zc2 none) [ptrTo cb,.int .i64 t,.int .i64 f,ptrTo xb,ptrTo pb,.int .i64 i,x1,x2,x3,x4,x5,x6,.int .i64 j] (fH h0 vb db eb tb V D E T) c df) fun q=>∃ D' E',q=⟨.exit 6,[ptrTo cb,.int .i64 t,.int .i64 f,ptrTo xb,ptrTo pb,.int .i64 i,x1,x2,x3,x4,x5,x6,.int .i64 4],fH h0 vb db eb tb V D' E' T,c,df⟩/\Jn (PD++upL (dJ Gl t f i) 4) (16*n) D'/\Jn (PE++upL (eJ Gl t f i) 4) (6*n) E':=by
 intro r;have ht:=x.ht;have hf:=x.hf;have hu:=x.perm.2.1;have hji:=x.j hi
 induction r with
 | zero =>
  intro j D E hj jd je;obtain rfl:j=4:=qO;refine Ans.lpG rfl rfl (Z2X ..) ?_;unfold Z3F;obtain ⟨H,hH⟩:=jN (fH h0 vb db eb tb V D E T);rw [hH];have fx:=True.intro;refine Ans.go ?_;clear fx
  (have fx:=ai lc (ai lx (ai lp (ai o1 (ai o2 (ai o3 (ai o4 (ai o5 o6))))))); refine Ans.ex0 ?_; clear fx)
  exact ⟨D,E,by rw [hH]; rfl,jd,je⟩
 | succ r ih =>
  intro j D E hj jd je;have hj4:j<4:=qO;have hjj:=x.j hj4
  by_cases q:j ≠ f/\j ≠ i
  · have qd:dJ Gl t f i j=[(16*t+4*i+j,16*fU Gl t f+4*fJ Gl t f i+fJ Gl t f j)]:=if_pos q;have qe:eJ Gl t f i j=[(eNo t i j,eNo (fU Gl t f) (fJ Gl t f i) (fJ Gl t f j))]:=if_pos q;have r1:=Z4N (i:=(i:Int)) (j:=(j:Int)) qO qO qO qO qO;have r2:=Z4N (i:=(fJ Gl t f i:Int)) (j:=(fJ Gl t f j:Int)) qO qO qO qO (by have:=x.ne hi hj4 (fun z=>q.2 z.symm); omega);obtain ⟨D',sd,gd⟩:=ZcN (fH h0 vb db eb tb V D E T) cb 2 db (16*n) (c+1+1+1+1) D (e.du jd.dn) qO qO (16*t+4*i+j) (16*fU Gl t f+4*fJ Gl t f i+fJ Gl t f j) qO qO [];rw [fH_D e.q] at gd;obtain ⟨E',se,ge⟩:=ZcN (fH h0 vb db eb tb V D' E T) cb 3 eb (6*n) (c+1+1+1+1+1) E (e.eu je.dn) qO qO (eNo t i j) (eNo (fU Gl t f) (fJ Gl t f i) (fJ Gl t f j)) (by unfold eNo; omega) (by unfold eNo; omega) [];rw [fH_E e.q] at ge;have jd':=jd.snoc qO qO sd;have je':=je.snoc (by unfold eNo; omega) (by unfold eNo; omega) se;have hk:=ih (j+1) D' E' qO (by rw [upL,qd,← qQ]; exact jd') (by rw [upL,qe,← qQ]; exact je');have cd:=Z05 gd;have ce:=Z05 ge;have e1:((eNo t i j:Nat):Int)=6*(t:Int)+edN i j:=by unfold eNo; omega
    have e2:((eNo (fU Gl t f) (fJ Gl t f i) (fJ Gl t f j):Nat):Int)=6*(fU Gl t f:Int)+edN (fJ Gl t f i:Nat) (fJ Gl t f j:Nat):=by unfold eNo; omega
    have e3:((16*t+4*i+j:Nat):Int)=16*(t:Int)+4*(i:Int)+j:=qO;have e4:((16*fU Gl t f+4*fJ Gl t f i+fJ Gl t f j:Nat):Int)=16*(fU Gl t f:Int)+4*(fJ Gl t f i:Int)+(fJ Gl t f j:Nat):=qO;rw [e1,e2] at ce;rw [e3,e4] at cd;have a0:=x.l0 V D E T;have a1:=x.l1 V D E T hi;have a2:=x.l1 V D E T hj4;have b0:=x.l0 V D' E T;have b1:=x.l1 V D' E T hi;have b2:=x.l1 V D' E T hj4;have k1:=Z9d i j;have k2:=Z9d (fJ Gl t f i:Nat) (fJ Gl t f j:Nat);have q1:¬ (j:Int)=f:=qO;have q2:¬ (j:Int)=i:=qO;have up:=ZcS h0 lv ld le lt V D E T V D' E' T;obtain ⟨y1,hy1⟩:=jN (edN (i:Nat) (j:Nat));obtain ⟨y2,hy2⟩:=jN (edN (fJ Gl t f i:Nat) (fJ Gl t f j:Nat));rw [hy1] at r1 k1 ce;rw [hy2] at r2 k2 ce;obtain ⟨u,hu'⟩:=jN (fU Gl t f);obtain ⟨p,hp'⟩:=jN (fJ Gl t f i);obtain ⟨p2,hp2⟩:=jN (fJ Gl t f j);rw [hu'] at a0 b0 cd ce hu;rw [hp'] at a1 b1 cd k2 hji;rw [hp2] at a2 b2 cd k2 hjj;clear sd gd se ge jd' je' e1 e2 e3 e4;have tn:t<60:=by have:=e.le; omega
    have un:u<60:=by have:=e.le; omega
    obtain ⟨S,hS⟩:=jN (fH h0 vb db eb tb V D E T);obtain ⟨S1,hS1⟩:=jN (fH h0 vb db eb tb V D' E T);obtain ⟨S2,hS2⟩:=jN (fH h0 vb db eb tb V D' E' T);rw [hS] at a0 a1 a2 cd up ⊢;rw [hS1] at b0 b1 b2 cd ce;rw [hS2] at ce up hk;refine Ans.lpG rfl rfl (Z2X ..) ?_;unfold Z3F;have fx:=ai a0 (ai a1 (ai a2 (ai b0 (ai b1 (ai b2 (ai cd (ai ce (ai k1 (ai k2 (ai q1 (ai q2 sameB_self)))))))))));refine Ans.go ?_;clear fx
    (have fx:=ai lc (ai lx (ai lp (ai o1 (ai o2 (ai o3 (ai o4 (ai o5 o6))))))); refine Ans.nxB (B:=S2) ?_ ?_; exact (up); clear fx)
    exact hk
  · have qd:dJ Gl t f i j=[]:=if_neg q;have qe:eJ Gl t f i j=[]:=if_neg q;have hk:=ih (j+1) D E qO (by rw [upL,qd,qL]; exact jd) (by rw [upL,qe,qL]; exact je);obtain ⟨S,hS⟩:=jN (fH h0 vb db eb tb V D E T);rw [hS] at hk ⊢;refine Ans.lpG rfl rfl (Z2X ..) ?_;unfold Z3F
    by_cases q1:j=f
    · have q1':(j:Int)=f:=qO;have fx:=q1';refine Ans.go ?_;clear fx
      (have fx:=ai lc (ai lx (ai lp (ai o1 (ai o2 (ai o3 (ai o4 (ai o5 o6))))))); refine Ans.nx0 ?_; clear fx)
      exact hk
    · have q1':¬ (j:Int)=f:=qO;have q2':(j:Int)=i:=qO;have fx:=ai q1' q2';refine Ans.go ?_;clear fx
      (have fx:=ai lc (ai lx (ai lp (ai o1 (ai o2 (ai o3 (ai o4 (ai o5 o6))))))); refine Ans.nx0 ?_; clear fx)
      exact hk

set_option maxRecDepth 100000
theorem nc_i (cb vb db eb tb n xb pb t f c:Nat) (Gl T:List Int) (s x1 x2 x3 x4 x5:Value) (h0:FH) (df:List Nat) (PV PD PE:Prs) (e:E4 h0 cb vb db eb tb n s) (x:XF Gl n t f xb pb vb db eb tb h0) (lc:cb<256*c) (lv:vb<256*c) (ld:db<256*c) (le:eb<256*c) (lt:tb<256*c) (lx:xb<256*c) (lp:pb<256*c)
 (o1:OkV c x1) (o2:OkV c x2) (o3:OkV c x3) (o4:OkV c x4) (o5:OkV c x5) :
 ∀ (r i:Nat) (V D E:List Int),i+r=4->Jn (PV++upL (vI Gl t f) i) (4*n) V->Jn (PD++upL (dI Gl t f) i) (16*n) D->Jn (PE++upL (eI Gl t f) i) (6*n) E →
 Ans (G (Zc3 none) [ptrTo cb,.int .i64 t,.int .i64 f,ptrTo xb,ptrTo pb,x1,x2,x3,x4,x5,.int .i64 i] (fH h0 vb db eb tb V D E T) c df) fun q=>∃ V' D' E',q=⟨.exit 4,[ptrTo cb,.int .i64 t,.int .i64 f,ptrTo xb,ptrTo pb,x1,x2,x3,x4,x5,.int .i64 4],fH h0 vb db eb tb V' D' E' T,c,df⟩ ∧
  Jn (PV++upL (vI Gl t f) 4) (4*n) V'/\Jn (PD++upL (dI Gl t f) 4) (16*n) D'/\Jn (PE++upL (eI Gl t f) 4) (6*n) E':=by
 intro r;have ht:=x.ht;have hf:=x.hf;have hu:=x.perm.2.1
 induction r with
 | zero =>
  intro i V D E hi jv jd je;obtain rfl:i=4:=qO;refine Ans.lpG rfl rfl (Z2Y ..) ?_;unfold Z3G;obtain ⟨H,hH⟩:=jN (fH h0 vb db eb tb V D E T);rw [hH];have fx:=True.intro;refine Ans.go ?_;clear fx
  (have fx:=ai lc (ai lx (ai lp (ai o1 (ai o2 (ai o3 (ai o4 o5)))))); refine Ans.ex0 ?_; clear fx)
  exact ⟨V,D,E,by rw [hH]; rfl,jv,jd,je⟩
 | succ r ih =>
  intro i V D E hi jv jd je;have hi4:i<4:=qO;have hji:=x.j hi4
  by_cases q:i=f
  · have qv:vI Gl t f i=[]:=if_pos q;have qd:dI Gl t f i=[]:=if_pos q;have qe:eI Gl t f i=[]:=if_pos q;have hk:=ih (i+1) V D E qO (by rw [upL,qv,qL]; exact jv) (by rw [upL,qd,qL]; exact jd) (by rw [upL,qe,qL]; exact je);obtain ⟨S,hS⟩:=jN (fH h0 vb db eb tb V D E T);rw [hS] at hk ⊢;have q1':(i:Int)=f:=qO;refine Ans.lpG rfl rfl (Z2Y ..) ?_;unfold Z3G;have fx:=q1';refine Ans.go ?_;clear fx
    (have fx:=ai lc (ai lx (ai lp (ai o1 (ai o2 (ai o3 (ai o4 o5)))))); refine Ans.nx0 ?_; clear fx)
    exact hk
  · have qv:vI Gl t f i=[(4*t+i,4*fU Gl t f+fJ Gl t f i)]:=if_neg q;have qd:dI Gl t f i=upL (dJ Gl t f i) 4:=if_neg q;have qe:eI Gl t f i=upL (eJ Gl t f i) 4:=if_neg q;obtain ⟨V',sv,gv'⟩:=ZcN (fH h0 vb db eb tb V D E T) cb 1 vb (4*n) (c+1+1+1+1) V (e.vu jv.dn) qO qO (4*t+i) (4*fU Gl t f+fJ Gl t f i) qO qO [];rw [fH_V e.q] at gv';have jv':=jv.snoc qO qO sv;obtain ⟨q9,hq9,D',E',rfl,jd',je'⟩:=nc_j cb vb db eb tb n xb pb t f i (c+1+1+1+1+1) Gl V' T s x1 x2 x3 x4 x5 (.int .i64 i) h0 df (PD++upL (dI Gl t f) i) (PE++upL (eI Gl t f) i) e x hi4 q qO qO qO qO qO qO qO
     (o1.mono qO) (o2.mono qO) (o3.mono qO) (o4.mono qO) (o5.mono qO) (OkV.int _ _ _) 4 0 D E qO (by rw [upL,qL]; exact jd) (by rw [upL,qL]; exact je)
    have hk:=ih (i+1) V' D' E' qO (by rw [upL,qv,← qQ]; exact jv') (by rw [upL,qd,← qQ]; exact jd') (by rw [upL,qe,← qQ]; exact je');have cv:=Z05 gv';have e3:((4*t+i:Nat):Int)=4*(t:Int)+i:=qO;have e4:((4*fU Gl t f+fJ Gl t f i:Nat):Int)=4*(fU Gl t f:Int)+(fJ Gl t f i:Nat):=qO;rw [e3,e4] at cv;simp only [qC,qF] at hq9;have a0:=x.l0 V D E T;have a1:=x.l1 V D E T hi4;have q1:¬ (i:Int)=f:=qO;have up:=ZcS h0 lv ld le lt V D E T V' D' E' T;obtain ⟨u,hu'⟩:=jN (fU Gl t f);obtain ⟨p,hp'⟩:=jN (fJ Gl t f i);rw [hu'] at a0 cv hu;rw [hp'] at a1 cv hji;clear sv gv' jv' jd' je' e3 e4;have tn:t<60:=by have:=e.le; omega
    have un:u<60:=by have:=e.le; omega
    obtain ⟨S,hS⟩:=jN (fH h0 vb db eb tb V D E T);obtain ⟨S1,hS1⟩:=jN (fH h0 vb db eb tb V' D E T);obtain ⟨S2,hS2⟩:=jN (fH h0 vb db eb tb V' D' E' T);rw [hS] at a0 a1 cv up ⊢;rw [hS1] at cv hq9;rw [hS2] at hq9 up hk;refine Ans.lpG rfl rfl (Z2Y ..) ?_;unfold Z3G;have fx:=ai a0 (ai a1 (ai cv (ai q1 hq9)));refine Ans.go ?_;clear fx
    (have fx:=ai lc (ai lx (ai lp (ai o1 (ai o2 (ai o3 (ai o4 o5)))))); refine Ans.nxB (B:=S2) ?_ ?_; exact (up); clear fx)
    exact hk
theorem nc_f (cb vb db eb tb n t c:Nat) (Gl:List Int) (s x1 x2 x3:Value) (h0:FH) (df:List Nat) (PV PD PE PT:Prs) (e:E4 h0 cb vb db eb tb n s) (hok:Z0w Gl n=true) (hG:Gl.length=n*20) (ht:t<n) (lc:cb<256*c) (lv:vb<256*c) (ld:db<256*c) (le:eb<256*c) (lt:tb<256*c)
 (o1:OkV c x1) (o2:OkV c x2) (o3:OkV c x3) :
 ∀ (r f:Nat) (V D E T:List Int),f+r=4->Jn (PV++upL (vF Gl t) f) (4*n) V->Jn (PD++upL (dF Gl t) f) (16*n) D->Jn (PE++upL (eF Gl t) f) (6*n) E->Jn (PT++upL (tF Gl t) f) (4*n) T →
 Ans (G (Zc4 none) [ptrTo cb,.int .i64 t,x1,x2,x3,av (Z0K Gl t),.int .i64 f] (fH h0 vb db eb tb V D E T) c df) fun q=>∃ V' D' E' T',q=⟨.exit 2,[ptrTo cb,.int .i64 t,x1,x2,x3,av (Z0K Gl t),.int .i64 4],fH h0 vb db eb tb V' D' E' T',c,df⟩ ∧
  Jn (PV++upL (vF Gl t) 4) (4*n) V'/\Jn (PD++upL (dF Gl t) 4) (16*n) D'/\Jn (PE++upL (eF Gl t) 4) (6*n) E'/\Jn (PT++upL (tF Gl t) 4) (4*n) T':=by
 intro r;have hrl:=Z0E hG ht;have orow:OkV c (av (Z0K Gl t)):=OkV.av _ _
 induction r with
 | zero =>
  intro f V D E T hf jv jd je jt;obtain rfl:f=4:=qO;refine Ans.lpG rfl rfl (Z2Z ..) ?_;unfold Z3H;obtain ⟨H,hH⟩:=jN (fH h0 vb db eb tb V D E T);rw [hH];have fx:=True.intro;refine Ans.go ?_;clear fx
  (have fx:=ai lc (ai o1 (ai o2 (ai o3 orow))); refine Ans.ex0 ?_; clear fx)
  exact ⟨V,D,E,T,by rw [hH]; rfl,jv,jd,je,jt⟩
 | succ r ih =>
  intro f V D E T hf jv jd je jt;have hf4:f<4:=qO;have x1':=Z2p (Z0K Gl t) 4 5 .i64 (f:Int) qO qO hrl;rw [qE,Z23 hf4] at x1';have hfl:=Z0i hG ht hf4;have f4:(f:Int)<4:=qO;obtain ⟨xb,hxb⟩:=jN (256*(c+1)+2);obtain ⟨pb,hpb⟩:=jN (256*(c+1+1+1)+2);have ox:ZoK xb vb db eb tb:=⟨qO,qO,qO,qO⟩;have op:ZoK pb vb db eb tb:=⟨qO,qO,qO,qO⟩;have hst:∀ H:FH,stN (newB H xb [.int .i64 0,.int .i64 0,.int .i64 0,.int .i64 0,.int .i64 0]) 5 (.pointer (some ⟨xb,0,none⟩)) (av (Z04 Gl t f))=some (newB H xb (ints (Z04 Gl t f))):=fun H=>stN_all _ _ 5 _ _ hfl rfl
  have b0:∀ H:FH,ld1 (newB H xb (ints (Z04 Gl t f))) (.pointer (some ⟨xb,0,none⟩))=some (.int .i64 (Z0D (Z04 Gl t f))):=fun H=>by rw [ld1_newB_same,ints_getD _ _ qO]; rfl
  by_cases hg:Z0D (Z04 Gl t f)<0
  · have qv:vF Gl t f=[]:=if_pos hg;have qd:dF Gl t f=[]:=if_pos hg;have qe:eF Gl t f=[]:=if_pos hg;have qt:tF Gl t f=[]:=if_pos hg;have hk:=ih (f+1) V D E T qO (by rw [upL,qv,qL]; exact jv) (by rw [upL,qd,qL]; exact jd) (by rw [upL,qe,qL]; exact je) (by rw [upL,qt,qL]; exact jt);obtain ⟨S,hS⟩:=jN (fH h0 vb db eb tb V D E T);have w1:=hst S;have w2:=b0 S;rw [hS] at hk ⊢;obtain ⟨F,hF⟩:=jN (Z04 Gl t f);rw [hF] at w1 w2 x1' hg;refine Ans.lpG rfl rfl (Z2Z ..) ?_;unfold Z3H;have sB:Z0l c S (newB S xb (ints F)):=fun j hj=>by rw [Z01,if_neg qO]
    repeat' (first | ((with_reducible first | refine Ans.bz ?_ | refine Ans.r1 ?_ | refine Ans.pkT ?_ | refine Ans.pkF ?_); try dsimp only [v_zero,v_succ]) | (with_reducible first | refine Ans.btL ?_ | refine Ans.bfL ?_ | refine Ans.gyT ?_ | refine Ans.gyF ?_ | refine Ans.gyG ?_ | refine Ans.bb ?_ | refine Ans.bc ?_ | refine Ans.ba ?_) | ((with_reducible first | refine Ans.lsT ?_ ?_ | refine Ans.leT ?_ ?_ | refine Ans.grT ?_ ?_ | refine Ans.geT ?_ ?_ | refine Ans.eqT ?_ ?_ | refine Ans.neT ?_ ?_); (focus omega)) | ((with_reducible first | refine Ans.lsF ?_ ?_ | refine Ans.leF ?_ ?_ | refine Ans.grF ?_ ?_ | refine Ans.geF ?_ ?_ | refine Ans.eqF ?_ ?_ | refine Ans.neF ?_ ?_); (focus omega)) | (with_reducible first | refine Ans.lsS (fun _=>?_) (fun _=>?_) | refine Ans.leS (fun _=>?_) (fun _=>?_) | refine Ans.grS (fun _=>?_) (fun _=>?_) | refine Ans.geS (fun _=>?_) (fun _=>?_) | refine Ans.eqS (fun _=>?_) (fun _=>?_) | refine Ans.neS (fun _=>?_) (fun _=>?_)) | ((with_reducible first | refine Ans.addN ?_ ?_ | refine Ans.add ?_ ?_ | refine Ans.sub ?_ ?_ | refine Ans.mul ?_ ?_); (focus omega)) | ((with_reducible first | refine Ans.ct ?_ ?_); (focus (simp (disch:=(first | omega | with_reducible assumption | (simp <;> omega) | fail)) [x1',hxb,w1,w2,hg,-ld1_newB_same]; done))) | ((with_reducible first | refine Ans.cf ?_ ?_); (focus (simp (disch:=(first | omega | with_reducible assumption | (simp <;> omega) | fail)) [x1',hxb,w1,w2,hg,-ld1_newB_same]; done))) | (refine Ans.step (by simp (disch:=(first | omega | with_reducible assumption | (simp <;> omega) | fail)) [x1',hxb,w1,w2,hg,-ld1_newB_same,-List.getD_eq_getElem?_getD] <;> rfl) ?_; try dsimp only [v_zero,v_succ]) | fail)
    (have fx:=ai lc (ai o1 (ai o2 (ai o3 (ai orow sB)))); refine Ans.nx0 ?_; clear fx)
    exact hk
  · have qv:vF Gl t f=upL (vI Gl t f) 4:=if_neg hg;have qd:dF Gl t f=upL (dI Gl t f) 4:=if_neg hg;have qe:eF Gl t f=upL (eI Gl t f) 4:=if_neg hg;have qt:tF Gl t f=[(4*t+f,4*fU Gl t f+fJ Gl t f f)]:=if_neg hg;obtain ⟨h1,hh1⟩:=jN (newB (newB h0 xb (ints (Z04 Gl t f))) pb (ints (Z0v (Z04 Gl t f))));have x:XF Gl n t f xb pb vb db eb tb h1:=⟨by rw [← hh1]; exact (Z0d.newB_same _ _ _).newB_ne qO,by rw [← hh1]; exact Z0d.newB_same _ _ _,ox,op,hok,hG,ht,hf4,hg⟩;have e1:E4 h1 cb vb db eb tb n s:=by rw [← hh1]; exact (e.newB qO _).newB qO _
    have hu:=x.perm.2.1;have hjf:=x.j hf4;have t1:Z0l (c+1) h0 h1:=fun j hj=>by rw [← hh1,Z01,if_neg qO,Z01,if_neg qO]
    have ec:newB (newB (fH h0 vb db eb tb V D E T) xb (ints (Z04 Gl t f))) pb (ints (Z0v (Z04 Gl t f)))=fH h1 vb db eb tb V D E T:=by
     rw [Zew ox,Zew op,hh1]
    obtain ⟨T',st,gt⟩:=ZcN (fH h1 vb db eb tb V D E T) cb 4 tb (4*n) (c+1+1+1+1+1) T (e1.tu jt.dn) qO qO (4*t+f) (4*fU Gl t f+fJ Gl t f f) qO qO [];rw [fH_T e.q] at gt;have jt':=jt.snoc qO qO st;obtain ⟨q9,hq9,V',D',E',rfl,jv',jd',je'⟩:=nc_i cb vb db eb tb n xb pb t f (c+1+1+1+1+1+1) Gl T' s x1 x2 x3 (av (Z0K Gl t)) (.int .i64 f) h1 df (PV++upL (vF Gl t) f) (PD++upL (dF Gl t) f) (PE++upL (eF Gl t) f) e1 x qO qO qO qO qO qO qO
     (o1.mono qO) (o2.mono qO) (o3.mono qO) (OkV.av _ _) (OkV.int _ _ _) 4 0 V D E qO (by rw [upL,qL]; exact jv) (by rw [upL,qL]; exact jd) (by rw [upL,qL]; exact je)
    have hk:=ih (f+1) V' D' E' T' qO (by rw [upL,qv,← qQ]; exact jv') (by rw [upL,qd,← qQ]; exact jd') (by rw [upL,qe,← qQ]; exact je') (by rw [upL,qt,← qQ]; exact jt');have ct:=Z05 gt;have e3:((4*t+f:Nat):Int)=4*(t:Int)+f:=qO;have e4:((4*fU Gl t f+fJ Gl t f f:Nat):Int)=4*(fU Gl t f:Int)+(fJ Gl t f f:Nat):=qO;rw [e3,e4] at ct;simp only [qC,qF] at hq9;have a0:=x.l0 V D E T;have a1:=x.l1 V D E T hf4;have hgz:=x.perm.2.2;have up:=ZcS h0 lv ld le lt V D E T V' D' E' T';have sB:Z0l c (fH h0 vb db eb tb V' D' E' T') (fH h1 vb db eb tb V' D' E' T'):=Zjv h0 h1 (t1.mono qO) V' D' E' T';have lp:ldN (newB (fH h0 vb db eb tb V D E T) xb (ints (Z04 Gl t f))) 4 (.pointer (some ⟨xb,1,none⟩))=some (av (Z0v (Z04 Gl t f))):=by
     rw [ldN_newB_same _ _ _ _ _ (by simp [hfl])];unfold Z0v;rw [Z1G,Z1e]; rfl
    have hpl:=ZhA x.perm.1;have hst2:∀ H:FH,stN (newB H pb [.int .i64 0,.int .i64 0,.int .i64 0,.int .i64 0]) 4 (.pointer (some ⟨pb,0,none⟩)) (av (Z0v (Z04 Gl t f)))=some (newB H pb (ints (Z0v (Z04 Gl t f)))):=fun H=>stN_all _ _ 4 _ _ hpl rfl
    have w1:=hst (fH h0 vb db eb tb V D E T);have w2:=b0 (fH h0 vb db eb tb V D E T);have w3:=hst2 (newB (fH h0 vb db eb tb V D E T) xb (ints (Z04 Gl t f)));rw [ec] at w3;rw [hgz] at w2;obtain ⟨u,hu'⟩:=jN (fU Gl t f);obtain ⟨p,hp'⟩:=jN (fJ Gl t f f);rw [hu'] at a0 ct hu w2;rw [hp'] at a1 ct hjf;clear st gt jt' jv' jd' je' e3 e4 hst b0 hst2 ec;have tn:t<60:=by have:=e.le; omega
    have un:u<60:=by have:=e.le; omega
    obtain ⟨S,hS⟩:=jN (fH h0 vb db eb tb V D E T);obtain ⟨S1,hS1⟩:=jN (fH h1 vb db eb tb V D E T);obtain ⟨S2,hS2⟩:=jN (fH h1 vb db eb tb V D E T');obtain ⟨S3,hS3⟩:=jN (fH h1 vb db eb tb V' D' E' T');obtain ⟨S4,hS4⟩:=jN (fH h0 vb db eb tb V' D' E' T');rw [hS] at up w1 w2 w3 lp ⊢;rw [hS1] at a0 a1 ct w3;rw [hS2] at ct hq9;rw [hS3] at hq9 sB;rw [hS4] at up hk sB;obtain ⟨F,hF⟩:=jN (Z04 Gl t f);rw [hF] at w1 w2 w3 lp x1';refine Ans.lpG rfl rfl (Z2Z ..) ?_;unfold Z3H
    repeat' (first | ((with_reducible first | refine Ans.bz ?_ | refine Ans.r1 ?_ | refine Ans.pkT ?_ | refine Ans.pkF ?_); try dsimp only [v_zero,v_succ]) | (with_reducible first | refine Ans.btL ?_ | refine Ans.bfL ?_ | refine Ans.gyT ?_ | refine Ans.gyF ?_ | refine Ans.gyG ?_ | refine Ans.bb ?_ | refine Ans.bc ?_ | refine Ans.ba ?_) | ((with_reducible first | refine Ans.lsT ?_ ?_ | refine Ans.leT ?_ ?_ | refine Ans.grT ?_ ?_ | refine Ans.geT ?_ ?_ | refine Ans.eqT ?_ ?_ | refine Ans.neT ?_ ?_); (focus omega)) | ((with_reducible first | refine Ans.lsF ?_ ?_ | refine Ans.leF ?_ ?_ | refine Ans.grF ?_ ?_ | refine Ans.geF ?_ ?_ | refine Ans.eqF ?_ ?_ | refine Ans.neF ?_ ?_); (focus omega)) | (with_reducible first | refine Ans.lsS (fun _=>?_) (fun _=>?_) | refine Ans.leS (fun _=>?_) (fun _=>?_) | refine Ans.grS (fun _=>?_) (fun _=>?_) | refine Ans.geS (fun _=>?_) (fun _=>?_) | refine Ans.eqS (fun _=>?_) (fun _=>?_) | refine Ans.neS (fun _=>?_) (fun _=>?_)) | ((with_reducible first | refine Ans.addN ?_ ?_ | refine Ans.add ?_ ?_ | refine Ans.sub ?_ ?_ | refine Ans.mul ?_ ?_); (focus omega)) | ((with_reducible first | refine Ans.ct ?_ ?_); (focus (simp (disch:=(first | omega | with_reducible assumption | (simp <;> omega) | fail)) [x1',hxb,w1,w2,lp,hpb,w3,a0,a1,ct,hq9,-ld1_newB_same,-ldN_newB_same]; done))) | ((with_reducible first | refine Ans.cf ?_ ?_); (focus (simp (disch:=(first | omega | with_reducible assumption | (simp <;> omega) | fail)) [x1',hxb,w1,w2,lp,hpb,w3,a0,a1,ct,hq9,-ld1_newB_same,-ldN_newB_same]; done))) | (refine Ans.step (by simp (disch:=(first | omega | with_reducible assumption | (simp <;> omega) | fail)) [x1',hxb,w1,w2,lp,hpb,w3,a0,a1,ct,hq9,-ld1_newB_same,-ldN_newB_same,-List.getD_eq_getElem?_getD] <;> rfl) ?_; try dsimp only [v_zero,v_succ]) | fail)
    (have fx:=ai lc (ai o1 (ai o2 (ai o3 (ai orow sB)))); refine Ans.nxB (B:=S4) ?_ ?_; exact (up); clear fx)
    exact hk

theorem ZpD {h:FH} {vb db eb tb:Nat} {V D E T:List Int} (h1:h.f vb=some (.cells false none (ints V))) (h2:h.f db=some (.cells false none (ints D))) (h3:h.f eb=some (.cells false none (ints E))) (h4:h.f tb=some (.cells false none (ints T))):fH h vb db eb tb V D E T=h:=by
 apply FH.ext; intro j;rw [Z9z]
 by_cases e1:j=tb
 · rw [if_pos e1,e1,h4]
 rw [if_neg e1]
 by_cases e2:j=eb
 · rw [if_pos e2,e2,h3]
 rw [if_neg e2]
 by_cases e3:j=db
 · rw [if_pos e3,e3,h2]
 rw [if_neg e3]
 by_cases e4:j=vb
 · rw [if_pos e4,e4,h1]
 rw [if_neg e4]
theorem nc_t (cb vb db eb tb n cm c:Nat) (Gl:List Int) (s:Value) (h0:FH) (df:List Nat) (e:E4 h0 cb vb db eb tb n s) (hok:Z0w Gl n=true) (hs:SlI h0 cm s 20 n Gl) (hcm:cm<=c) (lc:cb<256*c) (lv:vb<256*c) (ld:db<256*c) (le:eb<256*c) (lt:tb<256*c)
 (mv:256*cm<=vb) (md:256*cm<=db) (me:256*cm<=eb) (mt:256*cm<=tb) :
 ∀ (r t:Nat) (V D E T:List Int),t+r=n->Jn (upL (vT Gl) t) (4*n) V->Jn (upL (dT Gl) t) (16*n) D->Jn (upL (eT Gl) t) (6*n) E->Jn (upL (tT Gl) t) (4*n) T →
 Ans (G (Zc5 none) [ptrTo cb,s,.int .i64 n,.int .i64 t] (fH h0 vb db eb tb V D E T) c df) fun q=>∃ V' D' E' T',q=⟨.exit 0,[ptrTo cb,s,.int .i64 n,.int .i64 n],fH h0 vb db eb tb V' D' E' T',c,df⟩ ∧
  Jn (vP Gl n) (4*n) V'/\Jn (dP Gl n) (16*n) D'/\Jn (eP Gl n) (6*n) E'/\Jn (tP Gl n) (4*n) T':=by
 intro r;have hG:Gl.length=n*20:=hs.1;have o1:=(hs.mono hcm).okV
 induction r with
 | zero =>
  intro t V D E T ht jv jd je jt;obtain rfl:t=n:=qO;refine Ans.lpG rfl rfl (Z5l ..) ?_;unfold Z4E;obtain ⟨H,hH⟩:=jN (fH h0 vb db eb tb V D E T);rw [hH];have fx:=True.intro;refine Ans.go ?_;clear fx
  (have fx:=ai lc o1; refine Ans.ex0 ?_; clear fx)
  exact ⟨V,D,E,T,by rw [hH],jv,jd,je,jt⟩
 | succ r ih =>
  intro t V D E T ht jv jd je jt;have ht':t<n:=qO;have hrl:=Z0E hG ht';obtain ⟨rb,hrb⟩:=jN (256*(c+1)+3);have orb:ZoK rb vb db eb tb:=⟨qO,qO,qO,qO⟩;obtain ⟨h1,hh1⟩:=jN (newB h0 rb (ints (Z0K Gl t)));have e1:E4 h1 cb vb db eb tb n s:=by rw [← hh1]; exact e.newB qO _
  have t1:Z0l (c+1) h0 h1:=fun j hj=>by rw [← hh1,Z01,if_neg qO]
  have ec:newB (fH h0 vb db eb tb V D E T) rb (ints (Z0K Gl t))=fH h1 vb db eb tb V D E T:=by rw [Zew orb,hh1]
  obtain ⟨q9,hq9,V',D',E',T',rfl,jv',jd',je',jt'⟩:=nc_f cb vb db eb tb n t (c+1+1+1) Gl s s (.int .i64 n) (.int .i64 t) h1 df (upL (vT Gl) t) (upL (dT Gl) t) (upL (eT Gl) t) (upL (tT Gl) t) e1 hok hG ht' qO qO qO qO qO
   (o1.mono qO) (OkV.int _ _ _) (OkV.int _ _ _) 4 0 V D E T qO (by rw [upL,qL]; exact jv) (by rw [upL,qL]; exact jd) (by rw [upL,qL]; exact je) (by rw [upL,qL]; exact jt)
  have hk:=ih (t+1) V' D' E' T' qO jv' jd' je' jt';simp only [qC,qF] at hq9;have sb:=hs.same (Zjw h0 mv md me mt V D E T);have l1:ldN (fH h0 vb db eb tb V D E T) 20 (.pointer (some ⟨Z0p s,Z4a s+t*20,none⟩))=some (av (Z0K Gl t)):=by
   rw [sb.rdN 20 _ qO qO,Z0K,Nat.mul_comm t 20]
  have ix:=sb.ixs .i64 t qO qO;rw [qE] at ix;have w1:stN (newB (fH h0 vb db eb tb V D E T) rb [(.int .i64 0),(.int .i64 0),(.int .i64 0),(.int .i64 0),(.int .i64 0),(.int .i64 0),(.int .i64 0),(.int .i64 0),(.int .i64 0),(.int .i64 0),(.int .i64 0),(.int .i64 0),(.int .i64 0),(.int .i64 0),(.int .i64 0),(.int .i64 0),(.int .i64 0),(.int .i64 0),(.int .i64 0),(.int .i64 0)]) 20 (.pointer (some ⟨rb,0,none⟩)) (av (Z0K Gl t))=some (fH h1 vb db eb tb V D E T):=by
   rw [stN_all _ _ 20 _ _ hrl rfl,ec]
  have w2:ldN (fH h1 vb db eb tb V D E T) 20 (.pointer (some ⟨rb,0,none⟩))=some (av (Z0K Gl t)):=by
   rw [← ec,ldN_newB_same _ _ _ _ _ (by simp [hrl]),qM,Z1e,qH qO]; rfl
  have up:=ZcS h0 lv ld le lt V D E T V' D' E' T';have sB:Z0l c (fH h0 vb db eb tb V' D' E' T') (fH h1 vb db eb tb V' D' E' T'):=Zjv h0 h1 (t1.mono qO) V' D' E' T';clear ec jv' jd' je' jt' sb;have tn:n<=60:=e.le;obtain ⟨S,hS⟩:=jN (fH h0 vb db eb tb V D E T);obtain ⟨S1,hS1⟩:=jN (fH h1 vb db eb tb V D E T);obtain ⟨S3,hS3⟩:=jN (fH h1 vb db eb tb V' D' E' T');obtain ⟨S4,hS4⟩:=jN (fH h0 vb db eb tb V' D' E' T');rw [hS] at up w1 l1 ⊢;rw [hS1] at w1 w2 hq9;rw [hS3] at hq9 sB;rw [hS4] at up hk sB;obtain ⟨R,hR⟩:=jN (Z0K Gl t);rw [hR] at w1 w2 l1 hq9;refine Ans.lpG rfl rfl (Z5l ..) ?_;unfold Z4E;have fx:=ai ix (ai l1 (ai hrb (ai w1 (ai w2 hq9))));refine Ans.go ?_;clear fx
  (have fx:=ai lc (ai o1 sB); refine Ans.nxB (B:=S4) ?_ ?_; exact (up); clear fx)
  exact hk
structure Cls (h:FH) (lo hi cb vb db eb tb n:Nat) (s:Value) (Gl V D E T:List Int):Prop where
 e:E4 h cb vb db eb tb n s
 fv:h.f vb=some (.cells false none (ints V))
 fd:h.f db=some (.cells false none (ints D))
 fe:h.f eb=some (.cells false none (ints E))
 ft:h.f tb=some (.cells false none (ints T))
 jv:Jn (vP Gl n) (4*n) V
 jd:Jn (dP Gl n) (16*n) D
 je:Jn (eP Gl n) (6*n) E
 jt:Jn (tP Gl n) (4*n) T
 bd:(256*lo<=cb/\256*lo<=vb/\256*lo<=db/\256*lo<=eb/\256*lo<=tb)/\cb<256*hi/\vb<256*hi/\db<256*hi/\eb<256*hi/\tb<256*hi
theorem Z6O (s:Value) (n:Nat) (Gl:List Int) (h:FH) (c:Nat) (df:List Nat) (hs:SlI h c s 20 n Gl) (hok:Z0w Gl n=true) (hn:n<=60) :
 Ans (G (.fn 40) [.agg #[s]] h c df) fun r=>∃ cb vb db eb tb V D E T,r=⟨.ret,[ptrTo cb],r.h,r.c,[]⟩/\c<=r.c/\Z0l c h r.h/\Cls r.h c r.c cb vb db eb tb n s Gl V D E T:=by
 refine Ans.call' (fun r e=>f40_go e) ?_;have Z0X:((Value.agg #[s]).cells.toList.all Z08)=true:=by simp [Value.cells,hs.flat]
 have Z0Y:(Value.agg #[s]).cells.toList=[s]:=rfl;unfold ZjT;rw [Z0X,Z0Y];simp only [cond_true,qW];obtain ⟨H,hH⟩:∃ H,H=newB h (256*c) [s]:=⟨_,rfl⟩;have sH:Z0l c h H:=by rw [hH]; simp (disch:=omega)
 have g1:Z0d H (256*c) [s]:=by rw [hH]; exact Z0d.newB_same _ _ _
 rw [← hH];clear hH;have l0:ld1 H (.pointer (some ⟨256*c,0,none⟩))=some s:=by rw [Z02 g1]; rfl
 have l1:=Z0N g1;have ln:=hs.len;obtain ⟨⟨re,rv,H1,rc,rd⟩,w1,q1,t1,f1⟩:=Z4U (4*n) H (c+1+1+1) [] qO
 cases q1
 obtain ⟨⟨re,rv,H2,rc,rd⟩,w2,q2,t2,f2⟩:=Z4U (16*n) H1 (c+1+1+1+1+1+1+1) [] qO
 cases q2
 obtain ⟨⟨re,rv,H3,rc,rd⟩,w3,q3,t3,f3⟩:=Z4U (6*n) H2 (c+1+1+1+1+1+1+1+1+1+1+1) [] qO
 cases q3
 obtain ⟨⟨re,rv,H4,rc,rd⟩,w4,q4,t4,f4⟩:=Z4U (4*n) H3 (c+1+1+1+1+1+1+1+1+1+1+1+1+1+1+1) [] qO
 cases q4
 simp only at t1 f1 t2 f2 t3 f3 t4 f4;have d1:=Z05 w1;have d2:=Z05 w2;have d3:=Z05 w3;have d4:=Z05 w4;rw [show ((4*n:Nat):Int)=4*(n:Int) by omega] at d1 d4;rw [show ((16*n:Nat):Int)=16*(n:Int) by omega] at d2;rw [show ((6*n:Nat):Int)=6*(n:Int) by omega] at d3;obtain ⟨vb,hvb⟩:=jN (256*(c+1+1+1+1)+1);obtain ⟨db,hdb⟩:=jN (256*(c+1+1+1+1+1+1+1+1)+1);obtain ⟨eb,heb⟩:=jN (256*(c+1+1+1+1+1+1+1+1+1+1+1+1)+1);obtain ⟨tb,htb⟩:=jN (256*(c+1+1+1+1+1+1+1+1+1+1+1+1+1+1+1+1)+1);rw [hvb] at d1 f1;rw [hdb] at d2 f2;rw [heb] at d3 f3;rw [htb] at d4 f4;obtain ⟨cb,hcb⟩:=jN (256*(c+1+1)+18);have u1:∀ x,Z1K [.slice none 0 0] [(0,1,.agg #[.slice (some ⟨x,0,none⟩) (4*n) (4*n)])]=some (.agg #[.slice (some ⟨x,0,none⟩) (4*n) (4*n)]):=fun _=>rfl
 have u2:∀ x,Z1K [.slice none 0 0] [(0,1,.agg #[.slice (some ⟨x,0,none⟩) (16*n) (16*n)])]=some (.agg #[.slice (some ⟨x,0,none⟩) (16*n) (16*n)]):=fun _=>rfl
 have u3:∀ x,Z1K [.slice none 0 0] [(0,1,.agg #[.slice (some ⟨x,0,none⟩) (6*n) (6*n)])]=some (.agg #[.slice (some ⟨x,0,none⟩) (6*n) (6*n)]):=fun _=>rfl
 have u5:Z1K [.slice none 0 0,.slice none 0 0,.slice none 0 0,.slice none 0 0,.slice none 0 0] [(0,1,.agg #[s]),(1,1,.agg #[.slice (some ⟨vb,0,none⟩) (4*n) (4*n)]),(2,1,.agg #[.slice (some ⟨db,0,none⟩) (16*n) (16*n)]),(3,1,.agg #[.slice (some ⟨eb,0,none⟩) (6*n) (6*n)]),(4,1,.agg #[.slice (some ⟨tb,0,none⟩) (4*n) (4*n)])]=some (.agg #[s,.slice (some ⟨vb,0,none⟩) (4*n) (4*n),.slice (some ⟨db,0,none⟩) (16*n) (16*n),.slice (some ⟨eb,0,none⟩) (6*n) (6*n),.slice (some ⟨tb,0,none⟩) (4*n) (4*n)]):=rfl;have u7:(Value.agg #[s,.slice (some ⟨vb,0,none⟩) (4*n) (4*n),.slice (some ⟨db,0,none⟩) (16*n) (16*n),.slice (some ⟨eb,0,none⟩) (6*n) (6*n),.slice (some ⟨tb,0,none⟩) (4*n) (4*n)]).cells.toList=[s,.slice (some ⟨vb,0,none⟩) (4*n) (4*n),.slice (some ⟨db,0,none⟩) (16*n) (16*n),.slice (some ⟨eb,0,none⟩) (6*n) (6*n),.slice (some ⟨tb,0,none⟩) (4*n) (4*n)]:=rfl;have u6:((Value.agg #[s,.slice (some ⟨vb,0,none⟩) (4*n) (4*n),.slice (some ⟨db,0,none⟩) (16*n) (16*n),.slice (some ⟨eb,0,none⟩) (6*n) (6*n),.slice (some ⟨tb,0,none⟩) (4*n) (4*n)]).cells.toList.all Z08)=true:=by
  rw [u7];simp only [List.all_cons,List.all_nil,hs.flat,Bool.true_and,Bool.and_true];rfl
 have sb:∀ {A B:FH},A.f (256*c)=B.f (256*c)->Z1y (Z2O (ptrTo (256*c))) A B=true:=fun z=>Z9E fun j hj=>by
  have hj':some (256*c)=some j:=hj
  cases hj'
  exact z
 have b1:=sb (A:=H) (B:=H1) (t1 _ qO).symm;have b2:=sb (A:=H1) (B:=H2) (t2 _ qO).symm;have b3:=sb (A:=H2) (B:=H3) (t3 _ qO).symm;have b4:=sb (A:=H3) (B:=H4) (t4 _ qO).symm;obtain ⟨M,hM⟩:=jN (newB H4 cb [s,.slice (some ⟨vb,0,none⟩) (4*n) (4*n),.slice (some ⟨db,0,none⟩) (16*n) (16*n),.slice (some ⟨eb,0,none⟩) (6*n) (6*n),.slice (some ⟨tb,0,none⟩) (4*n) (4*n)]);have tM:Z0l (c+1) H M:=fun j hj=>by
  rw [← hM,Z01,if_neg qO,t4 j qO,t3 j qO,t2 j qO,t1 j qO]
 have sM:Z0l c h M:=sH.trans (tM.mono qO);have gM:Z0d M (256*c) [s]:=g1.same qO tM;have lM:ld1 M (.pointer (some ⟨256*c,0,none⟩))=some s:=by rw [Z02 gM]; rfl
 have e:E4 M cb vb db eb tb n s:=⟨by rw [← hM]; exact Z0d.newB_same _ _ _,⟨qO,qO,qO,qO,qO,qO⟩,⟨qO,qO,qO,qO⟩,hn⟩;have fv:M.f vb=some (.cells false none (ints (Z0g (4*n)))):=by
  rw [← hM,Z01,if_neg qO,t4 vb qO,t3 vb qO,t2 vb qO,f1]
 have fd:M.f db=some (.cells false none (ints (Z0g (16*n)))):=by
  rw [← hM,Z01,if_neg qO,t4 db qO,t3 db qO,f2]
 have fe:M.f eb=some (.cells false none (ints (Z0g (6*n)))):=by
  rw [← hM,Z01,if_neg qO,t4 eb qO,f3]
 have ft:M.f tb=some (.cells false none (ints (Z0g (4*n)))):=by
  rw [← hM,Z01,if_neg qO,f4]
 obtain ⟨⟨re,rv,K,rc,rd⟩,hr,V,D,E,T,q5,jv,jd,je,jt⟩:=nc_t cb vb db eb tb n c (c+1+1+1+1+1+1+1+1+1+1+1+1+1+1+1+1+1+1+1+1) Gl s M [] e hok (hs.same sM) qO qO qO qO qO qO qO qO qO qO n 0 _ _ _ _ qO (Jn.nil _) (Jn.nil _) (Jn.nil _) (Jn.nil _);simp only [Rt.mk.injEq] at q5;obtain ⟨rfl,rfl,hKK,rfl,rfl⟩:=q5;rw [ZpD fv fd fe ft] at hr;simp only [qC,qF] at hr;have tK:Z0l c M K:=by rw [hKK]; exact Zjw M qO qO qO qO V D E T
 have fx:=ai l0 (ai l1 (ai ln (ai d1 (ai u1 (ai d2 (ai u2 (ai d3 (ai u3 (ai d4 u5)))))))));refine Ans.go ?_;clear fx;rw [u6,u7,b1,b2,b3,b4,hcb,hM];simp only [cond_true,qV];have fx:=ai lM (ai ln hr);refine Ans.go ?_;clear fx;refine .done ⟨cb,vb,db,eb,tb,V,D,E,T,rfl,(by show c<=_; simp only; omega),fun j hj=>?_, ?_⟩
 · show K.f j=h.f j;rw [tK j hj];exact sM j hj
 · refine ⟨?_, ?_, ?_, ?_, ?_,jv,jd,je,jt, ?_⟩
   · refine ⟨?_,e.q,e.o,e.le⟩;obtain ⟨ro,op,z⟩:=e.st;exact ⟨ro,op,by show K.f cb=_; rw [hKK,Zgr e.o]; exact z⟩
   · show K.f vb=_;rw [hKK,Z9z,if_neg e.q.c,if_neg e.q.b,if_neg e.q.a,if_pos rfl]
   · show K.f db=_;rw [hKK,Z9z,if_neg e.q.e,if_neg e.q.d,if_pos rfl]
   · show K.f eb=_;rw [hKK,Z9z,if_neg e.q.f,if_pos rfl]
   · show K.f tb=_;rw [hKK,Z9z,if_pos rfl]
   · simp only;omega

theorem Zj1 (C:List Int) {m i:Nat} (hi:i<m):(Z3Y C m i).set i ((Z1x C (Z07 C i):Nat):Int)=Z3Y C m (i+1):=by
 refine Z1w (m:=m) (by simp [Z11]) (Z11 _ _ _) fun k hk=>?_
 rw [Z0I,Z5K C _ hk,Z5K C _ hk,Z11]
 by_cases e:i=k
 · subst e; rw [if_pos ⟨rfl,hi⟩,if_pos qO]
 · rw [if_neg (fun q=>e q.1)]
   by_cases q:k<i
   · rw [if_pos q,if_pos qO]
   · rw [if_neg q,if_neg qO]
noncomputable def nH (h:FH) (b ob:Nat) (L X:List Int):FH:=newB (newB h b (ints L)) ob (ints X)
theorem Zkt (h:FH) (b ob:Nat) (L X:List Int) (j:Nat):(nH h b ob L X).f j=if j=ob then some (.cells false none (ints X)) else if j=b then some (.cells false none (ints L)) else h.f j:=by
 unfold nH;rw [Z01,Z01]
theorem nH_b (h:FH) {b ob:Nat} (hne:b ≠ ob) (L X L':List Int):newB (nH h b ob L X) b (ints L')=nH h b ob L' X:=by
 apply FH.ext; intro j;rw [Z01,Zkt,Zkt]
 by_cases z:j=b
 · subst z; rw [if_pos rfl,if_neg hne,if_pos rfl]
 · simp only [if_neg z]
theorem nH_uo {h:FH} {cb o b ob m:Nat} {L L' X:List Int} (u:Uo h cb o b m L) (h1:cb ≠ ob) (h2:b ≠ ob) (hd:Z2h L' m):Uo (nH h b ob L' X) cb o b m L':=by
 obtain ⟨⟨cs,⟨ro,op,e⟩,q⟩,a,b',d,f⟩:=u;have e':h.f cb=some (.cells ro op cs):=e;exact ⟨⟨cs,⟨ro,op,by show (nH h b ob L' X).f cb=_; rw [Zkt,if_neg h1,if_neg b']; exact e'⟩,q⟩,by rw [Zkt,if_neg h2,if_pos rfl],b',hd,f⟩
theorem Zph (h:FH) {b ob c:Nat} (h1:b<256*c) (h2:ob<256*c) (L X L' X':List Int):Z0G c (nH h b ob L X) (nH h b ob L' X'):=by
 intro j;rw [Zkt,Zkt];refine ⟨fun hj=>by rw [if_neg qO,if_neg qO,if_neg qO,if_neg qO],fun hj=>?_⟩
 by_cases e:j=ob
 · rw [if_pos e]; exact .inr (Z0Q.ints _ _)
 · rw [if_neg e,if_neg e]
   by_cases e2:j=b
   · rw [if_pos e2]; exact .inr (Z0Q.ints _ _)
   · rw [if_neg e2,if_neg e2]; exact .inl rfl
theorem ZdC (cb o b ob m c:Nat) (C L0:List Int) (h0:FH) (df:List Nat) (u0:Uo h0 cb o b m L0) (hdC:Z2h C m) (h1:cb ≠ ob) (h2:b ≠ ob) (lc:cb<256*c) (lb:b<256*c) (lo:ob<256*c) :
 ∀ (r i:Nat) (L:List Int),i+r=m->Z44 C L m->Ans (G (Zc1 none) [.pointer (some ⟨cb,o,none⟩),.slice (some ⟨ob,0,none⟩) m m,.int .i64 (Z1x C i),.int .i64 m,.int .i64 i] (nH h0 b ob L (Z3Y C m i)) c df) fun q=>∃ L',q=⟨.exit 0,[.pointer (some ⟨cb,o,none⟩),.slice (some ⟨ob,0,none⟩) m m,.int .i64 (Z1x C m),.int .i64 m,.int .i64 m],nH h0 b ob L' (Z6N C m),c,df⟩/\Z44 C L' m:=by
 intro r;have op:OkV c (.pointer (some ⟨cb,o,none⟩)):=OkV.ptr lc;have hm:=u0.le
 induction r with
 | zero =>
  intro i L hi s;obtain rfl:i=m:=qO;rw [Zl7];refine Ans.lpG rfl rfl (Z5k ..) ?_;unfold Z4D;obtain ⟨H,hH⟩:=jN (nH h0 b ob L (Z6N C i));rw [hH];have fx:=True.intro;refine Ans.go ?_;clear fx
  (have fx:=ai op lo; refine Ans.ex0 ?_; clear fx)
  exact ⟨L,by rw [hH],s⟩
 | succ r ih =>
  intro i L hi s;have hi':i<m:=qO;have u:=nH_uo (X:=Z3Y C m i) u0 h1 h2 s.1;obtain ⟨L',s1,g1⟩:=Zea (nH h0 b ob L (Z3Y C m i)) cb o b m (c+1+1+1) L u qO qO i hi' [];rw [nH_b _ h2,s.2 i hi'] at g1;have s':=s.trans s1;have hk:=ih (i+1) L' qO s';have c1:=Z05 g1;have hle:=Z16 hdC hi';have hrr:=Z2l hdC hi';have hfs:=ZdL C i;have hfl:=Z1o C i;have fo:HeapC.get (nH h0 b ob L' (Z3Y C m i)) ob=some (.cells false none (ints (Z3Y C m i))):=by
   show (nH h0 b ob L' (Z3Y C m i)).f ob=_;rw [Zkt,if_pos rfl]
  have hw:∀ x:Int,stN (nH h0 b ob L' (Z3Y C m i)) 1 (.pointer (some ⟨ob,i,none⟩)) (.int .i64 x)=some (nH h0 b ob L' ((Z3Y C m i).set i x)):=fun x=>by
   rw [nH,st1_int _ _ _ _ _ _ (by simp [Z11]; omega),Z1r]; rfl
  have hx:=Zj1 C hi';have lr:ld1 (nH h0 b ob L' (Z3Y C m i)) (.pointer (some ⟨ob,Z07 C i,none⟩))=some (.int .i64 ((Z3Y C m i).getD (Z07 C i) 0)):=by
   rw [Z02 ⟨false,none,fo⟩,ints_getD _ _ (by rw [Z11]; omega)]
  have up:=Zph h0 lb lo L (Z3Y C m i) L' (Z3Y C m (i+1));refine Ans.lpG rfl rfl (Z5k ..) ?_;unfold Z4D
  by_cases e:Z07 C i=i
  · rw [if_pos e] at hfs;rw [e] at hx c1;have w:=hw (Z1x C i:Nat);rw [hx] at w;rw [hfs] at hk;have hk':((Z1x C i+1:Nat):Int)=(Z1x C i:Int)+1:=qO;rw [hk'] at hk;clear hw lr fo hx hfs;obtain ⟨F,hF⟩:=jN (Z1x C i);rw [hF] at w hk hfl ⊢;obtain ⟨S,hS⟩:=jN (nH h0 b ob L (Z3Y C m i));obtain ⟨S1,hS1⟩:=jN (nH h0 b ob L' (Z3Y C m i));obtain ⟨S2,hS2⟩:=jN (nH h0 b ob L' (Z3Y C m (i+1)));rw [hS] at c1 up ⊢;rw [hS1] at c1 w;rw [hS2] at w up hk;have fx:=ai c1 w;refine Ans.go ?_;clear fx
    (have fx:=ai op lo; refine Ans.nxB (B:=S2) ?_ ?_; exact (up); clear fx)
    exact hk
  · rw [if_neg e,qW] at hfs;have hlt:Z07 C i<i:=qO;rw [Z5K C _ qO,if_pos hlt,hrr] at lr;have w:=hw (Z1x C (Z07 C i):Nat);rw [hx] at w;rw [hfs] at hk;clear hw fo hx hfs;obtain ⟨R,hR⟩:=jN (Z07 C i);rw [hR] at c1 lr w hlt e;have e':¬ (R:Int)=i:=qO;obtain ⟨F,hF⟩:=jN (Z1x C R);rw [hF] at w lr;obtain ⟨F2,hF2⟩:=jN (Z1x C i);rw [hF2] at hk ⊢;obtain ⟨S,hS⟩:=jN (nH h0 b ob L (Z3Y C m i));obtain ⟨S1,hS1⟩:=jN (nH h0 b ob L' (Z3Y C m i));obtain ⟨S2,hS2⟩:=jN (nH h0 b ob L' (Z3Y C m (i+1)));rw [hS] at c1 up ⊢;rw [hS1] at c1 w lr;rw [hS2] at w up hk;have fx:=ai c1 (ai e' (ai lr w));refine Ans.go ?_;clear fx
    (have fx:=ai op lo; refine Ans.nxB (B:=S2) ?_ ?_; exact (up); clear fx)
    exact hk
theorem Z2n (cb o b m:Nat) (C L:List Int) (h:FH) (c:Nat) (df:List Nat) (u:Uo h cb o b m L) (s:Z44 C L m) (hdC:Z2h C m) (lc:cb<256*c) (lb:b<256*c) :
 Ans (G (.fn 41) [.pointer (some ⟨cb,o,none⟩)] h c df) fun r=>∃ L' ob,r=⟨.ret,[.tuple #[.slice (some ⟨ob,0,none⟩) m m,.int .i64 (Z1x C m)]],r.h,r.c,[]⟩/\c<=r.c/\256*c<=ob/\ob<256*r.c/\r.h.f ob=some (.cells false none (ints (Z6N C m)))/\Z44 C L' m/\r.h.f b=some (.cells false none (ints L'))/\(∀ j,j<256*c->j ≠ b->r.h.f j=h.f j):=by
 refine Ans.call' (fun r e=>f41_go e) ?_;unfold ZjS;have hm:=u.le;have l1:=u.ld;have mk:=Z5L 1 8 .i64 .i64 m qO qO;obtain ⟨ob,hob⟩:=jN (256*(c+1)+5);obtain ⟨r,hr,L',rfl,s'⟩:=ZdC cb o b ob m (c+1+1+1+1) C L h [] u hdC qO qO qO qO qO m 0 L qO s;rw [Zj0,nH,Zb1 u] at hr;rw [show Z1x C 0=0 from rfl] at hr;simp only [qC,qF] at hr;obtain ⟨K,hK⟩:=jN (nH h b ob L' (Z6N C m));rw [hK] at hr;have fx:=ai l1 (ai mk (ai hob hr));refine Ans.go ?_;clear fx;refine .done ⟨L',ob,rfl,(by show c<=_; simp only; omega),qO,(by simp only; omega), ?_,s', ?_,fun j hj hjb=>?_⟩
 · show K.f ob=_;rw [← hK,Zkt,if_pos rfl]
 · show K.f b=_;rw [← hK,Zkt,if_neg qO,if_pos rfl]
 · show K.f j=_;rw [← hK,Zkt,if_neg qO,if_neg hjb]
end Go.Proofs.Ytdodippbpdechaa
