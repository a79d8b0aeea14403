/- Parts of a proof: Q7 K20 K21 K22 K23 K24 K32. Conditions: none. -/
import Derived.Test.YtdodippbpdechaaM19
import Derived.Test.YtdodippbpdechaaM15
import Derived.Test.YtdodippbpdechaaM14
set_option linter.all false
set_option maxRecDepth 100000
set_option maxHeartbeats 4000000
namespace Go.Proofs.Ytdodippbpdechaa
open Go Go.Ab Go.Proofs
set_option maxRecDepth 100000
theorem ux_i (pb n t c cm kb k:Nat) (Gl V:List Int) (v x3 x6 x23 x24 x25:Value) (h0:FH) (df:List Nat) (PV:Prs) (hn:n<=1000) (hok:Z0w Gl n=true) (hG:Gl.length=n*20) (ht:t<n) (hV:SlI h0 cm v 1 (4*n) V) (hcm:cm<=c) (mp:256*cm<=pb) (lp:pb<256*c)
 (gr:Z0d h0 kb (ints (Z0K Gl t))) (ne:kb ≠ pb) (lk:kb<256*c)
 (o3:OkV c x3) (o6:OkV c x6) (o23:OkV c x23) (o24:OkV c x24) (o25:OkV c x25) :
 ∀ (r i:Nat) (L:List Int),i+r=4->JX (PV++upL (uI Gl (inC V k) t) i) (8*n) L →
 Ans (G (Zbe none) [v,.int .i64 k,x3,x6,.slice (some ⟨pb,0,none⟩) (8*n) (8*n),.int .i64 t,ptrTo kb,.int .i64 i,x23,x24,x25] (newB h0 pb (ints L)) c df) fun q=>∃ L',q=⟨.exit 2,[v,.int .i64 k,x3,x6,.slice (some ⟨pb,0,none⟩) (8*n) (8*n),.int .i64 t,ptrTo kb,.int .i64 4,x23,x24,x25],newB h0 pb (ints L'),c,df⟩/\JX (PV++uT Gl (inC V k) t) (8*n) L':=by
 intro r;have hrl:=Z0E hG ht;have ov:OkV c v:=(hV.mono hcm).okV
 induction r with
 | zero =>
  intro i L hi j;obtain rfl:i=4:=qO;refine Ans.lpG rfl rfl (Z6Y ..) ?_;unfold Z84;obtain ⟨H,hH⟩:=jN (newB h0 pb (ints L));rw [hH];have fx:=True.intro;refine Ans.go ?_;clear fx
  (have fx:=ai lp (ai lk (ai o3 (ai o6 (ai o23 (ai o24 (ai o25 ov)))))); refine Ans.ex0 ?_; clear fx)
  exact ⟨L,by rw [hH]; rfl,j⟩
 | succ r ih =>
  intro i L hi j;have hi4:i<4:=qO;have i4:(i:Int)<4:=qO;have l1:ldN (newB h0 pb (ints L)) 20 (.pointer (some ⟨kb,0,none⟩))=some (av (Z0K Gl t)):=by
   rw [ldN_holds (gr.newB_ne ne) (by rw [ints_length]; omega),av,qM,qH (by rw [ints_length]; omega)]
  obtain ⟨q9,hq9,L',rfl,j'⟩:=ux_f pb n t i (c+1+1) cm k Gl V v x3 x6 (ptrTo kb) x23 x24 x25 h0 df (PV++upL (uI Gl (inC V k) t) i) hn hok hG ht hi4 hV qO mp qO (o3.mono qO) (o6.mono qO) (OkV.ptr qO) (o23.mono qO) (o24.mono qO) (o25.mono qO) 4 0 L qO (by rw [upL,qL]; exact j);have hk:=ih (i+1) L' qO (by rw [upL,← qQ]; exact j');simp only [qC,qF] at hq9;have up:Z0G c (newB h0 pb (ints L)) (newB h0 pb (ints L')):=Z0G.both (Z0Q.ints _ _) (Z0G.refl _ _) lp;obtain ⟨S,hS⟩:=jN (newB h0 pb (ints L));obtain ⟨S2,hS2⟩:=jN (newB h0 pb (ints L'));rw [hS] at l1 hq9 up ⊢;rw [hS2] at hq9 up hk;obtain ⟨R,hR⟩:=jN (av (Z0K Gl t));rw [hR] at l1 hq9;refine Ans.lpG rfl rfl (Z6Y ..) ?_;unfold Z84;have fx:=ai l1 hq9;refine Ans.go ?_;clear fx
  (have fx:=ai lp (ai lk (ai o3 (ai o6 (ai o23 (ai o24 (ai o25 ov)))))); refine Ans.nxB (B:=S2) ?_ ?_; exact (up); clear fx)
  exact hk
theorem ux_t (pb n c cm k:Nat) (Gl V:List Int) (s v x3 x6:Value) (h0:FH) (df:List Nat) (hn:n<=1000) (hok:Z0w Gl n=true) (hs:SlI h0 cm s 20 n Gl) (hV:SlI h0 cm v 1 (4*n) V) (hcm:cm<=c) (mp:256*cm<=pb) (lp:pb<256*c) (o3:OkV c x3) (o6:OkV c x6) :
 ∀ (r t:Nat) (L:List Int),t+r=n->JX (upL (uT Gl (inC V k)) t) (8*n) L →
 Ans (G (Zbf none) [v,.int .i64 k,x3,x6,.slice (some ⟨pb,0,none⟩) (8*n) (8*n),s,.int .i64 n,.int .i64 t] (newB h0 pb (ints L)) c df) fun q=>q=⟨.exit 0,[v,.int .i64 k,x3,x6,.slice (some ⟨pb,0,none⟩) (8*n) (8*n),s,.int .i64 n,.int .i64 n],newB h0 pb (ints (uCs Gl (inC V k) n)),c,df⟩:=by
 intro r;have os:OkV c s:=(hs.mono hcm).okV;have ov:OkV c v:=(hV.mono hcm).okV;have hG:=hs.1
 induction r with
 | zero =>
  intro t L ht j;obtain rfl:t=n:=qO;have e:L=uCs Gl (inC V k) t:=j.e;refine Ans.lpG rfl rfl (Z6Z ..) ?_;unfold Z85;obtain ⟨H,hH⟩:=jN (newB h0 pb (ints L));rw [← e,hH];have fx:=True.intro;refine Ans.go ?_;clear fx
  (have fx:=ai lp (ai os (ai ov (ai o3 o6))); refine Ans.ex0 ?_; clear fx)
  rfl
 | succ r ih =>
  intro t L ht j;have htn:t<n:=qO;have tl:(t:Int)<n:=qO;have tn:(n:Int)<=1000:=qO;obtain ⟨ix,l1⟩:=Zdw hs mp htn (ints L);obtain ⟨kb,hkb⟩:=jN (256*(c+1)+3);have hne:kb ≠ pb:=qO;obtain ⟨w1,w2⟩:=Z9Z (newB h0 pb (ints L)) kb hG htn;obtain ⟨h1,hh1⟩:=jN (newB h0 kb (ints (Z0K Gl t)));have cm':newB (newB h0 pb (ints L)) kb (ints (Z0K Gl t))=newB h1 pb (ints L):=by rw [← hh1,Z1F _ _ _ _ _ (Ne.symm hne)]
  rw [cm'] at w1;have hV1:SlI h1 cm v 1 (4*n) V:=hV.same fun j hj=>by rw [← hh1,Z01,if_neg qO]
  obtain ⟨q9,hq9,L',rfl,j'⟩:=ux_i pb n t (c+1+1+1) cm kb k Gl V v x3 x6 s (.int .i64 n) (.int .i64 t) h1 df (upL (uT Gl (inC V k)) t) hn hok hG htn hV1 qO mp qO (by rw [← hh1]; exact Z0d.newB_same _ _ _) hne qO (o3.mono qO) (o6.mono qO) (os.mono qO) (OkV.int _ _ _) (OkV.int _ _ _) 4 0 L qO (by rw [upL,qL]; exact j);have hk:=ih (t+1) L' qO (by rw [upL]; exact j');simp only [qC,qF] at hq9;have up:Z0G c (newB h0 pb (ints L)) (newB h0 pb (ints L')):=Z0G.both (Z0Q.ints _ _) (Z0G.refl _ _) lp;have sB:Z0l c (newB h0 pb (ints L')) (newB h1 pb (ints L')):=fun j hj=>by rw [Z01,Z01,← hh1,Z01,if_neg (show ¬ j=kb by omega)]
  obtain ⟨S,hS⟩:=jN (newB h0 pb (ints L));obtain ⟨S1,hS1⟩:=jN (newB h1 pb (ints L));obtain ⟨S2,hS2⟩:=jN (newB h0 pb (ints L'));obtain ⟨S3,hS3⟩:=jN (newB h1 pb (ints L'));rw [hS] at w1 l1 up ⊢;rw [hS1] at w1 hq9;rw [hS2] at up sB hk;rw [hS3] at sB hq9;obtain ⟨R,hR⟩:=jN (av (Z0K Gl t));rw [hR] at l1 w1;refine Ans.lpG rfl rfl (Z6Z ..) ?_;unfold Z85;rw [Z9N];obtain ⟨Z,hZ⟩:=jN (z20);rw [hZ] at w1 ⊢;have fx:=ai ix (ai l1 (ai hkb (ai w1 hq9)));refine Ans.go ?_;clear fx
  (have fx:=ai lp (ai os (ai ov (ai o3 (ai o6 sB)))); refine Ans.nxB (B:=S2) ?_ ?_; exact (up); clear fx)
  exact hk
theorem uc_i (pb n t c:Nat) (C:List Int) (x1 x2:Value) (h:FH) (df:List Nat) (hn:n<=1000) (hd:Z2h C (8*n)) (hf:h.f pb=some (.cells false none (ints C))) (ht:t<n) (lp:pb<256*c) (o1:OkV c x1) (o2:OkV c x2) :
 ∀ (r i:Nat),i+r=4->(∀ i',i'<i->Z07 C (8*t+2*i') ≠ Z07 C (8*t+2*i'+1))->Ans (G (Zbb none) [.bool false,.slice (some ⟨pb,0,none⟩) (8*n) (8*n),.int .i64 t,.int .i64 i,x1,x2] h c df) fun q =>
  (q=⟨.exit 10,[.bool false,.slice (some ⟨pb,0,none⟩) (8*n) (8*n),.int .i64 t,.int .i64 4,x1,x2],h,c,df⟩ /\ ∀ i',i'<4->Z07 C (8*t+2*i') ≠ Z07 C (8*t+2*i'+1)) ∨
  ∃ i',i'<4/\Z07 C (8*t+2*i')=Z07 C (8*t+2*i'+1)/\q=⟨.ret,[.bool false,.slice (some ⟨pb,0,none⟩) (8*n) (8*n),.int .i64 t,.int .i64 i',x1,x2],h,c,df⟩:=by
 intro r
 induction r with
 | zero =>
  intro i hi hh;obtain rfl:i=4:=qO;refine Ans.lpG rfl rfl (Z51 ..) ?_;unfold Z5Z;have fx:=True.intro;refine Ans.go ?_;clear fx
  (have fx:=ai lp (ai o1 o2); refine Ans.ex0 ?_; clear fx)
  exact .inl ⟨rfl,hh⟩
 | succ r ih =>
  intro i hi hh;have i4:(i:Int)<4:=qO;have c1:=Z05 (Z5T pb (8*n) C hd h (c+1+1) [] hf qO qO (8*t+2*i) qO);have c2:=Z05 (Z5T pb (8*n) C hd h (c+1+1) [] hf qO qO (8*t+2*i+1) qO);have e1:((8*t+2*i:Nat):Int)=8*(t:Int)+2*i:=qO;have e2:((8*t+2*i+1:Nat):Int)=8*(t:Int)+2*i+1:=qO;rw [e1] at c1;rw [e2] at c2
  by_cases q:Z07 C (8*t+2*i)=Z07 C (8*t+2*i+1)
  · have q':=q;obtain ⟨A,hA⟩:=jN (Z07 C (8*t+2*i));obtain ⟨B,hB⟩:=jN (Z07 C (8*t+2*i+1));rw [hA] at c1 q;rw [hB] at c2 q;subst q;refine Ans.lpG rfl rfl (Z51 ..) ?_;unfold Z5Z;have fx:=ai c1 c2;refine Ans.go ?_;clear fx
    (have fx:=ai lp (ai o1 o2); refine Ans.rt0 ?_; clear fx)
    exact .inr ⟨i,qO,q',rfl⟩
  · have hk:=ih (i+1) qO (fun i' h'=>by
     by_cases w:i'=i
     · rw [w]; exact q
     · exact hh i' qO)
    obtain ⟨A,hA⟩:=jN (Z07 C (8*t+2*i));obtain ⟨B,hB⟩:=jN (Z07 C (8*t+2*i+1));rw [hA] at c1 q;rw [hB] at c2 q;have q2:¬ (A:Int)=B:=qO;refine Ans.lpG rfl rfl (Z51 ..) ?_;unfold Z5Z;have fx:=ai c1 (ai c2 q2);refine Ans.go ?_;clear fx
    (have fx:=ai lp (ai o1 o2); refine Ans.nx0 ?_; clear fx)
    exact hk
theorem uc_t (pb n c:Nat) (C:List Int) (h:FH) (df:List Nat) (hn:n<=1000) (hd:Z2h C (8*n)) (hf:h.f pb=some (.cells false none (ints C))) (lp:pb<256*c) :
 ∀ (r t:Nat),t+r=n->(∀ x,x<4*t->Z07 C (2*x) ≠ Z07 C (2*x+1))->Ans (G (Zbc none) [.bool false,.slice (some ⟨pb,0,none⟩) (8*n) (8*n),.int .i64 n,.int .i64 t] h c df) fun q =>
  (q=⟨.exit 8,[.bool false,.slice (some ⟨pb,0,none⟩) (8*n) (8*n),.int .i64 n,.int .i64 n],h,c,df⟩ /\ ∀ x,x<4*n->Z07 C (2*x) ≠ Z07 C (2*x+1)) ∨
  (¬ (∀ x,x<4*n->Z07 C (2*x) ≠ Z07 C (2*x+1)) /\ ∃ t',q=⟨.ret,[.bool false,.slice (some ⟨pb,0,none⟩) (8*n) (8*n),.int .i64 n,.int .i64 t'],h,c,df⟩):=by
 intro r
 induction r with
 | zero =>
  intro t ht hh;obtain rfl:t=n:=qO;refine Ans.lpG rfl rfl (Z6W ..) ?_;unfold Z82;have fx:=True.intro;refine Ans.go ?_;clear fx
  (have fx:=lp; refine Ans.ex0 ?_; clear fx)
  exact .inl ⟨rfl,hh⟩
 | succ r ih =>
  intro t ht hh;have tl:(t:Int)<n:=qO;have tn:(n:Int)<=1000:=qO;obtain ⟨q,hq,q1⟩:=uc_i pb n t (c+1+1+1) C (.int .i64 n) (.int .i64 t) h df hn hd hf qO qO (OkV.int _ _ _) (OkV.int _ _ _) 4 0 qO (fun i' h'=>qO);simp only [qC,qF] at hq;refine Ans.lpG rfl rfl (Z6W ..) ?_;unfold Z82;rcases q1 with ⟨rfl,z⟩ | ⟨i',z1,z2,rfl⟩
  · have hk:=ih (t+1) qO (fun x hx=>by
     by_cases w:x<4*t
     · exact hh x w
     · have:=z (x-4*t) qO;rwa [show 8*t+2*(x-4*t)=2*x by omega] at this)
    have fx:=hq;refine Ans.go ?_;clear fx
    (have fx:=lp; refine Ans.nx0 ?_; clear fx)
    exact hk
  · have fx:=hq;refine Ans.go ?_;clear fx
    (have fx:=lp; refine Ans.rt0 ?_; clear fx)
    exact .inr ⟨fun w=>w (4*t+i') qO (by rw [show 2*(4*t+i')=8*t+2*i' by omega]; exact z2),t,rfl⟩
section
variable {Gl:List Int} {n:Nat} {Q:Nat->Bool}
theorem ZfA {p:Nat × Nat}:p ∈ uP Gl Q n ↔ ∃ t i f s:Nat,t<n/\i<4/\f<4/\s<2/\f ≠ i /\ ¬ Z0D (Z04 Gl t f)<0/\Q (4*t+i)=true/\p=(8*t+2*i+s,8*fU Gl t f+2*fJ Gl t f i+(s+trn Gl t f) % 2):=by
 unfold uP;rw [Z0x];constructor
 · rintro ⟨t,h1,h⟩
   unfold uT at h;rw [Z0x] at h;obtain ⟨i,h2,h⟩:=h;unfold uI at h;rw [Z0x] at h;obtain ⟨f,h3,h⟩:=h;unfold uF at h;rw [Z0z,Z0x] at h;obtain ⟨h4,s,h5,h⟩:=h;unfold uS at h;exact ⟨t,i,f,s,h1,h2,h3,h5,fun z=>h4 (.inl z),fun z=>h4 (.inr (.inl z)),by
    have:¬ Q (4*t+i)=false:=fun z=>h4 (.inr (.inr z))
    simpa using this,jG.1 h⟩
 · rintro ⟨t,i,f,s,h1,h2,h3,h4,h5,h6,h7,h8⟩
   refine ⟨t,h1,Z0x.2 ⟨i,h2,Z0x.2 ⟨f,h3, ?_⟩⟩⟩;unfold uF;rw [Z0z,Z0x];refine ⟨fun z=>?_,s,h4, ?_⟩
   · rcases z with z | z | z
     · exact h5 z
     · exact h6 z
     · rw [h7] at z; cases z
   · unfold uS; rw [h8]; simp
variable (hok:Z0w Gl n=true) (hG:Gl.length=n*20)
 include hok hG
theorem uP_lt:∀ p,p ∈ uP Gl Q n->p.1<8*n/\p.2<8*n:=fun p hp=>by
 obtain ⟨t,i,f,s,h1,h2,h3,h4,h5,h6,h7,rfl⟩:=ZfA.1 hp;have b:=Z2L hok hG h1 h3 h6;have hu:=b.u;have hj:=b.j i h2;exact ⟨by dsimp only; omega,by dsimp only; omega⟩
theorem ZkD:Z2h (uCs Gl Q n) (8*n):=(Z2o _ _ (Z0B _) (uP_lt hok hG)).1
theorem u_iff (hn:n<=200) (hQ:∀ t f i,t<n->f<4->i<4 -> ¬ Z0D (Z04 Gl t f)<0->i ≠ f->Q (4*t+i)=true->Q (4*fU Gl t f+fJ Gl t f i)=true) :
 (∀ x,x<4*n->Z07 (uCs Gl Q n) (2*x) ≠ Z07 (uCs Gl Q n) (2*x+1)) ↔ orB n Gl Q=true:=by
 rw [Zpb hok hG hn hQ];constructor
 · intro h;have same:=(Z2o (uP Gl Q n) (Z0g (8*n)) (Z0B _) (uP_lt hok hG)).2.2;obtain ⟨R,hR⟩:∃ R:Nat->Nat,R=Z07 (uCs Gl Q n):=⟨_,rfl⟩;rw [← hR] at h;refine ⟨fun x=>if R (2*x)<R (2*x+1) then 1 else -1,fun t i ht hi hq=>⟨?_,fun f hf hfi hg=>?_⟩⟩
   · dsimp only
     split
     · exact .inl rfl
     · exact .inr rfl
   · have b:=Z2L hok hG ht hf hg;have hu:=b.u;have hj:=b.j i hi;have a0:R (8*t+2*i+0)=R (8*fU Gl t f+2*fJ Gl t f i+(0+trn Gl t f) % 2):=by rw [hR]; exact same _ (ZfA.2 ⟨t,i,f,0,ht,hi,hf,qO,hfi,hg,hq,rfl⟩)
     have a1:R (8*t+2*i+1)=R (8*fU Gl t f+2*fJ Gl t f i+(1+trn Gl t f) % 2):=by rw [hR]; exact same _ (ZfA.2 ⟨t,i,f,1,ht,hi,hf,qO,hfi,hg,hq,rfl⟩)
     have n1:=h (4*t+i) qO;dsimp only;rw [show 2*(4*t+i)=8*t+2*i by omega] at n1 ⊢;rw [show 2*(4*fU Gl t f+fJ Gl t f i)=8*fU Gl t f+2*fJ Gl t f i by omega];rw [qW] at a0;rcases Z7M (Z0v (Z04 Gl t f)) with sg | sg
     · have et:trn Gl t f=1:=if_pos sg;rw [et] at a0 a1;rw [sg];have a0:R (8*t+2*i)=R (8*fU Gl t f+2*fJ Gl t f i+1):=a0;have a1:R (8*t+2*i+1)=R (8*fU Gl t f+2*fJ Gl t f i):=a1;rw [← a0,← a1]
       by_cases z:R (8*t+2*i)<R (8*t+2*i+1)
       · rw [if_pos z,if_neg qO]; rfl
       · rw [if_neg z,if_pos qO]; rfl
     · have et:trn Gl t f=0:=if_neg qO;rw [et] at a0 a1;rw [sg];have a0:R (8*t+2*i)=R (8*fU Gl t f+2*fJ Gl t f i):=a0;have a1:R (8*t+2*i+1)=R (8*fU Gl t f+2*fJ Gl t f i+1):=a1;rw [← a0,← a1]
       by_cases z:R (8*t+2*i)<R (8*t+2*i+1)
       · rw [if_pos z]; rfl
       · rw [if_neg z]; rfl
 · rintro ⟨s,hs⟩ x hx e
   obtain ⟨S,hS⟩:∃ S:Nat->Int,S=fun x=>if Q x=true then s x else 1:=⟨_,rfl⟩
   have S1:∀ x,x<4*n->S x=1 ∨ S x = -1:=fun x hx=>by
    rw [hS];dsimp only
    split
    · rename_i hq;have:=(hs (x / 4) (x % 4) qO qO (by rw [show 4*(x / 4)+x % 4=x by omega]; exact hq)).1;rwa [show 4*(x / 4)+x % 4=x by omega] at this
    · exact .inl rfl
   have key:=Z4b (m:=8*n) (fun w=>S (w / 2)=if w % 2=0 then 1 else -1) (D:=uP Gl Q n) (fun p hp=>by
    obtain ⟨t,i,f,a,h1,h2,h3,h4,h5,h6,h7,rfl⟩:=ZfA.1 hp;have b:=Z2L hok hG h1 h3 h6;have hu:=b.u;have hj:=b.j i h2;have q2:=hQ t f i h1 h3 h2 h6 (Ne.symm h5) h7;have hg:=(hs t i h1 h2 h7).2 f h3 h5 h6;have tr:=Zoh Gl t f;have m2:(a+trn Gl t f) % 2<2:=Nat.mod_lt _ qO;refine ⟨by dsimp only; omega,by dsimp only; omega, ?_⟩;dsimp only;rw [show (8*t+2*i+a) / 2=4*t+i by omega,show (8*fU Gl t f+2*fJ Gl t f i+(a+trn Gl t f) % 2) / 2=4*fU Gl t f+fJ Gl t f i by omega,
     show (8*t+2*i+a) % 2=a by omega,show (8*fU Gl t f+2*fJ Gl t f i+(a+trn Gl t f) % 2) % 2=(a+trn Gl t f) % 2 by omega]
    have e1:S (4*t+i)=s (4*t+i):=by rw [hS]; dsimp only; rw [if_pos h7]
    have e2:S (4*fU Gl t f+fJ Gl t f i)=s (4*fU Gl t f+fJ Gl t f i):=by rw [hS]; dsimp only; rw [if_pos q2]
    rw [e1,e2,hg];have hv:=(hs t i h1 h2 h7).1;have:a=0 ∨ a=1:=qO;rcases Z7M (Z0v (Z04 Gl t f)) with sg | sg
    · have et:trn Gl t f=1:=if_pos sg;rw [et,sg];rcases hv with hv | hv <;> rcases this with rfl | rfl <;> rw [hv] <;> decide
    · have et:trn Gl t f=0:=if_neg qO;rw [et,sg];rcases hv with hv | hv <;> rcases this with rfl | rfl <;> rw [hv] <;> decide) (a:=2*x) (b:=2*x+1) qO qO e
   rw [show 2*x / 2=x by omega,show (2*x+1) / 2=x by omega,if_pos qO,if_neg qO] at key;rcases S1 x hx with z | z <;> rw [z] at key <;> simp at key
end
theorem ZaD (s v:Value) (n k:Nat) (Gl:List Int) (h:FH) (c:Nat) (df:List Nat) (hs:SlI h c s 20 n Gl) (hV:SlI h c v 1 (4*n) (vN Gl n)) (hok:Z0w Gl n=true) (hn:n<=60) :
 G (.fn 89) [.agg #[s],v,.int .i64 k] h c df=some ⟨.ret,[.bool (orB n Gl (inC (vN Gl n) k))],h,c,[]⟩:=by
 refine Z0t (fun r e=>f89_go e) (by simp) ?_;have Z0X:((Value.agg #[s]).cells.toList.all Z08)=true:=by simp [Value.cells,hs.flat]
 have Z0Y:(Value.agg #[s]).cells.toList=[s]:=rfl;unfold ZpE;rw [Z0X,Z0Y];simp only [cond_true,qW];obtain ⟨g0,hg0⟩:=jN (256*c);rw [hg0];obtain ⟨M,hM⟩:=jN (newB h g0 [s]);rw [hM];have Mg:M.f g0=some (.cells false none [s]):=by rw [← hM,Z01,if_pos rfl]
 have sM:Z0l c h M:=fun j hj=>by rw [← hM,Z01,if_neg qO]
 have l0:ld1 M (.pointer (some ⟨g0,0,none⟩))=some s:=by rw [Z02 (cs:=[s]) ⟨false,none,Mg⟩]; rfl
 have len:=hs.len;have cs:=Z05 (Z4h (8*n) M (c+1+1) [] qO);obtain ⟨pb,hpb⟩:=jN (256*(c+1+1+1)+1);rw [hpb] at cs;have l1:∀ cs,ld1 (newB M pb cs) (.pointer (some ⟨g0,0,none⟩))=some s:=fun cs=>by rw [ld1_newB_ne _ _ _ _ _ qO]; exact l0
 have hsM:SlI M (c+1) s 20 n Gl:=(hs.same sM).mono qO;have hVM:SlI M (c+1) v 1 (4*n) (vN Gl n):=(hV.same sM).mono qO;have lo:=Ans.eq (ux_t pb n (c+1+1+1+1+1+1+1) (c+1) k Gl (vN Gl n) s v (ptrTo g0) (.bool false) M [] qO hok hsM hVM qO qO qO (OkV.ptr qO) (OkV.bool _ _) n 0 (Z0g (8*n)) qO (JX.nil _));simp only [qC,qF] at lo;have hd:=ZkD (Q:=inC (vN Gl n) k) hok hs.1;have iff:=u_iff (Q:=inC (vN Gl n) k) hok hs.1 qO (ZhH hok hs.1 k);obtain ⟨q,hq,q1⟩:=uc_t pb n (c+1+1+1+1+1+1+1+1) (uCs Gl (inC (vN Gl n) k) n) (newB M pb (ints (uCs Gl (inC (vN Gl n) k) n))) [] qO hd (by rw [Z01,if_pos rfl]) qO n 0 qO (fun x hx=>qO);simp only [qC,qF] at hq;have e4:((8*n:Nat):Int)=8*(n:Int):=qO;rw [e4] at cs;have l2:=l1 (ints (Z0g (8*n)));have l3:=l1 (ints (uCs Gl (inC (vN Gl n) k) n));have fin:Z0l c h (newB M pb (ints (uCs Gl (inC (vN Gl n) k) n))):=fun j hj=>by rw [Z01,if_neg qO]; exact sM j hj
 obtain ⟨K1,hK1⟩:=jN (newB M pb (ints (Z0g (8*n))));obtain ⟨K2,hK2⟩:=jN (newB M pb (ints (uCs Gl (inC (vN Gl n) k) n)));rw [hK1] at cs l2 lo;rw [hK2] at lo l3 hq q1 fin;clear l1;rcases q1 with ⟨rfl,z⟩ | ⟨z,t',rfl⟩
 · rw [iff.1 z];have fx:=ai l0 (ai len (ai cs (ai l2 (ai lo (ai l3 hq)))));refine Ans.go ?_;clear fx;exact Ans.pure rfl fin
 · have:orB n Gl (inC (vN Gl n) k)=false:=by
    cases w:orB n Gl (inC (vN Gl n) k) with
    | false=>rfl
    | true=>exact absurd (iff.2 w) z
   rw [this];have fx:=ai l0 (ai len (ai cs (ai l2 (ai lo (ai l3 hq)))));refine Ans.go ?_;clear fx;exact Ans.pure rfl fin

def Z2H:List Value:=[.slice none 0 0,.slice none 0 0,.slice none 0 0,.slice none 0 0,.slice none 0 0,.slice none 0 0]
theorem Zl8:Z2H.length=6:=rfl
theorem Z4R {h:FH} {b n:Nat} {z L:List Value} (hf:h.f b=some (.cells false none z)) (hz:z.length=n) (hL:L.length=n) (hLf:L.all Z08=true):stN h n (.pointer (some ⟨b,0,none⟩)) (.agg L.toArray)=some (newB h b L):=by
 have e:newB h b z=h:=by
  apply FH.ext; intro k;rw [Z01]; split
  · rename_i e; rw [e,hf]
  · rfl
 have:=Z0q h n b 0 z (.agg L.toArray) (by simp [Value.cells,hL]) qO (by simpa [Value.cells] using hLf);rw [e] at this;rw [this];simp [Z0Z,Value.cells,hL,qU (show z.length<=n by omega)]
theorem Z24 {h:FH} {b n:Nat} {L:List Value} (hf:h.f b=some (.cells false none L)) (hL:L.length=n):ldN h n (.pointer (some ⟨b,0,none⟩))=some (.agg L.toArray):=by
 rw [ldN_holds (cs:=L) ⟨false,none,hf⟩ qO,qM,qH qO]
theorem of_bad (s:Value) (n:Nat) (Gl:List Int) (h:FH) (c:Nat) (df:List Nat) (hs:SlI h c s 20 n Gl) (hok:¬ (n<=1000/\Z0w Gl n=true)) :
 Ans (G (.fn 11) [.agg #[s]] h c df) fun r=>r=⟨.ret,[.tuple #[.agg Z2H.toArray,.int .i64 7]],r.h,r.c,[]⟩/\c<=r.c/\Z0l c h r.h:=by
 refine Ans.call' (fun r e=>Zov e) ?_;have Z0X:((Value.agg #[s]).cells.toList.all Z08)=true:=by simp [Value.cells,hs.flat]
 have Z0Y:(Value.agg #[s]).cells.toList=[s]:=rfl;unfold Zic;rw [Z0X,Z0Y];simp only [cond_true,qW];obtain ⟨g0,hg0⟩:=jN (256*c);obtain ⟨p0,hp0⟩:=jN (256*c+1);obtain ⟨M,hM⟩:=jN (newB (newB h g0 [s]) p0 Z2H);rw [hp0,hg0,show [Value.slice none 0 0,Value.slice none 0 0,Value.slice none 0 0,Value.slice none 0 0,Value.slice none 0 0,Value.slice none 0 0]=Z2H from rfl,hM];have Mf:∀ j,M.f j=if j=p0 then some (.cells false none Z2H) else if j=g0 then some (.cells false none [s]) else h.f j:=fun j=>by rw [← hM,Z01,Z01]
 have sM:Z0l c h M:=fun j hj=>by rw [Mf,if_neg qO,if_neg qO]
 have l0:ldN M 1 (.pointer (some ⟨g0,0,none⟩))=some (.agg #[s]):=Z0N (cs:=[]) ⟨false,none,by show M.f g0=_; rw [Mf,if_neg qO,if_pos rfl]⟩;have ck:=Z05 (Z9J s n Gl M (c+1+1) [] ((hs.same sM).mono qO));rw [if_neg hok] at ck;have b6:Z1K Z2H []=some (.agg Z2H.toArray):=rfl;have fp:M.f p0=some (.cells false none Z2H):=by rw [Mf,if_pos rfl]
 have w1:stN M 6 (.pointer (some ⟨p0,0,none⟩)) (.agg Z2H.toArray)=some (newB M p0 Z2H):=Z4R fp rfl rfl rfl;have l1:ldN (newB M p0 Z2H) 6 (.pointer (some ⟨p0,0,none⟩))=some (.agg Z2H.toArray):=Z24 (by rw [Z01,if_pos rfl]) rfl;obtain ⟨N6,hN6⟩:=jN (Z2H);rw [hN6] at b6 w1 l1 ⊢;obtain ⟨H,hH⟩:=jN (newB M p0 N6);rw [hH] at w1 l1;have fx:=ai l0 (ai ck (ai b6 (ai w1 l1)));refine Ans.go ?_;clear fx;refine .done ⟨rfl,by dsimp only; omega,fun j hj=>?_⟩;show H.f j=h.f j;rw [← hH,Z01,if_neg qO];exact sM j hj
theorem of_ok (s:Value) (n:Nat) (Gl:List Int) (h:FH) (c:Nat) (df:List Nat) (hs:SlI h c s 20 n Gl) (hok:Z0w Gl n=true) (hn:n<=60) :
 Ans (G (.fn 11) [.agg #[s]] h c df) fun r=>∃ vv ev tv gb rb lv,r=⟨.ret,[.tuple #[.agg #[vv,ev,tv,.slice (some ⟨gb,0,none⟩) (nE Gl n) (nE Gl n),.slice (some ⟨rb,0,none⟩) (nE Gl n) (nE Gl n),lv],.int .i64 0]],r.h,r.c,[]⟩/\c<=r.c/\Z0l c h r.h/\SkV c r.c r.h vv ev tv gb rb lv n Gl:=by
 refine Ans.call' (fun r e=>Zov e) ?_;have Z0X:((Value.agg #[s]).cells.toList.all Z08)=true:=by simp [Value.cells,hs.flat]
 have Z0Y:(Value.agg #[s]).cells.toList=[s]:=rfl;unfold Zic;rw [Z0X,Z0Y];simp only [cond_true,qW];obtain ⟨g0,hg0⟩:=jN (256*c);obtain ⟨p0,hp0⟩:=jN (256*c+1);obtain ⟨M,hM⟩:=jN (newB (newB h g0 [s]) p0 Z2H);rw [hp0,hg0,show [Value.slice none 0 0,Value.slice none 0 0,Value.slice none 0 0,Value.slice none 0 0,Value.slice none 0 0,Value.slice none 0 0]=Z2H from rfl,hM];have Mf:∀ j,M.f j=if j=p0 then some (.cells false none Z2H) else if j=g0 then some (.cells false none [s]) else h.f j:=fun j=>by rw [← hM,Z01,Z01]
 have sM:Z0l c h M:=fun j hj=>by rw [Mf,if_neg qO,if_neg qO]
 have l0:ldN M 1 (.pointer (some ⟨g0,0,none⟩))=some (.agg #[s]):=Z0N (cs:=[]) ⟨false,none,by show M.f g0=_; rw [Mf,if_neg qO,if_pos rfl]⟩;have ck:=Z05 (Z9J s n Gl M (c+1+1) [] ((hs.same sM).mono qO));rw [if_pos ⟨qO,hok⟩] at ck;obtain ⟨r0,hr0,vv,ev,tv,gb,rb,lv,e0,k0,s0,sk⟩:=Z9T s n Gl M (c+1+1+1) [] ((hs.same sM).mono qO) hok hn;obtain ⟨K,hK⟩:=jN (r0.h);obtain ⟨k,hk⟩:=jN (r0.c);rw [hK,hk] at e0 sk;rw [hk] at k0;rw [hK] at s0;rw [e0] at hr0;have c39:=Z05 hr0;have fp:K.f p0=some (.cells false none Z2H):=by rw [s0 p0 qO,Mf,if_pos rfl]
 obtain ⟨R,hR⟩:=jN ([vv,ev,tv,.slice (some ⟨gb,0,none⟩) (nE Gl n) (nE Gl n),.slice (some ⟨rb,0,none⟩) (nE Gl n) (nE Gl n),lv]);have hR':Value.agg #[vv,ev,tv,.slice (some ⟨gb,0,none⟩) (nE Gl n) (nE Gl n),.slice (some ⟨rb,0,none⟩) (nE Gl n) (nE Gl n),lv] = .agg R.toArray:=by rw [← hR]
 have R6:R.length=6:=by rw [← hR]; rfl
 have Rf:R.all Z08=true:=by
  rw [← hR];simp only [List.all_cons,List.all_nil,sk.gv.flat.1,sk.ge.flat.1,sk.gt.flat.1,sk.gl.flat.1,Bool.and_true,Bool.true_and];rfl
 rw [hR'] at c39;have w1:stN K 6 (.pointer (some ⟨p0,0,none⟩)) (.agg R.toArray)=some (newB K p0 R):=Z4R fp rfl R6 Rf;have l1:ldN (newB K p0 R) 6 (.pointer (some ⟨p0,0,none⟩))=some (.agg R.toArray):=Z24 (by rw [Z01,if_pos rfl]) R6;obtain ⟨H,hH⟩:=jN (newB K p0 R);rw [hH] at w1 l1;have Hf:∀ j,j ≠ p0->H.f j=K.f j:=fun j hj=>by rw [← hH,Z01,if_neg hj]
 have fx:=ai l0 (ai ck (ai c39 (ai w1 l1)));refine Ans.go ?_;clear fx;have kp:∀ {v:Value} {sz k':Nat} {L:List Value},GrC (c+1+1+1) K k v sz k' L->GrC c H k v sz k' L:=fun {v sz k' L} g =>
  Z5X (g.keep (h':=H) fun hv=>Hf _ (by have:=g.blk hv; omega)) qO
 refine .done ⟨vv,ev,tv,gb,rb,lv,by rw [hR'],by dsimp only; omega,fun j hj=>?_,⟨kp sk.gv,kp sk.ge,kp sk.gt, ?_, ?_,kp sk.gl,⟨by have:=sk.b1; omega,sk.b1.2⟩,⟨by have:=sk.b2; omega,sk.b2.2⟩⟩⟩
 · show H.f j=h.f j;rw [Hf j qO,s0 j qO];exact sM j hj
 · show H.f gb=_;rw [Hf _ (by have:=sk.b1; omega)]; exact sk.fg
 · show H.f rb=_;rw [Hf _ (by have:=sk.b2; omega)]; exact sk.fr
def ZqF (Gl:List Int) (n:Nat):Int:=(nV Gl n:Int)-nE Gl n+Z1x (tCs Gl n) (4*n)-n
theorem ZnM (s:Value) (n:Nat) (Gl:List Int) (h:FH) (c:Nat) (df:List Nat) (hs:SlI h c s 20 n Gl) (hn:n<=60) :
 G (.fn 12) [.agg #[s]] h c df=some ⟨.ret,[.tuple #[.int .i64 (if Z0w Gl n=true then ZqF Gl n else 0),.int .i64 (if Z0w Gl n=true then 0 else 7)]],h,c,[]⟩:=by
 refine Z0t (fun r e=>f12_go e) (OkV.tup2 _ _ _ _ _) ?_;have Z0X:((Value.agg #[s]).cells.toList.all Z08)=true:=by simp [Value.cells,hs.flat]
 have Z0Y:(Value.agg #[s]).cells.toList=[s]:=rfl;unfold Zqc;rw [Z0X,Z0Y];simp only [cond_true,qW];obtain ⟨g0,hg0⟩:=jN (256*c);obtain ⟨M,hM⟩:=jN (newB h g0 [s]);rw [hg0,hM];have Mf:∀ j,M.f j=if j=g0 then some (.cells false none [s]) else h.f j:=fun j=>by rw [← hM,Z01]
 have sM:Z0l c h M:=fun j hj=>by rw [Mf,if_neg qO]
 have l0:ldN M 1 (.pointer (some ⟨g0,0,none⟩))=some (.agg #[s]):=Z0N (cs:=[]) ⟨false,none,by show M.f g0=_; rw [Mf,if_pos rfl]⟩;have ck:=Z05 (Z9J s n Gl M (c+1+1) [] ((hs.same sM).mono qO))
 by_cases hok:Z0w Gl n=true
 · rw [if_pos ⟨qO,hok⟩] at ck;rw [if_pos hok,if_pos hok];obtain ⟨r0,hr0,cb,vb,db,eb,tb,V,D,E,T,e0,k0,s0,cl⟩:=Z6O s n Gl M (c+1+1+1) [] ((hs.same sM).mono qO) hok hn;obtain ⟨K0,hK0⟩:=jN (r0.h);obtain ⟨c0,hc0⟩:=jN (r0.c);rw [hK0,hc0] at e0 cl;rw [hc0] at k0;rw [hK0] at s0;rw [e0] at hr0;have c40:=Z05 hr0;obtain ⟨⟨t1,t2,t3,t4,t5⟩,t6,t7,t8,t9,t10⟩:=cl.bd;have ec:=cl.e;obtain ⟨o1,o2,o3,o4⟩:=ec.o;obtain ⟨q1,q2,q3,q4,q5,q6⟩:=ec.q;have u1:Uo K0 cb 1 vb (4*n) V:=⟨⟨_,ec.st,rfl⟩,cl.fv,o1,cl.jv.dn,qO⟩;obtain ⟨r1,hr1,V',ob1,e1,k1,a1,b1,f1,_,_,F1⟩:=Z2n cb 1 vb (4*n) (vCs Gl n) V K0 (c0+1) [] u1 cl.jv.1 cl.jv.2 qO qO;obtain ⟨K1,hK1⟩:=jN (r1.h);obtain ⟨c1,hc1⟩:=jN (r1.c);rw [hK1,hc1] at e1;rw [hc1] at k1 b1;rw [hK1] at f1 F1;rw [e1] at hr1;have c41a:=Z05 hr1;have u3:Uo K1 cb 3 eb (6*n) E:=(Uo.mk ⟨_,ec.st,rfl⟩ cl.fe o3 cl.je.dn qO:Uo K0 cb 3 eb (6*n) E).keep (F1 cb qO o1) (F1 eb qO (Ne.symm q2));obtain ⟨r3,hr3,E',ob3,e3,k3,a3,b3,f3,_,_,F3⟩:=Z2n cb 3 eb (6*n) (eCs Gl n) E K1 (c1+1) [] u3 cl.je.1 cl.je.2 qO qO;obtain ⟨K3,hK3⟩:=jN (r3.h);obtain ⟨c3,hc3⟩:=jN (r3.c);rw [hK3,hc3] at e3;rw [hc3] at k3 b3;rw [hK3] at f3 F3;rw [e3] at hr3;have c41c:=Z05 hr3;have u4:Uo K3 cb 4 tb (4*n) T:=((Uo.mk ⟨_,ec.st,rfl⟩ cl.ft o4 cl.jt.dn qO:Uo K0 cb 4 tb (4*n) T).keep (F1 cb qO o1) (F1 tb qO (Ne.symm q3))).keep (F3 cb qO o3) (F3 tb qO (Ne.symm q6));obtain ⟨r4,hr4,T',ob4,e4,k4,a4,b4,f4,_,_,F4⟩:=Z2n cb 4 tb (4*n) (tCs Gl n) T K3 (c3+1) [] u4 cl.jt.1 cl.jt.2 qO qO;obtain ⟨K4,hK4⟩:=jN (r4.h);obtain ⟨c4,hc4⟩:=jN (r4.c);rw [hK4,hc4] at e4;rw [hc4] at k4 b4;rw [hK4] at f4 F4;rw [e4] at hr4;have c41d:=Z05 hr4;have G4:∀ j,j<256*(c+1+1)->K4.f j=M.f j:=fun j hj=>by
    rw [F4 j qO qO,F3 j qO qO,F1 j qO qO,s0 j qO]
   have h1:Z1x (vCs Gl n) (4*n)<=4*n:=Z1o _ _;have h2:Z1x (eCs Gl n) (6*n)<=6*n:=Z1o _ _;have h3:Z1x (tCs Gl n) (4*n)<=4*n:=Z1o _ _;have he:ZqF Gl n=(Z1x (vCs Gl n) (4*n):Int)-Z1x (eCs Gl n) (6*n)+Z1x (tCs Gl n) (4*n)-n:=rfl;rw [he];obtain ⟨x,hx⟩:=jN (Z1x (vCs Gl n) (4*n));obtain ⟨y,hy⟩:=jN (Z1x (eCs Gl n) (6*n));obtain ⟨z,hz⟩:=jN (Z1x (tCs Gl n) (4*n));rw [hx] at c41a h1 ⊢;rw [hy] at c41c h2 ⊢;rw [hz] at c41d h3 ⊢;have ls8:ld1 K4 (.pointer (some ⟨g0,0,none⟩))=some s:=by
    rw [Z02 (cs:=[s]) ⟨false,none,by show K4.f g0=_; rw [G4 _ qO,Mf,if_pos rfl]⟩]; rfl
   have len:=hs.len;have xv0:∀ a b:Value,Z19 (.tuple #[a,b]) 0=some a:=fun _ _=>rfl
   have xv1:∀ a b:Value,Z19 (.tuple #[a,b]) 1=some b:=fun _ _=>rfl
   obtain ⟨Z1,hZ1⟩:=jN (Value.slice (some ⟨ob1,0,none⟩) (4*n) (4*n));obtain ⟨Z3,hZ3⟩:=jN (Value.slice (some ⟨ob3,0,none⟩) (6*n) (6*n));obtain ⟨Z4,hZ4⟩:=jN (Value.slice (some ⟨ob4,0,none⟩) (4*n) (4*n));rw [hZ1] at c41a;rw [hZ3] at c41c;rw [hZ4] at c41d;have fx:=ai l0 (ai ck (ai c40 (ai c41a (ai c41c (ai c41d (ai xv0 (ai xv1 (ai ls8 len))))))));refine Ans.go ?_;clear fx;refine Ans.pure rfl fun j hj=>?_
   rw [G4 j qO];exact sM j hj
 · rw [if_neg (fun z=>hok z.2)] at ck;rw [if_neg hok,if_neg hok];have fx:=ai l0 ck;refine Ans.go ?_;clear fx;exact Ans.pure rfl sM

def frS (Gl:List Int) (t f:Nat) (x:Bool):Bool:=x || decide (Z0D (Z04 Gl t f)<0)
def frF (Gl:List Int) (t:Nat):Nat->Nat->Bool->Bool
 | 0,_,x=>x
 | r+1,f,x=>frF Gl t r (f+1) (frS Gl t f x)
def frT (Gl:List Int):Nat->Nat->Bool->Bool
 | 0,_,x=>x
 | r+1,t,x=>frT Gl r (t+1) (frF Gl t 4 0 x)
def rvF (R:List Bool):Nat->Nat->Bool->Bool
 | 0,_,x=>x
 | r+1,k,x=>rvF R r (k+1) (x || R.getD k false)
def lkE (n:Nat) (Gl V D:List Int) (k:Nat):Int:=((dZ n Gl D (inC V k)).1.length:Int)-((dZ n Gl D (inC V k)).2.1+(dZ n Gl D (inC V k)).2.2 / 2:Nat)+rk (inC V k) (4*n)
def lkC (n:Nat) (Gl V D:List Int) (k:Nat):Bool:=decide ((dZ n Gl D (inC V k)).2.1=0)
def spB (E:Int) (C:Bool):Bool:=C && decide (E=2)
def dkB (E:Int) (C:Bool):Bool:=spB E C || (!C && decide (E=1))
def lkF (n:Nat) (Gl V D:List Int):Nat->Nat->Bool × Bool->Bool × Bool
 | 0,_,x=>x
 | r+1,k,x=>lkF n Gl V D r (k+1) (x.1 && spB (lkE n Gl V D k) (lkC n Gl V D k),x.2 && dkB (lkE n Gl V D k) (lkC n Gl V D k))
noncomputable def xH (h0:FH) (xb:Nat) (a b c d:Bool):FH:=newB h0 xb (bools [a,b,c,d])
theorem ZaC (h0:FH) (xb:Nat) (a b c d:Bool) (j:Nat):(xH h0 xb a b c d).f j=if j=xb then some (.cells false none (bools [a,b,c,d])) else h0.f j:=Z01 _ _ _ _
theorem Zkw {h0:FH} {xb:Nat} {a b c d a' b' c' d':Bool} {k:Nat} (lx:xb<256*k):Z0G k (xH h0 xb a b c d) (xH h0 xb a' b' c' d'):=Z0G.both (Z0Q.bools _ _) (Z0G.refl _ _) lx
theorem Zky {h0:FH} {xb:Nat} {a b c d:Bool} (i:Nat):ld1 (xH h0 xb a b c d) (.pointer (some ⟨xb,i,none⟩))=(bools [a,b,c,d])[i]?:=by
 rw [Z02 (cs:=bools [a,b,c,d]) ⟨false,none,by show (xH h0 xb a b c d).f xb=_; rw [ZaC,if_pos rfl]⟩]
theorem Zkx {h0:FH} {xb:Nat} {a b c d:Bool} (x:Bool):stN (xH h0 xb a b c d) 1 (.pointer (some ⟨xb,0,none⟩)) (.bool x)=some (xH h0 xb x b c d)/\stN (xH h0 xb a b c d) 1 (.pointer (some ⟨xb,1,none⟩)) (.bool x)=some (xH h0 xb a x c d) ∧
 stN (xH h0 xb a b c d) 1 (.pointer (some ⟨xb,2,none⟩)) (.bool x)=some (xH h0 xb a b x d)/\stN (xH h0 xb a b c d) 1 (.pointer (some ⟨xb,3,none⟩)) (.bool x)=some (xH h0 xb a b c x):=by
 have g:HeapC.get (xH h0 xb a b c d) xb=some (.cells false none (bools [a,b,c,d])):=by show (xH h0 xb a b c d).f xb=_; rw [ZaC,if_pos rfl]
 have e:∀ (i:Nat) (L:List Bool),(bools [a,b,c,d]).set i (.bool x)=bools L->HeapC.set (xH h0 xb a b c d) xb (.cells false none ((bools [a,b,c,d]).set i (.bool x)))=newB h0 xb (bools L):=fun i L hL=>by
  apply FH.ext; intro j;rw [Z0c,Z01,ZaC,hL]
  split <;> rfl
 refine ⟨?_, ?_, ?_, ?_⟩
 · rw [Z0L g (by simp [bools]) rfl rfl,e 0 [x,b,c,d] rfl]; rfl
 · rw [Z0L g (by simp [bools]) rfl rfl,e 1 [a,x,c,d] rfl]; rfl
 · rw [Z0L g (by simp [bools]) rfl rfl,e 2 [a,b,x,d] rfl]; rfl
 · rw [Z0L g (by simp [bools]) rfl rfl,e 3 [a,b,c,x] rfl]; rfl
theorem Ze3 {h0:FH} {xb kb:Nat} {a b c d:Bool} (hne:kb ≠ xb) (cs:List Value):newB (xH h0 xb a b c d) kb cs=xH (newB h0 kb cs) xb a b c d:=by
 apply FH.ext; intro j;rw [Z01,ZaC,ZaC,Z01]
 by_cases e:j=kb
 · subst e; rw [if_pos rfl,if_neg hne,if_pos rfl]
 · rw [if_neg e,if_neg e]
theorem ZpB (rb0 kb0 xb t c:Nat) (y0 y1:Value) (n:Nat) (Gl:List Int) (h0:FH) (df:List Nat) (hG:Gl.length=n*20) (ht:t<n) (hn:n<=60) (b2 b3 b4:Bool) (o0:OkV c y0) (o1:OkV c y1) (l0:rb0<256*c) (l1:kb0<256*c) (lx:xb<256*c) :
 ∀ (r f:Nat) (x:Bool),f+r=4->Ans (G (ZbZ none) [ptrTo rb0,ptrTo kb0,ptrTo xb,y0,y1,.int .i64 t,av (Z0K Gl t),.int .i64 f] (xH h0 xb x b2 b3 b4) c df) fun q=>q=⟨.exit 2,[ptrTo rb0,ptrTo kb0,ptrTo xb,y0,y1,.int .i64 t,av (Z0K Gl t),.int .i64 4],xH h0 xb (frF Gl t r f x) b2 b3 b4,c,df⟩:=by
 intro r;have hrl:=Z0E hG ht;have orow:OkV c (av (Z0K Gl t)):=OkV.av _ _
 induction r with
 | zero =>
  intro f x hf;obtain rfl:f=4:=qO;refine Ans.lpG rfl rfl (Z5i ..) ?_;unfold Z4B;have fx:=True.intro;refine Ans.go ?_;clear fx
  (have fx:=ai l0 (ai l1 (ai lx (ai o0 (ai o1 orow)))); refine Ans.ex0 ?_; clear fx)
  rfl
 | succ r ih =>
  intro f x hf;have hf4:f<4:=qO;have hk:=ih (f+1) (frS Gl t f x) qO;have x1:=Z2p (Z0K Gl t) 4 5 .i64 (f:Int) qO qO hrl;rw [qE,Z23 hf4] at x1;have hfl:=Z0i hG ht hf4;have f4:(f:Int)<4:=qO;rw [frF];obtain ⟨kb,hkb⟩:=jN (256*(c+1)+1);have hne:kb ≠ xb:=qO;have hst:stN (newB (xH h0 xb x b2 b3 b4) kb [.int .i64 0,.int .i64 0,.int .i64 0,.int .i64 0,.int .i64 0]) 5 (.pointer (some ⟨kb,0,none⟩)) (av (Z04 Gl t f))=some (xH (newB h0 kb (ints (Z04 Gl t f))) xb x b2 b3 b4):=by
   rw [stN_all _ _ 5 _ _ hfl rfl,Ze3 hne]
  have r0:ld1 (xH (newB h0 kb (ints (Z04 Gl t f))) xb x b2 b3 b4) (.pointer (some ⟨xb,0,none⟩))=some (.bool x):=by rw [Zky]; rfl
  have r1:ld1 (xH (newB h0 kb (ints (Z04 Gl t f))) xb x b2 b3 b4) (.pointer (some ⟨kb,0,none⟩))=some (.int .i64 (Z0D (Z04 Gl t f))):=by
   rw [Z02 (cs:=ints (Z04 Gl t f)) ⟨false,none,by show (xH _ _ _ _ _ _).f kb=_; rw [ZaC,if_neg hne,Z01,if_pos rfl]⟩,ints_getD _ _ qO]; rfl
  have w1:=fun (y:Bool)=>(Zkx (h0:=newB h0 kb (ints (Z04 Gl t f))) (xb:=xb) (a:=x) (b:=b2) (c:=b3) (d:=b4) y).1
  have up:Z0G c (xH h0 xb x b2 b3 b4) (xH h0 xb (frS Gl t f x) b2 b3 b4):=Zkw lx;have sB:Z0l c (xH h0 xb (frS Gl t f x) b2 b3 b4) (xH (newB h0 kb (ints (Z04 Gl t f))) xb (frS Gl t f x) b2 b3 b4):=fun j hj=>by
   rw [ZaC,ZaC,Z01,if_neg (show ¬ j=kb by omega)]
  have wS:=w1 (frS Gl t f x);obtain ⟨S,hS⟩:=jN (xH h0 xb x b2 b3 b4);obtain ⟨S1,hS1⟩:=jN (xH (newB h0 kb (ints (Z04 Gl t f))) xb x b2 b3 b4);obtain ⟨S2,hS2⟩:=jN (xH h0 xb (frS Gl t f x) b2 b3 b4);obtain ⟨S3,hS3⟩:=jN (xH (newB h0 kb (ints (Z04 Gl t f))) xb (frS Gl t f x) b2 b3 b4);rw [hS,hS1] at hst;rw [hS1] at r0 r1;rw [hS1,hS3] at wS;rw [hS,hS2] at up;rw [hS2,hS3] at sB;rw [hS2] at hk;rw [hS];obtain ⟨Z,hZ⟩:=jN (Z0D (Z04 Gl t f));have hfr:frS Gl t f x=(x || decide (Z<0)):=by rw [frS,hZ]
  rw [hZ] at r1;rw [hfr] at wS;obtain ⟨F,hF⟩:=jN (Z04 Gl t f);rw [hF] at x1 hst;refine Ans.lpG rfl rfl (Z5i ..) ?_;unfold Z4B
  cases x with
  | true =>
   rw [Bool.true_or] at wS;have fx:=ai x1 (ai hkb (ai hst (ai r0 (ai r1 wS))));refine Ans.go ?_;clear fx
   (have fx:=ai l0 (ai l1 (ai lx (ai o0 (ai o1 (ai orow sB))))); refine Ans.nxB (B:=S2) ?_ ?_; exact (up); clear fx)
   exact hk
  | false =>
   by_cases hz:Z<0
   · rw [Bool.false_or,decide_eq_true hz] at wS;have fx:=ai x1 (ai hkb (ai hst (ai r0 (ai r1 (ai hz wS)))));refine Ans.go ?_;clear fx
     (have fx:=ai l0 (ai l1 (ai lx (ai o0 (ai o1 (ai orow sB))))); refine Ans.nxB (B:=S2) ?_ ?_; exact (up); clear fx)
     exact hk
   · rw [Bool.false_or,decide_eq_false hz] at wS;have fx:=ai x1 (ai hkb (ai hst (ai r0 (ai r1 (ai hz wS)))));refine Ans.go ?_;clear fx
     (have fx:=ai l0 (ai l1 (ai lx (ai o0 (ai o1 (ai orow sB))))); refine Ans.nxB (B:=S2) ?_ ?_; exact (up); clear fx)
     exact hk
theorem fo_tet (rb0 kb0 xb c cm:Nat) (s:Value) (n:Nat) (Gl:List Int) (h0:FH) (df:List Nat) (hs:SlI h0 cm s 20 n Gl) (hcm:cm<=c) (hx:256*cm<=xb) (hn:n<=60) (b2 b3 b4:Bool) (l0:rb0<256*c) (l1:kb0<256*c) (lx:xb<256*c) :
 ∀ (r t:Nat) (x:Bool),t+r=n->Ans (G (Zc0 none) [ptrTo rb0,ptrTo kb0,ptrTo xb,s,.int .i64 n,.int .i64 t] (xH h0 xb x b2 b3 b4) c df) fun q=>q=⟨.exit 0,[ptrTo rb0,ptrTo kb0,ptrTo xb,s,.int .i64 n,.int .i64 n],xH h0 xb (frT Gl r t x) b2 b3 b4,c,df⟩:=by
 intro r;have os:OkV c s:=(hs.mono hcm).okV
 induction r with
 | zero =>
  intro t x ht;obtain rfl:t=n:=qO;refine Ans.lpG rfl rfl (Z5j ..) ?_;unfold Z4C;have fx:=True.intro;refine Ans.go ?_;clear fx
  (have fx:=ai l0 (ai l1 (ai lx os)); refine Ans.ex0 ?_; clear fx)
  rfl
 | succ r ih =>
  intro t x ht;have htn:t<n:=qO;have tl:(t:Int)<n:=qO;have tn:(n:Int)<=60:=qO;have hG:Gl.length=n*20:=hs.1;rw [frT];have hk:=ih (t+1) (frF Gl t 4 0 x) qO;have sm:Z0l cm h0 (xH h0 xb x b2 b3 b4):=fun j hj=>by rw [ZaC,if_neg qO]
  have hs':=hs.same sm;have ix:=hs'.ixs .i64 t qO qO;rw [qE] at ix;have lr:ldN (xH h0 xb x b2 b3 b4) 20 (.pointer (some ⟨Z0p s,Z4a s+t*20,none⟩))=some (av (Z0K Gl t)):=by
   rw [hs'.rdN 20 _ qO qO,Z0K,Nat.mul_comm t 20]
  have hrl:=Z0E hG htn;obtain ⟨kb,hkb⟩:=jN (256*(c+1)+2);have hne:kb ≠ xb:=qO;obtain ⟨z20,hz20⟩:=jN ([Value.int .i64 0,Value.int .i64 0,Value.int .i64 0,Value.int .i64 0,Value.int .i64 0,Value.int .i64 0,Value.int .i64 0,Value.int .i64 0,Value.int .i64 0,Value.int .i64 0,Value.int .i64 0,Value.int .i64 0,Value.int .i64 0,Value.int .i64 0,Value.int .i64 0,Value.int .i64 0,Value.int .i64 0,Value.int .i64 0,Value.int .i64 0,Value.int .i64 0]);have z20l:z20.length=20:=by rw [← hz20]; rfl
  have hst:stN (newB (xH h0 xb x b2 b3 b4) kb z20) 20 (.pointer (some ⟨kb,0,none⟩)) (av (Z0K Gl t))=some (xH (newB h0 kb (ints (Z0K Gl t))) xb x b2 b3 b4):=by
   rw [stN_all _ _ 20 _ _ hrl z20l,Ze3 hne]
  have l2:ldN (xH (newB h0 kb (ints (Z0K Gl t))) xb x b2 b3 b4) 20 (.pointer (some ⟨kb,0,none⟩))=some (av (Z0K Gl t)):=Z24 (by rw [ZaC,if_neg hne,Z01,if_pos rfl]) (by rw [ints_length,hrl]);have he:=Ans.eq (ZpB rb0 kb0 xb t (c+1+1+1) s (.int .i64 n) n Gl (newB h0 kb (ints (Z0K Gl t))) df hG htn hn b2 b3 b4 (os.mono qO) (OkV.int _ _ _) qO qO qO 4 0 x qO);simp only [qC,qF] at he;have up:Z0G c (xH h0 xb x b2 b3 b4) (xH h0 xb (frF Gl t 4 0 x) b2 b3 b4):=Zkw lx;have sB:Z0l c (xH h0 xb (frF Gl t 4 0 x) b2 b3 b4) (xH (newB h0 kb (ints (Z0K Gl t))) xb (frF Gl t 4 0 x) b2 b3 b4):=fun j hj=>by
   rw [ZaC,ZaC,Z01,if_neg (show ¬ j=kb by omega)]
  obtain ⟨S,hS⟩:=jN (xH h0 xb x b2 b3 b4);obtain ⟨S1,hS1⟩:=jN (xH (newB h0 kb (ints (Z0K Gl t))) xb x b2 b3 b4);obtain ⟨S2,hS2⟩:=jN (xH h0 xb (frF Gl t 4 0 x) b2 b3 b4);obtain ⟨S3,hS3⟩:=jN (xH (newB h0 kb (ints (Z0K Gl t))) xb (frF Gl t 4 0 x) b2 b3 b4);rw [hS,hS1] at hst;rw [hS1] at l2;rw [hS1,hS3] at he;rw [hS,hS2] at up;rw [hS2,hS3] at sB;rw [hS2] at hk;rw [hS] at lr ⊢;obtain ⟨F,hF⟩:=jN (Z0K Gl t);rw [hF] at lr hst l2 he;refine Ans.lpG rfl rfl (Z5j ..) ?_;unfold Z4C;rw [hz20];have fx:=ai ix (ai lr (ai hkb (ai hst (ai l2 he))));refine Ans.go ?_;clear fx
  (have fx:=ai l0 (ai l1 (ai lx (ai os sB))); refine Ans.nxB (B:=S2) ?_ ?_; exact (up); clear fx)
  exact hk
theorem fo_rev (rb0 kb0 xb rb m c:Nat) (R:List Bool) (h0:FH) (df:List Nat) (fr:h0.f rb=some (.cells false none (bools R))) (hR:R.length=m) (hm:m<=360) (hne:rb ≠ xb) (b1 b3 b4:Bool) (l0:rb0<256*c) (l1:kb0<256*c) (lx:xb<256*c) (lr:rb<256*c) :
 ∀ (r k:Nat) (x:Bool),k+r=m->Ans (G (ZbY none) [ptrTo rb0,ptrTo kb0,ptrTo xb,.slice (some ⟨rb,0,none⟩) m m,.int .i64 m,.int .i64 k] (xH h0 xb b1 x b3 b4) c df) fun q=>q=⟨.exit 4,[ptrTo rb0,ptrTo kb0,ptrTo xb,.slice (some ⟨rb,0,none⟩) m m,.int .i64 m,.int .i64 m],xH h0 xb b1 (rvF R r k x) b3 b4,c,df⟩:=by
 intro r
 induction r with
 | zero =>
  intro k x hk;obtain rfl:k=m:=qO;refine Ans.lpG rfl rfl (Z5h ..) ?_;unfold Z4A;have fx:=True.intro;refine Ans.go ?_;clear fx
  (have fx:=ai l0 (ai l1 (ai lx lr)); refine Ans.ex0 ?_; clear fx)
  rfl
 | succ r ih =>
  intro k x hk;have kl:(k:Int)<m:=qO;have tn:(m:Int)<=360:=qO;rw [rvF];have hk':=ih (k+1) (x || R.getD k false) qO;have ix:ixS 1 (.slice (some ⟨rb,0,none⟩) m m) (.int .i64 (k:Int))=some (.pointer (some ⟨rb,k,none⟩)):=by
   have:=Z1N rb m .i64 (k:Int) qO qO;rwa [qE] at this
  have r0:ld1 (xH h0 xb b1 x b3 b4) (.pointer (some ⟨rb,k,none⟩))=some (.bool (R.getD k false)):=by
   rw [Z02 (cs:=bools R) ⟨false,none,by show (xH _ _ _ _ _ _).f rb=_; rw [ZaC,if_neg hne]; exact fr⟩,Z7z _ _ qO]
  have r1:ld1 (xH h0 xb b1 x b3 b4) (.pointer (some ⟨xb,1,none⟩))=some (.bool x):=by rw [Zky]; rfl
  have w1:=(Zkx (h0:=h0) (xb:=xb) (a:=b1) (b:=x) (c:=b3) (d:=b4) (x || R.getD k false)).2.1;have up:Z0G c (xH h0 xb b1 x b3 b4) (xH h0 xb b1 (x || R.getD k false) b3 b4):=Zkw lx;obtain ⟨y,hy⟩:=jN (R.getD k false);rw [hy] at hk' r0 w1 up ⊢;obtain ⟨S,hS⟩:=jN (xH h0 xb b1 x b3 b4);obtain ⟨S2,hS2⟩:=jN (xH h0 xb b1 (x || y) b3 b4);rw [hS] at r0 r1;rw [hS,hS2] at w1 up;rw [hS2] at hk';rw [hS];refine Ans.lpG rfl rfl (Z5h ..) ?_;unfold Z4A
  cases x with
  | true =>
   rw [Bool.true_or] at w1;have fx:=ai ix (ai r0 (ai r1 w1));refine Ans.go ?_;clear fx
   (have fx:=ai l0 (ai l1 (ai lx lr)); refine Ans.nxB (B:=S2) ?_ ?_; exact (up); clear fx)
   exact hk'
  | false =>
   rw [Bool.false_or] at w1;have fx:=ai ix (ai r0 (ai r1 w1));refine Ans.go ?_;clear fx
   (have fx:=ai l0 (ai l1 (ai lx lr)); refine Ans.nxB (B:=S2) ?_ ?_; exact (up); clear fx)
   exact hk'

theorem Zab (n:Nat) (Gl V D:List Int):∀ k,(lkL n Gl V D k).length=k*6
 | 0=>rfl
 | k+1=>by rw [lkL,jI,Zab n Gl V D k,Z2K]; omega
theorem ZfD (n:Nat) (Gl V D:List Int) {k:Nat}:∀ {m:Nat},k<m->((lkL n Gl V D m).drop (k*6)).take 6=lkD n Gl V D k
 | 0,h=>qO
 | m+1,h=>by
  have hl:=Zab n Gl V D m;rw [lkL]
  by_cases e:k=m
  · subst e;rw [List.drop_append,qU qO,List.nil_append,hl,Nat.sub_self,qM,qH (by rw [Z2K]; omega)]
  · rw [List.drop_append_of_le_length qO,List.take_append_of_le_length (by rw [qS]; omega)];exact ZfD n Gl V D qO
theorem fo_lks (rb0 xb c0 c cnt n:Nat) (lv:Value) (Gl V D:List Int) (h0:FH) (df:List Nat) (g:GrC c0 h0 c lv 6 cnt (lkL n Gl V D cnt)) (hcnt:cnt<=240) (hx:lv ≠ .slice none 0 0->Z0p lv ≠ xb) (b1 b2:Bool) (l0:rb0<256*c) (lx:xb<256*c) :
 ∀ (r k:Nat) (x:Bool × Bool),k+r=cnt->Ans (G (Z91 none) [ptrTo rb0,ptrTo xb,lv,.int .i64 cnt,.int .i64 k] (xH h0 xb b1 b2 x.1 x.2) c df) fun q=>q=⟨.exit 6,[ptrTo rb0,ptrTo xb,lv,.int .i64 cnt,.int .i64 cnt],xH h0 xb b1 b2 (lkF n Gl V D r k x).1 (lkF n Gl V D r k x).2,c,df⟩:=by
 intro r;have ol:OkV c lv:=by
  rcases g with ⟨rfl,_,_⟩ | ⟨_,_,_,_,i,rfl,_,h,_⟩
  · exact OkV.sl0 _ _ _
  · exact OkV.sl h
 induction r with
 | zero =>
  intro k x hk;obtain rfl:k=cnt:=qO;refine Ans.lpG rfl rfl (Z2a ..) ?_;unfold Z2v;have fx:=True.intro;refine Ans.go ?_;clear fx
  (have fx:=ai l0 (ai lx ol); refine Ans.ex0 ?_; clear fx)
  rfl
 | succ r ih =>
  intro k x hk;obtain ⟨x1,x2⟩:=x;have kl:(k:Int)<cnt:=qO;have tn:(cnt:Int)<=240:=qO;have hk':∀ y1 y2,y1=(x1 && spB (lkE n Gl V D k) (lkC n Gl V D k))->y2=(x2 && dkB (lkE n Gl V D k) (lkC n Gl V D k))->Ans (G (Z91 none) [ptrTo rb0,ptrTo xb,lv,.int .i64 cnt,.int .i64 (k+1:Nat)] (xH h0 xb b1 b2 y1 y2) c df) fun q=>q=⟨.exit 6,[ptrTo rb0,ptrTo xb,lv,.int .i64 cnt,.int .i64 cnt],xH h0 xb b1 b2 (lkF n Gl V D (r+1) k (x1,x2)).1 (lkF n Gl V D (r+1) k (x1,x2)).2,c,df⟩:=fun y1 y2 e1 e2=>by
   subst e1 e2;exact ih (k+1) (_,_) qO
  obtain ⟨i,rfl,h3,h4,h5⟩:∃ i,lv = .slice (some ⟨i,0,none⟩) cnt cnt/\256*c0<=i/\i<256*c/\h0.f i=some (.cells false (some 6) (lkL n Gl V D cnt)):=by
   rcases g with ⟨_,e,_⟩ | ⟨_,_,_,_,q⟩
   · omega
   · exact q
  have hix:i ≠ xb:=by have:=hx (by intro e; cases e); rwa [blkOf_sl] at this
  have ix:ixS 6 (.slice (some ⟨i,0,none⟩) cnt cnt) (.int .i64 (k:Int))=some (.pointer (some ⟨i,k*6,none⟩)):=by
   rw [ixS_sl 6 i 0 cnt cnt .i64 (k:Int) qO qO,Nat.zero_add,qE]
  have ll:=Zab n Gl V D cnt;have r0:ldN (xH h0 xb b1 b2 x1 x2) 6 (.pointer (some ⟨i,k*6,none⟩))=some (.agg (lkD n Gl V D k).toArray):=by
   rw [ldN_holds (cs:=lkL n Gl V D cnt) ⟨false,some 6,by show (xH _ _ _ _ _ _).f i=_; rw [ZaC,if_neg hix]; exact h5⟩ qO,ZfD n Gl V D qO]
  obtain ⟨kb,hkb⟩:=jN (256*(c+1)+2);have hne:kb ≠ xb:=qO;have st:stN (newB (xH h0 xb b1 b2 x1 x2) kb [.int .i64 0,.int .i64 0,.int .i64 0,.int .i64 0,.bool false,.bool false]) 6 (.pointer (some ⟨kb,0,none⟩)) (.agg (lkD n Gl V D k).toArray)=some (xH (newB h0 kb (lkD n Gl V D k)) xb b1 b2 x1 x2):=by
   rw [Z0q _ 6 _ 0 _ _ (by simp [Value.cells,Z2K]) (by simp) (by simp only [Value.cells]; exact Z9H _ _ _ _ _),← Ze3 hne];simp only [Value.cells,Z0Z,List.take_zero,List.nil_append,Nat.zero_add,Z2K];simp [Z2K]
  have gk:∀ y1 y2,Z0d (xH (newB h0 kb (lkD n Gl V D k)) xb b1 b2 y1 y2) kb (lkD n Gl V D k):=fun y1 y2=>⟨false,none,by show (xH _ _ _ _ _ _).f kb=_; rw [ZaC,if_neg hne,Z01,if_pos rfl]⟩
  have r3:∀ y1 y2,ld1 (xH (newB h0 kb (lkD n Gl V D k)) xb b1 b2 y1 y2) (.pointer (some ⟨kb,3,none⟩))=some (.int .i64 (lkE n Gl V D k)):=fun y1 y2=>by rw [Z02 (gk y1 y2)]; rfl
  have r4:∀ y1 y2,ld1 (xH (newB h0 kb (lkD n Gl V D k)) xb b1 b2 y1 y2) (.pointer (some ⟨kb,4,none⟩))=some (.bool (lkC n Gl V D k)):=fun y1 y2=>by rw [Z02 (gk y1 y2)]; rfl
  have p2:∀ y1 y2,ld1 (xH (newB h0 kb (lkD n Gl V D k)) xb b1 b2 y1 y2) (.pointer (some ⟨xb,2,none⟩))=some (.bool y1):=fun y1 y2=>by rw [Zky]; rfl
  have p3:∀ y1 y2,ld1 (xH (newB h0 kb (lkD n Gl V D k)) xb b1 b2 y1 y2) (.pointer (some ⟨xb,3,none⟩))=some (.bool y2):=fun y1 y2=>by rw [Zky]; rfl
  have w2:∀ y1 y2 z,stN (xH (newB h0 kb (lkD n Gl V D k)) xb b1 b2 y1 y2) 1 (.pointer (some ⟨xb,2,none⟩)) (.bool z)=some (xH (newB h0 kb (lkD n Gl V D k)) xb b1 b2 z y2):=fun y1 y2 z=>(Zkx z).2.2.1
  have w3:∀ y1 y2 z,stN (xH (newB h0 kb (lkD n Gl V D k)) xb b1 b2 y1 y2) 1 (.pointer (some ⟨xb,3,none⟩)) (.bool z)=some (xH (newB h0 kb (lkD n Gl V D k)) xb b1 b2 y1 z):=fun y1 y2 z=>(Zkx z).2.2.2
  have up:∀ y1 y2,Z0G c (xH h0 xb b1 b2 x1 x2) (xH h0 xb b1 b2 y1 y2):=fun y1 y2=>Zkw lx
  have sB:∀ y1 y2,Z0l c (xH h0 xb b1 b2 y1 y2) (xH (newB h0 kb (lkD n Gl V D k)) xb b1 b2 y1 y2):=fun y1 y2 j hj=>by
   rw [ZaC,ZaC,Z01,if_neg (show ¬ j=kb by omega)]
  obtain ⟨h1,hh1⟩:=jN (newB h0 kb (lkD n Gl V D k));rw [hh1] at st r3 r4 p2 p3 w2 w3 sB;obtain ⟨A,hA⟩:=jN (Value.agg (lkD n Gl V D k).toArray);rw [hA] at r0 st;obtain ⟨E,hE⟩:=jN (lkE n Gl V D k);rw [hE] at r3 hk';obtain ⟨C,hC⟩:=jN (lkC n Gl V D k);rw [hC] at r4 hk';obtain ⟨y1,hy1⟩:=jN ((x1 && spB E C));obtain ⟨y2,hy2⟩:=jN ((x2 && dkB E C));have hkk:=hk' y1 y2 hy1.symm hy2.symm;have upp:=up y1 y2;have sBB:=sB y1 y2;obtain ⟨B,hB⟩:=jN (xH h0 xb b1 b2 y1 y2);rw [hB] at hkk upp sBB;clear hB hk' up sB;rcases (by omega:E=2 ∨ E=1 ∨ (¬ E=2 /\ ¬ E=1)) with rfl | rfl | ⟨q1,q2⟩
  · cases C <;> cases x1 <;> cases x2
    all_goals
     simp [spB,dkB] at hy1 hy2;subst hy1 hy2;refine Ans.lpG rfl rfl (Z2a ..) ?_;unfold Z2v;have fx:=ai ix (ai r0 (ai hkb (ai st (ai r3 (ai r4 (ai p2 (ai p3 (ai w2 w3))))))));refine Ans.go ?_;clear fx
     (have fx:=ai l0 (ai lx (ai ol sBB)); refine Ans.nxB (B:=B) ?_ ?_; exact (upp); clear fx)
     exact hkk
  · cases C <;> cases x1 <;> cases x2
    all_goals
     simp [spB,dkB] at hy1 hy2;subst hy1 hy2;refine Ans.lpG rfl rfl (Z2a ..) ?_;unfold Z2v;have fx:=ai ix (ai r0 (ai hkb (ai st (ai r3 (ai r4 (ai p2 (ai p3 (ai w2 w3))))))));refine Ans.go ?_;clear fx
     (have fx:=ai l0 (ai lx (ai ol sBB)); refine Ans.nxB (B:=B) ?_ ?_; exact (upp); clear fx)
     exact hkk
  · cases C <;> cases x1 <;> cases x2
    all_goals
     simp [spB,dkB,q1,q2] at hy1 hy2;subst hy1 hy2;refine Ans.lpG rfl rfl (Z2a ..) ?_;unfold Z2v;have fx:=ai ix (ai r0 (ai hkb (ai st (ai r3 (ai r4 (ai p2 (ai p3 (ai w2 (ai w3 (ai q1 q2))))))))));refine Ans.go ?_;clear fx
     (have fx:=ai l0 (ai lx (ai ol sBB)); refine Ans.nxB (B:=B) ?_ ?_; exact (upp); clear fx)
     exact hkk
def xFr (Gl:List Int) (n:Nat):Bool:=frT Gl n 0 false
def xRv (Gl:List Int) (n:Nat):Bool:=rvF (skZ Gl n).2 (nE Gl n) 0 false
def xLk (Gl:List Int) (n:Nat):Bool × Bool:=lkF n Gl (vN Gl n) (dN Gl n) (nV Gl n) 0 (true,true)
theorem Z0Q.bools4 (c:Nat) (a b d e:Bool):OkV c (.agg (bools [a,b,d,e]).toArray):=OkV.agg (Z0Q.bools _ _)
theorem ZmM (s:Value) (n:Nat) (Gl:List Int) (h:FH) (c:Nat) (df:List Nat) (hs:SlI h c s 20 n Gl) (hok:Z0w Gl n=true) (hn:n<=60) :
 G (.fn 42) [.agg #[s]] h c df=some ⟨.ret,[.agg (bools [xFr Gl n,xRv Gl n,(xLk Gl n).1,(xLk Gl n).2]).toArray],h,c,[]⟩:=by
 refine Z0t (fun r e=>f42_go e) (Z0Q.bools4 _ _ _ _ _) ?_;have Z0X:((Value.agg #[s]).cells.toList.all Z08)=true:=by simp [Value.cells,hs.flat]
 have Z0Y:(Value.agg #[s]).cells.toList=[s]:=rfl;unfold ZjR;rw [Z0X,Z0Y];simp only [cond_true,qW];obtain ⟨g0,hg0⟩:=jN (256*c);obtain ⟨p0,hp0⟩:=jN (256*c+1);obtain ⟨kb,hkb⟩:=jN (256*(c+1)+2);have z4e:[Value.bool false,Value.bool false,Value.bool false,Value.bool false]=bools [false,false,false,false]:=rfl;obtain ⟨M,hM⟩:=jN (newB (newB h g0 [s]) p0 (bools [false,false,false,false]));rw [hp0,hg0,show [Value.slice none 0 0,Value.slice none 0 0,Value.slice none 0 0,Value.slice none 0 0,Value.slice none 0 0,Value.slice none 0 0]=Z2H from rfl,z4e,hM];have Mf:∀ j,M.f j=if j=p0 then some (.cells false none (bools [false,false,false,false])) else if j=g0 then some (.cells false none [s]) else h.f j:=fun j=>by rw [← hM,Z01,Z01]
 have sM:Z0l c h M:=fun j hj=>by rw [Mf,if_neg qO,if_neg qO]
 have l0:ldN M 1 (.pointer (some ⟨g0,0,none⟩))=some (.agg #[s]):=Z0N (cs:=[]) ⟨false,none,by show M.f g0=_; rw [Mf,if_neg qO,if_pos rfl]⟩;obtain ⟨r0,hr0,vv,ev,tv,gb,rb,lv,e0,k0,s0,sk⟩:=Z9T s n Gl M (c+1+1) [] ((hs.same sM).mono qO) hok hn;obtain ⟨K,hK⟩:=jN (r0.h);obtain ⟨k,hk⟩:=jN (r0.c);rw [hK,hk] at e0 sk;rw [hk] at k0;rw [hK] at s0;rw [e0] at hr0;have c39:=Z05 hr0;obtain ⟨m,hm⟩:=jN (nE Gl n);have hmE:nE Gl n<=6*n:=Z1o _ _;have hmV:nV Gl n<=4*n:=Z1o _ _;rw [hm] at c39 hmE;obtain ⟨R,hR⟩:=jN ([vv,ev,tv,.slice (some ⟨gb,0,none⟩) m m,.slice (some ⟨rb,0,none⟩) m m,lv]);have hR':Value.agg #[vv,ev,tv,.slice (some ⟨gb,0,none⟩) m m,.slice (some ⟨rb,0,none⟩) m m,lv] = .agg R.toArray:=by rw [← hR]
 have R6:R.length=6:=by rw [← hR]; rfl
 have Rf:R.all Z08=true:=by
  rw [← hR];simp only [List.all_cons,List.all_nil,sk.gv.flat.1,sk.ge.flat.1,sk.gt.flat.1,sk.gl.flat.1,Bool.and_true,Bool.true_and];rfl
 rw [hR'] at c39;have st2:stN (newB K kb Z2H) 6 (.pointer (some ⟨kb,0,none⟩)) (.agg R.toArray)=some (newB K kb R):=by
  rw [Z0q K 6 kb 0 Z2H (.agg R.toArray) (by simp [Value.cells,R6]) (by simp [Zl8]) (by simpa [Value.cells] using Rf)];simp [Z0Z,Value.cells,R6,Z2H]
 obtain ⟨K2,hK2⟩:=jN (newB K kb R);have K2f:∀ j,K2.f j=if j=kb then some (.cells false none R) else K.f j:=fun j=>by rw [← hK2,Z01]
 rw [hK2] at st2;obtain ⟨xb,hxb⟩:=jN (256*k+1);have bv:Z1K (bools [false,false,false,false]) [(2,1,.bool true),(3,1,.bool true)]=some (.agg (bools [false,false,true,true]).toArray):=rfl;have st4:stN (newB K2 xb (bools [false,false,false,false])) 4 (.pointer (some ⟨xb,0,none⟩)) (.agg (bools [false,false,true,true]).toArray)=some (xH K2 xb false false true true):=by
  rw [Z0q K2 4 xb 0 _ _ rfl (by simp [bools]) rfl]; rfl
 have ls8:∀ a b d e,ld1 (xH K2 xb a b d e) (.pointer (some ⟨g0,0,none⟩))=some s:=fun a b d e=>by
  rw [Z02 (cs:=[s]) ⟨false,none,by show (xH K2 xb a b d e).f g0=_; rw [ZaC,if_neg qO,K2f,if_neg qO,s0 _ qO,Mf,if_neg qO,if_pos rfl]⟩]; rfl
 have gkb:∀ a b d e,Z0d (xH K2 xb a b d e) kb R:=fun a b d e=>⟨false,none,by show (xH K2 xb a b d e).f kb=_; rw [ZaC,if_neg qO,K2f,if_pos rfl]⟩
 have l4:∀ a b d e,ld1 (xH K2 xb a b d e) (.pointer (some ⟨kb,4,none⟩))=some (.slice (some ⟨rb,0,none⟩) m m):=fun a b d e=>by rw [Z02 (gkb a b d e),← hR]; rfl
 have l5:∀ a b d e,ld1 (xH K2 xb a b d e) (.pointer (some ⟨kb,5,none⟩))=some lv:=fun a b d e=>by rw [Z02 (gkb a b d e),← hR]; rfl
 have len:=hs.len;have lle:Z1q lv=some (.int .i64 (nV Gl n)):=sk.gl.len;have sK2:Z0l c h K2:=fun j hj=>by rw [K2f,if_neg qO,s0 j qO]; exact sM j hj
 have b1:=sk.b1;have b2:=sk.b2;have hrR:(skZ Gl n).2.length=m:=by
  have h0:SB m (List.replicate m 0,List.replicate m false) (6*0):=⟨by simp,by simp,fun x=>by
   have:(List.replicate m (0:Int)).getD x 0=0:=by rw [qB,jM]; split <;> rfl
   rw [this]; omega⟩
  have:=(SB.ts (eN Gl n) (dN Gl n) n 0 h0).l2;rw [skZ,hm]; exact this
 have a1:=Ans.eq (fo_tet p0 kb xb (k+1+1) c s n Gl K2 [] (hs.same sK2) qO qO hn false true true qO qO qO n 0 false qO);have a2:=Ans.eq (fo_rev p0 kb xb rb m (k+1+1+1) (skZ Gl n).2 K2 [] (by rw [K2f,if_neg qO]; exact sk.fr) hrR qO qO (xFr Gl n) true true qO qO qO qO m 0 false qO);have hlv:lv ≠ .slice none 0 0->Z0p lv ≠ xb:=fun hv=>by have:=sk.gl.blk hv; omega
 have a3:=Ans.eq (fo_lks p0 xb (c+1+1) (k+1+1+1+1) (nV Gl n) n lv Gl (vN Gl n) (dN Gl n) K2 [] ((sk.gl.keep fun hv=>by rw [K2f,if_neg (by have:=sk.gl.blk hv; omega)]).mono qO) qO hlv (xFr Gl n) (xRv Gl n) qO qO (nV Gl n) 0 (true,true) qO);rw [show frT Gl n 0 false=xFr Gl n from rfl] at a1;rw [show rvF (skZ Gl n).2 m 0 false=xRv Gl n by rw [xRv,hm]] at a2;rw [show lkF n Gl (vN Gl n) (dN Gl n) (nV Gl n) 0 (true,true)=xLk Gl n from rfl] at a3;simp only [qC,qF] at a1 a2 a3;obtain ⟨X1,hX1⟩:=jN (xFr Gl n);obtain ⟨X2,hX2⟩:=jN (xRv Gl n);obtain ⟨X3,hX3⟩:=jN ((xLk Gl n).1);obtain ⟨X4,hX4⟩:=jN ((xLk Gl n).2);rw [hX1] at a1 a2 a3 ⊢;rw [hX2] at a2 a3 ⊢;rw [hX3,hX4] at a3 ⊢;obtain ⟨N,hN⟩:=jN (nV Gl n);rw [hN] at lle a3;have ne:xb ≠ p0:=qO;have lx:ldN (xH K2 xb X1 X2 X3 X4) 4 (.pointer (some ⟨xb,0,none⟩))=some (.agg (bools [X1,X2,X3,X4]).toArray):=Z24 (by rw [ZaC,if_pos rfl]) rfl;have fp:(xH K2 xb X1 X2 X3 X4).f p0=some (.cells false none (bools [false,false,false,false])):=by rw [ZaC,if_neg (Ne.symm ne),K2f,if_neg qO,s0 _ qO,Mf,if_pos rfl]
 have wx:stN (xH K2 xb X1 X2 X3 X4) 4 (.pointer (some ⟨p0,0,none⟩)) (.agg (bools [X1,X2,X3,X4]).toArray)=some (newB (xH K2 xb X1 X2 X3 X4) p0 (bools [X1,X2,X3,X4])):=Z4R fp rfl rfl rfl;have ly:ldN (newB (xH K2 xb X1 X2 X3 X4) p0 (bools [X1,X2,X3,X4])) 4 (.pointer (some ⟨p0,0,none⟩))=some (.agg (bools [X1,X2,X3,X4]).toArray):=Z24 (by rw [Z01,if_pos rfl]) rfl;have sE:Z0l c h (newB (xH K2 xb X1 X2 X3 X4) p0 (bools [X1,X2,X3,X4])):=fun j hj=>by rw [Z01,if_neg qO,ZaC,if_neg qO]; exact sK2 j hj
 obtain ⟨HE,hHE⟩:=jN (newB (xH K2 xb X1 X2 X3 X4) p0 (bools [X1,X2,X3,X4]));rw [hHE] at wx ly sE;obtain ⟨V4,hV4⟩:=jN (Value.agg (bools [X1,X2,X3,X4]).toArray);rw [hV4] at lx wx ly ⊢;obtain ⟨V0,hV0⟩:=jN (Value.agg (bools [false,false,true,true]).toArray);rw [hV0] at bv st4;obtain ⟨Z0,hZ0⟩:=jN (bools [false,false,false,false]);rw [hZ0] at bv st4 ⊢;obtain ⟨N6,hN6⟩:=jN (Z2H);rw [hN6] at st2 ⊢;have fx:=ai l0 (ai c39 (ai hkb (ai st2 (ai hxb (ai bv (ai st4 (ai ls8 (ai len (ai a1 (ai l4 (ai a2 (ai l5 (ai lle (ai a3 (ai lx (ai wx ly))))))))))))))));refine Ans.go ?_;clear fx;exact Ans.pure rfl sE

def Z5v:List Value:=[.int .i64 4,.func (.func 69) #[] #[],.int .i64 1,.func (.func 70) #[] #[],.int .i64 2,.func (.func 71) #[] #[],.int .i64 3,.func (.func 72) #[] #[]]
theorem Zqs (c:Nat):OkV c (.agg Z5v.toArray):=OkV.agg (by
 unfold Z5v;simp only [Z0Q.cons_iff,OkV.int,Z0Q.nil,and_true,true_and];exact ⟨OkV.fn _ _,OkV.fn _ _,OkV.fn _ _,OkV.fn _ _⟩)
theorem ZnZ (h:FH) (c:Nat) (df:List Nat):G (.fn 43) [] h c df=some ⟨.ret,[.agg Z5v.toArray],h,c,[]⟩:=by
 refine Z0t (fun r e=>f43_go e) (Zqs _) ?_;unfold ZjQ;obtain ⟨b,hb⟩:=jN (256*c);have b1:∀ (k:Int) (g:Nat),Z1K [.int .i64 0,.nilFunc] [(0,1,.int .i64 k),(1,1,.func (.func g) #[] #[])]=some (.agg #[.int .i64 k,.func (.func g) #[] #[]]):=fun k g=>rfl
 obtain ⟨z8,hz8⟩:=jN ([Value.int .i64 0,Value.nilFunc,Value.int .i64 0,Value.nilFunc,Value.int .i64 0,Value.nilFunc,Value.int .i64 0,Value.nilFunc]);have b5:Z1K z8 [(0,2,.agg #[.int .i64 4,.func (.func 69) #[] #[]]),(2,2,.agg #[.int .i64 1,.func (.func 70) #[] #[]]),(4,2,.agg #[.int .i64 2,.func (.func 71) #[] #[]]),(6,2,.agg #[.int .i64 3,.func (.func 72) #[] #[]])]=some (.agg Z5v.toArray):=by rw [← hz8]; rfl
 have st:stN (newB h b z8) 8 (.pointer (some ⟨b,0,none⟩)) (.agg Z5v.toArray)=some (newB h b Z5v):=by
  rw [Z0q _ 8 _ 0 _ _ rfl (by rw [← hz8]; simp) rfl,← hz8]; rfl
 have ld:ldN (newB h b Z5v) 8 (.pointer (some ⟨b,0,none⟩))=some (.agg Z5v.toArray):=Z24 (by rw [Z01,if_pos rfl]) rfl;have sE:Z0l c h (newB h b Z5v):=fun j hj=>by rw [Z01,if_neg qO]
 obtain ⟨H,hH⟩:=jN (newB h b Z5v);rw [hH] at st ld sE;obtain ⟨V,hV⟩:=jN (Value.agg Z5v.toArray);rw [hV] at b5 st ld ⊢;simp only [qW,hz8];have fx:=ai hb (ai b1 (ai b5 (ai st ld)));refine Ans.go ?_;clear fx;exact Ans.pure rfl sE
theorem Zqr (a b d e:Bool) (h:FH) (c:Nat) :
 callF G 69 [.agg (bools [a,b,d,e]).toArray] h c=some (.bool b,h,c)/\callF G 70 [.agg (bools [a,b,d,e]).toArray] h c=some (.bool (!a && d),h,c) ∧
 callF G 71 [.agg (bools [a,b,d,e]).toArray] h c=some (.bool (!a),h,c)/\callF G 72 [.agg (bools [a,b,d,e]).toArray] h c=some (.bool e,h,c):=by
 have Z0X:((Value.agg (bools [a,b,d,e]).toArray).cells.toList.all Z08)=true:=rfl;have Z0Y:(Value.agg (bools [a,b,d,e]).toArray).cells.toList=bools [a,b,d,e]:=rfl;obtain ⟨g0,hg0⟩:=jN (256*c);obtain ⟨H,hH⟩:=jN (newB h g0 (bools [a,b,d,e]));have Hh:Z0d H g0 (bools [a,b,d,e]):=by rw [← hH]; exact Z0d.newB_same _ _ _
 have l0:ld1 H (.pointer (some ⟨g0,0,none⟩))=some (.bool a):=by rw [Z02 Hh]; rfl
 have l1:ld1 H (.pointer (some ⟨g0,1,none⟩))=some (.bool b):=by rw [Z02 Hh]; rfl
 have l2:ld1 H (.pointer (some ⟨g0,2,none⟩))=some (.bool d):=by rw [Z02 Hh]; rfl
 have l3:ld1 H (.pointer (some ⟨g0,3,none⟩))=some (.bool e):=by rw [Z02 Hh]; rfl
 have sE:Z0l c h H:=fun j hj=>by rw [← hH,Z01,if_neg qO]
 refine ⟨Z05 (e:=.ret) (df:=[]) ?_,Z05 (e:=.ret) (df:=[]) ?_,Z05 (e:=.ret) (df:=[]) ?_,Z05 (e:=.ret) (df:=[]) ?_⟩
 · refine Z0t (fun r e=>f69_go e) (OkV.bool _ _) ?_;unfold ZjF;rw [Z0X,Z0Y];simp only [cond_true,qW,hg0,hH];have fx:=l1;refine Ans.go ?_;clear fx;exact Ans.pure rfl sE
 · refine Z0t (fun r e=>f70_go e) (OkV.bool _ _) ?_;unfold ZjE;rw [Z0X,Z0Y];simp only [cond_true,qW,hg0,hH]
   cases a with
   | true =>
    have fx:=ai l0 l2;refine Ans.go ?_;clear fx;exact Ans.pure rfl sE
   | false =>
    have fx:=ai l0 l2;refine Ans.go ?_;clear fx;exact Ans.pure (by simp) sE
 · refine Z0t (fun r e=>f71_go e) (OkV.bool _ _) ?_;unfold ZjD;rw [Z0X,Z0Y];simp only [cond_true,qW,hg0,hH];have fx:=l0;refine Ans.go ?_;clear fx;exact Ans.pure rfl sE
 · refine Z0t (fun r e=>f72_go e) (OkV.bool _ _) ?_;unfold ZjC;rw [Z0X,Z0Y];simp only [cond_true,qW,hg0,hH];have fx:=l3;refine Ans.go ?_;clear fx;exact Ans.pure rfl sE
def ZdF (a b d e:Bool):Int:=if b=true then 4 else if (!a && d)=true then 1 else if a=false then 2 else if e=true then 3 else 4
def KP (c0:Nat) (h0:FH) (c:Nat) (v:Int) (q:Rt FH):Prop:=c<=q.c/\q.df=[]/\Z0l c0 h0 q.h/\((q.e = .exit 0/\v=4) ∨ (q.e = .ret /\ ∃ x y z,q.vs=[.int .i64 v,.int .i64 0,x,y,z]))
theorem KP.mono {c0 c c':Nat} {h0:FH} {v:Int} {q:Rt FH} (h:KP c0 h0 c' v q) (hc:c<=c'):KP c0 h0 c v q:=⟨by have:=h.1; omega,h.2⟩
theorem Z6S (xb c0 c i g:Nat) (kind:Int) (val:Bool) (v:Int) (a b d e:Bool) (h0 H:FH) (hi:i<4) (hc:c0<=c) (hx:xb<256*c) (hH:H.f xb=some (.cells false none (bools [a,b,d,e]))) (sm:Z0l c0 h0 H)
 (hv:ixV 4 true 2 (.agg Z5v.toArray) (.int .i64 i)=some (.agg #[.int .i64 kind,.func (.func g) #[] #[]]))
 (hf:∀ h c,callF G g [.agg (bools [a,b,d,e]).toArray] h c=some (.bool val,h,c)) (hval:val=true->v=kind)
 (rest:∀ (H':FH),H'.f xb=some (.cells false none (bools [a,b,d,e]))->Z0l c0 h0 H'->val=false->Ans (G (Z4J none) [.int .i64 0,.int .i64 0,ptrTo xb,.agg Z5v.toArray,.int .i64 (i+1:Nat)] H' (c+1+1+1+1) []) (KP c0 h0 c v)) :
 Ans (G (Z4J none) [.int .i64 0,.int .i64 0,ptrTo xb,.agg Z5v.toArray,.int .i64 i] H c []) (KP c0 h0 c v):=by
 have hi4:(i:Int)<4:=qO;obtain ⟨kb,hkb⟩:=jN (256*(c+1)+1);obtain ⟨V,hV⟩:=jN (Value.agg Z5v.toArray);obtain ⟨X,hX⟩:=jN (Value.agg (bools [a,b,d,e]).toArray);have st:stN (newB H kb [.int .i64 0,.nilFunc]) 2 (.pointer (some ⟨kb,0,none⟩)) (.agg #[.int .i64 kind,.func (.func g) #[] #[]])=some (newB H kb [.int .i64 kind,.func (.func g) #[] #[]]):=by
  rw [Z0q _ 2 _ 0 _ _ rfl (by simp) rfl]; rfl
 obtain ⟨H1,hH1⟩:=jN (newB H kb [.int .i64 kind,.func (.func g) #[] #[]]);have gk:Z0d H1 kb [.int .i64 kind,.func (.func g) #[] #[]]:=by rw [← hH1]; exact Z0d.newB_same _ _ _
 have l1:ld1 H1 (.pointer (some ⟨kb,1,none⟩))=some (.func (.func g) #[] #[]):=by rw [Z02 gk]; rfl
 have l0:ld1 H1 (.pointer (some ⟨kb,0,none⟩))=some (.int .i64 kind):=by rw [Z02 gk]; rfl
 have fx:H1.f xb=some (.cells false none (bools [a,b,d,e])):=by rw [← hH1,Z01,if_neg qO]; exact hH
 have lx:ldN H1 4 (.pointer (some ⟨xb,0,none⟩))=some X:=by rw [← hX]; exact Z24 fx rfl
 have s1:Z0l c0 h0 H1:=fun j hj=>by rw [← hH1,Z01,if_neg qO]; exact sm j hj
 have cf:Z43 G H1 (c+1+1+1) (.func (.func g) #[] #[]) [X]=some (.bool val,H1,c+1+1+1):=by
  rw [← hX];show callF G g _ _ _=_;exact hf _ _
 rw [hH1] at st;rw [hV] at hv rest ⊢;obtain ⟨Y,hY⟩:=jN (Value.agg #[.int .i64 kind,.func (.func g) #[] #[]]);rw [hY] at hv st;refine Ans.lpN rfl rfl (Z5u ..) ?_;unfold Z4K
 cases val with
 | true =>
  have fx:=ai hv (ai hkb (ai st (ai l1 (ai lx (ai cf l0)))));refine Ans.go ?_;clear fx;have hvk:=hval rfl;subst hvk;exact Ans.retN ⟨by dsimp only; omega,rfl,s1,.inr ⟨rfl,ptrTo xb,V,.int .i64 i,rfl⟩⟩
 | false =>
  have hr:=rest H1 fx s1 rfl;have fx:=ai hv (ai hkb (ai st (ai l1 (ai lx (ai cf l0)))));refine Ans.go ?_;clear fx;exact Ans.nextN hr
theorem ZlU (xb c0 c:Nat) (v:Int) (h0 H:FH) (hc:c0<=c) (sm:Z0l c0 h0 H) (hv:v=4) :
 Ans (G (Z4J none) [.int .i64 0,.int .i64 0,ptrTo xb,.agg Z5v.toArray,.int .i64 4] H c []) (KP c0 h0 c v):=by
 obtain ⟨V,hV⟩:=jN (Value.agg Z5v.toArray);rw [hV];refine Ans.lpN rfl rfl (Z5u ..) ?_;unfold Z4K;have fx:=True.intro;refine Ans.go ?_;clear fx;exact Ans.exitN ⟨by dsimp only; omega,rfl,sm,.inl ⟨rfl,hv⟩⟩
theorem Zjf (xb c0 c:Nat) (a b d e:Bool) (h0 H:FH) (hc:c0<=c) (hx:xb<256*c) (hH:H.f xb=some (.cells false none (bools [a,b,d,e]))) (sm:Z0l c0 h0 H) :
 Ans (G (Z4J none) [.int .i64 0,.int .i64 0,ptrTo xb,.agg Z5v.toArray,.int .i64 0] H c []) (KP c0 h0 c (ZdF a b d e)):=by
 have cs:=fun h c=>Zqr a b d e h c
 have m:∀ {X:Option (Rt FH)} {v:Int} {k k':Nat},k<=k'->Ans X (KP c0 h0 k' v)->Ans X (KP c0 h0 k v):=fun hk h=>h.mono fun q hq=>hq.mono hk
 refine Z6S xb c0 c 0 69 4 b _ a b d e h0 H qO hc hx hH sm rfl (fun h c=>(cs h c).1) (fun hb=>by simp [ZdF,hb]) fun H1 f1 s1 v1=>m (k':=c+1+1+1+1) qO ?_
 refine Z6S xb c0 _ 1 70 1 (!a && d) _ a b d e h0 H1 qO qO qO f1 s1 rfl (fun h c=>(cs h c).2.1) (fun hb=>by revert v1 hb; cases a <;> cases b <;> cases d <;> cases e <;> simp [ZdF]) fun H2 f2 s2 v2=>m (k':=c+1+1+1+1+1+1+1+1) qO ?_
 refine Z6S xb c0 _ 2 71 2 (!a) _ a b d e h0 H2 qO qO qO f2 s2 rfl (fun h c=>(cs h c).2.2.1) (fun hb=>by revert v1 v2 hb; cases a <;> cases b <;> cases d <;> cases e <;> simp [ZdF]) fun H3 f3 s3 v3=>m (k':=c+1+1+1+1+1+1+1+1+1+1+1+1) qO ?_
 refine Z6S xb c0 _ 3 72 3 e _ a b d e h0 H3 qO qO qO f3 s3 rfl (fun h c=>(cs h c).2.2.2) (fun hb=>by revert v1 v2 v3 hb; cases a <;> cases b <;> cases d <;> cases e <;> simp [ZdF]) fun H4 f4 s4 v4=>m (k':=c+1+1+1+1+1+1+1+1+1+1+1+1+1+1+1+1) qO ?_
 have ha:a=true:=by simpa using v3
 exact ZlU xb c0 _ _ h0 H4 qO s4 (by subst ha; simp [ZdF,v1,v4])
def ZhC (Gl:List Int) (n:Nat):Int:=ZdF (xFr Gl n) (xRv Gl n) (xLk Gl n).1 (xLk Gl n).2
theorem Zpn (s:Value) (n:Nat) (Gl:List Int) (h:FH) (c:Nat) (df:List Nat) (hs:SlI h c s 20 n Gl) (hn:n<=60) :
 G (.fn 13) [.agg #[s]] h c df=some ⟨.ret,[.tuple #[.int .i64 (if Z0w Gl n=true then ZhC Gl n else 0),.int .i64 (if Z0w Gl n=true then 0 else 7)]],h,c,[]⟩:=by
 refine Z0t (fun r e=>f13_go e) (OkV.tup2 _ _ _ _ _) ?_;have Z0X:((Value.agg #[s]).cells.toList.all Z08)=true:=by simp [Value.cells,hs.flat]
 have Z0Y:(Value.agg #[s]).cells.toList=[s]:=rfl;unfold Zk1;rw [Z0X,Z0Y];simp only [cond_true,qW];obtain ⟨g0,hg0⟩:=jN (256*c);obtain ⟨M,hM⟩:=jN (newB h g0 [s]);rw [hg0,hM];have Mf:∀ j,M.f j=if j=g0 then some (.cells false none [s]) else h.f j:=fun j=>by rw [← hM,Z01]
 have sM:Z0l c h M:=fun j hj=>by rw [Mf,if_neg qO]
 have l0:ldN M 1 (.pointer (some ⟨g0,0,none⟩))=some (.agg #[s]):=Z0N (cs:=[]) ⟨false,none,by show M.f g0=_; rw [Mf,if_pos rfl]⟩;have ck:=Z05 (Z9J s n Gl M (c+1+1) [] ((hs.same sM).mono qO))
 by_cases hok:Z0w Gl n=true
 · rw [if_pos ⟨qO,hok⟩] at ck;rw [if_pos hok,if_pos hok];have c42:=Z05 (ZmM s n Gl M (c+1+1+1) [] ((hs.same sM).mono qO) hok hn);have c43:=fun h c=>Z05 (ZnZ h c [])
   obtain ⟨xb,hxb⟩:=jN (256*(c+1+1)+2);rw [ZhC];obtain ⟨X1,hX1⟩:=jN (xFr Gl n);obtain ⟨X2,hX2⟩:=jN (xRv Gl n);obtain ⟨X3,hX3⟩:=jN ((xLk Gl n).1);obtain ⟨X4,hX4⟩:=jN ((xLk Gl n).2);rw [hX1,hX2,hX3,hX4] at c42 ⊢;have st:stN (newB M xb [.bool false,.bool false,.bool false,.bool false]) 4 (.pointer (some ⟨xb,0,none⟩)) (.agg (bools [X1,X2,X3,X4]).toArray)=some (newB M xb (bools [X1,X2,X3,X4])):=by
    rw [Z0q M 4 xb 0 _ _ rfl (by simp) rfl]; rfl
   obtain ⟨H,hH⟩:=jN (newB M xb (bools [X1,X2,X3,X4]));have sH:Z0l c h H:=fun j hj=>by rw [← hH,Z01,if_neg qO]; exact sM j hj
   obtain ⟨⟨e',vs',h',c',df'⟩,ex,k1,k2,k3,k4⟩:=Zjf xb c (c+1+1+1+1) X1 X2 X3 X4 h H qO qO (by rw [← hH,Z01,if_pos rfl]) sH;dsimp only at k1 k2 k3 k4;subst k2;rw [hH] at st;obtain ⟨V,hV⟩:=jN (Value.agg Z5v.toArray);simp only [hV] at c43 ex;obtain ⟨X,hX⟩:=jN (Value.agg (bools [X1,X2,X3,X4]).toArray);rw [hX] at c42 st;rcases k4 with ⟨rfl,hv⟩ | ⟨rfl,x,y,z,rfl⟩
   · rw [hv];have fx:=ai l0 (ai ck (ai c42 (ai hxb (ai st (ai c43 ex)))));refine Ans.go ?_;clear fx;exact Ans.pure rfl k3
   · have fx:=ai l0 (ai ck (ai c42 (ai hxb (ai st (ai c43 ex)))));refine Ans.go ?_;clear fx;exact Ans.pure rfl k3
 · rw [if_neg (fun z=>hok z.2)] at ck;rw [if_neg hok,if_neg hok];have fx:=ai l0 ck;refine Ans.go ?_;clear fx;exact Ans.pure rfl sM


abbrev nd (y:Nat):Prop:=y % 4 ≠ y / 4 % 4
abbrev frY (Gl:List Int) (y:Nat):Prop:=Z0D (Z04 Gl (y / 16) (y % 4))<0
def dSy (Gl D:List Int) (y:Nat) (z:List Int × Nat × Nat):List Int × Nat × Nat :=
 if nd y then (ZdI z.1 (D.getD y 0),if frY Gl y then (z.2.1+1,z.2.2) else (z.2.1,z.2.2+1)) else z
def dY (Gl D:List Int) (Q:Nat->Bool):Nat->List Int × Nat × Nat
 | 0=>([],0,0)
 | y+1=>if Q (y / 4)=true then dSy Gl D y (dY Gl D Q y) else dY Gl D Q y
theorem ZnY (Gl D:List Int) {x j:Nat} (hj:j<4) (z:List Int × Nat × Nat):dSt Gl D (x / 4) (x % 4) j z=dSy Gl D (4*x+j) z:=by
 have e1:(4*x+j) % 4=j:=qO;have e2:(4*x+j) / 4=x:=qO;have e3:(4*x+j) / 16=x / 4:=qO;have e4:16*(x / 4)+4*(x % 4)+j=4*x+j:=qO;unfold dSt dSy;rw [e4]
 by_cases h:j=x % 4
 · have hn:¬ nd (4*x+j):=by
    show ¬ (4*x+j) % 4 ≠ (4*x+j) / 4 % 4;rw [e1,e2]; exact fun q=>q h
   rw [if_pos h,if_neg hn]
 · have hn:nd (4*x+j):=by
    show (4*x+j) % 4 ≠ (4*x+j) / 4 % 4;rw [e1,e2]; exact h
   rw [if_neg h,if_pos hn]
   by_cases hf:Z0D (Z04 Gl (x / 4) j)<0
   · have hf':frY Gl (4*x+j):=by
      show Z0D (Z04 Gl ((4*x+j) / 16) ((4*x+j) % 4))<0;rw [e1,e3]; exact hf
     rw [if_pos hf,if_pos hf']
   · have hf':¬ frY Gl (4*x+j):=by
      show ¬ Z0D (Z04 Gl ((4*x+j) / 16) ((4*x+j) % 4))<0;rw [e1,e3]; exact hf
     rw [if_neg hf,if_neg hf']
theorem dFs_y (Gl D:List Int) (Q:Nat->Bool) {x:Nat} (hq:Q x=true):dFs Gl D (x / 4) (x % 4) 4 0 (dY Gl D Q (4*x))=dY Gl D Q (4*(x+1)):=by
 have h0:Q ((4*x) / 4)=true:=by rw [show 4*x / 4=x by omega]; exact hq
 have h1:Q ((4*x+1) / 4)=true:=by rw [show (4*x+1) / 4=x by omega]; exact hq
 have h2:Q ((4*x+2) / 4)=true:=by rw [show (4*x+2) / 4=x by omega]; exact hq
 have h3:Q ((4*x+3) / 4)=true:=by rw [show (4*x+3) / 4=x by omega]; exact hq
 rw [show 4*(x+1)=4*x+3+1 by omega];simp only [dFs];rw [ZnY Gl D (j:=0) qO,ZnY Gl D (j:=1) qO,ZnY Gl D (j:=2) qO,ZnY Gl D (j:=3) qO,dY,if_pos h3,dY,if_pos h2,dY,if_pos h1,dY,if_pos h0];rfl
theorem Zke (Gl D:List Int) (Q:Nat->Bool) {x:Nat} (hq:¬ Q x=true):dY Gl D Q (4*(x+1))=dY Gl D Q (4*x):=by
 have h:∀ j,j<4 -> ¬ Q ((4*x+j) / 4)=true:=fun j hj=>by rw [show (4*x+j) / 4=x by omega]; exact hq
 rw [show 4*(x+1)=4*x+3+1 by omega,dY,if_neg (h 3 qO),dY,if_neg (h 2 qO),dY,if_neg (h 1 qO),dY];exact if_neg (h 0 qO)
theorem ZdR (Gl D C:List Int):∀ (r a:Nat) (z:List Int × Nat × Nat),Zif Gl D C (r+1) a z=dFs Gl D (oT C (a+r)) (oC C (a+r)) 4 0 (Zif Gl D C r a z)
 | 0,a,z=>rfl
 | r+1,a,z=>by
  rw [Zif,ZdR Gl D C r (a+1),Zif,show a+1+r=a+(r+1) by omega]
theorem dZ_y (n:Nat) (Gl D:List Int) (Q:Nat->Bool):dZ n Gl D Q=dY Gl D Q (16*n):=by
 have key:∀ m,m<=4*n->Zif Gl D (crn Q (4*n)) (rk Q m) 0 ([],0,0)=dY Gl D Q (4*m):=by
  intro m
  induction m with
  | zero=>intro _; rfl
  | succ m ih =>
   intro hm;have ih:=ih qO
   by_cases hq:Q m=true
   · obtain ⟨e1,e2⟩:=Zl5 (Q:=Q) (x:=m) (m:=4*n) hq qO;rw [rk,if_pos hq,ZdR,Nat.zero_add,e1,e2,ih,dFs_y Gl D Q hq]
   · rw [rk,if_neg hq,qW,ih,Zke Gl D Q hq]
 unfold dZ;rw [key (4*n) (qG _),show 4*(4*n)=16*n by omega]
theorem ZfB {L:List Int} {x v:Int}:v ∈ ZdI L x ↔ v ∈ L ∨ v=x:=by
 unfold ZdI
 by_cases h:x ∈ L
 · rw [if_pos h];exact ⟨.inl,fun q=>q.elim id fun e=>e ▸ h⟩
 · rw [if_neg h]; simp
def sE (E D:List Int) (z:List Int × List Bool):Nat->List Int × List Bool
 | 0=>z
 | e+1=>sSt E D (e / 6) (e % 6) (sE E D z e)
theorem sKs_e (E D:List Int) (z0:List Int × List Bool) (t:Nat):∀ (r k:Nat),k+r<=6->sKs E D t r k (sE E D z0 (6*t+k))=sE E D z0 (6*t+k+r)
 | 0,k,_=>rfl
 | r+1,k,h=>by
  have e:sSt E D t k (sE E D z0 (6*t+k))=sE E D z0 (6*t+(k+1)):=by
   rw [show 6*t+(k+1)=6*t+k+1 by omega,sE,show (6*t+k) / 6=t by omega,show (6*t+k) % 6=k by omega]
  rw [sKs,e,sKs_e E D z0 t r (k+1) qO,show 6*t+(k+1)+r=6*t+k+(r+1) by omega]
theorem sTs_e (E D:List Int) (z0:List Int × List Bool):∀ (r t:Nat),sTs E D r t (sE E D z0 (6*t))=sE E D z0 (6*(t+r))
 | 0,t=>rfl
 | r+1,t=>by
  have:=sKs_e E D z0 t 6 0 qO;rw [qW] at this;rw [sTs,this,show 6*t+6=6*(t+1) by omega,sTs_e E D z0 r (t+1),show t+1+r=t+(r+1) by omega]
theorem ZoY (Gl:List Int) (n:Nat):skZ Gl n=sE (eN Gl n) (dN Gl n) (List.replicate (nE Gl n) 0,List.replicate (nE Gl n) false) (6*n):=by
 have:=sTs_e (eN Gl n) (dN Gl n) (List.replicate (nE Gl n) 0,List.replicate (nE Gl n) false) n 0;rw [Nat.zero_add,Nat.mul_zero] at this;exact this
abbrev rvE (D:List Int) (e:Nat):Prop:=D.getD (16*(e / 6)+4*eAn (e % 6)+eBn (e % 6)) 0=D.getD (16*(e / 6)+4*eBn (e % 6)+eAn (e % 6)) 0
theorem Zfu (E D:List Int) (z:List Int × List Bool):∀ m,(sE E D z m).1.length=z.1.length/\(sE E D z m).2.length=z.2.length
 | 0=>⟨rfl,rfl⟩
 | m+1=>by
  obtain ⟨h1,h2⟩:=Zfu E D z m;rw [sE,sSt];refine ⟨by rw [jL]; exact h1, ?_⟩;dsimp only
  split
  · rw [jL]; exact h2
  · exact h2
end Go.Proofs.Ytdodippbpdechaa
