/- Parts of a proof: Q6 K15 K16 K17 K18 K19. Conditions: none. -/
import Derived.Test.YtdodippbpdechaaM18
import Derived.Test.YtdodippbpdechaaM17
set_option linter.all false
set_option maxRecDepth 100000
set_option maxHeartbeats 4000000
namespace Go.Proofs.Ytdodippbpdechaa
open Go Go.Ab Go.Proofs
def trn (Gl:List Int) (t f:Nat):Nat:=if sgP (Z0v (Z04 Gl t f))=1 then 1 else 0
def uS (Gl:List Int) (t i f s:Nat):Prs:=[(8*t+2*i+s,8*fU Gl t f+2*fJ Gl t f i+(s+trn Gl t f) % 2)]
def uF (Gl:List Int) (Q:Nat->Bool) (t i f:Nat):Prs:=if f=i ∨ Z0D (Z04 Gl t f)<0 ∨ Q (4*t+i)=false then [] else upL (uS Gl t i f) 2
def uI (Gl:List Int) (Q:Nat->Bool) (t i:Nat):Prs:=upL (uF Gl Q t i) 4
def uT (Gl:List Int) (Q:Nat->Bool) (t:Nat):Prs:=upL (uI Gl Q t) 4
def uP (Gl:List Int) (Q:Nat->Bool) (n:Nat):Prs:=upL (uT Gl Q) n
def uCs (Gl:List Int) (Q:Nat->Bool) (n:Nat):List Int:=jn (uP Gl Q n) (Z0g (8*n))
theorem Zoh (Gl:List Int) (t f:Nat):trn Gl t f<2:=by unfold trn; split <;> omega
theorem ux_s (pb n xb t f i c:Nat) (Gl:List Int) (x1 x2 x3 x6 x9 x23 x24 x25 x34:Value) (h0:FH) (df:List Nat) (PV:Prs) (hn:n<=1000) (x:XB Gl n t f xb pb h0) (hg:¬ Z0D (Z04 Gl t f)<0) (hi:i<4) (lp:pb<256*c) (lx:xb<256*c)
 (o1:OkV c x1) (o2:OkV c x2) (o3:OkV c x3) (o6:OkV c x6) (o9:OkV c x9) (o23:OkV c x23) (o24:OkV c x24) (o25:OkV c x25) (o34:OkV c x34) :
 ∀ (r s:Nat) (L:List Int),s+r=2->JX (PV++upL (uS Gl t i f) s) (8*n) L →
 Ans (G (Z7V none) [x1,x2,x3,x6,.slice (some ⟨pb,0,none⟩) (8*n) (8*n),.int .i64 t,x9,.int .i64 i,ptrTo xb,.int .i64 (trn Gl t f),.int .i64 s,x23,x24,x25,x34,.int .i64 f] (newB h0 pb (ints L)) c df) fun q=>∃ L',q=⟨.exit 6,[x1,x2,x3,x6,.slice (some ⟨pb,0,none⟩) (8*n) (8*n),.int .i64 t,x9,.int .i64 i,ptrTo xb,.int .i64 (trn Gl t f),.int .i64 2,x23,x24,x25,x34,.int .i64 f],newB h0 pb (ints L'),c,df⟩/\JX (PV++upL (uS Gl t i f) 2) (8*n) L':=by
 intro r;have ht:=x.ht;have hf:=x.hf;have i4:(i:Int)<4:=qO;have tr:=Zoh Gl t f
 induction r with
 | zero =>
  intro s L hs j;obtain rfl:s=2:=qO;obtain ⟨tn,htn⟩:=jN (trn Gl t f);rw [htn];refine Ans.lpG rfl rfl (Z6X ..) ?_;unfold Z83;obtain ⟨H,hH⟩:=jN (newB h0 pb (ints L));rw [hH];have fx:=True.intro;refine Ans.go ?_;clear fx
  (have fx:=ai lp (ai lx (ai o1 (ai o2 (ai o3 (ai o6 (ai o9 (ai o23 (ai o24 (ai o25 o34))))))))); refine Ans.ex0 ?_; clear fx)
  exact ⟨L,by rw [hH]; rfl,j⟩
 | succ r ih =>
  intro s L hs j;have s2:(s:Int)<2:=qO;have l0:=x.l0 (ints L);have b:=x.gb hg;have hu:=b.u;have hj:=b.j i hi;rw [x.u hg] at l0;have l1:=x.l1 hg (ints L) hi;have g:=Z41 pb (8*n) L j.d (newB h0 pb (ints L)) (c+1+1) [] (by rw [Z01,if_pos rfl]) qO qO (8*t+2*i+s) (8*fU Gl t f+2*fJ Gl t f i+(s+trn Gl t f) % 2) qO qO;rw [ZdD] at g;have j':=j.snoc (i:=8*t+2*i+s) (j:=8*fU Gl t f+2*fJ Gl t f i+(s+trn Gl t f) % 2) qO qO;obtain ⟨L',hL'⟩:=jN (Z1k L (8*t+2*i+s) (8*fU Gl t f+2*fJ Gl t f i+(s+trn Gl t f) % 2));rw [hL'] at j' g;have hk:=ih (s+1) L' qO (by rw [upL,← qQ]; exact j');have cv:=Z05 g;have e3:((8*t+2*i+s:Nat):Int)=8*(t:Int)+2*i+s:=qO;have e4:((8*fU Gl t f+2*fJ Gl t f i+(s+trn Gl t f) % 2:Nat):Int)=8*(fU Gl t f:Int)+2*(fJ Gl t f i:Nat)+((s+trn Gl t f) % 2:Nat):=qO;rw [e3,e4] at cv;have rm:Z00 P .rem 3 (.int .i64 ((s:Int)+(trn Gl t f:Nat))) (.int .i64 2)=some (.int .i64 (((s+trn Gl t f) % 2:Nat):Int)):=by
   rw [aBinOp_rem _ _ _ qO,← jH,Int.tmod_eq_emod_of_nonneg qO];congr 2
  have up:Z0G c (newB h0 pb (ints L)) (newB h0 pb (ints L')):=Z0G.both (Z0Q.ints _ _) (Z0G.refl _ _) lp;clear g j' e3 e4;have m2:(s+trn Gl t f) % 2<2:=Nat.mod_lt _ qO;obtain ⟨S,hS⟩:=jN (newB h0 pb (ints L));obtain ⟨S2,hS2⟩:=jN (newB h0 pb (ints L'));rw [hS] at l0 l1 cv up ⊢;rw [hS2] at cv up hk;obtain ⟨u,hu'⟩:=jN (fU Gl t f);obtain ⟨p,hp'⟩:=jN (fJ Gl t f i);obtain ⟨md,hmd⟩:=jN ((s+trn Gl t f) % 2);rw [hmd] at rm cv m2;obtain ⟨tn,htn⟩:=jN (trn Gl t f);rw [htn] at rm tr hk ⊢;rw [hu'] at l0 cv hu;rw [hp'] at l1 cv hj;refine Ans.lpG rfl rfl (Z6X ..) ?_;unfold Z83;have fx:=ai l0 (ai l1 (ai rm cv));refine Ans.go ?_;clear fx
  (have fx:=ai lp (ai lx (ai o1 (ai o2 (ai o3 (ai o6 (ai o9 (ai o23 (ai o24 (ai o25 o34))))))))); refine Ans.nxB (B:=S2) ?_ ?_; exact (up); clear fx)
  exact hk
theorem ux_f (pb n t i c cm k:Nat) (Gl V:List Int) (v x3 x6 x9 x23 x24 x25:Value) (h0:FH) (df:List Nat) (PV:Prs) (hn:n<=1000) (hok:Z0w Gl n=true) (hG:Gl.length=n*20) (ht:t<n) (hi:i<4) (hV:SlI h0 cm v 1 (4*n) V) (hcm:cm<=c) (mp:256*cm<=pb) (lp:pb<256*c)
 (o3:OkV c x3) (o6:OkV c x6) (o9:OkV c x9) (o23:OkV c x23) (o24:OkV c x24) (o25:OkV c x25) :
 ∀ (r f:Nat) (L:List Int),f+r=4->JX (PV++upL (uF Gl (inC V k) t i) f) (8*n) L →
 Ans (G (Zbd none) [v,.int .i64 k,x3,x6,.slice (some ⟨pb,0,none⟩) (8*n) (8*n),.int .i64 t,x9,.int .i64 i,x23,x24,x25,av (Z0K Gl t),.int .i64 f] (newB h0 pb (ints L)) c df) fun q=>∃ L',q=⟨.exit 4,[v,.int .i64 k,x3,x6,.slice (some ⟨pb,0,none⟩) (8*n) (8*n),.int .i64 t,x9,.int .i64 i,x23,x24,x25,av (Z0K Gl t),.int .i64 4],newB h0 pb (ints L'),c,df⟩/\JX (PV++uI Gl (inC V k) t i) (8*n) L':=by
 intro r;have hrl:=Z0E hG ht;have orow:OkV c (av (Z0K Gl t)):=OkV.av _ _;have ov:OkV c v:=(hV.mono hcm).okV
 induction r with
 | zero =>
  intro f L hf j;obtain rfl:f=4:=qO;refine Ans.lpG rfl rfl (Z2Q ..) ?_;unfold Z4l;obtain ⟨H,hH⟩:=jN (newB h0 pb (ints L));rw [hH];have fx:=True.intro;refine Ans.go ?_;clear fx
  (have fx:=ai lp (ai o3 (ai o6 (ai o9 (ai o23 (ai o24 (ai o25 (ai orow ov))))))); refine Ans.ex0 ?_; clear fx)
  exact ⟨L,by rw [hH]; rfl,j⟩
 | succ r ih =>
  intro f L hf j;have hf4:f<4:=qO;have f4:(f:Int)<4:=qO;have x1':=Z2p (Z0K Gl t) 4 5 .i64 (f:Int) qO qO hrl;rw [qE,Z23 hf4] at x1';have hfl:=Z0i hG ht hf4;obtain ⟨xb,hxb⟩:=jN (256*(c+1)+2);have hne:xb ≠ pb:=qO;obtain ⟨h1,hh1⟩:=jN (newB h0 xb (ints (Z04 Gl t f)));have cm':newB (newB h0 pb (ints L)) xb (ints (Z04 Gl t f))=newB h1 pb (ints L):=by rw [← hh1,Z1F _ _ _ _ _ (Ne.symm hne)]
  have x:XB Gl n t f xb pb h1:=⟨by rw [← hh1]; exact Z0d.newB_same _ _ _,hne,hok,hG,ht,hf4⟩;have w1:stN (newB (newB h0 pb (ints L)) xb [.int .i64 0,.int .i64 0,.int .i64 0,.int .i64 0,.int .i64 0]) 5 (.pointer (some ⟨xb,0,none⟩)) (av (Z04 Gl t f))=some (newB h1 pb (ints L)):=by
   rw [← cm']; exact stN_all _ _ 5 _ _ hfl rfl
  have l0:=x.l0 (ints L);have hV1:SlI (newB h1 pb (ints L)) cm v 1 (4*n) V:=hV.same fun j hj=>by rw [Z01,if_neg qO,← hh1,Z01,if_neg qO]
  have xv:=hV1.ixs1 .i64 (4*(t:Int)+i) qO qO;rw [show (4*(t:Int)+i).toNat=4*t+i by omega] at xv;have lv:=hV1.rd (4*t+i) qO;have sB0:∀ L',Z0l c (newB h0 pb (ints L')) (newB h1 pb (ints L')):=fun L' j hj=>by rw [Z01,Z01,← hh1,Z01,if_neg (show ¬ j=xb by omega)]
  by_cases q:f=i ∨ Z0D (Z04 Gl t f)<0 ∨ inC V k (4*t+i)=false
  · have qv:uF Gl (inC V k) t i f=[]:=if_pos q;have hk:=ih (f+1) L qO (by rw [upL,qv,qL]; exact j);have sB:=sB0 L;obtain ⟨S,hS⟩:=jN (newB h0 pb (ints L));obtain ⟨S1,hS1⟩:=jN (newB h1 pb (ints L));rw [hS] at w1 hk sB ⊢;rw [hS1] at w1 l0 sB lv;obtain ⟨F,hF⟩:=jN (Z04 Gl t f);rw [hF] at w1 x1' l0 q;obtain ⟨z,hz⟩:=jN (Z0D F);rw [hz] at l0 q;refine Ans.lpG rfl rfl (Z2Q ..) ?_;unfold Z4l
    by_cases q1:f=i
    · obtain rfl:=q1;have fx:=ai x1' (ai hxb w1);refine Ans.go ?_;clear fx
      (have fx:=ai lp (ai o3 (ai o6 (ai o9 (ai o23 (ai o24 (ai o25 (ai orow (ai ov sB)))))))); refine Ans.nx0 ?_; clear fx)
      exact hk
    · have q1':¬ (f:Int)=i:=qO
      by_cases q2:z<0
      · have fx:=ai x1' (ai hxb (ai w1 (ai q1' l0)));refine Ans.go ?_;clear fx
        (have fx:=ai lp (ai o3 (ai o6 (ai o9 (ai o23 (ai o24 (ai o25 (ai orow (ai ov sB)))))))); refine Ans.nx0 ?_; clear fx)
        exact hk
      · have q3:¬ V.getD (4*t+i) 0=k:=by
         have:=(q.resolve_left q1).resolve_left q2;exact of_decide_eq_false this
        obtain ⟨y,hy⟩:=jN (V.getD (4*t+i) 0);rw [hy] at lv q3;have fx:=ai x1' (ai hxb (ai w1 (ai q1' (ai l0 (ai xv (ai lv q3))))));refine Ans.go ?_;clear fx
        (have fx:=ai lp (ai o3 (ai o6 (ai o9 (ai o23 (ai o24 (ai o25 (ai orow (ai ov sB)))))))); refine Ans.nx0 ?_; clear fx)
        exact hk
  · have hg:¬ Z0D (Z04 Gl t f)<0:=fun z=>q (.inr (.inl z))
    have q1:¬ (f:Int)=i:=fun z=>q (.inl qO)
    have q3:V.getD (4*t+i) 0=k:=by
     have:¬ inC V k (4*t+i)=false:=fun z=>q (.inr (.inr z))
     have:inC V k (4*t+i)=true:=by simpa using this
     exact of_decide_eq_true this
    have qv:uF Gl (inC V k) t i f=upL (uS Gl t i f) 2:=if_neg q;rw [x.u hg] at l0;rw [q3] at lv;have hp24:Z0v (Z04 Gl t f) ∈ p24:=Zeq (Z1g hfl) (Z1S (Z33 hok ht hf4) hg).2.1;have k1:ldN (newB h1 pb (ints L)) 4 (.pointer (some ⟨xb,1,none⟩))=some (av (Z0v (Z04 Gl t f))):=by
     rw [ldN_holds (x.hx.newB_ne hne) (by rw [ints_length]; omega),av,Z1G,Z1e]; rfl
    have cs:=Zfb _ hp24 (newB h1 pb (ints L));have sg1:=Z7M (Z0v (Z04 Gl t f));have fin:∀ c5,c+1+1+1<=c5 -> ∃ L',G (Z7V none) [v,.int .i64 k,x3,x6,.slice (some ⟨pb,0,none⟩) (8*n) (8*n),.int .i64 t,x9,.int .i64 i,ptrTo xb,.int .i64 (trn Gl t f),.int .i64 (0:Int),x23,x24,x25,av (Z0K Gl t),.int .i64 f] (newB h1 pb (ints L)) c5 df=some ⟨.exit 6,[v,.int .i64 k,x3,x6,.slice (some ⟨pb,0,none⟩) (8*n) (8*n),.int .i64 t,x9,.int .i64 i,ptrTo xb,.int .i64 (trn Gl t f),.int .i64 2,x23,x24,x25,av (Z0K Gl t),.int .i64 f],newB h1 pb (ints L'),c5,df⟩/\JX (PV++upL (uF Gl (inC V k) t i) f++upL (uS Gl t i f) 2) (8*n) L':=fun c5 hc5=>by
     obtain ⟨q9,hq9,L',rfl,j'⟩:=ux_s pb n xb t f i c5 Gl v (.int .i64 k) x3 x6 x9 x23 x24 x25 (av (Z0K Gl t)) h1 df (PV++upL (uF Gl (inC V k) t i) f) hn x hg hi qO qO (ov.mono qO) (OkV.int _ _ _) (o3.mono qO) (o6.mono qO) (o9.mono qO) (o23.mono qO) (o24.mono qO) (o25.mono qO) (OkV.av _ _) 2 0 L qO (by rw [upL,qL]; exact j);simp only [qC,qF] at hq9;exact ⟨L',hq9,j'⟩
    rcases sg1 with sg | sg
    · have et:trn Gl t f=1:=if_pos sg;rw [sg] at cs;obtain ⟨L',hq9,j'⟩:=fin (c+1+1+1+1+1+1+1) qO;rw [et] at hq9;have hk:=ih (f+1) L' qO (by rw [upL,qv,← qQ]; exact j');have up:Z0G c (newB h0 pb (ints L)) (newB h0 pb (ints L')):=Z0G.both (Z0Q.ints _ _) (Z0G.refl _ _) lp;have sB:=sB0 L';obtain ⟨S,hS⟩:=jN (newB h0 pb (ints L));obtain ⟨S1,hS1⟩:=jN (newB h1 pb (ints L));obtain ⟨S2,hS2⟩:=jN (newB h0 pb (ints L'));obtain ⟨S3,hS3⟩:=jN (newB h1 pb (ints L'));rw [hS] at w1 up ⊢;rw [hS1] at w1 l0 lv k1 cs hq9;rw [hS2] at up sB hk;rw [hS3] at sB hq9;obtain ⟨F,hF⟩:=jN (Z04 Gl t f);rw [hF] at w1 x1' k1 cs;simp only [Int.natCast_one] at hq9;obtain ⟨u,hu'⟩:=jN (fU Gl t f);rw [hu'] at l0;refine Ans.lpG rfl rfl (Z2Q ..) ?_;unfold Z4l;have fx:=ai x1' (ai hxb (ai w1 (ai q1 (ai l0 (ai xv (ai lv (ai k1 (ai cs hq9))))))));refine Ans.go ?_;clear fx
      (have fx:=ai lp (ai o3 (ai o6 (ai o9 (ai o23 (ai o24 (ai o25 (ai orow (ai ov sB)))))))); refine Ans.nxB (B:=S2) ?_ ?_; exact (up); clear fx)
      exact hk
    · have et:trn Gl t f=0:=if_neg qO;rw [sg] at cs;obtain ⟨L',hq9,j'⟩:=fin (c+1+1+1+1+1+1) qO;rw [et] at hq9;have hk:=ih (f+1) L' qO (by rw [upL,qv,← qQ]; exact j');have up:Z0G c (newB h0 pb (ints L)) (newB h0 pb (ints L')):=Z0G.both (Z0Q.ints _ _) (Z0G.refl _ _) lp;have sB:=sB0 L';obtain ⟨S,hS⟩:=jN (newB h0 pb (ints L));obtain ⟨S1,hS1⟩:=jN (newB h1 pb (ints L));obtain ⟨S2,hS2⟩:=jN (newB h0 pb (ints L'));obtain ⟨S3,hS3⟩:=jN (newB h1 pb (ints L'));rw [hS] at w1 up ⊢;rw [hS1] at w1 l0 lv k1 cs hq9;rw [hS2] at up sB hk;rw [hS3] at sB hq9;obtain ⟨F,hF⟩:=jN (Z04 Gl t f);rw [hF] at w1 x1' k1 cs;simp only [Int.natCast_zero] at hq9;obtain ⟨u,hu'⟩:=jN (fU Gl t f);rw [hu'] at l0;refine Ans.lpG rfl rfl (Z2Q ..) ?_;unfold Z4l;have fx:=ai x1' (ai hxb (ai w1 (ai q1 (ai l0 (ai xv (ai lv (ai k1 (ai cs hq9))))))));refine Ans.go ?_;clear fx
      (have fx:=ai lp (ai o3 (ai o6 (ai o9 (ai o23 (ai o24 (ai o25 (ai orow (ai ov sB)))))))); refine Ans.nxB (B:=S2) ?_ ?_; exact (up); clear fx)
      exact hk

def Zif (Gl D C:List Int):Nat->Nat->List Int × Nat × Nat->List Int × Nat × Nat
 | 0,_,z=>z
 | r+1,a,z=>Zif Gl D C r (a+1) (dFs Gl D (oT C a) (oC C a) 4 0 z)
def DB (z:List Int × Nat × Nat) (B:Nat):Prop:=z.1.length<=z.2.1+z.2.2/\z.2.1+z.2.2<=B
theorem Zgn (L:List Int) (x:Int):(ZdI L x).length<=L.length+1:=by
 unfold ZdI; split
 · omega
 · simp
theorem dSt_b (Gl D:List Int) (t i j:Nat) {z:List Int × Nat × Nat} {B:Nat} (h:DB z B):DB (dSt Gl D t i j z) (B+1):=by
 obtain ⟨h1,h2⟩:=h;have:=Zgn z.1 (D.getD (16*t+4*i+j) 0);unfold dSt
 split
 · exact ⟨h1,qO⟩
 · split
   · exact ⟨by dsimp only; omega,by dsimp only; omega⟩
   · exact ⟨by dsimp only; omega,by dsimp only; omega⟩
theorem Zqq (Gl D:List Int) (t i:Nat):∀ (r j:Nat) {z:List Int × Nat × Nat} {B:Nat},DB z B->DB (dFs Gl D t i r j z) (B+r)
 | 0,_,z,B,h=>h
 | r+1,j,z,B,h=>by
  have:=Zqq Gl D t i r (j+1) (dSt_b Gl D t i j h);rw [show B+1+r=B+(r+1) by omega] at this;exact this
theorem ZoD (Gl D C:List Int):∀ (r a:Nat) {z:List Int × Nat × Nat} {B:Nat},DB z B->DB (Zif Gl D C r a z) (B+4*r)
 | 0,_,z,B,h=>h
 | r+1,a,z,B,h=>by
  have:=ZoD Gl D C r (a+1) (Zqq Gl D (oT C a) (oC C a) 4 0 h);rw [show B+4+4*r=B+4*(r+1) by omega] at this;exact this
theorem Zp9 (x d:Nat) (hd:0<d) (hx:x<1000000000):Z00 P .quo 3 (.int .i64 (x:Int)) (.int .i64 (d:Int))=some (.int .i64 (x / d:Nat)):=by
 have h1:((x:Int).tdiv (d:Int))=((x / d:Nat):Int):=by rw [Int.tdiv_eq_ediv_of_nonneg qO]; rfl
 have h2:x / d<=x:=Nat.div_le_self _ _;obtain ⟨y,hy⟩:=jN (x / d);rw [hy] at h1 h2 ⊢;rw [aBinOp_quo _ _ _ qO (by rw [h1]; omega) (by rw [h1]; omega),h1]
theorem de_all (lb mb pb rb ob c cm:Nat) (o:Bool) (s w dv:Value) (n:Nat) (Gl D:List Int) (Q:Nat->Bool) (h0:FH) (df:List Nat) (l:LR h0 cm lb pb s n Gl Q) (hD:SlI h0 cm dv 1 (16*n) D) (sw:SlI h0 cm w 2 (rk Q (4*n)) (crn Q (4*n))) (hcm:cm<=c)
 (n1:ob ≠ mb) (om:256*cm<=ob) (mm:256*cm<=mb) (lr:rb<256*c) (lo:ob<256*c) (lm:mb<256*c) :
 ∀ (r a:Nat) (z:List Int × Nat × Nat),a+r=rk Q (4*n)->DB z (4*a)->Ans (G (ZbI none) [ptrTo lb,dv,ptrTo rb,ptrTo ob,.map (some mb),.int .i64 z.2.2,w,.int .i64 (rk Q (4*n)),.int .i64 a] (dH h0 ob mb (rk Q (4*n)) o z) c df) fun q =>
  q=⟨.exit 0,[ptrTo lb,dv,ptrTo rb,ptrTo ob,.map (some mb),.int .i64 (Zif Gl D (crn Q (4*n)) r a z).2.2,w,.int .i64 (rk Q (4*n)),.int .i64 (rk Q (4*n))],dH h0 ob mb (rk Q (4*n)) o (Zif Gl D (crn Q (4*n)) r a z),c,df⟩:=by
 intro r;have hlb:=l.lb;have ll:lb<256*c:=qO;have od:OkV c dv:=(hD.mono hcm).okV;have om':OkV c (.map (some mb)):=OkV.map lm;have ow:OkV c w:=(sw.mono hcm).okV;have prange:rk Q (4*n)<=240:=by have:=Z9w Q (4*n); have:=l.le; omega
 induction r with
 | zero =>
  intro a z ha hz;obtain rfl:a=rk Q (4*n):=qO;rw [Zif];obtain ⟨R,hR⟩:=jN (rk Q (4*n));rw [hR] at prange ⊢;obtain ⟨S,hS⟩:=jN (dH h0 ob mb R o z);rw [hS];refine Ans.lpG rfl rfl (Z59 ..) ?_;unfold Z4r;have fx:=True.intro;refine Ans.go ?_;clear fx
  (have fx:=ai ll (ai lr (ai lo (ai od (ai om' ow)))); refine Ans.ex0 ?_; clear fx)
  rfl
 | succ r ih =>
  intro a z ha hz;have haK:a<rk Q (4*n):=qO;obtain ⟨x,hx,hQ,hrk⟩:=Z7P Q haK;obtain ⟨eT,eC⟩:=Zl5 (Q:=Q) hQ hx;have cat:=Zh5 Q hQ hx;rw [hrk] at eT eC cat;rw [Zif,eT,eC];obtain ⟨t,ht⟩:=jN (x / 4);obtain ⟨i,hi⟩:=jN (x % 4);rw [ht,hi] at cat ⊢;have htn:t<n:=qO;have hi4:i<4:=qO;obtain ⟨xb,hxb⟩:=jN (256*(c+1)+2);have kl:(a:Int)<rk Q (4*n):=qO;have sm:Z0l cm h0 (dH h0 ob mb (rk Q (4*n)) o z):=fun k hk=>by unfold dH; rw [Z0c,if_neg qO,Z01,if_neg qO]
  have sw0:=sw.same sm;have ix:=sw0.ixs .i64 a qO qO;rw [qE] at ix;have l1:ldN (dH h0 ob mb (rk Q (4*n)) o z) 2 (.pointer (some ⟨Z0p w,Z4a w+a*2,none⟩))=some (av [(t:Int),(i:Int)]):=by
   rw [sw0.rdN 2 _ qO qO,cat]
  have hk:=ih (a+1) (dFs Gl D t i 4 0 z) qO (Zqq Gl D t i 4 0 hz);have sx:Z0l cm h0 (newB h0 xb [.int .i64 (t:Int),.int .i64 (i:Int)]):=fun k hk=>by rw [Z01,if_neg qO]
  have hzb:z.2.1+z.2.2<=4*a:=hz.2;have st:stN (newB (dH h0 ob mb (rk Q (4*n)) o z) xb [.int .i64 0,.int .i64 0]) 2 (.pointer (some ⟨xb,0,none⟩)) (av [(t:Int),(i:Int)])=some (dH (newB h0 xb [.int .i64 (t:Int),.int .i64 (i:Int)]) ob mb (rk Q (4*n)) o z):=by
   rw [stN_all _ _ 2 _ _ rfl rfl];congr 1;apply FH.ext; intro k;unfold dH;rw [Z01,Z0c,Z0c,Z01,Z01,Z01]
   by_cases e1:k=xb
   · subst e1; rw [if_pos rfl,if_neg qO,if_neg qO,if_pos rfl]; rfl
   · rw [if_neg e1,if_neg e1]
  have he:=Ans.eq (Zqm lb mb pb rb ob xb t i (c+1+1+1) cm (rk Q (4*n)) o s w dv (.int .i64 a) n Gl D Q _ df (l.same sx (qG _)) (hD.same sx) (ow.mono qO) (OkV.int _ _ _) qO htn hi4 (Z0d.newB_same _ _ _) n1 qO qO om mm qO qO qO qO 4 0 z qO qO qO);simp only [qC,qF] at he;have up:Z0G c (dH h0 ob mb (rk Q (4*n)) o z) (dH h0 ob mb (rk Q (4*n)) o (dFs Gl D t i 4 0 z)):=Zqp (Z0G.refl _ _) lo lm;have sB:Z0l c (dH h0 ob mb (rk Q (4*n)) o (dFs Gl D t i 4 0 z)) (dH (newB h0 xb [.int .i64 (t:Int),.int .i64 (i:Int)]) ob mb (rk Q (4*n)) o (dFs Gl D t i 4 0 z)):=fun k hk=>by
   unfold dH;rw [Z0c,Z0c,Z01,Z01,Z01,if_neg (show ¬ k=xb by omega)]
  obtain ⟨S,hS⟩:=jN (dH h0 ob mb (rk Q (4*n)) o z);obtain ⟨S1,hS1⟩:=jN (dH (newB h0 xb [.int .i64 (t:Int),.int .i64 (i:Int)]) ob mb (rk Q (4*n)) o z);obtain ⟨S2,hS2⟩:=jN (dH (newB h0 xb [.int .i64 (t:Int),.int .i64 (i:Int)]) ob mb (rk Q (4*n)) o (dFs Gl D t i 4 0 z));obtain ⟨S3,hS3⟩:=jN (dH h0 ob mb (rk Q (4*n)) o (dFs Gl D t i 4 0 z));rw [hS1,hS2] at he;rw [hS1] at st;rw [hS3,hS2] at sB;rw [hS3] at up hk;rw [hS] at l1 st up ⊢;obtain ⟨J,hJ⟩:=jN (z.2.2);rw [hJ] at he ⊢;obtain ⟨Z,hZ⟩:=jN (dFs Gl D t i 4 0 z);rw [hZ] at he hk ⊢;obtain ⟨R,hR⟩:=jN (rk Q (4*n));rw [hR] at he hk kl prange ⊢;refine Ans.lpG rfl rfl (Z59 ..) ?_;unfold Z4r;have fx:=ai kl (ai ix (ai l1 (ai hxb (ai st he))));refine Ans.go ?_;clear fx
  (have fx:=ai ll (ai lr (ai lo (ai od (ai om' (ai ow sB))))); refine Ans.nxB (B:=S3) ?_ ?_; exact (up); clear fx)
  exact hk
def Zdf (K:Nat) (o:Bool) (z:List Int × Nat × Nat):List Value:=[.int .i64 K,.int .i64 (z.2.1+z.2.2 / 2:Nat),.int .i64 z.1.length,.int .i64 ((z.1.length:Int)-(z.2.1+z.2.2 / 2:Nat)+K),.bool (decide (z.2.1=0)),.bool o]
def dZ (n:Nat) (Gl D:List Int) (Q:Nat->Bool):List Int × Nat × Nat:=Zif Gl D (crn Q (4*n)) (rk Q (4*n)) 0 ([],0,0)
theorem Zf8 (lb pb:Nat) (s dv:Value) (n:Nat) (Gl D:List Int) (Q:Nat->Bool) (h:FH) (c:Nat) (df:List Nat) (l:LR h c lb pb s n Gl Q) (hD:SlI h c dv 1 (16*n) D) :
 G (.fn 65) [ptrTo lb,dv] h c df=some ⟨.ret,[.agg (Zdf (rk Q (4*n)) (orB n Gl Q) (dZ n Gl D Q)).toArray],h,c,[]⟩:=by
 refine Z0t (fun r e=>f65_go e) (OkV.agg (by simp [Zdf])) ?_;obtain ⟨w,gw,sw⟩:=l.st;obtain ⟨rb,hrb⟩:=jN (256*c);obtain ⟨ob,hob⟩:=jN (256*(c+1)+8);obtain ⟨mb,hmb⟩:=jN (256*(c+1+1));obtain ⟨z6,hz6⟩:=jN ([Value.int .i64 0,Value.int .i64 0,Value.int .i64 0,Value.int .i64 0,Value.bool false,Value.bool false]);have hlb:=l.lb;obtain ⟨h1,hh1⟩:=jN (newB h rb z6);have s1:Z0l c h h1:=fun k hk=>by rw [← hh1,Z01,if_neg qO]
 have l1:=l.same s1 (qG c);have lw:ld1 h1 (.pointer (some ⟨lb,1,none⟩))=some w:=by rw [Z02 (gw.same hlb s1)]; rfl
 have lq:=sw.len;have co:=Z05 (ZcG lb pb s n Gl Q h1 (c+1+1) [] (l1.same (Z0l.refl _ _) qO));have prange:rk Q (4*n)<=240:=by have:=Z9w Q (4*n); have:=l.le; omega
 have hm:=Ans.eq (de_all lb mb pb rb ob (c+1+1+1+1+1) c (orB n Gl Q) s w dv n Gl D Q h1 [] l1 (hD.same s1) (sw.same s1) qO qO qO qO qO qO qO (rk Q (4*n)) 0 ([],0,0) qO ⟨by simp,by simp⟩);have hb:DB (dZ n Gl D Q) (0+4*rk Q (4*n)):=ZoD Gl D (crn Q (4*n)) (rk Q (4*n)) 0 (z:=([],0,0)) (B:=0) ⟨by simp,by simp⟩;obtain ⟨b1,b2⟩:=hb;rw [show Zif Gl D (crn Q (4*n)) (rk Q (4*n)) 0 ([],0,0)=dZ n Gl D Q from rfl] at hm;simp only [qC,qF] at hm;obtain ⟨z,hz⟩:=jN (dZ n Gl D Q);rw [hz] at hm b1 b2 ⊢;obtain ⟨K,hK⟩:=jN (rk Q (4*n));obtain ⟨O,hO⟩:=jN (orB n Gl Q);rw [hK] at lq hm b2 prange ⊢;rw [hO] at co hm ⊢;have u1:Z1K z6 [(0,1,.int .i64 K),(4,1,.bool true),(5,1,.bool O)]=some (.agg (Zcm K O 0).toArray):=by rw [← hz6]; rfl
 have u2:stN (newB h1 ob z6) 6 (.pointer (some ⟨ob,0,none⟩)) (.agg (Zcm K O 0).toArray)=some (newB h1 ob (Zcm K O 0)):=by
  rw [Z0q _ 6 _ 0 _ _ rfl (by rw [← hz6]; simp) rfl,← hz6]; rfl
 obtain ⟨h2,hh2⟩:=jN (newB h1 ob (Zcm K O 0));rw [hh2] at u2;have u3:HeapC.set h2 mb (.map [])=dH h1 ob mb K O ([],0,0):=by rw [← hh2]; rfl
 obtain ⟨S0,hS0⟩:=jN (dH h1 ob mb K O ([],0,0));obtain ⟨S1,hS1⟩:=jN (dH h1 ob mb K O z);have sS0:Z0l c h1 S0:=fun k hk=>by rw [← hS0]; unfold dH; rw [Z0c,if_neg qO,Z01,if_neg qO]
 have lS0:ld1 S0 (.pointer (some ⟨lb,1,none⟩))=some w:=by rw [Z02 ((gw.same hlb s1).same hlb sS0)]; rfl
 rw [hS0,hS1] at hm;rw [hS0] at u3;have fm:S1.f mb=some (.map (mE z.1)):=by rw [← hS1]; unfold dH; rw [Z0c,if_pos rfl]
 have fo:S1.f ob=some (.cells false none (Zcm K O z.2.1)):=by rw [← hS1]; unfold dH; rw [Z0c,if_neg qO,Z01,if_pos rfl]
 have fr:S1.f rb=some (.cells false none z6):=by rw [← hS1]; unfold dH; rw [Z0c,if_neg qO,Z01,if_neg qO,← hh1,Z01,if_pos rfl]
 have sS1:Z0l c h S1:=fun k hk=>by rw [← hS1]; unfold dH; rw [Z0c,if_neg qO,Z01,if_neg qO]; exact s1 k hk
 have q1:=Zp9 z.2.2 2 qO qO;have a1:ld1 S1 (.pointer (some ⟨ob,1,none⟩))=some (.int .i64 z.2.1):=by rw [Z02 (cs:=Zcm K O z.2.1) ⟨false,none,fo⟩]; rfl
 obtain ⟨A,hA⟩:=jN (z.2.1);obtain ⟨J,hJ⟩:=jN (z.2.2);obtain ⟨M,hM⟩:=jN (z.1.length);obtain ⟨B,hB⟩:=jN (J / 2);have hres:Zdf K O z=[.int .i64 K,.int .i64 (A+B:Nat),.int .i64 M,.int .i64 ((M:Int)-(A+B:Nat)+K),.bool (decide (A=0)),.bool O]:=by
  unfold Zdf; rw [hA,hJ,hM,hB]
 rw [hres];rw [hJ,hB] at q1;rw [hJ] at hm b2;rw [hA] at a1 fo b2;rw [hM] at b1;rw [hA,hJ] at b1;have hBJ:B<=J:=qO;have w1:stN S1 1 (.pointer (some ⟨ob,1,none⟩)) (.int .i64 ((A:Int)+B))=some (HeapC.set S1 ob (.cells false none ((Zcm K O A).set 1 (.int .i64 ((A:Int)+B))))):=Z0L (show HeapC.get S1 ob=_ from fo) (by simp [Zcm]) rfl rfl;obtain ⟨S2,hS2⟩:=jN (HeapC.set S1 ob (.cells false none ((Zcm K O A).set 1 (.int .i64 ((A:Int)+B)))));have f2:S2.f ob=some (.cells false none [.int .i64 K,.int .i64 ((A:Int)+B),.int .i64 0,.int .i64 0,.bool (decide (A=0)),.bool O]):=by rw [← hS2,Z0c,if_pos rfl]; rfl
 rw [hS2] at w1;have m2:ZdZ P S2 146 (.map (some mb))=some (.int .i64 M):=by
  rw [mE_len (L:=z.1) (show S2.f mb=_ by rw [← hS2,Z0c,if_neg qO]; exact fm),hM]
 have w2:stN S2 1 (.pointer (some ⟨ob,2,none⟩)) (.int .i64 M)=some (HeapC.set S2 ob (.cells false none [.int .i64 K,.int .i64 ((A:Int)+B),.int .i64 M,.int .i64 0,.bool (decide (A=0)),.bool O])):=Z0L (show HeapC.get S2 ob=_ from f2) (by simp) rfl rfl;obtain ⟨S3,hS3⟩:=jN (HeapC.set S2 ob (.cells false none [.int .i64 K,.int .i64 ((A:Int)+B),.int .i64 M,.int .i64 0,.bool (decide (A=0)),.bool O]));have f3:S3.f ob=some (.cells false none [.int .i64 K,.int .i64 ((A:Int)+B),.int .i64 M,.int .i64 0,.bool (decide (A=0)),.bool O]):=by rw [← hS3,Z0c,if_pos rfl]
 rw [hS3] at w2;have a2:ld1 S3 (.pointer (some ⟨ob,2,none⟩))=some (.int .i64 M):=by rw [Z02 ⟨false,none,f3⟩]; rfl
 have a3:ld1 S3 (.pointer (some ⟨ob,1,none⟩))=some (.int .i64 ((A:Int)+B)):=by rw [Z02 ⟨false,none,f3⟩]; rfl
 have a4:ld1 S3 (.pointer (some ⟨ob,0,none⟩))=some (.int .i64 K):=by rw [Z02 ⟨false,none,f3⟩]; rfl
 have w3:stN S3 1 (.pointer (some ⟨ob,3,none⟩)) (.int .i64 ((M:Int)-((A:Int)+B)+K))=some (HeapC.set S3 ob (.cells false none [.int .i64 K,.int .i64 ((A:Int)+B),.int .i64 M,.int .i64 ((M:Int)-((A:Int)+B)+K),.bool (decide (A=0)),.bool O])):=Z0L (show HeapC.get S3 ob=_ from f3) (by simp) rfl rfl;obtain ⟨S4,hS4⟩:=jN (HeapC.set S3 ob (.cells false none [.int .i64 K,.int .i64 ((A:Int)+B),.int .i64 M,.int .i64 ((M:Int)-((A:Int)+B)+K),.bool (decide (A=0)),.bool O]));have f4:S4.f ob=some (.cells false none [.int .i64 K,.int .i64 ((A:Int)+B),.int .i64 M,.int .i64 ((M:Int)-((A:Int)+B)+K),.bool (decide (A=0)),.bool O]):=by rw [← hS4,Z0c,if_pos rfl]
 rw [hS4] at w3;obtain ⟨L,hL⟩:=jN ([Value.int .i64 K,.int .i64 ((A:Int)+B),.int .i64 M,.int .i64 ((M:Int)-((A:Int)+B)+K),.bool (decide (A=0)),.bool O]);rw [hL] at f4;have hL6:L.length=6:=by rw [← hL]; rfl
 have hLf:L.all Z08=true:=by rw [← hL]; rfl
 have a5:ldN S4 6 (.pointer (some ⟨ob,0,none⟩))=some (.agg L.toArray):=by
  rw [ldN_holds (cs:=L) ⟨false,none,f4⟩ qO,qM,qH qO]
 have f4r:S4.f rb=some (.cells false none z6):=by rw [← hS4,Z0c,if_neg qO,← hS3,Z0c,if_neg qO,← hS2,Z0c,if_neg qO]; exact fr
 have e4:newB S4 rb z6=S4:=by
  apply FH.ext; intro k;rw [Z01]; split
  · rename_i e; rw [e,f4r]
  · rfl
 have w4:stN S4 6 (.pointer (some ⟨rb,0,none⟩)) (.agg L.toArray)=some (newB S4 rb L):=by
  have hz:z6.length=6:=by rw [← hz6]; rfl
  have:=Z0q S4 6 rb 0 z6 (.agg L.toArray) (by simp [Value.cells,hL6]) qO (by simpa [Value.cells] using hLf);rw [e4] at this;rw [this];simp [Z0Z,Value.cells,hL6,hz,qU (show z6.length<=6 by omega)]
 have a6:ldN (newB S4 rb L) 6 (.pointer (some ⟨rb,0,none⟩))=some (.agg L.toArray):=by
  rw [ldN_newB_same _ _ _ _ _ qO,qM,qH qO]
 have sE:Z0l c h (newB S4 rb L):=fun k hk=>by
  rw [Z01,if_neg qO,← hS4,Z0c,if_neg qO,← hS3,Z0c,if_neg qO,← hS2,Z0c,if_neg qO];exact sS1 k hk
 obtain ⟨S5,hS5⟩:=jN (newB S4 rb L);rw [hS5] at w4 a6 sE;have q2:(J:Int) / 2=(B:Int):=qO;unfold ZjH;simp only [hz6,qW];have fx:=ai hrb (ai hob (ai hmb (ai hh1 (ai lw (ai lq (ai co (ai u1 (ai u2 (ai u3 (ai lS0 (ai hm (ai a1 (ai q1 (ai q2 (ai w1 (ai m2 (ai w2 (ai a2 (ai a3 (ai a4 (ai w3 (ai a5 (ai w4 (ai a6 sameB_self))))))))))))))))))))))));refine Ans.go ?_;clear fx;refine Ans.pure ?_ sE;rw [← hL];push_cast;rfl

theorem Z1N (b n:Nat) (k:IntKind) (i:Int) (h1:0<=i) (h2:i<(n:Int)):ixS 1 (.slice (some ⟨b,0,none⟩) n n) (.int k i)=some (.pointer (some ⟨b,i.toNat,none⟩)):=by
 rw [ixS_sl 1 b 0 n n k i h1 h2,Nat.zero_add,Nat.mul_one]
def eAn (k:Nat):Nat:=(edL.getD (2*k) 0).toNat
def eBn (k:Nat):Nat:=(edL.getD (2*k+1) 0).toNat
theorem eAB {k:Nat} (hk:k<6):edL.getD (2*k) 0=eAn k/\edL.getD (2*k+1) 0=eBn k/\eAn k<4/\eBn k<4/\eAn k<eBn k:=by
 have:k=0 ∨ k=1 ∨ k=2 ∨ k=3 ∨ k=4 ∨ k=5:=qO;rcases this with rfl | rfl | rfl | rfl | rfl | rfl <;> decide
def sSt (E D:List Int) (t k:Nat) (z:List Int × List Bool):List Int × List Bool :=
 (z.1.set (E.getD (6*t+k) 0).toNat (z.1.getD (E.getD (6*t+k) 0).toNat 0+1),
  if D.getD (16*t+4*eAn k+eBn k) 0=D.getD (16*t+4*eBn k+eAn k) 0 then z.2.set (E.getD (6*t+k) 0).toNat true else z.2)
def sKs (E D:List Int) (t:Nat):Nat->Nat->List Int × List Bool->List Int × List Bool
 | 0,_,z=>z
 | r+1,k,z=>sKs E D t r (k+1) (sSt E D t k z)
structure SB (m:Nat) (z:List Int × List Bool) (B:Nat):Prop where
 l1:z.1.length=m
 l2:z.2.length=m
 b:∀ x,0<=z.1.getD x 0/\z.1.getD x 0<=B
theorem SB.st {m:Nat} {z:List Int × List Bool} {B:Nat} (h:SB m z B) (E D:List Int) (t k:Nat):SB m (sSt E D t k z) (B+1):=by
 obtain ⟨h1,h2,h3⟩:=h;refine ⟨by simp [sSt,h1], ?_,fun x=>?_⟩
 · simp only [sSt]; split <;> simp [h2]
 · simp only [sSt,Z0I];have a:=h3 x;have b:=h3 (E.getD (6*t+k) 0).toNat
   split
   · rw [jH]; omega
   · rw [jH]; omega
theorem SB.ks {m:Nat} (E D:List Int) (t:Nat):∀ (r k:Nat) {z:List Int × List Bool} {B:Nat},SB m z B->SB m (sKs E D t r k z) (B+r)
 | 0,_,z,B,h=>h
 | r+1,k,z,B,h=>by
  have:=SB.ks E D t r (k+1) (h.st E D t k);rw [show B+1+r=B+(r+1) by omega] at this;exact this
noncomputable def kH (h0:FH) (gb rb:Nat) (z:List Int × List Bool):FH:=newB (newB h0 gb (ints z.1)) rb (bools z.2)
theorem Ze2 (h0:FH) (gb rb:Nat) (z:List Int × List Bool) (j:Nat):(kH h0 gb rb z).f j=if j=rb then some (.cells false none (bools z.2)) else if j=gb then some (.cells false none (ints z.1)) else h0.f j:=by
 unfold kH;rw [Z01,Z01]
theorem kH_up {c gb rb:Nat} {h0:FH} {z z':List Int × List Bool} (lg:gb<256*c) (lr:rb<256*c):Z0G c (kH h0 gb rb z) (kH h0 gb rb z'):=by
 unfold kH;exact Z0G.both (Z0Q.bools _ _) (Z0G.both (Z0Q.ints _ _) (Z0G.refl _ _) lg) lr
theorem ZoX (pb0 cb vb db eb tb sb gb rb t n m c cm:Nat) (cnt:Int) (D E:List Int) (f0 f1 f2 f5:Value) (h0:FH) (df:List Nat)
 (fs:h0.f sb=some (.cells false none [f0,f1,f2,.slice (some ⟨gb,0,none⟩) m m,.slice (some ⟨rb,0,none⟩) m m,f5])) (fd:h0.f db=some (.cells false none (ints D))) (fe:h0.f eb=some (.cells false none (ints E)))
 (lD:D.length=16*n) (lE:E.length=6*n) (hE:∀ k,k<6->0<=E.getD (6*t+k) 0/\E.getD (6*t+k) 0<m) (ht:t<n) (hn:n<=60)
 (lp:pb0<256*c) (lc:cb<256*c) (lv:vb<256*c) (ld:db<256*c) (le:eb<256*c) (lt:tb<256*c) (ls:sb<256*c) (lg:gb<256*c) (lr:rb<256*c)
 (n1:gb ≠ rb) (n2:sb ≠ gb) (n3:sb ≠ rb) (n4:db ≠ gb) (n5:db ≠ rb) (n6:eb ≠ gb) (n7:eb ≠ rb) (hm:m<=360) :
 ∀ (r k:Nat) (z:List Int × List Bool),k+r=6->SB m z (6*t+k)->Ans (G (Zc7 none) [ptrTo pb0,ptrTo cb,.slice (some ⟨vb,0,none⟩) (4*n) (4*n),.int .i64 cnt,.slice (some ⟨db,0,none⟩) (16*n) (16*n),.slice (some ⟨eb,0,none⟩) (6*n) (6*n),.slice (some ⟨tb,0,none⟩) (4*n) (4*n),ptrTo sb,.int .i64 t,.int .i64 n,.int .i64 t,av edL,.int .i64 k] (kH h0 gb rb z) c df) fun q =>
  q=⟨.exit 2,[ptrTo pb0,ptrTo cb,.slice (some ⟨vb,0,none⟩) (4*n) (4*n),.int .i64 cnt,.slice (some ⟨db,0,none⟩) (16*n) (16*n),.slice (some ⟨eb,0,none⟩) (6*n) (6*n),.slice (some ⟨tb,0,none⟩) (4*n) (4*n),ptrTo sb,.int .i64 t,.int .i64 n,.int .i64 t,av edL,.int .i64 6],kH h0 gb rb (sKs E D t r k z),c,df⟩:=by
 intro r;have o1:OkV c (av edL):=OkV.av _ _
 induction r with
 | zero =>
  intro k z hk hz;obtain rfl:k=6:=qO;obtain ⟨S,hS⟩:=jN (kH h0 gb rb z);rw [sKs,hS];refine Ans.lpG rfl rfl (Z30 ..) ?_;unfold Z3L;have fx:=True.intro;refine Ans.go ?_;clear fx
  (have fx:=ai lp (ai lc (ai lv (ai ld (ai le (ai lt (ai ls (ai lg (ai lr o1)))))))); refine Ans.ex0 ?_; clear fx)
  rfl
 | succ r ih =>
  intro k z hk hz;have hk6:k<6:=qO;have kl:(k:Int)<6:=qO;obtain ⟨ea,eb',a4,b4,-⟩:=eAB hk6;have x1:=Z2p edL 6 2 .i64 (k:Int) qO qO rfl;rw [qE,Zk9 hk6,ea,eb'] at x1;have hk':=ih (k+1) (sSt E D t k z) qO (hz.st E D t k);rw [sKs];obtain ⟨a,hA⟩:=jN (eAn k);obtain ⟨b,hB⟩:=jN (eBn k);rw [hA] at x1 a4;rw [hB] at x1 b4;obtain ⟨e0,e1⟩:=hE k hk6;obtain ⟨cl,hcl⟩:∃ cl:Nat,E.getD (6*t+k) 0=cl:=⟨(E.getD (6*t+k) 0).toNat,qO⟩;have hst':sSt E D t k z=(z.1.set cl (z.1.getD cl 0+1),if D.getD (16*t+4*a+b) 0=D.getD (16*t+4*b+a) 0 then z.2.set cl true else z.2):=by
   unfold sSt;rw [hcl,hA,hB,qE]
  rw [hst'] at hk' ⊢;have hclm:cl<m:=qO;obtain ⟨w,hw⟩:=jN (z.1.getD cl 0);have hwb:=hz.b cl;rw [hw] at hk' hwb ⊢;have l1:=hz.l1;have l2:=hz.l2;obtain ⟨pb,hpb⟩:=jN (256*(c+1)+2);obtain ⟨S,hS⟩:=jN (kH h0 gb rb z);have Sf:∀ j,S.f j=if j=rb then some (.cells false none (bools z.2)) else if j=gb then some (.cells false none (ints z.1)) else h0.f j:=fun j=>by rw [← hS]; exact Ze2 h0 gb rb z j
  have st:stN (newB S pb [.int .i64 0,.int .i64 0]) 2 (.pointer (some ⟨pb,0,none⟩)) (av [(a:Int),(b:Int)])=some (newB S pb [.int .i64 a,.int .i64 b]):=stN_all _ _ 2 _ _ rfl rfl;obtain ⟨H1,hH1⟩:=jN (newB S pb [.int .i64 (a:Int),.int .i64 (b:Int)]);have H1f:∀ j,H1.f j=if j=pb then some (.cells false none [.int .i64 (a:Int),.int .i64 (b:Int)]) else S.f j:=fun j=>by rw [← hH1,Z01]
  rw [hH1] at st;have r1:ld1 H1 (.pointer (some ⟨eb,6*t+k,none⟩))=some (.int .i64 cl):=by
   rw [Z02 (cs:=ints E) ⟨false,none,by show H1.f eb=_; rw [H1f,if_neg qO,Sf,if_neg n7,if_neg n6]; exact fe⟩,ints_getD _ _ qO,hcl]
  have r2:ld1 H1 (.pointer (some ⟨sb,3,none⟩))=some (.slice (some ⟨gb,0,none⟩) m m):=by
   rw [Z02 ⟨false,none,by show H1.f sb=_; rw [H1f,if_neg qO,Sf,if_neg n3,if_neg n2]; exact fs⟩]; rfl
  have g1:HeapC.get H1 gb=some (.cells false none (ints z.1)):=by show H1.f gb=_; rw [H1f,if_neg qO,Sf,if_neg n1,if_pos rfl]
  have r3:ld1 H1 (.pointer (some ⟨gb,cl,none⟩))=some (.int .i64 w):=by
   rw [Z02 (cs:=ints z.1) ⟨false,none,g1⟩,ints_getD _ _ qO,hw]
  have w1:stN H1 1 (.pointer (some ⟨gb,cl,none⟩)) (.int .i64 (w+1))=some (HeapC.set H1 gb (.cells false none (ints (z.1.set cl (w+1))))):=by
   rw [Z0L g1 (by simp; omega) rfl rfl,Z1r]
  obtain ⟨H3,hH3⟩:=jN (HeapC.set H1 gb (.cells false none (ints (z.1.set cl (w+1)))));have H3f:∀ j,H3.f j=if j=gb then some (.cells false none (ints (z.1.set cl (w+1)))) else H1.f j:=fun j=>by rw [← hH3,Z0c]
  rw [hH3] at w1;have gp:Z0d H3 pb [.int .i64 (a:Int),.int .i64 (b:Int)]:=⟨false,none,by show H3.f pb=_; rw [H3f,if_neg qO,H1f,if_pos rfl]⟩;have p0:ld1 H3 (.pointer (some ⟨pb,0,none⟩))=some (.int .i64 a):=by rw [Z02 gp]; rfl
  have p1:ld1 H3 (.pointer (some ⟨pb,1,none⟩))=some (.int .i64 b):=by rw [Z02 gp]; rfl
  have gd:Z0d H3 db (ints D):=⟨false,none,by show H3.f db=_; rw [H3f,if_neg n4,H1f,if_neg qO,Sf,if_neg n5,if_neg n4]; exact fd⟩;have r4:ld1 H3 (.pointer (some ⟨db,16*t+4*a+b,none⟩))=some (.int .i64 (D.getD (16*t+4*a+b) 0)):=by rw [Z02 gd,ints_getD _ _ qO]
  have r5:ld1 H3 (.pointer (some ⟨db,16*t+4*b+a,none⟩))=some (.int .i64 (D.getD (16*t+4*b+a) 0)):=by rw [Z02 gd,ints_getD _ _ qO]
  have r6:ld1 H3 (.pointer (some ⟨sb,4,none⟩))=some (.slice (some ⟨rb,0,none⟩) m m):=by
   rw [Z02 ⟨false,none,by show H3.f sb=_; rw [H3f,if_neg n2,H1f,if_neg qO,Sf,if_neg n3,if_neg n2]; exact fs⟩]; rfl
  have g3:HeapC.get H3 rb=some (.cells false none (bools z.2)):=by show H3.f rb=_; rw [H3f,if_neg (Ne.symm n1),H1f,if_neg qO,Sf,if_pos rfl]
  have w2:stN H3 1 (.pointer (some ⟨rb,cl,none⟩)) (.bool true)=some (HeapC.set H3 rb (.cells false none (bools (z.2.set cl true)))):=by
   rw [Z0L g3 (by simp [Z5P]; omega) rfl rfl,Zax]
  have i1:ixS 1 (.slice (some ⟨eb,0,none⟩) (6*n) (6*n)) (.int .i64 (6*(t:Int)+k))=some (.pointer (some ⟨eb,6*t+k,none⟩)):=by
   have:=Z1N eb (6*n) .i64 (6*(t:Int)+k) qO qO;rwa [show (6*(t:Int)+k).toNat=6*t+k by omega] at this
  have i2:ixS 1 (.slice (some ⟨gb,0,none⟩) m m) (.int .i64 (cl:Int))=some (.pointer (some ⟨gb,cl,none⟩)):=by
   have:=Z1N gb m .i64 (cl:Int) qO qO;rwa [qE] at this
  have i3:ixS 1 (.slice (some ⟨db,0,none⟩) (16*n) (16*n)) (.int .i64 (16*(t:Int)+4*a+b))=some (.pointer (some ⟨db,16*t+4*a+b,none⟩)):=by
   have:=Z1N db (16*n) .i64 (16*(t:Int)+4*a+b) qO qO;rwa [show (16*(t:Int)+4*a+b).toNat=16*t+4*a+b by omega] at this
  have i4:ixS 1 (.slice (some ⟨db,0,none⟩) (16*n) (16*n)) (.int .i64 (16*(t:Int)+4*b+a))=some (.pointer (some ⟨db,16*t+4*b+a,none⟩)):=by
   have:=Z1N db (16*n) .i64 (16*(t:Int)+4*b+a) qO qO;rwa [show (16*(t:Int)+4*b+a).toNat=16*t+4*b+a by omega] at this
  have i5:ixS 1 (.slice (some ⟨rb,0,none⟩) m m) (.int .i64 (cl:Int))=some (.pointer (some ⟨rb,cl,none⟩)):=by
   have:=Z1N rb m .i64 (cl:Int) qO qO;rwa [qE] at this
  obtain ⟨X,hX⟩:=jN (D.getD (16*t+4*a+b) 0);obtain ⟨Y,hY⟩:=jN (D.getD (16*t+4*b+a) 0);rw [hX] at r4 hk' ⊢;rw [hY] at r5 hk' ⊢;obtain ⟨ZE,hZE⟩:=jN (Value.slice (some ⟨eb,0,none⟩) (6*n) (6*n));obtain ⟨ZD,hZD⟩:=jN (Value.slice (some ⟨db,0,none⟩) (16*n) (16*n));have oe:OkV c ZE:=by rw [← hZE]; exact OkV.sl le
  have od:OkV c ZD:=by rw [← hZD]; exact OkV.sl ld
  rw [hZE] at i1 hk' ⊢;rw [hZD] at i3 i4 hk' ⊢;have hS':kH h0 gb rb z=S:=hS;have tn:t<60:=qO
  by_cases hXY:X=Y
  · rw [if_pos hXY] at hk' ⊢;obtain ⟨H5,hH5⟩:=jN (HeapC.set H3 rb (.cells false none (bools (z.2.set cl true))));rw [hH5] at w2;have up:Z0G c (kH h0 gb rb z) (kH h0 gb rb (z.1.set cl (w+1),z.2.set cl true)):=kH_up lg lr;have sB:Z0l c (kH h0 gb rb (z.1.set cl (w+1),z.2.set cl true)) H5:=fun j hj=>by
     rw [Ze2]
     by_cases e1:j=rb
     · rw [if_pos e1,← hH5,Z0c,if_pos e1]
     · by_cases e2:j=gb
       · rw [if_neg e1,if_pos e2,← hH5,Z0c,if_neg e1,H3f,if_pos e2]
       · rw [if_neg e1,if_neg e2,← hH5,Z0c,if_neg e1,H3f,if_neg e2,H1f,if_neg qO,Sf,if_neg e1,if_neg e2]
    obtain ⟨S2,hS2⟩:=jN (kH h0 gb rb (z.1.set cl (w+1),z.2.set cl true));rw [hS2] at hk' up sB;rw [hS'] at up ⊢;rw [hXY] at r4;refine Ans.lpG rfl rfl (Z30 ..) ?_;unfold Z3L;have fx:=ai x1 (ai hpb (ai st (ai i1 (ai r1 (ai r2 (ai i2 (ai r3 (ai w1 (ai p0 (ai p1 (ai i3 (ai r4 (ai i4 (ai r5 (ai r6 (ai i5 w2))))))))))))))));refine Ans.go ?_;clear fx
    (have fx:=ai lp (ai lc (ai lv (ai ld (ai le (ai lt (ai ls (ai lg (ai lr (ai o1 (ai oe (ai od sB))))))))))); refine Ans.nxB (B:=S2) ?_ ?_; exact (up); clear fx)
    exact hk'
  · rw [if_neg hXY] at hk' ⊢;have up:Z0G c (kH h0 gb rb z) (kH h0 gb rb (z.1.set cl (w+1),z.2)):=kH_up lg lr;have sB:Z0l c (kH h0 gb rb (z.1.set cl (w+1),z.2)) H3:=fun j hj=>by
     rw [Ze2]
     by_cases e1:j=rb
     · rw [if_pos e1,H3f,if_neg qO,H1f,if_neg qO,Sf,if_pos e1]
     · by_cases e2:j=gb
       · rw [if_neg e1,if_pos e2,H3f,if_pos e2]
       · rw [if_neg e1,if_neg e2,H3f,if_neg e2,H1f,if_neg qO,Sf,if_neg e1,if_neg e2]
    obtain ⟨S2,hS2⟩:=jN (kH h0 gb rb (z.1.set cl (w+1),z.2));rw [hS2] at hk' up sB;rw [hS'] at up ⊢;refine Ans.lpG rfl rfl (Z30 ..) ?_;unfold Z3L;have fx:=ai x1 (ai hpb (ai st (ai i1 (ai r1 (ai r2 (ai i2 (ai r3 (ai w1 (ai p0 (ai p1 (ai i3 (ai r4 (ai i4 (ai r5 hXY))))))))))))));refine Ans.go ?_;clear fx
    (have fx:=ai lp (ai lc (ai lv (ai ld (ai le (ai lt (ai ls (ai lg (ai lr (ai o1 (ai oe (ai od sB))))))))))); refine Ans.nxB (B:=S2) ?_ ?_; exact (up); clear fx)
    exact hk'

theorem Z9e (zs:List Value) (X:List Int) (n:Nat) (hz:zs.length=n) (hX:X.length=n):Z9D zs [(0,n,av X)]=some (ints X):=by
 have h1:Nat.beq (av X).cells.size n=true:=by rw [Zkk,hX]; exact Nat.beq_refl n
 have h2:Nat.ble n zs.length=true:=qK qO;simp only [Z9D,h1,h2,qV,Nat.zero_add,cond_true,Z6b,Z0Z,List.take_zero,List.nil_append,ints_length,hX];rw [qU qO,qL]
theorem arr41 (b o cap:Nat):Z5x P 41 (.slice (some ⟨b,o,none⟩) 4 cap)=some (.pointer (some ⟨b,o,none⟩)):=by kernel_rfl
theorem arr64 (b o cap:Nat):Z5x P 64 (.slice (some ⟨b,o,none⟩) 6 cap)=some (.pointer (some ⟨b,o,none⟩)):=by kernel_rfl
theorem Zdk (L:List Int) (q t:Nat):L.take (q*(t+1))=L.take (q*t)++(L.drop (q*t)).take q:=by
 rw [Nat.mul_succ,List.take_add]
structure SkI (c0 c sb gb rb m t:Nat) (h0 h:FH) (vv ev tv f5:Value) (V E T:List Int) (z:List Int × List Bool):Prop where
 fs:h.f sb=some (.cells false none [vv,ev,tv,.slice (some ⟨gb,0,none⟩) m m,.slice (some ⟨rb,0,none⟩) m m,f5])
 gv:GrC c0 h c vv 4 t (ints (V.take (4*t)))
 ge:GrC c0 h c ev 6 t (ints (E.take (6*t)))
 gt:GrC c0 h c tv 4 t (ints (T.take (4*t)))
 d1:vv ≠ .slice none 0 0->ev ≠ .slice none 0 0->Z0p vv ≠ Z0p ev
 d2:vv ≠ .slice none 0 0->tv ≠ .slice none 0 0->Z0p vv ≠ Z0p tv
 d3:ev ≠ .slice none 0 0->tv ≠ .slice none 0 0->Z0p ev ≠ Z0p tv
 fg:h.f gb=some (.cells false none (ints z.1))
 fr:h.f rb=some (.cells false none (bools z.2))
 base:∀ j,j<256*c0->j ≠ sb->j ≠ gb->j ≠ rb->h.f j=h0.f j
theorem SkI.mono {c0 c c' sb gb rb m t:Nat} {h0 h:FH} {vv ev tv f5:Value} {V E T:List Int} {z:List Int × List Bool} (a:SkI c0 c sb gb rb m t h0 h vv ev tv f5 V E T z) (hc:c<=c'):SkI c0 c' sb gb rb m t h0 h vv ev tv f5 V E T z :=
 ⟨a.fs,a.gv.mono hc,a.ge.mono hc,a.gt.mono hc,a.d1,a.d2,a.d3,a.fg,a.fr,a.base⟩
theorem SkI.marks {c0 c sb gb rb m t:Nat} {h0 h:FH} {vv ev tv f5:Value} {V E T:List Int} {z z':List Int × List Bool} (a:SkI c0 c sb gb rb m t h0 h vv ev tv f5 V E T z) (n1:gb ≠ rb) (n2:sb ≠ gb) (n3:sb ≠ rb) (lg:gb<256*c0) (lr:rb<256*c0):SkI c0 c sb gb rb m t h0 (kH h gb rb z') vv ev tv f5 V E T z':=by
 refine ⟨?_,a.gv.keep fun hv=>?_,a.ge.keep fun hv=>?_,a.gt.keep fun hv=>?_,a.d1,a.d2,a.d3, ?_, ?_,fun j hj h1 h2 h3=>?_⟩
 · rw [Ze2,if_neg n3,if_neg n2]; exact a.fs
 · have:=(a.gv.blk hv).1; rw [Ze2,if_neg qO,if_neg qO]
 · have:=(a.ge.blk hv).1; rw [Ze2,if_neg qO,if_neg qO]
 · have:=(a.gt.blk hv).1; rw [Ze2,if_neg qO,if_neg qO]
 · rw [Ze2,if_neg n1,if_pos rfl]
 · rw [Ze2,if_pos rfl]
 · rw [Ze2,if_neg h3,if_neg h2]; exact a.base j hj h1 h2 h3
theorem SkI.step {c0 c sb gb rb m t n:Nat} {h0 h:FH} {vv ev tv f5:Value} {V E T:List Int} {z:List Int × List Bool} (a:SkI c0 c sb gb rb m t h0 h vv ev tv f5 V E T z) (hV:V.length=4*n) (hE:E.length=6*n) (hT:T.length=4*n) (ht:t<n) (hn:n<=60) (hc0:c0<=c)
 (n2:sb ≠ gb) (n3:sb ≠ rb) (ls:sb<256*c0) (lg:gb<256*c0) (lr:rb<256*c0) (b1 i1 b2 i2 b3 i3:Nat) (hb1:b1=256*(c+1+1)+11) (hi1:i1=256*(c+1+1)+12) (hb2:b2=256*(c+1+1+1)+11) (hi2:i2=256*(c+1+1+1)+12) (hb3:b3=256*(c+1+1+1+1)+11) (hi3:i3=256*(c+1+1+1+1)+12) :
 ∃ h1 h2 h3 h4 h5 h6,ld1 h (.pointer (some ⟨sb,0,none⟩))=some vv/\Z5D (newB h b1 (ints ((V.drop (4*t)).take 4))) i1 4 32 vv (.slice (some ⟨b1,0,none⟩) 1 1)=some (.slice (some ⟨i1,0,none⟩) (t+1) (t+1),h1)/\stN h1 1 (.pointer (some ⟨sb,0,none⟩)) (.slice (some ⟨i1,0,none⟩) (t+1) (t+1))=some h2 ∧
  ld1 h2 (.pointer (some ⟨sb,1,none⟩))=some ev/\Z5D (newB h2 b2 (ints ((E.drop (6*t)).take 6))) i2 6 48 ev (.slice (some ⟨b2,0,none⟩) 1 1)=some (.slice (some ⟨i2,0,none⟩) (t+1) (t+1),h3)/\stN h3 1 (.pointer (some ⟨sb,1,none⟩)) (.slice (some ⟨i2,0,none⟩) (t+1) (t+1))=some h4 ∧
  ld1 h4 (.pointer (some ⟨sb,2,none⟩))=some tv/\Z5D (newB h4 b3 (ints ((T.drop (4*t)).take 4))) i3 4 32 tv (.slice (some ⟨b3,0,none⟩) 1 1)=some (.slice (some ⟨i3,0,none⟩) (t+1) (t+1),h5)/\stN h5 1 (.pointer (some ⟨sb,2,none⟩)) (.slice (some ⟨i3,0,none⟩) (t+1) (t+1))=some h6 ∧
  (∀ j,j<256*c0->j ≠ sb->h2.f j=h.f j)/\(∀ j,j<256*c0->j ≠ sb->h4.f j=h.f j)/\(∀ j,j<256*c0->j ≠ sb->h6.f j=h.f j) ∧
  SkI c0 (c+1+1+1+1+1) sb gb rb m (t+1) h0 h6 (.slice (some ⟨i1,0,none⟩) (t+1) (t+1)) (.slice (some ⟨i2,0,none⟩) (t+1) (t+1)) (.slice (some ⟨i3,0,none⟩) (t+1) (t+1)) f5 V E T z:=by
 have lX:((V.drop (4*t)).take 4).length=4:=by rw [qT,qS]; omega
 have lY:((E.drop (6*t)).take 6).length=6:=by rw [qT,qS]; omega
 have lZ:((T.drop (4*t)).take 4).length=4:=by rw [qT,qS]; omega
 have bv:vv ≠ .slice none 0 0->256*c0<=Z0p vv/\Z0p vv<256*c:=a.gv.blk;have be:ev ≠ .slice none 0 0->256*c0<=Z0p ev/\Z0p ev<256*c:=a.ge.blk;have bt:tv ≠ .slice none 0 0->256*c0<=Z0p tv/\Z0p tv<256*c:=a.gt.blk;obtain ⟨h1,h2,p1,p2,p3,p4,p5,p6⟩:=a.gv.step (c':=c+1+1+1) (o:=0) a.fs rfl ls (ints ((V.drop (4*t)).take 4)) (by rw [ints_length,lX]) (Z18 _) qO 32 b1 i1 qO qO qO qO qO qO;have ge1:GrC c0 h2 (c+1+1+1) ev 6 t (ints (E.take (6*t))):=(a.ge.keep fun hv=>p6 _ (be hv).2 (by have:=(be hv).1; omega) fun hw=>Ne.symm (a.d1 hw hv)).mono qO;have gt1:GrC c0 h2 (c+1+1+1) tv 4 t (ints (T.take (4*t))):=(a.gt.keep fun hv=>p6 _ (bt hv).2 (by have:=(bt hv).1; omega) fun hw=>Ne.symm (a.d2 hw hv)).mono qO;obtain ⟨h3,h4,q1,q2,q3,q4,q5,q6⟩:=ge1.step (c':=c+1+1+1+1) (o:=1) p4 rfl ls (ints ((E.drop (6*t)).take 6)) (by rw [ints_length,lY]) (Z18 _) qO 48 b2 i2 qO qO qO qO qO qO;have gt2:GrC c0 h4 (c+1+1+1+1) tv 4 t (ints (T.take (4*t))):=(gt1.keep fun hv=>q6 _ (by have:=(bt hv).2; omega) (by have:=(bt hv).1; omega) fun hw=>Ne.symm (a.d3 hw hv)).mono qO;have gv2:GrC c0 h4 (c+1+1+1+1) (.slice (some ⟨i1,0,none⟩) (t+1) (t+1)) 4 (t+1) (ints (V.take (4*t))++ints ((V.drop (4*t)).take 4)):=(p5.keep fun hv=>q6 _ (by rw [blkOf_sl]; omega) (by rw [blkOf_sl]; omega) fun hw=>by have:=(be hw).2; rw [blkOf_sl]; omega).mono qO;obtain ⟨h5,h6,r1,r2,r3,r4,r5,r6⟩:=gt2.step (c':=c+1+1+1+1+1) (o:=2) q4 rfl ls (ints ((T.drop (4*t)).take 4)) (by rw [ints_length,lZ]) (Z18 _) qO 32 b3 i3 qO qO qO qO qO qO;have gv3:GrC c0 h6 (c+1+1+1+1+1) (.slice (some ⟨i1,0,none⟩) (t+1) (t+1)) 4 (t+1) (ints (V.take (4*t))++ints ((V.drop (4*t)).take 4)):=(gv2.keep fun hv=>r6 _ (by rw [blkOf_sl]; omega) (by rw [blkOf_sl]; omega) fun hw=>by have:=(bt hw).2; rw [blkOf_sl]; omega).mono qO;have ge3:GrC c0 h6 (c+1+1+1+1+1) (.slice (some ⟨i2,0,none⟩) (t+1) (t+1)) 6 (t+1) (ints (E.take (6*t))++ints ((E.drop (6*t)).take 6)):=(q5.keep fun hv=>r6 _ (by rw [blkOf_sl]; omega) (by rw [blkOf_sl]; omega) fun hw=>by have:=(bt hw).2; rw [blkOf_sl]; omega).mono qO;have K2:∀ j,j<256*c0->j ≠ sb->h2.f j=h.f j:=fun j hj h1'=>p6 j qO h1' fun hv=>by have:=(bv hv).1; omega
 have K4:∀ j,j<256*c0->j ≠ sb->h4.f j=h.f j:=fun j hj h1'=>(q6 j qO h1' fun hv=>by have:=(be hv).1; omega).trans (K2 j hj h1')
 have K6:∀ j,j<256*c0->j ≠ sb->h6.f j=h.f j:=fun j hj h1'=>(r6 j qO h1' fun hv=>by have:=(bt hv).1; omega).trans (K4 j hj h1')
 rw [Z4W,← Zdk] at gv3 ge3 r5;refine ⟨h1,h2,h3,h4,h5,h6,p1,p2,p3,q1,q2,q3,r1,r2,r3,K2,K4,K6,⟨r4,gv3,ge3,r5,(fun _ _=>by rw [blkOf_sl,blkOf_sl]; omega),(fun _ _=>by rw [blkOf_sl,blkOf_sl]; omega),(fun _ _=>by rw [blkOf_sl,blkOf_sl]; omega), ?_, ?_,fun j hj h1' h2' h3'=>?_⟩⟩
 · rw [K6 gb lg (Ne.symm n2)]; exact a.fg
 · rw [K6 rb lr (Ne.symm n3)]; exact a.fr
 · rw [K6 j hj h1']; exact a.base j hj h1' h2' h3'
def sTs (E D:List Int):Nat->Nat->List Int × List Bool->List Int × List Bool
 | 0,_,z=>z
 | r+1,t,z=>sTs E D r (t+1) (sKs E D t 6 0 z)
theorem SB.ts {m:Nat} (E D:List Int):∀ (r t:Nat) {z:List Int × List Bool} {B:Nat},SB m z B->SB m (sTs E D r t z) (B+6*r)
 | 0,_,z,B,h=>h
 | r+1,t,z,B,h=>by
  have:=SB.ts E D r (t+1) (SB.ks E D t 6 0 h);rw [show B+6+6*r=B+6*(r+1) by omega] at this;exact this
theorem ZoW (pb0 cb vb db eb tb sb gb rb n m c0:Nat) (cnt:Int) (V D E T:List Int) (f5:Value) (h0:FH) (df:List Nat)
 (fv:h0.f vb=some (.cells false none (ints V))) (fd:h0.f db=some (.cells false none (ints D))) (fe:h0.f eb=some (.cells false none (ints E))) (ft:h0.f tb=some (.cells false none (ints T)))
 (lV:V.length=4*n) (lD:D.length=16*n) (lE:E.length=6*n) (lT:T.length=4*n) (hE:∀ k,k<6*n->0<=E.getD k 0/\E.getD k 0<m) (hn:n<=60) (hm:m<=360)
 (lp:pb0<256*c0) (lc:cb<256*c0) (lv:vb<256*c0) (ld:db<256*c0) (le:eb<256*c0) (lt:tb<256*c0) (ls:sb<256*c0) (lg:gb<256*c0) (lr:rb<256*c0)
 (n1:gb ≠ rb) (n2:sb ≠ gb) (n3:sb ≠ rb) (ov:vb ≠ sb/\vb ≠ gb/\vb ≠ rb) (od:db ≠ sb/\db ≠ gb/\db ≠ rb) (oe:eb ≠ sb/\eb ≠ gb/\eb ≠ rb) (ot:tb ≠ sb/\tb ≠ gb/\tb ≠ rb) :
 ∀ (r t c:Nat) (H:FH) (vv ev tv:Value) (z:List Int × List Bool),t+r=n->c0<=c->SkI c0 c sb gb rb m t h0 H vv ev tv f5 V E T z->SB m z (6*t)->Ans (G (Zc8 none) [ptrTo pb0,ptrTo cb,.slice (some ⟨vb,0,none⟩) (4*n) (4*n),.int .i64 cnt,.slice (some ⟨db,0,none⟩) (16*n) (16*n),.slice (some ⟨eb,0,none⟩) (6*n) (6*n),.slice (some ⟨tb,0,none⟩) (4*n) (4*n),ptrTo sb,.int .i64 n,.int .i64 t] H c df) fun q =>
  q.e = .exit 0/\q.vs=[ptrTo pb0,ptrTo cb,.slice (some ⟨vb,0,none⟩) (4*n) (4*n),.int .i64 cnt,.slice (some ⟨db,0,none⟩) (16*n) (16*n),.slice (some ⟨eb,0,none⟩) (6*n) (6*n),.slice (some ⟨tb,0,none⟩) (4*n) (4*n),ptrTo sb,.int .i64 n,.int .i64 n]/\q.df=df/\c<=q.c ∧
  ∃ vv ev tv,SkI c0 q.c sb gb rb m n h0 q.h vv ev tv f5 V E T (sTs E D r t z):=by
 intro r
 induction r with
 | zero =>
  intro t c H vv ev tv z ht hc a hz;obtain rfl:t=n:=qO;refine Ans.lpN rfl rfl (Z5n ..) ?_;unfold Z4G;have fx:=True.intro;refine Ans.go ?_;clear fx;exact Ans.exitN ⟨rfl,rfl,rfl,by dsimp only; omega,vv,ev,tv,a.mono (by dsimp only; omega)⟩
 | succ r ih =>
  intro t c H vv ev tv z ht hc a hz;have htn:t<n:=qO;obtain ⟨b1,hb1⟩:=jN (256*(c+1+1)+11);obtain ⟨i1,hi1⟩:=jN (256*(c+1+1)+12);obtain ⟨b2,hb2⟩:=jN (256*(c+1+1+1)+11);obtain ⟨i2,hi2⟩:=jN (256*(c+1+1+1)+12);obtain ⟨b3,hb3⟩:=jN (256*(c+1+1+1+1)+11);obtain ⟨i3,hi3⟩:=jN (256*(c+1+1+1+1)+12);obtain ⟨h1,h2,h3,h4,h5,h6,p1,p2,p3,q1,q2,q3,r1,r2,r3,K2,K4,K6,a'⟩:=a.step lV lE lT htn hn hc n2 n3 ls lg lr b1 i1 b2 i2 b3 i3 hb1.symm hi1.symm hb2.symm hi2.symm hb3.symm hi3.symm;have gv:H.f vb=some (.cells false none (ints V)):=(a.base vb lv ov.1 ov.2.1 ov.2.2).trans fv;have ge:h2.f eb=some (.cells false none (ints E)):=(K2 eb le oe.1).trans ((a.base eb le oe.1 oe.2.1 oe.2.2).trans fe);have gt:h4.f tb=some (.cells false none (ints T)):=(K4 tb lt ot.1).trans ((a.base tb lt ot.1 ot.2.1 ot.2.2).trans ft);have gd6:h6.f db=some (.cells false none (ints D)):=(K6 db ld od.1).trans ((a.base db ld od.1 od.2.1 od.2.2).trans fd);have ge6:h6.f eb=some (.cells false none (ints E)):=(K6 eb le oe.1).trans ((a.base eb le oe.1 oe.2.1 oe.2.2).trans fe);have s1:slS H 1 (.slice (some ⟨vb,0,none⟩) (4*n) (4*n)) (some (.int .i64 (4*(t:Int)))) (some (.int .i64 (4*(t:Int)+4))) none=some (.slice (some ⟨vb,4*t,none⟩) 4 (4*n-4*t)):=by
   have:=Ze6 gv .i64 .i64 (m:=4*n) (4*t) (4*t+4) qO qO;rwa [show ((4*t:Nat):Int)=4*(t:Int) by omega,show ((4*t+4:Nat):Int)=4*(t:Int)+4 by omega,show 4*t+4-4*t=4 by omega] at this
  have s2:slS h2 1 (.slice (some ⟨eb,0,none⟩) (6*n) (6*n)) (some (.int .i64 (6*(t:Int)))) (some (.int .i64 (6*(t:Int)+6))) none=some (.slice (some ⟨eb,6*t,none⟩) 6 (6*n-6*t)):=by
   have:=Ze6 ge .i64 .i64 (m:=6*n) (6*t) (6*t+6) qO qO;rwa [show ((6*t:Nat):Int)=6*(t:Int) by omega,show ((6*t+6:Nat):Int)=6*(t:Int)+6 by omega,show 6*t+6-6*t=6 by omega] at this
  have s3:slS h4 1 (.slice (some ⟨tb,0,none⟩) (4*n) (4*n)) (some (.int .i64 (4*(t:Int)))) (some (.int .i64 (4*(t:Int)+4))) none=some (.slice (some ⟨tb,4*t,none⟩) 4 (4*n-4*t)):=by
   have:=Ze6 gt .i64 .i64 (m:=4*n) (4*t) (4*t+4) qO qO;rwa [show ((4*t:Nat):Int)=4*(t:Int) by omega,show ((4*t+4:Nat):Int)=4*(t:Int)+4 by omega,show 4*t+4-4*t=4 by omega] at this
  have x1:ldN H 4 (.pointer (some ⟨vb,4*t,none⟩))=some (av ((V.drop (4*t)).take 4)):=by
   rw [ldN_holds (cs:=ints V) ⟨false,none,gv⟩ (by rw [ints_length]; omega),av,Z1G,Z1e]
  have x2:ldN h2 6 (.pointer (some ⟨eb,6*t,none⟩))=some (av ((E.drop (6*t)).take 6)):=by
   rw [ldN_holds (cs:=ints E) ⟨false,none,ge⟩ (by rw [ints_length]; omega),av,Z1G,Z1e]
  have x3:ldN h4 4 (.pointer (some ⟨tb,4*t,none⟩))=some (av ((T.drop (4*t)).take 4)):=by
   rw [ldN_holds (cs:=ints T) ⟨false,none,gt⟩ (by rw [ints_length]; omega),av,Z1G,Z1e]
  have y1:=Z9e [.int .i64 0,.int .i64 0,.int .i64 0,.int .i64 0] ((V.drop (4*t)).take 4) 4 rfl (by rw [qT,qS]; omega);have y2:=Z9e [.int .i64 0,.int .i64 0,.int .i64 0,.int .i64 0,.int .i64 0,.int .i64 0] ((E.drop (6*t)).take 6) 6 rfl (by rw [qT,qS]; omega);have y3:=Z9e [.int .i64 0,.int .i64 0,.int .i64 0,.int .i64 0] ((T.drop (4*t)).take 4) 4 rfl (by rw [qT,qS]; omega);have cp:=fun h c=>Z6z h c
  have he:=Ans.eq (ZoX pb0 cb vb db eb tb sb gb rb t n m (c+1+1+1+1+1+1) c0 cnt D E _ _ _ f5 h6 df a'.fs gd6 ge6 lD lE (fun k hk=>hE (6*t+k) qO) htn hn qO qO qO qO qO qO qO qO qO n1 n2 n3 od.2.1 od.2.2 oe.2.1 oe.2.2 hm 6 0 z qO hz);have self:kH h6 gb rb z=h6:=by
   apply FH.ext; intro j;rw [Ze2]
   by_cases e1:j=rb
   · rw [if_pos e1,e1]; exact a'.fr.symm
   · rw [if_neg e1]
     by_cases e2:j=gb
     · rw [if_pos e2,e2]; exact a'.fg.symm
     · rw [if_neg e2]
  rw [self] at he;simp only [qC,qF] at he;have am:=a'.marks (z':=sKs E D t 6 0 z) n1 n2 n3 lg lr;have hk:=ih (t+1) (c+1+1+1+1+1+1+1) _ _ _ _ (sKs E D t 6 0 z) qO qO (am.mono qO) (SB.ks E D t 6 0 hz);obtain ⟨KH,hKH⟩:=jN (kH h6 gb rb (sKs E D t 6 0 z));rw [hKH] at he hk;obtain ⟨X1,hX1⟩:=jN ((V.drop (4*t)).take 4);obtain ⟨X2,hX2⟩:=jN ((E.drop (6*t)).take 6);obtain ⟨X3,hX3⟩:=jN ((T.drop (4*t)).take 4);rw [hX1] at x1 y1 p2;rw [hX2] at x2 y2 q2;rw [hX3] at x3 y3 r2;obtain ⟨ZV,hZV⟩:=jN (Value.slice (some ⟨vb,0,none⟩) (4*n) (4*n));obtain ⟨ZE,hZE⟩:=jN (Value.slice (some ⟨eb,0,none⟩) (6*n) (6*n));obtain ⟨ZT,hZT⟩:=jN (Value.slice (some ⟨tb,0,none⟩) (4*n) (4*n));obtain ⟨ZD,hZD⟩:=jN (Value.slice (some ⟨db,0,none⟩) (16*n) (16*n));rw [hZV] at s1 he hk ⊢;rw [hZE] at s2 he hk ⊢;rw [hZT] at s3 he hk ⊢;rw [hZD] at he hk ⊢;refine Ans.lpN rfl rfl (Z5n ..) ?_;unfold Z4G;have fx:=ai p1 (ai s1 (ai arr41 (ai arr64 (ai x1 (ai y1 (ai hb1 (ai hi1 (ai p2 (ai p3 (ai q1 (ai s2 (ai x2 (ai y2 (ai hb2 (ai hi2 (ai q2 (ai q3 (ai r1 (ai s3 (ai x3 (ai y3 (ai hb3 (ai hi3 (ai r2 (ai r3 (ai cp he))))))))))))))))))))))))));refine Ans.go ?_;clear fx;refine Ans.nextN (hk.mono ?_)
  rintro q ⟨z1,z2,z3,z4,z5⟩
  exact ⟨z1,z2,z3,qO,z5⟩

theorem Zh9 (zs L:List Value) (n:Nat) (hz:zs.length=n) (hL:L.length=n):Z9D zs [(0,n,.agg L.toArray)]=some L:=by
 have h1:Nat.beq (Value.agg L.toArray).cells.size n=true:=by simp [Value.cells,hL]
 have h2:Nat.ble n zs.length=true:=qK qO;have h3:(Value.agg L.toArray).cells.toList=L:=by simp [Value.cells]
 simp only [Z9D,h1,Nat.zero_add,h2,qV,cond_true,h3,Z0Z,List.take_zero,List.nil_append,hL];rw [qU qO,qL]
def lkD (n:Nat) (Gl V D:List Int) (k:Nat):List Value:=Zdf (rk (inC V k) (4*n)) (orB n Gl (inC V k)) (dZ n Gl D (inC V k))
def lkL (n:Nat) (Gl V D:List Int):Nat->List Value
 | 0=>[]
 | k+1=>lkL n Gl V D k++lkD n Gl V D k
theorem Z2K (n:Nat) (Gl V D:List Int) (k:Nat):(lkD n Gl V D k).length=6:=rfl
theorem Z9H (n:Nat) (Gl V D:List Int) (k:Nat):(lkD n Gl V D k).all Z08=true:=rfl
theorem ZkK (pb0 cb vb db sb n c1 cnt:Nat) (cs:List Value) (s f0 f1 f2 f3 f4:Value) (Gl V D:List Int) (h1:FH) (df:List Nat)
 (hc:Z0d h1 cb (s::cs)) (hs:SlI h1 c1 s 20 n Gl) (hok:Z0w Gl n=true) (hV:SlI h1 c1 (.slice (some ⟨vb,0,none⟩) (4*n) (4*n)) 1 (4*n) V) (hD:SlI h1 c1 (.slice (some ⟨db,0,none⟩) (16*n) (16*n)) 1 (16*n) D) (hn:n<=60)
 (lc:cb<256*c1) (lsb:sb<256*c1) (n1:cb ≠ sb) (n2:0<n->Z0p s ≠ sb) (n3:vb ≠ sb) (n4:db ≠ sb) (hcnt:cnt<=4*n) :
 ∀ (r k c:Nat) (H:FH) (lv:Value),k+r=cnt->c1<=c->H.f sb=some (.cells false none [f0,f1,f2,f3,f4,lv])->GrC c1 H c lv 6 k (lkL n Gl V D k)->(∀ j,j<256*c1->j ≠ sb->H.f j=h1.f j) →
 Ans (G (Zc6 none) [ptrTo pb0,ptrTo cb,.slice (some ⟨vb,0,none⟩) (4*n) (4*n),.slice (some ⟨db,0,none⟩) (16*n) (16*n),ptrTo sb,.int .i64 cnt,.int .i64 k] H c df) fun q =>
  q.e = .exit 4/\q.vs=[ptrTo pb0,ptrTo cb,.slice (some ⟨vb,0,none⟩) (4*n) (4*n),.slice (some ⟨db,0,none⟩) (16*n) (16*n),ptrTo sb,.int .i64 cnt,.int .i64 cnt]/\q.df=df/\c<=q.c ∧
  ∃ lv,q.h.f sb=some (.cells false none [f0,f1,f2,f3,f4,lv])/\GrC c1 q.h q.c lv 6 cnt (lkL n Gl V D cnt)/\(∀ j,j<256*c1->j ≠ sb->q.h.f j=h1.f j):=by
 intro r
 induction r with
 | zero =>
  intro k c H lv hk hcc fs g base;obtain rfl:k=cnt:=qO;refine Ans.lpN rfl rfl (Z5m ..) ?_;unfold Z4F;have fx:=True.intro;refine Ans.go ?_;clear fx;exact Ans.exitN ⟨rfl,rfl,rfl,by dsimp only; omega,lv,fs,g.mono (by dsimp only; omega),base⟩
 | succ r ih =>
  intro k c H lv hk hcc fs g base;have kl:(k:Int)<cnt:=qO;have hcl:(k:Int)<240:=qO;have hcH:Z0d H cb (s::cs):=by
   obtain ⟨ro,op,q⟩:=hc;exact ⟨ro,op,(base cb lc n1).trans q⟩
  have hsH:SlI H c s 20 n Gl:=(hs.keep fun h0=>base _ (hs.blk h0) (n2 h0)).mono hcc;have hVH:SlI H c (.slice (some ⟨vb,0,none⟩) (4*n) (4*n)) 1 (4*n) V:=(hV.keep fun h0=>base _ (hV.blk h0) n3).mono hcc;have hDH:SlI H c (.slice (some ⟨db,0,none⟩) (16*n) (16*n)) 1 (16*n) D:=(hD.keep fun h0=>base _ (hD.blk h0) n4).mono hcc;obtain ⟨r0,hr0,lb,mb,w,e0,l0,s0,li,lo,mo⟩:=Zpk cb cs (.slice (some ⟨vb,0,none⟩) (4*n) (4*n)) s n Gl V k H (c+1+1+1) [] hcH qO (hsH.mono qO) (hVH.mono qO) hn;obtain ⟨K,hK⟩:=jN (r0.h);obtain ⟨rc,hrc⟩:=jN (r0.c);rw [hK,hrc] at e0 li;rw [hrc] at l0;rw [hK] at s0;rw [e0] at hr0;have c60:=Z05 hr0;have lr:LR K rc lb mb s n Gl (inC V k):=by
   have q1:=li.lo;have q2:=li.mo;exact ⟨⟨w,⟨false,none,li.hf⟩,li.ls.sl⟩,li.mp,((hsH.mono (by omega:c<=c+1+1+1)).same s0).mono qO,qO,qO,hok,hn⟩
  have c65:=Z05 (Zf8 lb mb s _ n Gl D (inC V k) K rc [] lr (((hDH.mono (by omega:c<=c+1+1+1)).same s0).mono qO));rw [show Zdf (rk (inC V k) (4*n)) (orB n Gl (inC V k)) (dZ n Gl D (inC V k))=lkD n Gl V D k from rfl] at c65;have y1:=Zh9 [.int .i64 0,.int .i64 0,.int .i64 0,.int .i64 0,.bool false,.bool false] (lkD n Gl V D k) 6 rfl (Z2K _ _ _ _ _);have fsK:K.f sb=some (.cells false none [f0,f1,f2,f3,f4,lv]):=(s0 sb qO).trans fs;have gK:GrC c1 K c lv 6 k (lkL n Gl V D k):=g.keep fun hv=>s0 _ (by have:=(g.blk hv).2; omega)
  obtain ⟨b,hb⟩:=jN (256*(c+1+1)+8);obtain ⟨i,hi⟩:=jN (256*(c+1+1)+9);obtain ⟨h2,h3,p1,p2,p3,p4,p5,p6⟩:=gK.step (c':=rc+1) (o:=5) fsK rfl lsb (lkD n Gl V D k) (Z2K _ _ _ _ _) (Z9H _ _ _ _ _) qO 40 b i qO qO qO qO qO qO;have p0:ld1 H (.pointer (some ⟨sb,5,none⟩))=some lv:=by rw [Z02 ⟨false,none,fs⟩]; rfl
  have sm:Z1y (Z2O (.pointer (some ⟨sb,5,none⟩))) H K=true:=Z9E (fun j hj=>by
   have:j=sb:=by simpa [Z2O] using hj.symm
   rw [this]; exact (s0 sb qO).symm)
  have hk':=ih (k+1) (rc+1) h3 _ qO qO p4 p5 (fun j hj hne=>(p6 j qO hne fun hv=>by have:=(gK.blk hv).1; omega).trans ((s0 j qO).trans (base j hj hne)));obtain ⟨X,hX⟩:=jN (lkD n Gl V D k);rw [hX] at c65 y1 p2;obtain ⟨ZV,hZV⟩:=jN (Value.slice (some ⟨vb,0,none⟩) (4*n) (4*n));obtain ⟨ZD,hZD⟩:=jN (Value.slice (some ⟨db,0,none⟩) (16*n) (16*n));rw [hZV] at c60 hk' ⊢;rw [hZD] at c65 hk' ⊢;refine Ans.lpN rfl rfl (Z5m ..) ?_;unfold Z4F;have fx:=ai kl (ai p0 (ai c60 (ai c65 (ai y1 (ai hb (ai hi (ai p2 (ai p3 (ai sm sameB_self)))))))));refine Ans.go ?_;clear fx;refine Ans.nextN (hk'.mono ?_)
  rintro q ⟨z1,z2,z3,z4,z5⟩
  exact ⟨z1,z2,z3,qO,z5⟩

def vN (Gl:List Int) (n:Nat):List Int:=Z6N (vCs Gl n) (4*n)
def dN (Gl:List Int) (n:Nat):List Int:=Z6N (dCs Gl n) (16*n)
def eN (Gl:List Int) (n:Nat):List Int:=Z6N (eCs Gl n) (6*n)
def tN (Gl:List Int) (n:Nat):List Int:=Z6N (tCs Gl n) (4*n)
def nV (Gl:List Int) (n:Nat):Nat:=Z1x (vCs Gl n) (4*n)
def nE (Gl:List Int) (n:Nat):Nat:=Z1x (eCs Gl n) (6*n)
def skZ (Gl:List Int) (n:Nat):List Int × List Bool:=sTs (eN Gl n) (dN Gl n) n 0 (List.replicate (nE Gl n) 0,List.replicate (nE Gl n) false)
structure SkV (c0 c:Nat) (h:FH) (vv ev tv:Value) (gb rb:Nat) (lv:Value) (n:Nat) (Gl:List Int):Prop where
 gv:GrC c0 h c vv 4 n (ints (vN Gl n))
 ge:GrC c0 h c ev 6 n (ints (eN Gl n))
 gt:GrC c0 h c tv 4 n (ints (tN Gl n))
 fg:h.f gb=some (.cells false none (ints (skZ Gl n).1))
 fr:h.f rb=some (.cells false none (bools (skZ Gl n).2))
 gl:GrC c0 h c lv 6 (nV Gl n) (lkL n Gl (vN Gl n) (dN Gl n) (nV Gl n))
 b1:256*c0<=gb/\gb<256*c
 b2:256*c0<=rb/\rb<256*c
theorem eN_lt {Gl:List Int} {n:Nat} (hd:Z2h (eCs Gl n) (6*n)):∀ k,k<6*n->0<=(eN Gl n).getD k 0/\(eN Gl n).getD k 0<nE Gl n:=fun k hk=>by
 rw [eN,Z4i _ hk];have h1:=Z16 hd hk;have:=Zpy (C:=eCs Gl n) (m:=6*n) (r:=Z07 (eCs Gl n) k) qO (Z2l hd hk);unfold nE;omega
theorem Z5X {c0 c1:Nat} {h:FH} {c:Nat} {v:Value} {sz n:Nat} {L:List Value} (ha:GrC c1 h c v sz n L) (hc:c0<=c1):GrC c0 h c v sz n L:=by
 rcases ha with ha | ⟨a,b,d,x,i,e,f,g,k⟩
 · exact .inl ha
 · exact .inr ⟨a,b,d,x,i,e,qO,g,k⟩
theorem Z9T (s:Value) (n:Nat) (Gl:List Int) (h:FH) (c:Nat) (df:List Nat) (hs:SlI h c s 20 n Gl) (hok:Z0w Gl n=true) (hn:n<=60) :
 Ans (G (.fn 39) [.agg #[s]] h c df) fun r=>∃ vv ev tv gb rb lv,r=⟨.ret,[.agg #[vv,ev,tv,.slice (some ⟨gb,0,none⟩) (nE Gl n) (nE Gl n),.slice (some ⟨rb,0,none⟩) (nE Gl n) (nE Gl n),lv]],r.h,r.c,[]⟩/\c<=r.c/\Z0l c h r.h/\SkV c r.c r.h vv ev tv gb rb lv n Gl:=by
 refine Ans.call' (fun r e=>f39_go e) ?_;have Z0X:((Value.agg #[s]).cells.toList.all Z08)=true:=by simp [Value.cells,hs.flat]
 have Z0Y:(Value.agg #[s]).cells.toList=[s]:=rfl;unfold ZjU;rw [Z0X,Z0Y];simp only [cond_true,qW];obtain ⟨g0,hg0⟩:=jN (256*c);obtain ⟨p0,hp0⟩:=jN (256*c+1);obtain ⟨z6,hz6⟩:=jN ([Value.slice none 0 0,Value.slice none 0 0,Value.slice none 0 0,Value.slice none 0 0,Value.slice none 0 0,Value.slice none 0 0]);have z6l:z6.length=6:=by rw [← hz6]; rfl
 rw [hp0,hg0,hz6];obtain ⟨M,hM⟩:=jN (newB (newB h g0 [s]) p0 z6);rw [hM];have Mf:∀ j,M.f j=if j=p0 then some (.cells false none z6) else if j=g0 then some (.cells false none [s]) else h.f j:=fun j=>by rw [← hM,Z01,Z01]
 have sM:Z0l c h M:=fun j hj=>by rw [Mf,if_neg qO,if_neg qO]
 have l0:ldN M 1 (.pointer (some ⟨g0,0,none⟩))=some (.agg #[s]):=Z0N (cs:=[]) ⟨false,none,by show M.f g0=_; rw [Mf,if_neg qO,if_pos rfl]⟩;obtain ⟨r0,hr0,cb,vb,db,eb,tb,V,D,E,T,e0,k0,s0,cl⟩:=Z6O s n Gl M (c+1+1) [] ((hs.same sM).mono qO) hok hn;obtain ⟨K0,hK0⟩:=jN (r0.h);obtain ⟨c0,hc0⟩:=jN (r0.c);rw [hK0,hc0] at e0 cl;rw [hc0] at k0;rw [hK0] at s0;rw [e0] at hr0;have c40:=Z05 hr0;obtain ⟨⟨t1,t2,t3,t4,t5⟩,t6,t7,t8,t9,t10⟩:=cl.bd;have ec:=cl.e;obtain ⟨o1,o2,o3,o4⟩:=ec.o;obtain ⟨q1,q2,q3,q4,q5,q6⟩:=ec.q;have u1:Uo K0 cb 1 vb (4*n) V:=⟨⟨_,ec.st,rfl⟩,cl.fv,o1,cl.jv.dn,qO⟩;obtain ⟨r1,hr1,V',ob1,e1,k1,a1,b1,f1,_,_,F1⟩:=Z2n cb 1 vb (4*n) (vCs Gl n) V K0 (c0+1) [] u1 cl.jv.1 cl.jv.2 qO qO;obtain ⟨K1,hK1⟩:=jN (r1.h);obtain ⟨c1,hc1⟩:=jN (r1.c);rw [hK1,hc1] at e1;rw [hc1] at k1 b1;rw [hK1] at f1 F1;rw [e1] at hr1;have c41a:=Z05 hr1;have u2:Uo K1 cb 2 db (16*n) D:=(Uo.mk ⟨_,ec.st,rfl⟩ cl.fd o2 cl.jd.dn qO:Uo K0 cb 2 db (16*n) D).keep (F1 cb qO o1) (F1 db qO (Ne.symm q1));obtain ⟨r2,hr2,D',ob2,e2,k2,a2,b2,f2,_,_,F2⟩:=Z2n cb 2 db (16*n) (dCs Gl n) D K1 (c1+1) [] u2 cl.jd.1 cl.jd.2 qO qO;obtain ⟨K2,hK2⟩:=jN (r2.h);obtain ⟨c2,hc2⟩:=jN (r2.c);rw [hK2,hc2] at e2;rw [hc2] at k2 b2;rw [hK2] at f2 F2;rw [e2] at hr2;have c41b:=Z05 hr2;have u3:Uo K2 cb 3 eb (6*n) E:=((Uo.mk ⟨_,ec.st,rfl⟩ cl.fe o3 cl.je.dn qO:Uo K0 cb 3 eb (6*n) E).keep (F1 cb qO o1) (F1 eb qO (Ne.symm q2))).keep (F2 cb qO o2) (F2 eb qO (Ne.symm q4));obtain ⟨r3,hr3,E',ob3,e3,k3,a3,b3,f3,_,_,F3⟩:=Z2n cb 3 eb (6*n) (eCs Gl n) E K2 (c2+1) [] u3 cl.je.1 cl.je.2 qO qO;obtain ⟨K3,hK3⟩:=jN (r3.h);obtain ⟨c3,hc3⟩:=jN (r3.c);rw [hK3,hc3] at e3;rw [hc3] at k3 b3;rw [hK3] at f3 F3;rw [e3] at hr3;have c41c:=Z05 hr3;have u4:Uo K3 cb 4 tb (4*n) T:=(((Uo.mk ⟨_,ec.st,rfl⟩ cl.ft o4 cl.jt.dn qO:Uo K0 cb 4 tb (4*n) T).keep (F1 cb qO o1) (F1 tb qO (Ne.symm q3))).keep (F2 cb qO o2) (F2 tb qO (Ne.symm q5))).keep (F3 cb qO o3) (F3 tb qO (Ne.symm q6));obtain ⟨r4,hr4,T',ob4,e4,k4,a4,b4,f4,_,_,F4⟩:=Z2n cb 4 tb (4*n) (tCs Gl n) T K3 (c3+1) [] u4 cl.jt.1 cl.jt.2 qO qO;obtain ⟨K4,hK4⟩:=jN (r4.h);obtain ⟨c4,hc4⟩:=jN (r4.c);rw [hK4,hc4] at e4;rw [hc4] at k4 b4;rw [hK4] at f4 F4;rw [e4] at hr4;have c41d:=Z05 hr4;have G4:∀ j,j<256*(c+1+1)->K4.f j=M.f j:=fun j hj=>by
  rw [F4 j qO qO,F3 j qO qO,F2 j qO qO,F1 j qO qO,s0 j hj]
 have v4:K4.f ob1=some (.cells false none (ints (vN Gl n))):=by rw [F4 ob1 qO qO,F3 ob1 qO qO,F2 ob1 qO qO]; exact f1
 have d4:K4.f ob2=some (.cells false none (ints (dN Gl n))):=by rw [F4 ob2 qO qO,F3 ob2 qO qO]; exact f2
 have ee4:K4.f ob3=some (.cells false none (ints (eN Gl n))):=by rw [F4 ob3 qO qO]; exact f3
 have tt4:K4.f ob4=some (.cells false none (ints (tN Gl n))):=f4;have cb4:K4.f cb=K0.f cb:=by rw [F4 cb qO o4,F3 cb qO o3,F2 cb qO o2,F1 cb qO o1]
 have hmE:nE Gl n<=6*n:=Z1o _ _;have hmV:nV Gl n<=4*n:=Z1o _ _;obtain ⟨m,hm⟩:=jN (nE Gl n);obtain ⟨cnt,hcnt⟩:=jN (nV Gl n);rw [hm] at hmE;rw [hcnt] at hmV;rw [show Z1x (vCs Gl n) (4*n)=cnt from hcnt] at c41a;rw [show Z1x (eCs Gl n) (6*n)=m from hm] at c41c;have mk1:=Z5L 1 8 .i64 .i64 m qO qO;have mk2:=Zfz 1 1 .i64 .i64 m qO qO;obtain ⟨gb,hgb⟩:=jN (256*c4+1);obtain ⟨rb,hrb⟩:=jN (256*c4+3);obtain ⟨sb,hsb⟩:=jN (256*c4+5);obtain ⟨SG,hSG⟩:=jN (Value.slice (some ⟨gb,0,none⟩) m m);obtain ⟨SR,hSR⟩:=jN (Value.slice (some ⟨rb,0,none⟩) m m);have bv:Z1K z6 [(3,1,SG),(4,1,SR)]=some (.agg [.slice none 0 0,.slice none 0 0,.slice none 0 0,SG,SR,.slice none 0 0].toArray):=by rw [← hz6,← hSG,← hSR]; rfl
 obtain ⟨K5,hK5⟩:=jN (newB (newB K4 gb (ints (List.replicate m 0))) rb (bools (List.replicate m false)));have st8:stN (newB K5 sb z6) 6 (.pointer (some ⟨sb,0,none⟩)) (.agg [.slice none 0 0,.slice none 0 0,.slice none 0 0,SG,SR,.slice none 0 0].toArray)=some (newB K5 sb [.slice none 0 0,.slice none 0 0,.slice none 0 0,SG,SR,.slice none 0 0]):=by
  rw [Z0q _ 6 _ 0 _ _ (by simp [Value.cells]) qO (by rw [← hSG,← hSR]; rfl),← hz6]; rfl
 obtain ⟨H8,hH8⟩:=jN (newB K5 sb [.slice none 0 0,.slice none 0 0,.slice none 0 0,SG,SR,.slice none 0 0]);rw [hH8] at st8;have H8f:∀ j,H8.f j=if j=sb then some (.cells false none [.slice none 0 0,.slice none 0 0,.slice none 0 0,SG,SR,.slice none 0 0]) else if j=rb then some (.cells false none (bools (List.replicate m false))) else if j=gb then some (.cells false none (ints (List.replicate m 0))) else K4.f j:=fun j=>by
  rw [← hH8,Z01,← hK5,Z01,Z01]
 have G8:∀ j,j<256*c4->H8.f j=K4.f j:=fun j hj=>by rw [H8f,if_neg qO,if_neg qO,if_neg qO]
 have ls8:ld1 H8 (.pointer (some ⟨g0,0,none⟩))=some s:=by
  rw [Z02 (cs:=[s]) ⟨false,none,by show H8.f g0=_; rw [G8 _ qO,G4 _ qO,Mf,if_neg qO,if_pos rfl]⟩]; rfl
 have len:=hs.len;have sk0:SkI (c4+1) (c4+1+1) sb gb rb m 0 H8 H8 (.slice none 0 0) (.slice none 0 0) (.slice none 0 0) (.slice none 0 0) (vN Gl n) (eN Gl n) (tN Gl n) (List.replicate m 0,List.replicate m false):=by
  refine ⟨by rw [H8f,if_pos rfl,hSG,hSR],.inl ⟨rfl,rfl,rfl⟩,.inl ⟨rfl,rfl,rfl⟩,.inl ⟨rfl,rfl,rfl⟩,(fun h=>absurd rfl h),(fun h=>absurd rfl h),(fun h=>absurd rfl h), ?_, ?_,fun _ _ _ _ _=>rfl⟩
  · rw [H8f,if_neg qO,if_neg qO,if_pos rfl]
  · rw [H8f,if_neg qO,if_pos rfl]
 have eLt:=eN_lt (Gl:=Gl) (n:=n) cl.je.2;rw [hm] at eLt;have sb0:SB m (List.replicate m 0,List.replicate m false) (6*0):=⟨by simp,by simp,fun x=>by
  have:(List.replicate m (0:Int)).getD x 0=0:=by rw [qB,jM]; split <;> rfl
  rw [this]; omega⟩
 obtain ⟨⟨e9',vs9,H9,c9,df9⟩,ex9,x1,x2,x3,x4,vv,ev,tv,sk⟩:=ZoW p0 cb ob1 ob2 ob3 ob4 sb gb rb n m (c4+1) (cnt:Int) (vN Gl n) (dN Gl n) (eN Gl n) (tN Gl n) (.slice none 0 0) H8 [] (by rw [G8 _ qO]; exact v4) (by rw [G8 _ qO]; exact d4) (by rw [G8 _ qO]; exact ee4) (by rw [G8 _ qO]; exact tt4) (Z0n _ _) (Z0n _ _) (Z0n _ _) (Z0n _ _) eLt hn qO qO qO qO qO qO qO qO qO qO qO qO qO qO qO qO qO n 0 (c4+1+1) H8 _ _ _ _ qO qO sk0 sb0;dsimp only at x1 x2 x3 x4 sk;subst x1 x2 x3;simp only [qC,qF] at ex9;have hz:sTs (eN Gl n) (dN Gl n) n 0 (List.replicate m 0,List.replicate m false)=skZ Gl n:=by rw [skZ,hm]
 rw [hz] at sk;have G9:∀ j,j<256*c4->H9.f j=K4.f j:=fun j hj=>by rw [sk.base j qO qO qO qO,G8 j hj]
 have sm9:Z0l c h H9:=fun j hj=>by rw [G9 j qO,G4 j qO]; exact sM j hj
 have own:∀ (b k:Nat) (L:List Int),H9.f b=some (.cells false none (ints L))->b<256*(c9+1)->L.length=k->k<=9223372036854775807->SlI H9 (c9+1) (.slice (some ⟨b,0,none⟩) k k) 1 k L:=fun b k L hf hb hL hk=>by
  refine ⟨qO,hk,some ⟨b,0,none⟩,k,rfl,.inr ⟨b,0,ints L,rfl,hb,⟨false,none,hf⟩, ?_⟩⟩;rw [qM,qH (by simp [hL])]
 have hcb9:Z0d H9 cb [s,.slice (some ⟨vb,0,none⟩) (4*n) (4*n),.slice (some ⟨db,0,none⟩) (16*n) (16*n),.slice (some ⟨eb,0,none⟩) (6*n) (6*n),.slice (some ⟨tb,0,none⟩) (4*n) (4*n)]:=by
  obtain ⟨ro,op,q⟩:=ec.st;exact ⟨ro,op,by show H9.f cb=_; rw [G9 cb qO,cb4]; exact q⟩
 obtain ⟨⟨e10',vs10,H10,c10,df10⟩,ex10,y1,y2,y3,y4,lv,y5,y6,y7⟩:=ZkK p0 cb ob1 ob2 sb n (c9+1) cnt _ s vv ev tv SG SR Gl (vN Gl n) (dN Gl n) H9 [] hcb9 ((hs.same sm9).mono qO) hok (own ob1 (4*n) _ (by rw [G9 _ qO]; exact v4) qO (Z0n _ _) qO) (own ob2 (16*n) _ (by rw [G9 _ qO]; exact d4) qO (Z0n _ _) qO) hn qO qO qO (fun h0=>by have:=hs.blk h0; omega) qO qO hmV cnt 0 (c9+1) H9 (.slice none 0 0) qO (qG _) (by rw [← hSG,← hSR]; exact sk.fs) (.inl ⟨rfl,rfl,rfl⟩) (fun _ _ _=>rfl);dsimp only at y1 y2 y3 y4 y5 y6 y7;subst y1 y2 y3;simp only [qC,qF] at ex10;obtain ⟨R,hR⟩:=jN ([vv,ev,tv,SG,SR,lv]);have R6:R.length=6:=by rw [← hR]; rfl
 have Rf:R.all Z08=true:=by
  rw [← hR,← hSG,← hSR];simp only [List.all_cons,List.all_nil,sk.gv.flat.1,sk.ge.flat.1,sk.gt.flat.1,y6.flat.1,Bool.and_true,Bool.true_and];rfl
 rw [hR] at y5;have l10:ldN H10 6 (.pointer (some ⟨sb,0,none⟩))=some (.agg R.toArray):=by
  rw [ldN_holds (cs:=R) ⟨false,none,y5⟩ qO,qM,qH qO]
 have fp:H10.f p0=some (.cells false none z6):=by rw [y7 p0 qO qO,G9 _ qO,G4 _ qO,Mf,if_pos rfl]
 have e10:newB H10 p0 z6=H10:=by
  apply FH.ext; intro k;rw [Z01]; split
  · rename_i e; rw [e,fp]
  · rfl
 have w10:stN H10 6 (.pointer (some ⟨p0,0,none⟩)) (.agg R.toArray)=some (newB H10 p0 R):=by
  have:=Z0q H10 6 p0 0 z6 (.agg R.toArray) (by simp [Value.cells,R6]) qO (by simpa [Value.cells] using Rf);rw [e10] at this;rw [this];simp [Z0Z,Value.cells,R6,qU (show z6.length<=6 by omega)]
 have l11:ldN (newB H10 p0 R) 6 (.pointer (some ⟨p0,0,none⟩))=some (.agg R.toArray):=by
  rw [ldN_newB_same _ _ _ _ _ qO,qM,qH qO]
 obtain ⟨H11,hH11⟩:=jN (newB H10 p0 R);rw [hH11] at w10 l11;have H11f:∀ j,j ≠ p0->H11.f j=H10.f j:=fun j hj=>by rw [← hH11,Z01,if_neg hj]
 obtain ⟨Z1,hZ1⟩:=jN (Value.slice (some ⟨ob1,0,none⟩) (4*n) (4*n));obtain ⟨Z2,hZ2⟩:=jN (Value.slice (some ⟨ob2,0,none⟩) (16*n) (16*n));obtain ⟨Z3,hZ3⟩:=jN (Value.slice (some ⟨ob3,0,none⟩) (6*n) (6*n));obtain ⟨Z4,hZ4⟩:=jN (Value.slice (some ⟨ob4,0,none⟩) (4*n) (4*n));rw [hZ1] at c41a ex9 ex10;rw [hZ2] at c41b ex9 ex10;rw [hZ3] at c41c ex9;rw [hZ4] at c41d ex9;obtain ⟨d2n,hd2n⟩:=jN (Z1x (dCs Gl n) (16*n));obtain ⟨t2n,ht2n⟩:=jN (Z1x (tCs Gl n) (4*n));rw [hd2n] at c41b;rw [ht2n] at c41d;have xv0:∀ a b:Value,Z19 (.tuple #[a,b]) 0=some a:=fun _ _=>rfl
 have xv1:∀ a b:Value,Z19 (.tuple #[a,b]) 1=some b:=fun _ _=>rfl
 have fx:=ai l0 (ai c40 (ai c41a (ai c41b (ai c41c (ai c41d (ai xv0 (ai xv1 (ai mk1 (ai mk2 (ai hgb (ai hrb (ai hsb (ai hSG (ai hSR (ai bv (ai hK5 (ai st8 (ai ls8 (ai len (ai ex9 (ai ex10 (ai l10 (ai w10 l11)))))))))))))))))))))));refine Ans.go ?_;clear fx;have keep:∀ {v:Value} {sz k:Nat} {L:List Value},GrC (c4+1) H9 c9 v sz k L->GrC c H11 (c10+1) v sz k L:=fun {v sz k L} g =>
  Z5X ((g.keep (h':=H11) fun hv=>by
   have:=g.blk hv;rw [H11f _ qO,y7 _ qO qO]).mono (c':=c10+1) qO) qO
 have tv4:(vN Gl n).take (4*n)=vN Gl n:=qH (by rw [vN,Z0n]; exact qG _);have te6:(eN Gl n).take (6*n)=eN Gl n:=qH (by rw [eN,Z0n]; exact qG _);have tt4':(tN Gl n).take (4*n)=tN Gl n:=qH (by rw [tN,Z0n]; exact qG _);have g1:=keep sk.gv;have g2:=keep sk.ge;have g3:=keep sk.gt;rw [tv4] at g1;rw [te6] at g2;rw [tt4'] at g3;refine .done ⟨vv,ev,tv,gb,rb,lv,by rw [hm,hSG,hSR,← hR],by dsimp only; omega,fun j hj=>?_,⟨g1,g2,g3, ?_, ?_, ?_,⟨qO,by dsimp only; omega⟩,⟨qO,by dsimp only; omega⟩⟩⟩
 · show H11.f j=h.f j;rw [H11f j qO,y7 j qO qO];exact sm9 j hj
 · show H11.f gb=_;rw [H11f _ qO,y7 _ qO qO];exact sk.fg
 · show H11.f rb=_;rw [H11f _ qO,y7 _ qO qO];exact sk.fr
 · rw [hcnt];exact Z5X ((y6.keep (h':=H11) fun hv=>by
    have:=y6.blk hv;rw [H11f _ qO]).mono (c':=c10+1) qO) qO
end Go.Proofs.Ytdodippbpdechaa
