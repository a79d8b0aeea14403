/- Parts of a proof: N1 K36 K37 R2 R3 AbOrb AbWalk K25 K26 K27 K28 AbGA L3 L4 K29 L5 L6 L7 L8. Conditions: none. -/
import Derived.Test.YtdodippbpdechaaM23
import Derived.Test.YtdodippbpdechaaM13
import Derived.Test.YtdodippbpdechaaM22
import Derived.Test.YtdodippbpdechaaM18
import Derived.Test.YtdodippbpdechaaM14
import Derived.Test.YtdodippbpdechaaM20
import Derived.Test.YtdodippbpdechaaM15
set_option linter.all false
set_option maxRecDepth 100000
set_option maxHeartbeats 4000000
namespace Go.Proofs.Ytdodippbpdechaa
open Go Go.Ab Go.Proofs
theorem Zds (h:FH) (c:Nat):callF G 10 [] h c=some (.bool true,h,c):=Z05 (ZkV (f:=10) (args:=[]) (h:=h) (c:=c) (r:=⟨.ret,[.bool true],h,c,[]⟩) rfl)
theorem Z0X {a:Value} (ha:Z08 a=true):((Value.agg #[a]).cells.toList.all Z08)=true:=by simp [Value.cells,ha]
theorem Z0Y (a:Value):(Value.agg #[a]).cells.toList=[a]:=rfl

theorem Zgp (Gl:List Int) (m:Nat):frC Gl (m+1)=frC Gl m+if Z0D (Z04 Gl (m / 4) (m % 4))<0 then 1 else 0:=rfl

theorem st6 {K:FH} {p0:Nat} {R:List Value} (R6:R.length=6) (Rf:R.all Z08=true):stN (newB K p0 Z2H) 6 (.pointer (some ⟨p0,0,none⟩)) (.agg R.toArray)=some (newB K p0 R):=by
 have:=Z4R (h:=newB K p0 Z2H) (b:=p0) (n:=6) (z:=Z2H) (L:=R) (by rw [Z01,if_pos rfl]) rfl R6 Rf;rwa [Z6P] at this

def CG (D D':List Int) (N:Nat):Prop:=∀ a b,a<N->b<N->(D.getD a 0=D.getD b 0 ↔ D'.getD a 0=D'.getD b 0)
theorem cg_rt {C:List Int} {m:Nat} (hd:Z2h C m):CG (rtL C m) (Z6N C m) m:=fun a b ha hb=>by
 rw [ZcB C ha,ZcB C hb,Zeo C ha,Zeo C hb];have:=cl_eq hd ha hb;omega
theorem cg_sSt {D D':List Int} {n:Nat} (h:CG D D' (16*n)) (E:List Int) {t k:Nat} (ht:t<n) (hk:k<6) (z:List Int × List Bool):sSt E D t k z=sSt E D' t k z:=by
 obtain ⟨-,-,a4,b4,-⟩:=eAB hk;have:=h (16*t+4*eAn k+eBn k) (16*t+4*eBn k+eAn k) qO qO;unfold sSt
 by_cases e:D.getD (16*t+4*eAn k+eBn k) 0=D.getD (16*t+4*eBn k+eAn k) 0
 · rw [if_pos e,if_pos (this.1 e)]
 · rw [if_neg e,if_neg (fun q=>e (this.2 q))]
theorem ZoG {D D':List Int} {n:Nat} (h:CG D D' (16*n)) (E:List Int) {t:Nat} (ht:t<n):∀ (r k:Nat) (z:List Int × List Bool),k+r=6->sKs E D t r k z=sKs E D' t r k z
 | 0,_,_,_=>rfl
 | r+1,k,z,hk=>by rw [sKs,sKs,cg_sSt h E ht qO,ZoG h E ht r (k+1) _ qO]
theorem ZoF {D D':List Int} {n:Nat} (h:CG D D' (16*n)) (E:List Int):∀ (r t:Nat) (z:List Int × List Bool),t+r=n->sTs E D r t z=sTs E D' r t z
 | 0,_,_,_=>rfl
 | r+1,t,z,ht=>by rw [sTs,sTs,ZoG h E qO 6 0 z rfl,ZoF h E r (t+1) _ qO]
theorem cg_dY {D D':List Int} {N:Nat} (h:CG D D' N) (Gl:List Int) (Q:Nat->Bool):∀ m,m<=N->(dY Gl D Q m).2=(dY Gl D' Q m).2/\(dY Gl D Q m).1.length=(dY Gl D' Q m).1.length /\ ∀ y,y<N->(D.getD y 0 ∈ (dY Gl D Q m).1 ↔ D'.getD y 0 ∈ (dY Gl D' Q m).1)
 | 0,_=>⟨rfl,rfl,fun y _=>by simp [dY]⟩
 | m+1,hm=>by
  obtain ⟨h1,h2,h3⟩:=cg_dY h Gl Q m qO;rw [dY,dY]
  by_cases q:Q (m / 4)=true
  · rw [if_pos q,if_pos q];unfold dSy
    by_cases hn:nd m
    · rw [if_pos hn,if_pos hn];refine ⟨by dsimp only; rw [h1], ?_,fun y hy=>?_⟩
      · dsimp only;unfold ZdI;have:=h3 m qO
        by_cases e:D.getD m 0 ∈ (dY Gl D Q m).1
        · rw [if_pos e,if_pos (this.1 e),h2]
        · rw [if_neg e,if_neg (fun z=>e (this.2 z))]; simp [h2]
      · dsimp only;rw [ZfB,ZfB,h3 y hy,h y m hy qO]
    · rw [if_neg hn,if_neg hn]; exact ⟨h1,h2,h3⟩
  · rw [if_neg q,if_neg q]; exact ⟨h1,h2,h3⟩
theorem cg_lkD {D D':List Int} {n:Nat} (h:CG D D' (16*n)) (Gl V:List Int) (k:Nat):lkD n Gl V D k=lkD n Gl V D' k:=by
 obtain ⟨h1,h2,-⟩:=cg_dY h Gl (inC V k) (16*n) (qG _);unfold lkD Zdf;rw [dZ_y,dZ_y,h1,h2]
theorem ZoH {D D':List Int} {n:Nat} (h:CG D D' (16*n)) (Gl V:List Int):∀ k,lkL n Gl V D k=lkL n Gl V D' k
 | 0=>rfl
 | k+1=>by rw [lkL,lkL,ZoH h Gl V k,cg_lkD h]
theorem ZkJ (g0 vb db sb n c1 cnt:Nat) (x2 s f0 f1 f2 f3 f4:Value) (Gl D:List Int) (h1:FH) (df:List Nat)
 (hc:Z0d h1 g0 [s]) (hs:SlI h1 c1 s 20 n Gl) (hok:Z0w Gl n=true) (hV:SlI h1 c1 (.slice (some ⟨vb,0,none⟩) (4*n) (4*n)) 1 (4*n) (vN Gl n)) (hD:SlI h1 c1 (.slice (some ⟨db,0,none⟩) (16*n) (16*n)) 1 (16*n) D) (hn:n<=60)
 (lc:g0<256*c1) (lsb:sb<256*c1) (n1:g0 ≠ sb) (n2:0<n->Z0p s ≠ sb) (n3:vb ≠ sb) (n4:db ≠ sb) (hcnt:cnt<=4*n) :
 ∀ (r k c:Nat) (H:FH) (lv:Value),k+r=cnt->c1<=c->H.f sb=some (.cells false none [f0,f1,f2,f3,f4,lv])->GrC c1 H c lv 6 k (lkL n Gl (vN Gl n) D k)->(∀ j,j<256*c1->j ≠ sb->H.f j=h1.f j) →
 Ans (G (ZbS none) [ptrTo g0,x2,ptrTo sb,.slice (some ⟨vb,0,none⟩) (4*n) (4*n),.int .i64 cnt,.slice (some ⟨db,0,none⟩) (16*n) (16*n),.int .i64 k] H c df) fun q =>
  q.e = .exit 6/\q.vs=[ptrTo g0,x2,ptrTo sb,.slice (some ⟨vb,0,none⟩) (4*n) (4*n),.int .i64 cnt,.slice (some ⟨db,0,none⟩) (16*n) (16*n),.int .i64 cnt]/\q.df=df/\c<=q.c ∧
  ∃ lv,q.h.f sb=some (.cells false none [f0,f1,f2,f3,f4,lv])/\GrC c1 q.h q.c lv 6 cnt (lkL n Gl (vN Gl n) D cnt)/\(∀ j,j<256*c1->j ≠ sb->q.h.f j=h1.f j):=by
 intro r
 induction r with
 | zero =>
  intro k c H lv hk hcc fs g base;obtain rfl:k=cnt:=qO;refine Ans.lpN rfl rfl (Z7k ..) ?_;unfold Z8U;have fx:=True.intro;refine Ans.go ?_;clear fx;exact Ans.exitN ⟨rfl,rfl,rfl,by dsimp only; omega,lv,fs,g.mono (by dsimp only; omega),base⟩
 | succ r ih =>
  intro k c H lv hk hcc fs g base;have kl:(k:Int)<cnt:=qO;have hcl:(k:Int)<240:=qO;have hsH:SlI H c s 20 n Gl:=(hs.keep fun h0=>base _ (hs.blk h0) (n2 h0)).mono hcc;have hVH:SlI H c (.slice (some ⟨vb,0,none⟩) (4*n) (4*n)) 1 (4*n) (vN Gl n):=(hV.keep fun h0=>base _ (hV.blk h0) n3).mono hcc;have hDH:SlI H c (.slice (some ⟨db,0,none⟩) (16*n) (16*n)) 1 (16*n) D:=(hD.keep fun h0=>base _ (hD.blk h0) n4).mono hcc;have l1:ldN H 1 (.pointer (some ⟨g0,0,none⟩))=some (.agg #[s]):=by
   obtain ⟨ro,op,q⟩:=hc;exact Z0N (cs:=[]) ⟨ro,op,(base g0 lc n1).trans q⟩
  have c76:=Z05 (Zlf s (.slice (some ⟨vb,0,none⟩) (4*n) (4*n)) (.slice (some ⟨db,0,none⟩) (16*n) (16*n)) n k Gl D H (c+1+1) [] (hsH.mono qO) (hVH.mono qO) (hDH.mono qO) hok hn);rw [show Zdf (rk (inC (vN Gl n) k) (4*n)) (orB n Gl (inC (vN Gl n) k)) (dZ n Gl D (inC (vN Gl n) k))=lkD n Gl (vN Gl n) D k from rfl] at c76;have y1:=Zh9 [.int .i64 0,.int .i64 0,.int .i64 0,.int .i64 0,.bool false,.bool false] (lkD n Gl (vN Gl n) D k) 6 rfl (Z2K _ _ _ _ _);obtain ⟨b,hb⟩:=jN (256*(c+1)+7);obtain ⟨i,hi⟩:=jN (256*(c+1)+8);obtain ⟨h2,h3,p1,p2,p3,p4,p5,p6⟩:=g.step (c':=c+1+1+1) (o:=5) fs rfl lsb (lkD n Gl (vN Gl n) D k) (Z2K _ _ _ _ _) (Z9H _ _ _ _ _) qO 40 b i qO qO qO qO qO qO;have p0:ld1 H (.pointer (some ⟨sb,5,none⟩))=some lv:=by rw [Z02 ⟨false,none,fs⟩]; rfl
  have hk':=ih (k+1) (c+1+1+1) h3 _ qO qO p4 p5 (fun j hj hne=>(p6 j qO hne fun hv=>by have:=(g.blk hv).1; omega).trans (base j hj hne));obtain ⟨X,hX⟩:=jN (lkD n Gl (vN Gl n) D k);rw [hX] at c76 y1 p2;obtain ⟨ZV,hZV⟩:=jN (Value.slice (some ⟨vb,0,none⟩) (4*n) (4*n));obtain ⟨ZD,hZD⟩:=jN (Value.slice (some ⟨db,0,none⟩) (16*n) (16*n));rw [hZV,hZD] at c76 hk' ⊢;refine Ans.lpN rfl rfl (Z7k ..) ?_;unfold Z8U;have fx:=ai kl (ai p0 (ai l1 (ai c76 (ai y1 (ai hb (ai hi (ai p2 (ai p3 sameB_self))))))));refine Ans.go ?_;clear fx;refine Ans.nextN (hk'.mono ?_)
  rintro q ⟨z1,z2,z3,z4,z5⟩
  exact ⟨z1,z2,z3,qO,z5⟩
theorem Z9i (s:Value) (n:Nat) (Gl:List Int) (h:FH) (c:Nat) (df:List Nat) (hs:SlI h c s 20 n Gl) (hok:Z0w Gl n=true) (hn:n<=60) :
 Ans (G (.fn 51) [.agg #[s]] h c df) fun r=>∃ vv ev tv gb rb lv,r=⟨.ret,[.agg #[vv,ev,tv,.slice (some ⟨gb,0,none⟩) (nE Gl n) (nE Gl n),.slice (some ⟨rb,0,none⟩) (nE Gl n) (nE Gl n),lv]],r.h,r.c,[]⟩/\c<=r.c/\Z0l c h r.h/\SkV c r.c r.h vv ev tv gb rb lv n Gl:=by
 refine Ans.call' (fun r e=>f51_go e) ?_;have Z0X:((Value.agg #[s]).cells.toList.all Z08)=true:=by simp [Value.cells,hs.flat]
 have Z0Y:(Value.agg #[s]).cells.toList=[s]:=rfl;unfold Zq3;rw [Z0X,Z0Y];simp only [cond_true,qW];obtain ⟨g0,hg0⟩:=jN (256*c);obtain ⟨p0,hp0⟩:=jN (256*c+1);obtain ⟨sb,hsb⟩:=jN (256*(c+1));obtain ⟨z6,hz6⟩:=jN ([Value.slice none 0 0,Value.slice none 0 0,Value.slice none 0 0,Value.slice none 0 0,Value.slice none 0 0,Value.slice none 0 0]);have z6l:z6.length=6:=by rw [← hz6]; rfl
 rw [hp0,hg0,hsb,hz6];obtain ⟨M,hM⟩:=jN (newB (newB (newB h g0 [s]) p0 z6) sb z6);rw [hM];have Mf:∀ j,M.f j=if j=sb then some (.cells false none z6) else if j=p0 then some (.cells false none z6) else if j=g0 then some (.cells false none [s]) else h.f j:=fun j=>by rw [← hM,Z01,Z01,Z01]
 have sM:Z0l c h M:=fun j hj=>by rw [Mf,if_neg qO,if_neg qO,if_neg qO]
 have gM:M.f g0=some (.cells false none [s]):=by rw [Mf,if_neg qO,if_neg qO,if_pos rfl]
 have hsM:SlI M c s 20 n Gl:=hs.same sM;have G0:∀ K:FH,K.f g0=some (.cells false none [s])->ldN K 1 (.pointer (some ⟨g0,0,none⟩))=some (.agg #[s]):=fun K hK=>Z0N (cs:=[]) ⟨false,none,hK⟩
 have l0:=G0 M gM;obtain ⟨r0,hr0,vb,e0,k0,s0,v1,v2,fv⟩:=Z9f s n Gl M (c+1+1+1) [] (hsM.mono qO) hok qO;obtain ⟨K0,hK0⟩:=jN (r0.h);obtain ⟨c0,hc0⟩:=jN (r0.c);rw [hK0,hc0] at e0;rw [hc0] at k0 v2;rw [hK0] at s0 fv;rw [e0] at hr0;have c59:=Z05 hr0;have t0:Z0l (c+1+1) M K0:=s0.mono qO;have l1:=G0 K0 ((t0 g0 qO).trans gM);obtain ⟨r1,hr1,eb,e1,k1,s1,w1,w2,fe⟩:=ZdO s n Gl K0 (c0+1) [] ((hsM.same (t0.mono qO)).mono qO) hok qO;obtain ⟨K1,hK1⟩:=jN (r1.h);obtain ⟨c1,hc1⟩:=jN (r1.c);rw [hK1,hc1] at e1;rw [hc1] at k1 w2;rw [hK1] at s1 fe;rw [e1] at hr1;have c73:=Z05 hr1;have t1:Z0l (c+1+1) M K1:=t0.trans (s1.mono qO);have l2:=G0 K1 ((t1 g0 qO).trans gM);obtain ⟨r2,hr2,tb,e2,k2,s2,y1,y2,ft⟩:=Z6G s n Gl K1 (c1+1) [] ((hsM.same (t1.mono qO)).mono qO) hok qO;obtain ⟨K2,hK2⟩:=jN (r2.h);obtain ⟨c2,hc2⟩:=jN (r2.c);rw [hK2,hc2] at e2;rw [hc2] at k2 y2;rw [hK2] at s2 ft;rw [e2] at hr2;have c74:=Z05 hr2;have t2:Z0l (c+1+1) M K2:=t1.trans (s2.mono qO);have l3:=G0 K2 ((t2 g0 qO).trans gM);obtain ⟨r3,hr3,db,e3,k3,s3,d1,d2,fd⟩:=ZdQ s n Gl K2 (c2+1) [] ((hsM.same (t2.mono qO)).mono qO) hok qO;obtain ⟨K3,hK3⟩:=jN (r3.h);obtain ⟨c3,hc3⟩:=jN (r3.c);rw [hK3,hc3] at e3;rw [hc3] at k3 d2;rw [hK3] at s3 fd;rw [e3] at hr3;have c75:=Z05 hr3;have t3:Z0l (c+1+1) M K3:=t2.trans (s3.mono qO);obtain ⟨nu1,nu2⟩:=Zka hok hs.1;have fv3:K3.f vb=some (.cells false none (ints (vN Gl n))):=by rw [s3 vb qO,s2 vb qO,s1 vb qO]; exact fv
 have fe3:K3.f eb=some (.cells false none (ints (eN Gl n))):=by rw [s3 eb qO,s2 eb qO,← nu1]; exact fe
 have ft3:K3.f tb=some (.cells false none (ints (tN Gl n))):=by rw [s3 tb qO]; exact ft
 rw [nu2] at c73;rw [show Z1x (vCs Gl n) (4*n)=nV Gl n from rfl] at c59;have hmE:nE Gl n<=6*n:=Z1o _ _;have hmV:nV Gl n<=4*n:=Z1o _ _;obtain ⟨m,hm⟩:=jN (nE Gl n);obtain ⟨cnt,hcnt⟩:=jN (nV Gl n);rw [hm] at hmE c73;rw [hcnt] at hmV c59;have mk1:=Z5L 1 8 .i64 .i64 m qO qO;have mk2:=Zfz 1 1 .i64 .i64 m qO qO;obtain ⟨gb,hgb⟩:=jN (256*c3+1);obtain ⟨rb,hrb⟩:=jN (256*(c3+1)+1);obtain ⟨SG,hSG⟩:=jN (Value.slice (some ⟨gb,0,none⟩) m m);obtain ⟨SR,hSR⟩:=jN (Value.slice (some ⟨rb,0,none⟩) m m);have SGf:SG.cells = #[SG]/\Z08 SG=true:=by rw [← hSG]; exact ⟨rfl,rfl⟩
 have SRf:SR.cells = #[SR]/\Z08 SR=true:=by rw [← hSR]; exact ⟨rfl,rfl⟩
 obtain ⟨K5,hK5⟩:=jN (newB K3 gb (ints (List.replicate m 0)));have K5f:∀ j,j ≠ gb->K5.f j=K3.f j:=fun j hj=>by rw [← hK5,Z01,if_neg hj]
 have f5:K5.f sb=some (.cells false none z6):=by rw [K5f _ qO,t3 sb qO,Mf,if_pos rfl]
 have w5:stN K5 1 (.pointer (some ⟨sb,3,none⟩)) SG=some (HeapC.set K5 sb (.cells false none [.slice none 0 0,.slice none 0 0,.slice none 0 0,SG,.slice none 0 0,.slice none 0 0])):=by
  rw [Z0L (show HeapC.get K5 sb=_ from f5) qO SGf.1 SGf.2,← hz6]; rfl
 obtain ⟨K6,hK6⟩:=jN (HeapC.set K5 sb (.cells false none [.slice none 0 0,.slice none 0 0,.slice none 0 0,SG,.slice none 0 0,.slice none 0 0]));have K6f:∀ j,j ≠ sb->K6.f j=K5.f j:=fun j hj=>by rw [← hK6,Z0c,if_neg hj]
 rw [hK6] at w5;obtain ⟨K7,hK7⟩:=jN (newB K6 rb (bools (List.replicate m false)));have K7f:∀ j,j ≠ rb->K7.f j=K6.f j:=fun j hj=>by rw [← hK7,Z01,if_neg hj]
 have f7:K7.f sb=some (.cells false none [.slice none 0 0,.slice none 0 0,.slice none 0 0,SG,.slice none 0 0,.slice none 0 0]):=by rw [K7f _ qO,← hK6,Z0c,if_pos rfl]
 have w7:stN K7 1 (.pointer (some ⟨sb,4,none⟩)) SR=some (HeapC.set K7 sb (.cells false none [.slice none 0 0,.slice none 0 0,.slice none 0 0,SG,SR,.slice none 0 0])):=by
  rw [Z0L (show HeapC.get K7 sb=_ from f7) (by simp) SRf.1 SRf.2]; rfl
 obtain ⟨H8,hH8⟩:=jN (HeapC.set K7 sb (.cells false none [.slice none 0 0,.slice none 0 0,.slice none 0 0,SG,SR,.slice none 0 0]));rw [hH8] at w7;have H8f:∀ j,H8.f j=if j=sb then some (.cells false none [.slice none 0 0,.slice none 0 0,.slice none 0 0,SG,SR,.slice none 0 0]) else if j=rb then some (.cells false none (bools (List.replicate m false))) else if j=gb then some (.cells false none (ints (List.replicate m 0))) else K3.f j:=fun j=>by
  rw [← hH8,Z0c]
  by_cases q1:j=sb
  · rw [if_pos q1,if_pos q1]
  · rw [if_neg q1,if_neg q1,← hK7,Z01]
    by_cases q2:j=rb
    · rw [if_pos q2,if_pos q2]
    · rw [if_neg q2,if_neg q2,K6f _ q1,← hK5,Z01]
 have G8:∀ j,j<256*c3->j ≠ sb->H8.f j=K3.f j:=fun j hj h1=>by rw [H8f,if_neg h1,if_neg qO,if_neg qO]
 have gH8:H8.f g0=some (.cells false none [s]):=by rw [G8 g0 qO qO,t3 g0 qO,gM]
 have ls8:ld1 H8 (.pointer (some ⟨g0,0,none⟩))=some s:=by rw [Z02 (cs:=[s]) ⟨false,none,gH8⟩]; rfl
 have len:=hs.len;have sk0:SkI (c3+1+1) (c3+1+1+1) sb gb rb m 0 H8 H8 (.slice none 0 0) (.slice none 0 0) (.slice none 0 0) (.slice none 0 0) (vN Gl n) (eN Gl n) (tN Gl n) (List.replicate m 0,List.replicate m false):=by
  refine ⟨by rw [H8f,if_pos rfl,hSG,hSR],.inl ⟨rfl,rfl,rfl⟩,.inl ⟨rfl,rfl,rfl⟩,.inl ⟨rfl,rfl,rfl⟩,(fun h=>absurd rfl h),(fun h=>absurd rfl h),(fun h=>absurd rfl h), ?_, ?_,fun _ _ _ _ _=>rfl⟩
  · rw [H8f,if_neg qO,if_neg qO,if_pos rfl]
  · rw [H8f,if_neg qO,if_pos rfl]
 have eLt:=eN_lt (Gl:=Gl) (n:=n) (ZnT hok hs.1);rw [hm] at eLt;have sb0:SB m (List.replicate m 0,List.replicate m false) (6*0):=⟨by simp,by simp,fun x=>by
  have:(List.replicate m (0:Int)).getD x 0=0:=by rw [qB,jM]; split <;> rfl
  rw [this]; omega⟩
 obtain ⟨⟨e9',vs9,H9,c9,df9⟩,ex9,x1,x2,x3,x4,vv,ev,tv,sk⟩:=ZoS vb db eb tb sb gb rb n m (c3+1+1) (ptrTo g0) (ptrTo p0) (.int .i64 cnt) (vN Gl n) (rtL (dCs Gl n) (16*n)) (eN Gl n) (tN Gl n) (.slice none 0 0) H8 [] (by rw [G8 _ qO qO]; exact fv3) (by rw [G8 _ qO qO]; exact fd) (by rw [G8 _ qO qO]; exact fe3) (by rw [G8 _ qO qO]; exact ft3) (Z0n _ _) (Z7O _ _) (Z0n _ _) (Z0n _ _) eLt hn qO (OkV.ptr qO) (OkV.ptr qO) (OkV.int _ _ _) qO qO qO qO qO qO qO qO qO qO qO qO qO qO n 0 (c3+1+1+1) H8 _ _ _ _ qO qO sk0 sb0;dsimp only at x1 x2 x3 x4 sk;subst x1 x2 x3;simp only [qC,qF] at ex9;have cg:CG (rtL (dCs Gl n) (16*n)) (dN Gl n) (16*n):=cg_rt (Zh4 hok hs.1);have hz:sTs (eN Gl n) (rtL (dCs Gl n) (16*n)) n 0 (List.replicate m 0,List.replicate m false)=skZ Gl n:=by rw [ZoF cg _ n 0 _ qO,skZ,hm]
 rw [hz] at sk;have G9:∀ j,j<256*c3->j ≠ sb->H9.f j=K3.f j:=fun j hj h1=>by rw [sk.base j qO h1 qO qO,G8 j hj h1]
 have sm9:Z0l c h H9:=fun j hj=>by rw [G9 j qO qO,t3 j qO]; exact sM j hj
 have own:∀ (b k:Nat) (L:List Int),H9.f b=some (.cells false none (ints L))->b<256*(c9+1)->L.length=k->k<=9223372036854775807->SlI H9 (c9+1) (.slice (some ⟨b,0,none⟩) k k) 1 k L:=fun b k L hf hb hL hk=>by
  refine ⟨qO,hk,some ⟨b,0,none⟩,k,rfl,.inr ⟨b,0,ints L,rfl,hb,⟨false,none,hf⟩, ?_⟩⟩;rw [qM,qH (by simp [hL])]
 have hg9:Z0d H9 g0 [s]:=⟨false,none,by show H9.f g0=_; rw [G9 g0 qO qO,t3 g0 qO,gM]⟩;obtain ⟨⟨e10',vs10,H10,c10,df10⟩,ex10,q1,q2,q3,q4,lv,q5,q6,q7⟩:=ZkJ g0 vb db sb n (c9+1) cnt (ptrTo p0) s vv ev tv SG SR Gl (rtL (dCs Gl n) (16*n)) H9 [] hg9 ((hs.same sm9).mono qO) hok (own vb (4*n) _ (by rw [G9 _ qO qO]; exact fv3) qO (Z0n _ _) qO) (own db (16*n) _ (by rw [G9 _ qO qO]; exact fd) qO (Z7O _ _) qO) hn qO qO qO (fun h0=>by have:=hs.blk h0; omega) qO qO hmV cnt 0 (c9+1) H9 (.slice none 0 0) qO (qG _) (by rw [← hSG,← hSR]; exact sk.fs) (.inl ⟨rfl,rfl,rfl⟩) (fun _ _ _=>rfl);dsimp only at q1 q2 q3 q4 q5 q6 q7;subst q1 q2 q3;simp only [qC,qF] at ex10;rw [ZoH cg] at q6;obtain ⟨R,hR⟩:=jN ([vv,ev,tv,SG,SR,lv]);have R6:R.length=6:=by rw [← hR]; rfl
 have Rf:R.all Z08=true:=by
  rw [← hR];simp only [List.all_cons,List.all_nil,sk.gv.flat.1,sk.ge.flat.1,sk.gt.flat.1,q6.flat.1,SGf.2,SRf.2,Bool.and_true,Bool.true_and]
 rw [hR] at q5;have l10:ldN H10 6 (.pointer (some ⟨sb,0,none⟩))=some (.agg R.toArray):=by
  rw [ldN_holds (cs:=R) ⟨false,none,q5⟩ qO,qM,qH qO]
 have fp:H10.f p0=some (.cells false none z6):=by rw [q7 p0 qO qO,G9 _ qO qO,t3 p0 qO,Mf,if_neg qO,if_pos rfl]
 have w10:stN H10 6 (.pointer (some ⟨p0,0,none⟩)) (.agg R.toArray)=some (newB H10 p0 R):=Z4R fp z6l R6 Rf;have l11:ldN (newB H10 p0 R) 6 (.pointer (some ⟨p0,0,none⟩))=some (.agg R.toArray):=by
  rw [ldN_newB_same _ _ _ _ _ qO,qM,qH qO]
 obtain ⟨H11,hH11⟩:=jN (newB H10 p0 R);rw [hH11] at w10 l11;have H11f:∀ j,j ≠ p0->H11.f j=H10.f j:=fun j hj=>by rw [← hH11,Z01,if_neg hj]
 obtain ⟨Z1,hZ1⟩:=jN (Value.slice (some ⟨vb,0,none⟩) (4*n) (4*n));obtain ⟨Z2,hZ2⟩:=jN (Value.slice (some ⟨db,0,none⟩) (16*n) (16*n));obtain ⟨Z3,hZ3⟩:=jN (Value.slice (some ⟨eb,0,none⟩) (6*n) (6*n));obtain ⟨Z4,hZ4⟩:=jN (Value.slice (some ⟨tb,0,none⟩) (4*n) (4*n));rw [hZ1] at c59 ex9 ex10;rw [hZ2] at c75 ex9 ex10;rw [hZ3] at c73 ex9;rw [hZ4] at c74 ex9;obtain ⟨t2n,ht2n⟩:=jN (Z1x (tCs Gl n) (4*n));rw [ht2n] at c74;have xv0:∀ a b:Value,Z19 (.tuple #[a,b]) 0=some a:=fun _ _=>rfl
 have xv1:∀ a b:Value,Z19 (.tuple #[a,b]) 1=some b:=fun _ _=>rfl
 have tk:∀ h:FH,Z0a h []=some h:=fun _=>rfl
 have fx:=ai l0 (ai c59 (ai xv0 (ai xv1 (ai l1 (ai c73 (ai l2 (ai c74 (ai l3 (ai c75 (ai mk1 (ai hgb (ai hSG (ai hK5 (ai w5 (ai mk2 (ai hrb (ai hSR (ai hK7 (ai w7 (ai ls8 (ai len (ai ex9 (ai ex10 (ai l10 (ai w10 (ai tk l11))))))))))))))))))))))))));refine Ans.go ?_;clear fx;have keep:∀ {v:Value} {sz k:Nat} {L:List Value},GrC (c3+1+1) H9 c9 v sz k L->GrC c H11 (c10+1) v sz k L:=fun {v sz k L} g =>
  Z5X ((g.keep (h':=H11) fun hv=>by
   have:=g.blk hv;rw [H11f _ qO,q7 _ qO qO]).mono (c':=c10+1) qO) qO
 have tv4:(vN Gl n).take (4*n)=vN Gl n:=qH (by rw [vN,Z0n]; exact qG _);have te6:(eN Gl n).take (6*n)=eN Gl n:=qH (by rw [eN,Z0n]; exact qG _);have tt4':(tN Gl n).take (4*n)=tN Gl n:=qH (by rw [tN,Z0n]; exact qG _);have g1:=keep sk.gv;have g2:=keep sk.ge;have g3:=keep sk.gt;rw [tv4] at g1;rw [te6] at g2;rw [tt4'] at g3;refine .done ⟨vv,ev,tv,gb,rb,lv,by rw [hm,hSG,hSR,← hR],by dsimp only; omega,fun j hj=>?_,⟨g1,g2,g3, ?_, ?_, ?_,⟨qO,by dsimp only; omega⟩,⟨qO,by dsimp only; omega⟩⟩⟩
 · show H11.f j=h.f j;rw [H11f j qO,q7 j qO qO];exact sm9 j hj
 · show H11.f gb=_;rw [H11f _ qO,q7 _ qO qO];exact sk.fg
 · show H11.f rb=_;rw [H11f _ qO,q7 _ qO qO];exact sk.fr
 · rw [hcnt];exact Z5X ((q6.keep (h':=H11) fun hv=>by
    have:=q6.blk hv;rw [H11f _ qO]).mono (c':=c10+1) qO) qO

theorem Zpd (s:Value) (n:Nat) (Gl:List Int) (h:FH) (c:Nat) (df:List Nat) (hs:SlI h c s 20 n Gl) (hok:¬ (n<=1000/\Z0w Gl n=true)) :
 Ans (G (.fn 21) [.agg #[s]] h c df) fun r=>r=⟨.ret,[.tuple #[.agg Z2H.toArray,.int .i64 7]],r.h,r.c,[]⟩/\c<=r.c/\Z0l c h r.h:=by
 refine Ans.call' (fun r e=>Zou e) ?_;have Z0X:((Value.agg #[s]).cells.toList.all Z08)=true:=by simp [Value.cells,hs.flat]
 have Z0Y:(Value.agg #[s]).cells.toList=[s]:=rfl;unfold ZnI;rw [Z0X,Z0Y];simp only [cond_true,qW];obtain ⟨g0,hg0⟩:=jN (256*c);obtain ⟨p0,hp0⟩:=jN (256*c+1);obtain ⟨M,hM⟩:=jN (newB (newB h g0 [s]) p0 Z2H);rw [hp0,hg0,show [Value.slice none 0 0,Value.slice none 0 0,Value.slice none 0 0,Value.slice none 0 0,Value.slice none 0 0,Value.slice none 0 0]=Z2H from rfl,hM];have Mf:∀ j,M.f j=if j=p0 then some (.cells false none Z2H) else if j=g0 then some (.cells false none [s]) else h.f j:=fun j=>by rw [← hM,Z01,Z01]
 have sM:Z0l c h M:=fun j hj=>by rw [Mf,if_neg qO,if_neg qO]
 have l0:ldN M 1 (.pointer (some ⟨g0,0,none⟩))=some (.agg #[s]):=Z0N (cs:=[]) ⟨false,none,by show M.f g0=_; rw [Mf,if_neg qO,if_pos rfl]⟩;have ck:=Z05 (Z7y s n Gl M (c+1+1) [] ((hs.same sM).mono qO));rw [if_neg hok] at ck;have b6:Z1K Z2H []=some (.agg Z2H.toArray):=rfl;have fp:M.f p0=some (.cells false none Z2H):=by rw [Mf,if_pos rfl]
 have w1:stN M 6 (.pointer (some ⟨p0,0,none⟩)) (.agg Z2H.toArray)=some (newB M p0 Z2H):=Z4R fp rfl rfl rfl;have l1:ldN (newB M p0 Z2H) 6 (.pointer (some ⟨p0,0,none⟩))=some (.agg Z2H.toArray):=Z24 (by rw [Z01,if_pos rfl]) rfl;obtain ⟨N6,hN6⟩:=jN (Z2H);rw [hN6] at b6 w1 l1 ⊢;obtain ⟨H,hH⟩:=jN (newB M p0 N6);rw [hH] at w1 l1;have fx:=ai l0 (ai ck (ai b6 (ai w1 l1)));refine Ans.go ?_;clear fx;refine .done ⟨rfl,by dsimp only; omega,fun j hj=>?_⟩;show H.f j=h.f j;rw [← hH,Z01,if_neg qO];exact sM j hj
theorem ofQ_ok (s:Value) (n:Nat) (Gl:List Int) (h:FH) (c:Nat) (df:List Nat) (hs:SlI h c s 20 n Gl) (hok:Z0w Gl n=true) (hn:n<=60) :
 Ans (G (.fn 21) [.agg #[s]] h c df) fun r=>∃ vv ev tv gb rb lv,r=⟨.ret,[.tuple #[.agg #[vv,ev,tv,.slice (some ⟨gb,0,none⟩) (nE Gl n) (nE Gl n),.slice (some ⟨rb,0,none⟩) (nE Gl n) (nE Gl n),lv],.int .i64 0]],r.h,r.c,[]⟩/\c<=r.c/\Z0l c h r.h/\SkV c r.c r.h vv ev tv gb rb lv n Gl:=by
 refine Ans.call' (fun r e=>Zou e) ?_;have Z0X:((Value.agg #[s]).cells.toList.all Z08)=true:=by simp [Value.cells,hs.flat]
 have Z0Y:(Value.agg #[s]).cells.toList=[s]:=rfl;unfold ZnI;rw [Z0X,Z0Y];simp only [cond_true,qW];obtain ⟨g0,hg0⟩:=jN (256*c);obtain ⟨p0,hp0⟩:=jN (256*c+1);obtain ⟨M,hM⟩:=jN (newB (newB h g0 [s]) p0 Z2H);rw [hp0,hg0,show [Value.slice none 0 0,Value.slice none 0 0,Value.slice none 0 0,Value.slice none 0 0,Value.slice none 0 0,Value.slice none 0 0]=Z2H from rfl,hM];have Mf:∀ j,M.f j=if j=p0 then some (.cells false none Z2H) else if j=g0 then some (.cells false none [s]) else h.f j:=fun j=>by rw [← hM,Z01,Z01]
 have sM:Z0l c h M:=fun j hj=>by rw [Mf,if_neg qO,if_neg qO]
 have l0:ldN M 1 (.pointer (some ⟨g0,0,none⟩))=some (.agg #[s]):=Z0N (cs:=[]) ⟨false,none,by show M.f g0=_; rw [Mf,if_neg qO,if_pos rfl]⟩;have ck:=Z05 (Z7y s n Gl M (c+1+1) [] ((hs.same sM).mono qO));rw [if_pos ⟨qO,hok⟩] at ck;obtain ⟨r0,hr0,vv,ev,tv,gb,rb,lv,e0,k0,s0,sk⟩:=Z9i s n Gl M (c+1+1+1+1) [] ((hs.same sM).mono qO) hok hn;obtain ⟨K,hK⟩:=jN (r0.h);obtain ⟨k,hk⟩:=jN (r0.c);rw [hK,hk] at e0 sk;rw [hk] at k0;rw [hK] at s0;rw [e0] at hr0;have c39:=Z05 hr0;have fp:K.f p0=some (.cells false none Z2H):=by rw [s0 p0 qO,Mf,if_pos rfl]
 obtain ⟨R,hR⟩:=jN ([vv,ev,tv,.slice (some ⟨gb,0,none⟩) (nE Gl n) (nE Gl n),.slice (some ⟨rb,0,none⟩) (nE Gl n) (nE Gl n),lv]);have hR':Value.agg #[vv,ev,tv,.slice (some ⟨gb,0,none⟩) (nE Gl n) (nE Gl n),.slice (some ⟨rb,0,none⟩) (nE Gl n) (nE Gl n),lv] = .agg R.toArray:=by rw [← hR]
 have R6:R.length=6:=by rw [← hR]; rfl
 have Rf:R.all Z08=true:=by
  rw [← hR];simp only [List.all_cons,List.all_nil,sk.gv.flat.1,sk.ge.flat.1,sk.gt.flat.1,sk.gl.flat.1,Bool.and_true,Bool.true_and];rfl
 rw [hR'] at c39;have w1:stN K 6 (.pointer (some ⟨p0,0,none⟩)) (.agg R.toArray)=some (newB K p0 R):=Z4R fp rfl R6 Rf;have l1:ldN (newB K p0 R) 6 (.pointer (some ⟨p0,0,none⟩))=some (.agg R.toArray):=Z24 (by rw [Z01,if_pos rfl]) R6;obtain ⟨H,hH⟩:=jN (newB K p0 R);rw [hH] at w1 l1;have Hf:∀ j,j ≠ p0->H.f j=K.f j:=fun j hj=>by rw [← hH,Z01,if_neg hj]
 have fx:=ai l0 (ai ck (ai c39 (ai w1 l1)));refine Ans.go ?_;clear fx;have kp:∀ {v:Value} {sz k':Nat} {L:List Value},GrC (c+1+1+1+1) K k v sz k' L->GrC c H k v sz k' L:=fun {v sz k' L} g =>
  Z5X (g.keep (h':=H) fun hv=>Hf _ (by have:=g.blk hv; omega)) qO
 refine .done ⟨vv,ev,tv,gb,rb,lv,by rw [hR'],by dsimp only; omega,fun j hj=>?_,⟨kp sk.gv,kp sk.ge,kp sk.gt, ?_, ?_,kp sk.gl,⟨by have:=sk.b1; omega,sk.b1.2⟩,⟨by have:=sk.b2; omega,sk.b2.2⟩⟩⟩
 · show H.f j=h.f j;rw [Hf j qO,s0 j qO];exact sM j hj
 · show H.f gb=_;rw [Hf _ (by have:=sk.b1; omega)]; exact sk.fg
 · show H.f rb=_;rw [Hf _ (by have:=sk.b2; omega)]; exact sk.fr
theorem ZmJ (s:Value) (n t c:Nat) (Gl:List Int) (h:FH) (df:List Nat) (hG:Gl.length=n*20) (ht:t<n) (hn:n<=60) (os:OkV c s) :
 ∀ (r f:Nat),f+r=4->Ans (G (Zbq none) [.int .i64 (frC Gl (4*t+f)),s,.int .i64 n,.int .i64 t,av (Z0K Gl t),.int .i64 f] h c df) fun q=>q=⟨.exit 2,[.int .i64 (frC Gl (4*t+4)),s,.int .i64 n,.int .i64 t,av (Z0K Gl t),.int .i64 4],h,c,df⟩:=by
 intro r;have hrl:=Z0E hG ht;have orow:OkV c (av (Z0K Gl t)):=OkV.av _ _
 induction r with
 | zero =>
  intro f hf;obtain rfl:f=4:=qO;refine Ans.lpG rfl rfl (Z75 ..) ?_;unfold Z8g;have fx:=True.intro;refine Ans.go ?_;clear fx
  (have fx:=ai os orow; refine Ans.ex0 ?_; clear fx)
  rfl
 | succ r ih =>
  intro f hf;have hf4:f<4:=qO;have f4:(f:Int)<4:=qO;have hk:=ih (f+1) qO;have x1:=Z2p (Z0K Gl t) 4 5 .i64 (f:Int) qO qO hrl;rw [qE,Z23 hf4] at x1;have hfl:=Z0i hG ht hf4;obtain ⟨xb,hxb⟩:=jN (256*(c+1)+1);have w1:stN (newB h xb [.int .i64 0,.int .i64 0,.int .i64 0,.int .i64 0,.int .i64 0]) 5 (.pointer (some ⟨xb,0,none⟩)) (av (Z04 Gl t f))=some (newB h xb (ints (Z04 Gl t f))):=stN_all _ _ 5 _ _ hfl rfl;have l0:ld1 (newB h xb (ints (Z04 Gl t f))) (.pointer (some ⟨xb,0,none⟩))=some (.int .i64 (Z0D (Z04 Gl t f))):=by rw [ld1_newB_same,ints_getD _ _ qO]; rfl
  have sB:Z0l c h (newB h xb (ints (Z04 Gl t f))):=fun j hj=>by rw [Z01,if_neg qO]
  have bd:=Zos Gl (4*t+f);rw [show 4*t+(f+1)=4*t+f+1 by omega,Zgp,show (4*t+f) / 4=t by omega,show (4*t+f) % 4=f by omega] at hk;obtain ⟨S,hS⟩:=jN (frC Gl (4*t+f));rw [hS] at hk bd ⊢;obtain ⟨H1,hH1⟩:=jN (newB h xb (ints (Z04 Gl t f)));rw [hH1] at w1 l0 sB;obtain ⟨Z,hZ⟩:=jN (Z0D (Z04 Gl t f));rw [hZ] at l0 hk;obtain ⟨F,hF⟩:=jN (Z04 Gl t f);rw [hF] at x1 w1;refine Ans.lpG rfl rfl (Z75 ..) ?_;unfold Z8g
  by_cases hz:Z<0
  · rw [if_pos hz] at hk;have fx:=ai x1 (ai hxb (ai w1 l0));refine Ans.go ?_;clear fx
    (have fx:=ai os (ai orow sB); refine Ans.nx0 ?_; clear fx)
    exact hk
  · rw [if_neg hz,Int.add_zero] at hk;have fx:=ai x1 (ai hxb (ai w1 l0));refine Ans.go ?_;clear fx
    (have fx:=ai os (ai orow sB); refine Ans.nx0 ?_; clear fx)
    exact hk
theorem Zpz (s:Value) (n c:Nat) (Gl:List Int) (h:FH) (df:List Nat) (hs:SlI h c s 20 n Gl) (hn:n<=60) :
 ∀ (r t:Nat),t+r=n->Ans (G (Zbr none) [.int .i64 (frC Gl (4*t)),s,.int .i64 n,.int .i64 t] h c df) fun q=>q=⟨.exit 0,[.int .i64 (frC Gl (4*n)),s,.int .i64 n,.int .i64 n],h,c,df⟩:=by
 intro r;have os:OkV c s:=hs.okV;have hG:=hs.1
 induction r with
 | zero =>
  intro t ht;obtain rfl:t=n:=qO;refine Ans.lpG rfl rfl (Z76 ..) ?_;unfold Z8h;have fx:=True.intro;refine Ans.go ?_;clear fx
  (have fx:=os; refine Ans.ex0 ?_; clear fx)
  rfl
 | succ r ih =>
  intro t ht;have htn:t<n:=qO;have tl:(t:Int)<n:=qO;have tn:(n:Int)<=60:=qO;have hk:=ih (t+1) qO;have ix:=hs.ixs .i64 t qO qO;rw [qE] at ix;have l1:ldN h 20 (.pointer (some ⟨Z0p s,Z4a s+t*20,none⟩))=some (av (Z0K Gl t)):=by
   rw [hs.rdN 20 _ qO qO];unfold Z0K;rw [show t*20=20*t by omega]
  obtain ⟨kb,hkb⟩:=jN (256*(c+1)+2);obtain ⟨w1,w2⟩:=Z9Z h kb hG htn;obtain ⟨H1,hH1⟩:=jN (newB h kb (ints (Z0K Gl t)));have sB:Z0l c h H1:=fun j hj=>by rw [← hH1,Z01,if_neg qO]
  rw [hH1] at w1 w2;have lo:=Ans.eq (ZmJ s n t (c+1+1+1) Gl H1 df hG htn hn (os.mono qO) 4 0 qO);simp only [qC,qF,qW] at lo;rw [show 4*(t+1)=4*t+4 by omega] at hk;obtain ⟨A,hA⟩:=jN (frC Gl (4*t));obtain ⟨B,hB⟩:=jN (frC Gl (4*t+4));rw [hA,hB] at lo;rw [hB] at hk;rw [hA];obtain ⟨R,hR⟩:=jN (av (Z0K Gl t));rw [hR] at l1 w1 w2 lo;refine Ans.lpG rfl rfl (Z76 ..) ?_;unfold Z8h;rw [Z9N];obtain ⟨Z,hZ⟩:=jN (z20);rw [hZ] at w1 ⊢;have fx:=ai ix (ai l1 (ai hkb (ai w1 (ai w2 lo))));refine Ans.go ?_;clear fx
  (have fx:=ai os sB; refine Ans.nx0 ?_; clear fx)
  exact hk
theorem ZmI (s:Value) (n:Nat) (Gl:List Int) (h:FH) (c:Nat) (df:List Nat) (hs:SlI h c s 20 n Gl) (hn:n<=60) :
 G (.fn 77) [.agg #[s]] h c df=some ⟨.ret,[.int .i64 (frC Gl (4*n))],h,c,[]⟩:=by
 refine Z0t (fun r e=>f77_go e) (OkV.int _ _ _) ?_;have Z0X:((Value.agg #[s]).cells.toList.all Z08)=true:=by simp [Value.cells,hs.flat]
 have Z0Y:(Value.agg #[s]).cells.toList=[s]:=rfl;unfold ZpL;rw [Z0X,Z0Y];simp only [cond_true,qW];obtain ⟨g0,hg0⟩:=jN (256*c);obtain ⟨M,hM⟩:=jN (newB h g0 [s]);rw [hg0,hM];have sM:Z0l c h M:=fun j hj=>by rw [← hM,Z01,if_neg qO]
 have l0:ld1 M (.pointer (some ⟨g0,0,none⟩))=some s:=by rw [Z02 (cs:=[s]) ⟨false,none,by show M.f g0=_; rw [← hM,Z01,if_pos rfl]⟩]; rfl
 have len:=hs.len;have lo:=Ans.eq (Zpz s n (c+1+1+1) Gl M [] ((hs.same sM).mono qO) hn n 0 qO);simp only [qC,qF,Nat.mul_zero] at lo;rw [show frC Gl 0=0 from rfl] at lo;have fx:=ai l0 (ai len lo);refine Ans.go ?_;clear fx;exact Ans.pure rfl sM
theorem ZpA (Gl:List Int) (n:Nat):0<frC Gl (4*n) ↔ xFr Gl n=true:=by
 rw [ZoO];constructor
 · intro h;apply Classical.byContradiction;intro hn;have:frC Gl (4*n)=0:=ZiC (p:=fun x=>Z0D (Z04 Gl (x / 4) (x % 4))<0) fun x hx q=>hn ⟨x / 4,x % 4,qO,qO,q⟩
   omega
 · rintro ⟨t,f,ht,hf,hz⟩
   have key:∀ m,4*t+f<m->0<frC Gl m:=fun m=>by
    induction m with
    | zero=>intro h; omega
    | succ m ih =>
     intro h;have bd:=Zos Gl m;rw [Zgp]
     by_cases e:m=4*t+f
     · rw [e,show (4*t+f) / 4=t by omega,show (4*t+f) % 4=f by omega,if_pos hz];rw [e] at bd; omega
     · have:=ih qO
       split <;> omega
   exact key _ qO
theorem Zpp (g0 sb c0 c cnt n:Nat) (lv:Value) (Gl V D:List Int) (h:FH) (df:List Nat) (g:GrC c0 h c lv 6 cnt (lkL n Gl V D cnt)) (hcnt:cnt<=240) (l0:g0<256*c) (l1:sb<256*c) :
 ∀ (r k:Nat) (x:Bool × Bool),k+r=cnt->Ans (G (Z8M none) [ptrTo g0,.int .i64 0,ptrTo sb,.bool x.1,.bool x.2,lv,.int .i64 cnt,.int .i64 k] h c df) fun q=>q=⟨.exit 0,[ptrTo g0,.int .i64 0,ptrTo sb,.bool (lkF n Gl V D r k x).1,.bool (lkF n Gl V D r k x).2,lv,.int .i64 cnt,.int .i64 cnt],h,c,df⟩:=by
 intro r;have ol:OkV c lv:=by
  rcases g with ⟨rfl,_,_⟩ | ⟨_,_,_,_,i,rfl,_,h,_⟩
  · exact OkV.sl0 _ _ _
  · exact OkV.sl h
 induction r with
 | zero =>
  intro k x hk;obtain rfl:k=cnt:=qO;obtain ⟨a,b⟩:=x;refine Ans.lpG rfl rfl (Z2W ..) ?_;unfold Z4x;have fx:=True.intro;refine Ans.go ?_;clear fx
  (have fx:=ai l0 (ai l1 ol); refine Ans.ex0 ?_; clear fx)
  rfl
 | succ r ih =>
  intro k x hk;have kl:(k:Int)<cnt:=qO;have tn:(cnt:Int)<=240:=qO;obtain ⟨i,rfl,h3,h4,h5⟩:∃ i,lv = .slice (some ⟨i,0,none⟩) cnt cnt/\256*c0<=i/\i<256*c/\h.f i=some (.cells false (some 6) (lkL n Gl V D cnt)):=by
   rcases g with ⟨_,e,_⟩ | ⟨_,_,_,_,q⟩
   · omega
   · exact q
  have ix:ixS 6 (.slice (some ⟨i,0,none⟩) cnt cnt) (.int .i64 (k:Int))=some (.pointer (some ⟨i,k*6,none⟩)):=by
   rw [ixS_sl 6 i 0 cnt cnt .i64 (k:Int) qO qO,Nat.zero_add,qE]
  have ll:=Zab n Gl V D cnt;have r0:ldN h 6 (.pointer (some ⟨i,k*6,none⟩))=some (.agg (lkD n Gl V D k).toArray):=by
   rw [ldN_holds (cs:=lkL n Gl V D cnt) ⟨false,some 6,h5⟩ qO,ZfD n Gl V D qO]
  obtain ⟨kb,hkb⟩:=jN (256*(c+1)+2);have st:stN (newB h kb [.int .i64 0,.int .i64 0,.int .i64 0,.int .i64 0,.bool false,.bool false]) 6 (.pointer (some ⟨kb,0,none⟩)) (.agg (lkD n Gl V D k).toArray)=some (newB h kb (lkD n Gl V D k)):=by
   rw [Z0q _ 6 _ 0 _ _ (by simp [Value.cells,Z2K]) (by simp) (by simp only [Value.cells]; exact Z9H _ _ _ _ _)];simp only [Value.cells,Z0Z,List.take_zero,List.nil_append,Nat.zero_add,Z2K];simp [Z2K]
  have gk:Z0d (newB h kb (lkD n Gl V D k)) kb (lkD n Gl V D k):=Z0d.newB_same _ _ _;have r3:ld1 (newB h kb (lkD n Gl V D k)) (.pointer (some ⟨kb,3,none⟩))=some (.int .i64 (lkE n Gl V D k)):=by rw [Z02 gk]; rfl
  have r4:ld1 (newB h kb (lkD n Gl V D k)) (.pointer (some ⟨kb,4,none⟩))=some (.bool (lkC n Gl V D k)):=by rw [Z02 gk]; rfl
  obtain ⟨a,b⟩:=x;have hk':∀ y1 y2,y1=(a && spB (lkE n Gl V D k) (lkC n Gl V D k))->y2=(b && dkB (lkE n Gl V D k) (lkC n Gl V D k))->Ans (G (Z8M none) [ptrTo g0,.int .i64 0,ptrTo sb,.bool y1,.bool y2,.slice (some ⟨i,0,none⟩) cnt cnt,.int .i64 cnt,.int .i64 (k+1:Nat)] h c df) fun q=>q=⟨.exit 0,[ptrTo g0,.int .i64 0,ptrTo sb,.bool (lkF n Gl V D (r+1) k (a,b)).1,.bool (lkF n Gl V D (r+1) k (a,b)).2,.slice (some ⟨i,0,none⟩) cnt cnt,.int .i64 cnt,.int .i64 cnt],h,c,df⟩:=fun y1 y2 e1 e2=>by
   subst e1 e2;exact ih (k+1) (_,_) qO
  obtain ⟨P1,hP1⟩:=jN (lkF n Gl V D (r+1) k (a,b));rw [hP1] at hk' ⊢;clear hP1;obtain ⟨E,hE⟩:=jN (lkE n Gl V D k);obtain ⟨C,hC⟩:=jN (lkC n Gl V D k);rw [hE] at r3 hk';rw [hC] at r4 hk';clear hE hC;obtain ⟨h1,hh1⟩:=jN (newB h kb (lkD n Gl V D k));have sB:Z0l c h h1:=fun j hj=>by rw [← hh1,Z01,if_neg qO]
  rw [hh1] at st r3 r4;obtain ⟨W,hW⟩:=jN (Value.agg (lkD n Gl V D k).toArray);rw [hW] at r0 st;rcases (by omega:E=2 ∨ E=1 ∨ (¬ E=2 /\ ¬ E=1)) with rfl | rfl | ⟨q1,q2⟩
  · cases C <;> cases a <;> cases b
    all_goals
     refine Ans.lpG rfl rfl (Z2W ..) ?_;unfold Z4x;have fx:=ai ix (ai r0 (ai hkb (ai st (ai r3 r4))));refine Ans.go ?_;clear fx
     (have fx:=ai l0 (ai l1 (ai ol sB)); refine Ans.nx0 ?_; clear fx)
     exact hk' _ _ (by simp [spB,dkB]) (by simp [spB,dkB])
  · cases C <;> cases a <;> cases b
    all_goals
     refine Ans.lpG rfl rfl (Z2W ..) ?_;unfold Z4x;have fx:=ai ix (ai r0 (ai hkb (ai st (ai r3 r4))));refine Ans.go ?_;clear fx
     (have fx:=ai l0 (ai l1 (ai ol sB)); refine Ans.nx0 ?_; clear fx)
     exact hk' _ _ (by simp [spB,dkB]) (by simp [spB,dkB])
  · cases C <;> cases a <;> cases b
    all_goals
     refine Ans.lpG rfl rfl (Z2W ..) ?_;unfold Z4x;have fx:=ai ix (ai r0 (ai hkb (ai st (ai r3 (ai r4 (ai q1 q2))))));refine Ans.go ?_;clear fx
     (have fx:=ai l0 (ai l1 (ai ol sB)); refine Ans.nx0 ?_; clear fx)
     exact hk' _ _ (by simp [spB,dkB,q1,q2]) (by simp [spB,dkB,q1,q2])
theorem Zpo (g0 rb m c:Nat) (R:List Bool) (h:FH) (df:List Nat) (a b:Bool) (fr:h.f rb=some (.cells false none (bools R))) (hR:R.length=m) (hm:m<=360) (l0:g0<256*c) (lr:rb<256*c) :
 ∀ (r k:Nat),k+r=m->(∀ j,j<k->R.getD j false=false)->Ans (G (ZbR none) [ptrTo g0,.int .i64 0,.bool a,.bool b,.slice (some ⟨rb,0,none⟩) m m,.int .i64 m,.int .i64 k] h c df) fun q =>
  ((∀ j,j<m->R.getD j false=false)/\q=⟨.exit 2,[ptrTo g0,.int .i64 0,.bool a,.bool b,.slice (some ⟨rb,0,none⟩) m m,.int .i64 m,.int .i64 m],h,c,df⟩) ∨
  ((∃ j,j<m/\R.getD j false=true) /\ ∃ k',q=⟨.ret,[ptrTo g0,.int .i64 4,.bool a,.bool b,.slice (some ⟨rb,0,none⟩) m m,.int .i64 m,.int .i64 k'],h,c,df⟩):=by
 intro r
 induction r with
 | zero =>
  intro k hk hh;obtain rfl:k=m:=qO;refine Ans.lpG rfl rfl (Z7j ..) ?_;unfold Z8P;have fx:=True.intro;refine Ans.go ?_;clear fx
  (have fx:=ai l0 lr; refine Ans.ex0 ?_; clear fx)
  exact .inl ⟨hh,rfl⟩
 | succ r ih =>
  intro k hk hh;have kl:(k:Int)<m:=qO;have tn:(m:Int)<=360:=qO;have ix:ixS 1 (.slice (some ⟨rb,0,none⟩) m m) (.int .i64 (k:Int))=some (.pointer (some ⟨rb,k,none⟩)):=by
   have:=Z1N rb m .i64 (k:Int) qO qO;rwa [qE] at this
  have r0:ld1 h (.pointer (some ⟨rb,k,none⟩))=some (.bool (R.getD k false)):=by
   rw [Z02 (cs:=bools R) ⟨false,none,fr⟩,Z7z _ _ qO]
  refine Ans.lpG rfl rfl (Z7j ..) ?_;unfold Z8P
  cases y:R.getD k false with
  | true =>
   rw [y] at r0;have fx:=ai ix r0;refine Ans.go ?_;clear fx
   (have fx:=ai l0 lr; refine Ans.rt0 ?_; clear fx)
   exact .inr ⟨⟨k,qO,y⟩,k,rfl⟩
  | false =>
   rw [y] at r0;have hk':=ih (k+1) qO (fun j hj=>by
    by_cases e:j=k
    · rw [e]; exact y
    · exact hh j qO)
   have fx:=ai ix r0;refine Ans.go ?_;clear fx
   (have fx:=ai l0 lr; refine Ans.nx0 ?_; clear fx)
   exact hk'
theorem ZhB (s:Value) (n:Nat) (Gl:List Int) (h:FH) (c:Nat) (df:List Nat) (hs:SlI h c s 20 n Gl) (hok:Z0w Gl n=true) (hn:n<=60) :
 G (.fn 52) [.agg #[s]] h c df=some ⟨.ret,[.int .i64 (ZhC Gl n)],h,c,[]⟩:=by
 refine Z0t (fun r e=>f52_go e) (OkV.int _ _ _) ?_;have Z0X:((Value.agg #[s]).cells.toList.all Z08)=true:=by simp [Value.cells,hs.flat]
 have Z0Y:(Value.agg #[s]).cells.toList=[s]:=rfl;unfold Zq2;rw [Z0X,Z0Y];simp only [cond_true,qW];obtain ⟨g0,hg0⟩:=jN (256*c);obtain ⟨M,hM⟩:=jN (newB h g0 [s]);rw [hg0,hM];have Mg:M.f g0=some (.cells false none [s]):=by rw [← hM,Z01,if_pos rfl]
 have sM:Z0l c h M:=fun j hj=>by rw [← hM,Z01,if_neg qO]
 have l0:ldN M 1 (.pointer (some ⟨g0,0,none⟩))=some (.agg #[s]):=Z0N (cs:=[]) ⟨false,none,Mg⟩;obtain ⟨r0,hr0,vv,ev,tv,gb,rb,lv,e0,k0,s0,sk⟩:=Z9i s n Gl M (c+1+1) [] ((hs.same sM).mono qO) hok hn;obtain ⟨K,hK⟩:=jN (r0.h);obtain ⟨k,hk⟩:=jN (r0.c);rw [hK,hk] at e0 sk;rw [hk] at k0;rw [hK] at s0;rw [e0] at hr0;have c51:=Z05 hr0;obtain ⟨p0,hp0⟩:=jN (256*(c+1)+2);obtain ⟨R,hR⟩:=jN ([vv,ev,tv,.slice (some ⟨gb,0,none⟩) (nE Gl n) (nE Gl n),.slice (some ⟨rb,0,none⟩) (nE Gl n) (nE Gl n),lv]);have hR':Value.agg #[vv,ev,tv,.slice (some ⟨gb,0,none⟩) (nE Gl n) (nE Gl n),.slice (some ⟨rb,0,none⟩) (nE Gl n) (nE Gl n),lv] = .agg R.toArray:=by rw [← hR]
 have R6:R.length=6:=by rw [← hR]; rfl
 have Rf:R.all Z08=true:=by
  rw [← hR];simp only [List.all_cons,List.all_nil,sk.gv.flat.1,sk.ge.flat.1,sk.gt.flat.1,sk.gl.flat.1,Bool.and_true,Bool.true_and];rfl
 rw [hR'] at c51;have w1:stN (newB K p0 Z2H) 6 (.pointer (some ⟨p0,0,none⟩)) (.agg R.toArray)=some (newB K p0 R):=st6 R6 Rf;rw [show [Value.slice none 0 0,Value.slice none 0 0,Value.slice none 0 0,Value.slice none 0 0,Value.slice none 0 0,Value.slice none 0 0]=Z2H from rfl];obtain ⟨N6,hN6⟩:=jN (Z2H);rw [hN6] at w1 ⊢;obtain ⟨H,hH⟩:=jN (newB K p0 R);rw [hH] at w1;have Hf:∀ j,j ≠ p0->H.f j=K.f j:=fun j hj=>by rw [← hH,Z01,if_neg hj]
 have Hp:H.f p0=some (.cells false none R):=by rw [← hH,Z01,if_pos rfl]
 have hRi:∀ i,ld1 H (.pointer (some ⟨p0,i,none⟩))=R[i]?:=fun i=>Z02 (cs:=R) ⟨false,none,Hp⟩
 have m4:ld1 H (.pointer (some ⟨p0,4,none⟩))=some (.slice (some ⟨rb,0,none⟩) (nE Gl n) (nE Gl n)):=by rw [hRi,← hR]; rfl
 have m5:ld1 H (.pointer (some ⟨p0,5,none⟩))=some lv:=by rw [hRi,← hR]; rfl
 have ll:=sk.gl.len;have bb2:=sk.b2;have gl:GrC (c+1+1) H (k+1+1) lv 6 (nV Gl n) (lkL n Gl (vN Gl n) (dN Gl n) (nV Gl n)):=(sk.gl.keep fun hv=>Hf _ (by have:=sk.gl.blk hv; omega)).mono qO;have fR:H.f rb=some (.cells false none (bools (skZ Gl n).2)):=by rw [Hf _ qO]; exact sk.fr
 have hrl:(skZ Gl n).2.length=nE Gl n:=by rw [ZoY,(Zfu _ _ _ _).2,jJ]
 have hV:nV Gl n<=4*n:=Z1o _ _;have hE:nE Gl n<=6*n:=Z1o _ _;have lo1:=Ans.eq (Zpp g0 p0 (c+1+1) (k+1+1) (nV Gl n) n lv Gl (vN Gl n) (dN Gl n) H [] gl qO qO qO (nV Gl n) 0 (true,true) qO);simp only [qC,qF] at lo1;rw [show lkF n Gl (vN Gl n) (dN Gl n) (nV Gl n) 0 (true,true)=xLk Gl n from rfl] at lo1;obtain ⟨q,hq,q1⟩:=Zpo g0 rb (nE Gl n) (k+1+1+1) (skZ Gl n).2 H [] (xLk Gl n).1 (xLk Gl n).2 fR hrl qO qO qO (nE Gl n) 0 qO (fun j hj=>qO);simp only [qC,qF] at hq;have sH:Z0l c h H:=fun j hj=>by rw [Hf j qO,s0 j qO]; exact sM j hj
 have gH:H.f g0=some (.cells false none [s]):=by rw [Hf _ qO,s0 _ qO,Mg]
 have n1:ldN H 1 (.pointer (some ⟨g0,0,none⟩))=some (.agg #[s]):=Z0N (cs:=[]) ⟨false,none,gH⟩;have c77:=Z05 (ZmI s n Gl H (k+1+1+1+1) [] ((hs.same sH).mono qO) hn);have fp:=ZpA Gl n;have tk:∀ h:FH,Z0a h []=some h:=fun _=>rfl
 have rvi:=ZoN Gl n;unfold ZhC ZdF;obtain ⟨V,hV'⟩:=jN (nV Gl n);obtain ⟨E,hE'⟩:=jN (nE Gl n);rw [hV'] at ll lo1;rw [hE'] at m4 hq q1 rvi;obtain ⟨F,hF⟩:=jN (frC Gl (4*n));rw [hF] at c77 fp;obtain ⟨⟨x1,x2⟩,hx⟩:∃ x,xLk Gl n=x:=⟨_,rfl⟩;rw [hx] at lo1 hq q1 ⊢;dsimp only at lo1 hq q1 ⊢;rcases q1 with ⟨z,rfl⟩ | ⟨z,k',rfl⟩
 · have e1:xRv Gl n=false:=by
    cases w:xRv Gl n with
    | false=>rfl
    | true =>
     obtain ⟨v,v1,v2⟩:=rvi.1 w;rw [z v v1] at v2; cases v2
   rw [e1,if_neg (by simp)]
   by_cases hf:0<F
   · have e2:=fp.1 hf;rw [e2,show (!true && x1)=false by simp,if_neg (by simp),if_neg (by simp)]
     cases x2 with
     | true =>
      rw [if_pos rfl];have fx:=ai l0 (ai c51 (ai hp0 (ai w1 (ai m5 (ai ll (ai lo1 (ai m4 (ai hq (ai n1 (ai c77 (ai hf tk)))))))))));refine Ans.go ?_;clear fx;exact Ans.pure rfl sH
     | false =>
      rw [if_neg (by simp)];have fx:=ai l0 (ai c51 (ai hp0 (ai w1 (ai m5 (ai ll (ai lo1 (ai m4 (ai hq (ai n1 (ai c77 (ai hf tk)))))))))));refine Ans.go ?_;clear fx;exact Ans.pure rfl sH
   · have e2:xFr Gl n=false:=by
      cases w:xFr Gl n with
      | false=>rfl
      | true=>exact absurd (fp.2 w) hf
     rw [e2]
     cases x1 with
     | true =>
      rw [if_pos (by simp)];have fx:=ai l0 (ai c51 (ai hp0 (ai w1 (ai m5 (ai ll (ai lo1 (ai m4 (ai hq (ai n1 (ai c77 (ai hf tk)))))))))));refine Ans.go ?_;clear fx;exact Ans.pure rfl sH
     | false =>
      rw [if_neg (by simp),if_pos rfl];have fx:=ai l0 (ai c51 (ai hp0 (ai w1 (ai m5 (ai ll (ai lo1 (ai m4 (ai hq (ai n1 (ai c77 (ai hf tk)))))))))));refine Ans.go ?_;clear fx;exact Ans.pure rfl sH
 · have e1:xRv Gl n=true:=rvi.2 z;rw [e1,if_pos rfl];have fx:=ai l0 (ai c51 (ai hp0 (ai w1 (ai m5 (ai ll (ai lo1 (ai m4 (ai hq tk))))))));refine Ans.go ?_;clear fx;exact Ans.pure rfl sH
theorem ZlV (s:Value) (n:Nat) (Gl:List Int) (h:FH) (c:Nat) (df:List Nat) (hs:SlI h c s 20 n Gl) (hn:n<=60) :
 G (.fn 22) [.agg #[s]] h c df=some ⟨.ret,[.tuple #[.int .i64 (if Z0w Gl n=true then ZhC Gl n else 0),.int .i64 (if Z0w Gl n=true then 0 else 7)]],h,c,[]⟩:=by
 refine Z0t (fun r e=>f22_go e) (OkV.tup2 _ _ _ _ _) ?_;have Z0X:((Value.agg #[s]).cells.toList.all Z08)=true:=by simp [Value.cells,hs.flat]
 have Z0Y:(Value.agg #[s]).cells.toList=[s]:=rfl;unfold Zqb;rw [Z0X,Z0Y];simp only [cond_true,qW];obtain ⟨g0,hg0⟩:=jN (256*c);obtain ⟨M,hM⟩:=jN (newB h g0 [s]);rw [hg0,hM];have Mg:M.f g0=some (.cells false none [s]):=by rw [← hM,Z01,if_pos rfl]
 have sM:Z0l c h M:=fun j hj=>by rw [← hM,Z01,if_neg qO]
 have l0:ldN M 1 (.pointer (some ⟨g0,0,none⟩))=some (.agg #[s]):=Z0N (cs:=[]) ⟨false,none,Mg⟩;have ck:=Z05 (Z7y s n Gl M (c+1+1) [] ((hs.same sM).mono qO))
 by_cases hok:Z0w Gl n=true
 · rw [if_pos ⟨qO,hok⟩] at ck;rw [if_pos hok,if_pos hok];have cc:=Z05 (ZhB s n Gl M (c+1+1+1+1) [] ((hs.same sM).mono qO) hok hn);have fx:=ai l0 (ai ck cc);refine Ans.go ?_;clear fx;exact Ans.pure rfl sM
 · rw [if_neg (fun q=>hok q.2)] at ck;rw [if_neg hok,if_neg hok];have fx:=ai l0 ck;refine Ans.go ?_;clear fx;exact Ans.pure rfl sM
theorem Zf2 (s:Value) (n:Nat) (Gl:List Int) (h:FH) (c:Nat) (df:List Nat) (hs:SlI h c s 20 n Gl) (hok:Z0w Gl n=true) (hn:n<=60) :
 G (.fn 53) [.agg #[s]] h c df=some ⟨.ret,[.int .i64 (ZqF Gl n)],h,c,[]⟩:=by
 refine Z0t (fun r e=>f53_go e) (OkV.int _ _ _) ?_;have Z0X:((Value.agg #[s]).cells.toList.all Z08)=true:=by simp [Value.cells,hs.flat]
 have Z0Y:(Value.agg #[s]).cells.toList=[s]:=rfl;unfold Zq1;rw [Z0X,Z0Y];simp only [cond_true,qW];obtain ⟨g0,hg0⟩:=jN (256*c);obtain ⟨M,hM⟩:=jN (newB h g0 [s]);rw [hg0,hM];have gM:M.f g0=some (.cells false none [s]):=by rw [← hM,Z01,if_pos rfl]
 have sM:Z0l c h M:=fun j hj=>by rw [← hM,Z01,if_neg qO]
 have hsM:SlI M c s 20 n Gl:=hs.same sM;have G0:∀ K:FH,K.f g0=some (.cells false none [s])->ldN K 1 (.pointer (some ⟨g0,0,none⟩))=some (.agg #[s]):=fun K hK=>Z0N (cs:=[]) ⟨false,none,hK⟩
 have l0:=G0 M gM;obtain ⟨r0,hr0,vb,e0,k0,s0,v1,v2,fv⟩:=Z9f s n Gl M (c+1+1) [] (hsM.mono qO) hok qO;obtain ⟨K0,hK0⟩:=jN (r0.h);obtain ⟨c0,hc0⟩:=jN (r0.c);rw [hK0,hc0] at e0;rw [hc0] at k0 v2;rw [hK0] at s0 fv;rw [e0] at hr0;have c59:=Z05 hr0;have t0:Z0l (c+1+1) M K0:=s0;have l1:=G0 K0 ((t0 g0 qO).trans gM);obtain ⟨r1,hr1,eb,e1,k1,s1,w1,w2,fe⟩:=ZdO s n Gl K0 (c0+1) [] ((hsM.same (t0.mono qO)).mono qO) hok qO;obtain ⟨K1,hK1⟩:=jN (r1.h);obtain ⟨c1,hc1⟩:=jN (r1.c);rw [hK1,hc1] at e1;rw [hc1] at k1 w2;rw [hK1] at s1 fe;rw [e1] at hr1;have c73:=Z05 hr1;have t1:Z0l (c+1+1) M K1:=t0.trans (s1.mono qO);have l2:=G0 K1 ((t1 g0 qO).trans gM);obtain ⟨r2,hr2,tb,e2,k2,s2,y1,y2,ft⟩:=Z6G s n Gl K1 (c1+1) [] ((hsM.same (t1.mono qO)).mono qO) hok qO;obtain ⟨K2,hK2⟩:=jN (r2.h);obtain ⟨c2,hc2⟩:=jN (r2.c);rw [hK2,hc2] at e2;rw [hc2] at k2 y2;rw [hK2] at s2 ft;rw [e2] at hr2;have c74:=Z05 hr2;have t2:Z0l (c+1+1) M K2:=t1.trans (s2.mono qO);have l3:ld1 K2 (.pointer (some ⟨g0,0,none⟩))=some s:=by rw [Z02 (cs:=[s]) ⟨false,none,(t2 g0 qO).trans gM⟩]; rfl
 have len:=hs.len;rw [(Zka hok hs.1).2] at c73;rw [show Z1x (vCs Gl n) (4*n)=nV Gl n from rfl] at c59;have xv0:∀ a b:Value,Z19 (.tuple #[a,b]) 0=some a:=fun _ _=>rfl
 have xv1:∀ a b:Value,Z19 (.tuple #[a,b]) 1=some b:=fun _ _=>rfl
 have hV:nV Gl n<=4*n:=Z1o _ _;have hE:nE Gl n<=6*n:=Z1o _ _;have hT:Z1x (tCs Gl n) (4*n)<=4*n:=Z1o _ _;unfold ZqF;obtain ⟨V,hV'⟩:=jN (nV Gl n);obtain ⟨E,hE'⟩:=jN (nE Gl n);obtain ⟨T,hT'⟩:=jN (Z1x (tCs Gl n) (4*n));rw [hV'] at c59 hV ⊢;rw [hE'] at c73 hE ⊢;rw [hT'] at c74 hT ⊢;have fx:=ai l0 (ai c59 (ai xv0 (ai xv1 (ai l1 (ai c73 (ai l2 (ai c74 (ai l3 len))))))));refine Ans.go ?_;clear fx;exact Ans.pure rfl fun j hj=>by rw [t2 j qO]; exact sM j hj
theorem Zk4 (s:Value) (n:Nat) (Gl:List Int) (h:FH) (c:Nat) (df:List Nat) (hs:SlI h c s 20 n Gl) (hn:n<=60) :
 G (.fn 23) [.agg #[s]] h c df=some ⟨.ret,[.tuple #[.int .i64 (if Z0w Gl n=true then ZqF Gl n else 0),.int .i64 (if Z0w Gl n=true then 0 else 7)]],h,c,[]⟩:=by
 refine Z0t (fun r e=>f23_go e) (OkV.tup2 _ _ _ _ _) ?_;have Z0X:((Value.agg #[s]).cells.toList.all Z08)=true:=by simp [Value.cells,hs.flat]
 have Z0Y:(Value.agg #[s]).cells.toList=[s]:=rfl;unfold Zqa;rw [Z0X,Z0Y];simp only [cond_true,qW];obtain ⟨g0,hg0⟩:=jN (256*c);obtain ⟨M,hM⟩:=jN (newB h g0 [s]);rw [hg0,hM];have Mg:M.f g0=some (.cells false none [s]):=by rw [← hM,Z01,if_pos rfl]
 have sM:Z0l c h M:=fun j hj=>by rw [← hM,Z01,if_neg qO]
 have l0:ldN M 1 (.pointer (some ⟨g0,0,none⟩))=some (.agg #[s]):=Z0N (cs:=[]) ⟨false,none,Mg⟩;have ck:=Z05 (Z7y s n Gl M (c+1+1) [] ((hs.same sM).mono qO))
 by_cases hok:Z0w Gl n=true
 · rw [if_pos ⟨qO,hok⟩] at ck;rw [if_pos hok,if_pos hok];have cc:=Z05 (Zf2 s n Gl M (c+1+1+1+1) [] ((hs.same sM).mono qO) hok hn);have fx:=ai l0 (ai ck cc);refine Ans.go ?_;clear fx;exact Ans.pure rfl sM
 · rw [if_neg (fun q=>hok q.2)] at ck;rw [if_neg hok,if_neg hok];have fx:=ai l0 ck;refine Ans.go ?_;clear fx;exact Ans.pure rfl sM
end Go.Proofs.Ytdodippbpdechaa

namespace Go.Ab
def orb (f:Nat->Option Nat) (s:Nat):Nat->Option Nat
 | 0=>some s
 | k+1=>(orb f s k).bind f
end Go.Ab

namespace Go.Ab
open Go
def it {α:Type} (f:α->Option α) (s:α):Nat->Option α
 | 0=>some s
 | k+1=>(it f s k).bind f
section
variable {α:Type} {f:α->Option α} {S:α->Prop} {cd:α->Nat} {N:Nat} {s:α}
end
def sw23:List Int:=[0,1,3,2]
def wF (Gl:List Int) (x:List Int) (lab:Nat):List Int:=Z04 Gl (x.getD 0 0).toNat (x.getD (1+lab) 0).toNat
def wN (Gl:List Int) (lab:Nat) (x:List Int):Option (List Int):=if Z0D (wF Gl x lab)<0 then none else some (Z0D (wF Gl x lab)::Zo0 (Z0v (wF Gl x lab)) (Zo0 (x.drop 1) sw23))
structure WOk (n:Nat) (x:List Int):Prop where
 l:x.length=5
 t:0<=x.getD 0 0/\x.getD 0 0<n
 p:x.drop 1 ∈ p24
theorem WOk.lab {n:Nat} {x:List Int} (h:WOk n x) {lab:Nat} (hl:lab<4):x.getD (1+lab) 0=(x.drop 1).getD lab 0/\0<=x.getD (1+lab) 0/\x.getD (1+lab) 0<4:=by
 have e:x.getD (1+lab) 0=(x.drop 1).getD lab 0:=(Z26 x 1 lab).symm
 have:=Z7Q h.p hl
 rw [e]
 exact ⟨rfl,this⟩
section
variable {Gl:List Int} {n:Nat} (hok:Z0w Gl n=true) (hG:Gl.length=n*20)
 include hok hG
end
theorem WOk.rg {n:Nat} {x:List Int} (h:WOk n x):(0<=x.getD 1 0/\x.getD 1 0<4)/\(0<=x.getD 2 0/\x.getD 2 0<4)/\(0<=x.getD 3 0/\x.getD 3 0<4)/\(0<=x.getD 4 0/\x.getD 4 0<4) :=
 ⟨(h.lab (lab:=0) qO).2,(h.lab (lab:=1) qO).2,(h.lab (lab:=2) qO).2,(h.lab (lab:=3) qO).2⟩
def rgL (Gl:List Int) (lab:Nat) (s:List Int):Nat->List Int
 | 0=>[]
 | k+1=>rgL Gl lab s k++(it (wN Gl lab) s k).getD []
end Go.Ab

namespace Go.Proofs.Ytdodippbpdechaa
open Go Go.Ab Go.Proofs
structure WkI (y s:Value) (n:Nat) (Gl:List Int) (lab gb lb c0:Nat) (x0:List Int) (I:Nat->(Nat->Prop)->FH->Nat->Prop) (J:Nat->FH->Nat->Prop) (N:Nat):Prop where
 stab:∀ k O h c h' c',I k O h c->c<=c'->(∀ b,b<256*c->(b<256*c0 ∨ O b)->h'.f b=h.f b)->I k O h' c'
 read:∀ k O h c,I k O h c->Z0d h gb [s]/\Z0d h lb [.int .i64 lab]/\SlI h c s 20 n Gl/\c0<=c/\(∀ b,O b->b<256*c)
 step:∀ k x O h c,it (wN Gl lab) x0 k=some x->I k O h c->Ans (Z43 G h c y [av x]) fun q=>c<=q.2.2/\((q.1 = .bool true /\ ∃ O',(∀ b,O' b->O b ∨ 256*c<=b)/\I (k+1) O' q.2.1 q.2.2/\(∀ b,b<256*c->256*c0<=b -> ¬ O b->q.2.1.f b=h.f b)) ∨ (q.1 = .bool false/\J k q.2.1 q.2.2))
 fuel:∀ k x O h c,it (wN Gl lab) x0 k=some x->I k O h c->k<N

def z5:List Value:=[.int .i64 0,.int .i64 0,.int .i64 0,.int .i64 0,.int .i64 0]
def RApp (l rp c0 c k:Nat) (x L:List Int) (ov:Value) (st:ALoop) (h:FH) (r:Rt FH):Prop :=
 r.vs=[.bool true]/\r.h.f l=some (.loop { st with state:=.ready,pending:=none }) /\ ∃ i,256*c<=i/\r.h.f rp=some (.cells false none [.slice (some ⟨i,0,none⟩) (k+1) (k+1)])/\GrC c0 r.h r.c (.slice (some ⟨i,0,none⟩) (k+1) (k+1)) 5 (k+1) (ints (L++x)) ∧
  ∀ j,j<256*c->j ≠ l->j ≠ rp->(ov ≠ .slice none 0 0->j ≠ Z0p ov)->r.h.f j=h.f j

theorem ZkY {Gl:List Int} {lab:Nat} {s x:List Int} {k:Nat} (h:it (wN Gl lab) s k=some x):rgL Gl lab s (k+1)=rgL Gl lab s k++x:=by
 rw [rgL,h]; rfl
structure WC (s:Value) (n:Nat) (Gl x0:List Int) (lab fb gb lb cb cw:Nat) (h0:FH):Prop where
 f:h0.f fb=some (.cells false none (ints x0))
 g:Z0d h0 gb [s]
 l:Z0d h0 lb [.int .i64 lab]
 lf:fb<256*cw
 lg:gb<256*cw
 ll:lb<256*cw
 bc:cb<=cw
 sl:SlI h0 cb s 20 n Gl
 ok:Z0w Gl n=true
 hn:n<=60
 x:WOk n x0
 lab4:lab<4
theorem WC.hG {s:Value} {n:Nat} {Gl x0:List Int} {lab fb gb lb cb cw:Nat} {h0:FH} (w:WC s n Gl x0 lab fb gb lb cb cw h0):Gl.length=n*20:=w.sl.1
structure RI (l rp c1 cw:Nat) (st:ALoop) (Gl x0:List Int) (lab:Nat) (h0:FH) (k:Nat) (O:Nat->Prop) (h:FH) (c:Nat):Prop where
 lc:c1<=c
 fr:∀ j,j<256*cw->j ≠ rp->h.f j=h0.f j
 lp:h.f l=some (.loop st)
 df:h.f (l+1)=some .dfr
 hk:k<=100000
 rg:∃ ov,h.f rp=some (.cells false none [ov])/\GrC c1 h c ov 5 k (ints (rgL Gl lab x0 k)) /\ ∀ b,O b ↔ (ov ≠ .slice none 0 0/\b=Z0p ov)
theorem RI.stab {l rp c1 cw:Nat} {st:ALoop} {Gl x0:List Int} {lab:Nat} {h0:FH} {k:Nat} {O:Nat->Prop} {h h':FH} {c c':Nat} (a:RI l rp c1 cw st Gl x0 lab h0 k O h c) (hl:l=256*cw) (h1:c1=cw+1) (hr:rp<256*cw) (hc:c<=c') (hh:∀ b,b<256*c->(b<256*c1 ∨ O b)->h'.f b=h.f b):RI l rp c1 cw st Gl x0 lab h0 k O h' c':=by
 obtain ⟨a1,a2,a3,a4,a5,ov,a6,a7,a8⟩:=a;refine ⟨qO,fun j hj hne=>(hh j qO (.inl qO)).trans (a2 j hj hne),(hh l qO (.inl qO)).trans a3,(hh (l+1) qO (.inl qO)).trans a4,a5,ov,(hh rp qO (.inl qO)).trans a6,(a7.keep fun hv=>?_).mono hc,a8⟩;exact hh _ (a7.blk hv).2 (.inr ((a8 _).2 ⟨hv,rfl⟩))
theorem RI.read {s:Value} {n:Nat} {Gl x0 y0:List Int} {lab fb gb lb cb cw:Nat} {h0:FH} (w:WC s n Gl y0 lab fb gb lb cb cw h0) {l rp c1:Nat} {st:ALoop} {k lab':Nat} {O:Nat->Prop} {h:FH} {c:Nat} (a:RI l rp c1 cw st Gl x0 lab' h0 k O h c) (h1:c1=cw+1) (hrc:256*cb<=rp) (ng:gb ≠ rp) (nl:lb ≠ rp) :
 Z0d h gb [s]/\Z0d h lb [.int .i64 lab]/\SlI h c s 20 n Gl/\c1<=c /\ ∀ b,O b->b<256*c:=by
 obtain ⟨a1,a2,a3,a4,a5,ov,a6,a7,a8⟩:=a;have b1:=w.lg;have b2:=w.ll;have b3:=w.bc;obtain ⟨ro,op,q1⟩:=w.g;obtain ⟨ro2,op2,q2⟩:=w.l;refine ⟨⟨ro,op,(a2 gb b1 ng).trans q1⟩,⟨ro2,op2,(a2 lb b2 nl).trans q2⟩,(w.sl.same fun j hj=>a2 j qO qO).mono qO,a1,fun b hb=>?_⟩;obtain ⟨hv,rfl⟩:=(a8 b).1 hb;exact (a7.blk hv).2
theorem RI.app {l rp c1 cw:Nat} {st:ALoop} {Gl x0 x:List Int} {lab:Nat} {h0:FH} {k:Nat} {O:Nat->Prop} {h:FH} {c:Nat} {ov:Value} {r:Rt FH} (a:RI l rp c1 cw st Gl x0 lab h0 k O h c) (hl:l=256*cw) (h1:c1=cw+1) (hr:rp<256*cw) (hx:it (wN Gl lab) x0 k=some x) (hst:st.state = .ready) (hpn:st.pending=none) (hk:k+1<=100000)
 (ho:h.f rp=some (.cells false none [ov])) (hO:∀ b,O b ↔ (ov ≠ .slice none 0 0/\b=Z0p ov)) (g:GrC c1 h c ov 5 k (ints (rgL Gl lab x0 k))) (hc:c<=r.c) (ra:RApp l rp c1 c k x (rgL Gl lab x0 k) ov st h r) :
 ∃ O',(∀ b,O' b->O b ∨ 256*c<=b)/\RI l rp c1 cw st Gl x0 lab h0 (k+1) O' r.h r.c/\(∀ b,b<256*c->256*c1<=b -> ¬ O b->r.h.f b=h.f b):=by
 obtain ⟨a1,a2,a3,a4,a5,-⟩:=a;obtain ⟨-,r2,i,r3,r4,r5,r6⟩:=ra;have hb:∀ j,j<256*c1->j<256*c/\(ov ≠ .slice none 0 0->j ≠ Z0p ov):=fun j hj=>⟨qO,fun hv=>by have:=(g.blk hv).1; omega⟩
 have est:({ st with state:=.ready,pending:=none }:ALoop)=st:=by
  cases st
  simp only at hst hpn;subst hst hpn; rfl
 rw [est] at r2;refine ⟨fun b=>b=i,fun b e=>.inr qO,⟨qO,fun j hj hne=>(r6 j (hb j qO).1 qO hne (hb j qO).2).trans (a2 j hj hne),r2,(r6 (l+1) (hb _ qO).1 qO qO (hb _ qO).2).trans a4,hk,_,r4, ?_,fun b=>?_⟩,fun b e1 e2 e3=>r6 b e1 qO qO fun hv e=>e3 ((hO b).2 ⟨hv,e⟩)⟩
 · rw [ZkY hx]; exact r5
 · rw [blkOf_sl];exact ⟨fun e=>⟨(by intro q; cases q),e⟩,fun e=>e.2⟩
structure RJ (l sp c1 cw:Nat) (st:ALoop) (Gl x0:List Int) (lab:Nat) (h0:FH) (k:Nat) (O:Nat->Prop) (h:FH) (c:Nat):Prop where
 lc:c1<=c
 fr:∀ j,j<256*cw->j ≠ sp->h.f j=h0.f j
 lp:h.f l=some (.loop st)
 df:h.f (l+1)=some .dfr
 o:∀ b,¬ O b
 sp:∃ y,h.f sp=some (.cells false none (ints y))/\y.length=5/\(1<=k->it (wN Gl lab) x0 (k-1)=some y)

end Go.Proofs.Ytdodippbpdechaa

namespace Go.Ab
open Go
def GrA (c0:Nat) (h:FH) (c:Nat) (v:Value) (sz n:Nat) (L:List Value):Prop :=
 0<n/\L.length=n*sz/\n<=9223372036854775807/\L.all Z08=true /\ ∃ i op,v = .slice (some ⟨i,0,none⟩) n n/\256*c0<=i/\i<256*c/\h.f i=some (.cells false op L)/\(op=none ∨ op=some sz)
theorem GrA.mono {c0:Nat} {h:FH} {c c':Nat} {v:Value} {sz n:Nat} {L:List Value} (hc:c<=c') (ha:GrA c0 h c v sz n L):GrA c0 h c' v sz n L:=by
 obtain ⟨a,b,d,x,i,op,e,f,g,k⟩:=ha
 exact ⟨a,b,d,x,i,op,e,f,qO,k⟩
theorem GrA.keep {c0:Nat} {h h':FH} {c:Nat} {v:Value} {sz n:Nat} {L:List Value} (ha:GrA c0 h c v sz n L) (hh:h'.f (Z0p v)=h.f (Z0p v)):GrA c0 h' c v sz n L:=by
 obtain ⟨a,b,d,x,i,op,rfl,f,g,k,l⟩:=ha
 exact ⟨a,b,d,x,i,op,rfl,f,g,hh.trans k,l⟩
theorem GrA.sl {c0:Nat} {h:FH} {c:Nat} {v:Value} {sz n:Nat} {L:List Int} (ha:GrA c0 h c v sz n (ints L)):SlI h c v sz n L:=by
 obtain ⟨a,b,d,x,i,op,rfl,f,g,k,l⟩:=ha
 rw [ints_length] at b
 refine ⟨b,d,some ⟨i,0,none⟩,n,rfl,.inr ⟨i,0,ints L,rfl,g,⟨false,op,k⟩, ?_⟩⟩
 rw [qM,qH (by simp [b])]
theorem GrA.blk {c0:Nat} {h:FH} {c:Nat} {v:Value} {sz n:Nat} {L:List Value} (ha:GrA c0 h c v sz n L):256*c0<=Z0p v/\Z0p v<256*c:=by
 obtain ⟨a,b,d,x,i,op,rfl,f,g,k,l⟩:=ha
 exact ⟨f,g⟩
theorem GrA.flat {c0:Nat} {h:FH} {c:Nat} {v:Value} {sz n:Nat} {L:List Value} (ha:GrA c0 h c v sz n L):Z08 v=true/\v.cells = #[v]:=by
 obtain ⟨a,b,d,x,i,op,rfl,f,g,k,l⟩:=ha
 exact ⟨rfl,rfl⟩
theorem GrA.len {c0:Nat} {h:FH} {c:Nat} {v:Value} {sz n:Nat} {L:List Value} (ha:GrA c0 h c v sz n L):Z1q v=some (.int .i64 n):=by
 obtain ⟨a,b,d,x,i,op,rfl,f,g,k,l⟩:=ha
 rfl
theorem GrA.app {c0:Nat} {h:FH} {c c':Nat} {v:Value} {sz n:Nat} {L:List Value} (ha:GrA c0 h c v sz n L) (X:List Value) (hX:X.length=sz) (hXf:X.all Z08=true) (hsz:0<sz) (by' b id:Nat) (hb:256*c<=b) (hid:256*c<=id) (hne:b ≠ id) (hc0:c0<=c)
 (hid':id<256*c') (hlim:(n+1)*(by'+1)<=17592186044416) :
 ∃ h',Z5D (newB h b X) id sz by' v (.slice (some ⟨b,0,none⟩) 1 1)=some (.slice (some ⟨id,0,none⟩) (n+1) (n+1),h')/\GrA c0 h' c' (.slice (some ⟨id,0,none⟩) (n+1) (n+1)) sz (n+1) (L++X)/\(∀ j,j<256*c->j ≠ Z0p v->h'.f j=h.f j):=by
 obtain ⟨h0,h1,h2,hf,i,op,rfl,h3,h4,h5,h8⟩:=ha
 have hlim':Nat.ble ((n+1)*(by'+1)) 17592186044416=true:=qK hlim
 have hsrc:Z0M (newB h b X) sz (.slice (some ⟨b,0,none⟩) 1 1)=some (X,1):=by
  have:Nat.ble (0+1*sz) X.length=true:=qK (by simp [hX])
  simp only [Z0M,Z0S,Z0s,get_newB_same,qD,this,cond_true,qM]
  rw [qH (by simp [hX])]
 have hn1:n+1<=17592186044416:=by
  have:(n+1)*1<=(n+1)*(by'+1):=Nat.mul_le_mul_left _ qO
  omega
 have hcap:Nat.ble (n+1) n=false:=by rw [qY]; intro hh; have:=qP hh; omega
 have hbi:i ≠ b:=qO
 have hg:HeapC.get (newB h b X) i=some (.cells false op L):=by rw [get_newB_ne _ _ _ _ hbi]; exact h5
 have hr:Nat.ble (0+n*sz) L.length=true:=qK (by simp [h1])
 have ht:(L.drop 0).take (n*sz)=L:=by rw [qM,qH qO]
 rcases h8 with rfl | rfl
 · refine ⟨HeapC.set (newB h b X) id (.cells false (some sz) ((L.drop 0).take (n*sz)++X)), ?_,⟨qO,by simp [h1,hX,Nat.succ_mul],qO,by rw [List.all_append,hf,hXf]; rfl,id,some sz,rfl,qO,hid',by rw [Z0c,if_pos rfl,ht],.inr rfl⟩, ?_⟩
   · simp only [Z5D,hsrc,qD,appTo,hcap,cond_false,Z1Q,hlim',hXf,qV,cond_true,Z0S,Z0s,hg,hr]
   · intro j hj hv
     rw [Z0c,if_neg qO,Z01,if_neg qO]
 · refine ⟨HeapC.set (HeapC.set (newB h b X) i .dead) id (.cells false (some sz) ((L.drop 0).take (n*sz)++X)), ?_,⟨qO,by simp [h1,hX,Nat.succ_mul],qO,by rw [List.all_append,hf,hXf]; rfl,id,some sz,rfl,qO,hid',by rw [Z0c,if_pos rfl,ht],.inr rfl⟩, ?_⟩
   · simp only [Z5D,hsrc,qD,appTo,hcap,cond_false,Z1Q,hlim',hXf,qV,cond_true,Z0S,Z0s,hg,hr,Nat.beq_refl,Bool.not_false,Bool.and_true]
   · intro j hj hv
     rw [blkOf_sl] at hv
     rw [Z0c,if_neg qO,Z0c,if_neg hv,Z01,if_neg qO]
end Go.Ab

namespace Go.Proofs.Ytdodippbpdechaa
open Go Go.Ab Go.Proofs

structure RE (s:Value) (n:Nat) (Gl x0:List Int) (g0 fp c0 cb:Nat) (h:FH):Prop where
 g:h.f g0=some (.cells false none [s])
 f:h.f fp=some (.cells false none (ints x0))
 sl:SlI h cb s 20 n Gl
 ok:Z0w Gl n=true
 hn:n<=60
 x:WOk n x0
 lg:g0<256*c0
 lf:fp<256*c0
 lb:cb<=c0
theorem RE.keep {s:Value} {n:Nat} {Gl x0:List Int} {g0 fp c0 cb:Nat} {h h':FH} (e:RE s n Gl x0 g0 fp c0 cb h) (hs:Z0l c0 h h'):RE s n Gl x0 g0 fp c0 cb h' :=
 ⟨(hs _ e.lg).trans e.g,(hs _ e.lf).trans e.f,e.sl.same (hs.mono e.lb),e.ok,e.hn,e.x,e.lg,e.lf,e.lb⟩

theorem Zpl {h:FH} {b:Nat} {v:Value} (hf:h.f b=some (.cells false none [v])):ld1 h (.pointer (some ⟨b,0,none⟩))=some v:=by
 rw [Z02 (cs:=[v]) ⟨false,none,hf⟩]; rfl


def o6 (Q:Nat->Bool):Nat->List Int
 | 0=>[]
 | x+1=>o6 Q x++if Q x=true then [((x / 4:Nat):Int),((x % 4:Nat):Int),0,0,0,0] else []


theorem Zpg (b:Bool):Z00 P .neq 4 (.bool b) (.bool b)=some (.bool false):=by
 rw [Z0A]
 cases b <;> kernel_rfl
end Go.Proofs.Ytdodippbpdechaa
