/- Parts of a proof: K25 K26 K27 K28 D1. Conditions: none. -/
import Derived.Test.YtdodippbpdechaaM18
import Derived.Test.YtdodippbpdechaaM15
import Derived.Test.YtdodippbpdechaaM7
set_option linter.all false
set_option maxRecDepth 100000
namespace Go.Proofs.Ytdodippbpdechaa
open Go Go.Ab Go.Proofs
theorem Zg3 (p q:List Int) (hp:p ∈ p24) (hq:q ∈ p24) (h:FH) (c:Nat) (df:List Nat) :
 G (.fn 90) [av p,av q] h c df=some ⟨.ret,[av (Z0S p q)],h,c,[]⟩:=by
 refine Z1l (fun r e=>f90_go e) (by simp) ?_
 have lp:=Z44 hp
 have lq:=Z44 hq
 have g0:=Z2c hq (i:=0) qO
 have g1:=Z2c hq (i:=1) qO
 have g2:=Z2c hq (i:=2) qO
 have g3:=Z2c hq (i:=3) qO
 have e1:Z0S p q=[p.getD (q.getD 0 0).toNat 0,p.getD (q.getD 1 0).toNat 0,p.getD (q.getD 2 0).toNat 0,p.getD (q.getD 3 0).toNat 0]:=by
  match q,lq with
  | [a,b,d,e],_=>rfl
 rw [e1]
 have flp:((av p).cells.toList.all Z07)=true:=by simp
 have flq:((av q).cells.toList.all Z07)=true:=by simp
 unfold ZmZ
 rw [flp,flq,Z1y,Z1y]
 simp only [cond_true,Nat.add_zero]
 obtain ⟨pb,hpb⟩:∃ b,256*c=b:=⟨_,rfl⟩
 obtain ⟨qb,hqb⟩:∃ b,256*c+1=b:=⟨_,rfl⟩
 obtain ⟨ob,hob⟩:∃ b,256*c+2=b:=⟨_,rfl⟩
 rw [hqb,hob,hpb]
 obtain ⟨H0,hH0⟩:∃ H,newB (newB h pb (ints p)) qb (ints q)=H:=⟨_,rfl⟩
 rw [hH0]
 obtain ⟨H,hH⟩:∃ H,newB H0 ob [.int .i64 0,.int .i64 0,.int .i64 0,.int .i64 0]=H:=⟨_,rfl⟩
 have gp:Z0f H pb (ints p):=by rw [← hH,← hH0]; exact ((Z0f.newB_same _ _ _).newB_ne qO).newB_ne qO
 have gq:Z0f H qb (ints q):=by rw [← hH,← hH0]; exact (Z0f.newB_same _ _ _).newB_ne qO
 have rq:∀ i,i<4->ld1 H (.pointer (some ⟨qb,i,none⟩))=some (.int .i64 (q.getD i 0)):=fun i hi=>by rw [Z02 gq,ints_getD _ _ qO]
 have rp:∀ i,i<4->ld1 H (.pointer (some ⟨pb,i,none⟩))=some (.int .i64 (p.getD i 0)):=fun i hi=>by rw [Z02 gp,ints_getD _ _ qO]
 have q0:=rq 0 qO
 have q1:=rq 1 qO
 have q2:=rq 2 qO
 have q3:=rq 3 qO
 have p0:=rp (q.getD 0 0).toNat qO
 have p1:=rp (q.getD 1 0).toNat qO
 have p2:=rp (q.getD 2 0).toNat qO
 have p3:=rp (q.getD 3 0).toNat qO
 have b4:∀ a b d e:Int,Z1z [.int .i64 0,.int .i64 0,.int .i64 0,.int .i64 0] [(0,1,.int .i64 a),(1,1,.int .i64 b),(2,1,.int .i64 d),(3,1,.int .i64 e)]=some (av [a,b,d,e]):=fun a b d e=>rfl
 have st:∀ a b d e:Int,stN H 4 (.pointer (some ⟨ob,0,none⟩)) (av [a,b,d,e])=some (newB H0 ob (ints [a,b,d,e])):=fun a b d e=>by rw [← hH]; exact stN_all H0 ob 4 _ _ rfl rfl
 have ld:∀ a b d e:Int,ldN (newB H0 ob (ints [a,b,d,e])) 4 (.pointer (some ⟨ob,0,none⟩))=some (av [a,b,d,e]):=fun a b d e=>by rw [ldN_newB_same _ _ _ _ _ (by simp)]; rfl
 have sE:∀ cs,Z0s c h (newB H0 ob cs):=fun cs j hj=>by rw [Z01,if_neg qO,← hH0,Z01,if_neg qO,Z01,if_neg qO]
 rw [hH]
 obtain ⟨A0,hA0⟩:∃ A,p.getD (q.getD 0 0).toNat 0=A:=⟨_,rfl⟩
 obtain ⟨A1,hA1⟩:∃ A,p.getD (q.getD 1 0).toNat 0=A:=⟨_,rfl⟩
 obtain ⟨A2,hA2⟩:∃ A,p.getD (q.getD 2 0).toNat 0=A:=⟨_,rfl⟩
 obtain ⟨A3,hA3⟩:∃ A,p.getD (q.getD 3 0).toNat 0=A:=⟨_,rfl⟩
 rw [hA0] at p0 ⊢
 rw [hA1] at p1 ⊢
 rw [hA2] at p2 ⊢
 rw [hA3] at p3 ⊢
 obtain ⟨B0,hB0⟩:∃ A,q.getD 0 0=A:=⟨_,rfl⟩
 obtain ⟨B1,hB1⟩:∃ A,q.getD 1 0=A:=⟨_,rfl⟩
 obtain ⟨B2,hB2⟩:∃ A,q.getD 2 0=A:=⟨_,rfl⟩
 obtain ⟨B3,hB3⟩:∃ A,q.getD 3 0=A:=⟨_,rfl⟩
 rw [hB0] at q0 p0 g0
 rw [hB1] at q1 p1 g1
 rw [hB2] at q2 p2 g2
 rw [hB3] at q3 p3 g3
 have g00:=g0.1
 have g01:=g0.2
 have g10:=g1.1
 have g11:=g1.2
 have g20:=g2.1
 have g21:=g2.2
 have g30:=g3.1
 have g31:=g3.2
 have fx:=ai q0 (ai p0 (ai q1 (ai p1 (ai q2 (ai p2 (ai q3 (ai p3 (ai b4 (ai st ld)))))))))
 refine Ans.go ?_
 clear fx
 exact Ans.pure rfl (sE _)
theorem Zd6 (p q:List Int) (hp:p ∈ p24) (hq:q ∈ p24) (h:FH) (c:Nat) (df:List Nat) :
 G (.fn 79) [av p,av q] h c df=some ⟨.ret,[av (Z0S p q)],h,c,[]⟩:=by
 refine Z1l (fun r e=>f79_go e) (by simp) ?_
 have lp:=Z44 hp
 have lq:=Z44 hq
 have lc:=Z44 (Z4A hp hq)
 have flp:((av p).cells.toList.all Z07)=true:=by simp
 have flq:((av q).cells.toList.all Z07)=true:=by simp
 have hv:=fun h c=>Z16 p lp h c
 have hw:=fun h c=>Z16 q lq h c
 have hc:=fun h c=>Z0c (Zg3 p q hp hq h c [])
 simp only [Z84 hp] at hv
 simp only [Z84 hq] at hw
 unfold Zn3
 rw [flp,flq,Z1y,Z1y]
 simp only [cond_true,Nat.add_zero]
 obtain ⟨pb,hpb⟩:∃ b,256*c=b:=⟨_,rfl⟩
 obtain ⟨qb,hqb⟩:∃ b,256*c+1=b:=⟨_,rfl⟩
 obtain ⟨ob,hob⟩:∃ b,256*c+2=b:=⟨_,rfl⟩
 rw [hqb,hob,hpb]
 obtain ⟨H0,hH0⟩:∃ H,newB (newB h pb (ints p)) qb (ints q)=H:=⟨_,rfl⟩
 rw [hH0]
 obtain ⟨H,hH⟩:∃ H,newB H0 ob [.int .i64 0,.int .i64 0,.int .i64 0,.int .i64 0]=H:=⟨_,rfl⟩
 have gp:H.f pb=some (.cells false none (ints p)):=by rw [← hH,← hH0,Z01,if_neg qO,Z01,if_neg qO,Z01,if_pos rfl]
 have gq:H.f qb=some (.cells false none (ints q)):=by rw [← hH,← hH0,Z01,if_neg qO,Z01,if_pos rfl]
 have l0:ldN H 4 (.pointer (some ⟨pb,0,none⟩))=some (av p):=Z1r gp (by rw [ints_length,lp])
 have l1:ldN H 4 (.pointer (some ⟨qb,0,none⟩))=some (av q):=Z1r gq (by rw [ints_length,lq])
 have st:stN H 4 (.pointer (some ⟨ob,0,none⟩)) (av (Z0S p q))=some (newB H0 ob (ints (Z0S p q))):=by rw [← hH]; exact stN_all H0 ob 4 _ _ lc rfl
 have ld:ldN (newB H0 ob (ints (Z0S p q))) 4 (.pointer (some ⟨ob,0,none⟩))=some (av (Z0S p q)):=Z1r (by rw [Z01,if_pos rfl]) (by rw [ints_length,lc])
 have sE:Z0s c h (newB H0 ob (ints (Z0S p q))):=fun j hj=>by rw [Z01,if_neg qO,← hH0,Z01,if_neg qO,Z01,if_neg qO]
 rw [hH]
 obtain ⟨HE,hHE⟩:∃ H,newB H0 ob (ints (Z0S p q))=H:=⟨_,rfl⟩
 rw [hHE] at st ld sE
 obtain ⟨Z,hZ⟩:∃ Z,Z0S p q=Z:=⟨_,rfl⟩
 rw [hZ] at st ld ⊢
 simp only [hZ] at hc
 have fx:=ai l0 (ai hv (ai l1 (ai hw (ai hc (ai st ld)))))
 refine Ans.go ?_
 clear fx
 exact Ans.pure rfl sE
theorem Z5Y (p q:List Int) (hp:p ∈ p24) (hq:q ∈ p24) (h:FH) (c:Nat):callF G 79 [av p,av q] h c=some (av (Z0S p q),h,c):=Z0c (Zd6 p q hp hq h c [])
structure WkI (y s:Value) (n:Nat) (Gl:List Int) (lab gb lb c0:Nat) (x0:List Int) (I:Nat->(Nat->Prop)->FH->Nat->Prop) (J:Nat->FH->Nat->Prop) (N:Nat):Prop where
 stab:∀ k O h c h' c',I k O h c->c<=c'->(∀ b,b<256*c->(b<256*c0 ∨ O b)->h'.f b=h.f b)->I k O h' c'
 read:∀ k O h c,I k O h c->Z0f h gb [s]/\Z0f h lb [.int .i64 lab]/\SlI h c s 20 n Gl/\c0<=c/\(∀ b,O b->b<256*c)
 step:∀ k x O h c,it (wN Gl lab) x0 k=some x->I k O h c->Ans (Z3V G h c y [av x]) fun q=>c<=q.2.2/\((q.1 = .bool true /\ ∃ O',(∀ b,O' b->O b ∨ 256*c<=b)/\I (k+1) O' q.2.1 q.2.2/\(∀ b,b<256*c->256*c0<=b -> ¬ O b->q.2.1.f b=h.f b)) ∨ (q.1 = .bool false/\J k q.2.1 q.2.2))
 fuel:∀ k x O h c,it (wN Gl lab) x0 k=some x->I k O h c->k<N
set_option maxHeartbeats 1000000 in
theorem Zm7 {y s:Value} {n:Nat} {Gl:List Int} {lab gb lb c0:Nat} {x0:List Int} {I:Nat->(Nat->Prop)->FH->Nat->Prop} {J:Nat->FH->Nat->Prop} {N:Nat} (w:WkI y s n Gl lab gb lb c0 x0 I J N) (hok:Z0v Gl n=true) (hG:Gl.length=n*20) (hn:n<=60) (hlab:lab<4) (lg:gb<256*c0) (ll:lb<256*c0) (hx0:WOk n x0) (df:List Nat) :
 ∀ (r k:Nat) (x:List Int) (O:Nat->Prop) (h:FH) (c xb:Nat),N<=k+r->it (wN Gl lab) x0 k=some x->I k O h c->h.f xb=some (.cells false none (ints x))->256*c0<=xb->xb<256*c -> ¬ O xb →
 Ans (G (Z9M none) [y,ptrTo gb,ptrTo lb,ptrTo xb] h c df) fun q=>q.df=df/\c<=q.c/\((q.e = .exit 0 /\ ∃ k x,it (wN Gl lab) x0 k=some x/\J k q.h q.c) ∨ (q.e = .ret /\ ∃ k x O,it (wN Gl lab) x0 k=some x/\it (wN Gl lab) x0 (k+1)=none/\I (k+1) O q.h q.c)):=by
 intro r
 induction r with
 | zero =>
  intro k x O h c xb hN hx hi _ _ _ _
  have:=w.fuel k x O h c hx hi
  omega
 | succ r ih =>
  intro k x O h c xb hN hx hi fx b1 b2 nO
  have hw:=Z1W (S:=WOk n) (Z1o hok hG hlab) hx0 hx
  have hl5:=hw.l
  have lx:ldN h 5 (.pointer (some ⟨xb,0,none⟩))=some (av x):=Z1r fx (by rw [ints_length,hl5])
  obtain ⟨⟨qv,H,cq⟩,hq,hc1,hcase⟩:=w.step k x O h (c+1) hx (w.stab k O h c h (c+1) hi qO fun _ _ _=>rfl)
  dsimp only at hc1 hcase
  rcases hcase with ⟨rfl,O',hO',hi',fr⟩ | ⟨rfl,hj⟩
  · obtain ⟨rg,rl,rs,rc,rO⟩:=w.read _ _ _ _ hi'
    have fxH:H.f xb=some (.cells false none (ints x)):=by rw [fr xb qO b1 nO]; exact fx
    have hxH:Z0f H xb (ints x):=⟨false,none,fxH⟩
    obtain ⟨t0,t1⟩:=hw.t
    obtain ⟨hlb1,hlb2,hlb3⟩:=hw.lab hlab
    obtain ⟨t,ht⟩:∃ t:Nat,x.getD 0 0=t:=⟨(x.getD 0 0).toNat,by omega⟩
    obtain ⟨f,hf⟩:∃ f:Nat,x.getD (1+lab) 0=f:=⟨(x.getD (1+lab) 0).toNat,by omega⟩
    have htn:t<n:=by omega
    have hf4:f<4:=by omega
    have f4:(f:Int)<4:=by omega
    have g1:ld1 H (.pointer (some ⟨gb,0,none⟩))=some s:=by rw [Z02 rg]; rfl
    have g2:ld1 H (.pointer (some ⟨xb,0,none⟩))=some (.int .i64 t):=by rw [Z02 hxH,ints_getD _ _ qO,ht]
    have g3:ld1 H (.pointer (some ⟨lb,0,none⟩))=some (.int .i64 lab):=by rw [Z02 rl]; rfl
    have g4:ld1 H (.pointer (some ⟨xb,1+lab,none⟩))=some (.int .i64 f):=by rw [Z02 hxH,ints_getD _ _ qO,hf]
    have ix:=rs.ixs .i64 t qO qO
    rw [Int.toNat_natCast] at ix
    have wF':wF Gl x lab=Z03 Gl t f:=by rw [wF,ht,hf,Int.toNat_natCast,Int.toNat_natCast]
    have hfl:=Z0j hG htn hf4
    have l1:ldN H 5 (.pointer (some ⟨Z0q s,Z2I s+t*20+f*5,none⟩))=some (av (Z03 Gl t f)):=by
     rw [Nat.add_assoc,rs.rdN 5 _ qO qO,Z03,show 20*t+5*f=t*20+f*5 by omega]
    obtain ⟨kb,hkb⟩:∃ b,256*cq+11=b:=⟨_,rfl⟩
    have st:stN (newB H kb [.int .i64 0,.int .i64 0,.int .i64 0,.int .i64 0,.int .i64 0]) 5 (.pointer (some ⟨kb,0,none⟩)) (av (Z03 Gl t f))=some (newB H kb (ints (Z03 Gl t f))):=stN_all _ _ 5 _ _ hfl rfl
    obtain ⟨H1,hH1⟩:∃ H1,newB H kb (ints (Z03 Gl t f))=H1:=⟨_,rfl⟩
    rw [hH1] at st
    have gk:H1.f kb=some (.cells false none (ints (Z03 Gl t f))):=by rw [← hH1,Z01,if_pos rfl]
    have k0:ld1 H1 (.pointer (some ⟨kb,0,none⟩))=some (.int .i64 (Z0x (Z03 Gl t f))):=by rw [Z02 (cs:=ints (Z03 Gl t f)) ⟨false,none,gk⟩,ints_getD _ _ qO]; rfl
    have hi1:=w.stab (k+1) O' H cq H1 (cq+1+1) hi' qO fun b hb _=>by rw [← hH1,Z01,if_neg qO]
    have lab4:(lab:Int)<4:=by omega
    by_cases hz:Z0x (Z03 Gl t f)<0
    · have hnone:it (wN Gl lab) x0 (k+1)=none:=by rw [it,hx]; show wN Gl lab x=none; rw [wN,wF',if_pos hz]
      obtain ⟨F,hF⟩:∃ F,Z03 Gl t f=F:=⟨_,rfl⟩
      rw [hF] at l1 st k0 hz
      refine Ans.lpN rfl rfl (Z4R ..) ?_
      unfold Z5C
      have fx:=ai lx (ai hq (ai g1 (ai g2 (ai g3 (ai g4 (ai ix (ai l1 (ai hkb (ai st (ai k0 hz))))))))))
      refine Ans.go ?_
      clear fx
      exact Ans.retN ⟨rfl,by dsimp only; omega,.inr ⟨rfl,k,x,O',hx,hnone,hi1⟩⟩
    · have k1:ldN H1 4 (.pointer (some ⟨kb,1,none⟩))=some (av (Z0d (Z03 Gl t f))):=by
       rw [ldN_holds (cs:=ints (Z03 Gl t f)) ⟨false,none,gk⟩ (by rw [ints_length]; omega),av,Z1a,Z0G]; rfl
      have fxH1:H1.f xb=some (.cells false none (ints x)):=by rw [← hH1,Z01,if_neg qO]; exact fxH
      have k2:ldN H1 4 (.pointer (some ⟨xb,1,none⟩))=some (av (x.drop 1)):=by
       rw [ldN_holds (cs:=ints x) ⟨false,none,fxH1⟩ (by rw [ints_length]; omega),av,Z1a,Z0G,List.take_of_length_le (by rw [List.length_drop]; omega)]
      have b4:Z1z [.int .i64 0,.int .i64 0,.int .i64 0,.int .i64 0] [(0,1,.int .i64 0),(1,1,.int .i64 1),(2,1,.int .i64 3),(3,1,.int .i64 2)]=some (av Z5d):=rfl
      obtain ⟨j1,j2,j3⟩:=Z4E hok hG hw hlab (by rw [wF']; exact hz)
      rw [wF'] at j1 j2
      have cc1:=fun h c=>Z5Y (x.drop 1) Z5d hw.p Zbu h c
      have cc2:=fun h c=>Z5Y (Z0d (Z03 Gl t f)) (Z0S (x.drop 1) Z5d) j2 (Z4A hw.p Zbu) h c
      have hnext:wN Gl lab x=some (Z0x (Z03 Gl t f)::Z0S (Z0d (Z03 Gl t f)) (Z0S (x.drop 1) Z5d)):=by rw [wN,wF',if_neg hz]
      have hx':it (wN Gl lab) x0 (k+1)=some (Z0x (Z03 Gl t f)::Z0S (Z0d (Z03 Gl t f)) (Z0S (x.drop 1) Z5d)):=by rw [it,hx]; exact hnext
      have hw':=Z1o hok hG hlab _ _ hw hnext
      obtain ⟨X,hX⟩:∃ X,Z0x (Z03 Gl t f)::Z0S (Z0d (Z03 Gl t f)) (Z0S (x.drop 1) Z5d)=X:=⟨_,rfl⟩
      have hc4:=Z44 (Z4A j2 (Z4A hw.p Zbu))
      have b5:Z1z [.int .i64 0,.int .i64 0,.int .i64 0,.int .i64 0,.int .i64 0] [(0,1,.int .i64 (Z0x (Z03 Gl t f))),(1,4,av (Z0S (Z0d (Z03 Gl t f)) (Z0S (x.drop 1) Z5d)))]=some (av X):=by
       rw [← hX]
       generalize Z0S (Z0d (Z03 Gl t f)) (Z0S (x.drop 1) Z5d)=C at hc4
       match C,hc4 with
       | [a,b,d,e],_=>rfl
      rw [hX] at hx' hw'
      have hX5:=hw'.l
      have st2:stN H1 5 (.pointer (some ⟨xb,0,none⟩)) (av X)=some (newB H1 xb (ints X)):=Z8e fxH1 (by rw [ints_length,hl5]) (by rw [ints_length,hX5]) (Z0Q _)
      obtain ⟨H6,hH6⟩:∃ H,newB H1 xb (ints X)=H:=⟨_,rfl⟩
      rw [hH6] at st2
      have ld6:ldN H6 5 (.pointer (some ⟨xb,0,none⟩))=some (av X):=Z1r (by rw [← hH6,Z01,if_pos rfl]) (by rw [ints_length,hX5])
      obtain ⟨nb,hnb⟩:∃ b,256*(cq+1+1+1+1)=b:=⟨_,rfl⟩
      have st9:stN (newB H6 nb [.int .i64 0,.int .i64 0,.int .i64 0,.int .i64 0,.int .i64 0]) 5 (.pointer (some ⟨nb,0,none⟩)) (av X)=some (newB H6 nb (ints X)):=stN_all _ _ 5 _ _ hX5 rfl
      obtain ⟨H9,hH9⟩:∃ H,newB H6 nb (ints X)=H:=⟨_,rfl⟩
      rw [hH9] at st9
      have nO':¬ O' xb:=fun z=>by
       rcases hO' xb z with q | q
       · exact nO q
       · omega
      have hi9:=w.stab (k+1) O' H1 (cq+1+1) H9 (cq+1+1+1+1+1) hi1 qO fun b hb hor=>by
       have:b ≠ xb:=by
        rcases hor with q | q
        · omega
        · exact fun e=>nO' (e ▸ q)
       rw [← hH9,Z01,if_neg qO,← hH6,Z01,if_neg this]
      have nO9:¬ O' nb:=fun z=>by have:=rO nb z; omega
      have hk:=ih (k+1) X O' H9 (cq+1+1+1+1+1) nb qO hx' hi9 (by rw [← hH9,Z01,if_pos rfl]) qO qO nO9
      obtain ⟨F,hF⟩:∃ F,Z03 Gl t f=F:=⟨_,rfl⟩
      rw [hF] at l1 st k0 hz k1 b5
      simp only [hF] at cc2
      obtain ⟨T,hT⟩:∃ T,x.drop 1=T:=⟨_,rfl⟩
      rw [hT] at k2 b5
      simp only [hT] at cc1 cc2
      refine Ans.lpN rfl rfl (Z4R ..) ?_
      unfold Z5C
      have fx:=ai lx (ai hq (ai g1 (ai g2 (ai g3 (ai g4 (ai ix (ai l1 (ai hkb (ai st (ai k0 (ai hz (ai k1 (ai k2 (ai b4 (ai cc1 (ai cc2 (ai b5 (ai st2 (ai ld6 (ai hnb (ai st9 sameB_self)))))))))))))))))))))
      refine Ans.go ?_
      clear fx
      subst hnb
      refine Ans.nextN (hk.mono ?_)
      rintro q ⟨z1,z2,z3⟩
      exact ⟨z1,by omega,z3⟩
  · refine Ans.lpN rfl rfl (Z4R ..) ?_
    unfold Z5C
    have fx:=ai lx hq
    refine Ans.go ?_
    clear fx
    exact Ans.exitN ⟨rfl,by dsimp only; omega,.inl ⟨rfl,k,x,hx,hj⟩⟩
theorem Zc3 {y s:Value} {n:Nat} {Gl:List Int} {lab gb lb c0:Nat} {x0:List Int} {I:Nat->(Nat->Prop)->FH->Nat->Prop} {J:Nat->FH->Nat->Prop} {N:Nat} (w:WkI y s n Gl lab gb lb c0 x0 I J N) (hok:Z0v Gl n=true) (hG:Gl.length=n*20) (hn:n<=60) (hlab:lab<4) (lg:gb<256*c0) (ll:lb<256*c0) (hx0:WOk n x0) (df:List Nat) (fb:Nat) (O:Nat->Prop) (h:FH) (hi:I 0 O h c0) (hf:h.f fb=some (.cells false none (ints x0))) :
 Ans (G (.fn 78) [y,ptrTo fb,ptrTo gb,ptrTo lb] h c0 df) fun q=>q=⟨.ret,[.tuple #[]],q.h,q.c,[]⟩/\c0<=q.c/\((∃ k x,it (wN Gl lab) x0 k=some x/\J k q.h q.c) ∨ (∃ k x O,it (wN Gl lab) x0 k=some x/\it (wN Gl lab) x0 (k+1)=none/\I (k+1) O q.h q.c)):=by
 refine Ans.call' (fun r e=>f78_go e) ?_
 unfold Zn4
 have l5:=hx0.l
 have lx:ldN h 5 (.pointer (some ⟨fb,0,none⟩))=some (av x0):=Z1r hf (by rw [ints_length,l5])
 obtain ⟨xb,hxb⟩:∃ b,256*c0+1=b:=⟨_,rfl⟩
 have st:stN (newB h xb [.int .i64 0,.int .i64 0,.int .i64 0,.int .i64 0,.int .i64 0]) 5 (.pointer (some ⟨xb,0,none⟩)) (av x0)=some (newB h xb (ints x0)):=stN_all _ _ 5 _ _ l5 rfl
 obtain ⟨H,hH⟩:∃ H,newB h xb (ints x0)=H:=⟨_,rfl⟩
 rw [hH] at st
 obtain ⟨rg,rl,rs,rc,rO⟩:=w.read _ _ _ _ hi
 have hi':=w.stab 0 O h c0 H (c0+1) hi qO fun b hb _=>by rw [← hH,Z01,if_neg qO]
 obtain ⟨⟨e',vs',h',c',df'⟩,ex,z1,z2,z3⟩:=Zm7 w hok hG hn hlab lg ll hx0 [] N 0 x0 O H (c0+1) xb qO rfl hi' (by rw [← hH,Z01,if_pos rfl]) qO qO (fun z=>by have:=rO xb z; omega)
 dsimp only at z1 z2 z3
 subst z1
 rcases z3 with ⟨rfl,k,x,hx,hj⟩ | ⟨rfl,k,x,O',hx,hx2,hi2⟩
 · have fx:=ai lx (ai hxb (ai st ex))
   refine Ans.go ?_
   clear fx
   exact .done ⟨rfl,by dsimp only; omega,.inl ⟨k,x,hx,hj⟩⟩
 · have fx:=ai lx (ai hxb (ai st ex))
   refine Ans.go ?_
   clear fx
   exact .done ⟨rfl,by dsimp only; omega,.inr ⟨k,x,O',hx,hx2,hi2⟩⟩

theorem Zl9 (a0 a1 a2 a3 a4 b0 b1 b2 b3 b4:Int):Z0F P .eql 67 (av [a0,a1,a2,a3,a4]) (av [b0,b1,b2,b3,b4]) =
 (cond (a0 == b0) ((cond (a1 == b1) (cond (a2 == b2) (cond (a3 == b3) (cond (a4 == b4) (some true) (some false)) (some false)) (some false)) (some false)).bind fun r=>cond r (some true) (some false)) (some false)).bind fun b=>some (.bool b):=by kernel_rfl
theorem ZhQ (x y:List Int) (hx:x.length=5) (hy:y.length=5):Z00 P .eql 67 (av x) (av y)=some (.bool (decide (x=y))):=by
 match x,hx,y,hy with
 | [a0,a1,a2,a3,a4],_,[b0,b1,b2,b3,b4],_ =>
  rw [Z0o,Zl9]
  by_cases h0:a0=b0 <;> by_cases h1:a1=b1 <;> by_cases h2:a2=b2 <;> by_cases h3:a3=b3 <;> by_cases h4:a4=b4 <;> simp [h0,h1,h2,h3,h4,Bool.cond_eq_ite]
def z5:List Value:=[.int .i64 0,.int .i64 0,.int .i64 0,.int .i64 0,.int .i64 0]
theorem Zi8 {l:Nat} {st:ALoop} {h:FH} {c:Nat} {x:List Int} (hl:l<256*c) (h5:HeapC.get h l=some (.loop st)) (h6:st.state = .ready) (hx:x.length=5) :
 ∃ H1 H:FH,stN (newB h (256*c) z5) 5 (ptrTo (256*c)) (av x)=some H1/\Z27 H1 l=some H/\H.f l=some (.loop { st with state:=.busy })/\H.f (256*c)=some (.cells false none (ints x)) /\ ∀ j,j<256*c->j ≠ l->H.f j=h.f j:=by
 refine ⟨newB h (256*c) (ints x),HeapC.set (newB h (256*c) (ints x)) l (.loop { st with state:=.busy }), ?_,Zal ?_ h6,by rw [Z0b,if_pos rfl], ?_,fun j hj hne=>?_⟩
 · rw [stN_ptrTo]; exact stN_all _ _ 5 _ _ hx rfl
 · rw [get_newB_ne _ _ _ _ qO]; exact h5
 · rw [Z0b,if_neg qO,Z01,if_pos rfl]
 · rw [Z0b,if_neg hne,Z01,if_neg qO]
def RApp (l rp c0 c k:Nat) (x L:List Int) (ov:Value) (st:ALoop) (h:FH) (r:Rt FH):Prop :=
 r.vs=[.bool true]/\r.h.f l=some (.loop { st with state:=.ready,pending:=none }) /\ ∃ i,256*c<=i/\r.h.f rp=some (.cells false none [.slice (some ⟨i,0,none⟩) (k+1) (k+1)])/\GrC c0 r.h r.c (.slice (some ⟨i,0,none⟩) (k+1) (k+1)) 5 (k+1) (ints (L++x)) ∧
  ∀ j,j<256*c->j ≠ l->j ≠ rp->(ov ≠ .slice none 0 0->j ≠ Z0q ov)->r.h.f j=h.f j
theorem Zmq (l rp c0 c k:Nat) (x L:List Int) (ov:Value) (st:ALoop) (h:FH) (hx:x.length=5) (hc:c0<=c) (ll:l<256*c0) (lr:rp<256*c0) (n1:l ≠ rp)
 (h1:h.f rp=some (.cells false none [ov])) (g:GrC c0 h c ov 5 k (ints L)) (h5:HeapC.get h l=some (.loop st)) (h6:st.state = .ready) (hk:k<=100000) :
 Ans (Z5H G l (av x) (ptrTo rp) h c) fun r=>c<=r.c/\r.e = .ret/\r.df=[]/\RApp l rp c0 c k x L ov st h r:=by
 unfold Z5H
 obtain ⟨H1,H,w1,w2,Hl,Hx,Hf⟩:=Zi8 (l:=l) (st:=st) (c:=c) (x:=x) qO h5 h6 hx
 have gl:=g.blk
 have Hr:H.f rp=some (.cells false none [ov]):=(Hf rp qO (Ne.symm n1)).trans h1
 have gH:GrC c0 H c ov 5 k (ints L):=g.keep fun hv=>Hf _ (gl hv).2 (by have:=(gl hv).1; omega)
 have l1:ldN H 5 (.pointer (some ⟨256*c,0,none⟩))=some (av x):=Z1r Hx (by rw [ints_length,hx])
 have bl:=Z94 z5 x 5 rfl hx
 obtain ⟨b,hb⟩:∃ b,256*(c+1)+2=b:=⟨_,rfl⟩
 obtain ⟨id,hid⟩:∃ b,256*(c+1)+3=b:=⟨_,rfl⟩
 obtain ⟨K1,K2,a1,a2,a3,a4,a5,a6⟩:=GrC.step (c':=c+1+1) Hr (show [ov][0]? = some ov from rfl) lr (gH.mono (show c<=c+1 by omega)) (ints x) (by rw [ints_length,hx]) (Z0Q _) qO 40 b id qO qO qO qO qO qO
 have K2l:HeapC.get K2 l=some (.loop { st with state:=.busy }):=(a6 l qO n1 fun hv=>by have:=(gl hv).1; omega).trans Hl
 have w3:=Z3L K2l .ready none
 obtain ⟨K3,hK3⟩:∃ K,HeapC.set K2 l (.loop { st with state:=.ready,pending:=none })=K:=⟨_,rfl⟩
 have w3':Z0t K2 l .ready none=some K3:=w3.trans (by rw [← hK3])
 have K3f:∀ j,j ≠ l->K3.f j=K2.f j:=fun j hj=>by rw [← hK3,Z0b,if_neg hj]
 rw [show [Value.int .i64 0,Value.int .i64 0,Value.int .i64 0,Value.int .i64 0,Value.int .i64 0]=z5 from rfl]
 obtain ⟨Z,hZ⟩:∃ Z,z5=Z:=⟨_,rfl⟩
 rw [hZ] at w1 bl ⊢
 obtain ⟨X,hX⟩:∃ X,av x=X:=⟨_,rfl⟩
 rw [hX] at w1 l1 bl ⊢
 obtain ⟨Y,hY⟩:∃ X,ints x=X:=⟨_,rfl⟩
 rw [hY] at bl a2
 simp only [Nat.add_zero]
 have fx:=ai w1 (ai w2 (ai a1 (ai l1 (ai bl (ai hb (ai hid (ai a2 (ai a3 w3'))))))))
 refine Ans.go ?_
 clear fx
 refine .done ⟨by dsimp only; omega,rfl,rfl,rfl, ?_,id,by omega, ?_, ?_,fun j hj e1 e2 e3=>?_⟩
 · show K3.f l=_
   rw [← hK3,Z0b,if_pos rfl]
 · show K3.f rp=_
   rw [K3f _ (Ne.symm n1),a4]; rfl
 · rw [Z3S] at a5
   exact a5.keep fun _=>K3f _ (by rw [blkOf_sl]; omega)
 · show K3.f j=_
   rw [K3f j e1,a6 j qO e2 e3,Hf j hj e1]
theorem Zmr (l sp c0 c:Nat) (x y:List Int) (st:ALoop) (h:FH) (hx:x.length=5) (hy:y.length=5) (hc:c0<=c) (ll:l<256*c0) (lr:sp<256*c0) (n1:l ≠ sp)
 (h1:h.f sp=some (.cells false none (ints y))) (h5:HeapC.get h l=some (.loop st)) (h6:st.state = .ready) :
 Ans (Z5I G l (av x) (ptrTo sp) h c) fun r=>c<=r.c/\r.e = .ret/\r.df=[]/\r.vs=[.bool true]/\r.h.f l=some (.loop { st with state:=.ready,pending:=none })/\r.h.f sp=some (.cells false none (ints x)) ∧
  ∀ j,j<256*c->j ≠ l->j ≠ sp->r.h.f j=h.f j:=by
 unfold Z5I
 obtain ⟨H1,H,w1,w2,Hl,Hx,Hf⟩:=Zi8 (l:=l) (st:=st) (c:=c) (x:=x) qO h5 h6 hx
 have Hs:H.f sp=some (.cells false none (ints y)):=(Hf sp qO (Ne.symm n1)).trans h1
 have l1:ldN H 5 (.pointer (some ⟨256*c,0,none⟩))=some (av x):=Z1r Hx (by rw [ints_length,hx])
 have w3:stN H 5 (.pointer (some ⟨sp,0,none⟩)) (av x)=some (newB H sp (ints x)):=Z8e Hs (by rw [ints_length,hy]) (by rw [ints_length,hx]) (Z0Q _)
 obtain ⟨K2,hK2⟩:∃ K,newB H sp (ints x)=K:=⟨_,rfl⟩
 rw [hK2] at w3
 have K2l:HeapC.get K2 l=some (.loop { st with state:=.busy }):=by
  show K2.f l=_
  rw [← hK2,Z01,if_neg n1]; exact Hl
 have w4:=Z3L K2l .ready none
 obtain ⟨K3,hK3⟩:∃ K,HeapC.set K2 l (.loop { st with state:=.ready,pending:=none })=K:=⟨_,rfl⟩
 have w4':Z0t K2 l .ready none=some K3:=w4.trans (by rw [← hK3])
 rw [show [Value.int .i64 0,Value.int .i64 0,Value.int .i64 0,Value.int .i64 0,Value.int .i64 0]=z5 from rfl]
 obtain ⟨Z,hZ⟩:∃ Z,z5=Z:=⟨_,rfl⟩
 rw [hZ] at w1 ⊢
 obtain ⟨X,hX⟩:∃ X,av x=X:=⟨_,rfl⟩
 rw [hX] at w1 l1 w3 ⊢
 simp only [Nat.add_zero]
 have fx:=ai w1 (ai w2 (ai l1 (ai w3 w4')))
 refine Ans.go ?_
 clear fx
 refine .done ⟨by dsimp only; omega,rfl,rfl,rfl, ?_, ?_,fun j hj e1 e2=>?_⟩
 · show K3.f l=_
   rw [← hK3,Z0b,if_pos rfl]
 · show K3.f sp=_
   rw [← hK3,Z0b,if_neg (Ne.symm n1),← hK2,Z01,if_pos rfl]
 · show K3.f j=_
   rw [← hK3,Z0b,if_neg e1,← hK2,Z01,if_neg e2,Hf j hj e1]
theorem Zms (l rp tp ep fp c0 c k:Nat) (x x0 L:List Int) (ov:Value) (st:ALoop) (h:FH) (hx:x.length=5) (hx0:x0.length=5) (hc:c0<=c) (ll:l<256*c0) (lr:rp<256*c0) (lt:tp<256*c0) (le:ep<256*c0) (lf:fp<256*c0)
 (n1:l ≠ rp) (n2:l ≠ tp) (n3:l ≠ ep) (n4:l ≠ fp) (n5:rp ≠ tp) (n6:rp ≠ ep) (n7:tp ≠ ep)
 (h1:h.f rp=some (.cells false none [ov])) (h2:h.f tp=some (.cells false none [.bool false])) (h3:h.f ep=some (.cells false none [.int .i64 0])) (h4:Z0f h fp (ints x0)) (g:GrC c0 h c ov 5 k (ints L)) (h5:HeapC.get h l=some (.loop st)) (h6:st.state = .ready) (hk:k<=100000) :
 Ans (Z5J G l (av x) (ptrTo rp) (ptrTo tp) (ptrTo ep) (ptrTo fp) h c) fun r=>c<=r.c/\r.e = .ret/\r.df=[] ∧
  ((0<k/\x=x0/\r.vs=[.bool false]/\r.h.f l=some (.loop { st with state:=.done,pending:=some .ret })/\r.h.f tp=some (.cells false none [.bool true]) /\ ∀ j,j<256*c->j ≠ l->j ≠ tp->r.h.f j=h.f j) ∨ (¬ (0<k/\x=x0)/\RApp l rp c0 c k x L ov st h r)):=by
 unfold Z5J
 obtain ⟨H1,H,w1,w2,Hl,Hx,Hf⟩:=Zi8 (l:=l) (st:=st) (c:=c) (x:=x) qO h5 h6 hx
 have gl:=g.blk
 have Hr:H.f rp=some (.cells false none [ov]):=(Hf rp qO (Ne.symm n1)).trans h1
 have gH:GrC c0 H c ov 5 k (ints L):=g.keep fun hv=>Hf _ (gl hv).2 (by have:=(gl hv).1; omega)
 have l1:ldN H 5 (.pointer (some ⟨256*c,0,none⟩))=some (av x):=Z1r Hx (by rw [ints_length,hx])
 have l0:ld1 H (.pointer (some ⟨rp,0,none⟩))=some ov:=by rw [Z02 (cs:=[ov]) ⟨false,none,Hr⟩]; rfl
 have gn:=g.len
 have Hp:Z0f H fp (ints x0):=by
  obtain ⟨ro,op,q⟩:=h4
  exact ⟨ro,op,(Hf fp qO (Ne.symm n4)).trans q⟩
 have l2:ldN H 5 (.pointer (some ⟨fp,0,none⟩))=some (av x0):=by
  rw [ldN_holds Hp (by rw [ints_length]; omega),av,Z1a,Z0G,List.drop_zero,List.take_of_length_le qO]
 have eq:=ZhQ x x0 hx hx0
 rw [show [Value.int .i64 0,Value.int .i64 0,Value.int .i64 0,Value.int .i64 0,Value.int .i64 0]=z5 from rfl]
 by_cases q:0<k/\x=x0
 · obtain ⟨q1,rfl⟩:=q
   have kp:(0:Int)<k:=by omega
   rw [decide_eq_true rfl] at eq
   have v1:stN H 1 (.pointer (some ⟨rp,0,none⟩)) ov=some (HeapC.set H rp (.cells false none [ov])):=Z11 (show HeapC.get H rp=_ from Hr) (by simp) g.flat.2 g.flat.1
   obtain ⟨K1,hK1⟩:∃ K,HeapC.set H rp (.cells false none [ov])=K:=⟨_,rfl⟩
   rw [hK1] at v1
   have K1f:∀ j,K1.f j=H.f j:=fun j=>by
    rw [← hK1,Z0b]; split
    · rename_i e; rw [e,Hr]
    · rfl
   have v2:stN K1 1 (.pointer (some ⟨tp,0,none⟩)) (.bool true)=some (HeapC.set K1 tp (.cells false none [.bool true])):=Z11 (show HeapC.get K1 tp=some (.cells false none [.bool false]) by show K1.f tp=_; rw [K1f,Hf _ qO (Ne.symm n2),h2]) (by simp) rfl rfl
   obtain ⟨K2,hK2⟩:∃ K,HeapC.set K1 tp (.cells false none [.bool true])=K:=⟨_,rfl⟩
   rw [hK2] at v2
   have K2f:∀ j,j ≠ tp->K2.f j=H.f j:=fun j hj=>by rw [← hK2,Z0b,if_neg hj,K1f]
   have K2e:K2.f ep=some (.cells false none [.int .i64 0]):=by rw [K2f _ (Ne.symm n7),Hf _ qO (Ne.symm n3),h3]
   have v3:stN K2 1 (.pointer (some ⟨ep,0,none⟩)) (.int .i64 0)=some (HeapC.set K2 ep (.cells false none [.int .i64 0])):=Z11 (show HeapC.get K2 ep=_ from K2e) (by simp) rfl rfl
   obtain ⟨K3,hK3⟩:∃ K,HeapC.set K2 ep (.cells false none [.int .i64 0])=K:=⟨_,rfl⟩
   rw [hK3] at v3
   have K3f:∀ j,K3.f j=K2.f j:=fun j=>by
    rw [← hK3,Z0b]; split
    · rename_i e; rw [e,K2e]
    · rfl
   have K3l:HeapC.get K3 l=some (.loop { st with state:=.busy }):=by
    show K3.f l=_
    rw [K3f,K2f _ n2]; exact Hl
   have w3:=Z3L K3l .done (some .ret)
   obtain ⟨K4,hK4⟩:∃ K,HeapC.set K3 l (.loop { st with state:=.done,pending:=some .ret })=K:=⟨_,rfl⟩
   have w3':Z0t K3 l .done (some .ret)=some K4:=w3.trans (by rw [← hK4])
   obtain ⟨Z,hZ⟩:∃ Z,z5=Z:=⟨_,rfl⟩
   rw [hZ] at w1 ⊢
   obtain ⟨X,hX⟩:∃ X,av x=X:=⟨_,rfl⟩
   rw [hX] at w1 l1 l2 eq ⊢
   simp only [Nat.add_zero]
   have fx:=ai w1 (ai w2 (ai l0 (ai gn (ai kp (ai l1 (ai l2 (ai eq (ai v1 (ai v2 (ai v3 w3'))))))))))
   refine Ans.go ?_
   clear fx
   refine .done ⟨by dsimp only; omega,rfl,rfl,.inl ⟨q1,by trivial,rfl, ?_, ?_,fun j hj e1 e2=>?_⟩⟩
   · show K4.f l=_
     rw [← hK4,Z0b,if_pos rfl]
   · show K4.f tp=_
     rw [← hK4,Z0b,if_neg (Ne.symm n2),K3f,← hK2,Z0b,if_pos rfl]
   · show K4.f j=_
     rw [← hK4,Z0b,if_neg e1,K3f,K2f _ e2,Hf j hj e1]
 · have bl:=Z94 z5 x 5 rfl hx
   have hcase:(0<k/\x ≠ x0) ∨ k=0:=by
    by_cases h0:0<k
    · exact .inl ⟨h0,fun e=>q ⟨h0,e⟩⟩
    · exact .inr qO
   obtain ⟨b,hb⟩:∃ b,256*(c+1+1)+2=b:=⟨_,rfl⟩
   obtain ⟨id,hid⟩:∃ b,256*(c+1+1)+3=b:=⟨_,rfl⟩
   obtain ⟨K1,K2,a1,a2,a3,a4,a5,a6⟩:=GrC.step (c':=c+1+1+1) Hr (show [ov][0]? = some ov from rfl) lr (gH.mono (show c<=c+1+1 by omega)) (ints x) (by rw [ints_length,hx]) (Z0Q _) qO 40 b id qO qO qO qO qO qO
   have K2l:HeapC.get K2 l=some (.loop { st with state:=.busy }):=(a6 l qO n1 fun hv=>by have:=(gl hv).1; omega).trans Hl
   have w3:=Z3L K2l .ready none
   obtain ⟨K3,hK3⟩:∃ K,HeapC.set K2 l (.loop { st with state:=.ready,pending:=none })=K:=⟨_,rfl⟩
   have w3':Z0t K2 l .ready none=some K3:=w3.trans (by rw [← hK3])
   have K3f:∀ j,j ≠ l->K3.f j=K2.f j:=fun j hj=>by rw [← hK3,Z0b,if_neg hj]
   have fin:RApp l rp c0 c k x L ov st h ⟨.ret,[.bool true],K3,c+1+1+1,[]⟩:=by
    refine ⟨rfl, ?_,id,by omega, ?_, ?_,fun j hj e1 e2 e3=>?_⟩
    · show K3.f l=_
      rw [← hK3,Z0b,if_pos rfl]
    · show K3.f rp=_
      rw [K3f _ (Ne.symm n1),a4]; rfl
    · rw [Z3S] at a5
      exact a5.keep fun _=>K3f _ (by rw [blkOf_sl]; omega)
    · show K3.f j=_
      rw [K3f j e1,a6 j qO e2 e3,Hf j hj e1]
   obtain ⟨Z,hZ⟩:∃ Z,z5=Z:=⟨_,rfl⟩
   rw [hZ] at w1 bl ⊢
   obtain ⟨X,hX⟩:∃ X,av x=X:=⟨_,rfl⟩
   rw [hX] at w1 l1 eq bl ⊢
   obtain ⟨Y,hY⟩:∃ X,ints x=X:=⟨_,rfl⟩
   rw [hY] at bl a2
   simp only [Nat.add_zero]
   rcases hcase with ⟨h0,hne⟩ | h0
   · have kp:(0:Int)<k:=by omega
     rw [decide_eq_false hne] at eq
     have fx:=ai w1 (ai w2 (ai l0 (ai gn (ai kp (ai l1 (ai l2 (ai eq (ai bl (ai hb (ai hid (ai a2 (ai a3 w3'))))))))))))
     refine Ans.go ?_
     clear fx
     exact .done ⟨by dsimp only; omega,rfl,rfl,.inr ⟨q,fin⟩⟩
   · subst h0
     have fx:=ai w1 (ai w2 (ai l0 (ai gn (ai l1 (ai bl (ai hb (ai hid (ai a2 (ai a3 w3')))))))))
     refine Ans.go ?_
     clear fx
     exact .done ⟨by dsimp only; omega,rfl,rfl,.inr ⟨q,fin⟩⟩

theorem Z7V {Gl:List Int} {lab:Nat} {s x:List Int} {k:Nat} (h:it (wN Gl lab) s k=some x):rgL Gl lab s (k+1)=rgL Gl lab s k++x:=by
 rw [rgL,h]; rfl
structure WC (s:Value) (n:Nat) (Gl x0:List Int) (lab fb gb lb cb cw:Nat) (h0:FH):Prop where
 f:h0.f fb=some (.cells false none (ints x0))
 g:Z0f h0 gb [s]
 l:Z0f h0 lb [.int .i64 lab]
 lf:fb<256*cw
 lg:gb<256*cw
 ll:lb<256*cw
 bc:cb<=cw
 sl:SlI h0 cb s 20 n Gl
 ok:Z0v Gl n=true
 hn:n<=60
 x:WOk n x0
 lab4:lab<4
theorem WC.hG {s:Value} {n:Nat} {Gl x0:List Int} {lab fb gb lb cb cw:Nat} {h0:FH} (w:WC s n Gl x0 lab fb gb lb cb cw h0):Gl.length=n*20:=w.sl.1
structure RI (l rp c1 cw:Nat) (st:ALoop) (Gl x0:List Int) (lab:Nat) (h0:FH) (k:Nat) (O:Nat->Prop) (h:FH) (c:Nat):Prop where
 lc:c1<=c
 fr:∀ j,j<256*cw->j ≠ rp->h.f j=h0.f j
 lp:h.f l=some (.loop st)
 df:h.f (l+1)=some .dfr
 hk:k<=100000
 rg:∃ ov,h.f rp=some (.cells false none [ov])/\GrC c1 h c ov 5 k (ints (rgL Gl lab x0 k)) /\ ∀ b,O b ↔ (ov ≠ .slice none 0 0/\b=Z0q ov)
theorem RI.stab {l rp c1 cw:Nat} {st:ALoop} {Gl x0:List Int} {lab:Nat} {h0:FH} {k:Nat} {O:Nat->Prop} {h h':FH} {c c':Nat} (a:RI l rp c1 cw st Gl x0 lab h0 k O h c) (hl:l=256*cw) (h1:c1=cw+1) (hr:rp<256*cw) (hc:c<=c') (hh:∀ b,b<256*c->(b<256*c1 ∨ O b)->h'.f b=h.f b):RI l rp c1 cw st Gl x0 lab h0 k O h' c':=by
 obtain ⟨a1,a2,a3,a4,a5,ov,a6,a7,a8⟩:=a
 refine ⟨by omega,fun j hj hne=>(hh j qO (.inl qO)).trans (a2 j hj hne),(hh l qO (.inl qO)).trans a3,(hh (l+1) qO (.inl qO)).trans a4,a5,ov,(hh rp qO (.inl qO)).trans a6,(a7.keep fun hv=>?_).mono hc,a8⟩
 exact hh _ (a7.blk hv).2 (.inr ((a8 _).2 ⟨hv,rfl⟩))
theorem RI.read {s:Value} {n:Nat} {Gl x0 y0:List Int} {lab fb gb lb cb cw:Nat} {h0:FH} (w:WC s n Gl y0 lab fb gb lb cb cw h0) {l rp c1:Nat} {st:ALoop} {k lab':Nat} {O:Nat->Prop} {h:FH} {c:Nat} (a:RI l rp c1 cw st Gl x0 lab' h0 k O h c) (h1:c1=cw+1) (hrc:256*cb<=rp) (ng:gb ≠ rp) (nl:lb ≠ rp) :
 Z0f h gb [s]/\Z0f h lb [.int .i64 lab]/\SlI h c s 20 n Gl/\c1<=c /\ ∀ b,O b->b<256*c:=by
 obtain ⟨a1,a2,a3,a4,a5,ov,a6,a7,a8⟩:=a
 have b1:=w.lg
 have b2:=w.ll
 have b3:=w.bc
 obtain ⟨ro,op,q1⟩:=w.g
 obtain ⟨ro2,op2,q2⟩:=w.l
 refine ⟨⟨ro,op,(a2 gb b1 ng).trans q1⟩,⟨ro2,op2,(a2 lb b2 nl).trans q2⟩,(w.sl.same fun j hj=>a2 j qO qO).mono qO,a1,fun b hb=>?_⟩
 obtain ⟨hv,rfl⟩:=(a8 b).1 hb
 exact (a7.blk hv).2
theorem RI.app {l rp c1 cw:Nat} {st:ALoop} {Gl x0 x:List Int} {lab:Nat} {h0:FH} {k:Nat} {O:Nat->Prop} {h:FH} {c:Nat} {ov:Value} {r:Rt FH} (a:RI l rp c1 cw st Gl x0 lab h0 k O h c) (hl:l=256*cw) (h1:c1=cw+1) (hr:rp<256*cw) (hx:it (wN Gl lab) x0 k=some x) (hst:st.state = .ready) (hpn:st.pending=none) (hk:k+1<=100000)
 (ho:h.f rp=some (.cells false none [ov])) (hO:∀ b,O b ↔ (ov ≠ .slice none 0 0/\b=Z0q ov)) (g:GrC c1 h c ov 5 k (ints (rgL Gl lab x0 k))) (hc:c<=r.c) (ra:RApp l rp c1 c k x (rgL Gl lab x0 k) ov st h r) :
 ∃ O',(∀ b,O' b->O b ∨ 256*c<=b)/\RI l rp c1 cw st Gl x0 lab h0 (k+1) O' r.h r.c/\(∀ b,b<256*c->256*c1<=b -> ¬ O b->r.h.f b=h.f b):=by
 obtain ⟨a1,a2,a3,a4,a5,-⟩:=a
 obtain ⟨-,r2,i,r3,r4,r5,r6⟩:=ra
 have hb:∀ j,j<256*c1->j<256*c/\(ov ≠ .slice none 0 0->j ≠ Z0q ov):=fun j hj=>⟨by omega,fun hv=>by have:=(g.blk hv).1; omega⟩
 have est:({ st with state:=.ready,pending:=none }:ALoop)=st:=by
  cases st
  simp only at hst hpn
  subst hst hpn; rfl
 rw [est] at r2
 refine ⟨fun b=>b=i,fun b e=>.inr qO,⟨by omega,fun j hj hne=>(r6 j (hb j qO).1 qO hne (hb j qO).2).trans (a2 j hj hne),r2,(r6 (l+1) (hb _ qO).1 qO qO (hb _ qO).2).trans a4,hk,_,r4, ?_,fun b=>?_⟩,fun b e1 e2 e3=>r6 b e1 qO qO fun hv e=>e3 ((hO b).2 ⟨hv,e⟩)⟩
 · rw [Z7V hx]; exact r5
 · rw [blkOf_sl]
   exact ⟨fun e=>⟨(by intro q; cases q),e⟩,fun e=>e.2⟩
theorem ZgG {s:Value} {n:Nat} {Gl x0:List Int} {lab fb gb lb cb cw rp:Nat} {h0:FH} (w:WC s n Gl x0 lab fb gb lb cb cw h0) (lr:rp<256*cw) (hrc:256*cb<=rp) (nf:fb ≠ rp) (ng:gb ≠ rp) (nl:lb ≠ rp) (ho:h0.f rp=some (.cells false none [.slice none 0 0])) {m:Nat} (hm:it (wN Gl lab) x0 m=none) (hm9:m<=90000) (df:List Nat) :
 Ans (Z3O G 66 none [6] [] #[60] Z2l Z2i (.func (.func 78) [].toArray [ptrTo fb,ptrTo gb,ptrTo lb].toArray) [ptrTo rp] h0 cw df) fun q=>∃ k x ov,q.1 = .normal/\cw+1<=q.2.2.1/\q.2.2.2=(256*cw+1)::df/\q.2.1.f (256*cw+1)=some .dfr/\(∀ j,j<256*cw->j ≠ rp->q.2.1.f j=h0.f j) ∧
  it (wN Gl lab) x0 k=some x/\it (wN Gl lab) x0 (k+1)=none/\q.2.1.f rp=some (.cells false none [ov])/\GrC cw q.2.1 q.2.2.1 ov 5 (k+1) (ints (rgL Gl lab x0 (k+1))):=by
 obtain ⟨l,hl⟩:∃ l,l=256*cw:=⟨_,rfl⟩
 obtain ⟨st,hst⟩:∃ st,st=Z7G 66 [6] #[60] Z2l Z2i [ptrTo rp] (l+1):=⟨_,rfl⟩
 have s1:st.state = .ready:=by rw [hst]; rfl
 have s2:st.pending=none:=by rw [hst]; rfl
 have b1:=w.lf
 have b2:=w.lg
 have b3:=w.ll
 have b4:=w.bc
 have hI:WkI (.func (.yield l) #[] #[]) s n Gl lab gb lb (cw+1) x0 (RI l rp (cw+1) cw st Gl x0 lab h0) (fun _ _ _=>False) m:=by
  refine ⟨fun k O h c h' c' hi hc hh=>hi.stab hl rfl lr hc hh,fun k O h c hi=>hi.read w rfl hrc ng nl,fun k x O h c hx hi=>?_,fun k x O h c hx hi=>ZaL hx hm⟩
  have hi':=hi
  obtain ⟨a1,a2,a3,a4,a5,ov,a6,a7,a8⟩:=hi'
  have hkm:=ZaL hx hm
  refine Z59 (st:=st) a3 s1 (by rw [hst]; rfl) ?_
  have hxl:=(Z1W (S:=WOk n) (Z1o w.ok w.hG w.lab4) w.x hx).l
  obtain ⟨r,hr,r1,r2,r3,r4⟩:=Zmq l rp (cw+1) c k x (rgL Gl lab x0 k) ov st h hxl a1 qO qO qO a6 a7 a3 s1 qO
  have hk:G (.rnd st.nt st.lin st.fr st.params l st.assign st.body) ([av x]++st.vals) h c []=some r:=by rw [hst]; exact ZfT hr
  obtain ⟨O',o1,o2,o3⟩:=hi.app hl rfl lr hx s1 s2 qO a6 a8 a7 r1 r4
  exact .intro hk ⟨_,r4.1,r1,.inl ⟨rfl,O',o1,o2,o3⟩⟩
 obtain ⟨E,hE⟩:∃ E,E=Z7H h0 cw 66 [6] #[60] Z2l Z2i [ptrTo rp]:=⟨_,rfl⟩
 have hEf:∀ i,i<l->E.f i=h0.f i:=fun i hi'=>by
  rw [hE,Z1E,if_neg qO,if_neg qO]
 have hI0:RI l rp (cw+1) cw st Gl x0 lab h0 0 (fun _=>False) E (cw+1):=by
  refine ⟨Nat.le_refl _,fun j hj _=>hEf j qO, ?_, ?_,by omega,_,(hEf rp qO).trans ho,.inl ⟨rfl,rfl,rfl⟩,fun b=>⟨fun q=>q.elim,fun q=>(q.1 rfl).elim⟩⟩
  · rw [hE,Z1E,if_pos hl,hst,hl]
  · rw [hE,Z1E,if_neg qO,if_pos qO]
 obtain ⟨⟨re,rv,rh,rc,rd⟩,hr,r1,r2,r3⟩:=Zc3 hI w.ok w.hG w.hn w.lab4 qO qO w.x [] fb (fun _=>False) E hI0 (by rw [hEf _ qO]; exact w.f)
 dsimp only at r1 r2 r3
 simp only [Rt.mk.injEq] at r1
 obtain ⟨rfl,rfl,-,-,rfl⟩:=r1
 rcases r3 with ⟨k,x,-,hf⟩ | ⟨k,x,O,hx,hx2,hi⟩
 · exact hf.elim
 · obtain ⟨a1,a2,a3,a4,a5,ov,a6,a7,a8⟩:=hi
   rw [hl,hE] at hr
   refine Z4d (.intro hr ⟨st,.normal,by rw [← hl]; exact a3,by rw [s1]; simp,by rw [s2]; rfl,k,x,ov,rfl,by dsimp only; omega,rfl, ?_,fun j hj hne=>?_,hx,hx2, ?_, ?_⟩)
   · show (HeapC.del rh (256*cw)).f _=_
     rw [Z6G,if_neg qO,← hl]; exact a4
   · show (HeapC.del rh (256*cw)).f _=_
     rw [Z6G,if_neg qO]; exact a2 j hj hne
   · show (HeapC.del rh (256*cw)).f _=_
     rw [Z6G,if_neg qO]; exact a6
   · exact Z4L (a7.keep fun hv=>by rw [Z6G,if_neg (by have:=(a7.blk hv).1; omega)]) qO
structure RJ (l sp c1 cw:Nat) (st:ALoop) (Gl x0:List Int) (lab:Nat) (h0:FH) (k:Nat) (O:Nat->Prop) (h:FH) (c:Nat):Prop where
 lc:c1<=c
 fr:∀ j,j<256*cw->j ≠ sp->h.f j=h0.f j
 lp:h.f l=some (.loop st)
 df:h.f (l+1)=some .dfr
 o:∀ b,¬ O b
 sp:∃ y,h.f sp=some (.cells false none (ints y))/\y.length=5/\(1<=k->it (wN Gl lab) x0 (k-1)=some y)
theorem Zfc {s:Value} {n:Nat} {Gl x0:List Int} {lab fb gb lb cb cw sp:Nat} {h0:FH} (w:WC s n Gl x0 lab fb gb lb cb cw h0) (lr:sp<256*cw) (hrc:256*cb<=sp) (nf:fb ≠ sp) (ng:gb ≠ sp) (nl:lb ≠ sp) (ho:h0.f sp=some (.cells false none (ints x0))) {m:Nat} (hm:it (wN Gl lab) x0 m=none) (df:List Nat) :
 Ans (Z3O G 66 none [11] [] #[55] Z2m Z2j (.func (.func 78) [].toArray [ptrTo fb,ptrTo gb,ptrTo lb].toArray) [ptrTo sp] h0 cw df) fun q=>∃ k x,q.1 = .normal/\cw+1<=q.2.2.1/\q.2.2.2=(256*cw+1)::df/\q.2.1.f (256*cw+1)=some .dfr/\(∀ j,j<256*cw->j ≠ sp->q.2.1.f j=h0.f j) ∧
  it (wN Gl lab) x0 k=some x/\it (wN Gl lab) x0 (k+1)=none/\q.2.1.f sp=some (.cells false none (ints x)):=by
 obtain ⟨l,hl⟩:∃ l,l=256*cw:=⟨_,rfl⟩
 obtain ⟨st,hst⟩:∃ st,st=Z7G 66 [11] #[55] Z2m Z2j [ptrTo sp] (l+1):=⟨_,rfl⟩
 have s1:st.state = .ready:=by rw [hst]; rfl
 have s2:st.pending=none:=by rw [hst]; rfl
 have b1:=w.lf
 have b2:=w.lg
 have b3:=w.ll
 have b4:=w.bc
 have hI:WkI (.func (.yield l) #[] #[]) s n Gl lab gb lb (cw+1) x0 (RJ l sp (cw+1) cw st Gl x0 lab h0) (fun _ _ _=>False) m:=by
  refine ⟨fun k O h c h' c' hi hc hh=>?_,fun k O h c hi=>?_,fun k x O h c hx hi=>?_,fun k x O h c hx hi=>ZaL hx hm⟩
  · obtain ⟨a1,a2,a3,a4,a5,y,a6,a7⟩:=hi
    exact ⟨by omega,fun j hj hne=>(hh j qO (.inl qO)).trans (a2 j hj hne),(hh l qO (.inl qO)).trans a3,(hh (l+1) qO (.inl qO)).trans a4,a5,y,(hh sp qO (.inl qO)).trans a6,a7⟩
  · obtain ⟨a1,a2,a3,a4,a5,-⟩:=hi
    obtain ⟨ro,op,q1⟩:=w.g
    obtain ⟨ro2,op2,q2⟩:=w.l
    exact ⟨⟨ro,op,(a2 gb b2 ng).trans q1⟩,⟨ro2,op2,(a2 lb b3 nl).trans q2⟩,(w.sl.same fun j hj=>a2 j qO qO).mono qO,a1,fun b hb=>(a5 b hb).elim⟩
  · obtain ⟨a1,a2,a3,a4,a5,y,a6,a7,a8⟩:=hi
    refine Z59 (st:=st) a3 s1 (by rw [hst]; rfl) ?_
    have hxl:=(Z1W (S:=WOk n) (Z1o w.ok w.hG w.lab4) w.x hx).l
    obtain ⟨r,hr,r1,r2,r3,r4,r5,r6,r7⟩:=Zmr l sp (cw+1) c x y st h hxl a7 a1 qO qO qO a6 a3 s1
    have hk:G (.rnd st.nt st.lin st.fr st.params l st.assign st.body) ([av x]++st.vals) h c []=some r:=by rw [hst]; exact ZfU hr
    have est:({ st with state:=.ready,pending:=none }:ALoop)=st:=by rw [hst]; rfl
    rw [est] at r5
    exact .intro hk ⟨_,r4,r1,.inl ⟨rfl,fun _=>False,fun b e=>e.elim,⟨by dsimp only; omega,fun j hj hne=>(r7 j qO qO hne).trans (a2 j hj hne),r5,(r7 (l+1) qO qO qO).trans a4,fun b e=>e,x,r6,hxl,fun _=>hx⟩,fun b e1 e2 e3=>r7 b e1 qO qO⟩⟩
 obtain ⟨E,hE⟩:∃ E,E=Z7H h0 cw 66 [11] #[55] Z2m Z2j [ptrTo sp]:=⟨_,rfl⟩
 have hEf:∀ i,i<l->E.f i=h0.f i:=fun i hi'=>by
  rw [hE,Z1E,if_neg qO,if_neg qO]
 have hI0:RJ l sp (cw+1) cw st Gl x0 lab h0 0 (fun _=>False) E (cw+1):=by
  refine ⟨Nat.le_refl _,fun j hj _=>hEf j qO, ?_, ?_,fun b e=>e,x0,(hEf sp qO).trans ho,w.x.l,fun e=>by omega⟩
  · rw [hE,Z1E,if_pos hl,hst,hl]
  · rw [hE,Z1E,if_neg qO,if_pos qO]
 obtain ⟨⟨re,rv,rh,rc,rd⟩,hr,r1,r2,r3⟩:=Zc3 hI w.ok w.hG w.hn w.lab4 qO qO w.x [] fb (fun _=>False) E hI0 (by rw [hEf _ qO]; exact w.f)
 dsimp only at r1 r2 r3
 simp only [Rt.mk.injEq] at r1
 obtain ⟨rfl,rfl,-,-,rfl⟩:=r1
 rcases r3 with ⟨k,x,-,hf⟩ | ⟨k,x,O,hx,hx2,hi⟩
 · exact hf.elim
 · obtain ⟨a1,a2,a3,a4,a5,y,a6,a7,a8⟩:=hi
   have e8:=a8 qO
   rw [Nat.add_sub_cancel,hx] at e8
   cases e8
   rw [hl,hE] at hr
   refine Z4d (.intro hr ⟨st,.normal,by rw [← hl]; exact a3,by rw [s1]; simp,by rw [s2]; rfl,k,x,rfl,by dsimp only; omega,rfl, ?_,fun j hj hne=>?_,hx,hx2, ?_⟩)
   · show (HeapC.del rh (256*cw)).f _=_
     rw [Z6G,if_neg qO,← hl]; exact a4
   · show (HeapC.del rh (256*cw)).f _=_
     rw [Z6G,if_neg qO]; exact a2 j hj hne
   · show (HeapC.del rh (256*cw)).f _=_
     rw [Z6G,if_neg qO]; exact a6

theorem Zdh {Gl:List Int} {n lab:Nat} (hok:Z0v Gl n=true) (hG:Gl.length=n*20) (hl:lab<4) (a a' b:List Int) (h1:WOk n a) (h2:WOk n a') (e1:wN Gl lab a=some b) (e2:wN Gl lab a'=some b):a=a':=by
 obtain ⟨lab',q1,q2⟩:∃ lab',lab'<4/\Z5d.getD lab' 0=lab:=by
  match lab,hl with
  | 0,_=>exact ⟨0,by omega,rfl⟩
  | 1,_=>exact ⟨1,by omega,rfl⟩
  | 2,_=>exact ⟨3,by omega,rfl⟩
  | 3,_=>exact ⟨2,by omega,rfl⟩
 have f1:=Z4D hok hG hl q1 q2 a b h1 e1
 rw [Z4D hok hG hl q1 q2 a' b h2 e2] at f1
 exact (Option.some.inj f1).symm
def RgC (Gl x0:List Int) (lab k:Nat):Prop:=1<=k/\it (wN Gl lab) x0 k=some x0 /\ ∀ j,1<=j->j<k->it (wN Gl lab) x0 j ≠ some x0
theorem Zfb {s:Value} {n:Nat} {Gl x0:List Int} {lab fb gb lb fp cb cw rp tp ep:Nat} {h0:FH} (w:WC s n Gl x0 lab fb gb lb cb cw h0) (lr:rp<256*cw) (hrc:256*cb<=rp) (nf:fb ≠ rp) (ng:gb ≠ rp) (nl:lb ≠ rp) (lt:tp<256*cw) (le:ep<256*cw) (lfp:fp<256*cw) (np:fp ≠ rp)
 (n5:rp ≠ tp) (n6:rp ≠ ep) (n7:tp ≠ ep)
 (ho:h0.f rp=some (.cells false none [.slice none 0 0])) (ht:h0.f tp=some (.cells false none [.bool false])) (he:h0.f ep=some (.cells false none [.int .i64 0])) (hp:Z0f h0 fp (ints x0)) (df:List Nat) :
 Ans (Z3O G 66 none [6,7,8,9] [] #[37] Z2n Z2k (.func (.func 78) [].toArray [ptrTo fb,ptrTo gb,ptrTo lb].toArray) [ptrTo rp,ptrTo tp,ptrTo ep,ptrTo fp] h0 cw df) fun q=>cw+1<=q.2.2.1/\q.2.2.2=(256*cw+1)::df/\q.2.1.f (256*cw+1)=some .dfr/\(∀ j,j<256*cw->j ≠ rp->j ≠ tp->q.2.1.f j=h0.f j) ∧
  ((q.1 = .ret/\q.2.1.f tp=some (.cells false none [.bool true]) /\ ∃ k ov,RgC Gl x0 lab k/\q.2.1.f rp=some (.cells false none [ov])/\GrC cw q.2.1 q.2.2.1 ov 5 k (ints (rgL Gl lab x0 k))) ∨
   (q.1 = .normal/\q.2.1.f tp=some (.cells false none [.bool false]) /\ ∃ m ov,it (wN Gl lab) x0 m=none/\q.2.1.f rp=some (.cells false none [ov])/\Z07 ov=true/\ov.cells = #[ov])):=by
 obtain ⟨l,hl⟩:∃ l,l=256*cw:=⟨_,rfl⟩
 obtain ⟨st,hst⟩:∃ st,st=Z7G 66 [6,7,8,9] #[37] Z2n Z2k [ptrTo rp,ptrTo tp,ptrTo ep,ptrTo fp] (l+1):=⟨_,rfl⟩
 have s1:st.state = .ready:=by rw [hst]; rfl
 have s2:st.pending=none:=by rw [hst]; rfl
 have b1:=w.lf
 have b2:=w.lg
 have b3:=w.ll
 have b4:=w.bc
 have hn:=w.hn
 have hx0:=w.x
 have hend:=Zeh (f:=wN Gl lab) (S:=WOk n) (cd:=wCd) (N:=256*n) (s:=x0) (Z1o w.ok w.hG w.lab4) Zbr Z82 (Zdh w.ok w.hG w.lab4) hx0
 have fuel:∀ k x,it (wN Gl lab) x0 k=some x->(∀ j,1<=j->j<k->it (wN Gl lab) x0 j ≠ some x0)->k<=256*n:=fun k x hx hj=>by
  rcases hend with ⟨m,m1,m2⟩ | ⟨m,m1,m2,m3⟩
  · have:=ZaL hx m2; omega
  · rcases Nat.lt_or_ge m k with q | q
    · exact absurd m3 (hj m m1 q)
    · omega
 have hI:WkI (.func (.yield l) #[] #[]) s n Gl lab gb lb (cw+1) x0 (fun k O h c=>RI l rp (cw+1) cw st Gl x0 lab h0 k O h c /\ ∀ j,1<=j->j<k->it (wN Gl lab) x0 j ≠ some x0)
  (fun k h c=>cw+1<=c/\h.f l=some (.loop { st with state:=.done,pending:=some .ret })/\h.f (l+1)=some .dfr/\h.f tp=some (.cells false none [.bool true])/\(∀ j,j<256*cw->j ≠ rp->j ≠ tp->h.f j=h0.f j)/\RgC Gl x0 lab k /\ ∃ ov,h.f rp=some (.cells false none [ov])/\GrC (cw+1) h c ov 5 k (ints (rgL Gl lab x0 k))) (256*n+1):=by
  refine ⟨fun k O h c h' c' hi hc hh=>⟨hi.1.stab hl rfl lr hc hh,hi.2⟩,fun k O h c hi=>hi.1.read w rfl hrc ng nl,fun k x O h c hx hi=>?_,fun k x O h c hx hi=>by have:=fuel k x hx hi.2; omega⟩
  obtain ⟨hi,hj⟩:=hi
  have hi':=hi
  obtain ⟨a1,a2,a3,a4,a5,ov,a6,a7,a8⟩:=hi'
  have hkm:=fuel k x hx hj
  refine Z59 (st:=st) a3 s1 (by rw [hst]; rfl) ?_
  have hxl:=(Z1W (S:=WOk n) (Z1o w.ok w.hG w.lab4) hx0 hx).l
  have hp':Z0f h fp (ints x0):=by
   obtain ⟨ro,op,q⟩:=hp
   exact ⟨ro,op,(a2 fp lfp np).trans q⟩
  obtain ⟨r,hr,r1,r2,r3,r4⟩:=Zms l rp tp ep fp (cw+1) c k x x0 (rgL Gl lab x0 k) ov st h hxl hx0.l a1 qO qO qO qO qO qO qO qO qO n5 n6 n7 a6 ((a2 tp lt (Ne.symm n5)).trans ht) ((a2 ep le (Ne.symm n6)).trans he) hp' a7 a3 s1 qO
  have hk:G (.rnd st.nt st.lin st.fr st.params l st.assign st.body) ([av x]++st.vals) h c []=some r:=by rw [hst]; exact ZfV hr
  rcases r4 with ⟨q1,q2,q3,q4,q5,q6⟩ | ⟨q1,q2⟩
  · subst q2
    refine .intro hk ⟨_,q3,r1,.inr ⟨rfl,by dsimp only; omega,q4, ?_,q5,fun j hj' e1 e2=>?_,⟨q1,hx,hj⟩,ov, ?_, ?_⟩⟩
    · exact (q6 (l+1) qO qO qO).trans a4
    · exact (q6 j qO qO e2).trans (a2 j hj' e1)
    · exact (q6 rp qO qO n5).trans a6
    · exact (a7.keep fun hv=>q6 _ (a7.blk hv).2 (by have:=(a7.blk hv).1; omega) (by have:=(a7.blk hv).1; omega)).mono r1
  · obtain ⟨O',o1,o2,o3⟩:=hi.app hl rfl lr hx s1 s2 qO a6 a8 a7 r1 q2
    refine .intro hk ⟨_,q2.1,r1,.inl ⟨rfl,O',o1,⟨o2,fun j e1 e2=>?_⟩,o3⟩⟩
    by_cases e:j=k
    · subst e
      rw [hx]
      exact fun z=>q1 ⟨by omega,Option.some.inj z⟩
    · exact hj j e1 qO
 obtain ⟨E,hE⟩:∃ E,E=Z7H h0 cw 66 [6,7,8,9] #[37] Z2n Z2k [ptrTo rp,ptrTo tp,ptrTo ep,ptrTo fp]:=⟨_,rfl⟩
 have hEf:∀ i,i<l->E.f i=h0.f i:=fun i hi'=>by
  rw [hE,Z1E,if_neg qO,if_neg qO]
 have hI0:RI l rp (cw+1) cw st Gl x0 lab h0 0 (fun _=>False) E (cw+1):=by
  refine ⟨Nat.le_refl _,fun j hj _=>hEf j qO, ?_, ?_,by omega,_,(hEf rp qO).trans ho,.inl ⟨rfl,rfl,rfl⟩,fun b=>⟨fun q=>q.elim,fun q=>(q.1 rfl).elim⟩⟩
  · rw [hE,Z1E,if_pos hl,hst,hl]
  · rw [hE,Z1E,if_neg qO,if_pos qO]
 obtain ⟨⟨re,rv,rh,rc,rd⟩,hr,r1,r2,r3⟩:=Zc3 hI w.ok w.hG w.hn w.lab4 qO qO w.x [] fb (fun _=>False) E ⟨hI0,fun j _ e=>by omega⟩ (by rw [hEf _ qO]; exact w.f)
 dsimp only at r1 r2 r3
 simp only [Rt.mk.injEq] at r1
 obtain ⟨rfl,rfl,-,-,rfl⟩:=r1
 rw [hl,hE] at hr
 have dl:∀ j,j ≠ l->(HeapC.del rh (256*cw)).f j=rh.f j:=fun j hj=>by rw [Z6G,if_neg qO]
 rcases r3 with ⟨k,x,hx,a1,a3,a4,a5,a2,rc',ov,a6,a7⟩ | ⟨k,x,O,hx,hx2,hi,-⟩
 · refine Z4d (.intro hr ⟨_,.ret,by rw [← hl]; exact a3,by simp,rfl,by dsimp only; omega,rfl, ?_,fun j hj e1 e2=>?_,.inl ⟨rfl, ?_,k,ov,rc', ?_, ?_⟩⟩)
   · exact (dl _ qO).trans (by rw [← hl]; exact a4)
   · exact (dl _ qO).trans (a2 j hj e1 e2)
   · exact (dl _ qO).trans a5
   · exact (dl _ qO).trans a6
   · exact Z4L (a7.keep fun hv=>dl _ (by have:=(a7.blk hv).1; omega)) qO
 · obtain ⟨a1,a2,a3,a4,a5,ov,a6,a7,a8⟩:=hi
   refine Z4d (.intro hr ⟨st,.normal,by rw [← hl]; exact a3,by rw [s1]; simp,by rw [s2]; rfl,by dsimp only; omega,rfl, ?_,fun j hj e1 e2=>?_,.inr ⟨rfl, ?_,k+1,ov,hx2, ?_,a7.flat⟩⟩)
   · exact (dl _ qO).trans (by rw [← hl]; exact a4)
   · exact (dl _ qO).trans (a2 j hj e1)
   · exact (dl _ qO).trans ((a2 tp lt (Ne.symm n5)).trans ht)
   · exact (dl _ qO).trans a6

theorem ZgF (p:List Int) (hp:p.length=4) (h:FH) (b1 b3 c:Nat) (hb1:b1<256*c) (hb3:b3<256*c) (hne:b1 ≠ b3) (hh:Z0f h b1 (ints p)) (df:List Nat):∀ (k i:Nat) (m:List Bool),i+k=4->m.length=4 →
 Ans (G (Z4q none) [ptrTo b1,.bool false,ptrTo b3,.int .i64 i] (newB h b3 (bools m)) c df) fun r=>r.c=c/\r.df=df/\(∃ cs,r.h=newB h b3 cs) ∧
  (if ZiN (p.drop i) m=true then r.e = .exit 0 else r.e = .ret/\r.v 1 = .bool false):=by
 intro k
 induction k with
 | zero =>
  intro i m hi hm
  obtain rfl:i=4:=by omega
  rw [List.drop_of_length_le qO]
  refine .intro (Z5E (q:=⟨.exit 0,[ptrTo b1,.bool false,ptrTo b3,.int .i64 (4:Nat)],newB h b3 (bools m),c+1,df⟩) (by unfold Z1i; simp) (by simp)) ?_
  rw [Z1t (by simp [hb1,hb3])]
  refine ⟨rfl,rfl,⟨_,rfl⟩, ?_⟩
  simp [ZiN]
 | succ k ih =>
  intro i m hi hm
  have hlt:i<p.length:=by omega
  have e0:(i:Int)<4:=by omega
  have hld:∀ j,j<4->ld1 (newB h b3 (bools m)) (.pointer (some ⟨b1,j,none⟩))=some (.int .i64 (p.getD j 0)):=fun j hj=>by
   rw [ld1_newB_ne _ _ _ _ _ hne]
   exact ld1_holds hh (by rw [ints_getD _ _ qO])
  have hldi:=hld i qO
  obtain ⟨x,hx⟩:∃ x,x=p.getD i 0:=⟨_,rfl⟩
  have hdr:p.drop i=x::p.drop (i+1):=by
   rw [List.drop_eq_getElem_cons hlt,hx]
   simp [List.getD,List.getElem?_eq_getElem hlt]
  rw [hdr,ZiN]
  rw [← hx] at hldi
  by_cases h1:x<0
  · rw [if_pos (Or.inl h1)]
    refine Ans.intro (Z5E (q:=⟨.ret,[ptrTo b1,.bool false,ptrTo b3,.int .i64 i],newB h b3 (bools m),_,df⟩) (Ans.eq (by
     unfold Z1i
     repeat (first | (with_reducible refine Ans.bt ?_ ?_; exact rfl) | (with_reducible refine Ans.bf ?_ ?_; exact rfl) | (with_reducible refine Ans.ct ?_ ?_; focus (simp; done)) | (with_reducible refine Ans.cf ?_ ?_; focus (simp; done)) | refine Ans.step (by simp (disch:=(first | omega | (simp <;> omega) | fail)) [e0,hldi,h1,-List.getD_eq_getElem?_getD] <;> rfl) ?_)
     exact .done rfl)) (by simp)) ?_
    rw [Z1t (by simp [hb1,hb3])]
    exact ⟨rfl,rfl,⟨_,rfl⟩,by simp⟩
  by_cases h2:3<x
  · rw [if_pos (Or.inr h2)]
    refine Ans.intro (Z5E (q:=⟨.ret,[ptrTo b1,.bool false,ptrTo b3,.int .i64 i],newB h b3 (bools m),_,df⟩) (Ans.eq (by
     unfold Z1i
     repeat (first | (with_reducible refine Ans.bt ?_ ?_; exact rfl) | (with_reducible refine Ans.bf ?_ ?_; exact rfl) | (with_reducible refine Ans.ct ?_ ?_; focus (simp; done)) | (with_reducible refine Ans.cf ?_ ?_; focus (simp; done)) | refine Ans.step (by simp (disch:=(first | omega | (simp <;> omega) | fail)) [e0,hldi,h1,h2,-List.getD_eq_getElem?_getD] <;> rfl) ?_)
     exact .done rfl)) (by simp)) ?_
    rw [Z1t (by simp [hb1,hb3])]
    exact ⟨rfl,rfl,⟨_,rfl⟩,by simp⟩
  rw [if_neg qO]
  have hldm:ld1 (newB h b3 (bools m)) (.pointer (some ⟨b3,x.toNat,none⟩))=some (.bool (m.getD x.toNat false)):=by
   rw [ld1_newB_same,Z92 _ _ qO]
  by_cases h3:m.getD x.toNat false=true
  · rw [if_pos h3]
    rw [h3] at hldm
    refine Ans.intro (Z5E (q:=⟨.ret,[ptrTo b1,.bool false,ptrTo b3,.int .i64 i],newB h b3 (bools m),_,df⟩) (Ans.eq (by
     unfold Z1i
     repeat (first | (with_reducible refine Ans.bt ?_ ?_; exact rfl) | (with_reducible refine Ans.bf ?_ ?_; exact rfl) | (with_reducible refine Ans.ct ?_ ?_; focus (simp; done)) | (with_reducible refine Ans.cf ?_ ?_; focus (simp; done)) | refine Ans.step (by simp (disch:=(first | omega | (simp <;> omega) | fail)) [e0,hldi,h1,h2,hldm,-List.getD_eq_getElem?_getD] <;> rfl) ?_)
     exact .done rfl)) (by simp)) ?_
    rw [Z1t (by simp [hb1,hb3])]
    exact ⟨rfl,rfl,⟨_,rfl⟩,by simp⟩
  rw [if_neg h3]
  have h3':m.getD x.toNat false=false:=by simpa using h3
  rw [h3'] at hldm
  obtain ⟨r,hr,hq⟩:=ih (i+1) (m.set x.toNat true) qO (by simpa using hm)
  have hst:stN (newB h b3 (bools m)) 1 (.pointer (some ⟨b3,x.toNat,none⟩)) (.bool true)=some (newB h b3 (bools (m.set x.toNat true))):=by
   rw [st1_bool _ _ _ _ _ (by rw [Z7I]; omega),ZbR]
  refine .intro (ZfK (q:=⟨.normal,[ptrTo b1,.bool false,ptrTo b3,.int .i64 (i+1:Nat)],newB h b3 (bools (m.set x.toNat true)),_,df⟩) (Ans.eq (by
   unfold Z1i
   repeat (first | (with_reducible refine Ans.bt ?_ ?_; exact rfl) | (with_reducible refine Ans.bf ?_ ?_; exact rfl) | (with_reducible refine Ans.ct ?_ ?_; focus (simp; done)) | (with_reducible refine Ans.cf ?_ ?_; focus (simp; done)) | refine Ans.step (by simp (disch:=(first | omega | (simp <;> omega) | fail)) [e0,hldi,h1,h2,hldm,hst,-List.getD_eq_getElem?_getD] <;> rfl) ?_)
   exact .done rfl)) rfl ?_) hq
  rw [Zcz hb3 (by simp [hb1,hb3]) (Z1F.bools _ _)]
  exact hr
theorem Zgj (p:List Int) (hp:p.length=4) (h:FH) (c:Nat) (df:List Nat) :
 G (.fn 44) [av p] h c df=some ⟨.ret,[.bool (Z0N p)],h,c,[]⟩:=by
 refine Z67 (fun r e=>f44_go e) (by simp) ?_
 obtain ⟨⟨re,rv,rh,rc,rd⟩,hr,h1,h2,⟨cs,h3⟩,h4⟩:=ZgF p hp (newB h (256*c) (ints p)) (256*c) (256*(c+1)) (c+1+1+1) qO qO qO (Z0f.newB_same _ _ _) [] 4 0 [false,false,false,false] rfl rfl
 simp only at h1 h2 h3
 subst h1 h2 h3
 rw [← Zmu p hp]
 unfold ZhH
 simp only [List.drop_zero] at h4
 simp only [Int.ofNat_eq_natCast,Int.cast_ofNat_Int] at hr
 have hb:bools [false,false,false,false]=[.bool false,.bool false,.bool false,.bool false]:=rfl
 rw [hb] at hr
 cases hv:ZiN p [false,false,false,false] with
 | true =>
  rw [hv,if_pos rfl] at h4
  subst h4
  simp (disch:=omega) [hr,hp]
 | false =>
  rw [hv,if_neg (by simp)] at h4
  obtain ⟨rfl,h5⟩:=h4
  simp (disch:=omega) [hr,hp,h5]
theorem Z1b (p:List Int) (hp:p.length=4) (h:FH) (c:Nat):callF G 44 [av p] h c=some (.bool (Z0N p),h,c):=Z0c (Zgj p hp h c [])
theorem ZaM (p:List Int) (hp:p.length=4) (hr:InR p) (h:FH) (b1 b2 b3 c:Nat) (hb1:b1<256*c) (hb2:b2<256*c) (hb3:b3<256*c) (hne:b1 ≠ b3) (hh:Z0f h b1 (ints p)) (df:List Nat):∀ (k i:Nat) (out:List Int),i+k=4->out.length=4 →
 G (Z4p none) [ptrTo b1,ptrTo b2,ptrTo b3,.int .i64 i] (newB h b3 (ints out)) c df =
  some ⟨.exit 0,[ptrTo b1,ptrTo b2,ptrTo b3,.int .i64 4],newB h b3 (ints (Zfj (p.drop i) i out)),c,df⟩:=by
 intro k
 induction k with
 | zero =>
  intro i out hi ho
  obtain rfl:i=4:=by omega
  rw [List.drop_of_length_le qO]
  refine (ZfI (q:=⟨.exit 0,[ptrTo b1,ptrTo b2,ptrTo b3,.int .i64 4],newB h b3 (ints out),c+1,df⟩) (by unfold Z2h; simp) (by simp)).trans ?_
  rw [Z1t (by simp [hb1,hb2,hb3])]
  rfl
 | succ k ih =>
  intro i out hi ho
  have hlt:i<p.length:=by omega
  have e0:(i:Int)<4:=by omega
  have hld:ld1 (newB h b3 (ints out)) (.pointer (some ⟨b1,i,none⟩))=some (.int .i64 (p.getD i 0)):=by
   rw [ld1_newB_ne _ _ _ _ _ hne]
   exact ld1_holds hh (by rw [ints_getD _ _ qO])
  obtain ⟨x,hx⟩:∃ x,x=p.getD i 0:=⟨_,rfl⟩
  have hdr:p.drop i=x::p.drop (i+1):=by
   rw [List.drop_eq_getElem_cons hlt,hx]
   simp [List.getD,List.getElem?_eq_getElem hlt]
  have hxr:0<=x/\x<4:=by
   rw [hx]
   have:=hr p[i] (List.getElem_mem hlt)
   simpa [List.getD,List.getElem?_eq_getElem hlt] using this
  rw [hdr,Zfj]
  rw [← hx] at hld
  refine ZfJ (q:=⟨.normal,[ptrTo b1,ptrTo b2,ptrTo b3,.int .i64 (i+1:Nat)],newB h b3 (ints (out.set x.toNat i)),_,df⟩) (Ans.eq (by
   unfold Z2h
   repeat (first | (with_reducible refine Ans.bt ?_ ?_; exact rfl) | (with_reducible refine Ans.bf ?_ ?_; exact rfl) | (with_reducible refine Ans.ct ?_ ?_; focus (simp; done)) | (with_reducible refine Ans.cf ?_ ?_; focus (simp; done)) | refine Ans.step (by simp (disch:=(first | omega | (simp <;> omega) | fail)) [e0,hld,hxr,ho,-List.getD_eq_getElem?_getD] <;> rfl) ?_)
   exact .done rfl)) rfl ?_
  rw [Zcz hb3 (by simp [hb1,hb2,hb3]) (by simp)]
  exact ih (i+1) _ qO (by simpa using ho)
def invR (p:List Int):List Int:=if Z0N p=true then inv p else [0,0,0,0]
theorem Zcx (p:List Int) (hp:p.length=4) (h:FH) (c:Nat) (df:List Nat) :
 G (.fn 45) [av p] h c df=some ⟨.ret,[av (invR p)],h,c,[]⟩:=by
 refine Z67 (fun r e=>f45_go e) (by simp) ?_
 have e1:p.take 4=p:=List.take_of_length_le qO
 have hv:=fun h c=>Z1b p hp h c
 unfold ZhG invR
 by_cases hb:Z0N p=true
 · rw [if_pos hb]
   rw [hb] at hv
   have hl:=ZaM p hp (Z2v hb) (newB (newB h (256*c) (ints p)) (256*c+1) (ints [0,0,0,0])) (256*c) (256*c+1) (256*(c+1)) (c+1+1+1+1) qO qO qO qO
    (Z0f.newB_ne qO (Z0f.newB_same _ _ _)) [] 4 0 [0,0,0,0] rfl rfl
   have hl2:(Zfj p 0 [0,0,0,0]).length=4:=Z3R p 0 [0,0,0,0]
   have e2:(Zfj p 0 [0,0,0,0]).take 4=Zfj p 0 [0,0,0,0]:=List.take_of_length_le qO
   simp only [ZbM,Zek,Int.ofNat_eq_natCast,Int.cast_ofNat_Int,List.drop_zero] at hl
   simp (disch:=(first | omega | (simp <;> omega) | fail)) [hl,e1,e2,hp,hl2,inv,hv]
 · rw [if_neg hb]
   have hb':Z0N p=false:=by simpa using hb
   rw [hb'] at hv
   have hz:[Value.int .i64 0,Value.int .i64 0,Value.int .i64 0,Value.int .i64 0]=ints [0,0,0,0]:=rfl
   rw [hz]
   repeat (first | (with_reducible refine Ans.bt ?_ ?_; exact rfl) | (with_reducible refine Ans.bf ?_ ?_; exact rfl) | (with_reducible refine Ans.ct ?_ ?_; focus (simp; done)) | (with_reducible refine Ans.cf ?_ ?_; focus (simp; done)) | refine Ans.step (by simp (disch:=(first | omega | (simp <;> omega) | fail)) [e1,hp,hv,-List.getD_eq_getElem?_getD] <;> rfl) ?_)
   refine .done ⟨rfl,rfl, ?_,rfl⟩
   simp (disch:=omega)
end Go.Proofs.Ytdodippbpdechaa
