/- Parts of a proof: N1 L8 AbRow2 AbRow3 AbApp2 AbRow4 AbRow5 RowK. Conditions: none. -/
import Derived.Test.YtdodippbpdechaaM21
import Derived.Test.YtdodippbpdechaaM13
import Derived.Test.YtdodippbpdechaaM19
import Derived.Test.YtdodippbpdechaaM20
import Derived.Test.YtdodippbpdechaaM14
import Derived.Test.YtdodippbpdechaaM8
import Derived.Test.YtdodippbpdechaaRows
import Derived.ProofKit
set_option linter.all false
set_option maxRecDepth 100000
namespace Go.Proofs.Ytdodippbpdechaa
open Go Go.Ab Go.Proofs
theorem Zbt (h:FH) (c:Nat):callF G 10 [] h c=some (.bool true,h,c):=Z0b (Zi1 (f:=10) (args:=[]) (h:=h) (c:=c) (r:=⟨.ret,[.bool true],h,c,[]⟩) rfl)
theorem Z4X {a:Value} (ha:Z06 a=true):((Value.agg #[a]).cells.toList.all Z06)=true:=by simp [Value.cells,ha]
theorem Z52 (a:Value):(Value.agg #[a]).cells.toList=[a]:=rfl

theorem Zif (a0 a1 a2 a3 a4 b0 b1 b2 b3 b4:Int):Z0F P .neq 67 (av [a0,a1,a2,a3,a4]) (av [b0,b1,b2,b3,b4]) =
 (cond (a0 == b0) ((cond (a1 == b1) (cond (a2 == b2) (cond (a3 == b3) (cond (a4 == b4) (some true) (some false)) (some false)) (some false)) (some false)).bind fun r=>cond r (some true) (some false)) (some false)).bind fun b=>some (.bool (!b)):=by kernel_rfl
theorem ZlR (x:List Int) (hx:x.length=5):Z00 P .neq 67 (av x) (av x)=some (.bool false):=by
 match x,hx with
 | [a0,a1,a2,a3,a4],_ =>
  rw [Z0s,Zif]
  simp
theorem ZlQ (a0 a1 a2 a3 a4 a5 b0 b1 b2 b3 b4 b5:Int):Z0F P .neq 74 (av [a0,a1,a2,a3,a4,a5]) (av [b0,b1,b2,b3,b4,b5]) =
 (cond (a0 == b0) (cond (a1 == b1) ((cond (a2 == b2) (cond (a3 == b3) (cond (a4 == b4) (cond (a5 == b5) (some true) (some false)) (some false)) (some false)) (some false)).bind fun r=>cond r (some true) (some false)) (some false)) (some false)).bind fun b=>some (.bool (!b)):=by kernel_rfl
theorem ne_tri (x:List Int) (hx:x.length=6):Z00 P .neq 74 (av x) (av x)=some (.bool false):=by
 match x,hx with
 | [a0,a1,a2,a3,a4,a5],_ =>
  rw [Z0s,ZlQ]
  simp
theorem ZlS (b:Bool):Z00 P .neq 4 (.bool b) (.bool b)=some (.bool false):=by
 rw [Z0s]
 cases b <;> kernel_rfl
theorem Z8S (u v:Value) (K:Nat) (L:List Int) (h:FH) (c:Nat) (df:List Nat) (hu:SlI h c u 5 K L) (hv:SlI h c v 5 K L) (hK:K<=100000):∀ (r i:Nat),i+r=K →
 Ans (G (Z9S none) [u,v,.bool false,.int .i64 K,.int .i64 i] h c df) fun q=>q=⟨.exit 0,[u,v,.bool false,.int .i64 K,.int .i64 K],h,c,df⟩:=by
 intro r
 have ou:=hu.okV
 have ov:=hv.okV
 have hl:=hu.1
 induction r with
 | zero =>
  intro i hi
  obtain rfl:i=K:=by omega
  refine Ans.lpG rfl rfl (Z6h ..) ?_
  unfold Z7m
  have fx:=True.intro
  refine Ans.go ?_
  clear fx
  (have fx:=ai ou ov; refine Ans.ex0 ?_; clear fx)
  rfl
 | succ r ih =>
  intro i hi
  have hk:=ih (i+1) qO
  have i1:(i:Int)<K:=by omega
  have x1:=hu.ixs .i64 i qO qO
  have x2:=hv.ixs .i64 i qO qO
  rw [Int.toNat_natCast] at x1 x2
  have r1:=hu.rdN 5 (i*5) qO qO
  have r2:=hv.rdN 5 (i*5) qO qO
  have ne:=ZlR ((L.drop (i*5)).take 5) (by rw [List.length_take,List.length_drop]; omega)
  obtain ⟨X,hX⟩:∃ X,av ((L.drop (i*5)).take 5)=X:=⟨_,rfl⟩
  rw [hX] at r1 r2 ne
  refine Ans.lpG rfl rfl (Z6h ..) ?_
  unfold Z7m
  have fx:=ai x1 (ai x2 (ai r1 (ai r2 ne)))
  refine Ans.go ?_
  clear fx
  (have fx:=ai ou ov; refine Ans.nx0 ?_; clear fx)
  exact hk
theorem Zgm (u v:Value) (K:Nat) (L:List Int) (h:FH) (c:Nat) (hu:SlI h c u 5 K L) (hv:SlI h c v 5 K L) (hK:K<=100000):callF G 32 [u,v] h c=some (.bool true,h,c):=by
 refine Z0b (df:=[]) (Z3E (fun r e=>f32_go e) (by simp) ?_)
 have lu:=hu.len
 have lv:=hv.len
 have lo:=Ans.eq (Z8S u v K L h (c+1+1+1) [] (hu.mono qO) (hv.mono qO) hK K 0 qO)
 simp only [Int.ofNat_eq_natCast,Int.cast_ofNat_Int] at lo
 unfold ZmT
 have fx:=ai lu (ai lv lo)
 refine Ans.go ?_
 clear fx
 (have fx:=True.intro; exact Ans.pu)
theorem Zac (b:Bool) (u v:Value) (K:Nat) (L:List Int) (h:FH) (c:Nat) (df:List Nat) (hu:SlI h c u 6 K L) (hv:SlI h c v 6 K L) (hK:K<=100000):∀ (r i:Nat),i+r=K →
 Ans (G (Ze7 none) [.bool b,u,v,.int .i64 K,.int .i64 i] h c df) fun q=>q=⟨.exit 0,[.bool b,u,v,.int .i64 K,.int .i64 K],h,c,df⟩:=by
 intro r
 have ou:=hu.okV
 have ov:=hv.okV
 have hl:=hu.1
 induction r with
 | zero =>
  intro i hi
  obtain rfl:i=K:=by omega
  refine Ans.lpG rfl rfl (Z8B ..) ?_
  unfold ZaE
  have fx:=True.intro
  refine Ans.go ?_
  clear fx
  (have fx:=ai ou ov; refine Ans.ex0 ?_; clear fx)
  rfl
 | succ r ih =>
  intro i hi
  have hk:=ih (i+1) qO
  have i1:(i:Int)<K:=by omega
  have x1:=hu.ixs .i64 i qO qO
  have x2:=hv.ixs .i64 i qO qO
  rw [Int.toNat_natCast] at x1 x2
  have r1:=hu.rdN 6 (i*6) qO qO
  have r2:=hv.rdN 6 (i*6) qO qO
  have ne:=ne_tri ((L.drop (i*6)).take 6) (by rw [List.length_take,List.length_drop]; omega)
  obtain ⟨X,hX⟩:∃ X,av ((L.drop (i*6)).take 6)=X:=⟨_,rfl⟩
  rw [hX] at r1 r2 ne
  refine Ans.lpG rfl rfl (Z8B ..) ?_
  unfold ZaE
  have fx:=ai x1 (ai x2 (ai r1 (ai r2 ne)))
  refine Ans.go ?_
  clear fx
  (have fx:=ai ou ov; refine Ans.nx0 ?_; clear fx)
  exact hk
theorem Z7u (h:FH) (c sz:Nat):SlI h c (.slice none 0 0) sz 0 []:=⟨by simp,by omega,none,0,rfl,.inl ⟨rfl,OkV.sl0 _ _ _⟩⟩
theorem rg_len {Gl:List Int} {n:Nat} (hok:Z0A Gl n=true) (hG:Gl.length=n*20) {x0:List Int} (hx:WOk n x0) {k:Nat} (h:RgC Gl x0 2 k):k<=256*n:=by
 rcases ZbE (f:=wN Gl 2) (S:=WOk n) (cd:=wCd) (N:=256*n) (s:=x0) (Z1M hok hG qO) Z7r Z4M (Z98 hok hG qO) hx with ⟨m,m1,m2⟩ | ⟨m,m1,m2,m3⟩
 · exact absurd m2 (ZgW h.1 h.2.1 m)
 · rcases Nat.lt_or_ge m k with q | q
   · exact absurd m3 (h.2.2 m m1 q)
   · omega
theorem ro_len {Gl:List Int} {n:Nat} (hok:Z0A Gl n=true) (hG:Gl.length=n*20) {x0 y:List Int} (hx:WOk n x0) {k:Nat} (h:RgO Gl x0 y k):k<=256*n:=by
 obtain ⟨_,⟨i,h1,h2⟩,x,h3,h4⟩:=h
 have hy:WOk n y:=Z5t (S:=WOk n) (Z1M hok hG qO) hx h1
 have yn:wN Gl 3 y=none:=by rw [it,h1] at h2; exact h2
 obtain ⟨m,m1,m2⟩:=Zat (f:=wN Gl 2) (S:=WOk n) (cd:=wCd) (N:=256*n) (Z1M hok hG qO) Z7r Z4M (Z98 hok hG qO) hy (fun a ha e=>by
  have:=Z4e hok hG (lab:=2) (lab':=3) qO qO rfl a y ha e
  rw [yn] at this; cases this)
 have:=Z8t h3 m2
 omega
theorem ZgV {α:Type} {f:α->Option α} {s x y:α} {i j:Nat} (h1:it f s i=some x) (h2:it f s (i+1)=none) (h3:it f s j=some y) (h4:it f s (j+1)=none):i=j/\x=y:=by
 have:=Z8t h1 h4
 have:=Z8t h3 h2
 obtain rfl:i=j:=by omega
 rw [h1] at h3
 exact ⟨rfl,Option.some.inj h3⟩
theorem ZeK {Gl p:List Int} {n:Nat} {t:Int} (hG:Gl.length=n*20) (hp:p.length=4) (hn:n<=60) {a1 a2 c1 c2:Nat} {h1 h2:FH} {u v:Value} {cl cl':Bool} {e e':Int} (A:RgA a1 h1 c1 u cl e t p n Gl) (B:RgB a2 h2 c2 v cl' e' t p n Gl) :
 cl=cl'/\e=e' /\ ∃ K L,SlI h1 c1 u 5 K L/\SlI h2 c2 v 5 K L/\K<=100000:=by
 rcases A with ⟨x1,rfl,rfl,rfl⟩ | ⟨x1,x2,rfl,rfl,rfl⟩ | ⟨x1,⟨x2,x3,x4⟩,rfl,x5⟩ <;> rcases B with ⟨y1,rfl,rfl,rfl⟩ | ⟨y1,y2,rfl,rfl,rfl⟩ | ⟨y1,⟨y2,y3,y4⟩,rfl,y5⟩
 · exact ⟨rfl,rfl,0,[],Z7u _ _ _,Z7u _ _ _,by omega⟩
 · rw [x1] at y1; cases y1
 · rw [x1] at y1; cases y1
 · rw [x1] at y1; cases y1
 · exact ⟨rfl,rfl,0,[],Z7u _ _ _,Z7u _ _ _,by omega⟩
 · exact absurd ⟨y2,y3,y4⟩ x2
 · rw [x1] at y1; cases y1
 · exact absurd ⟨x2,x3,x4⟩ y2
 · obtain ⟨w,rfl⟩:∃ w:Nat,t=w:=⟨t.toNat,by omega⟩
   have hx:WOk n ((w:Int)::p):=WOk.mk' qO (Zao hp x4)
   rcases x5 with ⟨rfl,k,q1,q2⟩ | ⟨rfl,y,k,q1,q2⟩ <;> rcases y5 with ⟨rfl,j,r1,r2⟩ | ⟨rfl,z,j,r1,r2⟩
   · have:k=j:=by
      rcases Nat.lt_trichotomy k j with l | l | l
      · exact absurd q1.2.1 (r1.2.2 k q1.1 l)
      · exact l
      · exact absurd r1.2.1 (q1.2.2 j r1.1 l)
     subst this
     have:=rg_len x1 hG hx q1
     exact ⟨rfl,rfl,k,_,q2.sl,r2.sl,by omega⟩
   · obtain ⟨⟨m,hm⟩,_⟩:=r1
     exact absurd hm (ZgW q1.1 q1.2.1 m)
   · obtain ⟨⟨m,hm⟩,_⟩:=q1
     exact absurd hm (ZgW r1.1 r1.2.1 m)
   · have q1':=q1
     have l1:=ro_len x1 hG hx q1
     obtain ⟨_,⟨i,a1,a2⟩,x,a3,a4⟩:=q1
     obtain ⟨_,⟨i',b1,b2⟩,x',b3,b4⟩:=r1
     obtain ⟨-,rfl⟩:=ZgV a1 a2 b1 b2
     obtain ⟨rfl,-⟩:=ZgV a3 a4 b3 b4
     exact ⟨rfl,rfl,k+1,_,q2.sl,r2.sl,by omega⟩
theorem ZeV {Gl:List Int} {n:Nat} {w:Int} (hn:n<=60) {a1 a2 c1 c2:Nat} {h1 h2:FH} {u v:Value} {e e':Int} (A:LkA a1 h1 c1 u e w n Gl) (B:LkA a2 h2 c2 v e' w n Gl) :
 e=e' /\ ∃ K L,SlI h1 c1 u 6 K L/\SlI h2 c2 v 6 K L/\K<=100000:=by
 rcases A with ⟨x1,rfl,rfl⟩ | ⟨x1,x2,rfl,rfl⟩ | ⟨x1,x2,rfl,x3⟩ <;> rcases B with ⟨y1,rfl,rfl⟩ | ⟨y1,y2,rfl,rfl⟩ | ⟨y1,y2,rfl,y3⟩
 · exact ⟨rfl,0,[],Z7u _ _ _,Z7u _ _ _,by omega⟩
 · rw [x1] at y1; cases y1
 · rw [x1] at y1; cases y1
 · rw [x1] at y1; cases y1
 · exact ⟨rfl,0,[],Z7u _ _ _,Z7u _ _ _,by omega⟩
 · exact absurd y2 x2
 · rw [x1] at y1; cases y1
 · exact absurd x2 y2
 · have:=Zbx (inC (vN Gl n) w) (4*n)
   exact ⟨rfl,_,_,x3.sl,y3.sl,by omega⟩
set_option maxHeartbeats 2000000 in
theorem Z8R (s:Value) (n:Nat) (Gl:List Int) (t v:Int) (p:List Int) (hp:p.length=4) (h:FH) (c:Nat) (hs:SlI h c s 20 n Gl) :
 Ans (G (.fn 8) [.agg #[s],.int .i64 t,av p,.int .i64 v] h c []) fun x=>x.e = .ret/\x.vs=[.bool true]:=by
 suffices hs:Ans (f8_S G (.agg #[s]) (.int .i64 t) (av p) (.int .i64 v) h c) fun x=>x.e = .ret/\x.vs=[.bool true] by
  obtain ⟨x,q1,q2⟩:=hs
  exact ⟨_,f8_go q1,by show (gcR h c [] x).e=_/\(gcR h c [] x).vs=_; rw [Zmd,Zh2]; exact q2⟩
 unfold f8_S
 have flat2:((av p).cells.toList.all Z06)=true:=by simp
 rw [Z4X hs.flat,flat2,Z52,Z1s]
 simp only [cond_true,Nat.add_zero]
 obtain ⟨g0,hg0⟩:∃ b,256*c=b:=⟨_,rfl⟩
 obtain ⟨p0,hp0⟩:∃ b,256*c+1=b:=⟨_,rfl⟩
 rw [hp0,hg0]
 obtain ⟨M,hM⟩:∃ M,newB (newB h g0 [s]) p0 (ints p)=M:=⟨_,rfl⟩
 have Mf:∀ j,M.f j=if j=p0 then some (.cells false none (ints p)) else if j=g0 then some (.cells false none [s]) else h.f j:=fun j=>by rw [← hM,Z01,Z01]
 rw [hM]
 have sM:Z0q c h M:=fun j hj=>by rw [Mf,if_neg qO,if_neg qO]
 have Mg:M.f g0=some (.cells false none [s]):=by rw [Mf,if_neg qO,if_pos rfl]
 have Mp:M.f p0=some (.cells false none (ints p)):=by rw [Mf,if_pos rfl]
 have l0:=Z1B Mg
 have n0:ldN M 1 (.pointer (some ⟨g0,0,none⟩))=some (.agg #[s]):=Z0O (cs:=[]) ⟨false,none,Mg⟩
 have n4:ldN M 4 (.pointer (some ⟨p0,0,none⟩))=some (av p):=Z0v Mp (by rw [ints_length,hp])
 have len:=hs.len
 by_cases hn:n<=30
 case neg =>
  have k0:=Zbt M (c+1+1+1)
  have fx:=ai l0 (ai len k0)
  refine Ans.go ?_
  clear fx
  exact .done ⟨rfl,rfl⟩
 have hsM:SlI M c s 20 n Gl:=hs.same sM
 have fr:∀ H:FH,Z0q (c+1+1+1) M H->ldN H 1 (.pointer (some ⟨g0,0,none⟩))=some (.agg #[s])/\ldN H 4 (.pointer (some ⟨p0,0,none⟩))=some (av p)/\SlI H c s 20 n Gl:=fun H hH =>
  ⟨Z0O (cs:=[]) ⟨false,none,by show H.f g0=_; rw [hH g0 qO,Mg]⟩,Z0v (by rw [hH p0 qO,Mp]) (by rw [ints_length,hp]),hsM.same (hH.mono qO)⟩
 obtain ⟨r1,hr1,ov1,cl1,e1,q1,k1,s1,A1⟩:=ZkZ s n Gl t p hp M (c+1+1+1) [] (hsM.mono qO) qO
 obtain ⟨K1,hK1⟩:∃ K,r1.h=K:=⟨_,rfl⟩
 obtain ⟨c1,hc1⟩:∃ c,r1.c=c:=⟨_,rfl⟩
 rw [hK1,hc1] at q1 A1
 rw [hc1] at k1
 rw [hK1] at s1
 rw [q1] at hr1
 have f1:=Z0b hr1
 obtain ⟨a1,a2,a3⟩:=fr K1 s1
 obtain ⟨r2,hr2,ov2,e2,q2,k2,s2,A2⟩:=Zl0 s n Gl v K1 (c1+1) [] (a3.mono qO) qO
 obtain ⟨K2,hK2⟩:∃ K,r2.h=K:=⟨_,rfl⟩
 obtain ⟨c2,hc2⟩:∃ c,r2.c=c:=⟨_,rfl⟩
 rw [hK2,hc2] at q2 A2
 rw [hc2] at k2
 rw [hK2] at s2
 rw [q2] at hr2
 have f2:=Z0b hr2
 have t2:Z0q (c+1+1+1) M K2:=s1.trans (s2.mono qO)
 obtain ⟨b1,b2,b3⟩:=fr K2 t2
 obtain ⟨r3,hr3,ov3,cl3,e3,q3,k3,s3,A3⟩:=Znd s n Gl t p hp K2 (c2+1) [] (b3.mono qO) qO
 obtain ⟨K3,hK3⟩:∃ K,r3.h=K:=⟨_,rfl⟩
 obtain ⟨c3,hc3⟩:∃ c,r3.c=c:=⟨_,rfl⟩
 rw [hK3,hc3] at q3 A3
 rw [hc3] at k3
 rw [hK3] at s3
 rw [q3] at hr3
 have f3:=Z0b hr3
 have t3:Z0q (c+1+1+1) M K3:=t2.trans (s3.mono qO)
 obtain ⟨d1,d2,d3⟩:=fr K3 t3
 obtain ⟨r4,hr4,ov4,e4,q4,k4,s4,A4⟩:=Znf s n Gl v K3 (c3+1) [] (d3.mono qO) qO
 obtain ⟨K4,hK4⟩:∃ K,r4.h=K:=⟨_,rfl⟩
 obtain ⟨c4,hc4⟩:∃ c,r4.c=c:=⟨_,rfl⟩
 rw [hK4,hc4] at q4 A4
 rw [hc4] at k4
 rw [hK4] at s4
 rw [q4] at hr4
 have f4:=Z0b hr4
 obtain ⟨z1,z2,K,L,z3,z4,z5⟩:=ZeK hs.1 hp qO A3 A1
 obtain ⟨y2,J,N,y3,y4,y5⟩:=ZeV qO A4 A2
 subst z1 z2 y2
 have u1:SlI K4 (c4+1) ov3 5 K L:=(z3.same (s4.mono qO)).mono qO
 have u2:SlI K4 (c4+1) ov1 5 K L:=(z4.same ((s2.mono (show c1<=c1+1 by omega)).trans ((s3.mono qO).trans (s4.mono qO)))).mono qO
 have u3:SlI K4 (c4+1) ov4 6 J N:=y3.mono qO
 have u4:SlI K4 (c4+1) ov2 6 J N:=(y4.same ((s3.mono (show c2<=c2+1 by omega)).trans (s4.mono qO))).mono qO
 have g1:=Zgm ov3 ov1 K L K4 (c4+1) u1 u2 z5
 have m1:=u3.len
 have m2:=u4.len
 have lo:=Ans.eq (Zac false ov2 ov4 J N K4 (c4+1+1) [] (u4.mono qO) (u3.mono qO) y5 J 0 qO)
 simp only [Int.ofNat_eq_natCast,Int.cast_ofNat_Int] at lo
 have k9:=Zbt K4 (c4+1+1+1)
 have xv0:∀ a b:Value,Z1m (.tuple #[a,b]) 0=some a:=fun _ _=>rfl
 have xv1:∀ a b:Value,Z1m (.tuple #[a,b]) 1=some b:=fun _ _=>rfl
 have xw0:∀ a b d:Value,Z1m (.tuple #[a,b,d]) 0=some a:=fun _ _ _=>rfl
 have xw1:∀ a b d:Value,Z1m (.tuple #[a,b,d]) 1=some b:=fun _ _ _=>rfl
 have xw2:∀ a b d:Value,Z1m (.tuple #[a,b,d]) 2=some d:=fun _ _ _=>rfl
 have tk:∀ h:FH,Z07 h []=some h:=fun _=>rfl
 have nb:=ZlS cl3
 cases cl3 with
 | true =>
  have fx:=ai l0 (ai len (ai n0 (ai n4 (ai f1 (ai xv0 (ai xv1 (ai xw0 (ai xw1 (ai xw2 (ai a1 (ai f2 (ai b1 (ai b2 (ai f3 (ai d1 (ai f4 (ai nb (ai g1 (ai m1 (ai m2 (ai lo (ai k9 tk))))))))))))))))))))))
  refine Ans.go ?_
  clear fx
  exact .done ⟨rfl,rfl⟩
 | false =>
  have fx:=ai l0 (ai len (ai n0 (ai n4 (ai f1 (ai xv0 (ai xv1 (ai xw0 (ai xw1 (ai xw2 (ai a1 (ai f2 (ai b1 (ai b2 (ai f3 (ai d1 (ai f4 (ai nb (ai g1 (ai m1 (ai m2 (ai lo (ai k9 tk))))))))))))))))))))))
  refine Ans.go ?_
  clear fx
  exact .done ⟨rfl,rfl⟩
end Go.Proofs.Ytdodippbpdechaa

namespace Go.Ab
open Go Go.ChangeShapes Go.RowKit
variable {P:Program}
theorem Zia {W:World} {base:Nat} {t:TypeId} {fs:Array Field} {v:Value} {ts:List TypeId} (ht:P.underlying t=some (.struct fs)) (hts:P.cellTypes P.depth t=some ts) (hval:Value.okWide P W .any base t v) :
 ∃ cs,v = .agg cs/\cs.size=P.cellsOf t /\ ∀ i x,cs[i]? = some x -> ∃ u,ts[i % ts.length]? = some u/\Cell.okWide P W .any base u x:=by
 unfold Value.okWide at hval
 rw [ht] at hval
 obtain ⟨cs,rfl,h1,ts',h2,_,h3⟩:=hval
 rw [hts] at h2
 cases h2
 exact ⟨cs,rfl,h1,h3⟩
theorem ZlL {H:Type} {enc:TypeId × Value->H} {W:World} {base:Nat} {tG tS e:TypeId} {sz:Nat} {v:Value} {f0:Field} {d:DataW H} {ps:List MemPlace} (ht:P.underlying tG=some (.struct #[f0])) (hts:P.cellTypes P.depth tG=some [tS]) (hc:P.cellsOf tG=1)
 (hS:P.underlying tS=some (.slice e)) (h0:f0.type=tS) (o0:f0.offset=0) (hcS:P.cellsOf tS=1) (hf:Z4d P e sz) (hz:0<sz) (hval:Value.okWide P W .any base tG v) (hd:DataW.Trod enc P W 0 (fun _=>true) true tG v d ps) :
 ∃ s n Gl,v = .agg #[s]/\Z5P W s sz n Gl:=by
 obtain ⟨cs,rfl,h1,h2⟩:=Zia ht hts hval
 rw [hc] at h1
 have hcs:∃ s,cs = #[s]:=by
  obtain ⟨l⟩:=cs
  match l,h1 with
  | [s],_=>exact ⟨s,rfl⟩
 match hcs with
 | ⟨s,hs⟩ =>
  subst hs
  obtain ⟨u,hu,hok⟩:=h2 0 s rfl
  simp at hu
  subst hu
  obtain ⟨fuel,hd⟩:=hd
  obtain ⟨y0,n,_,_,h3⟩:=trod_struct1 ht hd
  rw [h0,o0,hcS] at h3
  obtain ⟨n,Gl,ho⟩:=ZgE hS hf hz hok (fuel:=n) (x:=y0) (by simpa [Value.cells] using h3)
  exact ⟨s,n,Gl,rfl,ho⟩
theorem VR.agg1 {μ:Mu} {a b:Value} (h:VR μ a b):VR μ (.agg #[a]) (.agg #[b]):=VR.agg_iff.2 (VRs.cons h (VRs.nil _))
def Zll (W:World) (e:Ending) (W':World):Prop:=e = .returned (.bool true)/\Below W.heap.size W W'
end Go.Ab

namespace Go.Ab
open Go Go.ChangeShapes Go.RowKit
end Go.Ab

namespace Go.Ab
open Go Go.ChangeShapes Go.RowKit
def SlC (h:FH) (s:Value) (sz n:Nat) (L:List Int):Prop:=Z0B h sz s=some (ints L,n)
theorem Z5P.slc {W:World} {v:Value} {sz n:Nat} {Gl:List Int} (h:Z5P W v sz n Gl) {A:FH} {i:Nat} (ha:∀ m,ZkT v=some m->A.f i=some (.cells true none (ints Gl))):SlC A (ZhP i v) sz n Gl:=by
 obtain ⟨h1,h2,⟨rfl,rfl⟩ | ⟨b,o,cap,C,E,fr,rfl,g1,_,_⟩⟩:=h
 · have:Gl=[]:=List.eq_nil_of_length_eq_zero qO
   subst this
   rfl
 · have hg:HeapC.get A i=some (.cells true none (ints Gl)):=ha _ rfl
   have hb:Nat.ble (0+n*sz) (ints Gl).length=true:=Nat.ble_eq_true_of_le (by simp [h1])
   simp only [SlC,ZhP,Z0B,Z0J,Z0k,hg,Option.bind_some,hb,cond_true,List.drop_zero]
   rw [List.take_of_length_le (by simp [h1])]
theorem SlI.slc {h:FH} {c:Nat} {s:Value} {sz n:Nat} {L:List Int} (hs:SlI h c s sz n L) (hn:0<n) (hz:0<sz):SlC h s sz n L:=by
 obtain ⟨g1,g2,a,cap,rfl,h4⟩:=hs
 rcases h4 with ⟨e,hv⟩ | ⟨b,o,cs,rfl,e2,⟨ro,op,e3⟩,e4⟩
 · omega
 · have hl:(ints L).length=n*sz:=by simp [g1]
   have h0:0<n*sz:=Nat.mul_pos hn hz
   have hle:o+n*sz<=cs.length:=by
    rw [← e4,List.length_take,List.length_drop] at hl
    omega
   have hb:Nat.ble (o+n*sz) cs.length=true:=Nat.ble_eq_true_of_le hle
   have hg:HeapC.get h b=some (.cells ro op cs):=e3
   simp only [SlC,Z0B,Z0J,Z0k,hg,Option.bind_some,hb,cond_true,e4]
end Go.Ab

namespace Go.Ab
open Go Go.ChangeShapes Go.RowKit
theorem Zgq {W:World} (l:List (Value × Nat × Nat × List Int)) (hl:l.length<=256) (h:∀ (k:Nat) (p:Value × Nat × Nat × List Int),l[k]? = some p->Z5P W p.1 p.2.1 p.2.2.1 p.2.2.2) :
 ∃ (A:FH) (μ:Mu),R μ A W/\Z1O μ 1/\(∀ i m,μ i=some m->wrB (HeapC.get A i)=false) /\ ∀ (k:Nat) (p:Value × Nat × Nat × List Int),l[k]? = some p->SlI A 1 (ZhP k p.1) p.2.1 p.2.2.1 p.2.2.2/\VR μ (ZhP k p.1) p.1/\SlX A (ZhP k p.1) p.2.1 p.2.2.1/\SlC A (ZhP k p.1) p.2.1 p.2.2.1 p.2.2.2:=by
 let blk:Nat->Option ABlk:=fun i=>(l[i]?).bind fun p=>(ZkT p.1).map fun _=>.cells true none (ints p.2.2.2)
 let mu:Mu:=fun i=>(l[i]?).bind fun p=>ZkT p.1
 have key:∀ i m,mu i=some m -> ∃ p,l[i]? = some p/\ZkT p.1=some m/\blk i=some (.cells true none (ints p.2.2.2)):=by
  intro i m e
  cases hp:l[i]? with
  | none=>simp only [mu,hp] at e; cases e
  | some p =>
   simp only [mu,hp,Option.bind_some] at e
   exact ⟨p,rfl,e,by simp only [blk,hp,Option.bind_some,e,Option.map_some]⟩
 refine ⟨⟨blk⟩,mu,⟨fun i m e=>?_,fun i j mi mj ei ej hne di dj hro=>?_,fun i m e=>?_⟩,fun i hi=>?_,fun i m e=>?_,fun k p hp=>?_⟩
 · obtain ⟨p,h1,h2,h3⟩:=key i m e
   have:=((h i p h1).blk (μ:=mu) h2).1
   show Z6r mu m W.heap (blk i)
   rw [h3]; exact this
 · obtain ⟨p,h1,h2,h3⟩:=key i mi ei
   obtain ⟨q,g1,g2,g3⟩:=key j mj ej
   exact absurd (show roB (blk i)=true/\roB (blk j)=true by rw [h3,g3]; exact ⟨rfl,rfl⟩) hro
 · obtain ⟨p,h1,h2,h3⟩:=key i m e
   exact ((h i p h1).blk (μ:=mu) h2).2
 · have:l[i]? = none:=List.getElem?_eq_none qO
   simp only [mu,this]; rfl
 · obtain ⟨p,h1,h2,h3⟩:=key i m e
   show wrB (blk i)=false
   rw [h3]; rfl
 · have hk:k<l.length:=(List.getElem?_eq_some_iff.1 hp).1
   have hb:∀ m,ZkT p.1=some m->blk k=some (.cells true none (ints p.2.2.2)):=fun m hm=>by
    simp only [blk,hp,Option.bind_some,hm,Option.map_some]
   refine ⟨(h k p hp).sl qO (fun m hm=>hb m hm),(h k p hp).vr (fun m hm=>?_),(h k p hp).slx (fun m hm=>hb m hm),(h k p hp).slc (fun m hm=>hb m hm)⟩
   simp only [mu,hp,Option.bind_some,hm]
end Go.Ab

namespace Go.Ab
open Go Go.ChangeShapes Go.RowKit
variable {P:Program}
theorem ZgZ:∀ {cs:List Value},(∀ v ∈ cs,∃ n,v = .int .i64 n) -> ∃ L:List Int,cs=ints L
 | [],_=>⟨[],rfl⟩
 | v::cs,h=>by
  obtain ⟨n,rfl⟩:=h v (by simp)
  obtain ⟨L,e⟩:=ZgZ (cs:=cs) fun w hw=>h w (by simp [hw])
  exact ⟨n::L,by rw [e]; rfl⟩
theorem Zi9 {H:Type} {enc:TypeId × Value->H} {W:World} {base:Nat} {t e:TypeId} {m sz:Nat} {v:Value} {d:DataW H} {ps:List MemPlace} (ht:P.underlying t=some (.array m e)) (hf:Z4d P t sz)
 (hval:Value.okWide P W .any base t v) (hd:DataW.Trod enc P W 0 (fun _=>true) true t v d ps):∃ L,v=av L/\L.length=sz:=by
 unfold Value.okWide at hval
 rw [ht] at hval
 obtain ⟨cs,rfl,h1,_⟩:=hval
 obtain ⟨fuel,hd⟩:=hd
 obtain ⟨h2,h3⟩:=hf.2 _ _ _ _ _ _ _ _ _ hd
 obtain ⟨L,hL⟩:=ZgZ h3
 have e1:cs.toList=ints L:=hL
 refine ⟨L, ?_, ?_⟩
 · rw [av,← e1,Array.toArray_toList]
 · have:(ints L).length=sz:=by rw [← e1]; exact h2
   simpa using this
theorem VRs.ints (μ:Mu):∀ L:List Int,VRs μ (ints L) (ints L)
 | []=>.nil _
 | x::L=>.cons (.int _ _) (VRs.ints μ L)
theorem VR.av (μ:Mu) (L:List Int):VR μ (av L) (av L):=VR.agg_iff.2 (by simpa using VRs.ints μ L)
end Go.Ab

namespace Go.Proofs.Ytdodippbpdechaa
open Go.ChangeShapes Go.WideShapes Go.ChangeAt Go.RowKit
open Go Go.Ab Go.Proofs
theorem Try.own:ownKnob Try.prog.godebug=none:=by kernel_rfl
theorem Try.laidOut:laidOutB Try.prog=true:=by kernel_rfl
theorem Zh5:Z4d P 3 1:=Z4d.int Try.underlying3 (by kernel_rfl)
theorem Ze4:Z4d P 42 4:=Z4d.array (n:=4) (z:=1) Try.underlying42 Zh5 (by kernel_rfl)
theorem ZjL:Z4d P 44 5:=Z4d.struct2 (z0:=1) (z1:=4) Try.underlying44 Zh5 Ze4 rfl rfl (by kernel_rfl)
theorem Zme:Z4d P 45 20:=Z4d.array (n:=4) (z:=5) Try.underlying45 ZjL (by kernel_rfl)
theorem Zci {H:Type} {enc:TypeId × Value->H} {W:World} {base:Nat} {v:Value} {d:DataW H} {ps:List MemPlace} (hval:Value.okWide P W .any base 24 v) (hd:DataW.Trod enc P W 0 (fun _=>true) true 24 v d ps) :
 ∃ s n Gl,v = .agg #[s]/\Z5P W s 20 n Gl :=
 ZlL Try.underlying24 (by kernel_rfl) (by kernel_rfl) Try.underlying22 rfl rfl (by kernel_rfl) Zme qO hval hd
theorem ZgD {H:Type} {enc:TypeId × Value->H} {W:World} {base:Nat} {v:Value} {d:DataW H} {ps:List MemPlace} (hval:Value.okWide P W .any base 42 v) (hd:DataW.Trod enc P W 0 (fun _=>true) true 42 v d ps) :
 ∃ L,v=av L/\L.length=4:=Zi9 Try.underlying42 Ze4 hval hd
theorem ZgQ {f:FuncId} {W:World} {A:FH} {μ:Mu} {xs ys:List Value} (hR:R μ A W) (hf:Z1O μ 1) (hro:∀ i m,μ i=some m->wrB (HeapC.get A i)=false) (hv:VRs μ xs ys) (h:Ans (G (.fn f) xs A 1 []) fun x=>x.e = .ret/\x.vs=[.bool true]) :
 Calls P f ys.toArray W (Zll W):=by
 obtain ⟨x,hx,he,hvs⟩:=h
 refine (ZeI bk_ok ext_ok mixed hx hv hR hf).mono ?_
 rintro en w' ⟨u,v',μ',h1,h2,h3,hE⟩
 rw [hvs] at h1
 cases h1
 exact ⟨by rw [h2,h3.bool_left],hE.os,hE.tape,hE.output,hE.size,fun k hk=>hE.fr k hk (fun i m e hw=>by rw [hro i m e] at hw; cases hw)⟩
end Go.Proofs.Ytdodippbpdechaa
