/- Parts of a proof: K19 K20 K21 K22. Conditions: none. -/
import Derived.Test.YtdodippbpdechaaM16
import Derived.Test.YtdodippbpdechaaM14
set_option linter.all false
set_option maxRecDepth 100000
namespace Go.Proofs.Ytdodippbpdechaa
open Go Go.Ab Go.Proofs
def vN (Gl:List Int) (n:Nat):List Int:=ZdL (vCs Gl n) (4*n)
def dN (Gl:List Int) (n:Nat):List Int:=ZdL (dCs Gl n) (16*n)
def eN (Gl:List Int) (n:Nat):List Int:=ZdL (eCs Gl n) (6*n)
def tN (Gl:List Int) (n:Nat):List Int:=ZdL (tCs Gl n) (4*n)
def nV (Gl:List Int) (n:Nat):Nat:=Z3F (vCs Gl n) (4*n)
def nE (Gl:List Int) (n:Nat):Nat:=Z3F (eCs Gl n) (6*n)
def skZ (Gl:List Int) (n:Nat):List Int × List Bool:=sTs (eN Gl n) (dN Gl n) n 0 (List.replicate (nE Gl n) 0,List.replicate (nE Gl n) false)
structure SkV (c0 c:Nat) (h:FH) (vv ev tv:Value) (gb rb:Nat) (lv:Value) (n:Nat) (Gl:List Int):Prop where
 gv:GrC c0 h c vv 4 n (ints (vN Gl n))
 ge:GrC c0 h c ev 6 n (ints (eN Gl n))
 gt:GrC c0 h c tv 4 n (ints (tN Gl n))
 fg:h.f gb=some (.cells false none (ints (skZ Gl n).1))
 fr:h.f rb=some (.cells false none (bools (skZ Gl n).2))
 gl:GrC c0 h c lv 6 (nV Gl n) (lkL n Gl (vN Gl n) (dN Gl n) (nV Gl n))
 b1:256*c0<=gb/\gb<256*c
 b2:256*c0<=rb/\rb<256*c
theorem eN_lt {Gl:List Int} {n:Nat} (hd:Z5c (eCs Gl n) (6*n)):∀ k,k<6*n->0<=(eN Gl n).getD k 0/\(eN Gl n).getD k 0<nE Gl n:=fun k hk=>by
 rw [eN,Zan _ hk]
 have h1:=Z3t hd hk
 have:=Zkz (C:=eCs Gl n) (m:=6*n) (r:=Z0h (eCs Gl n) k) qO (Z8t hd hk)
 unfold nE
 omega
theorem Z3w {c0 c1:Nat} {h:FH} {c:Nat} {v:Value} {sz n:Nat} {L:List Value} (ha:GrC c1 h c v sz n L) (hc:c0<=c1):GrC c0 h c v sz n L:=by
 rcases ha with ha | ⟨a,b,d,x,i,e,f,g,k⟩
 · exact .inl ha
 · exact .inr ⟨a,b,d,x,i,e,by omega,g,k⟩
set_option maxHeartbeats 4000000 in
theorem Z7p (s:Value) (n:Nat) (Gl:List Int) (h:FH) (c:Nat) (df:List Nat) (hs:SlI h c s 20 n Gl) (hok:Z0F Gl n=true) (hn:n<=60) :
 Ans (G (.fn 39) [.agg #[s]] h c df) fun r=>∃ vv ev tv gb rb lv,r=⟨.ret,[.agg #[vv,ev,tv,.slice (some ⟨gb,0,none⟩) (nE Gl n) (nE Gl n),.slice (some ⟨rb,0,none⟩) (nE Gl n) (nE Gl n),lv]],r.h,r.c,[]⟩/\c<=r.c/\Z0l c h r.h/\SkV c r.c r.h vv ev tv gb rb lv n Gl:=by
 refine Ans.call' (fun r e=>f39_go e) ?_
 have Z2b:((Value.agg #[s]).cells.toList.all Z06)=true:=by simp [Value.cells,hs.flat]
 have Z2e:(Value.agg #[s]).cells.toList=[s]:=rfl
 unfold Zg1
 rw [Z2b,Z2e]
 simp only [cond_true,Nat.add_zero]
 obtain ⟨g0,hg0⟩:∃ b,256*c=b:=⟨_,rfl⟩
 obtain ⟨p0,hp0⟩:∃ b,256*c+1=b:=⟨_,rfl⟩
 obtain ⟨z6,hz6⟩:∃ z,[Value.slice none 0 0,Value.slice none 0 0,Value.slice none 0 0,Value.slice none 0 0,Value.slice none 0 0,Value.slice none 0 0]=z:=⟨_,rfl⟩
 have z6l:z6.length=6:=by rw [← hz6]; rfl
 rw [hp0,hg0,hz6]
 obtain ⟨M,hM⟩:∃ M,newB (newB h g0 [s]) p0 z6=M:=⟨_,rfl⟩
 rw [hM]
 have Mf:∀ j,M.f j=if j=p0 then some (.cells false none z6) else if j=g0 then some (.cells false none [s]) else h.f j:=fun j=>by rw [← hM,Z01,Z01]
 have sM:Z0l c h M:=fun j hj=>by rw [Mf,if_neg qO,if_neg qO]
 have l0:ldN M 1 (.pointer (some ⟨g0,0,none⟩))=some (.agg #[s]):=Z0y (cs:=[]) ⟨false,none,by show M.f g0=_; rw [Mf,if_neg qO,if_pos rfl]⟩
 obtain ⟨r0,hr0,cb,vb,db,eb,tb,V,D,E,T,e0,k0,s0,cl⟩:=Z4b s n Gl M (c+1+1) [] ((hs.same sM).mono qO) hok hn
 obtain ⟨K0,hK0⟩:∃ K,r0.h=K:=⟨_,rfl⟩
 obtain ⟨c0,hc0⟩:∃ c,r0.c=c:=⟨_,rfl⟩
 rw [hK0,hc0] at e0 cl
 rw [hc0] at k0
 rw [hK0] at s0
 rw [e0] at hr0
 have c40:=Z07 hr0
 obtain ⟨⟨t1,t2,t3,t4,t5⟩,t6,t7,t8,t9,t10⟩:=cl.bd
 have ec:=cl.e
 obtain ⟨o1,o2,o3,o4⟩:=ec.o
 obtain ⟨q1,q2,q3,q4,q5,q6⟩:=ec.q
 have u1:Uo K0 cb 1 vb (4*n) V:=⟨⟨_,ec.st,rfl⟩,cl.fv,o1,cl.jv.dn,by omega⟩
 obtain ⟨r1,hr1,V',ob1,e1,k1,a1,b1,f1,_,_,F1⟩:=Z1v cb 1 vb (4*n) (vCs Gl n) V K0 (c0+1) [] u1 cl.jv.1 cl.jv.2 qO qO
 obtain ⟨K1,hK1⟩:∃ K,r1.h=K:=⟨_,rfl⟩
 obtain ⟨c1,hc1⟩:∃ c,r1.c=c:=⟨_,rfl⟩
 rw [hK1,hc1] at e1
 rw [hc1] at k1 b1
 rw [hK1] at f1 F1
 rw [e1] at hr1
 have c41a:=Z07 hr1
 have u2:Uo K1 cb 2 db (16*n) D:=(Uo.mk ⟨_,ec.st,rfl⟩ cl.fd o2 cl.jd.dn qO:Uo K0 cb 2 db (16*n) D).keep (F1 cb qO o1) (F1 db qO (Ne.symm q1))
 obtain ⟨r2,hr2,D',ob2,e2,k2,a2,b2,f2,_,_,F2⟩:=Z1v cb 2 db (16*n) (dCs Gl n) D K1 (c1+1) [] u2 cl.jd.1 cl.jd.2 qO qO
 obtain ⟨K2,hK2⟩:∃ K,r2.h=K:=⟨_,rfl⟩
 obtain ⟨c2,hc2⟩:∃ c,r2.c=c:=⟨_,rfl⟩
 rw [hK2,hc2] at e2
 rw [hc2] at k2 b2
 rw [hK2] at f2 F2
 rw [e2] at hr2
 have c41b:=Z07 hr2
 have u3:Uo K2 cb 3 eb (6*n) E:=((Uo.mk ⟨_,ec.st,rfl⟩ cl.fe o3 cl.je.dn qO:Uo K0 cb 3 eb (6*n) E).keep (F1 cb qO o1) (F1 eb qO (Ne.symm q2))).keep (F2 cb qO o2) (F2 eb qO (Ne.symm q4))
 obtain ⟨r3,hr3,E',ob3,e3,k3,a3,b3,f3,_,_,F3⟩:=Z1v cb 3 eb (6*n) (eCs Gl n) E K2 (c2+1) [] u3 cl.je.1 cl.je.2 qO qO
 obtain ⟨K3,hK3⟩:∃ K,r3.h=K:=⟨_,rfl⟩
 obtain ⟨c3,hc3⟩:∃ c,r3.c=c:=⟨_,rfl⟩
 rw [hK3,hc3] at e3
 rw [hc3] at k3 b3
 rw [hK3] at f3 F3
 rw [e3] at hr3
 have c41c:=Z07 hr3
 have u4:Uo K3 cb 4 tb (4*n) T:=(((Uo.mk ⟨_,ec.st,rfl⟩ cl.ft o4 cl.jt.dn qO:Uo K0 cb 4 tb (4*n) T).keep (F1 cb qO o1) (F1 tb qO (Ne.symm q3))).keep (F2 cb qO o2) (F2 tb qO (Ne.symm q5))).keep (F3 cb qO o3) (F3 tb qO (Ne.symm q6))
 obtain ⟨r4,hr4,T',ob4,e4,k4,a4,b4,f4,_,_,F4⟩:=Z1v cb 4 tb (4*n) (tCs Gl n) T K3 (c3+1) [] u4 cl.jt.1 cl.jt.2 qO qO
 obtain ⟨K4,hK4⟩:∃ K,r4.h=K:=⟨_,rfl⟩
 obtain ⟨c4,hc4⟩:∃ c,r4.c=c:=⟨_,rfl⟩
 rw [hK4,hc4] at e4
 rw [hc4] at k4 b4
 rw [hK4] at f4 F4
 rw [e4] at hr4
 have c41d:=Z07 hr4
 have G4:∀ j,j<256*(c+1+1)->K4.f j=M.f j:=fun j hj=>by
  rw [F4 j qO qO,F3 j qO qO,F2 j qO qO,F1 j qO qO,s0 j hj]
 have v4:K4.f ob1=some (.cells false none (ints (vN Gl n))):=by rw [F4 ob1 qO qO,F3 ob1 qO qO,F2 ob1 qO qO]; exact f1
 have d4:K4.f ob2=some (.cells false none (ints (dN Gl n))):=by rw [F4 ob2 qO qO,F3 ob2 qO qO]; exact f2
 have ee4:K4.f ob3=some (.cells false none (ints (eN Gl n))):=by rw [F4 ob3 qO qO]; exact f3
 have tt4:K4.f ob4=some (.cells false none (ints (tN Gl n))):=f4
 have cb4:K4.f cb=K0.f cb:=by rw [F4 cb qO o4,F3 cb qO o3,F2 cb qO o2,F1 cb qO o1]
 have hmE:nE Gl n<=6*n:=Z4d _ _
 have hmV:nV Gl n<=4*n:=Z4d _ _
 obtain ⟨m,hm⟩:∃ m,nE Gl n=m:=⟨_,rfl⟩
 obtain ⟨cnt,hcnt⟩:∃ m,nV Gl n=m:=⟨_,rfl⟩
 rw [hm] at hmE
 rw [hcnt] at hmV
 rw [show Z3F (vCs Gl n) (4*n)=cnt from hcnt] at c41a
 rw [show Z3F (eCs Gl n) (6*n)=m from hm] at c41c
 have mk1:=Z9w 1 8 .i64 .i64 m qO qO
 have mk2:=Zh1 1 1 .i64 .i64 m qO qO
 obtain ⟨gb,hgb⟩:∃ b,256*c4+1=b:=⟨_,rfl⟩
 obtain ⟨rb,hrb⟩:∃ b,256*c4+3=b:=⟨_,rfl⟩
 obtain ⟨sb,hsb⟩:∃ b,256*c4+5=b:=⟨_,rfl⟩
 obtain ⟨SG,hSG⟩:∃ S,Value.slice (some ⟨gb,0,none⟩) m m=S:=⟨_,rfl⟩
 obtain ⟨SR,hSR⟩:∃ S,Value.slice (some ⟨rb,0,none⟩) m m=S:=⟨_,rfl⟩
 have bv:Z1d z6 [(3,1,SG),(4,1,SR)]=some (.agg [.slice none 0 0,.slice none 0 0,.slice none 0 0,SG,SR,.slice none 0 0].toArray):=by rw [← hz6,← hSG,← hSR]; rfl
 obtain ⟨K5,hK5⟩:∃ K,newB (newB K4 gb (ints (List.replicate m 0))) rb (bools (List.replicate m false))=K:=⟨_,rfl⟩
 have st8:stN (newB K5 sb z6) 6 (.pointer (some ⟨sb,0,none⟩)) (.agg [.slice none 0 0,.slice none 0 0,.slice none 0 0,SG,SR,.slice none 0 0].toArray)=some (newB K5 sb [.slice none 0 0,.slice none 0 0,.slice none 0 0,SG,SR,.slice none 0 0]):=by
  rw [Z0i _ 6 _ 0 _ _ (by simp [Value.cells]) qO (by rw [← hSG,← hSR]; rfl),← hz6]; rfl
 obtain ⟨H8,hH8⟩:∃ H,newB K5 sb [.slice none 0 0,.slice none 0 0,.slice none 0 0,SG,SR,.slice none 0 0]=H:=⟨_,rfl⟩
 rw [hH8] at st8
 have H8f:∀ j,H8.f j=if j=sb then some (.cells false none [.slice none 0 0,.slice none 0 0,.slice none 0 0,SG,SR,.slice none 0 0]) else if j=rb then some (.cells false none (bools (List.replicate m false))) else if j=gb then some (.cells false none (ints (List.replicate m 0))) else K4.f j:=fun j=>by
  rw [← hH8,Z01,← hK5,Z01,Z01]
 have G8:∀ j,j<256*c4->H8.f j=K4.f j:=fun j hj=>by rw [H8f,if_neg qO,if_neg qO,if_neg qO]
 have ls8:ld1 H8 (.pointer (some ⟨g0,0,none⟩))=some s:=by
  rw [Z02 (cs:=[s]) ⟨false,none,by show H8.f g0=_; rw [G8 _ qO,G4 _ qO,Mf,if_neg qO,if_pos rfl]⟩]; rfl
 have len:=hs.len
 have sk0:SkI (c4+1) (c4+1+1) sb gb rb m 0 H8 H8 (.slice none 0 0) (.slice none 0 0) (.slice none 0 0) (.slice none 0 0) (vN Gl n) (eN Gl n) (tN Gl n) (List.replicate m 0,List.replicate m false):=by
  refine ⟨by rw [H8f,if_pos rfl,hSG,hSR],.inl ⟨rfl,rfl,rfl⟩,.inl ⟨rfl,rfl,rfl⟩,.inl ⟨rfl,rfl,rfl⟩,(fun h=>absurd rfl h),(fun h=>absurd rfl h),(fun h=>absurd rfl h), ?_, ?_,fun _ _ _ _ _=>rfl⟩
  · rw [H8f,if_neg qO,if_neg qO,if_pos rfl]
  · rw [H8f,if_neg qO,if_pos rfl]
 have eLt:=eN_lt (Gl:=Gl) (n:=n) cl.je.2
 rw [hm] at eLt
 have sb0:SB m (List.replicate m 0,List.replicate m false) (6*0):=⟨by simp,by simp,fun x=>by
  have:(List.replicate m (0:Int)).getD x 0=0:=by rw [List.getD_eq_getElem?_getD,List.getElem?_replicate]; split <;> rfl
  rw [this]; omega⟩
 obtain ⟨⟨e9',vs9,H9,c9,df9⟩,ex9,x1,x2,x3,x4,vv,ev,tv,sk⟩:=ZjW p0 cb ob1 ob2 ob3 ob4 sb gb rb n m (c4+1) (cnt:Int) (vN Gl n) (dN Gl n) (eN Gl n) (tN Gl n) (.slice none 0 0) H8 [] (by rw [G8 _ qO]; exact v4) (by rw [G8 _ qO]; exact d4) (by rw [G8 _ qO]; exact ee4) (by rw [G8 _ qO]; exact tt4) (Z0A _ _) (Z0A _ _) (Z0A _ _) (Z0A _ _) eLt hn qO qO qO qO qO qO qO qO qO qO qO qO qO qO qO qO qO n 0 (c4+1+1) H8 _ _ _ _ qO qO sk0 sb0
 dsimp only at x1 x2 x3 x4 sk
 subst x1 x2 x3
 simp only [Int.ofNat_eq_natCast,Int.cast_ofNat_Int] at ex9
 have hz:sTs (eN Gl n) (dN Gl n) n 0 (List.replicate m 0,List.replicate m false)=skZ Gl n:=by rw [skZ,hm]
 rw [hz] at sk
 have G9:∀ j,j<256*c4->H9.f j=K4.f j:=fun j hj=>by rw [sk.base j qO qO qO qO,G8 j hj]
 have sm9:Z0l c h H9:=fun j hj=>by rw [G9 j qO,G4 j qO]; exact sM j hj
 have own:∀ (b k:Nat) (L:List Int),H9.f b=some (.cells false none (ints L))->b<256*(c9+1)->L.length=k->k<=9223372036854775807->SlI H9 (c9+1) (.slice (some ⟨b,0,none⟩) k k) 1 k L:=fun b k L hf hb hL hk=>by
  refine ⟨by omega,hk,some ⟨b,0,none⟩,k,rfl,.inr ⟨b,0,ints L,rfl,hb,⟨false,none,hf⟩, ?_⟩⟩
  rw [List.drop_zero,List.take_of_length_le (by simp [hL])]
 have hcb9:Z0d H9 cb [s,.slice (some ⟨vb,0,none⟩) (4*n) (4*n),.slice (some ⟨db,0,none⟩) (16*n) (16*n),.slice (some ⟨eb,0,none⟩) (6*n) (6*n),.slice (some ⟨tb,0,none⟩) (4*n) (4*n)]:=by
  obtain ⟨ro,op,q⟩:=ec.st
  exact ⟨ro,op,by show H9.f cb=_; rw [G9 cb qO,cb4]; exact q⟩
 obtain ⟨⟨e10',vs10,H10,c10,df10⟩,ex10,y1,y2,y3,y4,lv,y5,y6,y7⟩:=ZgF p0 cb ob1 ob2 sb n (c9+1) cnt _ s vv ev tv SG SR Gl (vN Gl n) (dN Gl n) H9 [] hcb9 ((hs.same sm9).mono qO) hok (own ob1 (4*n) _ (by rw [G9 _ qO]; exact v4) qO (Z0A _ _) qO) (own ob2 (16*n) _ (by rw [G9 _ qO]; exact d4) qO (Z0A _ _) qO) hn qO qO qO (fun h0=>by have:=hs.blk h0; omega) qO qO hmV cnt 0 (c9+1) H9 (.slice none 0 0) qO (Nat.le_refl _) (by rw [← hSG,← hSR]; exact sk.fs) (.inl ⟨rfl,rfl,rfl⟩) (fun _ _ _=>rfl)
 dsimp only at y1 y2 y3 y4 y5 y6 y7
 subst y1 y2 y3
 simp only [Int.ofNat_eq_natCast,Int.cast_ofNat_Int] at ex10
 obtain ⟨R,hR⟩:∃ R,[vv,ev,tv,SG,SR,lv]=R:=⟨_,rfl⟩
 have R6:R.length=6:=by rw [← hR]; rfl
 have Rf:R.all Z06=true:=by
  rw [← hR,← hSG,← hSR]
  simp only [List.all_cons,List.all_nil,sk.gv.flat.1,sk.ge.flat.1,sk.gt.flat.1,y6.flat.1,Bool.and_true,Bool.true_and]
  rfl
 rw [hR] at y5
 have l10:ldN H10 6 (.pointer (some ⟨sb,0,none⟩))=some (.agg R.toArray):=by
  rw [ldN_holds (cs:=R) ⟨false,none,y5⟩ qO,List.drop_zero,List.take_of_length_le qO]
 have fp:H10.f p0=some (.cells false none z6):=by rw [y7 p0 qO qO,G9 _ qO,G4 _ qO,Mf,if_pos rfl]
 have e10:newB H10 p0 z6=H10:=by
  apply FH.ext; intro k
  rw [Z01]; split
  · rename_i e; rw [e,fp]
  · rfl
 have w10:stN H10 6 (.pointer (some ⟨p0,0,none⟩)) (.agg R.toArray)=some (newB H10 p0 R):=by
  have:=Z0i H10 6 p0 0 z6 (.agg R.toArray) (by simp [Value.cells,R6]) qO (by simpa [Value.cells] using Rf)
  rw [e10] at this
  rw [this]
  simp [Z0M,Value.cells,R6,List.drop_of_length_le (show z6.length<=6 by omega)]
 have l11:ldN (newB H10 p0 R) 6 (.pointer (some ⟨p0,0,none⟩))=some (.agg R.toArray):=by
  rw [ldN_newB_same _ _ _ _ _ qO,List.drop_zero,List.take_of_length_le qO]
 obtain ⟨H11,hH11⟩:∃ H,newB H10 p0 R=H:=⟨_,rfl⟩
 rw [hH11] at w10 l11
 have H11f:∀ j,j ≠ p0->H11.f j=H10.f j:=fun j hj=>by rw [← hH11,Z01,if_neg hj]
 obtain ⟨Z1,hZ1⟩:∃ Z,Value.slice (some ⟨ob1,0,none⟩) (4*n) (4*n)=Z:=⟨_,rfl⟩
 obtain ⟨Z2,hZ2⟩:∃ Z,Value.slice (some ⟨ob2,0,none⟩) (16*n) (16*n)=Z:=⟨_,rfl⟩
 obtain ⟨Z3,hZ3⟩:∃ Z,Value.slice (some ⟨ob3,0,none⟩) (6*n) (6*n)=Z:=⟨_,rfl⟩
 obtain ⟨Z4,hZ4⟩:∃ Z,Value.slice (some ⟨ob4,0,none⟩) (4*n) (4*n)=Z:=⟨_,rfl⟩
 rw [hZ1] at c41a ex9 ex10
 rw [hZ2] at c41b ex9 ex10
 rw [hZ3] at c41c ex9
 rw [hZ4] at c41d ex9
 obtain ⟨d2n,hd2n⟩:∃ d,Z3F (dCs Gl n) (16*n)=d:=⟨_,rfl⟩
 obtain ⟨t2n,ht2n⟩:∃ d,Z3F (tCs Gl n) (4*n)=d:=⟨_,rfl⟩
 rw [hd2n] at c41b
 rw [ht2n] at c41d
 have xv0:∀ a b:Value,Z4z (.tuple #[a,b]) 0=some a:=fun _ _=>rfl
 have xv1:∀ a b:Value,Z4z (.tuple #[a,b]) 1=some b:=fun _ _=>rfl
 have fx:=ai l0 (ai c40 (ai c41a (ai c41b (ai c41c (ai c41d (ai xv0 (ai xv1 (ai mk1 (ai mk2 (ai hgb (ai hrb (ai hsb (ai hSG (ai hSR (ai bv (ai hK5 (ai st8 (ai ls8 (ai len (ai ex9 (ai ex10 (ai l10 (ai w10 l11)))))))))))))))))))))))
 refine Ans.go ?_
 clear fx
 have keep:∀ {v:Value} {sz k:Nat} {L:List Value},GrC (c4+1) H9 c9 v sz k L->GrC c H11 (c10+1) v sz k L:=fun {v sz k L} g =>
  Z3w ((g.keep (h':=H11) fun hv=>by
   have:=g.blk hv
   rw [H11f _ qO,y7 _ qO qO]).mono (c':=c10+1) qO) qO
 have tv4:(vN Gl n).take (4*n)=vN Gl n:=List.take_of_length_le (by rw [vN,Z0A]; exact Nat.le_refl _)
 have te6:(eN Gl n).take (6*n)=eN Gl n:=List.take_of_length_le (by rw [eN,Z0A]; exact Nat.le_refl _)
 have tt4':(tN Gl n).take (4*n)=tN Gl n:=List.take_of_length_le (by rw [tN,Z0A]; exact Nat.le_refl _)
 have g1:=keep sk.gv
 have g2:=keep sk.ge
 have g3:=keep sk.gt
 rw [tv4] at g1
 rw [te6] at g2
 rw [tt4'] at g3
 refine .done ⟨vv,ev,tv,gb,rb,lv,by rw [hm,hSG,hSR,← hR],by dsimp only; omega,fun j hj=>?_,⟨g1,g2,g3, ?_, ?_, ?_,⟨by omega,by dsimp only; omega⟩,⟨by omega,by dsimp only; omega⟩⟩⟩
 · show H11.f j=h.f j
   rw [H11f j qO,y7 j qO qO]
   exact sm9 j hj
 · show H11.f gb=_
   rw [H11f _ qO,y7 _ qO qO]
   exact sk.fg
 · show H11.f rb=_
   rw [H11f _ qO,y7 _ qO qO]
   exact sk.fr
 · rw [hcnt]
   exact Z3w ((y6.keep (h':=H11) fun hv=>by
    have:=y6.blk hv
    rw [H11f _ qO]).mono (c':=c10+1) qO) qO

def Z87:List Value:=[.slice none 0 0,.slice none 0 0,.slice none 0 0,.slice none 0 0,.slice none 0 0,.slice none 0 0]
theorem ZgZ:Z87.length=6:=rfl
theorem Z7o {h:FH} {b n:Nat} {z L:List Value} (hf:h.f b=some (.cells false none z)) (hz:z.length=n) (hL:L.length=n) (hLf:L.all Z06=true):stN h n (.pointer (some ⟨b,0,none⟩)) (.agg L.toArray)=some (newB h b L):=by
 have e:newB h b z=h:=by
  apply FH.ext; intro k
  rw [Z01]; split
  · rename_i e; rw [e,hf]
  · rfl
 have:=Z0i h n b 0 z (.agg L.toArray) (by simp [Value.cells,hL]) qO (by simpa [Value.cells] using hLf)
 rw [e] at this
 rw [this]
 simp [Z0M,Value.cells,hL,List.drop_of_length_le (show z.length<=n by omega)]
theorem Z0O {h:FH} {b n:Nat} {L:List Value} (hf:h.f b=some (.cells false none L)) (hL:L.length=n):ldN h n (.pointer (some ⟨b,0,none⟩))=some (.agg L.toArray):=by
 rw [ldN_holds (cs:=L) ⟨false,none,hf⟩ qO,List.drop_zero,List.take_of_length_le qO]
theorem of_bad (s:Value) (n:Nat) (Gl:List Int) (h:FH) (c:Nat) (df:List Nat) (hs:SlI h c s 20 n Gl) (hok:¬ (n<=1000/\Z0F Gl n=true)) :
 Ans (G (.fn 11) [.agg #[s]] h c df) fun r=>r=⟨.ret,[.tuple #[.agg Z87.toArray,.int .i64 7]],r.h,r.c,[]⟩/\c<=r.c/\Z0l c h r.h:=by
 refine Ans.call' (fun r e=>ZjC e) ?_
 have Z2b:((Value.agg #[s]).cells.toList.all Z06)=true:=by simp [Value.cells,hs.flat]
 have Z2e:(Value.agg #[s]).cells.toList=[s]:=rfl
 unfold Zeo
 rw [Z2b,Z2e]
 simp only [cond_true,Nat.add_zero]
 obtain ⟨g0,hg0⟩:∃ b,256*c=b:=⟨_,rfl⟩
 obtain ⟨p0,hp0⟩:∃ b,256*c+1=b:=⟨_,rfl⟩
 obtain ⟨M,hM⟩:∃ M,newB (newB h g0 [s]) p0 Z87=M:=⟨_,rfl⟩
 rw [hp0,hg0,show [Value.slice none 0 0,Value.slice none 0 0,Value.slice none 0 0,Value.slice none 0 0,Value.slice none 0 0,Value.slice none 0 0]=Z87 from rfl,hM]
 have Mf:∀ j,M.f j=if j=p0 then some (.cells false none Z87) else if j=g0 then some (.cells false none [s]) else h.f j:=fun j=>by rw [← hM,Z01,Z01]
 have sM:Z0l c h M:=fun j hj=>by rw [Mf,if_neg qO,if_neg qO]
 have l0:ldN M 1 (.pointer (some ⟨g0,0,none⟩))=some (.agg #[s]):=Z0y (cs:=[]) ⟨false,none,by show M.f g0=_; rw [Mf,if_neg qO,if_pos rfl]⟩
 have ck:=Z07 (Z55 s n Gl M (c+1+1) [] ((hs.same sM).mono qO))
 rw [if_neg hok] at ck
 have b6:Z1d Z87 []=some (.agg Z87.toArray):=rfl
 have fp:M.f p0=some (.cells false none Z87):=by rw [Mf,if_pos rfl]
 have w1:stN M 6 (.pointer (some ⟨p0,0,none⟩)) (.agg Z87.toArray)=some (newB M p0 Z87):=Z7o fp rfl rfl rfl
 have l1:ldN (newB M p0 Z87) 6 (.pointer (some ⟨p0,0,none⟩))=some (.agg Z87.toArray):=Z0O (by rw [Z01,if_pos rfl]) rfl
 obtain ⟨N6,hN6⟩:∃ N,Z87=N:=⟨_,rfl⟩
 rw [hN6] at b6 w1 l1 ⊢
 obtain ⟨H,hH⟩:∃ H,newB M p0 N6=H:=⟨_,rfl⟩
 rw [hH] at w1 l1
 have fx:=ai l0 (ai ck (ai b6 (ai w1 l1)))
 refine Ans.go ?_
 clear fx
 refine .done ⟨rfl,by dsimp only; omega,fun j hj=>?_⟩
 show H.f j=h.f j
 rw [← hH,Z01,if_neg qO]
 exact sM j hj
theorem of_ok (s:Value) (n:Nat) (Gl:List Int) (h:FH) (c:Nat) (df:List Nat) (hs:SlI h c s 20 n Gl) (hok:Z0F Gl n=true) (hn:n<=60) :
 Ans (G (.fn 11) [.agg #[s]] h c df) fun r=>∃ vv ev tv gb rb lv,r=⟨.ret,[.tuple #[.agg #[vv,ev,tv,.slice (some ⟨gb,0,none⟩) (nE Gl n) (nE Gl n),.slice (some ⟨rb,0,none⟩) (nE Gl n) (nE Gl n),lv],.int .i64 0]],r.h,r.c,[]⟩/\c<=r.c/\Z0l c h r.h/\SkV c r.c r.h vv ev tv gb rb lv n Gl:=by
 refine Ans.call' (fun r e=>ZjC e) ?_
 have Z2b:((Value.agg #[s]).cells.toList.all Z06)=true:=by simp [Value.cells,hs.flat]
 have Z2e:(Value.agg #[s]).cells.toList=[s]:=rfl
 unfold Zeo
 rw [Z2b,Z2e]
 simp only [cond_true,Nat.add_zero]
 obtain ⟨g0,hg0⟩:∃ b,256*c=b:=⟨_,rfl⟩
 obtain ⟨p0,hp0⟩:∃ b,256*c+1=b:=⟨_,rfl⟩
 obtain ⟨M,hM⟩:∃ M,newB (newB h g0 [s]) p0 Z87=M:=⟨_,rfl⟩
 rw [hp0,hg0,show [Value.slice none 0 0,Value.slice none 0 0,Value.slice none 0 0,Value.slice none 0 0,Value.slice none 0 0,Value.slice none 0 0]=Z87 from rfl,hM]
 have Mf:∀ j,M.f j=if j=p0 then some (.cells false none Z87) else if j=g0 then some (.cells false none [s]) else h.f j:=fun j=>by rw [← hM,Z01,Z01]
 have sM:Z0l c h M:=fun j hj=>by rw [Mf,if_neg qO,if_neg qO]
 have l0:ldN M 1 (.pointer (some ⟨g0,0,none⟩))=some (.agg #[s]):=Z0y (cs:=[]) ⟨false,none,by show M.f g0=_; rw [Mf,if_neg qO,if_pos rfl]⟩
 have ck:=Z07 (Z55 s n Gl M (c+1+1) [] ((hs.same sM).mono qO))
 rw [if_pos ⟨by omega,hok⟩] at ck
 obtain ⟨r0,hr0,vv,ev,tv,gb,rb,lv,e0,k0,s0,sk⟩:=Z7p s n Gl M (c+1+1+1) [] ((hs.same sM).mono qO) hok hn
 obtain ⟨K,hK⟩:∃ K,r0.h=K:=⟨_,rfl⟩
 obtain ⟨k,hk⟩:∃ c,r0.c=c:=⟨_,rfl⟩
 rw [hK,hk] at e0 sk
 rw [hk] at k0
 rw [hK] at s0
 rw [e0] at hr0
 have c39:=Z07 hr0
 have fp:K.f p0=some (.cells false none Z87):=by rw [s0 p0 qO,Mf,if_pos rfl]
 obtain ⟨R,hR⟩:∃ R,[vv,ev,tv,.slice (some ⟨gb,0,none⟩) (nE Gl n) (nE Gl n),.slice (some ⟨rb,0,none⟩) (nE Gl n) (nE Gl n),lv]=R:=⟨_,rfl⟩
 have hR':Value.agg #[vv,ev,tv,.slice (some ⟨gb,0,none⟩) (nE Gl n) (nE Gl n),.slice (some ⟨rb,0,none⟩) (nE Gl n) (nE Gl n),lv] = .agg R.toArray:=by rw [← hR]
 have R6:R.length=6:=by rw [← hR]; rfl
 have Rf:R.all Z06=true:=by
  rw [← hR]
  simp only [List.all_cons,List.all_nil,sk.gv.flat.1,sk.ge.flat.1,sk.gt.flat.1,sk.gl.flat.1,Bool.and_true,Bool.true_and]
  rfl
 rw [hR'] at c39
 have w1:stN K 6 (.pointer (some ⟨p0,0,none⟩)) (.agg R.toArray)=some (newB K p0 R):=Z7o fp rfl R6 Rf
 have l1:ldN (newB K p0 R) 6 (.pointer (some ⟨p0,0,none⟩))=some (.agg R.toArray):=Z0O (by rw [Z01,if_pos rfl]) R6
 obtain ⟨H,hH⟩:∃ H,newB K p0 R=H:=⟨_,rfl⟩
 rw [hH] at w1 l1
 have Hf:∀ j,j ≠ p0->H.f j=K.f j:=fun j hj=>by rw [← hH,Z01,if_neg hj]
 have fx:=ai l0 (ai ck (ai c39 (ai w1 l1)))
 refine Ans.go ?_
 clear fx
 have kp:∀ {v:Value} {sz k':Nat} {L:List Value},GrC (c+1+1+1) K k v sz k' L->GrC c H k v sz k' L:=fun {v sz k' L} g =>
  Z3w (g.keep (h':=H) fun hv=>Hf _ (by have:=g.blk hv; omega)) qO
 refine .done ⟨vv,ev,tv,gb,rb,lv,by rw [hR'],by dsimp only; omega,fun j hj=>?_,⟨kp sk.gv,kp sk.ge,kp sk.gt, ?_, ?_,kp sk.gl,⟨by have:=sk.b1; omega,sk.b1.2⟩,⟨by have:=sk.b2; omega,sk.b2.2⟩⟩⟩
 · show H.f j=h.f j
   rw [Hf j qO,s0 j qO]
   exact sM j hj
 · show H.f gb=_
   rw [Hf _ (by have:=sk.b1; omega)]; exact sk.fg
 · show H.f rb=_
   rw [Hf _ (by have:=sk.b2; omega)]; exact sk.fr
def eulV (Gl:List Int) (n:Nat):Int:=(nV Gl n:Int)-nE Gl n+Z3F (tCs Gl n) (4*n)-n
set_option maxHeartbeats 1000000 in
theorem Zj5 (s:Value) (n:Nat) (Gl:List Int) (h:FH) (c:Nat) (df:List Nat) (hs:SlI h c s 20 n Gl) (hn:n<=60) :
 G (.fn 12) [.agg #[s]] h c df=some ⟨.ret,[.tuple #[.int .i64 (if Z0F Gl n=true then eulV Gl n else 0),.int .i64 (if Z0F Gl n=true then 0 else 7)]],h,c,[]⟩:=by
 refine Z0K (fun r e=>f12_go e) (OkV.tup2 _ _ _ _ _) ?_
 have Z2b:((Value.agg #[s]).cells.toList.all Z06)=true:=by simp [Value.cells,hs.flat]
 have Z2e:(Value.agg #[s]).cells.toList=[s]:=rfl
 unfold Zl3
 rw [Z2b,Z2e]
 simp only [cond_true,Nat.add_zero]
 obtain ⟨g0,hg0⟩:∃ b,256*c=b:=⟨_,rfl⟩
 obtain ⟨M,hM⟩:∃ M,newB h g0 [s]=M:=⟨_,rfl⟩
 rw [hg0,hM]
 have Mf:∀ j,M.f j=if j=g0 then some (.cells false none [s]) else h.f j:=fun j=>by rw [← hM,Z01]
 have sM:Z0l c h M:=fun j hj=>by rw [Mf,if_neg qO]
 have l0:ldN M 1 (.pointer (some ⟨g0,0,none⟩))=some (.agg #[s]):=Z0y (cs:=[]) ⟨false,none,by show M.f g0=_; rw [Mf,if_pos rfl]⟩
 have ck:=Z07 (Z55 s n Gl M (c+1+1) [] ((hs.same sM).mono qO))
 by_cases hok:Z0F Gl n=true
 · rw [if_pos ⟨by omega,hok⟩] at ck
   rw [if_pos hok,if_pos hok]
   obtain ⟨r0,hr0,cb,vb,db,eb,tb,V,D,E,T,e0,k0,s0,cl⟩:=Z4b s n Gl M (c+1+1+1) [] ((hs.same sM).mono qO) hok hn
   obtain ⟨K0,hK0⟩:∃ K,r0.h=K:=⟨_,rfl⟩
   obtain ⟨c0,hc0⟩:∃ c,r0.c=c:=⟨_,rfl⟩
   rw [hK0,hc0] at e0 cl
   rw [hc0] at k0
   rw [hK0] at s0
   rw [e0] at hr0
   have c40:=Z07 hr0
   obtain ⟨⟨t1,t2,t3,t4,t5⟩,t6,t7,t8,t9,t10⟩:=cl.bd
   have ec:=cl.e
   obtain ⟨o1,o2,o3,o4⟩:=ec.o
   obtain ⟨q1,q2,q3,q4,q5,q6⟩:=ec.q
   have u1:Uo K0 cb 1 vb (4*n) V:=⟨⟨_,ec.st,rfl⟩,cl.fv,o1,cl.jv.dn,by omega⟩
   obtain ⟨r1,hr1,V',ob1,e1,k1,a1,b1,f1,_,_,F1⟩:=Z1v cb 1 vb (4*n) (vCs Gl n) V K0 (c0+1) [] u1 cl.jv.1 cl.jv.2 qO qO
   obtain ⟨K1,hK1⟩:∃ K,r1.h=K:=⟨_,rfl⟩
   obtain ⟨c1,hc1⟩:∃ c,r1.c=c:=⟨_,rfl⟩
   rw [hK1,hc1] at e1
   rw [hc1] at k1 b1
   rw [hK1] at f1 F1
   rw [e1] at hr1
   have c41a:=Z07 hr1
   have u3:Uo K1 cb 3 eb (6*n) E:=(Uo.mk ⟨_,ec.st,rfl⟩ cl.fe o3 cl.je.dn qO:Uo K0 cb 3 eb (6*n) E).keep (F1 cb qO o1) (F1 eb qO (Ne.symm q2))
   obtain ⟨r3,hr3,E',ob3,e3,k3,a3,b3,f3,_,_,F3⟩:=Z1v cb 3 eb (6*n) (eCs Gl n) E K1 (c1+1) [] u3 cl.je.1 cl.je.2 qO qO
   obtain ⟨K3,hK3⟩:∃ K,r3.h=K:=⟨_,rfl⟩
   obtain ⟨c3,hc3⟩:∃ c,r3.c=c:=⟨_,rfl⟩
   rw [hK3,hc3] at e3
   rw [hc3] at k3 b3
   rw [hK3] at f3 F3
   rw [e3] at hr3
   have c41c:=Z07 hr3
   have u4:Uo K3 cb 4 tb (4*n) T:=((Uo.mk ⟨_,ec.st,rfl⟩ cl.ft o4 cl.jt.dn qO:Uo K0 cb 4 tb (4*n) T).keep (F1 cb qO o1) (F1 tb qO (Ne.symm q3))).keep (F3 cb qO o3) (F3 tb qO (Ne.symm q6))
   obtain ⟨r4,hr4,T',ob4,e4,k4,a4,b4,f4,_,_,F4⟩:=Z1v cb 4 tb (4*n) (tCs Gl n) T K3 (c3+1) [] u4 cl.jt.1 cl.jt.2 qO qO
   obtain ⟨K4,hK4⟩:∃ K,r4.h=K:=⟨_,rfl⟩
   obtain ⟨c4,hc4⟩:∃ c,r4.c=c:=⟨_,rfl⟩
   rw [hK4,hc4] at e4
   rw [hc4] at k4 b4
   rw [hK4] at f4 F4
   rw [e4] at hr4
   have c41d:=Z07 hr4
   have G4:∀ j,j<256*(c+1+1)->K4.f j=M.f j:=fun j hj=>by
    rw [F4 j qO qO,F3 j qO qO,F1 j qO qO,s0 j qO]
   have h1:Z3F (vCs Gl n) (4*n)<=4*n:=Z4d _ _
   have h2:Z3F (eCs Gl n) (6*n)<=6*n:=Z4d _ _
   have h3:Z3F (tCs Gl n) (4*n)<=4*n:=Z4d _ _
   have he:eulV Gl n=(Z3F (vCs Gl n) (4*n):Int)-Z3F (eCs Gl n) (6*n)+Z3F (tCs Gl n) (4*n)-n:=rfl
   rw [he]
   obtain ⟨x,hx⟩:∃ m,Z3F (vCs Gl n) (4*n)=m:=⟨_,rfl⟩
   obtain ⟨y,hy⟩:∃ m,Z3F (eCs Gl n) (6*n)=m:=⟨_,rfl⟩
   obtain ⟨z,hz⟩:∃ m,Z3F (tCs Gl n) (4*n)=m:=⟨_,rfl⟩
   rw [hx] at c41a h1 ⊢
   rw [hy] at c41c h2 ⊢
   rw [hz] at c41d h3 ⊢
   have ls8:ld1 K4 (.pointer (some ⟨g0,0,none⟩))=some s:=by
    rw [Z02 (cs:=[s]) ⟨false,none,by show K4.f g0=_; rw [G4 _ qO,Mf,if_pos rfl]⟩]; rfl
   have len:=hs.len
   have xv0:∀ a b:Value,Z4z (.tuple #[a,b]) 0=some a:=fun _ _=>rfl
   have xv1:∀ a b:Value,Z4z (.tuple #[a,b]) 1=some b:=fun _ _=>rfl
   obtain ⟨Z1,hZ1⟩:∃ Z,Value.slice (some ⟨ob1,0,none⟩) (4*n) (4*n)=Z:=⟨_,rfl⟩
   obtain ⟨Z3,hZ3⟩:∃ Z,Value.slice (some ⟨ob3,0,none⟩) (6*n) (6*n)=Z:=⟨_,rfl⟩
   obtain ⟨Z4,hZ4⟩:∃ Z,Value.slice (some ⟨ob4,0,none⟩) (4*n) (4*n)=Z:=⟨_,rfl⟩
   rw [hZ1] at c41a
   rw [hZ3] at c41c
   rw [hZ4] at c41d
   have fx:=ai l0 (ai ck (ai c40 (ai c41a (ai c41c (ai c41d (ai xv0 (ai xv1 (ai ls8 len))))))))
   refine Ans.go ?_
   clear fx
   refine Ans.pure rfl fun j hj=>?_
   rw [G4 j qO]
   exact sM j hj
 · rw [if_neg (fun z=>hok z.2)] at ck
   rw [if_neg hok,if_neg hok]
   have fx:=ai l0 ck
   refine Ans.go ?_
   clear fx
   exact Ans.pure rfl sM

def frS (Gl:List Int) (t f:Nat) (x:Bool):Bool:=x || decide (Z18 (Z05 Gl t f)<0)
def frF (Gl:List Int) (t:Nat):Nat->Nat->Bool->Bool
 | 0,_,x=>x
 | r+1,f,x=>frF Gl t r (f+1) (frS Gl t f x)
def frT (Gl:List Int):Nat->Nat->Bool->Bool
 | 0,_,x=>x
 | r+1,t,x=>frT Gl r (t+1) (frF Gl t 4 0 x)
def rvF (R:List Bool):Nat->Nat->Bool->Bool
 | 0,_,x=>x
 | r+1,k,x=>rvF R r (k+1) (x || R.getD k false)
def lkE (n:Nat) (Gl V D:List Int) (k:Nat):Int:=((dZ n Gl D (inC V k)).1.length:Int)-((dZ n Gl D (inC V k)).2.1+(dZ n Gl D (inC V k)).2.2 / 2:Nat)+rk (inC V k) (4*n)
def lkC (n:Nat) (Gl V D:List Int) (k:Nat):Bool:=decide ((dZ n Gl D (inC V k)).2.1=0)
def spB (E:Int) (C:Bool):Bool:=C && decide (E=2)
def dkB (E:Int) (C:Bool):Bool:=spB E C || (!C && decide (E=1))
def lkF (n:Nat) (Gl V D:List Int):Nat->Nat->Bool × Bool->Bool × Bool
 | 0,_,x=>x
 | r+1,k,x=>lkF n Gl V D r (k+1) (x.1 && spB (lkE n Gl V D k) (lkC n Gl V D k),x.2 && dkB (lkE n Gl V D k) (lkC n Gl V D k))
noncomputable def xH (h0:FH) (xb:Nat) (a b c d:Bool):FH:=newB h0 xb (bools [a,b,c,d])
theorem Z86 (h0:FH) (xb:Nat) (a b c d:Bool) (j:Nat):(xH h0 xb a b c d).f j=if j=xb then some (.cells false none (bools [a,b,c,d])) else h0.f j:=Z01 _ _ _ _
theorem Zgu {h0:FH} {xb:Nat} {a b c d a' b' c' d':Bool} {k:Nat} (lx:xb<256*k):Z2k k (xH h0 xb a b c d) (xH h0 xb a' b' c' d'):=Z2k.both (Z1i.bools _ _) (Z2k.refl _ _) lx
theorem Zgw {h0:FH} {xb:Nat} {a b c d:Bool} (i:Nat):ld1 (xH h0 xb a b c d) (.pointer (some ⟨xb,i,none⟩))=(bools [a,b,c,d])[i]?:=by
 rw [Z02 (cs:=bools [a,b,c,d]) ⟨false,none,by show (xH h0 xb a b c d).f xb=_; rw [Z86,if_pos rfl]⟩]
theorem Zgv {h0:FH} {xb:Nat} {a b c d:Bool} (x:Bool):stN (xH h0 xb a b c d) 1 (.pointer (some ⟨xb,0,none⟩)) (.bool x)=some (xH h0 xb x b c d)/\stN (xH h0 xb a b c d) 1 (.pointer (some ⟨xb,1,none⟩)) (.bool x)=some (xH h0 xb a x c d) ∧
 stN (xH h0 xb a b c d) 1 (.pointer (some ⟨xb,2,none⟩)) (.bool x)=some (xH h0 xb a b x d)/\stN (xH h0 xb a b c d) 1 (.pointer (some ⟨xb,3,none⟩)) (.bool x)=some (xH h0 xb a b c x):=by
 have g:HeapC.get (xH h0 xb a b c d) xb=some (.cells false none (bools [a,b,c,d])):=by show (xH h0 xb a b c d).f xb=_; rw [Z86,if_pos rfl]
 have e:∀ (i:Nat) (L:List Bool),(bools [a,b,c,d]).set i (.bool x)=bools L->HeapC.set (xH h0 xb a b c d) xb (.cells false none ((bools [a,b,c,d]).set i (.bool x)))=newB h0 xb (bools L):=fun i L hL=>by
  apply FH.ext; intro j
  rw [Z0c,Z01,Z86,hL]
  split <;> rfl
 refine ⟨?_, ?_, ?_, ?_⟩
 · rw [Z0G g (by simp [bools]) rfl rfl,e 0 [x,b,c,d] rfl]; rfl
 · rw [Z0G g (by simp [bools]) rfl rfl,e 1 [a,x,c,d] rfl]; rfl
 · rw [Z0G g (by simp [bools]) rfl rfl,e 2 [a,b,x,d] rfl]; rfl
 · rw [Z0G g (by simp [bools]) rfl rfl,e 3 [a,b,c,x] rfl]; rfl
theorem ZaJ {h0:FH} {xb kb:Nat} {a b c d:Bool} (hne:kb ≠ xb) (cs:List Value):newB (xH h0 xb a b c d) kb cs=xH (newB h0 kb cs) xb a b c d:=by
 apply FH.ext; intro j
 rw [Z01,Z86,Z86,Z01]
 by_cases e:j=kb
 · subst e; rw [if_pos rfl,if_neg hne,if_pos rfl]
 · rw [if_neg e,if_neg e]
theorem ZkA (rb0 kb0 xb t c:Nat) (y0 y1:Value) (n:Nat) (Gl:List Int) (h0:FH) (df:List Nat) (hG:Gl.length=n*20) (ht:t<n) (hn:n<=60) (b2 b3 b4:Bool) (o0:OkV c y0) (o1:OkV c y1) (l0:rb0<256*c) (l1:kb0<256*c) (lx:xb<256*c) :
 ∀ (r f:Nat) (x:Bool),f+r=4->Ans (G (Z8V none) [ptrTo rb0,ptrTo kb0,ptrTo xb,y0,y1,.int .i64 t,av (Z1R Gl t),.int .i64 f] (xH h0 xb x b2 b3 b4) c df) fun q=>q=⟨.exit 2,[ptrTo rb0,ptrTo kb0,ptrTo xb,y0,y1,.int .i64 t,av (Z1R Gl t),.int .i64 4],xH h0 xb (frF Gl t r f x) b2 b3 b4,c,df⟩:=by
 intro r
 have hrl:=Z1c hG ht
 have orow:OkV c (av (Z1R Gl t)):=OkV.av _ _
 induction r with
 | zero =>
  intro f x hf
  obtain rfl:f=4:=by omega
  refine Ans.lpG rfl rfl (Z4r ..) ?_
  unfold Z3S
  have fx:=True.intro
  refine Ans.go ?_
  clear fx
  (have fx:=ai l0 (ai l1 (ai lx (ai o0 (ai o1 orow)))); refine Ans.ex0 ?_; clear fx)
  rfl
 | succ r ih =>
  intro f x hf
  have hf4:f<4:=by omega
  have hk:=ih (f+1) (frS Gl t f x) qO
  have x1:=Z6f (Z1R Gl t) 4 5 .i64 (f:Int) qO qO hrl
  rw [Int.toNat_natCast,Z76 hf4] at x1
  have hfl:=Z0v hG ht hf4
  have f4:(f:Int)<4:=by omega
  rw [frF]
  obtain ⟨kb,hkb⟩:∃ b,256*(c+1)+1=b:=⟨_,rfl⟩
  have hne:kb ≠ xb:=by omega
  have hst:stN (newB (xH h0 xb x b2 b3 b4) kb [.int .i64 0,.int .i64 0,.int .i64 0,.int .i64 0,.int .i64 0]) 5 (.pointer (some ⟨kb,0,none⟩)) (av (Z05 Gl t f))=some (xH (newB h0 kb (ints (Z05 Gl t f))) xb x b2 b3 b4):=by
   rw [stN_all _ _ 5 _ _ hfl rfl,ZaJ hne]
  have r0:ld1 (xH (newB h0 kb (ints (Z05 Gl t f))) xb x b2 b3 b4) (.pointer (some ⟨xb,0,none⟩))=some (.bool x):=by rw [Zgw]; rfl
  have r1:ld1 (xH (newB h0 kb (ints (Z05 Gl t f))) xb x b2 b3 b4) (.pointer (some ⟨kb,0,none⟩))=some (.int .i64 (Z18 (Z05 Gl t f))):=by
   rw [Z02 (cs:=ints (Z05 Gl t f)) ⟨false,none,by show (xH _ _ _ _ _ _).f kb=_; rw [Z86,if_neg hne,Z01,if_pos rfl]⟩,ints_getD _ _ qO]; rfl
  have w1:=fun (y:Bool)=>(Zgv (h0:=newB h0 kb (ints (Z05 Gl t f))) (xb:=xb) (a:=x) (b:=b2) (c:=b3) (d:=b4) y).1
  have up:Z2k c (xH h0 xb x b2 b3 b4) (xH h0 xb (frS Gl t f x) b2 b3 b4):=Zgu lx
  have sB:Z0l c (xH h0 xb (frS Gl t f x) b2 b3 b4) (xH (newB h0 kb (ints (Z05 Gl t f))) xb (frS Gl t f x) b2 b3 b4):=fun j hj=>by
   rw [Z86,Z86,Z01,if_neg (show ¬ j=kb by omega)]
  have wS:=w1 (frS Gl t f x)
  obtain ⟨S,hS⟩:∃ S,xH h0 xb x b2 b3 b4=S:=⟨_,rfl⟩
  obtain ⟨S1,hS1⟩:∃ S,xH (newB h0 kb (ints (Z05 Gl t f))) xb x b2 b3 b4=S:=⟨_,rfl⟩
  obtain ⟨S2,hS2⟩:∃ S,xH h0 xb (frS Gl t f x) b2 b3 b4=S:=⟨_,rfl⟩
  obtain ⟨S3,hS3⟩:∃ S,xH (newB h0 kb (ints (Z05 Gl t f))) xb (frS Gl t f x) b2 b3 b4=S:=⟨_,rfl⟩
  rw [hS,hS1] at hst
  rw [hS1] at r0 r1
  rw [hS1,hS3] at wS
  rw [hS,hS2] at up
  rw [hS2,hS3] at sB
  rw [hS2] at hk
  rw [hS]
  obtain ⟨Z,hZ⟩:∃ Z,Z18 (Z05 Gl t f)=Z:=⟨_,rfl⟩
  have hfr:frS Gl t f x=(x || decide (Z<0)):=by rw [frS,hZ]
  rw [hZ] at r1
  rw [hfr] at wS
  obtain ⟨F,hF⟩:∃ F,Z05 Gl t f=F:=⟨_,rfl⟩
  rw [hF] at x1 hst
  refine Ans.lpG rfl rfl (Z4r ..) ?_
  unfold Z3S
  cases x with
  | true =>
   rw [Bool.true_or] at wS
   have fx:=ai x1 (ai hkb (ai hst (ai r0 (ai r1 wS))))
   refine Ans.go ?_
   clear fx
   (have fx:=ai l0 (ai l1 (ai lx (ai o0 (ai o1 (ai orow sB))))); refine Ans.nxB (B:=S2) ?_ ?_; exact (up); clear fx)
   exact hk
  | false =>
   by_cases hz:Z<0
   · rw [Bool.false_or,decide_eq_true hz] at wS
     have fx:=ai x1 (ai hkb (ai hst (ai r0 (ai r1 (ai hz wS)))))
     refine Ans.go ?_
     clear fx
     (have fx:=ai l0 (ai l1 (ai lx (ai o0 (ai o1 (ai orow sB))))); refine Ans.nxB (B:=S2) ?_ ?_; exact (up); clear fx)
     exact hk
   · rw [Bool.false_or,decide_eq_false hz] at wS
     have fx:=ai x1 (ai hkb (ai hst (ai r0 (ai r1 (ai hz wS)))))
     refine Ans.go ?_
     clear fx
     (have fx:=ai l0 (ai l1 (ai lx (ai o0 (ai o1 (ai orow sB))))); refine Ans.nxB (B:=S2) ?_ ?_; exact (up); clear fx)
     exact hk
theorem fo_tet (rb0 kb0 xb c cm:Nat) (s:Value) (n:Nat) (Gl:List Int) (h0:FH) (df:List Nat) (hs:SlI h0 cm s 20 n Gl) (hcm:cm<=c) (hx:256*cm<=xb) (hn:n<=60) (b2 b3 b4:Bool) (l0:rb0<256*c) (l1:kb0<256*c) (lx:xb<256*c) :
 ∀ (r t:Nat) (x:Bool),t+r=n->Ans (G (Z8W none) [ptrTo rb0,ptrTo kb0,ptrTo xb,s,.int .i64 n,.int .i64 t] (xH h0 xb x b2 b3 b4) c df) fun q=>q=⟨.exit 0,[ptrTo rb0,ptrTo kb0,ptrTo xb,s,.int .i64 n,.int .i64 n],xH h0 xb (frT Gl r t x) b2 b3 b4,c,df⟩:=by
 intro r
 have os:OkV c s:=(hs.mono hcm).okV
 induction r with
 | zero =>
  intro t x ht
  obtain rfl:t=n:=by omega
  refine Ans.lpG rfl rfl (Z4s ..) ?_
  unfold Z3T
  have fx:=True.intro
  refine Ans.go ?_
  clear fx
  (have fx:=ai l0 (ai l1 (ai lx os)); refine Ans.ex0 ?_; clear fx)
  rfl
 | succ r ih =>
  intro t x ht
  have htn:t<n:=by omega
  have tl:(t:Int)<n:=by omega
  have tn:(n:Int)<=60:=by omega
  have hG:Gl.length=n*20:=hs.1
  rw [frT]
  have hk:=ih (t+1) (frF Gl t 4 0 x) qO
  have sm:Z0l cm h0 (xH h0 xb x b2 b3 b4):=fun j hj=>by rw [Z86,if_neg qO]
  have hs':=hs.same sm
  have ix:=hs'.ixs .i64 t qO qO
  rw [Int.toNat_natCast] at ix
  have lr:ldN (xH h0 xb x b2 b3 b4) 20 (.pointer (some ⟨Z0s s,Z3z s+t*20,none⟩))=some (av (Z1R Gl t)):=by
   rw [hs'.rdN 20 _ qO qO,Z1R,Nat.mul_comm t 20]
  have hrl:=Z1c hG htn
  obtain ⟨kb,hkb⟩:∃ b,256*(c+1)+2=b:=⟨_,rfl⟩
  have hne:kb ≠ xb:=by omega
  obtain ⟨z20,hz20⟩:∃ z,[Value.int .i64 0,Value.int .i64 0,Value.int .i64 0,Value.int .i64 0,Value.int .i64 0,Value.int .i64 0,Value.int .i64 0,Value.int .i64 0,Value.int .i64 0,Value.int .i64 0,Value.int .i64 0,Value.int .i64 0,Value.int .i64 0,Value.int .i64 0,Value.int .i64 0,Value.int .i64 0,Value.int .i64 0,Value.int .i64 0,Value.int .i64 0,Value.int .i64 0]=z:=⟨_,rfl⟩
  have z20l:z20.length=20:=by rw [← hz20]; rfl
  have hst:stN (newB (xH h0 xb x b2 b3 b4) kb z20) 20 (.pointer (some ⟨kb,0,none⟩)) (av (Z1R Gl t))=some (xH (newB h0 kb (ints (Z1R Gl t))) xb x b2 b3 b4):=by
   rw [stN_all _ _ 20 _ _ hrl z20l,ZaJ hne]
  have l2:ldN (xH (newB h0 kb (ints (Z1R Gl t))) xb x b2 b3 b4) 20 (.pointer (some ⟨kb,0,none⟩))=some (av (Z1R Gl t)):=Z0O (by rw [Z86,if_neg hne,Z01,if_pos rfl]) (by rw [ints_length,hrl])
  have he:=Ans.eq (ZkA rb0 kb0 xb t (c+1+1+1) s (.int .i64 n) n Gl (newB h0 kb (ints (Z1R Gl t))) df hG htn hn b2 b3 b4 (os.mono qO) (OkV.int _ _ _) qO qO qO 4 0 x qO)
  simp only [Int.ofNat_eq_natCast,Int.cast_ofNat_Int] at he
  have up:Z2k c (xH h0 xb x b2 b3 b4) (xH h0 xb (frF Gl t 4 0 x) b2 b3 b4):=Zgu lx
  have sB:Z0l c (xH h0 xb (frF Gl t 4 0 x) b2 b3 b4) (xH (newB h0 kb (ints (Z1R Gl t))) xb (frF Gl t 4 0 x) b2 b3 b4):=fun j hj=>by
   rw [Z86,Z86,Z01,if_neg (show ¬ j=kb by omega)]
  obtain ⟨S,hS⟩:∃ S,xH h0 xb x b2 b3 b4=S:=⟨_,rfl⟩
  obtain ⟨S1,hS1⟩:∃ S,xH (newB h0 kb (ints (Z1R Gl t))) xb x b2 b3 b4=S:=⟨_,rfl⟩
  obtain ⟨S2,hS2⟩:∃ S,xH h0 xb (frF Gl t 4 0 x) b2 b3 b4=S:=⟨_,rfl⟩
  obtain ⟨S3,hS3⟩:∃ S,xH (newB h0 kb (ints (Z1R Gl t))) xb (frF Gl t 4 0 x) b2 b3 b4=S:=⟨_,rfl⟩
  rw [hS,hS1] at hst
  rw [hS1] at l2
  rw [hS1,hS3] at he
  rw [hS,hS2] at up
  rw [hS2,hS3] at sB
  rw [hS2] at hk
  rw [hS] at lr ⊢
  obtain ⟨F,hF⟩:∃ F,Z1R Gl t=F:=⟨_,rfl⟩
  rw [hF] at lr hst l2 he
  refine Ans.lpG rfl rfl (Z4s ..) ?_
  unfold Z3T
  rw [hz20]
  have fx:=ai ix (ai lr (ai hkb (ai hst (ai l2 he))))
  refine Ans.go ?_
  clear fx
  (have fx:=ai l0 (ai l1 (ai lx (ai os sB))); refine Ans.nxB (B:=S2) ?_ ?_; exact (up); clear fx)
  exact hk
theorem fo_rev (rb0 kb0 xb rb m c:Nat) (R:List Bool) (h0:FH) (df:List Nat) (fr:h0.f rb=some (.cells false none (bools R))) (hR:R.length=m) (hm:m<=360) (hne:rb ≠ xb) (b1 b3 b4:Bool) (l0:rb0<256*c) (l1:kb0<256*c) (lx:xb<256*c) (lr:rb<256*c) :
 ∀ (r k:Nat) (x:Bool),k+r=m->Ans (G (Z8U none) [ptrTo rb0,ptrTo kb0,ptrTo xb,.slice (some ⟨rb,0,none⟩) m m,.int .i64 m,.int .i64 k] (xH h0 xb b1 x b3 b4) c df) fun q=>q=⟨.exit 4,[ptrTo rb0,ptrTo kb0,ptrTo xb,.slice (some ⟨rb,0,none⟩) m m,.int .i64 m,.int .i64 m],xH h0 xb b1 (rvF R r k x) b3 b4,c,df⟩:=by
 intro r
 induction r with
 | zero =>
  intro k x hk
  obtain rfl:k=m:=by omega
  refine Ans.lpG rfl rfl (Z4q ..) ?_
  unfold Z3R
  have fx:=True.intro
  refine Ans.go ?_
  clear fx
  (have fx:=ai l0 (ai l1 (ai lx lr)); refine Ans.ex0 ?_; clear fx)
  rfl
 | succ r ih =>
  intro k x hk
  have kl:(k:Int)<m:=by omega
  have tn:(m:Int)<=360:=by omega
  rw [rvF]
  have hk':=ih (k+1) (x || R.getD k false) qO
  have ix:ixS 1 (.slice (some ⟨rb,0,none⟩) m m) (.int .i64 (k:Int))=some (.pointer (some ⟨rb,k,none⟩)):=by
   have:=Z6g rb m .i64 (k:Int) qO qO
   rwa [Int.toNat_natCast] at this
  have r0:ld1 (xH h0 xb b1 x b3 b4) (.pointer (some ⟨rb,k,none⟩))=some (.bool (R.getD k false)):=by
   rw [Z02 (cs:=bools R) ⟨false,none,by show (xH _ _ _ _ _ _).f rb=_; rw [Z86,if_neg hne]; exact fr⟩,Zgf _ _ qO]
  have r1:ld1 (xH h0 xb b1 x b3 b4) (.pointer (some ⟨xb,1,none⟩))=some (.bool x):=by rw [Zgw]; rfl
  have w1:=(Zgv (h0:=h0) (xb:=xb) (a:=b1) (b:=x) (c:=b3) (d:=b4) (x || R.getD k false)).2.1
  have up:Z2k c (xH h0 xb b1 x b3 b4) (xH h0 xb b1 (x || R.getD k false) b3 b4):=Zgu lx
  obtain ⟨y,hy⟩:∃ y,R.getD k false=y:=⟨_,rfl⟩
  rw [hy] at hk' r0 w1 up ⊢
  obtain ⟨S,hS⟩:∃ S,xH h0 xb b1 x b3 b4=S:=⟨_,rfl⟩
  obtain ⟨S2,hS2⟩:∃ S,xH h0 xb b1 (x || y) b3 b4=S:=⟨_,rfl⟩
  rw [hS] at r0 r1
  rw [hS,hS2] at w1 up
  rw [hS2] at hk'
  rw [hS]
  refine Ans.lpG rfl rfl (Z4q ..) ?_
  unfold Z3R
  cases x with
  | true =>
   rw [Bool.true_or] at w1
   have fx:=ai ix (ai r0 (ai r1 w1))
   refine Ans.go ?_
   clear fx
   (have fx:=ai l0 (ai l1 (ai lx lr)); refine Ans.nxB (B:=S2) ?_ ?_; exact (up); clear fx)
   exact hk'
  | false =>
   rw [Bool.false_or] at w1
   have fx:=ai ix (ai r0 (ai r1 w1))
   refine Ans.go ?_
   clear fx
   (have fx:=ai l0 (ai l1 (ai lx lr)); refine Ans.nxB (B:=S2) ?_ ?_; exact (up); clear fx)
   exact hk'

theorem Zbb (n:Nat) (Gl V D:List Int):∀ k,(lkL n Gl V D k).length=k*6
 | 0=>rfl
 | k+1=>by rw [lkL,List.length_append,Zbb n Gl V D k,Z5t]; omega
theorem Zjw (n:Nat) (Gl V D:List Int) {k:Nat}:∀ {m:Nat},k<m->((lkL n Gl V D m).drop (k*6)).take 6=lkD n Gl V D k
 | 0,h=>by omega
 | m+1,h=>by
  have hl:=Zbb n Gl V D m
  rw [lkL]
  by_cases e:k=m
  · subst e
    rw [List.drop_append,List.drop_of_length_le qO,List.nil_append,hl,Nat.sub_self,List.drop_zero,List.take_of_length_le (by rw [Z5t]; omega)]
  · rw [List.drop_append_of_le_length qO,List.take_append_of_le_length (by rw [List.length_drop]; omega)]
    exact Zjw n Gl V D qO
set_option maxHeartbeats 4000000 in
theorem fo_lks (rb0 xb c0 c cnt n:Nat) (lv:Value) (Gl V D:List Int) (h0:FH) (df:List Nat) (g:GrC c0 h0 c lv 6 cnt (lkL n Gl V D cnt)) (hcnt:cnt<=240) (hx:lv ≠ .slice none 0 0->Z0s lv ≠ xb) (b1 b2:Bool) (l0:rb0<256*c) (lx:xb<256*c) :
 ∀ (r k:Nat) (x:Bool × Bool),k+r=cnt->Ans (G (Z6q none) [ptrTo rb0,ptrTo xb,lv,.int .i64 cnt,.int .i64 k] (xH h0 xb b1 b2 x.1 x.2) c df) fun q=>q=⟨.exit 6,[ptrTo rb0,ptrTo xb,lv,.int .i64 cnt,.int .i64 cnt],xH h0 xb b1 b2 (lkF n Gl V D r k x).1 (lkF n Gl V D r k x).2,c,df⟩:=by
 intro r
 have ol:OkV c lv:=by
  rcases g with ⟨rfl,_,_⟩ | ⟨_,_,_,_,i,rfl,_,h,_⟩
  · exact OkV.sl0 _ _ _
  · exact OkV.sl h
 induction r with
 | zero =>
  intro k x hk
  obtain rfl:k=cnt:=by omega
  refine Ans.lpG rfl rfl (Z4p ..) ?_
  unfold Z3Q
  have fx:=True.intro
  refine Ans.go ?_
  clear fx
  (have fx:=ai l0 (ai lx ol); refine Ans.ex0 ?_; clear fx)
  rfl
 | succ r ih =>
  intro k x hk
  obtain ⟨x1,x2⟩:=x
  have kl:(k:Int)<cnt:=by omega
  have tn:(cnt:Int)<=240:=by omega
  have hk':∀ y1 y2,y1=(x1 && spB (lkE n Gl V D k) (lkC n Gl V D k))->y2=(x2 && dkB (lkE n Gl V D k) (lkC n Gl V D k))->Ans (G (Z6q none) [ptrTo rb0,ptrTo xb,lv,.int .i64 cnt,.int .i64 (k+1:Nat)] (xH h0 xb b1 b2 y1 y2) c df) fun q=>q=⟨.exit 6,[ptrTo rb0,ptrTo xb,lv,.int .i64 cnt,.int .i64 cnt],xH h0 xb b1 b2 (lkF n Gl V D (r+1) k (x1,x2)).1 (lkF n Gl V D (r+1) k (x1,x2)).2,c,df⟩:=fun y1 y2 e1 e2=>by
   subst e1 e2
   exact ih (k+1) (_,_) qO
  obtain ⟨i,rfl,h3,h4,h5⟩:∃ i,lv = .slice (some ⟨i,0,none⟩) cnt cnt/\256*c0<=i/\i<256*c/\h0.f i=some (.cells false (some 6) (lkL n Gl V D cnt)):=by
   rcases g with ⟨_,e,_⟩ | ⟨_,_,_,_,q⟩
   · omega
   · exact q
  have hix:i ≠ xb:=by have:=hx (by intro e; cases e); rwa [blkOf_sl] at this
  have ix:ixS 6 (.slice (some ⟨i,0,none⟩) cnt cnt) (.int .i64 (k:Int))=some (.pointer (some ⟨i,k*6,none⟩)):=by
   rw [ixS_sl 6 i 0 cnt cnt .i64 (k:Int) qO qO,Nat.zero_add,Int.toNat_natCast]
  have ll:=Zbb n Gl V D cnt
  have r0:ldN (xH h0 xb b1 b2 x1 x2) 6 (.pointer (some ⟨i,k*6,none⟩))=some (.agg (lkD n Gl V D k).toArray):=by
   rw [ldN_holds (cs:=lkL n Gl V D cnt) ⟨false,some 6,by show (xH _ _ _ _ _ _).f i=_; rw [Z86,if_neg hix]; exact h5⟩ qO,Zjw n Gl V D qO]
  obtain ⟨kb,hkb⟩:∃ b,256*(c+1)+2=b:=⟨_,rfl⟩
  have hne:kb ≠ xb:=by omega
  have st:stN (newB (xH h0 xb b1 b2 x1 x2) kb [.int .i64 0,.int .i64 0,.int .i64 0,.int .i64 0,.bool false,.bool false]) 6 (.pointer (some ⟨kb,0,none⟩)) (.agg (lkD n Gl V D k).toArray)=some (xH (newB h0 kb (lkD n Gl V D k)) xb b1 b2 x1 x2):=by
   rw [Z0i _ 6 _ 0 _ _ (by simp [Value.cells,Z5t]) (by simp) (by simp only [Value.cells]; exact Zca _ _ _ _ _),← ZaJ hne]
   simp only [Value.cells,Z0M,List.take_zero,List.nil_append,Nat.zero_add,Z5t]
   simp [Z5t]
  have gk:∀ y1 y2,Z0d (xH (newB h0 kb (lkD n Gl V D k)) xb b1 b2 y1 y2) kb (lkD n Gl V D k):=fun y1 y2=>⟨false,none,by show (xH _ _ _ _ _ _).f kb=_; rw [Z86,if_neg hne,Z01,if_pos rfl]⟩
  have r3:∀ y1 y2,ld1 (xH (newB h0 kb (lkD n Gl V D k)) xb b1 b2 y1 y2) (.pointer (some ⟨kb,3,none⟩))=some (.int .i64 (lkE n Gl V D k)):=fun y1 y2=>by rw [Z02 (gk y1 y2)]; rfl
  have r4:∀ y1 y2,ld1 (xH (newB h0 kb (lkD n Gl V D k)) xb b1 b2 y1 y2) (.pointer (some ⟨kb,4,none⟩))=some (.bool (lkC n Gl V D k)):=fun y1 y2=>by rw [Z02 (gk y1 y2)]; rfl
  have p2:∀ y1 y2,ld1 (xH (newB h0 kb (lkD n Gl V D k)) xb b1 b2 y1 y2) (.pointer (some ⟨xb,2,none⟩))=some (.bool y1):=fun y1 y2=>by rw [Zgw]; rfl
  have p3:∀ y1 y2,ld1 (xH (newB h0 kb (lkD n Gl V D k)) xb b1 b2 y1 y2) (.pointer (some ⟨xb,3,none⟩))=some (.bool y2):=fun y1 y2=>by rw [Zgw]; rfl
  have w2:∀ y1 y2 z,stN (xH (newB h0 kb (lkD n Gl V D k)) xb b1 b2 y1 y2) 1 (.pointer (some ⟨xb,2,none⟩)) (.bool z)=some (xH (newB h0 kb (lkD n Gl V D k)) xb b1 b2 z y2):=fun y1 y2 z=>(Zgv z).2.2.1
  have w3:∀ y1 y2 z,stN (xH (newB h0 kb (lkD n Gl V D k)) xb b1 b2 y1 y2) 1 (.pointer (some ⟨xb,3,none⟩)) (.bool z)=some (xH (newB h0 kb (lkD n Gl V D k)) xb b1 b2 y1 z):=fun y1 y2 z=>(Zgv z).2.2.2
  have up:∀ y1 y2,Z2k c (xH h0 xb b1 b2 x1 x2) (xH h0 xb b1 b2 y1 y2):=fun y1 y2=>Zgu lx
  have sB:∀ y1 y2,Z0l c (xH h0 xb b1 b2 y1 y2) (xH (newB h0 kb (lkD n Gl V D k)) xb b1 b2 y1 y2):=fun y1 y2 j hj=>by
   rw [Z86,Z86,Z01,if_neg (show ¬ j=kb by omega)]
  obtain ⟨h1,hh1⟩:∃ h1,newB h0 kb (lkD n Gl V D k)=h1:=⟨_,rfl⟩
  rw [hh1] at st r3 r4 p2 p3 w2 w3 sB
  obtain ⟨A,hA⟩:∃ A,Value.agg (lkD n Gl V D k).toArray=A:=⟨_,rfl⟩
  rw [hA] at r0 st
  obtain ⟨E,hE⟩:∃ E,lkE n Gl V D k=E:=⟨_,rfl⟩
  rw [hE] at r3 hk'
  refine Ans.lpG rfl rfl (Z4p ..) ?_
  unfold Z3Q
  obtain ⟨C,hC⟩:∃ C,lkC n Gl V D k=C:=⟨_,rfl⟩
  rw [hC] at r4 hk'
  cases C with
  | true =>
   by_cases hv:E=2
   · subst hv
     cases x1 with
     | true =>
      cases x2 with
      | true =>
       have sb':=sB true true
       have up':=up true true
       have fx:=ai ix (ai r0 (ai hkb (ai st (ai r3 (ai r4 (ai p2 (ai p3 (ai w2 w3))))))))
       refine Ans.go ?_
       clear fx
       (have fx:=ai l0 (ai lx (ai ol sb')); refine Ans.nxB (B:=xH h0 xb b1 b2 true true) ?_ ?_; exact (up'); clear fx)
       exact hk' true true (by simp [spB,dkB]) (by simp [spB,dkB])
      | false =>
       have sb':=sB true false
       have up':=up true false
       have fx:=ai ix (ai r0 (ai hkb (ai st (ai r3 (ai r4 (ai p2 (ai p3 (ai w2 w3))))))))
       refine Ans.go ?_
       clear fx
       (have fx:=ai l0 (ai lx (ai ol sb')); refine Ans.nxB (B:=xH h0 xb b1 b2 true false) ?_ ?_; exact (up'); clear fx)
       exact hk' true false (by simp [spB,dkB]) (by simp [spB,dkB])
     | false =>
      cases x2 with
      | true =>
       have sb':=sB false true
       have up':=up false true
       have fx:=ai ix (ai r0 (ai hkb (ai st (ai r3 (ai r4 (ai p2 (ai p3 (ai w2 w3))))))))
       refine Ans.go ?_
       clear fx
       (have fx:=ai l0 (ai lx (ai ol sb')); refine Ans.nxB (B:=xH h0 xb b1 b2 false true) ?_ ?_; exact (up'); clear fx)
       exact hk' false true (by simp [spB,dkB]) (by simp [spB,dkB])
      | false =>
       have sb':=sB false false
       have up':=up false false
       have fx:=ai ix (ai r0 (ai hkb (ai st (ai r3 (ai r4 (ai p2 (ai p3 (ai w2 w3))))))))
       refine Ans.go ?_
       clear fx
       (have fx:=ai l0 (ai lx (ai ol sb')); refine Ans.nxB (B:=xH h0 xb b1 b2 false false) ?_ ?_; exact (up'); clear fx)
       exact hk' false false (by simp [spB,dkB]) (by simp [spB,dkB])
   · cases x1 with
     | true =>
      cases x2 with
      | true =>
       have sb':=sB false false
       have up':=up false false
       have fx:=ai ix (ai r0 (ai hkb (ai st (ai r3 (ai r4 (ai p2 (ai p3 (ai w2 (ai w3 hv)))))))))
       refine Ans.go ?_
       clear fx
       (have fx:=ai l0 (ai lx (ai ol sb')); refine Ans.nxB (B:=xH h0 xb b1 b2 false false) ?_ ?_; exact (up'); clear fx)
       exact hk' false false (by simp [spB,dkB,hv]) (by simp [spB,dkB,hv])
      | false =>
       have sb':=sB false false
       have up':=up false false
       have fx:=ai ix (ai r0 (ai hkb (ai st (ai r3 (ai r4 (ai p2 (ai p3 (ai w2 (ai w3 hv)))))))))
       refine Ans.go ?_
       clear fx
       (have fx:=ai l0 (ai lx (ai ol sb')); refine Ans.nxB (B:=xH h0 xb b1 b2 false false) ?_ ?_; exact (up'); clear fx)
       exact hk' false false (by simp [spB,dkB,hv]) (by simp [spB,dkB,hv])
     | false =>
      cases x2 with
      | true =>
       have sb':=sB false false
       have up':=up false false
       have fx:=ai ix (ai r0 (ai hkb (ai st (ai r3 (ai r4 (ai p2 (ai p3 (ai w2 (ai w3 hv)))))))))
       refine Ans.go ?_
       clear fx
       (have fx:=ai l0 (ai lx (ai ol sb')); refine Ans.nxB (B:=xH h0 xb b1 b2 false false) ?_ ?_; exact (up'); clear fx)
       exact hk' false false (by simp [spB,dkB,hv]) (by simp [spB,dkB,hv])
      | false =>
       have sb':=sB false false
       have up':=up false false
       have fx:=ai ix (ai r0 (ai hkb (ai st (ai r3 (ai r4 (ai p2 (ai p3 (ai w2 (ai w3 hv)))))))))
       refine Ans.go ?_
       clear fx
       (have fx:=ai l0 (ai lx (ai ol sb')); refine Ans.nxB (B:=xH h0 xb b1 b2 false false) ?_ ?_; exact (up'); clear fx)
       exact hk' false false (by simp [spB,dkB,hv]) (by simp [spB,dkB,hv])
  | false =>
   by_cases hv:E=1
   · subst hv
     cases x1 with
     | true =>
      cases x2 with
      | true =>
       have sb':=sB false true
       have up':=up false true
       have fx:=ai ix (ai r0 (ai hkb (ai st (ai r3 (ai r4 (ai p2 (ai p3 (ai w2 w3))))))))
       refine Ans.go ?_
       clear fx
       (have fx:=ai l0 (ai lx (ai ol sb')); refine Ans.nxB (B:=xH h0 xb b1 b2 false true) ?_ ?_; exact (up'); clear fx)
       exact hk' false true (by simp [spB,dkB]) (by simp [spB,dkB])
      | false =>
       have sb':=sB false false
       have up':=up false false
       have fx:=ai ix (ai r0 (ai hkb (ai st (ai r3 (ai r4 (ai p2 (ai p3 (ai w2 w3))))))))
       refine Ans.go ?_
       clear fx
       (have fx:=ai l0 (ai lx (ai ol sb')); refine Ans.nxB (B:=xH h0 xb b1 b2 false false) ?_ ?_; exact (up'); clear fx)
       exact hk' false false (by simp [spB,dkB]) (by simp [spB,dkB])
     | false =>
      cases x2 with
      | true =>
       have sb':=sB false true
       have up':=up false true
       have fx:=ai ix (ai r0 (ai hkb (ai st (ai r3 (ai r4 (ai p2 (ai p3 (ai w2 w3))))))))
       refine Ans.go ?_
       clear fx
       (have fx:=ai l0 (ai lx (ai ol sb')); refine Ans.nxB (B:=xH h0 xb b1 b2 false true) ?_ ?_; exact (up'); clear fx)
       exact hk' false true (by simp [spB,dkB]) (by simp [spB,dkB])
      | false =>
       have sb':=sB false false
       have up':=up false false
       have fx:=ai ix (ai r0 (ai hkb (ai st (ai r3 (ai r4 (ai p2 (ai p3 (ai w2 w3))))))))
       refine Ans.go ?_
       clear fx
       (have fx:=ai l0 (ai lx (ai ol sb')); refine Ans.nxB (B:=xH h0 xb b1 b2 false false) ?_ ?_; exact (up'); clear fx)
       exact hk' false false (by simp [spB,dkB]) (by simp [spB,dkB])
   · cases x1 with
     | true =>
      cases x2 with
      | true =>
       have sb':=sB false false
       have up':=up false false
       have fx:=ai ix (ai r0 (ai hkb (ai st (ai r3 (ai r4 (ai p2 (ai p3 (ai w2 (ai w3 hv)))))))))
       refine Ans.go ?_
       clear fx
       (have fx:=ai l0 (ai lx (ai ol sb')); refine Ans.nxB (B:=xH h0 xb b1 b2 false false) ?_ ?_; exact (up'); clear fx)
       exact hk' false false (by simp [spB,dkB,hv]) (by simp [spB,dkB,hv])
      | false =>
       have sb':=sB false false
       have up':=up false false
       have fx:=ai ix (ai r0 (ai hkb (ai st (ai r3 (ai r4 (ai p2 (ai p3 (ai w2 (ai w3 hv)))))))))
       refine Ans.go ?_
       clear fx
       (have fx:=ai l0 (ai lx (ai ol sb')); refine Ans.nxB (B:=xH h0 xb b1 b2 false false) ?_ ?_; exact (up'); clear fx)
       exact hk' false false (by simp [spB,dkB,hv]) (by simp [spB,dkB,hv])
     | false =>
      cases x2 with
      | true =>
       have sb':=sB false false
       have up':=up false false
       have fx:=ai ix (ai r0 (ai hkb (ai st (ai r3 (ai r4 (ai p2 (ai p3 (ai w2 (ai w3 hv)))))))))
       refine Ans.go ?_
       clear fx
       (have fx:=ai l0 (ai lx (ai ol sb')); refine Ans.nxB (B:=xH h0 xb b1 b2 false false) ?_ ?_; exact (up'); clear fx)
       exact hk' false false (by simp [spB,dkB,hv]) (by simp [spB,dkB,hv])
      | false =>
       have sb':=sB false false
       have up':=up false false
       have fx:=ai ix (ai r0 (ai hkb (ai st (ai r3 (ai r4 (ai p2 (ai p3 (ai w2 (ai w3 hv)))))))))
       refine Ans.go ?_
       clear fx
       (have fx:=ai l0 (ai lx (ai ol sb')); refine Ans.nxB (B:=xH h0 xb b1 b2 false false) ?_ ?_; exact (up'); clear fx)
       exact hk' false false (by simp [spB,dkB,hv]) (by simp [spB,dkB,hv])
def xFr (Gl:List Int) (n:Nat):Bool:=frT Gl n 0 false
def xRv (Gl:List Int) (n:Nat):Bool:=rvF (skZ Gl n).2 (nE Gl n) 0 false
def xLk (Gl:List Int) (n:Nat):Bool × Bool:=lkF n Gl (vN Gl n) (dN Gl n) (nV Gl n) 0 (true,true)
theorem Z1i.bools4 (c:Nat) (a b d e:Bool):OkV c (.agg (bools [a,b,d,e]).toArray):=OkV.agg (Z1i.bools _ _)
set_option maxHeartbeats 2000000 in
theorem ZiB (s:Value) (n:Nat) (Gl:List Int) (h:FH) (c:Nat) (df:List Nat) (hs:SlI h c s 20 n Gl) (hok:Z0F Gl n=true) (hn:n<=60) :
 G (.fn 42) [.agg #[s]] h c df=some ⟨.ret,[.agg (bools [xFr Gl n,xRv Gl n,(xLk Gl n).1,(xLk Gl n).2]).toArray],h,c,[]⟩:=by
 refine Z0K (fun r e=>f42_go e) (Z1i.bools4 _ _ _ _ _) ?_
 have Z2b:((Value.agg #[s]).cells.toList.all Z06)=true:=by simp [Value.cells,hs.flat]
 have Z2e:(Value.agg #[s]).cells.toList=[s]:=rfl
 unfold ZfY
 rw [Z2b,Z2e]
 simp only [cond_true,Nat.add_zero]
 obtain ⟨g0,hg0⟩:∃ b,256*c=b:=⟨_,rfl⟩
 obtain ⟨p0,hp0⟩:∃ b,256*c+1=b:=⟨_,rfl⟩
 obtain ⟨kb,hkb⟩:∃ b,256*(c+1)+2=b:=⟨_,rfl⟩
 have z4e:[Value.bool false,Value.bool false,Value.bool false,Value.bool false]=bools [false,false,false,false]:=rfl
 obtain ⟨M,hM⟩:∃ M,newB (newB h g0 [s]) p0 (bools [false,false,false,false])=M:=⟨_,rfl⟩
 rw [hp0,hg0,show [Value.slice none 0 0,Value.slice none 0 0,Value.slice none 0 0,Value.slice none 0 0,Value.slice none 0 0,Value.slice none 0 0]=Z87 from rfl,z4e,hM]
 have Mf:∀ j,M.f j=if j=p0 then some (.cells false none (bools [false,false,false,false])) else if j=g0 then some (.cells false none [s]) else h.f j:=fun j=>by rw [← hM,Z01,Z01]
 have sM:Z0l c h M:=fun j hj=>by rw [Mf,if_neg qO,if_neg qO]
 have l0:ldN M 1 (.pointer (some ⟨g0,0,none⟩))=some (.agg #[s]):=Z0y (cs:=[]) ⟨false,none,by show M.f g0=_; rw [Mf,if_neg qO,if_pos rfl]⟩
 obtain ⟨r0,hr0,vv,ev,tv,gb,rb,lv,e0,k0,s0,sk⟩:=Z7p s n Gl M (c+1+1) [] ((hs.same sM).mono qO) hok hn
 obtain ⟨K,hK⟩:∃ K,r0.h=K:=⟨_,rfl⟩
 obtain ⟨k,hk⟩:∃ c,r0.c=c:=⟨_,rfl⟩
 rw [hK,hk] at e0 sk
 rw [hk] at k0
 rw [hK] at s0
 rw [e0] at hr0
 have c39:=Z07 hr0
 obtain ⟨m,hm⟩:∃ m,nE Gl n=m:=⟨_,rfl⟩
 have hmE:nE Gl n<=6*n:=Z4d _ _
 have hmV:nV Gl n<=4*n:=Z4d _ _
 rw [hm] at c39 hmE
 obtain ⟨R,hR⟩:∃ R,[vv,ev,tv,.slice (some ⟨gb,0,none⟩) m m,.slice (some ⟨rb,0,none⟩) m m,lv]=R:=⟨_,rfl⟩
 have hR':Value.agg #[vv,ev,tv,.slice (some ⟨gb,0,none⟩) m m,.slice (some ⟨rb,0,none⟩) m m,lv] = .agg R.toArray:=by rw [← hR]
 have R6:R.length=6:=by rw [← hR]; rfl
 have Rf:R.all Z06=true:=by
  rw [← hR]
  simp only [List.all_cons,List.all_nil,sk.gv.flat.1,sk.ge.flat.1,sk.gt.flat.1,sk.gl.flat.1,Bool.and_true,Bool.true_and]
  rfl
 rw [hR'] at c39
 have st2:stN (newB K kb Z87) 6 (.pointer (some ⟨kb,0,none⟩)) (.agg R.toArray)=some (newB K kb R):=by
  rw [Z0i K 6 kb 0 Z87 (.agg R.toArray) (by simp [Value.cells,R6]) (by simp [ZgZ]) (by simpa [Value.cells] using Rf)]
  simp [Z0M,Value.cells,R6,Z87]
 obtain ⟨K2,hK2⟩:∃ K2,newB K kb R=K2:=⟨_,rfl⟩
 have K2f:∀ j,K2.f j=if j=kb then some (.cells false none R) else K.f j:=fun j=>by rw [← hK2,Z01]
 rw [hK2] at st2
 obtain ⟨xb,hxb⟩:∃ b,256*k+1=b:=⟨_,rfl⟩
 have bv:Z1d (bools [false,false,false,false]) [(2,1,.bool true),(3,1,.bool true)]=some (.agg (bools [false,false,true,true]).toArray):=rfl
 have st4:stN (newB K2 xb (bools [false,false,false,false])) 4 (.pointer (some ⟨xb,0,none⟩)) (.agg (bools [false,false,true,true]).toArray)=some (xH K2 xb false false true true):=by
  rw [Z0i K2 4 xb 0 _ _ rfl (by simp [bools]) rfl]; rfl
 have ls8:∀ a b d e,ld1 (xH K2 xb a b d e) (.pointer (some ⟨g0,0,none⟩))=some s:=fun a b d e=>by
  rw [Z02 (cs:=[s]) ⟨false,none,by show (xH K2 xb a b d e).f g0=_; rw [Z86,if_neg qO,K2f,if_neg qO,s0 _ qO,Mf,if_neg qO,if_pos rfl]⟩]; rfl
 have gkb:∀ a b d e,Z0d (xH K2 xb a b d e) kb R:=fun a b d e=>⟨false,none,by show (xH K2 xb a b d e).f kb=_; rw [Z86,if_neg qO,K2f,if_pos rfl]⟩
 have l4:∀ a b d e,ld1 (xH K2 xb a b d e) (.pointer (some ⟨kb,4,none⟩))=some (.slice (some ⟨rb,0,none⟩) m m):=fun a b d e=>by rw [Z02 (gkb a b d e),← hR]; rfl
 have l5:∀ a b d e,ld1 (xH K2 xb a b d e) (.pointer (some ⟨kb,5,none⟩))=some lv:=fun a b d e=>by rw [Z02 (gkb a b d e),← hR]; rfl
 have len:=hs.len
 have lle:Z4c lv=some (.int .i64 (nV Gl n)):=sk.gl.len
 have sK2:Z0l c h K2:=fun j hj=>by rw [K2f,if_neg qO,s0 j qO]; exact sM j hj
 have b1:=sk.b1
 have b2:=sk.b2
 have hrR:(skZ Gl n).2.length=m:=by
  have h0:SB m (List.replicate m 0,List.replicate m false) (6*0):=⟨by simp,by simp,fun x=>by
   have:(List.replicate m (0:Int)).getD x 0=0:=by rw [List.getD_eq_getElem?_getD,List.getElem?_replicate]; split <;> rfl
   rw [this]; omega⟩
  have:=(SB.ts (eN Gl n) (dN Gl n) n 0 h0).l2
  rw [skZ,hm]; exact this
 have a1:=Ans.eq (fo_tet p0 kb xb (k+1+1) c s n Gl K2 [] (hs.same sK2) qO qO hn false true true qO qO qO n 0 false qO)
 have a2:=Ans.eq (fo_rev p0 kb xb rb m (k+1+1+1) (skZ Gl n).2 K2 [] (by rw [K2f,if_neg qO]; exact sk.fr) hrR qO qO (xFr Gl n) true true qO qO qO qO m 0 false qO)
 have hlv:lv ≠ .slice none 0 0->Z0s lv ≠ xb:=fun hv=>by have:=sk.gl.blk hv; omega
 have a3:=Ans.eq (fo_lks p0 xb (c+1+1) (k+1+1+1+1) (nV Gl n) n lv Gl (vN Gl n) (dN Gl n) K2 [] ((sk.gl.keep fun hv=>by rw [K2f,if_neg (by have:=sk.gl.blk hv; omega)]).mono qO) qO hlv (xFr Gl n) (xRv Gl n) qO qO (nV Gl n) 0 (true,true) qO)
 rw [show frT Gl n 0 false=xFr Gl n from rfl] at a1
 rw [show rvF (skZ Gl n).2 m 0 false=xRv Gl n by rw [xRv,hm]] at a2
 rw [show lkF n Gl (vN Gl n) (dN Gl n) (nV Gl n) 0 (true,true)=xLk Gl n from rfl] at a3
 simp only [Int.ofNat_eq_natCast,Int.cast_ofNat_Int] at a1 a2 a3
 obtain ⟨X1,hX1⟩:∃ X,xFr Gl n=X:=⟨_,rfl⟩
 obtain ⟨X2,hX2⟩:∃ X,xRv Gl n=X:=⟨_,rfl⟩
 obtain ⟨X3,hX3⟩:∃ X,(xLk Gl n).1=X:=⟨_,rfl⟩
 obtain ⟨X4,hX4⟩:∃ X,(xLk Gl n).2=X:=⟨_,rfl⟩
 rw [hX1] at a1 a2 a3 ⊢
 rw [hX2] at a2 a3 ⊢
 rw [hX3,hX4] at a3 ⊢
 obtain ⟨N,hN⟩:∃ N,nV Gl n=N:=⟨_,rfl⟩
 rw [hN] at lle a3
 have ne:xb ≠ p0:=by omega
 have lx:ldN (xH K2 xb X1 X2 X3 X4) 4 (.pointer (some ⟨xb,0,none⟩))=some (.agg (bools [X1,X2,X3,X4]).toArray):=Z0O (by rw [Z86,if_pos rfl]) rfl
 have fp:(xH K2 xb X1 X2 X3 X4).f p0=some (.cells false none (bools [false,false,false,false])):=by rw [Z86,if_neg (Ne.symm ne),K2f,if_neg qO,s0 _ qO,Mf,if_pos rfl]
 have wx:stN (xH K2 xb X1 X2 X3 X4) 4 (.pointer (some ⟨p0,0,none⟩)) (.agg (bools [X1,X2,X3,X4]).toArray)=some (newB (xH K2 xb X1 X2 X3 X4) p0 (bools [X1,X2,X3,X4])):=Z7o fp rfl rfl rfl
 have ly:ldN (newB (xH K2 xb X1 X2 X3 X4) p0 (bools [X1,X2,X3,X4])) 4 (.pointer (some ⟨p0,0,none⟩))=some (.agg (bools [X1,X2,X3,X4]).toArray):=Z0O (by rw [Z01,if_pos rfl]) rfl
 have sE:Z0l c h (newB (xH K2 xb X1 X2 X3 X4) p0 (bools [X1,X2,X3,X4])):=fun j hj=>by rw [Z01,if_neg qO,Z86,if_neg qO]; exact sK2 j hj
 obtain ⟨HE,hHE⟩:∃ H,newB (xH K2 xb X1 X2 X3 X4) p0 (bools [X1,X2,X3,X4])=H:=⟨_,rfl⟩
 rw [hHE] at wx ly sE
 obtain ⟨V4,hV4⟩:∃ V,Value.agg (bools [X1,X2,X3,X4]).toArray=V:=⟨_,rfl⟩
 rw [hV4] at lx wx ly ⊢
 obtain ⟨V0,hV0⟩:∃ V,Value.agg (bools [false,false,true,true]).toArray=V:=⟨_,rfl⟩
 rw [hV0] at bv st4
 obtain ⟨Z0,hZ0⟩:∃ V,bools [false,false,false,false]=V:=⟨_,rfl⟩
 rw [hZ0] at bv st4 ⊢
 obtain ⟨N6,hN6⟩:∃ N,Z87=N:=⟨_,rfl⟩
 rw [hN6] at st2 ⊢
 have fx:=ai l0 (ai c39 (ai hkb (ai st2 (ai hxb (ai bv (ai st4 (ai ls8 (ai len (ai a1 (ai l4 (ai a2 (ai l5 (ai lle (ai a3 (ai lx (ai wx ly))))))))))))))))
 refine Ans.go ?_
 clear fx
 exact Ans.pure rfl sE
end Go.Proofs.Ytdodippbpdechaa
