/- Parts of a proof: K5 K6 AbLB K7 K8 K9 K10 K11 K12 K13 K14 K15 AbGC K16. Conditions: none. -/
import Derived.Test.YtdodippbpdechaaM15
import Derived.Test.YtdodippbpdechaaM13
import Derived.Test.YtdodippbpdechaaM14
set_option linter.all false
set_option maxRecDepth 100000
namespace Go.Proofs.Ytdodippbpdechaa
open Go Go.Ab Go.Proofs
theorem Zmf {h:FH} {vb db eb tb:Nat} {V D E T:List Int} (h1:h.f vb=some (.cells false none (ints V))) (h2:h.f db=some (.cells false none (ints D))) (h3:h.f eb=some (.cells false none (ints E))) (h4:h.f tb=some (.cells false none (ints T))):fH h vb db eb tb V D E T=h:=by
 apply FH.ext; intro j
 rw [Z7L]
 by_cases e1:j=tb
 · rw [if_pos e1,e1,h4]
 rw [if_neg e1]
 by_cases e2:j=eb
 · rw [if_pos e2,e2,h3]
 rw [if_neg e2]
 by_cases e3:j=db
 · rw [if_pos e3,e3,h2]
 rw [if_neg e3]
 by_cases e4:j=vb
 · rw [if_pos e4,e4,h1]
 rw [if_neg e4]
set_option maxHeartbeats 1000000 in
theorem nc_t (cb vb db eb tb n cm c:Nat) (Gl:List Int) (s:Value) (h0:FH) (df:List Nat) (e:E4 h0 cb vb db eb tb n s) (hok:Z0A Gl n=true) (hs:SlI h0 cm s 20 n Gl) (hcm:cm<=c) (lc:cb<256*c) (lv:vb<256*c) (ld:db<256*c) (le:eb<256*c) (lt:tb<256*c)
 (mv:256*cm<=vb) (md:256*cm<=db) (me:256*cm<=eb) (mt:256*cm<=tb) :
 ∀ (r t:Nat) (V D E T:List Int),t+r=n->Jn (upL (vT Gl) t) (4*n) V->Jn (upL (dT Gl) t) (16*n) D->Jn (upL (eT Gl) t) (6*n) E->Jn (upL (tT Gl) t) (4*n) T →
 Ans (G (Z9K none) [ptrTo cb,s,.int .i64 n,.int .i64 t] (fH h0 vb db eb tb V D E T) c df) fun q=>∃ V' D' E' T',q=⟨.exit 0,[ptrTo cb,s,.int .i64 n,.int .i64 n],fH h0 vb db eb tb V' D' E' T',c,df⟩ ∧
  Jn (vP Gl n) (4*n) V'/\Jn (dP Gl n) (16*n) D'/\Jn (eP Gl n) (6*n) E'/\Jn (tP Gl n) (4*n) T':=by
 intro r
 have hG:Gl.length=n*20:=hs.1
 have o1:=(hs.mono hcm).okV
 induction r with
 | zero =>
  intro t V D E T ht jv jd je jt
  obtain rfl:t=n:=by omega
  refine Ans.lpG rfl rfl (Z4A ..) ?_
  unfold Z46
  obtain ⟨H,hH⟩:∃ H,fH h0 vb db eb tb V D E T=H:=⟨_,rfl⟩
  rw [hH]
  have fx:=True.intro
  refine Ans.go ?_
  clear fx
  (have fx:=ai lc o1; refine Ans.ex0 ?_; clear fx)
  exact ⟨V,D,E,T,by rw [hH],jv,jd,je,jt⟩
 | succ r ih =>
  intro t V D E T ht jv jd je jt
  have ht':t<n:=by omega
  have hrl:=Z1z hG ht'
  obtain ⟨rb,hrb⟩:∃ b,256*(c+1)+3=b:=⟨_,rfl⟩
  have orb:Zlk rb vb db eb tb:=⟨by omega,by omega,by omega,by omega⟩
  obtain ⟨h1,hh1⟩:∃ h1,newB h0 rb (ints (Z2p Gl t))=h1:=⟨_,rfl⟩
  have e1:E4 h1 cb vb db eb tb n s:=by rw [← hh1]; exact e.newB qO _
  have t1:Z0q (c+1) h0 h1:=fun j hj=>by rw [← hh1,Z01,if_neg qO]
  have ec:newB (fH h0 vb db eb tb V D E T) rb (ints (Z2p Gl t))=fH h1 vb db eb tb V D E T:=by rw [Zcv orb,hh1]
  obtain ⟨q9,hq9,V',D',E',T',rfl,jv',jd',je',jt'⟩:=nc_f cb vb db eb tb n t (c+1+1+1) Gl s s (.int .i64 n) (.int .i64 t) h1 df (upL (vT Gl) t) (upL (dT Gl) t) (upL (eT Gl) t) (upL (tT Gl) t) e1 hok hG ht' qO qO qO qO qO
   (o1.mono qO) (OkV.int _ _ _) (OkV.int _ _ _) 4 0 V D E T qO (by rw [upL,List.append_nil]; exact jv) (by rw [upL,List.append_nil]; exact jd) (by rw [upL,List.append_nil]; exact je) (by rw [upL,List.append_nil]; exact jt)
  have hk:=ih (t+1) V' D' E' T' qO jv' jd' je' jt'
  simp only [Int.ofNat_eq_natCast,Int.cast_ofNat_Int] at hq9
  have sb:=hs.same (Zh9 h0 mv md me mt V D E T)
  have l1:ldN (fH h0 vb db eb tb V D E T) 20 (.pointer (some ⟨Z0w s,Z4T s+t*20,none⟩))=some (av (Z2p Gl t)):=by
   rw [sb.rdN 20 _ qO qO,Z2p,Nat.mul_comm t 20]
  have ix:=sb.ixs .i64 t qO qO
  rw [Int.toNat_natCast] at ix
  have w1:stN (newB (fH h0 vb db eb tb V D E T) rb [(.int .i64 0),(.int .i64 0),(.int .i64 0),(.int .i64 0),(.int .i64 0),(.int .i64 0),(.int .i64 0),(.int .i64 0),(.int .i64 0),(.int .i64 0),(.int .i64 0),(.int .i64 0),(.int .i64 0),(.int .i64 0),(.int .i64 0),(.int .i64 0),(.int .i64 0),(.int .i64 0),(.int .i64 0),(.int .i64 0)]) 20 (.pointer (some ⟨rb,0,none⟩)) (av (Z2p Gl t))=some (fH h1 vb db eb tb V D E T):=by
   rw [stN_all _ _ 20 _ _ hrl rfl,ec]
  have w2:ldN (fH h1 vb db eb tb V D E T) 20 (.pointer (some ⟨rb,0,none⟩))=some (av (Z2p Gl t)):=by
   rw [← ec,ldN_newB_same _ _ _ _ _ (by simp [hrl]),List.drop_zero,Z0V,List.take_of_length_le qO]; rfl
  have up:=ZaA h0 lv ld le lt V D E T V' D' E' T'
  have sB:Z0q c (fH h0 vb db eb tb V' D' E' T') (fH h1 vb db eb tb V' D' E' T'):=Zh8 h0 h1 (t1.mono qO) V' D' E' T'
  clear ec jv' jd' je' jt' sb
  have tn:n<=60:=e.le
  obtain ⟨S,hS⟩:∃ S,fH h0 vb db eb tb V D E T=S:=⟨_,rfl⟩
  obtain ⟨S1,hS1⟩:∃ S,fH h1 vb db eb tb V D E T=S:=⟨_,rfl⟩
  obtain ⟨S3,hS3⟩:∃ S,fH h1 vb db eb tb V' D' E' T'=S:=⟨_,rfl⟩
  obtain ⟨S4,hS4⟩:∃ S,fH h0 vb db eb tb V' D' E' T'=S:=⟨_,rfl⟩
  rw [hS] at up w1 l1 ⊢
  rw [hS1] at w1 w2 hq9
  rw [hS3] at hq9 sB
  rw [hS4] at up hk sB
  obtain ⟨R,hR⟩:∃ R,Z2p Gl t=R:=⟨_,rfl⟩
  rw [hR] at w1 w2 l1 hq9
  refine Ans.lpG rfl rfl (Z4A ..) ?_
  unfold Z46
  have fx:=ai ix (ai l1 (ai hrb (ai w1 (ai w2 hq9))))
  refine Ans.go ?_
  clear fx
  (have fx:=ai lc (ai o1 sB); refine Ans.nxB (B:=S4) ?_ ?_; exact (up); clear fx)
  exact hk
structure Cls (h:FH) (lo hi cb vb db eb tb n:Nat) (s:Value) (Gl V D E T:List Int):Prop where
 e:E4 h cb vb db eb tb n s
 fv:h.f vb=some (.cells false none (ints V))
 fd:h.f db=some (.cells false none (ints D))
 fe:h.f eb=some (.cells false none (ints E))
 ft:h.f tb=some (.cells false none (ints T))
 jv:Jn (vP Gl n) (4*n) V
 jd:Jn (dP Gl n) (16*n) D
 je:Jn (eP Gl n) (6*n) E
 jt:Jn (tP Gl n) (4*n) T
 bd:(256*lo<=cb/\256*lo<=vb/\256*lo<=db/\256*lo<=eb/\256*lo<=tb)/\cb<256*hi/\vb<256*hi/\db<256*hi/\eb<256*hi/\tb<256*hi
set_option maxHeartbeats 1000000 in
theorem Zan (s:Value) (n:Nat) (Gl:List Int) (h:FH) (c:Nat) (df:List Nat) (hs:SlI h c s 20 n Gl) (hok:Z0A Gl n=true) (hn:n<=60) :
 Ans (G (.fn 40) [.agg #[s]] h c df) fun r=>∃ cb vb db eb tb V D E T,r=⟨.ret,[ptrTo cb],r.h,r.c,[]⟩/\c<=r.c/\Z0q c h r.h/\Cls r.h c r.c cb vb db eb tb n s Gl V D E T:=by
 refine Ans.call' (fun r e=>f40_go e) ?_
 have Z4X:((Value.agg #[s]).cells.toList.all Z06)=true:=by simp [Value.cells,hs.flat]
 have Z52:(Value.agg #[s]).cells.toList=[s]:=rfl
 unfold Zhn
 rw [Z4X,Z52]
 simp only [cond_true,Nat.add_zero]
 obtain ⟨H,hH⟩:∃ H,H=newB h (256*c) [s]:=⟨_,rfl⟩
 have sH:Z0q c h H:=by rw [hH]; simp (disch:=omega)
 have g1:Z0d H (256*c) [s]:=by rw [hH]; exact Z0d.newB_same _ _ _
 rw [← hH]
 clear hH
 have l0:ld1 H (.pointer (some ⟨256*c,0,none⟩))=some s:=by rw [Z05 g1]; rfl
 have l1:=Z0O g1
 have ln:=hs.len
 obtain ⟨⟨re,rv,H1,rc,rd⟩,w1,q1,t1,f1⟩:=Z4j (4*n) H (c+1+1+1) [] qO
 cases q1
 obtain ⟨⟨re,rv,H2,rc,rd⟩,w2,q2,t2,f2⟩:=Z4j (16*n) H1 (c+1+1+1+1+1+1+1) [] qO
 cases q2
 obtain ⟨⟨re,rv,H3,rc,rd⟩,w3,q3,t3,f3⟩:=Z4j (6*n) H2 (c+1+1+1+1+1+1+1+1+1+1+1) [] qO
 cases q3
 obtain ⟨⟨re,rv,H4,rc,rd⟩,w4,q4,t4,f4⟩:=Z4j (4*n) H3 (c+1+1+1+1+1+1+1+1+1+1+1+1+1+1+1) [] qO
 cases q4
 simp only at t1 f1 t2 f2 t3 f3 t4 f4
 have d1:=Z0b w1
 have d2:=Z0b w2
 have d3:=Z0b w3
 have d4:=Z0b w4
 rw [show ((4*n:Nat):Int)=4*(n:Int) by omega] at d1 d4
 rw [show ((16*n:Nat):Int)=16*(n:Int) by omega] at d2
 rw [show ((6*n:Nat):Int)=6*(n:Int) by omega] at d3
 obtain ⟨vb,hvb⟩:∃ b,256*(c+1+1+1+1)+1=b:=⟨_,rfl⟩
 obtain ⟨db,hdb⟩:∃ b,256*(c+1+1+1+1+1+1+1+1)+1=b:=⟨_,rfl⟩
 obtain ⟨eb,heb⟩:∃ b,256*(c+1+1+1+1+1+1+1+1+1+1+1+1)+1=b:=⟨_,rfl⟩
 obtain ⟨tb,htb⟩:∃ b,256*(c+1+1+1+1+1+1+1+1+1+1+1+1+1+1+1+1)+1=b:=⟨_,rfl⟩
 rw [hvb] at d1 f1
 rw [hdb] at d2 f2
 rw [heb] at d3 f3
 rw [htb] at d4 f4
 obtain ⟨cb,hcb⟩:∃ b,256*(c+1+1)+18=b:=⟨_,rfl⟩
 have u1:∀ x,Z1d [.slice none 0 0] [(0,1,.agg #[.slice (some ⟨x,0,none⟩) (4*n) (4*n)])]=some (.agg #[.slice (some ⟨x,0,none⟩) (4*n) (4*n)]):=fun _=>rfl
 have u2:∀ x,Z1d [.slice none 0 0] [(0,1,.agg #[.slice (some ⟨x,0,none⟩) (16*n) (16*n)])]=some (.agg #[.slice (some ⟨x,0,none⟩) (16*n) (16*n)]):=fun _=>rfl
 have u3:∀ x,Z1d [.slice none 0 0] [(0,1,.agg #[.slice (some ⟨x,0,none⟩) (6*n) (6*n)])]=some (.agg #[.slice (some ⟨x,0,none⟩) (6*n) (6*n)]):=fun _=>rfl
 have u5:Z1d [.slice none 0 0,.slice none 0 0,.slice none 0 0,.slice none 0 0,.slice none 0 0] [(0,1,.agg #[s]),(1,1,.agg #[.slice (some ⟨vb,0,none⟩) (4*n) (4*n)]),(2,1,.agg #[.slice (some ⟨db,0,none⟩) (16*n) (16*n)]),(3,1,.agg #[.slice (some ⟨eb,0,none⟩) (6*n) (6*n)]),(4,1,.agg #[.slice (some ⟨tb,0,none⟩) (4*n) (4*n)])]=some (.agg #[s,.slice (some ⟨vb,0,none⟩) (4*n) (4*n),.slice (some ⟨db,0,none⟩) (16*n) (16*n),.slice (some ⟨eb,0,none⟩) (6*n) (6*n),.slice (some ⟨tb,0,none⟩) (4*n) (4*n)]):=rfl
 have u7:(Value.agg #[s,.slice (some ⟨vb,0,none⟩) (4*n) (4*n),.slice (some ⟨db,0,none⟩) (16*n) (16*n),.slice (some ⟨eb,0,none⟩) (6*n) (6*n),.slice (some ⟨tb,0,none⟩) (4*n) (4*n)]).cells.toList=[s,.slice (some ⟨vb,0,none⟩) (4*n) (4*n),.slice (some ⟨db,0,none⟩) (16*n) (16*n),.slice (some ⟨eb,0,none⟩) (6*n) (6*n),.slice (some ⟨tb,0,none⟩) (4*n) (4*n)]:=rfl
 have u6:((Value.agg #[s,.slice (some ⟨vb,0,none⟩) (4*n) (4*n),.slice (some ⟨db,0,none⟩) (16*n) (16*n),.slice (some ⟨eb,0,none⟩) (6*n) (6*n),.slice (some ⟨tb,0,none⟩) (4*n) (4*n)]).cells.toList.all Z06)=true:=by
  rw [u7]
  simp only [List.all_cons,List.all_nil,hs.flat,Bool.true_and,Bool.and_true]
  rfl
 have sb:∀ {A B:FH},A.f (256*c)=B.f (256*c)->Z19 (Z2g (ptrTo (256*c))) A B=true:=fun z=>Zad fun j hj=>by
  have hj':some (256*c)=some j:=hj
  cases hj'
  exact z
 have b1:=sb (A:=H) (B:=H1) (t1 _ qO).symm
 have b2:=sb (A:=H1) (B:=H2) (t2 _ qO).symm
 have b3:=sb (A:=H2) (B:=H3) (t3 _ qO).symm
 have b4:=sb (A:=H3) (B:=H4) (t4 _ qO).symm
 obtain ⟨M,hM⟩:∃ M,newB H4 cb [s,.slice (some ⟨vb,0,none⟩) (4*n) (4*n),.slice (some ⟨db,0,none⟩) (16*n) (16*n),.slice (some ⟨eb,0,none⟩) (6*n) (6*n),.slice (some ⟨tb,0,none⟩) (4*n) (4*n)]=M:=⟨_,rfl⟩
 have tM:Z0q (c+1) H M:=fun j hj=>by
  rw [← hM,Z01,if_neg qO,t4 j qO,t3 j qO,t2 j qO,t1 j qO]
 have sM:Z0q c h M:=sH.trans (tM.mono qO)
 have gM:Z0d M (256*c) [s]:=g1.same qO tM
 have lM:ld1 M (.pointer (some ⟨256*c,0,none⟩))=some s:=by rw [Z05 gM]; rfl
 have e:E4 M cb vb db eb tb n s:=⟨by rw [← hM]; exact Z0d.newB_same _ _ _,⟨by omega,by omega,by omega,by omega,by omega,by omega⟩,⟨by omega,by omega,by omega,by omega⟩,hn⟩
 have fv:M.f vb=some (.cells false none (ints (Z0G (4*n)))):=by
  rw [← hM,Z01,if_neg qO,t4 vb qO,t3 vb qO,t2 vb qO,f1]
 have fd:M.f db=some (.cells false none (ints (Z0G (16*n)))):=by
  rw [← hM,Z01,if_neg qO,t4 db qO,t3 db qO,f2]
 have fe:M.f eb=some (.cells false none (ints (Z0G (6*n)))):=by
  rw [← hM,Z01,if_neg qO,t4 eb qO,f3]
 have ft:M.f tb=some (.cells false none (ints (Z0G (4*n)))):=by
  rw [← hM,Z01,if_neg qO,f4]
 obtain ⟨⟨re,rv,K,rc,rd⟩,hr,V,D,E,T,q5,jv,jd,je,jt⟩:=nc_t cb vb db eb tb n c (c+1+1+1+1+1+1+1+1+1+1+1+1+1+1+1+1+1+1+1+1) Gl s M [] e hok (hs.same sM) qO qO qO qO qO qO qO qO qO qO n 0 _ _ _ _ qO (Jn.nil _) (Jn.nil _) (Jn.nil _) (Jn.nil _)
 simp only [Rt.mk.injEq] at q5
 obtain ⟨rfl,rfl,hKK,rfl,rfl⟩:=q5
 rw [Zmf fv fd fe ft] at hr
 simp only [Int.ofNat_eq_natCast,Int.cast_ofNat_Int] at hr
 have tK:Z0q c M K:=by rw [hKK]; exact Zh9 M qO qO qO qO V D E T
 have fx:=ai l0 (ai l1 (ai ln (ai d1 (ai u1 (ai d2 (ai u2 (ai d3 (ai u3 (ai d4 u5)))))))))
 refine Ans.go ?_
 clear fx
 rw [u6,u7,b1,b2,b3,b4,hcb,hM]
 simp only [cond_true,Bool.and_self]
 have fx:=ai lM (ai ln hr)
 refine Ans.go ?_
 clear fx
 refine .done ⟨cb,vb,db,eb,tb,V,D,E,T,rfl,(by show c<=_; simp only; omega),fun j hj=>?_, ?_⟩
 · show K.f j=h.f j
   rw [tK j hj]
   exact sM j hj
 · refine ⟨?_, ?_, ?_, ?_, ?_,jv,jd,je,jt, ?_⟩
   · refine ⟨?_,e.q,e.o,e.le⟩
     obtain ⟨ro,op,z⟩:=e.st
     exact ⟨ro,op,by show K.f cb=_; rw [hKK,Ze6 e.o]; exact z⟩
   · show K.f vb=_
     rw [hKK,Z7L,if_neg e.q.c,if_neg e.q.b,if_neg e.q.a,if_pos rfl]
   · show K.f db=_
     rw [hKK,Z7L,if_neg e.q.e,if_neg e.q.d,if_pos rfl]
   · show K.f eb=_
     rw [hKK,Z7L,if_neg e.q.f,if_pos rfl]
   · show K.f tb=_
     rw [hKK,Z7L,if_pos rfl]
   · simp only
     omega

theorem ZgH (C:List Int) {m i:Nat} (hi:i<m):(Z3v C m i).set i ((Z3J C (Z0a C i):Nat):Int)=Z3v C m (i+1):=by
 refine Z1u (m:=m) (by simp [Z0N]) (Z0N _ _ _) fun k hk=>?_
 rw [Z17,Z4U C _ hk,Z4U C _ hk,Z0N]
 by_cases e:i=k
 · subst e; rw [if_pos ⟨rfl,hi⟩,if_pos qO]
 · rw [if_neg (fun q=>e q.1)]
   by_cases q:k<i
   · rw [if_pos q,if_pos qO]
   · rw [if_neg q,if_neg qO]
noncomputable def nH (h:FH) (b ob:Nat) (L X:List Int):FH:=newB (newB h b (ints L)) ob (ints X)
theorem ZhO (h:FH) (b ob:Nat) (L X:List Int) (j:Nat):(nH h b ob L X).f j=if j=ob then some (.cells false none (ints X)) else if j=b then some (.cells false none (ints L)) else h.f j:=by
 unfold nH
 rw [Z01,Z01]
theorem nH_b (h:FH) {b ob:Nat} (hne:b ≠ ob) (L X L':List Int):newB (nH h b ob L X) b (ints L')=nH h b ob L' X:=by
 apply FH.ext; intro j
 rw [Z01,ZhO,ZhO]
 by_cases z:j=b
 · subst z; rw [if_pos rfl,if_neg hne,if_pos rfl]
 · simp only [if_neg z]
theorem nH_uo {h:FH} {cb o b ob m:Nat} {L L' X:List Int} (u:Uo h cb o b m L) (h1:cb ≠ ob) (h2:b ≠ ob) (hd:Z3H L' m):Uo (nH h b ob L' X) cb o b m L':=by
 obtain ⟨⟨cs,⟨ro,op,e⟩,q⟩,a,b',d,f⟩:=u
 have e':h.f cb=some (.cells ro op cs):=e
 exact ⟨⟨cs,⟨ro,op,by show (nH h b ob L' X).f cb=_; rw [ZhO,if_neg h1,if_neg b']; exact e'⟩,q⟩,by rw [ZhO,if_neg h2,if_pos rfl],b',hd,f⟩
theorem ZlU (h:FH) {b ob c:Nat} (h1:b<256*c) (h2:ob<256*c) (L X L' X':List Int):Z2n c (nH h b ob L X) (nH h b ob L' X'):=by
 intro j
 rw [ZhO,ZhO]
 refine ⟨fun hj=>by rw [if_neg qO,if_neg qO,if_neg qO,if_neg qO],fun hj=>?_⟩
 by_cases e:j=ob
 · rw [if_pos e]; exact .inr (Z1l.ints _ _)
 · rw [if_neg e,if_neg e]
   by_cases e2:j=b
   · rw [if_pos e2]; exact .inr (Z1l.ints _ _)
   · rw [if_neg e2,if_neg e2]; exact .inl rfl
theorem ZbA (cb o b ob m c:Nat) (C L0:List Int) (h0:FH) (df:List Nat) (u0:Uo h0 cb o b m L0) (hdC:Z3H C m) (h1:cb ≠ ob) (h2:b ≠ ob) (lc:cb<256*c) (lb:b<256*c) (lo:ob<256*c) :
 ∀ (r i:Nat) (L:List Int),i+r=m->Z3C C L m->Ans (G (Z9G none) [.pointer (some ⟨cb,o,none⟩),.slice (some ⟨ob,0,none⟩) m m,.int .i64 (Z3J C i),.int .i64 m,.int .i64 i] (nH h0 b ob L (Z3v C m i)) c df) fun q=>∃ L',q=⟨.exit 0,[.pointer (some ⟨cb,o,none⟩),.slice (some ⟨ob,0,none⟩) m m,.int .i64 (Z3J C m),.int .i64 m,.int .i64 m],nH h0 b ob L' (Zal C m),c,df⟩/\Z3C C L' m:=by
 intro r
 have op:OkV c (.pointer (some ⟨cb,o,none⟩)):=OkV.ptr lc
 have hm:=u0.le
 induction r with
 | zero =>
  intro i L hi s
  obtain rfl:i=m:=by omega
  rw [Zid]
  refine Ans.lpG rfl rfl (Z4z ..) ?_
  unfold Z45
  obtain ⟨H,hH⟩:∃ H,nH h0 b ob L (Zal C i)=H:=⟨_,rfl⟩
  rw [hH]
  have fx:=True.intro
  refine Ans.go ?_
  clear fx
  (have fx:=ai op lo; refine Ans.ex0 ?_; clear fx)
  exact ⟨L,by rw [hH],s⟩
 | succ r ih =>
  intro i L hi s
  have hi':i<m:=by omega
  have u:=nH_uo (X:=Z3v C m i) u0 h1 h2 s.1
  obtain ⟨L',s1,g1⟩:=Zc5 (nH h0 b ob L (Z3v C m i)) cb o b m (c+1+1+1) L u qO qO i hi' []
  rw [nH_b _ h2,s.2 i hi'] at g1
  have s':=s.trans s1
  have hk:=ih (i+1) L' qO s'
  have c1:=Z0b g1
  have hle:=Z2d hdC hi'
  have hrr:=Z9e hdC hi'
  have hfs:=ZbJ C i
  have hfl:=Zay C i
  have fo:HeapC.get (nH h0 b ob L' (Z3v C m i)) ob=some (.cells false none (ints (Z3v C m i))):=by
   show (nH h0 b ob L' (Z3v C m i)).f ob=_
   rw [ZhO,if_pos rfl]
  have hw:∀ x:Int,stN (nH h0 b ob L' (Z3v C m i)) 1 (.pointer (some ⟨ob,i,none⟩)) (.int .i64 x)=some (nH h0 b ob L' ((Z3v C m i).set i x)):=fun x=>by
   rw [nH,st1_int _ _ _ _ _ _ (by simp [Z0N]; omega),Z4n]; rfl
  have hx:=ZgH C hi'
  have lr:ld1 (nH h0 b ob L' (Z3v C m i)) (.pointer (some ⟨ob,Z0a C i,none⟩))=some (.int .i64 ((Z3v C m i).getD (Z0a C i) 0)):=by
   rw [Z05 ⟨false,none,fo⟩,ints_getD _ _ (by rw [Z0N]; omega)]
  have up:=ZlU h0 lb lo L (Z3v C m i) L' (Z3v C m (i+1))
  refine Ans.lpG rfl rfl (Z4z ..) ?_
  unfold Z45
  by_cases e:Z0a C i=i
  · rw [if_pos e] at hfs
    rw [e] at hx c1
    have w:=hw (Z3J C i:Nat)
    rw [hx] at w
    rw [hfs] at hk
    have hk':((Z3J C i+1:Nat):Int)=(Z3J C i:Int)+1:=by omega
    rw [hk'] at hk
    clear hw lr fo hx hfs
    obtain ⟨F,hF⟩:∃ F,Z3J C i=F:=⟨_,rfl⟩
    rw [hF] at w hk hfl ⊢
    obtain ⟨S,hS⟩:∃ S,nH h0 b ob L (Z3v C m i)=S:=⟨_,rfl⟩
    obtain ⟨S1,hS1⟩:∃ S,nH h0 b ob L' (Z3v C m i)=S:=⟨_,rfl⟩
    obtain ⟨S2,hS2⟩:∃ S,nH h0 b ob L' (Z3v C m (i+1))=S:=⟨_,rfl⟩
    rw [hS] at c1 up ⊢
    rw [hS1] at c1 w
    rw [hS2] at w up hk
    have fx:=ai c1 w
    refine Ans.go ?_
    clear fx
    (have fx:=ai op lo; refine Ans.nxB (B:=S2) ?_ ?_; exact (up); clear fx)
    exact hk
  · rw [if_neg e,Nat.add_zero] at hfs
    have hlt:Z0a C i<i:=by omega
    rw [Z4U C _ qO,if_pos hlt,hrr] at lr
    have w:=hw (Z3J C (Z0a C i):Nat)
    rw [hx] at w
    rw [hfs] at hk
    clear hw fo hx hfs
    obtain ⟨R,hR⟩:∃ R,Z0a C i=R:=⟨_,rfl⟩
    rw [hR] at c1 lr w hlt e
    have e':¬ (R:Int)=i:=by omega
    obtain ⟨F,hF⟩:∃ F,Z3J C R=F:=⟨_,rfl⟩
    rw [hF] at w lr
    obtain ⟨F2,hF2⟩:∃ F,Z3J C i=F:=⟨_,rfl⟩
    rw [hF2] at hk ⊢
    obtain ⟨S,hS⟩:∃ S,nH h0 b ob L (Z3v C m i)=S:=⟨_,rfl⟩
    obtain ⟨S1,hS1⟩:∃ S,nH h0 b ob L' (Z3v C m i)=S:=⟨_,rfl⟩
    obtain ⟨S2,hS2⟩:∃ S,nH h0 b ob L' (Z3v C m (i+1))=S:=⟨_,rfl⟩
    rw [hS] at c1 up ⊢
    rw [hS1] at c1 w lr
    rw [hS2] at w up hk
    have fx:=ai c1 (ai e' (ai lr w))
    refine Ans.go ?_
    clear fx
    (have fx:=ai op lo; refine Ans.nxB (B:=S2) ?_ ?_; exact (up); clear fx)
    exact hk
theorem ZeS (cb o b m:Nat) (C L:List Int) (h:FH) (c:Nat) (df:List Nat) (u:Uo h cb o b m L) (s:Z3C C L m) (hdC:Z3H C m) (lc:cb<256*c) (lb:b<256*c) :
 Ans (G (.fn 41) [.pointer (some ⟨cb,o,none⟩)] h c df) fun r=>∃ L' ob,r=⟨.ret,[.tuple #[.slice (some ⟨ob,0,none⟩) m m,.int .i64 (Z3J C m)]],r.h,r.c,[]⟩/\c<=r.c/\256*c<=ob/\ob<256*r.c/\r.h.f ob=some (.cells false none (ints (Zal C m)))/\Z3C C L' m/\r.h.f b=some (.cells false none (ints L'))/\(∀ j,j<256*c->j ≠ b->r.h.f j=h.f j):=by
 refine Ans.call' (fun r e=>f41_go e) ?_
 unfold Zhm
 have hm:=u.le
 have l1:=u.ld
 have mk:=Z8k 1 8 .i64 .i64 m qO qO
 obtain ⟨ob,hob⟩:∃ b,256*(c+1)+5=b:=⟨_,rfl⟩
 obtain ⟨r,hr,L',rfl,s'⟩:=ZbA cb o b ob m (c+1+1+1+1) C L h [] u hdC qO qO qO qO qO m 0 L qO s
 rw [ZgG,nH,Z9i u] at hr
 rw [show Z3J C 0=0 from rfl] at hr
 simp only [Int.ofNat_eq_natCast,Int.cast_ofNat_Int] at hr
 obtain ⟨K,hK⟩:∃ K,nH h b ob L' (Zal C m)=K:=⟨_,rfl⟩
 rw [hK] at hr
 have fx:=ai l1 (ai mk (ai hob hr))
 refine Ans.go ?_
 clear fx
 refine .done ⟨L',ob,rfl,(by show c<=_; simp only; omega),by omega,(by simp only; omega), ?_,s', ?_,fun j hj hjb=>?_⟩
 · show K.f ob=_
   rw [← hK,ZhO,if_pos rfl]
 · show K.f b=_
   rw [← hK,ZhO,if_neg qO,if_pos rfl]
 · show K.f j=_
   rw [← hK,ZhO,if_neg qO,if_neg hjb]
end Go.Proofs.Ytdodippbpdechaa

namespace Go.Ab
open Go
def GrS (c0:Nat) (h:FH) (c:Nat) (v:Value) (sz n:Nat) (L:List Int):Prop :=
 (v = .slice none 0 0/\n=0/\L=[]) ∨ (0<n/\L.length=n*sz/\n<=9223372036854775807 /\ ∃ i,v = .slice (some ⟨i,0,none⟩) n n/\256*c0<=i/\i<256*c/\h.f i=some (.cells false (some sz) (ints L)))
theorem GrS.mono {c0:Nat} {h:FH} {c c':Nat} {v:Value} {sz n:Nat} {L:List Int} (hc:c<=c') (ha:GrS c0 h c v sz n L):GrS c0 h c' v sz n L:=by
 rcases ha with ha | ⟨a,b,d,i,e,f,g,k⟩
 · exact .inl ha
 · exact .inr ⟨a,b,d,i,e,f,by omega,k⟩
theorem GrS.keep {c0:Nat} {h h':FH} {c:Nat} {v:Value} {sz n:Nat} {L:List Int} (ha:GrS c0 h c v sz n L) (hh:v ≠ .slice none 0 0->h'.f (Z0w v)=h.f (Z0w v)):GrS c0 h' c v sz n L:=by
 rcases ha with ha | ⟨a,b,d,i,rfl,f,g,k⟩
 · exact .inl ha
 · have:=hh (by intro e; cases e)
   rw [blkOf_sl] at this
   exact .inr ⟨a,b,d,i,rfl,f,g,this.trans k⟩
theorem GrS.sl {c0:Nat} {h:FH} {c:Nat} {v:Value} {sz n:Nat} {L:List Int} (ha:GrS c0 h c v sz n L):SlI h c v sz n L:=by
 rcases ha with ⟨rfl,rfl,rfl⟩ | ⟨a,b,d,i,rfl,f,g,k⟩
 · exact ⟨by simp,by omega,none,0,rfl,.inl ⟨rfl,OkV.sl0 _ _ _⟩⟩
 · refine ⟨b,d,some ⟨i,0,none⟩,n,rfl,.inr ⟨i,0,ints L,rfl,g,⟨false,some sz,k⟩, ?_⟩⟩
   rw [List.drop_zero,List.take_of_length_le (by simp [b])]
theorem GrS.blk {c0:Nat} {h:FH} {c:Nat} {v:Value} {sz n:Nat} {L:List Int} (ha:GrS c0 h c v sz n L) (hn:v ≠ .slice none 0 0):256*c0<=Z0w v/\Z0w v<256*c:=by
 rcases ha with ⟨rfl,rfl,rfl⟩ | ⟨a,b,d,i,rfl,f,g,k⟩
 · exact absurd rfl hn
 · exact ⟨f,g⟩
theorem GrS.nn {c0:Nat} {h:FH} {c:Nat} {v:Value} {sz n:Nat} {L:List Int} (ha:GrS c0 h c v sz n L):v ≠ .slice none 0 0 ↔ 0<n:=by
 rcases ha with ⟨rfl,rfl,rfl⟩ | ⟨a,b,d,i,rfl,f,g,k⟩
 · exact ⟨fun h=>absurd rfl h,fun h=>by omega⟩
 · exact ⟨fun _=>a,fun _=>by intro e; cases e⟩
theorem GrS.flat {c0:Nat} {h:FH} {c:Nat} {v:Value} {sz n:Nat} {L:List Int} (ha:GrS c0 h c v sz n L):Z06 v=true/\v.cells = #[v]:=by
 rcases ha with ⟨rfl,rfl,rfl⟩ | ⟨a,b,d,i,rfl,f,g,k⟩ <;> exact ⟨rfl,rfl⟩
theorem GrS.app {c0:Nat} {h:FH} {c c':Nat} {v:Value} {sz n:Nat} {L:List Int} (ha:GrS c0 h c v sz n L) (X:List Int) (hX:X.length=sz) (hsz:0<sz) (by' b id:Nat) (hb:256*c<=b) (hid:256*c<=id) (hne:b ≠ id) (hc0:c0<=c)
 (hid':id<256*c') (hlim:(n+1)*(by'+1)<=17592186044416) :
 ∃ h',Z5o (newB h b (ints X)) id sz by' v (.slice (some ⟨b,0,none⟩) 1 1)=some (.slice (some ⟨id,0,none⟩) (n+1) (n+1),h')/\GrS c0 h' c' (.slice (some ⟨id,0,none⟩) (n+1) (n+1)) sz (n+1) (L++X)/\(∀ j,j<256*c->(v ≠ .slice none 0 0->j ≠ Z0w v)->h'.f j=h.f j):=by
 have hlim':Nat.ble ((n+1)*(by'+1)) 17592186044416=true:=Nat.ble_eq_true_of_le hlim
 have hsrc:Z0B (newB h b (ints X)) sz (.slice (some ⟨b,0,none⟩) 1 1)=some (ints X,1):=by
  have:Nat.ble (0+1*sz) (ints X).length=true:=Nat.ble_eq_true_of_le (by simp [hX])
  simp only [Z0B,Z0J,Z0k,get_newB_same,Option.bind_some,this,cond_true,List.drop_zero]
  rw [List.take_of_length_le (by simp [hX])]
 have hn1:n+1<=17592186044416:=by
  have:(n+1)*1<=(n+1)*(by'+1):=Nat.mul_le_mul_left _ qO
  omega
 have hcap:Nat.ble (n+1) n=false:=by rw [Bool.eq_false_iff]; intro hh; have:=Nat.le_of_ble_eq_true hh; omega
 rcases ha with ⟨rfl,rfl,rfl⟩ | ⟨h0,h1,h2,i,rfl,h3,h4,h5⟩
 · refine ⟨HeapC.set (newB h b (ints X)) id (.cells false (some sz) (ints X)), ?_,.inr ⟨by omega,by simp [hX],by omega,id,rfl,by omega,hid', ?_⟩, ?_⟩
   · simp only [Z5o,hsrc,Option.bind_some,appTo,hcap,cond_false,Z1D,hlim',Z0p,Bool.and_self,cond_true,Nat.beq_refl,Nat.zero_add]
   · rw [Z0o,if_pos rfl]; rfl
   · intro j hj _
     rw [Z0o,if_neg qO,Z01,if_neg qO]
 · have hbi:i ≠ b:=by omega
   have hg:HeapC.get (newB h b (ints X)) i=some (.cells false (some sz) (ints L)):=by rw [get_newB_ne _ _ _ _ hbi]; exact h5
   have hr:Nat.ble (0+n*sz) (ints L).length=true:=Nat.ble_eq_true_of_le (by simp [h1])
   refine ⟨HeapC.set (HeapC.set (newB h b (ints X)) i .dead) id (.cells false (some sz) (((ints L).drop 0).take (n*sz)++ints X)), ?_,.inr ⟨by omega, ?_,by omega,id,rfl,by omega,hid', ?_⟩, ?_⟩
   · simp only [Z5o,hsrc,Option.bind_some,appTo,hcap,cond_false,Z1D,hlim',Z0p,Bool.and_self,cond_true,Z0J,Z0k,hg,hr,Nat.beq_refl,Bool.not_false,Bool.and_true]
   · simp [h1,hX,Nat.succ_mul]
   · rw [Z0o,if_pos rfl,List.drop_zero,List.take_of_length_le (by simp [h1]),Z0W]
   · intro j hj hv
     have:=hv (by intro e; cases e)
     rw [blkOf_sl] at this
     rw [Z0o,if_neg qO,Z0o,if_neg this,Z01,if_neg qO]
end Go.Ab

namespace Go.Proofs.Ytdodippbpdechaa
open Go Go.Ab Go.Proofs
theorem mT118:Znj P 118=some (121,3):=by kernel_rfl
theorem kO121 (a b:Int):Z8r P Z1k 121 (av [a,b])=true:=by kernel_rfl
theorem plA (a b:Int):plainL (av [a,b])=true:=by rfl
theorem zT3:Z6s P 3=some (.int .i64 0):=by kernel_rfl
theorem ZmZ (a0 a1 b0 b1:Int):aEq P Z1k 121 (av [a0,a1]) (av [b0,b1])=(cond (a0 == b0) (cond (a1 == b1) (some true) (some false)) (some false)):=by kernel_rfl
theorem eq_crn (a0 a1 b0 b1:Int):aEq P Z1k 121 (av [a0,a1]) (av [b0,b1])=some (decide (a0=b0/\a1=b1)):=by
 rw [ZmZ]
 by_cases h0:a0=b0 <;> by_cases h1:a1=b1 <;> simp [h0,h1,Bool.cond_eq_ite]
def rk (Q:Nat->Bool):Nat->Nat
 | 0=>0
 | x+1=>rk Q x+if Q x=true then 1 else 0
theorem Zbx (Q:Nat->Bool):∀ x,rk Q x<=x
 | 0=>Nat.le_refl _
 | x+1=>by have:=Zbx Q x; rw [rk]; split <;> omega
theorem Zgs (Q:Nat->Bool) {x:Nat}:∀ {y:Nat},x<=y->rk Q x<=rk Q y
 | 0,h=>by rw [show x=0 by omega]; exact Nat.le_refl _
 | y+1,h=>by
  rw [rk]
  by_cases e:x=y+1
  · rw [e,rk]; exact Nat.le_refl _
  · have:=Zgs Q (x:=x) (y:=y) qO; omega
theorem ZlD (Q:Nat->Bool) {x m:Nat} (hx:x<m) (hq:Q x=true):rk Q x<rk Q m:=by
 have:=Zgs Q (x:=x+1) (y:=m) qO
 rw [rk,if_pos hq] at this
 omega
def crn (Q:Nat->Bool):Nat->List Int
 | 0=>[]
 | x+1=>crn Q x++if Q x=true then [((x / 4:Nat):Int),((x % 4:Nat):Int)] else []
def Zcn (Q:Nat->Bool):Nat->List (Value × Value)
 | 0=>[]
 | x+1=>Zcn Q x++if Q x=true then [(av [((x / 4:Nat):Int),((x % 4:Nat):Int)],.int .i64 (rk Q x:Nat))] else []
theorem Z9Z (Q:Nat->Bool):∀ x,(crn Q x).length=rk Q x*2
 | 0=>rfl
 | x+1=>by
  rw [crn,rk,List.length_append,Z9Z Q x]
  split
  · simp; omega
  · simp
theorem Zhy (Q:Nat->Bool) {x:Nat} (hq:Q x=true):∀ {m:Nat},x<m->((crn Q m).drop (rk Q x*2)).take 2=[((x / 4:Nat):Int),((x % 4:Nat):Int)]
 | 0,h=>by omega
 | m+1,h=>by
  have hl:=Z9Z Q m
  rw [crn]
  by_cases e:x=m
  · subst e
    rw [if_pos hq,List.drop_append,List.drop_of_length_le qO,List.nil_append,hl,Nat.sub_self,List.drop_zero]
    rfl
  · have h1:=ZlD Q (x:=x) (m:=m) qO hq
    rw [List.drop_append_of_le_length qO,List.take_append_of_le_length (by rw [List.length_drop]; omega)]
    exact Zhy Q hq qO
theorem Z8n (Q:Nat->Bool) (y:Nat):∀ (m:Nat) (L:List (Value × Value)) (i:Nat),Z8U P 121 (av [((y / 4:Nat):Int),((y % 4:Nat):Int)]) (Zcn Q m++L) i=if y<m/\Q y=true then some (some (i+rk Q y,.int .i64 (rk Q y:Nat))) else Z8U P 121 (av [((y / 4:Nat):Int),((y % 4:Nat):Int)]) L (i+rk Q m)
 | 0,L,i=>by
  rw [if_neg qO]
  rfl
 | m+1,L,i=>by
  rw [Zcn,List.append_assoc,Z8n Q y m]
  by_cases h1:y<m/\Q y=true
  · rw [if_pos h1,if_pos ⟨by omega,h1.2⟩]
  · rw [if_neg h1]
    by_cases hm:Q m=true
    · rw [if_pos hm,rk,if_pos hm]
      show (aEq P Z1k 121 (av [((y / 4:Nat):Int),((y % 4:Nat):Int)]) (av [((m / 4:Nat):Int),((m % 4:Nat):Int)])).bind _=_
      rw [eq_crn]
      by_cases e:y=m
      · subst e
        rw [decide_eq_true ⟨rfl,rfl⟩,if_pos ⟨by omega,hm⟩]
        rfl
      · rw [decide_eq_false (fun z=>e qO),if_neg (fun z=>h1 ⟨by omega,z.2⟩)]
        rfl
    · rw [if_neg hm,rk,if_neg hm,List.nil_append]
      by_cases e:y=m
      · subst e; rw [if_neg (fun z=>hm z.2)]; rfl
      · rw [if_neg (fun z=>h1 ⟨by omega,z.2⟩)]; rfl
theorem ZgN {h:FH} {b m:Nat} {Q:Nat->Bool} (hg:HeapC.get h b=some (.map (Zcn Q m))) (y:Nat):Z54 P h 118 (.map (some b)) (av [((y / 4:Nat):Int),((y % 4:Nat):Int)]) false=some (.int .i64 (if y<m/\Q y=true then (rk Q y:Int) else 0)):=by
 have hf:=Z8n Q y m [] 0
 rw [List.append_nil] at hf
 have hp:plainL (.int .i64 0)=true:=rfl
 simp only [Z54,mT118,Option.bind_some,kO121,cond_true,zT3,hp,hg,hf]
 split
 · rfl
 · rfl
theorem Zim {h:FH} {b m:Nat} {Q:Nat->Bool} (hg:HeapC.get h b=some (.map (Zcn Q m))) (hq:Q m=true):Z14 P h 118 (.map (some b)) (av [((m / 4:Nat):Int),((m % 4:Nat):Int)]) (.int .i64 (rk Q m:Nat))=some (HeapC.set h b (.map (Zcn Q (m+1)))):=by
 have hf:=Z8n Q m m [] 0
 rw [List.append_nil,if_neg qO] at hf
 have hf':Z8U P 121 (av [((m / 4:Nat):Int),((m % 4:Nat):Int)]) (Zcn Q m) 0=some none:=hf
 simp only [Z14,mT118,Option.bind_some,kO121,plA,Bool.and_self,cond_true,hg,hf']
 rw [Zcn,if_pos hq]
structure LI (c0 c lb mb:Nat) (h:FH) (s v:Value) (Q:Nat->Bool) (x:Nat):Prop where
 hf:h.f lb=some (.cells false none [s,v,.map (some mb)])
 mp:h.f mb=some (.map (Zcn Q x))
 ls:GrS c0 h c v 2 (rk Q x) (crn Q x)
 ne:lb ≠ mb
 lo:lb<256*c0
 mo:mb<256*c0
theorem LI.mono {c0 c c' lb mb:Nat} {h:FH} {s v:Value} {Q:Nat->Bool} {x:Nat} (a:LI c0 c lb mb h s v Q x) (hc:c<=c'):LI c0 c' lb mb h s v Q x:=⟨a.hf,a.mp,a.ls.mono hc,a.ne,a.lo,a.mo⟩
theorem LI.skip {c0 c lb mb:Nat} {h:FH} {s v:Value} {Q:Nat->Bool} {x:Nat} (a:LI c0 c lb mb h s v Q x) (hq:Q x=false):LI c0 c lb mb h s v Q (x+1):=by
 have e1:rk Q (x+1)=rk Q x:=by rw [rk,hq]; rfl
 have e2:crn Q (x+1)=crn Q x:=by rw [crn,hq]; simp
 have e3:Zcn Q (x+1)=Zcn Q x:=by rw [Zcn,hq]; simp
 exact ⟨a.hf,by rw [e3]; exact a.mp,by rw [e1,e2]; exact a.ls,a.ne,a.lo,a.mo⟩
theorem LI.step {c0 c lb mb:Nat} {h:FH} {s v:Value} {Q:Nat->Bool} {x:Nat} (a:LI c0 c lb mb h s v Q x) (hq:Q x=true) (hx:x<=100000) (hc0:c0<=c) (c1 b1 i1:Nat) (hb1:256*c<=b1) (hi1:256*c<=i1) (hne1:b1 ≠ i1) (hi1':i1<256*c1) :
 ∃ h1 h2 H2,Z14 P h 118 (.map (some mb)) (av [((x / 4:Nat):Int),((x % 4:Nat):Int)]) (.int .i64 (rk Q x:Nat))=some h1/\ld1 h1 (.pointer (some ⟨lb,1,none⟩))=some v ∧
  Z5o (newB h1 b1 (ints [((x / 4:Nat):Int),((x % 4:Nat):Int)])) i1 2 16 v (.slice (some ⟨b1,0,none⟩) 1 1)=some (.slice (some ⟨i1,0,none⟩) (rk Q x+1) (rk Q x+1),h2) ∧
  stN h2 1 (.pointer (some ⟨lb,1,none⟩)) (.slice (some ⟨i1,0,none⟩) (rk Q x+1) (rk Q x+1))=some H2/\(∀ j,j<256*c0->j ≠ lb->j ≠ mb->H2.f j=h.f j) ∧
  LI c0 c1 lb mb H2 s (.slice (some ⟨i1,0,none⟩) (rk Q x+1) (rk Q x+1)) Q (x+1):=by
 obtain ⟨hf,mp,ls,ne,lo,mo⟩:=a
 have hxx:=Zbx Q x
 have u1:=Zim (show HeapC.get h mb=_ from mp) hq
 obtain ⟨h1,hh1⟩:∃ h1,HeapC.set h mb (.map (Zcn Q (x+1)))=h1:=⟨_,rfl⟩
 rw [hh1] at u1
 have f1:h1.f lb=some (.cells false none [s,v,.map (some mb)]):=by rw [← hh1,Z0o,if_neg ne]; exact hf
 have vmb:v ≠ .slice none 0 0->Z0w v ≠ mb:=fun hv=>by have:=(ls.blk hv).1; omega
 have ls1:GrS c0 h1 c v 2 (rk Q x) (crn Q x):=ls.keep fun hv=>by rw [← hh1,Z0o,if_neg (vmb hv)]
 obtain ⟨h2,e2,a2,k2⟩:=ls1.app (c':=c1) [((x / 4:Nat):Int),((x % 4:Nat):Int)] rfl qO 16 b1 i1 hb1 hi1 hne1 hc0 hi1' qO
 have va:∀ j,j<256*c0->v ≠ .slice none 0 0->j ≠ Z0w v:=fun j hj hv=>by have:=(ls.blk hv).1; omega
 have f2:h2.f lb=some (.cells false none [s,v,.map (some mb)]):=(k2 lb qO (va lb lo)).trans f1
 have s2:=Z3p (v:=.slice (some ⟨i1,0,none⟩) (rk Q x+1) (rk Q x+1)) (o:=1) (show HeapC.get h2 lb=_ from f2) (by simp) a2.flat.2 a2.flat.1
 obtain ⟨H2,hH2⟩:∃ H2,HeapC.set h2 lb (.cells false none [s,.slice (some ⟨i1,0,none⟩) (rk Q x+1) (rk Q x+1),.map (some mb)])=H2:=⟨_,rfl⟩
 have s2':stN h2 1 (.pointer (some ⟨lb,1,none⟩)) (.slice (some ⟨i1,0,none⟩) (rk Q x+1) (rk Q x+1))=some H2:=by rw [s2,← hH2]; rfl
 have K2:∀ j,j<256*c->j ≠ lb->(v ≠ .slice none 0 0->j ≠ Z0w v)->H2.f j=h1.f j:=fun j hj hl hv=>by rw [← hH2,Z0o,if_neg hl]; exact k2 j hj hv
 have er:rk Q (x+1)=rk Q x+1:=by rw [rk,if_pos hq]
 have ecr:crn Q (x+1)=crn Q x++[((x / 4:Nat):Int),((x % 4:Nat):Int)]:=by rw [crn,if_pos hq]
 refine ⟨h1,h2,H2,u1, ?_,e2,s2',fun j hj h3 h4=>?_,⟨by rw [← hH2,Z0o,if_pos rfl], ?_, ?_,ne,lo,mo⟩⟩
 · rw [Z05 (cs:=[s,v,.map (some mb)]) ⟨false,none,f1⟩]; rfl
 · rw [K2 j qO h3 (va j hj),← hh1,Z0o,if_neg h4]
 · rw [K2 mb qO (Ne.symm ne) (va mb mo),← hh1,Z0o,if_pos rfl]
 · rw [er,ecr]
   refine a2.keep fun _=>?_
   rw [blkOf_sl,← hH2,Z0o,if_neg qO]

def inC (Of:List Int) (v:Int) (x:Nat):Bool:=decide (Of.getD x 0=v)
theorem bldL2 (a b:Int):Z8N [.int .i64 0,.int .i64 0] [(0,2,av [a,b])]=some (ints [a,b]):=rfl
theorem link_i (tv s:Value) (n lb mb t c0 cm:Nat) (Of:List Int) (v:Int) (h0:FH) (df:List Nat) (hO:SlI h0 cm tv 1 (4*n) Of) (hlb:256*cm<=lb) (hmb:256*cm<=mb) (hcm:cm<=c0) (ht:t<n) (hn:n<=60) :
 ∀ (r i c:Nat) (H:FH) (w:Value),i+r=4->c0<=c->(∀ j,j<256*c0->j ≠ lb->j ≠ mb->H.f j=h0.f j)->LI c0 c lb mb H s w (inC Of v) (4*t+i) →
 Ans (G (Z9A none) [tv,.int .i64 v,ptrTo lb,.int .i64 t,.int .i64 n,.int .i64 t,.int .i64 i] H c df) fun q=>q.e = .exit 2/\q.vs=[tv,.int .i64 v,ptrTo lb,.int .i64 t,.int .i64 n,.int .i64 t,.int .i64 4]/\q.df=df/\c<=q.c/\(∀ j,j<256*c0->j ≠ lb->j ≠ mb->q.h.f j=h0.f j) /\ ∃ w,LI c0 q.c lb mb q.h s w (inC Of v) (4*t+4):=by
 intro r
 induction r with
 | zero =>
  intro i c H w hi hc hH a
  obtain rfl:i=4:=by omega
  refine Ans.lpN rfl rfl (Z4u ..) ?_
  unfold Z3X
  have fx:=True.intro
  refine Ans.go ?_
  clear fx
  exact Ans.exitN ⟨rfl,rfl,rfl,(by show c<=c+1; omega),hH,w,a.mono (by show c<=c+1; omega)⟩
 | succ r ih =>
  intro i c H w hi hc hH a
  have hi4:i<4:=by omega
  have sm:Z0q cm h0 H:=fun j hj=>hH j qO qO qO
  have hO':=hO.same sm
  have l1:=hO'.rd (4*t+i) qO
  have x1:=hO'.ixs1 .i64 (4*(t:Int)+i) qO qO
  rw [show (4*(t:Int)+i).toNat=4*t+i by omega] at x1
  have hq:inC Of v (4*t+i)=decide (Of.getD (4*t+i) 0=v):=rfl
  have l2:ld1 H (.pointer (some ⟨lb,2,none⟩))=some (.map (some mb)):=by rw [Z05 (cs:=[s,w,.map (some mb)]) ⟨false,none,a.hf⟩]; rfl
  have l3:ld1 H (.pointer (some ⟨lb,1,none⟩))=some w:=by rw [Z05 (cs:=[s,w,.map (some mb)]) ⟨false,none,a.hf⟩]; rfl
  have ll:=a.ls.sl.len
  obtain ⟨Z,hZ⟩:∃ Z,Of.getD (4*t+i) 0=Z:=⟨_,rfl⟩
  rw [hZ] at l1 hq
  have tn:t<60:=by omega
  have hrk:=Zbx (inC Of v) (4*t+i)
  refine Ans.lpN rfl rfl (Z4u ..) ?_
  unfold Z3X
  by_cases e:Z=v
  · rw [decide_eq_true e] at hq
    obtain ⟨h1,h2,H2,e1,e2,e3,e4,e5,e6⟩:=a.step hq qO hc (c+1+1+1+1+1) (256*(c+1+1+1+1)+8) (256*(c+1+1+1+1)+9) qO qO qO qO
    rw [show (4*t+i) / 4=t by omega,show (4*t+i) % 4=i by omega] at e1 e3
    have b1:=Zna t i
    have b2:=bldL2 t i
    have hk:=ih (i+1) (c+1+1+1+1+1+1) H2 _ qO qO (fun j hj h3 h4=>(e5 j hj h3 h4).trans (hH j hj h3 h4)) (e6.mono qO)
    obtain ⟨K,hK⟩:∃ K,rk (inC Of v) (4*t+i)=K:=⟨_,rfl⟩
    rw [hK] at ll e1 e3 e4 hrk
    have fx:=ai x1 (ai l1 (ai l2 (ai b1 (ai l3 (ai ll (ai e1 (ai e2 (ai b2 (ai e3 e4)))))))))
    refine Ans.go ?_
    clear fx
    refine Ans.nextN ?_
    refine hk.mono ?_
    rintro q ⟨q1,q2,q3,q4,q5⟩
    exact ⟨q1,q2,q3,by omega,q5⟩
  · rw [decide_eq_false e] at hq
    have hk:=ih (i+1) (c+1+1+1+1) H w qO qO hH ((a.skip hq).mono qO)
    have fx:=ai x1 l1
    refine Ans.go ?_
    clear fx
    refine Ans.nextN ?_
    refine hk.mono ?_
    rintro q ⟨q1,q2,q3,q4,q5⟩
    exact ⟨q1,q2,q3,by omega,q5⟩
theorem link_t (tv s:Value) (n lb mb c0 cm:Nat) (Of:List Int) (v:Int) (h0:FH) (df:List Nat) (hO:SlI h0 cm tv 1 (4*n) Of) (hlb:256*cm<=lb) (hmb:256*cm<=mb) (hcm:cm<=c0) (hn:n<=60) :
 ∀ (r t c:Nat) (H:FH) (w:Value),t+r=n->c0<=c->(∀ j,j<256*c0->j ≠ lb->j ≠ mb->H.f j=h0.f j)->LI c0 c lb mb H s w (inC Of v) (4*t) →
 Ans (G (Z9B none) [tv,.int .i64 v,ptrTo lb,.int .i64 n,.int .i64 t] H c df) fun q=>q.e = .exit 0/\q.vs=[tv,.int .i64 v,ptrTo lb,.int .i64 n,.int .i64 n]/\q.df=df/\c<=q.c/\(∀ j,j<256*c0->j ≠ lb->j ≠ mb->q.h.f j=h0.f j) /\ ∃ w,LI c0 q.c lb mb q.h s w (inC Of v) (4*n):=by
 intro r
 induction r with
 | zero =>
  intro t c H w ht hc hH a
  obtain rfl:t=n:=by omega
  refine Ans.lpN rfl rfl (Z4v ..) ?_
  unfold Z3Y
  have fx:=True.intro
  refine Ans.go ?_
  clear fx
  exact Ans.exitN ⟨rfl,rfl,rfl,(by show c<=c+1; omega),hH,w,a.mono (by show c<=c+1; omega)⟩
 | succ r ih =>
  intro t c H w ht hc hH a
  obtain ⟨⟨re,rv,K,k,rd⟩,hr,r1,r2,r3,r4,r5,w',r6⟩:=link_i tv s n lb mb t c0 cm Of v h0 df hO hlb hmb hcm qO hn 4 0 (c+1+1+1) H w qO qO hH (a.mono qO)
  simp only at r1 r2 r3 r4 r5 r6
  subst r1 r2 r3
  simp only [Int.ofNat_eq_natCast,Int.cast_ofNat_Int] at hr
  have hk:=ih (t+1) (k+1) K w' qO qO r5 (r6.mono qO)
  have tn:n<=60:=hn
  refine Ans.lpN rfl rfl (Z4v ..) ?_
  unfold Z3Y
  have fx:=hr
  refine Ans.go ?_
  clear fx
  refine Ans.nextN ?_
  refine hk.mono ?_
  rintro q ⟨q1,q2,q3,q4,q5⟩
  exact ⟨q1,q2,q3,by omega,q5⟩
theorem Zm1 (cb:Nat) (cs:List Value) (tv s:Value) (n:Nat) (Gl Of:List Int) (v:Int) (h:FH) (c:Nat) (df:List Nat) (hc:Z0d h cb (s::cs)) (lc:cb<256*c) (hs:SlI h c s 20 n Gl) (hO:SlI h c tv 1 (4*n) Of) (hn:n<=60) :
 Ans (G (.fn 60) [ptrTo cb,tv,.int .i64 v] h c df) fun r=>∃ lb mb w,r=⟨.ret,[ptrTo lb],r.h,r.c,[]⟩/\c+1+1<=r.c/\Z0q c h r.h/\LI (c+1+1) r.c lb mb r.h s w (inC Of v) (4*n)/\256*c<=lb/\256*c<=mb:=by
 refine Ans.call' (fun r e=>f60_go e) ?_
 unfold Zhh
 have l0:=Z0O hc
 obtain ⟨mb,hmb⟩:∃ b,256*(c+1)+4=b:=⟨_,rfl⟩
 obtain ⟨lb,hlb⟩:∃ b,256*(c+1)+6=b:=⟨_,rfl⟩
 have u5:Z1d [.slice none 0 0,.slice none 0 0,.map none] [(0,1,.agg #[s]),(1,1,.slice none 0 0),(2,1,.map (some mb))]=some (.agg #[s,.slice none 0 0,.map (some mb)]):=rfl
 have u7:(Value.agg #[s,.slice none 0 0,.map (some mb)]).cells.toList=[s,.slice none 0 0,.map (some mb)]:=rfl
 have u6:((Value.agg #[s,.slice none 0 0,.map (some mb)]).cells.toList.all Z06)=true:=by
  rw [u7]
  simp only [List.all_cons,List.all_nil,hs.flat,Bool.true_and,Bool.and_true]
  rfl
 obtain ⟨M,hM⟩:∃ M,newB (HeapC.set h mb (.map [])) lb [s,.slice none 0 0,.map (some mb)]=M:=⟨_,rfl⟩
 have tM:∀ j,j ≠ lb->j ≠ mb->M.f j=h.f j:=fun j h1 h2=>by rw [← hM,Z01,if_neg h1,Z0o,if_neg h2]
 have sM:Z0q c h M:=fun j hj=>tM j qO qO
 have lM:ld1 M (.pointer (some ⟨cb,0,none⟩))=some s:=by rw [Z05 (hc.same lc sM)]; rfl
 have ln:=hs.len
 have a:LI (c+1+1) (c+1+1) lb mb M s (.slice none 0 0) (inC Of v) 0:=⟨by rw [← hM,Z01,if_pos rfl],by rw [← hM,Z01,if_neg qO,Z0o,if_pos rfl]; rfl,.inl ⟨rfl,rfl,rfl⟩,by omega,by omega,by omega⟩
 obtain ⟨⟨re,rv,K,k,rd⟩,hr,r1,r2,r3,r4,r5,w,r6⟩:=link_t tv s n lb mb (c+1+1) c Of v M [] (hO.same sM) qO qO qO hn n 0 (c+1+1+1) M (.slice none 0 0) qO qO (fun _ _ _ _=>rfl) (a.mono qO)
 simp only at r1 r2 r3 r4 r5 r6
 subst r1 r2 r3
 simp only [Int.ofNat_eq_natCast,Int.cast_ofNat_Int] at hr
 have fx:=ai l0 (ai hmb (ai hlb u5))
 refine Ans.go ?_
 clear fx
 rw [u6,u7,hmb,hlb,hM]
 simp only [cond_true]
 have fx:=ai lM (ai ln hr)
 refine Ans.go ?_
 clear fx
 refine .done ⟨lb,mb,w,rfl,(by show c+1+1<=k+1; omega),fun j hj=>?_,r6.mono (by show k<=k+1; omega),by omega,by omega⟩
 show K.f j=h.f j
 rw [r5 j qO qO qO]
 exact sM j hj

def nxV (Gl:List Int) (Q:Nat->Bool) (t i f:Nat):Int:=if f=i ∨ Z0Q (Z03 Gl t f)<0 then -1 else if Q (fV Gl t f i)=true then (rk Q (fV Gl t f i):Int) else 0
def nxP (g:Nat->Int) (f:Nat):List Int:=[if 0<f then g 0 else -1,if 1<f then g 1 else -1,if 2<f then g 2 else -1,if 3<f then g 3 else -1]
theorem ZlM (g:Nat->Int) {f:Nat} (hf:f<4):(nxP g f).set f (g f)=nxP g (f+1):=by
 have:f=0 ∨ f=1 ∨ f=2 ∨ f=3:=by omega
 rcases this with rfl | rfl | rfl | rfl <;> simp [nxP]
theorem Zic (g:Nat->Int) {f:Nat} (hf:f<4) (h:g f = -1):nxP g f=nxP g (f+1):=by
 have:f=0 ∨ f=1 ∨ f=2 ∨ f=3:=by omega
 rcases this with rfl | rfl | rfl | rfl <;> simp [nxP,h]
def nxL (Gl:List Int) (Q:Nat->Bool) (t i:Nat):List Int:=nxP (nxV Gl Q t i) 4
structure LR (h:FH) (c lb mb:Nat) (s:Value) (n:Nat) (Gl:List Int) (Q:Nat->Bool):Prop where
 st:∃ w,Z0d h lb [s,w,.map (some mb)]/\SlI h c w 2 (rk Q (4*n)) (crn Q (4*n))
 mp:h.f mb=some (.map (Zcn Q (4*n)))
 sl:SlI h c s 20 n Gl
 lb:lb<256*c
 mb:mb<256*c
 ok:Z0A Gl n=true
 le:n<=60
theorem LR.same {h h':FH} {c c' lb mb:Nat} {s:Value} {n:Nat} {Gl:List Int} {Q:Nat->Bool} (a:LR h c lb mb s n Gl Q) (hs:Z0q c h h') (hc:c<=c'):LR h' c' lb mb s n Gl Q:=by
 obtain ⟨w,g,q⟩:=a.st
 have h1:=a.lb
 have h2:=a.mb
 exact ⟨⟨w,g.same h1 hs,(q.same hs).mono hc⟩,(hs mb h2).trans a.mp,(a.sl.same hs).mono hc,by omega,by omega,a.ok,a.le⟩
theorem ZgK (lb mb kb x4b ob t i c:Nat) (s:Value) (n:Nat) (Gl:List Int) (Q:Nat->Bool) (cm:Nat) (h0:FH) (df:List Nat) (a:LR h0 cm lb mb s n Gl Q) (hcm:cm<=c) (ht:t<n) (hi:i<4) (gk:Z0d h0 kb [.int .i64 t,.int .i64 i]) (ok:kb ≠ ob) (om:256*cm<=ob) (lk:kb<256*c) (l4:x4b<256*c) (lo:ob<256*c) :
 ∀ (r f:Nat),f+r=4->Ans (G (Z9z none) [ptrTo lb,ptrTo kb,ptrTo x4b,ptrTo ob,av (Z2p Gl t),.int .i64 f] (newB h0 ob (ints (nxP (nxV Gl Q t i) f))) c df) fun q=>q=⟨.exit 0,[ptrTo lb,ptrTo kb,ptrTo x4b,ptrTo ob,av (Z2p Gl t),.int .i64 4],newB h0 ob (ints (nxL Gl Q t i)),c,df⟩:=by
 intro r
 have hG:Gl.length=n*20:=a.sl.1
 have hrl:=Z1z hG ht
 have hlb:=a.lb
 have hmb:=a.mb
 have ll:lb<256*c:=by omega
 have orow:OkV c (av (Z2p Gl t)):=OkV.av _ _
 induction r with
 | zero =>
  intro f hf
  obtain rfl:f=4:=by omega
  refine Ans.lpG rfl rfl (Z2s ..) ?_
  unfold Z2U
  have fx:=True.intro
  refine Ans.go ?_
  clear fx
  (have fx:=ai ll (ai lk (ai l4 (ai lo orow))); refine Ans.ex0 ?_; clear fx)
  rfl
 | succ r ih =>
  intro f hf
  have hf4:f<4:=by omega
  have hk:=ih (f+1) qO
  have x1:=Z6D (Z2p Gl t) 4 5 .i64 (f:Int) qO qO hrl
  rw [Int.toNat_natCast,Z5V hf4] at x1
  have hfl:=Z0h hG ht hf4
  have f4:(f:Int)<4:=by omega
  obtain ⟨xb,hxb⟩:∃ b,256*(c+1)+2=b:=⟨_,rfl⟩
  obtain ⟨S,hS⟩:∃ S,newB h0 ob (ints (nxP (nxV Gl Q t i) f))=S:=⟨_,rfl⟩
  have hst:stN (newB S xb [.int .i64 0,.int .i64 0,.int .i64 0,.int .i64 0,.int .i64 0]) 5 (.pointer (some ⟨xb,0,none⟩)) (av (Z03 Gl t f))=some (newB S xb (ints (Z03 Gl t f))):=stN_all _ _ 5 _ _ hfl rfl
  have b0:ld1 (newB S xb (ints (Z03 Gl t f))) (.pointer (some ⟨xb,0,none⟩))=some (.int .i64 (Z0Q (Z03 Gl t f))):=by rw [ld1_newB_same,ints_getD _ _ qO]; rfl
  have gk1:Z0d (newB S xb (ints (Z03 Gl t f))) kb [.int .i64 t,.int .i64 i]:=by rw [← hS]; exact (gk.newB_ne ok).newB_ne qO
  have b1:ld1 (newB S xb (ints (Z03 Gl t f))) (.pointer (some ⟨kb,1,none⟩))=some (.int .i64 i):=by rw [Z05 gk1]; rfl
  have sB:Z0q c S (newB S xb (ints (Z03 Gl t f))):=fun j hj=>by rw [Z01,if_neg qO]
  obtain ⟨S1,hS1⟩:∃ S1,newB S xb (ints (Z03 Gl t f))=S1:=⟨_,rfl⟩
  rw [hS1] at hst b0 gk1 b1 sB
  by_cases h0':f=i ∨ Z0Q (Z03 Gl t f)<0
  · have hv:nxV Gl Q t i f = -1:=if_pos h0'
    rw [← Zic _ hf4 hv,hS] at hk
    rw [hS]
    refine Ans.lpG rfl rfl (Z2s ..) ?_
    unfold Z2U
    obtain ⟨F,hF⟩:∃ F,Z03 Gl t f=F:=⟨_,rfl⟩
    rw [hF] at hst b0 x1 h0' hS1
    by_cases h1:f=i
    · subst h1
      have fx:=ai x1 (ai hxb (ai hst b1))
      refine Ans.go ?_
      clear fx
      (have fx:=ai ll (ai lk (ai l4 (ai lo (ai orow sB)))); refine Ans.nx0 ?_; clear fx)
      exact hk
    · have h1':¬ (f:Int)=i:=by omega
      have h2:=h0'.resolve_left h1
      have fx:=ai x1 (ai hxb (ai hst (ai b0 (ai b1 (ai h1' h2)))))
      refine Ans.go ?_
      clear fx
      (have fx:=ai ll (ai lk (ai l4 (ai lo (ai orow sB)))); refine Ans.nx0 ?_; clear fx)
      exact hk
  · have hfi:f ≠ i:=fun z=>h0' (.inl z)
    have hg:¬ Z0Q (Z03 Gl t f)<0:=fun z=>h0' (.inr z)
    have g:=FGl.of a.ok hG ht hf4 hi (Ne.symm hfi) hg
    have hu:=g.u
    have hj:=g.j
    have hfv:fV Gl t f i=4*fU Gl t f+fJ Gl t f i:=rfl
    have hv:nxV Gl Q t i f=if Q (fV Gl t f i)=true then (rk Q (fV Gl t f i):Int) else 0:=if_neg h0'
    have b2:ld1 S1 (.pointer (some ⟨xb,1+i,none⟩))=some (.int .i64 (fJ Gl t f i:Nat)):=by
     have e:(Z03 Gl t f).getD (1+i) 0=(fJ Gl t f i:Nat):=by rw [← g.jz,Z0j,Z4W _ _ _ qO,Z3S]
     rw [← hS1,ld1_newB_same,ints_getD _ _ qO,e]
    rw [g.uz] at b0
    have b3:ld1 S1 (.pointer (some ⟨lb,2,none⟩))=some (.map (some mb)):=by
     obtain ⟨w,q,_⟩:=a.st
     have q':Z0d S1 lb [s,w,.map (some mb)]:=by rw [← hS1,← hS]; exact (q.newB_ne qO).newB_ne qO
     rw [Z05 q']; rfl
    have gm:HeapC.get S1 mb=some (.map (Zcn Q (4*n))):=by
     show S1.f mb=_
     rw [← hS1,Z01,if_neg qO,← hS,Z01,if_neg qO]
     exact a.mp
    have lk':=ZgN gm (fV Gl t f i)
    rw [hfv,show (4*fU Gl t f+fJ Gl t f i) / 4=fU Gl t f by omega,show (4*fU Gl t f+fJ Gl t f i) % 4=fJ Gl t f i by omega,← hfv] at lk'
    have e1:(if fV Gl t f i<4*n/\Q (fV Gl t f i)=true then (rk Q (fV Gl t f i):Int) else 0)=nxV Gl Q t i f:=by
     rw [hv]
     by_cases z:Q (fV Gl t f i)=true
     · rw [if_pos ⟨by omega,z⟩,if_pos z]
     · rw [if_neg (fun q=>z q.2),if_neg z]
    rw [e1] at lk'
    have hw:stN S1 1 (.pointer (some ⟨ob,f,none⟩)) (.int .i64 (nxV Gl Q t i f))=some (HeapC.set S1 ob (.cells false none (ints (nxP (nxV Gl Q t i) (f+1))))):=by
     have fo:HeapC.get S1 ob=some (.cells false none (ints (nxP (nxV Gl Q t i) f))):=by
      show S1.f ob=_
      rw [← hS1,Z01,if_neg qO,← hS,Z01,if_pos rfl]
     rw [Z3p fo (by simp [nxP]; omega) rfl rfl,Z4n,ZlM _ hf4]
    have bp:=Zna (fU Gl t f:Nat) (fJ Gl t f i:Nat)
    obtain ⟨S2,hS2⟩:∃ S,newB h0 ob (ints (nxP (nxV Gl Q t i) (f+1)))=S:=⟨_,rfl⟩
    rw [hS2] at hk
    have up:Z2n c S S2:=by rw [← hS,← hS2]; exact Z2n.both (Z1l.ints _ _) (Z2n.refl _ _) lo
    have sB2:Z0q c S2 (HeapC.set S1 ob (.cells false none (ints (nxP (nxV Gl Q t i) (f+1))))):=fun j hj=>by
     rw [Z0o,← hS2,Z01,← hS1,Z01,if_neg (show ¬ j=xb by omega),← hS,Z01]
     split <;> rfl
    obtain ⟨S3,hS3⟩:∃ S,HeapC.set S1 ob (.cells false none (ints (nxP (nxV Gl Q t i) (f+1))))=S:=⟨_,rfl⟩
    rw [hS3] at hw sB2
    obtain ⟨Z,hZ⟩:∃ Z,nxV Gl Q t i f=Z:=⟨_,rfl⟩
    rw [hZ] at lk' hw
    obtain ⟨u,hu'⟩:∃ u,fU Gl t f=u:=⟨_,rfl⟩
    obtain ⟨p,hp'⟩:∃ u,fJ Gl t f i=u:=⟨_,rfl⟩
    rw [hu'] at b0 bp lk' hu
    rw [hp'] at b2 bp lk' hj
    obtain ⟨F,hF⟩:∃ F,Z03 Gl t f=F:=⟨_,rfl⟩
    rw [hF] at hst x1 hS1
    have h1':¬ (f:Int)=i:=by omega
    rw [hS]
    refine Ans.lpG rfl rfl (Z2s ..) ?_
    unfold Z2U
    have fx:=ai x1 (ai hxb (ai hst (ai b0 (ai b1 (ai b2 (ai b3 (ai h1' (ai bp (ai lk' hw)))))))))
    refine Ans.go ?_
    clear fx
    (have fx:=ai ll (ai lk (ai l4 (ai lo (ai orow sB2)))); refine Ans.nxB (B:=S2) ?_ ?_; exact (up); clear fx)
    exact hk
theorem ZlO (lb mb t i:Nat) (s:Value) (n:Nat) (Gl:List Int) (Q:Nat->Bool) (h:FH) (c:Nat) (df:List Nat) (a:LR h c lb mb s n Gl Q) (ht:t<n) (hi:i<4) :
 G (.fn 61) [ptrTo lb,av [(t:Int),(i:Int)]] h c df=some ⟨.ret,[av (nxL Gl Q t i)],h,c,[]⟩:=by
 refine Z3E (fun r e=>f61_go e) (by simp) ?_
 have u7:(av [(t:Int),(i:Int)]).cells.toList=[.int .i64 t,.int .i64 i]:=rfl
 have u6:((av [(t:Int),(i:Int)]).cells.toList.all Z06)=true:=rfl
 unfold Zhg
 rw [u6,u7]
 simp only [cond_true,Nat.add_zero]
 have b4:Z1d [.int .i64 0,.int .i64 0,.int .i64 0,.int .i64 0] [(0,1,.int .i64 (-1)),(1,1,.int .i64 (-1)),(2,1,.int .i64 (-1)),(3,1,.int .i64 (-1))]=some (av [-1,-1,-1,-1]):=rfl
 obtain ⟨ob,hob⟩:∃ b,256*(c+1)+1=b:=⟨_,rfl⟩
 obtain ⟨h0,hh0⟩:∃ h0,newB (newB h (256*c) [.int .i64 t,.int .i64 i]) (256*c+1) [.int .i64 0,.int .i64 0,.int .i64 0,.int .i64 0]=h0:=⟨_,rfl⟩
 have s0:Z0q c h h0:=fun j hj=>by rw [← hh0,Z01,if_neg qO,Z01,if_neg qO]
 have gk:Z0d h0 (256*c) [.int .i64 t,.int .i64 i]:=by rw [← hh0]; exact (Z0d.newB_same _ _ _).newB_ne qO
 have a0:=a.same s0 (Nat.le_refl c)
 have st:stN (newB h0 ob [.int .i64 0,.int .i64 0,.int .i64 0,.int .i64 0]) 4 (.pointer (some ⟨ob,0,none⟩)) (av [-1,-1,-1,-1])=some (newB h0 ob (ints (nxP (nxV Gl Q t i) 0))):=stN_all _ _ 4 _ _ rfl rfl
 obtain ⟨S,hS⟩:∃ S,newB h0 ob (ints (nxP (nxV Gl Q t i) 0))=S:=⟨_,rfl⟩
 have sS:Z0q c h S:=fun j hj=>by rw [← hS,Z01,if_neg qO]; exact s0 j hj
 have aS:=a.same sS (Nat.le_refl c)
 have lS:ld1 S (.pointer (some ⟨lb,0,none⟩))=some s:=by
  obtain ⟨w,q,_⟩:=aS.st
  rw [Z05 q]; rfl
 have kS:ld1 S (.pointer (some ⟨256*c,0,none⟩))=some (.int .i64 t):=by
  have:Z0d S (256*c) [.int .i64 t,.int .i64 i]:=by rw [← hS]; exact gk.newB_ne qO
  rw [Z05 this]; rfl
 have ix:=aS.sl.ixs .i64 t qO qO
 rw [Int.toNat_natCast] at ix
 have l1:ldN S 20 (.pointer (some ⟨Z0w s,Z4T s+t*20,none⟩))=some (av (Z2p Gl t)):=by
  rw [aS.sl.rdN 20 _ qO qO,Z2p,Nat.mul_comm t 20]
 have hl:=Ans.eq (ZgK lb mb (256*c) (256*c+1) ob t i (c+1+1+1) s n Gl Q c h0 [] a0 qO ht hi gk qO qO qO qO qO 4 0 qO)
 rw [hS] at hl
 simp only [Int.ofNat_eq_natCast,Int.cast_ofNat_Int] at hl
 obtain ⟨K,hK⟩:∃ K,newB h0 ob (ints (nxL Gl Q t i))=K:=⟨_,rfl⟩
 rw [hK] at hl
 have tK:ldN K 4 (.pointer (some ⟨ob,0,none⟩))=some (av (nxL Gl Q t i)):=by
  rw [← hK,ldN_newB_same _ _ _ _ _ (by simp [nxL,nxP])]; rfl
 have f1:K.f (256*c+1)=some (.cells false none [.int .i64 0,.int .i64 0,.int .i64 0,.int .i64 0]):=by
  rw [← hK,Z01,if_neg qO,← hh0,Z01,if_pos rfl]
 have eK:newB K (256*c+1) [.int .i64 0,.int .i64 0,.int .i64 0,.int .i64 0]=K:=by
  apply FH.ext; intro j
  rw [Z01]
  split
  · rename_i e; rw [e,f1]
  · rfl
 have tW:stN K 4 (.pointer (some ⟨256*c+1,0,none⟩)) (av (nxL Gl Q t i))=some (newB K (256*c+1) (ints (nxL Gl Q t i))):=by
  have:=stN_all K (256*c+1) 4 [.int .i64 0,.int .i64 0,.int .i64 0,.int .i64 0] (nxL Gl Q t i) (by simp [nxL,nxP]) rfl
  rwa [eK] at this
 have tL:ldN (newB K (256*c+1) (ints (nxL Gl Q t i))) 4 (.pointer (some ⟨256*c+1,0,none⟩))=some (av (nxL Gl Q t i)):=by
  rw [ldN_newB_same _ _ _ _ _ (by simp [nxL,nxP])]; rfl
 have sE:Z0q c h (newB K (256*c+1) (ints (nxL Gl Q t i))):=fun j hj=>by
  rw [Z01,if_neg qO,← hK,Z01,if_neg qO]
  exact s0 j hj
 repeat' (first | ((with_reducible first | refine Ans.bz ?_ | refine Ans.r1 ?_ | refine Ans.pkT ?_ | refine Ans.pkF ?_); try dsimp only [v_zero,v_succ]) | (with_reducible first | refine Ans.btL ?_ | refine Ans.bfL ?_ | refine Ans.gyT ?_ | refine Ans.gyF ?_ | refine Ans.gyG ?_ | refine Ans.bb ?_ | refine Ans.bc ?_ | refine Ans.ba ?_) | ((with_reducible first | refine Ans.lsT ?_ ?_ | refine Ans.leT ?_ ?_ | refine Ans.grT ?_ ?_ | refine Ans.geT ?_ ?_ | refine Ans.eqT ?_ ?_ | refine Ans.neT ?_ ?_); (focus omega)) | ((with_reducible first | refine Ans.lsF ?_ ?_ | refine Ans.leF ?_ ?_ | refine Ans.grF ?_ ?_ | refine Ans.geF ?_ ?_ | refine Ans.eqF ?_ ?_ | refine Ans.neF ?_ ?_); (focus omega)) | (with_reducible first | refine Ans.lsS (fun _=>?_) (fun _=>?_) | refine Ans.leS (fun _=>?_) (fun _=>?_) | refine Ans.grS (fun _=>?_) (fun _=>?_) | refine Ans.geS (fun _=>?_) (fun _=>?_) | refine Ans.eqS (fun _=>?_) (fun _=>?_) | refine Ans.neS (fun _=>?_) (fun _=>?_)) | ((with_reducible first | refine Ans.addN ?_ ?_ | refine Ans.add ?_ ?_ | refine Ans.sub ?_ ?_ | refine Ans.mul ?_ ?_); (focus omega)) | ((with_reducible first | refine Ans.ct ?_ ?_); (focus (simp (disch:=(first | omega | with_reducible assumption | (simp <;> omega) | fail)) [b4,hob,hh0,st,hS,lS,kS,ix,l1,hl,tK,tW,tL,-ldN_newB_same]; done))) | ((with_reducible first | refine Ans.cf ?_ ?_); (focus (simp (disch:=(first | omega | with_reducible assumption | (simp <;> omega) | fail)) [b4,hob,hh0,st,hS,lS,kS,ix,l1,hl,tK,tW,tL,-ldN_newB_same]; done))) | (refine Ans.step (by simp (disch:=(first | omega | with_reducible assumption | (simp <;> omega) | fail)) [b4,hob,hh0,st,hS,lS,kS,ix,l1,hl,tK,tW,tL,-ldN_newB_same,-List.getD_eq_getElem?_getD] <;> rfl) ?_; try dsimp only [v_zero,v_succ]) | fail)
 exact Ans.pure rfl sE

def sgI (p:List Int) (j:Nat):Nat->Nat->Int->Int
 | 0,_,s=>s
 | r+1,i,s=>sgI p j r (i+1) (if p.getD j 0<p.getD i 0 then -s else s)
def sgO (p:List Int):Nat->Nat->Int->Int
 | 0,_,s=>s
 | r+1,j,s=>sgO p r (j+1) (sgI p j j 0 s)
def sgP (p:List Int):Int:=sgO p 4 0 1

def zc:List Int->Nat
 | []=>0
 | x::l=>(if x=0 then 1 else 0)+zc l
theorem Zl1:∀ {l:List Int} {k:Nat} {w:Int},k<l.length->l.getD k 0=0->w ≠ 0->zc (l.set k w)+1=zc l
 | [],k,w,h,_,_=>by simp at h
 | x::l,0,w,_,h2,h3=>by
  have hx:x=0:=h2
  rw [List.set_cons_zero,zc,zc,if_neg h3,if_pos hx]; omega
 | x::l,k+1,w,h1,h2,h3=>by
  have:=Zl1 (l:=l) (k:=k) (w:=w) (by simpa using h1) h2 h3
  rw [List.set_cons_succ,zc,zc]; omega
def oSt (Gl:List Int) (Q:Nat->Bool) (t i a f:Nat) (S q:List Int):Option (List Int × List Int) :=
 if nxV Gl Q t i f<0 then some (S,q)
 else if S.getD (nxV Gl Q t i f).toNat 0=0 then some (S.set (nxV Gl Q t i f).toNat (-S.getD a 0*sgP (Z0j (Z03 Gl t f))),q++[nxV Gl Q t i f])
 else if S.getD (nxV Gl Q t i f).toNat 0 ≠ -S.getD a 0*sgP (Z0j (Z03 Gl t f)) then none else some (S,q)
def oFs (Gl:List Int) (Q:Nat->Bool) (t i a:Nat):Nat->Nat->List Int->List Int->Option (List Int × List Int)
 | 0,_,S,q=>some (S,q)
 | r+1,f,S,q=>(oSt Gl Q t i a f S q).bind fun z=>oFs Gl Q t i a r (f+1) z.1 z.2
structure OV (K:Nat) (S q:List Int):Prop where
 xl:S.length=K
 v:∀ j,S.getD j 0=0 ∨ S.getD j 0=1 ∨ S.getD j 0 = -1
 qs:∀ x,x ∈ q->0<=x/\x<K/\S.getD x.toNat 0 ≠ 0
theorem OV.push {K:Nat} {S q:List Int} (o:OV K S q) {k:Nat} {w:Int} (hk:k<K) (h0:S.getD k 0=0) (hw:w=1 ∨ w = -1):OV K (S.set k w) (q++[(k:Int)])/\zc (S.set k w)+(q++[(k:Int)]).length=zc S+q.length /\ ∀ a,S.getD a 0 ≠ 0->(S.set k w).getD a 0=S.getD a 0:=by
 have hl:=o.xl
 have keep:∀ a,S.getD a 0 ≠ 0->(S.set k w).getD a 0=S.getD a 0:=fun a ha=>by
  rw [Z17,if_neg (fun z=>ha (by rw [← z.1]; exact h0))]
 refine ⟨⟨by rw [List.length_set,hl],fun j=>?_,fun x hx=>?_⟩, ?_,keep⟩
 · rw [Z17]
   split
   · exact .inr hw
   · exact o.v j
 · rcases List.mem_append.1 hx with h | h
   · obtain ⟨a,b,d⟩:=o.qs x h
     exact ⟨a,b,by rw [keep _ d]; exact d⟩
   · rw [List.mem_singleton.1 h,Int.toNat_natCast,Z17,if_pos ⟨rfl,by omega⟩]
     exact ⟨by omega,by omega,by omega⟩
 · have:=Zl1 (l:=S) (k:=k) (w:=w) qO h0 qO
   rw [List.length_append]
   simp only [List.length_cons,List.length_nil]
   omega
structure OI (c0 c sb cm:Nat) (h0 h:FH) (qv:Value) (S q:List Int):Prop where
 fs:h.f sb=some (.cells false none (ints S))
 ag:ZbZ c0 h c qv q.length (ints q)
 sm:Z0q cm h0 h
 s1:256*cm<=sb
 s2:sb<256*c0
 s3:cm<=c0
theorem OI.mono {c0 c c' sb cm:Nat} {h0 h:FH} {qv:Value} {S q:List Int} (a:OI c0 c sb cm h0 h qv S q) (hc:c<=c'):OI c0 c' sb cm h0 h qv S q:=⟨a.fs,a.ag.mono hc,a.sm,a.s1,a.s2,a.s3⟩

theorem Zc6 (Q:Nat->Bool):∀ {m a:Nat},a<rk Q m -> ∃ x,x<m/\Q x=true/\rk Q x=a
 | 0,a,h=>by rw [rk] at h; omega
 | m+1,a,h=>by
  rw [rk] at h
  by_cases e:a<rk Q m
  · obtain ⟨x,h1,h2,h3⟩:=Zc6 Q e
    exact ⟨x,by omega,h2,h3⟩
  · by_cases hq:Q m=true
    · rw [if_pos hq] at h
      exact ⟨m,by omega,hq,by omega⟩
    · rw [if_neg hq] at h; omega
def oT (C:List Int) (a:Nat):Nat:=(C.getD (a*2) 0).toNat
def oC (C:List Int) (a:Nat):Nat:=(C.getD (a*2+1) 0).toNat
theorem oT_at {Q:Nat->Bool} {x m:Nat} (hq:Q x=true) (hx:x<m):oT (crn Q m) (rk Q x)=x / 4/\oC (crn Q m) (rk Q x)=x % 4:=by
 have h:=Zhy Q hq hx
 have e0:(((crn Q m).drop (rk Q x*2)).take 2).getD 0 0=((x / 4:Nat):Int):=by rw [h]; rfl
 have e1:(((crn Q m).drop (rk Q x*2)).take 2).getD 1 0=((x % 4:Nat):Int):=by rw [h]; rfl
 rw [Z4W _ _ _ qO,Z3S] at e0 e1
 rw [Nat.add_zero] at e0
 unfold oT oC
 rw [e0,e1,Int.toNat_natCast,Int.toNat_natCast]
 exact ⟨rfl,rfl⟩
def oQ (Gl:List Int) (Q:Nat->Bool) (C:List Int):Nat->Nat->List Int->List Int->Option (List Int × List Int)
 | 0,_,S,q=>some (S,q)
 | r+1,k,S,q=>if k<q.length then (oFs Gl Q (oT C (q.getD k 0).toNat) (oC C (q.getD k 0).toNat) (q.getD k 0).toNat 4 0 S q).bind fun z=>oQ Gl Q C r (k+1) z.1 z.2 else some (S,q)

def oR (Gl:List Int) (Q:Nat->Bool) (C:List Int):Nat->Nat->List Int->Option (List Int)
 | 0,_,S=>some S
 | r+1,f,S=>if S.getD f 0 ≠ 0 then oR Gl Q C r (f+1) S else (oQ Gl Q C 1000 0 (S.set f 1) [(f:Int)]).bind fun z=>oR Gl Q C r (f+1) z.1
def orB (n:Nat) (Gl:List Int) (Q:Nat->Bool):Bool:=(oR Gl Q (crn Q (4*n)) (rk Q (4*n)) 0 (List.replicate (rk Q (4*n)) 0)).isSome

def insD (L:List Int) (x:Int):List Int:=if x ∈ L then L else L++[x]
def dSt (Gl D:List Int) (t i j:Nat) (z:List Int × Nat × Nat):List Int × Nat × Nat :=
 if j=i then z else (insD z.1 (D.getD (16*t+4*i+j) 0),if Z0Q (Z03 Gl t j)<0 then (z.2.1+1,z.2.2) else (z.2.1,z.2.2+1))
def dFs (Gl D:List Int) (t i:Nat):Nat->Nat->List Int × Nat × Nat->List Int × Nat × Nat
 | 0,_,z=>z
 | r+1,j,z=>dFs Gl D t i r (j+1) (dSt Gl D t i j z)

def dAll (Gl D C:List Int):Nat->Nat->List Int × Nat × Nat->List Int × Nat × Nat
 | 0,_,z=>z
 | r+1,a,z=>dAll Gl D C r (a+1) (dFs Gl D (oT C a) (oC C a) 4 0 z)
theorem ZlK (x d:Nat) (hd:0<d) (hx:x<1000000000):Z00 P .quo 3 (.int .i64 (x:Int)) (.int .i64 (d:Int))=some (.int .i64 (x / d:Nat)):=by
 have h1:((x:Int).tdiv (d:Int))=((x / d:Nat):Int):=by rw [Int.tdiv_eq_ediv_of_nonneg qO]; rfl
 have h2:x / d<=x:=Nat.div_le_self _ _
 obtain ⟨y,hy⟩:∃ y,x / d=y:=⟨_,rfl⟩
 rw [hy] at h1 h2 ⊢
 rw [aBinOp_quo _ _ _ qO (by rw [h1]; omega) (by rw [h1]; omega),h1]
def dRes (K:Nat) (o:Bool) (z:List Int × Nat × Nat):List Value:=[.int .i64 K,.int .i64 (z.2.1+z.2.2 / 2:Nat),.int .i64 z.1.length,.int .i64 ((z.1.length:Int)-(z.2.1+z.2.2 / 2:Nat)+K),.bool (decide (z.2.1=0)),.bool o]
def dZ (n:Nat) (Gl D:List Int) (Q:Nat->Bool):List Int × Nat × Nat:=dAll Gl D (crn Q (4*n)) (rk Q (4*n)) 0 ([],0,0)
end Go.Proofs.Ytdodippbpdechaa

namespace Go.Ab
open Go
def GrC (c0:Nat) (h:FH) (c:Nat) (v:Value) (sz n:Nat) (L:List Value):Prop :=
 (v = .slice none 0 0/\n=0/\L=[]) ∨ (0<n/\L.length=n*sz/\n<=9223372036854775807/\L.all Z06=true /\ ∃ i,v = .slice (some ⟨i,0,none⟩) n n/\256*c0<=i/\i<256*c/\h.f i=some (.cells false (some sz) L))
theorem GrC.mono {c0:Nat} {h:FH} {c c':Nat} {v:Value} {sz n:Nat} {L:List Value} (hc:c<=c') (ha:GrC c0 h c v sz n L):GrC c0 h c' v sz n L:=by
 rcases ha with ha | ⟨a,b,d,x,i,e,f,g,k⟩
 · exact .inl ha
 · exact .inr ⟨a,b,d,x,i,e,f,by omega,k⟩
theorem GrC.keep {c0:Nat} {h h':FH} {c:Nat} {v:Value} {sz n:Nat} {L:List Value} (ha:GrC c0 h c v sz n L) (hh:v ≠ .slice none 0 0->h'.f (Z0w v)=h.f (Z0w v)):GrC c0 h' c v sz n L:=by
 rcases ha with ha | ⟨a,b,d,x,i,rfl,f,g,k⟩
 · exact .inl ha
 · have:=hh (by intro e; cases e)
   rw [blkOf_sl] at this
   exact .inr ⟨a,b,d,x,i,rfl,f,g,this.trans k⟩
theorem GrC.sl {c0:Nat} {h:FH} {c:Nat} {v:Value} {sz n:Nat} {L:List Int} (ha:GrC c0 h c v sz n (ints L)):SlI h c v sz n L:=by
 rcases ha with ⟨rfl,rfl,e⟩ | ⟨a,b,d,x,i,rfl,f,g,k⟩
 · have:L=[]:=by simpa [ints] using e
   subst this
   exact ⟨by simp,by omega,none,0,rfl,.inl ⟨rfl,OkV.sl0 _ _ _⟩⟩
 · rw [ints_length] at b
   refine ⟨b,d,some ⟨i,0,none⟩,n,rfl,.inr ⟨i,0,ints L,rfl,g,⟨false,some sz,k⟩, ?_⟩⟩
   rw [List.drop_zero,List.take_of_length_le (by simp [b])]
theorem GrC.blk {c0:Nat} {h:FH} {c:Nat} {v:Value} {sz n:Nat} {L:List Value} (ha:GrC c0 h c v sz n L) (hn:v ≠ .slice none 0 0):256*c0<=Z0w v/\Z0w v<256*c:=by
 rcases ha with ⟨rfl,rfl,rfl⟩ | ⟨a,b,d,x,i,rfl,f,g,k⟩
 · exact absurd rfl hn
 · exact ⟨f,g⟩
theorem GrC.flat {c0:Nat} {h:FH} {c:Nat} {v:Value} {sz n:Nat} {L:List Value} (ha:GrC c0 h c v sz n L):Z06 v=true/\v.cells = #[v]:=by
 rcases ha with ⟨rfl,rfl,rfl⟩ | ⟨a,b,d,x,i,rfl,f,g,k⟩ <;> exact ⟨rfl,rfl⟩
theorem GrC.len {c0:Nat} {h:FH} {c:Nat} {v:Value} {sz n:Nat} {L:List Value} (ha:GrC c0 h c v sz n L):Z2m v=some (.int .i64 n):=by
 rcases ha with ⟨rfl,rfl,rfl⟩ | ⟨a,b,d,x,i,rfl,f,g,k⟩ <;> rfl
theorem GrC.app {c0:Nat} {h:FH} {c c':Nat} {v:Value} {sz n:Nat} {L:List Value} (ha:GrC c0 h c v sz n L) (X:List Value) (hX:X.length=sz) (hXf:X.all Z06=true) (hsz:0<sz) (by' b id:Nat) (hb:256*c<=b) (hid:256*c<=id) (hne:b ≠ id) (hc0:c0<=c)
 (hid':id<256*c') (hlim:(n+1)*(by'+1)<=17592186044416) :
 ∃ h',Z5o (newB h b X) id sz by' v (.slice (some ⟨b,0,none⟩) 1 1)=some (.slice (some ⟨id,0,none⟩) (n+1) (n+1),h')/\GrC c0 h' c' (.slice (some ⟨id,0,none⟩) (n+1) (n+1)) sz (n+1) (L++X)/\(∀ j,j<256*c->(v ≠ .slice none 0 0->j ≠ Z0w v)->h'.f j=h.f j):=by
 have hlim':Nat.ble ((n+1)*(by'+1)) 17592186044416=true:=Nat.ble_eq_true_of_le hlim
 have hsrc:Z0B (newB h b X) sz (.slice (some ⟨b,0,none⟩) 1 1)=some (X,1):=by
  have:Nat.ble (0+1*sz) X.length=true:=Nat.ble_eq_true_of_le (by simp [hX])
  simp only [Z0B,Z0J,Z0k,get_newB_same,Option.bind_some,this,cond_true,List.drop_zero]
  rw [List.take_of_length_le (by simp [hX])]
 have hn1:n+1<=17592186044416:=by
  have:(n+1)*1<=(n+1)*(by'+1):=Nat.mul_le_mul_left _ qO
  omega
 have hcap:Nat.ble (n+1) n=false:=by rw [Bool.eq_false_iff]; intro hh; have:=Nat.le_of_ble_eq_true hh; omega
 rcases ha with ⟨rfl,rfl,rfl⟩ | ⟨h0,h1,h2,hf,i,rfl,h3,h4,h5⟩
 · refine ⟨HeapC.set (newB h b X) id (.cells false (some sz) X), ?_,.inr ⟨by omega,by simp [hX],by omega,by simpa using hXf,id,rfl,by omega,hid', ?_⟩, ?_⟩
   · simp only [Z5o,hsrc,Option.bind_some,appTo,hcap,cond_false,Z1D,hlim',hXf,Bool.and_self,cond_true,Nat.beq_refl,Nat.zero_add]
   · rw [Z0o,if_pos rfl]; rfl
   · intro j hj _
     rw [Z0o,if_neg qO,Z01,if_neg qO]
 · have hbi:i ≠ b:=by omega
   have hg:HeapC.get (newB h b X) i=some (.cells false (some sz) L):=by rw [get_newB_ne _ _ _ _ hbi]; exact h5
   have hr:Nat.ble (0+n*sz) L.length=true:=Nat.ble_eq_true_of_le (by simp [h1])
   refine ⟨HeapC.set (HeapC.set (newB h b X) i .dead) id (.cells false (some sz) ((L.drop 0).take (n*sz)++X)), ?_,.inr ⟨by omega, ?_,by omega, ?_,id,rfl,by omega,hid', ?_⟩, ?_⟩
   · simp only [Z5o,hsrc,Option.bind_some,appTo,hcap,cond_false,Z1D,hlim',hXf,Bool.and_self,cond_true,Z0J,Z0k,hg,hr,Nat.beq_refl,Bool.not_false,Bool.and_true]
   · simp [h1,hX,Nat.succ_mul]
   · rw [List.all_append,hf,hXf]; rfl
   · rw [Z0o,if_pos rfl,List.drop_zero,List.take_of_length_le (by simp [h1])]
   · intro j hj hv
     have:=hv (by intro e; cases e)
     rw [blkOf_sl] at this
     rw [Z0o,if_neg qO,Z0o,if_neg this,Z01,if_neg qO]
theorem GrC.step {c0:Nat} {h:FH} {c c' sb o:Nat} {fs:List Value} {v:Value} {sz n:Nat} {L:List Value} (hf:h.f sb=some (.cells false none fs)) (ho:fs[o]? = some v) (lsb:sb<256*c0) (ha:GrC c0 h c v sz n L) (X:List Value) (hX:X.length=sz) (hXf:X.all Z06=true) (hsz:0<sz) (by' b id:Nat) (hb:256*c<=b) (hid:256*c<=id) (hne:b ≠ id) (hc0:c0<=c)
 (hid':id<256*c') (hlim:(n+1)*(by'+1)<=17592186044416) :
 ∃ h1 h2,ld1 h (.pointer (some ⟨sb,o,none⟩))=some v/\Z5o (newB h b X) id sz by' v (.slice (some ⟨b,0,none⟩) 1 1)=some (.slice (some ⟨id,0,none⟩) (n+1) (n+1),h1) ∧
  stN h1 1 (.pointer (some ⟨sb,o,none⟩)) (.slice (some ⟨id,0,none⟩) (n+1) (n+1))=some h2/\h2.f sb=some (.cells false none (fs.set o (.slice (some ⟨id,0,none⟩) (n+1) (n+1)))) ∧
  GrC c0 h2 c' (.slice (some ⟨id,0,none⟩) (n+1) (n+1)) sz (n+1) (L++X)/\(∀ j,j<256*c->j ≠ sb->(v ≠ .slice none 0 0->j ≠ Z0w v)->h2.f j=h.f j):=by
 obtain ⟨h1,e1,e2,e3⟩:=ha.app X hX hXf hsz by' b id hb hid hne hc0 hid' hlim
 have hol:o<fs.length:=by
  rcases Nat.lt_or_ge o fs.length with q | q
  · exact q
  · rw [List.getElem?_eq_none qO] at ho; cases ho
 have f1:h1.f sb=some (.cells false none fs):=(e3 sb qO (fun hv=>by have:=(ha.blk hv).1; omega)).trans hf
 refine ⟨h1,_, ?_,e1,Z3p (show HeapC.get h1 sb=_ from f1) hol e2.flat.2 e2.flat.1,by rw [Z0o,if_pos rfl],e2.keep fun _=>?_,fun j hj h1' h2'=>?_⟩
 · rw [Z05 (cs:=fs) ⟨false,none,hf⟩,ho]
 · rw [blkOf_sl,Z0o,if_neg qO]
 · rw [Z0o,if_neg h1']
   exact e3 j hj h2'
end Go.Ab

namespace Go.Proofs.Ytdodippbpdechaa
open Go Go.Ab Go.Proofs
def eAn (k:Nat):Nat:=(edL.getD (2*k) 0).toNat
def eBn (k:Nat):Nat:=(edL.getD (2*k+1) 0).toNat
def sSt (E D:List Int) (t k:Nat) (z:List Int × List Bool):List Int × List Bool :=
 (z.1.set (E.getD (6*t+k) 0).toNat (z.1.getD (E.getD (6*t+k) 0).toNat 0+1),
  if D.getD (16*t+4*eAn k+eBn k) 0=D.getD (16*t+4*eBn k+eAn k) 0 then z.2.set (E.getD (6*t+k) 0).toNat true else z.2)
def sKs (E D:List Int) (t:Nat):Nat->Nat->List Int × List Bool->List Int × List Bool
 | 0,_,z=>z
 | r+1,k,z=>sKs E D t r (k+1) (sSt E D t k z)
structure SB (m:Nat) (z:List Int × List Bool) (B:Nat):Prop where
 l1:z.1.length=m
 l2:z.2.length=m
 b:∀ x,0<=z.1.getD x 0/\z.1.getD x 0<=B
theorem SB.st {m:Nat} {z:List Int × List Bool} {B:Nat} (h:SB m z B) (E D:List Int) (t k:Nat):SB m (sSt E D t k z) (B+1):=by
 obtain ⟨h1,h2,h3⟩:=h
 refine ⟨by simp [sSt,h1], ?_,fun x=>?_⟩
 · simp only [sSt]; split <;> simp [h2]
 · simp only [sSt,Z17]
   have a:=h3 x
   have b:=h3 (E.getD (6*t+k) 0).toNat
   split
   · rw [Int.natCast_add]; omega
   · rw [Int.natCast_add]; omega
theorem SB.ks {m:Nat} (E D:List Int) (t:Nat):∀ (r k:Nat) {z:List Int × List Bool} {B:Nat},SB m z B->SB m (sKs E D t r k z) (B+r)
 | 0,_,z,B,h=>h
 | r+1,k,z,B,h=>by
  have:=SB.ks E D t r (k+1) (h.st E D t k)
  rw [show B+1+r=B+(r+1) by omega] at this
  exact this
end Go.Proofs.Ytdodippbpdechaa
