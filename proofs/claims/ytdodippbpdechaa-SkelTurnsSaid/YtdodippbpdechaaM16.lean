/- Parts of a proof: K5 K6 AbLB K7 K8 K9 K10 K11. Conditions: none. -/
import Derived.Test.YtdodippbpdechaaM15
import Derived.Test.YtdodippbpdechaaM13
import Derived.Test.YtdodippbpdechaaM14
set_option linter.all false
set_option maxRecDepth 100000
namespace Go.Proofs.Ytdodippbpdechaa
open Go Go.Ab Go.Proofs
theorem ZmX {h:FH} {vb db eb tb:Nat} {V D E T:List Int} (h1:h.f vb=some (.cells false none (ints V))) (h2:h.f db=some (.cells false none (ints D))) (h3:h.f eb=some (.cells false none (ints E))) (h4:h.f tb=some (.cells false none (ints T))):fH h vb db eb tb V D E T=h:=by
 apply FH.ext; intro j
 rw [Z7N]
 by_cases e1:j=tb
 · rw [if_pos e1,e1,h4]
 rw [if_neg e1]
 by_cases e2:j=eb
 · rw [if_pos e2,e2,h3]
 rw [if_neg e2]
 by_cases e3:j=db
 · rw [if_pos e3,e3,h2]
 rw [if_neg e3]
 by_cases e4:j=vb
 · rw [if_pos e4,e4,h1]
 rw [if_neg e4]
set_option maxHeartbeats 1000000 in
theorem nc_t (cb vb db eb tb n cm c:Nat) (Gl:List Int) (s:Value) (h0:FH) (df:List Nat) (e:E4 h0 cb vb db eb tb n s) (hok:Z0v Gl n=true) (hs:SlI h0 cm s 20 n Gl) (hcm:cm<=c) (lc:cb<256*c) (lv:vb<256*c) (ld:db<256*c) (le:eb<256*c) (lt:tb<256*c)
 (mv:256*cm<=vb) (md:256*cm<=db) (me:256*cm<=eb) (mt:256*cm<=tb) :
 ∀ (r t:Nat) (V D E T:List Int),t+r=n->Jn (upL (vT Gl) t) (4*n) V->Jn (upL (dT Gl) t) (16*n) D->Jn (upL (eT Gl) t) (6*n) E->Jn (upL (tT Gl) t) (4*n) T →
 Ans (G (Za1 none) [ptrTo cb,s,.int .i64 n,.int .i64 t] (fH h0 vb db eb tb V D E T) c df) fun q=>∃ V' D' E' T',q=⟨.exit 0,[ptrTo cb,s,.int .i64 n,.int .i64 n],fH h0 vb db eb tb V' D' E' T',c,df⟩ ∧
  Jn (vP Gl n) (4*n) V'/\Jn (dP Gl n) (16*n) D'/\Jn (eP Gl n) (6*n) E'/\Jn (tP Gl n) (4*n) T':=by
 intro r
 have hG:Gl.length=n*20:=hs.1
 have o1:=(hs.mono hcm).okV
 induction r with
 | zero =>
  intro t V D E T ht jv jd je jt
  obtain rfl:t=n:=by omega
  refine Ans.lpG rfl rfl (Z51 ..) ?_
  unfold Z4s
  obtain ⟨H,hH⟩:∃ H,fH h0 vb db eb tb V D E T=H:=⟨_,rfl⟩
  rw [hH]
  have fx:=True.intro
  refine Ans.go ?_
  clear fx
  (have fx:=ai lc o1; refine Ans.ex0 ?_; clear fx)
  exact ⟨V,D,E,T,by rw [hH],jv,jd,je,jt⟩
 | succ r ih =>
  intro t V D E T ht jv jd je jt
  have ht':t<n:=by omega
  have hrl:=Z4H hG ht'
  obtain ⟨rb,hrb⟩:∃ b,256*(c+1)+3=b:=⟨_,rfl⟩
  have orb:Zm4 rb vb db eb tb:=⟨by omega,by omega,by omega,by omega⟩
  obtain ⟨h1,hh1⟩:∃ h1,newB h0 rb (ints (Z66 Gl t))=h1:=⟨_,rfl⟩
  have e1:E4 h1 cb vb db eb tb n s:=by rw [← hh1]; exact e.newB qO _
  have t1:Z0s (c+1) h0 h1:=fun j hj=>by rw [← hh1,Z01,if_neg qO]
  have ec:newB (fH h0 vb db eb tb V D E T) rb (ints (Z66 Gl t))=fH h1 vb db eb tb V D E T:=by rw [ZcD orb,hh1]
  obtain ⟨q9,hq9,V',D',E',T',rfl,jv',jd',je',jt'⟩:=nc_f cb vb db eb tb n t (c+1+1+1) Gl s s (.int .i64 n) (.int .i64 t) h1 df (upL (vT Gl) t) (upL (dT Gl) t) (upL (eT Gl) t) (upL (tT Gl) t) e1 hok hG ht' qO qO qO qO qO
   (o1.mono qO) (OkV.int _ _ _) (OkV.int _ _ _) 4 0 V D E T qO (by rw [upL,List.append_nil]; exact jv) (by rw [upL,List.append_nil]; exact jd) (by rw [upL,List.append_nil]; exact je) (by rw [upL,List.append_nil]; exact jt)
  have hk:=ih (t+1) V' D' E' T' qO jv' jd' je' jt'
  simp only [Int.ofNat_eq_natCast,Int.cast_ofNat_Int] at hq9
  have sb:=hs.same (Zhs h0 mv md me mt V D E T)
  have l1:ldN (fH h0 vb db eb tb V D E T) 20 (.pointer (some ⟨Z0q s,Z2I s+t*20,none⟩))=some (av (Z66 Gl t)):=by
   rw [sb.rdN 20 _ qO qO,Z66,Nat.mul_comm t 20]
  have ix:=sb.ixs .i64 t qO qO
  rw [Int.toNat_natCast] at ix
  have w1:stN (newB (fH h0 vb db eb tb V D E T) rb [(.int .i64 0),(.int .i64 0),(.int .i64 0),(.int .i64 0),(.int .i64 0),(.int .i64 0),(.int .i64 0),(.int .i64 0),(.int .i64 0),(.int .i64 0),(.int .i64 0),(.int .i64 0),(.int .i64 0),(.int .i64 0),(.int .i64 0),(.int .i64 0),(.int .i64 0),(.int .i64 0),(.int .i64 0),(.int .i64 0)]) 20 (.pointer (some ⟨rb,0,none⟩)) (av (Z66 Gl t))=some (fH h1 vb db eb tb V D E T):=by
   rw [stN_all _ _ 20 _ _ hrl rfl,ec]
  have w2:ldN (fH h1 vb db eb tb V D E T) 20 (.pointer (some ⟨rb,0,none⟩))=some (av (Z66 Gl t)):=by
   rw [← ec,ldN_newB_same _ _ _ _ _ (by simp [hrl]),List.drop_zero,Z0G,List.take_of_length_le qO]; rfl
  have up:=ZaQ h0 lv ld le lt V D E T V' D' E' T'
  have sB:Z0s c (fH h0 vb db eb tb V' D' E' T') (fH h1 vb db eb tb V' D' E' T'):=Zhr h0 h1 (t1.mono qO) V' D' E' T'
  clear ec jv' jd' je' jt' sb
  have tn:n<=60:=e.le
  obtain ⟨S,hS⟩:∃ S,fH h0 vb db eb tb V D E T=S:=⟨_,rfl⟩
  obtain ⟨S1,hS1⟩:∃ S,fH h1 vb db eb tb V D E T=S:=⟨_,rfl⟩
  obtain ⟨S3,hS3⟩:∃ S,fH h1 vb db eb tb V' D' E' T'=S:=⟨_,rfl⟩
  obtain ⟨S4,hS4⟩:∃ S,fH h0 vb db eb tb V' D' E' T'=S:=⟨_,rfl⟩
  rw [hS] at up w1 l1 ⊢
  rw [hS1] at w1 w2 hq9
  rw [hS3] at hq9 sB
  rw [hS4] at up hk sB
  obtain ⟨R,hR⟩:∃ R,Z66 Gl t=R:=⟨_,rfl⟩
  rw [hR] at w1 w2 l1 hq9
  refine Ans.lpG rfl rfl (Z51 ..) ?_
  unfold Z4s
  have fx:=ai ix (ai l1 (ai hrb (ai w1 (ai w2 hq9))))
  refine Ans.go ?_
  clear fx
  (have fx:=ai lc (ai o1 sB); refine Ans.nxB (B:=S4) ?_ ?_; exact (up); clear fx)
  exact hk
structure Cls (h:FH) (lo hi cb vb db eb tb n:Nat) (s:Value) (Gl V D E T:List Int):Prop where
 e:E4 h cb vb db eb tb n s
 fv:h.f vb=some (.cells false none (ints V))
 fd:h.f db=some (.cells false none (ints D))
 fe:h.f eb=some (.cells false none (ints E))
 ft:h.f tb=some (.cells false none (ints T))
 jv:Jn (vP Gl n) (4*n) V
 jd:Jn (dP Gl n) (16*n) D
 je:Jn (eP Gl n) (6*n) E
 jt:Jn (tP Gl n) (4*n) T
 bd:(256*lo<=cb/\256*lo<=vb/\256*lo<=db/\256*lo<=eb/\256*lo<=tb)/\cb<256*hi/\vb<256*hi/\db<256*hi/\eb<256*hi/\tb<256*hi
set_option maxHeartbeats 1000000 in
theorem ZaF (s:Value) (n:Nat) (Gl:List Int) (h:FH) (c:Nat) (df:List Nat) (hs:SlI h c s 20 n Gl) (hok:Z0v Gl n=true) (hn:n<=60) :
 Ans (G (.fn 40) [.agg #[s]] h c df) fun r=>∃ cb vb db eb tb V D E T,r=⟨.ret,[ptrTo cb],r.h,r.c,[]⟩/\c<=r.c/\Z0s c h r.h/\Cls r.h c r.c cb vb db eb tb n s Gl V D E T:=by
 refine Ans.call' (fun r e=>f40_go e) ?_
 have Z6b:((Value.agg #[s]).cells.toList.all Z07)=true:=by simp [Value.cells,hs.flat]
 have Z6d:(Value.agg #[s]).cells.toList=[s]:=rfl
 unfold ZhJ
 rw [Z6b,Z6d]
 simp only [cond_true,Nat.add_zero]
 obtain ⟨H,hH⟩:∃ H,H=newB h (256*c) [s]:=⟨_,rfl⟩
 have sH:Z0s c h H:=by rw [hH]; simp (disch:=omega)
 have g1:Z0f H (256*c) [s]:=by rw [hH]; exact Z0f.newB_same _ _ _
 rw [← hH]
 clear hH
 have l0:ld1 H (.pointer (some ⟨256*c,0,none⟩))=some s:=by rw [Z02 g1]; rfl
 have l1:=Z1m g1
 have ln:=hs.len
 obtain ⟨⟨re,rv,H1,rc,rd⟩,w1,q1,t1,f1⟩:=Z4J (4*n) H (c+1+1+1) [] qO
 cases q1
 obtain ⟨⟨re,rv,H2,rc,rd⟩,w2,q2,t2,f2⟩:=Z4J (16*n) H1 (c+1+1+1+1+1+1+1) [] qO
 cases q2
 obtain ⟨⟨re,rv,H3,rc,rd⟩,w3,q3,t3,f3⟩:=Z4J (6*n) H2 (c+1+1+1+1+1+1+1+1+1+1+1) [] qO
 cases q3
 obtain ⟨⟨re,rv,H4,rc,rd⟩,w4,q4,t4,f4⟩:=Z4J (4*n) H3 (c+1+1+1+1+1+1+1+1+1+1+1+1+1+1+1) [] qO
 cases q4
 simp only at t1 f1 t2 f2 t3 f3 t4 f4
 have d1:=Z0c w1
 have d2:=Z0c w2
 have d3:=Z0c w3
 have d4:=Z0c w4
 rw [show ((4*n:Nat):Int)=4*(n:Int) by omega] at d1 d4
 rw [show ((16*n:Nat):Int)=16*(n:Int) by omega] at d2
 rw [show ((6*n:Nat):Int)=6*(n:Int) by omega] at d3
 obtain ⟨vb,hvb⟩:∃ b,256*(c+1+1+1+1)+1=b:=⟨_,rfl⟩
 obtain ⟨db,hdb⟩:∃ b,256*(c+1+1+1+1+1+1+1+1)+1=b:=⟨_,rfl⟩
 obtain ⟨eb,heb⟩:∃ b,256*(c+1+1+1+1+1+1+1+1+1+1+1+1)+1=b:=⟨_,rfl⟩
 obtain ⟨tb,htb⟩:∃ b,256*(c+1+1+1+1+1+1+1+1+1+1+1+1+1+1+1+1)+1=b:=⟨_,rfl⟩
 rw [hvb] at d1 f1
 rw [hdb] at d2 f2
 rw [heb] at d3 f3
 rw [htb] at d4 f4
 obtain ⟨cb,hcb⟩:∃ b,256*(c+1+1)+18=b:=⟨_,rfl⟩
 have u1:∀ x,Z1z [.slice none 0 0] [(0,1,.agg #[.slice (some ⟨x,0,none⟩) (4*n) (4*n)])]=some (.agg #[.slice (some ⟨x,0,none⟩) (4*n) (4*n)]):=fun _=>rfl
 have u2:∀ x,Z1z [.slice none 0 0] [(0,1,.agg #[.slice (some ⟨x,0,none⟩) (16*n) (16*n)])]=some (.agg #[.slice (some ⟨x,0,none⟩) (16*n) (16*n)]):=fun _=>rfl
 have u3:∀ x,Z1z [.slice none 0 0] [(0,1,.agg #[.slice (some ⟨x,0,none⟩) (6*n) (6*n)])]=some (.agg #[.slice (some ⟨x,0,none⟩) (6*n) (6*n)]):=fun _=>rfl
 have u5:Z1z [.slice none 0 0,.slice none 0 0,.slice none 0 0,.slice none 0 0,.slice none 0 0] [(0,1,.agg #[s]),(1,1,.agg #[.slice (some ⟨vb,0,none⟩) (4*n) (4*n)]),(2,1,.agg #[.slice (some ⟨db,0,none⟩) (16*n) (16*n)]),(3,1,.agg #[.slice (some ⟨eb,0,none⟩) (6*n) (6*n)]),(4,1,.agg #[.slice (some ⟨tb,0,none⟩) (4*n) (4*n)])]=some (.agg #[s,.slice (some ⟨vb,0,none⟩) (4*n) (4*n),.slice (some ⟨db,0,none⟩) (16*n) (16*n),.slice (some ⟨eb,0,none⟩) (6*n) (6*n),.slice (some ⟨tb,0,none⟩) (4*n) (4*n)]):=rfl
 have u7:(Value.agg #[s,.slice (some ⟨vb,0,none⟩) (4*n) (4*n),.slice (some ⟨db,0,none⟩) (16*n) (16*n),.slice (some ⟨eb,0,none⟩) (6*n) (6*n),.slice (some ⟨tb,0,none⟩) (4*n) (4*n)]).cells.toList=[s,.slice (some ⟨vb,0,none⟩) (4*n) (4*n),.slice (some ⟨db,0,none⟩) (16*n) (16*n),.slice (some ⟨eb,0,none⟩) (6*n) (6*n),.slice (some ⟨tb,0,none⟩) (4*n) (4*n)]:=rfl
 have u6:((Value.agg #[s,.slice (some ⟨vb,0,none⟩) (4*n) (4*n),.slice (some ⟨db,0,none⟩) (16*n) (16*n),.slice (some ⟨eb,0,none⟩) (6*n) (6*n),.slice (some ⟨tb,0,none⟩) (4*n) (4*n)]).cells.toList.all Z07)=true:=by
  rw [u7]
  simp only [List.all_cons,List.all_nil,hs.flat,Bool.true_and,Bool.and_true]
  rfl
 have sb:∀ {A B:FH},A.f (256*c)=B.f (256*c)->Z1f (Z2t (ptrTo (256*c))) A B=true:=fun z=>Z7S fun j hj=>by
  have hj':some (256*c)=some j:=hj
  cases hj'
  exact z
 have b1:=sb (A:=H) (B:=H1) (t1 _ qO).symm
 have b2:=sb (A:=H1) (B:=H2) (t2 _ qO).symm
 have b3:=sb (A:=H2) (B:=H3) (t3 _ qO).symm
 have b4:=sb (A:=H3) (B:=H4) (t4 _ qO).symm
 obtain ⟨M,hM⟩:∃ M,newB H4 cb [s,.slice (some ⟨vb,0,none⟩) (4*n) (4*n),.slice (some ⟨db,0,none⟩) (16*n) (16*n),.slice (some ⟨eb,0,none⟩) (6*n) (6*n),.slice (some ⟨tb,0,none⟩) (4*n) (4*n)]=M:=⟨_,rfl⟩
 have tM:Z0s (c+1) H M:=fun j hj=>by
  rw [← hM,Z01,if_neg qO,t4 j qO,t3 j qO,t2 j qO,t1 j qO]
 have sM:Z0s c h M:=sH.trans (tM.mono qO)
 have gM:Z0f M (256*c) [s]:=g1.same qO tM
 have lM:ld1 M (.pointer (some ⟨256*c,0,none⟩))=some s:=by rw [Z02 gM]; rfl
 have e:E4 M cb vb db eb tb n s:=⟨by rw [← hM]; exact Z0f.newB_same _ _ _,⟨by omega,by omega,by omega,by omega,by omega,by omega⟩,⟨by omega,by omega,by omega,by omega⟩,hn⟩
 have fv:M.f vb=some (.cells false none (ints (Z0R (4*n)))):=by
  rw [← hM,Z01,if_neg qO,t4 vb qO,t3 vb qO,t2 vb qO,f1]
 have fd:M.f db=some (.cells false none (ints (Z0R (16*n)))):=by
  rw [← hM,Z01,if_neg qO,t4 db qO,t3 db qO,f2]
 have fe:M.f eb=some (.cells false none (ints (Z0R (6*n)))):=by
  rw [← hM,Z01,if_neg qO,t4 eb qO,f3]
 have ft:M.f tb=some (.cells false none (ints (Z0R (4*n)))):=by
  rw [← hM,Z01,if_neg qO,f4]
 obtain ⟨⟨re,rv,K,rc,rd⟩,hr,V,D,E,T,q5,jv,jd,je,jt⟩:=nc_t cb vb db eb tb n c (c+1+1+1+1+1+1+1+1+1+1+1+1+1+1+1+1+1+1+1+1) Gl s M [] e hok (hs.same sM) qO qO qO qO qO qO qO qO qO qO n 0 _ _ _ _ qO (Jn.nil _) (Jn.nil _) (Jn.nil _) (Jn.nil _)
 simp only [Rt.mk.injEq] at q5
 obtain ⟨rfl,rfl,hKK,rfl,rfl⟩:=q5
 rw [ZmX fv fd fe ft] at hr
 simp only [Int.ofNat_eq_natCast,Int.cast_ofNat_Int] at hr
 have tK:Z0s c M K:=by rw [hKK]; exact Zhs M qO qO qO qO V D E T
 have fx:=ai l0 (ai l1 (ai ln (ai d1 (ai u1 (ai d2 (ai u2 (ai d3 (ai u3 (ai d4 u5)))))))))
 refine Ans.go ?_
 clear fx
 rw [u6,u7,b1,b2,b3,b4,hcb,hM]
 simp only [cond_true,Bool.and_self]
 have fx:=ai lM (ai ln hr)
 refine Ans.go ?_
 clear fx
 refine .done ⟨cb,vb,db,eb,tb,V,D,E,T,rfl,(by show c<=_; simp only; omega),fun j hj=>?_, ?_⟩
 · show K.f j=h.f j
   rw [tK j hj]
   exact sM j hj
 · refine ⟨?_, ?_, ?_, ?_, ?_,jv,jd,je,jt, ?_⟩
   · refine ⟨?_,e.q,e.o,e.le⟩
     obtain ⟨ro,op,z⟩:=e.st
     exact ⟨ro,op,by show K.f cb=_; rw [hKK,Zeq e.o]; exact z⟩
   · show K.f vb=_
     rw [hKK,Z7N,if_neg e.q.c,if_neg e.q.b,if_neg e.q.a,if_pos rfl]
   · show K.f db=_
     rw [hKK,Z7N,if_neg e.q.e,if_neg e.q.d,if_pos rfl]
   · show K.f eb=_
     rw [hKK,Z7N,if_neg e.q.f,if_pos rfl]
   · show K.f tb=_
     rw [hKK,Z7N,if_pos rfl]
   · simp only
     omega

theorem ZgQ (C:List Int) {m i:Nat} (hi:i<m):(Z7B C m i).set i ((Z5e C (Z06 C i):Nat):Int)=Z7B C m (i+1):=by
 refine Z8B (m:=m) (by simp [Z1H]) (Z1H _ _ _) fun k hk=>?_
 rw [Z0C,Z5n C _ hk,Z5n C _ hk,Z1H]
 by_cases e:i=k
 · subst e; rw [if_pos ⟨rfl,hi⟩,if_pos qO]
 · rw [if_neg (fun q=>e q.1)]
   by_cases q:k<i
   · rw [if_pos q,if_pos qO]
   · rw [if_neg q,if_neg qO]
noncomputable def nH (h:FH) (b ob:Nat) (L X:List Int):FH:=newB (newB h b (ints L)) ob (ints X)
theorem Zil (h:FH) (b ob:Nat) (L X:List Int) (j:Nat):(nH h b ob L X).f j=if j=ob then some (.cells false none (ints X)) else if j=b then some (.cells false none (ints L)) else h.f j:=by
 unfold nH
 rw [Z01,Z01]
theorem nH_b (h:FH) {b ob:Nat} (hne:b ≠ ob) (L X L':List Int):newB (nH h b ob L X) b (ints L')=nH h b ob L' X:=by
 apply FH.ext; intro j
 rw [Z01,Zil,Zil]
 by_cases z:j=b
 · subst z; rw [if_pos rfl,if_neg hne,if_pos rfl]
 · simp only [if_neg z]
theorem nH_uo {h:FH} {cb o b ob m:Nat} {L L' X:List Int} (u:Uo h cb o b m L) (h1:cb ≠ ob) (h2:b ≠ ob) (hd:Z49 L' m):Uo (nH h b ob L' X) cb o b m L':=by
 obtain ⟨⟨cs,⟨ro,op,e⟩,q⟩,a,b',d,f⟩:=u
 have e':h.f cb=some (.cells ro op cs):=e
 exact ⟨⟨cs,⟨ro,op,by show (nH h b ob L' X).f cb=_; rw [Zil,if_neg h1,if_neg b']; exact e'⟩,q⟩,by rw [Zil,if_neg h2,if_pos rfl],b',hd,f⟩
theorem ZmF (h:FH) {b ob c:Nat} (h1:b<256*c) (h2:ob<256*c) (L X L' X':List Int):Z42 c (nH h b ob L X) (nH h b ob L' X'):=by
 intro j
 rw [Zil,Zil]
 refine ⟨fun hj=>by rw [if_neg qO,if_neg qO,if_neg qO,if_neg qO],fun hj=>?_⟩
 by_cases e:j=ob
 · rw [if_pos e]; exact .inr (Z1F.ints _ _)
 · rw [if_neg e,if_neg e]
   by_cases e2:j=b
   · rw [if_pos e2]; exact .inr (Z1F.ints _ _)
   · rw [if_neg e2,if_neg e2]; exact .inl rfl
theorem ZbI (cb o b ob m c:Nat) (C L0:List Int) (h0:FH) (df:List Nat) (u0:Uo h0 cb o b m L0) (hdC:Z49 C m) (h1:cb ≠ ob) (h2:b ≠ ob) (lc:cb<256*c) (lb:b<256*c) (lo:ob<256*c) :
 ∀ (r i:Nat) (L:List Int),i+r=m->Z3W C L m->Ans (G (Z9X none) [.pointer (some ⟨cb,o,none⟩),.slice (some ⟨ob,0,none⟩) m m,.int .i64 (Z5e C i),.int .i64 m,.int .i64 i] (nH h0 b ob L (Z7B C m i)) c df) fun q=>∃ L',q=⟨.exit 0,[.pointer (some ⟨cb,o,none⟩),.slice (some ⟨ob,0,none⟩) m m,.int .i64 (Z5e C m),.int .i64 m,.int .i64 m],nH h0 b ob L' (ZbJ C m),c,df⟩/\Z3W C L' m:=by
 intro r
 have op:OkV c (.pointer (some ⟨cb,o,none⟩)):=OkV.ptr lc
 have hm:=u0.le
 induction r with
 | zero =>
  intro i L hi s
  obtain rfl:i=m:=by omega
  rw [ZiY]
  refine Ans.lpG rfl rfl (Z50 ..) ?_
  unfold Z4r
  obtain ⟨H,hH⟩:∃ H,nH h0 b ob L (ZbJ C i)=H:=⟨_,rfl⟩
  rw [hH]
  have fx:=True.intro
  refine Ans.go ?_
  clear fx
  (have fx:=ai op lo; refine Ans.ex0 ?_; clear fx)
  exact ⟨L,by rw [hH],s⟩
 | succ r ih =>
  intro i L hi s
  have hi':i<m:=by omega
  have u:=nH_uo (X:=Z7B C m i) u0 h1 h2 s.1
  obtain ⟨L',s1,g1⟩:=Zcb (nH h0 b ob L (Z7B C m i)) cb o b m (c+1+1+1) L u qO qO i hi' []
  rw [nH_b _ h2,s.2 i hi'] at g1
  have s':=s.trans s1
  have hk:=ih (i+1) L' qO s'
  have c1:=Z0c g1
  have hle:=Z2H hdC hi'
  have hrr:=Z4c hdC hi'
  have hfs:=Zhj C i
  have hfl:=Z8I C i
  have fo:HeapC.get (nH h0 b ob L' (Z7B C m i)) ob=some (.cells false none (ints (Z7B C m i))):=by
   show (nH h0 b ob L' (Z7B C m i)).f ob=_
   rw [Zil,if_pos rfl]
  have hw:∀ x:Int,stN (nH h0 b ob L' (Z7B C m i)) 1 (.pointer (some ⟨ob,i,none⟩)) (.int .i64 x)=some (nH h0 b ob L' ((Z7B C m i).set i x)):=fun x=>by
   rw [nH,st1_int _ _ _ _ _ _ (by simp [Z1H]; omega),Z1Z]; rfl
  have hx:=ZgQ C hi'
  have lr:ld1 (nH h0 b ob L' (Z7B C m i)) (.pointer (some ⟨ob,Z06 C i,none⟩))=some (.int .i64 ((Z7B C m i).getD (Z06 C i) 0)):=by
   rw [Z02 ⟨false,none,fo⟩,ints_getD _ _ (by rw [Z1H]; omega)]
  have up:=ZmF h0 lb lo L (Z7B C m i) L' (Z7B C m (i+1))
  refine Ans.lpG rfl rfl (Z50 ..) ?_
  unfold Z4r
  by_cases e:Z06 C i=i
  · rw [if_pos e] at hfs
    rw [e] at hx c1
    have w:=hw (Z5e C i:Nat)
    rw [hx] at w
    rw [hfs] at hk
    have hk':((Z5e C i+1:Nat):Int)=(Z5e C i:Int)+1:=by omega
    rw [hk'] at hk
    clear hw lr fo hx hfs
    obtain ⟨F,hF⟩:∃ F,Z5e C i=F:=⟨_,rfl⟩
    rw [hF] at w hk hfl ⊢
    obtain ⟨S,hS⟩:∃ S,nH h0 b ob L (Z7B C m i)=S:=⟨_,rfl⟩
    obtain ⟨S1,hS1⟩:∃ S,nH h0 b ob L' (Z7B C m i)=S:=⟨_,rfl⟩
    obtain ⟨S2,hS2⟩:∃ S,nH h0 b ob L' (Z7B C m (i+1))=S:=⟨_,rfl⟩
    rw [hS] at c1 up ⊢
    rw [hS1] at c1 w
    rw [hS2] at w up hk
    have fx:=ai c1 w
    refine Ans.go ?_
    clear fx
    (have fx:=ai op lo; refine Ans.nxB (B:=S2) ?_ ?_; exact (up); clear fx)
    exact hk
  · rw [if_neg e,Nat.add_zero] at hfs
    have hlt:Z06 C i<i:=by omega
    rw [Z5n C _ qO,if_pos hlt,hrr] at lr
    have w:=hw (Z5e C (Z06 C i):Nat)
    rw [hx] at w
    rw [hfs] at hk
    clear hw fo hx hfs
    obtain ⟨R,hR⟩:∃ R,Z06 C i=R:=⟨_,rfl⟩
    rw [hR] at c1 lr w hlt e
    have e':¬ (R:Int)=i:=by omega
    obtain ⟨F,hF⟩:∃ F,Z5e C R=F:=⟨_,rfl⟩
    rw [hF] at w lr
    obtain ⟨F2,hF2⟩:∃ F,Z5e C i=F:=⟨_,rfl⟩
    rw [hF2] at hk ⊢
    obtain ⟨S,hS⟩:∃ S,nH h0 b ob L (Z7B C m i)=S:=⟨_,rfl⟩
    obtain ⟨S1,hS1⟩:∃ S,nH h0 b ob L' (Z7B C m i)=S:=⟨_,rfl⟩
    obtain ⟨S2,hS2⟩:∃ S,nH h0 b ob L' (Z7B C m (i+1))=S:=⟨_,rfl⟩
    rw [hS] at c1 up ⊢
    rw [hS1] at c1 w lr
    rw [hS2] at w up hk
    have fx:=ai c1 (ai e' (ai lr w))
    refine Ans.go ?_
    clear fx
    (have fx:=ai op lo; refine Ans.nxB (B:=S2) ?_ ?_; exact (up); clear fx)
    exact hk
theorem Z5z (cb o b m:Nat) (C L:List Int) (h:FH) (c:Nat) (df:List Nat) (u:Uo h cb o b m L) (s:Z3W C L m) (hdC:Z49 C m) (lc:cb<256*c) (lb:b<256*c) :
 Ans (G (.fn 41) [.pointer (some ⟨cb,o,none⟩)] h c df) fun r=>∃ L' ob,r=⟨.ret,[.tuple #[.slice (some ⟨ob,0,none⟩) m m,.int .i64 (Z5e C m)]],r.h,r.c,[]⟩/\c<=r.c/\256*c<=ob/\ob<256*r.c/\r.h.f ob=some (.cells false none (ints (ZbJ C m)))/\Z3W C L' m/\r.h.f b=some (.cells false none (ints L'))/\(∀ j,j<256*c->j ≠ b->r.h.f j=h.f j):=by
 refine Ans.call' (fun r e=>f41_go e) ?_
 unfold ZhI
 have hm:=u.le
 have l1:=u.ld
 have mk:=Z8y 1 8 .i64 .i64 m qO qO
 obtain ⟨ob,hob⟩:∃ b,256*(c+1)+5=b:=⟨_,rfl⟩
 obtain ⟨r,hr,L',rfl,s'⟩:=ZbI cb o b ob m (c+1+1+1+1) C L h [] u hdC qO qO qO qO qO m 0 L qO s
 rw [ZgP,nH,Z9y u] at hr
 rw [show Z5e C 0=0 from rfl] at hr
 simp only [Int.ofNat_eq_natCast,Int.cast_ofNat_Int] at hr
 obtain ⟨K,hK⟩:∃ K,nH h b ob L' (ZbJ C m)=K:=⟨_,rfl⟩
 rw [hK] at hr
 have fx:=ai l1 (ai mk (ai hob hr))
 refine Ans.go ?_
 clear fx
 refine .done ⟨L',ob,rfl,(by show c<=_; simp only; omega),by omega,(by simp only; omega), ?_,s', ?_,fun j hj hjb=>?_⟩
 · show K.f ob=_
   rw [← hK,Zil,if_pos rfl]
 · show K.f b=_
   rw [← hK,Zil,if_neg qO,if_pos rfl]
 · show K.f j=_
   rw [← hK,Zil,if_neg qO,if_neg hjb]
end Go.Proofs.Ytdodippbpdechaa

namespace Go.Ab
open Go
def GrS (c0:Nat) (h:FH) (c:Nat) (v:Value) (sz n:Nat) (L:List Int):Prop :=
 (v = .slice none 0 0/\n=0/\L=[]) ∨ (0<n/\L.length=n*sz/\n<=9223372036854775807 /\ ∃ i,v = .slice (some ⟨i,0,none⟩) n n/\256*c0<=i/\i<256*c/\h.f i=some (.cells false (some sz) (ints L)))
theorem GrS.mono {c0:Nat} {h:FH} {c c':Nat} {v:Value} {sz n:Nat} {L:List Int} (hc:c<=c') (ha:GrS c0 h c v sz n L):GrS c0 h c' v sz n L:=by
 rcases ha with ha | ⟨a,b,d,i,e,f,g,k⟩
 · exact .inl ha
 · exact .inr ⟨a,b,d,i,e,f,by omega,k⟩
theorem GrS.keep {c0:Nat} {h h':FH} {c:Nat} {v:Value} {sz n:Nat} {L:List Int} (ha:GrS c0 h c v sz n L) (hh:v ≠ .slice none 0 0->h'.f (Z0q v)=h.f (Z0q v)):GrS c0 h' c v sz n L:=by
 rcases ha with ha | ⟨a,b,d,i,rfl,f,g,k⟩
 · exact .inl ha
 · have:=hh (by intro e; cases e)
   rw [blkOf_sl] at this
   exact .inr ⟨a,b,d,i,rfl,f,g,this.trans k⟩
theorem GrS.sl {c0:Nat} {h:FH} {c:Nat} {v:Value} {sz n:Nat} {L:List Int} (ha:GrS c0 h c v sz n L):SlI h c v sz n L:=by
 rcases ha with ⟨rfl,rfl,rfl⟩ | ⟨a,b,d,i,rfl,f,g,k⟩
 · exact ⟨by simp,by omega,none,0,rfl,.inl ⟨rfl,OkV.sl0 _ _ _⟩⟩
 · refine ⟨b,d,some ⟨i,0,none⟩,n,rfl,.inr ⟨i,0,ints L,rfl,g,⟨false,some sz,k⟩, ?_⟩⟩
   rw [List.drop_zero,List.take_of_length_le (by simp [b])]
theorem GrS.blk {c0:Nat} {h:FH} {c:Nat} {v:Value} {sz n:Nat} {L:List Int} (ha:GrS c0 h c v sz n L) (hn:v ≠ .slice none 0 0):256*c0<=Z0q v/\Z0q v<256*c:=by
 rcases ha with ⟨rfl,rfl,rfl⟩ | ⟨a,b,d,i,rfl,f,g,k⟩
 · exact absurd rfl hn
 · exact ⟨f,g⟩
theorem GrS.nn {c0:Nat} {h:FH} {c:Nat} {v:Value} {sz n:Nat} {L:List Int} (ha:GrS c0 h c v sz n L):v ≠ .slice none 0 0 ↔ 0<n:=by
 rcases ha with ⟨rfl,rfl,rfl⟩ | ⟨a,b,d,i,rfl,f,g,k⟩
 · exact ⟨fun h=>absurd rfl h,fun h=>by omega⟩
 · exact ⟨fun _=>a,fun _=>by intro e; cases e⟩
theorem GrS.flat {c0:Nat} {h:FH} {c:Nat} {v:Value} {sz n:Nat} {L:List Int} (ha:GrS c0 h c v sz n L):Z07 v=true/\v.cells = #[v]:=by
 rcases ha with ⟨rfl,rfl,rfl⟩ | ⟨a,b,d,i,rfl,f,g,k⟩ <;> exact ⟨rfl,rfl⟩
theorem GrS.app {c0:Nat} {h:FH} {c c':Nat} {v:Value} {sz n:Nat} {L:List Int} (ha:GrS c0 h c v sz n L) (X:List Int) (hX:X.length=sz) (hsz:0<sz) (by' b id:Nat) (hb:256*c<=b) (hid:256*c<=id) (hne:b ≠ id) (hc0:c0<=c)
 (hid':id<256*c') (hlim:(n+1)*(by'+1)<=17592186044416) :
 ∃ h',Z6e (newB h b (ints X)) id sz by' v (.slice (some ⟨b,0,none⟩) 1 1)=some (.slice (some ⟨id,0,none⟩) (n+1) (n+1),h')/\GrS c0 h' c' (.slice (some ⟨id,0,none⟩) (n+1) (n+1)) sz (n+1) (L++X)/\(∀ j,j<256*c->(v ≠ .slice none 0 0->j ≠ Z0q v)->h'.f j=h.f j):=by
 have hlim':Nat.ble ((n+1)*(by'+1)) 17592186044416=true:=Nat.ble_eq_true_of_le hlim
 have hsrc:Z0A (newB h b (ints X)) sz (.slice (some ⟨b,0,none⟩) 1 1)=some (ints X,1):=by
  have:Nat.ble (0+1*sz) (ints X).length=true:=Nat.ble_eq_true_of_le (by simp [hX])
  simp only [Z0A,Z0I,Z0k,get_newB_same,Option.bind_some,this,cond_true,List.drop_zero]
  rw [List.take_of_length_le (by simp [hX])]
 have hn1:n+1<=17592186044416:=by
  have:(n+1)*1<=(n+1)*(by'+1):=Nat.mul_le_mul_left _ qO
  omega
 have hcap:Nat.ble (n+1) n=false:=by rw [Bool.eq_false_iff]; intro hh; have:=Nat.le_of_ble_eq_true hh; omega
 rcases ha with ⟨rfl,rfl,rfl⟩ | ⟨h0,h1,h2,i,rfl,h3,h4,h5⟩
 · refine ⟨HeapC.set (newB h b (ints X)) id (.cells false (some sz) (ints X)), ?_,.inr ⟨by omega,by simp [hX],by omega,id,rfl,by omega,hid', ?_⟩, ?_⟩
   · simp only [Z6e,hsrc,Option.bind_some,appTo,hcap,cond_false,Z1M,hlim',Z0Q,Bool.and_self,cond_true,Nat.beq_refl,Nat.zero_add]
   · rw [Z0b,if_pos rfl]; rfl
   · intro j hj _
     rw [Z0b,if_neg qO,Z01,if_neg qO]
 · have hbi:i ≠ b:=by omega
   have hg:HeapC.get (newB h b (ints X)) i=some (.cells false (some sz) (ints L)):=by rw [get_newB_ne _ _ _ _ hbi]; exact h5
   have hr:Nat.ble (0+n*sz) (ints L).length=true:=Nat.ble_eq_true_of_le (by simp [h1])
   refine ⟨HeapC.set (HeapC.set (newB h b (ints X)) i .dead) id (.cells false (some sz) (((ints L).drop 0).take (n*sz)++ints X)), ?_,.inr ⟨by omega, ?_,by omega,id,rfl,by omega,hid', ?_⟩, ?_⟩
   · simp only [Z6e,hsrc,Option.bind_some,appTo,hcap,cond_false,Z1M,hlim',Z0Q,Bool.and_self,cond_true,Z0I,Z0k,hg,hr,Nat.beq_refl,Bool.not_false,Bool.and_true]
   · simp [h1,hX,Nat.succ_mul]
   · rw [Z0b,if_pos rfl,List.drop_zero,List.take_of_length_le (by simp [h1]),Z3S]
   · intro j hj hv
     have:=hv (by intro e; cases e)
     rw [blkOf_sl] at this
     rw [Z0b,if_neg qO,Z0b,if_neg this,Z01,if_neg qO]
end Go.Ab

namespace Go.Proofs.Ytdodippbpdechaa
open Go Go.Ab Go.Proofs
theorem mT118:ZmG P 118=some (121,3):=by kernel_rfl
theorem kO121 (a b:Int):Z7L P Z13 121 (av [a,b])=true:=by kernel_rfl
theorem plA (a b:Int):plainL (av [a,b])=true:=by rfl
theorem zT3:Z6Q P 3=some (.int .i64 0):=by kernel_rfl
theorem Znv (a0 a1 b0 b1:Int):aEq P Z13 121 (av [a0,a1]) (av [b0,b1])=(cond (a0 == b0) (cond (a1 == b1) (some true) (some false)) (some false)):=by kernel_rfl
theorem eq_crn (a0 a1 b0 b1:Int):aEq P Z13 121 (av [a0,a1]) (av [b0,b1])=some (decide (a0=b0/\a1=b1)):=by
 rw [Znv]
 by_cases h0:a0=b0 <;> by_cases h1:a1=b1 <;> simp [h0,h1,Bool.cond_eq_ite]
def rk (Q:Nat->Bool):Nat->Nat
 | 0=>0
 | x+1=>rk Q x+if Q x=true then 1 else 0
theorem Z9a (Q:Nat->Bool):∀ x,rk Q x<=x
 | 0=>Nat.le_refl _
 | x+1=>by have:=Z9a Q x; rw [rk]; split <;> omega
theorem Zgz (Q:Nat->Bool) {x:Nat}:∀ {y:Nat},x<=y->rk Q x<=rk Q y
 | 0,h=>by rw [show x=0 by omega]; exact Nat.le_refl _
 | y+1,h=>by
  rw [rk]
  by_cases e:x=y+1
  · rw [e,rk]; exact Nat.le_refl _
  · have:=Zgz Q (x:=x) (y:=y) qO; omega
theorem ZiJ (Q:Nat->Bool) {x m:Nat} (hx:x<m) (hq:Q x=true):rk Q x<rk Q m:=by
 have:=Zgz Q (x:=x+1) (y:=m) qO
 rw [rk,if_pos hq] at this
 omega
def crn (Q:Nat->Bool):Nat->List Int
 | 0=>[]
 | x+1=>crn Q x++if Q x=true then [((x / 4:Nat):Int),((x % 4:Nat):Int)] else []
def Zcu (Q:Nat->Bool):Nat->List (Value × Value)
 | 0=>[]
 | x+1=>Zcu Q x++if Q x=true then [(av [((x / 4:Nat):Int),((x % 4:Nat):Int)],.int .i64 (rk Q x:Nat))] else []
theorem Zai (Q:Nat->Bool):∀ x,(crn Q x).length=rk Q x*2
 | 0=>rfl
 | x+1=>by
  rw [crn,rk,List.length_append,Zai Q x]
  split
  · simp; omega
  · simp
theorem ZeR (Q:Nat->Bool) {x:Nat} (hq:Q x=true):∀ {m:Nat},x<m->((crn Q m).drop (rk Q x*2)).take 2=[((x / 4:Nat):Int),((x % 4:Nat):Int)]
 | 0,h=>by omega
 | m+1,h=>by
  have hl:=Zai Q m
  rw [crn]
  by_cases e:x=m
  · subst e
    rw [if_pos hq,List.drop_append,List.drop_of_length_le qO,List.nil_append,hl,Nat.sub_self,List.drop_zero]
    rfl
  · have h1:=ZiJ Q (x:=x) (m:=m) qO hq
    rw [List.drop_append_of_le_length qO,List.take_append_of_le_length (by rw [List.length_drop]; omega)]
    exact ZeR Q hq qO
theorem Z8A (Q:Nat->Bool) (y:Nat):∀ (m:Nat) (L:List (Value × Value)) (i:Nat),Z8L P 121 (av [((y / 4:Nat):Int),((y % 4:Nat):Int)]) (Zcu Q m++L) i=if y<m/\Q y=true then some (some (i+rk Q y,.int .i64 (rk Q y:Nat))) else Z8L P 121 (av [((y / 4:Nat):Int),((y % 4:Nat):Int)]) L (i+rk Q m)
 | 0,L,i=>by
  rw [if_neg qO]
  rfl
 | m+1,L,i=>by
  rw [Zcu,List.append_assoc,Z8A Q y m]
  by_cases h1:y<m/\Q y=true
  · rw [if_pos h1,if_pos ⟨by omega,h1.2⟩]
  · rw [if_neg h1]
    by_cases hm:Q m=true
    · rw [if_pos hm,rk,if_pos hm]
      show (aEq P Z13 121 (av [((y / 4:Nat):Int),((y % 4:Nat):Int)]) (av [((m / 4:Nat):Int),((m % 4:Nat):Int)])).bind _=_
      rw [eq_crn]
      by_cases e:y=m
      · subst e
        rw [decide_eq_true ⟨rfl,rfl⟩,if_pos ⟨by omega,hm⟩]
        rfl
      · rw [decide_eq_false (fun z=>e qO),if_neg (fun z=>h1 ⟨by omega,z.2⟩)]
        rfl
    · rw [if_neg hm,rk,if_neg hm,List.nil_append]
      by_cases e:y=m
      · subst e; rw [if_neg (fun z=>hm z.2)]; rfl
      · rw [if_neg (fun z=>h1 ⟨by omega,z.2⟩)]; rfl
theorem Zh0 {h:FH} {b m:Nat} {Q:Nat->Bool} (hg:HeapC.get h b=some (.map (Zcu Q m))) (y:Nat):Z5t P h 118 (.map (some b)) (av [((y / 4:Nat):Int),((y % 4:Nat):Int)]) false=some (.int .i64 (if y<m/\Q y=true then (rk Q y:Int) else 0)):=by
 have hf:=Z8A Q y m [] 0
 rw [List.append_nil] at hf
 have hp:plainL (.int .i64 0)=true:=rfl
 simp only [Z5t,mT118,Option.bind_some,kO121,cond_true,zT3,hp,hg,hf]
 split
 · rfl
 · rfl
theorem Zj6 {h:FH} {b m:Nat} {Q:Nat->Bool} (hg:HeapC.get h b=some (.map (Zcu Q m))) (hq:Q m=true):Z0D P h 118 (.map (some b)) (av [((m / 4:Nat):Int),((m % 4:Nat):Int)]) (.int .i64 (rk Q m:Nat))=some (HeapC.set h b (.map (Zcu Q (m+1)))):=by
 have hf:=Z8A Q m m [] 0
 rw [List.append_nil,if_neg qO] at hf
 have hf':Z8L P 121 (av [((m / 4:Nat):Int),((m % 4:Nat):Int)]) (Zcu Q m) 0=some none:=hf
 simp only [Z0D,mT118,Option.bind_some,kO121,plA,Bool.and_self,cond_true,hg,hf']
 rw [Zcu,if_pos hq]
structure LI (c0 c lb mb:Nat) (h:FH) (s v:Value) (Q:Nat->Bool) (x:Nat):Prop where
 hf:h.f lb=some (.cells false none [s,v,.map (some mb)])
 mp:h.f mb=some (.map (Zcu Q x))
 ls:GrS c0 h c v 2 (rk Q x) (crn Q x)
 ne:lb ≠ mb
 lo:lb<256*c0
 mo:mb<256*c0
theorem LI.mono {c0 c c' lb mb:Nat} {h:FH} {s v:Value} {Q:Nat->Bool} {x:Nat} (a:LI c0 c lb mb h s v Q x) (hc:c<=c'):LI c0 c' lb mb h s v Q x:=⟨a.hf,a.mp,a.ls.mono hc,a.ne,a.lo,a.mo⟩
theorem LI.skip {c0 c lb mb:Nat} {h:FH} {s v:Value} {Q:Nat->Bool} {x:Nat} (a:LI c0 c lb mb h s v Q x) (hq:Q x=false):LI c0 c lb mb h s v Q (x+1):=by
 have e1:rk Q (x+1)=rk Q x:=by rw [rk,hq]; rfl
 have e2:crn Q (x+1)=crn Q x:=by rw [crn,hq]; simp
 have e3:Zcu Q (x+1)=Zcu Q x:=by rw [Zcu,hq]; simp
 exact ⟨a.hf,by rw [e3]; exact a.mp,by rw [e1,e2]; exact a.ls,a.ne,a.lo,a.mo⟩
theorem LI.step {c0 c lb mb:Nat} {h:FH} {s v:Value} {Q:Nat->Bool} {x:Nat} (a:LI c0 c lb mb h s v Q x) (hq:Q x=true) (hx:x<=100000) (hc0:c0<=c) (c1 b1 i1:Nat) (hb1:256*c<=b1) (hi1:256*c<=i1) (hne1:b1 ≠ i1) (hi1':i1<256*c1) :
 ∃ h1 h2 H2,Z0D P h 118 (.map (some mb)) (av [((x / 4:Nat):Int),((x % 4:Nat):Int)]) (.int .i64 (rk Q x:Nat))=some h1/\ld1 h1 (.pointer (some ⟨lb,1,none⟩))=some v ∧
  Z6e (newB h1 b1 (ints [((x / 4:Nat):Int),((x % 4:Nat):Int)])) i1 2 16 v (.slice (some ⟨b1,0,none⟩) 1 1)=some (.slice (some ⟨i1,0,none⟩) (rk Q x+1) (rk Q x+1),h2) ∧
  stN h2 1 (.pointer (some ⟨lb,1,none⟩)) (.slice (some ⟨i1,0,none⟩) (rk Q x+1) (rk Q x+1))=some H2/\(∀ j,j<256*c0->j ≠ lb->j ≠ mb->H2.f j=h.f j) ∧
  LI c0 c1 lb mb H2 s (.slice (some ⟨i1,0,none⟩) (rk Q x+1) (rk Q x+1)) Q (x+1):=by
 obtain ⟨hf,mp,ls,ne,lo,mo⟩:=a
 have hxx:=Z9a Q x
 have u1:=Zj6 (show HeapC.get h mb=_ from mp) hq
 obtain ⟨h1,hh1⟩:∃ h1,HeapC.set h mb (.map (Zcu Q (x+1)))=h1:=⟨_,rfl⟩
 rw [hh1] at u1
 have f1:h1.f lb=some (.cells false none [s,v,.map (some mb)]):=by rw [← hh1,Z0b,if_neg ne]; exact hf
 have vmb:v ≠ .slice none 0 0->Z0q v ≠ mb:=fun hv=>by have:=(ls.blk hv).1; omega
 have ls1:GrS c0 h1 c v 2 (rk Q x) (crn Q x):=ls.keep fun hv=>by rw [← hh1,Z0b,if_neg (vmb hv)]
 obtain ⟨h2,e2,a2,k2⟩:=ls1.app (c':=c1) [((x / 4:Nat):Int),((x % 4:Nat):Int)] rfl qO 16 b1 i1 hb1 hi1 hne1 hc0 hi1' qO
 have va:∀ j,j<256*c0->v ≠ .slice none 0 0->j ≠ Z0q v:=fun j hj hv=>by have:=(ls.blk hv).1; omega
 have f2:h2.f lb=some (.cells false none [s,v,.map (some mb)]):=(k2 lb qO (va lb lo)).trans f1
 have s2:=Z11 (v:=.slice (some ⟨i1,0,none⟩) (rk Q x+1) (rk Q x+1)) (o:=1) (show HeapC.get h2 lb=_ from f2) (by simp) a2.flat.2 a2.flat.1
 obtain ⟨H2,hH2⟩:∃ H2,HeapC.set h2 lb (.cells false none [s,.slice (some ⟨i1,0,none⟩) (rk Q x+1) (rk Q x+1),.map (some mb)])=H2:=⟨_,rfl⟩
 have s2':stN h2 1 (.pointer (some ⟨lb,1,none⟩)) (.slice (some ⟨i1,0,none⟩) (rk Q x+1) (rk Q x+1))=some H2:=by rw [s2,← hH2]; rfl
 have K2:∀ j,j<256*c->j ≠ lb->(v ≠ .slice none 0 0->j ≠ Z0q v)->H2.f j=h1.f j:=fun j hj hl hv=>by rw [← hH2,Z0b,if_neg hl]; exact k2 j hj hv
 have er:rk Q (x+1)=rk Q x+1:=by rw [rk,if_pos hq]
 have ecr:crn Q (x+1)=crn Q x++[((x / 4:Nat):Int),((x % 4:Nat):Int)]:=by rw [crn,if_pos hq]
 refine ⟨h1,h2,H2,u1, ?_,e2,s2',fun j hj h3 h4=>?_,⟨by rw [← hH2,Z0b,if_pos rfl], ?_, ?_,ne,lo,mo⟩⟩
 · rw [Z02 (cs:=[s,v,.map (some mb)]) ⟨false,none,f1⟩]; rfl
 · rw [K2 j qO h3 (va j hj),← hh1,Z0b,if_neg h4]
 · rw [K2 mb qO (Ne.symm ne) (va mb mo),← hh1,Z0b,if_pos rfl]
 · rw [er,ecr]
   refine a2.keep fun _=>?_
   rw [blkOf_sl,← hH2,Z0b,if_neg qO]

def inC (Of:List Int) (v:Int) (x:Nat):Bool:=decide (Of.getD x 0=v)
theorem bldL2 (a b:Int):Z7R [.int .i64 0,.int .i64 0] [(0,2,av [a,b])]=some (ints [a,b]):=rfl
theorem link_i (tv s:Value) (n lb mb t c0 cm:Nat) (Of:List Int) (v:Int) (h0:FH) (df:List Nat) (hO:SlI h0 cm tv 1 (4*n) Of) (hlb:256*cm<=lb) (hmb:256*cm<=mb) (hcm:cm<=c0) (ht:t<n) (hn:n<=60) :
 ∀ (r i c:Nat) (H:FH) (w:Value),i+r=4->c0<=c->(∀ j,j<256*c0->j ≠ lb->j ≠ mb->H.f j=h0.f j)->LI c0 c lb mb H s w (inC Of v) (4*t+i) →
 Ans (G (Z9S none) [tv,.int .i64 v,ptrTo lb,.int .i64 t,.int .i64 n,.int .i64 t,.int .i64 i] H c df) fun q=>q.e = .exit 2/\q.vs=[tv,.int .i64 v,ptrTo lb,.int .i64 t,.int .i64 n,.int .i64 t,.int .i64 4]/\q.df=df/\c<=q.c/\(∀ j,j<256*c0->j ≠ lb->j ≠ mb->q.h.f j=h0.f j) /\ ∃ w,LI c0 q.c lb mb q.h s w (inC Of v) (4*t+4):=by
 intro r
 induction r with
 | zero =>
  intro i c H w hi hc hH a
  obtain rfl:i=4:=by omega
  refine Ans.lpN rfl rfl (Z4V ..) ?_
  unfold Z4m
  have fx:=True.intro
  refine Ans.go ?_
  clear fx
  exact Ans.exitN ⟨rfl,rfl,rfl,(by show c<=c+1; omega),hH,w,a.mono (by show c<=c+1; omega)⟩
 | succ r ih =>
  intro i c H w hi hc hH a
  have hi4:i<4:=by omega
  have sm:Z0s cm h0 H:=fun j hj=>hH j qO qO qO
  have hO':=hO.same sm
  have l1:=hO'.rd (4*t+i) qO
  have x1:=hO'.ixs1 .i64 (4*(t:Int)+i) qO qO
  rw [show (4*(t:Int)+i).toNat=4*t+i by omega] at x1
  have hq:inC Of v (4*t+i)=decide (Of.getD (4*t+i) 0=v):=rfl
  have l2:ld1 H (.pointer (some ⟨lb,2,none⟩))=some (.map (some mb)):=by rw [Z02 (cs:=[s,w,.map (some mb)]) ⟨false,none,a.hf⟩]; rfl
  have l3:ld1 H (.pointer (some ⟨lb,1,none⟩))=some w:=by rw [Z02 (cs:=[s,w,.map (some mb)]) ⟨false,none,a.hf⟩]; rfl
  have ll:=a.ls.sl.len
  obtain ⟨Z,hZ⟩:∃ Z,Of.getD (4*t+i) 0=Z:=⟨_,rfl⟩
  rw [hZ] at l1 hq
  have tn:t<60:=by omega
  have hrk:=Z9a (inC Of v) (4*t+i)
  refine Ans.lpN rfl rfl (Z4V ..) ?_
  unfold Z4m
  by_cases e:Z=v
  · rw [decide_eq_true e] at hq
    obtain ⟨h1,h2,H2,e1,e2,e3,e4,e5,e6⟩:=a.step hq qO hc (c+1+1+1+1+1) (256*(c+1+1+1+1)+8) (256*(c+1+1+1+1)+9) qO qO qO qO
    rw [show (4*t+i) / 4=t by omega,show (4*t+i) % 4=i by omega] at e1 e3
    have b1:=ZnL t i
    have b2:=bldL2 t i
    have hk:=ih (i+1) (c+1+1+1+1+1+1) H2 _ qO qO (fun j hj h3 h4=>(e5 j hj h3 h4).trans (hH j hj h3 h4)) (e6.mono qO)
    obtain ⟨K,hK⟩:∃ K,rk (inC Of v) (4*t+i)=K:=⟨_,rfl⟩
    rw [hK] at ll e1 e3 e4 hrk
    have fx:=ai x1 (ai l1 (ai l2 (ai b1 (ai l3 (ai ll (ai e1 (ai e2 (ai b2 (ai e3 e4)))))))))
    refine Ans.go ?_
    clear fx
    refine Ans.nextN ?_
    refine hk.mono ?_
    rintro q ⟨q1,q2,q3,q4,q5⟩
    exact ⟨q1,q2,q3,by omega,q5⟩
  · rw [decide_eq_false e] at hq
    have hk:=ih (i+1) (c+1+1+1+1) H w qO qO hH ((a.skip hq).mono qO)
    have fx:=ai x1 l1
    refine Ans.go ?_
    clear fx
    refine Ans.nextN ?_
    refine hk.mono ?_
    rintro q ⟨q1,q2,q3,q4,q5⟩
    exact ⟨q1,q2,q3,by omega,q5⟩
theorem link_t (tv s:Value) (n lb mb c0 cm:Nat) (Of:List Int) (v:Int) (h0:FH) (df:List Nat) (hO:SlI h0 cm tv 1 (4*n) Of) (hlb:256*cm<=lb) (hmb:256*cm<=mb) (hcm:cm<=c0) (hn:n<=60) :
 ∀ (r t c:Nat) (H:FH) (w:Value),t+r=n->c0<=c->(∀ j,j<256*c0->j ≠ lb->j ≠ mb->H.f j=h0.f j)->LI c0 c lb mb H s w (inC Of v) (4*t) →
 Ans (G (Z9T none) [tv,.int .i64 v,ptrTo lb,.int .i64 n,.int .i64 t] H c df) fun q=>q.e = .exit 0/\q.vs=[tv,.int .i64 v,ptrTo lb,.int .i64 n,.int .i64 n]/\q.df=df/\c<=q.c/\(∀ j,j<256*c0->j ≠ lb->j ≠ mb->q.h.f j=h0.f j) /\ ∃ w,LI c0 q.c lb mb q.h s w (inC Of v) (4*n):=by
 intro r
 induction r with
 | zero =>
  intro t c H w ht hc hH a
  obtain rfl:t=n:=by omega
  refine Ans.lpN rfl rfl (Z4W ..) ?_
  unfold Z4n
  have fx:=True.intro
  refine Ans.go ?_
  clear fx
  exact Ans.exitN ⟨rfl,rfl,rfl,(by show c<=c+1; omega),hH,w,a.mono (by show c<=c+1; omega)⟩
 | succ r ih =>
  intro t c H w ht hc hH a
  obtain ⟨⟨re,rv,K,k,rd⟩,hr,r1,r2,r3,r4,r5,w',r6⟩:=link_i tv s n lb mb t c0 cm Of v h0 df hO hlb hmb hcm qO hn 4 0 (c+1+1+1) H w qO qO hH (a.mono qO)
  simp only at r1 r2 r3 r4 r5 r6
  subst r1 r2 r3
  simp only [Int.ofNat_eq_natCast,Int.cast_ofNat_Int] at hr
  have hk:=ih (t+1) (k+1) K w' qO qO r5 (r6.mono qO)
  have tn:n<=60:=hn
  refine Ans.lpN rfl rfl (Z4W ..) ?_
  unfold Z4n
  have fx:=hr
  refine Ans.go ?_
  clear fx
  refine Ans.nextN ?_
  refine hk.mono ?_
  rintro q ⟨q1,q2,q3,q4,q5⟩
  exact ⟨q1,q2,q3,by omega,q5⟩
theorem ZmI (cb:Nat) (cs:List Value) (tv s:Value) (n:Nat) (Gl Of:List Int) (v:Int) (h:FH) (c:Nat) (df:List Nat) (hc:Z0f h cb (s::cs)) (lc:cb<256*c) (hs:SlI h c s 20 n Gl) (hO:SlI h c tv 1 (4*n) Of) (hn:n<=60) :
 Ans (G (.fn 60) [ptrTo cb,tv,.int .i64 v] h c df) fun r=>∃ lb mb w,r=⟨.ret,[ptrTo lb],r.h,r.c,[]⟩/\c+1+1<=r.c/\Z0s c h r.h/\LI (c+1+1) r.c lb mb r.h s w (inC Of v) (4*n)/\256*c<=lb/\256*c<=mb:=by
 refine Ans.call' (fun r e=>f60_go e) ?_
 unfold ZhD
 have l0:=Z1m hc
 obtain ⟨mb,hmb⟩:∃ b,256*(c+1)+4=b:=⟨_,rfl⟩
 obtain ⟨lb,hlb⟩:∃ b,256*(c+1)+6=b:=⟨_,rfl⟩
 have u5:Z1z [.slice none 0 0,.slice none 0 0,.map none] [(0,1,.agg #[s]),(1,1,.slice none 0 0),(2,1,.map (some mb))]=some (.agg #[s,.slice none 0 0,.map (some mb)]):=rfl
 have u7:(Value.agg #[s,.slice none 0 0,.map (some mb)]).cells.toList=[s,.slice none 0 0,.map (some mb)]:=rfl
 have u6:((Value.agg #[s,.slice none 0 0,.map (some mb)]).cells.toList.all Z07)=true:=by
  rw [u7]
  simp only [List.all_cons,List.all_nil,hs.flat,Bool.true_and,Bool.and_true]
  rfl
 obtain ⟨M,hM⟩:∃ M,newB (HeapC.set h mb (.map [])) lb [s,.slice none 0 0,.map (some mb)]=M:=⟨_,rfl⟩
 have tM:∀ j,j ≠ lb->j ≠ mb->M.f j=h.f j:=fun j h1 h2=>by rw [← hM,Z01,if_neg h1,Z0b,if_neg h2]
 have sM:Z0s c h M:=fun j hj=>tM j qO qO
 have lM:ld1 M (.pointer (some ⟨cb,0,none⟩))=some s:=by rw [Z02 (hc.same lc sM)]; rfl
 have ln:=hs.len
 have a:LI (c+1+1) (c+1+1) lb mb M s (.slice none 0 0) (inC Of v) 0:=⟨by rw [← hM,Z01,if_pos rfl],by rw [← hM,Z01,if_neg qO,Z0b,if_pos rfl]; rfl,.inl ⟨rfl,rfl,rfl⟩,by omega,by omega,by omega⟩
 obtain ⟨⟨re,rv,K,k,rd⟩,hr,r1,r2,r3,r4,r5,w,r6⟩:=link_t tv s n lb mb (c+1+1) c Of v M [] (hO.same sM) qO qO qO hn n 0 (c+1+1+1) M (.slice none 0 0) qO qO (fun _ _ _ _=>rfl) (a.mono qO)
 simp only at r1 r2 r3 r4 r5 r6
 subst r1 r2 r3
 simp only [Int.ofNat_eq_natCast,Int.cast_ofNat_Int] at hr
 have fx:=ai l0 (ai hmb (ai hlb u5))
 refine Ans.go ?_
 clear fx
 rw [u6,u7,hmb,hlb,hM]
 simp only [cond_true]
 have fx:=ai lM (ai ln hr)
 refine Ans.go ?_
 clear fx
 refine .done ⟨lb,mb,w,rfl,(by show c+1+1<=k+1; omega),fun j hj=>?_,r6.mono (by show k<=k+1; omega),by omega,by omega⟩
 show K.f j=h.f j
 rw [r5 j qO qO qO]
 exact sM j hj

def nxV (Gl:List Int) (Q:Nat->Bool) (t i f:Nat):Int:=if f=i ∨ Z0x (Z03 Gl t f)<0 then -1 else if Q (fV Gl t f i)=true then (rk Q (fV Gl t f i):Int) else 0
def nxP (g:Nat->Int) (f:Nat):List Int:=[if 0<f then g 0 else -1,if 1<f then g 1 else -1,if 2<f then g 2 else -1,if 3<f then g 3 else -1]
theorem ZmB (g:Nat->Int) {f:Nat} (hf:f<4):(nxP g f).set f (g f)=nxP g (f+1):=by
 have:f=0 ∨ f=1 ∨ f=2 ∨ f=3:=by omega
 rcases this with rfl | rfl | rfl | rfl <;> simp [nxP]
theorem ZiX (g:Nat->Int) {f:Nat} (hf:f<4) (h:g f = -1):nxP g f=nxP g (f+1):=by
 have:f=0 ∨ f=1 ∨ f=2 ∨ f=3:=by omega
 rcases this with rfl | rfl | rfl | rfl <;> simp [nxP,h]
def nxL (Gl:List Int) (Q:Nat->Bool) (t i:Nat):List Int:=nxP (nxV Gl Q t i) 4
structure LR (h:FH) (c lb mb:Nat) (s:Value) (n:Nat) (Gl:List Int) (Q:Nat->Bool):Prop where
 st:∃ w,Z0f h lb [s,w,.map (some mb)]/\SlI h c w 2 (rk Q (4*n)) (crn Q (4*n))
 mp:h.f mb=some (.map (Zcu Q (4*n)))
 sl:SlI h c s 20 n Gl
 lb:lb<256*c
 mb:mb<256*c
 ok:Z0v Gl n=true
 le:n<=60
theorem LR.same {h h':FH} {c c' lb mb:Nat} {s:Value} {n:Nat} {Gl:List Int} {Q:Nat->Bool} (a:LR h c lb mb s n Gl Q) (hs:Z0s c h h') (hc:c<=c'):LR h' c' lb mb s n Gl Q:=by
 obtain ⟨w,g,q⟩:=a.st
 have h1:=a.lb
 have h2:=a.mb
 exact ⟨⟨w,g.same h1 hs,(q.same hs).mono hc⟩,(hs mb h2).trans a.mp,(a.sl.same hs).mono hc,by omega,by omega,a.ok,a.le⟩
theorem ZgT (lb mb kb x4b ob t i c:Nat) (s:Value) (n:Nat) (Gl:List Int) (Q:Nat->Bool) (cm:Nat) (h0:FH) (df:List Nat) (a:LR h0 cm lb mb s n Gl Q) (hcm:cm<=c) (ht:t<n) (hi:i<4) (gk:Z0f h0 kb [.int .i64 t,.int .i64 i]) (ok:kb ≠ ob) (om:256*cm<=ob) (lk:kb<256*c) (l4:x4b<256*c) (lo:ob<256*c) :
 ∀ (r f:Nat),f+r=4->Ans (G (Z9R none) [ptrTo lb,ptrTo kb,ptrTo x4b,ptrTo ob,av (Z66 Gl t),.int .i64 f] (newB h0 ob (ints (nxP (nxV Gl Q t i) f))) c df) fun q=>q=⟨.exit 0,[ptrTo lb,ptrTo kb,ptrTo x4b,ptrTo ob,av (Z66 Gl t),.int .i64 4],newB h0 ob (ints (nxL Gl Q t i)),c,df⟩:=by
 intro r
 have hG:Gl.length=n*20:=a.sl.1
 have hrl:=Z4H hG ht
 have hlb:=a.lb
 have hmb:=a.mb
 have ll:lb<256*c:=by omega
 have orow:OkV c (av (Z66 Gl t)):=OkV.av _ _
 induction r with
 | zero =>
  intro f hf
  obtain rfl:f=4:=by omega
  refine Ans.lpG rfl rfl (Z2K ..) ?_
  unfold Z3d
  have fx:=True.intro
  refine Ans.go ?_
  clear fx
  (have fx:=ai ll (ai lk (ai l4 (ai lo orow))); refine Ans.ex0 ?_; clear fx)
  rfl
 | succ r ih =>
  intro f hf
  have hf4:f<4:=by omega
  have hk:=ih (f+1) qO
  have x1:=Z8F (Z66 Gl t) 4 5 .i64 (f:Int) qO qO hrl
  rw [Int.toNat_natCast,Zaz hf4] at x1
  have hfl:=Z0j hG ht hf4
  have f4:(f:Int)<4:=by omega
  obtain ⟨xb,hxb⟩:∃ b,256*(c+1)+2=b:=⟨_,rfl⟩
  obtain ⟨S,hS⟩:∃ S,newB h0 ob (ints (nxP (nxV Gl Q t i) f))=S:=⟨_,rfl⟩
  have hst:stN (newB S xb [.int .i64 0,.int .i64 0,.int .i64 0,.int .i64 0,.int .i64 0]) 5 (.pointer (some ⟨xb,0,none⟩)) (av (Z03 Gl t f))=some (newB S xb (ints (Z03 Gl t f))):=stN_all _ _ 5 _ _ hfl rfl
  have b0:ld1 (newB S xb (ints (Z03 Gl t f))) (.pointer (some ⟨xb,0,none⟩))=some (.int .i64 (Z0x (Z03 Gl t f))):=by rw [ld1_newB_same,ints_getD _ _ qO]; rfl
  have gk1:Z0f (newB S xb (ints (Z03 Gl t f))) kb [.int .i64 t,.int .i64 i]:=by rw [← hS]; exact (gk.newB_ne ok).newB_ne qO
  have b1:ld1 (newB S xb (ints (Z03 Gl t f))) (.pointer (some ⟨kb,1,none⟩))=some (.int .i64 i):=by rw [Z02 gk1]; rfl
  have sB:Z0s c S (newB S xb (ints (Z03 Gl t f))):=fun j hj=>by rw [Z01,if_neg qO]
  obtain ⟨S1,hS1⟩:∃ S1,newB S xb (ints (Z03 Gl t f))=S1:=⟨_,rfl⟩
  rw [hS1] at hst b0 gk1 b1 sB
  by_cases h0':f=i ∨ Z0x (Z03 Gl t f)<0
  · have hv:nxV Gl Q t i f = -1:=if_pos h0'
    rw [← ZiX _ hf4 hv,hS] at hk
    rw [hS]
    refine Ans.lpG rfl rfl (Z2K ..) ?_
    unfold Z3d
    obtain ⟨F,hF⟩:∃ F,Z03 Gl t f=F:=⟨_,rfl⟩
    rw [hF] at hst b0 x1 h0' hS1
    by_cases h1:f=i
    · subst h1
      have fx:=ai x1 (ai hxb (ai hst b1))
      refine Ans.go ?_
      clear fx
      (have fx:=ai ll (ai lk (ai l4 (ai lo (ai orow sB)))); refine Ans.nx0 ?_; clear fx)
      exact hk
    · have h1':¬ (f:Int)=i:=by omega
      have h2:=h0'.resolve_left h1
      have fx:=ai x1 (ai hxb (ai hst (ai b0 (ai b1 (ai h1' h2)))))
      refine Ans.go ?_
      clear fx
      (have fx:=ai ll (ai lk (ai l4 (ai lo (ai orow sB)))); refine Ans.nx0 ?_; clear fx)
      exact hk
  · have hfi:f ≠ i:=fun z=>h0' (.inl z)
    have hg:¬ Z0x (Z03 Gl t f)<0:=fun z=>h0' (.inr z)
    have g:=FGl.of a.ok hG ht hf4 hi (Ne.symm hfi) hg
    have hu:=g.u
    have hj:=g.j
    have hfv:fV Gl t f i=4*fU Gl t f+fJ Gl t f i:=rfl
    have hv:nxV Gl Q t i f=if Q (fV Gl t f i)=true then (rk Q (fV Gl t f i):Int) else 0:=if_neg h0'
    have b2:ld1 S1 (.pointer (some ⟨xb,1+i,none⟩))=some (.int .i64 (fJ Gl t f i:Nat)):=by
     have e:(Z03 Gl t f).getD (1+i) 0=(fJ Gl t f i:Nat):=by rw [← g.jz,Z0d,Z3T _ _ _ qO,Z2y]
     rw [← hS1,ld1_newB_same,ints_getD _ _ qO,e]
    rw [g.uz] at b0
    have b3:ld1 S1 (.pointer (some ⟨lb,2,none⟩))=some (.map (some mb)):=by
     obtain ⟨w,q,_⟩:=a.st
     have q':Z0f S1 lb [s,w,.map (some mb)]:=by rw [← hS1,← hS]; exact (q.newB_ne qO).newB_ne qO
     rw [Z02 q']; rfl
    have gm:HeapC.get S1 mb=some (.map (Zcu Q (4*n))):=by
     show S1.f mb=_
     rw [← hS1,Z01,if_neg qO,← hS,Z01,if_neg qO]
     exact a.mp
    have lk':=Zh0 gm (fV Gl t f i)
    rw [hfv,show (4*fU Gl t f+fJ Gl t f i) / 4=fU Gl t f by omega,show (4*fU Gl t f+fJ Gl t f i) % 4=fJ Gl t f i by omega,← hfv] at lk'
    have e1:(if fV Gl t f i<4*n/\Q (fV Gl t f i)=true then (rk Q (fV Gl t f i):Int) else 0)=nxV Gl Q t i f:=by
     rw [hv]
     by_cases z:Q (fV Gl t f i)=true
     · rw [if_pos ⟨by omega,z⟩,if_pos z]
     · rw [if_neg (fun q=>z q.2),if_neg z]
    rw [e1] at lk'
    have hw:stN S1 1 (.pointer (some ⟨ob,f,none⟩)) (.int .i64 (nxV Gl Q t i f))=some (HeapC.set S1 ob (.cells false none (ints (nxP (nxV Gl Q t i) (f+1))))):=by
     have fo:HeapC.get S1 ob=some (.cells false none (ints (nxP (nxV Gl Q t i) f))):=by
      show S1.f ob=_
      rw [← hS1,Z01,if_neg qO,← hS,Z01,if_pos rfl]
     rw [Z11 fo (by simp [nxP]; omega) rfl rfl,Z1Z,ZmB _ hf4]
    have bp:=ZnL (fU Gl t f:Nat) (fJ Gl t f i:Nat)
    obtain ⟨S2,hS2⟩:∃ S,newB h0 ob (ints (nxP (nxV Gl Q t i) (f+1)))=S:=⟨_,rfl⟩
    rw [hS2] at hk
    have up:Z42 c S S2:=by rw [← hS,← hS2]; exact Z42.both (Z1F.ints _ _) (Z42.refl _ _) lo
    have sB2:Z0s c S2 (HeapC.set S1 ob (.cells false none (ints (nxP (nxV Gl Q t i) (f+1))))):=fun j hj=>by
     rw [Z0b,← hS2,Z01,← hS1,Z01,if_neg (show ¬ j=xb by omega),← hS,Z01]
     split <;> rfl
    obtain ⟨S3,hS3⟩:∃ S,HeapC.set S1 ob (.cells false none (ints (nxP (nxV Gl Q t i) (f+1))))=S:=⟨_,rfl⟩
    rw [hS3] at hw sB2
    obtain ⟨Z,hZ⟩:∃ Z,nxV Gl Q t i f=Z:=⟨_,rfl⟩
    rw [hZ] at lk' hw
    obtain ⟨u,hu'⟩:∃ u,fU Gl t f=u:=⟨_,rfl⟩
    obtain ⟨p,hp'⟩:∃ u,fJ Gl t f i=u:=⟨_,rfl⟩
    rw [hu'] at b0 bp lk' hu
    rw [hp'] at b2 bp lk' hj
    obtain ⟨F,hF⟩:∃ F,Z03 Gl t f=F:=⟨_,rfl⟩
    rw [hF] at hst x1 hS1
    have h1':¬ (f:Int)=i:=by omega
    rw [hS]
    refine Ans.lpG rfl rfl (Z2K ..) ?_
    unfold Z3d
    have fx:=ai x1 (ai hxb (ai hst (ai b0 (ai b1 (ai b2 (ai b3 (ai h1' (ai bp (ai lk' hw)))))))))
    refine Ans.go ?_
    clear fx
    (have fx:=ai ll (ai lk (ai l4 (ai lo (ai orow sB2)))); refine Ans.nxB (B:=S2) ?_ ?_; exact (up); clear fx)
    exact hk
theorem ZmC (lb mb t i:Nat) (s:Value) (n:Nat) (Gl:List Int) (Q:Nat->Bool) (h:FH) (c:Nat) (df:List Nat) (a:LR h c lb mb s n Gl Q) (ht:t<n) (hi:i<4) :
 G (.fn 61) [ptrTo lb,av [(t:Int),(i:Int)]] h c df=some ⟨.ret,[av (nxL Gl Q t i)],h,c,[]⟩:=by
 refine Z1l (fun r e=>f61_go e) (by simp) ?_
 have u7:(av [(t:Int),(i:Int)]).cells.toList=[.int .i64 t,.int .i64 i]:=rfl
 have u6:((av [(t:Int),(i:Int)]).cells.toList.all Z07)=true:=rfl
 unfold ZhC
 rw [u6,u7]
 simp only [cond_true,Nat.add_zero]
 have b4:Z1z [.int .i64 0,.int .i64 0,.int .i64 0,.int .i64 0] [(0,1,.int .i64 (-1)),(1,1,.int .i64 (-1)),(2,1,.int .i64 (-1)),(3,1,.int .i64 (-1))]=some (av [-1,-1,-1,-1]):=rfl
 obtain ⟨ob,hob⟩:∃ b,256*(c+1)+1=b:=⟨_,rfl⟩
 obtain ⟨h0,hh0⟩:∃ h0,newB (newB h (256*c) [.int .i64 t,.int .i64 i]) (256*c+1) [.int .i64 0,.int .i64 0,.int .i64 0,.int .i64 0]=h0:=⟨_,rfl⟩
 have s0:Z0s c h h0:=fun j hj=>by rw [← hh0,Z01,if_neg qO,Z01,if_neg qO]
 have gk:Z0f h0 (256*c) [.int .i64 t,.int .i64 i]:=by rw [← hh0]; exact (Z0f.newB_same _ _ _).newB_ne qO
 have a0:=a.same s0 (Nat.le_refl c)
 have st:stN (newB h0 ob [.int .i64 0,.int .i64 0,.int .i64 0,.int .i64 0]) 4 (.pointer (some ⟨ob,0,none⟩)) (av [-1,-1,-1,-1])=some (newB h0 ob (ints (nxP (nxV Gl Q t i) 0))):=stN_all _ _ 4 _ _ rfl rfl
 obtain ⟨S,hS⟩:∃ S,newB h0 ob (ints (nxP (nxV Gl Q t i) 0))=S:=⟨_,rfl⟩
 have sS:Z0s c h S:=fun j hj=>by rw [← hS,Z01,if_neg qO]; exact s0 j hj
 have aS:=a.same sS (Nat.le_refl c)
 have lS:ld1 S (.pointer (some ⟨lb,0,none⟩))=some s:=by
  obtain ⟨w,q,_⟩:=aS.st
  rw [Z02 q]; rfl
 have kS:ld1 S (.pointer (some ⟨256*c,0,none⟩))=some (.int .i64 t):=by
  have:Z0f S (256*c) [.int .i64 t,.int .i64 i]:=by rw [← hS]; exact gk.newB_ne qO
  rw [Z02 this]; rfl
 have ix:=aS.sl.ixs .i64 t qO qO
 rw [Int.toNat_natCast] at ix
 have l1:ldN S 20 (.pointer (some ⟨Z0q s,Z2I s+t*20,none⟩))=some (av (Z66 Gl t)):=by
  rw [aS.sl.rdN 20 _ qO qO,Z66,Nat.mul_comm t 20]
 have hl:=Ans.eq (ZgT lb mb (256*c) (256*c+1) ob t i (c+1+1+1) s n Gl Q c h0 [] a0 qO ht hi gk qO qO qO qO qO 4 0 qO)
 rw [hS] at hl
 simp only [Int.ofNat_eq_natCast,Int.cast_ofNat_Int] at hl
 obtain ⟨K,hK⟩:∃ K,newB h0 ob (ints (nxL Gl Q t i))=K:=⟨_,rfl⟩
 rw [hK] at hl
 have tK:ldN K 4 (.pointer (some ⟨ob,0,none⟩))=some (av (nxL Gl Q t i)):=by
  rw [← hK,ldN_newB_same _ _ _ _ _ (by simp [nxL,nxP])]; rfl
 have f1:K.f (256*c+1)=some (.cells false none [.int .i64 0,.int .i64 0,.int .i64 0,.int .i64 0]):=by
  rw [← hK,Z01,if_neg qO,← hh0,Z01,if_pos rfl]
 have eK:newB K (256*c+1) [.int .i64 0,.int .i64 0,.int .i64 0,.int .i64 0]=K:=by
  apply FH.ext; intro j
  rw [Z01]
  split
  · rename_i e; rw [e,f1]
  · rfl
 have tW:stN K 4 (.pointer (some ⟨256*c+1,0,none⟩)) (av (nxL Gl Q t i))=some (newB K (256*c+1) (ints (nxL Gl Q t i))):=by
  have:=stN_all K (256*c+1) 4 [.int .i64 0,.int .i64 0,.int .i64 0,.int .i64 0] (nxL Gl Q t i) (by simp [nxL,nxP]) rfl
  rwa [eK] at this
 have tL:ldN (newB K (256*c+1) (ints (nxL Gl Q t i))) 4 (.pointer (some ⟨256*c+1,0,none⟩))=some (av (nxL Gl Q t i)):=by
  rw [ldN_newB_same _ _ _ _ _ (by simp [nxL,nxP])]; rfl
 have sE:Z0s c h (newB K (256*c+1) (ints (nxL Gl Q t i))):=fun j hj=>by
  rw [Z01,if_neg qO,← hK,Z01,if_neg qO]
  exact s0 j hj
 repeat' (first | ((with_reducible first | refine Ans.bz ?_ | refine Ans.r1 ?_ | refine Ans.pkT ?_ | refine Ans.pkF ?_); try dsimp only [v_zero,v_succ]) | (with_reducible first | refine Ans.btL ?_ | refine Ans.bfL ?_ | refine Ans.gyT ?_ | refine Ans.gyF ?_ | refine Ans.gyG ?_ | refine Ans.bb ?_ | refine Ans.bc ?_ | refine Ans.ba ?_) | ((with_reducible first | refine Ans.lsT ?_ ?_ | refine Ans.leT ?_ ?_ | refine Ans.grT ?_ ?_ | refine Ans.geT ?_ ?_ | refine Ans.eqT ?_ ?_ | refine Ans.neT ?_ ?_); (focus omega)) | ((with_reducible first | refine Ans.lsF ?_ ?_ | refine Ans.leF ?_ ?_ | refine Ans.grF ?_ ?_ | refine Ans.geF ?_ ?_ | refine Ans.eqF ?_ ?_ | refine Ans.neF ?_ ?_); (focus omega)) | (with_reducible first | refine Ans.lsS (fun _=>?_) (fun _=>?_) | refine Ans.leS (fun _=>?_) (fun _=>?_) | refine Ans.grS (fun _=>?_) (fun _=>?_) | refine Ans.geS (fun _=>?_) (fun _=>?_) | refine Ans.eqS (fun _=>?_) (fun _=>?_) | refine Ans.neS (fun _=>?_) (fun _=>?_)) | ((with_reducible first | refine Ans.addN ?_ ?_ | refine Ans.add ?_ ?_ | refine Ans.sub ?_ ?_ | refine Ans.mul ?_ ?_); (focus omega)) | ((with_reducible first | refine Ans.ct ?_ ?_); (focus (simp (disch:=(first | omega | with_reducible assumption | (simp <;> omega) | fail)) [b4,hob,hh0,st,hS,lS,kS,ix,l1,hl,tK,tW,tL,-ldN_newB_same]; done))) | ((with_reducible first | refine Ans.cf ?_ ?_); (focus (simp (disch:=(first | omega | with_reducible assumption | (simp <;> omega) | fail)) [b4,hob,hh0,st,hS,lS,kS,ix,l1,hl,tK,tW,tL,-ldN_newB_same]; done))) | (refine Ans.step (by simp (disch:=(first | omega | with_reducible assumption | (simp <;> omega) | fail)) [b4,hob,hh0,st,hS,lS,kS,ix,l1,hl,tK,tW,tL,-ldN_newB_same,-List.getD_eq_getElem?_getD] <;> rfl) ?_; try dsimp only [v_zero,v_succ]) | fail)
 exact Ans.pure rfl sE

def sgI (p:List Int) (j:Nat):Nat->Nat->Int->Int
 | 0,_,s=>s
 | r+1,i,s=>sgI p j r (i+1) (if p.getD j 0<p.getD i 0 then -s else s)
def sgO (p:List Int):Nat->Nat->Int->Int
 | 0,_,s=>s
 | r+1,j,s=>sgO p r (j+1) (sgI p j j 0 s)
def sgP (p:List Int):Int:=sgO p 4 0 1
theorem Zaw {p:List Int} {j:Nat}:∀ {r i:Nat} {s:Int},s=1 ∨ s = -1->sgI p j r i s=1 ∨ sgI p j r i s = -1
 | 0,_,_,h=>h
 | r+1,i,s,h=>by
  rw [sgI]
  refine Zaw ?_
  split <;> omega
theorem Zgs {p:List Int}:∀ {r j:Nat} {s:Int},s=1 ∨ s = -1->sgO p r j s=1 ∨ sgO p r j s = -1
 | 0,_,_,h=>h
 | r+1,j,s,h=>by
  rw [sgO]
  exact Zgs (Zaw h)
theorem Z63 (p:List Int):sgP p=1 ∨ sgP p = -1:=Zgs (.inl rfl)
theorem Zmi (p:List Int) (hp:p.length=4) (h:FH) (b c j:Nat) (hb:b<256*c) (hj:j<4) (hg:Z0f h b (ints p)) (df:List Nat) :
 ∀ (r i:Nat) (s:Int),i+r=j->(s=1 ∨ s = -1)->Ans (G (Z9F none) [ptrTo b,.int .i64 s,.int .i64 j,.int .i64 j,.int .i64 j,.int .i64 i] h c df) fun q=>q=⟨.exit 2,[ptrTo b,.int .i64 (sgI p j r i s),.int .i64 j,.int .i64 j,.int .i64 j,.int .i64 j],h,c,df⟩:=by
 intro r
 have l2:ld1 h (.pointer (some ⟨b,j,none⟩))=some (.int .i64 (p.getD j 0)):=by rw [Z02 hg,ints_getD _ _ qO]
 have j4:(j:Int)<4:=by omega
 induction r with
 | zero =>
  intro i s hi hs
  obtain rfl:i=j:=by omega
  refine Ans.lpG rfl rfl (Z4N ..) ?_
  unfold Z4f
  have fx:=True.intro
  refine Ans.go ?_
  clear fx
  (have fx:=hb; refine Ans.ex0 ?_; clear fx)
  rfl
 | succ r ih =>
  intro i s hi hs
  have l1:ld1 h (.pointer (some ⟨b,i,none⟩))=some (.int .i64 (p.getD i 0)):=by rw [Z02 hg,ints_getD _ _ qO]
  rw [sgI]
  obtain ⟨x,hx⟩:∃ x,p.getD i 0=x:=⟨_,rfl⟩
  obtain ⟨y,hy⟩:∃ y,p.getD j 0=y:=⟨_,rfl⟩
  rw [hx] at l1 ⊢
  rw [hy] at l2 ⊢
  refine Ans.lpG rfl rfl (Z4N ..) ?_
  unfold Z4f
  by_cases e:y<x
  · rw [if_pos e]
    have hk:=ih (i+1) (-s) qO qO
    have fx:=ai l1 l2
    refine Ans.go ?_
    clear fx
    (have fx:=hb; refine Ans.nx0 ?_; clear fx)
    exact hk
  · rw [if_neg e]
    have hk:=ih (i+1) s qO hs
    have fx:=ai l1 l2
    refine Ans.go ?_
    clear fx
    (have fx:=hb; refine Ans.nx0 ?_; clear fx)
    exact hk
theorem Ziz (p:List Int) (hp:p.length=4) (h:FH) (b c:Nat) (hb:b<256*c) (hg:Z0f h b (ints p)) (df:List Nat) :
 ∀ (r j:Nat) (s:Int),j+r=4->(s=1 ∨ s = -1)->Ans (G (Z9G none) [ptrTo b,.int .i64 s,.int .i64 j] h c df) fun q=>q=⟨.exit 0,[ptrTo b,.int .i64 (sgO p r j s),.int .i64 4],h,c,df⟩:=by
 intro r
 induction r with
 | zero =>
  intro j s hj hs
  obtain rfl:j=4:=by omega
  refine Ans.lpG rfl rfl (Z4O ..) ?_
  unfold Z4g
  have fx:=True.intro
  refine Ans.go ?_
  clear fx
  (have fx:=hb; refine Ans.ex0 ?_; clear fx)
  rfl
 | succ r ih =>
  intro j s hj hs
  have hin:=Ans.eq (Zmi p hp h b (c+1+1+1) j qO qO hg df j 0 s qO hs)
  simp only [Int.ofNat_eq_natCast,Int.cast_ofNat_Int] at hin
  have hs':=Zaw (p:=p) (j:=j) (r:=j) (i:=0) hs
  have hk:=ih (j+1) (sgI p j j 0 s) qO hs'
  have j4:(j:Int)<4:=by omega
  rw [sgO]
  obtain ⟨z,hz⟩:∃ z,sgI p j j 0 s=z:=⟨_,rfl⟩
  rw [hz] at hin hk ⊢
  refine Ans.lpG rfl rfl (Z4O ..) ?_
  unfold Z4g
  have fx:=hin
  refine Ans.go ?_
  clear fx
  (have fx:=hb; refine Ans.nx0 ?_; clear fx)
  exact hk
theorem Zmh (p:List Int) (hp:p.length=4) (h:FH) (c:Nat) (df:List Nat):G (.fn 92) [av p] h c df=some ⟨.ret,[.int .i64 (sgP p)],h,c,[]⟩:=by
 refine Z1l (fun r e=>f92_go e) (by simp) ?_
 have u7:(av p).cells.toList=ints p:=Z1y p
 unfold Zht
 rw [u7,Z0Q]
 simp only [cond_true,Nat.add_zero]
 have hl:=Ans.eq (Ziz p hp (newB h (256*c) (ints p)) (256*c) (c+1+1+1) qO (Z0f.newB_same _ _ _) [] 4 0 1 qO (.inl rfl))
 simp only [Int.ofNat_eq_natCast,Int.cast_ofNat_Int] at hl
 have sK:Z0s c h (newB h (256*c) (ints p)):=fun j hj=>by rw [Z01,if_neg qO]
 obtain ⟨K,hK⟩:∃ K,newB h (256*c) (ints p)=K:=⟨_,rfl⟩
 rw [hK] at hl sK ⊢
 have fx:=hl
 refine Ans.go ?_
 clear fx
 exact Ans.pure rfl sK
theorem ZiA (p:List Int) (hp:p ∈ p24) (h:FH) (c:Nat) (df:List Nat):G (.fn 91) [av p] h c df=some ⟨.ret,[.int .i64 (sgP p)],h,c,[]⟩:=by
 refine Z1l (fun r e=>f91_go e) (by simp) ?_
 have lp:=Z44 hp
 have u7:(av p).cells.toList=ints p:=Z1y p
 unfold Zhv
 rw [u7,Z0Q]
 simp only [cond_true,Nat.add_zero]
 have sK:Z0s c h (newB h (256*c) (ints p)):=fun j hj=>by rw [Z01,if_neg qO]
 have l1:ldN (newB h (256*c) (ints p)) 4 (.pointer (some ⟨256*c,0,none⟩))=some (av p):=by
  rw [ldN_newB_same _ _ _ _ _ (by simp [lp]),List.drop_zero,Z0G,List.take_of_length_le qO]; rfl
 obtain ⟨K,hK⟩:∃ K,newB h (256*c) (ints p)=K:=⟨_,rfl⟩
 rw [hK] at l1 sK ⊢
 have hv:=fun c=>Z16 p lp K c
 rw [Z84 hp] at hv
 have hs:=fun c=>Z0c (Zmh p lp K c [])
 have fx:=ai l1 (ai hv hs)
 refine Ans.go ?_
 clear fx
 exact Ans.pure rfl sK
theorem Zg6 (p:List Int) (hp:p ∈ p24) (h:FH) (c:Nat):callF G 91 [av p] h c=some (.int .i64 (sgP p),h,c):=Z0c (ZiA p hp h c [])

def zc:List Int->Nat
 | []=>0
 | x::l=>(if x=0 then 1 else 0)+zc l
theorem Zc1:∀ l:List Int,zc l<=l.length
 | []=>Nat.le_refl _
 | x::l=>by have:=Zc1 l; rw [zc,List.length_cons]; split <;> omega
theorem Zlz:∀ {l:List Int} {k:Nat} {w:Int},k<l.length->l.getD k 0=0->w ≠ 0->zc (l.set k w)+1=zc l
 | [],k,w,h,_,_=>by simp at h
 | x::l,0,w,_,h2,h3=>by
  have hx:x=0:=h2
  rw [List.set_cons_zero,zc,zc,if_neg h3,if_pos hx]; omega
 | x::l,k+1,w,h1,h2,h3=>by
  have:=Zlz (l:=l) (k:=k) (w:=w) (by simpa using h1) h2 h3
  rw [List.set_cons_succ,zc,zc]; omega
def oSt (Gl:List Int) (Q:Nat->Bool) (t i a f:Nat) (S q:List Int):Option (List Int × List Int) :=
 if nxV Gl Q t i f<0 then some (S,q)
 else if S.getD (nxV Gl Q t i f).toNat 0=0 then some (S.set (nxV Gl Q t i f).toNat (-S.getD a 0*sgP (Z0d (Z03 Gl t f))),q++[nxV Gl Q t i f])
 else if S.getD (nxV Gl Q t i f).toNat 0 ≠ -S.getD a 0*sgP (Z0d (Z03 Gl t f)) then none else some (S,q)
def oFs (Gl:List Int) (Q:Nat->Bool) (t i a:Nat):Nat->Nat->List Int->List Int->Option (List Int × List Int)
 | 0,_,S,q=>some (S,q)
 | r+1,f,S,q=>(oSt Gl Q t i a f S q).bind fun z=>oFs Gl Q t i a r (f+1) z.1 z.2
structure OV (K:Nat) (S q:List Int):Prop where
 xl:S.length=K
 v:∀ j,S.getD j 0=0 ∨ S.getD j 0=1 ∨ S.getD j 0 = -1
 qs:∀ x,x ∈ q->0<=x/\x<K/\S.getD x.toNat 0 ≠ 0
theorem Zj0 {a b:Int} (ha:a=1 ∨ a = -1) (hb:b=1 ∨ b = -1):-a*b=1 ∨ -a*b = -1:=by
 rcases ha with rfl | rfl <;> rcases hb with rfl | rfl <;> simp
theorem OV.sign {K:Nat} {S q:List Int} (o:OV K S q) {a:Nat} (h:S.getD a 0 ≠ 0) (p:List Int):-S.getD a 0*sgP p=1 ∨ -S.getD a 0*sgP p = -1:=Zj0 ((o.v a).resolve_left h) (Z63 p)
theorem OV.push {K:Nat} {S q:List Int} (o:OV K S q) {k:Nat} {w:Int} (hk:k<K) (h0:S.getD k 0=0) (hw:w=1 ∨ w = -1):OV K (S.set k w) (q++[(k:Int)])/\zc (S.set k w)+(q++[(k:Int)]).length=zc S+q.length /\ ∀ a,S.getD a 0 ≠ 0->(S.set k w).getD a 0=S.getD a 0:=by
 have hl:=o.xl
 have keep:∀ a,S.getD a 0 ≠ 0->(S.set k w).getD a 0=S.getD a 0:=fun a ha=>by
  rw [Z0C,if_neg (fun z=>ha (by rw [← z.1]; exact h0))]
 refine ⟨⟨by rw [List.length_set,hl],fun j=>?_,fun x hx=>?_⟩, ?_,keep⟩
 · rw [Z0C]
   split
   · exact .inr hw
   · exact o.v j
 · rcases List.mem_append.1 hx with h | h
   · obtain ⟨a,b,d⟩:=o.qs x h
     exact ⟨a,b,by rw [keep _ d]; exact d⟩
   · rw [List.mem_singleton.1 h,Int.toNat_natCast,Z0C,if_pos ⟨rfl,by omega⟩]
     exact ⟨by omega,by omega,by omega⟩
 · have:=Zlz (l:=S) (k:=k) (w:=w) qO h0 qO
   rw [List.length_append]
   simp only [List.length_cons,List.length_nil]
   omega
theorem ZlG {Gl:List Int} {Q:Nat->Bool} {n t i f:Nat} (hok:Z0v Gl n=true) (hG:Gl.length=n*20) (ht:t<n) (hi:i<4) (hf:f<4) (hq:Q (4*t+i)=true):nxV Gl Q t i f = -1 ∨ (0<=nxV Gl Q t i f/\nxV Gl Q t i f<rk Q (4*n)):=by
 unfold nxV
 by_cases h:f=i ∨ Z0x (Z03 Gl t f)<0
 · rw [if_pos h]; exact .inl rfl
 · rw [if_neg h]
   right
   have g:=FGl.of hok hG ht hf hi (fun z=>h (.inl z.symm)) (fun z=>h (.inr z))
   have hu:=g.u
   have hj:=g.j
   have hfv:fV Gl t f i=4*fU Gl t f+fJ Gl t f i:=rfl
   split
   · have:=ZiJ Q (x:=fV Gl t f i) (m:=4*n) qO (by assumption)
     omega
   · have:=ZiJ Q (x:=4*t+i) (m:=4*n) qO hq
     omega
structure OI (c0 c sb cm:Nat) (h0 h:FH) (qv:Value) (S q:List Int):Prop where
 fs:h.f sb=some (.cells false none (ints S))
 ag:Zbp c0 h c qv q.length (ints q)
 sm:Z0s cm h0 h
 s1:256*cm<=sb
 s2:sb<256*c0
 s3:cm<=c0
theorem OI.mono {c0 c c' sb cm:Nat} {h0 h:FH} {qv:Value} {S q:List Int} (a:OI c0 c sb cm h0 h qv S q) (hc:c<=c'):OI c0 c' sb cm h0 h qv S q:=⟨a.fs,a.ag.mono hc,a.sm,a.s1,a.s2,a.s3⟩
set_option maxHeartbeats 1000000 in
theorem Zmx (lb mb sb xb t i a k c0 cm:Nat) (s y1 y2:Value) (n:Nat) (Gl:List Int) (Q:Nat->Bool) (h0:FH) (df:List Nat) (N:Nat) (l:LR h0 cm lb mb s n Gl Q) (ht:t<n) (hi:i<4) (hq:Q (4*t+i)=true) (hN:N<=100000) :
 ∀ (r f c:Nat) (H:FH) (qv:Value) (S q:List Int),f+r=4->c0<=c->xb<256*c->OI c0 c sb cm h0 H qv S q->OV (rk Q (4*n)) S q->zc S+q.length=N->k<q.length->q.getD k 0=a->S.getD a 0 ≠ 0->Z0f H xb [.int .i64 t,.int .i64 i]->Z0q qv ≠ xb->sb ≠ xb →
 Ans (G (Z9H none) [ptrTo lb,.bool false,.slice (some ⟨sb,0,none⟩) (rk Q (4*n)) (rk Q (4*n)),qv,.int .i64 k,ptrTo xb,y1,y2,av (nxL Gl Q t i),.int .i64 f] H c df) fun x=>c<=x.c/\x.df=df/\Z0s cm h0 x.h ∧
  match oFs Gl Q t i a r f S q with
  | none=>x.e = .ret /\ ∃ qv' f',x.vs=[ptrTo lb,.bool false,.slice (some ⟨sb,0,none⟩) (rk Q (4*n)) (rk Q (4*n)),qv',.int .i64 k,ptrTo xb,y1,y2,av (nxL Gl Q t i),.int .i64 f']
  | some z=>x.e = .exit 4 /\ ∃ qv',x.vs=[ptrTo lb,.bool false,.slice (some ⟨sb,0,none⟩) (rk Q (4*n)) (rk Q (4*n)),qv',.int .i64 k,ptrTo xb,y1,y2,av (nxL Gl Q t i),.int .i64 4]/\OI c0 x.c sb cm h0 x.h qv' z.1 z.2/\OV (rk Q (4*n)) z.1 z.2/\zc z.1+z.2.length=N/\q.length<=z.2.length:=by
 intro r
 have hG:Gl.length=n*20:=l.sl.1
 induction r with
 | zero =>
  intro f c H qv S q hf hc hx o v hz hk ha hs gx nb ns
  obtain rfl:f=4:=by omega
  refine Ans.lpN rfl rfl (Z1u ..) ?_
  unfold Z1Q
  have fx:=True.intro
  refine Ans.go ?_
  clear fx
  exact Ans.exitN ⟨by show c<=c+1; omega,rfl,o.sm,rfl,qv,rfl,o.mono (by show c<=c+1; omega),v,hz,Nat.le_refl _⟩
 | succ r ih =>
  intro f c H qv S q hf hc hx o v hz hk ha hs gx nb ns
  have hf4:f<4:=by omega
  have hnl:(nxL Gl Q t i).length=4:=rfl
  have hget:(nxL Gl Q t i).getD f 0=nxV Gl Q t i f:=by
   have:f=0 ∨ f=1 ∨ f=2 ∨ f=3:=by omega
   rcases this with rfl | rfl | rfl | rfl <;> rfl
  have x1:ixV 4 false 1 (av (nxL Gl Q t i)) (.int .i64 f)=some (.int .i64 (nxV Gl Q t i f)):=by
   have:f=0 ∨ f=1 ∨ f=2 ∨ f=3:=by omega
   rcases this with rfl | rfl | rfl | rfl <;> rfl
  have hnx:=ZlG l.ok hG ht hi hf4 hq
  have f4:(f:Int)<4:=by omega
  have lH:=l.same o.sm (Nat.le_refl _)
  have lS:=lH.sl
  have zl:=Zc1 S
  have qb:q.length<=N:=by omega
  have sl:=o.ag.sl
  have lqa:=sl.rd k qO
  rw [ha] at lqa
  have ixq:=sl.ixs1 .i64 k qO qO
  rw [Int.toNat_natCast] at ixq
  have haK:a<rk Q (4*n):=by
   have:=v.qs (a:Int) (by
    rw [← ha,List.getD_eq_getElem?_getD,List.getElem?_eq_getElem hk]
    exact List.getElem_mem hk)
   omega
  have rdS:∀ j,j<rk Q (4*n)->ld1 H (.pointer (some ⟨sb,j,none⟩))=some (.int .i64 (S.getD j 0)):=fun j hj=>by
   rw [Z02 ⟨false,none,o.fs⟩,ints_getD _ _ (by rw [v.xl]; exact hj)]
  have ra:=rdS a haK
  rw [oFs,oSt]
  by_cases hneg:nxV Gl Q t i f<0
  · rw [if_pos hneg]
    have hk':=ih (f+1) (c+1+1+1+1) H qv S q qO qO qO (o.mono qO) v hz hk ha hs gx nb ns
    obtain ⟨y,hy⟩:∃ y,nxV Gl Q t i f=y:=⟨_,rfl⟩
    rw [hy] at x1 hneg
    refine Ans.lpN rfl rfl (Z1u ..) ?_
    unfold Z1Q
    have fx:=ai x1 hneg
    refine Ans.go ?_
    clear fx
    refine Ans.nextN (hk'.mono fun x hx'=>⟨by have:=hx'.1; omega,hx'.2⟩)
  · rw [if_neg hneg]
    have hb:=hnx.resolve_left qO
    have hfi:¬ (f=i ∨ Z0x (Z03 Gl t f)<0):=fun z=>hneg (by unfold nxV; rw [if_pos z]; decide)
    have hg:¬ Z0x (Z03 Gl t f)<0:=fun z=>hfi (.inr z)
    obtain ⟨hp24,-,-⟩:=(⟨Z9b (Z0X (Z0j hG ht hf4)) (Z0Y (Z1s l.ok ht hf4) hg).2.1,trivial,trivial⟩:Z0d (Z03 Gl t f) ∈ p24/\True/\True)
    have hw:=v.sign hs (Z0d (Z03 Gl t f))
    have hsa:=(v.v a).resolve_left hs
    have hsg:=Z63 (Z0d (Z03 Gl t f))
    have g0:ld1 H (.pointer (some ⟨lb,0,none⟩))=some s:=by
     obtain ⟨w,q,_⟩:=lH.st
     rw [Z02 q]; rfl
    have g1:ld1 H (.pointer (some ⟨xb,0,none⟩))=some (.int .i64 t):=by rw [Z02 gx]; rfl
    have ix:=lS.ixs .i64 t qO qO
    rw [Int.toNat_natCast] at ix
    have lp:ldN H 4 (.pointer (some ⟨Z0q s,Z2I s+t*20+f*5+1,none⟩))=some (av (Z0d (Z03 Gl t f))):=by
     rw [Nat.add_assoc (Z2I s),Nat.add_assoc (Z2I s),lS.rdN 4 _ qO qO]
     unfold Z0d Z03
     rw [List.drop_take,List.drop_drop,List.take_take,show min 4 (5-1)=4 by omega,show 20*t+5*f+1=t*20+f*5+1 by omega]
    have cs:=Zg6 _ hp24 H
    obtain ⟨d,hd⟩:∃ d:Nat,nxV Gl Q t i f=d:=⟨(nxV Gl Q t i f).toNat,by omega⟩
    rw [hd] at x1 hneg hb ⊢
    rw [Int.toNat_natCast]
    have hdK:d<rk Q (4*n):=by omega
    have rd':=rdS d hdK
    have fgo:∀ (w:Int),stN H 1 (.pointer (some ⟨sb,d,none⟩)) (.int .i64 w)=some (HeapC.set H sb (.cells false none (ints (S.set d w)))):=fun w=>by
     rw [Z11 (show HeapC.get H sb=_ from o.fs) (by simp [v.xl]; exact hdK) rfl rfl,Z1Z]
    have prange:rk Q (4*n)<=240:=by have:=Z9a Q (4*n); have:=l.le; omega
    by_cases h0':S.getD d 0=0
    · rw [if_pos h0']
      obtain ⟨v',z',keep⟩:=v.push hdK h0' hw
      obtain ⟨A,hA⟩:∃ A,S.getD a 0=A:=⟨_,rfl⟩
      obtain ⟨B,hB⟩:∃ B,sgP (Z0d (Z03 Gl t f))=B:=⟨_,rfl⟩
      have ka:=keep a hs
      rw [hA,hB] at v' z' hw ka ⊢
      rw [hA] at ra hsa hs
      rw [hB] at cs hsg
      rw [h0'] at rd'
      obtain ⟨H1,hH1⟩:∃ H1,HeapC.set H sb (.cells false none (ints (S.set d (-A*B))))=H1:=⟨_,rfl⟩
      have w1:=fgo (-A*B)
      rw [hH1] at w1
      have gb:=o.ag.blk
      have nsb:Z0q qv ≠ sb:=by have:=o.s2; omega
      have ag1:Zbp c0 H1 c qv q.length (ints q):=o.ag.keep (by rw [← hH1,Z0b,if_neg nsb])
      obtain ⟨h2,e1,e2,e3⟩:=(ag1.mono (c':=c+1+1+1+1+1+1) qO).app (c':=c+1+1+1+1+1+1+1) (.int .i64 d) rfl 8 (256*(c+1+1+1+1+1+1)+2) (256*(c+1+1+1+1+1+1)+3) qO qO qO qO qO qO
      have hbl:Z7R [.int .i64 0] [(0,1,.int .i64 d)]=some [.int .i64 d]:=rfl
      have o':OI c0 (c+1+1+1+1+1+1+1) sb cm h0 h2 (.slice (some ⟨256*(c+1+1+1+1+1+1)+3,0,none⟩) (q.length+1) (q.length+1)) (S.set d (-A*B)) (q++[(d:Int)]):=by
       have p1:=o.s1
       have p2:=o.s2
       have p3:=o.s3
       refine ⟨?_, ?_,fun j hj=>?_,o.s1,o.s2,o.s3⟩
       · rw [e3 sb qO (Ne.symm nsb),← hH1,Z0b,if_pos rfl]
       · have:(q++[(d:Int)]).length=q.length+1:=by simp
         rw [this,show ints (q++[(d:Int)])=ints q++[Value.int .i64 d] by simp [ints]]
         exact e2
       · rw [e3 j qO (by have:=gb.1; omega),← hH1,Z0b,if_neg qO]
         exact o.sm j hj
      have gx2:Z0f h2 xb [.int .i64 t,.int .i64 i]:=by
       obtain ⟨ro,op,z⟩:=gx
       refine ⟨ro,op, ?_⟩
       show h2.f xb=_
       rw [e3 xb qO (Ne.symm nb),← hH1,Z0b,if_neg (Ne.symm ns)]
       exact z
      have hq':(q++[(d:Int)]).getD k 0=a:=by
       rw [List.getD_eq_getElem?_getD,List.getElem?_append_left hk,← List.getD_eq_getElem?_getD]
       exact ha
      have hk':=ih (f+1) (c+1+1+1+1+1+1+1+1) h2 _ (S.set d (-A*B)) (q++[(d:Int)]) qO qO qO (o'.mono qO) v' qO (by simp; omega) hq' (by rw [ka]; exact hs) gx2 (by rw [blkOf_sl]; omega) ns
      have hAB:-A*B=1 ∨ -A*B = -1:=hw
      have hm:Z00 P .mul 3 (.int .i64 (-A)) (.int .i64 B)=some (.int .i64 (-A*B)):=by
       rcases hsa with rfl | rfl <;> rcases hsg with rfl | rfl <;> (rw [Z0o]; kernel_rfl)
      obtain ⟨W,hW⟩:∃ W,-A*B=W:=⟨_,rfl⟩
      rw [hW] at hm w1 hk' hAB
      obtain ⟨R,hR⟩:∃ R,rk Q (4*n)=R:=⟨_,rfl⟩
      rw [hR] at hdK haK prange
      refine Ans.lpN rfl rfl (Z1u ..) ?_
      unfold Z1Q
      rw [hR] at hk' ⊢
      have fx:=ai x1 (ai ixq (ai lqa (ai ra (ai g0 (ai g1 (ai ix (ai lp (ai cs (ai hm (ai rd' (ai hW (ai w1 (ai hbl (ai e1 sameB_self))))))))))))))
      refine Ans.go ?_
      clear fx
      refine Ans.nextN (hk'.mono fun x hx'=>⟨by have:=hx'.1; omega,hx'.2.1,hx'.2.2.1, ?_⟩)
      have hm':=hx'.2.2.2
      have hql:(q++[(d:Int)]).length=q.length+1:=by simp
      rw [hql] at hm'
      rw [hW]
      show match oFs Gl Q t i a r (f+1) (S.set d W) (q++[(d:Int)]) with
       | none=>_
       | some z=>_
      revert hm'
      cases oFs Gl Q t i a r (f+1) (S.set d W) (q++[(d:Int)]) with
      | none=>exact id
      | some z =>
       rintro ⟨e1,qv',e2,e3,e4,e5,e6⟩
       exact ⟨e1,qv',e2,e3,e4,e5,by omega⟩
    · rw [if_neg h0']
      have hk':=ih (f+1) (c+1+1+1+1+1+1+1) H qv S q qO qO qO (o.mono qO) v hz hk ha hs gx nb ns
      obtain ⟨A,hA⟩:∃ A,S.getD a 0=A:=⟨_,rfl⟩
      obtain ⟨B,hB⟩:∃ B,sgP (Z0d (Z03 Gl t f))=B:=⟨_,rfl⟩
      obtain ⟨D,hD⟩:∃ D,S.getD d 0=D:=⟨_,rfl⟩
      rw [hD] at rd' h0' ⊢
      rw [hA,hB] at hw ⊢
      rw [hA] at ra hsa
      rw [hB] at cs hsg
      have hm:Z00 P .mul 3 (.int .i64 (-A)) (.int .i64 B)=some (.int .i64 (-A*B)):=by
       rcases hsa with rfl | rfl <;> rcases hsg with rfl | rfl <;> (rw [Z0o]; kernel_rfl)
      obtain ⟨W,hW⟩:∃ W,-A*B=W:=⟨_,rfl⟩
      rw [hW] at hm hw
      rw [hW]
      obtain ⟨R,hR⟩:∃ R,rk Q (4*n)=R:=⟨_,rfl⟩
      rw [hR] at hdK haK prange hk' ⊢
      by_cases hDW:D=W
      · subst hDW
        rw [if_neg (by simp)]
        refine Ans.lpN rfl rfl (Z1u ..) ?_
        unfold Z1Q
        have fx:=ai x1 (ai ixq (ai lqa (ai ra (ai g0 (ai g1 (ai ix (ai lp (ai cs (ai hm (ai rd' (ai hW (ai h0' sameB_self))))))))))))
        refine Ans.go ?_
        clear fx
        refine Ans.nextN (hk'.mono fun x hx'=>⟨by have:=hx'.1; omega,hx'.2⟩)
      · rw [if_pos hDW]
        refine Ans.lpN rfl rfl (Z1u ..) ?_
        unfold Z1Q
        have fx:=ai x1 (ai ixq (ai lqa (ai ra (ai g0 (ai g1 (ai ix (ai lp (ai cs (ai hm (ai rd' (ai hW (ai h0' (ai hDW sameB_self)))))))))))))
        refine Ans.go ?_
        clear fx
        exact Ans.retN ⟨by dsimp only; omega,rfl,o.sm,rfl,qv,f,rfl⟩
end Go.Proofs.Ytdodippbpdechaa
