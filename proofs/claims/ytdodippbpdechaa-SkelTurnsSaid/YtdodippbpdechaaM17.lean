/- Parts of a proof: K12 K13 K14 K15 AbGC K16. Conditions: none. -/
import Derived.Test.YtdodippbpdechaaM16
set_option linter.all false
set_option maxRecDepth 100000
namespace Go.Proofs.Ytdodippbpdechaa
open Go Go.Ab Go.Proofs
theorem Z6V (Q:Nat->Bool):∀ {m a:Nat},a<rk Q m -> ∃ x,x<m/\Q x=true/\rk Q x=a
 | 0,a,h=>by rw [rk] at h; omega
 | m+1,a,h=>by
  rw [rk] at h
  by_cases e:a<rk Q m
  · obtain ⟨x,h1,h2,h3⟩:=Z6V Q e
    exact ⟨x,by omega,h2,h3⟩
  · by_cases hq:Q m=true
    · rw [if_pos hq] at h
      exact ⟨m,by omega,hq,by omega⟩
    · rw [if_neg hq] at h; omega
def oT (C:List Int) (a:Nat):Nat:=(C.getD (a*2) 0).toNat
def oC (C:List Int) (a:Nat):Nat:=(C.getD (a*2+1) 0).toNat
theorem ZmA {Q:Nat->Bool} {x m:Nat} (hq:Q x=true) (hx:x<m):oT (crn Q m) (rk Q x)=x / 4/\oC (crn Q m) (rk Q x)=x % 4:=by
 have h:=ZeR Q hq hx
 have e0:(((crn Q m).drop (rk Q x*2)).take 2).getD 0 0=((x / 4:Nat):Int):=by rw [h]; rfl
 have e1:(((crn Q m).drop (rk Q x*2)).take 2).getD 1 0=((x % 4:Nat):Int):=by rw [h]; rfl
 rw [Z3T _ _ _ qO,Z2y] at e0 e1
 rw [Nat.add_zero] at e0
 unfold oT oC
 rw [e0,e1,Int.toNat_natCast,Int.toNat_natCast]
 exact ⟨rfl,rfl⟩
def oQ (Gl:List Int) (Q:Nat->Bool) (C:List Int):Nat->Nat->List Int->List Int->Option (List Int × List Int)
 | 0,_,S,q=>some (S,q)
 | r+1,k,S,q=>if k<q.length then (oFs Gl Q (oT C (q.getD k 0).toNat) (oC C (q.getD k 0).toNat) (q.getD k 0).toNat 4 0 S q).bind fun z=>oQ Gl Q C r (k+1) z.1 z.2 else some (S,q)
set_option maxHeartbeats 1000000 in
theorem or_q (lb mb sb c0 cm:Nat) (s y1 y2:Value) (n:Nat) (Gl:List Int) (Q:Nat->Bool) (h0:FH) (df:List Nat) (N:Nat) (l:LR h0 cm lb mb s n Gl Q) (hN:N<=100000) :
 ∀ (r k c:Nat) (H:FH) (qv:Value) (S q:List Int),N+1<=k+r->c0<=c->OI c0 c sb cm h0 H qv S q->OV (rk Q (4*n)) S q->zc S+q.length=N->k<=q.length →
 Ans (G (Z9I none) [ptrTo lb,.bool false,.slice (some ⟨sb,0,none⟩) (rk Q (4*n)) (rk Q (4*n)),qv,.int .i64 k,y1,y2] H c df) fun x=>c<=x.c/\x.df=df/\Z0s cm h0 x.h ∧
  match oQ Gl Q (crn Q (4*n)) r k S q with
  | none=>x.e = .ret /\ ∃ qv' k',x.vs=[ptrTo lb,.bool false,.slice (some ⟨sb,0,none⟩) (rk Q (4*n)) (rk Q (4*n)),qv',.int .i64 k',y1,y2]
  | some z=>x.e = .exit 2/\(∃ qv' k',x.vs=[ptrTo lb,.bool false,.slice (some ⟨sb,0,none⟩) (rk Q (4*n)) (rk Q (4*n)),qv',.int .i64 k',y1,y2]/\OI c0 x.c sb cm h0 x.h qv' z.1 z.2)/\OV (rk Q (4*n)) z.1 z.2:=by
 intro r
 induction r with
 | zero =>
  intro k c H qv S q hk hc o v hz hk'
  omega
 | succ r ih =>
  intro k c H qv S q hk hc o v hz hkq
  have sl:=o.ag.sl
  have lq:=sl.len
  have zl:=Zc1 S
  by_cases hlt:k<q.length
  · rw [oQ,if_pos hlt]
    have kl:(k:Int)<q.length:=by omega
    have lH:=l.same o.sm (Nat.le_refl _)
    obtain ⟨w,gw,sw⟩:=lH.st
    have ixq:=sl.ixs1 .i64 k qO qO
    rw [Int.toNat_natCast] at ixq
    have lqa:=sl.rd k qO
    obtain ⟨q1,q2,q3⟩:=v.qs (q.getD k 0) (by
     rw [List.getD_eq_getElem?_getD,List.getElem?_eq_getElem hlt]
     exact List.getElem_mem hlt)
    obtain ⟨a,ha⟩:∃ a:Nat,q.getD k 0=a:=⟨(q.getD k 0).toNat,by omega⟩
    rw [ha] at q1 q2 q3 lqa
    rw [ha,Int.toNat_natCast]
    rw [Int.toNat_natCast] at q3
    have haK:a<rk Q (4*n):=by omega
    obtain ⟨x,hx,hQ,hrk⟩:=Z6V Q haK
    obtain ⟨eT,eC⟩:=ZmA (Q:=Q) hQ hx
    have cat:=ZeR Q hQ hx
    rw [hrk] at eT eC cat
    rw [eT,eC]
    obtain ⟨t,ht⟩:∃ t,x / 4=t:=⟨_,rfl⟩
    obtain ⟨i,hi⟩:∃ i,x % 4=i:=⟨_,rfl⟩
    have hxt:4*t+i=x:=by omega
    rw [ht,hi] at cat ⊢
    have htn:t<n:=by omega
    have hi4:i<4:=by omega
    have lw:ld1 H (.pointer (some ⟨lb,1,none⟩))=some w:=by rw [Z02 gw]; rfl
    have prange:rk Q (4*n)<=240:=by have:=Z9a Q (4*n); have:=l.le; omega
    have ix:=sw.ixs .i64 a qO qO
    rw [Int.toNat_natCast] at ix
    have l1:ldN H 2 (.pointer (some ⟨Z0q w,Z2I w+a*2,none⟩))=some (av [(t:Int),(i:Int)]):=by
     rw [sw.rdN 2 _ qO qO,cat]
    obtain ⟨xb,hxb⟩:∃ b,256*(c+1)+10=b:=⟨_,rfl⟩
    have st:stN (newB H xb [.int .i64 0,.int .i64 0]) 2 (.pointer (some ⟨xb,0,none⟩)) (av [(t:Int),(i:Int)])=some (newB H xb [.int .i64 t,.int .i64 i]):=stN_all _ _ 2 _ _ rfl rfl
    obtain ⟨H1,hH1⟩:∃ H1,newB H xb [.int .i64 (t:Int),.int .i64 (i:Int)]=H1:=⟨_,rfl⟩
    rw [hH1] at st
    have p1:=o.s1
    have p2:=o.s2
    have p3:=o.s3
    have gb:=o.ag.blk
    have o1:OI c0 (c+1+1+1) sb cm h0 H1 qv S q:=by
     refine ⟨?_,(o.ag.keep ?_).mono qO,fun j hj=>?_,p1,p2,p3⟩
     · rw [← hH1,Z01,if_neg qO]; exact o.fs
     · rw [← hH1,Z01,if_neg qO]
     · rw [← hH1,Z01,if_neg qO]; exact o.sm j hj
    have gx:Z0f H1 xb [.int .i64 t,.int .i64 i]:=by rw [← hH1]; exact Z0f.newB_same _ _ _
    have l2:ldN H1 2 (.pointer (some ⟨xb,0,none⟩))=some (av [(t:Int),(i:Int)]):=by
     rw [← hH1,ldN_newB_same _ _ _ _ _ (by simp)]; rfl
    have cn:=Z0c (ZmC lb mb t i s n Gl Q H1 (c+1+1+1) [] ((l.same o1.sm (Nat.le_refl _)).same (Z0s.refl _ _) qO) htn hi4)
    obtain ⟨⟨e',vs',h',c',df'⟩,ex,z1,z2,z3,z4⟩:=Zmx lb mb sb xb t i a k c0 cm s y1 y2 n Gl Q h0 df N l htn hi4 (by rw [hxt]; exact hQ) hN 4 0 (c+1+1+1) H1 qv S q qO qO qO o1 v hz hlt ha q3 gx qO qO
    dsimp only at z1 z2 z3 z4
    subst z2
    revert z4
    simp only [Int.ofNat_eq_natCast,Int.cast_ofNat_Int] at ex
    obtain ⟨R,hR⟩:∃ R,rk Q (4*n)=R:=⟨_,rfl⟩
    rw [hR] at ex
    cases hof:oFs Gl Q t i a 4 0 S q with
    | none =>
     rintro ⟨rfl,qv',f',rfl⟩
     rw [hR] at ex
     rw [hR]
     refine Ans.lpN rfl rfl (Z2J ..) ?_
     unfold Z2Z
     have fx:=ai lq (ai kl (ai lw (ai ixq (ai lqa (ai ix (ai l1 (ai hxb (ai st (ai l2 (ai cn ex))))))))))
     refine Ans.go ?_
     clear fx
     exact Ans.retN ⟨by dsimp only; omega,rfl,z3,rfl,qv',k,rfl⟩
    | some z =>
     rintro ⟨rfl,qv',rfl,o',v',y5,y6⟩
     have hk':=ih (k+1) (c'+1) h' qv' z.1 z.2 qO qO (o'.mono qO) v' y5 qO
     rw [hR] at ex hk'
     rw [hR]
     refine Ans.lpN rfl rfl (Z2J ..) ?_
     unfold Z2Z
     have fx:=ai lq (ai kl (ai lw (ai ixq (ai lqa (ai ix (ai l1 (ai hxb (ai st (ai l2 (ai cn ex))))))))))
     refine Ans.go ?_
     clear fx
     refine Ans.nextN (hk'.mono fun x hx'=>⟨by have:=hx'.1; omega,hx'.2⟩)
  · rw [oQ,if_neg hlt]
    have kl:¬ (k:Int)<q.length:=by omega
    refine Ans.lpN rfl rfl (Z2J ..) ?_
    unfold Z2Z
    have fx:=ai lq kl
    refine Ans.go ?_
    clear fx
    exact Ans.exitN ⟨by dsimp only; omega,rfl,o.sm,rfl,⟨qv,k,rfl,o.mono (by dsimp only; omega)⟩,v⟩

def oR (Gl:List Int) (Q:Nat->Bool) (C:List Int):Nat->Nat->List Int->Option (List Int)
 | 0,_,S=>some S
 | r+1,f,S=>if S.getD f 0 ≠ 0 then oR Gl Q C r (f+1) S else (oQ Gl Q C 1000 0 (S.set f 1) [(f:Int)]).bind fun z=>oR Gl Q C r (f+1) z.1
def orB (n:Nat) (Gl:List Int) (Q:Nat->Bool):Bool:=(oR Gl Q (crn Q (4*n)) (rk Q (4*n)) 0 (List.replicate (rk Q (4*n)) 0)).isSome
set_option maxHeartbeats 1000000 in
theorem or_all (lb mb sb cm:Nat) (s:Value) (n:Nat) (Gl:List Int) (Q:Nat->Bool) (h0:FH) (df:List Nat) (l:LR h0 cm lb mb s n Gl Q) (s1:256*cm<=sb) :
 ∀ (r f c:Nat) (H:FH) (S:List Int),f+r=rk Q (4*n)->sb<256*c->cm<=c->H.f sb=some (.cells false none (ints S))->Z0s cm h0 H->OV (rk Q (4*n)) S [] →
 Ans (G (Z9J none) [ptrTo lb,.bool false,.slice (some ⟨sb,0,none⟩) (rk Q (4*n)) (rk Q (4*n)),.int .i64 (rk Q (4*n)),.int .i64 f] H c df) fun x=>c<=x.c/\x.df=df/\Z0s cm h0 x.h ∧
  match oR Gl Q (crn Q (4*n)) r f S with
  | none=>x.e = .ret /\ ∃ f',x.vs=[ptrTo lb,.bool false,.slice (some ⟨sb,0,none⟩) (rk Q (4*n)) (rk Q (4*n)),.int .i64 (rk Q (4*n)),.int .i64 f']
  | some z=>x.e = .exit 0 /\ ∃ f',x.vs=[ptrTo lb,.bool false,.slice (some ⟨sb,0,none⟩) (rk Q (4*n)) (rk Q (4*n)),.int .i64 (rk Q (4*n)),.int .i64 f']:=by
 intro r
 have prange:rk Q (4*n)<=240:=by have:=Z9a Q (4*n); have:=l.le; omega
 induction r with
 | zero =>
  intro f c H S hf s2 s3 fs sm v
  obtain rfl:rk Q (4*n)=f:=by omega
  obtain ⟨R,hR⟩:∃ R,rk Q (4*n)=R:=⟨_,rfl⟩
  rw [hR]
  refine Ans.lpN rfl rfl (Z22 ..) ?_
  unfold Z2e
  have fx:=True.intro
  refine Ans.go ?_
  clear fx
  exact Ans.exitN ⟨by dsimp only; omega,rfl,sm,rfl,R,rfl⟩
 | succ r ih =>
  intro f c H S hf s2 s3 fs sm v
  have lf:(f:Int)<rk Q (4*n):=by omega
  have hl:=v.xl
  have ra:ld1 H (.pointer (some ⟨sb,f,none⟩))=some (.int .i64 (S.getD f 0)):=by
   rw [Z02 ⟨false,none,fs⟩,ints_getD _ _ (by rw [hl]; omega)]
  rw [oR]
  by_cases h0':S.getD f 0=0
  · rw [if_neg (by rw [h0']; simp)]
    rw [h0'] at ra
    obtain ⟨v',z',-⟩:=v.push (k:=f) (w:=1) qO h0' (.inl rfl)
    have w1:stN H 1 (.pointer (some ⟨sb,f,none⟩)) (.int .i64 1)=some (HeapC.set H sb (.cells false none (ints (S.set f 1)))):=by
     rw [Z11 (show HeapC.get H sb=_ from fs) (by simp; omega) rfl rfl,Z1Z]
    obtain ⟨H1,hH1⟩:∃ H1,HeapC.set H sb (.cells false none (ints (S.set f 1)))=H1:=⟨_,rfl⟩
    rw [hH1] at w1
    obtain ⟨qb,hqb⟩:∃ b,256*(c+1+1+1+1)+1=b:=⟨_,rfl⟩
    have hbl:Z7R [.int .i64 0] [(0,1,.int .i64 f)]=some [.int .i64 f]:=rfl
    obtain ⟨H2,hH2⟩:∃ H2,newB H1 qb [.int .i64 f]=H2:=⟨_,rfl⟩
    have o:OI c (c+1+1+1+1+1+1) sb cm h0 H2 (.slice (some ⟨qb,0,none⟩) 1 1) (S.set f 1) [(f:Int)]:=by
     refine ⟨?_,⟨rfl,by simp,rfl,qb,none,rfl,by omega,by omega, ?_,.inl rfl⟩,fun j hj=>?_,s1,s2,s3⟩
     · rw [← hH2,Z01,if_neg qO,← hH1,Z0b,if_pos rfl]
     · rw [← hH2,Z01,if_pos rfl]; rfl
     · rw [← hH2,Z01,if_neg qO,← hH1,Z0b,if_neg qO]
       exact sm j hj
    have zl:=Zc1 (S.set f 1)
    rw [List.length_set,hl] at zl
    obtain ⟨⟨e',vs',h',c',df'⟩,ex,z1,z2,z3,z4⟩:=or_q lb mb sb c cm s (.int .i64 (rk Q (4*n))) (.int .i64 f) n Gl Q h0 df (zc (S.set f 1)+1) l qO 1000 0 (c+1+1+1+1+1+1) H2 _ (S.set f 1) [(f:Int)] qO qO o v' rfl (by simp)
    dsimp only at z1 z2 z3 z4
    subst z2
    revert z4
    simp only [Int.ofNat_eq_natCast,Int.cast_ofNat_Int,List.length_cons,List.length_nil,Nat.zero_add] at ex
    obtain ⟨R,hR⟩:∃ R,rk Q (4*n)=R:=⟨_,rfl⟩
    rw [hR] at ex lf hf prange
    cases hof:oQ Gl Q (crn Q (4*n)) 1000 0 (S.set f 1) [(f:Int)] with
    | none =>
     rintro ⟨rfl,qv',k',rfl⟩
     rw [hR] at ex
     rw [hR]
     refine Ans.lpN rfl rfl (Z22 ..) ?_
     unfold Z2e
     have fx:=ai ra (ai w1 (ai hbl (ai hqb (ai hH2 ex))))
     refine Ans.go ?_
     clear fx
     exact Ans.retN ⟨by dsimp only; omega,rfl,z3,rfl,f,rfl⟩
    | some z =>
     rintro ⟨rfl,⟨qv',k',rfl,o'⟩,v2⟩
     have hk':=ih (f+1) (c'+1) h' z.1 qO qO qO o'.fs z3 ⟨v2.xl,v2.v,fun x hx=>by simp at hx⟩
     rw [hR] at ex hk'
     rw [hR]
     refine Ans.lpN rfl rfl (Z22 ..) ?_
     unfold Z2e
     have fx:=ai ra (ai w1 (ai hbl (ai hqb (ai hH2 ex))))
     refine Ans.go ?_
     clear fx
     refine Ans.nextN (hk'.mono fun x hx'=>⟨by have:=hx'.1; omega,hx'.2⟩)
  · rw [if_pos h0']
    have hk':=ih (f+1) (c+1+1+1+1) H S qO qO qO fs sm v
    obtain ⟨R,hR⟩:∃ R,rk Q (4*n)=R:=⟨_,rfl⟩
    rw [hR] at hk' lf prange ⊢
    refine Ans.lpN rfl rfl (Z22 ..) ?_
    unfold Z2e
    have fx:=ai ra h0'
    refine Ans.go ?_
    clear fx
    refine Ans.nextN (hk'.mono fun x hx'=>⟨by have:=hx'.1; omega,hx'.2⟩)
theorem ZaC (lb mb:Nat) (s:Value) (n:Nat) (Gl:List Int) (Q:Nat->Bool) (h:FH) (c:Nat) (df:List Nat) (l:LR h c lb mb s n Gl Q) :
 G (.fn 86) [ptrTo lb] h c df=some ⟨.ret,[.bool (orB n Gl Q)],h,c,[]⟩:=by
 refine Z1l (fun r e=>f86_go e) (by simp) ?_
 have prange:rk Q (4*n)<=240:=by have:=Z9a Q (4*n); have:=l.le; omega
 obtain ⟨w,gw,sw⟩:=l.st
 have lq:=sw.len
 have lw:ld1 h (.pointer (some ⟨lb,1,none⟩))=some w:=by rw [Z02 gw]; rfl
 obtain ⟨sb,hsb⟩:∃ b,256*(c+1)+5=b:=⟨_,rfl⟩
 obtain ⟨H,hH⟩:∃ H,newB h sb (ints (List.replicate (rk Q (4*n)) 0))=H:=⟨_,rfl⟩
 have fs:H.f sb=some (.cells false none (ints (List.replicate (rk Q (4*n)) 0))):=by
  rw [← hH,Z01,if_pos rfl]
 have sm:Z0s c h H:=fun j hj=>by rw [← hH,Z01,if_neg qO]
 have v:OV (rk Q (4*n)) (List.replicate (rk Q (4*n)) 0) []:=⟨by simp,fun j=>.inl (by
  rw [List.getD_eq_getElem?_getD,List.getElem?_replicate]; split <;> rfl),fun x hx=>by simp at hx⟩
 obtain ⟨⟨e',vs',h',c',df'⟩,ex,z1,z2,z3,z4⟩:=or_all lb mb sb c s n Gl Q h [] l qO (rk Q (4*n)) 0 (c+1+1+1) H _ qO qO qO fs sm v
 dsimp only at z1 z2 z3 z4
 subst z2
 revert z4
 unfold orB
 simp only [Int.ofNat_eq_natCast,Int.cast_ofNat_Int] at ex
 obtain ⟨R,hR⟩:∃ R,rk Q (4*n)=R:=⟨_,rfl⟩
 have mk:mkS 1 8 [.int .i64 0] (.int .i64 (R:Int)) (.int .i64 (R:Int))=some (ints (List.replicate R 0),R,R):=Z8y 1 8 _ _ R qO qO
 rw [hR] at ex prange lq hH
 unfold Zhw
 cases hof:oR Gl Q (crn Q (4*n)) (rk Q (4*n)) 0 (List.replicate (rk Q (4*n)) 0) with
 | none =>
  rintro ⟨rfl,f',rfl⟩
  rw [hR] at ex
  have fx:=ai lw (ai lq (ai mk (ai hsb (ai hH ex))))
  refine Ans.go ?_
  clear fx
  exact Ans.pure rfl z3
 | some z =>
  rintro ⟨rfl,f',rfl⟩
  rw [hR] at ex
  have fx:=ai lw (ai lq (ai mk (ai hsb (ai hH ex))))
  refine Ans.go ?_
  clear fx
  exact Ans.pure rfl z3

def mE (L:List Int):List (Value × Value):=L.map fun x=>(.int .i64 x,.bool true)
theorem ZlT (x a:Int):aEq P Z13 3 (.int .i64 x) (.int .i64 a)=some (x == a):=by kernel_rfl
theorem Zh1 (x:Int):∀ (L:List Int) (i:Nat),∃ r,Z8L P 3 (.int .i64 x) (mE L) i=some r/\(x ∈ L -> ∃ j,r=some (i+j,.bool true)/\L[j]? = some x)/\(x ∉ L->r=none)
 | [],i=>⟨none,rfl,(fun h=>by cases h),fun _=>rfl⟩
 | a::L,i=>by
  obtain ⟨r,h1,h2,h3⟩:=Zh1 x L (i+1)
  by_cases e:x=a
  · refine ⟨some (i,.bool true), ?_,fun _=>⟨0,rfl,by rw [e]; rfl⟩,fun h=>absurd (by rw [e]; simp) h⟩
    show (aEq P Z13 3 (.int .i64 x) (.int .i64 a)).bind _=_
    rw [ZlT]
    simp [e]
  · refine ⟨r, ?_,fun h=>?_,fun h=>h3 (fun q=>h (by simp [q]))⟩
    · show (aEq P Z13 3 (.int .i64 x) (.int .i64 a)).bind _=_
      rw [ZlT]
      have:(x == a)=false:=by simpa using e
      rw [this]
      simp only [Option.bind_some,cond_false]
      exact h1
    · rcases List.mem_cons.1 h with h | h
      · exact absurd h e
      · obtain ⟨j,q1,q2⟩:=h2 h
        exact ⟨j+1,by rw [q1]; congr 2; omega,q2⟩
theorem ZmH:ZmG P 146=some (3,4):=by kernel_rfl
theorem kO3 (x:Int):Z7L P Z13 3 (.int .i64 x)=true:=by kernel_rfl
theorem sB_int (x:Int):Instr.sameBits 10000 (.int .i64 x) (.int .i64 x)=true:=by simp [Instr.sameBits]
def ZlL (L:List Int) (x:Int):List Int:=if x ∈ L then L else L++[x]
theorem mE_ins {h:FH} {i:Nat} {L:List Int} (hg:HeapC.get h i=some (.map (mE L))) (x:Int):Z0D P h 146 (.map (some i)) (.int .i64 x) (.bool true)=some (HeapC.set h i (.map (mE (ZlL L x)))):=by
 obtain ⟨r,h1,h2,h3⟩:=Zh1 x L 0
 have hp:plainL (.int .i64 x)=true:=rfl
 by_cases hx:x ∈ L
 · obtain ⟨j,rfl,hj⟩:=h2 hx
   rw [Nat.zero_add] at h1
   have e1:(mE L)[j]? = some (.int .i64 x,.bool true):=by rw [mE,List.getElem?_map,hj]; rfl
   have e2:(mE L).set j (.int .i64 x,.bool true)=mE L:=by
    apply List.ext_getElem?
    intro k
    rw [List.getElem?_set]
    split
    · rename_i e; subst e
      rw [e1]
      split
      · rfl
      · rename_i q
        rw [List.getElem?_eq_none qO] at e1
        cases e1
    · rfl
   rw [ZlL,if_pos hx]
   simp only [Z0D,ZmH,Option.bind_some,kO3,hp,Bool.and_self,cond_true,hg,h1,e1,sB_int,e2]
 · rw [h3 hx] at h1
   rw [ZlL,if_neg hx]
   simp only [Z0D,ZmH,Option.bind_some,kO3,hp,Bool.and_self,cond_true,hg,h1]
   simp [mE]
theorem mE_len {h:FH} {i:Nat} {L:List Int} (hg:HeapC.get h i=some (.map (mE L))):ZbZ P h 146 (.map (some i))=some (.int .i64 L.length):=by
 have hu:P.underlying 146=some (.map 3 4):=Z6p ZmH
 simp only [ZbZ,hu,hg]
 simp [mE,goInt]
theorem mE_ok (c:Nat) (L:List Int):∀ e ∈ mE L,OkV c e.1/\OkV c e.2:=fun e he=>by
 obtain ⟨x,_,rfl⟩:=List.mem_map.1 he
 exact ⟨OkV.int _ _ _,OkV.bool _ _⟩
def dSt (Gl D:List Int) (t i j:Nat) (z:List Int × Nat × Nat):List Int × Nat × Nat :=
 if j=i then z else (ZlL z.1 (D.getD (16*t+4*i+j) 0),if Z0x (Z03 Gl t j)<0 then (z.2.1+1,z.2.2) else (z.2.1,z.2.2+1))
def dFs (Gl D:List Int) (t i:Nat):Nat->Nat->List Int × Nat × Nat->List Int × Nat × Nat
 | 0,_,z=>z
 | r+1,j,z=>dFs Gl D t i r (j+1) (dSt Gl D t i j z)
def Zah (K:Nat) (o:Bool) (A:Nat):List Value:=[.int .i64 K,.int .i64 A,.int .i64 0,.int .i64 0,.bool (decide (A=0)),.bool o]
noncomputable def dH (h0:FH) (ob mb K:Nat) (o:Bool) (z:List Int × Nat × Nat):FH:=HeapC.set (newB h0 ob (Zah K o z.2.1)) mb (.map (mE z.1))
theorem ZnF (c K:Nat) (o:Bool) (A:Nat):Z1F c (Zah K o A):=by
 simp [Zah]
theorem ZnG {c ob mb K:Nat} {o:Bool} {h0 h1:FH} {z z':List Int × Nat × Nat} (h:Z42 c h0 h1) (lo:ob<256*c) (lm:mb<256*c):Z42 c (dH h0 ob mb K o z) (dH h1 ob mb K o z'):=by
 intro i
 have hi1:=h i
 unfold dH
 rw [Z0b,Z0b,Z01,Z01]
 refine ⟨fun hi=>?_,fun hi=>?_⟩
 · rw [if_neg qO,if_neg qO,if_neg qO,if_neg qO]; exact hi1.1 hi
 · by_cases e1:i=mb
   · rw [if_pos e1,if_pos e1]; exact .inr (mE_ok _ _)
   · rw [if_neg e1,if_neg e1]
     by_cases e2:i=ob
     · rw [if_pos e2,if_pos e2]; exact .inr (ZnF _ _ _ _)
     · rw [if_neg e2,if_neg e2]; exact hi1.2 hi
set_option maxHeartbeats 1000000 in
theorem ZnD (lb mb pb rb ob xb t i c cm K:Nat) (o:Bool) (s w dv y0:Value) (n:Nat) (Gl D:List Int) (Q:Nat->Bool) (h0:FH) (df:List Nat) (l:LR h0 cm lb pb s n Gl Q) (hD:SlI h0 cm dv 1 (16*n) D) (ow:OkV c w) (oy:OkV c y0) (hcm:cm<=c) (ht:t<n) (hi:i<4) (gx:Z0f h0 xb [.int .i64 t,.int .i64 i])
 (n1:ob ≠ mb) (n2:ob ≠ xb) (n3:mb ≠ xb) (om:256*cm<=ob) (mm:256*cm<=mb) (lr:rb<256*c) (lo:ob<256*c) (lm:mb<256*c) (lx:xb<256*c) :
 ∀ (r j:Nat) (z:List Int × Nat × Nat),j+r=4->z.2.1+z.2.2+r<=100000->K<=100000->Ans (G (Z9P none) [ptrTo lb,dv,ptrTo rb,ptrTo ob,.map (some mb),.int .i64 z.2.2,ptrTo xb,w,.int .i64 K,y0,.int .i64 j] (dH h0 ob mb K o z) c df) fun q =>
  q=⟨.exit 2,[ptrTo lb,dv,ptrTo rb,ptrTo ob,.map (some mb),.int .i64 (dFs Gl D t i r j z).2.2,ptrTo xb,w,.int .i64 K,y0,.int .i64 4],dH h0 ob mb K o (dFs Gl D t i r j z),c,df⟩:=by
 intro r
 have hlb:=l.lb
 have ll:lb<256*c:=by omega
 have od:OkV c dv:=(hD.mono hcm).okV
 have om':OkV c (.map (some mb)):=OkV.map lm
 have hG:Gl.length=n*20:=l.sl.1
 have hle:=l.le
 induction r with
 | zero =>
  intro j z hj hz hK
  obtain rfl:j=4:=by omega
  obtain ⟨S,hS⟩:∃ S,dH h0 ob mb K o z=S:=⟨_,rfl⟩
  rw [dFs,hS]
  refine Ans.lpG rfl rfl (Z23 ..) ?_
  unfold Z2f
  have fx:=True.intro
  refine Ans.go ?_
  clear fx
  (have fx:=ai ll (ai lr (ai lo (ai od (ai om' (ai lx (ai ow oy)))))); refine Ans.ex0 ?_; clear fx)
  rfl
 | succ r ih =>
  intro j z hj hz hK
  have hj4:j<4:=by omega
  have j4:(j:Int)<4:=by omega
  have hk:=ih (j+1) (dSt Gl D t i j z) qO (by
   unfold dSt
   split
   · omega
   · split <;> (dsimp only; omega)) hK
  rw [dFs]
  have sm:Z0s cm h0 (dH h0 ob mb K o z):=fun k hk=>by unfold dH; rw [Z0b,if_neg qO,Z01,if_neg qO]
  have gx0:Z0f (dH h0 ob mb K o z) xb [.int .i64 t,.int .i64 i]:=by
   obtain ⟨ro,op,q⟩:=gx
   exact ⟨ro,op,by show (dH h0 ob mb K o z).f xb=_; unfold dH; rw [Z0b,if_neg (Ne.symm n3),Z01,if_neg (Ne.symm n2)]; exact q⟩
  have g0:ld1 (dH h0 ob mb K o z) (.pointer (some ⟨xb,0,none⟩))=some (.int .i64 t):=by rw [Z02 gx0]; rfl
  have g1:ld1 (dH h0 ob mb K o z) (.pointer (some ⟨xb,1,none⟩))=some (.int .i64 i):=by rw [Z02 gx0]; rfl
  have gm:HeapC.get (dH h0 ob mb K o z) mb=some (.map (mE z.1)):=by show (dH h0 ob mb K o z).f mb=_; unfold dH; rw [Z0b,if_pos rfl]
  by_cases h0':j=i
  · have e:dSt Gl D t i j z=z:=if_pos h0'
    rw [e] at hk ⊢
    obtain ⟨S,hS⟩:∃ S,dH h0 ob mb K o z=S:=⟨_,rfl⟩
    rw [hS] at hk g0 g1 ⊢
    subst h0'
    refine Ans.lpG rfl rfl (Z23 ..) ?_
    unfold Z2f
    have fx:=g1
    refine Ans.go ?_
    clear fx
    (have fx:=ai ll (ai lr (ai lo (ai od (ai om' (ai lx (ai ow oy)))))); refine Ans.nx0 ?_; clear fx)
    exact hk
  · have h1':¬ (j:Int)=i:=by omega
    have e:dSt Gl D t i j z=(ZlL z.1 (D.getD (16*t+4*i+j) 0),if Z0x (Z03 Gl t j)<0 then (z.2.1+1,z.2.2) else (z.2.1,z.2.2+1)):=if_neg h0'
    have dS:=hD.same sm
    have x1:=dS.ixs1 .i64 (16*(t:Int)+4*i+j) qO qO
    rw [show (16*(t:Int)+4*i+j).toNat=16*t+4*i+j by omega] at x1
    have l1:=dS.rd (16*t+4*i+j) qO
    have u1:=mE_ins gm (D.getD (16*t+4*i+j) 0)
    obtain ⟨M,hM⟩:∃ M,ZlL z.1 (D.getD (16*t+4*i+j) 0)=M:=⟨_,rfl⟩
    rw [hM] at u1 e
    have hset:HeapC.set (dH h0 ob mb K o z) mb (.map (mE M))=dH h0 ob mb K o (M,z.2):=by
     apply FH.ext; intro k
     unfold dH
     rw [Z0b,Z0b,Z0b]
     split <;> rfl
    rw [hset] at u1
    have sm1:Z0s cm h0 (dH h0 ob mb K o (M,z.2)):=fun k hk=>by unfold dH; rw [Z0b,if_neg qO,Z01,if_neg qO]
    have l1':=l.same sm1 (Nat.le_refl _)
    have gx1:Z0f (dH h0 ob mb K o (M,z.2)) xb [.int .i64 t,.int .i64 i]:=by
     obtain ⟨ro,op,q⟩:=gx
     exact ⟨ro,op,by show (dH h0 ob mb K o _).f xb=_; unfold dH; rw [Z0b,if_neg (Ne.symm n3),Z01,if_neg (Ne.symm n2)]; exact q⟩
    have k0:ld1 (dH h0 ob mb K o (M,z.2)) (.pointer (some ⟨xb,0,none⟩))=some (.int .i64 t):=by rw [Z02 gx1]; rfl
    have k1:ld1 (dH h0 ob mb K o (M,z.2)) (.pointer (some ⟨lb,0,none⟩))=some s:=by
     obtain ⟨w',q,_⟩:=l1'.st
     rw [Z02 q]; rfl
    have ix:=l1'.sl.ixs .i64 t qO qO
    rw [Int.toNat_natCast] at ix
    have k2:ld1 (dH h0 ob mb K o (M,z.2)) (.pointer (some ⟨Z0q s,Z2I s+t*20+j*5,none⟩))=some (.int .i64 (Z0x (Z03 Gl t j))):=by
     rw [l1'.sl.rd2 (t*20) (j*5) qO]
     unfold Z0x Z03
     rw [Z3T _ _ _ qO,Z2y,show 20*t+5*j+0=t*20+j*5 by omega]
    have gob:HeapC.get (dH h0 ob mb K o (M,z.2)) ob=some (.cells false none (Zah K o z.2.1)):=by
     show (dH h0 ob mb K o (M,z.2)).f ob=_
     unfold dH
     rw [Z0b,if_neg n1,Z01,if_pos rfl]
    have k3:ld1 (dH h0 ob mb K o (M,z.2)) (.pointer (some ⟨ob,1,none⟩))=some (.int .i64 z.2.1):=by
     rw [Z02 (cs:=Zah K o z.2.1) ⟨false,none,gob⟩]; rfl
    obtain ⟨X,hX⟩:∃ X,D.getD (16*t+4*i+j) 0=X:=⟨_,rfl⟩
    rw [hX] at u1 l1
    have zb:z.2.1+z.2.2<=100000:=by omega
    by_cases hf:Z0x (Z03 Gl t j)<0
    · rw [if_pos hf] at e
      rw [e] at hk ⊢
      have w1:stN (dH h0 ob mb K o (M,z.2)) 1 (.pointer (some ⟨ob,1,none⟩)) (.int .i64 (z.2.1+1:Nat))=some (HeapC.set (dH h0 ob mb K o (M,z.2)) ob (.cells false none ((Zah K o z.2.1).set 1 (.int .i64 (z.2.1+1:Nat))))):=Z11 gob (by simp [Zah]) rfl rfl
      obtain ⟨H1,hH1⟩:∃ H1,HeapC.set (dH h0 ob mb K o (M,z.2)) ob (.cells false none ((Zah K o z.2.1).set 1 (.int .i64 (z.2.1+1:Nat))))=H1:=⟨_,rfl⟩
      have g2:HeapC.get H1 ob=some (.cells false none ((Zah K o z.2.1).set 1 (.int .i64 (z.2.1+1:Nat)))):=by
       show H1.f ob=_
       rw [← hH1,Z0b,if_pos rfl]
      have w2:stN H1 1 (.pointer (some ⟨ob,4,none⟩)) (.bool false)=some (dH h0 ob mb K o (M,z.2.1+1,z.2.2)):=by
       rw [Z11 g2 (by simp [Zah]) rfl rfl]
       congr 1
       apply FH.ext; intro k
       rw [Z0b,← hH1,Z0b]
       unfold dH
       rw [Z0b,Z0b,Z01,Z01]
       by_cases e1:k=ob
       · subst e1
         rw [if_pos rfl,if_neg n1,if_pos rfl]
         simp [Zah]
       · rw [if_neg e1,if_neg e1,if_neg e1,if_neg e1]
      rw [hH1] at w1
      have up:Z42 c (dH h0 ob mb K o z) (dH h0 ob mb K o (M,z.2.1+1,z.2.2)):=ZnG (Z42.refl _ _) lo lm
      obtain ⟨S,hS⟩:∃ S,dH h0 ob mb K o z=S:=⟨_,rfl⟩
      obtain ⟨S1,hS1⟩:∃ S,dH h0 ob mb K o (M,z.2)=S:=⟨_,rfl⟩
      obtain ⟨S2,hS2⟩:∃ S,dH h0 ob mb K o (M,z.2.1+1,z.2.2)=S:=⟨_,rfl⟩
      dsimp only at hk
      rw [hS2] at hk w2 up
      rw [hS1] at u1 k0 k1 k2 k3 w1
      rw [hS] at g0 g1 l1 u1 up ⊢
      obtain ⟨A,hA⟩:∃ A,z.2.1=A:=⟨_,rfl⟩
      obtain ⟨J,hJ⟩:∃ J,z.2.2=J:=⟨_,rfl⟩
      rw [hA] at k3 w1 zb
      rw [hJ] at zb hk ⊢
      obtain ⟨F,hF⟩:∃ F,Z0x (Z03 Gl t j)=F:=⟨_,rfl⟩
      rw [hF] at k2 hf
      push_cast at w1
      refine Ans.lpG rfl rfl (Z23 ..) ?_
      unfold Z2f
      have fx:=ai g0 (ai g1 (ai h1' (ai x1 (ai l1 (ai u1 (ai k0 (ai k1 (ai ix (ai k2 (ai hf (ai k3 (ai w1 w2))))))))))))
      refine Ans.go ?_
      clear fx
      (have fx:=ai ll (ai lr (ai lo (ai od (ai om' (ai lx (ai ow oy)))))); refine Ans.nxB (B:=S2) ?_ ?_; exact (up); clear fx)
      exact hk
    · rw [if_neg hf] at e
      rw [e] at hk ⊢
      have up:Z42 c (dH h0 ob mb K o z) (dH h0 ob mb K o (M,z.2.1,z.2.2+1)):=ZnG (Z42.refl _ _) lo lm
      obtain ⟨S,hS⟩:∃ S,dH h0 ob mb K o z=S:=⟨_,rfl⟩
      have e3:dH h0 ob mb K o (M,z.2.1,z.2.2+1)=dH h0 ob mb K o (M,z.2):=rfl
      dsimp only at hk
      rw [e3] at hk up
      obtain ⟨S1,hS1⟩:∃ S,dH h0 ob mb K o (M,z.2)=S:=⟨_,rfl⟩
      rw [hS1] at u1 k0 k1 k2 k3 hk up
      rw [hS] at g0 g1 l1 u1 up ⊢
      obtain ⟨J,hJ⟩:∃ J,z.2.2=J:=⟨_,rfl⟩
      rw [hJ] at zb hk ⊢
      obtain ⟨F,hF⟩:∃ F,Z0x (Z03 Gl t j)=F:=⟨_,rfl⟩
      rw [hF] at k2 hf
      refine Ans.lpG rfl rfl (Z23 ..) ?_
      unfold Z2f
      have fx:=ai g0 (ai g1 (ai h1' (ai x1 (ai l1 (ai u1 (ai k0 (ai k1 (ai ix (ai k2 hf)))))))))
      refine Ans.go ?_
      clear fx
      (have fx:=ai ll (ai lr (ai lo (ai od (ai om' (ai lx (ai ow oy)))))); refine Ans.nxB (B:=S1) ?_ ?_; exact (up); clear fx)
      exact hk

def ZlZ (Gl D C:List Int):Nat->Nat->List Int × Nat × Nat->List Int × Nat × Nat
 | 0,_,z=>z
 | r+1,a,z=>ZlZ Gl D C r (a+1) (dFs Gl D (oT C a) (oC C a) 4 0 z)
def DB (z:List Int × Nat × Nat) (B:Nat):Prop:=z.1.length<=z.2.1+z.2.2/\z.2.1+z.2.2<=B
theorem Zkr (L:List Int) (x:Int):(ZlL L x).length<=L.length+1:=by
 unfold ZlL; split
 · omega
 · simp
theorem dSt_b (Gl D:List Int) (t i j:Nat) {z:List Int × Nat × Nat} {B:Nat} (h:DB z B):DB (dSt Gl D t i j z) (B+1):=by
 obtain ⟨h1,h2⟩:=h
 have:=Zkr z.1 (D.getD (16*t+4*i+j) 0)
 unfold dSt
 split
 · exact ⟨h1,by omega⟩
 · split
   · exact ⟨by dsimp only; omega,by dsimp only; omega⟩
   · exact ⟨by dsimp only; omega,by dsimp only; omega⟩
theorem ZnH (Gl D:List Int) (t i:Nat):∀ (r j:Nat) {z:List Int × Nat × Nat} {B:Nat},DB z B->DB (dFs Gl D t i r j z) (B+r)
 | 0,_,z,B,h=>h
 | r+1,j,z,B,h=>by
  have:=ZnH Gl D t i r (j+1) (dSt_b Gl D t i j h)
  rw [show B+1+r=B+(r+1) by omega] at this
  exact this
theorem ZlY (Gl D C:List Int):∀ (r a:Nat) {z:List Int × Nat × Nat} {B:Nat},DB z B->DB (ZlZ Gl D C r a z) (B+4*r)
 | 0,_,z,B,h=>h
 | r+1,a,z,B,h=>by
  have:=ZlY Gl D C r (a+1) (ZnH Gl D (oT C a) (oC C a) 4 0 h)
  rw [show B+4+4*r=B+4*(r+1) by omega] at this
  exact this
theorem Zmv (x d:Nat) (hd:0<d) (hx:x<1000000000):Z00 P .quo 3 (.int .i64 (x:Int)) (.int .i64 (d:Int))=some (.int .i64 (x / d:Nat)):=by
 have h1:((x:Int).tdiv (d:Int))=((x / d:Nat):Int):=by rw [Int.tdiv_eq_ediv_of_nonneg qO]; rfl
 have h2:x / d<=x:=Nat.div_le_self _ _
 obtain ⟨y,hy⟩:∃ y,x / d=y:=⟨_,rfl⟩
 rw [hy] at h1 h2 ⊢
 rw [aBinOp_quo _ _ _ qO (by rw [h1]; omega) (by rw [h1]; omega),h1]
set_option maxHeartbeats 1000000 in
theorem de_all (lb mb pb rb ob c cm:Nat) (o:Bool) (s w dv:Value) (n:Nat) (Gl D:List Int) (Q:Nat->Bool) (h0:FH) (df:List Nat) (l:LR h0 cm lb pb s n Gl Q) (hD:SlI h0 cm dv 1 (16*n) D) (sw:SlI h0 cm w 2 (rk Q (4*n)) (crn Q (4*n))) (hcm:cm<=c)
 (n1:ob ≠ mb) (om:256*cm<=ob) (mm:256*cm<=mb) (lr:rb<256*c) (lo:ob<256*c) (lm:mb<256*c) :
 ∀ (r a:Nat) (z:List Int × Nat × Nat),a+r=rk Q (4*n)->DB z (4*a)->Ans (G (Z9Q none) [ptrTo lb,dv,ptrTo rb,ptrTo ob,.map (some mb),.int .i64 z.2.2,w,.int .i64 (rk Q (4*n)),.int .i64 a] (dH h0 ob mb (rk Q (4*n)) o z) c df) fun q =>
  q=⟨.exit 0,[ptrTo lb,dv,ptrTo rb,ptrTo ob,.map (some mb),.int .i64 (ZlZ Gl D (crn Q (4*n)) r a z).2.2,w,.int .i64 (rk Q (4*n)),.int .i64 (rk Q (4*n))],dH h0 ob mb (rk Q (4*n)) o (ZlZ Gl D (crn Q (4*n)) r a z),c,df⟩:=by
 intro r
 have hlb:=l.lb
 have ll:lb<256*c:=by omega
 have od:OkV c dv:=(hD.mono hcm).okV
 have om':OkV c (.map (some mb)):=OkV.map lm
 have ow:OkV c w:=(sw.mono hcm).okV
 have prange:rk Q (4*n)<=240:=by have:=Z9a Q (4*n); have:=l.le; omega
 induction r with
 | zero =>
  intro a z ha hz
  obtain rfl:a=rk Q (4*n):=by omega
  rw [ZlZ]
  obtain ⟨R,hR⟩:∃ R,rk Q (4*n)=R:=⟨_,rfl⟩
  rw [hR] at prange ⊢
  obtain ⟨S,hS⟩:∃ S,dH h0 ob mb R o z=S:=⟨_,rfl⟩
  rw [hS]
  refine Ans.lpG rfl rfl (Z4T ..) ?_
  unfold Z4k
  have fx:=True.intro
  refine Ans.go ?_
  clear fx
  (have fx:=ai ll (ai lr (ai lo (ai od (ai om' ow)))); refine Ans.ex0 ?_; clear fx)
  rfl
 | succ r ih =>
  intro a z ha hz
  have haK:a<rk Q (4*n):=by omega
  obtain ⟨x,hx,hQ,hrk⟩:=Z6V Q haK
  obtain ⟨eT,eC⟩:=ZmA (Q:=Q) hQ hx
  have cat:=ZeR Q hQ hx
  rw [hrk] at eT eC cat
  rw [ZlZ,eT,eC]
  obtain ⟨t,ht⟩:∃ t,x / 4=t:=⟨_,rfl⟩
  obtain ⟨i,hi⟩:∃ i,x % 4=i:=⟨_,rfl⟩
  rw [ht,hi] at cat ⊢
  have htn:t<n:=by omega
  have hi4:i<4:=by omega
  obtain ⟨xb,hxb⟩:∃ b,256*(c+1)+2=b:=⟨_,rfl⟩
  have kl:(a:Int)<rk Q (4*n):=by omega
  have sm:Z0s cm h0 (dH h0 ob mb (rk Q (4*n)) o z):=fun k hk=>by unfold dH; rw [Z0b,if_neg qO,Z01,if_neg qO]
  have sw0:=sw.same sm
  have ix:=sw0.ixs .i64 a qO qO
  rw [Int.toNat_natCast] at ix
  have l1:ldN (dH h0 ob mb (rk Q (4*n)) o z) 2 (.pointer (some ⟨Z0q w,Z2I w+a*2,none⟩))=some (av [(t:Int),(i:Int)]):=by
   rw [sw0.rdN 2 _ qO qO,cat]
  have hk:=ih (a+1) (dFs Gl D t i 4 0 z) qO (ZnH Gl D t i 4 0 hz)
  have sx:Z0s cm h0 (newB h0 xb [.int .i64 (t:Int),.int .i64 (i:Int)]):=fun k hk=>by rw [Z01,if_neg qO]
  have hzb:z.2.1+z.2.2<=4*a:=hz.2
  have st:stN (newB (dH h0 ob mb (rk Q (4*n)) o z) xb [.int .i64 0,.int .i64 0]) 2 (.pointer (some ⟨xb,0,none⟩)) (av [(t:Int),(i:Int)])=some (dH (newB h0 xb [.int .i64 (t:Int),.int .i64 (i:Int)]) ob mb (rk Q (4*n)) o z):=by
   rw [stN_all _ _ 2 _ _ rfl rfl]
   congr 1
   apply FH.ext; intro k
   unfold dH
   rw [Z01,Z0b,Z0b,Z01,Z01,Z01]
   by_cases e1:k=xb
   · subst e1; rw [if_pos rfl,if_neg qO,if_neg qO,if_pos rfl]; rfl
   · rw [if_neg e1,if_neg e1]
  have he:=Ans.eq (ZnD lb mb pb rb ob xb t i (c+1+1+1) cm (rk Q (4*n)) o s w dv (.int .i64 a) n Gl D Q _ df (l.same sx (Nat.le_refl _)) (hD.same sx) (ow.mono qO) (OkV.int _ _ _) qO htn hi4 (Z0f.newB_same _ _ _) n1 qO qO om mm qO qO qO qO 4 0 z qO qO qO)
  simp only [Int.ofNat_eq_natCast,Int.cast_ofNat_Int] at he
  have up:Z42 c (dH h0 ob mb (rk Q (4*n)) o z) (dH h0 ob mb (rk Q (4*n)) o (dFs Gl D t i 4 0 z)):=ZnG (Z42.refl _ _) lo lm
  have sB:Z0s c (dH h0 ob mb (rk Q (4*n)) o (dFs Gl D t i 4 0 z)) (dH (newB h0 xb [.int .i64 (t:Int),.int .i64 (i:Int)]) ob mb (rk Q (4*n)) o (dFs Gl D t i 4 0 z)):=fun k hk=>by
   unfold dH
   rw [Z0b,Z0b,Z01,Z01,Z01,if_neg (show ¬ k=xb by omega)]
  obtain ⟨S,hS⟩:∃ S,dH h0 ob mb (rk Q (4*n)) o z=S:=⟨_,rfl⟩
  obtain ⟨S1,hS1⟩:∃ S,dH (newB h0 xb [.int .i64 (t:Int),.int .i64 (i:Int)]) ob mb (rk Q (4*n)) o z=S:=⟨_,rfl⟩
  obtain ⟨S2,hS2⟩:∃ S,dH (newB h0 xb [.int .i64 (t:Int),.int .i64 (i:Int)]) ob mb (rk Q (4*n)) o (dFs Gl D t i 4 0 z)=S:=⟨_,rfl⟩
  obtain ⟨S3,hS3⟩:∃ S,dH h0 ob mb (rk Q (4*n)) o (dFs Gl D t i 4 0 z)=S:=⟨_,rfl⟩
  rw [hS1,hS2] at he
  rw [hS1] at st
  rw [hS3,hS2] at sB
  rw [hS3] at up hk
  rw [hS] at l1 st up ⊢
  obtain ⟨J,hJ⟩:∃ J,z.2.2=J:=⟨_,rfl⟩
  rw [hJ] at he ⊢
  obtain ⟨Z,hZ⟩:∃ Z,dFs Gl D t i 4 0 z=Z:=⟨_,rfl⟩
  rw [hZ] at he hk ⊢
  obtain ⟨R,hR⟩:∃ R,rk Q (4*n)=R:=⟨_,rfl⟩
  rw [hR] at he hk kl prange ⊢
  refine Ans.lpG rfl rfl (Z4T ..) ?_
  unfold Z4k
  have fx:=ai kl (ai ix (ai l1 (ai hxb (ai st he))))
  refine Ans.go ?_
  clear fx
  (have fx:=ai ll (ai lr (ai lo (ai od (ai om' (ai ow sB))))); refine Ans.nxB (B:=S3) ?_ ?_; exact (up); clear fx)
  exact hk
def ZnV (K:Nat) (o:Bool) (z:List Int × Nat × Nat):List Value:=[.int .i64 K,.int .i64 (z.2.1+z.2.2 / 2:Nat),.int .i64 z.1.length,.int .i64 ((z.1.length:Int)-(z.2.1+z.2.2 / 2:Nat)+K),.bool (decide (z.2.1=0)),.bool o]
def dZ (n:Nat) (Gl D:List Int) (Q:Nat->Bool):List Int × Nat × Nat:=ZlZ Gl D (crn Q (4*n)) (rk Q (4*n)) 0 ([],0,0)
set_option maxHeartbeats 1000000 in
theorem Zd5 (lb pb:Nat) (s dv:Value) (n:Nat) (Gl D:List Int) (Q:Nat->Bool) (h:FH) (c:Nat) (df:List Nat) (l:LR h c lb pb s n Gl Q) (hD:SlI h c dv 1 (16*n) D) :
 G (.fn 65) [ptrTo lb,dv] h c df=some ⟨.ret,[.agg (ZnV (rk Q (4*n)) (orB n Gl Q) (dZ n Gl D Q)).toArray],h,c,[]⟩:=by
 refine Z1l (fun r e=>f65_go e) (OkV.agg (by simp [ZnV])) ?_
 obtain ⟨w,gw,sw⟩:=l.st
 obtain ⟨rb,hrb⟩:∃ b,256*c=b:=⟨_,rfl⟩
 obtain ⟨ob,hob⟩:∃ b,256*(c+1)+8=b:=⟨_,rfl⟩
 obtain ⟨mb,hmb⟩:∃ b,256*(c+1+1)=b:=⟨_,rfl⟩
 obtain ⟨z6,hz6⟩:∃ z,[Value.int .i64 0,Value.int .i64 0,Value.int .i64 0,Value.int .i64 0,Value.bool false,Value.bool false]=z:=⟨_,rfl⟩
 have hlb:=l.lb
 obtain ⟨h1,hh1⟩:∃ h1,newB h rb z6=h1:=⟨_,rfl⟩
 have s1:Z0s c h h1:=fun k hk=>by rw [← hh1,Z01,if_neg qO]
 have l1:=l.same s1 (Nat.le_refl c)
 have lw:ld1 h1 (.pointer (some ⟨lb,1,none⟩))=some w:=by rw [Z02 (gw.same hlb s1)]; rfl
 have lq:=sw.len
 have co:=Z0c (ZaC lb pb s n Gl Q h1 (c+1+1) [] (l1.same (Z0s.refl _ _) qO))
 have prange:rk Q (4*n)<=240:=by have:=Z9a Q (4*n); have:=l.le; omega
 have hm:=Ans.eq (de_all lb mb pb rb ob (c+1+1+1+1+1) c (orB n Gl Q) s w dv n Gl D Q h1 [] l1 (hD.same s1) (sw.same s1) qO qO qO qO qO qO qO (rk Q (4*n)) 0 ([],0,0) qO ⟨by simp,by simp⟩)
 have hb:DB (dZ n Gl D Q) (0+4*rk Q (4*n)):=ZlY Gl D (crn Q (4*n)) (rk Q (4*n)) 0 (z:=([],0,0)) (B:=0) ⟨by simp,by simp⟩
 obtain ⟨b1,b2⟩:=hb
 rw [show ZlZ Gl D (crn Q (4*n)) (rk Q (4*n)) 0 ([],0,0)=dZ n Gl D Q from rfl] at hm
 simp only [Int.ofNat_eq_natCast,Int.cast_ofNat_Int] at hm
 obtain ⟨z,hz⟩:∃ z,dZ n Gl D Q=z:=⟨_,rfl⟩
 rw [hz] at hm b1 b2 ⊢
 obtain ⟨K,hK⟩:∃ K,rk Q (4*n)=K:=⟨_,rfl⟩
 obtain ⟨O,hO⟩:∃ O,orB n Gl Q=O:=⟨_,rfl⟩
 rw [hK] at lq hm b2 prange ⊢
 rw [hO] at co hm ⊢
 have u1:Z1z z6 [(0,1,.int .i64 K),(4,1,.bool true),(5,1,.bool O)]=some (.agg (Zah K O 0).toArray):=by rw [← hz6]; rfl
 have u2:stN (newB h1 ob z6) 6 (.pointer (some ⟨ob,0,none⟩)) (.agg (Zah K O 0).toArray)=some (newB h1 ob (Zah K O 0)):=by
  rw [Z0z _ 6 _ 0 _ _ rfl (by rw [← hz6]; simp) rfl,← hz6]; rfl
 obtain ⟨h2,hh2⟩:∃ h2,newB h1 ob (Zah K O 0)=h2:=⟨_,rfl⟩
 rw [hh2] at u2
 have u3:HeapC.set h2 mb (.map [])=dH h1 ob mb K O ([],0,0):=by rw [← hh2]; rfl
 obtain ⟨S0,hS0⟩:∃ S,dH h1 ob mb K O ([],0,0)=S:=⟨_,rfl⟩
 obtain ⟨S1,hS1⟩:∃ S,dH h1 ob mb K O z=S:=⟨_,rfl⟩
 have sS0:Z0s c h1 S0:=fun k hk=>by rw [← hS0]; unfold dH; rw [Z0b,if_neg qO,Z01,if_neg qO]
 have lS0:ld1 S0 (.pointer (some ⟨lb,1,none⟩))=some w:=by rw [Z02 ((gw.same hlb s1).same hlb sS0)]; rfl
 rw [hS0,hS1] at hm
 rw [hS0] at u3
 have fm:S1.f mb=some (.map (mE z.1)):=by rw [← hS1]; unfold dH; rw [Z0b,if_pos rfl]
 have fo:S1.f ob=some (.cells false none (Zah K O z.2.1)):=by rw [← hS1]; unfold dH; rw [Z0b,if_neg qO,Z01,if_pos rfl]
 have fr:S1.f rb=some (.cells false none z6):=by rw [← hS1]; unfold dH; rw [Z0b,if_neg qO,Z01,if_neg qO,← hh1,Z01,if_pos rfl]
 have sS1:Z0s c h S1:=fun k hk=>by rw [← hS1]; unfold dH; rw [Z0b,if_neg qO,Z01,if_neg qO]; exact s1 k hk
 have q1:=Zmv z.2.2 2 qO qO
 have a1:ld1 S1 (.pointer (some ⟨ob,1,none⟩))=some (.int .i64 z.2.1):=by rw [Z02 (cs:=Zah K O z.2.1) ⟨false,none,fo⟩]; rfl
 obtain ⟨A,hA⟩:∃ A,z.2.1=A:=⟨_,rfl⟩
 obtain ⟨J,hJ⟩:∃ J,z.2.2=J:=⟨_,rfl⟩
 obtain ⟨M,hM⟩:∃ M,z.1.length=M:=⟨_,rfl⟩
 obtain ⟨B,hB⟩:∃ B,J / 2=B:=⟨_,rfl⟩
 have hres:ZnV K O z=[.int .i64 K,.int .i64 (A+B:Nat),.int .i64 M,.int .i64 ((M:Int)-(A+B:Nat)+K),.bool (decide (A=0)),.bool O]:=by
  unfold ZnV; rw [hA,hJ,hM,hB]
 rw [hres]
 rw [hJ,hB] at q1
 rw [hJ] at hm b2
 rw [hA] at a1 fo b2
 rw [hM] at b1
 rw [hA,hJ] at b1
 have hBJ:B<=J:=by omega
 have w1:stN S1 1 (.pointer (some ⟨ob,1,none⟩)) (.int .i64 ((A:Int)+B))=some (HeapC.set S1 ob (.cells false none ((Zah K O A).set 1 (.int .i64 ((A:Int)+B))))):=Z11 (show HeapC.get S1 ob=_ from fo) (by simp [Zah]) rfl rfl
 obtain ⟨S2,hS2⟩:∃ S,HeapC.set S1 ob (.cells false none ((Zah K O A).set 1 (.int .i64 ((A:Int)+B))))=S:=⟨_,rfl⟩
 have f2:S2.f ob=some (.cells false none [.int .i64 K,.int .i64 ((A:Int)+B),.int .i64 0,.int .i64 0,.bool (decide (A=0)),.bool O]):=by rw [← hS2,Z0b,if_pos rfl]; rfl
 rw [hS2] at w1
 have m2:ZbZ P S2 146 (.map (some mb))=some (.int .i64 M):=by
  rw [mE_len (L:=z.1) (show S2.f mb=_ by rw [← hS2,Z0b,if_neg qO]; exact fm),hM]
 have w2:stN S2 1 (.pointer (some ⟨ob,2,none⟩)) (.int .i64 M)=some (HeapC.set S2 ob (.cells false none [.int .i64 K,.int .i64 ((A:Int)+B),.int .i64 M,.int .i64 0,.bool (decide (A=0)),.bool O])):=Z11 (show HeapC.get S2 ob=_ from f2) (by simp) rfl rfl
 obtain ⟨S3,hS3⟩:∃ S,HeapC.set S2 ob (.cells false none [.int .i64 K,.int .i64 ((A:Int)+B),.int .i64 M,.int .i64 0,.bool (decide (A=0)),.bool O])=S:=⟨_,rfl⟩
 have f3:S3.f ob=some (.cells false none [.int .i64 K,.int .i64 ((A:Int)+B),.int .i64 M,.int .i64 0,.bool (decide (A=0)),.bool O]):=by rw [← hS3,Z0b,if_pos rfl]
 rw [hS3] at w2
 have a2:ld1 S3 (.pointer (some ⟨ob,2,none⟩))=some (.int .i64 M):=by rw [Z02 ⟨false,none,f3⟩]; rfl
 have a3:ld1 S3 (.pointer (some ⟨ob,1,none⟩))=some (.int .i64 ((A:Int)+B)):=by rw [Z02 ⟨false,none,f3⟩]; rfl
 have a4:ld1 S3 (.pointer (some ⟨ob,0,none⟩))=some (.int .i64 K):=by rw [Z02 ⟨false,none,f3⟩]; rfl
 have w3:stN S3 1 (.pointer (some ⟨ob,3,none⟩)) (.int .i64 ((M:Int)-((A:Int)+B)+K))=some (HeapC.set S3 ob (.cells false none [.int .i64 K,.int .i64 ((A:Int)+B),.int .i64 M,.int .i64 ((M:Int)-((A:Int)+B)+K),.bool (decide (A=0)),.bool O])):=Z11 (show HeapC.get S3 ob=_ from f3) (by simp) rfl rfl
 obtain ⟨S4,hS4⟩:∃ S,HeapC.set S3 ob (.cells false none [.int .i64 K,.int .i64 ((A:Int)+B),.int .i64 M,.int .i64 ((M:Int)-((A:Int)+B)+K),.bool (decide (A=0)),.bool O])=S:=⟨_,rfl⟩
 have f4:S4.f ob=some (.cells false none [.int .i64 K,.int .i64 ((A:Int)+B),.int .i64 M,.int .i64 ((M:Int)-((A:Int)+B)+K),.bool (decide (A=0)),.bool O]):=by rw [← hS4,Z0b,if_pos rfl]
 rw [hS4] at w3
 obtain ⟨L,hL⟩:∃ L,[Value.int .i64 K,.int .i64 ((A:Int)+B),.int .i64 M,.int .i64 ((M:Int)-((A:Int)+B)+K),.bool (decide (A=0)),.bool O]=L:=⟨_,rfl⟩
 rw [hL] at f4
 have hL6:L.length=6:=by rw [← hL]; rfl
 have hLf:L.all Z07=true:=by rw [← hL]; rfl
 have a5:ldN S4 6 (.pointer (some ⟨ob,0,none⟩))=some (.agg L.toArray):=by
  rw [ldN_holds (cs:=L) ⟨false,none,f4⟩ qO,List.drop_zero,List.take_of_length_le qO]
 have f4r:S4.f rb=some (.cells false none z6):=by rw [← hS4,Z0b,if_neg qO,← hS3,Z0b,if_neg qO,← hS2,Z0b,if_neg qO]; exact fr
 have e4:newB S4 rb z6=S4:=by
  apply FH.ext; intro k
  rw [Z01]; split
  · rename_i e; rw [e,f4r]
  · rfl
 have w4:stN S4 6 (.pointer (some ⟨rb,0,none⟩)) (.agg L.toArray)=some (newB S4 rb L):=by
  have hz:z6.length=6:=by rw [← hz6]; rfl
  have:=Z0z S4 6 rb 0 z6 (.agg L.toArray) (by simp [Value.cells,hL6]) qO (by simpa [Value.cells] using hLf)
  rw [e4] at this
  rw [this]
  simp [Z0W,Value.cells,hL6,hz,List.drop_of_length_le (show z6.length<=6 by omega)]
 have a6:ldN (newB S4 rb L) 6 (.pointer (some ⟨rb,0,none⟩))=some (.agg L.toArray):=by
  rw [ldN_newB_same _ _ _ _ _ qO,List.drop_zero,List.take_of_length_le qO]
 have sE:Z0s c h (newB S4 rb L):=fun k hk=>by
  rw [Z01,if_neg qO,← hS4,Z0b,if_neg qO,← hS3,Z0b,if_neg qO,← hS2,Z0b,if_neg qO]
  exact sS1 k hk
 obtain ⟨S5,hS5⟩:∃ S,newB S4 rb L=S:=⟨_,rfl⟩
 rw [hS5] at w4 a6 sE
 have q2:(J:Int) / 2=(B:Int):=by omega
 unfold Zhz
 simp only [hz6,Nat.add_zero]
 have fx:=ai hrb (ai hob (ai hmb (ai hh1 (ai lw (ai lq (ai co (ai u1 (ai u2 (ai u3 (ai lS0 (ai hm (ai a1 (ai q1 (ai q2 (ai w1 (ai m2 (ai w2 (ai a2 (ai a3 (ai a4 (ai w3 (ai a5 (ai w4 (ai a6 sameB_self))))))))))))))))))))))))
 refine Ans.go ?_
 clear fx
 refine Ans.pure ?_ sE
 rw [← hL]
 push_cast
 rfl
end Go.Proofs.Ytdodippbpdechaa

namespace Go.Ab
open Go
def GrC (c0:Nat) (h:FH) (c:Nat) (v:Value) (sz n:Nat) (L:List Value):Prop :=
 (v = .slice none 0 0/\n=0/\L=[]) ∨ (0<n/\L.length=n*sz/\n<=9223372036854775807/\L.all Z07=true /\ ∃ i,v = .slice (some ⟨i,0,none⟩) n n/\256*c0<=i/\i<256*c/\h.f i=some (.cells false (some sz) L))
theorem GrC.mono {c0:Nat} {h:FH} {c c':Nat} {v:Value} {sz n:Nat} {L:List Value} (hc:c<=c') (ha:GrC c0 h c v sz n L):GrC c0 h c' v sz n L:=by
 rcases ha with ha | ⟨a,b,d,x,i,e,f,g,k⟩
 · exact .inl ha
 · exact .inr ⟨a,b,d,x,i,e,f,by omega,k⟩
theorem GrC.keep {c0:Nat} {h h':FH} {c:Nat} {v:Value} {sz n:Nat} {L:List Value} (ha:GrC c0 h c v sz n L) (hh:v ≠ .slice none 0 0->h'.f (Z0q v)=h.f (Z0q v)):GrC c0 h' c v sz n L:=by
 rcases ha with ha | ⟨a,b,d,x,i,rfl,f,g,k⟩
 · exact .inl ha
 · have:=hh (by intro e; cases e)
   rw [blkOf_sl] at this
   exact .inr ⟨a,b,d,x,i,rfl,f,g,this.trans k⟩
theorem GrC.sl {c0:Nat} {h:FH} {c:Nat} {v:Value} {sz n:Nat} {L:List Int} (ha:GrC c0 h c v sz n (ints L)):SlI h c v sz n L:=by
 rcases ha with ⟨rfl,rfl,e⟩ | ⟨a,b,d,x,i,rfl,f,g,k⟩
 · have:L=[]:=by simpa [ints] using e
   subst this
   exact ⟨by simp,by omega,none,0,rfl,.inl ⟨rfl,OkV.sl0 _ _ _⟩⟩
 · rw [ints_length] at b
   refine ⟨b,d,some ⟨i,0,none⟩,n,rfl,.inr ⟨i,0,ints L,rfl,g,⟨false,some sz,k⟩, ?_⟩⟩
   rw [List.drop_zero,List.take_of_length_le (by simp [b])]
theorem GrC.blk {c0:Nat} {h:FH} {c:Nat} {v:Value} {sz n:Nat} {L:List Value} (ha:GrC c0 h c v sz n L) (hn:v ≠ .slice none 0 0):256*c0<=Z0q v/\Z0q v<256*c:=by
 rcases ha with ⟨rfl,rfl,rfl⟩ | ⟨a,b,d,x,i,rfl,f,g,k⟩
 · exact absurd rfl hn
 · exact ⟨f,g⟩
theorem GrC.flat {c0:Nat} {h:FH} {c:Nat} {v:Value} {sz n:Nat} {L:List Value} (ha:GrC c0 h c v sz n L):Z07 v=true/\v.cells = #[v]:=by
 rcases ha with ⟨rfl,rfl,rfl⟩ | ⟨a,b,d,x,i,rfl,f,g,k⟩ <;> exact ⟨rfl,rfl⟩
theorem GrC.len {c0:Nat} {h:FH} {c:Nat} {v:Value} {sz n:Nat} {L:List Value} (ha:GrC c0 h c v sz n L):Z2d v=some (.int .i64 n):=by
 rcases ha with ⟨rfl,rfl,rfl⟩ | ⟨a,b,d,x,i,rfl,f,g,k⟩ <;> rfl
theorem GrC.app {c0:Nat} {h:FH} {c c':Nat} {v:Value} {sz n:Nat} {L:List Value} (ha:GrC c0 h c v sz n L) (X:List Value) (hX:X.length=sz) (hXf:X.all Z07=true) (hsz:0<sz) (by' b id:Nat) (hb:256*c<=b) (hid:256*c<=id) (hne:b ≠ id) (hc0:c0<=c)
 (hid':id<256*c') (hlim:(n+1)*(by'+1)<=17592186044416) :
 ∃ h',Z6e (newB h b X) id sz by' v (.slice (some ⟨b,0,none⟩) 1 1)=some (.slice (some ⟨id,0,none⟩) (n+1) (n+1),h')/\GrC c0 h' c' (.slice (some ⟨id,0,none⟩) (n+1) (n+1)) sz (n+1) (L++X)/\(∀ j,j<256*c->(v ≠ .slice none 0 0->j ≠ Z0q v)->h'.f j=h.f j):=by
 have hlim':Nat.ble ((n+1)*(by'+1)) 17592186044416=true:=Nat.ble_eq_true_of_le hlim
 have hsrc:Z0A (newB h b X) sz (.slice (some ⟨b,0,none⟩) 1 1)=some (X,1):=by
  have:Nat.ble (0+1*sz) X.length=true:=Nat.ble_eq_true_of_le (by simp [hX])
  simp only [Z0A,Z0I,Z0k,get_newB_same,Option.bind_some,this,cond_true,List.drop_zero]
  rw [List.take_of_length_le (by simp [hX])]
 have hn1:n+1<=17592186044416:=by
  have:(n+1)*1<=(n+1)*(by'+1):=Nat.mul_le_mul_left _ qO
  omega
 have hcap:Nat.ble (n+1) n=false:=by rw [Bool.eq_false_iff]; intro hh; have:=Nat.le_of_ble_eq_true hh; omega
 rcases ha with ⟨rfl,rfl,rfl⟩ | ⟨h0,h1,h2,hf,i,rfl,h3,h4,h5⟩
 · refine ⟨HeapC.set (newB h b X) id (.cells false (some sz) X), ?_,.inr ⟨by omega,by simp [hX],by omega,by simpa using hXf,id,rfl,by omega,hid', ?_⟩, ?_⟩
   · simp only [Z6e,hsrc,Option.bind_some,appTo,hcap,cond_false,Z1M,hlim',hXf,Bool.and_self,cond_true,Nat.beq_refl,Nat.zero_add]
   · rw [Z0b,if_pos rfl]; rfl
   · intro j hj _
     rw [Z0b,if_neg qO,Z01,if_neg qO]
 · have hbi:i ≠ b:=by omega
   have hg:HeapC.get (newB h b X) i=some (.cells false (some sz) L):=by rw [get_newB_ne _ _ _ _ hbi]; exact h5
   have hr:Nat.ble (0+n*sz) L.length=true:=Nat.ble_eq_true_of_le (by simp [h1])
   refine ⟨HeapC.set (HeapC.set (newB h b X) i .dead) id (.cells false (some sz) ((L.drop 0).take (n*sz)++X)), ?_,.inr ⟨by omega, ?_,by omega, ?_,id,rfl,by omega,hid', ?_⟩, ?_⟩
   · simp only [Z6e,hsrc,Option.bind_some,appTo,hcap,cond_false,Z1M,hlim',hXf,Bool.and_self,cond_true,Z0I,Z0k,hg,hr,Nat.beq_refl,Bool.not_false,Bool.and_true]
   · simp [h1,hX,Nat.succ_mul]
   · rw [List.all_append,hf,hXf]; rfl
   · rw [Z0b,if_pos rfl,List.drop_zero,List.take_of_length_le (by simp [h1])]
   · intro j hj hv
     have:=hv (by intro e; cases e)
     rw [blkOf_sl] at this
     rw [Z0b,if_neg qO,Z0b,if_neg this,Z01,if_neg qO]
theorem GrC.step {c0:Nat} {h:FH} {c c' sb o:Nat} {fs:List Value} {v:Value} {sz n:Nat} {L:List Value} (hf:h.f sb=some (.cells false none fs)) (ho:fs[o]? = some v) (lsb:sb<256*c0) (ha:GrC c0 h c v sz n L) (X:List Value) (hX:X.length=sz) (hXf:X.all Z07=true) (hsz:0<sz) (by' b id:Nat) (hb:256*c<=b) (hid:256*c<=id) (hne:b ≠ id) (hc0:c0<=c)
 (hid':id<256*c') (hlim:(n+1)*(by'+1)<=17592186044416) :
 ∃ h1 h2,ld1 h (.pointer (some ⟨sb,o,none⟩))=some v/\Z6e (newB h b X) id sz by' v (.slice (some ⟨b,0,none⟩) 1 1)=some (.slice (some ⟨id,0,none⟩) (n+1) (n+1),h1) ∧
  stN h1 1 (.pointer (some ⟨sb,o,none⟩)) (.slice (some ⟨id,0,none⟩) (n+1) (n+1))=some h2/\h2.f sb=some (.cells false none (fs.set o (.slice (some ⟨id,0,none⟩) (n+1) (n+1)))) ∧
  GrC c0 h2 c' (.slice (some ⟨id,0,none⟩) (n+1) (n+1)) sz (n+1) (L++X)/\(∀ j,j<256*c->j ≠ sb->(v ≠ .slice none 0 0->j ≠ Z0q v)->h2.f j=h.f j):=by
 obtain ⟨h1,e1,e2,e3⟩:=ha.app X hX hXf hsz by' b id hb hid hne hc0 hid' hlim
 have hol:o<fs.length:=by
  rcases Nat.lt_or_ge o fs.length with q | q
  · exact q
  · rw [List.getElem?_eq_none qO] at ho; cases ho
 have f1:h1.f sb=some (.cells false none fs):=(e3 sb qO (fun hv=>by have:=(ha.blk hv).1; omega)).trans hf
 refine ⟨h1,_, ?_,e1,Z11 (show HeapC.get h1 sb=_ from f1) hol e2.flat.2 e2.flat.1,by rw [Z0b,if_pos rfl],e2.keep fun _=>?_,fun j hj h1' h2'=>?_⟩
 · rw [Z02 (cs:=fs) ⟨false,none,hf⟩,ho]
 · rw [blkOf_sl,Z0b,if_neg qO]
 · rw [Z0b,if_neg h1']
   exact e3 j hj h2'
theorem Zc7 {h:FH} {b m:Nat} {cs:List Value} (hf:h.f b=some (.cells false none cs)) (k k':IntKind) (lo hi:Nat) (h1:lo<=hi) (h2:hi<=m):slS h 1 (.slice (some ⟨b,0,none⟩) m m) (some (.int k lo)) (some (.int k' hi)) none=some (.slice (some ⟨b,lo,none⟩) (hi-lo) (m-lo)):=by
 have g:HeapC.get h b=some (.cells false none cs):=hf
 have q0:Nat.ble m m=true:=Nat.ble_eq_true_of_le (Nat.le_refl _)
 have q1:(0:Int)<=hi:=by omega
 have q2:(hi:Int)<=(m:Int):=by omega
 have q3:(lo:Int)<=(hi:Int):=by omega
 have q4:(0:Int)<=lo:=by omega
 simp only [slS,Zii,g,cond_true,Zll,Zlm,q0,Option.bind_some,bnd,decide_eq_true q1,decide_eq_true q2,Int.toNat_natCast,decide_eq_true q4,decide_eq_true q3,Bool.and_self,Option.isSome_none,Bool.false_and,cond_false,ZlB,Nat.zero_add,Nat.mul_one]
end Go.Ab

namespace Go.Proofs.Ytdodippbpdechaa
open Go Go.Ab Go.Proofs
theorem Z5o (b n:Nat) (k:IntKind) (i:Int) (h1:0<=i) (h2:i<(n:Int)):ixS 1 (.slice (some ⟨b,0,none⟩) n n) (.int k i)=some (.pointer (some ⟨b,i.toNat,none⟩)):=by
 rw [ixS_sl 1 b 0 n n k i h1 h2,Nat.zero_add,Nat.mul_one]
def eAn (k:Nat):Nat:=(edL.getD (2*k) 0).toNat
def eBn (k:Nat):Nat:=(edL.getD (2*k+1) 0).toNat
theorem eAB {k:Nat} (hk:k<6):edL.getD (2*k) 0=eAn k/\edL.getD (2*k+1) 0=eBn k/\eAn k<4/\eBn k<4/\eAn k<eBn k:=by
 have:k=0 ∨ k=1 ∨ k=2 ∨ k=3 ∨ k=4 ∨ k=5:=by omega
 rcases this with rfl | rfl | rfl | rfl | rfl | rfl <;> decide
def sSt (E D:List Int) (t k:Nat) (z:List Int × List Bool):List Int × List Bool :=
 (z.1.set (E.getD (6*t+k) 0).toNat (z.1.getD (E.getD (6*t+k) 0).toNat 0+1),
  if D.getD (16*t+4*eAn k+eBn k) 0=D.getD (16*t+4*eBn k+eAn k) 0 then z.2.set (E.getD (6*t+k) 0).toNat true else z.2)
def sKs (E D:List Int) (t:Nat):Nat->Nat->List Int × List Bool->List Int × List Bool
 | 0,_,z=>z
 | r+1,k,z=>sKs E D t r (k+1) (sSt E D t k z)
structure SB (m:Nat) (z:List Int × List Bool) (B:Nat):Prop where
 l1:z.1.length=m
 l2:z.2.length=m
 b:∀ x,0<=z.1.getD x 0/\z.1.getD x 0<=B
theorem SB.st {m:Nat} {z:List Int × List Bool} {B:Nat} (h:SB m z B) (E D:List Int) (t k:Nat):SB m (sSt E D t k z) (B+1):=by
 obtain ⟨h1,h2,h3⟩:=h
 refine ⟨by simp [sSt,h1], ?_,fun x=>?_⟩
 · simp only [sSt]; split <;> simp [h2]
 · simp only [sSt,Z0C]
   have a:=h3 x
   have b:=h3 (E.getD (6*t+k) 0).toNat
   split
   · rw [Int.natCast_add]; omega
   · rw [Int.natCast_add]; omega
theorem SB.ks {m:Nat} (E D:List Int) (t:Nat):∀ (r k:Nat) {z:List Int × List Bool} {B:Nat},SB m z B->SB m (sKs E D t r k z) (B+r)
 | 0,_,z,B,h=>h
 | r+1,k,z,B,h=>by
  have:=SB.ks E D t r (k+1) (h.st E D t k)
  rw [show B+1+r=B+(r+1) by omega] at this
  exact this
noncomputable def kH (h0:FH) (gb rb:Nat) (z:List Int × List Bool):FH:=newB (newB h0 gb (ints z.1)) rb (bools z.2)
theorem Zh5 (h0:FH) (gb rb:Nat) (z:List Int × List Bool) (j:Nat):(kH h0 gb rb z).f j=if j=rb then some (.cells false none (bools z.2)) else if j=gb then some (.cells false none (ints z.1)) else h0.f j:=by
 unfold kH
 rw [Z01,Z01]
theorem kH_up {c gb rb:Nat} {h0:FH} {z z':List Int × List Bool} (lg:gb<256*c) (lr:rb<256*c):Z42 c (kH h0 gb rb z) (kH h0 gb rb z'):=by
 unfold kH
 exact Z42.both (Z1F.bools _ _) (Z42.both (Z1F.ints _ _) (Z42.refl _ _) lg) lr
set_option maxHeartbeats 1000000 in
theorem Zmg (pb0 cb vb db eb tb sb gb rb t n m c cm:Nat) (cnt:Int) (D E:List Int) (f0 f1 f2 f5:Value) (h0:FH) (df:List Nat)
 (fs:h0.f sb=some (.cells false none [f0,f1,f2,.slice (some ⟨gb,0,none⟩) m m,.slice (some ⟨rb,0,none⟩) m m,f5])) (fd:h0.f db=some (.cells false none (ints D))) (fe:h0.f eb=some (.cells false none (ints E)))
 (lD:D.length=16*n) (lE:E.length=6*n) (hE:∀ k,k<6->0<=E.getD (6*t+k) 0/\E.getD (6*t+k) 0<m) (ht:t<n) (hn:n<=60)
 (lp:pb0<256*c) (lc:cb<256*c) (lv:vb<256*c) (ld:db<256*c) (le:eb<256*c) (lt:tb<256*c) (ls:sb<256*c) (lg:gb<256*c) (lr:rb<256*c)
 (n1:gb ≠ rb) (n2:sb ≠ gb) (n3:sb ≠ rb) (n4:db ≠ gb) (n5:db ≠ rb) (n6:eb ≠ gb) (n7:eb ≠ rb) (hm:m<=360) :
 ∀ (r k:Nat) (z:List Int × List Bool),k+r=6->SB m z (6*t+k)->Ans (G (Za3 none) [ptrTo pb0,ptrTo cb,.slice (some ⟨vb,0,none⟩) (4*n) (4*n),.int .i64 cnt,.slice (some ⟨db,0,none⟩) (16*n) (16*n),.slice (some ⟨eb,0,none⟩) (6*n) (6*n),.slice (some ⟨tb,0,none⟩) (4*n) (4*n),ptrTo sb,.int .i64 t,.int .i64 n,.int .i64 t,av edL,.int .i64 k] (kH h0 gb rb z) c df) fun q =>
  q=⟨.exit 2,[ptrTo pb0,ptrTo cb,.slice (some ⟨vb,0,none⟩) (4*n) (4*n),.int .i64 cnt,.slice (some ⟨db,0,none⟩) (16*n) (16*n),.slice (some ⟨eb,0,none⟩) (6*n) (6*n),.slice (some ⟨tb,0,none⟩) (4*n) (4*n),ptrTo sb,.int .i64 t,.int .i64 n,.int .i64 t,av edL,.int .i64 6],kH h0 gb rb (sKs E D t r k z),c,df⟩:=by
 intro r
 have o1:OkV c (av edL):=OkV.av _ _
 induction r with
 | zero =>
  intro k z hk hz
  obtain rfl:k=6:=by omega
  obtain ⟨S,hS⟩:∃ S,kH h0 gb rb z=S:=⟨_,rfl⟩
  rw [sKs,hS]
  refine Ans.lpG rfl rfl (Z2O ..) ?_
  unfold Z3y
  have fx:=True.intro
  refine Ans.go ?_
  clear fx
  (have fx:=ai lp (ai lc (ai lv (ai ld (ai le (ai lt (ai ls (ai lg (ai lr o1)))))))); refine Ans.ex0 ?_; clear fx)
  rfl
 | succ r ih =>
  intro k z hk hz
  have hk6:k<6:=by omega
  have kl:(k:Int)<6:=by omega
  obtain ⟨ea,eb',a4,b4,-⟩:=eAB hk6
  have x1:=Z8F edL 6 2 .i64 (k:Int) qO qO rfl
  rw [Int.toNat_natCast,ZhU hk6,ea,eb'] at x1
  have hk':=ih (k+1) (sSt E D t k z) qO (hz.st E D t k)
  rw [sKs]
  obtain ⟨a,hA⟩:∃ a,eAn k=a:=⟨_,rfl⟩
  obtain ⟨b,hB⟩:∃ b,eBn k=b:=⟨_,rfl⟩
  rw [hA] at x1 a4
  rw [hB] at x1 b4
  obtain ⟨e0,e1⟩:=hE k hk6
  obtain ⟨cl,hcl⟩:∃ cl:Nat,E.getD (6*t+k) 0=cl:=⟨(E.getD (6*t+k) 0).toNat,by omega⟩
  have hst':sSt E D t k z=(z.1.set cl (z.1.getD cl 0+1),if D.getD (16*t+4*a+b) 0=D.getD (16*t+4*b+a) 0 then z.2.set cl true else z.2):=by
   unfold sSt
   rw [hcl,hA,hB,Int.toNat_natCast]
  rw [hst'] at hk' ⊢
  have hclm:cl<m:=by omega
  obtain ⟨w,hw⟩:∃ w,z.1.getD cl 0=w:=⟨_,rfl⟩
  have hwb:=hz.b cl
  rw [hw] at hk' hwb ⊢
  have l1:=hz.l1
  have l2:=hz.l2
  obtain ⟨pb,hpb⟩:∃ b,256*(c+1)+2=b:=⟨_,rfl⟩
  obtain ⟨S,hS⟩:∃ S,kH h0 gb rb z=S:=⟨_,rfl⟩
  have Sf:∀ j,S.f j=if j=rb then some (.cells false none (bools z.2)) else if j=gb then some (.cells false none (ints z.1)) else h0.f j:=fun j=>by rw [← hS]; exact Zh5 h0 gb rb z j
  have st:stN (newB S pb [.int .i64 0,.int .i64 0]) 2 (.pointer (some ⟨pb,0,none⟩)) (av [(a:Int),(b:Int)])=some (newB S pb [.int .i64 a,.int .i64 b]):=stN_all _ _ 2 _ _ rfl rfl
  obtain ⟨H1,hH1⟩:∃ H,newB S pb [.int .i64 (a:Int),.int .i64 (b:Int)]=H:=⟨_,rfl⟩
  have H1f:∀ j,H1.f j=if j=pb then some (.cells false none [.int .i64 (a:Int),.int .i64 (b:Int)]) else S.f j:=fun j=>by rw [← hH1,Z01]
  rw [hH1] at st
  have r1:ld1 H1 (.pointer (some ⟨eb,6*t+k,none⟩))=some (.int .i64 cl):=by
   rw [Z02 (cs:=ints E) ⟨false,none,by show H1.f eb=_; rw [H1f,if_neg qO,Sf,if_neg n7,if_neg n6]; exact fe⟩,ints_getD _ _ qO,hcl]
  have r2:ld1 H1 (.pointer (some ⟨sb,3,none⟩))=some (.slice (some ⟨gb,0,none⟩) m m):=by
   rw [Z02 ⟨false,none,by show H1.f sb=_; rw [H1f,if_neg qO,Sf,if_neg n3,if_neg n2]; exact fs⟩]; rfl
  have g1:HeapC.get H1 gb=some (.cells false none (ints z.1)):=by show H1.f gb=_; rw [H1f,if_neg qO,Sf,if_neg n1,if_pos rfl]
  have r3:ld1 H1 (.pointer (some ⟨gb,cl,none⟩))=some (.int .i64 w):=by
   rw [Z02 (cs:=ints z.1) ⟨false,none,g1⟩,ints_getD _ _ qO,hw]
  have w1:stN H1 1 (.pointer (some ⟨gb,cl,none⟩)) (.int .i64 (w+1))=some (HeapC.set H1 gb (.cells false none (ints (z.1.set cl (w+1))))):=by
   rw [Z11 g1 (by simp; omega) rfl rfl,Z1Z]
  obtain ⟨H3,hH3⟩:∃ H,HeapC.set H1 gb (.cells false none (ints (z.1.set cl (w+1))))=H:=⟨_,rfl⟩
  have H3f:∀ j,H3.f j=if j=gb then some (.cells false none (ints (z.1.set cl (w+1)))) else H1.f j:=fun j=>by rw [← hH3,Z0b]
  rw [hH3] at w1
  have gp:Z0f H3 pb [.int .i64 (a:Int),.int .i64 (b:Int)]:=⟨false,none,by show H3.f pb=_; rw [H3f,if_neg qO,H1f,if_pos rfl]⟩
  have p0:ld1 H3 (.pointer (some ⟨pb,0,none⟩))=some (.int .i64 a):=by rw [Z02 gp]; rfl
  have p1:ld1 H3 (.pointer (some ⟨pb,1,none⟩))=some (.int .i64 b):=by rw [Z02 gp]; rfl
  have gd:Z0f H3 db (ints D):=⟨false,none,by show H3.f db=_; rw [H3f,if_neg n4,H1f,if_neg qO,Sf,if_neg n5,if_neg n4]; exact fd⟩
  have r4:ld1 H3 (.pointer (some ⟨db,16*t+4*a+b,none⟩))=some (.int .i64 (D.getD (16*t+4*a+b) 0)):=by rw [Z02 gd,ints_getD _ _ qO]
  have r5:ld1 H3 (.pointer (some ⟨db,16*t+4*b+a,none⟩))=some (.int .i64 (D.getD (16*t+4*b+a) 0)):=by rw [Z02 gd,ints_getD _ _ qO]
  have r6:ld1 H3 (.pointer (some ⟨sb,4,none⟩))=some (.slice (some ⟨rb,0,none⟩) m m):=by
   rw [Z02 ⟨false,none,by show H3.f sb=_; rw [H3f,if_neg n2,H1f,if_neg qO,Sf,if_neg n3,if_neg n2]; exact fs⟩]; rfl
  have g3:HeapC.get H3 rb=some (.cells false none (bools z.2)):=by show H3.f rb=_; rw [H3f,if_neg (Ne.symm n1),H1f,if_neg qO,Sf,if_pos rfl]
  have w2:stN H3 1 (.pointer (some ⟨rb,cl,none⟩)) (.bool true)=some (HeapC.set H3 rb (.cells false none (bools (z.2.set cl true)))):=by
   rw [Z11 g3 (by simp [Z7I]; omega) rfl rfl,ZbR]
  have i1:ixS 1 (.slice (some ⟨eb,0,none⟩) (6*n) (6*n)) (.int .i64 (6*(t:Int)+k))=some (.pointer (some ⟨eb,6*t+k,none⟩)):=by
   have:=Z5o eb (6*n) .i64 (6*(t:Int)+k) qO qO
   rwa [show (6*(t:Int)+k).toNat=6*t+k by omega] at this
  have i2:ixS 1 (.slice (some ⟨gb,0,none⟩) m m) (.int .i64 (cl:Int))=some (.pointer (some ⟨gb,cl,none⟩)):=by
   have:=Z5o gb m .i64 (cl:Int) qO qO
   rwa [Int.toNat_natCast] at this
  have i3:ixS 1 (.slice (some ⟨db,0,none⟩) (16*n) (16*n)) (.int .i64 (16*(t:Int)+4*a+b))=some (.pointer (some ⟨db,16*t+4*a+b,none⟩)):=by
   have:=Z5o db (16*n) .i64 (16*(t:Int)+4*a+b) qO qO
   rwa [show (16*(t:Int)+4*a+b).toNat=16*t+4*a+b by omega] at this
  have i4:ixS 1 (.slice (some ⟨db,0,none⟩) (16*n) (16*n)) (.int .i64 (16*(t:Int)+4*b+a))=some (.pointer (some ⟨db,16*t+4*b+a,none⟩)):=by
   have:=Z5o db (16*n) .i64 (16*(t:Int)+4*b+a) qO qO
   rwa [show (16*(t:Int)+4*b+a).toNat=16*t+4*b+a by omega] at this
  have i5:ixS 1 (.slice (some ⟨rb,0,none⟩) m m) (.int .i64 (cl:Int))=some (.pointer (some ⟨rb,cl,none⟩)):=by
   have:=Z5o rb m .i64 (cl:Int) qO qO
   rwa [Int.toNat_natCast] at this
  obtain ⟨X,hX⟩:∃ X,D.getD (16*t+4*a+b) 0=X:=⟨_,rfl⟩
  obtain ⟨Y,hY⟩:∃ Y,D.getD (16*t+4*b+a) 0=Y:=⟨_,rfl⟩
  rw [hX] at r4 hk' ⊢
  rw [hY] at r5 hk' ⊢
  obtain ⟨ZE,hZE⟩:∃ Z,Value.slice (some ⟨eb,0,none⟩) (6*n) (6*n)=Z:=⟨_,rfl⟩
  obtain ⟨ZD,hZD⟩:∃ Z,Value.slice (some ⟨db,0,none⟩) (16*n) (16*n)=Z:=⟨_,rfl⟩
  have oe:OkV c ZE:=by rw [← hZE]; exact OkV.sl le
  have od:OkV c ZD:=by rw [← hZD]; exact OkV.sl ld
  rw [hZE] at i1 hk' ⊢
  rw [hZD] at i3 i4 hk' ⊢
  have hS':kH h0 gb rb z=S:=hS
  have tn:t<60:=by omega
  by_cases hXY:X=Y
  · rw [if_pos hXY] at hk' ⊢
    obtain ⟨H5,hH5⟩:∃ H,HeapC.set H3 rb (.cells false none (bools (z.2.set cl true)))=H:=⟨_,rfl⟩
    rw [hH5] at w2
    have up:Z42 c (kH h0 gb rb z) (kH h0 gb rb (z.1.set cl (w+1),z.2.set cl true)):=kH_up lg lr
    have sB:Z0s c (kH h0 gb rb (z.1.set cl (w+1),z.2.set cl true)) H5:=fun j hj=>by
     rw [Zh5]
     by_cases e1:j=rb
     · rw [if_pos e1,← hH5,Z0b,if_pos e1]
     · by_cases e2:j=gb
       · rw [if_neg e1,if_pos e2,← hH5,Z0b,if_neg e1,H3f,if_pos e2]
       · rw [if_neg e1,if_neg e2,← hH5,Z0b,if_neg e1,H3f,if_neg e2,H1f,if_neg qO,Sf,if_neg e1,if_neg e2]
    obtain ⟨S2,hS2⟩:∃ S,kH h0 gb rb (z.1.set cl (w+1),z.2.set cl true)=S:=⟨_,rfl⟩
    rw [hS2] at hk' up sB
    rw [hS'] at up ⊢
    rw [hXY] at r4
    refine Ans.lpG rfl rfl (Z2O ..) ?_
    unfold Z3y
    have fx:=ai x1 (ai hpb (ai st (ai i1 (ai r1 (ai r2 (ai i2 (ai r3 (ai w1 (ai p0 (ai p1 (ai i3 (ai r4 (ai i4 (ai r5 (ai r6 (ai i5 w2))))))))))))))))
    refine Ans.go ?_
    clear fx
    (have fx:=ai lp (ai lc (ai lv (ai ld (ai le (ai lt (ai ls (ai lg (ai lr (ai o1 (ai oe (ai od sB))))))))))); refine Ans.nxB (B:=S2) ?_ ?_; exact (up); clear fx)
    exact hk'
  · rw [if_neg hXY] at hk' ⊢
    have up:Z42 c (kH h0 gb rb z) (kH h0 gb rb (z.1.set cl (w+1),z.2)):=kH_up lg lr
    have sB:Z0s c (kH h0 gb rb (z.1.set cl (w+1),z.2)) H3:=fun j hj=>by
     rw [Zh5]
     by_cases e1:j=rb
     · rw [if_pos e1,H3f,if_neg qO,H1f,if_neg qO,Sf,if_pos e1]
     · by_cases e2:j=gb
       · rw [if_neg e1,if_pos e2,H3f,if_pos e2]
       · rw [if_neg e1,if_neg e2,H3f,if_neg e2,H1f,if_neg qO,Sf,if_neg e1,if_neg e2]
    obtain ⟨S2,hS2⟩:∃ S,kH h0 gb rb (z.1.set cl (w+1),z.2)=S:=⟨_,rfl⟩
    rw [hS2] at hk' up sB
    rw [hS'] at up ⊢
    refine Ans.lpG rfl rfl (Z2O ..) ?_
    unfold Z3y
    have fx:=ai x1 (ai hpb (ai st (ai i1 (ai r1 (ai r2 (ai i2 (ai r3 (ai w1 (ai p0 (ai p1 (ai i3 (ai r4 (ai i4 (ai r5 hXY))))))))))))))
    refine Ans.go ?_
    clear fx
    (have fx:=ai lp (ai lc (ai lv (ai ld (ai le (ai lt (ai ls (ai lg (ai lr (ai o1 (ai oe (ai od sB))))))))))); refine Ans.nxB (B:=S2) ?_ ?_; exact (up); clear fx)
    exact hk'
end Go.Proofs.Ytdodippbpdechaa
