/- Parts of a proof: U8 U9 AbRow2 AbRow3 AbApp2 W1 W2 W3 V1 W4 W5 I7 U10 N11 U11 B1 B2 AbApp3 B7 B8 B9 AbUf2. Conditions: none. -/
import Derived.Test.YtcnndelmnobigaaM19
import Derived.Test.YtcnndelmnobigaaM15
import Derived.Test.YtcnndelmnobigaaM8
import Derived.Test.YtcnndelmnobigaaM17
set_option linter.all false
set_option maxRecDepth 100000
namespace Go.Proofs.Ytcnndelmnobigaa
open Go Go.Ab Go.Proofs
def wgt (V:List Int) (x:Int):Int:=Z1V V (x / 6) (x % 6)
theorem Z83 (V:List Int) (k:Nat):wgt V k=Z1V V (k / 6:Nat) (k % 6:Nat):=by
 unfold wgt
 congr 1
theorem Zbs (v:Value) (nv:Nat) (V:List Int) (n c0:Nat) (F:Value) (m:Nat) (L:List Int) (hn:n<=60) (hnv:nv=7*n) (hV:∀ j,0<=gi V j/\gi V j<=1000000) (hL:∀ x,x ∈ L -> ∃ k:Nat,x=k/\k<6*n) (hm:m<=1000) (df:List Nat) :
 ∀ (k i cc:Nat) (h:FH) (out:Value),i+k=m->c0<=cc->SlI h c0 v 1 nv V->SlI h cc F 1 m L->(0<m->Z0D F ≠ Z0D out)->Z67 c0 h cc out i (ints ((L.take i).map (wgt V))) →
 Ans (G (Z9S none) [v,out,F,.int .i64 m,.int .i64 i] h cc df) fun r=>r.e = .exit 0/\cc<=r.c/\r.df=df/\Z0E c0 h r.h/\Z67 c0 r.h r.c (r.v 1) m (ints (L.map (wgt V))):=by
 intro k
 induction k with
 | zero =>
  intro i cc h out hi hc sv sf hne ha
  obtain rfl:i=m:=by omega
  have e:L.take i=L:=List.take_of_length_le (by have:=sf.1; omega)
  rw [e] at ha
  refine Ans.lpN rfl rfl (Z4I ..) ?_
  unfold Z4b
  have fx:=True.intro
  refine Ans.go ?_
  clear fx
  exact Ans.exitN ⟨rfl,(by show cc<=cc+1; omega),rfl,fun _ _=>rfl,ha.mono (by show cc<=cc+1; omega)⟩
 | succ k ih =>
  intro i cc h out hi hc sv sf hne ha
  have hl:=sf.1
  have l1:=sf.rdi i qO qO
  simp only [Int.toNat_natCast] at l1
  rw [Z3U] at l1
  have hLi:L.getD i 0=L[i]'qO:=by simp [List.getD_eq_getElem?_getD,List.getElem?_eq_getElem (by omega:i<L.length)]
  obtain ⟨x,hx,hx6⟩:=hL (L[i]'qO) (List.getElem_mem _)
  have ht:(L.take (i+1)).map (wgt V)=(L.take i).map (wgt V)++[Z1V V (x / 6:Nat) (x % 6:Nat)]:=by
   rw [List.take_succ_eq_append_getElem qO,List.map_append,hx,← Z83]; rfl
  rw [hLi,hx] at l1
  have q1:Z00 P .quo 3 (.int .i64 (x:Int)) (.int .i64 6)=some (.int .i64 (x / 6:Nat)):=by
   rw [aBinOp_quo _ _ _ qO (by rw [Int.tdiv_eq_ediv_of_nonneg qO]; omega) (by rw [Int.tdiv_eq_ediv_of_nonneg qO]; omega),Int.tdiv_eq_ediv_of_nonneg qO]; rfl
  have q2:Z00 P .rem 3 (.int .i64 (x:Int)) (.int .i64 6)=some (.int .i64 (x % 6:Nat)):=by
   rw [aBinOp_rem _ _ _ qO,Int.tmod_eq_emod_of_nonneg qO]; rfl
  have cw:=fun c' (hc':c0<=c')=>Z0b (Zhj v nv V (x / 6) (x % 6:Nat) h c' [] (sv.mono hc') qO qO qO qO hV)
  obtain ⟨T,hT⟩:∃ T,x / 6=T:=⟨_,rfl⟩
  obtain ⟨E,hE⟩:∃ E,x % 6=E:=⟨_,rfl⟩
  rw [hT] at q1 cw ht
  rw [hE] at q2 cw ht
  obtain ⟨W,hW⟩:∃ W,Z1V V (T:Int) E=W:=⟨_,rfl⟩
  rw [hW] at cw ht
  have hb:Z4Y [.int .i64 0] [(0,1,.int .i64 W)]=some [.int .i64 W]:=rfl
  obtain ⟨h',p1,p2,p3⟩:=(ha.mono (c':=cc+1+1) qO).app (c':=cc+1+1+1) (.int .i64 W) rfl 8 (256*(cc+1+1)+7) (256*(cc+1+1)+8) qO qO qO qO qO qO
  have bo:=ha.blk
  refine Ans.lpN rfl rfl (Z4I ..) ?_
  unfold Z4b
  have fx:=ai sf.ixs1 (ai l1 (ai q1 (ai q2 (ai cw (ai hb p1)))))
  refine Ans.go ?_
  clear fx
  refine Ans.nextN ?_
  have s0:Z0E c0 h h':=fun b hb=>p3 b qO qO
  refine (ih (i+1) _ h' _ qO qO (sv.same s0) ?_ (fun hp=>?_) ?_).mono ?_
  · exact (sf.keep (fun hp=>p3 _ (by have:=sf.blk hp; omega) (hne hp))).mono qO
  · rw [blkOf_sl]; have:=sf.blk hp; omega
  · rw [ht]
    rw [ints,List.map_append]
    exact p2.mono qO
  · rintro r ⟨q1,q2,q3,q4,q5⟩
    exact ⟨q1,by omega,q3,s0.trans q4,q5⟩
def edF (Gl:List Int) (n:Nat):List Int:=Z0U (eCl Gl n (Z2v Gl n)) (6*n)
theorem Z9o (s v:Value) (n nv:Nat) (Gl V:List Int) (h:FH) (c:Nat) (df:List Nat) (hs:SlI h c s 20 n Gl) (hv:SlI h c v 1 nv V) (hok:Z0w Gl n=true) (hn:n<=60) (hnv:nv=7*n) (hV:∀ j,0<=gi V j/\gi V j<=1000000) :
 Ans (G (.fn 49) [.agg #[s],v] h c df) fun r=>∃ w,r=⟨.ret,[w],r.h,r.c,[]⟩/\c<=r.c/\Z0E c h r.h/\Z67 c r.h r.c w (edF Gl n).length (ints ((edF Gl n).map (wgt V))):=by
 refine Ans.call' (fun r e=>f49_go e) ?_
 unfold ZiG
 rw [Z96 hs.flat,Z8T,Nat.add_zero]
 simp only [cond_true]
 obtain ⟨H,hH⟩:∃ H,H=newB h (256*c) [s]:=⟨_,rfl⟩
 have sH:Z0E c h H:=by rw [hH]; simp (disch:=omega)
 have hg:Z07 H (256*c) [s]:=by rw [hH]; exact Z07.newB_same _ _ _
 rw [← hH]
 clear hH
 have l1:=Z0F hg
 obtain ⟨⟨re,rv,H1,c1,rd⟩,hr,r1,r2,r3,r4,vs,vu,es,eu,rfl,b1,b2,b3,b4,u1,u2⟩:=ZgZ s n Gl H (c+1+1) [] ((hs.same sH).mono qO) hok hn
 simp only at r1 r2 r3 r4 b1 b2 b3 b4 u1 u2
 subst r1 r2
 have cc:=Z0b hr
 have hb0:Z4Y [] []=some []:=rfl
 obtain ⟨H2,hH2⟩:∃ H2,newB H1 (256*c1) []=H2:=⟨_,rfl⟩
 have s12:Z0E c1 H1 H2:=by rw [← hH2]; intro b hb; rw [Z06,if_neg qO]
 have f2:H2.f (256*c1)=some (.cells false none []):=by rw [← hH2,Z06,if_pos rfl]
 obtain ⟨⟨re,rv,H3,c3,rd⟩,hr',F,q1,q2,q3,q4⟩:=Zih es eu (6*n) _ H2 (c1+1+1) [] (u2.same s12 b3 b4) qO qO
 obtain ⟨rfl,rfl,-,-,rfl⟩:=Rt.mk.inj q1
 simp only at q2 q3 q4
 have cf:callF G 45 [.pointer (some ⟨es,0,none⟩)] H2 (c1+1+1)=some (F,H3,c3):=Z0b hr'
 have hFl:=Z3z (eCl Gl n (Z2v Gl n)) (6*n)
 have hmem:∀ x,x ∈ Z0U (eCl Gl n (Z2v Gl n)) (6*n) -> ∃ k:Nat,x=k/\k<6*n:=fun x hx=>by
  obtain ⟨k,h1,h2,_⟩:=Zcx hx; exact ⟨k,h1,h2⟩
 have lf:=q4.sl.len
 unfold edF
 obtain ⟨L,hL⟩:∃ L,Z0U (eCl Gl n (Z2v Gl n)) (6*n)=L:=⟨_,rfl⟩
 rw [hL] at q4 lf hFl hmem ⊢
 have sv:Z0E c h H3:=sH.trans (((r4.mono (by omega:c<=c+1+1)).trans (s12.mono qO)).trans (q3.mono qO))
 have hne:0<L.length->Z0D F ≠ Z0D (.slice (some ⟨256*c1,0,none⟩) 0 0):=fun hp=>by
  obtain ⟨z1,z2,⟨rfl,z3⟩ | ⟨i,rfl,z3,z4,z5⟩⟩:=q4
  · omega
  · rw [blkOf_sl,blkOf_sl]; omega
 have f3:H3.f (256*c1)=some (.cells false none []):=by rw [q3 _ qO,f2]
 obtain ⟨⟨re,rv,H4,c4,rd⟩,hr2,g1,g2,g3,g4,g5⟩:=Zbs v nv V n c1 F L.length L hn hnv hV hmem qO [] L.length 0 c3 H3 (.slice (some ⟨256*c1,0,none⟩) 0 0) qO qO ((hv.same sv).mono qO) q4.sl hne ⟨rfl,by omega,rfl,256*c1,none,rfl,by omega,by omega,f3,.inl rfl⟩
 simp only [Int.ofNat_eq_natCast,Int.cast_ofNat_Int] at hr2
 simp only at g1 g2 g3 g4 g5
 subst g1 g3
 have fx:=ai l1 (ai cc (ai hb0 (ai hH2 (ai cf (ai lf hr2)))))
 refine Ans.go ?_
 clear fx
 have g6:Z67 c H4 (c4+1) (Rt.v ⟨Ex.exit 0,rv,H4,c4,[]⟩ 1) L.length (ints (L.map (wgt V))):=by
  obtain ⟨z1,z2,z3,i,op,z4,z5,z6,z7,z8⟩:=g5
  exact ⟨z1,z2,z3,i,op,z4,by omega,by omega,z7,z8⟩
 exact .done ⟨_,rfl,(by show c<=c4+1; omega),sv.trans (g4.mono qO),g6⟩

theorem Zhg {V:List Int} (h:Z13 V=true) (j:Int):0<=gi V j/\gi V j<=1000000:=by
 have:=Z5i h j.toNat
 unfold gi at this ⊢
 rwa [Int.toNat_natCast] at this
def Z3O:List Int->Int
 | []=>0
 | x::l=>x+Z3O l
theorem Z5k {B:Int} (hB:0<=B):∀ {L:List Int},(∀ x,x ∈ L->0<=x/\x<=B)->0<=Z3O L/\Z3O L<=L.length*B
 | [],_=>by simp [Z3O]
 | x::l,h=>by
  have h1:=h x (by simp)
  have h2:=Z5k hB (L:=l) fun y hy=>h y (by simp [hy])
  rw [Z3O,List.length_cons]
  have:((l.length+1:Nat):Int)*B=l.length*B+B:=by rw [Int.natCast_add,Int.add_mul]; simp
  omega
theorem Z8a:∀ (A B:List Int),Z3O (A++B)=Z3O A+Z3O B
 | [],B=>by simp [Z3O]
 | x::A,B=>by rw [List.cons_append,Z3O,Z3O,Z8a A B]; omega
theorem ZfP (s:Value) (m:Nat) (L:List Int) (h:FH) (c:Nat) (hs:SlI h c s 1 m L) (hm:m<=1000000) (hL:∀ x,x ∈ L->0<=x/\x<=5000000) (df:List Nat):∀ (k i:Nat),i+k=m →
 Ans (G (Z9T none) [.int .i64 (Z3O (L.take i)),s,.int .i64 m,.int .i64 i] h c df) fun r=>r=⟨.exit 0,[.int .i64 (Z3O L),s,.int .i64 m,.int .i64 m],h,c,df⟩:=by
 intro k
 have o1:=hs.okV
 have hl:=hs.1
 induction k with
 | zero =>
  intro i hi
  obtain rfl:i=m:=by omega
  rw [List.take_of_length_le qO]
  refine Ans.lpG rfl rfl (Z4J ..) ?_
  unfold Z4c
  have fx:=True.intro
  refine Ans.go ?_
  clear fx
  (have fx:=o1; refine Ans.ex0 ?_; clear fx)
  rfl
 | succ k ih =>
  intro i hi
  have l1:=hs.rdi i qO qO
  simp only [Int.toNat_natCast] at l1
  rw [Z3U] at l1
  have hLi:L.getD i 0=L[i]'qO:=by simp [List.getD_eq_getElem?_getD,List.getElem?_eq_getElem (by omega:i<L.length)]
  have e1:Z3O (L.take (i+1))=Z3O (L.take i)+L.getD i 0:=by
   rw [List.take_succ_eq_append_getElem qO,Z8a,hLi]
   simp [Z3O]
  have b1:=Z5k (B:=5000000) qO (L:=L.take i) fun x hx=>hL x (List.mem_of_mem_take hx)
  have b2:=hL (L[i]'qO) (List.getElem_mem _)
  rw [← hLi] at b2
  have hlt:(L.take i).length=i:=by rw [List.length_take]; omega
  rw [hlt] at b1
  obtain ⟨X,hX⟩:∃ X,L.getD i 0=X:=⟨_,rfl⟩
  obtain ⟨Y,hY⟩:∃ Y,Z3O (L.take i)=Y:=⟨_,rfl⟩
  rw [hX] at l1 e1 b2
  rw [hY] at e1 b1 ⊢
  refine Ans.lpG rfl rfl (Z4J ..) ?_
  unfold Z4c
  have fx:=ai hs.ixs1 l1
  refine Ans.go ?_
  clear fx
  (have fx:=o1; refine Ans.nx0 ?_; clear fx)
  rw [← e1]
  exact ih (i+1) qO
theorem ZdD (s:Value) (m:Nat) (L:List Int) (h:FH) (c:Nat) (df:List Nat) (hs:SlI h c s 1 m L) (hm:m<=1000000) (hL:∀ x,x ∈ L->0<=x/\x<=5000000) :
 G (.fn 48) [s] h c df=some ⟨.ret,[.int .i64 (Z3O L)],h,c,[]⟩:=by
 refine Z0u (fun r e=>f48_go e) (by simp) ?_
 unfold ZiH
 have hl:=hs.len
 have hr:=Ans.eq (ZfP s m L h (c+1+1+1) (hs.mono qO) hm hL [] m 0 qO)
 rw [List.take_zero] at hr
 simp only [Int.ofNat_eq_natCast,Int.cast_ofNat_Int,Z3O] at hr
 have fx:=ai hl hr
 refine Ans.go ?_
 clear fx
 (have fx:=True.intro; exact Ans.pu)
theorem Zjb {h:FH} {c:Nat} {v:Value} {sz n:Nat} {V:List Int} (hv:SlI h c v sz n V):Z4Y [(.slice none 0 0)] [(0,1,v)]=some [v]:=by
 obtain ⟨_,_,a,cap,rfl,_⟩:=hv
 rfl
theorem Z84 (s v:Value) (n nv:Nat) (Gl V:List Int) (h:FH) (c:Nat) (df:List Nat) (hs:SlI h c s 20 n Gl) (hv:SlI h c v 1 nv V) (hx:SlX h v 1 nv) (hnv:nv<=1000000) :
 Ans (G (.fn 16) [.agg #[s],v] h c df) fun r=>r.e = .ret/\r.df=[]/\c<=r.c/\Z0E c h r.h ∧
  ((Zbq Gl n (Z5h Gl n V) ≠ 0/\r.vs=[.tuple #[.slice none 0 0,.int .i64 (Zbq Gl n (Z5h Gl n V))]]) ∨
   (Zbq Gl n (Z5h Gl n V)=0 /\ ∃ w,r.vs=[.tuple #[w,.int .i64 0]]/\Z67 c r.h r.c w (edF Gl n).length (ints ((edF Gl n).map (wgt V))))):=by
 refine Ans.call' (fun r e=>f16_go e) ?_
 unfold ZiS
 rw [Z96 hs.flat,Z8T,Nat.add_zero]
 simp only [cond_true]
 have hbl:=Zjb hv
 obtain ⟨H,hH⟩:∃ H,H=newB (newB h (256*c) [s]) (256*(c+1)+2) [v]:=⟨_,rfl⟩
 have sH:Z0E c h H:=by rw [hH]; simp (disch:=omega)
 have hg:Z07 H (256*c) [s]:=by rw [hH]; exact (Z07.newB_same _ _ _).newB_ne qO
 have hq:Z07 H (256*(c+1)+2) [v]:=by rw [hH]; exact Z07.newB_same _ _ _
 have l0:ldN (newB h (256*c) [s]) 1 (.pointer (some ⟨256*c,0,none⟩))=some (.agg #[s]):=Z0F (Z07.newB_same _ _ _)
 have l1:=Z0F hg
 have c1:=Zj8 s v n nv Gl V (256*(c+1)+2) H (c+1+1) ((hs.same sH).mono qO) ((hv.same sH).mono qO) (SlX.keep hv sH hx) hnv qO hq
 have hH':=hH.symm
 obtain ⟨E,hE⟩:∃ E,Zbq Gl n (Z5h Gl n V)=E:=⟨_,rfl⟩
 by_cases h0:E=0
 case neg =>
  rw [hE] at c1 ⊢
  have fx:=ai l0 (ai hbl (ai hH' c1))
  refine Ans.go ?_
  clear fx
  exact .done ⟨rfl,rfl,(by show c<=c+1+1+1+1; omega),sH,.inl ⟨h0,rfl⟩⟩
 have hr0:ZhL Gl n=0/\Z5h Gl n V=true:=by
  rw [h0] at hE
  unfold Zbq at hE
  split at hE
  · rename_i h1
    split at hE
    · rename_i h2; exact ⟨h1,h2⟩
    · cases hE
  · rename_i h1; exact absurd hE h1
 obtain ⟨hn,hok⟩:=Z6f hr0.1
 have ha:=hr0.2
 unfold Z5h at ha
 simp only [Bool.and_eq_true,decide_eq_true_eq] at ha
 obtain ⟨⟨⟨a1,a2⟩,_⟩,_⟩:=ha
 rw [hE] at c1 ⊢
 obtain ⟨⟨re,rv,H2,c2,rd⟩,hr,w,q1,q2,q3,q4⟩:=Z9o s v n nv Gl V H (c+1+1+1+1) [] ((hs.same sH).mono qO) ((hv.same sH).mono qO) hok hn (by have:=hv.1; omega) (Zhg a2)
 obtain ⟨rfl,rfl,-,-,rfl⟩:=Rt.mk.inj q1
 simp only at q2 q3 q4
 have cw:=Z0b hr
 subst h0
 have fx:=ai l0 (ai hbl (ai hH' (ai c1 (ai l1 cw))))
 refine Ans.go ?_
 clear fx
 have g6:Z67 c H2 c2 w (edF Gl n).length (ints ((edF Gl n).map (wgt V))):=by
  obtain ⟨z1,z2,z3,i,op,z4,z5,z6,z7,z8⟩:=q4
  exact ⟨z1,z2,z3,i,op,z4,by omega,by omega,z7,z8⟩
 exact .done ⟨rfl,rfl,(by show c<=c2; omega),sH.trans (q3.mono qO),.inr ⟨rfl,w,rfl,g6⟩⟩
end Go.Proofs.Ytcnndelmnobigaa

namespace Go.Ab
open Go Go.ChangeShapes Go.RowKit
variable {P:Program}
theorem ZjO {W:World} {base:Nat} {t:TypeId} {fs:Array Field} {v:Value} {ts:List TypeId} (ht:P.underlying t=some (.struct fs)) (hts:P.cellTypes P.depth t=some ts) (hval:Value.okWide P W .any base t v) :
 ∃ cs,v = .agg cs/\cs.size=P.cellsOf t /\ ∀ i x,cs[i]? = some x -> ∃ u,ts[i % ts.length]? = some u/\Cell.okWide P W .any base u x:=by
 unfold Value.okWide at hval
 rw [ht] at hval
 obtain ⟨cs,rfl,h1,ts',h2,_,h3⟩:=hval
 rw [hts] at h2
 cases h2
 exact ⟨cs,rfl,h1,h3⟩
theorem Znj {H:Type} {enc:TypeId × Value->H} {W:World} {base:Nat} {tG tS e:TypeId} {sz:Nat} {v:Value} {f0:Field} {d:DataW H} {ps:List MemPlace} (ht:P.underlying tG=some (.struct #[f0])) (hts:P.cellTypes P.depth tG=some [tS]) (hc:P.cellsOf tG=1)
 (hS:P.underlying tS=some (.slice e)) (h0:f0.type=tS) (o0:f0.offset=0) (hcS:P.cellsOf tS=1) (hf:Z4q P e sz) (hz:0<sz) (hval:Value.okWide P W .any base tG v) (hd:DataW.Trod enc P W 0 (fun _=>true) true tG v d ps) :
 ∃ s n Gl,v = .agg #[s]/\Z3M W s sz n Gl:=by
 obtain ⟨cs,rfl,h1,h2⟩:=ZjO ht hts hval
 rw [hc] at h1
 have hcs:∃ s,cs = #[s]:=by
  obtain ⟨l⟩:=cs
  match l,h1 with
  | [s],_=>exact ⟨s,rfl⟩
 match hcs with
 | ⟨s,hs⟩ =>
  subst hs
  obtain ⟨u,hu,hok⟩:=h2 0 s rfl
  simp at hu
  subst hu
  obtain ⟨fuel,hd⟩:=hd
  obtain ⟨y0,n,_,_,h3⟩:=trod_struct1 ht hd
  rw [h0,o0,hcS] at h3
  obtain ⟨n,Gl,ho⟩:=ZbH hS hf hz hok (fuel:=n) (x:=y0) (by simpa [Value.cells] using h3)
  exact ⟨s,n,Gl,rfl,ho⟩
theorem ZhQ {H:Type} {enc:TypeId × Value->H} {W:World} {base:Nat} {tS e:TypeId} {sz:Nat} {v:Value} {d:DataW H} {ps:List MemPlace} (hS:P.underlying tS=some (.slice e)) (hf:Z4q P e sz) (hz:0<sz)
 (hval:Value.okWide P W .any base tS v) (hd:DataW.Trod enc P W 0 (fun _=>true) true tS v d ps):∃ n Gl,Z3M W v sz n Gl:=by
 unfold Value.okWide at hval
 rw [hS] at hval
 obtain ⟨fuel,hd⟩:=hd
 have hcs:v.cells.toList=[v]:=by
  have hok:Cell.ok P W .any base tS v:=by
   unfold Cell.okWide at hval
   rw [hS] at hval
   cases v <;> exact hval
  unfold Cell.ok at hok
  rw [hS] at hok
  cases v <;> first | rfl | exact hok.elim
 exact ZbH hS hf hz hval (fuel:=fuel) (x:=(d,ps)) (by rw [← hcs]; exact hd)
theorem VR.agg1 {μ:Mu} {a b:Value} (h:VR μ a b):VR μ (.agg #[a]) (.agg #[b]):=VR.agg_iff.2 (VRs.cons h (VRs.nil _))
def ZmW (W:World) (e:Ending) (W':World):Prop:=e = .returned (.bool true)/\Below W.heap.size W W'
end Go.Ab

namespace Go.Ab
open Go Go.ChangeShapes Go.RowKit
theorem ZhC {W:World} (l:List (Value × Nat × Nat × List Int)) (hl:l.length<=256) (h:∀ (k:Nat) (p:Value × Nat × Nat × List Int),l[k]? = some p->Z3M W p.1 p.2.1 p.2.2.1 p.2.2.2) :
 ∃ (A:FH) (μ:Mu),R μ A W/\Z1N μ 1/\(∀ i m,μ i=some m->wrB (HeapC.get A i)=false) /\ ∀ (k:Nat) (p:Value × Nat × Nat × List Int),l[k]? = some p->SlI A 1 (Zmg k p.1) p.2.1 p.2.2.1 p.2.2.2/\VR μ (Zmg k p.1) p.1/\SlX A (Zmg k p.1) p.2.1 p.2.2.1:=by
 let blk:Nat->Option ABlk:=fun i=>(l[i]?).bind fun p=>(ZmV p.1).map fun _=>.cells true none (ints p.2.2.2)
 let mu:Mu:=fun i=>(l[i]?).bind fun p=>ZmV p.1
 have key:∀ i m,mu i=some m -> ∃ p,l[i]? = some p/\ZmV p.1=some m/\blk i=some (.cells true none (ints p.2.2.2)):=by
  intro i m e
  cases hp:l[i]? with
  | none=>simp only [mu,hp] at e; cases e
  | some p =>
   simp only [mu,hp,Option.bind_some] at e
   exact ⟨p,rfl,e,by simp only [blk,hp,Option.bind_some,e,Option.map_some]⟩
 refine ⟨⟨blk⟩,mu,⟨fun i m e=>?_,fun i j mi mj ei ej hne di dj hro=>?_,fun i m e=>?_⟩,fun i hi=>?_,fun i m e=>?_,fun k p hp=>?_⟩
 · obtain ⟨p,h1,h2,h3⟩:=key i m e
   have:=((h i p h1).blk (μ:=mu) h2).1
   show Z6H mu m W.heap (blk i)
   rw [h3]; exact this
 · obtain ⟨p,h1,h2,h3⟩:=key i mi ei
   obtain ⟨q,g1,g2,g3⟩:=key j mj ej
   exact absurd (show roB (blk i)=true/\roB (blk j)=true by rw [h3,g3]; exact ⟨rfl,rfl⟩) hro
 · obtain ⟨p,h1,h2,h3⟩:=key i m e
   exact ((h i p h1).blk (μ:=mu) h2).2
 · have:l[i]? = none:=List.getElem?_eq_none qO
   simp only [mu,this]; rfl
 · obtain ⟨p,h1,h2,h3⟩:=key i m e
   show wrB (blk i)=false
   rw [h3]; rfl
 · have hk:k<l.length:=(List.getElem?_eq_some_iff.1 hp).1
   refine ⟨(h k p hp).sl qO (fun m hm=>?_),(h k p hp).vr (fun m hm=>?_),(h k p hp).slx (fun m hm=>?_)⟩
   · show blk k=_
     simp only [blk,hp,Option.bind_some,hm,Option.map_some]
   · simp only [mu,hp,Option.bind_some,hm]
   · show blk k=_
     simp only [blk,hp,Option.bind_some,hm,Option.map_some]
end Go.Ab

namespace Go.Ab
open Go Go.ChangeShapes Go.RowKit
def SlC (h:FH) (s:Value) (sz n:Nat) (L:List Int):Prop:=Z0H h sz s=some (ints L,n)
theorem Z3M.slc {W:World} {v:Value} {sz n:Nat} {Gl:List Int} (h:Z3M W v sz n Gl) {A:FH} {i:Nat} (ha:∀ m,ZmV v=some m->A.f i=some (.cells true none (ints Gl))):SlC A (Zmg i v) sz n Gl:=by
 obtain ⟨h1,h2,⟨rfl,rfl⟩ | ⟨b,o,cap,C,E,fr,rfl,g1,_,_⟩⟩:=h
 · have:Gl=[]:=List.eq_nil_of_length_eq_zero qO
   subst this
   rfl
 · have hg:HeapC.get A i=some (.cells true none (ints Gl)):=ha _ rfl
   have hb:Nat.ble (0+n*sz) (ints Gl).length=true:=Nat.ble_eq_true_of_le (by simp [h1])
   simp only [SlC,Zmg,Z0H,Z0Q,Z0k,hg,Option.bind_some,hb,cond_true,List.drop_zero]
   rw [List.take_of_length_le (by simp [h1])]
theorem Zme {h:FH} {c c':Nat} {s:Value} {sz n:Nat} {L:List Int} (hs:SlC h s sz n L) (hl:L.length=n*sz) (hz:0<sz) (by' i id:Nat) (hi:h.f i=some (.cells false none [])) (hi':i<256*c') (hid:256*c<=id) (hid':id<256*c') (hlim:n*(by'+1)<=17592186044416) :
 ∃ v' h',Z9h h id sz by' (.slice (some ⟨i,0,none⟩) 0 0) s=some (v',h')/\SlI h' c' v' sz n L/\SlX h' v' sz n/\SlC h' v' sz n L/\(∀ j,j ≠ id->h'.f j=h.f j)/\(0<n->v' = .slice (some ⟨id,0,none⟩) n n/\h'.f id=some (.cells false (some sz) (ints L))):=by
 have hn:n<=17592186044416:=by
  have:n*1<=n*(by'+1):=Nat.mul_le_mul_left _ qO
  omega
 have hg:HeapC.get h i=some (.cells false none []):=hi
 rcases Nat.eq_zero_or_pos n with rfl | hp
 · have:L=[]:=List.eq_nil_of_length_eq_zero qO
   subst this
   refine ⟨.slice (some ⟨i,0,none⟩) 0 0,h, ?_,⟨by simp,by omega,some ⟨i,0,none⟩,0,rfl,.inl ⟨rfl,OkV.sl hi'⟩⟩,⟨Nat.le_refl _, ?_⟩, ?_,fun _ _=>rfl,fun h=>by omega⟩
   · unfold SlC at hs
     simp only [Z9h,hs,Option.bind_some,appTo]
     rfl
   · simp only [Z9j,Zcb,hg]
   · simp [SlC,Z0H,Z0Q,Z0k,hg]
     rfl
 · have hcap:Nat.ble n 0=false:=by rw [Bool.eq_false_iff]; intro hh; have:=Nat.le_of_ble_eq_true hh; omega
   have hlim':Nat.ble (n*(by'+1)) 17592186044416=true:=Nat.ble_eq_true_of_le hlim
   have hb0:Nat.ble 0 ([]:List Value).length=true:=rfl
   refine ⟨.slice (some ⟨id,0,none⟩) n n,HeapC.set h id (.cells false (some sz) (ints L)), ?_,⟨hl,by omega,some ⟨id,0,none⟩,n,rfl,.inr ⟨id,0,ints L,rfl,hid',⟨false,some sz, ?_⟩, ?_⟩⟩,⟨Nat.le_refl _, ?_⟩, ?_,fun j hj=>by rw [Z0r,if_neg hj],fun _=>⟨rfl,by rw [Z0r,if_pos rfl]⟩⟩
   · unfold SlC at hs
     simp only [Z9h,hs,Option.bind_some,appTo,hcap,cond_false,Z3B,hlim',Z6j,Bool.and_self,cond_true,Z0Q,Z0k,hg,hb0,Nat.zero_add,List.drop_zero,Nat.zero_mul,Nat.add_zero,List.take_zero,List.nil_append]
   · exact get_set_same _ _ _
   · rw [List.drop_zero,List.take_of_length_le (by simp [hl])]
   · simp only [Z9j,Zcb,get_set_same,Nat.beq_refl]
   · have hb:Nat.ble (0+n*sz) (ints L).length=true:=Nat.ble_eq_true_of_le (by simp [hl])
     simp only [SlC,Z0H,Z0Q,Z0k,get_set_same,Option.bind_some,hb,cond_true,List.drop_zero]
     rw [List.take_of_length_le (by simp [hl])]
theorem SlI.slc {h:FH} {c:Nat} {s:Value} {sz n:Nat} {L:List Int} (hs:SlI h c s sz n L) (hn:0<n) (hz:0<sz):SlC h s sz n L:=by
 obtain ⟨g1,g2,a,cap,rfl,h4⟩:=hs
 rcases h4 with ⟨e,hv⟩ | ⟨b,o,cs,rfl,e2,⟨ro,op,e3⟩,e4⟩
 · omega
 · have hl:(ints L).length=n*sz:=by simp [g1]
   have h0:0<n*sz:=Nat.mul_pos hn hz
   have hle:o+n*sz<=cs.length:=by
    rw [← e4,List.length_take,List.length_drop] at hl
    omega
   have hb:Nat.ble (o+n*sz) cs.length=true:=Nat.ble_eq_true_of_le hle
   have hg:HeapC.get h b=some (.cells ro op cs):=e3
   simp only [SlC,Z0H,Z0Q,Z0k,hg,Option.bind_some,hb,cond_true,e4]
end Go.Ab

namespace Go.Proofs.Ytcnndelmnobigaa
open Go Go.Ab Go.Proofs


theorem SlC.keep {h h':FH} {c:Nat} {s:Value} {sz n:Nat} {L:List Int} (hs:SlI h c s sz n L) (hh:Z0E c h h') (hC:SlC h s sz n L):SlC h' s sz n L:=by
 obtain ⟨_,_,a,cap,rfl,hc4⟩:=hs
 cases a with
 | none=>exact hC
 | some a =>
  have hb:a.block<256*c:=by
   rcases hc4 with ⟨e0,ov⟩ | ⟨b,o,cs,e,e2,_,_⟩
   · obtain ⟨v',hv'⟩:=ov
     cases hv' with
     | sl hh' _ _=>exact Z5a (by rw [hh']; simp)
     | slE hh'=>exact Z5a (by rw [hh']; simp)
   · cases e; exact e2
  have:HeapC.get h' a.block=HeapC.get h a.block:=hh _ hb
  obtain ⟨b,o,p⟩:=a
  simp only at this
  cases p with
  | none=>simpa only [SlC,Z0H,Z0Q,Z0k,this] using hC
  | some p=>exact hC

def lkK (L:List Int) (first:Nat):Nat->Nat->List Int->List Int
 | 0,_,X=>X
 | r+1,x,X=>lkK L first r (x+1) (if Z0a L x=first then X.set (x / 4*7+x % 4) 1 else X)
def lkRow (L:List Int) (n:Nat) (first:Int):List Int:=lkK L first.toNat (4*n) 0 (List.replicate (7*n) 0)



def bub:Nat->List Int->List Int
 | 0,X=>X
 | k+1,X=>if X.getD (k+1) 0<X.getD k 0 then bub k ((X.set (k+1) (X.getD k 0)).set k (X.getD (k+1) 0)) else X
def bubI:Nat->List Int->Nat
 | 0,_=>0
 | k+1,X=>if X.getD (k+1) 0<X.getD k 0 then bubI k ((X.set (k+1) (X.getD k 0)).set k (X.getD (k+1) 0)) else k+1
theorem ZfB:∀ {k:Nat} {X:List Int},k<X.length->(bub k X).Perm X
 | 0,X,_=>.rfl
 | k+1,X,h=>by
  rw [bub]
  split
  · refine (ZfB (by simp; omega)).trans ?_
    have:=@List.set_set_perm _ X (k+1) k h qO
    rw [show X.getD k 0=X[k] by simp [List.getD_eq_getElem?_getD,List.getElem?_eq_getElem (show k<X.length by omega)],show X.getD (k+1) 0=X[k+1] by simp [List.getD_eq_getElem?_getD,List.getElem?_eq_getElem h]]
    exact this
  · exact .rfl
theorem Zac {K:Nat}:∀ {k:Nat} {X:List Int},k<=K->K<X.length->(∀ a b,a<b->b<=K->b ≠ k->X.getD a 0<=X.getD b 0) -> ∀ a b,a<b->b<=K->(bub k X).getD a 0<=(bub k X).getD b 0
 | 0,X,_,_,h,a,b,h1,h2=>h a b h1 h2 qO
 | k+1,X,hk,hK,h,a,b,h1,h2=>by
  rw [bub]
  split
  · rename_i hlt
    refine Zac qO (by simp; omega) (fun a b h1 h2 h3=>?_) a b h1 h2
    have e:∀ j,((X.set (k+1) (X.getD k 0)).set k (X.getD (k+1) 0)).getD j 0=if j=k then X.getD (k+1) 0 else if j=k+1 then X.getD k 0 else X.getD j 0:=fun j=>by
     rw [Z2h,Z2h,List.length_set]
     by_cases q1:j=k
     · subst q1; rw [if_pos ⟨rfl,by omega⟩,if_pos rfl]
     · by_cases q2:j=k+1
       · subst q2; rw [if_neg (fun q=>q1 q.1.symm),if_pos ⟨rfl,by omega⟩,if_neg q1,if_pos rfl]
       · rw [if_neg (fun q=>q1 q.1.symm),if_neg (fun q=>q2 q.1.symm),if_neg q1,if_neg q2]
    rw [e,e,if_neg h3]
    by_cases q2:b=k+1
    · rw [if_pos q2]
      by_cases q3:a=k
      · rw [if_pos q3]; omega
      · rw [if_neg q3,if_neg qO]
        exact h a k qO qO qO
    · rw [if_neg q2]
      by_cases q3:a=k
      · rw [if_pos q3]; exact h (k+1) b qO h2 q2
      · rw [if_neg q3]
        by_cases q4:a=k+1
        · rw [if_pos q4]; exact h k b qO h2 q2
        · rw [if_neg q4]; exact h a b h1 h2 q2
  · rename_i hge
    by_cases q:b=k+1
    · subst q
      by_cases q2:a=k
      · subst q2; omega
      · have:=h a k qO qO qO
        omega
    · exact h a b h1 h2 q
theorem Zm8 (h0:FH) (c b m i:Nat) (df:List Nat) (hb:b<256*c) (hm:m<=1000000):∀ (k:Nat) (X:List Int),k<m->X.length=m →
 Ans (G (Z9Y none) [.slice (some ⟨b,0,none⟩) m m,.int .i64 i,.int .i64 k] (HeapC.set h0 b (.cells false (some 1) (ints X))) c df) fun q=>q=⟨.exit 2,[.slice (some ⟨b,0,none⟩) m m,.int .i64 i,.int .i64 (bubI k X)],HeapC.set h0 b (.cells false (some 1) (ints (bub k X))),c,df⟩:=by
 intro k
 induction k with
 | zero =>
  intro X hk hX
  refine Ans.lpG rfl rfl (Z6u ..) ?_
  unfold Z7h
  have fx:=True.intro
  refine Ans.go ?_
  clear fx
  (have fx:=hb; refine Ans.ex0 ?_; clear fx)
  rfl
 | succ k ih =>
  intro X hk hX
  obtain ⟨H,hH⟩:∃ H,HeapC.set h0 b (.cells false (some 1) (ints X))=H:=⟨_,rfl⟩
  have fH:H.f b=some (.cells false (some 1) (ints X)):=by rw [← hH,Z0r,if_pos rfl]
  have l1:ld1 H (.pointer (some ⟨b,k,none⟩))=some (.int .i64 (X.getD k 0)):=by
   rw [Z03 ⟨false,some 1,fH⟩,ints_getD _ _ qO]
  have l2:ld1 H (.pointer (some ⟨b,k+1,none⟩))=some (.int .i64 (X.getD (k+1) 0)):=by
   rw [Z03 ⟨false,some 1,fH⟩,ints_getD _ _ qO]
  have hw:∀ y:Int,stN H 1 (.pointer (some ⟨b,k+1,none⟩)) (.int .i64 y)=some (HeapC.set H b (.cells false (some 1) (ints (X.set (k+1) y)))):=fun y=>by
   rw [Z1z (show HeapC.get H b=_ from fH) (by simp; omega) rfl rfl,Z2r]
  have hw2:∀ y z:Int,stN (HeapC.set H b (.cells false (some 1) (ints (X.set (k+1) y)))) 1 (.pointer (some ⟨b,k,none⟩)) (.int .i64 z)=some (HeapC.set H b (.cells false (some 1) (ints ((X.set (k+1) y).set k z)))):=fun y z=>by
   rw [Z1z (show HeapC.get (HeapC.set H b (.cells false (some 1) (ints (X.set (k+1) y)))) b=_ from get_set_same _ _ _) (by simp; omega) rfl rfl,Z2r,set_set]
  have hk2:=ih ((X.set (k+1) (X.getD k 0)).set k (X.getD (k+1) 0)) qO (by simp [hX])
  rw [bub,bubI]
  obtain ⟨x,hx⟩:∃ x,X.getD k 0=x:=⟨_,rfl⟩
  obtain ⟨y,hy⟩:∃ y,X.getD (k+1) 0=y:=⟨_,rfl⟩
  rw [hx] at l1
  rw [hy] at l2
  rw [hx,hy] at hk2 ⊢
  rw [hH]
  refine Ans.lpG rfl rfl (Z6u ..) ?_
  unfold Z7h
  by_cases e:y<x
  · rw [if_pos e,if_pos e]
    have fx:=ai l1 (ai l2 (ai hw hw2))
    refine Ans.go ?_
    clear fx
    (have fx:=hb; refine Ans.nxB (B:=HeapC.set H b (.cells false (some 1) (ints ((X.set (k+1) x).set k y)))) ?_ ?_; exact (Z3I.set hb (Z1D.ints _ _) (Z3I.refl _ _)); clear fx)
    rw [← hH,set_set,show ((k+1:Nat):Int)-1=k by omega]
    exact hk2
  · rw [if_neg e,if_neg e]
    have fx:=ai l1 l2
    refine Ans.go ?_
    clear fx
    (have fx:=hb; refine Ans.ex0 ?_; clear fx)
    rw [← hH]
theorem Zjx (h0:FH) (c b m:Nat) (L:List Int) (df:List Nat) (hb:b<256*c) (hm:m<=1000000) (hL:L.length=m):∀ (r i:Nat) (X:List Int),i+r=m->1<=i->X.Perm L->(∀ x y,x<y->y<i->X.getD x 0<=X.getD y 0) →
 Ans (G (Z7e none) [.slice (some ⟨b,0,none⟩) m m,.int .i64 i] (HeapC.set h0 b (.cells false (some 1) (ints X))) c df) fun q=>∃ Y,q=⟨.exit 0,[.slice (some ⟨b,0,none⟩) m m,.int .i64 m],HeapC.set h0 b (.cells false (some 1) (ints Y)),c,df⟩/\Y.Perm L/\(∀ x y,x<y->y<m->Y.getD x 0<=Y.getD y 0):=by
 intro r
 induction r with
 | zero =>
  intro i X hi h1 hp hs
  obtain rfl:i=m:=by omega
  refine Ans.lpG rfl rfl (Z4P ..) ?_
  unfold Z5v
  have fx:=True.intro
  refine Ans.go ?_
  clear fx
  (have fx:=hb; refine Ans.ex0 ?_; clear fx)
  exact ⟨X,rfl,hp,hs⟩
 | succ r ih =>
  intro i X hi h1 hp hs
  have hX:X.length=m:=hp.length_eq.trans hL
  have hin:=Ans.eq (Zm8 h0 (c+1+1) b m i df qO hm i X qO hX)
  have hk:=ih (i+1) (bub i X) qO qO ((ZfB qO).trans hp) (fun x y q1 q2=>Zac (K:=i) (Nat.le_refl _) qO (fun a b a1 a2 a3=>hs a b a1 qO) x y q1 qO)
  obtain ⟨Y,hY⟩:∃ Y,bub i X=Y:=⟨_,rfl⟩
  obtain ⟨J,hJ⟩:∃ J,bubI i X=J:=⟨_,rfl⟩
  rw [hY,hJ] at hin
  rw [hY] at hk
  obtain ⟨H,hH⟩:∃ H,HeapC.set h0 b (.cells false (some 1) (ints X))=H:=⟨_,rfl⟩
  have e2:HeapC.set h0 b (.cells false (some 1) (ints Y))=HeapC.set H b (.cells false (some 1) (ints Y)):=by rw [← hH,set_set]
  rw [hH] at hin ⊢
  rw [e2] at hin hk
  refine Ans.lpG rfl rfl (Z4P ..) ?_
  unfold Z5v
  have fx:=hin
  refine Ans.go ?_
  clear fx
  (have fx:=hb; refine Ans.nxB (B:=HeapC.set H b (.cells false (some 1) (ints Y))) ?_ ?_; exact (Z3I.set hb (Z1D.ints _ _) (Z3I.refl _ _)); clear fx)
  refine hk.mono ?_
  rintro q ⟨Z,rfl,z⟩
  exact ⟨Z,rfl,z⟩
theorem Zbz (s:Value) (m:Nat) (L:List Int) (h:FH) (c:Nat) (df:List Nat) (hs:SlI h c s 1 m L) (hC:SlC h s 1 m L) (hm:m<=1000000) :
 Ans (G (.fn 22) [s] h c df) fun r=>∃ w Y,r=⟨.ret,[w],r.h,r.c,[]⟩/\c<=r.c/\Z0E c h r.h/\SlI r.h r.c w 1 m Y/\Y.Perm L/\Y.Pairwise (· <= ·):=by
 refine Ans.call' (fun r e=>f22_go e) ?_
 unfold ZnU
 have hb0:Z4Y [] []=some []:=rfl
 obtain ⟨H,hH⟩:∃ H,newB h (256*(c+1)) []=H:=⟨_,rfl⟩
 have sH:Z0E (c+1) h H:=by rw [← hH]; intro b hb; rw [Z06,if_neg qO]
 have fB:H.f (256*(c+1))=some (.cells false none []):=by rw [← hH,Z06,if_pos rfl]
 have hC':=SlC.keep (c:=c) hs (sH.mono qO) hC
 obtain ⟨w,H2,q1,q2,q3,q4,q5,q6⟩:=Zme (c:=c+1) (c':=c+1+1) hC' hs.1 qO 8 (256*(c+1)) (256*(c+1)+2) fB qO qO qO qO
 have s2:Z0E c h H2:=fun b hb=>by
  have e1:=q5 b qO
  have e2:=sH b qO
  exact e1.trans e2
 have lw:=q2.len
 rcases Nat.eq_zero_or_pos m with hm0 | hm0
 · subst hm0
   have ov:=(q2.mono (show c+1+1<=c+1+1+1 by omega)).okV
   have hl0:Ans (G (Z7e none) [w,.int .i64 1] H2 (c+1+1+1) []) fun q=>q=⟨.exit 0,[w,.int .i64 1],H2,c+1+1+1,[]⟩:=by
    refine Ans.lpG rfl rfl (Z4P ..) ?_
    unfold Z5v
    have fx:=lw
    refine Ans.go ?_
    clear fx
    (have fx:=ov; refine Ans.ex0 ?_; clear fx)
    rfl
   have hl1:=Ans.eq hl0
   have fx:=ai hb0 (ai hH (ai q1 hl1))
   refine Ans.go ?_
   clear fx
   obtain rfl:L=[]:=List.eq_nil_of_length_eq_zero (by rw [hs.1])
   exact .done ⟨w,[],rfl,(by show c<=c+1+1+1+1; omega),s2,q2.mono (by show c+1+1<=c+1+1+1+1; omega),.rfl,.nil⟩
 · obtain ⟨rfl,f2⟩:=q6 hm0
   have hself:HeapC.set H2 (256*(c+1)+2) (.cells false (some 1) (ints L))=H2:=by
    apply FH.ext; intro j
    rw [Z0r]
    split
    · rename_i e; rw [e,f2]
    · rfl
   have hlen:L.length=m:=by have:=hs.1; omega
   obtain ⟨r,hr,Y,rfl,y1,y2⟩:=Zjx H2 (c+1+1+1) (256*(c+1)+2) m L [] qO hm hlen (m-1) 1 L qO qO .rfl (fun x y a b=>by omega)
   rw [hself] at hr
   simp only [Int.ofNat_eq_natCast,Int.cast_ofNat_Int] at hr
   have fx:=ai hb0 (ai hH (ai q1 hr))
   refine Ans.go ?_
   clear fx
   have hY:Y.length=m:=y1.length_eq.trans hlen
   refine .done ⟨_,Y,rfl,(by show c<=c+1+1+1+1; omega),fun b hb=>?_,⟨by omega,by omega,_,_,rfl,.inr ⟨256*(c+1)+2,0,ints Y,rfl,by simp only; omega,⟨false,some 1,get_set_same _ _ _⟩, ?_⟩⟩,y1, ?_⟩
   · show (HeapC.set H2 (256*(c+1)+2) (.cells false (some 1) (ints Y))).f b=h.f b
     rw [Z0r,if_neg qO]
     exact s2 b hb
   · rw [List.drop_zero,List.take_of_length_le (by simp [hY])]
   · rw [List.pairwise_iff_getElem]
     intro i j hi hj hij
     have:=y2 i j hij qO
     rw [List.getD_eq_getElem?_getD,List.getD_eq_getElem?_getD,List.getElem?_eq_getElem hi,List.getElem?_eq_getElem hj] at this
     exact this

def sI (V:List Int) (t f:Nat):Nat->Nat->Int
 | 0,_=>0
 | r+1,i=>(if i=f then 0 else Z5z V t f i)+sI V t f r (i+1)
def Z5g (Gl:List Int) (t f:Nat):Bool:=decide (0<=Z0z (Z01 Gl t f)/\(Z0z (Z01 Gl t f)<t ∨ (Z0z (Z01 Gl t f)=t/\(Z0c (Z01 Gl t f)).getD f 0<f)))
def sF (Gl V:List Int) (t:Nat):Nat->Nat->Int
 | 0,_=>0
 | r+1,f=>(if Z5g Gl t f=true then 0 else sI V t f 4 0)+sF Gl V t r (f+1)
def sT (Gl V:List Int):Nat->Nat->Int
 | 0,_=>0
 | r+1,t=>sF Gl V t 4 0+sT Gl V r (t+1)
theorem Zae {V:List Int} (hV:∀ j,0<=gi V j/\gi V j<=1000000) (t f i:Int):0<=Z5z V t f i/\Z5z V t f i<=2000000:=by
 unfold Z5z
 have h1:=hV (7*t+i)
 have h2:=hV (7*t+4+ty i f)
 omega
theorem Zav {V:List Int} (hV:∀ j,0<=gi V j/\gi V j<=1000000) {t f:Nat}:∀ {r i:Nat},0<=sI V t f r i/\sI V t f r i<=r*2000000
 | 0,_=>by simp [sI]
 | r+1,i=>by
  rw [sI]
  have h1:=Zae hV t f i
  have h2:=Zav hV (t:=t) (f:=f) (r:=r) (i:=i+1)
  split <;> omega
theorem ZdL {Gl V:List Int} (hV:∀ j,0<=gi V j/\gi V j<=1000000) {t:Nat}:∀ {r f:Nat},0<=sF Gl V t r f/\sF Gl V t r f<=r*8000000
 | 0,_=>by simp [sF]
 | r+1,f=>by
  rw [sF]
  have h1:=Zav hV (t:=t) (f:=f) (r:=4) (i:=0)
  have h2:=ZdL (Gl:=Gl) hV (t:=t) (r:=r) (f:=f+1)
  split <;> omega
theorem Zjd (s:Value) (n nv:Nat) (V:List Int) (t f:Nat) (v4 v5 v6 v7 v8:Value) (h:FH) (c:Nat) (df:List Nat) (hs:SlI h c s 1 nv V) (hnv:nv=7*n) (hn:n<=60) (ht:t<n) (hf:f<4) (hV:∀ j,0<=gi V j/\gi V j<=1000000)
 (o4:OkV c v4) (o5:OkV c v5) (o6:OkV c v6) (o7:OkV c v7) (o8:OkV c v8) :
 ∀ (r i:Nat) (a:Int),i+r=4 -> -2000000000000+(r:Int)*2000000<=a->a<=2000000000000 →
 Ans (G (Za4 none) [s,.int .i64 a,.int .i64 t,.int .i64 f,v4,v5,v6,v7,v8,.int .i64 i] h c df) fun q=>q=⟨.exit 4,[s,.int .i64 (a-sI V t f r i),.int .i64 t,.int .i64 f,v4,v5,v6,v7,v8,.int .i64 4],h,c,df⟩:=by
 intro r
 have o1:=hs.okV
 induction r with
 | zero =>
  intro i a hi h1 h2
  obtain rfl:i=4:=by omega
  refine Ans.lpG rfl rfl (Z2s ..) ?_
  unfold Z3j
  have fx:=True.intro
  refine Ans.go ?_
  clear fx
  (have fx:=ai o1 (ai o4 (ai o5 (ai o6 (ai o7 o8)))); refine Ans.ex0 ?_; clear fx)
  rw [sI,Int.sub_zero]
  rfl
 | succ r ih =>
  intro i a hi h1 h2
  have hi4:(i:Int)<4:=by omega
  rw [sI]
  by_cases e:i=f
  · subst e
    rw [if_pos rfl,Int.zero_add]
    refine Ans.lpG rfl rfl (Z2s ..) ?_
    unfold Z3j
    have fx:=True.intro
    refine Ans.go ?_
    clear fx
    (have fx:=ai o1 (ai o4 (ai o5 (ai o6 (ai o7 o8)))); refine Ans.nx0 ?_; clear fx)
    exact ih (i+1) a qO qO h2
  · rw [if_neg e]
    have e':¬ ((i:Int)=f):=by omega
    have b:=Zae hV t f i
    have ca:=fun c' (hc:c<=c')=>Z0b (Zdu s nv V t f i h c' [] (hs.mono hc) qO qO qO qO qO qO qO qO (fun j hj=>by have:=hV j; omega))
    obtain ⟨X,hX⟩:∃ X,Z5z V t f i=X:=⟨_,rfl⟩
    rw [hX] at b ca ⊢
    refine Ans.lpG rfl rfl (Z2s ..) ?_
    unfold Z3j
    have fx:=ca
    refine Ans.go ?_
    clear fx
    (have fx:=ai o1 (ai o4 (ai o5 (ai o6 (ai o7 o8)))); refine Ans.nx0 ?_; clear fx)
    rw [show a-(X+sI V t f r (i+1))=a-X-sI V t f r (i+1) by omega]
    exact ih (i+1) (a-X) qO qO qO
theorem Zik (s:Value) (n nv:Nat) (Gl V:List Int) (t:Nat) (v3 v4:Value) (h:FH) (c:Nat) (df:List Nat) (hs:SlI h c s 1 nv V) (hnv:nv=7*n) (hn:n<=60) (hG:Gl.length=n*20) (ht:t<n) (hV:∀ j,0<=gi V j/\gi V j<=1000000) (hok:Z0w Gl n=true)
 (o3:OkV c v3) (o4:OkV c v4) :
 ∀ (r f:Nat) (a:Int),f+r=4 -> -1000000000000+(r:Int)*8000000<=a->a<=1000000000000 →
 Ans (G (Z5w none) [s,.int .i64 a,.int .i64 t,v3,v4,.int .i64 t,av (Z2x Gl t),.int .i64 f] h c df) fun q=>q=⟨.exit 2,[s,.int .i64 (a-sF Gl V t r f),.int .i64 t,v3,v4,.int .i64 t,av (Z2x Gl t),.int .i64 4],h,c,df⟩:=by
 intro r
 have o1:=hs.okV
 induction r with
 | zero =>
  intro f a hf h1 h2
  obtain rfl:f=4:=by omega
  refine Ans.lpG rfl rfl (Z4R ..) ?_
  unfold Z4j
  have fx:=True.intro
  refine Ans.go ?_
  clear fx
  (have fx:=ai o1 (ai o3 o4); refine Ans.ex0 ?_; clear fx)
  rw [sF,Int.sub_zero]
  rfl
 | succ r ih =>
  intro f a hf h1 h2
  have hf4:(f:Int)<4:=by omega
  have hrl:(Z2x Gl t).length=20:=by unfold Z2x; simp [hG]; omega
  have x1:=Z6R (Z2x Gl t) 4 5 .i64 (f:Int) qO qO hrl
  have hfr:((Z2x Gl t).drop ((f:Int).toNat*5)).take 5=Z01 Gl t f:=by
   unfold Z2x Z01
   rw [List.drop_take,List.take_take,List.drop_drop,Int.toNat_natCast]
   congr 1
   · omega
   · congr 1; omega
  rw [hfr] at x1
  have hfl:=Z0n hG ht (by omega:f<4)
  have hst:∀ b,stN (newB h b [.int .i64 0,.int .i64 0,.int .i64 0,.int .i64 0,.int .i64 0]) 5 (.pointer (some ⟨b,0,none⟩)) (av (Z01 Gl t f))=some (newB h b (ints (Z01 Gl t f))):=fun b=>stN_all _ _ 5 _ _ hfl rfl
  have b0:∀ b,ld1 (newB h b (ints (Z01 Gl t f))) (.pointer (some ⟨b,0,none⟩))=some (.int .i64 (Z0z (Z01 Gl t f))):=fun b=>by rw [ld1_newB_same,ints_getD _ _ qO]; rfl
  have b1:∀ b,ld1 (newB h b (ints (Z01 Gl t f))) (.pointer (some ⟨b,1+f,none⟩))=some (.int .i64 ((Z0c (Z01 Gl t f)).getD f 0)):=fun b=>by
   rw [ld1_newB_same,ints_getD _ _ qO]
   unfold Z0c
   rw [Z3V _ _ _ qO,Z3W]
  have hbnd:=Zav hV (t:=t) (f:=f) (r:=4) (i:=0)
  have hin:=fun c' H (hc:c<=c') (hH:Z0E c h H)=>Ans.eq (Zjd s n nv V t f v3 v4 (.int .i64 t) (av (Z2x Gl t)) (.int .i64 f) H c' df ((hs.same hH).mono hc) hnv hn ht qO hV (o3.mono hc) (o4.mono hc) (by simp) (by simp) (by simp) 4 0 a qO qO qO)
  simp only [Int.ofNat_eq_natCast,Int.cast_ofNat_Int] at hin
  rw [sF]
  have hsk:Z5g Gl t f=decide (0<=Z0z (Z01 Gl t f)/\(Z0z (Z01 Gl t f)<t ∨ (Z0z (Z01 Gl t f)=t/\(Z0c (Z01 Gl t f)).getD f 0<f))):=rfl
  obtain ⟨F,hF⟩:∃ F,Z01 Gl t f=F:=⟨_,rfl⟩
  rw [hF] at x1 hst b0 b1 hsk
  obtain ⟨U,hU⟩:∃ U,Z0z F=U:=⟨_,rfl⟩
  obtain ⟨Q,hQ⟩:∃ Q,(Z0c F).getD f 0=Q:=⟨_,rfl⟩
  rw [hU] at b0 hsk
  rw [hQ] at b1 hsk
  have sm:∀ b,256*c<=b->Z0E c h (newB h b (ints F)):=fun b hb q hq=>by rw [Z06,if_neg qO]
  obtain ⟨W,hW⟩:∃ W,sI V t f 4 0=W:=⟨_,rfl⟩
  rw [hW] at hin hbnd ⊢
  have stepN:Z5g Gl t f=true->Ans (G (Z5w none) [s,.int .i64 a,.int .i64 t,v3,v4,.int .i64 t,av (Z2x Gl t),.int .i64 (f+1:Nat)] h c df) (fun q=>q=⟨.exit 2,[s,.int .i64 (a-((if Z5g Gl t f=true then 0 else W)+sF Gl V t r (f+1))),.int .i64 t,v3,v4,.int .i64 t,av (Z2x Gl t),.int .i64 4],h,c,df⟩):=fun e=>by
   rw [if_pos e,Int.zero_add]
   exact ih (f+1) a qO qO h2
  have stepY:Z5g Gl t f=false->Ans (G (Z5w none) [s,.int .i64 (a-W),.int .i64 t,v3,v4,.int .i64 t,av (Z2x Gl t),.int .i64 (f+1:Nat)] h c df) (fun q=>q=⟨.exit 2,[s,.int .i64 (a-((if Z5g Gl t f=true then 0 else W)+sF Gl V t r (f+1))),.int .i64 t,v3,v4,.int .i64 t,av (Z2x Gl t),.int .i64 4],h,c,df⟩):=fun e=>by
   rw [if_neg (by rw [e]; simp),show a-(W+sF Gl V t r (f+1))=a-W-sF Gl V t r (f+1) by omega]
   exact ih (f+1) (a-W) qO qO qO
  have hi2:=hin (c+1+1+1+1) (newB h (256*(c+1)+2) (ints F)) qO (sm _ qO)
  refine Ans.lpG rfl rfl (Z4R ..) ?_
  unfold Z4j
  by_cases h0:0<=U
  · by_cases h3:U<t
    · have e:Z5g Gl t f=true:=by rw [hsk]; exact decide_eq_true ⟨h0,.inl h3⟩
      repeat' (first | ((with_reducible first | refine Ans.bz ?_ | refine Ans.r1 ?_ | refine Ans.pkT ?_ | refine Ans.pkF ?_); try dsimp only [v_zero,v_succ]) | (with_reducible first | refine Ans.btL ?_ | refine Ans.bfL ?_ | refine Ans.gyT ?_ | refine Ans.gyF ?_ | refine Ans.gyG ?_ | refine Ans.bb ?_ | refine Ans.bc ?_ | refine Ans.ba ?_) | ((with_reducible first | refine Ans.lsT ?_ ?_ | refine Ans.leT ?_ ?_ | refine Ans.grT ?_ ?_ | refine Ans.geT ?_ ?_ | refine Ans.eqT ?_ ?_ | refine Ans.neT ?_ ?_); (focus omega)) | ((with_reducible first | refine Ans.lsF ?_ ?_ | refine Ans.leF ?_ ?_ | refine Ans.grF ?_ ?_ | refine Ans.geF ?_ ?_ | refine Ans.eqF ?_ ?_ | refine Ans.neF ?_ ?_); (focus omega)) | (with_reducible first | refine Ans.lsS (fun _=>?_) (fun _=>?_) | refine Ans.leS (fun _=>?_) (fun _=>?_) | refine Ans.grS (fun _=>?_) (fun _=>?_) | refine Ans.geS (fun _=>?_) (fun _=>?_) | refine Ans.eqS (fun _=>?_) (fun _=>?_) | refine Ans.neS (fun _=>?_) (fun _=>?_)) | ((with_reducible first | refine Ans.addN ?_ ?_ | refine Ans.add ?_ ?_ | refine Ans.sub ?_ ?_ | refine Ans.mul ?_ ?_); (focus omega)) | ((with_reducible first | refine Ans.ct ?_ ?_); (focus (simp (disch:=(first | omega | with_reducible assumption | (simp <;> omega) | fail)) [x1,hst,b0,b1,hi2,-ld1_newB_same]; done))) | ((with_reducible first | refine Ans.cf ?_ ?_); (focus (simp (disch:=(first | omega | with_reducible assumption | (simp <;> omega) | fail)) [x1,hst,b0,b1,hi2,-ld1_newB_same]; done))) | (refine Ans.step (by simp (disch:=(first | omega | with_reducible assumption | (simp <;> omega) | fail)) [x1,hst,b0,b1,hi2,-ld1_newB_same,-List.getD_eq_getElem?_getD] <;> rfl) ?_; try dsimp only [v_zero,v_succ]) | fail)
      (have fx:=ai o1 (ai o3 o4); refine Ans.nx0 ?_; clear fx)
      exact stepN e
    · by_cases h4:U=t
      · by_cases h5:Q<f
        · have e:Z5g Gl t f=true:=by rw [hsk]; exact decide_eq_true ⟨h0,.inr ⟨h4,h5⟩⟩
          repeat' (first | ((with_reducible first | refine Ans.bz ?_ | refine Ans.r1 ?_ | refine Ans.pkT ?_ | refine Ans.pkF ?_); try dsimp only [v_zero,v_succ]) | (with_reducible first | refine Ans.btL ?_ | refine Ans.bfL ?_ | refine Ans.gyT ?_ | refine Ans.gyF ?_ | refine Ans.gyG ?_ | refine Ans.bb ?_ | refine Ans.bc ?_ | refine Ans.ba ?_) | ((with_reducible first | refine Ans.lsT ?_ ?_ | refine Ans.leT ?_ ?_ | refine Ans.grT ?_ ?_ | refine Ans.geT ?_ ?_ | refine Ans.eqT ?_ ?_ | refine Ans.neT ?_ ?_); (focus omega)) | ((with_reducible first | refine Ans.lsF ?_ ?_ | refine Ans.leF ?_ ?_ | refine Ans.grF ?_ ?_ | refine Ans.geF ?_ ?_ | refine Ans.eqF ?_ ?_ | refine Ans.neF ?_ ?_); (focus omega)) | (with_reducible first | refine Ans.lsS (fun _=>?_) (fun _=>?_) | refine Ans.leS (fun _=>?_) (fun _=>?_) | refine Ans.grS (fun _=>?_) (fun _=>?_) | refine Ans.geS (fun _=>?_) (fun _=>?_) | refine Ans.eqS (fun _=>?_) (fun _=>?_) | refine Ans.neS (fun _=>?_) (fun _=>?_)) | ((with_reducible first | refine Ans.addN ?_ ?_ | refine Ans.add ?_ ?_ | refine Ans.sub ?_ ?_ | refine Ans.mul ?_ ?_); (focus omega)) | ((with_reducible first | refine Ans.ct ?_ ?_); (focus (simp (disch:=(first | omega | with_reducible assumption | (simp <;> omega) | fail)) [x1,hst,b0,b1,hi2,-ld1_newB_same]; done))) | ((with_reducible first | refine Ans.cf ?_ ?_); (focus (simp (disch:=(first | omega | with_reducible assumption | (simp <;> omega) | fail)) [x1,hst,b0,b1,hi2,-ld1_newB_same]; done))) | (refine Ans.step (by simp (disch:=(first | omega | with_reducible assumption | (simp <;> omega) | fail)) [x1,hst,b0,b1,hi2,-ld1_newB_same,-List.getD_eq_getElem?_getD] <;> rfl) ?_; try dsimp only [v_zero,v_succ]) | fail)
          (have fx:=ai o1 (ai o3 o4); refine Ans.nx0 ?_; clear fx)
          exact stepN e
        · have e:Z5g Gl t f=false:=by rw [hsk]; exact decide_eq_false qO
          repeat' (first | ((with_reducible first | refine Ans.bz ?_ | refine Ans.r1 ?_ | refine Ans.pkT ?_ | refine Ans.pkF ?_); try dsimp only [v_zero,v_succ]) | (with_reducible first | refine Ans.btL ?_ | refine Ans.bfL ?_ | refine Ans.gyT ?_ | refine Ans.gyF ?_ | refine Ans.gyG ?_ | refine Ans.bb ?_ | refine Ans.bc ?_ | refine Ans.ba ?_) | ((with_reducible first | refine Ans.lsT ?_ ?_ | refine Ans.leT ?_ ?_ | refine Ans.grT ?_ ?_ | refine Ans.geT ?_ ?_ | refine Ans.eqT ?_ ?_ | refine Ans.neT ?_ ?_); (focus omega)) | ((with_reducible first | refine Ans.lsF ?_ ?_ | refine Ans.leF ?_ ?_ | refine Ans.grF ?_ ?_ | refine Ans.geF ?_ ?_ | refine Ans.eqF ?_ ?_ | refine Ans.neF ?_ ?_); (focus omega)) | (with_reducible first | refine Ans.lsS (fun _=>?_) (fun _=>?_) | refine Ans.leS (fun _=>?_) (fun _=>?_) | refine Ans.grS (fun _=>?_) (fun _=>?_) | refine Ans.geS (fun _=>?_) (fun _=>?_) | refine Ans.eqS (fun _=>?_) (fun _=>?_) | refine Ans.neS (fun _=>?_) (fun _=>?_)) | ((with_reducible first | refine Ans.addN ?_ ?_ | refine Ans.add ?_ ?_ | refine Ans.sub ?_ ?_ | refine Ans.mul ?_ ?_); (focus omega)) | ((with_reducible first | refine Ans.ct ?_ ?_); (focus (simp (disch:=(first | omega | with_reducible assumption | (simp <;> omega) | fail)) [x1,hst,b0,b1,hi2,-ld1_newB_same]; done))) | ((with_reducible first | refine Ans.cf ?_ ?_); (focus (simp (disch:=(first | omega | with_reducible assumption | (simp <;> omega) | fail)) [x1,hst,b0,b1,hi2,-ld1_newB_same]; done))) | (refine Ans.step (by simp (disch:=(first | omega | with_reducible assumption | (simp <;> omega) | fail)) [x1,hst,b0,b1,hi2,-ld1_newB_same,-List.getD_eq_getElem?_getD] <;> rfl) ?_; try dsimp only [v_zero,v_succ]) | fail)
          (have fx:=ai o1 (ai o3 o4); refine Ans.nx0 ?_; clear fx)
          exact stepY e
      · have e:Z5g Gl t f=false:=by rw [hsk]; exact decide_eq_false qO
        repeat' (first | ((with_reducible first | refine Ans.bz ?_ | refine Ans.r1 ?_ | refine Ans.pkT ?_ | refine Ans.pkF ?_); try dsimp only [v_zero,v_succ]) | (with_reducible first | refine Ans.btL ?_ | refine Ans.bfL ?_ | refine Ans.gyT ?_ | refine Ans.gyF ?_ | refine Ans.gyG ?_ | refine Ans.bb ?_ | refine Ans.bc ?_ | refine Ans.ba ?_) | ((with_reducible first | refine Ans.lsT ?_ ?_ | refine Ans.leT ?_ ?_ | refine Ans.grT ?_ ?_ | refine Ans.geT ?_ ?_ | refine Ans.eqT ?_ ?_ | refine Ans.neT ?_ ?_); (focus omega)) | ((with_reducible first | refine Ans.lsF ?_ ?_ | refine Ans.leF ?_ ?_ | refine Ans.grF ?_ ?_ | refine Ans.geF ?_ ?_ | refine Ans.eqF ?_ ?_ | refine Ans.neF ?_ ?_); (focus omega)) | (with_reducible first | refine Ans.lsS (fun _=>?_) (fun _=>?_) | refine Ans.leS (fun _=>?_) (fun _=>?_) | refine Ans.grS (fun _=>?_) (fun _=>?_) | refine Ans.geS (fun _=>?_) (fun _=>?_) | refine Ans.eqS (fun _=>?_) (fun _=>?_) | refine Ans.neS (fun _=>?_) (fun _=>?_)) | ((with_reducible first | refine Ans.addN ?_ ?_ | refine Ans.add ?_ ?_ | refine Ans.sub ?_ ?_ | refine Ans.mul ?_ ?_); (focus omega)) | ((with_reducible first | refine Ans.ct ?_ ?_); (focus (simp (disch:=(first | omega | with_reducible assumption | (simp <;> omega) | fail)) [x1,hst,b0,b1,hi2,-ld1_newB_same]; done))) | ((with_reducible first | refine Ans.cf ?_ ?_); (focus (simp (disch:=(first | omega | with_reducible assumption | (simp <;> omega) | fail)) [x1,hst,b0,b1,hi2,-ld1_newB_same]; done))) | (refine Ans.step (by simp (disch:=(first | omega | with_reducible assumption | (simp <;> omega) | fail)) [x1,hst,b0,b1,hi2,-ld1_newB_same,-List.getD_eq_getElem?_getD] <;> rfl) ?_; try dsimp only [v_zero,v_succ]) | fail)
        (have fx:=ai o1 (ai o3 o4); refine Ans.nx0 ?_; clear fx)
        exact stepY e
  · have e:Z5g Gl t f=false:=by rw [hsk]; exact decide_eq_false qO
    repeat' (first | ((with_reducible first | refine Ans.bz ?_ | refine Ans.r1 ?_ | refine Ans.pkT ?_ | refine Ans.pkF ?_); try dsimp only [v_zero,v_succ]) | (with_reducible first | refine Ans.btL ?_ | refine Ans.bfL ?_ | refine Ans.gyT ?_ | refine Ans.gyF ?_ | refine Ans.gyG ?_ | refine Ans.bb ?_ | refine Ans.bc ?_ | refine Ans.ba ?_) | ((with_reducible first | refine Ans.lsT ?_ ?_ | refine Ans.leT ?_ ?_ | refine Ans.grT ?_ ?_ | refine Ans.geT ?_ ?_ | refine Ans.eqT ?_ ?_ | refine Ans.neT ?_ ?_); (focus omega)) | ((with_reducible first | refine Ans.lsF ?_ ?_ | refine Ans.leF ?_ ?_ | refine Ans.grF ?_ ?_ | refine Ans.geF ?_ ?_ | refine Ans.eqF ?_ ?_ | refine Ans.neF ?_ ?_); (focus omega)) | (with_reducible first | refine Ans.lsS (fun _=>?_) (fun _=>?_) | refine Ans.leS (fun _=>?_) (fun _=>?_) | refine Ans.grS (fun _=>?_) (fun _=>?_) | refine Ans.geS (fun _=>?_) (fun _=>?_) | refine Ans.eqS (fun _=>?_) (fun _=>?_) | refine Ans.neS (fun _=>?_) (fun _=>?_)) | ((with_reducible first | refine Ans.addN ?_ ?_ | refine Ans.add ?_ ?_ | refine Ans.sub ?_ ?_ | refine Ans.mul ?_ ?_); (focus omega)) | ((with_reducible first | refine Ans.ct ?_ ?_); (focus (simp (disch:=(first | omega | with_reducible assumption | (simp <;> omega) | fail)) [x1,hst,b0,b1,hi2,-ld1_newB_same]; done))) | ((with_reducible first | refine Ans.cf ?_ ?_); (focus (simp (disch:=(first | omega | with_reducible assumption | (simp <;> omega) | fail)) [x1,hst,b0,b1,hi2,-ld1_newB_same]; done))) | (refine Ans.step (by simp (disch:=(first | omega | with_reducible assumption | (simp <;> omega) | fail)) [x1,hst,b0,b1,hi2,-ld1_newB_same,-List.getD_eq_getElem?_getD] <;> rfl) ?_; try dsimp only [v_zero,v_succ]) | fail)
    (have fx:=ai o1 (ai o3 o4); refine Ans.nx0 ?_; clear fx)
    exact stepY e
theorem Zjs (s gs:Value) (n nv:Nat) (Gl V:List Int) (h:FH) (c:Nat) (df:List Nat) (hg:SlI h c gs 20 n Gl) (hs:SlI h c s 1 nv V) (hnv:nv=7*n) (hn:n<=60) (hV:∀ j,0<=gi V j/\gi V j<=1000000) (hok:Z0w Gl n=true) :
 ∀ (r t:Nat) (a:Int),t+r=n -> -500000000000+(r:Int)*32000000<=a->a<=500000000000 →
 Ans (G (Za5 none) [s,.int .i64 a,gs,.int .i64 n,.int .i64 t] h c df) fun q=>q=⟨.exit 0,[s,.int .i64 (a-sT Gl V r t),gs,.int .i64 n,.int .i64 n],h,c,df⟩:=by
 intro r
 have o1:=hs.okV
 have o2:=hg.okV
 have hG:=hg.1
 induction r with
 | zero =>
  intro t a ht h1 h2
  obtain rfl:t=n:=by omega
  refine Ans.lpG rfl rfl (Z4S ..) ?_
  unfold Z4k
  have fx:=True.intro
  refine Ans.go ?_
  clear fx
  (have fx:=ai o1 o2; refine Ans.ex0 ?_; clear fx)
  rw [sT,Int.sub_zero]
 | succ r ih =>
  intro t a ht h1 h2
  have l1:=hg.row t qO qO
  simp only [Int.toNat_natCast] at l1
  have hrl:(Z2x Gl t).length=20:=by unfold Z2x; simp [hG]; omega
  have hst:∀ b,stN (newB h b (List.replicate 20 (.int .i64 0))) 20 (.pointer (some ⟨b,0,none⟩)) (av (Z2x Gl t))=some (newB h b (ints (Z2x Gl t))):=fun b=>stN_all _ _ 20 _ _ hrl rfl
  have hst:∀ b,stN (newB h b [.int .i64 0,.int .i64 0,.int .i64 0,.int .i64 0,.int .i64 0,.int .i64 0,.int .i64 0,.int .i64 0,.int .i64 0,.int .i64 0,.int .i64 0,.int .i64 0,.int .i64 0,.int .i64 0,.int .i64 0,.int .i64 0,.int .i64 0,.int .i64 0,.int .i64 0,.int .i64 0]) 20 (.pointer (some ⟨b,0,none⟩)) (av (Z2x Gl t))=some (newB h b (ints (Z2x Gl t))):=hst
  have lr:∀ b,ldN (newB h b (ints (Z2x Gl t))) 20 (.pointer (some ⟨b,0,none⟩))=some (av (Z2x Gl t)):=fun b=>by
   rw [ldN_newB_same _ _ _ _ _ (by simp [hrl]),List.drop_zero,List.take_of_length_le (by simp [hrl])]; rfl
  have hbnd:=ZdL (Gl:=Gl) hV (t:=t) (r:=4) (f:=0)
  obtain ⟨H,hH⟩:∃ H,newB h (256*(c+1)+3) (ints (Z2x Gl t))=H:=⟨_,rfl⟩
  have sH:Z0E c h H:=by rw [← hH]; intro b hb; rw [Z06,if_neg qO]
  have hin:=Ans.eq (Zik s n nv Gl V t gs (.int .i64 n) H (c+1+1+1) df ((hs.same sH).mono qO) hnv hn hG qO hV hok (o2.mono qO) (by simp) 4 0 a qO qO qO)
  simp only [Int.ofNat_eq_natCast,Int.cast_ofNat_Int] at hin
  have hst:=hst (256*(c+1)+3)
  have lr:=lr (256*(c+1)+3)
  rw [hH] at hst lr
  rw [sT]
  obtain ⟨W,hW⟩:∃ W,sF Gl V t 4 0=W:=⟨_,rfl⟩
  rw [hW] at hin hbnd ⊢
  have htn:(t:Int)<n:=by omega
  refine Ans.lpG rfl rfl (Z4S ..) ?_
  unfold Z4k
  have fx:=ai hg.ixs (ai l1 (ai hst (ai lr hin)))
  refine Ans.go ?_
  clear fx
  (have fx:=ai o1 (ai o2 sH); refine Ans.nx0 ?_; clear fx)
  rw [show a-(W+sT Gl V r (t+1))=a-W-sT Gl V r (t+1) by omega]
  exact ih (t+1) (a-W) qO qO qO

theorem EqV.len {c0:Nat} {h:FH} {c n:Nat} {Gl:List Int} {v:Value} (e:EqV c0 h c n Gl v):Z1B v=some (.int .i64 (Z2v Gl n).length):=by
 obtain ⟨vals,⟨_,_,_,i,op,rfl,_⟩,_⟩:=e
 rfl
theorem EqV.okV {c0:Nat} {h:FH} {c n:Nat} {Gl:List Int} {v:Value} (e:EqV c0 h c n Gl v):OkV c v:=by
 obtain ⟨vals,⟨_,_,_,i,op,rfl,_,h6,_⟩,_⟩:=e
 exact OkV.sl h6
theorem EqV.mono {c0:Nat} {h:FH} {c c' n:Nat} {Gl:List Int} {v:Value} (hc:c<=c') (e:EqV c0 h c n Gl v):EqV c0 h c' n Gl v:=by
 obtain ⟨vals,h1,h2⟩:=e
 refine ⟨vals,h1.mono hc,fun k m hk=>?_⟩
 obtain ⟨x,x1,b,y1,y2,y3,y4⟩:=h2 k m hk
 exact ⟨x,x1,b,y1,y2,by omega,y4⟩
theorem EqV.at {c0:Nat} {h:FH} {c n:Nat} {Gl:List Int} {v:Value} (e:EqV c0 h c n Gl v) {i:Nat} (hi:i<(Z2v Gl n).length) :
 ∃ x p,ixS 1 v (.int .i64 i)=some p/\ld1 h p=some x/\Z1B x=some (.int .i64 (7*n:Nat))/\SlI h c x 1 (7*n) (Zdh n ((Z2v Gl n).getD i [])):=by
 obtain ⟨vals,⟨h1,h2,h3,b,op,rfl,h5,h6,h7,h8⟩,h9⟩:=e
 obtain ⟨x,x1,b',rfl,y2,y3,y4,y5,y6⟩:=h9 i _ (List.getElem?_eq_getElem hi)
 have hg:(Z2v Gl n).getD i []=(Z2v Gl n)[i]:=by simp [List.getD,List.getElem?_eq_getElem hi]
 rw [hg]
 refine ⟨.slice (some ⟨b',0,none⟩) (7*n) (7*n),.pointer (some ⟨b,0+(i:Int).toNat*1,none⟩),ixS_sl _ _ _ _ _ _ _ qO qO, ?_,rfl,⟨by rw [y5]; omega,by omega,_,_,rfl,.inr ⟨b',0,ints (Zdh n (Z2v Gl n)[i]),rfl,y3,⟨false,none,y4⟩, ?_⟩⟩⟩
 · rw [Z03 (cs:=vals) ⟨false,op,h7⟩]
   simpa using x1
 · rw [List.drop_zero,List.take_of_length_le (by simp [y5])]
theorem Z9E (V:List Int) {j:Nat} (hj:j<V.length):gi V (j:Nat)=V[j]:=by
 simp [gi,List.getD,List.getElem?_eq_getElem hj]
theorem ZbT {V:List Int} {t:Nat} (ht:7*t+7<=V.length):Zm4 V t 7 0=nzC (Z58 V t):=by
 have e:Z58 V t=[gi V (7*t+4:Nat),gi V (7*t+5:Nat),gi V (7*t+6:Nat)]:=by
  unfold Z58
  rw [Z9E V qO,Z9E V qO,Z9E V qO]
  rw [List.drop_eq_getElem_cons qO,List.take_succ_cons,List.drop_eq_getElem_cons (by omega:7*t+4+1<V.length),List.take_succ_cons,List.drop_eq_getElem_cons (by omega:7*t+4+1+1<V.length),List.take_succ_cons,List.take_zero]
 rw [e]
 simp [Zm4,nzC]
theorem Zc8 {V:List Int}:Z13 V=true ↔ ∀ j,j<V.length->0<=gi V (j:Nat)/\gi V (j:Nat)<=1000000:=by
 constructor
 · intro h j _; exact Z5i h j
 · intro h
   refine List.all_eq_true.2 fun x hx=>?_
   obtain ⟨j,hj,rfl⟩:=List.getElem_of_mem hx
   have:=h j hj
   rw [Z9E V hj] at this
   simp [this.1,this.2]

theorem OkV.tup2 (c:Nat) (k k':IntKind) (a b:Int):OkV c (.tuple #[.int k a,.int k' b]):=by
 refine ⟨.tuple #[.int k a,.int k' b],.tuple rfl (fun i x y hx hy=>?_)⟩
 match i,hx,hy with
 | 0,hx,hy=>cases hx; cases hy; exact .int _ _
 | 1,hx,hy=>cases hx; cases hy; exact .int _ _
 | i+2,hx,hy=>simp at hx
theorem ZbV {Gl:List Int} {n:Nat} {b:Bool} (hE:Zbq Gl n b=0):ZhL Gl n=0/\b=true:=by
 unfold Zbq at hE
 split at hE
 · rename_i h1
   split at hE
   · rename_i h2; exact ⟨h1,h2⟩
   · cases hE
 · rename_i h1; exact absurd hE h1
theorem ZmU {Gl V:List Int} {n:Nat} (ha:Z5h Gl n V=true):V.length=7*n/\Z13 V=true:=by
 unfold Z5h at ha
 simp only [Bool.and_eq_true,decide_eq_true_eq] at ha
 exact ⟨ha.1.1.1,ha.1.1.2⟩
def Zom (Gl:List Int) (n:Nat) (V:List Int):Int:=Z3O ((edF Gl n).map (wgt V))+Z3O V-sT Gl V n 0
def eulV (Gl:List Int) (n:Nat) (V:List Int):Int:=if Zbq Gl n (Z5h Gl n V)=0 then Zom Gl n V else 0
set_option maxHeartbeats 1000000 in
theorem Zfu (s v:Value) (n nv:Nat) (Gl V:List Int) (h:FH) (c:Nat) (df:List Nat) (hs:SlI h c s 20 n Gl) (hv:SlI h c v 1 nv V) (hx:SlX h v 1 nv) (hnv:nv<=1000000) :
 G (.fn 15) [.agg #[s],v] h c df=some ⟨.ret,[.tuple #[.int .i64 (eulV Gl n V),.int .i64 (Zbq Gl n (Z5h Gl n V))]],h,c,[]⟩:=by
 refine Z0u (fun r e=>f15_go e) (OkV.tup2 _ _ _ _ _) ?_
 unfold ZiT
 rw [Z96 hs.flat,Z8T,Nat.add_zero]
 simp only [cond_true]
 have hbl:=Zjb hv
 obtain ⟨H,hH⟩:∃ H,H=newB (newB h (256*c) [s]) (256*(c+1)+2) [v]:=⟨_,rfl⟩
 have sH:Z0E c h H:=by rw [hH]; simp (disch:=omega)
 have hg:Z07 H (256*c) [s]:=by rw [hH]; exact (Z07.newB_same _ _ _).newB_ne qO
 have hq:Z07 H (256*(c+1)+2) [v]:=by rw [hH]; exact Z07.newB_same _ _ _
 have l0:ldN (newB h (256*c) [s]) 1 (.pointer (some ⟨256*c,0,none⟩))=some (.agg #[s]):=Z0F (Z07.newB_same _ _ _)
 have l1:=Z0F hg
 have c1:=Zj8 s v n nv Gl V (256*(c+1)+2) H (c+1+1) ((hs.same sH).mono qO) ((hv.same sH).mono qO) (SlX.keep hv sH hx) hnv qO hq
 have hH':=hH.symm
 unfold eulV
 obtain ⟨E,hE⟩:∃ E,Zbq Gl n (Z5h Gl n V)=E:=⟨_,rfl⟩
 rw [hE] at c1 ⊢
 by_cases h0:E=0
 case neg =>
  rw [if_neg h0]
  have fx:=ai l0 (ai hbl (ai hH' c1))
  refine Ans.go ?_
  clear fx
  exact Ans.pure rfl sH
 obtain ⟨hr0,ha⟩:=ZbV (hE.trans h0)
 obtain ⟨hn,hok⟩:=Z6f hr0
 obtain ⟨a1,a2⟩:=ZmU ha
 have hV:=Zhg a2
 have hnv':nv=7*n:=by have:=hv.1; omega
 subst h0
 rw [if_pos rfl]
 obtain ⟨⟨re,rv,H2,c2,rd⟩,hr,w,q1,q2,q3,q4⟩:=Z9o s v n nv Gl V H (c+1+1+1+1) [] ((hs.same sH).mono qO) ((hv.same sH).mono qO) hok hn hnv' hV
 obtain ⟨rfl,rfl,-,-,rfl⟩:=Rt.mk.inj q1
 simp only at q2 q3 q4
 have cw:=Z0b hr
 have s2:Z0E c h H2:=sH.trans (q3.mono qO)
 have hel:(edF Gl n).length<=6*n:=Z3z _ _
 have b1:∀ x,x ∈ (edF Gl n).map (wgt V)->0<=x/\x<=5000000:=fun x hx=>by
  obtain ⟨y,_,rfl⟩:=List.mem_map.1 hx
  exact Zaj hV
 have b2:∀ x,x ∈ V->0<=x/\x<=5000000:=fun x hx=>by
  obtain ⟨j,hj,rfl⟩:=List.getElem_of_mem hx
  have:=hV j
  rw [Z9E V hj] at this
  omega
 have t1:=fun c' (hc:c2<=c')=>Z0b (ZdD w _ _ H2 c' [] (q4.sl.mono hc) qO b1)
 have t2:=fun c' (hc:c<=c')=>Z0b (ZdD v _ _ H2 c' [] ((hv.same s2).mono hc) qO b2)
 have k1:=Z5k (B:=5000000) qO b1
 have k2:=Z5k (B:=5000000) qO b2
 rw [List.length_map] at k1
 unfold Zom
 obtain ⟨S1,hS1⟩:∃ S,Z3O ((edF Gl n).map (wgt V))=S:=⟨_,rfl⟩
 obtain ⟨S2,hS2⟩:∃ S,Z3O V=S:=⟨_,rfl⟩
 rw [hS1] at t1 k1 ⊢
 rw [hS2] at t2 k2 ⊢
 have hg2:Z07 H2 (256*c) [s]:=hg.eqf (q3 _ qO)
 have l2:ld1 H2 (.pointer (some ⟨256*c,0,none⟩))=some s:=by rw [Z03 hg2]; rfl
 have ls:=hs.len
 have hl:=Ans.eq (Zjs v s n nv Gl V H2 (c2+1) [] ((hs.same s2).mono qO) ((hv.same s2).mono qO) hnv' hn hV hok n 0 (S1+S2) qO qO qO)
 simp only [Int.ofNat_eq_natCast,Int.cast_ofNat_Int] at hl
 have fx:=ai l0 (ai hbl (ai hH' (ai c1 (ai l1 (ai cw (ai t1 (ai t2 (ai l2 (ai ls hl)))))))))
 refine Ans.go ?_
 clear fx
 exact Ans.pure rfl s2
theorem Zjz (h:FH) (b m:Nat) (X:List Int):SlX (newB h b (ints X)) (.slice (some ⟨b,0,none⟩) m m) 1 m:=by
 refine ⟨Nat.le_refl _, ?_⟩
 have:HeapC.get (newB h b (ints X)) b=some (.cells false none (ints X)):=get_newB_same _ _ _
 simp only [Z9j,Zcb,this]

theorem Zhn (i j:Nat) (h:FH) (c:Nat) (df:List Nat) (h1:i<j) (h2:j<4):G (.fn 20) [.int .i64 i,.int .i64 j] h c df=some ⟨.ret,[.int .i64 (ty i j)],h,c,[]⟩:=by
 refine Z0u (fun r e=>ZmI e) (by simp) ?_
 have e:ty (i:Int) j=if i=0 then (j:Int)-1 else 5-i-j:=by
  have:(i=0/\j=1) ∨ (i=0/\j=2) ∨ (i=0/\j=3) ∨ (i=1/\j=2) ∨ (i=1/\j=3) ∨ (i=2/\j=3):=by omega
  rcases this with ⟨rfl,rfl⟩ | ⟨rfl,rfl⟩ | ⟨rfl,rfl⟩ | ⟨rfl,rfl⟩ | ⟨rfl,rfl⟩ | ⟨rfl,rfl⟩ <;> rfl
 unfold ZlN
 rw [e]
 by_cases e0:i=0
 · rw [if_pos e0]
   subst e0
   have fx:=True.intro
   refine Ans.go ?_
   clear fx
   (have fx:=True.intro; exact Ans.pu)
 · rw [if_neg e0]
   have fx:=True.intro
   refine Ans.go ?_
   clear fx
   (have fx:=True.intro; exact Ans.pu)
theorem Zn4 {i j:Nat} (hi:i<4) (hj:j<4):ty (i:Int) j=ty j i:=by
 have:∀ a b:Fin 4,ty ((a:Nat):Int) (b:Nat)=ty (b:Nat) (a:Nat):=by decide
 exact this ⟨i,hi⟩ ⟨j,hj⟩
theorem Zn3 (i j:Nat) (h:FH) (c:Nat) (df:List Nat) (hi:i<4) (hj:j<4) (hne:i ≠ j):G (.fn 20) [.int .i64 i,.int .i64 j] h c df=some ⟨.ret,[.int .i64 (ty i j)],h,c,[]⟩:=by
 by_cases hl:i<j
 · exact Zhn i j h c df hl hj
 · refine Z0u (fun r e=>ZmI e) (by simp) ?_
   unfold ZlN
   have ct:=fun c'=>Z0b (Zhn j i h c' [] qO hi)
   rw [Zn4 hi hj]
   have fx:=ct
   refine Ans.go ?_
   clear fx
   (have fx:=True.intro; exact Ans.pu)

end Go.Proofs.Ytcnndelmnobigaa

namespace Go.Ab
open Go
def Zc7 (c0:Nat) (h:FH) (c:Nat) (v:Value) (n:Nat) (cs:List Value):Prop:=(v = .slice none 0 0/\n=0/\cs=[]) ∨ Z67 c0 h c v n cs
theorem Zc7.mono {c0:Nat} {h:FH} {c c':Nat} {v:Value} {n:Nat} {cs:List Value} (hc:c<=c') (ha:Zc7 c0 h c v n cs):Zc7 c0 h c' v n cs:=ha.imp id (·.mono hc)
theorem Zc7.keep {c0:Nat} {h h':FH} {c:Nat} {v:Value} {n:Nat} {cs:List Value} (ha:Zc7 c0 h c v n cs) (hh:v ≠ .slice none 0 0->h'.f (Z0D v)=h.f (Z0D v)):Zc7 c0 h' c v n cs:=by
 rcases ha with ha | ha
 · exact .inl ha
 · refine .inr (ha.keep (hh ?_))
   obtain ⟨_,_,_,i,op,rfl,_⟩:=ha
   intro e; cases e
theorem Zc7.len {c0:Nat} {h:FH} {c:Nat} {v:Value} {n:Nat} {cs:List Value} (ha:Zc7 c0 h c v n cs):Z1B v=some (.int .i64 n):=by
 rcases ha with ⟨rfl,rfl,_⟩ | ⟨_,_,_,i,op,rfl,_⟩ <;> rfl
theorem Zc7.blk {c0:Nat} {h:FH} {c:Nat} {v:Value} {n:Nat} {cs:List Value} (ha:Zc7 c0 h c v n cs) (hv:v ≠ .slice none 0 0):256*c0<=Z0D v/\Z0D v<256*c:=by
 rcases ha with ⟨e,_⟩ | ha
 · exact absurd e hv
 · exact ha.blk
theorem Zc7.okV {c0:Nat} {h:FH} {c:Nat} {v:Value} {n:Nat} {cs:List Value} (ha:Zc7 c0 h c v n cs):OkV c v:=by
 rcases ha with ⟨rfl,_⟩ | ⟨_,_,_,i,op,rfl,_,h6,_⟩
 · exact OkV.sl0 _ _ _
 · exact OkV.sl h6
theorem Zc7.length {c0:Nat} {h:FH} {c:Nat} {v:Value} {n:Nat} {cs:List Value} (ha:Zc7 c0 h c v n cs):cs.length=n:=by
 rcases ha with ⟨_,rfl,rfl⟩ | ha
 · rfl
 · exact ha.1
theorem Zc7.app {c0:Nat} {h:FH} {c c':Nat} {v:Value} {n:Nat} {cs:List Value} (ha:Zc7 c0 h c v n cs) (x:Value) (hx:Z0d x=true) (by' b id:Nat) (hb:256*c<=b) (hid:256*c<=id) (hne:b ≠ id) (hc0:c0<=c)
 (hid':id<256*c') (hlim:(n+1)*(by'+1)<=17592186044416) :
 ∃ h',Z9h (newB h b [x]) id 1 by' v (.slice (some ⟨b,0,none⟩) 1 1)=some (.slice (some ⟨id,0,none⟩) (n+1) (n+1),h')/\Z67 c0 h' c' (.slice (some ⟨id,0,none⟩) (n+1) (n+1)) (n+1) (cs++[x]) ∧
  (∀ j,j<256*c->(v ≠ .slice none 0 0->j ≠ Z0D v)->h'.f j=h.f j):=by
 rcases ha with ⟨rfl,rfl,rfl⟩ | ha
 · have hlim':Nat.ble ((0+1)*(by'+1)) 17592186044416=true:=Nat.ble_eq_true_of_le hlim
   have hsrc:Z0H (newB h b [x]) 1 (.slice (some ⟨b,0,none⟩) 1 1)=some ([x],1):=by
    have:Nat.ble (0+1*1) [x].length=true:=rfl
    simp only [Z0H,Z0Q,Z0k,get_newB_same,Option.bind_some,this,cond_true,List.drop_zero]
    rfl
   have hcap:Nat.ble (0+1) 0=false:=rfl
   have hfx:[x].all Z0d=true:=by simp [hx]
   refine ⟨HeapC.set (newB h b [x]) id (.cells false (some 1) [x]), ?_,⟨rfl,by omega,hfx,id,some 1,rfl,by omega,hid',by rw [Z0r,if_pos rfl]; rfl,.inr rfl⟩,fun j hj _=>?_⟩
   · simp only [Z9h,hsrc,Option.bind_some,appTo,hcap,cond_false,Z3B,hlim',hfx,Bool.and_self,cond_true,Nat.beq_refl]
   · rw [Z0r,if_neg qO,Z06,if_neg qO]
 · obtain ⟨h',e1,e2,e3⟩:=ha.app x hx by' b id hb hid hne hc0 hid' hlim
   refine ⟨h',e1,e2,fun j hj hv=>e3 j hj (hv ?_)⟩
   obtain ⟨_,_,_,i,op,rfl,_⟩:=ha
   intro e; cases e
end Go.Ab

namespace Go.Proofs.Ytcnndelmnobigaa
open Go Go.Ab Go.Proofs
def EqN (c0:Nat) (h:FH) (c n:Nat) (v:Value) (D:List (List Int)):Prop :=
 ∃ vals,Zc7 c0 h c v D.length vals /\ ∀ (k:Nat) (m:List Int),D[k]? = some m -> ∃ x,vals[k]? = some x/\RowV c0 h c x (7*n) (Zdh n m)/\Z0D x ≠ Z0D v
theorem EqN.nil (c0:Nat) (h:FH) (c n:Nat):EqN c0 h c n (.slice none 0 0) []:=⟨[],.inl ⟨rfl,rfl,rfl⟩,fun k m e=>by simp at e⟩
theorem EqN.mono {c0:Nat} {h:FH} {c c' n:Nat} {v:Value} {D:List (List Int)} (hc:c<=c') (e:EqN c0 h c n v D):EqN c0 h c' n v D:=by
 obtain ⟨vals,h1,h2⟩:=e
 refine ⟨vals,h1.mono hc,fun k m hk=>?_⟩
 obtain ⟨x,x1,⟨b,y1,y2,y3,y4⟩,x3⟩:=h2 k m hk
 exact ⟨x,x1,⟨b,y1,y2,by omega,y4⟩,x3⟩
theorem EqN.same {c0:Nat} {h h':FH} {c n:Nat} {v:Value} {D:List (List Int)} (hh:∀ b,256*c0<=b->b<256*c->h'.f b=h.f b) (e:EqN c0 h c n v D):EqN c0 h' c n v D:=by
 obtain ⟨vals,h1,h2⟩:=e
 refine ⟨vals,h1.keep fun hv=>hh _ (h1.blk hv).1 (h1.blk hv).2,fun k m hk=>?_⟩
 obtain ⟨x,x1,⟨b,y1,y2,y3,y4,y5⟩,x3⟩:=h2 k m hk
 exact ⟨x,x1,⟨b,y1,y2,y3,(hh b y2 y3).trans y4,y5⟩,x3⟩
def FrN (c0 cc:Nat) (v:Value) (h h':FH):Prop:=∀ b,b<256*cc->(256*c0<=b->v ≠ .slice none 0 0->b ≠ Z0D v)->h'.f b=h.f b
theorem FrN.low {c0 cc:Nat} {v:Value} {h h':FH} (f:FrN c0 cc v h h') (hc:c0<=cc):Z0E c0 h h':=fun b hb=>f b qO (fun q=>by omega)


theorem EqN.at {c0:Nat} {h:FH} {c n:Nat} {v:Value} {D:List (List Int)} (e:EqN c0 h c n v D) {i:Nat} (hi:i<D.length) :
 ∃ x p b o,p = .pointer (some ⟨b,o,none⟩)/\b<256*c/\ixS 1 v (.int .i64 i)=some p/\ld1 h p=some x/\Z1B x=some (.int .i64 (7*n:Nat))/\SlI h c x 1 (7*n) (Zdh n (D.getD i [])):=by
 obtain ⟨vals,a1,a2⟩:=e
 rcases a1 with ⟨_,h0,_⟩ | ⟨h1,h2,h3,b,op,rfl,h5,h6,h7,h8⟩
 · omega
 obtain ⟨x,x1,⟨b',rfl,y2,y3,y4,y5,y6⟩,x3⟩:=a2 i _ (List.getElem?_eq_getElem hi)
 have hg:D.getD i []=D[i]:=by simp [List.getD,List.getElem?_eq_getElem hi]
 rw [hg]
 refine ⟨.slice (some ⟨b',0,none⟩) (7*n) (7*n),.pointer (some ⟨b,0+(i:Int).toNat*1,none⟩),_,_,rfl,h6,ixS_sl _ _ _ _ _ _ _ qO qO, ?_,rfl,⟨by rw [y5]; omega,by omega,_,_,rfl,.inr ⟨b',0,ints (Zdh n D[i]),rfl,y3,⟨false,none,y4⟩, ?_⟩⟩⟩
 · rw [Z03 (cs:=vals) ⟨false,op,h7⟩]
   simpa using x1
 · rw [List.drop_zero,List.take_of_length_le (by simp [y5])]
theorem EqN.len {c0:Nat} {h:FH} {c n:Nat} {v:Value} {D:List (List Int)} (e:EqN c0 h c n v D):Z1B v=some (.int .i64 D.length):=by
 obtain ⟨vals,a1,_⟩:=e; exact a1.len
theorem EqN.okV {c0:Nat} {h:FH} {c n:Nat} {v:Value} {D:List (List Int)} (e:EqN c0 h c n v D):OkV c v:=by
 obtain ⟨vals,a1,_⟩:=e; exact a1.okV
end Go.Proofs.Ytcnndelmnobigaa

namespace Go.Ab
open Go
theorem ZbD {L:List Int} {m:Nat} (hd:Z7O L m):∀ {k i:Nat},i<m->i<k->L.getD (Z6d L k i) 0=Z6d L k i
 | 0,i,_,h=>by omega
 | k+1,i,hi,h=>by
  rw [Z6d]
  split
  · assumption
  · have:=hd.2 i hi
    exact ZbD hd qO qO
theorem Z8j {L:List Int} {m i:Nat} (hd:Z7O L m) (hi:i<m):L.getD (Z0a L i) 0=Z0a L i:=ZbD hd hi qO
theorem Z2y {L:List Int} {m i:Nat} (hd:Z7O L m) (hi:i<m):Z0a L (Z0a L i)=Z0a L i:=Z1F (Z8j hd hi)
theorem Z2z {L:List Int} {m i j:Nat} (hd:Z7O L m) (hi:i<m) (hj:j<m):∀ {k:Nat},k<m →
 Z0a (Z3C L i j) k=if Z0a L k=max (Z0a L i) (Z0a L j) then min (Z0a L i) (Z0a L j) else Z0a L k:=by
 have h1:=Z1p hd hi
 have h2:=Z1p hd hj
 have f1:=Z8j hd hi
 have f2:=Z8j hd hj
 have hd':=Z2C hd hi hj
 have hl:=hd.1
 obtain ⟨M,hM⟩:∃ M,max (Z0a L i) (Z0a L j)=M:=⟨_,rfl⟩
 obtain ⟨N,hN⟩:∃ N,min (Z0a L i) (Z0a L j)=N:=⟨_,rfl⟩
 have fM:L.getD M 0=M:=by
  rcases Nat.le_total (Z0a L i) (Z0a L j) with h | h
  · rw [show M=Z0a L j by omega]; exact f2
  · rw [show M=Z0a L i by omega]; exact f1
 have fN:L.getD N 0=N:=by
  rcases Nat.le_total (Z0a L i) (Z0a L j) with h | h
  · rw [show N=Z0a L i by omega]; exact f1
  · rw [show N=Z0a L j by omega]; exact f2
 have hg:∀ k,(Z3C L i j).getD k 0=if M=k/\M<L.length then (N:Int) else L.getD k 0:=fun k=>by
  unfold Z3C
  rw [Z2h,hM,hN]
 rw [hM,hN]
 have key:∀ (b k:Nat),k<b->k<m->Z0a (Z3C L i j) k=if Z0a L k=M then N else Z0a L k:=by
  intro b
  induction b with
  | zero=>intro k h; omega
  | succ b ih =>
   intro k hb hk
   by_cases e:k=M
   · subst e
     rw [Z1F fM,if_pos rfl]
     have e2:=hg k
     rw [if_pos ⟨rfl,by omega⟩] at e2
     by_cases e3:N=k
     · rw [Z1F (by rw [e2,e3])]; exact e3.symm
     · rw [Z5n hd' qO qO,e2,Int.toNat_natCast,ih N qO qO,Z1F fN,if_neg e3]
   · have e2:=hg k
     rw [if_neg (fun q=>e q.1.symm)] at e2
     by_cases e3:L.getD k 0=k
     · rw [Z1F (e2.trans e3),Z1F e3,if_neg e]
     · have d:=hd.2 k hk
       rw [Z5n hd' hk (by rw [e2]; exact e3),e2,ih _ qO qO,← Z5n hd hk e3]
 intro k hk
 exact key (k+1) k qO hk
theorem Zi8 {L:List Int} {m i j:Nat} (hd:Z7O L m) (hi:i<m) (hj:j<m):Z0a (Z3C L i j) i=Z0a (Z3C L i j) j:=by
 rw [Z2z hd hi hj hi,Z2z hd hi hj hj]
 split <;> split <;> omega
theorem Zi9 {L:List Int} {m i j a b:Nat} (hd:Z7O L m) (hi:i<m) (hj:j<m) (ha:a<m) (hb:b<m) (e:Z0a L a=Z0a L b):Z0a (Z3C L i j) a=Z0a (Z3C L i j) b:=by
 rw [Z2z hd hi hj ha,Z2z hd hi hj hb,e]
end Go.Ab
