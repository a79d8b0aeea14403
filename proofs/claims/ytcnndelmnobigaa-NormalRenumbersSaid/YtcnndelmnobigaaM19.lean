/- Parts of a proof: N10 I6 U1 AbUf U2 U3 U4 U5 U6 U7. Conditions: none. -/
import Derived.Test.YtcnndelmnobigaaM17
import Derived.Test.YtcnndelmnobigaaM14
import Derived.Test.YtcnndelmnobigaaM18
import Derived.Test.YtcnndelmnobigaaM15
import Derived.Test.YtcnndelmnobigaaM16
set_option linter.all false
set_option maxRecDepth 100000
namespace Go.Proofs.Ytcnndelmnobigaa
open Go Go.Ab Go.Proofs
theorem Zhy (h:FH) (c:Nat):callF G 11 [] h c=some (.bool true,h,c):=Z0b (ZjE (f:=11) (args:=[]) (h:=h) (c:=c) (r:=⟨.ret,[.bool true],h,c,[]⟩) rfl)
theorem ZbX (s:Value) (n:Nat) (Gl:List Int) (h:FH) (c:Nat) (hs:SlI h c s 20 n Gl):callF G 13 [.agg #[s]] h c=some (.int .i64 (if n<=1000/\Z0w Gl n=true then 0 else 7),h,c):=Z0b (Zj5 s n Gl h c [] hs)
def Zm4 (V:List Int) (t:Nat):Nat->Nat->Nat
 | 0,_=>0
 | k+1,i=>(if 3<i/\gi V (7*t+i:Nat) ≠ 0 then 1 else 0)+Zm4 V t k (i+1)

set_option maxRecDepth 100000
set_option maxHeartbeats 1000000 in
theorem ZhI (s so sp:Value) (n a b:Nat) (Gl Ord Pm:List Int) (h:FH) (c:Nat) (df:List Nat) (hs:SlI h c s 20 n Gl) (ho:SlI h c so 1 a Ord) (hp:SlI h c sp 4 b Pm) :
 Ans (G (.fn 19) [.agg #[s],so,sp] h c df) (ZfL h c Gl Ord Pm n a b):=by
 refine Ans.call' (fun r e=>f19_go e) ?_
 have hflat:((Value.agg #[s]).cells.toList.all Z0d)=true:=by simp [Value.cells,hs.flat]
 have hcell:(Value.agg #[s]).cells.toList=[s]:=rfl
 unfold ZnV
 rw [hflat,hcell]
 simp only [cond_true]
 obtain ⟨H,hH⟩:∃ H,H=newB (newB h (256*c) [s]) (256*c+1) [.slice none 0 0]:=⟨_,rfl⟩
 have sH:Z0E c h H:=by rw [hH]; simp (disch:=omega)
 have hg:Z07 H (256*c) [s]:=by rw [hH]; exact Z07.newB_ne qO (Z07.newB_same _ _ _)
 have hr:H.f (256*c+1)=some (.cells false none [.slice none 0 0]):=by rw [hH,Z06,if_pos rfl]
 have l0:=Z0F hg
 have l1:ld1 H (.pointer (some ⟨256*c,0,none⟩))=some s:=by rw [Z03 hg]; rfl
 have c1:=ZbX s n Gl H (c+1+1) ((hs.same sH).mono qO)
 have hlen:=hs.len
 have w0:=Zhv hr (o:=0) (v:=.slice none 0 0) (by simp) rfl
 have hz:Z3A [(.slice none 0 0)] []=some (.agg #[.slice none 0 0]):=rfl
 rw [Nat.add_zero,← hH]
 clear hH
 have w1:=Z0F (h:=HeapC.set H (256*c+1) (.cells false none [.slice none 0 0])) (b:=256*c+1) (cs:=[]) (v:=.slice none 0 0) ⟨_,_,get_set_same _ _ _⟩
 by_cases hok:n<=1000/\Z0w Gl n=true
 case neg =>
  rw [if_neg hok] at c1
  have fx:=ai l0 (ai c1 (ai hz (ai w0 w1)))
  refine Ans.go ?_
  clear fx
  refine .done ⟨rfl,rfl,(by show c<=c+1+1+1; omega), ?_,.slice none 0 0,by rw [rnE,if_neg hok], ?_⟩
  · exact sH.set qO
  · rw [rnN,rnR,if_neg (fun h=>hok ⟨h.1,h.2.1⟩),if_neg (fun h=>hok ⟨h.1,h.2.1⟩)]
    exact ⟨SlI.nil _ _ _,fun h=>absurd h qO⟩
 rw [if_pos hok] at c1
 have c2:=Z0b (Zg9 so sp a b n Ord Pm H (c+1+1+1+1) [] ((ho.same sH).mono qO) ((hp.same sH).mono qO) qO)
 cases hord:Zg3 Ord Pm a b n with
 | false =>
  rw [hord] at c2
  have fx:=ai l0 (ai l1 (ai hlen (ai c1 (ai c2 (ai hz (ai w0 w1))))))
  refine Ans.go ?_
  clear fx
  refine .done ⟨rfl,rfl,(by show c<=c+1+1+1+1+1; omega), ?_,.slice none 0 0,by rw [rnE,if_pos hok,hord,if_neg (by simp)], ?_⟩
  · exact sH.set qO
  · rw [rnN,rnR,if_neg (fun h=>by rw [hord] at h; simp at h),if_neg (fun h=>by rw [hord] at h; simp at h)]
    exact ⟨SlI.nil _ _ _,fun h=>absurd h qO⟩
 | true =>
  rw [hord] at c2
  have hrn:=RnOk.of hs.1 (by simpa using ho.1) hp.1 hok.2 hord
  obtain ⟨rfl,rfl,hord2⟩:=ZaA.1 hord
  have hbk:=Ans.eq (ZjH so sp (.slice (some ⟨256*(c+1+1+1+1)+1,0,none⟩) b b) (ptrTo (256*c)) (ptrTo (256*c+1)) b Ord (256*(c+1+1+1+1)+1) c (c+1+1+1+1+1+1) H hok.1 qO qO qO rfl
   (ho.same sH) (fun j hj=>⟨(hrn.rng j hj).1,(hrn.rng j hj).2.1⟩) (hp.mono qO).okV (OkV.ptrTo qO) (OkV.ptrTo qO) [] b 0 (List.replicate b 0) qO (by simp))
  rw [show Z9g Ord b 0 (List.replicate b 0)=Z17 Ord b from rfl] at hbk
  simp only [Int.ofNat_eq_natCast,Int.cast_ofNat_Int] at hbk
  obtain ⟨H2,hH2⟩:∃ H2,H2=newB H (256*(c+1+1+1+1)+1) (ints (Z17 Ord b)):=⟨_,rfl⟩
  rw [← hH2] at hbk
  have sH2:Z0E (c+1+1+1+1) H H2:=by rw [hH2]; simp (disch:=omega)
  have sb:SlI H2 (c+1+1+1+1+1+1) (.slice (some ⟨256*(c+1+1+1+1)+1,0,none⟩) b b) 1 b (Z17 Ord b):=by
   refine ⟨by rw [Z65,Nat.mul_one],by omega,_,_,rfl,.inr ⟨_,0,ints (Z17 Ord b),rfl,by omega, ?_, ?_⟩⟩
   · rw [hH2]; exact Z07.newB_same _ _ _
   · rw [List.drop_zero,List.take_of_length_le (by simp [Z65])]
  have sc:Z0E c h H2:=sH.trans (sH2.mono qO)
  clear hH2
  obtain ⟨⟨re,rv,rh,rc,rd⟩,hm,m1,m2,m3,m4,m5,v,m6,m7⟩:=Znf s so sp (.slice (some ⟨256*(c+1+1+1+1)+1,0,none⟩) b b) (ptrTo (256*c+1)) b Gl Ord Pm (256*c) (256*(c+1+1+1+1+1+1)) (c+1+1+1+1+1+1) (c+1+1+1+1+1+1+1+1) H2 hok.1 qO qO qO qO
   (hg.same qO sH2) ((hs.same sc).mono qO) ((ho.same sc).mono qO) ((hp.same sc).mono qO) sb hrn (OkV.ptrTo qO) [] b 0 (c+1+1+1+1+1+1+1+1) (newB H2 (256*(c+1+1+1+1+1+1)) [.slice none 0 0]) (.slice none 0 0) qO qO
   ((Same_newB qO).2 (Z0E.refl _ _)) (by rw [Z06,if_pos rfl]) (Z93.nil _ _ _ _)
  simp only at m1 m2 m3 m4 m5 m6 m7
  subst m1 m2 m3
  simp only [Int.ofNat_eq_natCast,Int.cast_ofNat_Int] at hm
  have l2:=Z0F ⟨_,_,m6⟩
  have hr2:rh.f (256*c+1)=some (.cells false none [.slice none 0 0]):=(m5 _ qO).trans ((sH2 _ qO).trans hr)
  have w2:=Zhv hr2 (o:=0) (v:=v) (by simp) m7.flat.1
  have w3:=Z0F (h:=HeapC.set rh (256*c+1) (.cells false none [v])) (b:=256*c+1) (cs:=[]) (v:=v) ⟨_,_,get_set_same _ _ _⟩
  have fx:=ai l0 (ai l1 (ai hlen (ai c1 (ai c2 (ai hz (ai Zcw (ai hbk (ai hm (ai l2 (ai w2 w3))))))))))
  refine Ans.go ?_
  clear fx
  refine .done ⟨rfl,rfl,(by show c<=rc+1; omega), ?_,v,by rw [rnE,if_pos hok,hord,if_pos rfl], ?_⟩
  · exact (sc.trans (m5.mono qO)).set qO
  · rw [rnN,rnR,if_pos ⟨hok.1,hok.2,hord⟩,if_pos ⟨hok.1,hok.2,hord⟩]
    refine ⟨((m7.keep (fun j h1 h2=>by rw [Z0r,if_neg qO])).mono (by show rc<=rc+1; omega)).sl,fun hb=>?_⟩
    rcases m7.2.2 with ⟨_,h0⟩ | ⟨j,rfl,h0,_,_⟩
    · omega
    · rw [blkOf_sl]; omega

def edL:List Int:=[0,1,0,2,0,3,1,2,1,3,2,3]
theorem bld2 (a b:Int):Z3A [(.int .i64 0),(.int .i64 0)] [(0,1,.int .i64 a),(1,1,.int .i64 b)]=some (av [a,b]):=(rfl)
theorem ZlX (a0 a1 b0 b1:Int):Z0S P .eql 115 (av [a0,a1]) (av [b0,b1])=(cond (a0 == b0) (cond (a1 == b1) (some true) (some false)) (some false)).bind fun b=>some (.bool b):=by kernel_rfl
theorem Zdg (a0 a1 b0 b1:Int):Z00 P .eql 115 (av [a0,a1]) (av [b0,b1])=some (.bool (decide (a0=b0/\a1=b1))):=by
 rw [Z0G,ZlX]
 by_cases h0:a0=b0 <;> by_cases h1:a1=b1 <;> simp [h0,h1,Bool.cond_eq_ite]
theorem ZlZ (h:FH) (c:Nat) (df:List Nat):G (.fn 89) [] h c df=some ⟨.ret,[av edL],h,c,[]⟩:=by
 refine Z0u (fun r e=>f89_go e) (by simp) ?_
 unfold Zim
 have z1:Z3A [(.int .i64 0),(.int .i64 0),(.int .i64 0),(.int .i64 0),(.int .i64 0),(.int .i64 0),(.int .i64 0),(.int .i64 0),(.int .i64 0),(.int .i64 0),(.int .i64 0),(.int .i64 0)] [(0,2,av [0,1]),(2,2,av [0,2]),(4,2,av [0,3]),(6,2,av [1,2]),(8,2,av [1,3]),(10,2,av [2,3])]=some (av edL):=rfl
 have z2:∀ (H:FH) (b:Nat) (cs:List Value),cs.length=12->stN (newB H b cs) 12 (.pointer (some ⟨b,0,none⟩)) (av edL)=some (newB H b (ints edL)):=fun H b cs hc=>stN_all H b 12 cs edL rfl hc
 have z3:∀ (H:FH) (b:Nat),ldN (newB H b (ints edL)) 12 (.pointer (some ⟨b,0,none⟩))=some (av edL):=fun H b=>by rw [ldN_newB_same _ _ _ _ _ (by simp [edL])]; rfl
 have fx:=ai bld2 (ai z1 (ai z2 z3))
 refine Ans.go ?_
 clear fx
 (have fx:=True.intro; exact Ans.pu)
theorem Z8V (h:FH) (c:Nat):callF G 89 [] h c=some (av edL,h,c):=Z0b (ZlZ h c [])
def isEd (a b i j:Int):Bool:=decide (a=i/\b=j) || decide (a=j/\b=i)
theorem Znp (a b i j:Int) (p q:Nat) (h:FH) (c:Nat) (df:List Nat) (hp:p<256*c) (hq:q<256*c) (gp:Z07 h p [.int .i64 i]) (gq:Z07 h q [.int .i64 j]) :
 G (.fn 88) [av [a,b],ptrTo p,ptrTo q] h c df=some ⟨.ret,[.bool (isEd a b i j)],h,c,[]⟩:=by
 refine Z0u (fun r e=>f88_go e) (by simp) ?_
 unfold Zin isEd
 have f1:((av [a,b]).cells.toList.all Z0d)=true:=rfl
 have f2:(av [a,b]).cells.toList=ints [a,b]:=rfl
 rw [f2,show (ints [a,b]).all Z0d=true from rfl]
 simp only [cond_true]
 have z1:∀ (H:FH) (b':Nat),ldN (newB H b' (ints [a,b])) 2 (.pointer (some ⟨b',0,none⟩))=some (av [a,b]):=fun H b'=>by rw [ldN_newB_same _ _ _ _ _ (by simp)]; rfl
 have lp:ld1 (newB h (256*c) (ints [a,b])) (.pointer (some ⟨p,0,none⟩))=some (.int .i64 i):=by rw [ld1_newB_ne _ _ _ _ _ qO,Z03 gp]; rfl
 have lq:ld1 (newB h (256*c) (ints [a,b])) (.pointer (some ⟨q,0,none⟩))=some (.int .i64 j):=by rw [ld1_newB_ne _ _ _ _ _ qO,Z03 gq]; rfl
 by_cases h1:a=i/\b=j
 · have d1:decide (a=i/\b=j)=true:=decide_eq_true h1
   rw [d1]
   have e1:=Zdg a b i j
   rw [d1] at e1
   have fx:=ai z1 (ai lp (ai lq (ai bld2 e1)))
   refine Ans.go ?_
   clear fx
   exact Ans.pure rfl (by simp (disch:=omega))
 · have d1:decide (a=i/\b=j)=false:=decide_eq_false h1
   rw [d1]
   have e1:=Zdg a b i j
   have e2:=Zdg a b j i
   rw [d1] at e1
   rw [Bool.false_or]
   obtain ⟨d,hd⟩:∃ d,decide (a=j/\b=i)=d:=⟨_,rfl⟩
   rw [hd] at e2 ⊢
   have fx:=ai z1 (ai lp (ai lq (ai bld2 (ai e1 e2))))
   refine Ans.go ?_
   clear fx
   exact Ans.pure rfl (by simp (disch:=omega))
theorem OkV.fn2 {c p q:Nat} {g:FuncId} (hp:p<256*c) (hq:q<256*c):OkV c (.func (.func g) #[] #[ptrTo p,ptrTo q]):=by
 obtain ⟨y1,h1⟩:=OkV.ptrTo hp
 obtain ⟨y2,h2⟩:=OkV.ptrTo hq
 refine ⟨.func (.func g) #[] #[y1,y2],.fnc g rfl rfl (fun k x y h=>by simp at h) (fun k x y hx hy=>?_)⟩
 match k,hx,hy with
 | 0,hx,hy=>cases hx; cases hy; exact h1
 | 1,hx,hy=>cases hx; cases hy; exact h2
 | k+2,hx,hy=>simp at hx
theorem Zob (h:FH) (c p q:Nat) (v:Value):Z29 G h c (.func (.func 88) #[] #[ptrTo p,ptrTo q]) [v]=callF G 88 [v,ptrTo p,ptrTo q] h c:=by rfl
def edI (i j:Int):Nat->Nat->Int
 | 0,_=>-1
 | k+1,m=>if isEd (edL.getD (2*m) 0) (edL.getD (2*m+1) 0) i j then (m:Int) else edI i j k (m+1)
theorem Zo3 (i j:Int) (p q b:Nat) (h:FH) (c:Nat) (df:List Nat) (hp:p<256*c) (hq:q<256*c) (hb:b<256*c) (gp:Z07 h p [.int .i64 i]) (gq:Z07 h q [.int .i64 j]) (gb:Z07 h b (ints edL)) :
 ∀ (k m:Nat) (z:Value),m+k=6->OkV c z →
 Ans (G (Z9L none) [.slice (some ⟨b,0,none⟩) 6 6,.func (.func 88) #[] #[ptrTo p,ptrTo q],z,.int .i64 6,.int .i64 m] h c df) fun r=>r.h=h/\r.c=c/\r.df=df ∧
  ((r.e = .exit 0/\edI i j k m = -1) ∨ (r.e = .ret/\r.v 2 = .int .i64 (edI i j k m))):=by
 intro k
 have o1:OkV c (.slice (some ⟨b,0,none⟩) 6 6):=OkV.sl hb
 have o2:OkV c (.func (.func 88) #[] #[ptrTo p,ptrTo q]):=OkV.fn2 hp hq
 induction k with
 | zero =>
  intro m z hm hz
  obtain rfl:m=6:=by omega
  refine Ans.lpG rfl rfl (Z4A ..) ?_
  unfold Z41
  have fx:=True.intro
  refine Ans.go ?_
  clear fx
  (have fx:=ai o1 (ai o2 hz); refine Ans.ex0 ?_; clear fx)
  exact ⟨rfl,rfl,rfl,.inl ⟨rfl,rfl⟩⟩
 | succ k ih =>
  intro m z hm hz
  have l1:ldN h 2 (.pointer (some ⟨b,m*2,none⟩))=some (av [edL.getD (2*m) 0,edL.getD (2*m+1) 0]):=by
   rw [ldN_holds gb (by simp [edL]; omega)]
   have:m=0 ∨ m=1 ∨ m=2 ∨ m=3 ∨ m=4 ∨ m=5:=by omega
   rcases this with rfl | rfl | rfl | rfl | rfl | rfl <;> rfl
  rw [edI]
  obtain ⟨A,hA⟩:∃ A,edL.getD (2*m) 0=A:=⟨_,rfl⟩
  obtain ⟨B,hB⟩:∃ B,edL.getD (2*m+1) 0=B:=⟨_,rfl⟩
  rw [hA,hB] at l1 ⊢
  have c1:=fun c' (hc:c<=c')=>(Zob h c' p q (av [A,B])).trans (Z0b (Znp A B i j p q h c' [] qO qO gp gq))
  refine Ans.lpG rfl rfl (Z4A ..) ?_
  unfold Z41
  cases hq:isEd A B i j with
  | true =>
   rw [hq] at c1
   have fx:=ai l1 c1
   refine Ans.go ?_
   clear fx
   (have fx:=ai o1 (ai o2 hz); refine Ans.rt0 ?_; clear fx)
   exact ⟨rfl,rfl,rfl,.inr ⟨rfl,rfl⟩⟩
  | false =>
   rw [hq] at c1
   have fx:=ai l1 c1
   refine Ans.go ?_
   clear fx
   (have fx:=ai o1 (ai o2 hz); refine Ans.nx0 ?_; clear fx)
   exact ih (m+1) z qO hz
def edN (i j:Int):Int:=edI i j 6 0
theorem Z0R {i j:Int} (h1:0<=i) (h2:i<4) (h3:0<=j) (h4:j<4) (hne:i ≠ j):0<=edN i j/\edN i j<6:=by
 have:((List.range 4).all fun i=>(List.range 4).all fun j=>decide (i=j) || (decide (0<=edN (i:Nat) (j:Nat)) && decide (edN (i:Nat) (j:Nat)<6)))=true:=by decide
 rw [List.all_eq_true] at this
 have h5:=this i.toNat (by simp; omega)
 rw [List.all_eq_true] at h5
 have h6:=h5 j.toNat (by simp; omega)
 have e1:((i.toNat:Nat):Int)=i:=by omega
 have e2:((j.toNat:Nat):Int)=j:=by omega
 rw [e1,e2] at h6
 have h7:¬ i.toNat=j.toNat:=by omega
 simpa [h7] using h6
theorem Zdj (h:FH) (c:Nat):callF G 87 [] h c=some (.slice (some ⟨256*(c+1)+1,0,none⟩) 6 6,newB h (256*(c+1)+1) (ints edL),c+1+1+1):=by
 have z2:∀ (H:FH) (b:Nat) (cs:List Value),cs.length=12->stN (newB H b cs) 12 (.pointer (some ⟨b,0,none⟩)) (av edL)=some (newB H b (ints edL)):=fun H b cs hc=>stN_all H b 12 cs edL rfl hc
 have z3:slA 6 2 (.pointer (some ⟨256*(c+1)+1,0,none⟩)) none none none=some (.slice (some ⟨256*(c+1)+1,0,none⟩) 6 6):=rfl
 refine Z0b (df:=[]) (e:=.ret) (f87_go (Ans.eq ?_))
 unfold Zio
 have fx:=ai Z8V (ai z2 z3)
 refine Ans.go ?_
 clear fx
 exact .done rfl
theorem Zo2 (i j:Int) (h:FH) (c:Nat) (df:List Nat):G (.fn 73) [.int .i64 i,.int .i64 j] h c df=some ⟨.ret,[.int .i64 (edN i j)],h,c,[]⟩:=by
 refine Z0u (fun r e=>f73_go e) (by simp) ?_
 unfold Zix
 rw [show (Value.int .i64 i).cells.toList=[.int .i64 i] from rfl,show (Value.int .i64 j).cells.toList=[.int .i64 j] from rfl]
 rw [show ([Value.int .i64 i]).all Z0d=true from rfl,show ([Value.int .i64 j]).all Z0d=true from rfl]
 simp only [cond_true,Nat.add_zero]
 obtain ⟨H,hH⟩:∃ H,H=newB (newB h (256*c) [.int .i64 i]) (256*c+1) [.int .i64 j]:=⟨_,rfl⟩
 have sH:Z0E c h H:=by rw [hH]; simp (disch:=omega)
 have gp:Z07 H (256*c) [.int .i64 i]:=by rw [hH]; exact (Z07.newB_same _ _ _).newB_ne qO
 have gq:Z07 H (256*c+1) [.int .i64 j]:=by rw [hH]; exact Z07.newB_same _ _ _
 rw [← hH]
 clear hH
 have c1:=Zdj H (c+1+1)
 obtain ⟨K,hK⟩:∃ K,newB H (256*(c+1+1+1)+1) (ints edL)=K:=⟨_,rfl⟩
 have sK:Z0E c h K:=by rw [← hK]; exact sH.trans (by simp (disch:=omega))
 have gpK:Z07 K (256*c) [.int .i64 i]:=by rw [← hK]; exact gp.newB_ne qO
 have gqK:Z07 K (256*c+1) [.int .i64 j]:=by rw [← hK]; exact gq.newB_ne qO
 have gbK:Z07 K (256*(c+1+1+1)+1) (ints edL):=by rw [← hK]; exact Z07.newB_same _ _ _
 rw [hK] at c1
 clear hK
 obtain ⟨⟨re,rv,rh,rc,rd⟩,hr,r1,r2,r3,r4⟩:=Zo3 i j (256*c) (256*c+1) (256*(c+1+1+1)+1) K (c+1+1+1+1+1+1+1) [] qO qO qO gpK gqK gbK 6 0 (.int .i64 0) qO (by simp)
 simp only at r1 r2 r3 r4
 subst r1 r2 r3
 simp only [Int.ofNat_eq_natCast,Int.cast_ofNat_Int] at hr
 have c2:callF G 86 [.slice (some ⟨256*(c+1+1+1)+1,0,none⟩) 6 6,.func (.func 88) #[] #[ptrTo (256*c),ptrTo (256*c+1)]] rh (c+1+1+1+1+1)=some (.int .i64 (edN i j),rh,c+1+1+1+1+1):=by
  refine Z0b (Z0u (fun r e=>f86_go e) (by simp) ?_)
  unfold Zip
  rcases r4 with ⟨rfl,r5⟩ | ⟨rfl,r5⟩
  · have fx:=hr
    refine Ans.go ?_
    clear fx
    exact Ans.pure (by rw [edN,r5]) (by simp)
  · have fx:=hr
    refine Ans.go ?_
    clear fx
    exact Ans.pure r5 (by simp)
 have fx:=ai c1 c2
 refine Ans.go ?_
 clear fx
 exact Ans.pure rfl sK
theorem Zab (i j:Int) (h:FH) (c:Nat):callF G 73 [.int .i64 i,.int .i64 j] h c=some (.int .i64 (edN i j),h,c):=Z0b (Zo2 i j h c [])
end Go.Proofs.Ytcnndelmnobigaa

namespace Go.Ab
open Go
def Z7O (L:List Int) (m:Nat):Prop:=L.length=m /\ ∀ k,k<m->0<=L.getD k 0/\L.getD k 0<=k
def Z6d (L:List Int):Nat->Nat->Nat
 | 0,i=>i
 | k+1,i=>if L.getD i 0=i then i else Z6d L k (L.getD i 0).toNat
def Z0a (L:List Int) (i:Nat):Nat:=Z6d L (i+1) i
theorem Z9x {L:List Int} {m:Nat} (hd:Z7O L m):∀ {k k' i:Nat},i<m->i<k->i<k'->Z6d L k i=Z6d L k' i
 | 0,_,i,_,h,_=>by omega
 | k+1,0,i,_,_,h=>by omega
 | k+1,k'+1,i,hi,h1,h2=>by
  rw [Z6d,Z6d]
  by_cases e:L.getD i 0=i
  · rw [if_pos e,if_pos e]
  · rw [if_neg e,if_neg e]
    have:=hd.2 i hi
    exact Z9x hd qO qO qO
theorem Z1F {L:List Int} {i:Nat} (e:L.getD i 0=i):Z0a L i=i:=by rw [Z0a,Z6d,if_pos e]
theorem Z5n {L:List Int} {m i:Nat} (hd:Z7O L m) (hi:i<m) (e:¬ L.getD i 0=i):Z0a L i=Z0a L (L.getD i 0).toNat:=by
 have:=hd.2 i hi
 rw [Z0a,Z6d,if_neg e,Z0a]
 exact Z9x hd qO qO qO
theorem ZdN {L:List Int} {m:Nat} (hd:Z7O L m):∀ {k i:Nat},i<m->Z6d L k i<=i
 | 0,i,_=>by rw [Z6d]; omega
 | k+1,i,hi=>by
  rw [Z6d]
  split
  · omega
  · have:=hd.2 i hi
    have:=ZdN hd (k:=k) (i:=(L.getD i 0).toNat) qO
    omega
theorem Z1p {L:List Int} {m i:Nat} (hd:Z7O L m) (hi:i<m):Z0a L i<=i:=ZdN hd hi
def Z3C (L:List Int) (i j:Nat):List Int:=L.set (max (Z0a L i) (Z0a L j)) (min (Z0a L i) (Z0a L j):Nat)
theorem Z2h (l:List Int) (i j:Nat) (x:Int):(l.set i x).getD j 0=if i=j/\i<l.length then x else l.getD j 0:=by
 simp only [List.getD_eq_getElem?_getD,List.getElem?_set]
 by_cases h:i=j
 · subst h
   by_cases h2:i<l.length
   · simp [h2]
   · simp [h2]
 · simp [h]
theorem Z7O.set {L:List Int} {m i:Nat} {x:Nat} (hd:Z7O L m) (hi:i<m) (hx:x<=i):Z7O (L.set i x) m:=by
 refine ⟨by simp [hd.1],fun k hk=>?_⟩
 have hl:=hd.1
 rw [Z2h]
 split
 · rename_i h; obtain ⟨rfl,_⟩:=h; omega
 · exact hd.2 k hk
theorem Z2C {L:List Int} {m i j:Nat} (hd:Z7O L m) (hi:i<m) (hj:j<m):Z7O (Z3C L i j) m:=by
 have h1:=Z1p hd hi
 have h2:=Z1p hd hj
 exact hd.set qO qO
def Z0p (m:Nat):List Int:=(List.range m).map fun k:Nat=>(k:Int)
theorem Z8c {m k:Nat} (h:k<m):(Z0p m).getD k 0=k:=by
 simp [Z0p,List.getD_eq_getElem?_getD,h]
theorem Z15 (m:Nat):Z7O (Z0p m) m:=by
 refine ⟨by simp [Z0p],fun k hk=>?_⟩
 rw [Z8c hk]
 omega
def Z0U (L:List Int) (m:Nat):List Int:=((List.range m).filter fun k=>decide (Z0a L k=k)).map fun k:Nat=>(k:Int)
theorem ZbP (L:List Int) (i:Nat):Z0U L (i+1)=Z0U L i++(if Z0a L i=i then [(i:Int)] else []):=by
 unfold Z0U
 rw [List.range_succ,List.filter_append,List.map_append]
 congr 1
 by_cases h:Z0a L i=i <;> simp [h]
theorem Z3z (L:List Int) (m:Nat):(Z0U L m).length<=m:=by
 unfold Z0U
 rw [List.length_map]
 exact Nat.le_trans (List.length_filter_le _ _) (by simp)
theorem Zcx {L:List Int} {m:Nat} {x:Int} (h:x ∈ Z0U L m):∃ k:Nat,x=k/\k<m/\Z0a L k=k:=by
 unfold Z0U at h
 rw [List.mem_map] at h
 obtain ⟨k,h1,rfl⟩:=h
 rw [List.mem_filter] at h1
 exact ⟨k,rfl,by simpa using h1.1,by simpa using h1.2⟩
theorem Z67.sl {c0:Nat} {h:FH} {c:Nat} {v:Value} {n:Nat} {L:List Int} (ha:Z67 c0 h c v n (ints L)):SlI h c v 1 n L:=by
 obtain ⟨h1,h2,h3,i,op,rfl,h5,h6,h7,h8⟩:=ha
 have hl:L.length=n:=by simpa using h1
 refine ⟨by omega,h2,some ⟨i,0,none⟩,n,rfl,.inr ⟨i,0,ints L,rfl,h6,⟨false,op,h7⟩, ?_⟩⟩
 rw [List.drop_zero,List.take_of_length_le (by simp [hl])]
end Go.Ab

namespace Go.Proofs.Ytcnndelmnobigaa
open Go Go.Ab Go.Proofs
theorem ZjT (k:IntKind) (a b:Int):Z3X max2 [.int k a,.int k b]=some (.int k (if a<b then b else a)):=by
 simp [Z3X,max2]
theorem ZjR (k:IntKind) (a b:Int):Z3X min2 [.int k a,.int k b]=some (.int k (if b<a then b else a)):=by
 simp [Z3X,min2]
structure Uf (h:FH) (p b m:Nat) (L:List Int):Prop where
 st:h.f p=some (.cells false none [.slice (some ⟨b,0,none⟩) m m])
 up:h.f b=some (.cells false none (ints L))
 ne:p ≠ b
 dn:Z7O L m
 le:m<=1000000
theorem Uf.keep {h h':FH} {p b m:Nat} {L:List Int} (u:Uf h p b m L) (h1:h'.f p=h.f p) (h2:h'.f b=h.f b):Uf h' p b m L:=⟨h1.trans u.st,h2.trans u.up,u.ne,u.dn,u.le⟩
theorem Uf.same {h h':FH} {p b m c:Nat} {L:List Int} (u:Uf h p b m L) (hs:Z0E c h h') (hp:p<256*c) (hb:b<256*c):Uf h' p b m L:=u.keep (hs p hp) (hs b hb)
theorem Uf.ld {h:FH} {p b m:Nat} {L:List Int} (u:Uf h p b m L):ld1 h (.pointer (some ⟨p,0,none⟩))=some (.slice (some ⟨b,0,none⟩) m m):=by
 rw [Z03 ⟨false,none,u.st⟩]; rfl
theorem Uf.rd {h:FH} {p b m:Nat} {L:List Int} (u:Uf h p b m L) {i:Nat} (hi:i<m):ld1 h (.pointer (some ⟨b,i,none⟩))=some (.int .i64 (L.getD i 0)):=by
 have:=u.dn.1
 rw [Z03 ⟨false,none,u.up⟩,ints_getD _ _ qO]
theorem ZdH {h:FH} {b:Nat} {w v:Value} (hg:h.f b=some (.cells false none [w])) (hf:Z0d v=true):stN h 1 (.pointer (some ⟨b,0,none⟩)) (.agg #[v])=some (newB h b [v]):=by
 have hg':HeapC.get h b=some (.cells false none [w]):=hg
 simp [stN,Z2c,Value.cells,Z1U,hg',hf,Z0Y]
 rfl
theorem Zii (h0:FH) (p b m c:Nat) (v2:Value) (df:List Nat) (hv:OkV c v2) (hp:p<256*c) (hb:b<256*c) (hne:p ≠ b) (hm:m<=1000000) (h1:h0.f p=some (.cells false none [.slice (some ⟨b,0,none⟩) m m])) :
 ∀ (k i:Nat) (X:List Int),i+k=m->X.length=m->(∀ j,j<i->X.getD j 0=j) →
 Ans (G (Z9P none) [v2,ptrTo p,.int .i64 m,.int .i64 i] (newB h0 b (ints X)) c df) fun r=>r=⟨.exit 0,[v2,ptrTo p,.int .i64 m,.int .i64 m],newB h0 b (ints (Z0p m)),c,df⟩:=by
 intro k
 induction k with
 | zero =>
  intro i X hi hX hf
  obtain rfl:i=m:=by omega
  have e:X=Z0p i:=by
   refine List.ext_getElem (by rw [hX]; simp [Z0p]) fun j h1 h2=>?_
   have:=hf j qO
   rw [List.getD_eq_getElem?_getD,List.getElem?_eq_getElem h1] at this
   simp only [Option.getD_some] at this
   rw [this]; simp [Z0p]
  rw [e]
  refine Ans.lpG rfl rfl (Z4G ..) ?_
  unfold Z47
  have fx:=True.intro
  refine Ans.go ?_
  clear fx
  (have fx:=hv; refine Ans.ex0 ?_; clear fx)
  rfl
 | succ k ih =>
  intro i X hi hX hf
  have ll:ld1 (newB h0 b (ints X)) (.pointer (some ⟨p,0,none⟩))=some (.slice (some ⟨b,0,none⟩) m m):=by
   rw [ld1_newB_ne _ _ _ _ _ hne,Z03 ⟨false,none,h1⟩]; rfl
  have hs:stN (newB h0 b (ints X)) 1 (.pointer (some ⟨b,i,none⟩)) (.int .i64 i)=some (newB h0 b (ints (X.set i i))):=by
   rw [st1_int _ _ _ _ _ _ (by simp; omega),Z2r]
  refine Ans.lpG rfl rfl (Z4G ..) ?_
  unfold Z47
  have fx:=ai ll hs
  refine Ans.go ?_
  clear fx
  (have fx:=ai hv (ai hp hb); refine Ans.nxB (B:=newB h0 b (ints (X.set i i))) ?_ ?_; exact (Z3I.both (Z1D.ints _ _) (Z3I.refl _ _) hb); clear fx)
  refine ih (i+1) (X.set i i) qO (by simp [hX]) (fun j hj=>?_)
  rw [Z2h]
  by_cases e:i=j
  · rw [if_pos ⟨e,by omega⟩,e]
  · rw [if_neg (fun q=>e q.1)]; exact hf j qO
theorem Z8s (m:Nat) (h:FH) (c:Nat) (df:List Nat) (hm:m<=1000000) :
 Ans (G (.fn 71) [.int .i64 m] h c df) fun r=>r=⟨.ret,[.agg #[.slice (some ⟨256*(c+1)+1,0,none⟩) m m]],r.h,c+1+1+1+1,[]⟩/\Z0E c h r.h/\r.h.f (256*(c+1)+1)=some (.cells false none (ints (Z0p m))):=by
 refine Ans.call' (fun r e=>f71_go e) ?_
 unfold Ziy
 have mk:=Zcw 1 8 .i64 .i64 m qO qO
 obtain ⟨B,hB⟩:∃ B,256*(c+1)+1=B:=⟨_,rfl⟩
 obtain ⟨Q,hQ⟩:∃ Q,256*(c+1)+3=Q:=⟨_,rfl⟩
 rw [hB,hQ]
 have hbl:Z3A [(.slice none 0 0)] [(0,1,(.slice (some ⟨B,0,none⟩) m m))]=some (.agg #[.slice (some ⟨B,0,none⟩) m m]):=rfl
 have st1:stN (newB (newB (newB h (256*c) [(.slice none 0 0)]) B (ints (List.replicate m 0))) Q [(.slice none 0 0)]) 1 (.pointer (some ⟨Q,0,none⟩)) (.agg #[.slice (some ⟨B,0,none⟩) m m])=some (newB (newB (newB h (256*c) [(.slice none 0 0)]) B (ints (List.replicate m 0))) Q [.slice (some ⟨B,0,none⟩) m m]):=by
  rw [ZdH (w:=.slice none 0 0) (by rw [Z06,if_pos rfl]) rfl,newB_newB]
 obtain ⟨h0,hh0⟩:∃ h0,h0=newB (newB h (256*c) [(.slice none 0 0)]) Q [.slice (some ⟨B,0,none⟩) m m]:=⟨_,rfl⟩
 have ec:newB (newB (newB h (256*c) [(.slice none 0 0)]) B (ints (List.replicate m 0))) Q [.slice (some ⟨B,0,none⟩) m m]=newB h0 B (ints (List.replicate m 0)):=by
  rw [hh0]
  apply FH.ext; intro j
  simp only [Z06]
  by_cases e1:j=Q <;> by_cases e2:j=B <;> simp [e1,e2] <;> omega
 rw [ec] at st1
 have hq:h0.f Q=some (.cells false none [.slice (some ⟨B,0,none⟩) m m]):=by rw [hh0,Z06,if_pos rfl]
 have hc':h0.f (256*c)=some (.cells false none [.slice none 0 0]):=by rw [hh0,Z06,if_neg qO,Z06,if_pos rfl]
 have hl:=fun v2 hv=>Ans.eq (Zii h0 Q B m (c+1+1+1) v2 [] hv qO qO qO hm hq m 0 (List.replicate m 0) qO (by simp) (fun j hj=>by omega))
 have hl:=hl (ptrTo (256*c)) (OkV.ptrTo qO)
 simp only [Int.ofNat_eq_natCast,Int.cast_ofNat_Int] at hl
 have ll:∀ X,ld1 (newB h0 B X) (.pointer (some ⟨Q,0,none⟩))=some (.slice (some ⟨B,0,none⟩) m m):=fun X=>by rw [ld1_newB_ne _ _ _ _ _ qO,Z03 ⟨false,none,hq⟩]; rfl
 have lN:∀ X,ldN (newB h0 B X) 1 (.pointer (some ⟨Q,0,none⟩))=some (.agg #[.slice (some ⟨B,0,none⟩) m m]):=fun X=>by rw [ldN_newB_ne _ _ _ _ _ _ qO,Z0F ⟨false,none,hq⟩]
 have hfin:=ZdH (h:=newB h0 B (ints (Z0p m))) (b:=256*c) (w:=.slice none 0 0) (v:=.slice (some ⟨B,0,none⟩) m m) (by rw [Z06,if_neg qO,hc']) rfl
 obtain ⟨K,hK⟩:∃ K,newB (newB h0 B (ints (Z0p m))) (256*c) [.slice (some ⟨B,0,none⟩) m m]=K:=⟨_,rfl⟩
 rw [hK] at hfin
 have lK:ldN K 1 (.pointer (some ⟨256*c,0,none⟩))=some (.agg #[.slice (some ⟨B,0,none⟩) m m]):=Z0F ⟨false,none,by show K.f _=_; rw [← hK,Z06,if_pos rfl]⟩
 repeat' (first | ((with_reducible first | refine Ans.bz ?_ | refine Ans.r1 ?_ | refine Ans.pkT ?_ | refine Ans.pkF ?_); try dsimp only [v_zero,v_succ]) | (with_reducible first | refine Ans.btL ?_ | refine Ans.bfL ?_ | refine Ans.gyT ?_ | refine Ans.gyF ?_ | refine Ans.gyG ?_ | refine Ans.bb ?_ | refine Ans.bc ?_ | refine Ans.ba ?_) | ((with_reducible first | refine Ans.lsT ?_ ?_ | refine Ans.leT ?_ ?_ | refine Ans.grT ?_ ?_ | refine Ans.geT ?_ ?_ | refine Ans.eqT ?_ ?_ | refine Ans.neT ?_ ?_); (focus omega)) | ((with_reducible first | refine Ans.lsF ?_ ?_ | refine Ans.leF ?_ ?_ | refine Ans.grF ?_ ?_ | refine Ans.geF ?_ ?_ | refine Ans.eqF ?_ ?_ | refine Ans.neF ?_ ?_); (focus omega)) | (with_reducible first | refine Ans.lsS (fun _=>?_) (fun _=>?_) | refine Ans.leS (fun _=>?_) (fun _=>?_) | refine Ans.grS (fun _=>?_) (fun _=>?_) | refine Ans.geS (fun _=>?_) (fun _=>?_) | refine Ans.eqS (fun _=>?_) (fun _=>?_) | refine Ans.neS (fun _=>?_) (fun _=>?_)) | ((with_reducible first | refine Ans.addN ?_ ?_ | refine Ans.add ?_ ?_ | refine Ans.sub ?_ ?_ | refine Ans.mul ?_ ?_); (focus omega)) | ((with_reducible first | refine Ans.ct ?_ ?_); (focus (simp (disch:=(first | omega | with_reducible assumption | (simp <;> omega) | fail)) [mk,hbl,st1,ll,lN,hl,hfin,lK,-ldN_newB_same]; done))) | ((with_reducible first | refine Ans.cf ?_ ?_); (focus (simp (disch:=(first | omega | with_reducible assumption | (simp <;> omega) | fail)) [mk,hbl,st1,ll,lN,hl,hfin,lK,-ldN_newB_same]; done))) | (refine Ans.step (by simp (disch:=(first | omega | with_reducible assumption | (simp <;> omega) | fail)) [mk,hbl,st1,ll,lN,hl,hfin,lK,-ldN_newB_same,-List.getD_eq_getElem?_getD] <;> rfl) ?_; try dsimp only [v_zero,v_succ]) | fail)
 refine .done ⟨rfl, ?_, ?_⟩
 · intro b hb
   show K.f b=_
   rw [← hK,Z06,if_neg qO,Z06,if_neg qO,hh0,Z06,if_neg qO,Z06,if_neg qO]
 · show K.f B=_
   rw [← hK,Z06,if_neg qO,Z06,if_pos rfl]
theorem ZhE (h:FH) (p b m c:Nat) (L:List Int) (u:Uf h p b m L) (hp:p<256*c) (df:List Nat):∀ (k i:Nat),i<k->i<m →
 Ans (G (Z9V none) [ptrTo p,.int .i64 i] h c df) fun r=>r=⟨.exit 0,[ptrTo p,.int .i64 (Z0a L i)],h,c,df⟩:=by
 intro k
 induction k with
 | zero=>intro i h1; omega
 | succ k ih =>
  intro i h1 hi
  have l1:=u.ld
  have l2:=u.rd hi
  have d:=u.dn.2 i hi
  refine Ans.lpG rfl rfl (Z6s ..) ?_
  unfold Z5t
  by_cases e:L.getD i 0=i
  · rw [Z1F e]
    rw [e] at l2
    have fx:=ai l1 l2
    refine Ans.go ?_
    clear fx
    (have fx:=hp; refine Ans.ex0 ?_; clear fx)
    rfl
  · rw [Z5n u.dn hi e]
    obtain ⟨x,hx⟩:∃ x:Nat,L.getD i 0=x:=⟨(L.getD i 0).toNat,by omega⟩
    rw [hx] at l2 d e ⊢
    rw [Int.toNat_natCast]
    have fx:=ai l1 l2
    refine Ans.go ?_
    clear fx
    (have fx:=hp; refine Ans.nx0 ?_; clear fx)
    exact ih x qO qO
theorem Zch (h:FH) (p b m c:Nat) (L:List Int) (u:Uf h p b m L) (hp:p<256*c) (i:Nat) (hi:i<m) (df:List Nat):G (.fn 46) [ptrTo p,.int .i64 i] h c df=some ⟨.ret,[.int .i64 (Z0a L i)],h,c,[]⟩:=by
 refine Z0u (fun r e=>f46_go e) (by simp) ?_
 unfold ZiK
 have hr:=Ans.eq (ZhE h p b m (c+1) L u qO [] (i+1) i qO hi)
 have fx:=hr
 refine Ans.go ?_
 clear fx
 (have fx:=True.intro; exact Ans.pu)
theorem Zi7 (h:FH) (p b m c:Nat) (L:List Int) (u:Uf h p b m L) (hp:p<256*c) (hb:b<256*c) (i j:Nat) (hi:i<m) (hj:j<m) (df:List Nat) :
 G (.fn 72) [ptrTo p,.int .i64 i,.int .i64 j] h c df=some ⟨.ret,[.tuple #[]],newB h b (ints (Z3C L i j)),c,[]⟩:=by
 have c1:=fun c' (hc:c<=c')=>Z0b (Zch h p b m c' L u qO i hi [])
 have c2:=fun c' (hc:c<=c')=>Z0b (Zch h p b m c' L u qO j hj [])
 have r1:=Z1p u.dn hi
 have r2:=Z1p u.dn hj
 have l1:=u.ld
 have e1:(if ((Z0a L i:Nat):Int)<(Z0a L j:Nat) then ((Z0a L j:Nat):Int) else (Z0a L i:Nat))=((max (Z0a L i) (Z0a L j):Nat):Int):=by split <;> omega
 have e2:(if ((Z0a L j:Nat):Int)<(Z0a L i:Nat) then ((Z0a L j:Nat):Int) else (Z0a L i:Nat))=((min (Z0a L i) (Z0a L j):Nat):Int):=by split <;> omega
 have m1:=ZjT .i64 (Z0a L i) (Z0a L j)
 have m2:=ZjR .i64 (Z0a L i) (Z0a L j)
 rw [e1] at m1
 rw [e2] at m2
 clear e1 e2
 have hl:=u.dn.1
 have hw:stN h 1 (.pointer (some ⟨b,max (Z0a L i) (Z0a L j),none⟩)) (.int .i64 (min (Z0a L i) (Z0a L j):Nat))=some (newB h b (ints (Z3C L i j))):=by
  rw [Z1z (show HeapC.get h b=_ from u.up) (by simp; omega) rfl rfl,Z2r]; rfl
 obtain ⟨M,hM⟩:∃ M,max (Z0a L i) (Z0a L j)=M:=⟨_,rfl⟩
 obtain ⟨N,hN⟩:∃ N,min (Z0a L i) (Z0a L j)=N:=⟨_,rfl⟩
 rw [hM] at m1 hw
 rw [hN] at m2 hw
 have hS:Zgm G (ptrTo p) (.int .i64 i) (.int .i64 j) h c=some ⟨.ret,[.tuple #[]],newB h b (ints (Z3C L i j)),c+1+1,[]⟩:=by
  refine Ans.eq ?_
  unfold Zgm
  have fx:=ai c1 (ai c2 (ai l1 (ai m1 (ai m2 hw))))
  refine Ans.go ?_
  clear fx
  exact .done rfl
 rw [f72_go hS,ZeM (B:=newB h b (ints (Z3C L i j))) ?_ ?_ ?_]
 · exact Z1D.cons ⟨.tuple #[],.tuple rfl (fun k x y h=>by simp at h)⟩ (Z1D.nil c)
 · exact fun _ _=>rfl
 · exact Z3I.old hb (Z1D.ints _ _) (Z3I.refl _ _)

theorem ZcC (c0 p b m:Nat) (L:List Int) (hp:p<256*c0) (hb:b<256*c0) (df:List Nat):∀ (k i c:Nat) (h:FH) (v:Value),i+k=m->c0<=c->Uf h p b m L->Z93 c0 h c v 1 (Z0U L i).length (Z0U L i) →
 Ans (G (Z9W none) [ptrTo p,v,.int .i64 m,.int .i64 i] h c df) fun r=>r.e = .exit 0/\r.v 0=ptrTo p/\Z93 c0 r.h r.c (r.v 1) 1 (Z0U L m).length (Z0U L m)/\c<=r.c/\r.df=df/\Z0E c0 h r.h:=by
 intro k
 induction k with
 | zero =>
  intro i c h v hi hc u ha
  obtain rfl:i=m:=by omega
  refine Ans.lpN rfl rfl (Z4M ..) ?_
  unfold Z4f
  have fx:=True.intro
  refine Ans.go ?_
  clear fx
  refine Ans.exitN ⟨rfl,rfl, ?_,(by show c<=c+1; omega),rfl,fun _ _=>rfl⟩
  exact ha.mono (by show c<=c+1; omega)
 | succ k ih =>
  intro i c h v hi hc u ha
  have c1:=fun c' (hc:c<=c')=>Z0b (Zch h p b m c' L u qO i qO [])
  have hfl:=Z3z L i
  have hle:=u.le
  have hsu:=ZbP L i
  refine Ans.lpN rfl rfl (Z4M ..) ?_
  unfold Z4f
  by_cases e:Z0a L i=i
  · rw [if_pos e] at hsu
    rw [e] at c1
    have hb1:Z4Y [.int .i64 0] [(0,1,.int .i64 i)]=some (ints [(i:Int)]):=rfl
    obtain ⟨v',h',e1,e2,e3,e4⟩:=(ha.mono (c':=c+1+1+1) qO).app (c':=c+1+1+1+1) [(i:Int)] rfl qO 8 (256*(c+1+1+1)+2) (256*(c+1+1+1)+3) qO qO qO qO qO qO
    have fx:=ai c1 (ai hb1 e1)
    refine Ans.go ?_
    clear fx
    refine Ans.nextN ?_
    have u':Uf h' p b m L:=u.same e3 hp hb
    refine (ih (i+1) _ h' v' qO qO u' ?_).mono ?_
    · rw [hsu,List.length_append]
      exact e2.mono qO
    · rintro r ⟨q1,q2,q3,q4,q5,q6⟩
      exact ⟨q1,q2,q3,by omega,q5,e3.trans q6⟩
  · rw [if_neg e,List.append_nil] at hsu
    have e':¬ ((Z0a L i:Nat):Int)=i:=by omega
    have fx:=c1
    refine Ans.go ?_
    clear fx
    refine Ans.nextN ?_
    refine (ih (i+1) _ h v qO qO u (by rw [hsu]; exact ha.mono qO)).mono ?_
    rintro r ⟨q1,q2,q3,q4,q5,q6⟩
    exact ⟨q1,q2,q3,by omega,q5,q6⟩
theorem Zih (p b m:Nat) (L:List Int) (h:FH) (c:Nat) (df:List Nat) (u:Uf h p b m L) (hp:p<256*c) (hb:b<256*c) :
 Ans (G (.fn 45) [ptrTo p] h c df) fun r=>∃ v,r=⟨.ret,[v],r.h,r.c,[]⟩/\c<=r.c/\Z0E c h r.h/\Z93 c r.h r.c v 1 (Z0U L m).length (Z0U L m):=by
 refine Ans.call' (fun r e=>f45_go e) ?_
 unfold ZiL
 have l1:=u.ld
 obtain ⟨⟨re,rv,rh,rc,rd⟩,hr,r1,r2,r3,r4,r5,r6⟩:=ZcC c p b m L hp hb [] m 0 (c+1+1+1) h (.slice none 0 0) qO qO u (Z93.nil _ _ _ _)
 simp only [Int.ofNat_eq_natCast,Int.cast_ofNat_Int] at hr
 simp only at r1 r4 r5 r6
 subst r1 r5
 have fx:=ai l1 hr
 refine Ans.go ?_
 clear fx
 refine .done ⟨_,rfl,(by show c<=rc+1; omega),r6,Z93.mono (c:=rc) (by show rc<=rc+1; omega) r3⟩

def eIn (p:List Int) (t f i:Nat) (u:Int):Nat->Nat->List Int->List Int
 | 0,_,L=>L
 | r+1,k,L=>eIn p t f i u r (k+1) (if k=f ∨ k=i then L else Z3C L (6*(t:Int)+edN i k).toNat (6*u+edN (p.getD i 0) (p.getD k 0)).toNat)
theorem Zfy {p:List Int} (hp:p ∈ p24) {t f i n:Nat} {u:Int} (ht:t<n) (hi:i<4) (hu:0<=u) (hun:u<n):∀ {r k:Nat} {L:List Int},k+r=4->Z7O L (6*n)->Z7O (eIn p t f i u r k L) (6*n)
 | 0,_,_,_,h=>h
 | r+1,k,L,hk,h=>by
  rw [eIn]
  refine Zfy hp ht hi hu hun qO ?_
  split
  · exact h
  · rename_i hne
    have hne':i ≠ k:=fun e=>hne (.inr e.symm)
    have a1:=Z0R (i:=(i:Int)) (j:=(k:Int)) qO qO qO qO qO
    have b1:=Z0C hp hi
    have b2:=Z0C hp (i:=k) qO
    have a2:=Z0R b1.1 b1.2 b2.1 b2.2 (Znk hp hi qO hne')
    exact Z2C h qO qO
def Zn1 (L M:List Int):List Int:=Z3C L (4*M.getD 0 0+M.getD 2 0).toNat (4*M.getD 3 0+M.getD 5 0).toNat
def ZiX (Gl:List Int) (L M:List Int):List Int:=eIn (Z0c (Z01 Gl (M.getD 0 0).toNat (M.getD 1 0).toNat)) (M.getD 0 0).toNat (M.getD 1 0).toNat (M.getD 2 0).toNat (M.getD 3 0) 4 0 L
def vCl (n:Nat) (D:List (List Int)):List Int:=D.foldl Zn1 (Z0p (4*n))
def eCl (Gl:List Int) (n:Nat) (D:List (List Int)):List Int:=D.foldl (ZiX Gl) (Z0p (6*n))
theorem Zjn (n:Nat) (D:List (List Int)) (M:List Int):vCl n (D++[M])=Zn1 (vCl n D) M:=by simp [vCl]
theorem Zm0 (Gl:List Int) (n:Nat) (D:List (List Int)) (M:List Int):eCl Gl n (D++[M])=ZiX Gl (eCl Gl n D) M:=by simp [eCl]
theorem ZhV {h:FH} {b:Nat} {cs:List Value} (e:h.f b=some (.cells false none cs)):newB h b cs=h:=by
 apply FH.ext; intro j
 rw [Z06]
 split
 · rename_i hj; rw [hj,e]
 · rfl
theorem Z6L (x:Option Nat) (H:FH):Z1o x H H=true:=Zau fun i _=>rfl
theorem ZgV (h0:FH) (eb sb ub mb pb n c l:Nat) (p M:List Int) (t f i:Nat) (u:Int) (df:List Nat) (hn:n<=60) (hp:p ∈ p24) (ht:t<n) (hf:f<4) (hi:i<4) (hu:0<=u) (hun:u<n)
 (he:eb<256*c) (hs:sb<256*c) (hub:ub<256*c) (hm:mb<256*c) (hpb:pb<256*c) (n1:eb ≠ ub) (n2:sb ≠ ub) (n3:mb ≠ ub) (n4:pb ≠ ub)
 (ge:Z07 h0 eb [ptrTo sb]) (gs:h0.f sb=some (.cells false none [.slice (some ⟨ub,0,none⟩) (6*n) (6*n)])) (gm:Z07 h0 mb (ints M)) (gp:Z07 h0 pb (ints p)) (hM:M.length=6) (m0:M.getD 0 0=t) (m1:M.getD 1 0=f) (m2:M.getD 2 0=i) (m3:M.getD 3 0=u) :
 ∀ (r k:Nat) (L:List Int),k+r=4->Z7O L (6*n) →
 Ans (G (Z9X (some l)) [ptrTo eb,ptrTo mb,ptrTo pb,.int .i64 k] (newB h0 ub (ints L)) c df) fun q=>q=⟨.exit 2,[ptrTo eb,ptrTo mb,ptrTo pb,.int .i64 4],newB h0 ub (ints (eIn p t f i u r k L)),c,df⟩:=by
 intro r
 induction r with
 | zero =>
  intro k L hk hd
  obtain rfl:k=4:=by omega
  refine Ans.lpG rfl rfl (Z1Q ..) ?_
  unfold Z23
  have fx:=True.intro
  refine Ans.go ?_
  clear fx
  (have fx:=ai he (ai hm hpb); refine Ans.ex0 ?_; clear fx)
  rfl
 | succ r ih =>
  intro k L hk hd
  obtain ⟨H,hH⟩:∃ H,newB h0 ub (ints L)=H:=⟨_,rfl⟩
  have gm':Z07 H mb (ints M):=by rw [← hH]; exact gm.newB_ne n3
  have gp':Z07 H pb (ints p):=by rw [← hH]; exact gp.newB_ne n4
  have hl:=Z5Z hp
  have q1:ld1 H (.pointer (some ⟨mb,1,none⟩))=some (.int .i64 f):=by rw [Z03 gm',ints_getD _ _ qO,m1]
  have q2:ld1 H (.pointer (some ⟨mb,2,none⟩))=some (.int .i64 i):=by rw [Z03 gm',ints_getD _ _ qO,m2]
  have hkf:(k:Int)<4:=by omega
  rw [eIn]
  by_cases h1:k=f
  · subst h1
    rw [if_pos (.inl rfl)]
    rw [hH]
    refine Ans.lpG rfl rfl (Z1Q ..) ?_
    unfold Z23
    have fx:=ai q1 q2
    refine Ans.go ?_
    clear fx
    (have fx:=ai he (ai hm hpb); refine Ans.nx0 ?_; clear fx)
    rw [← hH]
    exact ih (k+1) L qO hd
  by_cases h2:k=i
  · subst h2
    rw [if_pos (.inr rfl)]
    rw [hH]
    have h1':¬ ((k:Int)=f):=by omega
    refine Ans.lpG rfl rfl (Z1Q ..) ?_
    unfold Z23
    have fx:=ai q1 q2
    refine Ans.go ?_
    clear fx
    (have fx:=ai he (ai hm hpb); refine Ans.nx0 ?_; clear fx)
    rw [← hH]
    exact ih (k+1) L qO hd
  · rw [if_neg (by rintro (h | h); exact h1 h; exact h2 h)]
    have h1':¬ ((k:Int)=f):=by omega
    have h2':¬ ((k:Int)=i):=by omega
    have q0:ld1 H (.pointer (some ⟨mb,0,none⟩))=some (.int .i64 t):=by rw [Z03 gm',ints_getD _ _ qO,m0]
    have q3:ld1 H (.pointer (some ⟨mb,3,none⟩))=some (.int .i64 u):=by rw [Z03 gm',ints_getD _ _ qO,m3]
    have qe:ld1 H (.pointer (some ⟨eb,0,none⟩))=some (ptrTo sb):=by rw [← hH,ld1_newB_ne _ _ _ _ _ n1,Z03 ge]; rfl
    have b1:=Z0C hp hi
    have b2:=Z0C hp (i:=k) qO
    have b3:=Znk hp hi (j:=k) qO (fun e=>h2 e.symm)
    have p1:ld1 H (.pointer (some ⟨pb,i,none⟩))=some (.int .i64 (p.getD i 0)):=by rw [Z03 gp',ints_getD _ _ qO]
    have p2:ld1 H (.pointer (some ⟨pb,k,none⟩))=some (.int .i64 (p.getD k 0)):=by rw [Z03 gp',ints_getD _ _ qO]
    have a1:=Z0R (i:=(i:Int)) (j:=(k:Int)) qO qO qO qO qO
    have a2:=Z0R b1.1 b1.2 b2.1 b2.2 b3
    obtain ⟨E1,hE1⟩:∃ E:Nat,edN i k=E:=⟨(edN i k).toNat,by omega⟩
    obtain ⟨X,hX⟩:∃ X,p.getD i 0=X:=⟨_,rfl⟩
    obtain ⟨Y,hY⟩:∃ Y,p.getD k 0=Y:=⟨_,rfl⟩
    rw [hX] at p1 b1
    rw [hY] at p2 b2
    rw [hX,hY] at a2 ⊢
    obtain ⟨E2,hE2⟩:∃ E:Nat,edN X Y=E:=⟨(edN X Y).toNat,by omega⟩
    obtain ⟨U,rfl⟩:∃ U:Nat,u=U:=⟨u.toNat,by omega⟩
    have c1:=fun c'=>Zab (i:Int) k H c'
    have c2:=fun c'=>Zab X Y H c'
    rw [hE1] at a1 c1 ⊢
    rw [hE2] at a2 c2 ⊢
    rw [show (6*(t:Int)+E1).toNat=6*t+E1 by omega,show (6*(U:Int)+E2).toNat=6*U+E2 by omega]
    have uf:Uf H sb ub (6*n) L:=by
     rw [← hH]
     exact ⟨by rw [Z06,if_neg n2]; exact gs,by rw [Z06,if_pos rfl],n2,hd,by omega⟩
    have hj:∀ c',c<=c'->callF G 72 [.pointer (some ⟨sb,0,none⟩),.int .i64 (6*(t:Int)+E1),.int .i64 (6*(U:Int)+E2)] H c'=some (.tuple #[],newB H ub (ints (Z3C L (6*t+E1) (6*U+E2))),c'):=fun c' hc=>by
     have:=Z0b (Zi7 H sb ub (6*n) c' L uf qO qO (6*t+E1) (6*U+E2) qO qO [])
     simpa [ptrTo] using this
    rw [hH]
    refine Ans.lpG rfl rfl (Z1Q ..) ?_
    unfold Z23
    have fx:=ai q0 (ai q1 (ai q2 (ai q3 (ai qe (ai p1 (ai p2 (ai c1 (ai c2 (ai hj Z6L)))))))))
    refine Ans.go ?_
    clear fx
    (have fx:=ai he (ai hm hpb); refine Ans.nxB (B:=newB H ub (ints (Z3C L (6*t+E1) (6*U+E2)))) ?_ ?_; exact (Z3I.old hub (Z1D.ints _ _) (Z3I.refl _ _)); clear fx)
    rw [← hH,newB_newB]
    exact ih (k+1) _ qO (Z2C hd qO qO)

structure ClI (s:Value) (n:Nat) (Gl:List Int) (gb g2 vc vs vu ec es eu c0 cb:Nat) (D:List (List Int)) (O:Nat->Prop) (h:FH) (c:Nat):Prop where
 lc:cb<=c
 g:Z07 h gb [s]
 gg:Z07 h g2 [s]
 sl:SlI h c0 s 20 n Gl
 pv:Z07 h vc [ptrTo vs]
 pe:Z07 h ec [ptrTo es]
 uv:Uf h vs vu (4*n) (vCl n D)
 ue:Uf h es eu (6*n) (eCl Gl n D)
 own:O=fun b=>b=vu ∨ b=eu
set_option maxHeartbeats 2000000 in
theorem Zm5 (s:Value) (n:Nat) (Gl:List Int) (gb g2 vc vs vu ec es eu c0 cb l:Nat) (st:ALoop) (hst:st.state = .ready) (hst2:st.pending=none) (hok:Z0w Gl n=true) (hn:n<=60)
 (hgb:gb<256*c0) (hg2:g2<256*cb) (hl:l<256*cb) (hc0:c0<=cb) (hvc:vc<256*cb) (hvs:vs<256*cb) (hvu:vu<256*cb) (hec:ec<256*cb) (hes:es<256*cb) (heu:eu<256*cb)
 (hgl:gb ≠ l) (hn1:gb ≠ vu/\gb ≠ eu/\g2 ≠ vu/\g2 ≠ eu/\vc ≠ vu/\vc ≠ eu/\ec ≠ vu/\ec ≠ eu/\vs ≠ eu/\es ≠ vu/\vu ≠ eu) (hn2:l ≠ g2/\l ≠ vc/\l ≠ vs/\l ≠ vu/\l ≠ ec/\l ≠ es/\l ≠ eu) (hls:0<n->Z0D s ≠ l/\Z0D s ≠ vu/\Z0D s ≠ eu)
 {D:List (List Int)} {O:Nat->Prop} {h:FH} {c t f i:Nat} (ht:t<n) (hf:f<4) (hi:i<4) (hif:i ≠ f) (hsk:Z1Z Gl t f=false) (hI:ClI s n Gl gb g2 vc vs vu ec es eu c0 cb D O h c) (hlp:h.f l=some (.loop st)) :
 Ans (Z35 G l (av (Z3Q Gl t f i)) (ptrTo gb) (ptrTo vc) (ptrTo ec) h c) (fun r=>c<=r.c /\ ∃ O',(∀ b,O' b->O b ∨ 256*c<=b)/\(∀ b,b<256*c -> ¬ O b->b ≠ l->r.h.f b=h.f b) ∧
  (r.vs=[.bool true]/\r.h.f l=some (.loop st)/\ClI s n Gl gb g2 vc vs vu ec es eu c0 cb (D++[Z3Q Gl t f i]) O' r.h r.c)):=by
 have hlc:=hI.lc
 have hG:=hI.sl.1
 obtain ⟨k1,k2,k3⟩:=Zi2 hok hG ht hf hi hif hsk
 have hpf:=Z0C k3 hf
 have hpi:=Z0C k3 hi
 have m0:(Z3Q Gl t f i).getD 0 0=t:=rfl
 have m1:(Z3Q Gl t f i).getD 1 0=f:=rfl
 have m2:(Z3Q Gl t f i).getD 2 0=i:=rfl
 have m3:(Z3Q Gl t f i).getD 3 0=Z0z (Z01 Gl t f):=rfl
 have m4:(Z3Q Gl t f i).getD 4 0=(Z0c (Z01 Gl t f)).getD f 0:=rfl
 have m5:(Z3Q Gl t f i).getD 5 0=(Z0c (Z01 Gl t f)).getD i 0:=rfl
 have ml:(Z3Q Gl t f i).length=6:=rfl
 have hfl:=Z0n hG ht hf
 have hpl:=Z0O hfl
 have es1:=Zm0 Gl n D (Z3Q Gl t f i)
 have vs1:=Zjn n D (Z3Q Gl t f i)
 obtain ⟨M,hM⟩:∃ M,Z3Q Gl t f i=M:=⟨_,rfl⟩
 obtain ⟨U,hU⟩:∃ U:Nat,Z0z (Z01 Gl t f)=U:=⟨(Z0z (Z01 Gl t f)).toNat,by omega⟩
 obtain ⟨Z,hZ⟩:∃ Z:Nat,(Z0c (Z01 Gl t f)).getD i 0=Z:=⟨((Z0c (Z01 Gl t f)).getD i 0).toNat,by omega⟩
 rw [hM] at m0 m1 m2 m3 m4 m5 ml es1 vs1 ⊢
 rw [hU] at k1 k2 m3
 rw [hZ] at hpi m5
 unfold ZiX at es1
 rw [m0,m1,m2,m3,Int.toNat_natCast,Int.toNat_natCast,Int.toNat_natCast] at es1
 unfold Zn1 at vs1
 rw [m0,m2,m3,m5,show (4*(t:Int)+i).toNat=4*t+i by omega,show (4*(U:Int)+Z).toNat=4*U+Z by omega] at vs1
 obtain ⟨F,hF⟩:∃ F,Z01 Gl t f=F:=⟨_,rfl⟩
 rw [hF] at k3 hfl hpl es1 m4
 have hn0:0<n:=by omega
 obtain ⟨ls1,ls2,ls3⟩:=hls hn0
 have bs:=hI.sl.blk hn0
 obtain ⟨d1,d2,d3,d4,d5,d6,d7,d8,d9,d10,d11⟩:=hn1
 obtain ⟨x1,x2,x3,x4,x5,x6,x7⟩:=hn2
 obtain ⟨H,hH⟩:∃ H,H=HeapC.set (newB h (256*c) (ints M)) l (.loop { st with state:=.busy }):=⟨_,rfl⟩
 have hb:Z1R (newB h (256*c) (ints M)) l=some H:=by
  rw [hH]
  exact Z7v (by rw [get_newB_ne _ _ _ _ qO]; exact hlp) hst
 have r0:∀ j,j<256*c->j ≠ l->H.f j=h.f j:=by
  intro j hj hne
  rw [hH,Z0r,if_neg hne,Z06,if_neg qO]
 have rl:H.f l=some (.loop { st with state:=.busy }):=by rw [hH,Z0r,if_pos rfl]
 have hA:Z07 H (256*c) (ints M):=by rw [hH]; exact ((Z07.newB_same h _ _).set_ne qO)
 clear hH
 have rd:∀ j:Nat,j<6->ld1 H (.pointer (some ⟨256*c,j,none⟩))=some (.int .i64 (M.getD j 0)):=fun j hj=>by rw [Z03 hA,ints_getD _ _ qO]
 have a0:=rd 0 qO
 have a1:=rd 1 qO
 have a2:=rd 2 qO
 have a3:=rd 3 qO
 have a5:=rd 5 qO
 clear rd
 rw [m0] at a0
 rw [m1] at a1
 rw [m2] at a2
 rw [m3] at a3
 rw [m5] at a5
 have lv:ld1 H (.pointer (some ⟨vc,0,none⟩))=some (ptrTo vs):=by rw [Z03 (hI.pv.eqf (r0 vc qO (Ne.symm x2)))]; rfl
 have hst6:stN (newB h (256*c) [.int .i64 0,.int .i64 0,.int .i64 0,.int .i64 0,.int .i64 0,.int .i64 0]) 6 (.pointer (some ⟨256*c,0,none⟩)) (av M)=some (newB h (256*c) (ints M)):=stN_all _ _ 6 _ _ ml rfl
 have uvH:Uf H vs vu (4*n) (vCl n D):=hI.uv.keep (r0 vs qO (Ne.symm x3)) (r0 vu qO (Ne.symm x4))
 have cj:callF G 72 [.pointer (some ⟨vs,0,none⟩),.int .i64 (4*(t:Int)+i),.int .i64 (4*(U:Int)+Z)] H (c+1+1)=some (.tuple #[],newB H vu (ints (Z3C (vCl n D) (4*t+i) (4*U+Z))),c+1+1):=by
  have:=Z0b (Zi7 H vs vu (4*n) (c+1+1) (vCl n D) uvH qO qO (4*t+i) (4*U+Z) qO qO [])
  simpa [ptrTo] using this
 rw [← vs1] at cj
 obtain ⟨K,hK⟩:∃ K,newB H vu (ints (vCl n (D++[M])))=K:=⟨_,rfl⟩
 rw [hK] at cj
 have fK:∀ b,b ≠ vu->K.f b=H.f b:=fun b hb=>by rw [← hK,Z06,if_neg hb]
 have fKv:K.f vu=some (.cells false none (ints (vCl n (D++[M])))):=by rw [← hK,Z06,if_pos rfl]
 have lg:ld1 K (.pointer (some ⟨gb,0,none⟩))=some s:=by rw [Z03 (hI.g.eqf ((fK gb d1).trans (r0 gb qO hgl)))]; rfl
 have b0:ld1 K (.pointer (some ⟨256*c,0,none⟩))=some (.int .i64 t):=by rw [← hK,ld1_newB_ne _ _ _ _ _ qO]; exact a0
 have b1:ld1 K (.pointer (some ⟨256*c,1,none⟩))=some (.int .i64 f):=by rw [← hK,ld1_newB_ne _ _ _ _ _ qO]; exact a1
 have slK:SlI K c0 s 20 n Gl:=hI.sl.keep (fun _=>by rw [fK _ ls2,r0 _ qO ls1])
 have lf:ldN K 4 (.pointer (some ⟨Z0D s,Z6P s+t*20+f*5+1,none⟩))=some (av (Z0c F)):=by
  rw [show Z6P s+t*20+f*5+1=Z6P s+(20*t+5*f+1) by omega,slK.rdN 4 (20*t+5*f+1) qO qO,← hF]
  unfold Z0c Z01
  rw [List.drop_take,List.drop_drop,List.take_take]; rfl
 have hst4:∀ b,stN (newB K b [.int .i64 0,.int .i64 0,.int .i64 0,.int .i64 0]) 4 (.pointer (some ⟨b,0,none⟩)) (av (Z0c F))=some (newB K b (ints (Z0c F))):=fun b=>stN_all _ _ 4 _ _ hpl rfl
 obtain ⟨pb,hpb⟩:∃ pb,pb=256*(c+1+1)+10:=⟨_,rfl⟩
 obtain ⟨K2,hK2⟩:∃ K2,newB K pb (ints (Z0c F))=K2:=⟨_,rfl⟩
 have fK2:∀ b,b ≠ pb->K2.f b=K.f b:=fun b hb=>by rw [← hK2,Z06,if_neg hb]
 have eu2:K2.f eu=some (.cells false none (ints (eCl Gl n D))):=by rw [fK2 eu qO,fK eu (Ne.symm d11),r0 eu qO (Ne.symm x7)]; exact hI.ue.up
 have k2:∀ b,b<256*c->b ≠ l->b ≠ vu->K2.f b=h.f b:=fun b h1 h2 h3=>by rw [fK2 b qO,fK b h3,r0 b h1 h2]
 have hin:=Ans.eq (ZgV K2 ec es eu (256*c) pb n (c+1+1+1+1) l (Z0c F) M t f i (U:Int) [] hn k3 ht hf hi qO qO qO qO qO qO qO d8 (hI.ue.ne) qO qO
  (hI.pe.eqf (k2 ec qO (Ne.symm x5) d7)) ((k2 es qO (Ne.symm x6) d10).trans hI.ue.st) (hA.eqf (by rw [fK2 _ qO,fK _ qO])) ⟨false,none,by rw [← hK2]; show (newB _ _ _:FH).f _=_; rw [Z06,if_pos rfl]⟩ ml m0 m1 m2 m3 4 0 _ qO hI.ue.dn)
 rw [ZhV eu2,← es1] at hin
 simp only [Int.ofNat_eq_natCast,Int.cast_ofNat_Int] at hin
 have dE:Z7O (eCl Gl n (D++[M])) (6*n):=by rw [es1]; exact Zfy k3 ht hi qO qO qO hI.ue.dn
 have dV:Z7O (vCl n (D++[M])) (4*n):=by rw [vs1]; exact Z2C hI.uv.dn qO qO
 obtain ⟨N,hN⟩:∃ N,newB K2 eu (ints (eCl Gl n (D++[M])))=N:=⟨_,rfl⟩
 rw [hN] at hin
 have fN:∀ b,b ≠ eu->N.f b=K2.f b:=fun b hb=>by rw [← hN,Z06,if_neg hb]
 have fNe:N.f eu=some (.cells false none (ints (eCl Gl n (D++[M])))):=by rw [← hN,Z06,if_pos rfl]
 have hl':N.f l=some (.loop { st with state:=.busy }):=by rw [fN l x7,fK2 l qO,fK l x4,rl]
 have sT:Z0A N l .ready none=some (HeapC.set N l (.loop st)):=by
  rw [Z8d (st:={ st with state:=.busy }) hl']
  congr 3
  rw [← hst,← hst2]
 unfold Z35
 simp only [Nat.add_zero]
 repeat' (first | ((with_reducible first | refine Ans.bz ?_ | refine Ans.r1 ?_ | refine Ans.pkT ?_ | refine Ans.pkF ?_); try dsimp only [v_zero,v_succ]) | (with_reducible first | refine Ans.btL ?_ | refine Ans.bfL ?_ | refine Ans.gyT ?_ | refine Ans.gyF ?_ | refine Ans.gyG ?_ | refine Ans.bb ?_ | refine Ans.bc ?_ | refine Ans.ba ?_) | ((with_reducible first | refine Ans.lsT ?_ ?_ | refine Ans.leT ?_ ?_ | refine Ans.grT ?_ ?_ | refine Ans.geT ?_ ?_ | refine Ans.eqT ?_ ?_ | refine Ans.neT ?_ ?_); (focus omega)) | ((with_reducible first | refine Ans.lsF ?_ ?_ | refine Ans.leF ?_ ?_ | refine Ans.grF ?_ ?_ | refine Ans.geF ?_ ?_ | refine Ans.eqF ?_ ?_ | refine Ans.neF ?_ ?_); (focus omega)) | (with_reducible first | refine Ans.lsS (fun _=>?_) (fun _=>?_) | refine Ans.leS (fun _=>?_) (fun _=>?_) | refine Ans.grS (fun _=>?_) (fun _=>?_) | refine Ans.geS (fun _=>?_) (fun _=>?_) | refine Ans.eqS (fun _=>?_) (fun _=>?_) | refine Ans.neS (fun _=>?_) (fun _=>?_)) | ((with_reducible first | refine Ans.addN ?_ ?_ | refine Ans.add ?_ ?_ | refine Ans.sub ?_ ?_ | refine Ans.mul ?_ ?_); (focus omega)) | ((with_reducible first | refine Ans.ct ?_ ?_); (focus (simp (disch:=(first | omega | with_reducible assumption | (simp <;> omega) | fail)) [hst6,hb,lv,a0,a1,a2,a3,a5,cj,lg,b0,b1,slK.ixs,lf,hst4,← hpb,hK2,hin,sT,-ld1_newB_same]; done))) | ((with_reducible first | refine Ans.cf ?_ ?_); (focus (simp (disch:=(first | omega | with_reducible assumption | (simp <;> omega) | fail)) [hst6,hb,lv,a0,a1,a2,a3,a5,cj,lg,b0,b1,slK.ixs,lf,hst4,← hpb,hK2,hin,sT,-ld1_newB_same]; done))) | (refine Ans.step (by simp (disch:=(first | omega | with_reducible assumption | (simp <;> omega) | fail)) [hst6,hb,lv,a0,a1,a2,a3,a5,cj,lg,b0,b1,slK.ixs,lf,hst4,← hpb,hK2,hin,sT,-ld1_newB_same,-List.getD_eq_getElem?_getD] <;> rfl) ?_; try dsimp only [v_zero,v_succ]) | fail)
 have fin:∀ b,b<256*c -> ¬ O b->b ≠ l->(HeapC.set N l (.loop st):FH).f b=h.f b:=fun b g1 g2 g3=>by
  rw [hI.own] at g2
  simp only [not_or] at g2
  rw [Z0r,if_neg g3,fN b g2.2,k2 b g1 g3 g2.1]
 have nO:∀ b,b ≠ vu->b ≠ eu -> ¬ O b:=fun b h1 h2=>by rw [hI.own]; rintro (e | e); exact h1 e; exact h2 e
 refine .done ⟨(by show c<=c+1+1+1+1; omega),O,fun b hb=>.inl hb,fin,rfl, ?_, ?_⟩
 · show (HeapC.set _ _ _:FH).f l=_
   rw [Z0r,if_pos rfl]
 · have uvF:(HeapC.set N l (.loop st):FH).f vu=some (.cells false none (ints (vCl n (D++[M])))):=by rw [Z0r,if_neg (Ne.symm x4),fN vu d11,fK2 vu qO,fKv]
   have ueF:(HeapC.set N l (.loop st):FH).f eu=some (.cells false none (ints (eCl Gl n (D++[M])))):=by rw [Z0r,if_neg (Ne.symm x7),fNe]
   exact ⟨by show cb<=c+1+1+1+1; omega,hI.g.eqf (fin gb qO (nO _ d1 d2) hgl),hI.gg.eqf (fin g2 qO (nO _ d3 d4) (Ne.symm x1)),hI.sl.keep (fun _=>fin _ qO (nO _ ls2 ls3) ls1),hI.pv.eqf (fin vc qO (nO _ d5 d6) (Ne.symm x2)),hI.pe.eqf (fin ec qO (nO _ d7 d8) (Ne.symm x5)),
    ⟨(fin vs qO (nO _ hI.uv.ne d9) (Ne.symm x3)).trans hI.uv.st,uvF,hI.uv.ne,dV,hI.uv.le⟩,⟨(fin es qO (nO _ d10 hI.ue.ne) (Ne.symm x6)).trans hI.ue.st,ueF,hI.ue.ne,dE,hI.ue.le⟩,hI.own⟩

theorem Zj2 (s:Value) (n:Nat) (Gl:List Int) (gb g2 vc vs vu ec es eu c0 cb l:Nat) (hok:Z0w Gl n=true) (hn:n<=60)
 (hgb:gb<256*c0) (hg2:g2<256*cb) (hl:l<256*cb) (hc0:c0<=cb) (hvc:vc<256*cb) (hvs:vs<256*cb) (hvu:vu<256*cb) (hec:ec<256*cb) (hes:es<256*cb) (heu:eu<256*cb)
 (hgl:gb ≠ l) (hn1:gb ≠ vu/\gb ≠ eu/\g2 ≠ vu/\g2 ≠ eu/\vc ≠ vu/\vc ≠ eu/\ec ≠ vu/\ec ≠ eu/\vs ≠ eu/\es ≠ vu/\vu ≠ eu) (hn2:l ≠ g2/\l ≠ vc/\l ≠ vs/\l ≠ vu/\l ≠ ec/\l ≠ es/\l ≠ eu) (hls:0<n->Z0D s ≠ l/\Z0D s ≠ vu/\Z0D s ≠ eu) :
 RoundI s n Gl g2 l cb (Z5N 92 [1,5,6] #[25] Z1c Z1b [ptrTo gb,ptrTo vc,ptrTo ec] (l+1)) none [ptrTo gb,ptrTo vc,ptrTo ec] (ClI s n Gl gb g2 vc vs vu ec es eu c0 cb) (fun _ _ _=>False) where
 stab:=fun D O h c h' c' hi hc hs=>by
  have:=hi.lc
  obtain ⟨x1,x2,x3,x4,x5,x6,x7⟩:=hn2
  exact ⟨by omega,hi.g.eqf (hs _ qO hgl),hi.gg.eqf (hs _ qO (Ne.symm x1)),hi.sl.keep (fun hp=>hs _ (by have:=hi.sl.blk hp; omega) (hls hp).1),hi.pv.eqf (hs _ qO (Ne.symm x2)),hi.pe.eqf (hs _ qO (Ne.symm x5)),
   hi.uv.keep (hs _ qO (Ne.symm x3)) (hs _ qO (Ne.symm x4)),hi.ue.keep (hs _ qO (Ne.symm x6)) (hs _ qO (Ne.symm x7)),hi.own⟩
 jstab:=fun O h c h' c' hj hc hs=>hj
 own:=fun D O h c hi b hb=>by
  have:=hi.lc
  rw [hi.own] at hb
  rcases hb with rfl | rfl <;> omega
 ownJ:=fun O h c hj b hb=>hj.elim
 read:=fun D O h c hi=>⟨hi.gg,hi.sl.mono (by have:=hi.lc; omega)⟩
 step:=fun D O h c t f i ht hf hi hif hsk hpre hc hI hlp=>by
  obtain ⟨r,hr,q1,O',q2,q3,q4⟩:=Zm5 s n Gl gb g2 vc vs vu ec es eu c0 cb l _ rfl rfl hok hn hgb hg2 hl hc0 hvc hvs hvu hec hes heu hgl hn1 hn2 hls ht hf hi hif hsk hI hlp
  exact ⟨r,ZgC hr,q1,O',q2,q3,.inl q4⟩
set_option maxHeartbeats 1000000 in
theorem ZgZ (s:Value) (n:Nat) (Gl:List Int) (h:FH) (c:Nat) (df:List Nat) (hs:SlI h c s 20 n Gl) (hok:Z0w Gl n=true) (hn:n<=60) :
 Ans (G (.fn 44) [.agg #[s]] h c df) fun r=>r.e = .ret/\r.df=[]/\c<=r.c/\Z0E c h r.h /\ ∃ vs vu es eu,r.vs=[.tuple #[ptrTo vs,ptrTo es]]/\vs<256*r.c/\vu<256*r.c/\es<256*r.c/\eu<256*r.c ∧
  Uf r.h vs vu (4*n) (vCl n (Z2v Gl n))/\Uf r.h es eu (6*n) (eCl Gl n (Z2v Gl n)):=by
 refine Ans.call' (fun r e=>f44_go e) ?_
 unfold ZiM
 rw [Z96 hs.flat,Z8T,Nat.add_zero]
 simp only [cond_true]
 obtain ⟨H,hH⟩:∃ H,H=newB h (256*c) [s]:=⟨_,rfl⟩
 have sH:Z0E c h H:=by rw [hH]; simp (disch:=omega)
 have hg:Z07 H (256*c) [s]:=by rw [hH]; exact Z07.newB_same _ _ _
 rw [← hH]
 clear hH
 have l1:ld1 H (.pointer (some ⟨256*c,0,none⟩))=some s:=by rw [Z03 hg]; rfl
 have ll:=hs.len
 obtain ⟨⟨re,rv,H1,rc,rd⟩,hr,r1,r2,r3⟩:=Z8s (4*n) H (c+1+1+1) [] qO
 simp only at r1 r2 r3
 obtain ⟨rfl,rfl,-,rfl,rfl⟩:=Rt.mk.inj r1
 clear r1
 have cu1:=Z0b hr
 rw [show ((4*n:Nat):Int)=4*(n:Int) by omega] at cu1
 obtain ⟨B0,hB0⟩:∃ B0,256*(c+1+1+1+1)+1=B0:=⟨_,rfl⟩
 rw [hB0] at cu1 r3
 obtain ⟨vs,hvs⟩:∃ vs,256*(c+1+1)+4=vs:=⟨_,rfl⟩
 obtain ⟨H2,hH2⟩:∃ H2,newB H1 vs [.slice (some ⟨B0,0,none⟩) (4*n) (4*n)]=H2:=⟨_,rfl⟩
 obtain ⟨⟨re,rv,H3,rc,rd⟩,hr',r1',r2',r3'⟩:=Z8s (6*n) H2 (c+1+1+1+1+1+1+1) [] qO
 simp only at r1' r2' r3'
 obtain ⟨rfl,rfl,-,rfl,rfl⟩:=Rt.mk.inj r1'
 clear r1'
 have cu2:=Z0b hr'
 rw [show ((6*n:Nat):Int)=6*(n:Int) by omega] at cu2
 obtain ⟨B1,hB1⟩:∃ B1,256*(c+1+1+1+1+1+1+1+1)+1=B1:=⟨_,rfl⟩
 rw [hB1] at cu2 r3'
 obtain ⟨es,hes⟩:∃ es,256*(c+1+1)+9=es:=⟨_,rfl⟩
 obtain ⟨vc,hvc⟩:∃ vc,256*(c+1+1)+10=vc:=⟨_,rfl⟩
 obtain ⟨ec,hec⟩:∃ ec,256*(c+1+1)+11=ec:=⟨_,rfl⟩
 have b1:Z3A [.slice none 0 0] [(0,1,.agg #[.slice (some ⟨B0,0,none⟩) (4*n) (4*n)])]=some (.agg #[.slice (some ⟨B0,0,none⟩) (4*n) (4*n)]):=rfl
 have b2:Z3A [.slice none 0 0] [(0,1,.agg #[.slice (some ⟨B1,0,none⟩) (6*n) (6*n)])]=some (.agg #[.slice (some ⟨B1,0,none⟩) (6*n) (6*n)]):=rfl
 obtain ⟨N,hN⟩:∃ N,N=newB (newB (newB H3 es [.slice (some ⟨B1,0,none⟩) (6*n) (6*n)]) vc [ptrTo vs]) ec [ptrTo es]:=⟨_,rfl⟩
 have st1:stN (newB (newB (newB H3 es [.slice (some ⟨B1,0,none⟩) (6*n) (6*n)]) vc [.pointer none]) ec [.pointer none]) 1 (.pointer (some ⟨vc,0,none⟩)) (.pointer (some ⟨vs,0,none⟩))=some (newB (newB (newB H3 es [.slice (some ⟨B1,0,none⟩) (6*n) (6*n)]) vc [ptrTo vs]) ec [.pointer none]):=by
  rw [Z1z (cs:=[.pointer none]) (op:=none) (by rw [get_newB_ne _ _ _ _ qO,get_newB_same]) (by simp) rfl rfl]
  congr 1
  apply FH.ext; intro j
  simp only [Z0r,Z06]
  have hve:vc ≠ ec:=by omega
  have hev:ec ≠ vc:=by omega
  by_cases e1:j=vc <;> by_cases e2:j=ec <;> (first | (exfalso; omega) | skip) <;> simp [e1,e2,ptrTo,hve,hev]
 have st2:stN (newB (newB (newB H3 es [.slice (some ⟨B1,0,none⟩) (6*n) (6*n)]) vc [ptrTo vs]) ec [.pointer none]) 1 (.pointer (some ⟨ec,0,none⟩)) (.pointer (some ⟨es,0,none⟩))=some N:=by
  rw [Z1z (cs:=[.pointer none]) (op:=none) (by rw [get_newB_same]) (by simp) rfl rfl,hN]
  congr 1
  apply FH.ext; intro j
  simp only [Z0r,Z06]
  have hve:vc ≠ ec:=by omega
  have hev:ec ≠ vc:=by omega
  by_cases e1:j=vc <;> by_cases e2:j=ec <;> (first | (exfalso; omega) | skip) <;> simp [e1,e2,ptrTo,hve,hev]
 have fN:∀ b,b ≠ es->b ≠ vc->b ≠ ec->N.f b=H3.f b:=fun b h1 h2 h3=>by rw [hN,Z06,if_neg h3,Z06,if_neg h2,Z06,if_neg h1]
 have fNe:N.f es=some (.cells false none [.slice (some ⟨B1,0,none⟩) (6*n) (6*n)]):=by rw [hN,Z06,if_neg qO,Z06,if_neg qO,Z06,if_pos rfl]
 have fNvc:N.f vc=some (.cells false none [ptrTo vs]):=by rw [hN,Z06,if_neg qO,Z06,if_pos rfl]
 have fNec:N.f ec=some (.cells false none [ptrTo es]):=by rw [hN,Z06,if_pos rfl]
 clear hN
 have fH2:∀ b,b ≠ vs->H2.f b=H1.f b:=fun b hb=>by rw [← hH2,Z06,if_neg hb]
 have fH2v:H2.f vs=some (.cells false none [.slice (some ⟨B0,0,none⟩) (4*n) (4*n)]):=by rw [← hH2,Z06,if_pos rfl]
 have low:∀ b,b<256*(c+1)->N.f b=H.f b:=fun b hb=>by rw [fN b qO qO qO,r2' b qO,fH2 b qO,r2 b qO]
 have fNvs:N.f vs=some (.cells false none [.slice (some ⟨B0,0,none⟩) (4*n) (4*n)]):=by rw [fN vs qO qO qO,r2' vs qO,fH2v]
 have fNvu:N.f B0=some (.cells false none (ints (Z0p (4*n)))):=by rw [fN B0 qO qO qO,r2' B0 qO,fH2 B0 qO,r3]
 have fNeu:N.f B1=some (.cells false none (ints (Z0p (6*n)))):=by rw [fN B1 qO qO qO,r3']
 have lN:=Z0F (hg.eqf (low _ qO))
 have cm:=Z7I s N (c+1+1+1+1+1+1+1+1+1+1+1+1) hs.flat
 have fl1:((Value.agg #[.slice (some ⟨B0,0,none⟩) (4*n) (4*n)]).cells.toList.all Z0d)=true:=rfl
 have fl2:((Value.agg #[.slice (some ⟨B1,0,none⟩) (6*n) (6*n)]).cells.toList.all Z0d)=true:=rfl
 rw [hvs,hes,hvc,hec]
 have fx:=ai Z8T (ai l1 (ai ll (ai cu1 (ai b1 (ai fl1 (ai hH2 (ai cu2 (ai b2 fl2))))))))
 refine Ans.go ?_
 clear fx
 rw [show (Value.agg #[.slice (some ⟨B1,0,none⟩) (6*n) (6*n)]).cells.toList=[.slice (some ⟨B1,0,none⟩) (6*n) (6*n)] from rfl]
 refine Ans.step st1 (Ans.step st2 ?_)
 have fx:=ai lN cm
 refine Ans.go ?_
 clear fx
 obtain ⟨g2,hg2⟩:∃ g2,256*(c+1+1+1+1+1+1+1+1+1+1+1+1)=g2:=⟨_,rfl⟩
 obtain ⟨l,hl⟩:∃ l,256*(c+1+1+1+1+1+1+1+1+1+1+1+1+1+1)=l:=⟨_,rfl⟩
 rw [hg2]
 obtain ⟨M,hM⟩:∃ M,M=newB N g2 [s]:=⟨_,rfl⟩
 rw [← hM]
 have fM:∀ b,b ≠ g2->M.f b=N.f b:=fun b hb=>by rw [hM,Z06,if_neg hb]
 have gM:M.f g2=some (.cells false none [s]):=by rw [hM,Z06,if_pos rfl]
 clear hM
 have hI:=Zj2 s n Gl (256*c) g2 vc vs B0 ec es B1 (c+1) (c+1+1+1+1+1+1+1+1+1+1+1+1+1+1+1) l hok hn qO qO qO qO qO qO qO qO qO qO qO ⟨by omega,by omega,by omega,by omega,by omega,by omega,by omega,by omega,by omega,by omega,by omega⟩ ⟨by omega,by omega,by omega,by omega,by omega,by omega,by omega⟩
  (fun hp=>⟨by have:=hs.blk hp; omega,by have:=hs.blk hp; omega,by have:=hs.blk hp; omega⟩)
 have hEf:∀ b,b<l->(Z2l M (c+1+1+1+1+1+1+1+1+1+1+1+1+1+1) 92 [1,5,6] #[25] Z1c Z1b [ptrTo (256*c),ptrTo vc,ptrTo ec]).f b=M.f b:=fun b hb=>by
  rw [Z3H,if_neg qO,if_neg qO]
 have hI0:ClI s n Gl (256*c) g2 vc vs B0 ec es B1 (c+1) (c+1+1+1+1+1+1+1+1+1+1+1+1+1+1+1) [] (fun b=>b=B0 ∨ b=B1) (Z2l M (c+1+1+1+1+1+1+1+1+1+1+1+1+1+1) 92 [1,5,6] #[25] Z1c Z1b [ptrTo (256*c),ptrTo vc,ptrTo ec]) (c+1+1+1+1+1+1+1+1+1+1+1+1+1+1+1):=by
  refine ⟨Nat.le_refl _,hg.eqf (by rw [hEf _ qO,fM _ qO,low _ qO]),⟨false,none, ?_⟩, ?_,⟨false,none, ?_⟩,⟨false,none, ?_⟩,⟨?_, ?_,by omega,Z15 _,by omega⟩,⟨?_, ?_,by omega,Z15 _,by omega⟩,rfl⟩
  · show (Z2l _ _ _ _ _ _ _ _:FH).f _=_
    rw [hEf _ qO,gM]
  · exact ((hs.same sH).mono (by omega:c<=c+1)).keep (fun hp=>by have:=hs.blk hp; rw [hEf _ qO,fM _ qO,low _ qO])
  · show (Z2l _ _ _ _ _ _ _ _:FH).f _=_
    rw [hEf _ qO,fM _ qO,fNvc]
  · show (Z2l _ _ _ _ _ _ _ _:FH).f _=_
    rw [hEf _ qO,fM _ qO,fNec]
  · rw [hEf _ qO,fM _ qO,fNvs]
  · rw [hEf _ qO,fM _ qO,fNvu]; rfl
  · rw [hEf _ qO,fM _ qO,fNe]
  · rw [hEf _ qO,fM _ qO,fNeu]; rfl
 rw [← hl] at hI
 refine Ans.head (Z6g qO qO rfl hI (O:=fun b=>b=B0 ∨ b=B1) (fun b hb=>by omega) hI0) ?_
 rw [hl]
 rintro ⟨qe,qh,qc,qd⟩ ⟨qr,O',e1,e2,e3,e4,e5,e6⟩
 simp only [Prod.mk.injEq] at e1
 obtain ⟨rfl,-,rfl⟩:=e1
 simp only at e2 e6
 rcases e6 with ⟨rfl,hi⟩ | ⟨-,hj⟩
 case inr=>exact hj.elim
 have fd:∀ b,b ≠ l->(HeapC.del qr l).f b=qr.f b:=fun b hb=>by rw [Z7s,if_neg hb]
 have lv:ld1 (HeapC.del qr l) (.pointer (some ⟨vc,0,none⟩))=some (.pointer (some ⟨vs,0,none⟩)):=by rw [Z03 (hi.pv.eqf (fd vc qO))]; rfl
 have le:ld1 (HeapC.del qr l) (.pointer (some ⟨ec,0,none⟩))=some (.pointer (some ⟨es,0,none⟩)):=by rw [Z03 (hi.pe.eqf (fd ec qO))]; rfl
 obtain ⟨h9,t1,t2⟩:=Z5j (df:=[l+1]) (h:=HeapC.del qr l) (by simp) (fun d hd=>by
  rw [List.mem_singleton.1 hd,Z7s,if_neg qO]; exact e3)
 have k9:∀ b,b ≠ l->b ≠ l+1->h9.f b=qr.f b:=fun b h1 h2=>by
  rw [t2 b (by simpa using h2),fd b h1]
 have fx:=ai lv (ai le t1)
 refine Ans.go ?_
 clear fx
 refine .done ⟨rfl,rfl,(by show c<=qc+1; omega),fun b hb=>?_,vs,B0,es,B1,rfl, ?_, ?_, ?_, ?_, ?_, ?_⟩
 · show h9.f b=h.f b
   rw [k9 b qO qO,e5 b qO qO,fM b qO,low b qO,sH b hb]
 · show vs<256*(qc+1); omega
 · show B0<256*(qc+1); omega
 · show es<256*(qc+1); omega
 · show B1<256*(qc+1); omega
 · exact hi.uv.keep (k9 _ qO qO) (k9 _ qO qO)
 · exact hi.ue.keep (k9 _ qO qO) (k9 _ qO qO)

def wK (V:List Int) (t:Int) (T:Int):Nat->Nat->Int->Int
 | 0,_,a=>a
 | r+1,k,a=>wK V t T r (k+1) (if (k:Int)=T then a else a+gi V (7*t+4+k))
def edA (e:Int):Int:=((edL.drop (e.toNat*2)).take 2).getD 0 0
def edB (e:Int):Int:=((edL.drop (e.toNat*2)).take 2).getD 1 0
theorem Zbd {e:Int} (h1:0<=e) (h2:e<6):0<=edA e/\edA e<4/\0<=edB e/\edB e<4/\edA e ≠ edB e:=by
 have:((List.range 6).all fun e=>decide (0<=edA (e:Nat)/\edA (e:Nat)<4/\0<=edB (e:Nat)/\edB (e:Nat)<4/\edA (e:Nat) ≠ edB (e:Nat)))=true:=by decide
 rw [List.all_eq_true] at this
 have h5:=this e.toNat (by simp; omega)
 have e1:((e.toNat:Nat):Int)=e:=by omega
 rw [e1] at h5
 exact of_decide_eq_true h5
def Z1V (V:List Int) (t e:Int):Int:=wK V t (ty (edA e) (edB e)) 3 0 (gi V (7*t+edA e)+gi V (7*t+edB e))
theorem Zc9 (s:Value) (n:Nat) (V:List Int) (t:Nat) (A B:Int) (h:FH) (c:Nat) (df:List Nat) (hs:SlI h c s 1 n V) (htn:7*t+7<=n) (hn:n<=1000000) (hA:0<=A/\A<4) (hB:0<=B/\B<4) (hne:A ≠ B) (hV:∀ j,0<=gi V j/\gi V j<=1000000) :
 ∀ (r k:Nat) (a:Int),k+r=3->0<=a->a<=(2+(k:Int))*1000000 →
 Ans (G (Z9O none) [s,.int .i64 t,.int .i64 A,.int .i64 B,.int .i64 a,.int .i64 k] h c df) fun q=>q=⟨.exit 0,[s,.int .i64 t,.int .i64 A,.int .i64 B,.int .i64 (wK V t (ty A B) r k a),.int .i64 3],h,c,df⟩:=by
 intro r
 have o1:=hs.okV
 have x1:=Z6R tyT 4 4 .i64 A hA.1 qO rfl
 have hl4:((tyT.drop (A.toNat*4)).take 4).length=4:=by simp [tyT]; omega
 have x2:=Z7J ((tyT.drop (A.toNat*4)).take 4) 4 .i64 B hB.1 qO hl4
 rw [show ((tyT.drop (A.toNat*4)).take 4).getD B.toNat 0=ty A B from rfl] at x2
 obtain ⟨R,hR⟩:∃ R,(tyT.drop (A.toNat*4)).take 4=R:=⟨_,rfl⟩
 rw [hR] at x1 x2
 obtain ⟨T,hT⟩:∃ T,ty A B=T:=⟨_,rfl⟩
 rw [hT] at x2 ⊢
 induction r with
 | zero =>
  intro k a hk h1 h2
  obtain rfl:k=3:=by omega
  refine Ans.lpG rfl rfl (Z4F ..) ?_
  unfold Z46
  have fx:=True.intro
  refine Ans.go ?_
  clear fx
  (have fx:=o1; refine Ans.ex0 ?_; clear fx)
  rfl
 | succ r ih =>
  intro k a hk h1 h2
  have l1:=hs.rdi (7*(t:Int)+4+k) qO qO
  have v1:=hV (7*(t:Int)+4+k)
  rw [wK]
  obtain ⟨X,hX⟩:∃ X,gi V (7*(t:Int)+4+k)=X:=⟨_,rfl⟩
  rw [hX] at l1 v1 ⊢
  have hk3:(k:Int)<3:=by omega
  refine Ans.lpG rfl rfl (Z4F ..) ?_
  unfold Z46
  by_cases e:(k:Int)=T
  · rw [if_pos e]
    have fx:=ai Z64 (ai x1 x2)
    refine Ans.go ?_
    clear fx
    (have fx:=o1; refine Ans.nx0 ?_; clear fx)
    exact ih (k+1) a qO h1 qO
  · rw [if_neg e]
    have fx:=ai Z64 (ai x1 (ai x2 (ai hs.ixs1 l1)))
    refine Ans.go ?_
    clear fx
    (have fx:=o1; refine Ans.nx0 ?_; clear fx)
    exact ih (k+1) _ qO qO qO
theorem ZdA {V:List Int} {t T:Int} (hV:∀ j,0<=gi V j/\gi V j<=1000000):∀ {r k:Nat} {a:Int},0<=a->0<=wK V t T r k a/\wK V t T r k a<=a+r*1000000
 | 0,k,a,h=>by rw [wK]; omega
 | r+1,k,a,h=>by
  rw [wK]
  have:=hV (7*t+4+k)
  have:=ZdA hV (t:=t) (T:=T) (r:=r) (k:=k+1) (a:=if (k:Int)=T then a else a+gi V (7*t+4+k)) (by split <;> omega)
  split at this <;> rename_i e
  · rw [if_pos e]; omega
  · rw [if_neg e]; omega
theorem Zaj {V:List Int} {t e:Int} (hV:∀ j,0<=gi V j/\gi V j<=1000000):0<=Z1V V t e/\Z1V V t e<=5000000:=by
 unfold Z1V
 have h1:=hV (7*t+edA e)
 have h2:=hV (7*t+edB e)
 have:=ZdA hV (t:=t) (T:=ty (edA e) (edB e)) (r:=3) (k:=0) (a:=gi V (7*t+edA e)+gi V (7*t+edB e)) qO
 omega
theorem Zhj (s:Value) (n:Nat) (V:List Int) (t:Nat) (e:Int) (h:FH) (c:Nat) (df:List Nat) (hs:SlI h c s 1 n V) (htn:7*t+7<=n) (hn:n<=1000000) (he:0<=e) (he6:e<6) (hV:∀ j,0<=gi V j/\gi V j<=1000000) :
 G (.fn 74) [s,.int .i64 t,.int .i64 e] h c df=some ⟨.ret,[.int .i64 (Z1V V t e)],h,c,[]⟩:=by
 refine Z0u (fun r e=>f74_go e) (by simp) ?_
 unfold Ziw Z1V
 obtain ⟨g1,g2,g3,g4,g5⟩:=Zbd he he6
 have x1:=Z6R edL 6 2 .i64 e he qO rfl
 have hl2:((edL.drop (e.toNat*2)).take 2).length=2:=by simp [edL]; omega
 have x2:=Z7J ((edL.drop (e.toNat*2)).take 2) 2 .i64 0 qO qO hl2
 have x3:=Z7J ((edL.drop (e.toNat*2)).take 2) 2 .i64 1 qO qO hl2
 rw [show ((edL.drop (e.toNat*2)).take 2).getD (Int.toNat 0) 0=edA e from rfl] at x2
 rw [show ((edL.drop (e.toNat*2)).take 2).getD (Int.toNat 1) 0=edB e from rfl] at x3
 obtain ⟨R,hR⟩:∃ R,(edL.drop (e.toNat*2)).take 2=R:=⟨_,rfl⟩
 rw [hR] at x1 x2 x3
 obtain ⟨A,hA⟩:∃ A,edA e=A:=⟨_,rfl⟩
 obtain ⟨B,hB⟩:∃ B,edB e=B:=⟨_,rfl⟩
 rw [hA] at x2 g1 g2 g5 ⊢
 rw [hB] at x3 g3 g4 g5 ⊢
 have l1:=hs.rdi (7*(t:Int)+A) qO qO
 have l2:=hs.rdi (7*(t:Int)+B) qO qO
 have v1:=hV (7*(t:Int)+A)
 have v2:=hV (7*(t:Int)+B)
 obtain ⟨X,hX⟩:∃ X,gi V (7*(t:Int)+A)=X:=⟨_,rfl⟩
 obtain ⟨Y,hY⟩:∃ Y,gi V (7*(t:Int)+B)=Y:=⟨_,rfl⟩
 rw [hX] at l1 v1 ⊢
 rw [hY] at l2 v2 ⊢
 have hr:=fun c' (hc:c<=c')=>Ans.eq (Zc9 s n V t A B h c' [] (hs.mono hc) htn hn ⟨g1,g2⟩ ⟨g3,g4⟩ g5 hV 3 0 (X+Y) qO qO qO)
 simp only [Int.ofNat_eq_natCast,Int.cast_ofNat_Int] at hr
 have fx:=ai Z8V (ai x1 (ai x2 (ai x3 (ai hs.ixs1 (ai l1 (ai l2 hr))))))
 refine Ans.go ?_
 clear fx
 (have fx:=True.intro; exact Ans.pu)
end Go.Proofs.Ytcnndelmnobigaa
