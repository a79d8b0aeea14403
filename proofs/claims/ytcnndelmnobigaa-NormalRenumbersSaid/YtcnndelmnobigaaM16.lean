/- Parts of a proof: N1 AbMat N2 N3 N4 N5 N6. Conditions: none. -/
import Derived.Test.YtcnndelmnobigaaM14
import Derived.Test.YtcnndelmnobigaaM15
set_option linter.all false
set_option maxRecDepth 100000
namespace Go.Proofs.Ytcnndelmnobigaa
open Go Go.Ab Go.Proofs
theorem Z96 {a:Value} (ha:Z0d a=true):((Value.agg #[a]).cells.toList.all Z0d)=true:=by simp [Value.cells,ha]
theorem Z8T (a:Value):(Value.agg #[a]).cells.toList=[a]:=rfl
theorem Zdr (s:Value) (n:Nat) (Gl:List Int) (h:FH) (c:Nat) (hs:SlI h c s 20 n Gl):callF G 70 [.agg #[s]] h c=some (.int .i64 (if n<=1000/\Z0w Gl n=true then 0 else 7),h,c):=Z0b (Zm6 s n Gl h c [] hs)
theorem Zjp (h:FH) (c:Nat) (df:List Nat):G (.fn 60) [] h c df=some ⟨.ret,[av tyT],h,c,[]⟩:=by
 refine Z0u (fun r e=>f60_go e) (by simp) ?_
 unfold ZiA
 have z1:Z3A [(.int .i64 0),(.int .i64 0),(.int .i64 0),(.int .i64 0),(.int .i64 0),(.int .i64 0),(.int .i64 0),(.int .i64 0),(.int .i64 0),(.int .i64 0),(.int .i64 0),(.int .i64 0),(.int .i64 0),(.int .i64 0),(.int .i64 0),(.int .i64 0)] [(0,4,av [-1,0,1,2]),(4,4,av [0,-1,2,1]),(8,4,av [1,2,-1,0]),(12,4,av [2,1,0,-1])]=some (av tyT):=rfl
 have z2:∀ (H:FH) (b:Nat) (cs:List Value),cs.length=16->stN (newB H b cs) 16 (.pointer (some ⟨b,0,none⟩)) (av tyT)=some (newB H b (ints tyT)):=fun H b cs hc=>stN_all H b 16 cs tyT rfl hc
 have z3:∀ (H:FH) (b:Nat),ldN (newB H b (ints tyT)) 16 (.pointer (some ⟨b,0,none⟩))=some (av tyT):=fun H b=>by rw [ldN_newB_same _ _ _ _ _ (by simp [tyT])]; rfl
 have fx:=ai bld4 (ai z1 (ai z2 z3))
 refine Ans.go ?_
 clear fx
 (have fx:=True.intro; exact Ans.pu)
theorem Z64 (h:FH) (c:Nat):callF G 60 [] h c=some (av tyT,h,c):=Z0b (Zjp h c [])
theorem Zdu (s:Value) (n:Nat) (V:List Int) (t f i:Int) (h:FH) (c:Nat) (df:List Nat) (hs:SlI h c s 1 n V) (ht:0<=t) (htn:7*t+7<=n) (hn:n<=1000000) (hf:0<=f) (hf4:f<4) (hi:0<=i) (hi4:i<4) (hne:i ≠ f)
 (hV:∀ j:Nat,j<n -> -1000000000000<=gi V j/\gi V j<=1000000000000) :
 G (.fn 50) [s,.int .i64 t,.int .i64 f,.int .i64 i] h c df=some ⟨.ret,[.int .i64 (Z5z V t f i)],h,c,[]⟩:=by
 refine Z0u (fun r e=>f50_go e) (by simp) ?_
 unfold ZiF Z5z
 have hr:=Z4s hi hi4 hf hf4 hne
 have k1:=hV (7*t+i).toNat qO
 have k2:=hV (7*t+4+ty i f).toNat qO
 have e1:(((7*t+i).toNat:Nat):Int)=7*t+i:=by omega
 have e2:(((7*t+4+ty i f).toNat:Nat):Int)=7*t+4+ty i f:=by omega
 rw [e1] at k1
 rw [e2] at k2
 have l1:=hs.rdi (7*t+i) qO qO
 have l2:=hs.rdi (7*t+4+ty i f) qO qO
 have x1:=Z6R tyT 4 4 .i64 i hi qO rfl
 have hl4:((tyT.drop (i.toNat*4)).take 4).length=4:=by simp [tyT]; omega
 have x2:=Z7J ((tyT.drop (i.toNat*4)).take 4) 4 .i64 f hf qO hl4
 rw [show ((tyT.drop (i.toNat*4)).take 4).getD f.toNat 0=ty i f from rfl] at x2
 obtain ⟨R,hR⟩:∃ R,(tyT.drop (i.toNat*4)).take 4=R:=⟨_,rfl⟩
 rw [hR] at x1 x2
 obtain ⟨T,hT⟩:∃ T,ty i f=T:=⟨_,rfl⟩
 rw [hT] at x2 l2 k2 hr ⊢
 obtain ⟨A,hA⟩:∃ A,gi V (7*t+i)=A:=⟨_,rfl⟩
 obtain ⟨B,hB⟩:∃ B,gi V (7*t+4+T)=B:=⟨_,rfl⟩
 rw [hA] at l1 k1 ⊢
 rw [hB] at l2 k2 ⊢
 have fx:=ai hs.ixs1 (ai l1 (ai l2 (ai Z64 (ai x1 x2))))
 refine Ans.go ?_
 clear fx
 (have fx:=True.intro; exact Ans.pu)
theorem ZjP {L:List Int} {i n:Nat} (hL:L.length=n) (hi:i<n):nzC (L.drop i)=(if L.getD i 0=0 then 0 else 1)+nzC (L.drop (i+1)):=by
 rw [List.drop_eq_getElem_cons qO,nzC]
 have:L.getD i 0=L[i]'qO:=by simp [List.getD,List.getElem?_eq_getElem (by omega:i<L.length)]
 rw [this]
theorem Zjc (s:Value) (n:Nat) (L:List Int) (h:FH) (c:Nat) (hs:SlI h c s 1 n L) (hn:n<=1000000) (df:List Nat):∀ (k i m:Nat),i+k=n->m<=i →
 Ans (G (Z9Q none) [.int .i64 m,s,.int .i64 n,.int .i64 i] h c df) fun r=>r=⟨.exit 0,[.int .i64 (m+nzC (L.drop i):Nat),s,.int .i64 n,.int .i64 n],h,c,df⟩:=by
 intro k
 have o1:=hs.okV
 induction k with
 | zero =>
  intro i m hi hm
  obtain rfl:i=n:=by omega
  refine Ans.lpG rfl rfl (Z4H ..) ?_
  unfold Z48
  have fx:=True.intro
  refine Ans.go ?_
  clear fx
  (have fx:=o1; refine Ans.ex0 ?_; clear fx)
  rw [List.drop_of_length_le (by have:=hs.1; omega)]
  rfl
 | succ k ih =>
  intro i m hi hm
  have hl:=hs.1
  have l1:=hs.rdi i qO qO
  simp only [Int.toNat_natCast] at l1
  rw [Z3U] at l1
  have hd:=ZjP (L:=L) (i:=i) (n:=n) qO qO
  obtain ⟨X,hX⟩:∃ X,L.getD i 0=X:=⟨_,rfl⟩
  rw [hX] at l1 hd
  refine Ans.lpG rfl rfl (Z4H ..) ?_
  unfold Z48
  repeat' (first | ((with_reducible first | refine Ans.bz ?_ | refine Ans.r1 ?_ | refine Ans.pkT ?_ | refine Ans.pkF ?_); try dsimp only [v_zero,v_succ]) | (with_reducible first | refine Ans.btL ?_ | refine Ans.bfL ?_ | refine Ans.gyT ?_ | refine Ans.gyF ?_ | refine Ans.gyG ?_ | refine Ans.bb ?_ | refine Ans.bc ?_ | refine Ans.ba ?_) | ((with_reducible first | refine Ans.lsT ?_ ?_ | refine Ans.leT ?_ ?_ | refine Ans.grT ?_ ?_ | refine Ans.geT ?_ ?_ | refine Ans.eqT ?_ ?_ | refine Ans.neT ?_ ?_); (focus omega)) | ((with_reducible first | refine Ans.lsF ?_ ?_ | refine Ans.leF ?_ ?_ | refine Ans.grF ?_ ?_ | refine Ans.geF ?_ ?_ | refine Ans.eqF ?_ ?_ | refine Ans.neF ?_ ?_); (focus omega)) | (with_reducible first | refine Ans.lsS (fun _=>?_) (fun _=>?_) | refine Ans.leS (fun _=>?_) (fun _=>?_) | refine Ans.grS (fun _=>?_) (fun _=>?_) | refine Ans.geS (fun _=>?_) (fun _=>?_) | refine Ans.eqS (fun _=>?_) (fun _=>?_) | refine Ans.neS (fun _=>?_) (fun _=>?_)) | ((with_reducible first | refine Ans.addN ?_ ?_ | refine Ans.add ?_ ?_ | refine Ans.sub ?_ ?_ | refine Ans.mul ?_ ?_); (focus omega)) | ((with_reducible first | refine Ans.ct ?_ ?_); (focus (simp (disch:=(first | omega | with_reducible assumption | (simp <;> omega) | fail)) [hs.ixs1,l1]; done))) | ((with_reducible first | refine Ans.cf ?_ ?_); (focus (simp (disch:=(first | omega | with_reducible assumption | (simp <;> omega) | fail)) [hs.ixs1,l1]; done))) | (refine Ans.step (by simp (disch:=(first | omega | with_reducible assumption | (simp <;> omega) | fail)) [hs.ixs1,l1,-List.getD_eq_getElem?_getD] <;> rfl) ?_; try dsimp only [v_zero,v_succ]) | fail)
  · rename_i hne
    rw [if_neg hne] at hd
    (have fx:=o1; refine Ans.nx0 ?_; clear fx)
    refine (ih (i+1) (m+1) qO qO).mono ?_
    rintro r rfl
    rw [hd,Nat.add_assoc]
  · rename_i heq
    rw [if_pos heq] at hd
    (have fx:=o1; refine Ans.nx0 ?_; clear fx)
    refine (ih (i+1) m qO qO).mono ?_
    rintro r rfl
    rw [hd,Nat.zero_add]
theorem Zog (s:Value) (n:Nat) (L:List Int) (h:FH) (c:Nat) (df:List Nat) (hs:SlI h c s 1 n L) (hn:n<=1000000) :
 G (.fn 56) [s] h c df=some ⟨.ret,[.bool (Zmc L)],h,c,[]⟩:=by
 refine Z0u (fun r e=>f56_go e) (by simp) ?_
 unfold ZiC
 have hl:=hs.len
 have hr:=Ans.eq (Zjc s n L h (c+1+1+1) (hs.mono qO) hn [] n 0 0 qO qO)
 rw [List.drop_zero,Nat.zero_add] at hr
 simp only [Int.ofNat_eq_natCast,Int.cast_ofNat_Int] at hr
 repeat' (first | ((with_reducible first | refine Ans.bz ?_ | refine Ans.r1 ?_ | refine Ans.pkT ?_ | refine Ans.pkF ?_); try dsimp only [v_zero,v_succ]) | (with_reducible first | refine Ans.btL ?_ | refine Ans.bfL ?_ | refine Ans.gyT ?_ | refine Ans.gyF ?_ | refine Ans.gyG ?_ | refine Ans.bb ?_ | refine Ans.bc ?_ | refine Ans.ba ?_) | ((with_reducible first | refine Ans.lsT ?_ ?_ | refine Ans.leT ?_ ?_ | refine Ans.grT ?_ ?_ | refine Ans.geT ?_ ?_ | refine Ans.eqT ?_ ?_ | refine Ans.neT ?_ ?_); (focus omega)) | ((with_reducible first | refine Ans.lsF ?_ ?_ | refine Ans.leF ?_ ?_ | refine Ans.grF ?_ ?_ | refine Ans.geF ?_ ?_ | refine Ans.eqF ?_ ?_ | refine Ans.neF ?_ ?_); (focus omega)) | (with_reducible first | refine Ans.lsS (fun _=>?_) (fun _=>?_) | refine Ans.leS (fun _=>?_) (fun _=>?_) | refine Ans.grS (fun _=>?_) (fun _=>?_) | refine Ans.geS (fun _=>?_) (fun _=>?_) | refine Ans.eqS (fun _=>?_) (fun _=>?_) | refine Ans.neS (fun _=>?_) (fun _=>?_)) | ((with_reducible first | refine Ans.addN ?_ ?_ | refine Ans.add ?_ ?_ | refine Ans.sub ?_ ?_ | refine Ans.mul ?_ ?_); (focus omega)) | ((with_reducible first | refine Ans.ct ?_ ?_); (focus (simp (disch:=(first | omega | with_reducible assumption | (simp <;> omega) | fail)) [hl,hr]; done))) | ((with_reducible first | refine Ans.cf ?_ ?_); (focus (simp (disch:=(first | omega | with_reducible assumption | (simp <;> omega) | fail)) [hl,hr]; done))) | (refine Ans.step (by simp (disch:=(first | omega | with_reducible assumption | (simp <;> omega) | fail)) [hl,hr,-List.getD_eq_getElem?_getD] <;> rfl) ?_; try dsimp only [v_zero,v_succ]) | fail)
 · rename_i hx
   exact Ans.pure (by simp [Zmc]; omega) (by simp)
 · rename_i hx
   exact Ans.pure (by simp [Zmc]; omega) (by simp)
theorem Zg2 (x:Int) (h:FH) (c:Nat) (df:List Nat):G (.fn 76) [.int .i64 x] h c df=some ⟨.ret,[.bool (!(decide (0<=x) && decide (x<=1000000)))],h,c,[]⟩:=by
 refine Z0u (fun r e=>f76_go e) (by simp) ?_
 unfold Ziu
 repeat' (first | ((with_reducible first | refine Ans.bz ?_ | refine Ans.r1 ?_ | refine Ans.pkT ?_ | refine Ans.pkF ?_); try dsimp only [v_zero,v_succ]) | (with_reducible first | refine Ans.btL ?_ | refine Ans.bfL ?_ | refine Ans.gyT ?_ | refine Ans.gyF ?_ | refine Ans.gyG ?_ | refine Ans.bb ?_ | refine Ans.bc ?_ | refine Ans.ba ?_) | ((with_reducible first | refine Ans.lsT ?_ ?_ | refine Ans.leT ?_ ?_ | refine Ans.grT ?_ ?_ | refine Ans.geT ?_ ?_ | refine Ans.eqT ?_ ?_ | refine Ans.neT ?_ ?_); (focus omega)) | ((with_reducible first | refine Ans.lsF ?_ ?_ | refine Ans.leF ?_ ?_ | refine Ans.grF ?_ ?_ | refine Ans.geF ?_ ?_ | refine Ans.eqF ?_ ?_ | refine Ans.neF ?_ ?_); (focus omega)) | (with_reducible first | refine Ans.lsS (fun _=>?_) (fun _=>?_) | refine Ans.leS (fun _=>?_) (fun _=>?_) | refine Ans.grS (fun _=>?_) (fun _=>?_) | refine Ans.geS (fun _=>?_) (fun _=>?_) | refine Ans.eqS (fun _=>?_) (fun _=>?_) | refine Ans.neS (fun _=>?_) (fun _=>?_)) | ((with_reducible first | refine Ans.addN ?_ ?_ | refine Ans.add ?_ ?_ | refine Ans.sub ?_ ?_ | refine Ans.mul ?_ ?_); (focus omega)) | ((with_reducible first | refine Ans.ct ?_ ?_); (focus (simp (disch:=(first | omega | with_reducible assumption | (simp <;> omega) | fail)) []; done))) | ((with_reducible first | refine Ans.cf ?_ ?_); (focus (simp (disch:=(first | omega | with_reducible assumption | (simp <;> omega) | fail)) []; done))) | (refine Ans.step (by simp (disch:=(first | omega | with_reducible assumption | (simp <;> omega) | fail)) [-List.getD_eq_getElem?_getD] <;> rfl) ?_; try dsimp only [v_zero,v_succ]) | fail)
 all_goals exact Ans.pure (by simp; omega) (by simp)
theorem Zoc (h:FH) (c:Nat) (v:Value):Z29 G h c (.func (.func 76) #[] #[]) [v]=callF G 76 [v] h c:=by rfl
theorem Zbg (x:Int) (h:FH) (c:Nat):Z29 G h c (.func (.func 76) #[] #[]) [.int .i64 x]=some (.bool (!(decide (0<=x) && decide (x<=1000000))),h,c):=by
 rw [Zoc]; exact Z0b (Zg2 x h c [])
theorem Zgd (s:Value) (n:Nat) (L:List Int) (h:FH) (c:Nat) (hs:SlI h c s 1 n L) (hn:n<=9000000000) (df:List Nat):∀ (k i:Nat) (z:Value),i+k=n->OkV c z →
 Ans (G (Z9K none) [s,.func (.func 76) #[] #[],z,.int .i64 n,.int .i64 i] h c df) fun r=>r.h=h/\r.c=c/\r.df=df ∧
  ((r.e = .exit 0/\Z13 (L.drop i)=true) ∨ (r.e = .ret/\(∃ j:Nat,r.v 2 = .int .i64 j)/\Z13 (L.drop i)=false)):=by
 intro k
 have o1:=hs.okV
 have o2:=OkV.fn c 76
 induction k with
 | zero =>
  intro i z hi hz
  obtain rfl:i=n:=by omega
  refine Ans.lpG rfl rfl (Z4z ..) ?_
  unfold Z40
  have fx:=True.intro
  refine Ans.go ?_
  clear fx
  (have fx:=ai o1 (ai o2 hz); refine Ans.ex0 ?_; clear fx)
  exact ⟨rfl,rfl,rfl,.inl ⟨rfl,by rw [List.drop_of_length_le (by have:=hs.1; omega)]; rfl⟩⟩
 | succ k ih =>
  intro i z hi hz
  have hl:=hs.1
  have l1:=hs.rdi i qO qO
  simp only [Int.toNat_natCast] at l1
  rw [Z3U] at l1
  have hd:L.drop i=L.getD i 0::L.drop (i+1):=by
   rw [List.drop_eq_getElem_cons qO]
   congr 1
   simp [List.getD,List.getElem?_eq_getElem (by omega:i<L.length)]
  obtain ⟨X,hX⟩:∃ X,L.getD i 0=X:=⟨_,rfl⟩
  rw [hX] at l1 hd
  have c1:=fun H c=>Zbg X H c
  refine Ans.lpG rfl rfl (Z4z ..) ?_
  unfold Z40
  cases hq:(decide (0<=X) && decide (X<=1000000)) with
  | false =>
   rw [hq] at c1
   have fx:=ai hs.ixs1 (ai l1 c1)
   refine Ans.go ?_
   clear fx
   (have fx:=ai o1 (ai o2 hz); refine Ans.rt0 ?_; clear fx)
   exact ⟨rfl,rfl,rfl,.inr ⟨rfl,⟨i,rfl⟩,by rw [hd]; simp [Z13,hq]⟩⟩
  | true =>
   rw [hq] at c1
   have fx:=ai hs.ixs1 (ai l1 c1)
   refine Ans.go ?_
   clear fx
   (have fx:=ai o1 (ai o2 hz); refine Ans.nx0 ?_; clear fx)
   have e:Z13 (L.drop i)=Z13 (L.drop (i+1)):=by rw [hd]; simp only [Z13,List.all_cons,hq,Bool.true_and]
   rw [e]
   exact ih (i+1) z qO hz
theorem Zhf (s:Value) (n:Nat) (L:List Int) (h:FH) (c:Nat) (df:List Nat) (hs:SlI h c s 1 n L) (hn:n<=9000000000) :
 G (.fn 55) [s] h c df=some ⟨.ret,[.bool (Z13 L)],h,c,[]⟩:=by
 have hl:=hs.len
 have k90:∀ c',c<=c' -> ∃ z:Int,(0<=z ↔ Z13 L=false)/\callF G 90 [s,.func (.func 76) #[] #[]] h c'=some (.int .i64 z,h,c'):=fun c' hc=>by
  obtain ⟨⟨re,rv,rh,rc,rd⟩,hr,r1,r2,r3,r4⟩:=Zgd s n L h (c'+1+1) (hs.mono qO) hn [] n 0 (.int .i64 0) qO (by simp)
  simp only at r1 r2 r3 r4
  subst r1 r2 r3
  simp only [Int.ofNat_eq_natCast,Int.cast_ofNat_Int] at hr
  rw [List.drop_zero] at r4
  rcases r4 with ⟨rfl,r5⟩ | ⟨rfl,⟨j,r5⟩,r6⟩
  · refine ⟨-1,by simp [r5],Z0b (Z0u (fun r e=>ZmH e) (by simp) ?_)⟩
    unfold Zgi
    have fx:=ai hl hr
    refine Ans.go ?_
    clear fx
    exact Ans.pure rfl (by simp)
  · refine ⟨j,by simp [r6],Z0b (Z0u (fun r e=>ZmH e) (by simp) ?_)⟩
    unfold Zgi
    have fx:=ai hl hr
    refine Ans.go ?_
    clear fx
    exact Ans.pure r5 (by simp)
 have k75:∀ c',c<=c'->callF G 75 [s,.func (.func 76) #[] #[]] h c'=some (.bool (!Z13 L),h,c'):=fun c' hc=>by
  refine Z0b (Z0u (fun r e=>f75_go e) (by simp) ?_)
  unfold Ziv
  obtain ⟨z,hz,c1⟩:=k90 (c'+1+1) qO
  cases hv:Z13 L with
  | true =>
   rw [hv] at hz
   have:¬ 0<=z:=fun h=>by simpa using hz.1 h
   have fx:=c1
   refine Ans.go ?_
   clear fx
   exact Ans.pure rfl (by simp)
  | false =>
   rw [hv] at hz
   have:0<=z:=hz.2 rfl
   have fx:=c1
   refine Ans.go ?_
   clear fx
   exact Ans.pure rfl (by simp)
 refine Z0u (fun r e=>f55_go e) (by simp) ?_
 unfold ZiD
 have c1:=k75 (c+1+1) qO
 have fx:=c1
 refine Ans.go ?_
 clear fx
 exact Ans.pure (by simp) (by simp)
theorem Zjy (s:Value) (n:Nat) (Gl:List Int) (h:FH) (c:Nat) (df:List Nat) (hs:SlI h c s 20 n Gl) :
 G (.fn 12) [.agg #[s]] h c df=some ⟨.ret,[.bool (decide (n<=6))],h,c,[]⟩:=by
 refine Z0u (fun r e=>f12_go e) (by simp) ?_
 unfold Zo0
 rw [Z96 hs.flat,Z8T,Nat.add_zero]
 simp only [cond_true]
 have hl:=hs.len
 repeat' (first | ((with_reducible first | refine Ans.bz ?_ | refine Ans.r1 ?_ | refine Ans.pkT ?_ | refine Ans.pkF ?_); try dsimp only [v_zero,v_succ]) | (with_reducible first | refine Ans.btL ?_ | refine Ans.bfL ?_ | refine Ans.gyT ?_ | refine Ans.gyF ?_ | refine Ans.gyG ?_ | refine Ans.bb ?_ | refine Ans.bc ?_ | refine Ans.ba ?_) | ((with_reducible first | refine Ans.lsT ?_ ?_ | refine Ans.leT ?_ ?_ | refine Ans.grT ?_ ?_ | refine Ans.geT ?_ ?_ | refine Ans.eqT ?_ ?_ | refine Ans.neT ?_ ?_); (focus omega)) | ((with_reducible first | refine Ans.lsF ?_ ?_ | refine Ans.leF ?_ ?_ | refine Ans.grF ?_ ?_ | refine Ans.geF ?_ ?_ | refine Ans.eqF ?_ ?_ | refine Ans.neF ?_ ?_); (focus omega)) | (with_reducible first | refine Ans.lsS (fun _=>?_) (fun _=>?_) | refine Ans.leS (fun _=>?_) (fun _=>?_) | refine Ans.grS (fun _=>?_) (fun _=>?_) | refine Ans.geS (fun _=>?_) (fun _=>?_) | refine Ans.eqS (fun _=>?_) (fun _=>?_) | refine Ans.neS (fun _=>?_) (fun _=>?_)) | ((with_reducible first | refine Ans.addN ?_ ?_ | refine Ans.add ?_ ?_ | refine Ans.sub ?_ ?_ | refine Ans.mul ?_ ?_); (focus omega)) | ((with_reducible first | refine Ans.ct ?_ ?_); (focus (simp (disch:=(first | omega | with_reducible assumption | (simp <;> omega) | fail)) [hl]; done))) | ((with_reducible first | refine Ans.cf ?_ ?_); (focus (simp (disch:=(first | omega | with_reducible assumption | (simp <;> omega) | fail)) [hl]; done))) | (refine Ans.step (by simp (disch:=(first | omega | with_reducible assumption | (simp <;> omega) | fail)) [hl,-List.getD_eq_getElem?_getD] <;> rfl) ?_; try dsimp only [v_zero,v_succ]) | fail)
 all_goals exact Ans.pure (by simp; omega) (by simp (disch:=omega))
def ZhL (Gl:List Int) (n:Nat):Int:=if n<=1000/\Z0w Gl n=true then (if 60<n then 2 else 0) else 7
theorem ZfY (s:Value) (n:Nat) (Gl:List Int) (h:FH) (c:Nat) (df:List Nat) (hs:SlI h c s 20 n Gl) :
 G (.fn 43) [.agg #[s]] h c df=some ⟨.ret,[.int .i64 (ZhL Gl n)],h,c,[]⟩:=by
 refine Z0u (fun r e=>f43_go e) (by simp) ?_
 unfold ZiN
 rw [Z96 hs.flat,Z8T,Nat.add_zero]
 simp only [cond_true]
 have hl:=hs.len
 have sH:Z0E c h (newB h (256*c) [s]):=by simp (disch:=omega)
 have g1:Z07 (newB h (256*c) [s]) (256*c) [s]:=Z07.newB_same _ _ _
 have l1:=Z0F g1
 have l2:ld1 (newB h (256*c) [s]) (.pointer (some ⟨256*c,0,none⟩))=some s:=by rw [Z03 g1]; rfl
 have c1:=Zdr s n Gl (newB h (256*c) [s]) (c+1+1) ((hs.same sH).mono qO)
 unfold ZhL
 by_cases hok:n<=1000/\Z0w Gl n=true
 case neg =>
  rw [if_neg hok] at c1 ⊢
  have fx:=ai l1 (ai l2 (ai hl c1))
  refine Ans.go ?_
  clear fx
  exact Ans.pure rfl sH
 rw [if_pos hok] at c1 ⊢
 repeat' (first | ((with_reducible first | refine Ans.bz ?_ | refine Ans.r1 ?_ | refine Ans.pkT ?_ | refine Ans.pkF ?_); try dsimp only [v_zero,v_succ]) | (with_reducible first | refine Ans.btL ?_ | refine Ans.bfL ?_ | refine Ans.gyT ?_ | refine Ans.gyF ?_ | refine Ans.gyG ?_ | refine Ans.bb ?_ | refine Ans.bc ?_ | refine Ans.ba ?_) | ((with_reducible first | refine Ans.lsT ?_ ?_ | refine Ans.leT ?_ ?_ | refine Ans.grT ?_ ?_ | refine Ans.geT ?_ ?_ | refine Ans.eqT ?_ ?_ | refine Ans.neT ?_ ?_); (focus omega)) | ((with_reducible first | refine Ans.lsF ?_ ?_ | refine Ans.leF ?_ ?_ | refine Ans.grF ?_ ?_ | refine Ans.geF ?_ ?_ | refine Ans.eqF ?_ ?_ | refine Ans.neF ?_ ?_); (focus omega)) | (with_reducible first | refine Ans.lsS (fun _=>?_) (fun _=>?_) | refine Ans.leS (fun _=>?_) (fun _=>?_) | refine Ans.grS (fun _=>?_) (fun _=>?_) | refine Ans.geS (fun _=>?_) (fun _=>?_) | refine Ans.eqS (fun _=>?_) (fun _=>?_) | refine Ans.neS (fun _=>?_) (fun _=>?_)) | ((with_reducible first | refine Ans.addN ?_ ?_ | refine Ans.add ?_ ?_ | refine Ans.sub ?_ ?_ | refine Ans.mul ?_ ?_); (focus omega)) | ((with_reducible first | refine Ans.ct ?_ ?_); (focus (simp (disch:=(first | omega | with_reducible assumption | (simp <;> omega) | fail)) [l1,l2,hl,c1]; done))) | ((with_reducible first | refine Ans.cf ?_ ?_); (focus (simp (disch:=(first | omega | with_reducible assumption | (simp <;> omega) | fail)) [l1,l2,hl,c1]; done))) | (refine Ans.step (by simp (disch:=(first | omega | with_reducible assumption | (simp <;> omega) | fail)) [l1,l2,hl,c1,-List.getD_eq_getElem?_getD] <;> rfl) ?_; try dsimp only [v_zero,v_succ]) | fail)
 · exact Ans.pure (by rw [if_pos qO]) sH
 · exact Ans.pure (by rw [if_neg qO]) sH
end Go.Proofs.Ytcnndelmnobigaa

namespace Go.Ab
open Go
def Z3Q (Gl:List Int) (t f i:Nat):List Int:=[(t:Int),(f:Int),(i:Int),Z0z (Z01 Gl t f),(Z0c (Z01 Gl t f)).getD f 0,(Z0c (Z01 Gl t f)).getD i 0]
def Z1Z (Gl:List Int) (t f:Nat):Bool:=decide (Z0z (Z01 Gl t f)<0) || decide (Z0z (Z01 Gl t f)<t) || (decide (Z0z (Z01 Gl t f)=t) && decide ((Z0c (Z01 Gl t f)).getD f 0<f))
def mI (Gl:List Int) (t f:Nat):Nat->Nat->List (List Int)
 | 0,_=>[]
 | k+1,i=>(if i=f then [] else [Z3Q Gl t f i])++mI Gl t f k (i+1)
def mF (Gl:List Int) (t:Nat):Nat->Nat->List (List Int)
 | 0,_=>[]
 | k+1,f=>(if Z1Z Gl t f=true then [] else mI Gl t f 4 0)++mF Gl t k (f+1)
def mT (Gl:List Int):Nat->Nat->List (List Int)
 | 0,_=>[]
 | k+1,t=>mF Gl t 4 0++mT Gl k (t+1)
def Z2v (Gl:List Int) (n:Nat):List (List Int):=mT Gl n 0
theorem Zmz {Gl:List Int} {t f:Nat} {m:List Int}:∀ {k i:Nat},m ∈ mI Gl t f k i -> ∃ j,i<=j/\j<i+k/\j ≠ f/\m=Z3Q Gl t f j
 | 0,i,h=>by cases h
 | k+1,i,h=>by
  rcases List.mem_append.1 h with h | h
  · split at h
    · cases h
    · rename_i hne
      exact ⟨i,by omega,by omega,hne,List.mem_singleton.1 h⟩
  · obtain ⟨j,h1,h2,h3,h4⟩:=Zmz h
    exact ⟨j,by omega,by omega,h3,h4⟩
theorem ZmA {Gl:List Int} {t:Nat} {m:List Int}:∀ {k f:Nat},m ∈ mF Gl t k f -> ∃ g i,f<=g/\g<f+k/\i<4/\i ≠ g/\Z1Z Gl t g=false/\m=Z3Q Gl t g i
 | 0,f,h=>by cases h
 | k+1,f,h=>by
  rcases List.mem_append.1 h with h | h
  · split at h
    · cases h
    · rename_i hne
      obtain ⟨j,h1,h2,h3,h4⟩:=Zmz h
      exact ⟨f,j,by omega,by omega,by omega,h3,by simpa using hne,h4⟩
  · obtain ⟨g,i,h1,h2,h3⟩:=ZmA h
    exact ⟨g,i,by omega,by omega,h3⟩
theorem Zmy {Gl:List Int} {m:List Int}:∀ {k t:Nat},m ∈ mT Gl k t -> ∃ u g i,t<=u/\u<t+k/\g<4/\i<4/\i ≠ g/\Z1Z Gl u g=false/\m=Z3Q Gl u g i
 | 0,t,h=>by cases h
 | k+1,t,h=>by
  rcases List.mem_append.1 h with h | h
  · obtain ⟨g,i,h1,h2,h3⟩:=ZmA h
    exact ⟨t,g,i,by omega,by omega,by omega,h3⟩
  · obtain ⟨u,g,i,h1,h2,h3⟩:=Zmy h
    exact ⟨u,g,i,by omega,by omega,h3⟩
theorem ZdV {Gl:List Int} {n:Nat} {m:List Int} (h:m ∈ Z2v Gl n):∃ u g i,u<n/\g<4/\i<4/\i ≠ g/\Z1Z Gl u g=false/\m=Z3Q Gl u g i:=by
 obtain ⟨u,g,i,h1,h2,h3⟩:=Zmy h
 exact ⟨u,g,i,by omega,h3⟩
theorem bld6 (a b c d e f:Int):Z3A [(.int .i64 0),(.int .i64 0),(.int .i64 0),(.int .i64 0),(.int .i64 0),(.int .i64 0)] [(0,1,.int .i64 a),(1,1,.int .i64 b),(2,1,.int .i64 c),(3,1,.int .i64 d),(4,1,.int .i64 e),(5,1,.int .i64 f)]=some (av [a,b,c,d,e,f]):=(rfl)
theorem Z07.eqf {h h':FH} {b:Nat} {cs:List Value} (e:h'.f b=h.f b) (hh:Z07 h b cs):Z07 h' b cs:=by
 obtain ⟨ro,op,e1⟩:=hh
 exact ⟨ro,op,e.trans e1⟩
theorem ZmC {Gl:List Int} {t f j:Nat} (hne:j ≠ f):∀ {k i:Nat},i<=j->j<i+k->Z3Q Gl t f j ∈ mI Gl t f k i
 | 0,i,h1,h2=>by omega
 | k+1,i,h1,h2=>by
  rw [mI]
  by_cases e:i=j
  · subst e
    rw [if_neg hne]
    exact List.mem_append.2 (.inl (List.mem_singleton.2 rfl))
  · exact List.mem_append.2 (.inr (ZmC hne qO qO))
theorem ZmD {Gl:List Int} {t g i:Nat} (hi:i<4) (hne:i ≠ g) (hs:Z1Z Gl t g=false):∀ {k f:Nat},f<=g->g<f+k->Z3Q Gl t g i ∈ mF Gl t k f
 | 0,f,h1,h2=>by omega
 | k+1,f,h1,h2=>by
  rw [mF]
  by_cases e:f=g
  · subst e
    rw [if_neg (by rw [hs]; simp)]
    exact List.mem_append.2 (.inl (ZmC hne qO qO))
  · exact List.mem_append.2 (.inr (ZmD hi hne hs qO qO))
theorem ZmB {Gl:List Int} {u g i:Nat} (hg:g<4) (hi:i<4) (hne:i ≠ g) (hs:Z1Z Gl u g=false):∀ {k t:Nat},t<=u->u<t+k->Z3Q Gl u g i ∈ mT Gl k t
 | 0,t,h1,h2=>by omega
 | k+1,t,h1,h2=>by
  rw [mT]
  by_cases e:t=u
  · subst e
    exact List.mem_append.2 (.inl (ZmD hi hne hs qO qO))
  · exact List.mem_append.2 (.inr (ZmB hg hi hne hs qO qO))
theorem Zbj {Gl:List Int} {n u g i:Nat} (hu:u<n) (hg:g<4) (hi:i<4) (hne:i ≠ g) (hs:Z1Z Gl u g=false):Z3Q Gl u g i ∈ Z2v Gl n:=ZmB hg hi hne hs qO qO
def eqM (V m:List Int):Bool:=decide (Z5z V (m.getD 0 0) (m.getD 1 0) (m.getD 2 0)=Z5z V (m.getD 3 0) (m.getD 4 0) (m.getD 5 0))
def Z58 (V:List Int) (t:Nat):List Int:=(V.drop (7*t+4)).take 3
def Z5h (Gl:List Int) (n:Nat) (V:List Int):Bool:=decide (V.length=7*n) && Z13 V && ((List.range n).all fun t=>Zmc (Z58 V t)) && (Z2v Gl n).all fun m=>eqM V m
theorem Z5i {V:List Int} (h:Z13 V=true) (j:Nat):0<=gi V j/\gi V j<=1000000:=by
 unfold gi
 rw [Int.toNat_natCast]
 by_cases hj:j<V.length
 · have:=List.all_eq_true.1 h V[j] (List.getElem_mem hj)
   simpa [List.getD,List.getElem?_eq_getElem hj] using this
 · simp [List.getD,List.getElem?_eq_none (by omega:V.length<=j)]
theorem Znk {p:List Int} (hp:p ∈ p24) {i j:Nat} (hi:i<4) (hj:j<4) (hne:i ≠ j):p.getD i 0 ≠ p.getD j 0:=by
 have:=Z9i (Q:=fun p=>(List.range 4).all fun i=>(List.range 4).all fun j=>decide (i=j) || decide (p.getD i 0 ≠ p.getD j 0)) (by kernel_rfl) hp
 rw [List.all_eq_true] at this
 have h1:=this i (by simpa using hi)
 rw [List.all_eq_true] at h1
 have h2:=h1 j (by simpa using hj)
 simpa [hne,-List.getD_eq_getElem?_getD] using h2
theorem Zi2 {Gl:List Int} {n t f i:Nat} (hok:Z0w Gl n=true) (hG:Gl.length=n*20) (ht:t<n) (hf:f<4) (hi:i<4) (hne:i ≠ f) (hsk:Z1Z Gl t f=false) :
 (t:Int)<=Z0z (Z01 Gl t f)/\Z0z (Z01 Gl t f)<n/\Z0c (Z01 Gl t f) ∈ p24:=by
 have ok:=Z1Y hok ht hf
 simp only [Z1Z,Bool.or_eq_false_iff,decide_eq_false_iff_not] at hsk
 obtain ⟨⟨h1,h2⟩,_⟩:=hsk
 obtain ⟨g1,g2,_,_⟩:=Z1l ok h1
 exact ⟨by omega,g1,ZbI (Z0O (Z0n hG ht hf)) g2⟩
end Go.Ab

namespace Go.Proofs.Ytcnndelmnobigaa
open Go Go.Ab Go.Proofs
structure MatchI (y s:Value) (n:Nat) (Gl:List Int) (gb:Nat) (I:List (List Int)->(Nat->Prop)->FH->Nat->Prop) (J:(Nat->Prop)->FH->Nat->Prop):Prop where
 stab:∀ D O h c h' c',I D O h c->c<=c'->(∀ b,b<256*c->h'.f b=h.f b)->I D O h' c'
 jstab:∀ O h c h' c',J O h c->c<=c'->(∀ b,b<256*c->h'.f b=h.f b)->J O h' c'
 own:∀ D O h c,I D O h c -> ∀ b,O b->b<256*c
 read:∀ D O h c,I D O h c->Z07 h gb [s]/\SlI h c s 20 n Gl
 step:∀ D O h c t f i,t<n->f<4->i<4->i ≠ f->Z1Z Gl t f=false->(∃ R,D++(Z3Q Gl t f i::R)=Z2v Gl n)->I D O h c →
  Ans (Z29 G h c y [av (Z3Q Gl t f i)]) (fun q=>c<=q.2.2 /\ ∃ O',(∀ b,O' b->O b ∨ 256*c<=b)/\(∀ b,b<256*c -> ¬ O b->q.2.1.f b=h.f b) ∧
   ((q.1 = .bool true/\I (D++[Z3Q Gl t f i]) O' q.2.1 q.2.2) ∨ (q.1 = .bool false/\J O' q.2.1 q.2.2)))
variable {y s:Value} {n:Nat} {Gl:List Int} {gb:Nat} {I:List (List Int)->(Nat->Prop)->FH->Nat->Prop} {J:(Nat->Prop)->FH->Nat->Prop}
set_option maxHeartbeats 1000000 in
theorem Znm (hI:MatchI y s n Gl gb I J) (t f:Nat) (ht:t<n) (hf:f<4) (hsk:Z1Z Gl t f=false) (hG:Gl.length=n*20) (b6:Nat) (v3 v9 v10 v16 v17:Value) (df:List Nat) :
 ∀ (k i c:Nat) (D:List (List Int)) (O:Nat->Prop) (h:FH),i+k=4->(∃ R,D++(mI Gl t f k i++R)=Z2v Gl n)->I D O h c->b6<256*c -> ¬ O b6->Z07 h b6 (ints (Z01 Gl t f)) →
 Ans (G (Z6T none) [y,.int .i64 t,.int .i64 f,ptrTo b6,v9,v10,v3,v16,v17,.int .i64 i] h c df) fun r=>c<=r.c/\r.df=df /\ ∃ O',(∀ b,O' b->O b ∨ 256*c<=b)/\(∀ b,b<256*c -> ¬ O b->r.h.f b=h.f b) ∧
  ((r.e = .exit 4/\r.vs=[y,.int .i64 t,.int .i64 f,ptrTo b6,v9,v10,v3,v16,v17,.int .i64 4]/\I (D++mI Gl t f k i) O' r.h r.c) ∨
   (r.e = .ret/\(∃ j:Nat,r.vs=[y,.int .i64 t,.int .i64 f,ptrTo b6,v9,v10,v3,v16,v17,.int .i64 j])/\J O' r.h r.c)):=by
 intro k
 induction k with
 | zero =>
  intro i c D O h hi hp hI0 hb6 hO hh
  obtain rfl:i=4:=by omega
  refine Ans.lpN rfl rfl (Z1P ..) ?_
  unfold Z22
  have fx:=True.intro
  refine Ans.go ?_
  clear fx
  refine Ans.exitN ⟨(by show c<=c+1; omega),rfl,O,fun b hb=>.inl hb,fun b _ _=>rfl,.inl ⟨rfl,rfl, ?_⟩⟩
  rw [mI,List.append_nil]
  exact hI.stab _ _ _ _ _ _ hI0 (by show c<=c+1; omega) (fun b _=>rfl)
 | succ k ih =>
  intro i c D O h hi hp hI0 hb6 hO hh
  obtain ⟨R,hp⟩:=hp
  have hfl:=Z0n hG ht hf
  have hit:(i:Int)<4:=by omega
  have m0:ld1 h (.pointer (some ⟨b6,0,none⟩))=some (.int .i64 (Z0z (Z01 Gl t f))):=by rw [Z03 hh,ints_getD _ _ qO]; rfl
  have mp:∀ j:Nat,j<4->ld1 h (.pointer (some ⟨b6,1+j,none⟩))=some (.int .i64 ((Z0c (Z01 Gl t f)).getD j 0)):=fun j hj=>by
   rw [Z03 hh,ints_getD _ _ qO]
   unfold Z0c
   rw [Z3V _ _ _ hj,Z3W]
  have m1:=mp f hf
  have m2:=mp i qO
  by_cases hif:i=f
  · subst hif
    refine Ans.lpN rfl rfl (Z1P ..) ?_
    unfold Z22
    have fx:=True.intro
    refine Ans.go ?_
    clear fx
    refine Ans.nextN ?_
    refine (ih (i+1) _ D O h qO ⟨R,by rw [mI,if_pos rfl,List.nil_append] at hp; exact hp⟩ (hI.stab _ _ _ _ _ _ hI0 qO (fun b _=>rfl)) qO hO hh).mono ?_
    rintro r ⟨q1,q2,O',q3,q4,q5⟩
    refine ⟨by omega,q2,O',fun b hb=>(q3 b hb).imp id qO,fun b h1 h2=>q4 b qO h2, ?_⟩
    rw [mI,if_pos rfl,List.nil_append]
    exact q5
  · rw [mI,if_neg hif] at hp
    obtain ⟨⟨v,h',c'⟩,hq,hc,O',o1,o2,o3⟩:=hI.step D O h (c+1+1+1) t f i ht hf qO hif hsk ⟨mI Gl t f k (i+1)++R,by simpa using hp⟩ (hI.stab _ _ _ _ _ _ hI0 qO (fun b _=>rfl))
    simp only at hc o1 o2 o3
    have hm:Z3Q Gl t f i=[(t:Int),(f:Int),(i:Int),Z0z (Z01 Gl t f),(Z0c (Z01 Gl t f)).getD f 0,(Z0c (Z01 Gl t f)).getD i 0]:=rfl
    have b6':=bld6 (t:Int) f i (Z0z (Z01 Gl t f)) ((Z0c (Z01 Gl t f)).getD f 0) ((Z0c (Z01 Gl t f)).getD i 0)
    rw [← hm] at b6'
    obtain ⟨M,hM⟩:∃ M,Z3Q Gl t f i=M:=⟨_,rfl⟩
    rw [hM] at hq b6' o3 hp
    have hne:¬ ((i:Int)=f):=by omega
    rcases o3 with ⟨rfl,hI1⟩ | ⟨rfl,hJ⟩
    · refine Ans.lpN rfl rfl (Z1P ..) ?_
      unfold Z22
      have fx:=ai m0 (ai m1 (ai m2 (ai b6' hq)))
      refine Ans.go ?_
      clear fx
      refine Ans.nextN ?_
      refine (ih (i+1) _ (D++[M]) O' h' qO ⟨R,by simpa using hp⟩ (hI.stab _ _ _ _ _ _ hI1 qO (fun b _=>rfl)) qO (fun ho=>(o1 b6 ho).elim hO qO) (hh.eqf (o2 b6 qO hO))).mono ?_
      rintro r ⟨q1,q2,O2,q3,q4,q5⟩
      refine ⟨by omega,q2,O2,fun b hb=>?_,fun b h1 h2=>?_, ?_⟩
      · rcases q3 b hb with h1 | h1
        · exact (o1 b h1).imp id qO
        · exact .inr qO
      · rw [q4 b qO (fun ho=>(o1 b ho).elim h2 qO),o2 b qO h2]
      · rw [mI,if_neg hif,hM]
        rw [List.append_assoc] at q5
        exact q5
    · refine Ans.lpN rfl rfl (Z1P ..) ?_
      unfold Z22
      have fx:=ai m0 (ai m1 (ai m2 (ai b6' hq)))
      refine Ans.go ?_
      clear fx
      refine Ans.retN ⟨(by show c<=c'; omega),rfl,O',fun b hb=>(o1 b hb).imp id qO,fun b h1 h2=>o2 b qO h2,.inr ⟨rfl,⟨i,rfl⟩,hJ⟩⟩

variable {y s:Value} {n:Nat} {Gl:List Int} {gb:Nat} {I:List (List Int)->(Nat->Prop)->FH->Nat->Prop} {J:(Nat->Prop)->FH->Nat->Prop}
set_option maxHeartbeats 1000000 in
theorem Znn (hI:MatchI y s n Gl gb I J) (t:Nat) (ht:t<n) (hn:n<=1000000) (hG:Gl.length=n*20) (v9 v10:Value) (df:List Nat) :
 ∀ (k f c:Nat) (D:List (List Int)) (O:Nat->Prop) (h:FH),f+k=4->(∃ R,D++(mF Gl t k f++R)=Z2v Gl n)->I D O h c →
 Ans (G (Z6U none) [y,.int .i64 t,v9,v10,.int .i64 t,av (Z2x Gl t),.int .i64 f] h c df) fun r=>c<=r.c/\r.df=df /\ ∃ O',(∀ b,O' b->O b ∨ 256*c<=b)/\(∀ b,b<256*c -> ¬ O b->r.h.f b=h.f b) ∧
  ((r.e = .exit 2/\r.vs=[y,.int .i64 t,v9,v10,.int .i64 t,av (Z2x Gl t),.int .i64 4]/\I (D++mF Gl t k f) O' r.h r.c) ∨
   (r.e = .ret/\(∃ j:Nat,r.vs=[y,.int .i64 t,v9,v10,.int .i64 t,av (Z2x Gl t),.int .i64 j])/\J O' r.h r.c)):=by
 intro k
 induction k with
 | zero =>
  intro f c D O h hf hp hI0
  obtain rfl:f=4:=by omega
  refine Ans.lpN rfl rfl (Z4D ..) ?_
  unfold Z44
  have fx:=True.intro
  refine Ans.go ?_
  clear fx
  refine Ans.exitN ⟨(by show c<=c+1; omega),rfl,O,fun b hb=>.inl hb,fun b _ _=>rfl,.inl ⟨rfl,rfl, ?_⟩⟩
  rw [mF,List.append_nil]
  exact hI.stab _ _ _ _ _ _ hI0 (by show c<=c+1; omega) (fun b _=>rfl)
 | succ k ih =>
  intro f c D O h hf hp hI0
  obtain ⟨R,hp⟩:=hp
  have hf4:f<4:=by omega
  have hfl:=Z0n hG ht hf4
  have hrl:=Z5X hG ht
  have x1:=Z6R (Z2x Gl t) 4 5 .i64 f qO qO hrl
  rw [Int.toNat_natCast,ZdM hf4] at x1
  obtain ⟨H,hH⟩:∃ H,H=newB h (256*(c+1)+2) (ints (Z01 Gl t f)):=⟨_,rfl⟩
  have hst:stN (newB h (256*(c+1)+2) [.int .i64 0,.int .i64 0,.int .i64 0,.int .i64 0,.int .i64 0]) 5 (.pointer (some ⟨256*(c+1)+2,0,none⟩)) (av (Z01 Gl t f))=some H:=by rw [hH]; exact stN_all _ _ 5 _ _ hfl rfl
  have hh:Z07 H (256*(c+1)+2) (ints (Z01 Gl t f)):=by rw [hH]; exact Z07.newB_same _ _ _
  have hs:∀ b,b<256*c->H.f b=h.f b:=fun b hb=>by rw [hH,Z06,if_neg qO]
  clear hH
  have m0:ld1 H (.pointer (some ⟨256*(c+1)+2,0,none⟩))=some (.int .i64 (Z0z (Z01 Gl t f))):=by rw [Z03 hh,ints_getD _ _ qO]; rfl
  have m1:ld1 H (.pointer (some ⟨256*(c+1)+2,1+f,none⟩))=some (.int .i64 ((Z0c (Z01 Gl t f)).getD f 0)):=by
   rw [Z03 hh,ints_getD _ _ qO]
   unfold Z0c
   rw [Z3V _ _ _ hf4,Z3W]
  have hsk:Z1Z Gl t f=(decide (Z0z (Z01 Gl t f)<0) || decide (Z0z (Z01 Gl t f)<t) || (decide (Z0z (Z01 Gl t f)=t) && decide ((Z0c (Z01 Gl t f)).getD f 0<f))):=rfl
  have skip:∀ c',c<=c'->Z1Z Gl t f=true->Ans (G (Z6U none) [y,.int .i64 t,v9,v10,.int .i64 t,av (Z2x Gl t),.int .i64 (f+1:Nat)] H c' df) fun r=>c<=r.c/\r.df=df /\ ∃ O',(∀ b,O' b->O b ∨ 256*c<=b)/\(∀ b,b<256*c -> ¬ O b->r.h.f b=h.f b) ∧
   ((r.e = .exit 2/\r.vs=[y,.int .i64 t,v9,v10,.int .i64 t,av (Z2x Gl t),.int .i64 4]/\I (D++mF Gl t (k+1) f) O' r.h r.c) ∨
    (r.e = .ret/\(∃ j:Nat,r.vs=[y,.int .i64 t,v9,v10,.int .i64 t,av (Z2x Gl t),.int .i64 j])/\J O' r.h r.c)):=by
   intro c' hc' hk
   refine (ih (f+1) c' D O H qO ⟨R,by rw [mF,if_pos hk,List.nil_append] at hp; exact hp⟩ (hI.stab _ _ _ _ _ _ hI0 hc' hs)).mono ?_
   rintro r ⟨q1,q2,O',q3,q4,q5⟩
   refine ⟨by omega,q2,O',fun b hb=>(q3 b hb).imp id qO,fun b h1 h2=>by rw [q4 b qO h2,hs b h1], ?_⟩
   rw [mF,if_pos hk,List.nil_append]
   exact q5
  have inner:∀ c':Nat,c+2<=c'->Z1Z Gl t f=false->Ans (G (Z6T none) [y,.int .i64 t,.int .i64 f,ptrTo (256*(c+1)+2),v9,v10,.int .i64 t,av (Z2x Gl t),.int .i64 f,.int .i64 0] H c' df) fun r=>c'<=r.c/\r.df=df /\ ∃ O',(∀ b,O' b->O b ∨ 256*c'<=b)/\(∀ b,b<256*c' -> ¬ O b->r.h.f b=H.f b) ∧
   ((r.e = .exit 4/\r.vs=[y,.int .i64 t,.int .i64 f,ptrTo (256*(c+1)+2),v9,v10,.int .i64 t,av (Z2x Gl t),.int .i64 f,.int .i64 4]/\I (D++mI Gl t f 4 0) O' r.h r.c) ∨
    (r.e = .ret/\(∃ j:Nat,r.vs=[y,.int .i64 t,.int .i64 f,ptrTo (256*(c+1)+2),v9,v10,.int .i64 t,av (Z2x Gl t),.int .i64 f,.int .i64 j])/\J O' r.h r.c)):=fun c' hc' hk =>
   Znm hI t f ht hf4 hk hG (256*(c+1)+2) (.int .i64 t) v9 v10 (av (Z2x Gl t)) (.int .i64 f) df 4 0 c' D O H qO ⟨mF Gl t k (f+1)++R,by rw [mF,if_neg (by rw [hk]; simp)] at hp; simpa using hp⟩ (hI.stab _ _ _ _ _ _ hI0 qO hs) qO (fun ho=>by have:=hI.own _ _ _ _ hI0 _ ho; omega) hh
  obtain ⟨T,hT⟩:∃ T,Z0z (Z01 Gl t f)=T:=⟨_,rfl⟩
  obtain ⟨Y,hY⟩:∃ Y,(Z0c (Z01 Gl t f)).getD f 0=Y:=⟨_,rfl⟩
  rw [hT] at m0 hsk
  rw [hY] at m1 hsk
  refine Ans.lpN rfl rfl (Z4D ..) ?_
  unfold Z44
  repeat' (first | ((with_reducible first | refine Ans.bz ?_ | refine Ans.r1 ?_ | refine Ans.pkT ?_ | refine Ans.pkF ?_); try dsimp only [v_zero,v_succ]) | (with_reducible first | refine Ans.btL ?_ | refine Ans.bfL ?_ | refine Ans.gyT ?_ | refine Ans.gyF ?_ | refine Ans.gyG ?_ | refine Ans.bb ?_ | refine Ans.bc ?_ | refine Ans.ba ?_) | ((with_reducible first | refine Ans.lsT ?_ ?_ | refine Ans.leT ?_ ?_ | refine Ans.grT ?_ ?_ | refine Ans.geT ?_ ?_ | refine Ans.eqT ?_ ?_ | refine Ans.neT ?_ ?_); (focus omega)) | ((with_reducible first | refine Ans.lsF ?_ ?_ | refine Ans.leF ?_ ?_ | refine Ans.grF ?_ ?_ | refine Ans.geF ?_ ?_ | refine Ans.eqF ?_ ?_ | refine Ans.neF ?_ ?_); (focus omega)) | (with_reducible first | refine Ans.lsS (fun _=>?_) (fun _=>?_) | refine Ans.leS (fun _=>?_) (fun _=>?_) | refine Ans.grS (fun _=>?_) (fun _=>?_) | refine Ans.geS (fun _=>?_) (fun _=>?_) | refine Ans.eqS (fun _=>?_) (fun _=>?_) | refine Ans.neS (fun _=>?_) (fun _=>?_)) | ((with_reducible first | refine Ans.addN ?_ ?_ | refine Ans.add ?_ ?_ | refine Ans.sub ?_ ?_ | refine Ans.mul ?_ ?_); (focus omega)) | ((with_reducible first | refine Ans.ct ?_ ?_); (focus (simp (disch:=(first | omega | with_reducible assumption | (simp <;> omega) | fail)) [x1,hst,m0,m1]; done))) | ((with_reducible first | refine Ans.cf ?_ ?_); (focus (simp (disch:=(first | omega | with_reducible assumption | (simp <;> omega) | fail)) [x1,hst,m0,m1]; done))) | (refine Ans.step (by simp (disch:=(first | omega | with_reducible assumption | (simp <;> omega) | fail)) [x1,hst,m0,m1,-List.getD_eq_getElem?_getD] <;> rfl) ?_; try dsimp only [v_zero,v_succ]) | fail)
  all_goals first
   | exact Ans.nextN (skip _ qO (by rw [hsk]; simp [*]))
   | skip
  all_goals
   have hk:Z1Z Gl t f=false:=by rw [hsk]; simp [*]
   refine Ans.head (inner _ qO hk) ?_
   rintro ⟨re,rv,rh,rc,rd⟩ ⟨q1,q2,O',q3,q4,q5⟩
   simp only at q1 q2 q4 q5
   subst q2
   rcases q5 with ⟨rfl,rfl,q6⟩ | ⟨rfl,⟨j,rfl⟩,q6⟩
   · have fx:=True.intro
     refine Ans.go ?_
     clear fx
     refine Ans.nextN ?_
     refine (ih (f+1) _ (D++mI Gl t f 4 0) O' rh qO ⟨R,by rw [mF,if_neg (by rw [hk]; simp)] at hp; simpa using hp⟩ (hI.stab _ _ _ _ _ _ q6 qO (fun b _=>rfl))).mono ?_
     rintro r ⟨w1,w2,O2,w3,w4,w5⟩
     refine ⟨by omega,w2,O2,fun b hb=>?_,fun b h1 h2=>?_, ?_⟩
     · rcases w3 b hb with h1 | h1
       · exact (q3 b h1).imp id qO
       · exact .inr qO
     · rw [w4 b qO (fun ho=>(q3 b ho).elim h2 qO),q4 b qO h2,hs b h1]
     · rw [mF,if_neg (by rw [hk]; simp)]
       rw [List.append_assoc] at w5
       exact w5
   · have fx:=True.intro
     refine Ans.go ?_
     clear fx
     exact Ans.retN ⟨(by show c<=rc; omega),rfl,O',fun b hb=>(q3 b hb).imp id qO,fun b h1 h2=>by show rh.f b=h.f b; rw [q4 b qO h2,hs b h1],.inr ⟨rfl,⟨f,rfl⟩,q6⟩⟩
set_option maxHeartbeats 1000000 in
theorem Znl (hI:MatchI y s n Gl gb I J) (hn:n<=1000000) (hG:Gl.length=n*20) (df:List Nat) :
 ∀ (k t c:Nat) (D:List (List Int)) (O:Nat->Prop) (h:FH),t+k=n->D++mT Gl k t=Z2v Gl n->I D O h c →
 Ans (G (Z9N none) [y,s,.int .i64 n,.int .i64 t] h c df) fun r=>c<=r.c/\r.df=df /\ ∃ O',(∀ b,O' b->O b ∨ 256*c<=b)/\(∀ b,b<256*c -> ¬ O b->r.h.f b=h.f b) ∧
  ((r.e = .exit 0/\I (D++mT Gl k t) O' r.h r.c) ∨ (r.e = .ret/\J O' r.h r.c)):=by
 intro k
 induction k with
 | zero =>
  intro t c D O h ht hp hI0
  obtain rfl:t=n:=by omega
  refine Ans.lpN rfl rfl (Z4E ..) ?_
  unfold Z45
  have fx:=True.intro
  refine Ans.go ?_
  clear fx
  refine Ans.exitN ⟨(by show c<=c+1; omega),rfl,O,fun b hb=>.inl hb,fun b _ _=>rfl,.inl ⟨rfl, ?_⟩⟩
  rw [mT,List.append_nil]
  exact hI.stab _ _ _ _ _ _ hI0 (by show c<=c+1; omega) (fun b _=>rfl)
 | succ k ih =>
  intro t c D O h ht hp hI0
  have htn:t<n:=by omega
  have hrl:=Z5X hG htn
  obtain ⟨hgb,hs0⟩:=hI.read _ _ _ _ hI0
  have l1:=hs0.row t qO qO
  simp only [Int.toNat_natCast] at l1
  obtain ⟨H,hH⟩:∃ H,H=newB h (256*(c+1)+3) (ints (Z2x Gl t)):=⟨_,rfl⟩
  have hst:stN (newB h (256*(c+1)+3) [(.int .i64 0),(.int .i64 0),(.int .i64 0),(.int .i64 0),(.int .i64 0),(.int .i64 0),(.int .i64 0),(.int .i64 0),(.int .i64 0),(.int .i64 0),(.int .i64 0),(.int .i64 0),(.int .i64 0),(.int .i64 0),(.int .i64 0),(.int .i64 0),(.int .i64 0),(.int .i64 0),(.int .i64 0),(.int .i64 0)]) 20 (.pointer (some ⟨256*(c+1)+3,0,none⟩)) (av (Z2x Gl t))=some H:=by rw [hH]; exact stN_all _ _ 20 _ _ hrl rfl
  have hld:ldN H 20 (.pointer (some ⟨256*(c+1)+3,0,none⟩))=some (av (Z2x Gl t)):=by
   rw [hH,ldN_newB_same _ _ _ _ _ (by simp [hrl]),List.drop_zero,List.take_of_length_le (by simp [hrl])]; rfl
  have hs:∀ b,b<256*c->H.f b=h.f b:=fun b hb=>by rw [hH,Z06,if_neg qO]
  clear hH
  have inner:=Znn hI t htn hn hG s (.int .i64 n) df 4 0 (c+1+1+1) D O H qO ⟨mT Gl k (t+1),by rw [mT] at hp; exact hp⟩ (hI.stab _ _ _ _ _ _ hI0 qO hs)
  refine Ans.lpN rfl rfl (Z4E ..) ?_
  unfold Z45
  have fx:=ai hs0.ixs (ai l1 (ai hst hld))
  refine Ans.go ?_
  clear fx
  refine Ans.head inner ?_
  rintro ⟨re,rv,rh,rc,rd⟩ ⟨q1,q2,O',q3,q4,q5⟩
  simp only at q1 q2 q4 q5
  subst q2
  rcases q5 with ⟨rfl,rfl,q6⟩ | ⟨rfl,⟨j,rfl⟩,q6⟩
  · have fx:=True.intro
    refine Ans.go ?_
    clear fx
    refine Ans.nextN ?_
    refine (ih (t+1) _ (D++mF Gl t 4 0) O' rh qO (by rw [mT] at hp; simpa using hp) (hI.stab _ _ _ _ _ _ q6 qO (fun b _=>rfl))).mono ?_
    rintro r ⟨w1,w2,O2,w3,w4,w5⟩
    refine ⟨by omega,w2,O2,fun b hb=>?_,fun b h1 h2=>?_, ?_⟩
    · rcases w3 b hb with h1 | h1
      · exact (q3 b h1).imp id qO
      · exact .inr qO
    · rw [w4 b qO (fun ho=>(q3 b ho).elim h2 qO),q4 b qO h2,hs b h1]
    · rw [mT]
      rw [List.append_assoc] at w5
      exact w5
  · have fx:=True.intro
    refine Ans.go ?_
    clear fx
    exact Ans.retN ⟨(by show c<=rc; omega),rfl,O',fun b hb=>(q3 b hb).imp id qO,fun b h1 h2=>by show rh.f b=h.f b; rw [q4 b qO h2,hs b h1],.inr ⟨rfl,q6⟩⟩
theorem Zg6 (hI:MatchI y s n Gl gb I J) (hn:n<=1000000) {O:Nat->Prop} {h:FH} {c:Nat} (hI0:I [] O h c) (df:List Nat) :
 Ans (G (.fn 77) [y,ptrTo gb] h c df) fun r=>r.e = .ret/\r.vs=[.tuple #[]]/\r.df=[]/\c<=r.c /\ ∃ O',(∀ b,O' b->O b ∨ 256*c<=b)/\(∀ b,b<256*c -> ¬ O b->r.h.f b=h.f b)/\(I (Z2v Gl n) O' r.h r.c ∨ J O' r.h r.c):=by
 refine Ans.call' (fun r e=>f77_go e) ?_
 obtain ⟨hgb,hs0⟩:=hI.read _ _ _ _ hI0
 have hlen:=hs0.len
 have e2:ld1 h (.pointer (some ⟨gb,0,none⟩))=some s:=by rw [Z03 hgb]; rfl
 have inner:=Znl hI hn hs0.1 [] n 0 (c+1) [] O h qO rfl (hI.stab _ _ _ _ _ _ hI0 qO (fun b _=>rfl))
 simp only [Int.ofNat_eq_natCast,Int.cast_ofNat_Int] at inner
 unfold Zit
 have fx:=ai hlen e2
 refine Ans.go ?_
 clear fx
 refine Ans.head inner ?_
 rintro ⟨re,rv,rh,rc,rd⟩ ⟨q1,q2,O',q3,q4,q5⟩
 simp only at q1 q2 q4 q5
 subst q2
 rcases q5 with ⟨rfl,q6⟩ | ⟨rfl,q6⟩
 · have fx:=True.intro
   refine Ans.go ?_
   clear fx
   exact .done ⟨rfl,rfl,rfl,(by show c<=rc; omega),O',fun b hb=>(q3 b hb).imp id qO,fun b h1 h2=>q4 b qO h2,.inl q6⟩
 · have fx:=True.intro
   refine Ans.go ?_
   clear fx
   exact .done ⟨rfl,rfl,rfl,(by show c<=rc; omega),O',fun b hb=>(q3 b hb).imp id qO,fun b h1 h2=>q4 b qO h2,.inr q6⟩

structure RoundI (s:Value) (n:Nat) (Gl:List Int) (gb l cl:Nat) (st:ALoop) (pe:Option Code) (vs:List Value) (I:List (List Int)->(Nat->Prop)->FH->Nat->Prop) (J:(Nat->Prop)->FH->Nat->Prop):Prop where
 stab:∀ D O h c h' c',I D O h c->c<=c'->(∀ b,b<256*c->b ≠ l->h'.f b=h.f b)->I D O h' c'
 jstab:∀ O h c h' c',J O h c->c<=c'->(∀ b,b<256*c->b ≠ l->h'.f b=h.f b)->J O h' c'
 own:∀ D O h c,I D O h c -> ∀ b,O b->b<256*c
 ownJ:∀ O h c,J O h c -> ∀ b,O b->b<256*c
 read:∀ D O h c,I D O h c->Z07 h gb [s]/\SlI h c s 20 n Gl
 step:∀ D O h c t f i,t<n->f<4->i<4->i ≠ f->Z1Z Gl t f=false->(∃ R,D++(Z3Q Gl t f i::R)=Z2v Gl n)->cl<=c->I D O h c->h.f l=some (.loop st) →
  Ans (G (.rnd st.nt st.lin st.fr st.params l st.assign st.body) (av (Z3Q Gl t f i)::vs) h c []) (fun r=>c<=r.c /\ ∃ O',(∀ b,O' b->O b ∨ 256*c<=b)/\(∀ b,b<256*c -> ¬ O b->b ≠ l->r.h.f b=h.f b) ∧
   ((r.vs=[.bool true]/\r.h.f l=some (.loop st)/\I (D++[Z3Q Gl t f i]) O' r.h r.c) ∨ (r.vs=[.bool false]/\r.h.f l=some (.loop { st with state:=.done,pending:=pe })/\J O' r.h r.c)))
theorem Z6g {s:Value} {n:Nat} {Gl:List Int} {gb nt:Nat} {lin:List Nat} {p:Nat} {a b:ACode} {vs:List Value} {h:FH} {c:Nat} {df:List Nat} {pe:Option Code} {ex:Ex} {I:List (List Int)->(Nat->Prop)->FH->Nat->Prop} {J:(Nat->Prop)->FH->Nat->Prop}
 (hn:n<=1000000) (hp:p<nt) (hex:exOf pe=some ex)
 (hI:RoundI s n Gl gb (256*c) (c+1) (Z5N nt lin #[p] a b vs (256*c+1)) pe vs I J) {O:Nat->Prop} (hO:∀ b,O b->b<256*c)
 (hI0:I [] O (Z2l h c nt lin #[p] a b vs) (c+1)) :
 Ans (Z4X G nt none lin [] #[p] a b (.func (.func 77) [].toArray [ptrTo gb].toArray) vs h c df) fun q =>
  ∃ rh O',q.2=(HeapC.del rh (256*c),q.2.2.1,(256*c+1)::df)/\c+1<=q.2.2.1/\rh.f (256*c+1)=some .dfr/\(∀ b,O' b->O b ∨ 256*c<=b)/\(∀ b,b<256*c -> ¬ O b->rh.f b=h.f b) ∧
   ((q.1 = .normal/\I (Z2v Gl n) O' rh q.2.2.1) ∨ (q.1=ex/\J O' rh q.2.2.1)):=by
 obtain ⟨st,hst⟩:∃ st,st=Z5N nt lin #[p] a b vs (256*c+1):=⟨_,rfl⟩
 obtain ⟨l,hl⟩:∃ l,l=256*c:=⟨_,rfl⟩
 rw [← hst,← hl] at hI
 have hst1:st.state = .ready:=by rw [hst]; rfl
 have hst2:st.vals=vs:=by rw [hst]; rfl
 have hst4:st.pending=none:=by rw [hst]; rfl
 have hst3:(Nat.beq [av ([]:List Int)].length st.params.length && Z5K st.params && st.params.all (Nat.blt · st.nt))=true:=by
  have:Nat.blt p nt=true:=by rw [Nat.blt_eq]; exact hp
  rw [hst]; simp [Z5N,Z5K,this]
 have hM:MatchI (.func (.yield l) #[] #[]) s n Gl gb
  (fun D O h c'=>c+1<=c'/\h.f l=some (.loop st) /\ ∃ O1:Nat->Prop,(∀ b,O b ↔ O1 b ∨ b=l) /\ ¬ O1 (l+1)/\I D O1 h c')
  (fun O h c'=>c+1<=c'/\h.f l=some (.loop { st with state:=.done,pending:=pe }) /\ ∃ O1:Nat->Prop,(∀ b,O b ↔ O1 b ∨ b=l) /\ ¬ O1 (l+1)/\J O1 h c'):=by
  refine ⟨fun D O h c1 h' c2 ⟨g1,g2,O1,g3,g4,g5⟩ hc hs=>⟨by omega,(hs l qO).trans g2,O1,g3,g4,hI.stab _ _ _ _ _ _ g5 hc (fun b hb _=>hs b hb)⟩,
   fun O h c1 h' c2 ⟨g1,g2,O1,g3,g4,g5⟩ hc hs=>⟨by omega,(hs l qO).trans g2,O1,g3,g4,hI.jstab _ _ _ _ _ g5 hc (fun b hb _=>hs b hb)⟩, ?_,fun D O h c1 ⟨g1,g2,O1,g3,g4,g5⟩=>hI.read _ _ _ _ g5, ?_⟩
  · rintro D O h c1 ⟨g1,g2,O1,g3,g4,g5⟩ b hb
    rcases (g3 b).1 hb with h1 | h1
    · exact hI.own _ _ _ _ g5 b h1
    · omega
  · rintro D O h c1 t f i ht hf hi hif hsk hpre ⟨g1,g2,O1,g3,g4,g5⟩
    refine Z8U (st:=st) g2 hst1 hst3 ?_
    obtain ⟨r,hr,q1,O2,q2,q3,q4⟩:=hI.step D O1 h c1 t f i ht hf hi hif hsk hpre g1 g5 g2
    rw [hst2]
    have k1:∀ b,O2 b ∨ b=l->O b ∨ 256*c1<=b:=fun b hb=>by
     rcases hb with hb | hb
     · exact (q2 b hb).imp (fun h=>(g3 b).2 (.inl h)) id
     · exact .inl ((g3 b).2 (.inr hb))
    have k2:∀ b,b<256*c1 -> ¬ O b->r.h.f b=h.f b:=fun b h1 h2=>q3 b h1 (fun ho=>h2 ((g3 b).2 (.inl ho))) (fun e=>h2 ((g3 b).2 (.inr e)))
    have k3:¬ O2 (l+1):=fun ho=>(q2 _ ho).elim g4 qO
    rcases q4 with ⟨w1,w2,w3⟩ | ⟨w1,w2,w3⟩
    · exact .intro hr ⟨_,w1,q1,fun b=>O2 b ∨ b=l,k1,k2,.inl ⟨rfl,by show c+1<=r.c; omega,w2,O2,fun b=>Iff.rfl,k3,w3⟩⟩
    · rw [hst2] at w2
      exact .intro hr ⟨_,w1,q1,fun b=>O2 b ∨ b=l,k1,k2,.inr ⟨rfl,by show c+1<=r.c; omega,w2,O2,fun b=>Iff.rfl,k3,w3⟩⟩
 have hE0:(Z2l h c nt lin #[p] a b vs).f l=some (.loop st):=by rw [Z3H,if_pos hl,hst]
 have hE1:(Z2l h c nt lin #[p] a b vs).f (l+1)=some .dfr:=by rw [Z3H,if_neg qO,if_pos qO]
 obtain ⟨⟨re,rv,rh,rc,rd⟩,hr,r1,r2,r3,r4,O',r5,r6,r7⟩:=Zg6 hM hn (O:=fun b=>O b ∨ b=l) (h:=Z2l h c nt lin #[p] a b vs) (c:=c+1) ⟨Nat.le_refl _,hE0,O,fun b=>Iff.rfl,fun ho=>by have:=hO _ ho; omega,hI0⟩ []
 simp only at r1 r2 r3 r4 r6 r7
 subst r1 r2 r3
 have d1:rh.f (l+1)=some .dfr:=by rw [r6 (l+1) qO (fun ho=>ho.elim (fun h=>by have:=hO _ h; omega) qO),hE1]
 have fr:∀ b,b<256*c -> ¬ O b->rh.f b=h.f b:=fun b h1 h2=>by
  rw [r6 b qO (fun ho=>ho.elim h2 qO),Z3H,if_neg qO,if_neg qO]
 rw [hl] at hr
 have own1:∀ O1:Nat->Prop,(∀ b,O' b ↔ O1 b ∨ b=l) -> ∀ b,O1 b->b ≠ l->O b ∨ 256*(c+1)<=b:=fun O1 g3 b hb hne=>by
  rcases r5 b ((g3 b).2 (.inl hb)) with h1 | h1
  · exact .inl (h1.resolve_right hne)
  · exact .inr h1
 rcases r7 with ⟨g1,g2,O1,g3,g4,g5⟩ | ⟨g1,g2,O1,g3,g4,g5⟩
 · refine (Z6h (Q:=fun q=>q=(.normal,HeapC.del rh (256*c),rc,(256*c+1)::df)) (.intro hr ⟨st,.normal,by rw [← hl]; exact g2,by rw [hst1]; simp,by rw [hst4]; rfl,rfl⟩)).mono ?_
   rintro _ rfl
   exact ⟨rh,O1,rfl,g1,by rw [← hl]; exact d1,fun b hb=>by
    by_cases e:b=l
    · exact .inr qO
    · exact (own1 O1 g3 b hb e).imp id qO,fr,.inl ⟨rfl,g5⟩⟩
 · refine (Z6h (Q:=fun q=>q=(ex,HeapC.del rh (256*c),rc,(256*c+1)::df)) (.intro hr ⟨_,ex,by rw [← hl]; exact g2,by simp,hex,rfl⟩)).mono ?_
   rintro _ rfl
   exact ⟨rh,O1,rfl,g1,by rw [← hl]; exact d1,fun b hb=>by
    by_cases e:b=l
    · exact .inr qO
    · exact (own1 O1 g3 b hb e).imp id qO,fr,.inr ⟨rfl,g5⟩⟩

structure ChI (s v:Value) (n nv:Nat) (Gl V:List Int) (gb vb rb cb:Nat) (D:List (List Int)) (O:Nat->Prop) (h:FH) (c:Nat):Prop where
 lc:cb<=c
 own:O=fun b=>b=rb
 g:Z07 h gb [s]
 sl:SlI h cb s 20 n Gl
 vv:Z07 h vb [v]
 vs:SlI h cb v 1 nv V
 res:h.f rb=some (.cells false none [.int .i64 0])
 ok:∀ m ∈ D,eqM V m=true
structure ChJ (n:Nat) (Gl V:List Int) (rb cb:Nat) (O:Nat->Prop) (h:FH) (c:Nat):Prop where
 lc:cb<=c
 own:O=fun b=>b=rb
 res:h.f rb=some (.cells false none [.int .i64 130])
 bad:(Z2v Gl n).all (fun m=>eqM V m)=false
set_option maxHeartbeats 1000000 in
theorem Zdn (s v:Value) (n nv:Nat) (Gl V:List Int) (gb vb rb cb l:Nat) (st:ALoop) (hst:st.state = .ready) (hst2:st.pending=none) (hok:Z0w Gl n=true) (hn:n<=60) (hnv:nv=7*n) (hW:Z13 V=true)
 (hgb:gb<256*cb) (hvb:vb<256*cb) (hrb:rb<256*cb) (hl:l<256*cb) (h1:l ≠ gb) (h2:l ≠ vb) (h3:l ≠ rb) (h4:256*cb<=256*cb) (hvr:vb ≠ rb) (hgr:gb ≠ rb) (hls:0<n->Z0D s ≠ l/\Z0D s ≠ rb) (hlv:0<n->Z0D v ≠ l/\Z0D v ≠ rb)
 {D:List (List Int)} {O:Nat->Prop} {h:FH} {c t f i:Nat} (ht:t<n) (hf:f<4) (hi:i<4) (hif:i ≠ f) (hsk:Z1Z Gl t f=false) (hI:ChI s v n nv Gl V gb vb rb cb D O h c) (hlp:h.f l=some (.loop st)) :
 Ans (Z31 G l (av (Z3Q Gl t f i)) (ptrTo rb) (ptrTo vb) h c) (fun r=>c<=r.c /\ ∃ O',(∀ b,O' b->O b ∨ 256*c<=b)/\(∀ b,b<256*c -> ¬ O b->b ≠ l->r.h.f b=h.f b) ∧
  ((r.vs=[.bool true]/\r.h.f l=some (.loop st)/\ChI s v n nv Gl V gb vb rb cb (D++[Z3Q Gl t f i]) O' r.h r.c) ∨
   (r.vs=[.bool false]/\r.h.f l=some (.loop { st with state:=.done,pending:=some .ret })/\ChJ n Gl V rb cb O' r.h r.c))):=by
 have hlc:=hI.lc
 have hG:=hI.sl.1
 obtain ⟨k1,k2,k3⟩:=Zi2 hok hG ht hf hi hif hsk
 have hmem:=Zbj (Gl:=Gl) (n:=n) ht hf hi hif hsk
 have hpf:=Z0C k3 hf
 have hpi:=Z0C k3 hi
 have hpn:=Znk k3 hi hf hif
 have heq:eqM V (Z3Q Gl t f i)=decide (Z5z V t f i=Z5z V (Z0z (Z01 Gl t f)) ((Z0c (Z01 Gl t f)).getD f 0) ((Z0c (Z01 Gl t f)).getD i 0)):=rfl
 have m0:(Z3Q Gl t f i).getD 0 0=t:=rfl
 have m1:(Z3Q Gl t f i).getD 1 0=f:=rfl
 have m2:(Z3Q Gl t f i).getD 2 0=i:=rfl
 have m3:(Z3Q Gl t f i).getD 3 0=Z0z (Z01 Gl t f):=rfl
 have m4:(Z3Q Gl t f i).getD 4 0=(Z0c (Z01 Gl t f)).getD f 0:=rfl
 have m5:(Z3Q Gl t f i).getD 5 0=(Z0c (Z01 Gl t f)).getD i 0:=rfl
 have ml:(Z3Q Gl t f i).length=6:=rfl
 obtain ⟨M,hM⟩:∃ M,Z3Q Gl t f i=M:=⟨_,rfl⟩
 obtain ⟨U,hU⟩:∃ U,Z0z (Z01 Gl t f)=U:=⟨_,rfl⟩
 obtain ⟨Y,hY⟩:∃ Y,(Z0c (Z01 Gl t f)).getD f 0=Y:=⟨_,rfl⟩
 obtain ⟨Z,hZ⟩:∃ Z,(Z0c (Z01 Gl t f)).getD i 0=Z:=⟨_,rfl⟩
 rw [hM] at heq m0 m1 m2 m3 m4 m5 ml hmem ⊢
 rw [hU] at k1 k2 m3 heq
 rw [hY] at hpf m4 heq hpn
 rw [hZ] at hpi m5 heq hpn
 have hn0:0<n:=by omega
 obtain ⟨ls1,ls2⟩:=hls hn0
 obtain ⟨lv1,lv2⟩:=hlv hn0
 have bs:=hI.sl.blk hn0
 have bv:=hI.vs.blk qO
 obtain ⟨H,hH⟩:∃ H,H=HeapC.set (newB h (256*c) (ints M)) l (.loop { st with state:=.busy }):=⟨_,rfl⟩
 have hb:Z1R (newB h (256*c) (ints M)) l=some H:=by
  rw [hH]
  exact Z7v (by rw [get_newB_ne _ _ _ _ qO]; exact hlp) hst
 have r0:∀ j,j<256*c->j ≠ l->H.f j=h.f j:=by
  intro j hj hne
  rw [hH,Z0r,if_neg hne,Z06,if_neg qO]
 have hA:Z07 H (256*c) (ints M):=by rw [hH]; exact ((Z07.newB_same h _ _).set_ne qO)
 have rd:∀ j:Nat,j<6->ld1 H (.pointer (some ⟨256*c,j,none⟩))=some (.int .i64 (M.getD j 0)):=fun j hj=>by rw [Z03 hA,ints_getD _ _ qO]
 have a0:=rd 0 qO
 have a1:=rd 1 qO
 have a2:=rd 2 qO
 have a3:=rd 3 qO
 have a4:=rd 4 qO
 have a5:=rd 5 qO
 rw [m0] at a0
 rw [m1] at a1
 rw [m2] at a2
 rw [m3] at a3
 rw [m4] at a4
 rw [m5] at a5
 have lv:ld1 H (.pointer (some ⟨vb,0,none⟩))=some v:=by rw [Z03 (hI.vv.eqf (r0 vb qO (Ne.symm h2)))]; rfl
 have hsv:SlI H cb v 1 nv V:=hI.vs.keep (fun _=>r0 _ qO lv1)
 have hV:∀ j:Nat,j<nv -> -1000000000000<=gi V j/\gi V j<=1000000000000:=fun j _=>by have:=Z5i hW j; omega
 have q1:=fun c' (hc:cb<=c')=>Z0b (Zdu v nv V (t:Int) f i H c' [] (hsv.mono hc) qO qO qO qO qO qO qO qO hV)
 have q2:=fun c' (hc:cb<=c')=>Z0b (Zdu v nv V U Y Z H c' [] (hsv.mono hc) qO qO qO qO qO qO qO hpn hV)
 obtain ⟨A,hA1⟩:∃ A,Z5z V t f i=A:=⟨_,rfl⟩
 obtain ⟨B,hB1⟩:∃ B,Z5z V U Y Z=B:=⟨_,rfl⟩
 rw [hA1] at q1 heq
 rw [hB1] at q2 heq
 have hst6:stN (newB h (256*c) [.int .i64 0,.int .i64 0,.int .i64 0,.int .i64 0,.int .i64 0,.int .i64 0]) 6 (.pointer (some ⟨256*c,0,none⟩)) (av M)=some (newB h (256*c) (ints M)):=stN_all _ _ 6 _ _ ml rfl
 have hres:HeapC.get H rb=some (.cells false none [.int .i64 0]):=(r0 rb qO (Ne.symm h3)).trans hI.res
 have w1:=Z1z (v:=.int .i64 130) (o:=0) hres (by simp) rfl rfl
 have sT:Z0A H l .ready none=some (HeapC.set H l (.loop st)):=by
  rw [hH,setState_set,set_set]
  congr 3
  rw [← hst,← hst2]
 have sF:Z0A (HeapC.set H rb (.cells false none [.int .i64 130])) l .done (some .ret)=some (HeapC.set (HeapC.set H l (.loop { st with state:=.done,pending:=some .ret })) rb (.cells false none [.int .i64 130])):=by
  rw [setState_set_ne _ _ _ _ _ _ h3,hH,setState_set,set_set]
  rfl
 clear hH
 unfold Z31
 repeat' (first | ((with_reducible first | refine Ans.bz ?_ | refine Ans.r1 ?_ | refine Ans.pkT ?_ | refine Ans.pkF ?_); try dsimp only [v_zero,v_succ]) | (with_reducible first | refine Ans.btL ?_ | refine Ans.bfL ?_ | refine Ans.gyT ?_ | refine Ans.gyF ?_ | refine Ans.gyG ?_ | refine Ans.bb ?_ | refine Ans.bc ?_ | refine Ans.ba ?_) | ((with_reducible first | refine Ans.lsT ?_ ?_ | refine Ans.leT ?_ ?_ | refine Ans.grT ?_ ?_ | refine Ans.geT ?_ ?_ | refine Ans.eqT ?_ ?_ | refine Ans.neT ?_ ?_); (focus omega)) | ((with_reducible first | refine Ans.lsF ?_ ?_ | refine Ans.leF ?_ ?_ | refine Ans.grF ?_ ?_ | refine Ans.geF ?_ ?_ | refine Ans.eqF ?_ ?_ | refine Ans.neF ?_ ?_); (focus omega)) | (with_reducible first | refine Ans.lsS (fun _=>?_) (fun _=>?_) | refine Ans.leS (fun _=>?_) (fun _=>?_) | refine Ans.grS (fun _=>?_) (fun _=>?_) | refine Ans.geS (fun _=>?_) (fun _=>?_) | refine Ans.eqS (fun _=>?_) (fun _=>?_) | refine Ans.neS (fun _=>?_) (fun _=>?_)) | ((with_reducible first | refine Ans.addN ?_ ?_ | refine Ans.add ?_ ?_ | refine Ans.sub ?_ ?_ | refine Ans.mul ?_ ?_); (focus omega)) | ((with_reducible first | refine Ans.ct ?_ ?_); (focus (simp (disch:=(first | omega | with_reducible assumption | (simp <;> omega) | fail)) [hst6,hb,lv,a0,a1,a2,a3,a4,a5,q1,q2,w1,sT,sF]; done))) | ((with_reducible first | refine Ans.cf ?_ ?_); (focus (simp (disch:=(first | omega | with_reducible assumption | (simp <;> omega) | fail)) [hst6,hb,lv,a0,a1,a2,a3,a4,a5,q1,q2,w1,sT,sF]; done))) | (refine Ans.step (by simp (disch:=(first | omega | with_reducible assumption | (simp <;> omega) | fail)) [hst6,hb,lv,a0,a1,a2,a3,a4,a5,q1,q2,w1,sT,sF,-List.getD_eq_getElem?_getD] <;> rfl) ?_; try dsimp only [v_zero,v_succ]) | fail)
 · rename_i hne
   refine .done ⟨(by show c<=c+1+1+1; omega),O,fun b hb=>.inl hb,fun b g1 g2 g3=>?_,.inr ⟨rfl, ?_, ?_⟩⟩
   · rw [hI.own] at g2
     show (HeapC.set _ _ _:FH).f b=_
     rw [Z0r,if_neg g2,Z0r,if_neg g3,r0 b g1 g3]
   · show (HeapC.set _ _ _:FH).f l=_
     rw [Z0r,if_neg h3,Z0r,if_pos rfl]
   · refine ⟨by show cb<=c+1+1+1; omega,hI.own, ?_, ?_⟩
     · show (HeapC.set _ _ _:FH).f rb=_
       rw [Z0r,if_pos rfl]
     · rw [← Bool.not_eq_true,List.all_eq_true]
       intro hall
       have:=hall M hmem
       rw [heq] at this
       exact hne (by simpa using this)
 · rename_i heq'
   refine .done ⟨(by show c<=c+1+1; omega),O,fun b hb=>.inl hb,fun b g1 g2 g3=>?_,.inl ⟨rfl, ?_, ?_⟩⟩
   · show (HeapC.set _ _ _:FH).f b=_
     rw [Z0r,if_neg g3,r0 b g1 g3]
   · show (HeapC.set _ _ _:FH).f l=_
     rw [Z0r,if_pos rfl]
   · have e:∀ b,b<256*c->b ≠ l->(HeapC.set H l (.loop st)).f b=h.f b:=fun b g1 g3=>by rw [Z0r,if_neg g3,r0 b g1 g3]
     refine ⟨by show cb<=c+1+1; omega,hI.own,hI.g.eqf (e gb qO (Ne.symm h1)),hI.sl.keep (fun _=>e _ qO ls1),hI.vv.eqf (e vb qO (Ne.symm h2)),hI.vs.keep (fun _=>e _ qO lv1),(e rb qO (Ne.symm h3)).trans hI.res,fun m hm=>?_⟩
     rcases List.mem_append.1 hm with hm | hm
     · exact hI.ok m hm
     · rw [List.mem_singleton.1 hm,heq]
       simpa using heq'

theorem Zdo (s v v15 v17:Value) (n nv:Nat) (Gl V:List Int) (gb vb rb c:Nat) (v16:Value) (h:FH) (hn:n<=60) (hnv:nv=7*n) (hgb:gb<256*c) (hvb:vb<256*c) (hrb:rb<256*c)
 (hv:Z07 h vb [v]) (hs:SlI h c v 1 nv V) (hx:0<n->SlX h v 1 nv) (hres:h.f rb=some (.cells false none [.int .i64 0])) (o1:OkV c v15) (o2:OkV c v16) (o3:OkV c v17) (df:List Nat) :
 ∀ (k t:Nat),t+k=n->Ans (G (Z9U none) [ptrTo gb,ptrTo rb,ptrTo vb,v15,v16,v17,.int .i64 n,.int .i64 t] h c df) fun r=>r.c=c/\r.df=df ∧
  ((r.e = .exit 2/\r.vs=[ptrTo gb,ptrTo rb,ptrTo vb,v15,v16,v17,.int .i64 n,.int .i64 n]/\r.h=h /\ ∀ u,t<=u->u<n->Zmc (Z58 V u)=true) ∨
   (r.e = .ret/\r.vs=[ptrTo gb,ptrTo rb,ptrTo vb,v15,v16,v17,.int .i64 n,r.v 7]/\r.h=HeapC.set h rb (.cells false none [.int .i64 130]) /\ ∃ u,u<n/\Zmc (Z58 V u)=false)):=by
 intro k
 have lv:ld1 h (.pointer (some ⟨vb,0,none⟩))=some v:=by rw [Z03 hv]; rfl
 induction k with
 | zero =>
  intro t ht
  obtain rfl:t=n:=by omega
  refine Ans.lpG rfl rfl (Z4K ..) ?_
  unfold Z4d
  have fx:=True.intro
  refine Ans.go ?_
  clear fx
  (have fx:=ai hgb (ai hvb (ai hrb (ai o1 (ai o2 o3)))); refine Ans.ex0 ?_; clear fx)
  exact ⟨rfl,rfl,.inl ⟨rfl,rfl,rfl,fun u h1 h2=>by omega⟩⟩
 | succ k ih =>
  intro t ht
  have x1:=SlX.sub hs (hx qO) .i64 .i64 (7*(t:Int)+4) (7*(t:Int)+7) qO qO qO qO
  rw [show (7*(t:Int)+4).toNat=7*t+4 by omega,show (7*(t:Int)+7).toNat=7*t+7 by omega] at x1
  have x2:=SlI.sub hs (7*t+4) (7*t+7) qO qO qO
  rw [show 7*t+7-(7*t+4)=3 by omega,Nat.mul_one,Nat.mul_one] at x2
  have c1:=fun c' (hc:c<=c')=>Z0b (Zog _ 3 _ h c' [] (x2.mono hc) qO)
  rw [show (V.drop (7*t+4)).take 3=Z58 V t from rfl] at c1
  have w1:=Z1z (v:=.int .i64 130) (o:=0) (show HeapC.get h rb=_ from hres) (by simp) rfl rfl
  refine Ans.lpG rfl rfl (Z4K ..) ?_
  unfold Z4d
  cases hq:Zmc (Z58 V t) with
  | true =>
   rw [hq] at c1
   have fx:=ai lv (ai x1 c1)
   refine Ans.go ?_
   clear fx
   (have fx:=ai hgb (ai hvb (ai hrb (ai o1 (ai o2 o3)))); refine Ans.nx0 ?_; clear fx)
   refine (ih (t+1) qO).mono ?_
   rintro r ⟨q1,q2,q3⟩
   refine ⟨q1,q2,q3.imp (fun ⟨a,b,d,e⟩=>⟨a,b,d,fun u u1 u2=>?_⟩) id⟩
   by_cases hu:u=t
   · rw [hu]; exact hq
   · exact e u qO u2
  | false =>
   rw [hq] at c1
   have fx:=ai lv (ai x1 (ai c1 w1))
   refine Ans.go ?_
   clear fx
   (have fx:=ai hgb (ai hvb (ai hrb (ai o1 (ai o2 o3)))); refine Ans.rtB (B:=HeapC.set h rb (.cells false none [.int .i64 130])) ?_ ?_; exact (Z3I.set hrb (Z1D.ints _ [130]) (Z3I.refl _ _)); clear fx)
   exact ⟨rfl,rfl,.inr ⟨rfl,rfl,rfl,t,by omega,hq⟩⟩
theorem Z7I (s:Value) (h:FH) (c:Nat) (hf:Z0d s=true):callF G 59 [.agg #[s]] h c=some (.func (.func 77) [].toArray [ptrTo (256*c)].toArray,newB h (256*c) [s],c+1+1):=by
 refine Z0b (f59_go (r:=⟨.ret,[_],_,_,[]⟩) ?_)
 unfold ZiB
 rw [Z96 hf,Z8T]
 simp
theorem ZbW (s v:Value) (n nv:Nat) (Gl V:List Int) (gb vb rb l cb:Nat) (hok:Z0w Gl n=true) (hn:n<=60) (hnv:nv=7*n) (hW:Z13 V=true)
 (hgb:gb<256*cb) (hvb:vb<256*cb) (hrb:rb<256*cb) (hl:l<256*cb) (h1:l ≠ gb) (h2:l ≠ vb) (h3:l ≠ rb) (hvr:vb ≠ rb) (hgr:gb ≠ rb) (hls:0<n->Z0D s ≠ l/\Z0D s ≠ rb) (hlv:0<n->Z0D v ≠ l/\Z0D v ≠ rb) :
 RoundI s n Gl gb l cb (Z5N 71 [4,7] #[52] Z1a Z19 [ptrTo rb,ptrTo vb] (l+1)) (some .ret) [ptrTo rb,ptrTo vb] (ChI s v n nv Gl V gb vb rb cb) (ChJ n Gl V rb cb) where
 stab:=fun D O h c h' c' hi hc hs=>by
  have:=hi.lc
  exact ⟨by omega,hi.own,hi.g.eqf (hs _ qO (Ne.symm h1)),hi.sl.keep (fun hp=>hs _ (by have:=hi.sl.blk hp; omega) (hls hp).1),hi.vv.eqf (hs _ qO (Ne.symm h2)),hi.vs.keep (fun hp=>hs _ (by have:=hi.vs.blk hp; omega) (hlv qO).1),(hs _ qO (Ne.symm h3)).trans hi.res,hi.ok⟩
 jstab:=fun O h c h' c' hj hc hs=>by
  have:=hj.lc
  exact ⟨by omega,hj.own,(hs _ qO (Ne.symm h3)).trans hj.res,hj.bad⟩
 own:=fun D O h c hi b hb=>by
  have:=hi.lc
  rw [hi.own] at hb
  subst hb; omega
 ownJ:=fun O h c hj b hb=>by
  have:=hj.lc
  rw [hj.own] at hb
  subst hb; omega
 read:=fun D O h c hi=>⟨hi.g,hi.sl.mono hi.lc⟩
 step:=fun D O h c t f i ht hf hi hif hsk _ hc hI hlp=>by
  obtain ⟨r,hr,hq⟩:=Zdn s v n nv Gl V gb vb rb cb l _ rfl rfl hok hn hnv hW hgb hvb hrb hl h1 h2 h3 (Nat.le_refl _) hvr hgr hls hlv ht hf hi hif hsk hI hlp
  exact ⟨r,ZgB hr,hq⟩
theorem Z2i {Gl V:List Int} {n:Nat}:Z5h Gl n V=true ↔ V.length=7*n/\Z13 V=true/\(∀ t,t<n->Zmc (Z58 V t)=true)/\(Z2v Gl n).all (fun m=>eqM V m)=true:=by
 simp [Z5h,and_assoc]
set_option maxHeartbeats 2000000 in
theorem Zdp (s:Value) (n:Nat) (Gl:List Int) (ss:List Value) (Vs:Nat->List Int) (nvs:Nat->Nat) (gb rb sb cb:Nat) (h0:FH) (hn:n<=60) (hok:Z0w Gl n=true) (hgb:gb<256*cb) (hrb:rb<256*cb) (hsb:sb<256*cb) (hgr:gb ≠ rb) (hsr:sb ≠ rb)
 (hg:Z07 h0 gb [s]) (hsl:SlI h0 cb s 20 n Gl) (hsrb:0<n->Z0D s ≠ rb) (hh:Z07 h0 sb ss) (hl:ss.length<=1000) (hnv:∀ j,nvs j<=1000000)
 (hV:∀ j,j<ss.length->SlI h0 cb (ss.getD j undef) 1 (nvs j) (Vs j)/\SlX h0 (ss.getD j undef) 1 (nvs j)/\(0<nvs j->Z0D (ss.getD j undef) ≠ rb)) :
 ∀ (k j c:Nat) (H:FH) (df:List Nat),j+k=ss.length->cb<=c->(∀ b,b<256*cb->b ≠ rb->H.f b=h0.f b)->H.f rb=some (.cells false none [.int .i64 0])->df.Nodup->(∀ d ∈ df,H.f d=some .dfr/\256*cb<=d/\d<256*c) →
 Ans (G (Z76 none) [ptrTo gb,ptrTo rb,.slice (some ⟨sb,0,none⟩) ss.length ss.length,.int .i64 ss.length,.int .i64 j] H c df) fun r=>c<=r.c/\r.v 1=ptrTo rb/\(∀ b,b<256*cb->b ≠ rb->r.h.f b=h0.f b)/\r.df.Nodup/\(∀ d ∈ r.df,r.h.f d=some .dfr/\256*cb<=d) ∧
  ((r.e = .exit 0/\r.h.f rb=some (.cells false none [.int .i64 0]) /\ ∀ i,j<=i->i<ss.length->Z5h Gl n (Vs i)=true) ∨
   (r.e = .ret/\r.h.f rb=some (.cells false none [.int .i64 130]) /\ ∃ i,i<ss.length/\Z5h Gl n (Vs i)=false)):=by
 intro k
 induction k with
 | zero =>
  intro j c H df hj hc hH hres hnd hd
  obtain rfl:j=ss.length:=by omega
  refine Ans.lpN rfl rfl (Z4L ..) ?_
  unfold Z4e
  have fx:=True.intro
  refine Ans.go ?_
  clear fx
  exact Ans.exitN ⟨(by show c<=c+1; omega),rfl,hH,hnd,fun d h=>⟨(hd d h).1,(hd d h).2.1⟩,.inl ⟨rfl,hres,fun i h1 h2=>by omega⟩⟩
 | succ k ih =>
  intro j c H df hj hc hH hres hnd hd
  have hjl:j<ss.length:=by omega
  obtain ⟨hv0,hx0,hvr⟩:=hV j hjl
  have hnvj:=hnv j
  obtain ⟨v,hvv⟩:∃ v,ss.getD j undef=v:=⟨_,rfl⟩
  obtain ⟨V,hVV⟩:∃ V,Vs j=V:=⟨_,rfl⟩
  obtain ⟨nv,hnn⟩:∃ nv,nvs j=nv:=⟨_,rfl⟩
  rw [hvv] at hv0 hx0 hvr
  rw [hVV,hnn] at hv0
  rw [hnn] at hx0 hvr hnvj
  have hvj:ss[j]? = some v:=by rw [← hvv]; simp [List.getD,List.getElem?_eq_getElem hjl]
  have hvf:=hv0.flat
  have hss:Z07 H sb ss:=hh.eqf (hH sb hsb hsr)
  have l1:ld1 H (.pointer (some ⟨sb,j,none⟩))=some v:=by rw [Z03 hss,hvj]
  obtain ⟨M,hM⟩:∃ M,M=newB H (256*(c+1)+2) [v]:=⟨_,rfl⟩
  have hst:stN (newB H (256*(c+1)+2) [.slice none 0 0]) 1 (.pointer (some ⟨256*(c+1)+2,0,none⟩)) v=some M:=by
   rw [hM]
   obtain ⟨_,_,a,cap,rfl,_⟩:=hv0
   exact st1_sl _ _ _ _ _ _ _ (by simp)
  have fM:∀ b,b<256*(c+1)->M.f b=H.f b:=fun b hb=>by rw [hM,Z06,if_neg qO]
  have hMv:Z07 M (256*(c+1)+2) [v]:=by rw [hM]; exact Z07.newB_same _ _ _
  clear hM
  have l2:ld1 M (.pointer (some ⟨256*(c+1)+2,0,none⟩))=some v:=by rw [Z03 hMv]; rfl
  have hMg:Z07 M gb [s]:=hg.eqf ((fM gb qO).trans (hH gb hgb hgr))
  have l3:ld1 M (.pointer (some ⟨gb,0,none⟩))=some s:=by rw [Z03 hMg]; rfl
  have l4:=hsl.len
  have l5:=hv0.len
  have hresM:M.f rb=some (.cells false none [.int .i64 0]):=(fM rb qO).trans hres
  have hMv0:SlI M cb v 1 nv V:=hv0.keep (fun hp=>by
   have h1:=hv0.blk hp
   rw [fM _ qO,hH _ h1 (hvr hp)])
  have wM:=Z1z (v:=.int .i64 130) (o:=0) (show HeapC.get M rb=_ from hresM) (by simp) rfl rfl
  have cw:=fun c' (hc':cb<=c')=>Z0b (Zhf v nv V M c' [] (hMv0.mono hc') qO)
  have bad:∀ c':Nat,c<=c'->Z5h Gl n V=false->Ans (some ⟨Ex.ret,[ptrTo gb,ptrTo rb,.slice (some ⟨sb,0,none⟩) ss.length ss.length,.int .i64 ss.length,.int .i64 j],HeapC.set M rb (.cells false none [.int .i64 130]),c',df⟩) (fun q=>Lk G (Z76 none) (fun r=>c<=r.c/\r.v 1=ptrTo rb/\(∀ b,b<256*cb->b ≠ rb->r.h.f b=h0.f b)/\r.df.Nodup/\(∀ d ∈ r.df,r.h.f d=some .dfr/\256*cb<=d) ∧
   ((r.e = .exit 0/\r.h.f rb=some (.cells false none [.int .i64 0]) /\ ∀ i,j<=i->i<ss.length->Z5h Gl n (Vs i)=true) ∨
    (r.e = .ret/\r.h.f rb=some (.cells false none [.int .i64 130]) /\ ∃ i,i<ss.length/\Z5h Gl n (Vs i)=false))) q):=fun c' hc' hb=>by
   refine Ans.retN ⟨hc',rfl,fun b h1 h2=>?_,hnd,fun d hd'=>⟨?_,(hd d hd').2.1⟩,.inr ⟨rfl, ?_,j,hjl,by rw [hVV]; exact hb⟩⟩
   · show (HeapC.set _ _ _:FH).f b=_
     rw [Z0r,if_neg h2,fM b qO,hH b h1 h2]
   · have:=hd d hd'
     show (HeapC.set _ _ _:FH).f d=_
     rw [Z0r,if_neg qO,fM d qO,this.1]
   · show (HeapC.set _ _ _:FH).f rb=_
     rw [Z0r,if_pos rfl]
  refine Ans.lpN rfl rfl (Z4L ..) ?_
  unfold Z4e
  by_cases hlen:nv=7*n
  case neg =>
   have hb:Z5h Gl n V=false:=by
    rw [← Bool.not_eq_true,Z2i]
    rintro ⟨h1,_⟩
    have:=hv0.1
    omega
   have hne:¬ ((nv:Int)=7*n):=by omega
   have fx:=ai l1 (ai hst (ai l2 (ai l3 (ai l4 (ai l5 wM)))))
   refine Ans.go ?_
   clear fx
   exact bad _ qO hb
  have heq:((nv:Int)=7*n):=by omega
  cases hW:Z13 V with
  | false =>
   have hb:Z5h Gl n V=false:=by
    rw [← Bool.not_eq_true,Z2i]
    rintro ⟨_,h1,_⟩
    rw [hW] at h1; cases h1
   rw [hW] at cw
   have fx:=ai l1 (ai hst (ai l2 (ai l3 (ai l4 (ai l5 (ai wM cw))))))
   refine Ans.go ?_
   clear fx
   exact bad _ qO hb
  | true =>
   rw [hW] at cw
   have fx:=ai l1 (ai hst (ai l2 (ai l3 (ai l4 (ai l5 cw)))))
   refine Ans.go ?_
   clear fx
   have hq:=Zdo s v (.slice (some ⟨sb,0,none⟩) ss.length ss.length) (.int .i64 j) n nv Gl V gb (256*(c+1)+2) rb (c+1+1+1+1) (.int .i64 ss.length) M hn qO qO qO qO hMv (hMv0.mono qO)
    (fun hn0=>by
     have hb0:=hv0.blk qO
     have e1:M.f (Z0D v)=h0.f (Z0D v):=by rw [fM _ qO,hH _ hb0 (hvr qO)]
     obtain ⟨q1,q2⟩:=hx0
     refine ⟨q1, ?_⟩
     obtain ⟨_,_,a,cap,rfl,hc4⟩:=hv0
     rcases hc4 with ⟨e,_⟩ | ⟨b,o,cs,rfl,_,_,_⟩
     · omega
     · simp only [Z9j,Zcb,blkOf_sl] at q2 e1 ⊢
       have:HeapC.get M b=HeapC.get h0 b:=e1
       rw [this]; exact q2)
    hresM (OkV.sl qO) (OkV.int _ _ _) (OkV.int _ _ _) df n 0 qO
   simp only [Int.ofNat_eq_natCast,Int.cast_ofNat_Int] at hq
   obtain ⟨⟨re,rv,rh,rc,rd⟩,hr,r1,r2,r3⟩:=hq
   simp only at r1 r2 r3
   subst r1 r2
   rcases r3 with ⟨rfl,rfl,rfl,hqs⟩ | ⟨rfl,hrv,rfl,u,u1,u2⟩
   case inr =>
    have hb:Z5h Gl n V=false:=by
     rw [← Bool.not_eq_true,Z2i]
     rintro ⟨_,_,h1,_⟩
     rw [h1 u u1] at u2; cases u2
    rw [hrv] at hr
    have fx:=hr
    refine Ans.go ?_
    clear fx
    exact bad _ qO hb
   have l6:=Z0F hMg
   have cm:=Z7I s rh (c+1+1+1+1+1) hsl.flat
   have fx:=ai hr (ai l6 cm)
   refine Ans.go ?_
   clear fx
   obtain ⟨N,hN⟩:∃ N,N=newB rh (256*(c+1+1+1+1+1)) [s]:=⟨_,rfl⟩
   rw [← hN]
   have fN:∀ b,b<256*(c+1+1+1+1+1)->N.f b=rh.f b:=fun b hb=>by rw [hN,Z06,if_neg qO]
   have gN:N.f (256*(c+1+1+1+1+1))=some (.cells false none [s]):=by rw [hN,Z06,if_pos rfl]
   clear hN
   have hI:=ZbW s v n nv Gl V (256*(c+1+1+1+1+1)) (256*(c+1)+2) rb (256*(c+1+1+1+1+1+1+1)) (c+1+1+1+1+1+1+1+1) hok hn qO hW qO qO qO qO qO qO qO qO qO
    (fun hp=>⟨by have:=hsl.blk hp; omega,hsrb hp⟩) (fun hp=>⟨by have:=hv0.blk qO; omega,hvr qO⟩)
   have hE:∀ b,b<256*(c+1+1+1+1+1+1+1)->(Z2l N (c+1+1+1+1+1+1+1) 71 [4,7] #[52] Z1a Z19 [ptrTo rb,ptrTo (256*(c+1)+2)]).f b=N.f b:=fun b hb=>by
    rw [Z3H,if_neg qO,if_neg qO]
   have hI0:ChI s v n nv Gl V (256*(c+1+1+1+1+1)) (256*(c+1)+2) rb (c+1+1+1+1+1+1+1+1) [] (fun b=>b=rb) (Z2l N (c+1+1+1+1+1+1+1) 71 [4,7] #[52] Z1a Z19 [ptrTo rb,ptrTo (256*(c+1)+2)]) (c+1+1+1+1+1+1+1+1):=by
    refine ⟨Nat.le_refl _,rfl,⟨false,none, ?_⟩,(hsl.keep (fun hp=>?_)).mono qO,hMv.eqf ?_,(hv0.keep (fun hp=>?_)).mono qO, ?_,fun m hm=>by cases hm⟩
    · show (Z2l _ _ _ _ _ _ _ _:FH).f _=_
      rw [hE _ qO,gN]
    · have h1:=hsl.blk hp
      rw [hE _ qO,fN _ qO,fM _ qO,hH _ h1 (hsrb hp)]
    · rw [hE _ qO,fN _ qO]
    · have h1:=hv0.blk hp
      rw [hE _ qO,fN _ qO,fM _ qO,hH _ h1 (hvr hp)]
    · rw [hE _ qO,fN _ qO,hresM]
   refine Ans.head (Z6g qO qO rfl hI (O:=fun b=>b=rb) (fun b hb=>by subst hb; omega) hI0) ?_
   rintro ⟨qe,qh,qc,qd⟩ ⟨qr,O',e1,e2,e3,e4,e5,e6⟩
   simp only [Prod.mk.injEq] at e1
   obtain ⟨rfl,-,rfl⟩:=e1
   simp only at e2 e6
   have keep1:∀ b,b<256*cb->b ≠ rb->(HeapC.del qr (256*(c+1+1+1+1+1+1+1)):FH).f b=h0.f b:=fun b h1 h2=>by
    rw [Z7s,if_neg qO,e5 b qO h2,fN _ qO,fM _ qO,hH b h1 h2]
   have nd:((256*(c+1+1+1+1+1+1+1)+1)::rd:List Nat).Nodup:=List.nodup_cons.2 ⟨fun hm=>by have:=(hd _ hm).2.2; omega,hnd⟩
   have dd:∀ d ∈ (256*(c+1+1+1+1+1+1+1)+1)::rd,(HeapC.del qr (256*(c+1+1+1+1+1+1+1)):FH).f d=some .dfr/\256*cb<=d/\d<256*(c+1+1+1+1+1+1+1+1):=fun d hm=>by
    rcases List.mem_cons.1 hm with rfl | hm
    · exact ⟨by rw [Z7s,if_neg qO]; exact e3,by omega,by omega⟩
    · obtain ⟨d1,d2,d3⟩:=hd d hm
      exact ⟨by rw [Z7s,if_neg qO,e5 d qO (by show ¬ d=rb; omega),fN _ qO,fM _ qO,d1],d2,by omega⟩
   rcases e6 with ⟨rfl,hi⟩ | ⟨rfl,hj'⟩
   · have fx:=True.intro
     refine Ans.go ?_
     clear fx
     refine Ans.nextN ?_
     have hgood:Z5h Gl n V=true:=Z2i.2 ⟨by have:=hv0.1; omega,hW,fun t ht=>hqs t qO ht,List.all_eq_true.2 hi.ok⟩
     refine (ih (j+1) (qc+1) (HeapC.del qr (256*(c+1+1+1+1+1+1+1))) ((256*(c+1+1+1+1+1+1+1)+1)::rd) qO qO keep1 (by rw [Z7s,if_neg qO]; exact hi.res) nd (fun d hm=>by
      obtain ⟨d1,d2,d3⟩:=dd d hm
      exact ⟨d1,d2,by omega⟩)).mono ?_
     rintro r ⟨w1,w2,w3,w4,w5,w6⟩
     refine ⟨by omega,w2,w3,w4,w5,w6.imp (fun ⟨a,b,d⟩=>⟨a,b,fun i i1 i2=>?_⟩) id⟩
     by_cases hij:i=j
     · rw [hij,hVV]; exact hgood
     · exact d i qO i2
   · have fx:=True.intro
     refine Ans.go ?_
     clear fx
     have hb:Z5h Gl n V=false:=by
      rw [← Bool.not_eq_true,Z2i]
      rintro ⟨_,_,_,h1⟩
      rw [hj'.bad] at h1; cases h1
     refine Ans.retN ⟨(by show c<=qc; omega),rfl,keep1,nd,fun d hm=>⟨(dd d hm).1,(dd d hm).2.1⟩,.inr ⟨rfl, ?_,j,hjl,by rw [hVV]; exact hb⟩⟩
     show (HeapC.del _ _:FH).f rb=_
     rw [Z7s,if_neg qO]
     exact hj'.res
end Go.Proofs.Ytcnndelmnobigaa
