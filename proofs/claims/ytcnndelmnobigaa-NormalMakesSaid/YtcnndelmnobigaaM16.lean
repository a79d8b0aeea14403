/- Parts of a proof: N1 AbMat U1 AbGrow AbUf U2 U3 N2. Conditions: none. -/
import Derived.Test.YtcnndelmnobigaaM15
set_option linter.all false
set_option maxRecDepth 100000
namespace Go.Proofs.Ytcnndelmnobigaa
open Go Go.Ab Go.Proofs
theorem Z4s {a:Value} (ha:Z0c a=true):((Value.agg #[a]).cells.toList.all Z0c)=true:=by simp [Value.cells,ha]
theorem Z4m (a:Value):(Value.agg #[a]).cells.toList=[a]:=rfl
theorem Zgi (s:Value) (n:Nat) (Gl:List Int) (h:FH) (c:Nat) (hs:SlI h c s 20 n Gl):callF G 70 [.agg #[s]] h c=some (.int .i64 (if n<=1000/\Z0t Gl n=true then 0 else 7),h,c):=Z05 (Zpl s n Gl h c [] hs)
theorem ZlV (h:FH) (c:Nat) (df:List Nat):G (.fn 60) [] h c df=some ⟨.ret,[av tyT],h,c,[]⟩:=by
 refine Z0C (fun r e=>f60_go e) (by simp) ?_
 unfold Zl7
 have z1:Z4w [(.int .i64 0),(.int .i64 0),(.int .i64 0),(.int .i64 0),(.int .i64 0),(.int .i64 0),(.int .i64 0),(.int .i64 0),(.int .i64 0),(.int .i64 0),(.int .i64 0),(.int .i64 0),(.int .i64 0),(.int .i64 0),(.int .i64 0),(.int .i64 0)] [(0,4,av [-1,0,1,2]),(4,4,av [0,-1,2,1]),(8,4,av [1,2,-1,0]),(12,4,av [2,1,0,-1])]=some (av tyT):=rfl
 have z2:∀ (H:FH) (b:Nat) (cs:List Value),cs.length=16->stN (newB H b cs) 16 (.pointer (some ⟨b,0,none⟩)) (av tyT)=some (newB H b (ints tyT)):=fun H b cs hc=>stN_all H b 16 cs tyT rfl hc
 have z3:∀ (H:FH) (b:Nat),ldN (newB H b (ints tyT)) 16 (.pointer (some ⟨b,0,none⟩))=some (av tyT):=fun H b=>by rw [ldN_newB_same _ _ _ _ _ (by simp [tyT])]; rfl
 have fx:=ai bld4 (ai z1 (ai z2 z3))
 refine Ans.go ?_
 clear fx
 (have fx:=True.intro; exact Ans.pu)
theorem Z4j (h:FH) (c:Nat):callF G 60 [] h c=some (av tyT,h,c):=Z05 (ZlV h c [])
theorem ZlD (s:Value) (n:Nat) (V:List Int) (t f i:Int) (h:FH) (c:Nat) (df:List Nat) (hs:SlI h c s 1 n V) (ht:0<=t) (htn:7*t+7<=n) (hn:n<=1000000) (hf:0<=f) (hf4:f<4) (hi:0<=i) (hi4:i<4) (hne:i ≠ f)
 (hV:∀ j:Nat,j<n -> -1000000000000<=gi V j/\gi V j<=1000000000000) :
 G (.fn 50) [s,.int .i64 t,.int .i64 f,.int .i64 i] h c df=some ⟨.ret,[.int .i64 (Z7o V t f i)],h,c,[]⟩:=by
 refine Z0C (fun r e=>ZpY e) (by simp) ?_
 unfold Zj9 Z7o
 have hr:=Z0V hi hi4 hf hf4 hne
 have k1:=hV (7*t+i).toNat qO
 have k2:=hV (7*t+4+ty i f).toNat qO
 have e1:(((7*t+i).toNat:Nat):Int)=7*t+i:=by omega
 have e2:(((7*t+4+ty i f).toNat:Nat):Int)=7*t+4+ty i f:=by omega
 rw [e1] at k1
 rw [e2] at k2
 have l1:=hs.rdi (7*t+i) qO qO
 have l2:=hs.rdi (7*t+4+ty i f) qO qO
 have x1:=Z8s tyT 4 4 .i64 i hi qO rfl
 have hl4:((tyT.drop (i.toNat*4)).take 4).length=4:=by simp [tyT]; omega
 have x2:=ZaN ((tyT.drop (i.toNat*4)).take 4) 4 .i64 f hf qO hl4
 rw [show ((tyT.drop (i.toNat*4)).take 4).getD f.toNat 0=ty i f from rfl] at x2
 obtain ⟨R,hR⟩:∃ R,(tyT.drop (i.toNat*4)).take 4=R:=⟨_,rfl⟩
 rw [hR] at x1 x2
 obtain ⟨T,hT⟩:∃ T,ty i f=T:=⟨_,rfl⟩
 rw [hT] at x2 l2 k2 hr ⊢
 obtain ⟨A,hA⟩:∃ A,gi V (7*t+i)=A:=⟨_,rfl⟩
 obtain ⟨B,hB⟩:∃ B,gi V (7*t+4+T)=B:=⟨_,rfl⟩
 rw [hA] at l1 k1 ⊢
 rw [hB] at l2 k2 ⊢
 have fx:=ai hs.ixs1 (ai l1 (ai l2 (ai Z4j (ai x1 x2))))
 refine Ans.go ?_
 clear fx
 (have fx:=True.intro; exact Ans.pu)
theorem Za9 {L:List Int} {i n:Nat} (hL:L.length=n) (hi:i<n):nzC (L.drop i)=(if L.getD i 0=0 then 0 else 1)+nzC (L.drop (i+1)):=by
 rw [List.drop_eq_getElem_cons qO,nzC]
 have:L.getD i 0=L[i]'qO:=by simp [List.getD,List.getElem?_eq_getElem (by omega:i<L.length)]
 rw [this]
theorem ZlC (s:Value) (n:Nat) (L:List Int) (h:FH) (c:Nat) (hs:SlI h c s 1 n L) (hn:n<=1000000) (df:List Nat):∀ (k i m:Nat),i+k=n->m<=i →
 Ans (G (Zcg none) [.int .i64 m,s,.int .i64 n,.int .i64 i] h c df) fun r=>r=⟨.exit 0,[.int .i64 (m+nzC (L.drop i):Nat),s,.int .i64 n,.int .i64 n],h,c,df⟩:=by
 intro k
 have o1:=hs.okV
 induction k with
 | zero =>
  intro i m hi hm
  obtain rfl:i=n:=by omega
  refine Ans.lpG rfl rfl (Z5F ..) ?_
  unfold Z4U
  have fx:=True.intro
  refine Ans.go ?_
  clear fx
  (have fx:=o1; refine Ans.ex0 ?_; clear fx)
  rw [List.drop_of_length_le (by have:=hs.1; omega)]
  rfl
 | succ k ih =>
  intro i m hi hm
  have hl:=hs.1
  have l1:=hs.rdi i qO qO
  simp only [Int.toNat_natCast] at l1
  rw [Z1y] at l1
  have hd:=Za9 (L:=L) (i:=i) (n:=n) qO qO
  obtain ⟨X,hX⟩:∃ X,L.getD i 0=X:=⟨_,rfl⟩
  rw [hX] at l1 hd
  refine Ans.lpG rfl rfl (Z5F ..) ?_
  unfold Z4U
  repeat' (first | ((with_reducible first | refine Ans.bz ?_ | refine Ans.r1 ?_ | refine Ans.pkT ?_ | refine Ans.pkF ?_); try dsimp only [v_zero,v_succ]) | (with_reducible first | refine Ans.btL ?_ | refine Ans.bfL ?_ | refine Ans.gyT ?_ | refine Ans.gyF ?_ | refine Ans.gyG ?_ | refine Ans.bb ?_ | refine Ans.bc ?_ | refine Ans.ba ?_) | ((with_reducible first | refine Ans.lsT ?_ ?_ | refine Ans.leT ?_ ?_ | refine Ans.grT ?_ ?_ | refine Ans.geT ?_ ?_ | refine Ans.eqT ?_ ?_ | refine Ans.neT ?_ ?_); (focus omega)) | ((with_reducible first | refine Ans.lsF ?_ ?_ | refine Ans.leF ?_ ?_ | refine Ans.grF ?_ ?_ | refine Ans.geF ?_ ?_ | refine Ans.eqF ?_ ?_ | refine Ans.neF ?_ ?_); (focus omega)) | (with_reducible first | refine Ans.lsS (fun _=>?_) (fun _=>?_) | refine Ans.leS (fun _=>?_) (fun _=>?_) | refine Ans.grS (fun _=>?_) (fun _=>?_) | refine Ans.geS (fun _=>?_) (fun _=>?_) | refine Ans.eqS (fun _=>?_) (fun _=>?_) | refine Ans.neS (fun _=>?_) (fun _=>?_)) | ((with_reducible first | refine Ans.addN ?_ ?_ | refine Ans.add ?_ ?_ | refine Ans.sub ?_ ?_ | refine Ans.mul ?_ ?_); (focus omega)) | ((with_reducible first | refine Ans.ct ?_ ?_); (focus (simp (disch:=(first | omega | with_reducible assumption | (simp <;> omega) | fail)) [hs.ixs1,l1]; done))) | ((with_reducible first | refine Ans.cf ?_ ?_); (focus (simp (disch:=(first | omega | with_reducible assumption | (simp <;> omega) | fail)) [hs.ixs1,l1]; done))) | (refine Ans.step (by simp (disch:=(first | omega | with_reducible assumption | (simp <;> omega) | fail)) [hs.ixs1,l1,-List.getD_eq_getElem?_getD] <;> rfl) ?_; try dsimp only [v_zero,v_succ]) | fail)
  · rename_i hne
    rw [if_neg hne] at hd
    (have fx:=o1; refine Ans.nx0 ?_; clear fx)
    refine (ih (i+1) (m+1) qO qO).mono ?_
    rintro r rfl
    rw [hd,Nat.add_assoc]
  · rename_i heq
    rw [if_pos heq] at hd
    (have fx:=o1; refine Ans.nx0 ?_; clear fx)
    refine (ih (i+1) m qO qO).mono ?_
    rintro r rfl
    rw [hd,Nat.zero_add]
theorem Zgl (s:Value) (n:Nat) (L:List Int) (h:FH) (c:Nat) (df:List Nat) (hs:SlI h c s 1 n L) (hn:n<=1000000) :
 G (.fn 56) [s] h c df=some ⟨.ret,[.bool (Z7n L)],h,c,[]⟩:=by
 refine Z0C (fun r e=>f56_go e) (by simp) ?_
 unfold Zla
 have hl:=hs.len
 have hr:=Ans.eq (ZlC s n L h (c+1+1+1) (hs.mono qO) hn [] n 0 0 qO qO)
 rw [List.drop_zero,Nat.zero_add] at hr
 simp only [Int.ofNat_eq_natCast,Int.cast_ofNat_Int] at hr
 repeat' (first | ((with_reducible first | refine Ans.bz ?_ | refine Ans.r1 ?_ | refine Ans.pkT ?_ | refine Ans.pkF ?_); try dsimp only [v_zero,v_succ]) | (with_reducible first | refine Ans.btL ?_ | refine Ans.bfL ?_ | refine Ans.gyT ?_ | refine Ans.gyF ?_ | refine Ans.gyG ?_ | refine Ans.bb ?_ | refine Ans.bc ?_ | refine Ans.ba ?_) | ((with_reducible first | refine Ans.lsT ?_ ?_ | refine Ans.leT ?_ ?_ | refine Ans.grT ?_ ?_ | refine Ans.geT ?_ ?_ | refine Ans.eqT ?_ ?_ | refine Ans.neT ?_ ?_); (focus omega)) | ((with_reducible first | refine Ans.lsF ?_ ?_ | refine Ans.leF ?_ ?_ | refine Ans.grF ?_ ?_ | refine Ans.geF ?_ ?_ | refine Ans.eqF ?_ ?_ | refine Ans.neF ?_ ?_); (focus omega)) | (with_reducible first | refine Ans.lsS (fun _=>?_) (fun _=>?_) | refine Ans.leS (fun _=>?_) (fun _=>?_) | refine Ans.grS (fun _=>?_) (fun _=>?_) | refine Ans.geS (fun _=>?_) (fun _=>?_) | refine Ans.eqS (fun _=>?_) (fun _=>?_) | refine Ans.neS (fun _=>?_) (fun _=>?_)) | ((with_reducible first | refine Ans.addN ?_ ?_ | refine Ans.add ?_ ?_ | refine Ans.sub ?_ ?_ | refine Ans.mul ?_ ?_); (focus omega)) | ((with_reducible first | refine Ans.ct ?_ ?_); (focus (simp (disch:=(first | omega | with_reducible assumption | (simp <;> omega) | fail)) [hl,hr]; done))) | ((with_reducible first | refine Ans.cf ?_ ?_); (focus (simp (disch:=(first | omega | with_reducible assumption | (simp <;> omega) | fail)) [hl,hr]; done))) | (refine Ans.step (by simp (disch:=(first | omega | with_reducible assumption | (simp <;> omega) | fail)) [hl,hr,-List.getD_eq_getElem?_getD] <;> rfl) ?_; try dsimp only [v_zero,v_succ]) | fail)
 · rename_i hx
   exact Ans.pure (by simp [Z7n]; omega) (by simp)
 · rename_i hx
   exact Ans.pure (by simp [Z7n]; omega) (by simp)
theorem ZiI (x:Int) (h:FH) (c:Nat) (df:List Nat):G (.fn 76) [.int .i64 x] h c df=some ⟨.ret,[.bool (!(decide (0<=x) && decide (x<=1000000)))],h,c,[]⟩:=by
 refine Z0C (fun r e=>f76_go e) (by simp) ?_
 unfold Zl2
 repeat' (first | ((with_reducible first | refine Ans.bz ?_ | refine Ans.r1 ?_ | refine Ans.pkT ?_ | refine Ans.pkF ?_); try dsimp only [v_zero,v_succ]) | (with_reducible first | refine Ans.btL ?_ | refine Ans.bfL ?_ | refine Ans.gyT ?_ | refine Ans.gyF ?_ | refine Ans.gyG ?_ | refine Ans.bb ?_ | refine Ans.bc ?_ | refine Ans.ba ?_) | ((with_reducible first | refine Ans.lsT ?_ ?_ | refine Ans.leT ?_ ?_ | refine Ans.grT ?_ ?_ | refine Ans.geT ?_ ?_ | refine Ans.eqT ?_ ?_ | refine Ans.neT ?_ ?_); (focus omega)) | ((with_reducible first | refine Ans.lsF ?_ ?_ | refine Ans.leF ?_ ?_ | refine Ans.grF ?_ ?_ | refine Ans.geF ?_ ?_ | refine Ans.eqF ?_ ?_ | refine Ans.neF ?_ ?_); (focus omega)) | (with_reducible first | refine Ans.lsS (fun _=>?_) (fun _=>?_) | refine Ans.leS (fun _=>?_) (fun _=>?_) | refine Ans.grS (fun _=>?_) (fun _=>?_) | refine Ans.geS (fun _=>?_) (fun _=>?_) | refine Ans.eqS (fun _=>?_) (fun _=>?_) | refine Ans.neS (fun _=>?_) (fun _=>?_)) | ((with_reducible first | refine Ans.addN ?_ ?_ | refine Ans.add ?_ ?_ | refine Ans.sub ?_ ?_ | refine Ans.mul ?_ ?_); (focus omega)) | ((with_reducible first | refine Ans.ct ?_ ?_); (focus (simp (disch:=(first | omega | with_reducible assumption | (simp <;> omega) | fail)) []; done))) | ((with_reducible first | refine Ans.cf ?_ ?_); (focus (simp (disch:=(first | omega | with_reducible assumption | (simp <;> omega) | fail)) []; done))) | (refine Ans.step (by simp (disch:=(first | omega | with_reducible assumption | (simp <;> omega) | fail)) [-List.getD_eq_getElem?_getD] <;> rfl) ?_; try dsimp only [v_zero,v_succ]) | fail)
 all_goals exact Ans.pure (by simp; omega) (by simp)
theorem ZrQ (h:FH) (c:Nat) (v:Value):Z2A G h c (.func (.func 76) #[] #[]) [v]=callF G 76 [v] h c:=by rfl
theorem ZdU (x:Int) (h:FH) (c:Nat):Z2A G h c (.func (.func 76) #[] #[]) [.int .i64 x]=some (.bool (!(decide (0<=x) && decide (x<=1000000))),h,c):=by
 rw [ZrQ]; exact Z05 (ZiI x h c [])
theorem ZiR (s:Value) (n:Nat) (L:List Int) (h:FH) (c:Nat) (hs:SlI h c s 1 n L) (hn:n<=9000000000) (df:List Nat):∀ (k i:Nat) (z:Value),i+k=n->OkV c z →
 Ans (G (ZbV none) [s,.func (.func 76) #[] #[],z,.int .i64 n,.int .i64 i] h c df) fun r=>r.h=h/\r.c=c/\r.df=df ∧
  ((r.e = .exit 0/\Z0x (L.drop i)=true) ∨ (r.e = .ret/\(∃ j:Nat,r.v 2 = .int .i64 j)/\Z0x (L.drop i)=false)):=by
 intro k
 have o1:=hs.okV
 have o2:=OkV.fn c 76
 induction k with
 | zero =>
  intro i z hi hz
  obtain rfl:i=n:=by omega
  refine Ans.lpG rfl rfl (Z5q ..) ?_
  unfold Z4J
  have fx:=True.intro
  refine Ans.go ?_
  clear fx
  (have fx:=ai o1 (ai o2 hz); refine Ans.ex0 ?_; clear fx)
  exact ⟨rfl,rfl,rfl,.inl ⟨rfl,by rw [List.drop_of_length_le (by have:=hs.1; omega)]; rfl⟩⟩
 | succ k ih =>
  intro i z hi hz
  have hl:=hs.1
  have l1:=hs.rdi i qO qO
  simp only [Int.toNat_natCast] at l1
  rw [Z1y] at l1
  have hd:L.drop i=L.getD i 0::L.drop (i+1):=by
   rw [List.drop_eq_getElem_cons qO]
   congr 1
   simp [List.getD,List.getElem?_eq_getElem (by omega:i<L.length)]
  obtain ⟨X,hX⟩:∃ X,L.getD i 0=X:=⟨_,rfl⟩
  rw [hX] at l1 hd
  have c1:=fun H c=>ZdU X H c
  refine Ans.lpG rfl rfl (Z5q ..) ?_
  unfold Z4J
  cases hq:(decide (0<=X) && decide (X<=1000000)) with
  | false =>
   rw [hq] at c1
   have fx:=ai hs.ixs1 (ai l1 c1)
   refine Ans.go ?_
   clear fx
   (have fx:=ai o1 (ai o2 hz); refine Ans.rt0 ?_; clear fx)
   exact ⟨rfl,rfl,rfl,.inr ⟨rfl,⟨i,rfl⟩,by rw [hd]; simp [Z0x,hq]⟩⟩
  | true =>
   rw [hq] at c1
   have fx:=ai hs.ixs1 (ai l1 c1)
   refine Ans.go ?_
   clear fx
   (have fx:=ai o1 (ai o2 hz); refine Ans.nx0 ?_; clear fx)
   have e:Z0x (L.drop i)=Z0x (L.drop (i+1)):=by rw [hd]; simp only [Z0x,List.all_cons,hq,Bool.true_and]
   rw [e]
   exact ih (i+1) z qO hz
theorem Z7s (s:Value) (n:Nat) (L:List Int) (h:FH) (c:Nat) (df:List Nat) (hs:SlI h c s 1 n L) (hn:n<=9000000000) :
 G (.fn 55) [s] h c df=some ⟨.ret,[.bool (Z0x L)],h,c,[]⟩:=by
 have hl:=hs.len
 have k90:∀ c',c<=c' -> ∃ z:Int,(0<=z ↔ Z0x L=false)/\callF G 90 [s,.func (.func 76) #[] #[]] h c'=some (.int .i64 z,h,c'):=fun c' hc=>by
  obtain ⟨⟨re,rv,rh,rc,rd⟩,hr,r1,r2,r3,r4⟩:=ZiR s n L h (c'+1+1) (hs.mono qO) hn [] n 0 (.int .i64 0) qO (by simp)
  simp only at r1 r2 r3 r4
  subst r1 r2 r3
  simp only [Int.ofNat_eq_natCast,Int.cast_ofNat_Int] at hr
  rw [List.drop_zero] at r4
  rcases r4 with ⟨rfl,r5⟩ | ⟨rfl,⟨j,r5⟩,r6⟩
  · refine ⟨-1,by simp [r5],Z05 (Z0C (fun r e=>ZpX e) (by simp) ?_)⟩
    unfold ZiX
    have fx:=ai hl hr
    refine Ans.go ?_
    clear fx
    exact Ans.pure rfl (by simp)
  · refine ⟨j,by simp [r6],Z05 (Z0C (fun r e=>ZpX e) (by simp) ?_)⟩
    unfold ZiX
    have fx:=ai hl hr
    refine Ans.go ?_
    clear fx
    exact Ans.pure r5 (by simp)
 have k75:∀ c',c<=c'->callF G 75 [s,.func (.func 76) #[] #[]] h c'=some (.bool (!Z0x L),h,c'):=fun c' hc=>by
  refine Z05 (Z0C (fun r e=>f75_go e) (by simp) ?_)
  unfold Zl3
  obtain ⟨z,hz,c1⟩:=k90 (c'+1+1) qO
  cases hv:Z0x L with
  | true =>
   rw [hv] at hz
   have:¬ 0<=z:=fun h=>by simpa using hz.1 h
   have fx:=c1
   refine Ans.go ?_
   clear fx
   exact Ans.pure rfl (by simp)
  | false =>
   rw [hv] at hz
   have:0<=z:=hz.2 rfl
   have fx:=c1
   refine Ans.go ?_
   clear fx
   exact Ans.pure rfl (by simp)
 refine Z0C (fun r e=>f55_go e) (by simp) ?_
 unfold Zlb
 have c1:=k75 (c+1+1) qO
 have fx:=c1
 refine Ans.go ?_
 clear fx
 exact Ans.pure (by simp) (by simp)
theorem Zm4 (s:Value) (n:Nat) (Gl:List Int) (h:FH) (c:Nat) (df:List Nat) (hs:SlI h c s 20 n Gl) :
 G (.fn 12) [.agg #[s]] h c df=some ⟨.ret,[.bool (decide (n<=6))],h,c,[]⟩:=by
 refine Z0C (fun r e=>f12_go e) (by simp) ?_
 unfold ZrE
 rw [Z4s hs.flat,Z4m,Nat.add_zero]
 simp only [cond_true]
 have hl:=hs.len
 repeat' (first | ((with_reducible first | refine Ans.bz ?_ | refine Ans.r1 ?_ | refine Ans.pkT ?_ | refine Ans.pkF ?_); try dsimp only [v_zero,v_succ]) | (with_reducible first | refine Ans.btL ?_ | refine Ans.bfL ?_ | refine Ans.gyT ?_ | refine Ans.gyF ?_ | refine Ans.gyG ?_ | refine Ans.bb ?_ | refine Ans.bc ?_ | refine Ans.ba ?_) | ((with_reducible first | refine Ans.lsT ?_ ?_ | refine Ans.leT ?_ ?_ | refine Ans.grT ?_ ?_ | refine Ans.geT ?_ ?_ | refine Ans.eqT ?_ ?_ | refine Ans.neT ?_ ?_); (focus omega)) | ((with_reducible first | refine Ans.lsF ?_ ?_ | refine Ans.leF ?_ ?_ | refine Ans.grF ?_ ?_ | refine Ans.geF ?_ ?_ | refine Ans.eqF ?_ ?_ | refine Ans.neF ?_ ?_); (focus omega)) | (with_reducible first | refine Ans.lsS (fun _=>?_) (fun _=>?_) | refine Ans.leS (fun _=>?_) (fun _=>?_) | refine Ans.grS (fun _=>?_) (fun _=>?_) | refine Ans.geS (fun _=>?_) (fun _=>?_) | refine Ans.eqS (fun _=>?_) (fun _=>?_) | refine Ans.neS (fun _=>?_) (fun _=>?_)) | ((with_reducible first | refine Ans.addN ?_ ?_ | refine Ans.add ?_ ?_ | refine Ans.sub ?_ ?_ | refine Ans.mul ?_ ?_); (focus omega)) | ((with_reducible first | refine Ans.ct ?_ ?_); (focus (simp (disch:=(first | omega | with_reducible assumption | (simp <;> omega) | fail)) [hl]; done))) | ((with_reducible first | refine Ans.cf ?_ ?_); (focus (simp (disch:=(first | omega | with_reducible assumption | (simp <;> omega) | fail)) [hl]; done))) | (refine Ans.step (by simp (disch:=(first | omega | with_reducible assumption | (simp <;> omega) | fail)) [hl,-List.getD_eq_getElem?_getD] <;> rfl) ?_; try dsimp only [v_zero,v_succ]) | fail)
 all_goals exact Ans.pure (by simp; omega) (by simp (disch:=omega))
def Z7p (Gl:List Int) (n:Nat):Int:=if n<=1000/\Z0t Gl n=true then (if 60<n then 2 else 0) else 7
theorem ZbE (s:Value) (n:Nat) (Gl:List Int) (h:FH) (c:Nat) (df:List Nat) (hs:SlI h c s 20 n Gl) :
 G (.fn 43) [.agg #[s]] h c df=some ⟨.ret,[.int .i64 (Z7p Gl n)],h,c,[]⟩:=by
 refine Z0C (fun r e=>f43_go e) (by simp) ?_
 unfold Zlj
 rw [Z4s hs.flat,Z4m,Nat.add_zero]
 simp only [cond_true]
 have hl:=hs.len
 have sH:Z0u c h (newB h (256*c) [s]):=by simp (disch:=omega)
 have g1:Z09 (newB h (256*c) [s]) (256*c) [s]:=Z09.newB_same _ _ _
 have l1:=Z0p g1
 have l2:ld1 (newB h (256*c) [s]) (.pointer (some ⟨256*c,0,none⟩))=some s:=by rw [Z01 g1]; rfl
 have c1:=Zgi s n Gl (newB h (256*c) [s]) (c+1+1) ((hs.same sH).mono qO)
 unfold Z7p
 by_cases hok:n<=1000/\Z0t Gl n=true
 case neg =>
  rw [if_neg hok] at c1 ⊢
  have fx:=ai l1 (ai l2 (ai hl c1))
  refine Ans.go ?_
  clear fx
  exact Ans.pure rfl sH
 rw [if_pos hok] at c1 ⊢
 repeat' (first | ((with_reducible first | refine Ans.bz ?_ | refine Ans.r1 ?_ | refine Ans.pkT ?_ | refine Ans.pkF ?_); try dsimp only [v_zero,v_succ]) | (with_reducible first | refine Ans.btL ?_ | refine Ans.bfL ?_ | refine Ans.gyT ?_ | refine Ans.gyF ?_ | refine Ans.gyG ?_ | refine Ans.bb ?_ | refine Ans.bc ?_ | refine Ans.ba ?_) | ((with_reducible first | refine Ans.lsT ?_ ?_ | refine Ans.leT ?_ ?_ | refine Ans.grT ?_ ?_ | refine Ans.geT ?_ ?_ | refine Ans.eqT ?_ ?_ | refine Ans.neT ?_ ?_); (focus omega)) | ((with_reducible first | refine Ans.lsF ?_ ?_ | refine Ans.leF ?_ ?_ | refine Ans.grF ?_ ?_ | refine Ans.geF ?_ ?_ | refine Ans.eqF ?_ ?_ | refine Ans.neF ?_ ?_); (focus omega)) | (with_reducible first | refine Ans.lsS (fun _=>?_) (fun _=>?_) | refine Ans.leS (fun _=>?_) (fun _=>?_) | refine Ans.grS (fun _=>?_) (fun _=>?_) | refine Ans.geS (fun _=>?_) (fun _=>?_) | refine Ans.eqS (fun _=>?_) (fun _=>?_) | refine Ans.neS (fun _=>?_) (fun _=>?_)) | ((with_reducible first | refine Ans.addN ?_ ?_ | refine Ans.add ?_ ?_ | refine Ans.sub ?_ ?_ | refine Ans.mul ?_ ?_); (focus omega)) | ((with_reducible first | refine Ans.ct ?_ ?_); (focus (simp (disch:=(first | omega | with_reducible assumption | (simp <;> omega) | fail)) [l1,l2,hl,c1]; done))) | ((with_reducible first | refine Ans.cf ?_ ?_); (focus (simp (disch:=(first | omega | with_reducible assumption | (simp <;> omega) | fail)) [l1,l2,hl,c1]; done))) | (refine Ans.step (by simp (disch:=(first | omega | with_reducible assumption | (simp <;> omega) | fail)) [l1,l2,hl,c1,-List.getD_eq_getElem?_getD] <;> rfl) ?_; try dsimp only [v_zero,v_succ]) | fail)
 · exact Ans.pure (by rw [if_pos qO]) sH
 · exact Ans.pure (by rw [if_neg qO]) sH
end Go.Proofs.Ytcnndelmnobigaa

namespace Go.Ab
open Go
def Z2U (Gl:List Int) (t f i:Nat):List Int:=[(t:Int),(f:Int),(i:Int),Z0L (Z03 Gl t f),(Z0e (Z03 Gl t f)).getD f 0,(Z0e (Z03 Gl t f)).getD i 0]
def Z1O (Gl:List Int) (t f:Nat):Bool:=decide (Z0L (Z03 Gl t f)<0) || decide (Z0L (Z03 Gl t f)<t) || (decide (Z0L (Z03 Gl t f)=t) && decide ((Z0e (Z03 Gl t f)).getD f 0<f))
def mI (Gl:List Int) (t f:Nat):Nat->Nat->List (List Int)
 | 0,_=>[]
 | k+1,i=>(if i=f then [] else [Z2U Gl t f i])++mI Gl t f k (i+1)
def mF (Gl:List Int) (t:Nat):Nat->Nat->List (List Int)
 | 0,_=>[]
 | k+1,f=>(if Z1O Gl t f=true then [] else mI Gl t f 4 0)++mF Gl t k (f+1)
def mT (Gl:List Int):Nat->Nat->List (List Int)
 | 0,_=>[]
 | k+1,t=>mF Gl t 4 0++mT Gl k (t+1)
def Z43 (Gl:List Int) (n:Nat):List (List Int):=mT Gl n 0
theorem ZpO {Gl:List Int} {t f:Nat} {m:List Int}:∀ {k i:Nat},m ∈ mI Gl t f k i -> ∃ j,i<=j/\j<i+k/\j ≠ f/\m=Z2U Gl t f j
 | 0,i,h=>by cases h
 | k+1,i,h=>by
  rcases List.mem_append.1 h with h | h
  · split at h
    · cases h
    · rename_i hne
      exact ⟨i,by omega,by omega,hne,List.mem_singleton.1 h⟩
  · obtain ⟨j,h1,h2,h3,h4⟩:=ZpO h
    exact ⟨j,by omega,by omega,h3,h4⟩
theorem ZpP {Gl:List Int} {t:Nat} {m:List Int}:∀ {k f:Nat},m ∈ mF Gl t k f -> ∃ g i,f<=g/\g<f+k/\i<4/\i ≠ g/\Z1O Gl t g=false/\m=Z2U Gl t g i
 | 0,f,h=>by cases h
 | k+1,f,h=>by
  rcases List.mem_append.1 h with h | h
  · split at h
    · cases h
    · rename_i hne
      obtain ⟨j,h1,h2,h3,h4⟩:=ZpO h
      exact ⟨f,j,by omega,by omega,by omega,h3,by simpa using hne,h4⟩
  · obtain ⟨g,i,h1,h2,h3⟩:=ZpP h
    exact ⟨g,i,by omega,by omega,h3⟩
theorem ZpN {Gl:List Int} {m:List Int}:∀ {k t:Nat},m ∈ mT Gl k t -> ∃ u g i,t<=u/\u<t+k/\g<4/\i<4/\i ≠ g/\Z1O Gl u g=false/\m=Z2U Gl u g i
 | 0,t,h=>by cases h
 | k+1,t,h=>by
  rcases List.mem_append.1 h with h | h
  · obtain ⟨g,i,h1,h2,h3⟩:=ZpP h
    exact ⟨t,g,i,by omega,by omega,by omega,h3⟩
  · obtain ⟨u,g,i,h1,h2,h3⟩:=ZpN h
    exact ⟨u,g,i,by omega,by omega,h3⟩
theorem Z7G {Gl:List Int} {n:Nat} {m:List Int} (h:m ∈ Z43 Gl n):∃ u g i,u<n/\g<4/\i<4/\i ≠ g/\Z1O Gl u g=false/\m=Z2U Gl u g i:=by
 obtain ⟨u,g,i,h1,h2,h3⟩:=ZpN h
 exact ⟨u,g,i,by omega,h3⟩
theorem bld6 (a b c d e f:Int):Z4w [(.int .i64 0),(.int .i64 0),(.int .i64 0),(.int .i64 0),(.int .i64 0),(.int .i64 0)] [(0,1,.int .i64 a),(1,1,.int .i64 b),(2,1,.int .i64 c),(3,1,.int .i64 d),(4,1,.int .i64 e),(5,1,.int .i64 f)]=some (av [a,b,c,d,e,f]):=(rfl)
theorem Z09.eqf {h h':FH} {b:Nat} {cs:List Value} (e:h'.f b=h.f b) (hh:Z09 h b cs):Z09 h' b cs:=by
 obtain ⟨ro,op,e1⟩:=hh
 exact ⟨ro,op,e.trans e1⟩
theorem ZpR {Gl:List Int} {t f j:Nat} (hne:j ≠ f):∀ {k i:Nat},i<=j->j<i+k->Z2U Gl t f j ∈ mI Gl t f k i
 | 0,i,h1,h2=>by omega
 | k+1,i,h1,h2=>by
  rw [mI]
  by_cases e:i=j
  · subst e
    rw [if_neg hne]
    exact List.mem_append.2 (.inl (List.mem_singleton.2 rfl))
  · exact List.mem_append.2 (.inr (ZpR hne qO qO))
theorem ZpS {Gl:List Int} {t g i:Nat} (hi:i<4) (hne:i ≠ g) (hs:Z1O Gl t g=false):∀ {k f:Nat},f<=g->g<f+k->Z2U Gl t g i ∈ mF Gl t k f
 | 0,f,h1,h2=>by omega
 | k+1,f,h1,h2=>by
  rw [mF]
  by_cases e:f=g
  · subst e
    rw [if_neg (by rw [hs]; simp)]
    exact List.mem_append.2 (.inl (ZpR hne qO qO))
  · exact List.mem_append.2 (.inr (ZpS hi hne hs qO qO))
theorem ZpQ {Gl:List Int} {u g i:Nat} (hg:g<4) (hi:i<4) (hne:i ≠ g) (hs:Z1O Gl u g=false):∀ {k t:Nat},t<=u->u<t+k->Z2U Gl u g i ∈ mT Gl k t
 | 0,t,h1,h2=>by omega
 | k+1,t,h1,h2=>by
  rw [mT]
  by_cases e:t=u
  · subst e
    exact List.mem_append.2 (.inl (ZpS hi hne hs qO qO))
  · exact List.mem_append.2 (.inr (ZpQ hg hi hne hs qO qO))
theorem ZdX {Gl:List Int} {n u g i:Nat} (hu:u<n) (hg:g<4) (hi:i<4) (hne:i ≠ g) (hs:Z1O Gl u g=false):Z2U Gl u g i ∈ Z43 Gl n:=ZpQ hg hi hne hs qO qO
def eqM (V m:List Int):Bool:=decide (Z7o V (m.getD 0 0) (m.getD 1 0) (m.getD 2 0)=Z7o V (m.getD 3 0) (m.getD 4 0) (m.getD 5 0))
def Z0y (V:List Int) (t:Nat):List Int:=(V.drop (7*t+4)).take 3
def Z1h (Gl:List Int) (n:Nat) (V:List Int):Bool:=decide (V.length=7*n) && Z0x V && ((List.range n).all fun t=>Z7n (Z0y V t)) && (Z43 Gl n).all fun m=>eqM V m
theorem Z4x {V:List Int} (h:Z0x V=true) (j:Nat):0<=gi V j/\gi V j<=1000000:=by
 unfold gi
 rw [Int.toNat_natCast]
 by_cases hj:j<V.length
 · have:=List.all_eq_true.1 h V[j] (List.getElem_mem hj)
   simpa [List.getD,List.getElem?_eq_getElem hj] using this
 · simp [List.getD,List.getElem?_eq_none (by omega:V.length<=j)]
theorem ZrZ {p:List Int} (hp:p ∈ p24) {i j:Nat} (hi:i<4) (hj:j<4) (hne:i ≠ j):p.getD i 0 ≠ p.getD j 0:=by
 have:=ZlE (Q:=fun p=>(List.range 4).all fun i=>(List.range 4).all fun j=>decide (i=j) || decide (p.getD i 0 ≠ p.getD j 0)) (by kernel_rfl) hp
 rw [List.all_eq_true] at this
 have h1:=this i (by simpa using hi)
 rw [List.all_eq_true] at h1
 have h2:=h1 j (by simpa using hj)
 simpa [hne,-List.getD_eq_getElem?_getD] using h2
theorem ZaI {Gl:List Int} {n t f i:Nat} (hok:Z0t Gl n=true) (hG:Gl.length=n*20) (ht:t<n) (hf:f<4) (hi:i<4) (hne:i ≠ f) (hsk:Z1O Gl t f=false) :
 (t:Int)<=Z0L (Z03 Gl t f)/\Z0L (Z03 Gl t f)<n/\Z0e (Z03 Gl t f) ∈ p24:=by
 have ok:=Z8o hok ht hf
 simp only [Z1O,Bool.or_eq_false_iff,decide_eq_false_iff_not] at hsk
 obtain ⟨⟨h1,h2⟩,_⟩:=hsk
 obtain ⟨g1,g2,_,_⟩:=Z6e ok h1
 exact ⟨by omega,g1,Zms (Z1S (Z0o hG ht hf)) g2⟩
theorem ZaJ (Gl:List Int) (t f:Nat):∀ k i,(mI Gl t f k i).length<=k
 | 0,_=>Nat.le_refl _
 | k+1,i=>by
  have:=ZaJ Gl t f k (i+1)
  rw [mI,List.length_append]
  split <;> simp <;> omega
theorem ZaK (Gl:List Int) (t:Nat):∀ k f,(mF Gl t k f).length<=4*k
 | 0,_=>Nat.le_refl _
 | k+1,f=>by
  have h1:=ZaK Gl t k (f+1)
  have h2:=ZaJ Gl t f 4 0
  rw [mF,List.length_append]
  split
  · simp; omega
  · omega
theorem Zep (Gl:List Int):∀ k t,(mT Gl k t).length<=16*k
 | 0,_=>Nat.le_refl _
 | k+1,t=>by
  have h1:=Zep Gl k (t+1)
  have h2:=ZaK Gl t 4 0
  rw [mT,List.length_append]
  omega
theorem Zgm (Gl:List Int) (n:Nat):(Z43 Gl n).length<=16*n:=Zep Gl n 0
end Go.Ab

namespace Go.Proofs.Ytcnndelmnobigaa
open Go Go.Ab Go.Proofs
def edL:List Int:=[0,1,0,2,0,3,1,2,1,3,2,3]
theorem bld2 (a b:Int):Z4w [(.int .i64 0),(.int .i64 0)] [(0,1,.int .i64 a),(1,1,.int .i64 b)]=some (av [a,b]):=(rfl)
theorem Zpa (a0 a1 b0 b1:Int):Z0U P .eql 115 (av [a0,a1]) (av [b0,b1])=(cond (a0 == b0) (cond (a1 == b1) (some true) (some false)) (some false)).bind fun b=>some (.bool b):=by kernel_rfl
theorem Zg6 (a0 a1 b0 b1:Int):Z00 P .eql 115 (av [a0,a1]) (av [b0,b1])=some (.bool (decide (a0=b0/\a1=b1))):=by
 rw [Z0H,Zpa]
 by_cases h0:a0=b0 <;> by_cases h1:a1=b1 <;> simp [h0,h1,Bool.cond_eq_ite]
theorem Zpc (h:FH) (c:Nat) (df:List Nat):G (.fn 89) [] h c df=some ⟨.ret,[av edL],h,c,[]⟩:=by
 refine Z0C (fun r e=>f89_go e) (by simp) ?_
 unfold ZkU
 have z1:Z4w [(.int .i64 0),(.int .i64 0),(.int .i64 0),(.int .i64 0),(.int .i64 0),(.int .i64 0),(.int .i64 0),(.int .i64 0),(.int .i64 0),(.int .i64 0),(.int .i64 0),(.int .i64 0)] [(0,2,av [0,1]),(2,2,av [0,2]),(4,2,av [0,3]),(6,2,av [1,2]),(8,2,av [1,3]),(10,2,av [2,3])]=some (av edL):=rfl
 have z2:∀ (H:FH) (b:Nat) (cs:List Value),cs.length=12->stN (newB H b cs) 12 (.pointer (some ⟨b,0,none⟩)) (av edL)=some (newB H b (ints edL)):=fun H b cs hc=>stN_all H b 12 cs edL rfl hc
 have z3:∀ (H:FH) (b:Nat),ldN (newB H b (ints edL)) 12 (.pointer (some ⟨b,0,none⟩))=some (av edL):=fun H b=>by rw [ldN_newB_same _ _ _ _ _ (by simp [edL])]; rfl
 have fx:=ai bld2 (ai z1 (ai z2 z3))
 refine Ans.go ?_
 clear fx
 (have fx:=True.intro; exact Ans.pu)
theorem Zgh (h:FH) (c:Nat):callF G 89 [] h c=some (av edL,h,c):=Z05 (Zpc h c [])
def isEd (a b i j:Int):Bool:=decide (a=i/\b=j) || decide (a=j/\b=i)
theorem ZqK (a b i j:Int) (p q:Nat) (h:FH) (c:Nat) (df:List Nat) (hp:p<256*c) (hq:q<256*c) (gp:Z09 h p [.int .i64 i]) (gq:Z09 h q [.int .i64 j]) :
 G (.fn 88) [av [a,b],ptrTo p,ptrTo q] h c df=some ⟨.ret,[.bool (isEd a b i j)],h,c,[]⟩:=by
 refine Z0C (fun r e=>f88_go e) (by simp) ?_
 unfold ZkV isEd
 have f1:((av [a,b]).cells.toList.all Z0c)=true:=rfl
 have f2:(av [a,b]).cells.toList=ints [a,b]:=rfl
 rw [f2,show (ints [a,b]).all Z0c=true from rfl]
 simp only [cond_true]
 have z1:∀ (H:FH) (b':Nat),ldN (newB H b' (ints [a,b])) 2 (.pointer (some ⟨b',0,none⟩))=some (av [a,b]):=fun H b'=>by rw [ldN_newB_same _ _ _ _ _ (by simp)]; rfl
 have lp:ld1 (newB h (256*c) (ints [a,b])) (.pointer (some ⟨p,0,none⟩))=some (.int .i64 i):=by rw [ld1_newB_ne _ _ _ _ _ qO,Z01 gp]; rfl
 have lq:ld1 (newB h (256*c) (ints [a,b])) (.pointer (some ⟨q,0,none⟩))=some (.int .i64 j):=by rw [ld1_newB_ne _ _ _ _ _ qO,Z01 gq]; rfl
 by_cases h1:a=i/\b=j
 · have d1:decide (a=i/\b=j)=true:=decide_eq_true h1
   rw [d1]
   have e1:=Zg6 a b i j
   rw [d1] at e1
   have fx:=ai z1 (ai lp (ai lq (ai bld2 e1)))
   refine Ans.go ?_
   clear fx
   exact Ans.pure rfl (by simp (disch:=omega))
 · have d1:decide (a=i/\b=j)=false:=decide_eq_false h1
   rw [d1]
   have e1:=Zg6 a b i j
   have e2:=Zg6 a b j i
   rw [d1] at e1
   rw [Bool.false_or]
   obtain ⟨d,hd⟩:∃ d,decide (a=j/\b=i)=d:=⟨_,rfl⟩
   rw [hd] at e2 ⊢
   have fx:=ai z1 (ai lp (ai lq (ai bld2 (ai e1 e2))))
   refine Ans.go ?_
   clear fx
   exact Ans.pure rfl (by simp (disch:=omega))
theorem OkV.fn2 {c p q:Nat} {g:FuncId} (hp:p<256*c) (hq:q<256*c):OkV c (.func (.func g) #[] #[ptrTo p,ptrTo q]):=by
 obtain ⟨y1,h1⟩:=OkV.ptrTo hp
 obtain ⟨y2,h2⟩:=OkV.ptrTo hq
 refine ⟨.func (.func g) #[] #[y1,y2],.fnc g rfl rfl (fun k x y h=>by simp at h) (fun k x y hx hy=>?_)⟩
 match k,hx,hy with
 | 0,hx,hy=>cases hx; cases hy; exact h1
 | 1,hx,hy=>cases hx; cases hy; exact h2
 | k+2,hx,hy=>simp at hx
theorem ZrP (h:FH) (c p q:Nat) (v:Value):Z2A G h c (.func (.func 88) #[] #[ptrTo p,ptrTo q]) [v]=callF G 88 [v,ptrTo p,ptrTo q] h c:=by rfl
def edI (i j:Int):Nat->Nat->Int
 | 0,_=>-1
 | k+1,m=>if isEd (edL.getD (2*m) 0) (edL.getD (2*m+1) 0) i j then (m:Int) else edI i j k (m+1)
theorem ZrH (i j:Int) (p q b:Nat) (h:FH) (c:Nat) (df:List Nat) (hp:p<256*c) (hq:q<256*c) (hb:b<256*c) (gp:Z09 h p [.int .i64 i]) (gq:Z09 h q [.int .i64 j]) (gb:Z09 h b (ints edL)) :
 ∀ (k m:Nat) (z:Value),m+k=6->OkV c z →
 Ans (G (ZbW none) [.slice (some ⟨b,0,none⟩) 6 6,.func (.func 88) #[] #[ptrTo p,ptrTo q],z,.int .i64 6,.int .i64 m] h c df) fun r=>r.h=h/\r.c=c/\r.df=df ∧
  ((r.e = .exit 0/\edI i j k m = -1) ∨ (r.e = .ret/\r.v 2 = .int .i64 (edI i j k m))):=by
 intro k
 have o1:OkV c (.slice (some ⟨b,0,none⟩) 6 6):=OkV.sl hb
 have o2:OkV c (.func (.func 88) #[] #[ptrTo p,ptrTo q]):=OkV.fn2 hp hq
 induction k with
 | zero =>
  intro m z hm hz
  obtain rfl:m=6:=by omega
  refine Ans.lpG rfl rfl (Z5r ..) ?_
  unfold Z4K
  have fx:=True.intro
  refine Ans.go ?_
  clear fx
  (have fx:=ai o1 (ai o2 hz); refine Ans.ex0 ?_; clear fx)
  exact ⟨rfl,rfl,rfl,.inl ⟨rfl,rfl⟩⟩
 | succ k ih =>
  intro m z hm hz
  have l1:ldN h 2 (.pointer (some ⟨b,m*2,none⟩))=some (av [edL.getD (2*m) 0,edL.getD (2*m+1) 0]):=by
   rw [ldN_holds gb (by simp [edL]; omega)]
   have:m=0 ∨ m=1 ∨ m=2 ∨ m=3 ∨ m=4 ∨ m=5:=by omega
   rcases this with rfl | rfl | rfl | rfl | rfl | rfl <;> rfl
  rw [edI]
  obtain ⟨A,hA⟩:∃ A,edL.getD (2*m) 0=A:=⟨_,rfl⟩
  obtain ⟨B,hB⟩:∃ B,edL.getD (2*m+1) 0=B:=⟨_,rfl⟩
  rw [hA,hB] at l1 ⊢
  have c1:=fun c' (hc:c<=c')=>(ZrP h c' p q (av [A,B])).trans (Z05 (ZqK A B i j p q h c' [] qO qO gp gq))
  refine Ans.lpG rfl rfl (Z5r ..) ?_
  unfold Z4K
  cases hq:isEd A B i j with
  | true =>
   rw [hq] at c1
   have fx:=ai l1 c1
   refine Ans.go ?_
   clear fx
   (have fx:=ai o1 (ai o2 hz); refine Ans.rt0 ?_; clear fx)
   exact ⟨rfl,rfl,rfl,.inr ⟨rfl,rfl⟩⟩
  | false =>
   rw [hq] at c1
   have fx:=ai l1 c1
   refine Ans.go ?_
   clear fx
   (have fx:=ai o1 (ai o2 hz); refine Ans.nx0 ?_; clear fx)
   exact ih (m+1) z qO hz
def edN (i j:Int):Int:=edI i j 6 0
theorem Z89 {i j:Int} (h1:0<=i) (h2:i<4) (h3:0<=j) (h4:j<4) (hne:i ≠ j):0<=edN i j/\edN i j<6:=by
 have:((List.range 4).all fun i=>(List.range 4).all fun j=>decide (i=j) || (decide (0<=edN (i:Nat) (j:Nat)) && decide (edN (i:Nat) (j:Nat)<6)))=true:=by decide
 rw [List.all_eq_true] at this
 have h5:=this i.toNat (by simp; omega)
 rw [List.all_eq_true] at h5
 have h6:=h5 j.toNat (by simp; omega)
 have e1:((i.toNat:Nat):Int)=i:=by omega
 have e2:((j.toNat:Nat):Int)=j:=by omega
 rw [e1,e2] at h6
 have h7:¬ i.toNat=j.toNat:=by omega
 simpa [h7] using h6
theorem Zga (h:FH) (c:Nat):callF G 87 [] h c=some (.slice (some ⟨256*(c+1)+1,0,none⟩) 6 6,newB h (256*(c+1)+1) (ints edL),c+1+1+1):=by
 have z2:∀ (H:FH) (b:Nat) (cs:List Value),cs.length=12->stN (newB H b cs) 12 (.pointer (some ⟨b,0,none⟩)) (av edL)=some (newB H b (ints edL)):=fun H b cs hc=>stN_all H b 12 cs edL rfl hc
 have z3:slA 6 2 (.pointer (some ⟨256*(c+1)+1,0,none⟩)) none none none=some (.slice (some ⟨256*(c+1)+1,0,none⟩) 6 6):=rfl
 refine Z05 (df:=[]) (e:=.ret) (f87_go (Ans.eq ?_))
 unfold ZkW
 have fx:=ai Zgh (ai z2 z3)
 refine Ans.go ?_
 clear fx
 exact .done rfl
theorem ZrG (i j:Int) (h:FH) (c:Nat) (df:List Nat):G (.fn 73) [.int .i64 i,.int .i64 j] h c df=some ⟨.ret,[.int .i64 (edN i j)],h,c,[]⟩:=by
 refine Z0C (fun r e=>f73_go e) (by simp) ?_
 unfold Zl4
 rw [show (Value.int .i64 i).cells.toList=[.int .i64 i] from rfl,show (Value.int .i64 j).cells.toList=[.int .i64 j] from rfl]
 rw [show ([Value.int .i64 i]).all Z0c=true from rfl,show ([Value.int .i64 j]).all Z0c=true from rfl]
 simp only [cond_true,Nat.add_zero]
 obtain ⟨H,hH⟩:∃ H,H=newB (newB h (256*c) [.int .i64 i]) (256*c+1) [.int .i64 j]:=⟨_,rfl⟩
 have sH:Z0u c h H:=by rw [hH]; simp (disch:=omega)
 have gp:Z09 H (256*c) [.int .i64 i]:=by rw [hH]; exact (Z09.newB_same _ _ _).newB_ne qO
 have gq:Z09 H (256*c+1) [.int .i64 j]:=by rw [hH]; exact Z09.newB_same _ _ _
 rw [← hH]
 clear hH
 have c1:=Zga H (c+1+1)
 obtain ⟨K,hK⟩:∃ K,newB H (256*(c+1+1+1)+1) (ints edL)=K:=⟨_,rfl⟩
 have sK:Z0u c h K:=by rw [← hK]; exact sH.trans (by simp (disch:=omega))
 have gpK:Z09 K (256*c) [.int .i64 i]:=by rw [← hK]; exact gp.newB_ne qO
 have gqK:Z09 K (256*c+1) [.int .i64 j]:=by rw [← hK]; exact gq.newB_ne qO
 have gbK:Z09 K (256*(c+1+1+1)+1) (ints edL):=by rw [← hK]; exact Z09.newB_same _ _ _
 rw [hK] at c1
 clear hK
 obtain ⟨⟨re,rv,rh,rc,rd⟩,hr,r1,r2,r3,r4⟩:=ZrH i j (256*c) (256*c+1) (256*(c+1+1+1)+1) K (c+1+1+1+1+1+1+1) [] qO qO qO gpK gqK gbK 6 0 (.int .i64 0) qO (by simp)
 simp only at r1 r2 r3 r4
 subst r1 r2 r3
 simp only [Int.ofNat_eq_natCast,Int.cast_ofNat_Int] at hr
 have c2:callF G 86 [.slice (some ⟨256*(c+1+1+1)+1,0,none⟩) 6 6,.func (.func 88) #[] #[ptrTo (256*c),ptrTo (256*c+1)]] rh (c+1+1+1+1+1)=some (.int .i64 (edN i j),rh,c+1+1+1+1+1):=by
  refine Z05 (Z0C (fun r e=>f86_go e) (by simp) ?_)
  unfold ZkX
  rcases r4 with ⟨rfl,r5⟩ | ⟨rfl,r5⟩
  · have fx:=hr
    refine Ans.go ?_
    clear fx
    exact Ans.pure (by rw [edN,r5]) (by simp)
  · have fx:=hr
    refine Ans.go ?_
    clear fx
    exact Ans.pure r5 (by simp)
 have fx:=ai c1 c2
 refine Ans.go ?_
 clear fx
 exact Ans.pure rfl sK
theorem ZcP (i j:Int) (h:FH) (c:Nat):callF G 73 [.int .i64 i,.int .i64 j] h c=some (.int .i64 (edN i j),h,c):=Z05 (ZrG i j h c [])
end Go.Proofs.Ytcnndelmnobigaa

namespace Go.Ab
open Go
def Z2Q (c0:Nat) (h:FH) (c:Nat) (v:Value) (n:Nat) (cs:List Value):Prop :=
 cs.length=n/\n<=9223372036854775807/\cs.all Z0c=true ∧
  ∃ i op,v = .slice (some ⟨i,0,none⟩) n n/\256*c0<=i/\i<256*c/\h.f i=some (.cells false op cs)/\(op=none ∨ op=some 1)
theorem Z2Q.flat {c0:Nat} {h:FH} {c:Nat} {v:Value} {n:Nat} {cs:List Value} (ha:Z2Q c0 h c v n cs):Z0c v=true/\v.cells = #[v]:=by
 obtain ⟨_,_,_,i,op,rfl,_⟩:=ha; exact ⟨rfl,rfl⟩
theorem Z2Q.mono {c0:Nat} {h:FH} {c c':Nat} {v:Value} {n:Nat} {cs:List Value} (hc:c<=c') (ha:Z2Q c0 h c v n cs):Z2Q c0 h c' v n cs:=by
 obtain ⟨h1,h2,h3,i,op,h4,h5,h6,h7⟩:=ha
 exact ⟨h1,h2,h3,i,op,h4,h5,by omega,h7⟩
theorem Z2Q.blk {c0:Nat} {h:FH} {c:Nat} {v:Value} {n:Nat} {cs:List Value} (ha:Z2Q c0 h c v n cs):256*c0<=Z0l v/\Z0l v<256*c:=by
 obtain ⟨h1,h2,h3,i,op,rfl,h5,h6,h7⟩:=ha
 exact ⟨h5,h6⟩
theorem Z2Q.keep {c0:Nat} {h h':FH} {c:Nat} {v:Value} {n:Nat} {cs:List Value} (ha:Z2Q c0 h c v n cs) (hh:h'.f (Z0l v)=h.f (Z0l v)):Z2Q c0 h' c v n cs:=by
 obtain ⟨h1,h2,h3,i,op,rfl,h5,h6,h7,h8⟩:=ha
 exact ⟨h1,h2,h3,i,op,rfl,h5,h6,hh.trans h7,h8⟩
theorem Z2Q.app {c0:Nat} {h:FH} {c c':Nat} {v:Value} {n:Nat} {cs:List Value} (ha:Z2Q c0 h c v n cs) (x:Value) (hx:Z0c x=true) (by' b id:Nat) (hb:256*c<=b) (hid:256*c<=id) (hne:b ≠ id) (hc0:c0<=c)
 (hid':id<256*c') (hlim:(n+1)*(by'+1)<=17592186044416) :
 ∃ h',Z7q (newB h b [x]) id 1 by' v (.slice (some ⟨b,0,none⟩) 1 1)=some (.slice (some ⟨id,0,none⟩) (n+1) (n+1),h')/\Z2Q c0 h' c' (.slice (some ⟨id,0,none⟩) (n+1) (n+1)) (n+1) (cs++[x]) ∧
  (∀ j,j<256*c->j ≠ Z0l v->h'.f j=h.f j):=by
 obtain ⟨h1,h2,h3,i,op,rfl,h5,h6,h7,h8⟩:=ha
 have hlim':Nat.ble ((n+1)*(by'+1)) 17592186044416=true:=Nat.ble_eq_true_of_le hlim
 have hsrc:Z0N (newB h b [x]) 1 (.slice (some ⟨b,0,none⟩) 1 1)=some ([x],1):=by
  have:Nat.ble (0+1*1) [x].length=true:=rfl
  simp only [Z0N,Z0Q,Z0n,get_newB_same,Option.bind_some,this,cond_true,List.drop_zero]
  rfl
 have hn1:n+1<=17592186044416:=by
  have:(n+1)*1<=(n+1)*(by'+1):=Nat.mul_le_mul_left _ qO
  omega
 have hcap:Nat.ble (n+1) n=false:=by rw [Bool.eq_false_iff]; intro hh; have:=Nat.le_of_ble_eq_true hh; omega
 have hfx:[x].all Z0c=true:=by simp [hx]
 have hbi:i ≠ b:=by omega
 have hg:HeapC.get (newB h b [x]) i=some (.cells false op cs):=by rw [get_newB_ne _ _ _ _ hbi]; exact h7
 have hr:Nat.ble (0+n*1) cs.length=true:=Nat.ble_eq_true_of_le (by simp [h1])
 have ht:(cs.drop 0).take (n*1)=cs:=by rw [List.drop_zero,List.take_of_length_le qO]
 rcases h8 with rfl | rfl
 · refine ⟨HeapC.set (newB h b [x]) id (.cells false (some 1) ((cs.drop 0).take (n*1)++[x])), ?_,⟨by simp [h1],by omega,by simp only [List.all_append,h3,hfx,Bool.and_self],id,some 1,rfl,by omega,hid', ?_,.inr rfl⟩, ?_⟩
   · simp only [Z7q,hsrc,Option.bind_some,appTo,hcap,cond_false,Z2g,hlim',hfx,Bool.and_self,cond_true,Z0Q,Z0n,hg,hr]
   · rw [Z0g,if_pos rfl,ht]
   · intro j hj hne'
     rw [Z0g,if_neg qO,Z08,if_neg qO]
 · refine ⟨HeapC.set (HeapC.set (newB h b [x]) i .dead) id (.cells false (some 1) ((cs.drop 0).take (n*1)++[x])), ?_,⟨by simp [h1],by omega,by simp only [List.all_append,h3,hfx,Bool.and_self],id,some 1,rfl,by omega,hid', ?_,.inr rfl⟩, ?_⟩
   · simp only [Z7q,hsrc,Option.bind_some,appTo,hcap,cond_false,Z2g,hlim',hfx,Bool.and_self,cond_true,Z0Q,Z0n,hg,hr,Nat.beq_refl,Bool.not_false,Bool.and_true]
   · rw [Z0g,if_pos rfl,ht]
   · intro j hj hne'
     rw [blkOf_sl] at hne'
     rw [Z0g,if_neg qO,Z0g,if_neg hne',Z08,if_neg qO]
def Z64 (L:List Int) (k:Nat) (d:Int):List Int:=L.set k (L.getD k 0+d)
theorem Z0w (L:List Int) (k:Nat) (d:Int):(Z64 L k d).length=L.length:=by simp [Z64]
theorem Z1R {L:List Int} {B:Int} (h:∀ k,-B<=L.getD k 0/\L.getD k 0<=B) (hB:0<=B) (q:Nat) (d:Int) (hd:-1<=d/\d<=1):∀ k,-(B+1)<=(Z64 L q d).getD k 0/\(Z64 L q d).getD k 0<=B+1:=by
 intro k
 have h1:=h k
 have h2:=h q
 unfold Z64
 by_cases hk:k<L.length
 · by_cases e:q=k
   · subst e
     rw [List.getD_eq_getElem?_getD,List.getElem?_set_self hk]
     simp only [Option.getD_some]
     omega
   · rw [List.getD_eq_getElem?_getD,List.getElem?_set_ne e,← List.getD_eq_getElem?_getD]
     omega
 · rw [List.getD_eq_getElem?_getD,List.getElem?_eq_none (by simp; omega)]
   simp; omega
theorem ZeM:∀ (n:Nat) (V:List Int),ZcM (List.replicate n 0) V=0
 | 0,V=>by cases V <;> rfl
 | n+1,[]=>rfl
 | n+1,x::V=>by rw [List.replicate_succ,ZcM,ZeM n V]; omega
theorem Z5a:∀ (L V:List Int) (k:Nat) (d:Int),k<L.length->L.length=V.length->ZcM (Z64 L k d) V=ZcM L V+d*V.getD k 0
 | [],V,k,d,h,_=>by simp at h
 | x::L,[],k,d,_,h=>by simp at h
 | x::L,y::V,0,d,_,_=>by
  show (x+d)*y+ZcM L V=x*y+ZcM L V+d*y
  rw [Int.add_mul]; omega
 | x::L,y::V,k+1,d,h,h'=>by
  have:=Z5a L V k d (by simpa using h) (by simpa using h')
  show x*y+ZcM (Z64 L k d) V=x*y+ZcM L V+d*V.getD k 0
  rw [this]; omega
def Z4i (n:Nat) (m:List Int):List Int :=
 Z64 (Z64 (Z64 (Z64 (List.replicate (7*n) 0) (7*m.getD 0 0+m.getD 2 0).toNat 1) (7*m.getD 0 0+4+ty (m.getD 2 0) (m.getD 1 0)).toNat 1)
  (7*m.getD 3 0+m.getD 5 0).toNat (-1)) (7*m.getD 3 0+4+ty (m.getD 5 0) (m.getD 4 0)).toNat (-1)
theorem ZeJ (n:Nat) (m:List Int):(Z4i n m).length=7*n:=by simp [Z4i,Z0w]
theorem Zbv (n:Nat):∀ k,-(0:Int)<=(List.replicate n (0:Int)).getD k 0/\(List.replicate n (0:Int)).getD k 0<=0:=by
 intro k
 by_cases hk:k<n
 · simp [List.getD,hk]
 · simp [List.getD,List.getElem?_eq_none (by simp; omega:(List.replicate n (0:Int)).length<=k)]
theorem Zg9 (n:Nat) (m:List Int):∀ k,-4<=(Z4i n m).getD k 0/\(Z4i n m).getD k 0<=4:=by
 have h1:=Z1R (Zbv (7*n)) qO (7*m.getD 0 0+m.getD 2 0).toNat 1 qO
 have h2:=Z1R h1 qO (7*m.getD 0 0+4+ty (m.getD 2 0) (m.getD 1 0)).toNat 1 qO
 have h3:=Z1R h2 qO (7*m.getD 3 0+m.getD 5 0).toNat (-1) qO
 exact Z1R h3 qO (7*m.getD 3 0+4+ty (m.getD 5 0) (m.getD 4 0)).toNat (-1) qO
theorem Zlq {n:Nat} {m V:List Int} (hV:V.length=7*n) (h1:(7*m.getD 0 0+m.getD 2 0).toNat<7*n) (h2:(7*m.getD 0 0+4+ty (m.getD 2 0) (m.getD 1 0)).toNat<7*n)
 (h3:(7*m.getD 3 0+m.getD 5 0).toNat<7*n) (h4:(7*m.getD 3 0+4+ty (m.getD 5 0) (m.getD 4 0)).toNat<7*n) :
 ZcM (Z4i n m) V=Z7o V (m.getD 0 0) (m.getD 1 0) (m.getD 2 0)-Z7o V (m.getD 3 0) (m.getD 4 0) (m.getD 5 0):=by
 unfold Z4i
 rw [Z5a _ _ _ _ (by rw [Z0w,Z0w,Z0w,List.length_replicate]; exact h4) (by rw [Z0w,Z0w,Z0w,List.length_replicate,hV]),
  Z5a _ _ _ _ (by rw [Z0w,Z0w,List.length_replicate]; exact h3) (by rw [Z0w,Z0w,List.length_replicate,hV]),
  Z5a _ _ _ _ (by rw [Z0w,List.length_replicate]; exact h2) (by rw [Z0w,List.length_replicate,hV]),Z5a _ _ _ _ (by rw [List.length_replicate]; exact h1) (by rw [List.length_replicate,hV]),ZeM]
 unfold Z7o gi
 omega
end Go.Ab

namespace Go.Ab
open Go
def Z2I (L:List Int) (m:Nat):Prop:=L.length=m /\ ∀ k,k<m->0<=L.getD k 0/\L.getD k 0<=k
def Z7x (L:List Int):Nat->Nat->Nat
 | 0,i=>i
 | k+1,i=>if L.getD i 0=i then i else Z7x L k (L.getD i 0).toNat
def Z02 (L:List Int) (i:Nat):Nat:=Z7x L (i+1) i
theorem ZbD {L:List Int} {m:Nat} (hd:Z2I L m):∀ {k k' i:Nat},i<m->i<k->i<k'->Z7x L k i=Z7x L k' i
 | 0,_,i,_,h,_=>by omega
 | k+1,0,i,_,_,h=>by omega
 | k+1,k'+1,i,hi,h1,h2=>by
  rw [Z7x,Z7x]
  by_cases e:L.getD i 0=i
  · rw [if_pos e,if_pos e]
  · rw [if_neg e,if_neg e]
    have:=hd.2 i hi
    exact ZbD hd qO qO qO
theorem Z1j {L:List Int} {i:Nat} (e:L.getD i 0=i):Z02 L i=i:=by rw [Z02,Z7x,if_pos e]
theorem Z6x {L:List Int} {m i:Nat} (hd:Z2I L m) (hi:i<m) (e:¬ L.getD i 0=i):Z02 L i=Z02 L (L.getD i 0).toNat:=by
 have:=hd.2 i hi
 rw [Z02,Z7x,if_neg e,Z02]
 exact ZbD hd qO qO qO
theorem ZgA {L:List Int} {m:Nat} (hd:Z2I L m):∀ {k i:Nat},i<m->Z7x L k i<=i
 | 0,i,_=>by rw [Z7x]; omega
 | k+1,i,hi=>by
  rw [Z7x]
  split
  · omega
  · have:=hd.2 i hi
    have:=ZgA hd (k:=k) (i:=(L.getD i 0).toNat) qO
    omega
theorem Z0B {L:List Int} {m i:Nat} (hd:Z2I L m) (hi:i<m):Z02 L i<=i:=ZgA hd hi
def Z1P (L:List Int) (i j:Nat):List Int:=L.set (max (Z02 L i) (Z02 L j)) (min (Z02 L i) (Z02 L j):Nat)
theorem Z0m (l:List Int) (i j:Nat) (x:Int):(l.set i x).getD j 0=if i=j/\i<l.length then x else l.getD j 0:=by
 simp only [List.getD_eq_getElem?_getD,List.getElem?_set]
 by_cases h:i=j
 · subst h
   by_cases h2:i<l.length
   · simp [h2]
   · simp [h2]
 · simp [h]
theorem Z2I.set {L:List Int} {m i:Nat} {x:Nat} (hd:Z2I L m) (hi:i<m) (hx:x<=i):Z2I (L.set i x) m:=by
 refine ⟨by simp [hd.1],fun k hk=>?_⟩
 have hl:=hd.1
 rw [Z0m]
 split
 · rename_i h; obtain ⟨rfl,_⟩:=h; omega
 · exact hd.2 k hk
theorem Z1k {L:List Int} {m i j:Nat} (hd:Z2I L m) (hi:i<m) (hj:j<m):Z2I (Z1P L i j) m:=by
 have h1:=Z0B hd hi
 have h2:=Z0B hd hj
 exact hd.set qO qO
def Z0v (m:Nat):List Int:=(List.range m).map fun k:Nat=>(k:Int)
theorem Z2n {m k:Nat} (h:k<m):(Z0v m).getD k 0=k:=by
 simp [Z0v,List.getD_eq_getElem?_getD,h]
theorem Z0O (m:Nat):Z2I (Z0v m) m:=by
 refine ⟨by simp [Z0v],fun k hk=>?_⟩
 rw [Z2n hk]
 omega
def Z0F (L:List Int) (m:Nat):List Int:=((List.range m).filter fun k=>decide (Z02 L k=k)).map fun k:Nat=>(k:Int)
theorem Z1U (L:List Int) (i:Nat):Z0F L (i+1)=Z0F L i++(if Z02 L i=i then [(i:Int)] else []):=by
 unfold Z0F
 rw [List.range_succ,List.filter_append,List.map_append]
 congr 1
 by_cases h:Z02 L i=i <;> simp [h]
theorem Z4f (L:List Int) (m:Nat):(Z0F L m).length<=m:=by
 unfold Z0F
 rw [List.length_map]
 exact Nat.le_trans (List.length_filter_le _ _) (by simp)
theorem ZaF {L:List Int} {m:Nat} {x:Int} (h:x ∈ Z0F L m):∃ k:Nat,x=k/\k<m/\Z02 L k=k:=by
 unfold Z0F at h
 rw [List.mem_map] at h
 obtain ⟨k,h1,rfl⟩:=h
 rw [List.mem_filter] at h1
 exact ⟨k,rfl,by simpa using h1.1,by simpa using h1.2⟩
theorem Z2Q.sl {c0:Nat} {h:FH} {c:Nat} {v:Value} {n:Nat} {L:List Int} (ha:Z2Q c0 h c v n (ints L)):SlI h c v 1 n L:=by
 obtain ⟨h1,h2,h3,i,op,rfl,h5,h6,h7,h8⟩:=ha
 have hl:L.length=n:=by simpa using h1
 refine ⟨by omega,h2,some ⟨i,0,none⟩,n,rfl,.inr ⟨i,0,ints L,rfl,h6,⟨false,op,h7⟩, ?_⟩⟩
 rw [List.drop_zero,List.take_of_length_le (by simp [hl])]
end Go.Ab

namespace Go.Proofs.Ytcnndelmnobigaa
open Go Go.Ab Go.Proofs
theorem Zdj (k:IntKind) (a b:Int):Z28 max2 [.int k a,.int k b]=some (.int k (if a<b then b else a)):=by
 simp [Z28,max2]
theorem Z5n (k:IntKind) (a b:Int):Z28 min2 [.int k a,.int k b]=some (.int k (if b<a then b else a)):=by
 simp [Z28,min2]
structure Uf (h:FH) (p b m:Nat) (L:List Int):Prop where
 st:h.f p=some (.cells false none [.slice (some ⟨b,0,none⟩) m m])
 up:h.f b=some (.cells false none (ints L))
 ne:p ≠ b
 dn:Z2I L m
 le:m<=1000000
theorem Uf.keep {h h':FH} {p b m:Nat} {L:List Int} (u:Uf h p b m L) (h1:h'.f p=h.f p) (h2:h'.f b=h.f b):Uf h' p b m L:=⟨h1.trans u.st,h2.trans u.up,u.ne,u.dn,u.le⟩
theorem Uf.same {h h':FH} {p b m c:Nat} {L:List Int} (u:Uf h p b m L) (hs:Z0u c h h') (hp:p<256*c) (hb:b<256*c):Uf h' p b m L:=u.keep (hs p hp) (hs b hb)
theorem Uf.ld {h:FH} {p b m:Nat} {L:List Int} (u:Uf h p b m L):ld1 h (.pointer (some ⟨p,0,none⟩))=some (.slice (some ⟨b,0,none⟩) m m):=by
 rw [Z01 ⟨false,none,u.st⟩]; rfl
theorem Uf.rd {h:FH} {p b m:Nat} {L:List Int} (u:Uf h p b m L) {i:Nat} (hi:i<m):ld1 h (.pointer (some ⟨b,i,none⟩))=some (.int .i64 (L.getD i 0)):=by
 have:=u.dn.1
 rw [Z01 ⟨false,none,u.up⟩,ints_getD _ _ qO]
theorem Zgz {h:FH} {b:Nat} {w v:Value} (hg:h.f b=some (.cells false none [w])) (hf:Z0c v=true):stN h 1 (.pointer (some ⟨b,0,none⟩)) (.agg #[v])=some (newB h b [v]):=by
 have hg':HeapC.get h b=some (.cells false none [w]):=hg
 simp [stN,Z2O,Value.cells,Z2k,hg',hf,Z1d]
 rfl
theorem ZkQ (h0:FH) (p b m c:Nat) (v2:Value) (df:List Nat) (hv:OkV c v2) (hp:p<256*c) (hb:b<256*c) (hne:p ≠ b) (hm:m<=1000000) (h1:h0.f p=some (.cells false none [.slice (some ⟨b,0,none⟩) m m])) :
 ∀ (k i:Nat) (X:List Int),i+k=m->X.length=m->(∀ j,j<i->X.getD j 0=j) →
 Ans (G (Zc3 none) [v2,ptrTo p,.int .i64 m,.int .i64 i] (newB h0 b (ints X)) c df) fun r=>r=⟨.exit 0,[v2,ptrTo p,.int .i64 m,.int .i64 m],newB h0 b (ints (Z0v m)),c,df⟩:=by
 intro k
 induction k with
 | zero =>
  intro i X hi hX hf
  obtain rfl:i=m:=by omega
  have e:X=Z0v i:=by
   refine List.ext_getElem (by rw [hX]; simp [Z0v]) fun j h1 h2=>?_
   have:=hf j qO
   rw [List.getD_eq_getElem?_getD,List.getElem?_eq_getElem h1] at this
   simp only [Option.getD_some] at this
   rw [this]; simp [Z0v]
  rw [e]
  refine Ans.lpG rfl rfl (Z5y ..) ?_
  unfold Z4P
  have fx:=True.intro
  refine Ans.go ?_
  clear fx
  (have fx:=hv; refine Ans.ex0 ?_; clear fx)
  rfl
 | succ k ih =>
  intro i X hi hX hf
  have ll:ld1 (newB h0 b (ints X)) (.pointer (some ⟨p,0,none⟩))=some (.slice (some ⟨b,0,none⟩) m m):=by
   rw [ld1_newB_ne _ _ _ _ _ hne,Z01 ⟨false,none,h1⟩]; rfl
  have hs:stN (newB h0 b (ints X)) 1 (.pointer (some ⟨b,i,none⟩)) (.int .i64 i)=some (newB h0 b (ints (X.set i i))):=by
   rw [st1_int _ _ _ _ _ _ (by simp; omega),Z0K]
  refine Ans.lpG rfl rfl (Z5y ..) ?_
  unfold Z4P
  have fx:=ai ll hs
  refine Ans.go ?_
  clear fx
  (have fx:=ai hv (ai hp hb); refine Ans.nxB (B:=newB h0 b (ints (X.set i i))) ?_ ?_; exact (Z1A.both (Z1c.ints _ _) (Z1A.refl _ _) hb); clear fx)
  refine ih (i+1) (X.set i i) qO (by simp [hX]) (fun j hj=>?_)
  rw [Z0m]
  by_cases e:i=j
  · rw [if_pos ⟨e,by omega⟩,e]
  · rw [if_neg (fun q=>e q.1)]; exact hf j qO
theorem ZaD (m:Nat) (h:FH) (c:Nat) (df:List Nat) (hm:m<=1000000) :
 Ans (G (.fn 71) [.int .i64 m] h c df) fun r=>r=⟨.ret,[.agg #[.slice (some ⟨256*(c+1)+1,0,none⟩) m m]],r.h,c+1+1+1+1,[]⟩/\Z0u c h r.h/\r.h.f (256*(c+1)+1)=some (.cells false none (ints (Z0v m))):=by
 refine Ans.call' (fun r e=>f71_go e) ?_
 unfold Zl5
 have mk:=Z5m 1 8 .i64 .i64 m qO qO
 obtain ⟨B,hB⟩:∃ B,256*(c+1)+1=B:=⟨_,rfl⟩
 obtain ⟨Q,hQ⟩:∃ Q,256*(c+1)+3=Q:=⟨_,rfl⟩
 rw [hB,hQ]
 have hbl:Z4w [(.slice none 0 0)] [(0,1,(.slice (some ⟨B,0,none⟩) m m))]=some (.agg #[.slice (some ⟨B,0,none⟩) m m]):=rfl
 have st1:stN (newB (newB (newB h (256*c) [(.slice none 0 0)]) B (ints (List.replicate m 0))) Q [(.slice none 0 0)]) 1 (.pointer (some ⟨Q,0,none⟩)) (.agg #[.slice (some ⟨B,0,none⟩) m m])=some (newB (newB (newB h (256*c) [(.slice none 0 0)]) B (ints (List.replicate m 0))) Q [.slice (some ⟨B,0,none⟩) m m]):=by
  rw [Zgz (w:=.slice none 0 0) (by rw [Z08,if_pos rfl]) rfl,newB_newB]
 obtain ⟨h0,hh0⟩:∃ h0,h0=newB (newB h (256*c) [(.slice none 0 0)]) Q [.slice (some ⟨B,0,none⟩) m m]:=⟨_,rfl⟩
 have ec:newB (newB (newB h (256*c) [(.slice none 0 0)]) B (ints (List.replicate m 0))) Q [.slice (some ⟨B,0,none⟩) m m]=newB h0 B (ints (List.replicate m 0)):=by
  rw [hh0]
  apply FH.ext; intro j
  simp only [Z08]
  by_cases e1:j=Q <;> by_cases e2:j=B <;> simp [e1,e2] <;> omega
 rw [ec] at st1
 have hq:h0.f Q=some (.cells false none [.slice (some ⟨B,0,none⟩) m m]):=by rw [hh0,Z08,if_pos rfl]
 have hc':h0.f (256*c)=some (.cells false none [.slice none 0 0]):=by rw [hh0,Z08,if_neg qO,Z08,if_pos rfl]
 have hl:=fun v2 hv=>Ans.eq (ZkQ h0 Q B m (c+1+1+1) v2 [] hv qO qO qO hm hq m 0 (List.replicate m 0) qO (by simp) (fun j hj=>by omega))
 have hl:=hl (ptrTo (256*c)) (OkV.ptrTo qO)
 simp only [Int.ofNat_eq_natCast,Int.cast_ofNat_Int] at hl
 have ll:∀ X,ld1 (newB h0 B X) (.pointer (some ⟨Q,0,none⟩))=some (.slice (some ⟨B,0,none⟩) m m):=fun X=>by rw [ld1_newB_ne _ _ _ _ _ qO,Z01 ⟨false,none,hq⟩]; rfl
 have lN:∀ X,ldN (newB h0 B X) 1 (.pointer (some ⟨Q,0,none⟩))=some (.agg #[.slice (some ⟨B,0,none⟩) m m]):=fun X=>by rw [ldN_newB_ne _ _ _ _ _ _ qO,Z0p ⟨false,none,hq⟩]
 have hfin:=Zgz (h:=newB h0 B (ints (Z0v m))) (b:=256*c) (w:=.slice none 0 0) (v:=.slice (some ⟨B,0,none⟩) m m) (by rw [Z08,if_neg qO,hc']) rfl
 obtain ⟨K,hK⟩:∃ K,newB (newB h0 B (ints (Z0v m))) (256*c) [.slice (some ⟨B,0,none⟩) m m]=K:=⟨_,rfl⟩
 rw [hK] at hfin
 have lK:ldN K 1 (.pointer (some ⟨256*c,0,none⟩))=some (.agg #[.slice (some ⟨B,0,none⟩) m m]):=Z0p ⟨false,none,by show K.f _=_; rw [← hK,Z08,if_pos rfl]⟩
 repeat' (first | ((with_reducible first | refine Ans.bz ?_ | refine Ans.r1 ?_ | refine Ans.pkT ?_ | refine Ans.pkF ?_); try dsimp only [v_zero,v_succ]) | (with_reducible first | refine Ans.btL ?_ | refine Ans.bfL ?_ | refine Ans.gyT ?_ | refine Ans.gyF ?_ | refine Ans.gyG ?_ | refine Ans.bb ?_ | refine Ans.bc ?_ | refine Ans.ba ?_) | ((with_reducible first | refine Ans.lsT ?_ ?_ | refine Ans.leT ?_ ?_ | refine Ans.grT ?_ ?_ | refine Ans.geT ?_ ?_ | refine Ans.eqT ?_ ?_ | refine Ans.neT ?_ ?_); (focus omega)) | ((with_reducible first | refine Ans.lsF ?_ ?_ | refine Ans.leF ?_ ?_ | refine Ans.grF ?_ ?_ | refine Ans.geF ?_ ?_ | refine Ans.eqF ?_ ?_ | refine Ans.neF ?_ ?_); (focus omega)) | (with_reducible first | refine Ans.lsS (fun _=>?_) (fun _=>?_) | refine Ans.leS (fun _=>?_) (fun _=>?_) | refine Ans.grS (fun _=>?_) (fun _=>?_) | refine Ans.geS (fun _=>?_) (fun _=>?_) | refine Ans.eqS (fun _=>?_) (fun _=>?_) | refine Ans.neS (fun _=>?_) (fun _=>?_)) | ((with_reducible first | refine Ans.addN ?_ ?_ | refine Ans.add ?_ ?_ | refine Ans.sub ?_ ?_ | refine Ans.mul ?_ ?_); (focus omega)) | ((with_reducible first | refine Ans.ct ?_ ?_); (focus (simp (disch:=(first | omega | with_reducible assumption | (simp <;> omega) | fail)) [mk,hbl,st1,ll,lN,hl,hfin,lK,-ldN_newB_same]; done))) | ((with_reducible first | refine Ans.cf ?_ ?_); (focus (simp (disch:=(first | omega | with_reducible assumption | (simp <;> omega) | fail)) [mk,hbl,st1,ll,lN,hl,hfin,lK,-ldN_newB_same]; done))) | (refine Ans.step (by simp (disch:=(first | omega | with_reducible assumption | (simp <;> omega) | fail)) [mk,hbl,st1,ll,lN,hl,hfin,lK,-ldN_newB_same,-List.getD_eq_getElem?_getD] <;> rfl) ?_; try dsimp only [v_zero,v_succ]) | fail)
 refine .done ⟨rfl, ?_, ?_⟩
 · intro b hb
   show K.f b=_
   rw [← hK,Z08,if_neg qO,Z08,if_neg qO,hh0,Z08,if_neg qO,Z08,if_neg qO]
 · show K.f B=_
   rw [← hK,Z08,if_neg qO,Z08,if_pos rfl]
theorem Zk5 (h:FH) (p b m c:Nat) (L:List Int) (u:Uf h p b m L) (hp:p<256*c) (df:List Nat):∀ (k i:Nat),i<k->i<m →
 Ans (G (Zcj none) [ptrTo p,.int .i64 i] h c df) fun r=>r=⟨.exit 0,[ptrTo p,.int .i64 (Z02 L i)],h,c,df⟩:=by
 intro k
 induction k with
 | zero=>intro i h1; omega
 | succ k ih =>
  intro i h1 hi
  have l1:=u.ld
  have l2:=u.rd hi
  have d:=u.dn.2 i hi
  refine Ans.lpG rfl rfl (Z7V ..) ?_
  unfold Z6J
  by_cases e:L.getD i 0=i
  · rw [Z1j e]
    rw [e] at l2
    have fx:=ai l1 l2
    refine Ans.go ?_
    clear fx
    (have fx:=hp; refine Ans.ex0 ?_; clear fx)
    rfl
  · rw [Z6x u.dn hi e]
    obtain ⟨x,hx⟩:∃ x:Nat,L.getD i 0=x:=⟨(L.getD i 0).toNat,by omega⟩
    rw [hx] at l2 d e ⊢
    rw [Int.toNat_natCast]
    have fx:=ai l1 l2
    refine Ans.go ?_
    clear fx
    (have fx:=hp; refine Ans.nx0 ?_; clear fx)
    exact ih x qO qO
theorem Zas (h:FH) (p b m c:Nat) (L:List Int) (u:Uf h p b m L) (hp:p<256*c) (i:Nat) (hi:i<m) (df:List Nat):G (.fn 46) [ptrTo p,.int .i64 i] h c df=some ⟨.ret,[.int .i64 (Z02 L i)],h,c,[]⟩:=by
 refine Z0C (fun r e=>f46_go e) (by simp) ?_
 unfold Zlg
 have hr:=Ans.eq (Zk5 h p b m (c+1) L u qO [] (i+1) i qO hi)
 have fx:=hr
 refine Ans.go ?_
 clear fx
 (have fx:=True.intro; exact Ans.pu)
theorem ZkG (h:FH) (p b m c:Nat) (L:List Int) (u:Uf h p b m L) (hp:p<256*c) (hb:b<256*c) (i j:Nat) (hi:i<m) (hj:j<m) (df:List Nat) :
 G (.fn 72) [ptrTo p,.int .i64 i,.int .i64 j] h c df=some ⟨.ret,[.tuple #[]],newB h b (ints (Z1P L i j)),c,[]⟩:=by
 have c1:=fun c' (hc:c<=c')=>Z05 (Zas h p b m c' L u qO i hi [])
 have c2:=fun c' (hc:c<=c')=>Z05 (Zas h p b m c' L u qO j hj [])
 have r1:=Z0B u.dn hi
 have r2:=Z0B u.dn hj
 have l1:=u.ld
 have e1:(if ((Z02 L i:Nat):Int)<(Z02 L j:Nat) then ((Z02 L j:Nat):Int) else (Z02 L i:Nat))=((max (Z02 L i) (Z02 L j):Nat):Int):=by split <;> omega
 have e2:(if ((Z02 L j:Nat):Int)<(Z02 L i:Nat) then ((Z02 L j:Nat):Int) else (Z02 L i:Nat))=((min (Z02 L i) (Z02 L j):Nat):Int):=by split <;> omega
 have m1:=Zdj .i64 (Z02 L i) (Z02 L j)
 have m2:=Z5n .i64 (Z02 L i) (Z02 L j)
 rw [e1] at m1
 rw [e2] at m2
 clear e1 e2
 have hl:=u.dn.1
 have hw:stN h 1 (.pointer (some ⟨b,max (Z02 L i) (Z02 L j),none⟩)) (.int .i64 (min (Z02 L i) (Z02 L j):Nat))=some (newB h b (ints (Z1P L i j))):=by
  rw [Z12 (show HeapC.get h b=_ from u.up) (by simp; omega) rfl rfl,Z0K]; rfl
 obtain ⟨M,hM⟩:∃ M,max (Z02 L i) (Z02 L j)=M:=⟨_,rfl⟩
 obtain ⟨N,hN⟩:∃ N,min (Z02 L i) (Z02 L j)=N:=⟨_,rfl⟩
 rw [hM] at m1 hw
 rw [hN] at m2 hw
 have hS:Zj3 G (ptrTo p) (.int .i64 i) (.int .i64 j) h c=some ⟨.ret,[.tuple #[]],newB h b (ints (Z1P L i j)),c+1+1,[]⟩:=by
  refine Ans.eq ?_
  unfold Zj3
  have fx:=ai c1 (ai c2 (ai l1 (ai m1 (ai m2 hw))))
  refine Ans.go ?_
  clear fx
  exact .done rfl
 rw [f72_go hS,Zew (B:=newB h b (ints (Z1P L i j))) ?_ ?_ ?_]
 · exact Z1c.cons ⟨.tuple #[],.tuple rfl (fun k x y h=>by simp at h)⟩ (Z1c.nil c)
 · exact fun _ _=>rfl
 · exact Z1A.old hb (Z1c.ints _ _) (Z1A.refl _ _)

theorem Zft (c0 p b m:Nat) (L:List Int) (hp:p<256*c0) (hb:b<256*c0) (df:List Nat):∀ (k i c:Nat) (h:FH) (v:Value),i+k=m->c0<=c->Uf h p b m L->ZcV c0 h c v 1 (Z0F L i).length (Z0F L i) →
 Ans (G (Zck none) [ptrTo p,v,.int .i64 m,.int .i64 i] h c df) fun r=>r.e = .exit 0/\r.v 0=ptrTo p/\ZcV c0 r.h r.c (r.v 1) 1 (Z0F L m).length (Z0F L m)/\c<=r.c/\r.df=df/\Z0u c0 h r.h:=by
 intro k
 induction k with
 | zero =>
  intro i c h v hi hc u ha
  obtain rfl:i=m:=by omega
  refine Ans.lpN rfl rfl (Z5I ..) ?_
  unfold Z4X
  have fx:=True.intro
  refine Ans.go ?_
  clear fx
  refine Ans.exitN ⟨rfl,rfl, ?_,(by show c<=c+1; omega),rfl,fun _ _=>rfl⟩
  exact ha.mono (by show c<=c+1; omega)
 | succ k ih =>
  intro i c h v hi hc u ha
  have c1:=fun c' (hc:c<=c')=>Z05 (Zas h p b m c' L u qO i qO [])
  have hfl:=Z4f L i
  have hle:=u.le
  have hsu:=Z1U L i
  refine Ans.lpN rfl rfl (Z5I ..) ?_
  unfold Z4X
  by_cases e:Z02 L i=i
  · rw [if_pos e] at hsu
    rw [e] at c1
    have hb1:Z2T [.int .i64 0] [(0,1,.int .i64 i)]=some (ints [(i:Int)]):=rfl
    obtain ⟨v',h',e1,e2,e3,e4⟩:=(ha.mono (c':=c+1+1+1) qO).app (c':=c+1+1+1+1) [(i:Int)] rfl qO 8 (256*(c+1+1+1)+2) (256*(c+1+1+1)+3) qO qO qO qO qO qO
    have fx:=ai c1 (ai hb1 e1)
    refine Ans.go ?_
    clear fx
    refine Ans.nextN ?_
    have u':Uf h' p b m L:=u.same e3 hp hb
    refine (ih (i+1) _ h' v' qO qO u' ?_).mono ?_
    · rw [hsu,List.length_append]
      exact e2.mono qO
    · rintro r ⟨q1,q2,q3,q4,q5,q6⟩
      exact ⟨q1,q2,q3,by omega,q5,e3.trans q6⟩
  · rw [if_neg e,List.append_nil] at hsu
    have e':¬ ((Z02 L i:Nat):Int)=i:=by omega
    have fx:=c1
    refine Ans.go ?_
    clear fx
    refine Ans.nextN ?_
    refine (ih (i+1) _ h v qO qO u (by rw [hsu]; exact ha.mono qO)).mono ?_
    rintro r ⟨q1,q2,q3,q4,q5,q6⟩
    exact ⟨q1,q2,q3,by omega,q5,q6⟩
theorem Zez (p b m:Nat) (L:List Int) (h:FH) (c:Nat) (df:List Nat) (u:Uf h p b m L) (hp:p<256*c) (hb:b<256*c) :
 Ans (G (.fn 45) [ptrTo p] h c df) fun r=>∃ v,r=⟨.ret,[v],r.h,r.c,[]⟩/\c<=r.c/\Z0u c h r.h/\ZcV c r.h r.c v 1 (Z0F L m).length (Z0F L m):=by
 refine Ans.call' (fun r e=>f45_go e) ?_
 unfold Zlh
 have l1:=u.ld
 obtain ⟨⟨re,rv,rh,rc,rd⟩,hr,r1,r2,r3,r4,r5,r6⟩:=Zft c p b m L hp hb [] m 0 (c+1+1+1) h (.slice none 0 0) qO qO u (ZcV.nil _ _ _ _)
 simp only [Int.ofNat_eq_natCast,Int.cast_ofNat_Int] at hr
 simp only at r1 r4 r5 r6
 subst r1 r5
 have fx:=ai l1 hr
 refine Ans.go ?_
 clear fx
 refine .done ⟨_,rfl,(by show c<=rc+1; omega),r6,ZcV.mono (c:=rc) (by show rc<=rc+1; omega) r3⟩

structure MatchI (y s:Value) (n:Nat) (Gl:List Int) (gb:Nat) (I:List (List Int)->(Nat->Prop)->FH->Nat->Prop) (J:(Nat->Prop)->FH->Nat->Prop):Prop where
 stab:∀ D O h c h' c',I D O h c->c<=c'->(∀ b,b<256*c->h'.f b=h.f b)->I D O h' c'
 jstab:∀ O h c h' c',J O h c->c<=c'->(∀ b,b<256*c->h'.f b=h.f b)->J O h' c'
 own:∀ D O h c,I D O h c -> ∀ b,O b->b<256*c
 read:∀ D O h c,I D O h c->Z09 h gb [s]/\SlI h c s 20 n Gl
 step:∀ D O h c t f i,t<n->f<4->i<4->i ≠ f->Z1O Gl t f=false->(∃ R,D++(Z2U Gl t f i::R)=Z43 Gl n)->I D O h c →
  Ans (Z2A G h c y [av (Z2U Gl t f i)]) (fun q=>c<=q.2.2 /\ ∃ O',(∀ b,O' b->O b ∨ 256*c<=b)/\(∀ b,b<256*c -> ¬ O b->q.2.1.f b=h.f b) ∧
   ((q.1 = .bool true/\I (D++[Z2U Gl t f i]) O' q.2.1 q.2.2) ∨ (q.1 = .bool false/\J O' q.2.1 q.2.2)))
variable {y s:Value} {n:Nat} {Gl:List Int} {gb:Nat} {I:List (List Int)->(Nat->Prop)->FH->Nat->Prop} {J:(Nat->Prop)->FH->Nat->Prop}
set_option maxHeartbeats 1000000 in
theorem ZqG (hI:MatchI y s n Gl gb I J) (t f:Nat) (ht:t<n) (hf:f<4) (hsk:Z1O Gl t f=false) (hG:Gl.length=n*20) (b6:Nat) (v3 v9 v10 v16 v17:Value) (df:List Nat) :
 ∀ (k i c:Nat) (D:List (List Int)) (O:Nat->Prop) (h:FH),i+k=4->(∃ R,D++(mI Gl t f k i++R)=Z43 Gl n)->I D O h c->b6<256*c -> ¬ O b6->Z09 h b6 (ints (Z03 Gl t f)) →
 Ans (G (Z8B none) [y,.int .i64 t,.int .i64 f,ptrTo b6,v9,v10,v3,v16,v17,.int .i64 i] h c df) fun r=>c<=r.c/\r.df=df /\ ∃ O',(∀ b,O' b->O b ∨ 256*c<=b)/\(∀ b,b<256*c -> ¬ O b->r.h.f b=h.f b) ∧
  ((r.e = .exit 4/\r.vs=[y,.int .i64 t,.int .i64 f,ptrTo b6,v9,v10,v3,v16,v17,.int .i64 4]/\I (D++mI Gl t f k i) O' r.h r.c) ∨
   (r.e = .ret/\(∃ j:Nat,r.vs=[y,.int .i64 t,.int .i64 f,ptrTo b6,v9,v10,v3,v16,v17,.int .i64 j])/\J O' r.h r.c)):=by
 intro k
 induction k with
 | zero =>
  intro i c D O h hi hp hI0 hb6 hO hh
  obtain rfl:i=4:=by omega
  refine Ans.lpN rfl rfl (Z2a ..) ?_
  unfold Z2s
  have fx:=True.intro
  refine Ans.go ?_
  clear fx
  refine Ans.exitN ⟨(by show c<=c+1; omega),rfl,O,fun b hb=>.inl hb,fun b _ _=>rfl,.inl ⟨rfl,rfl, ?_⟩⟩
  rw [mI,List.append_nil]
  exact hI.stab _ _ _ _ _ _ hI0 (by show c<=c+1; omega) (fun b _=>rfl)
 | succ k ih =>
  intro i c D O h hi hp hI0 hb6 hO hh
  obtain ⟨R,hp⟩:=hp
  have hfl:=Z0o hG ht hf
  have hit:(i:Int)<4:=by omega
  have m0:ld1 h (.pointer (some ⟨b6,0,none⟩))=some (.int .i64 (Z0L (Z03 Gl t f))):=by rw [Z01 hh,ints_getD _ _ qO]; rfl
  have mp:∀ j:Nat,j<4->ld1 h (.pointer (some ⟨b6,1+j,none⟩))=some (.int .i64 ((Z0e (Z03 Gl t f)).getD j 0)):=fun j hj=>by
   rw [Z01 hh,ints_getD _ _ qO]
   unfold Z0e
   rw [Z26 _ _ _ hj,Z27]
  have m1:=mp f hf
  have m2:=mp i qO
  by_cases hif:i=f
  · subst hif
    refine Ans.lpN rfl rfl (Z2a ..) ?_
    unfold Z2s
    have fx:=True.intro
    refine Ans.go ?_
    clear fx
    refine Ans.nextN ?_
    refine (ih (i+1) _ D O h qO ⟨R,by rw [mI,if_pos rfl,List.nil_append] at hp; exact hp⟩ (hI.stab _ _ _ _ _ _ hI0 qO (fun b _=>rfl)) qO hO hh).mono ?_
    rintro r ⟨q1,q2,O',q3,q4,q5⟩
    refine ⟨by omega,q2,O',fun b hb=>(q3 b hb).imp id qO,fun b h1 h2=>q4 b qO h2, ?_⟩
    rw [mI,if_pos rfl,List.nil_append]
    exact q5
  · rw [mI,if_neg hif] at hp
    obtain ⟨⟨v,h',c'⟩,hq,hc,O',o1,o2,o3⟩:=hI.step D O h (c+1+1+1) t f i ht hf qO hif hsk ⟨mI Gl t f k (i+1)++R,by simpa using hp⟩ (hI.stab _ _ _ _ _ _ hI0 qO (fun b _=>rfl))
    simp only at hc o1 o2 o3
    have hm:Z2U Gl t f i=[(t:Int),(f:Int),(i:Int),Z0L (Z03 Gl t f),(Z0e (Z03 Gl t f)).getD f 0,(Z0e (Z03 Gl t f)).getD i 0]:=rfl
    have b6':=bld6 (t:Int) f i (Z0L (Z03 Gl t f)) ((Z0e (Z03 Gl t f)).getD f 0) ((Z0e (Z03 Gl t f)).getD i 0)
    rw [← hm] at b6'
    obtain ⟨M,hM⟩:∃ M,Z2U Gl t f i=M:=⟨_,rfl⟩
    rw [hM] at hq b6' o3 hp
    have hne:¬ ((i:Int)=f):=by omega
    rcases o3 with ⟨rfl,hI1⟩ | ⟨rfl,hJ⟩
    · refine Ans.lpN rfl rfl (Z2a ..) ?_
      unfold Z2s
      have fx:=ai m0 (ai m1 (ai m2 (ai b6' hq)))
      refine Ans.go ?_
      clear fx
      refine Ans.nextN ?_
      refine (ih (i+1) _ (D++[M]) O' h' qO ⟨R,by simpa using hp⟩ (hI.stab _ _ _ _ _ _ hI1 qO (fun b _=>rfl)) qO (fun ho=>(o1 b6 ho).elim hO qO) (hh.eqf (o2 b6 qO hO))).mono ?_
      rintro r ⟨q1,q2,O2,q3,q4,q5⟩
      refine ⟨by omega,q2,O2,fun b hb=>?_,fun b h1 h2=>?_, ?_⟩
      · rcases q3 b hb with h1 | h1
        · exact (o1 b h1).imp id qO
        · exact .inr qO
      · rw [q4 b qO (fun ho=>(o1 b ho).elim h2 qO),o2 b qO h2]
      · rw [mI,if_neg hif,hM]
        rw [List.append_assoc] at q5
        exact q5
    · refine Ans.lpN rfl rfl (Z2a ..) ?_
      unfold Z2s
      have fx:=ai m0 (ai m1 (ai m2 (ai b6' hq)))
      refine Ans.go ?_
      clear fx
      refine Ans.retN ⟨(by show c<=c'; omega),rfl,O',fun b hb=>(o1 b hb).imp id qO,fun b h1 h2=>o2 b qO h2,.inr ⟨rfl,⟨i,rfl⟩,hJ⟩⟩
end Go.Proofs.Ytcnndelmnobigaa
