/- Parts of a proof: N3 N4 N5 N6 U4 U5 N7 N8 N9. Conditions: none. -/
import Derived.Test.YtcnndelmnobigaaM16
set_option linter.all false
set_option maxRecDepth 100000
namespace Go.Proofs.Ytcnndelmnobigaa
open Go Go.Ab Go.Proofs
variable {y s:Value} {n:Nat} {Gl:List Int} {gb:Nat} {I:List (List Int)->(Nat->Prop)->FH->Nat->Prop} {J:(Nat->Prop)->FH->Nat->Prop}
set_option maxHeartbeats 1000000 in
theorem ZqH (hI:MatchI y s n Gl gb I J) (t:Nat) (ht:t<n) (hn:n<=1000000) (hG:Gl.length=n*20) (v9 v10:Value) (df:List Nat) :
 ∀ (k f c:Nat) (D:List (List Int)) (O:Nat->Prop) (h:FH),f+k=4->(∃ R,D++(mF Gl t k f++R)=Z43 Gl n)->I D O h c →
 Ans (G (Z8C none) [y,.int .i64 t,v9,v10,.int .i64 t,av (Z73 Gl t),.int .i64 f] h c df) fun r=>c<=r.c/\r.df=df /\ ∃ O',(∀ b,O' b->O b ∨ 256*c<=b)/\(∀ b,b<256*c -> ¬ O b->r.h.f b=h.f b) ∧
  ((r.e = .exit 2/\r.vs=[y,.int .i64 t,v9,v10,.int .i64 t,av (Z73 Gl t),.int .i64 4]/\I (D++mF Gl t k f) O' r.h r.c) ∨
   (r.e = .ret/\(∃ j:Nat,r.vs=[y,.int .i64 t,v9,v10,.int .i64 t,av (Z73 Gl t),.int .i64 j])/\J O' r.h r.c)):=by
 intro k
 induction k with
 | zero =>
  intro f c D O h hf hp hI0
  obtain rfl:f=4:=by omega
  refine Ans.lpN rfl rfl (Z5w ..) ?_
  unfold Z4N
  have fx:=True.intro
  refine Ans.go ?_
  clear fx
  refine Ans.exitN ⟨(by show c<=c+1; omega),rfl,O,fun b hb=>.inl hb,fun b _ _=>rfl,.inl ⟨rfl,rfl, ?_⟩⟩
  rw [mF,List.append_nil]
  exact hI.stab _ _ _ _ _ _ hI0 (by show c<=c+1; omega) (fun b _=>rfl)
 | succ k ih =>
  intro f c D O h hf hp hI0
  obtain ⟨R,hp⟩:=hp
  have hf4:f<4:=by omega
  have hfl:=Z0o hG ht hf4
  have hrl:=Z5i hG ht
  have x1:=Z8s (Z73 Gl t) 4 5 .i64 f qO qO hrl
  rw [Int.toNat_natCast,Zda hf4] at x1
  obtain ⟨H,hH⟩:∃ H,H=newB h (256*(c+1)+2) (ints (Z03 Gl t f)):=⟨_,rfl⟩
  have hst:stN (newB h (256*(c+1)+2) [.int .i64 0,.int .i64 0,.int .i64 0,.int .i64 0,.int .i64 0]) 5 (.pointer (some ⟨256*(c+1)+2,0,none⟩)) (av (Z03 Gl t f))=some H:=by rw [hH]; exact stN_all _ _ 5 _ _ hfl rfl
  have hh:Z09 H (256*(c+1)+2) (ints (Z03 Gl t f)):=by rw [hH]; exact Z09.newB_same _ _ _
  have hs:∀ b,b<256*c->H.f b=h.f b:=fun b hb=>by rw [hH,Z08,if_neg qO]
  clear hH
  have m0:ld1 H (.pointer (some ⟨256*(c+1)+2,0,none⟩))=some (.int .i64 (Z0L (Z03 Gl t f))):=by rw [Z01 hh,ints_getD _ _ qO]; rfl
  have m1:ld1 H (.pointer (some ⟨256*(c+1)+2,1+f,none⟩))=some (.int .i64 ((Z0e (Z03 Gl t f)).getD f 0)):=by
   rw [Z01 hh,ints_getD _ _ qO]
   unfold Z0e
   rw [Z26 _ _ _ hf4,Z27]
  have hsk:Z1O Gl t f=(decide (Z0L (Z03 Gl t f)<0) || decide (Z0L (Z03 Gl t f)<t) || (decide (Z0L (Z03 Gl t f)=t) && decide ((Z0e (Z03 Gl t f)).getD f 0<f))):=rfl
  have skip:∀ c',c<=c'->Z1O Gl t f=true->Ans (G (Z8C none) [y,.int .i64 t,v9,v10,.int .i64 t,av (Z73 Gl t),.int .i64 (f+1:Nat)] H c' df) fun r=>c<=r.c/\r.df=df /\ ∃ O',(∀ b,O' b->O b ∨ 256*c<=b)/\(∀ b,b<256*c -> ¬ O b->r.h.f b=h.f b) ∧
   ((r.e = .exit 2/\r.vs=[y,.int .i64 t,v9,v10,.int .i64 t,av (Z73 Gl t),.int .i64 4]/\I (D++mF Gl t (k+1) f) O' r.h r.c) ∨
    (r.e = .ret/\(∃ j:Nat,r.vs=[y,.int .i64 t,v9,v10,.int .i64 t,av (Z73 Gl t),.int .i64 j])/\J O' r.h r.c)):=by
   intro c' hc' hk
   refine (ih (f+1) c' D O H qO ⟨R,by rw [mF,if_pos hk,List.nil_append] at hp; exact hp⟩ (hI.stab _ _ _ _ _ _ hI0 hc' hs)).mono ?_
   rintro r ⟨q1,q2,O',q3,q4,q5⟩
   refine ⟨by omega,q2,O',fun b hb=>(q3 b hb).imp id qO,fun b h1 h2=>by rw [q4 b qO h2,hs b h1], ?_⟩
   rw [mF,if_pos hk,List.nil_append]
   exact q5
  have inner:∀ c':Nat,c+2<=c'->Z1O Gl t f=false->Ans (G (Z8B none) [y,.int .i64 t,.int .i64 f,ptrTo (256*(c+1)+2),v9,v10,.int .i64 t,av (Z73 Gl t),.int .i64 f,.int .i64 0] H c' df) fun r=>c'<=r.c/\r.df=df /\ ∃ O',(∀ b,O' b->O b ∨ 256*c'<=b)/\(∀ b,b<256*c' -> ¬ O b->r.h.f b=H.f b) ∧
   ((r.e = .exit 4/\r.vs=[y,.int .i64 t,.int .i64 f,ptrTo (256*(c+1)+2),v9,v10,.int .i64 t,av (Z73 Gl t),.int .i64 f,.int .i64 4]/\I (D++mI Gl t f 4 0) O' r.h r.c) ∨
    (r.e = .ret/\(∃ j:Nat,r.vs=[y,.int .i64 t,.int .i64 f,ptrTo (256*(c+1)+2),v9,v10,.int .i64 t,av (Z73 Gl t),.int .i64 f,.int .i64 j])/\J O' r.h r.c)):=fun c' hc' hk =>
   ZqG hI t f ht hf4 hk hG (256*(c+1)+2) (.int .i64 t) v9 v10 (av (Z73 Gl t)) (.int .i64 f) df 4 0 c' D O H qO ⟨mF Gl t k (f+1)++R,by rw [mF,if_neg (by rw [hk]; simp)] at hp; simpa using hp⟩ (hI.stab _ _ _ _ _ _ hI0 qO hs) qO (fun ho=>by have:=hI.own _ _ _ _ hI0 _ ho; omega) hh
  obtain ⟨T,hT⟩:∃ T,Z0L (Z03 Gl t f)=T:=⟨_,rfl⟩
  obtain ⟨Y,hY⟩:∃ Y,(Z0e (Z03 Gl t f)).getD f 0=Y:=⟨_,rfl⟩
  rw [hT] at m0 hsk
  rw [hY] at m1 hsk
  refine Ans.lpN rfl rfl (Z5w ..) ?_
  unfold Z4N
  repeat' (first | ((with_reducible first | refine Ans.bz ?_ | refine Ans.r1 ?_ | refine Ans.pkT ?_ | refine Ans.pkF ?_); try dsimp only [v_zero,v_succ]) | (with_reducible first | refine Ans.btL ?_ | refine Ans.bfL ?_ | refine Ans.gyT ?_ | refine Ans.gyF ?_ | refine Ans.gyG ?_ | refine Ans.bb ?_ | refine Ans.bc ?_ | refine Ans.ba ?_) | ((with_reducible first | refine Ans.lsT ?_ ?_ | refine Ans.leT ?_ ?_ | refine Ans.grT ?_ ?_ | refine Ans.geT ?_ ?_ | refine Ans.eqT ?_ ?_ | refine Ans.neT ?_ ?_); (focus omega)) | ((with_reducible first | refine Ans.lsF ?_ ?_ | refine Ans.leF ?_ ?_ | refine Ans.grF ?_ ?_ | refine Ans.geF ?_ ?_ | refine Ans.eqF ?_ ?_ | refine Ans.neF ?_ ?_); (focus omega)) | (with_reducible first | refine Ans.lsS (fun _=>?_) (fun _=>?_) | refine Ans.leS (fun _=>?_) (fun _=>?_) | refine Ans.grS (fun _=>?_) (fun _=>?_) | refine Ans.geS (fun _=>?_) (fun _=>?_) | refine Ans.eqS (fun _=>?_) (fun _=>?_) | refine Ans.neS (fun _=>?_) (fun _=>?_)) | ((with_reducible first | refine Ans.addN ?_ ?_ | refine Ans.add ?_ ?_ | refine Ans.sub ?_ ?_ | refine Ans.mul ?_ ?_); (focus omega)) | ((with_reducible first | refine Ans.ct ?_ ?_); (focus (simp (disch:=(first | omega | with_reducible assumption | (simp <;> omega) | fail)) [x1,hst,m0,m1]; done))) | ((with_reducible first | refine Ans.cf ?_ ?_); (focus (simp (disch:=(first | omega | with_reducible assumption | (simp <;> omega) | fail)) [x1,hst,m0,m1]; done))) | (refine Ans.step (by simp (disch:=(first | omega | with_reducible assumption | (simp <;> omega) | fail)) [x1,hst,m0,m1,-List.getD_eq_getElem?_getD] <;> rfl) ?_; try dsimp only [v_zero,v_succ]) | fail)
  all_goals first
   | exact Ans.nextN (skip _ qO (by rw [hsk]; simp [*]))
   | skip
  all_goals
   have hk:Z1O Gl t f=false:=by rw [hsk]; simp [*]
   refine Ans.head (inner _ qO hk) ?_
   rintro ⟨re,rv,rh,rc,rd⟩ ⟨q1,q2,O',q3,q4,q5⟩
   simp only at q1 q2 q4 q5
   subst q2
   rcases q5 with ⟨rfl,rfl,q6⟩ | ⟨rfl,⟨j,rfl⟩,q6⟩
   · have fx:=True.intro
     refine Ans.go ?_
     clear fx
     refine Ans.nextN ?_
     refine (ih (f+1) _ (D++mI Gl t f 4 0) O' rh qO ⟨R,by rw [mF,if_neg (by rw [hk]; simp)] at hp; simpa using hp⟩ (hI.stab _ _ _ _ _ _ q6 qO (fun b _=>rfl))).mono ?_
     rintro r ⟨w1,w2,O2,w3,w4,w5⟩
     refine ⟨by omega,w2,O2,fun b hb=>?_,fun b h1 h2=>?_, ?_⟩
     · rcases w3 b hb with h1 | h1
       · exact (q3 b h1).imp id qO
       · exact .inr qO
     · rw [w4 b qO (fun ho=>(q3 b ho).elim h2 qO),q4 b qO h2,hs b h1]
     · rw [mF,if_neg (by rw [hk]; simp)]
       rw [List.append_assoc] at w5
       exact w5
   · have fx:=True.intro
     refine Ans.go ?_
     clear fx
     exact Ans.retN ⟨(by show c<=rc; omega),rfl,O',fun b hb=>(q3 b hb).imp id qO,fun b h1 h2=>by show rh.f b=h.f b; rw [q4 b qO h2,hs b h1],.inr ⟨rfl,⟨f,rfl⟩,q6⟩⟩
set_option maxHeartbeats 1000000 in
theorem ZqF (hI:MatchI y s n Gl gb I J) (hn:n<=1000000) (hG:Gl.length=n*20) (df:List Nat) :
 ∀ (k t c:Nat) (D:List (List Int)) (O:Nat->Prop) (h:FH),t+k=n->D++mT Gl k t=Z43 Gl n->I D O h c →
 Ans (G (Zc2 none) [y,s,.int .i64 n,.int .i64 t] h c df) fun r=>c<=r.c/\r.df=df /\ ∃ O',(∀ b,O' b->O b ∨ 256*c<=b)/\(∀ b,b<256*c -> ¬ O b->r.h.f b=h.f b) ∧
  ((r.e = .exit 0/\I (D++mT Gl k t) O' r.h r.c) ∨ (r.e = .ret/\J O' r.h r.c)):=by
 intro k
 induction k with
 | zero =>
  intro t c D O h ht hp hI0
  obtain rfl:t=n:=by omega
  refine Ans.lpN rfl rfl (Z5x ..) ?_
  unfold Z4O
  have fx:=True.intro
  refine Ans.go ?_
  clear fx
  refine Ans.exitN ⟨(by show c<=c+1; omega),rfl,O,fun b hb=>.inl hb,fun b _ _=>rfl,.inl ⟨rfl, ?_⟩⟩
  rw [mT,List.append_nil]
  exact hI.stab _ _ _ _ _ _ hI0 (by show c<=c+1; omega) (fun b _=>rfl)
 | succ k ih =>
  intro t c D O h ht hp hI0
  have htn:t<n:=by omega
  have hrl:=Z5i hG htn
  obtain ⟨hgb,hs0⟩:=hI.read _ _ _ _ hI0
  have l1:=hs0.row t qO qO
  simp only [Int.toNat_natCast] at l1
  obtain ⟨H,hH⟩:∃ H,H=newB h (256*(c+1)+3) (ints (Z73 Gl t)):=⟨_,rfl⟩
  have hst:stN (newB h (256*(c+1)+3) [(.int .i64 0),(.int .i64 0),(.int .i64 0),(.int .i64 0),(.int .i64 0),(.int .i64 0),(.int .i64 0),(.int .i64 0),(.int .i64 0),(.int .i64 0),(.int .i64 0),(.int .i64 0),(.int .i64 0),(.int .i64 0),(.int .i64 0),(.int .i64 0),(.int .i64 0),(.int .i64 0),(.int .i64 0),(.int .i64 0)]) 20 (.pointer (some ⟨256*(c+1)+3,0,none⟩)) (av (Z73 Gl t))=some H:=by rw [hH]; exact stN_all _ _ 20 _ _ hrl rfl
  have hld:ldN H 20 (.pointer (some ⟨256*(c+1)+3,0,none⟩))=some (av (Z73 Gl t)):=by
   rw [hH,ldN_newB_same _ _ _ _ _ (by simp [hrl]),List.drop_zero,List.take_of_length_le (by simp [hrl])]; rfl
  have hs:∀ b,b<256*c->H.f b=h.f b:=fun b hb=>by rw [hH,Z08,if_neg qO]
  clear hH
  have inner:=ZqH hI t htn hn hG s (.int .i64 n) df 4 0 (c+1+1+1) D O H qO ⟨mT Gl k (t+1),by rw [mT] at hp; exact hp⟩ (hI.stab _ _ _ _ _ _ hI0 qO hs)
  refine Ans.lpN rfl rfl (Z5x ..) ?_
  unfold Z4O
  have fx:=ai hs0.ixs (ai l1 (ai hst hld))
  refine Ans.go ?_
  clear fx
  refine Ans.head inner ?_
  rintro ⟨re,rv,rh,rc,rd⟩ ⟨q1,q2,O',q3,q4,q5⟩
  simp only at q1 q2 q4 q5
  subst q2
  rcases q5 with ⟨rfl,rfl,q6⟩ | ⟨rfl,⟨j,rfl⟩,q6⟩
  · have fx:=True.intro
    refine Ans.go ?_
    clear fx
    refine Ans.nextN ?_
    refine (ih (t+1) _ (D++mF Gl t 4 0) O' rh qO (by rw [mT] at hp; simpa using hp) (hI.stab _ _ _ _ _ _ q6 qO (fun b _=>rfl))).mono ?_
    rintro r ⟨w1,w2,O2,w3,w4,w5⟩
    refine ⟨by omega,w2,O2,fun b hb=>?_,fun b h1 h2=>?_, ?_⟩
    · rcases w3 b hb with h1 | h1
      · exact (q3 b h1).imp id qO
      · exact .inr qO
    · rw [w4 b qO (fun ho=>(q3 b ho).elim h2 qO),q4 b qO h2,hs b h1]
    · rw [mT]
      rw [List.append_assoc] at w5
      exact w5
  · have fx:=True.intro
    refine Ans.go ?_
    clear fx
    exact Ans.retN ⟨(by show c<=rc; omega),rfl,O',fun b hb=>(q3 b hb).imp id qO,fun b h1 h2=>by show rh.f b=h.f b; rw [q4 b qO h2,hs b h1],.inr ⟨rfl,q6⟩⟩
theorem ZiK (hI:MatchI y s n Gl gb I J) (hn:n<=1000000) {O:Nat->Prop} {h:FH} {c:Nat} (hI0:I [] O h c) (df:List Nat) :
 Ans (G (.fn 77) [y,ptrTo gb] h c df) fun r=>r.e = .ret/\r.vs=[.tuple #[]]/\r.df=[]/\c<=r.c /\ ∃ O',(∀ b,O' b->O b ∨ 256*c<=b)/\(∀ b,b<256*c -> ¬ O b->r.h.f b=h.f b)/\(I (Z43 Gl n) O' r.h r.c ∨ J O' r.h r.c):=by
 refine Ans.call' (fun r e=>f77_go e) ?_
 obtain ⟨hgb,hs0⟩:=hI.read _ _ _ _ hI0
 have hlen:=hs0.len
 have e2:ld1 h (.pointer (some ⟨gb,0,none⟩))=some s:=by rw [Z01 hgb]; rfl
 have inner:=ZqF hI hn hs0.1 [] n 0 (c+1) [] O h qO rfl (hI.stab _ _ _ _ _ _ hI0 qO (fun b _=>rfl))
 simp only [Int.ofNat_eq_natCast,Int.cast_ofNat_Int] at inner
 unfold Zl1
 have fx:=ai hlen e2
 refine Ans.go ?_
 clear fx
 refine Ans.head inner ?_
 rintro ⟨re,rv,rh,rc,rd⟩ ⟨q1,q2,O',q3,q4,q5⟩
 simp only at q1 q2 q4 q5
 subst q2
 rcases q5 with ⟨rfl,q6⟩ | ⟨rfl,q6⟩
 · have fx:=True.intro
   refine Ans.go ?_
   clear fx
   exact .done ⟨rfl,rfl,rfl,(by show c<=rc; omega),O',fun b hb=>(q3 b hb).imp id qO,fun b h1 h2=>q4 b qO h2,.inl q6⟩
 · have fx:=True.intro
   refine Ans.go ?_
   clear fx
   exact .done ⟨rfl,rfl,rfl,(by show c<=rc; omega),O',fun b hb=>(q3 b hb).imp id qO,fun b h1 h2=>q4 b qO h2,.inr q6⟩

structure RoundI (s:Value) (n:Nat) (Gl:List Int) (gb l cl:Nat) (st:ALoop) (pe:Option Code) (vs:List Value) (I:List (List Int)->(Nat->Prop)->FH->Nat->Prop) (J:(Nat->Prop)->FH->Nat->Prop):Prop where
 stab:∀ D O h c h' c',I D O h c->c<=c'->(∀ b,b<256*c->b ≠ l->h'.f b=h.f b)->I D O h' c'
 jstab:∀ O h c h' c',J O h c->c<=c'->(∀ b,b<256*c->b ≠ l->h'.f b=h.f b)->J O h' c'
 own:∀ D O h c,I D O h c -> ∀ b,O b->b<256*c
 ownJ:∀ O h c,J O h c -> ∀ b,O b->b<256*c
 read:∀ D O h c,I D O h c->Z09 h gb [s]/\SlI h c s 20 n Gl
 step:∀ D O h c t f i,t<n->f<4->i<4->i ≠ f->Z1O Gl t f=false->(∃ R,D++(Z2U Gl t f i::R)=Z43 Gl n)->cl<=c->I D O h c->h.f l=some (.loop st) →
  Ans (G (.rnd st.nt st.lin st.fr st.params l st.assign st.body) (av (Z2U Gl t f i)::vs) h c []) (fun r=>c<=r.c /\ ∃ O',(∀ b,O' b->O b ∨ 256*c<=b)/\(∀ b,b<256*c -> ¬ O b->b ≠ l->r.h.f b=h.f b) ∧
   ((r.vs=[.bool true]/\r.h.f l=some (.loop st)/\I (D++[Z2U Gl t f i]) O' r.h r.c) ∨ (r.vs=[.bool false]/\r.h.f l=some (.loop { st with state:=.done,pending:=pe })/\J O' r.h r.c)))
theorem Z7z {s:Value} {n:Nat} {Gl:List Int} {gb nt:Nat} {lin:List Nat} {p:Nat} {a b:ACode} {vs:List Value} {h:FH} {c:Nat} {df:List Nat} {pe:Option Code} {ex:Ex} {I:List (List Int)->(Nat->Prop)->FH->Nat->Prop} {J:(Nat->Prop)->FH->Nat->Prop}
 (hn:n<=1000000) (hp:p<nt) (hex:exOf pe=some ex)
 (hI:RoundI s n Gl gb (256*c) (c+1) (Z7a nt lin #[p] a b vs (256*c+1)) pe vs I J) {O:Nat->Prop} (hO:∀ b,O b->b<256*c)
 (hI0:I [] O (Z2N h c nt lin #[p] a b vs) (c+1)) :
 Ans (Z5Y G nt none lin [] #[p] a b (.func (.func 77) [].toArray [ptrTo gb].toArray) vs h c df) fun q =>
  ∃ rh O',q.2=(HeapC.del rh (256*c),q.2.2.1,(256*c+1)::df)/\c+1<=q.2.2.1/\rh.f (256*c+1)=some .dfr/\(∀ b,O' b->O b ∨ 256*c<=b)/\(∀ b,b<256*c -> ¬ O b->rh.f b=h.f b) ∧
   ((q.1 = .normal/\I (Z43 Gl n) O' rh q.2.2.1) ∨ (q.1=ex/\J O' rh q.2.2.1)):=by
 obtain ⟨st,hst⟩:∃ st,st=Z7a nt lin #[p] a b vs (256*c+1):=⟨_,rfl⟩
 obtain ⟨l,hl⟩:∃ l,l=256*c:=⟨_,rfl⟩
 rw [← hst,← hl] at hI
 have hst1:st.state = .ready:=by rw [hst]; rfl
 have hst2:st.vals=vs:=by rw [hst]; rfl
 have hst4:st.pending=none:=by rw [hst]; rfl
 have hst3:(Nat.beq [av ([]:List Int)].length st.params.length && Z75 st.params && st.params.all (Nat.blt · st.nt))=true:=by
  have:Nat.blt p nt=true:=by rw [Nat.blt_eq]; exact hp
  rw [hst]; simp [Z7a,Z75,this]
 have hM:MatchI (.func (.yield l) #[] #[]) s n Gl gb
  (fun D O h c'=>c+1<=c'/\h.f l=some (.loop st) /\ ∃ O1:Nat->Prop,(∀ b,O b ↔ O1 b ∨ b=l) /\ ¬ O1 (l+1)/\I D O1 h c')
  (fun O h c'=>c+1<=c'/\h.f l=some (.loop { st with state:=.done,pending:=pe }) /\ ∃ O1:Nat->Prop,(∀ b,O b ↔ O1 b ∨ b=l) /\ ¬ O1 (l+1)/\J O1 h c'):=by
  refine ⟨fun D O h c1 h' c2 ⟨g1,g2,O1,g3,g4,g5⟩ hc hs=>⟨by omega,(hs l qO).trans g2,O1,g3,g4,hI.stab _ _ _ _ _ _ g5 hc (fun b hb _=>hs b hb)⟩,
   fun O h c1 h' c2 ⟨g1,g2,O1,g3,g4,g5⟩ hc hs=>⟨by omega,(hs l qO).trans g2,O1,g3,g4,hI.jstab _ _ _ _ _ g5 hc (fun b hb _=>hs b hb)⟩, ?_,fun D O h c1 ⟨g1,g2,O1,g3,g4,g5⟩=>hI.read _ _ _ _ g5, ?_⟩
  · rintro D O h c1 ⟨g1,g2,O1,g3,g4,g5⟩ b hb
    rcases (g3 b).1 hb with h1 | h1
    · exact hI.own _ _ _ _ g5 b h1
    · omega
  · rintro D O h c1 t f i ht hf hi hif hsk hpre ⟨g1,g2,O1,g3,g4,g5⟩
    refine Zb6 (st:=st) g2 hst1 hst3 ?_
    obtain ⟨r,hr,q1,O2,q2,q3,q4⟩:=hI.step D O1 h c1 t f i ht hf hi hif hsk hpre g1 g5 g2
    rw [hst2]
    have k1:∀ b,O2 b ∨ b=l->O b ∨ 256*c1<=b:=fun b hb=>by
     rcases hb with hb | hb
     · exact (q2 b hb).imp (fun h=>(g3 b).2 (.inl h)) id
     · exact .inl ((g3 b).2 (.inr hb))
    have k2:∀ b,b<256*c1 -> ¬ O b->r.h.f b=h.f b:=fun b h1 h2=>q3 b h1 (fun ho=>h2 ((g3 b).2 (.inl ho))) (fun e=>h2 ((g3 b).2 (.inr e)))
    have k3:¬ O2 (l+1):=fun ho=>(q2 _ ho).elim g4 qO
    rcases q4 with ⟨w1,w2,w3⟩ | ⟨w1,w2,w3⟩
    · exact .intro hr ⟨_,w1,q1,fun b=>O2 b ∨ b=l,k1,k2,.inl ⟨rfl,by show c+1<=r.c; omega,w2,O2,fun b=>Iff.rfl,k3,w3⟩⟩
    · rw [hst2] at w2
      exact .intro hr ⟨_,w1,q1,fun b=>O2 b ∨ b=l,k1,k2,.inr ⟨rfl,by show c+1<=r.c; omega,w2,O2,fun b=>Iff.rfl,k3,w3⟩⟩
 have hE0:(Z2N h c nt lin #[p] a b vs).f l=some (.loop st):=by rw [Z4q,if_pos hl,hst]
 have hE1:(Z2N h c nt lin #[p] a b vs).f (l+1)=some .dfr:=by rw [Z4q,if_neg qO,if_pos qO]
 obtain ⟨⟨re,rv,rh,rc,rd⟩,hr,r1,r2,r3,r4,O',r5,r6,r7⟩:=ZiK hM hn (O:=fun b=>O b ∨ b=l) (h:=Z2N h c nt lin #[p] a b vs) (c:=c+1) ⟨Nat.le_refl _,hE0,O,fun b=>Iff.rfl,fun ho=>by have:=hO _ ho; omega,hI0⟩ []
 simp only at r1 r2 r3 r4 r6 r7
 subst r1 r2 r3
 have d1:rh.f (l+1)=some .dfr:=by rw [r6 (l+1) qO (fun ho=>ho.elim (fun h=>by have:=hO _ h; omega) qO),hE1]
 have fr:∀ b,b<256*c -> ¬ O b->rh.f b=h.f b:=fun b h1 h2=>by
  rw [r6 b qO (fun ho=>ho.elim h2 qO),Z4q,if_neg qO,if_neg qO]
 rw [hl] at hr
 have own1:∀ O1:Nat->Prop,(∀ b,O' b ↔ O1 b ∨ b=l) -> ∀ b,O1 b->b ≠ l->O b ∨ 256*(c+1)<=b:=fun O1 g3 b hb hne=>by
  rcases r5 b ((g3 b).2 (.inl hb)) with h1 | h1
  · exact .inl (h1.resolve_right hne)
  · exact .inr h1
 rcases r7 with ⟨g1,g2,O1,g3,g4,g5⟩ | ⟨g1,g2,O1,g3,g4,g5⟩
 · refine (Z7A (Q:=fun q=>q=(.normal,HeapC.del rh (256*c),rc,(256*c+1)::df)) (.intro hr ⟨st,.normal,by rw [← hl]; exact g2,by rw [hst1]; simp,by rw [hst4]; rfl,rfl⟩)).mono ?_
   rintro _ rfl
   exact ⟨rh,O1,rfl,g1,by rw [← hl]; exact d1,fun b hb=>by
    by_cases e:b=l
    · exact .inr qO
    · exact (own1 O1 g3 b hb e).imp id qO,fr,.inl ⟨rfl,g5⟩⟩
 · refine (Z7A (Q:=fun q=>q=(ex,HeapC.del rh (256*c),rc,(256*c+1)::df)) (.intro hr ⟨_,ex,by rw [← hl]; exact g2,by simp,hex,rfl⟩)).mono ?_
   rintro _ rfl
   exact ⟨rh,O1,rfl,g1,by rw [← hl]; exact d1,fun b hb=>by
    by_cases e:b=l
    · exact .inr qO
    · exact (own1 O1 g3 b hb e).imp id qO,fr,.inr ⟨rfl,g5⟩⟩

structure ChI (s v:Value) (n nv:Nat) (Gl V:List Int) (gb vb rb cb:Nat) (D:List (List Int)) (O:Nat->Prop) (h:FH) (c:Nat):Prop where
 lc:cb<=c
 own:O=fun b=>b=rb
 g:Z09 h gb [s]
 sl:SlI h cb s 20 n Gl
 vv:Z09 h vb [v]
 vs:SlI h cb v 1 nv V
 res:h.f rb=some (.cells false none [.int .i64 0])
 ok:∀ m ∈ D,eqM V m=true
structure ChJ (n:Nat) (Gl V:List Int) (rb cb:Nat) (O:Nat->Prop) (h:FH) (c:Nat):Prop where
 lc:cb<=c
 own:O=fun b=>b=rb
 res:h.f rb=some (.cells false none [.int .i64 130])
 bad:(Z43 Gl n).all (fun m=>eqM V m)=false
set_option maxHeartbeats 1000000 in
theorem Zgd (s v:Value) (n nv:Nat) (Gl V:List Int) (gb vb rb cb l:Nat) (st:ALoop) (hst:st.state = .ready) (hst2:st.pending=none) (hok:Z0t Gl n=true) (hn:n<=60) (hnv:nv=7*n) (hW:Z0x V=true)
 (hgb:gb<256*cb) (hvb:vb<256*cb) (hrb:rb<256*cb) (hl:l<256*cb) (h1:l ≠ gb) (h2:l ≠ vb) (h3:l ≠ rb) (h4:256*cb<=256*cb) (hvr:vb ≠ rb) (hgr:gb ≠ rb) (hls:0<n->Z0l s ≠ l/\Z0l s ≠ rb) (hlv:0<n->Z0l v ≠ l/\Z0l v ≠ rb)
 {D:List (List Int)} {O:Nat->Prop} {h:FH} {c t f i:Nat} (ht:t<n) (hf:f<4) (hi:i<4) (hif:i ≠ f) (hsk:Z1O Gl t f=false) (hI:ChI s v n nv Gl V gb vb rb cb D O h c) (hlp:h.f l=some (.loop st)) :
 Ans (Z3B G l (av (Z2U Gl t f i)) (ptrTo rb) (ptrTo vb) h c) (fun r=>c<=r.c /\ ∃ O',(∀ b,O' b->O b ∨ 256*c<=b)/\(∀ b,b<256*c -> ¬ O b->b ≠ l->r.h.f b=h.f b) ∧
  ((r.vs=[.bool true]/\r.h.f l=some (.loop st)/\ChI s v n nv Gl V gb vb rb cb (D++[Z2U Gl t f i]) O' r.h r.c) ∨
   (r.vs=[.bool false]/\r.h.f l=some (.loop { st with state:=.done,pending:=some .ret })/\ChJ n Gl V rb cb O' r.h r.c))):=by
 have hlc:=hI.lc
 have hG:=hI.sl.1
 obtain ⟨k1,k2,k3⟩:=ZaI hok hG ht hf hi hif hsk
 have hmem:=ZdX (Gl:=Gl) (n:=n) ht hf hi hif hsk
 have hpf:=Z1N k3 hf
 have hpi:=Z1N k3 hi
 have hpn:=ZrZ k3 hi hf hif
 have heq:eqM V (Z2U Gl t f i)=decide (Z7o V t f i=Z7o V (Z0L (Z03 Gl t f)) ((Z0e (Z03 Gl t f)).getD f 0) ((Z0e (Z03 Gl t f)).getD i 0)):=rfl
 have m0:(Z2U Gl t f i).getD 0 0=t:=rfl
 have m1:(Z2U Gl t f i).getD 1 0=f:=rfl
 have m2:(Z2U Gl t f i).getD 2 0=i:=rfl
 have m3:(Z2U Gl t f i).getD 3 0=Z0L (Z03 Gl t f):=rfl
 have m4:(Z2U Gl t f i).getD 4 0=(Z0e (Z03 Gl t f)).getD f 0:=rfl
 have m5:(Z2U Gl t f i).getD 5 0=(Z0e (Z03 Gl t f)).getD i 0:=rfl
 have ml:(Z2U Gl t f i).length=6:=rfl
 obtain ⟨M,hM⟩:∃ M,Z2U Gl t f i=M:=⟨_,rfl⟩
 obtain ⟨U,hU⟩:∃ U,Z0L (Z03 Gl t f)=U:=⟨_,rfl⟩
 obtain ⟨Y,hY⟩:∃ Y,(Z0e (Z03 Gl t f)).getD f 0=Y:=⟨_,rfl⟩
 obtain ⟨Z,hZ⟩:∃ Z,(Z0e (Z03 Gl t f)).getD i 0=Z:=⟨_,rfl⟩
 rw [hM] at heq m0 m1 m2 m3 m4 m5 ml hmem ⊢
 rw [hU] at k1 k2 m3 heq
 rw [hY] at hpf m4 heq hpn
 rw [hZ] at hpi m5 heq hpn
 have hn0:0<n:=by omega
 obtain ⟨ls1,ls2⟩:=hls hn0
 obtain ⟨lv1,lv2⟩:=hlv hn0
 have bs:=hI.sl.blk hn0
 have bv:=hI.vs.blk qO
 obtain ⟨H,hH⟩:∃ H,H=HeapC.set (newB h (256*c) (ints M)) l (.loop { st with state:=.busy }):=⟨_,rfl⟩
 have hb:Z2f (newB h (256*c) (ints M)) l=some H:=by
  rw [hH]
  exact Z9K (by rw [get_newB_ne _ _ _ _ qO]; exact hlp) hst
 have r0:∀ j,j<256*c->j ≠ l->H.f j=h.f j:=by
  intro j hj hne
  rw [hH,Z0g,if_neg hne,Z08,if_neg qO]
 have hA:Z09 H (256*c) (ints M):=by rw [hH]; exact ((Z09.newB_same h _ _).set_ne qO)
 have rd:∀ j:Nat,j<6->ld1 H (.pointer (some ⟨256*c,j,none⟩))=some (.int .i64 (M.getD j 0)):=fun j hj=>by rw [Z01 hA,ints_getD _ _ qO]
 have a0:=rd 0 qO
 have a1:=rd 1 qO
 have a2:=rd 2 qO
 have a3:=rd 3 qO
 have a4:=rd 4 qO
 have a5:=rd 5 qO
 rw [m0] at a0
 rw [m1] at a1
 rw [m2] at a2
 rw [m3] at a3
 rw [m4] at a4
 rw [m5] at a5
 have lv:ld1 H (.pointer (some ⟨vb,0,none⟩))=some v:=by rw [Z01 (hI.vv.eqf (r0 vb qO (Ne.symm h2)))]; rfl
 have hsv:SlI H cb v 1 nv V:=hI.vs.keep (fun _=>r0 _ qO lv1)
 have hV:∀ j:Nat,j<nv -> -1000000000000<=gi V j/\gi V j<=1000000000000:=fun j _=>by have:=Z4x hW j; omega
 have q1:=fun c' (hc:cb<=c')=>Z05 (ZlD v nv V (t:Int) f i H c' [] (hsv.mono hc) qO qO qO qO qO qO qO qO hV)
 have q2:=fun c' (hc:cb<=c')=>Z05 (ZlD v nv V U Y Z H c' [] (hsv.mono hc) qO qO qO qO qO qO qO hpn hV)
 obtain ⟨A,hA1⟩:∃ A,Z7o V t f i=A:=⟨_,rfl⟩
 obtain ⟨B,hB1⟩:∃ B,Z7o V U Y Z=B:=⟨_,rfl⟩
 rw [hA1] at q1 heq
 rw [hB1] at q2 heq
 have hst6:stN (newB h (256*c) [.int .i64 0,.int .i64 0,.int .i64 0,.int .i64 0,.int .i64 0,.int .i64 0]) 6 (.pointer (some ⟨256*c,0,none⟩)) (av M)=some (newB h (256*c) (ints M)):=stN_all _ _ 6 _ _ ml rfl
 have hres:HeapC.get H rb=some (.cells false none [.int .i64 0]):=(r0 rb qO (Ne.symm h3)).trans hI.res
 have w1:=Z12 (v:=.int .i64 130) (o:=0) hres (by simp) rfl rfl
 have sT:Z0I H l .ready none=some (HeapC.set H l (.loop st)):=by
  rw [hH,setState_set,set_set]
  congr 3
  rw [← hst,← hst2]
 have sF:Z0I (HeapC.set H rb (.cells false none [.int .i64 130])) l .done (some .ret)=some (HeapC.set (HeapC.set H l (.loop { st with state:=.done,pending:=some .ret })) rb (.cells false none [.int .i64 130])):=by
  rw [setState_set_ne _ _ _ _ _ _ h3,hH,setState_set,set_set]
  rfl
 clear hH
 unfold Z3B
 repeat' (first | ((with_reducible first | refine Ans.bz ?_ | refine Ans.r1 ?_ | refine Ans.pkT ?_ | refine Ans.pkF ?_); try dsimp only [v_zero,v_succ]) | (with_reducible first | refine Ans.btL ?_ | refine Ans.bfL ?_ | refine Ans.gyT ?_ | refine Ans.gyF ?_ | refine Ans.gyG ?_ | refine Ans.bb ?_ | refine Ans.bc ?_ | refine Ans.ba ?_) | ((with_reducible first | refine Ans.lsT ?_ ?_ | refine Ans.leT ?_ ?_ | refine Ans.grT ?_ ?_ | refine Ans.geT ?_ ?_ | refine Ans.eqT ?_ ?_ | refine Ans.neT ?_ ?_); (focus omega)) | ((with_reducible first | refine Ans.lsF ?_ ?_ | refine Ans.leF ?_ ?_ | refine Ans.grF ?_ ?_ | refine Ans.geF ?_ ?_ | refine Ans.eqF ?_ ?_ | refine Ans.neF ?_ ?_); (focus omega)) | (with_reducible first | refine Ans.lsS (fun _=>?_) (fun _=>?_) | refine Ans.leS (fun _=>?_) (fun _=>?_) | refine Ans.grS (fun _=>?_) (fun _=>?_) | refine Ans.geS (fun _=>?_) (fun _=>?_) | refine Ans.eqS (fun _=>?_) (fun _=>?_) | refine Ans.neS (fun _=>?_) (fun _=>?_)) | ((with_reducible first | refine Ans.addN ?_ ?_ | refine Ans.add ?_ ?_ | refine Ans.sub ?_ ?_ | refine Ans.mul ?_ ?_); (focus omega)) | ((with_reducible first | refine Ans.ct ?_ ?_); (focus (simp (disch:=(first | omega | with_reducible assumption | (simp <;> omega) | fail)) [hst6,hb,lv,a0,a1,a2,a3,a4,a5,q1,q2,w1,sT,sF]; done))) | ((with_reducible first | refine Ans.cf ?_ ?_); (focus (simp (disch:=(first | omega | with_reducible assumption | (simp <;> omega) | fail)) [hst6,hb,lv,a0,a1,a2,a3,a4,a5,q1,q2,w1,sT,sF]; done))) | (refine Ans.step (by simp (disch:=(first | omega | with_reducible assumption | (simp <;> omega) | fail)) [hst6,hb,lv,a0,a1,a2,a3,a4,a5,q1,q2,w1,sT,sF,-List.getD_eq_getElem?_getD] <;> rfl) ?_; try dsimp only [v_zero,v_succ]) | fail)
 · rename_i hne
   refine .done ⟨(by show c<=c+1+1+1; omega),O,fun b hb=>.inl hb,fun b g1 g2 g3=>?_,.inr ⟨rfl, ?_, ?_⟩⟩
   · rw [hI.own] at g2
     show (HeapC.set _ _ _:FH).f b=_
     rw [Z0g,if_neg g2,Z0g,if_neg g3,r0 b g1 g3]
   · show (HeapC.set _ _ _:FH).f l=_
     rw [Z0g,if_neg h3,Z0g,if_pos rfl]
   · refine ⟨by show cb<=c+1+1+1; omega,hI.own, ?_, ?_⟩
     · show (HeapC.set _ _ _:FH).f rb=_
       rw [Z0g,if_pos rfl]
     · rw [← Bool.not_eq_true,List.all_eq_true]
       intro hall
       have:=hall M hmem
       rw [heq] at this
       exact hne (by simpa using this)
 · rename_i heq'
   refine .done ⟨(by show c<=c+1+1; omega),O,fun b hb=>.inl hb,fun b g1 g2 g3=>?_,.inl ⟨rfl, ?_, ?_⟩⟩
   · show (HeapC.set _ _ _:FH).f b=_
     rw [Z0g,if_neg g3,r0 b g1 g3]
   · show (HeapC.set _ _ _:FH).f l=_
     rw [Z0g,if_pos rfl]
   · have e:∀ b,b<256*c->b ≠ l->(HeapC.set H l (.loop st)).f b=h.f b:=fun b g1 g3=>by rw [Z0g,if_neg g3,r0 b g1 g3]
     refine ⟨by show cb<=c+1+1; omega,hI.own,hI.g.eqf (e gb qO (Ne.symm h1)),hI.sl.keep (fun _=>e _ qO ls1),hI.vv.eqf (e vb qO (Ne.symm h2)),hI.vs.keep (fun _=>e _ qO lv1),(e rb qO (Ne.symm h3)).trans hI.res,fun m hm=>?_⟩
     rcases List.mem_append.1 hm with hm | hm
     · exact hI.ok m hm
     · rw [List.mem_singleton.1 hm,heq]
       simpa using heq'

theorem Zge (s v v15 v17:Value) (n nv:Nat) (Gl V:List Int) (gb vb rb c:Nat) (v16:Value) (h:FH) (hn:n<=60) (hnv:nv=7*n) (hgb:gb<256*c) (hvb:vb<256*c) (hrb:rb<256*c)
 (hv:Z09 h vb [v]) (hs:SlI h c v 1 nv V) (hx:0<n->SlX h v 1 nv) (hres:h.f rb=some (.cells false none [.int .i64 0])) (o1:OkV c v15) (o2:OkV c v16) (o3:OkV c v17) (df:List Nat) :
 ∀ (k t:Nat),t+k=n->Ans (G (Zci none) [ptrTo gb,ptrTo rb,ptrTo vb,v15,v16,v17,.int .i64 n,.int .i64 t] h c df) fun r=>r.c=c/\r.df=df ∧
  ((r.e = .exit 2/\r.vs=[ptrTo gb,ptrTo rb,ptrTo vb,v15,v16,v17,.int .i64 n,.int .i64 n]/\r.h=h /\ ∀ u,t<=u->u<n->Z7n (Z0y V u)=true) ∨
   (r.e = .ret/\r.vs=[ptrTo gb,ptrTo rb,ptrTo vb,v15,v16,v17,.int .i64 n,r.v 7]/\r.h=HeapC.set h rb (.cells false none [.int .i64 130]) /\ ∃ u,u<n/\Z7n (Z0y V u)=false)):=by
 intro k
 have lv:ld1 h (.pointer (some ⟨vb,0,none⟩))=some v:=by rw [Z01 hv]; rfl
 induction k with
 | zero =>
  intro t ht
  obtain rfl:t=n:=by omega
  refine Ans.lpG rfl rfl (Z5G ..) ?_
  unfold Z4V
  have fx:=True.intro
  refine Ans.go ?_
  clear fx
  (have fx:=ai hgb (ai hvb (ai hrb (ai o1 (ai o2 o3)))); refine Ans.ex0 ?_; clear fx)
  exact ⟨rfl,rfl,.inl ⟨rfl,rfl,rfl,fun u h1 h2=>by omega⟩⟩
 | succ k ih =>
  intro t ht
  have x1:=SlX.sub hs (hx qO) .i64 .i64 (7*(t:Int)+4) (7*(t:Int)+7) qO qO qO qO
  rw [show (7*(t:Int)+4).toNat=7*t+4 by omega,show (7*(t:Int)+7).toNat=7*t+7 by omega] at x1
  have x2:=SlI.sub hs (7*t+4) (7*t+7) qO qO qO
  rw [show 7*t+7-(7*t+4)=3 by omega,Nat.mul_one,Nat.mul_one] at x2
  have c1:=fun c' (hc:c<=c')=>Z05 (Zgl _ 3 _ h c' [] (x2.mono hc) qO)
  rw [show (V.drop (7*t+4)).take 3=Z0y V t from rfl] at c1
  have w1:=Z12 (v:=.int .i64 130) (o:=0) (show HeapC.get h rb=_ from hres) (by simp) rfl rfl
  refine Ans.lpG rfl rfl (Z5G ..) ?_
  unfold Z4V
  cases hq:Z7n (Z0y V t) with
  | true =>
   rw [hq] at c1
   have fx:=ai lv (ai x1 c1)
   refine Ans.go ?_
   clear fx
   (have fx:=ai hgb (ai hvb (ai hrb (ai o1 (ai o2 o3)))); refine Ans.nx0 ?_; clear fx)
   refine (ih (t+1) qO).mono ?_
   rintro r ⟨q1,q2,q3⟩
   refine ⟨q1,q2,q3.imp (fun ⟨a,b,d,e⟩=>⟨a,b,d,fun u u1 u2=>?_⟩) id⟩
   by_cases hu:u=t
   · rw [hu]; exact hq
   · exact e u qO u2
  | false =>
   rw [hq] at c1
   have fx:=ai lv (ai x1 (ai c1 w1))
   refine Ans.go ?_
   clear fx
   (have fx:=ai hgb (ai hvb (ai hrb (ai o1 (ai o2 o3)))); refine Ans.rtB (B:=HeapC.set h rb (.cells false none [.int .i64 130])) ?_ ?_; exact (Z1A.set hrb (Z1c.ints _ [130]) (Z1A.refl _ _)); clear fx)
   exact ⟨rfl,rfl,.inr ⟨rfl,rfl,rfl,t,by omega,hq⟩⟩
theorem Z9X (s:Value) (h:FH) (c:Nat) (hf:Z0c s=true):callF G 59 [.agg #[s]] h c=some (.func (.func 77) [].toArray [ptrTo (256*c)].toArray,newB h (256*c) [s],c+1+1):=by
 refine Z05 (f59_go (r:=⟨.ret,[_],_,_,[]⟩) ?_)
 unfold Zl8
 rw [Z4s hf,Z4m]
 simp
theorem ZeP (s v:Value) (n nv:Nat) (Gl V:List Int) (gb vb rb l cb:Nat) (hok:Z0t Gl n=true) (hn:n<=60) (hnv:nv=7*n) (hW:Z0x V=true)
 (hgb:gb<256*cb) (hvb:vb<256*cb) (hrb:rb<256*cb) (hl:l<256*cb) (h1:l ≠ gb) (h2:l ≠ vb) (h3:l ≠ rb) (hvr:vb ≠ rb) (hgr:gb ≠ rb) (hls:0<n->Z0l s ≠ l/\Z0l s ≠ rb) (hlv:0<n->Z0l v ≠ l/\Z0l v ≠ rb) :
 RoundI s n Gl gb l cb (Z7a 71 [4,7] #[52] Z1m Z1l [ptrTo rb,ptrTo vb] (l+1)) (some .ret) [ptrTo rb,ptrTo vb] (ChI s v n nv Gl V gb vb rb cb) (ChJ n Gl V rb cb) where
 stab:=fun D O h c h' c' hi hc hs=>by
  have:=hi.lc
  exact ⟨by omega,hi.own,hi.g.eqf (hs _ qO (Ne.symm h1)),hi.sl.keep (fun hp=>hs _ (by have:=hi.sl.blk hp; omega) (hls hp).1),hi.vv.eqf (hs _ qO (Ne.symm h2)),hi.vs.keep (fun hp=>hs _ (by have:=hi.vs.blk hp; omega) (hlv qO).1),(hs _ qO (Ne.symm h3)).trans hi.res,hi.ok⟩
 jstab:=fun O h c h' c' hj hc hs=>by
  have:=hj.lc
  exact ⟨by omega,hj.own,(hs _ qO (Ne.symm h3)).trans hj.res,hj.bad⟩
 own:=fun D O h c hi b hb=>by
  have:=hi.lc
  rw [hi.own] at hb
  subst hb; omega
 ownJ:=fun O h c hj b hb=>by
  have:=hj.lc
  rw [hj.own] at hb
  subst hb; omega
 read:=fun D O h c hi=>⟨hi.g,hi.sl.mono hi.lc⟩
 step:=fun D O h c t f i ht hf hi hif hsk _ hc hI hlp=>by
  obtain ⟨r,hr,hq⟩:=Zgd s v n nv Gl V gb vb rb cb l _ rfl rfl hok hn hnv hW hgb hvb hrb hl h1 h2 h3 (Nat.le_refl _) hvr hgr hls hlv ht hf hi hif hsk hI hlp
  exact ⟨r,Zje hr,hq⟩
theorem Z38 {Gl V:List Int} {n:Nat}:Z1h Gl n V=true ↔ V.length=7*n/\Z0x V=true/\(∀ t,t<n->Z7n (Z0y V t)=true)/\(Z43 Gl n).all (fun m=>eqM V m)=true:=by
 simp [Z1h,and_assoc]
set_option maxHeartbeats 2000000 in
theorem Zgf (s:Value) (n:Nat) (Gl:List Int) (ss:List Value) (Vs:Nat->List Int) (nvs:Nat->Nat) (gb rb sb cb:Nat) (h0:FH) (hn:n<=60) (hok:Z0t Gl n=true) (hgb:gb<256*cb) (hrb:rb<256*cb) (hsb:sb<256*cb) (hgr:gb ≠ rb) (hsr:sb ≠ rb)
 (hg:Z09 h0 gb [s]) (hsl:SlI h0 cb s 20 n Gl) (hsrb:0<n->Z0l s ≠ rb) (hh:Z09 h0 sb ss) (hl:ss.length<=1000) (hnv:∀ j,nvs j<=1000000)
 (hV:∀ j,j<ss.length->SlI h0 cb (ss.getD j undef) 1 (nvs j) (Vs j)/\SlX h0 (ss.getD j undef) 1 (nvs j)/\(0<nvs j->Z0l (ss.getD j undef) ≠ rb)) :
 ∀ (k j c:Nat) (H:FH) (df:List Nat),j+k=ss.length->cb<=c->(∀ b,b<256*cb->b ≠ rb->H.f b=h0.f b)->H.f rb=some (.cells false none [.int .i64 0])->df.Nodup->(∀ d ∈ df,H.f d=some .dfr/\256*cb<=d/\d<256*c) →
 Ans (G (Z8Y none) [ptrTo gb,ptrTo rb,.slice (some ⟨sb,0,none⟩) ss.length ss.length,.int .i64 ss.length,.int .i64 j] H c df) fun r=>c<=r.c/\r.v 1=ptrTo rb/\(∀ b,b<256*cb->b ≠ rb->r.h.f b=h0.f b)/\r.df.Nodup/\(∀ d ∈ r.df,r.h.f d=some .dfr/\256*cb<=d) ∧
  ((r.e = .exit 0/\r.h.f rb=some (.cells false none [.int .i64 0]) /\ ∀ i,j<=i->i<ss.length->Z1h Gl n (Vs i)=true) ∨
   (r.e = .ret/\r.h.f rb=some (.cells false none [.int .i64 130]) /\ ∃ i,i<ss.length/\Z1h Gl n (Vs i)=false)):=by
 intro k
 induction k with
 | zero =>
  intro j c H df hj hc hH hres hnd hd
  obtain rfl:j=ss.length:=by omega
  refine Ans.lpN rfl rfl (Z5H ..) ?_
  unfold Z4W
  have fx:=True.intro
  refine Ans.go ?_
  clear fx
  exact Ans.exitN ⟨(by show c<=c+1; omega),rfl,hH,hnd,fun d h=>⟨(hd d h).1,(hd d h).2.1⟩,.inl ⟨rfl,hres,fun i h1 h2=>by omega⟩⟩
 | succ k ih =>
  intro j c H df hj hc hH hres hnd hd
  have hjl:j<ss.length:=by omega
  obtain ⟨hv0,hx0,hvr⟩:=hV j hjl
  have hnvj:=hnv j
  obtain ⟨v,hvv⟩:∃ v,ss.getD j undef=v:=⟨_,rfl⟩
  obtain ⟨V,hVV⟩:∃ V,Vs j=V:=⟨_,rfl⟩
  obtain ⟨nv,hnn⟩:∃ nv,nvs j=nv:=⟨_,rfl⟩
  rw [hvv] at hv0 hx0 hvr
  rw [hVV,hnn] at hv0
  rw [hnn] at hx0 hvr hnvj
  have hvj:ss[j]? = some v:=by rw [← hvv]; simp [List.getD,List.getElem?_eq_getElem hjl]
  have hvf:=hv0.flat
  have hss:Z09 H sb ss:=hh.eqf (hH sb hsb hsr)
  have l1:ld1 H (.pointer (some ⟨sb,j,none⟩))=some v:=by rw [Z01 hss,hvj]
  obtain ⟨M,hM⟩:∃ M,M=newB H (256*(c+1)+2) [v]:=⟨_,rfl⟩
  have hst:stN (newB H (256*(c+1)+2) [.slice none 0 0]) 1 (.pointer (some ⟨256*(c+1)+2,0,none⟩)) v=some M:=by
   rw [hM]
   obtain ⟨_,_,a,cap,rfl,_⟩:=hv0
   exact st1_sl _ _ _ _ _ _ _ (by simp)
  have fM:∀ b,b<256*(c+1)->M.f b=H.f b:=fun b hb=>by rw [hM,Z08,if_neg qO]
  have hMv:Z09 M (256*(c+1)+2) [v]:=by rw [hM]; exact Z09.newB_same _ _ _
  clear hM
  have l2:ld1 M (.pointer (some ⟨256*(c+1)+2,0,none⟩))=some v:=by rw [Z01 hMv]; rfl
  have hMg:Z09 M gb [s]:=hg.eqf ((fM gb qO).trans (hH gb hgb hgr))
  have l3:ld1 M (.pointer (some ⟨gb,0,none⟩))=some s:=by rw [Z01 hMg]; rfl
  have l4:=hsl.len
  have l5:=hv0.len
  have hresM:M.f rb=some (.cells false none [.int .i64 0]):=(fM rb qO).trans hres
  have hMv0:SlI M cb v 1 nv V:=hv0.keep (fun hp=>by
   have h1:=hv0.blk hp
   rw [fM _ qO,hH _ h1 (hvr hp)])
  have wM:=Z12 (v:=.int .i64 130) (o:=0) (show HeapC.get M rb=_ from hresM) (by simp) rfl rfl
  have cw:=fun c' (hc':cb<=c')=>Z05 (Z7s v nv V M c' [] (hMv0.mono hc') qO)
  have bad:∀ c':Nat,c<=c'->Z1h Gl n V=false->Ans (some ⟨Ex.ret,[ptrTo gb,ptrTo rb,.slice (some ⟨sb,0,none⟩) ss.length ss.length,.int .i64 ss.length,.int .i64 j],HeapC.set M rb (.cells false none [.int .i64 130]),c',df⟩) (fun q=>Lk G (Z8Y none) (fun r=>c<=r.c/\r.v 1=ptrTo rb/\(∀ b,b<256*cb->b ≠ rb->r.h.f b=h0.f b)/\r.df.Nodup/\(∀ d ∈ r.df,r.h.f d=some .dfr/\256*cb<=d) ∧
   ((r.e = .exit 0/\r.h.f rb=some (.cells false none [.int .i64 0]) /\ ∀ i,j<=i->i<ss.length->Z1h Gl n (Vs i)=true) ∨
    (r.e = .ret/\r.h.f rb=some (.cells false none [.int .i64 130]) /\ ∃ i,i<ss.length/\Z1h Gl n (Vs i)=false))) q):=fun c' hc' hb=>by
   refine Ans.retN ⟨hc',rfl,fun b h1 h2=>?_,hnd,fun d hd'=>⟨?_,(hd d hd').2.1⟩,.inr ⟨rfl, ?_,j,hjl,by rw [hVV]; exact hb⟩⟩
   · show (HeapC.set _ _ _:FH).f b=_
     rw [Z0g,if_neg h2,fM b qO,hH b h1 h2]
   · have:=hd d hd'
     show (HeapC.set _ _ _:FH).f d=_
     rw [Z0g,if_neg qO,fM d qO,this.1]
   · show (HeapC.set _ _ _:FH).f rb=_
     rw [Z0g,if_pos rfl]
  refine Ans.lpN rfl rfl (Z5H ..) ?_
  unfold Z4W
  by_cases hlen:nv=7*n
  case neg =>
   have hb:Z1h Gl n V=false:=by
    rw [← Bool.not_eq_true,Z38]
    rintro ⟨h1,_⟩
    have:=hv0.1
    omega
   have hne:¬ ((nv:Int)=7*n):=by omega
   have fx:=ai l1 (ai hst (ai l2 (ai l3 (ai l4 (ai l5 wM)))))
   refine Ans.go ?_
   clear fx
   exact bad _ qO hb
  have heq:((nv:Int)=7*n):=by omega
  cases hW:Z0x V with
  | false =>
   have hb:Z1h Gl n V=false:=by
    rw [← Bool.not_eq_true,Z38]
    rintro ⟨_,h1,_⟩
    rw [hW] at h1; cases h1
   rw [hW] at cw
   have fx:=ai l1 (ai hst (ai l2 (ai l3 (ai l4 (ai l5 (ai wM cw))))))
   refine Ans.go ?_
   clear fx
   exact bad _ qO hb
  | true =>
   rw [hW] at cw
   have fx:=ai l1 (ai hst (ai l2 (ai l3 (ai l4 (ai l5 cw)))))
   refine Ans.go ?_
   clear fx
   have hq:=Zge s v (.slice (some ⟨sb,0,none⟩) ss.length ss.length) (.int .i64 j) n nv Gl V gb (256*(c+1)+2) rb (c+1+1+1+1) (.int .i64 ss.length) M hn qO qO qO qO hMv (hMv0.mono qO)
    (fun hn0=>by
     have hb0:=hv0.blk qO
     have e1:M.f (Z0l v)=h0.f (Z0l v):=by rw [fM _ qO,hH _ hb0 (hvr qO)]
     obtain ⟨q1,q2⟩:=hx0
     refine ⟨q1, ?_⟩
     obtain ⟨_,_,a,cap,rfl,hc4⟩:=hv0
     rcases hc4 with ⟨e,_⟩ | ⟨b,o,cs,rfl,_,_,_⟩
     · omega
     · simp only [Za6,Ze4,blkOf_sl] at q2 e1 ⊢
       have:HeapC.get M b=HeapC.get h0 b:=e1
       rw [this]; exact q2)
    hresM (OkV.sl qO) (OkV.int _ _ _) (OkV.int _ _ _) df n 0 qO
   simp only [Int.ofNat_eq_natCast,Int.cast_ofNat_Int] at hq
   obtain ⟨⟨re,rv,rh,rc,rd⟩,hr,r1,r2,r3⟩:=hq
   simp only at r1 r2 r3
   subst r1 r2
   rcases r3 with ⟨rfl,rfl,rfl,hqs⟩ | ⟨rfl,hrv,rfl,u,u1,u2⟩
   case inr =>
    have hb:Z1h Gl n V=false:=by
     rw [← Bool.not_eq_true,Z38]
     rintro ⟨_,_,h1,_⟩
     rw [h1 u u1] at u2; cases u2
    rw [hrv] at hr
    have fx:=hr
    refine Ans.go ?_
    clear fx
    exact bad _ qO hb
   have l6:=Z0p hMg
   have cm:=Z9X s rh (c+1+1+1+1+1) hsl.flat
   have fx:=ai hr (ai l6 cm)
   refine Ans.go ?_
   clear fx
   obtain ⟨N,hN⟩:∃ N,N=newB rh (256*(c+1+1+1+1+1)) [s]:=⟨_,rfl⟩
   rw [← hN]
   have fN:∀ b,b<256*(c+1+1+1+1+1)->N.f b=rh.f b:=fun b hb=>by rw [hN,Z08,if_neg qO]
   have gN:N.f (256*(c+1+1+1+1+1))=some (.cells false none [s]):=by rw [hN,Z08,if_pos rfl]
   clear hN
   have hI:=ZeP s v n nv Gl V (256*(c+1+1+1+1+1)) (256*(c+1)+2) rb (256*(c+1+1+1+1+1+1+1)) (c+1+1+1+1+1+1+1+1) hok hn qO hW qO qO qO qO qO qO qO qO qO
    (fun hp=>⟨by have:=hsl.blk hp; omega,hsrb hp⟩) (fun hp=>⟨by have:=hv0.blk qO; omega,hvr qO⟩)
   have hE:∀ b,b<256*(c+1+1+1+1+1+1+1)->(Z2N N (c+1+1+1+1+1+1+1) 71 [4,7] #[52] Z1m Z1l [ptrTo rb,ptrTo (256*(c+1)+2)]).f b=N.f b:=fun b hb=>by
    rw [Z4q,if_neg qO,if_neg qO]
   have hI0:ChI s v n nv Gl V (256*(c+1+1+1+1+1)) (256*(c+1)+2) rb (c+1+1+1+1+1+1+1+1) [] (fun b=>b=rb) (Z2N N (c+1+1+1+1+1+1+1) 71 [4,7] #[52] Z1m Z1l [ptrTo rb,ptrTo (256*(c+1)+2)]) (c+1+1+1+1+1+1+1+1):=by
    refine ⟨Nat.le_refl _,rfl,⟨false,none, ?_⟩,(hsl.keep (fun hp=>?_)).mono qO,hMv.eqf ?_,(hv0.keep (fun hp=>?_)).mono qO, ?_,fun m hm=>by cases hm⟩
    · show (Z2N _ _ _ _ _ _ _ _:FH).f _=_
      rw [hE _ qO,gN]
    · have h1:=hsl.blk hp
      rw [hE _ qO,fN _ qO,fM _ qO,hH _ h1 (hsrb hp)]
    · rw [hE _ qO,fN _ qO]
    · have h1:=hv0.blk hp
      rw [hE _ qO,fN _ qO,fM _ qO,hH _ h1 (hvr hp)]
    · rw [hE _ qO,fN _ qO,hresM]
   refine Ans.head (Z7z qO qO rfl hI (O:=fun b=>b=rb) (fun b hb=>by subst hb; omega) hI0) ?_
   rintro ⟨qe,qh,qc,qd⟩ ⟨qr,O',e1,e2,e3,e4,e5,e6⟩
   simp only [Prod.mk.injEq] at e1
   obtain ⟨rfl,-,rfl⟩:=e1
   simp only at e2 e6
   have keep1:∀ b,b<256*cb->b ≠ rb->(HeapC.del qr (256*(c+1+1+1+1+1+1+1)):FH).f b=h0.f b:=fun b h1 h2=>by
    rw [Z9I,if_neg qO,e5 b qO h2,fN _ qO,fM _ qO,hH b h1 h2]
   have nd:((256*(c+1+1+1+1+1+1+1)+1)::rd:List Nat).Nodup:=List.nodup_cons.2 ⟨fun hm=>by have:=(hd _ hm).2.2; omega,hnd⟩
   have dd:∀ d ∈ (256*(c+1+1+1+1+1+1+1)+1)::rd,(HeapC.del qr (256*(c+1+1+1+1+1+1+1)):FH).f d=some .dfr/\256*cb<=d/\d<256*(c+1+1+1+1+1+1+1+1):=fun d hm=>by
    rcases List.mem_cons.1 hm with rfl | hm
    · exact ⟨by rw [Z9I,if_neg qO]; exact e3,by omega,by omega⟩
    · obtain ⟨d1,d2,d3⟩:=hd d hm
      exact ⟨by rw [Z9I,if_neg qO,e5 d qO (by show ¬ d=rb; omega),fN _ qO,fM _ qO,d1],d2,by omega⟩
   rcases e6 with ⟨rfl,hi⟩ | ⟨rfl,hj'⟩
   · have fx:=True.intro
     refine Ans.go ?_
     clear fx
     refine Ans.nextN ?_
     have hgood:Z1h Gl n V=true:=Z38.2 ⟨by have:=hv0.1; omega,hW,fun t ht=>hqs t qO ht,List.all_eq_true.2 hi.ok⟩
     refine (ih (j+1) (qc+1) (HeapC.del qr (256*(c+1+1+1+1+1+1+1))) ((256*(c+1+1+1+1+1+1+1)+1)::rd) qO qO keep1 (by rw [Z9I,if_neg qO]; exact hi.res) nd (fun d hm=>by
      obtain ⟨d1,d2,d3⟩:=dd d hm
      exact ⟨d1,d2,by omega⟩)).mono ?_
     rintro r ⟨w1,w2,w3,w4,w5,w6⟩
     refine ⟨by omega,w2,w3,w4,w5,w6.imp (fun ⟨a,b,d⟩=>⟨a,b,fun i i1 i2=>?_⟩) id⟩
     by_cases hij:i=j
     · rw [hij,hVV]; exact hgood
     · exact d i qO i2
   · have fx:=True.intro
     refine Ans.go ?_
     clear fx
     have hb:Z1h Gl n V=false:=by
      rw [← Bool.not_eq_true,Z38]
      rintro ⟨_,_,_,h1⟩
      rw [hj'.bad] at h1; cases h1
     refine Ans.retN ⟨(by show c<=qc; omega),rfl,keep1,nd,fun d hm=>⟨(dd d hm).1,(dd d hm).2.1⟩,.inr ⟨rfl, ?_,j,hjl,by rw [hVV]; exact hb⟩⟩
     show (HeapC.del _ _:FH).f rb=_
     rw [Z9I,if_neg qO]
     exact hj'.res

def eIn (p:List Int) (t f i:Nat) (u:Int):Nat->Nat->List Int->List Int
 | 0,_,L=>L
 | r+1,k,L=>eIn p t f i u r (k+1) (if k=f ∨ k=i then L else Z1P L (6*(t:Int)+edN i k).toNat (6*u+edN (p.getD i 0) (p.getD k 0)).toNat)
theorem Zif {p:List Int} (hp:p ∈ p24) {t f i n:Nat} {u:Int} (ht:t<n) (hi:i<4) (hu:0<=u) (hun:u<n):∀ {r k:Nat} {L:List Int},k+r=4->Z2I L (6*n)->Z2I (eIn p t f i u r k L) (6*n)
 | 0,_,_,_,h=>h
 | r+1,k,L,hk,h=>by
  rw [eIn]
  refine Zif hp ht hi hu hun qO ?_
  split
  · exact h
  · rename_i hne
    have hne':i ≠ k:=fun e=>hne (.inr e.symm)
    have a1:=Z89 (i:=(i:Int)) (j:=(k:Int)) qO qO qO qO qO
    have b1:=Z1N hp hi
    have b2:=Z1N hp (i:=k) qO
    have a2:=Z89 b1.1 b1.2 b2.1 b2.2 (ZrZ hp hi qO hne')
    exact Z1k h qO qO
def Z8k (L M:List Int):List Int:=Z1P L (4*M.getD 0 0+M.getD 2 0).toNat (4*M.getD 3 0+M.getD 5 0).toNat
def ZrI (Gl:List Int) (L M:List Int):List Int:=eIn (Z0e (Z03 Gl (M.getD 0 0).toNat (M.getD 1 0).toNat)) (M.getD 0 0).toNat (M.getD 1 0).toNat (M.getD 2 0).toNat (M.getD 3 0) 4 0 L
def vCl (n:Nat) (D:List (List Int)):List Int:=D.foldl Z8k (Z0v (4*n))
def eCl (Gl:List Int) (n:Nat) (D:List (List Int)):List Int:=D.foldl (ZrI Gl) (Z0v (6*n))
theorem ZlT (n:Nat) (D:List (List Int)) (M:List Int):vCl n (D++[M])=Z8k (vCl n D) M:=by simp [vCl]
theorem Zpd (Gl:List Int) (n:Nat) (D:List (List Int)) (M:List Int):eCl Gl n (D++[M])=ZrI Gl (eCl Gl n D) M:=by simp [eCl]
theorem Zen {h:FH} {b:Nat} {cs:List Value} (e:h.f b=some (.cells false none cs)):newB h b cs=h:=by
 apply FH.ext; intro j
 rw [Z08]
 split
 · rename_i hj; rw [hj,e]
 · rfl
theorem Z6v (x:Option Nat) (H:FH):Z18 x H H=true:=Zd6 fun i _=>rfl
theorem Zjz (h0:FH) (eb sb ub mb pb n c l:Nat) (p M:List Int) (t f i:Nat) (u:Int) (df:List Nat) (hn:n<=60) (hp:p ∈ p24) (ht:t<n) (hf:f<4) (hi:i<4) (hu:0<=u) (hun:u<n)
 (he:eb<256*c) (hs:sb<256*c) (hub:ub<256*c) (hm:mb<256*c) (hpb:pb<256*c) (n1:eb ≠ ub) (n2:sb ≠ ub) (n3:mb ≠ ub) (n4:pb ≠ ub)
 (ge:Z09 h0 eb [ptrTo sb]) (gs:h0.f sb=some (.cells false none [.slice (some ⟨ub,0,none⟩) (6*n) (6*n)])) (gm:Z09 h0 mb (ints M)) (gp:Z09 h0 pb (ints p)) (hM:M.length=6) (m0:M.getD 0 0=t) (m1:M.getD 1 0=f) (m2:M.getD 2 0=i) (m3:M.getD 3 0=u) :
 ∀ (r k:Nat) (L:List Int),k+r=4->Z2I L (6*n) →
 Ans (G (Zcl (some l)) [ptrTo eb,ptrTo mb,ptrTo pb,.int .i64 k] (newB h0 ub (ints L)) c df) fun q=>q=⟨.exit 2,[ptrTo eb,ptrTo mb,ptrTo pb,.int .i64 4],newB h0 ub (ints (eIn p t f i u r k L)),c,df⟩:=by
 intro r
 induction r with
 | zero =>
  intro k L hk hd
  obtain rfl:k=4:=by omega
  refine Ans.lpG rfl rfl (Z2b ..) ?_
  unfold Z2u
  have fx:=True.intro
  refine Ans.go ?_
  clear fx
  (have fx:=ai he (ai hm hpb); refine Ans.ex0 ?_; clear fx)
  rfl
 | succ r ih =>
  intro k L hk hd
  obtain ⟨H,hH⟩:∃ H,newB h0 ub (ints L)=H:=⟨_,rfl⟩
  have gm':Z09 H mb (ints M):=by rw [← hH]; exact gm.newB_ne n3
  have gp':Z09 H pb (ints p):=by rw [← hH]; exact gp.newB_ne n4
  have hl:=len24 hp
  have q1:ld1 H (.pointer (some ⟨mb,1,none⟩))=some (.int .i64 f):=by rw [Z01 gm',ints_getD _ _ qO,m1]
  have q2:ld1 H (.pointer (some ⟨mb,2,none⟩))=some (.int .i64 i):=by rw [Z01 gm',ints_getD _ _ qO,m2]
  have hkf:(k:Int)<4:=by omega
  rw [eIn]
  by_cases h1:k=f
  · subst h1
    rw [if_pos (.inl rfl)]
    rw [hH]
    refine Ans.lpG rfl rfl (Z2b ..) ?_
    unfold Z2u
    have fx:=ai q1 q2
    refine Ans.go ?_
    clear fx
    (have fx:=ai he (ai hm hpb); refine Ans.nx0 ?_; clear fx)
    rw [← hH]
    exact ih (k+1) L qO hd
  by_cases h2:k=i
  · subst h2
    rw [if_pos (.inr rfl)]
    rw [hH]
    have h1':¬ ((k:Int)=f):=by omega
    refine Ans.lpG rfl rfl (Z2b ..) ?_
    unfold Z2u
    have fx:=ai q1 q2
    refine Ans.go ?_
    clear fx
    (have fx:=ai he (ai hm hpb); refine Ans.nx0 ?_; clear fx)
    rw [← hH]
    exact ih (k+1) L qO hd
  · rw [if_neg (by rintro (h | h); exact h1 h; exact h2 h)]
    have h1':¬ ((k:Int)=f):=by omega
    have h2':¬ ((k:Int)=i):=by omega
    have q0:ld1 H (.pointer (some ⟨mb,0,none⟩))=some (.int .i64 t):=by rw [Z01 gm',ints_getD _ _ qO,m0]
    have q3:ld1 H (.pointer (some ⟨mb,3,none⟩))=some (.int .i64 u):=by rw [Z01 gm',ints_getD _ _ qO,m3]
    have qe:ld1 H (.pointer (some ⟨eb,0,none⟩))=some (ptrTo sb):=by rw [← hH,ld1_newB_ne _ _ _ _ _ n1,Z01 ge]; rfl
    have b1:=Z1N hp hi
    have b2:=Z1N hp (i:=k) qO
    have b3:=ZrZ hp hi (j:=k) qO (fun e=>h2 e.symm)
    have p1:ld1 H (.pointer (some ⟨pb,i,none⟩))=some (.int .i64 (p.getD i 0)):=by rw [Z01 gp',ints_getD _ _ qO]
    have p2:ld1 H (.pointer (some ⟨pb,k,none⟩))=some (.int .i64 (p.getD k 0)):=by rw [Z01 gp',ints_getD _ _ qO]
    have a1:=Z89 (i:=(i:Int)) (j:=(k:Int)) qO qO qO qO qO
    have a2:=Z89 b1.1 b1.2 b2.1 b2.2 b3
    obtain ⟨E1,hE1⟩:∃ E:Nat,edN i k=E:=⟨(edN i k).toNat,by omega⟩
    obtain ⟨X,hX⟩:∃ X,p.getD i 0=X:=⟨_,rfl⟩
    obtain ⟨Y,hY⟩:∃ Y,p.getD k 0=Y:=⟨_,rfl⟩
    rw [hX] at p1 b1
    rw [hY] at p2 b2
    rw [hX,hY] at a2 ⊢
    obtain ⟨E2,hE2⟩:∃ E:Nat,edN X Y=E:=⟨(edN X Y).toNat,by omega⟩
    obtain ⟨U,rfl⟩:∃ U:Nat,u=U:=⟨u.toNat,by omega⟩
    have c1:=fun c'=>ZcP (i:Int) k H c'
    have c2:=fun c'=>ZcP X Y H c'
    rw [hE1] at a1 c1 ⊢
    rw [hE2] at a2 c2 ⊢
    rw [show (6*(t:Int)+E1).toNat=6*t+E1 by omega,show (6*(U:Int)+E2).toNat=6*U+E2 by omega]
    have uf:Uf H sb ub (6*n) L:=by
     rw [← hH]
     exact ⟨by rw [Z08,if_neg n2]; exact gs,by rw [Z08,if_pos rfl],n2,hd,by omega⟩
    have hj:∀ c',c<=c'->callF G 72 [.pointer (some ⟨sb,0,none⟩),.int .i64 (6*(t:Int)+E1),.int .i64 (6*(U:Int)+E2)] H c'=some (.tuple #[],newB H ub (ints (Z1P L (6*t+E1) (6*U+E2))),c'):=fun c' hc=>by
     have:=Z05 (ZkG H sb ub (6*n) c' L uf qO qO (6*t+E1) (6*U+E2) qO qO [])
     simpa [ptrTo] using this
    rw [hH]
    refine Ans.lpG rfl rfl (Z2b ..) ?_
    unfold Z2u
    have fx:=ai q0 (ai q1 (ai q2 (ai q3 (ai qe (ai p1 (ai p2 (ai c1 (ai c2 (ai hj Z6v)))))))))
    refine Ans.go ?_
    clear fx
    (have fx:=ai he (ai hm hpb); refine Ans.nxB (B:=newB H ub (ints (Z1P L (6*t+E1) (6*U+E2)))) ?_ ?_; exact (Z1A.old hub (Z1c.ints _ _) (Z1A.refl _ _)); clear fx)
    rw [← hH,newB_newB]
    exact ih (k+1) _ qO (Z1k hd qO qO)

structure ClI (s:Value) (n:Nat) (Gl:List Int) (gb g2 vc vs vu ec es eu c0 cb:Nat) (D:List (List Int)) (O:Nat->Prop) (h:FH) (c:Nat):Prop where
 lc:cb<=c
 g:Z09 h gb [s]
 gg:Z09 h g2 [s]
 sl:SlI h c0 s 20 n Gl
 pv:Z09 h vc [ptrTo vs]
 pe:Z09 h ec [ptrTo es]
 uv:Uf h vs vu (4*n) (vCl n D)
 ue:Uf h es eu (6*n) (eCl Gl n D)
 own:O=fun b=>b=vu ∨ b=eu
set_option maxHeartbeats 2000000 in
theorem Zpj (s:Value) (n:Nat) (Gl:List Int) (gb g2 vc vs vu ec es eu c0 cb l:Nat) (st:ALoop) (hst:st.state = .ready) (hst2:st.pending=none) (hok:Z0t Gl n=true) (hn:n<=60)
 (hgb:gb<256*c0) (hg2:g2<256*cb) (hl:l<256*cb) (hc0:c0<=cb) (hvc:vc<256*cb) (hvs:vs<256*cb) (hvu:vu<256*cb) (hec:ec<256*cb) (hes:es<256*cb) (heu:eu<256*cb)
 (hgl:gb ≠ l) (hn1:gb ≠ vu/\gb ≠ eu/\g2 ≠ vu/\g2 ≠ eu/\vc ≠ vu/\vc ≠ eu/\ec ≠ vu/\ec ≠ eu/\vs ≠ eu/\es ≠ vu/\vu ≠ eu) (hn2:l ≠ g2/\l ≠ vc/\l ≠ vs/\l ≠ vu/\l ≠ ec/\l ≠ es/\l ≠ eu) (hls:0<n->Z0l s ≠ l/\Z0l s ≠ vu/\Z0l s ≠ eu)
 {D:List (List Int)} {O:Nat->Prop} {h:FH} {c t f i:Nat} (ht:t<n) (hf:f<4) (hi:i<4) (hif:i ≠ f) (hsk:Z1O Gl t f=false) (hI:ClI s n Gl gb g2 vc vs vu ec es eu c0 cb D O h c) (hlp:h.f l=some (.loop st)) :
 Ans (Z3F G l (av (Z2U Gl t f i)) (ptrTo gb) (ptrTo vc) (ptrTo ec) h c) (fun r=>c<=r.c /\ ∃ O',(∀ b,O' b->O b ∨ 256*c<=b)/\(∀ b,b<256*c -> ¬ O b->b ≠ l->r.h.f b=h.f b) ∧
  (r.vs=[.bool true]/\r.h.f l=some (.loop st)/\ClI s n Gl gb g2 vc vs vu ec es eu c0 cb (D++[Z2U Gl t f i]) O' r.h r.c)):=by
 have hlc:=hI.lc
 have hG:=hI.sl.1
 obtain ⟨k1,k2,k3⟩:=ZaI hok hG ht hf hi hif hsk
 have hpf:=Z1N k3 hf
 have hpi:=Z1N k3 hi
 have m0:(Z2U Gl t f i).getD 0 0=t:=rfl
 have m1:(Z2U Gl t f i).getD 1 0=f:=rfl
 have m2:(Z2U Gl t f i).getD 2 0=i:=rfl
 have m3:(Z2U Gl t f i).getD 3 0=Z0L (Z03 Gl t f):=rfl
 have m4:(Z2U Gl t f i).getD 4 0=(Z0e (Z03 Gl t f)).getD f 0:=rfl
 have m5:(Z2U Gl t f i).getD 5 0=(Z0e (Z03 Gl t f)).getD i 0:=rfl
 have ml:(Z2U Gl t f i).length=6:=rfl
 have hfl:=Z0o hG ht hf
 have hpl:=Z1S hfl
 have es1:=Zpd Gl n D (Z2U Gl t f i)
 have vs1:=ZlT n D (Z2U Gl t f i)
 obtain ⟨M,hM⟩:∃ M,Z2U Gl t f i=M:=⟨_,rfl⟩
 obtain ⟨U,hU⟩:∃ U:Nat,Z0L (Z03 Gl t f)=U:=⟨(Z0L (Z03 Gl t f)).toNat,by omega⟩
 obtain ⟨Z,hZ⟩:∃ Z:Nat,(Z0e (Z03 Gl t f)).getD i 0=Z:=⟨((Z0e (Z03 Gl t f)).getD i 0).toNat,by omega⟩
 rw [hM] at m0 m1 m2 m3 m4 m5 ml es1 vs1 ⊢
 rw [hU] at k1 k2 m3
 rw [hZ] at hpi m5
 unfold ZrI at es1
 rw [m0,m1,m2,m3,Int.toNat_natCast,Int.toNat_natCast,Int.toNat_natCast] at es1
 unfold Z8k at vs1
 rw [m0,m2,m3,m5,show (4*(t:Int)+i).toNat=4*t+i by omega,show (4*(U:Int)+Z).toNat=4*U+Z by omega] at vs1
 obtain ⟨F,hF⟩:∃ F,Z03 Gl t f=F:=⟨_,rfl⟩
 rw [hF] at k3 hfl hpl es1 m4
 have hn0:0<n:=by omega
 obtain ⟨ls1,ls2,ls3⟩:=hls hn0
 have bs:=hI.sl.blk hn0
 obtain ⟨d1,d2,d3,d4,d5,d6,d7,d8,d9,d10,d11⟩:=hn1
 obtain ⟨x1,x2,x3,x4,x5,x6,x7⟩:=hn2
 obtain ⟨H,hH⟩:∃ H,H=HeapC.set (newB h (256*c) (ints M)) l (.loop { st with state:=.busy }):=⟨_,rfl⟩
 have hb:Z2f (newB h (256*c) (ints M)) l=some H:=by
  rw [hH]
  exact Z9K (by rw [get_newB_ne _ _ _ _ qO]; exact hlp) hst
 have r0:∀ j,j<256*c->j ≠ l->H.f j=h.f j:=by
  intro j hj hne
  rw [hH,Z0g,if_neg hne,Z08,if_neg qO]
 have rl:H.f l=some (.loop { st with state:=.busy }):=by rw [hH,Z0g,if_pos rfl]
 have hA:Z09 H (256*c) (ints M):=by rw [hH]; exact ((Z09.newB_same h _ _).set_ne qO)
 clear hH
 have rd:∀ j:Nat,j<6->ld1 H (.pointer (some ⟨256*c,j,none⟩))=some (.int .i64 (M.getD j 0)):=fun j hj=>by rw [Z01 hA,ints_getD _ _ qO]
 have a0:=rd 0 qO
 have a1:=rd 1 qO
 have a2:=rd 2 qO
 have a3:=rd 3 qO
 have a5:=rd 5 qO
 clear rd
 rw [m0] at a0
 rw [m1] at a1
 rw [m2] at a2
 rw [m3] at a3
 rw [m5] at a5
 have lv:ld1 H (.pointer (some ⟨vc,0,none⟩))=some (ptrTo vs):=by rw [Z01 (hI.pv.eqf (r0 vc qO (Ne.symm x2)))]; rfl
 have hst6:stN (newB h (256*c) [.int .i64 0,.int .i64 0,.int .i64 0,.int .i64 0,.int .i64 0,.int .i64 0]) 6 (.pointer (some ⟨256*c,0,none⟩)) (av M)=some (newB h (256*c) (ints M)):=stN_all _ _ 6 _ _ ml rfl
 have uvH:Uf H vs vu (4*n) (vCl n D):=hI.uv.keep (r0 vs qO (Ne.symm x3)) (r0 vu qO (Ne.symm x4))
 have cj:callF G 72 [.pointer (some ⟨vs,0,none⟩),.int .i64 (4*(t:Int)+i),.int .i64 (4*(U:Int)+Z)] H (c+1+1)=some (.tuple #[],newB H vu (ints (Z1P (vCl n D) (4*t+i) (4*U+Z))),c+1+1):=by
  have:=Z05 (ZkG H vs vu (4*n) (c+1+1) (vCl n D) uvH qO qO (4*t+i) (4*U+Z) qO qO [])
  simpa [ptrTo] using this
 rw [← vs1] at cj
 obtain ⟨K,hK⟩:∃ K,newB H vu (ints (vCl n (D++[M])))=K:=⟨_,rfl⟩
 rw [hK] at cj
 have fK:∀ b,b ≠ vu->K.f b=H.f b:=fun b hb=>by rw [← hK,Z08,if_neg hb]
 have fKv:K.f vu=some (.cells false none (ints (vCl n (D++[M])))):=by rw [← hK,Z08,if_pos rfl]
 have lg:ld1 K (.pointer (some ⟨gb,0,none⟩))=some s:=by rw [Z01 (hI.g.eqf ((fK gb d1).trans (r0 gb qO hgl)))]; rfl
 have b0:ld1 K (.pointer (some ⟨256*c,0,none⟩))=some (.int .i64 t):=by rw [← hK,ld1_newB_ne _ _ _ _ _ qO]; exact a0
 have b1:ld1 K (.pointer (some ⟨256*c,1,none⟩))=some (.int .i64 f):=by rw [← hK,ld1_newB_ne _ _ _ _ _ qO]; exact a1
 have slK:SlI K c0 s 20 n Gl:=hI.sl.keep (fun _=>by rw [fK _ ls2,r0 _ qO ls1])
 have lf:ldN K 4 (.pointer (some ⟨Z0l s,Za3 s+t*20+f*5+1,none⟩))=some (av (Z0e F)):=by
  rw [show Za3 s+t*20+f*5+1=Za3 s+(20*t+5*f+1) by omega,slK.rdN 4 (20*t+5*f+1) qO qO,← hF]
  unfold Z0e Z03
  rw [List.drop_take,List.drop_drop,List.take_take]; rfl
 have hst4:∀ b,stN (newB K b [.int .i64 0,.int .i64 0,.int .i64 0,.int .i64 0]) 4 (.pointer (some ⟨b,0,none⟩)) (av (Z0e F))=some (newB K b (ints (Z0e F))):=fun b=>stN_all _ _ 4 _ _ hpl rfl
 obtain ⟨pb,hpb⟩:∃ pb,pb=256*(c+1+1)+10:=⟨_,rfl⟩
 obtain ⟨K2,hK2⟩:∃ K2,newB K pb (ints (Z0e F))=K2:=⟨_,rfl⟩
 have fK2:∀ b,b ≠ pb->K2.f b=K.f b:=fun b hb=>by rw [← hK2,Z08,if_neg hb]
 have eu2:K2.f eu=some (.cells false none (ints (eCl Gl n D))):=by rw [fK2 eu qO,fK eu (Ne.symm d11),r0 eu qO (Ne.symm x7)]; exact hI.ue.up
 have k2:∀ b,b<256*c->b ≠ l->b ≠ vu->K2.f b=h.f b:=fun b h1 h2 h3=>by rw [fK2 b qO,fK b h3,r0 b h1 h2]
 have hin:=Ans.eq (Zjz K2 ec es eu (256*c) pb n (c+1+1+1+1) l (Z0e F) M t f i (U:Int) [] hn k3 ht hf hi qO qO qO qO qO qO qO d8 (hI.ue.ne) qO qO
  (hI.pe.eqf (k2 ec qO (Ne.symm x5) d7)) ((k2 es qO (Ne.symm x6) d10).trans hI.ue.st) (hA.eqf (by rw [fK2 _ qO,fK _ qO])) ⟨false,none,by rw [← hK2]; show (newB _ _ _:FH).f _=_; rw [Z08,if_pos rfl]⟩ ml m0 m1 m2 m3 4 0 _ qO hI.ue.dn)
 rw [Zen eu2,← es1] at hin
 simp only [Int.ofNat_eq_natCast,Int.cast_ofNat_Int] at hin
 have dE:Z2I (eCl Gl n (D++[M])) (6*n):=by rw [es1]; exact Zif k3 ht hi qO qO qO hI.ue.dn
 have dV:Z2I (vCl n (D++[M])) (4*n):=by rw [vs1]; exact Z1k hI.uv.dn qO qO
 obtain ⟨N,hN⟩:∃ N,newB K2 eu (ints (eCl Gl n (D++[M])))=N:=⟨_,rfl⟩
 rw [hN] at hin
 have fN:∀ b,b ≠ eu->N.f b=K2.f b:=fun b hb=>by rw [← hN,Z08,if_neg hb]
 have fNe:N.f eu=some (.cells false none (ints (eCl Gl n (D++[M])))):=by rw [← hN,Z08,if_pos rfl]
 have hl':N.f l=some (.loop { st with state:=.busy }):=by rw [fN l x7,fK2 l qO,fK l x4,rl]
 have sT:Z0I N l .ready none=some (HeapC.set N l (.loop st)):=by
  rw [Zam (st:={ st with state:=.busy }) hl']
  congr 3
  rw [← hst,← hst2]
 unfold Z3F
 simp only [Nat.add_zero]
 repeat' (first | ((with_reducible first | refine Ans.bz ?_ | refine Ans.r1 ?_ | refine Ans.pkT ?_ | refine Ans.pkF ?_); try dsimp only [v_zero,v_succ]) | (with_reducible first | refine Ans.btL ?_ | refine Ans.bfL ?_ | refine Ans.gyT ?_ | refine Ans.gyF ?_ | refine Ans.gyG ?_ | refine Ans.bb ?_ | refine Ans.bc ?_ | refine Ans.ba ?_) | ((with_reducible first | refine Ans.lsT ?_ ?_ | refine Ans.leT ?_ ?_ | refine Ans.grT ?_ ?_ | refine Ans.geT ?_ ?_ | refine Ans.eqT ?_ ?_ | refine Ans.neT ?_ ?_); (focus omega)) | ((with_reducible first | refine Ans.lsF ?_ ?_ | refine Ans.leF ?_ ?_ | refine Ans.grF ?_ ?_ | refine Ans.geF ?_ ?_ | refine Ans.eqF ?_ ?_ | refine Ans.neF ?_ ?_); (focus omega)) | (with_reducible first | refine Ans.lsS (fun _=>?_) (fun _=>?_) | refine Ans.leS (fun _=>?_) (fun _=>?_) | refine Ans.grS (fun _=>?_) (fun _=>?_) | refine Ans.geS (fun _=>?_) (fun _=>?_) | refine Ans.eqS (fun _=>?_) (fun _=>?_) | refine Ans.neS (fun _=>?_) (fun _=>?_)) | ((with_reducible first | refine Ans.addN ?_ ?_ | refine Ans.add ?_ ?_ | refine Ans.sub ?_ ?_ | refine Ans.mul ?_ ?_); (focus omega)) | ((with_reducible first | refine Ans.ct ?_ ?_); (focus (simp (disch:=(first | omega | with_reducible assumption | (simp <;> omega) | fail)) [hst6,hb,lv,a0,a1,a2,a3,a5,cj,lg,b0,b1,slK.ixs,lf,hst4,← hpb,hK2,hin,sT,-ld1_newB_same]; done))) | ((with_reducible first | refine Ans.cf ?_ ?_); (focus (simp (disch:=(first | omega | with_reducible assumption | (simp <;> omega) | fail)) [hst6,hb,lv,a0,a1,a2,a3,a5,cj,lg,b0,b1,slK.ixs,lf,hst4,← hpb,hK2,hin,sT,-ld1_newB_same]; done))) | (refine Ans.step (by simp (disch:=(first | omega | with_reducible assumption | (simp <;> omega) | fail)) [hst6,hb,lv,a0,a1,a2,a3,a5,cj,lg,b0,b1,slK.ixs,lf,hst4,← hpb,hK2,hin,sT,-ld1_newB_same,-List.getD_eq_getElem?_getD] <;> rfl) ?_; try dsimp only [v_zero,v_succ]) | fail)
 have fin:∀ b,b<256*c -> ¬ O b->b ≠ l->(HeapC.set N l (.loop st):FH).f b=h.f b:=fun b g1 g2 g3=>by
  rw [hI.own] at g2
  simp only [not_or] at g2
  rw [Z0g,if_neg g3,fN b g2.2,k2 b g1 g3 g2.1]
 have nO:∀ b,b ≠ vu->b ≠ eu -> ¬ O b:=fun b h1 h2=>by rw [hI.own]; rintro (e | e); exact h1 e; exact h2 e
 refine .done ⟨(by show c<=c+1+1+1+1; omega),O,fun b hb=>.inl hb,fin,rfl, ?_, ?_⟩
 · show (HeapC.set _ _ _:FH).f l=_
   rw [Z0g,if_pos rfl]
 · have uvF:(HeapC.set N l (.loop st):FH).f vu=some (.cells false none (ints (vCl n (D++[M])))):=by rw [Z0g,if_neg (Ne.symm x4),fN vu d11,fK2 vu qO,fKv]
   have ueF:(HeapC.set N l (.loop st):FH).f eu=some (.cells false none (ints (eCl Gl n (D++[M])))):=by rw [Z0g,if_neg (Ne.symm x7),fNe]
   exact ⟨by show cb<=c+1+1+1+1; omega,hI.g.eqf (fin gb qO (nO _ d1 d2) hgl),hI.gg.eqf (fin g2 qO (nO _ d3 d4) (Ne.symm x1)),hI.sl.keep (fun _=>fin _ qO (nO _ ls2 ls3) ls1),hI.pv.eqf (fin vc qO (nO _ d5 d6) (Ne.symm x2)),hI.pe.eqf (fin ec qO (nO _ d7 d8) (Ne.symm x5)),
    ⟨(fin vs qO (nO _ hI.uv.ne d9) (Ne.symm x3)).trans hI.uv.st,uvF,hI.uv.ne,dV,hI.uv.le⟩,⟨(fin es qO (nO _ d10 hI.ue.ne) (Ne.symm x6)).trans hI.ue.st,ueF,hI.ue.ne,dE,hI.ue.le⟩,hI.own⟩

def Z5b (Gl:List Int) (n:Nat) (all:Bool):Int:=if Z7p Gl n=0 then (if all=true then 0 else 130) else Z7p Gl n
theorem Z1f {Gl:List Int} {n:Nat} (h:Z7p Gl n=0):n<=60/\Z0t Gl n=true:=by
 unfold Z7p at h
 split at h
 · rename_i h1
   split at h
   · cases h
   · exact ⟨by omega,h1.2⟩
 · cases h
theorem SlX.keep {h h':FH} {c:Nat} {s:Value} {sz n:Nat} {L:List Int} (hs:SlI h c s sz n L) (hh:Z0u c h h') (hx:SlX h s sz n):SlX h' s sz n:=by
 obtain ⟨x1,x2⟩:=hx
 refine ⟨x1, ?_⟩
 obtain ⟨_,_,a,cap,rfl,hc4⟩:=hs
 rcases hc4 with ⟨e0,ov⟩ | ⟨b,o,cs,rfl,e2,_,_⟩
 · cases a with
   | none=>rfl
   | some a =>
    have hb:a.block<256*c:=by
     obtain ⟨v',hv'⟩:=ov
     cases hv' with
     | sl hh' _ _=>exact Z6g (by rw [hh']; simp)
     | slE hh'=>exact Z6g (by rw [hh']; simp)
    simp only [Za6,Ze4] at x2 ⊢
    have:HeapC.get h' a.block=HeapC.get h a.block:=hh _ hb
    rw [this]; exact x2
 · simp only [Za6,Ze4] at x2 ⊢
   have:HeapC.get h' b=HeapC.get h b:=hh _ e2
   rw [this]; exact x2
set_option maxHeartbeats 1000000 in
theorem ZeO (s:Value) (n:Nat) (Gl:List Int) (ss:List Value) (Vs:Nat->List Int) (nvs:Nat->Nat) (sb:Nat) (h:FH) (c:Nat) (df:List Nat) (hs:SlI h c s 20 n Gl) (hsb:sb<256*c) (hh:Z09 h sb ss) (hl:ss.length<=1000) (hnv:∀ j,nvs j<=1000000)
 (hV:∀ j,j<ss.length->SlI h c (ss.getD j undef) 1 (nvs j) (Vs j)/\SlX h (ss.getD j undef) 1 (nvs j)) :
 G (.fn 47) [.agg #[s],.slice (some ⟨sb,0,none⟩) ss.length ss.length] h c df=some ⟨.ret,[.int .i64 (Z5b Gl n ((List.range ss.length).all fun i=>Z1h Gl n (Vs i)))],h,c,[]⟩:=by
 refine Z0C (fun r e=>f47_go e) (by simp) ?_
 unfold Zle
 rw [Z4s hs.flat,Z4m,Nat.add_zero]
 simp only [cond_true]
 obtain ⟨H,hH⟩:∃ H,H=newB (newB h (256*c) [s]) (256*c+1) [.int .i64 0]:=⟨_,rfl⟩
 have sH:Z0u c h H:=by rw [hH]; simp (disch:=omega)
 have hg:Z09 H (256*c) [s]:=by rw [hH]; exact (Z09.newB_same _ _ _).newB_ne qO
 have hr:H.f (256*c+1)=some (.cells false none [.int .i64 0]):=by rw [hH,Z08,if_pos rfl]
 rw [← hH]
 clear hH
 have l1:=Z0p hg
 have l2:=SlI.len hs
 have c1:=Z05 (ZbE s n Gl H (c+1+1) [] ((hs.same sH).mono qO))
 obtain ⟨E,hE⟩:∃ E,Z7p Gl n=E:=⟨_,rfl⟩
 have hE0:E=0->n<=60/\Z0t Gl n=true:=fun e=>Z1f (hE.trans e)
 unfold Z5b
 rw [hE] at c1 ⊢
 by_cases h0:E=0
 case neg =>
  have w1:=Z12 (v:=.int .i64 E) (o:=0) (show HeapC.get H (256*c+1)=_ from hr) (by simp) rfl rfl
  have w2:ld1 (HeapC.set H (256*c+1) (.cells false none [.int .i64 E])) (.pointer (some ⟨256*c+1,0,none⟩))=some (.int .i64 E):=by
   rw [Z01 (cs:=[.int .i64 E]) ⟨_,_,get_set_same _ _ _⟩]; rfl
  rw [if_neg h0]
  have fx:=ai l1 (ai c1 (ai w1 w2))
  refine Ans.go ?_
  clear fx
  exact Ans.pure rfl (sH.set qO)
 obtain ⟨hn,hok⟩:=hE0 h0
 rw [if_pos h0]
 obtain ⟨⟨re,rv,rh,rc,rd⟩,hq,q1,q2,q3,q4,q5,q6⟩:=Zgf s n Gl ss Vs nvs (256*c) (256*c+1) sb (c+1+1+1+1) H hn hok qO qO qO qO qO hg ((hs.same sH).mono qO) (fun hp=>by have:=hs.blk hp; omega)
  (hh.same hsb sH) hl hnv (fun j hj=>⟨((hV j hj).1.same sH).mono qO,SlX.keep (hV j hj).1 sH (hV j hj).2,fun hp=>by have:=(hV j hj).1.blk hp; omega⟩) ss.length 0 (c+1+1+1+1) H [] qO qO (fun b _ _=>rfl) hr List.nodup_nil (fun d hd=>by cases hd)
 simp only at q1 q3 q4 q5 q6
 simp only [Int.ofNat_eq_natCast,Int.cast_ofNat_Int] at hq
 have hln:Z0X (.slice (some ⟨sb,0,none⟩) ss.length ss.length)=some (.int .i64 ss.length):=rfl
 have sR:∀ b,b<256*c->rh.f b=h.f b:=fun b hb=>by rw [q3 b qO qO,sH b hb]
 rcases q6 with ⟨rfl,q7,q8⟩ | ⟨rfl,q7,i,q8,q9⟩
 · have hall:((List.range ss.length).all fun i=>Z1h Gl n (Vs i))=true:=List.all_eq_true.2 fun i hi=>q8 i qO (by simpa using hi)
   rw [hall,if_pos rfl]
   have w1:=Z12 (v:=.int .i64 0) (o:=0) (show HeapC.get rh (256*c+1)=_ from q7) (by simp) rfl rfl
   obtain ⟨h9,t1,t2⟩:=Z6t (df:=rd) (h:=HeapC.set rh (256*c+1) (.cells false none [.int .i64 0])) q4 (fun d hd=>by have:=q5 d hd; rw [Z0g,if_neg qO]; exact this.1)
   have w2:ld1 h9 (.pointer (some ⟨256*c+1,0,none⟩))=some (.int .i64 0):=by
    rw [Z01 (cs:=[.int .i64 0]) ⟨false,none,(t2 _ (fun hm=>by have:=q5 _ hm; omega)).trans (by rw [Z0g,if_pos rfl])⟩]; rfl
   have q2':(⟨.exit 0,rv,rh,rc,rd⟩:Rt FH).v 1=ptrTo (256*c+1):=q2
   have fx:=ai l1 (ai c1 (ai hln (ai hq (ai q2' (ai w1 (ai t1 w2))))))
   refine Ans.go ?_
   clear fx
   refine Ans.pure rfl (fun b hb=>?_)
   show h9.f b=h.f b
   rw [t2 b (fun hm=>by have:=q5 _ hm; omega),Z0g,if_neg qO,sR b hb]
 · have hall:((List.range ss.length).all fun i=>Z1h Gl n (Vs i))=false:=by
    rw [← Bool.not_eq_true,List.all_eq_true]
    intro hall
    have:=hall i (by simpa using q8)
    rw [q9] at this; cases this
   rw [hall,if_neg (by simp)]
   obtain ⟨h9,t1,t2⟩:=Z6t (df:=rd) (h:=rh) q4 (fun d hd=>(q5 d hd).1)
   have w2:ld1 h9 (.pointer (some ⟨256*c+1,0,none⟩))=some (.int .i64 130):=by
    rw [Z01 (cs:=[.int .i64 130]) ⟨false,none,(t2 _ (fun hm=>by have:=q5 _ hm; omega)).trans q7⟩]; rfl
   have q2':(⟨.ret,rv,rh,rc,rd⟩:Rt FH).v 1=ptrTo (256*c+1):=q2
   have fx:=ai l1 (ai c1 (ai hln (ai hq (ai q2' (ai t1 w2)))))
   refine Ans.go ?_
   clear fx
   refine Ans.pure rfl (fun b hb=>?_)
   show h9.f b=h.f b
   rw [t2 b (fun hm=>by have:=q5 _ hm; omega),sR b hb]
theorem Zq5 (s v:Value) (n nv:Nat) (Gl V:List Int) (sb:Nat) (h:FH) (c:Nat) (hs:SlI h c s 20 n Gl) (hv:SlI h c v 1 nv V) (hx:SlX h v 1 nv) (hnv:nv<=1000000) (hsb:sb<256*c) (hh:Z09 h sb [v]) :
 callF G 47 [.agg #[s],.slice (some ⟨sb,0,none⟩) 1 1] h c=some (.int .i64 (Z5b Gl n (Z1h Gl n V)),h,c):=by
 have:=ZeO s n Gl [v] (fun _=>V) (fun _=>nv) sb h c [] hs hsb hh (by simp) (fun _=>hnv) (fun j hj=>by
  match j,hj with
  | 0,_=>exact ⟨hv,hx⟩)
 have e:((List.range [v].length).all fun i=>Z1h Gl n V)=Z1h Gl n V:=by simp
 rw [e] at this
 exact Z05 this

def RowV (c0:Nat) (h:FH) (c:Nat) (x:Value) (w:Nat) (L:List Int):Prop:=∃ b,x = .slice (some ⟨b,0,none⟩) w w/\256*c0<=b/\b<256*c/\h.f b=some (.cells false none (ints L))/\L.length=w/\w<=1000000
structure EqI (s:Value) (n:Nat) (Gl:List Int) (gb g2 ob l c0 cb:Nat) (D:List (List Int)) (O:Nat->Prop) (h:FH) (c:Nat):Prop where
 lc:cb<=c
 g:Z09 h gb [s]
 gg:Z09 h g2 [s]
 sl:SlI h c0 s 20 n Gl
 ng:¬ O g2
 out:∃ vo vals,O=(fun b=>b=ob ∨ b=Z0l vo)/\h.f ob=some (.cells false none [vo])/\Z2Q c0 h c vo D.length vals/\Z0l vo ≠ ob/\Z0l vo ≠ l ∧
  ∀ (k:Nat) (m:List Int),D[k]? = some m -> ∃ x,vals[k]? = some x/\RowV c0 h c x (7*n) (Z4i n m)/\Z0l x ≠ ob/\Z0l x ≠ Z0l vo/\Z0l x ≠ l

def EqV (c0:Nat) (h:FH) (c n:Nat) (Gl:List Int) (v:Value):Prop :=
 ∃ vals,Z2Q c0 h c v (Z43 Gl n).length vals /\ ∀ (k:Nat) (m:List Int),(Z43 Gl n)[k]? = some m -> ∃ x,vals[k]? = some x/\RowV c0 h c x (7*n) (Z4i n m)
theorem Zls {A B:List Int} {i n:Nat} (hA:A.length=n) (hB:B.length=n) (hi:i<n):ZcM (A.drop i) (B.drop i)=A.getD i 0*B.getD i 0+ZcM (A.drop (i+1)) (B.drop (i+1)):=by
 rw [List.drop_eq_getElem_cons qO,List.drop_eq_getElem_cons (by omega:i<B.length),ZcM]
 simp [List.getD,List.getElem?_eq_getElem (by omega:i<A.length),List.getElem?_eq_getElem (by omega:i<B.length)]
theorem mul_bd {a b:Int} (h1:-4<=a) (h2:a<=4) (h3:0<=b) (h4:b<=1000000):-4000000<=a*b/\a*b<=4000000:=by
 have h5:a*b<=4*b:=Int.mul_le_mul_of_nonneg_right h2 h3
 have h6:-4*b<=a*b:=Int.mul_le_mul_of_nonneg_right h1 h3
 omega
theorem Zpe (s v:Value) (n:Nat) (A B:List Int) (h:FH) (c:Nat) (hn:n<=1000000) (hs:SlI h c s 1 n A) (hv:SlI h c v 1 n B) (hA:∀ k,-4<=A.getD k 0/\A.getD k 0<=4) (hB:∀ k:Nat,0<=gi B k/\gi B k<=1000000) (df:List Nat) :
 ∀ (k i:Nat) (m:Int),i+k=n -> -(4000000*(i:Int))<=m->m<=4000000*i →
 Ans (G (ZcA none) [s,v,.int .i64 m,.int .i64 i] h c df) fun r=>r=⟨.exit 0,[s,v,.int .i64 (m+ZcM (A.drop i) (B.drop i)),.int .i64 n],h,c,df⟩:=by
 intro k
 have o1:=hs.okV
 have o2:=hv.okV
 have l1:=hs.len
 induction k with
 | zero =>
  intro i m hi h1 h2
  obtain rfl:i=n:=by omega
  refine Ans.lpG rfl rfl (Z85 ..) ?_
  unfold Z9v
  have fx:=l1
  refine Ans.go ?_
  clear fx
  (have fx:=ai o1 o2; refine Ans.ex0 ?_; clear fx)
  rw [List.drop_of_length_le (by have:=hs.1; omega)]
  simp [ZcM]
 | succ k ih =>
  intro i m hi h1 h2
  have ha:=hs.rdi i qO qO
  have hb:=hv.rdi i qO qO
  simp only [Int.toNat_natCast] at ha hb
  have b1:=hA i
  have b2:=hB i
  have hd:=Zls (A:=A) (B:=B) (i:=i) (n:=n) (by have:=hs.1; omega) (by have:=hv.1; omega) qO
  rw [Z1y] at ha hb b2
  obtain ⟨X,hX⟩:∃ X,A.getD i 0=X:=⟨_,rfl⟩
  obtain ⟨Y,hY⟩:∃ Y,B.getD i 0=Y:=⟨_,rfl⟩
  rw [hX] at ha b1 hd
  rw [hY] at hb b2 hd
  have b3:=mul_bd b1.1 b1.2 b2.1 b2.2
  obtain ⟨Z,hZ⟩:∃ Z,X*Y=Z:=⟨_,rfl⟩
  have hm:=aBinOp_mul (P:=P) 3 X Y qO qO
  rw [hZ] at hm b3 hd
  refine Ans.lpG rfl rfl (Z85 ..) ?_
  unfold Z9v
  repeat' (first | ((with_reducible first | refine Ans.bz ?_ | refine Ans.r1 ?_ | refine Ans.pkT ?_ | refine Ans.pkF ?_); try dsimp only [v_zero,v_succ]) | (with_reducible first | refine Ans.btL ?_ | refine Ans.bfL ?_ | refine Ans.gyT ?_ | refine Ans.gyF ?_ | refine Ans.gyG ?_ | refine Ans.bb ?_ | refine Ans.bc ?_ | refine Ans.ba ?_) | ((with_reducible first | refine Ans.lsT ?_ ?_ | refine Ans.leT ?_ ?_ | refine Ans.grT ?_ ?_ | refine Ans.geT ?_ ?_ | refine Ans.eqT ?_ ?_ | refine Ans.neT ?_ ?_); (focus omega)) | ((with_reducible first | refine Ans.lsF ?_ ?_ | refine Ans.leF ?_ ?_ | refine Ans.grF ?_ ?_ | refine Ans.geF ?_ ?_ | refine Ans.eqF ?_ ?_ | refine Ans.neF ?_ ?_); (focus omega)) | (with_reducible first | refine Ans.lsS (fun _=>?_) (fun _=>?_) | refine Ans.leS (fun _=>?_) (fun _=>?_) | refine Ans.grS (fun _=>?_) (fun _=>?_) | refine Ans.geS (fun _=>?_) (fun _=>?_) | refine Ans.eqS (fun _=>?_) (fun _=>?_) | refine Ans.neS (fun _=>?_) (fun _=>?_)) | ((with_reducible first | refine Ans.addN ?_ ?_ | refine Ans.add ?_ ?_ | refine Ans.sub ?_ ?_ | refine Ans.mul ?_ ?_); (focus omega)) | ((with_reducible first | refine Ans.ct ?_ ?_); (focus (simp (disch:=(first | omega | with_reducible assumption | (simp <;> omega) | fail)) [l1,hs.ixs1,hv.ixs1,ha,hb,hm,-aBinOp_mul]; done))) | ((with_reducible first | refine Ans.cf ?_ ?_); (focus (simp (disch:=(first | omega | with_reducible assumption | (simp <;> omega) | fail)) [l1,hs.ixs1,hv.ixs1,ha,hb,hm,-aBinOp_mul]; done))) | (refine Ans.step (by simp (disch:=(first | omega | with_reducible assumption | (simp <;> omega) | fail)) [l1,hs.ixs1,hv.ixs1,ha,hb,hm,-aBinOp_mul,-List.getD_eq_getElem?_getD] <;> rfl) ?_; try dsimp only [v_zero,v_succ]) | fail)
  (have fx:=ai o1 o2; refine Ans.nx0 ?_; clear fx)
  rw [hZ]
  refine (ih (i+1) (m+Z) qO qO qO).mono ?_
  rintro r rfl
  rw [hd,Int.add_assoc]
theorem dot_sp (s v:Value) (n:Nat) (A B:List Int) (h:FH) (c:Nat) (df:List Nat) (hn:n<=1000000) (hs:SlI h c s 1 n A) (hv:SlI h c v 1 n B) (hA:∀ k,-4<=A.getD k 0/\A.getD k 0<=4) (hB:∀ k:Nat,0<=gi B k/\gi B k<=1000000) :
 G (.fn 33) [s,v] h c df=some ⟨.ret,[.int .i64 (ZcM A B)],h,c,[]⟩:=by
 refine Z0C (fun r e=>f33_go e) (by simp) ?_
 unfold Zrt
 have hr:=Ans.eq (Zpe s v n A B h (c+1+1+1) hn (hs.mono qO) (hv.mono qO) hA hB [] n 0 0 qO qO qO)
 rw [List.drop_zero,List.drop_zero,Int.zero_add] at hr
 simp only [Int.ofNat_eq_natCast,Int.cast_ofNat_Int] at hr
 have fx:=hr
 refine Ans.go ?_
 clear fx
 (have fx:=True.intro; exact Ans.pu)
end Go.Proofs.Ytcnndelmnobigaa
