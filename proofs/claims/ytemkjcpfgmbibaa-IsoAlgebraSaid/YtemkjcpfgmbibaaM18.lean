/- Parts of a proof: D8 T3 T4 T5 T6 T7. Conditions: none. -/
import Derived.Test.YtemkjcpfgmbibaaM16
import Derived.Test.YtemkjcpfgmbibaaM17
set_option linter.all false
set_option maxRecDepth 100000
namespace Go.Proofs.Ytemkjcpfgmbibaa
open Go Go.Ab Go.Proofs
theorem inR24 {p:List Int} (hp:p ∈ p24):InR p:=Z1h (Z3m hp)
theorem Z4t (p q:List Int) (hp:p ∈ p24) (hq:q ∈ p24) (h:FH) (c:Nat):callF G 65 [av p,av q] h c=some (av (comp p q),h,c) :=
 Z0j (Z7p p q (Z23 hp) (Z23 hq) (inR24 hq) h c [])
theorem Zc3 (p:List Int) (hp:p ∈ p24) (h:FH) (c:Nat):callF G 66 [av p] h c=some (av (inv p),h,c):=Z1T p (Z23 hp) (inR24 hp) h c
theorem ZiJ (so sp v3 v7:Value) (n a:Nat) (Ord:List Int) (rb bb bm cm c:Nat) (h:FH) (hn:n<=1000) (hcm:cm<=c) (hrb:256*cm<=rb) (hrb1:rb<bb) (hbb1:bb<bm) (hbm:bm<256*c)
 (ho:SlI h cm so 1 n Ord) (o1:OkV c sp) (o2:OkV c v3) (o3:OkV c v7) (df:List Nat) :
 ∀ (k i:Nat) (l:List Int) (met:List Bool),i+k=n->l.length=n->met.length=n →
 Ans (G (Z73 none) [so,sp,v3,ptrTo rb,v7,.int .i64 n,.slice (some ⟨bb,0,none⟩) n n,.slice (some ⟨bm,0,none⟩) n n,so,.int .i64 n,.int .i64 i] (newB (newB (newB h rb [.slice none 0 0]) bb (ints l)) bm (bools met)) c df)
  fun r=>r.c=c/\r.df=df /\ ∃ l' met',r.h=newB (newB (newB h rb [.slice none 0 0]) bb (ints l')) bm (bools met') ∧
   (if Zmz Ord n k i met=true then r.e = .exit 0/\l'=Z66 Ord k i l /\ ∃ v7',r.vs=[so,sp,v3,ptrTo rb,v7',.int .i64 n,.slice (some ⟨bb,0,none⟩) n n,.slice (some ⟨bm,0,none⟩) n n,so,.int .i64 n,.int .i64 n]
    else r.e = .ret/\r.v 3=ptrTo rb/\r.v 4 = .int .i64 1):=by
 intro k
 have o4:=(ho.mono hcm).okV
 induction k with
 | zero =>
  intro i l met hi hl hm
  obtain rfl:i=n:=by omega
  refine Ans.lpG rfl rfl (Z2o ..) ?_
  unfold Z1r
  have fx:=True.intro
  refine Ans.go ?_
  clear fx
  (have fx:=ai o1 (ai o2 (ai o3 (ai o4 hbm))); refine Ans.ex0 ?_; clear fx)
  exact ⟨rfl,rfl,l,met,rfl,by simp [Zmz,Z66]⟩
 | succ k ih =>
  intro i l met hi hl hm
  have b1:=ho.blk qO
  have l1:=ho.rdi i qO qO
  simp only [Int.toNat_natCast] at l1
  rw [Z3A] at l1
  rw [Z66]
  unfold Zmz
  obtain ⟨X,hX⟩:∃ X,Ord.getD i 0=X:=⟨_,rfl⟩
  rw [hX] at l1 ⊢
  have hz:Z1v [(.slice none 0 0)] []=some (.agg #[.slice none 0 0]):=rfl
  have hs0:stN (newB (newB (newB h rb [.slice none 0 0]) bb (ints l)) bm (bools met)) 1 (.pointer (some ⟨rb,0,none⟩)) (.agg #[.slice none 0 0])=some (newB (newB (newB h rb [.slice none 0 0]) bb (ints l)) bm (bools met)):=by
   rw [stN_newB_ne _ _ _ _ _ _ _ qO,stN_newB_ne _ _ _ _ _ _ _ qO,st1_agg _ _ _ _ _ (by simp) rfl]; rfl
  have fin:Ans (Z1r G none so sp v3 (ptrTo rb) v7 (.int .i64 n) (.slice (some ⟨bb,0,none⟩) n n) (.slice (some ⟨bm,0,none⟩) n n) so (.int .i64 n) (.int .i64 i) (newB (newB (newB h rb [.slice none 0 0]) bb (ints l)) bm (bools met)) c df)
   (fun q=>∃ c',q=⟨.ret,[so,sp,v3,ptrTo rb,.int .i64 1,.int .i64 n,.slice (some ⟨bb,0,none⟩) n n,.slice (some ⟨bm,0,none⟩) n n,so,.int .i64 n,.int .i64 i],newB (newB (newB h rb [.slice none 0 0]) bb (ints l)) bm (bools met),c',df⟩) →
   Ans (G (Z73 none) [so,sp,v3,ptrTo rb,v7,.int .i64 n,.slice (some ⟨bb,0,none⟩) n n,.slice (some ⟨bm,0,none⟩) n n,so,.int .i64 n,.int .i64 i] (newB (newB (newB h rb [.slice none 0 0]) bb (ints l)) bm (bools met)) c df)
    fun r=>r.c=c/\r.df=df /\ ∃ l' met',r.h=newB (newB (newB h rb [.slice none 0 0]) bb (ints l')) bm (bools met')/\(r.e = .ret/\r.v 3=ptrTo rb/\r.v 4 = .int .i64 1):=by
   rintro ⟨q,e,c',rfl⟩
   refine Ans.lpG rfl rfl (Z2o ..) ?_
   rw [e]
   (have fx:=ai o1 (ai o2 (ai o4 hbm)); refine Ans.rt0 ?_; clear fx)
   exact ⟨rfl,rfl,l,met,rfl,rfl,rfl,rfl⟩
  by_cases q1:X<0
  · rw [if_pos (Or.inl q1)]
    refine (fin ?_).mono (fun r h=>by simpa using h)
    unfold Z1r
    have fx:=ai ho.ixs1 (ai l1 (ai hz hs0))
    refine Ans.go ?_
    clear fx
    refine Ans.intro rfl ?_
    exact ⟨_,rfl⟩
  by_cases q2:(n:Int)<=X
  · rw [if_pos (Or.inr q2)]
    refine (fin ?_).mono (fun r h=>by simpa using h)
    unfold Z1r
    have fx:=ai ho.ixs1 (ai l1 (ai hz hs0))
    refine Ans.go ?_
    clear fx
    refine Ans.intro rfl ?_
    exact ⟨_,rfl⟩
  rw [if_neg qO]
  have hlm:ld1 (newB (newB (newB h rb [.slice none 0 0]) bb (ints l)) bm (bools met)) (.pointer (some ⟨bm,X.toNat,none⟩))=some (.bool (met.getD X.toNat false)):=by
   rw [ld1_newB_same,Z8S _ _ qO]
  cases q3:met.getD X.toNat false with
  | true =>
   rw [q3] at hlm
   simp only [if_true]
   refine (fin ?_).mono (fun r h=>by simpa using h)
   unfold Z1r
   have fx:=ai ho.ixs1 (ai l1 (ai hz (ai hlm hs0)))
   refine Ans.go ?_
   clear fx
   refine Ans.intro rfl ?_
   exact ⟨_,rfl⟩
  | false =>
   rw [q3] at hlm
   simp only [Bool.false_eq_true,if_false]
   have hs1:stN (newB (newB (newB h rb [.slice none 0 0]) bb (ints l)) bm (bools met)) 1 (.pointer (some ⟨bm,X.toNat,none⟩)) (.bool true)=some (newB (newB (newB h rb [.slice none 0 0]) bb (ints l)) bm (bools (met.set X.toNat true))):=by
    rw [st1_bool _ _ _ _ _ (by rw [Z4Y]; omega),Z8R]
   have hs2:stN (newB (newB h rb [.slice none 0 0]) bb (ints l)) 1 (.pointer (some ⟨bb,X.toNat,none⟩)) (.int .i64 i)=some (newB (newB h rb [.slice none 0 0]) bb (ints (l.set X.toNat i))):=by
    rw [st1_int _ _ _ _ _ _ (by simp; omega),Z57]
   refine Ans.lpG rfl rfl (Z2o ..) ?_
   unfold Z1r
   have fx:=ai ho.ixs1 (ai l1 (ai hz (ai hlm (ai hs1 hs2))))
   refine Ans.go ?_
   clear fx
   (have fx:=ai o1 (ai o2 (ai o3 (ai o4 hbm))); refine Ans.nxB (B:=newB (newB (newB h rb [.slice none 0 0]) bb (ints (l.set X.toNat i))) bm (bools (met.set X.toNat true))) ?_ ?_; exact (Z4C.both (Z1X.bools _ _) (Z4C.both (Z1X.ints _ _) (Z4C.refl _ _) qO) hbm); clear fx)
   exact ih (i+1) _ _ qO (by simpa using hl) (by simpa using hm)
set_option maxHeartbeats 1000000 in
theorem rnG_in (s so sp sb v6 v14:Value) (n:Nat) (Gl Ord Pm:List Int) (gb br cm c:Nat) (h:FH) (i:Nat) (hi:i<n) (hn:n<=1000) (hcm:cm<=c) (hgb:gb<256*cm) (hbr:br<256*c) (hbr1:256*cm<=br)
 (hh:Z0a h gb [s]) (hg:SlI h cm s 20 n Gl) (ho:SlI h cm so 1 n Ord) (hp:SlI h cm sp 4 n Pm) (hb:SlI h cm sb 1 n (Z0o Ord n)) (hok:RnOk Gl Ord Pm n) (hv6:OkV c v6) (hv14:OkV c v14) (df:List Nat) :
 ∀ (k f:Nat),f+k=4 →
 Ans (G (Z9P none) [sp,ptrTo gb,v6,sb,v14,.int .i64 i,.int .i64 (Ord.getD i 0),ptrTo br,so,.int .i64 n,.int .i64 i,.int .i64 f] (newB h br (ints (Z7z (rnF Gl Ord Pm (Z0o Ord n) i) f))) c df)
  fun r=>r=⟨.exit 4,[sp,ptrTo gb,v6,sb,v14,.int .i64 i,.int .i64 (Ord.getD i 0),ptrTo br,so,.int .i64 n,.int .i64 i,.int .i64 4],newB h br (ints (Z1x (rnF Gl Ord Pm (Z0o Ord n) i) 4)),c,df⟩:=by
 intro k
 have o1:=(hg.mono hcm).okV
 have o2:=(ho.mono hcm).okV
 have o3:=(hp.mono hcm).okV
 have o4:=(hb.mono hcm).okV
 have b1:=hg.blk qO
 have b2:=ho.blk qO
 have b3:=hp.blk qO
 have b4:=hb.blk qO
 induction k with
 | zero =>
  intro f hf
  obtain rfl:f=4:=by omega
  refine Ans.lpG rfl rfl (Z4o ..) ?_
  unfold Z41
  have fx:=True.intro
  refine Ans.go ?_
  clear fx
  (have fx:=ai o2 (ai o3 (ai o4 (ai hv6 (ai hv14 (ai hgb hbr))))); refine Ans.ex0 ?_; clear fx)
  rw [ZbG]
  rfl
 | succ k ih =>
  intro f hf
  have hF:∀ f,f<4->(rnF Gl Ord Pm (Z0o Ord n) i f).length=5:=fun f hf=>Z2r hok hi hf
  have ft:(f:Int)<4:=by omega
  have ih':=ih (f+1) qO
  clear ih
  obtain ⟨x1,x2,x3⟩:=hok.rng i hi
  have hpi:=hok.p24 hi
  have hpr:=Z1E hpi (i:=f) qO
  have e2:ld1 h (.pointer (some ⟨gb,0,none⟩))=some s:=by rw [Z03 hh]; rfl
  have l2:=hp.perm i qO qO
  have l3:=hp.rd (i*4+f) qO
  rw [← Nat.add_assoc] at l3
  simp only [Int.toNat_natCast] at l2
  have l3':Pm.getD (i*4+f) 0=(Z04 Pm i).getD f 0:=by rw [Z04,Z4R _ _ _ qO,Z4S,Nat.mul_comm]
  rw [l3'] at l3
  have fdef:rnF Gl Ord Pm (Z0o Ord n) i f=rnF Gl Ord Pm (Z0o Ord n) i f:=rfl
  conv at fdef=>rhs; unfold rnF
  have hRl:=Z8e hF (f:=f) qO
  have hst:∀ X,X.length=5->stN (newB h br (ints (Z7z (rnF Gl Ord Pm (Z0o Ord n) i) f))) 5 (.pointer (some ⟨br,f*5,none⟩)) (av X)=some (newB h br (ints (Z1x (rnF Gl Ord Pm (Z0o Ord n) i) f++X++List.replicate (20-5*(f+1)) 0))):=fun X hX=>by
   rw [Z0V _ _ _ _ _ _ (by simp [hX]) (by simp [hRl]; omega) (by simp)]
   rw [Z4v,Z5z,Nat.mul_comm,Zdv hF qO X hX]
  have hst':∀ Y X,Y.length=5->X.length=5->stN (newB h br (ints (Z1x (rnF Gl Ord Pm (Z0o Ord n) i) f++Y++List.replicate (20-5*(f+1)) 0))) 5 (.pointer (some ⟨br,f*5,none⟩)) (av X)=some (newB h br (ints (Z1x (rnF Gl Ord Pm (Z0o Ord n) i) f++X++List.replicate (20-5*(f+1)) 0))):=fun Y X hY hX=>by
   have hl:=Z0F hF f qO
   rw [Z0V _ _ _ _ _ _ (by simp [hX]) (by simp [hl,hY]; omega) (by simp)]
   rw [Z4v,Z5z,Nat.mul_comm,ZiH hF qO Y X hY hX]
  have hld:∀ Y,Y.length=5->ldN (newB h br (ints (Z1x (rnF Gl Ord Pm (Z0o Ord n) i) f++Y++List.replicate (20-5*(f+1)) 0))) 5 (.pointer (some ⟨br,f*5,none⟩))=some (av Y):=fun Y hY=>by
   have hl:=Z0F hF f qO
   rw [ldN_newB_same _ _ _ _ _ (by simp [hl,hY]; omega),Z1Q,Z1y,List.append_assoc,List.drop_append,List.drop_eq_nil_of_le qO,List.nil_append,hl,show f*5-5*f=0 by omega,List.drop_zero,List.take_append_of_le_length qO,List.take_of_length_le qO]
   rfl
  have hR1:Z7z (rnF Gl Ord Pm (Z0o Ord n) i) (f+1)=Z1x (rnF Gl Ord Pm (Z0o Ord n) i) f++rnF Gl Ord Pm (Z0o Ord n) i f++List.replicate (20-5*(f+1)) 0:=by rw [Z7z,Z1x]
  obtain ⟨R1,hR1'⟩:∃ R1,Z7z (rnF Gl Ord Pm (Z0o Ord n) i) (f+1)=R1:=⟨_,rfl⟩
  rw [hR1'] at ih' hR1
  obtain ⟨X,hX⟩:∃ X,Ord.getD i 0=X:=⟨_,rfl⟩
  obtain ⟨Y,hY⟩:∃ Y,(Z04 Pm i).getD f 0=Y:=⟨_,rfl⟩
  rw [hX,hY] at fdef
  rw [hX] at x1 x2 ih' ⊢
  rw [hY] at l3 hpr
  have l4:=hg.face X Y x1 x2 hpr.1 hpr.2
  have okf:=Z2s hok.ok (t:=X.toNat) (f:=Y.toNat) qO qO
  have hfl:=Z0G hok.gl (t:=X.toNat) (f:=Y.toNat) qO qO
  have okg:=Z2j okf
  have okz:=Z8o okf
  obtain ⟨F,hFF⟩:∃ F,Z06 Gl X.toNat Y.toNat=F:=⟨_,rfl⟩
  rw [hFF] at l4 hfl fdef okg okz
  clear okf
  have hT:F.getD 0 0=Z1d F:=rfl
  obtain ⟨T,hTT⟩:∃ T,Z1d F=T:=⟨_,rfl⟩
  rw [hTT] at hT okg fdef okz
  have b5:∀ H tm,ld1 (newB H tm (ints F)) (.pointer (some ⟨tm,0,none⟩))=some (.int .i64 T):=fun H tm=>by
   rw [ld1_newB_same,ints_getD _ _ qO,hT]
  have b6:∀ H tm,ldN (newB H tm (ints F)) 4 (.pointer (some ⟨tm,1,none⟩))=some (av (Z0D F)):=fun H tm=>by
   rw [ldN_newB_same _ _ _ _ _ (by simp [hfl]),Z1Q,Z1y]; rfl
  have hs1:=hst F hfl
  have hl1:=hld F hfl
  refine Ans.lpG rfl rfl (Z4o ..) ?_
  unfold Z41
  by_cases h0:T<0
  · have hFn:=okz h0
    clear okg okz
    rw [if_pos h0,← hFn] at fdef
    rw [fdef] at hR1
    rw [← hR1] at hs1 hl1
    repeat' (first | ((with_reducible first | refine Ans.bz ?_ | refine Ans.r1 ?_ | refine Ans.pkT ?_ | refine Ans.pkF ?_); try dsimp only [v_zero,v_succ]) | (with_reducible first | refine Ans.btL ?_ | refine Ans.bfL ?_ | refine Ans.gyT ?_ | refine Ans.gyF ?_ | refine Ans.gyG ?_ | refine Ans.bb ?_ | refine Ans.bc ?_ | refine Ans.ba ?_) | ((with_reducible first | refine Ans.lsT ?_ ?_ | refine Ans.leT ?_ ?_ | refine Ans.grT ?_ ?_ | refine Ans.geT ?_ ?_ | refine Ans.eqT ?_ ?_ | refine Ans.neT ?_ ?_); (focus omega)) | ((with_reducible first | refine Ans.lsF ?_ ?_ | refine Ans.leF ?_ ?_ | refine Ans.grF ?_ ?_ | refine Ans.geF ?_ ?_ | refine Ans.eqF ?_ ?_ | refine Ans.neF ?_ ?_); (focus omega)) | (with_reducible first | refine Ans.lsS (fun _=>?_) (fun _=>?_) | refine Ans.leS (fun _=>?_) (fun _=>?_) | refine Ans.grS (fun _=>?_) (fun _=>?_) | refine Ans.geS (fun _=>?_) (fun _=>?_) | refine Ans.eqS (fun _=>?_) (fun _=>?_) | refine Ans.neS (fun _=>?_) (fun _=>?_)) | ((with_reducible first | refine Ans.addN ?_ ?_ | refine Ans.add ?_ ?_ | refine Ans.sub ?_ ?_ | refine Ans.mul ?_ ?_); (focus omega)) | ((with_reducible first | refine Ans.ct ?_ ?_); (focus (simp (disch:=(first | omega | with_reducible assumption | (simp <;> omega) | fail)) [e2,hp.ixs,hg.ixs,l2,l3,l4,b5,hs1,hl1,hfl,-ldN_newB_same]; done))) | ((with_reducible first | refine Ans.cf ?_ ?_); (focus (simp (disch:=(first | omega | with_reducible assumption | (simp <;> omega) | fail)) [e2,hp.ixs,hg.ixs,l2,l3,l4,b5,hs1,hl1,hfl,-ldN_newB_same]; done))) | (refine Ans.step (by simp (disch:=(first | omega | with_reducible assumption | (simp <;> omega) | fail)) [e2,hp.ixs,hg.ixs,l2,l3,l4,b5,hs1,hl1,hfl,-ldN_newB_same,-List.getD_eq_getElem?_getD] <;> rfl) ?_; try dsimp only [v_zero,v_succ]) | fail)
    (have fx:=ai o2 (ai o3 (ai o4 (ai hv6 (ai hv14 (ai hgb hbr))))); refine Ans.nxB (B:=newB h br (ints R1)) ?_ ?_; exact (Z4C.both (Z1X.ints _ _) (Z4C.refl _ _) hbr); clear fx)
    exact ih'
  · rw [if_neg h0] at fdef
    obtain ⟨tn,g1,-,-⟩:=okg h0
    clear okg okz
    have pf:=ZbM (Z1j hfl) g1
    have kr:0<=gi (Z0o Ord n) T/\gi (Z0o Ord n) T<n:=Z28 Ord (n:=n) qO T.toNat qO
    have l5:=hb.rdi T qO tn
    have e7:(Z0o Ord n).getD T.toNat 0=gi (Z0o Ord n) T:=rfl
    rw [e7] at fdef
    obtain ⟨K,hK⟩:∃ K,gi (Z0o Ord n) T=K:=⟨_,rfl⟩
    rw [hK] at kr l5 fdef
    have l6:=hp.perm K kr.1 kr.2
    have pk:=hok.p24 (j:=K.toNat) qO
    have c1:=fun H c=>Zc3 _ pk H c
    have c2:=fun H c=>Z4t _ _ pf hpi H c
    have c3:=fun H c=>Z4t _ _ (Z5i pk) (Z64 pf hpi) H c
    have cl:(comp (inv (Z04 Pm K.toNat)) (comp (Z0D F) (Z04 Pm i))).length=4:=by rw [Z0l,Z0l,Z23 hpi]
    have c4:=Zmc K _ cl
    have hs2:=hst' F (K::comp (inv (Z04 Pm K.toNat)) (comp (Z0D F) (Z04 Pm i))) hfl (by simp [cl])
    rw [fdef] at hR1
    rw [← hR1] at hs2
    obtain ⟨R0,hR0⟩:∃ R0,Z1x (rnF Gl Ord Pm (Z0o Ord n) i) f++F++List.replicate (20-5*(f+1)) 0=R0:=⟨_,rfl⟩
    rw [hR0] at hs1 hl1 hs2
    repeat' (first | ((with_reducible first | refine Ans.bz ?_ | refine Ans.r1 ?_ | refine Ans.pkT ?_ | refine Ans.pkF ?_); try dsimp only [v_zero,v_succ]) | (with_reducible first | refine Ans.btL ?_ | refine Ans.bfL ?_ | refine Ans.gyT ?_ | refine Ans.gyF ?_ | refine Ans.gyG ?_ | refine Ans.bb ?_ | refine Ans.bc ?_ | refine Ans.ba ?_) | ((with_reducible first | refine Ans.lsT ?_ ?_ | refine Ans.leT ?_ ?_ | refine Ans.grT ?_ ?_ | refine Ans.geT ?_ ?_ | refine Ans.eqT ?_ ?_ | refine Ans.neT ?_ ?_); (focus omega)) | ((with_reducible first | refine Ans.lsF ?_ ?_ | refine Ans.leF ?_ ?_ | refine Ans.grF ?_ ?_ | refine Ans.geF ?_ ?_ | refine Ans.eqF ?_ ?_ | refine Ans.neF ?_ ?_); (focus omega)) | (with_reducible first | refine Ans.lsS (fun _=>?_) (fun _=>?_) | refine Ans.leS (fun _=>?_) (fun _=>?_) | refine Ans.grS (fun _=>?_) (fun _=>?_) | refine Ans.geS (fun _=>?_) (fun _=>?_) | refine Ans.eqS (fun _=>?_) (fun _=>?_) | refine Ans.neS (fun _=>?_) (fun _=>?_)) | ((with_reducible first | refine Ans.addN ?_ ?_ | refine Ans.add ?_ ?_ | refine Ans.sub ?_ ?_ | refine Ans.mul ?_ ?_); (focus omega)) | ((with_reducible first | refine Ans.ct ?_ ?_); (focus (simp (disch:=(first | omega | with_reducible assumption | (simp <;> omega) | fail)) [e2,hp.ixs,hg.ixs,hb.ixs1,l2,l3,l4,l5,l6,b5,b6,hs1,hl1,hfl,c1,c2,c3,c4,hs2,-ldN_newB_same]; done))) | ((with_reducible first | refine Ans.cf ?_ ?_); (focus (simp (disch:=(first | omega | with_reducible assumption | (simp <;> omega) | fail)) [e2,hp.ixs,hg.ixs,hb.ixs1,l2,l3,l4,l5,l6,b5,b6,hs1,hl1,hfl,c1,c2,c3,c4,hs2,-ldN_newB_same]; done))) | (refine Ans.step (by simp (disch:=(first | omega | with_reducible assumption | (simp <;> omega) | fail)) [e2,hp.ixs,hg.ixs,hb.ixs1,l2,l3,l4,l5,l6,b5,b6,hs1,hl1,hfl,c1,c2,c3,c4,hs2,-ldN_newB_same,-List.getD_eq_getElem?_getD] <;> rfl) ?_; try dsimp only [v_zero,v_succ]) | fail)
    (have fx:=ai o2 (ai o3 (ai o4 (ai hv6 (ai hv14 (ai hgb hbr))))); refine Ans.nxB (B:=newB h br (ints R1)) ?_ ?_; exact (Z4C.both (Z1X.ints _ _) (Z4C.refl _ _) hbr); clear fx)
    exact ih'

theorem Zd7 (p q:List Int) (hp:p ∈ p24) (hq:q ∈ p24) (h:FH) (c:Nat) (df:List Nat) :
 G (.fn 61) [av p,av q] h c df=some ⟨.ret,[av (comp p q)],h,c,[]⟩:=by
 refine Z1P (fun r e=>f61_go e) (by simp) ?_
 have lp:=Z23 hp
 have lq:=Z23 hq
 have lc:=Z23 (Z64 hp hq)
 have e1:p.take 4=p:=List.take_of_length_le qO
 have e2:q.take 4=q:=List.take_of_length_le qO
 have e3:(comp p q).take 4=comp p q:=List.take_of_length_le qO
 have hv:=fun h c=>Z0O p lp h c
 have hw:=fun h c=>Z0O q lq h c
 have hc:=fun h c=>Z4t p q hp hq h c
 rw [Z3m hp] at hv
 rw [Z3m hq] at hw
 have hz:[Value.int .i64 0,Value.int .i64 0,Value.int .i64 0,Value.int .i64 0]=ints [0,0,0,0]:=rfl
 unfold ZhO
 rw [hz]
 repeat (first | (with_reducible refine Ans.bt ?_ ?_; exact rfl) | (with_reducible refine Ans.bf ?_ ?_; exact rfl) | (with_reducible refine Ans.ct ?_ ?_; focus (simp; done)) | (with_reducible refine Ans.cf ?_ ?_; focus (simp; done)) | refine Ans.step (by simp (disch:=(first | omega | (simp <;> omega) | fail)) [e1,e2,e3,lp,lq,lc,hv,hw,hc,-List.getD_eq_getElem?_getD] <;> rfl) ?_)
 refine .done ⟨rfl,rfl, ?_,rfl⟩
 simp (disch:=omega)
theorem Z9m (p q:List Int) (hp:p ∈ p24) (hq:q ∈ p24) (h:FH) (c:Nat):callF G 61 [av p,av q] h c=some (av (comp p q),h,c):=Z0j (Zd7 p q hp hq h c [])
theorem ZcD (p:List Int) (hp:p ∈ p24) (h:FH) (c:Nat) (df:List Nat) :
 G (.fn 62) [av p] h c df=some ⟨.ret,[av (inv p)],h,c,[]⟩:=by
 refine Z1P (fun r e=>f62_go e) (by simp) ?_
 have lp:=Z23 hp
 have li:=Z23 (Z5i hp)
 have e1:p.take 4=p:=List.take_of_length_le qO
 have e3:(inv p).take 4=inv p:=List.take_of_length_le qO
 have hv:=fun h c=>Z0O p lp h c
 have hc:=fun h c=>Zc3 p hp h c
 rw [Z3m hp] at hv
 have hz:[Value.int .i64 0,Value.int .i64 0,Value.int .i64 0,Value.int .i64 0]=ints [0,0,0,0]:=rfl
 unfold ZhM
 rw [hz]
 repeat (first | (with_reducible refine Ans.bt ?_ ?_; exact rfl) | (with_reducible refine Ans.bf ?_ ?_; exact rfl) | (with_reducible refine Ans.ct ?_ ?_; focus (simp; done)) | (with_reducible refine Ans.cf ?_ ?_; focus (simp; done)) | refine Ans.step (by simp (disch:=(first | omega | (simp <;> omega) | fail)) [e1,e3,lp,li,hv,hc,-List.getD_eq_getElem?_getD] <;> rfl) ?_)
 refine .done ⟨rfl,rfl, ?_,rfl⟩
 simp (disch:=omega)
theorem Z9l (p:List Int) (hp:p ∈ p24) (h:FH) (c:Nat):callF G 62 [av p] h c=some (av (inv p),h,c):=Z0j (ZcD p hp h c [])
def mE (L:List Int):List (Value × Value):=L.map fun x=>(.int .i64 x,.bool true)
theorem Zm2 (x a:Int):aEq P Z1k 3 (.int .i64 x) (.int .i64 a)=some (x == a):=by kernel_rfl
theorem ZcC (x:Int):∀ (L:List Int) (i:Nat),∃ r,ZbT P 3 (.int .i64 x) (mE L) i=some r/\(x ∈ L -> ∃ j,r=some (j,.bool true))/\(x ∉ L->r=none)
 | [],i=>⟨none,rfl,(fun h=>by cases h),fun _=>rfl⟩
 | a::L,i=>by
  obtain ⟨r,h1,h2,h3⟩:=ZcC x L (i+1)
  by_cases e:x=a
  · refine ⟨some (i,.bool true), ?_,fun _=>⟨i,rfl⟩,fun h=>absurd (by rw [e]; simp) h⟩
    show (aEq P Z1k 3 (.int .i64 x) (.int .i64 a)).bind _=_
    rw [Zm2]
    simp [e]
  · refine ⟨r, ?_,fun h=>h2 ?_,fun h=>h3 (fun q=>h (by simp [q]))⟩
    · show (aEq P Z1k 3 (.int .i64 x) (.int .i64 a)).bind _=_
      rw [Zm2]
      have:(x == a)=false:=by simpa using e
      rw [this]
      simp only [Option.bind_some,cond_false]
      exact h1
    · rcases List.mem_cons.1 h with h | h
      · exact absurd h e
      · exact h
theorem mT92:ZnR P 92=some (3,4):=by kernel_rfl
theorem kO3 (x:Int):Z8v P Z1k 3 (.int .i64 x)=true:=by kernel_rfl
theorem zT4:Z6h P 4=some (.bool false):=by kernel_rfl
theorem ZmH {h:FH} {i:Nat} {L:List Int} (hg:HeapC.get h i=some (.map (mE L))) (x:Int):Z3v P h 92 (.map (some i)) (.int .i64 x) false=some (.bool (decide (x ∈ L))):=by
 obtain ⟨r,h1,h2,h3⟩:=ZcC x L 0
 have hp:plainL (.bool false)=true:=rfl
 simp only [Z3v,mT92,Option.bind_some,kO3,cond_true,zT4,hp,hg,h1]
 by_cases e:x ∈ L
 · obtain ⟨j,rfl⟩:=h2 e
   simp [e]
 · rw [h3 e]; simp [e]
theorem mE_upd {h:FH} {i:Nat} {L:List Int} (hg:HeapC.get h i=some (.map (mE L))) (x:Int) (hx:x ∉ L):Z0T P h 92 (.map (some i)) (.int .i64 x) (.bool true)=some (HeapC.set h i (.map (mE (L++[x])))):=by
 obtain ⟨r,h1,h2,h3⟩:=ZcC x L 0
 have hp:plainL (.int .i64 x)=true:=rfl
 rw [h3 hx] at h1
 simp only [Z0T,mT92,Option.bind_some,kO3,hp,Bool.and_self,cond_true,hg,h1]
 simp [mE]
theorem Z4C.setm {c b:Nat} {A B:FH} {es:List (Value × Value)} (hb:b<256*c) (hc:∀ e ∈ es,OkV c e.1/\OkV c e.2) (h:Z4C c A B):Z4C c A (HeapC.set B b (.map es)):=by
 intro i
 rw [Z0m]
 refine ⟨fun hi=>?_,fun hi=>?_⟩
 · rw [if_neg qO]; exact (h i).1 hi
 · split
   · exact .inr hc
   · exact (h i).2 hi
theorem mE_ok (c:Nat) (L:List Int):∀ e ∈ mE L,OkV c e.1/\OkV c e.2:=fun e he=>by
 obtain ⟨x,_,rfl⟩:=List.mem_map.1 he
 exact ⟨OkV.int _ _ _,OkV.bool _ _⟩
theorem ZiS {L:List Int} {i:Nat} (hi:i<=L.length) (x:Int):x ∈ L.take i ↔ ∃ j,j<i/\L.getD j 0=x:=by
 rw [List.mem_take_iff_getElem]
 constructor
 · rintro ⟨j,hj,e⟩
   refine ⟨j,by omega, ?_⟩
   rw [List.getD_eq_getElem?_getD,List.getElem?_eq_getElem qO]
   exact e
 · rintro ⟨j,hj,e⟩
   rw [List.getD_eq_getElem?_getD,List.getElem?_eq_getElem qO] at e
   exact ⟨j,by omega,e⟩
def badO (Ord:List Int) (n j:Nat):Prop:=¬ (0<=Ord.getD j 0/\Ord.getD j 0<n) ∨ ∃ i,i<j/\Ord.getD i 0=Ord.getD j 0
theorem ZgU (so:Value) (n:Nat) (Ord:List Int) (x1:Value) (h0:FH) (mb cm c:Nat) (df:List Nat) (hcm:cm<=c) (hmb:mb<256*c) (hmb1:256*cm<=mb) (hO:SlI h0 cm so 1 n Ord) (hn:n<=1000) (o1:OkV c x1) :
 ∀ (k i:Nat),i+k=n->Ans (G (Z9O none) [x1,.bool false,.int .i64 n,.map (some mb),so,.int .i64 n,.int .i64 i] (HeapC.set h0 mb (.map (mE (Ord.take i)))) c df) fun r=>r.c=c/\r.df=df/\(∃ es,r.h=HeapC.set h0 mb (.map es))/\r.v 0=x1 ∧
  ((r.e = .exit 0/\r.v 1 = .bool false /\ ∀ j,i<=j->j<n -> ¬ badO Ord n j) ∨ (r.e = .ret/\r.v 1 = .bool false /\ ∃ j,j<n/\badO Ord n j)):=by
 intro k
 have om:=OkV.map hmb
 have o2:=(hO.mono hcm).okV
 have hl:Ord.length=n:=by have:=hO.1; omega
 induction k with
 | zero =>
  intro i hi
  obtain rfl:i=n:=by omega
  refine Ans.lpG rfl rfl (Z4n ..) ?_
  unfold Z40
  have fx:=True.intro
  refine Ans.go ?_
  clear fx
  (have fx:=ai o1 (ai om o2); refine Ans.ex0 ?_; clear fx)
  exact ⟨rfl,rfl,⟨_,rfl⟩,rfl,.inl ⟨rfl,rfl,fun j h1 h2=>by omega⟩⟩
 | succ k ih =>
  intro i hi
  have sm:Z0q cm h0 (HeapC.set h0 mb (.map (mE (Ord.take i)))):=fun b hb=>by rw [Z0m,if_neg qO]
  have hO':=hO.same sm
  have hg:HeapC.get (HeapC.set h0 mb (.map (mE (Ord.take i)))) mb=some (.map (mE (Ord.take i))):=get_set_same _ _ _
  have ml:=ZiS (L:=Ord) (i:=i) qO (Ord.getD i 0)
  have look:=ZmH hg (Ord.getD i 0)
  have upd:=mE_upd hg (Ord.getD i 0)
  have hts:Ord.take i++[Ord.getD i 0]=Ord.take (i+1):=by
   rw [List.take_add_one,List.getElem?_eq_getElem qO,List.getD_eq_getElem?_getD,List.getElem?_eq_getElem qO]
   rfl
  rw [hts] at upd
  have hk:=ih (i+1) qO
  have l1:=hO'.rdi i qO qO
  simp only [Int.toNat_natCast] at l1
  rw [Z3A] at l1
  have hb:badO Ord n i ↔ ¬ (0<=Ord.getD i 0/\Ord.getD i 0<n) ∨ Ord.getD i 0 ∈ Ord.take i:=by
   unfold badO
   rw [ml]
  obtain ⟨x,hx⟩:∃ x,Ord.getD i 0=x:=⟨_,rfl⟩
  rw [hx] at l1 look upd hb
  obtain ⟨H,hH⟩:∃ H,HeapC.set h0 mb (.map (mE (Ord.take i)))=H:=⟨_,rfl⟩
  rw [hH] at hO' l1 look upd
  have e2:HeapC.set H mb (.map (mE (Ord.take (i+1))))=HeapC.set h0 mb (.map (mE (Ord.take (i+1)))):=by rw [← hH,set_set]
  rw [hH]
  refine Ans.lpG rfl rfl (Z4n ..) ?_
  unfold Z40
  by_cases h1:0<=x
  · by_cases h2:x<n
    · by_cases h3:x ∈ Ord.take i
      · rw [decide_eq_true h3] at look
        have fx:=ai hO'.ixs1 (ai l1 look)
        refine Ans.go ?_
        clear fx
        (have fx:=ai o1 (ai om o2); refine Ans.rt0 ?_; clear fx)
        exact ⟨rfl,rfl,⟨_,hH.symm⟩,rfl,.inr ⟨rfl,rfl,i,by omega,hb.2 (.inr h3)⟩⟩
      · rw [decide_eq_false h3] at look
        have upd':=upd h3
        have fx:=ai hO'.ixs1 (ai l1 (ai look upd'))
        refine Ans.go ?_
        clear fx
        (have fx:=ai o1 (ai om o2); refine Ans.nxB (B:=HeapC.set H mb (.map (mE (Ord.take (i+1))))) ?_ ?_; exact (Z4C.setm hmb (mE_ok _ _) (Z4C.refl _ _)); clear fx)
        rw [e2]
        refine hk.mono ?_
        rintro r ⟨q1,q2,q3,q4,q5⟩
        refine ⟨q1,q2,q3,q4,q5.imp (fun ⟨a,b,d⟩=>⟨a,b,fun j j1 j2=>?_⟩) id⟩
        by_cases ej:j=i
        · rw [ej,hb]; exact fun q=>q.elim (fun z=>z ⟨h1,h2⟩) h3
        · exact d j qO j2
    · have fx:=ai hO'.ixs1 l1
      refine Ans.go ?_
      clear fx
      (have fx:=ai o1 (ai om o2); refine Ans.rt0 ?_; clear fx)
      exact ⟨rfl,rfl,⟨_,hH.symm⟩,rfl,.inr ⟨rfl,rfl,i,by omega,hb.2 (.inl (fun z=>h2 z.2))⟩⟩
  · have fx:=ai hO'.ixs1 l1
    refine Ans.go ?_
    clear fx
    (have fx:=ai o1 (ai om o2); refine Ans.rt0 ?_; clear fx)
    exact ⟨rfl,rfl,⟨_,hH.symm⟩,rfl,.inr ⟨rfl,rfl,i,by omega,hb.2 (.inl (fun z=>h1 z.1))⟩⟩
theorem Zcg (sp:Value) (b:Nat) (Pm:List Int) (h:FH) (c:Nat) (df:List Nat) (hP:SlI h c sp 4 b Pm) (hb:b<=1000000) :
 ∀ (k i:Nat),i+k=b->Ans (G (Z9N none) [.bool false,sp,.int .i64 b,.int .i64 i] h c df) fun r=>r.h=h/\r.c=c/\r.df=df ∧
  ((r.e = .exit 2 /\ ∀ j,i<=j->j<b->Z0n (Z04 Pm j)=true) ∨ (r.e = .ret/\r.v 0 = .bool false /\ ∃ j,j<b/\Z0n (Z04 Pm j)=false)):=by
 intro k
 have o1:=hP.okV
 induction k with
 | zero =>
  intro i hi
  obtain rfl:i=b:=by omega
  refine Ans.lpG rfl rfl (Z4m ..) ?_
  unfold Z3Z
  have fx:=True.intro
  refine Ans.go ?_
  clear fx
  (have fx:=o1; refine Ans.ex0 ?_; clear fx)
  exact ⟨rfl,rfl,rfl,.inl ⟨rfl,fun j h1 h2=>by omega⟩⟩
 | succ k ih =>
  intro i hi
  have p1:=hP.perm i qO qO
  simp only [Int.toNat_natCast] at p1
  have hx:=Z0B (i:=i) hP.1 qO
  have hst:∀ bb,stN (newB h bb [.int .i64 0,.int .i64 0,.int .i64 0,.int .i64 0]) 4 (.pointer (some ⟨bb,0,none⟩)) (av (Z04 Pm i))=some (newB h bb (ints (Z04 Pm i))):=fun bb=>stN_all _ _ 4 _ _ hx rfl
  have hld:∀ bb,ldN (newB h bb (ints (Z04 Pm i))) 4 (.pointer (some ⟨bb,0,none⟩))=some (av (Z04 Pm i)):=fun bb=>by
   rw [ldN_newB_same _ _ _ _ _ (by simp [hx]),List.drop_zero,Z1y,List.take_of_length_le qO]; rfl
  have cv:=fun h c=>Z0O _ hx h c
  obtain ⟨x,ex⟩:∃ x,Z04 Pm i=x:=⟨_,rfl⟩
  obtain ⟨y,ey⟩:∃ y,Z0n x=y:=⟨_,rfl⟩
  rw [ex] at p1 hst hld cv
  rw [ey] at cv
  refine Ans.lpG rfl rfl (Z4m ..) ?_
  unfold Z3Z
  cases y with
  | true =>
   have fx:=ai hP.ixs (ai p1 (ai hst (ai hld cv)))
   refine Ans.go ?_
   clear fx
   (have fx:=o1; refine Ans.nx0 ?_; clear fx)
   refine (ih (i+1) qO).mono ?_
   rintro r ⟨q1,q2,q3,q4⟩
   refine ⟨q1,q2,q3,q4.imp (fun ⟨a,b⟩=>⟨a,fun j h1 h2=>?_⟩) id⟩
   by_cases ej:j=i
   · rw [ej,ex,ey]
   · exact b j qO h2
  | false =>
   have fx:=ai hP.ixs (ai p1 (ai hst (ai hld cv)))
   refine Ans.go ?_
   clear fx
   (have fx:=o1; refine Ans.rt0 ?_; clear fx)
   exact ⟨rfl,rfl,rfl,.inr ⟨rfl,rfl,i,by omega,by rw [ex,ey]⟩⟩
def rnB (Ord Pm:List Int) (n b:Nat):Bool:=decide (n<=1000) && Z48 Ord Pm n b n
theorem Z3D (so sp:Value) (n b:Nat) (Ord Pm:List Int) (h:FH) (c:Nat) (df:List Nat) (hO:SlI h c so 1 n Ord) (hP:SlI h c sp 4 b Pm) :
 G (.fn 42) [.agg #[so,sp]] h c df=some ⟨.ret,[.bool (rnB Ord Pm n b)],h,c,[]⟩:=by
 refine Z1l (fun r e=>f42_go e) (by simp) ?_
 unfold ZhU
 rw [Z5j hO.flat hP.flat,Z5k]
 simp only [cond_true]
 obtain ⟨H,hH⟩:∃ H,H=newB h (256*c) [so,sp]:=⟨_,rfl⟩
 have sH:Z0q c h H:=by rw [hH]; simp (disch:=omega)
 have g1:Z0a H (256*c) [so,sp]:=by rw [hH]; exact Z0a.newB_same _ _ _
 rw [Nat.add_zero,← hH]
 clear hH
 have a1:ld1 H (.pointer (some ⟨256*c,0,none⟩))=some so:=by rw [Z03 g1]; rfl
 have a2:ld1 H (.pointer (some ⟨256*c,1,none⟩))=some sp:=by rw [Z03 g1]; rfl
 have l1:=hO.len
 have l2:=hP.len
 have hOl:Ord.length=n:=by have:=hO.1; omega
 by_cases hn:n<=1000
 case neg =>
  have fx:=ai a1 l1
  refine Ans.go ?_
  clear fx
  exact Ans.pure (by simp [rnB,hn]) sH
 by_cases hb:b=n
 case neg =>
  have fx:=ai a1 (ai a2 (ai l1 l2))
  refine Ans.go ?_
  clear fx
  exact Ans.pure (by simp [rnB,Z48,hb]) sH
 subst hb
 obtain ⟨mb,hmb⟩:∃ mb,256*(c+1+1+1)=mb:=⟨_,rfl⟩
 obtain ⟨⟨re,rv,rh,rc,rd⟩,hr,r1,r2,⟨es,r3⟩,r4,r5⟩:=ZgU so b Ord (ptrTo (256*c)) H mb (c+1) (c+1+1+1+1+1) [] qO qO qO ((hO.same sH).mono qO) hn (OkV.ptrTo qO) b 0 qO
 simp only at r1 r2 r3 r4 r5
 subst r1 r2 r3
 have hz:mE (Ord.take 0)=[]:=rfl
 rw [hz] at hr
 simp only [Int.ofNat_eq_natCast,Int.cast_ofNat_Int] at hr
 have mm:∀ es,Z0q (c+1) H (HeapC.set H mb (.map es)):=fun es q hq=>by rw [Z0m,if_neg qO]
 have sm:∀ es,Z0q c h (HeapC.set H mb (.map es)):=fun es=>sH.trans ((mm es).mono qO)
 have b1:∀ es,ld1 (HeapC.set H mb (.map es)) (.pointer (some ⟨256*c,0,none⟩))=some so:=fun es=>by rw [Z03 (g1.same qO (mm es))]; rfl
 have b2:∀ es,ld1 (HeapC.set H mb (.map es)) (.pointer (some ⟨256*c,1,none⟩))=some sp:=fun es=>by rw [Z03 (g1.same qO (mm es))]; rfl
 rcases r5 with ⟨rfl,r5,r6⟩ | ⟨rfl,r5,j,r6,r7⟩
 case inr =>
  have fx:=ai a1 (ai a2 (ai l1 (ai l2 (ai hmb (ai b1 hr)))))
  refine Ans.go ?_
  clear fx
  refine Ans.pure ?_ (sm _)
  rw [r5]
  have:rnB Ord Pm b b=false:=by
   rw [Bool.eq_false_iff]
   intro e
   unfold rnB at e
   rw [Bool.and_eq_true] at e
   obtain ⟨-,-,k⟩:=IsoK.of hOl hP.1 e.2
   rcases r7 with r7 | ⟨i,i1,i2⟩
   · exact r7 (k.r j r6)
   · exact k.inj i j i1 r6 (by unfold oA; rw [i2])
  rw [this]
 obtain ⟨⟨re,rv',rh,rc,rd⟩,hr2,q1,q2,q3,q5⟩:=Zcg sp b Pm (HeapC.set H mb (.map es)) (c+1+1+1+1+1+1) [] ((hP.same (sm es)).mono qO) qO b 0 qO
 simp only at q1 q2 q3 q5
 subst q1 q2 q3
 simp only [Int.ofNat_eq_natCast,Int.cast_ofNat_Int] at hr2
 rcases q5 with ⟨rfl,q6⟩ | ⟨rfl,q6,j,q7,q8⟩
 · have fx:=ai a1 (ai a2 (ai l1 (ai l2 (ai hmb (ai b1 (ai b2 (ai hr (ai r4 (ai r5 hr2)))))))))
   refine Ans.go ?_
   clear fx
   refine Ans.pure ?_ (sm _)
   have k:IsoK Ord Pm b:=⟨hOl,hP.1,fun t ht=>by
    by_cases e:0<=Ord.getD t 0/\Ord.getD t 0<b
    · exact e
    · exact absurd (.inl e) (r6 t qO ht),fun t ht=>ZbM (Z0B hP.1 ht) (q6 t qO ht),fun i j hij hj e=>r6 j qO hj (.inr ⟨i,hij,by
      have z1:0<=Ord.getD i 0:=by
       by_cases e:0<=Ord.getD i 0/\Ord.getD i 0<b
       · exact e.1
       · exact absurd (.inl e) (r6 i qO qO)
      have z2:0<=Ord.getD j 0:=by
       by_cases e:0<=Ord.getD j 0/\Ord.getD j 0<b
       · exact e.1
       · exact absurd (.inl e) (r6 j qO hj)
      unfold oA at e
      omega⟩)⟩
   simp [rnB,hn,k.ord]
 · have fx:=ai a1 (ai a2 (ai l1 (ai l2 (ai hmb (ai b1 (ai b2 (ai hr (ai r4 (ai r5 hr2)))))))))
   refine Ans.go ?_
   clear fx
   refine Ans.pure ?_ (sm _)
   rw [q6]
   have:rnB Ord Pm b b=false:=by
    rw [Bool.eq_false_iff]
    intro e
    unfold rnB at e
    rw [Bool.and_eq_true] at e
    obtain ⟨-,-,k⟩:=IsoK.of hOl hP.1 e.2
    have:=Z3m (k.v j q7)
    rw [q8] at this
    cases this
   rw [this]
theorem ZmK (so sp:Value) (a b n:Nat) (Ord Pm:List Int) (h:FH) (c:Nat) (df:List Nat) (hO:SlI h c so 1 a Ord) (hP:SlI h c sp 4 b Pm) (hn:n<=1000000) :
 G (.fn 44) [.agg #[so,sp],.int .i64 n] h c df=some ⟨.ret,[.bool (Z48 Ord Pm a b n)],h,c,[]⟩:=by
 refine Z1l (fun r e=>f44_go e) (by simp) ?_
 unfold Znk
 rw [Z5j hO.flat hP.flat,Z5k]
 simp only [cond_true]
 obtain ⟨H,hH⟩:∃ H,H=newB h (256*c) [so,sp]:=⟨_,rfl⟩
 have sH:Z0q c h H:=by rw [hH]; simp (disch:=omega)
 have g1:Z0a H (256*c) [so,sp]:=by rw [hH]; exact Z0a.newB_same _ _ _
 rw [Nat.add_zero,← hH]
 clear hH
 have a1:ld1 H (.pointer (some ⟨256*c,0,none⟩))=some so:=by rw [Z03 g1]; rfl
 have a2:ld1 H (.pointer (some ⟨256*c,1,none⟩))=some sp:=by rw [Z03 g1]; rfl
 have ci:=Z0j (Z9z so sp a b n Ord Pm H (c+1+1) [] ((hO.same sH).mono qO) ((hP.same sH).mono qO) hn)
 have fx:=ai a1 (ai a2 ci)
 refine Ans.go ?_
 clear fx
 exact Ans.pure rfl sH

def LB (c0:Nat) (h:FH) (c:Nat) (v:Value) (sz n:Nat) (L:List Int):Prop :=
 (v = .slice none 0 0/\n=0/\L=[]) ∨ (0<n/\L.length=n*sz/\n<=9223372036854775807 /\ ∃ i,v = .slice (some ⟨i,0,none⟩) n n/\256*c0<=i/\i<256*c/\h.f i=some (.cells false (some sz) (ints L)))
theorem LB.mono {c0:Nat} {h:FH} {c c':Nat} {v:Value} {sz n:Nat} {L:List Int} (hc:c<=c') (ha:LB c0 h c v sz n L):LB c0 h c' v sz n L:=by
 rcases ha with ha | ⟨a,b,d,i,e,f,g,k⟩
 · exact .inl ha
 · exact .inr ⟨a,b,d,i,e,f,by omega,k⟩
theorem LB.keep {c0:Nat} {h h':FH} {c:Nat} {v:Value} {sz n:Nat} {L:List Int} (ha:LB c0 h c v sz n L) (hh:v ≠ .slice none 0 0->h'.f (Z1u v)=h.f (Z1u v)):LB c0 h' c v sz n L:=by
 rcases ha with ha | ⟨a,b,d,i,rfl,f,g,k⟩
 · exact .inl ha
 · have:=hh (by intro e; cases e)
   rw [blkOf_sl] at this
   exact .inr ⟨a,b,d,i,rfl,f,g,this.trans k⟩
theorem LB.sl {c0:Nat} {h:FH} {c:Nat} {v:Value} {sz n:Nat} {L:List Int} (ha:LB c0 h c v sz n L):SlI h c v sz n L:=by
 rcases ha with ⟨rfl,rfl,rfl⟩ | ⟨a,b,d,i,rfl,f,g,k⟩
 · exact ⟨by simp,by omega,none,0,rfl,.inl ⟨rfl,OkV.sl0 _ _ _⟩⟩
 · refine ⟨b,d,some ⟨i,0,none⟩,n,rfl,.inr ⟨i,0,ints L,rfl,g,⟨false,some sz,k⟩, ?_⟩⟩
   rw [List.drop_zero,List.take_of_length_le (by simp [b])]
theorem LB.blk {c0:Nat} {h:FH} {c:Nat} {v:Value} {sz n:Nat} {L:List Int} (ha:LB c0 h c v sz n L) (hn:v ≠ .slice none 0 0):256*c0<=Z1u v/\Z1u v<256*c:=by
 rcases ha with ⟨rfl,rfl,rfl⟩ | ⟨a,b,d,i,rfl,f,g,k⟩
 · exact absurd rfl hn
 · exact ⟨f,g⟩
theorem LB.nn {c0:Nat} {h:FH} {c:Nat} {v:Value} {sz n:Nat} {L:List Int} (ha:LB c0 h c v sz n L):v ≠ .slice none 0 0 ↔ 0<n:=by
 rcases ha with ⟨rfl,rfl,rfl⟩ | ⟨a,b,d,i,rfl,f,g,k⟩
 · exact ⟨fun h=>absurd rfl h,fun h=>by omega⟩
 · exact ⟨fun _=>a,fun _=>by intro e; cases e⟩
theorem LB.flat {c0:Nat} {h:FH} {c:Nat} {v:Value} {sz n:Nat} {L:List Int} (ha:LB c0 h c v sz n L):Z08 v=true/\v.cells = #[v]:=by
 rcases ha with ⟨rfl,rfl,rfl⟩ | ⟨a,b,d,i,rfl,f,g,k⟩ <;> exact ⟨rfl,rfl⟩
theorem LB.app {c0:Nat} {h:FH} {c c':Nat} {v:Value} {sz n:Nat} {L:List Int} (ha:LB c0 h c v sz n L) (X:List Int) (hX:X.length=sz) (hsz:0<sz) (by' b id:Nat) (hb:256*c<=b) (hid:256*c<=id) (hne:b ≠ id) (hc0:c0<=c)
 (hid':id<256*c') (hlim:(n+1)*(by'+1)<=17592186044416) :
 ∃ h',Z67 (newB h b (ints X)) id sz by' v (.slice (some ⟨b,0,none⟩) 1 1)=some (.slice (some ⟨id,0,none⟩) (n+1) (n+1),h')/\LB c0 h' c' (.slice (some ⟨id,0,none⟩) (n+1) (n+1)) sz (n+1) (L++X)/\(∀ j,j<256*c->(v ≠ .slice none 0 0->j ≠ Z1u v)->h'.f j=h.f j):=by
 have hlim':Nat.ble ((n+1)*(by'+1)) 17592186044416=true:=Nat.ble_eq_true_of_le hlim
 have hsrc:Z0W (newB h b (ints X)) sz (.slice (some ⟨b,0,none⟩) 1 1)=some (ints X,1):=by
  have:Nat.ble (0+1*sz) (ints X).length=true:=Nat.ble_eq_true_of_le (by simp [hX])
  simp only [Z0W,Z17,Z0r,get_newB_same,Option.bind_some,this,cond_true,List.drop_zero]
  rw [List.take_of_length_le (by simp [hX])]
 have hn1:n+1<=17592186044416:=by
  have:(n+1)*1<=(n+1)*(by'+1):=Nat.mul_le_mul_left _ qO
  omega
 have hcap:Nat.ble (n+1) n=false:=by rw [Bool.eq_false_iff]; intro hh; have:=Nat.le_of_ble_eq_true hh; omega
 rcases ha with ⟨rfl,rfl,rfl⟩ | ⟨h0,h1,h2,i,rfl,h3,h4,h5⟩
 · refine ⟨HeapC.set (newB h b (ints X)) id (.cells false (some sz) (ints X)), ?_,.inr ⟨by omega,by simp [hX],by omega,id,rfl,by omega,hid', ?_⟩, ?_⟩
   · simp only [Z67,hsrc,Option.bind_some,appTo,hcap,cond_false,Z3u,hlim',Z4Q,Bool.and_self,cond_true,Nat.beq_refl,Nat.zero_add]
   · rw [Z0m,if_pos rfl]; rfl
   · intro j hj _
     rw [Z0m,if_neg qO,Z0b,if_neg qO]
 · have hbi:i ≠ b:=by omega
   have hg:HeapC.get (newB h b (ints X)) i=some (.cells false (some sz) (ints L)):=by rw [get_newB_ne _ _ _ _ hbi]; exact h5
   have hr:Nat.ble (0+n*sz) (ints L).length=true:=Nat.ble_eq_true_of_le (by simp [h1])
   refine ⟨HeapC.set (HeapC.set (newB h b (ints X)) i .dead) id (.cells false (some sz) (((ints L).drop 0).take (n*sz)++ints X)), ?_,.inr ⟨by omega, ?_,by omega,id,rfl,by omega,hid', ?_⟩, ?_⟩
   · simp only [Z67,hsrc,Option.bind_some,appTo,hcap,cond_false,Z3u,hlim',Z4Q,Bool.and_self,cond_true,Z17,Z0r,hg,hr,Nat.beq_refl,Bool.not_false,Bool.and_true]
   · simp [h1,hX,Nat.succ_mul]
   · rw [Z0m,if_pos rfl,List.drop_zero,List.take_of_length_le (by simp [h1]),Z4d]
   · intro j hj hv
     have:=hv (by intro e; cases e)
     rw [blkOf_sl] at this
     rw [Z0m,if_neg qO,Z0m,if_neg this,Z0b,if_neg qO]
structure CI (c0 c bo:Nat) (h:FH) (v w:Value) (i:Nat) (OL PL:List Int):Prop where
 hf:h.f bo=some (.cells false none [v,w])
 a:LB c0 h c v 1 i OL
 b:LB c0 h c w 4 i PL
 ne:v ≠ .slice none 0 0->Z1u v ≠ Z1u w
 bo:bo<256*c0
theorem CI.mono {c0 c c' bo:Nat} {h:FH} {v w:Value} {i:Nat} {OL PL:List Int} (s:CI c0 c bo h v w i OL PL) (hc:c<=c'):CI c0 c' bo h v w i OL PL:=⟨s.hf,s.a.mono hc,s.b.mono hc,s.ne,s.bo⟩
theorem CI.step {c0 c bo:Nat} {h:FH} {v w:Value} {i:Nat} {OL PL:List Int} (s:CI c0 c bo h v w i OL PL) (x:Int) (q:List Int) (hq:q.length=4) (hi:i<=100000) (hc0:c0<=c) (c1 c2 b1 i1 b2 i2:Nat) (hb1:256*c<=b1) (hi1:256*c<=i1) (hne1:b1 ≠ i1) (hi1':i1<256*c1)
 (hb2:256*c1<=b2) (hi2:256*c1<=i2) (hne2:b2 ≠ i2) (hi2':i2<256*c2) (hcc:c<=c1) :
 ∃ h1 H1 h2 H2,Z67 (newB h b1 (ints [x])) i1 1 8 v (.slice (some ⟨b1,0,none⟩) 1 1)=some (.slice (some ⟨i1,0,none⟩) (i+1) (i+1),h1) ∧
  stN h1 1 (.pointer (some ⟨bo,0,none⟩)) (.slice (some ⟨i1,0,none⟩) (i+1) (i+1))=some H1/\ld1 H1 (.pointer (some ⟨bo,1,none⟩))=some w/\(∀ j,j<256*c0->j ≠ bo->H1.f j=h.f j) ∧
  Z67 (newB H1 b2 (ints q)) i2 4 32 w (.slice (some ⟨b2,0,none⟩) 1 1)=some (.slice (some ⟨i2,0,none⟩) (i+1) (i+1),h2) ∧
  stN h2 1 (.pointer (some ⟨bo,1,none⟩)) (.slice (some ⟨i2,0,none⟩) (i+1) (i+1))=some H2/\(∀ j,j<256*c0->j ≠ bo->H2.f j=h.f j) ∧
  CI c0 c2 bo H2 (.slice (some ⟨i1,0,none⟩) (i+1) (i+1)) (.slice (some ⟨i2,0,none⟩) (i+1) (i+1)) (i+1) (OL++[x]) (PL++q):=by
 obtain ⟨hf,ha,hb,hne,hbo⟩:=s
 obtain ⟨h1,e1,a1,k1⟩:=ha.app (c':=c1) [x] rfl qO 8 b1 i1 hb1 hi1 hne1 hc0 hi1' qO
 have va:∀ j,j<256*c0->v ≠ .slice none 0 0->j ≠ Z1u v:=fun j hj hv=>by have:=(ha.blk hv).1; omega
 have wa:∀ j,j<256*c0->w ≠ .slice none 0 0->j ≠ Z1u w:=fun j hj hv=>by have:=(hb.blk hv).1; omega
 have f1:h1.f bo=some (.cells false none [v,w]):=(k1 bo qO (va bo hbo)).trans hf
 have s1:=Z4F (v:=.slice (some ⟨i1,0,none⟩) (i+1) (i+1)) (o:=0) (show HeapC.get h1 bo=_ from f1) (by simp) a1.flat.2 a1.flat.1
 obtain ⟨H1,hH1⟩:∃ H1,HeapC.set h1 bo (.cells false none [.slice (some ⟨i1,0,none⟩) (i+1) (i+1),w])=H1:=⟨_,rfl⟩
 have s1':stN h1 1 (.pointer (some ⟨bo,0,none⟩)) (.slice (some ⟨i1,0,none⟩) (i+1) (i+1))=some H1:=by rw [s1,← hH1]; rfl
 have F1:H1.f bo=some (.cells false none [.slice (some ⟨i1,0,none⟩) (i+1) (i+1),w]):=by rw [← hH1,Z0m,if_pos rfl]
 have K1:∀ j,j<256*c->j ≠ bo->(v ≠ .slice none 0 0->j ≠ Z1u v)->H1.f j=h.f j:=fun j hj hjb hv=>by rw [← hH1,Z0m,if_neg hjb]; exact k1 j hj hv
 have wne:w ≠ .slice none 0 0->Z1u w ≠ bo:=fun hw=>by have:=(hb.blk hw).1; omega
 have b1':LB c0 H1 c w 4 i PL:=hb.keep fun hw=>K1 _ (hb.blk hw).2 (wne hw) (fun hv=>fun e=>hne hv e.symm)
 have a1':LB c0 H1 c1 (.slice (some ⟨i1,0,none⟩) (i+1) (i+1)) 1 (i+1) (OL++[x]):=a1.keep fun _=>by
  rw [blkOf_sl,← hH1,Z0m,if_neg qO]
 obtain ⟨h2,e2,a2,k2⟩:=(b1'.mono hcc).app (c':=c2) q hq qO 32 b2 i2 hb2 hi2 hne2 qO hi2' qO
 have f2:h2.f bo=some (.cells false none [.slice (some ⟨i1,0,none⟩) (i+1) (i+1),w]):=(k2 bo qO (wa bo hbo)).trans F1
 have s2:=Z4F (v:=.slice (some ⟨i2,0,none⟩) (i+1) (i+1)) (o:=1) (show HeapC.get h2 bo=_ from f2) (by simp) a2.flat.2 a2.flat.1
 obtain ⟨H2,hH2⟩:∃ H2,HeapC.set h2 bo (.cells false none [.slice (some ⟨i1,0,none⟩) (i+1) (i+1),.slice (some ⟨i2,0,none⟩) (i+1) (i+1)])=H2:=⟨_,rfl⟩
 have s2':stN h2 1 (.pointer (some ⟨bo,1,none⟩)) (.slice (some ⟨i2,0,none⟩) (i+1) (i+1))=some H2:=by rw [s2,← hH2]; rfl
 refine ⟨h1,H1,h2,H2,e1,s1', ?_,fun j hj hjb=>K1 j qO hjb (va j hj),e2,s2',fun j hj hjb=>?_,⟨?_, ?_, ?_,fun _=>?_,hbo⟩⟩
 · rw [Z03 (cs:=[.slice (some ⟨i1,0,none⟩) (i+1) (i+1),w]) ⟨false,none,F1⟩]; rfl
 · rw [← hH2,Z0m,if_neg hjb,k2 j qO (wa j hj)]
   exact K1 j qO hjb (va j hj)
 · rw [← hH2,Z0m,if_pos rfl]
 · refine (a1'.mono (c':=c2) qO).keep fun _=>?_
   rw [blkOf_sl,← hH2,Z0m,if_neg qO]
   exact k2 i1 qO (fun hw=>by have:=(hb.blk hw).2; omega)
 · refine a2.keep fun _=>?_
   rw [blkOf_sl,← hH2,Z0m,if_neg qO]
 · rw [blkOf_sl,blkOf_sl]; omega
structure CE (ga gb:Nat) (so sp so' sp':Value) (n:Nat) (A Pa B Pb:List Int) (cm:Nat) (h:FH):Prop where
 ha:Z0a h ga [so,sp]
 hb:Z0a h gb [so',sp']
 la:ga<256*cm
 lb:gb<256*cm
 a:SlI h cm so 1 n A
 pa:SlI h cm sp 4 n Pa
 b:SlI h cm so' 1 n B
 pb:SlI h cm sp' 4 n Pb
theorem CE.same {ga gb:Nat} {so sp so' sp':Value} {n:Nat} {A Pa B Pb:List Int} {cm:Nat} {h h':FH} (e:CE ga gb so sp so' sp' n A Pa B Pb cm h) (s:Z0q cm h h'):CE ga gb so sp so' sp' n A Pa B Pb cm h' :=
 ⟨e.ha.same e.la s,e.hb.same e.lb s,e.la,e.lb,e.a.same s,e.pa.same s,e.b.same s,e.pb.same s⟩
theorem Z1O {h:FH} {b:Nat} {x y v w:Value} (hg:h.f b=some (.cells false none [x,y])) (hv:Z08 v=true) (hw:Z08 w=true) :
 stN h 2 (.pointer (some ⟨b,0,none⟩)) (.agg #[v,w])=some (HeapC.set h b (.cells false none [v,w])):=by
 have hg':HeapC.get h b=some (.cells false none [x,y]):=hg
 have h1:Nat.ble (0+2) [x,y].length=true:=rfl
 simp [stN,Z2a,Value.cells,Z1N,hg',hv,hw]
 rfl
theorem Z0S {h:FH} {b:Nat} {op:Option Nat} {v w:Value} (hg:h.f b=some (.cells false op [v,w])):ldN h 2 (.pointer (some ⟨b,0,none⟩))=some (.agg #[v,w]):=by
 rw [ldN_holds (cs:=[v,w]) ⟨false,op,hg⟩ (by simp)]; rfl
theorem ld2_holds {h:FH} {b:Nat} {v w:Value} (hg:Z0a h b [v,w]):ldN h 2 (.pointer (some ⟨b,0,none⟩))=some (.agg #[v,w]):=by
 rw [ldN_holds hg (by simp)]; rfl

theorem bldL4 (R:List Int) (hR:R.length=4):Z5d [(.int .i64 0),(.int .i64 0),(.int .i64 0),(.int .i64 0)] [(0,4,av R)]=some (ints R):=by
 have h1:Nat.beq (av R).cells.size 4=true:=by simp [hR]
 show cond (Nat.beq (av R).cells.size 4 && Nat.ble (0+4) 4) (some (Z0M _ 0 (av R).cells.toList)) none=_
 rw [h1]
 simp only [Bool.true_and,Z4v]
 show some (Z0M _ 0 (ints R))=_
 unfold Z0M
 rw [List.take_zero,List.nil_append,List.drop_of_length_le (by simp [hR]),List.append_nil]
theorem bldL1 (x:Int):Z5d [(.int .i64 0)] [(0,1,.int .i64 x)]=some (ints [x]):=rfl
theorem Zic (A B:List Int) (i:Nat):cO A B (i+1)=cO A B i++[A.getD (oA B i) 0]:=by simp [cO,List.range_succ]
theorem Zi5 (ga gb bo:Nat) (so sp so' sp' x4:Value) (n:Nat) (A Pa B Pb:List Int) (h0:FH) (cm c0:Nat) (df:List Nat) (e:CE ga gb so sp so' sp' n A Pa B Pb cm h0) (ka:IsoK A Pa n) (kb:IsoK B Pb n) (hn:n<=1000) (hbo:256*cm<=bo) (hcm:cm<=c0) :
 ∀ (k i c:Nat) (H:FH) (v w:Value),i+k=n->c0<=c->Z0q cm h0 H->CI c0 c bo H v w i (cO A B i) (cP B Pa Pb i) →
 Ans (G (Z9M none) [ptrTo ga,ptrTo gb,x4,ptrTo bo,so',.int .i64 n,.int .i64 i] H c df) fun r=>r.e = .exit 0/\r.v 2=x4/\r.v 3=ptrTo bo/\r.df=df/\c<=r.c/\Z0q cm h0 r.h /\ ∃ v w,CI c0 r.c bo r.h v w n (cO A B n) (cP B Pa Pb n):=by
 intro k
 induction k with
 | zero =>
  intro i c H v w hi hc hH s
  obtain rfl:i=n:=by omega
  refine Ans.lpN rfl rfl (Z4l ..) ?_
  unfold Z3X
  have fx:=True.intro
  refine Ans.go ?_
  clear fx
  exact Ans.exitN ⟨rfl,rfl,rfl,rfl,(by show c<=c+1; omega),hH,v,w,s.mono (by show c<=c+1; omega)⟩
 | succ k ih =>
  intro i c H v w hi hc hH s
  have eH:=e.same hH
  have xz:=kb.oa.oz i qO
  have xl:=kb.oa.o i qO
  have pa24:=ka.v (oA B i) xl
  have pb24:=kb.v i qO
  have lq:=Z23 (Z64 pa24 pb24)
  have l1:=eH.b.rdi i qO qO
  simp only [Int.toNat_natCast] at l1
  rw [Z3A,xz] at l1
  have l2:=eH.a.rdi (oA B i:Nat) qO qO
  simp only [Int.toNat_natCast] at l2
  have lv:ld1 H (.pointer (some ⟨bo,0,none⟩))=some v:=by rw [Z03 (cs:=[v,w]) ⟨false,none,s.hf⟩]; rfl
  have la:ld1 H (.pointer (some ⟨ga,0,none⟩))=some so:=by rw [Z03 eH.ha]; rfl
  obtain ⟨h1,H1,h2,H2,e1,e2,e3,e4,e5,e6,e7,e8⟩:=s.step (gi A (oA B i:Nat)) (comp (Z04 Pa (oA B i)) (Z04 Pb i)) lq qO hc (c+1+1+1) (c+1+1+1+1) (256*(c+1+1)+7) (256*(c+1+1)+8) (256*(c+1+1+1)+13) (256*(c+1+1+1)+14) qO qO qO qO qO qO qO qO qO
  have sH1:Z0q cm h0 H1:=fun j hj=>(e4 j qO qO).trans (hH j hj)
  have sH2:Z0q cm h0 H2:=fun j hj=>(e7 j qO qO).trans (hH j hj)
  have eH1:=e.same sH1
  have m1:ld1 H1 (.pointer (some ⟨ga,1,none⟩))=some sp:=by rw [Z03 eH1.ha]; rfl
  have m2:ld1 H1 (.pointer (some ⟨gb,1,none⟩))=some sp':=by rw [Z03 eH1.hb]; rfl
  have p1:=eH1.pa.perm (oA B i:Nat) qO qO
  have p2:=eH1.pb.perm i qO qO
  simp only [Int.toNat_natCast] at p1 p2
  have cc:=Z9m _ _ pa24 pb24 H1
  have bl:=bldL4 _ lq
  have hk:=ih (i+1) (c+1+1+1+1+1) H2 _ _ qO qO sH2 (by
   rw [Zic]
   exact e8.mono qO)
  obtain ⟨q,hq⟩:∃ q,comp (Z04 Pa (oA B i)) (Z04 Pb i)=q:=⟨_,rfl⟩
  rw [hq] at e5 cc bl
  obtain ⟨X,hX⟩:∃ X,gi A (oA B i:Nat)=X:=⟨_,rfl⟩
  rw [hX] at l2 e1
  have bl1:=bldL1 X
  obtain ⟨y,hy⟩:∃ y,oA B i=y:=⟨_,rfl⟩
  rw [hy] at l1 l2 p1 xl cc
  refine Ans.lpN rfl rfl (Z4l ..) ?_
  unfold Z3X
  have fx:=ai eH.b.ixs1 (ai l1 (ai lv (ai la (ai eH.a.ixs1 (ai l2 (ai bl1 (ai e1 (ai e2 (ai e3 (ai m1 (ai m2 (ai eH1.pa.ixs (ai eH1.pb.ixs (ai p1 (ai p2 (ai cc (ai bl (ai e5 (ai e6 sameB_self)))))))))))))))))))
  refine Ans.go ?_
  clear fx
  refine Ans.nextN ?_
  refine hk.mono ?_
  rintro r ⟨q1,q2,q3,q4,q5,q6⟩
  exact ⟨q1,q2,q3,q4,by omega,q6⟩
def Z7R (h:FH) (c0 c:Nat) (v w:Value) (n:Nat) (O P:List Int):Prop:=SlI h c v 1 n O/\SlI h c w 4 n P/\(0<n->256*c0<=Z1u v/\256*c0<=Z1u w)
theorem CI.iso {c0 c bo:Nat} {h:FH} {v w:Value} {i:Nat} {OL PL:List Int} (s:CI c0 c bo h v w i OL PL):Z7R h c0 c v w i OL PL :=
 ⟨s.a.sl,s.b.sl,fun hi=>⟨(s.a.blk (s.a.nn.2 hi)).1,(s.b.blk (s.b.nn.2 hi)).1⟩⟩
theorem Z7R.mono {h:FH} {c0 c c0' c':Nat} {v w:Value} {n:Nat} {O P:List Int} (a:Z7R h c0 c v w n O P) (h0:c0'<=c0) (hc:c<=c'):Z7R h c0' c' v w n O P :=
 ⟨a.1.mono hc,a.2.1.mono hc,fun hn=>by have:=a.2.2 hn; omega⟩
theorem Z7R.keep {h h':FH} {c0 c:Nat} {v w:Value} {n:Nat} {O P:List Int} (a:Z7R h c0 c v w n O P) (hh:∀ j,256*c0<=j->j<256*c->h'.f j=h.f j):Z7R h' c0 c v w n O P :=
 ⟨a.1.keep fun hn=>hh _ (a.2.2 hn).1 (a.1.blk hn),a.2.1.keep fun hn=>hh _ (a.2.2 hn).2 (a.2.1.blk hn),a.2.2⟩
theorem Z7R.flat {h:FH} {c0 c:Nat} {v w:Value} {n:Nat} {O P:List Int} (a:Z7R h c0 c v w n O P):Z08 v=true/\Z08 w=true:=⟨a.1.flat,a.2.1.flat⟩
theorem Z7R.nil (h:FH) (c0 c:Nat):Z7R h c0 c (.slice none 0 0) (.slice none 0 0) 0 [] []:=⟨SlI.nil _ _ _,SlI.nil _ _ _,fun h=>by omega⟩
theorem Zd9 (so sp so' sp':Value) (n:Nat) (A Pa B Pb:List Int) (h:FH) (c:Nat) (df:List Nat) (h1:SlI h c so 1 n A) (h2:SlI h c sp 4 n Pa) (h3:SlI h c so' 1 n B) (h4:SlI h c sp' 4 n Pb) (ka:IsoK A Pa n) (kb:IsoK B Pb n) (hn:n<=1000) :
 Ans (G (.fn 43) [.agg #[so,sp],.agg #[so',sp']] h c df) fun r=>∃ v w,r=⟨.ret,[.agg #[v,w]],r.h,r.c,[]⟩/\c<=r.c/\Z0q c h r.h/\Z7R r.h (c+1) r.c v w n (cO A B n) (cP B Pa Pb n):=by
 refine Ans.call' (fun r e=>f43_go e) ?_
 unfold ZhT
 rw [Z5j h1.flat h2.flat,Z5j h3.flat h4.flat,Z5k,Z5k]
 simp only [cond_true,Nat.add_zero]
 obtain ⟨H,hH⟩:∃ H,H=newB (newB (newB (newB h (256*c) [so,sp]) (256*c+1) [so',sp']) (256*c+2) [.slice none 0 0,.slice none 0 0]) (256*(c+1)) [.slice none 0 0,.slice none 0 0]:=⟨_,rfl⟩
 have sH:Z0q c h H:=by rw [hH]; simp (disch:=omega)
 have g1:Z0a H (256*c) [so,sp]:=by rw [hH]; exact ((((Z0a.newB_same _ _ _).newB_ne qO).newB_ne qO).newB_ne qO)
 have g2:Z0a H (256*c+1) [so',sp']:=by rw [hH]; exact (((Z0a.newB_same _ _ _).newB_ne qO).newB_ne qO)
 have f3:H.f (256*c+2)=some (.cells false none [.slice none 0 0,.slice none 0 0]):=by rw [hH,Z0b,if_neg qO,Z0b,if_pos rfl]
 have f4:H.f (256*(c+1))=some (.cells false none [.slice none 0 0,.slice none 0 0]):=by rw [hH,Z0b,if_pos rfl]
 rw [← hH]
 clear hH
 have e:CE (256*c) (256*c+1) so sp so' sp' n A Pa B Pb (c+1) H:=⟨g1,g2,by omega,by omega,(h1.same sH).mono qO,(h2.same sH).mono qO,(h3.same sH).mono qO,(h4.same sH).mono qO⟩
 have l1:ld1 H (.pointer (some ⟨256*c+1,0,none⟩))=some so':=by rw [Z03 g2]; rfl
 have l2:=h3.len
 obtain ⟨⟨re,rv,K,k,rd⟩,hr,r1,r2,r3,r4,r5,r6,v,w,s⟩:=Zi5 (256*c) (256*c+1) (256*(c+1)) so sp so' sp' (ptrTo (256*c+2)) n A Pa B Pb H (c+1) (c+1+1+1) [] e ka kb hn qO qO n 0 (c+1+1+1) H (.slice none 0 0) (.slice none 0 0) qO qO (fun _ _=>rfl)
  ⟨f4,.inl ⟨rfl,rfl,rfl⟩,.inl ⟨rfl,rfl,rfl⟩,fun h=>absurd rfl h,by omega⟩
 simp only at r1 r2 r3 r4 r5 r6 s
 subst r1 r4
 simp only [Int.ofNat_eq_natCast,Int.cast_ofNat_Int] at hr
 have t1:=Z0S s.hf
 have f5:K.f (256*c+2)=some (.cells false none [.slice none 0 0,.slice none 0 0]):=(r6 _ qO).trans f3
 have hfl:=s.iso.flat
 have t2:=Z1O f5 hfl.1 hfl.2
 have t3:=Z0S (h:=HeapC.set K (256*c+2) (.cells false none [v,w])) (b:=256*c+2) (op:=none) (v:=v) (w:=w) (by rw [Z0m,if_pos rfl])
 have fx:=ai l1 (ai l2 (ai hr (ai r2 (ai r3 (ai t1 (ai t2 t3))))))
 refine Ans.go ?_
 clear fx
 refine .done ⟨v,w,rfl,(by show c<=k+1; omega),fun j hj=>?_, ?_⟩
 · show (HeapC.set K (256*c+2) (.cells false none [v,w])).f j=h.f j
   rw [Z0m,if_neg qO,r6 j qO]
   exact sH j hj
 · refine (s.iso.keep fun j hj _=>?_).mono qO (by show k<=k+1; omega)
   rw [Z0m,if_neg qO]

def Zio (g:FuncId) (args:List Value) (h:FH) (c:Nat) (e:Int) (k:Nat) (O P:List Int):Prop :=
 ∃ v w h' c',callF G g args h c=some (.tuple #[.agg #[v,w],.int .i64 e],h',c')/\c<=c'/\Z0q c h h'/\Z7R h' c c' v w k O P
theorem Zio.of {g:FuncId} {args:List Value} {h:FH} {c:Nat} {e:Int} {k:Nat} {O P:List Int} (a:Ans (G (.fn g) args h c []) fun r=>∃ v w,r=⟨.ret,[.tuple #[.agg #[v,w],.int .i64 e]],r.h,r.c,[]⟩/\c<=r.c/\Z0q c h r.h/\Z7R r.h c r.c v w k O P) :
 Zio g args h c e k O P:=by
 obtain ⟨⟨re,rv,H,k,rd⟩,hr,v,w,q1,q2,q3,q4⟩:=a
 simp only [Rt.mk.injEq] at q1
 obtain ⟨rfl,rfl,-,-,rfl⟩:=q1
 exact ⟨v,w,H,k,Z0j hr,q2,q3,q4⟩
theorem Zgt (ga gb bo:Nat) (so sp so' sp' x4:Value) (n:Nat) (A Pa B Pb:List Int) (h0:FH) (cm c0:Nat) (df:List Nat) (e:CE ga gb so sp so' sp' n A Pa B Pb cm h0) (ka:IsoK A Pa n) (kb:IsoK B Pb n) (hn:n<=1000) (hbo:256*cm<=bo) (hcm:cm<=c0) :
 ∀ (k i c:Nat) (H:FH) (v w:Value),i+k=n->c0<=c->Z0q cm h0 H->CI c0 c bo H v w i (cO A B i) (cP B Pa Pb i) →
 Ans (G (Za1 none) [ptrTo ga,ptrTo gb,x4,.int .i64 n,ptrTo bo,.int .i64 i] H c df) fun r=>r.e = .exit 0/\r.v 2=x4/\r.v 4=ptrTo bo/\r.df=df/\c<=r.c/\Z0q cm h0 r.h /\ ∃ v w,CI c0 r.c bo r.h v w n (cO A B n) (cP B Pa Pb n):=by
 intro k
 induction k with
 | zero =>
  intro i c H v w hi hc hH s
  obtain rfl:i=n:=by omega
  refine Ans.lpN rfl rfl (Z61 ..) ?_
  unfold Z7k
  have fx:=True.intro
  refine Ans.go ?_
  clear fx
  exact Ans.exitN ⟨rfl,rfl,rfl,rfl,(by show c<=c+1; omega),hH,v,w,s.mono (by show c<=c+1; omega)⟩
 | succ k ih =>
  intro i c H v w hi hc hH s
  have eH:=e.same hH
  have xz:=kb.oa.oz i qO
  have xl:=kb.oa.o i qO
  have pa24:=ka.v (oA B i) xl
  have pb24:=kb.v i qO
  have lq:=Z23 (Z64 pa24 pb24)
  have l1:=eH.b.rdi i qO qO
  simp only [Int.toNat_natCast] at l1
  rw [Z3A,xz] at l1
  have l2:=eH.a.rdi (oA B i:Nat) qO qO
  simp only [Int.toNat_natCast] at l2
  have lv:ld1 H (.pointer (some ⟨bo,0,none⟩))=some v:=by rw [Z03 (cs:=[v,w]) ⟨false,none,s.hf⟩]; rfl
  have la:ld1 H (.pointer (some ⟨ga,0,none⟩))=some so:=by rw [Z03 eH.ha]; rfl
  have lb:ld1 H (.pointer (some ⟨gb,0,none⟩))=some so':=by rw [Z03 eH.hb]; rfl
  obtain ⟨h1,H1,h2,H2,e1,e2,e3,e4,e5,e6,e7,e8⟩:=s.step (gi A (oA B i:Nat)) (comp (Z04 Pa (oA B i)) (Z04 Pb i)) lq qO hc (c+1+1) (c+1+1+1) (256*(c+1)+11) (256*(c+1)+12) (256*(c+1+1)+17) (256*(c+1+1)+18) qO qO qO qO qO qO qO qO qO
  have sH1:Z0q cm h0 H1:=fun j hj=>(e4 j qO qO).trans (hH j hj)
  have sH2:Z0q cm h0 H2:=fun j hj=>(e7 j qO qO).trans (hH j hj)
  have eH1:=e.same sH1
  have m1:ld1 H1 (.pointer (some ⟨ga,1,none⟩))=some sp:=by rw [Z03 eH1.ha]; rfl
  have m2:ld1 H1 (.pointer (some ⟨gb,1,none⟩))=some sp':=by rw [Z03 eH1.hb]; rfl
  have m3:ld1 H1 (.pointer (some ⟨gb,0,none⟩))=some so':=by rw [Z03 eH1.hb]; rfl
  have l3:=eH1.b.rdi i qO qO
  simp only [Int.toNat_natCast] at l3
  rw [Z3A,xz] at l3
  have p1:=eH1.pa.perm (oA B i:Nat) qO qO
  have p2:=eH1.pb.perm i qO qO
  simp only [Int.toNat_natCast] at p1 p2
  have cc:=Z3I _ _ pa24 pb24 H1
  have bl:=bldL4 _ lq
  have hk:=ih (i+1) (c+1+1+1+1) H2 _ _ qO qO sH2 (by
   rw [Zic]
   exact e8.mono qO)
  obtain ⟨q,hq⟩:∃ q,comp (Z04 Pa (oA B i)) (Z04 Pb i)=q:=⟨_,rfl⟩
  rw [hq] at e5 cc bl
  obtain ⟨X,hX⟩:∃ X,gi A (oA B i:Nat)=X:=⟨_,rfl⟩
  rw [hX] at l2 e1
  have bl1:=bldL1 X
  obtain ⟨y,hy⟩:∃ y,oA B i=y:=⟨_,rfl⟩
  rw [hy] at l1 l2 l3 p1 xl cc
  refine Ans.lpN rfl rfl (Z61 ..) ?_
  unfold Z7k
  have fx:=ai eH.b.ixs1 (ai l1 (ai lv (ai la (ai lb (ai eH.a.ixs1 (ai l2 (ai bl1 (ai e1 (ai e2 (ai e3 (ai m1 (ai m2 (ai m3 (ai l3 (ai eH1.b.ixs1 (ai eH1.pa.ixs (ai eH1.pb.ixs (ai p1 (ai p2 (ai cc (ai bl (ai e5 (ai e6 sameB_self)))))))))))))))))))))))
  refine Ans.go ?_
  clear fx
  refine Ans.nextN ?_
  refine hk.mono ?_
  rintro r ⟨q1,q2,q3,q4,q5,q6⟩
  exact ⟨q1,q2,q3,q4,by omega,q6⟩
def cB (A Pa B Pb:List Int) (na pa nb pb:Nat):Bool:=decide (na<=1000) && Z48 A Pa na pa na && Z48 B Pb nb pb na
theorem cB_eq (A Pa B Pb:List Int) (na pa nb pb:Nat):(rnB A Pa na pa && rnB B Pb nb pb && decide (na=nb))=cB A Pa B Pb na pa nb pb:=by
 unfold cB rnB
 by_cases e:na=nb
 · subst e
   rw [decide_eq_true (rfl:na=na)]
   cases decide (na<=1000) <;> cases Z48 A Pa na pa na <;> cases Z48 B Pb na pb na <;> rfl
 · have:Z48 B Pb nb pb na=false:=by
    unfold Z48
    rw [decide_eq_false (fun q=>e q.symm)]
    rfl
   rw [this,decide_eq_false e,Bool.and_false,Bool.and_false]
set_option maxHeartbeats 1000000 in
theorem Zgs (so sp so' sp':Value) (na pa nb pb:Nat) (A Pa B Pb:List Int) (h:FH) (c:Nat) (h1:SlI h c so 1 na A) (h2:SlI h c sp 4 pa Pa) (h3:SlI h c so' 1 nb B) (h4:SlI h c sp' 4 pb Pb) :
 Zio 17 [.agg #[so,sp],.agg #[so',sp']] h c (if cB A Pa B Pb na pa nb pb=true then 0 else 1) (if cB A Pa B Pb na pa nb pb=true then na else 0) (if cB A Pa B Pb na pa nb pb=true then cO A B na else []) (if cB A Pa B Pb na pa nb pb=true then cP B Pa Pb na else []):=by
 refine Zio.of (Ans.call' (fun r e=>f17_go e) ?_)
 unfold Znz
 rw [Z5j h1.flat h2.flat,Z5j h3.flat h4.flat,Z5k,Z5k]
 simp only [cond_true,Nat.add_zero]
 obtain ⟨H,hH⟩:∃ H,H=newB (newB (newB h (256*c) [so,sp]) (256*c+1) [so',sp']) (256*c+2) [.slice none 0 0,.slice none 0 0]:=⟨_,rfl⟩
 have sH:Z0q c h H:=by rw [hH]; simp (disch:=omega)
 have g1:Z0a H (256*c) [so,sp]:=by rw [hH]; exact (((Z0a.newB_same _ _ _).newB_ne qO).newB_ne qO)
 have g2:Z0a H (256*c+1) [so',sp']:=by rw [hH]; exact ((Z0a.newB_same _ _ _).newB_ne qO)
 have f3:H.f (256*c+2)=some (.cells false none [.slice none 0 0,.slice none 0 0]):=by rw [hH,Z0b,if_pos rfl]
 rw [← hH]
 clear hH
 have l0:ld1 H (.pointer (some ⟨256*c,0,none⟩))=some so:=by rw [Z03 g1]; rfl
 have l1:=h1.len
 have q1:=ld2_holds g1
 have q2:=ld2_holds g2
 have hz:Z1v [.slice none 0 0,.slice none 0 0] []=some (.agg #[.slice none 0 0,.slice none 0 0]):=rfl
 have z1:=Z1O f3 (v:=.slice none 0 0) (w:=.slice none 0 0) rfl rfl
 have z2:=Z0S (h:=HeapC.set H (256*c+2) (.cells false none [.slice none 0 0,.slice none 0 0])) (b:=256*c+2) (op:=none) (v:=.slice none 0 0) (w:=.slice none 0 0) (by rw [Z0m,if_pos rfl])
 have bad:∀ k,c<=k->cB A Pa B Pb na pa nb pb=false -> ∃ v w,(⟨.ret,[.tuple #[.agg #[.slice none 0 0,.slice none 0 0],.int .i64 1]],HeapC.set H (256*c+2) (.cells false none [.slice none 0 0,.slice none 0 0]),k,[]⟩:Rt FH)=⟨.ret,[.tuple #[.agg #[v,w],.int .i64 (if cB A Pa B Pb na pa nb pb=true then 0 else 1)]],HeapC.set H (256*c+2) (.cells false none [.slice none 0 0,.slice none 0 0]),k,[]⟩/\c<=k/\Z0q c h (HeapC.set H (256*c+2) (.cells false none [.slice none 0 0,.slice none 0 0]))/\Z7R (HeapC.set H (256*c+2) (.cells false none [.slice none 0 0,.slice none 0 0])) c k v w (if cB A Pa B Pb na pa nb pb=true then na else 0) (if cB A Pa B Pb na pa nb pb=true then cO A B na else []) (if cB A Pa B Pb na pa nb pb=true then cP B Pa Pb na else []):=fun k hk e=>by
  rw [e]
  simp only [Bool.false_eq_true,if_false]
  exact ⟨_,_,rfl,hk,sH.set qO,Z7R.nil _ _ _⟩
 by_cases hn:na<=1000
 case neg =>
  have e:cB A Pa B Pb na pa nb pb=false:=by simp [cB,hn]
  have fx:=ai l0 (ai l1 (ai hz (ai z1 z2)))
  refine Ans.go ?_
  clear fx
  exact .done (bad _ qO e)
 have i1:=Z0j (ZmK so sp na pa na A Pa H (c+1+1+1) [] ((h1.same sH).mono qO) ((h2.same sH).mono qO) qO)
 have i2:=Z0j (ZmK so' sp' nb pb na B Pb H (c+1+1+1) [] ((h3.same sH).mono qO) ((h4.same sH).mono qO) qO)
 cases ea:Z48 A Pa na pa na with
 | false =>
  have e:cB A Pa B Pb na pa nb pb=false:=by simp [cB,ea]
  rw [ea] at i1
  have fx:=ai l0 (ai l1 (ai q1 (ai i1 (ai hz (ai z1 z2)))))
  refine Ans.go ?_
  clear fx
  exact .done (bad _ qO e)
 | true =>
 cases eb:Z48 B Pb nb pb na with
 | false =>
  have e:cB A Pa B Pb na pa nb pb=false:=by simp [cB,eb]
  rw [ea] at i1
  rw [eb] at i2
  have fx:=ai l0 (ai l1 (ai q1 (ai q2 (ai i1 (ai i2 (ai hz (ai z1 z2)))))))
  refine Ans.go ?_
  clear fx
  exact .done (bad _ qO e)
 | true =>
 have e:cB A Pa B Pb na pa nb pb=true:=by simp [cB,ea,eb,hn]
 rw [ea] at i1
 rw [eb] at i2
 clear bad
 have hA:A.length=na:=by have:=h1.1; omega
 have hB:B.length=nb:=by have:=h3.1; omega
 obtain ⟨-,rfl,ka⟩:=IsoK.of hA h2.1 ea
 obtain ⟨rfl,rfl,kb⟩:=IsoK.of hB h4.1 eb
 rw [e]
 simp only [if_true]
 obtain ⟨bo,hbo⟩:∃ bo,256*(c+1+1+1)+1=bo:=⟨_,rfl⟩
 obtain ⟨M,hM⟩:∃ M,HeapC.set (newB H bo [.slice none 0 0,.slice none 0 0]) bo (.cells false none [.slice none 0 0,.slice none 0 0])=M:=⟨_,rfl⟩
 have z3:stN (newB H bo [.slice none 0 0,.slice none 0 0]) 2 (.pointer (some ⟨bo,0,none⟩)) (.agg #[.slice none 0 0,.slice none 0 0])=some M:=by
  rw [Z1O (by rw [Z0b,if_pos rfl]) rfl rfl,hM]
 have tM:Z0q (c+1) H M:=fun j hj=>by rw [← hM,Z0m,if_neg qO,Z0b,if_neg qO]
 have fM:M.f bo=some (.cells false none [.slice none 0 0,.slice none 0 0]):=by rw [← hM,Z0m,if_pos rfl]
 have sM:Z0q c h M:=sH.trans (tM.mono qO)
 have ce:CE (256*c) (256*c+1) so sp so' sp' pb A Pa B Pb (c+1) M:=⟨g1.same qO tM,g2.same qO tM,by omega,by omega,(h1.same sM).mono qO,(h2.same sM).mono qO,(h3.same sM).mono qO,(h4.same sM).mono qO⟩
 obtain ⟨⟨re,rv,K,k,rd⟩,hr,r1,r2,r3,r4,r5,r6,v,w,s⟩:=Zgt (256*c) (256*c+1) bo so sp so' sp' (ptrTo (256*c+2)) pb A Pa B Pb M (c+1) (c+1+1+1+1+1) [] ce ka kb hn qO qO pb 0 (c+1+1+1+1+1) M (.slice none 0 0) (.slice none 0 0) qO qO (fun _ _=>rfl)
  ⟨fM,.inl ⟨rfl,rfl,rfl⟩,.inl ⟨rfl,rfl,rfl⟩,fun h=>absurd rfl h,by omega⟩
 simp only at r1 r2 r3 r4 r5 r6 s
 subst r1 r4
 simp only [Int.ofNat_eq_natCast,Int.cast_ofNat_Int] at hr
 have t1:=Z0S s.hf
 have f5:K.f (256*c+2)=some (.cells false none [.slice none 0 0,.slice none 0 0]):=(r6 _ qO).trans ((tM _ qO).trans f3)
 have hfl:=s.iso.flat
 have t2:=Z1O f5 hfl.1 hfl.2
 have t3:=Z0S (h:=HeapC.set K (256*c+2) (.cells false none [v,w])) (b:=256*c+2) (op:=none) (v:=v) (w:=w) (by rw [Z0m,if_pos rfl])
 have fx:=ai l0 (ai l1 (ai q1 (ai q2 (ai i1 (ai i2 (ai hz (ai hbo (ai z3 (ai hr (ai r2 (ai r3 (ai t1 (ai t2 t3)))))))))))))
 refine Ans.go ?_
 clear fx
 refine .done ⟨v,w,rfl,(by show c<=k+1; omega),fun j hj=>?_, ?_⟩
 · show (HeapC.set K (256*c+2) (.cells false none [v,w])).f j=h.f j
   rw [Z0m,if_neg qO,r6 j qO]
   exact sM j hj
 · refine (s.iso.keep fun j hj _=>?_).mono qO (by show k<=k+1; omega)
   rw [Z0m,if_neg qO]

set_option maxRecDepth 100000
set_option maxHeartbeats 1000000 in
theorem Z5c (so sp so' sp':Value) (na pa nb pb:Nat) (A Pa B Pb:List Int) (h:FH) (c:Nat) (h1:SlI h c so 1 na A) (h2:SlI h c sp 4 pa Pa) (h3:SlI h c so' 1 nb B) (h4:SlI h c sp' 4 pb Pb) :
 Zio 16 [.agg #[so,sp],.agg #[so',sp']] h c (if cB A Pa B Pb na pa nb pb=true then 0 else 1) (if cB A Pa B Pb na pa nb pb=true then na else 0) (if cB A Pa B Pb na pa nb pb=true then cO A B na else []) (if cB A Pa B Pb na pa nb pb=true then cP B Pa Pb na else []):=by
 refine Zio.of (Ans.call' (fun r e=>f16_go e) ?_)
 unfold Zi1
 rw [Z5j h1.flat h2.flat,Z5j h3.flat h4.flat,Z5k,Z5k]
 simp only [cond_true,Nat.add_zero]
 obtain ⟨H,hH⟩:∃ H,H=newB (newB (newB h (256*c) [so,sp]) (256*c+1) [so',sp']) (256*c+2) [.slice none 0 0,.slice none 0 0]:=⟨_,rfl⟩
 have sH:Z0q c h H:=by rw [hH]; simp (disch:=omega)
 have g1:Z0a H (256*c) [so,sp]:=by rw [hH]; exact (((Z0a.newB_same _ _ _).newB_ne qO).newB_ne qO)
 have g2:Z0a H (256*c+1) [so',sp']:=by rw [hH]; exact ((Z0a.newB_same _ _ _).newB_ne qO)
 have f3:H.f (256*c+2)=some (.cells false none [.slice none 0 0,.slice none 0 0]):=by rw [hH,Z0b,if_pos rfl]
 rw [← hH]
 clear hH
 have l0:ld1 H (.pointer (some ⟨256*c,0,none⟩))=some so:=by rw [Z03 g1]; rfl
 have m0:ld1 H (.pointer (some ⟨256*c+1,0,none⟩))=some so':=by rw [Z03 g2]; rfl
 have l1:=h1.len
 have m1:=h3.len
 have q1:=ld2_holds g1
 have q2:=ld2_holds g2
 have hz:Z1v [.slice none 0 0,.slice none 0 0] []=some (.agg #[.slice none 0 0,.slice none 0 0]):=rfl
 have z1:=Z1O f3 (v:=.slice none 0 0) (w:=.slice none 0 0) rfl rfl
 have z2:=Z0S (h:=HeapC.set H (256*c+2) (.cells false none [.slice none 0 0,.slice none 0 0])) (b:=256*c+2) (op:=none) (v:=.slice none 0 0) (w:=.slice none 0 0) (by rw [Z0m,if_pos rfl])
 have bad:∀ k,c<=k->cB A Pa B Pb na pa nb pb=false -> ∃ v w,(⟨.ret,[.tuple #[.agg #[.slice none 0 0,.slice none 0 0],.int .i64 1]],HeapC.set H (256*c+2) (.cells false none [.slice none 0 0,.slice none 0 0]),k,[]⟩:Rt FH)=⟨.ret,[.tuple #[.agg #[v,w],.int .i64 (if cB A Pa B Pb na pa nb pb=true then 0 else 1)]],HeapC.set H (256*c+2) (.cells false none [.slice none 0 0,.slice none 0 0]),k,[]⟩/\c<=k/\Z0q c h (HeapC.set H (256*c+2) (.cells false none [.slice none 0 0,.slice none 0 0]))/\Z7R (HeapC.set H (256*c+2) (.cells false none [.slice none 0 0,.slice none 0 0])) c k v w (if cB A Pa B Pb na pa nb pb=true then na else 0) (if cB A Pa B Pb na pa nb pb=true then cO A B na else []) (if cB A Pa B Pb na pa nb pb=true then cP B Pa Pb na else []):=fun k hk e=>by
  rw [e]
  simp only [Bool.false_eq_true,if_false]
  exact ⟨_,_,rfl,hk,sH.set qO,Z7R.nil _ _ _⟩
 have i1:=Z0j (Z3D so sp na pa A Pa H (c+1+1) [] ((h1.same sH).mono qO) ((h2.same sH).mono qO))
 have i2:=Z0j (Z3D so' sp' nb pb B Pb H (c+1+1) [] ((h3.same sH).mono qO) ((h4.same sH).mono qO))
 have ec:=cB_eq A Pa B Pb na pa nb pb
 cases ea:rnB A Pa na pa with
 | false =>
  have e:cB A Pa B Pb na pa nb pb=false:=by rw [← ec,ea]; rfl
  rw [ea] at i1
  have fx:=ai q1 (ai i1 (ai hz (ai z1 z2)))
  refine Ans.go ?_
  clear fx
  exact .done (bad _ qO e)
 | true =>
 cases eb:rnB B Pb nb pb with
 | false =>
  have e:cB A Pa B Pb na pa nb pb=false:=by rw [← ec,eb,Bool.and_false,Bool.false_and]
  rw [ea] at i1
  rw [eb] at i2
  have fx:=ai q1 (ai q2 (ai i1 (ai i2 (ai hz (ai z1 z2)))))
  refine Ans.go ?_
  clear fx
  exact .done (bad _ qO e)
 | true =>
 rw [ea] at i1
 rw [eb] at i2
 by_cases en:na=nb
 case neg =>
  have e:cB A Pa B Pb na pa nb pb=false:=by rw [← ec,decide_eq_false en,Bool.and_false]
  have fx:=ai l0 (ai l1 (ai m0 (ai m1 (ai q1 (ai q2 (ai i1 (ai i2 (ai hz (ai z1 z2)))))))))
  refine Ans.go ?_
  clear fx
  exact .done (bad _ qO e)
 have e:cB A Pa B Pb na pa nb pb=true:=by rw [← ec,ea,eb,decide_eq_true en]; rfl
 clear bad
 unfold rnB at ea eb
 rw [Bool.and_eq_true,decide_eq_true_eq] at ea eb
 have hA:A.length=na:=by have:=h1.1; omega
 have hB:B.length=nb:=by have:=h3.1; omega
 obtain ⟨-,ep,ka⟩:=IsoK.of hA h2.1 ea.2
 obtain ⟨-,ep',kb⟩:=IsoK.of hB h4.1 eb.2
 rw [e]
 simp only [if_true]
 subst en
 subst ep
 subst ep'
 obtain ⟨⟨re,rv,K,k,rd⟩,hr,v,w,r1,r2,r3,r4⟩:=Zd9 so sp so' sp' pb A Pa B Pb H (c+1+1+1) [] ((h1.same sH).mono qO) ((h2.same sH).mono qO) ((h3.same sH).mono qO) ((h4.same sH).mono qO) ka kb ea.1
 simp only [Rt.mk.injEq] at r1
 obtain ⟨rfl,rfl,-,-,rfl⟩:=r1
 simp only at r2 r3 r4
 have ci:=Z0j hr
 have f5:K.f (256*c+2)=some (.cells false none [.slice none 0 0,.slice none 0 0]):=(r3 _ qO).trans f3
 have hfl:=r4.flat
 have t2:=Z1O f5 hfl.1 hfl.2
 have t3:=Z0S (h:=HeapC.set K (256*c+2) (.cells false none [v,w])) (b:=256*c+2) (op:=none) (v:=v) (w:=w) (by rw [Z0m,if_pos rfl])
 have fx:=ai l0 (ai l1 (ai m0 (ai m1 (ai q1 (ai q2 (ai i1 (ai i2 (ai ci (ai t2 t3)))))))))
 refine Ans.go ?_
 clear fx
 refine .done ⟨v,w,rfl,(by show c<=k; omega),fun j hj=>?_, ?_⟩
 · show (HeapC.set K (256*c+2) (.cells false none [v,w])).f j=h.f j
   rw [Z0m,if_neg qO,r3 j qO]
   exact sH j hj
 · refine (r4.keep fun j hj _=>?_).mono qO (Nat.le_refl _)
   rw [Z0m,if_neg qO]
end Go.Proofs.Ytemkjcpfgmbibaa
