/- Parts of a proof: AbJn B6 B10 U13 B11 AbCount V5 V6 V7 X1 B12 B13 H6 H7 W1 W2 W3 W4 W5 W6 W7. Conditions: none. -/
import Derived.Test.YtcnndelmnobigaaM21
import Derived.Test.YtcnndelmnobigaaM22
import Derived.Test.YtcnndelmnobigaaM18
set_option linter.all false
set_option maxRecDepth 100000
namespace Go.Ab
open Go
def jn:List (Nat × Nat)->List Int->List Int
 | [],L=>L
 | p::D,L=>jn D (Z1P L p.1 p.2)
theorem Z7H:∀ (D E:List (Nat × Nat)) (L:List Int),jn (D++E) L=jn E (jn D L)
 | [],E,L=>rfl
 | p::D,E,L=>by rw [List.cons_append,jn,jn,Z7H D E]
theorem Zdn {m:Nat}:∀ (D:List (Nat × Nat)) (L:List Int),Z2I L m->(∀ p,p ∈ D->p.1<m/\p.2<m) →
 Z2I (jn D L) m/\(∀ a b,a<m->b<m->Z02 L a=Z02 L b->Z02 (jn D L) a=Z02 (jn D L) b)/\(∀ p,p ∈ D->Z02 (jn D L) p.1=Z02 (jn D L) p.2)
 | [],L,hd,_=>⟨hd,fun a b _ _ e=>e,fun p h=>by cases h⟩
 | p::D,L,hd,hg=>by
  obtain ⟨g1,g2⟩:=hg p (by simp)
  obtain ⟨i1,i2,i3⟩:=Zdn D (Z1P L p.1 p.2) (Z1k hd g1 g2) (fun q hq=>hg q (by simp [hq]))
  refine ⟨i1,fun a b ha hb e=>i2 a b ha hb (Zes hd g1 g2 ha hb e),fun q hq=>?_⟩
  rcases List.mem_cons.1 hq with rfl | hq
  · exact i2 _ _ g1 g2 (Zer hd g1 g2)
  · exact i3 q hq
theorem Zhy {m:Nat} (S:Nat->Prop):∀ (D:List (Nat × Nat)) (L:List Int),Z2I L m->(∀ p,p ∈ D->p.1<m/\p.2<m/\(S p.1 ↔ S p.2))->(∀ a b,a<m->b<m->Z02 L a=Z02 L b->(S a ↔ S b)) →
 ∀ a b,a<m->b<m->Z02 (jn D L) a=Z02 (jn D L) b->(S a ↔ S b)
 | [],L,_,_,h=>h
 | p::D,L,hd,hg,h=>by
  obtain ⟨g1,g2,g3⟩:=hg p (by simp)
  refine Zhy S D (Z1P L p.1 p.2) (Z1k hd g1 g2) (fun q hq=>hg q (by simp [hq])) fun a b ha hb e=>?_
  rw [Z1B hd g1 g2 ha,Z1B hd g1 g2 hb] at e
  have ai:=h a p.1 ha g1
  have aj:=h a p.2 ha g2
  have bi:=h b p.1 hb g1
  have bj:=h b p.2 hb g2
  have ab:=h a b ha hb
  by_cases c1:Z02 L a=max (Z02 L p.1) (Z02 L p.2) <;> by_cases c2:Z02 L b=max (Z02 L p.1) (Z02 L p.2)
  · exact ab (c1.trans c2.symm)
  · rw [if_pos c1,if_neg c2] at e
    rcases Nat.le_total (Z02 L p.1) (Z02 L p.2) with q | q
    · exact (aj qO).trans (g3.symm.trans (bi qO).symm)
    · exact (ai qO).trans (g3.trans (bj qO).symm)
  · rw [if_neg c1,if_pos c2] at e
    rcases Nat.le_total (Z02 L p.1) (Z02 L p.2) with q | q
    · exact (ai qO).trans (g3.trans (bj qO).symm)
    · exact (aj qO).trans (g3.symm.trans (bi qO).symm)
  · rw [if_neg c1,if_neg c2] at e
    exact ab e
theorem Z9V {m k:Nat} (h:k<m):Z02 (Z0v m) k=k:=Z1j (Z2n h)
theorem Z76 {m:Nat} (S:Nat->Prop) {D:List (Nat × Nat)} (hg:∀ p,p ∈ D->p.1<m/\p.2<m/\(S p.1 ↔ S p.2)) {a b:Nat} (ha:a<m) (hb:b<m) (e:Z02 (jn D (Z0v m)) a=Z02 (jn D (Z0v m)) b):S a ↔ S b :=
 Zhy S D (Z0v m) (Z0O _) hg (fun a b ha hb e=>by rw [Z9V ha,Z9V hb] at e; rw [e]) a b ha hb e
theorem jn_eq {m:Nat} {D E:List (Nat × Nat)} (hD:∀ p,p ∈ D->p.1<m/\p.2<m) (hE:∀ p,p ∈ E->p.1<m/\p.2<m)
 (h1:∀ p,p ∈ D->Z02 (jn E (Z0v m)) p.1=Z02 (jn E (Z0v m)) p.2) (h2:∀ p,p ∈ E->Z02 (jn D (Z0v m)) p.1=Z02 (jn D (Z0v m)) p.2) {k:Nat} (hk:k<m) :
 Z02 (jn D (Z0v m)) k=Z02 (jn E (Z0v m)) k:=by
 obtain ⟨d1,_,d3⟩:=Zdn D (Z0v m) (Z0O _) hD
 obtain ⟨e1,_,e3⟩:=Zdn E (Z0v m) (Z0O _) hE
 have kD:=Z0B d1 hk
 have kE:=Z0B e1 hk
 have rD:=Z0Y d1 hk
 have rE:=Z0Y e1 hk
 have a1:=Z76 (fun w=>Z02 (jn E (Z0v m)) w=Z02 (jn E (Z0v m)) k) (D:=D) (fun p hp=>⟨(hD p hp).1,(hD p hp).2,by show _=_ ↔ _=_; rw [h1 p hp]⟩) (a:=Z02 (jn D (Z0v m)) k) (b:=k) qO hk rD
 have a2:=Z76 (fun w=>Z02 (jn D (Z0v m)) w=Z02 (jn D (Z0v m)) k) (D:=E) (fun p hp=>⟨(hE p hp).1,(hE p hp).2,by show _=_ ↔ _=_; rw [h2 p hp]⟩) (a:=Z02 (jn E (Z0v m)) k) (b:=k) qO hk rE
 have b1:=a1.2 rfl
 have b2:=a2.2 rfl
 have c1:=Z0B e1 (i:=Z02 (jn D (Z0v m)) k) qO
 have c2:=Z0B d1 (i:=Z02 (jn E (Z0v m)) k) qO
 omega
theorem Z7K {C C':List Int}:∀ {i:Nat},(∀ k,k<i->Z02 C k=Z02 C' k)->Z0F C i=Z0F C' i
 | 0,_=>rfl
 | i+1,h=>by rw [Z1U,Z1U,Z7K (fun k hk=>h k qO),h i qO]
theorem ZiS {C C':List Int} {i:Nat} (h:∀ k,k<i->Z02 C k=Z02 C' k):Z11 C i=Z11 C' i:=by unfold Z11; rw [Z7K h]
theorem ZbI {C C':List Int} {m:Nat} (hd:Z2I C m) (h:∀ k,k<m->Z02 C k=Z02 C' k):Ze5 C m=Ze5 C' m:=by
 refine Z1g (m:=m) (Z13 _ _) (Z13 _ _) fun k hk=>?_
 have:=Z0B hd hk
 rw [Z2L _ hk,Z2L _ hk,← h k hk,ZiS (C':=C') fun j hj=>h j qO]
theorem Z2q {C:List Int}:∀ {m r:Nat},r<m->Z02 C r=r->(Z0F C m)[Z11 C r]? = some (r:Int)
 | 0,r,h,_=>by omega
 | m+1,r,h,e=>by
  rw [Z1U]
  by_cases q:r=m
  · subst q
    rw [if_pos e,Z11,List.getElem?_append_right (Nat.le_refl _)]
    simp
  · have ih:=Z2q (m:=m) (r:=r) qO e
    have hl:=(List.getElem?_eq_some_iff.1 ih).1
    rw [List.getElem?_append_left hl,ih]
theorem ZaS {C:List Int}:∀ {m i x:Nat},(Z0F C m)[i]? = some (x:Int)->Z11 C x=i
 | 0,i,x,h=>by simp [Z0F] at h
 | m+1,i,x,h=>by
  rw [Z1U] at h
  rcases Nat.lt_or_ge i (Z0F C m).length with q | q
  · rw [List.getElem?_append_left q] at h
    exact ZaS h
  · rw [List.getElem?_append_right q] at h
    by_cases e:Z02 C m=m
    · rw [if_pos e] at h
      rcases hz:i-(Z0F C m).length with _ | z
      · rw [hz] at h
        have:(m:Int)=x:=by simpa using h
        obtain rfl:m=x:=by omega
        show (Z0F C m).length=i
        omega
      · rw [hz] at h; simp at h
    · rw [if_neg e] at h; simp at h
theorem Zdr {C:List Int} {m r:Nat} (h:r<m) (e:Z02 C r=r):Z11 C r<Z11 C m:=by
 have:=(List.getElem?_eq_some_iff.1 (Z2q h e)).1
 exact this
theorem ZhD {C:List Int} {m r s:Nat} (hr:r<m) (hs:s<m) (er:Z02 C r=r) (es:Z02 C s=s) (e:Z11 C r=Z11 C s):r=s:=by
 have h1:=Z2q hr er
 have h2:=Z2q hs es
 rw [e,h2] at h1
 have:=Option.some.inj h1
 omega
end Go.Ab

namespace Go.Proofs.Ytcnndelmnobigaa
open Go Go.Ab Go.Proofs
theorem ZpF (n:Nat):∀ (D:List (List Int)) (L:List Int),D.foldl Z8k L=jn (D.map fun M=>(mA M,mB M)) L
 | [],L=>rfl
 | M::D,L=>by rw [List.foldl_cons,List.map_cons,jn,ZpF n D]; rfl
def pI (Gl:List Int) (t f:Nat):Nat->Nat->List (Nat × Nat)
 | 0,_=>[]
 | k+1,i=>(if i=f then [] else [(4*t+i,fV Gl t f i)])++pI Gl t f k (i+1)
def pF (Gl:List Int) (t:Nat):Nat->Nat->List (Nat × Nat)
 | 0,_=>[]
 | k+1,f=>(if Z0L (Z03 Gl t f)<0 then [] else pI Gl t f 4 0)++pF Gl t k (f+1)
def pT (Gl:List Int):Nat->Nat->List (Nat × Nat)
 | 0,_=>[]
 | k+1,t=>pF Gl t 4 0++pT Gl k (t+1)
theorem gI_jn (Gl:List Int) (t f:Nat):∀ (k i:Nat) (C:List Int),gI Gl t f k i C=jn (pI Gl t f k i) C
 | 0,_,_=>rfl
 | k+1,i,C=>by rw [gI,pI,Z7H,gI_jn Gl t f k]; split <;> rfl
theorem gF_jn (Gl:List Int) (t:Nat):∀ (k f:Nat) (C:List Int),gF Gl t k f C=jn (pF Gl t k f) C
 | 0,_,_=>rfl
 | k+1,f,C=>by
  rw [gF,pF,Z7H,gF_jn Gl t k]
  split
  · rfl
  · rw [gI_jn]
theorem gT_jn (Gl:List Int):∀ (k t:Nat) (C:List Int),gT Gl k t C=jn (pT Gl k t) C
 | 0,_,_=>rfl
 | k+1,t,C=>by rw [gT,pT,Z7H,gT_jn Gl k,gF_jn]
theorem ZkA {Gl:List Int} {t f:Nat} {p:Nat × Nat}:∀ {k i:Nat},p ∈ pI Gl t f k i ↔ ∃ j,i<=j/\j<i+k/\j ≠ f/\p=(4*t+j,fV Gl t f j)
 | 0,i=>by simp [pI]; intro x h1 h2; omega
 | k+1,i=>by
  rw [pI,List.mem_append,ZkA (k:=k)]
  constructor
  · rintro (h | ⟨j,h1,h2,h3,h4⟩)
    · split at h
      · cases h
      · rename_i hne
        exact ⟨i,Nat.le_refl _,by omega,hne,List.mem_singleton.1 h⟩
    · exact ⟨j,by omega,by omega,h3,h4⟩
  · rintro ⟨j,h1,h2,h3,h4⟩
    by_cases e:j=i
    · subst e
      left
      rw [if_neg h3,h4]; simp
    · exact .inr ⟨j,by omega,by omega,h3,h4⟩
theorem ZkB {Gl:List Int} {t:Nat} {p:Nat × Nat}:∀ {k f:Nat},p ∈ pF Gl t k f ↔ ∃ g j,f<=g/\g<f+k/\j<4/\j ≠ g /\ ¬ Z0L (Z03 Gl t g)<0/\p=(4*t+j,fV Gl t g j)
 | 0,f=>by simp [pF]; intro x h1 h2; omega
 | k+1,f=>by
  rw [pF,List.mem_append,ZkB (k:=k)]
  constructor
  · rintro (h | ⟨g,j,h1,h2,h3⟩)
    · split at h
      · cases h
      · rename_i hg
        obtain ⟨j,a,b,d,e⟩:=ZkA.1 h
        exact ⟨f,j,Nat.le_refl _,by omega,by omega,d,hg,e⟩
    · exact ⟨g,j,by omega,by omega,h3⟩
  · rintro ⟨g,j,h1,h2,h3,h4,h5,h6⟩
    by_cases e:g=f
    · subst e
      left
      rw [if_neg h5]
      exact ZkA.2 ⟨j,by omega,by omega,h4,h6⟩
    · exact .inr ⟨g,j,by omega,by omega,h3,h4,h5,h6⟩
theorem ZgK {Gl:List Int} {p:Nat × Nat}:∀ {k t:Nat},p ∈ pT Gl k t ↔ ∃ u g j,t<=u/\u<t+k/\g<4/\j<4/\j ≠ g /\ ¬ Z0L (Z03 Gl u g)<0/\p=(4*u+j,fV Gl u g j)
 | 0,t=>by simp [pT]; intro x h1 h2; omega
 | k+1,t=>by
  rw [pT,List.mem_append,ZgK (k:=k)]
  constructor
  · rintro (h | ⟨u,g,j,h1,h2,h3⟩)
    · obtain ⟨g,j,a,b,d⟩:=ZkB.1 h
      exact ⟨t,g,j,Nat.le_refl _,by omega,by omega,d⟩
    · exact ⟨u,g,j,by omega,by omega,h3⟩
  · rintro ⟨u,g,j,h1,h2,h3,h4⟩
    by_cases e:u=t
    · subst e
      exact .inl (ZkB.2 ⟨g,j,by omega,by omega,h4⟩)
    · exact .inr ⟨u,g,j,by omega,by omega,h3,h4⟩
theorem Zgt {Gl:List Int} {n:Nat} (hok:Z0t Gl n=true) (hG:Gl.length=n*20) {k:Nat} (hk:k<4*n):Z02 (vxG Gl n) k=Z02 (vxC Gl n) k:=by
 have e1:vxG Gl n=jn (pT Gl n 0) (Z0v (4*n)):=gT_jn Gl n 0 _
 have e2:vxC Gl n=jn ((Z43 Gl n).map fun M=>(mA M,mB M)) (Z0v (4*n)):=ZpF n _ _
 have hD:∀ p,p ∈ pT Gl n 0->p.1<4*n/\p.2<4*n:=fun p hp=>by
  obtain ⟨u,g,j,h1,h2,h3,h4,h5,h6,rfl⟩:=ZgK.1 hp
  exact ⟨by simp only; omega,Zod (FGl.of hok hG qO h3 h4 h5 h6)⟩
 have hE:∀ p,p ∈ ((Z43 Gl n).map fun M=>(mA M,mB M)) -> ∃ t f i,t<n/\f<4/\i<4/\i ≠ f /\ ¬ Z0L (Z03 Gl t f)<0/\p=(4*t+i,fV Gl t f i):=fun p hp=>by
  obtain ⟨M,hM,rfl⟩:=List.mem_map.1 hp
  obtain ⟨t,f,i,ht,hf,hi,hne,hsk,rfl⟩:=Z7G hM
  obtain ⟨q1,q2⟩:=mAB (FGl.of hok hG ht hf hi hne (Z1x hsk))
  exact ⟨t,f,i,ht,hf,hi,hne,Z1x hsk,by rw [q1,q2]⟩
 rw [e1,e2]
 refine jn_eq hD (fun p hp=>?_) (fun p hp=>?_) (fun p hp=>?_) hk
 · obtain ⟨t,f,i,ht,hf,hi,hne,hg,rfl⟩:=hE p hp
   exact ⟨by simp only; omega,Zod (FGl.of hok hG ht hf hi hne hg)⟩
 · obtain ⟨u,g,j,h1,h2,h3,h4,h5,h6,rfl⟩:=ZgK.1 hp
   rw [← e2]
   exact Z6k hok hG qO h3 h4 h5 h6
 · obtain ⟨t,f,i,ht,hf,hi,hne,hg,rfl⟩:=hE p hp
   exact (Zdn _ _ (Z0O _) hD).2.2 _ (ZgK.2 ⟨t,f,i,by omega,by omega,hf,hi,hne,hg,rfl⟩)


theorem Z2Q.len {c0:Nat} {h:FH} {c:Nat} {v:Value} {n:Nat} {cs:List Value} (ha:Z2Q c0 h c v n cs):Z0X v=some (.int .i64 n):=by
 obtain ⟨_,_,_,i,op,rfl,_⟩:=ha; rfl

end Go.Proofs.Ytcnndelmnobigaa

namespace Go.Ab
end Go.Ab

namespace Go.Proofs.Ytcnndelmnobigaa
open Go Go.Ab Go.Proofs


def LkR (h:FH) (c0:Nat) (w:Value) (n:Nat) (C:List Int) (m:Nat) (Fl:List Int):Prop :=
 Z0X w=some (.int .i64 m) /\ ∀ i,i<m -> ∃ l p x,Fl[i]? = some x/\ixS 1 w (.int .i64 i)=some p/\(∃ b o,p = .pointer (some ⟨b,o,none⟩)/\b<256*c0)/\ld1 h p=some l/\SlI h c0 l 1 (7*n) (lkRow C n x)/\SlX h l 1 (7*n)
theorem ZgN {h h':FH} {c b o:Nat} (hs:Z0u c h h') (hb:b<256*c):ld1 h' (.pointer (some ⟨b,o,none⟩))=ld1 h (.pointer (some ⟨b,o,none⟩)):=by
 have:HeapC.get h' b=HeapC.get h b:=hs b hb
 simp only [ld1,Z2O,Option.bind_some,Z6d,Z0n,this]
theorem LkR.same {h h':FH} {c0:Nat} {w:Value} {n:Nat} {C:List Int} {m:Nat} {Fl:List Int} (hr:LkR h c0 w n C m Fl) (hs:Z0u c0 h h'):LkR h' c0 w n C m Fl:=by
 obtain ⟨h1,h2⟩:=hr
 refine ⟨h1,fun i hi=>?_⟩
 obtain ⟨l,p,x,e1,e2,⟨b,o,rfl,e3⟩,e4,e5,e6⟩:=h2 i hi
 exact ⟨l,_,x,e1,e2,⟨b,o,rfl,e3⟩,(ZgN hs e3).trans e4,e5.same hs,SlX.keep e5 hs e6⟩

theorem Zd5 (a b:Value) (m:Nat) (A B:List Int) (h:FH) (c:Nat) (ha:SlI h c a 1 m A) (hb:SlI h c b 1 m B) (df:List Nat):∀ (k i:Nat),i+k=m →
 Ans (G (ZcG none) [a,b,.bool false,.int .i64 i] h c df) fun r=>r.h=h/\r.c=c/\r.df=df/\((r.e = .exit 0 /\ ∀ j:Nat,i<=j->j<m->gi A j=gi B j) ∨ (r.e = .ret/\r.v 2 = .bool false /\ ∃ j:Nat,j<m/\gi A j ≠ gi B j)):=by
 intro k
 have o1:=ha.okV
 have o2:=hb.okV
 have la:=ha.len
 have hm:=ha.2.1
 induction k with
 | zero =>
  intro i hi
  obtain rfl:i=m:=by omega
  refine Ans.lpG rfl rfl (Z5T ..) ?_
  unfold Z55
  have fx:=la
  refine Ans.go ?_
  clear fx
  (have fx:=ai o1 o2; refine Ans.ex0 ?_; clear fx)
  exact ⟨rfl,rfl,rfl,.inl ⟨rfl,fun j h1 h2=>by omega⟩⟩
 | succ k ih =>
  intro i hi
  have l1:=ha.rdi i qO qO
  have l2:=hb.rdi i qO qO
  simp only [Int.toNat_natCast] at l1 l2
  obtain ⟨x,hx⟩:∃ x,gi A i=x:=⟨_,rfl⟩
  obtain ⟨y,hy⟩:∃ y,gi B i=y:=⟨_,rfl⟩
  rw [hx] at l1
  rw [hy] at l2
  have him:(i:Int)<m:=by omega
  refine Ans.lpG rfl rfl (Z5T ..) ?_
  unfold Z55
  by_cases e:x=y
  · have fx:=ai la (ai ha.ixs1 (ai hb.ixs1 (ai l1 l2)))
    refine Ans.go ?_
    clear fx
    (have fx:=ai o1 o2; refine Ans.nx0 ?_; clear fx)
    refine (ih (i+1) qO).mono ?_
    rintro r ⟨q1,q2,q3,q4⟩
    refine ⟨q1,q2,q3,q4.imp (fun ⟨a,b⟩=>⟨a,fun j h1 h2=>?_⟩) id⟩
    by_cases ej:j=i
    · rw [ej,hx,hy,e]
    · exact b j qO h2
  · have fx:=ai la (ai ha.ixs1 (ai hb.ixs1 (ai l1 l2)))
    refine Ans.go ?_
    clear fx
    (have fx:=ai o1 o2; refine Ans.rt0 ?_; clear fx)
    exact ⟨rfl,rfl,rfl,.inr ⟨rfl,rfl,i,by omega,by rw [hx,hy]; exact e⟩⟩
theorem gi_ext {A B:List Int} (hl:A.length=B.length) (h:∀ j:Nat,j<A.length->gi A j=gi B j):A=B:=by
 refine List.ext_getElem hl fun j h1 h2=>?_
 have:=h j h1
 rw [Z1y,Z1y,List.getD_eq_getElem?_getD,List.getD_eq_getElem?_getD,List.getElem?_eq_getElem h1,List.getElem?_eq_getElem h2] at this
 exact this
theorem Z4a (a b:Value) (m n:Nat) (A B:List Int) (h:FH) (c:Nat) (df:List Nat) (ha:SlI h c a 1 m A) (hb:SlI h c b 1 n B) :
 G (.fn 21) [a,b] h c df=some ⟨.ret,[.bool (decide (A=B))],h,c,[]⟩:=by
 refine Z0C (fun r e=>f21_go e) (by simp) ?_
 unfold Zlo
 have la:=ha.len
 have lb:=hb.len
 have hA:=ha.1
 have hB:=hb.1
 by_cases e:m=n
 · subst e
   obtain ⟨⟨re,rv,rh,rc,rd⟩,hr,r1,r2,r3,r4⟩:=Zd5 a b m A B h (c+1+1+1) (ha.mono qO) (hb.mono qO) [] m 0 qO
   simp only at r1 r2 r3 r4
   subst r1 r2 r3
   simp only [Int.ofNat_eq_natCast,Int.cast_ofNat_Int] at hr
   rcases r4 with ⟨rfl,r5⟩ | ⟨rfl,r5,j,j1,j2⟩
   · have:A=B:=gi_ext qO (fun j hj=>r5 j qO qO)
     rw [decide_eq_true this]
     have fx:=ai la (ai lb hr)
     refine Ans.go ?_
     clear fx
     exact Ans.pure rfl (by simp)
   · have:¬ A=B:=fun e=>j2 (by rw [e])
     rw [decide_eq_false this]
     have fx:=ai la (ai lb hr)
     refine Ans.go ?_
     clear fx
     exact Ans.pure r5 (by simp)
 · have:¬ A=B:=fun h=>e (by rw [h] at hA; omega)
   rw [decide_eq_false this]
   have e':¬ ((m:Int)=n):=by omega
   have fx:=ai la lb
   refine Ans.go ?_
   clear fx
   exact Ans.pure rfl (by simp)

def RwA (h:FH) (c:Nat) (v:Value) (m w:Nat) (L:Nat->List Int):Prop :=
 OkV c v/\Z0X v=some (.int .i64 m) /\ ∀ i,i<m -> ∃ x b o,ixS 1 v (.int .i64 i)=some (.pointer (some ⟨b,o,none⟩))/\b<256*c/\ld1 h (.pointer (some ⟨b,o,none⟩))=some x/\SlI h c x 1 w (L i)
theorem RwA.same {h h':FH} {c:Nat} {v:Value} {m w:Nat} {L:Nat->List Int} (a:RwA h c v m w L) (hs:Z0u c h h'):RwA h' c v m w L:=by
 obtain ⟨a0,a1,a2⟩:=a
 refine ⟨a0,a1,fun i hi=>?_⟩
 obtain ⟨x,b,o,e1,e2,e3,e4⟩:=a2 i hi
 exact ⟨x,b,o,e1,e2,(ZgN hs e2).trans e3,e4.same hs⟩
theorem RwA.mono {h:FH} {c c':Nat} {v:Value} {m w:Nat} {L:Nat->List Int} (a:RwA h c v m w L) (hc:c<=c'):RwA h c' v m w L:=by
 obtain ⟨a0,a1,a2⟩:=a
 refine ⟨a0.mono hc,a1,fun i hi=>?_⟩
 obtain ⟨x,b,o,e1,e2,e3,e4⟩:=a2 i hi
 exact ⟨x,b,o,e1,by omega,e3,e4.mono hc⟩
theorem RwA.nil (h:FH) (c w:Nat) (L:Nat->List Int):RwA h c (.slice none 0 0) 0 w L:=⟨OkV.sl0 _ _ _,rfl,fun i hi=>by omega⟩


def FdP (rb kb c1 cc:Nat) (h:FH) (df:List Nat) (x:Ex) (vs:Value->Rt FH->FSt->Prop) (o:Option FSt) (r:Rt FH):Prop :=
 cc<=r.c/\r.df=df/\(∀ b,b<256*c1->b ≠ rb->b ≠ kb->r.h.f b=h.f b) /\ ∃ S,o=some S/\r.e=x /\ ∃ v,vs v r S/\r.h.f rb=some (.cells false none (ints S.X))/\r.h.f kb=some (.cells false none (bools S.K))/\Z2Q c1 r.h r.c v S.Q.length (ints (zs S.Q))
theorem FdP.mono {rb kb c1 cc cc':Nat} {h h':FH} {df:List Nat} {x:Ex} {vs:Value->Rt FH->FSt->Prop} {o:Option FSt} {r:Rt FH} (p:FdP rb kb c1 cc' h' df x vs o r) (hc:cc<=cc') (hh:∀ b,b<256*c1->b ≠ rb->b ≠ kb->h'.f b=h.f b):FdP rb kb c1 cc h df x vs o r :=
 ⟨Nat.le_trans hc p.1,p.2.1,fun b h1 h2 h3=>(p.2.2.1 b h1 h2 h3).trans (hh b h1 h2 h3),p.2.2.2⟩
set_option maxHeartbeats 2000000 in
theorem Zo8 (s:Value) (n:Nat) (Gl:List Int) (gb rb kb c1:Nat) (t13 t16 t19 t20:Value) (t i:Nat) (df:List Nat) (hn:n<=60) (hok:Z0t Gl n=true) (hrb:rb<256*c1) (hkb:kb<256*c1) (hne:rb ≠ kb) (ht:t<n) (hi:i<4) (hgb:gb<256*c1) (hg1:gb ≠ rb) (hg2:gb ≠ kb) (hsb:Z0l s ≠ rb/\Z0l s ≠ kb) :
 ∀ (k f cc:Nat) (h:FH) (t17:Value) (S:FSt) (B:Int),f+k=4->c1<=cc->Z09 h gb [s]->SlI h c1 s 20 n Gl->h.f rb=some (.cells false none (ints S.X))->h.f kb=some (.cells false none (bools S.K))->Z2Q c1 h cc t17 S.Q.length (ints (zs S.Q))->FOk n S B->0<=B->B+k*1000000<=100000000000000000 →
 Ans (G (Zcp none) [ptrTo gb,.slice (some ⟨rb,0,none⟩) (7*n) (7*n),.slice (some ⟨kb,0,none⟩) (4*n) (4*n),t13,t16,t17,t19,t20,.int .i64 t,.int .i64 i,.int .i64 f] h cc df)
  (FdP rb kb c1 cc h df (.exit 14) (fun v r _=>r.vs=[ptrTo gb,.slice (some ⟨rb,0,none⟩) (7*n) (7*n),.slice (some ⟨kb,0,none⟩) (4*n) (4*n),t13,t16,v,t19,t20,.int .i64 t,.int .i64 i,.int .i64 4]) (Z2i Gl false t i k f S)):=by
 intro k
 induction k with
 | zero =>
  intro f cc h t17 S B hf hc hg hs e1 e2 ha hS hB hB2
  obtain rfl:f=4:=by omega
  refine Ans.lpN rfl rfl (Z2c ..) ?_
  unfold Z3L
  have fx:=True.intro
  refine Ans.go ?_
  clear fx
  refine Ans.exitN ⟨(by show cc<=cc+1; omega),rfl,fun _ _ _ _=>rfl,S,rfl,rfl,t17,rfl,e1,e2,ha.mono (by show cc<=cc+1; omega)⟩
 | succ k ih =>
  intro f cc h t17 S B hf hc hg hs e1 e2 ha hS hB hB2
  have hf4:(f:Int)<4:=by omega
  have hG:=hs.1
  have hfl:=Z0o hG ht (by omega:f<4)
  have lg:ld1 h (.pointer (some ⟨gb,0,none⟩))=some s:=by rw [Z01 hg]; rfl
  have lf:=hs.face (t:Int) (f:Int) qO qO qO qO
  rw [Int.toNat_natCast,Int.toNat_natCast] at lf
  have hsx:=hs.ixs
  obtain ⟨xb,hxb⟩:∃ xb,256*(cc+1)+7=xb:=⟨_,rfl⟩
  obtain ⟨H,hH⟩:∃ H,newB h xb (ints (Z03 Gl t f))=H:=⟨_,rfl⟩
  have hst:stN (newB h xb [.int .i64 0,.int .i64 0,.int .i64 0,.int .i64 0,.int .i64 0]) 5 (.pointer (some ⟨xb,0,none⟩)) (av (Z03 Gl t f))=some H:=by rw [← hH]; exact stN_all _ _ 5 _ _ hfl rfl
  have fH:∀ b,b ≠ xb->H.f b=h.f b:=fun b hb=>by rw [← hH,Z08,if_neg hb]
  have hxh:Z09 H xb (ints (Z03 Gl t f)):=by rw [← hH]; exact Z09.newB_same _ _ _
  have b0:ld1 H (.pointer (some ⟨xb,0,none⟩))=some (.int .i64 (Z0L (Z03 Gl t f))):=by rw [Z01 hxh,ints_getD _ _ qO]; rfl
  have bp:∀ x:Nat,x<4->(ints (Z03 Gl t f))[1+x]? = some (.int .i64 ((Z0e (Z03 Gl t f)).getD x 0)):=fun x hx=>by
   rw [ints_getD _ _ qO]
   unfold Z0e
   rw [Z26 _ _ _ qO,Z27]
  have kH:H.f rb=some (.cells false none (ints S.X)):=by rw [fH rb qO,e1]
  have kK:H.f kb=some (.cells false none (bools S.K)):=by rw [fH kb qO,e2]
  have bo:=ha.blk
  have aH:Z2Q c1 H cc t17 S.Q.length (ints (zs S.Q)):=ha.keep (fH _ qO)
  have skip:=(ih (f+1) (cc+1+1+1+1) H t17 S B qO qO (hg.eqf (fH _ qO)) (hs.keep fun hp=>fH _ (by have:=hs.blk hp; omega)) kH kK (aH.mono qO) hS hB qO).mono fun r p=>p.mono (by omega:cc<=_) (fun b h1 h2 h3=>fH b qO)
  have skip2:=(ih (f+1) (cc+1+1+1+1+1+1) H t17 S B qO qO (hg.eqf (fH _ qO)) (hs.keep fun hp=>fH _ (by have:=hs.blk hp; omega)) kH kK (aH.mono qO) hS hB qO).mono fun r p=>p.mono (by omega:cc<=_) (fun b h1 h2 h3=>fH b qO)
  rw [Z2i]
  by_cases hfi:f=i
  · have es:Z2W Gl false t i f S=some S:=by unfold Z2W; rw [if_pos (.inl hfi)]
    rw [es]
    subst hfi
    clear ih
    refine Ans.lpN rfl rfl (Z2c ..) ?_
    unfold Z3L
    have fx:=ai lg (ai hsx (ai lf (ai hxb hst)))
    refine Ans.go ?_
    clear fx
    refine Ans.nextN ?_
    exact skip
  by_cases h0:Z0L (Z03 Gl t f)<0
  · have es:Z2W Gl false t i f S=some S:=by unfold Z2W; rw [if_pos (.inr h0)]
    rw [es]
    have hfi':¬ (f:Int)=i:=by omega
    obtain ⟨U,hU⟩:∃ U,Z0L (Z03 Gl t f)=U:=⟨_,rfl⟩
    rw [hU] at b0 h0
    clear ih
    refine Ans.lpN rfl rfl (Z2c ..) ?_
    unfold Z3L
    have fx:=ai lg (ai hsx (ai lf (ai hxb (ai hst b0))))
    refine Ans.go ?_
    clear fx
    refine Ans.nextN ?_
    exact skip
  have hfi':¬ (f:Int)=i:=by omega
  have g:=FGl.of hok hG ht (by omega:f<4) hi (fun q=>hfi q.symm) h0
  have hw:=Zdt hS ht (by omega:f<4) hi (fun q=>hfi q.symm) g
  have r1:=Z0V (i:=(i:Int)) (f:=(f:Int)) qO qO qO qO qO
  have r2:=Z0V (i:=(fJ Gl t f i:Int)) (f:=(fJ Gl t f f:Int)) qO (by have:=g.j; omega) qO (by have:=g.h; omega) (by have:=g.ne; omega)
  have q2:=hS.qd (fU Gl t f) (ty (fJ Gl t f i) (fJ Gl t f f)).toNat qO
  have q1:=hS.qd t (ty i f).toNat qO
  have k0:=hS.xb (7*t+i)
  have ct1:=fun h' c'=>Z05 (ZcZ i f h' c' [] hi qO (fun q=>hfi q.symm))
  have ct2:=fun h' c'=>Z05 (ZcZ (fJ Gl t f i) (fJ Gl t f f) h' c' [] g.j g.h g.ne)
  have hwe:S.X.getD (7*t+i) 0+S.X.getD (7*t+4+(ty i f).toNat) 0-S.X.getD (7*fU Gl t f+4+(ty (fJ Gl t f i) (fJ Gl t f f)).toNat) 0=fW Gl S.X t f i:=by
   unfold fW Z7o
   rw [gi,gi,gi,show (7*(fU Gl t f:Int)+4+ty (fJ Gl t f i) (fJ Gl t f f)).toNat=7*fU Gl t f+4+(ty (fJ Gl t f i) (fJ Gl t f f)).toNat by omega,show (7*(t:Int)+i).toNat=7*t+i by omega,show (7*(t:Int)+4+ty i f).toNat=7*t+4+(ty i f).toNat by omega]
  have es:Z2W Gl false t i f S=if S.K.getD (fV Gl t f i) false=false then
   some ⟨S.X.set (7*fU Gl t f+fJ Gl t f i) (fW Gl S.X t f i),S.K.set (fV Gl t f i) true,S.Q++[fV Gl t f i],min S.m (fW Gl S.X t f i)⟩
   else some S:=by
   unfold Z2W; rw [if_neg (fun q=>q.elim hfi h0)]
   split
   · rfl
   · rw [if_neg (by simp)]
  have push:=hS.push (Gl:=Gl) hB ht (by omega:f<4) hi (fun q=>hfi q.symm) g
  rw [es]
  have hv:fV Gl t f i=4*fU Gl t f+fJ Gl t f i:=rfl
  rw [hv] at push ⊢
  have gu:=g.u
  have gj:=g.j
  have gh:=g.h
  have gne:=g.ne
  have guz:=g.uz
  have b1:=bp i hi
  have b2:=bp f qO
  rw [g.jz] at b1
  rw [g.hz] at b2
  clear g es hv bp
  rw [guz] at b0
  have lb1:∀ Z:FH,Z.f xb=H.f xb->ld1 Z (.pointer (some ⟨xb,0,none⟩))=some (.int .i64 (fU Gl t f:Nat))/\ld1 Z (.pointer (some ⟨xb,1+i,none⟩))=some (.int .i64 (fJ Gl t f i:Nat))/\ld1 Z (.pointer (some ⟨xb,1+f,none⟩))=some (.int .i64 (fJ Gl t f f:Nat)):=fun Z hZ=>by
   have hz:Z09 Z xb (ints (Z03 Gl t f)):=hxh.eqf hZ
   refine ⟨?_, ?_, ?_⟩
   · rw [Z01 hz,ints_getD _ _ qO,← guz]; rfl
   · rw [Z01 hz,b1]
   · rw [Z01 hz,b2]
  obtain ⟨U,hU⟩:∃ U,fU Gl t f=U:=⟨_,rfl⟩
  obtain ⟨J,hJ⟩:∃ J,fJ Gl t f i=J:=⟨_,rfl⟩
  obtain ⟨J',hJ'⟩:∃ J',fJ Gl t f f=J':=⟨_,rfl⟩
  rw [hU] at b0 gu hwe push q2 lb1 ⊢
  rw [hJ] at gj gne r2 hwe push q2 lb1 ct2 ⊢
  rw [hJ'] at gh gne r2 hwe q2 lb1 ct2
  obtain ⟨T2,hT2⟩:∃ T,ty J J'=(T:Nat):=⟨(ty J J').toNat,by omega⟩
  obtain ⟨T1,hT1⟩:∃ T,ty i f=(T:Nat):=⟨(ty i f).toNat,by omega⟩
  rw [hT2] at hwe r2 q2 ct2
  rw [hT1] at hwe r1 q1 ct1
  rw [Int.toNat_natCast,Int.toNat_natCast] at hwe
  rw [Int.toNat_natCast] at q2 q1
  obtain ⟨m1,m2,-⟩:=lb1 H rfl
  have l3:ld1 H (.pointer (some ⟨kb,4*U+J,none⟩))=some (.bool (S.K.getD (4*U+J) false)):=by
   rw [Z01 ⟨false,none,kK⟩,Zb8 _ _ (by have:=hS.kl; omega)]
  have tz1:(7*(U:Int)+4+T2).toNat=7*U+4+T2:=by omega
  have tz2:(4*(U:Int)+J).toNat=4*U+J:=by omega
  have tz3:(7*(U:Int)+J).toNat=7*U+J:=by omega
  have tz4:(7*(t:Int)+i).toNat=7*t+i:=by omega
  have tz5:(7*(t:Int)+4+T1).toNat=7*t+4+T1:=by omega
  have hxl:=hS.xl
  have hkl:=hS.kl
  by_cases hk:S.K.getD (4*U+J) false=false
  · rw [if_pos hk]
    rw [hk] at l3
    have pu:=push hk
    obtain ⟨W,hW⟩:∃ W,fW Gl S.X t f i=W:=⟨_,rfl⟩
    rw [hW] at hw hwe pu ⊢
    obtain ⟨H1,hH1⟩:∃ H1,HeapC.set H kb (.cells false none (bools (S.K.set (4*U+J) true)))=H1:=⟨_,rfl⟩
    have w1:stN H 1 (.pointer (some ⟨kb,4*U+J,none⟩)) (.bool true)=some H1:=by
     rw [Z12 (show HeapC.get H kb=_ from kK) (by simp [bools]; omega) rfl rfl,Z6s,hH1]
    have fH1:∀ b,b ≠ kb->H1.f b=H.f b:=fun b hb=>by rw [← hH1,Z0g,if_neg hb]
    have kK1:H1.f kb=some (.cells false none (bools (S.K.set (4*U+J) true))):=by rw [← hH1,Z0g,if_pos rfl]
    have kH1:H1.f rb=some (.cells false none (ints S.X)):=(fH1 rb hne).trans kH
    obtain ⟨n1,n2,n3⟩:=lb1 H1 (fH1 _ qO)
    have xr:∀ j,j<7*n->ld1 H1 (.pointer (some ⟨rb,j,none⟩))=some (.int .i64 (S.X.getD j 0)):=fun j hj=>by
     rw [Z01 ⟨false,none,kH1⟩,ints_getD _ _ qO]
    have lA:=xr (7*t+i) qO
    have lB:=xr (7*t+4+T1) qO
    have lC:=xr (7*U+4+T2) qO
    obtain ⟨H2,hH2⟩:∃ H2,HeapC.set H1 rb (.cells false none (ints (S.X.set (7*U+J) W)))=H2:=⟨_,rfl⟩
    have w2:stN H1 1 (.pointer (some ⟨rb,7*U+J,none⟩)) (.int .i64 W)=some H2:=by
     rw [Z12 (show HeapC.get H1 rb=_ from kH1) (by simp; omega) rfl rfl,Z0K,hH2]
    have fH2:∀ b,b ≠ rb->H2.f b=H1.f b:=fun b hb=>by rw [← hH2,Z0g,if_neg hb]
    have kH2:H2.f rb=some (.cells false none (ints (S.X.set (7*U+J) W))):=by rw [← hH2,Z0g,if_pos rfl]
    obtain ⟨o1,-,-⟩:=lb1 H2 (by rw [fH2 _ qO,fH1 _ qO])
    have hbl:Z2T [.int .i64 0] [(0,1,.int .i64 (4*(U:Int)+J))]=some [.int .i64 (4*(U:Int)+J)]:=rfl
    have hql:=hS.ql
    have a2:Z2Q c1 H2 (cc+1) t17 S.Q.length (ints (zs S.Q)):=(aH.keep (by rw [fH2 _ qO,fH1 _ qO])).mono qO
    obtain ⟨H3,p1,p2,p3⟩:=(a2.mono (c':=cc+1+1+1+1+1+1+1) qO).app (c':=cc+1+1+1+1+1+1+1+1) (.int .i64 (4*(U:Int)+J)) rfl 8 (256*(cc+1+1+1+1+1+1+1)+6) (256*(cc+1+1+1+1+1+1+1)+7) qO qO qO qO qO qO
    have low:∀ b,b<256*c1->H3.f b=H2.f b:=fun b hb=>p3 b qO qO
    have hzs:ints (zs S.Q)++[.int .i64 (4*(U:Int)+J)]=ints (zs (S.Q++[4*U+J])):=by
     simp [zs,ints]
    rw [hzs] at p2
    have all:∀ b,b<256*c1->b ≠ rb->b ≠ kb->H3.f b=h.f b:=fun b h1 h2 h3=>by rw [low b h1,fH2 b h2,fH1 b h3,fH b qO]
    have fin:=(ih (f+1) (cc+1+1+1+1+1+1+1+1+1) H3 _ ⟨S.X.set (7*U+J) W,S.K.set (4*U+J) true,S.Q++[4*U+J],min S.m W⟩ (B+1000000) qO qO (hg.eqf (all _ hgb hg1 hg2)) (hs.keep fun hp=>all _ (hs.blk hp) hsb.1 hsb.2) (by rw [low rb hrb,kH2]) (by rw [low kb hkb,fH2 kb (Ne.symm hne),kK1]) (by rw [List.length_append]; exact p2.mono qO) pu qO qO).mono fun r p=>p.mono (by omega:cc<=_) all
    clear ih skip skip2 push
    obtain ⟨A,hA⟩:∃ A,S.X.getD (7*t+i) 0=A:=⟨_,rfl⟩
    obtain ⟨B1,hB1⟩:∃ A,S.X.getD (7*t+4+T1) 0=A:=⟨_,rfl⟩
    obtain ⟨C,hC⟩:∃ A,S.X.getD (7*U+4+T2) 0=A:=⟨_,rfl⟩
    rw [hA] at lA hwe k0
    rw [hB1] at lB hwe q1
    rw [hC] at lC hwe q2
    refine Ans.lpN rfl rfl (Z2c ..) ?_
    unfold Z3L
    have fx:=ai lg (ai hsx (ai lf (ai hxb (ai hst (ai b0 (ai m1 (ai m2 (ai l3 (ai tz1 (ai tz2 (ai tz3 (ai tz4 (ai tz5 (ai w1 (ai n1 (ai n2 (ai n3 (ai ct1 (ai ct2 (ai lA (ai lB (ai lC (ai hwe (ai w2 (ai o1 (ai Z6v (ai hbl p1)))))))))))))))))))))))))))
    refine Ans.go ?_
    clear fx
    refine Ans.nextN ?_
    exact fin
  · rw [if_neg hk]
    have hk':S.K.getD (4*U+J) false=true:=by simpa using hk
    rw [hk'] at l3
    clear ih
    refine Ans.lpN rfl rfl (Z2c ..) ?_
    unfold Z3L
    have fx:=ai lg (ai hsx (ai lf (ai hxb (ai hst (ai b0 (ai m1 (ai m2 (ai l3 tz2))))))))
    refine Ans.go ?_
    clear fx
    refine Ans.nextN ?_
    exact skip2

structure KI (Gl:List Int) (n:Nat) (s s':FSt):Prop where
 q:∃ R,s'.Q=s.Q++R
 x:∀ w,w ∈ s.Q->s'.X.getD (ps w) 0=s.X.getD (ps w) 0
 o:∀ w,w ∉ s'.Q->s'.X.getD (ps w) 0=s.X.getD (ps w) 0/\s'.K.getD w false=s.K.getD w false
 u:∀ t k:Nat,k<3->s'.X.getD (7*t+4+k) 0=s.X.getD (7*t+4+k) 0
 r:∀ x,(∀ w,w ∈ s.Q->Z02 (vxC Gl n) w=x) -> ∀ w,w ∈ s'.Q->Z02 (vxC Gl n) w=x
def MI (s:FSt):Prop:=(∀ w,w ∈ s.Q->s.m<=s.X.getD (ps w) 0) /\ ∃ w,w ∈ s.Q/\s.m=s.X.getD (ps w) 0
theorem KI.refl (Gl:List Int) (n:Nat) (s:FSt):KI Gl n s s:=⟨⟨[],by simp⟩,fun _ _=>rfl,fun _ _=>⟨rfl,rfl⟩,fun _ _ _=>rfl,fun _ h=>h⟩
theorem KI.trans {Gl:List Int} {n:Nat} {s s' s'':FSt} (a:KI Gl n s s') (b:KI Gl n s' s''):KI Gl n s s'':=by
 obtain ⟨R,hR⟩:=a.q
 obtain ⟨R',hR'⟩:=b.q
 have sub:∀ w,w ∈ s.Q->w ∈ s'.Q:=fun w h=>by rw [hR]; exact List.mem_append_left _ h
 have sub':∀ w,w ∈ s'.Q->w ∈ s''.Q:=fun w h=>by rw [hR']; exact List.mem_append_left _ h
 refine ⟨⟨R++R',by rw [hR',hR,List.append_assoc]⟩,fun w h=>(b.x w (sub w h)).trans (a.x w h),fun w h=>?_,fun t k hk=>(b.u t k hk).trans (a.u t k hk),fun x h=>b.r x (a.r x h)⟩
 have h':w ∉ s'.Q:=fun q=>h (sub' w q)
 exact ⟨(b.o w h).1.trans (a.o w h').1,(b.o w h).2.trans (a.o w h').2⟩
theorem Z8v {Gl:List Int} {chk:Bool} {n t f i:Nat} {s s':FSt} {B:Int} (hok:Z0t Gl n=true) (hG:Gl.length=n*20) (h:FOk n s B) (ht:t<n) (hf:f<4) (hi:i<4) (hm:4*t+i ∈ s.Q) (e:Z2W Gl chk t i f s=some s'):KI Gl n s s'/\(MI s->MI s'):=by
 unfold Z2W at e
 split at e
 · obtain rfl:=Option.some.inj e
   exact ⟨KI.refl _ _ _,id⟩
 · rename_i h1
   have hne:i ≠ f:=fun q=>h1 (.inl q.symm)
   have hg:¬ Z0L (Z03 Gl t f)<0:=fun q=>h1 (.inr q)
   have g:=FGl.of hok hG ht hf hi hne hg
   split at e
   · rename_i h2
     obtain rfl:=Option.some.inj e
     have hv:fV Gl t f i<4*n:=by have:=g.u; have:=g.j; unfold fV; omega
     have hps:7*fU Gl t f+fJ Gl t f i=ps (fV Gl t f i):=(Zkj g.j).symm
     have hnq:fV Gl t f i ∉ s.Q:=fun q=>by have:=(h.qk _ q).2; rw [h2] at this; cases this
     have hlt:=ZiF hv
     have hxl:=h.xl
     rw [hps]
     have key:∀ w,(s.X.set (ps (fV Gl t f i)) (fW Gl s.X t f i)).getD (ps w) 0=if w=fV Gl t f i then fW Gl s.X t f i else s.X.getD (ps w) 0:=fun w=>by
      rw [Z0m]
      by_cases e:w=fV Gl t f i
      · rw [if_pos ⟨by rw [e],by omega⟩,if_pos e]
      · rw [if_neg (fun q=>e (Z4D q.1).symm),if_neg e]
     refine ⟨⟨⟨_,rfl⟩,fun w hw=>?_,fun w hw=>⟨?_, ?_⟩,fun t k hk=>?_,fun x hx w hw=>?_⟩,fun mi=>⟨fun w hw=>?_, ?_⟩⟩
     · show (List.set _ _ _).getD _ _=_
       rw [key,if_neg (fun q=>hnq (by rw [← q]; exact hw))]
     · show (List.set _ _ _).getD _ _=_
       rw [key,if_neg (fun q=>hw (by rw [q]; simp))]
     · show (List.set _ _ _).getD _ _=_
       rw [Z2M,if_neg (fun q=>hw (by rw [← q.1]; simp))]
     · show (List.set _ _ _).getD _ _=_
       rw [Z0m,if_neg (fun q=>Zdd hk q.1)]
     · rcases List.mem_append.1 hw with hw | hw
       · exact hx w hw
       · rw [List.mem_singleton.1 hw,← Z6k hok hG ht hf hi hne hg]
         exact hx _ hm
     · show min s.m _<=(List.set _ _ _).getD _ _
       rw [key]
       rcases List.mem_append.1 hw with hw | hw
       · rw [if_neg (fun q=>hnq (by rw [← q]; exact hw))]
         have:=mi.1 w hw; omega
       · rw [if_pos (List.mem_singleton.1 hw)]; omega
     · show ∃ w,_/\min s.m _=(List.set _ _ _).getD _ _
       obtain ⟨v,v1,v2⟩:=mi.2
       rcases Int.le_total s.m (fW Gl s.X t f i) with q | q
       · exact ⟨v,List.mem_append_left _ v1,by rw [key,if_neg (fun q=>hnq (by rw [← q]; exact v1))]; omega⟩
       · exact ⟨fV Gl t f i,by simp,by rw [key,if_pos rfl]; omega⟩
   · split at e
     · cases e
     · obtain rfl:=Option.some.inj e
       exact ⟨KI.refl _ _ _,id⟩
theorem Z4h {Gl:List Int} {chk:Bool} {n t i:Nat} (hok:Z0t Gl n=true) (hG:Gl.length=n*20) (ht:t<n) (hi:i<4):∀ {k f:Nat} {s s':FSt} {B:Int},f+k<=4->FOk n s B->0<=B->4*t+i ∈ s.Q->Z2i Gl chk t i k f s=some s'->KI Gl n s s'/\(MI s->MI s')
 | 0,f,s,s',B,_,h,hB,hm,e=>by
  obtain rfl:=Option.some.inj e
  exact ⟨KI.refl _ _ _,id⟩
 | k+1,f,s,s',B,hf,h,hB,hm,e=>by
  rw [Z2i] at e
  obtain ⟨s1,e1,e2⟩:=Option.bind_eq_some_iff.1 e
  obtain ⟨a1,a2⟩:=Z8v hok hG h ht qO hi hm e1
  obtain ⟨R,hR⟩:=a1.q
  obtain ⟨b1,b2⟩:=Z4h hok hG ht hi qO (Zdu hok hG h hB ht qO hi e1) qO (by rw [hR]; exact List.mem_append_left _ hm) e2
  exact ⟨a1.trans b1,fun m=>b2 (a2 m)⟩
def LI (s:FSt) (k:Nat) (l:Int):Prop:=l<=0/\(∀ j,j<k->j<s.Q.length->l<=s.X.getD (ps (s.Q.getD j 0)) 0)/\(l=0 ∨ ∃ w,w ∈ s.Q/\l=s.X.getD (ps w) 0)
theorem LI.last {n:Nat} {s:FSt} {k:Nat} {l B:Int} (h:FOk n s B) (hk:¬ k<s.Q.length) (a:LI s k l) (m:MI s):l=s.m:=by
 obtain ⟨a1,a2,a3⟩:=a
 obtain ⟨m1,w,m2,m3⟩:=m
 have hb:=h.mb
 have k1:l<=s.m:=by
  obtain ⟨j,hj,rfl⟩:=List.getElem_of_mem m2
  have:=a2 j qO hj
  rw [List.getD_eq_getElem?_getD (l:=s.Q),List.getElem?_eq_getElem hj,Option.getD_some] at this
  omega
 rcases a3 with a3 | ⟨v,v1,v2⟩
 · omega
 · have:=m1 v v1; omega
theorem LI.step {Gl:List Int} {n:Nat} {s s':FSt} {k:Nat} {l:Int} (hk:k<s.Q.length) (a:LI s k l) (b:KI Gl n s s'):LI s' (k+1) (min l (s.X.getD (ps (s.Q.getD k 0)) 0)):=by
 obtain ⟨a1,a2,a3⟩:=a
 obtain ⟨R,hR⟩:=b.q
 have get:∀ j,j<s.Q.length->s'.Q.getD j 0=s.Q.getD j 0:=fun j hj=>by
  rw [hR,List.getD_eq_getElem?_getD,List.getD_eq_getElem?_getD,List.getElem?_append_left hj]
 have mem:∀ j,j<s.Q.length->s.Q.getD j 0 ∈ s.Q:=fun j hj=>by simp [List.getD_eq_getElem?_getD,List.getElem?_eq_getElem hj]
 refine ⟨by omega,fun j hj hj'=>?_, ?_⟩
 · have hjl:j<s.Q.length:=by omega
   rw [get j hjl,b.x _ (mem j hjl)]
   by_cases e:j=k
   · subst e; omega
   · have:=a2 j qO hjl; omega
 · rcases Int.le_total l (s.X.getD (ps (s.Q.getD k 0)) 0) with q | q
   · rw [Int.min_eq_left q]
     rcases a3 with a3 | ⟨v,v1,v2⟩
     · exact .inl a3
     · exact .inr ⟨v,by rw [hR]; exact List.mem_append_left _ v1,by rw [b.x _ v1]; exact v2⟩
   · rw [Int.min_eq_right q]
     exact .inr ⟨s.Q.getD k 0,by rw [hR]; exact List.mem_append_left _ (mem k hk),(b.x _ (mem k hk)).symm⟩
set_option maxHeartbeats 2000000 in
theorem Zo4 (s:Value) (n:Nat) (Gl:List Int) (gb rb kb c1:Nat) (t13 t16:Value) (df:List Nat) (hn:n<=60) (hok:Z0t Gl n=true) (hrb:rb<256*c1) (hkb:kb<256*c1) (hne:rb ≠ kb) (hgb:gb<256*c1) (hg1:gb ≠ rb) (hg2:gb ≠ kb) (hsb:0<n->Z0l s ≠ rb/\Z0l s ≠ kb) :
 ∀ (r k cc:Nat) (h:FH) (t17:Value) (S:FSt) (B l:Int),4*n<=r+k->k<=4*n->c1<=cc->Z09 h gb [s]->SlI h c1 s 20 n Gl->h.f rb=some (.cells false none (ints S.X))->h.f kb=some (.cells false none (bools S.K))->Z2Q c1 h cc t17 S.Q.length (ints (zs S.Q))->FOk n S B->0<=B->B+r*4000000<=50000000000000000->LI S k l->MI S →
 Ans (G (Z98 none) [ptrTo gb,.slice (some ⟨rb,0,none⟩) (7*n) (7*n),.slice (some ⟨kb,0,none⟩) (4*n) (4*n),t13,t16,t17,.int .i64 l,.int .i64 k] h cc df)
  (FdP rb kb c1 cc h df (.exit 12) (fun v r S'=>∃ j,r.vs=[ptrTo gb,.slice (some ⟨rb,0,none⟩) (7*n) (7*n),.slice (some ⟨kb,0,none⟩) (4*n) (4*n),t13,t16,v,.int .i64 S'.m,.int .i64 j]) (fQ Gl false r k S)):=by
 intro r
 have stop:∀ (r k cc:Nat) (h:FH) (t17:Value) (S:FSt) (B l:Int),¬ k<S.Q.length->k<=4*n->c1<=cc->h.f rb=some (.cells false none (ints S.X))->h.f kb=some (.cells false none (bools S.K))->Z2Q c1 h cc t17 S.Q.length (ints (zs S.Q))->FOk n S B->LI S k l->MI S →
  Ans (G (Z98 none) [ptrTo gb,.slice (some ⟨rb,0,none⟩) (7*n) (7*n),.slice (some ⟨kb,0,none⟩) (4*n) (4*n),t13,t16,t17,.int .i64 l,.int .i64 k] h cc df)
  (FdP rb kb c1 cc h df (.exit 12) (fun v r S'=>∃ j,r.vs=[ptrTo gb,.slice (some ⟨rb,0,none⟩) (7*n) (7*n),.slice (some ⟨kb,0,none⟩) (4*n) (4*n),t13,t16,v,.int .i64 S'.m,.int .i64 j]) (some S)):=by
  intro r k cc h t17 S B l hk hk4 hc e1 e2 ha hS hl hM
  have ll:=ha.sl.len
  have hql:=hS.ql
  have hlm:=hl.last hS hk hM
  refine Ans.lpN rfl rfl (Z80 ..) ?_
  unfold Z9k
  have fx:=ll
  refine Ans.go ?_
  clear fx
  exact Ans.exitN ⟨(by show cc<=cc+1; omega),rfl,fun _ _ _ _=>rfl,S,rfl,rfl,t17,⟨k,by rw [hlm]⟩,e1,e2,ha.mono (by show cc<=cc+1; omega)⟩
 induction r with
 | zero =>
  intro k cc h t17 S B l hr hk hc hg hs e1 e2 ha hS hB hB2 hl hM
  have hql:=hS.ql
  exact stop 0 k cc h t17 S B l qO hk hc e1 e2 ha hS hl hM
 | succ r ih =>
  intro k cc h t17 S B l hr hk hc hg hs e1 e2 ha hS hB hB2 hl hM
  rw [fQ]
  by_cases hkq:k<S.Q.length
  case neg=>rw [if_neg hkq]; exact stop (r+1) k cc h t17 S B l hkq hk hc e1 e2 ha hS hl hM
  rw [if_pos hkq]
  have hql:=hS.ql
  have hm:S.Q.getD k 0 ∈ S.Q:=by simp [List.getD_eq_getElem?_getD,List.getElem?_eq_getElem hkq]
  have hw:=(hS.qk _ hm).1
  have sl:=ha.sl
  have ll:=sl.len
  have l1:=sl.rdi (k:Int) qO qO
  rw [Z1y,ZcW,Int.toNat_natCast] at l1
  have lstep:=fun S' (b:KI Gl n S S')=>hl.step hkq b
  obtain ⟨w,hw'⟩:∃ w,S.Q.getD k 0=w:=⟨_,rfl⟩
  rw [hw'] at l1 hw hm lstep ⊢
  have q1:=Z5l w 4 qO qO
  have q2:=Z5k w 4 qO
  simp only [Int.ofNat_eq_natCast,Int.cast_ofNat_Int] at q1 q2
  have d1:w / 4<n:=by omega
  have d2:w % 4<4:=by omega
  have hps:ps w=7*(w / 4)+w % 4:=by unfold ps; omega
  have hwe:4*(w / 4)+w % 4=w:=by omega
  rw [hps] at lstep
  obtain ⟨T,hT⟩:∃ T,w / 4=T:=⟨_,rfl⟩
  obtain ⟨E,hE⟩:∃ E,w % 4=E:=⟨_,rfl⟩
  rw [hT] at q1 d1 lstep hwe ⊢
  rw [hE] at q2 d2 lstep hwe ⊢
  have hxl:=hS.xl
  have tz:(7*(T:Int)+E).toNat=7*T+E:=by omega
  have l2:ld1 h (.pointer (some ⟨rb,7*T+E,none⟩))=some (.int .i64 (S.X.getD (7*T+E) 0)):=by
   rw [Z01 ⟨false,none,e1⟩,ints_getD _ _ qO]
  obtain ⟨A,hA⟩:∃ A,S.X.getD (7*T+E) 0=A:=⟨_,rfl⟩
  rw [hA] at l2 lstep
  have mn:Z28 min2 [.int .i64 l,.int .i64 A]=some (.int .i64 (min l A)):=by
   rw [Z5n,show (if A<l then A else l)=min l A by split <;> omega]
  obtain ⟨L,hL⟩:∃ L,min l A=L:=⟨_,rfl⟩
  rw [hL] at mn lstep
  obtain ⟨⟨re,rv,rh,rc,rd⟩,hfc,p1,p2,p3,S1,hF,p4,v,p5,p6,p7,p8⟩:=Zo8 s n Gl gb rb kb c1 t13 t16 (.int .i64 L) (.int .i64 k) T E df hn hok hrb hkb hne d1 d2 hgb hg1 hg2 (hsb qO) 4 0 (cc+1+1+1+1+1) h t17 S B qO qO hg hs e1 e2 (ha.mono qO) hS hB qO
  simp only [Int.ofNat_eq_natCast,Int.cast_ofNat_Int] at hfc
  simp only at p1 p2 p3 p4 p5 p6 p7 p8
  subst p2 p4 p5
  rw [hF]
  have o1:=Z4G hok hs.1 d1 d2 qO hS hB hF
  obtain ⟨kp,km⟩:=Z4h hok hs.1 d1 d2 qO hS hB (by rw [hwe]; exact hm) hF
  have fin:=(ih (k+1) (rc+1) rh v S1 (B+4*1000000) L qO qO qO (hg.eqf (p3 gb hgb hg1 hg2)) (hs.keep fun hp=>p3 _ (hs.blk hp) (hsb hp).1 (hsb hp).2) p6 p7 (p8.mono qO) o1 qO qO (lstep S1 kp) (km hM)).mono fun r p=>p.mono (by omega:cc<=_) p3
  clear ih stop lstep hl hM
  refine Ans.lpN rfl rfl (Z80 ..) ?_
  unfold Z9k
  have fx:=ai ll (ai sl.ixs1 (ai l1 (ai q1 (ai q2 (ai tz (ai l2 (ai mn hfc)))))))
  refine Ans.go ?_
  clear fx
  refine Ans.nextN ?_
  exact fin

def quL (V:List Int):Nat->Nat->List Int
 | 0,_=>[]
 | k+1,t=>Z0y V t++quL V k (t+1)
theorem ZiE (v:Value) (n nv:Nat) (V:List Int) (c0:Nat) (hnv:nv=7*n) (hn:n<=60) (df:List Nat) :
 ∀ (k t c:Nat) (h:FH) (out:Value) (X:List Int),t+k=n->c0<=c->SlI h c0 v 1 nv V->SlX h v 1 nv->Z2Q c0 h c out (3*t) (ints X) →
 Ans (G (Zch none) [v,out,.int .i64 n,.int .i64 t] h c df) fun r=>r.e = .exit 0/\c<=r.c/\r.df=df/\Z0u c0 h r.h/\Z2Q c0 r.h r.c (r.v 1) (3*n) (ints (X++quL V k t)):=by
 intro k
 induction k with
 | zero =>
  intro t c h out X ht hc hs hx ha
  obtain rfl:t=n:=by omega
  refine Ans.lpN rfl rfl (Z7T ..) ?_
  unfold Z8V
  have fx:=True.intro
  refine Ans.go ?_
  clear fx
  refine Ans.exitN ⟨rfl,(by show c<=c+1; omega),rfl,fun _ _=>rfl, ?_⟩
  rw [quL,List.append_nil]
  exact ha.mono (by show c<=c+1; omega)
 | succ k ih =>
  intro t c h out X ht hc hs hx ha
  have x1:=SlX.sub hs hx .i64 .i64 (7*(t:Int)+4) (7*(t:Int)+7) qO qO qO qO
  rw [show (7*(t:Int)+4).toNat=7*t+4 by omega,show (7*(t:Int)+7).toNat=7*t+7 by omega] at x1
  have x2:=SlI.sub hs (7*t+4) (7*t+7) qO qO qO
  rw [show 7*t+7-(7*t+4)=3 by omega,Nat.mul_one,Nat.mul_one,show (V.drop (7*t+4)).take 3=Z0y V t from rfl] at x2
  have hq:(Z0y V t).length=3:=x2.1
  obtain ⟨h',p1,p2,p3⟩:=(ha.mono (c':=c+1+1) qO).appN (c':=c+1+1+1) (x2.slc qO qO) qO hq 8 (256*(c+1+1)+9) qO qO qO qO
  have bo:=ha.blk
  have s0:Z0u c0 h h':=fun b hb=>p3 b qO qO
  have htn:(t:Int)<n:=by omega
  refine Ans.lpN rfl rfl (Z7T ..) ?_
  unfold Z8V
  have fx:=ai x1 p1
  refine Ans.go ?_
  clear fx
  refine Ans.nextN ?_
  have e:ints X++ints (Z0y V t)=ints (X++Z0y V t):=by simp [ints]
  rw [e] at p2
  refine (ih (t+1) _ h' _ (X++Z0y V t) qO qO (hs.same s0) (SlX.keep hs s0 hx) (by rw [show 3*(t+1)=3*t+3 by omega]; exact p2.mono qO)).mono ?_
  rintro r ⟨q1,q2,q3,q4,q5⟩
  refine ⟨q1,by omega,q3,s0.trans q4, ?_⟩
  rw [quL,← List.append_assoc]
  exact q5
theorem Zmh (s v:Value) (n nv:Nat) (Gl V:List Int) (h:FH) (c:Nat) (df:List Nat) (hs:SlI h c s 20 n Gl) (hv:SlI h c v 1 nv V) (hx:SlX h v 1 nv) (hnv:nv=7*n) (hn:n<=60) :
 Ans (G (.fn 54) [.agg #[s],v] h c df) fun r=>∃ w,r=⟨.ret,[w],r.h,r.c,[]⟩/\c<=r.c/\Z0u c h r.h/\Z2Q c r.h r.c w (3*n) (ints (quL V n 0)):=by
 refine Ans.call' (fun r e=>f54_go e) ?_
 unfold Zrj
 rw [Z4s hs.flat,Z4m,Nat.add_zero]
 simp only [cond_true]
 obtain ⟨H,hH⟩:∃ H,newB (newB h (256*c) [s]) (256*(c+1)) []=H:=⟨_,rfl⟩
 have sH:Z0u c h H:=by rw [← hH]; simp (disch:=omega)
 have hg:Z09 H (256*c) [s]:=by rw [← hH]; exact (Z09.newB_same _ _ _).newB_ne qO
 have fB:H.f (256*(c+1))=some (.cells false none []):=by rw [← hH,Z08,if_pos rfl]
 have hb0:Z2T [] []=some []:=rfl
 have l1:ld1 H (.pointer (some ⟨256*c,0,none⟩))=some s:=by rw [Z01 hg]; rfl
 have ls:=hs.len
 obtain ⟨⟨re,rv,H2,c2,rd⟩,hr,q1,q2,q3,q4,q5⟩:=ZiE v n nv V c hnv hn [] n 0 (c+1+1+1) H (.slice (some ⟨256*(c+1),0,none⟩) 0 0) [] qO qO (hv.same sH) (SlX.keep hv sH hx) ⟨rfl,by omega,rfl,256*(c+1),none,rfl,by omega,by omega,fB,.inl rfl⟩
 simp only [Int.ofNat_eq_natCast,Int.cast_ofNat_Int] at hr
 simp only at q1 q2 q3 q4 q5
 subst q1 q3
 have fx:=ai hb0 (ai hH (ai l1 (ai ls hr)))
 refine Ans.go ?_
 clear fx
 have g6:Z2Q c H2 (c2+1) (Rt.v ⟨Ex.exit 0,rv,H2,c2,[]⟩ 1) (3*n) (ints (quL V n 0)):=by
  rw [List.nil_append] at q5
  exact q5.mono qO
 exact .done ⟨_,rfl,(by show c<=c2+1; omega),sH.trans q4,g6⟩

theorem Zkf (s v:Value) (n nv:Nat) (Gl V:List Int) (h:FH) (c:Nat) (df:List Nat) (hs:SlI h c s 20 n Gl) (hv:SlI h c v 1 nv V) (hx:SlX h v 1 nv) (hnv:nv<=1000000) :
 Ans (G (.fn 24) [.agg #[s],v] h c df) fun r=>r.e = .ret/\r.df=[]/\c<=r.c/\Z0u c h r.h ∧
  ((Z5b Gl n (Z1h Gl n V) ≠ 0/\r.vs=[.tuple #[.slice none 0 0,.int .i64 (Z5b Gl n (Z1h Gl n V))]]) ∨
   (Z5b Gl n (Z1h Gl n V)=0 /\ ∃ w,r.vs=[.tuple #[w,.int .i64 0]]/\Z2Q c r.h r.c w (3*n) (ints (quL V n 0)))):=by
 refine Ans.call' (fun r e=>f24_go e) ?_
 unfold Zrw
 rw [Z4s hs.flat,Z4m,Nat.add_zero]
 simp only [cond_true]
 have hbl:=Zq7 hv
 obtain ⟨H,hH⟩:∃ H,H=newB (newB h (256*c) [s]) (256*(c+1)+2) [v]:=⟨_,rfl⟩
 have sH:Z0u c h H:=by rw [hH]; simp (disch:=omega)
 have hg:Z09 H (256*c) [s]:=by rw [hH]; exact (Z09.newB_same _ _ _).newB_ne qO
 have hq:Z09 H (256*(c+1)+2) [v]:=by rw [hH]; exact Z09.newB_same _ _ _
 have l0:ldN (newB h (256*c) [s]) 1 (.pointer (some ⟨256*c,0,none⟩))=some (.agg #[s]):=Z0p (Z09.newB_same _ _ _)
 have l1:=Z0p hg
 have c1:=Zq5 s v n nv Gl V (256*(c+1)+2) H (c+1+1) ((hs.same sH).mono qO) ((hv.same sH).mono qO) (SlX.keep hv sH hx) hnv qO hq
 have hH':=hH.symm
 obtain ⟨E,hE⟩:∃ E,Z5b Gl n (Z1h Gl n V)=E:=⟨_,rfl⟩
 by_cases h0:E=0
 case neg =>
  rw [hE] at c1 ⊢
  have fx:=ai l0 (ai hbl (ai hH' c1))
  refine Ans.go ?_
  clear fx
  exact .done ⟨rfl,rfl,(by show c<=c+1+1+1+1; omega),sH,.inl ⟨h0,rfl⟩⟩
 have hr0:Z7p Gl n=0/\Z1h Gl n V=true:=by
  rw [h0] at hE
  unfold Z5b at hE
  split at hE
  · rename_i h1
    split at hE
    · rename_i h2; exact ⟨h1,h2⟩
    · cases hE
  · rename_i h1; exact absurd hE h1
 obtain ⟨hn,hok⟩:=Z1f hr0.1
 have ha:=hr0.2
 unfold Z1h at ha
 simp only [Bool.and_eq_true,decide_eq_true_eq] at ha
 obtain ⟨⟨⟨a1,a2⟩,_⟩,_⟩:=ha
 rw [hE] at c1 ⊢
 obtain ⟨⟨re,rv,H2,c2,rd⟩,hr,w,q1,q2,q3,q4⟩:=Zmh s v n nv Gl V H (c+1+1+1+1) [] ((hs.same sH).mono qO) ((hv.same sH).mono qO) (SlX.keep hv sH hx) (by have:=hv.1; omega) hn
 obtain ⟨rfl,rfl,-,-,rfl⟩:=Rt.mk.inj q1
 simp only at q2 q3 q4
 have cw:=Z05 hr
 subst h0
 have fx:=ai l0 (ai hbl (ai hH' (ai c1 (ai l1 cw))))
 refine Ans.go ?_
 clear fx
 have g6:Z2Q c H2 c2 w (3*n) (ints (quL V n 0)):=by
  obtain ⟨z1,z2,z3,i,op,z4,z5,z6,z7,z8⟩:=q4
  exact ⟨z1,z2,z3,i,op,z4,by omega,by omega,z7,z8⟩
 exact .done ⟨rfl,rfl,(by show c<=c2; omega),sH.trans (q3.mono qO),.inr ⟨rfl,w,rfl,g6⟩⟩

theorem Zg8 (l k:Nat):Z00 P .eql 34 (.slice none l k) (.slice none 0 0)=some (.bool true):=by rw [Z0H]; kernel_rfl
theorem Zg7 (a:Addr) (l k:Nat):Z00 P .eql 34 (.slice (some a) l k) (.slice none 0 0)=some (.bool false):=by rw [Z0H]; kernel_rfl
theorem SlC.keep {h h':FH} {c:Nat} {s:Value} {sz n:Nat} {L:List Int} (hs:SlI h c s sz n L) (hh:Z0u c h h') (hC:SlC h s sz n L):SlC h' s sz n L:=by
 obtain ⟨_,_,a,cap,rfl,hc4⟩:=hs
 cases a with
 | none=>exact hC
 | some a =>
  have hb:a.block<256*c:=by
   rcases hc4 with ⟨e0,ov⟩ | ⟨b,o,cs,e,e2,_,_⟩
   · obtain ⟨v',hv'⟩:=ov
     cases hv' with
     | sl hh' _ _=>exact Z6g (by rw [hh']; simp)
     | slE hh'=>exact Z6g (by rw [hh']; simp)
   · cases e; exact e2
  have:HeapC.get h' a.block=HeapC.get h a.block:=hh _ hb
  obtain ⟨b,o,p⟩:=a
  simp only at this
  cases p with
  | none=>simpa only [SlC,Z0N,Z0Q,Z0n,this] using hC
  | some p=>exact hC
theorem Zpi (v:Value) (n:Nat) (V:List Int) (h:FH) (c:Nat) (df:List Nat) (hs:SlI h c v 1 n V) (hC:SlC h v 1 n V) (hn:n<=1000000) :
 Ans (G (.fn 53) [v] h c df) fun r=>∃ w,r=⟨.ret,[w],r.h,c+1+1+1,[]⟩/\Z0u c h r.h/\SlI r.h r.c w 1 n V/\SlX r.h w 1 n/\SlC r.h w 1 n V/\(0<n->w = .slice (some ⟨256*(c+1+1)+2,0,none⟩) n n/\r.h.f (256*(c+1+1)+2)=some (.cells false (some 1) (ints V))):=by
 refine Ans.call' (fun r e=>f53_go e) ?_
 unfold Zld
 obtain ⟨g1,g2,a,cap,rfl,h4⟩:=hs
 cases a with
 | none =>
  have hn0:n=0:=by
   rcases h4 with ⟨e,_⟩ | ⟨b,o,cs,e,_⟩
   · exact e
   · cases e
  have e1:=Zg8 n cap
  have fx:=e1
  refine Ans.go ?_
  clear fx
  subst hn0
  obtain rfl:V=[]:=List.eq_nil_of_length_eq_zero qO
  exact .done ⟨_,rfl,fun _ _=>rfl,⟨g1,by omega,none,0,rfl,.inl ⟨rfl,OkV.sl0 _ _ _⟩⟩,⟨Nat.le_refl _,rfl⟩,rfl,fun h=>by omega⟩
 | some a =>
  have e1:=Zg7 a n cap
  have hb0:Z2T [] []=some []:=rfl
  obtain ⟨H,hH⟩:∃ H,newB h (256*(c+1+1)) []=H:=⟨_,rfl⟩
  have sH:Z0u (c+1) h H:=by rw [← hH]; intro b hb; rw [Z08,if_neg qO]
  have fB:H.f (256*(c+1+1))=some (.cells false none []):=by rw [← hH,Z08,if_pos rfl]
  have hC':=SlC.keep (c:=c) ⟨g1,g2,some a,cap,rfl,h4⟩ (sH.mono qO) hC
  obtain ⟨w,H2,q1,q2,q3,q4,q5,q6⟩:=Zil (c:=c+1+1) (c':=c+1+1+1) hC' g1 qO 8 (256*(c+1+1)) (256*(c+1+1)+2) fB qO qO qO qO
  have fx:=ai e1 (ai hb0 (ai hH q1))
  refine Ans.go ?_
  clear fx
  exact .done ⟨_,rfl,fun b hb=>by show H2.f b=_; rw [q5 b qO,sH b qO],q2,q3,q4,q6⟩

def mnK (C V:List Int) (first:Nat):Nat->Nat->Int->Int
 | 0,_,a=>a
 | r+1,x,a=>mnK C V first r (x+1) (if Z02 C x=first then (if gi V (x / 4*7+x % 4:Nat)<a then gi V (x / 4*7+x % 4:Nat) else a) else a)
def ZeZ (C:List Int) (first:Nat) (m:Int):Nat->Nat->List Int->List Int
 | 0,_,X=>X
 | r+1,x,X=>ZeZ C first m r (x+1) (if Z02 C x=first then X.set (x / 4*7+x % 4) (X.getD (x / 4*7+x % 4) 0-m) else X)
theorem Z48 (C:List Int) (first:Nat) (m:Int):∀ (r x:Nat) (X:List Int),(ZeZ C first m r x X).length=X.length
 | 0,_,_=>rfl
 | r+1,x,X=>by
  rw [ZeZ,Z48]
  split
  · simp
  · rfl
theorem Zeo {C V:List Int} {first:Nat} (hV:∀ j,0<=gi V j/\gi V j<=1000000):∀ {r x:Nat} {a:Int},0<=a->a<=1000000->0<=mnK C V first r x a/\mnK C V first r x a<=1000000
 | 0,_,_,h1,h2=>⟨h1,h2⟩
 | r+1,x,a,h1,h2=>by
  rw [mnK]
  have:=hV (x / 4*7+x % 4:Nat)
  refine Zeo hV ?_ ?_ <;> (split <;> (try split) <;> omega)
theorem Zmq (v:Value) (n nv:Nat) (V C:List Int) (p b c:Nat) (h:FH) (v4 v5 v33 v34 v35:Value) (first:Nat) (hn:n<=60) (hnv:nv=7*n) (hv:SlI h c v 1 nv V) (hV:∀ j,0<=gi V j/\gi V j<=1000000) (u:Uf h p b (4*n) C) (hp:p<256*c) (o4:OkV c v4) (o5:OkV c v5) (o33:OkV c v33) (o34:OkV c v34) (o35:OkV c v35) (df:List Nat) :
 ∀ (r x:Nat) (a:Int),x+r=4*n →
 Ans (G (ZcF none) [v,v4,v5,ptrTo p,.int .i64 first,.int .i64 a,v33,v34,v35,.int .i64 (4*n:Nat),.int .i64 x] h c df) fun q=>q=⟨.exit 2,[v,v4,v5,ptrTo p,.int .i64 first,.int .i64 (mnK C V first r x a),v33,v34,v35,.int .i64 (4*n:Nat),.int .i64 (4*n:Nat)],h,c,df⟩:=by
 intro r
 have o1:=hv.okV
 induction r with
 | zero =>
  intro x a hx
  obtain rfl:x=4*n:=by omega
  refine Ans.lpG rfl rfl (Z5S ..) ?_
  unfold Z54
  have fx:=True.intro
  refine Ans.go ?_
  clear fx
  (have fx:=ai o1 (ai o4 (ai o5 (ai o33 (ai o34 (ai o35 hp))))); refine Ans.ex0 ?_; clear fx)
  rfl
 | succ r ih =>
  intro x a hx
  have c1:∀ c',c<=c'->callF G 46 [.pointer (some ⟨p,0,none⟩),.int .i64 x] h c'=_:=fun c' (hc:c<=c')=>Z05 (Zas h p b (4*n) c' C u qO x qO [])
  have q1:=Z5l x 4 qO qO
  have q2:=Z5k x 4 qO
  simp only [Int.ofNat_eq_natCast,Int.cast_ofNat_Int] at q1 q2
  have d1:x / 4<=n-1:=by omega
  have d2:x % 4<4:=by omega
  rw [mnK]
  obtain ⟨T,hT⟩:∃ T,x / 4=T:=⟨_,rfl⟩
  obtain ⟨E,hE⟩:∃ E,x % 4=E:=⟨_,rfl⟩
  rw [hT] at q1 d1 ⊢
  rw [hE] at q2 d2 ⊢
  have l1:=hv.rdi ((T:Int)*7+E) qO qO
  rw [show ((T*7+E:Nat):Int)=(T:Int)*7+E by omega]
  have hx4:(x:Int)<(4*n:Nat):=by omega
  obtain ⟨R,hR⟩:∃ R,Z02 C x=R:=⟨_,rfl⟩
  obtain ⟨Y,hY⟩:∃ Y,gi V ((T:Int)*7+E)=Y:=⟨_,rfl⟩
  rw [hR] at c1 ⊢
  rw [hY] at l1 ⊢
  have mm:=Z5n .i64 a Y
  refine Ans.lpG rfl rfl (Z5S ..) ?_
  unfold Z54
  by_cases e:R=first
  · rw [if_pos e]
    have e':(R:Int)=first:=by omega
    have fx:=ai c1 (ai q1 (ai q2 (ai hv.ixs1 (ai l1 mm))))
    refine Ans.go ?_
    clear fx
    (have fx:=ai o1 (ai o4 (ai o5 (ai o33 (ai o34 (ai o35 hp))))); refine Ans.nx0 ?_; clear fx)
    exact ih (x+1) _ qO
  · rw [if_neg e]
    have e':¬ (R:Int)=first:=by omega
    have fx:=c1
    refine Ans.go ?_
    clear fx
    (have fx:=ai o1 (ai o4 (ai o5 (ai o33 (ai o34 (ai o35 hp))))); refine Ans.nx0 ?_; clear fx)
    exact ih (x+1) a qO

theorem ZlZ (h0:FH) (v:Value) (n:Nat) (C:List Int) (p b rb c:Nat) (v4 v33 v34 v35:Value) (first:Nat) (m:Int) (hn:n<=60) (hm:0<=m/\m<=1000000) (u:Uf h0 p b (4*n) C) (hp:p<256*c) (hb:b<256*c) (hrb:rb<256*c) (h1:rb ≠ p) (h2:rb ≠ b) (o1:OkV c v) (o4:OkV c v4) (o33:OkV c v33) (o34:OkV c v34) (o35:OkV c v35) (df:List Nat) :
 ∀ (r x:Nat) (X:List Int) (B:Int),x+r=4*n->X.length=7*n->(∀ j:Nat,-B<=X.getD j 0/\X.getD j 0<=1000000)->0<=B->B+r*1000000<=1000000000000000 →
 Ans (G (ZcE none) [v,v4,.slice (some ⟨rb,0,none⟩) (7*n) (7*n),ptrTo p,.int .i64 first,.int .i64 m,v33,v34,v35,.int .i64 (4*n:Nat),.int .i64 x] (HeapC.set h0 rb (.cells false (some 1) (ints X))) c df) fun q=>q=⟨.exit 4,[v,v4,.slice (some ⟨rb,0,none⟩) (7*n) (7*n),ptrTo p,.int .i64 first,.int .i64 m,v33,v34,v35,.int .i64 (4*n:Nat),.int .i64 (4*n:Nat)],HeapC.set h0 rb (.cells false (some 1) (ints (ZeZ C first m r x X))),c,df⟩:=by
 intro r
 induction r with
 | zero =>
  intro x X B hx hX hB b1 b2
  obtain rfl:x=4*n:=by omega
  refine Ans.lpG rfl rfl (Z5R ..) ?_
  unfold Z53
  have fx:=True.intro
  refine Ans.go ?_
  clear fx
  (have fx:=ai o1 (ai o4 (ai hrb (ai o33 (ai o34 (ai o35 hp))))); refine Ans.ex0 ?_; clear fx)
  rfl
 | succ r ih =>
  intro x X B hx hX hB b1 b2
  obtain ⟨H,hH⟩:∃ H,HeapC.set h0 rb (.cells false (some 1) (ints X))=H:=⟨_,rfl⟩
  have fH:H.f rb=some (.cells false (some 1) (ints X)):=by rw [← hH,Z0g,if_pos rfl]
  have u':Uf H p b (4*n) C:=u.keep (by rw [← hH,Z0g,if_neg (Ne.symm h1)]) (by rw [← hH,Z0g,if_neg (Ne.symm h2)])
  have c1:∀ c',c<=c'->callF G 46 [.pointer (some ⟨p,0,none⟩),.int .i64 x] H c'=_:=fun c' (hc:c<=c')=>Z05 (Zas H p b (4*n) c' C u' qO x qO [])
  have q1:=Z5l x 4 qO qO
  have q2:=Z5k x 4 qO
  simp only [Int.ofNat_eq_natCast,Int.cast_ofNat_Int] at q1 q2
  have d1:x / 4<=n-1:=by omega
  have d2:x % 4<4:=by omega
  rw [ZeZ]
  obtain ⟨T,hT⟩:∃ T,x / 4=T:=⟨_,rfl⟩
  obtain ⟨E,hE⟩:∃ E,x % 4=E:=⟨_,rfl⟩
  rw [hT] at q1 d1 ⊢
  rw [hE] at q2 d2 ⊢
  have hx4:(x:Int)<(4*n:Nat):=by omega
  have e7:((T:Int)*7+E).toNat=T*7+E:=by omega
  have l1:ld1 H (.pointer (some ⟨rb,T*7+E,none⟩))=some (.int .i64 (X.getD (T*7+E) 0)):=by
   rw [Z01 ⟨false,some 1,fH⟩,ints_getD _ _ qO]
  have bx:=hB (T*7+E)
  have hw:∀ y:Int,stN H 1 (.pointer (some ⟨rb,T*7+E,none⟩)) (.int .i64 y)=some (HeapC.set H rb (.cells false (some 1) (ints (X.set (T*7+E) y)))):=fun y=>by
   rw [Z12 (show HeapC.get H rb=_ from fH) (by simp; omega) rfl rfl,Z0K]
  have nb:∀ j:Nat,-(B+1000000)<=(X.set (T*7+E) (X.getD (T*7+E) 0-m)).getD j 0/\(X.set (T*7+E) (X.getD (T*7+E) 0-m)).getD j 0<=1000000:=fun j=>by
   rw [Z0m]
   have:=hB j
   split <;> omega
  obtain ⟨R,hR⟩:∃ R,Z02 C x=R:=⟨_,rfl⟩
  rw [hR] at c1 ⊢
  obtain ⟨Y,hY⟩:∃ Y,X.getD (T*7+E) 0=Y:=⟨_,rfl⟩
  rw [hY] at l1 bx nb ⊢
  rw [hH]
  refine Ans.lpG rfl rfl (Z5R ..) ?_
  unfold Z53
  by_cases e:R=first
  · rw [if_pos e]
    have e':(R:Int)=first:=by omega
    have fx:=ai c1 (ai q1 (ai q2 (ai e7 (ai l1 hw))))
    refine Ans.go ?_
    clear fx
    (have fx:=ai o1 (ai o4 (ai hrb (ai o33 (ai o34 (ai o35 hp))))); refine Ans.nxB (B:=HeapC.set H rb (.cells false (some 1) (ints (X.set (T*7+E) (Y-m))))) ?_ ?_; exact (Z1A.set hrb (Z1c.ints _ _) (Z1A.refl _ _)); clear fx)
    rw [← hH,set_set]
    exact ih (x+1) _ (B+1000000) qO (by simp [hX]) nb qO qO
  · rw [if_neg e]
    have e':¬ (R:Int)=first:=by omega
    have fx:=c1
    refine Ans.go ?_
    clear fx
    (have fx:=ai o1 (ai o4 (ai hrb (ai o33 (ai o34 (ai o35 hp))))); refine Ans.nx0 ?_; clear fx)
    rw [← hH]
    exact ih (x+1) X B qO hX hB b1 qO

def mC (C V:List Int) (n:Nat) (x:Int):Int:=mnK C V x.toNat (4*n) 0 (gi V (x / 4*7+x % 4))
def prK (C V:List Int) (n:Nat):List Int->List Int->List Int
 | [],X=>X
 | x::F,X=>prK C V n F (ZeZ C x.toNat (mC C V n x) (4*n) 0 X)
theorem ZbA {C:List Int} {first:Nat} {m:Int} (hm:0<=m/\m<=1000000):∀ {r x:Nat} {X:List Int} {B:Int},(∀ j:Nat,-B<=X.getD j 0/\X.getD j 0<=1000000) -> ∀ j:Nat,-(B+r*1000000)<=(ZeZ C first m r x X).getD j 0/\(ZeZ C first m r x X).getD j 0<=1000000
 | 0,_,X,B,h=>fun j=>by
  have:=h j
  rw [ZeZ]; omega
 | r+1,x,X,B,h=>fun j=>by
  rw [ZeZ]
  have:=ZbA (C:=C) (first:=first) hm (r:=r) (x:=x+1) (X:=if Z02 C x=first then X.set (x / 4*7+x % 4) (X.getD (x / 4*7+x % 4) 0-m) else X) (B:=B+1000000) (fun i=>by
   have h1:=h i
   have h2:=h (x / 4*7+x % 4)
   split
   · rw [Z0m]; split <;> omega
   · omega) j
  omega
set_option maxHeartbeats 1000000 in
theorem Zkl (v:Value) (n nv:Nat) (V C:List Int) (p b rb c0:Nat) (F:Value) (m:Nat) (Fl:List Int) (hn:n<=60) (hnv:nv=7*n) (hV:∀ j,0<=gi V j/\gi V j<=1000000) (hp:p<256*c0) (hb:b<256*c0) (hrb:256*c0<=rb) (hF:∀ x,x ∈ Fl -> ∃ k:Nat,x=k/\k<4*n) (hm:m<=240) (df:List Nat) :
 ∀ (k i cc:Nat) (h:FH) (out:Value) (X Ls:List Int) (B:Int),i+k=m->c0<=cc->rb<256*cc->SlI h c0 v 1 nv V->Uf h p b (4*n) C->SlI h cc F 1 m Fl->(0<m->Z0l F ≠ Z0l out/\Z0l F ≠ rb)->h.f rb=some (.cells false (some 1) (ints X))->Z2Q c0 h cc out i (ints Ls)->Z0l out ≠ rb->X.length=7*n->(∀ j:Nat,-B<=X.getD j 0/\X.getD j 0<=1000000)->0<=B->B+k*240000000<=1000000000000000 →
 Ans (G (Z9A none) [v,out,.slice (some ⟨rb,0,none⟩) (7*n) (7*n),ptrTo p,F,.int .i64 m,.int .i64 i] h cc df) fun r=>r.e = .exit 0/\cc<=r.c/\r.df=df/\Z0u c0 h r.h/\r.v 2 = .slice (some ⟨rb,0,none⟩) (7*n) (7*n)/\r.h.f rb=some (.cells false (some 1) (ints (prK C V n (Fl.drop i) X)))/\Z2Q c0 r.h r.c (r.v 1) m (ints (Ls++(Fl.drop i).map (mC C V n))):=by
 intro k
 induction k with
 | zero =>
  intro i cc h out X Ls B hi hc hrc hv u sf hne hr ha hor hX hB hB0 hBk
  obtain rfl:i=m:=by omega
  have e:Fl.drop i=[]:=List.drop_of_length_le (by have:=sf.1; omega)
  rw [e]
  refine Ans.lpN rfl rfl (Z35 ..) ?_
  unfold Z3S
  have fx:=True.intro
  refine Ans.go ?_
  clear fx
  refine Ans.exitN ⟨rfl,(by show cc<=cc+1; omega),rfl,fun _ _=>rfl,rfl,hr, ?_⟩
  rw [List.map_nil,List.append_nil]
  exact ha.mono (by show cc<=cc+1; omega)
 | succ k ih =>
  intro i cc h out X Ls B hi hc hrc hv u sf hne hr ha hor hX hB hB0 hBk
  have hFl:=sf.1
  have l1:=sf.rdi i qO qO
  simp only [Int.toNat_natCast] at l1
  rw [Z1y] at l1
  have hLi:Fl.getD i 0=Fl[i]'qO:=by simp [List.getD_eq_getElem?_getD,List.getElem?_eq_getElem (by omega:i<Fl.length)]
  obtain ⟨x,hx,hx6⟩:=hF (Fl[i]'qO) (List.getElem_mem _)
  rw [hLi,hx] at l1
  have hdr:Fl.drop i=(x:Int)::Fl.drop (i+1):=by rw [List.drop_eq_getElem_cons qO,hx]
  rw [hdr,prK,List.map_cons]
  have q1:=Z5l x 4 qO qO
  have q2:=Z5k x 4 qO
  simp only [Int.ofNat_eq_natCast,Int.cast_ofNat_Int] at q1 q2
  have l2:=hv.rdi ((x / 4:Nat)*7+(x % 4:Nat)) qO qO
  have hmc:mC C V n x=mnK C V x (4*n) 0 (gi V ((x / 4:Nat)*7+(x % 4:Nat))):=by
   unfold mC
   rw [Int.toNat_natCast]
   congr 1
  have hmb:=Zeo (C:=C) (first:=x) hV (r:=4*n) (x:=0) (a:=gi V ((x / 4:Nat)*7+(x % 4:Nat))) (hV _).1 (hV _).2
  rw [← hmc] at hmb
  have o1:=fun c' (hc':c0<=c')=>(hv.mono hc').okV
  have oF:=fun c' (hc':cc<=c')=>(sf.mono hc').okV
  have oO:∀ c',cc<=c'->OkV c' out:=fun c' hc'=>by obtain ⟨_,_,_,j,op,rfl,_,h6,_⟩:=ha; exact OkV.sl qO
  have hmin:=Ans.eq (Zmq v n nv V C p b (cc+1+1+1+1) h out (.slice (some ⟨rb,0,none⟩) (7*n) (7*n)) F (.int .i64 m) (.int .i64 i) x hn hnv (hv.mono qO) hV u qO (oO _ qO) (OkV.sl qO) (oF _ qO) (by simp) (by simp) df (4*n) 0 (gi V ((x / 4:Nat)*7+(x % 4:Nat))) qO)
  rw [← hmc] at hmin
  have hsb:=ZbA (C:=C) (first:=x) hmb (r:=4*n) (x:=0) hB
  rw [Int.toNat_natCast]
  have lu:=u.ld
  obtain ⟨M,hM⟩:∃ M,mC C V n (x:Int)=M:=⟨_,rfl⟩
  rw [hM] at hmin hmb hsb ⊢
  have hself:HeapC.set h rb (.cells false (some 1) (ints X))=h:=by
   apply FH.ext; intro j
   rw [Z0g]
   split
   · rename_i e; rw [e,hr]
   · rfl
  have hsub:=Ans.eq (ZlZ h v n C p b rb (cc+1+1+1+1+1) out F (.int .i64 m) (.int .i64 i) x M hn hmb u qO qO qO qO qO (o1 _ qO) (oO _ qO) (oF _ qO) (by simp) (by simp) df (4*n) 0 X B qO hX hB hB0 qO)
  rw [hself] at hsub
  rw [show ((4*n:Nat):Int)=4*(n:Int) by omega] at hmin hsub
  simp only [Int.ofNat_eq_natCast,Int.cast_ofNat_Int] at hmin hsub
  obtain ⟨X',hX'⟩:∃ X',ZeZ C x M (4*n) 0 X=X':=⟨_,rfl⟩
  have hXl:X'.length=7*n:=by rw [← hX',Z48,hX]
  rw [hX'] at hsub hsb ⊢
  obtain ⟨H,hH⟩:∃ H,HeapC.set h rb (.cells false (some 1) (ints X'))=H:=⟨_,rfl⟩
  rw [hH] at hsub
  have fH:∀ j,j ≠ rb->H.f j=h.f j:=fun j hj=>by rw [← hH,Z0g,if_neg hj]
  have fHr:H.f rb=some (.cells false (some 1) (ints X')):=by rw [← hH,Z0g,if_pos rfl]
  have hbl:Z2T [.int .i64 0] [(0,1,.int .i64 M)]=some [.int .i64 M]:=rfl
  obtain ⟨h',p1,p2,p3⟩:=((ha.keep (h':=H) (fH _ hor)).mono (c':=cc+1+1+1+1+1) qO).app (c':=cc+1+1+1+1+1+1) (.int .i64 M) rfl 8 (256*(cc+1+1+1+1+1)+2) (256*(cc+1+1+1+1+1)+3) qO qO qO qO qO qO
  have bo:=ha.blk
  have s0:Z0u c0 h h':=fun j hj=>by rw [p3 j qO qO,fH j qO]
  have d1:x / 4<=n-1:=by omega
  have d2:x % 4<4:=by omega
  obtain ⟨T,hT⟩:∃ T,x / 4=T:=⟨_,rfl⟩
  obtain ⟨E,hE⟩:∃ E,x % 4=E:=⟨_,rfl⟩
  rw [hT] at q1 l2 d1 hmin
  rw [hE] at q2 l2 d2 hmin
  obtain ⟨Y,hY⟩:∃ Y,gi V ((T:Int)*7+E)=Y:=⟨_,rfl⟩
  rw [hY] at l2 hmin
  have him:(i:Int)<m:=by omega
  refine Ans.lpN rfl rfl (Z35 ..) ?_
  unfold Z3S
  have fx:=ai sf.ixs1 (ai l1 (ai q1 (ai q2 (ai hv.ixs1 (ai l2 (ai lu (ai hmin (ai hsub (ai hbl p1)))))))))
  refine Ans.go ?_
  clear fx
  refine Ans.nextN ?_
  have eI:ints Ls++[Value.int .i64 M]=ints (Ls++[M]):=by simp [ints]
  rw [eI] at p2
  refine (ih (i+1) _ h' _ X' (Ls++[M]) (B+(4*n:Nat)*1000000) qO qO qO (hv.same s0) (u.same s0 hp hb) ((sf.keep (fun hp=>?_)).mono qO) (fun hp=>?_) ?_ (p2.mono qO) (by rw [blkOf_sl]; omega) hXl hsb qO qO).mono ?_
  · obtain ⟨n1,n2⟩:=hne hp
    rw [p3 _ (by have:=sf.blk hp; omega) n1,fH _ n2]
  · obtain ⟨n1,n2⟩:=hne hp
    rw [blkOf_sl]
    exact ⟨by have:=sf.blk hp; omega,n2⟩
  · rw [p3 rb qO (Ne.symm hor),fHr]
  · rintro r ⟨z1,z2,z3,z4,z5,z6,z7⟩
    refine ⟨z1,by omega,z3,s0.trans z4,z5,z6, ?_⟩
    rw [List.append_assoc] at z7
    exact z7

theorem Zkm (v out w F:Value) (p c:Nat) (h:FH) (df:List Nat):Ans (G (Z9A none) [v,out,w,ptrTo p,F,.int .i64 0,.int .i64 0] h c df) fun r=>r=⟨.exit 0,[v,out,w,ptrTo p,F,.int .i64 0,.int .i64 0],h,c+1,df⟩:=by
 refine Ans.lpN rfl rfl (Z35 ..) ?_
 unfold Z3S
 have fx:=True.intro
 refine Ans.go ?_
 clear fx
 exact Ans.exitN rfl
def Z61 (Gl:List Int) (n:Nat) (V:List Int):List Int:=prK (vxC Gl n) V n (vxF Gl n) V
def Z7C (Gl:List Int) (n:Nat) (V:List Int):List Int:=(vxF Gl n).map (mC (vxC Gl n) V n)
set_option maxHeartbeats 1000000 in
theorem Zmk (s v:Value) (n nv:Nat) (Gl V:List Int) (h:FH) (c:Nat) (df:List Nat) (hs:SlI h c s 20 n Gl) (hv:SlI h c v 1 nv V) (hx:SlX h v 1 nv) (hC:SlC h v 1 nv V) (hnv:nv<=1000000) :
 Ans (G (.fn 23) [.agg #[s],v] h c df) fun r=>r.e = .ret/\r.df=[]/\c<=r.c/\Z0u c h r.h ∧
  ((Z5b Gl n (Z1h Gl n V) ≠ 0/\r.vs=[.tuple #[.slice none 0 0,.slice none 0 0,.int .i64 (Z5b Gl n (Z1h Gl n V))]]) ∨
   (Z5b Gl n (Z1h Gl n V)=0 /\ ∃ lk rs,r.vs=[.tuple #[lk,rs,.int .i64 0]]/\Z2Q c r.h r.c lk (vxF Gl n).length (ints (Z7C Gl n V))/\SlI r.h r.c rs 1 nv (Z61 Gl n V)/\SlX r.h rs 1 nv/\SlC r.h rs 1 nv (Z61 Gl n V))):=by
 refine Ans.call' (fun r e=>f23_go e) ?_
 unfold Zln
 rw [Z4s hs.flat,Z4m,Nat.add_zero]
 simp only [cond_true]
 have hbl:=Zq7 hv
 obtain ⟨H,hH⟩:∃ H,H=newB (newB h (256*c) [s]) (256*(c+1)+2) [v]:=⟨_,rfl⟩
 have sH:Z0u c h H:=by rw [hH]; simp (disch:=omega)
 have hg:Z09 H (256*c) [s]:=by rw [hH]; exact (Z09.newB_same _ _ _).newB_ne qO
 have hq:Z09 H (256*(c+1)+2) [v]:=by rw [hH]; exact Z09.newB_same _ _ _
 have l0:ldN (newB h (256*c) [s]) 1 (.pointer (some ⟨256*c,0,none⟩))=some (.agg #[s]):=Z0p (Z09.newB_same _ _ _)
 have l1:=Z0p hg
 have c1:=Zq5 s v n nv Gl V (256*(c+1)+2) H (c+1+1) ((hs.same sH).mono qO) ((hv.same sH).mono qO) (SlX.keep hv sH hx) hnv qO hq
 have hH':=hH.symm
 obtain ⟨E,hE⟩:∃ E,Z5b Gl n (Z1h Gl n V)=E:=⟨_,rfl⟩
 by_cases h0:E=0
 case neg =>
  rw [hE] at c1 ⊢
  have fx:=ai l0 (ai hbl (ai hH' c1))
  refine Ans.go ?_
  clear fx
  exact .done ⟨rfl,rfl,(by show c<=c+1+1+1+1; omega),sH,.inl ⟨h0,rfl⟩⟩
 have hr0:Z7p Gl n=0/\Z1h Gl n V=true:=by
  rw [h0] at hE
  unfold Z5b at hE
  split at hE
  · rename_i h1
    split at hE
    · rename_i h2; exact ⟨h1,h2⟩
    · cases hE
  · rename_i h1; exact absurd hE h1
 obtain ⟨hn,hok⟩:=Z1f hr0.1
 have ha:=hr0.2
 unfold Z1h at ha
 simp only [Bool.and_eq_true,decide_eq_true_eq] at ha
 obtain ⟨⟨⟨a1,a2⟩,_⟩,_⟩:=ha
 have hV:=Z46 a2
 have hnv':nv=7*n:=by have:=hv.1; omega
 rw [hE] at c1 ⊢
 subst h0
 obtain ⟨⟨re,rv,H1,k1,rd⟩,hr,r1,r2,r3,r4,vs,vu,es,eu,rfl,b1,b2,b3,b4,u1,u2⟩:=ZcO s n Gl H (c+1+1+1+1) [] ((hs.same sH).mono qO) hok hn
 simp only at r1 r2 r3 r4 b1 b2 b3 b4 u1 u2
 subst r1 r2
 have cc:=Z05 hr
 have s1:Z0u c h H1:=sH.trans (r4.mono qO)
 obtain ⟨⟨re,rv,H2,k2,rd⟩,hr2,w,e1,e2,e3,e4,e4c,e5⟩:=Zpi v nv V H1 (k1+1) [] ((hv.same s1).mono qO) (SlC.keep hv s1 hC) hnv
 obtain ⟨rfl,rfl,-,rfl,rfl⟩:=Rt.mk.inj e1
 simp only at e2 e3 e4 e4c e5
 have cl:=Z05 hr2
 have hb0:Z2T [] []=some []:=rfl
 obtain ⟨H3,hH3⟩:∃ H3,newB H2 (256*(k1+1+1+1+1)) []=H3:=⟨_,rfl⟩
 have s23:Z0u (k1+1+1+1+1) H2 H3:=by rw [← hH3]; intro b hb; rw [Z08,if_neg qO]
 have f3:H3.f (256*(k1+1+1+1+1))=some (.cells false none []):=by rw [← hH3,Z08,if_pos rfl]
 have u13:Uf H3 vs vu (4*n) (vCl n (Z43 Gl n)):=(u1.same (e2.mono (by omega:k1<=k1+1)) b1 b2).same (s23.mono (by omega:k1<=_)) b1 b2
 obtain ⟨⟨re,rv,H4,k4,rd⟩,hr4,F,g1,g2,g3,g4⟩:=Zez vs vu (4*n) _ H3 (k1+1+1+1+1+1+1) [] u13 qO qO
 obtain ⟨rfl,rfl,-,-,rfl⟩:=Rt.mk.inj g1
 simp only at g2 g3 g4
 have cf:callF G 45 [.pointer (some ⟨vs,0,none⟩)] H3 (k1+1+1+1+1+1+1)=some (F,H4,k4):=Z05 hr4
 have lf:=g4.sl.len
 have s24:Z0u (k1+1+1+1+1) H2 H4:=s23.trans (g3.mono qO)
 have s4:Z0u c h H4:=(s1.trans (e2.mono qO)).trans (s24.mono qO)
 have hFl:=Z4f (vCl n (Z43 Gl n)) (4*n)
 have hmem:∀ x,x ∈ Z0F (vCl n (Z43 Gl n)) (4*n) -> ∃ k:Nat,x=k/\k<4*n:=fun x hx=>by
  obtain ⟨k,h1,h2,_⟩:=ZaF hx; exact ⟨k,h1,h2⟩
 have u14:=u13.same g3 qO qO
 have f4:H4.f (256*(k1+1+1+1+1))=some (.cells false none []):=by rw [g3 _ qO,f3]
 have w4:=e3.same s24
 have x4:=SlX.keep e3 s24 e4
 rcases Nat.eq_zero_or_pos n with h00 | hpos
 · subst h00
   have hv0:vxF Gl 0=[]:=rfl
   have ev:Z0F (vCl 0 (Z43 Gl 0)) (4*0)=[]:=rfl
   rw [ev] at lf
   have hx:=Ans.eq (Zkm v (.slice (some ⟨256*(k1+1+1+1+1),0,none⟩) 0 0) w F vs k4 H4 [])
   have e0:(([]:List Int).length:Int)=0:=rfl
   simp only [List.length_nil,Int.ofNat_eq_natCast,Int.cast_ofNat_Int] at lf
   unfold Z61 Z7C
   rw [hv0]
   have fx:=ai l0 (ai hbl (ai hH' (ai c1 (ai l1 (ai cc (ai cl (ai hb0 (ai hH3 (ai cf (ai lf hx))))))))))
   refine Ans.go ?_
   clear fx
   exact .done ⟨rfl,rfl,(by show c<=k4+1+1; omega),s4,.inr ⟨rfl,_,_,rfl,⟨rfl,by simp,rfl,256*(k1+1+1+1+1),none,rfl,by omega,(by show _<256*(k4+1+1); omega),f4,.inl rfl⟩,w4.mono (by show _<=k4+1+1; omega),x4,SlC.keep e3 s24 e4c⟩⟩
 · obtain ⟨rfl,e6⟩:=e5 qO
   obtain ⟨rb,hrb⟩:∃ rb,256*(k1+1+1+1)+2=rb:=⟨_,rfl⟩
   rw [hrb] at e6 w4 x4 cl
   have f5:H4.f rb=some (.cells false (some 1) (ints V)):=by rw [s24 rb qO,e6]
   unfold Z61 Z7C vxF vxC
   obtain ⟨C,hCC⟩:∃ C,vCl n (Z43 Gl n)=C:=⟨_,rfl⟩
   rw [hCC] at g4 lf hFl hmem u14 ⊢
   obtain ⟨L,hL⟩:∃ L,Z0F C (4*n)=L:=⟨_,rfl⟩
   rw [hL] at g4 lf hFl hmem ⊢
   have hne:0<L.length->Z0l F ≠ Z0l (.slice (some ⟨256*(k1+1+1+1+1),0,none⟩) 0 0)/\Z0l F ≠ rb:=fun hp=>by
    obtain ⟨z1,z2,⟨rfl,z3⟩ | ⟨i,rfl,z3,z4,z5⟩⟩:=g4
    · omega
    · rw [blkOf_sl,blkOf_sl]; exact ⟨by omega,by omega⟩
   subst hnv'
   obtain ⟨⟨re,rv,H5,k5,rd⟩,hr5,p1,p2,p3,p4,p5,p6,p7⟩:=Zkl v n (7*n) V C vs vu rb (k1+1) F L.length L hn rfl hV qO qO qO hmem qO [] L.length 0 k4 H4 (.slice (some ⟨256*(k1+1+1+1+1),0,none⟩) 0 0) V [] 0 qO qO qO ((hv.same s4).mono qO) u14 g4.sl hne f5 ⟨rfl,by omega,rfl,256*(k1+1+1+1+1),none,rfl,by omega,by omega,f4,.inl rfl⟩ (by rw [blkOf_sl]; omega) a1 (fun j=>by have:=hV j; rw [Z1y] at this; omega) qO qO
   simp only [Int.ofNat_eq_natCast,Int.cast_ofNat_Int] at hr5
   simp only at p1 p2 p3 p4 p6 p7
   subst p1 p3
   rw [List.drop_zero] at p6 p7
   rw [List.nil_append] at p7
   have fx:=ai l0 (ai hbl (ai hH' (ai c1 (ai l1 (ai cc (ai cl (ai hb0 (ai hH3 (ai cf (ai lf (ai hr5 p5)))))))))))
   refine Ans.go ?_
   clear fx
   have hpl:(prK C V n L V).length=7*n:=by
    have:∀ (F X:List Int),(prK C V n F X).length=X.length:=by
     intro F
     induction F with
     | nil=>intro X; rfl
     | cons x F ih=>intro X; rw [prK,ih,Z48]
    rw [this,a1]
   have g6:Z2Q c H5 (k5+1) (Rt.v ⟨Ex.exit 0,rv,H5,k5,[]⟩ 1) L.length (ints (L.map (mC C V n))):=by
    obtain ⟨z1,z2,z3,i,op,z4,z5,z6,z7,z8⟩:=p7
    exact ⟨z1,z2,z3,i,op,z4,by omega,by omega,z7,z8⟩
   have g7:SlI H5 (k5+1) (.slice (some ⟨rb,0,none⟩) (7*n) (7*n)) 1 (7*n) (prK C V n L V):=by
    have hrk:rb<256*(k5+1):=by
     have:k4<=k5:=p2
     omega
    refine ⟨by omega,by omega,some ⟨rb,0,none⟩,7*n,rfl,.inr ⟨rb,0,ints (prK C V n L V),rfl,hrk,⟨false,some 1,p6⟩, ?_⟩⟩
    rw [List.drop_zero,List.take_of_length_le (by simp [hpl])]
   have g8:SlX H5 (.slice (some ⟨rb,0,none⟩) (7*n) (7*n)) 1 (7*n):=by
    refine ⟨Nat.le_refl _, ?_⟩
    have:HeapC.get H5 rb=some (.cells false (some 1) (ints (prK C V n L V))):=p6
    simp only [Za6,Ze4,this,Nat.beq_refl]
   rw [← p5] at g7 g8
   exact .done ⟨rfl,rfl,(by show c<=k5+1; omega),s4.trans (p4.mono qO),.inr ⟨rfl,_,_,rfl,g6,g7,g8,g7.slc qO qO⟩⟩
end Go.Proofs.Ytcnndelmnobigaa
