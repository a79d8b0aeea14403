/- Parts of a proof: AbFill AbLab B3 V2 V3 U12 V4 F1 F2 F3 F4 P1 B4 B5 AbJn B6 B10 AbCount AbRen I1 V5 V6. Conditions: none. -/
import Derived.Test.YtcnndelmnobigaaM20
import Derived.Test.YtcnndelmnobigaaM17
import Derived.Test.YtcnndelmnobigaaM18
import Derived.Test.YtcnndelmnobigaaM19
import Derived.Test.YtcnndelmnobigaaM15
set_option linter.all false
set_option maxRecDepth 100000
namespace Go.Ab
open Go
def zs (Q:List Nat):List Int:=Q.map fun k:Nat=>(k:Int)
def ZmP:List Bool->Nat
 | []=>0
 | b::l=>(if b=true then 1 else 0)+ZmP l
theorem ZfA:∀ {l:List Bool} {j:Nat},j<l.length->l.getD j false=false->ZmP (l.set j true)=ZmP l+1
 | [],j,h,_=>by simp at h
 | b::l,0,_,e=>by
  obtain rfl:b=false:=e
  show (if (true:Bool)=true then 1 else 0)+ZmP l=_
  rw [ZmP,if_pos rfl,if_neg (by simp)]; omega
 | b::l,j+1,h,e=>by
  show (if b=true then 1 else 0)+ZmP (l.set j true)=(if b=true then 1 else 0)+ZmP l+1
  rw [ZfA (l:=l) (by simpa using h) e]; omega
theorem Zic (l:List Bool) (i j:Nat) (x:Bool):(l.set i x).getD j false=if i=j/\i<l.length then x else l.getD j false:=by
 simp only [List.getD_eq_getElem?_getD,List.getElem?_set]
 by_cases h:i=j
 · subst h
   by_cases h2:i<l.length
   · simp [h2]
   · simp [h2]
 · simp [h]
def ps (w:Nat):Nat:=w / 4*7+w % 4
structure FSt where
 X:List Int
 K:List Bool
 Q:List Nat
 m:Int
def fU (Gl:List Int) (t f:Nat):Nat:=(Z0z (Z01 Gl t f)).toNat
def fJ (Gl:List Int) (t f i:Nat):Nat:=((Z0c (Z01 Gl t f)).getD i 0).toNat
def fV (Gl:List Int) (t f i:Nat):Nat:=4*fU Gl t f+fJ Gl t f i
def fW (Gl X:List Int) (t f i:Nat):Int:=Z5z X t f i-gi X (7*(fU Gl t f:Int)+4+ty (fJ Gl t f i) (fJ Gl t f f))
structure FOk (n:Nat) (s:FSt) (B:Int):Prop where
 xl:s.X.length=7*n
 kl:s.K.length=4*n
 nd:s.Q.Nodup
 qk:∀ w ∈ s.Q,w<4*n/\s.K.getD w false=true
 qc:s.Q.length<=ZmP s.K
 xb:∀ j:Nat,-B<=s.X.getD j 0/\s.X.getD j 0<=B
 mb:-B<=s.m/\s.m<=0
 qd:∀ t k:Nat,k<3->0<=s.X.getD (7*t+4+k) 0/\s.X.getD (7*t+4+k) 0<=1000000
theorem FOk.mono {n:Nat} {s:FSt} {B B':Int} (h:FOk n s B) (hb:B<=B'):FOk n s B' :=
 ⟨h.xl,h.kl,h.nd,h.qk,h.qc,fun j=>by have:=h.xb j; omega,by have:=h.mb; omega,h.qd⟩
structure FGl (Gl:List Int) (n t f i:Nat):Prop where
 u:fU Gl t f<n
 uz:Z0z (Z01 Gl t f)=(fU Gl t f:Nat)
 j:fJ Gl t f i<4
 jz:(Z0c (Z01 Gl t f)).getD i 0=(fJ Gl t f i:Nat)
 h:fJ Gl t f f<4
 hz:(Z0c (Z01 Gl t f)).getD f 0=(fJ Gl t f f:Nat)
 ne:fJ Gl t f i ≠ fJ Gl t f f
theorem FGl.of {Gl:List Int} {n t f i:Nat} (hok:Z0w Gl n=true) (hG:Gl.length=n*20) (ht:t<n) (hf:f<4) (hi:i<4) (hne:i ≠ f) (hg:¬ Z0z (Z01 Gl t f)<0):FGl Gl n t f i:=by
 obtain ⟨h1,h2,h3,h4⟩:=Z1l (Z1Y hok ht hf) hg
 have hp:=ZbI (Z0O (Z0n hG ht hf)) h2
 have r1:=Z0C hp hi
 have r2:=Z0C hp hf
 have r3:=Znk hp hi hf hne
 exact ⟨by unfold fU; omega,by unfold fU; omega,by unfold fJ; omega,by unfold fJ; omega,by unfold fJ; omega,by unfold fJ; omega,by unfold fJ; omega⟩
theorem Zlv {Gl:List Int} {n t f i:Nat} {s:FSt} {B:Int} (h:FOk n s B) (ht:t<n) (hf:f<4) (hi:i<4) (hne:i ≠ f) (g:FGl Gl n t f i):-(B+1000000)<=fW Gl s.X t f i/\fW Gl s.X t f i<=B+1000000:=by
 unfold fW Z5z
 have r1:=Z4s (i:=(i:Int)) (f:=(f:Int)) qO qO qO qO qO
 have r2:=Z4s (i:=(fJ Gl t f i:Int)) (f:=(fJ Gl t f f:Int)) qO (by have:=g.j; omega) qO (by have:=g.h; omega) (by have:=g.ne; omega)
 have q1:=h.qd t (ty i f).toNat qO
 have q2:=h.qd (fU Gl t f) (ty (fJ Gl t f i) (fJ Gl t f f)).toNat qO
 have q3:=h.xb (7*t+i)
 unfold gi
 rw [show (7*(t:Int)+i).toNat=7*t+i by omega,show (7*(t:Int)+4+ty i f).toNat=7*t+4+(ty i f).toNat by omega,
  show (7*(fU Gl t f:Int)+4+ty (fJ Gl t f i) (fJ Gl t f f)).toNat=7*fU Gl t f+4+(ty (fJ Gl t f i) (fJ Gl t f f)).toNat by omega]
 omega
theorem FOk.push {Gl:List Int} {n t f i:Nat} {s:FSt} {B:Int} (h:FOk n s B) (hB:0<=B) (ht:t<n) (hf:f<4) (hi:i<4) (hne:i ≠ f) (g:FGl Gl n t f i) (hk:s.K.getD (fV Gl t f i) false=false) :
 FOk n ⟨s.X.set (7*fU Gl t f+fJ Gl t f i) (fW Gl s.X t f i),s.K.set (fV Gl t f i) true,s.Q++[fV Gl t f i],min s.m (fW Gl s.X t f i)⟩ (B+1000000):=by
 have hv:fV Gl t f i<4*n:=by have:=g.u; have:=g.j; unfold fV; omega
 have hw:=Zlv h ht hf hi hne g
 have hj:=g.j
 refine ⟨by simp [h.xl],by simp [h.kl], ?_,fun w hw=>?_, ?_,fun j=>?_, ?_,fun u k hk=>?_⟩
 · rw [List.nodup_append]
   refine ⟨h.nd,by simp,fun a ha b hb=>?_⟩
   rw [List.mem_singleton] at hb
   subst hb
   rintro rfl
   have:=(h.qk _ ha).2
   rw [hk] at this; cases this
 · rw [Zic]
   rcases List.mem_append.1 hw with h1 | h1
   · refine ⟨(h.qk w h1).1, ?_⟩
     split
     · rfl
     · exact (h.qk w h1).2
   · rw [List.mem_singleton] at h1
     subst h1
     exact ⟨hv,by rw [if_pos ⟨rfl,by rw [h.kl]; exact hv⟩]⟩
 · have:=h.qc
   rw [ZfA (by rw [h.kl]; exact hv) hk]; simp; omega
 · rw [Z2h]
   have:=h.xb j
   split <;> omega
 · have:=h.mb
   simp only
   omega
 · rw [Z2h,if_neg qO]
   exact h.qd u k hk
end Go.Ab

namespace Go.Ab
open Go
theorem Zi5 {A B:List Int} {m:Nat} (hA:A.length=m) (hB:B.length=m) (h:∀ k,k<m->A.getD k 0=B.getD k 0):A=B:=by
 refine List.ext_getElem qO fun j a b=>?_
 have:=h j qO
 simpa [List.getD_eq_getElem?_getD,List.getElem?_eq_getElem a,List.getElem?_eq_getElem b] using this
end Go.Ab

namespace Go.Proofs.Ytcnndelmnobigaa
open Go Go.Ab Go.Proofs



theorem ZfQ (U:List Int):Z3O ((Z0p U.length).map (gi U))=Z3O U:=by
 congr 1
 refine List.ext_getElem (by simp [Z0p]) fun j h1 h2=>?_
 simp only [Z0p,List.getElem_map,List.getElem_range]
 exact Z9E U h2
theorem ZfU (ss:List Value) (ns:Nat->Nat) (sb:Nat) (h:FH) (c:Nat) (hsb:sb<256*c) (hh:Z07 h sb ss) (hl:ss.length<=1000) (hL:∀ j,j<ss.length->Z1B (ss.getD j undef)=some (.int .i64 (ns j))) (df:List Nat):∀ (k i:Nat),i+k=ss.length →
 Ans (G (Za3 none) [.slice (some ⟨sb,0,none⟩) ss.length ss.length,.bool false,.int .i64 i] h c df) fun r=>r.h=h/\r.c=c/\r.df=df ∧
  ((r.e = .exit 0 /\ ∀ j,i<=j->j<ss.length->ns j<=50) ∨ (r.e = .ret/\r.v 1 = .bool false /\ ∃ j,j<ss.length /\ ¬ ns j<=50)):=by
 intro k
 obtain ⟨m,hm⟩:∃ m,ss.length=m:=⟨_,rfl⟩
 rw [hm] at hl hL ⊢
 induction k with
 | zero =>
  intro i hi
  obtain rfl:i=m:=by omega
  refine Ans.lpG rfl rfl (Z6y ..) ?_
  unfold Z7p
  have fx:=True.intro
  refine Ans.go ?_
  clear fx
  (have fx:=hsb; refine Ans.ex0 ?_; clear fx)
  exact ⟨rfl,rfl,rfl,.inl ⟨rfl,fun j h1 h2=>by omega⟩⟩
 | succ k ih =>
  intro i hi
  have l1:ld1 h (.pointer (some ⟨sb,i,none⟩))=some (ss.getD i undef):=by
   rw [Z03 hh,List.getD_eq_getElem?_getD,List.getElem?_eq_getElem qO]; rfl
  have l2:=hL i qO
  obtain ⟨x,hx⟩:∃ x,ss.getD i undef=x:=⟨_,rfl⟩
  rw [hx] at l1 l2
  refine Ans.lpG rfl rfl (Z6y ..) ?_
  unfold Z7p
  by_cases h5:ns i<=50
  · have fx:=ai l1 l2
    refine Ans.go ?_
    clear fx
    (have fx:=hsb; refine Ans.nx0 ?_; clear fx)
    refine (ih (i+1) qO).mono ?_
    rintro r ⟨q1,q2,q3,q4⟩
    refine ⟨q1,q2,q3,q4.imp (fun ⟨a,b⟩=>⟨a,fun j h1 h2=>?_⟩) id⟩
    by_cases e:j=i
    · rw [e]; exact h5
    · exact b j qO h2
  · have fx:=ai l1 l2
    refine Ans.go ?_
    clear fx
    (have fx:=hsb; refine Ans.rt0 ?_; clear fx)
    exact ⟨rfl,rfl,rfl,.inr ⟨rfl,rfl,i,by omega,h5⟩⟩
theorem ZjA (ss:List Value) (ns:Nat->Nat) (sb:Nat) (h:FH) (c:Nat) (df:List Nat) (hsb:sb<256*c) (hh:Z07 h sb ss) (hl:ss.length<=1000) (hL:∀ j,j<ss.length->Z1B (ss.getD j undef)=some (.int .i64 (ns j))) :
 G (.fn 18) [.slice (some ⟨sb,0,none⟩) ss.length ss.length] h c df=some ⟨.ret,[.bool ((List.range ss.length).all fun j=>decide (ns j<=50))],h,c,[]⟩:=by
 refine Z0u (fun r e=>f18_go e) (by simp) ?_
 unfold ZnW
 obtain ⟨⟨re,rv,rh,rc,rd⟩,hr,r1,r2,r3,r4⟩:=ZfU ss ns sb h (c+1+1) qO hh hl hL [] ss.length 0 qO
 simp only at r1 r2 r3 r4
 subst r1 r2 r3
 simp only [Int.ofNat_eq_natCast,Int.cast_ofNat_Int] at hr
 rcases r4 with ⟨rfl,r5⟩ | ⟨rfl,r5,j,j1,j2⟩
 · have e:((List.range ss.length).all fun j=>decide (ns j<=50))=true:=List.all_eq_true.2 fun j hj=>decide_eq_true (r5 j qO (by simpa using hj))
   rw [e]
   have fx:=hr
   refine Ans.go ?_
   clear fx
   exact Ans.pure rfl (by simp)
 · have e:((List.range ss.length).all fun j=>decide (ns j<=50))=false:=by
    rw [List.all_eq_false]
    exact ⟨j,by simpa using j1,by simpa using j2⟩
   rw [e]
   have fx:=hr
   refine Ans.go ?_
   clear fx
   exact Ans.pure r5 (by simp)


def FcP (rb kb c1 cc:Nat) (h:FH) (df:List Nat) (vs:Value->Int->List Value) (o:Option FSt) (r:Rt FH):Prop :=
 cc<=r.c/\r.df=df/\(∀ b,b<256*c1->b ≠ rb->b ≠ kb->r.h.f b=h.f b)/\match o with
  | some S=>r.e = .exit 6 /\ ∃ v,r.vs=vs v S.m/\r.h.f rb=some (.cells false none (ints S.X))/\r.h.f kb=some (.cells false none (bools S.K))/\Z67 c1 r.h r.c v S.Q.length (ints (zs S.Q))
  | none=>r.e = .ret/\r.v 1 = .slice none 0 0/\r.v 2 = .bool false
theorem FcP.mono {rb kb c1 cc cc':Nat} {h h':FH} {df:List Nat} {vs:Value->Int->List Value} {o:Option FSt} {r:Rt FH} (p:FcP rb kb c1 cc' h' df vs o r) (hc:cc<=cc') (hh:∀ b,b<256*c1->b ≠ rb->b ≠ kb->h'.f b=h.f b):FcP rb kb c1 cc h df vs o r :=
 ⟨Nat.le_trans hc p.1,p.2.1,fun b h1 h2 h3=>(p.2.2.1 b h1 h2 h3).trans (hh b h1 h2 h3),p.2.2.2⟩
theorem own_sl {h:FH} {rb c:Nat} {X:List Int} {m:Nat} (e:h.f rb=some (.cells false none (ints X))) (hl:X.length=m) (hm:m<=1000000) (hc:rb<256*c):SlI h c (.slice (some ⟨rb,0,none⟩) m m) 1 m X:=by
 refine ⟨by omega,by omega,some ⟨rb,0,none⟩,m,rfl,.inr ⟨rb,0,ints X,rfl,hc,⟨false,none,e⟩, ?_⟩⟩
 rw [List.drop_zero,List.take_of_length_le (by simp [hl])]

def FqP (rb kb c1 cc:Nat) (h:FH) (df:List Nat) (vs:Value->Int->Nat->List Value) (o:Option FSt) (r:Rt FH):Prop :=
 cc<=r.c/\r.df=df/\(∀ b,b<256*c1->b ≠ rb->b ≠ kb->r.h.f b=h.f b)/\match o with
  | some S=>r.e = .exit 4 /\ ∃ v j,r.vs=vs v S.m j/\r.h.f rb=some (.cells false none (ints S.X))/\r.h.f kb=some (.cells false none (bools S.K))/\Z67 c1 r.h r.c v S.Q.length (ints (zs S.Q))
  | none=>r.e = .ret/\r.v 1 = .slice none 0 0/\r.v 2 = .bool false
theorem FqP.mono {rb kb c1 cc cc':Nat} {h h':FH} {df:List Nat} {vs:Value->Int->Nat->List Value} {o:Option FSt} {r:Rt FH} (p:FqP rb kb c1 cc' h' df vs o r) (hc:cc<=cc') (hh:∀ b,b<256*c1->b ≠ rb->b ≠ kb->h'.f b=h.f b):FqP rb kb c1 cc h df vs o r :=
 ⟨Nat.le_trans hc p.1,p.2.1,fun b h1 h2 h3=>(p.2.2.1 b h1 h2 h3).trans (hh b h1 h2 h3),p.2.2.2⟩

def FaP (rb kb c0 cc:Nat) (h:FH) (df:List Nat) (n:Nat) (o:Option (List Int)) (r:Rt FH):Prop :=
 cc<=r.c/\r.df=df/\(∀ b,b<256*c0->b ≠ rb->b ≠ kb->r.h.f b=h.f b)/\match o with
  | some X=>r.e = .exit 2/\r.v 3 = .slice (some ⟨rb,0,none⟩) (7*n) (7*n)/\r.h.f rb=some (.cells false none (ints X))/\X.length=7*n
  | none=>r.e = .ret/\r.v 1 = .slice none 0 0/\r.v 2 = .bool false
theorem FaP.mono {rb kb c1 cc cc':Nat} {h h':FH} {df:List Nat} {n:Nat} {o:Option (List Int)} {r:Rt FH} (p:FaP rb kb c1 cc' h' df n o r) (hc:cc<=cc') (hh:∀ b,b<256*c1->b ≠ rb->b ≠ kb->h'.f b=h.f b):FaP rb kb c1 cc h df n o r :=
 ⟨Nat.le_trans hc p.1,p.2.1,fun b h1 h2 h3=>(p.2.2.1 b h1 h2 h3).trans (hh b h1 h2 h3),p.2.2.2⟩

def q3 (Qd:List Int) (t:Nat):List Int:=(Qd.drop (3*t)).take 3

theorem Z3y {Gl:List Int} {n t f i:Nat} (hok:Z0w Gl n=true) (hG:Gl.length=n*20) (ht:t<n) (hf:f<4) (hi:i<4) (hne:i ≠ f) (hg:¬ Z0z (Z01 Gl t f)<0) :
 fU Gl (fU Gl t f) (fJ Gl t f f)=t /\ ¬ Z0z (Z01 Gl (fU Gl t f) (fJ Gl t f f))<0/\fJ Gl (fU Gl t f) (fJ Gl t f f) (fJ Gl t f i)=i/\fJ Gl (fU Gl t f) (fJ Gl t f f) (fJ Gl t f f)=f/\(Z1Z Gl t f=true->Z1Z Gl (fU Gl t f) (fJ Gl t f f)=false):=by
 have g:=FGl.of hok hG ht hf hi hne hg
 obtain ⟨k1,k2,k3,k4⟩:=Z1l (Z1Y hok ht hf) hg
 have kp:=ZbI (Z0O (Z0n hG ht hf)) k2
 have vi:=ZbM kp hi
 have vf:=ZbM kp hf
 have li:=Z5Z (Z8y kp)
 have e1:Z0z ((t:Int)::inv (Z0c (Z01 Gl t f)))=t:=rfl
 have e2:Z0c ((t:Int)::inv (Z0c (Z01 Gl t f)))=inv (Z0c (Z01 Gl t f)):=by
  show List.take 4 (List.drop 1 ((t:Int)::inv (Z0c (Z01 Gl t f))))=_
  rw [List.drop_succ_cons,List.drop_zero,List.take_of_length_le qO]
 have k5:Z01 Gl (fU Gl t f) (fJ Gl t f f)=(t:Int)::inv (Z0c (Z01 Gl t f)):=k4
 have q1:Z0z (Z01 Gl (fU Gl t f) (fJ Gl t f f))=t:=by rw [k5,e1]
 have q2:(Z0c (Z01 Gl (fU Gl t f) (fJ Gl t f f))).getD (fJ Gl t f i) 0=i:=by rw [k5,e2]; exact vi
 have q3:(Z0c (Z01 Gl (fU Gl t f) (fJ Gl t f f))).getD (fJ Gl t f f) 0=f:=by rw [k5,e2]; exact vf
 refine ⟨by rw [fU,q1,Int.toNat_natCast],by rw [q1]; omega,by rw [fJ,q2,Int.toNat_natCast],by rw [fJ,q3,Int.toNat_natCast],fun hs=>?_⟩
 have guz:=g.uz
 have ghz:=g.hz
 unfold Z1Z at hs ⊢
 rw [q1,q3]
 rw [guz,ghz] at hs k3
 simp only [Bool.or_eq_true,Bool.and_eq_true,decide_eq_true_eq,Bool.or_eq_false_iff,Bool.and_eq_false_iff,decide_eq_false_iff_not] at hs ⊢
 omega
theorem Zlq {Gl:List Int} {n:Nat} (hok:Z0w Gl n=true) (hG:Gl.length=n*20) {R:Nat->Nat->Nat->Prop}
 (h1:∀ t f i,t<n->f<4->i<4->i ≠ f->Z1Z Gl t f=false->R t f i) (h2:∀ t f i,t<n->f<4->i<4->i ≠ f -> ¬ Z0z (Z01 Gl t f)<0->R (fU Gl t f) (fJ Gl t f f) (fJ Gl t f i)->R t f i)
 {t f i:Nat} (ht:t<n) (hf:f<4) (hi:i<4) (hne:i ≠ f) (hg:¬ Z0z (Z01 Gl t f)<0):R t f i:=by
 cases hs:Z1Z Gl t f with
 | false=>exact h1 t f i ht hf hi hne hs
 | true =>
  have g:=FGl.of hok hG ht hf hi hne hg
  obtain ⟨a,b,d,e,k⟩:=Z3y hok hG ht hf hi hne hg
  exact h2 t f i ht hf hi hne hg (h1 _ _ _ g.u g.h g.j g.ne (k hs))
theorem Z1m {Gl:List Int} {t f:Nat} (h:Z1Z Gl t f=false):¬ Z0z (Z01 Gl t f)<0:=by
 unfold Z1Z at h
 simp only [Bool.or_eq_false_iff,decide_eq_false_iff_not] at h
 exact h.1.1
theorem Z7X {Gl V:List Int} {n t f i:Nat} (hok:Z0w Gl n=true) (hG:Gl.length=n*20) (hV:((Z2v Gl n).all fun m=>eqM V m)=true) (ht:t<n) (hf:f<4) (hi:i<4) (hne:i ≠ f) (hg:¬ Z0z (Z01 Gl t f)<0) :
 Z5z V t f i=Z5z V (fU Gl t f) (fJ Gl t f f) (fJ Gl t f i):=by
 refine Zlq (R:=fun t f i=>Z5z V t f i=Z5z V (fU Gl t f) (fJ Gl t f f) (fJ Gl t f i)) hok hG (fun t f i ht hf hi hne hm=>?_) (fun t f i ht hf hi hne hg h=>?_) ht hf hi hne hg
 · have:=List.all_eq_true.1 hV _ (Zbj ht hf hi hne hm)
   have g:=FGl.of hok hG ht hf hi hne (Z1m hm)
   unfold eqM at this
   rw [decide_eq_true_eq] at this
   have e:Z5z V (t:Int) f i=Z5z V (Z0z (Z01 Gl t f)) ((Z0c (Z01 Gl t f)).getD f 0) ((Z0c (Z01 Gl t f)).getD i 0):=this
   rw [g.uz,g.hz,g.jz] at e
   exact e
 · obtain ⟨a,b,d,e,k⟩:=Z3y hok hG ht hf hi hne hg
   rw [a,d,e] at h
   exact h.symm
theorem Zmd {Gl V:List Int} {n:Nat} (hok:Z0w Gl n=true) (hG:Gl.length=n*20) (h:∀ t f i,t<n->f<4->i<4->i ≠ f -> ¬ Z0z (Z01 Gl t f)<0->Z5z V t f i=Z5z V (fU Gl t f) (fJ Gl t f f) (fJ Gl t f i)) :
 ((Z2v Gl n).all fun m=>eqM V m)=true:=by
 refine List.all_eq_true.2 fun m hm=>?_
 obtain ⟨t,f,i,ht,hf,hi,hne,hsk,rfl⟩:=ZdV hm
 have g:=FGl.of hok hG ht hf hi hne (Z1m hsk)
 unfold eqM
 rw [decide_eq_true_eq]
 show Z5z V (t:Int) f i=Z5z V (Z0z (Z01 Gl t f)) ((Z0c (Z01 Gl t f)).getD f 0) ((Z0c (Z01 Gl t f)).getD i 0)
 rw [g.uz,g.hz,g.jz]
 exact h t f i ht hf hi hne (Z1m hsk)


def fE (Gl:List Int) (t f e:Nat):Nat:=6*fU Gl t f+(edN ((Z0c (Z01 Gl t f)).getD (edA e).toNat 0) ((Z0c (Z01 Gl t f)).getD (edB e).toNat 0)).toNat
def hI (Gl:List Int) (t f:Nat):Nat->Nat->List Int->List Int
 | 0,_,C=>C
 | k+1,e,C=>hI Gl t f k (e+1) (if edA e=f ∨ edB e=f then C else Z3C C (6*t+e) (fE Gl t f e))
def hF (Gl:List Int) (t:Nat):Nat->Nat->List Int->List Int
 | 0,_,C=>C
 | k+1,f,C=>hF Gl t k (f+1) (if Z0z (Z01 Gl t f)<0 then C else hI Gl t f 6 0 C)
def hT (Gl:List Int):Nat->Nat->List Int->List Int
 | 0,_,C=>C
 | k+1,t,C=>hT Gl k (t+1) (hF Gl t 4 0 C)
def edG (Gl:List Int) (n:Nat):List Int:=hT Gl n 0 (Z0p (6*n))
theorem Z8A {Gl:List Int} {n t f:Nat} (hok:Z0w Gl n=true) (hG:Gl.length=n*20) (ht:t<n) (hf:f<4) (hg:¬ Z0z (Z01 Gl t f)<0):Z0c (Z01 Gl t f) ∈ p24/\fU Gl t f<n/\Z0z (Z01 Gl t f)=(fU Gl t f:Nat):=by
 obtain ⟨k1,k2,k3,k4⟩:=Z1l (Z1Y hok ht hf) hg
 exact ⟨ZbI (Z0O (Z0n hG ht hf)) k2,by unfold fU; omega,by unfold fU; omega⟩
theorem Zlw {Gl:List Int} {n t f e:Nat} (hok:Z0w Gl n=true) (hG:Gl.length=n*20) (ht:t<n) (hf:f<4) (hg:¬ Z0z (Z01 Gl t f)<0) (he:e<6) :
 0<=edN ((Z0c (Z01 Gl t f)).getD (edA e).toNat 0) ((Z0c (Z01 Gl t f)).getD (edB e).toNat 0)/\edN ((Z0c (Z01 Gl t f)).getD (edA e).toNat 0) ((Z0c (Z01 Gl t f)).getD (edB e).toNat 0)<6:=by
 obtain ⟨hp,-,-⟩:=Z8A hok hG ht hf hg
 obtain ⟨g1,g2,g3,g4,g5⟩:=Zbd (e:=(e:Int)) qO qO
 have r1:=Z0C hp (i:=(edA e).toNat) qO
 have r2:=Z0C hp (i:=(edB e).toNat) qO
 have r3:=Znk hp (i:=(edA e).toNat) (j:=(edB e).toNat) qO qO qO
 exact Z0R r1.1 r1.2 r2.1 r2.2 r3
theorem fE_lt {Gl:List Int} {n t f e:Nat} (hok:Z0w Gl n=true) (hG:Gl.length=n*20) (ht:t<n) (hf:f<4) (hg:¬ Z0z (Z01 Gl t f)<0) (he:e<6):fE Gl t f e<6*n:=by
 have:=Zlw hok hG ht hf hg he
 have:=(Z8A hok hG ht hf hg).2.1
 unfold fE
 omega
end Go.Proofs.Ytcnndelmnobigaa

namespace Go.Ab
open Go
def jn:List (Nat × Nat)->List Int->List Int
 | [],L=>L
 | p::D,L=>jn D (Z3C L p.1 p.2)
theorem Z3R:∀ (D E:List (Nat × Nat)) (L:List Int),jn (D++E) L=jn E (jn D L)
 | [],E,L=>rfl
 | p::D,E,L=>by rw [List.cons_append,jn,jn,Z3R D E]
theorem Z60 {m:Nat}:∀ (D:List (Nat × Nat)) (L:List Int),Z7O L m->(∀ p,p ∈ D->p.1<m/\p.2<m) →
 Z7O (jn D L) m/\(∀ a b,a<m->b<m->Z0a L a=Z0a L b->Z0a (jn D L) a=Z0a (jn D L) b)/\(∀ p,p ∈ D->Z0a (jn D L) p.1=Z0a (jn D L) p.2)
 | [],L,hd,_=>⟨hd,fun a b _ _ e=>e,fun p h=>by cases h⟩
 | p::D,L,hd,hg=>by
  obtain ⟨g1,g2⟩:=hg p (by simp)
  obtain ⟨i1,i2,i3⟩:=Z60 D (Z3C L p.1 p.2) (Z2C hd g1 g2) (fun q hq=>hg q (by simp [hq]))
  refine ⟨i1,fun a b ha hb e=>i2 a b ha hb (Zi9 hd g1 g2 ha hb e),fun q hq=>?_⟩
  rcases List.mem_cons.1 hq with rfl | hq
  · exact i2 _ _ g1 g2 (Zi8 hd g1 g2)
  · exact i3 q hq
theorem ZeI {m:Nat} (S:Nat->Prop):∀ (D:List (Nat × Nat)) (L:List Int),Z7O L m->(∀ p,p ∈ D->p.1<m/\p.2<m/\(S p.1 ↔ S p.2))->(∀ a b,a<m->b<m->Z0a L a=Z0a L b->(S a ↔ S b)) →
 ∀ a b,a<m->b<m->Z0a (jn D L) a=Z0a (jn D L) b->(S a ↔ S b)
 | [],L,_,_,h=>h
 | p::D,L,hd,hg,h=>by
  obtain ⟨g1,g2,g3⟩:=hg p (by simp)
  refine ZeI S D (Z3C L p.1 p.2) (Z2C hd g1 g2) (fun q hq=>hg q (by simp [hq])) fun a b ha hb e=>?_
  rw [Z2z hd g1 g2 ha,Z2z hd g1 g2 hb] at e
  have ai:=h a p.1 ha g1
  have aj:=h a p.2 ha g2
  have bi:=h b p.1 hb g1
  have bj:=h b p.2 hb g2
  have ab:=h a b ha hb
  by_cases c1:Z0a L a=max (Z0a L p.1) (Z0a L p.2) <;> by_cases c2:Z0a L b=max (Z0a L p.1) (Z0a L p.2)
  · exact ab (c1.trans c2.symm)
  · rw [if_pos c1,if_neg c2] at e
    rcases Nat.le_total (Z0a L p.1) (Z0a L p.2) with q | q
    · exact (aj qO).trans (g3.symm.trans (bi qO).symm)
    · exact (ai qO).trans (g3.trans (bj qO).symm)
  · rw [if_neg c1,if_pos c2] at e
    rcases Nat.le_total (Z0a L p.1) (Z0a L p.2) with q | q
    · exact (ai qO).trans (g3.trans (bj qO).symm)
    · exact (aj qO).trans (g3.symm.trans (bi qO).symm)
  · rw [if_neg c1,if_neg c2] at e
    exact ab e
theorem Z7F {m k:Nat} (h:k<m):Z0a (Z0p m) k=k:=Z1F (Z8c h)
theorem Z2g {m:Nat} (S:Nat->Prop) {D:List (Nat × Nat)} (hg:∀ p,p ∈ D->p.1<m/\p.2<m/\(S p.1 ↔ S p.2)) {a b:Nat} (ha:a<m) (hb:b<m) (e:Z0a (jn D (Z0p m)) a=Z0a (jn D (Z0p m)) b):S a ↔ S b :=
 ZeI S D (Z0p m) (Z15 _) hg (fun a b ha hb e=>by rw [Z7F ha,Z7F hb] at e; rw [e]) a b ha hb e
theorem jn_eq {m:Nat} {D E:List (Nat × Nat)} (hD:∀ p,p ∈ D->p.1<m/\p.2<m) (hE:∀ p,p ∈ E->p.1<m/\p.2<m)
 (h1:∀ p,p ∈ D->Z0a (jn E (Z0p m)) p.1=Z0a (jn E (Z0p m)) p.2) (h2:∀ p,p ∈ E->Z0a (jn D (Z0p m)) p.1=Z0a (jn D (Z0p m)) p.2) {k:Nat} (hk:k<m) :
 Z0a (jn D (Z0p m)) k=Z0a (jn E (Z0p m)) k:=by
 obtain ⟨d1,_,d3⟩:=Z60 D (Z0p m) (Z15 _) hD
 obtain ⟨e1,_,e3⟩:=Z60 E (Z0p m) (Z15 _) hE
 have kD:=Z1p d1 hk
 have kE:=Z1p e1 hk
 have rD:=Z2y d1 hk
 have rE:=Z2y e1 hk
 have a1:=Z2g (fun w=>Z0a (jn E (Z0p m)) w=Z0a (jn E (Z0p m)) k) (D:=D) (fun p hp=>⟨(hD p hp).1,(hD p hp).2,by show _=_ ↔ _=_; rw [h1 p hp]⟩) (a:=Z0a (jn D (Z0p m)) k) (b:=k) qO hk rD
 have a2:=Z2g (fun w=>Z0a (jn D (Z0p m)) w=Z0a (jn D (Z0p m)) k) (D:=E) (fun p hp=>⟨(hE p hp).1,(hE p hp).2,by show _=_ ↔ _=_; rw [h2 p hp]⟩) (a:=Z0a (jn E (Z0p m)) k) (b:=k) qO hk rE
 have b1:=a1.2 rfl
 have b2:=a2.2 rfl
 have c1:=Z1p e1 (i:=Z0a (jn D (Z0p m)) k) qO
 have c2:=Z1p d1 (i:=Z0a (jn E (Z0p m)) k) qO
 omega
end Go.Ab

namespace Go.Proofs.Ytcnndelmnobigaa
open Go Go.Ab Go.Proofs
theorem ZmJ {e:Nat} (h:e<6):edN (edA e) (edB e)=e:=by
 have:∀ a:Fin 6,edN (edA (a:Nat)) (edB (a:Nat))=(a:Nat):=by decide
 exact this ⟨e,h⟩
theorem Zfw {i j:Nat} (hi:i<4) (hj:j<4):edN (i:Int) j=edN j i:=by
 have:∀ a b:Fin 4,edN ((a:Nat):Int) (b:Nat)=edN (b:Nat) (a:Nat):=by decide
 exact this ⟨i,hi⟩ ⟨j,hj⟩
theorem Zfv {i j:Nat} (hi:i<4) (hj:j<4) (hne:i ≠ j):edA (edN i j)=(min i j:Nat)/\edB (edN i j)=(max i j:Nat):=by
 have:∀ a b:Fin 4,a ≠ b->edA (edN ((a:Nat):Int) (b:Nat))=(min (a:Nat) b:Nat)/\edB (edN ((a:Nat):Int) (b:Nat))=(max (a:Nat) b:Nat):=by decide
 exact this ⟨i,hi⟩ ⟨j,hj⟩ (fun e=>hne (congrArg Fin.val e))
def eC (Gl:List Int) (n:Nat):List Int:=eCl Gl n (Z2v Gl n)
def qK (p:List Int) (t f i:Nat) (u:Int):Nat->Nat->List (Nat × Nat)
 | 0,_=>[]
 | r+1,k=>(if k=f ∨ k=i then [] else [((6*(t:Int)+edN i k).toNat,(6*u+edN (p.getD i 0) (p.getD k 0)).toNat)])++qK p t f i u r (k+1)
def qM (Gl:List Int) (M:List Int):List (Nat × Nat):=qK (Z0c (Z01 Gl (M.getD 0 0).toNat (M.getD 1 0).toNat)) (M.getD 0 0).toNat (M.getD 1 0).toNat (M.getD 2 0).toNat (M.getD 3 0) 4 0
def qD (Gl:List Int):List (List Int)->List (Nat × Nat)
 | []=>[]
 | M::D=>qM Gl M++qD Gl D
theorem ZmK (p:List Int) (t f i:Nat) (u:Int):∀ (r k:Nat) (L:List Int),eIn p t f i u r k L=jn (qK p t f i u r k) L
 | 0,_,_=>rfl
 | r+1,k,L=>by rw [eIn,qK,Z3R,ZmK p t f i u r]; split <;> rfl
theorem ZbR (Gl:List Int):∀ (D:List (List Int)) (L:List Int),D.foldl (ZiX Gl) L=jn (qD Gl D) L
 | [],L=>rfl
 | M::D,L=>by rw [List.foldl_cons,qD,Z3R,ZbR Gl D,ZiX,ZmK]; rfl
theorem Zmx {p:List Int} {t f i:Nat} {u:Int} {x:Nat × Nat}:∀ {r k:Nat},x ∈ qK p t f i u r k ↔ ∃ j,k<=j/\j<k+r/\j ≠ f/\j ≠ i/\x=((6*(t:Int)+edN i j).toNat,(6*u+edN (p.getD i 0) (p.getD j 0)).toNat)
 | 0,k=>by simp [qK]; intro y h1 h2; omega
 | r+1,k=>by
  rw [qK,List.mem_append,Zmx (r:=r)]
  constructor
  · rintro (h | ⟨j,h1,h2,h3⟩)
    · split at h
      · cases h
      · rename_i hne
        exact ⟨k,Nat.le_refl _,by omega,fun q=>hne (.inl q),fun q=>hne (.inr q),List.mem_singleton.1 h⟩
    · exact ⟨j,by omega,by omega,h3⟩
  · rintro ⟨j,h1,h2,h3,h4,h5⟩
    by_cases e:j=k
    · subst e
      left
      rw [if_neg (fun q=>q.elim h3 h4),h5]; simp
    · exact .inr ⟨j,by omega,by omega,h3,h4,h5⟩
theorem Zi0 {Gl:List Int} {x:Nat × Nat}:∀ {D:List (List Int)},x ∈ qD Gl D ↔ ∃ M,M ∈ D/\x ∈ qM Gl M
 | []=>by simp [qD]
 | M::D=>by rw [qD,List.mem_append,Zi0 (D:=D)]; simp
theorem Zmw {Gl:List Int} {n t f i:Nat} {x:Nat × Nat} (g:FGl Gl n t f i):x ∈ qM Gl (Z3Q Gl t f i) ↔ ∃ j,j<4/\j ≠ f/\j ≠ i/\x=((6*(t:Int)+edN i j).toNat,(6*(fU Gl t f:Int)+edN (fJ Gl t f i:Nat) ((Z0c (Z01 Gl t f)).getD j 0)).toNat):=by
 show x ∈ qK (Z0c (Z01 Gl t f)) t f i (Z0z (Z01 Gl t f)) 4 0 ↔ _
 rw [Zmx,g.uz,g.jz]
 constructor
 · rintro ⟨j,h1,h2,h3,h4,h5⟩; exact ⟨j,by omega,h3,h4,h5⟩
 · rintro ⟨j,h2,h3,h4,h5⟩; exact ⟨j,by omega,by omega,h3,h4,h5⟩
def rI (Gl:List Int) (t f:Nat):Nat->Nat->List (Nat × Nat)
 | 0,_=>[]
 | k+1,e=>(if edA e=f ∨ edB e=f then [] else [(6*t+e,fE Gl t f e)])++rI Gl t f k (e+1)
def rF (Gl:List Int) (t:Nat):Nat->Nat->List (Nat × Nat)
 | 0,_=>[]
 | k+1,f=>(if Z0z (Z01 Gl t f)<0 then [] else rI Gl t f 6 0)++rF Gl t k (f+1)
def rT (Gl:List Int):Nat->Nat->List (Nat × Nat)
 | 0,_=>[]
 | k+1,t=>rF Gl t 4 0++rT Gl k (t+1)
theorem hI_jn (Gl:List Int) (t f:Nat):∀ (k e:Nat) (C:List Int),hI Gl t f k e C=jn (rI Gl t f k e) C
 | 0,_,_=>rfl
 | k+1,e,C=>by rw [hI,rI,Z3R,hI_jn Gl t f k]; split <;> rfl
theorem hF_jn (Gl:List Int) (t:Nat):∀ (k f:Nat) (C:List Int),hF Gl t k f C=jn (rF Gl t k f) C
 | 0,_,_=>rfl
 | k+1,f,C=>by
  rw [hF,rF,Z3R,hF_jn Gl t k]
  split
  · rfl
  · rw [hI_jn]
theorem Znw (Gl:List Int):∀ (k t:Nat) (C:List Int),hT Gl k t C=jn (rT Gl k t) C
 | 0,_,_=>rfl
 | k+1,t,C=>by rw [hT,rT,Z3R,Znw Gl k,hF_jn]
theorem ZhY {Gl:List Int} {t f:Nat} {p:Nat × Nat}:∀ {k i:Nat},p ∈ rI Gl t f k i ↔ ∃ e:Nat,i<=e/\e<i+k/\edA e ≠ f/\edB e ≠ f/\p=(6*t+e,fE Gl t f e)
 | 0,i=>by simp [rI]; intro x h1 h2; omega
 | k+1,i=>by
  rw [rI,List.mem_append,ZhY (k:=k)]
  constructor
  · rintro (h | ⟨j,h1,h2,h3⟩)
    · split at h
      · cases h
      · rename_i hne
        exact ⟨i,Nat.le_refl _,by omega,fun q=>hne (.inl q),fun q=>hne (.inr q),List.mem_singleton.1 h⟩
    · exact ⟨j,by omega,by omega,h3⟩
  · rintro ⟨j,h1,h2,h3,h4,h5⟩
    by_cases e:j=i
    · subst e
      left
      rw [if_neg (fun q=>q.elim h3 h4),h5]; simp
    · exact .inr ⟨j,by omega,by omega,h3,h4,h5⟩
theorem ZhZ {Gl:List Int} {t:Nat} {p:Nat × Nat}:∀ {k f:Nat},p ∈ rF Gl t k f ↔ ∃ g e:Nat,f<=g/\g<f+k/\e<6/\edA e ≠ g/\edB e ≠ g /\ ¬ Z0z (Z01 Gl t g)<0/\p=(6*t+e,fE Gl t g e)
 | 0,f=>by simp [rF]; intro x h1 h2; omega
 | k+1,f=>by
  rw [rF,List.mem_append,ZhZ (k:=k)]
  constructor
  · rintro (h | ⟨g,j,h1,h2,h3⟩)
    · split at h
      · cases h
      · rename_i hg
        obtain ⟨j,a,b,d,d2,e⟩:=ZhY.1 h
        exact ⟨f,j,Nat.le_refl _,by omega,by omega,d,d2,hg,e⟩
    · exact ⟨g,j,by omega,by omega,h3⟩
  · rintro ⟨g,j,h1,h2,h3,h4,h4',h5,h6⟩
    by_cases e:g=f
    · subst e
      left
      rw [if_neg h5]
      exact ZhY.2 ⟨j,by omega,by omega,h4,h4',h6⟩
    · exact .inr ⟨g,j,by omega,by omega,h3,h4,h4',h5,h6⟩
theorem Z9A {Gl:List Int} {p:Nat × Nat}:∀ {k t:Nat},p ∈ rT Gl k t ↔ ∃ u g e:Nat,t<=u/\u<t+k/\g<4/\e<6/\edA e ≠ g/\edB e ≠ g /\ ¬ Z0z (Z01 Gl u g)<0/\p=(6*u+e,fE Gl u g e)
 | 0,t=>by simp [rT]; intro x h1 h2; omega
 | k+1,t=>by
  rw [rT,List.mem_append,Z9A (k:=k)]
  constructor
  · rintro (h | ⟨u,g,j,h1,h2,h3⟩)
    · obtain ⟨g,j,a,b,d⟩:=ZhZ.1 h
      exact ⟨t,g,j,Nat.le_refl _,by omega,by omega,d⟩
    · exact ⟨u,g,j,by omega,by omega,h3⟩
  · rintro ⟨u,g,j,h1,h2,h3,h4⟩
    by_cases e:u=t
    · subst e
      exact .inl (ZhZ.2 ⟨g,j,by omega,by omega,h4⟩)
    · exact .inr ⟨u,g,j,by omega,by omega,h3,h4⟩
theorem Zmr {Gl:List Int} {n t f i j:Nat} (hok:Z0w Gl n=true) (hG:Gl.length=n*20) (ht:t<n) (hf:f<4) (hi:i<4) (hne:i ≠ f) (hsk:Z1Z Gl t f=false) (hj:j<4) (hjf:j ≠ f) (hji:j ≠ i) :
 ((6*(t:Int)+edN i j).toNat,(6*(fU Gl t f:Int)+edN (fJ Gl t f i:Nat) (fJ Gl t f j:Nat)).toNat) ∈ qD Gl (Z2v Gl n):=by
 have g:=FGl.of hok hG ht hf hi hne (Z1m hsk)
 have g2:=FGl.of hok hG ht hf hj hjf (Z1m hsk)
 exact Zi0.2 ⟨_,Zbj ht hf hi hne hsk,(Zmw g).2 ⟨j,hj,hjf,hji,by rw [g2.jz]⟩⟩
theorem Z7W {Gl:List Int} {n:Nat} (hok:Z0w Gl n=true) (hG:Gl.length=n*20) {x:Nat × Nat} (hx:x ∈ qD Gl (Z2v Gl n)):∃ t f i j,t<n/\f<4/\i<4/\j<4/\i ≠ f/\j ≠ f/\i ≠ j /\ ¬ Z0z (Z01 Gl t f)<0 ∧
 x=((6*(t:Int)+edN i j).toNat,(6*(fU Gl t f:Int)+edN (fJ Gl t f i:Nat) (fJ Gl t f j:Nat)).toNat):=by
 obtain ⟨M,hM,hx⟩:=Zi0.1 hx
 obtain ⟨t,f,i,ht,hf,hi,hne,hsk,rfl⟩:=ZdV hM
 have g:=FGl.of hok hG ht hf hi hne (Z1m hsk)
 obtain ⟨j,h1,h2,h3,rfl⟩:=(Zmw g).1 hx
 have g2:=FGl.of hok hG ht hf h1 h2 (Z1m hsk)
 exact ⟨t,f,i,j,ht,hf,hi,h1,hne,h2,fun q=>h3 q.symm,Z1m hsk,by rw [g2.jz]⟩
theorem Zge {Gl:List Int} {n t f i j:Nat} (hok:Z0w Gl n=true) (hG:Gl.length=n*20) (ht:t<n) (hf:f<4) (hi:i<4) (hj:j<4) (hij:i ≠ j) (hg:¬ Z0z (Z01 Gl t f)<0):fJ Gl t f i ≠ fJ Gl t f j:=by
 obtain ⟨hp,-,-⟩:=Z8A hok hG ht hf hg
 have r1:=Z0C hp hi
 have r2:=Z0C hp hj
 have r3:=Znk hp hi hj hij
 unfold fJ
 omega
theorem Zil {Gl:List Int} {n t f i j:Nat} (hok:Z0w Gl n=true) (hG:Gl.length=n*20) (ht:t<n) (hf:f<4) (hi:i<4) (hj:j<4) (hif:i ≠ f) (hjf:j ≠ f) (hij:i ≠ j) (hg:¬ Z0z (Z01 Gl t f)<0) :
 fE Gl t f (edN i j).toNat=(6*(fU Gl t f:Int)+edN (fJ Gl t f i:Nat) (fJ Gl t f j:Nat)).toNat:=by
 have r:=Z0R (i:=(i:Int)) (j:=(j:Int)) qO qO qO qO qO
 obtain ⟨e1,e2⟩:=Zfv hi hj hij
 have gi:=FGl.of hok hG ht hf hi hif hg
 have gj:=FGl.of hok hG ht hf hj hjf hg
 have r2:=Z0R (i:=(fJ Gl t f i:Int)) (j:=(fJ Gl t f j:Int)) qO (by have:=gi.j; omega) qO (by have:=gj.j; omega) (by have:=Zge hok hG ht hf hi hj hij hg; omega)
 unfold fE
 rw [show (((edN (i:Int) j).toNat:Nat):Int)=edN i j by omega,e1,e2,Int.toNat_natCast,Int.toNat_natCast]
 rcases Nat.lt_or_ge i j with h | h
 · rw [show min i j=i by omega,show max i j=j by omega,gi.jz,gj.jz]
   omega
 · rw [show min i j=j by omega,show max i j=i by omega,gi.jz,gj.jz,Zfw gj.j gi.j]
   omega
theorem Zfx {Gl:List Int} {n:Nat} (hok:Z0w Gl n=true) (hG:Gl.length=n*20) {k:Nat} (hk:k<6*n):Z0a (edG Gl n) k=Z0a (eC Gl n) k:=by
 have e1:edG Gl n=jn (rT Gl n 0) (Z0p (6*n)):=Znw Gl n 0 _
 have e2:eC Gl n=jn (qD Gl (Z2v Gl n)) (Z0p (6*n)):=ZbR Gl _ _
 have hD:∀ p,p ∈ rT Gl n 0->p.1<6*n/\p.2<6*n:=fun p hp=>by
  obtain ⟨u,g,e,h1,h2,h3,h4,h5,h6,h7,rfl⟩:=Z9A.1 hp
  exact ⟨by simp only; omega,fE_lt hok hG qO h3 h7 h4⟩
 have key:∀ {t f i j:Nat},t<n->f<4->i<4->j<4->i ≠ f->j ≠ f->i ≠ j -> ¬ Z0z (Z01 Gl t f)<0->((6*(t:Int)+edN i j).toNat,(6*(fU Gl t f:Int)+edN (fJ Gl t f i:Nat) (fJ Gl t f j:Nat)).toNat)=(6*t+(edN i j).toNat,fE Gl t f (edN i j).toNat)/\(edN i j).toNat<6/\edA (edN i j).toNat ≠ f/\edB (edN i j).toNat ≠ f:=by
  intro t f i j ht hf hi hj h1 h2 h3 hg
  have r:=Z0R (i:=(i:Int)) (j:=(j:Int)) qO qO qO qO qO
  obtain ⟨a1,a2⟩:=Zfv hi hj h3
  rw [Zil hok hG ht hf hi hj h1 h2 h3 hg]
  refine ⟨by congr 1; omega,by omega, ?_, ?_⟩
  · rw [show (((edN (i:Int) j).toNat:Nat):Int)=edN i j by omega,a1]; omega
  · rw [show (((edN (i:Int) j).toNat:Nat):Int)=edN i j by omega,a2]; omega
 have hE:∀ p,p ∈ qD Gl (Z2v Gl n)->p ∈ rT Gl n 0:=fun p hp=>by
  obtain ⟨t,f,i,j,ht,hf,hi,hj,h1,h2,h3,hg,rfl⟩:=Z7W hok hG hp
  obtain ⟨k1,k2,k3,k4⟩:=key ht hf hi hj h1 h2 h3 hg
  rw [k1]
  exact Z9A.2 ⟨t,f,(edN i j).toNat,by omega,by omega,hf,k2,k3,k4,hg,rfl⟩
 have hE':∀ p,p ∈ qD Gl (Z2v Gl n)->p.1<6*n/\p.2<6*n:=fun p hp=>hD p (hE p hp)
 rw [e1,e2]
 refine jn_eq hD hE' (fun p hp=>?_) (fun p hp=>(Z60 _ _ (Z15 _) hD).2.2 _ (hE p hp)) hk
 obtain ⟨u,g,e,h1,h2,h3,h4,h5,h6,h7,rfl⟩:=Z9A.1 hp
 have ht:u<n:=by omega
 obtain ⟨g1,g2,g3,g4,g5⟩:=Zbd (e:=(e:Int)) qO qO
 obtain ⟨A,hA⟩:∃ A:Nat,edA e=A:=⟨(edA e).toNat,by omega⟩
 obtain ⟨B,hB⟩:∃ B:Nat,edB e=B:=⟨(edB e).toNat,by omega⟩
 have en:=ZmJ h4
 rw [hA,hB] at en
 rw [hA] at h5 g1 g2 g5
 rw [hB] at h6 g3 g4 g5
 have hA4:A<4:=by omega
 have hB4:B<4:=by omega
 have hAB:A ≠ B:=by omega
 have hAg:A ≠ g:=by omega
 have hBg:B ≠ g:=by omega
 obtain ⟨k1,-⟩:=key ht h3 hA4 hB4 hAg hBg hAB h7
 have same:=(Z60 _ _ (Z15 _) hE').2.2
 rw [show (edN (A:Int) B).toNat=e by omega] at k1
 cases hs:Z1Z Gl u g with
 | false =>
  have:=same _ (Zmr hok hG ht h3 hA4 hAg hs hB4 hBg (Ne.symm hAB))
  rw [k1] at this
  exact this
 | true =>
  have gA:=FGl.of hok hG ht h3 hA4 hAg h7
  have gB:=FGl.of hok hG ht h3 hB4 hBg h7
  obtain ⟨z1,z2,z3,z4,z5⟩:=Z3y hok hG ht h3 hA4 hAg h7
  obtain ⟨y1,y2,y3,y4,y5⟩:=Z3y hok hG ht h3 hB4 hBg h7
  have nAB:=Zge hok hG ht h3 hA4 hB4 hAB h7
  have:=same _ (Zmr hok hG gA.u gA.h gA.j gA.ne (z5 hs) gB.j gB.ne (Ne.symm nAB))
  rw [z1,z3,y3] at this
  have e1':=congrArg Prod.fst k1
  have e2':=congrArg Prod.snd k1
  simp only at e1' e2' this ⊢
  rw [e1',e2'] at this
  exact this.symm
theorem Z7T (V:List Int) (t:Int) {i j f:Nat} (hi:i<4) (hj:j<4) (hf:f<4) (h1:i ≠ f) (h2:j ≠ f) (h3:i ≠ j):Z1V V t (edN i j)=Z5z V t f i+Z5z V t f j:=by
 have hz:(i=0 ∨ i=1 ∨ i=2 ∨ i=3)/\(j=0 ∨ j=1 ∨ j=2 ∨ j=3)/\(f=0 ∨ f=1 ∨ f=2 ∨ f=3):=by omega
 obtain ⟨a,b,d⟩:=hz
 rcases a with rfl | rfl | rfl | rfl <;> rcases b with rfl | rfl | rfl | rfl <;> first | (exfalso; omega) | skip
 all_goals (rcases d with rfl | rfl | rfl | rfl <;> first | (exfalso; omega) | skip)
 all_goals (simp [Z1V,wK,Z5z,edN,edI,isEd,edA,edB,edL,ty,tyT]; try omega)

theorem Zbe {Gl:List Int} {n:Nat} (hok:Z0w Gl n=true) (hG:Gl.length=n*20):Z7O (eC Gl n) (6*n) /\ ∀ p,p ∈ qD Gl (Z2v Gl n)->p.1<6*n/\p.2<6*n:=by
 have hp:∀ p,p ∈ qD Gl (Z2v Gl n)->p.1<6*n/\p.2<6*n:=fun p hp=>by
  obtain ⟨t,f,i,j,ht,hf,hi,hj,h1,h2,h3,hg,rfl⟩:=Z7W hok hG hp
  have r:=Z0R (i:=(i:Int)) (j:=(j:Int)) qO qO qO qO qO
  have gi:=FGl.of hok hG ht hf hi h1 hg
  have gj:=FGl.of hok hG ht hf hj h2 hg
  have gu:=gi.u
  have r2:=Z0R (i:=(fJ Gl t f i:Int)) (j:=(fJ Gl t f j:Int)) qO (by have:=gi.j; omega) qO (by have:=gj.j; omega) (by have:=Zge hok hG ht hf hi hj h3 hg; omega)
  exact ⟨by simp only; omega,by simp only; omega⟩
 have e2:eC Gl n=jn (qD Gl (Z2v Gl n)) (Z0p (6*n)):=ZbR Gl _ _
 exact ⟨by rw [e2]; exact (Z60 _ _ (Z15 _) hp).1,hp⟩
theorem Zhi {Gl V:List Int} {n k:Nat} (hok:Z0w Gl n=true) (hG:Gl.length=n*20) (hE:((Z2v Gl n).all fun m=>eqM V m)=true) (hk:k<6*n):wgt V k=wgt V (Z0a (eC Gl n) k:Nat):=by
 obtain ⟨hd,hp⟩:=Zbe hok hG
 have e2:eC Gl n=jn (qD Gl (Z2v Gl n)) (Z0p (6*n)):=ZbR Gl _ _
 have hle:=Z1p hd hk
 have hrr:=Z2y hd hk
 rw [e2] at hle hrr ⊢
 refine ((Z2g (fun w=>wgt V w=wgt V (Z0a (jn (qD Gl (Z2v Gl n)) (Z0p (6*n))) k:Nat)) (D:=qD Gl (Z2v Gl n)) (fun p hpp=>⟨(hp p hpp).1,(hp p hpp).2, ?_⟩) (a:=Z0a (jn (qD Gl (Z2v Gl n)) (Z0p (6*n))) k) (b:=k) qO hk hrr).1 rfl)
 obtain ⟨t,f,i,j,ht,hf,hi,hj,h1,h2,h3,hg,rfl⟩:=Z7W hok hG hpp
 have r:=Z0R (i:=(i:Int)) (j:=(j:Int)) qO qO qO qO qO
 have gi:=FGl.of hok hG ht hf hi h1 hg
 have gj:=FGl.of hok hG ht hf hj h2 hg
 have r2:=Z0R (i:=(fJ Gl t f i:Int)) (j:=(fJ Gl t f j:Int)) qO (by have:=gi.j; omega) qO (by have:=gj.j; omega) (by have:=Zge hok hG ht hf hi hj h3 hg; omega)
 have w1:wgt V ((6*(t:Int)+edN i j).toNat:Nat)=Z1V V t (edN i j):=by
  rw [Z83]
  congr 1 <;> omega
 have w2:wgt V ((6*(fU Gl t f:Int)+edN (fJ Gl t f i:Nat) (fJ Gl t f j:Nat)).toNat:Nat)=Z1V V (fU Gl t f) (edN (fJ Gl t f i:Nat) (fJ Gl t f j:Nat)):=by
  rw [Z83]
  congr 1 <;> omega
 have a1:=Z7X hok hG hE ht hf hi h1 hg
 have a2:=Z7X hok hG hE ht hf hj h2 hg
 have e:wgt V ((6*(t:Int)+edN i j).toNat:Nat)=wgt V ((6*(fU Gl t f:Int)+edN (fJ Gl t f i:Nat) (fJ Gl t f j:Nat)).toNat:Nat):=by
  rw [w1,w2,Z7T V t hi hj hf h1 h2 h3,Z7T V (fU Gl t f) gi.j gj.j gi.h gi.ne gj.ne (Zge hok hG ht hf hi hj h3 hg),a1,a2]
 show wgt V ((6*(t:Int)+edN i j).toNat:Nat)=_ ↔ wgt V ((6*(fU Gl t f:Int)+edN (fJ Gl t f i:Nat) (fJ Gl t f j:Nat)).toNat:Nat)=_
 rw [e]
end Go.Proofs.Ytcnndelmnobigaa

namespace Go.Ab
def Z1y (f:Nat->Int):Nat->Int
 | 0=>0
 | n+1=>Z1y f n+f n
theorem Z11 {f g:Nat->Int}:∀ {n:Nat},(∀ a,a<n->f a=g a)->Z1y f n=Z1y g n
 | 0,_=>rfl
 | n+1,h=>by rw [Z1y,Z1y,Z11 (n:=n) (fun a ha=>h a qO),h n qO]
theorem Zaq (f g:Nat->Int):∀ (n:Nat),Z1y (fun a=>f a+g a) n=Z1y f n+Z1y g n
 | 0=>by simp [Z1y]
 | n+1=>by rw [Z1y,Z1y,Z1y,Zaq f g n]; omega
theorem Z6K (k:Int):∀ (n:Nat),Z1y (fun _=>k) n=n*k
 | 0=>by simp [Z1y]
 | n+1=>by rw [Z1y,Z6K k n,Int.natCast_add,Int.add_mul]; simp
theorem Zhq (n:Nat):Z1y (fun _=>0) n=0:=by rw [Z6K]; simp
theorem Z89 (h:Nat->Nat->Int) (N:Nat):∀ (M:Nat),Z1y (fun a=>Z1y (fun b=>h a b) N) M=Z1y (fun b=>Z1y (fun a=>h a b) M) N
 | 0=>by simp only [Z1y]; exact (Zhq N).symm
 | M+1=>by
  rw [Z1y,Z89 h N M]
  have:(fun b=>Z1y (fun a=>h a b) (M+1))=fun b=>Z1y (fun a=>h a b) M+h M b:=by funext b; rfl
  rw [this,Zaq]
theorem Z3s (g:Nat->Int) (b0:Nat):∀ {N:Nat},Z1y (fun b=>if b=b0 then g b else 0) N=if b0<N then g b0 else 0
 | 0=>by simp [Z1y]
 | N+1=>by
  rw [Z1y,Z3s g b0 (N:=N)]
  by_cases h1:b0<N
  · rw [if_pos h1,if_neg qO,if_pos qO]; omega
  · by_cases h2:N=b0
    · subst h2; rw [if_neg h1,if_pos rfl,if_pos qO]; omega
    · rw [if_neg h1,if_neg h2,if_neg qO]; rfl
end Go.Ab

namespace Go.Ab
open Go
theorem ZdS {Ord Pm:List Int} {n:Nat}:∀ {k i:Nat} {met:List Bool},met.length=n->Zhd Ord Pm n k i met=true →
 (∀ j,i<=j->j<i+k->met.getD (Ord.getD j 0).toNat false=false)/\(∀ j j',i<=j->j<j'->j'<i+k->(Ord.getD j 0).toNat ≠ (Ord.getD j' 0).toNat)
 | 0,i,met,hm,h=>⟨fun j h1 h2=>by omega,fun j j' h1 h2 h3=>by omega⟩
 | k+1,i,met,hm,h=>by
  unfold Zhd at h
  split at h
  · cases h
  split at h
  · cases h
  split at h
  · cases h
  rename_i q1 q2 q3
  obtain ⟨i1,i2⟩:=ZdS (k:=k) (i:=i+1) (met:=met.set (Ord.getD i 0).toNat true) (by simp [hm]) h
  have hlt:(Ord.getD i 0).toNat<met.length:=by omega
  have key:∀ j,i+1<=j->j<i+1+k->(Ord.getD i 0).toNat ≠ (Ord.getD j 0).toNat/\met.getD (Ord.getD j 0).toNat false=false:=fun j h1 h2=>by
   have:=i1 j h1 h2
   rw [List.getD_eq_getElem?_getD,List.getElem?_set] at this
   by_cases e:(Ord.getD i 0).toNat=(Ord.getD j 0).toNat
   · rw [if_pos e,if_pos hlt] at this; simp at this
   · rw [if_neg e] at this
     exact ⟨e,by rw [List.getD_eq_getElem?_getD]; exact this⟩
  refine ⟨fun j h1 h2=>?_,fun j j' h1 h2 h3=>?_⟩
  · by_cases e:j=i
    · subst e; simpa using q2
    · exact (key j qO qO).2
  · by_cases e:j=i
    · subst e; exact (key j' qO qO).1
    · exact i2 j j' qO h2 qO
theorem ZfE {Ord:List Int} {n:Nat} (hr:∀ j,j<n->(Ord.getD j 0).toNat<n) (hinj:∀ j j',j<j'->j'<n->(Ord.getD j 0).toNat ≠ (Ord.getD j' 0).toNat) :
 ∀ (k i:Nat) (l:List Int),i+k=n->l.length=n->(∀ j,j<i->l.getD (Ord.getD j 0).toNat 0=j) -> ∀ j,j<n->(Z9g Ord k i l).getD (Ord.getD j 0).toNat 0=j
 | 0,i,l,h1,h2,h3,j,hj=>h3 j qO
 | k+1,i,l,h1,h2,h3,j,hj=>by
  rw [Z9g]
  refine ZfE hr hinj k (i+1) _ qO (by simp [h2]) (fun j hj=>?_) j hj
  rw [Z2h]
  have hi:=hr i qO
  by_cases e:j=i
  · subst e; rw [if_pos ⟨rfl,by omega⟩]
  · have:=hinj j i qO qO
    rw [if_neg (fun q=>this q.1.symm)]
    exact h3 j qO
theorem Zhr {f:Nat->Int}:∀ {n:Nat},(∀ x,x<n->f x<=1)->Z1y f n<=n/\(Z1y f n=n -> ∀ x,x<n->f x=1)
 | 0,h=>⟨by simp [Z1y],fun _ x hx=>by omega⟩
 | n+1,h=>by
  obtain ⟨i1,i2⟩:=Zhr (n:=n) (fun x hx=>h x qO)
  have h1:=h n qO
  rw [Z1y]
  refine ⟨by omega,fun e x hx=>?_⟩
  by_cases hxn:x=n
  · subst hxn; omega
  · exact i2 qO x qO
theorem Z6b {h:Nat->Int} {s r:Nat->Nat} {N:Nat} (h1:∀ a,a<N->s a<N) (h2:∀ b,b<N->r b<N) (h3:∀ a,a<N->r (s a)=a) (h4:∀ b,b<N->s (r b)=b):Z1y (fun a=>h (s a)) N=Z1y h N:=by
 have A:Z1y (fun a=>h (s a)) N=Z1y (fun a=>Z1y (fun b=>if b=s a then h b else 0) N) N:=Z11 fun a ha=>by
  rw [Z3s h (s a),if_pos (h1 a ha)]
 rw [A,Z89]
 refine Z11 fun b hb=>?_
 have:Z1y (fun a=>if b=s a then h b else 0) N=Z1y (fun a=>if a=r b then h b else 0) N:=Z11 fun a ha=>by
  by_cases e:b=s a
  · rw [if_pos e,if_pos (by rw [e,h3 a ha])]
  · rw [if_neg e,if_neg (fun q=>e (by rw [q,h4 b hb]))]
 rw [this,Z3s (fun _=>h b) (r b),if_pos (h2 b hb)]
theorem onto {n:Nat} {s r:Nat->Nat} (h1:∀ a,a<n->s a<n) (h2:∀ b,b<n->r b<n) (h3:∀ a,a<n->r (s a)=a):∀ b,b<n->s (r b)=b:=by
 have A:Z1y (fun a=>Z1y (fun b=>if b=s a then (1:Int) else 0) n) n=n:=by
  rw [Z11 (g:=fun _=>1) (fun a ha=>by rw [Z3s (fun _=>1) (s a),if_pos (h1 a ha)]),Z6K]
  omega
 rw [Z89] at A
 have B:∀ b,b<n->Z1y (fun a=>if b=s a then (1:Int) else 0) n=if b=s (r b) then 1 else 0:=fun b hb=>by
  have:Z1y (fun a=>if b=s a then (1:Int) else 0) n=Z1y (fun a=>if a=r b then (if b=s (r b) then (1:Int) else 0) else 0) n:=Z11 fun a ha=>by
   by_cases e:a=r b
   · subst e; rw [if_pos rfl]
   · rw [if_neg e,if_neg (fun q=>e (by rw [q,h3 a ha]))]
  rw [this,Z3s (fun _=>if b=s (r b) then (1:Int) else 0) (r b),if_pos (h2 b hb)]
 have C:=(Zhr (f:=fun b=>Z1y (fun a=>if b=s a then (1:Int) else 0) n) (n:=n) (fun b hb=>by
  show Z1y (fun a=>if b=s a then (1:Int) else 0) n<=1
  rw [B b hb]; split <;> omega)).2 A
 intro b hb
 have:=C b hb
 rw [B b hb] at this
 by_cases e:b=s (r b)
 · exact e.symm
 · rw [if_neg e] at this; omega
structure Rel (Gl Hl:List Int) (n:Nat) (O K:Nat->Nat) (p r:Nat->Nat->Nat):Prop where
 o:∀ t,t<n->O t<n
 k:∀ t,t<n->K t<n
 ko:∀ t,t<n->K (O t)=t
 ok:∀ t,t<n->O (K t)=t
 pl:∀ t i,t<n->i<4->p t i<4
 rl:∀ t i,t<n->i<4->r t i<4
 rp:∀ t i,t<n->i<4->r (O t) (p t i)=i
 pr:∀ t i,t<n->i<4->p (K t) (r t i)=i
 g:∀ t f,t<n->f<4->(Z0z (Z01 Hl t f)<0 ↔ Z0z (Z01 Gl (O t) (p t f))<0)
 u:∀ t f,t<n->f<4 -> ¬ Z0z (Z01 Hl t f)<0->O (fU Hl t f)=fU Gl (O t) (p t f)
 j:∀ t f i,t<n->f<4->i<4 -> ¬ Z0z (Z01 Hl t f)<0->p (fU Hl t f) (fJ Hl t f i)=fJ Gl (O t) (p t f) (p t i)
 hb:∀ t f,t<n->f<4 -> ¬ Z0z (Z01 Hl t f)<0->fU Hl t f<n /\ ∀ i,i<4->fJ Hl t f i<4
 gb:∀ t f,t<n->f<4 -> ¬ Z0z (Z01 Gl t f)<0->fU Gl t f<n /\ ∀ i,i<4->fJ Gl t f i<4
theorem Rel.sym {Gl Hl:List Int} {n:Nat} {O K:Nat->Nat} {p r:Nat->Nat->Nat} (h:Rel Gl Hl n O K p r):Rel Hl Gl n K O r p:=by
 have hg:∀ t f,t<n->f<4->(Z0z (Z01 Gl t f)<0 ↔ Z0z (Z01 Hl (K t) (r t f))<0):=fun t f ht hf=>by
  have:=h.g (K t) (r t f) (h.k t ht) (h.rl t f ht hf)
  rw [h.ok t ht,h.pr t f ht hf] at this
  exact this.symm
 refine ⟨h.k,h.o,h.ok,h.ko,h.rl,h.pl,h.pr,h.rp,hg,fun t f ht hf hn=>?_,fun t f i ht hf hi hn=>?_,h.gb,h.hb⟩
 · have hn':=(not_congr (hg t f ht hf)).1 hn
   have:=h.u (K t) (r t f) (h.k t ht) (h.rl t f ht hf) hn'
   rw [h.ok t ht,h.pr t f ht hf] at this
   rw [← this,h.ko _ (h.hb _ _ (h.k t ht) (h.rl t f ht hf) hn').1]
 · have hn':=(not_congr (hg t f ht hf)).1 hn
   have b:=h.hb _ _ (h.k t ht) (h.rl t f ht hf) hn'
   have e1:=h.u (K t) (r t f) (h.k t ht) (h.rl t f ht hf) hn'
   have e2:=h.j (K t) (r t f) (r t i) (h.k t ht) (h.rl t f ht hf) (h.rl t i ht hi) hn'
   rw [h.ok t ht,h.pr t f ht hf] at e1
   rw [h.ok t ht,h.pr t f ht hf,h.pr t i ht hi] at e2
   rw [← e1,← e2,h.rp _ _ b.1 (b.2 _ (h.rl t i ht hi))]
theorem Rel.ne {Gl Hl:List Int} {n:Nat} {O K:Nat->Nat} {p r:Nat->Nat->Nat} (h:Rel Gl Hl n O K p r) {t i j:Nat} (ht:t<n) (hi:i<4) (hj:j<4) (hij:i ≠ j):p t i ≠ p t j:=fun e=>hij (by
 rw [← h.rp t i ht hi,← h.rp t j ht hj,e])
theorem ZfW {F:Nat->List Int} (hF:∀ f,f<4->(F f).length=5) {f:Nat} (hf:f<4):((Z5D F 4).drop (5*f)).take 5=F f:=by
 have h0:=hF 0 qO
 have h1:=hF 1 qO
 have h2:=hF 2 qO
 have h3:=hF 3 qO
 have e:Z5D F 4=F 0++(F 1++(F 2++F 3)):=by simp [Z5D]
 rw [e]
 have hz:f=0 ∨ f=1 ∨ f=2 ∨ f=3:=by omega
 rcases hz with rfl | rfl | rfl | rfl <;> simp [List.drop_append,List.take_append,h0,h1,h2,h3,List.take_of_length_le,List.drop_of_length_le]
theorem ZhF {Gl Ord Pm:List Int} {n:Nat} (h:RnOk Gl Ord Pm n) {i f:Nat} (hf:f<4):∀ {m:Nat},m<=n->i<m->Z01 (rnL Gl Ord Pm (Z17 Ord n) m) i f=rnF Gl Ord Pm (Z17 Ord n) i f
 | 0,_,hi=>by omega
 | m+1,hm,hi=>by
  have hl:=Z6N h m qO
  have hr:=fun f hf=>Z5o h (i:=m) qO (f:=f) hf
  rw [rnL,Z01]
  by_cases e:i=m
  · subst e
    rw [List.drop_append,List.drop_of_length_le qO,List.nil_append,show 20*i+5*f-(rnL Gl Ord Pm (Z17 Ord n) i).length=5*f by omega]
    exact ZfW hr hf
  · have:=ZhF h (i:=i) hf (m:=m) qO qO
    rw [← this,Z01,List.drop_append_of_le_length qO,List.take_append_of_le_length (by rw [List.length_drop]; omega)]
theorem Zap (x:Int) (l:List Int):Z0z (x::l)=x:=rfl
theorem ZbE (x:Int) {l:List Int} (h:l.length=4):Z0c (x::l)=l:=by
 show List.take 4 (List.drop 1 (x::l))=_
 rw [List.drop_succ_cons,List.drop_zero,List.take_of_length_le qO]
def oA (Ord:List Int) (t:Nat):Nat:=(Ord.getD t 0).toNat
def kA (Ord:List Int) (n t:Nat):Nat:=((Z17 Ord n).getD t 0).toNat
def pA (Pm:List Int) (t i:Nat):Nat:=((Z0i Pm t).getD i 0).toNat
def rA (Ord Pm:List Int) (n t i:Nat):Nat:=((inv (Z0i Pm (kA Ord n t))).getD i 0).toNat
structure OrdA (Ord:List Int) (n:Nat):Prop where
 o:∀ t,t<n->oA Ord t<n
 oz:∀ t,t<n->Ord.getD t 0=(oA Ord t:Nat)
 k:∀ t,t<n->kA Ord n t<n
 kz:∀ t,t<n->(Z17 Ord n).getD t 0=(kA Ord n t:Nat)
 ko:∀ t,t<n->kA Ord n (oA Ord t)=t
 ok:∀ t,t<n->oA Ord (kA Ord n t)=t
theorem OrdA.of {Gl Ord Pm:List Int} {n:Nat} (h:RnOk Gl Ord Pm n) (ho:Zhd Ord Pm n n 0 (List.replicate n false)=true):OrdA Ord n:=by
 have h1:∀ t,t<n->oA Ord t<n:=fun t ht=>by have:=h.rng t ht; unfold oA; omega
 have h2:∀ t,t<n->kA Ord n t<n:=fun t ht=>by have:=Z7w Ord (n:=n) qO t ht; unfold kA; omega
 have h3:∀ t,t<n->kA Ord n (oA Ord t)=t:=fun t ht=>by
  have:=ZfE (Ord:=Ord) (n:=n) h1 (fun j j' a b=>(ZdS (by simp) ho).2 j j' qO a qO) n 0 (List.replicate n 0) qO (by simp) (fun j hj=>by omega) t ht
  have e:(Z17 Ord n).getD (oA Ord t) 0=t:=this
  rw [kA,e,Int.toNat_natCast]
 exact ⟨h1,fun t ht=>by have:=h.rng t ht; unfold oA; omega,h2,fun t ht=>by have:=Z7w Ord (n:=n) qO t ht; unfold kA; omega,h3,onto h1 h2 h3⟩
theorem rn_all {Gl Ord Pm:List Int} {n:Nat} (h:RnOk Gl Ord Pm n) (ha:OrdA Ord n):Z0w (rnL Gl Ord Pm (Z17 Ord n) n) n=true/\Rel Gl (rnL Gl Ord Pm (Z17 Ord n) n) n (oA Ord) (kA Ord n) (pA Pm) (rA Ord Pm n):=by
 have hp:∀ t,t<n->Z0i Pm t ∈ Ab.p24:=fun t ht=>h.p24 ht
 have pl:∀ t i,t<n->i<4->pA Pm t i<4:=fun t i ht hi=>by have:=Z0C (hp t ht) hi; unfold pA; omega
 have pz:∀ t i,t<n->i<4->(Z0i Pm t).getD i 0=(pA Pm t i:Nat):=fun t i ht hi=>by have:=Z0C (hp t ht) hi; unfold pA; omega
 have rl:∀ t i,t<n->i<4->rA Ord Pm n t i<4:=fun t i ht hi=>by have:=Z0C (Z8y (hp _ (ha.k t ht))) hi; unfold rA; omega
 have rp:∀ t i,t<n->i<4->rA Ord Pm n (oA Ord t) (pA Pm t i)=i:=fun t i ht hi=>by
  have:=ZbM (hp t ht) hi
  rw [rA,ha.ko t ht,pA,this,Int.toNat_natCast]
 have pr:∀ t i,t<n->i<4->pA Pm (kA Ord n t) (rA Ord Pm n t i)=i:=fun t i ht hi=>by
  have:=ZbM (Z8y (hp _ (ha.k t ht))) hi
  rw [Zib (hp _ (ha.k t ht))] at this
  rw [rA,pA,this,Int.toNat_natCast]
 have gd:∀ t f,t<n->f<4 -> ¬ Z0z (Z01 Gl t f)<0->Z0c (Z01 Gl t f) ∈ Ab.p24/\fU Gl t f<n/\Z0z (Z01 Gl t f)=(fU Gl t f:Nat)/\(∀ i,i<4->fJ Gl t f i<4/\(Z0c (Z01 Gl t f)).getD i 0=(fJ Gl t f i:Nat)) /\ ¬ (fU Gl t f=t/\fJ Gl t f f=f)/\Z01 Gl (fU Gl t f) (fJ Gl t f f)=(t:Int)::inv (Z0c (Z01 Gl t f)):=fun t f ht hf hn=>by
  obtain ⟨k1,k2,k3,k4⟩:=Z1l (Z1Y h.ok ht hf) hn
  have kp:=ZbI (Z0O (Z0n h.gl ht hf)) k2
  have kr:∀ i,i<4->fJ Gl t f i<4/\(Z0c (Z01 Gl t f)).getD i 0=(fJ Gl t f i:Nat):=fun i hi=>by
   have:=Z0C kp hi
   unfold fJ; omega
  refine ⟨kp,by unfold fU; omega,by unfold fU; omega,kr,fun q=>k3 ⟨?_, ?_⟩,k4⟩
  · have:=q.1; unfold fU at this; omega
  · rw [(kr f hf).2,q.2]
 have fc:∀ t f,t<n->f<4->Z01 (rnL Gl Ord Pm (Z17 Ord n) n) t f=rnF Gl Ord Pm (Z17 Ord n) t f:=fun t f ht hf=>ZhF h hf (Nat.le_refl _) ht
 have f0:∀ t f,t<n->f<4->Z0z (Z01 Gl (oA Ord t) (pA Pm t f))<0->Z01 (rnL Gl Ord Pm (Z17 Ord n) n) t f=Z5Y:=fun t f ht hf hn=>by
  rw [fc t f ht hf,rnF]
  exact if_pos hn
 have f1:∀ t f,t<n->f<4 -> ¬ Z0z (Z01 Gl (oA Ord t) (pA Pm t f))<0->Z01 (rnL Gl Ord Pm (Z17 Ord n) n) t f=(kA Ord n (fU Gl (oA Ord t) (pA Pm t f)):Int)::Z2o (inv (Z0i Pm (kA Ord n (fU Gl (oA Ord t) (pA Pm t f))))) (Z2o (Z0c (Z01 Gl (oA Ord t) (pA Pm t f))) (Z0i Pm t)):=fun t f ht hf hn=>by
  have g:=gd _ _ (ha.o t ht) (pl t f ht hf) hn
  have e:=ha.kz _ g.2.1
  have e2:(Z17 Ord n).getD (Z0z (Z01 Gl (Ord.getD t 0).toNat ((Z0i Pm t).getD f 0).toNat)).toNat 0=(kA Ord n (fU Gl (oA Ord t) (pA Pm t f)):Int):=e
  rw [fc t f ht hf,rnF,e2,Int.toNat_natCast]
  exact if_neg hn
 have l4:∀ (q p:List Int),p ∈ Ab.p24->(Z2o q p).length=4:=fun q p hp=>by rw [Z0t,Z5Z hp]
 have fr:∀ t f,t<n->f<4 -> ¬ Z0z (Z01 Gl (oA Ord t) (pA Pm t f))<0->Z0z (Z01 (rnL Gl Ord Pm (Z17 Ord n) n) t f)=(kA Ord n (fU Gl (oA Ord t) (pA Pm t f)):Nat)/\Z0c (Z01 (rnL Gl Ord Pm (Z17 Ord n) n) t f)=Z2o (inv (Z0i Pm (kA Ord n (fU Gl (oA Ord t) (pA Pm t f))))) (Z2o (Z0c (Z01 Gl (oA Ord t) (pA Pm t f))) (Z0i Pm t)) ∧
  ∀ i,i<4->(Z0c (Z01 (rnL Gl Ord Pm (Z17 Ord n) n) t f)).getD i 0=(rA Ord Pm n (fU Gl (oA Ord t) (pA Pm t f)) (fJ Gl (oA Ord t) (pA Pm t f) (pA Pm t i)):Nat):=fun t f ht hf hn=>by
  have g:=gd _ _ (ha.o t ht) (pl t f ht hf) hn
  have e:=f1 t f ht hf hn
  have e2:Z0c (Z01 (rnL Gl Ord Pm (Z17 Ord n) n) t f)=Z2o (inv (Z0i Pm (kA Ord n (fU Gl (oA Ord t) (pA Pm t f))))) (Z2o (Z0c (Z01 Gl (oA Ord t) (pA Pm t f))) (Z0i Pm t)):=by
   rw [e,ZbE _ (by rw [Z0t]; exact l4 _ _ (hp t ht))]
  refine ⟨by rw [e,Zap],e2,fun i hi=>?_⟩
  have b:=g.2.2.2.1 (pA Pm t i) (pl t i ht hi)
  have q:=Z0C (Z8y (hp _ (ha.k _ g.2.1))) b.1
  rw [e2,Z7t (l4 _ _ (hp t ht)) hi,Z7t (Z5Z (hp t ht)) hi,pz t i ht hi,Int.toNat_natCast,b.2,Int.toNat_natCast,rA]
  omega
 have hg:∀ t f,t<n->f<4->(Z0z (Z01 (rnL Gl Ord Pm (Z17 Ord n) n) t f)<0 ↔ Z0z (Z01 Gl (oA Ord t) (pA Pm t f))<0):=fun t f ht hf=>by
  by_cases hn:Z0z (Z01 Gl (oA Ord t) (pA Pm t f))<0
  · rw [f0 t f ht hf hn]; exact ⟨fun _=>hn,fun _=>by decide⟩
  · rw [(fr t f ht hf hn).1]; exact ⟨fun q=>by omega,fun q=>absurd q hn⟩
 have eu:∀ t f,t<n->f<4 -> ¬ Z0z (Z01 (rnL Gl Ord Pm (Z17 Ord n) n) t f)<0->fU (rnL Gl Ord Pm (Z17 Ord n) n) t f=kA Ord n (fU Gl (oA Ord t) (pA Pm t f)):=fun t f ht hf hn=>by
  rw [fU,(fr t f ht hf ((not_congr (hg t f ht hf)).1 hn)).1,Int.toNat_natCast]
 have ej:∀ t f i,t<n->f<4->i<4 -> ¬ Z0z (Z01 (rnL Gl Ord Pm (Z17 Ord n) n) t f)<0->fJ (rnL Gl Ord Pm (Z17 Ord n) n) t f i=rA Ord Pm n (fU Gl (oA Ord t) (pA Pm t f)) (fJ Gl (oA Ord t) (pA Pm t f) (pA Pm t i)):=fun t f i ht hf hi hn=>by
  rw [fJ,(fr t f ht hf ((not_congr (hg t f ht hf)).1 hn)).2.2 i hi,Int.toNat_natCast]
 have hrel:Rel Gl (rnL Gl Ord Pm (Z17 Ord n) n) n (oA Ord) (kA Ord n) (pA Pm) (rA Ord Pm n):=by
  refine ⟨ha.o,ha.k,ha.ko,ha.ok,pl,rl,rp,pr,hg,fun t f ht hf hn=>?_,fun t f i ht hf hi hn=>?_,fun t f ht hf hn=>?_,fun t f ht hf hn=>?_⟩
  · have g:=gd _ _ (ha.o t ht) (pl t f ht hf) ((not_congr (hg t f ht hf)).1 hn)
    rw [eu t f ht hf hn,ha.ok _ g.2.1]
  · have g:=gd _ _ (ha.o t ht) (pl t f ht hf) ((not_congr (hg t f ht hf)).1 hn)
    rw [eu t f ht hf hn,ej t f i ht hf hi hn,pr _ _ g.2.1 (g.2.2.2.1 _ (pl t i ht hi)).1]
  · have g:=gd _ _ (ha.o t ht) (pl t f ht hf) ((not_congr (hg t f ht hf)).1 hn)
    exact ⟨by rw [eu t f ht hf hn]; exact ha.k _ g.2.1,fun i hi=>by rw [ej t f i ht hf hi hn]; exact rl _ _ g.2.1 (g.2.2.2.1 _ (pl t i ht hi)).1⟩
  · have g:=gd t f ht hf hn
    exact ⟨g.2.1,fun i hi=>(g.2.2.2.1 i hi).1⟩
 refine ⟨(Z3P _ _).2 fun j hj=>?_,hrel⟩
 obtain ⟨t,ht⟩:∃ t,j / 4=t:=⟨_,rfl⟩
 obtain ⟨f,hf⟩:∃ f,j % 4=f:=⟨_,rfl⟩
 have ht':t<n:=by omega
 have hf':f<4:=by omega
 rw [ht,hf]
 by_cases hn:Z0z (Z01 Gl (oA Ord t) (pA Pm t f))<0
 · unfold Z0l
   rw [f0 t f ht' hf' hn]; simp
 have g:=gd _ _ (ha.o t ht') (pl t f ht' hf') hn
 have r:=fr t f ht' hf' hn
 have hn':¬ Z0z (Z01 (rnL Gl Ord Pm (Z17 Ord n) n) t f)<0:=(not_congr (hg t f ht' hf')).2 hn
 have hk:=ha.k _ g.2.1
 have pk:=hp _ hk
 have pt:=hp t ht'
 have e1:=hrel.u t f ht' hf' hn'
 have e2:=hrel.j t f f ht' hf' hf' hn'
 have b:=hrel.hb t f ht' hf' hn'
 have bz:=eu t f ht' hf' hn'
 have bj:=ej t f f ht' hf' hf' hn'
 have back1:Z01 (rnL Gl Ord Pm (Z17 Ord n) n) (fU (rnL Gl Ord Pm (Z17 Ord n) n) t f) (fJ (rnL Gl Ord Pm (Z17 Ord n) n) t f f)=(t:Int)::inv (Z0c (Z01 (rnL Gl Ord Pm (Z17 Ord n) n) t f)):=by
  have q:=f1 _ _ b.1 (b.2 f hf')
  rw [e1,e2,g.2.2.2.2.2,Zap] at q
  have q:=q qO
  have e3:fU Gl (fU Gl (oA Ord t) (pA Pm t f)) (fJ Gl (oA Ord t) (pA Pm t f) (pA Pm t f))=oA Ord t:=by
   rw [fU,g.2.2.2.2.2,Zap,Int.toNat_natCast]
  rw [e3,ha.ko t ht',ZbE _ (Z5Z (Z8y g.1)),bz] at q
  rw [bz,q,r.2.1,Z8x (Z8y pk) (Zfz g.1 pt),Z8x g.1 pt,Zib pk,ZgY (Z8y g.1) pk]
 unfold Z0l
 simp only [Bool.or_eq_true,Bool.and_eq_true,decide_eq_true_eq,Bool.not_eq_true']
 right
 refine ⟨⟨⟨⟨by rw [r.1]; omega,by rw [r.1]; omega⟩,by rw [r.2.1]; exact Zal (Zfz (Z8y pk) (Zfz g.1 pt))⟩, ?_⟩,back1⟩
 rw [Bool.and_eq_false_iff,decide_eq_false_iff_not,decide_eq_false_iff_not]
 by_cases q1:Z0z (Z01 (rnL Gl Ord Pm (Z17 Ord n) n) t f)=t
 · right
   intro q2
   have z1:fU (rnL Gl Ord Pm (Z17 Ord n) n) t f=t:=by rw [fU,q1,Int.toNat_natCast]
   have z2:fJ (rnL Gl Ord Pm (Z17 Ord n) n) t f f=f:=by rw [fJ,q2,Int.toNat_natCast]
   rw [z1] at e1
   rw [z1,z2] at e2
   exact g.2.2.2.2.1 ⟨e1.symm,e2.symm⟩
 · exact .inl q1
end Go.Ab

namespace Go.Proofs.Ytcnndelmnobigaa
open Go Go.Ab Go.Proofs
def eN (t i j:Nat):Nat:=(6*(t:Int)+edN i j).toNat
theorem ZiY {t i j:Nat} (hi:i<4) (hj:j<4) (hij:i ≠ j):eN t i j / 6=t/\((eN t i j % 6:Nat):Int)=edN i j:=by
 have r:=Z0R (i:=(i:Int)) (j:=(j:Int)) qO qO qO qO qO
 unfold eN
 omega
theorem eN_lt {n t i j:Nat} (ht:t<n) (hi:i<4) (hj:j<4) (hij:i ≠ j):eN t i j<6*n:=by
 have r:=Z0R (i:=(i:Int)) (j:=(j:Int)) qO qO qO qO qO
 unfold eN
 omega
theorem Zo4 (t:Nat) {i j:Nat} (hi:i<4) (hj:j<4):eN t i j=eN t j i:=by
 unfold eN
 rw [Zfw hi hj]
def eM (O:Nat->Nat) (p:Nat->Nat->Nat) (x:Nat):Nat:=eN (O (x / 6)) (p (x / 6) (edA (x % 6:Nat)).toNat) (p (x / 6) (edB (x % 6:Nat)).toNat)
theorem ZgW (O:Nat->Nat) (p:Nat->Nat->Nat) {t i j:Nat} (hi:i<4) (hj:j<4) (hij:i ≠ j) (h1:p t i<4) (h2:p t j<4):eM O p (eN t i j)=eN (O t) (p t i) (p t j):=by
 obtain ⟨e1,e2⟩:=ZiY (t:=t) hi hj hij
 obtain ⟨e3,e4⟩:=Zfv hi hj hij
 unfold eM
 rw [e1,e2,e3,e4,Int.toNat_natCast,Int.toNat_natCast]
 rcases Nat.lt_or_ge i j with h | h
 · rw [show min i j=i by omega,show max i j=j by omega]
 · rw [show min i j=j by omega,show max i j=i by omega,Zo4 _ h2 h1]
theorem Z8Q {n x:Nat} (hx:x<6*n):∃ t i j,t<n/\i<4/\j<4/\i ≠ j/\x=eN t i j:=by
 obtain ⟨g1,g2,g3,g4,g5⟩:=Zbd (e:=((x % 6:Nat):Int)) qO qO
 have e:=ZmJ (e:=x % 6) qO
 refine ⟨x / 6,(edA (x % 6:Nat)).toNat,(edB (x % 6:Nat)).toNat,by omega,by omega,by omega,by omega, ?_⟩
 unfold eN
 rw [show (((edA (x % 6:Nat)).toNat:Nat):Int)=edA (x % 6:Nat) by omega,show (((edB (x % 6:Nat)).toNat:Nat):Int)=edB (x % 6:Nat) by omega,e]
 omega
theorem ZiW {Gl:List Int} {n t f i j:Nat} (hok:Z0w Gl n=true) (hG:Gl.length=n*20) (ht:t<n) (hf:f<4) (hi:i<4) (hj:j<4) (hif:i ≠ f) (hjf:j ≠ f) (hij:i ≠ j) (hg:¬ Z0z (Z01 Gl t f)<0) :
 Z0a (eC Gl n) (eN t i j)=Z0a (eC Gl n) (eN (fU Gl t f) (fJ Gl t f i) (fJ Gl t f j)):=by
 have e1:edG Gl n=jn (rT Gl n 0) (Z0p (6*n)):=Znw Gl n 0 _
 have hD:∀ p,p ∈ rT Gl n 0->p.1<6*n/\p.2<6*n:=fun p hp=>by
  obtain ⟨u,g,e,h1,h2,h3,h4,h5,h6,h7,rfl⟩:=Z9A.1 hp
  exact ⟨by simp only; omega,fE_lt hok hG qO h3 h7 h4⟩
 have r:=Z0R (i:=(i:Int)) (j:=(j:Int)) qO qO qO qO qO
 obtain ⟨a1,a2⟩:=Zfv hi hj hij
 have m:(6*t+(edN i j).toNat,fE Gl t f (edN i j).toNat) ∈ rT Gl n 0:=Z9A.2 ⟨t,f,(edN i j).toNat,by omega,by omega,hf,by omega,by
  rw [show (((edN (i:Int) j).toNat:Nat):Int)=edN i j by omega,a1]; omega,by
  rw [show (((edN (i:Int) j).toNat:Nat):Int)=edN i j by omega,a2]; omega,hg,rfl⟩
 have k:=(Z60 _ _ (Z15 _) hD).2.2 _ m
 have b:=hD _ m
 rw [← e1] at k
 simp only at k b
 rw [Zfx hok hG b.1,Zfx hok hG b.2,Zil hok hG ht hf hi hj hif hjf hij hg] at k
 rw [show 6*t+(edN (i:Int) j).toNat=eN t i j by unfold eN; omega] at k
 exact k
theorem ZdO {Gl Hl:List Int} {n:Nat} {O K:Nat->Nat} {p r:Nat->Nat->Nat} (h:Rel Gl Hl n O K p r) (hok:Z0w Gl n=true) (hG:Gl.length=n*20) (hok':Z0w Hl n=true) (hG':Hl.length=n*20) {a b:Nat} (ha:a<6*n) (hb:b<6*n)
 (e:Z0a (eC Hl n) a=Z0a (eC Hl n) b):Z0a (eC Gl n) (eM O p a)=Z0a (eC Gl n) (eM O p b):=by
 have e2:eC Hl n=jn (qD Hl (Z2v Hl n)) (Z0p (6*n)):=ZbR Hl _ _
 rw [e2] at e
 refine (Z2g (fun w=>Z0a (eC Gl n) (eM O p w)=Z0a (eC Gl n) (eM O p b)) (D:=qD Hl (Z2v Hl n)) (fun x hx=>?_) ha hb e).2 rfl
 obtain ⟨d1,d2⟩:=(Zbe hok' hG').2 x hx
 refine ⟨d1,d2, ?_⟩
 obtain ⟨t,f,i,j,ht,hf,hi,hj,h1,h2,h3,hg,rfl⟩:=Z7W hok' hG' hx
 have hn:=(not_congr (h.g t f ht hf)).1 hg
 have hb:=h.hb t f ht hf hg
 have pf:=h.pl t f ht hf
 have pi:=h.pl t i ht hi
 have pj:=h.pl t j ht hj
 have nij:=Zge hok' hG' ht hf hi hj h3 hg
 have k:=ZiW hok hG (h.o t ht) pf pi pj (h.ne ht hi hf h1) (h.ne ht hj hf h2) (h.ne ht hi hj h3) hn
 rw [← h.u t f ht hf hg,← h.j t f i ht hf hi hg,← h.j t f j ht hf hj hg] at k
 rw [← ZgW O p hi hj h3 pi pj,← ZgW O p (hb.2 i hi) (hb.2 j hj) nij (h.pl _ _ hb.1 (hb.2 i hi)) (h.pl _ _ hb.1 (hb.2 j hj))] at k
 show Z0a (eC Gl n) (eM O p (eN t i j))=_ ↔ Z0a (eC Gl n) (eM O p (eN (fU Hl t f) (fJ Hl t f i) (fJ Hl t f j)))=_
 rw [k]
theorem ZiZ {Gl Hl:List Int} {n:Nat} {O K:Nat->Nat} {p r:Nat->Nat->Nat} (h:Rel Gl Hl n O K p r) {x:Nat} (hx:x<6*n):eM O p x<6*n:=by
 obtain ⟨t,i,j,ht,hi,hj,hij,rfl⟩:=Z8Q hx
 rw [ZgW O p hi hj hij (h.pl t i ht hi) (h.pl t j ht hj)]
 exact eN_lt (h.o t ht) (h.pl t i ht hi) (h.pl t j ht hj) (h.ne ht hi hj hij)
theorem Zo5 {Gl Hl:List Int} {n:Nat} {O K:Nat->Nat} {p r:Nat->Nat->Nat} (h:Rel Gl Hl n O K p r) {x:Nat} (hx:x<6*n):eM K r (eM O p x)=x:=by
 obtain ⟨t,i,j,ht,hi,hj,hij,rfl⟩:=Z8Q hx
 have pi:=h.pl t i ht hi
 have pj:=h.pl t j ht hj
 rw [ZgW O p hi hj hij pi pj,ZgW K r pi pj (h.ne ht hi hj hij) (h.rl _ _ (h.o t ht) pi) (h.rl _ _ (h.o t ht) pj),h.ko t ht,h.rp t i ht hi,h.rp t j ht hj]
theorem ZjI {Gl Hl:List Int} {n:Nat} {O K:Nat->Nat} {p r:Nat->Nat->Nat} (h:Rel Gl Hl n O K p r) (hok:Z0w Gl n=true) (hG:Gl.length=n*20) (hok':Z0w Hl n=true) (hG':Hl.length=n*20) {a b:Nat} (ha:a<6*n) (hb:b<6*n)
 (e:Z0a (eC Gl n) (eM O p a)=Z0a (eC Gl n) (eM O p b)):Z0a (eC Hl n) a=Z0a (eC Hl n) b:=by
 have:=ZdO h.sym hok' hG' hok hG (ZiZ h ha) (ZiZ h hb) e
 rwa [Zo5 h ha,Zo5 h hb] at this
def Zon (n:Nat) (U V:List Int) (O:Nat->Nat) (p:Nat->Nat->Nat):Prop:=∀ t f i:Nat,t<n->f<4->i<4->i ≠ f->Z5z U t f i=Z5z V (O t:Nat) (p t f:Nat) (p t i:Nat)
theorem Znh {Gl Hl U V:List Int} {n:Nat} {O K:Nat->Nat} {p r:Nat->Nat->Nat} (h:Rel Gl Hl n O K p r) (hA:Zon n U V O p) {x:Nat} (hx:x<6*n):wgt U x=wgt V (eM O p x:Nat):=by
 obtain ⟨t,i,j,ht,hi,hj,hij,rfl⟩:=Z8Q hx
 have pi:=h.pl t i ht hi
 have pj:=h.pl t j ht hj
 have nij:=h.ne ht hi hj hij
 obtain ⟨f,hf,hfi,hfj⟩:∃ f,f<4/\i ≠ f/\j ≠ f:=by
  by_cases h0:i ≠ 0/\j ≠ 0
  · exact ⟨0,by omega,h0.1,h0.2⟩
  · by_cases h1:i ≠ 1/\j ≠ 1
    · exact ⟨1,by omega,h1.1,h1.2⟩
    · exact ⟨2,by omega,by omega,by omega⟩
 obtain ⟨e1,e2⟩:=ZiY (t:=t) hi hj hij
 obtain ⟨e3,e4⟩:=ZiY (t:=O t) pi pj nij
 rw [ZgW O p hi hj hij pi pj,Z83,Z83,e1,e2,e3,e4,Z7T U t hi hj hf hfi hfj hij,Z7T V (O t:Nat) pi pj (h.pl t f ht hf) (h.ne ht hi hf hfi) (h.ne ht hj hf hfj) nij,hA t f i ht hf hi hfi,hA t f j ht hf hj hfj]
theorem Z20 {C:List Int} {m:Nat} {x:Int}:x ∈ Z0U C m ↔ ∃ k:Nat,x=k/\k<m/\Z0a C k=k:=by
 unfold Z0U
 rw [List.mem_map]
 constructor
 · rintro ⟨k,h1,rfl⟩
   rw [List.mem_filter,List.mem_range,decide_eq_true_eq] at h1
   exact ⟨k,rfl,h1⟩
 · rintro ⟨k,rfl,h1⟩
   exact ⟨k,by rw [List.mem_filter,List.mem_range,decide_eq_true_eq]; exact h1,rfl⟩
theorem Z6l (C:List Int) (m:Nat):(Z0U C m).Nodup:=by
 unfold Z0U List.Nodup
 rw [List.pairwise_map]
 exact List.Pairwise.imp (fun h e=>h (Int.ofNat.inj e)) (List.Pairwise.filter _ List.nodup_range)
theorem ZdP {Gl Hl U V:List Int} {n:Nat} {O K:Nat->Nat} {p r:Nat->Nat->Nat} (h:Rel Gl Hl n O K p r) (hok:Z0w Gl n=true) (hG:Gl.length=n*20) (hok':Z0w Hl n=true) (hG':Hl.length=n*20) (hA:Zon n U V O p) (hE:((Z2v Gl n).all fun m=>eqM V m)=true) :
 ((edF Hl n).map (wgt U)).Perm ((edF Gl n).map (wgt V)):=by
 have hF:edF Hl n=Z0U (eC Hl n) (6*n):=rfl
 have hF':edF Gl n=Z0U (eC Gl n) (6*n):=rfl
 obtain ⟨dG,-⟩:=Zbe hok hG
 obtain ⟨dH,-⟩:=Zbe hok' hG'
 obtain ⟨s,hs⟩:∃ s:Int->Int,s=fun x:Int=>((Z0a (eC Gl n) (eM O p x.toNat):Nat):Int):=⟨_,rfl⟩
 have hm:(edF Hl n).map (wgt U)=((edF Hl n).map s).map (wgt V):=by
  rw [List.map_map]
  refine List.map_congr_left fun x hx=>?_
  obtain ⟨k,rfl,hk,-⟩:=Z20.1 (hF ▸ hx)
  rw [Znh h hA hk,Zhi hok hG hE (ZiZ h hk),hs]
  rfl
 rw [hm]
 refine List.Perm.map _ ((List.perm_ext_iff_of_nodup ?_ ?_).2 fun y=>?_)
 · unfold List.Nodup
   rw [List.pairwise_map]
   refine List.Pairwise.imp_of_mem (fun {a b} ha hb hab=>?_) (hF ▸ Z6l (eC Hl n) (6*n))
   obtain ⟨k,rfl,hk,kr⟩:=Z20.1 (hF ▸ ha)
   obtain ⟨l,rfl,hl,lr⟩:=Z20.1 (hF ▸ hb)
   intro e
   rw [hs] at e
   have e2:Z0a (eC Gl n) (eM O p k)=Z0a (eC Gl n) (eM O p l):=Int.ofNat.inj e
   have:=ZjI h hok hG hok' hG' hk hl e2
   rw [kr,lr] at this
   exact hab (by rw [this])
 · rw [hF']; exact Z6l _ _
 · rw [List.mem_map,hF',Z20]
   constructor
   · rintro ⟨x,hx,rfl⟩
     obtain ⟨k,rfl,hk,kr⟩:=Z20.1 (hF ▸ hx)
     have hk':=ZiZ h hk
     rw [hs]
     exact ⟨Z0a (eC Gl n) (eM O p k),rfl,Nat.lt_of_le_of_lt (Z1p dG hk') hk',Z2y dG hk'⟩
   · rintro ⟨y,rfl,hy,yr⟩
     have hz:=ZiZ h.sym hy
     have hzr:=Nat.lt_of_le_of_lt (Z1p dH hz) hz
     have ez:=Zo5 h.sym hy
     refine ⟨(Z0a (eC Hl n) (eM K r y):Nat), ?_, ?_⟩
     · rw [hF]
       exact Z20.2 ⟨_,rfl,hzr,Z2y dH hz⟩
     · have:=ZdO h hok hG hok' hG' hzr hz (Z2y dH hz)
       rw [ez,yr] at this
       rw [hs]
       show ((Z0a (eC Gl n) (eM O p (Z0a (eC Hl n) (eM K r y))) :Nat):Int)=y
       rw [this]


def Z7H (Gl:List Int) (a:Nat):Nat:=(4*Z0z (Z01 Gl (a / 4) (a % 4))+(Z0c (Z01 Gl (a / 4) (a % 4))).getD (a % 4) 0).toNat
theorem Zi1 {Gl:List Int} {n:Nat} (hok:Z0w Gl n=true) (hG:Gl.length=n*20) {t f:Nat} (ht:t<n) (h4:f<4) (h0:0<=Z0z (Z01 Gl t f)) :
 Z7H Gl (4*t+f)<4*n/\Z7H Gl (Z7H Gl (4*t+f))=4*t+f/\Z7H Gl (4*t+f) ≠ 4*t+f/\(Z5g Gl t f=true ↔ Z7H Gl (4*t+f)<4*t+f):=by
 have ok:=Z1l (Z1Y hok ht h4) qO
 have hfl:=Z0n hG ht h4
 have hsk:Z5g Gl t f=decide (0<=Z0z (Z01 Gl t f)/\(Z0z (Z01 Gl t f)<t ∨ (Z0z (Z01 Gl t f)=t/\(Z0c (Z01 Gl t f)).getD f 0<f))):=rfl
 have m1:Z7H Gl (4*t+f)=(4*Z0z (Z01 Gl t f)+(Z0c (Z01 Gl t f)).getD f 0).toNat:=by
  unfold Z7H
  rw [show (4*t+f) / 4=t by omega,show (4*t+f) % 4=f by omega]
 obtain ⟨k1,k2,k3,k4⟩:=ok
 have kp:=ZbI (Z0O hfl) k2
 have kr:=Z0C kp h4
 have kv:=ZbM kp h4
 have li:=Z5Z (Z8y kp)
 obtain ⟨F,hF⟩:∃ F,Z01 Gl t f=F:=⟨_,rfl⟩
 rw [hF] at h0 hsk m1 k1 k3 k4 kp kr kv li
 obtain ⟨U,hU⟩:∃ U,Z0z F=U:=⟨_,rfl⟩
 rw [hU] at h0 hsk m1 k1 k3 k4
 obtain ⟨Q,hQ⟩:∃ Q,(Z0c F).getD f 0=Q:=⟨_,rfl⟩
 rw [hQ] at hsk m1 k3 k4 kr kv
 have m2:Z7H Gl (4*U+Q).toNat=4*t+f:=by
  unfold Z7H
  rw [show (4*U+Q).toNat / 4=U.toNat by omega,show (4*U+Q).toNat % 4=Q.toNat by omega,k4]
  have e1:Z0z ((t:Int)::inv (Z0c F))=t:=rfl
  have e2:Z0c ((t:Int)::inv (Z0c F))=inv (Z0c F):=by
   show List.take 4 (List.drop 1 ((t:Int)::inv (Z0c F)))=_
   rw [List.drop_succ_cons,List.drop_zero,List.take_of_length_le qO]
  rw [e1,e2,kv]
  omega
 rw [m1,m2]
 refine ⟨by omega,rfl,fun e=>k3 qO, ?_⟩
 rw [hsk,decide_eq_true_eq]
 omega
end Go.Proofs.Ytcnndelmnobigaa
