/- Parts of a proof: AbCount AbRen AbLab AbIso T1 T2 D5 D6. Conditions: none. -/
import Derived.Test.YtemkjcpfgmbibaaM16
set_option linter.all false
set_option maxRecDepth 100000
namespace Go.Ab
def Z4x (f:Nat->Int):Nat->Int
 | 0=>0
 | n+1=>Z4x f n+f n
theorem Z6m {f g:Nat->Int}:∀ {n:Nat},(∀ a,a<n->f a=g a)->Z4x f n=Z4x g n
 | 0,_=>rfl
 | n+1,h=>by rw [Z4x,Z4x,Z6m (n:=n) (fun a ha=>h a qO),h n qO]
theorem Zds (f g:Nat->Int):∀ (n:Nat),Z4x (fun a=>f a+g a) n=Z4x f n+Z4x g n
 | 0=>by simp [Z4x]
 | n+1=>by rw [Z4x,Z4x,Z4x,Zds f g n]; omega
theorem Z6l (k:Int):∀ (n:Nat),Z4x (fun _=>k) n=n*k
 | 0=>by simp [Z4x]
 | n+1=>by rw [Z4x,Z6l k n,Int.natCast_add,Int.add_mul]; simp
theorem ZgP (n:Nat):Z4x (fun _=>0) n=0:=by rw [Z6l]; simp
theorem Zbx (h:Nat->Nat->Int) (N:Nat):∀ (M:Nat),Z4x (fun a=>Z4x (fun b=>h a b) N) M=Z4x (fun b=>Z4x (fun a=>h a b) M) N
 | 0=>by simp only [Z4x]; exact (ZgP N).symm
 | M+1=>by
  rw [Z4x,Zbx h N M]
  have:(fun b=>Z4x (fun a=>h a b) (M+1))=fun b=>Z4x (fun a=>h a b) M+h M b:=by funext b; rfl
  rw [this,Zds]
theorem Z5y (g:Nat->Int) (b0:Nat):∀ {N:Nat},Z4x (fun b=>if b=b0 then g b else 0) N=if b0<N then g b0 else 0
 | 0=>by simp [Z4x]
 | N+1=>by
  rw [Z4x,Z5y g b0 (N:=N)]
  by_cases h1:b0<N
  · rw [if_pos h1,if_neg qO,if_pos qO]; omega
  · by_cases h2:N=b0
    · subst h2; rw [if_neg h1,if_pos rfl,if_pos qO]; omega
    · rw [if_neg h1,if_neg h2,if_neg qO]; rfl
end Go.Ab

namespace Go.Ab
open Go
theorem Zan {Ord Pm:List Int} {n:Nat}:∀ {k i:Nat} {met:List Bool},met.length=n->Zbt Ord Pm n k i met=true →
 (∀ j,i<=j->j<i+k->met.getD (Ord.getD j 0).toNat false=false)/\(∀ j j',i<=j->j<j'->j'<i+k->(Ord.getD j 0).toNat ≠ (Ord.getD j' 0).toNat)
 | 0,i,met,hm,h=>⟨fun j h1 h2=>by omega,fun j j' h1 h2 h3=>by omega⟩
 | k+1,i,met,hm,h=>by
  unfold Zbt at h
  split at h
  · cases h
  split at h
  · cases h
  split at h
  · cases h
  rename_i q1 q2 q3
  obtain ⟨i1,i2⟩:=Zan (k:=k) (i:=i+1) (met:=met.set (Ord.getD i 0).toNat true) (by simp [hm]) h
  have hlt:(Ord.getD i 0).toNat<met.length:=by omega
  have key:∀ j,i+1<=j->j<i+1+k->(Ord.getD i 0).toNat ≠ (Ord.getD j 0).toNat/\met.getD (Ord.getD j 0).toNat false=false:=fun j h1 h2=>by
   have:=i1 j h1 h2
   rw [List.getD_eq_getElem?_getD,List.getElem?_set] at this
   by_cases e:(Ord.getD i 0).toNat=(Ord.getD j 0).toNat
   · rw [if_pos e,if_pos hlt] at this; simp at this
   · rw [if_neg e] at this
     exact ⟨e,by rw [List.getD_eq_getElem?_getD]; exact this⟩
  refine ⟨fun j h1 h2=>?_,fun j j' h1 h2 h3=>?_⟩
  · by_cases e:j=i
    · subst e; simpa using q2
    · exact (key j qO qO).2
  · by_cases e:j=i
    · subst e; exact (key j' qO qO).1
    · exact i2 j j' qO h2 qO
theorem Zbl {Ord:List Int} {n:Nat} (hr:∀ j,j<n->(Ord.getD j 0).toNat<n) (hinj:∀ j j',j<j'->j'<n->(Ord.getD j 0).toNat ≠ (Ord.getD j' 0).toNat) :
 ∀ (k i:Nat) (l:List Int),i+k=n->l.length=n->(∀ j,j<i->l.getD (Ord.getD j 0).toNat 0=j) -> ∀ j,j<n->(Z66 Ord k i l).getD (Ord.getD j 0).toNat 0=j
 | 0,i,l,h1,h2,h3,j,hj=>h3 j qO
 | k+1,i,l,h1,h2,h3,j,hj=>by
  rw [Z66]
  refine Zbl hr hinj k (i+1) _ qO (by simp [h2]) (fun j hj=>?_) j hj
  rw [Z5N]
  have hi:=hr i qO
  by_cases e:j=i
  · subst e; rw [if_pos ⟨rfl,by omega⟩]
  · have:=hinj j i qO qO
    rw [if_neg (fun q=>this q.1.symm)]
    exact h3 j qO
theorem ZgQ {f:Nat->Int}:∀ {n:Nat},(∀ x,x<n->f x<=1)->Z4x f n<=n/\(Z4x f n=n -> ∀ x,x<n->f x=1)
 | 0,h=>⟨by simp [Z4x],fun _ x hx=>by omega⟩
 | n+1,h=>by
  obtain ⟨i1,i2⟩:=ZgQ (n:=n) (fun x hx=>h x qO)
  have h1:=h n qO
  rw [Z4x]
  refine ⟨by omega,fun e x hx=>?_⟩
  by_cases hxn:x=n
  · subst hxn; omega
  · exact i2 qO x qO
theorem onto {n:Nat} {s r:Nat->Nat} (h1:∀ a,a<n->s a<n) (h2:∀ b,b<n->r b<n) (h3:∀ a,a<n->r (s a)=a):∀ b,b<n->s (r b)=b:=by
 have A:Z4x (fun a=>Z4x (fun b=>if b=s a then (1:Int) else 0) n) n=n:=by
  rw [Z6m (g:=fun _=>1) (fun a ha=>by rw [Z5y (fun _=>1) (s a),if_pos (h1 a ha)]),Z6l]
  omega
 rw [Zbx] at A
 have B:∀ b,b<n->Z4x (fun a=>if b=s a then (1:Int) else 0) n=if b=s (r b) then 1 else 0:=fun b hb=>by
  have:Z4x (fun a=>if b=s a then (1:Int) else 0) n=Z4x (fun a=>if a=r b then (if b=s (r b) then (1:Int) else 0) else 0) n:=Z6m fun a ha=>by
   by_cases e:a=r b
   · subst e; rw [if_pos rfl]
   · rw [if_neg e,if_neg (fun q=>e (by rw [q,h3 a ha]))]
  rw [this,Z5y (fun _=>if b=s (r b) then (1:Int) else 0) (r b),if_pos (h2 b hb)]
 have C:=(ZgQ (f:=fun b=>Z4x (fun a=>if b=s a then (1:Int) else 0) n) (n:=n) (fun b hb=>by
  show Z4x (fun a=>if b=s a then (1:Int) else 0) n<=1
  rw [B b hb]; split <;> omega)).2 A
 intro b hb
 have:=C b hb
 rw [B b hb] at this
 by_cases e:b=s (r b)
 · exact e.symm
 · rw [if_neg e] at this; omega
structure Rel (Gl Hl:List Int) (n:Nat) (O K:Nat->Nat) (p r:Nat->Nat->Nat):Prop where
 o:∀ t,t<n->O t<n
 k:∀ t,t<n->K t<n
 ko:∀ t,t<n->K (O t)=t
 ok:∀ t,t<n->O (K t)=t
 pl:∀ t i,t<n->i<4->p t i<4
 rl:∀ t i,t<n->i<4->r t i<4
 rp:∀ t i,t<n->i<4->r (O t) (p t i)=i
 pr:∀ t i,t<n->i<4->p (K t) (r t i)=i
 g:∀ t f,t<n->f<4->(Z1d (Z06 Hl t f)<0 ↔ Z1d (Z06 Gl (O t) (p t f))<0)
 u:∀ t f,t<n->f<4 -> ¬ Z1d (Z06 Hl t f)<0->O (fU Hl t f)=fU Gl (O t) (p t f)
 j:∀ t f i,t<n->f<4->i<4 -> ¬ Z1d (Z06 Hl t f)<0->p (fU Hl t f) (fJ Hl t f i)=fJ Gl (O t) (p t f) (p t i)
 hb:∀ t f,t<n->f<4 -> ¬ Z1d (Z06 Hl t f)<0->fU Hl t f<n /\ ∀ i,i<4->fJ Hl t f i<4
 gb:∀ t f,t<n->f<4 -> ¬ Z1d (Z06 Gl t f)<0->fU Gl t f<n /\ ∀ i,i<4->fJ Gl t f i<4
theorem Rel.ne {Gl Hl:List Int} {n:Nat} {O K:Nat->Nat} {p r:Nat->Nat->Nat} (h:Rel Gl Hl n O K p r) {t i j:Nat} (ht:t<n) (hi:i<4) (hj:j<4) (hij:i ≠ j):p t i ≠ p t j:=fun e=>hij (by
 rw [← h.rp t i ht hi,← h.rp t j ht hj,e])
theorem Zf9 {F:Nat->List Int} (hF:∀ f,f<4->(F f).length=5) {f:Nat} (hf:f<4):((Z1x F 4).drop (5*f)).take 5=F f:=by
 have h0:=hF 0 qO
 have h1:=hF 1 qO
 have h2:=hF 2 qO
 have h3:=hF 3 qO
 have e:Z1x F 4=F 0++(F 1++(F 2++F 3)):=by simp [Z1x]
 rw [e]
 have hz:f=0 ∨ f=1 ∨ f=2 ∨ f=3:=by omega
 rcases hz with rfl | rfl | rfl | rfl <;> simp [List.drop_append,List.take_append,h0,h1,h2,h3,List.take_of_length_le,List.drop_of_length_le]
theorem ZgY {Gl Ord Pm:List Int} {n:Nat} (h:RnOk Gl Ord Pm n) {i f:Nat} (hf:f<4):∀ {m:Nat},m<=n->i<m->Z06 (rnL Gl Ord Pm (Z0o Ord n) m) i f=rnF Gl Ord Pm (Z0o Ord n) i f
 | 0,_,hi=>by omega
 | m+1,hm,hi=>by
  have hl:=Z1G h m qO
  have hr:=fun f hf=>Z2r h (i:=m) qO (f:=f) hf
  rw [rnL,Z06]
  by_cases e:i=m
  · subst e
    rw [List.drop_append,List.drop_of_length_le qO,List.nil_append,show 20*i+5*f-(rnL Gl Ord Pm (Z0o Ord n) i).length=5*f by omega]
    exact Zf9 hr hf
  · have:=ZgY h (i:=i) hf (m:=m) qO qO
    rw [← this,Z06,List.drop_append_of_le_length qO,List.take_append_of_le_length (by rw [List.length_drop]; omega)]
theorem Zai (x:Int) (l:List Int):Z1d (x::l)=x:=rfl
theorem ZbI (x:Int) {l:List Int} (h:l.length=4):Z0D (x::l)=l:=by
 show List.take 4 (List.drop 1 (x::l))=_
 rw [List.drop_succ_cons,List.drop_zero,List.take_of_length_le qO]
def oA (Ord:List Int) (t:Nat):Nat:=(Ord.getD t 0).toNat
def kA (Ord:List Int) (n t:Nat):Nat:=((Z0o Ord n).getD t 0).toNat
def pA (Pm:List Int) (t i:Nat):Nat:=((Z04 Pm t).getD i 0).toNat
def rA (Ord Pm:List Int) (n t i:Nat):Nat:=((inv (Z04 Pm (kA Ord n t))).getD i 0).toNat
structure OrdA (Ord:List Int) (n:Nat):Prop where
 o:∀ t,t<n->oA Ord t<n
 oz:∀ t,t<n->Ord.getD t 0=(oA Ord t:Nat)
 k:∀ t,t<n->kA Ord n t<n
 kz:∀ t,t<n->(Z0o Ord n).getD t 0=(kA Ord n t:Nat)
 ko:∀ t,t<n->kA Ord n (oA Ord t)=t
 ok:∀ t,t<n->oA Ord (kA Ord n t)=t
theorem OrdA.of {Gl Ord Pm:List Int} {n:Nat} (h:RnOk Gl Ord Pm n) (ho:Zbt Ord Pm n n 0 (List.replicate n false)=true):OrdA Ord n:=by
 have h1:∀ t,t<n->oA Ord t<n:=fun t ht=>by have:=h.rng t ht; unfold oA; omega
 have h2:∀ t,t<n->kA Ord n t<n:=fun t ht=>by have:=Z28 Ord (n:=n) qO t ht; unfold kA; omega
 have h3:∀ t,t<n->kA Ord n (oA Ord t)=t:=fun t ht=>by
  have:=Zbl (Ord:=Ord) (n:=n) h1 (fun j j' a b=>(Zan (by simp) ho).2 j j' qO a qO) n 0 (List.replicate n 0) qO (by simp) (fun j hj=>by omega) t ht
  have e:(Z0o Ord n).getD (oA Ord t) 0=t:=this
  rw [kA,e,Int.toNat_natCast]
 exact ⟨h1,fun t ht=>by have:=h.rng t ht; unfold oA; omega,h2,fun t ht=>by have:=Z28 Ord (n:=n) qO t ht; unfold kA; omega,h3,onto h1 h2 h3⟩
theorem Z8f {Gl Ord Pm:List Int} {n:Nat} (h:RnOk Gl Ord Pm n) (ha:OrdA Ord n):Z0Y (rnL Gl Ord Pm (Z0o Ord n) n) n=true/\Rel Gl (rnL Gl Ord Pm (Z0o Ord n) n) n (oA Ord) (kA Ord n) (pA Pm) (rA Ord Pm n):=by
 have hp:∀ t,t<n->Z04 Pm t ∈ Ab.p24:=fun t ht=>h.p24 ht
 have pl:∀ t i,t<n->i<4->pA Pm t i<4:=fun t i ht hi=>by have:=Z1E (hp t ht) hi; unfold pA; omega
 have pz:∀ t i,t<n->i<4->(Z04 Pm t).getD i 0=(pA Pm t i:Nat):=fun t i ht hi=>by have:=Z1E (hp t ht) hi; unfold pA; omega
 have rl:∀ t i,t<n->i<4->rA Ord Pm n t i<4:=fun t i ht hi=>by have:=Z1E (Z5i (hp _ (ha.k t ht))) hi; unfold rA; omega
 have rp:∀ t i,t<n->i<4->rA Ord Pm n (oA Ord t) (pA Pm t i)=i:=fun t i ht hi=>by
  have:=ZlU (hp t ht) hi
  rw [rA,ha.ko t ht,pA,this,Int.toNat_natCast]
 have pr:∀ t i,t<n->i<4->pA Pm (kA Ord n t) (rA Ord Pm n t i)=i:=fun t i ht hi=>by
  have:=ZlU (Z5i (hp _ (ha.k t ht))) hi
  rw [Zhj (hp _ (ha.k t ht))] at this
  rw [rA,pA,this,Int.toNat_natCast]
 have gd:∀ t f,t<n->f<4 -> ¬ Z1d (Z06 Gl t f)<0->Z0D (Z06 Gl t f) ∈ Ab.p24/\fU Gl t f<n/\Z1d (Z06 Gl t f)=(fU Gl t f:Nat)/\(∀ i,i<4->fJ Gl t f i<4/\(Z0D (Z06 Gl t f)).getD i 0=(fJ Gl t f i:Nat)) /\ ¬ (fU Gl t f=t/\fJ Gl t f f=f)/\Z06 Gl (fU Gl t f) (fJ Gl t f f)=(t:Int)::inv (Z0D (Z06 Gl t f)):=fun t f ht hf hn=>by
  obtain ⟨k1,k2,k3,k4⟩:=Z2j (Z2s h.ok ht hf) hn
  have kp:=ZbM (Z1j (Z0G h.gl ht hf)) k2
  have kr:∀ i,i<4->fJ Gl t f i<4/\(Z0D (Z06 Gl t f)).getD i 0=(fJ Gl t f i:Nat):=fun i hi=>by
   have:=Z1E kp hi
   unfold fJ; omega
  refine ⟨kp,by unfold fU; omega,by unfold fU; omega,kr,fun q=>k3 ⟨?_, ?_⟩,k4⟩
  · have:=q.1; unfold fU at this; omega
  · rw [(kr f hf).2,q.2]
 have fc:∀ t f,t<n->f<4->Z06 (rnL Gl Ord Pm (Z0o Ord n) n) t f=rnF Gl Ord Pm (Z0o Ord n) t f:=fun t f ht hf=>ZgY h hf (Nat.le_refl _) ht
 have f0:∀ t f,t<n->f<4->Z1d (Z06 Gl (oA Ord t) (pA Pm t f))<0->Z06 (rnL Gl Ord Pm (Z0o Ord n) n) t f=Z4O:=fun t f ht hf hn=>by
  rw [fc t f ht hf,rnF]
  exact if_pos hn
 have f1:∀ t f,t<n->f<4 -> ¬ Z1d (Z06 Gl (oA Ord t) (pA Pm t f))<0->Z06 (rnL Gl Ord Pm (Z0o Ord n) n) t f=(kA Ord n (fU Gl (oA Ord t) (pA Pm t f)):Int)::comp (inv (Z04 Pm (kA Ord n (fU Gl (oA Ord t) (pA Pm t f))))) (comp (Z0D (Z06 Gl (oA Ord t) (pA Pm t f))) (Z04 Pm t)):=fun t f ht hf hn=>by
  have g:=gd _ _ (ha.o t ht) (pl t f ht hf) hn
  have e:=ha.kz _ g.2.1
  have e2:(Z0o Ord n).getD (Z1d (Z06 Gl (Ord.getD t 0).toNat ((Z04 Pm t).getD f 0).toNat)).toNat 0=(kA Ord n (fU Gl (oA Ord t) (pA Pm t f)):Int):=e
  rw [fc t f ht hf,rnF,e2,Int.toNat_natCast]
  exact if_neg hn
 have l4:∀ (q p:List Int),p ∈ Ab.p24->(comp q p).length=4:=fun q p hp=>by rw [Z0l,Z23 hp]
 have fr:∀ t f,t<n->f<4 -> ¬ Z1d (Z06 Gl (oA Ord t) (pA Pm t f))<0->Z1d (Z06 (rnL Gl Ord Pm (Z0o Ord n) n) t f)=(kA Ord n (fU Gl (oA Ord t) (pA Pm t f)):Nat)/\Z0D (Z06 (rnL Gl Ord Pm (Z0o Ord n) n) t f)=comp (inv (Z04 Pm (kA Ord n (fU Gl (oA Ord t) (pA Pm t f))))) (comp (Z0D (Z06 Gl (oA Ord t) (pA Pm t f))) (Z04 Pm t)) ∧
  ∀ i,i<4->(Z0D (Z06 (rnL Gl Ord Pm (Z0o Ord n) n) t f)).getD i 0=(rA Ord Pm n (fU Gl (oA Ord t) (pA Pm t f)) (fJ Gl (oA Ord t) (pA Pm t f) (pA Pm t i)):Nat):=fun t f ht hf hn=>by
  have g:=gd _ _ (ha.o t ht) (pl t f ht hf) hn
  have e:=f1 t f ht hf hn
  have e2:Z0D (Z06 (rnL Gl Ord Pm (Z0o Ord n) n) t f)=comp (inv (Z04 Pm (kA Ord n (fU Gl (oA Ord t) (pA Pm t f))))) (comp (Z0D (Z06 Gl (oA Ord t) (pA Pm t f))) (Z04 Pm t)):=by
   rw [e,ZbI _ (by rw [Z0l]; exact l4 _ _ (hp t ht))]
  refine ⟨by rw [e,Zai],e2,fun i hi=>?_⟩
  have b:=g.2.2.2.1 (pA Pm t i) (pl t i ht hi)
  have q:=Z1E (Z5i (hp _ (ha.k _ g.2.1))) b.1
  rw [e2,Z5F (l4 _ _ (hp t ht)) hi,Z5F (Z23 (hp t ht)) hi,pz t i ht hi,Int.toNat_natCast,b.2,Int.toNat_natCast,rA]
  omega
 have hg:∀ t f,t<n->f<4->(Z1d (Z06 (rnL Gl Ord Pm (Z0o Ord n) n) t f)<0 ↔ Z1d (Z06 Gl (oA Ord t) (pA Pm t f))<0):=fun t f ht hf=>by
  by_cases hn:Z1d (Z06 Gl (oA Ord t) (pA Pm t f))<0
  · rw [f0 t f ht hf hn]; exact ⟨fun _=>hn,fun _=>by decide⟩
  · rw [(fr t f ht hf hn).1]; exact ⟨fun q=>by omega,fun q=>absurd q hn⟩
 have eu:∀ t f,t<n->f<4 -> ¬ Z1d (Z06 (rnL Gl Ord Pm (Z0o Ord n) n) t f)<0->fU (rnL Gl Ord Pm (Z0o Ord n) n) t f=kA Ord n (fU Gl (oA Ord t) (pA Pm t f)):=fun t f ht hf hn=>by
  rw [fU,(fr t f ht hf ((not_congr (hg t f ht hf)).1 hn)).1,Int.toNat_natCast]
 have ej:∀ t f i,t<n->f<4->i<4 -> ¬ Z1d (Z06 (rnL Gl Ord Pm (Z0o Ord n) n) t f)<0->fJ (rnL Gl Ord Pm (Z0o Ord n) n) t f i=rA Ord Pm n (fU Gl (oA Ord t) (pA Pm t f)) (fJ Gl (oA Ord t) (pA Pm t f) (pA Pm t i)):=fun t f i ht hf hi hn=>by
  rw [fJ,(fr t f ht hf ((not_congr (hg t f ht hf)).1 hn)).2.2 i hi,Int.toNat_natCast]
 have hrel:Rel Gl (rnL Gl Ord Pm (Z0o Ord n) n) n (oA Ord) (kA Ord n) (pA Pm) (rA Ord Pm n):=by
  refine ⟨ha.o,ha.k,ha.ko,ha.ok,pl,rl,rp,pr,hg,fun t f ht hf hn=>?_,fun t f i ht hf hi hn=>?_,fun t f ht hf hn=>?_,fun t f ht hf hn=>?_⟩
  · have g:=gd _ _ (ha.o t ht) (pl t f ht hf) ((not_congr (hg t f ht hf)).1 hn)
    rw [eu t f ht hf hn,ha.ok _ g.2.1]
  · have g:=gd _ _ (ha.o t ht) (pl t f ht hf) ((not_congr (hg t f ht hf)).1 hn)
    rw [eu t f ht hf hn,ej t f i ht hf hi hn,pr _ _ g.2.1 (g.2.2.2.1 _ (pl t i ht hi)).1]
  · have g:=gd _ _ (ha.o t ht) (pl t f ht hf) ((not_congr (hg t f ht hf)).1 hn)
    exact ⟨by rw [eu t f ht hf hn]; exact ha.k _ g.2.1,fun i hi=>by rw [ej t f i ht hf hi hn]; exact rl _ _ g.2.1 (g.2.2.2.1 _ (pl t i ht hi)).1⟩
  · have g:=gd t f ht hf hn
    exact ⟨g.2.1,fun i hi=>(g.2.2.2.1 i hi).1⟩
 refine ⟨(Z3L _ _).2 fun j hj=>?_,hrel⟩
 obtain ⟨t,ht⟩:∃ t,j / 4=t:=⟨_,rfl⟩
 obtain ⟨f,hf⟩:∃ f,j % 4=f:=⟨_,rfl⟩
 have ht':t<n:=by omega
 have hf':f<4:=by omega
 rw [ht,hf]
 by_cases hn:Z1d (Z06 Gl (oA Ord t) (pA Pm t f))<0
 · unfold Z0i
   rw [f0 t f ht' hf' hn]; simp
 have g:=gd _ _ (ha.o t ht') (pl t f ht' hf') hn
 have r:=fr t f ht' hf' hn
 have hn':¬ Z1d (Z06 (rnL Gl Ord Pm (Z0o Ord n) n) t f)<0:=(not_congr (hg t f ht' hf')).2 hn
 have hk:=ha.k _ g.2.1
 have pk:=hp _ hk
 have pt:=hp t ht'
 have e1:=hrel.u t f ht' hf' hn'
 have e2:=hrel.j t f f ht' hf' hf' hn'
 have b:=hrel.hb t f ht' hf' hn'
 have bz:=eu t f ht' hf' hn'
 have bj:=ej t f f ht' hf' hf' hn'
 have back1:Z06 (rnL Gl Ord Pm (Z0o Ord n) n) (fU (rnL Gl Ord Pm (Z0o Ord n) n) t f) (fJ (rnL Gl Ord Pm (Z0o Ord n) n) t f f)=(t:Int)::inv (Z0D (Z06 (rnL Gl Ord Pm (Z0o Ord n) n) t f)):=by
  have q:=f1 _ _ b.1 (b.2 f hf')
  rw [e1,e2,g.2.2.2.2.2,Zai] at q
  have q:=q qO
  have e3:fU Gl (fU Gl (oA Ord t) (pA Pm t f)) (fJ Gl (oA Ord t) (pA Pm t f) (pA Pm t f))=oA Ord t:=by
   rw [fU,g.2.2.2.2.2,Zai,Int.toNat_natCast]
  rw [e3,ha.ko t ht',ZbI _ (Z23 (Z5i g.1)),bz] at q
  rw [bz,q,r.2.1,Z8y (Z5i pk) (Z64 g.1 pt),Z8y g.1 pt,Zhj pk,Za4 (Z5i g.1) pk]
 unfold Z0i
 simp only [Bool.or_eq_true,Bool.and_eq_true,decide_eq_true_eq,Bool.not_eq_true']
 right
 refine ⟨⟨⟨⟨by rw [r.1]; omega,by rw [r.1]; omega⟩,by rw [r.2.1]; exact Z3m (Z64 (Z5i pk) (Z64 g.1 pt))⟩, ?_⟩,back1⟩
 rw [Bool.and_eq_false_iff,decide_eq_false_iff_not,decide_eq_false_iff_not]
 by_cases q1:Z1d (Z06 (rnL Gl Ord Pm (Z0o Ord n) n) t f)=t
 · right
   intro q2
   have z1:fU (rnL Gl Ord Pm (Z0o Ord n) n) t f=t:=by rw [fU,q1,Int.toNat_natCast]
   have z2:fJ (rnL Gl Ord Pm (Z0o Ord n) n) t f f=f:=by rw [fJ,q2,Int.toNat_natCast]
   rw [z1] at e1
   rw [z1,z2] at e2
   exact g.2.2.2.2.1 ⟨e1.symm,e2.symm⟩
 · exact .inl q1
end Go.Ab

namespace Go.Ab
open Go
theorem Z8s {A B:List Int} {m:Nat} (hA:A.length=m) (hB:B.length=m) (h:∀ k,k<m->A.getD k 0=B.getD k 0):A=B:=by
 refine List.ext_getElem qO fun j a b=>?_
 have:=h j qO
 simpa [List.getD_eq_getElem?_getD,List.getElem?_eq_getElem a,List.getElem?_eq_getElem b] using this
end Go.Ab

namespace Go.Ab
open Go
structure IsoK (Ord Pm:List Int) (n:Nat):Prop where
 ol:Ord.length=n
 pl:Pm.length=n*4
 r:∀ t,t<n->0<=Ord.getD t 0/\Ord.getD t 0<n
 v:∀ t,t<n->Z04 Pm t ∈ Ab.p24
 inj:∀ i j,i<j->j<n->oA Ord i ≠ oA Ord j
theorem Zh8 {Ord Pm:List Int} {n:Nat} (hr:∀ t,t<n->0<=Ord.getD t 0/\Ord.getD t 0<n) (hv:∀ t,t<n->Z0n (Z04 Pm t)=true) (hinj:∀ i j,i<j->j<n->oA Ord i ≠ oA Ord j) :
 ∀ {k i:Nat} {met:List Bool},i+k=n->met.length=n->(∀ j,i<=j->j<n->met.getD (oA Ord j) false=false)->Zbt Ord Pm n k i met=true
 | 0,_,_,_,_,_=>rfl
 | k+1,i,met,hi,hm,h=>by
  unfold Zbt
  have r:=hr i qO
  have e:=h i (Nat.le_refl _) qO
  have e':met.getD (Ord.getD i 0).toNat false=false:=e
  rw [if_neg qO,if_neg (by rw [e']; simp),if_neg (by rw [hv i qO]; simp)]
  refine Zh8 hr hv hinj qO (by simp [hm]) fun j h1 h2=>?_
  have:=h j qO h2
  have ne:¬ (Ord.getD i 0).toNat=oA Ord j:=hinj i j qO h2
  rw [List.getD_eq_getElem?_getD,List.getElem?_set,if_neg ne,← List.getD_eq_getElem?_getD]
  exact this
theorem IsoK.of {Ord Pm:List Int} {a b n:Nat} (hO:Ord.length=a) (hP:Pm.length=b*4) (h:Z48 Ord Pm a b n=true):a=n/\b=n/\IsoK Ord Pm n:=by
 obtain ⟨rfl,rfl,h4⟩:=Z5M.1 h
 have q:=Zan (by simp) h4
 have g:∀ t,t<b->0<=Ord.getD t 0/\Ord.getD t 0<b/\Z0n (Z04 Pm t)=true:=fun t ht=>Z55 h4 t qO qO
 exact ⟨rfl,rfl,hO,hP,fun t ht=>⟨(g t ht).1,(g t ht).2.1⟩,fun t ht=>ZbM (Z0B hP ht) (g t ht).2.2,fun i j h1 h2=>q.2 i j qO h1 qO⟩
theorem IsoK.oa0 {Ord Pm:List Int} {n:Nat} (h:IsoK Ord Pm n) (t:Nat) (ht:t<n):oA Ord t<n:=by
 have:=h.r t ht
 unfold oA; omega
theorem IsoK.ord {Ord Pm:List Int} {n:Nat} (h:IsoK Ord Pm n):Z48 Ord Pm n n n=true :=
 Z5M.2 ⟨rfl,rfl,Zh8 h.r (fun t ht=>Z3m (h.v t ht)) h.inj qO (by simp) (fun j _ hj=>by simp [List.getD_eq_getElem?_getD,List.getElem?_replicate,h.oa0 j hj])⟩
theorem IsoK.rn {Gl Ord Pm:List Int} {n:Nat} (h:IsoK Ord Pm n) (hG:Gl.length=n*20) (hok:Z0Y Gl n=true):RnOk Gl Ord Pm n :=
 ⟨hG,h.ol,h.pl,hok,fun j hj=>⟨(h.r j hj).1,(h.r j hj).2,Z3m (h.v j hj)⟩⟩
theorem IsoK.oa {Ord Pm:List Int} {n:Nat} (h:IsoK Ord Pm n):OrdA Ord n:=by
 have h1:∀ t,t<n->oA Ord t<n:=fun t ht=>by have:=h.r t ht; unfold oA; omega
 have h2:∀ t,t<n->kA Ord n t<n:=fun t ht=>by have:=Z28 Ord (n:=n) qO t ht; unfold kA; omega
 have h3:∀ t,t<n->kA Ord n (oA Ord t)=t:=fun t ht=>by
  have:=Zbl (Ord:=Ord) (n:=n) h1 (fun j j' a b=>h.inj j j' a b) n 0 (List.replicate n 0) qO (by simp) (fun j hj=>by omega) t ht
  have e:(Z0o Ord n).getD (oA Ord t) 0=t:=this
  rw [kA,e,Int.toNat_natCast]
 exact ⟨h1,fun t ht=>by have:=h.r t ht; unfold oA; omega,h2,fun t ht=>by have:=Z28 Ord (n:=n) qO t ht; unfold kA; omega,h3,onto h1 h2 h3⟩
def Zi9 (F:Nat->List Int):Nat->List Int
 | 0=>[]
 | n+1=>Zi9 F n++F n
theorem Z4s {F:Nat->List Int}:∀ {n:Nat},(∀ i,i<n->(F i).length=4)->(Zi9 F n).length=n*4
 | 0,_=>rfl
 | n+1,h=>by rw [Zi9,List.length_append,Z4s (fun i hi=>h i qO),h n qO]; omega
theorem Zdb {F:Nat->List Int}:∀ {n i:Nat},(∀ i,i<n->(F i).length=4)->i<n->Z04 (Zi9 F n) i=F i
 | 0,i,_,hi=>by omega
 | n+1,i,h,hi=>by
  have hl:=Z4s (F:=F) (n:=n) (fun i hi=>h i qO)
  by_cases e:i=n
  · subst e
    rw [Z04,Zi9,List.drop_append,List.drop_of_length_le qO,List.nil_append,show 4*i-(Zi9 F i).length=0 by omega,List.drop_zero,List.take_of_length_le (by rw [h i qO]; omega)]
  · rw [← Zdb (n:=n) (i:=i) (fun i hi=>h i qO) qO,Z04,Z04,Zi9,List.drop_append_of_le_length qO,List.take_append_of_le_length (by rw [List.length_drop]; omega)]
theorem Z65 {F:Nat->List Int}:∀ {n:Nat} {X:List Int},X.length=n*4->(∀ i,i<n->(F i).length=4)->(∀ i,i<n->Z04 X i=F i)->X=Zi9 F n
 | 0,X,hX,_,_=>List.eq_nil_of_length_eq_zero qO
 | n+1,X,hX,hF,h=>by
  have e:=Z65 (F:=F) (n:=n) (X:=X.take (n*4)) (by rw [List.length_take]; omega) (fun i hi=>hF i qO) (fun i hi=>by
   rw [← h i qO,Z04,Z04,List.drop_take,List.take_take,show min 4 (n*4-4*i)=4 by omega])
  have e2:=h n qO
  rw [Z04,List.take_of_length_le (by rw [List.length_drop]; omega)] at e2
  rw [Zi9,← e,← e2,Nat.mul_comm 4 n,List.take_append_drop]
def cO (A B:List Int) (n:Nat):List Int:=(List.range n).map fun i=>A.getD (oA B i) 0
def cP (B Pa Pb:List Int) (n:Nat):List Int:=Zi9 (fun i=>comp (Z04 Pa (oA B i)) (Z04 Pb i)) n
def iP (A Pa:List Int) (n:Nat):List Int:=Zi9 (fun t=>inv (Z04 Pa (kA A n t))) n
theorem Zid (A B:List Int) {n i:Nat} (hi:i<n):(cO A B n).getD i 0=A.getD (oA B i) 0:=by simp [cO,List.getD_eq_getElem?_getD,hi]
theorem Z8P (A B:List Int) (n:Nat):(cO A B n).length=n:=by simp [cO]
theorem Zc6 (A B:List Int) {n i:Nat} (hi:i<n):oA (cO A B n) i=oA A (oA B i):=by rw [oA,Zid _ _ hi]; rfl
section
variable {A Pa B Pb C Pc:List Int} {n:Nat}
theorem Zia (hb:IsoK B Pb n) (i:Nat) (hi:i<n):(comp (Z04 Pa (oA B i)) (Z04 Pb i)).length=4:=by rw [Z0l,Z23 (hb.v i hi)]
theorem Zib (hb:IsoK B Pb n) {i:Nat} (hi:i<n):Z04 (cP B Pa Pb n) i=comp (Z04 Pa (oA B i)) (Z04 Pb i):=Zdb (fun i hi=>Zia hb i hi) hi
theorem Zc5 (hb:IsoK B Pb n):(cP B Pa Pb n).length=n*4:=Z4s fun i hi=>Zia hb i hi
theorem ZlV (ha:IsoK A Pa n) (i:Nat) (hi:i<n):(inv (Z04 Pa (kA A n i))).length=4:=Z23 (Z5i (ha.v _ (ha.oa.k i hi)))
theorem iP_at (ha:IsoK A Pa n) {i:Nat} (hi:i<n):Z04 (iP A Pa n) i=inv (Z04 Pa (kA A n i)):=Zdb (fun i hi=>ZlV ha i hi) hi
theorem Z8A (ha:IsoK A Pa n):(iP A Pa n).length=n*4:=Z4s fun i hi=>ZlV ha i hi
theorem IsoK.ne (ha:IsoK A Pa n) {i j:Nat} (hi:i<n) (hj:j<n) (e:oA A i=oA A j):i=j:=by
 rw [← ha.oa.ko i hi,← ha.oa.ko j hj,e]
theorem IsoK.comp (ha:IsoK A Pa n) (hb:IsoK B Pb n):IsoK (cO A B n) (cP B Pa Pb n) n:=by
 refine ⟨Z8P _ _ _,Zc5 hb,fun t ht=>?_,fun t ht=>?_,fun i j hij hj e=>?_⟩
 · rw [Zid _ _ ht]; exact ha.r _ (hb.oa.o t ht)
 · rw [Zib hb ht]; exact Z64 (ha.v _ (hb.oa.o t ht)) (hb.v t ht)
 · rw [Zc6 _ _ qO,Zc6 _ _ hj] at e
   have:=hb.ne qO hj (ha.ne (hb.oa.o i qO) (hb.oa.o j hj) e)
   omega
theorem IsoK.inv (ha:IsoK A Pa n):IsoK (Z0o A n) (iP A Pa n) n:=by
 refine ⟨Z18 _ _,Z8A ha,fun t ht=>Z28 A qO t ht,fun t ht=>?_,fun i j hij hj e=>?_⟩
 · rw [iP_at ha ht]; exact Z5i (ha.v _ (ha.oa.k t ht))
 · have e':kA A n i=kA A n j:=e
   have h1:=ha.oa.ok i qO
   have h2:=ha.oa.ok j hj
   rw [e'] at h1
   omega
theorem Zlz (hb:IsoK B Pb n) (hc:IsoK C Pc n):cO (cO A B n) C n=cO A (cO B C n) n:=by
 refine Z8s (m:=n) (Z8P _ _ _) (Z8P _ _ _) fun i hi=>?_
 rw [Zid _ _ hi,Zid _ _ hi,Zid _ _ (hc.oa.o i hi),Zc6 _ _ hi]
theorem Zly (ha:IsoK A Pa n) (hb:IsoK B Pb n) (hc:IsoK C Pc n):cP C (cP B Pa Pb n) Pc n=cP (cO B C n) Pa (cP C Pb Pc n) n:=by
 refine Z65 (Zc5 hc) (fun i hi=>Zia (hb.comp hc) i hi) fun i hi=>?_
 have ho:=hc.oa.o i hi
 rw [Zib hc hi,Zib hb ho,Zib hc hi,Zc6 _ _ hi,Za4 (hb.v _ ho) (hc.v i hi)]
end
theorem ZbW {Gl:List Int} {n t f:Nat} (hok:Z0Y Gl n=true) (hG:Gl.length=n*20) (ht:t<n) (hf:f<4) :
 Z06 Gl t f=if Z1d (Z06 Gl t f)<0 then Z4O else [(fU Gl t f:Int),(fJ Gl t f 0:Int),(fJ Gl t f 1:Int),(fJ Gl t f 2:Int),(fJ Gl t f 3:Int)]:=by
 split
 · rename_i h
   exact Z8o (Z2s hok ht hf) h
 · rename_i h
   obtain ⟨k1,k2,k3,k4⟩:=Z2j (Z2s hok ht hf) h
   have hl:=Z0G hG ht hf
   have kp:=ZbM (Z1j hl) k2
   have r0:=Z1E kp (i:=0) qO
   have r1:=Z1E kp (i:=1) qO
   have r2:=Z1E kp (i:=2) qO
   have r3:=Z1E kp (i:=3) qO
   unfold fU fJ
   obtain ⟨x,hx⟩:∃ x,Z06 Gl t f=x:=⟨_,rfl⟩
   rw [hx] at h hl r0 r1 r2 r3 ⊢
   match x,hl with
   | [a,b,c,d,e],_ =>
    have e0:Z1d [a,b,c,d,e]=a:=rfl
    have e1:Z0D [a,b,c,d,e]=[b,c,d,e]:=rfl
    rw [e0] at h
    rw [e1] at r0 r1 r2 r3
    rw [e0,e1]
    have q0:([b,c,d,e]:List Int).getD 0 0=b:=rfl
    have q1:([b,c,d,e]:List Int).getD 1 0=c:=rfl
    have q2:([b,c,d,e]:List Int).getD 2 0=d:=rfl
    have q3:([b,c,d,e]:List Int).getD 3 0=e:=rfl
    rw [q0] at r0
    rw [q1] at r1
    rw [q2] at r2
    rw [q3] at r3
    rw [q0,q1,q2,q3]
    rw [show ((a.toNat:Nat):Int)=a by omega,show ((b.toNat:Nat):Int)=b by omega,show ((c.toNat:Nat):Int)=c by omega,show ((d.toNat:Nat):Int)=d by omega,show ((e.toNat:Nat):Int)=e by omega]
theorem Zhz {Gl Hl:List Int} {n:Nat} (h1:Gl.length=n*20) (h2:Hl.length=n*20) (h:∀ t f,t<n->f<4->Z06 Gl t f=Z06 Hl t f):Gl=Hl:=by
 refine Z8s h1 h2 fun j hj=>?_
 have:=h (j / 20) (j % 20 / 5) qO qO
 have e:∀ L:List Int,L.getD j 0=(Z06 L (j / 20) (j % 20 / 5)).getD (j % 5) 0:=fun L=>by
  unfold Z06
  rw [Z4R _ _ _ qO,Z4S]
  congr 1
  omega
 rw [e,e,this]
theorem Zet {Gl Hl:List Int} {n:Nat} (h1:Gl.length=n*20) (h2:Hl.length=n*20) (k1:Z0Y Gl n=true) (k2:Z0Y Hl n=true)
 (hg:∀ t f,t<n->f<4->(Z1d (Z06 Gl t f)<0 ↔ Z1d (Z06 Hl t f)<0)) (hu:∀ t f,t<n->f<4 -> ¬ Z1d (Z06 Gl t f)<0->fU Gl t f=fU Hl t f)
 (hj:∀ t f i,t<n->f<4->i<4 -> ¬ Z1d (Z06 Gl t f)<0->fJ Gl t f i=fJ Hl t f i):Gl=Hl:=by
 refine Zhz h1 h2 fun t f ht hf=>?_
 rw [ZbW k1 h1 ht hf,ZbW k2 h2 ht hf]
 by_cases e:Z1d (Z06 Gl t f)<0
 · rw [if_pos e,if_pos ((hg t f ht hf).1 e)]
 · rw [if_neg e,if_neg (fun q=>e ((hg t f ht hf).2 q)),hu t f ht hf e,hj t f 0 ht hf qO e,hj t f 1 ht hf qO e,hj t f 2 ht hf qO e,hj t f 3 ht hf qO e]
theorem pA_eq {Pm:List Int} {t i:Nat} (h:Z04 Pm t ∈ Ab.p24) (hi:i<4):(Z04 Pm t).getD i 0=(pA Pm t i:Nat):=by
 have:=Z1E h hi
 unfold pA; omega
theorem Zmt {Gl A Pa B Pb:List Int} {n:Nat} (hG:Gl.length=n*20) (hok:Z0Y Gl n=true) (ha:IsoK A Pa n) (hb:IsoK B Pb n) :
 rnL (rnL Gl A Pa (Z0o A n) n) B Pb (Z0o B n) n=rnL Gl (cO A B n) (cP B Pa Pb n) (Z0o (cO A B n) n) n:=by
 have hc:=ha.comp hb
 have r1:=ha.rn hG hok
 have g1:=Z1G r1 n (Nat.le_refl _)
 obtain ⟨o1,R1⟩:=Z8f r1 ha.oa
 have r2:=hb.rn g1 o1
 have g2:=Z1G r2 n (Nat.le_refl _)
 obtain ⟨o2,R2⟩:=Z8f r2 hb.oa
 have r3:=hc.rn hG hok
 have g3:=Z1G r3 n (Nat.le_refl _)
 obtain ⟨o3,R3⟩:=Z8f r3 hc.oa
 have ep:∀ t i,t<n->i<4->pA (cP B Pa Pb n) t i=pA Pa (oA B t) (pA Pb t i):=fun t i ht hi=>by
  rw [pA,Zib hb ht,Z5F (Z23 (hb.v t ht)) hi,pA_eq (hb.v t ht) hi,Int.toNat_natCast]
  rfl
 have eg:∀ t f,t<n->f<4->(Z1d (Z06 (rnL (rnL Gl A Pa (Z0o A n) n) B Pb (Z0o B n) n) t f)<0 ↔ Z1d (Z06 (rnL Gl (cO A B n) (cP B Pa Pb n) (Z0o (cO A B n) n) n) t f)<0):=fun t f ht hf=>by
  rw [R2.g t f ht hf,R1.g _ _ (R2.o t ht) (R2.pl t f ht hf),R3.g t f ht hf,Zc6 _ _ ht,ep t f ht hf]
 have eu:∀ t f,t<n->f<4 -> ¬ Z1d (Z06 (rnL (rnL Gl A Pa (Z0o A n) n) B Pb (Z0o B n) n) t f)<0->fU (rnL (rnL Gl A Pa (Z0o A n) n) B Pb (Z0o B n) n) t f=fU (rnL Gl (cO A B n) (cP B Pa Pb n) (Z0o (cO A B n) n) n) t f:=fun t f ht hf hn=>by
  have hn1:=(not_congr (R2.g t f ht hf)).1 hn
  have hn3:=(not_congr (eg t f ht hf)).1 hn
  have b2:=R2.hb t f ht hf hn
  have b3:=R3.hb t f ht hf hn3
  have e2:=R2.u t f ht hf hn
  have e1:=R1.u _ _ (R2.o t ht) (R2.pl t f ht hf) hn1
  have e3:=R3.u t f ht hf hn3
  rw [Zc6 _ _ b3.1,Zc6 _ _ ht,ep t f ht hf] at e3
  rw [← e2] at e1
  exact hb.ne b2.1 b3.1 (ha.ne (R2.o _ b2.1) (R2.o _ b3.1) (e1.trans e3.symm))
 refine Zet g2 g3 o2 o3 eg eu fun t f i ht hf hi hn=>?_
 have hn1:=(not_congr (R2.g t f ht hf)).1 hn
 have hn3:=(not_congr (eg t f ht hf)).1 hn
 have b2:=R2.hb t f ht hf hn
 have b3:=R3.hb t f ht hf hn3
 have e2:=R2.j t f i ht hf hi hn
 have e1:=R1.j _ _ _ (R2.o t ht) (R2.pl t f ht hf) (R2.pl t i ht hi) hn1
 have e3:=R3.j t f i ht hf hi hn3
 have eu':=eu t f ht hf hn
 have u2:=R2.u t f ht hf hn
 rw [Zc6 _ _ ht,ep t f ht hf,ep t i ht hi,ep _ _ b3.1 (b3.2 i hi),← eu'] at e3
 rw [← e2,← u2] at e1
 have k:=e1.trans e3.symm
 have b3':fJ (rnL Gl (cO A B n) (cP B Pa Pb n) (Z0o (cO A B n) n) n) t f i<4:=b3.2 i hi
 have s1:=R1.rp _ _ (R2.o _ b2.1) (R2.pl _ _ b2.1 (b2.2 i hi))
 have s2:=R1.rp _ _ (R2.o _ b2.1) (R2.pl _ _ b2.1 b3')
 rw [k] at s1
 have k2:=s1.symm.trans s2
 have s3:=R2.rp _ _ b2.1 (b2.2 i hi)
 have s4:=R2.rp _ _ b2.1 b3'
 rw [k2] at s3
 exact s3.symm.trans s4
theorem rn_inv {Gl A Pa:List Int} {n:Nat} (hG:Gl.length=n*20) (hok:Z0Y Gl n=true) (ha:IsoK A Pa n) :
 rnL (rnL Gl A Pa (Z0o A n) n) (Z0o A n) (iP A Pa n) (Z0o (Z0o A n) n) n=Gl:=by
 have hc:=ha.inv
 have r1:=ha.rn hG hok
 have g1:=Z1G r1 n (Nat.le_refl _)
 obtain ⟨o1,R1⟩:=Z8f r1 ha.oa
 have r2:=hc.rn g1 o1
 have g2:=Z1G r2 n (Nat.le_refl _)
 obtain ⟨o2,R2⟩:=Z8f r2 hc.oa
 have eo:∀ t,oA (Z0o A n) t=kA A n t:=fun t=>rfl
 have ep:∀ t i,t<n->i<4->pA (iP A Pa n) t i=rA A Pa n t i:=fun t i ht hi=>by
  rw [pA,iP_at ha ht]; rfl
 have eg:∀ t f,t<n->f<4->(Z1d (Z06 (rnL (rnL Gl A Pa (Z0o A n) n) (Z0o A n) (iP A Pa n) (Z0o (Z0o A n) n) n) t f)<0 ↔ Z1d (Z06 Gl t f)<0):=fun t f ht hf=>by
  rw [R2.g t f ht hf,R1.g _ _ (R2.o t ht) (R2.pl t f ht hf),eo,ha.oa.ok t ht,ep t f ht hf,R1.pr t f ht hf]
 have eu:∀ t f,t<n->f<4 -> ¬ Z1d (Z06 (rnL (rnL Gl A Pa (Z0o A n) n) (Z0o A n) (iP A Pa n) (Z0o (Z0o A n) n) n) t f)<0->fU (rnL (rnL Gl A Pa (Z0o A n) n) (Z0o A n) (iP A Pa n) (Z0o (Z0o A n) n) n) t f=fU Gl t f:=fun t f ht hf hn=>by
  have hn1:=(not_congr (R2.g t f ht hf)).1 hn
  have b2:=R2.hb t f ht hf hn
  have e2:=R2.u t f ht hf hn
  have e1:=R1.u _ _ (R2.o t ht) (R2.pl t f ht hf) hn1
  rw [← e2,eo,ha.oa.ok _ b2.1,eo,ha.oa.ok t ht,ep t f ht hf,R1.pr t f ht hf] at e1
  exact e1
 refine Zet g2 hG o2 hok eg eu fun t f i ht hf hi hn=>?_
 have hn1:=(not_congr (R2.g t f ht hf)).1 hn
 have b2:=R2.hb t f ht hf hn
 have e2:=R2.j t f i ht hf hi hn
 have u2:=R2.u t f ht hf hn
 have e1:=R1.j _ _ _ (R2.o t ht) (R2.pl t f ht hf) (R2.pl t i ht hi) hn1
 rw [← e2,← u2,ep _ _ b2.1 (b2.2 i hi),eo,R1.pr _ _ b2.1 (b2.2 i hi),eo,ha.oa.ok t ht,ep t f ht hf,R1.pr t f ht hf,ep t i ht hi,R1.pr t i ht hi] at e1
 exact e1
end Go.Ab

namespace Go.Proofs.Ytemkjcpfgmbibaa
open Go Go.Ab Go.Proofs
theorem Zak (a b:Value) (m:Nat) (A B:List Int) (h:FH) (c:Nat) (ha:SlI h c a 1 m A) (hb:SlI h c b 1 m B) (df:List Nat):∀ (k i:Nat),i+k=m →
 Ans (G (Z9S none) [a,b,.bool false,.int .i64 i] h c df) fun r=>r.h=h/\r.c=c/\r.df=df/\((r.e = .exit 0 /\ ∀ j:Nat,i<=j->j<m->gi A j=gi B j) ∨ (r.e = .ret/\r.v 2 = .bool false /\ ∃ j:Nat,j<m/\gi A j ≠ gi B j)):=by
 intro k
 have o1:=ha.okV
 have o2:=hb.okV
 have la:=ha.len
 have hm:=ha.2.1
 induction k with
 | zero =>
  intro i hi
  obtain rfl:i=m:=by omega
  refine Ans.lpG rfl rfl (Z4r ..) ?_
  unfold Z44
  have fx:=la
  refine Ans.go ?_
  clear fx
  (have fx:=ai o1 o2; refine Ans.ex0 ?_; clear fx)
  exact ⟨rfl,rfl,rfl,.inl ⟨rfl,fun j h1 h2=>by omega⟩⟩
 | succ k ih =>
  intro i hi
  have l1:=ha.rdi i qO qO
  have l2:=hb.rdi i qO qO
  simp only [Int.toNat_natCast] at l1 l2
  obtain ⟨x,hx⟩:∃ x,gi A i=x:=⟨_,rfl⟩
  obtain ⟨y,hy⟩:∃ y,gi B i=y:=⟨_,rfl⟩
  rw [hx] at l1
  rw [hy] at l2
  have him:(i:Int)<m:=by omega
  refine Ans.lpG rfl rfl (Z4r ..) ?_
  unfold Z44
  by_cases e:x=y
  · have fx:=ai la (ai ha.ixs1 (ai hb.ixs1 (ai l1 l2)))
    refine Ans.go ?_
    clear fx
    (have fx:=ai o1 o2; refine Ans.nx0 ?_; clear fx)
    refine (ih (i+1) qO).mono ?_
    rintro r ⟨q1,q2,q3,q4⟩
    refine ⟨q1,q2,q3,q4.imp (fun ⟨a,b⟩=>⟨a,fun j h1 h2=>?_⟩) id⟩
    by_cases ej:j=i
    · rw [ej,hx,hy,e]
    · exact b j qO h2
  · have fx:=ai la (ai ha.ixs1 (ai hb.ixs1 (ai l1 l2)))
    refine Ans.go ?_
    clear fx
    (have fx:=ai o1 o2; refine Ans.rt0 ?_; clear fx)
    exact ⟨rfl,rfl,rfl,.inr ⟨rfl,rfl,i,by omega,by rw [hx,hy]; exact e⟩⟩
theorem gi_ext {A B:List Int} (hl:A.length=B.length) (h:∀ j:Nat,j<A.length->gi A j=gi B j):A=B:=by
 refine List.ext_getElem hl fun j h1 h2=>?_
 have:=h j h1
 rw [Z3A,Z3A,List.getD_eq_getElem?_getD,List.getD_eq_getElem?_getD,List.getElem?_eq_getElem h1,List.getElem?_eq_getElem h2] at this
 exact this
theorem Zci (a b:Value) (m n:Nat) (A B:List Int) (h:FH) (c:Nat) (df:List Nat) (ha:SlI h c a 1 m A) (hb:SlI h c b 1 n B) :
 G (.fn 26) [a,b] h c df=some ⟨.ret,[.bool (decide (A=B))],h,c,[]⟩:=by
 refine Z1l (fun r e=>f26_go e) (by simp) ?_
 unfold ZhY
 have la:=ha.len
 have lb:=hb.len
 have hA:=ha.1
 have hB:=hb.1
 by_cases e:m=n
 · subst e
   obtain ⟨⟨re,rv,rh,rc,rd⟩,hr,r1,r2,r3,r4⟩:=Zak a b m A B h (c+1+1+1) (ha.mono qO) (hb.mono qO) [] m 0 qO
   simp only at r1 r2 r3 r4
   subst r1 r2 r3
   simp only [Int.ofNat_eq_natCast,Int.cast_ofNat_Int] at hr
   rcases r4 with ⟨rfl,r5⟩ | ⟨rfl,r5,j,j1,j2⟩
   · have:A=B:=gi_ext qO (fun j hj=>r5 j qO qO)
     rw [decide_eq_true this]
     have fx:=ai la (ai lb hr)
     refine Ans.go ?_
     clear fx
     exact Ans.pure rfl (by simp)
   · have:¬ A=B:=fun e=>j2 (by rw [e])
     rw [decide_eq_false this]
     have fx:=ai la (ai lb hr)
     refine Ans.go ?_
     clear fx
     exact Ans.pure r5 (by simp)
 · have:¬ A=B:=fun h=>e (by rw [h] at hA; omega)
   rw [decide_eq_false this]
   have e':¬ ((m:Int)=n):=by omega
   have fx:=ai la lb
   refine Ans.go ?_
   clear fx
   exact Ans.pure rfl (by simp)

theorem Z5j {a b:Value} (ha:Z08 a=true) (hb:Z08 b=true):((Value.agg #[a,b]).cells.toList.all Z08)=true:=by simp [Value.cells,ha,hb]
theorem Z5k (a b:Value):(Value.agg #[a,b]).cells.toList=[a,b]:=rfl
theorem ZiQ (a0 a1 a2 a3 b0 b1 b2 b3:Int):Z0H P .neq 67 (av [a0,a1,a2,a3]) (av [b0,b1,b2,b3])=(cond (a0 == b0) (cond (a1 == b1) (cond (a2 == b2) (cond (a3 == b3) (some true) (some false)) (some false)) (some false)) (some false)).bind fun b=>some (.bool (!b)):=by kernel_rfl
theorem ZmG (x y:List Int) (hx:x.length=4) (hy:y.length=4):Z00 P .neq 67 (av x) (av y)=some (.bool (!decide (x=y))):=by
 match x,hx,y,hy with
 | [a0,a1,a2,a3],_,[b0,b1,b2,b3],_ =>
  rw [Z0u,ZiQ]
  by_cases h0:a0=b0 <;> by_cases h1:a1=b1 <;> by_cases h2:a2=b2 <;> by_cases h3:a3=b3 <;> simp [h0,h1,h2,h3,Bool.cond_eq_ite]
theorem Zh7 {X Y:List Int} {b:Nat} (hX:X.length=b*4) (hY:Y.length=b*4) (h:∀ j,j<b->Z04 X j=Z04 Y j):X=Y:=by
 rw [Z65 hX (F:=Z04 X) (fun i hi=>Z0B hX hi) (fun i hi=>rfl),Z65 hY (F:=Z04 X) (fun i hi=>Z0B hX hi) (fun i hi=>(h i hi).symm)]
theorem Z92 (so sp so' sp':Value) (b:Nat) (X Y:List Int) (g1 g2 c:Nat) (h:FH) (hb:b<=1000000000) (hg1:g1<256*c) (hg2:g2<256*c) (h1:Z0a h g1 [so,sp]) (h2:Z0a h g2 [so',sp']) (h3:SlI h c sp 4 b X) (h4:SlI h c sp' 4 b Y) (df:List Nat) :
 ∀ (k i:Nat),i+k=b->Ans (G (Za2 none) [ptrTo g1,ptrTo g2,.bool false,.int .i64 i] h c df) fun r=>r.h=h/\r.c=c/\r.df=df/\((r.e = .exit 0 /\ ∀ j,i<=j->j<b->Z04 X j=Z04 Y j) ∨ (r.e = .ret/\r.v 2 = .bool false /\ ∃ j,j<b/\Z04 X j ≠ Z04 Y j)):=by
 intro k
 have e1:ld1 h (.pointer (some ⟨g1,1,none⟩))=some sp:=by rw [Z03 h1]; rfl
 have e2:ld1 h (.pointer (some ⟨g2,1,none⟩))=some sp':=by rw [Z03 h2]; rfl
 have l1:=h3.len
 induction k with
 | zero =>
  intro i hi
  obtain rfl:i=b:=by omega
  refine Ans.lpG rfl rfl (Z62 ..) ?_
  unfold Z7m
  have fx:=ai e1 l1
  refine Ans.go ?_
  clear fx
  (have fx:=ai hg1 hg2; refine Ans.ex0 ?_; clear fx)
  exact ⟨rfl,rfl,rfl,.inl ⟨rfl,fun j h1 h2=>by omega⟩⟩
 | succ k ih =>
  intro i hi
  have p1:=h3.perm i qO qO
  have p2:=h4.perm i qO qO
  simp only [Int.toNat_natCast] at p1 p2
  have hx:=Z0B (i:=i) h3.1 qO
  have hy:=Z0B (i:=i) h4.1 qO
  have cn:=ZmG _ _ hx hy
  obtain ⟨x,ex⟩:∃ x,Z04 X i=x:=⟨_,rfl⟩
  obtain ⟨y,ey⟩:∃ y,Z04 Y i=y:=⟨_,rfl⟩
  rw [ex] at p1 cn
  rw [ey] at p2 cn
  refine Ans.lpG rfl rfl (Z62 ..) ?_
  unfold Z7m
  by_cases e:x=y
  · rw [decide_eq_true e] at cn
    have fx:=ai e1 (ai e2 (ai l1 (ai h3.ixs (ai h4.ixs (ai p1 (ai p2 cn))))))
    refine Ans.go ?_
    clear fx
    (have fx:=ai hg1 hg2; refine Ans.nx0 ?_; clear fx)
    refine (ih (i+1) qO).mono ?_
    rintro r ⟨q1,q2,q3,q4⟩
    refine ⟨q1,q2,q3,q4.imp (fun ⟨a,b⟩=>⟨a,fun j h1 h2=>?_⟩) id⟩
    by_cases ej:j=i
    · rw [ej,ex,ey,e]
    · exact b j qO h2
  · rw [decide_eq_false e] at cn
    have fx:=ai e1 (ai e2 (ai l1 (ai h3.ixs (ai h4.ixs (ai p1 (ai p2 cn))))))
    refine Ans.go ?_
    clear fx
    (have fx:=ai hg1 hg2; refine Ans.rt0 ?_; clear fx)
    exact ⟨rfl,rfl,rfl,.inr ⟨rfl,rfl,i,by omega,by rw [ex,ey]; exact e⟩⟩
theorem Zfi (so sp so' sp':Value) (n n' b b':Nat) (O O' X Y:List Int) (h:FH) (c:Nat) (df:List Nat) (h1:SlI h c so 1 n O) (h2:SlI h c so' 1 n' O') (h3:SlI h c sp 4 b X) (h4:SlI h c sp' 4 b' Y) (hb:b<=1000000) :
 G (.fn 12) [.agg #[so,sp],.agg #[so',sp']] h c df=some ⟨.ret,[.bool (decide (O=O') && decide (X=Y))],h,c,[]⟩:=by
 refine Z1l (fun r e=>f12_go e) (by simp) ?_
 unfold ZnB
 rw [Z5j h1.flat h3.flat,Z5j h2.flat h4.flat,Z5k,Z5k]
 simp only [cond_true]
 obtain ⟨H,hH⟩:∃ H,H=newB (newB h (256*c) [so,sp]) (256*c+1) [so',sp']:=⟨_,rfl⟩
 have sH:Z0q c h H:=by rw [hH]; simp (disch:=omega)
 have g1:Z0a H (256*c) [so,sp]:=by rw [hH]; exact Z0a.newB_ne qO (Z0a.newB_same _ _ _)
 have g2:Z0a H (256*c+1) [so',sp']:=by rw [hH]; exact Z0a.newB_same _ _ _
 rw [Nat.add_zero,← hH]
 have a1:ld1 H (.pointer (some ⟨256*c,0,none⟩))=some so:=by rw [Z03 g1]; rfl
 have a2:ld1 H (.pointer (some ⟨256*c,1,none⟩))=some sp:=by rw [Z03 g1]; rfl
 have a3:ld1 H (.pointer (some ⟨256*c+1,0,none⟩))=some so':=by rw [Z03 g2]; rfl
 have a4:ld1 H (.pointer (some ⟨256*c+1,1,none⟩))=some sp':=by rw [Z03 g2]; rfl
 have l3:=h3.len
 have l4:=h4.len
 have ci:=Z0j (Zci so so' n n' O O' H (c+1+1) [] ((h1.same sH).mono qO) ((h2.same sH).mono qO))
 by_cases eO:O=O'
 case neg =>
  rw [decide_eq_false eO] at ci
  have fx:=ai a1 (ai a3 ci)
  refine Ans.go ?_
  clear fx
  exact Ans.pure (by simp [eO]) sH
 rw [decide_eq_true eO] at ci
 by_cases eb:b=b'
 case neg =>
  have:¬ X=Y:=fun e=>eb (by have:=h3.1; have:=h4.1; rw [e] at *; omega)
  have fx:=ai a1 (ai a2 (ai a3 (ai a4 (ai ci (ai l3 l4)))))
  refine Ans.go ?_
  clear fx
  exact Ans.pure (by simp [this]) sH
 subst eb
 obtain ⟨⟨re,rv,rh,rc,rd⟩,hr,r1,r2,r3,r4⟩:=Z92 so sp so' sp' b X Y (256*c) (256*c+1) (c+1+1+1) H qO qO qO g1 g2 ((h3.same sH).mono qO) ((h4.same sH).mono qO) [] b 0 qO
 simp only at r1 r2 r3 r4
 subst r1 r2 r3
 simp only [Int.ofNat_eq_natCast,Int.cast_ofNat_Int] at hr
 rcases r4 with ⟨rfl,r5⟩ | ⟨rfl,r5,j,r6,r7⟩
 · have fx:=ai a1 (ai a2 (ai a3 (ai a4 (ai ci (ai l3 (ai l4 hr))))))
   refine Ans.go ?_
   clear fx
   exact Ans.pure (by simp [eO,Zh7 h3.1 h4.1 (fun j hj=>r5 j qO hj)]) sH
 · have fx:=ai a1 (ai a2 (ai a3 (ai a4 (ai ci (ai l3 (ai l4 hr))))))
   refine Ans.go ?_
   clear fx
   refine Ans.pure ?_ sH
   rw [r5]
   have:¬ X=Y:=fun e=>r7 (by rw [e])
   simp [this]

theorem Z3I (p q:List Int) (hp:p ∈ p24) (hq:q ∈ p24) (h:FH) (c:Nat):callF G 45 [av p,av q] h c=some (av (comp p q),h,c):=by
 rw [Z0j (Zd8 p q (Z23 hp) (Z23 hq) h c []),ZnG,if_pos ⟨Z3m hp,Z3m hq⟩]
theorem Za5 (p:List Int) (hp:p ∈ p24) (h:FH) (c:Nat):callF G 47 [av p] h c=some (av (inv p),h,c):=by
 rw [Z5s p (Z23 hp),invR,if_pos (Z3m hp)]
set_option maxHeartbeats 400000 in
theorem rnR_in (s so sp sb v6 v11:Value) (n:Nat) (Gl Ord Pm:List Int) (gb br cm c:Nat) (h:FH) (i:Nat) (hi:i<n) (hn:n<=1000) (hcm:cm<=c) (hgb:gb<256*cm) (hbr:br<256*c) (hbr1:256*cm<=br)
 (hh:Z0a h gb [s]) (hg:SlI h cm s 20 n Gl) (ho:SlI h cm so 1 n Ord) (hp:SlI h cm sp 4 n Pm) (hb:SlI h cm sb 1 n (Z0o Ord n)) (hok:RnOk Gl Ord Pm n) (hv6:OkV c v6) (hv11:OkV c v11) (df:List Nat) :
 ∀ (k f:Nat),f+k=4 →
 Ans (G (Z9X none) [so,sp,ptrTo gb,v6,.int .i64 n,sb,v11,.int .i64 i,ptrTo br,.int .i64 f] (newB h br (ints (Z7z (rnF Gl Ord Pm (Z0o Ord n) i) f))) c df)
  fun r=>r=⟨.exit 4,[so,sp,ptrTo gb,v6,.int .i64 n,sb,v11,.int .i64 i,ptrTo br,.int .i64 4],newB h br (ints (Z1x (rnF Gl Ord Pm (Z0o Ord n) i) 4)),c,df⟩:=by
 intro k
 have o1:=(hg.mono hcm).okV
 have o2:=(ho.mono hcm).okV
 have o3:=(hp.mono hcm).okV
 have o4:=(hb.mono hcm).okV
 have b1:=hg.blk qO
 have b2:=ho.blk qO
 have b3:=hp.blk qO
 have b4:=hb.blk qO
 induction k with
 | zero =>
  intro f hf
  obtain rfl:f=4:=by omega
  refine Ans.lpG rfl rfl (Z5X ..) ?_
  unfold Z7e
  have fx:=True.intro
  refine Ans.go ?_
  clear fx
  (have fx:=ai o2 (ai o3 (ai o4 (ai hv6 (ai hv11 (ai hgb hbr))))); refine Ans.ex0 ?_; clear fx)
  rw [ZbG]
  rfl
 | succ k ih =>
  intro f hf
  have hF:∀ f,f<4->(rnF Gl Ord Pm (Z0o Ord n) i f).length=5:=fun f hf=>Z2r hok hi hf
  have ft:(f:Int)<4:=by omega
  obtain ⟨x1,x2,x3⟩:=hok.rng i hi
  have hpi:=hok.p24 hi
  have hpr:=Z1E hpi (i:=f) qO
  have e2:ld1 h (.pointer (some ⟨gb,0,none⟩))=some s:=by rw [Z03 hh]; rfl
  have l1:=ho.rdi i qO qO
  have l2:=hp.perm i qO qO
  have l3:=hp.rd (i*4+f) qO
  rw [← Nat.add_assoc] at l3
  simp only [Int.toNat_natCast] at l1 l2
  rw [Z3A] at l1
  have l3':Pm.getD (i*4+f) 0=(Z04 Pm i).getD f 0:=by rw [Z04,Z4R _ _ _ qO,Z4S,Nat.mul_comm]
  rw [l3'] at l3
  obtain ⟨X,hX⟩:∃ X,Ord.getD i 0=X:=⟨_,rfl⟩
  obtain ⟨Y,hY⟩:∃ Y,(Z04 Pm i).getD f 0=Y:=⟨_,rfl⟩
  have fin:=hF f qO
  have fdef:rnF Gl Ord Pm (Z0o Ord n) i f=rnF Gl Ord Pm (Z0o Ord n) i f:=rfl
  conv at fdef=>rhs; unfold rnF
  rw [hX,hY] at fdef
  rw [hX] at l1 x1 x2
  rw [hY] at l3 hpr
  have l4:=hg.face X Y x1 x2 hpr.1 hpr.2
  have okf:=Z2s hok.ok (t:=X.toNat) (f:=Y.toNat) qO qO
  have hfl:=Z0G hok.gl (t:=X.toNat) (f:=Y.toNat) qO qO
  have okg:=Z2j okf
  obtain ⟨F,hFF⟩:∃ F,Z06 Gl X.toNat Y.toNat=F:=⟨_,rfl⟩
  rw [hFF] at l4 hfl fdef okg
  clear okf
  have hT:F.getD 0 0=Z1d F:=rfl
  obtain ⟨T,hTT⟩:∃ T,Z1d F=T:=⟨_,rfl⟩
  rw [hTT] at hT okg fdef
  have b5:∀ H tm,ld1 (newB H tm (ints F)) (.pointer (some ⟨tm,0,none⟩))=some (.int .i64 T):=fun H tm=>by
   rw [ld1_newB_same,ints_getD _ _ qO,hT]
  have b6:∀ H tm,ldN (newB H tm (ints F)) 4 (.pointer (some ⟨tm,1,none⟩))=some (av (Z0D F)):=fun H tm=>by
   rw [ldN_newB_same _ _ _ _ _ (by simp [hfl]),Z1Q,Z1y]; rfl
  have hRl:=Z8e hF (f:=f) qO
  have hst:∀ X,X.length=5->stN (newB h br (ints (Z7z (rnF Gl Ord Pm (Z0o Ord n) i) f))) 5 (.pointer (some ⟨br,f*5,none⟩)) (av X)=some (newB h br (ints (Z1x (rnF Gl Ord Pm (Z0o Ord n) i) f++X++List.replicate (20-5*(f+1)) 0))):=fun X hX=>by
   rw [Z0V _ _ _ _ _ _ (by simp [hX]) (by simp [hRl]; omega) (by simp)]
   rw [Z4v,Z5z,Nat.mul_comm,Zdv hF qO X hX]
  have hs1:stN (newB h br (ints (Z7z (rnF Gl Ord Pm (Z0o Ord n) i) f))) 1 (.pointer (some ⟨br,f*5,none⟩)) (.int .i64 (-1))=some (newB h br (ints (Z1x (rnF Gl Ord Pm (Z0o Ord n) i) f++Z4O++List.replicate (20-5*(f+1)) 0))):=by
   rw [st1_int _ _ _ _ _ _ (by simp [hRl]; omega),Z57]
   congr 3
   rw [Z7z,List.set_append_right _ _ (by rw [Z0F hF f qO]; omega),Z0F hF f qO,show f*5-5*f=0 by omega,show 20-5*f=5+(20-5*(f+1)) by omega,← List.replicate_append_replicate,List.append_assoc]
   rfl
  refine Ans.lpG rfl rfl (Z5X ..) ?_
  unfold Z7e
  by_cases h0:T<0
  · clear okg
    rw [if_pos h0] at fdef
    have hs2:stN (newB h br (ints (Z7z (rnF Gl Ord Pm (Z0o Ord n) i) f))) 1 (.pointer (some ⟨br,f*5,none⟩)) (.int .i64 (-1))=some (newB h br (ints (Z7z (rnF Gl Ord Pm (Z0o Ord n) i) (f+1)))):=by
     rw [hs1,Z7z,Z1x,fdef]
    have fx:=ai e2 (ai ho.ixs1 (ai hp.ixs (ai hg.ixs (ai hb.ixs1 (ai l1 (ai l2 (ai l3 (ai l4 (ai b5 (ai hs2 hfl))))))))))
    refine Ans.go ?_
    clear fx
    (have fx:=ai o2 (ai o3 (ai o4 (ai hv6 (ai hv11 (ai hgb hbr))))); refine Ans.nxB (B:=newB h br (ints (Z7z (rnF Gl Ord Pm (Z0o Ord n) i) (f+1)))) ?_ ?_; exact (Z4C.both (Z1X.ints _ _) (Z4C.refl _ _) hbr); clear fx)
    exact ih (f+1) qO
  · rw [if_neg h0] at fdef
    obtain ⟨tn,g1,-,-⟩:=okg h0
    clear okg
    have pf:=ZbM (Z1j hfl) g1
    have kr:0<=gi (Z0o Ord n) T/\gi (Z0o Ord n) T<n:=Z28 Ord (n:=n) qO T.toNat qO
    have l5:=hb.rdi T qO tn
    have e7:(Z0o Ord n).getD T.toNat 0=gi (Z0o Ord n) T:=rfl
    rw [e7] at fdef
    obtain ⟨K,hK⟩:∃ K,gi (Z0o Ord n) T=K:=⟨_,rfl⟩
    rw [hK] at kr l5 fdef
    have l6:=hp.perm K kr.1 kr.2
    have pk:=hok.p24 (j:=K.toNat) qO
    have c1:=fun H c=>Za5 _ pk H c
    have c2:=fun H c=>Z3I _ _ pf hpi H c
    have c3:=fun H c=>Z3I _ _ (Z5i pk) (Z64 pf hpi) H c
    have cl:(comp (inv (Z04 Pm K.toNat)) (comp (Z0D F) (Z04 Pm i))).length=4:=by rw [Z0l,Z0l,Z23 hpi]
    have c4:=Zmc K _ cl
    have hst2:=hst (K::comp (inv (Z04 Pm K.toNat)) (comp (Z0D F) (Z04 Pm i))) (by simp [cl])
    have hst3:stN (newB h br (ints (Z7z (rnF Gl Ord Pm (Z0o Ord n) i) f))) 5 (.pointer (some ⟨br,f*5,none⟩)) (av (K::comp (inv (Z04 Pm K.toNat)) (comp (Z0D F) (Z04 Pm i))))=some (newB h br (ints (Z7z (rnF Gl Ord Pm (Z0o Ord n) i) (f+1)))):=by
     rw [hst2,Z7z,Z1x,fdef]
    repeat' (first | ((with_reducible first | refine Ans.bz ?_ | refine Ans.r1 ?_ | refine Ans.pkT ?_ | refine Ans.pkF ?_); try dsimp only [v_zero,v_succ]) | (with_reducible first | refine Ans.btL ?_ | refine Ans.bfL ?_ | refine Ans.gyT ?_ | refine Ans.gyF ?_ | refine Ans.gyG ?_ | refine Ans.bb ?_ | refine Ans.bc ?_ | refine Ans.ba ?_) | ((with_reducible first | refine Ans.lsT ?_ ?_ | refine Ans.leT ?_ ?_ | refine Ans.grT ?_ ?_ | refine Ans.geT ?_ ?_ | refine Ans.eqT ?_ ?_ | refine Ans.neT ?_ ?_); (focus omega)) | ((with_reducible first | refine Ans.lsF ?_ ?_ | refine Ans.leF ?_ ?_ | refine Ans.grF ?_ ?_ | refine Ans.geF ?_ ?_ | refine Ans.eqF ?_ ?_ | refine Ans.neF ?_ ?_); (focus omega)) | (with_reducible first | refine Ans.lsS (fun _=>?_) (fun _=>?_) | refine Ans.leS (fun _=>?_) (fun _=>?_) | refine Ans.grS (fun _=>?_) (fun _=>?_) | refine Ans.geS (fun _=>?_) (fun _=>?_) | refine Ans.eqS (fun _=>?_) (fun _=>?_) | refine Ans.neS (fun _=>?_) (fun _=>?_)) | ((with_reducible first | refine Ans.addN ?_ ?_ | refine Ans.add ?_ ?_ | refine Ans.sub ?_ ?_ | refine Ans.mul ?_ ?_); (focus omega)) | ((with_reducible first | refine Ans.ct ?_ ?_); (focus (simp (disch:=(first | omega | with_reducible assumption | (simp <;> omega) | fail)) [e2,ho.ixs1,hp.ixs,hg.ixs,hb.ixs1,l1,l2,l3,l4,l5,l6,b5,b6,hfl,c1,c2,c3,c4,hst3,-ldN_newB_same]; done))) | ((with_reducible first | refine Ans.cf ?_ ?_); (focus (simp (disch:=(first | omega | with_reducible assumption | (simp <;> omega) | fail)) [e2,ho.ixs1,hp.ixs,hg.ixs,hb.ixs1,l1,l2,l3,l4,l5,l6,b5,b6,hfl,c1,c2,c3,c4,hst3,-ldN_newB_same]; done))) | (refine Ans.step (by simp (disch:=(first | omega | with_reducible assumption | (simp <;> omega) | fail)) [e2,ho.ixs1,hp.ixs,hg.ixs,hb.ixs1,l1,l2,l3,l4,l5,l6,b5,b6,hfl,c1,c2,c3,c4,hst3,-ldN_newB_same,-List.getD_eq_getElem?_getD] <;> rfl) ?_; try dsimp only [v_zero,v_succ]) | fail)
    (have fx:=ai o2 (ai o3 (ai o4 (ai hv6 (ai hv11 (ai hgb hbr))))); refine Ans.nxB (B:=newB h br (ints (Z7z (rnF Gl Ord Pm (Z0o Ord n) i) (f+1)))) ?_ ?_; exact (Z4C.both (Z1X.ints _ _) (Z4C.refl _ _) hbr); clear fx)
    exact ih (f+1) qO
theorem ZiI (so sp sb v2 v3:Value) (n:Nat) (Ord:List Int) (bm cm c:Nat) (h:FH) (hn:n<=1000) (hcm:cm<=c) (hbm:bm<256*c) (hbm1:256*cm<=bm) (hsb:sb = .slice (some ⟨bm,0,none⟩) n n)
 (ho:SlI h cm so 1 n Ord) (hO:∀ j,j<n->0<=Ord.getD j 0/\Ord.getD j 0<n) (o1:OkV c sp) (o2:OkV c v2) (o3:OkV c v3) (df:List Nat) :
 ∀ (k i:Nat) (l:List Int),i+k=n->l.length=n →
 Ans (G (Z9Z none) [so,sp,v2,v3,.int .i64 n,sb,.int .i64 i] (newB h bm (ints l)) c df)
  fun r=>r=⟨.exit 0,[so,sp,v2,v3,.int .i64 n,sb,.int .i64 n],newB h bm (ints (Z66 Ord k i l)),c,df⟩:=by
 intro k
 have o4:=(ho.mono hcm).okV
 subst hsb
 induction k with
 | zero =>
  intro i l hi hl
  obtain rfl:i=n:=by omega
  refine Ans.lpG rfl rfl (Z5Z ..) ?_
  unfold Z7g
  have fx:=True.intro
  refine Ans.go ?_
  clear fx
  (have fx:=ai o1 (ai o2 (ai o3 (ai o4 hbm))); refine Ans.ex0 ?_; clear fx)
  rfl
 | succ k ih =>
  intro i l hi hl
  have b1:=ho.blk qO
  have l1:=ho.rdi i qO qO
  have x1:=hO i qO
  simp only [Int.toNat_natCast] at l1
  rw [Z3A] at l1
  rw [Z66]
  obtain ⟨X,hX⟩:∃ X,Ord.getD i 0=X:=⟨_,rfl⟩
  rw [hX] at l1 x1 ⊢
  have hst:stN (newB h bm (ints l)) 1 (.pointer (some ⟨bm,X.toNat,none⟩)) (.int .i64 i)=some (newB h bm (ints (l.set X.toNat i))):=by
   rw [st1_int _ _ _ _ _ _ (by simp; omega),Z57]
  refine Ans.lpG rfl rfl (Z5Z ..) ?_
  unfold Z7g
  have fx:=ai ho.ixs1 (ai l1 hst)
  refine Ans.go ?_
  clear fx
  (have fx:=ai o1 (ai o2 (ai o3 (ai o4 hbm))); refine Ans.nxB (B:=newB h bm (ints (l.set X.toNat i))) ?_ ?_; exact (Z4C.both (Z1X.ints _ _) (Z4C.refl _ _) hbm); clear fx)
  exact ih (i+1) _ qO (by simpa using hl)
theorem Zmu (s so sp sb v6:Value) (n:Nat) (Gl Ord Pm:List Int) (gb bo cm c1:Nat) (h:FH) (hn:n<=1000) (hgb:gb<256*cm) (hbo:256*cm<=bo) (hbo1:bo<256*c1) (hcm:cm<=c1)
 (hh:Z0a h gb [s]) (hg:SlI h cm s 20 n Gl) (ho:SlI h cm so 1 n Ord) (hp:SlI h cm sp 4 n Pm) (hb:SlI h cm sb 1 n (Z0o Ord n)) (hok:RnOk Gl Ord Pm n) (hv6:OkV cm v6) (df:List Nat) :
 ∀ (k i c:Nat) (H:FH) (v:Value),i+k=n->c1<=c->Z0q cm h H->H.f bo=some (.cells false none [v])->Z9q c1 H c v 20 i (rnL Gl Ord Pm (Z0o Ord n) i) →
 Ans (G (Z9Y none) [so,sp,ptrTo gb,v6,.int .i64 n,sb,ptrTo bo,.int .i64 i] H c df)
  fun r=>r.e = .exit 2/\r.vs=[so,sp,ptrTo gb,v6,.int .i64 n,sb,ptrTo bo,.int .i64 n]/\r.df=df/\c<=r.c/\Z0q cm h r.h ∧
   ∃ v,r.h.f bo=some (.cells false none [v])/\Z9q c1 r.h r.c v 20 n (rnL Gl Ord Pm (Z0o Ord n) n):=by
 intro k
 induction k with
 | zero =>
  intro i c H v hi hc hH hv ha
  obtain rfl:i=n:=by omega
  refine Ans.lpN rfl rfl (Z5Y ..) ?_
  unfold Z7f
  have fx:=True.intro
  refine Ans.go ?_
  clear fx
  exact Ans.exitN ⟨rfl,rfl,rfl,(by show c<=c+1; omega),hH,v,hv,ha.mono (by show c<=c+1; omega)⟩
 | succ k ih =>
  intro i c H v hi hc hH hv ha
  have hF:∀ f,f<4->(rnF Gl Ord Pm (Z0o Ord n) i f).length=5:=fun f hf=>Z2r hok qO hf
  have hin:=Ans.eq (rnR_in s so sp sb v6 (ptrTo bo) n Gl Ord Pm gb (256*(c+1)) cm (c+1+1+1) H i qO hn qO hgb qO qO
   (hh.same hgb hH) (hg.same hH) (ho.same hH) (hp.same hH) (hb.same hH) hok (by obtain ⟨v',hv'⟩:=hv6; exact OkV.mono qO ⟨v',hv'⟩) (OkV.ptrTo qO) df 4 0 rfl)
  have hz:ints (Z7z (rnF Gl Ord Pm (Z0o Ord n) i) 0)=[(.int .i64 0),(.int .i64 0),(.int .i64 0),(.int .i64 0),(.int .i64 0),(.int .i64 0),(.int .i64 0),(.int .i64 0),(.int .i64 0),(.int .i64 0),(.int .i64 0),(.int .i64 0),(.int .i64 0),(.int .i64 0),(.int .i64 0),(.int .i64 0),(.int .i64 0),(.int .i64 0),(.int .i64 0),(.int .i64 0)]:=rfl
  rw [hz] at hin
  simp only [Int.ofNat_eq_natCast,Int.cast_ofNat_Int] at hin
  have hRl:=Z0F hF 4 qO
  obtain ⟨R,hR⟩:∃ R,Z1x (rnF Gl Ord Pm (Z0o Ord n) i) 4=R:=⟨_,rfl⟩
  have hL:rnL Gl Ord Pm (Z0o Ord n) (i+1)=rnL Gl Ord Pm (Z0o Ord n) i++R:=by rw [rnL,hR]
  rw [hR] at hin hRl
  have lv:ld1 H (.pointer (some ⟨bo,0,none⟩))=some v:=by rw [Z03 (cs:=[v]) ⟨false,none,hv⟩]; rfl
  have lr:ldN (newB H (256*(c+1)) (ints R)) 20 (.pointer (some ⟨256*(c+1),0,none⟩))=some (av R):=by
   rw [ldN_newB_same _ _ _ _ _ (by simp [hRl]),List.drop_zero,List.take_of_length_le (by simp [hRl])]; rfl
  have hbl:=Zmb R hRl
  obtain ⟨v',h',e1,e2,e3,e4⟩:=(ha.keep (h':=newB H (256*(c+1)) (ints R)) (fun j _ hj=>by rw [Z0b,if_neg qO])).mono (c':=c+1+1+1) qO |>.app (c':=c+1+1+1+1+1) R hRl qO 160 (256*(c+1+1+1)+3) (256*(c+1+1+1)+4) qO qO qO qO qO qO
  have hs0:Z0q c1 H h':=Z0q.trans ((Same_newB qO).2 (Z0q.refl _ _)) e3
  have hv':h'.f bo=some (.cells false none [v]):=(hs0 bo hbo1).trans hv
  have hst:=Z4F (v:=v') (o:=0) (show HeapC.get h' bo=_ from hv') (by simp) e2.flat.2 e2.flat.1
  refine Ans.lpN rfl rfl (Z5Y ..) ?_
  unfold Z7f
  have fx:=ai hin (ai lv (ai lr (ai hbl (ai e1 hst))))
  refine Ans.go ?_
  clear fx
  refine Ans.nextN ?_
  refine (ih (i+1) _ _ v' qO qO ?_ ?_ ?_).mono ?_
  · intro j hj
    rw [Z0m,if_neg qO,hs0 j qO,hH j hj]
  · rw [Z0m,if_pos rfl]
  · rw [hL]
    exact e2.keep (fun j h1 h2=>by rw [Z0m,if_neg qO])
  · rintro r ⟨q1,q2,q3,q4,q5,q6⟩
    exact ⟨q1,q2,q3,by omega,q5,q6⟩

theorem Zc4 (s:Value) (n:Nat) (Gl:List Int) (h:FH) (c:Nat) (hs:SlI h c s 20 n Gl):callF G 23 [.agg #[s]] h c=some (.int .i64 (if n<=1000/\Z0Y Gl n=true then 0 else 7),h,c):=Z0j (Zi7 s n Gl h c [] hs)
set_option maxHeartbeats 1000000 in
theorem Zh1 (s so sp:Value) (n a b:Nat) (Gl Ord Pm:List Int) (h:FH) (c:Nat) (df:List Nat) (hs:SlI h c s 20 n Gl) (ho:SlI h c so 1 a Ord) (hp:SlI h c sp 4 b Pm) :
 Ans (G (.fn 20) [.agg #[s],so,sp] h c df) (Z90 h c Gl Ord Pm n a b):=by
 refine Ans.call' (fun r e=>f20_go e) ?_
 have hflat:((Value.agg #[s]).cells.toList.all Z08)=true:=by simp [Value.cells,hs.flat]
 have hcell:(Value.agg #[s]).cells.toList=[s]:=rfl
 unfold Znw
 rw [hflat,hcell]
 simp only [cond_true]
 obtain ⟨H,hH⟩:∃ H,H=newB (newB h (256*c) [s]) (256*c+1) [.slice none 0 0]:=⟨_,rfl⟩
 have sH:Z0q c h H:=by rw [hH]; simp (disch:=omega)
 have hg:Z0a H (256*c) [s]:=by rw [hH]; exact Z0a.newB_ne qO (Z0a.newB_same _ _ _)
 have hr:H.f (256*c+1)=some (.cells false none [.slice none 0 0]):=by rw [hH,Z0b,if_pos rfl]
 have l0:=Z0C hg
 have l1:ld1 H (.pointer (some ⟨256*c,0,none⟩))=some s:=by rw [Z03 hg]; rfl
 have c1:=Zc4 s n Gl H (c+1+1) ((hs.same sH).mono qO)
 have hlen:=hs.len
 have w0:=Z86 hr (o:=0) (v:=.slice none 0 0) (by simp) rfl
 have hz:Z1v [(.slice none 0 0)] []=some (.agg #[.slice none 0 0]):=rfl
 rw [Nat.add_zero,← hH]
 clear hH
 have w1:=Z0C (h:=HeapC.set H (256*c+1) (.cells false none [.slice none 0 0])) (b:=256*c+1) (cs:=[]) (v:=.slice none 0 0) ⟨_,_,get_set_same _ _ _⟩
 by_cases hok:n<=1000/\Z0Y Gl n=true
 case neg =>
  rw [if_neg hok] at c1
  have fx:=ai l0 (ai c1 (ai hz (ai w0 w1)))
  refine Ans.go ?_
  clear fx
  refine .done ⟨rfl,rfl,(by show c<=c+1+1+1; omega), ?_,.slice none 0 0,by rw [rnE,if_neg hok], ?_⟩
  · exact sH.set qO
  · rw [rnN,rnR,if_neg (fun h=>hok ⟨h.1,h.2.1⟩),if_neg (fun h=>hok ⟨h.1,h.2.1⟩)]
    exact ⟨SlI.nil _ _ _,fun h=>absurd h qO⟩
 rw [if_pos hok] at c1
 have c2:=Z0j (Z9z so sp a b n Ord Pm H (c+1+1+1+1) [] ((ho.same sH).mono qO) ((hp.same sH).mono qO) qO)
 cases hord:Z48 Ord Pm a b n with
 | false =>
  rw [hord] at c2
  have fx:=ai l0 (ai l1 (ai hlen (ai c1 (ai c2 (ai hz (ai w0 w1))))))
  refine Ans.go ?_
  clear fx
  refine .done ⟨rfl,rfl,(by show c<=c+1+1+1+1+1; omega), ?_,.slice none 0 0,by rw [rnE,if_pos hok,hord,if_neg (by simp)], ?_⟩
  · exact sH.set qO
  · rw [rnN,rnR,if_neg (fun h=>by rw [hord] at h; simp at h),if_neg (fun h=>by rw [hord] at h; simp at h)]
    exact ⟨SlI.nil _ _ _,fun h=>absurd h qO⟩
 | true =>
  rw [hord] at c2
  have hrn:=RnOk.of hs.1 (by simpa using ho.1) hp.1 hok.2 hord
  obtain ⟨rfl,rfl,hord2⟩:=Z5M.1 hord
  have hbk:=Ans.eq (ZiI so sp (.slice (some ⟨256*(c+1+1+1+1)+1,0,none⟩) b b) (ptrTo (256*c)) (ptrTo (256*c+1)) b Ord (256*(c+1+1+1+1)+1) c (c+1+1+1+1+1+1) H hok.1 qO qO qO rfl
   (ho.same sH) (fun j hj=>⟨(hrn.rng j hj).1,(hrn.rng j hj).2.1⟩) (hp.mono qO).okV (OkV.ptrTo qO) (OkV.ptrTo qO) [] b 0 (List.replicate b 0) qO (by simp))
  rw [show Z66 Ord b 0 (List.replicate b 0)=Z0o Ord b from rfl] at hbk
  simp only [Int.ofNat_eq_natCast,Int.cast_ofNat_Int] at hbk
  obtain ⟨H2,hH2⟩:∃ H2,H2=newB H (256*(c+1+1+1+1)+1) (ints (Z0o Ord b)):=⟨_,rfl⟩
  rw [← hH2] at hbk
  have sH2:Z0q (c+1+1+1+1) H H2:=by rw [hH2]; simp (disch:=omega)
  have sb:SlI H2 (c+1+1+1+1+1+1) (.slice (some ⟨256*(c+1+1+1+1)+1,0,none⟩) b b) 1 b (Z0o Ord b):=by
   refine ⟨by rw [Z18,Nat.mul_one],by omega,_,_,rfl,.inr ⟨_,0,ints (Z0o Ord b),rfl,by omega, ?_, ?_⟩⟩
   · rw [hH2]; exact Z0a.newB_same _ _ _
   · rw [List.drop_zero,List.take_of_length_le (by simp [Z18])]
  have sc:Z0q c h H2:=sH.trans (sH2.mono qO)
  clear hH2
  obtain ⟨⟨re,rv,rh,rc,rd⟩,hm,m1,m2,m3,m4,m5,v,m6,m7⟩:=Zmu s so sp (.slice (some ⟨256*(c+1+1+1+1)+1,0,none⟩) b b) (ptrTo (256*c+1)) b Gl Ord Pm (256*c) (256*(c+1+1+1+1+1+1)) (c+1+1+1+1+1+1) (c+1+1+1+1+1+1+1+1) H2 hok.1 qO qO qO qO
   (hg.same qO sH2) ((hs.same sc).mono qO) ((ho.same sc).mono qO) ((hp.same sc).mono qO) sb hrn (OkV.ptrTo qO) [] b 0 (c+1+1+1+1+1+1+1+1) (newB H2 (256*(c+1+1+1+1+1+1)) [.slice none 0 0]) (.slice none 0 0) qO qO
   ((Same_newB qO).2 (Z0q.refl _ _)) (by rw [Z0b,if_pos rfl]) (Z9q.nil _ _ _ _)
  simp only at m1 m2 m3 m4 m5 m6 m7
  subst m1 m2 m3
  simp only [Int.ofNat_eq_natCast,Int.cast_ofNat_Int] at hm
  have l2:=Z0C ⟨_,_,m6⟩
  have hr2:rh.f (256*c+1)=some (.cells false none [.slice none 0 0]):=(m5 _ qO).trans ((sH2 _ qO).trans hr)
  have w2:=Z86 hr2 (o:=0) (v:=v) (by simp) m7.flat.1
  have w3:=Z0C (h:=HeapC.set rh (256*c+1) (.cells false none [v])) (b:=256*c+1) (cs:=[]) (v:=v) ⟨_,_,get_set_same _ _ _⟩
  have fx:=ai l0 (ai l1 (ai hlen (ai c1 (ai c2 (ai hz (ai Z3F (ai hbk (ai hm (ai l2 (ai w2 w3))))))))))
  refine Ans.go ?_
  clear fx
  refine .done ⟨rfl,rfl,(by show c<=rc+1; omega), ?_,v,by rw [rnE,if_pos hok,hord,if_pos rfl], ?_⟩
  · exact (sc.trans (m5.mono qO)).set qO
  · rw [rnN,rnR,if_pos ⟨hok.1,hok.2,hord⟩,if_pos ⟨hok.1,hok.2,hord⟩]
    refine ⟨((m7.keep (fun j h1 h2=>by rw [Z0m,if_neg qO])).mono (by show rc<=rc+1; omega)).sl,fun hb=>?_⟩
    rcases m7.2.2 with ⟨_,h0⟩ | ⟨j,rfl,h0,_,_⟩
    · omega
    · rw [blkOf_sl]; omega
end Go.Proofs.Ytemkjcpfgmbibaa
