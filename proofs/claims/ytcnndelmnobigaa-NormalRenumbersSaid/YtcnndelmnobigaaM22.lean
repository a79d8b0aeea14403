/- Parts of a proof: I2 I3 U13 B11 V7 X1 B12 B13 I8 I9 AbRow4 RowK. Conditions: none. -/
import Derived.Test.YtcnndelmnobigaaM21
import Derived.Test.YtcnndelmnobigaaM20
import Derived.Test.YtcnndelmnobigaaM18
import Derived.Test.YtcnndelmnobigaaRows
import Derived.ProofKit
set_option linter.all false
set_option maxRecDepth 100000
namespace Go.Proofs.Ytcnndelmnobigaa
open Go Go.Ab Go.Proofs
theorem Zht {A B:List Int} (h:A.Perm B):Z3O A=Z3O B:=by
 induction h with
 | nil=>rfl
 | cons x _ ih=>rw [Z3O,Z3O,ih]
 | swap x y l=>simp only [Z3O]; omega
 | trans _ _ i1 i2=>rw [i1,i2]
theorem Zju (A B:List Int):Z3O (A++B)=Z3O A+Z3O B:=by
 induction A with
 | nil=>simp [Z3O]
 | cons x A ih=>rw [List.cons_append,Z3O,Z3O,ih]; omega
theorem Zar (f:Nat->Int):∀ (m:Nat),Z3O ((List.range m).map f)=Z1y f m
 | 0=>rfl
 | m+1=>by
  rw [List.range_succ,List.map_append,Zju,Zar f m]
  simp [Z3O,Z1y]
theorem Zn5 (V:List Int):Z3O V=Z1y (fun j=>gi V (j:Nat)) V.length:=by
 rw [← ZfQ,Z0p,List.map_map,← Zar]
 rfl
theorem ZdK (V:List Int) (t f:Nat):sI V t f 4 0=Z1y (fun i=>if i=f then 0 else Z5z V t f (i:Nat)) 4:=by
 simp only [sI,Z1y,Nat.zero_add,Nat.reduceAdd]
 omega
def fcS (V:List Int) (a:Nat):Int:=sI V (a / 4) (a % 4) 4 0
def fcC (Gl V:List Int) (a:Nat):Int:=if Z5g Gl (a / 4) (a % 4)=true then 0 else fcS V a
theorem Zmp (Gl V:List Int) (t:Nat):∀ (r f:Nat),f+r=4->sF Gl V t r f=Z1y (fcC Gl V) (4*t+4)-Z1y (fcC Gl V) (4*t+f)
 | 0,f,h=>by
  obtain rfl:f=4:=by omega
  rw [sF]; omega
 | r+1,f,h=>by
  rw [sF,Zmp Gl V t r (f+1) qO]
  have e:Z1y (fcC Gl V) (4*t+(f+1))=Z1y (fcC Gl V) (4*t+f)+fcC Gl V (4*t+f):=rfl
  rw [e,fcC,fcS,show (4*t+f) / 4=t by omega,show (4*t+f) % 4=f by omega]
  omega
theorem Zmo (Gl V:List Int) {n:Nat}:∀ (r t:Nat),t+r=n->sT Gl V r t=Z1y (fcC Gl V) (4*n)-Z1y (fcC Gl V) (4*t)
 | 0,t,h=>by
  obtain rfl:t=n:=by omega
  rw [sT]; omega
 | r+1,t,h=>by
  rw [sT,Zmo Gl V (n:=n) r (t+1) qO,Zmp Gl V t 4 0 qO]
  rw [show 4*(t+1)=4*t+4 by omega,show 4*t+0=4*t from rfl]
  omega
theorem Zls {Gl V:List Int} {n:Nat} (hok:Z0w Gl n=true) (hG:Gl.length=n*20) (hE:((Z2v Gl n).all fun m=>eqM V m)=true) {t f:Nat} (ht:t<n) (hf:f<4) (hg:¬ Z0z (Z01 Gl t f)<0) :
 sI V (fU Gl t f) (fJ Gl t f f) 4 0=sI V t f 4 0:=by
 rw [ZdK,ZdK]
 obtain ⟨hp,-,-⟩:=Z8A hok hG ht hf hg
 have hb:∀ i,i<4->fJ Gl t f i<4:=fun i hi=>by have:=Z0C hp hi; unfold fJ; omega
 obtain ⟨i0,hi0,hn0⟩:∃ i,i<4/\i ≠ f:=by
  by_cases h:f=0
  · exact ⟨1,by omega,by omega⟩
  · exact ⟨0,by omega,by omega⟩
 have hff:=Z3y hok hG ht hf hi0 hn0 hg
 have hback:∀ i,i<4->fJ Gl (fU Gl t f) (fJ Gl t f f) (fJ Gl t f i)=i:=fun i hi=>by
  by_cases e:i=f
  · rw [e]; exact hff.2.2.2.1
  · exact (Z3y hok hG ht hf hi e hg).2.2.1
 have g0:=FGl.of hok hG ht hf hi0 hn0 hg
 obtain ⟨hp2,-,-⟩:=Z8A hok hG g0.u g0.h hff.2.1
 have hb2:∀ i,i<4->fJ Gl (fU Gl t f) (fJ Gl t f f) i<4:=fun i hi=>by have:=Z0C hp2 hi; unfold fJ at this ⊢; omega
 rw [← Z6b (h:=fun i=>if i=fJ Gl t f f then 0 else Z5z V (fU Gl t f) (fJ Gl t f f) (i:Nat)) (s:=fJ Gl t f) (r:=fJ Gl (fU Gl t f) (fJ Gl t f f)) hb hb2 hback (onto hb hb2 hback)]
 refine Z11 fun i hi=>?_
 by_cases e:i=f
 · subst e; rw [if_pos rfl,if_pos rfl]
 · rw [if_neg e,if_neg (fun q=>e (by rw [← hback i hi,q,hback f hf]))]
   exact (Z7X hok hG hE ht hf hi e hg).symm
def Z2k (Gl:List Int) (a:Nat):Bool:=decide (0<=Z0z (Z01 Gl (a / 4) (a % 4)))
def fcH (Gl V:List Int) (a:Nat):Int:=if Z2k Gl a=true then fcS V a else fcS V a+fcS V a
theorem Zhs {N:Nat} {s:Nat->Nat} {L R:Nat->Int} (h1:∀ a,a<N->s a<N) (h2:∀ a,a<N->s (s a)=a) (h:∀ a,a<N->L (s a)=R a):Z1y L N=Z1y R N:=by
 rw [← Z6b (h:=L) (s:=s) (r:=s) h1 h1 h2 h2]
 exact Z11 h
theorem ZdJ {Gl V:List Int} {n:Nat} (hok:Z0w Gl n=true) (hG:Gl.length=n*20) (hE:((Z2v Gl n).all fun m=>eqM V m)=true):sT Gl V n 0+sT Gl V n 0=Z1y (fcH Gl V) (4*n):=by
 have e0:=Zmo Gl V (n:=n) n 0 qO
 rw [Nat.mul_zero,Z1y,Int.sub_zero] at e0
 rw [e0]
 obtain ⟨s,hs⟩:∃ s:Nat->Nat,s=fun a=>if Z2k Gl a=true then Z7H Gl a else a:=⟨_,rfl⟩
 have m1:∀ a,a<4*n->Z2k Gl a=true->Z7H Gl a<4*n/\Z7H Gl (Z7H Gl a)=a/\Z7H Gl a ≠ a/\(Z5g Gl (a / 4) (a % 4)=true ↔ Z7H Gl a<a)/\Z2k Gl (Z7H Gl a)=true/\fcS V (Z7H Gl a)=fcS V a:=fun a ha hg=>by
  have hg':0<=Z0z (Z01 Gl (a / 4) (a % 4)):=of_decide_eq_true hg
  have ht:a / 4<n:=by omega
  have hf:a % 4<4:=by omega
  have m:=Zi1 hok hG ht hf hg'
  rw [show 4*(a / 4)+a % 4=a by omega] at m
  obtain ⟨i0,hi0,hn0⟩:∃ i,i<4/\i ≠ a % 4:=by
   by_cases h:a % 4=0
   · exact ⟨1,by omega,by omega⟩
   · exact ⟨0,by omega,by omega⟩
  have hff:=Z3y hok hG ht hf hi0 hn0 qO
  have g0:=FGl.of hok hG ht hf hi0 hn0 qO
  have em:Z7H Gl a=4*fU Gl (a / 4) (a % 4)+fJ Gl (a / 4) (a % 4) (a % 4):=by
   unfold Z7H
   rw [g0.uz,g0.hz]
   omega
  have g0h:=g0.h
  refine ⟨m.1,m.2.1,m.2.2.1,m.2.2.2, ?_, ?_⟩
  · unfold Z2k
    rw [em,show (4*fU Gl (a / 4) (a % 4)+fJ Gl (a / 4) (a % 4) (a % 4)) / 4=fU Gl (a / 4) (a % 4) by omega,show (4*fU Gl (a / 4) (a % 4)+fJ Gl (a / 4) (a % 4) (a % 4)) % 4=fJ Gl (a / 4) (a % 4) (a % 4) by omega]
    exact decide_eq_true (Int.not_lt.1 hff.2.1)
  · unfold fcS
    rw [em,show (4*fU Gl (a / 4) (a % 4)+fJ Gl (a / 4) (a % 4) (a % 4)) / 4=fU Gl (a / 4) (a % 4) by omega,show (4*fU Gl (a / 4) (a % 4)+fJ Gl (a / 4) (a % 4) (a % 4)) % 4=fJ Gl (a / 4) (a % 4) (a % 4) by omega]
    exact Zls hok hG hE ht hf qO
 have s1:∀ a,a<4*n->s a<4*n:=fun a ha=>by
  rw [hs]; show (if Z2k Gl a=true then Z7H Gl a else a)<_
  split
  · exact (m1 a ha (by assumption)).1
  · exact ha
 have s2:∀ a,a<4*n->s (s a)=a:=fun a ha=>by
  rw [hs]; show (if Z2k Gl (if Z2k Gl a=true then Z7H Gl a else a)=true then Z7H Gl (if Z2k Gl a=true then Z7H Gl a else a) else (if Z2k Gl a=true then Z7H Gl a else a))=a
  by_cases g:Z2k Gl a=true
  · have m:=m1 a ha g
    rw [if_pos g,if_pos m.2.2.2.2.1,m.2.1]
  · rw [if_neg g,if_neg g]
 have k:=Zhs (N:=4*n) (s:=s) (L:=fcC Gl V) (R:=fun a=>fcH Gl V a-fcC Gl V a) s1 s2 (fun a ha=>by
  rw [hs]
  show fcC Gl V (if Z2k Gl a=true then Z7H Gl a else a)=fcH Gl V a-fcC Gl V a
  by_cases g:Z2k Gl a=true
  · have m:=m1 a ha g
    have m':=m1 _ m.1 m.2.2.2.2.1
    rw [if_pos g]
    unfold fcC fcH
    rw [if_pos g,m.2.2.2.2.2]
    rw [m.2.1] at m'
    have a1:=m.2.2.2.1
    have a2:=m'.2.2.2.1
    by_cases q:Z7H Gl a<a
    · rw [if_neg (fun z=>by have:=a2.1 z; omega),if_pos (a1.2 q)]; omega
    · rw [if_pos (a2.2 (by have:=m.2.2.1; omega)),if_neg (fun z=>q (a1.1 z))]; omega
  · rw [if_neg g]
    unfold fcC fcH
    rw [if_neg g]
    have:Z5g Gl (a / 4) (a % 4)=false:=by
     have g2:¬ 0<=Z0z (Z01 Gl (a / 4) (a % 4)):=of_decide_eq_false (by simpa [Z2k] using g)
     unfold Z5g
     exact decide_eq_false (fun z=>g2 z.1)
    rw [this,if_neg (by simp)]
    omega)
 have k2:Z1y (fcH Gl V) (4*n)=Z1y (fun a=>fcC Gl V a+(fcH Gl V a-fcC Gl V a)) (4*n):=Z11 fun a _=>by omega
 rw [k2,Zaq,← k]
theorem rel_sT {Gl Hl U V:List Int} {n:Nat} {O K:Nat->Nat} {p r:Nat->Nat->Nat} (h:Rel Gl Hl n O K p r) (hok:Z0w Gl n=true) (hG:Gl.length=n*20) (hok':Z0w Hl n=true) (hG':Hl.length=n*20) (hA:Zon n U V O p)
 (hE:((Z2v Gl n).all fun m=>eqM V m)=true) (hE':((Z2v Hl n).all fun m=>eqM U m)=true):sT Hl U n 0=sT Gl V n 0:=by
 have k1:=ZdJ hok hG hE
 have k2:=ZdJ hok' hG' hE'
 have hi:∀ t,t<n -> ∀ i,i<4->r (O t) (p t i)=i:=fun t ht i hi=>h.rp t i ht hi
 have e:Z1y (fcH Hl U) (4*n)=Z1y (fcH Gl V) (4*n):=by
  have sl:∀ a,a<4*n->4*O (a / 4)+p (a / 4) (a % 4)<4*n:=fun a ha=>by
   have:=h.o (a / 4) qO
   have:=h.pl (a / 4) (a % 4) qO qO
   omega
  have rl:∀ a,a<4*n->4*K (a / 4)+r (a / 4) (a % 4)<4*n:=fun a ha=>by
   have:=h.k (a / 4) qO
   have:=h.rl (a / 4) (a % 4) qO qO
   omega
  have dm:∀ a,a<4*n->(4*O (a / 4)+p (a / 4) (a % 4)) / 4=O (a / 4)/\(4*O (a / 4)+p (a / 4) (a % 4)) % 4=p (a / 4) (a % 4):=fun a ha=>by
   have:=h.pl (a / 4) (a % 4) qO qO
   omega
  have rs:∀ a,a<4*n->4*K ((4*O (a / 4)+p (a / 4) (a % 4)) / 4)+r ((4*O (a / 4)+p (a / 4) (a % 4)) / 4) ((4*O (a / 4)+p (a / 4) (a % 4)) % 4)=a:=fun a ha=>by
   rw [(dm a ha).1,(dm a ha).2,h.ko _ qO,h.rp _ _ qO qO]
   omega
  rw [← Z6b (h:=fcH Gl V) (s:=fun a=>4*O (a / 4)+p (a / 4) (a % 4)) (r:=fun a=>4*K (a / 4)+r (a / 4) (a % 4)) sl rl rs (onto (s:=fun a=>4*O (a / 4)+p (a / 4) (a % 4)) (r:=fun a=>4*K (a / 4)+r (a / 4) (a % 4)) sl rl rs)]
  refine Z11 fun a ha=>?_
  obtain ⟨d1,d2⟩:=dm a ha
  have ht:a / 4<n:=by omega
  have hf:a % 4<4:=by omega
  have gb:Z2k Hl a=Z2k Gl (4*O (a / 4)+p (a / 4) (a % 4)):=by
   unfold Z2k
   rw [d1,d2]
   have:=h.g _ _ ht hf
   exact decide_eq_decide.2 (by rw [← Int.not_lt,← Int.not_lt]; exact not_congr this)
  have sb:fcS U a=fcS V (4*O (a / 4)+p (a / 4) (a % 4)):=by
   unfold fcS
   rw [d1,d2,ZdK,ZdK]
   have pl:∀ i,i<4->p (a / 4) i<4:=fun i hi=>h.pl _ i ht hi
   have rl':∀ i,i<4->r (O (a / 4)) i<4:=fun i hi=>h.rl _ i (h.o _ ht) hi
   rw [← Z6b (h:=fun i=>if i=p (a / 4) (a % 4) then 0 else Z5z V (O (a / 4):Nat) (p (a / 4) (a % 4):Nat) (i:Nat)) (s:=p (a / 4)) (r:=r (O (a / 4))) pl rl' (hi _ ht) (onto pl rl' (hi _ ht))]
   refine Z11 fun i hi=>?_
   by_cases q:i=a % 4
   · subst q; rw [if_pos rfl,if_pos rfl]
   · rw [if_neg q,if_neg (h.ne ht hi hf q)]
     exact hA _ _ _ ht hf hi q
  unfold fcH
  rw [gb,sb]
 omega

theorem ty_mv {q:List Int} (hq:q ∈ p24) {i f:Nat} (hi:i<4) (hf:f<4) (hne:i ≠ f):ty (q.getD i 0) (q.getD f 0)=ty (q.getD 0 0) (q.getD ((ty (i:Nat) (f:Nat)).toNat+1) 0):=by
 have h:=Z9i (Q:=fun q=>(List.range 4).all fun i=>(List.range 4).all fun f=>i == f || ty (q.getD i 0) (q.getD f 0) == ty (q.getD 0 0) (q.getD ((ty (i:Nat) (f:Nat)).toNat+1) 0)) (by kernel_rfl) hq
 have h1:=List.all_eq_true.1 (List.all_eq_true.1 h i (by simpa using hi)) f (by simpa using hf)
 simpa [hne] using h1
theorem ty_inv {q:List Int} (hq:q ∈ p24) {k:Nat} (hk:k<3):ty ((inv q).getD 0 0) ((inv q).getD ((ty (q.getD 0 0) (q.getD (k+1) 0)).toNat+1) 0)=k:=by
 have h:=Z9i (Q:=fun q=>(List.range 3).all fun k=>ty ((inv q).getD 0 0) ((inv q).getD ((ty (q.getD 0 0) (q.getD (k+1) 0)).toNat+1) 0) == (k:Nat)) (by kernel_rfl) hq
 have h1:=List.all_eq_true.1 h k (by simpa using hk)
 simpa using h1
theorem Zjq {q:List Int} (hq:q ∈ p24):(ty (q.getD 0 0) (q.getD 1 0),ty (q.getD 0 0) (q.getD 2 0),ty (q.getD 0 0) (q.getD 3 0)) ∈ [((0:Int),(1:Int),(2:Int)),(0,2,1),(1,0,2),(1,2,0),(2,0,1),(2,1,0)]:=by
 have h:=Z9i (Q:=fun q=>[((0:Int),(1:Int),(2:Int)),(0,2,1),(1,0,2),(1,2,0),(2,0,1),(2,1,0)].contains (ty (q.getD 0 0) (q.getD 1 0),ty (q.getD 0 0) (q.getD 2 0),ty (q.getD 0 0) (q.getD 3 0))) (by kernel_rfl) hq
 simpa using h
def uM (O:Nat->Nat) (p:Nat->Nat->Nat) (x:Nat):Nat:=if x % 7<4 then 7*O (x / 7)+p (x / 7) (x % 7) else 7*O (x / 7)+4+(ty (p (x / 7) 0:Nat) (p (x / 7) (x % 7-3):Nat)).toNat
def uL (V Ord Pm:List Int) (n:Nat):List Int:=(List.range (7*n)).map fun x=>gi V (uM (oA Ord) (pA Pm) x:Nat)
theorem Z52 (V Ord Pm:List Int) (n:Nat):(uL V Ord Pm n).length=7*n:=by simp [uL]
theorem Zhl (V Ord Pm:List Int) {n x:Nat} (hx:x<7*n):gi (uL V Ord Pm n) x=gi V (uM (oA Ord) (pA Pm) x:Nat):=by
 rw [Z3U,uL,List.getD_eq_getElem?_getD]
 simp [hx]
theorem Z9r (O:Nat->Nat) (p:Nat->Nat->Nat) {t i:Nat} (hi:i<4):uM O p (7*t+i)=7*O t+p t i:=by
 unfold uM
 rw [show (7*t+i) % 7=i by omega,show (7*t+i) / 7=t by omega,if_pos hi]
theorem Z5U (O:Nat->Nat) (p:Nat->Nat->Nat) {t k:Nat} (hk:k<3):uM O p (7*t+4+k)=7*O t+4+(ty (p t 0:Nat) (p t (k+1):Nat)).toNat:=by
 unfold uM
 rw [show (7*t+4+k) % 7=k+4 by omega,show (7*t+4+k) / 7=t by omega,if_neg qO,show k+4-3=k+1 by omega]
section
variable {Gl Hl Ord Pm V:List Int} {n:Nat}
theorem pz (hp:∀ t,t<n->Z0i Pm t ∈ p24) {t i:Nat} (ht:t<n) (hi:i<4):(Z0i Pm t).getD i 0=(pA Pm t i:Nat):=by
 have:=Z0C (hp t ht) hi
 unfold pA; omega
theorem ty_b (h:Rel Gl Hl n (oA Ord) (kA Ord n) (pA Pm) (rA Ord Pm n)) {t k:Nat} (ht:t<n) (hk:k<3):0<=ty (pA Pm t 0:Nat) (pA Pm t (k+1):Nat)/\ty (pA Pm t 0:Nat) (pA Pm t (k+1):Nat)<3:=by
 have h0:=h.pl t 0 ht qO
 have h1:=h.pl t (k+1) ht qO
 have h2:=h.ne ht (i:=0) (j:=k+1) qO qO qO
 exact Z4s qO qO qO qO qO
theorem Zhm (hp:∀ t,t<n->Z0i Pm t ∈ p24) (h:Rel Gl Hl n (oA Ord) (kA Ord n) (pA Pm) (rA Ord Pm n)):Zon n (uL V Ord Pm n) V (oA Ord) (pA Pm):=fun t f i ht hf hi hne=>by
 have r:=Z4s (i:=(i:Int)) (f:=(f:Int)) qO qO qO qO qO
 have m:=ty_mv (hp t ht) hi hf hne
 rw [pz hp ht hi,pz hp ht hf,pz hp ht (i:=0) qO,pz hp ht (i:=(ty (i:Nat) (f:Nat)).toNat+1) qO] at m
 have b:=ty_b h ht (k:=(ty (i:Nat) (f:Nat)).toNat) qO
 unfold Z5z
 rw [show 7*(t:Int)+i=((7*t+i:Nat):Int) by omega,show 7*(t:Int)+4+ty i f=((7*t+4+(ty (i:Nat) (f:Nat)).toNat:Nat):Int) by omega,Zhl V Ord Pm qO,Zhl V Ord Pm qO,Z9r _ _ hi,Z5U _ _ qO,m]
 congr 2
 · omega
theorem Zmm (hok:Z0w Gl n=true) (hG:Gl.length=n*20) (hok':Z0w Hl n=true) (hG':Hl.length=n*20) (hp:∀ t,t<n->Z0i Pm t ∈ p24) (h:Rel Gl Hl n (oA Ord) (kA Ord n) (pA Pm) (rA Ord Pm n)) (ha:Z5h Gl n V=true):Z5h Hl n (uL V Ord Pm n)=true:=by
 obtain ⟨a1,a2,a3,a4⟩:=Z2i.1 ha
 have hA:Zon n (uL V Ord Pm n) V (oA Ord) (pA Pm):=Zhm hp h
 refine Z2i.2 ⟨Z52 _ _ _ _,Zc8.2 fun j hj=>?_,fun t ht=>?_,Zmd hok' hG' fun t f i ht hf hi hne hg=>?_⟩
 · rw [Z52] at hj
   rw [Zhl V Ord Pm hj]
   exact Z5i a2 _
 · have e1:Zm4 (uL V Ord Pm n) t 7 0=nzC (Z58 (uL V Ord Pm n) t):=ZbT (by rw [Z52]; omega)
   have ho:=h.o t ht
   have e2:Zm4 V (oA Ord t) 7 0=nzC (Z58 V (oA Ord t)):=ZbT qO
   have q:=a3 _ ho
   unfold Zmc at q ⊢
   rw [decide_eq_true_eq,← e2] at q
   rw [decide_eq_true_eq,← e1]
   have w:∀ k:Nat,k<3->gi (uL V Ord Pm n) (7*t+4+k:Nat)=gi V (7*oA Ord t+4+(ty (pA Pm t 0:Nat) (pA Pm t (k+1):Nat)).toNat:Nat):=fun k hk=>by
    rw [Zhl V Ord Pm qO,Z5U _ _ hk]
   have w0:=w 0 qO
   have w1:=w 1 qO
   have w2:=w 2 qO
   have m:=Zjq (hp t ht)
   rw [pz hp ht (i:=0) qO,pz hp ht (i:=1) qO,pz hp ht (i:=2) qO,pz hp ht (i:=3) qO] at m
   simp only [List.mem_cons,List.not_mem_nil,or_false,Prod.mk.injEq] at m
   have c1:Zm4 (uL V Ord Pm n) t 7 0=(if gi (uL V Ord Pm n) (7*t+4+0:Nat) ≠ 0 then 1 else 0)+((if gi (uL V Ord Pm n) (7*t+4+1:Nat) ≠ 0 then 1 else 0)+(if gi (uL V Ord Pm n) (7*t+4+2:Nat) ≠ 0 then 1 else 0)):=by simp [Zm4,Int.add_assoc]
   have c2:Zm4 V (oA Ord t) 7 0=(if gi V (7*oA Ord t+4+0:Nat) ≠ 0 then 1 else 0)+((if gi V (7*oA Ord t+4+1:Nat) ≠ 0 then 1 else 0)+(if gi V (7*oA Ord t+4+2:Nat) ≠ 0 then 1 else 0)):=by simp [Zm4,Int.add_assoc]
   rw [c1,w0,w1,w2]
   rw [c2] at q
   obtain ⟨x0,hx0⟩:∃ x,(if gi V (7*oA Ord t+4+0:Nat) ≠ 0 then 1 else 0:Nat)=x:=⟨_,rfl⟩
   obtain ⟨x1,hx1⟩:∃ x,(if gi V (7*oA Ord t+4+1:Nat) ≠ 0 then 1 else 0:Nat)=x:=⟨_,rfl⟩
   obtain ⟨x2,hx2⟩:∃ x,(if gi V (7*oA Ord t+4+2:Nat) ≠ 0 then 1 else 0:Nat)=x:=⟨_,rfl⟩
   rw [hx0,hx1,hx2] at q
   rcases m with ⟨m0,m1,m2⟩ | ⟨m0,m1,m2⟩ | ⟨m0,m1,m2⟩ | ⟨m0,m1,m2⟩ | ⟨m0,m1,m2⟩ | ⟨m0,m1,m2⟩ <;> (rw [m0,m1,m2,show (0:Int).toNat=0 from rfl,show (1:Int).toNat=1 from rfl,show (2:Int).toNat=2 from rfl,hx0,hx1,hx2]; omega)
 · have hb:=h.hb t f ht hf hg
   have hn:=(not_congr (h.g t f ht hf)).1 hg
   have gg:=FGl.of hok' hG' ht hf hi hne hg
   rw [hA t f i ht hf hi hne,hA _ _ _ hb.1 (hb.2 f hf) (hb.2 i hi) gg.ne,h.u t f ht hf hg,h.j t f f ht hf hf hg,h.j t f i ht hf hi hg]
   exact Z7X hok hG a4 (h.o t ht) (h.pl t f ht hf) (h.pl t i ht hi) (h.ne ht hi hf hne) hn
theorem uL_sum (hp:∀ t,t<n->Z0i Pm t ∈ p24) (h:Rel Gl Hl n (oA Ord) (kA Ord n) (pA Pm) (rA Ord Pm n)) (hV:V.length=7*n):Z3O (uL V Ord Pm n)=Z3O V:=by
 rw [uL,Zar,Zn5 V,hV]
 have hs:∀ x,x<7*n -> ∃ t i,t<n/\((i<4/\x=7*t+i) ∨ (i<3/\x=7*t+4+i)):=fun x hx=>by
  by_cases e:x % 7<4
  · exact ⟨x / 7,x % 7,by omega,.inl ⟨e,by omega⟩⟩
  · exact ⟨x / 7,x % 7-4,by omega,.inr ⟨by omega,by omega⟩⟩
 have s1:∀ x,x<7*n->uM (oA Ord) (pA Pm) x<7*n:=fun x hx=>by
  obtain ⟨t,i,ht,⟨hi,rfl⟩ | ⟨hi,rfl⟩⟩:=hs x hx
  · rw [Z9r _ _ hi]
    have:=h.o t ht
    have:=h.pl t i ht hi
    omega
  · rw [Z5U _ _ hi]
    have:=h.o t ht
    have:=ty_b h ht hi
    omega
 have s2:∀ x,x<7*n->uM (kA Ord n) (rA Ord Pm n) x<7*n:=fun x hx=>by
  obtain ⟨t,i,ht,⟨hi,rfl⟩ | ⟨hi,rfl⟩⟩:=hs x hx
  · rw [Z9r _ _ hi]
    have:=h.k t ht
    have:=h.rl t i ht hi
    omega
  · rw [Z5U _ _ hi]
    have:=h.k t ht
    have h0:=h.rl t 0 ht qO
    have h1:=h.rl t (i+1) ht qO
    have h2:=h.sym.ne ht (i:=0) (j:=i+1) qO qO qO
    have:=Z4s (i:=((rA Ord Pm n t 0:Nat):Int)) (f:=((rA Ord Pm n t (i+1):Nat):Int)) qO qO qO qO qO
    omega
 have s3:∀ x,x<7*n->uM (kA Ord n) (rA Ord Pm n) (uM (oA Ord) (pA Pm) x)=x:=fun x hx=>by
  obtain ⟨t,i,ht,⟨hi,rfl⟩ | ⟨hi,rfl⟩⟩:=hs x hx
  · rw [Z9r _ _ hi,Z9r _ _ (h.pl t i ht hi),h.ko t ht,h.rp t i ht hi]
  · have b:=ty_b h ht hi
    rw [Z5U _ _ hi,Z5U _ _ qO,h.ko t ht]
    have e:=ty_inv (hp t ht) hi
    rw [pz hp ht (i:=0) qO,pz hp ht (i:=i+1) qO] at e
    have rz:∀ j,j<4->((rA Ord Pm n (oA Ord t) j:Nat):Int)=(inv (Z0i Pm t)).getD j 0:=fun j hj=>by
     have:=Z0C (Z8y (hp t ht)) hj
     rw [rA,h.ko t ht]; omega
    rw [rz 0 qO,rz _ qO,e]
    omega
 exact Z6b (h:=fun j=>gi V (j:Nat)) s1 s2 s3 (onto s1 s2 s3)
theorem uL_eul (hok:Z0w Gl n=true) (hG:Gl.length=n*20) (hok':Z0w Hl n=true) (hG':Hl.length=n*20) (hp:∀ t,t<n->Z0i Pm t ∈ p24) (h:Rel Gl Hl n (oA Ord) (kA Ord n) (pA Pm) (rA Ord Pm n)) (ha:Z5h Gl n V=true):Zom Hl n (uL V Ord Pm n)=Zom Gl n V:=by
 have a:=Z2i.1 ha
 have b:=Z2i.1 (Zmm hok hG hok' hG' hp h ha)
 have hA:Zon n (uL V Ord Pm n) V (oA Ord) (pA Pm):=Zhm hp h
 unfold Zom
 rw [Zht (ZdP h hok hG hok' hG' hA a.2.2.2),uL_sum hp h a.1,rel_sT h hok hG hok' hG' hA a.2.2.2 b.2.2.2]
end

theorem Z67.len {c0:Nat} {h:FH} {c:Nat} {v:Value} {n:Nat} {cs:List Value} (ha:Z67 c0 h c v n cs):Z1B v=some (.int .i64 n):=by
 obtain ⟨_,_,_,i,op,rfl,_⟩:=ha; rfl


def LkR (h:FH) (c0:Nat) (w:Value) (n:Nat) (C:List Int) (m:Nat) (Fl:List Int):Prop :=
 Z1B w=some (.int .i64 m) /\ ∀ i,i<m -> ∃ l p x,Fl[i]? = some x/\ixS 1 w (.int .i64 i)=some p/\(∃ b o,p = .pointer (some ⟨b,o,none⟩)/\b<256*c0)/\ld1 h p=some l/\SlI h c0 l 1 (7*n) (lkRow C n x)/\SlX h l 1 (7*n)
theorem ZdX {h h':FH} {c b o:Nat} (hs:Z0E c h h') (hb:b<256*c):ld1 h' (.pointer (some ⟨b,o,none⟩))=ld1 h (.pointer (some ⟨b,o,none⟩)):=by
 have:HeapC.get h' b=HeapC.get h b:=hs b hb
 simp only [ld1,Z2c,Option.bind_some,Z57,Z0k,this]
theorem LkR.same {h h':FH} {c0:Nat} {w:Value} {n:Nat} {C:List Int} {m:Nat} {Fl:List Int} (hr:LkR h c0 w n C m Fl) (hs:Z0E c0 h h'):LkR h' c0 w n C m Fl:=by
 obtain ⟨h1,h2⟩:=hr
 refine ⟨h1,fun i hi=>?_⟩
 obtain ⟨l,p,x,e1,e2,⟨b,o,rfl,e3⟩,e4,e5,e6⟩:=h2 i hi
 exact ⟨l,_,x,e1,e2,⟨b,o,rfl,e3⟩,(ZdX hs e3).trans e4,e5.same hs,SlX.keep e5 hs e6⟩

theorem Zat (a b:Value) (m:Nat) (A B:List Int) (h:FH) (c:Nat) (ha:SlI h c a 1 m A) (hb:SlI h c b 1 m B) (df:List Nat):∀ (k i:Nat),i+k=m →
 Ans (G (Z9Z none) [a,b,.bool false,.int .i64 i] h c df) fun r=>r.h=h/\r.c=c/\r.df=df/\((r.e = .exit 0 /\ ∀ j:Nat,i<=j->j<m->gi A j=gi B j) ∨ (r.e = .ret/\r.v 2 = .bool false /\ ∃ j:Nat,j<m/\gi A j ≠ gi B j)):=by
 intro k
 have o1:=ha.okV
 have o2:=hb.okV
 have la:=ha.len
 have hm:=ha.2.1
 induction k with
 | zero =>
  intro i hi
  obtain rfl:i=m:=by omega
  refine Ans.lpG rfl rfl (Z4Q ..) ?_
  unfold Z4i
  have fx:=la
  refine Ans.go ?_
  clear fx
  (have fx:=ai o1 o2; refine Ans.ex0 ?_; clear fx)
  exact ⟨rfl,rfl,rfl,.inl ⟨rfl,fun j h1 h2=>by omega⟩⟩
 | succ k ih =>
  intro i hi
  have l1:=ha.rdi i qO qO
  have l2:=hb.rdi i qO qO
  simp only [Int.toNat_natCast] at l1 l2
  obtain ⟨x,hx⟩:∃ x,gi A i=x:=⟨_,rfl⟩
  obtain ⟨y,hy⟩:∃ y,gi B i=y:=⟨_,rfl⟩
  rw [hx] at l1
  rw [hy] at l2
  have him:(i:Int)<m:=by omega
  refine Ans.lpG rfl rfl (Z4Q ..) ?_
  unfold Z4i
  by_cases e:x=y
  · have fx:=ai la (ai ha.ixs1 (ai hb.ixs1 (ai l1 l2)))
    refine Ans.go ?_
    clear fx
    (have fx:=ai o1 o2; refine Ans.nx0 ?_; clear fx)
    refine (ih (i+1) qO).mono ?_
    rintro r ⟨q1,q2,q3,q4⟩
    refine ⟨q1,q2,q3,q4.imp (fun ⟨a,b⟩=>⟨a,fun j h1 h2=>?_⟩) id⟩
    by_cases ej:j=i
    · rw [ej,hx,hy,e]
    · exact b j qO h2
  · have fx:=ai la (ai ha.ixs1 (ai hb.ixs1 (ai l1 l2)))
    refine Ans.go ?_
    clear fx
    (have fx:=ai o1 o2; refine Ans.rt0 ?_; clear fx)
    exact ⟨rfl,rfl,rfl,.inr ⟨rfl,rfl,i,by omega,by rw [hx,hy]; exact e⟩⟩
theorem gi_ext {A B:List Int} (hl:A.length=B.length) (h:∀ j:Nat,j<A.length->gi A j=gi B j):A=B:=by
 refine List.ext_getElem hl fun j h1 h2=>?_
 have:=h j h1
 rw [Z3U,Z3U,List.getD_eq_getElem?_getD,List.getD_eq_getElem?_getD,List.getElem?_eq_getElem h1,List.getElem?_eq_getElem h2] at this
 exact this
theorem Zcd (a b:Value) (m n:Nat) (A B:List Int) (h:FH) (c:Nat) (df:List Nat) (ha:SlI h c a 1 m A) (hb:SlI h c b 1 n B) :
 G (.fn 21) [a,b] h c df=some ⟨.ret,[.bool (decide (A=B))],h,c,[]⟩:=by
 refine Z0u (fun r e=>f21_go e) (by simp) ?_
 unfold ZiQ
 have la:=ha.len
 have lb:=hb.len
 have hA:=ha.1
 have hB:=hb.1
 by_cases e:m=n
 · subst e
   obtain ⟨⟨re,rv,rh,rc,rd⟩,hr,r1,r2,r3,r4⟩:=Zat a b m A B h (c+1+1+1) (ha.mono qO) (hb.mono qO) [] m 0 qO
   simp only at r1 r2 r3 r4
   subst r1 r2 r3
   simp only [Int.ofNat_eq_natCast,Int.cast_ofNat_Int] at hr
   rcases r4 with ⟨rfl,r5⟩ | ⟨rfl,r5,j,j1,j2⟩
   · have:A=B:=gi_ext qO (fun j hj=>r5 j qO qO)
     rw [decide_eq_true this]
     have fx:=ai la (ai lb hr)
     refine Ans.go ?_
     clear fx
     exact Ans.pure rfl (by simp)
   · have:¬ A=B:=fun e=>j2 (by rw [e])
     rw [decide_eq_false this]
     have fx:=ai la (ai lb hr)
     refine Ans.go ?_
     clear fx
     exact Ans.pure r5 (by simp)
 · have:¬ A=B:=fun h=>e (by rw [h] at hA; omega)
   rw [decide_eq_false this]
   have e':¬ ((m:Int)=n):=by omega
   have fx:=ai la lb
   refine Ans.go ?_
   clear fx
   exact Ans.pure rfl (by simp)

def RwA (h:FH) (c:Nat) (v:Value) (m w:Nat) (L:Nat->List Int):Prop :=
 OkV c v/\Z1B v=some (.int .i64 m) /\ ∀ i,i<m -> ∃ x b o,ixS 1 v (.int .i64 i)=some (.pointer (some ⟨b,o,none⟩))/\b<256*c/\ld1 h (.pointer (some ⟨b,o,none⟩))=some x/\SlI h c x 1 w (L i)
theorem RwA.same {h h':FH} {c:Nat} {v:Value} {m w:Nat} {L:Nat->List Int} (a:RwA h c v m w L) (hs:Z0E c h h'):RwA h' c v m w L:=by
 obtain ⟨a0,a1,a2⟩:=a
 refine ⟨a0,a1,fun i hi=>?_⟩
 obtain ⟨x,b,o,e1,e2,e3,e4⟩:=a2 i hi
 exact ⟨x,b,o,e1,e2,(ZdX hs e2).trans e3,e4.same hs⟩
theorem RwA.mono {h:FH} {c c':Nat} {v:Value} {m w:Nat} {L:Nat->List Int} (a:RwA h c v m w L) (hc:c<=c'):RwA h c' v m w L:=by
 obtain ⟨a0,a1,a2⟩:=a
 refine ⟨a0.mono hc,a1,fun i hi=>?_⟩
 obtain ⟨x,b,o,e1,e2,e3,e4⟩:=a2 i hi
 exact ⟨x,b,o,e1,by omega,e3,e4.mono hc⟩
theorem RwA.nil (h:FH) (c w:Nat) (L:Nat->List Int):RwA h c (.slice none 0 0) 0 w L:=⟨OkV.sl0 _ _ _,rfl,fun i hi=>by omega⟩

theorem short1 (v:Value) (nv:Nat) (sb:Nat) (h:FH) (c:Nat) (hsb:sb<256*c) (hh:Z07 h sb [v]) (h1:Z1B v=some (.int .i64 nv)) :
 callF G 18 [.slice (some ⟨sb,0,none⟩) 1 1] h c=some (.bool (decide (nv<=50)),h,c):=by
 have:=ZjA [v] (fun j=>nv) sb h c [] hsb hh (by simp) (fun j hj=>by
  match j,hj with
  | 0,_=>exact h1)
 have e:((List.range [v].length).all fun j=>decide (nv<=50))=decide (nv<=50):=by
  show ((List.range 1).all fun j=>decide (nv<=50))=_
  simp [List.range_succ]
 rw [e] at this
 exact Z0b this

structure UI (v so sp:Value) (n:Nat) (V Ord Pm:List Int) (cm ub:Nat) (h:FH):Prop where
 hv:SlI h cm v 1 (7*n) V
 ho:SlI h cm so 1 n Ord
 hp:SlI h cm sp 4 n Pm
 ub:256*cm<=ub
theorem UI.set {v so sp:Value} {n:Nat} {V Ord Pm:List Int} {cm ub:Nat} {h:FH} (a:UI v so sp n V Ord Pm cm ub h) (X:List Int):UI v so sp n V Ord Pm cm ub (HeapC.set h ub (.cells false none (ints X))):=by
 have s:Z0E cm h (HeapC.set h ub (.cells false none (ints X))):=fun b hb=>by
  have:=a.ub
  rw [Z0r,if_neg qO]
 exact ⟨a.hv.same s,a.ho.same s,a.hp.same s,a.ub⟩
theorem UI.newB {v so sp:Value} {n:Nat} {V Ord Pm:List Int} {cm ub:Nat} {h:FH} (a:UI v so sp n V Ord Pm cm ub h) {pb:Nat} (hpb:256*cm<=pb) (cs:List Value):UI v so sp n V Ord Pm cm ub (newB h pb cs):=by
 have s:Z0E cm h (Go.Ab.newB h pb cs):=fun b hb=>by
  rw [Z06,if_neg qO]
 exact ⟨a.hv.same s,a.ho.same s,a.hp.same s,a.ub⟩
theorem u4_in (v so sp x4 x9:Value) (n:Nat) (V Ord Pm:List Int) (h0:FH) (cm c ub pb t:Nat) (df:List Nat) (a:UI v so sp n V Ord Pm cm ub h0) (hO:OrdA Ord n) (hP:∀ t,t<n->Z0i Pm t ∈ p24) (hn:n<=1000) (ht:t<n) (hcm:cm<=c) (hub:ub<256*c) (hpb:pb<256*c) (hne:pb ≠ ub) (hg:Z07 h0 pb (ints (Z0i Pm t))) (o4:OkV c x4) (o9:OkV c x9) :
 ∀ (r i:Nat) (X:List Int),i+r=4->X.length=7*n->(∀ j,j<7*t+i->X.getD j 0=gi V (uM (oA Ord) (pA Pm) j:Nat)) →
 Ans (G (Zfc none) [v,so,sp,x4,x9,.slice (some ⟨ub,0,none⟩) (7*n) (7*n),.int .i64 t,ptrTo pb,.int .i64 i] (HeapC.set h0 ub (.cells false none (ints X))) c df) fun q=>∃ Y,q=⟨.exit 2,[v,so,sp,x4,x9,.slice (some ⟨ub,0,none⟩) (7*n) (7*n),.int .i64 t,ptrTo pb,.int .i64 4],HeapC.set h0 ub (.cells false none (ints Y)),c,df⟩/\Y.length=7*n /\ ∀ j,j<7*t+4->Y.getD j 0=gi V (uM (oA Ord) (pA Pm) j:Nat):=by
 intro r
 have o1:=(a.hv.mono hcm).okV
 have o2:=(a.ho.mono hcm).okV
 have o3:=(a.hp.mono hcm).okV
 induction r with
 | zero =>
  intro i X hi hX hf
  obtain rfl:i=4:=by omega
  refine Ans.lpG rfl rfl (Z8J ..) ?_
  unfold ZaZ
  have fx:=True.intro
  refine Ans.go ?_
  clear fx
  (have fx:=ai o1 (ai o2 (ai o3 (ai o4 (ai o9 (ai hub hpb))))); refine Ans.ex0 ?_; clear fx)
  exact ⟨X,rfl,hX,hf⟩
 | succ r ih =>
  intro i X hi hX hf
  have aX:=a.set X
  obtain ⟨H,hH⟩:∃ H,HeapC.set h0 ub (.cells false none (ints X))=H:=⟨_,rfl⟩
  rw [hH] at aX
  have fH:H.f ub=some (.cells false none (ints X)):=by rw [← hH,Z0r,if_pos rfl]
  have gH:Z07 H pb (ints (Z0i Pm t)):=by
   obtain ⟨ro,op,e⟩:=hg
   refine ⟨ro,op, ?_⟩
   show H.f pb=_
   rw [← hH,Z0r,if_neg hne]
   exact e
  have hpl:=Z5Z (hP t ht)
  have xz:=hO.oz t ht
  have xl:=hO.o t ht
  have yz:=pz hP ht (i:=i) qO
  have yl:pA Pm t i<4:=by have:=Z0C (hP t ht) (i:=i) qO; omega
  have l1:=aX.ho.rdi t qO qO
  simp only [Int.toNat_natCast] at l1
  rw [Z3U,xz] at l1
  have l2:ld1 H (.pointer (some ⟨pb,i,none⟩))=some (.int .i64 (pA Pm t i)):=by
   rw [Z03 gH,ints_getD _ _ qO,yz]
  have l3:=aX.hv.rdi (7*(oA Ord t:Int)+(pA Pm t i:Int)) qO qO
  have e3:gi V (7*(oA Ord t:Int)+(pA Pm t i:Int))=gi V (uM (oA Ord) (pA Pm) (7*t+i):Nat):=by
   rw [Z9r _ _ qO]
   congr 1
  obtain ⟨Z,hZ⟩:∃ Z,gi V (7*(oA Ord t:Int)+(pA Pm t i:Int))=Z:=⟨_,rfl⟩
  rw [hZ] at l3 e3
  have hk:=ih (i+1) (X.set (7*t+i) Z) qO (by simp [hX]) (fun j hj=>by
   rw [Z2h]
   by_cases e:7*t+i=j
   · rw [if_pos ⟨e,by omega⟩,e3,e]
   · rw [if_neg (fun q=>e q.1)]; exact hf j qO)
  have hw:stN H 1 (.pointer (some ⟨ub,7*t+i,none⟩)) (.int .i64 Z)=some (HeapC.set H ub (.cells false none (ints (X.set (7*t+i) Z)))):=by
   rw [Z1z (show HeapC.get H ub=_ from fH) (by simp; omega) rfl rfl,Z2r]
  have e7:(7*(t:Int)+i).toNat=7*t+i:=by omega
  obtain ⟨x,hx⟩:∃ x,oA Ord t=x:=⟨_,rfl⟩
  obtain ⟨y,hy⟩:∃ y,pA Pm t i=y:=⟨_,rfl⟩
  rw [hx] at l1 l3 xl
  rw [hy] at l2 l3 yl
  rw [hH]
  refine Ans.lpG rfl rfl (Z8J ..) ?_
  unfold ZaZ
  have fx:=ai aX.ho.ixs1 (ai l1 (ai l2 (ai aX.hv.ixs1 (ai l3 (ai e7 hw)))))
  refine Ans.go ?_
  clear fx
  (have fx:=ai o1 (ai o2 (ai o3 (ai o4 (ai o9 (ai hub hpb))))); refine Ans.nxB (B:=HeapC.set H ub (.cells false none (ints (X.set (7*t+i) Z)))) ?_ ?_; exact (Z3I.set hub (Z1D.ints _ _) (Z3I.refl _ _)); clear fx)
  rw [← hH,set_set]
  exact hk
theorem u4_in2 (v so sp x4 x9:Value) (n:Nat) (V Ord Pm:List Int) (h0:FH) (cm c ub pb t:Nat) (df:List Nat) (a:UI v so sp n V Ord Pm cm ub h0) (hO:OrdA Ord n) (hP:∀ t,t<n->Z0i Pm t ∈ p24) (hn:n<=1000) (ht:t<n) (hcm:cm<=c) (hub:ub<256*c) (hpb:pb<256*c) (hne:pb ≠ ub) (hg:Z07 h0 pb (ints (Z0i Pm t))) (o4:OkV c x4) (o9:OkV c x9) :
 ∀ (r i:Nat) (X:List Int),i+r=3->X.length=7*n->(∀ j,j<7*t+4+i->X.getD j 0=gi V (uM (oA Ord) (pA Pm) j:Nat)) →
 Ans (G (Zfb none) [v,so,sp,x4,x9,.slice (some ⟨ub,0,none⟩) (7*n) (7*n),.int .i64 t,ptrTo pb,.int .i64 i] (HeapC.set h0 ub (.cells false none (ints X))) c df) fun q=>∃ Y,q=⟨.exit 4,[v,so,sp,x4,x9,.slice (some ⟨ub,0,none⟩) (7*n) (7*n),.int .i64 t,ptrTo pb,.int .i64 3],HeapC.set h0 ub (.cells false none (ints Y)),c,df⟩/\Y.length=7*n /\ ∀ j,j<7*(t+1)->Y.getD j 0=gi V (uM (oA Ord) (pA Pm) j:Nat):=by
 intro r
 have o1:=(a.hv.mono hcm).okV
 have o2:=(a.ho.mono hcm).okV
 have o3:=(a.hp.mono hcm).okV
 induction r with
 | zero =>
  intro i X hi hX hf
  obtain rfl:i=3:=by omega
  refine Ans.lpG rfl rfl (Z8I ..) ?_
  unfold ZaY
  have fx:=True.intro
  refine Ans.go ?_
  clear fx
  (have fx:=ai o1 (ai o2 (ai o3 (ai o4 (ai o9 (ai hub hpb))))); refine Ans.ex0 ?_; clear fx)
  exact ⟨X,rfl,hX,fun j hj=>hf j qO⟩
 | succ r ih =>
  intro i X hi hX hf
  have aX:=a.set X
  obtain ⟨H,hH⟩:∃ H,HeapC.set h0 ub (.cells false none (ints X))=H:=⟨_,rfl⟩
  rw [hH] at aX
  have fH:H.f ub=some (.cells false none (ints X)):=by rw [← hH,Z0r,if_pos rfl]
  have gH:Z07 H pb (ints (Z0i Pm t)):=by
   obtain ⟨ro,op,e⟩:=hg
   refine ⟨ro,op, ?_⟩
   show H.f pb=_
   rw [← hH,Z0r,if_neg hne]
   exact e
  have hpl:=Z5Z (hP t ht)
  have xz:=hO.oz t ht
  have xl:=hO.o t ht
  have yz:=pz hP ht (i:=0) qO
  have zz:=pz hP ht (i:=i+1) qO
  have yl:pA Pm t 0<4:=by have:=Z0C (hP t ht) (i:=0) qO; omega
  have zl:pA Pm t (i+1)<4:=by have:=Z0C (hP t ht) (i:=i+1) qO; omega
  have yn:pA Pm t 0 ≠ pA Pm t (i+1):=by have:=Znk (hP t ht) (i:=0) (j:=i+1) qO qO qO; omega
  have l1:=aX.ho.rdi t qO qO
  simp only [Int.toNat_natCast] at l1
  rw [Z3U,xz] at l1
  have l2:ld1 H (.pointer (some ⟨pb,0,none⟩))=some (.int .i64 (pA Pm t 0)):=by
   rw [Z03 gH,ints_getD _ _ qO,yz]
  have l2':ld1 H (.pointer (some ⟨pb,i+1,none⟩))=some (.int .i64 (pA Pm t (i+1))):=by
   rw [Z03 gH,ints_getD _ _ qO,zz]
  have ct:=fun c'=>Z0b (Zn3 (pA Pm t 0) (pA Pm t (i+1)) H c' [] yl zl yn)
  have tb:=Z4s (i:=((pA Pm t 0:Nat):Int)) (f:=((pA Pm t (i+1):Nat):Int)) qO qO qO qO qO
  have l3:=aX.hv.rdi (7*(oA Ord t:Int)+4+ty (pA Pm t 0:Nat) (pA Pm t (i+1):Nat)) qO qO
  have e3:gi V (7*(oA Ord t:Int)+4+ty (pA Pm t 0:Nat) (pA Pm t (i+1):Nat))=gi V (uM (oA Ord) (pA Pm) (7*t+4+i):Nat):=by
   rw [Z5U _ _ qO]
   congr 1
   omega
  obtain ⟨Z,hZ⟩:∃ Z,gi V (7*(oA Ord t:Int)+4+ty (pA Pm t 0:Nat) (pA Pm t (i+1):Nat))=Z:=⟨_,rfl⟩
  rw [hZ] at l3 e3
  have hk:=ih (i+1) (X.set (7*t+4+i) Z) qO (by simp [hX]) (fun j hj=>by
   rw [Z2h]
   by_cases e:7*t+4+i=j
   · rw [if_pos ⟨e,by omega⟩,e3,e]
   · rw [if_neg (fun q=>e q.1)]; exact hf j qO)
  have hw:stN H 1 (.pointer (some ⟨ub,7*t+4+i,none⟩)) (.int .i64 Z)=some (HeapC.set H ub (.cells false none (ints (X.set (7*t+4+i) Z)))):=by
   rw [Z1z (show HeapC.get H ub=_ from fH) (by simp; omega) rfl rfl,Z2r]
  have e7:(7*(t:Int)+4+i).toNat=7*t+4+i:=by omega
  obtain ⟨x,hx⟩:∃ x,oA Ord t=x:=⟨_,rfl⟩
  obtain ⟨y,hy⟩:∃ y,pA Pm t 0=y:=⟨_,rfl⟩
  obtain ⟨z,hz⟩:∃ z,pA Pm t (i+1)=z:=⟨_,rfl⟩
  rw [hx] at l1 l3 xl
  rw [hy] at l2 l3 ct tb
  rw [hz] at l2' l3 ct tb
  obtain ⟨T,hT⟩:∃ T,ty (y:Nat) (z:Nat)=T:=⟨_,rfl⟩
  rw [hT] at l3 ct tb
  rw [hH]
  refine Ans.lpG rfl rfl (Z8I ..) ?_
  unfold ZaY
  have fx:=ai aX.ho.ixs1 (ai l1 (ai l2 (ai l2' (ai ct (ai aX.hv.ixs1 (ai l3 (ai e7 (ai hw Z6L))))))))
  refine Ans.go ?_
  clear fx
  (have fx:=ai o1 (ai o2 (ai o3 (ai o4 (ai o9 (ai hub hpb))))); refine Ans.nxB (B:=HeapC.set H ub (.cells false none (ints (X.set (7*t+4+i) Z)))) ?_ ?_; exact (Z3I.set hub (Z1D.ints _ _) (Z3I.refl _ _)); clear fx)
  rw [← hH,set_set]
  exact hk
theorem Zn2 (v so sp x4 x9:Value) (n:Nat) (V Ord Pm:List Int) (h0:FH) (cm c ub:Nat) (df:List Nat) (a:UI v so sp n V Ord Pm cm ub h0) (hO:OrdA Ord n) (hP:∀ t,t<n->Z0i Pm t ∈ p24) (hn:n<=1000) (hcm:cm<=c) (hub:ub<256*c) (o4:OkV c x4) (o9:OkV c x9) :
 ∀ (r t:Nat) (X:List Int),t+r=n->X.length=7*n->(∀ j,j<7*t->X.getD j 0=gi V (uM (oA Ord) (pA Pm) j:Nat)) →
 Ans (G (Zfd none) [v,so,sp,x4,x9,.slice (some ⟨ub,0,none⟩) (7*n) (7*n),.int .i64 t] (HeapC.set h0 ub (.cells false none (ints X))) c df) fun q=>q=⟨.exit 0,[v,so,sp,x4,x9,.slice (some ⟨ub,0,none⟩) (7*n) (7*n),.int .i64 n],HeapC.set h0 ub (.cells false none (ints (uL V Ord Pm n))),c,df⟩:=by
 intro r
 have o1:=(a.hv.mono hcm).okV
 have o2:=(a.ho.mono hcm).okV
 have o3:=(a.hp.mono hcm).okV
 have lo:=a.ho.len
 induction r with
 | zero =>
  intro t X ht hX hf
  obtain rfl:t=n:=by omega
  have e:X=uL V Ord Pm t:=Zi5 hX (Z52 _ _ _ _) fun k hk=>by
   have:=Zhl V Ord Pm hk
   rw [Z3U] at this
   rw [hf k hk,this]
  rw [e]
  refine Ans.lpG rfl rfl (Z8K ..) ?_
  unfold Zb0
  have fx:=lo
  refine Ans.go ?_
  clear fx
  (have fx:=ai o1 (ai o2 (ai o3 (ai o4 (ai o9 hub)))); refine Ans.ex0 ?_; clear fx)
  rfl
 | succ r ih =>
  intro t X ht hX hf
  have hpl:=Z5Z (hP t qO)
  have ht':t<n:=by omega
  obtain ⟨pb,hpb⟩:∃ pb,256*(c+1)+4=pb:=⟨_,rfl⟩
  have a0:=a.newB (pb:=pb) qO (ints (Z0i Pm t))
  have hcomm:newB (HeapC.set h0 ub (.cells false none (ints X))) pb (ints (Z0i Pm t))=HeapC.set (newB h0 pb (ints (Z0i Pm t))) ub (.cells false none (ints X)):=by
   apply FH.ext; intro j
   rw [Z06,Z0r,Z0r,Z06]
   by_cases e:j=pb
   · rw [if_pos e,if_neg qO,if_pos e]
   · rw [if_neg e,if_neg e]
  obtain ⟨q1,hq1,Y,rfl,y1,y2⟩:=u4_in v so sp x4 x9 n V Ord Pm (newB h0 pb (ints (Z0i Pm t))) cm (c+1+1+1) ub pb t df a0 hO hP hn ht' qO qO qO qO (Z07.newB_same _ _ _) (o4.mono qO) (o9.mono qO) 4 0 X qO hX (fun j hj=>hf j qO)
  obtain ⟨q2,hq2,Z,rfl,z1,z2⟩:=u4_in2 v so sp x4 x9 n V Ord Pm (newB h0 pb (ints (Z0i Pm t))) cm (c+1+1+1+1) ub pb t df a0 hO hP hn ht' qO qO qO qO (Z07.newB_same _ _ _) (o4.mono qO) (o9.mono qO) 3 0 Y qO y1 (fun j hj=>y2 j qO)
  have hk:=ih (t+1) Z qO z1 z2
  simp only [Int.ofNat_eq_natCast,Int.cast_ofNat_Int] at hq1 hq2
  have aX:=a.set X
  obtain ⟨H,hH⟩:∃ H,HeapC.set h0 ub (.cells false none (ints X))=H:=⟨_,rfl⟩
  rw [hH] at aX hcomm
  rw [← hcomm] at hq1
  have l1:=aX.hp.perm t qO qO
  simp only [Int.toNat_natCast] at l1
  have hst:stN (newB H pb [.int .i64 0,.int .i64 0,.int .i64 0,.int .i64 0]) 4 (.pointer (some ⟨pb,0,none⟩)) (av (Z0i Pm t))=some (newB H pb (ints (Z0i Pm t))):=stN_all _ _ 4 _ _ hpl rfl
  have sB:Z0E c (HeapC.set H ub (.cells false none (ints Z))) (HeapC.set (newB h0 pb (ints (Z0i Pm t))) ub (.cells false none (ints Z))):=fun b hb=>by
   rw [← hH,set_set,Z0r,Z0r,Z06]
   split
   · rfl
   · rw [if_neg qO]
  rw [hH]
  refine Ans.lpG rfl rfl (Z8K ..) ?_
  unfold Zb0
  have fx:=ai lo (ai aX.hp.ixs (ai l1 (ai hpb (ai hst (ai hq1 hq2)))))
  refine Ans.go ?_
  clear fx
  (have fx:=ai o1 (ai o2 (ai o3 (ai o4 (ai o9 (ai hub sB))))); refine Ans.nxB (B:=HeapC.set H ub (.cells false none (ints Z))) ?_ ?_; exact (Z3I.set hub (Z1D.ints _ _) (Z3I.refl _ _)); clear fx)
  rw [← hH,set_set]
  exact hk

theorem ZfF {c0:Nat} {h:FH} {c:Nat} {v:Value} {n:Nat} {X:List Int} (ha:Z67 c0 h c v n (ints X)):SlC h v 1 n X:=by
 obtain ⟨h1,h2,h3,i,op,rfl,h5,h6,h7,h8⟩:=ha
 have hg:HeapC.get h i=some (.cells false op (ints X)):=h7
 have hl:X.length=n:=by simpa using h1
 have hb:Nat.ble (0+n*1) (ints X).length=true:=Nat.ble_eq_true_of_le (by simp [hl])
 simp only [SlC,Z0H,Z0Q,Z0k,hg,Option.bind_some,hb,cond_true,List.drop_zero]
 rw [List.take_of_length_le (by simp [hl])]
theorem ZdU (h:FH) (b:Nat) (cs:List Value):newB h b cs=HeapC.set h b (.cells false none cs):=by
 apply FH.ext; intro j
 rw [Z06,Z0r]
theorem Zne {h:FH} {c:Nat} {s:Value} {sz n:Nat} {L:List Int} (hs:SlI h c s sz n L) (K:FH) (b:Nat):stN (newB K b [.slice none 0 0]) 1 (.pointer (some ⟨b,0,none⟩)) (.agg #[s])=some (newB K b [s]):=by
 rw [st1_agg _ _ _ _ _ (by simp) hs.flat]; rfl
theorem Zhw {A B:List Int} (h:A.Perm B) (ha:A.Pairwise (· <= ·)) (hb:B.Pairwise (· <= ·)):A=B:=List.Perm.eq_of_pairwise (fun a b _ _ h1 h2=>Int.le_antisymm h1 h2) ha hb h
set_option maxHeartbeats 4000000 in
theorem Z5F (s v so sp:Value) (n nv a b:Nat) (Gl V Ord Pm:List Int) (h:FH) (c:Nat) (hs:SlI h c s 20 n Gl) (hv:SlI h c v 1 nv V) (ho:SlI h c so 1 a Ord) (hp:SlI h c sp 4 b Pm) (hx:SlX h v 1 nv) :
 Ans (G (.fn 4) [.agg #[s],v,so,sp] h c []) fun x=>x.e = .ret/\x.vs=[.bool true]:=by
 suffices hs:Ans (f4_S G (.agg #[s]) v so sp h c) fun x=>x.e = .ret/\x.vs=[.bool true] by
  obtain ⟨x,q1,q2⟩:=hs
  exact ⟨_,f4_go q1,by show (gcR h c [] x).e=_/\(gcR h c [] x).vs=_; rw [Znx,Zie]; exact q2⟩
 unfold f4_S
 rw [Z96 hs.flat,Z8T,Nat.add_zero]
 simp only [cond_true]
 obtain ⟨H,hH⟩:∃ H,H=newB h (256*c) [s]:=⟨_,rfl⟩
 have sH:Z0E c h H:=by rw [hH]; simp (disch:=omega)
 have hg:Z07 H (256*c) [s]:=by rw [hH]; exact Z07.newB_same _ _ _
 rw [← hH]
 clear hH
 have k0:=Zhy H
 have l1:=Z0F hg
 have lv:=hv.len
 have cs:=fun c' (hc:c<=c')=>Z0b (Zjy s n Gl H c' [] ((hs.same sH).mono hc))
 by_cases hn:n<=6
 case neg =>
  rw [decide_eq_false hn] at cs
  have fx:=ai k0 (ai l1 cs)
  refine Ans.go ?_
  clear fx
  exact .done ⟨rfl,rfl⟩
 rw [decide_eq_true hn] at cs
 have hbl:=Zjb hv
 obtain ⟨sb,hsb⟩:∃ sb,256*(c+1+1)+5=sb:=⟨_,rfl⟩
 obtain ⟨K,hK⟩:∃ K,newB H sb [v]=K:=⟨_,rfl⟩
 have sK:Z0E c h K:=by rw [← hK]; exact sH.trans (by intro b hb; rw [Z06,if_neg qO])
 have hgK:Z07 K (256*c) [s]:=by rw [← hK]; exact hg.newB_ne qO
 have hq':Z07 K sb [v]:=by rw [← hK]; exact Z07.newB_same _ _ _
 have ch:=fun c' (hc:c+1+1+1<=c')=>short1 v nv sb K c' qO hq' lv
 by_cases h50:nv<=50
 case neg =>
  rw [decide_eq_false h50] at ch
  have fx:=ai k0 (ai l1 (ai cs (ai hbl (ai hsb (ai hK ch)))))
  refine Ans.go ?_
  clear fx
  exact .done ⟨rfl,rfl⟩
 rw [decide_eq_true h50] at ch
 have lK:=Z0F hgK
 have ck:=fun c' (hc:c<=c')=>Z0b (Zj7 s v n nv Gl V K c' [] ((hs.same sK).mono hc) ((hv.same sK).mono hc) (SlX.keep hv sK hx) qO)
 by_cases hE:Zbq Gl n (Z5h Gl n V)=0
 case neg =>
  obtain ⟨E,hE'⟩:∃ E,Zbq Gl n (Z5h Gl n V)=E:=⟨_,rfl⟩
  rw [hE'] at ck hE
  have fx:=ai k0 (ai l1 (ai cs (ai hbl (ai hsb (ai hK (ai ch (ai lK ck)))))))
  refine Ans.go ?_
  clear fx
  exact .done ⟨rfl,rfl⟩
 rw [hE] at ck
 obtain ⟨w,H7,c7,e7,m7,t7,sw,bw⟩:=ZfL.callF (ZhI s so sp n a b Gl Ord Pm K (c+1+1+1+1) [] ((hs.same sK).mono qO) ((ho.same sK).mono qO) ((hp.same sK).mono qO))
 obtain ⟨wb,hwb⟩:∃ wb,256*(c+1+1+1)+7=wb:=⟨_,rfl⟩
 have w7:=Zne sw H7 wb
 by_cases hR:rnE Gl Ord Pm n a b=0
 case neg =>
  obtain ⟨R,hR'⟩:∃ R,rnE Gl Ord Pm n a b=R:=⟨_,rfl⟩
  rw [hR'] at e7 hR
  have fx:=ai k0 (ai l1 (ai cs (ai hbl (ai hsb (ai hK (ai ch (ai lK (ai ck (ai e7 (ai hwb w7))))))))))
  refine Ans.go ?_
  clear fx
  exact .done ⟨rfl,rfl⟩
 rw [hR] at e7
 obtain ⟨hr0,ha⟩:=ZbV hE
 obtain ⟨-,hok⟩:=Z6f hr0
 have hG:Gl.length=n*20:=hs.1
 have hord:Zg3 Ord Pm a b n=true:=by
  unfold rnE at hR
  rw [if_pos ⟨by omega,hok⟩] at hR
  split at hR
  · assumption
  · cases hR
 have hrn:rnN Gl Ord Pm n a b=n:=by unfold rnN; rw [if_pos ⟨by omega,hok,hord⟩]
 have hrr:rnR Gl Ord Pm n a b=rnL Gl Ord Pm (Z17 Ord n) n:=by unfold rnR; rw [if_pos ⟨by omega,hok,hord⟩]
 have hrk:=RnOk.of hG (by simpa using ho.1) hp.1 hok hord
 obtain ⟨rfl,rfl,hord2⟩:=ZaA.1 hord
 rw [hrn,hrr] at sw
 rw [hrn] at bw
 have hOA:=OrdA.of hrk hord2
 obtain ⟨hok',hrel⟩:=rn_all hrk hOA
 have hP:∀ t,t<b->Z0i Pm t ∈ p24:=fun t ht=>hrk.p24 ht
 have hVl:=(ZmU ha).1
 have hG':(rnL Gl Ord Pm (Z17 Ord b) b).length=b*20:=Z6N hrk b (Nat.le_refl _)
 have aU:=Zmm hok hG hok' hG' hP hrel ha
 have eU:=uL_eul hok hG hok' hG' hP hrel ha
 have pU:=ZdP hrel hok hG hok' hG' (Zhm (V:=V) hP hrel) (Z2i.1 ha).2.2.2
 have hUl:=Z52 V Ord Pm b
 have hr1:ZhL (rnL Gl Ord Pm (Z17 Ord b) b) b=0:=by
  unfold ZhL
  rw [if_pos ⟨by omega,hok'⟩,if_neg qO]
 have hE':Zbq (rnL Gl Ord Pm (Z17 Ord b) b) b true=0:=by
  unfold Zbq
  rw [if_pos hr1,if_pos rfl]
 have hnv:nv=7*b:=by have:=hv.1; omega
 subst hnv
 obtain ⟨U,hU⟩:∃ U,uL V Ord Pm b=U:=⟨_,rfl⟩
 obtain ⟨Hl,hHl⟩:∃ Hl,rnL Gl Ord Pm (Z17 Ord b) b=Hl:=⟨_,rfl⟩
 rw [hU] at aU eU pU hUl
 rw [hHl] at aU eU pU hE' hok' hG' sw
 obtain ⟨M,hM⟩:∃ M,newB H7 wb [w]=M:=⟨_,rfl⟩
 rw [hM] at w7
 have t7':Z0E (c+1) K M:=fun q hq=>by rw [← hM,Z06,if_neg qO]; exact t7 q qO
 have s7:Z0E c h M:=sK.trans (t7'.mono qO)
 have swM:SlI M c7 w 20 b Hl:=sw.keep fun h0=>by
  have:=bw h0
  rw [← hM,Z06,if_neg qO]
 have hwM:Z07 M wb [w]:=by rw [← hM]; exact Z07.newB_same _ _ _
 have hgM:Z07 M (256*c) [s]:=hgK.same qO t7'
 have mk:=Zcw 1 8 .i64 .i64 (7*b) qO qO
 rw [show ((7*b:Nat):Int)=7*(b:Int) by omega] at mk lv
 obtain ⟨ub,hub⟩:∃ ub,256*(c7+1)+2=ub:=⟨_,rfl⟩
 have ui:UI v so sp b V Ord Pm c ub M:=⟨hv.same s7,ho.same s7,hp.same s7,by omega⟩
 have hl:=Ans.eq (Zn2 v so sp (ptrTo (256*c)) (ptrTo wb) b V Ord Pm M c (c7+1+1+1) ub [] ui hOA hP qO qO qO (OkV.ptrTo qO) (OkV.ptrTo qO) b 0 (List.replicate (7*b) 0) qO (by simp) (fun j hj=>by omega))
 rw [← ZdU,← ZdU,hU] at hl
 simp only [Int.ofNat_eq_natCast,Int.cast_ofNat_Int] at hl
 obtain ⟨N,hN⟩:∃ N,newB M ub (ints U)=N:=⟨_,rfl⟩
 rw [hN] at hl
 have tN:Z0E (c7+1) M N:=fun q hq=>by rw [← hN,Z06,if_neg qO]
 have sN:Z0E c h N:=s7.trans (tN.mono qO)
 have fN:N.f ub=some (.cells false none (ints U)):=by rw [← hN,Z06,if_pos rfl]
 have sU:SlI N (c7+1+1) (.slice (some ⟨ub,0,none⟩) (7*b) (7*b)) 1 (7*b) U:=own_sl fN hUl qO qO
 have xU:SlX N (.slice (some ⟨ub,0,none⟩) (7*b) (7*b)) 1 (7*b):=by rw [← hN]; exact Zjz _ _ _ _
 have hgN:Z07 N (256*c) [s]:=hgM.same qO tN
 have hwN:Z07 N wb [w]:=hwM.same qO tN
 have lgN:=Z0F hgN
 have lwN:=Z0F hwN
 have swN:SlI N c7 w 20 b Hl:=swM.same (tN.mono qO)
 have ce:=fun c' (hc:c<=c')=>Z0b (Zfu s v b (7*b) Gl V N c' [] ((hs.same sN).mono hc) ((hv.same sN).mono hc) (SlX.keep hv sN hx) qO)
 have cf:=fun c' (hc:c7+1+1<=c')=>Z0b (Zfu w (.slice (some ⟨ub,0,none⟩) (7*b) (7*b)) b (7*b) Hl U N c' [] (swN.mono qO) (sU.mono hc) xU qO)
 unfold eulV at ce cf
 rw [hE,if_pos rfl] at ce
 rw [aU,hE',if_pos rfl,eU] at cf
 obtain ⟨EU,hEU⟩:∃ e,Zom Gl b V=e:=⟨_,rfl⟩
 rw [hEU] at ce cf
 obtain ⟨⟨re,rv,H8,c8,rd⟩,w8,p1,p2,p3,p4,p5⟩:=Z84 s v b (7*b) Gl V N (c7+1+1+1+1+1+1) [] ((hs.same sN).mono qO) ((hv.same sN).mono qO) (SlX.keep hv sN hx) qO
 simp only at p1 p2 p3 p4 p5
 subst p1 p2
 rw [hE] at p5
 rcases p5 with ⟨e,_⟩ | ⟨_,x,rfl,gx⟩
 · exact absurd rfl e
 have t8:Z0E (c7+1+1) N H8:=p4.mono qO
 have hg8:Z07 H8 (256*c) [s]:=hgN.same qO t8
 have hw8:Z07 H8 wb [w]:=hwN.same qO t8
 have lw8:=Z0F hw8
 have lg8:=Z0F hg8
 obtain ⟨⟨re,rv,H9,c9,rd⟩,w9,p1,p2,p3',p4',p5⟩:=Z84 w (.slice (some ⟨ub,0,none⟩) (7*b) (7*b)) b (7*b) Hl U H8 (c8+1) [] ((swN.same (t8.mono qO)).mono qO) ((sU.same t8).mono qO) (SlX.keep sU t8 xU) qO
 simp only at p1 p2 p3' p4' p5
 subst p1 p2
 rw [aU,hE'] at p5
 rcases p5 with ⟨e,_⟩ | ⟨_,y,rfl,gy⟩
 · exact absurd rfl e
 have d8:=Z0b w8
 have d9:=Z0b w9
 have t9:Z0E c8 H8 H9:=p4'.mono qO
 have lx:(edF Gl b).length<=6*b:=Z3z _ _
 have ly:(edF Hl b).length<=6*b:=Z3z _ _
 obtain ⟨⟨re,rv,H10,c10,rd⟩,w10,Y1,Z1,q1,q2,q3,q4,q5,q6⟩:=Zbz x (edF Gl b).length _ H9 (c9+1) [] ((gx.sl.same t9).mono qO) (SlC.keep gx.sl t9 (ZfF gx)) qO
 simp only [Rt.mk.injEq] at q1
 obtain ⟨rfl,rfl,-,-,rfl⟩:=q1
 have t10:Z0E (c9+1) H9 H10:=q3
 obtain ⟨⟨re,rv,H11,c11,rd⟩,w11,Y2,Z2,p1,p2,p3',p4,p5,p6⟩:=Zbz y (edF Hl b).length _ H10 c10 [] ((gy.sl.same (t10.mono qO)).mono (by simp only at q2; omega)) (SlC.keep gy.sl (t10.mono qO) (ZfF gy)) qO
 simp only [Rt.mk.injEq] at p1
 obtain ⟨rfl,rfl,-,-,rfl⟩:=p1
 simp only at q2 q3 q4 p2 p3' p4
 have d10:=Z0b w10
 have d11:=Z0b w11
 have hZ:Z1=Z2:=Zhw ((q5.trans pU.symm).trans p5.symm) q6 p6
 have ci:=fun c' (hc:c11<=c')=>Z0b (Zcd Y1 Y2 _ _ Z1 Z2 H11 c' [] ((q4.same p3').mono qO) (p4.mono hc))
 rw [decide_eq_true hZ] at ci
 have fx:=ai k0 (ai l1 (ai cs (ai hbl (ai hsb (ai hK (ai ch (ai lK (ai ck (ai e7 (ai hwb (ai w7 (ai lv (ai mk (ai hub (ai hl (ai lgN (ai lwN (ai ce (ai cf (ai d8 (ai lw8 (ai d9 (ai d10 (ai d11 ci))))))))))))))))))))))))
 refine Ans.go ?_
 clear fx
 exact .done ⟨rfl,rfl⟩
end Go.Proofs.Ytcnndelmnobigaa

namespace Go.Ab
open Go Go.ChangeShapes Go.RowKit
end Go.Ab

namespace Go.Proofs.Ytcnndelmnobigaa
open Go.ChangeShapes Go.WideShapes Go.ChangeAt Go.RowKit
open Go Go.Ab Go.Proofs
theorem Try.own:ownKnob Try.prog.godebug=none:=by kernel_rfl
theorem Try.laidOut:laidOutB Try.prog=true:=by kernel_rfl
theorem ZcB:Z4q P 3 1:=Z4q.int Try.underlying3 (by kernel_rfl)
theorem ZeN:Z4q P 39 4:=Z4q.array (n:=4) (z:=1) Try.underlying39 ZcB (by kernel_rfl)
theorem Zlr:Z4q P 41 5:=Z4q.struct2 (z0:=1) (z1:=4) Try.underlying41 ZcB ZeN rfl rfl (by kernel_rfl)
theorem Zny:Z4q P 42 20:=Z4q.array (n:=4) (z:=5) Try.underlying42 Zlr (by kernel_rfl)
theorem Zcu {H:Type} {enc:TypeId × Value->H} {W:World} {base:Nat} {v:Value} {d:DataW H} {ps:List MemPlace} (hval:Value.okWide P W .any base 24 v) (hd:DataW.Trod enc P W 0 (fun _=>true) true 24 v d ps) :
 ∃ s n Gl,v = .agg #[s]/\Z3M W s 20 n Gl :=
 Znj Try.underlying24 (by kernel_rfl) (by kernel_rfl) Try.underlying22 rfl rfl (by kernel_rfl) Zny qO hval hd
theorem Zmt {H:Type} {enc:TypeId × Value->H} {W:World} {base:Nat} {v:Value} {d:DataW H} {ps:List MemPlace} (hval:Value.okWide P W .any base 34 v) (hd:DataW.Trod enc P W 0 (fun _=>true) true 34 v d ps) :
 ∃ n Gl,Z3M W v 1 n Gl:=ZhQ (e:=3) (sz:=1) Try.underlying34 ZcB qO hval hd
theorem Zi6 {f:FuncId} {W:World} {A:FH} {μ:Mu} {xs ys:List Value} (hR:R μ A W) (hf:Z1N μ 1) (hro:∀ i m,μ i=some m->wrB (HeapC.get A i)=false) (hv:VRs μ xs ys) (h:Ans (G (.fn f) xs A 1 []) fun x=>x.e = .ret/\x.vs=[.bool true]) :
 Calls P f ys.toArray W (ZmW W):=by
 obtain ⟨x,hx,he,hvs⟩:=h
 refine (ZfV bk_ok ext_ok mixed hx hv hR hf).mono ?_
 rintro en w' ⟨u,v',μ',h1,h2,h3,hE⟩
 rw [hvs] at h1
 cases h1
 exact ⟨by rw [h2,h3.bool_left],hE.os,hE.tape,hE.output,hE.size,fun k hk=>hE.fr k hk (fun i m e hw=>by rw [hro i m e] at hw; cases hw)⟩
end Go.Proofs.Ytcnndelmnobigaa
