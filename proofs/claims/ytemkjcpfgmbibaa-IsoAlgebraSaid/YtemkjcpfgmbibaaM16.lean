/- Parts of a proof: AbPm AbRn D4 C5 D7 AbRow AbSub AbMat AbGrow AbUf AbUf2 AbFill. Conditions: none. -/
import Derived.Test.YtemkjcpfgmbibaaM15
import Derived.Test.YtemkjcpfgmbibaaM14
import Derived.Test.YtemkjcpfgmbibaaM7
import Derived.ProofKit
set_option linter.all false
set_option maxRecDepth 100000
namespace Go.Ab
open Go
def p24:List (List Int):=[[0,1,2,3],[0,1,3,2],[0,2,1,3],[0,2,3,1],[0,3,1,2],[0,3,2,1],[1,0,2,3],[1,0,3,2],[1,2,0,3],[1,2,3,0],[1,3,0,2],[1,3,2,0],[2,0,1,3],[2,0,3,1],[2,1,0,3],[2,1,3,0],[2,3,0,1],[2,3,1,0],[3,0,1,2],[3,0,2,1],[3,1,0,2],[3,1,2,0],[3,2,0,1],[3,2,1,0]]
theorem ZbM {p:List Int} (hp:p.length=4) (h:Z0n p=true):p ∈ p24:=by
 have hr:=Z1h h
 match p,hp with
 | [a,b,c,d],_ =>
  have ha:=hr a (by simp)
  have hb:=hr b (by simp)
  have hc:=hr c (by simp)
  have hd:=hr d (by simp)
  have:=ZeW (Q:=fun a b c d=>!Z0n [(a:Int),(b:Int),(c:Int),(d:Int)] || p24.contains [(a:Int),(b:Int),(c:Int),(d:Int)]) (by kernel_rfl)
   (a:=a.toNat) (b:=b.toNat) (c:=c.toNat) (d:=d.toNat) qO qO qO qO
  have ea:((a.toNat:Nat):Int)=a:=by omega
  have eb:((b.toNat:Nat):Int)=b:=by omega
  have ec:((c.toNat:Nat):Int)=c:=by omega
  have ed:((d.toNat:Nat):Int)=d:=by omega
  rw [ea,eb,ec,ed,h] at this
  simpa using this
theorem Zdg {Q:List Int->Bool} (h:p24.all Q=true) {p:List Int} (hp:p ∈ p24):Q p=true:=List.all_eq_true.1 h p hp
theorem Zmd {Q:List Int->List Int->Bool} (h:(p24.all fun p=>p24.all fun q=>Q p q)=true) {p q:List Int} (hp:p ∈ p24) (hq:q ∈ p24):Q p q=true:=List.all_eq_true.1 (List.all_eq_true.1 h p hp) q hq
theorem Z3m {p:List Int} (hp:p ∈ p24):Z0n p=true:=Zdg (Q:=Z0n) (by kernel_rfl) hp
theorem Z23 {p:List Int} (hp:p ∈ p24):p.length=4:=by simpa using Zdg (Q:=fun p=>p.length == 4) (by kernel_rfl) hp
theorem Z5i {p:List Int} (hp:p ∈ p24):inv p ∈ p24:=by simpa using Zdg (Q:=fun p=>p24.contains (inv p)) (by kernel_rfl) hp
theorem Z64 {p q:List Int} (hp:p ∈ p24) (hq:q ∈ p24):comp p q ∈ p24:=by simpa using Zmd (Q:=fun p q=>p24.contains (comp p q)) (by kernel_rfl) hp hq
theorem Zhj {p:List Int} (hp:p ∈ p24):inv (inv p)=p:=by simpa using Zdg (Q:=fun p=>inv (inv p) == p) (by kernel_rfl) hp
theorem Z8y {p q:List Int} (hp:p ∈ p24) (hq:q ∈ p24):inv (comp p q)=comp (inv q) (inv p):=by simpa using Zmd (Q:=fun p q=>inv (comp p q) == comp (inv q) (inv p)) (by kernel_rfl) hp hq
theorem Z1E {p:List Int} (hp:p ∈ p24) {i:Nat} (hi:i<4):0<=p.getD i 0/\p.getD i 0<4:=by
 have:=Zdg (Q:=fun p=>(List.range 4).all fun i=>decide (0<=p.getD i 0) && decide (p.getD i 0<4)) (by kernel_rfl) hp
 rw [List.all_eq_true] at this
 simpa using this i (by simpa using hi)
theorem ZlU {p:List Int} (hp:p ∈ p24) {i:Nat} (hi:i<4):(inv p).getD (p.getD i 0).toNat 0=i:=by
 have:=Zdg (Q:=fun p=>(List.range 4).all fun i=>decide ((inv p).getD (p.getD i 0).toNat 0=(i:Int))) (by kernel_rfl) hp
 rw [List.all_eq_true] at this
 simpa using this i (by simpa using hi)
theorem Z5F {p q:List Int} (hq:q.length=4) {i:Nat} (hi:i<4):(comp p q).getD i 0=p.getD (q.getD i 0).toNat 0:=by
 simp only [comp,List.getD_eq_getElem?_getD,List.getElem?_map]
 rw [List.getElem?_eq_getElem (by omega:i<q.length)]
 simp
theorem Z0l (p q:List Int):(comp p q).length=q.length:=by simp [comp]
theorem Za4 {p q r:List Int} (hq:q ∈ p24) (hr:r ∈ p24):comp (comp p q) r=comp p (comp q r):=by
 have hl:=Z23 hr
 apply List.ext_getElem?
 intro i
 by_cases hi:i<4
 · have e1:=Z5F (p:=comp p q) hl hi
   have e2:=Z5F (p:=p) (q:=comp q r) (by rw [Z0l,hl]) hi
   have e3:=Z5F (p:=q) hl hi
   have hg:=Z1E hr hi
   have e4:=Z5F (p:=p) (q:=q) (Z23 hq) (i:=(r.getD i 0).toNat) qO
   have:(comp (comp p q) r).getD i 0=(comp p (comp q r)).getD i 0:=by rw [e1,e4,e2,e3]
   rw [List.getElem?_eq_getElem (by rw [Z0l]; omega),List.getElem?_eq_getElem (by rw [Z0l,Z0l]; omega)]
   simp only [List.getD_eq_getElem?_getD] at this
   rw [List.getElem?_eq_getElem (by rw [Z0l]; omega),List.getElem?_eq_getElem (by rw [Z0l,Z0l]; omega)] at this
   simpa using this
 · rw [List.getElem?_eq_none (by rw [Z0l]; omega),List.getElem?_eq_none (by rw [Z0l,Z0l]; omega)]
theorem Z8o {Gl:List Int} {n t f:Nat} (h:Z0i Gl n t f=true) (ht:Z1d (Z06 Gl t f)<0):Z06 Gl t f=Z4O:=by
 unfold Z0i at h
 have:¬ (0<=Z1d (Z06 Gl t f)):=by omega
 simpa [this] using h
theorem Z2j {Gl:List Int} {n t f:Nat} (h:Z0i Gl n t f=true) (ht:¬ Z1d (Z06 Gl t f)<0) :
 Z1d (Z06 Gl t f)<n/\Z0n (Z0D (Z06 Gl t f))=true /\ ¬ (Z1d (Z06 Gl t f)=t/\(Z0D (Z06 Gl t f)).getD f 0=f) ∧
  Z06 Gl (Z1d (Z06 Gl t f)).toNat ((Z0D (Z06 Gl t f)).getD f 0).toNat=(t:Int)::inv (Z0D (Z06 Gl t f)):=by
 unfold Z0i at h
 have h0:Z06 Gl t f ≠ Z4O:=fun e=>ht (by rw [e]; decide)
 simp only [h0,decide_false,Bool.false_or,Bool.and_eq_true,decide_eq_true_eq,Bool.not_eq_true'] at h
 obtain ⟨⟨⟨⟨h1,h2⟩,h3⟩,h4⟩,h5⟩:=h
 refine ⟨h2,h3,fun ⟨a,b⟩=>?_,h5⟩
 rw [decide_eq_true a,decide_eq_true b] at h4
 cases h4
theorem Z2s {Gl:List Int} {n t f:Nat} (h:Z0Y Gl n=true) (ht:t<n) (hf:f<4):Z0i Gl n t f=true:=by
 have:=(Z3L Gl n).1 h (4*t+f) qO
 have e1:(4*t+f) / 4=t:=by omega
 have e2:(4*t+f) % 4=f:=by omega
 rwa [e1,e2] at this
def Z9q (c0:Nat) (h:FH) (c:Nat) (v:Value) (sz n:Nat) (L:List Int):Prop :=
 L.length=n*sz/\n<=9223372036854775807/\((v = .slice none 0 0/\n=0) ∨
  ∃ i,v = .slice (some ⟨i,0,none⟩) n n/\256*c0<=i/\i<256*c/\h.f i=some (.cells false (some sz) (ints L)))
theorem Z9q.nil (c0:Nat) (h:FH) (c sz:Nat):Z9q c0 h c (.slice none 0 0) sz 0 []:=⟨by simp,by omega,.inl ⟨rfl,rfl⟩⟩
theorem Z9q.flat {c0:Nat} {h:FH} {c:Nat} {v:Value} {sz n:Nat} {L:List Int} (ha:Z9q c0 h c v sz n L):Z08 v=true/\v.cells = #[v]:=by
 obtain ⟨_,_,⟨rfl,_⟩ | ⟨i,rfl,_⟩⟩:=ha <;> exact ⟨rfl,rfl⟩
theorem Z9q.sl {c0:Nat} {h:FH} {c:Nat} {v:Value} {sz n:Nat} {L:List Int} (ha:Z9q c0 h c v sz n L):SlI h c v sz n L:=by
 obtain ⟨h1,h2,⟨rfl,rfl⟩ | ⟨i,rfl,h3,h4,h5⟩⟩:=ha
 · exact ⟨h1,h2,none,0,rfl,.inl ⟨rfl,OkV.sl0 _ _ _⟩⟩
 · refine ⟨h1,h2,some ⟨i,0,none⟩,n,rfl,.inr ⟨i,0,ints L,rfl,h4,⟨false,some sz,h5⟩, ?_⟩⟩
   rw [List.drop_zero,List.take_of_length_le (by simp [h1])]
theorem Z9q.mono {c0:Nat} {h:FH} {c c':Nat} {v:Value} {sz n:Nat} {L:List Int} (hc:c<=c') (ha:Z9q c0 h c v sz n L):Z9q c0 h c' v sz n L:=by
 obtain ⟨h1,h2,h3 | ⟨i,rfl,h3,h4,h5⟩⟩:=ha
 · exact ⟨h1,h2,.inl h3⟩
 · exact ⟨h1,h2,.inr ⟨i,rfl,h3,by omega,h5⟩⟩
theorem Z9q.keep {c0:Nat} {h h':FH} {c:Nat} {v:Value} {sz n:Nat} {L:List Int} (hh:∀ i,256*c0<=i->i<256*c->h'.f i=h.f i) (ha:Z9q c0 h c v sz n L):Z9q c0 h' c v sz n L:=by
 obtain ⟨h1,h2,h3 | ⟨i,rfl,h3,h4,h5⟩⟩:=ha
 · exact ⟨h1,h2,.inl h3⟩
 · exact ⟨h1,h2,.inr ⟨i,rfl,h3,h4,by rw [hh i h3 h4,h5]⟩⟩
theorem Z9q.app {c0:Nat} {h:FH} {c c':Nat} {v:Value} {sz n:Nat} {L:List Int} (ha:Z9q c0 h c v sz n L) (X:List Int) (hX:X.length=sz) (hsz:0<sz) (by' b id:Nat) (hb:256*c<=b) (hid:256*c<=id) (hne:b ≠ id) (hc0:c0<=c)
 (hid':id<256*c') (hlim:(n+1)*(by'+1)<=17592186044416) :
 ∃ v' h',Z67 (newB h b (ints X)) id sz by' v (.slice (some ⟨b,0,none⟩) 1 1)=some (v',h')/\Z9q c0 h' c' v' sz (n+1) (L++X)/\Z0q c0 h h'/\v' = .slice (some ⟨id,0,none⟩) (n+1) (n+1):=by
 obtain ⟨h1,h2,h3⟩:=ha
 have hlim':Nat.ble ((n+1)*(by'+1)) 17592186044416=true:=Nat.ble_eq_true_of_le hlim
 have hsrc:Z0W (newB h b (ints X)) sz (.slice (some ⟨b,0,none⟩) 1 1)=some (ints X,1):=by
  have:Nat.ble (0+1*sz) (ints X).length=true:=Nat.ble_eq_true_of_le (by simp [hX])
  simp only [Z0W,Z17,Z0r,get_newB_same,Option.bind_some,this,cond_true,List.drop_zero]
  rw [List.take_of_length_le (by simp [hX])]
 have hn1:n+1<=17592186044416:=by
  have:(n+1)*1<=(n+1)*(by'+1):=Nat.mul_le_mul_left _ qO
  omega
 have hcap:Nat.ble (n+1) n=false:=by rw [Bool.eq_false_iff]; intro hh; have:=Nat.le_of_ble_eq_true hh; omega
 rcases h3 with ⟨rfl,rfl⟩ | ⟨i,rfl,h3,h4,h5⟩
 · have hL:L=[]:=List.eq_nil_of_length_eq_zero (by simpa using h1)
   subst hL
   refine ⟨_,HeapC.set (newB h b (ints X)) id (.cells false (some sz) (ints X)), ?_,⟨by simp [hX],by omega,.inr ⟨id,rfl,by omega,hid', ?_⟩⟩, ?_,rfl⟩
   · simp only [Z67,hsrc,Option.bind_some,appTo,hcap,cond_false,Z3u,hlim',Z4Q,Bool.and_self,cond_true,Nat.beq_refl,Nat.zero_add]
   · rw [Z0m,if_pos rfl]; rfl
   · intro j hj
     rw [Z0m,if_neg qO,Z0b,if_neg qO]
 · have hbi:i ≠ b:=by omega
   have hg:HeapC.get (newB h b (ints X)) i=some (.cells false (some sz) (ints L)):=by rw [get_newB_ne _ _ _ _ hbi]; exact h5
   have hr:Nat.ble (0+n*sz) (ints L).length=true:=Nat.ble_eq_true_of_le (by simp [h1])
   refine ⟨_,HeapC.set (HeapC.set (newB h b (ints X)) i .dead) id (.cells false (some sz) (((ints L).drop 0).take (n*sz)++ints X)), ?_,⟨?_,by omega,.inr ⟨id,rfl,by omega,hid', ?_⟩⟩, ?_,rfl⟩
   · simp only [Z67,hsrc,Option.bind_some,appTo,hcap,cond_false,Z3u,hlim',Z4Q,Bool.and_self,cond_true,Z17,Z0r,hg,hr,Nat.beq_refl,Bool.not_false,Bool.and_true]
   · simp [h1,hX,Nat.succ_mul]
   · rw [Z0m,if_pos rfl,List.drop_zero,List.take_of_length_le (by simp [h1]),Z4d]
   · intro j hj
     rw [Z0m,if_neg qO,Z0m,if_neg qO,Z0b,if_neg qO]
def Z1x (F:Nat->List Int):Nat->List Int
 | 0=>[]
 | f+1=>Z1x F f++F f
theorem Z0F {F:Nat->List Int} (hF:∀ f,f<4->(F f).length=5):∀ f,f<=4->(Z1x F f).length=5*f
 | 0,_=>rfl
 | f+1,h=>by
  rw [Z1x,List.length_append,Z0F hF f qO,hF f qO]; omega
def Z7z (F:Nat->List Int) (f:Nat):List Int:=Z1x F f++List.replicate (20-5*f) 0
theorem Z8e {F:Nat->List Int} (hF:∀ f,f<4->(F f).length=5) {f:Nat} (h:f<=4):(Z7z F f).length=20:=by
 rw [Z7z,List.length_append,Z0F hF f h,List.length_replicate]; omega
theorem ZbG (F:Nat->List Int):Z7z F 4=Z1x F 4:=by simp [Z7z]
theorem Z5z (l x:List Int) (o:Nat):Z0M (ints l) o (ints x)=ints (l.take o++x++l.drop (o+x.length)):=by
 simp [Z0M,ints,List.map_take,List.map_drop]
theorem Zdv {F:Nat->List Int} (hF:∀ f,f<4->(F f).length=5) {f:Nat} (hf:f<4) (X:List Int) (hX:X.length=5) :
 (Z7z F f).take (5*f)++X++(Z7z F f).drop (5*f+X.length)=Z1x F f++X++List.replicate (20-5*(f+1)) 0:=by
 have hl:=Z0F hF f qO
 rw [Z7z,List.take_append_of_le_length qO,List.take_of_length_le qO,List.drop_append,List.drop_eq_nil_of_le qO,List.nil_append,List.drop_replicate,hX,hl]
 congr 2
 omega
theorem ZiH {F:Nat->List Int} (hF:∀ f,f<4->(F f).length=5) {f:Nat} (hf:f<4) (Y X:List Int) (hY:Y.length=5) (hX:X.length=5) :
 (Z1x F f++Y++List.replicate (20-5*(f+1)) 0).take (5*f)++X++(Z1x F f++Y++List.replicate (20-5*(f+1)) 0).drop (5*f+X.length)=Z1x F f++X++List.replicate (20-5*(f+1)) 0:=by
 have hl:=Z0F hF f qO
 have h2:(Z1x F f++Y).length=5*f+X.length:=by simp [hl,hX,hY]
 have e1:(Z1x F f++Y++List.replicate (20-5*(f+1)) 0).take (5*f)=Z1x F f:=by
  rw [List.append_assoc,List.take_append_of_le_length qO,List.take_of_length_le qO]
 have e2:(Z1x F f++Y++List.replicate (20-5*(f+1)) 0).drop (5*f+X.length)=List.replicate (20-5*(f+1)) 0:=by
  rw [← h2,List.drop_left]
 rw [e1,e2]
end Go.Ab

namespace Go.Ab
open Go
def Zbt (Ord Pm:List Int) (n:Nat):Nat->Nat->List Bool->Bool
 | 0,_,_=>true
 | k+1,i,met=>if Ord.getD i 0<0 ∨ (n:Int)<=Ord.getD i 0 then false else if met.getD (Ord.getD i 0).toNat false=true then false else
  if Z0n (Z04 Pm i)=false then false else Zbt Ord Pm n k (i+1) (met.set (Ord.getD i 0).toNat true)
def Z48 (Ord Pm:List Int) (a b n:Nat):Bool:=decide (a=n) && decide (b=n) && Zbt Ord Pm n n 0 (List.replicate n false)
theorem Z55 {Ord Pm:List Int} {n:Nat}:∀ {k i:Nat} {met:List Bool},Zbt Ord Pm n k i met=true -> ∀ j,i<=j->j<i+k->0<=Ord.getD j 0/\Ord.getD j 0<n/\Z0n (Z04 Pm j)=true
 | 0,i,met,h,j,h1,h2=>by omega
 | k+1,i,met,h,j,h1,h2=>by
  unfold Zbt at h
  split at h
  · cases h
  split at h
  · cases h
  split at h
  · cases h
  rename_i q1 q2 q3
  by_cases hj:j=i
  · subst hj
    exact ⟨by omega,by omega,by simpa using q3⟩
  · exact Z55 h j qO qO
def Zmz (Ord:List Int) (n:Nat):Nat->Nat->List Bool->Bool
 | 0,_,_=>true
 | k+1,i,met=>if Ord.getD i 0<0 ∨ (n:Int)<=Ord.getD i 0 then false else if met.getD (Ord.getD i 0).toNat false=true then false else Zmz Ord n k (i+1) (met.set (Ord.getD i 0).toNat true)
theorem ZlR {Ord Pm:List Int} {n:Nat}:∀ {k i:Nat} {met:List Bool},(∀ j,i<=j->j<i+k->Z0n (Z04 Pm j)=true)->Zbt Ord Pm n k i met=Zmz Ord n k i met
 | 0,_,_,_=>rfl
 | k+1,i,met,h=>by
  unfold Zbt Zmz
  rw [ZlR (k:=k) (i:=i+1) (fun j h1 h2=>h j qO qO)]
  have:=h i qO qO
  simp [this]
def Z66 (Ord:List Int):Nat->Nat->List Int->List Int
 | 0,_,l=>l
 | k+1,i,l=>Z66 Ord k (i+1) (l.set (Ord.getD i 0).toNat i)
theorem Z7G (Ord:List Int):∀ (k i:Nat) (l:List Int),(Z66 Ord k i l).length=l.length
 | 0,_,_=>rfl
 | k+1,i,l=>by rw [Z66,Z7G Ord k]; simp
theorem Z8V (Ord:List Int) {n:Nat}:∀ (k i:Nat) (l:List Int),i+k<=n->(∀ x ∈ l,0<=x/\x<(n:Int)) -> ∀ x ∈ Z66 Ord k i l,0<=x/\x<(n:Int)
 | 0,_,_,_,h=>h
 | k+1,i,l,hn,h=>by
  refine Z8V Ord k (i+1) _ qO ?_
  intro x hx
  rcases List.mem_or_eq_of_mem_set hx with h1 | h1
  · exact h x h1
  · omega
def Z0o (Ord:List Int) (n:Nat):List Int:=Z66 Ord n 0 (List.replicate n 0)
theorem Z18 (Ord:List Int) (n:Nat):(Z0o Ord n).length=n:=by simp [Z0o,Z7G]
theorem Z28 (Ord:List Int) {n:Nat} (hn:0<n) (i:Nat) (hi:i<n):0<=(Z0o Ord n).getD i 0/\(Z0o Ord n).getD i 0<n:=by
 have:=Z8V Ord n 0 (List.replicate n 0) (n:=n) qO (fun x hx=>by
  have:=List.eq_of_mem_replicate hx; omega)
 have hl:i<(Z0o Ord n).length:=by rw [Z18]; exact hi
 have h2:=this (Z0o Ord n)[i] (List.getElem_mem hl)
 simpa [List.getD,List.getElem?_eq_getElem hl] using h2
def rnF (Gl Ord Pm Bk:List Int) (i f:Nat):List Int :=
 if Z1d (Z06 Gl (Ord.getD i 0).toNat ((Z04 Pm i).getD f 0).toNat)<0 then Z4O else
  Bk.getD (Z1d (Z06 Gl (Ord.getD i 0).toNat ((Z04 Pm i).getD f 0).toNat)).toNat 0 ::
   comp (inv (Z04 Pm (Bk.getD (Z1d (Z06 Gl (Ord.getD i 0).toNat ((Z04 Pm i).getD f 0).toNat)).toNat 0).toNat))
    (comp (Z0D (Z06 Gl (Ord.getD i 0).toNat ((Z04 Pm i).getD f 0).toNat)) (Z04 Pm i))
def rnL (Gl Ord Pm Bk:List Int):Nat->List Int
 | 0=>[]
 | i+1=>rnL Gl Ord Pm Bk i++Z1x (rnF Gl Ord Pm Bk i) 4
structure RnOk (Gl Ord Pm:List Int) (n:Nat):Prop where
 gl:Gl.length=n*20
 ol:Ord.length=n
 pl:Pm.length=n*4
 ok:Z0Y Gl n=true
 rng:∀ j,j<n->0<=Ord.getD j 0/\Ord.getD j 0<n/\Z0n (Z04 Pm j)=true
theorem RnOk.p24 {Gl Ord Pm:List Int} {n:Nat} (h:RnOk Gl Ord Pm n) {j:Nat} (hj:j<n):Z04 Pm j ∈ Ab.p24:=ZbM (Z0B h.pl hj) (h.rng j hj).2.2
theorem Z2r {Gl Ord Pm:List Int} {n:Nat} (h:RnOk Gl Ord Pm n) {i:Nat} (hi:i<n) {f:Nat} (hf:f<4):(rnF Gl Ord Pm (Z0o Ord n) i f).length=5:=by
 unfold rnF
 split
 · rfl
 · rw [List.length_cons,Z0l,Z0l,Z0B h.pl hi]
theorem Z1G {Gl Ord Pm:List Int} {n:Nat} (h:RnOk Gl Ord Pm n):∀ i,i<=n->(rnL Gl Ord Pm (Z0o Ord n) i).length=i*20
 | 0,_=>rfl
 | i+1,hi=>by
  rw [rnL,List.length_append,Z1G h i qO,Z0F (fun f hf=>Z2r h qO hf) 4 qO]; omega
def Z5K (n m:Nat) (Gl Hl:List Int):Bool:=decide (n=m) && decide (Gl=Hl)
def rnE (Gl Ord Pm:List Int) (n a b:Nat):Int:=if n<=1000/\Z0Y Gl n=true then (if Z48 Ord Pm a b n=true then 0 else 1) else 7
def rnN (Gl Ord Pm:List Int) (n a b:Nat):Nat:=if n<=1000/\Z0Y Gl n=true/\Z48 Ord Pm a b n=true then n else 0
def rnR (Gl Ord Pm:List Int) (n a b:Nat):List Int:=if n<=1000/\Z0Y Gl n=true/\Z48 Ord Pm a b n=true then rnL Gl Ord Pm (Z0o Ord n) n else []
theorem Z5M {Ord Pm:List Int} {a b n:Nat}:Z48 Ord Pm a b n=true ↔ a=n/\b=n/\Zbt Ord Pm n n 0 (List.replicate n false)=true:=by
 simp [Z48,and_assoc]
theorem RnOk.of {Gl Ord Pm:List Int} {n a b:Nat} (hG:Gl.length=n*20) (hO:Ord.length=a) (hP:Pm.length=b*4) (h2:Z0Y Gl n=true) (h3:Z48 Ord Pm a b n=true):RnOk Gl Ord Pm n:=by
 obtain ⟨rfl,rfl,h4⟩:=Z5M.1 h3
 exact ⟨hG,hO,hP,h2,fun j hj=>Z55 h4 j qO qO⟩
theorem Zmb (R:List Int) (hR:R.length=20):Z5d [(.int .i64 0),(.int .i64 0),(.int .i64 0),(.int .i64 0),(.int .i64 0),(.int .i64 0),(.int .i64 0),(.int .i64 0),(.int .i64 0),(.int .i64 0),(.int .i64 0),(.int .i64 0),(.int .i64 0),(.int .i64 0),(.int .i64 0),(.int .i64 0),(.int .i64 0),(.int .i64 0),(.int .i64 0),(.int .i64 0)] [(0,20,av R)]=some (ints R):=by
 have h1:Nat.beq (av R).cells.size 20=true:=by simp [hR]
 show cond (Nat.beq (av R).cells.size 20 && Nat.ble (0+20) 20) (some (Z0M _ 0 (av R).cells.toList)) none=_
 rw [h1]
 simp only [Bool.true_and,Z4v]
 show some (Z0M _ 0 (ints R))=_
 unfold Z0M
 rw [List.take_zero,List.nil_append,List.drop_of_length_le (by simp [hR]),List.append_nil]
@[simp] theorem st1_agg (h:FH) (i o:Nat) (cs:List Value) (v:Value) (ho:o<cs.length) (hv:Z08 v=true):stN (newB h i cs) 1 (.pointer (some ⟨i,o,none⟩)) (.agg #[v])=some (newB h i (cs.set o v)):=by
 rw [Z0V h 1 i o cs (.agg #[v]) rfl qO (by simp [Value.cells,hv])]
 show some (newB h i (Z0M cs o [v]))=_
 rw [Z2q cs o _ ho]
@[simp] theorem st1_sl (h:FH) (i o:Nat) (cs:List Value) (a:Option Addr) (n k:Nat) (ho:o<cs.length):stN (newB h i cs) 1 (.pointer (some ⟨i,o,none⟩)) (.slice a n k)=some (newB h i (cs.set o (.slice a n k))):=by
 rw [Z0V h 1 i o cs (.slice a n k) rfl qO rfl]
 show some (newB h i (Z0M cs o [.slice a n k]))=_
 rw [Z2q cs o _ ho]
theorem Z86 {h:FH} {b o:Nat} {op:Option Nat} {cs:List Value} {v:Value} (hg:h.f b=some (.cells false op cs)) (ho:o<cs.length) (hf:Z08 v=true) :
 stN h 1 (.pointer (some ⟨b,o,none⟩)) (.agg #[v])=some (HeapC.set h b (.cells false op (cs.set o v))):=by
 have h1:Nat.ble (o+1) cs.length=true:=Nat.ble_eq_true_of_le qO
 have hg':HeapC.get h b=some (.cells false op cs):=hg
 simp [stN,Z2a,Value.cells,Z1N,hg',h1,hf,Z2q cs o v ho]
theorem Z0C {h:FH} {b:Nat} {cs:List Value} {v:Value} (hg:Z0a h b (v::cs)):ldN h 1 (.pointer (some ⟨b,0,none⟩))=some (.agg #[v]):=by
 rw [ldN_holds hg (by simp)]; simp
def Z90 (h:FH) (c:Nat) (Gl Ord Pm:List Int) (n a b:Nat) (r:Rt FH):Prop :=
 r.e = .ret/\r.df=[]/\c<=r.c/\Z0q c h r.h /\ ∃ v,r.vs=[.tuple #[.agg #[v],.int .i64 (rnE Gl Ord Pm n a b)]]/\SlI r.h r.c v 20 (rnN Gl Ord Pm n a b) (rnR Gl Ord Pm n a b)/\(0<rnN Gl Ord Pm n a b->256*c<=Z1u v)
theorem Z90.callF {o:Orc FH} {g:FuncId} {args:List Value} {h:FH} {c:Nat} {Gl Ord Pm:List Int} {n a b:Nat} (e:Ans (o (.fn g) args h c []) (Z90 h c Gl Ord Pm n a b)) :
 ∃ v h' c',callF o g args h c=some (.tuple #[.agg #[v],.int .i64 (rnE Gl Ord Pm n a b)],h',c')/\c<=c'/\Z0q c h h'/\SlI h' c' v 20 (rnN Gl Ord Pm n a b) (rnR Gl Ord Pm n a b)/\(0<rnN Gl Ord Pm n a b->256*c<=Z1u v):=by
 obtain ⟨r,e1,r1,r2,r3,r4,v,r5,r6,r7⟩:=e
 refine ⟨v,r.h,r.c, ?_,r3,r4,r6,r7⟩
 simp only [Ab.callF,e1,Option.bind_some,r5]
def isoE (Gl Hl Ord Pm:List Int) (n m a b:Nat):Int :=
 if n<=1000/\Z0Y Gl n=true then (if m<=1000/\Z0Y Hl m=true then
  (if rnE Gl Ord Pm n a b=0 then (if Z5K (rnN Gl Ord Pm n a b) m (rnR Gl Ord Pm n a b) Hl=true then 0 else 30) else 30) else 7) else 7
end Go.Ab

namespace Go.Proofs.Ytemkjcpfgmbibaa
open Go Go.Ab Go.Proofs
theorem ZbP (so sp:Value) (n:Nat) (Ord Pm:List Int) (h:FH) (bm c:Nat) (hbm:bm<256*c) (cm:Nat) (hcm:cm<=c) (hbm2:256*cm<=bm) (h1:SlI h cm so 1 n Ord) (h2:SlI h cm sp 4 n Pm) (hn:n<=1000000) (df:List Nat) :
 ∀ (k i:Nat) (met:List Bool),i+k=n->met.length=n →
 Ans (G (Z9K none) [so,sp,.int .i64 n,.bool false,.slice (some ⟨bm,0,none⟩) n n,.int .i64 i] (newB h bm (bools met)) c df) fun r=>r.c=c/\r.df=df/\(∃ m',r.h=newB h bm (bools m')) ∧
  (if Zbt Ord Pm n k i met=true then r.e = .exit 0 else r.e = .ret/\r.v 3 = .bool false):=by
 intro k
 have ov1:=(h1.mono hcm).okV
 have ov2:=(h2.mono hcm).okV
 have b1:=h1.blk
 have b2:=h2.blk
 induction k with
 | zero =>
  intro i met hi hm
  refine Ans.lpG rfl rfl (Z5S ..) ?_
  unfold Z70
  have fx:=True.intro
  refine Ans.go ?_
  clear fx
  refine Ans.exit0 (by simp (disch:=(first | omega | assumption)) [ov1,ov2]) (by simp (disch:=(first | omega | assumption)) []) ⟨rfl,rfl,⟨_,rfl⟩,by simp [Zbt]⟩
 | succ k ih =>
  intro i met hi hm
  have hpl:=Z0B (i:=i) h2.1 qO
  have l1:=h1.rdi i qO qO
  have l2:=h2.perm i qO qO
  simp only [Int.toNat_natCast] at l1 l2
  rw [Z3A] at l1
  unfold Zbt
  obtain ⟨x,hx⟩:∃ x,Ord.getD i 0=x:=⟨_,rfl⟩
  rw [hx] at l1 ⊢
  have hlm:0<=x->x<n->ld1 (newB h bm (bools met)) (.pointer (some ⟨bm,x.toNat,none⟩))=some (.bool (met.getD x.toNat false)):=fun _ _=>by
   rw [ld1_newB_same,Z8S _ _ qO]
  have hst:0<=x->x<n->stN (newB h bm (bools met)) 1 (.pointer (some ⟨bm,x.toNat,none⟩)) (.bool true)=some (newB h bm (bools (met.set x.toNat true))):=fun _ _=>by
   rw [st1_bool _ _ _ _ _ (by rw [Z4Y]; omega),Z8R]
  refine Ans.lpG rfl rfl (Z5S ..) ?_
  unfold Z70
  repeat' (first | ((with_reducible first | refine Ans.bz ?_ | refine Ans.r1 ?_ | refine Ans.pkT ?_ | refine Ans.pkF ?_); try dsimp only [v_zero,v_succ]) | (with_reducible first | refine Ans.btL ?_ | refine Ans.bfL ?_ | refine Ans.gyT ?_ | refine Ans.gyF ?_ | refine Ans.gyG ?_ | refine Ans.bb ?_ | refine Ans.bc ?_ | refine Ans.ba ?_) | ((with_reducible first | refine Ans.lsT ?_ ?_ | refine Ans.leT ?_ ?_ | refine Ans.grT ?_ ?_ | refine Ans.geT ?_ ?_ | refine Ans.eqT ?_ ?_ | refine Ans.neT ?_ ?_); (focus omega)) | ((with_reducible first | refine Ans.lsF ?_ ?_ | refine Ans.leF ?_ ?_ | refine Ans.grF ?_ ?_ | refine Ans.geF ?_ ?_ | refine Ans.eqF ?_ ?_ | refine Ans.neF ?_ ?_); (focus omega)) | (with_reducible first | refine Ans.lsS (fun _=>?_) (fun _=>?_) | refine Ans.leS (fun _=>?_) (fun _=>?_) | refine Ans.grS (fun _=>?_) (fun _=>?_) | refine Ans.geS (fun _=>?_) (fun _=>?_) | refine Ans.eqS (fun _=>?_) (fun _=>?_) | refine Ans.neS (fun _=>?_) (fun _=>?_)) | ((with_reducible first | refine Ans.addN ?_ ?_ | refine Ans.add ?_ ?_ | refine Ans.sub ?_ ?_ | refine Ans.mul ?_ ?_); (focus omega)) | ((with_reducible first | refine Ans.ct ?_ ?_); (focus (simp (disch:=(first | omega | with_reducible assumption | (simp <;> omega) | fail)) [h1.ixs1,h2.ixs,l1,l2,hst,hpl]; done))) | ((with_reducible first | refine Ans.cf ?_ ?_); (focus (simp (disch:=(first | omega | with_reducible assumption | (simp <;> omega) | fail)) [h1.ixs1,h2.ixs,l1,l2,hst,hpl]; done))) | ((with_reducible refine Ans.ldT (by simp (disch:=(first | omega | with_reducible assumption | (simp <;> omega) | fail)) only [hlm,Z0s _ hpl] <;> rfl) ?_ ?_); (focus (with_reducible assumption)); try dsimp only [v_zero,v_succ]) | ((with_reducible refine Ans.cT (by simp (disch:=(first | omega | with_reducible assumption | (simp <;> omega) | fail)) only [hlm,Z0s _ hpl] <;> rfl) ?_ ?_); (focus (with_reducible assumption)); try dsimp only [v_zero,v_succ]) | ((with_reducible refine Ans.ldF (by simp (disch:=(first | omega | with_reducible assumption | (simp <;> omega) | fail)) only [hlm,Z0s _ hpl] <;> rfl) ?_ ?_); (focus (with_reducible assumption)); try dsimp only [v_zero,v_succ]) | ((with_reducible refine Ans.cF (by simp (disch:=(first | omega | with_reducible assumption | (simp <;> omega) | fail)) only [hlm,Z0s _ hpl] <;> rfl) ?_ ?_); (focus (with_reducible assumption)); try dsimp only [v_zero,v_succ]) | ((with_reducible refine Ans.ldS (by simp (disch:=(first | omega | with_reducible assumption | (simp <;> omega) | fail)) only [hlm,Z0s _ hpl] <;> rfl) (fun _=>?_) (fun _=>?_)) <;> try dsimp only [v_zero,v_succ]) | ((with_reducible refine Ans.cS (by simp (disch:=(first | omega | with_reducible assumption | (simp <;> omega) | fail)) only [hlm,Z0s _ hpl] <;> rfl) (fun _=>?_) (fun _=>?_)) <;> try dsimp only [v_zero,v_succ]) | (refine Ans.step (by simp (disch:=(first | omega | with_reducible assumption | (simp <;> omega) | fail)) [h1.ixs1,h2.ixs,l1,l2,hst,hpl,-List.getD_eq_getElem?_getD] <;> rfl) ?_; try dsimp only [v_zero,v_succ]) | fail)
  · (have fx:=ai ov1 (ai ov2 hbm); refine Ans.rt0 ?_; clear fx); exact ⟨rfl,rfl,⟨_,rfl⟩,by simp [*,-List.getD_eq_getElem?_getD]⟩
  · (have fx:=ai ov1 (ai ov2 hbm); refine Ans.rt0 ?_; clear fx); exact ⟨rfl,rfl,⟨_,rfl⟩,by simp [*,-List.getD_eq_getElem?_getD]⟩
  · (have fx:=ai ov1 (ai ov2 hbm); refine Ans.rt0 ?_; clear fx); exact ⟨rfl,rfl,⟨_,rfl⟩,by simp [*,-List.getD_eq_getElem?_getD]⟩
  · (have fx:=ai ov1 (ai ov2 hbm); refine Ans.nxB (B:=newB h bm (bools (met.set x.toNat true))) ?_ ?_; exact (Z4C.both (Z1X.bools _ _) (Z4C.refl _ _) hbm); clear fx)
    obtain ⟨r,hr,hq⟩:=ih (i+1) (met.set x.toNat true) qO (by simpa using hm)
    exact ⟨r,hr,by simpa [*,-List.getD_eq_getElem?_getD] using hq⟩
  · (have fx:=ai ov1 (ai ov2 hbm); refine Ans.rt0 ?_; clear fx); exact ⟨rfl,rfl,⟨_,rfl⟩,by simp [*,-List.getD_eq_getElem?_getD]⟩
theorem Z9z (so sp:Value) (a b n:Nat) (Ord Pm:List Int) (h:FH) (c:Nat) (df:List Nat) (h1:SlI h c so 1 a Ord) (h2:SlI h c sp 4 b Pm) (hn:n<=1000000) :
 G (.fn 48) [so,sp,.int .i64 n] h c df=some ⟨.ret,[.bool (Z48 Ord Pm a b n)],h,c,[]⟩:=by
 refine Z1l (fun r e=>f48_go e) (by simp) ?_
 unfold Zng
 have l1:=h1.len
 have l2:=h2.len
 have hl:=ZbP so sp n Ord Pm h (256*(c+1+1)+1) (c+1+1+1+1) qO c qO qO
 repeat' (first | ((with_reducible first | refine Ans.bz ?_ | refine Ans.r1 ?_ | refine Ans.pkT ?_ | refine Ans.pkF ?_); try dsimp only [v_zero,v_succ]) | (with_reducible first | refine Ans.btL ?_ | refine Ans.bfL ?_ | refine Ans.gyT ?_ | refine Ans.gyF ?_ | refine Ans.gyG ?_ | refine Ans.bb ?_ | refine Ans.bc ?_ | refine Ans.ba ?_) | ((with_reducible first | refine Ans.lsT ?_ ?_ | refine Ans.leT ?_ ?_ | refine Ans.grT ?_ ?_ | refine Ans.geT ?_ ?_ | refine Ans.eqT ?_ ?_ | refine Ans.neT ?_ ?_); (focus omega)) | ((with_reducible first | refine Ans.lsF ?_ ?_ | refine Ans.leF ?_ ?_ | refine Ans.grF ?_ ?_ | refine Ans.geF ?_ ?_ | refine Ans.eqF ?_ ?_ | refine Ans.neF ?_ ?_); (focus omega)) | (with_reducible first | refine Ans.lsS (fun _=>?_) (fun _=>?_) | refine Ans.leS (fun _=>?_) (fun _=>?_) | refine Ans.grS (fun _=>?_) (fun _=>?_) | refine Ans.geS (fun _=>?_) (fun _=>?_) | refine Ans.eqS (fun _=>?_) (fun _=>?_) | refine Ans.neS (fun _=>?_) (fun _=>?_)) | ((with_reducible first | refine Ans.addN ?_ ?_ | refine Ans.add ?_ ?_ | refine Ans.sub ?_ ?_ | refine Ans.mul ?_ ?_); (focus omega)) | ((with_reducible first | refine Ans.ct ?_ ?_); (focus (simp (disch:=(first | omega | with_reducible assumption | (simp <;> omega) | fail)) [l1,l2,Z2d]; done))) | ((with_reducible first | refine Ans.cf ?_ ?_); (focus (simp (disch:=(first | omega | with_reducible assumption | (simp <;> omega) | fail)) [l1,l2,Z2d]; done))) | (refine Ans.step (by simp (disch:=(first | omega | with_reducible assumption | (simp <;> omega) | fail)) [l1,l2,Z2d,-List.getD_eq_getElem?_getD] <;> rfl) ?_; try dsimp only [v_zero,v_succ]) | fail)
 · exact Ans.pure (by simp [Z48, *]; omega) (by simp)
 · exact Ans.pure (by simp [Z48, *]; omega) (by simp)
 obtain rfl:a=n:=by omega
 obtain rfl:b=a:=by omega
 obtain ⟨⟨re,rv,rh,rc,rd⟩,hr,r1,r2,⟨m',r3⟩,r4⟩:=hl h1 h2 hn [] b 0 (List.replicate b false) qO (by simp)
 simp only at r1 r2 r3 r4
 subst r1 r2 r3
 simp only [Int.ofNat_eq_natCast,Int.cast_ofNat_Int] at hr
 cases hb:Zbt Ord Pm b b 0 (List.replicate b false) with
 | true =>
  rw [hb,if_pos rfl] at r4
  subst r4
  have fx:=hr
  refine Ans.go ?_
  clear fx
  exact Ans.pure (by simp [Z48,hb]) (by simp (disch:=omega))
 | false =>
  rw [hb,if_neg (by simp)] at r4
  obtain ⟨rfl,r5⟩:=r4
  have fx:=ai hr r5
  refine Ans.go ?_
  clear fx
  exact Ans.pure (by rw [r5]; simp [Z48,hb]) (by simp (disch:=omega))

theorem eqF19 (a0 a1 a2 a3 a4 b0 b1 b2 b3 b4:Int):aEq P 19 72 (av [a0,a1,a2,a3,a4]) (av [b0,b1,b2,b3,b4]) =
 (cond (a0 == b0) ((cond (a1 == b1) (cond (a2 == b2) (cond (a3 == b3) (cond (a4 == b4) (some true) (some false)) (some false)) (some false)) (some false)).bind fun r=>cond r (some true) (some false)) (some false)):=by kernel_rfl
theorem eqF (x y:List Int) (hx:x.length=5) (hy:y.length=5):aEq P 19 72 (av x) (av y)=some (decide (x=y)):=by
 match x,hx,y,hy with
 | [a0,a1,a2,a3,a4],_,[b0,b1,b2,b3,b4],_ =>
  rw [eqF19]
  by_cases h0:a0=b0 <;> by_cases h1:a1=b1 <;> by_cases h2:a2=b2 <;> by_cases h3:a3=b3 <;> by_cases h4:a4=b4 <;> simp [h0,h1,h2,h3,h4,Bool.cond_eq_ite]
theorem part72 (xs:List Value) (o:Nat):Z7Q P 72 xs o=ZbJ xs true o 5:=by kernel_rfl
theorem Z2i (x:List Int) (o:Nat) (h:o+5<=x.length):Z7Q P 72 (ints x) o=some (av ((x.drop o).take 5)):=by
 have:Nat.ble (o+5) (ints x).length=true:=Nat.ble_eq_true_of_le (by simpa using h)
 rw [part72]
 simp only [ZbJ,cond_true,this,Z1Q,Z1y]
 rfl
theorem neR0 (x y:List Value):Z0H P .neq 73 (.agg x.toArray) (.agg y.toArray)=(Zdi (aEq P 19 72) P 72 5 x y [0,1,2,3]).bind fun b=>some (.bool (!b)):=by kernel_rfl
theorem eqRows (x y:List Int) (hx:x.length=20) (hy:y.length=20):Zdi (aEq P 19 72) P 72 5 (ints x) (ints y) [0,1,2,3]=some (decide (x=y)):=by
 have e:x=y ↔ (x.drop 0).take 5=(y.drop 0).take 5/\(x.drop 5).take 5=(y.drop 5).take 5/\(x.drop 10).take 5=(y.drop 10).take 5/\(x.drop 15).take 5=(y.drop 15).take 5:=by
  constructor
  · rintro rfl; exact ⟨rfl,rfl,rfl,rfl⟩
  · rintro ⟨h1,h2,h3,h4⟩
    have s:∀ l:List Int,l.length=20->l=(l.drop 0).take 5++((l.drop 5).take 5++((l.drop 10).take 5++(l.drop 15).take 5)):=fun l hl=>by
     match l,hl with
     | [_,_,_,_,_,_,_,_,_,_,_,_,_,_,_,_,_,_,_,_],_=>rfl
    rw [s x hx,s y hy,h1,h2,h3,h4]
 have l:∀ (z:List Int) (o:Nat),z.length=20->o<=15->((z.drop o).take 5).length=5:=fun z o hz ho=>by simp; omega
 simp only [Zdi]
 rw [Z2i x (0*5) qO,Z2i y (0*5) qO,Z2i x (1*5) qO,Z2i y (1*5) qO,Z2i x (2*5) qO,Z2i y (2*5) qO,Z2i x (3*5) qO,Z2i y (3*5) qO]
 simp only [Option.bind_some]
 rw [eqF _ _ (l x _ hx qO) (l y _ hy qO),eqF _ _ (l x _ hx qO) (l y _ hy qO),eqF _ _ (l x _ hx qO) (l y _ hy qO),eqF _ _ (l x _ hx qO) (l y _ hy qO)]
 simp only [Option.bind_some]
 rw [show (0*5:Nat)=0 from rfl,show (1*5:Nat)=5 from rfl,show (2*5:Nat)=10 from rfl,show (3*5:Nat)=15 from rfl]
 by_cases q1:(x.drop 0).take 5=(y.drop 0).take 5 <;> by_cases q2:(x.drop 5).take 5=(y.drop 5).take 5 <;> by_cases q3:(x.drop 10).take 5=(y.drop 10).take 5 <;> by_cases q4:(x.drop 15).take 5=(y.drop 15).take 5 <;>
  simp only [e,q1,q2,q3,q4,decide_true,decide_false,cond_true,cond_false,and_true,and_false,and_self,true_and,false_and]
theorem ZmF (x y:List Int) (hx:x.length=20) (hy:y.length=20):Z00 P .neq 73 (av x) (av y)=some (.bool (!decide (x=y))):=by
 rw [Z0u]
 exact (neR0 (ints x) (ints y)).trans (by rw [eqRows x y hx hy]; rfl)

theorem ZiE {Gl Hl:List Int} {n:Nat} (h1:Gl.length=n*20) (h2:Hl.length=n*20) (h:∀ j,j<n->Z91 Gl j=Z91 Hl j):Gl=Hl:=by
 apply List.ext_getElem?
 intro i
 by_cases hi:i<n*20
 · have:=congrArg (fun l=>l[i % 20]?) (h (i / 20) qO)
   simp only [Z91,List.getElem?_take_of_lt (Nat.mod_lt i (by omega:0<20)),List.getElem?_drop,Nat.div_add_mod] at this
   exact this
 · rw [List.getElem?_eq_none qO,List.getElem?_eq_none qO]
theorem Zgq (s s':Value) (n:Nat) (Gl Hl:List Int) (c:Nat) (h:FH) (hn:n<=1000000) (h3:SlI h c s 20 n Gl) (h4:SlI h c s' 20 n Hl) (df:List Nat) :
 ∀ (k i:Nat),i+k=n →
 Ans (G (Z9J none) [s,s',.bool false,.int .i64 n,.int .i64 i] h c df) fun r=>r.h=h/\r.c=c/\r.df=df ∧
  ((r.e = .exit 0 /\ ∀ j,i<=j->j<n->Z91 Gl j=Z91 Hl j) ∨ (r.e = .ret/\r.v 2 = .bool false /\ ∃ j,j<n/\Z91 Gl j ≠ Z91 Hl j)):=by
 intro k
 have o1:=h3.okV
 have o2:=h4.okV
 induction k with
 | zero =>
  intro i hi
  obtain rfl:i=n:=by omega
  refine Ans.lpG rfl rfl (Z4i ..) ?_
  unfold Z3P
  have fx:=True.intro
  refine Ans.go ?_
  clear fx
  (have fx:=ai o1 o2; refine Ans.ex0 ?_; clear fx)
  exact ⟨rfl,rfl,rfl,.inl ⟨rfl,fun j h1 h2=>by omega⟩⟩
 | succ k ih =>
  intro i hi
  have r1:=h3.row i qO qO
  have r2:=h4.row i qO qO
  simp only [Int.toNat_natCast] at r1 r2
  have hq:=ZmF (Z91 Gl i) (Z91 Hl i) (Z5C h3.1 qO) (Z5C h4.1 qO)
  refine Ans.lpG rfl rfl (Z4i ..) ?_
  unfold Z3P
  repeat' (first | ((with_reducible first | refine Ans.bz ?_ | refine Ans.r1 ?_ | refine Ans.pkT ?_ | refine Ans.pkF ?_); try dsimp only [v_zero,v_succ]) | (with_reducible first | refine Ans.btL ?_ | refine Ans.bfL ?_ | refine Ans.gyT ?_ | refine Ans.gyF ?_ | refine Ans.gyG ?_ | refine Ans.bb ?_ | refine Ans.bc ?_ | refine Ans.ba ?_) | ((with_reducible first | refine Ans.lsT ?_ ?_ | refine Ans.leT ?_ ?_ | refine Ans.grT ?_ ?_ | refine Ans.geT ?_ ?_ | refine Ans.eqT ?_ ?_ | refine Ans.neT ?_ ?_); (focus omega)) | ((with_reducible first | refine Ans.lsF ?_ ?_ | refine Ans.leF ?_ ?_ | refine Ans.grF ?_ ?_ | refine Ans.geF ?_ ?_ | refine Ans.eqF ?_ ?_ | refine Ans.neF ?_ ?_); (focus omega)) | (with_reducible first | refine Ans.lsS (fun _=>?_) (fun _=>?_) | refine Ans.leS (fun _=>?_) (fun _=>?_) | refine Ans.grS (fun _=>?_) (fun _=>?_) | refine Ans.geS (fun _=>?_) (fun _=>?_) | refine Ans.eqS (fun _=>?_) (fun _=>?_) | refine Ans.neS (fun _=>?_) (fun _=>?_)) | ((with_reducible first | refine Ans.addN ?_ ?_ | refine Ans.add ?_ ?_ | refine Ans.sub ?_ ?_ | refine Ans.mul ?_ ?_); (focus omega)) | ((with_reducible first | refine Ans.ct ?_ ?_); (focus (simp (disch:=(first | omega | with_reducible assumption | (simp <;> omega) | fail)) [h3.ixs,h4.ixs,r1,r2]; done))) | ((with_reducible first | refine Ans.cf ?_ ?_); (focus (simp (disch:=(first | omega | with_reducible assumption | (simp <;> omega) | fail)) [h3.ixs,h4.ixs,r1,r2]; done))) | ((with_reducible refine Ans.oT (by simp (disch:=(first | omega | with_reducible assumption | (simp <;> omega) | fail)) only [hq] <;> rfl) ?_ ?_); (focus (with_reducible assumption)); try dsimp only [v_zero,v_succ]) | ((with_reducible refine Ans.oF (by simp (disch:=(first | omega | with_reducible assumption | (simp <;> omega) | fail)) only [hq] <;> rfl) ?_ ?_); (focus (with_reducible assumption)); try dsimp only [v_zero,v_succ]) | ((with_reducible refine Ans.oS (by simp (disch:=(first | omega | with_reducible assumption | (simp <;> omega) | fail)) only [hq] <;> rfl) (fun _=>?_) (fun _=>?_)) <;> try dsimp only [v_zero,v_succ]) | (refine Ans.step (by simp (disch:=(first | omega | with_reducible assumption | (simp <;> omega) | fail)) [h3.ixs,h4.ixs,r1,r2,-List.getD_eq_getElem?_getD] <;> rfl) ?_; try dsimp only [v_zero,v_succ]) | fail)
  · rename_i hne
    (have fx:=ai o1 o2; refine Ans.rt0 ?_; clear fx)
    exact ⟨rfl,rfl,rfl,.inr ⟨rfl,rfl,i,by omega,by simpa using hne⟩⟩
  · rename_i heq
    (have fx:=ai o1 o2; refine Ans.nx0 ?_; clear fx)
    refine (ih (i+1) qO).mono ?_
    rintro r ⟨q1,q2,q3,q4⟩
    refine ⟨q1,q2,q3,q4.imp (fun ⟨a,b⟩=>⟨a,fun j j1 j2=>?_⟩) id⟩
    by_cases hj:j=i
    · rw [hj]; simpa using heq
    · exact b j qO j2
theorem Zlp (s s':Value) (n m:Nat) (Gl Hl:List Int) (h:FH) (c:Nat) (df:List Nat) (h3:SlI h c s 20 n Gl) (h4:SlI h c s' 20 m Hl) (hn:n<=1000000) :
 G (.fn 67) [s,s'] h c df=some ⟨.ret,[.bool (Z5K n m Gl Hl)],h,c,[]⟩:=by
 refine Z1l (fun r e=>f67_go e) (by simp) ?_
 unfold ZhE
 have l1:=h3.len
 have l2:=h4.len
 by_cases hnm:n=m
 case neg =>
  have fx:=ai l1 l2
  refine Ans.go ?_
  clear fx
  exact Ans.pure (by simp [Z5K,hnm]) (by simp)
 subst hnm
 obtain ⟨⟨re,rv,rh,rc,rd⟩,hr,r1,r2,r3,r4⟩:=Zgq s s' n Gl Hl (c+1+1+1) h hn (h3.mono qO) (h4.mono qO) [] n 0 qO
 simp only at r1 r2 r3 r4
 subst r1 r2 r3
 simp only [Int.ofNat_eq_natCast,Int.cast_ofNat_Int] at hr
 rcases r4 with ⟨rfl,r5⟩ | ⟨rfl,r5,j,r6,r7⟩
 · have fx:=ai l1 (ai l2 hr)
   refine Ans.go ?_
   clear fx
   exact Ans.pure (by simp [Z5K,ZiE h3.1 h4.1 (fun j hj=>r5 j qO hj)]) (by simp)
 · have fx:=ai l1 (ai l2 hr)
   refine Ans.go ?_
   clear fx
   refine Ans.pure ?_ (by simp)
   rw [r5]
   have:¬ Gl=Hl:=fun e=>r7 (by rw [e])
   simp [Z5K,this]
theorem Zmo (s s':Value) (n m:Nat) (Gl Hl:List Int) (h:FH) (c:Nat) (df:List Nat) (h3:SlI h c s 20 n Gl) (h4:SlI h c s' 20 m Hl) (hn:n<=1000000) :
 G (.fn 41) [.agg #[s],.agg #[s']] h c df=some ⟨.ret,[.bool (Z5K n m Gl Hl)],h,c,[]⟩:=by
 refine Z1l (fun r e=>f41_go e) (by simp) ?_
 have hf1:((Value.agg #[s]).cells.toList.all Z08)=true:=by simp [Value.cells,h3.flat]
 have hf2:((Value.agg #[s']).cells.toList.all Z08)=true:=by simp [Value.cells,h4.flat]
 have hc1:(Value.agg #[s]).cells.toList=[s]:=rfl
 have hc2:(Value.agg #[s']).cells.toList=[s']:=rfl
 unfold ZhV
 rw [hf1,hf2,hc1,hc2]
 simp only [cond_true]
 obtain ⟨H,hH⟩:∃ H,H=newB (newB h (256*c) [s]) (256*c+1) [s']:=⟨_,rfl⟩
 have sH:Z0q c h H:=by rw [hH]; simp (disch:=omega)
 have g1:Z0a H (256*c) [s]:=by rw [hH]; exact Z0a.newB_ne qO (Z0a.newB_same _ _ _)
 have g2:Z0a H (256*c+1) [s']:=by rw [hH]; exact Z0a.newB_same _ _ _
 rw [Nat.add_zero,← hH]
 have e1:ld1 H (.pointer (some ⟨256*c,0,none⟩))=some s:=by rw [Z03 g1]; rfl
 have e2:ld1 H (.pointer (some ⟨256*c+1,0,none⟩))=some s':=by rw [Z03 g2]; rfl
 have c1:=Z0j (Zlp s s' n m Gl Hl H (c+1+1) [] ((h3.same sH).mono qO) ((h4.same sH).mono qO) hn)
 have fx:=ai e1 (ai e2 c1)
 refine Ans.go ?_
 clear fx
 exact Ans.pure rfl sH
theorem Zcz (p:List Int) (hp:p.length=4) (h:FH) (c:Nat) (df:List Nat) :
 G (.fn 64) [av p] h c df=some ⟨.ret,[.bool (!Z0n p)],h,c,[]⟩:=by
 refine Z1l (fun r e=>f64_go e) (by simp) ?_
 have e1:p.take 4=p:=List.take_of_length_le qO
 have c1:=fun H c=>Z0O p hp H c
 unfold ZhJ
 cases hv:Z0n p with
 | true =>
  rw [hv] at c1
  have fx:=ai e1 (ai hp c1)
  refine Ans.go ?_
  clear fx
  exact Ans.pure rfl (by simp (disch:=omega))
 | false =>
  rw [hv] at c1
  have fx:=ai e1 (ai hp c1)
  refine Ans.go ?_
  clear fx
  exact Ans.pure rfl (by simp (disch:=omega))
theorem ZnI (h:FH) (c:Nat) (v:Value):Z1S G h c (.func (.func 64) #[] #[]) [v]=callF G 64 [v] h c:=by rfl
theorem Z9k (p:List Int) (hp:p.length=4) (h:FH) (c:Nat):Z1S G h c (.func (.func 64) #[] #[]) [av p]=some (.bool (!Z0n p),h,c):=by
 rw [ZnI]; exact Z0j (Zcz p hp h c [])
theorem Zfk (sp:Value) (b:Nat) (Pm:List Int) (c:Nat) (h:FH) (hb:b<=1000000000) (h3:SlI h c sp 4 b Pm) (df:List Nat) :
 ∀ (k i:Nat) (z:Value),i+k=b->OkV c z →
 Ans (G (Z9I none) [sp,.func (.func 64) #[] #[],z,.int .i64 b,.int .i64 i] h c df) fun r=>r.h=h/\r.c=c/\r.df=df ∧
  ((r.e = .exit 0 /\ ∀ j,i<=j->j<b->Z0n (Z04 Pm j)=true) ∨ (r.e = .ret /\ ∃ j:Nat,r.v 2 = .int .i64 j/\j<b/\Z0n (Z04 Pm j)=false)):=by
 intro k
 have o1:=h3.okV
 have o2:OkV c (.func (.func 64) #[] #[]):=OkV.fn c 64
 induction k with
 | zero =>
  intro i z hi hz
  obtain rfl:i=b:=by omega
  refine Ans.lpG rfl rfl (Z4h ..) ?_
  unfold Z3O
  have fx:=True.intro
  refine Ans.go ?_
  clear fx
  (have fx:=ai o1 (ai o2 hz); refine Ans.ex0 ?_; clear fx)
  exact ⟨rfl,rfl,rfl,.inl ⟨rfl,fun j h1 h2=>by omega⟩⟩
 | succ k ih =>
  intro i z hi hz
  have r1:=h3.perm i qO qO
  simp only [Int.toNat_natCast] at r1
  have c1:=fun H c=>Z9k (Z04 Pm i) (Z0B h3.1 qO) H c
  refine Ans.lpG rfl rfl (Z4h ..) ?_
  unfold Z3O
  cases hv:Z0n (Z04 Pm i) with
  | false =>
   rw [hv] at c1
   have fx:=ai h3.ixs (ai r1 c1)
   refine Ans.go ?_
   clear fx
   (have fx:=ai o1 (ai o2 hz); refine Ans.rt0 ?_; clear fx)
   exact ⟨rfl,rfl,rfl,.inr ⟨rfl,i,rfl,by omega,hv⟩⟩
  | true =>
   rw [hv] at c1
   have fx:=ai h3.ixs (ai r1 c1)
   refine Ans.go ?_
   clear fx
   (have fx:=ai o1 (ai o2 hz); refine Ans.nx0 ?_; clear fx)
   refine (ih (i+1) z qO hz).mono ?_
   rintro r ⟨q1,q2,q3,q4⟩
   refine ⟨q1,q2,q3,q4.imp (fun ⟨a,b⟩=>⟨a,fun j j1 j2=>?_⟩) id⟩
   by_cases hj:j=i
   · rw [hj]; exact hv
   · exact b j qO j2
def Z5t (Pm:List Int) (b:Nat):Bool:=(List.range b).any fun j=>!Z0n (Z04 Pm j)
theorem Z7H {Pm:List Int} {b:Nat}:Z5t Pm b=false ↔ ∀ j,j<b->Z0n (Z04 Pm j)=true:=by simp [Z5t]
theorem Z8W {Pm:List Int} {b:Nat}:Z5t Pm b=true ↔ ∃ j,j<b/\Z0n (Z04 Pm j)=false:=by simp [Z5t]
theorem Zd6 (sp:Value) (b:Nat) (Pm:List Int) (h:FH) (c:Nat) (df:List Nat) (hb:b<=1000000000) (h3:SlI h c sp 4 b Pm) :
 G (.fn 63) [sp,.func (.func 64) #[] #[]] h c df=some ⟨.ret,[.bool (Z5t Pm b)],h,c,[]⟩:=by
 refine Z1l (fun r e=>f63_go e) (by simp) ?_
 have l1:=h3.len
 obtain ⟨⟨re,rv,rh,rc,rd⟩,hr,r1,r2,r3,r4⟩:=Zfk sp b Pm (c+1+1+1+1) h hb (h3.mono qO) [] b 0 (.int .i64 0) qO (by simp)
 simp only at r1 r2 r3 r4
 subst r1 r2 r3
 simp only [Int.ofNat_eq_natCast,Int.cast_ofNat_Int] at hr
 have key:∃ z:Int,(0<=z ↔ Z5t Pm b=true)/\G (.fn 72) [sp,.func (.func 64) #[] #[]] rh (c+1+1) []=some ⟨.ret,[.int .i64 z],rh,c+1+1,[]⟩:=by
  rcases r4 with ⟨rfl,r5⟩ | ⟨rfl,j,r5,r6,r7⟩
  · refine ⟨-1, ?_,Z1l (fun r e=>Zm1 e) (by simp) ?_⟩
    · have:Z5t Pm b=false:=Z7H.2 fun j hj=>r5 j qO hj
      simp [this]
    · unfold ZfR
      have fx:=ai l1 hr
      refine Ans.go ?_
      clear fx
      exact Ans.pure rfl (by simp)
  · refine ⟨j, ?_,Z1l (fun r e=>Zm1 e) (by simp) ?_⟩
    · have:Z5t Pm b=true:=Z8W.2 ⟨j,r6,r7⟩
      simp [this]
    · unfold ZfR
      have fx:=ai l1 hr
      refine Ans.go ?_
      clear fx
      exact Ans.pure r5 (by simp)
 obtain ⟨z,hz,hc⟩:=key
 have c1:=Z0j hc
 unfold ZhK
 cases hv:Z5t Pm b with
 | true =>
  rw [hv] at hz
  have:0<=z:=hz.2 rfl
  have fx:=c1
  refine Ans.go ?_
  clear fx
  exact Ans.pure rfl (by simp)
 | false =>
  rw [hv] at hz
  have:¬ 0<=z:=fun h=>by simpa using hz.1 h
  have fx:=c1
  refine Ans.go ?_
  clear fx
  exact Ans.pure rfl (by simp)
def ZmS (E:Nat->Int):Nat->Nat->Int
 | 0,_=>0
 | k+1,i=>if E i=0 then ZmS E k (i+1) else E i
theorem Zc2 (ss:List Value) (b:Nat) (E:Nat->Int) (h:FH) (c:Nat) (hb:b<256*c) (hl:ss.length<=1000) (hh:Z0a h b ss) (hE:∀ i,i<ss.length -> ∀ H c',Z0q c h H->c<=c'->callF G 57 [.agg #[ss.getD i undef]] H c'=some (.int .i64 (E i),H,c'))
 (hf:∀ s ∈ ss,Z08 s=true) (df:List Nat):∀ (k i:Nat),i+k=ss.length →
 Ans (G (Z9R none) [.int .i64 0,.slice (some ⟨b,0,none⟩) ss.length ss.length,.int .i64 ss.length,.int .i64 i] h c df) fun r=>r.h=h/\r.c=c/\r.df=df ∧
  ((r.e = .exit 0/\ZmS E k i=0) ∨ (r.e = .ret/\r.v 0 = .int .i64 (ZmS E k i))):=by
 intro k
 induction k with
 | zero =>
  intro i hi
  obtain rfl:i=ss.length:=by omega
  refine Ans.lpG rfl rfl (Z4q ..) ?_
  unfold Z43
  have fx:=True.intro
  refine Ans.go ?_
  clear fx
  (have fx:=hb; refine Ans.ex0 ?_; clear fx)
  exact ⟨rfl,rfl,rfl,.inl ⟨rfl,rfl⟩⟩
 | succ k ih =>
  intro i hi
  obtain ⟨s,hs⟩:∃ s,ss.getD i undef=s:=⟨_,rfl⟩
  have hil:i<ss.length:=by omega
  have hsi:ss[i]? = some s:=by rw [← hs]; simp [List.getD,List.getElem?_eq_getElem hil]
  have hsf:Z08 s=true:=hf s (List.mem_of_getElem? hsi)
  have l1:ldN h 1 (.pointer (some ⟨b,i,none⟩))=some (.agg #[s]):=by
   rw [ldN_holds hh qO]
   congr 2
   rw [List.drop_eq_getElem_cons hil,List.take_succ_cons,List.take_zero]
   have:=(List.getElem?_eq_some_iff.1 hsi).2
   rw [this]
  have c1:=hE i hil (newB h (256*(c+1)+2) [s]) (c+1+1+1) (by simp (disch:=omega)) qO
  rw [hs] at c1
  have l2:ldN (newB h (256*(c+1)+2) [s]) 1 (.pointer (some ⟨256*(c+1)+2,0,none⟩))=some (.agg #[s]):=Z0C (Z0a.newB_same _ _ _)
  refine Ans.lpG rfl rfl (Z4q ..) ?_
  unfold Z43
  rw [ZmS]
  repeat' (first | ((with_reducible first | refine Ans.bz ?_ | refine Ans.r1 ?_ | refine Ans.pkT ?_ | refine Ans.pkF ?_); try dsimp only [v_zero,v_succ]) | (with_reducible first | refine Ans.btL ?_ | refine Ans.bfL ?_ | refine Ans.gyT ?_ | refine Ans.gyF ?_ | refine Ans.gyG ?_ | refine Ans.bb ?_ | refine Ans.bc ?_ | refine Ans.ba ?_) | ((with_reducible first | refine Ans.lsT ?_ ?_ | refine Ans.leT ?_ ?_ | refine Ans.grT ?_ ?_ | refine Ans.geT ?_ ?_ | refine Ans.eqT ?_ ?_ | refine Ans.neT ?_ ?_); (focus omega)) | ((with_reducible first | refine Ans.lsF ?_ ?_ | refine Ans.leF ?_ ?_ | refine Ans.grF ?_ ?_ | refine Ans.geF ?_ ?_ | refine Ans.eqF ?_ ?_ | refine Ans.neF ?_ ?_); (focus omega)) | (with_reducible first | refine Ans.lsS (fun _=>?_) (fun _=>?_) | refine Ans.leS (fun _=>?_) (fun _=>?_) | refine Ans.grS (fun _=>?_) (fun _=>?_) | refine Ans.geS (fun _=>?_) (fun _=>?_) | refine Ans.eqS (fun _=>?_) (fun _=>?_) | refine Ans.neS (fun _=>?_) (fun _=>?_)) | ((with_reducible first | refine Ans.addN ?_ ?_ | refine Ans.add ?_ ?_ | refine Ans.sub ?_ ?_ | refine Ans.mul ?_ ?_); (focus omega)) | ((with_reducible first | refine Ans.ct ?_ ?_); (focus (simp (disch:=(first | omega | with_reducible assumption | (simp <;> omega) | fail)) [l1,l2,c1,hsf]; done))) | ((with_reducible first | refine Ans.cf ?_ ?_); (focus (simp (disch:=(first | omega | with_reducible assumption | (simp <;> omega) | fail)) [l1,l2,c1,hsf]; done))) | (refine Ans.step (by simp (disch:=(first | omega | with_reducible assumption | (simp <;> omega) | fail)) [l1,l2,c1,hsf,-List.getD_eq_getElem?_getD] <;> rfl) ?_; try dsimp only [v_zero,v_succ]) | fail)
  · rename_i hne
    rw [if_neg hne]
    (have fx:=hb; refine Ans.rt0 ?_; clear fx)
    exact ⟨rfl,rfl,rfl,.inr ⟨rfl,rfl⟩⟩
  · rename_i heq
    rw [if_pos heq]
    (have fx:=hb; refine Ans.nx0 ?_; clear fx)
    exact ih (i+1) qO
theorem Zgu (ss:List Value) (b:Nat) (E:Nat->Int) (h:FH) (c:Nat) (df:List Nat) (hb:b<256*c) (hl:ss.length<=1000) (hh:Z0a h b ss) (hE:∀ i,i<ss.length -> ∀ H c',Z0q c h H->c<=c'->callF G 57 [.agg #[ss.getD i undef]] H c'=some (.int .i64 (E i),H,c'))
 (hf:∀ s ∈ ss,Z08 s=true):G (.fn 31) [.slice (some ⟨b,0,none⟩) ss.length ss.length] h c df=some ⟨.ret,[.int .i64 (ZmS E ss.length 0)],h,c,[]⟩:=by
 refine Z1l (fun r e=>f31_go e) (by simp) ?_
 obtain ⟨⟨re,rv,rh,rc,rd⟩,hr,r1,r2,r3,r4⟩:=Zc2 ss b E h (c+1+1) qO hl hh (fun i hi H c' h1 h2=>hE i hi H c' (h1.mono qO) qO) hf [] ss.length 0 qO
 simp only at r1 r2 r3 r4
 subst r1 r2 r3
 simp only [Int.ofNat_eq_natCast,Int.cast_ofNat_Int] at hr
 unfold ZhX
 rcases r4 with ⟨rfl,r5⟩ | ⟨rfl,r5⟩
 · have fx:=hr
   refine Ans.go ?_
   clear fx
   exact Ans.pure (by rw [r5]) (by simp)
 · have fx:=hr
   refine Ans.go ?_
   clear fx
   exact Ans.pure (by rw [r5]) (by simp)
end Go.Proofs.Ytemkjcpfgmbibaa

namespace Go.Ab
open Go Go.ChangeShapes Go.RowKit
section post
variable {H:Type} {enc:TypeId × Value->H} {P:Program}
theorem Z9u:∀ {ts:List TypeId} {w:World} {vs:List Value} {ds:List (DataW H)} {ps:List MemPlace},DataW.TrodAll enc P w 0 (fun _=>true) true ts vs ds ps -> ∀ x ∈ ps,x.block<w.heap.size
 | [],w,vs,ds,ps,h,x,hx=>by
  obtain ⟨_,_,rfl⟩:=trodAll_nil h
  cases hx
 | t::ts,w,vs,ds,ps,h,x,hx=>by
  obtain ⟨v,vs',d,ds',p,q,rfl,rfl,rfl,h1,h2⟩:=trodAll_cons h
  rcases List.mem_append.1 hx with hx | hx
  · obtain ⟨n,h1⟩:=h1
    exact DataW.trod_lt n _ _ _ h1 x hx
  · exact Z9u h2 x hx
theorem Z5J (hl:laidOutB P=true):∀ {ts:List TypeId} {w w':World} {sp:Nat->Bool} {vs:List Value} {ds:List (DataW H)} {ps:List MemPlace},(∀ t ∈ ts,P.readableRec t=true/\t<P.types.size) →
 DataW.TrodAll enc P w 0 (fun _=>true) true ts vs ds ps->(∀ p ∈ ps,w.sameAt w' p)->(∀ p ∈ ps,sp p.block=true)->DataW.TrodAll enc P w' 0 sp true ts vs ds ps
 | [],w,w',sp,vs,ds,ps,_,h,_,_=>by
  obtain ⟨rfl,rfl,rfl⟩:=trodAll_nil h
  exact rfl
 | t::ts,w,w',sp,vs,ds,ps,hr,h,h1,h2=>by
  obtain ⟨v,vs',d,ds',p,q,rfl,rfl,rfl,g1,g2⟩:=trodAll_cons h
  refine ⟨p,q, ?_, ?_,rfl⟩
  · exact WideElems.Trod_stays hl (hr t (by simp)).1 (hr t (by simp)).2 g1 (fun x hx=>h1 x (List.mem_append.2 (.inl hx))) (fun x hx=>h2 x (List.mem_append.2 (.inl hx)))
  · exact Z5J hl (fun u hu=>hr u (by simp [hu])) g2 (fun x hx=>h1 x (List.mem_append.2 (.inr hx))) (fun x hx=>h2 x (List.mem_append.2 (.inr hx)))
theorem ZiF (hl:laidOutB P=true) {f:Func} {s:ChangeSpec} {apart fresh handsOn again:Bool} {W W':World} {args:Array Value} {ds gs:List (DataW H)} {before:List MemPlace} {tb:TypeId}
 (hts:∀ t ∈ f.params.toList,P.readableRec t=true/\t<P.types.size) (hvars:s.vars=[]) (hres:(s.fn H (ds++gs)).results=[.lit (.bool true)]) (hargs:(s.fn H (ds++gs)).args=ds) (hvs:(s.fn H (ds++gs)).vars=[])
 (hrt:f.resultTypes = #[tb]) (htb:P.underlying tb=some .bool) (hW:DataW.Whole enc P f.params.toList s.vars apart W args.toList ds gs before) (hB:Below W.heap.size W W') :
 s.post enc P f apart fresh handsOn again W args (.bool true) W':=by
 have hW0:=hW
 obtain ⟨p,q,hA,hV,rfl,hfz,hnd⟩:=hW
 rw [hvars] at hV
 have hgq:gs=[]/\q=[]:=by
  cases gs with
  | nil=>exact ⟨rfl,hV⟩
  | cons g gs=>exact hV.elim
 obtain ⟨rfl,rfl⟩:=hgq
 have hlt:=Z9u hA
 have hrl:Value.resultList f.resultTypes.size (.bool true)=[.bool true]:=by rw [hrt]; rfl
 have hR:∀ (b:Nat) (sp:Nat->Bool) (hd:Bool),DataW.TrodAll enc P W' b sp hd f.resultTypes.toList (Value.resultList f.resultTypes.size (.bool true)) (s.fn H (ds++[])).results []:=by
  intro b sp hd
  rw [hrl,hres,hrt]
  exact ⟨[],[],shut_bool htb true,rfl,rfl⟩
 have hS:∀ sp:Nat->Bool,(∀ x ∈ p,sp x.block=true)->DataW.TrodAll enc P W' 0 sp true f.params.toList args.toList (s.fn H (ds++[])).args p:=by
  intro sp hsp
  rw [hargs]
  exact Z5J hl hts hA (fun x hx=>hB.same (hlt x hx)) hsp
 have hV':∀ sp:Nat->Bool,DataW.TrodVars enc P W' sp s.vars (s.fn H (ds++[])).vars []:=by
  intro sp; rw [hvars,hvs]; exact rfl
 have hfz':W'.noneFrozen (p++[]):=by
  intro b off hp
  have h1:=hfz b off hp
  have h2:W'.heap[b]? = W.heap[b]?:=hB.block b (hlt (.cell b off) (by simpa using hp))
  unfold World.frozen? at h1 ⊢
  simp only at h1 ⊢
  rw [h2]; exact h1
 have hok:∀ (j:Nat) (t:TypeId) (r:Value),f.resultTypes[j]? = some t->(Value.resultList f.resultTypes.size (.bool true))[j]? = some r->Value.okWide P W' .any 0 t r :=
  ok_one hrt rfl (by simp [Value.okWide,htb,Cell.okWide,Cell.ok])
 refine ⟨ds,[],p++[],[],p,[],hW0,hR _ _ _,hS _ (fun x hx=>by simpa using hlt x hx),hV' _, ?_,fun _=>?_⟩
 · refine ⟨hB.os,hB.output,fun i hi=>?_⟩
   rw [hB.block i hi]
   split
   · rename_i h1 h2
     rw [h1] at h2
     cases h2
     exact ⟨rfl,rfl,rfl,fun _ _=>rfl⟩
   · rename_i h1 h2
     rw [h1] at h2
     cases h2
     exact .inr ⟨rfl,rfl⟩
   · rfl
 · refine ⟨hok,_,_,([]++p)++[],⟨[]++p,[],trodAll_append (hS (fun _=>true) (fun _ _=>rfl)) (hR _ _ _),hV' _,rfl, ?_, ?_⟩, ?_⟩
   · intro b off hp
     exact hfz' b off (by simpa using hp)
   · intro ha
     have:=hnd ha
     simpa using this
   · intro x hx _
     simpa using hx
end post
def Z3w (W:World) (v:Value) (sz n:Nat) (Gl:List Int):Prop :=
 Gl.length=n*sz/\n<=9223372036854775807/\((v = .slice none 0 0/\n=0) ∨
  ∃ b o cap C E fr,v = .slice (some ⟨b,o,none⟩) n cap/\n<=cap/\W.heap[b]? = some (.cells C E fr) /\ ∀ j,j<Gl.length->C[o+j]? = some (.int .i64 (Gl.getD j 0)))
def ZnT (i:Nat) (v:Value):Value :=
 match v with
 | .slice (some _) n cap=>.slice (some ⟨i,0,none⟩) n cap
 | v=>v
def ZnO (v:Value):Option ME :=
 match v with
 | .slice (some a) _ _=>some ⟨a.block,a.off,none⟩
 | _=>none
theorem Z3w.vr {W:World} {v:Value} {sz n:Nat} {Gl:List Int} (h:Z3w W v sz n Gl) {μ:Mu} {i:Nat} (hm:∀ m,ZnO v=some m->μ i=some m):VR μ (ZnT i v) v:=by
 obtain ⟨h1,h2,⟨rfl,_⟩ | ⟨b,o,cap,C,E,fr,rfl,_,_,_⟩⟩:=h
 · exact .sl0 0 0
 · have:=hm ⟨b,o,none⟩ rfl
   exact VR.sl (i:=i) (o:=0) this (Nat.le_refl _) (.inl rfl)
theorem Z3w.sl {W:World} {v:Value} {sz n:Nat} {Gl:List Int} (h:Z3w W v sz n Gl) {A:FH} {i c:Nat} (hi:i<256*c) (ha:∀ m,ZnO v=some m->A.f i=some (.cells true none (ints Gl))):SlI A c (ZnT i v) sz n Gl:=by
 obtain ⟨h1,h2,⟨rfl,rfl⟩ | ⟨b,o,cap,C,E,fr,rfl,_,_,_⟩⟩:=h
 · exact ⟨h1,h2,none,0,rfl,.inl ⟨rfl,OkV.sl0 _ _ _⟩⟩
 · refine ⟨h1,h2,some ⟨i,0,none⟩,cap,rfl,.inr ⟨i,0,ints Gl,rfl,hi,⟨true,none,ha _ rfl⟩, ?_⟩⟩
   rw [List.drop_zero,List.take_of_length_le (by simp [h1])]
theorem Z3w.blk {W:World} {v:Value} {sz n:Nat} {Gl:List Int} (h:Z3w W v sz n Gl) {μ:Mu} {m:ME} (hm:ZnO v=some m):Z6g μ m W.heap (some (.cells true none (ints Gl)))/\m.b<W.heap.size:=by
 obtain ⟨h1,h2,⟨rfl,rfl⟩ | ⟨b,o,cap,C,E,fr,rfl,_,h3,h4⟩⟩:=h
 · cases hm
 · cases hm
   refine ⟨⟨C,E,fr,h3,fun k x hx=>?_,(fun h=>by cases h),rfl⟩,(Array.getElem?_eq_some_iff.1 h3).1⟩
   have hk:k<Gl.length:=by have:=(List.getElem?_eq_some_iff.1 hx).1; simpa using this
   rw [ints_getD _ _ hk] at hx
   cases hx
   exact ⟨_,h4 k hk,.int _ _⟩
def Z3J (P:Program) (e:TypeId) (sz:Nat):Prop :=
 P.cellsOf e=sz /\ ∀ (H:Type) (enc:TypeId × Value->H) (w:World) (base:Nat) (spare:Nat->Bool) (held:Bool) (fuel:Nat) (cs:List Value) (x:DataW H × List MemPlace),
  DataW.trod enc P w base spare held fuel e cs=some x->cs.length=sz /\ ∀ v ∈ cs,∃ n,v = .int .i64 n
section flat
variable {P:Program}
theorem Z3J.int {e:TypeId} (he:P.underlying e=some (.int .i64)) (hc:P.cellsOf e=1):Z3J P e 1:=by
 refine ⟨hc,fun H enc w base spare held fuel cs x h=>?_⟩
 obtain ⟨n,rfl,_,_⟩:=DataW.trod_int he h
 exact ⟨rfl,fun v hv=>⟨n,by simpa using hv⟩⟩
theorem ZdC {α β:Type} {f:α->Option β}:∀ {l:List α} {r:List β},l.mapM f=some r -> ∀ a ∈ l,∃ b,f a=some b
 | [],r,h,a,ha=>by cases ha
 | x::l,r,h,a,ha=>by
  rw [List.mapM_cons] at h
  simp only [Option.bind_eq_bind,Option.bind_eq_some_iff] at h
  obtain ⟨y,hy,ys,hys,_⟩:=h
  rcases List.mem_cons.1 ha with rfl | ha
  · exact ⟨y,hy⟩
  · exact ZdC hys a ha
theorem Z3J.array {t e:TypeId} {n z:Nat} (ht:P.underlying t=some (.array n e)) (hf:Z3J P e z) (hc:P.cellsOf t=n*z):Z3J P t (n*z):=by
 refine ⟨hc,fun H enc w base spare held fuel cs x h=>?_⟩
 cases fuel with
 | zero=>simp [DataW.trod] at h
 | succ fuel =>
  have h':(if cs.length=P.cellsOf t then ((List.range n).mapM fun i=>DataW.trod enc P w base spare held fuel e ((cs.drop (i*P.cellsOf e)).take (P.cellsOf e))).map fun xs=>((.agg (xs.map (·.1)),xs.flatMap (·.2)):DataW H × List MemPlace) else none)=some x:=by
   have h1:=h
   unfold DataW.trod at h1
   rw [ht] at h1
   split at h1 <;> first | exact h1 | (rename_i e1 _; cases e1) | (rename_i e1 _ _; cases e1) | (rename_i e1; cases e1) | skip
   all_goals first | exact h1 | (simp_all; done) | skip
  split at h'
  · rename_i hl
    rw [hc] at hl
    refine ⟨hl,fun v hv=>?_⟩
    cases hm:(List.range n).mapM fun i=>DataW.trod enc P w base spare held fuel e ((cs.drop (i*P.cellsOf e)).take (P.cellsOf e)) with
    | none=>rw [hm] at h'; cases h'
    | some ys =>
     obtain ⟨j,hj⟩:=List.getElem?_of_mem hv
     have hjl:j<n*z:=by have:=(List.getElem?_eq_some_iff.1 hj).1; omega
     have hz:0<z:=by
      rcases Nat.eq_zero_or_pos z with e | e
      · rw [e] at hjl; simp at hjl
      · exact e
     have hi:j / z<n:=by rw [Nat.div_lt_iff_lt_mul hz]; exact hjl
     obtain ⟨y,hy⟩:=ZdC hm (j / z) (by simpa using hi)
     rw [hf.1] at hy
     refine (hf.2 _ _ _ _ _ _ _ _ _ hy).2 v ?_
     refine List.mem_of_getElem? (i:=j % z) ?_
     rw [List.getElem?_take_of_lt (Nat.mod_lt _ hz),List.getElem?_drop,Nat.mul_comm,Nat.div_add_mod]
     exact hj
  · cases h'
theorem Z3J.struct2 {t:TypeId} {f0 f1:Field} {z0 z1:Nat} (ht:P.underlying t=some (.struct #[f0,f1])) (h0:Z3J P f0.type z0) (h1:Z3J P f1.type z1) (o0:f0.offset=0) (o1:f1.offset=z0) (hc:P.cellsOf t=z0+z1):Z3J P t (z0+z1):=by
 refine ⟨hc,fun H enc w base spare held fuel cs x h=>?_⟩
 obtain ⟨xs,n,rfl,_,hl,hxl,hf⟩:=DataW.trod_struct ht h
 rw [hc] at hl
 refine ⟨hl,fun v hv=>?_⟩
 have g0:=hf 0 f0 rfl
 have g1:=hf 1 f1 rfl
 have l2:xs.length=2:=hxl
 rw [List.getElem?_eq_getElem qO] at g0 g1
 rw [h0.1,o0,List.drop_zero] at g0
 rw [h1.1,o1] at g1
 obtain ⟨j,hj⟩:=List.getElem?_of_mem hv
 have hjl:j<z0+z1:=by have:=(List.getElem?_eq_some_iff.1 hj).1; omega
 by_cases hlt:j<z0
 · refine (h0.2 _ _ _ _ _ _ _ _ _ g0).2 v (List.mem_of_getElem? (i:=j) ?_)
   rw [List.getElem?_take_of_lt hlt]; exact hj
 · refine (h1.2 _ _ _ _ _ _ _ _ _ g1).2 v (List.mem_of_getElem? (i:=j-z0) ?_)
   rw [List.getElem?_take_of_lt qO,List.getElem?_drop,show z0+(j-z0)=j by omega]
   exact hj
theorem Z8n {H:Type} {enc:TypeId × Value->H} {W:World} {base:Nat} {t e:TypeId} {sz:Nat} {v:Value} {fuel:Nat} {x:DataW H × List MemPlace} (ht:P.underlying t=some (.slice e)) (hf:Z3J P e sz) (hz:0<sz)
 (hval:Cell.okWide P W .any base t v) (hd:DataW.trod enc P W 0 (fun _=>true) true fuel t [v]=some x):∃ n Gl,Z3w W v sz n Gl:=by
 rcases DataW.trod_slice ht hd with ⟨h1,_⟩ | ⟨a,len,cap,elems,rest,n,_,h1,_,hb,hl,hm,hlen,hel,_,_⟩
 · cases h1
   exact ⟨0,[],by simp,by omega,.inl ⟨rfl,rfl⟩⟩
 · cases h1
   have hok:Cell.ok P W .any base t (.slice (some a) len cap):=by
    unfold Cell.okWide at hval
    rw [ht] at hval
    exact hval
   unfold Cell.ok at hok
   rw [ht] at hok
   obtain ⟨_,_,_,hsp,row,cells,hsh,_⟩:=hok
   obtain ⟨b,o,sp⟩:=a
   simp only at hsp
   subst hsp
   unfold World.shape? at hsh
   have hblk:∃ C E fr,W.heap[b]? = some (.cells C E fr):=by
    split at hsh
    · rename_i c el fr hh; exact ⟨c,el,fr,hh⟩
    · cases hsh
   obtain ⟨C,E,fr,hC⟩:=hblk
   have hadd:∀ o k,(⟨b,o,none⟩:Addr).add k=⟨b,o+k,none⟩:=fun o k=>by unfold Addr.add; split <;> simp_all
   have hcell:∀ j,j<len*sz -> ∃ z,C[o+j]? = some (.int .i64 z):=by
    intro j hj
    have hi:j / sz<len:=by rw [Nat.div_lt_iff_lt_mul hz]; exact hj
    have h2:=hel (j / sz) hi
    rw [List.getElem?_eq_getElem qO] at h2
    simp only [Option.bind_eq_some_iff] at h2
    obtain ⟨cs,hcs,htr⟩:=h2
    rw [hf.1] at hcs
    obtain ⟨_,hcl,hcg⟩:=World.cells?_some hcs
    have h3:=hcg (j % sz) (Nat.mod_lt _ hz)
    have hfl:=hf.2 _ _ _ _ _ _ _ _ _ htr
    have hjm:j % sz<cs.length:=by rw [hcl]; exact Nat.mod_lt _ hz
    rw [List.getElem?_eq_getElem hjm] at h3
    obtain ⟨z,hz'⟩:=hfl.2 cs[j % sz] (List.getElem_mem hjm)
    rw [hz',hadd] at h3
    have:(⟨b,o+j / sz*sz,none⟩:Addr).add (j % sz)=⟨b,o+j,none⟩:=by
     rw [hadd]
     have:=Nat.div_add_mod j sz
     rw [Nat.mul_comm] at this
     congr 1; omega
    rw [this] at h3
    refine ⟨z, ?_⟩
    simpa [World.cell?,hC] using h3
   refine ⟨len,(List.range (len*sz)).map fun j=>(match C[o+j]? with | some (.int .i64 z)=>z | _=>0),by simp, ?_,.inr ⟨b,o,cap,C,E,fr,rfl,hl,hC,fun j hj=>?_⟩⟩
   · unfold maxLen at hm
     have:cap<=9223372036854775807:=by simp at hm; omega
     omega
   · have hj':j<len*sz:=by simpa using hj
     obtain ⟨z,hz'⟩:=hcell j hj'
     rw [hz']
     congr 2
     simp [List.getD,hj',hz']
end flat
end Go.Ab

namespace Go.Ab
open Go
def ZnN:Value->Option Addr
 | .slice a _ _=>a
 | _=>none
def SlX (h:FH) (s:Value) (sz n:Nat):Prop:=n<=capOf s/\ZlN h sz (ZnN s)=true
def subS (sz lo hi:Nat):Value->Value
 | .slice (some ⟨b,o,none⟩) _ cap=>.slice (some ⟨b,o+lo*sz,none⟩) (hi-lo) (cap-lo)
 | v=>v
theorem SlX.sub {h:FH} {c:Nat} {s:Value} {sz n:Nat} {L:List Int} (hs:SlI h c s sz n L) (hx:SlX h s sz n) (k k':IntKind) (lo hi:Int) (h1:0<=lo) (h2:lo<=hi) (h3:hi<=(n:Int)) (hn:0<n) :
 slS h sz s (some (.int k lo)) (some (.int k' hi)) none=some (subS sz lo.toNat hi.toNat s):=by
 obtain ⟨g1,g2,a,cap,rfl,h4⟩:=hs
 obtain ⟨x1,x2⟩:=hx
 rcases h4 with ⟨e,hv⟩ | ⟨b,o,cs,rfl,e2,e3,e4⟩
 · omega
 · simp only [capOf,ZnN] at x1 x2
   have q0:Nat.ble cap cap=true:=Nat.ble_eq_true_of_le (Nat.le_refl _)
   have q1:(0:Int)<=hi:=by omega
   have q2:hi<=(cap:Int):=by omega
   have q3:lo<=(hi.toNat:Int):=by omega
   simp only [slS,x2,cond_true,Zm9,Zma,q0,Option.bind_some,bnd,decide_eq_true q1,decide_eq_true q2,decide_eq_true h1,decide_eq_true q3,Bool.and_self,Option.isSome_none,Bool.false_and,cond_false,Zmm,subS]
theorem SlI.sub {h:FH} {c:Nat} {s:Value} {sz n:Nat} {L:List Int} (hs:SlI h c s sz n L) (lo hi:Nat) (h2:lo<=hi) (h3:hi<=n) (hn:0<n) :
 SlI h c (subS sz lo hi s) sz (hi-lo) ((L.drop (lo*sz)).take ((hi-lo)*sz)):=by
 obtain ⟨g1,g2,a,cap,rfl,h4⟩:=hs
 rcases h4 with ⟨e,hv⟩ | ⟨b,o,cs,rfl,e2,e3,e4⟩
 · omega
 · have hm:lo*sz+(hi-lo)*sz<=L.length:=by
    rw [g1,← Nat.add_mul]; exact Nat.mul_le_mul_right _ qO
   refine ⟨by rw [List.length_take,List.length_drop]; omega,by omega,_,_,rfl,.inr ⟨b,o+lo*sz,cs,rfl,e2,e3, ?_⟩⟩
   exact ZgJ e4 hm
theorem SlX.same {h h':FH} {c:Nat} {s:Value} {sz n:Nat} {L:List Int} (hs:SlI h c s sz n L) (hn:0<n) (hh:Z0q c h h') (hx:SlX h s sz n):SlX h' s sz n:=by
 obtain ⟨g1,g2,a,cap,rfl,h4⟩:=hs
 obtain ⟨x1,x2⟩:=hx
 rcases h4 with ⟨e,hv⟩ | ⟨b,o,cs,rfl,e2,e3,e4⟩
 · omega
 · refine ⟨x1, ?_⟩
   simp only [ZnN,ZlN] at x2 ⊢
   have:HeapC.get h' b=HeapC.get h b:=hh b e2
   rw [this]; exact x2
def tyT:List Int:=[-1,0,1,2,0,-1,2,1,1,2,-1,0,2,1,0,-1]
def ty (i f:Int):Int:=((tyT.drop (i.toNat*4)).take 4).getD f.toNat 0
theorem Zdo {i f:Int} (h1:0<=i) (h2:i<4) (h3:0<=f) (h4:f<4) (hne:i ≠ f):0<=ty i f/\ty i f<3:=by
 have:((List.range 4).all fun i=>(List.range 4).all fun f=>decide (i=f) || (decide (0<=ty (i:Nat) (f:Nat)) && decide (ty (i:Nat) (f:Nat)<3)))=true:=by decide
 rw [List.all_eq_true] at this
 have h5:=this i.toNat (by simp; omega)
 rw [List.all_eq_true] at h5
 have h6:=h5 f.toNat (by simp; omega)
 have e1:((i.toNat:Nat):Int)=i:=by omega
 have e2:((f.toNat:Nat):Int)=f:=by omega
 rw [e1,e2] at h6
 have h7:¬ i.toNat=f.toNat:=by omega
 simpa [h7] using h6
def arcV (V:List Int) (t f i:Int):Int:=gi V (7*t+i)+gi V (7*t+4+ty i f)
end Go.Ab

namespace Go.Ab
open Go
theorem ne24 {p:List Int} (hp:p ∈ p24) {i j:Nat} (hi:i<4) (hj:j<4) (hne:i ≠ j):p.getD i 0 ≠ p.getD j 0:=by
 have:=Zdg (Q:=fun p=>(List.range 4).all fun i=>(List.range 4).all fun j=>decide (i=j) || decide (p.getD i 0 ≠ p.getD j 0)) (by kernel_rfl) hp
 rw [List.all_eq_true] at this
 have h1:=this i (by simpa using hi)
 rw [List.all_eq_true] at h1
 have h2:=h1 j (by simpa using hj)
 simpa [hne,-List.getD_eq_getElem?_getD] using h2
end Go.Ab

namespace Go.Ab
open Go
def Zdl (c0:Nat) (h:FH) (c:Nat) (v:Value) (n:Nat) (cs:List Value):Prop :=
 cs.length=n/\n<=9223372036854775807/\cs.all Z08=true ∧
  ∃ i op,v = .slice (some ⟨i,0,none⟩) n n/\256*c0<=i/\i<256*c/\h.f i=some (.cells false op cs)/\(op=none ∨ op=some 1)
theorem Zdl.flat {c0:Nat} {h:FH} {c:Nat} {v:Value} {n:Nat} {cs:List Value} (ha:Zdl c0 h c v n cs):Z08 v=true/\v.cells = #[v]:=by
 obtain ⟨_,_,_,i,op,rfl,_⟩:=ha; exact ⟨rfl,rfl⟩
theorem Zdl.mono {c0:Nat} {h:FH} {c c':Nat} {v:Value} {n:Nat} {cs:List Value} (hc:c<=c') (ha:Zdl c0 h c v n cs):Zdl c0 h c' v n cs:=by
 obtain ⟨h1,h2,h3,i,op,h4,h5,h6,h7⟩:=ha
 exact ⟨h1,h2,h3,i,op,h4,h5,by omega,h7⟩
theorem Zdl.blk {c0:Nat} {h:FH} {c:Nat} {v:Value} {n:Nat} {cs:List Value} (ha:Zdl c0 h c v n cs):256*c0<=Z1u v/\Z1u v<256*c:=by
 obtain ⟨h1,h2,h3,i,op,rfl,h5,h6,h7⟩:=ha
 exact ⟨h5,h6⟩
theorem Zdl.keep {c0:Nat} {h h':FH} {c:Nat} {v:Value} {n:Nat} {cs:List Value} (ha:Zdl c0 h c v n cs) (hh:h'.f (Z1u v)=h.f (Z1u v)):Zdl c0 h' c v n cs:=by
 obtain ⟨h1,h2,h3,i,op,rfl,h5,h6,h7,h8⟩:=ha
 exact ⟨h1,h2,h3,i,op,rfl,h5,h6,hh.trans h7,h8⟩
theorem Zdl.app {c0:Nat} {h:FH} {c c':Nat} {v:Value} {n:Nat} {cs:List Value} (ha:Zdl c0 h c v n cs) (x:Value) (hx:Z08 x=true) (by' b id:Nat) (hb:256*c<=b) (hid:256*c<=id) (hne:b ≠ id) (hc0:c0<=c)
 (hid':id<256*c') (hlim:(n+1)*(by'+1)<=17592186044416) :
 ∃ h',Z67 (newB h b [x]) id 1 by' v (.slice (some ⟨b,0,none⟩) 1 1)=some (.slice (some ⟨id,0,none⟩) (n+1) (n+1),h')/\Zdl c0 h' c' (.slice (some ⟨id,0,none⟩) (n+1) (n+1)) (n+1) (cs++[x]) ∧
  (∀ j,j<256*c->j ≠ Z1u v->h'.f j=h.f j):=by
 obtain ⟨h1,h2,h3,i,op,rfl,h5,h6,h7,h8⟩:=ha
 have hlim':Nat.ble ((n+1)*(by'+1)) 17592186044416=true:=Nat.ble_eq_true_of_le hlim
 have hsrc:Z0W (newB h b [x]) 1 (.slice (some ⟨b,0,none⟩) 1 1)=some ([x],1):=by
  have:Nat.ble (0+1*1) [x].length=true:=rfl
  simp only [Z0W,Z17,Z0r,get_newB_same,Option.bind_some,this,cond_true,List.drop_zero]
  rfl
 have hn1:n+1<=17592186044416:=by
  have:(n+1)*1<=(n+1)*(by'+1):=Nat.mul_le_mul_left _ qO
  omega
 have hcap:Nat.ble (n+1) n=false:=by rw [Bool.eq_false_iff]; intro hh; have:=Nat.le_of_ble_eq_true hh; omega
 have hfx:[x].all Z08=true:=by simp [hx]
 have hbi:i ≠ b:=by omega
 have hg:HeapC.get (newB h b [x]) i=some (.cells false op cs):=by rw [get_newB_ne _ _ _ _ hbi]; exact h7
 have hr:Nat.ble (0+n*1) cs.length=true:=Nat.ble_eq_true_of_le (by simp [h1])
 have ht:(cs.drop 0).take (n*1)=cs:=by rw [List.drop_zero,List.take_of_length_le qO]
 rcases h8 with rfl | rfl
 · refine ⟨HeapC.set (newB h b [x]) id (.cells false (some 1) ((cs.drop 0).take (n*1)++[x])), ?_,⟨by simp [h1],by omega,by simp only [List.all_append,h3,hfx,Bool.and_self],id,some 1,rfl,by omega,hid', ?_,.inr rfl⟩, ?_⟩
   · simp only [Z67,hsrc,Option.bind_some,appTo,hcap,cond_false,Z3u,hlim',hfx,Bool.and_self,cond_true,Z17,Z0r,hg,hr]
   · rw [Z0m,if_pos rfl,ht]
   · intro j hj hne'
     rw [Z0m,if_neg qO,Z0b,if_neg qO]
 · refine ⟨HeapC.set (HeapC.set (newB h b [x]) i .dead) id (.cells false (some 1) ((cs.drop 0).take (n*1)++[x])), ?_,⟨by simp [h1],by omega,by simp only [List.all_append,h3,hfx,Bool.and_self],id,some 1,rfl,by omega,hid', ?_,.inr rfl⟩, ?_⟩
   · simp only [Z67,hsrc,Option.bind_some,appTo,hcap,cond_false,Z3u,hlim',hfx,Bool.and_self,cond_true,Z17,Z0r,hg,hr,Nat.beq_refl,Bool.not_false,Bool.and_true]
   · rw [Z0m,if_pos rfl,ht]
   · intro j hj hne'
     rw [blkOf_sl] at hne'
     rw [Z0m,if_neg qO,Z0m,if_neg hne',Z0b,if_neg qO]
end Go.Ab

namespace Go.Ab
open Go
def Down (L:List Int) (m:Nat):Prop:=L.length=m /\ ∀ k,k<m->0<=L.getD k 0/\L.getD k 0<=k
theorem Z5N (l:List Int) (i j:Nat) (x:Int):(l.set i x).getD j 0=if i=j/\i<l.length then x else l.getD j 0:=by
 simp only [List.getD_eq_getElem?_getD,List.getElem?_set]
 by_cases h:i=j
 · subst h
   by_cases h2:i<l.length
   · simp [h2]
   · simp [h2]
 · simp [h]
theorem Down.set {L:List Int} {m i:Nat} {x:Nat} (hd:Down L m) (hi:i<m) (hx:x<=i):Down (L.set i x) m:=by
 refine ⟨by simp [hd.1],fun k hk=>?_⟩
 have hl:=hd.1
 rw [Z5N]
 split
 · rename_i h; obtain ⟨rfl,_⟩:=h; omega
 · exact hd.2 k hk
theorem Zdl.sl {c0:Nat} {h:FH} {c:Nat} {v:Value} {n:Nat} {L:List Int} (ha:Zdl c0 h c v n (ints L)):SlI h c v 1 n L:=by
 obtain ⟨h1,h2,h3,i,op,rfl,h5,h6,h7,h8⟩:=ha
 have hl:L.length=n:=by simpa using h1
 refine ⟨by omega,h2,some ⟨i,0,none⟩,n,rfl,.inr ⟨i,0,ints L,rfl,h6,⟨false,op,h7⟩, ?_⟩⟩
 rw [List.drop_zero,List.take_of_length_le (by simp [hl])]
end Go.Ab

namespace Go.Ab
open Go
end Go.Ab

namespace Go.Ab
open Go
def zs (Q:List Nat):List Int:=Q.map fun k:Nat=>(k:Int)
def Zm7:List Bool->Nat
 | []=>0
 | b::l=>(if b=true then 1 else 0)+Zm7 l
theorem ZeT:∀ {l:List Bool} {j:Nat},j<l.length->l.getD j false=false->Zm7 (l.set j true)=Zm7 l+1
 | [],j,h,_=>by simp at h
 | b::l,0,_,e=>by
  obtain rfl:b=false:=e
  show (if (true:Bool)=true then 1 else 0)+Zm7 l=_
  rw [Zm7,if_pos rfl,if_neg (by simp)]; omega
 | b::l,j+1,h,e=>by
  show (if b=true then 1 else 0)+Zm7 (l.set j true)=(if b=true then 1 else 0)+Zm7 l+1
  rw [ZeT (l:=l) (by simpa using h) e]; omega
theorem Zhs (l:List Bool) (i j:Nat) (x:Bool):(l.set i x).getD j false=if i=j/\i<l.length then x else l.getD j false:=by
 simp only [List.getD_eq_getElem?_getD,List.getElem?_set]
 by_cases h:i=j
 · subst h
   by_cases h2:i<l.length
   · simp [h2]
   · simp [h2]
 · simp [h]
def ps (w:Nat):Nat:=w / 4*7+w % 4
structure FSt where
 X:List Int
 K:List Bool
 Q:List Nat
 m:Int
def fU (Gl:List Int) (t f:Nat):Nat:=(Z1d (Z06 Gl t f)).toNat
def fJ (Gl:List Int) (t f i:Nat):Nat:=((Z0D (Z06 Gl t f)).getD i 0).toNat
def fV (Gl:List Int) (t f i:Nat):Nat:=4*fU Gl t f+fJ Gl t f i
def fW (Gl X:List Int) (t f i:Nat):Int:=arcV X t f i-gi X (7*(fU Gl t f:Int)+4+ty (fJ Gl t f i) (fJ Gl t f f))
structure FOk (n:Nat) (s:FSt) (B:Int):Prop where
 xl:s.X.length=7*n
 kl:s.K.length=4*n
 nd:s.Q.Nodup
 qk:∀ w ∈ s.Q,w<4*n/\s.K.getD w false=true
 qc:s.Q.length<=Zm7 s.K
 xb:∀ j:Nat,-B<=s.X.getD j 0/\s.X.getD j 0<=B
 mb:-B<=s.m/\s.m<=0
 qd:∀ t k:Nat,k<3->0<=s.X.getD (7*t+4+k) 0/\s.X.getD (7*t+4+k) 0<=1000000
theorem FOk.mono {n:Nat} {s:FSt} {B B':Int} (h:FOk n s B) (hb:B<=B'):FOk n s B' :=
 ⟨h.xl,h.kl,h.nd,h.qk,h.qc,fun j=>by have:=h.xb j; omega,by have:=h.mb; omega,h.qd⟩
structure FGl (Gl:List Int) (n t f i:Nat):Prop where
 u:fU Gl t f<n
 uz:Z1d (Z06 Gl t f)=(fU Gl t f:Nat)
 j:fJ Gl t f i<4
 jz:(Z0D (Z06 Gl t f)).getD i 0=(fJ Gl t f i:Nat)
 h:fJ Gl t f f<4
 hz:(Z0D (Z06 Gl t f)).getD f 0=(fJ Gl t f f:Nat)
 ne:fJ Gl t f i ≠ fJ Gl t f f
theorem FGl.of {Gl:List Int} {n t f i:Nat} (hok:Z0Y Gl n=true) (hG:Gl.length=n*20) (ht:t<n) (hf:f<4) (hi:i<4) (hne:i ≠ f) (hg:¬ Z1d (Z06 Gl t f)<0):FGl Gl n t f i:=by
 obtain ⟨h1,h2,h3,h4⟩:=Z2j (Z2s hok ht hf) hg
 have hp:=ZbM (Z1j (Z0G hG ht hf)) h2
 have r1:=Z1E hp hi
 have r2:=Z1E hp hf
 have r3:=ne24 hp hi hf hne
 exact ⟨by unfold fU; omega,by unfold fU; omega,by unfold fJ; omega,by unfold fJ; omega,by unfold fJ; omega,by unfold fJ; omega,by unfold fJ; omega⟩
theorem ZkD {Gl:List Int} {n t f i:Nat} {s:FSt} {B:Int} (h:FOk n s B) (ht:t<n) (hf:f<4) (hi:i<4) (hne:i ≠ f) (g:FGl Gl n t f i):-(B+1000000)<=fW Gl s.X t f i/\fW Gl s.X t f i<=B+1000000:=by
 unfold fW arcV
 have r1:=Zdo (i:=(i:Int)) (f:=(f:Int)) qO qO qO qO qO
 have r2:=Zdo (i:=(fJ Gl t f i:Int)) (f:=(fJ Gl t f f:Int)) qO (by have:=g.j; omega) qO (by have:=g.h; omega) (by have:=g.ne; omega)
 have q1:=h.qd t (ty i f).toNat qO
 have q2:=h.qd (fU Gl t f) (ty (fJ Gl t f i) (fJ Gl t f f)).toNat qO
 have q3:=h.xb (7*t+i)
 unfold gi
 rw [show (7*(t:Int)+i).toNat=7*t+i by omega,show (7*(t:Int)+4+ty i f).toNat=7*t+4+(ty i f).toNat by omega,
  show (7*(fU Gl t f:Int)+4+ty (fJ Gl t f i) (fJ Gl t f f)).toNat=7*fU Gl t f+4+(ty (fJ Gl t f i) (fJ Gl t f f)).toNat by omega]
 omega
theorem FOk.push {Gl:List Int} {n t f i:Nat} {s:FSt} {B:Int} (h:FOk n s B) (hB:0<=B) (ht:t<n) (hf:f<4) (hi:i<4) (hne:i ≠ f) (g:FGl Gl n t f i) (hk:s.K.getD (fV Gl t f i) false=false) :
 FOk n ⟨s.X.set (7*fU Gl t f+fJ Gl t f i) (fW Gl s.X t f i),s.K.set (fV Gl t f i) true,s.Q++[fV Gl t f i],min s.m (fW Gl s.X t f i)⟩ (B+1000000):=by
 have hv:fV Gl t f i<4*n:=by have:=g.u; have:=g.j; unfold fV; omega
 have hw:=ZkD h ht hf hi hne g
 have hj:=g.j
 refine ⟨by simp [h.xl],by simp [h.kl], ?_,fun w hw=>?_, ?_,fun j=>?_, ?_,fun u k hk=>?_⟩
 · rw [List.nodup_append]
   refine ⟨h.nd,by simp,fun a ha b hb=>?_⟩
   rw [List.mem_singleton] at hb
   subst hb
   rintro rfl
   have:=(h.qk _ ha).2
   rw [hk] at this; cases this
 · rw [Zhs]
   rcases List.mem_append.1 hw with h1 | h1
   · refine ⟨(h.qk w h1).1, ?_⟩
     split
     · rfl
     · exact (h.qk w h1).2
   · rw [List.mem_singleton] at h1
     subst h1
     exact ⟨hv,by rw [if_pos ⟨rfl,by rw [h.kl]; exact hv⟩]⟩
 · have:=h.qc
   rw [ZeT (by rw [h.kl]; exact hv) hk]; simp; omega
 · rw [Z5N]
   have:=h.xb j
   split <;> omega
 · have:=h.mb
   simp only
   omega
 · rw [Z5N,if_neg qO]
   exact h.qd u k hk
end Go.Ab
