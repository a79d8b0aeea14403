/- Parts of a proof: AbPm AbRn I4 I5 AbRow AbSub. Conditions: none. -/
import Derived.Test.YtcnndelmnobigaaM14
import Derived.Test.YtcnndelmnobigaaM7
import Derived.ProofKit
set_option linter.all false
set_option maxRecDepth 100000
namespace Go.Ab
open Go
def p24:List (List Int):=[[0,1,2,3],[0,1,3,2],[0,2,1,3],[0,2,3,1],[0,3,1,2],[0,3,2,1],[1,0,2,3],[1,0,3,2],[1,2,0,3],[1,2,3,0],[1,3,0,2],[1,3,2,0],[2,0,1,3],[2,0,3,1],[2,1,0,3],[2,1,3,0],[2,3,0,1],[2,3,1,0],[3,0,1,2],[3,0,2,1],[3,1,0,2],[3,1,2,0],[3,2,0,1],[3,2,1,0]]
theorem ZbI {p:List Int} (hp:p.length=4) (h:Z0N p=true):p ∈ p24:=by
 have hr:=Z1E h
 match p,hp with
 | [a,b,c,d],_ =>
  have ha:=hr a (by simp)
  have hb:=hr b (by simp)
  have hc:=hr c (by simp)
  have hd:=hr d (by simp)
  have:=ZmS (Q:=fun a b c d=>!Z0N [(a:Int),(b:Int),(c:Int),(d:Int)] || p24.contains [(a:Int),(b:Int),(c:Int),(d:Int)]) (by kernel_rfl)
   (a:=a.toNat) (b:=b.toNat) (c:=c.toNat) (d:=d.toNat) qO qO qO qO
  have ea:((a.toNat:Nat):Int)=a:=by omega
  have eb:((b.toNat:Nat):Int)=b:=by omega
  have ec:((c.toNat:Nat):Int)=c:=by omega
  have ed:((d.toNat:Nat):Int)=d:=by omega
  rw [ea,eb,ec,ed,h] at this
  simpa using this
theorem Z9i {Q:List Int->Bool} (h:p24.all Q=true) {p:List Int} (hp:p ∈ p24):Q p=true:=List.all_eq_true.1 h p hp
theorem ZmT {Q:List Int->List Int->Bool} (h:(p24.all fun p=>p24.all fun q=>Q p q)=true) {p q:List Int} (hp:p ∈ p24) (hq:q ∈ p24):Q p q=true:=List.all_eq_true.1 (List.all_eq_true.1 h p hp) q hq
theorem Zal {p:List Int} (hp:p ∈ p24):Z0N p=true:=Z9i (Q:=Z0N) (by kernel_rfl) hp
theorem Z5Z {p:List Int} (hp:p ∈ p24):p.length=4:=by simpa using Z9i (Q:=fun p=>p.length == 4) (by kernel_rfl) hp
theorem Z8y {p:List Int} (hp:p ∈ p24):inv p ∈ p24:=by simpa using Z9i (Q:=fun p=>p24.contains (inv p)) (by kernel_rfl) hp
theorem Zfz {p q:List Int} (hp:p ∈ p24) (hq:q ∈ p24):Z2o p q ∈ p24:=by simpa using ZmT (Q:=fun p q=>p24.contains (Z2o p q)) (by kernel_rfl) hp hq
theorem Zib {p:List Int} (hp:p ∈ p24):inv (inv p)=p:=by simpa using Z9i (Q:=fun p=>inv (inv p) == p) (by kernel_rfl) hp
theorem Z8x {p q:List Int} (hp:p ∈ p24) (hq:q ∈ p24):inv (Z2o p q)=Z2o (inv q) (inv p):=by simpa using ZmT (Q:=fun p q=>inv (Z2o p q) == Z2o (inv q) (inv p)) (by kernel_rfl) hp hq
theorem Z0C {p:List Int} (hp:p ∈ p24) {i:Nat} (hi:i<4):0<=p.getD i 0/\p.getD i 0<4:=by
 have:=Z9i (Q:=fun p=>(List.range 4).all fun i=>decide (0<=p.getD i 0) && decide (p.getD i 0<4)) (by kernel_rfl) hp
 rw [List.all_eq_true] at this
 simpa using this i (by simpa using hi)
theorem ZbM {p:List Int} (hp:p ∈ p24) {i:Nat} (hi:i<4):(inv p).getD (p.getD i 0).toNat 0=i:=by
 have:=Z9i (Q:=fun p=>(List.range 4).all fun i=>decide ((inv p).getD (p.getD i 0).toNat 0=(i:Int))) (by kernel_rfl) hp
 rw [List.all_eq_true] at this
 simpa using this i (by simpa using hi)
theorem Z7t {p q:List Int} (hq:q.length=4) {i:Nat} (hi:i<4):(Z2o p q).getD i 0=p.getD (q.getD i 0).toNat 0:=by
 simp only [Z2o,List.getD_eq_getElem?_getD,List.getElem?_map]
 rw [List.getElem?_eq_getElem (by omega:i<q.length)]
 simp
theorem Z0t (p q:List Int):(Z2o p q).length=q.length:=by simp [Z2o]
theorem ZgY {p q r:List Int} (hq:q ∈ p24) (hr:r ∈ p24):Z2o (Z2o p q) r=Z2o p (Z2o q r):=by
 have hl:=Z5Z hr
 apply List.ext_getElem?
 intro i
 by_cases hi:i<4
 · have e1:=Z7t (p:=Z2o p q) hl hi
   have e2:=Z7t (p:=p) (q:=Z2o q r) (by rw [Z0t,hl]) hi
   have e3:=Z7t (p:=q) hl hi
   have hg:=Z0C hr hi
   have e4:=Z7t (p:=p) (q:=q) (Z5Z hq) (i:=(r.getD i 0).toNat) qO
   have:(Z2o (Z2o p q) r).getD i 0=(Z2o p (Z2o q r)).getD i 0:=by rw [e1,e4,e2,e3]
   rw [List.getElem?_eq_getElem (by rw [Z0t]; omega),List.getElem?_eq_getElem (by rw [Z0t,Z0t]; omega)]
   simp only [List.getD_eq_getElem?_getD] at this
   rw [List.getElem?_eq_getElem (by rw [Z0t]; omega),List.getElem?_eq_getElem (by rw [Z0t,Z0t]; omega)] at this
   simpa using this
 · rw [List.getElem?_eq_none (by rw [Z0t]; omega),List.getElem?_eq_none (by rw [Z0t,Z0t]; omega)]
theorem Z1l {Gl:List Int} {n t f:Nat} (h:Z0l Gl n t f=true) (ht:¬ Z0z (Z01 Gl t f)<0) :
 Z0z (Z01 Gl t f)<n/\Z0N (Z0c (Z01 Gl t f))=true /\ ¬ (Z0z (Z01 Gl t f)=t/\(Z0c (Z01 Gl t f)).getD f 0=f) ∧
  Z01 Gl (Z0z (Z01 Gl t f)).toNat ((Z0c (Z01 Gl t f)).getD f 0).toNat=(t:Int)::inv (Z0c (Z01 Gl t f)):=by
 unfold Z0l at h
 have h0:Z01 Gl t f ≠ Z5Y:=fun e=>ht (by rw [e]; decide)
 simp only [h0,decide_false,Bool.false_or,Bool.and_eq_true,decide_eq_true_eq,Bool.not_eq_true'] at h
 obtain ⟨⟨⟨⟨h1,h2⟩,h3⟩,h4⟩,h5⟩:=h
 refine ⟨h2,h3,fun ⟨a,b⟩=>?_,h5⟩
 rw [decide_eq_true a,decide_eq_true b] at h4
 cases h4
theorem Z1Y {Gl:List Int} {n t f:Nat} (h:Z0w Gl n=true) (ht:t<n) (hf:f<4):Z0l Gl n t f=true:=by
 have:=(Z3P Gl n).1 h (4*t+f) qO
 have e1:(4*t+f) / 4=t:=by omega
 have e2:(4*t+f) % 4=f:=by omega
 rwa [e1,e2] at this
def Z93 (c0:Nat) (h:FH) (c:Nat) (v:Value) (sz n:Nat) (L:List Int):Prop :=
 L.length=n*sz/\n<=9223372036854775807/\((v = .slice none 0 0/\n=0) ∨
  ∃ i,v = .slice (some ⟨i,0,none⟩) n n/\256*c0<=i/\i<256*c/\h.f i=some (.cells false (some sz) (ints L)))
theorem Z93.nil (c0:Nat) (h:FH) (c sz:Nat):Z93 c0 h c (.slice none 0 0) sz 0 []:=⟨by simp,by omega,.inl ⟨rfl,rfl⟩⟩
theorem Z93.flat {c0:Nat} {h:FH} {c:Nat} {v:Value} {sz n:Nat} {L:List Int} (ha:Z93 c0 h c v sz n L):Z0d v=true/\v.cells = #[v]:=by
 obtain ⟨_,_,⟨rfl,_⟩ | ⟨i,rfl,_⟩⟩:=ha <;> exact ⟨rfl,rfl⟩
theorem Z93.sl {c0:Nat} {h:FH} {c:Nat} {v:Value} {sz n:Nat} {L:List Int} (ha:Z93 c0 h c v sz n L):SlI h c v sz n L:=by
 obtain ⟨h1,h2,⟨rfl,rfl⟩ | ⟨i,rfl,h3,h4,h5⟩⟩:=ha
 · exact ⟨h1,h2,none,0,rfl,.inl ⟨rfl,OkV.sl0 _ _ _⟩⟩
 · refine ⟨h1,h2,some ⟨i,0,none⟩,n,rfl,.inr ⟨i,0,ints L,rfl,h4,⟨false,some sz,h5⟩, ?_⟩⟩
   rw [List.drop_zero,List.take_of_length_le (by simp [h1])]
theorem Z93.mono {c0:Nat} {h:FH} {c c':Nat} {v:Value} {sz n:Nat} {L:List Int} (hc:c<=c') (ha:Z93 c0 h c v sz n L):Z93 c0 h c' v sz n L:=by
 obtain ⟨h1,h2,h3 | ⟨i,rfl,h3,h4,h5⟩⟩:=ha
 · exact ⟨h1,h2,.inl h3⟩
 · exact ⟨h1,h2,.inr ⟨i,rfl,h3,by omega,h5⟩⟩
theorem Z93.keep {c0:Nat} {h h':FH} {c:Nat} {v:Value} {sz n:Nat} {L:List Int} (hh:∀ i,256*c0<=i->i<256*c->h'.f i=h.f i) (ha:Z93 c0 h c v sz n L):Z93 c0 h' c v sz n L:=by
 obtain ⟨h1,h2,h3 | ⟨i,rfl,h3,h4,h5⟩⟩:=ha
 · exact ⟨h1,h2,.inl h3⟩
 · exact ⟨h1,h2,.inr ⟨i,rfl,h3,h4,by rw [hh i h3 h4,h5]⟩⟩
theorem Z93.app {c0:Nat} {h:FH} {c c':Nat} {v:Value} {sz n:Nat} {L:List Int} (ha:Z93 c0 h c v sz n L) (X:List Int) (hX:X.length=sz) (hsz:0<sz) (by' b id:Nat) (hb:256*c<=b) (hid:256*c<=id) (hne:b ≠ id) (hc0:c0<=c)
 (hid':id<256*c') (hlim:(n+1)*(by'+1)<=17592186044416) :
 ∃ v' h',Z9h (newB h b (ints X)) id sz by' v (.slice (some ⟨b,0,none⟩) 1 1)=some (v',h')/\Z93 c0 h' c' v' sz (n+1) (L++X)/\Z0E c0 h h'/\v' = .slice (some ⟨id,0,none⟩) (n+1) (n+1):=by
 obtain ⟨h1,h2,h3⟩:=ha
 have hlim':Nat.ble ((n+1)*(by'+1)) 17592186044416=true:=Nat.ble_eq_true_of_le hlim
 have hsrc:Z0H (newB h b (ints X)) sz (.slice (some ⟨b,0,none⟩) 1 1)=some (ints X,1):=by
  have:Nat.ble (0+1*sz) (ints X).length=true:=Nat.ble_eq_true_of_le (by simp [hX])
  simp only [Z0H,Z0Q,Z0k,get_newB_same,Option.bind_some,this,cond_true,List.drop_zero]
  rw [List.take_of_length_le (by simp [hX])]
 have hn1:n+1<=17592186044416:=by
  have:(n+1)*1<=(n+1)*(by'+1):=Nat.mul_le_mul_left _ qO
  omega
 have hcap:Nat.ble (n+1) n=false:=by rw [Bool.eq_false_iff]; intro hh; have:=Nat.le_of_ble_eq_true hh; omega
 rcases h3 with ⟨rfl,rfl⟩ | ⟨i,rfl,h3,h4,h5⟩
 · have hL:L=[]:=List.eq_nil_of_length_eq_zero (by simpa using h1)
   subst hL
   refine ⟨_,HeapC.set (newB h b (ints X)) id (.cells false (some sz) (ints X)), ?_,⟨by simp [hX],by omega,.inr ⟨id,rfl,by omega,hid', ?_⟩⟩, ?_,rfl⟩
   · simp only [Z9h,hsrc,Option.bind_some,appTo,hcap,cond_false,Z3B,hlim',Z6j,Bool.and_self,cond_true,Nat.beq_refl,Nat.zero_add]
   · rw [Z0r,if_pos rfl]; rfl
   · intro j hj
     rw [Z0r,if_neg qO,Z06,if_neg qO]
 · have hbi:i ≠ b:=by omega
   have hg:HeapC.get (newB h b (ints X)) i=some (.cells false (some sz) (ints L)):=by rw [get_newB_ne _ _ _ _ hbi]; exact h5
   have hr:Nat.ble (0+n*sz) (ints L).length=true:=Nat.ble_eq_true_of_le (by simp [h1])
   refine ⟨_,HeapC.set (HeapC.set (newB h b (ints X)) i .dead) id (.cells false (some sz) (((ints L).drop 0).take (n*sz)++ints X)), ?_,⟨?_,by omega,.inr ⟨id,rfl,by omega,hid', ?_⟩⟩, ?_,rfl⟩
   · simp only [Z9h,hsrc,Option.bind_some,appTo,hcap,cond_false,Z3B,hlim',Z6j,Bool.and_self,cond_true,Z0Q,Z0k,hg,hr,Nat.beq_refl,Bool.not_false,Bool.and_true]
   · simp [h1,hX,Nat.succ_mul]
   · rw [Z0r,if_pos rfl,List.drop_zero,List.take_of_length_le (by simp [h1]),Zcz]
   · intro j hj
     rw [Z0r,if_neg qO,Z0r,if_neg qO,Z06,if_neg qO]
def Z5D (F:Nat->List Int):Nat->List Int
 | 0=>[]
 | f+1=>Z5D F f++F f
theorem Z1k {F:Nat->List Int} (hF:∀ f,f<4->(F f).length=5):∀ f,f<=4->(Z5D F f).length=5*f
 | 0,_=>rfl
 | f+1,h=>by
  rw [Z5D,List.length_append,Z1k hF f qO,hF f qO]; omega
def Z9w (F:Nat->List Int) (f:Nat):List Int:=Z5D F f++List.replicate (20-5*f) 0
theorem Zcg {F:Nat->List Int} (hF:∀ f,f<4->(F f).length=5) {f:Nat} (h:f<=4):(Z9w F f).length=20:=by
 rw [Z9w,List.length_append,Z1k hF f h,List.length_replicate]; omega
theorem ZhD (F:Nat->List Int):Z9w F 4=Z5D F 4:=by simp [Z9w]
theorem Zcc (l x:List Int) (o:Nat):Z0Y (ints l) o (ints x)=ints (l.take o++x++l.drop (o+x.length)):=by
 simp [Z0Y,ints,List.map_take,List.map_drop]
theorem ZjG {F:Nat->List Int} (hF:∀ f,f<4->(F f).length=5) {f:Nat} (hf:f<4) (X:List Int) (hX:X.length=5) :
 (Z9w F f).take (5*f)++X++(Z9w F f).drop (5*f+X.length)=Z5D F f++X++List.replicate (20-5*(f+1)) 0:=by
 have hl:=Z1k hF f qO
 rw [Z9w,List.take_append_of_le_length qO,List.take_of_length_le qO,List.drop_append,List.drop_eq_nil_of_le qO,List.nil_append,List.drop_replicate,hX,hl]
 congr 2
 omega
end Go.Ab

namespace Go.Ab
open Go
def Zhd (Ord Pm:List Int) (n:Nat):Nat->Nat->List Bool->Bool
 | 0,_,_=>true
 | k+1,i,met=>if Ord.getD i 0<0 ∨ (n:Int)<=Ord.getD i 0 then false else if met.getD (Ord.getD i 0).toNat false=true then false else
  if Z0N (Z0i Pm i)=false then false else Zhd Ord Pm n k (i+1) (met.set (Ord.getD i 0).toNat true)
def Zg3 (Ord Pm:List Int) (a b n:Nat):Bool:=decide (a=n) && decide (b=n) && Zhd Ord Pm n n 0 (List.replicate n false)
theorem Z9y {Ord Pm:List Int} {n:Nat}:∀ {k i:Nat} {met:List Bool},Zhd Ord Pm n k i met=true -> ∀ j,i<=j->j<i+k->0<=Ord.getD j 0/\Ord.getD j 0<n/\Z0N (Z0i Pm j)=true
 | 0,i,met,h,j,h1,h2=>by omega
 | k+1,i,met,h,j,h1,h2=>by
  unfold Zhd at h
  split at h
  · cases h
  split at h
  · cases h
  split at h
  · cases h
  rename_i q1 q2 q3
  by_cases hj:j=i
  · subst hj
    exact ⟨by omega,by omega,by simpa using q3⟩
  · exact Z9y h j qO qO
def Z9g (Ord:List Int):Nat->Nat->List Int->List Int
 | 0,_,l=>l
 | k+1,i,l=>Z9g Ord k (i+1) (l.set (Ord.getD i 0).toNat i)
theorem Z7N (Ord:List Int):∀ (k i:Nat) (l:List Int),(Z9g Ord k i l).length=l.length
 | 0,_,_=>rfl
 | k+1,i,l=>by rw [Z9g,Z7N Ord k]; simp
theorem Z8Z (Ord:List Int) {n:Nat}:∀ (k i:Nat) (l:List Int),i+k<=n->(∀ x ∈ l,0<=x/\x<(n:Int)) -> ∀ x ∈ Z9g Ord k i l,0<=x/\x<(n:Int)
 | 0,_,_,_,h=>h
 | k+1,i,l,hn,h=>by
  refine Z8Z Ord k (i+1) _ qO ?_
  intro x hx
  rcases List.mem_or_eq_of_mem_set hx with h1 | h1
  · exact h x h1
  · omega
def Z17 (Ord:List Int) (n:Nat):List Int:=Z9g Ord n 0 (List.replicate n 0)
theorem Z65 (Ord:List Int) (n:Nat):(Z17 Ord n).length=n:=by simp [Z17,Z7N]
theorem Z7w (Ord:List Int) {n:Nat} (hn:0<n) (i:Nat) (hi:i<n):0<=(Z17 Ord n).getD i 0/\(Z17 Ord n).getD i 0<n:=by
 have:=Z8Z Ord n 0 (List.replicate n 0) (n:=n) qO (fun x hx=>by
  have:=List.eq_of_mem_replicate hx; omega)
 have hl:i<(Z17 Ord n).length:=by rw [Z65]; exact hi
 have h2:=this (Z17 Ord n)[i] (List.getElem_mem hl)
 simpa [List.getD,List.getElem?_eq_getElem hl] using h2
def rnF (Gl Ord Pm Bk:List Int) (i f:Nat):List Int :=
 if Z0z (Z01 Gl (Ord.getD i 0).toNat ((Z0i Pm i).getD f 0).toNat)<0 then Z5Y else
  Bk.getD (Z0z (Z01 Gl (Ord.getD i 0).toNat ((Z0i Pm i).getD f 0).toNat)).toNat 0 ::
   Z2o (inv (Z0i Pm (Bk.getD (Z0z (Z01 Gl (Ord.getD i 0).toNat ((Z0i Pm i).getD f 0).toNat)).toNat 0).toNat))
    (Z2o (Z0c (Z01 Gl (Ord.getD i 0).toNat ((Z0i Pm i).getD f 0).toNat)) (Z0i Pm i))
def rnL (Gl Ord Pm Bk:List Int):Nat->List Int
 | 0=>[]
 | i+1=>rnL Gl Ord Pm Bk i++Z5D (rnF Gl Ord Pm Bk i) 4
structure RnOk (Gl Ord Pm:List Int) (n:Nat):Prop where
 gl:Gl.length=n*20
 ol:Ord.length=n
 pl:Pm.length=n*4
 ok:Z0w Gl n=true
 rng:∀ j,j<n->0<=Ord.getD j 0/\Ord.getD j 0<n/\Z0N (Z0i Pm j)=true
theorem RnOk.p24 {Gl Ord Pm:List Int} {n:Nat} (h:RnOk Gl Ord Pm n) {j:Nat} (hj:j<n):Z0i Pm j ∈ Ab.p24:=ZbI (Z4v h.pl hj) (h.rng j hj).2.2
theorem Z5o {Gl Ord Pm:List Int} {n:Nat} (h:RnOk Gl Ord Pm n) {i:Nat} (hi:i<n) {f:Nat} (hf:f<4):(rnF Gl Ord Pm (Z17 Ord n) i f).length=5:=by
 unfold rnF
 split
 · rfl
 · rw [List.length_cons,Z0t,Z0t,Z4v h.pl hi]
theorem Z6N {Gl Ord Pm:List Int} {n:Nat} (h:RnOk Gl Ord Pm n):∀ i,i<=n->(rnL Gl Ord Pm (Z17 Ord n) i).length=i*20
 | 0,_=>rfl
 | i+1,hi=>by
  rw [rnL,List.length_append,Z6N h i qO,Z1k (fun f hf=>Z5o h qO hf) 4 qO]; omega
def rnE (Gl Ord Pm:List Int) (n a b:Nat):Int:=if n<=1000/\Z0w Gl n=true then (if Zg3 Ord Pm a b n=true then 0 else 1) else 7
def rnN (Gl Ord Pm:List Int) (n a b:Nat):Nat:=if n<=1000/\Z0w Gl n=true/\Zg3 Ord Pm a b n=true then n else 0
def rnR (Gl Ord Pm:List Int) (n a b:Nat):List Int:=if n<=1000/\Z0w Gl n=true/\Zg3 Ord Pm a b n=true then rnL Gl Ord Pm (Z17 Ord n) n else []
theorem ZaA {Ord Pm:List Int} {a b n:Nat}:Zg3 Ord Pm a b n=true ↔ a=n/\b=n/\Zhd Ord Pm n n 0 (List.replicate n false)=true:=by
 simp [Zg3,and_assoc]
theorem RnOk.of {Gl Ord Pm:List Int} {n a b:Nat} (hG:Gl.length=n*20) (hO:Ord.length=a) (hP:Pm.length=b*4) (h2:Z0w Gl n=true) (h3:Zg3 Ord Pm a b n=true):RnOk Gl Ord Pm n:=by
 obtain ⟨rfl,rfl,h4⟩:=ZaA.1 h3
 exact ⟨hG,hO,hP,h2,fun j hj=>Z9y h4 j qO qO⟩
theorem bldL20 (R:List Int) (hR:R.length=20):Z4Y [(.int .i64 0),(.int .i64 0),(.int .i64 0),(.int .i64 0),(.int .i64 0),(.int .i64 0),(.int .i64 0),(.int .i64 0),(.int .i64 0),(.int .i64 0),(.int .i64 0),(.int .i64 0),(.int .i64 0),(.int .i64 0),(.int .i64 0),(.int .i64 0),(.int .i64 0),(.int .i64 0),(.int .i64 0),(.int .i64 0)] [(0,20,av R)]=some (ints R):=by
 have h1:Nat.beq (av R).cells.size 20=true:=by simp [hR]
 show cond (Nat.beq (av R).cells.size 20 && Nat.ble (0+20) 20) (some (Z0Y _ 0 (av R).cells.toList)) none=_
 rw [h1]
 simp only [Bool.true_and,Z7Z]
 show some (Z0Y _ 0 (ints R))=_
 unfold Z0Y
 rw [List.take_zero,List.nil_append,List.drop_of_length_le (by simp [hR]),List.append_nil]
@[simp] theorem st1_agg (h:FH) (i o:Nat) (cs:List Value) (v:Value) (ho:o<cs.length) (hv:Z0d v=true):stN (newB h i cs) 1 (.pointer (some ⟨i,o,none⟩)) (.agg #[v])=some (newB h i (cs.set o v)):=by
 rw [Z1n h 1 i o cs (.agg #[v]) rfl qO (by simp [Value.cells,hv])]
 show some (newB h i (Z0Y cs o [v]))=_
 rw [Z2w cs o _ ho]
@[simp] theorem st1_sl (h:FH) (i o:Nat) (cs:List Value) (a:Option Addr) (n k:Nat) (ho:o<cs.length):stN (newB h i cs) 1 (.pointer (some ⟨i,o,none⟩)) (.slice a n k)=some (newB h i (cs.set o (.slice a n k))):=by
 rw [Z1n h 1 i o cs (.slice a n k) rfl qO rfl]
 show some (newB h i (Z0Y cs o [.slice a n k]))=_
 rw [Z2w cs o _ ho]
theorem Zhv {h:FH} {b o:Nat} {op:Option Nat} {cs:List Value} {v:Value} (hg:h.f b=some (.cells false op cs)) (ho:o<cs.length) (hf:Z0d v=true) :
 stN h 1 (.pointer (some ⟨b,o,none⟩)) (.agg #[v])=some (HeapC.set h b (.cells false op (cs.set o v))):=by
 have h1:Nat.ble (o+1) cs.length=true:=Nat.ble_eq_true_of_le qO
 have hg':HeapC.get h b=some (.cells false op cs):=hg
 simp [stN,Z2c,Value.cells,Z1U,hg',h1,hf,Z2w cs o v ho]
theorem Z0F {h:FH} {b:Nat} {cs:List Value} {v:Value} (hg:Z07 h b (v::cs)):ldN h 1 (.pointer (some ⟨b,0,none⟩))=some (.agg #[v]):=by
 rw [ldN_holds hg (by simp)]; simp
def ZfL (h:FH) (c:Nat) (Gl Ord Pm:List Int) (n a b:Nat) (r:Rt FH):Prop :=
 r.e = .ret/\r.df=[]/\c<=r.c/\Z0E c h r.h /\ ∃ v,r.vs=[.tuple #[.agg #[v],.int .i64 (rnE Gl Ord Pm n a b)]]/\SlI r.h r.c v 20 (rnN Gl Ord Pm n a b) (rnR Gl Ord Pm n a b)/\(0<rnN Gl Ord Pm n a b->256*c<=Z0D v)
theorem ZfL.callF {o:Orc FH} {g:FuncId} {args:List Value} {h:FH} {c:Nat} {Gl Ord Pm:List Int} {n a b:Nat} (e:Ans (o (.fn g) args h c []) (ZfL h c Gl Ord Pm n a b)) :
 ∃ v h' c',callF o g args h c=some (.tuple #[.agg #[v],.int .i64 (rnE Gl Ord Pm n a b)],h',c')/\c<=c'/\Z0E c h h'/\SlI h' c' v 20 (rnN Gl Ord Pm n a b) (rnR Gl Ord Pm n a b)/\(0<rnN Gl Ord Pm n a b->256*c<=Z0D v):=by
 obtain ⟨r,e1,r1,r2,r3,r4,v,r5,r6,r7⟩:=e
 refine ⟨v,r.h,r.c, ?_,r3,r4,r6,r7⟩
 simp only [Ab.callF,e1,Option.bind_some,r5]
end Go.Ab

namespace Go.Proofs.Ytcnndelmnobigaa
open Go Go.Ab Go.Proofs
theorem ZbK (so sp:Value) (n:Nat) (Ord Pm:List Int) (h:FH) (bm c:Nat) (hbm:bm<256*c) (cm:Nat) (hcm:cm<=c) (hbm2:256*cm<=bm) (h1:SlI h cm so 1 n Ord) (h2:SlI h cm sp 4 n Pm) (hn:n<=1000000) (df:List Nat) :
 ∀ (k i:Nat) (met:List Bool),i+k=n->met.length=n →
 Ans (G (Z9R none) [so,sp,.int .i64 n,.bool false,.slice (some ⟨bm,0,none⟩) n n,.int .i64 i] (newB h bm (bools met)) c df) fun r=>r.c=c/\r.df=df/\(∃ m',r.h=newB h bm (bools m')) ∧
  (if Zhd Ord Pm n k i met=true then r.e = .exit 0 else r.e = .ret/\r.v 3 = .bool false):=by
 intro k
 have ov1:=(h1.mono hcm).okV
 have ov2:=(h2.mono hcm).okV
 have b1:=h1.blk
 have b2:=h2.blk
 induction k with
 | zero =>
  intro i met hi hm
  refine Ans.lpG rfl rfl (Z6q ..) ?_
  unfold Z74
  have fx:=True.intro
  refine Ans.go ?_
  clear fx
  refine Ans.exit0 (by simp (disch:=(first | omega | assumption)) [ov1,ov2]) (by simp (disch:=(first | omega | assumption)) []) ⟨rfl,rfl,⟨_,rfl⟩,by simp [Zhd]⟩
 | succ k ih =>
  intro i met hi hm
  have hpl:=Z4v (i:=i) h2.1 qO
  have l1:=h1.rdi i qO qO
  have l2:=h2.perm i qO qO
  simp only [Int.toNat_natCast] at l1 l2
  rw [Z3U] at l1
  unfold Zhd
  obtain ⟨x,hx⟩:∃ x,Ord.getD i 0=x:=⟨_,rfl⟩
  rw [hx] at l1 ⊢
  have hlm:0<=x->x<n->ld1 (newB h bm (bools met)) (.pointer (some ⟨bm,x.toNat,none⟩))=some (.bool (met.getD x.toNat false)):=fun _ _=>by
   rw [ld1_newB_same,ZbZ _ _ qO]
  have hst:0<=x->x<n->stN (newB h bm (bools met)) 1 (.pointer (some ⟨bm,x.toNat,none⟩)) (.bool true)=some (newB h bm (bools (met.set x.toNat true))):=fun _ _=>by
   rw [st1_bool _ _ _ _ _ (by rw [Z7M]; omega),ZbY]
  refine Ans.lpG rfl rfl (Z6q ..) ?_
  unfold Z74
  repeat' (first | ((with_reducible first | refine Ans.bz ?_ | refine Ans.r1 ?_ | refine Ans.pkT ?_ | refine Ans.pkF ?_); try dsimp only [v_zero,v_succ]) | (with_reducible first | refine Ans.btL ?_ | refine Ans.bfL ?_ | refine Ans.gyT ?_ | refine Ans.gyF ?_ | refine Ans.gyG ?_ | refine Ans.bb ?_ | refine Ans.bc ?_ | refine Ans.ba ?_) | ((with_reducible first | refine Ans.lsT ?_ ?_ | refine Ans.leT ?_ ?_ | refine Ans.grT ?_ ?_ | refine Ans.geT ?_ ?_ | refine Ans.eqT ?_ ?_ | refine Ans.neT ?_ ?_); (focus omega)) | ((with_reducible first | refine Ans.lsF ?_ ?_ | refine Ans.leF ?_ ?_ | refine Ans.grF ?_ ?_ | refine Ans.geF ?_ ?_ | refine Ans.eqF ?_ ?_ | refine Ans.neF ?_ ?_); (focus omega)) | (with_reducible first | refine Ans.lsS (fun _=>?_) (fun _=>?_) | refine Ans.leS (fun _=>?_) (fun _=>?_) | refine Ans.grS (fun _=>?_) (fun _=>?_) | refine Ans.geS (fun _=>?_) (fun _=>?_) | refine Ans.eqS (fun _=>?_) (fun _=>?_) | refine Ans.neS (fun _=>?_) (fun _=>?_)) | ((with_reducible first | refine Ans.addN ?_ ?_ | refine Ans.add ?_ ?_ | refine Ans.sub ?_ ?_ | refine Ans.mul ?_ ?_); (focus omega)) | ((with_reducible first | refine Ans.ct ?_ ?_); (focus (simp (disch:=(first | omega | with_reducible assumption | (simp <;> omega) | fail)) [h1.ixs1,h2.ixs,l1,l2,hst,hpl]; done))) | ((with_reducible first | refine Ans.cf ?_ ?_); (focus (simp (disch:=(first | omega | with_reducible assumption | (simp <;> omega) | fail)) [h1.ixs1,h2.ixs,l1,l2,hst,hpl]; done))) | ((with_reducible refine Ans.ldT (by simp (disch:=(first | omega | with_reducible assumption | (simp <;> omega) | fail)) only [hlm,Z0q _ hpl] <;> rfl) ?_ ?_); (focus (with_reducible assumption)); try dsimp only [v_zero,v_succ]) | ((with_reducible refine Ans.cT (by simp (disch:=(first | omega | with_reducible assumption | (simp <;> omega) | fail)) only [hlm,Z0q _ hpl] <;> rfl) ?_ ?_); (focus (with_reducible assumption)); try dsimp only [v_zero,v_succ]) | ((with_reducible refine Ans.ldF (by simp (disch:=(first | omega | with_reducible assumption | (simp <;> omega) | fail)) only [hlm,Z0q _ hpl] <;> rfl) ?_ ?_); (focus (with_reducible assumption)); try dsimp only [v_zero,v_succ]) | ((with_reducible refine Ans.cF (by simp (disch:=(first | omega | with_reducible assumption | (simp <;> omega) | fail)) only [hlm,Z0q _ hpl] <;> rfl) ?_ ?_); (focus (with_reducible assumption)); try dsimp only [v_zero,v_succ]) | ((with_reducible refine Ans.ldS (by simp (disch:=(first | omega | with_reducible assumption | (simp <;> omega) | fail)) only [hlm,Z0q _ hpl] <;> rfl) (fun _=>?_) (fun _=>?_)) <;> try dsimp only [v_zero,v_succ]) | ((with_reducible refine Ans.cS (by simp (disch:=(first | omega | with_reducible assumption | (simp <;> omega) | fail)) only [hlm,Z0q _ hpl] <;> rfl) (fun _=>?_) (fun _=>?_)) <;> try dsimp only [v_zero,v_succ]) | (refine Ans.step (by simp (disch:=(first | omega | with_reducible assumption | (simp <;> omega) | fail)) [h1.ixs1,h2.ixs,l1,l2,hst,hpl,-List.getD_eq_getElem?_getD] <;> rfl) ?_; try dsimp only [v_zero,v_succ]) | fail)
  · (have fx:=ai ov1 (ai ov2 hbm); refine Ans.rt0 ?_; clear fx); exact ⟨rfl,rfl,⟨_,rfl⟩,by simp [*,-List.getD_eq_getElem?_getD]⟩
  · (have fx:=ai ov1 (ai ov2 hbm); refine Ans.rt0 ?_; clear fx); exact ⟨rfl,rfl,⟨_,rfl⟩,by simp [*,-List.getD_eq_getElem?_getD]⟩
  · (have fx:=ai ov1 (ai ov2 hbm); refine Ans.rt0 ?_; clear fx); exact ⟨rfl,rfl,⟨_,rfl⟩,by simp [*,-List.getD_eq_getElem?_getD]⟩
  · (have fx:=ai ov1 (ai ov2 hbm); refine Ans.nxB (B:=newB h bm (bools (met.set x.toNat true))) ?_ ?_; exact (Z3I.both (Z1D.bools _ _) (Z3I.refl _ _) hbm); clear fx)
    obtain ⟨r,hr,hq⟩:=ih (i+1) (met.set x.toNat true) qO (by simpa using hm)
    exact ⟨r,hr,by simpa [*,-List.getD_eq_getElem?_getD] using hq⟩
  · (have fx:=ai ov1 (ai ov2 hbm); refine Ans.rt0 ?_; clear fx); exact ⟨rfl,rfl,⟨_,rfl⟩,by simp [*,-List.getD_eq_getElem?_getD]⟩
theorem Zg9 (so sp:Value) (a b n:Nat) (Ord Pm:List Int) (h:FH) (c:Nat) (df:List Nat) (h1:SlI h c so 1 a Ord) (h2:SlI h c sp 4 b Pm) (hn:n<=1000000) :
 G (.fn 51) [so,sp,.int .i64 n] h c df=some ⟨.ret,[.bool (Zg3 Ord Pm a b n)],h,c,[]⟩:=by
 refine Z0u (fun r e=>f51_go e) (by simp) ?_
 unfold ZnO
 have l1:=h1.len
 have l2:=h2.len
 have hl:=ZbK so sp n Ord Pm h (256*(c+1+1)+1) (c+1+1+1+1) qO c qO qO
 repeat' (first | ((with_reducible first | refine Ans.bz ?_ | refine Ans.r1 ?_ | refine Ans.pkT ?_ | refine Ans.pkF ?_); try dsimp only [v_zero,v_succ]) | (with_reducible first | refine Ans.btL ?_ | refine Ans.bfL ?_ | refine Ans.gyT ?_ | refine Ans.gyF ?_ | refine Ans.gyG ?_ | refine Ans.bb ?_ | refine Ans.bc ?_ | refine Ans.ba ?_) | ((with_reducible first | refine Ans.lsT ?_ ?_ | refine Ans.leT ?_ ?_ | refine Ans.grT ?_ ?_ | refine Ans.geT ?_ ?_ | refine Ans.eqT ?_ ?_ | refine Ans.neT ?_ ?_); (focus omega)) | ((with_reducible first | refine Ans.lsF ?_ ?_ | refine Ans.leF ?_ ?_ | refine Ans.grF ?_ ?_ | refine Ans.geF ?_ ?_ | refine Ans.eqF ?_ ?_ | refine Ans.neF ?_ ?_); (focus omega)) | (with_reducible first | refine Ans.lsS (fun _=>?_) (fun _=>?_) | refine Ans.leS (fun _=>?_) (fun _=>?_) | refine Ans.grS (fun _=>?_) (fun _=>?_) | refine Ans.geS (fun _=>?_) (fun _=>?_) | refine Ans.eqS (fun _=>?_) (fun _=>?_) | refine Ans.neS (fun _=>?_) (fun _=>?_)) | ((with_reducible first | refine Ans.addN ?_ ?_ | refine Ans.add ?_ ?_ | refine Ans.sub ?_ ?_ | refine Ans.mul ?_ ?_); (focus omega)) | ((with_reducible first | refine Ans.ct ?_ ?_); (focus (simp (disch:=(first | omega | with_reducible assumption | (simp <;> omega) | fail)) [l1,l2,ZaC]; done))) | ((with_reducible first | refine Ans.cf ?_ ?_); (focus (simp (disch:=(first | omega | with_reducible assumption | (simp <;> omega) | fail)) [l1,l2,ZaC]; done))) | (refine Ans.step (by simp (disch:=(first | omega | with_reducible assumption | (simp <;> omega) | fail)) [l1,l2,ZaC,-List.getD_eq_getElem?_getD] <;> rfl) ?_; try dsimp only [v_zero,v_succ]) | fail)
 · exact Ans.pure (by simp [Zg3, *]; omega) (by simp)
 · exact Ans.pure (by simp [Zg3, *]; omega) (by simp)
 obtain rfl:a=n:=by omega
 obtain rfl:b=a:=by omega
 obtain ⟨⟨re,rv,rh,rc,rd⟩,hr,r1,r2,⟨m',r3⟩,r4⟩:=hl h1 h2 hn [] b 0 (List.replicate b false) qO (by simp)
 simp only at r1 r2 r3 r4
 subst r1 r2 r3
 simp only [Int.ofNat_eq_natCast,Int.cast_ofNat_Int] at hr
 cases hb:Zhd Ord Pm b b 0 (List.replicate b false) with
 | true =>
  rw [hb,if_pos rfl] at r4
  subst r4
  have fx:=hr
  refine Ans.go ?_
  clear fx
  exact Ans.pure (by simp [Zg3,hb]) (by simp (disch:=omega))
 | false =>
  rw [hb,if_neg (by simp)] at r4
  obtain ⟨rfl,r5⟩:=r4
  have fx:=ai hr r5
  refine Ans.go ?_
  clear fx
  exact Ans.pure (by rw [r5]; simp [Zg3,hb]) (by simp (disch:=omega))

theorem Z5P (p q:List Int) (hp:p ∈ p24) (hq:q ∈ p24) (h:FH) (c:Nat):callF G 52 [av p,av q] h c=some (av (Z2o p q),h,c):=by
 rw [Z0b (Zdm p q (Z5Z hp) (Z5Z hq) h c []),Zo9,if_pos ⟨Zal hp,Zal hq⟩]
theorem Zh2 (p:List Int) (hp:p ∈ p24) (h:FH) (c:Nat):callF G 42 [av p] h c=some (av (inv p),h,c):=by
 rw [Z5O p (Z5Z hp),invR,if_pos (Zal hp)]
set_option maxHeartbeats 400000 in
theorem rnR_in (s so sp sb v6 v11:Value) (n:Nat) (Gl Ord Pm:List Int) (gb br cm c:Nat) (h:FH) (i:Nat) (hi:i<n) (hn:n<=1000) (hcm:cm<=c) (hgb:gb<256*cm) (hbr:br<256*c) (hbr1:256*cm<=br)
 (hh:Z07 h gb [s]) (hg:SlI h cm s 20 n Gl) (ho:SlI h cm so 1 n Ord) (hp:SlI h cm sp 4 n Pm) (hb:SlI h cm sb 1 n (Z17 Ord n)) (hok:RnOk Gl Ord Pm n) (hv6:OkV c v6) (hv11:OkV c v11) (df:List Nat) :
 ∀ (k f:Nat),f+k=4 →
 Ans (G (Za0 none) [so,sp,ptrTo gb,v6,.int .i64 n,sb,v11,.int .i64 i,ptrTo br,.int .i64 f] (newB h br (ints (Z9w (rnF Gl Ord Pm (Z17 Ord n) i) f))) c df)
  fun r=>r=⟨.exit 4,[so,sp,ptrTo gb,v6,.int .i64 n,sb,v11,.int .i64 i,ptrTo br,.int .i64 4],newB h br (ints (Z5D (rnF Gl Ord Pm (Z17 Ord n) i) 4)),c,df⟩:=by
 intro k
 have o1:=(hg.mono hcm).okV
 have o2:=(ho.mono hcm).okV
 have o3:=(hp.mono hcm).okV
 have o4:=(hb.mono hcm).okV
 have b1:=hg.blk qO
 have b2:=ho.blk qO
 have b3:=hp.blk qO
 have b4:=hb.blk qO
 induction k with
 | zero =>
  intro f hf
  obtain rfl:f=4:=by omega
  refine Ans.lpG rfl rfl (Z6v ..) ?_
  unfold Z7l
  have fx:=True.intro
  refine Ans.go ?_
  clear fx
  (have fx:=ai o2 (ai o3 (ai o4 (ai hv6 (ai hv11 (ai hgb hbr))))); refine Ans.ex0 ?_; clear fx)
  rw [ZhD]
  rfl
 | succ k ih =>
  intro f hf
  have hF:∀ f,f<4->(rnF Gl Ord Pm (Z17 Ord n) i f).length=5:=fun f hf=>Z5o hok hi hf
  have ft:(f:Int)<4:=by omega
  obtain ⟨x1,x2,x3⟩:=hok.rng i hi
  have hpi:=hok.p24 hi
  have hpr:=Z0C hpi (i:=f) qO
  have e2:ld1 h (.pointer (some ⟨gb,0,none⟩))=some s:=by rw [Z03 hh]; rfl
  have l1:=ho.rdi i qO qO
  have l2:=hp.perm i qO qO
  have l3:=hp.rd (i*4+f) qO
  rw [← Nat.add_assoc] at l3
  simp only [Int.toNat_natCast] at l1 l2
  rw [Z3U] at l1
  have l3':Pm.getD (i*4+f) 0=(Z0i Pm i).getD f 0:=by rw [Z0i,Z3V _ _ _ qO,Z3W,Nat.mul_comm]
  rw [l3'] at l3
  obtain ⟨X,hX⟩:∃ X,Ord.getD i 0=X:=⟨_,rfl⟩
  obtain ⟨Y,hY⟩:∃ Y,(Z0i Pm i).getD f 0=Y:=⟨_,rfl⟩
  have fin:=hF f qO
  have fdef:rnF Gl Ord Pm (Z17 Ord n) i f=rnF Gl Ord Pm (Z17 Ord n) i f:=rfl
  conv at fdef=>rhs; unfold rnF
  rw [hX,hY] at fdef
  rw [hX] at l1 x1 x2
  rw [hY] at l3 hpr
  have l4:=hg.face X Y x1 x2 hpr.1 hpr.2
  have okf:=Z1Y hok.ok (t:=X.toNat) (f:=Y.toNat) qO qO
  have hfl:=Z0n hok.gl (t:=X.toNat) (f:=Y.toNat) qO qO
  have okg:=Z1l okf
  obtain ⟨F,hFF⟩:∃ F,Z01 Gl X.toNat Y.toNat=F:=⟨_,rfl⟩
  rw [hFF] at l4 hfl fdef okg
  clear okf
  have hT:F.getD 0 0=Z0z F:=rfl
  obtain ⟨T,hTT⟩:∃ T,Z0z F=T:=⟨_,rfl⟩
  rw [hTT] at hT okg fdef
  have b5:∀ H tm,ld1 (newB H tm (ints F)) (.pointer (some ⟨tm,0,none⟩))=some (.int .i64 T):=fun H tm=>by
   rw [ld1_newB_same,ints_getD _ _ qO,hT]
  have b6:∀ H tm,ldN (newB H tm (ints F)) 4 (.pointer (some ⟨tm,1,none⟩))=some (av (Z0c F)):=fun H tm=>by
   rw [ldN_newB_same _ _ _ _ _ (by simp [hfl]),Z3T,Z3S]; rfl
  have hRl:=Zcg hF (f:=f) qO
  have hst:∀ X,X.length=5->stN (newB h br (ints (Z9w (rnF Gl Ord Pm (Z17 Ord n) i) f))) 5 (.pointer (some ⟨br,f*5,none⟩)) (av X)=some (newB h br (ints (Z5D (rnF Gl Ord Pm (Z17 Ord n) i) f++X++List.replicate (20-5*(f+1)) 0))):=fun X hX=>by
   rw [Z1n _ _ _ _ _ _ (by simp [hX]) (by simp [hRl]; omega) (by simp)]
   rw [Z7Z,Zcc,Nat.mul_comm,ZjG hF qO X hX]
  have hs1:stN (newB h br (ints (Z9w (rnF Gl Ord Pm (Z17 Ord n) i) f))) 1 (.pointer (some ⟨br,f*5,none⟩)) (.int .i64 (-1))=some (newB h br (ints (Z5D (rnF Gl Ord Pm (Z17 Ord n) i) f++Z5Y++List.replicate (20-5*(f+1)) 0))):=by
   rw [st1_int _ _ _ _ _ _ (by simp [hRl]; omega),Z2r]
   congr 3
   rw [Z9w,List.set_append_right _ _ (by rw [Z1k hF f qO]; omega),Z1k hF f qO,show f*5-5*f=0 by omega,show 20-5*f=5+(20-5*(f+1)) by omega,← List.replicate_append_replicate,List.append_assoc]
   rfl
  refine Ans.lpG rfl rfl (Z6v ..) ?_
  unfold Z7l
  by_cases h0:T<0
  · clear okg
    rw [if_pos h0] at fdef
    have hs2:stN (newB h br (ints (Z9w (rnF Gl Ord Pm (Z17 Ord n) i) f))) 1 (.pointer (some ⟨br,f*5,none⟩)) (.int .i64 (-1))=some (newB h br (ints (Z9w (rnF Gl Ord Pm (Z17 Ord n) i) (f+1)))):=by
     rw [hs1,Z9w,Z5D,fdef]
    have fx:=ai e2 (ai ho.ixs1 (ai hp.ixs (ai hg.ixs (ai hb.ixs1 (ai l1 (ai l2 (ai l3 (ai l4 (ai b5 (ai hs2 hfl))))))))))
    refine Ans.go ?_
    clear fx
    (have fx:=ai o2 (ai o3 (ai o4 (ai hv6 (ai hv11 (ai hgb hbr))))); refine Ans.nxB (B:=newB h br (ints (Z9w (rnF Gl Ord Pm (Z17 Ord n) i) (f+1)))) ?_ ?_; exact (Z3I.both (Z1D.ints _ _) (Z3I.refl _ _) hbr); clear fx)
    exact ih (f+1) qO
  · rw [if_neg h0] at fdef
    obtain ⟨tn,g1,-,-⟩:=okg h0
    clear okg
    have pf:=ZbI (Z0O hfl) g1
    have kr:0<=gi (Z17 Ord n) T/\gi (Z17 Ord n) T<n:=Z7w Ord (n:=n) qO T.toNat qO
    have l5:=hb.rdi T qO tn
    have e7:(Z17 Ord n).getD T.toNat 0=gi (Z17 Ord n) T:=rfl
    rw [e7] at fdef
    obtain ⟨K,hK⟩:∃ K,gi (Z17 Ord n) T=K:=⟨_,rfl⟩
    rw [hK] at kr l5 fdef
    have l6:=hp.perm K kr.1 kr.2
    have pk:=hok.p24 (j:=K.toNat) qO
    have c1:=fun H c=>Zh2 _ pk H c
    have c2:=fun H c=>Z5P _ _ pf hpi H c
    have c3:=fun H c=>Z5P _ _ (Z8y pk) (Zfz pf hpi) H c
    have cl:(Z2o (inv (Z0i Pm K.toNat)) (Z2o (Z0c F) (Z0i Pm i))).length=4:=by rw [Z0t,Z0t,Z5Z hpi]
    have c4:=Zod K _ cl
    have hst2:=hst (K::Z2o (inv (Z0i Pm K.toNat)) (Z2o (Z0c F) (Z0i Pm i))) (by simp [cl])
    have hst3:stN (newB h br (ints (Z9w (rnF Gl Ord Pm (Z17 Ord n) i) f))) 5 (.pointer (some ⟨br,f*5,none⟩)) (av (K::Z2o (inv (Z0i Pm K.toNat)) (Z2o (Z0c F) (Z0i Pm i))))=some (newB h br (ints (Z9w (rnF Gl Ord Pm (Z17 Ord n) i) (f+1)))):=by
     rw [hst2,Z9w,Z5D,fdef]
    repeat' (first | ((with_reducible first | refine Ans.bz ?_ | refine Ans.r1 ?_ | refine Ans.pkT ?_ | refine Ans.pkF ?_); try dsimp only [v_zero,v_succ]) | (with_reducible first | refine Ans.btL ?_ | refine Ans.bfL ?_ | refine Ans.gyT ?_ | refine Ans.gyF ?_ | refine Ans.gyG ?_ | refine Ans.bb ?_ | refine Ans.bc ?_ | refine Ans.ba ?_) | ((with_reducible first | refine Ans.lsT ?_ ?_ | refine Ans.leT ?_ ?_ | refine Ans.grT ?_ ?_ | refine Ans.geT ?_ ?_ | refine Ans.eqT ?_ ?_ | refine Ans.neT ?_ ?_); (focus omega)) | ((with_reducible first | refine Ans.lsF ?_ ?_ | refine Ans.leF ?_ ?_ | refine Ans.grF ?_ ?_ | refine Ans.geF ?_ ?_ | refine Ans.eqF ?_ ?_ | refine Ans.neF ?_ ?_); (focus omega)) | (with_reducible first | refine Ans.lsS (fun _=>?_) (fun _=>?_) | refine Ans.leS (fun _=>?_) (fun _=>?_) | refine Ans.grS (fun _=>?_) (fun _=>?_) | refine Ans.geS (fun _=>?_) (fun _=>?_) | refine Ans.eqS (fun _=>?_) (fun _=>?_) | refine Ans.neS (fun _=>?_) (fun _=>?_)) | ((with_reducible first | refine Ans.addN ?_ ?_ | refine Ans.add ?_ ?_ | refine Ans.sub ?_ ?_ | refine Ans.mul ?_ ?_); (focus omega)) | ((with_reducible first | refine Ans.ct ?_ ?_); (focus (simp (disch:=(first | omega | with_reducible assumption | (simp <;> omega) | fail)) [e2,ho.ixs1,hp.ixs,hg.ixs,hb.ixs1,l1,l2,l3,l4,l5,l6,b5,b6,hfl,c1,c2,c3,c4,hst3,-ldN_newB_same]; done))) | ((with_reducible first | refine Ans.cf ?_ ?_); (focus (simp (disch:=(first | omega | with_reducible assumption | (simp <;> omega) | fail)) [e2,ho.ixs1,hp.ixs,hg.ixs,hb.ixs1,l1,l2,l3,l4,l5,l6,b5,b6,hfl,c1,c2,c3,c4,hst3,-ldN_newB_same]; done))) | (refine Ans.step (by simp (disch:=(first | omega | with_reducible assumption | (simp <;> omega) | fail)) [e2,ho.ixs1,hp.ixs,hg.ixs,hb.ixs1,l1,l2,l3,l4,l5,l6,b5,b6,hfl,c1,c2,c3,c4,hst3,-ldN_newB_same,-List.getD_eq_getElem?_getD] <;> rfl) ?_; try dsimp only [v_zero,v_succ]) | fail)
    (have fx:=ai o2 (ai o3 (ai o4 (ai hv6 (ai hv11 (ai hgb hbr))))); refine Ans.nxB (B:=newB h br (ints (Z9w (rnF Gl Ord Pm (Z17 Ord n) i) (f+1)))) ?_ ?_; exact (Z3I.both (Z1D.ints _ _) (Z3I.refl _ _) hbr); clear fx)
    exact ih (f+1) qO
theorem ZjH (so sp sb v2 v3:Value) (n:Nat) (Ord:List Int) (bm cm c:Nat) (h:FH) (hn:n<=1000) (hcm:cm<=c) (hbm:bm<256*c) (hbm1:256*cm<=bm) (hsb:sb = .slice (some ⟨bm,0,none⟩) n n)
 (ho:SlI h cm so 1 n Ord) (hO:∀ j,j<n->0<=Ord.getD j 0/\Ord.getD j 0<n) (o1:OkV c sp) (o2:OkV c v2) (o3:OkV c v3) (df:List Nat) :
 ∀ (k i:Nat) (l:List Int),i+k=n->l.length=n →
 Ans (G (Za2 none) [so,sp,v2,v3,.int .i64 n,sb,.int .i64 i] (newB h bm (ints l)) c df)
  fun r=>r=⟨.exit 0,[so,sp,v2,v3,.int .i64 n,sb,.int .i64 n],newB h bm (ints (Z9g Ord k i l)),c,df⟩:=by
 intro k
 have o4:=(ho.mono hcm).okV
 subst hsb
 induction k with
 | zero =>
  intro i l hi hl
  obtain rfl:i=n:=by omega
  refine Ans.lpG rfl rfl (Z6x ..) ?_
  unfold Z7n
  have fx:=True.intro
  refine Ans.go ?_
  clear fx
  (have fx:=ai o1 (ai o2 (ai o3 (ai o4 hbm))); refine Ans.ex0 ?_; clear fx)
  rfl
 | succ k ih =>
  intro i l hi hl
  have b1:=ho.blk qO
  have l1:=ho.rdi i qO qO
  have x1:=hO i qO
  simp only [Int.toNat_natCast] at l1
  rw [Z3U] at l1
  rw [Z9g]
  obtain ⟨X,hX⟩:∃ X,Ord.getD i 0=X:=⟨_,rfl⟩
  rw [hX] at l1 x1 ⊢
  have hst:stN (newB h bm (ints l)) 1 (.pointer (some ⟨bm,X.toNat,none⟩)) (.int .i64 i)=some (newB h bm (ints (l.set X.toNat i))):=by
   rw [st1_int _ _ _ _ _ _ (by simp; omega),Z2r]
  refine Ans.lpG rfl rfl (Z6x ..) ?_
  unfold Z7n
  have fx:=ai ho.ixs1 (ai l1 hst)
  refine Ans.go ?_
  clear fx
  (have fx:=ai o1 (ai o2 (ai o3 (ai o4 hbm))); refine Ans.nxB (B:=newB h bm (ints (l.set X.toNat i))) ?_ ?_; exact (Z3I.both (Z1D.ints _ _) (Z3I.refl _ _) hbm); clear fx)
  exact ih (i+1) _ qO (by simpa using hl)
theorem Znf (s so sp sb v6:Value) (n:Nat) (Gl Ord Pm:List Int) (gb bo cm c1:Nat) (h:FH) (hn:n<=1000) (hgb:gb<256*cm) (hbo:256*cm<=bo) (hbo1:bo<256*c1) (hcm:cm<=c1)
 (hh:Z07 h gb [s]) (hg:SlI h cm s 20 n Gl) (ho:SlI h cm so 1 n Ord) (hp:SlI h cm sp 4 n Pm) (hb:SlI h cm sb 1 n (Z17 Ord n)) (hok:RnOk Gl Ord Pm n) (hv6:OkV cm v6) (df:List Nat) :
 ∀ (k i c:Nat) (H:FH) (v:Value),i+k=n->c1<=c->Z0E cm h H->H.f bo=some (.cells false none [v])->Z93 c1 H c v 20 i (rnL Gl Ord Pm (Z17 Ord n) i) →
 Ans (G (Za1 none) [so,sp,ptrTo gb,v6,.int .i64 n,sb,ptrTo bo,.int .i64 i] H c df)
  fun r=>r.e = .exit 2/\r.vs=[so,sp,ptrTo gb,v6,.int .i64 n,sb,ptrTo bo,.int .i64 n]/\r.df=df/\c<=r.c/\Z0E cm h r.h ∧
   ∃ v,r.h.f bo=some (.cells false none [v])/\Z93 c1 r.h r.c v 20 n (rnL Gl Ord Pm (Z17 Ord n) n):=by
 intro k
 induction k with
 | zero =>
  intro i c H v hi hc hH hv ha
  obtain rfl:i=n:=by omega
  refine Ans.lpN rfl rfl (Z6w ..) ?_
  unfold Z7m
  have fx:=True.intro
  refine Ans.go ?_
  clear fx
  exact Ans.exitN ⟨rfl,rfl,rfl,(by show c<=c+1; omega),hH,v,hv,ha.mono (by show c<=c+1; omega)⟩
 | succ k ih =>
  intro i c H v hi hc hH hv ha
  have hF:∀ f,f<4->(rnF Gl Ord Pm (Z17 Ord n) i f).length=5:=fun f hf=>Z5o hok qO hf
  have hin:=Ans.eq (rnR_in s so sp sb v6 (ptrTo bo) n Gl Ord Pm gb (256*(c+1)) cm (c+1+1+1) H i qO hn qO hgb qO qO
   (hh.same hgb hH) (hg.same hH) (ho.same hH) (hp.same hH) (hb.same hH) hok (by obtain ⟨v',hv'⟩:=hv6; exact OkV.mono qO ⟨v',hv'⟩) (OkV.ptrTo qO) df 4 0 rfl)
  have hz:ints (Z9w (rnF Gl Ord Pm (Z17 Ord n) i) 0)=[(.int .i64 0),(.int .i64 0),(.int .i64 0),(.int .i64 0),(.int .i64 0),(.int .i64 0),(.int .i64 0),(.int .i64 0),(.int .i64 0),(.int .i64 0),(.int .i64 0),(.int .i64 0),(.int .i64 0),(.int .i64 0),(.int .i64 0),(.int .i64 0),(.int .i64 0),(.int .i64 0),(.int .i64 0),(.int .i64 0)]:=rfl
  rw [hz] at hin
  simp only [Int.ofNat_eq_natCast,Int.cast_ofNat_Int] at hin
  have hRl:=Z1k hF 4 qO
  obtain ⟨R,hR⟩:∃ R,Z5D (rnF Gl Ord Pm (Z17 Ord n) i) 4=R:=⟨_,rfl⟩
  have hL:rnL Gl Ord Pm (Z17 Ord n) (i+1)=rnL Gl Ord Pm (Z17 Ord n) i++R:=by rw [rnL,hR]
  rw [hR] at hin hRl
  have lv:ld1 H (.pointer (some ⟨bo,0,none⟩))=some v:=by rw [Z03 (cs:=[v]) ⟨false,none,hv⟩]; rfl
  have lr:ldN (newB H (256*(c+1)) (ints R)) 20 (.pointer (some ⟨256*(c+1),0,none⟩))=some (av R):=by
   rw [ldN_newB_same _ _ _ _ _ (by simp [hRl]),List.drop_zero,List.take_of_length_le (by simp [hRl])]; rfl
  have hbl:=bldL20 R hRl
  obtain ⟨v',h',e1,e2,e3,e4⟩:=(ha.keep (h':=newB H (256*(c+1)) (ints R)) (fun j _ hj=>by rw [Z06,if_neg qO])).mono (c':=c+1+1+1) qO |>.app (c':=c+1+1+1+1+1) R hRl qO 160 (256*(c+1+1+1)+3) (256*(c+1+1+1)+4) qO qO qO qO qO qO
  have hs0:Z0E c1 H h':=Z0E.trans ((Same_newB qO).2 (Z0E.refl _ _)) e3
  have hv':h'.f bo=some (.cells false none [v]):=(hs0 bo hbo1).trans hv
  have hst:=Z1z (v:=v') (o:=0) (show HeapC.get h' bo=_ from hv') (by simp) e2.flat.2 e2.flat.1
  refine Ans.lpN rfl rfl (Z6w ..) ?_
  unfold Z7m
  have fx:=ai hin (ai lv (ai lr (ai hbl (ai e1 hst))))
  refine Ans.go ?_
  clear fx
  refine Ans.nextN ?_
  refine (ih (i+1) _ _ v' qO qO ?_ ?_ ?_).mono ?_
  · intro j hj
    rw [Z0r,if_neg qO,hs0 j qO,hH j hj]
  · rw [Z0r,if_pos rfl]
  · rw [hL]
    exact e2.keep (fun j h1 h2=>by rw [Z0r,if_neg qO])
  · rintro r ⟨q1,q2,q3,q4,q5,q6⟩
    exact ⟨q1,q2,q3,by omega,q5,q6⟩
end Go.Proofs.Ytcnndelmnobigaa

namespace Go.Ab
open Go Go.ChangeShapes Go.RowKit
section post
variable {H:Type} {enc:TypeId × Value->H} {P:Program}
theorem Z9s:∀ {ts:List TypeId} {w:World} {vs:List Value} {ds:List (DataW H)} {ps:List MemPlace},DataW.TrodAll enc P w 0 (fun _=>true) true ts vs ds ps -> ∀ x ∈ ps,x.block<w.heap.size
 | [],w,vs,ds,ps,h,x,hx=>by
  obtain ⟨_,_,rfl⟩:=trodAll_nil h
  cases hx
 | t::ts,w,vs,ds,ps,h,x,hx=>by
  obtain ⟨v,vs',d,ds',p,q,rfl,rfl,rfl,h1,h2⟩:=trodAll_cons h
  rcases List.mem_append.1 hx with hx | hx
  · obtain ⟨n,h1⟩:=h1
    exact DataW.trod_lt n _ _ _ h1 x hx
  · exact Z9s h2 x hx
theorem Z6a (hl:laidOutB P=true):∀ {ts:List TypeId} {w w':World} {sp:Nat->Bool} {vs:List Value} {ds:List (DataW H)} {ps:List MemPlace},(∀ t ∈ ts,P.readableRec t=true/\t<P.types.size) →
 DataW.TrodAll enc P w 0 (fun _=>true) true ts vs ds ps->(∀ p ∈ ps,w.sameAt w' p)->(∀ p ∈ ps,sp p.block=true)->DataW.TrodAll enc P w' 0 sp true ts vs ds ps
 | [],w,w',sp,vs,ds,ps,_,h,_,_=>by
  obtain ⟨rfl,rfl,rfl⟩:=trodAll_nil h
  exact rfl
 | t::ts,w,w',sp,vs,ds,ps,hr,h,h1,h2=>by
  obtain ⟨v,vs',d,ds',p,q,rfl,rfl,rfl,g1,g2⟩:=trodAll_cons h
  refine ⟨p,q, ?_, ?_,rfl⟩
  · exact WideElems.Trod_stays hl (hr t (by simp)).1 (hr t (by simp)).2 g1 (fun x hx=>h1 x (List.mem_append.2 (.inl hx))) (fun x hx=>h2 x (List.mem_append.2 (.inl hx)))
  · exact Z6a hl (fun u hu=>hr u (by simp [hu])) g2 (fun x hx=>h1 x (List.mem_append.2 (.inr hx))) (fun x hx=>h2 x (List.mem_append.2 (.inr hx)))
theorem ZjF (hl:laidOutB P=true) {f:Func} {s:ChangeSpec} {apart fresh handsOn again:Bool} {W W':World} {args:Array Value} {ds gs:List (DataW H)} {before:List MemPlace} {tb:TypeId}
 (hts:∀ t ∈ f.params.toList,P.readableRec t=true/\t<P.types.size) (hvars:s.vars=[]) (hres:(s.fn H (ds++gs)).results=[.lit (.bool true)]) (hargs:(s.fn H (ds++gs)).args=ds) (hvs:(s.fn H (ds++gs)).vars=[])
 (hrt:f.resultTypes = #[tb]) (htb:P.underlying tb=some .bool) (hW:DataW.Whole enc P f.params.toList s.vars apart W args.toList ds gs before) (hB:Below W.heap.size W W') :
 s.post enc P f apart fresh handsOn again W args (.bool true) W':=by
 have hW0:=hW
 obtain ⟨p,q,hA,hV,rfl,hfz,hnd⟩:=hW
 rw [hvars] at hV
 have hgq:gs=[]/\q=[]:=by
  cases gs with
  | nil=>exact ⟨rfl,hV⟩
  | cons g gs=>exact hV.elim
 obtain ⟨rfl,rfl⟩:=hgq
 have hlt:=Z9s hA
 have hrl:Value.resultList f.resultTypes.size (.bool true)=[.bool true]:=by rw [hrt]; rfl
 have hR:∀ (b:Nat) (sp:Nat->Bool) (hd:Bool),DataW.TrodAll enc P W' b sp hd f.resultTypes.toList (Value.resultList f.resultTypes.size (.bool true)) (s.fn H (ds++[])).results []:=by
  intro b sp hd
  rw [hrl,hres,hrt]
  exact ⟨[],[],shut_bool htb true,rfl,rfl⟩
 have hS:∀ sp:Nat->Bool,(∀ x ∈ p,sp x.block=true)->DataW.TrodAll enc P W' 0 sp true f.params.toList args.toList (s.fn H (ds++[])).args p:=by
  intro sp hsp
  rw [hargs]
  exact Z6a hl hts hA (fun x hx=>hB.same (hlt x hx)) hsp
 have hV':∀ sp:Nat->Bool,DataW.TrodVars enc P W' sp s.vars (s.fn H (ds++[])).vars []:=by
  intro sp; rw [hvars,hvs]; exact rfl
 have hfz':W'.noneFrozen (p++[]):=by
  intro b off hp
  have h1:=hfz b off hp
  have h2:W'.heap[b]? = W.heap[b]?:=hB.block b (hlt (.cell b off) (by simpa using hp))
  unfold World.frozen? at h1 ⊢
  simp only at h1 ⊢
  rw [h2]; exact h1
 have hok:∀ (j:Nat) (t:TypeId) (r:Value),f.resultTypes[j]? = some t->(Value.resultList f.resultTypes.size (.bool true))[j]? = some r->Value.okWide P W' .any 0 t r :=
  ok_one hrt rfl (by simp [Value.okWide,htb,Cell.okWide,Cell.ok])
 refine ⟨ds,[],p++[],[],p,[],hW0,hR _ _ _,hS _ (fun x hx=>by simpa using hlt x hx),hV' _, ?_,fun _=>?_⟩
 · refine ⟨hB.os,hB.output,fun i hi=>?_⟩
   rw [hB.block i hi]
   split
   · rename_i h1 h2
     rw [h1] at h2
     cases h2
     exact ⟨rfl,rfl,rfl,fun _ _=>rfl⟩
   · rename_i h1 h2
     rw [h1] at h2
     cases h2
     exact .inr ⟨rfl,rfl⟩
   · rfl
 · refine ⟨hok,_,_,([]++p)++[],⟨[]++p,[],trodAll_append (hS (fun _=>true) (fun _ _=>rfl)) (hR _ _ _),hV' _,rfl, ?_, ?_⟩, ?_⟩
   · intro b off hp
     exact hfz' b off (by simpa using hp)
   · intro ha
     have:=hnd ha
     simpa using this
   · intro x hx _
     simpa using hx
end post
def Z3M (W:World) (v:Value) (sz n:Nat) (Gl:List Int):Prop :=
 Gl.length=n*sz/\n<=9223372036854775807/\((v = .slice none 0 0/\n=0) ∨
  ∃ b o cap C E fr,v = .slice (some ⟨b,o,none⟩) n cap/\n<=cap/\W.heap[b]? = some (.cells C E fr) /\ ∀ j,j<Gl.length->C[o+j]? = some (.int .i64 (Gl.getD j 0)))
def Zmg (i:Nat) (v:Value):Value :=
 match v with
 | .slice (some _) n cap=>.slice (some ⟨i,0,none⟩) n cap
 | v=>v
def ZmV (v:Value):Option ME :=
 match v with
 | .slice (some a) _ _=>some ⟨a.block,a.off,none⟩
 | _=>none
theorem Z3M.vr {W:World} {v:Value} {sz n:Nat} {Gl:List Int} (h:Z3M W v sz n Gl) {μ:Mu} {i:Nat} (hm:∀ m,ZmV v=some m->μ i=some m):VR μ (Zmg i v) v:=by
 obtain ⟨h1,h2,⟨rfl,_⟩ | ⟨b,o,cap,C,E,fr,rfl,_,_,_⟩⟩:=h
 · exact .sl0 0 0
 · have:=hm ⟨b,o,none⟩ rfl
   exact VR.sl (i:=i) (o:=0) this (Nat.le_refl _) (.inl rfl)
theorem Z3M.sl {W:World} {v:Value} {sz n:Nat} {Gl:List Int} (h:Z3M W v sz n Gl) {A:FH} {i c:Nat} (hi:i<256*c) (ha:∀ m,ZmV v=some m->A.f i=some (.cells true none (ints Gl))):SlI A c (Zmg i v) sz n Gl:=by
 obtain ⟨h1,h2,⟨rfl,rfl⟩ | ⟨b,o,cap,C,E,fr,rfl,_,_,_⟩⟩:=h
 · exact ⟨h1,h2,none,0,rfl,.inl ⟨rfl,OkV.sl0 _ _ _⟩⟩
 · refine ⟨h1,h2,some ⟨i,0,none⟩,cap,rfl,.inr ⟨i,0,ints Gl,rfl,hi,⟨true,none,ha _ rfl⟩, ?_⟩⟩
   rw [List.drop_zero,List.take_of_length_le (by simp [h1])]
theorem Z3M.blk {W:World} {v:Value} {sz n:Nat} {Gl:List Int} (h:Z3M W v sz n Gl) {μ:Mu} {m:ME} (hm:ZmV v=some m):Z6H μ m W.heap (some (.cells true none (ints Gl)))/\m.b<W.heap.size:=by
 obtain ⟨h1,h2,⟨rfl,rfl⟩ | ⟨b,o,cap,C,E,fr,rfl,_,h3,h4⟩⟩:=h
 · cases hm
 · cases hm
   refine ⟨⟨C,E,fr,h3,fun k x hx=>?_,(fun h=>by cases h),rfl⟩,(Array.getElem?_eq_some_iff.1 h3).1⟩
   have hk:k<Gl.length:=by have:=(List.getElem?_eq_some_iff.1 hx).1; simpa using this
   rw [ints_getD _ _ hk] at hx
   cases hx
   exact ⟨_,h4 k hk,.int _ _⟩
def Z4q (P:Program) (e:TypeId) (sz:Nat):Prop :=
 P.cellsOf e=sz /\ ∀ (H:Type) (enc:TypeId × Value->H) (w:World) (base:Nat) (spare:Nat->Bool) (held:Bool) (fuel:Nat) (cs:List Value) (x:DataW H × List MemPlace),
  DataW.trod enc P w base spare held fuel e cs=some x->cs.length=sz /\ ∀ v ∈ cs,∃ n,v = .int .i64 n
section flat
variable {P:Program}
theorem Z4q.int {e:TypeId} (he:P.underlying e=some (.int .i64)) (hc:P.cellsOf e=1):Z4q P e 1:=by
 refine ⟨hc,fun H enc w base spare held fuel cs x h=>?_⟩
 obtain ⟨n,rfl,_,_⟩:=DataW.trod_int he h
 exact ⟨rfl,fun v hv=>⟨n,by simpa using hv⟩⟩
theorem ZdW {α β:Type} {f:α->Option β}:∀ {l:List α} {r:List β},l.mapM f=some r -> ∀ a ∈ l,∃ b,f a=some b
 | [],r,h,a,ha=>by cases ha
 | x::l,r,h,a,ha=>by
  rw [List.mapM_cons] at h
  simp only [Option.bind_eq_bind,Option.bind_eq_some_iff] at h
  obtain ⟨y,hy,ys,hys,_⟩:=h
  rcases List.mem_cons.1 ha with rfl | ha
  · exact ⟨y,hy⟩
  · exact ZdW hys a ha
theorem Z4q.array {t e:TypeId} {n z:Nat} (ht:P.underlying t=some (.array n e)) (hf:Z4q P e z) (hc:P.cellsOf t=n*z):Z4q P t (n*z):=by
 refine ⟨hc,fun H enc w base spare held fuel cs x h=>?_⟩
 cases fuel with
 | zero=>simp [DataW.trod] at h
 | succ fuel =>
  have h':(if cs.length=P.cellsOf t then ((List.range n).mapM fun i=>DataW.trod enc P w base spare held fuel e ((cs.drop (i*P.cellsOf e)).take (P.cellsOf e))).map fun xs=>((.agg (xs.map (·.1)),xs.flatMap (·.2)):DataW H × List MemPlace) else none)=some x:=by
   have h1:=h
   unfold DataW.trod at h1
   rw [ht] at h1
   split at h1 <;> first | exact h1 | (rename_i e1 _; cases e1) | (rename_i e1 _ _; cases e1) | (rename_i e1; cases e1) | skip
   all_goals first | exact h1 | (simp_all; done) | skip
  split at h'
  · rename_i hl
    rw [hc] at hl
    refine ⟨hl,fun v hv=>?_⟩
    cases hm:(List.range n).mapM fun i=>DataW.trod enc P w base spare held fuel e ((cs.drop (i*P.cellsOf e)).take (P.cellsOf e)) with
    | none=>rw [hm] at h'; cases h'
    | some ys =>
     obtain ⟨j,hj⟩:=List.getElem?_of_mem hv
     have hjl:j<n*z:=by have:=(List.getElem?_eq_some_iff.1 hj).1; omega
     have hz:0<z:=by
      rcases Nat.eq_zero_or_pos z with e | e
      · rw [e] at hjl; simp at hjl
      · exact e
     have hi:j / z<n:=by rw [Nat.div_lt_iff_lt_mul hz]; exact hjl
     obtain ⟨y,hy⟩:=ZdW hm (j / z) (by simpa using hi)
     rw [hf.1] at hy
     refine (hf.2 _ _ _ _ _ _ _ _ _ hy).2 v ?_
     refine List.mem_of_getElem? (i:=j % z) ?_
     rw [List.getElem?_take_of_lt (Nat.mod_lt _ hz),List.getElem?_drop,Nat.mul_comm,Nat.div_add_mod]
     exact hj
  · cases h'
theorem Z4q.struct2 {t:TypeId} {f0 f1:Field} {z0 z1:Nat} (ht:P.underlying t=some (.struct #[f0,f1])) (h0:Z4q P f0.type z0) (h1:Z4q P f1.type z1) (o0:f0.offset=0) (o1:f1.offset=z0) (hc:P.cellsOf t=z0+z1):Z4q P t (z0+z1):=by
 refine ⟨hc,fun H enc w base spare held fuel cs x h=>?_⟩
 obtain ⟨xs,n,rfl,_,hl,hxl,hf⟩:=DataW.trod_struct ht h
 rw [hc] at hl
 refine ⟨hl,fun v hv=>?_⟩
 have g0:=hf 0 f0 rfl
 have g1:=hf 1 f1 rfl
 have l2:xs.length=2:=hxl
 rw [List.getElem?_eq_getElem qO] at g0 g1
 rw [h0.1,o0,List.drop_zero] at g0
 rw [h1.1,o1] at g1
 obtain ⟨j,hj⟩:=List.getElem?_of_mem hv
 have hjl:j<z0+z1:=by have:=(List.getElem?_eq_some_iff.1 hj).1; omega
 by_cases hlt:j<z0
 · refine (h0.2 _ _ _ _ _ _ _ _ _ g0).2 v (List.mem_of_getElem? (i:=j) ?_)
   rw [List.getElem?_take_of_lt hlt]; exact hj
 · refine (h1.2 _ _ _ _ _ _ _ _ _ g1).2 v (List.mem_of_getElem? (i:=j-z0) ?_)
   rw [List.getElem?_take_of_lt qO,List.getElem?_drop,show z0+(j-z0)=j by omega]
   exact hj
theorem ZbH {H:Type} {enc:TypeId × Value->H} {W:World} {base:Nat} {t e:TypeId} {sz:Nat} {v:Value} {fuel:Nat} {x:DataW H × List MemPlace} (ht:P.underlying t=some (.slice e)) (hf:Z4q P e sz) (hz:0<sz)
 (hval:Cell.okWide P W .any base t v) (hd:DataW.trod enc P W 0 (fun _=>true) true fuel t [v]=some x):∃ n Gl,Z3M W v sz n Gl:=by
 rcases DataW.trod_slice ht hd with ⟨h1,_⟩ | ⟨a,len,cap,elems,rest,n,_,h1,_,hb,hl,hm,hlen,hel,_,_⟩
 · cases h1
   exact ⟨0,[],by simp,by omega,.inl ⟨rfl,rfl⟩⟩
 · cases h1
   have hok:Cell.ok P W .any base t (.slice (some a) len cap):=by
    unfold Cell.okWide at hval
    rw [ht] at hval
    exact hval
   unfold Cell.ok at hok
   rw [ht] at hok
   obtain ⟨_,_,_,hsp,row,cells,hsh,_⟩:=hok
   obtain ⟨b,o,sp⟩:=a
   simp only at hsp
   subst hsp
   unfold World.shape? at hsh
   have hblk:∃ C E fr,W.heap[b]? = some (.cells C E fr):=by
    split at hsh
    · rename_i c el fr hh; exact ⟨c,el,fr,hh⟩
    · cases hsh
   obtain ⟨C,E,fr,hC⟩:=hblk
   have hadd:∀ o k,(⟨b,o,none⟩:Addr).add k=⟨b,o+k,none⟩:=fun o k=>by unfold Addr.add; split <;> simp_all
   have hcell:∀ j,j<len*sz -> ∃ z,C[o+j]? = some (.int .i64 z):=by
    intro j hj
    have hi:j / sz<len:=by rw [Nat.div_lt_iff_lt_mul hz]; exact hj
    have h2:=hel (j / sz) hi
    rw [List.getElem?_eq_getElem qO] at h2
    simp only [Option.bind_eq_some_iff] at h2
    obtain ⟨cs,hcs,htr⟩:=h2
    rw [hf.1] at hcs
    obtain ⟨_,hcl,hcg⟩:=World.cells?_some hcs
    have h3:=hcg (j % sz) (Nat.mod_lt _ hz)
    have hfl:=hf.2 _ _ _ _ _ _ _ _ _ htr
    have hjm:j % sz<cs.length:=by rw [hcl]; exact Nat.mod_lt _ hz
    rw [List.getElem?_eq_getElem hjm] at h3
    obtain ⟨z,hz'⟩:=hfl.2 cs[j % sz] (List.getElem_mem hjm)
    rw [hz',hadd] at h3
    have:(⟨b,o+j / sz*sz,none⟩:Addr).add (j % sz)=⟨b,o+j,none⟩:=by
     rw [hadd]
     have:=Nat.div_add_mod j sz
     rw [Nat.mul_comm] at this
     congr 1; omega
    rw [this] at h3
    refine ⟨z, ?_⟩
    simpa [World.cell?,hC] using h3
   refine ⟨len,(List.range (len*sz)).map fun j=>(match C[o+j]? with | some (.int .i64 z)=>z | _=>0),by simp, ?_,.inr ⟨b,o,cap,C,E,fr,rfl,hl,hC,fun j hj=>?_⟩⟩
   · unfold maxLen at hm
     have:cap<=9223372036854775807:=by simp at hm; omega
     omega
   · have hj':j<len*sz:=by simpa using hj
     obtain ⟨z,hz'⟩:=hcell j hj'
     rw [hz']
     congr 2
     simp [List.getD,hj',hz']
end flat
end Go.Ab

namespace Go.Ab
open Go
def Z9j:Value->Option Addr
 | .slice a _ _=>a
 | _=>none
def SlX (h:FH) (s:Value) (sz n:Nat):Prop:=n<=capOf s/\Zcb h sz (Z9j s)=true
def subS (sz lo hi:Nat):Value->Value
 | .slice (some ⟨b,o,none⟩) _ cap=>.slice (some ⟨b,o+lo*sz,none⟩) (hi-lo) (cap-lo)
 | v=>v
theorem SlX.sub {h:FH} {c:Nat} {s:Value} {sz n:Nat} {L:List Int} (hs:SlI h c s sz n L) (hx:SlX h s sz n) (k k':IntKind) (lo hi:Int) (h1:0<=lo) (h2:lo<=hi) (h3:hi<=(n:Int)) (hn:0<n) :
 slS h sz s (some (.int k lo)) (some (.int k' hi)) none=some (subS sz lo.toNat hi.toNat s):=by
 obtain ⟨g1,g2,a,cap,rfl,h4⟩:=hs
 obtain ⟨x1,x2⟩:=hx
 rcases h4 with ⟨e,hv⟩ | ⟨b,o,cs,rfl,e2,e3,e4⟩
 · omega
 · simp only [capOf,Z9j] at x1 x2
   have q0:Nat.ble cap cap=true:=Nat.ble_eq_true_of_le (Nat.le_refl _)
   have q1:(0:Int)<=hi:=by omega
   have q2:hi<=(cap:Int):=by omega
   have q3:lo<=(hi.toNat:Int):=by omega
   simp only [slS,x2,cond_true,ZmQ,ZmR,q0,Option.bind_some,bnd,decide_eq_true q1,decide_eq_true q2,decide_eq_true h1,decide_eq_true q3,Bool.and_self,Option.isSome_none,Bool.false_and,cond_false,Zn8,subS]
theorem SlI.sub {h:FH} {c:Nat} {s:Value} {sz n:Nat} {L:List Int} (hs:SlI h c s sz n L) (lo hi:Nat) (h2:lo<=hi) (h3:hi<=n) (hn:0<n) :
 SlI h c (subS sz lo hi s) sz (hi-lo) ((L.drop (lo*sz)).take ((hi-lo)*sz)):=by
 obtain ⟨g1,g2,a,cap,rfl,h4⟩:=hs
 rcases h4 with ⟨e,hv⟩ | ⟨b,o,cs,rfl,e2,e3,e4⟩
 · omega
 · have hm:lo*sz+(hi-lo)*sz<=L.length:=by
    rw [g1,← Nat.add_mul]; exact Nat.mul_le_mul_right _ qO
   refine ⟨by rw [List.length_take,List.length_drop]; omega,by omega,_,_,rfl,.inr ⟨b,o+lo*sz,cs,rfl,e2,e3, ?_⟩⟩
   exact Zhh e4 hm
theorem SlX.same {h h':FH} {c:Nat} {s:Value} {sz n:Nat} {L:List Int} (hs:SlI h c s sz n L) (hn:0<n) (hh:Z0E c h h') (hx:SlX h s sz n):SlX h' s sz n:=by
 obtain ⟨g1,g2,a,cap,rfl,h4⟩:=hs
 obtain ⟨x1,x2⟩:=hx
 rcases h4 with ⟨e,hv⟩ | ⟨b,o,cs,rfl,e2,e3,e4⟩
 · omega
 · refine ⟨x1, ?_⟩
   simp only [Z9j,Zcb] at x2 ⊢
   have:HeapC.get h' b=HeapC.get h b:=hh b e2
   rw [this]; exact x2
theorem Z3M.slx {W:World} {v:Value} {sz n:Nat} {Gl:List Int} (h:Z3M W v sz n Gl) {A:FH} {i:Nat} (ha:∀ m,ZmV v=some m->A.f i=some (.cells true none (ints Gl))):SlX A (Zmg i v) sz n:=by
 obtain ⟨h1,h2,⟨rfl,rfl⟩ | ⟨b,o,cap,C,E,fr,rfl,g1,_,_⟩⟩:=h
 · exact ⟨Nat.zero_le _,rfl⟩
 · refine ⟨g1, ?_⟩
   have:HeapC.get A i=some (.cells true none (ints Gl)):=ha _ rfl
   simp only [Zmg,Z9j,Zcb,this]
def tyT:List Int:=[-1,0,1,2,0,-1,2,1,1,2,-1,0,2,1,0,-1]
def ty (i f:Int):Int:=((tyT.drop (i.toNat*4)).take 4).getD f.toNat 0
theorem Z4s {i f:Int} (h1:0<=i) (h2:i<4) (h3:0<=f) (h4:f<4) (hne:i ≠ f):0<=ty i f/\ty i f<3:=by
 have:((List.range 4).all fun i=>(List.range 4).all fun f=>decide (i=f) || (decide (0<=ty (i:Nat) (f:Nat)) && decide (ty (i:Nat) (f:Nat)<3)))=true:=by decide
 rw [List.all_eq_true] at this
 have h5:=this i.toNat (by simp; omega)
 rw [List.all_eq_true] at h5
 have h6:=h5 f.toNat (by simp; omega)
 have e1:((i.toNat:Nat):Int)=i:=by omega
 have e2:((f.toNat:Nat):Int)=f:=by omega
 rw [e1,e2] at h6
 have h7:¬ i.toNat=f.toNat:=by omega
 simpa [h7] using h6
def Z5z (V:List Int) (t f i:Int):Int:=gi V (7*t+i)+gi V (7*t+4+ty i f)
def nzC:List Int->Nat
 | []=>0
 | x::l=>(if x=0 then 0 else 1)+nzC l
def Zmc (L:List Int):Bool:=decide (nzC L<=1)
def Z13 (L:List Int):Bool:=L.all fun x=>decide (0<=x) && decide (x<=1000000)
theorem Z5j:∀ {df:List Nat} {h:FH},df.Nodup->(∀ d ∈ df,h.f d=some .dfr) -> ∃ h',Z09 h df=some h' /\ ∀ i,i ∉ df->h'.f i=h.f i
 | [],h,_,_=>⟨h,rfl,fun _ _=>rfl⟩
 | d::df,h,hn,hd=>by
  have h1:=hd d (by simp)
  have hg:HeapC.get h d=some .dfr:=h1
  obtain ⟨hn1,hn2⟩:=List.nodup_cons.1 hn
  obtain ⟨h',e,k⟩:=Z5j (df:=df) (h:=HeapC.del h d) hn2 (fun x hx=>by
   have hne:¬ x=d:=fun e=>hn1 (by rw [← e]; exact hx)
   rw [Z7s,if_neg hne]
   exact hd x (by simp [hx]))
  refine ⟨h',by simp only [Z09,hg,e],fun i hi=>?_⟩
  simp only [List.mem_cons,not_or] at hi
  rw [k i hi.2,Z7s,if_neg hi.1]
end Go.Ab
