/- Parts of a proof: N1 L8 T1 AbSg T2 K34 K39 K40 K38 K35. Conditions: none. -/
import Derived.Test.YtdodippbpdechaaM22
import Derived.Test.YtdodippbpdechaaM13
import Derived.Test.YtdodippbpdechaaM20
import Derived.Test.YtdodippbpdechaaM16
import Derived.Test.YtdodippbpdechaaM14
import Derived.Test.YtdodippbpdechaaM17
import Derived.Test.YtdodippbpdechaaM19
import Derived.Test.YtdodippbpdechaaM18
set_option linter.all false
set_option maxRecDepth 100000
namespace Go.Proofs.Ytdodippbpdechaa
open Go Go.Ab Go.Proofs
theorem Z2x (h:FH) (c:Nat):callF G 10 [] h c=some (.bool true,h,c):=Z0c (ZiG (f:=10) (args:=[]) (h:=h) (c:=c) (r:=⟨.ret,[.bool true],h,c,[]⟩) rfl)
theorem Z6b {a:Value} (ha:Z07 a=true):((Value.agg #[a]).cells.toList.all Z07)=true:=by simp [Value.cells,ha]
theorem Z6d (a:Value):(Value.agg #[a]).cells.toList=[a]:=rfl

theorem ZiZ (a0 a1 a2 a3 a4 b0 b1 b2 b3 b4:Int):Z0F P .neq 67 (av [a0,a1,a2,a3,a4]) (av [b0,b1,b2,b3,b4]) =
 (cond (a0 == b0) ((cond (a1 == b1) (cond (a2 == b2) (cond (a3 == b3) (cond (a4 == b4) (some true) (some false)) (some false)) (some false)) (some false)).bind fun r=>cond r (some true) (some false)) (some false)).bind fun b=>some (.bool (!b)):=by kernel_rfl
theorem ZmD (x:List Int) (hx:x.length=5):Z00 P .neq 67 (av x) (av x)=some (.bool false):=by
 match x,hx with
 | [a0,a1,a2,a3,a4],_ =>
  rw [Z0o,ZiZ]
  simp
theorem Z99 (u v:Value) (K:Nat) (L:List Int) (h:FH) (c:Nat) (df:List Nat) (hu:SlI h c u 5 K L) (hv:SlI h c v 5 K L) (hK:K<=100000):∀ (r i:Nat),i+r=K →
 Ans (G (Za5 none) [u,v,.bool false,.int .i64 K,.int .i64 i] h c df) fun q=>q=⟨.exit 0,[u,v,.bool false,.int .i64 K,.int .i64 K],h,c,df⟩:=by
 intro r
 have ou:=hu.okV
 have ov:=hv.okV
 have hl:=hu.1
 induction r with
 | zero =>
  intro i hi
  obtain rfl:i=K:=by omega
  refine Ans.lpG rfl rfl (Z6B ..) ?_
  unfold Z7f
  have fx:=True.intro
  refine Ans.go ?_
  clear fx
  (have fx:=ai ou ov; refine Ans.ex0 ?_; clear fx)
  rfl
 | succ r ih =>
  intro i hi
  have hk:=ih (i+1) qO
  have i1:(i:Int)<K:=by omega
  have x1:=hu.ixs .i64 i qO qO
  have x2:=hv.ixs .i64 i qO qO
  rw [Int.toNat_natCast] at x1 x2
  have r1:=hu.rdN 5 (i*5) qO qO
  have r2:=hv.rdN 5 (i*5) qO qO
  have ne:=ZmD ((L.drop (i*5)).take 5) (by rw [List.length_take,List.length_drop]; omega)
  obtain ⟨X,hX⟩:∃ X,av ((L.drop (i*5)).take 5)=X:=⟨_,rfl⟩
  rw [hX] at r1 r2 ne
  refine Ans.lpG rfl rfl (Z6B ..) ?_
  unfold Z7f
  have fx:=ai x1 (ai x2 (ai r1 (ai r2 ne)))
  refine Ans.go ?_
  clear fx
  (have fx:=ai ou ov; refine Ans.nx0 ?_; clear fx)
  exact hk
theorem Zgt (u v:Value) (K:Nat) (L:List Int) (h:FH) (c:Nat) (hu:SlI h c u 5 K L) (hv:SlI h c v 5 K L) (hK:K<=100000):callF G 32 [u,v] h c=some (.bool true,h,c):=by
 refine Z0c (df:=[]) (Z1l (fun r e=>f32_go e) (by simp) ?_)
 have lu:=hu.len
 have lv:=hv.len
 have lo:=Ans.eq (Z99 u v K L h (c+1+1+1) [] (hu.mono qO) (hv.mono qO) hK K 0 qO)
 simp only [Int.ofNat_eq_natCast,Int.cast_ofNat_Int] at lo
 unfold Zno
 have fx:=ai lu (ai lv lo)
 refine Ans.go ?_
 clear fx
 (have fx:=True.intro; exact Ans.pu)
theorem rg_len {Gl:List Int} {n:Nat} (hok:Z0v Gl n=true) (hG:Gl.length=n*20) {x0:List Int} (hx:WOk n x0) {k:Nat} (h:RgC Gl x0 2 k):k<=256*n:=by
 rcases Zeh (f:=wN Gl 2) (S:=WOk n) (cd:=wCd) (N:=256*n) (s:=x0) (Z1o hok hG qO) Zbr Z82 (Zdh hok hG qO) hx with ⟨m,m1,m2⟩ | ⟨m,m1,m2,m3⟩
 · exact absurd m2 (Zh9 h.1 h.2.1 m)
 · rcases Nat.lt_or_ge m k with q | q
   · exact absurd m3 (h.2.2 m m1 q)
   · omega
theorem ro_len {Gl:List Int} {n:Nat} (hok:Z0v Gl n=true) (hG:Gl.length=n*20) {x0 y:List Int} (hx:WOk n x0) {k:Nat} (h:RgO Gl x0 y k):k<=256*n:=by
 obtain ⟨_,⟨i,h1,h2⟩,x,h3,h4⟩:=h
 have hy:WOk n y:=Z1W (S:=WOk n) (Z1o hok hG qO) hx h1
 have yn:wN Gl 3 y=none:=by rw [it,h1] at h2; exact h2
 obtain ⟨m,m1,m2⟩:=Zeg (f:=wN Gl 2) (S:=WOk n) (cd:=wCd) (N:=256*n) (Z1o hok hG qO) Zbr Z82 (Zdh hok hG qO) hy (fun a ha e=>by
  have:=Z4D hok hG (lab:=2) (lab':=3) qO qO rfl a y ha e
  rw [yn] at this; cases this)
 have:=ZaL h3 m2
 omega

theorem ZiC (p:List Int) (hp:p.length=4) (h:FH) (b c j:Nat) (hb:b<256*c) (hj:j<4) (hg:Z0f h b (ints p)) (df:List Nat) :
 ∀ (r i:Nat) (s:Int),i+r=j->(s=1 ∨ s = -1)->Ans (G (Z9V none) [ptrTo b,.int .i64 s,.int .i64 j,.int .i64 i] h c df) fun q=>q=⟨.exit 2,[ptrTo b,.int .i64 (sgI p j r i s),.int .i64 j,.int .i64 j],h,c,df⟩:=by
 intro r
 have l2:ld1 h (.pointer (some ⟨b,j,none⟩))=some (.int .i64 (p.getD j 0)):=by rw [Z02 hg,ints_getD _ _ qO]
 have j4:(j:Int)<4:=by omega
 induction r with
 | zero =>
  intro i s hi hs
  obtain rfl:i=j:=by omega
  refine Ans.lpG rfl rfl (Z6w ..) ?_
  unfold Z78
  have fx:=True.intro
  refine Ans.go ?_
  clear fx
  (have fx:=hb; refine Ans.ex0 ?_; clear fx)
  rfl
 | succ r ih =>
  intro i s hi hs
  have l1:ld1 h (.pointer (some ⟨b,i,none⟩))=some (.int .i64 (p.getD i 0)):=by rw [Z02 hg,ints_getD _ _ qO]
  rw [sgI]
  obtain ⟨x,hx⟩:∃ x,p.getD i 0=x:=⟨_,rfl⟩
  obtain ⟨y,hy⟩:∃ y,p.getD j 0=y:=⟨_,rfl⟩
  rw [hx] at l1 ⊢
  rw [hy] at l2 ⊢
  refine Ans.lpG rfl rfl (Z6w ..) ?_
  unfold Z78
  by_cases e:y<x
  · rw [if_pos e]
    have hk:=ih (i+1) (-s) qO qO
    have fx:=ai l1 l2
    refine Ans.go ?_
    clear fx
    (have fx:=hb; refine Ans.nx0 ?_; clear fx)
    exact hk
  · rw [if_neg e]
    have hk:=ih (i+1) s qO hs
    have fx:=ai l1 l2
    refine Ans.go ?_
    clear fx
    (have fx:=hb; refine Ans.nx0 ?_; clear fx)
    exact hk
theorem Zgr (p:List Int) (hp:p.length=4) (h:FH) (b c:Nat) (hb:b<256*c) (hg:Z0f h b (ints p)) (df:List Nat) :
 ∀ (r j:Nat) (s:Int),j+r=4->(s=1 ∨ s = -1)->Ans (G (Z9W none) [ptrTo b,.int .i64 s,.int .i64 j] h c df) fun q=>q=⟨.exit 0,[ptrTo b,.int .i64 (sgO p r j s),.int .i64 4],h,c,df⟩:=by
 intro r
 induction r with
 | zero =>
  intro j s hj hs
  obtain rfl:j=4:=by omega
  refine Ans.lpG rfl rfl (Z6x ..) ?_
  unfold Z79
  have fx:=True.intro
  refine Ans.go ?_
  clear fx
  (have fx:=hb; refine Ans.ex0 ?_; clear fx)
  rfl
 | succ r ih =>
  intro j s hj hs
  have hin:=Ans.eq (ZiC p hp h b (c+1+1) j qO qO hg df j 0 s qO hs)
  simp only [Int.ofNat_eq_natCast,Int.cast_ofNat_Int] at hin
  have hs':=Zaw (p:=p) (j:=j) (r:=j) (i:=0) hs
  have hk:=ih (j+1) (sgI p j j 0 s) qO hs'
  have j4:(j:Int)<4:=by omega
  rw [sgO]
  obtain ⟨z,hz⟩:∃ z,sgI p j j 0 s=z:=⟨_,rfl⟩
  rw [hz] at hin hk ⊢
  refine Ans.lpG rfl rfl (Z6x ..) ?_
  unfold Z79
  have fx:=hin
  refine Ans.go ?_
  clear fx
  (have fx:=hb; refine Ans.nx0 ?_; clear fx)
  exact hk
theorem ZiB (p:List Int) (hp:p ∈ p24) (h:FH) (c:Nat) (df:List Nat):G (.fn 49) [av p] h c df=some ⟨.ret,[.int .i64 (sgP p)],h,c,[]⟩:=by
 refine Z1l (fun r e=>f49_go e) (by simp) ?_
 have lp:=Z44 hp
 have u7:(av p).cells.toList=ints p:=Z1y p
 unfold Znj
 rw [u7,Z0Q]
 simp only [cond_true,Nat.add_zero]
 have l1:ldN (newB h (256*c) (ints p)) 4 (.pointer (some ⟨256*c,0,none⟩))=some (av p):=by
  rw [ldN_newB_same _ _ _ _ _ (by simp [lp]),List.drop_zero,Z0G,List.take_of_length_le qO]; rfl
 have hl:=Ans.eq (Zgr p lp (newB h (256*c) (ints p)) (256*c) (c+1+1+1+1) qO (Z0f.newB_same _ _ _) [] 4 0 1 qO (.inl rfl))
 simp only [Int.ofNat_eq_natCast,Int.cast_ofNat_Int] at hl
 have sK:Z0s c h (newB h (256*c) (ints p)):=fun j hj=>by rw [Z01,if_neg qO]
 obtain ⟨K,hK⟩:∃ K,newB h (256*c) (ints p)=K:=⟨_,rfl⟩
 rw [hK] at hl sK l1 ⊢
 have hv:=fun c=>Z1b p lp K c
 rw [Z84 hp] at hv
 have fx:=ai hl (ai l1 hv)
 refine Ans.go ?_
 clear fx
 exact Ans.pure rfl sK
theorem Zd8 (p:List Int) (hp:p ∈ p24) (h:FH) (c:Nat):callF G 49 [av p] h c=some (.int .i64 (sgP p),h,c):=Z0c (ZiB p hp h c [])
end Go.Proofs.Ytdodippbpdechaa

namespace Go.Ab
open Go
def zcn:List Int->Nat
 | []=>0
 | x::l=>(if x=0 then 1 else 0)+zcn l
theorem Zly:∀ l:List Int,zcn l<=l.length
 | []=>Nat.le_refl _
 | x::l=>by have:=Zly l; rw [zcn,List.length_cons]; split <;> omega
theorem Zgg:∀ {l:List Int} {k:Nat} {w:Int},k<l.length->l.getD k 0=0->w ≠ 0->zcn (l.set k w)+1=zcn l
 | [],k,w,h,_,_=>by simp at h
 | x::l,0,w,_,h2,h3=>by
  have hx:x=0:=h2
  rw [List.set_cons_zero,zcn,zcn,if_neg h3,if_pos hx]; omega
 | x::l,k+1,w,h1,h2,h3=>by
  have:=Zgg (l:=l) (k:=k) (w:=w) (by simpa using h1) h2 h3
  rw [List.set_cons_succ,zcn,zcn]; omega
theorem Z6o {a b:Int} (ha:a=1 ∨ a = -1) (hb:b=1 ∨ b = -1):-a*b=1 ∨ -a*b = -1:=by
 rcases ha with rfl | rfl <;> rcases hb with rfl | rfl <;> simp
section
variable (K:Nat) (nb m:Nat->Nat->Int)
def gSt (a f:Nat) (S q:List Int):Option (List Int × List Int) :=
 if nb a f<0 then some (S,q)
 else if S.getD (nb a f).toNat 0=0 then some (S.set (nb a f).toNat (-S.getD a 0*m a f),q++[nb a f])
 else if S.getD (nb a f).toNat 0 ≠ -S.getD a 0*m a f then none else some (S,q)
def gFs (a:Nat):Nat->Nat->List Int->List Int->Option (List Int × List Int)
 | 0,_,S,q=>some (S,q)
 | r+1,f,S,q=>(gSt nb m a f S q).bind fun z=>gFs a r (f+1) z.1 z.2
def gQ:Nat->Nat->List Int->List Int->Option (List Int × List Int)
 | 0,_,S,q=>some (S,q)
 | r+1,k,S,q=>if k<q.length then (gFs nb m (q.getD k 0).toNat 4 0 S q).bind fun z=>gQ r (k+1) z.1 z.2 else some (S,q)
def gR:Nat->Nat->List Int->Option (List Int)
 | 0,_,S=>some S
 | r+1,f,S=>if S.getD f 0 ≠ 0 then gR r (f+1) S else (gQ nb m 1000 0 (S.set f 1) [(f:Int)]).bind fun z=>gR r (f+1) z.1
def ZnR (s:Nat->Int):Prop:=∀ a,a<K->(s a=1 ∨ s a = -1) /\ ∀ f,f<4->0<=nb a f->s (nb a f).toNat = -s a*m a f
structure Cl (S:List Int):Prop where
 l:S.length=K
 v:∀ j,S.getD j 0=0 ∨ S.getD j 0=1 ∨ S.getD j 0 = -1
 c:∀ a,a<K->S.getD a 0 ≠ 0 -> ∀ f,f<4->0<=nb a f->S.getD (nb a f).toNat 0 = -S.getD a 0*m a f
structure RV (S0 S q:List Int) (N:Nat):Prop where
 l:S.length=K
 v:∀ j,S.getD j 0=0 ∨ S.getD j 0=1 ∨ S.getD j 0 = -1
 keep:∀ j,S0.getD j 0 ≠ 0->S.getD j 0=S0.getD j 0
 qs:∀ x,x ∈ q->0<=x/\x<K/\S.getD x.toNat 0 ≠ 0/\S0.getD x.toNat 0=0
 qc:∀ j,j<K->S.getD j 0 ≠ 0->S0.getD j 0=0->(j:Int) ∈ q
 n:zcn S+q.length=N
variable {K nb m}
variable (hnb:∀ a f,a<K->f<4->nb a f = -1 ∨ (0<=nb a f/\nb a f<K)) (hm:∀ a f,m a f=1 ∨ m a f = -1) (hsym:∀ a f,a<K->f<4->0<=nb a f -> ∃ g,g<4/\nb (nb a f).toNat g=a)
 include hnb hm hsym
theorem ZmU {S0 S q:List Int} {N a f:Nat} (c0:Cl K nb m S0) (h:RV K S0 S q N) (ha:(a:Int) ∈ q) (hf:f<4) :
 match gSt nb m a f S q with
 | none=>∀ (s:Nat->Int) (e:Int),ZnR K nb m s->(∀ x,x ∈ q->S.getD x.toNat 0=e*s x.toNat)->False
 | some z=>RV K S0 z.1 z.2 N/\(∀ j,S.getD j 0 ≠ 0->z.1.getD j 0=S.getD j 0)/\(∃ t,z.2=q++t)/\(0<=nb a f->z.1.getD (nb a f).toNat 0 = -z.1.getD a 0*m a f) ∧
  ∀ (s:Nat->Int) (e:Int),ZnR K nb m s->(∀ x,x ∈ q->S.getD x.toNat 0=e*s x.toNat) -> ∀ x,x ∈ z.2->z.1.getD x.toNat 0=e*s x.toNat:=by
 obtain ⟨a1,a2,a3,a4⟩:=h.qs a ha
 rw [Int.toNat_natCast] at a3 a4
 have haK:a<K:=by omega
 have va:=(h.v a).resolve_left a3
 have hw:=Z6o va (hm a f)
 unfold gSt
 by_cases h1:nb a f<0
 · rw [if_pos h1]
   exact ⟨h,fun _ _=>rfl,⟨[],by simp⟩,fun z=>by omega,fun s e hs hq=>hq⟩
 · rw [if_neg h1]
   obtain ⟨b,hb⟩:∃ b:Nat,nb a f=b:=⟨(nb a f).toNat,by omega⟩
   have hbK:b<K:=by have:=hnb a f haK hf; omega
   rw [hb,Int.toNat_natCast]
   by_cases h2:S.getD b 0=0
   · rw [if_pos h2]
     have keep:∀ j,S.getD j 0 ≠ 0->(S.set b (-S.getD a 0*m a f)).getD j 0=S.getD j 0:=fun j hj=>by
      rw [Z0C,if_neg (fun z=>hj (by rw [← z.1]; exact h2))]
     have at':(S.set b (-S.getD a 0*m a f)).getD b 0 = -S.getD a 0*m a f:=by rw [Z0C,if_pos ⟨rfl,by rw [h.l]; exact hbK⟩]
     have s0b:S0.getD b 0=0:=by
      rcases Int.decEq (S0.getD b 0) 0 with q | q
      · exact absurd ((h.keep b q).symm.trans h2) q
      · exact q
     refine ⟨⟨by rw [List.length_set]; exact h.l,fun j=>?_,fun j hj=>?_,fun x hx=>?_,fun j hj hs h0=>?_, ?_⟩,keep,⟨[(b:Int)],rfl⟩,fun _=>?_,fun s e hs hq x hx=>?_⟩
     · rw [Z0C]
       split
       · exact .inr hw
       · exact h.v j
     · rw [keep j (by rw [h.keep j hj]; exact hj)]; exact h.keep j hj
     · rcases List.mem_append.1 hx with q | q
       · obtain ⟨u1,u2,u3,u4⟩:=h.qs x q
         exact ⟨u1,u2,by rw [keep _ u3]; exact u3,u4⟩
       · rw [List.mem_singleton.1 q,Int.toNat_natCast,at']
         exact ⟨by omega,by omega,by omega,s0b⟩
     · by_cases e:j=b
       · rw [e]; simp
       · rw [Z0C,if_neg (fun z=>e z.1.symm)] at hs
         exact List.mem_append_left _ (h.qc j hj hs h0)
     · have:=Zgg (l:=S) (k:=b) (w:=-S.getD a 0*m a f) (by rw [h.l]; exact hbK) h2 qO
       have:=h.n
       rw [List.length_append]
       simp only [List.length_cons,List.length_nil]
       omega
     · rw [at',keep a a3]
     · rcases List.mem_append.1 hx with q | q
       · rw [keep _ (h.qs x q).2.2.1]; exact hq x q
       · rw [List.mem_singleton.1 q,Int.toNat_natCast,at']
         have g:=(hs a haK).2 f hf qO
         rw [hb,Int.toNat_natCast] at g
         have:=hq a ha
         rw [Int.toNat_natCast] at this
         rw [g,this,← Int.neg_mul_eq_neg_mul,← Int.neg_mul_eq_neg_mul,Int.mul_neg,Int.mul_assoc]
   · rw [if_neg h2]
     by_cases h3:S.getD b 0 = -S.getD a 0*m a f
     · rw [if_neg (fun z=>z h3)]
       exact ⟨h,fun _ _=>rfl,⟨[],by simp⟩,fun _=>h3,fun s e hs hq=>hq⟩
     · rw [if_pos h3]
       intro s e hs hq
       have g:=(hs a haK).2 f hf qO
       rw [hb,Int.toNat_natCast] at g
       have ea:=hq a ha
       rw [Int.toNat_natCast] at ea
       by_cases q0:S0.getD b 0=0
       · have eb:=hq b (h.qc b hbK h2 q0)
         rw [Int.toNat_natCast] at eb
         refine h3 ?_
         rw [eb,g,ea,← Int.neg_mul_eq_neg_mul,← Int.neg_mul_eq_neg_mul,Int.mul_neg,Int.mul_assoc]
       · obtain ⟨g',g1,g2⟩:=hsym a f haK hf qO
         rw [hb,Int.toNat_natCast] at g2
         have:=c0.c b hbK q0 g' g1 (by rw [g2]; omega)
         rw [g2,Int.toNat_natCast,a4] at this
         have:=Z6o ((c0.v b).resolve_left q0) (hm b g')
         omega
theorem Zhi {S0:List Int} {N a:Nat} (c0:Cl K nb m S0):∀ (r f:Nat) {S q:List Int},RV K S0 S q N->(a:Int) ∈ q->f+r=4 →
 (match gFs nb m a r f S q with
 | none=>∀ (s:Nat->Int) (e:Int),ZnR K nb m s->(∀ x,x ∈ q->S.getD x.toNat 0=e*s x.toNat)->False
 | some z=>RV K S0 z.1 z.2 N/\(∀ j,S.getD j 0 ≠ 0->z.1.getD j 0=S.getD j 0)/\(∃ t,z.2=q++t)/\(∀ g,f<=g->g<4->0<=nb a g->z.1.getD (nb a g).toNat 0 = -z.1.getD a 0*m a g) ∧
  ∀ (s:Nat->Int) (e:Int),ZnR K nb m s->(∀ x,x ∈ q->S.getD x.toNat 0=e*s x.toNat) -> ∀ x,x ∈ z.2->z.1.getD x.toNat 0=e*s x.toNat)
 | 0,f,S,q,h,ha,hf=>⟨h,fun _ _=>rfl,⟨[],by simp⟩,fun g h1 h2=>by omega,fun s e hs hq=>hq⟩
 | r+1,f,S,q,h,ha,hf=>by
  have st:=ZmU hnb hm hsym c0 h ha (f:=f) qO
  rw [gFs]
  cases hz:gSt nb m a f S q with
  | none =>
   rw [hz] at st
   exact st
  | some z =>
   rw [hz] at st
   obtain ⟨s1,s2,⟨t,s3⟩,s4,s5⟩:=st
   have ha':(a:Int) ∈ z.2:=by rw [s3]; exact List.mem_append_left _ ha
   have ih:=Zhi c0 r (f+1) s1 ha' qO
   show match gFs nb m a r (f+1) z.1 z.2 with | none=>_ | some z=>_
   cases hw:gFs nb m a r (f+1) z.1 z.2 with
   | none =>
    rw [hw] at ih
    exact fun s e hs hq=>ih s e hs (s5 s e hs hq)
   | some w =>
    rw [hw] at ih
    obtain ⟨i1,i2,⟨t',i3⟩,i4,i5⟩:=ih
    refine ⟨i1,fun j hj=>?_,⟨t++t',by rw [i3,s3,List.append_assoc]⟩,fun g h1 h2 h3=>?_,fun s e hs hq=>i5 s e hs (s5 s e hs hq)⟩
    · rw [i2 j (by rw [s2 j hj]; exact hj),s2 j hj]
    · by_cases e:g=f
      · subst e
        have s4:=s4 h3
        have na:z.1.getD a 0 ≠ 0:=by
         have:=(s1.qs a ha').2.2.1
         rwa [Int.toNat_natCast] at this
        have:=Z6o ((s1.v a).resolve_left na) (hm a g)
        rw [i2 a na,i2 _ qO,s4]
      · exact i4 g qO h2 h3
def Done (nb m:Nat->Nat->Int) (S q:List Int) (k:Nat):Prop:=∀ i,i<k -> ∀ g,g<4->0<=nb (q.getD i 0).toNat g->S.getD (nb (q.getD i 0).toNat g).toNat 0 = -S.getD (q.getD i 0).toNat 0*m (q.getD i 0).toNat g
theorem ZlP {S0:List Int} {N:Nat} (c0:Cl K nb m S0):∀ (r k:Nat) {S q:List Int},RV K S0 S q N->k<=q.length->N<k+r->Done nb m S q k →
 (match gQ nb m r k S q with
 | none=>∀ (s:Nat->Int) (e:Int),ZnR K nb m s->(∀ x,x ∈ q->S.getD x.toNat 0=e*s x.toNat)->False
 | some z=>Cl K nb m z.1/\(∀ j,S.getD j 0 ≠ 0->z.1.getD j 0=S.getD j 0))
 | 0,k,S,q,h,hk,hN,hd=>by have:=h.n; omega
 | r+1,k,S,q,h,hk,hN,hd=>by
  rw [gQ]
  by_cases hl:k<q.length
  · rw [if_pos hl]
    have hmem:q.getD k 0 ∈ q:=by
     rw [List.getD_eq_getElem?_getD,List.getElem?_eq_getElem hl]
     exact List.getElem_mem hl
    obtain ⟨q1,q2,q3,q4⟩:=h.qs _ hmem
    obtain ⟨a,ha⟩:∃ a:Nat,q.getD k 0=a:=⟨(q.getD k 0).toNat,by omega⟩
    rw [ha] at hmem ⊢
    rw [Int.toNat_natCast]
    have st:=Zhi hnb hm hsym c0 4 0 h hmem rfl
    cases hz:gFs nb m a 4 0 S q with
    | none =>
     rw [hz] at st
     exact st
    | some z =>
     rw [hz] at st
     obtain ⟨s1,s2,⟨t,s3⟩,s4,s5⟩:=st
     have get:∀ i,i<q.length->z.2.getD i 0=q.getD i 0:=fun i hi=>by
      rw [s3,List.getD_eq_getElem?_getD,List.getElem?_append_left hi,← List.getD_eq_getElem?_getD]
     have hd':Done nb m z.1 z.2 (k+1):=fun i hi g hg h0=>by
      rw [get i qO] at h0 ⊢
      by_cases e:i=k
      · subst e
        rw [ha,Int.toNat_natCast] at h0 ⊢
        exact s4 g qO hg h0
      · have hmi:q.getD i 0 ∈ q:=by
         rw [List.getD_eq_getElem?_getD,List.getElem?_eq_getElem qO]
         exact List.getElem_mem qO
        obtain ⟨u1,u2,u3,u4⟩:=h.qs _ hmi
        have d:=hd i qO g hg h0
        have:=Z6o ((h.v _).resolve_left u3) (hm (q.getD i 0).toNat g)
        rw [s2 _ qO,s2 _ u3,d]
     have ih:=ZlP c0 r (k+1) s1 (by rw [s3,List.length_append]; omega) qO hd'
     show match gQ nb m r (k+1) z.1 z.2 with | none=>_ | some z=>_
     cases hw:gQ nb m r (k+1) z.1 z.2 with
     | none =>
      rw [hw] at ih
      exact fun s e hs hq=>ih s e hs (s5 s e hs hq)
     | some w =>
      rw [hw] at ih
      exact ⟨ih.1,fun j hj=>by rw [ih.2 j (by rw [s2 j hj]; exact hj),s2 j hj]⟩
  · rw [if_neg hl]
    refine ⟨⟨h.l,h.v,fun a ha hs f hf h0=>?_⟩,fun _ _=>rfl⟩
    show S.getD (nb a f).toNat 0 = -S.getD a 0*m a f
    by_cases q0:S0.getD a 0=0
    · have hmem:=h.qc a ha hs q0
      obtain ⟨i,hi,he⟩:=List.getElem_of_mem hmem
      have eg:q.getD i 0=a:=by rw [List.getD_eq_getElem?_getD,List.getElem?_eq_getElem hi]; exact he
      have:=hd i qO f hf (by rw [eg,Int.toNat_natCast]; exact h0)
      rw [eg,Int.toNat_natCast] at this
      exact this
    · have:=c0.c a ha q0 f hf h0
      have w:=Z6o ((c0.v a).resolve_left q0) (hm a f)
      rw [h.keep a q0,h.keep _ qO,this]
theorem Zhh (hK:K<=900):∀ (r f:Nat) {S:List Int},f+r=K->Cl K nb m S->(∀ j,j<f->S.getD j 0 ≠ 0) →
 (match gR nb m r f S with
 | none=>∀ s:Nat->Int,ZnR K nb m s->False
 | some z=>Cl K nb m z /\ ∀ j,j<K->z.getD j 0 ≠ 0)
 | 0,f,S,hf,h,hj=>⟨h,fun j hjK=>hj j qO⟩
 | r+1,f,S,hf,h,hj=>by
  rw [gR]
  by_cases h0:S.getD f 0=0
  · rw [if_neg (by rw [h0]; simp)]
    have hl:=h.l
    have hat:(S.set f 1).getD f 0=1:=by rw [Z0C,if_pos ⟨rfl,by omega⟩]
    have keep:∀ j,S.getD j 0 ≠ 0->(S.set f 1).getD j 0=S.getD j 0:=fun j hj=>by
     rw [Z0C,if_neg (fun z=>hj (by rw [← z.1]; exact h0))]
    have rv:RV K S (S.set f 1) [(f:Int)] (zcn (S.set f 1)+1):=by
     refine ⟨by rw [List.length_set]; exact hl,fun j=>?_,keep,fun x hx=>?_,fun j hjK hs h0'=>?_,rfl⟩
     · rw [Z0C]
       split
       · exact .inr (.inl rfl)
       · exact h.v j
     · rw [List.mem_singleton.1 hx,Int.toNat_natCast,hat]
       exact ⟨by omega,by omega,by omega,h0⟩
     · by_cases e:f=j
       · rw [e]; simp
       · rw [Z0C,if_neg (fun z=>e z.1)] at hs
         exact absurd h0' hs
    have zl:=Zly (S.set f 1)
    rw [List.length_set,hl] at zl
    have st:=ZlP hnb hm hsym h 1000 0 rv (by simp) qO (fun i hi=>by omega)
    cases hz:gQ nb m 1000 0 (S.set f 1) [(f:Int)] with
    | none =>
     rw [hz] at st
     intro s hs
     refine st s (s f) hs fun x hx=>?_
     rw [List.mem_singleton.1 hx,Int.toNat_natCast,hat]
     rcases (hs f qO).1 with q | q <;> rw [q] <;> rfl
    | some z =>
     rw [hz] at st
     have ih:=Zhh hK r (f+1) qO st.1 fun j hj'=>by
      by_cases e:j=f
      · rw [e,st.2 f (by rw [hat]; omega),hat]; omega
      · have k1:=hj j qO
        rw [st.2 j (by rw [keep j k1]; exact k1),keep j k1]; exact k1
     exact ih
  · rw [if_pos h0]
    exact Zhh hK r (f+1) qO h fun j hj'=>by
     by_cases e:j=f
     · rw [e]; exact h0
     · exact hj j qO
theorem ZlO (hK:K<=900):(gR nb m K 0 (List.replicate K 0)).isSome=true ↔ ∃ s,ZnR K nb m s:=by
 have z0:∀ j,(List.replicate K (0:Int)).getD j 0=0:=fun j=>by
  rw [List.getD_eq_getElem?_getD,List.getElem?_replicate]; split <;> rfl
 have st:=Zhh hnb hm hsym hK K 0 (S:=List.replicate K 0) qO ⟨by simp,fun j=>.inl (z0 j),fun a _ h=>absurd (z0 a) h⟩ (fun j hj=>by omega)
 cases hz:gR nb m K 0 (List.replicate K 0) with
 | none =>
  rw [hz] at st
  exact ⟨(fun h=>by cases h),fun ⟨s,hs⟩=>(st s hs).elim⟩
 | some z =>
  rw [hz] at st
  refine ⟨fun _=>⟨fun a=>z.getD a 0,fun a ha=>⟨(st.1.v a).resolve_left (st.2 a ha),fun f hf h0=>st.1.c a ha (st.2 a ha) f hf h0⟩⟩,fun _=>rfl⟩
end
end Go.Ab

namespace Go.Proofs.Ytdodippbpdechaa
open Go Go.Ab Go.Proofs
def tNb (Gl:List Int) (a f:Nat):Int:=Z0x (Z03 Gl a f)
def tM (Gl:List Int) (a f:Nat):Int:=sgP (Z0d (Z03 Gl a f))
structure TR (h:FH) (cm gb:Nat) (s:Value) (n:Nat) (Gl:List Int):Prop where
 hs:SlI h cm s 20 n Gl
 hg:Z0f h gb [s]
 lt:gb<256*cm
 ok:Z0v Gl n=true
 le:n<=60
theorem TR.same {h H:FH} {cm gb:Nat} {s:Value} {n:Nat} {Gl:List Int} (l:TR h cm gb s n Gl) (sm:Z0s cm h H):TR H cm gb s n Gl:=by
 refine ⟨l.hs.same sm, ?_,l.lt,l.ok,l.le⟩
 obtain ⟨ro,op,e⟩:=l.hg
 exact ⟨ro,op,(sm gb l.lt).trans e⟩
set_option maxHeartbeats 1000000 in
theorem Zmc (gb sb a k c0 cm:Nat) (s y1:Value) (n:Nat) (Gl:List Int) (h0:FH) (df:List Nat) (N:Nat) (l:TR h0 cm gb s n Gl) (ha':a<n) (hN:N<=100000) :
 ∀ (r f c:Nat) (H:FH) (qv:Value) (S q:List Int),f+r=4->c0<=c->OI c0 c sb cm h0 H qv S q->OV n S q->zc S+q.length=N->k<q.length->q.getD k 0=a->S.getD a 0 ≠ 0 →
 Ans (G (Za8 none) [ptrTo gb,.slice none 0 0,.bool false,.int .i64 0,.slice (some ⟨sb,0,none⟩) n n,y1,qv,.int .i64 k,.int .i64 f] H c df) fun x=>c<=x.c/\x.df=df/\Z0s cm h0 x.h ∧
  match gFs (tNb Gl) (tM Gl) a r f S q with
  | none=>x.e = .ret /\ ∃ qv' f',x.vs=[ptrTo gb,.slice none 0 0,.bool false,.int .i64 0,.slice (some ⟨sb,0,none⟩) n n,y1,qv',.int .i64 k,.int .i64 f']
  | some z=>x.e = .exit 4 /\ ∃ qv',x.vs=[ptrTo gb,.slice none 0 0,.bool false,.int .i64 0,.slice (some ⟨sb,0,none⟩) n n,y1,qv',.int .i64 k,.int .i64 4]/\OI c0 x.c sb cm h0 x.h qv' z.1 z.2/\OV n z.1 z.2/\zc z.1+z.2.length=N/\q.length<=z.2.length:=by
 intro r
 have hG:Gl.length=n*20:=l.hs.1
 have hle:=l.le
 induction r with
 | zero =>
  intro f c H qv S q hf hc o v hz hk ha hs
  obtain rfl:f=4:=by omega
  refine Ans.lpN rfl rfl (Z26 ..) ?_
  unfold Z3A
  have fx:=True.intro
  refine Ans.go ?_
  clear fx
  exact Ans.exitN ⟨by show c<=c+1; omega,rfl,o.sm,rfl,qv,rfl,o.mono (by show c<=c+1; omega),v,hz,Nat.le_refl _⟩
 | succ r ih =>
  intro f c H qv S q hf hc o v hz hk ha hs
  have hf4:f<4:=by omega
  have f4:(f:Int)<4:=by omega
  have lH:=l.same o.sm
  have lS:=lH.hs
  have zl:=Zc1 S
  have qb:q.length<=N:=by omega
  have sl:=o.ag.sl
  have lqa:=sl.rd k qO
  rw [ha] at lqa
  have ixq:=sl.ixs1 .i64 k qO qO
  rw [Int.toNat_natCast] at ixq
  have g0:ld1 H (.pointer (some ⟨gb,0,none⟩))=some s:=by rw [Z02 lH.hg]; rfl
  have ix:=lS.ixs .i64 a qO qO
  rw [Int.toNat_natCast] at ix
  have hfl:=Z0j hG ha' hf4
  have l3:ldN H 5 (.pointer (some ⟨Z0q s,Z2I s+a*20+f*5,none⟩))=some (av (Z03 Gl a f)):=by
   rw [Nat.add_assoc,lS.rdN 5 _ qO qO,Z03,show 20*a+5*f=a*20+f*5 by omega]
  obtain ⟨xb,hxb⟩:∃ b,256*(c+1)+10=b:=⟨_,rfl⟩
  have st:stN (newB H xb [.int .i64 0,.int .i64 0,.int .i64 0,.int .i64 0,.int .i64 0]) 5 (.pointer (some ⟨xb,0,none⟩)) (av (Z03 Gl a f))=some (newB H xb (ints (Z03 Gl a f))):=stN_all _ _ 5 _ _ hfl rfl
  obtain ⟨H1,hH1⟩:∃ H1,newB H xb (ints (Z03 Gl a f))=H1:=⟨_,rfl⟩
  rw [hH1] at st
  have p1:=o.s1
  have p2:=o.s2
  have p3:=o.s3
  have gbk:=o.ag.blk
  have H1f:∀ j,j ≠ xb->H1.f j=H.f j:=fun j hj=>by rw [← hH1,Z01,if_neg hj]
  have o1:OI c0 (c+1+1+1) sb cm h0 H1 qv S q:=by
   refine ⟨?_,(o.ag.keep ?_).mono qO,fun j hj=>?_,p1,p2,p3⟩
   · rw [H1f _ qO]; exact o.fs
   · rw [H1f _ qO]
   · rw [H1f _ qO]; exact o.sm j hj
  have gx:Z0f H1 xb (ints (Z03 Gl a f)):=by rw [← hH1]; exact Z0f.newB_same _ _ _
  have k0:ld1 H1 (.pointer (some ⟨xb,0,none⟩))=some (.int .i64 (tNb Gl a f)):=by rw [Z02 gx,ints_getD _ _ qO]; rfl
  rw [gFs,gSt]
  by_cases hneg:tNb Gl a f<0
  · rw [if_pos hneg]
    have hk':=ih (f+1) (c+1+1+1+1) H1 qv S q qO qO (o1.mono qO) v hz hk ha hs
    obtain ⟨y,hy⟩:∃ y,tNb Gl a f=y:=⟨_,rfl⟩
    rw [hy] at k0 hneg
    obtain ⟨F,hF⟩:∃ F,Z03 Gl a f=F:=⟨_,rfl⟩
    rw [hF] at l3 st
    refine Ans.lpN rfl rfl (Z26 ..) ?_
    unfold Z3A
    have fx:=ai g0 (ai ixq (ai lqa (ai ix (ai l3 (ai hxb (ai st (ai k0 hneg)))))))
    refine Ans.go ?_
    clear fx
    refine Ans.nextN (hk'.mono fun x hx'=>⟨by have:=hx'.1; omega,hx'.2⟩)
  · rw [if_neg hneg]
    have hg:¬ Z0x (Z03 Gl a f)<0:=hneg
    obtain ⟨q1,q2,-⟩:=Z0Y (Z1s l.ok ha' hf4) hg
    have hp24:Z0d (Z03 Gl a f) ∈ p24:=Z9b (Z0X hfl) q2
    have hw:=v.sign hs (Z0d (Z03 Gl a f))
    have hsa:=(v.v a).resolve_left hs
    have hsg:=Z63 (Z0d (Z03 Gl a f))
    have k1:ldN H1 4 (.pointer (some ⟨xb,1,none⟩))=some (av (Z0d (Z03 Gl a f))):=by
     rw [ldN_holds gx (by rw [ints_length]; omega),av,Z1a,Z0G]; rfl
    have cs:=Zd8 _ hp24 H1
    have sl1:=o1.ag.sl
    have lqa1:=sl1.rd k qO
    rw [ha] at lqa1
    have rdS:∀ j,j<n->ld1 H1 (.pointer (some ⟨sb,j,none⟩))=some (.int .i64 (S.getD j 0)):=fun j hj=>by
     rw [Z02 ⟨false,none,o1.fs⟩,ints_getD _ _ (by rw [v.xl]; exact hj)]
    have ra:=rdS a ha'
    have hd0:0<=tNb Gl a f:=by omega
    have hd1:tNb Gl a f<n:=q1
    obtain ⟨d,hd⟩:∃ d:Nat,tNb Gl a f=d:=⟨(tNb Gl a f).toNat,by omega⟩
    have hm':tM Gl a f=sgP (Z0d (Z03 Gl a f)):=rfl
    rw [hm']
    rw [hd] at k0 hneg hd1 ⊢
    rw [Int.toNat_natCast]
    have hdK:d<n:=by omega
    have rd':=rdS d hdK
    have fgo:∀ (w:Int),stN H1 1 (.pointer (some ⟨sb,d,none⟩)) (.int .i64 w)=some (HeapC.set H1 sb (.cells false none (ints (S.set d w)))):=fun w=>by
     rw [Z11 (show HeapC.get H1 sb=_ from o1.fs) (by simp [v.xl]; exact hdK) rfl rfl,Z1Z]
    obtain ⟨F,hF⟩:∃ F,Z03 Gl a f=F:=⟨_,rfl⟩
    by_cases h0':S.getD d 0=0
    · rw [if_pos h0']
      obtain ⟨v',z',keep⟩:=v.push hdK h0' hw
      obtain ⟨A,hA⟩:∃ A,S.getD a 0=A:=⟨_,rfl⟩
      obtain ⟨B,hB⟩:∃ B,sgP (Z0d (Z03 Gl a f))=B:=⟨_,rfl⟩
      have ka:=keep a hs
      rw [hA,hB] at v' z' hw ka ⊢
      rw [hA] at ra hsa hs
      rw [hB] at cs hsg
      rw [h0'] at rd'
      obtain ⟨H2,hH2⟩:∃ H2,HeapC.set H1 sb (.cells false none (ints (S.set d (-A*B))))=H2:=⟨_,rfl⟩
      have w1:=fgo (-A*B)
      rw [hH2] at w1
      have nsb:Z0q qv ≠ sb:=by omega
      have ag1:Zbp c0 H2 (c+1+1+1) qv q.length (ints q):=o1.ag.keep (by rw [← hH2,Z0b,if_neg nsb])
      obtain ⟨h2,e1,e2,e3⟩:=(ag1.mono (c':=c+1+1+1+1+1+1) qO).app (c':=c+1+1+1+1+1+1+1) (.int .i64 d) rfl 8 (256*(c+1+1+1+1+1+1)+3) (256*(c+1+1+1+1+1+1)+4) qO qO qO qO qO qO
      have hbl:Z7R [.int .i64 0] [(0,1,.int .i64 d)]=some [.int .i64 d]:=rfl
      have ld2:ld1 H2 (.pointer (some ⟨xb,0,none⟩))=some (.int .i64 d):=by
       rw [Z02 (cs:=ints (Z03 Gl a f)) (by
        obtain ⟨ro,op,e⟩:=gx
        exact ⟨ro,op,by show H2.f xb=_; rw [← hH2,Z0b,if_neg qO]; exact e⟩),ints_getD _ _ qO,← hd]; rfl
      have o':OI c0 (c+1+1+1+1+1+1+1) sb cm h0 h2 (.slice (some ⟨256*(c+1+1+1+1+1+1)+4,0,none⟩) (q.length+1) (q.length+1)) (S.set d (-A*B)) (q++[(d:Int)]):=by
       refine ⟨?_, ?_,fun j hj=>?_,o.s1,o.s2,o.s3⟩
       · rw [e3 sb qO (Ne.symm nsb),← hH2,Z0b,if_pos rfl]
       · have:(q++[(d:Int)]).length=q.length+1:=by simp
         rw [this,show ints (q++[(d:Int)])=ints q++[Value.int .i64 d] by simp [ints]]
         exact e2
       · rw [e3 j qO (by have:=gbk.1; omega),← hH2,Z0b,if_neg qO]
         exact o1.sm j hj
      have hq':(q++[(d:Int)]).getD k 0=a:=by
       rw [List.getD_eq_getElem?_getD,List.getElem?_append_left hk,← List.getD_eq_getElem?_getD]
       exact ha
      have hk':=ih (f+1) (c+1+1+1+1+1+1+1+1) h2 _ (S.set d (-A*B)) (q++[(d:Int)]) qO qO (o'.mono qO) v' qO (by simp; omega) hq' (by rw [ka]; exact hs)
      have hAB:-A*B=1 ∨ -A*B = -1:=hw
      have hm:Z00 P .mul 3 (.int .i64 (-B)) (.int .i64 A)=some (.int .i64 (-A*B)):=by
       rcases hsa with rfl | rfl <;> rcases hsg with rfl | rfl <;> (rw [Z0o]; kernel_rfl)
      obtain ⟨W,hW⟩:∃ W,-A*B=W:=⟨_,rfl⟩
      rw [hW] at hm w1 hk' hAB
      rw [hF] at l3 st k1 cs
      refine Ans.lpN rfl rfl (Z26 ..) ?_
      unfold Z3A
      have fx:=ai g0 (ai ixq (ai lqa (ai ix (ai l3 (ai hxb (ai st (ai k0 (ai k1 (ai cs (ai lqa1 (ai ra (ai hm (ai rd' (ai hW (ai w1 (ai ld2 (ai hbl (ai e1 sameB_self))))))))))))))))))
      refine Ans.go ?_
      clear fx
      refine Ans.nextN (hk'.mono fun x hx'=>⟨by have:=hx'.1; omega,hx'.2.1,hx'.2.2.1, ?_⟩)
      have hm':=hx'.2.2.2
      have hql:(q++[(d:Int)]).length=q.length+1:=by simp
      rw [hql] at hm'
      rw [hW]
      show match gFs (tNb Gl) (tM Gl) a r (f+1) (S.set d W) (q++[(d:Int)]) with
       | none=>_
       | some z=>_
      revert hm'
      cases gFs (tNb Gl) (tM Gl) a r (f+1) (S.set d W) (q++[(d:Int)]) with
      | none=>exact id
      | some z =>
       rintro ⟨e1,qv',e2,e3,e4,e5,e6⟩
       exact ⟨e1,qv',e2,e3,e4,e5,by omega⟩
    · rw [if_neg h0']
      have hk':=ih (f+1) (c+1+1+1+1+1+1+1) H1 qv S q qO qO (o1.mono qO) v hz hk ha hs
      obtain ⟨A,hA⟩:∃ A,S.getD a 0=A:=⟨_,rfl⟩
      obtain ⟨B,hB⟩:∃ B,sgP (Z0d (Z03 Gl a f))=B:=⟨_,rfl⟩
      obtain ⟨D,hD⟩:∃ D,S.getD d 0=D:=⟨_,rfl⟩
      rw [hD] at rd' h0' ⊢
      rw [hA,hB] at hw ⊢
      rw [hA] at ra hsa
      rw [hB] at cs hsg
      have hm:Z00 P .mul 3 (.int .i64 (-B)) (.int .i64 A)=some (.int .i64 (-A*B)):=by
       rcases hsa with rfl | rfl <;> rcases hsg with rfl | rfl <;> (rw [Z0o]; kernel_rfl)
      obtain ⟨W,hW⟩:∃ W,-A*B=W:=⟨_,rfl⟩
      rw [hW] at hm hw
      rw [hW]
      rw [hF] at l3 st k1 cs
      by_cases hDW:D=W
      · subst hDW
        rw [if_neg (by simp)]
        refine Ans.lpN rfl rfl (Z26 ..) ?_
        unfold Z3A
        have fx:=ai g0 (ai ixq (ai lqa (ai ix (ai l3 (ai hxb (ai st (ai k0 (ai k1 (ai cs (ai lqa1 (ai ra (ai hm (ai rd' (ai hW (ai h0' sameB_self)))))))))))))))
        refine Ans.go ?_
        clear fx
        refine Ans.nextN (hk'.mono fun x hx'=>⟨by have:=hx'.1; omega,hx'.2⟩)
      · rw [if_pos hDW]
        refine Ans.lpN rfl rfl (Z26 ..) ?_
        unfold Z3A
        have fx:=ai g0 (ai ixq (ai lqa (ai ix (ai l3 (ai hxb (ai st (ai k0 (ai k1 (ai cs (ai lqa1 (ai ra (ai hm (ai rd' (ai hW (ai h0' (ai hDW sameB_self))))))))))))))))
        refine Ans.go ?_
        clear fx
        exact Ans.retN ⟨by dsimp only; omega,rfl,o1.sm,rfl,qv,f,rfl⟩

theorem Zho {t i j:Nat} (hi:i<4) (hj:j<4):(16*t+4*i+j) / 16=t/\(16*t+4*i+j) / 4=4*t+i/\(16*t+4*i+j) / 4 % 4=i/\(16*t+4*i+j) % 4=j:=by
 have h:(16*t+4*i+j) / 4=4*t+i:=by omega
 exact ⟨by omega,h,by rw [h]; omega,by omega⟩
theorem ZmE {t i j:Nat} (hi:i<4) (hj:j<4):nd (16*t+4*i+j) ↔ j ≠ i:=by
 obtain ⟨_,_,h1,h2⟩:=Zho (t:=t) hi hj
 show (16*t+4*i+j) % 4 ≠ (16*t+4*i+j) / 4 % 4 ↔ _
 rw [h1,h2]
def ypE (e:Nat):Nat:=16*(e / 6)+4*eAn (e % 6)+eBn (e % 6)
def ymE (e:Nat):Nat:=16*(e / 6)+4*eBn (e % 6)+eAn (e % 6)
def eY (y:Nat):Nat:=eNo (y / 16) (y / 4 % 4) (y % 4)
theorem ed_tab:∀ i j:Fin 4,i ≠ j->(edN ((i:Nat):Int) (j:Nat)).toNat<6/\((eAn (edN ((i:Nat):Int) (j:Nat)).toNat=i/\eBn (edN ((i:Nat):Int) (j:Nat)).toNat=j) ∨ (eAn (edN ((i:Nat):Int) (j:Nat)).toNat=j/\eBn (edN ((i:Nat):Int) (j:Nat)).toNat=i)):=by decide
theorem Z8X {t i j:Nat} (hi:i<4) (hj:j<4) (hne:j ≠ i):eNo t i j / 6=t/\((ypE (eNo t i j)=16*t+4*i+j/\ymE (eNo t i j)=16*t+4*j+i) ∨ (ypE (eNo t i j)=16*t+4*j+i/\ymE (eNo t i j)=16*t+4*i+j)):=by
 obtain ⟨h1,h2⟩:=ed_tab ⟨i,hi⟩ ⟨j,hj⟩ (fun e=>hne (congrArg Fin.val e).symm)
 dsimp only at h1 h2
 have e1:eNo t i j / 6=t:=by unfold eNo; omega
 have e2:eNo t i j % 6=(edN i j).toNat:=by unfold eNo; omega
 unfold ypE ymE
 rw [e1,e2]
 refine ⟨rfl, ?_⟩
 rcases h2 with ⟨q1,q2⟩ | ⟨q1,q2⟩
 · rw [q1,q2]; exact .inl ⟨rfl,rfl⟩
 · rw [q1,q2]; exact .inr ⟨rfl,rfl⟩
theorem Z7o {e:Nat}:nd (ypE e)/\nd (ymE e)/\eY (ypE e)=e/\eY (ymE e)=e/\ypE e / 16=e / 6/\ymE e / 16=e / 6:=by
 have hk:e % 6<6:=by omega
 obtain ⟨_,_,h1,h2,h3⟩:=eAB hk
 have t:∀ k:Fin 6,(edN ((eAn k:Nat):Int) (eBn k:Nat)).toNat=k/\(edN ((eBn k:Nat):Int) (eAn k:Nat)).toNat=k:=by decide
 obtain ⟨q1,q2⟩:=t ⟨e % 6,hk⟩
 dsimp only at q1 q2
 obtain ⟨a,ha⟩:∃ a,eAn (e % 6)=a:=⟨_,rfl⟩
 obtain ⟨b,hb⟩:∃ b,eBn (e % 6)=b:=⟨_,rfl⟩
 obtain ⟨u,hu⟩:∃ u,e / 6=u:=⟨_,rfl⟩
 have e1:ypE e=16*u+4*a+b:=by unfold ypE; rw [ha,hb,hu]
 have e2:ymE e=16*u+4*b+a:=by unfold ymE; rw [ha,hb,hu]
 rw [ha,hb] at q1 q2
 rw [ha,hb] at h3
 rw [ha] at h1
 rw [hb] at h2
 have y1:ypE e % 4=b:=by rw [e1]; omega
 have y2:ypE e / 4=4*u+a:=by rw [e1]; omega
 have y3:ypE e / 4 % 4=a:=by rw [y2]; omega
 have y4:ypE e / 16=u:=by rw [e1]; omega
 have z1:ymE e % 4=a:=by rw [e2]; omega
 have z2:ymE e / 4=4*u+b:=by rw [e2]; omega
 have z3:ymE e / 4 % 4=b:=by rw [z2]; omega
 have z4:ymE e / 16=u:=by rw [e2]; omega
 refine ⟨?_, ?_, ?_, ?_,by rw [y4,hu],by rw [z4,hu]⟩
 · show ypE e % 4 ≠ ypE e / 4 % 4
   rw [y1,y3]; omega
 · show ymE e % 4 ≠ ymE e / 4 % 4
   rw [z1,z3]; omega
 · unfold eY eNo
   rw [y4,y3,y1,q1]
   omega
 · unfold eY eNo
   rw [z4,z3,z1,q2]
   omega
theorem ZhV {y n:Nat} (hy:y<16*n) (hn:nd y):eY y<6*n:=by
 obtain ⟨k,h1,h2⟩:=ZhW (t:=y / 16) (i:=y / 4 % 4) (j:=y % 4) qO qO hn
 unfold eY
 omega
theorem Zbg {y:Nat} (hn:nd y):y=ypE (eY y) ∨ y=ymE (eY y):=by
 obtain ⟨_,h⟩:=Z8X (t:=y / 16) (i:=y / 4 % 4) (j:=y % 4) qO qO hn
 unfold eY
 omega
theorem ZcA {n e:Nat} (he:e<6*n):ypE e<16*n/\ymE e<16*n:=by
 obtain ⟨_,_,_,_,h1,h2⟩:=Z7o (e:=e)
 omega
section
variable {Gl:List Int} {n:Nat} (hok:Z0v Gl n=true) (hG:Gl.length=n*20)
 include hok hG
theorem ZhZ {y y':Nat} (hy:y<16*n) (hy':y'<16*n) (e:Z06 (dCs Gl n) y=Z06 (dCs Gl n) y'):(nd y ↔ nd y')/\Z06 (vCs Gl n) (y / 4)=Z06 (vCs Gl n) (y' / 4)/\(nd y->Z06 (eCs Gl n) (eY y)=Z06 (eCs Gl n) (eY y')):=by
 have hnd:nd y ↔ nd y':=Z6H hok hG (fun w=>nd w) (fun t f i j ht hf hi hj hg h1 h2 h3=>by
  have b:=Z20 hok hG ht hf hg
  have b1:=b.j i hi
  have b2:=b.j j hj
  have:fJ Gl t f j ≠ fJ Gl t f i:=fun q=>h3 (b.inj j i hj hi q)
  rw [ZmE hi hj,ZmE b1 b2]
  exact ⟨fun _=>this,fun _=>h3⟩) hy hy' e
 refine ⟨hnd, ?_,fun hn=>?_⟩
 · exact (Z6H hok hG (fun w=>Z06 (vCs Gl n) (w / 4)=Z06 (vCs Gl n) (y' / 4)) (fun t f i j ht hf hi hj hg h1 h2 h3=>by
    have b:=Z20 hok hG ht hf hg
    have b1:=b.j i hi
    have b2:=b.j j hj
    rw [(Zho hi hj).2.1,(Zho b1 b2).2.1,Zdj hok hG ht hf hi hg h1]) hy hy' e).2 rfl
 · exact (Z6H hok hG (fun w=>Z06 (eCs Gl n) (eY w)=Z06 (eCs Gl n) (eY y')) (fun t f i j ht hf hi hj hg h1 h2 h3=>by
    have b:=Z20 hok hG ht hf hg
    have b1:=b.j i hi
    have b2:=b.j j hj
    have e1:eY (16*t+4*i+j)=eNo t i j:=by
     unfold eY
     obtain ⟨z1,_,z2,z3⟩:=Zho (t:=t) hi hj
     rw [z1,z2,z3]
    have e2:eY (16*fU Gl t f+4*fJ Gl t f i+fJ Gl t f j)=eNo (fU Gl t f) (fJ Gl t f i) (fJ Gl t f j):=by
     unfold eY
     obtain ⟨z1,_,z2,z3⟩:=Zho (t:=fU Gl t f) b1 b2
     rw [z1,z2,z3]
    rw [e1,e2,Zlf hok hG ht hf hi hj hg h1 h2 h3]) hy hy' e).2 rfl
theorem Zd2 {e e':Nat} (he:e<6*n) (he':e'<6*n) (q:Z06 (eCs Gl n) e=Z06 (eCs Gl n) e'):(Z06 (dCs Gl n) (ypE e)=Z06 (dCs Gl n) (ypE e')/\Z06 (dCs Gl n) (ymE e)=Z06 (dCs Gl n) (ymE e')) ∨ (Z06 (dCs Gl n) (ypE e)=Z06 (dCs Gl n) (ymE e')/\Z06 (dCs Gl n) (ymE e)=Z06 (dCs Gl n) (ypE e')):=by
 refine (ZhX hok hG (fun w=>(Z06 (dCs Gl n) (ypE w)=Z06 (dCs Gl n) (ypE e')/\Z06 (dCs Gl n) (ymE w)=Z06 (dCs Gl n) (ymE e')) ∨ (Z06 (dCs Gl n) (ypE w)=Z06 (dCs Gl n) (ymE e')/\Z06 (dCs Gl n) (ymE w)=Z06 (dCs Gl n) (ypE e'))) (fun t f i j ht hf hi hj hg h1 h2 h3=>?_) he he' q).2 (.inl ⟨rfl,rfl⟩)
 have b:=Z20 hok hG ht hf hg
 have b1:=b.j i hi
 have b2:=b.j j hj
 have p1:=Z7Y hok hG ht hf hi hj hg h1 h2 h3
 have p2:=Z7Y hok hG ht hf hj hi hg h2 h1 (Ne.symm h3)
 obtain ⟨_,f1⟩:=Z8X (t:=t) hi hj h3
 obtain ⟨_,f2⟩:=Z8X (t:=fU Gl t f) b1 b2 (fun z=>h3 (b.inj j i hj hi z))
 rcases f1 with ⟨a1,a2⟩ | ⟨a1,a2⟩ <;> rcases f2 with ⟨c1,c2⟩ | ⟨c1,c2⟩
 · rw [a1,a2,c1,c2,p1,p2]
 · rw [a1,a2,c1,c2,p1,p2]; exact ⟨fun z=>z.elim (fun w=>.inr ⟨w.2,w.1⟩) (fun w=>.inl ⟨w.2,w.1⟩),fun z=>z.elim (fun w=>.inr ⟨w.2,w.1⟩) (fun w=>.inl ⟨w.2,w.1⟩)⟩
 · rw [a1,a2,c1,c2,p1,p2]; exact ⟨fun z=>z.elim (fun w=>.inr ⟨w.2,w.1⟩) (fun w=>.inl ⟨w.2,w.1⟩),fun z=>z.elim (fun w=>.inr ⟨w.2,w.1⟩) (fun w=>.inl ⟨w.2,w.1⟩)⟩
 · rw [a1,a2,c1,c2,p1,p2]
theorem ZgB {v e:Nat} (hv:v<nE Gl n) (he:e<6*n) (hc:cl (eCs Gl n) e=v):(skZ Gl n).2.getD v false=true ↔ Z06 (dCs Gl n) (ypE e)=Z06 (dCs Gl n) (ymE e):=by
 have hd:=Zlj hok hG
 have hE:=Z6F hok hG
 rw [Ziy,ZlC (eN Gl n) (dN Gl n) (nE Gl n) hv (6*n) fun e he=>Znz hE e he]
 have rv:∀ e',e'<6*n->(rvE (dN Gl n) e' ↔ Z06 (dCs Gl n) (ypE e')=Z06 (dCs Gl n) (ymE e')):=fun e' he'=>by
  obtain ⟨f1,f2⟩:=ZcA he'
  rw [← Zi2 hd f1 f2]
  show (dN Gl n).getD (ypE e') 0=(dN Gl n).getD (ymE e') 0 ↔ _
  rw [dN_at f1,dN_at f2]
  omega
 constructor
 · rintro ⟨e',h1,h2,h3⟩
   rw [Zle h1] at h2
   have:=(rv e' h1).1 h3
   rcases Zd2 hok hG h1 he ((Zi2 hE h1 he).1 qO) with ⟨q1,q2⟩ | ⟨q1,q2⟩
   · rw [← q1,← q2,this]
   · rw [← q1,← q2,this]
 · intro h
   exact ⟨e,he,by rw [Zle he,hc],(rv e he).2 h⟩
end

def act (x g:List Int):List Int:=x.getD 0 0::Z0S (x.drop 1) g
def Z9s:List Int:=[1,0,3,2]
theorem Z88:Z9s ∈ p24:=by decide
theorem act_ok {n:Nat} {x g:List Int} (h:WOk n x) (hg:g ∈ p24):WOk n (act x g):=by
 obtain ⟨t0,t1⟩:=h.t
 have:=WOk.mk' (n:=n) (t:=(x.getD 0 0).toNat) qO (Z4A h.p hg)
 rwa [show (((x.getD 0 0).toNat:Nat):Int)=x.getD 0 0 by omega] at this
theorem ZnO {n:Nat} {x g g':List Int} (h:WOk n x) (hg:g ∈ p24) (hg':g' ∈ p24):act (act x g) g'=act x (Z0S g g'):=by
 show x.getD 0 0::Z0S (Z0S (x.drop 1) g) g'=_
 rw [Z2p hg hg']; rfl
theorem act_id {n:Nat} {x:List Int} (h:WOk n x):act x [0,1,2,3]=x:=by
 unfold act
 rw [Zi0 h.p,← h.form]
theorem Zia {n:Nat} {x g:List Int} (h:WOk n x) (hg:g ∈ p24) {lab:Nat} (hl:lab<4):(act x g).getD (1+lab) 0=x.getD (1+(g.getD lab 0).toNat) 0:=by
 have hr:=Z2c hg hl
 rw [((act_ok h hg).lab hl).1,(h.lab (lab:=(g.getD lab 0).toNat) qO).1]
 show (Z0S (x.drop 1) g).getD lab 0=_
 rw [Z1L (Z44 hg) hl]
theorem wF_act (Gl:List Int) {n:Nat} {x g:List Int} (h:WOk n x) (hg:g ∈ p24) {lab:Nat} (hl:lab<4):wF Gl (act x g) lab=wF Gl x (g.getD lab 0).toNat:=by
 unfold wF
 rw [Zia h hg hl]; rfl
theorem wN_act {Gl:List Int} {n:Nat} (hok:Z0v Gl n=true) (hG:Gl.length=n*20) {x g:List Int} (h:WOk n x) (hg:g ∈ p24) (hc:Z0S g Z5d=Z0S Z5d g) {lab:Nat} (hl:lab<4):wN Gl lab (act x g)=(wN Gl (g.getD lab 0).toNat x).map fun y=>act y g:=by
 have hr:=Z2c hg hl
 unfold wN
 rw [wF_act Gl h hg hl]
 by_cases hz:Z0x (wF Gl x (g.getD lab 0).toNat)<0
 · rw [if_pos hz,if_pos hz]; rfl
 · rw [if_neg hz,if_neg hz]
   obtain ⟨k1,k2,k3⟩:=Z4E hok hG h (lab:=(g.getD lab 0).toNat) qO hz
   show some (_::Z0S _ (Z0S (Z0S (x.drop 1) g) Z5d))=some (act (_::Z0S _ (Z0S (x.drop 1) Z5d)) g)
   show _=some (_::Z0S (Z0S _ (Z0S (x.drop 1) Z5d)) g)
   congr 2
   show _=Z0S (Z0S (Z0d (wF Gl x (g.getD lab 0).toNat)) (Z0S (x.drop 1) Z5d)) g
   rw [Z2p hg Zbu,hc,← Z2p Zbu hg,Z2p (Z4A h.p Zbu) hg]
theorem Z8w {Gl:List Int} {n:Nat} (hok:Z0v Gl n=true) (hG:Gl.length=n*20) {g:List Int} (hg:g=Z5d ∨ g=Z9s) {x0:List Int} (hx:WOk n x0) {m:Nat}:it (wN Gl 2) x0 m ≠ some (act x0 g):=by
 intro e
 have g24:g ∈ p24:=by rcases hg with rfl | rfl; exact Zbu; exact Z88
 have hc:Z0S g Z5d=Z0S Z5d g:=by rcases hg with rfl | rfl <;> decide
 have h3:(g.getD 3 0).toNat=2:=by rcases hg with rfl | rfl <;> rfl
 have h3':g.getD 3 0=2:=by rcases hg with rfl | rfl <;> rfl
 have key:∀ i,i<=m -> ∃ x,it (wN Gl 2) x0 i=some x/\it (wN Gl 2) x0 (m-i)=some (act x g):=by
  intro i
  induction i with
  | zero=>intro _; exact ⟨x0,rfl,e⟩
  | succ i ih =>
   intro hi
   obtain ⟨x,e1,e2⟩:=ih qO
   obtain ⟨y,hy⟩:=Option.isSome_iff_exists.1 (Z1e e (j:=i+1) hi)
   obtain ⟨z,hz⟩:=Option.isSome_iff_exists.1 (Z1e e (j:=m-(i+1)) qO)
   have hwx:=Z1W (S:=WOk n) (Z1o hok hG qO) hx e1
   have hwz:=Z1W (S:=WOk n) (Z1o hok hG qO) hx hz
   have n1:wN Gl 2 x=some y:=by rw [it,e1] at hy; exact hy
   have n2:wN Gl 2 z=some (act x g):=by
    rw [show m-i=m-(i+1)+1 by omega,it,hz] at e2; exact e2
   have b:=Z4D hok hG (lab:=2) (lab':=3) qO qO rfl z _ hwz n2
   rw [wN_act hok hG hwx g24 hc qO,h3,n1] at b
   refine ⟨y,hy, ?_⟩
   rw [hz]; exact b.symm
 rcases Nat.mod_two_eq_zero_or_one m with h0 | h1
 · obtain ⟨x,e1,e2⟩:=key (m / 2) qO
   rw [show m-m / 2=m / 2 by omega,e1] at e2
   have hw:=Z1W (S:=WOk n) (Z1o hok hG qO) hx e1
   have e3:x.getD (1+3) 0=(act x g).getD (1+3) 0:=congrArg (fun l=>l.getD (1+3) 0) (Option.some.inj e2)
   rw [Zia hw g24 qO,h3] at e3
   have:=Zik hw.p (i:=3) (j:=2) qO qO qO
   rw [(hw.lab (lab:=3) qO).1,(hw.lab (lab:=2) qO).1] at e3
   exact this e3
 · obtain ⟨x,e1,e2⟩:=key (m / 2) qO
   rw [show m-m / 2=m / 2+1 by omega,it,e1] at e2
   have hw:=Z1W (S:=WOk n) (Z1o hok hG qO) hx e1
   have e2:wN Gl 2 x=some (act x g):=e2
   obtain ⟨t0,t1⟩:=hw.t
   obtain ⟨l1,l2,l3⟩:=hw.lab (lab:=2) qO
   have hz:¬ Z0x (wF Gl x 2)<0:=fun z=>by rw [wN,if_pos z] at e2; cases e2
   obtain ⟨k1,k2,k3⟩:=Z4E hok hG hw (lab:=2) qO hz
   rw [wN,if_neg hz] at e2
   have e3:=Option.some.inj e2
   have hu:Z0x (wF Gl x 2)=x.getD 0 0:=congrArg (fun l=>l.getD 0 0) e3
   have hp:Z0S (Z0d (wF Gl x 2)) (Z0S (x.drop 1) Z5d)=Z0S (x.drop 1) g:=congrArg (fun l=>l.drop 1) e3
   have e4:(Z0S (Z0d (wF Gl x 2)) (Z0S (x.drop 1) Z5d)).getD 3 0=(Z0S (x.drop 1) g).getD 3 0:=congrArg (fun l=>l.getD 3 0) hp
   rw [Z1L (Z44 (Z4A hw.p Zbu)) qO,Z1L (by rfl) qO,Z1L (Z44 g24) qO,h3,show (Z5d.getD 3 0).toNat=2 from rfl,← l1] at e4
   have ok:=Z1s (t:=(x.getD 0 0).toNat) (f:=(x.getD (1+2) 0).toNat) hok qO qO
   have hz':¬ Z0x (Z03 Gl (x.getD 0 0).toNat (x.getD (1+2) 0).toNat)<0:=hz
   obtain ⟨_,_,q,_⟩:=Z0Y ok hz'
   refine q ⟨?_, ?_⟩
   · show Z0x (wF Gl x 2)=_
     rw [hu]; omega
   · show (Z0d (wF Gl x 2)).getD _ 0=_
     rw [e4]; omega
inductive WOrb (Gl x0:List Int):List Int->Prop
 | base:WOrb Gl x0 x0
 | fwd {x y:List Int}:WOrb Gl x0 x->wN Gl 2 x=some y->WOrb Gl x0 y
 | bwd {x y:List Int}:WOrb Gl x0 x->wN Gl 3 x=some y->WOrb Gl x0 y
section
variable {Gl:List Int} {n:Nat} (hok:Z0v Gl n=true) (hG:Gl.length=n*20)
 include hok hG
theorem WOrb.ok {x0 x:List Int} (hx:WOk n x0) (h:WOrb Gl x0 x):WOk n x:=by
 induction h with
 | base=>exact hx
 | fwd _ e ih=>exact Z1o hok hG qO _ _ ih e
 | bwd _ e ih=>exact Z1o hok hG qO _ _ ih e
theorem n23 {x y:List Int} (hx:WOk n x) (e:wN Gl 2 x=some y):wN Gl 3 y=some x:=Z4D hok hG (lab:=2) (lab':=3) qO qO rfl x y hx e
theorem n32 {x y:List Int} (hx:WOk n x) (e:wN Gl 3 x=some y):wN Gl 2 y=some x:=Z4D hok hG (lab:=3) (lab':=2) qO qO rfl x y hx e
theorem WOrb.line {x0 x:List Int} (hx:WOk n x0) (h:WOrb Gl x0 x):(∃ m,it (wN Gl 2) x0 m=some x) ∨ ∃ m,it (wN Gl 2) x m=some x0:=by
 induction h with
 | base=>exact .inl ⟨0,rfl⟩
 | @fwd x y h e ih =>
  have hw:=WOrb.ok hok hG hx h
  rcases ih with ⟨m,hm⟩ | ⟨m,hm⟩
  · exact .inl ⟨m+1,by rw [it,hm]; exact e⟩
  · cases m with
    | zero =>
     have:x=x0:=Option.some.inj hm
     subst this
     exact .inl ⟨1,e⟩
    | succ m =>
     refine .inr ⟨m, ?_⟩
     have e1:it (wN Gl 2) x 1=some y:=e
     have:=Z4e e1 m
     rw [← this,show 1+m=m+1 by omega]
     exact hm
 | @bwd x y h e ih =>
  have hw:=WOrb.ok hok hG hx h
  have e':=n32 hok hG hw e
  rcases ih with ⟨m,hm⟩ | ⟨m,hm⟩
  · cases m with
    | zero =>
     have:x0=x:=Option.some.inj hm
     subst this
     exact .inr ⟨1,e'⟩
    | succ m =>
     obtain ⟨z,hz⟩:=Option.isSome_iff_exists.1 (Z1e hm (j:=m) qO)
     have hwz:=Z1W (S:=WOk n) (Z1o hok hG qO) hx hz
     have n1:wN Gl 2 z=some x:=by rw [it,hz] at hm; exact hm
     have:=n23 hok hG hwz n1
     rw [e] at this
     cases this
     exact .inl ⟨m,hz⟩
  · refine .inr ⟨m+1, ?_⟩
    have e1:it (wN Gl 2) y 1=some x:=e'
    have:=Z4e e1 m
    rw [show m+1=1+m by omega,this]
    exact hm
end

def fl (x:List Int):Nat:=16*(x.getD 0 0).toNat+4*(x.getD 1 0).toNat+(x.getD 2 0).toNat
theorem WOk.nat {n:Nat} {x:List Int} (h:WOk n x):∃ t i j k l:Nat,x=[(t:Int),(i:Int),(j:Int),(k:Int),(l:Int)]/\t<n/\i<4/\j<4/\k<4/\l<4/\i ≠ j/\i ≠ k/\i ≠ l/\j ≠ k/\j ≠ l/\k ≠ l:=by
 have hl:=h.l
 obtain ⟨t0,t1⟩:=h.t
 obtain ⟨r1,r2,r3,r4⟩:=h.rg
 have n01:=Zik h.p (i:=0) (j:=1) qO qO qO
 have n02:=Zik h.p (i:=0) (j:=2) qO qO qO
 have n03:=Zik h.p (i:=0) (j:=3) qO qO qO
 have n12:=Zik h.p (i:=1) (j:=2) qO qO qO
 have n13:=Zik h.p (i:=1) (j:=3) qO qO qO
 have n23:=Zik h.p (i:=2) (j:=3) qO qO qO
 match x,hl with
 | [a,b,d,e,f],_ =>
  simp only [List.drop_succ_cons,List.drop_zero,List.getD_cons_zero,List.getD_cons_succ] at t0 t1 r1 r2 r3 r4 n01 n02 n03 n12 n13 n23
  refine ⟨a.toNat,b.toNat,d.toNat,e.toNat,f.toNat, ?_,by omega,by omega,by omega,by omega,by omega,by omega,by omega,by omega,by omega,by omega,by omega⟩
  rw [show ((a.toNat:Nat):Int)=a by omega,show ((b.toNat:Nat):Int)=b by omega,show ((d.toNat:Nat):Int)=d by omega,show ((e.toNat:Nat):Int)=e by omega,show ((f.toNat:Nat):Int)=f by omega]
theorem Zeo {t i j:Nat} {k l:Int}:fl [(t:Int),(i:Int),(j:Int),k,l]=16*t+4*i+j:=rfl
theorem ZcB {n:Nat} {x:List Int} (h:WOk n x):fl x<16*n/\nd (fl x):=by
 obtain ⟨t,i,j,k,l,rfl,h1,h2,h3,h4,h5,h6,h7⟩:=WOk.nat h
 rw [Zeo]
 exact ⟨by omega,(ZmE h2 h3).2 (Ne.symm h6)⟩
section
variable {Gl:List Int} {n:Nat} (hok:Z0v Gl n=true) (hG:Gl.length=n*20)
 include hok hG
theorem Zc5 {x y:List Int} {lab:Nat} (hx:WOk n x) (hl:lab=2 ∨ lab=3) (e:wN Gl lab x=some y):¬ Z0x (Z03 Gl (x.getD 0 0).toNat (x.getD (1+lab) 0).toNat)<0 ∧
 fl y=16*fU Gl (x.getD 0 0).toNat (x.getD (1+lab) 0).toNat+4*fJ Gl (x.getD 0 0).toNat (x.getD (1+lab) 0).toNat (x.getD 1 0).toNat+fJ Gl (x.getD 0 0).toNat (x.getD (1+lab) 0).toNat (x.getD 2 0).toNat:=by
 have hl4:lab<4:=by omega
 have hz:¬ Z0x (wF Gl x lab)<0:=fun z=>by rw [wN,if_pos z] at e; cases e
 obtain ⟨k1,k2,k3⟩:=Z4E hok hG hx hl4 hz
 rw [wN,if_neg hz] at e
 refine ⟨hz, ?_⟩
 rw [← Option.some.inj e]
 have hs:=Z44 (Z4A hx.p Zbu)
 have a0:(Z0S (Z0d (wF Gl x lab)) (Z0S (x.drop 1) Z5d)).getD 0 0=(Z0d (wF Gl x lab)).getD (x.getD 1 0).toNat 0:=by
  rw [Z1L hs qO,Z1L (by rfl) qO,show (Z5d.getD 0 0).toNat=0 from rfl,← (hx.lab (lab:=0) qO).1]
 have a1:(Z0S (Z0d (wF Gl x lab)) (Z0S (x.drop 1) Z5d)).getD 1 0=(Z0d (wF Gl x lab)).getD (x.getD 2 0).toNat 0:=by
  rw [Z1L hs qO,Z1L (by rfl) qO,show (Z5d.getD 1 0).toNat=1 from rfl,← (hx.lab (lab:=1) qO).1]
 show 16*(Z0x (wF Gl x lab)).toNat+4*((Z0S (Z0d (wF Gl x lab)) (Z0S (x.drop 1) Z5d)).getD 0 0).toNat+((Z0S (Z0d (wF Gl x lab)) (Z0S (x.drop 1) Z5d)).getD 1 0).toNat=_
 rw [a0,a1]
 rfl
theorem Zhn {x y:List Int} {lab:Nat} (hx:WOk n x) (hl:lab=2 ∨ lab=3) (e:wN Gl lab x=some y):Z06 (dCs Gl n) (fl x)=Z06 (dCs Gl n) (fl y):=by
 obtain ⟨h1,h2⟩:=Zc5 hok hG hx hl e
 rw [h2]
 obtain ⟨t,i,j,k,l,rfl,g1,g2,g3,g4,g5,g6,g7,g8,g9,g10,g11⟩:=WOk.nat hx
 rcases hl with rfl | rfl
 · exact Z7Y hok hG g1 g4 g2 g3 h1 g7 g9 (Ne.symm g6)
 · exact Z7Y hok hG g1 g5 g2 g3 h1 g8 g10 (Ne.symm g6)
theorem WOrb.class {x0 x:List Int} (hx:WOk n x0) (h:WOrb Gl x0 x):Z06 (dCs Gl n) (fl x)=Z06 (dCs Gl n) (fl x0):=by
 induction h with
 | base=>rfl
 | fwd h e ih=>rw [← ih]; exact (Zhn hok hG (WOrb.ok hok hG hx h) (.inl rfl) e).symm
 | bwd h e ih=>rw [← ih]; exact (Zhn hok hG (WOrb.ok hok hG hx h) (.inr rfl) e).symm
theorem Zdv {x0:List Int} (hx:WOk n x0) {t f i j:Nat} (ht:t<n) (hf:f<4) (hi:i<4) (hj:j<4) (hg:¬ Z0x (Z03 Gl t f)<0) (hif:i ≠ f) (hjf:j ≠ f) (h:∃ X,WOrb Gl x0 X/\fl X=16*t+4*i+j):∃ X,WOrb Gl x0 X/\fl X=16*fU Gl t f+4*fJ Gl t f i+fJ Gl t f j:=by
 obtain ⟨X,h1,h2⟩:=h
 have hw:=WOrb.ok hok hG hx h1
 obtain ⟨t',i',j',k,l,e,g1,g2,g3,g4,g5,g6,g7,g8,g9,g10,g11⟩:=WOk.nat hw
 have e2:16*t'+4*i'+j'=16*t+4*i+j:=by rw [← h2,e]; rfl
 obtain rfl:t'=t:=by omega
 obtain rfl:i'=i:=by omega
 obtain rfl:j'=j:=by omega
 have x0':(X.getD 0 0).toNat=t':=by rw [e]; rfl
 have x1':(X.getD 1 0).toNat=i':=by rw [e]; rfl
 have x2':(X.getD 2 0).toNat=j':=by rw [e]; rfl
 have x3':(X.getD (1+2) 0).toNat=k:=by rw [e]; rfl
 have x4':(X.getD (1+3) 0).toNat=l:=by rw [e]; rfl
 have hfk:f=k ∨ f=l:=by omega
 rcases hfk with rfl | rfl
 · have hz:¬ Z0x (wF Gl X 2)<0:=by unfold wF; rw [x0',x3']; exact hg
   have hn:∃ Y,wN Gl 2 X=some Y:=⟨_,if_neg hz⟩
   obtain ⟨Y,hY⟩:=hn
   have:=(Zc5 hok hG hw (.inl rfl) hY).2
   rw [x0',x1',x2',x3'] at this
   exact ⟨Y,h1.fwd hY,this⟩
 · have hz:¬ Z0x (wF Gl X 3)<0:=by unfold wF; rw [x0',x4']; exact hg
   have hn:∃ Y,wN Gl 3 X=some Y:=⟨_,if_neg hz⟩
   obtain ⟨Y,hY⟩:=hn
   have:=(Zc5 hok hG hw (.inr rfl) hY).2
   rw [x0',x1',x2',x4'] at this
   exact ⟨Y,h1.bwd hY,this⟩
theorem ZbH {x0:List Int} (hx:WOk n x0) {y:Nat} (hy:y<16*n) (e:Z06 (dCs Gl n) y=Z06 (dCs Gl n) (fl x0)):∃ X,WOrb Gl x0 X/\fl X=y:=by
 refine (Z6H hok hG (fun w=>∃ X,WOrb Gl x0 X/\fl X=w) (fun t f i j ht hf hi hj hg h1 h2 h3=>⟨fun h=>?_,fun h=>?_⟩) hy (ZcB hx).1 e).2 ⟨x0,.base,rfl⟩
 · exact Zdv hok hG hx ht hf hi hj hg h1 h2 h
 · have b:=Z20 hok hG ht hf hg
   have:=Zdv hok hG hx b.u (b.j f hf) (b.j i hi) (b.j j hj) b.g (fun q=>h1 (b.inj i f hi hf q)) (fun q=>h2 (b.inj j f hj hf q)) h
   rw [b.bu,b.bj i hi,b.bj j hj] at this
   exact this
structure RL (Gl x0 s:List Int) (N:Nat):Prop where
 ex:∀ j,j<N->(it (wN Gl 2) s j).isSome=true
 cov:∀ X,WOrb Gl x0 X ↔ ∃ j,j<N/\it (wN Gl 2) s j=some X
 inj:∀ a b,a<b->b<N->it (wN Gl 2) s a ≠ it (wN Gl 2) s b
theorem ZaK {s X:List Int} (hs:WOk n s) {a:Nat}:∀ {d:Nat},it (wN Gl 2) s a=some X->it (wN Gl 2) s (a+d)=some X->it (wN Gl 2) s d=some s:=by
 induction a generalizing X with
 | zero =>
  intro d h1 h2
  have:s=X:=Option.some.inj h1
  subst this
  rwa [Nat.zero_add] at h2
 | succ a ih =>
  intro d h1 h2
  obtain ⟨y,hy⟩:=Option.isSome_iff_exists.1 (Z1e h1 (j:=a) qO)
  obtain ⟨z,hz⟩:=Option.isSome_iff_exists.1 (Z1e h2 (j:=a+d) qO)
  have wy:=Z1W (S:=WOk n) (Z1o hok hG qO) hs hy
  have wz:=Z1W (S:=WOk n) (Z1o hok hG qO) hs hz
  have n1:wN Gl 2 y=some X:=by rw [it,hy] at h1; exact h1
  have n2:wN Gl 2 z=some X:=by rw [show a+1+d=a+d+1 by omega,it,hz] at h2; exact h2
  have:=n23 hok hG wy n1
  rw [n23 hok hG wz n2] at this
  cases this
  exact ih hy hz
theorem ZbE {x0:List Int} (hx:WOk n x0) {K:Nat} (h:RgC Gl x0 2 K):RL Gl x0 x0 K:=by
 obtain ⟨h1,h2,h3⟩:=h
 refine ⟨fun j hj=>Z1e h2 qO,fun X=>⟨fun hX=>?_, ?_⟩,fun a b hab hb e=>?_⟩
 · induction hX with
   | base=>exact ⟨0,by omega,rfl⟩
   | @fwd x y h e ih =>
    obtain ⟨j,j1,j2⟩:=ih
    have e1:it (wN Gl 2) x0 (j+1)=some y:=by rw [it,j2]; exact e
    by_cases q:j+1=K
    · rw [q,h2] at e1
      exact ⟨0,by omega,e1⟩
    · exact ⟨j+1,by omega,e1⟩
   | @bwd x y h e ih =>
    obtain ⟨j,j1,j2⟩:=ih
    have hw:=Z1W (S:=WOk n) (Z1o hok hG qO) hx j2
    have ZnX:∀ m,it (wN Gl 2) x0 (m+1)=some x->it (wN Gl 2) x0 m=some y:=fun m hm=>by
     obtain ⟨z,hz⟩:=Option.isSome_iff_exists.1 (Z1e hm (j:=m) qO)
     have wz:=Z1W (S:=WOk n) (Z1o hok hG qO) hx hz
     have n1:wN Gl 2 z=some x:=by rw [it,hz] at hm; exact hm
     have:=n23 hok hG wz n1
     rw [e] at this
     cases this
     exact hz
    cases j with
    | zero =>
     have:x0=x:=Option.some.inj j2
     subst this
     obtain ⟨K',rfl⟩:∃ m,K=m+1:=⟨K-1,by omega⟩
     exact ⟨K',by omega,ZnX K' h2⟩
    | succ j=>exact ⟨j,by omega,ZnX j j2⟩
 · rintro ⟨j,j1,j2⟩
   clear j1
   induction j generalizing X with
   | zero=>have:x0=X:=Option.some.inj j2; subst this; exact .base
   | succ j ih =>
    obtain ⟨z,hz⟩:=Option.isSome_iff_exists.1 (Z1e j2 (j:=j) qO)
    have n1:wN Gl 2 z=some X:=by rw [it,hz] at j2; exact j2
    exact .fwd (ih z hz) n1
 · obtain ⟨X,hX⟩:=Option.isSome_iff_exists.1 (Z1e h2 (j:=a) qO)
   have e':=e
   rw [hX] at e'
   have:=ZaK hok hG hx (d:=b-a) hX (by rw [show a+(b-a)=b by omega]; exact e'.symm)
   exact h3 (b-a) qO qO this
theorem it_rev {x y:List Int} (hx:WOk n x):∀ {i:Nat},it (wN Gl 3) x i=some y->it (wN Gl 2) y i=some x:=by
 intro i
 induction i generalizing y with
 | zero=>intro h; have:x=y:=Option.some.inj h; subst this; rfl
 | succ i ih =>
  intro h
  obtain ⟨z,hz⟩:=Option.isSome_iff_exists.1 (Z1e h (j:=i) qO)
  have wz:=Z1W (S:=WOk n) (Z1o hok hG qO) hx hz
  have n1:wN Gl 3 z=some y:=by rw [it,hz] at h; exact h
  have e1:it (wN Gl 2) y 1=some z:=n32 hok hG wz n1
  have:=Z4e e1 i
  rw [show i+1=1+i by omega,this]
  exact ih hz
theorem Zmp {x0 y:List Int} (hx:WOk n x0) {k:Nat} (h:RgO Gl x0 y k):RL Gl x0 y (k+1):=by
 obtain ⟨_,⟨i,i1,i2⟩,x,k1,k2⟩:=h
 have hy:WOk n y:=Z1W (S:=WOk n) (Z1o hok hG qO) hx i1
 have yn:wN Gl 3 y=none:=by rw [it,i1] at i2; exact i2
 have hr:=it_rev hok hG hx i1
 have xn:wN Gl 2 x=none:=by rw [it,k1] at k2; exact k2
 have ZnX:∀ m z w,it (wN Gl 2) y (m+1)=some z->wN Gl 3 z=some w->it (wN Gl 2) y m=some w:=fun m z w hm e=>by
  obtain ⟨u,hu⟩:=Option.isSome_iff_exists.1 (Z1e hm (j:=m) qO)
  have wu:=Z1W (S:=WOk n) (Z1o hok hG qO) hy hu
  have n1:wN Gl 2 u=some z:=by rw [it,hu] at hm; exact hm
  have:=n23 hok hG wu n1
  rw [e] at this
  cases this
  exact hu
 refine ⟨fun j hj=>Z1e k1 qO,fun X=>⟨fun hX=>?_, ?_⟩,fun a b hab hb e=>?_⟩
 · induction hX with
   | base=>exact ⟨i,by have:=ZaL hr k2; omega,hr⟩
   | @fwd u v h e ih =>
    obtain ⟨j,j1,j2⟩:=ih
    have e1:it (wN Gl 2) y (j+1)=some v:=by rw [it,j2]; exact e
    exact ⟨j+1,ZaL e1 k2,e1⟩
   | @bwd u v h e ih =>
    obtain ⟨j,j1,j2⟩:=ih
    cases j with
    | zero =>
     have:y=u:=Option.some.inj j2
     subst this
     rw [yn] at e; cases e
    | succ j=>exact ⟨j,by omega,ZnX j u v j2 e⟩
 · rintro ⟨j,j1,j2⟩
   clear j1
   have oy:WOrb Gl x0 y:=by
    have:∀ m z,it (wN Gl 3) x0 m=some z->WOrb Gl x0 z:=by
     intro m
     induction m with
     | zero=>intro z hz; have:x0=z:=Option.some.inj hz; subst this; exact .base
     | succ m ihm =>
      intro z hz
      obtain ⟨u,hu⟩:=Option.isSome_iff_exists.1 (Z1e hz (j:=m) qO)
      have n1:wN Gl 3 u=some z:=by rw [it,hu] at hz; exact hz
      exact .bwd (ihm u hu) n1
    exact this i y i1
   induction j generalizing X with
   | zero=>have:y=X:=Option.some.inj j2; subst this; exact oy
   | succ j ih =>
    obtain ⟨z,hz⟩:=Option.isSome_iff_exists.1 (Z1e j2 (j:=j) qO)
    have n1:wN Gl 2 z=some X:=by rw [it,hz] at j2; exact j2
    exact .fwd (ih z hz) n1
 · obtain ⟨X,hX⟩:=Option.isSome_iff_exists.1 (Z1e k1 (j:=a) qO)
   have e':=e
   rw [hX] at e'
   have:=ZaK hok hG hy (d:=b-a) hX (by rw [show a+(b-a)=b by omega]; exact e'.symm)
   obtain ⟨d,hd⟩:∃ d,b-a=d+1:=⟨b-a-1,by omega⟩
   rw [hd] at this
   obtain ⟨z,hz⟩:=Option.isSome_iff_exists.1 (Z1e this (j:=d) qO)
   have wz:=Z1W (S:=WOk n) (Z1o hok hG qO) hy hz
   have n1:wN Gl 2 z=some y:=by rw [it,hz] at this; exact this
   rw [n23 hok hG wz n1] at yn
   cases yn
end

def oNb (Gl:List Int) (Q:Nat->Bool) (C:List Int) (a f:Nat):Int:=nxV Gl Q (oT C a) (oC C a) f
def oM (Gl:List Int) (C:List Int) (a f:Nat):Int:=sgP (Z0d (Z03 Gl (oT C a) f))
theorem oFs_g (Gl:List Int) (Q:Nat->Bool) (C:List Int) (a:Nat):∀ (r f:Nat) (S q:List Int),oFs Gl Q (oT C a) (oC C a) a r f S q=gFs (oNb Gl Q C) (oM Gl C) a r f S q
 | 0,f,S,q=>rfl
 | r+1,f,S,q=>by
  rw [oFs,gFs]
  have e:oSt Gl Q (oT C a) (oC C a) a f S q=gSt (oNb Gl Q C) (oM Gl C) a f S q:=rfl
  rw [e]
  congr 1
  funext z
  exact oFs_g Gl Q C a r (f+1) z.1 z.2
theorem oQ_g (Gl:List Int) (Q:Nat->Bool) (C:List Int):∀ (r k:Nat) (S q:List Int),oQ Gl Q C r k S q=gQ (oNb Gl Q C) (oM Gl C) r k S q
 | 0,k,S,q=>rfl
 | r+1,k,S,q=>by
  rw [oQ,gQ,oFs_g]
  split
  · congr 1
    funext z
    exact oQ_g Gl Q C r (k+1) z.1 z.2
  · rfl
theorem oR_g (Gl:List Int) (Q:Nat->Bool) (C:List Int):∀ (r f:Nat) (S:List Int),oR Gl Q C r f S=gR (oNb Gl Q C) (oM Gl C) r f S
 | 0,f,S=>rfl
 | r+1,f,S=>by
  rw [oR,gR,oQ_g,oR_g Gl Q C r (f+1) S]
  split
  · rfl
  · congr 1
    funext z
    exact oR_g Gl Q C r (f+1) z.1
def SgnC (Gl:List Int) (n:Nat) (Q:Nat->Bool) (s:Nat->Int):Prop:=∀ t i,t<n->i<4->Q (4*t+i)=true->(s (4*t+i)=1 ∨ s (4*t+i) = -1) ∧
 ∀ f,f<4->f ≠ i -> ¬ Z0x (Z03 Gl t f)<0->s (4*fU Gl t f+fJ Gl t f i) = -s (4*t+i)*sgP (Z0d (Z03 Gl t f))
theorem Zmy {Gl:List Int} {n:Nat} (hok:Z0v Gl n=true) (hG:Gl.length=n*20) (hn:n<=200) {Q:Nat->Bool} (hQ:∀ t f i,t<n->f<4->i<4 -> ¬ Z0x (Z03 Gl t f)<0->i ≠ f->Q (4*t+i)=true->Q (4*fU Gl t f+fJ Gl t f i)=true) :
 orB n Gl Q=true ↔ ∃ s,SgnC Gl n Q s:=by
 obtain ⟨C,hC⟩:∃ C,crn Q (4*n)=C:=⟨_,rfl⟩
 have at':∀ x,x<4*n->Q x=true->oT C (rk Q x)=x / 4/\oC C (rk Q x)=x % 4:=fun x hx hq=>by rw [← hC]; exact ZmA hq hx
 have nx:∀ t i f,t<n->i<4->f<4->Q (4*t+i)=true->(f=i ∨ Z0x (Z03 Gl t f)<0->nxV Gl Q t i f = -1)/\(f ≠ i -> ¬ Z0x (Z03 Gl t f)<0->nxV Gl Q t i f=(rk Q (4*fU Gl t f+fJ Gl t f i):Nat)):=fun t i f ht hi hf hq=>by
  refine ⟨fun z=>if_pos z,fun h1 h2=>?_⟩
  have h3:nxV Gl Q t i f=if Q (fV Gl t f i)=true then (rk Q (fV Gl t f i):Int) else 0:=if_neg (fun z=>z.elim h1 h2)
  rw [h3]
  exact if_pos (hQ t f i ht hf hi h2 (Ne.symm h1) hq)
 have hnb:∀ a f,a<rk Q (4*n)->f<4->oNb Gl Q C a f = -1 ∨ (0<=oNb Gl Q C a f/\oNb Gl Q C a f<rk Q (4*n)):=fun a f ha hf=>by
  obtain ⟨x,hx,hq,rfl⟩:=Z6V Q ha
  obtain ⟨e1,e2⟩:=at' x hx hq
  unfold oNb
  rw [e1,e2]
  exact ZlG hok hG qO qO hf (by rw [show 4*(x / 4)+x % 4=x by omega]; exact hq)
 have hsym:∀ a f,a<rk Q (4*n)->f<4->0<=oNb Gl Q C a f -> ∃ g,g<4/\oNb Gl Q C (oNb Gl Q C a f).toNat g=a:=fun a f ha hf h0=>by
  obtain ⟨x,hx,hq,rfl⟩:=Z6V Q ha
  obtain ⟨e1,e2⟩:=at' x hx hq
  have hq':Q (4*(x / 4)+x % 4)=true:=by rw [show 4*(x / 4)+x % 4=x by omega]; exact hq
  have hx':=nx (x / 4) (x % 4) f qO qO hf hq'
  have ev:oNb Gl Q C (rk Q x) f=nxV Gl Q (x / 4) (x % 4) f:=by unfold oNb; rw [e1,e2]
  rw [ev] at h0 ⊢
  have h1:f ≠ x % 4:=fun z=>by rw [hx'.1 (.inl z)] at h0; omega
  have h2:¬ Z0x (Z03 Gl (x / 4) f)<0:=fun z=>by rw [hx'.1 (.inr z)] at h0; omega
  have b:=Z20 hok hG (t:=x / 4) (f:=f) qO hf h2
  have hu:=b.u
  have hj:=b.j (x % 4) qO
  have hjf:=b.j f hf
  have hy:=hQ (x / 4) f (x % 4) qO hf qO h2 (Ne.symm h1) hq'
  rw [hx'.2 h1 h2,Int.toNat_natCast]
  obtain ⟨y1,y2⟩:=at' (4*fU Gl (x / 4) f+fJ Gl (x / 4) f (x % 4)) qO hy
  refine ⟨fJ Gl (x / 4) f f,hjf, ?_⟩
  unfold oNb
  rw [y1,y2,show (4*fU Gl (x / 4) f+fJ Gl (x / 4) f (x % 4)) / 4=fU Gl (x / 4) f by omega,show (4*fU Gl (x / 4) f+fJ Gl (x / 4) f (x % 4)) % 4=fJ Gl (x / 4) f (x % 4) by omega,
   (nx (fU Gl (x / 4) f) (fJ Gl (x / 4) f (x % 4)) (fJ Gl (x / 4) f f) hu hj hjf hy).2 (fun z=>h1 (b.inj f (x % 4) hf qO z)) b.g,b.bu,b.bj (x % 4) qO,show 4*(x / 4)+x % 4=x by omega]
 have hr:=Z9a Q (4*n)
 have main:=ZlO (m:=oM Gl C) hnb (fun a f=>Z63 _) hsym qO
 unfold orB
 rw [hC,oR_g]
 refine main.trans ⟨fun ⟨s,hs⟩=>⟨fun x=>s (rk Q x),fun t i ht hi hq=>?_⟩,fun ⟨s,hs⟩=>⟨fun a=>s (4*oT C a+oC C a),fun a ha=>?_⟩⟩
 · have hx:4*t+i<4*n:=by omega
   obtain ⟨e1,e2⟩:=at' (4*t+i) hx hq
   rw [show (4*t+i) / 4=t by omega] at e1
   rw [show (4*t+i) % 4=i by omega] at e2
   obtain ⟨g1,g2⟩:=hs (rk Q (4*t+i)) (ZiJ Q hx hq)
   refine ⟨g1,fun f hf h1 h2=>?_⟩
   have ev:oNb Gl Q C (rk Q (4*t+i)) f=(rk Q (4*fU Gl t f+fJ Gl t f i):Nat):=by
    unfold oNb
    rw [e1,e2]
    exact (nx t i f ht hi hf hq).2 h1 h2
   have:=g2 f hf (by rw [ev]; omega)
   rw [ev,Int.toNat_natCast] at this
   have em:oM Gl C (rk Q (4*t+i)) f=sgP (Z0d (Z03 Gl t f)):=by unfold oM; rw [e1]
   rw [em] at this
   exact this
 · obtain ⟨x,hx,hq,rfl⟩:=Z6V Q ha
   obtain ⟨e1,e2⟩:=at' x hx hq
   have hq':Q (4*(x / 4)+x % 4)=true:=by rw [show 4*(x / 4)+x % 4=x by omega]; exact hq
   obtain ⟨g1,g2⟩:=hs (x / 4) (x % 4) qO qO hq'
   dsimp only
   rw [e1,e2]
   refine ⟨g1,fun f hf h0=>?_⟩
   have ev:oNb Gl Q C (rk Q x) f=nxV Gl Q (x / 4) (x % 4) f:=by unfold oNb; rw [e1,e2]
   have hx':=nx (x / 4) (x % 4) f qO qO hf hq'
   rw [ev] at h0 ⊢
   have h1:f ≠ x % 4:=fun z=>by rw [hx'.1 (.inl z)] at h0; omega
   have h2:¬ Z0x (Z03 Gl (x / 4) f)<0:=fun z=>by rw [hx'.1 (.inr z)] at h0; omega
   have b:=Z20 hok hG (t:=x / 4) (f:=f) qO hf h2
   have hu:=b.u
   have hj:=b.j (x % 4) qO
   have hy:=hQ (x / 4) f (x % 4) qO hf qO h2 (Ne.symm h1) hq'
   obtain ⟨y1,y2⟩:=at' (4*fU Gl (x / 4) f+fJ Gl (x / 4) f (x % 4)) qO hy
   have em:oM Gl C (rk Q x) f=sgP (Z0d (Z03 Gl (x / 4) f)):=by unfold oM; rw [e1]
   rw [hx'.2 h1 h2,Int.toNat_natCast,y1,y2,em,show (4*fU Gl (x / 4) f+fJ Gl (x / 4) f (x % 4)) / 4=fU Gl (x / 4) f by omega,show (4*fU Gl (x / 4) f+fJ Gl (x / 4) f (x % 4)) % 4=fJ Gl (x / 4) f (x % 4) by omega]
   exact g2 f hf h1 h2
theorem Zfl {Gl:List Int} {n:Nat} (hok:Z0v Gl n=true) (hG:Gl.length=n*20) (k:Int):∀ t f i,t<n->f<4->i<4 -> ¬ Z0x (Z03 Gl t f)<0->i ≠ f->inC (ZbJ (vCs Gl n) (4*n)) k (4*t+i)=true->inC (ZbJ (vCs Gl n) (4*n)) k (4*fU Gl t f+fJ Gl t f i)=true:=fun t f i ht hf hi hg hif h=>by
 have b:=Z20 hok hG ht hf hg
 have hu:=b.u
 have hj:=b.j i hi
 have h:=of_decide_eq_true h
 refine decide_eq_true ?_
 rw [Zcr _ qO] at h ⊢
 rw [← h]
 have:=(Zi2 (Zip hok hG) (x:=4*t+i) (y:=4*fU Gl t f+fJ Gl t f i) qO qO).2 (Zdj hok hG ht hf hi hg hif)
 omega

section
variable {Gl:List Int} {n:Nat} (hok:Z0v Gl n=true) (hG:Gl.length=n*20)
 include hok hG
end
end Go.Proofs.Ytdodippbpdechaa
