/- Parts of a proof: K41 T3 T4 K36 K37 T5 T6 T7 AbRow2 AbRow3 AbApp2 AbRow4 AbRow5. Conditions: none. -/
import Derived.Test.YtdodippbpdechaaM23
import Derived.Test.YtdodippbpdechaaM20
import Derived.Test.YtdodippbpdechaaM14
import Derived.Test.YtdodippbpdechaaM8
set_option linter.all false
set_option maxRecDepth 100000
namespace Go.Proofs.Ytdodippbpdechaa
open Go Go.Ab Go.Proofs
theorem ZmW {n:Nat} {x y:List Int} (hx:WOk n x) (hy:WOk n y) (e:fl x=fl y):y=x ∨ y=act x Z5d:=by
 obtain ⟨t,i,j,k,l,rfl,g1,g2,g3,g4,g5,g6,g7,g8,g9,g10,g11⟩:=WOk.nat hx
 obtain ⟨t',i',j',k',l',rfl,f1,f2,f3,f4,f5,f6,f7,f8,f9,f10,f11⟩:=WOk.nat hy
 rw [Zeo,Zeo] at e
 obtain rfl:t=t':=by omega
 obtain rfl:i=i':=by omega
 obtain rfl:j=j':=by omega
 have ea:act [(t:Int),(i:Int),(j:Int),(k:Int),(l:Int)] Z5d=[(t:Int),(i:Int),(j:Int),(l:Int),(k:Int)]:=rfl
 have:(k=k'/\l=l') ∨ (k=l'/\l=k'):=by omega
 rcases this with ⟨rfl,rfl⟩ | ⟨rfl,rfl⟩
 · exact .inl rfl
 · exact .inr ea.symm
theorem fl_opp {n:Nat} {x y:List Int} (hx:WOk n x) (hy:WOk n y) {t i j:Nat} (hi:i<4) (hj:j<4) (e1:fl x=16*t+4*i+j) (e2:fl y=16*t+4*j+i):y=act x Z9s ∨ y=act x [1,0,2,3]:=by
 obtain ⟨t0,i',j',k,l,rfl,g1,g2,g3,g4,g5,g6,g7,g8,g9,g10,g11⟩:=WOk.nat hx
 obtain ⟨t',i2,j2,k',l',rfl,f1,f2,f3,f4,f5,f6,f7,f8,f9,f10,f11⟩:=WOk.nat hy
 rw [Zeo] at e1 e2
 obtain rfl:t0=t:=by omega
 obtain rfl:i'=i:=by omega
 obtain rfl:j'=j:=by omega
 obtain rfl:t'=t0:=by omega
 obtain rfl:i2=j':=by omega
 obtain rfl:j2=i':=by omega
 have ea:act [(t':Int),(j2:Int),(i2:Int),(k:Int),(l:Int)] Z9s=[(t':Int),(i2:Int),(j2:Int),(l:Int),(k:Int)]:=rfl
 have eb:act [(t':Int),(j2:Int),(i2:Int),(k:Int),(l:Int)] [1,0,2,3]=[(t':Int),(i2:Int),(j2:Int),(k:Int),(l:Int)]:=rfl
 have:(k=k'/\l=l') ∨ (k=l'/\l=k'):=by omega
 rcases this with ⟨rfl,rfl⟩ | ⟨rfl,rfl⟩
 · exact .inr eb.symm
 · exact .inl ea.symm
def ZnY (Gl:List Int) (n:Nat) (s:Nat->Int):Prop:=∀ t,t<n->(s t=1 ∨ s t = -1) /\ ∀ f,f<4 -> ¬ Z0x (Z03 Gl t f)<0->s (fU Gl t f) = -s t*sgP (Z0d (Z03 Gl t f))
theorem Zav {p q:List Int} (hp:p ∈ p24) (hq:q ∈ p24):sgP (Z0S p q)=sgP p*sgP q:=by
 simpa using Zm2 (Q:=fun p q=>decide (sgP (Z0S p q)=sgP p*sgP q)) (by kernel_rfl) hp hq
section
variable {Gl:List Int} {n:Nat} (hok:Z0v Gl n=true) (hG:Gl.length=n*20)
 include hok hG
theorem Zcd {x0 s:List Int} (hx:WOk n x0) (hs:WOk n s) {N:Nat} (h:RL Gl x0 s N) (hrev:Z06 (dCs Gl n) (ypE (eY (fl x0))) ≠ Z06 (dCs Gl n) (ymE (eY (fl x0)))) :
 Z3X (fun e=>if cl (eCs Gl n) e=cl (eCs Gl n) (eY (fl x0)) then (1:Int) else 0) (6*n)=N:=by
 have hE:=Z6F hok hG
 obtain ⟨f0,f1⟩:=ZcB hx
 have e0:=ZhV f0 f1
 have X:∀ j,j<N -> ∃ x,it (wN Gl 2) s j=some x/\WOrb Gl x0 x/\WOk n x:=fun j hj=>by
  obtain ⟨x,hx'⟩:=Option.isSome_iff_exists.1 (h.ex j hj)
  have:=(h.cov x).2 ⟨j,hj,hx'⟩
  exact ⟨x,hx',this,WOrb.ok hok hG hx this⟩
 obtain ⟨g,hg⟩:∃ g:Nat->Nat,g=fun j=>eY (fl ((it (wN Gl 2) s j).getD [])):=⟨_,rfl⟩
 have gj:∀ j x,it (wN Gl 2) s j=some x->g j=eY (fl x):=fun j x e=>by rw [hg]; show eY (fl ((it (wN Gl 2) s j).getD []))=_; rw [e]; rfl
 have gc:∀ j,j<N->g j<6*n/\cl (eCs Gl n) (g j)=cl (eCs Gl n) (eY (fl x0)):=fun j hj=>by
  obtain ⟨x,e,ho,hw⟩:=X j hj
  obtain ⟨a,b⟩:=ZcB hw
  rw [gj j x e]
  refine ⟨ZhV a b,(Zi2 hE (ZhV a b) e0).2 ?_⟩
  exact (ZhZ hok hG a f0 (WOrb.class hok hG hx ho)).2.2 b
 have diff:∀ x y,WOrb Gl x0 x->WOrb Gl x0 y -> ∀ e,(fl x=ypE e/\fl y=ymE e)->False:=fun x y hx' hy' e ⟨q1,q2⟩=>by
  have c1:=WOrb.class hok hG hx hx'
  have c2:=WOrb.class hok hG hx hy'
  rw [q1] at c1
  rw [q2] at c2
  have wx:=WOrb.ok hok hG hx hx'
  obtain ⟨a,b⟩:=ZcB wx
  rw [q1] at a b
  have ey:eY (ypE e)=e:=(Z7o (e:=e)).2.2.1
  have he:e<6*n:=by have:=ZhV a b; rwa [ey] at this
  have hc:Z06 (eCs Gl n) e=Z06 (eCs Gl n) (eY (fl x0)):=by
   have:=(ZhZ hok hG a f0 c1).2.2 b
   rwa [ey] at this
  rcases Zd2 hok hG he e0 hc with ⟨z1,z2⟩ | ⟨z1,z2⟩
  · exact hrev (by rw [← z1,← z2,c1,c2])
  · exact hrev (by rw [← z1,← z2,c1,c2])
 have inj:∀ a b,a<b->b<N->g a ≠ g b:=fun a b hab hb e=>by
  obtain ⟨x,ex,ox,wx⟩:=X a qO
  obtain ⟨y,ey,oy,wy⟩:=X b hb
  rw [gj a x ex,gj b y ey] at e
  have sh:it (wN Gl 2) x (b-a)=some y:=by
   have:=Z4e ex (b-a)
   rw [show a+(b-a)=b by omega,ey] at this
   exact this.symm
  have same:fl x=fl y->False:=fun q=>by
   rcases ZmW wx wy q with rfl | rfl
   · exact h.inj a b hab hb (ex.trans ey.symm)
   · exact Z8w hok hG (.inl rfl) wx sh
  rcases Zbg (ZcB wx).2 with p | p <;> rcases Zbg (ZcB wy).2 with q | q
  · exact same (by rw [p,q,e])
  · exact diff x y ox oy _ ⟨p,by rw [q,e]⟩
  · exact diff y x oy ox _ ⟨q,by rw [p,e]⟩
  · exact same (by rw [p,q,e])
 have surj:∀ e,e<6*n->cl (eCs Gl n) e=cl (eCs Gl n) (eY (fl x0)) -> ∃ j,j<N/\g j=e:=fun e he hc=>by
  have hc:=(Zi2 hE he e0).1 hc
  obtain ⟨l1,l2⟩:=ZcA (n:=n) he
  have fin:∀ w,w<16*n->eY w=e->Z06 (dCs Gl n) w=Z06 (dCs Gl n) (fl x0) -> ∃ j,j<N/\g j=e:=fun w hw h1 h2=>by
   obtain ⟨x,ox,fx⟩:=ZbH hok hG hx hw h2
   obtain ⟨j,j1,j2⟩:=(h.cov x).1 ox
   exact ⟨j,j1,by rw [gj j x j2,fx,h1]⟩
  obtain ⟨_,_,y1,y2,_,_⟩:=Z7o (e:=e)
  rcases Zbg f1 with p | p <;> rcases Zd2 hok hG he e0 hc with ⟨z1,z2⟩ | ⟨z1,z2⟩
  · exact fin _ l1 y1 (z1.trans (by rw [← p]))
  · exact fin _ l2 y2 (z2.trans (by rw [← p]))
  · exact fin _ l2 y2 (z2.trans (by rw [← p]))
  · exact fin _ l1 y1 (z1.trans (by rw [← p]))
 have S:Z3X (fun e=>if cl (eCs Gl n) e=cl (eCs Gl n) (eY (fl x0)) then (1:Int) else 0) (6*n)=Z3X (fun e=>Z3X (fun j=>if g j=e then (1:Int) else 0) N) (6*n):=Z1h fun e he=>by
  by_cases hc:cl (eCs Gl n) e=cl (eCs Gl n) (eY (fl x0))
  · obtain ⟨j,j1,j2⟩:=surj e he hc
    rw [if_pos hc]
    refine (Zit (p:=fun j=>g j=e) j1 j2 fun a ha hae=>?_).symm
    rcases Nat.lt_trichotomy a j with q | q | q
    · exact absurd (hae.trans j2.symm) (inj a j q j1)
    · exact q
    · exact absurd (j2.trans hae.symm) (inj j a q ha)
  · rw [if_neg hc]
    refine (Zgn (p:=fun j=>g j=e) fun j hj q=>hc ?_).symm
    rw [← q]; exact (gc j hj).2
 rw [S,Z8a,Z1h (g:=fun _=>1) fun j hj=>?_,Z5u]
 · omega
 · have:=Z3J (fun _=>(1:Int)) (g j) (N:=6*n)
   rw [if_pos (gc j hj).1] at this
   refine Eq.trans (Z1h fun e _=>?_) this
   by_cases q:g j=e
   · rw [if_pos q,if_pos q.symm]
   · rw [if_neg q,if_neg (fun z=>q z.symm)]
theorem ZiR {s:Nat->Int} (hs:ZnY Gl n s) {x0 x:List Int} (hx:WOk n x0) (h:WOrb Gl x0 x):s (x.getD 0 0).toNat*sgP (x.drop 1)=s (x0.getD 0 0).toNat*sgP (x0.drop 1):=by
 have step:∀ lab x y,lab<4->WOk n x->wN Gl lab x=some y->s (y.getD 0 0).toNat*sgP (y.drop 1)=s (x.getD 0 0).toNat*sgP (x.drop 1):=fun lab x y hl hw e=>by
  have hz:¬ Z0x (wF Gl x lab)<0:=fun z=>by rw [wN,if_pos z] at e; cases e
  obtain ⟨k1,k2,k3⟩:=Z4E hok hG hw hl hz
  rw [wN,if_neg hz] at e
  rw [← Option.some.inj e]
  obtain ⟨t0,t1⟩:=hw.t
  obtain ⟨l1,l2,l3⟩:=hw.lab hl
  have:=(hs (x.getD 0 0).toNat qO).2 (x.getD (1+lab) 0).toNat qO hz
  show s (Z0x (wF Gl x lab)).toNat*sgP (Z0S (Z0d (wF Gl x lab)) (Z0S (x.drop 1) Z5d))=_
  have hu:s (Z0x (wF Gl x lab)).toNat = -s (x.getD 0 0).toNat*sgP (Z0d (wF Gl x lab)):=this
  rw [hu,Zav k2 (Z4A hw.p Zbu),Zav hw.p Zbu,show sgP Z5d = -1 by decide]
  rcases Z63 (Z0d (wF Gl x lab)) with q | q <;> rw [q] <;> (simp only [Int.mul_one,Int.mul_neg,Int.neg_mul,Int.one_mul,Int.neg_neg])
 induction h with
 | base=>rfl
 | fwd h e ih=>rw [step 2 _ _ qO (WOrb.ok hok hG hx h) e,ih]
 | bwd h e ih=>rw [step 3 _ _ qO (WOrb.ok hok hG hx h) e,ih]
theorem ZiT {s:Nat->Int} (hs:ZnY Gl n s) {e:Nat} (he:e<6*n):Z06 (dCs Gl n) (ypE e) ≠ Z06 (dCs Gl n) (ymE e):=by
 intro q
 have hk:e % 6<6:=by omega
 obtain ⟨l1,l2⟩:=ZcA (n:=n) he
 obtain ⟨x0,hx,fx⟩:∃ x0,WOk n x0/\fl x0=ypE e:=by
  have tab:∀ k:Fin 6,∃ p,p ∈ p24/\p.getD 0 0=(eAn k:Nat)/\p.getD 1 0=(eBn k:Nat):=by
   intro k
   match k with
   | 0=>exact ⟨[0,1,2,3],by decide,by decide,by decide⟩
   | 1=>exact ⟨[0,2,1,3],by decide,by decide,by decide⟩
   | 2=>exact ⟨[0,3,1,2],by decide,by decide,by decide⟩
   | 3=>exact ⟨[1,2,0,3],by decide,by decide,by decide⟩
   | 4=>exact ⟨[1,3,0,2],by decide,by decide,by decide⟩
   | 5=>exact ⟨[2,3,0,1],by decide,by decide,by decide⟩
  obtain ⟨p,p1,p2,p3⟩:=tab ⟨e % 6,hk⟩
  refine ⟨((e / 6:Nat):Int)::p,WOk.mk' qO p1, ?_⟩
  show 16*(((e / 6:Nat):Int)).toNat+4*(p.getD 0 0).toNat+(p.getD 1 0).toNat=_
  rw [p2,p3,Int.toNat_natCast,Int.toNat_natCast,Int.toNat_natCast]; rfl
 obtain ⟨x,ox,fx'⟩:=ZbH hok hG hx l2 (by rw [fx,q])
 have wx:=WOrb.ok hok hG hx ox
 obtain ⟨_,_,a1,a2,_⟩:=eAB hk
 have hsg:=ZiR hok hG hs hx ox
 rcases fl_opp hx wx (t:=e / 6) (i:=eAn (e % 6)) (j:=eBn (e % 6)) a1 a2 fx fx' with rfl | rfl
 · rcases WOrb.line hok hG hx ox with ⟨m,hm⟩ | ⟨m,hm⟩
   · exact Z8w hok hG (.inr rfl) hx hm
   · refine Z8w hok hG (.inr rfl) wx (m:=m) ?_
     rw [hm,ZnO hx Z88 Z88,show Z0S Z9s Z9s=[0,1,2,3] by decide,act_id hx]
 · have hg:([1,0,2,3]:List Int) ∈ p24:=by decide
   obtain ⟨t0,t1⟩:=hx.t
   have hd:(act x0 [1,0,2,3]).drop 1=Z0S (x0.drop 1) [1,0,2,3]:=rfl
   have h0:(act x0 [1,0,2,3]).getD 0 0=x0.getD 0 0:=rfl
   rw [hd,h0,Zav hx.p hg,show sgP [1,0,2,3] = -1 by decide] at hsg
   have s1:=(hs (x0.getD 0 0).toNat qO).1
   have s2:=Z63 (x0.drop 1)
   rcases s1 with q1 | q1 <;> rcases s2 with q2 | q2 <;> rw [q1,q2] at hsg <;> simp at hsg
end
theorem Zmw {Gl:List Int} {n:Nat} (hok:Z0v Gl n=true) (hG:Gl.length=n*20) (hn:n<=200) {s:Nat->Int} (hs:ZnY Gl n s) (k:Int):orB n Gl (inC (ZbJ (vCs Gl n) (4*n)) k)=true:=by
 refine (Zmy hok hG hn (Zfl hok hG k)).2 ⟨fun x=>s (x / 4),fun t i ht hi hq=>?_⟩
 show (s ((4*t+i) / 4)=1 ∨ s ((4*t+i) / 4) = -1)/\_
 rw [show (4*t+i) / 4=t by omega]
 refine ⟨(hs t ht).1,fun f hf h1 h2=>?_⟩
 have b:=Z20 hok hG ht hf h2
 have hj:=b.j i hi
 show s ((4*fU Gl t f+fJ Gl t f i) / 4) = -s ((4*t+i) / 4)*_
 rw [show (4*fU Gl t f+fJ Gl t f i) / 4=fU Gl t f by omega,show (4*t+i) / 4=t by omega]
 exact (hs t ht).2 f hf h2

set_option maxRecDepth 100000
set_option maxHeartbeats 1000000 in
theorem to_q (gb sb c0 cm:Nat) (s y1:Value) (n:Nat) (Gl:List Int) (h0:FH) (df:List Nat) (N:Nat) (l:TR h0 cm gb s n Gl) (hN:N<=100000) :
 ∀ (r k c:Nat) (H:FH) (qv:Value) (S q:List Int),N+1<=k+r->c0<=c->OI c0 c sb cm h0 H qv S q->OV n S q->zc S+q.length=N->k<=q.length →
 Ans (G (Za9 none) [ptrTo gb,.slice none 0 0,.bool false,.int .i64 0,.slice (some ⟨sb,0,none⟩) n n,y1,qv,.int .i64 k] H c df) fun x=>c<=x.c/\x.df=df/\Z0s cm h0 x.h ∧
  match gQ (tNb Gl) (tM Gl) r k S q with
  | none=>x.e = .ret /\ ∃ qv' k',x.vs=[ptrTo gb,.slice none 0 0,.bool false,.int .i64 0,.slice (some ⟨sb,0,none⟩) n n,y1,qv',.int .i64 k']
  | some z=>x.e = .exit 2/\(∃ qv' k',x.vs=[ptrTo gb,.slice none 0 0,.bool false,.int .i64 0,.slice (some ⟨sb,0,none⟩) n n,y1,qv',.int .i64 k']/\OI c0 x.c sb cm h0 x.h qv' z.1 z.2)/\OV n z.1 z.2:=by
 intro r
 induction r with
 | zero =>
  intro k c H qv S q hk hc o v hz hk'
  omega
 | succ r ih =>
  intro k c H qv S q hk hc o v hz hkq
  have sl:=o.ag.sl
  have lq:=sl.len
  have zl:=Zc1 S
  by_cases hlt:k<q.length
  · rw [gQ,if_pos hlt]
    have kl:(k:Int)<q.length:=by omega
    obtain ⟨q1,q2,q3⟩:=v.qs (q.getD k 0) (by
     rw [List.getD_eq_getElem?_getD,List.getElem?_eq_getElem hlt]
     exact List.getElem_mem hlt)
    obtain ⟨a,ha⟩:∃ a:Nat,q.getD k 0=a:=⟨(q.getD k 0).toNat,by omega⟩
    rw [ha] at q1 q2 q3
    rw [ha,Int.toNat_natCast]
    rw [Int.toNat_natCast] at q3
    obtain ⟨⟨e',vs',h',c',df'⟩,ex,z1,z2,z3,z4⟩:=Zmc gb sb a k c0 cm s y1 n Gl h0 df N l qO hN 4 0 (c+1+1) H qv S q qO qO (o.mono qO) v hz hlt ha q3
    dsimp only at z1 z2 z3 z4
    subst z2
    revert z4
    simp only [Int.ofNat_eq_natCast,Int.cast_ofNat_Int] at ex
    cases hof:gFs (tNb Gl) (tM Gl) a 4 0 S q with
    | none =>
     rintro ⟨rfl,qv',f',rfl⟩
     refine Ans.lpN rfl rfl (Z55 ..) ?_
     unfold Z5G
     have fx:=ai lq (ai kl ex)
     refine Ans.go ?_
     clear fx
     exact Ans.retN ⟨by dsimp only; omega,rfl,z3,rfl,qv',k,rfl⟩
    | some z =>
     rintro ⟨rfl,qv',rfl,o',v',y5,y6⟩
     have hk':=ih (k+1) (c'+1) h' qv' z.1 z.2 qO qO (o'.mono qO) v' y5 qO
     refine Ans.lpN rfl rfl (Z55 ..) ?_
     unfold Z5G
     have fx:=ai lq (ai kl ex)
     refine Ans.go ?_
     clear fx
     refine Ans.nextN (hk'.mono fun x hx'=>⟨by have:=hx'.1; omega,hx'.2⟩)
  · rw [gQ,if_neg hlt]
    have kl:¬ (k:Int)<q.length:=by omega
    refine Ans.lpN rfl rfl (Z55 ..) ?_
    unfold Z5G
    have fx:=ai lq kl
    refine Ans.go ?_
    clear fx
    exact Ans.exitN ⟨by dsimp only; omega,rfl,o.sm,rfl,⟨qv,k,rfl,o.mono (by dsimp only; omega)⟩,v⟩
set_option maxHeartbeats 1000000 in
theorem to_all (gb sb cm:Nat) (s:Value) (n:Nat) (Gl:List Int) (h0:FH) (df:List Nat) (l:TR h0 cm gb s n Gl) (s1:256*cm<=sb) :
 ∀ (r f c:Nat) (H:FH) (S:List Int),f+r=n->sb<256*c->cm<=c->H.f sb=some (.cells false none (ints S))->Z0s cm h0 H->OV n S [] →
 Ans (G (Zaa none) [ptrTo gb,.slice none 0 0,.bool false,.int .i64 0,.slice (some ⟨sb,0,none⟩) n n,.int .i64 f] H c df) fun x=>c<=x.c/\x.df=df/\Z0s cm h0 x.h ∧
  match gR (tNb Gl) (tM Gl) r f S with
  | none=>x.e = .ret /\ ∃ f',x.vs=[ptrTo gb,.slice none 0 0,.bool false,.int .i64 0,.slice (some ⟨sb,0,none⟩) n n,.int .i64 f']
  | some z=>x.e = .exit 0 /\ ∃ f',x.vs=[ptrTo gb,.slice none 0 0,.bool false,.int .i64 0,.slice (some ⟨sb,0,none⟩) n n,.int .i64 f']:=by
 intro r
 have hle:=l.le
 induction r with
 | zero =>
  intro f c H S hf s2 s3 fs sm v
  obtain rfl:f=n:=by omega
  refine Ans.lpN rfl rfl (Z2P ..) ?_
  unfold Z4v
  have fx:=True.intro
  refine Ans.go ?_
  clear fx
  exact Ans.exitN ⟨by dsimp only; omega,rfl,sm,rfl,f,rfl⟩
 | succ r ih =>
  intro f c H S hf s2 s3 fs sm v
  have lf:(f:Int)<n:=by omega
  have hl:=v.xl
  have ra:ld1 H (.pointer (some ⟨sb,f,none⟩))=some (.int .i64 (S.getD f 0)):=by
   rw [Z02 ⟨false,none,fs⟩,ints_getD _ _ (by rw [hl]; omega)]
  rw [gR]
  by_cases h0':S.getD f 0=0
  · rw [if_neg (by rw [h0']; simp)]
    rw [h0'] at ra
    obtain ⟨v',z',-⟩:=v.push (k:=f) (w:=1) qO h0' (.inl rfl)
    have w1:stN H 1 (.pointer (some ⟨sb,f,none⟩)) (.int .i64 1)=some (HeapC.set H sb (.cells false none (ints (S.set f 1)))):=by
     rw [Z11 (show HeapC.get H sb=_ from fs) (by simp; omega) rfl rfl,Z1Z]
    obtain ⟨H1,hH1⟩:∃ H1,HeapC.set H sb (.cells false none (ints (S.set f 1)))=H1:=⟨_,rfl⟩
    rw [hH1] at w1
    obtain ⟨qb,hqb⟩:∃ b,256*(c+1+1+1)+1=b:=⟨_,rfl⟩
    have hbl:Z7R [.int .i64 0] [(0,1,.int .i64 f)]=some [.int .i64 f]:=rfl
    obtain ⟨H2,hH2⟩:∃ H2,newB H1 qb [.int .i64 f]=H2:=⟨_,rfl⟩
    have o:OI c (c+1+1+1+1+1) sb cm h0 H2 (.slice (some ⟨qb,0,none⟩) 1 1) (S.set f 1) [(f:Int)]:=by
     refine ⟨?_,⟨rfl,by simp,rfl,qb,none,rfl,by omega,by omega, ?_,.inl rfl⟩,fun j hj=>?_,s1,s2,s3⟩
     · rw [← hH2,Z01,if_neg qO,← hH1,Z0b,if_pos rfl]
     · rw [← hH2,Z01,if_pos rfl]; rfl
     · rw [← hH2,Z01,if_neg qO,← hH1,Z0b,if_neg qO]
       exact sm j hj
    have zl:=Zc1 (S.set f 1)
    rw [List.length_set,hl] at zl
    obtain ⟨⟨e',vs',h',c',df'⟩,ex,z1,z2,z3,z4⟩:=to_q gb sb c cm s (.int .i64 f) n Gl h0 df (zc (S.set f 1)+1) l qO 1000 0 (c+1+1+1+1+1) H2 _ (S.set f 1) [(f:Int)] qO qO o v' rfl (by simp)
    dsimp only at z1 z2 z3 z4
    subst z2
    revert z4
    simp only [Int.ofNat_eq_natCast,Int.cast_ofNat_Int,List.length_cons,List.length_nil,Nat.zero_add] at ex
    cases hof:gQ (tNb Gl) (tM Gl) 1000 0 (S.set f 1) [(f:Int)] with
    | none =>
     rintro ⟨rfl,qv',k',rfl⟩
     refine Ans.lpN rfl rfl (Z2P ..) ?_
     unfold Z4v
     have fx:=ai ra (ai w1 (ai hbl (ai hqb (ai hH2 ex))))
     refine Ans.go ?_
     clear fx
     exact Ans.retN ⟨by dsimp only; omega,rfl,z3,rfl,f,rfl⟩
    | some z =>
     rintro ⟨rfl,⟨qv',k',rfl,o'⟩,v2⟩
     have hk':=ih (f+1) (c'+1) h' z.1 qO qO qO o'.fs z3 ⟨v2.xl,v2.v,fun x hx=>by simp at hx⟩
     refine Ans.lpN rfl rfl (Z2P ..) ?_
     unfold Z4v
     have fx:=ai ra (ai w1 (ai hbl (ai hqb (ai hH2 ex))))
     refine Ans.go ?_
     clear fx
     refine Ans.nextN (hk'.mono fun x hx'=>⟨by have:=hx'.1; omega,hx'.2⟩)
  · rw [if_pos h0']
    have hk':=ih (f+1) (c+1+1+1) H S qO qO qO fs sm v
    refine Ans.lpN rfl rfl (Z2P ..) ?_
    unfold Z4v
    have fx:=ai ra h0'
    refine Ans.go ?_
    clear fx
    refine Ans.nextN (hk'.mono fun x hx'=>⟨by have:=hx'.1; omega,hx'.2⟩)
theorem ZiS {Gl:List Int} {n:Nat} (hok:Z0v Gl n=true) (hG:Gl.length=n*20) (hn:n<=60):(gR (tNb Gl) (tM Gl) n 0 (List.replicate n 0)).isSome=true ↔ ∃ s,ZnY Gl n s:=by
 have main:=ZlO (K:=n) (nb:=tNb Gl) (m:=tM Gl) (fun a f ha hf=>by
  have k:=Z1s hok ha hf
  by_cases z:Z0x (Z03 Gl a f)<0
  · left
    unfold Z0n at k
    rw [Bool.or_eq_true,decide_eq_true_eq] at k
    rcases k with k | k
    · show Z0x (Z03 Gl a f) = -1
      rw [k]; rfl
    · simp only [Bool.and_eq_true,decide_eq_true_eq] at k
      omega
  · right
    have:=(Z0Y k z).1
    show 0<=Z0x (Z03 Gl a f)/\Z0x (Z03 Gl a f)<n
    omega) (fun a f=>Z63 _) (fun a f ha hf h0=>by
  have z:¬ Z0x (Z03 Gl a f)<0:=by show ¬ tNb Gl a f<0; omega
  have b:=Z20 hok hG ha hf z
  have hg:=b.g
  refine ⟨fJ Gl a f f,b.j f hf, ?_⟩
  show Z0x (Z03 Gl (fU Gl a f) (fJ Gl a f f))=a
  have:(Z0x (Z03 Gl (fU Gl a f) (fJ Gl a f f))).toNat=a:=b.bu
  omega) qO
 refine main.trans ⟨fun ⟨s,hs⟩=>⟨s,fun t ht=>⟨(hs t ht).1,fun f hf hg=>(hs t ht).2 f hf (by show 0<=Z0x (Z03 Gl t f); omega)⟩⟩,fun ⟨s,hs⟩=>⟨s,fun t ht=>⟨(hs t ht).1,fun f hf hg=>(hs t ht).2 f hf (by have:0<=Z0x (Z03 Gl t f):=hg; omega)⟩⟩⟩
set_option maxHeartbeats 1000000 in
theorem ZgJ (s:Value) (n:Nat) (Gl:List Int) (h:FH) (c:Nat) (df:List Nat) (hs:SlI h c s 20 n Gl) (hn:n<=60) :
 Ans (G (.fn 30) [.agg #[s]] h c df) fun r=>∃ ov b e,r=⟨.ret,[.tuple #[ov,.bool b,.int .i64 e]],r.h,r.c,[]⟩/\c<=r.c/\Z0s c h r.h/\(b=true ↔ Z0v Gl n=true /\ ∃ s,ZnY Gl n s):=by
 refine Ans.call' (fun r e=>f30_go e) ?_
 have Z6b:((Value.agg #[s]).cells.toList.all Z07)=true:=by simp [Value.cells,hs.flat]
 have Z6d:(Value.agg #[s]).cells.toList=[s]:=rfl
 unfold Znq
 rw [Z6b,Z6d]
 simp only [cond_true,Nat.add_zero]
 obtain ⟨g0,hg0⟩:∃ b,256*c=b:=⟨_,rfl⟩
 rw [hg0]
 obtain ⟨M,hM⟩:∃ M,newB h g0 [s]=M:=⟨_,rfl⟩
 rw [hM]
 have Mf:∀ j,M.f j=if j=g0 then some (.cells false none [s]) else h.f j:=fun j=>by rw [← hM,Z01]
 have Mg:M.f g0=some (.cells false none [s]):=by rw [Mf,if_pos rfl]
 have sM:Z0s c h M:=fun j hj=>by rw [Mf,if_neg qO]
 have slM:SlI M c s 20 n Gl:=hs.same sM
 have l1:ldN M 1 (.pointer (some ⟨g0,0,none⟩))=some (.agg #[s]):=Z1m (cs:=[]) ⟨false,none,Mg⟩
 have l0:ld1 M (.pointer (some ⟨g0,0,none⟩))=some s:=by rw [Z02 (cs:=[s]) ⟨false,none,Mg⟩]; rfl
 have len:=slM.len
 have ck:=Z0c (Zi4 s n Gl M (c+1+1) [] (slM.mono qO))
 by_cases hok:Z0v Gl n=true
 · rw [if_pos ⟨by omega,hok⟩] at ck
   have mk:=Z8y 1 8 .i64 .i64 n qO qO
   obtain ⟨sb,hsb⟩:∃ b,256*(c+1+1)+3=b:=⟨_,rfl⟩
   obtain ⟨K,hK⟩:∃ K,newB M sb (ints (List.replicate n 0))=K:=⟨_,rfl⟩
   have fs:K.f sb=some (.cells false none (ints (List.replicate n 0))):=by rw [← hK,Z01,if_pos rfl]
   have sm:Z0s (c+1+1) M K:=fun j hj=>by rw [← hK,Z01,if_neg qO]
   have v:OV n (List.replicate n 0) []:=⟨by simp,fun j=>.inl (by
    rw [List.getD_eq_getElem?_getD,List.getElem?_replicate]; split <;> rfl),fun x hx=>by simp at hx⟩
   obtain ⟨⟨e',vs',h',c',df'⟩,ex,z1,z2,z3,z4⟩:=to_all g0 sb (c+1+1) s n Gl M [] ⟨slM.mono qO,⟨false,none,Mg⟩,by omega,hok,hn⟩ qO n 0 (c+1+1+1+1) K _ qO qO qO fs sm v
   dsimp only at z1 z2 z3 z4
   subst z2
   revert z4
   simp only [Int.ofNat_eq_natCast,Int.cast_ofNat_Int] at ex
   have hsg:=ZiS hok hs.1 hn
   have fin:Z0s c h h':=fun j hj=>by rw [z3 j qO]; exact sM j hj
   have tk:∀ h:FH,Z09 h []=some h:=fun _=>rfl
   cases hof:gR (tNb Gl) (tM Gl) n 0 (List.replicate n 0) with
   | none =>
    rw [hof] at hsg
    rintro ⟨rfl,f',rfl⟩
    have fx:=ai l0 (ai l1 (ai len (ai ck (ai mk (ai hsb (ai hK (ai ex tk)))))))
    refine Ans.go ?_
    clear fx
    exact .done ⟨_,false,_,rfl,by dsimp only; omega,fin,⟨fun z=>(by cases z),fun z=>(by have:=hsg.2 z.2; cases this)⟩⟩
   | some z =>
    rw [hof] at hsg
    rintro ⟨rfl,f',rfl⟩
    have fx:=ai l0 (ai l1 (ai len (ai ck (ai mk (ai hsb (ai hK (ai ex tk)))))))
    refine Ans.go ?_
    clear fx
    exact .done ⟨_,true,_,rfl,by dsimp only; omega,fin,⟨fun z=>⟨hok,hsg.1 rfl⟩,fun z=>rfl⟩⟩
 · rw [if_neg (fun z=>hok z.2)] at ck
   have fx:=ai l0 (ai l1 ck)
   refine Ans.go ?_
   clear fx
   exact .done ⟨_,false,_,rfl,by dsimp only; omega,sM,⟨fun z=>(by cases z),fun z=>absurd z.1 hok⟩⟩

theorem ZeQ (i j:Nat) (hij:i<j) (hj:j<4) (h:FH) (c:Nat) (df:List Nat):G (.fn 28) [.int .i64 i,.int .i64 j] h c df=some ⟨.ret,[.int .i64 (edN i j)],h,c,[]⟩:=by
 refine Z1l (fun r e=>ZlR e) (by simp) ?_
 unfold Zl5
 have:(i=0/\j=1) ∨ (i=0/\j=2) ∨ (i=0/\j=3) ∨ (i=1/\j=2) ∨ (i=1/\j=3) ∨ (i=2/\j=3):=by omega
 rcases this with ⟨rfl,rfl⟩ | ⟨rfl,rfl⟩ | ⟨rfl,rfl⟩ | ⟨rfl,rfl⟩ | ⟨rfl,rfl⟩ | ⟨rfl,rfl⟩
 · rw [show edN (((0:Nat)):Int) ((1:Nat):Int)=0 by decide]
   simp only [Int.cast_ofNat_Int,Int.natCast_zero,Int.natCast_one]
   have fx:=True.intro
   refine Ans.go ?_
   clear fx
   (have fx:=True.intro; exact Ans.pu)
 · rw [show edN (((0:Nat)):Int) ((2:Nat):Int)=1 by decide]
   simp only [Int.cast_ofNat_Int,Int.natCast_zero,Int.natCast_one]
   have fx:=True.intro
   refine Ans.go ?_
   clear fx
   (have fx:=True.intro; exact Ans.pu)
 · rw [show edN (((0:Nat)):Int) ((3:Nat):Int)=2 by decide]
   simp only [Int.cast_ofNat_Int,Int.natCast_zero,Int.natCast_one]
   have fx:=True.intro
   refine Ans.go ?_
   clear fx
   (have fx:=True.intro; exact Ans.pu)
 · rw [show edN (((1:Nat)):Int) ((2:Nat):Int)=3 by decide]
   simp only [Int.cast_ofNat_Int,Int.natCast_zero,Int.natCast_one]
   have fx:=True.intro
   refine Ans.go ?_
   clear fx
   (have fx:=True.intro; exact Ans.pu)
 · rw [show edN (((1:Nat)):Int) ((3:Nat):Int)=4 by decide]
   simp only [Int.cast_ofNat_Int,Int.natCast_zero,Int.natCast_one]
   have fx:=True.intro
   refine Ans.go ?_
   clear fx
   (have fx:=True.intro; exact Ans.pu)
 · rw [show edN (((2:Nat)):Int) ((3:Nat):Int)=5 by decide]
   simp only [Int.cast_ofNat_Int,Int.natCast_zero,Int.natCast_one]
   have fx:=True.intro
   refine Ans.go ?_
   clear fx
   (have fx:=True.intro; exact Ans.pu)
theorem Zld (i j:Nat) (hi:i<4) (hj:j<4) (hne:i ≠ j) (h:FH) (c:Nat) (df:List Nat):G (.fn 28) [.int .i64 i,.int .i64 j] h c df=some ⟨.ret,[.int .i64 (edN i j)],h,c,[]⟩:=by
 rcases Nat.lt_or_ge i j with q | q
 · exact ZeQ i j q hj h c df
 · have q:j<i:=by omega
   refine Z1l (fun r e=>ZlR e) (by simp) ?_
   have lo:=Z0c (ZeQ j i q hi h (c+1+1+1+1) [])
   have es:edN (j:Int) i=edN (i:Int) j:=by
    have:((List.range 4).all fun i=>(List.range 4).all fun j=>decide (edN (j:Nat) (i:Nat)=edN (i:Nat) (j:Nat)))=true:=by decide
    rw [List.all_eq_true] at this
    have h5:=this i (by simp; omega)
    rw [List.all_eq_true] at h5
    simpa using h5 j (by simp; omega)
   rw [es] at lo
   have i4:(i:Int)<4:=by omega
   have j4:(j:Int)<4:=by omega
   have ij:(j:Int)<i:=by omega
   unfold Zl5
   have fx:=lo
   refine Ans.go ?_
   clear fx
   (have fx:=True.intro; exact Ans.pu)
def mb (L:List Int) (i:Nat):List Int:=(L.drop (i*5)).take 5
set_option maxHeartbeats 1000000 in
theorem ZlE (u v z:Value) (K j:Nat) (L M:List Int) (h:FH) (c:Nat) (df:List Nat) (hu:SlI h c u 5 K L) (hv:SlI h c v 5 K M) (hK:K<=100000) (hj:j<K) (oz:OkV c z):∀ (r i:Nat) (b:Bool),i+r=K →
 Ans (G (Za6 none) [u,v,z,.int .i64 j,.bool b,.int .i64 K,.int .i64 j,.int .i64 K,.int .i64 i] h c df) fun q=>∃ b',q=⟨.exit 2,[u,v,z,.int .i64 j,.bool b',.int .i64 K,.int .i64 j,.int .i64 K,.int .i64 K],h,c,df⟩/\(b=true->(∀ a,i<=a->a<K->mb L a=mb M ((a+j) % K))->b'=true):=by
 intro r
 have ou:=hu.okV
 have ov:=hv.okV
 have hl:=hu.1
 have hl2:=hv.1
 induction r with
 | zero =>
  intro i b hi
  obtain rfl:i=K:=by omega
  refine Ans.lpG rfl rfl (Z54 ..) ?_
  unfold Z5F
  have fx:=True.intro
  refine Ans.go ?_
  clear fx
  (have fx:=ai ou (ai ov oz); refine Ans.ex0 ?_; clear fx)
  exact ⟨b,rfl,fun z _=>z⟩
 | succ r ih =>
  intro i b hi
  have i1:(i:Int)<K:=by omega
  cases b with
  | false =>
   have hk:=ih (i+1) false qO
   refine Ans.lpG rfl rfl (Z54 ..) ?_
   unfold Z5F
   have fx:=True.intro
   refine Ans.go ?_
   clear fx
   (have fx:=ai ou (ai ov oz); refine Ans.nx0 ?_; clear fx)
   refine hk.mono fun q ⟨b',e,h⟩=>⟨b',e,fun z=>by cases z⟩
  | true =>
   have hm:(i+j) % K<K:=Nat.mod_lt _ qO
   have x1:=hu.ixs .i64 i qO qO
   have x2:=hv.ixs .i64 ((i+j) % K:Nat) qO qO
   rw [Int.toNat_natCast] at x1 x2
   have r1:=hu.rdN 5 (i*5) qO qO
   have r2:=hv.rdN 5 ((i+j) % K*5) qO qO
   have len:=hv.len
   have eq:=ZhQ (mb L i) (mb M ((i+j) % K)) (by unfold mb; rw [List.length_take,List.length_drop]; omega) (by unfold mb; rw [List.length_take,List.length_drop]; omega)
   have hk:=ih (i+1) (decide (mb L i=mb M ((i+j) % K))) qO
   rw [show (L.drop (i*5)).take 5=mb L i from rfl] at r1
   rw [show (M.drop ((i+j) % K*5)).take 5=mb M ((i+j) % K) from rfl] at r2
   have rm:Z00 P .rem 3 (.int .i64 ((i:Int)+j)) (.int .i64 K)=some (.int .i64 (((i+j) % K:Nat):Int)):=by
    rw [aBinOp_rem _ _ _ qO,← Int.natCast_add,Int.tmod_eq_emod_of_nonneg qO,← Int.natCast_emod]
   obtain ⟨m,hm'⟩:∃ m,(i+j) % K=m:=⟨_,rfl⟩
   rw [hm'] at rm x2 r2 eq hk
   obtain ⟨D,hD⟩:∃ D,decide (mb L i=mb M m)=D:=⟨_,rfl⟩
   rw [hD] at eq hk
   obtain ⟨X,hX⟩:∃ X,av (mb L i)=X:=⟨_,rfl⟩
   obtain ⟨Y,hY⟩:∃ X,av (mb M m)=X:=⟨_,rfl⟩
   rw [hX] at r1 eq
   rw [hY] at r2 eq
   refine Ans.lpG rfl rfl (Z54 ..) ?_
   unfold Z5F
   have fx:=ai x1 (ai x2 (ai r1 (ai r2 (ai eq (ai len rm)))))
   refine Ans.go ?_
   clear fx
   (have fx:=ai ou (ai ov oz); refine Ans.nx0 ?_; clear fx)
   refine hk.mono fun q ⟨b',e,hb⟩=>⟨b',e,fun _ hall=>hb ?_ fun a h1 h2=>hall a qO h2⟩
   have:=hall i qO qO
   rw [hm'] at this
   rw [← hD,this]; simp


theorem st6 {K:FH} {p0:Nat} {R:List Value} (R6:R.length=6) (Rf:R.all Z07=true):stN (newB K p0 Z7D) 6 (.pointer (some ⟨p0,0,none⟩)) (.agg R.toArray)=some (newB K p0 R):=by
 have:=Z8e (h:=newB K p0 Z7D) (b:=p0) (n:=6) (z:=Z7D) (L:=R) (by rw [Z01,if_pos rfl]) rfl R6 Rf
 rwa [Z8x] at this

theorem Zmo (u v:Value) (K k:Nat) (L M:List Int) (h:FH) (c:Nat) (df:List Nat) (hu:SlI h c u 5 K L) (hv:SlI h c v 5 K M) (hK:K<=100000) (hk:k<K) (hh:∀ a,a<K->mb L a=mb M ((a+k) % K)):∀ (r j:Nat),j+r=k →
 Ans (G (Za7 none) [u,v,.bool false,.int .i64 K,.int .i64 j] h c df) fun q=>∃ j',q=⟨.ret,[u,v,.bool true,.int .i64 K,.int .i64 j'],h,c,df⟩:=by
 intro r
 have ou:=hu.okV
 have ov:=hv.okV
 have len:=hu.len
 induction r with
 | zero =>
  intro j hj
  obtain rfl:j=k:=by omega
  have i1:(j:Int)<K:=by omega
  obtain ⟨q,hq,b',rfl,hb⟩:=ZlE u v (.bool false) K j L M h (c+1+1+1+1) df (hu.mono qO) (hv.mono qO) hK hk (.bool _ _) K 0 true qO
  obtain rfl:=hb rfl fun a _ ha=>hh a ha
  simp only [Int.ofNat_eq_natCast,Int.cast_ofNat_Int] at hq
  refine Ans.lpG rfl rfl (Z6C ..) ?_
  unfold Z7i
  have fx:=ai len hq
  refine Ans.go ?_
  clear fx
  (have fx:=ai ou ov; refine Ans.rt0 ?_; clear fx)
  exact ⟨j,rfl⟩
 | succ r ih =>
  intro j hj
  have i1:(j:Int)<K:=by omega
  obtain ⟨q,hq,b',rfl,hb⟩:=ZlE u v (.bool false) K j L M h (c+1+1+1+1) df (hu.mono qO) (hv.mono qO) hK qO (.bool _ _) K 0 true qO
  simp only [Int.ofNat_eq_natCast,Int.cast_ofNat_Int] at hq
  have hk:=ih (j+1) qO
  refine Ans.lpG rfl rfl (Z6C ..) ?_
  unfold Z7i
  cases b' with
  | true =>
   have fx:=ai len hq
   refine Ans.go ?_
   clear fx
   (have fx:=ai ou ov; refine Ans.rt0 ?_; clear fx)
   exact ⟨j,rfl⟩
  | false =>
   have fx:=ai len hq
   refine Ans.go ?_
   clear fx
   (have fx:=ai ou ov; refine Ans.nx0 ?_; clear fx)
   exact hk
theorem Zf8 (u v:Value) (K k:Nat) (L M:List Int) (h:FH) (c:Nat) (hu:SlI h c u 5 K L) (hv:SlI h c v 5 K M) (hK:K<=100000) (hk:k<K) (hh:∀ a,a<K->mb L a=mb M ((a+k) % K)):callF G 31 [u,v] h c=some (.bool true,h,c):=by
 refine Z0c (df:=[]) (Z1l (fun r e=>f31_go e) (by simp) ?_)
 have lu:=hu.len
 have lv:=hv.len
 obtain ⟨q,hq,j',rfl⟩:=Zmo u v K k L M h (c+1+1+1) [] (hu.mono qO) (hv.mono qO) hK hk hh k 0 qO
 simp only [Int.ofNat_eq_natCast,Int.cast_ofNat_Int] at hq
 unfold Znp
 have fx:=ai lu (ai lv hq)
 refine Ans.go ?_
 clear fx
 (have fx:=True.intro; exact Ans.pu)
set_option maxHeartbeats 1000000 in
theorem st_rev (gp sb rb c m:Nat) (R:List Bool) (H:FH) (df:List Nat) (y0 y4 y5:Value) (y2:Bool) (fr:H.f rb=some (.cells false none (bools R))) (hR:R.length=m) (hm:m<=360) (lg:gp<256*c) (ls:sb<256*c) (lr:rb<256*c) (oy0:OkV c y0) (oy4:OkV c y4) (oy5:OkV c y5) (hno:∀ v,v<m->R.getD v false=false) :
 ∀ (r k:Nat),k+r=m->Ans (G (ZaU none) [y0,ptrTo gp,.bool y2,y4,y5,ptrTo sb,.slice (some ⟨rb,0,none⟩) m m,.int .i64 m,.int .i64 k] H c df) fun q =>
  q=⟨.exit 0,[y0,ptrTo gp,.bool y2,y4,y5,ptrTo sb,.slice (some ⟨rb,0,none⟩) m m,.int .i64 m,.int .i64 m],H,c,df⟩:=by
 intro r
 induction r with
 | zero =>
  intro k hk
  obtain rfl:k=m:=by omega
  refine Ans.lpG rfl rfl (Z8Q ..) ?_
  unfold ZaY
  have fx:=True.intro
  refine Ans.go ?_
  clear fx
  (have fx:=ai lg (ai ls (ai lr (ai oy0 (ai oy4 oy5)))); refine Ans.ex0 ?_; clear fx)
  rfl
 | succ r ih =>
  intro k hk
  have kl:(k:Int)<m:=by omega
  have tn:(m:Int)<=360:=by omega
  have hk':=ih (k+1) qO
  have ix:ixS 1 (.slice (some ⟨rb,0,none⟩) m m) (.int .i64 (k:Int))=some (.pointer (some ⟨rb,k,none⟩)):=by
   have:=Z5o rb m .i64 (k:Int) qO qO
   rwa [Int.toNat_natCast] at this
  have r0:ld1 H (.pointer (some ⟨rb,k,none⟩))=some (.bool false):=by
   rw [Z02 (cs:=bools R) ⟨false,none,fr⟩,Z92 _ _ qO,hno k qO]
  refine Ans.lpG rfl rfl (Z8Q ..) ?_
  unfold ZaY
  have fx:=ai ix r0
  refine Ans.go ?_
  clear fx
  (have fx:=ai lg (ai ls (ai lr (ai oy0 (ai oy4 oy5)))); refine Ans.nx0 ?_; clear fx)
  exact hk'
set_option maxHeartbeats 1000000 in
theorem Ziw (gp c0 c cnt n:Nat) (lv:Value) (Gl:List Int) (H:FH) (df:List Nat) (y0 y4 y5:Value) (y2:Bool) (g:GrC c0 H c lv 6 cnt (lkL n Gl (vN Gl n) (dN Gl n) cnt)) (hcnt:cnt<=240) (lg:gp<256*c) (oy0:OkV c y0) (oy4:OkV c y4) (oy5:OkV c y5) (hor:∀ k,k<cnt->orB n Gl (inC (vN Gl n) k)=true) :
 ∀ (r k:Nat),k+r=cnt->Ans (G (ZaT none) [y0,ptrTo gp,.bool y2,y4,y5,lv,.int .i64 cnt,.int .i64 k] H c df) fun q =>
  q=⟨.exit 2,[y0,ptrTo gp,.bool y2,y4,y5,lv,.int .i64 cnt,.int .i64 cnt],H,c,df⟩:=by
 intro r
 have ol:OkV c lv:=by
  rcases g with ⟨rfl,_,_⟩ | ⟨_,_,_,_,i,rfl,_,h,_⟩
  · exact OkV.sl0 _ _ _
  · exact OkV.sl h
 induction r with
 | zero =>
  intro k hk
  obtain rfl:k=cnt:=by omega
  refine Ans.lpG rfl rfl (Z8P ..) ?_
  unfold ZaX
  have fx:=True.intro
  refine Ans.go ?_
  clear fx
  (have fx:=ai lg (ai ol (ai oy0 (ai oy4 oy5))); refine Ans.ex0 ?_; clear fx)
  rfl
 | succ r ih =>
  intro k hk
  have kl:(k:Int)<cnt:=by omega
  have tn:(cnt:Int)<=240:=by omega
  have hk':=ih (k+1) qO
  obtain ⟨i,rfl,h3,h4,h5⟩:∃ i,lv = .slice (some ⟨i,0,none⟩) cnt cnt/\256*c0<=i/\i<256*c/\H.f i=some (.cells false (some 6) (lkL n Gl (vN Gl n) (dN Gl n) cnt)):=by
   rcases g with ⟨_,e,_⟩ | ⟨_,_,_,_,q⟩
   · omega
   · exact q
  have ix:ixS 6 (.slice (some ⟨i,0,none⟩) cnt cnt) (.int .i64 (k:Int))=some (.pointer (some ⟨i,k*6,none⟩)):=by
   rw [ixS_sl 6 i 0 cnt cnt .i64 (k:Int) qO qO,Nat.zero_add,Int.toNat_natCast]
  have ll:=Zcv n Gl (vN Gl n) (dN Gl n) cnt
  have r0:ldN H 6 (.pointer (some ⟨i,k*6,none⟩))=some (.agg (lkD n Gl (vN Gl n) (dN Gl n) k).toArray):=by
   rw [ldN_holds (cs:=lkL n Gl (vN Gl n) (dN Gl n) cnt) ⟨false,some 6,h5⟩ qO,ZlK n Gl (vN Gl n) (dN Gl n) qO]
  obtain ⟨kb,hkb⟩:∃ b,256*(c+1)+2=b:=⟨_,rfl⟩
  have st:stN (newB H kb [.int .i64 0,.int .i64 0,.int .i64 0,.int .i64 0,.bool false,.bool false]) 6 (.pointer (some ⟨kb,0,none⟩)) (.agg (lkD n Gl (vN Gl n) (dN Gl n) k).toArray)=some (newB H kb (lkD n Gl (vN Gl n) (dN Gl n) k)):=by
   rw [Z0z _ 6 _ 0 _ _ (by simp [Value.cells,Z68]) (by simp) (by simp only [Value.cells]; exact Zdy _ _ _ _ _)]
   simp only [Value.cells,Z0W,List.take_zero,List.nil_append,Nat.zero_add,Z68]
   simp [Z68]
  have gk:Z0f (newB H kb (lkD n Gl (vN Gl n) (dN Gl n) k)) kb (lkD n Gl (vN Gl n) (dN Gl n) k):=Z0f.newB_same _ _ _
  have r3:ld1 (newB H kb (lkD n Gl (vN Gl n) (dN Gl n) k)) (.pointer (some ⟨kb,5,none⟩))=some (.bool true):=by
   rw [Z02 gk,← hor k qO]; rfl
  obtain ⟨h1,hh1⟩:∃ h1,newB H kb (lkD n Gl (vN Gl n) (dN Gl n) k)=h1:=⟨_,rfl⟩
  have sB:Z0s c H h1:=fun j hj=>by rw [← hh1,Z01,if_neg qO]
  rw [hh1] at st r3
  obtain ⟨W,hW⟩:∃ S,Value.agg (lkD n Gl (vN Gl n) (dN Gl n) k).toArray=S:=⟨_,rfl⟩
  rw [hW] at r0 st
  refine Ans.lpG rfl rfl (Z8P ..) ?_
  unfold ZaX
  have fx:=ai ix (ai r0 (ai hkb (ai st r3)))
  refine Ans.go ?_
  clear fx
  (have fx:=ai lg (ai ol (ai oy0 (ai oy4 (ai oy5 sB)))); refine Ans.nx0 ?_; clear fx)
  exact hk'

theorem it_mod {α:Type} {f:α->Option α} {s:α} {K:Nat} (hK:1<=K) (h:it f s K=some s) (m:Nat):it f s m=it f s (m % K):=by
 induction m using Nat.strongRecOn with
 | ind m ih =>
  rcases Nat.lt_or_ge m K with q | q
  · rw [Nat.mod_eq_of_lt q]
  · have:=Z4e h (m-K)
    rw [show K+(m-K)=m by omega] at this
    rw [this,ih (m-K) qO,Nat.mod_eq_sub_mod q]
section
variable {Gl:List Int} {n:Nat} (hok:Z0v Gl n=true) (hG:Gl.length=n*20)
 include hok hG
theorem ZgZ {s x:List Int} (hs:WOk n s):∀ {K a:Nat},(∀ j,j<K->(it (wN Gl 2) s j).isSome=true)->a<K->it (wN Gl 2) s a=some x->mb (rgL Gl 2 s K) a=x
 | 0,a,_,h,_=>by omega
 | K+1,a,he,ha,hx=>by
  by_cases e:a=K
  · subst e
    exact rgL_at hok hG qO hs hx
  · obtain ⟨y,hy⟩:=Option.isSome_iff_exists.1 (he K qO)
    have hl:=Zce hok hG (lab:=2) qO hs (k:=K) fun j hj=>he j qO
    have ih:=ZgZ hs (K:=K) (fun j hj=>he j qO) qO hx
    unfold mb at ih ⊢
    rw [Z7V hy,List.drop_append_of_le_length qO,List.take_append_of_le_length (by rw [List.length_drop]; omega)]
    exact ih
theorem ZiM {x0 x:List Int} (hx0:WOk n x0) {K k:Nat} (h:RgC Gl x0 2 K) (hk:it (wN Gl 2) x0 k=some x):RgC Gl x 2 K:=by
 obtain ⟨h1,h2,h3⟩:=h
 refine ⟨h1, ?_,fun j j1 j2 e=>?_⟩
 · rw [← Z4e hk K,Nat.add_comm,Z4e h2 k]; exact hk
 · rw [← Z4e hk j] at e
   exact h3 j j1 j2 (ZaK hok hG hx0 hk e)
theorem ZiK {x0 y y' x:List Int} (hx0:WOk n x0) {K K' k:Nat} (h:RgO Gl x0 y K) (hk:it (wN Gl 2) y k=some x) (h':RgO Gl x y' K'):y'=y/\K'=K:=by
 obtain ⟨_,⟨i,i1,i2⟩,z,k1,k2⟩:=h
 obtain ⟨hxx,⟨j,j1,j2⟩,z',l1,l2⟩:=h'
 have hy:WOk n y:=Z1W (S:=WOk n) (Z1o hok hG qO) hx0 i1
 have yn:wN Gl 3 y=none:=by rw [it,i1] at i2; exact i2
 have b1:it (wN Gl 3) x k=some y:=by
  clear hxx j1 j2
  induction k generalizing x with
  | zero=>have:y=x:=Option.some.inj hk; subst this; rfl
  | succ k ih =>
   obtain ⟨u,hu⟩:=Option.isSome_iff_exists.1 (Z1e hk (j:=k) qO)
   have wu:=Z1W (S:=WOk n) (Z1o hok hG qO) hy hu
   have n1:wN Gl 2 u=some x:=by rw [it,hu] at hk; exact hk
   have e1:it (wN Gl 3) x 1=some u:=n23 hok hG wu n1
   have:=Z4e e1 k
   rw [show k+1=1+k by omega,this]
   exact ih hu
 have b2:it (wN Gl 3) x (k+1)=none:=by rw [it,b1]; exact yn
 obtain ⟨-,rfl⟩:=Zh8 j1 j2 b1 b2
 obtain ⟨rfl,-⟩:=Zh8 k1 k2 l1 l2
 exact ⟨rfl,rfl⟩
theorem ZiL {x0:List Int} {K K':Nat} (q1:RgC Gl x0 2 K) (r1:RgC Gl x0 2 K'):K=K':=by
 rcases Nat.lt_trichotomy K K' with l | l | l
 · exact absurd q1.2.1 (r1.2.2 K q1.1 l)
 · exact l
 · exact absurd r1.2.1 (q1.2.2 K' r1.1 l)
end
theorem ZgA {Gl p:List Int} {n:Nat} {t:Int} (hG:Gl.length=n*20) (hp:p.length=4) (hn:n<=60) {a1 c1:Nat} {h1:FH} {u:Value} {cl:Bool} (A:RgA a1 h1 c1 u cl 0 t p n Gl) :
 Z0v Gl n=true/\WOk n (t::p) /\ ∃ K L,0<K/\SlI h1 c1 u 5 K L/\K<=100000/\(∃ s,WOk n s/\RL Gl (t::p) s K) ∧
  ∀ k,k<K->WOk n (mb L k) /\ ∀ (a2:Nat) (h2:FH) (c2:Nat) (v:Value) (cl':Bool) (e':Int),RgA a2 h2 c2 v cl' e' ((mb L k).getD 0 0) ((mb L k).drop 1) n Gl->e'=0/\cl'=cl/\(cl=true -> ∃ M,SlI h2 c2 v 5 K M /\ ∀ a,a<K->mb M a=mb L ((a+k) % K))/\(cl=false->SlI h2 c2 v 5 K L):=by
 rcases A with ⟨_,_,_,e⟩ | ⟨_,_,_,_,e⟩ | ⟨hok,⟨x2,x3,x4⟩,-,x5⟩
 · omega
 · omega
 · obtain ⟨w,rfl⟩:∃ w:Nat,t=w:=⟨t.toNat,by omega⟩
   have hx:WOk n ((w:Int)::p):=WOk.mk' qO (Z9b hp x4)
   refine ⟨hok,hx, ?_⟩
   have cond:∀ x:List Int,WOk n x->x.getD 0 0::x.drop 1=x/\(0<=x.getD 0 0/\x.getD 0 0<n/\Z0N (x.drop 1)=true):=fun x h=>⟨h.form.symm,h.t.1,h.t.2,Z84 h.p⟩
   rcases x5 with ⟨rfl,K,q1,q2⟩ | ⟨rfl,y,K,q1,q2⟩
   · have hl:=rg_len hok hG hx q1
     have rl:=ZbE hok hG hx q1
     refine ⟨K,_,q1.1,q2.sl,by omega,⟨_,hx,rl⟩,fun k hk=>?_⟩
     obtain ⟨x,hxk⟩:=Option.isSome_iff_exists.1 (rl.ex k hk)
     have wx:=Z1W (S:=WOk n) (Z1o hok hG qO) hx hxk
     rw [ZgZ hok hG hx rl.ex hk hxk]
     refine ⟨wx,fun a2 h2 c2 v cl' e' B=>?_⟩
     obtain ⟨form,cx⟩:=cond x wx
     have ct:=ZiM hok hG hx q1 hxk
     rcases B with ⟨y1,_,_,_⟩ | ⟨y1,y2,_,_,_⟩ | ⟨y1,y2,rfl,y5⟩
     · rw [hok] at y1; cases y1
     · exact absurd cx y2
     · rw [form] at y5
       rcases y5 with ⟨rfl,j,r1,r2⟩ | ⟨rfl,z,j,r1,r2⟩
       · obtain rfl:=ZiL hok hG ct r1
         refine ⟨rfl,rfl,fun _=>⟨_,r2.sl,fun a ha=>?_⟩,fun z=>by cases z⟩
         have rx:=ZbE hok hG wx r1
         obtain ⟨z,hz⟩:=Option.isSome_iff_exists.1 (rx.ex a ha)
         have hz':it (wN Gl 2) ((w:Int)::p) ((a+k) % K)=some z:=by
          rw [← it_mod q1.1 q1.2.1,Nat.add_comm,Z4e hxk]; exact hz
         rw [ZgZ hok hG wx rx.ex ha hz,ZgZ hok hG hx rl.ex (Nat.mod_lt _ qO) hz']
       · obtain ⟨⟨m,hm⟩,_⟩:=r1
         exact absurd hm (Zh9 ct.1 ct.2.1 m)
   · have hl:=ro_len hok hG hx q1
     have rl:=Zmp hok hG hx q1
     have hy:WOk n y:=by
      obtain ⟨_,⟨i,i1,_⟩,_⟩:=q1
      exact Z1W (S:=WOk n) (Z1o hok hG qO) hx i1
     refine ⟨K+1,_,by omega,q2.sl,by omega,⟨_,hy,rl⟩,fun k hk=>?_⟩
     obtain ⟨x,hxk⟩:=Option.isSome_iff_exists.1 (rl.ex k hk)
     have wx:=Z1W (S:=WOk n) (Z1o hok hG qO) hy hxk
     rw [ZgZ hok hG hy rl.ex hk hxk]
     refine ⟨wx,fun a2 h2 c2 v cl' e' B=>?_⟩
     obtain ⟨form,cx⟩:=cond x wx
     rcases B with ⟨y1,_,_,_⟩ | ⟨y1,y2,_,_,_⟩ | ⟨y1,y2,rfl,y5⟩
     · rw [hok] at y1; cases y1
     · exact absurd cx y2
     · rw [form] at y5
       rcases y5 with ⟨rfl,j,r1,r2⟩ | ⟨rfl,z,j,r1,r2⟩
       · obtain ⟨_,_,z,z1,z2⟩:=q1
         have e1:it (wN Gl 2) x (K+1-k)=none:=by
          have:=Z4e hxk (K+1-k)
          rw [show k+(K+1-k)=K+1 by omega,z2] at this
          exact this.symm
         exact absurd e1 (Zh9 r1.1 r1.2.1 _)
       · obtain ⟨rfl,rfl⟩:=ZiK hok hG hx q1 hxk r1
         exact ⟨rfl,rfl,fun z=>(by cases z),fun _=>r2.sl⟩
theorem Zc6 {Gl:List Int} {n:Nat} (hok:Z0v Gl n=true) (hG:Gl.length=n*20) {x0 s:List Int} (hx:WOk n x0) (hs:WOk n s) {N:Nat} (h:RL Gl x0 s N) :
 (skZ Gl n).2.getD (cl (eCs Gl n) (eY (fl x0))) false=true ∨ (skZ Gl n).1.getD (cl (eCs Gl n) (eY (fl x0))) 0=N:=by
 have hE:=Z6F hok hG
 obtain ⟨f0,f1⟩:=ZcB hx
 have e0:=ZhV f0 f1
 have hv:cl (eCs Gl n) (eY (fl x0))<nE Gl n:=cl_lt hE e0
 rcases Bool.eq_false_or_eq_true ((skZ Gl n).2.getD (cl (eCs Gl n) (eY (fl x0))) false) with q | q
 · exact .inl q
 · right
   have hr:=Zcd hok hG hx hs h fun z=>by
    rw [(ZgB hok hG hv e0 rfl).2 z] at q; cases q
   rw [Ziy,ZlD (eN Gl n) (dN Gl n) (nE Gl n) hv (6*n) fun e he=>Znz hE e he,← hr]
   refine Z1h fun e he=>?_
   rw [Zle he]
   by_cases z:cl (eCs Gl n) e=cl (eCs Gl n) (eY (fl x0))
   · rw [if_pos z,if_pos qO]
   · rw [if_neg z,if_neg qO]
theorem Zf2 {Gl:List Int} {n:Nat} (hok:Z0v Gl n=true) (hG:Gl.length=n*20) {s:Nat->Int} (hs:ZnY Gl n s) {v:Nat} (hv:v<nE Gl n):(skZ Gl n).2.getD v false=false:=by
 have hE:=Z6F hok hG
 obtain ⟨e,e1,e2,e3⟩:=ZnI hE hv
 cases q:(skZ Gl n).2.getD v false with
 | false=>rfl
 | true=>exact absurd ((ZgB hok hG hv e1 e3).1 q) (ZiT hok hG hs e1)

theorem Znw (b:Bool):Z00 P .eql 4 (.bool b) (.bool b)=some (.bool true):=by
 rw [Z0o]
 cases b <;> kernel_rfl
theorem eY_mk {t i j:Nat} (hi:i<4) (hj:j<4):eY (16*t+4*i+j)=6*t+(edN i j).toNat:=by
 unfold eY eNo
 rw [show (16*t+4*i+j) / 16=t by omega,show (16*t+4*i+j) / 4=4*t+i by omega,show (4*t+i) % 4=i by omega,show (16*t+4*i+j) % 4=j by omega]
set_option maxHeartbeats 4000000 in
theorem Z98 (s:Value) (n:Nat) (Gl:List Int) (t k:Int) (p:List Int) (hp:p.length=4) (h:FH) (c:Nat) (hs:SlI h c s 20 n Gl) :
 Ans (G (.fn 7) [.agg #[s],.int .i64 t,av p,.int .i64 k] h c []) fun x=>x.e = .ret/\x.vs=[.bool true]:=by
 suffices hs:Ans (f7_S G (.agg #[s]) (.int .i64 t) (av p) (.int .i64 k) h c) fun x=>x.e = .ret/\x.vs=[.bool true] by
  obtain ⟨x,q1,q2⟩:=hs
  exact ⟨_,f7_go q1,by show (gcR h c [] x).e=_/\(gcR h c [] x).vs=_; rw [ZmT,Zhf]; exact q2⟩
 unfold f7_S
 have flat2:((av p).cells.toList.all Z07)=true:=by simp
 rw [Z6b hs.flat,flat2,Z6d,Z1y]
 simp only [cond_true,Nat.add_zero]
 obtain ⟨g0,hg0⟩:∃ b,256*c=b:=⟨_,rfl⟩
 obtain ⟨p0,hp0⟩:∃ b,256*c+1=b:=⟨_,rfl⟩
 rw [hp0,hg0]
 obtain ⟨M,hM⟩:∃ M,newB (newB h g0 [s]) p0 (ints p)=M:=⟨_,rfl⟩
 have Mf:∀ j,M.f j=if j=p0 then some (.cells false none (ints p)) else if j=g0 then some (.cells false none [s]) else h.f j:=fun j=>by rw [← hM,Z01,Z01]
 rw [hM]
 have sM:Z0s c h M:=fun j hj=>by rw [Mf,if_neg qO,if_neg qO]
 have Mg:M.f g0=some (.cells false none [s]):=by rw [Mf,if_neg qO,if_pos rfl]
 have Mp:M.f p0=some (.cells false none (ints p)):=by rw [Mf,if_pos rfl]
 have l0:=Z1I Mg
 have n0:ldN M 1 (.pointer (some ⟨g0,0,none⟩))=some (.agg #[s]):=Z1m (cs:=[]) ⟨false,none,Mg⟩
 have n4:ldN M 4 (.pointer (some ⟨p0,0,none⟩))=some (av p):=Z1r Mp (by rw [ints_length,hp])
 have len:=hs.len
 by_cases hn:n<=30
 case neg =>
  have k0:=Z2x M (c+1+1+1)
  have fx:=ai l0 (ai len k0)
  refine Ans.go ?_
  clear fx
  exact .done ⟨rfl,rfl⟩
 have hsM:SlI M c s 20 n Gl:=hs.same sM
 have fr:∀ H:FH,Z0s (c+1+1+1) M H->ldN H 1 (.pointer (some ⟨g0,0,none⟩))=some (.agg #[s])/\ld1 H (.pointer (some ⟨g0,0,none⟩))=some s/\Z0f H p0 (ints p)/\SlI H c s 20 n Gl:=fun H hH=>by
  have e:H.f g0=some (.cells false none [s]):=by rw [hH g0 qO,Mg]
  exact ⟨Z1m (cs:=[]) ⟨false,none,e⟩,Z1I e,⟨false,none,by show H.f p0=_; rw [hH p0 qO,Mp]⟩,hsM.same (hH.mono qO)⟩
 have xv0:∀ a b:Value,Z46 (.tuple #[a,b]) 0=some a:=fun _ _=>rfl
 have xv1:∀ a b:Value,Z46 (.tuple #[a,b]) 1=some b:=fun _ _=>rfl
 have xw0:∀ a b d:Value,Z46 (.tuple #[a,b,d]) 0=some a:=fun _ _ _=>rfl
 have xw1:∀ a b d:Value,Z46 (.tuple #[a,b,d]) 1=some b:=fun _ _ _=>rfl
 have xw2:∀ a b d:Value,Z46 (.tuple #[a,b,d]) 2=some d:=fun _ _ _=>rfl
 have tk:∀ h:FH,Z09 h []=some h:=fun _=>rfl
 obtain ⟨r1,hr1,ov1,cl1,e1,q1,k1,s1,A1⟩:=Zig s n Gl t p hp M (c+1+1+1) [] (hsM.mono qO) qO
 obtain ⟨K1,hK1⟩:∃ K,r1.h=K:=⟨_,rfl⟩
 obtain ⟨c1,hc1⟩:∃ c,r1.c=c:=⟨_,rfl⟩
 rw [hK1,hc1] at q1 A1
 rw [hc1] at k1
 rw [hK1] at s1
 rw [q1] at hr1
 have f1:=Z0c hr1
 obtain ⟨a1,a2,a3,a4⟩:=fr K1 s1
 obtain ⟨kb,hkb⟩:∃ b,256*c1+5=b:=⟨_,rfl⟩
 rw [show [Value.slice none 0 0,Value.slice none 0 0,Value.slice none 0 0,Value.slice none 0 0,Value.slice none 0 0,Value.slice none 0 0]=Z7D from rfl]
 by_cases hok:Z0v Gl n=true
 case neg =>
  obtain ⟨r2,hr2,q2,k2,s2⟩:=of_bad s n Gl K1 (c1+1) [] (a4.mono qO) (fun q=>hok q.2)
  obtain ⟨K2,hK2⟩:∃ K,r2.h=K:=⟨_,rfl⟩
  obtain ⟨c2,hc2⟩:∃ c,r2.c=c:=⟨_,rfl⟩
  rw [hK2,hc2] at q2
  rw [q2] at hr2
  have f2:=Z0c hr2
  have w1:stN (newB K2 kb Z7D) 6 (.pointer (some ⟨kb,0,none⟩)) (.agg Z7D.toArray)=some (newB K2 kb Z7D):=st6 rfl rfl
  have e7:e1=7:=by
   rcases A1 with ⟨_,_,_,e⟩ | ⟨e,_⟩ | ⟨e,_⟩
   · exact e
   · exact absurd e hok
   · exact absurd e hok
  subst e7
  obtain ⟨N6,hN6⟩:∃ N,Z7D=N:=⟨_,rfl⟩
  rw [hN6] at f2 w1 ⊢
  obtain ⟨K3,hK3⟩:∃ H,newB K2 kb N6=H:=⟨_,rfl⟩
  rw [hK3] at w1
  have k0:=Z2x K3
  have fx:=ai l0 (ai n0 (ai n4 (ai len (ai f1 (ai xv0 (ai xv1 (ai xw0 (ai xw1 (ai xw2 (ai a1 (ai f2 (ai hkb (ai hK3 (ai w1 k0))))))))))))))
  refine Ans.go ?_
  clear fx
  exact .done ⟨rfl,rfl⟩
 obtain ⟨r2,hr2,vv,ev,tv,gb,rb,lv,q2,k2,s2,sk⟩:=of_ok s n Gl K1 (c1+1) [] (a4.mono qO) hok qO
 obtain ⟨K2,hK2⟩:∃ K,r2.h=K:=⟨_,rfl⟩
 obtain ⟨c2,hc2⟩:∃ c,r2.c=c:=⟨_,rfl⟩
 rw [hK2,hc2] at q2 sk
 rw [hc2] at k2
 rw [hK2] at s2
 rw [q2] at hr2
 have f2:=Z0c hr2
 obtain ⟨R,hR⟩:∃ R,[vv,ev,tv,.slice (some ⟨gb,0,none⟩) (nE Gl n) (nE Gl n),.slice (some ⟨rb,0,none⟩) (nE Gl n) (nE Gl n),lv]=R:=⟨_,rfl⟩
 have hR':Value.agg #[vv,ev,tv,.slice (some ⟨gb,0,none⟩) (nE Gl n) (nE Gl n),.slice (some ⟨rb,0,none⟩) (nE Gl n) (nE Gl n),lv] = .agg R.toArray:=by rw [← hR]
 have R6:R.length=6:=by rw [← hR]; rfl
 have Rf:R.all Z07=true:=by
  rw [← hR]
  simp only [List.all_cons,List.all_nil,sk.gv.flat.1,sk.ge.flat.1,sk.gt.flat.1,sk.gl.flat.1,Bool.and_true,Bool.true_and]
  rfl
 rw [hR'] at f2
 have w1:stN (newB K2 kb Z7D) 6 (.pointer (some ⟨kb,0,none⟩)) (.agg R.toArray)=some (newB K2 kb R):=st6 R6 Rf
 obtain ⟨N6,hN6⟩:∃ N,Z7D=N:=⟨_,rfl⟩
 rw [hN6] at w1 ⊢
 obtain ⟨H,hH⟩:∃ H,newB K2 kb R=H:=⟨_,rfl⟩
 rw [hH] at w1
 have Hf:∀ j,j ≠ kb->H.f j=K2.f j:=fun j hj=>by rw [← hH,Z01,if_neg hj]
 have Hp:H.f kb=some (.cells false none R):=by rw [← hH,Z01,if_pos rfl]
 have sH1:Z0s c1 K1 H:=fun j hj=>by rw [Hf j qO,s2 j qO]
 have sH:Z0s (c+1+1+1) M H:=s1.trans (sH1.mono qO)
 have k0:=Z2x H
 by_cases he1:e1=0
 case neg =>
  have e11:e1=1:=by
   rcases A1 with ⟨e,_⟩ | ⟨_,_,_,_,e⟩ | ⟨_,_,e,_⟩
   · rw [hok] at e; cases e
   · exact e
   · exact absurd e he1
  subst e11
  have fx:=ai l0 (ai n0 (ai n4 (ai len (ai f1 (ai xv0 (ai xv1 (ai xw0 (ai xw1 (ai xw2 (ai a1 (ai f2 (ai hkb (ai w1 k0)))))))))))))
  refine Ans.go ?_
  clear fx
  exact .done ⟨rfl,rfl⟩
 subst he1
 obtain ⟨-,hx,K,L,kpos,slL,kle,⟨s0,hs0,rl⟩,turn⟩:=ZgA hs.1 hp qO A1
 obtain ⟨b1,b2,b3,b4⟩:=fr H sH
 obtain ⟨w,i,j,ii,jj,ex0,g1,g2,g3,g4,g5,g6,g7⟩:=WOk.nat hx
 obtain ⟨rfl,ep⟩:=List.cons.inj ex0
 have p_0:p.getD 0 0=(i:Int):=by rw [ep]; rfl
 have p_1:p.getD 1 0=(j:Int):=by rw [ep]; rfl
 have u0:ld1 H (.pointer (some ⟨p0,0,none⟩))=some (.int .i64 i):=by rw [Z02 b3,ints_getD _ _ qO,p_0]
 have u1:ld1 H (.pointer (some ⟨p0,1,none⟩))=some (.int .i64 j):=by rw [Z02 b3,ints_getD _ _ qO,p_1]
 have cE:=fun c=>Z0c (Zld i j g2 g3 g6 H c [])
 have er:=Z6E (i:=(i:Int)) (j:=j) qO qO qO qO qO
 have fe:eY (fl ((w:Int)::p))=6*w+(edN i j).toNat:=by
  rw [show fl ((w:Int)::p)=16*w+4*i+j by rw [ep]; rfl,eY_mk g2 g3]
 have le:=sk.ge.len
 have ll:=sk.gl.len
 have lL:=(slL.same sH1).len
 have kp:∀ {v:Value} {sz k':Nat} {L:List Value},GrC (c1+1) K2 c2 v sz k' L->GrC (c1+1) H c2 v sz k' L:=fun {v sz k' L} g=>g.keep fun hv=>Hf _ (by have:=g.blk hv; omega)
 have ge:=(kp sk.ge).sl
 have gl:=kp sk.gl
 have hRi:∀ i,ld1 H (.pointer (some ⟨kb,i,none⟩))=R[i]?:=fun i=>Z02 (cs:=R) ⟨false,none,Hp⟩
 have m1:ld1 H (.pointer (some ⟨kb,1,none⟩))=some ev:=by rw [hRi,← hR]; rfl
 have m3:ld1 H (.pointer (some ⟨kb,3,none⟩))=some (.slice (some ⟨gb,0,none⟩) (nE Gl n) (nE Gl n)):=by rw [hRi,← hR]; rfl
 have m4:ld1 H (.pointer (some ⟨kb,4,none⟩))=some (.slice (some ⟨rb,0,none⟩) (nE Gl n) (nE Gl n)):=by rw [hRi,← hR]; rfl
 have bb1:=sk.b1
 have bb2:=sk.b2
 have ix6:=ge.ixs .i64 w qO qO
 rw [Int.toNat_natCast] at ix6
 have e0:6*w+(edN i j).toNat<6*n:=by omega
 have ldE:ld1 H (.pointer (some ⟨Z0q ev,Z2I ev+w*6+(edN i j).toNat,none⟩))=some (.int .i64 (cl (eCs Gl n) (6*w+(edN i j).toNat):Nat)):=by
  rw [ge.rd2 (w*6) (edN i j).toNat qO,show w*6+(edN i j).toNat=6*w+(edN i j).toNat by omega,Zle e0]
 have hv:cl (eCs Gl n) (6*w+(edN i j).toNat)<nE Gl n:=cl_lt (Z6F hok hs.1) e0
 have deg:=Zc6 hok hs.1 hx hs0 rl
 rw [fe] at deg
 have hrl:(skZ Gl n).2.length=nE Gl n:=by rw [Ziy,(ZbA _ _ _ _).2,List.length_replicate]
 have hgl:(skZ Gl n).1.length=nE Gl n:=by rw [Ziy,(ZbA _ _ _ _).1,List.length_replicate]
 have hV:nV Gl n<=4*n:=Z8I _ _
 have hE:nE Gl n<=6*n:=Z8I _ _
 obtain ⟨v,hvv⟩:∃ v,cl (eCs Gl n) (6*w+(edN i j).toNat)=v:=⟨_,rfl⟩
 rw [hvv] at ldE hv deg
 have fR:H.f rb=some (.cells false none (bools (skZ Gl n).2)):=by rw [Hf _ qO]; exact sk.fr
 have fG:H.f gb=some (.cells false none (ints (skZ Gl n).1)):=by rw [Hf _ qO]; exact sk.fg
 have ixR:ixS 1 (.slice (some ⟨rb,0,none⟩) (nE Gl n) (nE Gl n)) (.int .i64 (v:Int))=some (.pointer (some ⟨rb,v,none⟩)):=by
  have:=Z5o rb (nE Gl n) .i64 (v:Int) qO qO
  rwa [Int.toNat_natCast] at this
 have ixG:ixS 1 (.slice (some ⟨gb,0,none⟩) (nE Gl n) (nE Gl n)) (.int .i64 (v:Int))=some (.pointer (some ⟨gb,v,none⟩)):=by
  have:=Z5o gb (nE Gl n) .i64 (v:Int) qO qO
  rwa [Int.toNat_natCast] at this
 have ldR:ld1 H (.pointer (some ⟨rb,v,none⟩))=some (.bool ((skZ Gl n).2.getD v false)):=by
  rw [Z02 (cs:=bools (skZ Gl n).2) ⟨false,none,fR⟩,Z92 _ _ qO]
 have ldG:ld1 H (.pointer (some ⟨gb,v,none⟩))=some (.int .i64 ((skZ Gl n).1.getD v 0)):=by
  rw [Z02 (cs:=ints (skZ Gl n).1) ⟨false,none,fG⟩,ints_getD _ _ qO]
 obtain ⟨r3,hr3,ov3,bo,e3,q3,k3,s3,A3⟩:=ZgJ s n Gl H (c2+1+1+1+1) [] (b4.mono qO) qO
 obtain ⟨K3,hK3⟩:∃ K,r3.h=K:=⟨_,rfl⟩
 obtain ⟨c3,hc3⟩:∃ c,r3.c=c:=⟨_,rfl⟩
 rw [hK3,hc3] at q3
 rw [hc3] at k3
 rw [hK3] at s3
 rw [q3] at hr3
 have f3:=Z0c hr3
 have sK3:Z0s (c+1+1+1) M K3:=sH.trans (s3.mono qO)
 obtain ⟨d1,d2,d3,d4⟩:=fr K3 sK3
 have sl3:SlI K3 c1 ov1 5 K L:=(slL.same sH1).same (s3.mono qO)
 have K3b:K3.f kb=some (.cells false none R):=by rw [s3 kb qO,Hp]
 have hRi3:∀ i,ld1 K3 (.pointer (some ⟨kb,i,none⟩))=R[i]?:=fun i=>Z02 (cs:=R) ⟨false,none,K3b⟩
 have o4:ld1 K3 (.pointer (some ⟨kb,4,none⟩))=some (.slice (some ⟨rb,0,none⟩) (nE Gl n) (nE Gl n)):=by rw [hRi3,← hR]; rfl
 have o5:ld1 K3 (.pointer (some ⟨kb,5,none⟩))=some lv:=by rw [hRi3,← hR]; rfl
 have gl3:GrC (c1+1) K3 (c3+1+1+1) lv 6 (nV Gl n) (lkL n Gl (vN Gl n) (dN Gl n) (nV Gl n)):=(gl.keep fun hv=>s3 _ (by have:=gl.blk hv; omega)).mono qO
 have fR3:K3.f rb=some (.cells false none (bools (skZ Gl n).2)):=by rw [s3 rb qO,fR]
 have oL:OkV c1 ov1:=sl3.okV
 have lo:bo=true->(G (ZaU none) [.int .i64 k,ptrTo g0,.bool false,ov1,.bool cl1,ptrTo kb,.slice (some ⟨rb,0,none⟩) (nE Gl n) (nE Gl n),.int .i64 (nE Gl n),.int .i64 (0:Int)] K3 (c3+1+1) []=some ⟨.exit 0,[.int .i64 k,ptrTo g0,.bool false,ov1,.bool cl1,ptrTo kb,.slice (some ⟨rb,0,none⟩) (nE Gl n) (nE Gl n),.int .i64 (nE Gl n),.int .i64 (nE Gl n)],K3,c3+1+1,[]⟩) ∧
  (G (ZaT none) [.int .i64 k,ptrTo g0,.bool false,ov1,.bool cl1,lv,.int .i64 (nV Gl n),.int .i64 (0:Int)] K3 (c3+1+1+1) []=some ⟨.exit 2,[.int .i64 k,ptrTo g0,.bool false,ov1,.bool cl1,lv,.int .i64 (nV Gl n),.int .i64 (nV Gl n)],K3,c3+1+1+1,[]⟩):=fun hb=>by
  obtain ⟨-,sg,hsg⟩:=A3.1 hb
  exact ⟨Ans.eq (st_rev g0 kb rb (c3+1+1) (nE Gl n) (skZ Gl n).2 K3 [] (.int .i64 k) ov1 (.bool cl1) false fR3 hrl qO qO qO qO (.int _ _ _) (oL.mono qO) (.bool _ _) (fun v hv=>Zf2 hok hs.1 hsg hv) (nE Gl n) 0 qO),
   Ans.eq (Ziw g0 (c1+1) (c3+1+1+1) (nV Gl n) n lv Gl K3 [] (.int .i64 k) ov1 (.bool cl1) false gl3 qO qO (.int _ _ _) (oL.mono qO) (.bool _ _) (fun q hq=>Zmw hok hs.1 qO hsg q) (nV Gl n) 0 qO)⟩
 have lL3:=sl3.len
 have k9:=Z2x K3
 have nb:=Znw cl1
 have A3':bo=true ∨ bo=false:=by cases bo <;> simp
 clear A3
 have dg:(skZ Gl n).2.getD v false=true ∨ ((skZ Gl n).2.getD v false=false/\(skZ Gl n).1.getD v 0=K):=by
  rcases deg with q | q
  · exact .inl q
  · cases z:(skZ Gl n).2.getD v false
    · exact .inr ⟨rfl,q⟩
    · exact .inl rfl
 have tail:∀ c5,c3+1<=c5->0<=k->k<K -> ∃ x y:List Int,∃ K' c' v',(y.length=4)/\ixS 5 ov1 (.int .i64 k)=some (.pointer (some ⟨Z0q ov1,Z2I ov1+k.toNat*5,none⟩))/\ld1 K3 (.pointer (some ⟨Z0q ov1,Z2I ov1+k.toNat*5,none⟩))=some (.int .i64 (x.getD 0 0)) ∧
  ldN K3 4 (.pointer (some ⟨Z0q ov1,Z2I ov1+k.toNat*5+1,none⟩))=some (av y)/\callF G 29 [.agg #[s],.int .i64 (x.getD 0 0),av y] K3 c5=some (.tuple #[v',.bool cl1,.int .i64 0],K',c') ∧
  (cl1=true -> ∀ c6,c'<=c6->callF G 31 [v',ov1] K' c6=some (.bool true,K',c6))/\(cl1=false -> ∀ c6,c'<=c6->callF G 32 [v',ov1] K' c6=some (.bool true,K',c6)):=fun c5 hc5 hk0 hk1=>by
  obtain ⟨m,rfl⟩:∃ m:Nat,k=m:=⟨k.toNat,by omega⟩
  obtain ⟨wm,tm⟩:=turn m qO
  have hml:=wm.l
  have hL:=slL.1
  have hy:((mb L m).drop 1).length=4:=by rw [List.length_drop]; omega
  obtain ⟨r4,hr4,ov4,cl4,e4,q4,k4,s4,A4⟩:=Zig s n Gl ((mb L m).getD 0 0) ((mb L m).drop 1) hy K3 c5 [] (d4.mono qO) qO
  obtain ⟨rfl,rfl,t1,t2⟩:=tm _ _ _ _ _ _ A4
  obtain ⟨K4,hK4⟩:∃ K,r4.h=K:=⟨_,rfl⟩
  obtain ⟨c4,hc4⟩:∃ c,r4.c=c:=⟨_,rfl⟩
  rw [hK4,hc4] at q4 t1 t2
  rw [hc4] at k4
  rw [hK4] at s4
  rw [q4] at hr4
  have sl4:SlI K4 c1 ov1 5 K L:=sl3.same (s4.mono qO)
  rw [Int.toNat_natCast]
  refine ⟨mb L m,(mb L m).drop 1,K4,c4,ov4,hy, ?_, ?_, ?_,Z0c hr4,fun z c6 hc6=>?_,fun z c6 hc6=>?_⟩
  · have:=sl3.ixs .i64 m qO qO
    rwa [Int.toNat_natCast] at this
  · rw [sl3.rd (m*5) qO]
    unfold mb
    rw [Z3T _ _ _ qO,Z2y,Nat.add_zero]
  · rw [Nat.add_assoc,sl3.rdN 4 _ qO qO]
    unfold mb
    rw [List.drop_take,List.drop_drop,show 5-1=4 from rfl]
  · obtain ⟨N,slN,hN⟩:=t1 z
    exact Zf8 ov4 ov1 K m N L K4 c6 (slN.mono hc6) (sl4.mono qO) kle qO hN
  · exact Zgt ov4 ov1 K L K4 c6 ((t2 z).mono hc6) (sl4.mono qO) kle
 obtain ⟨E,hE'⟩:∃ E,nE Gl n=E:=⟨_,rfl⟩
 obtain ⟨V,hV'⟩:∃ V,nV Gl n=V:=⟨_,rfl⟩
 obtain ⟨rv,hrv⟩:∃ b,(skZ Gl n).2.getD v false=b:=⟨_,rfl⟩
 obtain ⟨dv,hdv⟩:∃ b,(skZ Gl n).1.getD v 0=b:=⟨_,rfl⟩
 obtain ⟨ed,hed⟩:∃ b,edN (i:Int) j=b:=⟨_,rfl⟩
 rw [hE'] at hv hE m3 m4 ixR ixG o4 lo
 rw [hV'] at hV ll lo
 rw [hrv] at ldR dg
 rw [hdv] at ldG dg
 rw [hed] at cE er ldE
 clear turn deg rl A1 slL ge gl sk gl3
 have j4:(j:Int)<4:=by omega
 have i4:(i:Int)<4:=by omega
 have wn:(w:Int)<n:=by omega
 have vE:(v:Int)<E:=by omega
 have n30:(n:Int)<=30:=by omega
 have kl:(K:Int)<=100000:=by omega
 have k0':(0:Int)<K:=by omega
 clear hE' hV' hrv hdv hed
 by_cases hk0:k<0
 case pos =>
  rcases dg with rfl | ⟨rfl,rfl⟩ <;> rcases A3' with rfl | rfl
  · obtain ⟨y1,y2⟩:=lo rfl
    have fx:=ai l0 (ai n0 (ai n4 (ai len (ai f1 (ai xv0 (ai xv1 (ai xw0 (ai xw1 (ai xw2 (ai a1 (ai f2 (ai hkb (ai w1 (ai b1 (ai b2 (ai b3 (ai u0 (ai u1 (ai cE (ai le (ai lL (ai m1 (ai m3 (ai m4 (ai ix6 (ai ldE (ai ixR (ai ixG (ai ldR (ai ldG (ai f3 (ai d1 (ai sameB_self (ai tk (ai o4 (ai o5 (ai ll (ai y1 (ai y2 (ai lL3 k9))))))))))))))))))))))))))))))))))))))))
    refine Ans.go ?_
    clear fx
    exact .done ⟨rfl,rfl⟩
  · have fx:=ai l0 (ai n0 (ai n4 (ai len (ai f1 (ai xv0 (ai xv1 (ai xw0 (ai xw1 (ai xw2 (ai a1 (ai f2 (ai hkb (ai w1 (ai b1 (ai b2 (ai b3 (ai u0 (ai u1 (ai cE (ai le (ai lL (ai m1 (ai m3 (ai m4 (ai ix6 (ai ldE (ai ixR (ai ixG (ai ldR (ai ldG (ai f3 (ai d1 (ai sameB_self (ai tk (ai lL3 k9)))))))))))))))))))))))))))))))))))
    refine Ans.go ?_
    clear fx
    exact .done ⟨rfl,rfl⟩
  · obtain ⟨y1,y2⟩:=lo rfl
    have fx:=ai l0 (ai n0 (ai n4 (ai len (ai f1 (ai xv0 (ai xv1 (ai xw0 (ai xw1 (ai xw2 (ai a1 (ai f2 (ai hkb (ai w1 (ai b1 (ai b2 (ai b3 (ai u0 (ai u1 (ai cE (ai le (ai lL (ai m1 (ai m3 (ai m4 (ai ix6 (ai ldE (ai ixR (ai ixG (ai ldR (ai ldG (ai f3 (ai d1 (ai sameB_self (ai tk (ai o4 (ai o5 (ai ll (ai y1 (ai y2 (ai lL3 k9))))))))))))))))))))))))))))))))))))))))
    refine Ans.go ?_
    clear fx
    exact .done ⟨rfl,rfl⟩
  · have fx:=ai l0 (ai n0 (ai n4 (ai len (ai f1 (ai xv0 (ai xv1 (ai xw0 (ai xw1 (ai xw2 (ai a1 (ai f2 (ai hkb (ai w1 (ai b1 (ai b2 (ai b3 (ai u0 (ai u1 (ai cE (ai le (ai lL (ai m1 (ai m3 (ai m4 (ai ix6 (ai ldE (ai ixR (ai ixG (ai ldR (ai ldG (ai f3 (ai d1 (ai sameB_self (ai tk (ai lL3 k9)))))))))))))))))))))))))))))))))))
    refine Ans.go ?_
    clear fx
    exact .done ⟨rfl,rfl⟩
 by_cases hk1:k<K
 case neg =>
  rcases dg with rfl | ⟨rfl,rfl⟩ <;> rcases A3' with rfl | rfl
  · obtain ⟨y1,y2⟩:=lo rfl
    have fx:=ai l0 (ai n0 (ai n4 (ai len (ai f1 (ai xv0 (ai xv1 (ai xw0 (ai xw1 (ai xw2 (ai a1 (ai f2 (ai hkb (ai w1 (ai b1 (ai b2 (ai b3 (ai u0 (ai u1 (ai cE (ai le (ai lL (ai m1 (ai m3 (ai m4 (ai ix6 (ai ldE (ai ixR (ai ixG (ai ldR (ai ldG (ai f3 (ai d1 (ai sameB_self (ai tk (ai o4 (ai o5 (ai ll (ai y1 (ai y2 (ai lL3 k9))))))))))))))))))))))))))))))))))))))))
    refine Ans.go ?_
    clear fx
    exact .done ⟨rfl,rfl⟩
  · have fx:=ai l0 (ai n0 (ai n4 (ai len (ai f1 (ai xv0 (ai xv1 (ai xw0 (ai xw1 (ai xw2 (ai a1 (ai f2 (ai hkb (ai w1 (ai b1 (ai b2 (ai b3 (ai u0 (ai u1 (ai cE (ai le (ai lL (ai m1 (ai m3 (ai m4 (ai ix6 (ai ldE (ai ixR (ai ixG (ai ldR (ai ldG (ai f3 (ai d1 (ai sameB_self (ai tk (ai lL3 k9)))))))))))))))))))))))))))))))))))
    refine Ans.go ?_
    clear fx
    exact .done ⟨rfl,rfl⟩
  · obtain ⟨y1,y2⟩:=lo rfl
    have fx:=ai l0 (ai n0 (ai n4 (ai len (ai f1 (ai xv0 (ai xv1 (ai xw0 (ai xw1 (ai xw2 (ai a1 (ai f2 (ai hkb (ai w1 (ai b1 (ai b2 (ai b3 (ai u0 (ai u1 (ai cE (ai le (ai lL (ai m1 (ai m3 (ai m4 (ai ix6 (ai ldE (ai ixR (ai ixG (ai ldR (ai ldG (ai f3 (ai d1 (ai sameB_self (ai tk (ai o4 (ai o5 (ai ll (ai y1 (ai y2 (ai lL3 k9))))))))))))))))))))))))))))))))))))))))
    refine Ans.go ?_
    clear fx
    exact .done ⟨rfl,rfl⟩
  · have fx:=ai l0 (ai n0 (ai n4 (ai len (ai f1 (ai xv0 (ai xv1 (ai xw0 (ai xw1 (ai xw2 (ai a1 (ai f2 (ai hkb (ai w1 (ai b1 (ai b2 (ai b3 (ai u0 (ai u1 (ai cE (ai le (ai lL (ai m1 (ai m3 (ai m4 (ai ix6 (ai ldE (ai ixR (ai ixG (ai ldR (ai ldG (ai f3 (ai d1 (ai sameB_self (ai tk (ai lL3 k9)))))))))))))))))))))))))))))))))))
    refine Ans.go ?_
    clear fx
    exact .done ⟨rfl,rfl⟩
 rcases dg with rfl | ⟨rfl,rfl⟩ <;> rcases A3' with rfl | rfl
 · obtain ⟨y1,y2⟩:=lo rfl
   obtain ⟨x,y,K4,c4,v4,y4,z1,z2,z3,z4,z5,z6⟩:=tail (c3+1+1+1+1+1) qO qO hk1
   obtain ⟨k',hk'⟩:∃ m,k.toNat=m:=⟨_,rfl⟩
   rw [hk'] at z1 z2 z3
   obtain ⟨xt,hxt⟩:∃ m,x.getD 0 0=m:=⟨_,rfl⟩
   rw [hxt] at z2 z4
   have z9:=Z2x K4
   cases cl1 with
   | true =>
    have z7:=z5 rfl (c4+1) qO
    have fx:=ai l0 (ai n0 (ai n4 (ai len (ai f1 (ai xv0 (ai xv1 (ai xw0 (ai xw1 (ai xw2 (ai a1 (ai f2 (ai hkb (ai w1 (ai b1 (ai b2 (ai b3 (ai u0 (ai u1 (ai cE (ai le (ai lL (ai m1 (ai m3 (ai m4 (ai ix6 (ai ldE (ai ixR (ai ixG (ai ldR (ai ldG (ai f3 (ai d1 (ai sameB_self (ai tk (ai o4 (ai o5 (ai ll (ai y1 (ai y2 (ai lL3 (ai z1 (ai z2 (ai z3 (ai z4 (ai z7 (ai z9 nb))))))))))))))))))))))))))))))))))))))))))))))
    refine Ans.go ?_
    clear fx
    exact .done ⟨rfl,rfl⟩
   | false =>
    have z7:=z6 rfl (c4+1) qO
    have fx:=ai l0 (ai n0 (ai n4 (ai len (ai f1 (ai xv0 (ai xv1 (ai xw0 (ai xw1 (ai xw2 (ai a1 (ai f2 (ai hkb (ai w1 (ai b1 (ai b2 (ai b3 (ai u0 (ai u1 (ai cE (ai le (ai lL (ai m1 (ai m3 (ai m4 (ai ix6 (ai ldE (ai ixR (ai ixG (ai ldR (ai ldG (ai f3 (ai d1 (ai sameB_self (ai tk (ai o4 (ai o5 (ai ll (ai y1 (ai y2 (ai lL3 (ai z1 (ai z2 (ai z3 (ai z4 (ai z7 (ai z9 nb))))))))))))))))))))))))))))))))))))))))))))))
    refine Ans.go ?_
    clear fx
    exact .done ⟨rfl,rfl⟩
 · obtain ⟨x,y,K4,c4,v4,y4,z1,z2,z3,z4,z5,z6⟩:=tail (c3+1+1+1) qO qO hk1
   obtain ⟨k',hk'⟩:∃ m,k.toNat=m:=⟨_,rfl⟩
   rw [hk'] at z1 z2 z3
   obtain ⟨xt,hxt⟩:∃ m,x.getD 0 0=m:=⟨_,rfl⟩
   rw [hxt] at z2 z4
   have z9:=Z2x K4
   cases cl1 with
   | true =>
    have z7:=z5 rfl (c4+1) qO
    have fx:=ai l0 (ai n0 (ai n4 (ai len (ai f1 (ai xv0 (ai xv1 (ai xw0 (ai xw1 (ai xw2 (ai a1 (ai f2 (ai hkb (ai w1 (ai b1 (ai b2 (ai b3 (ai u0 (ai u1 (ai cE (ai le (ai lL (ai m1 (ai m3 (ai m4 (ai ix6 (ai ldE (ai ixR (ai ixG (ai ldR (ai ldG (ai f3 (ai d1 (ai sameB_self (ai tk (ai lL3 (ai z1 (ai z2 (ai z3 (ai z4 (ai z7 (ai z9 nb)))))))))))))))))))))))))))))))))))))))))
    refine Ans.go ?_
    clear fx
    exact .done ⟨rfl,rfl⟩
   | false =>
    have z7:=z6 rfl (c4+1) qO
    have fx:=ai l0 (ai n0 (ai n4 (ai len (ai f1 (ai xv0 (ai xv1 (ai xw0 (ai xw1 (ai xw2 (ai a1 (ai f2 (ai hkb (ai w1 (ai b1 (ai b2 (ai b3 (ai u0 (ai u1 (ai cE (ai le (ai lL (ai m1 (ai m3 (ai m4 (ai ix6 (ai ldE (ai ixR (ai ixG (ai ldR (ai ldG (ai f3 (ai d1 (ai sameB_self (ai tk (ai lL3 (ai z1 (ai z2 (ai z3 (ai z4 (ai z7 (ai z9 nb)))))))))))))))))))))))))))))))))))))))))
    refine Ans.go ?_
    clear fx
    exact .done ⟨rfl,rfl⟩
 · obtain ⟨y1,y2⟩:=lo rfl
   obtain ⟨x,y,K4,c4,v4,y4,z1,z2,z3,z4,z5,z6⟩:=tail (c3+1+1+1+1+1) qO qO hk1
   obtain ⟨k',hk'⟩:∃ m,k.toNat=m:=⟨_,rfl⟩
   rw [hk'] at z1 z2 z3
   obtain ⟨xt,hxt⟩:∃ m,x.getD 0 0=m:=⟨_,rfl⟩
   rw [hxt] at z2 z4
   have z9:=Z2x K4
   cases cl1 with
   | true =>
    have z7:=z5 rfl (c4+1) qO
    have fx:=ai l0 (ai n0 (ai n4 (ai len (ai f1 (ai xv0 (ai xv1 (ai xw0 (ai xw1 (ai xw2 (ai a1 (ai f2 (ai hkb (ai w1 (ai b1 (ai b2 (ai b3 (ai u0 (ai u1 (ai cE (ai le (ai lL (ai m1 (ai m3 (ai m4 (ai ix6 (ai ldE (ai ixR (ai ixG (ai ldR (ai ldG (ai f3 (ai d1 (ai sameB_self (ai tk (ai o4 (ai o5 (ai ll (ai y1 (ai y2 (ai lL3 (ai z1 (ai z2 (ai z3 (ai z4 (ai z7 (ai z9 nb))))))))))))))))))))))))))))))))))))))))))))))
    refine Ans.go ?_
    clear fx
    exact .done ⟨rfl,rfl⟩
   | false =>
    have z7:=z6 rfl (c4+1) qO
    have fx:=ai l0 (ai n0 (ai n4 (ai len (ai f1 (ai xv0 (ai xv1 (ai xw0 (ai xw1 (ai xw2 (ai a1 (ai f2 (ai hkb (ai w1 (ai b1 (ai b2 (ai b3 (ai u0 (ai u1 (ai cE (ai le (ai lL (ai m1 (ai m3 (ai m4 (ai ix6 (ai ldE (ai ixR (ai ixG (ai ldR (ai ldG (ai f3 (ai d1 (ai sameB_self (ai tk (ai o4 (ai o5 (ai ll (ai y1 (ai y2 (ai lL3 (ai z1 (ai z2 (ai z3 (ai z4 (ai z7 (ai z9 nb))))))))))))))))))))))))))))))))))))))))))))))
    refine Ans.go ?_
    clear fx
    exact .done ⟨rfl,rfl⟩
 · obtain ⟨x,y,K4,c4,v4,y4,z1,z2,z3,z4,z5,z6⟩:=tail (c3+1+1+1) qO qO hk1
   obtain ⟨k',hk'⟩:∃ m,k.toNat=m:=⟨_,rfl⟩
   rw [hk'] at z1 z2 z3
   obtain ⟨xt,hxt⟩:∃ m,x.getD 0 0=m:=⟨_,rfl⟩
   rw [hxt] at z2 z4
   have z9:=Z2x K4
   cases cl1 with
   | true =>
    have z7:=z5 rfl (c4+1) qO
    have fx:=ai l0 (ai n0 (ai n4 (ai len (ai f1 (ai xv0 (ai xv1 (ai xw0 (ai xw1 (ai xw2 (ai a1 (ai f2 (ai hkb (ai w1 (ai b1 (ai b2 (ai b3 (ai u0 (ai u1 (ai cE (ai le (ai lL (ai m1 (ai m3 (ai m4 (ai ix6 (ai ldE (ai ixR (ai ixG (ai ldR (ai ldG (ai f3 (ai d1 (ai sameB_self (ai tk (ai lL3 (ai z1 (ai z2 (ai z3 (ai z4 (ai z7 (ai z9 nb)))))))))))))))))))))))))))))))))))))))))
    refine Ans.go ?_
    clear fx
    exact .done ⟨rfl,rfl⟩
   | false =>
    have z7:=z6 rfl (c4+1) qO
    have fx:=ai l0 (ai n0 (ai n4 (ai len (ai f1 (ai xv0 (ai xv1 (ai xw0 (ai xw1 (ai xw2 (ai a1 (ai f2 (ai hkb (ai w1 (ai b1 (ai b2 (ai b3 (ai u0 (ai u1 (ai cE (ai le (ai lL (ai m1 (ai m3 (ai m4 (ai ix6 (ai ldE (ai ixR (ai ixG (ai ldR (ai ldG (ai f3 (ai d1 (ai sameB_self (ai tk (ai lL3 (ai z1 (ai z2 (ai z3 (ai z4 (ai z7 (ai z9 nb)))))))))))))))))))))))))))))))))))))))))
    refine Ans.go ?_
    clear fx
    exact .done ⟨rfl,rfl⟩
end Go.Proofs.Ytdodippbpdechaa

namespace Go.Ab
open Go Go.ChangeShapes Go.RowKit
variable {P:Program}
theorem ZiW {W:World} {base:Nat} {t:TypeId} {fs:Array Field} {v:Value} {ts:List TypeId} (ht:P.underlying t=some (.struct fs)) (hts:P.cellTypes P.depth t=some ts) (hval:Value.okWide P W .any base t v) :
 ∃ cs,v = .agg cs/\cs.size=P.cellsOf t /\ ∀ i x,cs[i]? = some x -> ∃ u,ts[i % ts.length]? = some u/\Cell.okWide P W .any base u x:=by
 unfold Value.okWide at hval
 rw [ht] at hval
 obtain ⟨cs,rfl,h1,ts',h2,_,h3⟩:=hval
 rw [hts] at h2
 cases h2
 exact ⟨cs,rfl,h1,h3⟩
theorem Zmz {H:Type} {enc:TypeId × Value->H} {W:World} {base:Nat} {tG tS e:TypeId} {sz:Nat} {v:Value} {f0:Field} {d:DataW H} {ps:List MemPlace} (ht:P.underlying tG=some (.struct #[f0])) (hts:P.cellTypes P.depth tG=some [tS]) (hc:P.cellsOf tG=1)
 (hS:P.underlying tS=some (.slice e)) (h0:f0.type=tS) (o0:f0.offset=0) (hcS:P.cellsOf tS=1) (hf:Z4C P e sz) (hz:0<sz) (hval:Value.okWide P W .any base tG v) (hd:DataW.Trod enc P W 0 (fun _=>true) true tG v d ps) :
 ∃ s n Gl,v = .agg #[s]/\Z6f W s sz n Gl:=by
 obtain ⟨cs,rfl,h1,h2⟩:=ZiW ht hts hval
 rw [hc] at h1
 have hcs:∃ s,cs = #[s]:=by
  obtain ⟨l⟩:=cs
  match l,h1 with
  | [s],_=>exact ⟨s,rfl⟩
 match hcs with
 | ⟨s,hs⟩ =>
  subst hs
  obtain ⟨u,hu,hok⟩:=h2 0 s rfl
  simp at hu
  subst hu
  obtain ⟨fuel,hd⟩:=hd
  obtain ⟨y0,n,_,_,h3⟩:=trod_struct1 ht hd
  rw [h0,o0,hcS] at h3
  obtain ⟨n,Gl,ho⟩:=ZgN hS hf hz hok (fuel:=n) (x:=y0) (by simpa [Value.cells] using h3)
  exact ⟨s,n,Gl,rfl,ho⟩
theorem VR.agg1 {μ:Mu} {a b:Value} (h:VR μ a b):VR μ (.agg #[a]) (.agg #[b]):=VR.agg_iff.2 (VRs.cons h (VRs.nil _))
def Zm5 (W:World) (e:Ending) (W':World):Prop:=e = .returned (.bool true)/\Below W.heap.size W W'
end Go.Ab

namespace Go.Ab
open Go Go.ChangeShapes Go.RowKit
end Go.Ab

namespace Go.Ab
open Go Go.ChangeShapes Go.RowKit
def SlC (h:FH) (s:Value) (sz n:Nat) (L:List Int):Prop:=Z0A h sz s=some (ints L,n)
theorem Z6f.slc {W:World} {v:Value} {sz n:Nat} {Gl:List Int} (h:Z6f W v sz n Gl) {A:FH} {i:Nat} (ha:∀ m,Zls v=some m->A.f i=some (.cells true none (ints Gl))):SlC A (Zim i v) sz n Gl:=by
 obtain ⟨h1,h2,⟨rfl,rfl⟩ | ⟨b,o,cap,C,E,fr,rfl,g1,_,_⟩⟩:=h
 · have:Gl=[]:=List.eq_nil_of_length_eq_zero qO
   subst this
   rfl
 · have hg:HeapC.get A i=some (.cells true none (ints Gl)):=ha _ rfl
   have hb:Nat.ble (0+n*sz) (ints Gl).length=true:=Nat.ble_eq_true_of_le (by simp [h1])
   simp only [SlC,Zim,Z0A,Z0I,Z0k,hg,Option.bind_some,hb,cond_true,List.drop_zero]
   rw [List.take_of_length_le (by simp [h1])]
theorem SlI.slc {h:FH} {c:Nat} {s:Value} {sz n:Nat} {L:List Int} (hs:SlI h c s sz n L) (hn:0<n) (hz:0<sz):SlC h s sz n L:=by
 obtain ⟨g1,g2,a,cap,rfl,h4⟩:=hs
 rcases h4 with ⟨e,hv⟩ | ⟨b,o,cs,rfl,e2,⟨ro,op,e3⟩,e4⟩
 · omega
 · have hl:(ints L).length=n*sz:=by simp [g1]
   have h0:0<n*sz:=Nat.mul_pos hn hz
   have hle:o+n*sz<=cs.length:=by
    rw [← e4,List.length_take,List.length_drop] at hl
    omega
   have hb:Nat.ble (o+n*sz) cs.length=true:=Nat.ble_eq_true_of_le hle
   have hg:HeapC.get h b=some (.cells ro op cs):=e3
   simp only [SlC,Z0A,Z0I,Z0k,hg,Option.bind_some,hb,cond_true,e4]
end Go.Ab

namespace Go.Ab
open Go Go.ChangeShapes Go.RowKit
theorem Zgx {W:World} (l:List (Value × Nat × Nat × List Int)) (hl:l.length<=256) (h:∀ (k:Nat) (p:Value × Nat × Nat × List Int),l[k]? = some p->Z6f W p.1 p.2.1 p.2.2.1 p.2.2.2) :
 ∃ (A:FH) (μ:Mu),R μ A W/\Z1Y μ 1/\(∀ i m,μ i=some m->wrB (HeapC.get A i)=false) /\ ∀ (k:Nat) (p:Value × Nat × Nat × List Int),l[k]? = some p->SlI A 1 (Zim k p.1) p.2.1 p.2.2.1 p.2.2.2/\VR μ (Zim k p.1) p.1/\SlX A (Zim k p.1) p.2.1 p.2.2.1/\SlC A (Zim k p.1) p.2.1 p.2.2.1 p.2.2.2:=by
 let blk:Nat->Option ABlk:=fun i=>(l[i]?).bind fun p=>(Zls p.1).map fun _=>.cells true none (ints p.2.2.2)
 let mu:Mu:=fun i=>(l[i]?).bind fun p=>Zls p.1
 have key:∀ i m,mu i=some m -> ∃ p,l[i]? = some p/\Zls p.1=some m/\blk i=some (.cells true none (ints p.2.2.2)):=by
  intro i m e
  cases hp:l[i]? with
  | none=>simp only [mu,hp] at e; cases e
  | some p =>
   simp only [mu,hp,Option.bind_some] at e
   exact ⟨p,rfl,e,by simp only [blk,hp,Option.bind_some,e,Option.map_some]⟩
 refine ⟨⟨blk⟩,mu,⟨fun i m e=>?_,fun i j mi mj ei ej hne di dj hro=>?_,fun i m e=>?_⟩,fun i hi=>?_,fun i m e=>?_,fun k p hp=>?_⟩
 · obtain ⟨p,h1,h2,h3⟩:=key i m e
   have:=((h i p h1).blk (μ:=mu) h2).1
   show Z6P mu m W.heap (blk i)
   rw [h3]; exact this
 · obtain ⟨p,h1,h2,h3⟩:=key i mi ei
   obtain ⟨q,g1,g2,g3⟩:=key j mj ej
   exact absurd (show roB (blk i)=true/\roB (blk j)=true by rw [h3,g3]; exact ⟨rfl,rfl⟩) hro
 · obtain ⟨p,h1,h2,h3⟩:=key i m e
   exact ((h i p h1).blk (μ:=mu) h2).2
 · have:l[i]? = none:=List.getElem?_eq_none qO
   simp only [mu,this]; rfl
 · obtain ⟨p,h1,h2,h3⟩:=key i m e
   show wrB (blk i)=false
   rw [h3]; rfl
 · have hk:k<l.length:=(List.getElem?_eq_some_iff.1 hp).1
   have hb:∀ m,Zls p.1=some m->blk k=some (.cells true none (ints p.2.2.2)):=fun m hm=>by
    simp only [blk,hp,Option.bind_some,hm,Option.map_some]
   refine ⟨(h k p hp).sl qO (fun m hm=>hb m hm),(h k p hp).vr (fun m hm=>?_),(h k p hp).slx (fun m hm=>hb m hm),(h k p hp).slc (fun m hm=>hb m hm)⟩
   simp only [mu,hp,Option.bind_some,hm]
end Go.Ab

namespace Go.Ab
open Go Go.ChangeShapes Go.RowKit
variable {P:Program}
theorem Zhb:∀ {cs:List Value},(∀ v ∈ cs,∃ n,v = .int .i64 n) -> ∃ L:List Int,cs=ints L
 | [],_=>⟨[],rfl⟩
 | v::cs,h=>by
  obtain ⟨n,rfl⟩:=h v (by simp)
  obtain ⟨L,e⟩:=Zhb (cs:=cs) fun w hw=>h w (by simp [hw])
  exact ⟨n::L,by rw [e]; rfl⟩
theorem ZiV {H:Type} {enc:TypeId × Value->H} {W:World} {base:Nat} {t e:TypeId} {m sz:Nat} {v:Value} {d:DataW H} {ps:List MemPlace} (ht:P.underlying t=some (.array m e)) (hf:Z4C P t sz)
 (hval:Value.okWide P W .any base t v) (hd:DataW.Trod enc P W 0 (fun _=>true) true t v d ps):∃ L,v=av L/\L.length=sz:=by
 unfold Value.okWide at hval
 rw [ht] at hval
 obtain ⟨cs,rfl,h1,_⟩:=hval
 obtain ⟨fuel,hd⟩:=hd
 obtain ⟨h2,h3⟩:=hf.2 _ _ _ _ _ _ _ _ _ hd
 obtain ⟨L,hL⟩:=Zhb h3
 have e1:cs.toList=ints L:=hL
 refine ⟨L, ?_, ?_⟩
 · rw [av,← e1,Array.toArray_toList]
 · have:(ints L).length=sz:=by rw [← e1]; exact h2
   simpa using this
theorem VRs.ints (μ:Mu):∀ L:List Int,VRs μ (ints L) (ints L)
 | []=>.nil _
 | x::L=>.cons (.int _ _) (VRs.ints μ L)
theorem VR.av (μ:Mu) (L:List Int):VR μ (av L) (av L):=VR.agg_iff.2 (by simpa using VRs.ints μ L)
end Go.Ab
