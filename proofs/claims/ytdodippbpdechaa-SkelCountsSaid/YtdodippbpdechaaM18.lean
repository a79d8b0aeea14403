/- Parts of a proof: K34 K35 D1 D2 D3 AbTrie AbHeap. Conditions: none. -/
import Derived.Test.YtdodippbpdechaaM17
import Derived.Test.YtdodippbpdechaaM13
import Derived.Test.YtdodippbpdechaaM7
import Derived.Test.YtdodippbpdechaaM0
set_option linter.all false
set_option maxRecDepth 100000
namespace Go.Proofs.Ytdodippbpdechaa
open Go Go.Ab Go.Proofs
theorem Zgn {t i j:Nat} (hi:i<4) (hj:j<4):(16*t+4*i+j) / 16=t/\(16*t+4*i+j) / 4=4*t+i/\(16*t+4*i+j) / 4 % 4=i/\(16*t+4*i+j) % 4=j:=by
 have h:(16*t+4*i+j) / 4=4*t+i:=by omega
 exact ⟨by omega,h,by rw [h]; omega,by omega⟩
theorem nd_mk {t i j:Nat} (hi:i<4) (hj:j<4):nd (16*t+4*i+j) ↔ j ≠ i:=by
 obtain ⟨_,_,h1,h2⟩:=Zgn (t:=t) hi hj
 show (16*t+4*i+j) % 4 ≠ (16*t+4*i+j) / 4 % 4 ↔ _
 rw [h1,h2]
def ypE (e:Nat):Nat:=16*(e / 6)+4*eAn (e % 6)+eBn (e % 6)
def ymE (e:Nat):Nat:=16*(e / 6)+4*eBn (e % 6)+eAn (e % 6)
def eY (y:Nat):Nat:=eNo (y / 16) (y / 4 % 4) (y % 4)
theorem ed_tab:∀ i j:Fin 4,i ≠ j->(edN ((i:Nat):Int) (j:Nat)).toNat<6/\((eAn (edN ((i:Nat):Int) (j:Nat)).toNat=i/\eBn (edN ((i:Nat):Int) (j:Nat)).toNat=j) ∨ (eAn (edN ((i:Nat):Int) (j:Nat)).toNat=j/\eBn (edN ((i:Nat):Int) (j:Nat)).toNat=i)):=by decide
theorem Z7X {t i j:Nat} (hi:i<4) (hj:j<4) (hne:j ≠ i):eNo t i j / 6=t/\((ypE (eNo t i j)=16*t+4*i+j/\ymE (eNo t i j)=16*t+4*j+i) ∨ (ypE (eNo t i j)=16*t+4*j+i/\ymE (eNo t i j)=16*t+4*i+j)):=by
 obtain ⟨h1,h2⟩:=ed_tab ⟨i,hi⟩ ⟨j,hj⟩ (fun e=>hne (congrArg Fin.val e).symm)
 dsimp only at h1 h2
 have e1:eNo t i j / 6=t:=by unfold eNo; omega
 have e2:eNo t i j % 6=(edN i j).toNat:=by unfold eNo; omega
 unfold ypE ymE
 rw [e1,e2]
 refine ⟨rfl, ?_⟩
 rcases h2 with ⟨q1,q2⟩ | ⟨q1,q2⟩
 · rw [q1,q2]; exact .inl ⟨rfl,rfl⟩
 · rw [q1,q2]; exact .inr ⟨rfl,rfl⟩
theorem Z9b {e:Nat}:nd (ypE e)/\nd (ymE e)/\eY (ypE e)=e/\eY (ymE e)=e/\ypE e / 16=e / 6/\ymE e / 16=e / 6:=by
 have hk:e % 6<6:=by omega
 obtain ⟨_,_,h1,h2,h3⟩:=eAB hk
 have t:∀ k:Fin 6,(edN ((eAn k:Nat):Int) (eBn k:Nat)).toNat=k/\(edN ((eBn k:Nat):Int) (eAn k:Nat)).toNat=k:=by decide
 obtain ⟨q1,q2⟩:=t ⟨e % 6,hk⟩
 dsimp only at q1 q2
 obtain ⟨a,ha⟩:∃ a,eAn (e % 6)=a:=⟨_,rfl⟩
 obtain ⟨b,hb⟩:∃ b,eBn (e % 6)=b:=⟨_,rfl⟩
 obtain ⟨u,hu⟩:∃ u,e / 6=u:=⟨_,rfl⟩
 have e1:ypE e=16*u+4*a+b:=by unfold ypE; rw [ha,hb,hu]
 have e2:ymE e=16*u+4*b+a:=by unfold ymE; rw [ha,hb,hu]
 rw [ha,hb] at q1 q2
 rw [ha,hb] at h3
 rw [ha] at h1
 rw [hb] at h2
 have y1:ypE e % 4=b:=by rw [e1]; omega
 have y2:ypE e / 4=4*u+a:=by rw [e1]; omega
 have y3:ypE e / 4 % 4=a:=by rw [y2]; omega
 have y4:ypE e / 16=u:=by rw [e1]; omega
 have z1:ymE e % 4=a:=by rw [e2]; omega
 have z2:ymE e / 4=4*u+b:=by rw [e2]; omega
 have z3:ymE e / 4 % 4=b:=by rw [z2]; omega
 have z4:ymE e / 16=u:=by rw [e2]; omega
 refine ⟨?_, ?_, ?_, ?_,by rw [y4,hu],by rw [z4,hu]⟩
 · show ypE e % 4 ≠ ypE e / 4 % 4
   rw [y1,y3]; omega
 · show ymE e % 4 ≠ ymE e / 4 % 4
   rw [z1,z3]; omega
 · unfold eY eNo
   rw [y4,y3,y1,q1]
   omega
 · unfold eY eNo
   rw [z4,z3,z1,q2]
   omega
theorem ZjN {y n:Nat} (hy:y<16*n) (hn:nd y):eY y<6*n:=by
 obtain ⟨k,h1,h2⟩:=Zh0 (t:=y / 16) (i:=y / 4 % 4) (j:=y % 4) qO qO hn
 unfold eY
 omega
theorem ZjO {y:Nat} (hn:nd y):y=ypE (eY y) ∨ y=ymE (eY y):=by
 obtain ⟨_,h⟩:=Z7X (t:=y / 16) (i:=y / 4 % 4) (j:=y % 4) qO qO hn
 unfold eY
 omega
theorem Zgm {n e:Nat} (he:e<6*n):ypE e<16*n/\ymE e<16*n:=by
 obtain ⟨_,_,_,_,h1,h2⟩:=Z9b (e:=e)
 omega
section
variable {Gl:List Int} {n:Nat} (hok:Z15 Gl n=true) (hG:Gl.length=n*20)
 include hok hG
theorem Z80 {y y':Nat} (hy:y<16*n) (hy':y'<16*n) (e:Z06 (dCs Gl n) y=Z06 (dCs Gl n) y'):(nd y ↔ nd y')/\Z06 (vCs Gl n) (y / 4)=Z06 (vCs Gl n) (y' / 4)/\(nd y->Z06 (eCs Gl n) (eY y)=Z06 (eCs Gl n) (eY y')):=by
 have hnd:nd y ↔ nd y':=Z81 hok hG (fun w=>nd w) (fun t f i j ht hf hi hj hg h1 h2 h3=>by
  have b:=Z3J hok hG ht hf hg
  have b1:=b.j i hi
  have b2:=b.j j hj
  have:fJ Gl t f j ≠ fJ Gl t f i:=fun q=>h3 (b.inj j i hj hi q)
  rw [nd_mk hi hj,nd_mk b1 b2]
  exact ⟨fun _=>this,fun _=>h3⟩) hy hy' e
 refine ⟨hnd, ?_,fun hn=>?_⟩
 · exact (Z81 hok hG (fun w=>Z06 (vCs Gl n) (w / 4)=Z06 (vCs Gl n) (y' / 4)) (fun t f i j ht hf hi hj hg h1 h2 h3=>by
    have b:=Z3J hok hG ht hf hg
    have b1:=b.j i hi
    have b2:=b.j j hj
    rw [(Zgn hi hj).2.1,(Zgn b1 b2).2.1,Zch hok hG ht hf hi hg h1]) hy hy' e).2 rfl
 · exact (Z81 hok hG (fun w=>Z06 (eCs Gl n) (eY w)=Z06 (eCs Gl n) (eY y')) (fun t f i j ht hf hi hj hg h1 h2 h3=>by
    have b:=Z3J hok hG ht hf hg
    have b1:=b.j i hi
    have b2:=b.j j hj
    have e1:eY (16*t+4*i+j)=eNo t i j:=by
     unfold eY
     obtain ⟨z1,_,z2,z3⟩:=Zgn (t:=t) hi hj
     rw [z1,z2,z3]
    have e2:eY (16*fU Gl t f+4*fJ Gl t f i+fJ Gl t f j)=eNo (fU Gl t f) (fJ Gl t f i) (fJ Gl t f j):=by
     unfold eY
     obtain ⟨z1,_,z2,z3⟩:=Zgn (t:=fU Gl t f) b1 b2
     rw [z1,z2,z3]
    rw [e1,e2,ZjP hok hG ht hf hi hj hg h1 h2 h3]) hy hy' e).2 rfl
theorem ZgZ {e e':Nat} (he:e<6*n) (he':e'<6*n) (q:Z06 (eCs Gl n) e=Z06 (eCs Gl n) e'):(Z06 (dCs Gl n) (ypE e)=Z06 (dCs Gl n) (ypE e')/\Z06 (dCs Gl n) (ymE e)=Z06 (dCs Gl n) (ymE e')) ∨ (Z06 (dCs Gl n) (ypE e)=Z06 (dCs Gl n) (ymE e')/\Z06 (dCs Gl n) (ymE e)=Z06 (dCs Gl n) (ypE e')):=by
 refine (Zh1 hok hG (fun w=>(Z06 (dCs Gl n) (ypE w)=Z06 (dCs Gl n) (ypE e')/\Z06 (dCs Gl n) (ymE w)=Z06 (dCs Gl n) (ymE e')) ∨ (Z06 (dCs Gl n) (ypE w)=Z06 (dCs Gl n) (ymE e')/\Z06 (dCs Gl n) (ymE w)=Z06 (dCs Gl n) (ypE e'))) (fun t f i j ht hf hi hj hg h1 h2 h3=>?_) he he' q).2 (.inl ⟨rfl,rfl⟩)
 have b:=Z3J hok hG ht hf hg
 have b1:=b.j i hi
 have b2:=b.j j hj
 have p1:=ZdZ hok hG ht hf hi hj hg h1 h2 h3
 have p2:=ZdZ hok hG ht hf hj hi hg h2 h1 (Ne.symm h3)
 obtain ⟨_,f1⟩:=Z7X (t:=t) hi hj h3
 obtain ⟨_,f2⟩:=Z7X (t:=fU Gl t f) b1 b2 (fun z=>h3 (b.inj j i hj hi z))
 rcases f1 with ⟨a1,a2⟩ | ⟨a1,a2⟩ <;> rcases f2 with ⟨c1,c2⟩ | ⟨c1,c2⟩
 · rw [a1,a2,c1,c2,p1,p2]
 · rw [a1,a2,c1,c2,p1,p2]; exact ⟨fun z=>z.elim (fun w=>.inr ⟨w.2,w.1⟩) (fun w=>.inl ⟨w.2,w.1⟩),fun z=>z.elim (fun w=>.inr ⟨w.2,w.1⟩) (fun w=>.inl ⟨w.2,w.1⟩)⟩
 · rw [a1,a2,c1,c2,p1,p2]; exact ⟨fun z=>z.elim (fun w=>.inr ⟨w.2,w.1⟩) (fun w=>.inl ⟨w.2,w.1⟩),fun z=>z.elim (fun w=>.inr ⟨w.2,w.1⟩) (fun w=>.inl ⟨w.2,w.1⟩)⟩
 · rw [a1,a2,c1,c2,p1,p2]
theorem Zeq:Z0o (fun k=>((dZ n Gl (dN Gl n) (inC (vN Gl n) k)).1.length:Int)) (nV Gl n)=Z0o (fun y=>if nd y/\Z06 (dCs Gl n) y=y then 1 else 0) (16*n):=by
 have hd:=Zad hok hG
 have hv:=Z9o hok hG
 have key:∀ k,k<nV Gl n->((dZ n Gl (dN Gl n) (inC (vN Gl n) k)).1.length:Int)=Z0o (fun v=>if (v:Int) ∈ (dY Gl (dN Gl n) (inC (vN Gl n) k) (16*n)).1 then 1 else 0) (Z1d (dCs Gl n) (16*n)):=fun k _=>by
  rw [dZ_y]
  refine ZfN (ZdY _ _ _ _) fun x hx=>?_
  obtain ⟨y,h1,h2,h3,h4⟩:=(Zh3 _ _ _ _ _).1 hx
  rw [Zh5 h1] at h4
  have:=ZeZ hd h1
  omega
 rw [Z0e key,Z3R]
 have inner:∀ v,v<Z1d (dCs Gl n) (16*n)->Z0o (fun k=>if (v:Int) ∈ (dY Gl (dN Gl n) (inC (vN Gl n) k) (16*n)).1 then (1:Int) else 0) (nV Gl n)=Z0o (fun y=>if (nd y/\Z06 (dCs Gl n) y=y)/\cl (dCs Gl n) y=v then 1 else 0) (16*n):=fun v hvv=>by
  obtain ⟨r,r1,r2,r3⟩:=Zh8 hd hvv
  have mem:∀ k:Nat,(v:Int) ∈ (dY Gl (dN Gl n) (inC (vN Gl n) k) (16*n)).1 ↔ ∃ y,y<16*n/\cl (vCs Gl n) (y / 4)=k/\nd y/\Z06 (dCs Gl n) y=r:=fun k=>by
   rw [Zh3]
   constructor
   · rintro ⟨y,h1,h2,h3,h4⟩
     rw [Zh5 h1] at h4
     refine ⟨y,h1,(Z6r qO).1 h2,h3, ?_⟩
     rw [(Z83 hd h1 r1).1 qO,r2]
   · rintro ⟨y,h1,h2,h3,h4⟩
     refine ⟨y,h1,(Z6r qO).2 h2,h3, ?_⟩
     rw [Zh5 h1,(Z83 hd h1 r1).2 (by rw [h4,r2]),r3]
  by_cases hn:nd r
  · rw [Z5d (p:=fun y=>(nd y/\Z06 (dCs Gl n) y=y)/\cl (dCs Gl n) y=v) r1 ⟨⟨hn,r2⟩,r3⟩ fun a ha q=>?_]
    · refine Z5d (p:=fun k:Nat=>(v:Int) ∈ (dY Gl (dN Gl n) (inC (vN Gl n) k) (16*n)).1) (b:=cl (vCs Gl n) (r / 4)) (ZeZ hv qO) ((mem _).2 ⟨r,r1,rfl,hn,r2⟩) fun k _ q=>?_
      obtain ⟨y,h1,h2,h3,h4⟩:=(mem k).1 q
      rw [← h2]
      exact (Z83 hv qO qO).2 (Z80 hok hG h1 r1 (h4.trans r2.symm)).2.1
    · have:=(Z83 hd ha r1).1 (q.2.trans r3.symm)
      rw [q.1.2,r2] at this
      exact this
  · rw [Z1O (p:=fun y=>(nd y/\Z06 (dCs Gl n) y=y)/\cl (dCs Gl n) y=v) fun a ha q=>?_]
    · refine Z1O (p:=fun k:Nat=>(v:Int) ∈ (dY Gl (dN Gl n) (inC (vN Gl n) k) (16*n)).1) fun k _ q=>?_
      obtain ⟨y,h1,h2,h3,h4⟩:=(mem k).1 q
      exact hn ((Z80 hok hG h1 r1 (h4.trans r2.symm)).1.1 h3)
    · have:=(Z83 hd ha r1).1 (q.2.trans r3.symm)
      exact hn ((Z80 hok hG ha r1 this).1.1 q.1.1)
 rw [Z0e inner,Z3R]
 refine Z0e fun y hy=>?_
 by_cases q:nd y/\Z06 (dCs Gl n) y=y
 · rw [if_pos q]
   exact Z5d (p:=fun v=>(nd y/\Z06 (dCs Gl n) y=y)/\cl (dCs Gl n) y=v) (ZeZ hd hy) ⟨q,rfl⟩ fun a _ z=>z.2.symm
 · rw [if_neg q]
   exact Z1O (p:=fun v=>(nd y/\Z06 (dCs Gl n) y=y)/\cl (dCs Gl n) y=v) fun a _ z=>q z.1
theorem ZkZ {v e:Nat} (hv:v<nE Gl n) (he:e<6*n) (hc:cl (eCs Gl n) e=v):(skZ Gl n).2.getD v false=true ↔ Z06 (dCs Gl n) (ypE e)=Z06 (dCs Gl n) (ymE e):=by
 have hd:=Zad hok hG
 have hE:=ZdX hok hG
 rw [skZ_e,Zke (eN Gl n) (dN Gl n) (nE Gl n) hv (6*n) fun e he=>eN_lt hE e he]
 have rv:∀ e',e'<6*n->(rvE (dN Gl n) e' ↔ Z06 (dCs Gl n) (ypE e')=Z06 (dCs Gl n) (ymE e')):=fun e' he'=>by
  obtain ⟨f1,f2⟩:=Zgm he'
  rw [← Z83 hd f1 f2]
  show (dN Gl n).getD (ypE e') 0=(dN Gl n).getD (ymE e') 0 ↔ _
  rw [Zh5 f1,Zh5 f2]
  omega
 constructor
 · rintro ⟨e',h1,h2,h3⟩
   rw [eN_at h1] at h2
   have:=(rv e' h1).1 h3
   rcases ZgZ hok hG h1 he ((Z83 hE h1 he).1 qO) with ⟨q1,q2⟩ | ⟨q1,q2⟩
   · rw [← q1,← q2,this]
   · rw [← q1,← q2,this]
 · intro h
   exact ⟨e,he,by rw [eN_at he,hc],(rv e he).2 h⟩
theorem ZeY:Z0o (fun y=>if nd y/\Z06 (dCs Gl n) y=y then (1:Int) else 0) (16*n)=2*nE Gl n-Z0o (fun v=>if (skZ Gl n).2.getD v false=true then 1 else 0) (nE Gl n):=by
 have hd:=Zad hok hG
 have hE:=ZdX hok hG
 have S:Z0o (fun y=>if nd y/\Z06 (dCs Gl n) y=y then (1:Int) else 0) (16*n)=Z0o (fun y=>Z0o (fun v=>if (nd y/\Z06 (dCs Gl n) y=y)/\cl (eCs Gl n) (eY y)=v then (1:Int) else 0) (nE Gl n)) (16*n):=Z0e fun y hy=>by
  by_cases q:nd y/\Z06 (dCs Gl n) y=y
  · rw [if_pos q]
    exact (Z5d (p:=fun v=>(nd y/\Z06 (dCs Gl n) y=y)/\cl (eCs Gl n) (eY y)=v) (ZeZ hE (ZjN hy q.1)) ⟨q,rfl⟩ fun a _ z=>z.2.symm).symm
  · rw [if_neg q]
    exact (Z1O (p:=fun v=>(nd y/\Z06 (dCs Gl n) y=y)/\cl (eCs Gl n) (eY y)=v) fun a _ z=>q z.1).symm
 have T:∀ v,v<nE Gl n->Z0o (fun y=>if (nd y/\Z06 (dCs Gl n) y=y)/\cl (eCs Gl n) (eY y)=v then (1:Int) else 0) (16*n)+(if (skZ Gl n).2.getD v false=true then 1 else 0)=2:=fun v hv=>by
  obtain ⟨e,e1,e2,e3⟩:=Zh8 hE hv
  obtain ⟨f1,f2⟩:=Zgm (n:=n) e1
  obtain ⟨g1,g2,g3,g4,_,_⟩:=Z9b (e:=e)
  have r1:=Z6m hd f1
  have r2:=Z6m hd f2
  have rr1:=Z1j hd f1
  have rr2:=Z1j hd f2
  have c1:=Z80 hok hG r1 f1 rr1
  have c2:=Z80 hok hG r2 f2 rr2
  have iff:∀ y,y<16*n->(((nd y/\Z06 (dCs Gl n) y=y)/\cl (eCs Gl n) (eY y)=v) ↔ (y=Z06 (dCs Gl n) (ypE e) ∨ y=Z06 (dCs Gl n) (ymE e))):=fun y hy=>by
   constructor
   · rintro ⟨⟨h1,h2⟩,h3⟩
     have hl:=ZjN hy h1
     have hc:=ZgZ hok hG hl e1 ((Z83 hE hl e1).1 (h3.trans e3.symm))
     rcases ZjO h1 with q | q
     · rw [← q,h2] at hc
       rcases hc with ⟨z,_⟩ | ⟨z,_⟩
       · exact .inl z
       · exact .inr z
     · rw [← q,h2] at hc
       rcases hc with ⟨_,z⟩ | ⟨_,z⟩
       · exact .inr z
       · exact .inl z
   · rintro (rfl | rfl)
     · refine ⟨⟨c1.1.2 g1,rr1⟩, ?_⟩
       rw [← e3]
       exact (Z83 hE (ZjN r1 (c1.1.2 g1)) e1).2 (by rw [c1.2.2 (c1.1.2 g1),g3])
     · refine ⟨⟨c2.1.2 g2,rr2⟩, ?_⟩
       rw [← e3]
       exact (Z83 hE (ZjN r2 (c2.1.2 g2)) e1).2 (by rw [c2.2.2 (c2.1.2 g2),g4])
  rw [Z0e (g:=fun y=>(if y=Z06 (dCs Gl n) (ypE e) then (1:Int) else 0)+if y=Z06 (dCs Gl n) (ymE e)/\y ≠ Z06 (dCs Gl n) (ypE e) then (1:Int) else 0) fun y hy=>?_,Z0C,Z1Z (fun _=>1),if_pos r1]
  · have rv:=ZkZ hok hG hv e1 e3
    by_cases q:Z06 (dCs Gl n) (ypE e)=Z06 (dCs Gl n) (ymE e)
    · rw [if_pos (rv.2 q),Z1O (p:=fun y=>y=Z06 (dCs Gl n) (ymE e)/\y ≠ Z06 (dCs Gl n) (ypE e)) fun a _ z=>z.2 (by rw [q]; exact z.1)]; rfl
    · rw [if_neg (fun z=>q (rv.1 z)),Z5d (p:=fun y=>y=Z06 (dCs Gl n) (ymE e)/\y ≠ Z06 (dCs Gl n) (ypE e)) r2 ⟨rfl,fun z=>q z.symm⟩ fun a _ z=>z.1]; rfl
  · have:=iff y hy
    by_cases a:y=Z06 (dCs Gl n) (ypE e)
    · rw [if_pos (this.2 (.inl a)),if_pos a,if_neg (fun z=>z.2 a)]; rfl
    · by_cases b:y=Z06 (dCs Gl n) (ymE e)
      · rw [if_pos (this.2 (.inr b)),if_neg a,if_pos ⟨b,a⟩]; rfl
      · rw [if_neg (fun z=>(this.1 z).elim a b),if_neg a,if_neg (fun z=>b z.1)]; rfl
 rw [S,Z3R]
 have U:Z0o (fun v=>Z0o (fun y=>if (nd y/\Z06 (dCs Gl n) y=y)/\cl (eCs Gl n) (eY y)=v then (1:Int) else 0) (16*n)+(if (skZ Gl n).2.getD v false=true then (1:Int) else 0)) (nE Gl n)=2*nE Gl n:=by
  rw [Z0e T,Z20]; omega
 rw [Z0C] at U
 omega
theorem Zbp:Z0o (lkE n Gl (vN Gl n) (dN Gl n)) (nV Gl n)=2*nE Gl n-Z0o (fun v=>if (skZ Gl n).2.getD v false=true then 1 else 0) (nE Gl n)-3*(Z1d (tCs Gl n) (4*n):Nat)+4*n:=by
 have h1:=Zeq hok hG
 have h2:=ZeY hok hG
 have h3:=Zep hok hG
 have h4:=Zeo hok hG
 have h5:=Zg3 hok hG
 have h6:=Zaq hok hG
 have e:2*Z0o (lkE n Gl (vN Gl n) (dN Gl n)) (nV Gl n)=2*Z0o (fun k=>((dZ n Gl (dN Gl n) (inC (vN Gl n) k)).1.length:Int)) (nV Gl n)-2*Z0o (fun k=>((dZ n Gl (dN Gl n) (inC (vN Gl n) k)).2.1:Int)) (nV Gl n)-Z0o (fun k=>((dZ n Gl (dN Gl n) (inC (vN Gl n) k)).2.2:Int)) (nV Gl n)+2*Z0o (fun k=>(rk (inC (vN Gl n) k) (4*n):Int)) (nV Gl n):=by
  have dbl:∀ (f:Nat->Int) m,2*Z0o f m=Z0o (fun a=>f a+f a) m:=fun f m=>by rw [Z0C]; omega
  have two:Z0o (fun k=>lkE n Gl (vN Gl n) (dN Gl n) k+lkE n Gl (vN Gl n) (dN Gl n) k+((dZ n Gl (dN Gl n) (inC (vN Gl n) k)).2.2:Int)) (nV Gl n)=Z0o (fun k=>(((dZ n Gl (dN Gl n) (inC (vN Gl n) k)).1.length:Int)+((dZ n Gl (dN Gl n) (inC (vN Gl n) k)).1.length:Int) + -((dZ n Gl (dN Gl n) (inC (vN Gl n) k)).2.1:Int) + -((dZ n Gl (dN Gl n) (inC (vN Gl n) k)).2.1:Int))+(rk (inC (vN Gl n) k) (4*n):Int)+(rk (inC (vN Gl n) k) (4*n):Int)) (nV Gl n):=Z0e fun k _=>by
   obtain ⟨m,hm⟩:=Zgb hok hG k
   unfold lkE
   omega
  rw [Z0C,Z0C,Z0C,Z0C,Z0C,Z0C,Z0C,Zcn] at two
  omega
 omega
end

theorem Zgj (Gl:List Int) (t:Nat):∀ (r f:Nat) (x:Bool),frF Gl t r f x=true ↔ x=true ∨ ∃ g,f<=g/\g<f+r/\Z0A (Z05 Gl t g)<0
 | 0,f,x=>by
  rw [frF]
  exact ⟨.inl,fun h=>h.elim id fun ⟨g,h1,h2,_⟩=>by omega⟩
 | r+1,f,x=>by
  rw [frF,Zgj Gl t r (f+1),frS,Bool.or_eq_true,decide_eq_true_eq]
  constructor
  · rintro ((h | h) | ⟨g,h1,h2,h3⟩)
    · exact .inl h
    · exact .inr ⟨f,by omega,by omega,h⟩
    · exact .inr ⟨g,by omega,by omega,h3⟩
  · rintro (h | ⟨g,h1,h2,h3⟩)
    · exact .inl (.inl h)
    · by_cases e:g=f
      · subst e; exact .inl (.inr h3)
      · exact .inr ⟨g,by omega,by omega,h3⟩
theorem Zgi (Gl:List Int):∀ (r t:Nat) (x:Bool),frT Gl r t x=true ↔ x=true ∨ ∃ u g,t<=u/\u<t+r/\g<4/\Z0A (Z05 Gl u g)<0
 | 0,t,x=>by
  rw [frT]
  exact ⟨.inl,fun h=>h.elim id fun ⟨u,g,h1,h2,_⟩=>by omega⟩
 | r+1,t,x=>by
  rw [frT,Zgi Gl r (t+1),Zgj]
  constructor
  · rintro ((h | ⟨g,h1,h2,h3⟩) | ⟨u,g,h1,h2,h3,h4⟩)
    · exact .inl h
    · exact .inr ⟨t,g,by omega,by omega,by omega,h3⟩
    · exact .inr ⟨u,g,by omega,by omega,h3,h4⟩
  · rintro (h | ⟨u,g,h1,h2,h3,h4⟩)
    · exact .inl (.inl h)
    · by_cases e:u=t
      · subst e; exact .inl (.inr ⟨g,by omega,by omega,h4⟩)
      · exact .inr ⟨u,g,by omega,by omega,h3,h4⟩
theorem ZkE (Gl:List Int) (n:Nat):xFr Gl n=true ↔ ∃ u g,u<n/\g<4/\Z0A (Z05 Gl u g)<0:=by
 unfold xFr
 rw [Zgi]
 constructor
 · rintro (h | ⟨u,g,h1,h2,h3⟩)
   · cases h
   · exact ⟨u,g,by omega,h3⟩
 · rintro ⟨u,g,h1,h2⟩
   exact .inr ⟨u,g,by omega,by omega,h2⟩
theorem Zft (R:List Bool):∀ (r k:Nat) (x:Bool),rvF R r k x=true ↔ x=true ∨ ∃ j,k<=j/\j<k+r/\R.getD j false=true
 | 0,k,x=>by
  rw [rvF]
  exact ⟨.inl,fun h=>h.elim id fun ⟨g,h1,h2,_⟩=>by omega⟩
 | r+1,k,x=>by
  rw [rvF,Zft R r (k+1),Bool.or_eq_true]
  constructor
  · rintro ((h | h) | ⟨g,h1,h2,h3⟩)
    · exact .inl h
    · exact .inr ⟨k,by omega,by omega,h⟩
    · exact .inr ⟨g,by omega,by omega,h3⟩
  · rintro (h | ⟨g,h1,h2,h3⟩)
    · exact .inl (.inl h)
    · by_cases e:g=k
      · subst e; exact .inl (.inr h3)
      · exact .inr ⟨g,by omega,by omega,h3⟩
theorem ZkC (Gl:List Int) (n:Nat):xRv Gl n=true ↔ ∃ v,v<nE Gl n/\(skZ Gl n).2.getD v false=true:=by
 unfold xRv
 rw [Zft]
 constructor
 · rintro (h | ⟨j,h1,h2,h3⟩)
   · cases h
   · exact ⟨j,by omega,h3⟩
 · rintro ⟨j,h1,h2⟩
   exact .inr ⟨j,by omega,by omega,h2⟩
theorem Zg2 (n:Nat) (Gl V D:List Int):∀ (r k:Nat) (x:Bool × Bool),((lkF n Gl V D r k x).1=true ↔ x.1=true /\ ∀ j,k<=j->j<k+r->spB (lkE n Gl V D j) (lkC n Gl V D j)=true) ∧
 ((lkF n Gl V D r k x).2=true ↔ x.2=true /\ ∀ j,k<=j->j<k+r->dkB (lkE n Gl V D j) (lkC n Gl V D j)=true)
 | 0,k,x=>by
  rw [lkF]
  exact ⟨⟨fun h=>⟨h,fun j h1 h2=>by omega⟩,fun h=>h.1⟩,⟨fun h=>⟨h,fun j h1 h2=>by omega⟩,fun h=>h.1⟩⟩
 | r+1,k,x=>by
  obtain ⟨i1,i2⟩:=Zg2 n Gl V D r (k+1) (x.1 && spB (lkE n Gl V D k) (lkC n Gl V D k),x.2 && dkB (lkE n Gl V D k) (lkC n Gl V D k))
  rw [lkF,i1,i2]
  simp only [Bool.and_eq_true]
  refine ⟨⟨fun ⟨⟨h1,h2⟩,h3⟩=>⟨h1,fun j j1 j2=>?_⟩,fun ⟨h1,h2⟩=>⟨⟨h1,h2 k qO qO⟩,fun j j1 j2=>h2 j qO qO⟩⟩,⟨fun ⟨⟨h1,h2⟩,h3⟩=>⟨h1,fun j j1 j2=>?_⟩,fun ⟨h1,h2⟩=>⟨⟨h1,h2 k qO qO⟩,fun j j1 j2=>h2 j qO qO⟩⟩⟩
  · by_cases e:j=k
    · rw [e]; exact h2
    · exact h3 j qO qO
  · by_cases e:j=k
    · rw [e]; exact h2
    · exact h3 j qO qO
theorem ZkD (Gl:List Int) (n:Nat):((xLk Gl n).1=true ↔ ∀ j,j<nV Gl n->spB (lkE n Gl (vN Gl n) (dN Gl n) j) (lkC n Gl (vN Gl n) (dN Gl n) j)=true)/\((xLk Gl n).2=true ↔ ∀ j,j<nV Gl n->dkB (lkE n Gl (vN Gl n) (dN Gl n) j) (lkC n Gl (vN Gl n) (dN Gl n) j)=true):=by
 obtain ⟨h1,h2⟩:=Zg2 n Gl (vN Gl n) (dN Gl n) (nV Gl n) 0 (true,true)
 refine ⟨h1.trans ⟨fun h j hj=>h.2 j qO qO,fun h=>⟨rfl,fun j _ hj=>h j qO⟩⟩,h2.trans ⟨fun h j hj=>h.2 j qO qO,fun h=>⟨rfl,fun j _ hj=>h j qO⟩⟩⟩
def frC (Gl:List Int) (m:Nat):Int:=Z0o (fun x=>if Z0A (Z05 Gl (x / 4) (x % 4))<0 then 1 else 0) m
def rvC (Gl:List Int) (n m:Nat):Int:=Z0o (fun v=>if (skZ Gl n).2.getD v false=true then 1 else 0) m
theorem Z9s (p:Nat->Prop) [DecidablePred p]:∀ m,0<=Z0o (fun x=>if p x then (1:Int) else 0) m/\Z0o (fun x=>if p x then (1:Int) else 0) m<=m
 | 0=>by simp [Z0o]
 | m+1=>by
  have:=Z9s p m
  rw [Z0o]
  split <;> omega
theorem Zko (Gl:List Int) (m:Nat):0<=frC Gl m/\frC Gl m<=m:=Z9s (fun x=>Z0A (Z05 Gl (x / 4) (x % 4))<0) m
theorem Zkf (Gl:List Int) (n m:Nat):0<=rvC Gl n m/\rvC Gl n m<=m:=Z9s (fun v=>(skZ Gl n).2.getD v false=true) m
theorem Zkl {Gl:List Int} {n:Nat} (k:Nat):-(16*n:Int)<=lkE n Gl (vN Gl n) (dN Gl n) k/\lkE n Gl (vN Gl n) (dN Gl n) k<=24*n:=by
 have h:=Zh6 Gl (dN Gl n) (crn (inC (vN Gl n) k) (4*n)) (rk (inC (vN Gl n) k) (4*n)) 0 (z:=([],0,0)) (B:=0) ⟨by simp,by simp⟩
 have hr:=Z8c (inC (vN Gl n) k) (4*n)
 obtain ⟨h1,h2⟩:=h
 have e:dZ n Gl (dN Gl n) (inC (vN Gl n) k)=Ze0 Gl (dN Gl n) (crn (inC (vN Gl n) k) (4*n)) (rk (inC (vN Gl n) k) (4*n)) 0 ([],0,0):=rfl
 unfold lkE
 rw [e]
 omega
section
variable {Gl:List Int} {n:Nat} (hok:Z15 Gl n=true) (hG:Gl.length=n*20)
 include hok hG
theorem Z9g:Z0o (lkE n Gl (vN Gl n) (dN Gl n)) (nV Gl n)=2*nE Gl n-rvC Gl n (nE Gl n)-3*(Z1d (tCs Gl n) (4*n):Nat)+4*n:=Zbp hok hG
theorem Z9f (hf:frC Gl (4*n)=0) (hr:rvC Gl n (nE Gl n)=0):2*Zho Gl n=2*nV Gl n-Z0o (lkE n Gl (vN Gl n) (dN Gl n)) (nV Gl n):=by
 have h1:=Z9g hok hG
 have h2:=Zaq hok hG
 have h3:Z0o (fun x=>if Z0A (Z05 Gl (x / 4) (x % 4))<0 then (1:Int) else 0) (4*n)=0:=hf
 unfold Zho
 omega
theorem Zae (hk:ZaF Gl n=1):Zho Gl n=0:=by
 unfold ZaF ZaE at hk
 have hr:xRv Gl n=false:=by
  cases h:xRv Gl n with
  | false=>rfl
  | true=>rw [if_pos h] at hk; omega
 rw [hr,if_neg (by simp)] at hk
 have hs:(!xFr Gl n && (xLk Gl n).1)=true:=by
  cases h:(!xFr Gl n && (xLk Gl n).1) with
  | true=>rfl
  | false =>
   rw [h,if_neg (by simp)] at hk
   split at hk
   · omega
   · split at hk <;> omega
 simp only [Bool.and_eq_true,Bool.not_eq_true'] at hs
 obtain ⟨hf,hl⟩:=hs
 have e1:frC Gl (4*n)=0:=Z1O (p:=fun x=>Z0A (Z05 Gl (x / 4) (x % 4))<0) fun x hx q=>by
  have:=(ZkE Gl n).2 ⟨x / 4,x % 4,by omega,by omega,q⟩
  rw [hf] at this; cases this
 have e2:rvC Gl n (nE Gl n)=0:=Z1O (p:=fun v=>(skZ Gl n).2.getD v false=true) fun x hx q=>by
  have:=(ZkC Gl n).2 ⟨x,hx,q⟩
  rw [hr] at this; cases this
 have h:=Z9f hok hG e1 e2
 have e3:Z0o (lkE n Gl (vN Gl n) (dN Gl n)) (nV Gl n)=2*nV Gl n:=by
  rw [Z0e (g:=fun _=>2) fun k hk=>?_,Z20]
  · omega
  · have:=(ZkD Gl n).1.1 hl k hk
    simp only [spB,Bool.and_eq_true,decide_eq_true_eq] at this
    exact this.2
 omega
end
theorem ZkJ (C:List Int) {m:Nat} (hd:Z3y C m) {x:Nat} (hx:x<m):(if (Z1d C x:Int)<(cl C x:Nat)+1 then ((cl C x:Nat):Int)+1 else (Z1d C x:Nat))=(Z1d C (x+1):Nat):=by
 rw [Z7G]
 by_cases e:Z06 C x=x
 · rw [if_pos e]
   have:cl C x=Z1d C x:=by unfold cl; rw [e]
   rw [this,if_pos qO]; omega
 · rw [if_neg e]
   have hl:=Z1w hd hx
   have:cl C x<Z1d C x:=Zbt (C:=C) (m:=x) qO (Z1j hd hx)
   rw [if_neg qO]; rfl

theorem ZfD (p:List Int) (hp:p.length=4) (h:FH) (b1 b3 c:Nat) (hb1:b1<256*c) (hb3:b3<256*c) (hne:b1 ≠ b3) (hh:Z0i h b1 (ints p)) (df:List Nat):∀ (k i:Nat) (m:List Bool),i+k=4->m.length=4 →
 Ans (G (Z46 none) [ptrTo b1,.bool false,ptrTo b3,.int .i64 i] (newB h b3 (bools m)) c df) fun r=>r.c=c/\r.df=df/\(∃ cs,r.h=newB h b3 cs) ∧
  (if ZhN (p.drop i) m=true then r.e = .exit 0 else r.e = .ret/\r.v 1 = .bool false):=by
 intro k
 induction k with
 | zero =>
  intro i m hi hm
  obtain rfl:i=4:=by omega
  rw [List.drop_of_length_le qO]
  refine .intro (Z5m (q:=⟨.exit 0,[ptrTo b1,.bool false,ptrTo b3,.int .i64 (4:Nat)],newB h b3 (bools m),c+1,df⟩) (by unfold Z18; simp) (by simp)) ?_
  rw [Z1l (by simp [hb1,hb3])]
  refine ⟨rfl,rfl,⟨_,rfl⟩, ?_⟩
  simp [ZhN]
 | succ k ih =>
  intro i m hi hm
  have hlt:i<p.length:=by omega
  have e0:(i:Int)<4:=by omega
  have hld:∀ j,j<4->ld1 (newB h b3 (bools m)) (.pointer (some ⟨b1,j,none⟩))=some (.int .i64 (p.getD j 0)):=fun j hj=>by
   rw [ld1_newB_ne _ _ _ _ _ hne]
   exact ld1_holds hh (by rw [ints_getD _ _ qO])
  have hldi:=hld i qO
  obtain ⟨x,hx⟩:∃ x,x=p.getD i 0:=⟨_,rfl⟩
  have hdr:p.drop i=x::p.drop (i+1):=by
   rw [List.drop_eq_getElem_cons hlt,hx]
   simp [List.getD,List.getElem?_eq_getElem hlt]
  rw [hdr,ZhN]
  rw [← hx] at hldi
  by_cases h1:x<0
  · rw [if_pos (Or.inl h1)]
    refine Ans.intro (Z5m (q:=⟨.ret,[ptrTo b1,.bool false,ptrTo b3,.int .i64 i],newB h b3 (bools m),_,df⟩) (Ans.eq (by
     unfold Z18
     repeat (first | (with_reducible refine Ans.bt ?_ ?_; exact rfl) | (with_reducible refine Ans.bf ?_ ?_; exact rfl) | (with_reducible refine Ans.ct ?_ ?_; focus (simp; done)) | (with_reducible refine Ans.cf ?_ ?_; focus (simp; done)) | refine Ans.step (by simp (disch:=(first | omega | (simp <;> omega) | fail)) [e0,hldi,h1,-List.getD_eq_getElem?_getD] <;> rfl) ?_)
     exact .done rfl)) (by simp)) ?_
    rw [Z1l (by simp [hb1,hb3])]
    exact ⟨rfl,rfl,⟨_,rfl⟩,by simp⟩
  by_cases h2:3<x
  · rw [if_pos (Or.inr h2)]
    refine Ans.intro (Z5m (q:=⟨.ret,[ptrTo b1,.bool false,ptrTo b3,.int .i64 i],newB h b3 (bools m),_,df⟩) (Ans.eq (by
     unfold Z18
     repeat (first | (with_reducible refine Ans.bt ?_ ?_; exact rfl) | (with_reducible refine Ans.bf ?_ ?_; exact rfl) | (with_reducible refine Ans.ct ?_ ?_; focus (simp; done)) | (with_reducible refine Ans.cf ?_ ?_; focus (simp; done)) | refine Ans.step (by simp (disch:=(first | omega | (simp <;> omega) | fail)) [e0,hldi,h1,h2,-List.getD_eq_getElem?_getD] <;> rfl) ?_)
     exact .done rfl)) (by simp)) ?_
    rw [Z1l (by simp [hb1,hb3])]
    exact ⟨rfl,rfl,⟨_,rfl⟩,by simp⟩
  rw [if_neg qO]
  have hldm:ld1 (newB h b3 (bools m)) (.pointer (some ⟨b3,x.toNat,none⟩))=some (.bool (m.getD x.toNat false)):=by
   rw [ld1_newB_same,Z86 _ _ qO]
  by_cases h3:m.getD x.toNat false=true
  · rw [if_pos h3]
    rw [h3] at hldm
    refine Ans.intro (Z5m (q:=⟨.ret,[ptrTo b1,.bool false,ptrTo b3,.int .i64 i],newB h b3 (bools m),_,df⟩) (Ans.eq (by
     unfold Z18
     repeat (first | (with_reducible refine Ans.bt ?_ ?_; exact rfl) | (with_reducible refine Ans.bf ?_ ?_; exact rfl) | (with_reducible refine Ans.ct ?_ ?_; focus (simp; done)) | (with_reducible refine Ans.cf ?_ ?_; focus (simp; done)) | refine Ans.step (by simp (disch:=(first | omega | (simp <;> omega) | fail)) [e0,hldi,h1,h2,hldm,-List.getD_eq_getElem?_getD] <;> rfl) ?_)
     exact .done rfl)) (by simp)) ?_
    rw [Z1l (by simp [hb1,hb3])]
    exact ⟨rfl,rfl,⟨_,rfl⟩,by simp⟩
  rw [if_neg h3]
  have h3':m.getD x.toNat false=false:=by simpa using h3
  rw [h3'] at hldm
  obtain ⟨r,hr,hq⟩:=ih (i+1) (m.set x.toNat true) qO (by simpa using hm)
  have hst:stN (newB h b3 (bools m)) 1 (.pointer (some ⟨b3,x.toNat,none⟩)) (.bool true)=some (newB h b3 (bools (m.set x.toNat true))):=by
   rw [st1_bool _ _ _ _ _ (by rw [Z6P]; omega),ZaR]
  refine .intro (ZeQ (q:=⟨.normal,[ptrTo b1,.bool false,ptrTo b3,.int .i64 (i+1:Nat)],newB h b3 (bools (m.set x.toNat true)),_,df⟩) (Ans.eq (by
   unfold Z18
   repeat (first | (with_reducible refine Ans.bt ?_ ?_; exact rfl) | (with_reducible refine Ans.bf ?_ ?_; exact rfl) | (with_reducible refine Ans.ct ?_ ?_; focus (simp; done)) | (with_reducible refine Ans.cf ?_ ?_; focus (simp; done)) | refine Ans.step (by simp (disch:=(first | omega | (simp <;> omega) | fail)) [e0,hldi,h1,h2,hldm,hst,-List.getD_eq_getElem?_getD] <;> rfl) ?_)
   exact .done rfl)) rfl ?_) hq
  rw [Zbs hb3 (by simp [hb1,hb3]) (Z1i.bools _ _)]
  exact hr
theorem Zfg (p:List Int) (hp:p.length=4) (h:FH) (c:Nat) (df:List Nat) :
 G (.fn 44) [av p] h c df=some ⟨.ret,[.bool (Z11 p)],h,c,[]⟩:=by
 refine Z5G (fun r e=>f44_go e) (by simp) ?_
 obtain ⟨⟨re,rv,rh,rc,rd⟩,hr,h1,h2,⟨cs,h3⟩,h4⟩:=ZfD p hp (newB h (256*c) (ints p)) (256*c) (256*(c+1)) (c+1+1+1) qO qO qO (Z0i.newB_same _ _ _) [] 4 0 [false,false,false,false] rfl rfl
 simp only at h1 h2 h3
 subst h1 h2 h3
 rw [← Zl1 p hp]
 unfold ZgJ
 simp only [List.drop_zero] at h4
 simp only [Int.ofNat_eq_natCast,Int.cast_ofNat_Int] at hr
 have hb:bools [false,false,false,false]=[.bool false,.bool false,.bool false,.bool false]:=rfl
 rw [hb] at hr
 cases hv:ZhN p [false,false,false,false] with
 | true =>
  rw [hv,if_pos rfl] at h4
  subst h4
  simp (disch:=omega) [hr,hp]
 | false =>
  rw [hv,if_neg (by simp)] at h4
  obtain ⟨rfl,h5⟩:=h4
  simp (disch:=omega) [hr,hp,h5]
theorem Z1h (p:List Int) (hp:p.length=4) (h:FH) (c:Nat):callF G 44 [av p] h c=some (.bool (Z11 p),h,c):=Z08 (Zfg p hp h c [])
theorem Z9M (p:List Int) (hp:p.length=4) (hr:InR p) (h:FH) (b1 b2 b3 c:Nat) (hb1:b1<256*c) (hb2:b2<256*c) (hb3:b3<256*c) (hne:b1 ≠ b3) (hh:Z0i h b1 (ints p)) (df:List Nat):∀ (k i:Nat) (out:List Int),i+k=4->out.length=4 →
 G (Z45 none) [ptrTo b1,ptrTo b2,ptrTo b3,.int .i64 i] (newB h b3 (ints out)) c df =
  some ⟨.exit 0,[ptrTo b1,ptrTo b2,ptrTo b3,.int .i64 4],newB h b3 (ints (Zeu (p.drop i) i out)),c,df⟩:=by
 intro k
 induction k with
 | zero =>
  intro i out hi ho
  obtain rfl:i=4:=by omega
  rw [List.drop_of_length_le qO]
  refine (ZeO (q:=⟨.exit 0,[ptrTo b1,ptrTo b2,ptrTo b3,.int .i64 4],newB h b3 (ints out),c+1,df⟩) (by unfold Z27; simp) (by simp)).trans ?_
  rw [Z1l (by simp [hb1,hb2,hb3])]
  rfl
 | succ k ih =>
  intro i out hi ho
  have hlt:i<p.length:=by omega
  have e0:(i:Int)<4:=by omega
  have hld:ld1 (newB h b3 (ints out)) (.pointer (some ⟨b1,i,none⟩))=some (.int .i64 (p.getD i 0)):=by
   rw [ld1_newB_ne _ _ _ _ _ hne]
   exact ld1_holds hh (by rw [ints_getD _ _ qO])
  obtain ⟨x,hx⟩:∃ x,x=p.getD i 0:=⟨_,rfl⟩
  have hdr:p.drop i=x::p.drop (i+1):=by
   rw [List.drop_eq_getElem_cons hlt,hx]
   simp [List.getD,List.getElem?_eq_getElem hlt]
  have hxr:0<=x/\x<4:=by
   rw [hx]
   have:=hr p[i] (List.getElem_mem hlt)
   simpa [List.getD,List.getElem?_eq_getElem hlt] using this
  rw [hdr,Zeu]
  rw [← hx] at hld
  refine ZeP (q:=⟨.normal,[ptrTo b1,ptrTo b2,ptrTo b3,.int .i64 (i+1:Nat)],newB h b3 (ints (out.set x.toNat i)),_,df⟩) (Ans.eq (by
   unfold Z27
   repeat (first | (with_reducible refine Ans.bt ?_ ?_; exact rfl) | (with_reducible refine Ans.bf ?_ ?_; exact rfl) | (with_reducible refine Ans.ct ?_ ?_; focus (simp; done)) | (with_reducible refine Ans.cf ?_ ?_; focus (simp; done)) | refine Ans.step (by simp (disch:=(first | omega | (simp <;> omega) | fail)) [e0,hld,hxr,ho,-List.getD_eq_getElem?_getD] <;> rfl) ?_)
   exact .done rfl)) rfl ?_
  rw [Zbs hb3 (by simp [hb1,hb2,hb3]) (by simp)]
  exact ih (i+1) _ qO (by simpa using ho)
def invR (p:List Int):List Int:=if Z11 p=true then inv p else [0,0,0,0]
theorem Zbq (p:List Int) (hp:p.length=4) (h:FH) (c:Nat) (df:List Nat) :
 G (.fn 45) [av p] h c df=some ⟨.ret,[av (invR p)],h,c,[]⟩:=by
 refine Z5G (fun r e=>f45_go e) (by simp) ?_
 have e1:p.take 4=p:=List.take_of_length_le qO
 have hv:=fun h c=>Z1h p hp h c
 unfold ZgI invR
 by_cases hb:Z11 p=true
 · rw [if_pos hb]
   rw [hb] at hv
   have hl:=Z9M p hp (Z2e hb) (newB (newB h (256*c) (ints p)) (256*c+1) (ints [0,0,0,0])) (256*c) (256*c+1) (256*(c+1)) (c+1+1+1+1) qO qO qO qO
    (Z0i.newB_ne qO (Z0i.newB_same _ _ _)) [] 4 0 [0,0,0,0] rfl rfl
   have hl2:(Zeu p 0 [0,0,0,0]).length=4:=Z3s p 0 [0,0,0,0]
   have e2:(Zeu p 0 [0,0,0,0]).take 4=Zeu p 0 [0,0,0,0]:=List.take_of_length_le qO
   simp only [ZaK,Zdf,Int.ofNat_eq_natCast,Int.cast_ofNat_Int,List.drop_zero] at hl
   simp (disch:=(first | omega | (simp <;> omega) | fail)) [hl,e1,e2,hp,hl2,inv,hv]
 · rw [if_neg hb]
   have hb':Z11 p=false:=by simpa using hb
   rw [hb'] at hv
   have hz:[Value.int .i64 0,Value.int .i64 0,Value.int .i64 0,Value.int .i64 0]=ints [0,0,0,0]:=rfl
   rw [hz]
   repeat (first | (with_reducible refine Ans.bt ?_ ?_; exact rfl) | (with_reducible refine Ans.bf ?_ ?_; exact rfl) | (with_reducible refine Ans.ct ?_ ?_; focus (simp; done)) | (with_reducible refine Ans.cf ?_ ?_; focus (simp; done)) | refine Ans.step (by simp (disch:=(first | omega | (simp <;> omega) | fail)) [e1,hp,hv,-List.getD_eq_getElem?_getD] <;> rfl) ?_)
   refine .done ⟨rfl,rfl, ?_,rfl⟩
   simp (disch:=omega)

theorem ZjK (a0 a1 a2 a3 b0 b1 b2 b3:Int):Z0N P .eql 42 (av [a0,a1,a2,a3]) (av [b0,b1,b2,b3]) =
 (cond (a0 == b0) (cond (a1 == b1) (cond (a2 == b2) (cond (a3 == b3) (some true) (some false)) (some false)) (some false)) (some false)).bind fun b=>some (.bool b):=by kernel_rfl
theorem Z3L (x y:List Int) (hx:x.length=4) (hy:y.length=4):Z00 P .eql 42 (av x) (av y)=some (.bool (decide (x=y))):=by
 match x,hx,y,hy with
 | [a0,a1,a2,a3],_,[b0,b1,b2,b3],_ =>
  rw [Z0u,ZjK]
  by_cases h0:a0=b0 <;> by_cases h1:a1=b1 <;> by_cases h2:a2=b2 <;> by_cases h3:a3=b3 <;> simp [h0,h1,h2,h3,Bool.cond_eq_ite]
theorem Z8k (p:List Int) (hp:p.length=4) (h:FH) (c:Nat):callF G 45 [av p] h c=some (av (invR p),h,c):=Z08 (Zbq p hp h c [])
theorem Z6Y {x:Option Nat} {h1 h2:FH} (e:∀ i,x=some i->h1.f i=h2.f i):Z1r x h1 h2=true:=by
 cases x with
 | none=>rfl
 | some i =>
  show @decide (h1.f i=h2.f i) (Classical.propDecidable _)=true
  exact @decide_eq_true _ (Classical.propDecidable _) (e i rfl)
theorem Z8F {x:List Int} (hx:x.length=5):x=Z0A x::Z0s x:=by
 match x,hx with
 | [a,b,c,d,e],_=>rfl
set_option maxHeartbeats 2000000 in
theorem Zc5 (s:Value) (n:Nat) (Gl:List Int) (gb c:Nat) (h:FH) (t f:Nat) (ht:t<n) (hf:f<4) (hgb:gb<256*c)
 (h1:Z0i h gb [s]) (h2:SlI h c s 20 n Gl) (v2:Value) (df:List Nat) :
 Ans (Z1K G none (ptrTo gb) v2 (.int .i64 n) (.int .i64 t) (.int .i64 f) h c df) fun r=>r.df=df/\Z0p c h r.h ∧
  r.e=(if Z0l Gl n t f=true then .normal else .ret)/\r.vs=(if Z0l Gl n t f=true then [ptrTo gb,v2,.int .i64 n,.int .i64 t,.int .i64 (f+1:Nat)] else [ptrTo gb,.int .i64 7,.int .i64 n,.int .i64 t,.int .i64 f]):=by
 have hx:=Z0q h2.1 ht hf
 have hp:=Z1D hx
 have hsp:=Z8F hx
 have ht5:(Z05 Gl t f).take 5=Z05 Gl t f:=List.take_of_length_le qO
 have ft:(f:Int)<4:=by omega
 obtain ⟨b,o,cs,x1,x2,x3,x4⟩:=h2.ix .i64 (t:Int) qO qO
 have hface:∀ u j:Int,0<=u->u<n->0<=j->j<4 -> ∃ b o,ixS 20 s (.int .i64 u)=some (.pointer (some ⟨b,o+u.toNat*20,none⟩))/\(∀ H:FH,(∀ i,i<256*c->H.f i=h.f i)->ldN H 5 (.pointer (some ⟨b,o+u.toNat*20+j.toNat*5,none⟩))=some (av (Z05 Gl u.toNat j.toNat)))/\b<256*c:=by
  intro u j u1 u2 j1 j2
  obtain ⟨b,o,cs,x1,x2,x3,x4⟩:=h2.ix .i64 u u1 u2
  refine ⟨b,o,x1,fun H hH=>?_,x2⟩
  have:=h2.1
  have x3':Z0i H b cs:=by
   obtain ⟨ro,op,e⟩:=x3
   exact ⟨ro,op,(hH b x2).trans e⟩
  rw [Nat.add_assoc,Z9J x3' x4 (j:=u.toNat*20+j.toNat*5) (q:=5) qO qO]
  unfold Z05
  rw [Nat.mul_comm 20,Nat.mul_comm 5]
 obtain ⟨fb,fo,y1,y2,y3⟩:=hface t f qO qO qO qO
 have y2h:=y2 h (fun i hi=>rfl)
 simp only [Int.toNat_natCast] at y1 y2h
 have e2:ld1 h (.pointer (some ⟨gb,0,none⟩))=some s:=by rw [Z02 h1]; rfl
 obtain ⟨H,hH⟩:∃ H,H=newB h (256*(c+1)+7) (ints (Z05 Gl t f)):=⟨_,rfl⟩
 have hst:stN (newB h (256*(c+1)+7) [.int .i64 0,.int .i64 0,.int .i64 0,.int .i64 0,.int .i64 0]) 5 (.pointer (some ⟨256*(c+1)+7,0,none⟩)) (av (Z05 Gl t f))=some H:=by
  rw [stN_all _ _ 5 _ _ hx rfl,hH]
 have hS:Z0p c h H:=by rw [hH]; exact (Same_newB qO).2 (Z0p.refl _ _)
 have hB:Z0i H (256*(c+1)+7) (ints (Z05 Gl t f)):=by rw [hH]; exact Z0i.newB_same _ _ _
 have b1:ld1 H (.pointer (some ⟨256*(c+1)+7,0,none⟩))=some (.int .i64 (Z0A (Z05 Gl t f))):=by
  rw [Z02 hB,Z4t,List.getElem?_eq_getElem qO]
  simp [Z0A,List.getD,List.getElem?_eq_getElem (by omega:0<(Z05 Gl t f).length)]
 have b2:ldN H 4 (.pointer (some ⟨256*(c+1)+7,1,none⟩))=some (av (Z0s (Z05 Gl t f))):=by
  rw [ldN_holds hB (by simp [hx])]; rw [Z1P,Z1g]; rfl
 have b3:ld1 H (.pointer (some ⟨256*(c+1)+7,1+f,none⟩))=some (.int .i64 ((Z0s (Z05 Gl t f)).getD f 0)):=by
  have hlt:1+f<(Z05 Gl t f).length:=by omega
  rw [Z02 hB,Z4t,List.getElem?_eq_getElem hlt]
  unfold Z0s
  rw [Z3t _ _ _ hf,Z3u]
  simp [List.getD,List.getElem?_eq_getElem hlt]
 have e2':ld1 H (.pointer (some ⟨gb,0,none⟩))=some s:=by
  rw [Z02 (cs:=[s]) (by obtain ⟨ro,op,e⟩:=h1; exact ⟨ro,op,(hS gb hgb).trans e⟩)]; rfl
 have hzz:Z1M [.int .i64 0,.int .i64 0,.int .i64 0,.int .i64 0] []=some (av [0,0,0,0]):=rfl
 have hz4:([0,0,0,0]:List Int).length=4:=rfl
 have hq:∀ (x:Option Nat),Z1r x H H=true:=fun x=>Z6Y fun i _=>rfl
 clear hH
 obtain ⟨F,hF⟩:∃ F,Z05 Gl t f=F:=⟨_,rfl⟩
 rw [hF] at hx hp hsp ht5 y2h hst b1 b2 b3
 obtain ⟨X,hX⟩:∃ X,Z0A F=X:=⟨_,rfl⟩
 obtain ⟨Y,hY⟩:∃ Y,Z0s F=Y:=⟨_,rfl⟩
 rw [hX] at b1 hsp
 rw [hY] at b2 b3 hsp hp
 have okE:Z0l Gl n t f=(decide (X = -1/\Y=[0,0,0,0]) || (decide (0<=X) && decide (X<n) && Z11 Y && !(decide (X=t) && decide (Y.getD f 0=f)) && decide (Z05 Gl X.toNat (Y.getD f 0).toNat=(t:Int)::inv Y))):=by
  unfold Z0l
  rw [hF,hX,hY]
  congr 1
  rw [hsp]
  simp [Z6o]
 have hnl:(t:Int)::inv Y=(t:Int)::inv Y:=rfl
 unfold Z1K
 repeat (first | (with_reducible refine Ans.bt ?_ ?_; exact rfl) | (with_reducible refine Ans.bf ?_ ?_; exact rfl) | (with_reducible refine Ans.ct ?_ ?_; focus (simp; done)) | (with_reducible refine Ans.cf ?_ ?_; focus (simp; done)) | refine Ans.step (by simp (disch:=(first | omega | (simp <;> omega) | fail)) [ft,-List.getD_eq_getElem?_getD] <;> rfl) ?_)
 refine Ans.bind ?_
 by_cases q1:X = -1
 · have q1':=eq_true q1
   have q0:=eq_true (show X<0 by omega)
   by_cases q2:Y=[0,0,0,0]
   · have ok:Z0l Gl n t f=true:=by rw [okE]; simp [q1,q2]
     rw [ok]
     have q2':=eq_true q2
     repeat (first | (with_reducible refine Ans.bt ?_ ?_; exact rfl) | (with_reducible refine Ans.bf ?_ ?_; exact rfl) | (with_reducible refine Ans.ct ?_ ?_; focus (simp; done)) | (with_reducible refine Ans.cf ?_ ?_; focus (simp; done)) | refine Ans.step (by simp (disch:=(first | omega | (simp <;> omega) | fail)) [ft,e2,y1,y2h,hst,b1,b2,hzz,hz4,Z3L,hp,q1',q2',-List.getD_eq_getElem?_getD] <;> rfl) ?_)
     refine .done ?_
     repeat (first | (with_reducible refine Ans.bt ?_ ?_; exact rfl) | (with_reducible refine Ans.bf ?_ ?_; exact rfl) | (with_reducible refine Ans.ct ?_ ?_; focus (simp; done)) | (with_reducible refine Ans.cf ?_ ?_; focus (simp; done)) | refine Ans.step (by simp (disch:=(first | omega | (simp <;> omega) | fail)) [ft,-List.getD_eq_getElem?_getD] <;> rfl) ?_)
     exact .done ⟨rfl,hS,by simp,by simp⟩
   · have ok:Z0l Gl n t f=false:=by rw [okE]; simp [q1,q2]
     rw [ok]
     repeat (first | (with_reducible refine Ans.bt ?_ ?_; exact rfl) | (with_reducible refine Ans.bf ?_ ?_; exact rfl) | (with_reducible refine Ans.ct ?_ ?_; focus (simp; done)) | (with_reducible refine Ans.cf ?_ ?_; focus (simp; done)) | refine Ans.step (by simp (disch:=(first | omega | (simp <;> omega) | fail)) [ft,e2,y1,y2h,hst,b1,b2,hzz,hz4,Z3L,hp,q1',q2,q0,-List.getD_eq_getElem?_getD] <;> rfl) ?_)
     refine .done ?_
     repeat (first | (with_reducible refine Ans.bt ?_ ?_; exact rfl) | (with_reducible refine Ans.bf ?_ ?_; exact rfl) | (with_reducible refine Ans.ct ?_ ?_; focus (simp; done)) | (with_reducible refine Ans.cf ?_ ?_; focus (simp; done)) | refine Ans.step (by simp (disch:=(first | omega | (simp <;> omega) | fail)) [ft,-List.getD_eq_getElem?_getD] <;> rfl) ?_)
     exact .done ⟨rfl,hS,by simp,by simp⟩
 by_cases q3:X<0
 · have ok:Z0l Gl n t f=false:=by
    have:¬ 0<=X:=by omega
    rw [okE]; simp [q1,this]
   rw [ok]
   repeat (first | (with_reducible refine Ans.bt ?_ ?_; exact rfl) | (with_reducible refine Ans.bf ?_ ?_; exact rfl) | (with_reducible refine Ans.ct ?_ ?_; focus (simp; done)) | (with_reducible refine Ans.cf ?_ ?_; focus (simp; done)) | refine Ans.step (by simp (disch:=(first | omega | (simp <;> omega) | fail)) [ft,e2,y1,y2h,hst,b1,b2,hzz,hz4,Z3L,hp,q1,q3,-List.getD_eq_getElem?_getD] <;> rfl) ?_)
   refine .done ?_
   repeat (first | (with_reducible refine Ans.bt ?_ ?_; exact rfl) | (with_reducible refine Ans.bf ?_ ?_; exact rfl) | (with_reducible refine Ans.ct ?_ ?_; focus (simp; done)) | (with_reducible refine Ans.cf ?_ ?_; focus (simp; done)) | refine Ans.step (by simp (disch:=(first | omega | (simp <;> omega) | fail)) [ft,-List.getD_eq_getElem?_getD] <;> rfl) ?_)
   exact .done ⟨rfl,hS,by simp,by simp⟩
 by_cases q4:(n:Int)<=X
 · have ok:Z0l Gl n t f=false:=by
    have:¬ X<n:=by omega
    rw [okE]; simp [q1,this]
   rw [ok]
   repeat (first | (with_reducible refine Ans.bt ?_ ?_; exact rfl) | (with_reducible refine Ans.bf ?_ ?_; exact rfl) | (with_reducible refine Ans.ct ?_ ?_; focus (simp; done)) | (with_reducible refine Ans.cf ?_ ?_; focus (simp; done)) | refine Ans.step (by simp (disch:=(first | omega | (simp <;> omega) | fail)) [ft,e2,y1,y2h,hst,b1,b2,hzz,hz4,Z3L,hp,q1,q3,q4,-List.getD_eq_getElem?_getD] <;> rfl) ?_)
   refine .done ?_
   repeat (first | (with_reducible refine Ans.bt ?_ ?_; exact rfl) | (with_reducible refine Ans.bf ?_ ?_; exact rfl) | (with_reducible refine Ans.ct ?_ ?_; focus (simp; done)) | (with_reducible refine Ans.cf ?_ ?_; focus (simp; done)) | refine Ans.step (by simp (disch:=(first | omega | (simp <;> omega) | fail)) [ft,-List.getD_eq_getElem?_getD] <;> rfl) ?_)
   exact .done ⟨rfl,hS,by simp,by simp⟩
 cases q5:Z11 Y with
 | false =>
  have ok:Z0l Gl n t f=false:=by rw [okE]; simp [q1,q5]
  rw [ok]
  repeat (first | (with_reducible refine Ans.bt ?_ ?_; exact rfl) | (with_reducible refine Ans.bf ?_ ?_; exact rfl) | (with_reducible refine Ans.ct ?_ ?_; focus (simp; done)) | (with_reducible refine Ans.cf ?_ ?_; focus (simp; done)) | refine Ans.step (by simp (disch:=(first | omega | (simp <;> omega) | fail)) [ft,e2,y1,y2h,hst,b1,b2,hzz,hz4,Z3L,hp,q1,q3,q4,q5,Z1h,-List.getD_eq_getElem?_getD] <;> rfl) ?_)
  refine .done ?_
  repeat (first | (with_reducible refine Ans.bt ?_ ?_; exact rfl) | (with_reducible refine Ans.bf ?_ ?_; exact rfl) | (with_reducible refine Ans.ct ?_ ?_; focus (simp; done)) | (with_reducible refine Ans.cf ?_ ?_; focus (simp; done)) | refine Ans.step (by simp (disch:=(first | omega | (simp <;> omega) | fail)) [ft,-List.getD_eq_getElem?_getD] <;> rfl) ?_)
  exact .done ⟨rfl,hS,by simp,by simp⟩
 | true =>
  have hr:=Z2e q5
  have hpr:0<=Y.getD f 0/\Y.getD f 0<4:=by
   have hlt:f<Y.length:=by omega
   have:=hr _ (List.getElem_mem hlt)
   simpa [List.getD,List.getElem?_eq_getElem hlt] using this
  have c1:∀ H c,callF G 45 [av Y] H c=some (av (inv Y),H,c):=fun H c=>by
   rw [Z8k Y hp,invR,if_pos q5]
  have hil:(inv Y).length=4:=Z3s Y 0 [0,0,0,0]
  by_cases q6:X=t
  · by_cases q7:Y.getD f 0=f
    · have ok:Z0l Gl n t f=false:=by rw [okE]; simp [q1,q6,q7,-List.getD_eq_getElem?_getD]
      rw [ok]
      have q6':=eq_true q6
      have q7':=eq_true q7
      repeat (first | (with_reducible refine Ans.bt ?_ ?_; exact rfl) | (with_reducible refine Ans.bf ?_ ?_; exact rfl) | (with_reducible refine Ans.ct ?_ ?_; focus (simp; done)) | (with_reducible refine Ans.cf ?_ ?_; focus (simp; done)) | refine Ans.step (by simp (disch:=(first | omega | (simp <;> omega) | fail)) [ft,e2,y1,y2h,hst,b1,b2,b3,hzz,hz4,Z3L,hp,q1,q3,q4,q5,Z1h,q6',q7',-List.getD_eq_getElem?_getD] <;> rfl) ?_)
      refine .done ?_
      repeat (first | (with_reducible refine Ans.bt ?_ ?_; exact rfl) | (with_reducible refine Ans.bf ?_ ?_; exact rfl) | (with_reducible refine Ans.ct ?_ ?_; focus (simp; done)) | (with_reducible refine Ans.cf ?_ ?_; focus (simp; done)) | refine Ans.step (by simp (disch:=(first | omega | (simp <;> omega) | fail)) [ft,-List.getD_eq_getElem?_getD] <;> rfl) ?_)
      exact .done ⟨rfl,hS,by simp,by simp⟩
    · have q6':=eq_true q6
      obtain ⟨gb2,go,z1,z2,z3⟩:=hface X (Y.getD f 0) qO qO hpr.1 hpr.2
      have z2h:=z2 H (fun i hi=>hS i hi)
      have hfl:=Z0q (t:=X.toNat) (f:=(Y.getD f 0).toNat) h2.1 qO qO
      have hbl:=Zm6 (t:Int) (inv Y) hil
      have hneq:=Z5j (Z05 Gl X.toNat (Y.getD f 0).toNat) ((t:Int)::inv Y) hfl (by simp [hil])
      by_cases q8:Z05 Gl X.toNat (Y.getD f 0).toNat=(t:Int)::inv Y
      · have ok:Z0l Gl n t f=true:=by
         have a1:0<=X:=by omega
         have a2:X<n:=by omega
         rw [okE,decide_eq_true q8]; simp [a1,a2,q5,q7,-List.getD_eq_getElem?_getD]
        rw [ok]
        rw [decide_eq_true q8] at hneq
        repeat (first | (with_reducible refine Ans.bt ?_ ?_; exact rfl) | (with_reducible refine Ans.bf ?_ ?_; exact rfl) | (with_reducible refine Ans.ct ?_ ?_; focus (simp; done)) | (with_reducible refine Ans.cf ?_ ?_; focus (simp; done)) | refine Ans.step (by simp (disch:=(first | omega | (simp <;> omega) | fail)) [ft,e2,e2',y1,y2h,hst,b1,b2,b3,hzz,hz4,Z3L,hp,q1,q3,q4,q5,Z1h,q6',q7,c1,z1,z2h,hbl,hneq,hq,hpr,-List.getD_eq_getElem?_getD] <;> rfl) ?_)
        refine .done ?_
        repeat (first | (with_reducible refine Ans.bt ?_ ?_; exact rfl) | (with_reducible refine Ans.bf ?_ ?_; exact rfl) | (with_reducible refine Ans.ct ?_ ?_; focus (simp; done)) | (with_reducible refine Ans.cf ?_ ?_; focus (simp; done)) | refine Ans.step (by simp (disch:=(first | omega | (simp <;> omega) | fail)) [ft,-List.getD_eq_getElem?_getD] <;> rfl) ?_)
        exact .done ⟨rfl,hS,by simp,by simp⟩
      · have ok:Z0l Gl n t f=false:=by rw [okE,decide_eq_false q8]; simp [q1]
        rw [ok]
        rw [decide_eq_false q8] at hneq
        repeat (first | (with_reducible refine Ans.bt ?_ ?_; exact rfl) | (with_reducible refine Ans.bf ?_ ?_; exact rfl) | (with_reducible refine Ans.ct ?_ ?_; focus (simp; done)) | (with_reducible refine Ans.cf ?_ ?_; focus (simp; done)) | refine Ans.step (by simp (disch:=(first | omega | (simp <;> omega) | fail)) [ft,e2,e2',y1,y2h,hst,b1,b2,b3,hzz,hz4,Z3L,hp,q1,q3,q4,q5,Z1h,q6',q7,c1,z1,z2h,hbl,hneq,hq,hpr,-List.getD_eq_getElem?_getD] <;> rfl) ?_)
        refine .done ?_
        repeat (first | (with_reducible refine Ans.bt ?_ ?_; exact rfl) | (with_reducible refine Ans.bf ?_ ?_; exact rfl) | (with_reducible refine Ans.ct ?_ ?_; focus (simp; done)) | (with_reducible refine Ans.cf ?_ ?_; focus (simp; done)) | refine Ans.step (by simp (disch:=(first | omega | (simp <;> omega) | fail)) [ft,-List.getD_eq_getElem?_getD] <;> rfl) ?_)
        exact .done ⟨rfl,hS,by simp,by simp⟩
  · obtain ⟨gb2,go,z1,z2,z3⟩:=hface X (Y.getD f 0) qO qO hpr.1 hpr.2
    have z2h:=z2 H (fun i hi=>hS i hi)
    have hfl:=Z0q (t:=X.toNat) (f:=(Y.getD f 0).toNat) h2.1 qO qO
    have hbl:=Zm6 (t:Int) (inv Y) hil
    have hneq:=Z5j (Z05 Gl X.toNat (Y.getD f 0).toNat) ((t:Int)::inv Y) hfl (by simp [hil])
    by_cases q8:Z05 Gl X.toNat (Y.getD f 0).toNat=(t:Int)::inv Y
    · have ok:Z0l Gl n t f=true:=by
       have a1:0<=X:=by omega
       have a2:X<n:=by omega
       rw [okE,decide_eq_true q8]; simp [a1,a2,q5,q6]
      rw [ok]
      rw [decide_eq_true q8] at hneq
      repeat (first | (with_reducible refine Ans.bt ?_ ?_; exact rfl) | (with_reducible refine Ans.bf ?_ ?_; exact rfl) | (with_reducible refine Ans.ct ?_ ?_; focus (simp; done)) | (with_reducible refine Ans.cf ?_ ?_; focus (simp; done)) | refine Ans.step (by simp (disch:=(first | omega | (simp <;> omega) | fail)) [ft,e2,e2',y1,y2h,hst,b1,b2,b3,hzz,hz4,Z3L,hp,q1,q3,q4,q5,Z1h,q6,c1,z1,z2h,hbl,hneq,hq,hpr,-List.getD_eq_getElem?_getD] <;> rfl) ?_)
      refine .done ?_
      repeat (first | (with_reducible refine Ans.bt ?_ ?_; exact rfl) | (with_reducible refine Ans.bf ?_ ?_; exact rfl) | (with_reducible refine Ans.ct ?_ ?_; focus (simp; done)) | (with_reducible refine Ans.cf ?_ ?_; focus (simp; done)) | refine Ans.step (by simp (disch:=(first | omega | (simp <;> omega) | fail)) [ft,-List.getD_eq_getElem?_getD] <;> rfl) ?_)
      exact .done ⟨rfl,hS,by simp,by simp⟩
    · have ok:Z0l Gl n t f=false:=by rw [okE,decide_eq_false q8]; simp [q1]
      rw [ok]
      rw [decide_eq_false q8] at hneq
      repeat (first | (with_reducible refine Ans.bt ?_ ?_; exact rfl) | (with_reducible refine Ans.bf ?_ ?_; exact rfl) | (with_reducible refine Ans.ct ?_ ?_; focus (simp; done)) | (with_reducible refine Ans.cf ?_ ?_; focus (simp; done)) | refine Ans.step (by simp (disch:=(first | omega | (simp <;> omega) | fail)) [ft,e2,e2',y1,y2h,hst,b1,b2,b3,hzz,hz4,Z3L,hp,q1,q3,q4,q5,Z1h,q6,c1,z1,z2h,hbl,hneq,hq,hpr,-List.getD_eq_getElem?_getD] <;> rfl) ?_)
      refine .done ?_
      repeat (first | (with_reducible refine Ans.bt ?_ ?_; exact rfl) | (with_reducible refine Ans.bf ?_ ?_; exact rfl) | (with_reducible refine Ans.ct ?_ ?_; focus (simp; done)) | (with_reducible refine Ans.cf ?_ ?_; focus (simp; done)) | refine Ans.step (by simp (disch:=(first | omega | (simp <;> omega) | fail)) [ft,-List.getD_eq_getElem?_getD] <;> rfl) ?_)
      exact .done ⟨rfl,hS,by simp,by simp⟩

theorem Zhb (s:Value) (n:Nat) (Gl:List Int) (gb c:Nat) (h:FH) (t:Nat) (ht:t<n) (hgb:gb<256*c)
 (h1:Z0i h gb [s]) (h2:SlI h c s 20 n Gl) (df:List Nat):∀ (k f:Nat),f+k=4 →
 ((∀ j,f<=j->j<4->Z0l Gl n t j=true)/\G (Z3i none) [ptrTo gb,.int .i64 0,.int .i64 n,.int .i64 t,.int .i64 f] h c df=some ⟨.exit 2,[ptrTo gb,.int .i64 0,.int .i64 n,.int .i64 t,.int .i64 4],h,c,df⟩) ∨
 ((∃ j,f<=j/\j<4/\Z0l Gl n t j=false) /\ ∃ f':Nat,G (Z3i none) [ptrTo gb,.int .i64 0,.int .i64 n,.int .i64 t,.int .i64 f] h c df=some ⟨.ret,[ptrTo gb,.int .i64 7,.int .i64 n,.int .i64 t,.int .i64 f'],h,c,df⟩):=by
 intro k
 induction k with
 | zero =>
  intro f hf
  obtain rfl:f=4:=by omega
  refine .inl ⟨fun j h1 h2=>by omega, ?_⟩
  refine (Z97 (q:=⟨.exit 2,[ptrTo gb,.int .i64 0,.int .i64 n,.int .i64 t,.int .i64 4],h,c+1,df⟩) (by unfold Z1K; simp) (by simp)).trans ?_
  rw [Z1l (by simp [hgb])]
 | succ k ih =>
  intro f hf
  obtain ⟨⟨re,rv,rh,rc,rd⟩,hr,r1,r2,r3,r4⟩:=Zc5 s n Gl gb c h t f ht qO hgb h1 h2 (.int .i64 0) df
  simp only at r1 r2 r3 r4
  subst r1
  cases ok:Z0l Gl n t f with
  | true =>
   rw [ok] at r3 r4
   simp only [if_true] at r3 r4
   subst r3 r4
   have hg:gcR h c rd ⟨.normal,[ptrTo gb,.int .i64 0,.int .i64 n,.int .i64 t,.int .i64 (f+1:Nat)],rh,rc,rd⟩=_:=Z5k (by simp [hgb]) r2
   rcases ih (f+1) qO with ⟨a,b⟩ | ⟨⟨j,j1,j2,j3⟩,f',b⟩
   · refine .inl ⟨fun j h1 h2=>?_,Z99 hr rfl (by rw [hg]; exact b)⟩
     by_cases hj:j=f
     · rw [hj]; exact ok
     · exact a j qO h2
   · exact .inr ⟨⟨j,by omega,j2,j3⟩,f',Z99 hr rfl (by rw [hg]; exact b)⟩
  | false =>
   rw [ok] at r3 r4
   simp only [Bool.false_eq_true,if_false] at r3 r4
   subst r3 r4
   refine .inr ⟨⟨f,Nat.le_refl _,by omega,ok⟩,f,(Z97 hr (by simp)).trans ?_⟩
   rw [Z5k (by simp [hgb]) r2]
theorem SlI.up {h:FH} {c c':Nat} {s:Value} {sz n:Nat} {Gl:List Int} (hs:SlI h c s sz n Gl) (hc:c<=c'):SlI h c' s sz n Gl:=hs.mono hc
theorem Zf0 (s:Value) (n:Nat) (Gl:List Int) (gb c:Nat) (h:FH) (hgb:gb<256*c)
 (h1:Z0i h gb [s]) (h2:SlI h c s 20 n Gl) (hn:n<=1000) (df:List Nat):∀ (k t:Nat),t+k=n →
 ((∀ u j,t<=u->u<n->j<4->Z0l Gl n u j=true)/\G (Z3j none) [ptrTo gb,.int .i64 0,.int .i64 n,.int .i64 t] h c df=some ⟨.exit 0,[ptrTo gb,.int .i64 0,.int .i64 n,.int .i64 n],h,c,df⟩) ∨
 ((∃ u j,t<=u/\u<n/\j<4/\Z0l Gl n u j=false) /\ ∃ t':Nat,G (Z3j none) [ptrTo gb,.int .i64 0,.int .i64 n,.int .i64 t] h c df=some ⟨.ret,[ptrTo gb,.int .i64 7,.int .i64 n,.int .i64 t'],h,c,df⟩):=by
 intro k
 induction k with
 | zero =>
  intro t ht
  obtain rfl:t=n:=by omega
  refine .inl ⟨fun u j h1 h2=>by omega, ?_⟩
  refine (Z98 (q:=⟨.exit 0,[ptrTo gb,.int .i64 0,.int .i64 t,.int .i64 t],h,c+1,df⟩) (by unfold Z19; simp) (by simp)).trans ?_
  rw [Z1l (by simp [hgb])]
 | succ k ih =>
  intro t ht
  have e0:(t:Int)<n:=by omega
  have hin:=Zhb s n Gl gb (c+1+1) h t qO qO h1 (h2.mono qO) df 4 0 rfl
  simp only [Int.ofNat_eq_natCast,Int.cast_ofNat_Int] at hin
  rcases hin with ⟨a,b⟩ | ⟨⟨j,j1,j2,j3⟩,f',b⟩
  · have step:Z19 G none (ptrTo gb) (.int .i64 0) (.int .i64 n) (.int .i64 t) h c df=some ⟨.normal,[ptrTo gb,.int .i64 0,.int .i64 n,.int .i64 (t+1:Nat)],h,c+1+1+1,df⟩:=by
     apply Ans.eq
     unfold Z19
     repeat (first | (with_reducible refine Ans.bt ?_ ?_; exact rfl) | (with_reducible refine Ans.bf ?_ ?_; exact rfl) | (with_reducible refine Ans.ct ?_ ?_; focus (simp; done)) | (with_reducible refine Ans.cf ?_ ?_; focus (simp; done)) | refine Ans.step (by simp (disch:=(first | omega | (simp <;> omega) | fail)) [e0,b,-List.getD_eq_getElem?_getD] <;> rfl) ?_)
     exact .done rfl
    have hg:gcR h c df ⟨.normal,[ptrTo gb,.int .i64 0,.int .i64 n,.int .i64 (t+1:Nat)],h,c+1+1+1,df⟩=_:=Z1l (by simp [hgb])
    rcases ih (t+1) qO with ⟨a2,b2⟩ | ⟨⟨u,j,u1,u2,u3,u4⟩,t',b2⟩
    · refine .inl ⟨fun u j h1 h2 h3=>?_,Z9a step rfl (by rw [hg]; exact b2)⟩
      by_cases hu:u=t
      · rw [hu]; exact a j (Nat.zero_le _) h3
      · exact a2 u j qO h2 h3
    · exact .inr ⟨⟨u,j,by omega,u2,u3,u4⟩,t',Z9a step rfl (by rw [hg]; exact b2)⟩
  · refine .inr ⟨⟨t,j,Nat.le_refl _,by omega,j2,j3⟩,t, ?_⟩
    have step:Z19 G none (ptrTo gb) (.int .i64 0) (.int .i64 n) (.int .i64 t) h c df=some ⟨.ret,[ptrTo gb,.int .i64 7,.int .i64 n,.int .i64 t],h,c+1+1,df⟩:=by
     apply Ans.eq
     unfold Z19
     repeat (first | (with_reducible refine Ans.bt ?_ ?_; exact rfl) | (with_reducible refine Ans.bf ?_ ?_; exact rfl) | (with_reducible refine Ans.ct ?_ ?_; focus (simp; done)) | (with_reducible refine Ans.cf ?_ ?_; focus (simp; done)) | refine Ans.step (by simp (disch:=(first | omega | (simp <;> omega) | fail)) [e0,b,-List.getD_eq_getElem?_getD] <;> rfl) ?_)
     exact .done rfl
    refine (Z98 step (by simp)).trans ?_
    rw [Z1l (by simp [hgb])]
theorem Zha (s:Value) (n:Nat) (Gl:List Int) (h:FH) (c:Nat) (df:List Nat) (hs:SlI h c s 20 n Gl) :
 G (.fn 14) [.agg #[s]] h c df=some ⟨.ret,[.int .i64 (if n<=1000/\Z15 Gl n=true then 0 else 7)],h,c,[]⟩:=by
 refine Z5G (fun r e=>f14_go e) (by simp) ?_
 have hflat:((Value.agg #[s]).cells.toList.all Z09)=true:=by
  obtain ⟨_,_,a,cap,rfl,_⟩:=hs
  rfl
 have hcell:(Value.agg #[s]).cells.toList=[s]:=rfl
 have hlen:=hs.len
 unfold ZgR
 rw [hflat,hcell]
 simp only [cond_true]
 by_cases hn:n<=1000
 · have hn':¬ (1000:Int)<n:=by omega
   have hsl:SlI (newB h (256*c) [s]) (c+1+1+1+1) s 20 n Gl:=(hs.same ((Same_newB qO).2 (Z0p.refl _ _))).mono qO
   have ho:=Zf0 s n Gl (256*c) (c+1+1+1+1) (newB h (256*c) [s]) qO (Z0i.newB_same _ _ _) hsl hn [] n 0 qO
   simp only [Int.ofNat_eq_natCast,Int.cast_ofNat_Int] at ho
   rcases ho with ⟨a,b⟩ | ⟨⟨u,j,u1,u2,u3,u4⟩,t',b⟩
   · have ok:Z15 Gl n=true:=by
      rw [Z56]
      intro j hj
      exact a (j / 4) (j % 4) (Nat.zero_le _) qO qO
     rw [if_pos ⟨hn,ok⟩]
     repeat (first | (with_reducible refine Ans.bt ?_ ?_; exact rfl) | (with_reducible refine Ans.bf ?_ ?_; exact rfl) | (with_reducible refine Ans.ct ?_ ?_; focus (simp; done)) | (with_reducible refine Ans.cf ?_ ?_; focus (simp; done)) | refine Ans.step (by simp (disch:=(first | omega | (simp <;> omega) | fail)) [hlen,hn',b,-List.getD_eq_getElem?_getD] <;> rfl) ?_)
     refine .done ⟨rfl,rfl, ?_,rfl⟩
     simp (disch:=omega)
   · have ok:¬ (n<=1000/\Z15 Gl n=true):=by
      rintro ⟨_,ok⟩
      rw [Z56] at ok
      have:=ok (4*u+j) qO
      have e1:(4*u+j) / 4=u:=by omega
      have e2:(4*u+j) % 4=j:=by omega
      rw [e1,e2,u4] at this
      cases this
     rw [if_neg ok]
     repeat (first | (with_reducible refine Ans.bt ?_ ?_; exact rfl) | (with_reducible refine Ans.bf ?_ ?_; exact rfl) | (with_reducible refine Ans.ct ?_ ?_; focus (simp; done)) | (with_reducible refine Ans.cf ?_ ?_; focus (simp; done)) | refine Ans.step (by simp (disch:=(first | omega | (simp <;> omega) | fail)) [hlen,hn',b,-List.getD_eq_getElem?_getD] <;> rfl) ?_)
     refine .done ⟨rfl,rfl, ?_,rfl⟩
     simp (disch:=omega)
 · have hn':(1000:Int)<n:=by omega
   rw [if_neg (fun h=>hn h.1)]
   repeat (first | (with_reducible refine Ans.bt ?_ ?_; exact rfl) | (with_reducible refine Ans.bf ?_ ?_; exact rfl) | (with_reducible refine Ans.ct ?_ ?_; focus (simp; done)) | (with_reducible refine Ans.cf ?_ ?_; focus (simp; done)) | refine Ans.step (by simp (disch:=(first | omega | (simp <;> omega) | fail)) [hlen,hn',-List.getD_eq_getElem?_getD] <;> rfl) ?_)
   refine .done ⟨rfl,rfl, ?_,rfl⟩
   simp (disch:=omega)
end Go.Proofs.Ytdodippbpdechaa

namespace Go.Ab
open Go
inductive Tri where
 | leaf
 | node (b:Option ABlk) (l r:Tri)
def Tri.get:Tri->Nat->Option ABlk
 | .leaf,_=>none
 | .node b l r,i=>cond (Nat.beq i 0) b (cond (Nat.beq (i % 2) 1) (l.get (i / 2)) (r.get (i / 2-1)))
def Tri.upd:Nat->Tri->Nat->Option ABlk->Tri
 | 0,t,_,o=>match t with
  | .leaf=>.node o .leaf .leaf
  | .node _ l r=>.node o l r
 | n+1,t,i,o=>match t with
  | .leaf=>cond (Nat.beq i 0) (.node o .leaf .leaf) (cond (Nat.beq (i % 2) 1) (.node none (Tri.upd n .leaf (i / 2) o) .leaf) (.node none .leaf (Tri.upd n .leaf (i / 2-1) o)))
  | .node b l r=>cond (Nat.beq i 0) (.node o l r) (cond (Nat.beq (i % 2) 1) (.node b (Tri.upd n l (i / 2) o) r) (.node b l (Tri.upd n r (i / 2-1) o)))
theorem Tri.get_upd:∀ (n:Nat) (t:Tri) (i:Nat) (o:Option ABlk) (j:Nat),i<=n->(Tri.upd n t i o).get j=if j=i then o else t.get j:=by
 have key:∀ (b:Option ABlk) (l r:Tri) (i:Nat),(Tri.node b l r).get i=if i=0 then b else if i % 2=1 then l.get (i / 2) else r.get (i / 2-1):=by
  intro b l r i
  simp only [Tri.get]
  by_cases h0:i=0
  · subst h0; rfl
  · have:Nat.beq i 0=false:=by rw [Bool.eq_false_iff]; intro h; exact h0 (Nat.eq_of_beq_eq_true h)
    rw [this]
    simp only [h0,if_false,cond_false]
    by_cases h1:i % 2=1
    · simp [h1]
    · have:Nat.beq (i % 2) 1=false:=by rw [Bool.eq_false_iff]; intro h; exact h1 (Nat.eq_of_beq_eq_true h)
      simp [h1,this]
 have leafg:∀ j,Tri.leaf.get j=none:=fun _=>rfl
 intro n
 induction n with
 | zero =>
  intro t i o j hi
  have:i=0:=by omega
  subst this
  cases t with
  | leaf =>
   simp only [Tri.upd,key,leafg]
   split <;> simp
  | node b l r =>
   simp only [Tri.upd,key]
   by_cases h:j=0 <;> simp [h]
 | succ n ih =>
  intro t i o j hi
  by_cases h0:i=0
  · subst h0
    cases t with
    | leaf =>
     simp only [Tri.upd,Nat.beq_refl,cond_true,key,leafg]
     split <;> simp
    | node b l r =>
     simp only [Tri.upd,Nat.beq_refl,cond_true,key]
     by_cases h:j=0 <;> simp [h]
  · have hb0:Nat.beq i 0=false:=by rw [Bool.eq_false_iff]; intro h; exact h0 (Nat.eq_of_beq_eq_true h)
    by_cases h1:i % 2=1
    · have hb1:Nat.beq (i % 2) 1=true:=by rw [h1]; rfl
      cases t with
      | leaf =>
       simp only [Tri.upd,hb0,hb1,cond_true,cond_false,key,leafg]
       by_cases hj:j=0
       · subst hj; simp [Ne.symm h0]
       · simp only [hj,if_false]
         by_cases hj1:j % 2=1
         · simp only [hj1,if_true]
           rw [ih _ _ _ _ qO,leafg]
           by_cases e:j=i
           · simp [e]
           · rw [if_neg e,if_neg qO]
         · rw [if_neg hj1,if_neg qO]
      | node b l r =>
       simp only [Tri.upd,hb0,hb1,cond_true,cond_false,key]
       by_cases hj:j=0
       · subst hj; simp [Ne.symm h0]
       · simp only [hj,if_false]
         by_cases hj1:j % 2=1
         · simp only [hj1,if_true]
           rw [ih _ _ _ _ qO]
           by_cases e:j=i
           · simp [e]
           · rw [if_neg e,if_neg qO]
         · rw [if_neg hj1,if_neg (show ¬ j=i by omega),if_neg hj1]
    · have hb1:Nat.beq (i % 2) 1=false:=by rw [Bool.eq_false_iff]; intro h; exact h1 (Nat.eq_of_beq_eq_true h)
      cases t with
      | leaf =>
       simp only [Tri.upd,hb0,hb1,cond_true,cond_false,key,leafg]
       by_cases hj:j=0
       · subst hj; simp [Ne.symm h0]
       · simp only [hj,if_false]
         by_cases hj1:j % 2=1
         · rw [if_pos hj1,if_neg qO]
         · rw [if_neg hj1,ih _ _ _ _ qO,leafg]
           by_cases e:j=i
           · simp [e]
           · rw [if_neg e,if_neg qO]
      | node b l r =>
       simp only [Tri.upd,hb0,hb1,cond_true,cond_false,key]
       by_cases hj:j=0
       · subst hj; simp [Ne.symm h0]
       · simp only [hj,if_false]
         by_cases hj1:j % 2=1
         · rw [if_pos hj1,if_neg (show ¬ j=i by omega),if_pos hj1]
         · rw [if_neg hj1,ih _ _ _ _ qO]
           by_cases e:j=i
           · simp [e]
           · rw [if_neg e,if_neg qO,if_neg hj1]
def Ze5:Option Addr->Option Addr->Bool
 | none,none=>true
 | some ⟨a,b,none⟩,some ⟨c,d,none⟩=>Nat.beq a c && Nat.beq b d
 | _,_=>false
def ZkI:Value->Value->Bool
 | .bool a,.bool b=>a == b
 | .int k n,.int k' n'=>decide (k=k') && n == n'
 | .pointer a,.pointer b=>Ze5 a b
 | .slice a l c,.slice b l' c'=>Ze5 a b && Nat.beq l l' && Nat.beq c c'
 | .map (some a),.map (some b)=>Nat.beq a b
 | .map none,.map none=>true
 | .nilFunc,.nilFunc=>true
 | .nilIface,.nilIface=>true
 | _,_=>false
def Zcg:List Value->List Value->Bool
 | [],[]=>true
 | x::xs,y::ys=>ZkI x y && Zcg xs ys
 | _,_=>false
def Z9C:Option Nat->Option Nat->Bool
 | none,none=>true
 | some a,some b=>Nat.beq a b
 | _,_=>false
def ZjZ:Option ABlk->Option ABlk->Bool
 | none,none=>true
 | some (.cells ro o c),some (.cells ro' o' c')=>ro == ro' && Z9C o o' && Zcg c c'
 | some .dead,some .dead=>true
 | some .dfr,some .dfr=>true
 | _,_=>false
theorem ZaV {a b:Option Addr} (h:Ze5 a b=true):a=b:=by
 unfold Ze5 at h
 split at h
 · rfl
 · simp only [Bool.and_eq_true] at h
   rw [Nat.eq_of_beq_eq_true h.1,Nat.eq_of_beq_eq_true h.2]
 · cases h
theorem Zhv {a b:Value} (h:ZkI a b=true):a=b:=by
 unfold ZkI at h
 split at h
 · simp at h; rw [h]
 · simp at h; rw [h.1,h.2]
 · rw [ZaV h]
 · simp only [Bool.and_eq_true] at h
   rw [ZaV h.1.1,Nat.eq_of_beq_eq_true h.1.2,Nat.eq_of_beq_eq_true h.2]
 · rw [Nat.eq_of_beq_eq_true h]
 · rfl
 · rfl
 · rfl
 · cases h
theorem Zao:∀ {a b:List Value},Zcg a b=true->a=b
 | [],[],_=>rfl
 | x::xs,y::ys,h=>by
  simp only [Zcg,Bool.and_eq_true] at h
  rw [Zhv h.1,Zao h.2]
 | [],y::ys,h=>by cases h
 | x::xs,[],h=>by cases h
theorem Zbj {a b:Option Nat} (h:Z9C a b=true):a=b:=by
 unfold Z9C at h
 split at h
 · rfl
 · rw [Nat.eq_of_beq_eq_true h]
 · cases h
theorem Ze4 (a b:Option ABlk) (h:ZjZ a b=true):a=b:=by
 unfold ZjZ at h
 split at h
 · rfl
 · simp only [Bool.and_eq_true] at h
   have h1:=h.1.1
   rw [Zbj h.1.2,Zao h.2]
   simp at h1
   rw [h1]
 · rfl
 · rfl
 · cases h
instance:HeapC Tri where
 get h i:=h.get i
 set h i b:=Tri.upd i h i (some b)
 del h i:=Tri.upd i h i none
 eqB:=ZjZ
 eqB_eq:=Ze4
 get_set h i b j:=Tri.get_upd i h i (some b) j (Nat.le_refl _)
 get_del h i j:=Tri.get_upd i h i none j (Nat.le_refl _)
end Go.Ab

namespace Go.Ab
open Go
noncomputable def Zhx (t:Tri):Nat->Option ABlk :=
 Tri.rec (motive:=fun _=>Nat->Option ABlk) (fun _=>none)
  (fun b _ _ l r i=>cond (Nat.beq i 0) b (cond (Nat.beq (Nat.mod i 2) 1) (l (Nat.div i 2)) (r (Nat.sub (Nat.div i 2) 1)))) t
theorem Z9r:∀ (t:Tri) (i:Nat),Zhx t i=t.get i
 | .leaf,i=>rfl
 | .node b l r,i=>by
  show cond (Nat.beq i 0) b (cond (Nat.beq (Nat.mod i 2) 1) (Zhx l (Nat.div i 2)) (Zhx r (Nat.sub (Nat.div i 2) 1)))=_
  rw [Z9r l,Z9r r]
  rfl
noncomputable def Zkb (o:Option ABlk) (n:Nat):Tri->Nat->Tri :=
 Nat.rec (motive:=fun _=>Tri->Nat->Tri)
  (fun t _=>Tri.rec (motive:=fun _=>Tri) (.node o .leaf .leaf) (fun _ l r _ _=>.node o l r) t)
  (fun _ ih t i=>Tri.rec (motive:=fun _=>Tri)
   (cond (Nat.beq i 0) (.node o .leaf .leaf) (cond (Nat.beq (Nat.mod i 2) 1) (.node none (ih .leaf (Nat.div i 2)) .leaf) (.node none .leaf (ih .leaf (Nat.sub (Nat.div i 2) 1)))))
   (fun b l r _ _=>cond (Nat.beq i 0) (.node o l r) (cond (Nat.beq (Nat.mod i 2) 1) (.node b (ih l (Nat.div i 2)) r) (.node b l (ih r (Nat.sub (Nat.div i 2) 1))))) t) n
theorem Z78 (o:Option ABlk):∀ (n:Nat) (t:Tri) (i:Nat),Zkb o n t i=Tri.upd n t i o
 | 0,.leaf,i=>rfl
 | 0,.node b l r,i=>rfl
 | n+1,.leaf,i=>by
  show (cond (Nat.beq i 0) (Tri.node o .leaf .leaf) (cond (Nat.beq (Nat.mod i 2) 1) (Tri.node none (Zkb o n .leaf (Nat.div i 2)) .leaf) (Tri.node none .leaf (Zkb o n .leaf (Nat.sub (Nat.div i 2) 1)))))=_
  rw [Z78 o n,Z78 o n]; rfl
 | n+1,.node b l r,i=>by
  show (cond (Nat.beq i 0) (Tri.node o l r) (cond (Nat.beq (Nat.mod i 2) 1) (Tri.node b (Zkb o n l (Nat.div i 2)) r) (Tri.node b l (Zkb o n r (Nat.sub (Nat.div i 2) 1)))))=_
  rw [Z78 o n,Z78 o n]; rfl
theorem Zfi (t:Tri) (i:Nat) (o:Option ABlk) (j:Nat):Zhx (Zkb o i t i) j=if j=i then o else Zhx t j:=by
 rw [Z9r,Z9r,Z78]
 exact Tri.get_upd i t i o j (Nat.le_refl _)
abbrev RC:=List (Nat × Option ABlk)
noncomputable def Z8e (i:Nat) (rc:RC):Option (Option ABlk) :=
 List.rec (motive:=fun _=>Option (Option ABlk)) none (fun x _ ih=>cond (Nat.beq i x.1) (some x.2) ih) rc
noncomputable def ZfB (i:Nat) (o:Option ABlk) (rc:RC):RC :=
 List.rec (motive:=fun _=>RC) [] (fun x xs ih=>cond (Nat.beq i x.1) ((x.1,o)::xs) (x::ih)) rc
noncomputable def Zgk (rc:RC) (t:Tri):Tri :=
 List.rec (motive:=fun _=>Tri) t (fun x _ ih=>Zkb x.2 x.1 ih x.1) rc
theorem Z1F (i:Nat) (x:Nat × Option ABlk) (xs:RC):Z8e i (x::xs)=if i=x.1 then some x.2 else Z8e i xs:=by
 show cond (Nat.beq i x.1) (some x.2) (Z8e i xs)=_
 cases h:Nat.beq i x.1 with
 | true=>rw [if_pos (Nat.eq_of_beq_eq_true h)]; rfl
 | false=>rw [if_neg (fun e=>by rw [e,Nat.beq_refl] at h; cases h)]; rfl
theorem Zeh (i:Nat) (o:Option ABlk) (x:Nat × Option ABlk) (xs:RC):ZfB i o (x::xs)=if i=x.1 then (x.1,o)::xs else x::ZfB i o xs:=by
 show cond (Nat.beq i x.1) ((x.1,o)::xs) (x::ZfB i o xs)=_
 cases h:Nat.beq i x.1 with
 | true=>rw [if_pos (Nat.eq_of_beq_eq_true h)]; rfl
 | false=>rw [if_neg (fun e=>by rw [e,Nat.beq_refl] at h; cases h)]; rfl
theorem Z7L (i:Nat) (o:Option ABlk) (j:Nat):∀ (rc:RC),Z8e i rc ≠ none->Z8e j (ZfB i o rc)=if j=i then some o else Z8e j rc
 | [],h=>absurd rfl h
 | x::xs,h=>by
  rw [Z1F] at h
  rw [Zeh]
  by_cases e:i=x.1
  · rw [if_pos e,Z1F,Z1F]
    by_cases e2:j=x.1
    · rw [if_pos e2,if_pos (e2.trans e.symm)]
    · rw [if_neg e2,if_neg (fun h=>e2 (h.trans e)),if_neg e2]
  · rw [if_neg e] at h ⊢
    rw [Z1F,Z1F,Z7L i o j xs h]
    by_cases e2:j=x.1
    · rw [if_pos e2,if_pos e2,if_neg (fun h=>e (h.symm.trans e2))]
    · rw [if_neg e2,if_neg e2]
theorem Z8D (j:Nat) (t:Tri):∀ (rc:RC),Zhx (Zgk rc t) j=(match Z8e j rc with | some o=>o | none=>Zhx t j)
 | []=>rfl
 | x::xs=>by
  show Zhx (Zkb x.2 x.1 (Zgk xs t) x.1) j=_
  rw [Zfi,Z1F]
  by_cases e:j=x.1
  · rw [if_pos e,if_pos e]
  · rw [if_neg e,if_neg e,Z8D j t xs]
structure TH where
 rc:RC
 n:Nat
 old:Tri
noncomputable def TH.put (h:TH) (i:Nat) (o:Option ABlk):TH :=
 match Z8e i h.rc with
 | some _=>{ rc:=ZfB i o h.rc,n:=h.n,old:=h.old }
 | none=>cond (Nat.blt h.n 24) { rc:=(i,o)::h.rc,n:=Nat.add h.n 1,old:=h.old } { rc:=[(i,o)],n:=1,old:=Zgk h.rc h.old }
noncomputable def TH.look (h:TH) (i:Nat):Option ABlk :=
 match Z8e i h.rc with
 | some o=>o
 | none=>Zhx h.old i
theorem TH.look_put (h:TH) (i:Nat) (o:Option ABlk) (j:Nat):(h.put i o).look j=if j=i then o else h.look j:=by
 unfold TH.put TH.look
 cases e:Z8e i h.rc with
 | some x =>
  dsimp only
  rw [Z7L i o j h.rc (by rw [e]; simp)]
  by_cases e2:j=i
  · rw [if_pos e2,if_pos e2]
  · rw [if_neg e2,if_neg e2]
 | none =>
  dsimp only
  cases Nat.blt h.n 24 with
  | true =>
   dsimp only [cond_true]
   rw [Z1F]
   by_cases e2:j=i
   · rw [if_pos e2,if_pos e2]
   · rw [if_neg e2,if_neg e2]
  | false =>
   dsimp only [cond_false]
   rw [Z1F]
   by_cases e2:j=i
   · rw [if_pos e2,if_pos e2]
   · rw [if_neg e2,if_neg e2]
     exact Z8D j h.old h.rc
noncomputable instance:HeapC TH where
 get h i:=h.look i
 set h i b:=h.put i (some b)
 del h i:=h.put i none
 eqB:=ZjZ
 eqB_eq:=Ze4
 get_set h i b j:=TH.look_put h i (some b) j
 get_del h i j:=TH.look_put h i none j
noncomputable def TH.empty:TH:={ rc:=[],n:=0,old:=.leaf }
theorem TH.inv_empty (h:TH) (e:h=TH.empty) (i:Nat):HeapC.get h i=none:=by subst e; rfl
end Go.Ab
