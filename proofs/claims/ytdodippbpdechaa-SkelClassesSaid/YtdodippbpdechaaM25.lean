/- Parts of a proof: R4 R5 AbRow2 AbRow3 AbApp2 AbRow4 AbRow5 RowK. Conditions: none. -/
import Derived.Test.YtdodippbpdechaaM24
import Derived.Test.YtdodippbpdechaaM14
import Derived.Test.YtdodippbpdechaaM7
import Derived.Test.YtdodippbpdechaaM23
import Derived.Test.YtdodippbpdechaaRows
import Derived.ProofKit
set_option linter.all false
set_option maxRecDepth 100000
set_option maxHeartbeats 4000000
namespace Go.Proofs.Ytdodippbpdechaa
open Go Go.Ab Go.Proofs
theorem ne4 (a0 a1 a2 a3 b0 b1 b2 b3:Int):Z0O P .neq 41 (av [a0,a1,a2,a3]) (av [b0,b1,b2,b3]) =
 (cond (a0 == b0) (cond (a1 == b1) (cond (a2 == b2) (cond (a3 == b3) (some true) (some false)) (some false)) (some false)) (some false)).bind fun b=>some (.bool (!b)):=by kernel_rfl
theorem ne_4 (x:List Int) (hx:x.length=4):Z00 P .neq 41 (av x) (av x)=some (.bool false):=by
 match x,hx with
 | [a0,a1,a2,a3],_ =>
  rw [Z0A,ne4];simp
theorem ne6 (a0 a1 a2 a3 a4 a5 b0 b1 b2 b3 b4 b5:Int):Z0O P .neq 64 (av [a0,a1,a2,a3,a4,a5]) (av [b0,b1,b2,b3,b4,b5]) =
 (cond (a0 == b0) (cond (a1 == b1) (cond (a2 == b2) (cond (a3 == b3) (cond (a4 == b4) (cond (a5 == b5) (some true) (some false)) (some false)) (some false)) (some false)) (some false)) (some false)).bind fun b=>some (.bool (!b)):=by kernel_rfl
theorem ne_6 (x:List Int) (hx:x.length=6):Z00 P .neq 64 (av x) (av x)=some (.bool false):=by
 match x,hx with
 | [a0,a1,a2,a3,a4,a5],_ =>
  rw [Z0A,ne6];simp
theorem neL (a0 a1 a2 a3 b0 b1 b2 b3:Int) (a4 a5 b4 b5:Bool):Z0O P .neq 40 (.agg (List.toArray [.int .i64 a0,.int .i64 a1,.int .i64 a2,.int .i64 a3,.bool a4,.bool a5])) (.agg (List.toArray [.int .i64 b0,.int .i64 b1,.int .i64 b2,.int .i64 b3,.bool b4,.bool b5])) =
 (cond (a0 == b0) (cond (a1 == b1) (cond (a2 == b2) (cond (a3 == b3) (cond (a4 == b4) (cond (a5 == b5) (some true) (some false)) (some false)) (some false)) (some false)) (some false)) (some false)).bind fun b=>some (.bool (!b)):=by kernel_rfl
theorem ne_L (n:Nat) (Gl V D:List Int) (k:Nat):Z00 P .neq 40 (.agg (lkD n Gl V D k).toArray) (.agg (lkD n Gl V D k).toArray)=some (.bool false):=by
 unfold lkD Zdf;rw [Z0A,neL];simp
structure RdS (h:FH) (c sz:Nat) (f:FH->Value->Option Value) (K:Nat) (v:Value) (X:Nat->Value):Prop where
 len:Z1q v=some (.int .i64 K)
 ok:OkV c v
 le:K<=100000
 rd:∀ i,i<K -> ∃ p,ixS sz v (.int .i64 i)=some p/\f h p=some (X i)
theorem RdS.mono {h:FH} {c c' sz K:Nat} {f:FH->Value->Option Value} {v:Value} {X:Nat->Value} (a:RdS h c sz f K v X) (hc:c<=c'):RdS h c' sz f K v X:=⟨a.len,a.ok.mono hc,a.le,a.rd⟩
theorem RdS.rows {h:FH} {c sz K:Nat} {v:Value} {L:List Int} (a:SlI h c v sz K L) (hK:K<=100000) (hs:0<sz):RdS h c sz (fun h p=>ldN h sz p) K v (fun i=>av ((L.drop (i*sz)).take sz)) :=
 ⟨a.len,a.okV,hK,fun i hi=>by
  have ix:=a.ixs .i64 (i:Int) qO qO;rw [qE] at ix;have:=a.1;exact ⟨_,ix,a.rdN sz (i*sz) hs (by have:=Nat.mul_le_mul_right sz (show i+1<=K by omega); rw [Nat.add_mul] at this; omega)⟩⟩
theorem RdS.ints {h:FH} {c K:Nat} {v:Value} {L:List Int} (a:SlI h c v 1 K L) (hK:K<=100000):RdS h c 1 (fun h p=>ld1 h p) K v (fun i=>.int .i64 (L.getD i 0)) :=
 ⟨a.len,a.okV,hK,fun i hi=>by
  have ix:=a.ixs1 .i64 (i:Int) qO qO;rw [qE] at ix;exact ⟨_,ix,a.rd i qO⟩⟩
theorem RdS.bools {h:FH} {c rb m:Nat} {R:List Bool} (fr:h.f rb=some (.cells false none (bools R))) (hR:R.length=m) (hm:m<=100000) (lr:rb<256*c):RdS h c 1 (fun h p=>ld1 h p) m (.slice (some ⟨rb,0,none⟩) m m) (fun i=>.bool (R.getD i false)) :=
 ⟨rfl,OkV.sl lr,hm,fun i hi=>by
  refine ⟨.pointer (some ⟨rb,i,none⟩), ?_, ?_⟩
  · have:=Z1N rb m .i64 (i:Int) qO qO;rwa [qE] at this
  · show ld1 h _=_;rw [Z02 (cs:=Go.Ab.bools R) ⟨false,none,fr⟩,Z7z _ _ qO]⟩
theorem RdS.links {h:FH} {c0 c cnt n:Nat} {lv:Value} {Gl V D:List Int} (g:GrC c0 h c lv 6 cnt (lkL n Gl V D cnt)) (hc:cnt<=100000):RdS h c 6 (fun h p=>ldN h 6 p) cnt lv (fun k=>.agg (lkD n Gl V D k).toArray) :=
 ⟨g.len,by
  rcases g with ⟨rfl,_,_⟩ | ⟨_,_,_,_,i,rfl,_,h,_⟩
  · exact OkV.sl0 _ _ _
  · exact OkV.sl h,hc,fun k hk=>by
  obtain ⟨i,rfl,h3,h4,h5⟩:∃ i,lv = .slice (some ⟨i,0,none⟩) cnt cnt/\256*c0<=i/\i<256*c/\h.f i=some (.cells false (some 6) (lkL n Gl V D cnt)):=by
   rcases g with ⟨_,e,_⟩ | ⟨_,_,_,_,q⟩
   · omega
   · exact q
  refine ⟨.pointer (some ⟨i,k*6,none⟩), ?_, ?_⟩
  · rw [ixS_sl 6 i 0 cnt cnt .i64 (k:Int) qO qO,Nat.zero_add,qE]
  · have ll:=Zab n Gl V D cnt;show ldN h 6 _=_;rw [ldN_holds (cs:=lkL n Gl V D cnt) ⟨false,some 6,h5⟩ qO,ZfD n Gl V D hk]⟩
theorem RdS.nil (h:FH) (c sz:Nat) (f:FH->Value->Option Value) (X:Nat->Value):RdS h c sz f 0 (.slice none 0 0) X:=⟨rfl,OkV.sl0 _ _ _,qO,fun i hi=>qO⟩
theorem Zhq (u v:Value) (K:Nat) (X:Nat->Value) (h:FH) (c:Nat) (df:List Nat) (hu:RdS h c 1 (fun h p=>ld1 h p) K u X) (hv:RdS h c 1 (fun h p=>ld1 h p) K v X) (hne:∀ i,i<K->Z00 P .neq 3 (X i) (X i)=some (.bool false)) :
 ∀ (r i:Nat),i+r=K->Ans (G (Zcg none) [u,v,.bool false,.int .i64 (i:Nat)] h c df) fun q=>q=⟨.exit 0,[u,v,.bool false,.int .i64 K],h,c,df⟩:=by
 intro r;have ou:=hu.ok;have ov:=hv.ok;have lu:=hu.len;have hl:=hu.le
 induction r with
 | zero =>
  intro i hi;obtain rfl:i=K:=qO;refine Ans.lpG rfl rfl (Z5r ..) ?_;unfold Z4I;have fx:=lu;refine Ans.go ?_;clear fx
  (have fx:=ai ou ov; refine Ans.ex0 ?_; clear fx)
  rfl
 | succ r ih =>
  intro i hi;have i1:(i:Int)<K:=qO;have kk:(K:Int)<=100000:=qO;have hk:=ih (i+1) qO;obtain ⟨p,p1,p2⟩:=hu.rd i qO;obtain ⟨q,q1,q2⟩:=hv.rd i qO;have ne:=hne i qO
  try dsimp only at p2 q2
  obtain ⟨Y,hY⟩:=jN (X i);rw [hY] at p2 q2 ne;refine Ans.lpG rfl rfl (Z5r ..) ?_;unfold Z4I;have fx:=ai lu (ai p1 (ai p2 (ai q1 (ai q2 ne))));refine Ans.go ?_;clear fx
  (have fx:=ai ou ov; refine Ans.nx0 ?_; clear fx)
  exact hk
theorem Zhp (u v:Value) (K:Nat) (X:Nat->Value) (h:FH) (c:Nat) (df:List Nat) (hu:RdS h c 6 (fun h p=>ldN h 6 p) K u X) (hv:RdS h c 6 (fun h p=>ldN h 6 p) K v X) (hne:∀ i,i<K->Z00 P .neq 40 (X i) (X i)=some (.bool false)) :
 ∀ (r i:Nat),i+r=K->Ans (G (ZbQ none) [u,v,.bool false,.int .i64 K,.int .i64 (i:Nat)] h c df) fun q=>q=⟨.exit 0,[u,v,.bool false,.int .i64 K,.int .i64 K],h,c,df⟩:=by
 intro r;have ou:=hu.ok;have ov:=hv.ok;have lu:=hu.len;have hl:=hu.le
 induction r with
 | zero =>
  intro i hi;obtain rfl:i=K:=qO;refine Ans.lpG rfl rfl (Z7i ..) ?_;unfold Z8L;have fx:=True.intro;refine Ans.go ?_;clear fx
  (have fx:=ai ou ov; refine Ans.ex0 ?_; clear fx)
  rfl
 | succ r ih =>
  intro i hi;have i1:(i:Int)<K:=qO;have kk:(K:Int)<=100000:=qO;have hk:=ih (i+1) qO;obtain ⟨p,p1,p2⟩:=hu.rd i qO;obtain ⟨q,q1,q2⟩:=hv.rd i qO;have ne:=hne i qO
  try dsimp only at p2 q2
  obtain ⟨Y,hY⟩:=jN (X i);rw [hY] at p2 q2 ne;refine Ans.lpG rfl rfl (Z7i ..) ?_;unfold Z8L;have fx:=ai p1 (ai p2 (ai q1 (ai q2 ne)));refine Ans.go ?_;clear fx
  (have fx:=ai ou ov; refine Ans.nx0 ?_; clear fx)
  exact hk
theorem Zho (ab bb:Nat) (u v:Value) (K:Nat) (X:Nat->Value) (h:FH) (c:Nat) (df:List Nat) (ra:ld1 h (.pointer (some ⟨ab,0,none⟩))=some u) (rb:ld1 h (.pointer (some ⟨bb,0,none⟩))=some v) (la:ab<256*c) (lb:bb<256*c) (hu:RdS h c 4 (fun h p=>ldN h 4 p) K u X) (hv:RdS h c 4 (fun h p=>ldN h 4 p) K v X) (hne:∀ i,i<K->Z00 P .neq 41 (X i) (X i)=some (.bool false)) :
 ∀ (r i:Nat),i+r=K->Ans (G (Zcd none) [ptrTo ab,ptrTo bb,.bool false,.int .i64 K,.int .i64 (i:Nat)] h c df) fun q=>q=⟨.exit 0,[ptrTo ab,ptrTo bb,.bool false,.int .i64 K,.int .i64 K],h,c,df⟩:=by
 intro r;have ou:=hu.ok;have ov:=hv.ok;have lu:=hu.len;have hl:=hu.le
 induction r with
 | zero =>
  intro i hi;obtain rfl:i=K:=qO;refine Ans.lpG rfl rfl (Z7w ..) ?_;unfold Z99;have fx:=True.intro;refine Ans.go ?_;clear fx
  (have fx:=ai la lb; refine Ans.ex0 ?_; clear fx)
  rfl
 | succ r ih =>
  intro i hi;have i1:(i:Int)<K:=qO;have kk:(K:Int)<=100000:=qO;have hk:=ih (i+1) qO;obtain ⟨p,p1,p2⟩:=hu.rd i qO;obtain ⟨q,q1,q2⟩:=hv.rd i qO;have ne:=hne i qO
  try dsimp only at p2 q2
  obtain ⟨Y,hY⟩:=jN (X i);rw [hY] at p2 q2 ne;refine Ans.lpG rfl rfl (Z7w ..) ?_;unfold Z99;have fx:=ai ra (ai rb (ai p1 (ai p2 (ai q1 (ai q2 ne)))));refine Ans.go ?_;clear fx
  (have fx:=ai la lb; refine Ans.nx0 ?_; clear fx)
  exact hk
theorem Zhn (ab bb:Nat) (u v:Value) (K:Nat) (X:Nat->Value) (h:FH) (c:Nat) (df:List Nat) (ra:ld1 h (.pointer (some ⟨ab,1,none⟩))=some u) (rb:ld1 h (.pointer (some ⟨bb,1,none⟩))=some v) (la:ab<256*c) (lb:bb<256*c) (hu:RdS h c 6 (fun h p=>ldN h 6 p) K u X) (hv:RdS h c 6 (fun h p=>ldN h 6 p) K v X) (hne:∀ i,i<K->Z00 P .neq 64 (X i) (X i)=some (.bool false)) :
 ∀ (r i:Nat),i+r=K->Ans (G (Zcc none) [ptrTo ab,ptrTo bb,.bool false,.int .i64 K,.int .i64 (i:Nat)] h c df) fun q=>q=⟨.exit 2,[ptrTo ab,ptrTo bb,.bool false,.int .i64 K,.int .i64 K],h,c,df⟩:=by
 intro r;have ou:=hu.ok;have ov:=hv.ok;have lu:=hu.len;have hl:=hu.le
 induction r with
 | zero =>
  intro i hi;obtain rfl:i=K:=qO;refine Ans.lpG rfl rfl (Z7v ..) ?_;unfold Z98;have fx:=True.intro;refine Ans.go ?_;clear fx
  (have fx:=ai la lb; refine Ans.ex0 ?_; clear fx)
  rfl
 | succ r ih =>
  intro i hi;have i1:(i:Int)<K:=qO;have kk:(K:Int)<=100000:=qO;have hk:=ih (i+1) qO;obtain ⟨p,p1,p2⟩:=hu.rd i qO;obtain ⟨q,q1,q2⟩:=hv.rd i qO;have ne:=hne i qO
  try dsimp only at p2 q2
  obtain ⟨Y,hY⟩:=jN (X i);rw [hY] at p2 q2 ne;refine Ans.lpG rfl rfl (Z7v ..) ?_;unfold Z98;have fx:=ai ra (ai rb (ai p1 (ai p2 (ai q1 (ai q2 ne)))));refine Ans.go ?_;clear fx
  (have fx:=ai la lb; refine Ans.nx0 ?_; clear fx)
  exact hk
theorem Zhm (ab bb:Nat) (u v:Value) (K:Nat) (X:Nat->Value) (h:FH) (c:Nat) (df:List Nat) (ra:ld1 h (.pointer (some ⟨ab,2,none⟩))=some u) (rb:ld1 h (.pointer (some ⟨bb,2,none⟩))=some v) (la:ab<256*c) (lb:bb<256*c) (hu:RdS h c 4 (fun h p=>ldN h 4 p) K u X) (hv:RdS h c 4 (fun h p=>ldN h 4 p) K v X) (hne:∀ i,i<K->Z00 P .neq 41 (X i) (X i)=some (.bool false)) :
 ∀ (r i:Nat),i+r=K->Ans (G (Zcb none) [ptrTo ab,ptrTo bb,.bool false,.int .i64 K,.int .i64 (i:Nat)] h c df) fun q=>q=⟨.exit 4,[ptrTo ab,ptrTo bb,.bool false,.int .i64 K,.int .i64 K],h,c,df⟩:=by
 intro r;have ou:=hu.ok;have ov:=hv.ok;have lu:=hu.len;have hl:=hu.le
 induction r with
 | zero =>
  intro i hi;obtain rfl:i=K:=qO;refine Ans.lpG rfl rfl (Z7u ..) ?_;unfold Z97;have fx:=True.intro;refine Ans.go ?_;clear fx
  (have fx:=ai la lb; refine Ans.ex0 ?_; clear fx)
  rfl
 | succ r ih =>
  intro i hi;have i1:(i:Int)<K:=qO;have kk:(K:Int)<=100000:=qO;have hk:=ih (i+1) qO;obtain ⟨p,p1,p2⟩:=hu.rd i qO;obtain ⟨q,q1,q2⟩:=hv.rd i qO;have ne:=hne i qO
  try dsimp only at p2 q2
  obtain ⟨Y,hY⟩:=jN (X i);rw [hY] at p2 q2 ne;refine Ans.lpG rfl rfl (Z7u ..) ?_;unfold Z97;have fx:=ai ra (ai rb (ai p1 (ai p2 (ai q1 (ai q2 ne)))));refine Ans.go ?_;clear fx
  (have fx:=ai la lb; refine Ans.nx0 ?_; clear fx)
  exact hk
theorem Zhl (ab bb:Nat) (u v:Value) (K:Nat) (X:Nat->Value) (h:FH) (c:Nat) (df:List Nat) (ra:ld1 h (.pointer (some ⟨ab,4,none⟩))=some u) (rb:ld1 h (.pointer (some ⟨bb,4,none⟩))=some v) (la:ab<256*c) (lb:bb<256*c) (hu:RdS h c 1 (fun h p=>ld1 h p) K u X) (hv:RdS h c 1 (fun h p=>ld1 h p) K v X) (hne:∀ i,i<K->Z00 P .neq 4 (X i) (X i)=some (.bool false)) :
 ∀ (r i:Nat),i+r=K->Ans (G (Zca none) [ptrTo ab,ptrTo bb,.bool false,.int .i64 K,.int .i64 (i:Nat)] h c df) fun q=>q=⟨.exit 6,[ptrTo ab,ptrTo bb,.bool false,.int .i64 K,.int .i64 K],h,c,df⟩:=by
 intro r;have ou:=hu.ok;have ov:=hv.ok;have lu:=hu.len;have hl:=hu.le
 induction r with
 | zero =>
  intro i hi;obtain rfl:i=K:=qO;refine Ans.lpG rfl rfl (Z7t ..) ?_;unfold Z96;have fx:=True.intro;refine Ans.go ?_;clear fx
  (have fx:=ai la lb; refine Ans.ex0 ?_; clear fx)
  rfl
 | succ r ih =>
  intro i hi;have i1:(i:Int)<K:=qO;have kk:(K:Int)<=100000:=qO;have hk:=ih (i+1) qO;obtain ⟨p,p1,p2⟩:=hu.rd i qO;obtain ⟨q,q1,q2⟩:=hv.rd i qO;have ne:=hne i qO
  try dsimp only at p2 q2
  obtain ⟨Y,hY⟩:=jN (X i);rw [hY] at p2 q2 ne;refine Ans.lpG rfl rfl (Z7t ..) ?_;unfold Z96;have fx:=ai ra (ai rb (ai p1 (ai p2 (ai q1 (ai q2 ne)))));refine Ans.go ?_;clear fx
  (have fx:=ai la lb; refine Ans.nx0 ?_; clear fx)
  exact hk
theorem ZkR (u v:Value) (K:Nat) (X:Nat->Value) (h:FH) (c:Nat) (hu:RdS h c 1 (fun h p=>ld1 h p) K u X) (hv:RdS h c 1 (fun h p=>ld1 h p) K v X) (hne:∀ i,i<K->Z00 P .neq 3 (X i) (X i)=some (.bool false)):callF G 16 [u,v] h c=some (.bool true,h,c):=by
 refine Z05 (df:=[]) (Z0t (fun r e=>f16_go e) (by simp) ?_);have lu:=hu.len;have lv:=hv.len;have lo:=Ans.eq (Zhq u v K X h (c+1+1+1) [] (hu.mono qO) (hv.mono qO) hne K 0 qO);simp only [qC,qF,Int.natCast_zero] at lo;unfold ZjZ;have fx:=ai lu (ai lv lo);refine Ans.go ?_;clear fx
 (have fx:=True.intro; exact Ans.pu)
theorem ZkQ (u v:Value) (K:Nat) (X:Nat->Value) (h:FH) (c:Nat) (hu:RdS h c 6 (fun h p=>ldN h 6 p) K u X) (hv:RdS h c 6 (fun h p=>ldN h 6 p) K v X) (hne:∀ i,i<K->Z00 P .neq 40 (X i) (X i)=some (.bool false)):callF G 55 [u,v] h c=some (.bool true,h,c):=by
 refine Z05 (df:=[]) (Z0t (fun r e=>f55_go e) (by simp) ?_);have lu:=hu.len;have lv:=hv.len;have lo:=Ans.eq (Zhp u v K X h (c+1+1+1) [] (hu.mono qO) (hv.mono qO) hne K 0 qO);simp only [qC,qF,Int.natCast_zero] at lo;unfold ZpZ;have fx:=ai lu (ai lv lo);refine Ans.go ?_;clear fx
 (have fx:=True.intro; exact Ans.pu)
structure SmP (h:FH) (c n m cnt:Nat) (u0 u1 u2 u3 u4 u5:Value) (X0 X1 X2 X3 X4 X5:Nat->Value):Prop where
 r0:RdS h c 4 (fun h p=>ldN h 4 p) n u0 X0
 r1:RdS h c 6 (fun h p=>ldN h 6 p) n u1 X1
 r2:RdS h c 4 (fun h p=>ldN h 4 p) n u2 X2
 r3:RdS h c 1 (fun h p=>ld1 h p) m u3 X3
 r4:RdS h c 1 (fun h p=>ld1 h p) m u4 X4
 r5:RdS h c 6 (fun h p=>ldN h 6 p) cnt u5 X5
 fl:[u0,u1,u2,u3,u4,u5].all Z08=true
theorem Zdt (n m cnt:Nat) (u0 u1 u2 u3 u4 u5 v0 v1 v2 v3 v4 v5:Value) (X0 X1 X2 X3 X4 X5:Nat->Value) (h:FH) (c:Nat)
 (A:∀ K c',Z0l c h K->c<=c'->SmP K c' n m cnt u0 u1 u2 u3 u4 u5 X0 X1 X2 X3 X4 X5) (B:∀ K c',Z0l c h K->c<=c'->SmP K c' n m cnt v0 v1 v2 v3 v4 v5 X0 X1 X2 X3 X4 X5)
 (n0:∀ i,i<n->Z00 P .neq 41 (X0 i) (X0 i)=some (.bool false)) (n1:∀ i,i<n->Z00 P .neq 64 (X1 i) (X1 i)=some (.bool false)) (n2:∀ i,i<n->Z00 P .neq 41 (X2 i) (X2 i)=some (.bool false)) (n3:∀ i,i<m->Z00 P .neq 3 (X3 i) (X3 i)=some (.bool false)) (n4:∀ i,i<m->Z00 P .neq 4 (X4 i) (X4 i)=some (.bool false)) (n5:∀ i,i<cnt->Z00 P .neq 40 (X5 i) (X5 i)=some (.bool false)) :
 callF G 26 [.agg (List.toArray [u0,u1,u2,u3,u4,u5]),.agg (List.toArray [v0,v1,v2,v3,v4,v5])] h c=some (.bool true,h,c):=by
 refine Z05 (df:=[]) (Z0t (fun r e=>f26_go e) (by simp) ?_);have fa:=(A h c (Z0l.refl _ _) (qG _)).fl;have fb:=(B h c (Z0l.refl _ _) (qG _)).fl;unfold Zq7;rw [show (Value.agg (List.toArray [u0,u1,u2,u3,u4,u5])).cells.toList=[u0,u1,u2,u3,u4,u5] by simp [Value.cells],show (Value.agg (List.toArray [v0,v1,v2,v3,v4,v5])).cells.toList=[v0,v1,v2,v3,v4,v5] by simp [Value.cells],fa,fb];simp only [cond_true,qW];obtain ⟨ab,hab⟩:=jN (256*c);obtain ⟨bb,hbb⟩:=jN (256*c+1);rw [hbb,hab];obtain ⟨H,hH⟩:=jN (newB (newB h ab [u0,u1,u2,u3,u4,u5]) bb [v0,v1,v2,v3,v4,v5]);rw [hH];have Hf:∀ j,H.f j=if j=bb then some (.cells false none [v0,v1,v2,v3,v4,v5]) else if j=ab then some (.cells false none [u0,u1,u2,u3,u4,u5]) else h.f j:=fun j=>by rw [← hH,Z01,Z01]
 have sH:Z0l c h H:=fun j hj=>by rw [Hf,if_neg qO,if_neg qO]
 have ga:∀ i,ld1 H (.pointer (some ⟨ab,i,none⟩))=[u0,u1,u2,u3,u4,u5][i]?:=fun i=>Z02 ⟨false,none,by show H.f ab=_; rw [Hf,if_neg qO,if_pos rfl]⟩
 have gb:∀ i,ld1 H (.pointer (some ⟨bb,i,none⟩))=[v0,v1,v2,v3,v4,v5][i]?:=fun i=>Z02 ⟨false,none,by show H.f bb=_; rw [Hf,if_pos rfl]⟩
 have A:=fun c' (hc:c<=c')=>A H c' sH hc
 have B:=fun c' (hc:c<=c')=>B H c' sH hc
 have a0:=ga 0;have a1:=ga 1;have a2:=ga 2;have a3:=ga 3;have a4:=ga 4;have a5:=ga 5;have b0:=gb 0;have b1:=gb 1;have b2:=gb 2;have b3:=gb 3;have b4:=gb 4;have b5:=gb 5;simp only [List.getElem?_cons_zero,List.getElem?_cons_succ] at a0 a1 a2 a3 a4 a5 b0 b1 b2 b3 b4 b5;have A0:=A (c+1+1) qO;have B0:=B (c+1+1) qO;have la0:=A0.r0.len;have la1:=A0.r1.len;have la2:=A0.r2.len;have la4:=A0.r4.len;have lb0:=B0.r0.len;have lb1:=B0.r1.len;have lb2:=B0.r2.len;have lb4:=B0.r4.len;have s1:=ZkR u3 v3 m X3 H (c+1+1) A0.r3 B0.r3 n3;have s2:=ZkQ u5 v5 cnt X5 H (c+1+1) A0.r5 B0.r5 n5;have A1:=A (c+1+1+1) qO;have B1:=B (c+1+1+1) qO;have lo0:=Ans.eq (Zho ab bb u0 v0 n X0 H (c+1+1+1) [] a0 b0 qO qO A1.r0 B1.r0 n0 n 0 qO);have lo1:=Ans.eq (Zhn ab bb u1 v1 n X1 H (c+1+1+1+1) [] a1 b1 qO qO (A1.r1.mono qO) (B1.r1.mono qO) n1 n 0 qO);have lo2:=Ans.eq (Zhm ab bb u2 v2 n X2 H (c+1+1+1+1+1) [] a2 b2 qO qO (A1.r2.mono qO) (B1.r2.mono qO) n2 n 0 qO);have lo3:=Ans.eq (Zhl ab bb u4 v4 m X4 H (c+1+1+1+1+1+1) [] a4 b4 qO qO (A1.r4.mono qO) (B1.r4.mono qO) n4 m 0 qO);simp only [qC,qF,Int.natCast_zero] at lo0 lo1 lo2 lo3;have tk:∀ h:FH,Z0a h []=some h:=fun _=>rfl
 clear A B ga gb A0 B0 A1 B1;have fx:=ai a0 (ai a1 (ai a2 (ai a3 (ai a4 (ai a5 (ai b0 (ai b1 (ai b2 (ai b3 (ai b4 (ai b5 (ai la0 (ai la1 (ai la2 (ai la4 (ai lb0 (ai lb1 (ai lb2 (ai lb4 (ai s1 (ai s2 (ai lo0 (ai lo1 (ai lo2 (ai lo3 tk)))))))))))))))))))))))));refine Ans.go ?_;clear fx;exact Ans.pure rfl sH

theorem SkV.smp {c0 c:Nat} {h:FH} {vv ev tv:Value} {gb rb:Nat} {lv:Value} {n:Nat} {Gl:List Int} (a:SkV c0 c h vv ev tv gb rb lv n Gl) (hn:n<=60) {K:FH} {c':Nat} (hK:∀ j,256*c0<=j->j<256*c->K.f j=h.f j) (hc:c<=c') :
 SmP K c' n (nE Gl n) (nV Gl n) vv ev tv (.slice (some ⟨gb,0,none⟩) (nE Gl n) (nE Gl n)) (.slice (some ⟨rb,0,none⟩) (nE Gl n) (nE Gl n)) lv (fun i=>av (((vN Gl n).drop (i*4)).take 4)) (fun i=>av (((eN Gl n).drop (i*6)).take 6)) (fun i=>av (((tN Gl n).drop (i*4)).take 4)) (fun i=>.int .i64 ((skZ Gl n).1.getD i 0)) (fun i=>.bool ((skZ Gl n).2.getD i false)) (fun k=>.agg (lkD n Gl (vN Gl n) (dN Gl n) k).toArray):=by
 have hV:nV Gl n<=4*n:=Z1o _ _;have hE:nE Gl n<=6*n:=Z1o _ _;have hrl:(skZ Gl n).2.length=nE Gl n:=by rw [ZoY,(Zfu _ _ _ _).2,jJ]
 have hgl:(skZ Gl n).1.length=nE Gl n:=by rw [ZoY,(Zfu _ _ _ _).1,jJ]
 have kp:∀ {v:Value} {sz k':Nat} {L:List Value},GrC c0 h c v sz k' L->GrC c0 K c' v sz k' L:=fun {v sz k' L} g=>(g.keep fun hv=>by
  have:=g.blk hv;exact hK _ this.1 this.2).mono hc
 have b1:=a.b1;have b2:=a.b2;refine ⟨RdS.rows (kp a.gv).sl qO qO,RdS.rows (kp a.ge).sl qO qO,RdS.rows (kp a.gt).sl qO qO,RdS.ints ?_ qO,RdS.bools ?_ hrl qO qO,RdS.links (kp a.gl) qO, ?_⟩
 · refine ⟨qO,qO,some ⟨gb,0,none⟩,nE Gl n,rfl,.inr ⟨gb,0,ints (skZ Gl n).1,rfl,qO,⟨false,none,(hK gb b1.1 b1.2).trans a.fg⟩, ?_⟩⟩;rw [qM,qH (by simp [hgl])]
 · exact (hK rb b2.1 b2.2).trans a.fr
 · simp only [List.all_cons,List.all_nil,a.gv.flat.1,a.ge.flat.1,a.gt.flat.1,a.gl.flat.1,Bool.and_true,Bool.true_and];rfl
theorem Z9u (s:Value) (n:Nat) (Gl:List Int) (i j:Int) (h:FH) (c:Nat) (hs:SlI h c s 20 n Gl) :
 Ans (G (.fn 6) [.agg #[s],.int .i64 i,.int .i64 j] h c []) fun x=>x.e = .ret/\x.vs=[.bool true]:=by
 suffices hs:Ans (f6_S G (.agg #[s]) (.int .i64 i) (.int .i64 j) h c) fun x=>x.e = .ret/\x.vs=[.bool true] by
  obtain ⟨x,q1,q2⟩:=hs;exact ⟨_,f6_go q1,by show (gcR h c [] x).e=_/\(gcR h c [] x).vs=_; rw [Zpw,Zjl]; exact q2⟩
 unfold f6_S;rw [Z0X hs.flat,Z0Y];simp only [cond_true,qW];obtain ⟨g0,hg0⟩:=jN (256*c);rw [hg0];obtain ⟨M,hM⟩:=jN (newB h g0 [s]);rw [hM];have Mg:M.f g0=some (.cells false none [s]):=by rw [← hM,Z01,if_pos rfl]
 have sM:Z0l c h M:=fun j hj=>by rw [← hM,Z01,if_neg qO]
 have l0:=Zpl Mg;have len:=hs.len
 by_cases hn:n<=30
 case neg =>
  have k0:=Zds M (c+1+1+1);have fx:=ai l0 (ai len k0);refine Ans.go ?_;clear fx;exact .done ⟨rfl,rfl⟩
 have hsM:SlI M c s 20 n Gl:=hs.same sM;have G0:∀ K:FH,K.f g0=some (.cells false none [s])->ldN K 1 (.pointer (some ⟨g0,0,none⟩))=some (.agg #[s]):=fun K hK=>Z0N (cs:=[]) ⟨false,none,hK⟩
 have l1:=G0 M Mg;have xv0:∀ a b:Value,Z19 (.tuple #[a,b]) 0=some a:=fun _ _=>rfl
 have xv1:∀ a b:Value,Z19 (.tuple #[a,b]) 1=some b:=fun _ _=>rfl
 obtain ⟨ka,hka⟩:=jN (256*(c+1+1)+5);rw [hka,show [Value.slice none 0 0,Value.slice none 0 0,Value.slice none 0 0,Value.slice none 0 0,Value.slice none 0 0,Value.slice none 0 0]=Z2H from rfl];have key:∃ (E:Int) (W W':List Value) (K1:FH) (c1:Nat),W.length=6/\W.all Z08=true/\W'.length=6/\W'.all Z08=true/\callF G 21 [.agg #[s]] M (c+1+1+1)=some (.tuple #[.agg W.toArray,.int .i64 E],K1,c1)/\c+1+1+1<=c1/\Z0l (c+1+1+1) M K1 ∧
  ∀ H:FH,Z0l (c+1+1) M H->(∀ j,256*(c+1+1+1)<=j->j<256*c1->H.f j=K1.f j) -> ∃ (K2:FH) (c2:Nat) (W':List Value),callF G 11 [.agg #[s]] H (c1+1+1+1+1)=some (.tuple #[.agg W'.toArray,.int .i64 E],K2,c2)/\W'.length=6/\W'.all Z08=true/\c1+1+1+1+1<=c2/\Z0l (c1+1+1+1+1) H K2 ∧
   ∀ (K:FH) (c':Nat),(∀ j,256*(c+1+1+1)<=j->j<256*c1->K.f j=K1.f j)->(∀ j,256*(c1+1+1+1+1)<=j->j<256*c2->K.f j=K2.f j)->c2<=c'->callF G 26 [.agg W'.toArray,.agg W.toArray] K c'=some (.bool true,K,c'):=by
  by_cases hok:Z0w Gl n=true
  · obtain ⟨r1,hr1,vv,ev,tv,gb,rb,lv,q1,k1,s1,sk⟩:=ofQ_ok s n Gl M (c+1+1+1) [] (hsM.mono qO) hok qO;obtain ⟨K1,hK1⟩:=jN (r1.h);obtain ⟨c1,hc1⟩:=jN (r1.c);rw [hK1,hc1] at q1 sk;rw [hc1] at k1;rw [hK1] at s1;rw [q1] at hr1;have fl:=(sk.smp (K:=K1) (c':=c1) qO (fun _ _ _=>rfl) (qG _)).fl;refine ⟨0,[vv,ev,tv,.slice (some ⟨gb,0,none⟩) (nE Gl n) (nE Gl n),.slice (some ⟨rb,0,none⟩) (nE Gl n) (nE Gl n),lv],Z2H,K1,c1,rfl,fl,rfl,rfl,Z05 hr1,k1,s1,fun H sH hH=>?_⟩;obtain ⟨r2,hr2,vv',ev',tv',gb',rb',lv',q2,k2,s2,sk2⟩:=of_ok s n Gl H (c1+1+1+1+1) [] ((hsM.same (sH.mono qO)).mono qO) hok qO;obtain ⟨K2,hK2⟩:=jN (r2.h);obtain ⟨c2,hc2⟩:=jN (r2.c);rw [hK2,hc2] at q2 sk2;rw [hc2] at k2;rw [hK2] at s2;rw [q2] at hr2;have fl2:=(sk2.smp (K:=K2) (c':=c2) qO (fun _ _ _=>rfl) (qG _)).fl;refine ⟨K2,c2,_,Z05 hr2,rfl,fl2,k2,s2,fun K c' h1 h2 hc'=>?_⟩;refine Zdt n (nE Gl n) (nV Gl n) _ _ _ _ _ _ _ _ _ _ _ _ _ _ _ _ _ _ K c' (fun K' c'' hs' hc''=>sk2.smp qO (fun j h3 h4=>(hs' j qO).trans (h2 j h3 h4)) qO) (fun K' c'' hs' hc''=>sk.smp qO (fun j h3 h4=>(hs' j qO).trans (h1 j h3 h4)) qO) ?_ ?_ ?_ ?_ ?_ ?_
    · intro i hi;exact ne_4 _ (by rw [qT,qS,vN,Z0n]; omega)
    · intro i hi;exact ne_6 _ (by rw [qT,qS,eN,Z0n]; omega)
    · intro i hi;exact ne_4 _ (by rw [qT,qS,tN,Z0n]; omega)
    · intro i hi;simp
    · intro i hi;exact Zpg _
    · intro i hi;exact ne_L _ _ _ _ _
  · obtain ⟨r1,hr1,q1,k1,s1⟩:=Zpd s n Gl M (c+1+1+1) [] (hsM.mono qO) (fun q=>hok q.2);obtain ⟨K1,hK1⟩:=jN (r1.h);obtain ⟨c1,hc1⟩:=jN (r1.c);rw [hK1,hc1] at q1;rw [hc1] at k1;rw [hK1] at s1;rw [q1] at hr1;refine ⟨7,Z2H,Z2H,K1,c1,rfl,rfl,rfl,rfl,Z05 hr1,k1,s1,fun H sH hH=>?_⟩;obtain ⟨r2,hr2,q2,k2,s2⟩:=of_bad s n Gl H (c1+1+1+1+1) [] ((hsM.same (sH.mono qO)).mono qO) (fun q=>hok q.2);obtain ⟨K2,hK2⟩:=jN (r2.h);obtain ⟨c2,hc2⟩:=jN (r2.c);rw [hK2,hc2] at q2;rw [hc2] at k2;rw [hK2] at s2;rw [q2] at hr2;refine ⟨K2,c2,Z2H,Z05 hr2,rfl,rfl,k2,s2,fun K c' h1 h2 hc'=>?_⟩;exact Zdt 0 0 0 (.slice none 0 0) (.slice none 0 0) (.slice none 0 0) (.slice none 0 0) (.slice none 0 0) (.slice none 0 0) (.slice none 0 0) (.slice none 0 0) (.slice none 0 0) (.slice none 0 0) (.slice none 0 0) (.slice none 0 0) (fun _=>.bool false) (fun _=>.bool false) (fun _=>.bool false) (fun _=>.bool false) (fun _=>.bool false) (fun _=>.bool false) K c' (fun K' c'' _ _=>⟨RdS.nil _ _ _ _ _,RdS.nil _ _ _ _ _,RdS.nil _ _ _ _ _,RdS.nil _ _ _ _ _,RdS.nil _ _ _ _ _,RdS.nil _ _ _ _ _,rfl⟩) (fun K' c'' _ _=>⟨RdS.nil _ _ _ _ _,RdS.nil _ _ _ _ _,RdS.nil _ _ _ _ _,RdS.nil _ _ _ _ _,RdS.nil _ _ _ _ _,RdS.nil _ _ _ _ _,rfl⟩) (fun i hi=>qO) (fun i hi=>qO) (fun i hi=>qO) (fun i hi=>qO) (fun i hi=>qO) (fun i hi=>qO)
 obtain ⟨E,W,_,K1,c1,W6,Wf,_,_,f1,k1,s1,key⟩:=key;have w1:stN (newB K1 ka Z2H) 6 (.pointer (some ⟨ka,0,none⟩)) (.agg W.toArray)=some (newB K1 ka W):=st6 W6 Wf;obtain ⟨H,hH⟩:=jN (newB K1 ka W);rw [hH] at w1;have Hf:∀ j,j ≠ ka->H.f j=K1.f j:=fun j hj=>by rw [← hH,Z01,if_neg hj]
 have sH:Z0l (c+1+1) M H:=fun j hj=>by rw [Hf j qO,s1 j qO]
 have gH:H.f g0=some (.cells false none [s]):=by rw [sH g0 qO,Mg]
 have l2:=G0 H gH;have hsH:SlI H c s 20 n Gl:=hsM.same (sH.mono qO);have f22:=Z05 (ZlV s n Gl H (c1+1) [] (hsH.mono qO) qO);have f23:=Z05 (Zk4 s n Gl H (c1+1+1) [] (hsH.mono qO) qO);have f24:=Z05 (ZgZ i H (c1+1+1+1) []);obtain ⟨K2,c2,W',f11,W6',Wf',k2,s2,same⟩:=key H sH (fun j h1 h2=>Hf j qO);obtain ⟨kb,hkb⟩:=jN (256*(c1+1+1+1)+5);have w2:stN (newB K2 kb Z2H) 6 (.pointer (some ⟨kb,0,none⟩)) (.agg W'.toArray)=some (newB K2 kb W'):=st6 W6' Wf';obtain ⟨T,hT⟩:=jN (newB K2 kb W');rw [hT] at w2;have Tf:∀ j,j ≠ kb->T.f j=K2.f j:=fun j hj=>by rw [← hT,Z01,if_neg hj]
 have sT:Z0l (c+1+1) M T:=fun j hj=>by rw [Tf j qO,s2 j qO,sH j hj]
 have gT:T.f g0=some (.cells false none [s]):=by rw [sT g0 qO,Mg]
 have l3:=G0 T gT;have hsT:SlI T c s 20 n Gl:=hsM.same (sT.mono qO);have f13:=Z05 (Zpn s n Gl T (c2+1) [] (hsT.mono qO) qO);have f12:=Z05 (ZnM s n Gl T (c2+1+1) [] (hsT.mono qO) qO);have f25:=Z05 (Zqf i T (c2+1+1+1) []);have k9:=Zds T;have lb:ldN T 6 (.pointer (some ⟨kb,0,none⟩))=some (.agg W'.toArray):=Z24 (by rw [← hT,Z01,if_pos rfl]) W6';have la:ldN T 6 (.pointer (some ⟨ka,0,none⟩))=some (.agg W.toArray):=Z24 (by rw [Tf _ qO,s2 _ qO,← hH,Z01,if_pos rfl]) W6;have f26:∀ c',c2<=c'->callF G 26 [.agg W'.toArray,.agg W.toArray] T c'=some (.bool true,T,c'):=fun c' hc'=>same T c' (fun j h1 h2=>by rw [Tf j qO,s2 j qO,Hf j qO]) (fun j h1 h2=>Tf j qO) hc'
 have f26:=f26 (c2+1+1+1+1) qO;have f27:=Z9d i j T;have f28:=Z6A i j T;obtain ⟨N6,hN6⟩:=jN (Z2H);rw [hN6] at w1 w2 ⊢;obtain ⟨Y,hY⟩:=jN (Value.agg W.toArray);obtain ⟨Y',hY'⟩:=jN (Value.agg W'.toArray);rw [hY] at f1 w1 la f26;rw [hY'] at f11 w2 lb f26;obtain ⟨kd,hkd⟩:=jN ((if Z0w Gl n=true then ZhC Gl n else 0));obtain ⟨er,her⟩:∃ y:Int,(if Z0w Gl n=true then (0:Int) else 7)=y:=⟨_,rfl⟩;obtain ⟨eu,heu⟩:=jN ((if Z0w Gl n=true then ZqF Gl n else 0));obtain ⟨ea,hea⟩:=jN ((if 0<=i/\i<6 then edA i else -1));obtain ⟨eb,heb⟩:=jN ((if 0<=i/\i<6 then edB i else -1));obtain ⟨ed,hed⟩:=jN (edN i j);rw [hkd,her] at f22 f13;rw [heu,her] at f23 f12;rw [hea,heb] at f24 f25;rw [hed] at f27 f28;have fx:=ai l0 (ai len (ai l1 (ai f1 (ai xv0 (ai xv1 (ai w1 (ai hH (ai l2 (ai f22 (ai f23 (ai f24 (ai f11 (ai hkb (ai w2 (ai hT (ai l3 (ai f13 (ai f12 (ai f25 (ai k9 (ai lb (ai la (ai f26 (ai f27 f28))))))))))))))))))))))));refine Ans.go ?_;clear fx;exact .done ⟨rfl,rfl⟩
end Go.Proofs.Ytdodippbpdechaa

namespace Go.Ab
open Go Go.ChangeShapes Go.RowKit
variable {P:Program}
theorem Zl4 {W:World} {base:Nat} {t:TypeId} {fs:Array Field} {v:Value} {ts:List TypeId} (ht:P.underlying t=some (.struct fs)) (hts:P.cellTypes P.depth t=some ts) (hval:Value.okWide P W .any base t v) :
 ∃ cs,v = .agg cs/\cs.size=P.cellsOf t /\ ∀ i x,cs[i]? = some x -> ∃ u,ts[i % ts.length]? = some u/\Cell.okWide P W .any base u x:=by
 unfold Value.okWide at hval
 rw [ht] at hval
 obtain ⟨cs,rfl,h1,ts',h2,_,h3⟩:=hval
 rw [hts] at h2
 cases h2
 exact ⟨cs,rfl,h1,h3⟩
theorem Zpc {H:Type} {enc:TypeId × Value->H} {W:World} {base:Nat} {tG tS e:TypeId} {sz:Nat} {v:Value} {f0:Field} {d:DataW H} {ps:List MemPlace} (ht:P.underlying tG=some (.struct #[f0])) (hts:P.cellTypes P.depth tG=some [tS]) (hc:P.cellsOf tG=1)
 (hS:P.underlying tS=some (.slice e)) (h0:f0.type=tS) (o0:f0.offset=0) (hcS:P.cellsOf tS=1) (hf:Z5y P e sz) (hz:0<sz) (hval:Value.okWide P W .any base tG v) (hd:DataW.Trod enc P W 0 (fun _=>true) true tG v d ps) :
 ∃ s n Gl,v = .agg #[s]/\Z6B W s sz n Gl:=by
 obtain ⟨cs,rfl,h1,h2⟩:=Zl4 ht hts hval
 rw [hc] at h1
 have hcs:∃ s,cs = #[s]:=by
  obtain ⟨l⟩:=cs
  match l,h1 with
  | [s],_=>exact ⟨s,rfl⟩
 match hcs with
 | ⟨s,hs⟩ =>
  subst hs
  obtain ⟨u,hu,hok⟩:=h2 0 s rfl
  simp at hu
  subst hu
  obtain ⟨fuel,hd⟩:=hd
  obtain ⟨y0,n,_,_,h3⟩:=trod_struct1 ht hd
  rw [h0,o0,hcS] at h3
  obtain ⟨n,Gl,ho⟩:=ZiY hS hf hz hok (fuel:=n) (x:=y0) (by simpa [Value.cells] using h3)
  exact ⟨s,n,Gl,rfl,ho⟩
theorem VR.agg1 {μ:Mu} {a b:Value} (h:VR μ a b):VR μ (.agg #[a]) (.agg #[b]):=VR.agg_iff.2 (VRs.cons h (VRs.nil _))
def ZoL (W:World) (e:Ending) (W':World):Prop:=e = .returned (.bool true)/\Below W.heap.size W W'
end Go.Ab

namespace Go.Ab
open Go Go.ChangeShapes Go.RowKit
end Go.Ab

namespace Go.Ab
open Go Go.ChangeShapes Go.RowKit
def SlC (h:FH) (s:Value) (sz n:Nat) (L:List Int):Prop:=Z0M h sz s=some (ints L,n)
theorem Z6B.slc {W:World} {v:Value} {sz n:Nat} {Gl:List Int} (h:Z6B W v sz n Gl) {A:FH} {i:Nat} (ha:∀ m,Zo8 v=some m->A.f i=some (.cells true none (ints Gl))):SlC A (Zku i v) sz n Gl:=by
 obtain ⟨h1,h2,⟨rfl,rfl⟩ | ⟨b,o,cap,C,E,fr,rfl,g1,_,_⟩⟩:=h
 · have:Gl=[]:=qX qO
   subst this
   rfl
 · have hg:HeapC.get A i=some (.cells true none (ints Gl)):=ha _ rfl
   have hb:Nat.ble (0+n*sz) (ints Gl).length=true:=qK (by simp [h1])
   simp only [SlC,Zku,Z0M,Z0S,Z0s,hg,qD,hb,cond_true,qM]
   rw [qH (by simp [h1])]
theorem SlI.slc {h:FH} {c:Nat} {s:Value} {sz n:Nat} {L:List Int} (hs:SlI h c s sz n L) (hn:0<n) (hz:0<sz):SlC h s sz n L:=by
 obtain ⟨g1,g2,a,cap,rfl,h4⟩:=hs
 rcases h4 with ⟨e,hv⟩ | ⟨b,o,cs,rfl,e2,⟨ro,op,e3⟩,e4⟩
 · omega
 · have hl:(ints L).length=n*sz:=by simp [g1]
   have h0:0<n*sz:=Nat.mul_pos hn hz
   have hle:o+n*sz<=cs.length:=by
    rw [← e4,qT,qS] at hl
    omega
   have hb:Nat.ble (o+n*sz) cs.length=true:=qK hle
   have hg:HeapC.get h b=some (.cells ro op cs):=e3
   simp only [SlC,Z0M,Z0S,Z0s,hg,qD,hb,cond_true,e4]
end Go.Ab

namespace Go.Ab
open Go Go.ChangeShapes Go.RowKit
theorem ZiM {W:World} (l:List (Value × Nat × Nat × List Int)) (hl:l.length<=256) (h:∀ (k:Nat) (p:Value × Nat × Nat × List Int),l[k]? = some p->Z6B W p.1 p.2.1 p.2.2.1 p.2.2.2) :
 ∃ (A:FH) (μ:Mu),R μ A W/\Z22 μ 1/\(∀ i m,μ i=some m->wrB (HeapC.get A i)=false) /\ ∀ (k:Nat) (p:Value × Nat × Nat × List Int),l[k]? = some p->SlI A 1 (Zku k p.1) p.2.1 p.2.2.1 p.2.2.2/\VR μ (Zku k p.1) p.1/\SlX A (Zku k p.1) p.2.1 p.2.2.1/\SlC A (Zku k p.1) p.2.1 p.2.2.1 p.2.2.2:=by
 let blk:Nat->Option ABlk:=fun i=>(l[i]?).bind fun p=>(Zo8 p.1).map fun _=>.cells true none (ints p.2.2.2)
 let mu:Mu:=fun i=>(l[i]?).bind fun p=>Zo8 p.1
 have key:∀ i m,mu i=some m -> ∃ p,l[i]? = some p/\Zo8 p.1=some m/\blk i=some (.cells true none (ints p.2.2.2)):=by
  intro i m e
  cases hp:l[i]? with
  | none=>simp only [mu,hp] at e; cases e
  | some p =>
   simp only [mu,hp,qD] at e
   exact ⟨p,rfl,e,by simp only [blk,hp,qD,e,Option.map_some]⟩
 refine ⟨⟨blk⟩,mu,⟨fun i m e=>?_,fun i j mi mj ei ej hne di dj hro=>?_,fun i m e=>?_⟩,fun i hi=>?_,fun i m e=>?_,fun k p hp=>?_⟩
 · obtain ⟨p,h1,h2,h3⟩:=key i m e
   have:=((h i p h1).blk (μ:=mu) h2).1
   show Z7H mu m W.heap (blk i)
   rw [h3]; exact this
 · obtain ⟨p,h1,h2,h3⟩:=key i mi ei
   obtain ⟨q,g1,g2,g3⟩:=key j mj ej
   exact absurd (show roB (blk i)=true/\roB (blk j)=true by rw [h3,g3]; exact ⟨rfl,rfl⟩) hro
 · obtain ⟨p,h1,h2,h3⟩:=key i m e
   exact ((h i p h1).blk (μ:=mu) h2).2
 · have:l[i]? = none:=jF qO
   simp only [mu,this]; rfl
 · obtain ⟨p,h1,h2,h3⟩:=key i m e
   show wrB (blk i)=false
   rw [h3]; rfl
 · have hk:k<l.length:=(jC.1 hp).1
   have hb:∀ m,Zo8 p.1=some m->blk k=some (.cells true none (ints p.2.2.2)):=fun m hm=>by
    simp only [blk,hp,qD,hm,Option.map_some]
   refine ⟨(h k p hp).sl qO (fun m hm=>hb m hm),(h k p hp).vr (fun m hm=>?_),(h k p hp).slx (fun m hm=>hb m hm),(h k p hp).slc (fun m hm=>hb m hm)⟩
   simp only [mu,hp,qD,hm]
end Go.Ab

namespace Go.Ab
open Go Go.ChangeShapes Go.RowKit
variable {P:Program}
theorem VRs.ints (μ:Mu):∀ L:List Int,VRs μ (ints L) (ints L)
 | []=>.nil _
 | x::L=>.cons (.int _ _) (VRs.ints μ L)
theorem VR.av (μ:Mu) (L:List Int):VR μ (av L) (av L):=VR.agg_iff.2 (by simpa using VRs.ints μ L)
end Go.Ab

namespace Go.Proofs.Ytdodippbpdechaa
open Go.ChangeShapes Go.WideShapes Go.ChangeAt Go.RowKit
open Go Go.Ab Go.Proofs
theorem Try.own:ownKnob Try.prog.godebug=none:=by kernel_rfl
theorem Try.laidOut:laidOutB Try.prog=true:=by kernel_rfl
theorem Zjs:Z5y P 3 1:=Z5y.int Try.underlying3 (by kernel_rfl)
theorem ZmK:Z5y P 42 4:=Z5y.array (n:=4) (z:=1) Try.underlying42 Zjs (by kernel_rfl)
theorem ZmL:Z5y P 44 5:=Z5y.struct2 (z0:=1) (z1:=4) Try.underlying44 Zjs ZmK rfl rfl (by kernel_rfl)
theorem ZpC:Z5y P 45 20:=Z5y.array (n:=4) (z:=5) Try.underlying45 ZmL (by kernel_rfl)
theorem Zen {H:Type} {enc:TypeId × Value->H} {W:World} {base:Nat} {v:Value} {d:DataW H} {ps:List MemPlace} (hval:Value.okWide P W .any base 24 v) (hd:DataW.Trod enc P W 0 (fun _=>true) true 24 v d ps) :
 ∃ s n Gl,v = .agg #[s]/\Z6B W s 20 n Gl :=
 Zpc Try.underlying24 (by kernel_rfl) (by kernel_rfl) Try.underlying22 rfl rfl (by kernel_rfl) ZpC qO hval hd
theorem Zje {f:FuncId} {W:World} {A:FH} {μ:Mu} {xs ys:List Value} (hR:R μ A W) (hf:Z22 μ 1) (hro:∀ i m,μ i=some m->wrB (HeapC.get A i)=false) (hv:VRs μ xs ys) (h:Ans (G (.fn f) xs A 1 []) fun x=>x.e = .ret/\x.vs=[.bool true]) :
 Calls P f ys.toArray W (ZoL W):=by
 obtain ⟨x,hx,he,hvs⟩:=h;refine (Zhr bk_ok ext_ok mixed hx hv hR hf).mono ?_
 rintro en w' ⟨u,v',μ',h1,h2,h3,hE⟩
 rw [hvs] at h1
 cases h1
 exact ⟨by rw [h2,h3.bool_left],hE.os,hE.tape,hE.output,hE.size,fun k hk=>hE.fr k hk (fun i m e hw=>by rw [hro i m e] at hw; cases hw)⟩
end Go.Proofs.Ytdodippbpdechaa
