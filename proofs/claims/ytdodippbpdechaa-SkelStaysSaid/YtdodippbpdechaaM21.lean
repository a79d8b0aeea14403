/- Parts of a proof: AbRow2 AbRow3 AbApp2 AbApp4 K31 AbRow4 AbRow5 RowK. Conditions: none. -/
import Derived.Test.YtdodippbpdechaaM13
import Derived.Test.YtdodippbpdechaaM8
import Derived.Test.YtdodippbpdechaaM19
import Derived.Test.YtdodippbpdechaaM20
import Derived.Test.YtdodippbpdechaaRows
import Derived.ProofKit
set_option linter.all false
set_option maxRecDepth 100000
namespace Go.Ab
open Go Go.ChangeShapes Go.RowKit
variable {P:Program}
theorem ZgW {W:World} {base:Nat} {t:TypeId} {fs:Array Field} {v:Value} {ts:List TypeId} (ht:P.underlying t=some (.struct fs)) (hts:P.cellTypes P.depth t=some ts) (hval:Value.okWide P W .any base t v) :
 ∃ cs,v = .agg cs/\cs.size=P.cellsOf t /\ ∀ i x,cs[i]? = some x -> ∃ u,ts[i % ts.length]? = some u/\Cell.okWide P W .any base u x:=by
 unfold Value.okWide at hval
 rw [ht] at hval
 obtain ⟨cs,rfl,h1,ts',h2,_,h3⟩:=hval
 rw [hts] at h2
 cases h2
 exact ⟨cs,rfl,h1,h3⟩
theorem Zkc {H:Type} {enc:TypeId × Value->H} {W:World} {base:Nat} {tG tS e:TypeId} {sz:Nat} {v:Value} {f0:Field} {d:DataW H} {ps:List MemPlace} (ht:P.underlying tG=some (.struct #[f0])) (hts:P.cellTypes P.depth tG=some [tS]) (hc:P.cellsOf tG=1)
 (hS:P.underlying tS=some (.slice e)) (h0:f0.type=tS) (o0:f0.offset=0) (hcS:P.cellsOf tS=1) (hf:Z45 P e sz) (hz:0<sz) (hval:Value.okWide P W .any base tG v) (hd:DataW.Trod enc P W 0 (fun _=>true) true tG v d ps) :
 ∃ s n Gl,v = .agg #[s]/\Z5y W s sz n Gl:=by
 obtain ⟨cs,rfl,h1,h2⟩:=ZgW ht hts hval
 rw [hc] at h1
 have hcs:∃ s,cs = #[s]:=by
  obtain ⟨l⟩:=cs
  match l,h1 with
  | [s],_=>exact ⟨s,rfl⟩
 match hcs with
 | ⟨s,hs⟩ =>
  subst hs
  obtain ⟨u,hu,hok⟩:=h2 0 s rfl
  simp at hu
  subst hu
  obtain ⟨fuel,hd⟩:=hd
  obtain ⟨y0,n,_,_,h3⟩:=trod_struct1 ht hd
  rw [h0,o0,hcS] at h3
  obtain ⟨n,Gl,ho⟩:=Zf6 hS hf hz hok (fuel:=n) (x:=y0) (by simpa [Value.cells] using h3)
  exact ⟨s,n,Gl,rfl,ho⟩
theorem VR.agg1 {μ:Mu} {a b:Value} (h:VR μ a b):VR μ (.agg #[a]) (.agg #[b]):=VR.agg_iff.2 (VRs.cons h (VRs.nil _))
def ZjN (W:World) (e:Ending) (W':World):Prop:=e = .returned (.bool true)/\Below W.heap.size W W'
end Go.Ab

namespace Go.Ab
open Go Go.ChangeShapes Go.RowKit
end Go.Ab

namespace Go.Ab
open Go Go.ChangeShapes Go.RowKit
def SlC (h:FH) (s:Value) (sz n:Nat) (L:List Int):Prop:=Z0x h sz s=some (ints L,n)
theorem Z5y.slc {W:World} {v:Value} {sz n:Nat} {Gl:List Int} (h:Z5y W v sz n Gl) {A:FH} {i:Nat} (ha:∀ m,Zjk v=some m->A.f i=some (.cells true none (ints Gl))):SlC A (Zgs i v) sz n Gl:=by
 obtain ⟨h1,h2,⟨rfl,rfl⟩ | ⟨b,o,cap,C,E,fr,rfl,g1,_,_⟩⟩:=h
 · have:Gl=[]:=List.eq_nil_of_length_eq_zero qO
   subst this
   rfl
 · have hg:HeapC.get A i=some (.cells true none (ints Gl)):=ha _ rfl
   have hb:Nat.ble (0+n*sz) (ints Gl).length=true:=Nat.ble_eq_true_of_le (by simp [h1])
   simp only [SlC,Zgs,Z0x,Z0I,Z0j,hg,Option.bind_some,hb,cond_true,List.drop_zero]
   rw [List.take_of_length_le (by simp [h1])]
theorem SlI.slc {h:FH} {c:Nat} {s:Value} {sz n:Nat} {L:List Int} (hs:SlI h c s sz n L) (hn:0<n) (hz:0<sz):SlC h s sz n L:=by
 obtain ⟨g1,g2,a,cap,rfl,h4⟩:=hs
 rcases h4 with ⟨e,hv⟩ | ⟨b,o,cs,rfl,e2,⟨ro,op,e3⟩,e4⟩
 · omega
 · have hl:(ints L).length=n*sz:=by simp [g1]
   have h0:0<n*sz:=Nat.mul_pos hn hz
   have hle:o+n*sz<=cs.length:=by
    rw [← e4,List.length_take,List.length_drop] at hl
    omega
   have hb:Nat.ble (o+n*sz) cs.length=true:=Nat.ble_eq_true_of_le hle
   have hg:HeapC.get h b=some (.cells ro op cs):=e3
   simp only [SlC,Z0x,Z0I,Z0j,hg,Option.bind_some,hb,cond_true,e4]
end Go.Ab

namespace Go.Ab
open Go Go.ChangeShapes Go.RowKit
theorem SlC.keep {h h':FH} {c:Nat} {s:Value} {sz n:Nat} {L:List Int} (hs:SlI h c s sz n L) (hh:Z0l c h h') (hC:SlC h s sz n L):SlC h' s sz n L:=by
 obtain ⟨_,_,a,cap,rfl,hc4⟩:=hs
 cases a with
 | none=>exact hC
 | some a =>
  have hb:a.block<256*c:=by
   rcases hc4 with ⟨e0,ov⟩ | ⟨b,o,cs,e,e2,_,_⟩
   · obtain ⟨v',hv'⟩:=ov
     cases hv' with
     | sl hh' _ _=>exact Z6c (by rw [hh']; simp)
     | slE hh'=>exact Z6c (by rw [hh']; simp)
   · cases e; exact e2
  have:HeapC.get h' a.block=HeapC.get h a.block:=hh _ hb
  obtain ⟨b,o,p⟩:=a
  simp only at this
  cases p with
  | none=>simpa only [SlC,Z0x,Z0I,Z0j,this] using hC
  | some p=>exact hC
theorem Zlm {h:FH} {c c':Nat} {s:Value} {sz n:Nat} {L:List Int} (hs:SlC h s sz n L) (hl:L.length=n*sz) (hz:0<sz) (by' id:Nat) (hid:256*c<=id) (hid':id<256*c') (hlim:n*(by'+1)<=17592186044416) :
 ∃ v' h',Z5l h id sz by' (.slice none 0 0) s=some (v',h')/\SlI h' c' v' sz n L/\SlX h' v' sz n/\SlC h' v' sz n L/\(∀ j,j ≠ id->h'.f j=h.f j)/\(0<n->v' = .slice (some ⟨id,0,none⟩) n n/\h'.f id=some (.cells false (some sz) (ints L))):=by
 have hn:n<=17592186044416:=by
  have:n*1<=n*(by'+1):=Nat.mul_le_mul_left _ qO
  omega
 rcases Nat.eq_zero_or_pos n with rfl | hp
 · have:L=[]:=List.eq_nil_of_length_eq_zero qO
   subst this
   refine ⟨.slice none 0 0,h, ?_,⟨by simp,by omega,none,0,rfl,.inl ⟨rfl,OkV.sl0 _ _ _⟩⟩,⟨Nat.le_refl _, ?_⟩, ?_,fun _ _=>rfl,fun h=>by omega⟩
   · unfold SlC at hs
     simp only [Z5l,hs,Option.bind_some,appTo]
     rfl
   · simp only [Zew,ZeE]
   · rfl
 · have hcap:Nat.ble n 0=false:=by rw [Bool.eq_false_iff]; intro hh; have:=Nat.le_of_ble_eq_true hh; omega
   have hlim':Nat.ble (n*(by'+1)) 17592186044416=true:=Nat.ble_eq_true_of_le hlim
   refine ⟨.slice (some ⟨id,0,none⟩) n n,HeapC.set h id (.cells false (some sz) (ints L)), ?_,⟨hl,by omega,some ⟨id,0,none⟩,n,rfl,.inr ⟨id,0,ints L,rfl,hid',⟨false,some sz, ?_⟩, ?_⟩⟩,⟨Nat.le_refl _, ?_⟩, ?_,fun j hj=>by rw [Z0c,if_neg hj],fun _=>⟨rfl,by rw [Z0c,if_pos rfl]⟩⟩
   · unfold SlC at hs
     simp only [Z5l,hs,Option.bind_some,appTo,hcap,cond_false,Z1M,hlim',Z0J,Bool.and_self,cond_true,Nat.beq_refl,Nat.zero_add]
   · exact get_set_same _ _ _
   · rw [List.drop_zero,List.take_of_length_le (by simp [hl])]
   · simp only [Zew,ZeE,get_set_same,Nat.beq_refl]
   · have hb:Nat.ble (0+n*sz) (ints L).length=true:=Nat.ble_eq_true_of_le (by simp [hl])
     simp only [SlC,Z0x,Z0I,Z0j,get_set_same,Option.bind_some,hb,cond_true,List.drop_zero]
     rw [List.take_of_length_le (by simp [hl])]
end Go.Ab

namespace Go.Proofs.Ytdodippbpdechaa
open Go Go.Ab Go.Proofs
theorem Zaf (h:FH) (c:Nat):callF G 10 [] h c=some (.bool true,h,c):=Z07 (ZgM (f:=10) (args:=[]) (h:=h) (c:=c) (r:=⟨.ret,[.bool true],h,c,[]⟩) rfl)
theorem Zkd (s:Value) (n:Nat) (Gl:List Int) (h:FH) (c:Nat) (hs:SlI h c s 20 n Gl) (hn:n<=60):∃ v h' c',callF G 11 [.agg #[s]] h c=some (v,h',c')/\c<=c'/\Z0l c h h':=by
 by_cases hok:Z0F Gl n=true
 · obtain ⟨r,hr,vv,ev,tv,gb,rb,lv,e,h1,h2,-⟩:=of_ok s n Gl h c [] hs hok hn
   rw [e] at hr
   exact ⟨_,_,_,Z07 hr,h1,h2⟩
 · obtain ⟨r,hr,e,h1,h2⟩:=of_bad s n Gl h c [] hs (fun q=>hok q.2)
   rw [e] at hr
   exact ⟨_,_,_,Z07 hr,h1,h2⟩
theorem ZeW (s:Value) (n:Nat) (Gl:List Int) (t:Int) (p:List Int) (hp:p.length=4) (h:FH) (c:Nat) (hs:SlI h c s 20 n Gl) (hn:n<=60):∃ v h' c',callF G 29 [.agg #[s],.int .i64 t,av p] h c=some (v,h',c')/\c<=c'/\Z0l c h h':=by
 obtain ⟨r,hr,ov,cl,e,e',h1,h2,-⟩:=Zlo s n Gl t p hp h c [] hs hn
 rw [e'] at hr
 exact ⟨_,_,_,Z07 hr,h1,h2⟩
theorem Zfl (s:Value) (n:Nat) (Gl:List Int) (v:Int) (h:FH) (c:Nat) (hs:SlI h c s 20 n Gl) (hn:n<=60):∃ w h' c',callF G 35 [.agg #[s],.int .i64 v] h c=some (w,h',c')/\c<=c'/\Z0l c h h':=by
 obtain ⟨r,hr,ov,e,e',h1,h2,-⟩:=Zlq s n Gl v h c [] hs hn
 rw [e'] at hr
 exact ⟨_,_,_,Z07 hr,h1,h2⟩
set_option maxHeartbeats 2000000 in
theorem Z89 (s:Value) (n:Nat) (Gl:List Int) (t v:Int) (p:List Int) (hp:p.length=4) (h:FH) (c:Nat) (hs:SlI h c s 20 n Gl) (Cs:SlC h s 20 n Gl) :
 Ans (G (.fn 9) [.agg #[s],.int .i64 t,av p,.int .i64 v] h c []) fun x=>x.e = .ret/\x.vs=[.bool true]:=by
 suffices hs:Ans (f9_S G (.agg #[s]) (.int .i64 t) (av p) (.int .i64 v) h c) fun x=>x.e = .ret/\x.vs=[.bool true] by
  obtain ⟨x,q1,q2⟩:=hs
  exact ⟨_,f9_go q1,by show (gcR h c [] x).e=_/\(gcR h c [] x).vs=_; rw [Zky,Zfx]; exact q2⟩
 unfold f9_S
 have flat2:((av p).cells.toList.all Z06)=true:=by simp
 rw [Z2b hs.flat,flat2,Z2e,Z1p]
 simp only [cond_true,Nat.add_zero]
 obtain ⟨g0,hg0⟩:∃ b,256*c=b:=⟨_,rfl⟩
 obtain ⟨p0,hp0⟩:∃ b,256*c+1=b:=⟨_,rfl⟩
 obtain ⟨ob,hob⟩:∃ b,256*(c+1+1)=b:=⟨_,rfl⟩
 rw [hp0,hg0]
 obtain ⟨M,hM⟩:∃ M,newB (newB h g0 [s]) p0 (ints p)=M:=⟨_,rfl⟩
 have Mf:∀ j,M.f j=if j=p0 then some (.cells false none (ints p)) else if j=g0 then some (.cells false none [s]) else h.f j:=fun j=>by rw [← hM,Z01,Z01]
 rw [hM]
 have sM:Z0l c h M:=fun j hj=>by rw [Mf,if_neg qO,if_neg qO]
 have Mg:M.f g0=some (.cells false none [s]):=by rw [Mf,if_neg qO,if_pos rfl]
 have Mp:M.f p0=some (.cells false none (ints p)):=by rw [Mf,if_pos rfl]
 have l0:=Z1j Mg
 have len:=hs.len
 by_cases hn:n<=60
 case neg =>
  have k0:=Zaf M (c+1+1+1)
  have fx:=ai l0 (ai len k0)
  refine Ans.go ?_
  clear fx
  exact .done ⟨rfl,rfl⟩
 rw [hob]
 obtain ⟨A,hA⟩:∃ A,newB M ob [.slice none 0 0]=A:=⟨_,rfl⟩
 rw [hA]
 have Af:∀ j,j ≠ ob->A.f j=M.f j:=fun j hj=>by rw [← hA,Z01,if_neg hj]
 have Ao:A.f ob=some (.cells false none [.slice none 0 0]):=by rw [← hA,Z01,if_pos rfl]
 have sA:Z0l c h A:=fun j hj=>by rw [Af j qO]; exact sM j hj
 have a1:=Z1j Ao
 have a2:=Z1j ((Af g0 qO).trans Mg)
 obtain ⟨id,hid⟩:∃ b,256*(c+1+1+1)+4=b:=⟨_,rfl⟩
 obtain ⟨x,B,p1,x1,x2,x3,p2,px⟩:=Zlm (c:=c+1+1+1) (c':=c+1+1+1+1) (Go.Ab.SlC.keep hs sA Cs) hs.1 qO 160 id qO qO qO
 have xf:Z06 x=true/\x.cells = #[x]:=by
  obtain ⟨_,_,a,cap,rfl,_⟩:=x1
  exact ⟨rfl,rfl⟩
 have st:=ZaR ((p2 ob qO).trans Ao) xf.2 xf.1
 obtain ⟨D,hD⟩:∃ D,newB B ob [x]=D:=⟨_,rfl⟩
 rw [hD] at st
 have Df:∀ j,j ≠ ob->D.f j=B.f j:=fun j hj=>by rw [← hD,Z01,if_neg hj]
 have Do:D.f ob=some (.cells false none [x]):=by rw [← hD,Z01,if_pos rfl]
 have Dl:∀ j,j ≠ ob->j ≠ id->D.f j=M.f j:=fun j h1 h2=>by rw [Df j h1,p2 j h2,Af j h1]
 have sD:Z0l c h D:=fun j hj=>by rw [Dl j qO qO]; exact sM j hj
 have xD:SlI D (c+1+1+1+1) x 20 n Gl:=x1.keep fun hp=>by
  rw [Df _ (by rw [(px hp).1,blkOf_sl]; omega)]
 obtain ⟨k0,hk0⟩:∃ k,c+1+1+1+1+1=k:=⟨_,rfl⟩
 have hsD:SlI D k0 s 20 n Gl:=(hs.same sD).mono qO
 have fr:∀ H:FH,Z0l k0 D H->H.f g0=some (.cells false none [s])/\H.f p0=some (.cells false none (ints p))/\H.f ob=some (.cells false none [x])/\SlI H k0 s 20 n Gl/\SlI H k0 x 20 n Gl:=fun H hH =>
  ⟨by rw [hH g0 qO,Dl g0 qO qO,Mg],by rw [hH p0 qO,Dl p0 qO qO,Mp],by rw [hH ob qO,Do],hsD.same hH,(xD.mono qO).same hH⟩
 obtain ⟨f1,f2,f3,f4,f5⟩:=fr D (Z0l.refl _ _)
 have b1:=Z0y (cs:=[]) ⟨false,none,f1⟩
 obtain ⟨v1,H1,c1,e1,g1,s1⟩:=Zkd s n Gl D k0 f4 hn
 obtain ⟨f1',f2',f3',f4',f5'⟩:=fr H1 s1
 have b2:=Z0y (cs:=[]) ⟨false,none,f1'⟩
 have e2:=Z07 (Zkm s n Gl H1 (c1+1) [] (f4'.mono qO) hn)
 have e3:=Z07 (Zj5 s n Gl H1 (c1+1+1) [] (f4'.mono qO) hn)
 have b3:ldN H1 4 (.pointer (some ⟨p0,0,none⟩))=some (av p):=Z0O f2' (by rw [ints_length,hp])
 obtain ⟨v2,H2,c2,e4,g2,s2⟩:=ZeW s n Gl t p hp H1 (c1+1+1+1) (f4'.mono qO) hn
 have t2:Z0l k0 D H2:=s1.trans (s2.mono qO)
 obtain ⟨j1,j2,j3,j4,j5⟩:=fr H2 t2
 have b4:=Z0y (cs:=[]) ⟨false,none,j1⟩
 obtain ⟨v3,H3,c3,e5,g3,s3⟩:=Zfl s n Gl v H2 (c2+1) (j4.mono qO) hn
 have t3:Z0l k0 D H3:=t2.trans (s3.mono qO)
 obtain ⟨q1,q2,q3,q4,q5⟩:=fr H3 t3
 have b5:=Z0y (cs:=[]) ⟨false,none,q1⟩
 have b6:=Z0y (cs:=[]) ⟨false,none,q3⟩
 have k9:=Zaf H3 (c3+1)
 have e6:=Z07 (ZgJ s x n n Gl Gl H3 (c3+1) [] (q4.mono qO) (q5.mono qO) qO)
 have sB:Z8q n n Gl Gl=true:=by simp [Z8q]
 rw [sB] at e6
 obtain ⟨K1,hK1⟩:∃ x,(if Z0F Gl n=true then Zkn Gl n else 0)=x:=⟨_,rfl⟩
 obtain ⟨K2,hK2⟩:∃ x,(if Z0F Gl n=true then (0:Int) else 7)=x:=⟨_,rfl⟩
 obtain ⟨K3,hK3⟩:∃ x,(if Z0F Gl n=true then eulV Gl n else 0)=x:=⟨_,rfl⟩
 rw [hK1,hK2] at e2
 rw [hK3,hK2] at e3
 have fx:=ai l0 (ai len (ai a1 (ai a2 (ai hid (ai p1 (ai st (ai b1 (ai hk0 (ai e1 (ai b2 (ai e2 (ai e3 (ai b3 (ai e4 (ai b4 (ai e5 (ai k9 (ai b5 (ai b6 e6)))))))))))))))))))
 refine Ans.go ?_
 clear fx
 exact .done ⟨rfl,rfl⟩
end Go.Proofs.Ytdodippbpdechaa

namespace Go.Ab
open Go Go.ChangeShapes Go.RowKit
theorem ZeT {W:World} (l:List (Value × Nat × Nat × List Int)) (hl:l.length<=256) (h:∀ (k:Nat) (p:Value × Nat × Nat × List Int),l[k]? = some p->Z5y W p.1 p.2.1 p.2.2.1 p.2.2.2) :
 ∃ (A:FH) (μ:Mu),R μ A W/\Z1D μ 1/\(∀ i m,μ i=some m->wrB (HeapC.get A i)=false) /\ ∀ (k:Nat) (p:Value × Nat × Nat × List Int),l[k]? = some p->SlI A 1 (Zgs k p.1) p.2.1 p.2.2.1 p.2.2.2/\VR μ (Zgs k p.1) p.1/\SlX A (Zgs k p.1) p.2.1 p.2.2.1/\SlC A (Zgs k p.1) p.2.1 p.2.2.1 p.2.2.2:=by
 let blk:Nat->Option ABlk:=fun i=>(l[i]?).bind fun p=>(Zjk p.1).map fun _=>.cells true none (ints p.2.2.2)
 let mu:Mu:=fun i=>(l[i]?).bind fun p=>Zjk p.1
 have key:∀ i m,mu i=some m -> ∃ p,l[i]? = some p/\Zjk p.1=some m/\blk i=some (.cells true none (ints p.2.2.2)):=by
  intro i m e
  cases hp:l[i]? with
  | none=>simp only [mu,hp] at e; cases e
  | some p =>
   simp only [mu,hp,Option.bind_some] at e
   exact ⟨p,rfl,e,by simp only [blk,hp,Option.bind_some,e,Option.map_some]⟩
 refine ⟨⟨blk⟩,mu,⟨fun i m e=>?_,fun i j mi mj ei ej hne di dj hro=>?_,fun i m e=>?_⟩,fun i hi=>?_,fun i m e=>?_,fun k p hp=>?_⟩
 · obtain ⟨p,h1,h2,h3⟩:=key i m e
   have:=((h i p h1).blk (μ:=mu) h2).1
   show Z64 mu m W.heap (blk i)
   rw [h3]; exact this
 · obtain ⟨p,h1,h2,h3⟩:=key i mi ei
   obtain ⟨q,g1,g2,g3⟩:=key j mj ej
   exact absurd (show roB (blk i)=true/\roB (blk j)=true by rw [h3,g3]; exact ⟨rfl,rfl⟩) hro
 · obtain ⟨p,h1,h2,h3⟩:=key i m e
   exact ((h i p h1).blk (μ:=mu) h2).2
 · have:l[i]? = none:=List.getElem?_eq_none qO
   simp only [mu,this]; rfl
 · obtain ⟨p,h1,h2,h3⟩:=key i m e
   show wrB (blk i)=false
   rw [h3]; rfl
 · have hk:k<l.length:=(List.getElem?_eq_some_iff.1 hp).1
   have hb:∀ m,Zjk p.1=some m->blk k=some (.cells true none (ints p.2.2.2)):=fun m hm=>by
    simp only [blk,hp,Option.bind_some,hm,Option.map_some]
   refine ⟨(h k p hp).sl qO (fun m hm=>hb m hm),(h k p hp).vr (fun m hm=>?_),(h k p hp).slx (fun m hm=>hb m hm),(h k p hp).slc (fun m hm=>hb m hm)⟩
   simp only [mu,hp,Option.bind_some,hm]
end Go.Ab

namespace Go.Ab
open Go Go.ChangeShapes Go.RowKit
variable {P:Program}
theorem Zft:∀ {cs:List Value},(∀ v ∈ cs,∃ n,v = .int .i64 n) -> ∃ L:List Int,cs=ints L
 | [],_=>⟨[],rfl⟩
 | v::cs,h=>by
  obtain ⟨n,rfl⟩:=h v (by simp)
  obtain ⟨L,e⟩:=Zft (cs:=cs) fun w hw=>h w (by simp [hw])
  exact ⟨n::L,by rw [e]; rfl⟩
theorem ZgV {H:Type} {enc:TypeId × Value->H} {W:World} {base:Nat} {t e:TypeId} {m sz:Nat} {v:Value} {d:DataW H} {ps:List MemPlace} (ht:P.underlying t=some (.array m e)) (hf:Z45 P t sz)
 (hval:Value.okWide P W .any base t v) (hd:DataW.Trod enc P W 0 (fun _=>true) true t v d ps):∃ L,v=av L/\L.length=sz:=by
 unfold Value.okWide at hval
 rw [ht] at hval
 obtain ⟨cs,rfl,h1,_⟩:=hval
 obtain ⟨fuel,hd⟩:=hd
 obtain ⟨h2,h3⟩:=hf.2 _ _ _ _ _ _ _ _ _ hd
 obtain ⟨L,hL⟩:=Zft h3
 have e1:cs.toList=ints L:=hL
 refine ⟨L, ?_, ?_⟩
 · rw [av,← e1,Array.toArray_toList]
 · have:(ints L).length=sz:=by rw [← e1]; exact h2
   simpa using this
theorem VRs.ints (μ:Mu):∀ L:List Int,VRs μ (ints L) (ints L)
 | []=>.nil _
 | x::L=>.cons (.int _ _) (VRs.ints μ L)
theorem VR.av (μ:Mu) (L:List Int):VR μ (av L) (av L):=VR.agg_iff.2 (by simpa using VRs.ints μ L)
end Go.Ab

namespace Go.Proofs.Ytdodippbpdechaa
open Go.ChangeShapes Go.WideShapes Go.ChangeAt Go.RowKit
open Go Go.Ab Go.Proofs
theorem Try.own:ownKnob Try.prog.godebug=none:=by kernel_rfl
theorem Try.laidOut:laidOutB Try.prog=true:=by kernel_rfl
theorem ZfB:Z45 P 3 1:=Z45.int Try.underlying3 (by kernel_rfl)
theorem ZcU:Z45 P 42 4:=Z45.array (n:=4) (z:=1) Try.underlying42 ZfB (by kernel_rfl)
theorem ZiA:Z45 P 44 5:=Z45.struct2 (z0:=1) (z1:=4) Try.underlying44 ZfB ZcU rfl rfl (by kernel_rfl)
theorem ZkB:Z45 P 45 20:=Z45.array (n:=4) (z:=5) Try.underlying45 ZiA (by kernel_rfl)
theorem Zb8 {H:Type} {enc:TypeId × Value->H} {W:World} {base:Nat} {v:Value} {d:DataW H} {ps:List MemPlace} (hval:Value.okWide P W .any base 24 v) (hd:DataW.Trod enc P W 0 (fun _=>true) true 24 v d ps) :
 ∃ s n Gl,v = .agg #[s]/\Z5y W s 20 n Gl :=
 Zkc Try.underlying24 (by kernel_rfl) (by kernel_rfl) Try.underlying22 rfl rfl (by kernel_rfl) ZkB qO hval hd
theorem Zf5 {H:Type} {enc:TypeId × Value->H} {W:World} {base:Nat} {v:Value} {d:DataW H} {ps:List MemPlace} (hval:Value.okWide P W .any base 42 v) (hd:DataW.Trod enc P W 0 (fun _=>true) true 42 v d ps) :
 ∃ L,v=av L/\L.length=4:=ZgV Try.underlying42 ZcU hval hd
theorem Zfn {f:FuncId} {W:World} {A:FH} {μ:Mu} {xs ys:List Value} (hR:R μ A W) (hf:Z1D μ 1) (hro:∀ i m,μ i=some m->wrB (HeapC.get A i)=false) (hv:VRs μ xs ys) (h:Ans (G (.fn f) xs A 1 []) fun x=>x.e = .ret/\x.vs=[.bool true]) :
 Calls P f ys.toArray W (ZjN W):=by
 obtain ⟨x,hx,he,hvs⟩:=h
 refine (ZdE bk_ok ext_ok mixed hx hv hR hf).mono ?_
 rintro en w' ⟨u,v',μ',h1,h2,h3,hE⟩
 rw [hvs] at h1
 cases h1
 exact ⟨by rw [h2,h3.bool_left],hE.os,hE.tape,hE.output,hE.size,fun k hk=>hE.fr k hk (fun i m e hw=>by rw [hro i m e] at hw; cases hw)⟩
end Go.Proofs.Ytdodippbpdechaa
