/- Parts of a proof: K27 K28 D1 D2 D3 AbGA L3. Conditions: none. -/
import Derived.Test.YtdodippbpdechaaM17
import Derived.Test.YtdodippbpdechaaM15
import Derived.Test.YtdodippbpdechaaM7
import Derived.Test.YtdodippbpdechaaM16
set_option linter.all false
set_option maxRecDepth 100000
namespace Go.Proofs.Ytdodippbpdechaa
open Go Go.Ab Go.Proofs
theorem Z8t {α:Type} {f:α->Option α} {s x:α} {k m:Nat} (h:it f s k=some x) (hm:it f s m=none):k<m:=by
 rcases Nat.lt_or_ge k m with q | q
 · exact q
 · rw [Zco hm q] at h; cases h
theorem Z2r {Gl:List Int} {lab:Nat} {s x:List Int} {k:Nat} (h:it (wN Gl lab) s k=some x):rgL Gl lab s (k+1)=rgL Gl lab s k++x:=by
 rw [rgL,h]; rfl
structure WC (s:Value) (n:Nat) (Gl x0:List Int) (lab fb gb lb cb cw:Nat) (h0:FH):Prop where
 f:h0.f fb=some (.cells false none (ints x0))
 g:Z0d h0 gb [s]
 l:Z0d h0 lb [.int .i64 lab]
 lf:fb<256*cw
 lg:gb<256*cw
 ll:lb<256*cw
 bc:cb<=cw
 sl:SlI h0 cb s 20 n Gl
 ok:Z0A Gl n=true
 hn:n<=60
 x:WOk n x0
 lab4:lab<4
theorem WC.hG {s:Value} {n:Nat} {Gl x0:List Int} {lab fb gb lb cb cw:Nat} {h0:FH} (w:WC s n Gl x0 lab fb gb lb cb cw h0):Gl.length=n*20:=w.sl.1
structure RI (l rp c1 cw:Nat) (st:ALoop) (Gl x0:List Int) (lab:Nat) (h0:FH) (k:Nat) (O:Nat->Prop) (h:FH) (c:Nat):Prop where
 lc:c1<=c
 fr:∀ j,j<256*cw->j ≠ rp->h.f j=h0.f j
 lp:h.f l=some (.loop st)
 df:h.f (l+1)=some .dfr
 hk:k<=100000
 rg:∃ ov,h.f rp=some (.cells false none [ov])/\GrC c1 h c ov 5 k (ints (rgL Gl lab x0 k)) /\ ∀ b,O b ↔ (ov ≠ .slice none 0 0/\b=Z0w ov)
theorem RI.stab {l rp c1 cw:Nat} {st:ALoop} {Gl x0:List Int} {lab:Nat} {h0:FH} {k:Nat} {O:Nat->Prop} {h h':FH} {c c':Nat} (a:RI l rp c1 cw st Gl x0 lab h0 k O h c) (hl:l=256*cw) (h1:c1=cw+1) (hr:rp<256*cw) (hc:c<=c') (hh:∀ b,b<256*c->(b<256*c1 ∨ O b)->h'.f b=h.f b):RI l rp c1 cw st Gl x0 lab h0 k O h' c':=by
 obtain ⟨a1,a2,a3,a4,a5,ov,a6,a7,a8⟩:=a
 refine ⟨by omega,fun j hj hne=>(hh j qO (.inl qO)).trans (a2 j hj hne),(hh l qO (.inl qO)).trans a3,(hh (l+1) qO (.inl qO)).trans a4,a5,ov,(hh rp qO (.inl qO)).trans a6,(a7.keep fun hv=>?_).mono hc,a8⟩
 exact hh _ (a7.blk hv).2 (.inr ((a8 _).2 ⟨hv,rfl⟩))
theorem RI.read {s:Value} {n:Nat} {Gl x0 y0:List Int} {lab fb gb lb cb cw:Nat} {h0:FH} (w:WC s n Gl y0 lab fb gb lb cb cw h0) {l rp c1:Nat} {st:ALoop} {k lab':Nat} {O:Nat->Prop} {h:FH} {c:Nat} (a:RI l rp c1 cw st Gl x0 lab' h0 k O h c) (h1:c1=cw+1) (hrc:256*cb<=rp) (ng:gb ≠ rp) (nl:lb ≠ rp) :
 Z0d h gb [s]/\Z0d h lb [.int .i64 lab]/\SlI h c s 20 n Gl/\c1<=c /\ ∀ b,O b->b<256*c:=by
 obtain ⟨a1,a2,a3,a4,a5,ov,a6,a7,a8⟩:=a
 have b1:=w.lg
 have b2:=w.ll
 have b3:=w.bc
 obtain ⟨ro,op,q1⟩:=w.g
 obtain ⟨ro2,op2,q2⟩:=w.l
 refine ⟨⟨ro,op,(a2 gb b1 ng).trans q1⟩,⟨ro2,op2,(a2 lb b2 nl).trans q2⟩,(w.sl.same fun j hj=>a2 j qO qO).mono qO,a1,fun b hb=>?_⟩
 obtain ⟨hv,rfl⟩:=(a8 b).1 hb
 exact (a7.blk hv).2
theorem RI.app {l rp c1 cw:Nat} {st:ALoop} {Gl x0 x:List Int} {lab:Nat} {h0:FH} {k:Nat} {O:Nat->Prop} {h:FH} {c:Nat} {ov:Value} {r:Rt FH} (a:RI l rp c1 cw st Gl x0 lab h0 k O h c) (hl:l=256*cw) (h1:c1=cw+1) (hr:rp<256*cw) (hx:it (wN Gl lab) x0 k=some x) (hst:st.state = .ready) (hpn:st.pending=none) (hk:k+1<=100000)
 (ho:h.f rp=some (.cells false none [ov])) (hO:∀ b,O b ↔ (ov ≠ .slice none 0 0/\b=Z0w ov)) (g:GrC c1 h c ov 5 k (ints (rgL Gl lab x0 k))) (hc:c<=r.c) (ra:RApp l rp c1 c k x (rgL Gl lab x0 k) ov st h r) :
 ∃ O',(∀ b,O' b->O b ∨ 256*c<=b)/\RI l rp c1 cw st Gl x0 lab h0 (k+1) O' r.h r.c/\(∀ b,b<256*c->256*c1<=b -> ¬ O b->r.h.f b=h.f b):=by
 obtain ⟨a1,a2,a3,a4,a5,-⟩:=a
 obtain ⟨-,r2,i,r3,r4,r5,r6⟩:=ra
 have hb:∀ j,j<256*c1->j<256*c/\(ov ≠ .slice none 0 0->j ≠ Z0w ov):=fun j hj=>⟨by omega,fun hv=>by have:=(g.blk hv).1; omega⟩
 have est:({ st with state:=.ready,pending:=none }:ALoop)=st:=by
  cases st
  simp only at hst hpn
  subst hst hpn; rfl
 rw [est] at r2
 refine ⟨fun b=>b=i,fun b e=>.inr qO,⟨by omega,fun j hj hne=>(r6 j (hb j qO).1 qO hne (hb j qO).2).trans (a2 j hj hne),r2,(r6 (l+1) (hb _ qO).1 qO qO (hb _ qO).2).trans a4,hk,_,r4, ?_,fun b=>?_⟩,fun b e1 e2 e3=>r6 b e1 qO qO fun hv e=>e3 ((hO b).2 ⟨hv,e⟩)⟩
 · rw [Z2r hx]; exact r5
 · rw [blkOf_sl]
   exact ⟨fun e=>⟨(by intro q; cases q),e⟩,fun e=>e.2⟩
theorem Zgy {s:Value} {n:Nat} {Gl x0:List Int} {lab fb gb lb cb cw rp:Nat} {h0:FH} (w:WC s n Gl x0 lab fb gb lb cb cw h0) (lr:rp<256*cw) (hrc:256*cb<=rp) (nf:fb ≠ rp) (ng:gb ≠ rp) (nl:lb ≠ rp) (ho:h0.f rp=some (.cells false none [.slice none 0 0])) {m:Nat} (hm:it (wN Gl lab) x0 m=none) (hm9:m<=90000) (df:List Nat) :
 Ans (Z3t G 66 none [6] [] #[60] Z26 Z23 (.func (.func 78) [].toArray [ptrTo fb,ptrTo gb,ptrTo lb].toArray) [ptrTo rp] h0 cw df) fun q=>∃ k x ov,q.1 = .normal/\cw+1<=q.2.2.1/\q.2.2.2=(256*cw+1)::df/\q.2.1.f (256*cw+1)=some .dfr/\(∀ j,j<256*cw->j ≠ rp->q.2.1.f j=h0.f j) ∧
  it (wN Gl lab) x0 k=some x/\it (wN Gl lab) x0 (k+1)=none/\q.2.1.f rp=some (.cells false none [ov])/\GrC cw q.2.1 q.2.2.1 ov 5 (k+1) (ints (rgL Gl lab x0 (k+1))):=by
 obtain ⟨l,hl⟩:∃ l,l=256*cw:=⟨_,rfl⟩
 obtain ⟨st,hst⟩:∃ st,st=Z7G 66 [6] #[60] Z26 Z23 [ptrTo rp] (l+1):=⟨_,rfl⟩
 have s1:st.state = .ready:=by rw [hst]; rfl
 have s2:st.pending=none:=by rw [hst]; rfl
 have b1:=w.lf
 have b2:=w.lg
 have b3:=w.ll
 have b4:=w.bc
 have hI:WkI (.func (.yield l) #[] #[]) s n Gl lab gb lb (cw+1) x0 (RI l rp (cw+1) cw st Gl x0 lab h0) (fun _ _ _=>False) m:=by
  refine ⟨fun k O h c h' c' hi hc hh=>hi.stab hl rfl lr hc hh,fun k O h c hi=>hi.read w rfl hrc ng nl,fun k x O h c hx hi=>?_,fun k x O h c hx hi=>Z8t hx hm⟩
  have hi':=hi
  obtain ⟨a1,a2,a3,a4,a5,ov,a6,a7,a8⟩:=hi'
  have hkm:=Z8t hx hm
  refine Z4G (st:=st) a3 s1 (by rw [hst]; rfl) ?_
  have hxl:=(Z5t (S:=WOk n) (Z1M w.ok w.hG w.lab4) w.x hx).l
  obtain ⟨r,hr,r1,r2,r3,r4⟩:=ZlE l rp (cw+1) c k x (rgL Gl lab x0 k) ov st h hxl a1 qO qO qO a6 a7 a3 s1 qO
  have hk:G (.rnd st.nt st.lin st.fr st.params l st.assign st.body) ([av x]++st.vals) h c []=some r:=by rw [hst]; exact ZfQ hr
  obtain ⟨O',o1,o2,o3⟩:=hi.app hl rfl lr hx s1 s2 qO a6 a8 a7 r1 r4
  exact .intro hk ⟨_,r4.1,r1,.inl ⟨rfl,O',o1,o2,o3⟩⟩
 obtain ⟨E,hE⟩:∃ E,E=Z7H h0 cw 66 [6] #[60] Z26 Z23 [ptrTo rp]:=⟨_,rfl⟩
 have hEf:∀ i,i<l->E.f i=h0.f i:=fun i hi'=>by
  rw [hE,Z1y,if_neg qO,if_neg qO]
 have hI0:RI l rp (cw+1) cw st Gl x0 lab h0 0 (fun _=>False) E (cw+1):=by
  refine ⟨Nat.le_refl _,fun j hj _=>hEf j qO, ?_, ?_,by omega,_,(hEf rp qO).trans ho,.inl ⟨rfl,rfl,rfl⟩,fun b=>⟨fun q=>q.elim,fun q=>(q.1 rfl).elim⟩⟩
  · rw [hE,Z1y,if_pos hl,hst,hl]
  · rw [hE,Z1y,if_neg qO,if_pos qO]
 obtain ⟨⟨re,rv,rh,rc,rd⟩,hr,r1,r2,r3⟩:=Zc1 hI w.ok w.hG w.hn w.lab4 qO qO w.x [] fb (fun _=>False) E hI0 (by rw [hEf _ qO]; exact w.f)
 dsimp only at r1 r2 r3
 simp only [Rt.mk.injEq] at r1
 obtain ⟨rfl,rfl,-,-,rfl⟩:=r1
 rcases r3 with ⟨k,x,-,hf⟩ | ⟨k,x,O,hx,hx2,hi⟩
 · exact hf.elim
 · obtain ⟨a1,a2,a3,a4,a5,ov,a6,a7,a8⟩:=hi
   rw [hl,hE] at hr
   refine Z3P (.intro hr ⟨st,.normal,by rw [← hl]; exact a3,by rw [s1]; simp,by rw [s2]; rfl,k,x,ov,rfl,by dsimp only; omega,rfl, ?_,fun j hj hne=>?_,hx,hx2, ?_, ?_⟩)
   · show (HeapC.del rh (256*cw)).f _=_
     rw [Z6j,if_neg qO,← hl]; exact a4
   · show (HeapC.del rh (256*cw)).f _=_
     rw [Z6j,if_neg qO]; exact a2 j hj hne
   · show (HeapC.del rh (256*cw)).f _=_
     rw [Z6j,if_neg qO]; exact a6
   · exact Z5Z (a7.keep fun hv=>by rw [Z6j,if_neg (by have:=(a7.blk hv).1; omega)]) qO
structure RJ (l sp c1 cw:Nat) (st:ALoop) (Gl x0:List Int) (lab:Nat) (h0:FH) (k:Nat) (O:Nat->Prop) (h:FH) (c:Nat):Prop where
 lc:c1<=c
 fr:∀ j,j<256*cw->j ≠ sp->h.f j=h0.f j
 lp:h.f l=some (.loop st)
 df:h.f (l+1)=some .dfr
 o:∀ b,¬ O b
 sp:∃ y,h.f sp=some (.cells false none (ints y))/\y.length=5/\(1<=k->it (wN Gl lab) x0 (k-1)=some y)
theorem ZeO {s:Value} {n:Nat} {Gl x0:List Int} {lab fb gb lb cb cw sp:Nat} {h0:FH} (w:WC s n Gl x0 lab fb gb lb cb cw h0) (lr:sp<256*cw) (hrc:256*cb<=sp) (nf:fb ≠ sp) (ng:gb ≠ sp) (nl:lb ≠ sp) (ho:h0.f sp=some (.cells false none (ints x0))) {m:Nat} (hm:it (wN Gl lab) x0 m=none) (df:List Nat) :
 Ans (Z3t G 66 none [11] [] #[55] Z27 Z24 (.func (.func 78) [].toArray [ptrTo fb,ptrTo gb,ptrTo lb].toArray) [ptrTo sp] h0 cw df) fun q=>∃ k x,q.1 = .normal/\cw+1<=q.2.2.1/\q.2.2.2=(256*cw+1)::df/\q.2.1.f (256*cw+1)=some .dfr/\(∀ j,j<256*cw->j ≠ sp->q.2.1.f j=h0.f j) ∧
  it (wN Gl lab) x0 k=some x/\it (wN Gl lab) x0 (k+1)=none/\q.2.1.f sp=some (.cells false none (ints x)):=by
 obtain ⟨l,hl⟩:∃ l,l=256*cw:=⟨_,rfl⟩
 obtain ⟨st,hst⟩:∃ st,st=Z7G 66 [11] #[55] Z27 Z24 [ptrTo sp] (l+1):=⟨_,rfl⟩
 have s1:st.state = .ready:=by rw [hst]; rfl
 have s2:st.pending=none:=by rw [hst]; rfl
 have b1:=w.lf
 have b2:=w.lg
 have b3:=w.ll
 have b4:=w.bc
 have hI:WkI (.func (.yield l) #[] #[]) s n Gl lab gb lb (cw+1) x0 (RJ l sp (cw+1) cw st Gl x0 lab h0) (fun _ _ _=>False) m:=by
  refine ⟨fun k O h c h' c' hi hc hh=>?_,fun k O h c hi=>?_,fun k x O h c hx hi=>?_,fun k x O h c hx hi=>Z8t hx hm⟩
  · obtain ⟨a1,a2,a3,a4,a5,y,a6,a7⟩:=hi
    exact ⟨by omega,fun j hj hne=>(hh j qO (.inl qO)).trans (a2 j hj hne),(hh l qO (.inl qO)).trans a3,(hh (l+1) qO (.inl qO)).trans a4,a5,y,(hh sp qO (.inl qO)).trans a6,a7⟩
  · obtain ⟨a1,a2,a3,a4,a5,-⟩:=hi
    obtain ⟨ro,op,q1⟩:=w.g
    obtain ⟨ro2,op2,q2⟩:=w.l
    exact ⟨⟨ro,op,(a2 gb b2 ng).trans q1⟩,⟨ro2,op2,(a2 lb b3 nl).trans q2⟩,(w.sl.same fun j hj=>a2 j qO qO).mono qO,a1,fun b hb=>(a5 b hb).elim⟩
  · obtain ⟨a1,a2,a3,a4,a5,y,a6,a7,a8⟩:=hi
    refine Z4G (st:=st) a3 s1 (by rw [hst]; rfl) ?_
    have hxl:=(Z5t (S:=WOk n) (Z1M w.ok w.hG w.lab4) w.x hx).l
    obtain ⟨r,hr,r1,r2,r3,r4,r5,r6,r7⟩:=ZlF l sp (cw+1) c x y st h hxl a7 a1 qO qO qO a6 a3 s1
    have hk:G (.rnd st.nt st.lin st.fr st.params l st.assign st.body) ([av x]++st.vals) h c []=some r:=by rw [hst]; exact ZfR hr
    have est:({ st with state:=.ready,pending:=none }:ALoop)=st:=by rw [hst]; rfl
    rw [est] at r5
    exact .intro hk ⟨_,r4,r1,.inl ⟨rfl,fun _=>False,fun b e=>e.elim,⟨by dsimp only; omega,fun j hj hne=>(r7 j qO qO hne).trans (a2 j hj hne),r5,(r7 (l+1) qO qO qO).trans a4,fun b e=>e,x,r6,hxl,fun _=>hx⟩,fun b e1 e2 e3=>r7 b e1 qO qO⟩⟩
 obtain ⟨E,hE⟩:∃ E,E=Z7H h0 cw 66 [11] #[55] Z27 Z24 [ptrTo sp]:=⟨_,rfl⟩
 have hEf:∀ i,i<l->E.f i=h0.f i:=fun i hi'=>by
  rw [hE,Z1y,if_neg qO,if_neg qO]
 have hI0:RJ l sp (cw+1) cw st Gl x0 lab h0 0 (fun _=>False) E (cw+1):=by
  refine ⟨Nat.le_refl _,fun j hj _=>hEf j qO, ?_, ?_,fun b e=>e,x0,(hEf sp qO).trans ho,w.x.l,fun e=>by omega⟩
  · rw [hE,Z1y,if_pos hl,hst,hl]
  · rw [hE,Z1y,if_neg qO,if_pos qO]
 obtain ⟨⟨re,rv,rh,rc,rd⟩,hr,r1,r2,r3⟩:=Zc1 hI w.ok w.hG w.hn w.lab4 qO qO w.x [] fb (fun _=>False) E hI0 (by rw [hEf _ qO]; exact w.f)
 dsimp only at r1 r2 r3
 simp only [Rt.mk.injEq] at r1
 obtain ⟨rfl,rfl,-,-,rfl⟩:=r1
 rcases r3 with ⟨k,x,-,hf⟩ | ⟨k,x,O,hx,hx2,hi⟩
 · exact hf.elim
 · obtain ⟨a1,a2,a3,a4,a5,y,a6,a7,a8⟩:=hi
   have e8:=a8 qO
   rw [Nat.add_sub_cancel,hx] at e8
   cases e8
   rw [hl,hE] at hr
   refine Z3P (.intro hr ⟨st,.normal,by rw [← hl]; exact a3,by rw [s1]; simp,by rw [s2]; rfl,k,x,rfl,by dsimp only; omega,rfl, ?_,fun j hj hne=>?_,hx,hx2, ?_⟩)
   · show (HeapC.del rh (256*cw)).f _=_
     rw [Z6j,if_neg qO,← hl]; exact a4
   · show (HeapC.del rh (256*cw)).f _=_
     rw [Z6j,if_neg qO]; exact a2 j hj hne
   · show (HeapC.del rh (256*cw)).f _=_
     rw [Z6j,if_neg qO]; exact a6

theorem Z98 {Gl:List Int} {n lab:Nat} (hok:Z0A Gl n=true) (hG:Gl.length=n*20) (hl:lab<4) (a a' b:List Int) (h1:WOk n a) (h2:WOk n a') (e1:wN Gl lab a=some b) (e2:wN Gl lab a'=some b):a=a':=by
 obtain ⟨lab',q1,q2⟩:∃ lab',lab'<4/\Z7P.getD lab' 0=lab:=by
  match lab,hl with
  | 0,_=>exact ⟨0,by omega,rfl⟩
  | 1,_=>exact ⟨1,by omega,rfl⟩
  | 2,_=>exact ⟨3,by omega,rfl⟩
  | 3,_=>exact ⟨2,by omega,rfl⟩
 have f1:=Z4e hok hG hl q1 q2 a b h1 e1
 rw [Z4e hok hG hl q1 q2 a' b h2 e2] at f1
 exact (Option.some.inj f1).symm
def RgC (Gl x0:List Int) (lab k:Nat):Prop:=1<=k/\it (wN Gl lab) x0 k=some x0 /\ ∀ j,1<=j->j<k->it (wN Gl lab) x0 j ≠ some x0
theorem ZeN {s:Value} {n:Nat} {Gl x0:List Int} {lab fb gb lb fp cb cw rp tp ep:Nat} {h0:FH} (w:WC s n Gl x0 lab fb gb lb cb cw h0) (lr:rp<256*cw) (hrc:256*cb<=rp) (nf:fb ≠ rp) (ng:gb ≠ rp) (nl:lb ≠ rp) (lt:tp<256*cw) (le:ep<256*cw) (lfp:fp<256*cw) (np:fp ≠ rp)
 (n5:rp ≠ tp) (n6:rp ≠ ep) (n7:tp ≠ ep)
 (ho:h0.f rp=some (.cells false none [.slice none 0 0])) (ht:h0.f tp=some (.cells false none [.bool false])) (he:h0.f ep=some (.cells false none [.int .i64 0])) (hp:Z0d h0 fp (ints x0)) (df:List Nat) :
 Ans (Z3t G 66 none [6,7,8,9] [] #[37] Z28 Z25 (.func (.func 78) [].toArray [ptrTo fb,ptrTo gb,ptrTo lb].toArray) [ptrTo rp,ptrTo tp,ptrTo ep,ptrTo fp] h0 cw df) fun q=>cw+1<=q.2.2.1/\q.2.2.2=(256*cw+1)::df/\q.2.1.f (256*cw+1)=some .dfr/\(∀ j,j<256*cw->j ≠ rp->j ≠ tp->q.2.1.f j=h0.f j) ∧
  ((q.1 = .ret/\q.2.1.f tp=some (.cells false none [.bool true]) /\ ∃ k ov,RgC Gl x0 lab k/\q.2.1.f rp=some (.cells false none [ov])/\GrC cw q.2.1 q.2.2.1 ov 5 k (ints (rgL Gl lab x0 k))) ∨
   (q.1 = .normal/\q.2.1.f tp=some (.cells false none [.bool false]) /\ ∃ m ov,it (wN Gl lab) x0 m=none/\q.2.1.f rp=some (.cells false none [ov])/\Z06 ov=true/\ov.cells = #[ov])):=by
 obtain ⟨l,hl⟩:∃ l,l=256*cw:=⟨_,rfl⟩
 obtain ⟨st,hst⟩:∃ st,st=Z7G 66 [6,7,8,9] #[37] Z28 Z25 [ptrTo rp,ptrTo tp,ptrTo ep,ptrTo fp] (l+1):=⟨_,rfl⟩
 have s1:st.state = .ready:=by rw [hst]; rfl
 have s2:st.pending=none:=by rw [hst]; rfl
 have b1:=w.lf
 have b2:=w.lg
 have b3:=w.ll
 have b4:=w.bc
 have hn:=w.hn
 have hx0:=w.x
 have hend:=ZbE (f:=wN Gl lab) (S:=WOk n) (cd:=wCd) (N:=256*n) (s:=x0) (Z1M w.ok w.hG w.lab4) Z7r Z4M (Z98 w.ok w.hG w.lab4) hx0
 have fuel:∀ k x,it (wN Gl lab) x0 k=some x->(∀ j,1<=j->j<k->it (wN Gl lab) x0 j ≠ some x0)->k<=256*n:=fun k x hx hj=>by
  rcases hend with ⟨m,m1,m2⟩ | ⟨m,m1,m2,m3⟩
  · have:=Z8t hx m2; omega
  · rcases Nat.lt_or_ge m k with q | q
    · exact absurd m3 (hj m m1 q)
    · omega
 have hI:WkI (.func (.yield l) #[] #[]) s n Gl lab gb lb (cw+1) x0 (fun k O h c=>RI l rp (cw+1) cw st Gl x0 lab h0 k O h c /\ ∀ j,1<=j->j<k->it (wN Gl lab) x0 j ≠ some x0)
  (fun k h c=>cw+1<=c/\h.f l=some (.loop { st with state:=.done,pending:=some .ret })/\h.f (l+1)=some .dfr/\h.f tp=some (.cells false none [.bool true])/\(∀ j,j<256*cw->j ≠ rp->j ≠ tp->h.f j=h0.f j)/\RgC Gl x0 lab k /\ ∃ ov,h.f rp=some (.cells false none [ov])/\GrC (cw+1) h c ov 5 k (ints (rgL Gl lab x0 k))) (256*n+1):=by
  refine ⟨fun k O h c h' c' hi hc hh=>⟨hi.1.stab hl rfl lr hc hh,hi.2⟩,fun k O h c hi=>hi.1.read w rfl hrc ng nl,fun k x O h c hx hi=>?_,fun k x O h c hx hi=>by have:=fuel k x hx hi.2; omega⟩
  obtain ⟨hi,hj⟩:=hi
  have hi':=hi
  obtain ⟨a1,a2,a3,a4,a5,ov,a6,a7,a8⟩:=hi'
  have hkm:=fuel k x hx hj
  refine Z4G (st:=st) a3 s1 (by rw [hst]; rfl) ?_
  have hxl:=(Z5t (S:=WOk n) (Z1M w.ok w.hG w.lab4) hx0 hx).l
  have hp':Z0d h fp (ints x0):=by
   obtain ⟨ro,op,q⟩:=hp
   exact ⟨ro,op,(a2 fp lfp np).trans q⟩
  obtain ⟨r,hr,r1,r2,r3,r4⟩:=ZlG l rp tp ep fp (cw+1) c k x x0 (rgL Gl lab x0 k) ov st h hxl hx0.l a1 qO qO qO qO qO qO qO qO qO n5 n6 n7 a6 ((a2 tp lt (Ne.symm n5)).trans ht) ((a2 ep le (Ne.symm n6)).trans he) hp' a7 a3 s1 qO
  have hk:G (.rnd st.nt st.lin st.fr st.params l st.assign st.body) ([av x]++st.vals) h c []=some r:=by rw [hst]; exact ZfS hr
  rcases r4 with ⟨q1,q2,q3,q4,q5,q6⟩ | ⟨q1,q2⟩
  · subst q2
    refine .intro hk ⟨_,q3,r1,.inr ⟨rfl,by dsimp only; omega,q4, ?_,q5,fun j hj' e1 e2=>?_,⟨q1,hx,hj⟩,ov, ?_, ?_⟩⟩
    · exact (q6 (l+1) qO qO qO).trans a4
    · exact (q6 j qO qO e2).trans (a2 j hj' e1)
    · exact (q6 rp qO qO n5).trans a6
    · exact (a7.keep fun hv=>q6 _ (a7.blk hv).2 (by have:=(a7.blk hv).1; omega) (by have:=(a7.blk hv).1; omega)).mono r1
  · obtain ⟨O',o1,o2,o3⟩:=hi.app hl rfl lr hx s1 s2 qO a6 a8 a7 r1 q2
    refine .intro hk ⟨_,q2.1,r1,.inl ⟨rfl,O',o1,⟨o2,fun j e1 e2=>?_⟩,o3⟩⟩
    by_cases e:j=k
    · subst e
      rw [hx]
      exact fun z=>q1 ⟨by omega,Option.some.inj z⟩
    · exact hj j e1 qO
 obtain ⟨E,hE⟩:∃ E,E=Z7H h0 cw 66 [6,7,8,9] #[37] Z28 Z25 [ptrTo rp,ptrTo tp,ptrTo ep,ptrTo fp]:=⟨_,rfl⟩
 have hEf:∀ i,i<l->E.f i=h0.f i:=fun i hi'=>by
  rw [hE,Z1y,if_neg qO,if_neg qO]
 have hI0:RI l rp (cw+1) cw st Gl x0 lab h0 0 (fun _=>False) E (cw+1):=by
  refine ⟨Nat.le_refl _,fun j hj _=>hEf j qO, ?_, ?_,by omega,_,(hEf rp qO).trans ho,.inl ⟨rfl,rfl,rfl⟩,fun b=>⟨fun q=>q.elim,fun q=>(q.1 rfl).elim⟩⟩
  · rw [hE,Z1y,if_pos hl,hst,hl]
  · rw [hE,Z1y,if_neg qO,if_pos qO]
 obtain ⟨⟨re,rv,rh,rc,rd⟩,hr,r1,r2,r3⟩:=Zc1 hI w.ok w.hG w.hn w.lab4 qO qO w.x [] fb (fun _=>False) E ⟨hI0,fun j _ e=>by omega⟩ (by rw [hEf _ qO]; exact w.f)
 dsimp only at r1 r2 r3
 simp only [Rt.mk.injEq] at r1
 obtain ⟨rfl,rfl,-,-,rfl⟩:=r1
 rw [hl,hE] at hr
 have dl:∀ j,j ≠ l->(HeapC.del rh (256*cw)).f j=rh.f j:=fun j hj=>by rw [Z6j,if_neg qO]
 rcases r3 with ⟨k,x,hx,a1,a3,a4,a5,a2,rc',ov,a6,a7⟩ | ⟨k,x,O,hx,hx2,hi,-⟩
 · refine Z3P (.intro hr ⟨_,.ret,by rw [← hl]; exact a3,by simp,rfl,by dsimp only; omega,rfl, ?_,fun j hj e1 e2=>?_,.inl ⟨rfl, ?_,k,ov,rc', ?_, ?_⟩⟩)
   · exact (dl _ qO).trans (by rw [← hl]; exact a4)
   · exact (dl _ qO).trans (a2 j hj e1 e2)
   · exact (dl _ qO).trans a5
   · exact (dl _ qO).trans a6
   · exact Z5Z (a7.keep fun hv=>dl _ (by have:=(a7.blk hv).1; omega)) qO
 · obtain ⟨a1,a2,a3,a4,a5,ov,a6,a7,a8⟩:=hi
   refine Z3P (.intro hr ⟨st,.normal,by rw [← hl]; exact a3,by rw [s1]; simp,by rw [s2]; rfl,by dsimp only; omega,rfl, ?_,fun j hj e1 e2=>?_,.inr ⟨rfl, ?_,k+1,ov,hx2, ?_,a7.flat⟩⟩)
   · exact (dl _ qO).trans (by rw [← hl]; exact a4)
   · exact (dl _ qO).trans (a2 j hj e1)
   · exact (dl _ qO).trans ((a2 tp lt (Ne.symm n5)).trans ht)
   · exact (dl _ qO).trans a6

theorem Zgx (p:List Int) (hp:p.length=4) (h:FH) (b1 b3 c:Nat) (hb1:b1<256*c) (hb3:b3<256*c) (hne:b1 ≠ b3) (hh:Z0d h b1 (ints p)) (df:List Nat):∀ (k i:Nat) (m:List Bool),i+k=4->m.length=4 →
 Ans (G (Z44 none) [ptrTo b1,.bool false,ptrTo b3,.int .i64 i] (newB h b3 (bools m)) c df) fun r=>r.c=c/\r.df=df/\(∃ cs,r.h=newB h b3 cs) ∧
  (if Zi4 (p.drop i) m=true then r.e = .exit 0 else r.e = .ret/\r.v 1 = .bool false):=by
 intro k
 induction k with
 | zero =>
  intro i m hi hm
  obtain rfl:i=4:=by omega
  rw [List.drop_of_length_le qO]
  refine .intro (Z5f (q:=⟨.exit 0,[ptrTo b1,.bool false,ptrTo b3,.int .i64 (4:Nat)],newB h b3 (bools m),c+1,df⟩) (by unfold Z1b; simp) (by simp)) ?_
  rw [Z1f (by simp [hb1,hb3])]
  refine ⟨rfl,rfl,⟨_,rfl⟩, ?_⟩
  simp [Zi4]
 | succ k ih =>
  intro i m hi hm
  have hlt:i<p.length:=by omega
  have e0:(i:Int)<4:=by omega
  have hld:∀ j,j<4->ld1 (newB h b3 (bools m)) (.pointer (some ⟨b1,j,none⟩))=some (.int .i64 (p.getD j 0)):=fun j hj=>by
   rw [ld1_newB_ne _ _ _ _ _ hne]
   exact ld1_holds hh (by rw [ints_getD _ _ qO])
  have hldi:=hld i qO
  obtain ⟨x,hx⟩:∃ x,x=p.getD i 0:=⟨_,rfl⟩
  have hdr:p.drop i=x::p.drop (i+1):=by
   rw [List.drop_eq_getElem_cons hlt,hx]
   simp [List.getD,List.getElem?_eq_getElem hlt]
  rw [hdr,Zi4]
  rw [← hx] at hldi
  by_cases h1:x<0
  · rw [if_pos (Or.inl h1)]
    refine Ans.intro (Z5f (q:=⟨.ret,[ptrTo b1,.bool false,ptrTo b3,.int .i64 i],newB h b3 (bools m),_,df⟩) (Ans.eq (by
     unfold Z1b
     repeat (first | (with_reducible refine Ans.bt ?_ ?_; exact rfl) | (with_reducible refine Ans.bf ?_ ?_; exact rfl) | (with_reducible refine Ans.ct ?_ ?_; focus (simp; done)) | (with_reducible refine Ans.cf ?_ ?_; focus (simp; done)) | refine Ans.step (by simp (disch:=(first | omega | (simp <;> omega) | fail)) [e0,hldi,h1,-List.getD_eq_getElem?_getD] <;> rfl) ?_)
     exact .done rfl)) (by simp)) ?_
    rw [Z1f (by simp [hb1,hb3])]
    exact ⟨rfl,rfl,⟨_,rfl⟩,by simp⟩
  by_cases h2:3<x
  · rw [if_pos (Or.inr h2)]
    refine Ans.intro (Z5f (q:=⟨.ret,[ptrTo b1,.bool false,ptrTo b3,.int .i64 i],newB h b3 (bools m),_,df⟩) (Ans.eq (by
     unfold Z1b
     repeat (first | (with_reducible refine Ans.bt ?_ ?_; exact rfl) | (with_reducible refine Ans.bf ?_ ?_; exact rfl) | (with_reducible refine Ans.ct ?_ ?_; focus (simp; done)) | (with_reducible refine Ans.cf ?_ ?_; focus (simp; done)) | refine Ans.step (by simp (disch:=(first | omega | (simp <;> omega) | fail)) [e0,hldi,h1,h2,-List.getD_eq_getElem?_getD] <;> rfl) ?_)
     exact .done rfl)) (by simp)) ?_
    rw [Z1f (by simp [hb1,hb3])]
    exact ⟨rfl,rfl,⟨_,rfl⟩,by simp⟩
  rw [if_neg qO]
  have hldm:ld1 (newB h b3 (bools m)) (.pointer (some ⟨b3,x.toNat,none⟩))=some (.bool (m.getD x.toNat false)):=by
   rw [ld1_newB_same,ZhD _ _ qO]
  by_cases h3:m.getD x.toNat false=true
  · rw [if_pos h3]
    rw [h3] at hldm
    refine Ans.intro (Z5f (q:=⟨.ret,[ptrTo b1,.bool false,ptrTo b3,.int .i64 i],newB h b3 (bools m),_,df⟩) (Ans.eq (by
     unfold Z1b
     repeat (first | (with_reducible refine Ans.bt ?_ ?_; exact rfl) | (with_reducible refine Ans.bf ?_ ?_; exact rfl) | (with_reducible refine Ans.ct ?_ ?_; focus (simp; done)) | (with_reducible refine Ans.cf ?_ ?_; focus (simp; done)) | refine Ans.step (by simp (disch:=(first | omega | (simp <;> omega) | fail)) [e0,hldi,h1,h2,hldm,-List.getD_eq_getElem?_getD] <;> rfl) ?_)
     exact .done rfl)) (by simp)) ?_
    rw [Z1f (by simp [hb1,hb3])]
    exact ⟨rfl,rfl,⟨_,rfl⟩,by simp⟩
  rw [if_neg h3]
  have h3':m.getD x.toNat false=false:=by simpa using h3
  rw [h3'] at hldm
  obtain ⟨r,hr,hq⟩:=ih (i+1) (m.set x.toNat true) qO (by simpa using hm)
  have hst:stN (newB h b3 (bools m)) 1 (.pointer (some ⟨b3,x.toNat,none⟩)) (.bool true)=some (newB h b3 (bools (m.set x.toNat true))):=by
   rw [st1_bool _ _ _ _ _ (by rw [ZbQ]; omega),ZhC]
  refine .intro (ZfD (q:=⟨.normal,[ptrTo b1,.bool false,ptrTo b3,.int .i64 (i+1:Nat)],newB h b3 (bools (m.set x.toNat true)),_,df⟩) (Ans.eq (by
   unfold Z1b
   repeat (first | (with_reducible refine Ans.bt ?_ ?_; exact rfl) | (with_reducible refine Ans.bf ?_ ?_; exact rfl) | (with_reducible refine Ans.ct ?_ ?_; focus (simp; done)) | (with_reducible refine Ans.cf ?_ ?_; focus (simp; done)) | refine Ans.step (by simp (disch:=(first | omega | (simp <;> omega) | fail)) [e0,hldi,h1,h2,hldm,hst,-List.getD_eq_getElem?_getD] <;> rfl) ?_)
   exact .done rfl)) rfl ?_) hq
  rw [Zax hb3 (by simp [hb1,hb3]) (Z1l.bools _ _)]
  exact hr
theorem Zgf (p:List Int) (hp:p.length=4) (h:FH) (c:Nat) (df:List Nat) :
 G (.fn 44) [av p] h c df=some ⟨.ret,[.bool (Z0y p)],h,c,[]⟩:=by
 refine Z4R (fun r e=>f44_go e) (by simp) ?_
 obtain ⟨⟨re,rv,rh,rc,rd⟩,hr,h1,h2,⟨cs,h3⟩,h4⟩:=Zgx p hp (newB h (256*c) (ints p)) (256*c) (256*(c+1)) (c+1+1+1) qO qO qO (Z0d.newB_same _ _ _) [] 4 0 [false,false,false,false] rfl rfl
 simp only at h1 h2 h3
 subst h1 h2 h3
 rw [← ZlJ p hp]
 unfold Zhl
 simp only [List.drop_zero] at h4
 simp only [Int.ofNat_eq_natCast,Int.cast_ofNat_Int] at hr
 have hb:bools [false,false,false,false]=[.bool false,.bool false,.bool false,.bool false]:=rfl
 rw [hb] at hr
 cases hv:Zi4 p [false,false,false,false] with
 | true =>
  rw [hv,if_pos rfl] at h4
  subst h4
  simp (disch:=omega) [hr,hp]
 | false =>
  rw [hv,if_neg (by simp)] at h4
  obtain ⟨rfl,h5⟩:=h4
  simp (disch:=omega) [hr,hp,h5]
theorem Z0L (p:List Int) (hp:p.length=4) (h:FH) (c:Nat):callF G 44 [av p] h c=some (.bool (Z0y p),h,c):=Z0b (Zgf p hp h c [])
theorem Zau (p:List Int) (hp:p.length=4) (hr:InR p) (h:FH) (b1 b2 b3 c:Nat) (hb1:b1<256*c) (hb2:b2<256*c) (hb3:b3<256*c) (hne:b1 ≠ b3) (hh:Z0d h b1 (ints p)) (df:List Nat):∀ (k i:Nat) (out:List Int),i+k=4->out.length=4 →
 G (Z43 none) [ptrTo b1,ptrTo b2,ptrTo b3,.int .i64 i] (newB h b3 (ints out)) c df =
  some ⟨.exit 0,[ptrTo b1,ptrTo b2,ptrTo b3,.int .i64 4],newB h b3 (ints (ZeY (p.drop i) i out)),c,df⟩:=by
 intro k
 induction k with
 | zero =>
  intro i out hi ho
  obtain rfl:i=4:=by omega
  rw [List.drop_of_length_le qO]
  refine (ZfB (q:=⟨.exit 0,[ptrTo b1,ptrTo b2,ptrTo b3,.int .i64 4],newB h b3 (ints out),c+1,df⟩) (by unfold Z22; simp) (by simp)).trans ?_
  rw [Z1f (by simp [hb1,hb2,hb3])]
  rfl
 | succ k ih =>
  intro i out hi ho
  have hlt:i<p.length:=by omega
  have e0:(i:Int)<4:=by omega
  have hld:ld1 (newB h b3 (ints out)) (.pointer (some ⟨b1,i,none⟩))=some (.int .i64 (p.getD i 0)):=by
   rw [ld1_newB_ne _ _ _ _ _ hne]
   exact ld1_holds hh (by rw [ints_getD _ _ qO])
  obtain ⟨x,hx⟩:∃ x,x=p.getD i 0:=⟨_,rfl⟩
  have hdr:p.drop i=x::p.drop (i+1):=by
   rw [List.drop_eq_getElem_cons hlt,hx]
   simp [List.getD,List.getElem?_eq_getElem hlt]
  have hxr:0<=x/\x<4:=by
   rw [hx]
   have:=hr p[i] (List.getElem_mem hlt)
   simpa [List.getD,List.getElem?_eq_getElem hlt] using this
  rw [hdr,ZeY]
  rw [← hx] at hld
  refine ZfC (q:=⟨.normal,[ptrTo b1,ptrTo b2,ptrTo b3,.int .i64 (i+1:Nat)],newB h b3 (ints (out.set x.toNat i)),_,df⟩) (Ans.eq (by
   unfold Z22
   repeat (first | (with_reducible refine Ans.bt ?_ ?_; exact rfl) | (with_reducible refine Ans.bf ?_ ?_; exact rfl) | (with_reducible refine Ans.ct ?_ ?_; focus (simp; done)) | (with_reducible refine Ans.cf ?_ ?_; focus (simp; done)) | refine Ans.step (by simp (disch:=(first | omega | (simp <;> omega) | fail)) [e0,hld,hxr,ho,-List.getD_eq_getElem?_getD] <;> rfl) ?_)
   exact .done rfl)) rfl ?_
  rw [Zax hb3 (by simp [hb1,hb2,hb3]) (by simp)]
  exact ih (i+1) _ qO (by simpa using ho)
def invR (p:List Int):List Int:=if Z0y p=true then inv p else [0,0,0,0]
theorem Zcp (p:List Int) (hp:p.length=4) (h:FH) (c:Nat) (df:List Nat) :
 G (.fn 45) [av p] h c df=some ⟨.ret,[av (invR p)],h,c,[]⟩:=by
 refine Z4R (fun r e=>f45_go e) (by simp) ?_
 have e1:p.take 4=p:=List.take_of_length_le qO
 have hv:=fun h c=>Z0L p hp h c
 unfold Zhk invR
 by_cases hb:Z0y p=true
 · rw [if_pos hb]
   rw [hb] at hv
   have hl:=Zau p hp (Z1E hb) (newB (newB h (256*c) (ints p)) (256*c+1) (ints [0,0,0,0])) (256*c) (256*c+1) (256*(c+1)) (c+1+1+1+1) qO qO qO qO
    (Z0d.newB_ne qO (Z0d.newB_same _ _ _)) [] 4 0 [0,0,0,0] rfl rfl
   have hl2:(ZeY p 0 [0,0,0,0]).length=4:=Z3y p 0 [0,0,0,0]
   have e2:(ZeY p 0 [0,0,0,0]).take 4=ZeY p 0 [0,0,0,0]:=List.take_of_length_le qO
   simp only [ZbG,Ze1,Int.ofNat_eq_natCast,Int.cast_ofNat_Int,List.drop_zero] at hl
   simp (disch:=(first | omega | (simp <;> omega) | fail)) [hl,e1,e2,hp,hl2,inv,hv]
 · rw [if_neg hb]
   have hb':Z0y p=false:=by simpa using hb
   rw [hb'] at hv
   have hz:[Value.int .i64 0,Value.int .i64 0,Value.int .i64 0,Value.int .i64 0]=ints [0,0,0,0]:=rfl
   rw [hz]
   repeat (first | (with_reducible refine Ans.bt ?_ ?_; exact rfl) | (with_reducible refine Ans.bf ?_ ?_; exact rfl) | (with_reducible refine Ans.ct ?_ ?_; focus (simp; done)) | (with_reducible refine Ans.cf ?_ ?_; focus (simp; done)) | refine Ans.step (by simp (disch:=(first | omega | (simp <;> omega) | fail)) [e1,hp,hv,-List.getD_eq_getElem?_getD] <;> rfl) ?_)
   refine .done ⟨rfl,rfl, ?_,rfl⟩
   simp (disch:=omega)
theorem Zb8 (p q:List Int) (hp:p.length=4) (hq:q.length=4) (hr:InR q) (h:FH) (b1 b2 b3 b4 c:Nat) (hb1:b1<256*c) (hb2:b2<256*c) (hb3:b3<256*c) (hb4:b4<256*c) (hne1:b1 ≠ b4) (hne2:b2 ≠ b4)
 (hh1:Z0d h b1 (ints p)) (hh2:Z0d h b2 (ints q)) (df:List Nat):∀ (k i:Nat) (out:List Int),i+k=4->out.length=4->out.take i=(Z13 p q).take i →
 G (Z41 none) [ptrTo b1,ptrTo b2,ptrTo b3,ptrTo b4,.int .i64 i] (newB h b4 (ints out)) c df =
  some ⟨.exit 0,[ptrTo b1,ptrTo b2,ptrTo b3,ptrTo b4,.int .i64 4],newB h b4 (ints (Z13 p q)),c,df⟩:=by
 intro k
 induction k with
 | zero =>
  intro i out hi ho ht
  obtain rfl:i=4:=by omega
  have hcl:(Z13 p q).length=4:=by simp [Z13,hq]
  rw [List.take_of_length_le qO,List.take_of_length_le qO] at ht
  subst ht
  refine (Zfz (q:=⟨.exit 0,[ptrTo b1,ptrTo b2,ptrTo b3,ptrTo b4,.int .i64 4],newB h b4 (ints (Z13 p q)),c+1,df⟩) (by unfold Z42; simp) (by simp)).trans ?_
  rw [Z1f (by simp [hb1,hb2,hb3,hb4])]
 | succ k ih =>
  intro i out hi ho ht
  have hlt:i<q.length:=by omega
  have e0:(i:Int)<4:=by omega
  have hld1:∀ j,j<4->ld1 (newB h b4 (ints out)) (.pointer (some ⟨b1,j,none⟩))=some (.int .i64 (p.getD j 0)):=fun j hj=>by
   rw [ld1_newB_ne _ _ _ _ _ hne1]
   exact ld1_holds hh1 (by rw [ints_getD _ _ qO])
  have hld2:ld1 (newB h b4 (ints out)) (.pointer (some ⟨b2,i,none⟩))=some (.int .i64 (q.getD i 0)):=by
   rw [ld1_newB_ne _ _ _ _ _ hne2]
   exact ld1_holds hh2 (by rw [ints_getD _ _ qO])
  obtain ⟨x,hx⟩:∃ x,x=q.getD i 0:=⟨_,rfl⟩
  have hxr:0<=x/\x<4:=by
   rw [hx]
   have:=hr q[i] (List.getElem_mem hlt)
   simpa [List.getD,List.getElem?_eq_getElem hlt] using this
  rw [← hx] at hld2
  have hld1x:=hld1 x.toNat qO
  refine ZfA (q:=⟨.normal,[ptrTo b1,ptrTo b2,ptrTo b3,ptrTo b4,.int .i64 (i+1:Nat)],newB h b4 (ints (out.set i (p.getD x.toNat 0))),_,df⟩) (Ans.eq (by
   unfold Z42
   repeat (first | (with_reducible refine Ans.bt ?_ ?_; exact rfl) | (with_reducible refine Ans.bf ?_ ?_; exact rfl) | (with_reducible refine Ans.ct ?_ ?_; focus (simp; done)) | (with_reducible refine Ans.cf ?_ ?_; focus (simp; done)) | refine Ans.step (by simp (disch:=(first | omega | (simp <;> omega) | fail)) [e0,hld2,hld1x,hxr,ho,-List.getD_eq_getElem?_getD] <;> rfl) ?_)
   exact .done rfl)) rfl ?_
  rw [Zax hb4 (by simp [hb1,hb2,hb3,hb4]) (by simp)]
  refine ih (i+1) _ qO (by simpa using ho) ?_
  have hcl:(Z13 p q).length=4:=by simp [Z13,hq]
  have hci:(Z13 p q)[i]'qO=p.getD x.toNat 0:=by
   simp only [Z13,List.getElem_map,hx]
   simp [List.getD,List.getElem?_eq_getElem hlt]
  rw [List.take_add_one,List.take_add_one,List.take_set_of_le qO,ht,List.getElem?_set_self qO,List.getElem?_eq_getElem (by omega:i<(Z13 p q).length),hci]
def ZkN (p q:List Int):List Int:=if Z0y p=true/\Z0y q=true then Z13 p q else [0,0,0,0]
theorem Z8K (p q:List Int) (hp:p.length=4) (hq:q.length=4) (h:FH) (c:Nat) (df:List Nat) :
 G (.fn 47) [av p,av q] h c df=some ⟨.ret,[av (ZkN p q)],h,c,[]⟩:=by
 refine Z4R (fun r e=>f47_go e) (by simp) ?_
 have e1:p.take 4=p:=List.take_of_length_le qO
 have e2:q.take 4=q:=List.take_of_length_le qO
 have hv:=fun h c=>Z0L p hp h c
 have hw:=fun h c=>Z0L q hq h c
 have hz:[Value.int .i64 0,Value.int .i64 0,Value.int .i64 0,Value.int .i64 0]=ints [0,0,0,0]:=rfl
 unfold ZmK ZkN
 rw [hz]
 by_cases hb:Z0y p=true
 · rw [hb] at hv
   by_cases hc:Z0y q=true
   · rw [if_pos ⟨hb,hc⟩]
     rw [hc] at hw
     have hcl:(Z13 p q).length=4:=by simp [Z13,hq]
     have e3:(Z13 p q).take 4=Z13 p q:=List.take_of_length_le qO
     have hl:=fun c' (hc':c<c')=>Zb8 p q hp hq (Z1E hc) (newB (newB (newB h (256*c) (ints p)) (256*c+1) (ints q)) (256*c+2) (ints [0,0,0,0])) (256*c) (256*c+1) (256*c+2) (256*(c+1)) (c'+1) qO qO qO qO qO qO
      (Z0d.newB_ne qO (Z0d.newB_ne qO (Z0d.newB_same _ _ _))) (Z0d.newB_ne qO (Z0d.newB_same _ _ _)) [] 4 0 [0,0,0,0] rfl rfl rfl
     have hl1:=hl (c+1+1+1) qO
     simp only [Int.ofNat_eq_natCast,Int.cast_ofNat_Int] at hl1
     repeat (first | (with_reducible refine Ans.bt ?_ ?_; exact rfl) | (with_reducible refine Ans.bf ?_ ?_; exact rfl) | (with_reducible refine Ans.ct ?_ ?_; focus (simp; done)) | (with_reducible refine Ans.cf ?_ ?_; focus (simp; done)) | refine Ans.step (by simp (disch:=(first | omega | (simp <;> omega) | fail)) [e1,e2,e3,hp,hq,hv,hw,hl1,hcl,-List.getD_eq_getElem?_getD] <;> rfl) ?_)
     refine .done ⟨rfl,rfl, ?_,rfl⟩
     simp (disch:=omega)
   · rw [if_neg (fun h=>hc h.2)]
     have hc':Z0y q=false:=by simpa using hc
     rw [hc'] at hw
     repeat (first | (with_reducible refine Ans.bt ?_ ?_; exact rfl) | (with_reducible refine Ans.bf ?_ ?_; exact rfl) | (with_reducible refine Ans.ct ?_ ?_; focus (simp; done)) | (with_reducible refine Ans.cf ?_ ?_; focus (simp; done)) | refine Ans.step (by simp (disch:=(first | omega | (simp <;> omega) | fail)) [e1,e2,hp,hq,hv,hw,-List.getD_eq_getElem?_getD] <;> rfl) ?_)
     refine .done ⟨rfl,rfl, ?_,rfl⟩
     simp (disch:=omega)
 · rw [if_neg (fun h=>hb h.1)]
   have hb':Z0y p=false:=by simpa using hb
   rw [hb'] at hv
   repeat (first | (with_reducible refine Ans.bt ?_ ?_; exact rfl) | (with_reducible refine Ans.bf ?_ ?_; exact rfl) | (with_reducible refine Ans.ct ?_ ?_; focus (simp; done)) | (with_reducible refine Ans.cf ?_ ?_; focus (simp; done)) | refine Ans.step (by simp (disch:=(first | omega | (simp <;> omega) | fail)) [e1,e2,hp,hq,hv,-List.getD_eq_getElem?_getD] <;> rfl) ?_)
   refine .done ⟨rfl,rfl, ?_,rfl⟩
   simp (disch:=omega)

theorem ZkH (a0 a1 a2 a3 b0 b1 b2 b3:Int):Z0F P .eql 42 (av [a0,a1,a2,a3]) (av [b0,b1,b2,b3]) =
 (cond (a0 == b0) (cond (a1 == b1) (cond (a2 == b2) (cond (a3 == b3) (some true) (some false)) (some false)) (some false)) (some false)).bind fun b=>some (.bool b):=by kernel_rfl
theorem Z3L (x y:List Int) (hx:x.length=4) (hy:y.length=4):Z00 P .eql 42 (av x) (av y)=some (.bool (decide (x=y))):=by
 match x,hx,y,hy with
 | [a0,a1,a2,a3],_,[b0,b1,b2,b3],_ =>
  rw [Z0s,ZkH]
  by_cases h0:a0=b0 <;> by_cases h1:a1=b1 <;> by_cases h2:a2=b2 <;> by_cases h3:a3=b3 <;> simp [h0,h1,h2,h3,Bool.cond_eq_ite]
theorem Z92 (p:List Int) (hp:p.length=4) (h:FH) (c:Nat):callF G 45 [av p] h c=some (av (invR p),h,c):=Z0b (Zcp p hp h c [])
theorem Zad {x:Option Nat} {h1 h2:FH} (e:∀ i,x=some i->h1.f i=h2.f i):Z19 x h1 h2=true:=by
 cases x with
 | none=>rfl
 | some i =>
  show @decide (h1.f i=h2.f i) (Classical.propDecidable _)=true
  exact @decide_eq_true _ (Classical.propDecidable _) (e i rfl)
theorem Z9p {x:List Int} (hx:x.length=5):x=Z0Q x::Z0j x:=by
 match x,hx with
 | [a,b,c,d,e],_=>rfl
set_option maxHeartbeats 2000000 in
theorem ZcR (s:Value) (n:Nat) (Gl:List Int) (gb c:Nat) (h:FH) (t f:Nat) (ht:t<n) (hf:f<4) (hgb:gb<256*c)
 (h1:Z0d h gb [s]) (h2:SlI h c s 20 n Gl) (v2:Value) (df:List Nat) :
 Ans (Z1K G none (ptrTo gb) v2 (.int .i64 n) (.int .i64 t) (.int .i64 f) h c df) fun r=>r.df=df/\Z0q c h r.h ∧
  r.e=(if Z0n Gl n t f=true then .normal else .ret)/\r.vs=(if Z0n Gl n t f=true then [ptrTo gb,v2,.int .i64 n,.int .i64 t,.int .i64 (f+1:Nat)] else [ptrTo gb,.int .i64 7,.int .i64 n,.int .i64 t,.int .i64 f]):=by
 have hx:=Z0h h2.1 ht hf
 have hp:=Z1j hx
 have hsp:=Z9p hx
 have ht5:(Z03 Gl t f).take 5=Z03 Gl t f:=List.take_of_length_le qO
 have ft:(f:Int)<4:=by omega
 obtain ⟨b,o,cs,x1,x2,x3,x4⟩:=h2.ix .i64 (t:Int) qO qO
 have hface:∀ u j:Int,0<=u->u<n->0<=j->j<4 -> ∃ b o,ixS 20 s (.int .i64 u)=some (.pointer (some ⟨b,o+u.toNat*20,none⟩))/\(∀ H:FH,(∀ i,i<256*c->H.f i=h.f i)->ldN H 5 (.pointer (some ⟨b,o+u.toNat*20+j.toNat*5,none⟩))=some (av (Z03 Gl u.toNat j.toNat)))/\b<256*c:=by
  intro u j u1 u2 j1 j2
  obtain ⟨b,o,cs,x1,x2,x3,x4⟩:=h2.ix .i64 u u1 u2
  refine ⟨b,o,x1,fun H hH=>?_,x2⟩
  have:=h2.1
  have x3':Z0d H b cs:=by
   obtain ⟨ro,op,e⟩:=x3
   exact ⟨ro,op,(hH b x2).trans e⟩
  rw [Nat.add_assoc,Zaq x3' x4 (j:=u.toNat*20+j.toNat*5) (q:=5) qO qO]
  unfold Z03
  rw [Nat.mul_comm 20,Nat.mul_comm 5]
 obtain ⟨fb,fo,y1,y2,y3⟩:=hface t f qO qO qO qO
 have y2h:=y2 h (fun i hi=>rfl)
 simp only [Int.toNat_natCast] at y1 y2h
 have e2:ld1 h (.pointer (some ⟨gb,0,none⟩))=some s:=by rw [Z05 h1]; rfl
 obtain ⟨H,hH⟩:∃ H,H=newB h (256*(c+1)+7) (ints (Z03 Gl t f)):=⟨_,rfl⟩
 have hst:stN (newB h (256*(c+1)+7) [.int .i64 0,.int .i64 0,.int .i64 0,.int .i64 0,.int .i64 0]) 5 (.pointer (some ⟨256*(c+1)+7,0,none⟩)) (av (Z03 Gl t f))=some H:=by
  rw [stN_all _ _ 5 _ _ hx rfl,hH]
 have hS:Z0q c h H:=by rw [hH]; exact (Same_newB qO).2 (Z0q.refl _ _)
 have hB:Z0d H (256*(c+1)+7) (ints (Z03 Gl t f)):=by rw [hH]; exact Z0d.newB_same _ _ _
 have b1:ld1 H (.pointer (some ⟨256*(c+1)+7,0,none⟩))=some (.int .i64 (Z0Q (Z03 Gl t f))):=by
  rw [Z05 hB,Z4o,List.getElem?_eq_getElem qO]
  simp [Z0Q,List.getD,List.getElem?_eq_getElem (by omega:0<(Z03 Gl t f).length)]
 have b2:ldN H 4 (.pointer (some ⟨256*(c+1)+7,1,none⟩))=some (av (Z0j (Z03 Gl t f))):=by
  rw [ldN_holds hB (by simp [hx])]; rw [Z12,Z0V]; rfl
 have b3:ld1 H (.pointer (some ⟨256*(c+1)+7,1+f,none⟩))=some (.int .i64 ((Z0j (Z03 Gl t f)).getD f 0)):=by
  have hlt:1+f<(Z03 Gl t f).length:=by omega
  rw [Z05 hB,Z4o,List.getElem?_eq_getElem hlt]
  unfold Z0j
  rw [Z4W _ _ _ hf,Z3S]
  simp [List.getD,List.getElem?_eq_getElem hlt]
 have e2':ld1 H (.pointer (some ⟨gb,0,none⟩))=some s:=by
  rw [Z05 (cs:=[s]) (by obtain ⟨ro,op,e⟩:=h1; exact ⟨ro,op,(hS gb hgb).trans e⟩)]; rfl
 have hzz:Z1d [.int .i64 0,.int .i64 0,.int .i64 0,.int .i64 0] []=some (av [0,0,0,0]):=rfl
 have hz4:([0,0,0,0]:List Int).length=4:=rfl
 have hq:∀ (x:Option Nat),Z19 x H H=true:=fun x=>Zad fun i _=>rfl
 clear hH
 obtain ⟨F,hF⟩:∃ F,Z03 Gl t f=F:=⟨_,rfl⟩
 rw [hF] at hx hp hsp ht5 y2h hst b1 b2 b3
 obtain ⟨X,hX⟩:∃ X,Z0Q F=X:=⟨_,rfl⟩
 obtain ⟨Y,hY⟩:∃ Y,Z0j F=Y:=⟨_,rfl⟩
 rw [hX] at b1 hsp
 rw [hY] at b2 b3 hsp hp
 have okE:Z0n Gl n t f=(decide (X = -1/\Y=[0,0,0,0]) || (decide (0<=X) && decide (X<n) && Z0y Y && !(decide (X=t) && decide (Y.getD f 0=f)) && decide (Z03 Gl X.toNat (Y.getD f 0).toNat=(t:Int)::inv Y))):=by
  unfold Z0n
  rw [hF,hX,hY]
  congr 1
  rw [hsp]
  simp [Z6B]
 have hnl:(t:Int)::inv Y=(t:Int)::inv Y:=rfl
 unfold Z1K
 repeat (first | (with_reducible refine Ans.bt ?_ ?_; exact rfl) | (with_reducible refine Ans.bf ?_ ?_; exact rfl) | (with_reducible refine Ans.ct ?_ ?_; focus (simp; done)) | (with_reducible refine Ans.cf ?_ ?_; focus (simp; done)) | refine Ans.step (by simp (disch:=(first | omega | (simp <;> omega) | fail)) [ft,-List.getD_eq_getElem?_getD] <;> rfl) ?_)
 refine Ans.bind ?_
 by_cases q1:X = -1
 · have q1':=eq_true q1
   have q0:=eq_true (show X<0 by omega)
   by_cases q2:Y=[0,0,0,0]
   · have ok:Z0n Gl n t f=true:=by rw [okE]; simp [q1,q2]
     rw [ok]
     have q2':=eq_true q2
     repeat (first | (with_reducible refine Ans.bt ?_ ?_; exact rfl) | (with_reducible refine Ans.bf ?_ ?_; exact rfl) | (with_reducible refine Ans.ct ?_ ?_; focus (simp; done)) | (with_reducible refine Ans.cf ?_ ?_; focus (simp; done)) | refine Ans.step (by simp (disch:=(first | omega | (simp <;> omega) | fail)) [ft,e2,y1,y2h,hst,b1,b2,hzz,hz4,Z3L,hp,q1',q2',-List.getD_eq_getElem?_getD] <;> rfl) ?_)
     refine .done ?_
     repeat (first | (with_reducible refine Ans.bt ?_ ?_; exact rfl) | (with_reducible refine Ans.bf ?_ ?_; exact rfl) | (with_reducible refine Ans.ct ?_ ?_; focus (simp; done)) | (with_reducible refine Ans.cf ?_ ?_; focus (simp; done)) | refine Ans.step (by simp (disch:=(first | omega | (simp <;> omega) | fail)) [ft,-List.getD_eq_getElem?_getD] <;> rfl) ?_)
     exact .done ⟨rfl,hS,by simp,by simp⟩
   · have ok:Z0n Gl n t f=false:=by rw [okE]; simp [q1,q2]
     rw [ok]
     repeat (first | (with_reducible refine Ans.bt ?_ ?_; exact rfl) | (with_reducible refine Ans.bf ?_ ?_; exact rfl) | (with_reducible refine Ans.ct ?_ ?_; focus (simp; done)) | (with_reducible refine Ans.cf ?_ ?_; focus (simp; done)) | refine Ans.step (by simp (disch:=(first | omega | (simp <;> omega) | fail)) [ft,e2,y1,y2h,hst,b1,b2,hzz,hz4,Z3L,hp,q1',q2,q0,-List.getD_eq_getElem?_getD] <;> rfl) ?_)
     refine .done ?_
     repeat (first | (with_reducible refine Ans.bt ?_ ?_; exact rfl) | (with_reducible refine Ans.bf ?_ ?_; exact rfl) | (with_reducible refine Ans.ct ?_ ?_; focus (simp; done)) | (with_reducible refine Ans.cf ?_ ?_; focus (simp; done)) | refine Ans.step (by simp (disch:=(first | omega | (simp <;> omega) | fail)) [ft,-List.getD_eq_getElem?_getD] <;> rfl) ?_)
     exact .done ⟨rfl,hS,by simp,by simp⟩
 by_cases q3:X<0
 · have ok:Z0n Gl n t f=false:=by
    have:¬ 0<=X:=by omega
    rw [okE]; simp [q1,this]
   rw [ok]
   repeat (first | (with_reducible refine Ans.bt ?_ ?_; exact rfl) | (with_reducible refine Ans.bf ?_ ?_; exact rfl) | (with_reducible refine Ans.ct ?_ ?_; focus (simp; done)) | (with_reducible refine Ans.cf ?_ ?_; focus (simp; done)) | refine Ans.step (by simp (disch:=(first | omega | (simp <;> omega) | fail)) [ft,e2,y1,y2h,hst,b1,b2,hzz,hz4,Z3L,hp,q1,q3,-List.getD_eq_getElem?_getD] <;> rfl) ?_)
   refine .done ?_
   repeat (first | (with_reducible refine Ans.bt ?_ ?_; exact rfl) | (with_reducible refine Ans.bf ?_ ?_; exact rfl) | (with_reducible refine Ans.ct ?_ ?_; focus (simp; done)) | (with_reducible refine Ans.cf ?_ ?_; focus (simp; done)) | refine Ans.step (by simp (disch:=(first | omega | (simp <;> omega) | fail)) [ft,-List.getD_eq_getElem?_getD] <;> rfl) ?_)
   exact .done ⟨rfl,hS,by simp,by simp⟩
 by_cases q4:(n:Int)<=X
 · have ok:Z0n Gl n t f=false:=by
    have:¬ X<n:=by omega
    rw [okE]; simp [q1,this]
   rw [ok]
   repeat (first | (with_reducible refine Ans.bt ?_ ?_; exact rfl) | (with_reducible refine Ans.bf ?_ ?_; exact rfl) | (with_reducible refine Ans.ct ?_ ?_; focus (simp; done)) | (with_reducible refine Ans.cf ?_ ?_; focus (simp; done)) | refine Ans.step (by simp (disch:=(first | omega | (simp <;> omega) | fail)) [ft,e2,y1,y2h,hst,b1,b2,hzz,hz4,Z3L,hp,q1,q3,q4,-List.getD_eq_getElem?_getD] <;> rfl) ?_)
   refine .done ?_
   repeat (first | (with_reducible refine Ans.bt ?_ ?_; exact rfl) | (with_reducible refine Ans.bf ?_ ?_; exact rfl) | (with_reducible refine Ans.ct ?_ ?_; focus (simp; done)) | (with_reducible refine Ans.cf ?_ ?_; focus (simp; done)) | refine Ans.step (by simp (disch:=(first | omega | (simp <;> omega) | fail)) [ft,-List.getD_eq_getElem?_getD] <;> rfl) ?_)
   exact .done ⟨rfl,hS,by simp,by simp⟩
 cases q5:Z0y Y with
 | false =>
  have ok:Z0n Gl n t f=false:=by rw [okE]; simp [q1,q5]
  rw [ok]
  repeat (first | (with_reducible refine Ans.bt ?_ ?_; exact rfl) | (with_reducible refine Ans.bf ?_ ?_; exact rfl) | (with_reducible refine Ans.ct ?_ ?_; focus (simp; done)) | (with_reducible refine Ans.cf ?_ ?_; focus (simp; done)) | refine Ans.step (by simp (disch:=(first | omega | (simp <;> omega) | fail)) [ft,e2,y1,y2h,hst,b1,b2,hzz,hz4,Z3L,hp,q1,q3,q4,q5,Z0L,-List.getD_eq_getElem?_getD] <;> rfl) ?_)
  refine .done ?_
  repeat (first | (with_reducible refine Ans.bt ?_ ?_; exact rfl) | (with_reducible refine Ans.bf ?_ ?_; exact rfl) | (with_reducible refine Ans.ct ?_ ?_; focus (simp; done)) | (with_reducible refine Ans.cf ?_ ?_; focus (simp; done)) | refine Ans.step (by simp (disch:=(first | omega | (simp <;> omega) | fail)) [ft,-List.getD_eq_getElem?_getD] <;> rfl) ?_)
  exact .done ⟨rfl,hS,by simp,by simp⟩
 | true =>
  have hr:=Z1E q5
  have hpr:0<=Y.getD f 0/\Y.getD f 0<4:=by
   have hlt:f<Y.length:=by omega
   have:=hr _ (List.getElem_mem hlt)
   simpa [List.getD,List.getElem?_eq_getElem hlt] using this
  have c1:∀ H c,callF G 45 [av Y] H c=some (av (inv Y),H,c):=fun H c=>by
   rw [Z92 Y hp,invR,if_pos q5]
  have hil:(inv Y).length=4:=Z3y Y 0 [0,0,0,0]
  by_cases q6:X=t
  · by_cases q7:Y.getD f 0=f
    · have ok:Z0n Gl n t f=false:=by rw [okE]; simp [q1,q6,q7,-List.getD_eq_getElem?_getD]
      rw [ok]
      have q6':=eq_true q6
      have q7':=eq_true q7
      repeat (first | (with_reducible refine Ans.bt ?_ ?_; exact rfl) | (with_reducible refine Ans.bf ?_ ?_; exact rfl) | (with_reducible refine Ans.ct ?_ ?_; focus (simp; done)) | (with_reducible refine Ans.cf ?_ ?_; focus (simp; done)) | refine Ans.step (by simp (disch:=(first | omega | (simp <;> omega) | fail)) [ft,e2,y1,y2h,hst,b1,b2,b3,hzz,hz4,Z3L,hp,q1,q3,q4,q5,Z0L,q6',q7',-List.getD_eq_getElem?_getD] <;> rfl) ?_)
      refine .done ?_
      repeat (first | (with_reducible refine Ans.bt ?_ ?_; exact rfl) | (with_reducible refine Ans.bf ?_ ?_; exact rfl) | (with_reducible refine Ans.ct ?_ ?_; focus (simp; done)) | (with_reducible refine Ans.cf ?_ ?_; focus (simp; done)) | refine Ans.step (by simp (disch:=(first | omega | (simp <;> omega) | fail)) [ft,-List.getD_eq_getElem?_getD] <;> rfl) ?_)
      exact .done ⟨rfl,hS,by simp,by simp⟩
    · have q6':=eq_true q6
      obtain ⟨gb2,go,z1,z2,z3⟩:=hface X (Y.getD f 0) qO qO hpr.1 hpr.2
      have z2h:=z2 H (fun i hi=>hS i hi)
      have hfl:=Z0h (t:=X.toNat) (f:=(Y.getD f 0).toNat) h2.1 qO qO
      have hbl:=Znl (t:Int) (inv Y) hil
      have hneq:=Z5b (Z03 Gl X.toNat (Y.getD f 0).toNat) ((t:Int)::inv Y) hfl (by simp [hil])
      by_cases q8:Z03 Gl X.toNat (Y.getD f 0).toNat=(t:Int)::inv Y
      · have ok:Z0n Gl n t f=true:=by
         have a1:0<=X:=by omega
         have a2:X<n:=by omega
         rw [okE,decide_eq_true q8]; simp [a1,a2,q5,q7,-List.getD_eq_getElem?_getD]
        rw [ok]
        rw [decide_eq_true q8] at hneq
        repeat (first | (with_reducible refine Ans.bt ?_ ?_; exact rfl) | (with_reducible refine Ans.bf ?_ ?_; exact rfl) | (with_reducible refine Ans.ct ?_ ?_; focus (simp; done)) | (with_reducible refine Ans.cf ?_ ?_; focus (simp; done)) | refine Ans.step (by simp (disch:=(first | omega | (simp <;> omega) | fail)) [ft,e2,e2',y1,y2h,hst,b1,b2,b3,hzz,hz4,Z3L,hp,q1,q3,q4,q5,Z0L,q6',q7,c1,z1,z2h,hbl,hneq,hq,hpr,-List.getD_eq_getElem?_getD] <;> rfl) ?_)
        refine .done ?_
        repeat (first | (with_reducible refine Ans.bt ?_ ?_; exact rfl) | (with_reducible refine Ans.bf ?_ ?_; exact rfl) | (with_reducible refine Ans.ct ?_ ?_; focus (simp; done)) | (with_reducible refine Ans.cf ?_ ?_; focus (simp; done)) | refine Ans.step (by simp (disch:=(first | omega | (simp <;> omega) | fail)) [ft,-List.getD_eq_getElem?_getD] <;> rfl) ?_)
        exact .done ⟨rfl,hS,by simp,by simp⟩
      · have ok:Z0n Gl n t f=false:=by rw [okE,decide_eq_false q8]; simp [q1]
        rw [ok]
        rw [decide_eq_false q8] at hneq
        repeat (first | (with_reducible refine Ans.bt ?_ ?_; exact rfl) | (with_reducible refine Ans.bf ?_ ?_; exact rfl) | (with_reducible refine Ans.ct ?_ ?_; focus (simp; done)) | (with_reducible refine Ans.cf ?_ ?_; focus (simp; done)) | refine Ans.step (by simp (disch:=(first | omega | (simp <;> omega) | fail)) [ft,e2,e2',y1,y2h,hst,b1,b2,b3,hzz,hz4,Z3L,hp,q1,q3,q4,q5,Z0L,q6',q7,c1,z1,z2h,hbl,hneq,hq,hpr,-List.getD_eq_getElem?_getD] <;> rfl) ?_)
        refine .done ?_
        repeat (first | (with_reducible refine Ans.bt ?_ ?_; exact rfl) | (with_reducible refine Ans.bf ?_ ?_; exact rfl) | (with_reducible refine Ans.ct ?_ ?_; focus (simp; done)) | (with_reducible refine Ans.cf ?_ ?_; focus (simp; done)) | refine Ans.step (by simp (disch:=(first | omega | (simp <;> omega) | fail)) [ft,-List.getD_eq_getElem?_getD] <;> rfl) ?_)
        exact .done ⟨rfl,hS,by simp,by simp⟩
  · obtain ⟨gb2,go,z1,z2,z3⟩:=hface X (Y.getD f 0) qO qO hpr.1 hpr.2
    have z2h:=z2 H (fun i hi=>hS i hi)
    have hfl:=Z0h (t:=X.toNat) (f:=(Y.getD f 0).toNat) h2.1 qO qO
    have hbl:=Znl (t:Int) (inv Y) hil
    have hneq:=Z5b (Z03 Gl X.toNat (Y.getD f 0).toNat) ((t:Int)::inv Y) hfl (by simp [hil])
    by_cases q8:Z03 Gl X.toNat (Y.getD f 0).toNat=(t:Int)::inv Y
    · have ok:Z0n Gl n t f=true:=by
       have a1:0<=X:=by omega
       have a2:X<n:=by omega
       rw [okE,decide_eq_true q8]; simp [a1,a2,q5,q6]
      rw [ok]
      rw [decide_eq_true q8] at hneq
      repeat (first | (with_reducible refine Ans.bt ?_ ?_; exact rfl) | (with_reducible refine Ans.bf ?_ ?_; exact rfl) | (with_reducible refine Ans.ct ?_ ?_; focus (simp; done)) | (with_reducible refine Ans.cf ?_ ?_; focus (simp; done)) | refine Ans.step (by simp (disch:=(first | omega | (simp <;> omega) | fail)) [ft,e2,e2',y1,y2h,hst,b1,b2,b3,hzz,hz4,Z3L,hp,q1,q3,q4,q5,Z0L,q6,c1,z1,z2h,hbl,hneq,hq,hpr,-List.getD_eq_getElem?_getD] <;> rfl) ?_)
      refine .done ?_
      repeat (first | (with_reducible refine Ans.bt ?_ ?_; exact rfl) | (with_reducible refine Ans.bf ?_ ?_; exact rfl) | (with_reducible refine Ans.ct ?_ ?_; focus (simp; done)) | (with_reducible refine Ans.cf ?_ ?_; focus (simp; done)) | refine Ans.step (by simp (disch:=(first | omega | (simp <;> omega) | fail)) [ft,-List.getD_eq_getElem?_getD] <;> rfl) ?_)
      exact .done ⟨rfl,hS,by simp,by simp⟩
    · have ok:Z0n Gl n t f=false:=by rw [okE,decide_eq_false q8]; simp [q1]
      rw [ok]
      rw [decide_eq_false q8] at hneq
      repeat (first | (with_reducible refine Ans.bt ?_ ?_; exact rfl) | (with_reducible refine Ans.bf ?_ ?_; exact rfl) | (with_reducible refine Ans.ct ?_ ?_; focus (simp; done)) | (with_reducible refine Ans.cf ?_ ?_; focus (simp; done)) | refine Ans.step (by simp (disch:=(first | omega | (simp <;> omega) | fail)) [ft,e2,e2',y1,y2h,hst,b1,b2,b3,hzz,hz4,Z3L,hp,q1,q3,q4,q5,Z0L,q6,c1,z1,z2h,hbl,hneq,hq,hpr,-List.getD_eq_getElem?_getD] <;> rfl) ?_)
      refine .done ?_
      repeat (first | (with_reducible refine Ans.bt ?_ ?_; exact rfl) | (with_reducible refine Ans.bf ?_ ?_; exact rfl) | (with_reducible refine Ans.ct ?_ ?_; focus (simp; done)) | (with_reducible refine Ans.cf ?_ ?_; focus (simp; done)) | refine Ans.step (by simp (disch:=(first | omega | (simp <;> omega) | fail)) [ft,-List.getD_eq_getElem?_getD] <;> rfl) ?_)
      exact .done ⟨rfl,hS,by simp,by simp⟩

theorem ZhB (s:Value) (n:Nat) (Gl:List Int) (gb c:Nat) (h:FH) (t:Nat) (ht:t<n) (hgb:gb<256*c)
 (h1:Z0d h gb [s]) (h2:SlI h c s 20 n Gl) (df:List Nat):∀ (k f:Nat),f+k=4 →
 ((∀ j,f<=j->j<4->Z0n Gl n t j=true)/\G (Z3i none) [ptrTo gb,.int .i64 0,.int .i64 n,.int .i64 t,.int .i64 f] h c df=some ⟨.exit 2,[ptrTo gb,.int .i64 0,.int .i64 n,.int .i64 t,.int .i64 4],h,c,df⟩) ∨
 ((∃ j,f<=j/\j<4/\Z0n Gl n t j=false) /\ ∃ f':Nat,G (Z3i none) [ptrTo gb,.int .i64 0,.int .i64 n,.int .i64 t,.int .i64 f] h c df=some ⟨.ret,[ptrTo gb,.int .i64 7,.int .i64 n,.int .i64 t,.int .i64 f'],h,c,df⟩):=by
 intro k
 induction k with
 | zero =>
  intro f hf
  obtain rfl:f=4:=by omega
  refine .inl ⟨fun j h1 h2=>by omega, ?_⟩
  refine (Z9U (q:=⟨.exit 2,[ptrTo gb,.int .i64 0,.int .i64 n,.int .i64 t,.int .i64 4],h,c+1,df⟩) (by unfold Z1K; simp) (by simp)).trans ?_
  rw [Z1f (by simp [hgb])]
 | succ k ih =>
  intro f hf
  obtain ⟨⟨re,rv,rh,rc,rd⟩,hr,r1,r2,r3,r4⟩:=ZcR s n Gl gb c h t f ht qO hgb h1 h2 (.int .i64 0) df
  simp only at r1 r2 r3 r4
  subst r1
  cases ok:Z0n Gl n t f with
  | true =>
   rw [ok] at r3 r4
   simp only [if_true] at r3 r4
   subst r3 r4
   have hg:gcR h c rd ⟨.normal,[ptrTo gb,.int .i64 0,.int .i64 n,.int .i64 t,.int .i64 (f+1:Nat)],rh,rc,rd⟩=_:=Z5c (by simp [hgb]) r2
   rcases ih (f+1) qO with ⟨a,b⟩ | ⟨⟨j,j1,j2,j3⟩,f',b⟩
   · refine .inl ⟨fun j h1 h2=>?_,Z9W hr rfl (by rw [hg]; exact b)⟩
     by_cases hj:j=f
     · rw [hj]; exact ok
     · exact a j qO h2
   · exact .inr ⟨⟨j,by omega,j2,j3⟩,f',Z9W hr rfl (by rw [hg]; exact b)⟩
  | false =>
   rw [ok] at r3 r4
   simp only [Bool.false_eq_true,if_false] at r3 r4
   subst r3 r4
   refine .inr ⟨⟨f,Nat.le_refl _,by omega,ok⟩,f,(Z9U hr (by simp)).trans ?_⟩
   rw [Z5c (by simp [hgb]) r2]
theorem SlI.up {h:FH} {c c':Nat} {s:Value} {sz n:Nat} {Gl:List Int} (hs:SlI h c s sz n Gl) (hc:c<=c'):SlI h c' s sz n Gl:=hs.mono hc
theorem Zg1 (s:Value) (n:Nat) (Gl:List Int) (gb c:Nat) (h:FH) (hgb:gb<256*c)
 (h1:Z0d h gb [s]) (h2:SlI h c s 20 n Gl) (hn:n<=1000) (df:List Nat):∀ (k t:Nat),t+k=n →
 ((∀ u j,t<=u->u<n->j<4->Z0n Gl n u j=true)/\G (Z3j none) [ptrTo gb,.int .i64 0,.int .i64 n,.int .i64 t] h c df=some ⟨.exit 0,[ptrTo gb,.int .i64 0,.int .i64 n,.int .i64 n],h,c,df⟩) ∨
 ((∃ u j,t<=u/\u<n/\j<4/\Z0n Gl n u j=false) /\ ∃ t':Nat,G (Z3j none) [ptrTo gb,.int .i64 0,.int .i64 n,.int .i64 t] h c df=some ⟨.ret,[ptrTo gb,.int .i64 7,.int .i64 n,.int .i64 t'],h,c,df⟩):=by
 intro k
 induction k with
 | zero =>
  intro t ht
  obtain rfl:t=n:=by omega
  refine .inl ⟨fun u j h1 h2=>by omega, ?_⟩
  refine (Z9V (q:=⟨.exit 0,[ptrTo gb,.int .i64 0,.int .i64 t,.int .i64 t],h,c+1,df⟩) (by unfold Z1c; simp) (by simp)).trans ?_
  rw [Z1f (by simp [hgb])]
 | succ k ih =>
  intro t ht
  have e0:(t:Int)<n:=by omega
  have hin:=ZhB s n Gl gb (c+1+1) h t qO qO h1 (h2.mono qO) df 4 0 rfl
  simp only [Int.ofNat_eq_natCast,Int.cast_ofNat_Int] at hin
  rcases hin with ⟨a,b⟩ | ⟨⟨j,j1,j2,j3⟩,f',b⟩
  · have step:Z1c G none (ptrTo gb) (.int .i64 0) (.int .i64 n) (.int .i64 t) h c df=some ⟨.normal,[ptrTo gb,.int .i64 0,.int .i64 n,.int .i64 (t+1:Nat)],h,c+1+1+1,df⟩:=by
     apply Ans.eq
     unfold Z1c
     repeat (first | (with_reducible refine Ans.bt ?_ ?_; exact rfl) | (with_reducible refine Ans.bf ?_ ?_; exact rfl) | (with_reducible refine Ans.ct ?_ ?_; focus (simp; done)) | (with_reducible refine Ans.cf ?_ ?_; focus (simp; done)) | refine Ans.step (by simp (disch:=(first | omega | (simp <;> omega) | fail)) [e0,b,-List.getD_eq_getElem?_getD] <;> rfl) ?_)
     exact .done rfl
    have hg:gcR h c df ⟨.normal,[ptrTo gb,.int .i64 0,.int .i64 n,.int .i64 (t+1:Nat)],h,c+1+1+1,df⟩=_:=Z1f (by simp [hgb])
    rcases ih (t+1) qO with ⟨a2,b2⟩ | ⟨⟨u,j,u1,u2,u3,u4⟩,t',b2⟩
    · refine .inl ⟨fun u j h1 h2 h3=>?_,Z9X step rfl (by rw [hg]; exact b2)⟩
      by_cases hu:u=t
      · rw [hu]; exact a j (Nat.zero_le _) h3
      · exact a2 u j qO h2 h3
    · exact .inr ⟨⟨u,j,by omega,u2,u3,u4⟩,t',Z9X step rfl (by rw [hg]; exact b2)⟩
  · refine .inr ⟨⟨t,j,Nat.le_refl _,by omega,j2,j3⟩,t, ?_⟩
    have step:Z1c G none (ptrTo gb) (.int .i64 0) (.int .i64 n) (.int .i64 t) h c df=some ⟨.ret,[ptrTo gb,.int .i64 7,.int .i64 n,.int .i64 t],h,c+1+1,df⟩:=by
     apply Ans.eq
     unfold Z1c
     repeat (first | (with_reducible refine Ans.bt ?_ ?_; exact rfl) | (with_reducible refine Ans.bf ?_ ?_; exact rfl) | (with_reducible refine Ans.ct ?_ ?_; focus (simp; done)) | (with_reducible refine Ans.cf ?_ ?_; focus (simp; done)) | refine Ans.step (by simp (disch:=(first | omega | (simp <;> omega) | fail)) [e0,b,-List.getD_eq_getElem?_getD] <;> rfl) ?_)
     exact .done rfl
    refine (Z9V step (by simp)).trans ?_
    rw [Z1f (by simp [hgb])]
theorem ZbP (s:Value) (n:Nat) (Gl:List Int) (h:FH) (c:Nat) (df:List Nat) (hs:SlI h c s 20 n Gl) :
 G (.fn 14) [.agg #[s]] h c df=some ⟨.ret,[.int .i64 (if n<=1000/\Z0A Gl n=true then 0 else 7)],h,c,[]⟩:=by
 refine Z4R (fun r e=>f14_go e) (by simp) ?_
 have hflat:((Value.agg #[s]).cells.toList.all Z06)=true:=by
  obtain ⟨_,_,a,cap,rfl,_⟩:=hs
  rfl
 have hcell:(Value.agg #[s]).cells.toList=[s]:=rfl
 have hlen:=hs.len
 unfold Zhq
 rw [hflat,hcell]
 simp only [cond_true]
 by_cases hn:n<=1000
 · have hn':¬ (1000:Int)<n:=by omega
   have hsl:SlI (newB h (256*c) [s]) (c+1+1+1+1) s 20 n Gl:=(hs.same ((Same_newB qO).2 (Z0q.refl _ _))).mono qO
   have ho:=Zg1 s n Gl (256*c) (c+1+1+1+1) (newB h (256*c) [s]) qO (Z0d.newB_same _ _ _) hsl hn [] n 0 qO
   simp only [Int.ofNat_eq_natCast,Int.cast_ofNat_Int] at ho
   rcases ho with ⟨a,b⟩ | ⟨⟨u,j,u1,u2,u3,u4⟩,t',b⟩
   · have ok:Z0A Gl n=true:=by
      rw [Z4S]
      intro j hj
      exact a (j / 4) (j % 4) (Nat.zero_le _) qO qO
     rw [if_pos ⟨hn,ok⟩]
     repeat (first | (with_reducible refine Ans.bt ?_ ?_; exact rfl) | (with_reducible refine Ans.bf ?_ ?_; exact rfl) | (with_reducible refine Ans.ct ?_ ?_; focus (simp; done)) | (with_reducible refine Ans.cf ?_ ?_; focus (simp; done)) | refine Ans.step (by simp (disch:=(first | omega | (simp <;> omega) | fail)) [hlen,hn',b,-List.getD_eq_getElem?_getD] <;> rfl) ?_)
     refine .done ⟨rfl,rfl, ?_,rfl⟩
     simp (disch:=omega)
   · have ok:¬ (n<=1000/\Z0A Gl n=true):=by
      rintro ⟨_,ok⟩
      rw [Z4S] at ok
      have:=ok (4*u+j) qO
      have e1:(4*u+j) / 4=u:=by omega
      have e2:(4*u+j) % 4=j:=by omega
      rw [e1,e2,u4] at this
      cases this
     rw [if_neg ok]
     repeat (first | (with_reducible refine Ans.bt ?_ ?_; exact rfl) | (with_reducible refine Ans.bf ?_ ?_; exact rfl) | (with_reducible refine Ans.ct ?_ ?_; focus (simp; done)) | (with_reducible refine Ans.cf ?_ ?_; focus (simp; done)) | refine Ans.step (by simp (disch:=(first | omega | (simp <;> omega) | fail)) [hlen,hn',b,-List.getD_eq_getElem?_getD] <;> rfl) ?_)
     refine .done ⟨rfl,rfl, ?_,rfl⟩
     simp (disch:=omega)
 · have hn':(1000:Int)<n:=by omega
   rw [if_neg (fun h=>hn h.1)]
   repeat (first | (with_reducible refine Ans.bt ?_ ?_; exact rfl) | (with_reducible refine Ans.bf ?_ ?_; exact rfl) | (with_reducible refine Ans.ct ?_ ?_; focus (simp; done)) | (with_reducible refine Ans.cf ?_ ?_; focus (simp; done)) | refine Ans.step (by simp (disch:=(first | omega | (simp <;> omega) | fail)) [hlen,hn',-List.getD_eq_getElem?_getD] <;> rfl) ?_)
   refine .done ⟨rfl,rfl, ?_,rfl⟩
   simp (disch:=omega)
end Go.Proofs.Ytdodippbpdechaa

namespace Go.Ab
open Go
def GrA (c0:Nat) (h:FH) (c:Nat) (v:Value) (sz n:Nat) (L:List Value):Prop :=
 0<n/\L.length=n*sz/\n<=9223372036854775807/\L.all Z06=true /\ ∃ i op,v = .slice (some ⟨i,0,none⟩) n n/\256*c0<=i/\i<256*c/\h.f i=some (.cells false op L)/\(op=none ∨ op=some sz)
theorem GrA.mono {c0:Nat} {h:FH} {c c':Nat} {v:Value} {sz n:Nat} {L:List Value} (hc:c<=c') (ha:GrA c0 h c v sz n L):GrA c0 h c' v sz n L:=by
 obtain ⟨a,b,d,x,i,op,e,f,g,k⟩:=ha
 exact ⟨a,b,d,x,i,op,e,f,by omega,k⟩
theorem GrA.keep {c0:Nat} {h h':FH} {c:Nat} {v:Value} {sz n:Nat} {L:List Value} (ha:GrA c0 h c v sz n L) (hh:h'.f (Z0w v)=h.f (Z0w v)):GrA c0 h' c v sz n L:=by
 obtain ⟨a,b,d,x,i,op,rfl,f,g,k,l⟩:=ha
 exact ⟨a,b,d,x,i,op,rfl,f,g,hh.trans k,l⟩
theorem GrA.sl {c0:Nat} {h:FH} {c:Nat} {v:Value} {sz n:Nat} {L:List Int} (ha:GrA c0 h c v sz n (ints L)):SlI h c v sz n L:=by
 obtain ⟨a,b,d,x,i,op,rfl,f,g,k,l⟩:=ha
 rw [ints_length] at b
 refine ⟨b,d,some ⟨i,0,none⟩,n,rfl,.inr ⟨i,0,ints L,rfl,g,⟨false,op,k⟩, ?_⟩⟩
 rw [List.drop_zero,List.take_of_length_le (by simp [b])]
theorem GrA.blk {c0:Nat} {h:FH} {c:Nat} {v:Value} {sz n:Nat} {L:List Value} (ha:GrA c0 h c v sz n L):256*c0<=Z0w v/\Z0w v<256*c:=by
 obtain ⟨a,b,d,x,i,op,rfl,f,g,k,l⟩:=ha
 exact ⟨f,g⟩
theorem GrA.flat {c0:Nat} {h:FH} {c:Nat} {v:Value} {sz n:Nat} {L:List Value} (ha:GrA c0 h c v sz n L):Z06 v=true/\v.cells = #[v]:=by
 obtain ⟨a,b,d,x,i,op,rfl,f,g,k,l⟩:=ha
 exact ⟨rfl,rfl⟩
theorem GrA.len {c0:Nat} {h:FH} {c:Nat} {v:Value} {sz n:Nat} {L:List Value} (ha:GrA c0 h c v sz n L):Z2m v=some (.int .i64 n):=by
 obtain ⟨a,b,d,x,i,op,rfl,f,g,k,l⟩:=ha
 rfl
theorem GrA.app {c0:Nat} {h:FH} {c c':Nat} {v:Value} {sz n:Nat} {L:List Value} (ha:GrA c0 h c v sz n L) (X:List Value) (hX:X.length=sz) (hXf:X.all Z06=true) (hsz:0<sz) (by' b id:Nat) (hb:256*c<=b) (hid:256*c<=id) (hne:b ≠ id) (hc0:c0<=c)
 (hid':id<256*c') (hlim:(n+1)*(by'+1)<=17592186044416) :
 ∃ h',Z5o (newB h b X) id sz by' v (.slice (some ⟨b,0,none⟩) 1 1)=some (.slice (some ⟨id,0,none⟩) (n+1) (n+1),h')/\GrA c0 h' c' (.slice (some ⟨id,0,none⟩) (n+1) (n+1)) sz (n+1) (L++X)/\(∀ j,j<256*c->j ≠ Z0w v->h'.f j=h.f j):=by
 obtain ⟨h0,h1,h2,hf,i,op,rfl,h3,h4,h5,h8⟩:=ha
 have hlim':Nat.ble ((n+1)*(by'+1)) 17592186044416=true:=Nat.ble_eq_true_of_le hlim
 have hsrc:Z0B (newB h b X) sz (.slice (some ⟨b,0,none⟩) 1 1)=some (X,1):=by
  have:Nat.ble (0+1*sz) X.length=true:=Nat.ble_eq_true_of_le (by simp [hX])
  simp only [Z0B,Z0J,Z0k,get_newB_same,Option.bind_some,this,cond_true,List.drop_zero]
  rw [List.take_of_length_le (by simp [hX])]
 have hn1:n+1<=17592186044416:=by
  have:(n+1)*1<=(n+1)*(by'+1):=Nat.mul_le_mul_left _ qO
  omega
 have hcap:Nat.ble (n+1) n=false:=by rw [Bool.eq_false_iff]; intro hh; have:=Nat.le_of_ble_eq_true hh; omega
 have hbi:i ≠ b:=by omega
 have hg:HeapC.get (newB h b X) i=some (.cells false op L):=by rw [get_newB_ne _ _ _ _ hbi]; exact h5
 have hr:Nat.ble (0+n*sz) L.length=true:=Nat.ble_eq_true_of_le (by simp [h1])
 have ht:(L.drop 0).take (n*sz)=L:=by rw [List.drop_zero,List.take_of_length_le qO]
 rcases h8 with rfl | rfl
 · refine ⟨HeapC.set (newB h b X) id (.cells false (some sz) ((L.drop 0).take (n*sz)++X)), ?_,⟨by omega,by simp [h1,hX,Nat.succ_mul],by omega,by rw [List.all_append,hf,hXf]; rfl,id,some sz,rfl,by omega,hid',by rw [Z0o,if_pos rfl,ht],.inr rfl⟩, ?_⟩
   · simp only [Z5o,hsrc,Option.bind_some,appTo,hcap,cond_false,Z1D,hlim',hXf,Bool.and_self,cond_true,Z0J,Z0k,hg,hr]
   · intro j hj hv
     rw [Z0o,if_neg qO,Z01,if_neg qO]
 · refine ⟨HeapC.set (HeapC.set (newB h b X) i .dead) id (.cells false (some sz) ((L.drop 0).take (n*sz)++X)), ?_,⟨by omega,by simp [h1,hX,Nat.succ_mul],by omega,by rw [List.all_append,hf,hXf]; rfl,id,some sz,rfl,by omega,hid',by rw [Z0o,if_pos rfl,ht],.inr rfl⟩, ?_⟩
   · simp only [Z5o,hsrc,Option.bind_some,appTo,hcap,cond_false,Z1D,hlim',hXf,Bool.and_self,cond_true,Z0J,Z0k,hg,hr,Nat.beq_refl,Bool.not_false,Bool.and_true]
   · intro j hj hv
     rw [blkOf_sl] at hv
     rw [Z0o,if_neg qO,Z0o,if_neg hv,Z01,if_neg qO]
end Go.Ab

namespace Go.Proofs.Ytdodippbpdechaa
open Go Go.Ab Go.Proofs
def zr5:List Int:=[0,0,0,0,0]
theorem OkV.tupA (c:Nat) (L:List Int) (b:Bool):OkV c (.tuple #[av L,.bool b]):=by
 obtain ⟨w,hw⟩:=OkV.av c L
 refine ⟨.tuple #[w,.bool b],.tuple rfl fun k x y h1 h2=>?_⟩
 match k with
 | 0=>simp at h1 h2; subst h1 h2; exact hw
 | 1=>simp at h1 h2; subst h1 h2; exact .bool _
 | k+2=>simp at h1
set_option maxHeartbeats 1000000 in
theorem Zie (s:Value) (n:Nat) (Gl x:List Int) (lab:Nat) (hx:WOk n x) (hl:lab<4) (hok:Z0A Gl n=true) (h:FH) (c:Nat) (df:List Nat) (hs:SlI h c s 20 n Gl) :
 G (.fn 58) [.agg #[s],av x,.int .i64 lab] h c df=some ⟨.ret,[.tuple #[av ((wN Gl lab x).getD zr5),.bool (wN Gl lab x).isSome]],h,c,[]⟩:=by
 refine Z3E (fun r e=>f58_go e) (OkV.tupA _ _ _) ?_
 have Z4X:((Value.agg #[s]).cells.toList.all Z06)=true:=by simp [Value.cells,hs.flat]
 have Z52:(Value.agg #[s]).cells.toList=[s]:=rfl
 have flat2:((av x).cells.toList.all Z06)=true:=by simp
 have hG:=hs.1
 have hl5:=hx.l
 unfold ZmG
 rw [Z4X,Z52,flat2,Z1s]
 simp only [cond_true,Nat.add_zero]
 obtain ⟨g0,hg0⟩:∃ b,256*c=b:=⟨_,rfl⟩
 obtain ⟨xb,hxb⟩:∃ b,256*c+1=b:=⟨_,rfl⟩
 obtain ⟨ob,hob⟩:∃ b,256*c+2=b:=⟨_,rfl⟩
 rw [hxb,hob,hg0,show [Value.int .i64 0,Value.int .i64 0,Value.int .i64 0,Value.int .i64 0,Value.int .i64 0]=z5 from rfl]
 obtain ⟨M,hM⟩:∃ M,newB (newB (newB h g0 [s]) xb (ints x)) ob z5=M:=⟨_,rfl⟩
 rw [hM]
 have Mf:∀ j,M.f j=if j=ob then some (.cells false none z5) else if j=xb then some (.cells false none (ints x)) else if j=g0 then some (.cells false none [s]) else h.f j:=fun j=>by rw [← hM,Z01,Z01,Z01]
 have sM:Z0q c h M:=fun j hj=>by rw [Mf,if_neg qO,if_neg qO,if_neg qO]
 have Mg:M.f g0=some (.cells false none [s]):=by rw [Mf,if_neg qO,if_neg qO,if_pos rfl]
 have Mx:Z0d M xb (ints x):=⟨false,none,by show M.f xb=_; rw [Mf,if_neg qO,if_pos rfl]⟩
 have Mo:M.f ob=some (.cells false none z5):=by rw [Mf,if_pos rfl]
 have hsM:SlI M c s 20 n Gl:=hs.same sM
 have l0:ld1 M (.pointer (some ⟨g0,0,none⟩))=some s:=by rw [Z05 (cs:=[s]) ⟨false,none,Mg⟩]; rfl
 obtain ⟨t0,t1⟩:=hx.t
 obtain ⟨q1,q2,q3⟩:=hx.lab hl
 obtain ⟨t,ht⟩:∃ t:Nat,x.getD 0 0=t:=⟨(x.getD 0 0).toNat,by omega⟩
 obtain ⟨f,hf⟩:∃ f:Nat,x.getD (1+lab) 0=f:=⟨(x.getD (1+lab) 0).toNat,by omega⟩
 have htn:t<n:=by omega
 have hf4:f<4:=by omega
 have f4:(f:Int)<4:=by omega
 have lab4:(lab:Int)<4:=by omega
 have l1:ld1 M (.pointer (some ⟨xb,0,none⟩))=some (.int .i64 t):=by rw [Z05 Mx,ints_getD _ _ qO,ht]
 have l2:ld1 M (.pointer (some ⟨xb,1+lab,none⟩))=some (.int .i64 f):=by rw [Z05 Mx,ints_getD _ _ qO,hf]
 have ix:=hsM.ixs .i64 t qO qO
 rw [Int.toNat_natCast] at ix
 have hfl:=Z0h hG htn hf4
 have l3:ldN M 5 (.pointer (some ⟨Z0w s,Z4T s+t*20+f*5,none⟩))=some (av (Z03 Gl t f)):=by
  rw [Nat.add_assoc,hsM.rdN 5 _ qO qO,Z03,show 20*t+5*f=t*20+f*5 by omega]
 have wF':wF Gl x lab=Z03 Gl t f:=by rw [wF,ht,hf,Int.toNat_natCast,Int.toNat_natCast]
 obtain ⟨kb,hkb⟩:∃ b,256*(c+1)+11=b:=⟨_,rfl⟩
 have st:stN (newB M kb z5) 5 (.pointer (some ⟨kb,0,none⟩)) (av (Z03 Gl t f))=some (newB M kb (ints (Z03 Gl t f))):=stN_all _ _ 5 _ _ hfl rfl
 obtain ⟨H1,hH1⟩:∃ H1,newB M kb (ints (Z03 Gl t f))=H1:=⟨_,rfl⟩
 rw [hH1] at st
 have H1f:∀ j,j ≠ kb->H1.f j=M.f j:=fun j hj=>by rw [← hH1,Z01,if_neg hj]
 have gk:H1.f kb=some (.cells false none (ints (Z03 Gl t f))):=by rw [← hH1,Z01,if_pos rfl]
 have k0:ld1 H1 (.pointer (some ⟨kb,0,none⟩))=some (.int .i64 (Z0Q (Z03 Gl t f))):=by rw [Z05 (cs:=ints (Z03 Gl t f)) ⟨false,none,gk⟩,ints_getD _ _ qO]; rfl
 have o1:H1.f ob=some (.cells false none z5):=(H1f ob qO).trans Mo
 have stO:∀ X:List Int,X.length=5 -> ∃ K,stN H1 5 (.pointer (some ⟨ob,0,none⟩)) (av X)=some K/\ldN K 5 (.pointer (some ⟨ob,0,none⟩))=some (av X)/\Z0q c h K:=fun X hX=>by
  refine ⟨newB H1 ob (ints X),Z6y o1 rfl (by rw [ints_length,hX]) (Z0p _),Z0v (by rw [Z01,if_pos rfl]) (by rw [ints_length,hX]),fun j hj=>?_⟩
  rw [Z01,if_neg qO,H1f j qO]; exact sM j hj
 have bz:Z1d z5 []=some (av zr5):=rfl
 by_cases hz:Z0Q (Z03 Gl t f)<0
 · have hnone:wN Gl lab x=none:=by rw [wN,wF',if_pos hz]
   obtain ⟨K,p1,p2,p3⟩:=stO zr5 rfl
   obtain ⟨F,hF⟩:∃ F,Z03 Gl t f=F:=⟨_,rfl⟩
   rw [hF] at l3 st k0 hz
   rw [hnone]
   obtain ⟨Z,hZ⟩:∃ Z,z5=Z:=⟨_,rfl⟩
   rw [hZ] at bz st ⊢
   have fx:=ai l0 (ai l1 (ai l2 (ai ix (ai l3 (ai hkb (ai st (ai k0 (ai bz (ai p1 p2)))))))))
   refine Ans.go ?_
   clear fx
   exact Ans.pure rfl p3
 · have w':¬ Z0Q (wF Gl x lab)<0:=by rw [wF']; exact hz
   obtain ⟨j1,j2,j3⟩:=Z7O hok hG hx hl w'
   rw [wF'] at j1 j2
   have k1:ldN H1 4 (.pointer (some ⟨kb,1,none⟩))=some (av (Z0j (Z03 Gl t f))):=by
    rw [ldN_holds (cs:=ints (Z03 Gl t f)) ⟨false,none,gk⟩ (by rw [ints_length]; omega),av,Z12,Z0V]; rfl
   have Hx1:Z0d H1 xb (ints x):=by
    obtain ⟨ro,op,q⟩:=Mx
    exact ⟨ro,op,(H1f xb qO).trans q⟩
   have k2:ldN H1 4 (.pointer (some ⟨xb,1,none⟩))=some (av (x.drop 1)):=by
    rw [ldN_holds Hx1 (by rw [ints_length]; omega),av,Z12,Z0V,List.take_of_length_le (by rw [List.length_drop]; omega)]
   have p4:=Z4l j2
   have x4:=Z4l hx.p
   have c1:=Z0b (Z8K (Z0j (Z03 Gl t f)) (x.drop 1) p4 x4 H1 (c+1+1+1+1) [])
   rw [show ZkN (Z0j (Z03 Gl t f)) (x.drop 1)=Z13 (Z0j (Z03 Gl t f)) (x.drop 1) from if_pos ⟨Z6v j2,Z6v hx.p⟩] at c1
   have m1:=Z51 j2 hx.p
   have c2:=Z0b (Z8K (Z13 (Z0j (Z03 Gl t f)) (x.drop 1)) Z7P (Z4l m1) rfl H1 (c+1+1+1+1) [])
   rw [show ZkN (Z13 (Z0j (Z03 Gl t f)) (x.drop 1)) Z7P=Z13 (Z13 (Z0j (Z03 Gl t f)) (x.drop 1)) Z7P from if_pos ⟨Z6v m1,Z6v Zgc⟩,Z5n hx.p Zgc] at c2
   have hnext:wN Gl lab x=some (Z0Q (Z03 Gl t f)::Z13 (Z0j (Z03 Gl t f)) (Z13 (x.drop 1) Z7P)):=by rw [wN,wF',if_neg hz]
   have hc4:=Z4l (Z51 j2 (Z51 hx.p Zgc))
   obtain ⟨X,hX⟩:∃ X,Z0Q (Z03 Gl t f)::Z13 (Z0j (Z03 Gl t f)) (Z13 (x.drop 1) Z7P)=X:=⟨_,rfl⟩
   have hX5:X.length=5:=by rw [← hX,List.length_cons,hc4]
   have b4:Z1d [.int .i64 0,.int .i64 0,.int .i64 0,.int .i64 0] [(0,1,.int .i64 0),(1,1,.int .i64 1),(2,1,.int .i64 3),(3,1,.int .i64 2)]=some (av Z7P):=rfl
   have b5:Z1d z5 [(0,1,.int .i64 (Z0Q (Z03 Gl t f))),(1,4,av (Z13 (Z0j (Z03 Gl t f)) (Z13 (x.drop 1) Z7P)))]=some (av X):=by
    rw [← hX]
    generalize Z13 (Z0j (Z03 Gl t f)) (Z13 (x.drop 1) Z7P)=C at hc4
    match C,hc4 with
    | [a,b,d,e],_=>rfl
   obtain ⟨K,p1,p2,p3⟩:=stO X hX5
   rw [hnext,hX]
   obtain ⟨F,hF⟩:∃ F,Z03 Gl t f=F:=⟨_,rfl⟩
   rw [hF] at l3 st k0 hz k1 c1 c2 b5
   obtain ⟨Z,hZ⟩:∃ Z,z5=Z:=⟨_,rfl⟩
   rw [hZ] at b5 st ⊢
   obtain ⟨C1,hC1⟩:∃ Z,Z13 (Z0j F) (x.drop 1)=Z:=⟨_,rfl⟩
   obtain ⟨C2,hC2⟩:∃ Z,Z13 (Z0j F) (Z13 (x.drop 1) Z7P)=Z:=⟨_,rfl⟩
   rw [hC1] at c1 c2
   rw [hC2] at c2 b5
   obtain ⟨D1,hD1⟩:∃ Z,x.drop 1=Z:=⟨_,rfl⟩
   rw [hD1] at c1 k2
   have fx:=ai l0 (ai l1 (ai l2 (ai ix (ai l3 (ai hkb (ai st (ai k0 (ai k1 (ai k2 (ai c1 (ai b4 (ai c2 (ai b5 (ai p1 (ai p2 sameB_self)))))))))))))))
   refine Ans.go ?_
   clear fx
   exact Ans.pure rfl p3
end Go.Proofs.Ytdodippbpdechaa
