/- Parts of a proof: K27 K28 K29 C5 K30 AbTrie AbHeap. Conditions: none. -/
import Derived.Test.YtdodippbpdechaaM18
import Derived.Test.YtdodippbpdechaaM13
import Derived.Test.YtdodippbpdechaaM12
import Derived.Test.YtdodippbpdechaaM0
set_option linter.all false
set_option maxRecDepth 100000
namespace Go.Proofs.Ytdodippbpdechaa
open Go Go.Ab Go.Proofs
theorem Zit {α:Type} {f:α->Option α} {s x:α} {k m:Nat} (h:it f s k=some x) (hm:it f s m=none):k<m:=by
 rcases Nat.lt_or_ge k m with q | q
 · exact q
 · rw [Zfq hm q] at h; cases h
theorem ZgQ {Gl:List Int} {lab:Nat} {s x:List Int} {k:Nat} (h:it (wN Gl lab) s k=some x):rgL Gl lab s (k+1)=rgL Gl lab s k++x:=by
 rw [rgL,h]; rfl
structure WC (s:Value) (n:Nat) (Gl x0:List Int) (lab fb gb lb cb cw:Nat) (h0:FH):Prop where
 f:h0.f fb=some (.cells false none (ints x0))
 g:Z0d h0 gb [s]
 l:Z0d h0 lb [.int .i64 lab]
 lf:fb<256*cw
 lg:gb<256*cw
 ll:lb<256*cw
 bc:cb<=cw
 sl:SlI h0 cb s 20 n Gl
 ok:Z0F Gl n=true
 hn:n<=60
 x:WOk n x0
 lab4:lab<4
theorem WC.hG {s:Value} {n:Nat} {Gl x0:List Int} {lab fb gb lb cb cw:Nat} {h0:FH} (w:WC s n Gl x0 lab fb gb lb cb cw h0):Gl.length=n*20:=w.sl.1
structure RI (l rp c1 cw:Nat) (st:ALoop) (Gl x0:List Int) (lab:Nat) (h0:FH) (k:Nat) (O:Nat->Prop) (h:FH) (c:Nat):Prop where
 lc:c1<=c
 fr:∀ j,j<256*cw->j ≠ rp->h.f j=h0.f j
 lp:h.f l=some (.loop st)
 df:h.f (l+1)=some .dfr
 hk:k<=100000
 rg:∃ ov,h.f rp=some (.cells false none [ov])/\GrC c1 h c ov 5 k (ints (rgL Gl lab x0 k)) /\ ∀ b,O b ↔ (ov ≠ .slice none 0 0/\b=Z0s ov)
theorem RI.stab {l rp c1 cw:Nat} {st:ALoop} {Gl x0:List Int} {lab:Nat} {h0:FH} {k:Nat} {O:Nat->Prop} {h h':FH} {c c':Nat} (a:RI l rp c1 cw st Gl x0 lab h0 k O h c) (hl:l=256*cw) (h1:c1=cw+1) (hr:rp<256*cw) (hc:c<=c') (hh:∀ b,b<256*c->(b<256*c1 ∨ O b)->h'.f b=h.f b):RI l rp c1 cw st Gl x0 lab h0 k O h' c':=by
 obtain ⟨a1,a2,a3,a4,a5,ov,a6,a7,a8⟩:=a
 refine ⟨by omega,fun j hj hne=>(hh j qO (.inl qO)).trans (a2 j hj hne),(hh l qO (.inl qO)).trans a3,(hh (l+1) qO (.inl qO)).trans a4,a5,ov,(hh rp qO (.inl qO)).trans a6,(a7.keep fun hv=>?_).mono hc,a8⟩
 exact hh _ (a7.blk hv).2 (.inr ((a8 _).2 ⟨hv,rfl⟩))
theorem RI.read {s:Value} {n:Nat} {Gl x0 y0:List Int} {lab fb gb lb cb cw:Nat} {h0:FH} (w:WC s n Gl y0 lab fb gb lb cb cw h0) {l rp c1:Nat} {st:ALoop} {k lab':Nat} {O:Nat->Prop} {h:FH} {c:Nat} (a:RI l rp c1 cw st Gl x0 lab' h0 k O h c) (h1:c1=cw+1) (hrc:256*cb<=rp) (ng:gb ≠ rp) (nl:lb ≠ rp) :
 Z0d h gb [s]/\Z0d h lb [.int .i64 lab]/\SlI h c s 20 n Gl/\c1<=c /\ ∀ b,O b->b<256*c:=by
 obtain ⟨a1,a2,a3,a4,a5,ov,a6,a7,a8⟩:=a
 have b1:=w.lg
 have b2:=w.ll
 have b3:=w.bc
 obtain ⟨ro,op,q1⟩:=w.g
 obtain ⟨ro2,op2,q2⟩:=w.l
 refine ⟨⟨ro,op,(a2 gb b1 ng).trans q1⟩,⟨ro2,op2,(a2 lb b2 nl).trans q2⟩,(w.sl.same fun j hj=>a2 j qO qO).mono qO,a1,fun b hb=>?_⟩
 obtain ⟨hv,rfl⟩:=(a8 b).1 hb
 exact (a7.blk hv).2
theorem RI.app {l rp c1 cw:Nat} {st:ALoop} {Gl x0 x:List Int} {lab:Nat} {h0:FH} {k:Nat} {O:Nat->Prop} {h:FH} {c:Nat} {ov:Value} {r:Rt FH} (a:RI l rp c1 cw st Gl x0 lab h0 k O h c) (hl:l=256*cw) (h1:c1=cw+1) (hr:rp<256*cw) (hx:it (wN Gl lab) x0 k=some x) (hst:st.state = .ready) (hpn:st.pending=none) (hk:k+1<=100000)
 (ho:h.f rp=some (.cells false none [ov])) (hO:∀ b,O b ↔ (ov ≠ .slice none 0 0/\b=Z0s ov)) (g:GrC c1 h c ov 5 k (ints (rgL Gl lab x0 k))) (hc:c<=r.c) (ra:RApp l rp c1 c k x (rgL Gl lab x0 k) ov st h r) :
 ∃ O',(∀ b,O' b->O b ∨ 256*c<=b)/\RI l rp c1 cw st Gl x0 lab h0 (k+1) O' r.h r.c/\(∀ b,b<256*c->256*c1<=b -> ¬ O b->r.h.f b=h.f b):=by
 obtain ⟨a1,a2,a3,a4,a5,-⟩:=a
 obtain ⟨-,r2,i,r3,r4,r5,r6⟩:=ra
 have hb:∀ j,j<256*c1->j<256*c/\(ov ≠ .slice none 0 0->j ≠ Z0s ov):=fun j hj=>⟨by omega,fun hv=>by have:=(g.blk hv).1; omega⟩
 have est:({ st with state:=.ready,pending:=none }:ALoop)=st:=by
  cases st
  simp only at hst hpn
  subst hst hpn; rfl
 rw [est] at r2
 refine ⟨fun b=>b=i,fun b e=>.inr qO,⟨by omega,fun j hj hne=>(r6 j (hb j qO).1 qO hne (hb j qO).2).trans (a2 j hj hne),r2,(r6 (l+1) (hb _ qO).1 qO qO (hb _ qO).2).trans a4,hk,_,r4, ?_,fun b=>?_⟩,fun b e1 e2 e3=>r6 b e1 qO qO fun hv e=>e3 ((hO b).2 ⟨hv,e⟩)⟩
 · rw [ZgQ hx]; exact r5
 · rw [blkOf_sl]
   exact ⟨fun e=>⟨(by intro q; cases q),e⟩,fun e=>e.2⟩
theorem Zf0 {s:Value} {n:Nat} {Gl x0:List Int} {lab fb gb lb cb cw rp:Nat} {h0:FH} (w:WC s n Gl x0 lab fb gb lb cb cw h0) (lr:rp<256*cw) (hrc:256*cb<=rp) (nf:fb ≠ rp) (ng:gb ≠ rp) (nl:lb ≠ rp) (ho:h0.f rp=some (.cells false none [.slice none 0 0])) {m:Nat} (hm:it (wN Gl lab) x0 m=none) (hm9:m<=90000) (df:List Nat) :
 Ans (Z3o G 66 none [6] [] #[60] Z1Z Z1W (.func (.func 78) [].toArray [ptrTo fb,ptrTo gb,ptrTo lb].toArray) [ptrTo rp] h0 cw df) fun q=>∃ k x ov,q.1 = .normal/\cw+1<=q.2.2.1/\q.2.2.2=(256*cw+1)::df/\q.2.1.f (256*cw+1)=some .dfr/\(∀ j,j<256*cw->j ≠ rp->q.2.1.f j=h0.f j) ∧
  it (wN Gl lab) x0 k=some x/\it (wN Gl lab) x0 (k+1)=none/\q.2.1.f rp=some (.cells false none [ov])/\GrC cw q.2.1 q.2.2.1 ov 5 (k+1) (ints (rgL Gl lab x0 (k+1))):=by
 obtain ⟨l,hl⟩:∃ l,l=256*cw:=⟨_,rfl⟩
 obtain ⟨st,hst⟩:∃ st,st=Z6S 66 [6] #[60] Z1Z Z1W [ptrTo rp] (l+1):=⟨_,rfl⟩
 have s1:st.state = .ready:=by rw [hst]; rfl
 have s2:st.pending=none:=by rw [hst]; rfl
 have b1:=w.lf
 have b2:=w.lg
 have b3:=w.ll
 have b4:=w.bc
 have hI:WkI (.func (.yield l) #[] #[]) s n Gl lab gb lb (cw+1) x0 (RI l rp (cw+1) cw st Gl x0 lab h0) (fun _ _ _=>False) m:=by
  refine ⟨fun k O h c h' c' hi hc hh=>hi.stab hl rfl lr hc hh,fun k O h c hi=>hi.read w rfl hrc ng nl,fun k x O h c hx hi=>?_,fun k x O h c hx hi=>Zit hx hm⟩
  have hi':=hi
  obtain ⟨a1,a2,a3,a4,a5,ov,a6,a7,a8⟩:=hi'
  have hkm:=Zit hx hm
  refine Z4B (st:=st) a3 s1 (by rw [hst]; rfl) ?_
  have hxl:=(Z9A (S:=WOk n) (Z7f w.ok w.hG w.lab4) w.x hx).l
  obtain ⟨r,hr,r1,r2,r3,r4⟩:=Zk6 l rp (cw+1) c k x (rgL Gl lab x0 k) ov st h hxl a1 qO qO qO a6 a7 a3 s1 qO
  have hk:G (.rnd st.nt st.lin st.fr st.params l st.assign st.body) ([av x]++st.vals) h c []=some r:=by rw [hst]; exact Zeg hr
  obtain ⟨O',o1,o2,o3⟩:=hi.app hl rfl lr hx s1 s2 qO a6 a8 a7 r1 r4
  exact .intro hk ⟨_,r4.1,r1,.inl ⟨rfl,O',o1,o2,o3⟩⟩
 obtain ⟨E,hE⟩:∃ E,E=Z6T h0 cw 66 [6] #[60] Z1Z Z1W [ptrTo rp]:=⟨_,rfl⟩
 have hEf:∀ i,i<l->E.f i=h0.f i:=fun i hi'=>by
  rw [hE,Z1o,if_neg qO,if_neg qO]
 have hI0:RI l rp (cw+1) cw st Gl x0 lab h0 0 (fun _=>False) E (cw+1):=by
  refine ⟨Nat.le_refl _,fun j hj _=>hEf j qO, ?_, ?_,by omega,_,(hEf rp qO).trans ho,.inl ⟨rfl,rfl,rfl⟩,fun b=>⟨fun q=>q.elim,fun q=>(q.1 rfl).elim⟩⟩
  · rw [hE,Z1o,if_pos hl,hst,hl]
  · rw [hE,Z1o,if_neg qO,if_pos qO]
 obtain ⟨⟨re,rv,rh,rc,rd⟩,hr,r1,r2,r3⟩:=ZaL hI w.ok w.hG w.hn w.lab4 qO qO w.x [] fb (fun _=>False) E hI0 (by rw [hEf _ qO]; exact w.f)
 dsimp only at r1 r2 r3
 simp only [Rt.mk.injEq] at r1
 obtain ⟨rfl,rfl,-,-,rfl⟩:=r1
 rcases r3 with ⟨k,x,-,hf⟩ | ⟨k,x,O,hx,hx2,hi⟩
 · exact hf.elim
 · obtain ⟨a1,a2,a3,a4,a5,ov,a6,a7,a8⟩:=hi
   rw [hl,hE] at hr
   refine Z3E (.intro hr ⟨st,.normal,by rw [← hl]; exact a3,by rw [s1]; simp,by rw [s2]; rfl,k,x,ov,rfl,by dsimp only; omega,rfl, ?_,fun j hj hne=>?_,hx,hx2, ?_, ?_⟩)
   · show (HeapC.del rh (256*cw)).f _=_
     rw [Z5W,if_neg qO,← hl]; exact a4
   · show (HeapC.del rh (256*cw)).f _=_
     rw [Z5W,if_neg qO]; exact a2 j hj hne
   · show (HeapC.del rh (256*cw)).f _=_
     rw [Z5W,if_neg qO]; exact a6
   · exact Z3w (a7.keep fun hv=>by rw [Z5W,if_neg (by have:=(a7.blk hv).1; omega)]) qO
structure RJ (l sp c1 cw:Nat) (st:ALoop) (Gl x0:List Int) (lab:Nat) (h0:FH) (k:Nat) (O:Nat->Prop) (h:FH) (c:Nat):Prop where
 lc:c1<=c
 fr:∀ j,j<256*cw->j ≠ sp->h.f j=h0.f j
 lp:h.f l=some (.loop st)
 df:h.f (l+1)=some .dfr
 o:∀ b,¬ O b
 sp:∃ y,h.f sp=some (.cells false none (ints y))/\y.length=5/\(1<=k->it (wN Gl lab) x0 (k-1)=some y)
theorem ZdI {s:Value} {n:Nat} {Gl x0:List Int} {lab fb gb lb cb cw sp:Nat} {h0:FH} (w:WC s n Gl x0 lab fb gb lb cb cw h0) (lr:sp<256*cw) (hrc:256*cb<=sp) (nf:fb ≠ sp) (ng:gb ≠ sp) (nl:lb ≠ sp) (ho:h0.f sp=some (.cells false none (ints x0))) {m:Nat} (hm:it (wN Gl lab) x0 m=none) (df:List Nat) :
 Ans (Z3o G 66 none [11] [] #[55] Z20 Z1X (.func (.func 78) [].toArray [ptrTo fb,ptrTo gb,ptrTo lb].toArray) [ptrTo sp] h0 cw df) fun q=>∃ k x,q.1 = .normal/\cw+1<=q.2.2.1/\q.2.2.2=(256*cw+1)::df/\q.2.1.f (256*cw+1)=some .dfr/\(∀ j,j<256*cw->j ≠ sp->q.2.1.f j=h0.f j) ∧
  it (wN Gl lab) x0 k=some x/\it (wN Gl lab) x0 (k+1)=none/\q.2.1.f sp=some (.cells false none (ints x)):=by
 obtain ⟨l,hl⟩:∃ l,l=256*cw:=⟨_,rfl⟩
 obtain ⟨st,hst⟩:∃ st,st=Z6S 66 [11] #[55] Z20 Z1X [ptrTo sp] (l+1):=⟨_,rfl⟩
 have s1:st.state = .ready:=by rw [hst]; rfl
 have s2:st.pending=none:=by rw [hst]; rfl
 have b1:=w.lf
 have b2:=w.lg
 have b3:=w.ll
 have b4:=w.bc
 have hI:WkI (.func (.yield l) #[] #[]) s n Gl lab gb lb (cw+1) x0 (RJ l sp (cw+1) cw st Gl x0 lab h0) (fun _ _ _=>False) m:=by
  refine ⟨fun k O h c h' c' hi hc hh=>?_,fun k O h c hi=>?_,fun k x O h c hx hi=>?_,fun k x O h c hx hi=>Zit hx hm⟩
  · obtain ⟨a1,a2,a3,a4,a5,y,a6,a7⟩:=hi
    exact ⟨by omega,fun j hj hne=>(hh j qO (.inl qO)).trans (a2 j hj hne),(hh l qO (.inl qO)).trans a3,(hh (l+1) qO (.inl qO)).trans a4,a5,y,(hh sp qO (.inl qO)).trans a6,a7⟩
  · obtain ⟨a1,a2,a3,a4,a5,-⟩:=hi
    obtain ⟨ro,op,q1⟩:=w.g
    obtain ⟨ro2,op2,q2⟩:=w.l
    exact ⟨⟨ro,op,(a2 gb b2 ng).trans q1⟩,⟨ro2,op2,(a2 lb b3 nl).trans q2⟩,(w.sl.same fun j hj=>a2 j qO qO).mono qO,a1,fun b hb=>(a5 b hb).elim⟩
  · obtain ⟨a1,a2,a3,a4,a5,y,a6,a7,a8⟩:=hi
    refine Z4B (st:=st) a3 s1 (by rw [hst]; rfl) ?_
    have hxl:=(Z9A (S:=WOk n) (Z7f w.ok w.hG w.lab4) w.x hx).l
    obtain ⟨r,hr,r1,r2,r3,r4,r5,r6,r7⟩:=Zk7 l sp (cw+1) c x y st h hxl a7 a1 qO qO qO a6 a3 s1
    have hk:G (.rnd st.nt st.lin st.fr st.params l st.assign st.body) ([av x]++st.vals) h c []=some r:=by rw [hst]; exact Zeh hr
    have est:({ st with state:=.ready,pending:=none }:ALoop)=st:=by rw [hst]; rfl
    rw [est] at r5
    exact .intro hk ⟨_,r4,r1,.inl ⟨rfl,fun _=>False,fun b e=>e.elim,⟨by dsimp only; omega,fun j hj hne=>(r7 j qO qO hne).trans (a2 j hj hne),r5,(r7 (l+1) qO qO qO).trans a4,fun b e=>e,x,r6,hxl,fun _=>hx⟩,fun b e1 e2 e3=>r7 b e1 qO qO⟩⟩
 obtain ⟨E,hE⟩:∃ E,E=Z6T h0 cw 66 [11] #[55] Z20 Z1X [ptrTo sp]:=⟨_,rfl⟩
 have hEf:∀ i,i<l->E.f i=h0.f i:=fun i hi'=>by
  rw [hE,Z1o,if_neg qO,if_neg qO]
 have hI0:RJ l sp (cw+1) cw st Gl x0 lab h0 0 (fun _=>False) E (cw+1):=by
  refine ⟨Nat.le_refl _,fun j hj _=>hEf j qO, ?_, ?_,fun b e=>e,x0,(hEf sp qO).trans ho,w.x.l,fun e=>by omega⟩
  · rw [hE,Z1o,if_pos hl,hst,hl]
  · rw [hE,Z1o,if_neg qO,if_pos qO]
 obtain ⟨⟨re,rv,rh,rc,rd⟩,hr,r1,r2,r3⟩:=ZaL hI w.ok w.hG w.hn w.lab4 qO qO w.x [] fb (fun _=>False) E hI0 (by rw [hEf _ qO]; exact w.f)
 dsimp only at r1 r2 r3
 simp only [Rt.mk.injEq] at r1
 obtain ⟨rfl,rfl,-,-,rfl⟩:=r1
 rcases r3 with ⟨k,x,-,hf⟩ | ⟨k,x,O,hx,hx2,hi⟩
 · exact hf.elim
 · obtain ⟨a1,a2,a3,a4,a5,y,a6,a7,a8⟩:=hi
   have e8:=a8 qO
   rw [Nat.add_sub_cancel,hx] at e8
   cases e8
   rw [hl,hE] at hr
   refine Z3E (.intro hr ⟨st,.normal,by rw [← hl]; exact a3,by rw [s1]; simp,by rw [s2]; rfl,k,x,rfl,by dsimp only; omega,rfl, ?_,fun j hj hne=>?_,hx,hx2, ?_⟩)
   · show (HeapC.del rh (256*cw)).f _=_
     rw [Z5W,if_neg qO,← hl]; exact a4
   · show (HeapC.del rh (256*cw)).f _=_
     rw [Z5W,if_neg qO]; exact a2 j hj hne
   · show (HeapC.del rh (256*cw)).f _=_
     rw [Z5W,if_neg qO]; exact a6

theorem Zjq {Gl:List Int} {n lab:Nat} (hok:Z0F Gl n=true) (hG:Gl.length=n*20) (hl:lab<4) (a a' b:List Int) (h1:WOk n a) (h2:WOk n a') (e1:wN Gl lab a=some b) (e2:wN Gl lab a'=some b):a=a':=by
 obtain ⟨lab',q1,q2⟩:∃ lab',lab'<4/\ZaP.getD lab' 0=lab:=by
  match lab,hl with
  | 0,_=>exact ⟨0,by omega,rfl⟩
  | 1,_=>exact ⟨1,by omega,rfl⟩
  | 2,_=>exact ⟨3,by omega,rfl⟩
  | 3,_=>exact ⟨2,by omega,rfl⟩
 have f1:=Z7g hok hG hl q1 q2 a b h1 e1
 rw [Z7g hok hG hl q1 q2 a' b h2 e2] at f1
 exact (Option.some.inj f1).symm
def RgC (Gl x0:List Int) (lab k:Nat):Prop:=1<=k/\it (wN Gl lab) x0 k=some x0 /\ ∀ j,1<=j->j<k->it (wN Gl lab) x0 j ≠ some x0
theorem ZdH {s:Value} {n:Nat} {Gl x0:List Int} {lab fb gb lb fp cb cw rp tp ep:Nat} {h0:FH} (w:WC s n Gl x0 lab fb gb lb cb cw h0) (lr:rp<256*cw) (hrc:256*cb<=rp) (nf:fb ≠ rp) (ng:gb ≠ rp) (nl:lb ≠ rp) (lt:tp<256*cw) (le:ep<256*cw) (lfp:fp<256*cw) (np:fp ≠ rp)
 (n5:rp ≠ tp) (n6:rp ≠ ep) (n7:tp ≠ ep)
 (ho:h0.f rp=some (.cells false none [.slice none 0 0])) (ht:h0.f tp=some (.cells false none [.bool false])) (he:h0.f ep=some (.cells false none [.int .i64 0])) (hp:Z0d h0 fp (ints x0)) (df:List Nat) :
 Ans (Z3o G 66 none [6,7,8,9] [] #[37] Z21 Z1Y (.func (.func 78) [].toArray [ptrTo fb,ptrTo gb,ptrTo lb].toArray) [ptrTo rp,ptrTo tp,ptrTo ep,ptrTo fp] h0 cw df) fun q=>cw+1<=q.2.2.1/\q.2.2.2=(256*cw+1)::df/\q.2.1.f (256*cw+1)=some .dfr/\(∀ j,j<256*cw->j ≠ rp->j ≠ tp->q.2.1.f j=h0.f j) ∧
  ((q.1 = .ret/\q.2.1.f tp=some (.cells false none [.bool true]) /\ ∃ k ov,RgC Gl x0 lab k/\q.2.1.f rp=some (.cells false none [ov])/\GrC cw q.2.1 q.2.2.1 ov 5 k (ints (rgL Gl lab x0 k))) ∨
   (q.1 = .normal/\q.2.1.f tp=some (.cells false none [.bool false]) /\ ∃ m ov,it (wN Gl lab) x0 m=none/\q.2.1.f rp=some (.cells false none [ov])/\Z06 ov=true/\ov.cells = #[ov])):=by
 obtain ⟨l,hl⟩:∃ l,l=256*cw:=⟨_,rfl⟩
 obtain ⟨st,hst⟩:∃ st,st=Z6S 66 [6,7,8,9] #[37] Z21 Z1Y [ptrTo rp,ptrTo tp,ptrTo ep,ptrTo fp] (l+1):=⟨_,rfl⟩
 have s1:st.state = .ready:=by rw [hst]; rfl
 have s2:st.pending=none:=by rw [hst]; rfl
 have b1:=w.lf
 have b2:=w.lg
 have b3:=w.ll
 have b4:=w.bc
 have hn:=w.hn
 have hx0:=w.x
 have hend:=Zfr (f:=wN Gl lab) (S:=WOk n) (cd:=wCd) (N:=256*n) (s:=x0) (Z7f w.ok w.hG w.lab4) ZeI ZaN (Zjq w.ok w.hG w.lab4) hx0
 have fuel:∀ k x,it (wN Gl lab) x0 k=some x->(∀ j,1<=j->j<k->it (wN Gl lab) x0 j ≠ some x0)->k<=256*n:=fun k x hx hj=>by
  rcases hend with ⟨m,m1,m2⟩ | ⟨m,m1,m2,m3⟩
  · have:=Zit hx m2; omega
  · rcases Nat.lt_or_ge m k with q | q
    · exact absurd m3 (hj m m1 q)
    · omega
 have hI:WkI (.func (.yield l) #[] #[]) s n Gl lab gb lb (cw+1) x0 (fun k O h c=>RI l rp (cw+1) cw st Gl x0 lab h0 k O h c /\ ∀ j,1<=j->j<k->it (wN Gl lab) x0 j ≠ some x0)
  (fun k h c=>cw+1<=c/\h.f l=some (.loop { st with state:=.done,pending:=some .ret })/\h.f (l+1)=some .dfr/\h.f tp=some (.cells false none [.bool true])/\(∀ j,j<256*cw->j ≠ rp->j ≠ tp->h.f j=h0.f j)/\RgC Gl x0 lab k /\ ∃ ov,h.f rp=some (.cells false none [ov])/\GrC (cw+1) h c ov 5 k (ints (rgL Gl lab x0 k))) (256*n+1):=by
  refine ⟨fun k O h c h' c' hi hc hh=>⟨hi.1.stab hl rfl lr hc hh,hi.2⟩,fun k O h c hi=>hi.1.read w rfl hrc ng nl,fun k x O h c hx hi=>?_,fun k x O h c hx hi=>by have:=fuel k x hx hi.2; omega⟩
  obtain ⟨hi,hj⟩:=hi
  have hi':=hi
  obtain ⟨a1,a2,a3,a4,a5,ov,a6,a7,a8⟩:=hi'
  have hkm:=fuel k x hx hj
  refine Z4B (st:=st) a3 s1 (by rw [hst]; rfl) ?_
  have hxl:=(Z9A (S:=WOk n) (Z7f w.ok w.hG w.lab4) hx0 hx).l
  have hp':Z0d h fp (ints x0):=by
   obtain ⟨ro,op,q⟩:=hp
   exact ⟨ro,op,(a2 fp lfp np).trans q⟩
  obtain ⟨r,hr,r1,r2,r3,r4⟩:=Zk8 l rp tp ep fp (cw+1) c k x x0 (rgL Gl lab x0 k) ov st h hxl hx0.l a1 qO qO qO qO qO qO qO qO qO n5 n6 n7 a6 ((a2 tp lt (Ne.symm n5)).trans ht) ((a2 ep le (Ne.symm n6)).trans he) hp' a7 a3 s1 qO
  have hk:G (.rnd st.nt st.lin st.fr st.params l st.assign st.body) ([av x]++st.vals) h c []=some r:=by rw [hst]; exact Zei hr
  rcases r4 with ⟨q1,q2,q3,q4,q5,q6⟩ | ⟨q1,q2⟩
  · subst q2
    refine .intro hk ⟨_,q3,r1,.inr ⟨rfl,by dsimp only; omega,q4, ?_,q5,fun j hj' e1 e2=>?_,⟨q1,hx,hj⟩,ov, ?_, ?_⟩⟩
    · exact (q6 (l+1) qO qO qO).trans a4
    · exact (q6 j qO qO e2).trans (a2 j hj' e1)
    · exact (q6 rp qO qO n5).trans a6
    · exact (a7.keep fun hv=>q6 _ (a7.blk hv).2 (by have:=(a7.blk hv).1; omega) (by have:=(a7.blk hv).1; omega)).mono r1
  · obtain ⟨O',o1,o2,o3⟩:=hi.app hl rfl lr hx s1 s2 qO a6 a8 a7 r1 q2
    refine .intro hk ⟨_,q2.1,r1,.inl ⟨rfl,O',o1,⟨o2,fun j e1 e2=>?_⟩,o3⟩⟩
    by_cases e:j=k
    · subst e
      rw [hx]
      exact fun z=>q1 ⟨by omega,Option.some.inj z⟩
    · exact hj j e1 qO
 obtain ⟨E,hE⟩:∃ E,E=Z6T h0 cw 66 [6,7,8,9] #[37] Z21 Z1Y [ptrTo rp,ptrTo tp,ptrTo ep,ptrTo fp]:=⟨_,rfl⟩
 have hEf:∀ i,i<l->E.f i=h0.f i:=fun i hi'=>by
  rw [hE,Z1o,if_neg qO,if_neg qO]
 have hI0:RI l rp (cw+1) cw st Gl x0 lab h0 0 (fun _=>False) E (cw+1):=by
  refine ⟨Nat.le_refl _,fun j hj _=>hEf j qO, ?_, ?_,by omega,_,(hEf rp qO).trans ho,.inl ⟨rfl,rfl,rfl⟩,fun b=>⟨fun q=>q.elim,fun q=>(q.1 rfl).elim⟩⟩
  · rw [hE,Z1o,if_pos hl,hst,hl]
  · rw [hE,Z1o,if_neg qO,if_pos qO]
 obtain ⟨⟨re,rv,rh,rc,rd⟩,hr,r1,r2,r3⟩:=ZaL hI w.ok w.hG w.hn w.lab4 qO qO w.x [] fb (fun _=>False) E ⟨hI0,fun j _ e=>by omega⟩ (by rw [hEf _ qO]; exact w.f)
 dsimp only at r1 r2 r3
 simp only [Rt.mk.injEq] at r1
 obtain ⟨rfl,rfl,-,-,rfl⟩:=r1
 rw [hl,hE] at hr
 have dl:∀ j,j ≠ l->(HeapC.del rh (256*cw)).f j=rh.f j:=fun j hj=>by rw [Z5W,if_neg qO]
 rcases r3 with ⟨k,x,hx,a1,a3,a4,a5,a2,rc',ov,a6,a7⟩ | ⟨k,x,O,hx,hx2,hi,-⟩
 · refine Z3E (.intro hr ⟨_,.ret,by rw [← hl]; exact a3,by simp,rfl,by dsimp only; omega,rfl, ?_,fun j hj e1 e2=>?_,.inl ⟨rfl, ?_,k,ov,rc', ?_, ?_⟩⟩)
   · exact (dl _ qO).trans (by rw [← hl]; exact a4)
   · exact (dl _ qO).trans (a2 j hj e1 e2)
   · exact (dl _ qO).trans a5
   · exact (dl _ qO).trans a6
   · exact Z3w (a7.keep fun hv=>dl _ (by have:=(a7.blk hv).1; omega)) qO
 · obtain ⟨a1,a2,a3,a4,a5,ov,a6,a7,a8⟩:=hi
   refine Z3E (.intro hr ⟨st,.normal,by rw [← hl]; exact a3,by rw [s1]; simp,by rw [s2]; rfl,by dsimp only; omega,rfl, ?_,fun j hj e1 e2=>?_,.inr ⟨rfl, ?_,k+1,ov,hx2, ?_,a7.flat⟩⟩)
   · exact (dl _ qO).trans (by rw [← hl]; exact a4)
   · exact (dl _ qO).trans (a2 j hj e1)
   · exact (dl _ qO).trans ((a2 tp lt (Ne.symm n5)).trans ht)
   · exact (dl _ qO).trans a6

theorem Z7n {h:FH} {b:Nat} {v:Value} (hf:h.f b=some (.cells false none [v])) (h1:v.cells = #[v]) (h2:Z06 v=true):stN h 1 (.pointer (some ⟨b,0,none⟩)) v=some h:=by
 rw [Z0G (show HeapC.get h b=_ from hf) (by simp) h1 h2]
 congr 1
 apply FH.ext; intro j
 rw [Z0c]; split
 · rename_i e; rw [e,hf]; rfl
 · rfl
theorem ZaR {h:FH} {b:Nat} {v w:Value} (hf:h.f b=some (.cells false none [w])) (h1:v.cells = #[v]) (h2:Z06 v=true):stN h 1 (.pointer (some ⟨b,0,none⟩)) v=some (newB h b [v]):=by
 rw [Z0G (show HeapC.get h b=_ from hf) (by simp) h1 h2]
 rfl
theorem Z1j {h:FH} {b:Nat} {v:Value} (hf:h.f b=some (.cells false none [v])):ld1 h (.pointer (some ⟨b,0,none⟩))=some v:=by
 rw [Z02 (cs:=[v]) ⟨false,none,hf⟩]; rfl
theorem Z6B (s:Value) (x:List Int) (lab:Int) (h:FH) (c:Nat) (hs:Z06 s=true):callF G 57 [.agg #[s],av x,.int .i64 lab] h c=some (.func (.func 78) [].toArray [ptrTo (256*c+1),ptrTo (256*c),ptrTo (256*c+2)].toArray,newB (newB (newB h (256*c) [s]) (256*c+1) (ints x)) (256*c+2) [.int .i64 lab],c+1+1):=by
 refine Z07 (f57_go (r:=⟨.ret,[_],_,_,[]⟩) ?_)
 unfold ZkS
 have Z2b:((Value.agg #[s]).cells.toList.all Z06)=true:=by simp [Value.cells,hs]
 have Z2e:(Value.agg #[s]).cells.toList=[s]:=rfl
 have flat2:((av x).cells.toList.all Z06)=true:=by simp
 rw [Z2b,flat2,Z2e,Z1p]
 rfl
def RgO (Gl x0 y:List Int) (k:Nat):Prop:=(∃ m,it (wN Gl 2) x0 m=none)/\(∃ i,it (wN Gl 3) x0 i=some y/\it (wN Gl 3) x0 (i+1)=none) /\ ∃ x,it (wN Gl 2) y k=some x/\it (wN Gl 2) y (k+1)=none
def RgA (c0:Nat) (h:FH) (c:Nat) (ov:Value) (cl:Bool) (e t:Int) (p:List Int) (n:Nat) (Gl:List Int):Prop :=
 (Z0F Gl n=false/\ov = .slice none 0 0/\cl=false/\e=7) ∨ (Z0F Gl n=true /\ ¬ (0<=t/\t<n/\Z1E p=true)/\ov = .slice none 0 0/\cl=false/\e=1) ∨
 (Z0F Gl n=true/\(0<=t/\t<n/\Z1E p=true)/\e=0/\((cl=true /\ ∃ k,RgC Gl (t::p) 2 k/\GrC c0 h c ov 5 k (ints (rgL Gl 2 (t::p) k))) ∨ (cl=false /\ ∃ y k,RgO Gl (t::p) y k/\GrC c0 h c ov 5 (k+1) (ints (rgL Gl 2 y (k+1))))))
theorem ZjS {s:Value} {n:Nat} {Gl x:List Int} {lab cb c:Nat} {M:FH} (sl:SlI M cb s 20 n Gl) (hc:cb<=c) (ok:Z0F Gl n=true) (hn:n<=60) (hx:WOk n x) (l4:lab<4) :
 WC s n Gl x lab (256*c+1) (256*c) (256*c+2) cb (c+1+1) (newB (newB (newB M (256*c) [s]) (256*c+1) (ints x)) (256*c+2) [.int .i64 lab]):=by
 refine ⟨?_,⟨false,none, ?_⟩,⟨false,none, ?_⟩,by omega,by omega,by omega,by omega,sl.same fun j hj=>?_,ok,hn,hx,l4⟩
 · rw [Z01,if_neg qO,Z01,if_pos rfl]
 · show FH.f (newB _ _ _) _=_
   rw [Z01,if_neg qO,Z01,if_neg qO,Z01,if_pos rfl]
 · show FH.f (newB _ _ _) _=_
   rw [Z01,if_pos rfl]
 · rw [Z01,if_neg qO,Z01,if_neg qO,Z01,if_neg qO]
theorem ZaM (M:FH) (c:Nat) (s:Value) (x:List Int) (v:Value) {j:Nat} (hj:j<256*c):(newB (newB (newB M (256*c) [s]) (256*c+1) (ints x)) (256*c+2) [v]).f j=M.f j:=by
 rw [Z01,if_neg qO,Z01,if_neg qO,Z01,if_neg qO]
set_option maxHeartbeats 2000000 in
theorem Zlo (s:Value) (n:Nat) (Gl:List Int) (t:Int) (p:List Int) (hp:p.length=4) (h:FH) (c:Nat) (df:List Nat) (hs:SlI h c s 20 n Gl) (hn:n<=60) :
 Ans (G (.fn 29) [.agg #[s],.int .i64 t,av p] h c df) fun r=>∃ ov cl e,r=⟨.ret,[.tuple #[ov,.bool cl,.int .i64 e]],r.h,r.c,[]⟩/\c<=r.c/\Z0l c h r.h/\RgA c r.h r.c ov cl e t p n Gl:=by
 refine Ans.call' (fun r e=>f29_go e) ?_
 have hsf:=hs.flat
 have Z2b:((Value.agg #[s]).cells.toList.all Z06)=true:=by simp [Value.cells,hs.flat]
 have Z2e:(Value.agg #[s]).cells.toList=[s]:=rfl
 have flat2:((av p).cells.toList.all Z06)=true:=by simp
 unfold Zl0
 rw [Z2b,flat2,Z2e,Z1p]
 simp only [cond_true,Nat.add_zero]
 obtain ⟨g0,hg0⟩:∃ b,256*c=b:=⟨_,rfl⟩
 obtain ⟨p0,hp0⟩:∃ b,256*c+1=b:=⟨_,rfl⟩
 obtain ⟨rp,hrp⟩:∃ b,256*c+2=b:=⟨_,rfl⟩
 obtain ⟨tp,htp⟩:∃ b,256*c+3=b:=⟨_,rfl⟩
 obtain ⟨ep,hep⟩:∃ b,256*c+4=b:=⟨_,rfl⟩
 rw [hp0,hrp,htp,hep,hg0]
 obtain ⟨M,hM⟩:∃ M,newB (newB (newB (newB (newB h g0 [s]) p0 (ints p)) rp [.slice none 0 0]) tp [.bool false]) ep [.int .i64 0]=M:=⟨_,rfl⟩
 rw [hM]
 have Mf:∀ j,M.f j=if j=ep then some (.cells false none [.int .i64 0]) else if j=tp then some (.cells false none [.bool false]) else if j=rp then some (.cells false none [.slice none 0 0]) else if j=p0 then some (.cells false none (ints p)) else if j=g0 then some (.cells false none [s]) else h.f j:=fun j=>by rw [← hM,Z01,Z01,Z01,Z01,Z01]
 have sM:Z0l c h M:=fun j hj=>by rw [Mf,if_neg qO,if_neg qO,if_neg qO,if_neg qO,if_neg qO]
 have Mg:M.f g0=some (.cells false none [s]):=by rw [Mf,if_neg qO,if_neg qO,if_neg qO,if_neg qO,if_pos rfl]
 have Mp:M.f p0=some (.cells false none (ints p)):=by rw [Mf,if_neg qO,if_neg qO,if_neg qO,if_pos rfl]
 have Mr:M.f rp=some (.cells false none [.slice none 0 0]):=by rw [Mf,if_neg qO,if_neg qO,if_pos rfl]
 have Mt:M.f tp=some (.cells false none [.bool false]):=by rw [Mf,if_neg qO,if_pos rfl]
 have Me:M.f ep=some (.cells false none [.int .i64 0]):=by rw [Mf,if_pos rfl]
 have slM:SlI M c s 20 n Gl:=hs.same sM
 have l0:ldN M 1 (.pointer (some ⟨g0,0,none⟩))=some (.agg #[s]):=Z0y (cs:=[]) ⟨false,none,Mg⟩
 have ck:=Z07 (Z55 s n Gl M (c+1+1) [] (slM.mono qO))
 have w1:=Z7n Mr rfl rfl
 have w2:=Z7n Mt rfl rfl
 have r1:=Z1j Mr
 have r2:=Z1j Mt
 have hE:∀ v:Int,∃ E,stN M 1 (.pointer (some ⟨ep,0,none⟩)) (.int .i64 v)=some E/\E.f ep=some (.cells false none [.int .i64 v]) /\ ∀ j,j ≠ ep->E.f j=M.f j:=fun v=>⟨_,ZaR Me rfl rfl,by rw [Z01,if_pos rfl],fun j hj=>by rw [Z01,if_neg hj]⟩
 have fail:∀ (k:Nat) (v:Int),c<=k -> ∃ E,stN M 1 (.pointer (some ⟨ep,0,none⟩)) (.int .i64 v)=some E/\ld1 E (.pointer (some ⟨rp,0,none⟩))=some (.slice none 0 0)/\ld1 E (.pointer (some ⟨tp,0,none⟩))=some (.bool false)/\ld1 E (.pointer (some ⟨ep,0,none⟩))=some (.int .i64 v)/\Z0l c h E:=fun k v hk=>by
  obtain ⟨E,e1,e2,e3⟩:=hE v
  exact ⟨E,e1,Z1j ((e3 rp qO).trans Mr),Z1j ((e3 tp qO).trans Mt),Z1j e2,fun j hj=>(e3 j qO).trans (sM j hj)⟩
 by_cases hok:Z0F Gl n=true
 · rw [if_pos ⟨by omega,hok⟩] at ck
   have g1:=Z1j Mg
   have len:=hs.len
   have l4:ldN M 4 (.pointer (some ⟨p0,0,none⟩))=some (av p):=Z0O Mp (by rw [ints_length,hp])
   have cv:=Z0V p hp M (c+1+1+1)
   obtain ⟨E1,f1,f2,f3,f4,f5⟩:=fail (c+1+1+1) 1 qO
   by_cases h1:t<0
   · have fx:=ai l0 (ai ck (ai w1 (ai w2 (ai f1 (ai f2 (ai f3 f4))))))
     refine Ans.go ?_
     clear fx
     exact .done ⟨_,false,1,rfl,by dsimp only; omega,f5,.inr (.inl ⟨hok,by omega,rfl,rfl,rfl⟩)⟩
   by_cases h2:(n:Int)<=t
   · have fx:=ai l0 (ai ck (ai g1 (ai len (ai w1 (ai w2 (ai f1 (ai f2 (ai f3 f4))))))))
     refine Ans.go ?_
     clear fx
     exact .done ⟨_,false,1,rfl,by dsimp only; omega,f5,.inr (.inl ⟨hok,by omega,rfl,rfl,rfl⟩)⟩
   by_cases h3:Z1E p=true
   · rw [h3] at cv
     have hp24:=ZdN hp h3
     obtain ⟨u,rfl⟩:∃ u:Nat,t=u:=⟨t.toNat,by omega⟩
     have hx:WOk n ((u:Int)::p):=WOk.mk' qO hp24
     obtain ⟨x0,hx0⟩:∃ x,(u:Int)::p=x:=⟨_,rfl⟩
     have b5:Z1d z5 [(0,1,.int .i64 u),(1,4,av p)]=some (av x0):=by
      rw [← hx0]
      match p,hp with
      | [a,b,d,e],_=>rfl
     rw [hx0] at hx
     have hx5:=hx.l
     obtain ⟨fp,hfp⟩:∃ b,256*(c+1+1+1)+3=b:=⟨_,rfl⟩
     have st:stN (newB M fp z5) 5 (.pointer (some ⟨fp,0,none⟩)) (av x0)=some (newB M fp (ints x0)):=stN_all _ _ 5 _ _ hx5 rfl
     obtain ⟨A,hA⟩:∃ A,newB M fp (ints x0)=A:=⟨_,rfl⟩
     rw [hA] at st
     have Af:∀ j,j ≠ fp->A.f j=M.f j:=fun j hj=>by rw [← hA,Z01,if_neg hj]
     have Afp:A.f fp=some (.cells false none (ints x0)):=by rw [← hA,Z01,if_pos rfl]
     have a0:ldN A 1 (.pointer (some ⟨g0,0,none⟩))=some (.agg #[s]):=Z0y (cs:=[]) ⟨false,none,(Af g0 qO).trans Mg⟩
     have a5:ldN A 5 (.pointer (some ⟨fp,0,none⟩))=some (av x0):=Z0O Afp (by rw [ints_length,hx5])
     have slA:SlI A c s 20 n Gl:=slM.same fun j hj=>Af j qO
     have cw1:=Z6B s x0 2 A (c+1+1+1+1+1) hsf
     have W1:WC s n Gl x0 2 _ _ _ c (c+1+1+1+1+1+1+1) _:=ZjS (c:=c+1+1+1+1+1) slA qO hok hn hx qO
     have B1:=fun j hj=>ZaM A (c+1+1+1+1+1) s x0 (.int .i64 (2:Nat)) (j:=j) hj
     obtain ⟨B,hB⟩:∃ B,newB (newB (newB A (256*(c+1+1+1+1+1)) [s]) (256*(c+1+1+1+1+1)+1) (ints x0)) (256*(c+1+1+1+1+1)+2) [.int .i64 (2:Nat)]=B:=⟨_,rfl⟩
     have hB':newB (newB (newB A (256*(c+1+1+1+1+1)) [s]) (256*(c+1+1+1+1+1)+1) (ints x0)) (256*(c+1+1+1+1+1)+2) [.int .i64 2]=B:=hB
     rw [hB'] at cw1
     rw [hB] at W1
     simp only [hB] at B1
     obtain ⟨⟨e1,Q,k1,d1⟩,hq1,y1,y2,y3,y4,y5⟩:=ZdH (rp:=rp) (tp:=tp) (ep:=ep) (fp:=fp) W1 qO qO qO qO qO qO qO qO qO qO qO qO
      (by rw [B1 _ qO,Af _ qO]; exact Mr) (by rw [B1 _ qO,Af _ qO]; exact Mt) (by rw [B1 _ qO,Af _ qO]; exact Me) ⟨false,none,by show B.f fp=_; rw [B1 _ qO]; exact Afp⟩ []
     dsimp only at y1 y2 y3 y4 y5
     subst y2
     have low1:∀ j,j<256*(c+1+1+1)->j ≠ rp->j ≠ tp->Q.f j=M.f j:=fun j hj q1 q2=>by rw [y4 j qO q1 q2,B1 j qO,Af j qO]
     rw [show [Value.int .i64 0,Value.int .i64 0,Value.int .i64 0,Value.int .i64 0,Value.int .i64 0]=z5 from rfl]
     obtain ⟨Z,hZ⟩:∃ Z,z5=Z:=⟨_,rfl⟩
     rcases y5 with ⟨rfl,z1,k,ov,z2,z3,z4⟩ | ⟨rfl,z1,m,ov,z2,z3,z4,z5'⟩
     · obtain ⟨Q',t1,t2⟩:=Z68 (df:=[256*(c+1+1+1+1+1+1+1)+1]) (h:=Q) (by simp) (fun d hd=>by simp only [List.mem_singleton] at hd; rw [hd]; exact y3)
       have t2':∀ j,j ≠ 256*(c+1+1+1+1+1+1+1)+1->Q'.f j=Q.f j:=fun j hj=>t2 j (by simpa using hj)
       have v1:=Z1j ((t2' rp qO).trans z3)
       have v2:=Z1j ((t2' tp qO).trans z1)
       have v3:=Z1j ((t2' ep qO).trans ((low1 ep qO qO qO).trans Me))
       rw [hZ] at b5 st ⊢
       have fx:=ai l0 (ai ck (ai g1 (ai len (ai l4 (ai cv (ai b5 (ai hfp (ai st (ai a0 (ai a5 (ai cw1 (ai hq1 (ai t1 (ai v1 (ai v2 v3)))))))))))))))
       refine Ans.go ?_
       clear fx
       refine .done ⟨ov,true,0,rfl,by dsimp only; omega,fun j hj=>?_,.inr (.inr ⟨hok,⟨by omega,by omega,h3⟩,rfl,.inl ⟨rfl,k, ?_, ?_⟩⟩)⟩
       · show Q'.f j=_
         rw [t2' j qO,low1 j qO qO qO]; exact sM j hj
       · rw [hx0]; exact z2
       · rw [hx0]
         refine Z3w (c1:=c+1+1+1+1+1+1+1) (z4.keep fun hv=>t2' _ fun e=>?_) qO
         rcases z4 with ⟨q,_⟩ | ⟨_,_,_,_,i,rfl,_,_,q⟩
         · exact hv q
         · rw [blkOf_sl] at e
           rw [e,y3] at q; cases q
     · -- the walk meets a free face
       have hxQ:Q.f fp=some (.cells false none (ints x0)):=by rw [y4 fp qO qO qO,B1 fp qO]; exact Afp
       have qa:ldN Q 5 (.pointer (some ⟨fp,0,none⟩))=some (av x0):=Z0O hxQ (by rw [ints_length,hx5])
       obtain ⟨sp,hsp⟩:∃ b,256*k1+1=b:=⟨_,rfl⟩
       have st2:stN (newB Q sp z5) 5 (.pointer (some ⟨sp,0,none⟩)) (av x0)=some (newB Q sp (ints x0)):=stN_all _ _ 5 _ _ hx5 rfl
       obtain ⟨A2,hA2⟩:∃ A,newB Q sp (ints x0)=A:=⟨_,rfl⟩
       rw [hA2] at st2
       have A2f:∀ j,j ≠ sp->A2.f j=Q.f j:=fun j hj=>by rw [← hA2,Z01,if_neg hj]
       have A2s:A2.f sp=some (.cells false none (ints x0)):=by rw [← hA2,Z01,if_pos rfl]
       have Qg:Q.f g0=some (.cells false none [s]):=(low1 g0 qO qO qO).trans Mg
       have q0:ldN A2 1 (.pointer (some ⟨g0,0,none⟩))=some (.agg #[s]):=Z0y (cs:=[]) ⟨false,none,(A2f g0 qO).trans Qg⟩
       have q5:ldN A2 5 (.pointer (some ⟨fp,0,none⟩))=some (av x0):=Z0O ((A2f fp qO).trans hxQ) (by rw [ints_length,hx5])
       have slA2:SlI A2 c s 20 n Gl:=slM.same fun j hj=>(A2f j qO).trans (low1 j qO qO qO)
       have cw2:=Z6B s x0 3 A2 (k1+1+1) hsf
       have W2:WC s n Gl x0 3 _ _ _ c (k1+1+1+1+1) _:=ZjS (c:=k1+1+1) slA2 qO hok hn hx qO
       have B2:=fun j hj=>ZaM A2 (k1+1+1) s x0 (.int .i64 (3:Nat)) (j:=j) hj
       obtain ⟨C,hC⟩:∃ B,newB (newB (newB A2 (256*(k1+1+1)) [s]) (256*(k1+1+1)+1) (ints x0)) (256*(k1+1+1)+2) [.int .i64 (3:Nat)]=B:=⟨_,rfl⟩
       have hC':newB (newB (newB A2 (256*(k1+1+1)) [s]) (256*(k1+1+1)+1) (ints x0)) (256*(k1+1+1)+2) [.int .i64 3]=C:=hC
       rw [hC'] at cw2
       rw [hC] at W2
       simp only [hC] at B2
       obtain ⟨m3,m31,m32⟩:=Zko (f:=wN Gl 2) (b:=wN Gl 3) (S:=WOk n) (cd:=wCd) (N:=256*n) (Z7f hok hs.1 qO) (Z7f hok hs.1 qO) ZeI ZaN (Z7g hok hs.1 (lab:=2) (lab':=3) qO qO rfl) (Z7g hok hs.1 (lab:=3) (lab':=2) qO qO rfl) hx z2
       obtain ⟨⟨e2,Q2,k2,d2⟩,hq2,i,y,rfl,x2,rfl,x4,x5,x6,x7,x8⟩:=ZdI (sp:=sp) W2 qO qO qO qO qO ((B2 sp qO).trans A2s) m32 [256*(c+1+1+1+1+1+1+1)+1]
       dsimp only at x2 x4 x5 x8
       have hy:WOk n y:=Z9A (S:=WOk n) (Z7f hok hs.1 qO) hx x6
       have hy5:=hy.l
       have low2:∀ j,j<256*k1->j ≠ sp->Q2.f j=Q.f j:=fun j hj q1=>by rw [x5 j qO q1,B2 j qO,A2f j q1]
       have Q2r:Q2.f rp=some (.cells false none [ov]):=(low2 rp qO qO).trans z3
       have st3:=ZaR (v:=.slice none 0 0) Q2r rfl rfl
       obtain ⟨D,hD⟩:∃ D,newB Q2 rp [.slice none 0 0]=D:=⟨_,rfl⟩
       rw [hD] at st3
       have Df:∀ j,j ≠ rp->D.f j=Q2.f j:=fun j hj=>by rw [← hD,Z01,if_neg hj]
       have Dr:D.f rp=some (.cells false none [.slice none 0 0]):=by rw [← hD,Z01,if_pos rfl]
       have D1:∀ j,j<256*(c+1+1+1)->j ≠ rp->j ≠ tp->D.f j=M.f j:=fun j hj q1 q2=>by rw [Df j q1,low2 j qO qO,low1 j hj q1 q2]
       have u0:ldN D 1 (.pointer (some ⟨g0,0,none⟩))=some (.agg #[s]):=Z0y (cs:=[]) ⟨false,none,(D1 g0 qO qO qO).trans Mg⟩
       have u5:ldN D 5 (.pointer (some ⟨sp,0,none⟩))=some (av y):=Z0O ((Df sp qO).trans x8) (by rw [ints_length,hy5])
       have slD:SlI D c s 20 n Gl:=slM.same fun j hj=>D1 j qO qO qO
       have cw3:=Z6B s y 2 D (k2+1+1) hsf
       have W3:WC s n Gl y 2 _ _ _ c (k2+1+1+1+1) _:=ZjS (c:=k2+1+1) slD qO hok hn hy qO
       have B3:=fun j hj=>ZaM D (k2+1+1) s y (.int .i64 (2:Nat)) (j:=j) hj
       obtain ⟨F,hF⟩:∃ B,newB (newB (newB D (256*(k2+1+1)) [s]) (256*(k2+1+1)+1) (ints y)) (256*(k2+1+1)+2) [.int .i64 (2:Nat)]=B:=⟨_,rfl⟩
       have hF':newB (newB (newB D (256*(k2+1+1)) [s]) (256*(k2+1+1)+1) (ints y)) (256*(k2+1+1)+2) [.int .i64 2]=F:=hF
       rw [hF'] at cw3
       rw [hF] at W3
       simp only [hF] at B3
       have y3n:wN Gl 3 y=none:=by
        have:=x7
        rw [it,x6] at this; exact this
       obtain ⟨m4,m41,m42⟩:=Zis (f:=wN Gl 2) (S:=WOk n) (cd:=wCd) (N:=256*n) (Z7f hok hs.1 qO) ZeI ZaN (Zjq hok hs.1 qO) hy (fun a ha e=>by
        have:=Z7g hok hs.1 (lab:=2) (lab':=3) qO qO rfl a y ha e
        rw [y3n] at this; cases this)
       obtain ⟨⟨e3,Q3,k3,d3⟩,hq3,k,x,ow,rfl,j2,rfl,j4,j5,j6,j7,j8,j9⟩:=Zf0 (rp:=rp) W3 qO qO qO qO qO ((B3 rp qO).trans Dr) m42 qO [256*(k1+1+1+1+1)+1,256*(c+1+1+1+1+1+1+1)+1]
       dsimp only at j2 j4 j5 j8 j9
       have low3:∀ j,j<256*k2->j ≠ rp->Q3.f j=Q2.f j:=fun j hj q1=>by rw [j5 j qO q1,B3 j qO,Df j q1]
       have v0:=Z1j j8
       have v1:=Z7n j8 j9.flat.2 j9.flat.1
       have Q3t:Q3.f tp=some (.cells false none [.bool false]):=by rw [low3 tp qO qO,low2 tp qO qO]; exact z1
       have v2:=Z7n Q3t rfl rfl
       have Q3e:Q3.f ep=some (.cells false none [.int .i64 0]):=by rw [low3 ep qO qO,low2 ep qO qO,low1 ep qO qO qO]; exact Me
       have v3:=Z7n Q3e rfl rfl
       obtain ⟨Q',t1,t2⟩:=Z68 (df:=[256*(k2+1+1+1+1)+1,256*(k1+1+1+1+1)+1,256*(c+1+1+1+1+1+1+1)+1]) (h:=Q3) (by simp; omega) (fun d hd=>by
        simp only [List.mem_cons,List.not_mem_nil,or_false] at hd
        rcases hd with rfl | rfl | rfl
        · exact j4
        · exact (low3 (256*(k1+1+1+1+1)+1) qO qO).trans x4
        · exact ((low3 (256*(c+1+1+1+1+1+1+1)+1) qO qO).trans (low2 (256*(c+1+1+1+1+1+1+1)+1) qO qO)).trans y3)
       have t2':∀ j,j<256*(c+1+1+1)->Q'.f j=Q3.f j:=fun j hj=>t2 j (by simp; omega)
       have v4:=Z1j ((t2' rp qO).trans j8)
       have v5:=Z1j ((t2' tp qO).trans Q3t)
       have v6:=Z1j ((t2' ep qO).trans Q3e)
       rw [hZ] at b5 st st2 ⊢
       have fx:=ai l0 (ai ck (ai g1 (ai len (ai l4 (ai cv (ai b5 (ai hfp (ai st (ai a0 (ai a5 (ai cw1 (ai hq1 (ai qa (ai hsp (ai st2 (ai q0 (ai q5 (ai cw2 (ai hq2 (ai st3 (ai u0 (ai u5 (ai cw3 (ai hq3 (ai v0 (ai v1 (ai v2 (ai v3 (ai t1 (ai v4 (ai v5 v6)))))))))))))))))))))))))))))))
       refine Ans.go ?_
       clear fx
       refine .done ⟨ow,false,0,rfl,by dsimp only; omega,fun j hj=>?_,.inr (.inr ⟨hok,⟨by omega,by omega,h3⟩,rfl,.inr ⟨rfl,y,k, ?_, ?_⟩⟩)⟩
       · show Q'.f j=_
         rw [t2' j qO,low3 j qO qO,low2 j qO qO,low1 j qO qO qO]; exact sM j hj
       · rw [hx0]; exact ⟨⟨m,z2⟩,⟨i,x6,x7⟩,x,j6,j7⟩
       · refine Z3w (c1:=k2+1+1+1+1) ((j9.mono (show k3<=k3+1 by omega)).keep fun hv=>t2 _ ?_) qO
         have hb:=(j9.blk hv).1
         rcases j9 with ⟨q,_⟩ | ⟨_,_,_,_,i,rfl,_,_,q⟩
         · exact absurd q hv
         · rw [blkOf_sl] at hb ⊢
           simp only [List.mem_cons,List.not_mem_nil,or_false,not_or]
           refine ⟨fun e=>?_,by omega,by omega⟩
           rw [e,j4] at q; cases q
   · have cv':Z1E p=false:=by simpa using h3
     rw [cv'] at cv
     have fx:=ai l0 (ai ck (ai g1 (ai len (ai l4 (ai cv (ai w1 (ai w2 (ai f1 (ai f2 (ai f3 f4))))))))))
     refine Ans.go ?_
     clear fx
     exact .done ⟨_,false,1,rfl,by dsimp only; omega,f5,.inr (.inl ⟨hok,fun z=>h3 z.2.2,rfl,rfl,rfl⟩)⟩
 · rw [if_neg (fun z=>hok z.2)] at ck
   obtain ⟨E1,f1,f2,f3,f4,f5⟩:=fail (c+1+1+1) 7 qO
   have fx:=ai l0 (ai ck (ai w1 (ai w2 (ai f1 (ai f2 (ai f3 f4))))))
   refine Ans.go ?_
   clear fx
   exact .done ⟨_,false,7,rfl,by dsimp only; omega,f5,.inl ⟨by simpa using hok,rfl,rfl,rfl⟩⟩

theorem eqF19 (a0 a1 a2 a3 a4 b0 b1 b2 b3 b4:Int):aEq P 19 44 (av [a0,a1,a2,a3,a4]) (av [b0,b1,b2,b3,b4]) =
 (cond (a0 == b0) ((cond (a1 == b1) (cond (a2 == b2) (cond (a3 == b3) (cond (a4 == b4) (some true) (some false)) (some false)) (some false)) (some false)).bind fun r=>cond r (some true) (some false)) (some false)):=by kernel_rfl
theorem eqF (x y:List Int) (hx:x.length=5) (hy:y.length=5):aEq P 19 44 (av x) (av y)=some (decide (x=y)):=by
 match x,hx,y,hy with
 | [a0,a1,a2,a3,a4],_,[b0,b1,b2,b3,b4],_ =>
  rw [eqF19]
  by_cases h0:a0=b0 <;> by_cases h1:a1=b1 <;> by_cases h2:a2=b2 <;> by_cases h3:a3=b3 <;> by_cases h4:a4=b4 <;> simp [h0,h1,h2,h3,h4,Bool.cond_eq_ite]
theorem part72 (xs:List Value) (o:Nat):Z73 P 44 xs o=Zaj xs true o 5:=by kernel_rfl
theorem Z2a (x:List Int) (o:Nat) (h:o+5<=x.length):Z73 P 44 (ints x) o=some (av ((x.drop o).take 5)):=by
 have:Nat.ble (o+5) (ints x).length=true:=Nat.ble_eq_true_of_le (by simpa using h)
 rw [part72]
 simp only [Zaj,cond_true,this,Z14,Z0R]
 rfl
theorem neR0 (x y:List Value):Z0E P .neq 45 (.agg x.toArray) (.agg y.toArray)=(ZbQ (aEq P 19 44) P 44 5 x y [0,1,2,3]).bind fun b=>some (.bool (!b)):=by kernel_rfl
theorem eqRows (x y:List Int) (hx:x.length=20) (hy:y.length=20):ZbQ (aEq P 19 44) P 44 5 (ints x) (ints y) [0,1,2,3]=some (decide (x=y)):=by
 have e:x=y ↔ (x.drop 0).take 5=(y.drop 0).take 5/\(x.drop 5).take 5=(y.drop 5).take 5/\(x.drop 10).take 5=(y.drop 10).take 5/\(x.drop 15).take 5=(y.drop 15).take 5:=by
  constructor
  · rintro rfl; exact ⟨rfl,rfl,rfl,rfl⟩
  · rintro ⟨h1,h2,h3,h4⟩
    have s:∀ l:List Int,l.length=20->l=(l.drop 0).take 5++((l.drop 5).take 5++((l.drop 10).take 5++(l.drop 15).take 5)):=fun l hl=>by
     match l,hl with
     | [_,_,_,_,_,_,_,_,_,_,_,_,_,_,_,_,_,_,_,_],_=>rfl
    rw [s x hx,s y hy,h1,h2,h3,h4]
 have l:∀ (z:List Int) (o:Nat),z.length=20->o<=15->((z.drop o).take 5).length=5:=fun z o hz ho=>by simp; omega
 simp only [ZbQ]
 rw [Z2a x (0*5) qO,Z2a y (0*5) qO,Z2a x (1*5) qO,Z2a y (1*5) qO,Z2a x (2*5) qO,Z2a y (2*5) qO,Z2a x (3*5) qO,Z2a y (3*5) qO]
 simp only [Option.bind_some]
 rw [eqF _ _ (l x _ hx qO) (l y _ hy qO),eqF _ _ (l x _ hx qO) (l y _ hy qO),eqF _ _ (l x _ hx qO) (l y _ hy qO),eqF _ _ (l x _ hx qO) (l y _ hy qO)]
 simp only [Option.bind_some]
 rw [show (0*5:Nat)=0 from rfl,show (1*5:Nat)=5 from rfl,show (2*5:Nat)=10 from rfl,show (3*5:Nat)=15 from rfl]
 by_cases q1:(x.drop 0).take 5=(y.drop 0).take 5 <;> by_cases q2:(x.drop 5).take 5=(y.drop 5).take 5 <;> by_cases q3:(x.drop 10).take 5=(y.drop 10).take 5 <;> by_cases q4:(x.drop 15).take 5=(y.drop 15).take 5 <;>
  simp only [e,q1,q2,q3,q4,decide_true,decide_false,cond_true,cond_false,and_true,and_false,and_self,true_and,false_and]
theorem Zkg (x y:List Int) (hx:x.length=20) (hy:y.length=20):Z00 P .neq 45 (av x) (av y)=some (.bool (!decide (x=y))):=by
 rw [Z0q]
 exact (neR0 (ints x) (ints y)).trans (by rw [eqRows x y hx hy]; rfl)

theorem Z2b {a:Value} (ha:Z06 a=true):((Value.agg #[a]).cells.toList.all Z06)=true:=by simp [Value.cells,ha]
theorem Z2e (a:Value):(Value.agg #[a]).cells.toList=[a]:=rfl
theorem ZdD (s s':Value) (n:Nat) (Gl Hl:List Int) (g1 g2 c:Nat) (h:FH) (hn:n<=1000000) (hg1:g1<256*c) (hg2:g2<256*c) (h1:Z0d h g1 [s]) (h2:Z0d h g2 [s']) (h3:SlI h c s 20 n Gl) (h4:SlI h c s' 20 n Hl) (df:List Nat) :
 ∀ (k i:Nat),i+k=n →
 Ans (G (Z95 none) [ptrTo g1,ptrTo g2,.bool false,.int .i64 i] h c df) fun r=>r.h=h/\r.c=c/\r.df=df ∧
  ((r.e = .exit 0 /\ ∀ j,i<=j->j<n->Z1R Gl j=Z1R Hl j) ∨ (r.e = .ret/\r.v 2 = .bool false /\ ∃ j,j<n/\Z1R Gl j ≠ Z1R Hl j)):=by
 intro k
 have e1:ld1 h (.pointer (some ⟨g1,0,none⟩))=some s:=by rw [Z02 h1]; rfl
 have e2:ld1 h (.pointer (some ⟨g2,0,none⟩))=some s':=by rw [Z02 h2]; rfl
 have l1:=h3.len
 induction k with
 | zero =>
  intro i hi
  obtain rfl:i=n:=by omega
  refine Ans.lpG rfl rfl (Z5T ..) ?_
  unfold Z6s
  have fx:=ai e1 l1
  refine Ans.go ?_
  clear fx
  (have fx:=ai hg1 hg2; refine Ans.ex0 ?_; clear fx)
  exact ⟨rfl,rfl,rfl,.inl ⟨rfl,fun j h1 h2=>by omega⟩⟩
 | succ k ih =>
  intro i hi
  have r1:=h3.row i qO qO
  have r2:=h4.row i qO qO
  simp only [Int.toNat_natCast] at r1 r2
  have hq:=Zkg (Z1R Gl i) (Z1R Hl i) (Z1c h3.1 qO) (Z1c h4.1 qO)
  refine Ans.lpG rfl rfl (Z5T ..) ?_
  unfold Z6s
  repeat' (first | ((with_reducible first | refine Ans.bz ?_ | refine Ans.r1 ?_ | refine Ans.pkT ?_ | refine Ans.pkF ?_); try dsimp only [v_zero,v_succ]) | (with_reducible first | refine Ans.btL ?_ | refine Ans.bfL ?_ | refine Ans.gyT ?_ | refine Ans.gyF ?_ | refine Ans.gyG ?_ | refine Ans.bb ?_ | refine Ans.bc ?_ | refine Ans.ba ?_) | ((with_reducible first | refine Ans.lsT ?_ ?_ | refine Ans.leT ?_ ?_ | refine Ans.grT ?_ ?_ | refine Ans.geT ?_ ?_ | refine Ans.eqT ?_ ?_ | refine Ans.neT ?_ ?_); (focus omega)) | ((with_reducible first | refine Ans.lsF ?_ ?_ | refine Ans.leF ?_ ?_ | refine Ans.grF ?_ ?_ | refine Ans.geF ?_ ?_ | refine Ans.eqF ?_ ?_ | refine Ans.neF ?_ ?_); (focus omega)) | (with_reducible first | refine Ans.lsS (fun _=>?_) (fun _=>?_) | refine Ans.leS (fun _=>?_) (fun _=>?_) | refine Ans.grS (fun _=>?_) (fun _=>?_) | refine Ans.geS (fun _=>?_) (fun _=>?_) | refine Ans.eqS (fun _=>?_) (fun _=>?_) | refine Ans.neS (fun _=>?_) (fun _=>?_)) | ((with_reducible first | refine Ans.addN ?_ ?_ | refine Ans.add ?_ ?_ | refine Ans.sub ?_ ?_ | refine Ans.mul ?_ ?_); (focus omega)) | ((with_reducible first | refine Ans.ct ?_ ?_); (focus (simp (disch:=(first | omega | with_reducible assumption | (simp <;> omega) | fail)) [e1,e2,l1,h3.ixs,h4.ixs,r1,r2]; done))) | ((with_reducible first | refine Ans.cf ?_ ?_); (focus (simp (disch:=(first | omega | with_reducible assumption | (simp <;> omega) | fail)) [e1,e2,l1,h3.ixs,h4.ixs,r1,r2]; done))) | ((with_reducible refine Ans.oT (by simp (disch:=(first | omega | with_reducible assumption | (simp <;> omega) | fail)) only [hq] <;> rfl) ?_ ?_); (focus (with_reducible assumption)); try dsimp only [v_zero,v_succ]) | ((with_reducible refine Ans.oF (by simp (disch:=(first | omega | with_reducible assumption | (simp <;> omega) | fail)) only [hq] <;> rfl) ?_ ?_); (focus (with_reducible assumption)); try dsimp only [v_zero,v_succ]) | ((with_reducible refine Ans.oS (by simp (disch:=(first | omega | with_reducible assumption | (simp <;> omega) | fail)) only [hq] <;> rfl) (fun _=>?_) (fun _=>?_)) <;> try dsimp only [v_zero,v_succ]) | (refine Ans.step (by simp (disch:=(first | omega | with_reducible assumption | (simp <;> omega) | fail)) [e1,e2,l1,h3.ixs,h4.ixs,r1,r2,-List.getD_eq_getElem?_getD] <;> rfl) ?_; try dsimp only [v_zero,v_succ]) | fail)
  · rename_i hne
    (have fx:=ai hg1 hg2; refine Ans.rt0 ?_; clear fx)
    exact ⟨rfl,rfl,rfl,.inr ⟨rfl,rfl,i,by omega,by simpa using hne⟩⟩
  · rename_i heq
    (have fx:=ai hg1 hg2; refine Ans.nx0 ?_; clear fx)
    refine (ih (i+1) qO).mono ?_
    rintro r ⟨q1,q2,q3,q4⟩
    refine ⟨q1,q2,q3,q4.imp (fun ⟨a,b⟩=>⟨a,fun j j1 j2=>?_⟩) id⟩
    by_cases hj:j=i
    · rw [hj]; simpa using heq
    · exact b j qO j2
theorem ZgN {Gl Hl:List Int} {n:Nat} (h1:Gl.length=n*20) (h2:Hl.length=n*20) (h:∀ j,j<n->Z1R Gl j=Z1R Hl j):Gl=Hl:=by
 apply List.ext_getElem?
 intro i
 by_cases hi:i<n*20
 · have:=congrArg (fun l=>l[i % 20]?) (h (i / 20) qO)
   simp only [Z1R,List.getElem?_take_of_lt (Nat.mod_lt i (by omega:0<20)),List.getElem?_drop,Nat.div_add_mod] at this
   exact this
 · rw [List.getElem?_eq_none qO,List.getElem?_eq_none qO]
theorem ZgJ (s s':Value) (n m:Nat) (Gl Hl:List Int) (h:FH) (c:Nat) (df:List Nat) (h3:SlI h c s 20 n Gl) (h4:SlI h c s' 20 m Hl) (hn:n<=1000000) :
 G (.fn 36) [.agg #[s],.agg #[s']] h c df=some ⟨.ret,[.bool (Z8q n m Gl Hl)],h,c,[]⟩:=by
 refine Z0K (fun r e=>f36_go e) (by simp) ?_
 have hf1:((Value.agg #[s]).cells.toList.all Z06)=true:=by simp [Value.cells,h3.flat]
 have hf2:((Value.agg #[s']).cells.toList.all Z06)=true:=by simp [Value.cells,h4.flat]
 have hc1:(Value.agg #[s]).cells.toList=[s]:=rfl
 have hc2:(Value.agg #[s']).cells.toList=[s']:=rfl
 unfold ZkY
 rw [hf1,hf2,hc1,hc2]
 simp only [cond_true]
 obtain ⟨H,hH⟩:∃ H,H=newB (newB h (256*c) [s]) (256*c+1) [s']:=⟨_,rfl⟩
 have sH:Z0l c h H:=by rw [hH]; simp (disch:=omega)
 have g1:Z0d H (256*c) [s]:=by rw [hH]; exact Z0d.newB_ne qO (Z0d.newB_same _ _ _)
 have g2:Z0d H (256*c+1) [s']:=by rw [hH]; exact Z0d.newB_same _ _ _
 rw [Nat.add_zero,← hH]
 have e1:ld1 H (.pointer (some ⟨256*c,0,none⟩))=some s:=by rw [Z02 g1]; rfl
 have e2:ld1 H (.pointer (some ⟨256*c+1,0,none⟩))=some s':=by rw [Z02 g2]; rfl
 have l1:=h3.len
 have l2:=h4.len
 by_cases hnm:n=m
 case neg =>
  have fx:=ai e1 (ai e2 (ai l1 l2))
  refine Ans.go ?_
  clear fx
  exact Ans.pure (by simp [Z8q,hnm]) sH
 subst hnm
 obtain ⟨⟨re,rv,rh,rc,rd⟩,hr,r1,r2,r3,r4⟩:=ZdD s s' n Gl Hl (256*c) (256*c+1) (c+1+1+1) H hn qO qO g1 g2 ((h3.same sH).mono qO) ((h4.same sH).mono qO) [] n 0 qO
 simp only at r1 r2 r3 r4
 subst r1 r2 r3
 simp only [Int.ofNat_eq_natCast,Int.cast_ofNat_Int] at hr
 rcases r4 with ⟨rfl,r5⟩ | ⟨rfl,r5,j,r6,r7⟩
 · have fx:=ai e1 (ai e2 (ai l1 (ai l2 hr)))
   refine Ans.go ?_
   clear fx
   exact Ans.pure (by simp [Z8q,ZgN h3.1 h4.1 (fun j hj=>r5 j qO hj)]) sH
 · have fx:=ai e1 (ai e2 (ai l1 (ai l2 hr)))
   refine Ans.go ?_
   clear fx
   refine Ans.pure ?_ sH
   rw [r5]
   have:¬ Gl=Hl:=fun e=>r7 (by rw [e])
   simp [Z8q,this]
end Go.Proofs.Ytdodippbpdechaa

namespace Go.Ab
open Go
inductive Tri where
 | leaf
 | node (b:Option ABlk) (l r:Tri)
def Tri.get:Tri->Nat->Option ABlk
 | .leaf,_=>none
 | .node b l r,i=>cond (Nat.beq i 0) b (cond (Nat.beq (i % 2) 1) (l.get (i / 2)) (r.get (i / 2-1)))
def Tri.upd:Nat->Tri->Nat->Option ABlk->Tri
 | 0,t,_,o=>match t with
  | .leaf=>.node o .leaf .leaf
  | .node _ l r=>.node o l r
 | n+1,t,i,o=>match t with
  | .leaf=>cond (Nat.beq i 0) (.node o .leaf .leaf) (cond (Nat.beq (i % 2) 1) (.node none (Tri.upd n .leaf (i / 2) o) .leaf) (.node none .leaf (Tri.upd n .leaf (i / 2-1) o)))
  | .node b l r=>cond (Nat.beq i 0) (.node o l r) (cond (Nat.beq (i % 2) 1) (.node b (Tri.upd n l (i / 2) o) r) (.node b l (Tri.upd n r (i / 2-1) o)))
theorem Tri.get_upd:∀ (n:Nat) (t:Tri) (i:Nat) (o:Option ABlk) (j:Nat),i<=n->(Tri.upd n t i o).get j=if j=i then o else t.get j:=by
 have key:∀ (b:Option ABlk) (l r:Tri) (i:Nat),(Tri.node b l r).get i=if i=0 then b else if i % 2=1 then l.get (i / 2) else r.get (i / 2-1):=by
  intro b l r i
  simp only [Tri.get]
  by_cases h0:i=0
  · subst h0; rfl
  · have:Nat.beq i 0=false:=by rw [Bool.eq_false_iff]; intro h; exact h0 (Nat.eq_of_beq_eq_true h)
    rw [this]
    simp only [h0,if_false,cond_false]
    by_cases h1:i % 2=1
    · simp [h1]
    · have:Nat.beq (i % 2) 1=false:=by rw [Bool.eq_false_iff]; intro h; exact h1 (Nat.eq_of_beq_eq_true h)
      simp [h1,this]
 have leafg:∀ j,Tri.leaf.get j=none:=fun _=>rfl
 intro n
 induction n with
 | zero =>
  intro t i o j hi
  have:i=0:=by omega
  subst this
  cases t with
  | leaf =>
   simp only [Tri.upd,key,leafg]
   split <;> simp
  | node b l r =>
   simp only [Tri.upd,key]
   by_cases h:j=0 <;> simp [h]
 | succ n ih =>
  intro t i o j hi
  by_cases h0:i=0
  · subst h0
    cases t with
    | leaf =>
     simp only [Tri.upd,Nat.beq_refl,cond_true,key,leafg]
     split <;> simp
    | node b l r =>
     simp only [Tri.upd,Nat.beq_refl,cond_true,key]
     by_cases h:j=0 <;> simp [h]
  · have hb0:Nat.beq i 0=false:=by rw [Bool.eq_false_iff]; intro h; exact h0 (Nat.eq_of_beq_eq_true h)
    by_cases h1:i % 2=1
    · have hb1:Nat.beq (i % 2) 1=true:=by rw [h1]; rfl
      cases t with
      | leaf =>
       simp only [Tri.upd,hb0,hb1,cond_true,cond_false,key,leafg]
       by_cases hj:j=0
       · subst hj; simp [Ne.symm h0]
       · simp only [hj,if_false]
         by_cases hj1:j % 2=1
         · simp only [hj1,if_true]
           rw [ih _ _ _ _ qO,leafg]
           by_cases e:j=i
           · simp [e]
           · rw [if_neg e,if_neg qO]
         · rw [if_neg hj1,if_neg qO]
      | node b l r =>
       simp only [Tri.upd,hb0,hb1,cond_true,cond_false,key]
       by_cases hj:j=0
       · subst hj; simp [Ne.symm h0]
       · simp only [hj,if_false]
         by_cases hj1:j % 2=1
         · simp only [hj1,if_true]
           rw [ih _ _ _ _ qO]
           by_cases e:j=i
           · simp [e]
           · rw [if_neg e,if_neg qO]
         · rw [if_neg hj1,if_neg (show ¬ j=i by omega),if_neg hj1]
    · have hb1:Nat.beq (i % 2) 1=false:=by rw [Bool.eq_false_iff]; intro h; exact h1 (Nat.eq_of_beq_eq_true h)
      cases t with
      | leaf =>
       simp only [Tri.upd,hb0,hb1,cond_true,cond_false,key,leafg]
       by_cases hj:j=0
       · subst hj; simp [Ne.symm h0]
       · simp only [hj,if_false]
         by_cases hj1:j % 2=1
         · rw [if_pos hj1,if_neg qO]
         · rw [if_neg hj1,ih _ _ _ _ qO,leafg]
           by_cases e:j=i
           · simp [e]
           · rw [if_neg e,if_neg qO]
      | node b l r =>
       simp only [Tri.upd,hb0,hb1,cond_true,cond_false,key]
       by_cases hj:j=0
       · subst hj; simp [Ne.symm h0]
       · simp only [hj,if_false]
         by_cases hj1:j % 2=1
         · rw [if_pos hj1,if_neg (show ¬ j=i by omega),if_pos hj1]
         · rw [if_neg hj1,ih _ _ _ _ qO]
           by_cases e:j=i
           · simp [e]
           · rw [if_neg e,if_neg qO,if_neg hj1]
def Zdt:Option Addr->Option Addr->Bool
 | none,none=>true
 | some ⟨a,b,none⟩,some ⟨c,d,none⟩=>Nat.beq a c && Nat.beq b d
 | _,_=>false
def ZjT:Value->Value->Bool
 | .bool a,.bool b=>a == b
 | .int k n,.int k' n'=>decide (k=k') && n == n'
 | .pointer a,.pointer b=>Zdt a b
 | .slice a l c,.slice b l' c'=>Zdt a b && Nat.beq l l' && Nat.beq c c'
 | .map (some a),.map (some b)=>Nat.beq a b
 | .map none,.map none=>true
 | .nilFunc,.nilFunc=>true
 | .nilIface,.nilIface=>true
 | _,_=>false
def ZbW:List Value->List Value->Bool
 | [],[]=>true
 | x::xs,y::ys=>ZjT x y && ZbW xs ys
 | _,_=>false
def Z9v:Option Nat->Option Nat->Bool
 | none,none=>true
 | some a,some b=>Nat.beq a b
 | _,_=>false
def Zjg:Option ABlk->Option ABlk->Bool
 | none,none=>true
 | some (.cells ro o c),some (.cells ro' o' c')=>ro == ro' && Z9v o o' && ZbW c c'
 | some .dead,some .dead=>true
 | some .dfr,some .dfr=>true
 | _,_=>false
theorem ZaD {a b:Option Addr} (h:Zdt a b=true):a=b:=by
 unfold Zdt at h
 split at h
 · rfl
 · simp only [Bool.and_eq_true] at h
   rw [Nat.eq_of_beq_eq_true h.1,Nat.eq_of_beq_eq_true h.2]
 · cases h
theorem Zgy {a b:Value} (h:ZjT a b=true):a=b:=by
 unfold ZjT at h
 split at h
 · simp at h; rw [h]
 · simp at h; rw [h.1,h.2]
 · rw [ZaD h]
 · simp only [Bool.and_eq_true] at h
   rw [ZaD h.1.1,Nat.eq_of_beq_eq_true h.1.2,Nat.eq_of_beq_eq_true h.2]
 · rw [Nat.eq_of_beq_eq_true h]
 · rfl
 · rfl
 · rfl
 · cases h
theorem Za6:∀ {a b:List Value},ZbW a b=true->a=b
 | [],[],_=>rfl
 | x::xs,y::ys,h=>by
  simp only [ZbW,Bool.and_eq_true] at h
  rw [Zgy h.1,Za6 h.2]
 | [],y::ys,h=>by cases h
 | x::xs,[],h=>by cases h
theorem Zb6 {a b:Option Nat} (h:Z9v a b=true):a=b:=by
 unfold Z9v at h
 split at h
 · rfl
 · rw [Nat.eq_of_beq_eq_true h]
 · cases h
theorem Zds (a b:Option ABlk) (h:Zjg a b=true):a=b:=by
 unfold Zjg at h
 split at h
 · rfl
 · simp only [Bool.and_eq_true] at h
   have h1:=h.1.1
   rw [Zb6 h.1.2,Za6 h.2]
   simp at h1
   rw [h1]
 · rfl
 · rfl
 · cases h
instance:HeapC Tri where
 get h i:=h.get i
 set h i b:=Tri.upd i h i (some b)
 del h i:=Tri.upd i h i none
 eqB:=Zjg
 eqB_eq:=Zds
 get_set h i b j:=Tri.get_upd i h i (some b) j (Nat.le_refl _)
 get_del h i j:=Tri.get_upd i h i none j (Nat.le_refl _)
end Go.Ab

namespace Go.Ab
open Go
noncomputable def ZgA (t:Tri):Nat->Option ABlk :=
 Tri.rec (motive:=fun _=>Nat->Option ABlk) (fun _=>none)
  (fun b _ _ l r i=>cond (Nat.beq i 0) b (cond (Nat.beq (Nat.mod i 2) 1) (l (Nat.div i 2)) (r (Nat.sub (Nat.div i 2) 1)))) t
theorem Z9m:∀ (t:Tri) (i:Nat),ZgA t i=t.get i
 | .leaf,i=>rfl
 | .node b l r,i=>by
  show cond (Nat.beq i 0) b (cond (Nat.beq (Nat.mod i 2) 1) (ZgA l (Nat.div i 2)) (ZgA r (Nat.sub (Nat.div i 2) 1)))=_
  rw [Z9m l,Z9m r]
  rfl
noncomputable def Zjr (o:Option ABlk) (n:Nat):Tri->Nat->Tri :=
 Nat.rec (motive:=fun _=>Tri->Nat->Tri)
  (fun t _=>Tri.rec (motive:=fun _=>Tri) (.node o .leaf .leaf) (fun _ l r _ _=>.node o l r) t)
  (fun _ ih t i=>Tri.rec (motive:=fun _=>Tri)
   (cond (Nat.beq i 0) (.node o .leaf .leaf) (cond (Nat.beq (Nat.mod i 2) 1) (.node none (ih .leaf (Nat.div i 2)) .leaf) (.node none .leaf (ih .leaf (Nat.sub (Nat.div i 2) 1)))))
   (fun b l r _ _=>cond (Nat.beq i 0) (.node o l r) (cond (Nat.beq (Nat.mod i 2) 1) (.node b (ih l (Nat.div i 2)) r) (.node b l (ih r (Nat.sub (Nat.div i 2) 1))))) t) n
theorem Z7i (o:Option ABlk):∀ (n:Nat) (t:Tri) (i:Nat),Zjr o n t i=Tri.upd n t i o
 | 0,.leaf,i=>rfl
 | 0,.node b l r,i=>rfl
 | n+1,.leaf,i=>by
  show (cond (Nat.beq i 0) (Tri.node o .leaf .leaf) (cond (Nat.beq (Nat.mod i 2) 1) (Tri.node none (Zjr o n .leaf (Nat.div i 2)) .leaf) (Tri.node none .leaf (Zjr o n .leaf (Nat.sub (Nat.div i 2) 1)))))=_
  rw [Z7i o n,Z7i o n]; rfl
 | n+1,.node b l r,i=>by
  show (cond (Nat.beq i 0) (Tri.node o l r) (cond (Nat.beq (Nat.mod i 2) 1) (Tri.node b (Zjr o n l (Nat.div i 2)) r) (Tri.node b l (Zjr o n r (Nat.sub (Nat.div i 2) 1)))))=_
  rw [Z7i o n,Z7i o n]; rfl
theorem ZeK (t:Tri) (i:Nat) (o:Option ABlk) (j:Nat):ZgA (Zjr o i t i) j=if j=i then o else ZgA t j:=by
 rw [Z9m,Z9m,Z7i]
 exact Tri.get_upd i t i o j (Nat.le_refl _)
abbrev RC:=List (Nat × Option ABlk)
noncomputable def Z8c (i:Nat) (rc:RC):Option (Option ABlk) :=
 List.rec (motive:=fun _=>Option (Option ABlk)) none (fun x _ ih=>cond (Nat.beq i x.1) (some x.2) ih) rc
noncomputable def ZeY (i:Nat) (o:Option ABlk) (rc:RC):RC :=
 List.rec (motive:=fun _=>RC) [] (fun x xs ih=>cond (Nat.beq i x.1) ((x.1,o)::xs) (x::ih)) rc
noncomputable def ZfA (rc:RC) (t:Tri):Tri :=
 List.rec (motive:=fun _=>Tri) t (fun x _ ih=>Zjr x.2 x.1 ih x.1) rc
theorem Z1x (i:Nat) (x:Nat × Option ABlk) (xs:RC):Z8c i (x::xs)=if i=x.1 then some x.2 else Z8c i xs:=by
 show cond (Nat.beq i x.1) (some x.2) (Z8c i xs)=_
 cases h:Nat.beq i x.1 with
 | true=>rw [if_pos (Nat.eq_of_beq_eq_true h)]; rfl
 | false=>rw [if_neg (fun e=>by rw [e,Nat.beq_refl] at h; cases h)]; rfl
theorem ZdF (i:Nat) (o:Option ABlk) (x:Nat × Option ABlk) (xs:RC):ZeY i o (x::xs)=if i=x.1 then (x.1,o)::xs else x::ZeY i o xs:=by
 show cond (Nat.beq i x.1) ((x.1,o)::xs) (x::ZeY i o xs)=_
 cases h:Nat.beq i x.1 with
 | true=>rw [if_pos (Nat.eq_of_beq_eq_true h)]; rfl
 | false=>rw [if_neg (fun e=>by rw [e,Nat.beq_refl] at h; cases h)]; rfl
theorem Z7R (i:Nat) (o:Option ABlk) (j:Nat):∀ (rc:RC),Z8c i rc ≠ none->Z8c j (ZeY i o rc)=if j=i then some o else Z8c j rc
 | [],h=>absurd rfl h
 | x::xs,h=>by
  rw [Z1x] at h
  rw [ZdF]
  by_cases e:i=x.1
  · rw [if_pos e,Z1x,Z1x]
    by_cases e2:j=x.1
    · rw [if_pos e2,if_pos (e2.trans e.symm)]
    · rw [if_neg e2,if_neg (fun h=>e2 (h.trans e)),if_neg e2]
  · rw [if_neg e] at h ⊢
    rw [Z1x,Z1x,Z7R i o j xs h]
    by_cases e2:j=x.1
    · rw [if_pos e2,if_pos e2,if_neg (fun h=>e (h.symm.trans e2))]
    · rw [if_neg e2,if_neg e2]
theorem Z8C (j:Nat) (t:Tri):∀ (rc:RC),ZgA (ZfA rc t) j=(match Z8c j rc with | some o=>o | none=>ZgA t j)
 | []=>rfl
 | x::xs=>by
  show ZgA (Zjr x.2 x.1 (ZfA xs t) x.1) j=_
  rw [ZeK,Z1x]
  by_cases e:j=x.1
  · rw [if_pos e,if_pos e]
  · rw [if_neg e,if_neg e,Z8C j t xs]
structure TH where
 rc:RC
 n:Nat
 old:Tri
noncomputable def TH.put (h:TH) (i:Nat) (o:Option ABlk):TH :=
 match Z8c i h.rc with
 | some _=>{ rc:=ZeY i o h.rc,n:=h.n,old:=h.old }
 | none=>cond (Nat.blt h.n 24) { rc:=(i,o)::h.rc,n:=Nat.add h.n 1,old:=h.old } { rc:=[(i,o)],n:=1,old:=ZfA h.rc h.old }
noncomputable def TH.look (h:TH) (i:Nat):Option ABlk :=
 match Z8c i h.rc with
 | some o=>o
 | none=>ZgA h.old i
theorem TH.look_put (h:TH) (i:Nat) (o:Option ABlk) (j:Nat):(h.put i o).look j=if j=i then o else h.look j:=by
 unfold TH.put TH.look
 cases e:Z8c i h.rc with
 | some x =>
  dsimp only
  rw [Z7R i o j h.rc (by rw [e]; simp)]
  by_cases e2:j=i
  · rw [if_pos e2,if_pos e2]
  · rw [if_neg e2,if_neg e2]
 | none =>
  dsimp only
  cases Nat.blt h.n 24 with
  | true =>
   dsimp only [cond_true]
   rw [Z1x]
   by_cases e2:j=i
   · rw [if_pos e2,if_pos e2]
   · rw [if_neg e2,if_neg e2]
  | false =>
   dsimp only [cond_false]
   rw [Z1x]
   by_cases e2:j=i
   · rw [if_pos e2,if_pos e2]
   · rw [if_neg e2,if_neg e2]
     exact Z8C j h.old h.rc
noncomputable instance:HeapC TH where
 get h i:=h.look i
 set h i b:=h.put i (some b)
 del h i:=h.put i none
 eqB:=Zjg
 eqB_eq:=Zds
 get_set h i b j:=TH.look_put h i (some b) j
 get_del h i j:=TH.look_put h i none j
noncomputable def TH.empty:TH:={ rc:=[],n:=0,old:=.leaf }
theorem TH.inv_empty (h:TH) (e:h=TH.empty) (i:Nat):HeapC.get h i=none:=by subst e; rfl
end Go.Ab
