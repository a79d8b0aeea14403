/- Parts of a proof: R1 K33 K34 K35 AbTrie AbHeap. Conditions: none. -/
import Derived.Test.YtdodippbpdechaaM21
import Derived.Test.YtdodippbpdechaaM20
import Derived.Test.YtdodippbpdechaaM0
set_option linter.all false
set_option maxRecDepth 100000
set_option maxHeartbeats 4000000
namespace Go.Proofs.Ytdodippbpdechaa
open Go Go.Ab Go.Proofs
theorem SkI.app3 {c0 c sb gb rb m t n:Nat} {h0 h:FH} {vv ev tv f5:Value} {V E T:List Int} {z:List Int × List Bool} (a:SkI c0 c sb gb rb m t h0 h vv ev tv f5 V E T z) (hV:V.length=4*n) (hE:E.length=6*n) (hT:T.length=4*n) (ht:t<n) (hn:n<=60) (hc0:c0<=c)
 (n2:sb ≠ gb) (n3:sb ≠ rb) (ls:sb<256*c0) (lg:gb<256*c0) (lr:rb<256*c0) (b1 i1 b2 i2 b3 i3:Nat) (hb1:b1=256*c+3) (hi1:i1=256*c+4) (hb2:b2=256*(c+1)+3) (hi2:i2=256*(c+1)+4) (hb3:b3=256*(c+1+1)+3) (hi3:i3=256*(c+1+1)+4) :
 ∃ h1 h2 h3 h4 h5 h6,ld1 h (.pointer (some ⟨sb,0,none⟩))=some vv/\Z5D (newB h b1 (ints ((V.drop (4*t)).take 4))) i1 4 32 vv (.slice (some ⟨b1,0,none⟩) 1 1)=some (.slice (some ⟨i1,0,none⟩) (t+1) (t+1),h1)/\stN h1 1 (.pointer (some ⟨sb,0,none⟩)) (.slice (some ⟨i1,0,none⟩) (t+1) (t+1))=some h2 ∧
  ld1 h2 (.pointer (some ⟨sb,1,none⟩))=some ev/\Z5D (newB h2 b2 (ints ((E.drop (6*t)).take 6))) i2 6 48 ev (.slice (some ⟨b2,0,none⟩) 1 1)=some (.slice (some ⟨i2,0,none⟩) (t+1) (t+1),h3)/\stN h3 1 (.pointer (some ⟨sb,1,none⟩)) (.slice (some ⟨i2,0,none⟩) (t+1) (t+1))=some h4 ∧
  ld1 h4 (.pointer (some ⟨sb,2,none⟩))=some tv/\Z5D (newB h4 b3 (ints ((T.drop (4*t)).take 4))) i3 4 32 tv (.slice (some ⟨b3,0,none⟩) 1 1)=some (.slice (some ⟨i3,0,none⟩) (t+1) (t+1),h5)/\stN h5 1 (.pointer (some ⟨sb,2,none⟩)) (.slice (some ⟨i3,0,none⟩) (t+1) (t+1))=some h6 ∧
  (∀ j,j<256*c0->j ≠ sb->h2.f j=h.f j)/\(∀ j,j<256*c0->j ≠ sb->h4.f j=h.f j)/\(∀ j,j<256*c0->j ≠ sb->h6.f j=h.f j) ∧
  (∀ j,j<256*c->j ≠ sb->(vv ≠ .slice none 0 0->j ≠ Z0p vv)->(ev ≠ .slice none 0 0->j ≠ Z0p ev)->(tv ≠ .slice none 0 0->j ≠ Z0p tv)->h2.f j=h.f j/\h4.f j=h.f j) ∧
  SkI c0 (c+1+1+1) sb gb rb m (t+1) h0 h6 (.slice (some ⟨i1,0,none⟩) (t+1) (t+1)) (.slice (some ⟨i2,0,none⟩) (t+1) (t+1)) (.slice (some ⟨i3,0,none⟩) (t+1) (t+1)) f5 V E T z:=by
 have lX:((V.drop (4*t)).take 4).length=4:=by rw [qT,qS]; omega
 have lY:((E.drop (6*t)).take 6).length=6:=by rw [qT,qS]; omega
 have lZ:((T.drop (4*t)).take 4).length=4:=by rw [qT,qS]; omega
 have bv:vv ≠ .slice none 0 0->256*c0<=Z0p vv/\Z0p vv<256*c:=a.gv.blk;have be:ev ≠ .slice none 0 0->256*c0<=Z0p ev/\Z0p ev<256*c:=a.ge.blk;have bt:tv ≠ .slice none 0 0->256*c0<=Z0p tv/\Z0p tv<256*c:=a.gt.blk;obtain ⟨h1,h2,p1,p2,p3,p4,p5,p6⟩:=a.gv.step (c':=c+1) (o:=0) a.fs rfl ls (ints ((V.drop (4*t)).take 4)) (by rw [ints_length,lX]) (Z18 _) qO 32 b1 i1 qO qO qO qO qO qO;have ge1:GrC c0 h2 (c+1) ev 6 t (ints (E.take (6*t))):=(a.ge.keep fun hv=>p6 _ (be hv).2 (by have:=(be hv).1; omega) fun hw=>Ne.symm (a.d1 hw hv)).mono qO;have gt1:GrC c0 h2 (c+1) tv 4 t (ints (T.take (4*t))):=(a.gt.keep fun hv=>p6 _ (bt hv).2 (by have:=(bt hv).1; omega) fun hw=>Ne.symm (a.d2 hw hv)).mono qO;obtain ⟨h3,h4,q1,q2,q3,q4,q5,q6⟩:=ge1.step (c':=c+1+1) (o:=1) p4 rfl ls (ints ((E.drop (6*t)).take 6)) (by rw [ints_length,lY]) (Z18 _) qO 48 b2 i2 qO qO qO qO qO qO;have gt2:GrC c0 h4 (c+1+1) tv 4 t (ints (T.take (4*t))):=(gt1.keep fun hv=>q6 _ (by have:=(bt hv).2; omega) (by have:=(bt hv).1; omega) fun hw=>Ne.symm (a.d3 hw hv)).mono qO;have gv2:GrC c0 h4 (c+1+1) (.slice (some ⟨i1,0,none⟩) (t+1) (t+1)) 4 (t+1) (ints (V.take (4*t))++ints ((V.drop (4*t)).take 4)):=(p5.keep fun hv=>q6 _ (by rw [blkOf_sl]; omega) (by rw [blkOf_sl]; omega) fun hw=>by have:=(be hw).2; rw [blkOf_sl]; omega).mono qO;obtain ⟨h5,h6,r1,r2,r3,r4,r5,r6⟩:=gt2.step (c':=c+1+1+1) (o:=2) q4 rfl ls (ints ((T.drop (4*t)).take 4)) (by rw [ints_length,lZ]) (Z18 _) qO 32 b3 i3 qO qO qO qO qO qO;have gv3:GrC c0 h6 (c+1+1+1) (.slice (some ⟨i1,0,none⟩) (t+1) (t+1)) 4 (t+1) (ints (V.take (4*t))++ints ((V.drop (4*t)).take 4)):=(gv2.keep fun hv=>r6 _ (by rw [blkOf_sl]; omega) (by rw [blkOf_sl]; omega) fun hw=>by have:=(bt hw).2; rw [blkOf_sl]; omega).mono qO;have ge3:GrC c0 h6 (c+1+1+1) (.slice (some ⟨i2,0,none⟩) (t+1) (t+1)) 6 (t+1) (ints (E.take (6*t))++ints ((E.drop (6*t)).take 6)):=(q5.keep fun hv=>r6 _ (by rw [blkOf_sl]; omega) (by rw [blkOf_sl]; omega) fun hw=>by have:=(bt hw).2; rw [blkOf_sl]; omega).mono qO;have K2:∀ j,j<256*c0->j ≠ sb->h2.f j=h.f j:=fun j hj h1'=>p6 j qO h1' fun hv=>by have:=(bv hv).1; omega
 have K4:∀ j,j<256*c0->j ≠ sb->h4.f j=h.f j:=fun j hj h1'=>(q6 j qO h1' fun hv=>by have:=(be hv).1; omega).trans (K2 j hj h1')
 have K6:∀ j,j<256*c0->j ≠ sb->h6.f j=h.f j:=fun j hj h1'=>(r6 j qO h1' fun hv=>by have:=(bt hv).1; omega).trans (K4 j hj h1')
 rw [Z4W,← Zdk] at gv3 ge3 r5;refine ⟨h1,h2,h3,h4,h5,h6,p1,p2,p3,q1,q2,q3,r1,r2,r3,K2,K4,K6,(fun j hj hs' hv he ht'=>⟨p6 j qO hs' hv,(q6 j qO hs' he).trans (p6 j qO hs' hv)⟩),⟨r4,gv3,ge3,r5,(fun _ _=>by rw [blkOf_sl,blkOf_sl]; omega),(fun _ _=>by rw [blkOf_sl,blkOf_sl]; omega),(fun _ _=>by rw [blkOf_sl,blkOf_sl]; omega), ?_, ?_,fun j hj h1' h2' h3'=>?_⟩⟩
 · rw [K6 gb lg (Ne.symm n2)]; exact a.fg
 · rw [K6 rb lr (Ne.symm n3)]; exact a.fr
 · rw [K6 j hj h1']; exact a.base j hj h1' h2' h3'
theorem ZoS (vb db eb tb sb gb rb n m c0:Nat) (x1 x2 x5:Value) (V D E T:List Int) (f5:Value) (h0:FH) (df:List Nat)
 (fv:h0.f vb=some (.cells false none (ints V))) (fd:h0.f db=some (.cells false none (ints D))) (fe:h0.f eb=some (.cells false none (ints E))) (ft:h0.f tb=some (.cells false none (ints T)))
 (lV:V.length=4*n) (lD:D.length=16*n) (lE:E.length=6*n) (lT:T.length=4*n) (hE:∀ k,k<6*n->0<=E.getD k 0/\E.getD k 0<m) (hn:n<=60) (hm:m<=360) (o1:OkV c0 x1) (o2:OkV c0 x2) (o5:OkV c0 x5)
 (lv:vb<256*c0) (ld:db<256*c0) (le:eb<256*c0) (lt:tb<256*c0) (ls:sb<256*c0) (lg:gb<256*c0) (lr:rb<256*c0)
 (n1:gb ≠ rb) (n2:sb ≠ gb) (n3:sb ≠ rb) (ov:vb ≠ sb/\vb ≠ gb/\vb ≠ rb) (od:db ≠ sb/\db ≠ gb/\db ≠ rb) (oe:eb ≠ sb/\eb ≠ gb/\eb ≠ rb) (ot:tb ≠ sb/\tb ≠ gb/\tb ≠ rb) :
 ∀ (r t c:Nat) (H:FH) (vv ev tv:Value) (z:List Int × List Bool),t+r=n->c0<=c->SkI c0 c sb gb rb m t h0 H vv ev tv f5 V E T z->SB m z (6*t)->Ans (G (ZbV none) [x1,x2,ptrTo sb,.slice (some ⟨vb,0,none⟩) (4*n) (4*n),x5,.slice (some ⟨eb,0,none⟩) (6*n) (6*n),.slice (some ⟨tb,0,none⟩) (4*n) (4*n),.slice (some ⟨db,0,none⟩) (16*n) (16*n),.int .i64 n,.int .i64 t] H c df) fun q =>
  q.e = .exit 0/\q.vs=[x1,x2,ptrTo sb,.slice (some ⟨vb,0,none⟩) (4*n) (4*n),x5,.slice (some ⟨eb,0,none⟩) (6*n) (6*n),.slice (some ⟨tb,0,none⟩) (4*n) (4*n),.slice (some ⟨db,0,none⟩) (16*n) (16*n),.int .i64 n,.int .i64 n]/\q.df=df/\c<=q.c ∧
  ∃ vv ev tv,SkI c0 q.c sb gb rb m n h0 q.h vv ev tv f5 V E T (sTs E D r t z):=by
 intro r
 induction r with
 | zero =>
  intro t c H vv ev tv z ht hc a hz;obtain rfl:t=n:=qO;refine Ans.lpN rfl rfl (Z7m ..) ?_;unfold Z8W;have fx:=True.intro;refine Ans.go ?_;clear fx;exact Ans.exitN ⟨rfl,rfl,rfl,by dsimp only; omega,vv,ev,tv,a.mono (by dsimp only; omega)⟩
 | succ r ih =>
  intro t c H vv ev tv z ht hc a hz;have htn:t<n:=qO;obtain ⟨ab,hab⟩:=jN (256*(c+1+1));obtain ⟨fb,hfb⟩:=jN (256*(c+1+1)+1);obtain ⟨bb,hbb⟩:=jN (256*(c+1+1+1));have bv:vv ≠ .slice none 0 0->256*c0<=Z0p vv/\Z0p vv<256*c:=a.gv.blk;have be:ev ≠ .slice none 0 0->256*c0<=Z0p ev/\Z0p ev<256*c:=a.ge.blk;have bt:tv ≠ .slice none 0 0->256*c0<=Z0p tv/\Z0p tv<256*c:=a.gt.blk;obtain ⟨Hb,hHb⟩:=jN (newB H bb (ints (pfL E (6*t) 6 0)));have e1:newB (newB (newB H ab (ints (pfL V (4*t) 4 0))) fb (ints (pfL T (4*t) 4 0))) bb (ints (pfL E (6*t) 6 0))=newB (newB Hb ab (ints (pfL V (4*t) 4 0))) fb (ints (pfL T (4*t) 4 0)):=by
   apply FH.ext; intro j;rw [Z01,Z01,Z01,Z01,Z01,← hHb,Z01]
   by_cases q1:j=bb
   · rw [if_pos q1,if_neg qO,if_neg qO,if_pos q1]
   · rw [if_neg q1,if_neg q1]
  rw [pf4,pf4,pf6] at e1;have Hbf:∀ j,j ≠ bb->Hb.f j=H.f j:=fun j hj=>by rw [← hHb,Z01,if_neg hj]
  have lo1:=Ans.eq (sq_i vb eb tb ab fb bb t n (c+1+1+1+1+1) x1 x2 (ptrTo sb) x5 (.slice (some ⟨db,0,none⟩) (16*n) (16*n)) V T Hb df lV lT ((Hbf vb qO).trans ((a.base vb lv ov.1 ov.2.1 ov.2.2).trans fv)) ((Hbf tb qO).trans ((a.base tb lt ot.1 ot.2.1 ot.2.2).trans ft)) htn hn qO qO qO qO qO qO qO qO qO qO qO (o1.mono qO) (o2.mono qO) (OkV.ptr qO) (o5.mono qO) (OkV.sl qO) 4 0 qO);simp only [qC,qF] at lo1;rw [pf4,pf4,← e1] at lo1;obtain ⟨X1,hX1⟩:=jN ((V.drop (4*t)).take 4);obtain ⟨X2,hX2⟩:=jN ((E.drop (6*t)).take 6);obtain ⟨X3,hX3⟩:=jN ((T.drop (4*t)).take 4);have lX1:X1.length=4:=by rw [← hX1,qT,qS]; omega
  have lX2:X2.length=6:=by rw [← hX2,qT,qS]; omega
  have lX3:X3.length=4:=by rw [← hX3,qT,qS]; omega
  rw [hX1,hX3] at lo1;obtain ⟨hq,hhq⟩:=jN (newB (newB H ab (ints X1)) fb (ints X3));have hqf:∀ j,j ≠ ab->j ≠ fb->hq.f j=H.f j:=fun j h1 h2=>by rw [← hhq,Z01,if_neg h2,Z01,if_neg h1]
  have e2:newB (newB Hb ab (ints X1)) fb (ints X3)=kH (newB hq bb (ints (pfL E (6*t) 6 0))) gb rb z:=by
   apply FH.ext; intro j;rw [Ze2,Z01,Z01,Z01,← hHb,Z01,← hhq,Z01,Z01]
   by_cases q1:j=rb
   · rw [if_pos q1,if_neg qO,if_neg qO,if_neg qO,q1]; exact a.fr
   · rw [if_neg q1]
     by_cases q2:j=gb
     · rw [if_pos q2,if_neg qO,if_neg qO,if_neg qO,q2]; exact a.fg
     · rw [if_neg q2]
       by_cases q3:j=bb
       · rw [if_pos q3,if_neg qO,if_neg qO,if_pos q3]
       · rw [if_neg q3,if_neg q3]
  have he:=Ans.eq (ZoT eb db sb gb rb ab fb bb t n m (c+1+1+1+1+1+1) x1 x2 (.slice (some ⟨vb,0,none⟩) (4*n) (4*n)) x5 (.slice (some ⟨tb,0,none⟩) (4*n) (4*n)) D E vv ev tv f5 hq df ((hqf sb qO qO).trans a.fs) ((hqf db qO qO).trans ((a.base db ld od.1 od.2.1 od.2.2).trans fd)) ((hqf eb qO qO).trans ((a.base eb le oe.1 oe.2.1 oe.2.2).trans fe)) lD lE (fun k hk=>hE (6*t+k) qO) htn hn hm qO qO qO qO qO qO qO qO (o1.mono qO) (o2.mono qO) (OkV.sl qO) (o5.mono qO) (OkV.sl qO) n1 n2 n3 od.2.1 od.2.2 oe.2.1 oe.2.2 qO qO qO qO qO 6 0 z qO hz);rw [← e2] at he;simp only [qC,qF] at he;rw [hX2] at he;obtain ⟨z',hz'⟩:=jN (sKs E D t 6 0 z);have sb':=SB.ks E D t 6 0 hz;rw [hz'] at he sb';obtain ⟨H3,hH3⟩:=jN (kH (newB hq bb (ints X2)) gb rb z');rw [hH3] at he;have H3f:∀ j,H3.f j=if j=rb then some (.cells false none (bools z'.2)) else if j=gb then some (.cells false none (ints z'.1)) else if j=bb then some (.cells false none (ints X2)) else if j=fb then some (.cells false none (ints X3)) else if j=ab then some (.cells false none (ints X1)) else H.f j:=fun j=>by
   rw [← hH3,Ze2,Z01,← hhq,Z01,Z01]
  have low:∀ j,j<256*(c+1+1)->j ≠ gb->j ≠ rb->H3.f j=H.f j:=fun j hj h1 h2=>by
   rw [H3f,if_neg h2,if_neg h1,if_neg qO,if_neg qO,if_neg qO]
  have a3:SkI c0 (c+1+1+1+1+1+1) sb gb rb m t h0 H3 vv ev tv f5 V E T z':=by
   refine ⟨(low sb qO n2 n3).trans a.fs,(a.gv.keep fun hv=>?_).mono qO,(a.ge.keep fun hv=>?_).mono qO,(a.gt.keep fun hv=>?_).mono qO,a.d1,a.d2,a.d3, ?_, ?_,fun j hj h1 h2 h3=>?_⟩
   · have:=bv hv; exact low _ qO qO qO
   · have:=be hv; exact low _ qO qO qO
   · have:=bt hv; exact low _ qO qO qO
   · rw [H3f,if_neg n1,if_pos rfl]
   · rw [H3f,if_pos rfl]
   · exact (low j qO h2 h3).trans (a.base j hj h1 h2 h3)
  obtain ⟨k0,hk0⟩:=jN (c+1+1+1+1+1+1);rw [hk0] at a3 he;obtain ⟨b1,hb1⟩:=jN (256*k0+3);obtain ⟨i1,hi1⟩:=jN (256*k0+4);obtain ⟨b2,hb2⟩:=jN (256*(k0+1)+3);obtain ⟨i2,hi2⟩:=jN (256*(k0+1)+4);obtain ⟨b3,hb3⟩:=jN (256*(k0+1+1)+3);obtain ⟨i3,hi3⟩:=jN (256*(k0+1+1)+4);obtain ⟨h1,h2,h3,h4,h5,h6,p1,p2,p3,q1,q2,q3,r1,r2,r3,K2,K4,K6,KF,a'⟩:=a3.app3 lV lE lT htn hn qO n2 n3 ls lg lr b1 i1 b2 i2 b3 i3 hb1.symm hi1.symm hb2.symm hi2.symm hb3.symm hi3.symm;rw [hX1] at p2;rw [hX2] at q2;rw [hX3] at r2;have y1:ldN H3 4 (.pointer (some ⟨ab,0,none⟩))=some (av X1):=Z24 (by rw [H3f,if_neg qO,if_neg qO,if_neg qO,if_neg qO,if_pos rfl]) (by rw [ints_length,lX1]);have f2:=KF bb qO qO (fun hv=>by have:=bv hv; omega) (fun hv=>by have:=be hv; omega) (fun hv=>by have:=bt hv; omega);have f3:=KF fb qO qO (fun hv=>by have:=bv hv; omega) (fun hv=>by have:=be hv; omega) (fun hv=>by have:=bt hv; omega);have y2:ldN h2 6 (.pointer (some ⟨bb,0,none⟩))=some (av X2):=Z24 (f2.1.trans (by rw [H3f,if_neg qO,if_neg qO,if_pos rfl])) (by rw [ints_length,lX2]);have y3:ldN h4 4 (.pointer (some ⟨fb,0,none⟩))=some (av X3):=Z24 (f3.2.trans (by rw [H3f,if_neg qO,if_neg qO,if_neg qO,if_pos rfl])) (by rw [ints_length,lX3]);have u1:=Z9e [.int .i64 0,.int .i64 0,.int .i64 0,.int .i64 0] X1 4 rfl lX1;have u2:=Z9e [.int .i64 0,.int .i64 0,.int .i64 0,.int .i64 0,.int .i64 0,.int .i64 0] X2 6 rfl lX2;have u3:=Z9e [.int .i64 0,.int .i64 0,.int .i64 0,.int .i64 0] X3 4 rfl lX3;have hk:=ih (t+1) (k0+1+1+1+1) h6 _ _ _ z' qO qO (a'.mono qO) sb';rw [sTs,hz'];obtain ⟨S1,hS1⟩:=jN (newB (newB (newB H ab [.int .i64 0,.int .i64 0,.int .i64 0,.int .i64 0]) fb [.int .i64 0,.int .i64 0,.int .i64 0,.int .i64 0]) bb [.int .i64 0,.int .i64 0,.int .i64 0,.int .i64 0,.int .i64 0,.int .i64 0]);obtain ⟨S2,hS2⟩:=jN (newB (newB Hb ab (ints X1)) fb (ints X3));rw [hS1,hS2] at lo1;rw [hS2] at he;obtain ⟨ZV,hZV⟩:=jN (Value.slice (some ⟨vb,0,none⟩) (4*n) (4*n));obtain ⟨ZE,hZE⟩:=jN (Value.slice (some ⟨eb,0,none⟩) (6*n) (6*n));obtain ⟨ZT,hZT⟩:=jN (Value.slice (some ⟨tb,0,none⟩) (4*n) (4*n));obtain ⟨ZD,hZD⟩:=jN (Value.slice (some ⟨db,0,none⟩) (16*n) (16*n));rw [hZV,hZE,hZT,hZD] at lo1 he hk ⊢;have nn:(t:Int)<n:=qO;have n60:(n:Int)<=60:=qO;refine Ans.lpN rfl rfl (Z7m ..) ?_;unfold Z8W;simp only [qW];rw [hfb,hab,hbb];have fx:=ai hS1 (ai lo1 (ai hk0 (ai he (ai p1 (ai y1 (ai u1 (ai hb1 (ai hi1 (ai p2 (ai p3 (ai q1 (ai y2 (ai u2 (ai hb2 (ai hi2 (ai q2 (ai q3 (ai r1 (ai y3 (ai u3 (ai hb3 (ai hi3 (ai r2 r3)))))))))))))))))))))));refine Ans.go ?_;clear fx;refine Ans.nextN (hk.mono ?_)
  rintro q ⟨z1,z2,z3,z4,z5⟩
  exact ⟨z1,z2,z3,qO,z5⟩

section
variable {Gl:List Int} {n:Nat} (hok:Z0w Gl n=true) (hG:Gl.length=n*20)
 include hok hG
end

section
variable {Gl:List Int} {n:Nat} (hok:Z0w Gl n=true) (hG:Gl.length=n*20)
 include hok hG
end

theorem Zjq (Gl:List Int) (t:Nat):∀ (r f:Nat) (x:Bool),frF Gl t r f x=true ↔ x=true ∨ ∃ g,f<=g/\g<f+r/\Z0D (Z04 Gl t g)<0
 | 0,f,x=>by
  rw [frF];exact ⟨.inl,fun h=>h.elim id fun ⟨g,h1,h2,_⟩=>qO⟩
 | r+1,f,x=>by
  rw [frF,Zjq Gl t r (f+1),frS,Bool.or_eq_true,decide_eq_true_eq];constructor
  · rintro ((h | h) | ⟨g,h1,h2,h3⟩)
    · exact .inl h
    · exact .inr ⟨f,qO,qO,h⟩
    · exact .inr ⟨g,qO,qO,h3⟩
  · rintro (h | ⟨g,h1,h2,h3⟩)
    · exact .inl (.inl h)
    · by_cases e:g=f
      · subst e; exact .inl (.inr h3)
      · exact .inr ⟨g,qO,qO,h3⟩
theorem Zjp (Gl:List Int):∀ (r t:Nat) (x:Bool),frT Gl r t x=true ↔ x=true ∨ ∃ u g,t<=u/\u<t+r/\g<4/\Z0D (Z04 Gl u g)<0
 | 0,t,x=>by
  rw [frT];exact ⟨.inl,fun h=>h.elim id fun ⟨u,g,h1,h2,_⟩=>qO⟩
 | r+1,t,x=>by
  rw [frT,Zjp Gl r (t+1),Zjq];constructor
  · rintro ((h | ⟨g,h1,h2,h3⟩) | ⟨u,g,h1,h2,h3,h4⟩)
    · exact .inl h
    · exact .inr ⟨t,g,qO,qO,qO,h3⟩
    · exact .inr ⟨u,g,qO,qO,h3,h4⟩
  · rintro (h | ⟨u,g,h1,h2,h3,h4⟩)
    · exact .inl (.inl h)
    · by_cases e:u=t
      · subst e; exact .inl (.inr ⟨g,qO,qO,h4⟩)
      · exact .inr ⟨u,g,qO,qO,h3,h4⟩
theorem ZoO (Gl:List Int) (n:Nat):xFr Gl n=true ↔ ∃ u g,u<n/\g<4/\Z0D (Z04 Gl u g)<0:=by
 unfold xFr;rw [Zjp];constructor
 · rintro (h | ⟨u,g,h1,h2,h3⟩)
   · cases h
   · exact ⟨u,g,qO,h3⟩
 · rintro ⟨u,g,h1,h2⟩
   exact .inr ⟨u,g,qO,qO,h2⟩
theorem ZiI (R:List Bool):∀ (r k:Nat) (x:Bool),rvF R r k x=true ↔ x=true ∨ ∃ j,k<=j/\j<k+r/\R.getD j false=true
 | 0,k,x=>by
  rw [rvF];exact ⟨.inl,fun h=>h.elim id fun ⟨g,h1,h2,_⟩=>qO⟩
 | r+1,k,x=>by
  rw [rvF,ZiI R r (k+1),Bool.or_eq_true];constructor
  · rintro ((h | h) | ⟨g,h1,h2,h3⟩)
    · exact .inl h
    · exact .inr ⟨k,qO,qO,h⟩
    · exact .inr ⟨g,qO,qO,h3⟩
  · rintro (h | ⟨g,h1,h2,h3⟩)
    · exact .inl (.inl h)
    · by_cases e:g=k
      · subst e; exact .inl (.inr h3)
      · exact .inr ⟨g,qO,qO,h3⟩
theorem ZoN (Gl:List Int) (n:Nat):xRv Gl n=true ↔ ∃ v,v<nE Gl n/\(skZ Gl n).2.getD v false=true:=by
 unfold xRv;rw [ZiI];constructor
 · rintro (h | ⟨j,h1,h2,h3⟩)
   · cases h
   · exact ⟨j,qO,h3⟩
 · rintro ⟨j,h1,h2⟩
   exact .inr ⟨j,qO,qO,h2⟩
def frC (Gl:List Int) (m:Nat):Int:=Ze5 (fun x=>if Z0D (Z04 Gl (x / 4) (x % 4))<0 then 1 else 0) m
theorem Zfq (p:Nat->Prop) [DecidablePred p]:∀ m,0<=Ze5 (fun x=>if p x then (1:Int) else 0) m/\Ze5 (fun x=>if p x then (1:Int) else 0) m<=m
 | 0=>by simp [Ze5]
 | m+1=>by
  have:=Zfq p m;rw [Ze5]
  split <;> omega
theorem Zos (Gl:List Int) (m:Nat):0<=frC Gl m/\frC Gl m<=m:=Zfq (fun x=>Z0D (Z04 Gl (x / 4) (x % 4))<0) m
section
variable {Gl:List Int} {n:Nat} (hok:Z0w Gl n=true) (hG:Gl.length=n*20)
 include hok hG
end
end Go.Proofs.Ytdodippbpdechaa

namespace Go.Ab
open Go
inductive Tri where
 | leaf
 | node (b:Option ABlk) (l r:Tri)
def Tri.get:Tri->Nat->Option ABlk
 | .leaf,_=>none
 | .node b l r,i=>cond (Nat.beq i 0) b (cond (Nat.beq (i % 2) 1) (l.get (i / 2)) (r.get (i / 2-1)))
def Tri.upd:Nat->Tri->Nat->Option ABlk->Tri
 | 0,t,_,o=>match t with
  | .leaf=>.node o .leaf .leaf
  | .node _ l r=>.node o l r
 | n+1,t,i,o=>match t with
  | .leaf=>cond (Nat.beq i 0) (.node o .leaf .leaf) (cond (Nat.beq (i % 2) 1) (.node none (Tri.upd n .leaf (i / 2) o) .leaf) (.node none .leaf (Tri.upd n .leaf (i / 2-1) o)))
  | .node b l r=>cond (Nat.beq i 0) (.node o l r) (cond (Nat.beq (i % 2) 1) (.node b (Tri.upd n l (i / 2) o) r) (.node b l (Tri.upd n r (i / 2-1) o)))
theorem Tri.get_upd:∀ (n:Nat) (t:Tri) (i:Nat) (o:Option ABlk) (j:Nat),i<=n->(Tri.upd n t i o).get j=if j=i then o else t.get j:=by
 have key:∀ (b:Option ABlk) (l r:Tri) (i:Nat),(Tri.node b l r).get i=if i=0 then b else if i % 2=1 then l.get (i / 2) else r.get (i / 2-1):=by
  intro b l r i
  simp only [Tri.get]
  by_cases h0:i=0
  · subst h0; rfl
  · have:Nat.beq i 0=false:=by rw [qY]; intro h; exact h0 (qJ h)
    rw [this]
    simp only [h0,if_false,cond_false]
    by_cases h1:i % 2=1
    · simp [h1]
    · have:Nat.beq (i % 2) 1=false:=by rw [qY]; intro h; exact h1 (qJ h)
      simp [h1,this]
 have leafg:∀ j,Tri.leaf.get j=none:=fun _=>rfl
 intro n
 induction n with
 | zero =>
  intro t i o j hi
  have:i=0:=qO
  subst this
  cases t with
  | leaf =>
   simp only [Tri.upd,key,leafg]
   split <;> simp
  | node b l r =>
   simp only [Tri.upd,key]
   by_cases h:j=0 <;> simp [h]
 | succ n ih =>
  intro t i o j hi
  by_cases h0:i=0
  · subst h0
    cases t with
    | leaf =>
     simp only [Tri.upd,Nat.beq_refl,cond_true,key,leafg]
     split <;> simp
    | node b l r =>
     simp only [Tri.upd,Nat.beq_refl,cond_true,key]
     by_cases h:j=0 <;> simp [h]
  · have hb0:Nat.beq i 0=false:=by rw [qY]; intro h; exact h0 (qJ h)
    by_cases h1:i % 2=1
    · have hb1:Nat.beq (i % 2) 1=true:=by rw [h1]; rfl
      cases t with
      | leaf =>
       simp only [Tri.upd,hb0,hb1,cond_true,cond_false,key,leafg]
       by_cases hj:j=0
       · subst hj; simp [Ne.symm h0]
       · simp only [hj,if_false]
         by_cases hj1:j % 2=1
         · simp only [hj1,if_true]
           rw [ih _ _ _ _ qO,leafg]
           by_cases e:j=i
           · simp [e]
           · rw [if_neg e,if_neg qO]
         · rw [if_neg hj1,if_neg qO]
      | node b l r =>
       simp only [Tri.upd,hb0,hb1,cond_true,cond_false,key]
       by_cases hj:j=0
       · subst hj; simp [Ne.symm h0]
       · simp only [hj,if_false]
         by_cases hj1:j % 2=1
         · simp only [hj1,if_true]
           rw [ih _ _ _ _ qO]
           by_cases e:j=i
           · simp [e]
           · rw [if_neg e,if_neg qO]
         · rw [if_neg hj1,if_neg (show ¬ j=i by omega),if_neg hj1]
    · have hb1:Nat.beq (i % 2) 1=false:=by rw [qY]; intro h; exact h1 (qJ h)
      cases t with
      | leaf =>
       simp only [Tri.upd,hb0,hb1,cond_true,cond_false,key,leafg]
       by_cases hj:j=0
       · subst hj; simp [Ne.symm h0]
       · simp only [hj,if_false]
         by_cases hj1:j % 2=1
         · rw [if_pos hj1,if_neg qO]
         · rw [if_neg hj1,ih _ _ _ _ qO,leafg]
           by_cases e:j=i
           · simp [e]
           · rw [if_neg e,if_neg qO]
      | node b l r =>
       simp only [Tri.upd,hb0,hb1,cond_true,cond_false,key]
       by_cases hj:j=0
       · subst hj; simp [Ne.symm h0]
       · simp only [hj,if_false]
         by_cases hj1:j % 2=1
         · rw [if_pos hj1,if_neg (show ¬ j=i by omega),if_pos hj1]
         · rw [if_neg hj1,ih _ _ _ _ qO]
           by_cases e:j=i
           · simp [e]
           · rw [if_neg e,if_neg qO,if_neg hj1]
def Zha:Option Addr->Option Addr->Bool
 | none,none=>true
 | some ⟨a,b,none⟩,some ⟨c,d,none⟩=>Nat.beq a c && Nat.beq b d
 | _,_=>false
def ZoR:Value->Value->Bool
 | .bool a,.bool b=>a == b
 | .int k n,.int k' n'=>decide (k=k') && n == n'
 | .pointer a,.pointer b=>Zha a b
 | .slice a l c,.slice b l' c'=>Zha a b && Nat.beq l l' && Nat.beq c c'
 | .map (some a),.map (some b)=>Nat.beq a b
 | .map none,.map none=>true
 | .nilFunc,.nilFunc=>true
 | .nilIface,.nilIface=>true
 | _,_=>false
def Zfk:List Value->List Value->Bool
 | [],[]=>true
 | x::xs,y::ys=>ZoR x y && Zfk xs ys
 | _,_=>false
def ZcH:Option Nat->Option Nat->Bool
 | none,none=>true
 | some a,some b=>Nat.beq a b
 | _,_=>false
def Zo4:Option ABlk->Option ABlk->Bool
 | none,none=>true
 | some (.cells ro o c),some (.cells ro' o' c')=>ro == ro' && ZcH o o' && Zfk c c'
 | some .dead,some .dead=>true
 | some .dfr,some .dfr=>true
 | _,_=>false
theorem ZdW {a b:Option Addr} (h:Zha a b=true):a=b:=by
 unfold Zha at h
 split at h
 · rfl
 · simp only [qN] at h
   rw [qJ h.1,qJ h.2]
 · cases h
theorem ZkA {a b:Value} (h:ZoR a b=true):a=b:=by
 unfold ZoR at h
 split at h
 · simp at h; rw [h]
 · simp at h; rw [h.1,h.2]
 · rw [ZdW h]
 · simp only [qN] at h
   rw [ZdW h.1.1,qJ h.1.2,qJ h.2]
 · rw [qJ h]
 · rfl
 · rfl
 · rfl
 · cases h
theorem Zdi:∀ {a b:List Value},Zfk a b=true->a=b
 | [],[],_=>rfl
 | x::xs,y::ys,h=>by
  simp only [Zfk,qN] at h
  rw [ZkA h.1,Zdi h.2]
 | [],y::ys,h=>by cases h
 | x::xs,[],h=>by cases h
theorem Zel {a b:Option Nat} (h:ZcH a b=true):a=b:=by
 unfold ZcH at h
 split at h
 · rfl
 · rw [qJ h]
 · cases h
theorem Zh8 (a b:Option ABlk) (h:Zo4 a b=true):a=b:=by
 unfold Zo4 at h
 split at h
 · rfl
 · simp only [qN] at h
   have h1:=h.1.1
   rw [Zel h.1.2,Zdi h.2]
   simp at h1
   rw [h1]
 · rfl
 · rfl
 · cases h
instance:HeapC Tri where
 get h i:=h.get i
 set h i b:=Tri.upd i h i (some b)
 del h i:=Tri.upd i h i none
 eqB:=Zo4
 eqB_eq:=Zh8
 get_set h i b j:=Tri.get_upd i h i (some b) j (qG _)
 get_del h i j:=Tri.get_upd i h i none j (qG _)
end Go.Ab

namespace Go.Ab
open Go
noncomputable def ZkE (t:Tri):Nat->Option ABlk :=
 Tri.rec (motive:=fun _=>Nat->Option ABlk) (fun _=>none)
  (fun b _ _ l r i=>cond (Nat.beq i 0) b (cond (Nat.beq (Nat.mod i 2) 1) (l (Nat.div i 2)) (r (Nat.sub (Nat.div i 2) 1)))) t
theorem Zcw:∀ (t:Tri) (i:Nat),ZkE t i=t.get i
 | .leaf,i=>rfl
 | .node b l r,i=>by
  show cond (Nat.beq i 0) b (cond (Nat.beq (Nat.mod i 2) 1) (ZkE l (Nat.div i 2)) (ZkE r (Nat.sub (Nat.div i 2) 1)))=_
  rw [Zcw l,Zcw r]
  rfl
noncomputable def Zog (o:Option ABlk) (n:Nat):Tri->Nat->Tri :=
 Nat.rec (motive:=fun _=>Tri->Nat->Tri)
  (fun t _=>Tri.rec (motive:=fun _=>Tri) (.node o .leaf .leaf) (fun _ l r _ _=>.node o l r) t)
  (fun _ ih t i=>Tri.rec (motive:=fun _=>Tri)
   (cond (Nat.beq i 0) (.node o .leaf .leaf) (cond (Nat.beq (Nat.mod i 2) 1) (.node none (ih .leaf (Nat.div i 2)) .leaf) (.node none .leaf (ih .leaf (Nat.sub (Nat.div i 2) 1)))))
   (fun b l r _ _=>cond (Nat.beq i 0) (.node o l r) (cond (Nat.beq (Nat.mod i 2) 1) (.node b (ih l (Nat.div i 2)) r) (.node b l (ih r (Nat.sub (Nat.div i 2) 1))))) t) n
theorem Z9P (o:Option ABlk):∀ (n:Nat) (t:Tri) (i:Nat),Zog o n t i=Tri.upd n t i o
 | 0,.leaf,i=>rfl
 | 0,.node b l r,i=>rfl
 | n+1,.leaf,i=>by
  show (cond (Nat.beq i 0) (Tri.node o .leaf .leaf) (cond (Nat.beq (Nat.mod i 2) 1) (Tri.node none (Zog o n .leaf (Nat.div i 2)) .leaf) (Tri.node none .leaf (Zog o n .leaf (Nat.sub (Nat.div i 2) 1)))))=_
  rw [Z9P o n,Z9P o n]; rfl
 | n+1,.node b l r,i=>by
  show (cond (Nat.beq i 0) (Tri.node o l r) (cond (Nat.beq (Nat.mod i 2) 1) (Tri.node b (Zog o n l (Nat.div i 2)) r) (Tri.node b l (Zog o n r (Nat.sub (Nat.div i 2) 1)))))=_
  rw [Z9P o n,Z9P o n]; rfl
theorem ZiA (t:Tri) (i:Nat) (o:Option ABlk) (j:Nat):ZkE (Zog o i t i) j=if j=i then o else ZkE t j:=by
 rw [Zcw,Zcw,Z9P]
 exact Tri.get_upd i t i o j (qG _)
abbrev RC:=List (Nat × Option ABlk)
noncomputable def ZaF (i:Nat) (rc:RC):Option (Option ABlk) :=
 List.rec (motive:=fun _=>Option (Option ABlk)) none (fun x _ ih=>cond (Nat.beq i x.1) (some x.2) ih) rc
noncomputable def ZiR (i:Nat) (o:Option ABlk) (rc:RC):RC :=
 List.rec (motive:=fun _=>RC) [] (fun x xs ih=>cond (Nat.beq i x.1) ((x.1,o)::xs) (x::ih)) rc
noncomputable def Zjr (rc:RC) (t:Tri):Tri :=
 List.rec (motive:=fun _=>Tri) t (fun x _ ih=>Zog x.2 x.1 ih x.1) rc
theorem Z1V (i:Nat) (x:Nat × Option ABlk) (xs:RC):ZaF i (x::xs)=if i=x.1 then some x.2 else ZaF i xs:=by
 show cond (Nat.beq i x.1) (some x.2) (ZaF i xs)=_
 cases h:Nat.beq i x.1 with
 | true=>rw [if_pos (qJ h)]; rfl
 | false=>rw [if_neg (fun e=>by rw [e,Nat.beq_refl] at h; cases h)]; rfl
theorem Zht (i:Nat) (o:Option ABlk) (x:Nat × Option ABlk) (xs:RC):ZiR i o (x::xs)=if i=x.1 then (x.1,o)::xs else x::ZiR i o xs:=by
 show cond (Nat.beq i x.1) ((x.1,o)::xs) (x::ZiR i o xs)=_
 cases h:Nat.beq i x.1 with
 | true=>rw [if_pos (qJ h)]; rfl
 | false=>rw [if_neg (fun e=>by rw [e,Nat.beq_refl] at h; cases h)]; rfl
theorem Zak (i:Nat) (o:Option ABlk) (j:Nat):∀ (rc:RC),ZaF i rc ≠ none->ZaF j (ZiR i o rc)=if j=i then some o else ZaF j rc
 | [],h=>absurd rfl h
 | x::xs,h=>by
  rw [Z1V] at h
  rw [Zht]
  by_cases e:i=x.1
  · rw [if_pos e,Z1V,Z1V]
    by_cases e2:j=x.1
    · rw [if_pos e2,if_pos (e2.trans e.symm)]
    · rw [if_neg e2,if_neg (fun h=>e2 (h.trans e)),if_neg e2]
  · rw [if_neg e] at h ⊢
    rw [Z1V,Z1V,Zak i o j xs h]
    by_cases e2:j=x.1
    · rw [if_pos e2,if_pos e2,if_neg (fun h=>e (h.symm.trans e2))]
    · rw [if_neg e2,if_neg e2]
theorem Zb5 (j:Nat) (t:Tri):∀ (rc:RC),ZkE (Zjr rc t) j=(match ZaF j rc with | some o=>o | none=>ZkE t j)
 | []=>rfl
 | x::xs=>by
  show ZkE (Zog x.2 x.1 (Zjr xs t) x.1) j=_
  rw [ZiA,Z1V]
  by_cases e:j=x.1
  · rw [if_pos e,if_pos e]
  · rw [if_neg e,if_neg e,Zb5 j t xs]
structure TH where
 rc:RC
 n:Nat
 old:Tri
noncomputable def TH.put (h:TH) (i:Nat) (o:Option ABlk):TH :=
 match ZaF i h.rc with
 | some _=>{ rc:=ZiR i o h.rc,n:=h.n,old:=h.old }
 | none=>cond (Nat.blt h.n 24) { rc:=(i,o)::h.rc,n:=Nat.add h.n 1,old:=h.old } { rc:=[(i,o)],n:=1,old:=Zjr h.rc h.old }
noncomputable def TH.look (h:TH) (i:Nat):Option ABlk :=
 match ZaF i h.rc with
 | some o=>o
 | none=>ZkE h.old i
theorem TH.look_put (h:TH) (i:Nat) (o:Option ABlk) (j:Nat):(h.put i o).look j=if j=i then o else h.look j:=by
 unfold TH.put TH.look
 cases e:ZaF i h.rc with
 | some x =>
  dsimp only
  rw [Zak i o j h.rc (by rw [e]; simp)]
  by_cases e2:j=i
  · rw [if_pos e2,if_pos e2]
  · rw [if_neg e2,if_neg e2]
 | none =>
  dsimp only
  cases Nat.blt h.n 24 with
  | true =>
   dsimp only [cond_true]
   rw [Z1V]
   by_cases e2:j=i
   · rw [if_pos e2,if_pos e2]
   · rw [if_neg e2,if_neg e2]
  | false =>
   dsimp only [cond_false]
   rw [Z1V]
   by_cases e2:j=i
   · rw [if_pos e2,if_pos e2]
   · rw [if_neg e2,if_neg e2]
     exact Zb5 j h.old h.rc
noncomputable instance:HeapC TH where
 get h i:=h.look i
 set h i b:=h.put i (some b)
 del h i:=h.put i none
 eqB:=Zo4
 eqB_eq:=Zh8
 get_set h i b j:=TH.look_put h i (some b) j
 get_del h i j:=TH.look_put h i none j
noncomputable def TH.empty:TH:={ rc:=[],n:=0,old:=.leaf }
theorem TH.inv_empty (h:TH) (e:h=TH.empty) (i:Nat):HeapC.get h i=none:=by subst e; rfl
end Go.Ab
