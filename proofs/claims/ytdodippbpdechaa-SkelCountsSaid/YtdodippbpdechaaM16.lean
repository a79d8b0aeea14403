/- Parts of a proof: K17 K18 K19 K20 K21. Conditions: none. -/
import Derived.Test.YtdodippbpdechaaM15
import Derived.Test.YtdodippbpdechaaM13
set_option linter.all false
set_option maxRecDepth 100000
namespace Go.Proofs.Ytdodippbpdechaa
open Go Go.Ab Go.Proofs
theorem Zc8 (zs:List Value) (X:List Int) (n:Nat) (hz:zs.length=n) (hX:X.length=n):Zag zs [(0,n,av X)]=some (ints X):=by
 have h1:Nat.beq (av X).cells.size n=true:=by rw [Zhe,hX]; exact Nat.beq_refl n
 have h2:Nat.ble n zs.length=true:=Nat.ble_eq_true_of_le qO
 simp only [Zag,h1,h2,Bool.and_self,Nat.zero_add,cond_true,Z68,Z0L,List.take_zero,List.nil_append,ints_length,hX]
 rw [List.drop_of_length_le qO,List.append_nil]
theorem arr41 (b o cap:Nat):Z4W P 41 (.slice (some ⟨b,o,none⟩) 4 cap)=some (.pointer (some ⟨b,o,none⟩)):=by kernel_rfl
theorem arr64 (b o cap:Nat):Z4W P 64 (.slice (some ⟨b,o,none⟩) 6 cap)=some (.pointer (some ⟨b,o,none⟩)):=by kernel_rfl
theorem Zfj (L:List Int) (q t:Nat):L.take (q*(t+1))=L.take (q*t)++(L.drop (q*t)).take q:=by
 rw [Nat.mul_succ,List.take_add]
structure SkI (c0 c sb gb rb m t:Nat) (h0 h:FH) (vv ev tv f5:Value) (V E T:List Int) (z:List Int × List Bool):Prop where
 fs:h.f sb=some (.cells false none [vv,ev,tv,.slice (some ⟨gb,0,none⟩) m m,.slice (some ⟨rb,0,none⟩) m m,f5])
 gv:GrC c0 h c vv 4 t (ints (V.take (4*t)))
 ge:GrC c0 h c ev 6 t (ints (E.take (6*t)))
 gt:GrC c0 h c tv 4 t (ints (T.take (4*t)))
 d1:vv ≠ .slice none 0 0->ev ≠ .slice none 0 0->Z0x vv ≠ Z0x ev
 d2:vv ≠ .slice none 0 0->tv ≠ .slice none 0 0->Z0x vv ≠ Z0x tv
 d3:ev ≠ .slice none 0 0->tv ≠ .slice none 0 0->Z0x ev ≠ Z0x tv
 fg:h.f gb=some (.cells false none (ints z.1))
 fr:h.f rb=some (.cells false none (bools z.2))
 base:∀ j,j<256*c0->j ≠ sb->j ≠ gb->j ≠ rb->h.f j=h0.f j
theorem SkI.mono {c0 c c' sb gb rb m t:Nat} {h0 h:FH} {vv ev tv f5:Value} {V E T:List Int} {z:List Int × List Bool} (a:SkI c0 c sb gb rb m t h0 h vv ev tv f5 V E T z) (hc:c<=c'):SkI c0 c' sb gb rb m t h0 h vv ev tv f5 V E T z :=
 ⟨a.fs,a.gv.mono hc,a.ge.mono hc,a.gt.mono hc,a.d1,a.d2,a.d3,a.fg,a.fr,a.base⟩
theorem SkI.marks {c0 c sb gb rb m t:Nat} {h0 h:FH} {vv ev tv f5:Value} {V E T:List Int} {z z':List Int × List Bool} (a:SkI c0 c sb gb rb m t h0 h vv ev tv f5 V E T z) (n1:gb ≠ rb) (n2:sb ≠ gb) (n3:sb ≠ rb) (lg:gb<256*c0) (lr:rb<256*c0):SkI c0 c sb gb rb m t h0 (kH h gb rb z') vv ev tv f5 V E T z':=by
 refine ⟨?_,a.gv.keep fun hv=>?_,a.ge.keep fun hv=>?_,a.gt.keep fun hv=>?_,a.d1,a.d2,a.d3, ?_, ?_,fun j hj h1 h2 h3=>?_⟩
 · rw [Zg8,if_neg n3,if_neg n2]; exact a.fs
 · have:=(a.gv.blk hv).1; rw [Zg8,if_neg qO,if_neg qO]
 · have:=(a.ge.blk hv).1; rw [Zg8,if_neg qO,if_neg qO]
 · have:=(a.gt.blk hv).1; rw [Zg8,if_neg qO,if_neg qO]
 · rw [Zg8,if_neg n1,if_pos rfl]
 · rw [Zg8,if_pos rfl]
 · rw [Zg8,if_neg h3,if_neg h2]; exact a.base j hj h1 h2 h3
theorem SkI.step {c0 c sb gb rb m t n:Nat} {h0 h:FH} {vv ev tv f5:Value} {V E T:List Int} {z:List Int × List Bool} (a:SkI c0 c sb gb rb m t h0 h vv ev tv f5 V E T z) (hV:V.length=4*n) (hE:E.length=6*n) (hT:T.length=4*n) (ht:t<n) (hn:n<=60) (hc0:c0<=c)
 (n2:sb ≠ gb) (n3:sb ≠ rb) (ls:sb<256*c0) (lg:gb<256*c0) (lr:rb<256*c0) (b1 i1 b2 i2 b3 i3:Nat) (hb1:b1=256*(c+1+1)+11) (hi1:i1=256*(c+1+1)+12) (hb2:b2=256*(c+1+1+1)+11) (hi2:i2=256*(c+1+1+1)+12) (hb3:b3=256*(c+1+1+1+1)+11) (hi3:i3=256*(c+1+1+1+1)+12) :
 ∃ h1 h2 h3 h4 h5 h6,ld1 h (.pointer (some ⟨sb,0,none⟩))=some vv/\Z6X (newB h b1 (ints ((V.drop (4*t)).take 4))) i1 4 32 vv (.slice (some ⟨b1,0,none⟩) 1 1)=some (.slice (some ⟨i1,0,none⟩) (t+1) (t+1),h1)/\stN h1 1 (.pointer (some ⟨sb,0,none⟩)) (.slice (some ⟨i1,0,none⟩) (t+1) (t+1))=some h2 ∧
  ld1 h2 (.pointer (some ⟨sb,1,none⟩))=some ev/\Z6X (newB h2 b2 (ints ((E.drop (6*t)).take 6))) i2 6 48 ev (.slice (some ⟨b2,0,none⟩) 1 1)=some (.slice (some ⟨i2,0,none⟩) (t+1) (t+1),h3)/\stN h3 1 (.pointer (some ⟨sb,1,none⟩)) (.slice (some ⟨i2,0,none⟩) (t+1) (t+1))=some h4 ∧
  ld1 h4 (.pointer (some ⟨sb,2,none⟩))=some tv/\Z6X (newB h4 b3 (ints ((T.drop (4*t)).take 4))) i3 4 32 tv (.slice (some ⟨b3,0,none⟩) 1 1)=some (.slice (some ⟨i3,0,none⟩) (t+1) (t+1),h5)/\stN h5 1 (.pointer (some ⟨sb,2,none⟩)) (.slice (some ⟨i3,0,none⟩) (t+1) (t+1))=some h6 ∧
  (∀ j,j<256*c0->j ≠ sb->h2.f j=h.f j)/\(∀ j,j<256*c0->j ≠ sb->h4.f j=h.f j)/\(∀ j,j<256*c0->j ≠ sb->h6.f j=h.f j) ∧
  SkI c0 (c+1+1+1+1+1) sb gb rb m (t+1) h0 h6 (.slice (some ⟨i1,0,none⟩) (t+1) (t+1)) (.slice (some ⟨i2,0,none⟩) (t+1) (t+1)) (.slice (some ⟨i3,0,none⟩) (t+1) (t+1)) f5 V E T z:=by
 have lX:((V.drop (4*t)).take 4).length=4:=by rw [List.length_take,List.length_drop]; omega
 have lY:((E.drop (6*t)).take 6).length=6:=by rw [List.length_take,List.length_drop]; omega
 have lZ:((T.drop (4*t)).take 4).length=4:=by rw [List.length_take,List.length_drop]; omega
 have bv:vv ≠ .slice none 0 0->256*c0<=Z0x vv/\Z0x vv<256*c:=a.gv.blk
 have be:ev ≠ .slice none 0 0->256*c0<=Z0x ev/\Z0x ev<256*c:=a.ge.blk
 have bt:tv ≠ .slice none 0 0->256*c0<=Z0x tv/\Z0x tv<256*c:=a.gt.blk
 obtain ⟨h1,h2,p1,p2,p3,p4,p5,p6⟩:=a.gv.step (c':=c+1+1+1) (o:=0) a.fs rfl ls (ints ((V.drop (4*t)).take 4)) (by rw [ints_length,lX]) (Z1s _) qO 32 b1 i1 qO qO qO qO qO qO
 have ge1:GrC c0 h2 (c+1+1+1) ev 6 t (ints (E.take (6*t))):=(a.ge.keep fun hv=>p6 _ (be hv).2 (by have:=(be hv).1; omega) fun hw=>Ne.symm (a.d1 hw hv)).mono qO
 have gt1:GrC c0 h2 (c+1+1+1) tv 4 t (ints (T.take (4*t))):=(a.gt.keep fun hv=>p6 _ (bt hv).2 (by have:=(bt hv).1; omega) fun hw=>Ne.symm (a.d2 hw hv)).mono qO
 obtain ⟨h3,h4,q1,q2,q3,q4,q5,q6⟩:=ge1.step (c':=c+1+1+1+1) (o:=1) p4 rfl ls (ints ((E.drop (6*t)).take 6)) (by rw [ints_length,lY]) (Z1s _) qO 48 b2 i2 qO qO qO qO qO qO
 have gt2:GrC c0 h4 (c+1+1+1+1) tv 4 t (ints (T.take (4*t))):=(gt1.keep fun hv=>q6 _ (by have:=(bt hv).2; omega) (by have:=(bt hv).1; omega) fun hw=>Ne.symm (a.d3 hw hv)).mono qO
 have gv2:GrC c0 h4 (c+1+1+1+1) (.slice (some ⟨i1,0,none⟩) (t+1) (t+1)) 4 (t+1) (ints (V.take (4*t))++ints ((V.drop (4*t)).take 4)):=(p5.keep fun hv=>q6 _ (by rw [blkOf_sl]; omega) (by rw [blkOf_sl]; omega) fun hw=>by have:=(be hw).2; rw [blkOf_sl]; omega).mono qO
 obtain ⟨h5,h6,r1,r2,r3,r4,r5,r6⟩:=gt2.step (c':=c+1+1+1+1+1) (o:=2) q4 rfl ls (ints ((T.drop (4*t)).take 4)) (by rw [ints_length,lZ]) (Z1s _) qO 32 b3 i3 qO qO qO qO qO qO
 have gv3:GrC c0 h6 (c+1+1+1+1+1) (.slice (some ⟨i1,0,none⟩) (t+1) (t+1)) 4 (t+1) (ints (V.take (4*t))++ints ((V.drop (4*t)).take 4)):=(gv2.keep fun hv=>r6 _ (by rw [blkOf_sl]; omega) (by rw [blkOf_sl]; omega) fun hw=>by have:=(bt hw).2; rw [blkOf_sl]; omega).mono qO
 have ge3:GrC c0 h6 (c+1+1+1+1+1) (.slice (some ⟨i2,0,none⟩) (t+1) (t+1)) 6 (t+1) (ints (E.take (6*t))++ints ((E.drop (6*t)).take 6)):=(q5.keep fun hv=>r6 _ (by rw [blkOf_sl]; omega) (by rw [blkOf_sl]; omega) fun hw=>by have:=(bt hw).2; rw [blkOf_sl]; omega).mono qO
 have K2:∀ j,j<256*c0->j ≠ sb->h2.f j=h.f j:=fun j hj h1'=>p6 j qO h1' fun hv=>by have:=(bv hv).1; omega
 have K4:∀ j,j<256*c0->j ≠ sb->h4.f j=h.f j:=fun j hj h1'=>(q6 j qO h1' fun hv=>by have:=(be hv).1; omega).trans (K2 j hj h1')
 have K6:∀ j,j<256*c0->j ≠ sb->h6.f j=h.f j:=fun j hj h1'=>(r6 j qO h1' fun hv=>by have:=(bt hv).1; omega).trans (K4 j hj h1')
 rw [Z5J,← Zfj] at gv3 ge3 r5
 refine ⟨h1,h2,h3,h4,h5,h6,p1,p2,p3,q1,q2,q3,r1,r2,r3,K2,K4,K6,⟨r4,gv3,ge3,r5,(fun _ _=>by rw [blkOf_sl,blkOf_sl]; omega),(fun _ _=>by rw [blkOf_sl,blkOf_sl]; omega),(fun _ _=>by rw [blkOf_sl,blkOf_sl]; omega), ?_, ?_,fun j hj h1' h2' h3'=>?_⟩⟩
 · rw [K6 gb lg (Ne.symm n2)]; exact a.fg
 · rw [K6 rb lr (Ne.symm n3)]; exact a.fr
 · rw [K6 j hj h1']; exact a.base j hj h1' h2' h3'
def sTs (E D:List Int):Nat->Nat->List Int × List Bool->List Int × List Bool
 | 0,_,z=>z
 | r+1,t,z=>sTs E D r (t+1) (sKs E D t 6 0 z)
theorem SB.ts {m:Nat} (E D:List Int):∀ (r t:Nat) {z:List Int × List Bool} {B:Nat},SB m z B->SB m (sTs E D r t z) (B+6*r)
 | 0,_,z,B,h=>h
 | r+1,t,z,B,h=>by
  have:=SB.ts E D r (t+1) (SB.ks E D t 6 0 h)
  rw [show B+6+6*r=B+6*(r+1) by omega] at this
  exact this
set_option maxHeartbeats 2000000 in
theorem ZkN (pb0 cb vb db eb tb sb gb rb n m c0:Nat) (cnt:Int) (V D E T:List Int) (f5:Value) (h0:FH) (df:List Nat)
 (fv:h0.f vb=some (.cells false none (ints V))) (fd:h0.f db=some (.cells false none (ints D))) (fe:h0.f eb=some (.cells false none (ints E))) (ft:h0.f tb=some (.cells false none (ints T)))
 (lV:V.length=4*n) (lD:D.length=16*n) (lE:E.length=6*n) (lT:T.length=4*n) (hE:∀ k,k<6*n->0<=E.getD k 0/\E.getD k 0<m) (hn:n<=60) (hm:m<=360)
 (lp:pb0<256*c0) (lc:cb<256*c0) (lv:vb<256*c0) (ld:db<256*c0) (le:eb<256*c0) (lt:tb<256*c0) (ls:sb<256*c0) (lg:gb<256*c0) (lr:rb<256*c0)
 (n1:gb ≠ rb) (n2:sb ≠ gb) (n3:sb ≠ rb) (ov:vb ≠ sb/\vb ≠ gb/\vb ≠ rb) (od:db ≠ sb/\db ≠ gb/\db ≠ rb) (oe:eb ≠ sb/\eb ≠ gb/\eb ≠ rb) (ot:tb ≠ sb/\tb ≠ gb/\tb ≠ rb) :
 ∀ (r t c:Nat) (H:FH) (vv ev tv:Value) (z:List Int × List Bool),t+r=n->c0<=c->SkI c0 c sb gb rb m t h0 H vv ev tv f5 V E T z->SB m z (6*t)->Ans (G (Z95 none) [ptrTo pb0,ptrTo cb,.slice (some ⟨vb,0,none⟩) (4*n) (4*n),.int .i64 cnt,.slice (some ⟨db,0,none⟩) (16*n) (16*n),.slice (some ⟨eb,0,none⟩) (6*n) (6*n),.slice (some ⟨tb,0,none⟩) (4*n) (4*n),ptrTo sb,.int .i64 n,.int .i64 t] H c df) fun q =>
  q.e = .exit 0/\q.vs=[ptrTo pb0,ptrTo cb,.slice (some ⟨vb,0,none⟩) (4*n) (4*n),.int .i64 cnt,.slice (some ⟨db,0,none⟩) (16*n) (16*n),.slice (some ⟨eb,0,none⟩) (6*n) (6*n),.slice (some ⟨tb,0,none⟩) (4*n) (4*n),ptrTo sb,.int .i64 n,.int .i64 n]/\q.df=df/\c<=q.c ∧
  ∃ vv ev tv,SkI c0 q.c sb gb rb m n h0 q.h vv ev tv f5 V E T (sTs E D r t z):=by
 intro r
 induction r with
 | zero =>
  intro t c H vv ev tv z ht hc a hz
  obtain rfl:t=n:=by omega
  refine Ans.lpN rfl rfl (Z4P ..) ?_
  unfold Z4e
  have fx:=True.intro
  refine Ans.go ?_
  clear fx
  exact Ans.exitN ⟨rfl,rfl,rfl,by dsimp only; omega,vv,ev,tv,a.mono (by dsimp only; omega)⟩
 | succ r ih =>
  intro t c H vv ev tv z ht hc a hz
  have htn:t<n:=by omega
  obtain ⟨b1,hb1⟩:∃ b,256*(c+1+1)+11=b:=⟨_,rfl⟩
  obtain ⟨i1,hi1⟩:∃ b,256*(c+1+1)+12=b:=⟨_,rfl⟩
  obtain ⟨b2,hb2⟩:∃ b,256*(c+1+1+1)+11=b:=⟨_,rfl⟩
  obtain ⟨i2,hi2⟩:∃ b,256*(c+1+1+1)+12=b:=⟨_,rfl⟩
  obtain ⟨b3,hb3⟩:∃ b,256*(c+1+1+1+1)+11=b:=⟨_,rfl⟩
  obtain ⟨i3,hi3⟩:∃ b,256*(c+1+1+1+1)+12=b:=⟨_,rfl⟩
  obtain ⟨h1,h2,h3,h4,h5,h6,p1,p2,p3,q1,q2,q3,r1,r2,r3,K2,K4,K6,a'⟩:=a.step lV lE lT htn hn hc n2 n3 ls lg lr b1 i1 b2 i2 b3 i3 hb1.symm hi1.symm hb2.symm hi2.symm hb3.symm hi3.symm
  have gv:H.f vb=some (.cells false none (ints V)):=(a.base vb lv ov.1 ov.2.1 ov.2.2).trans fv
  have ge:h2.f eb=some (.cells false none (ints E)):=(K2 eb le oe.1).trans ((a.base eb le oe.1 oe.2.1 oe.2.2).trans fe)
  have gt:h4.f tb=some (.cells false none (ints T)):=(K4 tb lt ot.1).trans ((a.base tb lt ot.1 ot.2.1 ot.2.2).trans ft)
  have gd6:h6.f db=some (.cells false none (ints D)):=(K6 db ld od.1).trans ((a.base db ld od.1 od.2.1 od.2.2).trans fd)
  have ge6:h6.f eb=some (.cells false none (ints E)):=(K6 eb le oe.1).trans ((a.base eb le oe.1 oe.2.1 oe.2.2).trans fe)
  have s1:slS H 1 (.slice (some ⟨vb,0,none⟩) (4*n) (4*n)) (some (.int .i64 (4*(t:Int)))) (some (.int .i64 (4*(t:Int)+4))) none=some (.slice (some ⟨vb,4*t,none⟩) 4 (4*n-4*t)):=by
   have:=Zb3 gv .i64 .i64 (m:=4*n) (4*t) (4*t+4) qO qO
   rwa [show ((4*t:Nat):Int)=4*(t:Int) by omega,show ((4*t+4:Nat):Int)=4*(t:Int)+4 by omega,show 4*t+4-4*t=4 by omega] at this
  have s2:slS h2 1 (.slice (some ⟨eb,0,none⟩) (6*n) (6*n)) (some (.int .i64 (6*(t:Int)))) (some (.int .i64 (6*(t:Int)+6))) none=some (.slice (some ⟨eb,6*t,none⟩) 6 (6*n-6*t)):=by
   have:=Zb3 ge .i64 .i64 (m:=6*n) (6*t) (6*t+6) qO qO
   rwa [show ((6*t:Nat):Int)=6*(t:Int) by omega,show ((6*t+6:Nat):Int)=6*(t:Int)+6 by omega,show 6*t+6-6*t=6 by omega] at this
  have s3:slS h4 1 (.slice (some ⟨tb,0,none⟩) (4*n) (4*n)) (some (.int .i64 (4*(t:Int)))) (some (.int .i64 (4*(t:Int)+4))) none=some (.slice (some ⟨tb,4*t,none⟩) 4 (4*n-4*t)):=by
   have:=Zb3 gt .i64 .i64 (m:=4*n) (4*t) (4*t+4) qO qO
   rwa [show ((4*t:Nat):Int)=4*(t:Int) by omega,show ((4*t+4:Nat):Int)=4*(t:Int)+4 by omega,show 4*t+4-4*t=4 by omega] at this
  have x1:ldN H 4 (.pointer (some ⟨vb,4*t,none⟩))=some (av ((V.drop (4*t)).take 4)):=by
   rw [ldN_holds (cs:=ints V) ⟨false,none,gv⟩ (by rw [ints_length]; omega),av,Z1P,Z1g]
  have x2:ldN h2 6 (.pointer (some ⟨eb,6*t,none⟩))=some (av ((E.drop (6*t)).take 6)):=by
   rw [ldN_holds (cs:=ints E) ⟨false,none,ge⟩ (by rw [ints_length]; omega),av,Z1P,Z1g]
  have x3:ldN h4 4 (.pointer (some ⟨tb,4*t,none⟩))=some (av ((T.drop (4*t)).take 4)):=by
   rw [ldN_holds (cs:=ints T) ⟨false,none,gt⟩ (by rw [ints_length]; omega),av,Z1P,Z1g]
  have y1:=Zc8 [.int .i64 0,.int .i64 0,.int .i64 0,.int .i64 0] ((V.drop (4*t)).take 4) 4 rfl (by rw [List.length_take,List.length_drop]; omega)
  have y2:=Zc8 [.int .i64 0,.int .i64 0,.int .i64 0,.int .i64 0,.int .i64 0,.int .i64 0] ((E.drop (6*t)).take 6) 6 rfl (by rw [List.length_take,List.length_drop]; omega)
  have y3:=Zc8 [.int .i64 0,.int .i64 0,.int .i64 0,.int .i64 0] ((T.drop (4*t)).take 4) 4 rfl (by rw [List.length_take,List.length_drop]; omega)
  have cp:=fun h c=>Z84 h c
  have he:=Ans.eq (ZkO pb0 cb vb db eb tb sb gb rb t n m (c+1+1+1+1+1+1) c0 cnt D E _ _ _ f5 h6 df a'.fs gd6 ge6 lD lE (fun k hk=>hE (6*t+k) qO) htn hn qO qO qO qO qO qO qO qO qO n1 n2 n3 od.2.1 od.2.2 oe.2.1 oe.2.2 hm 6 0 z qO hz)
  have self:kH h6 gb rb z=h6:=by
   apply FH.ext; intro j
   rw [Zg8]
   by_cases e1:j=rb
   · rw [if_pos e1,e1]; exact a'.fr.symm
   · rw [if_neg e1]
     by_cases e2:j=gb
     · rw [if_pos e2,e2]; exact a'.fg.symm
     · rw [if_neg e2]
  rw [self] at he
  simp only [Int.ofNat_eq_natCast,Int.cast_ofNat_Int] at he
  have am:=a'.marks (z':=sKs E D t 6 0 z) n1 n2 n3 lg lr
  have hk:=ih (t+1) (c+1+1+1+1+1+1+1) _ _ _ _ (sKs E D t 6 0 z) qO qO (am.mono qO) (SB.ks E D t 6 0 hz)
  obtain ⟨KH,hKH⟩:∃ K,kH h6 gb rb (sKs E D t 6 0 z)=K:=⟨_,rfl⟩
  rw [hKH] at he hk
  obtain ⟨X1,hX1⟩:∃ X,(V.drop (4*t)).take 4=X:=⟨_,rfl⟩
  obtain ⟨X2,hX2⟩:∃ X,(E.drop (6*t)).take 6=X:=⟨_,rfl⟩
  obtain ⟨X3,hX3⟩:∃ X,(T.drop (4*t)).take 4=X:=⟨_,rfl⟩
  rw [hX1] at x1 y1 p2
  rw [hX2] at x2 y2 q2
  rw [hX3] at x3 y3 r2
  obtain ⟨ZV,hZV⟩:∃ Z,Value.slice (some ⟨vb,0,none⟩) (4*n) (4*n)=Z:=⟨_,rfl⟩
  obtain ⟨ZE,hZE⟩:∃ Z,Value.slice (some ⟨eb,0,none⟩) (6*n) (6*n)=Z:=⟨_,rfl⟩
  obtain ⟨ZT,hZT⟩:∃ Z,Value.slice (some ⟨tb,0,none⟩) (4*n) (4*n)=Z:=⟨_,rfl⟩
  obtain ⟨ZD,hZD⟩:∃ Z,Value.slice (some ⟨db,0,none⟩) (16*n) (16*n)=Z:=⟨_,rfl⟩
  rw [hZV] at s1 he hk ⊢
  rw [hZE] at s2 he hk ⊢
  rw [hZT] at s3 he hk ⊢
  rw [hZD] at he hk ⊢
  refine Ans.lpN rfl rfl (Z4P ..) ?_
  unfold Z4e
  have fx:=ai p1 (ai s1 (ai arr41 (ai arr64 (ai x1 (ai y1 (ai hb1 (ai hi1 (ai p2 (ai p3 (ai q1 (ai s2 (ai x2 (ai y2 (ai hb2 (ai hi2 (ai q2 (ai q3 (ai r1 (ai s3 (ai x3 (ai y3 (ai hb3 (ai hi3 (ai r2 (ai r3 (ai cp he))))))))))))))))))))))))))
  refine Ans.go ?_
  clear fx
  refine Ans.nextN (hk.mono ?_)
  rintro q ⟨z1,z2,z3,z4,z5⟩
  exact ⟨z1,z2,z3,by omega,z5⟩

theorem Zk0 (zs L:List Value) (n:Nat) (hz:zs.length=n) (hL:L.length=n):Zag zs [(0,n,.agg L.toArray)]=some L:=by
 have h1:Nat.beq (Value.agg L.toArray).cells.size n=true:=by simp [Value.cells,hL]
 have h2:Nat.ble n zs.length=true:=Nat.ble_eq_true_of_le qO
 have h3:(Value.agg L.toArray).cells.toList=L:=by simp [Value.cells]
 simp only [Zag,h1,Nat.zero_add,h2,Bool.and_self,cond_true,h3,Z0L,List.take_zero,List.nil_append,hL]
 rw [List.drop_of_length_le qO,List.append_nil]
def lkD (n:Nat) (Gl V D:List Int) (k:Nat):List Value:=Zm5 (rk (inC V k) (4*n)) (orB n Gl (inC V k)) (dZ n Gl D (inC V k))
def lkL (n:Nat) (Gl V D:List Int):Nat->List Value
 | 0=>[]
 | k+1=>lkL n Gl V D k++lkD n Gl V D k
theorem Z3H (n:Nat) (Gl V D:List Int) (k:Nat):(lkD n Gl V D k).length=6:=rfl
theorem Z9I (n:Nat) (Gl V D:List Int) (k:Nat):(lkD n Gl V D k).all Z09=true:=rfl
set_option maxHeartbeats 1000000 in
theorem ZhC (pb0 cb vb db sb n c1 cnt:Nat) (cs:List Value) (s f0 f1 f2 f3 f4:Value) (Gl V D:List Int) (h1:FH) (df:List Nat)
 (hc:Z0i h1 cb (s::cs)) (hs:SlI h1 c1 s 20 n Gl) (hok:Z15 Gl n=true) (hV:SlI h1 c1 (.slice (some ⟨vb,0,none⟩) (4*n) (4*n)) 1 (4*n) V) (hD:SlI h1 c1 (.slice (some ⟨db,0,none⟩) (16*n) (16*n)) 1 (16*n) D) (hn:n<=60)
 (lc:cb<256*c1) (lsb:sb<256*c1) (n1:cb ≠ sb) (n2:0<n->Z0x s ≠ sb) (n3:vb ≠ sb) (n4:db ≠ sb) (hcnt:cnt<=4*n) :
 ∀ (r k c:Nat) (H:FH) (lv:Value),k+r=cnt->c1<=c->H.f sb=some (.cells false none [f0,f1,f2,f3,f4,lv])->GrC c1 H c lv 6 k (lkL n Gl V D k)->(∀ j,j<256*c1->j ≠ sb->H.f j=h1.f j) →
 Ans (G (Z93 none) [ptrTo pb0,ptrTo cb,.slice (some ⟨vb,0,none⟩) (4*n) (4*n),.slice (some ⟨db,0,none⟩) (16*n) (16*n),ptrTo sb,.int .i64 cnt,.int .i64 k] H c df) fun q =>
  q.e = .exit 4/\q.vs=[ptrTo pb0,ptrTo cb,.slice (some ⟨vb,0,none⟩) (4*n) (4*n),.slice (some ⟨db,0,none⟩) (16*n) (16*n),ptrTo sb,.int .i64 cnt,.int .i64 cnt]/\q.df=df/\c<=q.c ∧
  ∃ lv,q.h.f sb=some (.cells false none [f0,f1,f2,f3,f4,lv])/\GrC c1 q.h q.c lv 6 cnt (lkL n Gl V D cnt)/\(∀ j,j<256*c1->j ≠ sb->q.h.f j=h1.f j):=by
 intro r
 induction r with
 | zero =>
  intro k c H lv hk hcc fs g base
  obtain rfl:k=cnt:=by omega
  refine Ans.lpN rfl rfl (Z4O ..) ?_
  unfold Z4d
  have fx:=True.intro
  refine Ans.go ?_
  clear fx
  exact Ans.exitN ⟨rfl,rfl,rfl,by dsimp only; omega,lv,fs,g.mono (by dsimp only; omega),base⟩
 | succ r ih =>
  intro k c H lv hk hcc fs g base
  have kl:(k:Int)<cnt:=by omega
  have hcl:(k:Int)<240:=by omega
  have hcH:Z0i H cb (s::cs):=by
   obtain ⟨ro,op,q⟩:=hc
   exact ⟨ro,op,(base cb lc n1).trans q⟩
  have hsH:SlI H c s 20 n Gl:=(hs.keep fun h0=>base _ (hs.blk h0) (n2 h0)).mono hcc
  have hVH:SlI H c (.slice (some ⟨vb,0,none⟩) (4*n) (4*n)) 1 (4*n) V:=(hV.keep fun h0=>base _ (hV.blk h0) n3).mono hcc
  have hDH:SlI H c (.slice (some ⟨db,0,none⟩) (16*n) (16*n)) 1 (16*n) D:=(hD.keep fun h0=>base _ (hD.blk h0) n4).mono hcc
  obtain ⟨r0,hr0,lb,mb,w,e0,l0,s0,li,lo,mo⟩:=Zlb cb cs (.slice (some ⟨vb,0,none⟩) (4*n) (4*n)) s n Gl V k H (c+1+1+1) [] hcH qO (hsH.mono qO) (hVH.mono qO) hn
  obtain ⟨K,hK⟩:∃ K,r0.h=K:=⟨_,rfl⟩
  obtain ⟨rc,hrc⟩:∃ c,r0.c=c:=⟨_,rfl⟩
  rw [hK,hrc] at e0 li
  rw [hrc] at l0
  rw [hK] at s0
  rw [e0] at hr0
  have c60:=Z08 hr0
  have lr:LR K rc lb mb s n Gl (inC V k):=by
   have q1:=li.lo
   have q2:=li.mo
   exact ⟨⟨w,⟨false,none,li.hf⟩,li.ls.sl⟩,li.mp,((hsH.mono (by omega:c<=c+1+1+1)).same s0).mono qO,by omega,by omega,hok,hn⟩
  have c65:=Z08 (Zc3 lb mb s _ n Gl D (inC V k) K rc [] lr (((hDH.mono (by omega:c<=c+1+1+1)).same s0).mono qO))
  rw [show Zm5 (rk (inC V k) (4*n)) (orB n Gl (inC V k)) (dZ n Gl D (inC V k))=lkD n Gl V D k from rfl] at c65
  have y1:=Zk0 [.int .i64 0,.int .i64 0,.int .i64 0,.int .i64 0,.bool false,.bool false] (lkD n Gl V D k) 6 rfl (Z3H _ _ _ _ _)
  have fsK:K.f sb=some (.cells false none [f0,f1,f2,f3,f4,lv]):=(s0 sb qO).trans fs
  have gK:GrC c1 K c lv 6 k (lkL n Gl V D k):=g.keep fun hv=>s0 _ (by have:=(g.blk hv).2; omega)
  obtain ⟨b,hb⟩:∃ b,256*(c+1+1)+8=b:=⟨_,rfl⟩
  obtain ⟨i,hi⟩:∃ b,256*(c+1+1)+9=b:=⟨_,rfl⟩
  obtain ⟨h2,h3,p1,p2,p3,p4,p5,p6⟩:=gK.step (c':=rc+1) (o:=5) fsK rfl lsb (lkD n Gl V D k) (Z3H _ _ _ _ _) (Z9I _ _ _ _ _) qO 40 b i qO qO qO qO qO qO
  have p0:ld1 H (.pointer (some ⟨sb,5,none⟩))=some lv:=by rw [Z02 ⟨false,none,fs⟩]; rfl
  have sm:Z1r (Z2y (.pointer (some ⟨sb,5,none⟩))) H K=true:=Z6Y (fun j hj=>by
   have:j=sb:=by simpa [Z2y] using hj.symm
   rw [this]; exact (s0 sb qO).symm)
  have hk':=ih (k+1) (rc+1) h3 _ qO qO p4 p5 (fun j hj hne=>(p6 j qO hne fun hv=>by have:=(gK.blk hv).1; omega).trans ((s0 j qO).trans (base j hj hne)))
  obtain ⟨X,hX⟩:∃ X,lkD n Gl V D k=X:=⟨_,rfl⟩
  rw [hX] at c65 y1 p2
  obtain ⟨ZV,hZV⟩:∃ Z,Value.slice (some ⟨vb,0,none⟩) (4*n) (4*n)=Z:=⟨_,rfl⟩
  obtain ⟨ZD,hZD⟩:∃ Z,Value.slice (some ⟨db,0,none⟩) (16*n) (16*n)=Z:=⟨_,rfl⟩
  rw [hZV] at c60 hk' ⊢
  rw [hZD] at c65 hk' ⊢
  refine Ans.lpN rfl rfl (Z4O ..) ?_
  unfold Z4d
  have fx:=ai kl (ai p0 (ai c60 (ai c65 (ai y1 (ai hb (ai hi (ai p2 (ai p3 (ai sm sameB_self)))))))))
  refine Ans.go ?_
  clear fx
  refine Ans.nextN (hk'.mono ?_)
  rintro q ⟨z1,z2,z3,z4,z5⟩
  exact ⟨z1,z2,z3,by omega,z5⟩

def vN (Gl:List Int) (n:Nat):List Int:=Zcv (vCs Gl n) (4*n)
def dN (Gl:List Int) (n:Nat):List Int:=Zcv (dCs Gl n) (16*n)
def eN (Gl:List Int) (n:Nat):List Int:=Zcv (eCs Gl n) (6*n)
def tN (Gl:List Int) (n:Nat):List Int:=Zcv (tCs Gl n) (4*n)
def nV (Gl:List Int) (n:Nat):Nat:=Z1d (vCs Gl n) (4*n)
def nE (Gl:List Int) (n:Nat):Nat:=Z1d (eCs Gl n) (6*n)
def skZ (Gl:List Int) (n:Nat):List Int × List Bool:=sTs (eN Gl n) (dN Gl n) n 0 (List.replicate (nE Gl n) 0,List.replicate (nE Gl n) false)
structure SkV (c0 c:Nat) (h:FH) (vv ev tv:Value) (gb rb:Nat) (lv:Value) (n:Nat) (Gl:List Int):Prop where
 gv:GrC c0 h c vv 4 n (ints (vN Gl n))
 ge:GrC c0 h c ev 6 n (ints (eN Gl n))
 gt:GrC c0 h c tv 4 n (ints (tN Gl n))
 fg:h.f gb=some (.cells false none (ints (skZ Gl n).1))
 fr:h.f rb=some (.cells false none (bools (skZ Gl n).2))
 gl:GrC c0 h c lv 6 (nV Gl n) (lkL n Gl (vN Gl n) (dN Gl n) (nV Gl n))
 b1:256*c0<=gb/\gb<256*c
 b2:256*c0<=rb/\rb<256*c
theorem eN_lt {Gl:List Int} {n:Nat} (hd:Z3y (eCs Gl n) (6*n)):∀ k,k<6*n->0<=(eN Gl n).getD k 0/\(eN Gl n).getD k 0<nE Gl n:=fun k hk=>by
 rw [eN,Z7w _ hk]
 have h1:=Z1w hd hk
 have:=Zbt (C:=eCs Gl n) (m:=6*n) (r:=Z06 (eCs Gl n) k) qO (Z1j hd hk)
 unfold nE
 omega
theorem Z9P {c0 c1:Nat} {h:FH} {c:Nat} {v:Value} {sz n:Nat} {L:List Value} (ha:GrC c1 h c v sz n L) (hc:c0<=c1):GrC c0 h c v sz n L:=by
 rcases ha with ha | ⟨a,b,d,x,i,e,f,g,k⟩
 · exact .inl ha
 · exact .inr ⟨a,b,d,x,i,e,by omega,g,k⟩
set_option maxHeartbeats 4000000 in
theorem Z7g (s:Value) (n:Nat) (Gl:List Int) (h:FH) (c:Nat) (df:List Nat) (hs:SlI h c s 20 n Gl) (hok:Z15 Gl n=true) (hn:n<=60) :
 Ans (G (.fn 39) [.agg #[s]] h c df) fun r=>∃ vv ev tv gb rb lv,r=⟨.ret,[.agg #[vv,ev,tv,.slice (some ⟨gb,0,none⟩) (nE Gl n) (nE Gl n),.slice (some ⟨rb,0,none⟩) (nE Gl n) (nE Gl n),lv]],r.h,r.c,[]⟩/\c<=r.c/\Z0p c h r.h/\SkV c r.c r.h vv ev tv gb rb lv n Gl:=by
 refine Ans.call' (fun r e=>f39_go e) ?_
 have Z3U:((Value.agg #[s]).cells.toList.all Z09)=true:=by simp [Value.cells,hs.flat]
 have Z4l:(Value.agg #[s]).cells.toList=[s]:=rfl
 unfold ZgO
 rw [Z3U,Z4l]
 simp only [cond_true,Nat.add_zero]
 obtain ⟨g0,hg0⟩:∃ b,256*c=b:=⟨_,rfl⟩
 obtain ⟨p0,hp0⟩:∃ b,256*c+1=b:=⟨_,rfl⟩
 obtain ⟨z6,hz6⟩:∃ z,[Value.slice none 0 0,Value.slice none 0 0,Value.slice none 0 0,Value.slice none 0 0,Value.slice none 0 0,Value.slice none 0 0]=z:=⟨_,rfl⟩
 have z6l:z6.length=6:=by rw [← hz6]; rfl
 rw [hp0,hg0,hz6]
 obtain ⟨M,hM⟩:∃ M,newB (newB h g0 [s]) p0 z6=M:=⟨_,rfl⟩
 rw [hM]
 have Mf:∀ j,M.f j=if j=p0 then some (.cells false none z6) else if j=g0 then some (.cells false none [s]) else h.f j:=fun j=>by rw [← hM,Z01,Z01]
 have sM:Z0p c h M:=fun j hj=>by rw [Mf,if_neg qO,if_neg qO]
 have l0:ldN M 1 (.pointer (some ⟨g0,0,none⟩))=some (.agg #[s]):=Z1k (cs:=[]) ⟨false,none,by show M.f g0=_; rw [Mf,if_neg qO,if_pos rfl]⟩
 obtain ⟨r0,hr0,cb,vb,db,eb,tb,V,D,E,T,e0,k0,s0,cl⟩:=Z5X s n Gl M (c+1+1) [] ((hs.same sM).mono qO) hok hn
 obtain ⟨K0,hK0⟩:∃ K,r0.h=K:=⟨_,rfl⟩
 obtain ⟨c0,hc0⟩:∃ c,r0.c=c:=⟨_,rfl⟩
 rw [hK0,hc0] at e0 cl
 rw [hc0] at k0
 rw [hK0] at s0
 rw [e0] at hr0
 have c40:=Z08 hr0
 obtain ⟨⟨t1,t2,t3,t4,t5⟩,t6,t7,t8,t9,t10⟩:=cl.bd
 have ec:=cl.e
 obtain ⟨o1,o2,o3,o4⟩:=ec.o
 obtain ⟨q1,q2,q3,q4,q5,q6⟩:=ec.q
 have u1:Uo K0 cb 1 vb (4*n) V:=⟨⟨_,ec.st,rfl⟩,cl.fv,o1,cl.jv.dn,by omega⟩
 obtain ⟨r1,hr1,V',ob1,e1,k1,a1,b1,f1,_,_,F1⟩:=Z23 cb 1 vb (4*n) (vCs Gl n) V K0 (c0+1) [] u1 cl.jv.1 cl.jv.2 qO qO
 obtain ⟨K1,hK1⟩:∃ K,r1.h=K:=⟨_,rfl⟩
 obtain ⟨c1,hc1⟩:∃ c,r1.c=c:=⟨_,rfl⟩
 rw [hK1,hc1] at e1
 rw [hc1] at k1 b1
 rw [hK1] at f1 F1
 rw [e1] at hr1
 have c41a:=Z08 hr1
 have u2:Uo K1 cb 2 db (16*n) D:=(Uo.mk ⟨_,ec.st,rfl⟩ cl.fd o2 cl.jd.dn qO:Uo K0 cb 2 db (16*n) D).keep (F1 cb qO o1) (F1 db qO (Ne.symm q1))
 obtain ⟨r2,hr2,D',ob2,e2,k2,a2,b2,f2,_,_,F2⟩:=Z23 cb 2 db (16*n) (dCs Gl n) D K1 (c1+1) [] u2 cl.jd.1 cl.jd.2 qO qO
 obtain ⟨K2,hK2⟩:∃ K,r2.h=K:=⟨_,rfl⟩
 obtain ⟨c2,hc2⟩:∃ c,r2.c=c:=⟨_,rfl⟩
 rw [hK2,hc2] at e2
 rw [hc2] at k2 b2
 rw [hK2] at f2 F2
 rw [e2] at hr2
 have c41b:=Z08 hr2
 have u3:Uo K2 cb 3 eb (6*n) E:=((Uo.mk ⟨_,ec.st,rfl⟩ cl.fe o3 cl.je.dn qO:Uo K0 cb 3 eb (6*n) E).keep (F1 cb qO o1) (F1 eb qO (Ne.symm q2))).keep (F2 cb qO o2) (F2 eb qO (Ne.symm q4))
 obtain ⟨r3,hr3,E',ob3,e3,k3,a3,b3,f3,_,_,F3⟩:=Z23 cb 3 eb (6*n) (eCs Gl n) E K2 (c2+1) [] u3 cl.je.1 cl.je.2 qO qO
 obtain ⟨K3,hK3⟩:∃ K,r3.h=K:=⟨_,rfl⟩
 obtain ⟨c3,hc3⟩:∃ c,r3.c=c:=⟨_,rfl⟩
 rw [hK3,hc3] at e3
 rw [hc3] at k3 b3
 rw [hK3] at f3 F3
 rw [e3] at hr3
 have c41c:=Z08 hr3
 have u4:Uo K3 cb 4 tb (4*n) T:=(((Uo.mk ⟨_,ec.st,rfl⟩ cl.ft o4 cl.jt.dn qO:Uo K0 cb 4 tb (4*n) T).keep (F1 cb qO o1) (F1 tb qO (Ne.symm q3))).keep (F2 cb qO o2) (F2 tb qO (Ne.symm q5))).keep (F3 cb qO o3) (F3 tb qO (Ne.symm q6))
 obtain ⟨r4,hr4,T',ob4,e4,k4,a4,b4,f4,_,_,F4⟩:=Z23 cb 4 tb (4*n) (tCs Gl n) T K3 (c3+1) [] u4 cl.jt.1 cl.jt.2 qO qO
 obtain ⟨K4,hK4⟩:∃ K,r4.h=K:=⟨_,rfl⟩
 obtain ⟨c4,hc4⟩:∃ c,r4.c=c:=⟨_,rfl⟩
 rw [hK4,hc4] at e4
 rw [hc4] at k4 b4
 rw [hK4] at f4 F4
 rw [e4] at hr4
 have c41d:=Z08 hr4
 have G4:∀ j,j<256*(c+1+1)->K4.f j=M.f j:=fun j hj=>by
  rw [F4 j qO qO,F3 j qO qO,F2 j qO qO,F1 j qO qO,s0 j hj]
 have v4:K4.f ob1=some (.cells false none (ints (vN Gl n))):=by rw [F4 ob1 qO qO,F3 ob1 qO qO,F2 ob1 qO qO]; exact f1
 have d4:K4.f ob2=some (.cells false none (ints (dN Gl n))):=by rw [F4 ob2 qO qO,F3 ob2 qO qO]; exact f2
 have ee4:K4.f ob3=some (.cells false none (ints (eN Gl n))):=by rw [F4 ob3 qO qO]; exact f3
 have tt4:K4.f ob4=some (.cells false none (ints (tN Gl n))):=f4
 have cb4:K4.f cb=K0.f cb:=by rw [F4 cb qO o4,F3 cb qO o3,F2 cb qO o2,F1 cb qO o1]
 have hmE:nE Gl n<=6*n:=Z2l _ _
 have hmV:nV Gl n<=4*n:=Z2l _ _
 obtain ⟨m,hm⟩:∃ m,nE Gl n=m:=⟨_,rfl⟩
 obtain ⟨cnt,hcnt⟩:∃ m,nV Gl n=m:=⟨_,rfl⟩
 rw [hm] at hmE
 rw [hcnt] at hmV
 rw [show Z1d (vCs Gl n) (4*n)=cnt from hcnt] at c41a
 rw [show Z1d (eCs Gl n) (6*n)=m from hm] at c41c
 have mk1:=Z9F 1 8 .i64 .i64 m qO qO
 have mk2:=ZhX 1 1 .i64 .i64 m qO qO
 obtain ⟨gb,hgb⟩:∃ b,256*c4+1=b:=⟨_,rfl⟩
 obtain ⟨rb,hrb⟩:∃ b,256*c4+3=b:=⟨_,rfl⟩
 obtain ⟨sb,hsb⟩:∃ b,256*c4+5=b:=⟨_,rfl⟩
 obtain ⟨SG,hSG⟩:∃ S,Value.slice (some ⟨gb,0,none⟩) m m=S:=⟨_,rfl⟩
 obtain ⟨SR,hSR⟩:∃ S,Value.slice (some ⟨rb,0,none⟩) m m=S:=⟨_,rfl⟩
 have bv:Z1M z6 [(3,1,SG),(4,1,SR)]=some (.agg [.slice none 0 0,.slice none 0 0,.slice none 0 0,SG,SR,.slice none 0 0].toArray):=by rw [← hz6,← hSG,← hSR]; rfl
 obtain ⟨K5,hK5⟩:∃ K,newB (newB K4 gb (ints (List.replicate m 0))) rb (bools (List.replicate m false))=K:=⟨_,rfl⟩
 have st8:stN (newB K5 sb z6) 6 (.pointer (some ⟨sb,0,none⟩)) (.agg [.slice none 0 0,.slice none 0 0,.slice none 0 0,SG,SR,.slice none 0 0].toArray)=some (newB K5 sb [.slice none 0 0,.slice none 0 0,.slice none 0 0,SG,SR,.slice none 0 0]):=by
  rw [Z0j _ 6 _ 0 _ _ (by simp [Value.cells]) qO (by rw [← hSG,← hSR]; rfl),← hz6]; rfl
 obtain ⟨H8,hH8⟩:∃ H,newB K5 sb [.slice none 0 0,.slice none 0 0,.slice none 0 0,SG,SR,.slice none 0 0]=H:=⟨_,rfl⟩
 rw [hH8] at st8
 have H8f:∀ j,H8.f j=if j=sb then some (.cells false none [.slice none 0 0,.slice none 0 0,.slice none 0 0,SG,SR,.slice none 0 0]) else if j=rb then some (.cells false none (bools (List.replicate m false))) else if j=gb then some (.cells false none (ints (List.replicate m 0))) else K4.f j:=fun j=>by
  rw [← hH8,Z01,← hK5,Z01,Z01]
 have G8:∀ j,j<256*c4->H8.f j=K4.f j:=fun j hj=>by rw [H8f,if_neg qO,if_neg qO,if_neg qO]
 have ls8:ld1 H8 (.pointer (some ⟨g0,0,none⟩))=some s:=by
  rw [Z02 (cs:=[s]) ⟨false,none,by show H8.f g0=_; rw [G8 _ qO,G4 _ qO,Mf,if_neg qO,if_pos rfl]⟩]; rfl
 have len:=hs.len
 have sk0:SkI (c4+1) (c4+1+1) sb gb rb m 0 H8 H8 (.slice none 0 0) (.slice none 0 0) (.slice none 0 0) (.slice none 0 0) (vN Gl n) (eN Gl n) (tN Gl n) (List.replicate m 0,List.replicate m false):=by
  refine ⟨by rw [H8f,if_pos rfl,hSG,hSR],.inl ⟨rfl,rfl,rfl⟩,.inl ⟨rfl,rfl,rfl⟩,.inl ⟨rfl,rfl,rfl⟩,(fun h=>absurd rfl h),(fun h=>absurd rfl h),(fun h=>absurd rfl h), ?_, ?_,fun _ _ _ _ _=>rfl⟩
  · rw [H8f,if_neg qO,if_neg qO,if_pos rfl]
  · rw [H8f,if_neg qO,if_pos rfl]
 have eLt:=eN_lt (Gl:=Gl) (n:=n) cl.je.2
 rw [hm] at eLt
 have sb0:SB m (List.replicate m 0,List.replicate m false) (6*0):=⟨by simp,by simp,fun x=>by
  have:(List.replicate m (0:Int)).getD x 0=0:=by rw [List.getD_eq_getElem?_getD,List.getElem?_replicate]; split <;> rfl
  rw [this]; omega⟩
 obtain ⟨⟨e9',vs9,H9,c9,df9⟩,ex9,x1,x2,x3,x4,vv,ev,tv,sk⟩:=ZkN p0 cb ob1 ob2 ob3 ob4 sb gb rb n m (c4+1) (cnt:Int) (vN Gl n) (dN Gl n) (eN Gl n) (tN Gl n) (.slice none 0 0) H8 [] (by rw [G8 _ qO]; exact v4) (by rw [G8 _ qO]; exact d4) (by rw [G8 _ qO]; exact ee4) (by rw [G8 _ qO]; exact tt4) (Z0E _ _) (Z0E _ _) (Z0E _ _) (Z0E _ _) eLt hn qO qO qO qO qO qO qO qO qO qO qO qO qO qO qO qO qO n 0 (c4+1+1) H8 _ _ _ _ qO qO sk0 sb0
 dsimp only at x1 x2 x3 x4 sk
 subst x1 x2 x3
 simp only [Int.ofNat_eq_natCast,Int.cast_ofNat_Int] at ex9
 have hz:sTs (eN Gl n) (dN Gl n) n 0 (List.replicate m 0,List.replicate m false)=skZ Gl n:=by rw [skZ,hm]
 rw [hz] at sk
 have G9:∀ j,j<256*c4->H9.f j=K4.f j:=fun j hj=>by rw [sk.base j qO qO qO qO,G8 j hj]
 have sm9:Z0p c h H9:=fun j hj=>by rw [G9 j qO,G4 j qO]; exact sM j hj
 have own:∀ (b k:Nat) (L:List Int),H9.f b=some (.cells false none (ints L))->b<256*(c9+1)->L.length=k->k<=9223372036854775807->SlI H9 (c9+1) (.slice (some ⟨b,0,none⟩) k k) 1 k L:=fun b k L hf hb hL hk=>by
  refine ⟨by omega,hk,some ⟨b,0,none⟩,k,rfl,.inr ⟨b,0,ints L,rfl,hb,⟨false,none,hf⟩, ?_⟩⟩
  rw [List.drop_zero,List.take_of_length_le (by simp [hL])]
 have hcb9:Z0i H9 cb [s,.slice (some ⟨vb,0,none⟩) (4*n) (4*n),.slice (some ⟨db,0,none⟩) (16*n) (16*n),.slice (some ⟨eb,0,none⟩) (6*n) (6*n),.slice (some ⟨tb,0,none⟩) (4*n) (4*n)]:=by
  obtain ⟨ro,op,q⟩:=ec.st
  exact ⟨ro,op,by show H9.f cb=_; rw [G9 cb qO,cb4]; exact q⟩
 obtain ⟨⟨e10',vs10,H10,c10,df10⟩,ex10,y1,y2,y3,y4,lv,y5,y6,y7⟩:=ZhC p0 cb ob1 ob2 sb n (c9+1) cnt _ s vv ev tv SG SR Gl (vN Gl n) (dN Gl n) H9 [] hcb9 ((hs.same sm9).mono qO) hok (own ob1 (4*n) _ (by rw [G9 _ qO]; exact v4) qO (Z0E _ _) qO) (own ob2 (16*n) _ (by rw [G9 _ qO]; exact d4) qO (Z0E _ _) qO) hn qO qO qO (fun h0=>by have:=hs.blk h0; omega) qO qO hmV cnt 0 (c9+1) H9 (.slice none 0 0) qO (Nat.le_refl _) (by rw [← hSG,← hSR]; exact sk.fs) (.inl ⟨rfl,rfl,rfl⟩) (fun _ _ _=>rfl)
 dsimp only at y1 y2 y3 y4 y5 y6 y7
 subst y1 y2 y3
 simp only [Int.ofNat_eq_natCast,Int.cast_ofNat_Int] at ex10
 obtain ⟨R,hR⟩:∃ R,[vv,ev,tv,SG,SR,lv]=R:=⟨_,rfl⟩
 have R6:R.length=6:=by rw [← hR]; rfl
 have Rf:R.all Z09=true:=by
  rw [← hR,← hSG,← hSR]
  simp only [List.all_cons,List.all_nil,sk.gv.flat.1,sk.ge.flat.1,sk.gt.flat.1,y6.flat.1,Bool.and_true,Bool.true_and]
  rfl
 rw [hR] at y5
 have l10:ldN H10 6 (.pointer (some ⟨sb,0,none⟩))=some (.agg R.toArray):=by
  rw [ldN_holds (cs:=R) ⟨false,none,y5⟩ qO,List.drop_zero,List.take_of_length_le qO]
 have fp:H10.f p0=some (.cells false none z6):=by rw [y7 p0 qO qO,G9 _ qO,G4 _ qO,Mf,if_pos rfl]
 have e10:newB H10 p0 z6=H10:=by
  apply FH.ext; intro k
  rw [Z01]; split
  · rename_i e; rw [e,fp]
  · rfl
 have w10:stN H10 6 (.pointer (some ⟨p0,0,none⟩)) (.agg R.toArray)=some (newB H10 p0 R):=by
  have:=Z0j H10 6 p0 0 z6 (.agg R.toArray) (by simp [Value.cells,R6]) qO (by simpa [Value.cells] using Rf)
  rw [e10] at this
  rw [this]
  simp [Z0L,Value.cells,R6,List.drop_of_length_le (show z6.length<=6 by omega)]
 have l11:ldN (newB H10 p0 R) 6 (.pointer (some ⟨p0,0,none⟩))=some (.agg R.toArray):=by
  rw [ldN_newB_same _ _ _ _ _ qO,List.drop_zero,List.take_of_length_le qO]
 obtain ⟨H11,hH11⟩:∃ H,newB H10 p0 R=H:=⟨_,rfl⟩
 rw [hH11] at w10 l11
 have H11f:∀ j,j ≠ p0->H11.f j=H10.f j:=fun j hj=>by rw [← hH11,Z01,if_neg hj]
 obtain ⟨Z1,hZ1⟩:∃ Z,Value.slice (some ⟨ob1,0,none⟩) (4*n) (4*n)=Z:=⟨_,rfl⟩
 obtain ⟨Z2,hZ2⟩:∃ Z,Value.slice (some ⟨ob2,0,none⟩) (16*n) (16*n)=Z:=⟨_,rfl⟩
 obtain ⟨Z3,hZ3⟩:∃ Z,Value.slice (some ⟨ob3,0,none⟩) (6*n) (6*n)=Z:=⟨_,rfl⟩
 obtain ⟨Z4,hZ4⟩:∃ Z,Value.slice (some ⟨ob4,0,none⟩) (4*n) (4*n)=Z:=⟨_,rfl⟩
 rw [hZ1] at c41a ex9 ex10
 rw [hZ2] at c41b ex9 ex10
 rw [hZ3] at c41c ex9
 rw [hZ4] at c41d ex9
 obtain ⟨d2n,hd2n⟩:∃ d,Z1d (dCs Gl n) (16*n)=d:=⟨_,rfl⟩
 obtain ⟨t2n,ht2n⟩:∃ d,Z1d (tCs Gl n) (4*n)=d:=⟨_,rfl⟩
 rw [hd2n] at c41b
 rw [ht2n] at c41d
 have xv0:∀ a b:Value,Z3K (.tuple #[a,b]) 0=some a:=fun _ _=>rfl
 have xv1:∀ a b:Value,Z3K (.tuple #[a,b]) 1=some b:=fun _ _=>rfl
 have fx:=ai l0 (ai c40 (ai c41a (ai c41b (ai c41c (ai c41d (ai xv0 (ai xv1 (ai mk1 (ai mk2 (ai hgb (ai hrb (ai hsb (ai hSG (ai hSR (ai bv (ai hK5 (ai st8 (ai ls8 (ai len (ai ex9 (ai ex10 (ai l10 (ai w10 l11)))))))))))))))))))))))
 refine Ans.go ?_
 clear fx
 have keep:∀ {v:Value} {sz k:Nat} {L:List Value},GrC (c4+1) H9 c9 v sz k L->GrC c H11 (c10+1) v sz k L:=fun {v sz k L} g =>
  Z9P ((g.keep (h':=H11) fun hv=>by
   have:=g.blk hv
   rw [H11f _ qO,y7 _ qO qO]).mono (c':=c10+1) qO) qO
 have tv4:(vN Gl n).take (4*n)=vN Gl n:=List.take_of_length_le (by rw [vN,Z0E]; exact Nat.le_refl _)
 have te6:(eN Gl n).take (6*n)=eN Gl n:=List.take_of_length_le (by rw [eN,Z0E]; exact Nat.le_refl _)
 have tt4':(tN Gl n).take (4*n)=tN Gl n:=List.take_of_length_le (by rw [tN,Z0E]; exact Nat.le_refl _)
 have g1:=keep sk.gv
 have g2:=keep sk.ge
 have g3:=keep sk.gt
 rw [tv4] at g1
 rw [te6] at g2
 rw [tt4'] at g3
 refine .done ⟨vv,ev,tv,gb,rb,lv,by rw [hm,hSG,hSR,← hR],by dsimp only; omega,fun j hj=>?_,⟨g1,g2,g3, ?_, ?_, ?_,⟨by omega,by dsimp only; omega⟩,⟨by omega,by dsimp only; omega⟩⟩⟩
 · show H11.f j=h.f j
   rw [H11f j qO,y7 j qO qO]
   exact sm9 j hj
 · show H11.f gb=_
   rw [H11f _ qO,y7 _ qO qO]
   exact sk.fg
 · show H11.f rb=_
   rw [H11f _ qO,y7 _ qO qO]
   exact sk.fr
 · rw [hcnt]
   exact Z9P ((y6.keep (h':=H11) fun hv=>by
    have:=y6.blk hv
    rw [H11f _ qO]).mono (c':=c10+1) qO) qO

def Z5H:List Value:=[.slice none 0 0,.slice none 0 0,.slice none 0 0,.slice none 0 0,.slice none 0 0,.slice none 0 0]
theorem ZhV:Z5H.length=6:=rfl
theorem Z9u {h:FH} {b n:Nat} {z L:List Value} (hf:h.f b=some (.cells false none z)) (hz:z.length=n) (hL:L.length=n) (hLf:L.all Z09=true):stN h n (.pointer (some ⟨b,0,none⟩)) (.agg L.toArray)=some (newB h b L):=by
 have e:newB h b z=h:=by
  apply FH.ext; intro k
  rw [Z01]; split
  · rename_i e; rw [e,hf]
  · rfl
 have:=Z0j h n b 0 z (.agg L.toArray) (by simp [Value.cells,hL]) qO (by simpa [Value.cells] using hLf)
 rw [e] at this
 rw [this]
 simp [Z0L,Value.cells,hL,List.drop_of_length_le (show z.length<=n by omega)]
theorem Z58 {h:FH} {b n:Nat} {L:List Value} (hf:h.f b=some (.cells false none L)) (hL:L.length=n):ldN h n (.pointer (some ⟨b,0,none⟩))=some (.agg L.toArray):=by
 rw [ldN_holds (cs:=L) ⟨false,none,hf⟩ qO,List.drop_zero,List.take_of_length_le qO]
theorem of_bad (s:Value) (n:Nat) (Gl:List Int) (h:FH) (c:Nat) (df:List Nat) (hs:SlI h c s 20 n Gl) (hok:¬ (n<=1000/\Z15 Gl n=true)) :
 Ans (G (.fn 11) [.agg #[s]] h c df) fun r=>r=⟨.ret,[.tuple #[.agg Z5H.toArray,.int .i64 7]],r.h,r.c,[]⟩/\c<=r.c/\Z0p c h r.h:=by
 refine Ans.call' (fun r e=>Zkq e) ?_
 have Z3U:((Value.agg #[s]).cells.toList.all Z09)=true:=by simp [Value.cells,hs.flat]
 have Z4l:(Value.agg #[s]).cells.toList=[s]:=rfl
 unfold ZeV
 rw [Z3U,Z4l]
 simp only [cond_true,Nat.add_zero]
 obtain ⟨g0,hg0⟩:∃ b,256*c=b:=⟨_,rfl⟩
 obtain ⟨p0,hp0⟩:∃ b,256*c+1=b:=⟨_,rfl⟩
 obtain ⟨M,hM⟩:∃ M,newB (newB h g0 [s]) p0 Z5H=M:=⟨_,rfl⟩
 rw [hp0,hg0,show [Value.slice none 0 0,Value.slice none 0 0,Value.slice none 0 0,Value.slice none 0 0,Value.slice none 0 0,Value.slice none 0 0]=Z5H from rfl,hM]
 have Mf:∀ j,M.f j=if j=p0 then some (.cells false none Z5H) else if j=g0 then some (.cells false none [s]) else h.f j:=fun j=>by rw [← hM,Z01,Z01]
 have sM:Z0p c h M:=fun j hj=>by rw [Mf,if_neg qO,if_neg qO]
 have l0:ldN M 1 (.pointer (some ⟨g0,0,none⟩))=some (.agg #[s]):=Z1k (cs:=[]) ⟨false,none,by show M.f g0=_; rw [Mf,if_neg qO,if_pos rfl]⟩
 have ck:=Z08 (Z73 s n Gl M (c+1+1) [] ((hs.same sM).mono qO))
 rw [if_neg hok] at ck
 have b6:Z1M Z5H []=some (.agg Z5H.toArray):=rfl
 have fp:M.f p0=some (.cells false none Z5H):=by rw [Mf,if_pos rfl]
 have w1:stN M 6 (.pointer (some ⟨p0,0,none⟩)) (.agg Z5H.toArray)=some (newB M p0 Z5H):=Z9u fp rfl rfl rfl
 have l1:ldN (newB M p0 Z5H) 6 (.pointer (some ⟨p0,0,none⟩))=some (.agg Z5H.toArray):=Z58 (by rw [Z01,if_pos rfl]) rfl
 obtain ⟨N6,hN6⟩:∃ N,Z5H=N:=⟨_,rfl⟩
 rw [hN6] at b6 w1 l1 ⊢
 obtain ⟨H,hH⟩:∃ H,newB M p0 N6=H:=⟨_,rfl⟩
 rw [hH] at w1 l1
 have fx:=ai l0 (ai ck (ai b6 (ai w1 l1)))
 refine Ans.go ?_
 clear fx
 refine .done ⟨rfl,by dsimp only; omega,fun j hj=>?_⟩
 show H.f j=h.f j
 rw [← hH,Z01,if_neg qO]
 exact sM j hj
theorem of_ok (s:Value) (n:Nat) (Gl:List Int) (h:FH) (c:Nat) (df:List Nat) (hs:SlI h c s 20 n Gl) (hok:Z15 Gl n=true) (hn:n<=60) :
 Ans (G (.fn 11) [.agg #[s]] h c df) fun r=>∃ vv ev tv gb rb lv,r=⟨.ret,[.tuple #[.agg #[vv,ev,tv,.slice (some ⟨gb,0,none⟩) (nE Gl n) (nE Gl n),.slice (some ⟨rb,0,none⟩) (nE Gl n) (nE Gl n),lv],.int .i64 0]],r.h,r.c,[]⟩/\c<=r.c/\Z0p c h r.h/\SkV c r.c r.h vv ev tv gb rb lv n Gl:=by
 refine Ans.call' (fun r e=>Zkq e) ?_
 have Z3U:((Value.agg #[s]).cells.toList.all Z09)=true:=by simp [Value.cells,hs.flat]
 have Z4l:(Value.agg #[s]).cells.toList=[s]:=rfl
 unfold ZeV
 rw [Z3U,Z4l]
 simp only [cond_true,Nat.add_zero]
 obtain ⟨g0,hg0⟩:∃ b,256*c=b:=⟨_,rfl⟩
 obtain ⟨p0,hp0⟩:∃ b,256*c+1=b:=⟨_,rfl⟩
 obtain ⟨M,hM⟩:∃ M,newB (newB h g0 [s]) p0 Z5H=M:=⟨_,rfl⟩
 rw [hp0,hg0,show [Value.slice none 0 0,Value.slice none 0 0,Value.slice none 0 0,Value.slice none 0 0,Value.slice none 0 0,Value.slice none 0 0]=Z5H from rfl,hM]
 have Mf:∀ j,M.f j=if j=p0 then some (.cells false none Z5H) else if j=g0 then some (.cells false none [s]) else h.f j:=fun j=>by rw [← hM,Z01,Z01]
 have sM:Z0p c h M:=fun j hj=>by rw [Mf,if_neg qO,if_neg qO]
 have l0:ldN M 1 (.pointer (some ⟨g0,0,none⟩))=some (.agg #[s]):=Z1k (cs:=[]) ⟨false,none,by show M.f g0=_; rw [Mf,if_neg qO,if_pos rfl]⟩
 have ck:=Z08 (Z73 s n Gl M (c+1+1) [] ((hs.same sM).mono qO))
 rw [if_pos ⟨by omega,hok⟩] at ck
 obtain ⟨r0,hr0,vv,ev,tv,gb,rb,lv,e0,k0,s0,sk⟩:=Z7g s n Gl M (c+1+1+1) [] ((hs.same sM).mono qO) hok hn
 obtain ⟨K,hK⟩:∃ K,r0.h=K:=⟨_,rfl⟩
 obtain ⟨k,hk⟩:∃ c,r0.c=c:=⟨_,rfl⟩
 rw [hK,hk] at e0 sk
 rw [hk] at k0
 rw [hK] at s0
 rw [e0] at hr0
 have c39:=Z08 hr0
 have fp:K.f p0=some (.cells false none Z5H):=by rw [s0 p0 qO,Mf,if_pos rfl]
 obtain ⟨R,hR⟩:∃ R,[vv,ev,tv,.slice (some ⟨gb,0,none⟩) (nE Gl n) (nE Gl n),.slice (some ⟨rb,0,none⟩) (nE Gl n) (nE Gl n),lv]=R:=⟨_,rfl⟩
 have hR':Value.agg #[vv,ev,tv,.slice (some ⟨gb,0,none⟩) (nE Gl n) (nE Gl n),.slice (some ⟨rb,0,none⟩) (nE Gl n) (nE Gl n),lv] = .agg R.toArray:=by rw [← hR]
 have R6:R.length=6:=by rw [← hR]; rfl
 have Rf:R.all Z09=true:=by
  rw [← hR]
  simp only [List.all_cons,List.all_nil,sk.gv.flat.1,sk.ge.flat.1,sk.gt.flat.1,sk.gl.flat.1,Bool.and_true,Bool.true_and]
  rfl
 rw [hR'] at c39
 have w1:stN K 6 (.pointer (some ⟨p0,0,none⟩)) (.agg R.toArray)=some (newB K p0 R):=Z9u fp rfl R6 Rf
 have l1:ldN (newB K p0 R) 6 (.pointer (some ⟨p0,0,none⟩))=some (.agg R.toArray):=Z58 (by rw [Z01,if_pos rfl]) R6
 obtain ⟨H,hH⟩:∃ H,newB K p0 R=H:=⟨_,rfl⟩
 rw [hH] at w1 l1
 have Hf:∀ j,j ≠ p0->H.f j=K.f j:=fun j hj=>by rw [← hH,Z01,if_neg hj]
 have fx:=ai l0 (ai ck (ai c39 (ai w1 l1)))
 refine Ans.go ?_
 clear fx
 have kp:∀ {v:Value} {sz k':Nat} {L:List Value},GrC (c+1+1+1) K k v sz k' L->GrC c H k v sz k' L:=fun {v sz k' L} g =>
  Z9P (g.keep (h':=H) fun hv=>Hf _ (by have:=g.blk hv; omega)) qO
 refine .done ⟨vv,ev,tv,gb,rb,lv,by rw [hR'],by dsimp only; omega,fun j hj=>?_,⟨kp sk.gv,kp sk.ge,kp sk.gt, ?_, ?_,kp sk.gl,⟨by have:=sk.b1; omega,sk.b1.2⟩,⟨by have:=sk.b2; omega,sk.b2.2⟩⟩⟩
 · show H.f j=h.f j
   rw [Hf j qO,s0 j qO]
   exact sM j hj
 · show H.f gb=_
   rw [Hf _ (by have:=sk.b1; omega)]; exact sk.fg
 · show H.f rb=_
   rw [Hf _ (by have:=sk.b2; omega)]; exact sk.fr
def Zho (Gl:List Int) (n:Nat):Int:=(nV Gl n:Int)-nE Gl n+Z1d (tCs Gl n) (4*n)-n
set_option maxHeartbeats 1000000 in
theorem ZdW (s:Value) (n:Nat) (Gl:List Int) (h:FH) (c:Nat) (df:List Nat) (hs:SlI h c s 20 n Gl) (hn:n<=60) :
 G (.fn 12) [.agg #[s]] h c df=some ⟨.ret,[.tuple #[.int .i64 (if Z15 Gl n=true then Zho Gl n else 0),.int .i64 (if Z15 Gl n=true then 0 else 7)]],h,c,[]⟩:=by
 refine Z14 (fun r e=>f12_go e) (OkV.tup2 _ _ _ _ _) ?_
 have Z3U:((Value.agg #[s]).cells.toList.all Z09)=true:=by simp [Value.cells,hs.flat]
 have Z4l:(Value.agg #[s]).cells.toList=[s]:=rfl
 unfold ZlC
 rw [Z3U,Z4l]
 simp only [cond_true,Nat.add_zero]
 obtain ⟨g0,hg0⟩:∃ b,256*c=b:=⟨_,rfl⟩
 obtain ⟨M,hM⟩:∃ M,newB h g0 [s]=M:=⟨_,rfl⟩
 rw [hg0,hM]
 have Mf:∀ j,M.f j=if j=g0 then some (.cells false none [s]) else h.f j:=fun j=>by rw [← hM,Z01]
 have sM:Z0p c h M:=fun j hj=>by rw [Mf,if_neg qO]
 have l0:ldN M 1 (.pointer (some ⟨g0,0,none⟩))=some (.agg #[s]):=Z1k (cs:=[]) ⟨false,none,by show M.f g0=_; rw [Mf,if_pos rfl]⟩
 have ck:=Z08 (Z73 s n Gl M (c+1+1) [] ((hs.same sM).mono qO))
 by_cases hok:Z15 Gl n=true
 · rw [if_pos ⟨by omega,hok⟩] at ck
   rw [if_pos hok,if_pos hok]
   obtain ⟨r0,hr0,cb,vb,db,eb,tb,V,D,E,T,e0,k0,s0,cl⟩:=Z5X s n Gl M (c+1+1+1) [] ((hs.same sM).mono qO) hok hn
   obtain ⟨K0,hK0⟩:∃ K,r0.h=K:=⟨_,rfl⟩
   obtain ⟨c0,hc0⟩:∃ c,r0.c=c:=⟨_,rfl⟩
   rw [hK0,hc0] at e0 cl
   rw [hc0] at k0
   rw [hK0] at s0
   rw [e0] at hr0
   have c40:=Z08 hr0
   obtain ⟨⟨t1,t2,t3,t4,t5⟩,t6,t7,t8,t9,t10⟩:=cl.bd
   have ec:=cl.e
   obtain ⟨o1,o2,o3,o4⟩:=ec.o
   obtain ⟨q1,q2,q3,q4,q5,q6⟩:=ec.q
   have u1:Uo K0 cb 1 vb (4*n) V:=⟨⟨_,ec.st,rfl⟩,cl.fv,o1,cl.jv.dn,by omega⟩
   obtain ⟨r1,hr1,V',ob1,e1,k1,a1,b1,f1,_,_,F1⟩:=Z23 cb 1 vb (4*n) (vCs Gl n) V K0 (c0+1) [] u1 cl.jv.1 cl.jv.2 qO qO
   obtain ⟨K1,hK1⟩:∃ K,r1.h=K:=⟨_,rfl⟩
   obtain ⟨c1,hc1⟩:∃ c,r1.c=c:=⟨_,rfl⟩
   rw [hK1,hc1] at e1
   rw [hc1] at k1 b1
   rw [hK1] at f1 F1
   rw [e1] at hr1
   have c41a:=Z08 hr1
   have u3:Uo K1 cb 3 eb (6*n) E:=(Uo.mk ⟨_,ec.st,rfl⟩ cl.fe o3 cl.je.dn qO:Uo K0 cb 3 eb (6*n) E).keep (F1 cb qO o1) (F1 eb qO (Ne.symm q2))
   obtain ⟨r3,hr3,E',ob3,e3,k3,a3,b3,f3,_,_,F3⟩:=Z23 cb 3 eb (6*n) (eCs Gl n) E K1 (c1+1) [] u3 cl.je.1 cl.je.2 qO qO
   obtain ⟨K3,hK3⟩:∃ K,r3.h=K:=⟨_,rfl⟩
   obtain ⟨c3,hc3⟩:∃ c,r3.c=c:=⟨_,rfl⟩
   rw [hK3,hc3] at e3
   rw [hc3] at k3 b3
   rw [hK3] at f3 F3
   rw [e3] at hr3
   have c41c:=Z08 hr3
   have u4:Uo K3 cb 4 tb (4*n) T:=((Uo.mk ⟨_,ec.st,rfl⟩ cl.ft o4 cl.jt.dn qO:Uo K0 cb 4 tb (4*n) T).keep (F1 cb qO o1) (F1 tb qO (Ne.symm q3))).keep (F3 cb qO o3) (F3 tb qO (Ne.symm q6))
   obtain ⟨r4,hr4,T',ob4,e4,k4,a4,b4,f4,_,_,F4⟩:=Z23 cb 4 tb (4*n) (tCs Gl n) T K3 (c3+1) [] u4 cl.jt.1 cl.jt.2 qO qO
   obtain ⟨K4,hK4⟩:∃ K,r4.h=K:=⟨_,rfl⟩
   obtain ⟨c4,hc4⟩:∃ c,r4.c=c:=⟨_,rfl⟩
   rw [hK4,hc4] at e4
   rw [hc4] at k4 b4
   rw [hK4] at f4 F4
   rw [e4] at hr4
   have c41d:=Z08 hr4
   have G4:∀ j,j<256*(c+1+1)->K4.f j=M.f j:=fun j hj=>by
    rw [F4 j qO qO,F3 j qO qO,F1 j qO qO,s0 j qO]
   have h1:Z1d (vCs Gl n) (4*n)<=4*n:=Z2l _ _
   have h2:Z1d (eCs Gl n) (6*n)<=6*n:=Z2l _ _
   have h3:Z1d (tCs Gl n) (4*n)<=4*n:=Z2l _ _
   have he:Zho Gl n=(Z1d (vCs Gl n) (4*n):Int)-Z1d (eCs Gl n) (6*n)+Z1d (tCs Gl n) (4*n)-n:=rfl
   rw [he]
   obtain ⟨x,hx⟩:∃ m,Z1d (vCs Gl n) (4*n)=m:=⟨_,rfl⟩
   obtain ⟨y,hy⟩:∃ m,Z1d (eCs Gl n) (6*n)=m:=⟨_,rfl⟩
   obtain ⟨z,hz⟩:∃ m,Z1d (tCs Gl n) (4*n)=m:=⟨_,rfl⟩
   rw [hx] at c41a h1 ⊢
   rw [hy] at c41c h2 ⊢
   rw [hz] at c41d h3 ⊢
   have ls8:ld1 K4 (.pointer (some ⟨g0,0,none⟩))=some s:=by
    rw [Z02 (cs:=[s]) ⟨false,none,by show K4.f g0=_; rw [G4 _ qO,Mf,if_pos rfl]⟩]; rfl
   have len:=hs.len
   have xv0:∀ a b:Value,Z3K (.tuple #[a,b]) 0=some a:=fun _ _=>rfl
   have xv1:∀ a b:Value,Z3K (.tuple #[a,b]) 1=some b:=fun _ _=>rfl
   obtain ⟨Z1,hZ1⟩:∃ Z,Value.slice (some ⟨ob1,0,none⟩) (4*n) (4*n)=Z:=⟨_,rfl⟩
   obtain ⟨Z3,hZ3⟩:∃ Z,Value.slice (some ⟨ob3,0,none⟩) (6*n) (6*n)=Z:=⟨_,rfl⟩
   obtain ⟨Z4,hZ4⟩:∃ Z,Value.slice (some ⟨ob4,0,none⟩) (4*n) (4*n)=Z:=⟨_,rfl⟩
   rw [hZ1] at c41a
   rw [hZ3] at c41c
   rw [hZ4] at c41d
   have fx:=ai l0 (ai ck (ai c40 (ai c41a (ai c41c (ai c41d (ai xv0 (ai xv1 (ai ls8 len))))))))
   refine Ans.go ?_
   clear fx
   refine Ans.pure rfl fun j hj=>?_
   rw [G4 j qO]
   exact sM j hj
 · rw [if_neg (fun z=>hok z.2)] at ck
   rw [if_neg hok,if_neg hok]
   have fx:=ai l0 ck
   refine Ans.go ?_
   clear fx
   exact Ans.pure rfl sM

def frS (Gl:List Int) (t f:Nat) (x:Bool):Bool:=x || decide (Z0A (Z05 Gl t f)<0)
def frF (Gl:List Int) (t:Nat):Nat->Nat->Bool->Bool
 | 0,_,x=>x
 | r+1,f,x=>frF Gl t r (f+1) (frS Gl t f x)
def frT (Gl:List Int):Nat->Nat->Bool->Bool
 | 0,_,x=>x
 | r+1,t,x=>frT Gl r (t+1) (frF Gl t 4 0 x)
def rvF (R:List Bool):Nat->Nat->Bool->Bool
 | 0,_,x=>x
 | r+1,k,x=>rvF R r (k+1) (x || R.getD k false)
def lkE (n:Nat) (Gl V D:List Int) (k:Nat):Int:=((dZ n Gl D (inC V k)).1.length:Int)-((dZ n Gl D (inC V k)).2.1+(dZ n Gl D (inC V k)).2.2 / 2:Nat)+rk (inC V k) (4*n)
def lkC (n:Nat) (Gl V D:List Int) (k:Nat):Bool:=decide ((dZ n Gl D (inC V k)).2.1=0)
def spB (E:Int) (C:Bool):Bool:=C && decide (E=2)
def dkB (E:Int) (C:Bool):Bool:=spB E C || (!C && decide (E=1))
def lkF (n:Nat) (Gl V D:List Int):Nat->Nat->Bool × Bool->Bool × Bool
 | 0,_,x=>x
 | r+1,k,x=>lkF n Gl V D r (k+1) (x.1 && spB (lkE n Gl V D k) (lkC n Gl V D k),x.2 && dkB (lkE n Gl V D k) (lkC n Gl V D k))
noncomputable def xH (h0:FH) (xb:Nat) (a b c d:Bool):FH:=newB h0 xb (bools [a,b,c,d])
theorem Z8b (h0:FH) (xb:Nat) (a b c d:Bool) (j:Nat):(xH h0 xb a b c d).f j=if j=xb then some (.cells false none (bools [a,b,c,d])) else h0.f j:=Z01 _ _ _ _
theorem Zhr {h0:FH} {xb:Nat} {a b c d a' b' c' d':Bool} {k:Nat} (lx:xb<256*k):Z2n k (xH h0 xb a b c d) (xH h0 xb a' b' c' d'):=Z2n.both (Z1i.bools _ _) (Z2n.refl _ _) lx
theorem Zht {h0:FH} {xb:Nat} {a b c d:Bool} (i:Nat):ld1 (xH h0 xb a b c d) (.pointer (some ⟨xb,i,none⟩))=(bools [a,b,c,d])[i]?:=by
 rw [Z02 (cs:=bools [a,b,c,d]) ⟨false,none,by show (xH h0 xb a b c d).f xb=_; rw [Z8b,if_pos rfl]⟩]
theorem Zhs {h0:FH} {xb:Nat} {a b c d:Bool} (x:Bool):stN (xH h0 xb a b c d) 1 (.pointer (some ⟨xb,0,none⟩)) (.bool x)=some (xH h0 xb x b c d)/\stN (xH h0 xb a b c d) 1 (.pointer (some ⟨xb,1,none⟩)) (.bool x)=some (xH h0 xb a x c d) ∧
 stN (xH h0 xb a b c d) 1 (.pointer (some ⟨xb,2,none⟩)) (.bool x)=some (xH h0 xb a b x d)/\stN (xH h0 xb a b c d) 1 (.pointer (some ⟨xb,3,none⟩)) (.bool x)=some (xH h0 xb a b c x):=by
 have g:HeapC.get (xH h0 xb a b c d) xb=some (.cells false none (bools [a,b,c,d])):=by show (xH h0 xb a b c d).f xb=_; rw [Z8b,if_pos rfl]
 have e:∀ (i:Nat) (L:List Bool),(bools [a,b,c,d]).set i (.bool x)=bools L->HeapC.set (xH h0 xb a b c d) xb (.cells false none ((bools [a,b,c,d]).set i (.bool x)))=newB h0 xb (bools L):=fun i L hL=>by
  apply FH.ext; intro j
  rw [Z0g,Z01,Z8b,hL]
  split <;> rfl
 refine ⟨?_, ?_, ?_, ?_⟩
 · rw [Z1a g (by simp [bools]) rfl rfl,e 0 [x,b,c,d] rfl]; rfl
 · rw [Z1a g (by simp [bools]) rfl rfl,e 1 [a,x,c,d] rfl]; rfl
 · rw [Z1a g (by simp [bools]) rfl rfl,e 2 [a,b,x,d] rfl]; rfl
 · rw [Z1a g (by simp [bools]) rfl rfl,e 3 [a,b,c,x] rfl]; rfl
theorem Zb1 {h0:FH} {xb kb:Nat} {a b c d:Bool} (hne:kb ≠ xb) (cs:List Value):newB (xH h0 xb a b c d) kb cs=xH (newB h0 kb cs) xb a b c d:=by
 apply FH.ext; intro j
 rw [Z01,Z8b,Z8b,Z01]
 by_cases e:j=kb
 · subst e; rw [if_pos rfl,if_neg hne,if_pos rfl]
 · rw [if_neg e,if_neg e]
theorem Zll (rb0 kb0 xb t c:Nat) (y0 y1:Value) (n:Nat) (Gl:List Int) (h0:FH) (df:List Nat) (hG:Gl.length=n*20) (ht:t<n) (hn:n<=60) (b2 b3 b4:Bool) (o0:OkV c y0) (o1:OkV c y1) (l0:rb0<256*c) (l1:kb0<256*c) (lx:xb<256*c) :
 ∀ (r f:Nat) (x:Bool),f+r=4->Ans (G (Z8W none) [ptrTo rb0,ptrTo kb0,ptrTo xb,y0,y1,.int .i64 t,av (Z3x Gl t),.int .i64 f] (xH h0 xb x b2 b3 b4) c df) fun q=>q=⟨.exit 2,[ptrTo rb0,ptrTo kb0,ptrTo xb,y0,y1,.int .i64 t,av (Z3x Gl t),.int .i64 4],xH h0 xb (frF Gl t r f x) b2 b3 b4,c,df⟩:=by
 intro r
 have hrl:=Z22 hG ht
 have orow:OkV c (av (Z3x Gl t)):=OkV.av _ _
 induction r with
 | zero =>
  intro f x hf
  obtain rfl:f=4:=by omega
  refine Ans.lpG rfl rfl (Z4K ..) ?_
  unfold Z49
  have fx:=True.intro
  refine Ans.go ?_
  clear fx
  (have fx:=ai l0 (ai l1 (ai lx (ai o0 (ai o1 orow)))); refine Ans.ex0 ?_; clear fx)
  rfl
 | succ r ih =>
  intro f x hf
  have hf4:f<4:=by omega
  have hk:=ih (f+1) (frS Gl t f x) qO
  have x1:=Z6q (Z3x Gl t) 4 5 .i64 (f:Int) qO qO hrl
  rw [Int.toNat_natCast,Z70 hf4] at x1
  have hfl:=Z0q hG ht hf4
  have f4:(f:Int)<4:=by omega
  rw [frF]
  obtain ⟨kb,hkb⟩:∃ b,256*(c+1)+1=b:=⟨_,rfl⟩
  have hne:kb ≠ xb:=by omega
  have hst:stN (newB (xH h0 xb x b2 b3 b4) kb [.int .i64 0,.int .i64 0,.int .i64 0,.int .i64 0,.int .i64 0]) 5 (.pointer (some ⟨kb,0,none⟩)) (av (Z05 Gl t f))=some (xH (newB h0 kb (ints (Z05 Gl t f))) xb x b2 b3 b4):=by
   rw [stN_all _ _ 5 _ _ hfl rfl,Zb1 hne]
  have r0:ld1 (xH (newB h0 kb (ints (Z05 Gl t f))) xb x b2 b3 b4) (.pointer (some ⟨xb,0,none⟩))=some (.bool x):=by rw [Zht]; rfl
  have r1:ld1 (xH (newB h0 kb (ints (Z05 Gl t f))) xb x b2 b3 b4) (.pointer (some ⟨kb,0,none⟩))=some (.int .i64 (Z0A (Z05 Gl t f))):=by
   rw [Z02 (cs:=ints (Z05 Gl t f)) ⟨false,none,by show (xH _ _ _ _ _ _).f kb=_; rw [Z8b,if_neg hne,Z01,if_pos rfl]⟩,ints_getD _ _ qO]; rfl
  have w1:=fun (y:Bool)=>(Zhs (h0:=newB h0 kb (ints (Z05 Gl t f))) (xb:=xb) (a:=x) (b:=b2) (c:=b3) (d:=b4) y).1
  have up:Z2n c (xH h0 xb x b2 b3 b4) (xH h0 xb (frS Gl t f x) b2 b3 b4):=Zhr lx
  have sB:Z0p c (xH h0 xb (frS Gl t f x) b2 b3 b4) (xH (newB h0 kb (ints (Z05 Gl t f))) xb (frS Gl t f x) b2 b3 b4):=fun j hj=>by
   rw [Z8b,Z8b,Z01,if_neg (show ¬ j=kb by omega)]
  have wS:=w1 (frS Gl t f x)
  obtain ⟨S,hS⟩:∃ S,xH h0 xb x b2 b3 b4=S:=⟨_,rfl⟩
  obtain ⟨S1,hS1⟩:∃ S,xH (newB h0 kb (ints (Z05 Gl t f))) xb x b2 b3 b4=S:=⟨_,rfl⟩
  obtain ⟨S2,hS2⟩:∃ S,xH h0 xb (frS Gl t f x) b2 b3 b4=S:=⟨_,rfl⟩
  obtain ⟨S3,hS3⟩:∃ S,xH (newB h0 kb (ints (Z05 Gl t f))) xb (frS Gl t f x) b2 b3 b4=S:=⟨_,rfl⟩
  rw [hS,hS1] at hst
  rw [hS1] at r0 r1
  rw [hS1,hS3] at wS
  rw [hS,hS2] at up
  rw [hS2,hS3] at sB
  rw [hS2] at hk
  rw [hS]
  obtain ⟨Z,hZ⟩:∃ Z,Z0A (Z05 Gl t f)=Z:=⟨_,rfl⟩
  have hfr:frS Gl t f x=(x || decide (Z<0)):=by rw [frS,hZ]
  rw [hZ] at r1
  rw [hfr] at wS
  obtain ⟨F,hF⟩:∃ F,Z05 Gl t f=F:=⟨_,rfl⟩
  rw [hF] at x1 hst
  refine Ans.lpG rfl rfl (Z4K ..) ?_
  unfold Z49
  cases x with
  | true =>
   rw [Bool.true_or] at wS
   have fx:=ai x1 (ai hkb (ai hst (ai r0 (ai r1 wS))))
   refine Ans.go ?_
   clear fx
   (have fx:=ai l0 (ai l1 (ai lx (ai o0 (ai o1 (ai orow sB))))); refine Ans.nxB (B:=S2) ?_ ?_; exact (up); clear fx)
   exact hk
  | false =>
   by_cases hz:Z<0
   · rw [Bool.false_or,decide_eq_true hz] at wS
     have fx:=ai x1 (ai hkb (ai hst (ai r0 (ai r1 (ai hz wS)))))
     refine Ans.go ?_
     clear fx
     (have fx:=ai l0 (ai l1 (ai lx (ai o0 (ai o1 (ai orow sB))))); refine Ans.nxB (B:=S2) ?_ ?_; exact (up); clear fx)
     exact hk
   · rw [Bool.false_or,decide_eq_false hz] at wS
     have fx:=ai x1 (ai hkb (ai hst (ai r0 (ai r1 (ai hz wS)))))
     refine Ans.go ?_
     clear fx
     (have fx:=ai l0 (ai l1 (ai lx (ai o0 (ai o1 (ai orow sB))))); refine Ans.nxB (B:=S2) ?_ ?_; exact (up); clear fx)
     exact hk
theorem fo_tet (rb0 kb0 xb c cm:Nat) (s:Value) (n:Nat) (Gl:List Int) (h0:FH) (df:List Nat) (hs:SlI h0 cm s 20 n Gl) (hcm:cm<=c) (hx:256*cm<=xb) (hn:n<=60) (b2 b3 b4:Bool) (l0:rb0<256*c) (l1:kb0<256*c) (lx:xb<256*c) :
 ∀ (r t:Nat) (x:Bool),t+r=n->Ans (G (Z8X none) [ptrTo rb0,ptrTo kb0,ptrTo xb,s,.int .i64 n,.int .i64 t] (xH h0 xb x b2 b3 b4) c df) fun q=>q=⟨.exit 0,[ptrTo rb0,ptrTo kb0,ptrTo xb,s,.int .i64 n,.int .i64 n],xH h0 xb (frT Gl r t x) b2 b3 b4,c,df⟩:=by
 intro r
 have os:OkV c s:=(hs.mono hcm).okV
 induction r with
 | zero =>
  intro t x ht
  obtain rfl:t=n:=by omega
  refine Ans.lpG rfl rfl (Z4L ..) ?_
  unfold Z4a
  have fx:=True.intro
  refine Ans.go ?_
  clear fx
  (have fx:=ai l0 (ai l1 (ai lx os)); refine Ans.ex0 ?_; clear fx)
  rfl
 | succ r ih =>
  intro t x ht
  have htn:t<n:=by omega
  have tl:(t:Int)<n:=by omega
  have tn:(n:Int)<=60:=by omega
  have hG:Gl.length=n*20:=hs.1
  rw [frT]
  have hk:=ih (t+1) (frF Gl t 4 0 x) qO
  have sm:Z0p cm h0 (xH h0 xb x b2 b3 b4):=fun j hj=>by rw [Z8b,if_neg qO]
  have hs':=hs.same sm
  have ix:=hs'.ixs .i64 t qO qO
  rw [Int.toNat_natCast] at ix
  have lr:ldN (xH h0 xb x b2 b3 b4) 20 (.pointer (some ⟨Z0x s,Z4q s+t*20,none⟩))=some (av (Z3x Gl t)):=by
   rw [hs'.rdN 20 _ qO qO,Z3x,Nat.mul_comm t 20]
  have hrl:=Z22 hG htn
  obtain ⟨kb,hkb⟩:∃ b,256*(c+1)+2=b:=⟨_,rfl⟩
  have hne:kb ≠ xb:=by omega
  obtain ⟨z20,hz20⟩:∃ z,[Value.int .i64 0,Value.int .i64 0,Value.int .i64 0,Value.int .i64 0,Value.int .i64 0,Value.int .i64 0,Value.int .i64 0,Value.int .i64 0,Value.int .i64 0,Value.int .i64 0,Value.int .i64 0,Value.int .i64 0,Value.int .i64 0,Value.int .i64 0,Value.int .i64 0,Value.int .i64 0,Value.int .i64 0,Value.int .i64 0,Value.int .i64 0,Value.int .i64 0]=z:=⟨_,rfl⟩
  have z20l:z20.length=20:=by rw [← hz20]; rfl
  have hst:stN (newB (xH h0 xb x b2 b3 b4) kb z20) 20 (.pointer (some ⟨kb,0,none⟩)) (av (Z3x Gl t))=some (xH (newB h0 kb (ints (Z3x Gl t))) xb x b2 b3 b4):=by
   rw [stN_all _ _ 20 _ _ hrl z20l,Zb1 hne]
  have l2:ldN (xH (newB h0 kb (ints (Z3x Gl t))) xb x b2 b3 b4) 20 (.pointer (some ⟨kb,0,none⟩))=some (av (Z3x Gl t)):=Z58 (by rw [Z8b,if_neg hne,Z01,if_pos rfl]) (by rw [ints_length,hrl])
  have he:=Ans.eq (Zll rb0 kb0 xb t (c+1+1+1) s (.int .i64 n) n Gl (newB h0 kb (ints (Z3x Gl t))) df hG htn hn b2 b3 b4 (os.mono qO) (OkV.int _ _ _) qO qO qO 4 0 x qO)
  simp only [Int.ofNat_eq_natCast,Int.cast_ofNat_Int] at he
  have up:Z2n c (xH h0 xb x b2 b3 b4) (xH h0 xb (frF Gl t 4 0 x) b2 b3 b4):=Zhr lx
  have sB:Z0p c (xH h0 xb (frF Gl t 4 0 x) b2 b3 b4) (xH (newB h0 kb (ints (Z3x Gl t))) xb (frF Gl t 4 0 x) b2 b3 b4):=fun j hj=>by
   rw [Z8b,Z8b,Z01,if_neg (show ¬ j=kb by omega)]
  obtain ⟨S,hS⟩:∃ S,xH h0 xb x b2 b3 b4=S:=⟨_,rfl⟩
  obtain ⟨S1,hS1⟩:∃ S,xH (newB h0 kb (ints (Z3x Gl t))) xb x b2 b3 b4=S:=⟨_,rfl⟩
  obtain ⟨S2,hS2⟩:∃ S,xH h0 xb (frF Gl t 4 0 x) b2 b3 b4=S:=⟨_,rfl⟩
  obtain ⟨S3,hS3⟩:∃ S,xH (newB h0 kb (ints (Z3x Gl t))) xb (frF Gl t 4 0 x) b2 b3 b4=S:=⟨_,rfl⟩
  rw [hS,hS1] at hst
  rw [hS1] at l2
  rw [hS1,hS3] at he
  rw [hS,hS2] at up
  rw [hS2,hS3] at sB
  rw [hS2] at hk
  rw [hS] at lr ⊢
  obtain ⟨F,hF⟩:∃ F,Z3x Gl t=F:=⟨_,rfl⟩
  rw [hF] at lr hst l2 he
  refine Ans.lpG rfl rfl (Z4L ..) ?_
  unfold Z4a
  rw [hz20]
  have fx:=ai ix (ai lr (ai hkb (ai hst (ai l2 he))))
  refine Ans.go ?_
  clear fx
  (have fx:=ai l0 (ai l1 (ai lx (ai os sB))); refine Ans.nxB (B:=S2) ?_ ?_; exact (up); clear fx)
  exact hk
theorem fo_rev (rb0 kb0 xb rb m c:Nat) (R:List Bool) (h0:FH) (df:List Nat) (fr:h0.f rb=some (.cells false none (bools R))) (hR:R.length=m) (hm:m<=360) (hne:rb ≠ xb) (b1 b3 b4:Bool) (l0:rb0<256*c) (l1:kb0<256*c) (lx:xb<256*c) (lr:rb<256*c) :
 ∀ (r k:Nat) (x:Bool),k+r=m->Ans (G (Z8V none) [ptrTo rb0,ptrTo kb0,ptrTo xb,.slice (some ⟨rb,0,none⟩) m m,.int .i64 m,.int .i64 k] (xH h0 xb b1 x b3 b4) c df) fun q=>q=⟨.exit 4,[ptrTo rb0,ptrTo kb0,ptrTo xb,.slice (some ⟨rb,0,none⟩) m m,.int .i64 m,.int .i64 m],xH h0 xb b1 (rvF R r k x) b3 b4,c,df⟩:=by
 intro r
 induction r with
 | zero =>
  intro k x hk
  obtain rfl:k=m:=by omega
  refine Ans.lpG rfl rfl (Z4J ..) ?_
  unfold Z48
  have fx:=True.intro
  refine Ans.go ?_
  clear fx
  (have fx:=ai l0 (ai l1 (ai lx lr)); refine Ans.ex0 ?_; clear fx)
  rfl
 | succ r ih =>
  intro k x hk
  have kl:(k:Int)<m:=by omega
  have tn:(m:Int)<=360:=by omega
  rw [rvF]
  have hk':=ih (k+1) (x || R.getD k false) qO
  have ix:ixS 1 (.slice (some ⟨rb,0,none⟩) m m) (.int .i64 (k:Int))=some (.pointer (some ⟨rb,k,none⟩)):=by
   have:=Z5I rb m .i64 (k:Int) qO qO
   rwa [Int.toNat_natCast] at this
  have r0:ld1 (xH h0 xb b1 x b3 b4) (.pointer (some ⟨rb,k,none⟩))=some (.bool (R.getD k false)):=by
   rw [Z02 (cs:=bools R) ⟨false,none,by show (xH _ _ _ _ _ _).f rb=_; rw [Z8b,if_neg hne]; exact fr⟩,Z86 _ _ qO]
  have r1:ld1 (xH h0 xb b1 x b3 b4) (.pointer (some ⟨xb,1,none⟩))=some (.bool x):=by rw [Zht]; rfl
  have w1:=(Zhs (h0:=h0) (xb:=xb) (a:=b1) (b:=x) (c:=b3) (d:=b4) (x || R.getD k false)).2.1
  have up:Z2n c (xH h0 xb b1 x b3 b4) (xH h0 xb b1 (x || R.getD k false) b3 b4):=Zhr lx
  obtain ⟨y,hy⟩:∃ y,R.getD k false=y:=⟨_,rfl⟩
  rw [hy] at hk' r0 w1 up ⊢
  obtain ⟨S,hS⟩:∃ S,xH h0 xb b1 x b3 b4=S:=⟨_,rfl⟩
  obtain ⟨S2,hS2⟩:∃ S,xH h0 xb b1 (x || y) b3 b4=S:=⟨_,rfl⟩
  rw [hS] at r0 r1
  rw [hS,hS2] at w1 up
  rw [hS2] at hk'
  rw [hS]
  refine Ans.lpG rfl rfl (Z4J ..) ?_
  unfold Z48
  cases x with
  | true =>
   rw [Bool.true_or] at w1
   have fx:=ai ix (ai r0 (ai r1 w1))
   refine Ans.go ?_
   clear fx
   (have fx:=ai l0 (ai l1 (ai lx lr)); refine Ans.nxB (B:=S2) ?_ ?_; exact (up); clear fx)
   exact hk'
  | false =>
   rw [Bool.false_or] at w1
   have fx:=ai ix (ai r0 (ai r1 w1))
   refine Ans.go ?_
   clear fx
   (have fx:=ai l0 (ai l1 (ai lx lr)); refine Ans.nxB (B:=S2) ?_ ?_; exact (up); clear fx)
   exact hk'
end Go.Proofs.Ytdodippbpdechaa
