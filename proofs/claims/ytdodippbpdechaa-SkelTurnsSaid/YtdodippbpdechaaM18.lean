/- Parts of a proof: K17 K18 K19 K20 K21 K22 K23 K24 AbCount AbOrb AbWalk. Conditions: none. -/
import Derived.Test.YtdodippbpdechaaM17
import Derived.Test.YtdodippbpdechaaM15
import Derived.Test.YtdodippbpdechaaM14
import Derived.Test.YtdodippbpdechaaM13
set_option linter.all false
set_option maxRecDepth 100000
namespace Go.Proofs.Ytdodippbpdechaa
open Go Go.Ab Go.Proofs
theorem Z94 (zs:List Value) (X:List Int) (n:Nat) (hz:zs.length=n) (hX:X.length=n):Z7R zs [(0,n,av X)]=some (ints X):=by
 have h1:Nat.beq (av X).cells.size n=true:=by rw [Zi9,hX]; exact Nat.beq_refl n
 have h2:Nat.ble n zs.length=true:=Nat.ble_eq_true_of_le qO
 simp only [Z7R,h1,h2,Bool.and_self,Nat.zero_add,cond_true,Z1y,Z0W,List.take_zero,List.nil_append,ints_length,hX]
 rw [List.drop_of_length_le qO,List.append_nil]
theorem arr41 (b o cap:Nat):Z5b P 41 (.slice (some ⟨b,o,none⟩) 4 cap)=some (.pointer (some ⟨b,o,none⟩)):=by kernel_rfl
theorem arr64 (b o cap:Nat):Z5b P 64 (.slice (some ⟨b,o,none⟩) 6 cap)=some (.pointer (some ⟨b,o,none⟩)):=by kernel_rfl
theorem Zgm (L:List Int) (q t:Nat):L.take (q*(t+1))=L.take (q*t)++(L.drop (q*t)).take q:=by
 rw [Nat.mul_succ,List.take_add]
structure SkI (c0 c sb gb rb m t:Nat) (h0 h:FH) (vv ev tv f5:Value) (V E T:List Int) (z:List Int × List Bool):Prop where
 fs:h.f sb=some (.cells false none [vv,ev,tv,.slice (some ⟨gb,0,none⟩) m m,.slice (some ⟨rb,0,none⟩) m m,f5])
 gv:GrC c0 h c vv 4 t (ints (V.take (4*t)))
 ge:GrC c0 h c ev 6 t (ints (E.take (6*t)))
 gt:GrC c0 h c tv 4 t (ints (T.take (4*t)))
 d1:vv ≠ .slice none 0 0->ev ≠ .slice none 0 0->Z0q vv ≠ Z0q ev
 d2:vv ≠ .slice none 0 0->tv ≠ .slice none 0 0->Z0q vv ≠ Z0q tv
 d3:ev ≠ .slice none 0 0->tv ≠ .slice none 0 0->Z0q ev ≠ Z0q tv
 fg:h.f gb=some (.cells false none (ints z.1))
 fr:h.f rb=some (.cells false none (bools z.2))
 base:∀ j,j<256*c0->j ≠ sb->j ≠ gb->j ≠ rb->h.f j=h0.f j
theorem SkI.mono {c0 c c' sb gb rb m t:Nat} {h0 h:FH} {vv ev tv f5:Value} {V E T:List Int} {z:List Int × List Bool} (a:SkI c0 c sb gb rb m t h0 h vv ev tv f5 V E T z) (hc:c<=c'):SkI c0 c' sb gb rb m t h0 h vv ev tv f5 V E T z :=
 ⟨a.fs,a.gv.mono hc,a.ge.mono hc,a.gt.mono hc,a.d1,a.d2,a.d3,a.fg,a.fr,a.base⟩
theorem SkI.marks {c0 c sb gb rb m t:Nat} {h0 h:FH} {vv ev tv f5:Value} {V E T:List Int} {z z':List Int × List Bool} (a:SkI c0 c sb gb rb m t h0 h vv ev tv f5 V E T z) (n1:gb ≠ rb) (n2:sb ≠ gb) (n3:sb ≠ rb) (lg:gb<256*c0) (lr:rb<256*c0):SkI c0 c sb gb rb m t h0 (kH h gb rb z') vv ev tv f5 V E T z':=by
 refine ⟨?_,a.gv.keep fun hv=>?_,a.ge.keep fun hv=>?_,a.gt.keep fun hv=>?_,a.d1,a.d2,a.d3, ?_, ?_,fun j hj h1 h2 h3=>?_⟩
 · rw [Zh5,if_neg n3,if_neg n2]; exact a.fs
 · have:=(a.gv.blk hv).1; rw [Zh5,if_neg qO,if_neg qO]
 · have:=(a.ge.blk hv).1; rw [Zh5,if_neg qO,if_neg qO]
 · have:=(a.gt.blk hv).1; rw [Zh5,if_neg qO,if_neg qO]
 · rw [Zh5,if_neg n1,if_pos rfl]
 · rw [Zh5,if_pos rfl]
 · rw [Zh5,if_neg h3,if_neg h2]; exact a.base j hj h1 h2 h3
theorem SkI.step {c0 c sb gb rb m t n:Nat} {h0 h:FH} {vv ev tv f5:Value} {V E T:List Int} {z:List Int × List Bool} (a:SkI c0 c sb gb rb m t h0 h vv ev tv f5 V E T z) (hV:V.length=4*n) (hE:E.length=6*n) (hT:T.length=4*n) (ht:t<n) (hn:n<=60) (hc0:c0<=c)
 (n2:sb ≠ gb) (n3:sb ≠ rb) (ls:sb<256*c0) (lg:gb<256*c0) (lr:rb<256*c0) (b1 i1 b2 i2 b3 i3:Nat) (hb1:b1=256*(c+1+1)+11) (hi1:i1=256*(c+1+1)+12) (hb2:b2=256*(c+1+1+1)+11) (hi2:i2=256*(c+1+1+1)+12) (hb3:b3=256*(c+1+1+1+1)+11) (hi3:i3=256*(c+1+1+1+1)+12) :
 ∃ h1 h2 h3 h4 h5 h6,ld1 h (.pointer (some ⟨sb,0,none⟩))=some vv/\Z6e (newB h b1 (ints ((V.drop (4*t)).take 4))) i1 4 32 vv (.slice (some ⟨b1,0,none⟩) 1 1)=some (.slice (some ⟨i1,0,none⟩) (t+1) (t+1),h1)/\stN h1 1 (.pointer (some ⟨sb,0,none⟩)) (.slice (some ⟨i1,0,none⟩) (t+1) (t+1))=some h2 ∧
  ld1 h2 (.pointer (some ⟨sb,1,none⟩))=some ev/\Z6e (newB h2 b2 (ints ((E.drop (6*t)).take 6))) i2 6 48 ev (.slice (some ⟨b2,0,none⟩) 1 1)=some (.slice (some ⟨i2,0,none⟩) (t+1) (t+1),h3)/\stN h3 1 (.pointer (some ⟨sb,1,none⟩)) (.slice (some ⟨i2,0,none⟩) (t+1) (t+1))=some h4 ∧
  ld1 h4 (.pointer (some ⟨sb,2,none⟩))=some tv/\Z6e (newB h4 b3 (ints ((T.drop (4*t)).take 4))) i3 4 32 tv (.slice (some ⟨b3,0,none⟩) 1 1)=some (.slice (some ⟨i3,0,none⟩) (t+1) (t+1),h5)/\stN h5 1 (.pointer (some ⟨sb,2,none⟩)) (.slice (some ⟨i3,0,none⟩) (t+1) (t+1))=some h6 ∧
  (∀ j,j<256*c0->j ≠ sb->h2.f j=h.f j)/\(∀ j,j<256*c0->j ≠ sb->h4.f j=h.f j)/\(∀ j,j<256*c0->j ≠ sb->h6.f j=h.f j) ∧
  SkI c0 (c+1+1+1+1+1) sb gb rb m (t+1) h0 h6 (.slice (some ⟨i1,0,none⟩) (t+1) (t+1)) (.slice (some ⟨i2,0,none⟩) (t+1) (t+1)) (.slice (some ⟨i3,0,none⟩) (t+1) (t+1)) f5 V E T z:=by
 have lX:((V.drop (4*t)).take 4).length=4:=by rw [List.length_take,List.length_drop]; omega
 have lY:((E.drop (6*t)).take 6).length=6:=by rw [List.length_take,List.length_drop]; omega
 have lZ:((T.drop (4*t)).take 4).length=4:=by rw [List.length_take,List.length_drop]; omega
 have bv:vv ≠ .slice none 0 0->256*c0<=Z0q vv/\Z0q vv<256*c:=a.gv.blk
 have be:ev ≠ .slice none 0 0->256*c0<=Z0q ev/\Z0q ev<256*c:=a.ge.blk
 have bt:tv ≠ .slice none 0 0->256*c0<=Z0q tv/\Z0q tv<256*c:=a.gt.blk
 obtain ⟨h1,h2,p1,p2,p3,p4,p5,p6⟩:=a.gv.step (c':=c+1+1+1) (o:=0) a.fs rfl ls (ints ((V.drop (4*t)).take 4)) (by rw [ints_length,lX]) (Z0Q _) qO 32 b1 i1 qO qO qO qO qO qO
 have ge1:GrC c0 h2 (c+1+1+1) ev 6 t (ints (E.take (6*t))):=(a.ge.keep fun hv=>p6 _ (be hv).2 (by have:=(be hv).1; omega) fun hw=>Ne.symm (a.d1 hw hv)).mono qO
 have gt1:GrC c0 h2 (c+1+1+1) tv 4 t (ints (T.take (4*t))):=(a.gt.keep fun hv=>p6 _ (bt hv).2 (by have:=(bt hv).1; omega) fun hw=>Ne.symm (a.d2 hw hv)).mono qO
 obtain ⟨h3,h4,q1,q2,q3,q4,q5,q6⟩:=ge1.step (c':=c+1+1+1+1) (o:=1) p4 rfl ls (ints ((E.drop (6*t)).take 6)) (by rw [ints_length,lY]) (Z0Q _) qO 48 b2 i2 qO qO qO qO qO qO
 have gt2:GrC c0 h4 (c+1+1+1+1) tv 4 t (ints (T.take (4*t))):=(gt1.keep fun hv=>q6 _ (by have:=(bt hv).2; omega) (by have:=(bt hv).1; omega) fun hw=>Ne.symm (a.d3 hw hv)).mono qO
 have gv2:GrC c0 h4 (c+1+1+1+1) (.slice (some ⟨i1,0,none⟩) (t+1) (t+1)) 4 (t+1) (ints (V.take (4*t))++ints ((V.drop (4*t)).take 4)):=(p5.keep fun hv=>q6 _ (by rw [blkOf_sl]; omega) (by rw [blkOf_sl]; omega) fun hw=>by have:=(be hw).2; rw [blkOf_sl]; omega).mono qO
 obtain ⟨h5,h6,r1,r2,r3,r4,r5,r6⟩:=gt2.step (c':=c+1+1+1+1+1) (o:=2) q4 rfl ls (ints ((T.drop (4*t)).take 4)) (by rw [ints_length,lZ]) (Z0Q _) qO 32 b3 i3 qO qO qO qO qO qO
 have gv3:GrC c0 h6 (c+1+1+1+1+1) (.slice (some ⟨i1,0,none⟩) (t+1) (t+1)) 4 (t+1) (ints (V.take (4*t))++ints ((V.drop (4*t)).take 4)):=(gv2.keep fun hv=>r6 _ (by rw [blkOf_sl]; omega) (by rw [blkOf_sl]; omega) fun hw=>by have:=(bt hw).2; rw [blkOf_sl]; omega).mono qO
 have ge3:GrC c0 h6 (c+1+1+1+1+1) (.slice (some ⟨i2,0,none⟩) (t+1) (t+1)) 6 (t+1) (ints (E.take (6*t))++ints ((E.drop (6*t)).take 6)):=(q5.keep fun hv=>r6 _ (by rw [blkOf_sl]; omega) (by rw [blkOf_sl]; omega) fun hw=>by have:=(bt hw).2; rw [blkOf_sl]; omega).mono qO
 have K2:∀ j,j<256*c0->j ≠ sb->h2.f j=h.f j:=fun j hj h1'=>p6 j qO h1' fun hv=>by have:=(bv hv).1; omega
 have K4:∀ j,j<256*c0->j ≠ sb->h4.f j=h.f j:=fun j hj h1'=>(q6 j qO h1' fun hv=>by have:=(be hv).1; omega).trans (K2 j hj h1')
 have K6:∀ j,j<256*c0->j ≠ sb->h6.f j=h.f j:=fun j hj h1'=>(r6 j qO h1' fun hv=>by have:=(bt hv).1; omega).trans (K4 j hj h1')
 rw [Z3S,← Zgm] at gv3 ge3 r5
 refine ⟨h1,h2,h3,h4,h5,h6,p1,p2,p3,q1,q2,q3,r1,r2,r3,K2,K4,K6,⟨r4,gv3,ge3,r5,(fun _ _=>by rw [blkOf_sl,blkOf_sl]; omega),(fun _ _=>by rw [blkOf_sl,blkOf_sl]; omega),(fun _ _=>by rw [blkOf_sl,blkOf_sl]; omega), ?_, ?_,fun j hj h1' h2' h3'=>?_⟩⟩
 · rw [K6 gb lg (Ne.symm n2)]; exact a.fg
 · rw [K6 rb lr (Ne.symm n3)]; exact a.fr
 · rw [K6 j hj h1']; exact a.base j hj h1' h2' h3'
def sTs (E D:List Int):Nat->Nat->List Int × List Bool->List Int × List Bool
 | 0,_,z=>z
 | r+1,t,z=>sTs E D r (t+1) (sKs E D t 6 0 z)
theorem SB.ts {m:Nat} (E D:List Int):∀ (r t:Nat) {z:List Int × List Bool} {B:Nat},SB m z B->SB m (sTs E D r t z) (B+6*r)
 | 0,_,z,B,h=>h
 | r+1,t,z,B,h=>by
  have:=SB.ts E D r (t+1) (SB.ks E D t 6 0 h)
  rw [show B+6+6*r=B+6*(r+1) by omega] at this
  exact this
set_option maxHeartbeats 2000000 in
theorem Zmf (pb0 cb vb db eb tb sb gb rb n m c0:Nat) (cnt:Int) (V D E T:List Int) (f5:Value) (h0:FH) (df:List Nat)
 (fv:h0.f vb=some (.cells false none (ints V))) (fd:h0.f db=some (.cells false none (ints D))) (fe:h0.f eb=some (.cells false none (ints E))) (ft:h0.f tb=some (.cells false none (ints T)))
 (lV:V.length=4*n) (lD:D.length=16*n) (lE:E.length=6*n) (lT:T.length=4*n) (hE:∀ k,k<6*n->0<=E.getD k 0/\E.getD k 0<m) (hn:n<=60) (hm:m<=360)
 (lp:pb0<256*c0) (lc:cb<256*c0) (lv:vb<256*c0) (ld:db<256*c0) (le:eb<256*c0) (lt:tb<256*c0) (ls:sb<256*c0) (lg:gb<256*c0) (lr:rb<256*c0)
 (n1:gb ≠ rb) (n2:sb ≠ gb) (n3:sb ≠ rb) (ov:vb ≠ sb/\vb ≠ gb/\vb ≠ rb) (od:db ≠ sb/\db ≠ gb/\db ≠ rb) (oe:eb ≠ sb/\eb ≠ gb/\eb ≠ rb) (ot:tb ≠ sb/\tb ≠ gb/\tb ≠ rb) :
 ∀ (r t c:Nat) (H:FH) (vv ev tv:Value) (z:List Int × List Bool),t+r=n->c0<=c->SkI c0 c sb gb rb m t h0 H vv ev tv f5 V E T z->SB m z (6*t)->Ans (G (Za4 none) [ptrTo pb0,ptrTo cb,.slice (some ⟨vb,0,none⟩) (4*n) (4*n),.int .i64 cnt,.slice (some ⟨db,0,none⟩) (16*n) (16*n),.slice (some ⟨eb,0,none⟩) (6*n) (6*n),.slice (some ⟨tb,0,none⟩) (4*n) (4*n),ptrTo sb,.int .i64 n,.int .i64 t] H c df) fun q =>
  q.e = .exit 0/\q.vs=[ptrTo pb0,ptrTo cb,.slice (some ⟨vb,0,none⟩) (4*n) (4*n),.int .i64 cnt,.slice (some ⟨db,0,none⟩) (16*n) (16*n),.slice (some ⟨eb,0,none⟩) (6*n) (6*n),.slice (some ⟨tb,0,none⟩) (4*n) (4*n),ptrTo sb,.int .i64 n,.int .i64 n]/\q.df=df/\c<=q.c ∧
  ∃ vv ev tv,SkI c0 q.c sb gb rb m n h0 q.h vv ev tv f5 V E T (sTs E D r t z):=by
 intro r
 induction r with
 | zero =>
  intro t c H vv ev tv z ht hc a hz
  obtain rfl:t=n:=by omega
  refine Ans.lpN rfl rfl (Z53 ..) ?_
  unfold Z4u
  have fx:=True.intro
  refine Ans.go ?_
  clear fx
  exact Ans.exitN ⟨rfl,rfl,rfl,by dsimp only; omega,vv,ev,tv,a.mono (by dsimp only; omega)⟩
 | succ r ih =>
  intro t c H vv ev tv z ht hc a hz
  have htn:t<n:=by omega
  obtain ⟨b1,hb1⟩:∃ b,256*(c+1+1)+11=b:=⟨_,rfl⟩
  obtain ⟨i1,hi1⟩:∃ b,256*(c+1+1)+12=b:=⟨_,rfl⟩
  obtain ⟨b2,hb2⟩:∃ b,256*(c+1+1+1)+11=b:=⟨_,rfl⟩
  obtain ⟨i2,hi2⟩:∃ b,256*(c+1+1+1)+12=b:=⟨_,rfl⟩
  obtain ⟨b3,hb3⟩:∃ b,256*(c+1+1+1+1)+11=b:=⟨_,rfl⟩
  obtain ⟨i3,hi3⟩:∃ b,256*(c+1+1+1+1)+12=b:=⟨_,rfl⟩
  obtain ⟨h1,h2,h3,h4,h5,h6,p1,p2,p3,q1,q2,q3,r1,r2,r3,K2,K4,K6,a'⟩:=a.step lV lE lT htn hn hc n2 n3 ls lg lr b1 i1 b2 i2 b3 i3 hb1.symm hi1.symm hb2.symm hi2.symm hb3.symm hi3.symm
  have gv:H.f vb=some (.cells false none (ints V)):=(a.base vb lv ov.1 ov.2.1 ov.2.2).trans fv
  have ge:h2.f eb=some (.cells false none (ints E)):=(K2 eb le oe.1).trans ((a.base eb le oe.1 oe.2.1 oe.2.2).trans fe)
  have gt:h4.f tb=some (.cells false none (ints T)):=(K4 tb lt ot.1).trans ((a.base tb lt ot.1 ot.2.1 ot.2.2).trans ft)
  have gd6:h6.f db=some (.cells false none (ints D)):=(K6 db ld od.1).trans ((a.base db ld od.1 od.2.1 od.2.2).trans fd)
  have ge6:h6.f eb=some (.cells false none (ints E)):=(K6 eb le oe.1).trans ((a.base eb le oe.1 oe.2.1 oe.2.2).trans fe)
  have s1:slS H 1 (.slice (some ⟨vb,0,none⟩) (4*n) (4*n)) (some (.int .i64 (4*(t:Int)))) (some (.int .i64 (4*(t:Int)+4))) none=some (.slice (some ⟨vb,4*t,none⟩) 4 (4*n-4*t)):=by
   have:=Zc7 gv .i64 .i64 (m:=4*n) (4*t) (4*t+4) qO qO
   rwa [show ((4*t:Nat):Int)=4*(t:Int) by omega,show ((4*t+4:Nat):Int)=4*(t:Int)+4 by omega,show 4*t+4-4*t=4 by omega] at this
  have s2:slS h2 1 (.slice (some ⟨eb,0,none⟩) (6*n) (6*n)) (some (.int .i64 (6*(t:Int)))) (some (.int .i64 (6*(t:Int)+6))) none=some (.slice (some ⟨eb,6*t,none⟩) 6 (6*n-6*t)):=by
   have:=Zc7 ge .i64 .i64 (m:=6*n) (6*t) (6*t+6) qO qO
   rwa [show ((6*t:Nat):Int)=6*(t:Int) by omega,show ((6*t+6:Nat):Int)=6*(t:Int)+6 by omega,show 6*t+6-6*t=6 by omega] at this
  have s3:slS h4 1 (.slice (some ⟨tb,0,none⟩) (4*n) (4*n)) (some (.int .i64 (4*(t:Int)))) (some (.int .i64 (4*(t:Int)+4))) none=some (.slice (some ⟨tb,4*t,none⟩) 4 (4*n-4*t)):=by
   have:=Zc7 gt .i64 .i64 (m:=4*n) (4*t) (4*t+4) qO qO
   rwa [show ((4*t:Nat):Int)=4*(t:Int) by omega,show ((4*t+4:Nat):Int)=4*(t:Int)+4 by omega,show 4*t+4-4*t=4 by omega] at this
  have x1:ldN H 4 (.pointer (some ⟨vb,4*t,none⟩))=some (av ((V.drop (4*t)).take 4)):=by
   rw [ldN_holds (cs:=ints V) ⟨false,none,gv⟩ (by rw [ints_length]; omega),av,Z1a,Z0G]
  have x2:ldN h2 6 (.pointer (some ⟨eb,6*t,none⟩))=some (av ((E.drop (6*t)).take 6)):=by
   rw [ldN_holds (cs:=ints E) ⟨false,none,ge⟩ (by rw [ints_length]; omega),av,Z1a,Z0G]
  have x3:ldN h4 4 (.pointer (some ⟨tb,4*t,none⟩))=some (av ((T.drop (4*t)).take 4)):=by
   rw [ldN_holds (cs:=ints T) ⟨false,none,gt⟩ (by rw [ints_length]; omega),av,Z1a,Z0G]
  have y1:=Z94 [.int .i64 0,.int .i64 0,.int .i64 0,.int .i64 0] ((V.drop (4*t)).take 4) 4 rfl (by rw [List.length_take,List.length_drop]; omega)
  have y2:=Z94 [.int .i64 0,.int .i64 0,.int .i64 0,.int .i64 0,.int .i64 0,.int .i64 0] ((E.drop (6*t)).take 6) 6 rfl (by rw [List.length_take,List.length_drop]; omega)
  have y3:=Z94 [.int .i64 0,.int .i64 0,.int .i64 0,.int .i64 0] ((T.drop (4*t)).take 4) 4 rfl (by rw [List.length_take,List.length_drop]; omega)
  have cp:=fun h c=>Z90 h c
  have he:=Ans.eq (Zmg pb0 cb vb db eb tb sb gb rb t n m (c+1+1+1+1+1+1) c0 cnt D E _ _ _ f5 h6 df a'.fs gd6 ge6 lD lE (fun k hk=>hE (6*t+k) qO) htn hn qO qO qO qO qO qO qO qO qO n1 n2 n3 od.2.1 od.2.2 oe.2.1 oe.2.2 hm 6 0 z qO hz)
  have self:kH h6 gb rb z=h6:=by
   apply FH.ext; intro j
   rw [Zh5]
   by_cases e1:j=rb
   · rw [if_pos e1,e1]; exact a'.fr.symm
   · rw [if_neg e1]
     by_cases e2:j=gb
     · rw [if_pos e2,e2]; exact a'.fg.symm
     · rw [if_neg e2]
  rw [self] at he
  simp only [Int.ofNat_eq_natCast,Int.cast_ofNat_Int] at he
  have am:=a'.marks (z':=sKs E D t 6 0 z) n1 n2 n3 lg lr
  have hk:=ih (t+1) (c+1+1+1+1+1+1+1) _ _ _ _ (sKs E D t 6 0 z) qO qO (am.mono qO) (SB.ks E D t 6 0 hz)
  obtain ⟨KH,hKH⟩:∃ K,kH h6 gb rb (sKs E D t 6 0 z)=K:=⟨_,rfl⟩
  rw [hKH] at he hk
  obtain ⟨X1,hX1⟩:∃ X,(V.drop (4*t)).take 4=X:=⟨_,rfl⟩
  obtain ⟨X2,hX2⟩:∃ X,(E.drop (6*t)).take 6=X:=⟨_,rfl⟩
  obtain ⟨X3,hX3⟩:∃ X,(T.drop (4*t)).take 4=X:=⟨_,rfl⟩
  rw [hX1] at x1 y1 p2
  rw [hX2] at x2 y2 q2
  rw [hX3] at x3 y3 r2
  obtain ⟨ZV,hZV⟩:∃ Z,Value.slice (some ⟨vb,0,none⟩) (4*n) (4*n)=Z:=⟨_,rfl⟩
  obtain ⟨ZE,hZE⟩:∃ Z,Value.slice (some ⟨eb,0,none⟩) (6*n) (6*n)=Z:=⟨_,rfl⟩
  obtain ⟨ZT,hZT⟩:∃ Z,Value.slice (some ⟨tb,0,none⟩) (4*n) (4*n)=Z:=⟨_,rfl⟩
  obtain ⟨ZD,hZD⟩:∃ Z,Value.slice (some ⟨db,0,none⟩) (16*n) (16*n)=Z:=⟨_,rfl⟩
  rw [hZV] at s1 he hk ⊢
  rw [hZE] at s2 he hk ⊢
  rw [hZT] at s3 he hk ⊢
  rw [hZD] at he hk ⊢
  refine Ans.lpN rfl rfl (Z53 ..) ?_
  unfold Z4u
  have fx:=ai p1 (ai s1 (ai arr41 (ai arr64 (ai x1 (ai y1 (ai hb1 (ai hi1 (ai p2 (ai p3 (ai q1 (ai s2 (ai x2 (ai y2 (ai hb2 (ai hi2 (ai q2 (ai q3 (ai r1 (ai s3 (ai x3 (ai y3 (ai hb3 (ai hi3 (ai r2 (ai r3 (ai cp he))))))))))))))))))))))))))
  refine Ans.go ?_
  clear fx
  refine Ans.nextN (hk.mono ?_)
  rintro q ⟨z1,z2,z3,z4,z5⟩
  exact ⟨z1,z2,z3,by omega,z5⟩

theorem Zlo (zs L:List Value) (n:Nat) (hz:zs.length=n) (hL:L.length=n):Z7R zs [(0,n,.agg L.toArray)]=some L:=by
 have h1:Nat.beq (Value.agg L.toArray).cells.size n=true:=by simp [Value.cells,hL]
 have h2:Nat.ble n zs.length=true:=Nat.ble_eq_true_of_le qO
 have h3:(Value.agg L.toArray).cells.toList=L:=by simp [Value.cells]
 simp only [Z7R,h1,Nat.zero_add,h2,Bool.and_self,cond_true,h3,Z0W,List.take_zero,List.nil_append,hL]
 rw [List.drop_of_length_le qO,List.append_nil]
def lkD (n:Nat) (Gl V D:List Int) (k:Nat):List Value:=ZnV (rk (inC V k) (4*n)) (orB n Gl (inC V k)) (dZ n Gl D (inC V k))
def lkL (n:Nat) (Gl V D:List Int):Nat->List Value
 | 0=>[]
 | k+1=>lkL n Gl V D k++lkD n Gl V D k
theorem Z68 (n:Nat) (Gl V D:List Int) (k:Nat):(lkD n Gl V D k).length=6:=rfl
theorem Zdy (n:Nat) (Gl V D:List Int) (k:Nat):(lkD n Gl V D k).all Z07=true:=rfl
set_option maxHeartbeats 1000000 in
theorem Zix (pb0 cb vb db sb n c1 cnt:Nat) (cs:List Value) (s f0 f1 f2 f3 f4:Value) (Gl V D:List Int) (h1:FH) (df:List Nat)
 (hc:Z0f h1 cb (s::cs)) (hs:SlI h1 c1 s 20 n Gl) (hok:Z0v Gl n=true) (hV:SlI h1 c1 (.slice (some ⟨vb,0,none⟩) (4*n) (4*n)) 1 (4*n) V) (hD:SlI h1 c1 (.slice (some ⟨db,0,none⟩) (16*n) (16*n)) 1 (16*n) D) (hn:n<=60)
 (lc:cb<256*c1) (lsb:sb<256*c1) (n1:cb ≠ sb) (n2:0<n->Z0q s ≠ sb) (n3:vb ≠ sb) (n4:db ≠ sb) (hcnt:cnt<=4*n) :
 ∀ (r k c:Nat) (H:FH) (lv:Value),k+r=cnt->c1<=c->H.f sb=some (.cells false none [f0,f1,f2,f3,f4,lv])->GrC c1 H c lv 6 k (lkL n Gl V D k)->(∀ j,j<256*c1->j ≠ sb->H.f j=h1.f j) →
 Ans (G (Za2 none) [ptrTo pb0,ptrTo cb,.slice (some ⟨vb,0,none⟩) (4*n) (4*n),.slice (some ⟨db,0,none⟩) (16*n) (16*n),ptrTo sb,.int .i64 cnt,.int .i64 k] H c df) fun q =>
  q.e = .exit 4/\q.vs=[ptrTo pb0,ptrTo cb,.slice (some ⟨vb,0,none⟩) (4*n) (4*n),.slice (some ⟨db,0,none⟩) (16*n) (16*n),ptrTo sb,.int .i64 cnt,.int .i64 cnt]/\q.df=df/\c<=q.c ∧
  ∃ lv,q.h.f sb=some (.cells false none [f0,f1,f2,f3,f4,lv])/\GrC c1 q.h q.c lv 6 cnt (lkL n Gl V D cnt)/\(∀ j,j<256*c1->j ≠ sb->q.h.f j=h1.f j):=by
 intro r
 induction r with
 | zero =>
  intro k c H lv hk hcc fs g base
  obtain rfl:k=cnt:=by omega
  refine Ans.lpN rfl rfl (Z52 ..) ?_
  unfold Z4t
  have fx:=True.intro
  refine Ans.go ?_
  clear fx
  exact Ans.exitN ⟨rfl,rfl,rfl,by dsimp only; omega,lv,fs,g.mono (by dsimp only; omega),base⟩
 | succ r ih =>
  intro k c H lv hk hcc fs g base
  have kl:(k:Int)<cnt:=by omega
  have hcl:(k:Int)<240:=by omega
  have hcH:Z0f H cb (s::cs):=by
   obtain ⟨ro,op,q⟩:=hc
   exact ⟨ro,op,(base cb lc n1).trans q⟩
  have hsH:SlI H c s 20 n Gl:=(hs.keep fun h0=>base _ (hs.blk h0) (n2 h0)).mono hcc
  have hVH:SlI H c (.slice (some ⟨vb,0,none⟩) (4*n) (4*n)) 1 (4*n) V:=(hV.keep fun h0=>base _ (hV.blk h0) n3).mono hcc
  have hDH:SlI H c (.slice (some ⟨db,0,none⟩) (16*n) (16*n)) 1 (16*n) D:=(hD.keep fun h0=>base _ (hD.blk h0) n4).mono hcc
  obtain ⟨r0,hr0,lb,mb,w,e0,l0,s0,li,lo,mo⟩:=ZmI cb cs (.slice (some ⟨vb,0,none⟩) (4*n) (4*n)) s n Gl V k H (c+1+1+1) [] hcH qO (hsH.mono qO) (hVH.mono qO) hn
  obtain ⟨K,hK⟩:∃ K,r0.h=K:=⟨_,rfl⟩
  obtain ⟨rc,hrc⟩:∃ c,r0.c=c:=⟨_,rfl⟩
  rw [hK,hrc] at e0 li
  rw [hrc] at l0
  rw [hK] at s0
  rw [e0] at hr0
  have c60:=Z0c hr0
  have lr:LR K rc lb mb s n Gl (inC V k):=by
   have q1:=li.lo
   have q2:=li.mo
   exact ⟨⟨w,⟨false,none,li.hf⟩,li.ls.sl⟩,li.mp,((hsH.mono (by omega:c<=c+1+1+1)).same s0).mono qO,by omega,by omega,hok,hn⟩
  have c65:=Z0c (Zd5 lb mb s _ n Gl D (inC V k) K rc [] lr (((hDH.mono (by omega:c<=c+1+1+1)).same s0).mono qO))
  rw [show ZnV (rk (inC V k) (4*n)) (orB n Gl (inC V k)) (dZ n Gl D (inC V k))=lkD n Gl V D k from rfl] at c65
  have y1:=Zlo [.int .i64 0,.int .i64 0,.int .i64 0,.int .i64 0,.bool false,.bool false] (lkD n Gl V D k) 6 rfl (Z68 _ _ _ _ _)
  have fsK:K.f sb=some (.cells false none [f0,f1,f2,f3,f4,lv]):=(s0 sb qO).trans fs
  have gK:GrC c1 K c lv 6 k (lkL n Gl V D k):=g.keep fun hv=>s0 _ (by have:=(g.blk hv).2; omega)
  obtain ⟨b,hb⟩:∃ b,256*(c+1+1)+8=b:=⟨_,rfl⟩
  obtain ⟨i,hi⟩:∃ b,256*(c+1+1)+9=b:=⟨_,rfl⟩
  obtain ⟨h2,h3,p1,p2,p3,p4,p5,p6⟩:=gK.step (c':=rc+1) (o:=5) fsK rfl lsb (lkD n Gl V D k) (Z68 _ _ _ _ _) (Zdy _ _ _ _ _) qO 40 b i qO qO qO qO qO qO
  have p0:ld1 H (.pointer (some ⟨sb,5,none⟩))=some lv:=by rw [Z02 ⟨false,none,fs⟩]; rfl
  have sm:Z1f (Z2t (.pointer (some ⟨sb,5,none⟩))) H K=true:=Z7S (fun j hj=>by
   have:j=sb:=by simpa [Z2t] using hj.symm
   rw [this]; exact (s0 sb qO).symm)
  have hk':=ih (k+1) (rc+1) h3 _ qO qO p4 p5 (fun j hj hne=>(p6 j qO hne fun hv=>by have:=(gK.blk hv).1; omega).trans ((s0 j qO).trans (base j hj hne)))
  obtain ⟨X,hX⟩:∃ X,lkD n Gl V D k=X:=⟨_,rfl⟩
  rw [hX] at c65 y1 p2
  obtain ⟨ZV,hZV⟩:∃ Z,Value.slice (some ⟨vb,0,none⟩) (4*n) (4*n)=Z:=⟨_,rfl⟩
  obtain ⟨ZD,hZD⟩:∃ Z,Value.slice (some ⟨db,0,none⟩) (16*n) (16*n)=Z:=⟨_,rfl⟩
  rw [hZV] at c60 hk' ⊢
  rw [hZD] at c65 hk' ⊢
  refine Ans.lpN rfl rfl (Z52 ..) ?_
  unfold Z4t
  have fx:=ai kl (ai p0 (ai c60 (ai c65 (ai y1 (ai hb (ai hi (ai p2 (ai p3 (ai sm sameB_self)))))))))
  refine Ans.go ?_
  clear fx
  refine Ans.nextN (hk'.mono ?_)
  rintro q ⟨z1,z2,z3,z4,z5⟩
  exact ⟨z1,z2,z3,by omega,z5⟩

def vN (Gl:List Int) (n:Nat):List Int:=ZbJ (vCs Gl n) (4*n)
def dN (Gl:List Int) (n:Nat):List Int:=ZbJ (dCs Gl n) (16*n)
def eN (Gl:List Int) (n:Nat):List Int:=ZbJ (eCs Gl n) (6*n)
def tN (Gl:List Int) (n:Nat):List Int:=ZbJ (tCs Gl n) (4*n)
def nV (Gl:List Int) (n:Nat):Nat:=Z5e (vCs Gl n) (4*n)
def nE (Gl:List Int) (n:Nat):Nat:=Z5e (eCs Gl n) (6*n)
def skZ (Gl:List Int) (n:Nat):List Int × List Bool:=sTs (eN Gl n) (dN Gl n) n 0 (List.replicate (nE Gl n) 0,List.replicate (nE Gl n) false)
structure SkV (c0 c:Nat) (h:FH) (vv ev tv:Value) (gb rb:Nat) (lv:Value) (n:Nat) (Gl:List Int):Prop where
 gv:GrC c0 h c vv 4 n (ints (vN Gl n))
 ge:GrC c0 h c ev 6 n (ints (eN Gl n))
 gt:GrC c0 h c tv 4 n (ints (tN Gl n))
 fg:h.f gb=some (.cells false none (ints (skZ Gl n).1))
 fr:h.f rb=some (.cells false none (bools (skZ Gl n).2))
 gl:GrC c0 h c lv 6 (nV Gl n) (lkL n Gl (vN Gl n) (dN Gl n) (nV Gl n))
 b1:256*c0<=gb/\gb<256*c
 b2:256*c0<=rb/\rb<256*c
theorem Znz {Gl:List Int} {n:Nat} (hd:Z49 (eCs Gl n) (6*n)):∀ k,k<6*n->0<=(eN Gl n).getD k 0/\(eN Gl n).getD k 0<nE Gl n:=fun k hk=>by
 rw [eN,Z8u _ hk]
 have h1:=Z2H hd hk
 have:=Zhk (C:=eCs Gl n) (m:=6*n) (r:=Z06 (eCs Gl n) k) qO (Z4c hd hk)
 unfold nE
 omega
theorem Z4L {c0 c1:Nat} {h:FH} {c:Nat} {v:Value} {sz n:Nat} {L:List Value} (ha:GrC c1 h c v sz n L) (hc:c0<=c1):GrC c0 h c v sz n L:=by
 rcases ha with ha | ⟨a,b,d,x,i,e,f,g,k⟩
 · exact .inl ha
 · exact .inr ⟨a,b,d,x,i,e,by omega,g,k⟩
set_option maxHeartbeats 4000000 in
theorem Zc8 (s:Value) (n:Nat) (Gl:List Int) (h:FH) (c:Nat) (df:List Nat) (hs:SlI h c s 20 n Gl) (hok:Z0v Gl n=true) (hn:n<=60) :
 Ans (G (.fn 39) [.agg #[s]] h c df) fun r=>∃ vv ev tv gb rb lv,r=⟨.ret,[.agg #[vv,ev,tv,.slice (some ⟨gb,0,none⟩) (nE Gl n) (nE Gl n),.slice (some ⟨rb,0,none⟩) (nE Gl n) (nE Gl n),lv]],r.h,r.c,[]⟩/\c<=r.c/\Z0s c h r.h/\SkV c r.c r.h vv ev tv gb rb lv n Gl:=by
 refine Ans.call' (fun r e=>f39_go e) ?_
 have Z6b:((Value.agg #[s]).cells.toList.all Z07)=true:=by simp [Value.cells,hs.flat]
 have Z6d:(Value.agg #[s]).cells.toList=[s]:=rfl
 unfold ZhK
 rw [Z6b,Z6d]
 simp only [cond_true,Nat.add_zero]
 obtain ⟨g0,hg0⟩:∃ b,256*c=b:=⟨_,rfl⟩
 obtain ⟨p0,hp0⟩:∃ b,256*c+1=b:=⟨_,rfl⟩
 obtain ⟨z6,hz6⟩:∃ z,[Value.slice none 0 0,Value.slice none 0 0,Value.slice none 0 0,Value.slice none 0 0,Value.slice none 0 0,Value.slice none 0 0]=z:=⟨_,rfl⟩
 have z6l:z6.length=6:=by rw [← hz6]; rfl
 rw [hp0,hg0,hz6]
 obtain ⟨M,hM⟩:∃ M,newB (newB h g0 [s]) p0 z6=M:=⟨_,rfl⟩
 rw [hM]
 have Mf:∀ j,M.f j=if j=p0 then some (.cells false none z6) else if j=g0 then some (.cells false none [s]) else h.f j:=fun j=>by rw [← hM,Z01,Z01]
 have sM:Z0s c h M:=fun j hj=>by rw [Mf,if_neg qO,if_neg qO]
 have l0:ldN M 1 (.pointer (some ⟨g0,0,none⟩))=some (.agg #[s]):=Z1m (cs:=[]) ⟨false,none,by show M.f g0=_; rw [Mf,if_neg qO,if_pos rfl]⟩
 obtain ⟨r0,hr0,cb,vb,db,eb,tb,V,D,E,T,e0,k0,s0,cl⟩:=ZaF s n Gl M (c+1+1) [] ((hs.same sM).mono qO) hok hn
 obtain ⟨K0,hK0⟩:∃ K,r0.h=K:=⟨_,rfl⟩
 obtain ⟨c0,hc0⟩:∃ c,r0.c=c:=⟨_,rfl⟩
 rw [hK0,hc0] at e0 cl
 rw [hc0] at k0
 rw [hK0] at s0
 rw [e0] at hr0
 have c40:=Z0c hr0
 obtain ⟨⟨t1,t2,t3,t4,t5⟩,t6,t7,t8,t9,t10⟩:=cl.bd
 have ec:=cl.e
 obtain ⟨o1,o2,o3,o4⟩:=ec.o
 obtain ⟨q1,q2,q3,q4,q5,q6⟩:=ec.q
 have u1:Uo K0 cb 1 vb (4*n) V:=⟨⟨_,ec.st,rfl⟩,cl.fv,o1,cl.jv.dn,by omega⟩
 obtain ⟨r1,hr1,V',ob1,e1,k1,a1,b1,f1,_,_,F1⟩:=Z5z cb 1 vb (4*n) (vCs Gl n) V K0 (c0+1) [] u1 cl.jv.1 cl.jv.2 qO qO
 obtain ⟨K1,hK1⟩:∃ K,r1.h=K:=⟨_,rfl⟩
 obtain ⟨c1,hc1⟩:∃ c,r1.c=c:=⟨_,rfl⟩
 rw [hK1,hc1] at e1
 rw [hc1] at k1 b1
 rw [hK1] at f1 F1
 rw [e1] at hr1
 have c41a:=Z0c hr1
 have u2:Uo K1 cb 2 db (16*n) D:=(Uo.mk ⟨_,ec.st,rfl⟩ cl.fd o2 cl.jd.dn qO:Uo K0 cb 2 db (16*n) D).keep (F1 cb qO o1) (F1 db qO (Ne.symm q1))
 obtain ⟨r2,hr2,D',ob2,e2,k2,a2,b2,f2,_,_,F2⟩:=Z5z cb 2 db (16*n) (dCs Gl n) D K1 (c1+1) [] u2 cl.jd.1 cl.jd.2 qO qO
 obtain ⟨K2,hK2⟩:∃ K,r2.h=K:=⟨_,rfl⟩
 obtain ⟨c2,hc2⟩:∃ c,r2.c=c:=⟨_,rfl⟩
 rw [hK2,hc2] at e2
 rw [hc2] at k2 b2
 rw [hK2] at f2 F2
 rw [e2] at hr2
 have c41b:=Z0c hr2
 have u3:Uo K2 cb 3 eb (6*n) E:=((Uo.mk ⟨_,ec.st,rfl⟩ cl.fe o3 cl.je.dn qO:Uo K0 cb 3 eb (6*n) E).keep (F1 cb qO o1) (F1 eb qO (Ne.symm q2))).keep (F2 cb qO o2) (F2 eb qO (Ne.symm q4))
 obtain ⟨r3,hr3,E',ob3,e3,k3,a3,b3,f3,_,_,F3⟩:=Z5z cb 3 eb (6*n) (eCs Gl n) E K2 (c2+1) [] u3 cl.je.1 cl.je.2 qO qO
 obtain ⟨K3,hK3⟩:∃ K,r3.h=K:=⟨_,rfl⟩
 obtain ⟨c3,hc3⟩:∃ c,r3.c=c:=⟨_,rfl⟩
 rw [hK3,hc3] at e3
 rw [hc3] at k3 b3
 rw [hK3] at f3 F3
 rw [e3] at hr3
 have c41c:=Z0c hr3
 have u4:Uo K3 cb 4 tb (4*n) T:=(((Uo.mk ⟨_,ec.st,rfl⟩ cl.ft o4 cl.jt.dn qO:Uo K0 cb 4 tb (4*n) T).keep (F1 cb qO o1) (F1 tb qO (Ne.symm q3))).keep (F2 cb qO o2) (F2 tb qO (Ne.symm q5))).keep (F3 cb qO o3) (F3 tb qO (Ne.symm q6))
 obtain ⟨r4,hr4,T',ob4,e4,k4,a4,b4,f4,_,_,F4⟩:=Z5z cb 4 tb (4*n) (tCs Gl n) T K3 (c3+1) [] u4 cl.jt.1 cl.jt.2 qO qO
 obtain ⟨K4,hK4⟩:∃ K,r4.h=K:=⟨_,rfl⟩
 obtain ⟨c4,hc4⟩:∃ c,r4.c=c:=⟨_,rfl⟩
 rw [hK4,hc4] at e4
 rw [hc4] at k4 b4
 rw [hK4] at f4 F4
 rw [e4] at hr4
 have c41d:=Z0c hr4
 have G4:∀ j,j<256*(c+1+1)->K4.f j=M.f j:=fun j hj=>by
  rw [F4 j qO qO,F3 j qO qO,F2 j qO qO,F1 j qO qO,s0 j hj]
 have v4:K4.f ob1=some (.cells false none (ints (vN Gl n))):=by rw [F4 ob1 qO qO,F3 ob1 qO qO,F2 ob1 qO qO]; exact f1
 have d4:K4.f ob2=some (.cells false none (ints (dN Gl n))):=by rw [F4 ob2 qO qO,F3 ob2 qO qO]; exact f2
 have ee4:K4.f ob3=some (.cells false none (ints (eN Gl n))):=by rw [F4 ob3 qO qO]; exact f3
 have tt4:K4.f ob4=some (.cells false none (ints (tN Gl n))):=f4
 have cb4:K4.f cb=K0.f cb:=by rw [F4 cb qO o4,F3 cb qO o3,F2 cb qO o2,F1 cb qO o1]
 have hmE:nE Gl n<=6*n:=Z8I _ _
 have hmV:nV Gl n<=4*n:=Z8I _ _
 obtain ⟨m,hm⟩:∃ m,nE Gl n=m:=⟨_,rfl⟩
 obtain ⟨cnt,hcnt⟩:∃ m,nV Gl n=m:=⟨_,rfl⟩
 rw [hm] at hmE
 rw [hcnt] at hmV
 rw [show Z5e (vCs Gl n) (4*n)=cnt from hcnt] at c41a
 rw [show Z5e (eCs Gl n) (6*n)=m from hm] at c41c
 have mk1:=Z8y 1 8 .i64 .i64 m qO qO
 have mk2:=Zj1 1 1 .i64 .i64 m qO qO
 obtain ⟨gb,hgb⟩:∃ b,256*c4+1=b:=⟨_,rfl⟩
 obtain ⟨rb,hrb⟩:∃ b,256*c4+3=b:=⟨_,rfl⟩
 obtain ⟨sb,hsb⟩:∃ b,256*c4+5=b:=⟨_,rfl⟩
 obtain ⟨SG,hSG⟩:∃ S,Value.slice (some ⟨gb,0,none⟩) m m=S:=⟨_,rfl⟩
 obtain ⟨SR,hSR⟩:∃ S,Value.slice (some ⟨rb,0,none⟩) m m=S:=⟨_,rfl⟩
 have bv:Z1z z6 [(3,1,SG),(4,1,SR)]=some (.agg [.slice none 0 0,.slice none 0 0,.slice none 0 0,SG,SR,.slice none 0 0].toArray):=by rw [← hz6,← hSG,← hSR]; rfl
 obtain ⟨K5,hK5⟩:∃ K,newB (newB K4 gb (ints (List.replicate m 0))) rb (bools (List.replicate m false))=K:=⟨_,rfl⟩
 have st8:stN (newB K5 sb z6) 6 (.pointer (some ⟨sb,0,none⟩)) (.agg [.slice none 0 0,.slice none 0 0,.slice none 0 0,SG,SR,.slice none 0 0].toArray)=some (newB K5 sb [.slice none 0 0,.slice none 0 0,.slice none 0 0,SG,SR,.slice none 0 0]):=by
  rw [Z0z _ 6 _ 0 _ _ (by simp [Value.cells]) qO (by rw [← hSG,← hSR]; rfl),← hz6]; rfl
 obtain ⟨H8,hH8⟩:∃ H,newB K5 sb [.slice none 0 0,.slice none 0 0,.slice none 0 0,SG,SR,.slice none 0 0]=H:=⟨_,rfl⟩
 rw [hH8] at st8
 have H8f:∀ j,H8.f j=if j=sb then some (.cells false none [.slice none 0 0,.slice none 0 0,.slice none 0 0,SG,SR,.slice none 0 0]) else if j=rb then some (.cells false none (bools (List.replicate m false))) else if j=gb then some (.cells false none (ints (List.replicate m 0))) else K4.f j:=fun j=>by
  rw [← hH8,Z01,← hK5,Z01,Z01]
 have G8:∀ j,j<256*c4->H8.f j=K4.f j:=fun j hj=>by rw [H8f,if_neg qO,if_neg qO,if_neg qO]
 have ls8:ld1 H8 (.pointer (some ⟨g0,0,none⟩))=some s:=by
  rw [Z02 (cs:=[s]) ⟨false,none,by show H8.f g0=_; rw [G8 _ qO,G4 _ qO,Mf,if_neg qO,if_pos rfl]⟩]; rfl
 have len:=hs.len
 have sk0:SkI (c4+1) (c4+1+1) sb gb rb m 0 H8 H8 (.slice none 0 0) (.slice none 0 0) (.slice none 0 0) (.slice none 0 0) (vN Gl n) (eN Gl n) (tN Gl n) (List.replicate m 0,List.replicate m false):=by
  refine ⟨by rw [H8f,if_pos rfl,hSG,hSR],.inl ⟨rfl,rfl,rfl⟩,.inl ⟨rfl,rfl,rfl⟩,.inl ⟨rfl,rfl,rfl⟩,(fun h=>absurd rfl h),(fun h=>absurd rfl h),(fun h=>absurd rfl h), ?_, ?_,fun _ _ _ _ _=>rfl⟩
  · rw [H8f,if_neg qO,if_neg qO,if_pos rfl]
  · rw [H8f,if_neg qO,if_pos rfl]
 have eLt:=Znz (Gl:=Gl) (n:=n) cl.je.2
 rw [hm] at eLt
 have sb0:SB m (List.replicate m 0,List.replicate m false) (6*0):=⟨by simp,by simp,fun x=>by
  have:(List.replicate m (0:Int)).getD x 0=0:=by rw [List.getD_eq_getElem?_getD,List.getElem?_replicate]; split <;> rfl
  rw [this]; omega⟩
 obtain ⟨⟨e9',vs9,H9,c9,df9⟩,ex9,x1,x2,x3,x4,vv,ev,tv,sk⟩:=Zmf p0 cb ob1 ob2 ob3 ob4 sb gb rb n m (c4+1) (cnt:Int) (vN Gl n) (dN Gl n) (eN Gl n) (tN Gl n) (.slice none 0 0) H8 [] (by rw [G8 _ qO]; exact v4) (by rw [G8 _ qO]; exact d4) (by rw [G8 _ qO]; exact ee4) (by rw [G8 _ qO]; exact tt4) (Z12 _ _) (Z12 _ _) (Z12 _ _) (Z12 _ _) eLt hn qO qO qO qO qO qO qO qO qO qO qO qO qO qO qO qO qO n 0 (c4+1+1) H8 _ _ _ _ qO qO sk0 sb0
 dsimp only at x1 x2 x3 x4 sk
 subst x1 x2 x3
 simp only [Int.ofNat_eq_natCast,Int.cast_ofNat_Int] at ex9
 have hz:sTs (eN Gl n) (dN Gl n) n 0 (List.replicate m 0,List.replicate m false)=skZ Gl n:=by rw [skZ,hm]
 rw [hz] at sk
 have G9:∀ j,j<256*c4->H9.f j=K4.f j:=fun j hj=>by rw [sk.base j qO qO qO qO,G8 j hj]
 have sm9:Z0s c h H9:=fun j hj=>by rw [G9 j qO,G4 j qO]; exact sM j hj
 have own:∀ (b k:Nat) (L:List Int),H9.f b=some (.cells false none (ints L))->b<256*(c9+1)->L.length=k->k<=9223372036854775807->SlI H9 (c9+1) (.slice (some ⟨b,0,none⟩) k k) 1 k L:=fun b k L hf hb hL hk=>by
  refine ⟨by omega,hk,some ⟨b,0,none⟩,k,rfl,.inr ⟨b,0,ints L,rfl,hb,⟨false,none,hf⟩, ?_⟩⟩
  rw [List.drop_zero,List.take_of_length_le (by simp [hL])]
 have hcb9:Z0f H9 cb [s,.slice (some ⟨vb,0,none⟩) (4*n) (4*n),.slice (some ⟨db,0,none⟩) (16*n) (16*n),.slice (some ⟨eb,0,none⟩) (6*n) (6*n),.slice (some ⟨tb,0,none⟩) (4*n) (4*n)]:=by
  obtain ⟨ro,op,q⟩:=ec.st
  exact ⟨ro,op,by show H9.f cb=_; rw [G9 cb qO,cb4]; exact q⟩
 obtain ⟨⟨e10',vs10,H10,c10,df10⟩,ex10,y1,y2,y3,y4,lv,y5,y6,y7⟩:=Zix p0 cb ob1 ob2 sb n (c9+1) cnt _ s vv ev tv SG SR Gl (vN Gl n) (dN Gl n) H9 [] hcb9 ((hs.same sm9).mono qO) hok (own ob1 (4*n) _ (by rw [G9 _ qO]; exact v4) qO (Z12 _ _) qO) (own ob2 (16*n) _ (by rw [G9 _ qO]; exact d4) qO (Z12 _ _) qO) hn qO qO qO (fun h0=>by have:=hs.blk h0; omega) qO qO hmV cnt 0 (c9+1) H9 (.slice none 0 0) qO (Nat.le_refl _) (by rw [← hSG,← hSR]; exact sk.fs) (.inl ⟨rfl,rfl,rfl⟩) (fun _ _ _=>rfl)
 dsimp only at y1 y2 y3 y4 y5 y6 y7
 subst y1 y2 y3
 simp only [Int.ofNat_eq_natCast,Int.cast_ofNat_Int] at ex10
 obtain ⟨R,hR⟩:∃ R,[vv,ev,tv,SG,SR,lv]=R:=⟨_,rfl⟩
 have R6:R.length=6:=by rw [← hR]; rfl
 have Rf:R.all Z07=true:=by
  rw [← hR,← hSG,← hSR]
  simp only [List.all_cons,List.all_nil,sk.gv.flat.1,sk.ge.flat.1,sk.gt.flat.1,y6.flat.1,Bool.and_true,Bool.true_and]
  rfl
 rw [hR] at y5
 have l10:ldN H10 6 (.pointer (some ⟨sb,0,none⟩))=some (.agg R.toArray):=by
  rw [ldN_holds (cs:=R) ⟨false,none,y5⟩ qO,List.drop_zero,List.take_of_length_le qO]
 have fp:H10.f p0=some (.cells false none z6):=by rw [y7 p0 qO qO,G9 _ qO,G4 _ qO,Mf,if_pos rfl]
 have e10:newB H10 p0 z6=H10:=by
  apply FH.ext; intro k
  rw [Z01]; split
  · rename_i e; rw [e,fp]
  · rfl
 have w10:stN H10 6 (.pointer (some ⟨p0,0,none⟩)) (.agg R.toArray)=some (newB H10 p0 R):=by
  have:=Z0z H10 6 p0 0 z6 (.agg R.toArray) (by simp [Value.cells,R6]) qO (by simpa [Value.cells] using Rf)
  rw [e10] at this
  rw [this]
  simp [Z0W,Value.cells,R6,List.drop_of_length_le (show z6.length<=6 by omega)]
 have l11:ldN (newB H10 p0 R) 6 (.pointer (some ⟨p0,0,none⟩))=some (.agg R.toArray):=by
  rw [ldN_newB_same _ _ _ _ _ qO,List.drop_zero,List.take_of_length_le qO]
 obtain ⟨H11,hH11⟩:∃ H,newB H10 p0 R=H:=⟨_,rfl⟩
 rw [hH11] at w10 l11
 have H11f:∀ j,j ≠ p0->H11.f j=H10.f j:=fun j hj=>by rw [← hH11,Z01,if_neg hj]
 obtain ⟨Z1,hZ1⟩:∃ Z,Value.slice (some ⟨ob1,0,none⟩) (4*n) (4*n)=Z:=⟨_,rfl⟩
 obtain ⟨Z2,hZ2⟩:∃ Z,Value.slice (some ⟨ob2,0,none⟩) (16*n) (16*n)=Z:=⟨_,rfl⟩
 obtain ⟨Z3,hZ3⟩:∃ Z,Value.slice (some ⟨ob3,0,none⟩) (6*n) (6*n)=Z:=⟨_,rfl⟩
 obtain ⟨Z4,hZ4⟩:∃ Z,Value.slice (some ⟨ob4,0,none⟩) (4*n) (4*n)=Z:=⟨_,rfl⟩
 rw [hZ1] at c41a ex9 ex10
 rw [hZ2] at c41b ex9 ex10
 rw [hZ3] at c41c ex9
 rw [hZ4] at c41d ex9
 obtain ⟨d2n,hd2n⟩:∃ d,Z5e (dCs Gl n) (16*n)=d:=⟨_,rfl⟩
 obtain ⟨t2n,ht2n⟩:∃ d,Z5e (tCs Gl n) (4*n)=d:=⟨_,rfl⟩
 rw [hd2n] at c41b
 rw [ht2n] at c41d
 have xv0:∀ a b:Value,Z46 (.tuple #[a,b]) 0=some a:=fun _ _=>rfl
 have xv1:∀ a b:Value,Z46 (.tuple #[a,b]) 1=some b:=fun _ _=>rfl
 have fx:=ai l0 (ai c40 (ai c41a (ai c41b (ai c41c (ai c41d (ai xv0 (ai xv1 (ai mk1 (ai mk2 (ai hgb (ai hrb (ai hsb (ai hSG (ai hSR (ai bv (ai hK5 (ai st8 (ai ls8 (ai len (ai ex9 (ai ex10 (ai l10 (ai w10 l11)))))))))))))))))))))))
 refine Ans.go ?_
 clear fx
 have keep:∀ {v:Value} {sz k:Nat} {L:List Value},GrC (c4+1) H9 c9 v sz k L->GrC c H11 (c10+1) v sz k L:=fun {v sz k L} g =>
  Z4L ((g.keep (h':=H11) fun hv=>by
   have:=g.blk hv
   rw [H11f _ qO,y7 _ qO qO]).mono (c':=c10+1) qO) qO
 have tv4:(vN Gl n).take (4*n)=vN Gl n:=List.take_of_length_le (by rw [vN,Z12]; exact Nat.le_refl _)
 have te6:(eN Gl n).take (6*n)=eN Gl n:=List.take_of_length_le (by rw [eN,Z12]; exact Nat.le_refl _)
 have tt4':(tN Gl n).take (4*n)=tN Gl n:=List.take_of_length_le (by rw [tN,Z12]; exact Nat.le_refl _)
 have g1:=keep sk.gv
 have g2:=keep sk.ge
 have g3:=keep sk.gt
 rw [tv4] at g1
 rw [te6] at g2
 rw [tt4'] at g3
 refine .done ⟨vv,ev,tv,gb,rb,lv,by rw [hm,hSG,hSR,← hR],by dsimp only; omega,fun j hj=>?_,⟨g1,g2,g3, ?_, ?_, ?_,⟨by omega,by dsimp only; omega⟩,⟨by omega,by dsimp only; omega⟩⟩⟩
 · show H11.f j=h.f j
   rw [H11f j qO,y7 j qO qO]
   exact sm9 j hj
 · show H11.f gb=_
   rw [H11f _ qO,y7 _ qO qO]
   exact sk.fg
 · show H11.f rb=_
   rw [H11f _ qO,y7 _ qO qO]
   exact sk.fr
 · rw [hcnt]
   exact Z4L ((y6.keep (h':=H11) fun hv=>by
    have:=y6.blk hv
    rw [H11f _ qO]).mono (c':=c10+1) qO) qO

def Z7D:List Value:=[.slice none 0 0,.slice none 0 0,.slice none 0 0,.slice none 0 0,.slice none 0 0,.slice none 0 0]
theorem Z8e {h:FH} {b n:Nat} {z L:List Value} (hf:h.f b=some (.cells false none z)) (hz:z.length=n) (hL:L.length=n) (hLf:L.all Z07=true):stN h n (.pointer (some ⟨b,0,none⟩)) (.agg L.toArray)=some (newB h b L):=by
 have e:newB h b z=h:=by
  apply FH.ext; intro k
  rw [Z01]; split
  · rename_i e; rw [e,hf]
  · rfl
 have:=Z0z h n b 0 z (.agg L.toArray) (by simp [Value.cells,hL]) qO (by simpa [Value.cells] using hLf)
 rw [e] at this
 rw [this]
 simp [Z0W,Value.cells,hL,List.drop_of_length_le (show z.length<=n by omega)]
theorem Z1r {h:FH} {b n:Nat} {L:List Value} (hf:h.f b=some (.cells false none L)) (hL:L.length=n):ldN h n (.pointer (some ⟨b,0,none⟩))=some (.agg L.toArray):=by
 rw [ldN_holds (cs:=L) ⟨false,none,hf⟩ qO,List.drop_zero,List.take_of_length_le qO]
theorem of_bad (s:Value) (n:Nat) (Gl:List Int) (h:FH) (c:Nat) (df:List Nat) (hs:SlI h c s 20 n Gl) (hok:¬ (n<=1000/\Z0v Gl n=true)) :
 Ans (G (.fn 11) [.agg #[s]] h c df) fun r=>r=⟨.ret,[.tuple #[.agg Z7D.toArray,.int .i64 7]],r.h,r.c,[]⟩/\c<=r.c/\Z0s c h r.h:=by
 refine Ans.call' (fun r e=>ZlS e) ?_
 have Z6b:((Value.agg #[s]).cells.toList.all Z07)=true:=by simp [Value.cells,hs.flat]
 have Z6d:(Value.agg #[s]).cells.toList=[s]:=rfl
 unfold Zg0
 rw [Z6b,Z6d]
 simp only [cond_true,Nat.add_zero]
 obtain ⟨g0,hg0⟩:∃ b,256*c=b:=⟨_,rfl⟩
 obtain ⟨p0,hp0⟩:∃ b,256*c+1=b:=⟨_,rfl⟩
 obtain ⟨M,hM⟩:∃ M,newB (newB h g0 [s]) p0 Z7D=M:=⟨_,rfl⟩
 rw [hp0,hg0,show [Value.slice none 0 0,Value.slice none 0 0,Value.slice none 0 0,Value.slice none 0 0,Value.slice none 0 0,Value.slice none 0 0]=Z7D from rfl,hM]
 have Mf:∀ j,M.f j=if j=p0 then some (.cells false none Z7D) else if j=g0 then some (.cells false none [s]) else h.f j:=fun j=>by rw [← hM,Z01,Z01]
 have sM:Z0s c h M:=fun j hj=>by rw [Mf,if_neg qO,if_neg qO]
 have l0:ldN M 1 (.pointer (some ⟨g0,0,none⟩))=some (.agg #[s]):=Z1m (cs:=[]) ⟨false,none,by show M.f g0=_; rw [Mf,if_neg qO,if_pos rfl]⟩
 have ck:=Z0c (Zbh s n Gl M (c+1+1) [] ((hs.same sM).mono qO))
 rw [if_neg hok] at ck
 have b6:Z1z Z7D []=some (.agg Z7D.toArray):=rfl
 have fp:M.f p0=some (.cells false none Z7D):=by rw [Mf,if_pos rfl]
 have w1:stN M 6 (.pointer (some ⟨p0,0,none⟩)) (.agg Z7D.toArray)=some (newB M p0 Z7D):=Z8e fp rfl rfl rfl
 have l1:ldN (newB M p0 Z7D) 6 (.pointer (some ⟨p0,0,none⟩))=some (.agg Z7D.toArray):=Z1r (by rw [Z01,if_pos rfl]) rfl
 obtain ⟨N6,hN6⟩:∃ N,Z7D=N:=⟨_,rfl⟩
 rw [hN6] at b6 w1 l1 ⊢
 obtain ⟨H,hH⟩:∃ H,newB M p0 N6=H:=⟨_,rfl⟩
 rw [hH] at w1 l1
 have fx:=ai l0 (ai ck (ai b6 (ai w1 l1)))
 refine Ans.go ?_
 clear fx
 refine .done ⟨rfl,by dsimp only; omega,fun j hj=>?_⟩
 show H.f j=h.f j
 rw [← hH,Z01,if_neg qO]
 exact sM j hj
theorem of_ok (s:Value) (n:Nat) (Gl:List Int) (h:FH) (c:Nat) (df:List Nat) (hs:SlI h c s 20 n Gl) (hok:Z0v Gl n=true) (hn:n<=60) :
 Ans (G (.fn 11) [.agg #[s]] h c df) fun r=>∃ vv ev tv gb rb lv,r=⟨.ret,[.tuple #[.agg #[vv,ev,tv,.slice (some ⟨gb,0,none⟩) (nE Gl n) (nE Gl n),.slice (some ⟨rb,0,none⟩) (nE Gl n) (nE Gl n),lv],.int .i64 0]],r.h,r.c,[]⟩/\c<=r.c/\Z0s c h r.h/\SkV c r.c r.h vv ev tv gb rb lv n Gl:=by
 refine Ans.call' (fun r e=>ZlS e) ?_
 have Z6b:((Value.agg #[s]).cells.toList.all Z07)=true:=by simp [Value.cells,hs.flat]
 have Z6d:(Value.agg #[s]).cells.toList=[s]:=rfl
 unfold Zg0
 rw [Z6b,Z6d]
 simp only [cond_true,Nat.add_zero]
 obtain ⟨g0,hg0⟩:∃ b,256*c=b:=⟨_,rfl⟩
 obtain ⟨p0,hp0⟩:∃ b,256*c+1=b:=⟨_,rfl⟩
 obtain ⟨M,hM⟩:∃ M,newB (newB h g0 [s]) p0 Z7D=M:=⟨_,rfl⟩
 rw [hp0,hg0,show [Value.slice none 0 0,Value.slice none 0 0,Value.slice none 0 0,Value.slice none 0 0,Value.slice none 0 0,Value.slice none 0 0]=Z7D from rfl,hM]
 have Mf:∀ j,M.f j=if j=p0 then some (.cells false none Z7D) else if j=g0 then some (.cells false none [s]) else h.f j:=fun j=>by rw [← hM,Z01,Z01]
 have sM:Z0s c h M:=fun j hj=>by rw [Mf,if_neg qO,if_neg qO]
 have l0:ldN M 1 (.pointer (some ⟨g0,0,none⟩))=some (.agg #[s]):=Z1m (cs:=[]) ⟨false,none,by show M.f g0=_; rw [Mf,if_neg qO,if_pos rfl]⟩
 have ck:=Z0c (Zbh s n Gl M (c+1+1) [] ((hs.same sM).mono qO))
 rw [if_pos ⟨by omega,hok⟩] at ck
 obtain ⟨r0,hr0,vv,ev,tv,gb,rb,lv,e0,k0,s0,sk⟩:=Zc8 s n Gl M (c+1+1+1) [] ((hs.same sM).mono qO) hok hn
 obtain ⟨K,hK⟩:∃ K,r0.h=K:=⟨_,rfl⟩
 obtain ⟨k,hk⟩:∃ c,r0.c=c:=⟨_,rfl⟩
 rw [hK,hk] at e0 sk
 rw [hk] at k0
 rw [hK] at s0
 rw [e0] at hr0
 have c39:=Z0c hr0
 have fp:K.f p0=some (.cells false none Z7D):=by rw [s0 p0 qO,Mf,if_pos rfl]
 obtain ⟨R,hR⟩:∃ R,[vv,ev,tv,.slice (some ⟨gb,0,none⟩) (nE Gl n) (nE Gl n),.slice (some ⟨rb,0,none⟩) (nE Gl n) (nE Gl n),lv]=R:=⟨_,rfl⟩
 have hR':Value.agg #[vv,ev,tv,.slice (some ⟨gb,0,none⟩) (nE Gl n) (nE Gl n),.slice (some ⟨rb,0,none⟩) (nE Gl n) (nE Gl n),lv] = .agg R.toArray:=by rw [← hR]
 have R6:R.length=6:=by rw [← hR]; rfl
 have Rf:R.all Z07=true:=by
  rw [← hR]
  simp only [List.all_cons,List.all_nil,sk.gv.flat.1,sk.ge.flat.1,sk.gt.flat.1,sk.gl.flat.1,Bool.and_true,Bool.true_and]
  rfl
 rw [hR'] at c39
 have w1:stN K 6 (.pointer (some ⟨p0,0,none⟩)) (.agg R.toArray)=some (newB K p0 R):=Z8e fp rfl R6 Rf
 have l1:ldN (newB K p0 R) 6 (.pointer (some ⟨p0,0,none⟩))=some (.agg R.toArray):=Z1r (by rw [Z01,if_pos rfl]) R6
 obtain ⟨H,hH⟩:∃ H,newB K p0 R=H:=⟨_,rfl⟩
 rw [hH] at w1 l1
 have Hf:∀ j,j ≠ p0->H.f j=K.f j:=fun j hj=>by rw [← hH,Z01,if_neg hj]
 have fx:=ai l0 (ai ck (ai c39 (ai w1 l1)))
 refine Ans.go ?_
 clear fx
 have kp:∀ {v:Value} {sz k':Nat} {L:List Value},GrC (c+1+1+1) K k v sz k' L->GrC c H k v sz k' L:=fun {v sz k' L} g =>
  Z4L (g.keep (h':=H) fun hv=>Hf _ (by have:=g.blk hv; omega)) qO
 refine .done ⟨vv,ev,tv,gb,rb,lv,by rw [hR'],by dsimp only; omega,fun j hj=>?_,⟨kp sk.gv,kp sk.ge,kp sk.gt, ?_, ?_,kp sk.gl,⟨by have:=sk.b1; omega,sk.b1.2⟩,⟨by have:=sk.b2; omega,sk.b2.2⟩⟩⟩
 · show H.f j=h.f j
   rw [Hf j qO,s0 j qO]
   exact sM j hj
 · show H.f gb=_
   rw [Hf _ (by have:=sk.b1; omega)]; exact sk.fg
 · show H.f rb=_
   rw [Hf _ (by have:=sk.b2; omega)]; exact sk.fr


theorem Zcv (n:Nat) (Gl V D:List Int):∀ k,(lkL n Gl V D k).length=k*6
 | 0=>rfl
 | k+1=>by rw [lkL,List.length_append,Zcv n Gl V D k,Z68]; omega
theorem ZlK (n:Nat) (Gl V D:List Int) {k:Nat}:∀ {m:Nat},k<m->((lkL n Gl V D m).drop (k*6)).take 6=lkD n Gl V D k
 | 0,h=>by omega
 | m+1,h=>by
  have hl:=Zcv n Gl V D m
  rw [lkL]
  by_cases e:k=m
  · subst e
    rw [List.drop_append,List.drop_of_length_le qO,List.nil_append,hl,Nat.sub_self,List.drop_zero,List.take_of_length_le (by rw [Z68]; omega)]
  · rw [List.drop_append_of_le_length qO,List.take_append_of_le_length (by rw [List.length_drop]; omega)]
    exact ZlK n Gl V D qO

def KP (c0:Nat) (h0:FH) (c:Nat) (v:Int) (q:Rt FH):Prop:=c<=q.c/\q.df=[]/\Z0s c0 h0 q.h/\((q.e = .exit 0/\v=4) ∨ (q.e = .ret /\ ∃ x y z,q.vs=[.int .i64 v,.int .i64 0,x,y,z]))
theorem KP.mono {c0 c c':Nat} {h0:FH} {v:Int} {q:Rt FH} (h:KP c0 h0 c' v q) (hc:c<=c'):KP c0 h0 c v q:=⟨by have:=h.1; omega,h.2⟩

end Go.Proofs.Ytdodippbpdechaa

namespace Go.Ab
def Z3X (f:Nat->Int):Nat->Int
 | 0=>0
 | n+1=>Z3X f n+f n
theorem Z1h {f g:Nat->Int}:∀ {n:Nat},(∀ a,a<n->f a=g a)->Z3X f n=Z3X g n
 | 0,_=>rfl
 | n+1,h=>by rw [Z3X,Z3X,Z1h (n:=n) (fun a ha=>h a qO),h n qO]
theorem Zdo (f g:Nat->Int):∀ (n:Nat),Z3X (fun a=>f a+g a) n=Z3X f n+Z3X g n
 | 0=>by simp [Z3X]
 | n+1=>by rw [Z3X,Z3X,Z3X,Zdo f g n]; omega
theorem Z5u (k:Int):∀ (n:Nat),Z3X (fun _=>k) n=n*k
 | 0=>by simp [Z3X]
 | n+1=>by rw [Z3X,Z5u k n,Int.natCast_add,Int.add_mul]; simp
theorem Z89 (n:Nat):Z3X (fun _=>0) n=0:=by rw [Z5u]; simp
theorem Z8a (h:Nat->Nat->Int) (N:Nat):∀ (M:Nat),Z3X (fun a=>Z3X (fun b=>h a b) N) M=Z3X (fun b=>Z3X (fun a=>h a b) M) N
 | 0=>by simp only [Z3X]; exact (Z89 N).symm
 | M+1=>by
  rw [Z3X,Z8a h N M]
  have:(fun b=>Z3X (fun a=>h a b) (M+1))=fun b=>Z3X (fun a=>h a b) M+h M b:=by funext b; rfl
  rw [this,Zdo]
theorem Z3J (g:Nat->Int) (b0:Nat):∀ {N:Nat},Z3X (fun b=>if b=b0 then g b else 0) N=if b0<N then g b0 else 0
 | 0=>by simp [Z3X]
 | N+1=>by
  rw [Z3X,Z3J g b0 (N:=N)]
  by_cases h1:b0<N
  · rw [if_pos h1,if_neg qO,if_pos qO]; omega
  · by_cases h2:N=b0
    · subst h2; rw [if_neg h1,if_pos rfl,if_pos qO]; omega
    · rw [if_neg h1,if_neg h2,if_neg qO]; rfl
end Go.Ab

namespace Go.Ab
theorem pigeon {N:Nat} {s:Nat->Nat} (h:∀ i,i<=N->s i<N):∃ i j,i<j/\j<=N/\s i=s j:=by
 apply Classical.byContradiction
 intro hn
 have inj:∀ i j,i<=N->j<=N->s i=s j->i=j:=fun i j hi hj e=>by
  rcases Nat.lt_trichotomy i j with h1 | h1 | h1
  · exact absurd ⟨i,j,h1,hj,e⟩ hn
  · exact h1
  · exact absurd ⟨j,i,h1,hi,e.symm⟩ hn
 have A:Z3X (fun i=>Z3X (fun b=>if b=s i then (1:Int) else 0) N) (N+1)=(N+1:Nat):=by
  rw [Z1h (g:=fun _=>1) (fun i hi=>by rw [Z3J (fun _=>1) (s i),if_pos (h i qO)]),Z5u]
  omega
 rw [Z8a] at A
 have B:∀ (m:Nat) (f:Nat->Int),(∀ b,b<m->f b<=1)->Z3X f m<=m:=by
  intro m f
  induction m with
  | zero=>intro _; simp [Z3X]
  | succ m ih =>
   intro hf
   have:=ih fun b hb=>hf b qO
   have:=hf m qO
   rw [Z3X]; omega
 have C:=B N (fun b=>Z3X (fun i=>if b=s i then (1:Int) else 0) (N+1)) fun b hb=>by
  show Z3X (fun i=>if b=s i then (1:Int) else 0) (N+1)<=1
  by_cases e:∃ i,i<N+1/\s i=b
  · obtain ⟨i0,h0,rfl⟩:=e
    rw [Z1h (g:=fun i=>if i=i0 then (1:Int) else 0) (fun i hi=>by
     by_cases q:i=i0
     · rw [q,if_pos rfl,if_pos rfl]
     · rw [if_neg q,if_neg (fun z=>q (inj i i0 qO qO z.symm))]),Z3J (fun _=>1) i0,if_pos h0]
    exact Int.le_refl _
  · rw [Z1h (g:=fun _=>0) (fun i hi=>if_neg fun z=>e ⟨i,hi,z.symm⟩),Z89]
    decide
 omega
def orb (f:Nat->Option Nat) (s:Nat):Nat->Option Nat
 | 0=>some s
 | k+1=>(orb f s k).bind f
end Go.Ab

namespace Go.Ab
open Go
def it {α:Type} (f:α->Option α) (s:α):Nat->Option α
 | 0=>some s
 | k+1=>(it f s k).bind f
section
variable {α:Type} {f:α->Option α} {S:α->Prop} {cd:α->Nat} {N:Nat} {s:α}
theorem Z1W (hf:∀ a b,S a->f a=some b->S b) (hs:S s):∀ {k:Nat} {x:α},it f s k=some x->S x
 | 0,x,h=>by cases h; exact hs
 | k+1,x,h=>by
  simp only [it,Option.bind_eq_some_iff] at h
  obtain ⟨y,h1,h2⟩:=h
  exact hf y x (Z1W hf hs h1) h2
theorem Zcw:∀ {k j:Nat},it f s k=none->k<=j->it f s j=none
 | k,0,h,hj=>by rw [show (0:Nat)=k by omega]; exact h
 | k,j+1,h,hj=>by
  by_cases e:k=j+1
  · rw [← e]; exact h
  · rw [it,Zcw h qO]; rfl
theorem Zeh (hf:∀ a b,S a->f a=some b->S b) (hc:∀ a,S a->cd a<N) (hi:∀ a b,S a->S b->cd a=cd b->a=b) (inj:∀ a a' b,S a->S a'->f a=some b->f a'=some b->a=a') (hs:S s) :
 (∃ k,k<=N/\it f s k=none) ∨ ∃ k,1<=k/\k<=N/\it f s k=some s:=by
 by_cases e:∃ k,k<=N/\it f s k=none
 · exact .inl e
 right
 have hx:∀ k,k<=N -> ∃ x,it f s k=some x:=fun k hk=>by
  cases h:it f s k with
  | none=>exact absurd ⟨k,hk,h⟩ e
  | some x=>exact ⟨x,rfl⟩
 obtain ⟨g,hg⟩:∃ g:Nat->α,g=fun k=>(it f s k).getD s:=⟨_,rfl⟩
 have hgk:∀ k,k<=N->it f s k=some (g k):=fun k hk=>by
  obtain ⟨x,h⟩:=hx k hk
  rw [hg]
  show it f s k=some ((it f s k).getD s)
  rw [h]; rfl
 have gS:∀ k,k<=N->S (g k):=fun k hk=>Z1W hf hs (hgk k hk)
 obtain ⟨i,j,hij,hj,he⟩:=pigeon (N:=N) (s:=fun k=>cd (g k)) fun k hk=>hc _ (gS k hk)
 have key:∀ i j,i<j->j<=N->g i=g j->it f s (j-i)=some s:=by
  intro i
  induction i with
  | zero =>
   intro j h1 h2 h3
   rw [Nat.sub_zero,hgk j h2,← h3]
   have:=hgk 0 qO
   rw [← this]; rfl
  | succ i ih =>
   intro j h1 h2 h3
   obtain ⟨j,rfl⟩:∃ k,j=k+1:=⟨j-1,by omega⟩
   have a1:=hgk (i+1) qO
   have a2:=hgk (j+1) h2
   have b1:=hgk i qO
   have b2:=hgk j qO
   rw [it,b1] at a1
   rw [it,b2] at a2
   rw [h3] at a1
   have:=inj _ _ _ (gS i qO) (gS j qO) a1 a2
   rw [show j+1-(i+1)=j-i by omega]
   exact ih j qO qO this
 exact ⟨j-i,by omega,by omega,key i j hij hj (hi _ _ (gS i qO) (gS j hj) he)⟩
theorem Zeg (hf:∀ a b,S a->f a=some b->S b) (hc:∀ a,S a->cd a<N) (hi:∀ a b,S a->S b->cd a=cd b->a=b) (inj:∀ a a' b,S a->S a'->f a=some b->f a'=some b->a=a') (hs:S s) (h0:∀ a,S a->f a ≠ some s):∃ k,k<=N/\it f s k=none:=by
 rcases Zeh hf hc hi inj hs with h | ⟨k,h1,h2,h3⟩
 · exact h
 · obtain ⟨k,rfl⟩:∃ j,k=j+1:=⟨k-1,by omega⟩
   simp only [it,Option.bind_eq_some_iff] at h3
   obtain ⟨y,h4,h5⟩:=h3
   exact absurd h5 (h0 y (Z1W hf hs h4))
theorem ZmK {b:α->Option α} (hf:∀ a b,S a->f a=some b->S b) (hb:∀ x y,S x->b x=some y->S y) (hc:∀ a,S a->cd a<N) (hi:∀ a b,S a->S b->cd a=cd b->a=b)
 (h1:∀ x y,S x->f x=some y->b y=some x) (h2:∀ x y,S x->b x=some y->f y=some x) (hs:S s) {m:Nat} (hm:it f s m=none):∃ k,k<=N/\it b s k=none:=by
 rcases Zeh hb hc hi (fun a a' y ha ha' e e'=>by
  have q1:=h2 a y ha e
  have q2:=h2 a' y ha' e'
  rw [q1] at q2; exact Option.some.inj q2) hs with h | ⟨k,k1,k2,k3⟩
 · exact h
 · exfalso
   have cl:∀ j,∃ i x,it f s j=some x/\it b s i=some x:=by
    intro j
    induction j with
    | zero=>exact ⟨0,s,rfl,rfl⟩
    | succ j ih =>
     obtain ⟨i,x,e1,e2⟩:=ih
     have pos:∃ i',it b s (i'+1)=some x:=by
      cases i with
      | zero =>
       have:s=x:=by simpa [it] using e2
       exact ⟨k-1,by rw [show k-1+1=k by omega,k3,this]⟩
      | succ i=>exact ⟨i,e2⟩
     obtain ⟨i',e3⟩:=pos
     have e4:=e3
     simp only [it,Option.bind_eq_some_iff] at e4
     obtain ⟨y,e5,e6⟩:=e4
     exact ⟨i',y,by rw [it,e1]; exact h2 y x (Z1W hb hs e5) e6,e5⟩
   obtain ⟨i,x,e1,-⟩:=cl m
   rw [hm] at e1; cases e1
end
theorem ZaL {α:Type} {f:α->Option α} {s x:α} {k m:Nat} (h:it f s k=some x) (hm:it f s m=none):k<m:=by
 rcases Nat.lt_or_ge k m with q | q
 · exact q
 · rw [Zcw hm q] at h; cases h
theorem Z1e {α:Type} {f:α->Option α} {s x:α} {k:Nat} (h:it f s k=some x) {j:Nat} (hj:j<=k):(it f s j).isSome=true:=by
 cases e:it f s j with
 | some y=>rfl
 | none=>rw [Zcw e hj] at h; cases h
theorem Z4e {α:Type} {f:α->Option α} {s x:α} {a:Nat} (h:it f s a=some x):∀ b,it f s (a+b)=it f x b
 | 0=>h
 | b+1=>by rw [← Nat.add_assoc,it,it,Z4e h b]
theorem Zh9 {α:Type} {f:α->Option α} {s:α} {k:Nat} (hk:1<=k) (h:it f s k=some s):∀ m,it f s m ≠ none:=by
 intro m
 induction m using Nat.strongRecOn with
 | ind m ih =>
  intro e
  rcases Nat.lt_or_ge m k with q | q
  · have:=Z1e h (Nat.le_of_lt q)
    rw [e] at this; cases this
  · have:=Z4e h (m-k)
    rw [show k+(m-k)=m by omega,e] at this
    exact ih (m-k) qO this.symm
theorem Zh8 {α:Type} {f:α->Option α} {s x y:α} {i j:Nat} (h1:it f s i=some x) (h2:it f s (i+1)=none) (h3:it f s j=some y) (h4:it f s (j+1)=none):i=j/\x=y:=by
 have:=ZaL h1 h4
 have:=ZaL h3 h2
 obtain rfl:i=j:=by omega
 rw [h1] at h3
 exact ⟨rfl,Option.some.inj h3⟩
def Z5d:List Int:=[0,1,3,2]
theorem Zbu:Z5d ∈ p24:=by decide
def wF (Gl:List Int) (x:List Int) (lab:Nat):List Int:=Z03 Gl (x.getD 0 0).toNat (x.getD (1+lab) 0).toNat
def wN (Gl:List Int) (lab:Nat) (x:List Int):Option (List Int):=if Z0x (wF Gl x lab)<0 then none else some (Z0x (wF Gl x lab)::Z0S (Z0d (wF Gl x lab)) (Z0S (x.drop 1) Z5d))
structure WOk (n:Nat) (x:List Int):Prop where
 l:x.length=5
 t:0<=x.getD 0 0/\x.getD 0 0<n
 p:x.drop 1 ∈ p24
theorem WOk.form {n:Nat} {x:List Int} (h:WOk n x):x=x.getD 0 0::x.drop 1:=by
 have:=h.l
 match x,this with
 | [a,b,c,d,e],_=>rfl
theorem WOk.mk' {n t:Nat} {p:List Int} (ht:t<n) (hp:p ∈ p24):WOk n ((t:Int)::p):=by
 have:=Z44 hp
 exact ⟨by simp [this],⟨by show (0:Int)<=t; omega,by show (t:Int)<n; omega⟩,hp⟩
theorem WOk.lab {n:Nat} {x:List Int} (h:WOk n x) {lab:Nat} (hl:lab<4):x.getD (1+lab) 0=(x.drop 1).getD lab 0/\0<=x.getD (1+lab) 0/\x.getD (1+lab) 0<4:=by
 have e:x.getD (1+lab) 0=(x.drop 1).getD lab 0:=(Z2y x 1 lab).symm
 have:=Z2c h.p hl
 rw [e]
 exact ⟨rfl,this⟩
section
variable {Gl:List Int} {n:Nat} (hok:Z0v Gl n=true) (hG:Gl.length=n*20)
 include hok hG
theorem Z4E {x:List Int} (h:WOk n x) {lab:Nat} (hl:lab<4) (hf:¬ Z0x (wF Gl x lab)<0) :
 Z0x (wF Gl x lab)<n/\Z0d (wF Gl x lab) ∈ p24/\Z03 Gl (Z0x (wF Gl x lab)).toNat ((Z0d (wF Gl x lab)).getD (x.getD (1+lab) 0).toNat 0).toNat=x.getD 0 0::inv (Z0d (wF Gl x lab)):=by
 have ht:=h.t
 have hl':=h.lab hl
 have ok:=Z1s (t:=(x.getD 0 0).toNat) (f:=(x.getD (1+lab) 0).toNat) hok qO qO
 obtain ⟨k1,k2,k3,k4⟩:=Z0Y ok hf
 have hlen:=Z0X (Z0j hG (t:=(x.getD 0 0).toNat) (f:=(x.getD (1+lab) 0).toNat) qO qO)
 refine ⟨k1,Z9b hlen k2, ?_⟩
 have e:(((x.getD 0 0).toNat:Nat):Int)=x.getD 0 0:=by omega
 rw [← e]
 exact k4
theorem Z1o {lab:Nat} (hl:lab<4):∀ x y,WOk n x->wN Gl lab x=some y->WOk n y:=fun x y h e=>by
 unfold wN at e
 by_cases hf:Z0x (wF Gl x lab)<0
 · rw [if_pos hf] at e; cases e
 · rw [if_neg hf] at e
   cases e
   obtain ⟨k1,k2,k3⟩:=Z4E hok hG h hl hf
   have:=WOk.mk' (n:=n) (t:=(Z0x (wF Gl x lab)).toNat) qO (Z4A k2 (Z4A h.p Zbu))
   rwa [show (((Z0x (wF Gl x lab)).toNat:Nat):Int)=Z0x (wF Gl x lab) by omega] at this
theorem Z4D {lab lab':Nat} (hl:lab<4) (hl':lab'<4) (hs:Z5d.getD lab' 0=lab):∀ x y,WOk n x->wN Gl lab x=some y->wN Gl lab' y=some x:=fun x y h e=>by
 have hy:=Z1o hok hG hl x y h e
 unfold wN at e
 by_cases hf:Z0x (wF Gl x lab)<0
 · rw [if_pos hf] at e; cases e
 · rw [if_neg hf] at e
   obtain ⟨k1,k2,k3⟩:=Z4E hok hG h hl hf
   have e':=Option.some.inj e
   obtain ⟨Q,hQ⟩:∃ Q,Z0d (wF Gl x lab)=Q:=⟨_,rfl⟩
   rw [hQ] at k2 k3 e'
   have y0:y.getD 0 0=Z0x (wF Gl x lab):=by rw [← e']; rfl
   have yd:y.drop 1=Z0S Q (Z0S (x.drop 1) Z5d):=by rw [← e']; rfl
   have lx:=(h.lab hl).1
   have ly:y.getD (1+lab') 0=Q.getD (x.getD (1+lab) 0).toNat 0:=by
    rw [(hy.lab hl').1,yd,Z1L (Z44 (Z4A h.p Zbu)) hl',Z1L (by rfl) hl',hs,Int.toNat_natCast,lx]
   have w:wF Gl y lab'=x.getD 0 0::inv Q:=by
    rw [wF,y0,ly,k3]
   have ht:=h.t
   have l4:=Z44 (inv24 k2)
   have w1:Z0x (wF Gl y lab')=x.getD 0 0:=by rw [w]; rfl
   have w2:Z0d (wF Gl y lab')=inv Q:=by
    rw [w]; show (inv Q).take 4=_
    exact List.take_of_length_le qO
   rw [wN,w1,w2,if_neg qO,yd,Z2p (Z4A h.p Zbu) Zbu,Z2p Zbu Zbu,show Z0S Z5d Z5d=[0,1,2,3] by decide,Zi0 h.p,← Z2p k2 h.p,Zej k2,ZmP h.p,← h.form]
end
def wCd (x:List Int):Nat:=256*(x.getD 0 0).toNat+((x.getD 1 0).toNat+4*(x.getD 2 0).toNat+16*(x.getD 3 0).toNat+64*(x.getD 4 0).toNat)
theorem WOk.rg {n:Nat} {x:List Int} (h:WOk n x):(0<=x.getD 1 0/\x.getD 1 0<4)/\(0<=x.getD 2 0/\x.getD 2 0<4)/\(0<=x.getD 3 0/\x.getD 3 0<4)/\(0<=x.getD 4 0/\x.getD 4 0<4) :=
 ⟨(h.lab (lab:=0) qO).2,(h.lab (lab:=1) qO).2,(h.lab (lab:=2) qO).2,(h.lab (lab:=3) qO).2⟩
theorem Zbr {n:Nat}:∀ x,WOk n x->wCd x<256*n:=fun x h=>by
 have:=h.t
 have:=h.rg
 unfold wCd
 omega
theorem Z82 {n:Nat}:∀ x y,WOk n x->WOk n y->wCd x=wCd y->x=y:=fun x y hx hy e=>by
 have a1:=hx.t
 have a2:=hx.rg
 have b1:=hy.t
 have b2:=hy.rg
 have lx:=hx.l
 have ly:=hy.l
 unfold wCd at e
 match x,lx,y,ly with
 | [a,b,c,d,f],_,[a',b',c',d',f'],_ =>
  simp only [List.getD_cons_zero,List.getD_cons_succ] at a1 a2 b1 b2 e
  obtain ⟨a,rfl⟩:=Int.eq_ofNat_of_zero_le a1.1
  obtain ⟨b,rfl⟩:=Int.eq_ofNat_of_zero_le a2.1.1
  obtain ⟨c,rfl⟩:=Int.eq_ofNat_of_zero_le a2.2.1.1
  obtain ⟨d,rfl⟩:=Int.eq_ofNat_of_zero_le a2.2.2.1.1
  obtain ⟨f,rfl⟩:=Int.eq_ofNat_of_zero_le a2.2.2.2.1
  obtain ⟨a',rfl⟩:=Int.eq_ofNat_of_zero_le b1.1
  obtain ⟨b',rfl⟩:=Int.eq_ofNat_of_zero_le b2.1.1
  obtain ⟨c',rfl⟩:=Int.eq_ofNat_of_zero_le b2.2.1.1
  obtain ⟨d',rfl⟩:=Int.eq_ofNat_of_zero_le b2.2.2.1.1
  obtain ⟨f',rfl⟩:=Int.eq_ofNat_of_zero_le b2.2.2.2.1
  simp only [Int.ofNat_eq_natCast,Int.toNat_natCast] at a1 a2 b1 b2 e ⊢
  have r1:b<4/\c<4/\d<4/\f<4:=⟨by omega,by omega,by omega,by omega⟩
  have r2:b'<4/\c'<4/\d'<4/\f'<4:=⟨by omega,by omega,by omega,by omega⟩
  clear a1 a2 b1 b2 hx hy lx ly
  have e1:b=b':=by omega
  subst e1
  have e2:c=c':=by omega
  subst e2
  have e3:d=d':=by omega
  subst e3
  have e4:f=f':=by omega
  subst e4
  have e5:a=a':=by omega
  subst e5
  rfl
def rgL (Gl:List Int) (lab:Nat) (s:List Int):Nat->List Int
 | 0=>[]
 | k+1=>rgL Gl lab s k++(it (wN Gl lab) s k).getD []
end Go.Ab
