/- Parts of a proof: K17 K18 K19 K20 K21 K22 K23 K24 AbCount AbOrb AbWalk K25 K26. Conditions: none. -/
import Derived.Test.YtdodippbpdechaaM16
import Derived.Test.YtdodippbpdechaaM15
import Derived.Test.YtdodippbpdechaaM14
import Derived.Test.YtdodippbpdechaaM13
set_option linter.all false
set_option maxRecDepth 100000
namespace Go.Proofs.Ytdodippbpdechaa
open Go Go.Ab Go.Proofs
theorem Z53 (zs:List Value) (X:List Int) (n:Nat) (hz:zs.length=n) (hX:X.length=n):Z8N zs [(0,n,av X)]=some (ints X):=by
 have h1:Nat.beq (av X).cells.size n=true:=by rw [ZcV,hX]; exact Nat.beq_refl n
 have h2:Nat.ble n zs.length=true:=Nat.ble_eq_true_of_le qO
 simp only [Z8N,h1,h2,Bool.and_self,Nat.zero_add,cond_true,Z1s,Z10,List.take_zero,List.nil_append,ints_length,hX]
 rw [List.drop_of_length_le qO,List.append_nil]
theorem Zgi (L:List Int) (q t:Nat):L.take (q*(t+1))=L.take (q*t)++(L.drop (q*t)).take q:=by
 rw [Nat.mul_succ,List.take_add]
structure SkI (c0 c sb gb rb m t:Nat) (h0 h:FH) (vv ev tv f5:Value) (V E T:List Int) (z:List Int × List Bool):Prop where
 fs:h.f sb=some (.cells false none [vv,ev,tv,.slice (some ⟨gb,0,none⟩) m m,.slice (some ⟨rb,0,none⟩) m m,f5])
 gv:GrC c0 h c vv 4 t (ints (V.take (4*t)))
 ge:GrC c0 h c ev 6 t (ints (E.take (6*t)))
 gt:GrC c0 h c tv 4 t (ints (T.take (4*t)))
 d1:vv ≠ .slice none 0 0->ev ≠ .slice none 0 0->Z0w vv ≠ Z0w ev
 d2:vv ≠ .slice none 0 0->tv ≠ .slice none 0 0->Z0w vv ≠ Z0w tv
 d3:ev ≠ .slice none 0 0->tv ≠ .slice none 0 0->Z0w ev ≠ Z0w tv
 fg:h.f gb=some (.cells false none (ints z.1))
 fr:h.f rb=some (.cells false none (bools z.2))
 base:∀ j,j<256*c0->j ≠ sb->j ≠ gb->j ≠ rb->h.f j=h0.f j
theorem SkI.mono {c0 c c' sb gb rb m t:Nat} {h0 h:FH} {vv ev tv f5:Value} {V E T:List Int} {z:List Int × List Bool} (a:SkI c0 c sb gb rb m t h0 h vv ev tv f5 V E T z) (hc:c<=c'):SkI c0 c' sb gb rb m t h0 h vv ev tv f5 V E T z :=
 ⟨a.fs,a.gv.mono hc,a.ge.mono hc,a.gt.mono hc,a.d1,a.d2,a.d3,a.fg,a.fr,a.base⟩
theorem SkI.step {c0 c sb gb rb m t n:Nat} {h0 h:FH} {vv ev tv f5:Value} {V E T:List Int} {z:List Int × List Bool} (a:SkI c0 c sb gb rb m t h0 h vv ev tv f5 V E T z) (hV:V.length=4*n) (hE:E.length=6*n) (hT:T.length=4*n) (ht:t<n) (hn:n<=60) (hc0:c0<=c)
 (n2:sb ≠ gb) (n3:sb ≠ rb) (ls:sb<256*c0) (lg:gb<256*c0) (lr:rb<256*c0) (b1 i1 b2 i2 b3 i3:Nat) (hb1:b1=256*(c+1+1)+11) (hi1:i1=256*(c+1+1)+12) (hb2:b2=256*(c+1+1+1)+11) (hi2:i2=256*(c+1+1+1)+12) (hb3:b3=256*(c+1+1+1+1)+11) (hi3:i3=256*(c+1+1+1+1)+12) :
 ∃ h1 h2 h3 h4 h5 h6,ld1 h (.pointer (some ⟨sb,0,none⟩))=some vv/\Z5o (newB h b1 (ints ((V.drop (4*t)).take 4))) i1 4 32 vv (.slice (some ⟨b1,0,none⟩) 1 1)=some (.slice (some ⟨i1,0,none⟩) (t+1) (t+1),h1)/\stN h1 1 (.pointer (some ⟨sb,0,none⟩)) (.slice (some ⟨i1,0,none⟩) (t+1) (t+1))=some h2 ∧
  ld1 h2 (.pointer (some ⟨sb,1,none⟩))=some ev/\Z5o (newB h2 b2 (ints ((E.drop (6*t)).take 6))) i2 6 48 ev (.slice (some ⟨b2,0,none⟩) 1 1)=some (.slice (some ⟨i2,0,none⟩) (t+1) (t+1),h3)/\stN h3 1 (.pointer (some ⟨sb,1,none⟩)) (.slice (some ⟨i2,0,none⟩) (t+1) (t+1))=some h4 ∧
  ld1 h4 (.pointer (some ⟨sb,2,none⟩))=some tv/\Z5o (newB h4 b3 (ints ((T.drop (4*t)).take 4))) i3 4 32 tv (.slice (some ⟨b3,0,none⟩) 1 1)=some (.slice (some ⟨i3,0,none⟩) (t+1) (t+1),h5)/\stN h5 1 (.pointer (some ⟨sb,2,none⟩)) (.slice (some ⟨i3,0,none⟩) (t+1) (t+1))=some h6 ∧
  (∀ j,j<256*c0->j ≠ sb->h2.f j=h.f j)/\(∀ j,j<256*c0->j ≠ sb->h4.f j=h.f j)/\(∀ j,j<256*c0->j ≠ sb->h6.f j=h.f j) ∧
  SkI c0 (c+1+1+1+1+1) sb gb rb m (t+1) h0 h6 (.slice (some ⟨i1,0,none⟩) (t+1) (t+1)) (.slice (some ⟨i2,0,none⟩) (t+1) (t+1)) (.slice (some ⟨i3,0,none⟩) (t+1) (t+1)) f5 V E T z:=by
 have lX:((V.drop (4*t)).take 4).length=4:=by rw [List.length_take,List.length_drop]; omega
 have lY:((E.drop (6*t)).take 6).length=6:=by rw [List.length_take,List.length_drop]; omega
 have lZ:((T.drop (4*t)).take 4).length=4:=by rw [List.length_take,List.length_drop]; omega
 have bv:vv ≠ .slice none 0 0->256*c0<=Z0w vv/\Z0w vv<256*c:=a.gv.blk
 have be:ev ≠ .slice none 0 0->256*c0<=Z0w ev/\Z0w ev<256*c:=a.ge.blk
 have bt:tv ≠ .slice none 0 0->256*c0<=Z0w tv/\Z0w tv<256*c:=a.gt.blk
 obtain ⟨h1,h2,p1,p2,p3,p4,p5,p6⟩:=a.gv.step (c':=c+1+1+1) (o:=0) a.fs rfl ls (ints ((V.drop (4*t)).take 4)) (by rw [ints_length,lX]) (Z0p _) qO 32 b1 i1 qO qO qO qO qO qO
 have ge1:GrC c0 h2 (c+1+1+1) ev 6 t (ints (E.take (6*t))):=(a.ge.keep fun hv=>p6 _ (be hv).2 (by have:=(be hv).1; omega) fun hw=>Ne.symm (a.d1 hw hv)).mono qO
 have gt1:GrC c0 h2 (c+1+1+1) tv 4 t (ints (T.take (4*t))):=(a.gt.keep fun hv=>p6 _ (bt hv).2 (by have:=(bt hv).1; omega) fun hw=>Ne.symm (a.d2 hw hv)).mono qO
 obtain ⟨h3,h4,q1,q2,q3,q4,q5,q6⟩:=ge1.step (c':=c+1+1+1+1) (o:=1) p4 rfl ls (ints ((E.drop (6*t)).take 6)) (by rw [ints_length,lY]) (Z0p _) qO 48 b2 i2 qO qO qO qO qO qO
 have gt2:GrC c0 h4 (c+1+1+1+1) tv 4 t (ints (T.take (4*t))):=(gt1.keep fun hv=>q6 _ (by have:=(bt hv).2; omega) (by have:=(bt hv).1; omega) fun hw=>Ne.symm (a.d3 hw hv)).mono qO
 have gv2:GrC c0 h4 (c+1+1+1+1) (.slice (some ⟨i1,0,none⟩) (t+1) (t+1)) 4 (t+1) (ints (V.take (4*t))++ints ((V.drop (4*t)).take 4)):=(p5.keep fun hv=>q6 _ (by rw [blkOf_sl]; omega) (by rw [blkOf_sl]; omega) fun hw=>by have:=(be hw).2; rw [blkOf_sl]; omega).mono qO
 obtain ⟨h5,h6,r1,r2,r3,r4,r5,r6⟩:=gt2.step (c':=c+1+1+1+1+1) (o:=2) q4 rfl ls (ints ((T.drop (4*t)).take 4)) (by rw [ints_length,lZ]) (Z0p _) qO 32 b3 i3 qO qO qO qO qO qO
 have gv3:GrC c0 h6 (c+1+1+1+1+1) (.slice (some ⟨i1,0,none⟩) (t+1) (t+1)) 4 (t+1) (ints (V.take (4*t))++ints ((V.drop (4*t)).take 4)):=(gv2.keep fun hv=>r6 _ (by rw [blkOf_sl]; omega) (by rw [blkOf_sl]; omega) fun hw=>by have:=(bt hw).2; rw [blkOf_sl]; omega).mono qO
 have ge3:GrC c0 h6 (c+1+1+1+1+1) (.slice (some ⟨i2,0,none⟩) (t+1) (t+1)) 6 (t+1) (ints (E.take (6*t))++ints ((E.drop (6*t)).take 6)):=(q5.keep fun hv=>r6 _ (by rw [blkOf_sl]; omega) (by rw [blkOf_sl]; omega) fun hw=>by have:=(bt hw).2; rw [blkOf_sl]; omega).mono qO
 have K2:∀ j,j<256*c0->j ≠ sb->h2.f j=h.f j:=fun j hj h1'=>p6 j qO h1' fun hv=>by have:=(bv hv).1; omega
 have K4:∀ j,j<256*c0->j ≠ sb->h4.f j=h.f j:=fun j hj h1'=>(q6 j qO h1' fun hv=>by have:=(be hv).1; omega).trans (K2 j hj h1')
 have K6:∀ j,j<256*c0->j ≠ sb->h6.f j=h.f j:=fun j hj h1'=>(r6 j qO h1' fun hv=>by have:=(bt hv).1; omega).trans (K4 j hj h1')
 rw [Z0W,← Zgi] at gv3 ge3 r5
 refine ⟨h1,h2,h3,h4,h5,h6,p1,p2,p3,q1,q2,q3,r1,r2,r3,K2,K4,K6,⟨r4,gv3,ge3,r5,(fun _ _=>by rw [blkOf_sl,blkOf_sl]; omega),(fun _ _=>by rw [blkOf_sl,blkOf_sl]; omega),(fun _ _=>by rw [blkOf_sl,blkOf_sl]; omega), ?_, ?_,fun j hj h1' h2' h3'=>?_⟩⟩
 · rw [K6 gb lg (Ne.symm n2)]; exact a.fg
 · rw [K6 rb lr (Ne.symm n3)]; exact a.fr
 · rw [K6 j hj h1']; exact a.base j hj h1' h2' h3'
def sTs (E D:List Int):Nat->Nat->List Int × List Bool->List Int × List Bool
 | 0,_,z=>z
 | r+1,t,z=>sTs E D r (t+1) (sKs E D t 6 0 z)
theorem SB.ts {m:Nat} (E D:List Int):∀ (r t:Nat) {z:List Int × List Bool} {B:Nat},SB m z B->SB m (sTs E D r t z) (B+6*r)
 | 0,_,z,B,h=>h
 | r+1,t,z,B,h=>by
  have:=SB.ts E D r (t+1) (SB.ks E D t 6 0 h)
  rw [show B+6+6*r=B+6*(r+1) by omega] at this
  exact this

def lkD (n:Nat) (Gl V D:List Int) (k:Nat):List Value:=dRes (rk (inC V k) (4*n)) (orB n Gl (inC V k)) (dZ n Gl D (inC V k))
def lkL (n:Nat) (Gl V D:List Int):Nat->List Value
 | 0=>[]
 | k+1=>lkL n Gl V D k++lkD n Gl V D k

def vN (Gl:List Int) (n:Nat):List Int:=Zal (vCs Gl n) (4*n)
def dN (Gl:List Int) (n:Nat):List Int:=Zal (dCs Gl n) (16*n)
def eN (Gl:List Int) (n:Nat):List Int:=Zal (eCs Gl n) (6*n)
def tN (Gl:List Int) (n:Nat):List Int:=Zal (tCs Gl n) (4*n)
def nV (Gl:List Int) (n:Nat):Nat:=Z3J (vCs Gl n) (4*n)
def nE (Gl:List Int) (n:Nat):Nat:=Z3J (eCs Gl n) (6*n)
def skZ (Gl:List Int) (n:Nat):List Int × List Bool:=sTs (eN Gl n) (dN Gl n) n 0 (List.replicate (nE Gl n) 0,List.replicate (nE Gl n) false)
structure SkV (c0 c:Nat) (h:FH) (vv ev tv:Value) (gb rb:Nat) (lv:Value) (n:Nat) (Gl:List Int):Prop where
 gv:GrC c0 h c vv 4 n (ints (vN Gl n))
 ge:GrC c0 h c ev 6 n (ints (eN Gl n))
 gt:GrC c0 h c tv 4 n (ints (tN Gl n))
 fg:h.f gb=some (.cells false none (ints (skZ Gl n).1))
 fr:h.f rb=some (.cells false none (bools (skZ Gl n).2))
 gl:GrC c0 h c lv 6 (nV Gl n) (lkL n Gl (vN Gl n) (dN Gl n) (nV Gl n))
 b1:256*c0<=gb/\gb<256*c
 b2:256*c0<=rb/\rb<256*c
theorem Z5Z {c0 c1:Nat} {h:FH} {c:Nat} {v:Value} {sz n:Nat} {L:List Value} (ha:GrC c1 h c v sz n L) (hc:c0<=c1):GrC c0 h c v sz n L:=by
 rcases ha with ha | ⟨a,b,d,x,i,e,f,g,k⟩
 · exact .inl ha
 · exact .inr ⟨a,b,d,x,i,e,by omega,g,k⟩

theorem Z6y {h:FH} {b n:Nat} {z L:List Value} (hf:h.f b=some (.cells false none z)) (hz:z.length=n) (hL:L.length=n) (hLf:L.all Z06=true):stN h n (.pointer (some ⟨b,0,none⟩)) (.agg L.toArray)=some (newB h b L):=by
 have e:newB h b z=h:=by
  apply FH.ext; intro k
  rw [Z01]; split
  · rename_i e; rw [e,hf]
  · rfl
 have:=Z1n h n b 0 z (.agg L.toArray) (by simp [Value.cells,hL]) qO (by simpa [Value.cells] using hLf)
 rw [e] at this
 rw [this]
 simp [Z10,Value.cells,hL,List.drop_of_length_le (show z.length<=n by omega)]
theorem Z0v {h:FH} {b n:Nat} {L:List Value} (hf:h.f b=some (.cells false none L)) (hL:L.length=n):ldN h n (.pointer (some ⟨b,0,none⟩))=some (.agg L.toArray):=by
 rw [ldN_holds (cs:=L) ⟨false,none,hf⟩ qO,List.drop_zero,List.take_of_length_le qO]



def KP (c0:Nat) (h0:FH) (c:Nat) (v:Int) (q:Rt FH):Prop:=c<=q.c/\q.df=[]/\Z0q c0 h0 q.h/\((q.e = .exit 0/\v=4) ∨ (q.e = .ret /\ ∃ x y z,q.vs=[.int .i64 v,.int .i64 0,x,y,z]))
theorem KP.mono {c0 c c':Nat} {h0:FH} {v:Int} {q:Rt FH} (h:KP c0 h0 c' v q) (hc:c<=c'):KP c0 h0 c v q:=⟨by have:=h.1; omega,h.2⟩

def lnT (Gl:List Int) (Q:Nat->Bool) (C:List Int) (k:Nat):List Int:=[(oT C k:Int),(oC C k:Int)]++nxL Gl Q (oT C k) (oC C k)
def lnL (Gl:List Int) (Q:Nat->Bool) (C:List Int):Nat->List Int
 | 0=>[]
 | k+1=>lnL Gl Q C k++lnT Gl Q C k
theorem ZlY (Gl:List Int) (Q:Nat->Bool) (C:List Int) (k:Nat):(lnT Gl Q C k).length=6:=rfl
theorem Zn9 (t i a b d e:Int):Z1d [.int .i64 0,.int .i64 0,.int .i64 0,.int .i64 0,.int .i64 0,.int .i64 0] [(0,1,.int .i64 t),(1,1,.int .i64 i),(2,4,av [a,b,d,e])]=some (av [t,i,a,b,d,e]):=rfl
set_option maxHeartbeats 1000000 in
theorem ZlX (lb mb cm c1:Nat) (s w:Value) (n:Nat) (Gl:List Int) (Q:Nat->Bool) (h1:FH) (df:List Nat) (l:LR h1 cm lb mb s n Gl Q) (sw:SlI h1 cm w 2 (rk Q (4*n)) (crn Q (4*n))) (hcm:cm<=c1) :
 ∀ (r k c:Nat) (H:FH) (ov:Value),k+r=rk Q (4*n)->c1<=c->GrC c1 H c ov 6 k (ints (lnL Gl Q (crn Q (4*n)) k))->Z0q c1 h1 H →
 Ans (G (Z9L none) [ptrTo lb,ov,w,.int .i64 (rk Q (4*n)),.int .i64 k] H c df) fun q=>∃ ov',q.e = .exit 0/\q.vs=[ptrTo lb,ov',w,.int .i64 (rk Q (4*n)),.int .i64 (rk Q (4*n))]/\q.df=df/\c<=q.c/\Z0q c1 h1 q.h/\GrC c1 q.h q.c ov' 6 (rk Q (4*n)) (ints (lnL Gl Q (crn Q (4*n)) (rk Q (4*n)))):=by
 intro r
 have prange:rk Q (4*n)<=240:=by have:=Zbx Q (4*n); have:=l.le; omega
 induction r with
 | zero =>
  intro k c H ov hk hc g sm
  obtain rfl:k=rk Q (4*n):=by omega
  obtain ⟨R,hR⟩:∃ R,rk Q (4*n)=R:=⟨_,rfl⟩
  rw [hR] at g ⊢
  refine Ans.lpN rfl rfl (Z6d ..) ?_
  unfold Z7b
  have fx:=True.intro
  refine Ans.go ?_
  clear fx
  exact Ans.exitN ⟨ov,rfl,rfl,rfl,by dsimp only; omega,sm,g.mono (by dsimp only; omega)⟩
 | succ r ih =>
  intro k c H ov hk hc g sm
  have hkK:k<rk Q (4*n):=by omega
  have kl:(k:Int)<rk Q (4*n):=by omega
  obtain ⟨x,hx,hQ,hrk⟩:=Zc6 Q hkK
  obtain ⟨eT,eC⟩:=oT_at (Q:=Q) hQ hx
  have cat:=Zhy Q hQ hx
  rw [hrk] at eT eC cat
  obtain ⟨t,ht⟩:∃ t,x / 4=t:=⟨_,rfl⟩
  obtain ⟨i,hi⟩:∃ i,x % 4=i:=⟨_,rfl⟩
  rw [ht] at eT cat
  rw [hi] at eC cat
  have htn:t<n:=by omega
  have hi4:i<4:=by omega
  have smc:Z0q cm h1 H:=fun j hj=>sm j qO
  have swH:=sw.same smc
  have ix:=swH.ixs .i64 k qO qO
  rw [Int.toNat_natCast] at ix
  have l1:ldN H 2 (.pointer (some ⟨Z0w w,Z4T w+k*2,none⟩))=some (av [(t:Int),(i:Int)]):=by
   rw [swH.rdN 2 _ qO qO,cat]
  obtain ⟨kb,hkb⟩:∃ b,256*(c+1)+2=b:=⟨_,rfl⟩
  have st:stN (newB H kb [.int .i64 0,.int .i64 0]) 2 (.pointer (some ⟨kb,0,none⟩)) (av [(t:Int),(i:Int)])=some (newB H kb [.int .i64 t,.int .i64 i]):=stN_all _ _ 2 _ _ rfl rfl
  obtain ⟨H1,hH1⟩:∃ H1,newB H kb [.int .i64 (t:Int),.int .i64 (i:Int)]=H1:=⟨_,rfl⟩
  have gk:Z0d H1 kb [.int .i64 (t:Int),.int .i64 (i:Int)]:=by rw [← hH1]; exact Z0d.newB_same _ _ _
  have g0:ld1 H1 (.pointer (some ⟨kb,0,none⟩))=some (.int .i64 t):=by rw [Z05 gk]; rfl
  have g1:ld1 H1 (.pointer (some ⟨kb,1,none⟩))=some (.int .i64 i):=by rw [Z05 gk]; rfl
  have l2:ldN H1 2 (.pointer (some ⟨kb,0,none⟩))=some (av [(t:Int),(i:Int)]):=by
   rw [← hH1,ldN_newB_same _ _ _ _ _ (by simp)]; rfl
  have s1:Z0q c1 h1 H1:=fun j hj=>by rw [← hH1,Z01,if_neg qO]; exact sm j hj
  have lH1:=l.same (fun j hj=>s1 j qO:Z0q cm h1 H1) (show cm<=c+1+1+1 by omega)
  have cn:=Z0b (ZlO lb mb t i s n Gl Q H1 (c+1+1+1) [] lH1 htn hi4)
  have hX:lnT Gl Q (crn Q (4*n)) k=[(t:Int),(i:Int)]++nxL Gl Q t i:=by rw [lnT,eT,eC]
  obtain ⟨a0,a1,a2,a3,hn4⟩:∃ a b d e,nxL Gl Q t i=[a,b,d,e]:=⟨_,_,_,_,rfl⟩
  rw [hn4] at cn hX
  have bt:=Zn9 t i a0 a1 a2 a3
  have bl:=Z53 [.int .i64 0,.int .i64 0,.int .i64 0,.int .i64 0,.int .i64 0,.int .i64 0] [(t:Int),(i:Int),a0,a1,a2,a3] 6 rfl rfl
  obtain ⟨b,hb⟩:∃ b,256*(c+1+1)+9=b:=⟨_,rfl⟩
  obtain ⟨id,hid⟩:∃ b,256*(c+1+1)+10=b:=⟨_,rfl⟩
  have gH1:GrC c1 H1 c ov 6 k (ints (lnL Gl Q (crn Q (4*n)) k)):=g.keep fun hv=>by rw [← hH1,Z01,if_neg (by have:=(g.blk hv).2; omega)]
  obtain ⟨h2,p1,p2,p3⟩:=gH1.app (c':=c+1+1+1+1) (ints [(t:Int),(i:Int),a0,a1,a2,a3]) rfl rfl qO 48 b id qO qO qO qO qO qO
  rw [Z0W,show lnL Gl Q (crn Q (4*n)) k++[(t:Int),(i:Int),a0,a1,a2,a3]=lnL Gl Q (crn Q (4*n)) (k+1) by rw [lnL,hX]; rfl] at p2
  have s2:Z0q c1 h1 h2:=fun j hj=>(p3 j qO fun hv=>by have:=(gH1.blk hv).1; omega).trans (s1 j hj)
  have hk':=ih (k+1) (c+1+1+1+1) h2 _ qO qO p2 s2
  obtain ⟨R,hR⟩:∃ R,rk Q (4*n)=R:=⟨_,rfl⟩
  rw [hR] at hk' kl prange ⊢
  rw [hH1] at st
  obtain ⟨X,hXX⟩:∃ X,av [(t:Int),(i:Int),a0,a1,a2,a3]=X:=⟨_,rfl⟩
  rw [hXX] at bt bl
  obtain ⟨Y,hY⟩:∃ X,ints [(t:Int),(i:Int),a0,a1,a2,a3]=X:=⟨_,rfl⟩
  rw [hY] at bl p1
  refine Ans.lpN rfl rfl (Z6d ..) ?_
  unfold Z7b
  have fx:=ai kl (ai ix (ai l1 (ai hkb (ai st (ai g0 (ai g1 (ai l2 (ai cn (ai bt (ai bl (ai hb (ai hid (ai p1 sameB_self)))))))))))))
  refine Ans.go ?_
  clear fx
  refine Ans.nextN (hk'.mono ?_)
  rintro q ⟨ov',z1,z2,z3,z4,z5⟩
  exact ⟨ov',z1,z2,z3,by omega,z5⟩
def LkA (c0:Nat) (h:FH) (c:Nat) (ov:Value) (e v:Int) (n:Nat) (Gl:List Int):Prop :=
 (Z0A Gl n=false/\ov = .slice none 0 0/\e=7) ∨ (Z0A Gl n=true /\ ¬ (0<=v/\v<nV Gl n)/\ov = .slice none 0 0/\e=3) ∨
 (Z0A Gl n=true/\(0<=v/\v<nV Gl n)/\e=0/\GrC c0 h c ov 6 (rk (inC (vN Gl n) v) (4*n)) (ints (lnL Gl (inC (vN Gl n) v) (crn (inC (vN Gl n) v) (4*n)) (rk (inC (vN Gl n) v) (4*n)))))
set_option maxHeartbeats 2000000 in
theorem Znf (s:Value) (n:Nat) (Gl:List Int) (v:Int) (h:FH) (c:Nat) (df:List Nat) (hs:SlI h c s 20 n Gl) (hn:n<=60) :
 Ans (G (.fn 35) [.agg #[s],.int .i64 v] h c df) fun r=>∃ ov e,r=⟨.ret,[.tuple #[ov,.int .i64 e]],r.h,r.c,[]⟩/\c<=r.c/\Z0q c h r.h/\LkA c r.h r.c ov e v n Gl:=by
 refine Ans.call' (fun r e=>f35_go e) ?_
 have Z4X:((Value.agg #[s]).cells.toList.all Z06)=true:=by simp [Value.cells,hs.flat]
 have Z52:(Value.agg #[s]).cells.toList=[s]:=rfl
 unfold ZmQ
 rw [Z4X,Z52]
 simp only [cond_true,Nat.add_zero]
 obtain ⟨g0,hg0⟩:∃ b,256*c=b:=⟨_,rfl⟩
 obtain ⟨M,hM⟩:∃ M,newB h g0 [s]=M:=⟨_,rfl⟩
 rw [hg0,hM]
 have Mf:∀ j,M.f j=if j=g0 then some (.cells false none [s]) else h.f j:=fun j=>by rw [← hM,Z01]
 have sM:Z0q c h M:=fun j hj=>by rw [Mf,if_neg qO]
 have l0:ldN M 1 (.pointer (some ⟨g0,0,none⟩))=some (.agg #[s]):=Z0O (cs:=[]) ⟨false,none,by show M.f g0=_; rw [Mf,if_pos rfl]⟩
 have ck:=Z0b (Zes s n Gl M (c+1+1) [] ((hs.same sM).mono qO))
 by_cases hok:Z0A Gl n=true
 · rw [if_pos ⟨by omega,hok⟩] at ck
   obtain ⟨r0,hr0,cb,vb,db,eb,tb,V,D,E,T,e0,k0,s0,cl⟩:=Zan s n Gl M (c+1+1+1) [] ((hs.same sM).mono qO) hok hn
   obtain ⟨K0,hK0⟩:∃ K,r0.h=K:=⟨_,rfl⟩
   obtain ⟨c0,hc0⟩:∃ c,r0.c=c:=⟨_,rfl⟩
   rw [hK0,hc0] at e0 cl
   rw [hc0] at k0
   rw [hK0] at s0
   rw [e0] at hr0
   have c40:=Z0b hr0
   obtain ⟨⟨t1,t2,t3,t4,t5⟩,t6,t7,t8,t9,t10⟩:=cl.bd
   have ec:=cl.e
   obtain ⟨o1,o2,o3,o4⟩:=ec.o
   have u1:Uo K0 cb 1 vb (4*n) V:=⟨⟨_,ec.st,rfl⟩,cl.fv,o1,cl.jv.dn,by omega⟩
   obtain ⟨r1,hr1,V',ob1,e1,k1,a1,b1,f1,_,_,F1⟩:=ZeS cb 1 vb (4*n) (vCs Gl n) V K0 (c0+1) [] u1 cl.jv.1 cl.jv.2 qO qO
   obtain ⟨K1,hK1⟩:∃ K,r1.h=K:=⟨_,rfl⟩
   obtain ⟨c1,hc1⟩:∃ c,r1.c=c:=⟨_,rfl⟩
   rw [hK1,hc1] at e1
   rw [hc1] at k1 b1
   rw [hK1] at f1 F1
   rw [e1] at hr1
   have c41:=Z0b hr1
   have G1:∀ j,j<256*(c+1+1)->K1.f j=M.f j:=fun j hj=>by
    rw [F1 j qO qO,s0 j qO]
   have sm1:Z0q c h K1:=fun j hj=>by rw [G1 j qO]; exact sM j hj
   have hmV:nV Gl n<=4*n:=Zay _ _
   obtain ⟨N,hN⟩:∃ m,nV Gl n=m:=⟨_,rfl⟩
   rw [show Z3J (vCs Gl n) (4*n)=N from hN] at c41
   rw [hN] at hmV
   have xv0:∀ a b:Value,Z1m (.tuple #[a,b]) 0=some a:=fun _ _=>rfl
   have xv1:∀ a b:Value,Z1m (.tuple #[a,b]) 1=some b:=fun _ _=>rfl
   have hV:SlI K1 (c1+1) (.slice (some ⟨ob1,0,none⟩) (4*n) (4*n)) 1 (4*n) (vN Gl n):=by
    refine ⟨by rw [vN,Z3w]; omega,by omega,some ⟨ob1,0,none⟩,4*n,rfl,.inr ⟨ob1,0,ints (vN Gl n),rfl,by omega,⟨false,none,f1⟩, ?_⟩⟩
    rw [List.drop_zero,List.take_of_length_le (by simp [vN,Z3w])]
   obtain ⟨Z1,hZ1⟩:∃ Z,Value.slice (some ⟨ob1,0,none⟩) (4*n) (4*n)=Z:=⟨_,rfl⟩
   rw [hZ1] at c41 hV
   by_cases h1:v<0
   · have fx:=ai l0 (ai ck (ai c40 (ai c41 (ai xv0 xv1))))
     refine Ans.go ?_
     clear fx
     exact .done ⟨_,_,rfl,by dsimp only; omega,sm1,.inr (.inl ⟨hok,by omega,rfl,rfl⟩)⟩
   · by_cases h2:(N:Int)<=v
     · have fx:=ai l0 (ai ck (ai c40 (ai c41 (ai xv0 xv1))))
       refine Ans.go ?_
       clear fx
       exact .done ⟨_,_,rfl,by dsimp only; omega,sm1,.inr (.inl ⟨hok,by omega,rfl,rfl⟩)⟩
     · have h2':v<N:=by omega
       have hcb1:Z0d K1 cb [s,.slice (some ⟨vb,0,none⟩) (4*n) (4*n),.slice (some ⟨db,0,none⟩) (16*n) (16*n),.slice (some ⟨eb,0,none⟩) (6*n) (6*n),.slice (some ⟨tb,0,none⟩) (4*n) (4*n)]:=by
        obtain ⟨ro,op,q⟩:=ec.st
        exact ⟨ro,op,by show K1.f cb=_; rw [F1 cb qO o1]; exact q⟩
       obtain ⟨r6,hr6,lb,mb,w,e6,k6,s6,li,lo,mo⟩:=Zm1 cb _ Z1 s n Gl (vN Gl n) v K1 (c1+1+1) [] hcb1 qO ((hs.same sm1).mono qO) (hV.mono qO) hn
       obtain ⟨K6,hK6⟩:∃ K,r6.h=K:=⟨_,rfl⟩
       obtain ⟨c6,hc6⟩:∃ c,r6.c=c:=⟨_,rfl⟩
       rw [hK6,hc6] at e6 li
       rw [hc6] at k6
       rw [hK6] at s6
       rw [e6] at hr6
       have c60:=Z0b hr6
       have q1:=li.lo
       have q2:=li.mo
       have lr:LR K6 c6 lb mb s n Gl (inC (vN Gl n) v):=⟨⟨w,⟨false,none,li.hf⟩,li.ls.sl⟩,li.mp,(((hs.same sm1).mono (by omega:c<=c1+1+1)).same s6).mono qO,by omega,by omega,hok,hn⟩
       have lw:ld1 K6 (.pointer (some ⟨lb,1,none⟩))=some w:=by rw [Z05 (cs:=[s,w,.map (some mb)]) ⟨false,none,li.hf⟩]; rfl
       have lln:=li.ls.sl.len
       obtain ⟨⟨e7',vs7,K7,c7,df7⟩,ex7,ov,x1,x2,x3,x4,x5,x6⟩:=ZlX lb mb c6 (c6+1+1) s w n Gl (inC (vN Gl n) v) K6 [] lr li.ls.sl qO (rk (inC (vN Gl n) v) (4*n)) 0 (c6+1+1) K6 (.slice none 0 0) qO (Nat.le_refl _) (.inl ⟨rfl,rfl,rfl⟩) (Z0q.refl _ _)
       dsimp only at x1 x2 x3 x4 x5 x6
       subst x1 x2 x3
       simp only [Int.ofNat_eq_natCast,Int.cast_ofNat_Int] at ex7
       have fin:Z0q c h K7:=fun j hj=>by rw [x5 j qO,s6 j qO]; exact sm1 j hj
       obtain ⟨R,hR⟩:∃ R,rk (inC (vN Gl n) v) (4*n)=R:=⟨_,rfl⟩
       have xg:=x6
       rw [hR] at ex7 lln
       have nb:=h1
       have nb2:=h2
       have fx:=ai l0 (ai ck (ai c40 (ai c41 (ai xv0 (ai xv1 (ai c60 (ai lw (ai lln ex7))))))))
       refine Ans.go ?_
       clear fx
       exact .done ⟨ov,0,rfl,by dsimp only; omega,fin,.inr (.inr ⟨hok,⟨by omega,by omega⟩,rfl,Z5Z (xg.mono (by dsimp only; omega)) qO⟩)⟩
 · rw [if_neg (fun z=>hok z.2)] at ck
   have fx:=ai l0 ck
   refine Ans.go ?_
   clear fx
   exact .done ⟨_,_,rfl,by dsimp only; omega,sM,.inl ⟨by simpa using hok,rfl,rfl⟩⟩
end Go.Proofs.Ytdodippbpdechaa

namespace Go.Ab
def Z56 (f:Nat->Int):Nat->Int
 | 0=>0
 | n+1=>Z56 f n+f n
theorem Z55 {f g:Nat->Int}:∀ {n:Nat},(∀ a,a<n->f a=g a)->Z56 f n=Z56 g n
 | 0,_=>rfl
 | n+1,h=>by rw [Z56,Z56,Z55 (n:=n) (fun a ha=>h a qO),h n qO]
theorem Zd8 (f g:Nat->Int):∀ (n:Nat),Z56 (fun a=>f a+g a) n=Z56 f n+Z56 g n
 | 0=>by simp [Z56]
 | n+1=>by rw [Z56,Z56,Z56,Zd8 f g n]; omega
theorem Z6x (k:Int):∀ (n:Nat),Z56 (fun _=>k) n=n*k
 | 0=>by simp [Z56]
 | n+1=>by rw [Z56,Z6x k n,Int.natCast_add,Int.add_mul]; simp
theorem Zbl (n:Nat):Z56 (fun _=>0) n=0:=by rw [Z6x]; simp
theorem Zbm (h:Nat->Nat->Int) (N:Nat):∀ (M:Nat),Z56 (fun a=>Z56 (fun b=>h a b) N) M=Z56 (fun b=>Z56 (fun a=>h a b) M) N
 | 0=>by simp only [Z56]; exact (Zbl N).symm
 | M+1=>by
  rw [Z56,Zbm h N M]
  have:(fun b=>Z56 (fun a=>h a b) (M+1))=fun b=>Z56 (fun a=>h a b) M+h M b:=by funext b; rfl
  rw [this,Zd8]
theorem Z5H (g:Nat->Int) (b0:Nat):∀ {N:Nat},Z56 (fun b=>if b=b0 then g b else 0) N=if b0<N then g b0 else 0
 | 0=>by simp [Z56]
 | N+1=>by
  rw [Z56,Z5H g b0 (N:=N)]
  by_cases h1:b0<N
  · rw [if_pos h1,if_neg qO,if_pos qO]; omega
  · by_cases h2:N=b0
    · subst h2; rw [if_neg h1,if_pos rfl,if_pos qO]; omega
    · rw [if_neg h1,if_neg h2,if_neg qO]; rfl
end Go.Ab

namespace Go.Ab
theorem pigeon {N:Nat} {s:Nat->Nat} (h:∀ i,i<=N->s i<N):∃ i j,i<j/\j<=N/\s i=s j:=by
 apply Classical.byContradiction
 intro hn
 have inj:∀ i j,i<=N->j<=N->s i=s j->i=j:=fun i j hi hj e=>by
  rcases Nat.lt_trichotomy i j with h1 | h1 | h1
  · exact absurd ⟨i,j,h1,hj,e⟩ hn
  · exact h1
  · exact absurd ⟨j,i,h1,hi,e.symm⟩ hn
 have A:Z56 (fun i=>Z56 (fun b=>if b=s i then (1:Int) else 0) N) (N+1)=(N+1:Nat):=by
  rw [Z55 (g:=fun _=>1) (fun i hi=>by rw [Z5H (fun _=>1) (s i),if_pos (h i qO)]),Z6x]
  omega
 rw [Zbm] at A
 have B:∀ (m:Nat) (f:Nat->Int),(∀ b,b<m->f b<=1)->Z56 f m<=m:=by
  intro m f
  induction m with
  | zero=>intro _; simp [Z56]
  | succ m ih =>
   intro hf
   have:=ih fun b hb=>hf b qO
   have:=hf m qO
   rw [Z56]; omega
 have C:=B N (fun b=>Z56 (fun i=>if b=s i then (1:Int) else 0) (N+1)) fun b hb=>by
  show Z56 (fun i=>if b=s i then (1:Int) else 0) (N+1)<=1
  by_cases e:∃ i,i<N+1/\s i=b
  · obtain ⟨i0,h0,rfl⟩:=e
    rw [Z55 (g:=fun i=>if i=i0 then (1:Int) else 0) (fun i hi=>by
     by_cases q:i=i0
     · rw [q,if_pos rfl,if_pos rfl]
     · rw [if_neg q,if_neg (fun z=>q (inj i i0 qO qO z.symm))]),Z5H (fun _=>1) i0,if_pos h0]
    exact Int.le_refl _
  · rw [Z55 (g:=fun _=>0) (fun i hi=>if_neg fun z=>e ⟨i,hi,z.symm⟩),Zbl]
    decide
 omega
def orb (f:Nat->Option Nat) (s:Nat):Nat->Option Nat
 | 0=>some s
 | k+1=>(orb f s k).bind f
end Go.Ab

namespace Go.Ab
open Go
def it {α:Type} (f:α->Option α) (s:α):Nat->Option α
 | 0=>some s
 | k+1=>(it f s k).bind f
section
variable {α:Type} {f:α->Option α} {S:α->Prop} {cd:α->Nat} {N:Nat} {s:α}
theorem Z5t (hf:∀ a b,S a->f a=some b->S b) (hs:S s):∀ {k:Nat} {x:α},it f s k=some x->S x
 | 0,x,h=>by cases h; exact hs
 | k+1,x,h=>by
  simp only [it,Option.bind_eq_some_iff] at h
  obtain ⟨y,h1,h2⟩:=h
  exact hf y x (Z5t hf hs h1) h2
theorem Zco:∀ {k j:Nat},it f s k=none->k<=j->it f s j=none
 | k,0,h,hj=>by rw [show (0:Nat)=k by omega]; exact h
 | k,j+1,h,hj=>by
  by_cases e:k=j+1
  · rw [← e]; exact h
  · rw [it,Zco h qO]; rfl
theorem ZbE (hf:∀ a b,S a->f a=some b->S b) (hc:∀ a,S a->cd a<N) (hi:∀ a b,S a->S b->cd a=cd b->a=b) (inj:∀ a a' b,S a->S a'->f a=some b->f a'=some b->a=a') (hs:S s) :
 (∃ k,k<=N/\it f s k=none) ∨ ∃ k,1<=k/\k<=N/\it f s k=some s:=by
 by_cases e:∃ k,k<=N/\it f s k=none
 · exact .inl e
 right
 have hx:∀ k,k<=N -> ∃ x,it f s k=some x:=fun k hk=>by
  cases h:it f s k with
  | none=>exact absurd ⟨k,hk,h⟩ e
  | some x=>exact ⟨x,rfl⟩
 obtain ⟨g,hg⟩:∃ g:Nat->α,g=fun k=>(it f s k).getD s:=⟨_,rfl⟩
 have hgk:∀ k,k<=N->it f s k=some (g k):=fun k hk=>by
  obtain ⟨x,h⟩:=hx k hk
  rw [hg]
  show it f s k=some ((it f s k).getD s)
  rw [h]; rfl
 have gS:∀ k,k<=N->S (g k):=fun k hk=>Z5t hf hs (hgk k hk)
 obtain ⟨i,j,hij,hj,he⟩:=pigeon (N:=N) (s:=fun k=>cd (g k)) fun k hk=>hc _ (gS k hk)
 have key:∀ i j,i<j->j<=N->g i=g j->it f s (j-i)=some s:=by
  intro i
  induction i with
  | zero =>
   intro j h1 h2 h3
   rw [Nat.sub_zero,hgk j h2,← h3]
   have:=hgk 0 qO
   rw [← this]; rfl
  | succ i ih =>
   intro j h1 h2 h3
   obtain ⟨j,rfl⟩:∃ k,j=k+1:=⟨j-1,by omega⟩
   have a1:=hgk (i+1) qO
   have a2:=hgk (j+1) h2
   have b1:=hgk i qO
   have b2:=hgk j qO
   rw [it,b1] at a1
   rw [it,b2] at a2
   rw [h3] at a1
   have:=inj _ _ _ (gS i qO) (gS j qO) a1 a2
   rw [show j+1-(i+1)=j-i by omega]
   exact ih j qO qO this
 exact ⟨j-i,by omega,by omega,key i j hij hj (hi _ _ (gS i qO) (gS j hj) he)⟩
theorem Zat (hf:∀ a b,S a->f a=some b->S b) (hc:∀ a,S a->cd a<N) (hi:∀ a b,S a->S b->cd a=cd b->a=b) (inj:∀ a a' b,S a->S a'->f a=some b->f a'=some b->a=a') (hs:S s) (h0:∀ a,S a->f a ≠ some s):∃ k,k<=N/\it f s k=none:=by
 rcases ZbE hf hc hi inj hs with h | ⟨k,h1,h2,h3⟩
 · exact h
 · obtain ⟨k,rfl⟩:∃ j,k=j+1:=⟨k-1,by omega⟩
   simp only [it,Option.bind_eq_some_iff] at h3
   obtain ⟨y,h4,h5⟩:=h3
   exact absurd h5 (h0 y (Z5t hf hs h4))
theorem ZgX {b:α->Option α} (hf:∀ a b,S a->f a=some b->S b) (hb:∀ x y,S x->b x=some y->S y) (hc:∀ a,S a->cd a<N) (hi:∀ a b,S a->S b->cd a=cd b->a=b)
 (h1:∀ x y,S x->f x=some y->b y=some x) (h2:∀ x y,S x->b x=some y->f y=some x) (hs:S s) {m:Nat} (hm:it f s m=none):∃ k,k<=N/\it b s k=none:=by
 rcases ZbE hb hc hi (fun a a' y ha ha' e e'=>by
  have q1:=h2 a y ha e
  have q2:=h2 a' y ha' e'
  rw [q1] at q2; exact Option.some.inj q2) hs with h | ⟨k,k1,k2,k3⟩
 · exact h
 · exfalso
   have cl:∀ j,∃ i x,it f s j=some x/\it b s i=some x:=by
    intro j
    induction j with
    | zero=>exact ⟨0,s,rfl,rfl⟩
    | succ j ih =>
     obtain ⟨i,x,e1,e2⟩:=ih
     have pos:∃ i',it b s (i'+1)=some x:=by
      cases i with
      | zero =>
       have:s=x:=by simpa [it] using e2
       exact ⟨k-1,by rw [show k-1+1=k by omega,k3,this]⟩
      | succ i=>exact ⟨i,e2⟩
     obtain ⟨i',e3⟩:=pos
     have e4:=e3
     simp only [it,Option.bind_eq_some_iff] at e4
     obtain ⟨y,e5,e6⟩:=e4
     exact ⟨i',y,by rw [it,e1]; exact h2 y x (Z5t hb hs e5) e6,e5⟩
   obtain ⟨i,x,e1,-⟩:=cl m
   rw [hm] at e1; cases e1
end
def Z7P:List Int:=[0,1,3,2]
theorem Zgc:Z7P ∈ p24:=by decide
def wF (Gl:List Int) (x:List Int) (lab:Nat):List Int:=Z03 Gl (x.getD 0 0).toNat (x.getD (1+lab) 0).toNat
def wN (Gl:List Int) (lab:Nat) (x:List Int):Option (List Int):=if Z0Q (wF Gl x lab)<0 then none else some (Z0Q (wF Gl x lab)::Z13 (Z0j (wF Gl x lab)) (Z13 (x.drop 1) Z7P))
structure WOk (n:Nat) (x:List Int):Prop where
 l:x.length=5
 t:0<=x.getD 0 0/\x.getD 0 0<n
 p:x.drop 1 ∈ p24
theorem WOk.form {n:Nat} {x:List Int} (h:WOk n x):x=x.getD 0 0::x.drop 1:=by
 have:=h.l
 match x,this with
 | [a,b,c,d,e],_=>rfl
theorem WOk.mk' {n t:Nat} {p:List Int} (ht:t<n) (hp:p ∈ p24):WOk n ((t:Int)::p):=by
 have:=Z4l hp
 exact ⟨by simp [this],⟨by show (0:Int)<=t; omega,by show (t:Int)<n; omega⟩,hp⟩
theorem WOk.lab {n:Nat} {x:List Int} (h:WOk n x) {lab:Nat} (hl:lab<4):x.getD (1+lab) 0=(x.drop 1).getD lab 0/\0<=x.getD (1+lab) 0/\x.getD (1+lab) 0<4:=by
 have e:x.getD (1+lab) 0=(x.drop 1).getD lab 0:=(Z3S x 1 lab).symm
 have:=Z3u h.p hl
 rw [e]
 exact ⟨rfl,this⟩
section
variable {Gl:List Int} {n:Nat} (hok:Z0A Gl n=true) (hG:Gl.length=n*20)
 include hok hG
theorem Z7O {x:List Int} (h:WOk n x) {lab:Nat} (hl:lab<4) (hf:¬ Z0Q (wF Gl x lab)<0) :
 Z0Q (wF Gl x lab)<n/\Z0j (wF Gl x lab) ∈ p24/\Z03 Gl (Z0Q (wF Gl x lab)).toNat ((Z0j (wF Gl x lab)).getD (x.getD (1+lab) 0).toNat 0).toNat=x.getD 0 0::inv (Z0j (wF Gl x lab)):=by
 have ht:=h.t
 have hl':=h.lab hl
 have ok:=Z3Q (t:=(x.getD 0 0).toNat) (f:=(x.getD (1+lab) 0).toNat) hok qO qO
 obtain ⟨k1,k2,k3,k4⟩:=Z2h ok hf
 have hlen:=Z1j (Z0h hG (t:=(x.getD 0 0).toNat) (f:=(x.getD (1+lab) 0).toNat) qO qO)
 refine ⟨k1,Zao hlen k2, ?_⟩
 have e:(((x.getD 0 0).toNat:Nat):Int)=x.getD 0 0:=by omega
 rw [← e]
 exact k4
theorem Z1M {lab:Nat} (hl:lab<4):∀ x y,WOk n x->wN Gl lab x=some y->WOk n y:=fun x y h e=>by
 unfold wN at e
 by_cases hf:Z0Q (wF Gl x lab)<0
 · rw [if_pos hf] at e; cases e
 · rw [if_neg hf] at e
   cases e
   obtain ⟨k1,k2,k3⟩:=Z7O hok hG h hl hf
   have:=WOk.mk' (n:=n) (t:=(Z0Q (wF Gl x lab)).toNat) qO (Z51 k2 (Z51 h.p Zgc))
   rwa [show (((Z0Q (wF Gl x lab)).toNat:Nat):Int)=Z0Q (wF Gl x lab) by omega] at this
theorem Z4e {lab lab':Nat} (hl:lab<4) (hl':lab'<4) (hs:Z7P.getD lab' 0=lab):∀ x y,WOk n x->wN Gl lab x=some y->wN Gl lab' y=some x:=fun x y h e=>by
 have hy:=Z1M hok hG hl x y h e
 unfold wN at e
 by_cases hf:Z0Q (wF Gl x lab)<0
 · rw [if_pos hf] at e; cases e
 · rw [if_neg hf] at e
   obtain ⟨k1,k2,k3⟩:=Z7O hok hG h hl hf
   have e':=Option.some.inj e
   obtain ⟨Q,hQ⟩:∃ Q,Z0j (wF Gl x lab)=Q:=⟨_,rfl⟩
   rw [hQ] at k2 k3 e'
   have y0:y.getD 0 0=Z0Q (wF Gl x lab):=by rw [← e']; rfl
   have yd:y.drop 1=Z13 Q (Z13 (x.drop 1) Z7P):=by rw [← e']; rfl
   have lx:=(h.lab hl).1
   have ly:y.getD (1+lab') 0=Q.getD (x.getD (1+lab) 0).toNat 0:=by
    rw [(hy.lab hl').1,yd,Z5N (Z4l (Z51 h.p Zgc)) hl',Z5N (by rfl) hl',hs,Int.toNat_natCast,lx]
   have w:wF Gl y lab'=x.getD 0 0::inv Q:=by
    rw [wF,y0,ly,k3]
   have ht:=h.t
   have l4:=Z4l (inv24 k2)
   have w1:Z0Q (wF Gl y lab')=x.getD 0 0:=by rw [w]; rfl
   have w2:Z0j (wF Gl y lab')=inv Q:=by
    rw [w]; show (inv Q).take 4=_
    exact List.take_of_length_le qO
   rw [wN,w1,w2,if_neg qO,yd,Z5n (Z51 h.p Zgc) Zgc,Z5n Zgc Zgc,show Z13 Z7P Z7P=[0,1,2,3] by decide,Zn5 h.p,← Z5n k2 h.p,Ze0 k2,Zm9 h.p,← h.form]
end
def wCd (x:List Int):Nat:=256*(x.getD 0 0).toNat+((x.getD 1 0).toNat+4*(x.getD 2 0).toNat+16*(x.getD 3 0).toNat+64*(x.getD 4 0).toNat)
theorem WOk.rg {n:Nat} {x:List Int} (h:WOk n x):(0<=x.getD 1 0/\x.getD 1 0<4)/\(0<=x.getD 2 0/\x.getD 2 0<4)/\(0<=x.getD 3 0/\x.getD 3 0<4)/\(0<=x.getD 4 0/\x.getD 4 0<4) :=
 ⟨(h.lab (lab:=0) qO).2,(h.lab (lab:=1) qO).2,(h.lab (lab:=2) qO).2,(h.lab (lab:=3) qO).2⟩
theorem Z7r {n:Nat}:∀ x,WOk n x->wCd x<256*n:=fun x h=>by
 have:=h.t
 have:=h.rg
 unfold wCd
 omega
theorem Z4M {n:Nat}:∀ x y,WOk n x->WOk n y->wCd x=wCd y->x=y:=fun x y hx hy e=>by
 have a1:=hx.t
 have a2:=hx.rg
 have b1:=hy.t
 have b2:=hy.rg
 have lx:=hx.l
 have ly:=hy.l
 unfold wCd at e
 match x,lx,y,ly with
 | [a,b,c,d,f],_,[a',b',c',d',f'],_ =>
  simp only [List.getD_cons_zero,List.getD_cons_succ] at a1 a2 b1 b2 e
  obtain ⟨a,rfl⟩:=Int.eq_ofNat_of_zero_le a1.1
  obtain ⟨b,rfl⟩:=Int.eq_ofNat_of_zero_le a2.1.1
  obtain ⟨c,rfl⟩:=Int.eq_ofNat_of_zero_le a2.2.1.1
  obtain ⟨d,rfl⟩:=Int.eq_ofNat_of_zero_le a2.2.2.1.1
  obtain ⟨f,rfl⟩:=Int.eq_ofNat_of_zero_le a2.2.2.2.1
  obtain ⟨a',rfl⟩:=Int.eq_ofNat_of_zero_le b1.1
  obtain ⟨b',rfl⟩:=Int.eq_ofNat_of_zero_le b2.1.1
  obtain ⟨c',rfl⟩:=Int.eq_ofNat_of_zero_le b2.2.1.1
  obtain ⟨d',rfl⟩:=Int.eq_ofNat_of_zero_le b2.2.2.1.1
  obtain ⟨f',rfl⟩:=Int.eq_ofNat_of_zero_le b2.2.2.2.1
  simp only [Int.ofNat_eq_natCast,Int.toNat_natCast] at a1 a2 b1 b2 e ⊢
  have r1:b<4/\c<4/\d<4/\f<4:=⟨by omega,by omega,by omega,by omega⟩
  have r2:b'<4/\c'<4/\d'<4/\f'<4:=⟨by omega,by omega,by omega,by omega⟩
  clear a1 a2 b1 b2 hx hy lx ly
  have e1:b=b':=by omega
  subst e1
  have e2:c=c':=by omega
  subst e2
  have e3:d=d':=by omega
  subst e3
  have e4:f=f':=by omega
  subst e4
  have e5:a=a':=by omega
  subst e5
  rfl
def rgL (Gl:List Int) (lab:Nat) (s:List Int):Nat->List Int
 | 0=>[]
 | k+1=>rgL Gl lab s k++(it (wN Gl lab) s k).getD []
end Go.Ab

namespace Go.Proofs.Ytdodippbpdechaa
open Go Go.Ab Go.Proofs
theorem Zg0 (p q:List Int) (hp:p ∈ p24) (hq:q ∈ p24) (h:FH) (c:Nat) (df:List Nat) :
 G (.fn 90) [av p,av q] h c df=some ⟨.ret,[av (Z13 p q)],h,c,[]⟩:=by
 refine Z3E (fun r e=>f90_go e) (by simp) ?_
 have lp:=Z4l hp
 have lq:=Z4l hq
 have g0:=Z3u hq (i:=0) qO
 have g1:=Z3u hq (i:=1) qO
 have g2:=Z3u hq (i:=2) qO
 have g3:=Z3u hq (i:=3) qO
 have e1:Z13 p q=[p.getD (q.getD 0 0).toNat 0,p.getD (q.getD 1 0).toNat 0,p.getD (q.getD 2 0).toNat 0,p.getD (q.getD 3 0).toNat 0]:=by
  match q,lq with
  | [a,b,d,e],_=>rfl
 rw [e1]
 have flp:((av p).cells.toList.all Z06)=true:=by simp
 have flq:((av q).cells.toList.all Z06)=true:=by simp
 unfold Zmj
 rw [flp,flq,Z1s,Z1s]
 simp only [cond_true,Nat.add_zero]
 obtain ⟨pb,hpb⟩:∃ b,256*c=b:=⟨_,rfl⟩
 obtain ⟨qb,hqb⟩:∃ b,256*c+1=b:=⟨_,rfl⟩
 obtain ⟨ob,hob⟩:∃ b,256*c+2=b:=⟨_,rfl⟩
 rw [hqb,hob,hpb]
 obtain ⟨H0,hH0⟩:∃ H,newB (newB h pb (ints p)) qb (ints q)=H:=⟨_,rfl⟩
 rw [hH0]
 obtain ⟨H,hH⟩:∃ H,newB H0 ob [.int .i64 0,.int .i64 0,.int .i64 0,.int .i64 0]=H:=⟨_,rfl⟩
 have gp:Z0d H pb (ints p):=by rw [← hH,← hH0]; exact ((Z0d.newB_same _ _ _).newB_ne qO).newB_ne qO
 have gq:Z0d H qb (ints q):=by rw [← hH,← hH0]; exact (Z0d.newB_same _ _ _).newB_ne qO
 have rq:∀ i,i<4->ld1 H (.pointer (some ⟨qb,i,none⟩))=some (.int .i64 (q.getD i 0)):=fun i hi=>by rw [Z05 gq,ints_getD _ _ qO]
 have rp:∀ i,i<4->ld1 H (.pointer (some ⟨pb,i,none⟩))=some (.int .i64 (p.getD i 0)):=fun i hi=>by rw [Z05 gp,ints_getD _ _ qO]
 have q0:=rq 0 qO
 have q1:=rq 1 qO
 have q2:=rq 2 qO
 have q3:=rq 3 qO
 have p0:=rp (q.getD 0 0).toNat qO
 have p1:=rp (q.getD 1 0).toNat qO
 have p2:=rp (q.getD 2 0).toNat qO
 have p3:=rp (q.getD 3 0).toNat qO
 have b4:∀ a b d e:Int,Z1d [.int .i64 0,.int .i64 0,.int .i64 0,.int .i64 0] [(0,1,.int .i64 a),(1,1,.int .i64 b),(2,1,.int .i64 d),(3,1,.int .i64 e)]=some (av [a,b,d,e]):=fun a b d e=>rfl
 have st:∀ a b d e:Int,stN H 4 (.pointer (some ⟨ob,0,none⟩)) (av [a,b,d,e])=some (newB H0 ob (ints [a,b,d,e])):=fun a b d e=>by rw [← hH]; exact stN_all H0 ob 4 _ _ rfl rfl
 have ld:∀ a b d e:Int,ldN (newB H0 ob (ints [a,b,d,e])) 4 (.pointer (some ⟨ob,0,none⟩))=some (av [a,b,d,e]):=fun a b d e=>by rw [ldN_newB_same _ _ _ _ _ (by simp)]; rfl
 have sE:∀ cs,Z0q c h (newB H0 ob cs):=fun cs j hj=>by rw [Z01,if_neg qO,← hH0,Z01,if_neg qO,Z01,if_neg qO]
 rw [hH]
 obtain ⟨A0,hA0⟩:∃ A,p.getD (q.getD 0 0).toNat 0=A:=⟨_,rfl⟩
 obtain ⟨A1,hA1⟩:∃ A,p.getD (q.getD 1 0).toNat 0=A:=⟨_,rfl⟩
 obtain ⟨A2,hA2⟩:∃ A,p.getD (q.getD 2 0).toNat 0=A:=⟨_,rfl⟩
 obtain ⟨A3,hA3⟩:∃ A,p.getD (q.getD 3 0).toNat 0=A:=⟨_,rfl⟩
 rw [hA0] at p0 ⊢
 rw [hA1] at p1 ⊢
 rw [hA2] at p2 ⊢
 rw [hA3] at p3 ⊢
 obtain ⟨B0,hB0⟩:∃ A,q.getD 0 0=A:=⟨_,rfl⟩
 obtain ⟨B1,hB1⟩:∃ A,q.getD 1 0=A:=⟨_,rfl⟩
 obtain ⟨B2,hB2⟩:∃ A,q.getD 2 0=A:=⟨_,rfl⟩
 obtain ⟨B3,hB3⟩:∃ A,q.getD 3 0=A:=⟨_,rfl⟩
 rw [hB0] at q0 p0 g0
 rw [hB1] at q1 p1 g1
 rw [hB2] at q2 p2 g2
 rw [hB3] at q3 p3 g3
 have g00:=g0.1
 have g01:=g0.2
 have g10:=g1.1
 have g11:=g1.2
 have g20:=g2.1
 have g21:=g2.2
 have g30:=g3.1
 have g31:=g3.2
 have fx:=ai q0 (ai p0 (ai q1 (ai p1 (ai q2 (ai p2 (ai q3 (ai p3 (ai b4 (ai st ld)))))))))
 refine Ans.go ?_
 clear fx
 exact Ans.pure rfl (sE _)
theorem ZcQ (p q:List Int) (hp:p ∈ p24) (hq:q ∈ p24) (h:FH) (c:Nat) (df:List Nat) :
 G (.fn 79) [av p,av q] h c df=some ⟨.ret,[av (Z13 p q)],h,c,[]⟩:=by
 refine Z3E (fun r e=>f79_go e) (by simp) ?_
 have lp:=Z4l hp
 have lq:=Z4l hq
 have lc:=Z4l (Z51 hp hq)
 have flp:((av p).cells.toList.all Z06)=true:=by simp
 have flq:((av q).cells.toList.all Z06)=true:=by simp
 have hv:=fun h c=>Z18 p lp h c
 have hw:=fun h c=>Z18 q lq h c
 have hc:=fun h c=>Z0b (Zg0 p q hp hq h c [])
 simp only [Z6v hp] at hv
 simp only [Z6v hq] at hw
 unfold Zmr
 rw [flp,flq,Z1s,Z1s]
 simp only [cond_true,Nat.add_zero]
 obtain ⟨pb,hpb⟩:∃ b,256*c=b:=⟨_,rfl⟩
 obtain ⟨qb,hqb⟩:∃ b,256*c+1=b:=⟨_,rfl⟩
 obtain ⟨ob,hob⟩:∃ b,256*c+2=b:=⟨_,rfl⟩
 rw [hqb,hob,hpb]
 obtain ⟨H0,hH0⟩:∃ H,newB (newB h pb (ints p)) qb (ints q)=H:=⟨_,rfl⟩
 rw [hH0]
 obtain ⟨H,hH⟩:∃ H,newB H0 ob [.int .i64 0,.int .i64 0,.int .i64 0,.int .i64 0]=H:=⟨_,rfl⟩
 have gp:H.f pb=some (.cells false none (ints p)):=by rw [← hH,← hH0,Z01,if_neg qO,Z01,if_neg qO,Z01,if_pos rfl]
 have gq:H.f qb=some (.cells false none (ints q)):=by rw [← hH,← hH0,Z01,if_neg qO,Z01,if_pos rfl]
 have l0:ldN H 4 (.pointer (some ⟨pb,0,none⟩))=some (av p):=Z0v gp (by rw [ints_length,lp])
 have l1:ldN H 4 (.pointer (some ⟨qb,0,none⟩))=some (av q):=Z0v gq (by rw [ints_length,lq])
 have st:stN H 4 (.pointer (some ⟨ob,0,none⟩)) (av (Z13 p q))=some (newB H0 ob (ints (Z13 p q))):=by rw [← hH]; exact stN_all H0 ob 4 _ _ lc rfl
 have ld:ldN (newB H0 ob (ints (Z13 p q))) 4 (.pointer (some ⟨ob,0,none⟩))=some (av (Z13 p q)):=Z0v (by rw [Z01,if_pos rfl]) (by rw [ints_length,lc])
 have sE:Z0q c h (newB H0 ob (ints (Z13 p q))):=fun j hj=>by rw [Z01,if_neg qO,← hH0,Z01,if_neg qO,Z01,if_neg qO]
 rw [hH]
 obtain ⟨HE,hHE⟩:∃ H,newB H0 ob (ints (Z13 p q))=H:=⟨_,rfl⟩
 rw [hHE] at st ld sE
 obtain ⟨Z,hZ⟩:∃ Z,Z13 p q=Z:=⟨_,rfl⟩
 rw [hZ] at st ld ⊢
 simp only [hZ] at hc
 have fx:=ai l0 (ai hv (ai l1 (ai hw (ai hc (ai st ld)))))
 refine Ans.go ?_
 clear fx
 exact Ans.pure rfl sE
theorem Z5C (p q:List Int) (hp:p ∈ p24) (hq:q ∈ p24) (h:FH) (c:Nat):callF G 79 [av p,av q] h c=some (av (Z13 p q),h,c):=Z0b (ZcQ p q hp hq h c [])
structure WkI (y s:Value) (n:Nat) (Gl:List Int) (lab gb lb c0:Nat) (x0:List Int) (I:Nat->(Nat->Prop)->FH->Nat->Prop) (J:Nat->FH->Nat->Prop) (N:Nat):Prop where
 stab:∀ k O h c h' c',I k O h c->c<=c'->(∀ b,b<256*c->(b<256*c0 ∨ O b)->h'.f b=h.f b)->I k O h' c'
 read:∀ k O h c,I k O h c->Z0d h gb [s]/\Z0d h lb [.int .i64 lab]/\SlI h c s 20 n Gl/\c0<=c/\(∀ b,O b->b<256*c)
 step:∀ k x O h c,it (wN Gl lab) x0 k=some x->I k O h c->Ans (Z3A G h c y [av x]) fun q=>c<=q.2.2/\((q.1 = .bool true /\ ∃ O',(∀ b,O' b->O b ∨ 256*c<=b)/\I (k+1) O' q.2.1 q.2.2/\(∀ b,b<256*c->256*c0<=b -> ¬ O b->q.2.1.f b=h.f b)) ∨ (q.1 = .bool false/\J k q.2.1 q.2.2))
 fuel:∀ k x O h c,it (wN Gl lab) x0 k=some x->I k O h c->k<N
set_option maxHeartbeats 1000000 in
theorem Zln {y s:Value} {n:Nat} {Gl:List Int} {lab gb lb c0:Nat} {x0:List Int} {I:Nat->(Nat->Prop)->FH->Nat->Prop} {J:Nat->FH->Nat->Prop} {N:Nat} (w:WkI y s n Gl lab gb lb c0 x0 I J N) (hok:Z0A Gl n=true) (hG:Gl.length=n*20) (hn:n<=60) (hlab:lab<4) (lg:gb<256*c0) (ll:lb<256*c0) (hx0:WOk n x0) (df:List Nat) :
 ∀ (r k:Nat) (x:List Int) (O:Nat->Prop) (h:FH) (c xb:Nat),N<=k+r->it (wN Gl lab) x0 k=some x->I k O h c->h.f xb=some (.cells false none (ints x))->256*c0<=xb->xb<256*c -> ¬ O xb →
 Ans (G (Z9w none) [y,ptrTo gb,ptrTo lb,ptrTo xb] h c df) fun q=>q.df=df/\c<=q.c/\((q.e = .exit 0 /\ ∃ k x,it (wN Gl lab) x0 k=some x/\J k q.h q.c) ∨ (q.e = .ret /\ ∃ k x O,it (wN Gl lab) x0 k=some x/\it (wN Gl lab) x0 (k+1)=none/\I (k+1) O q.h q.c)):=by
 intro r
 induction r with
 | zero =>
  intro k x O h c xb hN hx hi _ _ _ _
  have:=w.fuel k x O h c hx hi
  omega
 | succ r ih =>
  intro k x O h c xb hN hx hi fx b1 b2 nO
  have hw:=Z5t (S:=WOk n) (Z1M hok hG hlab) hx0 hx
  have hl5:=hw.l
  have lx:ldN h 5 (.pointer (some ⟨xb,0,none⟩))=some (av x):=Z0v fx (by rw [ints_length,hl5])
  obtain ⟨⟨qv,H,cq⟩,hq,hc1,hcase⟩:=w.step k x O h (c+1) hx (w.stab k O h c h (c+1) hi qO fun _ _ _=>rfl)
  dsimp only at hc1 hcase
  rcases hcase with ⟨rfl,O',hO',hi',fr⟩ | ⟨rfl,hj⟩
  · obtain ⟨rg,rl,rs,rc,rO⟩:=w.read _ _ _ _ hi'
    have fxH:H.f xb=some (.cells false none (ints x)):=by rw [fr xb qO b1 nO]; exact fx
    have hxH:Z0d H xb (ints x):=⟨false,none,fxH⟩
    obtain ⟨t0,t1⟩:=hw.t
    obtain ⟨hlb1,hlb2,hlb3⟩:=hw.lab hlab
    obtain ⟨t,ht⟩:∃ t:Nat,x.getD 0 0=t:=⟨(x.getD 0 0).toNat,by omega⟩
    obtain ⟨f,hf⟩:∃ f:Nat,x.getD (1+lab) 0=f:=⟨(x.getD (1+lab) 0).toNat,by omega⟩
    have htn:t<n:=by omega
    have hf4:f<4:=by omega
    have f4:(f:Int)<4:=by omega
    have g1:ld1 H (.pointer (some ⟨gb,0,none⟩))=some s:=by rw [Z05 rg]; rfl
    have g2:ld1 H (.pointer (some ⟨xb,0,none⟩))=some (.int .i64 t):=by rw [Z05 hxH,ints_getD _ _ qO,ht]
    have g3:ld1 H (.pointer (some ⟨lb,0,none⟩))=some (.int .i64 lab):=by rw [Z05 rl]; rfl
    have g4:ld1 H (.pointer (some ⟨xb,1+lab,none⟩))=some (.int .i64 f):=by rw [Z05 hxH,ints_getD _ _ qO,hf]
    have ix:=rs.ixs .i64 t qO qO
    rw [Int.toNat_natCast] at ix
    have wF':wF Gl x lab=Z03 Gl t f:=by rw [wF,ht,hf,Int.toNat_natCast,Int.toNat_natCast]
    have hfl:=Z0h hG htn hf4
    have l1:ldN H 5 (.pointer (some ⟨Z0w s,Z4T s+t*20+f*5,none⟩))=some (av (Z03 Gl t f)):=by
     rw [Nat.add_assoc,rs.rdN 5 _ qO qO,Z03,show 20*t+5*f=t*20+f*5 by omega]
    obtain ⟨kb,hkb⟩:∃ b,256*cq+11=b:=⟨_,rfl⟩
    have st:stN (newB H kb [.int .i64 0,.int .i64 0,.int .i64 0,.int .i64 0,.int .i64 0]) 5 (.pointer (some ⟨kb,0,none⟩)) (av (Z03 Gl t f))=some (newB H kb (ints (Z03 Gl t f))):=stN_all _ _ 5 _ _ hfl rfl
    obtain ⟨H1,hH1⟩:∃ H1,newB H kb (ints (Z03 Gl t f))=H1:=⟨_,rfl⟩
    rw [hH1] at st
    have gk:H1.f kb=some (.cells false none (ints (Z03 Gl t f))):=by rw [← hH1,Z01,if_pos rfl]
    have k0:ld1 H1 (.pointer (some ⟨kb,0,none⟩))=some (.int .i64 (Z0Q (Z03 Gl t f))):=by rw [Z05 (cs:=ints (Z03 Gl t f)) ⟨false,none,gk⟩,ints_getD _ _ qO]; rfl
    have hi1:=w.stab (k+1) O' H cq H1 (cq+1+1) hi' qO fun b hb _=>by rw [← hH1,Z01,if_neg qO]
    have lab4:(lab:Int)<4:=by omega
    by_cases hz:Z0Q (Z03 Gl t f)<0
    · have hnone:it (wN Gl lab) x0 (k+1)=none:=by rw [it,hx]; show wN Gl lab x=none; rw [wN,wF',if_pos hz]
      obtain ⟨F,hF⟩:∃ F,Z03 Gl t f=F:=⟨_,rfl⟩
      rw [hF] at l1 st k0 hz
      refine Ans.lpN rfl rfl (Z4r ..) ?_
      unfold Z5d
      have fx:=ai lx (ai hq (ai g1 (ai g2 (ai g3 (ai g4 (ai ix (ai l1 (ai hkb (ai st (ai k0 hz))))))))))
      refine Ans.go ?_
      clear fx
      exact Ans.retN ⟨rfl,by dsimp only; omega,.inr ⟨rfl,k,x,O',hx,hnone,hi1⟩⟩
    · have k1:ldN H1 4 (.pointer (some ⟨kb,1,none⟩))=some (av (Z0j (Z03 Gl t f))):=by
       rw [ldN_holds (cs:=ints (Z03 Gl t f)) ⟨false,none,gk⟩ (by rw [ints_length]; omega),av,Z12,Z0V]; rfl
      have fxH1:H1.f xb=some (.cells false none (ints x)):=by rw [← hH1,Z01,if_neg qO]; exact fxH
      have k2:ldN H1 4 (.pointer (some ⟨xb,1,none⟩))=some (av (x.drop 1)):=by
       rw [ldN_holds (cs:=ints x) ⟨false,none,fxH1⟩ (by rw [ints_length]; omega),av,Z12,Z0V,List.take_of_length_le (by rw [List.length_drop]; omega)]
      have b4:Z1d [.int .i64 0,.int .i64 0,.int .i64 0,.int .i64 0] [(0,1,.int .i64 0),(1,1,.int .i64 1),(2,1,.int .i64 3),(3,1,.int .i64 2)]=some (av Z7P):=rfl
      obtain ⟨j1,j2,j3⟩:=Z7O hok hG hw hlab (by rw [wF']; exact hz)
      rw [wF'] at j1 j2
      have cc1:=fun h c=>Z5C (x.drop 1) Z7P hw.p Zgc h c
      have cc2:=fun h c=>Z5C (Z0j (Z03 Gl t f)) (Z13 (x.drop 1) Z7P) j2 (Z51 hw.p Zgc) h c
      have hnext:wN Gl lab x=some (Z0Q (Z03 Gl t f)::Z13 (Z0j (Z03 Gl t f)) (Z13 (x.drop 1) Z7P)):=by rw [wN,wF',if_neg hz]
      have hx':it (wN Gl lab) x0 (k+1)=some (Z0Q (Z03 Gl t f)::Z13 (Z0j (Z03 Gl t f)) (Z13 (x.drop 1) Z7P)):=by rw [it,hx]; exact hnext
      have hw':=Z1M hok hG hlab _ _ hw hnext
      obtain ⟨X,hX⟩:∃ X,Z0Q (Z03 Gl t f)::Z13 (Z0j (Z03 Gl t f)) (Z13 (x.drop 1) Z7P)=X:=⟨_,rfl⟩
      have hc4:=Z4l (Z51 j2 (Z51 hw.p Zgc))
      have b5:Z1d [.int .i64 0,.int .i64 0,.int .i64 0,.int .i64 0,.int .i64 0] [(0,1,.int .i64 (Z0Q (Z03 Gl t f))),(1,4,av (Z13 (Z0j (Z03 Gl t f)) (Z13 (x.drop 1) Z7P)))]=some (av X):=by
       rw [← hX]
       generalize Z13 (Z0j (Z03 Gl t f)) (Z13 (x.drop 1) Z7P)=C at hc4
       match C,hc4 with
       | [a,b,d,e],_=>rfl
      rw [hX] at hx' hw'
      have hX5:=hw'.l
      have st2:stN H1 5 (.pointer (some ⟨xb,0,none⟩)) (av X)=some (newB H1 xb (ints X)):=Z6y fxH1 (by rw [ints_length,hl5]) (by rw [ints_length,hX5]) (Z0p _)
      obtain ⟨H6,hH6⟩:∃ H,newB H1 xb (ints X)=H:=⟨_,rfl⟩
      rw [hH6] at st2
      have ld6:ldN H6 5 (.pointer (some ⟨xb,0,none⟩))=some (av X):=Z0v (by rw [← hH6,Z01,if_pos rfl]) (by rw [ints_length,hX5])
      obtain ⟨nb,hnb⟩:∃ b,256*(cq+1+1+1+1)=b:=⟨_,rfl⟩
      have st9:stN (newB H6 nb [.int .i64 0,.int .i64 0,.int .i64 0,.int .i64 0,.int .i64 0]) 5 (.pointer (some ⟨nb,0,none⟩)) (av X)=some (newB H6 nb (ints X)):=stN_all _ _ 5 _ _ hX5 rfl
      obtain ⟨H9,hH9⟩:∃ H,newB H6 nb (ints X)=H:=⟨_,rfl⟩
      rw [hH9] at st9
      have nO':¬ O' xb:=fun z=>by
       rcases hO' xb z with q | q
       · exact nO q
       · omega
      have hi9:=w.stab (k+1) O' H1 (cq+1+1) H9 (cq+1+1+1+1+1) hi1 qO fun b hb hor=>by
       have:b ≠ xb:=by
        rcases hor with q | q
        · omega
        · exact fun e=>nO' (e ▸ q)
       rw [← hH9,Z01,if_neg qO,← hH6,Z01,if_neg this]
      have nO9:¬ O' nb:=fun z=>by have:=rO nb z; omega
      have hk:=ih (k+1) X O' H9 (cq+1+1+1+1+1) nb qO hx' hi9 (by rw [← hH9,Z01,if_pos rfl]) qO qO nO9
      obtain ⟨F,hF⟩:∃ F,Z03 Gl t f=F:=⟨_,rfl⟩
      rw [hF] at l1 st k0 hz k1 b5
      simp only [hF] at cc2
      obtain ⟨T,hT⟩:∃ T,x.drop 1=T:=⟨_,rfl⟩
      rw [hT] at k2 b5
      simp only [hT] at cc1 cc2
      refine Ans.lpN rfl rfl (Z4r ..) ?_
      unfold Z5d
      have fx:=ai lx (ai hq (ai g1 (ai g2 (ai g3 (ai g4 (ai ix (ai l1 (ai hkb (ai st (ai k0 (ai hz (ai k1 (ai k2 (ai b4 (ai cc1 (ai cc2 (ai b5 (ai st2 (ai ld6 (ai hnb (ai st9 sameB_self)))))))))))))))))))))
      refine Ans.go ?_
      clear fx
      subst hnb
      refine Ans.nextN (hk.mono ?_)
      rintro q ⟨z1,z2,z3⟩
      exact ⟨z1,by omega,z3⟩
  · refine Ans.lpN rfl rfl (Z4r ..) ?_
    unfold Z5d
    have fx:=ai lx hq
    refine Ans.go ?_
    clear fx
    exact Ans.exitN ⟨rfl,by dsimp only; omega,.inl ⟨rfl,k,x,hx,hj⟩⟩
theorem Zc1 {y s:Value} {n:Nat} {Gl:List Int} {lab gb lb c0:Nat} {x0:List Int} {I:Nat->(Nat->Prop)->FH->Nat->Prop} {J:Nat->FH->Nat->Prop} {N:Nat} (w:WkI y s n Gl lab gb lb c0 x0 I J N) (hok:Z0A Gl n=true) (hG:Gl.length=n*20) (hn:n<=60) (hlab:lab<4) (lg:gb<256*c0) (ll:lb<256*c0) (hx0:WOk n x0) (df:List Nat) (fb:Nat) (O:Nat->Prop) (h:FH) (hi:I 0 O h c0) (hf:h.f fb=some (.cells false none (ints x0))) :
 Ans (G (.fn 78) [y,ptrTo fb,ptrTo gb,ptrTo lb] h c0 df) fun q=>q=⟨.ret,[.tuple #[]],q.h,q.c,[]⟩/\c0<=q.c/\((∃ k x,it (wN Gl lab) x0 k=some x/\J k q.h q.c) ∨ (∃ k x O,it (wN Gl lab) x0 k=some x/\it (wN Gl lab) x0 (k+1)=none/\I (k+1) O q.h q.c)):=by
 refine Ans.call' (fun r e=>f78_go e) ?_
 unfold Zms
 have l5:=hx0.l
 have lx:ldN h 5 (.pointer (some ⟨fb,0,none⟩))=some (av x0):=Z0v hf (by rw [ints_length,l5])
 obtain ⟨xb,hxb⟩:∃ b,256*c0+1=b:=⟨_,rfl⟩
 have st:stN (newB h xb [.int .i64 0,.int .i64 0,.int .i64 0,.int .i64 0,.int .i64 0]) 5 (.pointer (some ⟨xb,0,none⟩)) (av x0)=some (newB h xb (ints x0)):=stN_all _ _ 5 _ _ l5 rfl
 obtain ⟨H,hH⟩:∃ H,newB h xb (ints x0)=H:=⟨_,rfl⟩
 rw [hH] at st
 obtain ⟨rg,rl,rs,rc,rO⟩:=w.read _ _ _ _ hi
 have hi':=w.stab 0 O h c0 H (c0+1) hi qO fun b hb _=>by rw [← hH,Z01,if_neg qO]
 obtain ⟨⟨e',vs',h',c',df'⟩,ex,z1,z2,z3⟩:=Zln w hok hG hn hlab lg ll hx0 [] N 0 x0 O H (c0+1) xb qO rfl hi' (by rw [← hH,Z01,if_pos rfl]) qO qO (fun z=>by have:=rO xb z; omega)
 dsimp only at z1 z2 z3
 subst z1
 rcases z3 with ⟨rfl,k,x,hx,hj⟩ | ⟨rfl,k,x,O',hx,hx2,hi2⟩
 · have fx:=ai lx (ai hxb (ai st ex))
   refine Ans.go ?_
   clear fx
   exact .done ⟨rfl,by dsimp only; omega,.inl ⟨k,x,hx,hj⟩⟩
 · have fx:=ai lx (ai hxb (ai st ex))
   refine Ans.go ?_
   clear fx
   exact .done ⟨rfl,by dsimp only; omega,.inr ⟨k,x,O',hx,hx2,hi2⟩⟩

theorem ZkG (a0 a1 a2 a3 a4 b0 b1 b2 b3 b4:Int):Z0F P .eql 67 (av [a0,a1,a2,a3,a4]) (av [b0,b1,b2,b3,b4]) =
 (cond (a0 == b0) ((cond (a1 == b1) (cond (a2 == b2) (cond (a3 == b3) (cond (a4 == b4) (some true) (some false)) (some false)) (some false)) (some false)).bind fun r=>cond r (some true) (some false)) (some false)).bind fun b=>some (.bool b):=by kernel_rfl
theorem Zht (x y:List Int) (hx:x.length=5) (hy:y.length=5):Z00 P .eql 67 (av x) (av y)=some (.bool (decide (x=y))):=by
 match x,hx,y,hy with
 | [a0,a1,a2,a3,a4],_,[b0,b1,b2,b3,b4],_ =>
  rw [Z0s,ZkG]
  by_cases h0:a0=b0 <;> by_cases h1:a1=b1 <;> by_cases h2:a2=b2 <;> by_cases h3:a3=b3 <;> by_cases h4:a4=b4 <;> simp [h0,h1,h2,h3,h4,Bool.cond_eq_ite]
def z5:List Value:=[.int .i64 0,.int .i64 0,.int .i64 0,.int .i64 0,.int .i64 0]
theorem ZhG {l:Nat} {st:ALoop} {h:FH} {c:Nat} {x:List Int} (hl:l<256*c) (h5:HeapC.get h l=some (.loop st)) (h6:st.state = .ready) (hx:x.length=5) :
 ∃ H1 H:FH,stN (newB h (256*c) z5) 5 (ptrTo (256*c)) (av x)=some H1/\Z1U H1 l=some H/\H.f l=some (.loop { st with state:=.busy })/\H.f (256*c)=some (.cells false none (ints x)) /\ ∀ j,j<256*c->j ≠ l->H.f j=h.f j:=by
 refine ⟨newB h (256*c) (ints x),HeapC.set (newB h (256*c) (ints x)) l (.loop { st with state:=.busy }), ?_,Za2 ?_ h6,by rw [Z0o,if_pos rfl], ?_,fun j hj hne=>?_⟩
 · rw [stN_ptrTo]; exact stN_all _ _ 5 _ _ hx rfl
 · rw [get_newB_ne _ _ _ _ qO]; exact h5
 · rw [Z0o,if_neg qO,Z01,if_pos rfl]
 · rw [Z0o,if_neg hne,Z01,if_neg qO]
def RApp (l rp c0 c k:Nat) (x L:List Int) (ov:Value) (st:ALoop) (h:FH) (r:Rt FH):Prop :=
 r.vs=[.bool true]/\r.h.f l=some (.loop { st with state:=.ready,pending:=none }) /\ ∃ i,256*c<=i/\r.h.f rp=some (.cells false none [.slice (some ⟨i,0,none⟩) (k+1) (k+1)])/\GrC c0 r.h r.c (.slice (some ⟨i,0,none⟩) (k+1) (k+1)) 5 (k+1) (ints (L++x)) ∧
  ∀ j,j<256*c->j ≠ l->j ≠ rp->(ov ≠ .slice none 0 0->j ≠ Z0w ov)->r.h.f j=h.f j
theorem ZlE (l rp c0 c k:Nat) (x L:List Int) (ov:Value) (st:ALoop) (h:FH) (hx:x.length=5) (hc:c0<=c) (ll:l<256*c0) (lr:rp<256*c0) (n1:l ≠ rp)
 (h1:h.f rp=some (.cells false none [ov])) (g:GrC c0 h c ov 5 k (ints L)) (h5:HeapC.get h l=some (.loop st)) (h6:st.state = .ready) (hk:k<=100000) :
 Ans (Z5i G l (av x) (ptrTo rp) h c) fun r=>c<=r.c/\r.e = .ret/\r.df=[]/\RApp l rp c0 c k x L ov st h r:=by
 unfold Z5i
 obtain ⟨H1,H,w1,w2,Hl,Hx,Hf⟩:=ZhG (l:=l) (st:=st) (c:=c) (x:=x) qO h5 h6 hx
 have gl:=g.blk
 have Hr:H.f rp=some (.cells false none [ov]):=(Hf rp qO (Ne.symm n1)).trans h1
 have gH:GrC c0 H c ov 5 k (ints L):=g.keep fun hv=>Hf _ (gl hv).2 (by have:=(gl hv).1; omega)
 have l1:ldN H 5 (.pointer (some ⟨256*c,0,none⟩))=some (av x):=Z0v Hx (by rw [ints_length,hx])
 have bl:=Z53 z5 x 5 rfl hx
 obtain ⟨b,hb⟩:∃ b,256*(c+1)+2=b:=⟨_,rfl⟩
 obtain ⟨id,hid⟩:∃ b,256*(c+1)+3=b:=⟨_,rfl⟩
 obtain ⟨K1,K2,a1,a2,a3,a4,a5,a6⟩:=GrC.step (c':=c+1+1) Hr (show [ov][0]? = some ov from rfl) lr (gH.mono (show c<=c+1 by omega)) (ints x) (by rw [ints_length,hx]) (Z0p _) qO 40 b id qO qO qO qO qO qO
 have K2l:HeapC.get K2 l=some (.loop { st with state:=.busy }):=(a6 l qO n1 fun hv=>by have:=(gl hv).1; omega).trans Hl
 have w3:=Z3q K2l .ready none
 obtain ⟨K3,hK3⟩:∃ K,HeapC.set K2 l (.loop { st with state:=.ready,pending:=none })=K:=⟨_,rfl⟩
 have w3':Z0t K2 l .ready none=some K3:=w3.trans (by rw [← hK3])
 have K3f:∀ j,j ≠ l->K3.f j=K2.f j:=fun j hj=>by rw [← hK3,Z0o,if_neg hj]
 rw [show [Value.int .i64 0,Value.int .i64 0,Value.int .i64 0,Value.int .i64 0,Value.int .i64 0]=z5 from rfl]
 obtain ⟨Z,hZ⟩:∃ Z,z5=Z:=⟨_,rfl⟩
 rw [hZ] at w1 bl ⊢
 obtain ⟨X,hX⟩:∃ X,av x=X:=⟨_,rfl⟩
 rw [hX] at w1 l1 bl ⊢
 obtain ⟨Y,hY⟩:∃ X,ints x=X:=⟨_,rfl⟩
 rw [hY] at bl a2
 simp only [Nat.add_zero]
 have fx:=ai w1 (ai w2 (ai a1 (ai l1 (ai bl (ai hb (ai hid (ai a2 (ai a3 w3'))))))))
 refine Ans.go ?_
 clear fx
 refine .done ⟨by dsimp only; omega,rfl,rfl,rfl, ?_,id,by omega, ?_, ?_,fun j hj e1 e2 e3=>?_⟩
 · show K3.f l=_
   rw [← hK3,Z0o,if_pos rfl]
 · show K3.f rp=_
   rw [K3f _ (Ne.symm n1),a4]; rfl
 · rw [Z0W] at a5
   exact a5.keep fun _=>K3f _ (by rw [blkOf_sl]; omega)
 · show K3.f j=_
   rw [K3f j e1,a6 j qO e2 e3,Hf j hj e1]
theorem ZlF (l sp c0 c:Nat) (x y:List Int) (st:ALoop) (h:FH) (hx:x.length=5) (hy:y.length=5) (hc:c0<=c) (ll:l<256*c0) (lr:sp<256*c0) (n1:l ≠ sp)
 (h1:h.f sp=some (.cells false none (ints y))) (h5:HeapC.get h l=some (.loop st)) (h6:st.state = .ready) :
 Ans (Z5j G l (av x) (ptrTo sp) h c) fun r=>c<=r.c/\r.e = .ret/\r.df=[]/\r.vs=[.bool true]/\r.h.f l=some (.loop { st with state:=.ready,pending:=none })/\r.h.f sp=some (.cells false none (ints x)) ∧
  ∀ j,j<256*c->j ≠ l->j ≠ sp->r.h.f j=h.f j:=by
 unfold Z5j
 obtain ⟨H1,H,w1,w2,Hl,Hx,Hf⟩:=ZhG (l:=l) (st:=st) (c:=c) (x:=x) qO h5 h6 hx
 have Hs:H.f sp=some (.cells false none (ints y)):=(Hf sp qO (Ne.symm n1)).trans h1
 have l1:ldN H 5 (.pointer (some ⟨256*c,0,none⟩))=some (av x):=Z0v Hx (by rw [ints_length,hx])
 have w3:stN H 5 (.pointer (some ⟨sp,0,none⟩)) (av x)=some (newB H sp (ints x)):=Z6y Hs (by rw [ints_length,hy]) (by rw [ints_length,hx]) (Z0p _)
 obtain ⟨K2,hK2⟩:∃ K,newB H sp (ints x)=K:=⟨_,rfl⟩
 rw [hK2] at w3
 have K2l:HeapC.get K2 l=some (.loop { st with state:=.busy }):=by
  show K2.f l=_
  rw [← hK2,Z01,if_neg n1]; exact Hl
 have w4:=Z3q K2l .ready none
 obtain ⟨K3,hK3⟩:∃ K,HeapC.set K2 l (.loop { st with state:=.ready,pending:=none })=K:=⟨_,rfl⟩
 have w4':Z0t K2 l .ready none=some K3:=w4.trans (by rw [← hK3])
 rw [show [Value.int .i64 0,Value.int .i64 0,Value.int .i64 0,Value.int .i64 0,Value.int .i64 0]=z5 from rfl]
 obtain ⟨Z,hZ⟩:∃ Z,z5=Z:=⟨_,rfl⟩
 rw [hZ] at w1 ⊢
 obtain ⟨X,hX⟩:∃ X,av x=X:=⟨_,rfl⟩
 rw [hX] at w1 l1 w3 ⊢
 simp only [Nat.add_zero]
 have fx:=ai w1 (ai w2 (ai l1 (ai w3 w4')))
 refine Ans.go ?_
 clear fx
 refine .done ⟨by dsimp only; omega,rfl,rfl,rfl, ?_, ?_,fun j hj e1 e2=>?_⟩
 · show K3.f l=_
   rw [← hK3,Z0o,if_pos rfl]
 · show K3.f sp=_
   rw [← hK3,Z0o,if_neg (Ne.symm n1),← hK2,Z01,if_pos rfl]
 · show K3.f j=_
   rw [← hK3,Z0o,if_neg e1,← hK2,Z01,if_neg e2,Hf j hj e1]
theorem ZlG (l rp tp ep fp c0 c k:Nat) (x x0 L:List Int) (ov:Value) (st:ALoop) (h:FH) (hx:x.length=5) (hx0:x0.length=5) (hc:c0<=c) (ll:l<256*c0) (lr:rp<256*c0) (lt:tp<256*c0) (le:ep<256*c0) (lf:fp<256*c0)
 (n1:l ≠ rp) (n2:l ≠ tp) (n3:l ≠ ep) (n4:l ≠ fp) (n5:rp ≠ tp) (n6:rp ≠ ep) (n7:tp ≠ ep)
 (h1:h.f rp=some (.cells false none [ov])) (h2:h.f tp=some (.cells false none [.bool false])) (h3:h.f ep=some (.cells false none [.int .i64 0])) (h4:Z0d h fp (ints x0)) (g:GrC c0 h c ov 5 k (ints L)) (h5:HeapC.get h l=some (.loop st)) (h6:st.state = .ready) (hk:k<=100000) :
 Ans (Z5k G l (av x) (ptrTo rp) (ptrTo tp) (ptrTo ep) (ptrTo fp) h c) fun r=>c<=r.c/\r.e = .ret/\r.df=[] ∧
  ((0<k/\x=x0/\r.vs=[.bool false]/\r.h.f l=some (.loop { st with state:=.done,pending:=some .ret })/\r.h.f tp=some (.cells false none [.bool true]) /\ ∀ j,j<256*c->j ≠ l->j ≠ tp->r.h.f j=h.f j) ∨ (¬ (0<k/\x=x0)/\RApp l rp c0 c k x L ov st h r)):=by
 unfold Z5k
 obtain ⟨H1,H,w1,w2,Hl,Hx,Hf⟩:=ZhG (l:=l) (st:=st) (c:=c) (x:=x) qO h5 h6 hx
 have gl:=g.blk
 have Hr:H.f rp=some (.cells false none [ov]):=(Hf rp qO (Ne.symm n1)).trans h1
 have gH:GrC c0 H c ov 5 k (ints L):=g.keep fun hv=>Hf _ (gl hv).2 (by have:=(gl hv).1; omega)
 have l1:ldN H 5 (.pointer (some ⟨256*c,0,none⟩))=some (av x):=Z0v Hx (by rw [ints_length,hx])
 have l0:ld1 H (.pointer (some ⟨rp,0,none⟩))=some ov:=by rw [Z05 (cs:=[ov]) ⟨false,none,Hr⟩]; rfl
 have gn:=g.len
 have Hp:Z0d H fp (ints x0):=by
  obtain ⟨ro,op,q⟩:=h4
  exact ⟨ro,op,(Hf fp qO (Ne.symm n4)).trans q⟩
 have l2:ldN H 5 (.pointer (some ⟨fp,0,none⟩))=some (av x0):=by
  rw [ldN_holds Hp (by rw [ints_length]; omega),av,Z12,Z0V,List.drop_zero,List.take_of_length_le qO]
 have eq:=Zht x x0 hx hx0
 rw [show [Value.int .i64 0,Value.int .i64 0,Value.int .i64 0,Value.int .i64 0,Value.int .i64 0]=z5 from rfl]
 by_cases q:0<k/\x=x0
 · obtain ⟨q1,rfl⟩:=q
   have kp:(0:Int)<k:=by omega
   rw [decide_eq_true rfl] at eq
   have v1:stN H 1 (.pointer (some ⟨rp,0,none⟩)) ov=some (HeapC.set H rp (.cells false none [ov])):=Z3p (show HeapC.get H rp=_ from Hr) (by simp) g.flat.2 g.flat.1
   obtain ⟨K1,hK1⟩:∃ K,HeapC.set H rp (.cells false none [ov])=K:=⟨_,rfl⟩
   rw [hK1] at v1
   have K1f:∀ j,K1.f j=H.f j:=fun j=>by
    rw [← hK1,Z0o]; split
    · rename_i e; rw [e,Hr]
    · rfl
   have v2:stN K1 1 (.pointer (some ⟨tp,0,none⟩)) (.bool true)=some (HeapC.set K1 tp (.cells false none [.bool true])):=Z3p (show HeapC.get K1 tp=some (.cells false none [.bool false]) by show K1.f tp=_; rw [K1f,Hf _ qO (Ne.symm n2),h2]) (by simp) rfl rfl
   obtain ⟨K2,hK2⟩:∃ K,HeapC.set K1 tp (.cells false none [.bool true])=K:=⟨_,rfl⟩
   rw [hK2] at v2
   have K2f:∀ j,j ≠ tp->K2.f j=H.f j:=fun j hj=>by rw [← hK2,Z0o,if_neg hj,K1f]
   have K2e:K2.f ep=some (.cells false none [.int .i64 0]):=by rw [K2f _ (Ne.symm n7),Hf _ qO (Ne.symm n3),h3]
   have v3:stN K2 1 (.pointer (some ⟨ep,0,none⟩)) (.int .i64 0)=some (HeapC.set K2 ep (.cells false none [.int .i64 0])):=Z3p (show HeapC.get K2 ep=_ from K2e) (by simp) rfl rfl
   obtain ⟨K3,hK3⟩:∃ K,HeapC.set K2 ep (.cells false none [.int .i64 0])=K:=⟨_,rfl⟩
   rw [hK3] at v3
   have K3f:∀ j,K3.f j=K2.f j:=fun j=>by
    rw [← hK3,Z0o]; split
    · rename_i e; rw [e,K2e]
    · rfl
   have K3l:HeapC.get K3 l=some (.loop { st with state:=.busy }):=by
    show K3.f l=_
    rw [K3f,K2f _ n2]; exact Hl
   have w3:=Z3q K3l .done (some .ret)
   obtain ⟨K4,hK4⟩:∃ K,HeapC.set K3 l (.loop { st with state:=.done,pending:=some .ret })=K:=⟨_,rfl⟩
   have w3':Z0t K3 l .done (some .ret)=some K4:=w3.trans (by rw [← hK4])
   obtain ⟨Z,hZ⟩:∃ Z,z5=Z:=⟨_,rfl⟩
   rw [hZ] at w1 ⊢
   obtain ⟨X,hX⟩:∃ X,av x=X:=⟨_,rfl⟩
   rw [hX] at w1 l1 l2 eq ⊢
   simp only [Nat.add_zero]
   have fx:=ai w1 (ai w2 (ai l0 (ai gn (ai kp (ai l1 (ai l2 (ai eq (ai v1 (ai v2 (ai v3 w3'))))))))))
   refine Ans.go ?_
   clear fx
   refine .done ⟨by dsimp only; omega,rfl,rfl,.inl ⟨q1,by trivial,rfl, ?_, ?_,fun j hj e1 e2=>?_⟩⟩
   · show K4.f l=_
     rw [← hK4,Z0o,if_pos rfl]
   · show K4.f tp=_
     rw [← hK4,Z0o,if_neg (Ne.symm n2),K3f,← hK2,Z0o,if_pos rfl]
   · show K4.f j=_
     rw [← hK4,Z0o,if_neg e1,K3f,K2f _ e2,Hf j hj e1]
 · have bl:=Z53 z5 x 5 rfl hx
   have hcase:(0<k/\x ≠ x0) ∨ k=0:=by
    by_cases h0:0<k
    · exact .inl ⟨h0,fun e=>q ⟨h0,e⟩⟩
    · exact .inr qO
   obtain ⟨b,hb⟩:∃ b,256*(c+1+1)+2=b:=⟨_,rfl⟩
   obtain ⟨id,hid⟩:∃ b,256*(c+1+1)+3=b:=⟨_,rfl⟩
   obtain ⟨K1,K2,a1,a2,a3,a4,a5,a6⟩:=GrC.step (c':=c+1+1+1) Hr (show [ov][0]? = some ov from rfl) lr (gH.mono (show c<=c+1+1 by omega)) (ints x) (by rw [ints_length,hx]) (Z0p _) qO 40 b id qO qO qO qO qO qO
   have K2l:HeapC.get K2 l=some (.loop { st with state:=.busy }):=(a6 l qO n1 fun hv=>by have:=(gl hv).1; omega).trans Hl
   have w3:=Z3q K2l .ready none
   obtain ⟨K3,hK3⟩:∃ K,HeapC.set K2 l (.loop { st with state:=.ready,pending:=none })=K:=⟨_,rfl⟩
   have w3':Z0t K2 l .ready none=some K3:=w3.trans (by rw [← hK3])
   have K3f:∀ j,j ≠ l->K3.f j=K2.f j:=fun j hj=>by rw [← hK3,Z0o,if_neg hj]
   have fin:RApp l rp c0 c k x L ov st h ⟨.ret,[.bool true],K3,c+1+1+1,[]⟩:=by
    refine ⟨rfl, ?_,id,by omega, ?_, ?_,fun j hj e1 e2 e3=>?_⟩
    · show K3.f l=_
      rw [← hK3,Z0o,if_pos rfl]
    · show K3.f rp=_
      rw [K3f _ (Ne.symm n1),a4]; rfl
    · rw [Z0W] at a5
      exact a5.keep fun _=>K3f _ (by rw [blkOf_sl]; omega)
    · show K3.f j=_
      rw [K3f j e1,a6 j qO e2 e3,Hf j hj e1]
   obtain ⟨Z,hZ⟩:∃ Z,z5=Z:=⟨_,rfl⟩
   rw [hZ] at w1 bl ⊢
   obtain ⟨X,hX⟩:∃ X,av x=X:=⟨_,rfl⟩
   rw [hX] at w1 l1 eq bl ⊢
   obtain ⟨Y,hY⟩:∃ X,ints x=X:=⟨_,rfl⟩
   rw [hY] at bl a2
   simp only [Nat.add_zero]
   rcases hcase with ⟨h0,hne⟩ | h0
   · have kp:(0:Int)<k:=by omega
     rw [decide_eq_false hne] at eq
     have fx:=ai w1 (ai w2 (ai l0 (ai gn (ai kp (ai l1 (ai l2 (ai eq (ai bl (ai hb (ai hid (ai a2 (ai a3 w3'))))))))))))
     refine Ans.go ?_
     clear fx
     exact .done ⟨by dsimp only; omega,rfl,rfl,.inr ⟨q,fin⟩⟩
   · subst h0
     have fx:=ai w1 (ai w2 (ai l0 (ai gn (ai l1 (ai bl (ai hb (ai hid (ai a2 (ai a3 w3')))))))))
     refine Ans.go ?_
     clear fx
     exact .done ⟨by dsimp only; omega,rfl,rfl,.inr ⟨q,fin⟩⟩
end Go.Proofs.Ytdodippbpdechaa
