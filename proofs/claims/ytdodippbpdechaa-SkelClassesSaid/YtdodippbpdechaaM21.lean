/- Parts of a proof: Q8 Q9 Q3 Q2 R0. Conditions: none. -/
import Derived.Test.YtdodippbpdechaaM20
import Derived.Test.YtdodippbpdechaaM16
import Derived.Test.YtdodippbpdechaaM19
set_option linter.all false
set_option maxRecDepth 100000
set_option maxHeartbeats 4000000
namespace Go.Proofs.Ytdodippbpdechaa
open Go Go.Ab Go.Proofs
theorem Zqn (Gl D:List Int) (Q:Nat->Bool):∀ m,(dY Gl D Q m).1.length<=m/\(dY Gl D Q m).2.1+(dY Gl D Q m).2.2<=m
 | 0=>⟨qG _,qG _⟩
 | m+1=>by
  obtain ⟨h1,h2⟩:=Zqn Gl D Q m;rw [dY]
  split
  · unfold dSy
    split
    · have:=Zgn (dY Gl D Q m).1 (D.getD m 0)
      split <;> exact ⟨by dsimp only; omega,by dsimp only; omega⟩
    · exact ⟨qO,qO⟩
  · exact ⟨qO,qO⟩
theorem Zp6 {Gl:List Int} {n t j:Nat} (hG:Gl.length=n*20) (ht:t<n) (hj:j<4):(Z0K Gl t).getD (j*5) 0=Z0D (Z04 Gl t j):=by
 have:=Z23 (Gl:=Gl) (t:=t) hj;unfold Z0D;rw [← this,Z2D _ _ _ qO,Z26,qW]
def lkZ (K:Nat):List Value:=[.int .i64 K,.int .i64 0,.int .i64 0,.int .i64 0,.bool true,.bool true]
def lk6:List Value:=[.int .i64 0,.int .i64 0,.int .i64 0,.int .i64 0,.bool false,.bool false]
structure LQ (c0 c cm ob rs g0:Nat) (s:Value) (B0 H:FH) (cv:Value) (z:List Int × Nat × Nat) (K:Nat):Prop where
 fs:H.f ob=some (.cells false none (lkZ K))
 fr:H.f rs=some (.cells false none lk6)
 ag:GrC c0 H c cv 1 z.1.length (ints z.1)
 sm:Z0l cm B0 H
 b1:256*cm<=ob
 b2:ob<256*c0
 b3:256*cm<=rs
 b4:rs<256*c0
 b5:cm<=c0
 ne:ob ≠ rs
 fg:H.f g0=some (.cells false none [s])
 b6:g0<256*c0
 n6:g0 ≠ ob
theorem LQ.mono {c0 c c' cm ob rs g0:Nat} {s:Value} {B0 H:FH} {cv:Value} {z:List Int × Nat × Nat} {K:Nat} (a:LQ c0 c cm ob rs g0 s B0 H cv z K) (hc:c<=c'):LQ c0 c' cm ob rs g0 s B0 H cv z K :=
 ⟨a.fs,a.fr,a.ag.mono hc,a.sm,a.b1,a.b2,a.b3,a.b4,a.b5,a.ne,a.fg,a.b6,a.n6⟩
theorem LQ.cong {c0 c cm ob rs g0:Nat} {s:Value} {B0 H:FH} {cv:Value} {z z':List Int × Nat × Nat} {K:Nat} (a:LQ c0 c cm ob rs g0 s B0 H cv z K) (h:z.1=z'.1):LQ c0 c cm ob rs g0 s B0 H cv z' K :=
 ⟨a.fs,a.fr,by rw [← h]; exact a.ag,a.sm,a.b1,a.b2,a.b3,a.b4,a.b5,a.ne,a.fg,a.b6,a.n6⟩
theorem lq_j (c0 cm ob rs g0 kb n t i K:Nat) (k:Nat) (Gl D:List Int) (Q:Nat->Bool) (v d s x19 x20 x21:Value) (B0:FH) (df:List Nat) (hG:Gl.length=n*20) (hn:n<=60) (ht:t<n) (hi:i<4) (hD:SlI B0 cm d 1 (16*n) D) (hq:Q (4*t+i)=true) :
 ∀ (r j c:Nat) (H:FH) (cv:Value),j+r=4->c0<=c->LQ c0 c cm ob rs g0 s B0 H cv (dY Gl D Q (4*(4*t+i)+j)) K->Z0d H kb (ints (Z0K Gl t))->256*cm<=kb->kb<256*c->(cv ≠ .slice none 0 0->Z0p cv ≠ kb) →
 Ans (G (Zbs none) [v,d,.int .i64 k,ptrTo g0,ptrTo rs,ptrTo ob,.int .i64 (dY Gl D Q (4*(4*t+i)+j)).2.2,.int .i64 (dY Gl D Q (4*(4*t+i)+j)).2.1,cv,.int .i64 t,ptrTo kb,.int .i64 i,.int .i64 j,x19,x20,x21] H c df) fun q=>∃ cv',q.e = .exit 4 ∧
  q.vs=[v,d,.int .i64 k,ptrTo g0,ptrTo rs,ptrTo ob,.int .i64 (dY Gl D Q (4*(4*t+i)+4)).2.2,.int .i64 (dY Gl D Q (4*(4*t+i)+4)).2.1,cv',.int .i64 t,ptrTo kb,.int .i64 i,.int .i64 4,x19,x20,x21]/\q.df=df/\c<=q.c ∧
  LQ c0 q.c cm ob rs g0 s B0 q.h cv' (dY Gl D Q (4*(4*t+i)+4)) K/\Z0d q.h kb (ints (Z0K Gl t))/\(cv' ≠ .slice none 0 0->Z0p cv' ≠ kb):=by
 intro r
 induction r with
 | zero =>
  intro j c H cv hj hc a gr mk lk nk;obtain rfl:j=4:=qO;refine Ans.lpN rfl rfl (Z2S ..) ?_;unfold Z4o;have fx:=True.intro;refine Ans.go ?_;clear fx;exact Ans.exitN ⟨cv,rfl,rfl,rfl,by show c<=c+1; omega,a.mono (by show c<=c+1; omega),gr,nk⟩
 | succ r ih =>
  intro j c H cv hj hc a gr mk lk nk;have hj4:j<4:=qO;have j4:(j:Int)<4:=qO;have y1:(4*(4*t+i)+j) % 4=j:=qO;have y2:(4*(4*t+i)+j) / 4=4*t+i:=qO;have y3:(4*(4*t+i)+j) / 16=t:=qO;have hq':Q ((4*(4*t+i)+j) / 4)=true:=by rw [y2]; exact hq
  have step:dY Gl D Q (4*(4*t+i)+j+1)=dSy Gl D (4*(4*t+i)+j) (dY Gl D Q (4*(4*t+i)+j)):=by rw [dY,if_pos hq']
  have bd:=Zqn Gl D Q (4*(4*t+i)+j);obtain ⟨z,hz⟩:=jN (dY Gl D Q (4*(4*t+i)+j));rw [hz] at a bd step ⊢
  by_cases e:j=i
  · have hnd:¬ nd (4*(4*t+i)+j):=by
     show ¬ (4*(4*t+i)+j) % 4 ≠ (4*(4*t+i)+j) / 4 % 4;omega
    rw [dSy,if_neg hnd] at step;have hk:=ih (j+1) (c+1+1+1) H cv qO qO (by rw [← Nat.add_assoc,step]; exact a.mono qO) gr mk qO nk;rw [← Nat.add_assoc,step] at hk;obtain rfl:=e;refine Ans.lpN rfl rfl (Z2S ..) ?_;unfold Z4o;have fx:=True.intro;refine Ans.go ?_;clear fx;refine Ans.nextN (hk.mono fun x hx=>?_);obtain ⟨cv',h1,h2,h3,h4,h5⟩:=hx;exact ⟨cv',h1,h2,h3,qO,h5⟩
  · have hnd:nd (4*(4*t+i)+j):=by
     show (4*(4*t+i)+j) % 4 ≠ (4*(4*t+i)+j) / 4 % 4;omega
    have e':¬ (j:Int)=i:=qO;rw [dSy,if_pos hnd] at step;have hDH:SlI H cm d 1 (16*n) D:=hD.same a.sm;have xd:=hDH.ixs1 .i64 (16*(t:Int)+4*i+j) qO qO;rw [show (16*(t:Int)+4*i+j).toNat=4*(4*t+i)+j by omega] at xd;have ld:=hDH.rd (4*(4*t+i)+j) qO;obtain ⟨⟨e3,vs3,H3,c3,df3⟩,hr3,cv',q3,q4,q5,q6,q7⟩:=Zf7 cv (D.getD (4*(4*t+i)+j) 0) z.1 z.1.length c0 H (c+1+1+1) [] (a.ag.mono qO) qO qO;dsimp only at q3 q4 q5 q6;rw [q3] at hr3;have cd:=Z05 hr3;have gr3:Z0d H3 kb (ints (Z0K Gl t)):=by
     obtain ⟨ro,op,w⟩:=gr;exact ⟨ro,op,(q6 kb qO (fun hv w=>nk hv w.symm)).trans w⟩
    have nk3:cv' ≠ .slice none 0 0->Z0p cv' ≠ kb:=fun hv=>by
     rcases q7 with rfl | q7
     · exact nk hv
     · omega
    have hrl:=Z0E hG ht;have lt:ld1 H3 (.pointer (some ⟨kb,j*5,none⟩))=some (.int .i64 (Z0D (Z04 Gl t j))):=by
     rw [Z02 gr3,ints_getD _ _ qO,Zp6 hG ht hj4]
    have low:∀ w,w<256*c0->H3.f w=H.f w:=fun w hw=>q6 w qO (fun hv=>by have:=(a.ag.blk hv).1; omega)
    have b1:=a.b1;have b2:=a.b2;have b3:=a.b3;have b4:=a.b4;have b5:=a.b5;have a3:∀ f j',LQ c0 (c3+1+1+1) cm ob rs g0 s B0 H3 cv' (ZdI z.1 (D.getD (4*(4*t+i)+j) 0),f,j') K:=fun f j' =>
     ⟨(low ob b2).trans a.fs,(low rs b4).trans a.fr,q5.mono qO,fun w hw=>(low w qO).trans (a.sm w hw),a.b1,a.b2,a.b3,a.b4,a.b5,a.ne,(low g0 a.b6).trans a.fg,a.b6,a.n6⟩
    have frY':frY Gl (4*(4*t+i)+j) ↔ Z0D (Z04 Gl t j)<0:=by
     show Z0D (Z04 Gl ((4*(4*t+i)+j) / 16) ((4*(4*t+i)+j) % 4))<0 ↔ _;rw [y1,y3]
    obtain ⟨X,hX⟩:=jN (D.getD (4*(4*t+i)+j) 0);rw [hX] at ld cd a3 step
    by_cases hf:Z0D (Z04 Gl t j)<0
    · rw [if_pos (frY'.2 hf)] at step;have hk:=ih (j+1) (c3+1+1+1) H3 cv' qO qO (by rw [← Nat.add_assoc,step]; exact a3 _ _) gr3 mk qO nk3;rw [← Nat.add_assoc,step] at hk;obtain ⟨F,hF⟩:=jN (Z0D (Z04 Gl t j));rw [hF] at lt hf;obtain ⟨A,hA⟩:=jN (z.2.1);obtain ⟨J,hJ⟩:=jN (z.2.2);rw [hA,hJ] at bd hk ⊢;dsimp only at hk;refine Ans.lpN rfl rfl (Z2S ..) ?_;unfold Z4o;have fx:=ai e' (ai xd (ai ld (ai cd lt)));refine Ans.go ?_;clear fx;refine Ans.nextN (hk.mono fun x hx=>?_);obtain ⟨cv'',h1,h2,h3,h4,h5⟩:=hx;exact ⟨cv'',h1,h2,h3,qO,h5⟩
    · rw [if_neg (fun w=>hf (frY'.1 w))] at step;have hk:=ih (j+1) (c3+1+1+1) H3 cv' qO qO (by rw [← Nat.add_assoc,step]; exact a3 _ _) gr3 mk qO nk3;rw [← Nat.add_assoc,step] at hk;obtain ⟨F,hF⟩:=jN (Z0D (Z04 Gl t j));rw [hF] at lt hf;obtain ⟨A,hA⟩:=jN (z.2.1);obtain ⟨J,hJ⟩:=jN (z.2.2);rw [hA,hJ] at bd hk ⊢;dsimp only at hk;refine Ans.lpN rfl rfl (Z2S ..) ?_;unfold Z4o;have fx:=ai e' (ai xd (ai ld (ai cd lt)));refine Ans.go ?_;clear fx;refine Ans.nextN (hk.mono fun x hx=>?_);obtain ⟨cv'',h1,h2,h3,h4,h5⟩:=hx;exact ⟨cv'',h1,h2,h3,qO,h5⟩
theorem lq_i (c0 cm ob rs g0 kb n t:Nat) (k:Nat) (Gl V D:List Int) (v d s x19 x20 x21:Value) (B0:FH) (df:List Nat) (hG:Gl.length=n*20) (hn:n<=60) (ht:t<n) (hV:SlI B0 cm v 1 (4*n) V) (hD:SlI B0 cm d 1 (16*n) D) :
 ∀ (r i c:Nat) (H:FH) (cv:Value),i+r=4->c0<=c->LQ c0 c cm ob rs g0 s B0 H cv (dY Gl D (inC V k) (4*(4*t+i))) (rk (inC V k) (4*t+i))->Z0d H kb (ints (Z0K Gl t))->256*c0<=kb->kb<256*c->(cv ≠ .slice none 0 0->Z0p cv ≠ kb) →
 Ans (G (Zbt none) [v,d,.int .i64 k,ptrTo g0,ptrTo rs,ptrTo ob,.int .i64 (dY Gl D (inC V k) (4*(4*t+i))).2.2,.int .i64 (dY Gl D (inC V k) (4*(4*t+i))).2.1,cv,.int .i64 t,ptrTo kb,.int .i64 i,x19,x20,x21] H c df) fun q=>∃ cv',q.e = .exit 2 ∧
  q.vs=[v,d,.int .i64 k,ptrTo g0,ptrTo rs,ptrTo ob,.int .i64 (dY Gl D (inC V k) (4*(4*t+4))).2.2,.int .i64 (dY Gl D (inC V k) (4*(4*t+4))).2.1,cv',.int .i64 t,ptrTo kb,.int .i64 4,x19,x20,x21]/\q.df=df/\c<=q.c ∧
  LQ c0 q.c cm ob rs g0 s B0 q.h cv' (dY Gl D (inC V k) (4*(4*t+4))) (rk (inC V k) (4*t+4)):=by
 intro r
 induction r with
 | zero =>
  intro i c H cv hi hc a gr mk lk nk;obtain rfl:i=4:=qO;refine Ans.lpN rfl rfl (Z55 ..) ?_;unfold Z61;have fx:=True.intro;refine Ans.go ?_;clear fx;exact Ans.exitN ⟨cv,rfl,rfl,rfl,by show c<=c+1; omega,a.mono (by show c<=c+1; omega)⟩
 | succ r ih =>
  intro i c H cv hi hc a gr mk lk nk;have hi4:i<4:=qO;have i4:(i:Int)<4:=qO;have hVH:SlI H cm v 1 (4*n) V:=hV.same a.sm;have xv:=hVH.ixs1 .i64 (4*(t:Int)+i) qO qO;rw [show (4*(t:Int)+i).toNat=4*t+i by omega] at xv;have lv:=hVH.rd (4*t+i) qO;have b5:=a.b5
  by_cases hq:inC V k (4*t+i)=true
  · have hv:V.getD (4*t+i) 0=k:=of_decide_eq_true hq;rw [hv] at lv;have er:rk (inC V k) (4*t+i+1)=rk (inC V k) (4*t+i)+1:=by rw [rk,if_pos hq]
    have rle:=Z9w (inC V k) (4*t+i);obtain ⟨K,hK⟩:=jN (rk (inC V k) (4*t+i));rw [hK] at a er rle;have l0:ld1 H (.pointer (some ⟨ob,0,none⟩))=some (.int .i64 K):=by rw [Z02 (cs:=lkZ K) ⟨false,none,a.fs⟩]; rfl
    have w1:stN H 1 (.pointer (some ⟨ob,0,none⟩)) (.int .i64 ((K:Int)+1))=some (HeapC.set H ob (.cells false none (lkZ (K+1)))):=by
     rw [Z0L (show HeapC.get H ob=_ from a.fs) (by simp [lkZ]) rfl rfl]; rfl
    obtain ⟨H1,hH1⟩:=jN (HeapC.set H ob (.cells false none (lkZ (K+1))));rw [hH1] at w1;have b1:=a.b1;have b2:=a.b2;have H1f:∀ w,w ≠ ob->H1.f w=H.f w:=fun w hw=>by rw [← hH1,Z0c,if_neg hw]
    have a1:LQ c0 (c+1+1+1+1) cm ob rs g0 s B0 H1 cv (dY Gl D (inC V k) (4*(4*t+i)+0)) (K+1) :=
     ⟨by rw [← hH1,Z0c,if_pos rfl],(H1f rs (Ne.symm a.ne)).trans a.fr,(a.ag.keep fun hv=>H1f _ (by have:=(a.ag.blk hv).1; omega)).mono qO,fun w hw=>(H1f w qO).trans (a.sm w hw),a.b1,a.b2,a.b3,a.b4,a.b5,a.ne,(H1f g0 a.n6).trans a.fg,a.b6,a.n6⟩
    have gr1:Z0d H1 kb (ints (Z0K Gl t)):=by
     obtain ⟨ro,op,w⟩:=gr;exact ⟨ro,op,(H1f kb qO).trans w⟩
    obtain ⟨⟨e3,vs3,H3,c3,df3⟩,hr3,cv',q1,q2,q3,q4,q5,q6,q7⟩:=lq_j c0 cm ob rs g0 kb n t i (K+1) k Gl D (inC V k) v d s x19 x20 x21 B0 df hG hn ht hi4 hD hq 4 0 (c+1+1+1+1) H1 cv qO qO a1 gr1 qO qO nk;dsimp only at q1 q2 q3 q4 q5 q6;subst q1 q2 q3;simp only [qC,qF,qW] at hr3;rw [show 4*(4*t+i)+4=4*(4*t+(i+1)) by omega] at q5 hr3;have hk:=ih (i+1) (c3+1) H3 cv' qO qO (by rw [← Nat.add_assoc,er] at *; exact q5.mono qO) q6 mk qO q7;obtain ⟨Z,hZ⟩:=jN (dY Gl D (inC V k) (4*(4*t+i)));rw [hZ] at hr3 ⊢;obtain ⟨A,hA⟩:=jN (Z.2.1);obtain ⟨J,hJ⟩:=jN (Z.2.2);rw [hA,hJ] at hr3 ⊢;refine Ans.lpN rfl rfl (Z55 ..) ?_;unfold Z61;have fx:=ai xv (ai lv (ai l0 (ai w1 hr3)));refine Ans.go ?_;clear fx;refine Ans.nextN (hk.mono fun x hx=>?_);obtain ⟨cv'',h1,h2,h3,h4,h5⟩:=hx;exact ⟨cv'',h1,h2,h3,qO,h5⟩
  · have hv:¬ V.getD (4*t+i) 0=k:=fun z=>hq (decide_eq_true z)
    have er:rk (inC V k) (4*t+i+1)=rk (inC V k) (4*t+i):=by rw [rk,if_neg hq]; rfl
    have ey:=Zke Gl D (inC V k) (x:=4*t+i) hq;have hk:=ih (i+1) (c+1+1+1) H cv qO qO (by rw [← Nat.add_assoc,er,ey]; exact a.mono qO) gr mk qO nk;rw [← Nat.add_assoc,ey] at hk;obtain ⟨y,hy⟩:=jN (V.getD (4*t+i) 0);rw [hy] at lv hv;refine Ans.lpN rfl rfl (Z55 ..) ?_;unfold Z61;have fx:=ai xv (ai lv hv);refine Ans.go ?_;clear fx;refine Ans.nextN (hk.mono fun x hx=>?_);obtain ⟨cv'',h1,h2,h3,h4,h5⟩:=hx;exact ⟨cv'',h1,h2,h3,qO,h5⟩

set_option maxRecDepth 100000
theorem lq_t (c0 cm ob rs g0 n:Nat) (k:Nat) (Gl V D:List Int) (v d s:Value) (B0:FH) (df:List Nat) (hn:n<=60) (hs:SlI B0 cm s 20 n Gl) (hV:SlI B0 cm v 1 (4*n) V) (hD:SlI B0 cm d 1 (16*n) D) :
 ∀ (r t c:Nat) (H:FH) (cv:Value),t+r=n->c0<=c->LQ c0 c cm ob rs g0 s B0 H cv (dY Gl D (inC V k) (16*t)) (rk (inC V k) (4*t)) →
 Ans (G (Zbu none) [v,d,.int .i64 k,ptrTo g0,ptrTo rs,ptrTo ob,.int .i64 (dY Gl D (inC V k) (16*t)).2.2,.int .i64 (dY Gl D (inC V k) (16*t)).2.1,cv,s,.int .i64 n,.int .i64 t] H c df) fun q=>∃ cv',q.e = .exit 0 ∧
  q.vs=[v,d,.int .i64 k,ptrTo g0,ptrTo rs,ptrTo ob,.int .i64 (dY Gl D (inC V k) (16*n)).2.2,.int .i64 (dY Gl D (inC V k) (16*n)).2.1,cv',s,.int .i64 n,.int .i64 n]/\q.df=df/\c<=q.c ∧
  LQ c0 q.c cm ob rs g0 s B0 q.h cv' (dY Gl D (inC V k) (16*n)) (rk (inC V k) (4*n)):=by
 intro r;have hG:=hs.1
 induction r with
 | zero =>
  intro t c H cv ht hc a;obtain rfl:t=n:=qO;refine Ans.lpN rfl rfl (Z77 ..) ?_;unfold Z8l;have fx:=True.intro;refine Ans.go ?_;clear fx;exact Ans.exitN ⟨cv,rfl,rfl,rfl,by show c<=c+1; omega,a.mono (by show c<=c+1; omega)⟩
 | succ r ih =>
  intro t c H cv ht hc a;have htn:t<n:=qO;have tl:(t:Int)<n:=qO;have tn:(n:Int)<=60:=qO;have sH:SlI H cm s 20 n Gl:=hs.same a.sm;have ix:=sH.ixs .i64 t qO qO;rw [qE] at ix;have l1:ldN H 20 (.pointer (some ⟨Z0p s,Z4a s+t*20,none⟩))=some (av (Z0K Gl t)):=by
   rw [sH.rdN 20 _ qO qO];unfold Z0K;rw [show t*20=20*t by omega]
  obtain ⟨kb,hkb⟩:=jN (256*(c+1)+3);obtain ⟨w1,-⟩:=Z9Z H kb hG htn;obtain ⟨H1,hH1⟩:=jN (newB H kb (ints (Z0K Gl t)));rw [hH1] at w1;have b1:=a.b1;have b2:=a.b2;have b3:=a.b3;have b4:=a.b4;have b5:=a.b5;have b6:=a.b6;have H1f:∀ w,w ≠ kb->H1.f w=H.f w:=fun w hw=>by rw [← hH1,Z01,if_neg hw]
  have a1:LQ c0 (c+1+1+1) cm ob rs g0 s B0 H1 cv (dY Gl D (inC V k) (4*(4*t+0))) (rk (inC V k) (4*t+0)):=by
   rw [show 4*(4*t+0)=16*t by omega,qW];exact ⟨(H1f ob qO).trans a.fs,(H1f rs qO).trans a.fr,(a.ag.keep fun hv=>H1f _ (by have:=(a.ag.blk hv).2; omega)).mono qO,fun w hw=>(H1f w qO).trans (a.sm w hw),a.b1,a.b2,a.b3,a.b4,a.b5,a.ne,(H1f g0 qO).trans a.fg,a.b6,a.n6⟩
  have gr1:Z0d H1 kb (ints (Z0K Gl t)):=by rw [← hH1]; exact Z0d.newB_same _ _ _
  obtain ⟨⟨e3,vs3,H3,c3,df3⟩,hr3,cv',q1,q2,q3,q4,q5⟩:=lq_i c0 cm ob rs g0 kb n t k Gl V D v d s s (.int .i64 n) (.int .i64 t) B0 df hG hn htn hV hD 4 0 (c+1+1+1) H1 cv qO qO a1 gr1 qO qO (fun hv=>by have:=(a.ag.blk hv).2; omega);dsimp only at q1 q2 q3 q4 q5;subst q1 q2 q3;simp only [qC,qF] at hr3;rw [show 4*(4*t+4)=16*(t+1) by omega,show 4*t+4=4*(t+1) by omega] at q5;rw [show 4*(4*t+4)=16*(t+1) by omega,show 4*(4*t+0)=16*t by omega] at hr3;have hk:=ih (t+1) (c3+1) H3 cv' qO qO (q5.mono qO);obtain ⟨Z,hZ⟩:=jN (dY Gl D (inC V k) (16*t));rw [hZ] at hr3 ⊢;obtain ⟨A,hA⟩:=jN (Z.2.1);obtain ⟨J,hJ⟩:=jN (Z.2.2);rw [hA,hJ] at hr3 ⊢;obtain ⟨R,hR⟩:=jN (av (Z0K Gl t));rw [hR] at l1 w1;refine Ans.lpN rfl rfl (Z77 ..) ?_;unfold Z8l;rw [Z9N];obtain ⟨Z',hZ'⟩:=jN (z20);rw [hZ'] at w1 ⊢;have fx:=ai ix (ai l1 (ai hkb (ai w1 hr3)));refine Ans.go ?_;clear fx;refine Ans.nextN (hk.mono fun x hx=>?_);obtain ⟨cv'',h1,h2,h3,h4,h5⟩:=hx;exact ⟨cv'',h1,h2,h3,qO,h5⟩
theorem Zdq {H:FH} {b i:Nat} {cs:List Value} (x:Value) (hi:i<cs.length) (hx:x.cells = #[x]) (hf:Z08 x=true):stN (HeapC.set H b (.cells false none cs)) 1 (.pointer (some ⟨b,i,none⟩)) x=some (HeapC.set H b (.cells false none (cs.set i x))):=by
 rw [Z0L (show HeapC.get (HeapC.set H b (.cells false none cs)) b=some (.cells false none cs) by show FH.f _ _=_; rw [Z0c,if_pos rfl]) hi hx hf];congr 1;apply FH.ext; intro j;rw [Z0c,Z0c,Z0c]
 split <;> rfl
theorem ZiH {H:FH} {b i:Nat} {cs:List Value} {x:Value} (hx:cs[i]? = some x):ld1 (HeapC.set H b (.cells false none cs)) (.pointer (some ⟨b,i,none⟩))=some x:=by
 rw [Z02 (cs:=cs) ⟨false,none,by show FH.f _ _=_; rw [Z0c,if_pos rfl]⟩,hx]
theorem Zlf (s v d:Value) (n k:Nat) (Gl D:List Int) (h:FH) (c:Nat) (df:List Nat) (hs:SlI h c s 20 n Gl) (hV:SlI h c v 1 (4*n) (vN Gl n)) (hD:SlI h c d 1 (16*n) D) (hok:Z0w Gl n=true) (hn:n<=60) :
 G (.fn 76) [.agg #[s],v,d,.int .i64 k] h c df=some ⟨.ret,[.agg (Zdf (rk (inC (vN Gl n) k) (4*n)) (orB n Gl (inC (vN Gl n) k)) (dZ n Gl D (inC (vN Gl n) k))).toArray],h,c,[]⟩:=by
 refine Z0t (fun r e=>f76_go e) (OkV.agg (by simp [Zdf])) ?_;have Z0X:((Value.agg #[s]).cells.toList.all Z08)=true:=by simp [Value.cells,hs.flat]
 have Z0Y:(Value.agg #[s]).cells.toList=[s]:=rfl;unfold ZpM;rw [Z0X,Z0Y];simp only [cond_true,qW];obtain ⟨g0,hg0⟩:=jN (256*c);obtain ⟨rs,hrs⟩:=jN (256*c+1);obtain ⟨ob,hob⟩:=jN (256*(c+1)+1);rw [hrs,hob,hg0,show [Value.int .i64 0,Value.int .i64 0,Value.int .i64 0,Value.int .i64 0,Value.bool false,Value.bool false]=lk6 from rfl];obtain ⟨M,hM⟩:=jN (newB (newB h g0 [s]) rs lk6);rw [hM];have bz:Z1K lk6 [(4,1,.bool true),(5,1,.bool true)]=some (.agg (lkZ 0).toArray):=rfl;have w0:stN (newB M ob lk6) 6 (.pointer (some ⟨ob,0,none⟩)) (.agg (lkZ 0).toArray)=some (newB M ob (lkZ 0)):=by
  have:=Z4R (h:=newB M ob lk6) (b:=ob) (n:=6) (z:=lk6) (L:=lkZ 0) (by rw [Z01,if_pos rfl]) rfl rfl rfl;rwa [Z6P] at this
 obtain ⟨N,hN⟩:=jN (newB M ob (lkZ 0));rw [hN] at w0;have Nf:∀ j,N.f j=if j=ob then some (.cells false none (lkZ 0)) else if j=rs then some (.cells false none lk6) else if j=g0 then some (.cells false none [s]) else h.f j:=fun j=>by rw [← hN,Z01,← hM,Z01,Z01]
 have sN:Z0l c h N:=fun j hj=>by rw [Nf,if_neg qO,if_neg qO,if_neg qO]
 have l0:ld1 N (.pointer (some ⟨g0,0,none⟩))=some s:=by rw [Z02 (cs:=[s]) ⟨false,none,by show N.f g0=_; rw [Nf,if_neg qO,if_neg qO,if_pos rfl]⟩]; rfl
 have len:=hs.len;obtain ⟨Q,hQ⟩:=jN (inC (vN Gl n) k);have a0:LQ (c+1+1) (c+1+1+1+1+1) c ob rs g0 s h N (.slice none 0 0) (dY Gl D (inC (vN Gl n) k) (16*0)) (rk (inC (vN Gl n) k) (4*0)) :=
  ⟨by rw [Nf,if_pos rfl]; rfl,by rw [Nf,if_neg qO,if_pos rfl],.inl ⟨rfl,rfl,rfl⟩,sN,qO,qO,qO,qO,qO,qO,by rw [Nf,if_neg qO,if_neg qO,if_pos rfl],qO,qO⟩
 obtain ⟨⟨e3,vs3,H,c3,df3⟩,hr3,cv,q1,q2,q3,q4,a⟩:=lq_t (c+1+1) c ob rs g0 n k Gl (vN Gl n) D v d s h [] hn hs hV hD n 0 (c+1+1+1+1+1) N (.slice none 0 0) qO qO a0;dsimp only at q1 q2 q3 q4 a;subst q1 q2 q3;simp only [qC,qF,Nat.mul_zero] at hr3;have z0:dY Gl D (inC (vN Gl n) k) 0=([],0,0):=rfl;rw [z0] at hr3;simp only [Int.natCast_zero] at hr3;have bd:=Zqn Gl D (inC (vN Gl n) k) (16*n);rw [dZ_y];obtain ⟨Z,hZ⟩:=jN (dY Gl D (inC (vN Gl n) k) (16*n));rw [hZ] at bd hr3 a ⊢;have rl:=Z9w (inC (vN Gl n) k) (4*n);obtain ⟨K,hK⟩:=jN (rk (inC (vN Gl n) k) (4*n));rw [hK] at rl a ⊢;have lcv:=a.ag.len;obtain ⟨L,A,J⟩:=Z;dsimp only at bd hr3 a lcv;have eH:H=HeapC.set H ob (.cells false none (lkZ K)):=by
  apply FH.ext; intro j;rw [Z0c]
  split
  · rename_i e; rw [e]; exact a.fs
  · rfl
 have quo:Z00 P .quo 3 (.int .i64 (J:Int)) (.int .i64 2)=some (.int .i64 ((J / 2:Nat):Int)):=by
  rw [aBinOp_quo _ _ _ qO (by rw [Int.tdiv_eq_ediv_of_nonneg qO]; omega) (by rw [Int.tdiv_eq_ediv_of_nonneg qO]; omega),Int.tdiv_eq_ediv_of_nonneg qO];congr 2
 have hJ2:J / 2<=J:=Nat.div_le_self _ _;obtain ⟨J2,hJ2'⟩:=jN (J / 2);rw [hJ2'] at quo hJ2;obtain ⟨o,ho⟩:=jN (orB n Gl (inC (vN Gl n) k));have eres:∀ cl:Bool,decide (A=0)=cl->Zdf K o (L,A,J)=[.int .i64 K,.int .i64 ((J2:Int)+A),.int .i64 L.length,.int .i64 ((L.length:Int)-((J2:Int)+A)+K),.bool cl,.bool o]:=fun cl hcl=>by
  unfold Zdf;dsimp only;rw [hJ2',hcl,show ((A+J2:Nat):Int)=(J2:Int)+A by omega]
 rw [ho];have mk:∀ cs:List Value,Z0l c h (HeapC.set H ob (.cells false none cs)):=fun cs j hj=>by rw [Z0c,if_neg qO]; exact a.sm j hj
 have n1:∀ cs:List Value,ldN (HeapC.set H ob (.cells false none cs)) 1 (.pointer (some ⟨g0,0,none⟩))=some (.agg #[s]):=fun cs=>Z0N (cs:=[]) ⟨false,none,by
  show FH.f _ _=_;rw [Z0c,if_neg a.n6]; exact a.fg⟩
 have rsf:∀ cs:List Value,(HeapC.set H ob (.cells false none cs)).f rs=some (.cells false none lk6):=fun cs=>by
  rw [Z0c,if_neg (Ne.symm a.ne)]; exact a.fr
 have n6:∀ x0 x1 x2 x3 x4 x5:Value,Z08 x0=true->Z08 x1=true->Z08 x2=true->Z08 x3=true->Z08 x4=true->Z08 x5=true -> ∃ T,ldN (HeapC.set H ob (.cells false none [x0,x1,x2,x3,x4,x5])) 6 (.pointer (some ⟨ob,0,none⟩))=some (.agg [x0,x1,x2,x3,x4,x5].toArray)/\stN (HeapC.set H ob (.cells false none [x0,x1,x2,x3,x4,x5])) 6 (.pointer (some ⟨rs,0,none⟩)) (.agg [x0,x1,x2,x3,x4,x5].toArray)=some T ∧
  ldN T 6 (.pointer (some ⟨rs,0,none⟩))=some (.agg [x0,x1,x2,x3,x4,x5].toArray)/\Z0l c h T:=fun x0 x1 x2 x3 x4 x5 h0 h1 h2 h3 h4 h5=>by
  refine ⟨newB (HeapC.set H ob (.cells false none [x0,x1,x2,x3,x4,x5])) rs [x0,x1,x2,x3,x4,x5], ?_,Z4R (rsf _) rfl rfl (by simp [h0,h1,h2,h3,h4,h5]), ?_,fun j hj=>?_⟩
  · rw [ldN_holds (cs:=[x0,x1,x2,x3,x4,x5]) ⟨false,none,by show FH.f _ _=_; rw [Z0c,if_pos rfl]⟩ (by simp)]; rfl
  · rw [ldN_holds (cs:=[x0,x1,x2,x3,x4,x5]) (Z0d.newB_same _ _ _) (by simp)]; rfl
  · rw [Z01,if_neg qO]; exact mk _ j hj
 have fO:∀ cs:List Value,SlI (HeapC.set H ob (.cells false none cs)) c s 20 n Gl/\SlI (HeapC.set H ob (.cells false none cs)) c v 1 (4*n) (vN Gl n):=fun cs=>⟨hs.same (mk cs),hV.same (mk cs)⟩
 have eO:∀ cs c',c<=c'->callF G 89 [.agg #[s],v,.int .i64 k] (HeapC.set H ob (.cells false none cs)) c'=some (.bool o,HeapC.set H ob (.cells false none cs),c'):=fun cs c' hc'=>by
  rw [← ho];exact Z05 (ZaD s v n k Gl _ c' [] ((fO cs).1.mono hc') ((fO cs).2.mono hc') hok hn)
 obtain ⟨ln,hln⟩:∃ l:Nat,L.length=l:=⟨_,rfl⟩;rw [hln] at bd lcv eres;rw [eH] at hr3;have P:∀ cl:Bool,decide (A=0)=cl -> ∃ T,ldN (HeapC.set H ob (.cells false none (Zdf K o (L,A,J)))) 6 (.pointer (some ⟨ob,0,none⟩))=some (.agg (Zdf K o (L,A,J)).toArray)/\stN (HeapC.set H ob (.cells false none (Zdf K o (L,A,J)))) 6 (.pointer (some ⟨rs,0,none⟩)) (.agg (Zdf K o (L,A,J)).toArray)=some T ∧
  ldN T 6 (.pointer (some ⟨rs,0,none⟩))=some (.agg (Zdf K o (L,A,J)).toArray)/\Z0l c h T:=fun cl hcl=>by
  rw [eres cl hcl];exact n6 _ _ _ _ _ _ rfl rfl rfl rfl rfl rfl
 obtain ⟨T,t1,t2,t3,t4⟩:=P _ rfl;have s1:stN (HeapC.set H ob (.cells false none (lkZ K))) 1 (.pointer (some ⟨ob,1,none⟩)) (.int .i64 ((J2:Int)+A))=some (HeapC.set H ob (.cells false none [.int .i64 K,.int .i64 ((J2:Int)+A),.int .i64 0,.int .i64 0,.bool true,.bool true])):=Zdq _ (by simp [lkZ]) rfl rfl;have s2:stN (HeapC.set H ob (.cells false none [.int .i64 K,.int .i64 ((J2:Int)+A),.int .i64 0,.int .i64 0,.bool true,.bool true])) 1 (.pointer (some ⟨ob,2,none⟩)) (.int .i64 ln)=some (HeapC.set H ob (.cells false none [.int .i64 K,.int .i64 ((J2:Int)+A),.int .i64 ln,.int .i64 0,.bool true,.bool true])):=Zdq _ (by simp) rfl rfl;have r2:ld1 (HeapC.set H ob (.cells false none [.int .i64 K,.int .i64 ((J2:Int)+A),.int .i64 ln,.int .i64 0,.bool true,.bool true])) (.pointer (some ⟨ob,2,none⟩))=some (.int .i64 ln):=ZiH rfl;have r1:ld1 (HeapC.set H ob (.cells false none [.int .i64 K,.int .i64 ((J2:Int)+A),.int .i64 ln,.int .i64 0,.bool true,.bool true])) (.pointer (some ⟨ob,1,none⟩))=some (.int .i64 ((J2:Int)+A)):=ZiH rfl;have r0:ld1 (HeapC.set H ob (.cells false none [.int .i64 K,.int .i64 ((J2:Int)+A),.int .i64 ln,.int .i64 0,.bool true,.bool true])) (.pointer (some ⟨ob,0,none⟩))=some (.int .i64 K):=ZiH rfl;have s3:stN (HeapC.set H ob (.cells false none [.int .i64 K,.int .i64 ((J2:Int)+A),.int .i64 ln,.int .i64 0,.bool true,.bool true])) 1 (.pointer (some ⟨ob,3,none⟩)) (.int .i64 ((ln:Int)-((J2:Int)+A)+K))=some (HeapC.set H ob (.cells false none [.int .i64 K,.int .i64 ((J2:Int)+A),.int .i64 ln,.int .i64 ((ln:Int)-((J2:Int)+A)+K),.bool true,.bool true])):=Zdq _ (by simp) rfl rfl;have s4:∀ cl:Bool,stN (HeapC.set H ob (.cells false none [.int .i64 K,.int .i64 ((J2:Int)+A),.int .i64 ln,.int .i64 ((ln:Int)-((J2:Int)+A)+K),.bool true,.bool true])) 1 (.pointer (some ⟨ob,4,none⟩)) (.bool cl)=some (HeapC.set H ob (.cells false none [.int .i64 K,.int .i64 ((J2:Int)+A),.int .i64 ln,.int .i64 ((ln:Int)-((J2:Int)+A)+K),.bool cl,.bool true])):=fun cl=>Zdq _ (by simp) rfl rfl
 have s5:∀ cl:Bool,stN (HeapC.set H ob (.cells false none [.int .i64 K,.int .i64 ((J2:Int)+A),.int .i64 ln,.int .i64 ((ln:Int)-((J2:Int)+A)+K),.bool cl,.bool true])) 1 (.pointer (some ⟨ob,5,none⟩)) (.bool o)=some (HeapC.set H ob (.cells false none [.int .i64 K,.int .i64 ((J2:Int)+A),.int .i64 ln,.int .i64 ((ln:Int)-((J2:Int)+A)+K),.bool cl,.bool o])):=fun cl=>Zdq _ (by simp) rfl rfl
 have tk:∀ h:FH,Z0a h []=some h:=fun _=>rfl
 obtain ⟨H1,hH1⟩:=jN (HeapC.set H ob (.cells false none (lkZ K)));obtain ⟨H2,hH2⟩:=jN (HeapC.set H ob (.cells false none [.int .i64 K,.int .i64 ((J2:Int)+A),.int .i64 0,.int .i64 0,.bool true,.bool true]));obtain ⟨H3,hH3⟩:=jN (HeapC.set H ob (.cells false none [.int .i64 K,.int .i64 ((J2:Int)+A),.int .i64 ln,.int .i64 0,.bool true,.bool true]));obtain ⟨H4,hH4⟩:=jN (HeapC.set H ob (.cells false none [.int .i64 K,.int .i64 ((J2:Int)+A),.int .i64 ln,.int .i64 ((ln:Int)-((J2:Int)+A)+K),.bool true,.bool true]));obtain ⟨cl,hcl⟩:=jN (decide (A=0));rw [eres cl hcl] at t1 t2 t3 ⊢;have q4':=s4 cl;have q5':=s5 cl;have n1':=n1 [.int .i64 K,.int .i64 ((J2:Int)+A),.int .i64 ln,.int .i64 ((ln:Int)-((J2:Int)+A)+K),.bool cl,.bool true];have eO':=eO [.int .i64 K,.int .i64 ((J2:Int)+A),.int .i64 ln,.int .i64 ((ln:Int)-((J2:Int)+A)+K),.bool cl,.bool true] (c3+1+1+1+1+1) qO;obtain ⟨H5,hH5⟩:=jN (HeapC.set H ob (.cells false none [.int .i64 K,.int .i64 ((J2:Int)+A),.int .i64 ln,.int .i64 ((ln:Int)-((J2:Int)+A)+K),.bool cl,.bool true]));obtain ⟨H6,hH6⟩:=jN (HeapC.set H ob (.cells false none [.int .i64 K,.int .i64 ((J2:Int)+A),.int .i64 ln,.int .i64 ((ln:Int)-((J2:Int)+A)+K),.bool cl,.bool o]));rw [hH1] at hr3 s1;rw [hH2] at s1 s2;rw [hH3] at s2 r0 r1 r2 s3;rw [hH4] at s3 q4';rw [hH5] at q4' q5' n1' eO';rw [hH6] at q5' t1 t2;obtain ⟨W,hW⟩:=jN (Value.agg (List.toArray [.int .i64 K,.int .i64 ((J2:Int)+A),.int .i64 ln,.int .i64 ((ln:Int)-((J2:Int)+A)+K),.bool cl,.bool o]));rw [hW] at t1 t2 t3;rw [hW];obtain ⟨Z0,hZ0⟩:=jN (Value.agg (List.toArray (lkZ 0)));rw [hZ0] at bz w0;obtain ⟨Y6,hY6⟩:=jN (lk6);rw [hY6] at bz w0 ⊢;clear eH P n6 rsf fO mk eres
 by_cases z:A=0
 · have:cl=true:=by rw [← hcl]; exact decide_eq_true z
   rw [this] at q4';subst z;simp only [Int.natCast_zero,Int.add_zero] at hr3 s1 r1 s3;have fx:=ai bz (ai w0 (ai l0 (ai len (ai hr3 (ai quo (ai s1 (ai lcv (ai s2 (ai r2 (ai r1 (ai r0 (ai s3 (ai q4' (ai n1' (ai eO' (ai q5' (ai t1 (ai t2 (ai t3 tk)))))))))))))))))));refine Ans.go ?_;clear fx;exact Ans.pure rfl t4
 · have:cl=false:=by rw [← hcl]; exact decide_eq_false z
   rw [this] at q4';have z':¬ (A:Int)=0:=qO;have fx:=ai bz (ai w0 (ai l0 (ai len (ai hr3 (ai quo (ai s1 (ai lcv (ai s2 (ai r2 (ai r1 (ai r0 (ai s3 (ai q4' (ai n1' (ai eO' (ai q5' (ai t1 (ai t2 (ai t3 (ai tk z'))))))))))))))))))));refine Ans.go ?_;clear fx;exact Ans.pure rfl t4

def eSI (Gl:List Int) (t f e:Nat):Prs:=if edA e ≠ f/\edB e ≠ f then [(6*t+e,eNo (fU Gl t f) (fJ Gl t f (edA e).toNat) (fJ Gl t f (edB e).toNat))] else []
def eSF (Gl:List Int) (t f:Nat):Prs:=if Z0D (Z04 Gl t f)<0 then [] else upL (eSI Gl t f) 6
def eST (Gl:List Int) (t:Nat):Prs:=upL (eSF Gl t) 4
def eSP (Gl:List Int) (n:Nat):Prs:=upL (eST Gl) n
def eSs (Gl:List Int) (n:Nat):List Int:=jn (eSP Gl n) (Z0g (6*n))
theorem ex_i (pb n xb t f c:Nat) (Gl:List Int) (x1 x2 x3 x4 x5:Value) (h0:FH) (df:List Nat) (PV:Prs) (hn:n<=1000) (x:XB Gl n t f xb pb h0) (lp:pb<256*c) (lx:xb<256*c)
 (o1:OkV c x1) (o2:OkV c x2) (o3:OkV c x3) (o4:OkV c x4) (o5:OkV c x5) :
 ∀ (r i:Nat) (L:List Int),i+r=6->(Z0D (Z04 Gl t f)<0->i=0)->JX (PV++if Z0D (Z04 Gl t f)<0 then [] else upL (eSI Gl t f) i) (6*n) L →
 Ans (G (ZbC none) [.slice (some ⟨pb,0,none⟩) (6*n) (6*n),.int .i64 t,.int .i64 f,ptrTo xb,.int .i64 i,x1,x2,x3,x4,x5] (newB h0 pb (ints L)) c df) fun q=>∃ L' v,q=⟨.exit 4,[.slice (some ⟨pb,0,none⟩) (6*n) (6*n),.int .i64 t,.int .i64 f,ptrTo xb,v,x1,x2,x3,x4,x5],newB h0 pb (ints L'),c,df⟩/\JX (PV++eSF Gl t f) (6*n) L':=by
 intro r;have ht:=x.ht;have hf:=x.hf
 induction r with
 | zero =>
  intro i L hi h0' j;obtain rfl:i=6:=qO;have hg:¬ Z0D (Z04 Gl t f)<0:=fun z=>by have:=h0' z; omega
  refine Ans.lpG rfl rfl (Z28 ..) ?_;unfold Z3g;obtain ⟨H,hH⟩:=jN (newB h0 pb (ints L));rw [hH];have fx:=True.intro;refine Ans.go ?_;clear fx
  (have fx:=ai lp (ai lx (ai o1 (ai o2 (ai o3 (ai o4 o5))))); refine Ans.ex0 ?_; clear fx)
  exact ⟨L,.int .i64 6,by rw [hH]; rfl,j⟩
 | succ r ih =>
  intro i L hi h0' j;have hi6:i<6:=qO;have i6:(i:Int)<6:=qO;have l0:=x.l0 (ints L)
  by_cases hg:Z0D (Z04 Gl t f)<0
  · obtain rfl:i=0:=h0' hg;obtain ⟨F,hF⟩:=jN (Z0D (Z04 Gl t f));obtain ⟨H,hH⟩:=jN (newB h0 pb (ints L));have j':JX (PV++eSF Gl t f) (6*n) L:=by
     rw [if_pos hg] at j;unfold eSF;rw [if_pos hg]; exact j
    rw [hF] at l0 hg;rw [hH] at l0 ⊢;refine Ans.lpG rfl rfl (Z28 ..) ?_;unfold Z3g;have fx:=l0;refine Ans.go ?_;clear fx
    (have fx:=ai lp (ai lx (ai o1 (ai o2 (ai o3 (ai o4 o5))))); refine Ans.ex0 ?_; clear fx)
    exact ⟨L,_,by rw [hH],j'⟩
  · have b:=x.gb hg;have hu:=b.u;rw [x.u hg] at l0;have ce:=fun H=>Zav i hi6 H
    have xv0:∀ a b:Value,Z19 (.tuple #[a,b]) 0=some a:=fun _ _=>rfl
    have xv1:∀ a b:Value,Z19 (.tuple #[a,b]) 1=some b:=fun _ _=>rfl
    obtain ⟨a1,a2,a3,a4,a5⟩:=Zf4 (e:=(i:Int)) qO qO;rw [if_neg hg] at j;simp only [if_neg hg] at ih;obtain ⟨A,hA⟩:∃ A:Nat,edA i=A:=⟨(edA i).toNat,qO⟩;obtain ⟨B,hB⟩:∃ A:Nat,edB i=A:=⟨(edB i).toNat,qO⟩;rw [hA] at a1 a2 a5;rw [hB] at a3 a4 a5;rw [hA,hB] at ce
    by_cases q:(A:Int) ≠ f/\(B:Int) ≠ f
    · have hjA:=b.j A qO;have hjB:=b.j B qO;have l1:=x.l1 hg (ints L) (i:=A) qO;have l2:=x.l1 hg (ints L) (i:=B) qO;have jne:fJ Gl t f A ≠ fJ Gl t f B:=fun z=>a5 (by rw [b.inj A B qO qO z])
      have er:=Z4N (i:=(fJ Gl t f A:Int)) (j:=(fJ Gl t f B:Nat)) qO qO qO qO qO;have qv:eSI Gl t f i=[(6*t+i,eNo (fU Gl t f) (fJ Gl t f A) (fJ Gl t f B))]:=by
       unfold eSI;rw [hA,hB,if_pos q,qE,qE]
      have hm:eNo (fU Gl t f) (fJ Gl t f A) (fJ Gl t f B)<6*n:=by unfold eNo; omega
      have g:=fun c' (hc:pb<256*c')=>Z41 pb (6*n) L j.d (newB h0 pb (ints L)) c' [] (by rw [Z01,if_pos rfl]) hc qO (6*t+i) (eNo (fU Gl t f) (fJ Gl t f A) (fJ Gl t f B)) qO hm
      have j':=j.snoc (i:=6*t+i) (j:=eNo (fU Gl t f) (fJ Gl t f A) (fJ Gl t f B)) qO hm;obtain ⟨L',hL'⟩:=jN (Z1k L (6*t+i) (eNo (fU Gl t f) (fJ Gl t f A) (fJ Gl t f B)));rw [hL'] at j' g;have hk:=ih (i+1) L' qO (fun z=>absurd z hg) (by rw [upL,qv,← qQ]; exact j');have cv:=Z05 (g (c+1+1+1+1) qO);rw [ZdD] at cv;have e3:((6*t+i:Nat):Int)=6*(t:Int)+i:=qO;have e4:((eNo (fU Gl t f) (fJ Gl t f A) (fJ Gl t f B):Nat):Int)=6*(fU Gl t f:Int)+edN (fJ Gl t f A:Nat) (fJ Gl t f B:Nat):=by unfold eNo; omega
      rw [e3,e4] at cv;have cE:=fun H=>Z6A (fJ Gl t f A:Nat) (fJ Gl t f B:Nat) H
      have up:Z0G c (newB h0 pb (ints L)) (newB h0 pb (ints L')):=Z0G.both (Z0Q.ints _ _) (Z0G.refl _ _) lp;clear g j' e3 e4 hm;obtain ⟨q1,q2⟩:=q;obtain ⟨S,hS⟩:=jN (newB h0 pb (ints L));obtain ⟨S2,hS2⟩:=jN (newB h0 pb (ints L'));rw [hS] at l0 l1 l2 cv up ⊢;rw [hS2] at cv up hk;obtain ⟨u,hu'⟩:=jN (fU Gl t f);obtain ⟨p,hp'⟩:=jN (fJ Gl t f A);obtain ⟨p2,hp2⟩:=jN (fJ Gl t f B);rw [hu'] at l0 cv hu;rw [hp'] at l1 cv hjA cE er;rw [hp2] at l2 cv hjB cE er;obtain ⟨ed,hed⟩:=jN (edN (p:Int) p2);rw [hed] at cv cE er;have A4:(A:Int)<4:=qO;have B4:(B:Int)<4:=qO;refine Ans.lpG rfl rfl (Z28 ..) ?_;unfold Z3g;have fx:=ai l0 (ai l1 (ai l2 (ai ce (ai xv0 (ai xv1 (ai cE (ai cv (ai q1 (ai q2 sameB_self)))))))));refine Ans.go ?_;clear fx
      (have fx:=ai lp (ai lx (ai o1 (ai o2 (ai o3 (ai o4 o5))))); refine Ans.nxB (B:=S2) ?_ ?_; exact (up); clear fx)
      exact hk
    · have qv:eSI Gl t f i=[]:=by
       unfold eSI;rw [hA,hB,if_neg q]
      have hk:=ih (i+1) L qO (fun z=>absurd z hg) (by rw [upL,qv,qL]; exact j);obtain ⟨u,hu'⟩:=jN (fU Gl t f);rw [hu'] at l0;obtain ⟨S,hS⟩:=jN (newB h0 pb (ints L));rw [hS] at hk l0 ⊢
      by_cases q1:(A:Int)=f
      · refine Ans.lpG rfl rfl (Z28 ..) ?_;unfold Z3g;have fx:=ai l0 (ai ce (ai xv0 (ai xv1 q1)));refine Ans.go ?_;clear fx
        (have fx:=ai lp (ai lx (ai o1 (ai o2 (ai o3 (ai o4 o5))))); refine Ans.nx0 ?_; clear fx)
        exact hk
      · have q2:(B:Int)=f:=qO;refine Ans.lpG rfl rfl (Z28 ..) ?_;unfold Z3g;have fx:=ai l0 (ai ce (ai xv0 (ai xv1 (ai q1 q2))));refine Ans.go ?_;clear fx
        (have fx:=ai lp (ai lx (ai o1 (ai o2 (ai o3 (ai o4 o5))))); refine Ans.nx0 ?_; clear fx)
        exact hk
theorem ex_f (pb n t c:Nat) (Gl:List Int) (x1 x2 x3:Value) (h0:FH) (df:List Nat) (PV:Prs) (hn:n<=1000) (hok:Z0w Gl n=true) (hG:Gl.length=n*20) (ht:t<n) (lp:pb<256*c)
 (o1:OkV c x1) (o2:OkV c x2) (o3:OkV c x3) :
 ∀ (r f:Nat) (L:List Int),f+r=4->JX (PV++upL (eSF Gl t) f) (6*n) L →
 Ans (G (ZbD none) [.slice (some ⟨pb,0,none⟩) (6*n) (6*n),.int .i64 t,x1,x2,x3,av (Z0K Gl t),.int .i64 f] (newB h0 pb (ints L)) c df) fun q=>∃ L',q=⟨.exit 2,[.slice (some ⟨pb,0,none⟩) (6*n) (6*n),.int .i64 t,x1,x2,x3,av (Z0K Gl t),.int .i64 4],newB h0 pb (ints L'),c,df⟩/\JX (PV++eST Gl t) (6*n) L':=by
 intro r;have hrl:=Z0E hG ht;have orow:OkV c (av (Z0K Gl t)):=OkV.av _ _
 induction r with
 | zero =>
  intro f L hf j;obtain rfl:f=4:=qO;refine Ans.lpG rfl rfl (Z7d ..) ?_;unfold Z8A;obtain ⟨H,hH⟩:=jN (newB h0 pb (ints L));rw [hH];have fx:=True.intro;refine Ans.go ?_;clear fx
  (have fx:=ai lp (ai o1 (ai o2 (ai o3 orow))); refine Ans.ex0 ?_; clear fx)
  exact ⟨L,by rw [hH]; rfl,j⟩
 | succ r ih =>
  intro f L hf j;have hf4:f<4:=qO;have f4:(f:Int)<4:=qO;have x1':=Z2p (Z0K Gl t) 4 5 .i64 (f:Int) qO qO hrl;rw [qE,Z23 hf4] at x1';have hfl:=Z0i hG ht hf4;obtain ⟨xb,hxb⟩:=jN (256*(c+1)+2);have hne:xb ≠ pb:=qO;obtain ⟨h1,hh1⟩:=jN (newB h0 xb (ints (Z04 Gl t f)));have cm:newB (newB h0 pb (ints L)) xb (ints (Z04 Gl t f))=newB h1 pb (ints L):=by rw [← hh1,Z1F _ _ _ _ _ (Ne.symm hne)]
  have x:XB Gl n t f xb pb h1:=⟨by rw [← hh1]; exact Z0d.newB_same _ _ _,hne,hok,hG,ht,hf4⟩;have w1:stN (newB (newB h0 pb (ints L)) xb [.int .i64 0,.int .i64 0,.int .i64 0,.int .i64 0,.int .i64 0]) 5 (.pointer (some ⟨xb,0,none⟩)) (av (Z04 Gl t f))=some (newB h1 pb (ints L)):=by
   rw [← cm]; exact stN_all _ _ 5 _ _ hfl rfl
  obtain ⟨q9,hq9,L',v,rfl,j'⟩:=ex_i pb n xb t f (c+1+1+1) Gl x1 x2 x3 (av (Z0K Gl t)) (.int .i64 f) h1 df (PV++upL (eSF Gl t) f) hn x qO qO (o1.mono qO) (o2.mono qO) (o3.mono qO) (OkV.av _ _) (OkV.int _ _ _) 6 0 L qO (fun _=>rfl) (by rw [upL,ite_self,qL]; exact j);have hk:=ih (f+1) L' qO (by rw [upL,← qQ]; exact j');simp only [qC,qF] at hq9;have up:Z0G c (newB h0 pb (ints L)) (newB h0 pb (ints L')):=Z0G.both (Z0Q.ints _ _) (Z0G.refl _ _) lp;have sB:Z0l c (newB h0 pb (ints L')) (newB h1 pb (ints L')):=fun j hj=>by rw [Z01,Z01,← hh1,Z01,if_neg (show ¬ j=xb by omega)]
  obtain ⟨S,hS⟩:=jN (newB h0 pb (ints L));obtain ⟨S1,hS1⟩:=jN (newB h1 pb (ints L));obtain ⟨S2,hS2⟩:=jN (newB h0 pb (ints L'));obtain ⟨S3,hS3⟩:=jN (newB h1 pb (ints L'));rw [hS] at w1 up ⊢;rw [hS1] at w1 hq9;rw [hS2] at up sB hk;rw [hS3] at sB hq9;obtain ⟨F,hF⟩:=jN (Z04 Gl t f);rw [hF] at w1 x1';refine Ans.lpG rfl rfl (Z7d ..) ?_;unfold Z8A;have fx:=ai x1' (ai hxb (ai w1 hq9));refine Ans.go ?_;clear fx
  (have fx:=ai lp (ai o1 (ai o2 (ai o3 (ai orow sB)))); refine Ans.nxB (B:=S2) ?_ ?_; exact (up); clear fx)
  exact hk
theorem ex_t (pb n c cm:Nat) (Gl:List Int) (s:Value) (h0:FH) (df:List Nat) (hn:n<=1000) (hok:Z0w Gl n=true) (hs:SlI h0 cm s 20 n Gl) (hcm:cm<=c) (mp:256*cm<=pb) (lp:pb<256*c) :
 ∀ (r t:Nat) (L:List Int),t+r=n->JX (upL (eST Gl) t) (6*n) L →
 Ans (G (ZbE none) [.slice (some ⟨pb,0,none⟩) (6*n) (6*n),s,.int .i64 n,.int .i64 t] (newB h0 pb (ints L)) c df) fun q=>q=⟨.exit 0,[.slice (some ⟨pb,0,none⟩) (6*n) (6*n),s,.int .i64 n,.int .i64 n],newB h0 pb (ints (eSs Gl n)),c,df⟩:=by
 intro r;have os:OkV c s:=(hs.mono hcm).okV;have hG:=hs.1
 induction r with
 | zero =>
  intro t L ht j;obtain rfl:t=n:=qO;have e:L=eSs Gl t:=j.e;refine Ans.lpG rfl rfl (Z7e ..) ?_;unfold Z8B;obtain ⟨H,hH⟩:=jN (newB h0 pb (ints L));rw [← e,hH];have fx:=True.intro;refine Ans.go ?_;clear fx
  (have fx:=ai lp os; refine Ans.ex0 ?_; clear fx)
  rfl
 | succ r ih =>
  intro t L ht j;have htn:t<n:=qO;have tl:(t:Int)<n:=qO;have tn:(n:Int)<=1000:=qO;obtain ⟨ix,l1⟩:=Zdw hs mp htn (ints L);obtain ⟨kb,hkb⟩:=jN (256*(c+1)+3);have hne:kb ≠ pb:=qO;obtain ⟨w1,w2⟩:=Z9Z (newB h0 pb (ints L)) kb hG htn;obtain ⟨h1,hh1⟩:=jN (newB h0 kb (ints (Z0K Gl t)));have cm':newB (newB h0 pb (ints L)) kb (ints (Z0K Gl t))=newB h1 pb (ints L):=by rw [← hh1,Z1F _ _ _ _ _ (Ne.symm hne)]
  rw [cm'] at w1 w2;obtain ⟨q9,hq9,L',rfl,j'⟩:=ex_f pb n t (c+1+1+1) Gl s (.int .i64 n) (.int .i64 t) h1 df (upL (eST Gl) t) hn hok hG htn qO (os.mono qO) (OkV.int _ _ _) (OkV.int _ _ _) 4 0 L qO (by rw [upL,qL]; exact j);have hk:=ih (t+1) L' qO (by rw [upL]; exact j');simp only [qC,qF] at hq9;have up:Z0G c (newB h0 pb (ints L)) (newB h0 pb (ints L')):=Z0G.both (Z0Q.ints _ _) (Z0G.refl _ _) lp;have sB:Z0l c (newB h0 pb (ints L')) (newB h1 pb (ints L')):=fun j hj=>by rw [Z01,Z01,← hh1,Z01,if_neg (show ¬ j=kb by omega)]
  obtain ⟨S,hS⟩:=jN (newB h0 pb (ints L));obtain ⟨S1,hS1⟩:=jN (newB h1 pb (ints L));obtain ⟨S2,hS2⟩:=jN (newB h0 pb (ints L'));obtain ⟨S3,hS3⟩:=jN (newB h1 pb (ints L'));rw [hS] at w1 l1 up ⊢;rw [hS1] at w1 w2 hq9;rw [hS2] at up sB hk;rw [hS3] at sB hq9;obtain ⟨R,hR⟩:=jN (av (Z0K Gl t));rw [hR] at l1 w1 w2 hq9;refine Ans.lpG rfl rfl (Z7e ..) ?_;unfold Z8B;rw [Z9N];obtain ⟨Z,hZ⟩:=jN (z20);rw [hZ] at w1 ⊢;have fx:=ai ix (ai l1 (ai hkb (ai w1 (ai w2 hq9))));refine Ans.go ?_;clear fx
  (have fx:=ai lp (ai os sB); refine Ans.nxB (B:=S2) ?_ ?_; exact (up); clear fx)
  exact hk
section
variable {Gl:List Int} {n:Nat} (hok:Z0w Gl n=true) (hG:Gl.length=n*20)
theorem Zj8 {p:Nat × Nat}:p ∈ eSP Gl n ↔ ∃ t f e:Nat,t<n/\f<4/\e<6 /\ ¬ Z0D (Z04 Gl t f)<0/\edA e ≠ f/\edB e ≠ f/\p=(6*t+e,eNo (fU Gl t f) (fJ Gl t f (edA e).toNat) (fJ Gl t f (edB e).toNat)):=by
 unfold eSP;rw [Z0x];constructor
 · rintro ⟨t,h1,h⟩
   unfold eST at h;rw [Z0x] at h;obtain ⟨f,h2,h⟩:=h;unfold eSF at h;rw [Z0z,Z0x] at h;obtain ⟨h3,e,h4,h⟩:=h;unfold eSI at h;rw [Z1T] at h;exact ⟨t,f,e,h1,h2,h4,h3,h.1.1,h.1.2,h.2⟩
 · rintro ⟨t,f,e,h1,h2,h4,h3,h5,h6,h7⟩
   refine ⟨t,h1,Z0x.2 ⟨f,h2, ?_⟩⟩;unfold eSF;rw [Z0z,Z0x];refine ⟨h3,e,h4, ?_⟩;unfold eSI;rw [Z1T];exact ⟨⟨h5,h6⟩,h7⟩
theorem eNo_ed {t e:Nat} (he:e<6):eNo t (edA e).toNat (edB e).toNat=6*t+e:=by
 obtain ⟨a1,a2,a3,a4,a5⟩:=Zf4 (e:=(e:Int)) qO qO;have:=edN_ed he;unfold eNo;rw [show (((edA e).toNat:Nat):Int)=edA e by omega,show (((edB e).toNat:Nat):Int)=edB e by omega,this,qE]
 include hok hG
theorem Zoy:∀ p,p ∈ eSP Gl n->p ∈ eP Gl n:=fun p hp=>by
 obtain ⟨t,f,e,h1,h2,h4,h3,h5,h6,rfl⟩:=Zj8.1 hp;obtain ⟨a1,a2,a3,a4,a5⟩:=Zf4 (e:=(e:Int)) qO qO;refine Zj9.2 ⟨t,f,(edA e).toNat,(edB e).toNat,h1,h2,qO,qO,h3,qO,qO,qO, ?_⟩;rw [eNo_ed h4]
theorem Zkb:∀ p,p ∈ eSP Gl n->p.1<6*n/\p.2<6*n:=fun p hp=>ZnS hok hG p (Zoy hok hG p hp)
theorem Zh3:Z2h (eSs Gl n) (6*n):=(Z2o _ _ (Z0B _) (Zkb hok hG)).1
theorem Zh2 {k:Nat} (hk:k<6*n):Z07 (eSs Gl n) k=Z07 (eCs Gl n) k:=by
 have hE:=Z2o (eSP Gl n) (Z0g (6*n)) (Z0B _) (Zkb hok hG);have hC:=Z2o (eP Gl n) (Z0g (6*n)) (Z0B _) (ZnS hok hG);refine jn_eq (Zkb hok hG) (ZnS hok hG) (fun p hp=>hC.2.2 p (Zoy hok hG p hp)) (fun p hp=>?_) hk;obtain ⟨t,f,i,j,h1,h2,h3,h4,h5,h6,h7,h8,rfl⟩:=Zj9.1 hp;have b:=Z2L hok hG h1 h2 h5;obtain ⟨k,hk6,hk⟩:=Zkc (t:=t) h3 h4 h8;have er:=Z4N (i:=(i:Int)) (j:=j) qO qO qO qO qO;have ke:((k:Nat):Int)=edN i j:=by unfold eNo at hk; omega
 obtain ⟨m1,m2⟩:=Zox (i:=i) (j:=j) h3 h4 (Ne.symm h8);rw [← ke] at m1 m2;have key:=hE.2.2 _ (Zj8.2 ⟨t,f,k,h1,h2,hk6,h5,qO,qO,rfl⟩);dsimp only at key ⊢;rw [hk,key,m1,m2,qE,qE];have hj1:=b.j i h3;have hj2:=b.j j h4;rcases Nat.le_total i j with q | q
 · rw [Nat.min_eq_left q,Nat.max_eq_right q]
 · rw [Nat.min_eq_right q,Nat.max_eq_left q];unfold eNo;rw [Zh1 hj2 hj1]
theorem Zka:Z6N (eSs Gl n) (6*n)=eN Gl n/\Z1x (eSs Gl n) (6*n)=nE Gl n:=⟨Zhx (Zh3 hok hG) fun k hk=>Zh2 hok hG hk,Zb6 fun k hk=>Zh2 hok hG hk⟩
end
theorem ZdO (s:Value) (n:Nat) (Gl:List Int) (h:FH) (c:Nat) (df:List Nat) (hs:SlI h c s 20 n Gl) (hok:Z0w Gl n=true) (hn:n<=1000) :
 Ans (G (.fn 73) [.agg #[s]] h c df) fun r=>∃ b,r=⟨.ret,[.tuple #[.slice (some ⟨b,0,none⟩) (6*n) (6*n),.int .i64 (Z1x (eSs Gl n) (6*n))]],r.h,r.c,[]⟩/\c<=r.c/\Z0l c h r.h/\256*c<=b/\b<256*r.c/\r.h.f b=some (.cells false none (ints (Z6N (eSs Gl n) (6*n)))):=by
 refine Ans.call' (fun r e=>f73_go e) ?_;have Z0X:((Value.agg #[s]).cells.toList.all Z08)=true:=by simp [Value.cells,hs.flat]
 have Z0Y:(Value.agg #[s]).cells.toList=[s]:=rfl;unfold ZpP;rw [Z0X,Z0Y];simp only [cond_true,qW];obtain ⟨g0,hg0⟩:=jN (256*c);rw [hg0];obtain ⟨M,hM⟩:=jN (newB h g0 [s]);rw [hM];have Mg:M.f g0=some (.cells false none [s]):=by rw [← hM,Z01,if_pos rfl]
 have sM:Z0l c h M:=fun j hj=>by rw [← hM,Z01,if_neg qO]
 have l0:ld1 M (.pointer (some ⟨g0,0,none⟩))=some s:=by rw [Z02 (cs:=[s]) ⟨false,none,Mg⟩]; rfl
 have len:=hs.len;have cs:=Z05 (Z4h (6*n) M (c+1+1) [] qO);obtain ⟨pb,hpb⟩:=jN (256*(c+1+1+1)+1);rw [hpb] at cs;have l1:ld1 (newB M pb (ints (Z0g (6*n)))) (.pointer (some ⟨g0,0,none⟩))=some s:=by rw [ld1_newB_ne _ _ _ _ _ qO]; exact l0
 have hsM:SlI M (c+1) s 20 n Gl:=(hs.same sM).mono qO;have lo:=Ans.eq (ex_t pb n (c+1+1+1+1+1+1+1) (c+1) Gl s M [] hn hok hsM qO qO qO n 0 (Z0g (6*n)) qO (JX.nil _));have hd:=Zh3 hok hs.1;have nu:=Z05 (Z6v pb (6*n) (eSs Gl n) hd (newB M pb (ints (eSs Gl n))) (c+1+1+1+1+1+1+1+1) [] (by rw [Z01,if_pos rfl]) qO qO);simp only [qC,qF] at lo;obtain ⟨ob,hob⟩:=jN (256*(c+1+1+1+1+1+1+1+1+1)+2);rw [hob] at nu;have e4:((6*n:Nat):Int)=6*(n:Int):=qO;rw [e4] at cs;have xv0:∀ a b:Value,Z19 (.tuple #[a,b]) 0=some a:=fun _ _=>rfl
 have xv1:∀ a b:Value,Z19 (.tuple #[a,b]) 1=some b:=fun _ _=>rfl
 obtain ⟨K1,hK1⟩:=jN (newB M pb (ints (Z0g (6*n))));obtain ⟨K2,hK2⟩:=jN (newB M pb (ints (eSs Gl n)));rw [hK1] at cs l1 lo;rw [hK2] at lo nu;obtain ⟨K3,hK3⟩:=jN (newB K2 ob (ints (Z6N (eSs Gl n) (6*n))));rw [hK3] at nu;obtain ⟨F,hF⟩:=jN (Z1x (eSs Gl n) (6*n));rw [hF] at nu ⊢;have fx:=ai l0 (ai len (ai cs (ai l1 (ai lo (ai nu (ai xv0 xv1))))));refine Ans.go ?_;clear fx;refine .done ⟨ob,rfl,by dsimp only; omega,fun j hj=>?_,qO,by dsimp only; omega, ?_⟩
 · show K3.f j=_;rw [← hK3,Z01,if_neg qO,← hK2,Z01,if_neg qO];exact sM j hj
 · show K3.f ob=_;rw [← hK3,Z01,if_pos rfl]

set_option maxRecDepth 100000
theorem tx_f (pb n t c:Nat) (Gl:List Int) (x1 x2 x3:Value) (h0:FH) (df:List Nat) (PV:Prs) (hn:n<=1000) (hok:Z0w Gl n=true) (hG:Gl.length=n*20) (ht:t<n) (lp:pb<256*c)
 (o1:OkV c x1) (o2:OkV c x2) (o3:OkV c x3) :
 ∀ (r f:Nat) (L:List Int),f+r=4->JX (PV++upL (tF Gl t) f) (4*n) L →
 Ans (G (ZbA none) [.slice (some ⟨pb,0,none⟩) (4*n) (4*n),.int .i64 t,x1,x2,x3,av (Z0K Gl t),.int .i64 f] (newB h0 pb (ints L)) c df) fun q=>∃ L',q=⟨.exit 2,[.slice (some ⟨pb,0,none⟩) (4*n) (4*n),.int .i64 t,x1,x2,x3,av (Z0K Gl t),.int .i64 4],newB h0 pb (ints L'),c,df⟩/\JX (PV++tT Gl t) (4*n) L':=by
 intro r;have hrl:=Z0E hG ht;have orow:OkV c (av (Z0K Gl t)):=OkV.av _ _
 induction r with
 | zero =>
  intro f L hf j;obtain rfl:f=4:=qO;refine Ans.lpG rfl rfl (Z57 ..) ?_;unfold Z63;obtain ⟨H,hH⟩:=jN (newB h0 pb (ints L));rw [hH];have fx:=True.intro;refine Ans.go ?_;clear fx
  (have fx:=ai lp (ai o1 (ai o2 (ai o3 orow))); refine Ans.ex0 ?_; clear fx)
  exact ⟨L,by rw [hH]; rfl,j⟩
 | succ r ih =>
  intro f L hf j;have hf4:f<4:=qO;have f4:(f:Int)<4:=qO;have x1':=Z2p (Z0K Gl t) 4 5 .i64 (f:Int) qO qO hrl;rw [qE,Z23 hf4] at x1';have hfl:=Z0i hG ht hf4;obtain ⟨xb,hxb⟩:=jN (256*(c+1)+2);have hne:xb ≠ pb:=qO;obtain ⟨h1,hh1⟩:=jN (newB h0 xb (ints (Z04 Gl t f)));have cm:newB (newB h0 pb (ints L)) xb (ints (Z04 Gl t f))=newB h1 pb (ints L):=by rw [← hh1,Z1F _ _ _ _ _ (Ne.symm hne)]
  have x:XB Gl n t f xb pb h1:=⟨by rw [← hh1]; exact Z0d.newB_same _ _ _,hne,hok,hG,ht,hf4⟩;have w1:stN (newB (newB h0 pb (ints L)) xb [.int .i64 0,.int .i64 0,.int .i64 0,.int .i64 0,.int .i64 0]) 5 (.pointer (some ⟨xb,0,none⟩)) (av (Z04 Gl t f))=some (newB h1 pb (ints L)):=by
   rw [← cm]; exact stN_all _ _ 5 _ _ hfl rfl
  have l0:=x.l0 (ints L)
  by_cases hg:Z0D (Z04 Gl t f)<0
  · have qv:tF Gl t f=[]:=if_pos hg;have hk:=ih (f+1) L qO (by rw [upL,qv,qL]; exact j);have sB:Z0l c (newB h0 pb (ints L)) (newB h1 pb (ints L)):=fun j hj=>by rw [Z01,Z01,← hh1,Z01,if_neg (show ¬ j=xb by omega)]
    obtain ⟨S,hS⟩:=jN (newB h0 pb (ints L));obtain ⟨S1,hS1⟩:=jN (newB h1 pb (ints L));rw [hS] at w1 hk sB ⊢;rw [hS1] at w1 l0 sB;obtain ⟨F,hF⟩:=jN (Z04 Gl t f);rw [hF] at w1 x1' l0 hg;obtain ⟨z,hz⟩:=jN (Z0D F);rw [hz] at l0 hg;refine Ans.lpG rfl rfl (Z57 ..) ?_;unfold Z63;have fx:=ai x1' (ai hxb (ai w1 l0));refine Ans.go ?_;clear fx
    (have fx:=ai lp (ai o1 (ai o2 (ai o3 (ai orow sB)))); refine Ans.nx0 ?_; clear fx)
    exact hk
  · have b:=x.gb hg;have hu:=b.u;have hj:=b.j f hf4;rw [x.u hg] at l0;have l1:=x.l1 hg (ints L) hf4;have qv:tF Gl t f=[(4*t+f,4*fU Gl t f+fJ Gl t f f)]:=if_neg hg;have g:=Z41 pb (4*n) L j.d (newB h1 pb (ints L)) (c+1+1+1+1) [] (by rw [Z01,if_pos rfl]) qO qO (4*t+f) (4*fU Gl t f+fJ Gl t f f) qO qO;rw [ZdD] at g;have j':=j.snoc (i:=4*t+f) (j:=4*fU Gl t f+fJ Gl t f f) qO qO;obtain ⟨L',hL'⟩:=jN (Z1k L (4*t+f) (4*fU Gl t f+fJ Gl t f f));rw [hL'] at j' g;have hk:=ih (f+1) L' qO (by rw [upL,qv,← qQ]; exact j');have cv:=Z05 g;have e3:((4*t+f:Nat):Int)=4*(t:Int)+f:=qO;have e4:((4*fU Gl t f+fJ Gl t f f:Nat):Int)=4*(fU Gl t f:Int)+(fJ Gl t f f:Nat):=qO;rw [e3,e4] at cv;clear g j' e3 e4;have up:Z0G c (newB h0 pb (ints L)) (newB h0 pb (ints L')):=Z0G.both (Z0Q.ints _ _) (Z0G.refl _ _) lp;have sB:Z0l c (newB h0 pb (ints L')) (newB h1 pb (ints L')):=fun j hj=>by rw [Z01,Z01,← hh1,Z01,if_neg (show ¬ j=xb by omega)]
    obtain ⟨S,hS⟩:=jN (newB h0 pb (ints L));obtain ⟨S1,hS1⟩:=jN (newB h1 pb (ints L));obtain ⟨S2,hS2⟩:=jN (newB h0 pb (ints L'));obtain ⟨S3,hS3⟩:=jN (newB h1 pb (ints L'));rw [hS] at w1 up ⊢;rw [hS1] at w1 l0 l1 cv;rw [hS2] at up sB hk;rw [hS3] at sB cv;obtain ⟨F,hF⟩:=jN (Z04 Gl t f);rw [hF] at w1 x1';obtain ⟨u,hu'⟩:=jN (fU Gl t f);obtain ⟨p,hp'⟩:=jN (fJ Gl t f f);rw [hu'] at l0 cv hu;rw [hp'] at l1 cv hj;refine Ans.lpG rfl rfl (Z57 ..) ?_;unfold Z63;have fx:=ai x1' (ai hxb (ai w1 (ai l0 (ai l1 cv))));refine Ans.go ?_;clear fx
    (have fx:=ai lp (ai o1 (ai o2 (ai o3 (ai orow sB)))); refine Ans.nxB (B:=S2) ?_ ?_; exact (up); clear fx)
    exact hk
theorem tx_t (pb n c cm:Nat) (Gl:List Int) (s:Value) (h0:FH) (df:List Nat) (hn:n<=1000) (hok:Z0w Gl n=true) (hs:SlI h0 cm s 20 n Gl) (hcm:cm<=c) (mp:256*cm<=pb) (lp:pb<256*c) :
 ∀ (r t:Nat) (L:List Int),t+r=n->JX (upL (tT Gl) t) (4*n) L →
 Ans (G (ZbB none) [.slice (some ⟨pb,0,none⟩) (4*n) (4*n),s,.int .i64 n,.int .i64 t] (newB h0 pb (ints L)) c df) fun q=>q=⟨.exit 0,[.slice (some ⟨pb,0,none⟩) (4*n) (4*n),s,.int .i64 n,.int .i64 n],newB h0 pb (ints (tCs Gl n)),c,df⟩:=by
 intro r;have os:OkV c s:=(hs.mono hcm).okV;have hG:=hs.1
 induction r with
 | zero =>
  intro t L ht j;obtain rfl:t=n:=qO;have e:L=tCs Gl t:=j.e;refine Ans.lpG rfl rfl (Z7c ..) ?_;unfold Z8w;obtain ⟨H,hH⟩:=jN (newB h0 pb (ints L));rw [← e,hH];have fx:=True.intro;refine Ans.go ?_;clear fx
  (have fx:=ai lp os; refine Ans.ex0 ?_; clear fx)
  rfl
 | succ r ih =>
  intro t L ht j;have htn:t<n:=qO;have tl:(t:Int)<n:=qO;have tn:(n:Int)<=1000:=qO;obtain ⟨ix,l1⟩:=Zdw hs mp htn (ints L);obtain ⟨kb,hkb⟩:=jN (256*(c+1)+3);have hne:kb ≠ pb:=qO;obtain ⟨w1,w2⟩:=Z9Z (newB h0 pb (ints L)) kb hG htn;obtain ⟨h1,hh1⟩:=jN (newB h0 kb (ints (Z0K Gl t)));have cm':newB (newB h0 pb (ints L)) kb (ints (Z0K Gl t))=newB h1 pb (ints L):=by rw [← hh1,Z1F _ _ _ _ _ (Ne.symm hne)]
  rw [cm'] at w1 w2;obtain ⟨q9,hq9,L',rfl,j'⟩:=tx_f pb n t (c+1+1+1) Gl s (.int .i64 n) (.int .i64 t) h1 df (upL (tT Gl) t) hn hok hG htn qO (os.mono qO) (OkV.int _ _ _) (OkV.int _ _ _) 4 0 L qO (by rw [upL,qL]; exact j);have hk:=ih (t+1) L' qO (by rw [upL]; exact j');simp only [qC,qF] at hq9;have up:Z0G c (newB h0 pb (ints L)) (newB h0 pb (ints L')):=Z0G.both (Z0Q.ints _ _) (Z0G.refl _ _) lp;have sB:Z0l c (newB h0 pb (ints L')) (newB h1 pb (ints L')):=fun j hj=>by rw [Z01,Z01,← hh1,Z01,if_neg (show ¬ j=kb by omega)]
  obtain ⟨S,hS⟩:=jN (newB h0 pb (ints L));obtain ⟨S1,hS1⟩:=jN (newB h1 pb (ints L));obtain ⟨S2,hS2⟩:=jN (newB h0 pb (ints L'));obtain ⟨S3,hS3⟩:=jN (newB h1 pb (ints L'));rw [hS] at w1 l1 up ⊢;rw [hS1] at w1 w2 hq9;rw [hS2] at up sB hk;rw [hS3] at sB hq9;obtain ⟨R,hR⟩:=jN (av (Z0K Gl t));rw [hR] at l1 w1 w2 hq9;refine Ans.lpG rfl rfl (Z7c ..) ?_;unfold Z8w;rw [Z9N];obtain ⟨Z,hZ⟩:=jN (z20);rw [hZ] at w1 ⊢;have fx:=ai ix (ai l1 (ai hkb (ai w1 (ai w2 hq9))));refine Ans.go ?_;clear fx
  (have fx:=ai lp (ai os sB); refine Ans.nxB (B:=S2) ?_ ?_; exact (up); clear fx)
  exact hk
theorem Z6G (s:Value) (n:Nat) (Gl:List Int) (h:FH) (c:Nat) (df:List Nat) (hs:SlI h c s 20 n Gl) (hok:Z0w Gl n=true) (hn:n<=1000) :
 Ans (G (.fn 74) [.agg #[s]] h c df) fun r=>∃ b,r=⟨.ret,[.tuple #[.slice (some ⟨b,0,none⟩) (4*n) (4*n),.int .i64 (Z1x (tCs Gl n) (4*n))]],r.h,r.c,[]⟩/\c<=r.c/\Z0l c h r.h/\256*c<=b/\b<256*r.c/\r.h.f b=some (.cells false none (ints (Z6N (tCs Gl n) (4*n)))):=by
 refine Ans.call' (fun r e=>f74_go e) ?_;have Z0X:((Value.agg #[s]).cells.toList.all Z08)=true:=by simp [Value.cells,hs.flat]
 have Z0Y:(Value.agg #[s]).cells.toList=[s]:=rfl;unfold ZpO;rw [Z0X,Z0Y];simp only [cond_true,qW];obtain ⟨g0,hg0⟩:=jN (256*c);rw [hg0];obtain ⟨M,hM⟩:=jN (newB h g0 [s]);rw [hM];have Mg:M.f g0=some (.cells false none [s]):=by rw [← hM,Z01,if_pos rfl]
 have sM:Z0l c h M:=fun j hj=>by rw [← hM,Z01,if_neg qO]
 have l0:ld1 M (.pointer (some ⟨g0,0,none⟩))=some s:=by rw [Z02 (cs:=[s]) ⟨false,none,Mg⟩]; rfl
 have len:=hs.len;have cs:=Z05 (Z4h (4*n) M (c+1+1) [] qO);obtain ⟨pb,hpb⟩:=jN (256*(c+1+1+1)+1);rw [hpb] at cs;have l1:ld1 (newB M pb (ints (Z0g (4*n)))) (.pointer (some ⟨g0,0,none⟩))=some s:=by rw [ld1_newB_ne _ _ _ _ _ qO]; exact l0
 have hsM:SlI M (c+1) s 20 n Gl:=(hs.same sM).mono qO;have lo:=Ans.eq (tx_t pb n (c+1+1+1+1+1+1+1) (c+1) Gl s M [] hn hok hsM qO qO qO n 0 (Z0g (4*n)) qO (JX.nil _));have hd:=ZkF hok hs.1;have nu:=Z05 (Z6v pb (4*n) (tCs Gl n) hd (newB M pb (ints (tCs Gl n))) (c+1+1+1+1+1+1+1+1) [] (by rw [Z01,if_pos rfl]) qO qO);simp only [qC,qF] at lo;obtain ⟨ob,hob⟩:=jN (256*(c+1+1+1+1+1+1+1+1+1)+2);rw [hob] at nu;have e4:((4*n:Nat):Int)=4*(n:Int):=qO;rw [e4] at cs;have xv0:∀ a b:Value,Z19 (.tuple #[a,b]) 0=some a:=fun _ _=>rfl
 have xv1:∀ a b:Value,Z19 (.tuple #[a,b]) 1=some b:=fun _ _=>rfl
 obtain ⟨K1,hK1⟩:=jN (newB M pb (ints (Z0g (4*n))));obtain ⟨K2,hK2⟩:=jN (newB M pb (ints (tCs Gl n)));rw [hK1] at cs l1 lo;rw [hK2] at lo nu;obtain ⟨K3,hK3⟩:=jN (newB K2 ob (ints (Z6N (tCs Gl n) (4*n))));rw [hK3] at nu;obtain ⟨F,hF⟩:=jN (Z1x (tCs Gl n) (4*n));rw [hF] at nu ⊢;have fx:=ai l0 (ai len (ai cs (ai l1 (ai lo (ai nu (ai xv0 xv1))))));refine Ans.go ?_;clear fx;refine .done ⟨ob,rfl,by dsimp only; omega,fun j hj=>?_,qO,by dsimp only; omega, ?_⟩
 · show K3.f j=_;rw [← hK3,Z01,if_neg qO,← hK2,Z01,if_neg qO];exact sM j hj
 · show K3.f ob=_;rw [← hK3,Z01,if_pos rfl]

def pfL (V:List Int) (o m i:Nat):List Int:=(List.range m).map fun k=>if k<i then V.getD (o+k) 0 else 0
theorem Z2m (V:List Int) (o m i:Nat):(pfL V o m i).length=m:=by simp [pfL]
theorem ZcD (V:List Int) (o:Nat) {m k:Nat} (i:Nat) (h:k<m):(pfL V o m i).getD k 0=if k<i then V.getD (o+k) 0 else 0:=by simp [pfL,qB,h]
theorem Zeh (V:List Int) (o:Nat) {m i:Nat} (h:i<m):(pfL V o m i).set i (V.getD (o+i) 0)=pfL V o m (i+1):=by
 refine Z1w (m:=m) (by rw [jL,Z2m]) (Z2m _ _ _ _) fun k hk=>?_
 rw [Z0I,Z2m,ZcD _ _ _ hk,ZcD _ _ _ hk]
 by_cases e:i=k
 · subst e; rw [if_pos ⟨rfl,h⟩,if_pos qO]
 · rw [if_neg (fun z=>e z.1)]
   by_cases q:k<i
   · rw [if_pos q,if_pos qO]
   · rw [if_neg q,if_neg qO]
theorem ZcE {V:List Int} {o m:Nat} (h:o+m<=V.length):pfL V o m m=(V.drop o).take m:=by
 refine Z1w (m:=m) (Z2m _ _ _ _) (by rw [qT,qS]; omega) fun k hk=>?_
 rw [ZcD _ _ _ hk,if_pos hk,Z2D _ _ _ hk,Z26]
theorem pf4 (V:List Int) (o:Nat):ints (pfL V o 4 0)=[.int .i64 0,.int .i64 0,.int .i64 0,.int .i64 0]:=rfl
theorem pf6 (V:List Int) (o:Nat):ints (pfL V o 6 0)=[.int .i64 0,.int .i64 0,.int .i64 0,.int .i64 0,.int .i64 0,.int .i64 0]:=rfl
theorem sq_i (vb eb tb ab fb bb t n c:Nat) (x1 x2 x3 x5 x10:Value) (V T:List Int) (h0:FH) (df:List Nat) (lV:V.length=4*n) (lT:T.length=4*n) (fv:h0.f vb=some (.cells false none (ints V))) (ft:h0.f tb=some (.cells false none (ints T))) (ht:t<n) (hn:n<=60)
 (n1:ab ≠ fb) (n2:vb ≠ ab) (n3:vb ≠ fb) (n4:tb ≠ ab) (n5:tb ≠ fb) (lv:vb<256*c) (le:eb<256*c) (lt:tb<256*c) (la:ab<256*c) (lf:fb<256*c) (lb:bb<256*c) (o1:OkV c x1) (o2:OkV c x2) (o3:OkV c x3) (o5:OkV c x5) (o10:OkV c x10) :
 ∀ (r i:Nat),i+r=4->Ans (G (ZbU none) [x1,x2,x3,.slice (some ⟨vb,0,none⟩) (4*n) (4*n),x5,.slice (some ⟨eb,0,none⟩) (6*n) (6*n),.slice (some ⟨tb,0,none⟩) (4*n) (4*n),x10,.int .i64 t,ptrTo ab,ptrTo fb,ptrTo bb,.int .i64 i,.int .i64 n,.int .i64 t] (newB (newB h0 ab (ints (pfL V (4*t) 4 i))) fb (ints (pfL T (4*t) 4 i))) c df) fun q =>
  q=⟨.exit 2,[x1,x2,x3,.slice (some ⟨vb,0,none⟩) (4*n) (4*n),x5,.slice (some ⟨eb,0,none⟩) (6*n) (6*n),.slice (some ⟨tb,0,none⟩) (4*n) (4*n),x10,.int .i64 t,ptrTo ab,ptrTo fb,ptrTo bb,.int .i64 4,.int .i64 n,.int .i64 t],newB (newB h0 ab (ints ((V.drop (4*t)).take 4))) fb (ints ((T.drop (4*t)).take 4)),c,df⟩:=by
 intro r
 induction r with
 | zero =>
  intro i hi;obtain rfl:i=4:=qO;rw [ZcE (V:=V) qO,ZcE (V:=T) qO];obtain ⟨S,hS⟩:=jN (newB (newB h0 ab (ints ((V.drop (4*t)).take 4))) fb (ints ((T.drop (4*t)).take 4)));rw [hS];obtain ⟨ZV,hZV⟩:=jN (Value.slice (some ⟨vb,0,none⟩) (4*n) (4*n));obtain ⟨ZE,hZE⟩:=jN (Value.slice (some ⟨eb,0,none⟩) (6*n) (6*n));obtain ⟨ZT,hZT⟩:=jN (Value.slice (some ⟨tb,0,none⟩) (4*n) (4*n));have zv:OkV c ZV:=by rw [← hZV]; exact OkV.sl lv
  have ze:OkV c ZE:=by rw [← hZE]; exact OkV.sl le
  have zt:OkV c ZT:=by rw [← hZT]; exact OkV.sl lt
  rw [hZV,hZE,hZT];refine Ans.lpG rfl rfl (Z7l ..) ?_;unfold Z8V;have fx:=True.intro;refine Ans.go ?_;clear fx
  (have fx:=ai zv (ai ze (ai zt (ai la (ai lf (ai lb (ai o1 (ai o2 (ai o3 (ai o5 o10))))))))); refine Ans.ex0 ?_; clear fx)
  rfl
 | succ r ih =>
  intro i hi;have hi4:i<4:=qO;have i4:(i:Int)<4:=qO;have hk:=ih (i+1) qO;rw [← Zeh V (4*t) hi4,← Zeh T (4*t) hi4] at hk;have lA:=Z2m V (4*t) 4 i;have lF:=Z2m T (4*t) 4 i;obtain ⟨A,hA⟩:=jN (pfL V (4*t) 4 i);obtain ⟨B,hB⟩:=jN (pfL T (4*t) 4 i);rw [hA] at lA hk ⊢;rw [hB] at lF hk ⊢;obtain ⟨S,hS⟩:=jN (newB (newB h0 ab (ints A)) fb (ints B));have Sf:∀ j,S.f j=if j=fb then some (.cells false none (ints B)) else if j=ab then some (.cells false none (ints A)) else h0.f j:=fun j=>by rw [← hS,Z01,Z01]
  have iv:ixS 1 (.slice (some ⟨vb,0,none⟩) (4*n) (4*n)) (.int .i64 (4*(t:Int)+i))=some (.pointer (some ⟨vb,4*t+i,none⟩)):=by
   have:=Z1N vb (4*n) .i64 (4*(t:Int)+i) qO qO;rwa [show (4*(t:Int)+i).toNat=4*t+i by omega] at this
  have it':ixS 1 (.slice (some ⟨tb,0,none⟩) (4*n) (4*n)) (.int .i64 (4*(t:Int)+i))=some (.pointer (some ⟨tb,4*t+i,none⟩)):=by
   have:=Z1N tb (4*n) .i64 (4*(t:Int)+i) qO qO;rwa [show (4*(t:Int)+i).toNat=4*t+i by omega] at this
  have r1:ld1 S (.pointer (some ⟨vb,4*t+i,none⟩))=some (.int .i64 (V.getD (4*t+i) 0)):=by
   rw [Z02 (cs:=ints V) ⟨false,none,by show S.f vb=_; rw [Sf,if_neg n3,if_neg n2]; exact fv⟩,ints_getD _ _ qO]
  have w1:stN S 1 (.pointer (some ⟨ab,i,none⟩)) (.int .i64 (V.getD (4*t+i) 0))=some (HeapC.set S ab (.cells false none (ints (A.set i (V.getD (4*t+i) 0))))):=by
   rw [Z0L (show HeapC.get S ab=some (.cells false none (ints A)) by show S.f ab=_; rw [Sf,if_neg n1,if_pos rfl]) (by simp; omega) rfl rfl,Z1r]
  obtain ⟨S1,hS1⟩:=jN (HeapC.set S ab (.cells false none (ints (A.set i (V.getD (4*t+i) 0)))));rw [hS1] at w1;have S1f:∀ j,S1.f j=if j=ab then some (.cells false none (ints (A.set i (V.getD (4*t+i) 0)))) else S.f j:=fun j=>by rw [← hS1,Z0c]
  have r2:ld1 S1 (.pointer (some ⟨tb,4*t+i,none⟩))=some (.int .i64 (T.getD (4*t+i) 0)):=by
   rw [Z02 (cs:=ints T) ⟨false,none,by show S1.f tb=_; rw [S1f,if_neg n4,Sf,if_neg n5,if_neg n4]; exact ft⟩,ints_getD _ _ qO]
  have w2:stN S1 1 (.pointer (some ⟨fb,i,none⟩)) (.int .i64 (T.getD (4*t+i) 0))=some (newB (newB h0 ab (ints (A.set i (V.getD (4*t+i) 0)))) fb (ints (B.set i (T.getD (4*t+i) 0)))):=by
   rw [Z0L (show HeapC.get S1 fb=some (.cells false none (ints B)) by show S1.f fb=_; rw [S1f,if_neg (Ne.symm n1),Sf,if_pos rfl]) (by simp; omega) rfl rfl,Z1r];congr 1;apply FH.ext; intro j;rw [Z0c,S1f,Sf,Z01,Z01]
   split
   · rfl
   · split
     · rfl
     · rfl
  have up:Z0G c S (newB (newB h0 ab (ints (A.set i (V.getD (4*t+i) 0)))) fb (ints (B.set i (T.getD (4*t+i) 0)))):=by
   rw [← hS];exact Z0G.both (Z0Q.ints _ _) (Z0G.both (Z0Q.ints _ _) (Z0G.refl _ _) la) lf
  rw [hS];obtain ⟨S2,hS2⟩:=jN (newB (newB h0 ab (ints (A.set i (V.getD (4*t+i) 0)))) fb (ints (B.set i (T.getD (4*t+i) 0))));rw [hS2] at w2 up hk;obtain ⟨X,hX⟩:=jN (V.getD (4*t+i) 0);obtain ⟨Y,hY⟩:=jN (T.getD (4*t+i) 0);rw [hX] at r1 w1;rw [hY] at r2 w2;obtain ⟨ZV,hZV⟩:=jN (Value.slice (some ⟨vb,0,none⟩) (4*n) (4*n));obtain ⟨ZE,hZE⟩:=jN (Value.slice (some ⟨eb,0,none⟩) (6*n) (6*n));obtain ⟨ZT,hZT⟩:=jN (Value.slice (some ⟨tb,0,none⟩) (4*n) (4*n));have zv:OkV c ZV:=by rw [← hZV]; exact OkV.sl lv
  have ze:OkV c ZE:=by rw [← hZE]; exact OkV.sl le
  have zt:OkV c ZT:=by rw [← hZT]; exact OkV.sl lt
  rw [hZV] at iv;rw [hZT] at it';rw [hZV,hZE,hZT] at hk ⊢;refine Ans.lpG rfl rfl (Z7l ..) ?_;unfold Z8V;have fx:=ai iv (ai r1 (ai w1 (ai it' (ai r2 w2))));refine Ans.go ?_;clear fx
  (have fx:=ai zv (ai ze (ai zt (ai la (ai lf (ai lb (ai o1 (ai o2 (ai o3 (ai o5 o10))))))))); refine Ans.nxB (B:=S2) ?_ ?_; exact (up); clear fx)
  exact hk
theorem ZoT (eb db sb gb rb ab fb bb t n m c:Nat) (x1 x2 x4 x5 x8:Value) (D E:List Int) (f0 f1 f2 f5:Value) (h0:FH) (df:List Nat)
 (fs:h0.f sb=some (.cells false none [f0,f1,f2,.slice (some ⟨gb,0,none⟩) m m,.slice (some ⟨rb,0,none⟩) m m,f5])) (fd:h0.f db=some (.cells false none (ints D))) (fe:h0.f eb=some (.cells false none (ints E)))
 (lD:D.length=16*n) (lE:E.length=6*n) (hE:∀ k,k<6->0<=E.getD (6*t+k) 0/\E.getD (6*t+k) 0<m) (ht:t<n) (hn:n<=60) (hm:m<=360)
 (ld:db<256*c) (le:eb<256*c) (ls:sb<256*c) (lg:gb<256*c) (lr:rb<256*c) (la:ab<256*c) (lf:fb<256*c) (lb:bb<256*c) (o1:OkV c x1) (o2:OkV c x2) (o4:OkV c x4) (o5:OkV c x5) (o8:OkV c x8)
 (n1:gb ≠ rb) (n2:sb ≠ gb) (n3:sb ≠ rb) (n4:db ≠ gb) (n5:db ≠ rb) (n6:eb ≠ gb) (n7:eb ≠ rb) (m1:bb ≠ gb) (m2:bb ≠ rb) (m3:bb ≠ sb) (m4:bb ≠ db) (m5:bb ≠ eb) :
 ∀ (r k:Nat) (z:List Int × List Bool),k+r=6->SB m z (6*t+k)->Ans (G (ZbT none) [x1,x2,ptrTo sb,x4,x5,.slice (some ⟨eb,0,none⟩) (6*n) (6*n),x8,.slice (some ⟨db,0,none⟩) (16*n) (16*n),.int .i64 t,ptrTo ab,ptrTo fb,ptrTo bb,.int .i64 k,.int .i64 n,.int .i64 t] (kH (newB h0 bb (ints (pfL E (6*t) 6 k))) gb rb z) c df) fun q =>
  q=⟨.exit 4,[x1,x2,ptrTo sb,x4,x5,.slice (some ⟨eb,0,none⟩) (6*n) (6*n),x8,.slice (some ⟨db,0,none⟩) (16*n) (16*n),.int .i64 t,ptrTo ab,ptrTo fb,ptrTo bb,.int .i64 6,.int .i64 n,.int .i64 t],kH (newB h0 bb (ints ((E.drop (6*t)).take 6))) gb rb (sKs E D t r k z),c,df⟩:=by
 intro r
 induction r with
 | zero =>
  intro k z hk hz;obtain rfl:k=6:=qO;rw [ZcE (V:=E) qO,sKs];obtain ⟨S,hS⟩:=jN (kH (newB h0 bb (ints ((E.drop (6*t)).take 6))) gb rb z);rw [hS];obtain ⟨ZE,hZE⟩:=jN (Value.slice (some ⟨eb,0,none⟩) (6*n) (6*n));obtain ⟨ZD,hZD⟩:=jN (Value.slice (some ⟨db,0,none⟩) (16*n) (16*n));have oe:OkV c ZE:=by rw [← hZE]; exact OkV.sl le
  have od:OkV c ZD:=by rw [← hZD]; exact OkV.sl ld
  rw [hZE,hZD];refine Ans.lpG rfl rfl (Z5e ..) ?_;unfold Z65;have fx:=True.intro;refine Ans.go ?_;clear fx
  (have fx:=ai oe (ai od (ai ls (ai la (ai lf (ai lb (ai o1 (ai o2 (ai o4 (ai o5 o8))))))))); refine Ans.ex0 ?_; clear fx)
  rfl
 | succ r ih =>
  intro k z hk hz;have hk6:k<6:=qO;have kl:(k:Int)<6:=qO;have hk':=ih (k+1) (sSt E D t k z) qO (hz.st E D t k);rw [← Zeh E (6*t) hk6] at hk';rw [sKs];have ce:=fun H=>Zav k hk6 H
  have xv0:∀ a b:Value,Z19 (.tuple #[a,b]) 0=some a:=fun _ _=>rfl
  have xv1:∀ a b:Value,Z19 (.tuple #[a,b]) 1=some b:=fun _ _=>rfl
  have tab:∀ a:Fin 6,edA (a:Nat)=eAn a/\edB (a:Nat)=eBn a:=by decide
  obtain ⟨ta,tb⟩:=tab ⟨k,hk6⟩;dsimp only at ta tb;rw [ta,tb] at ce;obtain ⟨ea,eb',a4,b4,-⟩:=eAB hk6;obtain ⟨a,hA⟩:=jN (eAn k);obtain ⟨b,hB⟩:=jN (eBn k);rw [hA] at ce a4;rw [hB] at ce b4;obtain ⟨e0,e1⟩:=hE k hk6;obtain ⟨cl,hcl⟩:∃ cl:Nat,E.getD (6*t+k) 0=cl:=⟨(E.getD (6*t+k) 0).toNat,qO⟩;have hst':sSt E D t k z=(z.1.set cl (z.1.getD cl 0+1),if D.getD (16*t+4*a+b) 0=D.getD (16*t+4*b+a) 0 then z.2.set cl true else z.2):=by
   unfold sSt;rw [hcl,hA,hB,qE]
  rw [hst'] at hk' ⊢;rw [hcl] at hk';have hclm:cl<m:=qO;obtain ⟨w,hw⟩:=jN (z.1.getD cl 0);have hwb:=hz.b cl;rw [hw] at hk' hwb ⊢;have l1:=hz.l1;have l2:=hz.l2;have lA:=Z2m E (6*t) 6 k;obtain ⟨A,hAA⟩:=jN (pfL E (6*t) 6 k);rw [hAA] at lA hk' ⊢;obtain ⟨S,hS⟩:=jN (kH (newB h0 bb (ints A)) gb rb z);have Sf:∀ j,S.f j=if j=rb then some (.cells false none (bools z.2)) else if j=gb then some (.cells false none (ints z.1)) else if j=bb then some (.cells false none (ints A)) else h0.f j:=fun j=>by rw [← hS,Ze2,Z01]
  have r1:ld1 S (.pointer (some ⟨eb,6*t+k,none⟩))=some (.int .i64 cl):=by
   rw [Z02 (cs:=ints E) ⟨false,none,by show S.f eb=_; rw [Sf,if_neg n7,if_neg n6,if_neg (Ne.symm m5)]; exact fe⟩,ints_getD _ _ qO,hcl]
  have w0:stN S 1 (.pointer (some ⟨bb,k,none⟩)) (.int .i64 cl)=some (HeapC.set S bb (.cells false none (ints (A.set k cl)))):=by
   rw [Z0L (show HeapC.get S bb=some (.cells false none (ints A)) by show S.f bb=_; rw [Sf,if_neg m2,if_neg m1,if_pos rfl]) (by simp; omega) rfl rfl,Z1r]
  obtain ⟨H1,hH1⟩:=jN (HeapC.set S bb (.cells false none (ints (A.set k cl))));have H1f:∀ j,H1.f j=if j=bb then some (.cells false none (ints (A.set k cl))) else S.f j:=fun j=>by rw [← hH1,Z0c]
  rw [hH1] at w0;have r2:ld1 H1 (.pointer (some ⟨sb,3,none⟩))=some (.slice (some ⟨gb,0,none⟩) m m):=by
   rw [Z02 ⟨false,none,by show H1.f sb=_; rw [H1f,if_neg (Ne.symm m3),Sf,if_neg n3,if_neg n2,if_neg (Ne.symm m3)]; exact fs⟩]; rfl
  have bk:∀ K:FH,K.f bb=some (.cells false none (ints (A.set k cl)))->ld1 K (.pointer (some ⟨bb,k,none⟩))=some (.int .i64 cl):=fun K hK=>by
   rw [Z02 (cs:=ints (A.set k cl)) ⟨false,none,hK⟩,ints_getD _ _ (by rw [jL]; omega),Z0I,if_pos ⟨rfl,qO⟩]
  have rb1:=bk H1 (by rw [H1f,if_pos rfl]);have g1:HeapC.get H1 gb=some (.cells false none (ints z.1)):=by show H1.f gb=_; rw [H1f,if_neg (Ne.symm m1),Sf,if_neg n1,if_pos rfl]
  have r3:ld1 H1 (.pointer (some ⟨gb,cl,none⟩))=some (.int .i64 w):=by
   rw [Z02 (cs:=ints z.1) ⟨false,none,g1⟩,ints_getD _ _ qO,hw]
  have w1:stN H1 1 (.pointer (some ⟨gb,cl,none⟩)) (.int .i64 (w+1))=some (HeapC.set H1 gb (.cells false none (ints (z.1.set cl (w+1))))):=by
   rw [Z0L g1 (by simp; omega) rfl rfl,Z1r]
  obtain ⟨H3,hH3⟩:=jN (HeapC.set H1 gb (.cells false none (ints (z.1.set cl (w+1)))));have H3f:∀ j,H3.f j=if j=gb then some (.cells false none (ints (z.1.set cl (w+1)))) else H1.f j:=fun j=>by rw [← hH3,Z0c]
  rw [hH3] at w1;have gd:Z0d H3 db (ints D):=⟨false,none,by show H3.f db=_; rw [H3f,if_neg n4,H1f,if_neg (Ne.symm m4),Sf,if_neg n5,if_neg n4,if_neg (Ne.symm m4)]; exact fd⟩;have r4:ld1 H3 (.pointer (some ⟨db,16*t+4*a+b,none⟩))=some (.int .i64 (D.getD (16*t+4*a+b) 0)):=by rw [Z02 gd,ints_getD _ _ qO]
  have r5:ld1 H3 (.pointer (some ⟨db,16*t+4*b+a,none⟩))=some (.int .i64 (D.getD (16*t+4*b+a) 0)):=by rw [Z02 gd,ints_getD _ _ qO]
  have r6:ld1 H3 (.pointer (some ⟨sb,4,none⟩))=some (.slice (some ⟨rb,0,none⟩) m m):=by
   rw [Z02 ⟨false,none,by show H3.f sb=_; rw [H3f,if_neg n2,H1f,if_neg (Ne.symm m3),Sf,if_neg n3,if_neg n2,if_neg (Ne.symm m3)]; exact fs⟩]; rfl
  have rb3:=bk H3 (by rw [H3f,if_neg m1,H1f,if_pos rfl]);have g3:HeapC.get H3 rb=some (.cells false none (bools z.2)):=by show H3.f rb=_; rw [H3f,if_neg (Ne.symm n1),H1f,if_neg (Ne.symm m2),Sf,if_pos rfl]
  have w2:stN H3 1 (.pointer (some ⟨rb,cl,none⟩)) (.bool true)=some (HeapC.set H3 rb (.cells false none (bools (z.2.set cl true)))):=by
   rw [Z0L g3 (by simp [Z5P]; omega) rfl rfl,Zax]
  have i1:ixS 1 (.slice (some ⟨eb,0,none⟩) (6*n) (6*n)) (.int .i64 (6*(t:Int)+k))=some (.pointer (some ⟨eb,6*t+k,none⟩)):=by
   have:=Z1N eb (6*n) .i64 (6*(t:Int)+k) qO qO;rwa [show (6*(t:Int)+k).toNat=6*t+k by omega] at this
  have i2:ixS 1 (.slice (some ⟨gb,0,none⟩) m m) (.int .i64 (cl:Int))=some (.pointer (some ⟨gb,cl,none⟩)):=by
   have:=Z1N gb m .i64 (cl:Int) qO qO;rwa [qE] at this
  have i3:ixS 1 (.slice (some ⟨db,0,none⟩) (16*n) (16*n)) (.int .i64 (16*(t:Int)+4*a+b))=some (.pointer (some ⟨db,16*t+4*a+b,none⟩)):=by
   have:=Z1N db (16*n) .i64 (16*(t:Int)+4*a+b) qO qO;rwa [show (16*(t:Int)+4*a+b).toNat=16*t+4*a+b by omega] at this
  have i4:ixS 1 (.slice (some ⟨db,0,none⟩) (16*n) (16*n)) (.int .i64 (16*(t:Int)+4*b+a))=some (.pointer (some ⟨db,16*t+4*b+a,none⟩)):=by
   have:=Z1N db (16*n) .i64 (16*(t:Int)+4*b+a) qO qO;rwa [show (16*(t:Int)+4*b+a).toNat=16*t+4*b+a by omega] at this
  have i5:ixS 1 (.slice (some ⟨rb,0,none⟩) m m) (.int .i64 (cl:Int))=some (.pointer (some ⟨rb,cl,none⟩)):=by
   have:=Z1N rb m .i64 (cl:Int) qO qO;rwa [qE] at this
  obtain ⟨X,hX⟩:=jN (D.getD (16*t+4*a+b) 0);obtain ⟨Y,hY⟩:=jN (D.getD (16*t+4*b+a) 0);rw [hX] at r4 hk' ⊢;rw [hY] at r5 hk' ⊢;obtain ⟨ZE,hZE⟩:=jN (Value.slice (some ⟨eb,0,none⟩) (6*n) (6*n));obtain ⟨ZD,hZD⟩:=jN (Value.slice (some ⟨db,0,none⟩) (16*n) (16*n));have oe:OkV c ZE:=by rw [← hZE]; exact OkV.sl le
  have od:OkV c ZD:=by rw [← hZD]; exact OkV.sl ld
  rw [hZE] at i1 hk' ⊢;rw [hZD] at i3 i4 hk' ⊢;rw [hS];have tn:t<60:=qO
  by_cases hXY:X=Y
  · rw [if_pos hXY] at hk' ⊢;obtain ⟨H5,hH5⟩:=jN (HeapC.set H3 rb (.cells false none (bools (z.2.set cl true))));rw [hH5] at w2;have e5:H5=kH (newB h0 bb (ints (A.set k cl))) gb rb (z.1.set cl (w+1),z.2.set cl true):=by
     apply FH.ext; intro j;rw [Ze2,Z01,← hH5,Z0c,H3f,H1f,Sf]
     by_cases e1:j=rb
     · rw [if_pos e1,if_pos e1]
     · rw [if_neg e1,if_neg e1,if_neg e1]
       by_cases e2:j=gb
       · rw [if_pos e2,if_pos e2]
       · rw [if_neg e2,if_neg e2,if_neg e2]
         by_cases e3:j=bb
         · rw [if_pos e3,if_pos e3]
         · rw [if_neg e3,if_neg e3,if_neg e3]
    have up:Z0G c S H5:=by
     rw [e5,← hS];unfold kH;exact Z0G.both (Z0Q.bools _ _) (Z0G.both (Z0Q.ints _ _) (Z0G.both (Z0Q.ints _ _) (Z0G.refl _ _) lb) lg) lr
    rw [← e5] at hk';rw [hXY] at r4;refine Ans.lpG rfl rfl (Z5e ..) ?_;unfold Z65;have fx:=ai i1 (ai r1 (ai w0 (ai ce (ai xv0 (ai xv1 (ai r2 (ai rb1 (ai i2 (ai r3 (ai w1 (ai i3 (ai r4 (ai i4 (ai r5 (ai r6 (ai rb3 (ai i5 w2)))))))))))))))));refine Ans.go ?_;clear fx
    (have fx:=ai oe (ai od (ai ls (ai la (ai lf (ai lb (ai o1 (ai o2 (ai o4 (ai o5 o8))))))))); refine Ans.nxB (B:=H5) ?_ ?_; exact (up); clear fx)
    exact hk'
  · rw [if_neg hXY] at hk' ⊢;have e5:H3=kH (newB h0 bb (ints (A.set k cl))) gb rb (z.1.set cl (w+1),z.2):=by
     apply FH.ext; intro j;rw [Ze2,Z01,H3f,H1f,Sf]
     by_cases e1:j=rb
     · rw [if_neg qO,if_neg qO,if_pos e1,if_pos e1]
     · rw [if_neg e1,if_neg e1]
       by_cases e2:j=gb
       · rw [if_pos e2,if_pos e2]
       · rw [if_neg e2,if_neg e2,if_neg e2]
         by_cases e3:j=bb
         · rw [if_pos e3,if_pos e3]
         · rw [if_neg e3,if_neg e3,if_neg e3]
    have up:Z0G c S H3:=by
     rw [e5,← hS];unfold kH;exact Z0G.both (Z0Q.bools _ _) (Z0G.both (Z0Q.ints _ _) (Z0G.both (Z0Q.ints _ _) (Z0G.refl _ _) lb) lg) lr
    rw [← e5] at hk';refine Ans.lpG rfl rfl (Z5e ..) ?_;unfold Z65;have fx:=ai i1 (ai r1 (ai w0 (ai ce (ai xv0 (ai xv1 (ai r2 (ai rb1 (ai i2 (ai r3 (ai w1 (ai i3 (ai r4 (ai i4 (ai r5 hXY))))))))))))));refine Ans.go ?_;clear fx
    (have fx:=ai oe (ai od (ai ls (ai la (ai lf (ai lb (ai o1 (ai o2 (ai o4 (ai o5 o8))))))))); refine Ans.nxB (B:=H3) ?_ ?_; exact (up); clear fx)
    exact hk'
end Go.Proofs.Ytdodippbpdechaa
