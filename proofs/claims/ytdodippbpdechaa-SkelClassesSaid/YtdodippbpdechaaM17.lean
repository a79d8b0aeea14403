/- Parts of a proof: AbLB K7 K8 K9 K10 K11 K12 K13 K14. Conditions: none. -/
import Derived.Test.YtdodippbpdechaaM13
import Derived.Test.YtdodippbpdechaaM14
import Derived.Test.YtdodippbpdechaaM16
import Derived.Test.YtdodippbpdechaaM15
set_option linter.all false
set_option maxRecDepth 100000
set_option maxHeartbeats 4000000
namespace Go.Ab
open Go
def GrS (c0:Nat) (h:FH) (c:Nat) (v:Value) (sz n:Nat) (L:List Int):Prop :=
 (v = .slice none 0 0/\n=0/\L=[]) ∨ (0<n/\L.length=n*sz/\n<=9223372036854775807 /\ ∃ i,v = .slice (some ⟨i,0,none⟩) n n/\256*c0<=i/\i<256*c/\h.f i=some (.cells false (some sz) (ints L)))
theorem GrS.mono {c0:Nat} {h:FH} {c c':Nat} {v:Value} {sz n:Nat} {L:List Int} (hc:c<=c') (ha:GrS c0 h c v sz n L):GrS c0 h c' v sz n L:=by
 rcases ha with ha | ⟨a,b,d,i,e,f,g,k⟩
 · exact .inl ha
 · exact .inr ⟨a,b,d,i,e,f,qO,k⟩
theorem GrS.keep {c0:Nat} {h h':FH} {c:Nat} {v:Value} {sz n:Nat} {L:List Int} (ha:GrS c0 h c v sz n L) (hh:v ≠ .slice none 0 0->h'.f (Z0p v)=h.f (Z0p v)):GrS c0 h' c v sz n L:=by
 rcases ha with ha | ⟨a,b,d,i,rfl,f,g,k⟩
 · exact .inl ha
 · have:=hh (by intro e; cases e)
   rw [blkOf_sl] at this
   exact .inr ⟨a,b,d,i,rfl,f,g,this.trans k⟩
theorem GrS.sl {c0:Nat} {h:FH} {c:Nat} {v:Value} {sz n:Nat} {L:List Int} (ha:GrS c0 h c v sz n L):SlI h c v sz n L:=by
 rcases ha with ⟨rfl,rfl,rfl⟩ | ⟨a,b,d,i,rfl,f,g,k⟩
 · exact ⟨by simp,qO,none,0,rfl,.inl ⟨rfl,OkV.sl0 _ _ _⟩⟩
 · refine ⟨b,d,some ⟨i,0,none⟩,n,rfl,.inr ⟨i,0,ints L,rfl,g,⟨false,some sz,k⟩, ?_⟩⟩
   rw [qM,qH (by simp [b])]
theorem GrS.blk {c0:Nat} {h:FH} {c:Nat} {v:Value} {sz n:Nat} {L:List Int} (ha:GrS c0 h c v sz n L) (hn:v ≠ .slice none 0 0):256*c0<=Z0p v/\Z0p v<256*c:=by
 rcases ha with ⟨rfl,rfl,rfl⟩ | ⟨a,b,d,i,rfl,f,g,k⟩
 · exact absurd rfl hn
 · exact ⟨f,g⟩
theorem GrS.nn {c0:Nat} {h:FH} {c:Nat} {v:Value} {sz n:Nat} {L:List Int} (ha:GrS c0 h c v sz n L):v ≠ .slice none 0 0 ↔ 0<n:=by
 rcases ha with ⟨rfl,rfl,rfl⟩ | ⟨a,b,d,i,rfl,f,g,k⟩
 · exact ⟨fun h=>absurd rfl h,fun h=>qO⟩
 · exact ⟨fun _=>a,fun _=>by intro e; cases e⟩
theorem GrS.flat {c0:Nat} {h:FH} {c:Nat} {v:Value} {sz n:Nat} {L:List Int} (ha:GrS c0 h c v sz n L):Z08 v=true/\v.cells = #[v]:=by
 rcases ha with ⟨rfl,rfl,rfl⟩ | ⟨a,b,d,i,rfl,f,g,k⟩ <;> exact ⟨rfl,rfl⟩
theorem GrS.app {c0:Nat} {h:FH} {c c':Nat} {v:Value} {sz n:Nat} {L:List Int} (ha:GrS c0 h c v sz n L) (X:List Int) (hX:X.length=sz) (hsz:0<sz) (by' b id:Nat) (hb:256*c<=b) (hid:256*c<=id) (hne:b ≠ id) (hc0:c0<=c)
 (hid':id<256*c') (hlim:(n+1)*(by'+1)<=17592186044416) :
 ∃ h',Z5D (newB h b (ints X)) id sz by' v (.slice (some ⟨b,0,none⟩) 1 1)=some (.slice (some ⟨id,0,none⟩) (n+1) (n+1),h')/\GrS c0 h' c' (.slice (some ⟨id,0,none⟩) (n+1) (n+1)) sz (n+1) (L++X)/\(∀ j,j<256*c->(v ≠ .slice none 0 0->j ≠ Z0p v)->h'.f j=h.f j):=by
 have hlim':Nat.ble ((n+1)*(by'+1)) 17592186044416=true:=qK hlim
 have hsrc:Z0M (newB h b (ints X)) sz (.slice (some ⟨b,0,none⟩) 1 1)=some (ints X,1):=by
  have:Nat.ble (0+1*sz) (ints X).length=true:=qK (by simp [hX])
  simp only [Z0M,Z0S,Z0s,get_newB_same,qD,this,cond_true,qM]
  rw [qH (by simp [hX])]
 have hn1:n+1<=17592186044416:=by
  have:(n+1)*1<=(n+1)*(by'+1):=Nat.mul_le_mul_left _ qO
  omega
 have hcap:Nat.ble (n+1) n=false:=by rw [qY]; intro hh; have:=qP hh; omega
 rcases ha with ⟨rfl,rfl,rfl⟩ | ⟨h0,h1,h2,i,rfl,h3,h4,h5⟩
 · refine ⟨HeapC.set (newB h b (ints X)) id (.cells false (some sz) (ints X)), ?_,.inr ⟨qO,by simp [hX],qO,id,rfl,qO,hid', ?_⟩, ?_⟩
   · simp only [Z5D,hsrc,qD,appTo,hcap,cond_false,Z1Q,hlim',Z18,qV,cond_true,Nat.beq_refl,Nat.zero_add]
   · rw [Z0c,if_pos rfl]; rfl
   · intro j hj _
     rw [Z0c,if_neg qO,Z01,if_neg qO]
 · have hbi:i ≠ b:=qO
   have hg:HeapC.get (newB h b (ints X)) i=some (.cells false (some sz) (ints L)):=by rw [get_newB_ne _ _ _ _ hbi]; exact h5
   have hr:Nat.ble (0+n*sz) (ints L).length=true:=qK (by simp [h1])
   refine ⟨HeapC.set (HeapC.set (newB h b (ints X)) i .dead) id (.cells false (some sz) (((ints L).drop 0).take (n*sz)++ints X)), ?_,.inr ⟨qO, ?_,qO,id,rfl,qO,hid', ?_⟩, ?_⟩
   · simp only [Z5D,hsrc,qD,appTo,hcap,cond_false,Z1Q,hlim',Z18,qV,cond_true,Z0S,Z0s,hg,hr,Nat.beq_refl,Bool.not_false,Bool.and_true]
   · simp [h1,hX,Nat.succ_mul]
   · rw [Z0c,if_pos rfl,qM,qH (by simp [h1]),Z4W]
   · intro j hj hv
     have:=hv (by intro e; cases e)
     rw [blkOf_sl] at this
     rw [Z0c,if_neg qO,Z0c,if_neg this,Z01,if_neg qO]
end Go.Ab

namespace Go.Proofs.Ytdodippbpdechaa
open Go Go.Ab Go.Proofs
theorem mT118:Zpi P 118=some (121,3):=by kernel_rfl
theorem kO121 (a b:Int):Z9x P Z1a 121 (av [a,b])=true:=by kernel_rfl
theorem plA (a b:Int):plainL (av [a,b])=true:=by rfl
theorem zT3:Z7I P 3=some (.int .i64 0):=by kernel_rfl
theorem Zqe (a0 a1 b0 b1:Int):aEq P Z1a 121 (av [a0,a1]) (av [b0,b1])=(cond (a0 == b0) (cond (a1 == b1) (some true) (some false)) (some false)):=by kernel_rfl
theorem eq_crn (a0 a1 b0 b1:Int):aEq P Z1a 121 (av [a0,a1]) (av [b0,b1])=some (decide (a0=b0/\a1=b1)):=by
 rw [Zqe]
 by_cases h0:a0=b0 <;> by_cases h1:a1=b1 <;> simp [h0,h1,Bool.cond_eq_ite]
def rk (Q:Nat->Bool):Nat->Nat
 | 0=>0
 | x+1=>rk Q x+if Q x=true then 1 else 0
theorem Z9w (Q:Nat->Bool):∀ x,rk Q x<=x
 | 0=>qG _
 | x+1=>by have:=Z9w Q x; rw [rk]; split <;> omega
theorem ZiP (Q:Nat->Bool) {x:Nat}:∀ {y:Nat},x<=y->rk Q x<=rk Q y
 | 0,h=>by rw [show x=0 by omega]; exact qG _
 | y+1,h=>by
  rw [rk]
  by_cases e:x=y+1
  · rw [e,rk]; exact qG _
  · have:=ZiP Q (x:=x) (y:=y) qO; omega
theorem ZkX (Q:Nat->Bool) {x m:Nat} (hx:x<m) (hq:Q x=true):rk Q x<rk Q m:=by
 have:=ZiP Q (x:=x+1) (y:=m) qO;rw [rk,if_pos hq] at this;omega
def crn (Q:Nat->Bool):Nat->List Int
 | 0=>[]
 | x+1=>crn Q x++if Q x=true then [((x / 4:Nat):Int),((x % 4:Nat):Int)] else []
def Zer (Q:Nat->Bool):Nat->List (Value × Value)
 | 0=>[]
 | x+1=>Zer Q x++if Q x=true then [(av [((x / 4:Nat):Int),((x % 4:Nat):Int)],.int .i64 (rk Q x:Nat))] else []
theorem Zcn (Q:Nat->Bool):∀ x,(crn Q x).length=rk Q x*2
 | 0=>rfl
 | x+1=>by
  rw [crn,rk,jI,Zcn Q x]
  split
  · simp; omega
  · simp
theorem Zh5 (Q:Nat->Bool) {x:Nat} (hq:Q x=true):∀ {m:Nat},x<m->((crn Q m).drop (rk Q x*2)).take 2=[((x / 4:Nat):Int),((x % 4:Nat):Int)]
 | 0,h=>qO
 | m+1,h=>by
  have hl:=Zcn Q m;rw [crn]
  by_cases e:x=m
  · subst e;rw [if_pos hq,List.drop_append,qU qO,List.nil_append,hl,Nat.sub_self,qM];rfl
  · have h1:=ZkX Q (x:=x) (m:=m) qO hq;rw [List.drop_append_of_le_length qO,List.take_append_of_le_length (by rw [qS]; omega)];exact Zh5 Q hq qO
theorem Zaa (Q:Nat->Bool) (y:Nat):∀ (m:Nat) (L:List (Value × Value)) (i:Nat),Zai P 121 (av [((y / 4:Nat):Int),((y % 4:Nat):Int)]) (Zer Q m++L) i=if y<m/\Q y=true then some (some (i+rk Q y,.int .i64 (rk Q y:Nat))) else Zai P 121 (av [((y / 4:Nat):Int),((y % 4:Nat):Int)]) L (i+rk Q m)
 | 0,L,i=>by
  rw [if_neg qO];rfl
 | m+1,L,i=>by
  rw [Zer,qQ,Zaa Q y m]
  by_cases h1:y<m/\Q y=true
  · rw [if_pos h1,if_pos ⟨qO,h1.2⟩]
  · rw [if_neg h1]
    by_cases hm:Q m=true
    · rw [if_pos hm,rk,if_pos hm];show (aEq P Z1a 121 (av [((y / 4:Nat):Int),((y % 4:Nat):Int)]) (av [((m / 4:Nat):Int),((m % 4:Nat):Int)])).bind _=_;rw [eq_crn]
      by_cases e:y=m
      · subst e;rw [decide_eq_true ⟨rfl,rfl⟩,if_pos ⟨qO,hm⟩];rfl
      · rw [decide_eq_false (fun z=>e qO),if_neg (fun z=>h1 ⟨qO,z.2⟩)];rfl
    · rw [if_neg hm,rk,if_neg hm,List.nil_append]
      by_cases e:y=m
      · subst e; rw [if_neg (fun z=>hm z.2)]; rfl
      · rw [if_neg (fun z=>h1 ⟨qO,z.2⟩)]; rfl
theorem Zja {h:FH} {b m:Nat} {Q:Nat->Bool} (hg:HeapC.get h b=some (.map (Zer Q m))) (y:Nat):Z5Q P h 118 (.map (some b)) (av [((y / 4:Nat):Int),((y % 4:Nat):Int)]) false=some (.int .i64 (if y<m/\Q y=true then (rk Q y:Int) else 0)):=by
 have hf:=Zaa Q y m [] 0;rw [qL] at hf;have hp:plainL (.int .i64 0)=true:=rfl;simp only [Z5Q,mT118,qD,kO121,cond_true,zT3,hp,hg,hf]
 split
 · rfl
 · rfl
theorem Zle {h:FH} {b m:Nat} {Q:Nat->Bool} (hg:HeapC.get h b=some (.map (Zer Q m))) (hq:Q m=true):Z0P P h 118 (.map (some b)) (av [((m / 4:Nat):Int),((m % 4:Nat):Int)]) (.int .i64 (rk Q m:Nat))=some (HeapC.set h b (.map (Zer Q (m+1)))):=by
 have hf:=Zaa Q m m [] 0;rw [qL,if_neg qO] at hf;have hf':Zai P 121 (av [((m / 4:Nat):Int),((m % 4:Nat):Int)]) (Zer Q m) 0=some none:=hf;simp only [Z0P,mT118,qD,kO121,plA,qV,cond_true,hg,hf'];rw [Zer,if_pos hq]
structure LI (c0 c lb mb:Nat) (h:FH) (s v:Value) (Q:Nat->Bool) (x:Nat):Prop where
 hf:h.f lb=some (.cells false none [s,v,.map (some mb)])
 mp:h.f mb=some (.map (Zer Q x))
 ls:GrS c0 h c v 2 (rk Q x) (crn Q x)
 ne:lb ≠ mb
 lo:lb<256*c0
 mo:mb<256*c0
theorem LI.mono {c0 c c' lb mb:Nat} {h:FH} {s v:Value} {Q:Nat->Bool} {x:Nat} (a:LI c0 c lb mb h s v Q x) (hc:c<=c'):LI c0 c' lb mb h s v Q x:=⟨a.hf,a.mp,a.ls.mono hc,a.ne,a.lo,a.mo⟩
theorem LI.skip {c0 c lb mb:Nat} {h:FH} {s v:Value} {Q:Nat->Bool} {x:Nat} (a:LI c0 c lb mb h s v Q x) (hq:Q x=false):LI c0 c lb mb h s v Q (x+1):=by
 have e1:rk Q (x+1)=rk Q x:=by rw [rk,hq]; rfl
 have e2:crn Q (x+1)=crn Q x:=by rw [crn,hq]; simp
 have e3:Zer Q (x+1)=Zer Q x:=by rw [Zer,hq]; simp
 exact ⟨a.hf,by rw [e3]; exact a.mp,by rw [e1,e2]; exact a.ls,a.ne,a.lo,a.mo⟩
theorem LI.step {c0 c lb mb:Nat} {h:FH} {s v:Value} {Q:Nat->Bool} {x:Nat} (a:LI c0 c lb mb h s v Q x) (hq:Q x=true) (hx:x<=100000) (hc0:c0<=c) (c1 b1 i1:Nat) (hb1:256*c<=b1) (hi1:256*c<=i1) (hne1:b1 ≠ i1) (hi1':i1<256*c1) :
 ∃ h1 h2 H2,Z0P P h 118 (.map (some mb)) (av [((x / 4:Nat):Int),((x % 4:Nat):Int)]) (.int .i64 (rk Q x:Nat))=some h1/\ld1 h1 (.pointer (some ⟨lb,1,none⟩))=some v ∧
  Z5D (newB h1 b1 (ints [((x / 4:Nat):Int),((x % 4:Nat):Int)])) i1 2 16 v (.slice (some ⟨b1,0,none⟩) 1 1)=some (.slice (some ⟨i1,0,none⟩) (rk Q x+1) (rk Q x+1),h2) ∧
  stN h2 1 (.pointer (some ⟨lb,1,none⟩)) (.slice (some ⟨i1,0,none⟩) (rk Q x+1) (rk Q x+1))=some H2/\(∀ j,j<256*c0->j ≠ lb->j ≠ mb->H2.f j=h.f j) ∧
  LI c0 c1 lb mb H2 s (.slice (some ⟨i1,0,none⟩) (rk Q x+1) (rk Q x+1)) Q (x+1):=by
 obtain ⟨hf,mp,ls,ne,lo,mo⟩:=a;have hxx:=Z9w Q x;have u1:=Zle (show HeapC.get h mb=_ from mp) hq;obtain ⟨h1,hh1⟩:=jN (HeapC.set h mb (.map (Zer Q (x+1))));rw [hh1] at u1;have f1:h1.f lb=some (.cells false none [s,v,.map (some mb)]):=by rw [← hh1,Z0c,if_neg ne]; exact hf
 have vmb:v ≠ .slice none 0 0->Z0p v ≠ mb:=fun hv=>by have:=(ls.blk hv).1; omega
 have ls1:GrS c0 h1 c v 2 (rk Q x) (crn Q x):=ls.keep fun hv=>by rw [← hh1,Z0c,if_neg (vmb hv)]
 obtain ⟨h2,e2,a2,k2⟩:=ls1.app (c':=c1) [((x / 4:Nat):Int),((x % 4:Nat):Int)] rfl qO 16 b1 i1 hb1 hi1 hne1 hc0 hi1' qO;have va:∀ j,j<256*c0->v ≠ .slice none 0 0->j ≠ Z0p v:=fun j hj hv=>by have:=(ls.blk hv).1; omega
 have f2:h2.f lb=some (.cells false none [s,v,.map (some mb)]):=(k2 lb qO (va lb lo)).trans f1;have s2:=Z0L (v:=.slice (some ⟨i1,0,none⟩) (rk Q x+1) (rk Q x+1)) (o:=1) (show HeapC.get h2 lb=_ from f2) (by simp) a2.flat.2 a2.flat.1;obtain ⟨H2,hH2⟩:=jN (HeapC.set h2 lb (.cells false none [s,.slice (some ⟨i1,0,none⟩) (rk Q x+1) (rk Q x+1),.map (some mb)]));have s2':stN h2 1 (.pointer (some ⟨lb,1,none⟩)) (.slice (some ⟨i1,0,none⟩) (rk Q x+1) (rk Q x+1))=some H2:=by rw [s2,← hH2]; rfl
 have K2:∀ j,j<256*c->j ≠ lb->(v ≠ .slice none 0 0->j ≠ Z0p v)->H2.f j=h1.f j:=fun j hj hl hv=>by rw [← hH2,Z0c,if_neg hl]; exact k2 j hj hv
 have er:rk Q (x+1)=rk Q x+1:=by rw [rk,if_pos hq]
 have ecr:crn Q (x+1)=crn Q x++[((x / 4:Nat):Int),((x % 4:Nat):Int)]:=by rw [crn,if_pos hq]
 refine ⟨h1,h2,H2,u1, ?_,e2,s2',fun j hj h3 h4=>?_,⟨by rw [← hH2,Z0c,if_pos rfl], ?_, ?_,ne,lo,mo⟩⟩
 · rw [Z02 (cs:=[s,v,.map (some mb)]) ⟨false,none,f1⟩]; rfl
 · rw [K2 j qO h3 (va j hj),← hh1,Z0c,if_neg h4]
 · rw [K2 mb qO (Ne.symm ne) (va mb mo),← hh1,Z0c,if_pos rfl]
 · rw [er,ecr];refine a2.keep fun _=>?_
   rw [blkOf_sl,← hH2,Z0c,if_neg qO]

def inC (Of:List Int) (v:Int) (x:Nat):Bool:=decide (Of.getD x 0=v)
theorem bldL2 (a b:Int):Z9D [.int .i64 0,.int .i64 0] [(0,2,av [a,b])]=some (ints [a,b]):=rfl
theorem link_i (tv s:Value) (n lb mb t c0 cm:Nat) (Of:List Int) (v:Int) (h0:FH) (df:List Nat) (hO:SlI h0 cm tv 1 (4*n) Of) (hlb:256*cm<=lb) (hmb:256*cm<=mb) (hcm:cm<=c0) (ht:t<n) (hn:n<=60) :
 ∀ (r i c:Nat) (H:FH) (w:Value),i+r=4->c0<=c->(∀ j,j<256*c0->j ≠ lb->j ≠ mb->H.f j=h0.f j)->LI c0 c lb mb H s w (inC Of v) (4*t+i) →
 Ans (G (ZbK none) [tv,.int .i64 v,ptrTo lb,.int .i64 t,.int .i64 n,.int .i64 t,.int .i64 i] H c df) fun q=>q.e = .exit 2/\q.vs=[tv,.int .i64 v,ptrTo lb,.int .i64 t,.int .i64 n,.int .i64 t,.int .i64 4]/\q.df=df/\c<=q.c/\(∀ j,j<256*c0->j ≠ lb->j ≠ mb->q.h.f j=h0.f j) /\ ∃ w,LI c0 q.c lb mb q.h s w (inC Of v) (4*t+4):=by
 intro r
 induction r with
 | zero =>
  intro i c H w hi hc hH a;obtain rfl:i=4:=qO;refine Ans.lpN rfl rfl (Z5b ..) ?_;unfold Z4t;have fx:=True.intro;refine Ans.go ?_;clear fx;exact Ans.exitN ⟨rfl,rfl,rfl,(by show c<=c+1; omega),hH,w,a.mono (by show c<=c+1; omega)⟩
 | succ r ih =>
  intro i c H w hi hc hH a;have hi4:i<4:=qO;have sm:Z0l cm h0 H:=fun j hj=>hH j qO qO qO
  have hO':=hO.same sm;have l1:=hO'.rd (4*t+i) qO;have x1:=hO'.ixs1 .i64 (4*(t:Int)+i) qO qO;rw [show (4*(t:Int)+i).toNat=4*t+i by omega] at x1;have hq:inC Of v (4*t+i)=decide (Of.getD (4*t+i) 0=v):=rfl;have l2:ld1 H (.pointer (some ⟨lb,2,none⟩))=some (.map (some mb)):=by rw [Z02 (cs:=[s,w,.map (some mb)]) ⟨false,none,a.hf⟩]; rfl
  have l3:ld1 H (.pointer (some ⟨lb,1,none⟩))=some w:=by rw [Z02 (cs:=[s,w,.map (some mb)]) ⟨false,none,a.hf⟩]; rfl
  have ll:=a.ls.sl.len;obtain ⟨Z,hZ⟩:=jN (Of.getD (4*t+i) 0);rw [hZ] at l1 hq;have tn:t<60:=qO;have hrk:=Z9w (inC Of v) (4*t+i);refine Ans.lpN rfl rfl (Z5b ..) ?_;unfold Z4t
  by_cases e:Z=v
  · rw [decide_eq_true e] at hq;obtain ⟨h1,h2,H2,e1,e2,e3,e4,e5,e6⟩:=a.step hq qO hc (c+1+1+1+1+1) (256*(c+1+1+1+1)+8) (256*(c+1+1+1+1)+9) qO qO qO qO;rw [show (4*t+i) / 4=t by omega,show (4*t+i) % 4=i by omega] at e1 e3;have b1:=Zqv t i;have b2:=bldL2 t i;have hk:=ih (i+1) (c+1+1+1+1+1+1) H2 _ qO qO (fun j hj h3 h4=>(e5 j hj h3 h4).trans (hH j hj h3 h4)) (e6.mono qO);obtain ⟨K,hK⟩:=jN (rk (inC Of v) (4*t+i));rw [hK] at ll e1 e3 e4 hrk;have fx:=ai x1 (ai l1 (ai l2 (ai b1 (ai l3 (ai ll (ai e1 (ai e2 (ai b2 (ai e3 e4)))))))));refine Ans.go ?_;clear fx;refine Ans.nextN ?_;refine hk.mono ?_
    rintro q ⟨q1,q2,q3,q4,q5⟩
    exact ⟨q1,q2,q3,qO,q5⟩
  · rw [decide_eq_false e] at hq;have hk:=ih (i+1) (c+1+1+1+1) H w qO qO hH ((a.skip hq).mono qO);have fx:=ai x1 l1;refine Ans.go ?_;clear fx;refine Ans.nextN ?_;refine hk.mono ?_
    rintro q ⟨q1,q2,q3,q4,q5⟩
    exact ⟨q1,q2,q3,qO,q5⟩
theorem link_t (tv s:Value) (n lb mb c0 cm:Nat) (Of:List Int) (v:Int) (h0:FH) (df:List Nat) (hO:SlI h0 cm tv 1 (4*n) Of) (hlb:256*cm<=lb) (hmb:256*cm<=mb) (hcm:cm<=c0) (hn:n<=60) :
 ∀ (r t c:Nat) (H:FH) (w:Value),t+r=n->c0<=c->(∀ j,j<256*c0->j ≠ lb->j ≠ mb->H.f j=h0.f j)->LI c0 c lb mb H s w (inC Of v) (4*t) →
 Ans (G (ZbL none) [tv,.int .i64 v,ptrTo lb,.int .i64 n,.int .i64 t] H c df) fun q=>q.e = .exit 0/\q.vs=[tv,.int .i64 v,ptrTo lb,.int .i64 n,.int .i64 n]/\q.df=df/\c<=q.c/\(∀ j,j<256*c0->j ≠ lb->j ≠ mb->q.h.f j=h0.f j) /\ ∃ w,LI c0 q.c lb mb q.h s w (inC Of v) (4*n):=by
 intro r
 induction r with
 | zero =>
  intro t c H w ht hc hH a;obtain rfl:t=n:=qO;refine Ans.lpN rfl rfl (Z5c ..) ?_;unfold Z4u;have fx:=True.intro;refine Ans.go ?_;clear fx;exact Ans.exitN ⟨rfl,rfl,rfl,(by show c<=c+1; omega),hH,w,a.mono (by show c<=c+1; omega)⟩
 | succ r ih =>
  intro t c H w ht hc hH a;obtain ⟨⟨re,rv,K,k,rd⟩,hr,r1,r2,r3,r4,r5,w',r6⟩:=link_i tv s n lb mb t c0 cm Of v h0 df hO hlb hmb hcm qO hn 4 0 (c+1+1+1) H w qO qO hH (a.mono qO);simp only at r1 r2 r3 r4 r5 r6;subst r1 r2 r3;simp only [qC,qF] at hr;have hk:=ih (t+1) (k+1) K w' qO qO r5 (r6.mono qO);have tn:n<=60:=hn;refine Ans.lpN rfl rfl (Z5c ..) ?_;unfold Z4u;have fx:=hr;refine Ans.go ?_;clear fx;refine Ans.nextN ?_;refine hk.mono ?_
  rintro q ⟨q1,q2,q3,q4,q5⟩
  exact ⟨q1,q2,q3,qO,q5⟩
theorem Zpk (cb:Nat) (cs:List Value) (tv s:Value) (n:Nat) (Gl Of:List Int) (v:Int) (h:FH) (c:Nat) (df:List Nat) (hc:Z0d h cb (s::cs)) (lc:cb<256*c) (hs:SlI h c s 20 n Gl) (hO:SlI h c tv 1 (4*n) Of) (hn:n<=60) :
 Ans (G (.fn 60) [ptrTo cb,tv,.int .i64 v] h c df) fun r=>∃ lb mb w,r=⟨.ret,[ptrTo lb],r.h,r.c,[]⟩/\c+1+1<=r.c/\Z0l c h r.h/\LI (c+1+1) r.c lb mb r.h s w (inC Of v) (4*n)/\256*c<=lb/\256*c<=mb:=by
 refine Ans.call' (fun r e=>f60_go e) ?_;unfold ZjL;have l0:=Z0N hc;obtain ⟨mb,hmb⟩:=jN (256*(c+1)+4);obtain ⟨lb,hlb⟩:=jN (256*(c+1)+6);have u5:Z1K [.slice none 0 0,.slice none 0 0,.map none] [(0,1,.agg #[s]),(1,1,.slice none 0 0),(2,1,.map (some mb))]=some (.agg #[s,.slice none 0 0,.map (some mb)]):=rfl;have u7:(Value.agg #[s,.slice none 0 0,.map (some mb)]).cells.toList=[s,.slice none 0 0,.map (some mb)]:=rfl;have u6:((Value.agg #[s,.slice none 0 0,.map (some mb)]).cells.toList.all Z08)=true:=by
  rw [u7];simp only [List.all_cons,List.all_nil,hs.flat,Bool.true_and,Bool.and_true];rfl
 obtain ⟨M,hM⟩:=jN (newB (HeapC.set h mb (.map [])) lb [s,.slice none 0 0,.map (some mb)]);have tM:∀ j,j ≠ lb->j ≠ mb->M.f j=h.f j:=fun j h1 h2=>by rw [← hM,Z01,if_neg h1,Z0c,if_neg h2]
 have sM:Z0l c h M:=fun j hj=>tM j qO qO
 have lM:ld1 M (.pointer (some ⟨cb,0,none⟩))=some s:=by rw [Z02 (hc.same lc sM)]; rfl
 have ln:=hs.len;have a:LI (c+1+1) (c+1+1) lb mb M s (.slice none 0 0) (inC Of v) 0:=⟨by rw [← hM,Z01,if_pos rfl],by rw [← hM,Z01,if_neg qO,Z0c,if_pos rfl]; rfl,.inl ⟨rfl,rfl,rfl⟩,qO,qO,qO⟩;obtain ⟨⟨re,rv,K,k,rd⟩,hr,r1,r2,r3,r4,r5,w,r6⟩:=link_t tv s n lb mb (c+1+1) c Of v M [] (hO.same sM) qO qO qO hn n 0 (c+1+1+1) M (.slice none 0 0) qO qO (fun _ _ _ _=>rfl) (a.mono qO);simp only at r1 r2 r3 r4 r5 r6;subst r1 r2 r3;simp only [qC,qF] at hr;have fx:=ai l0 (ai hmb (ai hlb u5));refine Ans.go ?_;clear fx;rw [u6,u7,hmb,hlb,hM];simp only [cond_true];have fx:=ai lM (ai ln hr);refine Ans.go ?_;clear fx;refine .done ⟨lb,mb,w,rfl,(by show c+1+1<=k+1; omega),fun j hj=>?_,r6.mono (by show k<=k+1; omega),qO,qO⟩;show K.f j=h.f j;rw [r5 j qO qO qO];exact sM j hj

def nxV (Gl:List Int) (Q:Nat->Bool) (t i f:Nat):Int:=if f=i ∨ Z0D (Z04 Gl t f)<0 then -1 else if Q (fV Gl t f i)=true then (rk Q (fV Gl t f i):Int) else 0
def nxP (g:Nat->Int) (f:Nat):List Int:=[if 0<f then g 0 else -1,if 1<f then g 1 else -1,if 2<f then g 2 else -1,if 3<f then g 3 else -1]
theorem Zpe (g:Nat->Int) {f:Nat} (hf:f<4):(nxP g f).set f (g f)=nxP g (f+1):=by
 have:f=0 ∨ f=1 ∨ f=2 ∨ f=3:=qO;rcases this with rfl | rfl | rfl | rfl <;> simp [nxP]
theorem Zl6 (g:Nat->Int) {f:Nat} (hf:f<4) (h:g f = -1):nxP g f=nxP g (f+1):=by
 have:f=0 ∨ f=1 ∨ f=2 ∨ f=3:=qO;rcases this with rfl | rfl | rfl | rfl <;> simp [nxP,h]
def nxL (Gl:List Int) (Q:Nat->Bool) (t i:Nat):List Int:=nxP (nxV Gl Q t i) 4
structure LR (h:FH) (c lb mb:Nat) (s:Value) (n:Nat) (Gl:List Int) (Q:Nat->Bool):Prop where
 st:∃ w,Z0d h lb [s,w,.map (some mb)]/\SlI h c w 2 (rk Q (4*n)) (crn Q (4*n))
 mp:h.f mb=some (.map (Zer Q (4*n)))
 sl:SlI h c s 20 n Gl
 lb:lb<256*c
 mb:mb<256*c
 ok:Z0w Gl n=true
 le:n<=60
theorem LR.same {h h':FH} {c c' lb mb:Nat} {s:Value} {n:Nat} {Gl:List Int} {Q:Nat->Bool} (a:LR h c lb mb s n Gl Q) (hs:Z0l c h h') (hc:c<=c'):LR h' c' lb mb s n Gl Q:=by
 obtain ⟨w,g,q⟩:=a.st;have h1:=a.lb;have h2:=a.mb;exact ⟨⟨w,g.same h1 hs,(q.same hs).mono hc⟩,(hs mb h2).trans a.mp,(a.sl.same hs).mono hc,qO,qO,a.ok,a.le⟩
theorem Zj4 (lb mb kb x4b ob t i c:Nat) (s:Value) (n:Nat) (Gl:List Int) (Q:Nat->Bool) (cm:Nat) (h0:FH) (df:List Nat) (a:LR h0 cm lb mb s n Gl Q) (hcm:cm<=c) (ht:t<n) (hi:i<4) (gk:Z0d h0 kb [.int .i64 t,.int .i64 i]) (ok:kb ≠ ob) (om:256*cm<=ob) (lk:kb<256*c) (l4:x4b<256*c) (lo:ob<256*c) :
 ∀ (r f:Nat),f+r=4->Ans (G (ZbJ none) [ptrTo lb,ptrTo kb,ptrTo x4b,ptrTo ob,av (Z0K Gl t),.int .i64 f] (newB h0 ob (ints (nxP (nxV Gl Q t i) f))) c df) fun q=>q=⟨.exit 0,[ptrTo lb,ptrTo kb,ptrTo x4b,ptrTo ob,av (Z0K Gl t),.int .i64 4],newB h0 ob (ints (nxL Gl Q t i)),c,df⟩:=by
 intro r;have hG:Gl.length=n*20:=a.sl.1;have hrl:=Z0E hG ht;have hlb:=a.lb;have hmb:=a.mb;have ll:lb<256*c:=qO;have orow:OkV c (av (Z0K Gl t)):=OkV.av _ _
 induction r with
 | zero =>
  intro f hf;obtain rfl:f=4:=qO;refine Ans.lpG rfl rfl (Z2U ..) ?_;unfold Z3q;have fx:=True.intro;refine Ans.go ?_;clear fx
  (have fx:=ai ll (ai lk (ai l4 (ai lo orow))); refine Ans.ex0 ?_; clear fx)
  rfl
 | succ r ih =>
  intro f hf;have hf4:f<4:=qO;have hk:=ih (f+1) qO;have x1:=Z2p (Z0K Gl t) 4 5 .i64 (f:Int) qO qO hrl;rw [qE,Z23 hf4] at x1;have hfl:=Z0i hG ht hf4;have f4:(f:Int)<4:=qO;obtain ⟨xb,hxb⟩:=jN (256*(c+1)+2);obtain ⟨S,hS⟩:=jN (newB h0 ob (ints (nxP (nxV Gl Q t i) f)));have hst:stN (newB S xb [.int .i64 0,.int .i64 0,.int .i64 0,.int .i64 0,.int .i64 0]) 5 (.pointer (some ⟨xb,0,none⟩)) (av (Z04 Gl t f))=some (newB S xb (ints (Z04 Gl t f))):=stN_all _ _ 5 _ _ hfl rfl;have b0:ld1 (newB S xb (ints (Z04 Gl t f))) (.pointer (some ⟨xb,0,none⟩))=some (.int .i64 (Z0D (Z04 Gl t f))):=by rw [ld1_newB_same,ints_getD _ _ qO]; rfl
  have gk1:Z0d (newB S xb (ints (Z04 Gl t f))) kb [.int .i64 t,.int .i64 i]:=by rw [← hS]; exact (gk.newB_ne ok).newB_ne qO
  have b1:ld1 (newB S xb (ints (Z04 Gl t f))) (.pointer (some ⟨kb,1,none⟩))=some (.int .i64 i):=by rw [Z02 gk1]; rfl
  have sB:Z0l c S (newB S xb (ints (Z04 Gl t f))):=fun j hj=>by rw [Z01,if_neg qO]
  obtain ⟨S1,hS1⟩:=jN (newB S xb (ints (Z04 Gl t f)));rw [hS1] at hst b0 gk1 b1 sB
  by_cases h0':f=i ∨ Z0D (Z04 Gl t f)<0
  · have hv:nxV Gl Q t i f = -1:=if_pos h0';rw [← Zl6 _ hf4 hv,hS] at hk;rw [hS];refine Ans.lpG rfl rfl (Z2U ..) ?_;unfold Z3q;obtain ⟨F,hF⟩:=jN (Z04 Gl t f);rw [hF] at hst b0 x1 h0' hS1
    by_cases h1:f=i
    · subst h1;have fx:=ai x1 (ai hxb (ai hst b1));refine Ans.go ?_;clear fx
      (have fx:=ai ll (ai lk (ai l4 (ai lo (ai orow sB)))); refine Ans.nx0 ?_; clear fx)
      exact hk
    · have h1':¬ (f:Int)=i:=qO;have h2:=h0'.resolve_left h1;have fx:=ai x1 (ai hxb (ai hst (ai b0 (ai b1 (ai h1' h2)))));refine Ans.go ?_;clear fx
      (have fx:=ai ll (ai lk (ai l4 (ai lo (ai orow sB)))); refine Ans.nx0 ?_; clear fx)
      exact hk
  · have hfi:f ≠ i:=fun z=>h0' (.inl z)
    have hg:¬ Z0D (Z04 Gl t f)<0:=fun z=>h0' (.inr z)
    have g:=FGl.of a.ok hG ht hf4 hi (Ne.symm hfi) hg;have hu:=g.u;have hj:=g.j;have hfv:fV Gl t f i=4*fU Gl t f+fJ Gl t f i:=rfl;have hv:nxV Gl Q t i f=if Q (fV Gl t f i)=true then (rk Q (fV Gl t f i):Int) else 0:=if_neg h0'
    have b2:ld1 S1 (.pointer (some ⟨xb,1+i,none⟩))=some (.int .i64 (fJ Gl t f i:Nat)):=by
     have e:(Z04 Gl t f).getD (1+i) 0=(fJ Gl t f i:Nat):=by rw [← g.jz,Z0v,Z2D _ _ _ qO,Z26]
     rw [← hS1,ld1_newB_same,ints_getD _ _ qO,e]
    rw [g.uz] at b0;have b3:ld1 S1 (.pointer (some ⟨lb,2,none⟩))=some (.map (some mb)):=by
     obtain ⟨w,q,_⟩:=a.st;have q':Z0d S1 lb [s,w,.map (some mb)]:=by rw [← hS1,← hS]; exact (q.newB_ne qO).newB_ne qO
     rw [Z02 q']; rfl
    have gm:HeapC.get S1 mb=some (.map (Zer Q (4*n))):=by
     show S1.f mb=_;rw [← hS1,Z01,if_neg qO,← hS,Z01,if_neg qO];exact a.mp
    have lk':=Zja gm (fV Gl t f i);rw [hfv,show (4*fU Gl t f+fJ Gl t f i) / 4=fU Gl t f by omega,show (4*fU Gl t f+fJ Gl t f i) % 4=fJ Gl t f i by omega,← hfv] at lk';have e1:(if fV Gl t f i<4*n/\Q (fV Gl t f i)=true then (rk Q (fV Gl t f i):Int) else 0)=nxV Gl Q t i f:=by
     rw [hv]
     by_cases z:Q (fV Gl t f i)=true
     · rw [if_pos ⟨qO,z⟩,if_pos z]
     · rw [if_neg (fun q=>z q.2),if_neg z]
    rw [e1] at lk';have hw:stN S1 1 (.pointer (some ⟨ob,f,none⟩)) (.int .i64 (nxV Gl Q t i f))=some (HeapC.set S1 ob (.cells false none (ints (nxP (nxV Gl Q t i) (f+1))))):=by
     have fo:HeapC.get S1 ob=some (.cells false none (ints (nxP (nxV Gl Q t i) f))):=by
      show S1.f ob=_;rw [← hS1,Z01,if_neg qO,← hS,Z01,if_pos rfl]
     rw [Z0L fo (by simp [nxP]; omega) rfl rfl,Z1r,Zpe _ hf4]
    have bp:=Zqv (fU Gl t f:Nat) (fJ Gl t f i:Nat);obtain ⟨S2,hS2⟩:=jN (newB h0 ob (ints (nxP (nxV Gl Q t i) (f+1))));rw [hS2] at hk;have up:Z0G c S S2:=by rw [← hS,← hS2]; exact Z0G.both (Z0Q.ints _ _) (Z0G.refl _ _) lo
    have sB2:Z0l c S2 (HeapC.set S1 ob (.cells false none (ints (nxP (nxV Gl Q t i) (f+1))))):=fun j hj=>by
     rw [Z0c,← hS2,Z01,← hS1,Z01,if_neg (show ¬ j=xb by omega),← hS,Z01]
     split <;> rfl
    obtain ⟨S3,hS3⟩:=jN (HeapC.set S1 ob (.cells false none (ints (nxP (nxV Gl Q t i) (f+1)))));rw [hS3] at hw sB2;obtain ⟨Z,hZ⟩:=jN (nxV Gl Q t i f);rw [hZ] at lk' hw;obtain ⟨u,hu'⟩:=jN (fU Gl t f);obtain ⟨p,hp'⟩:=jN (fJ Gl t f i);rw [hu'] at b0 bp lk' hu;rw [hp'] at b2 bp lk' hj;obtain ⟨F,hF⟩:=jN (Z04 Gl t f);rw [hF] at hst x1 hS1;have h1':¬ (f:Int)=i:=qO;rw [hS];refine Ans.lpG rfl rfl (Z2U ..) ?_;unfold Z3q;have fx:=ai x1 (ai hxb (ai hst (ai b0 (ai b1 (ai b2 (ai b3 (ai h1' (ai bp (ai lk' hw)))))))));refine Ans.go ?_;clear fx
    (have fx:=ai ll (ai lk (ai l4 (ai lo (ai orow sB2)))); refine Ans.nxB (B:=S2) ?_ ?_; exact (up); clear fx)
    exact hk
theorem Zpf (lb mb t i:Nat) (s:Value) (n:Nat) (Gl:List Int) (Q:Nat->Bool) (h:FH) (c:Nat) (df:List Nat) (a:LR h c lb mb s n Gl Q) (ht:t<n) (hi:i<4) :
 G (.fn 61) [ptrTo lb,av [(t:Int),(i:Int)]] h c df=some ⟨.ret,[av (nxL Gl Q t i)],h,c,[]⟩:=by
 refine Z0t (fun r e=>f61_go e) (by simp) ?_;have u7:(av [(t:Int),(i:Int)]).cells.toList=[.int .i64 t,.int .i64 i]:=rfl;have u6:((av [(t:Int),(i:Int)]).cells.toList.all Z08)=true:=rfl;unfold ZjK;rw [u6,u7];simp only [cond_true,qW];have b4:Z1K [.int .i64 0,.int .i64 0,.int .i64 0,.int .i64 0] [(0,1,.int .i64 (-1)),(1,1,.int .i64 (-1)),(2,1,.int .i64 (-1)),(3,1,.int .i64 (-1))]=some (av [-1,-1,-1,-1]):=rfl;obtain ⟨ob,hob⟩:=jN (256*(c+1)+1);obtain ⟨h0,hh0⟩:=jN (newB (newB h (256*c) [.int .i64 t,.int .i64 i]) (256*c+1) [.int .i64 0,.int .i64 0,.int .i64 0,.int .i64 0]);have s0:Z0l c h h0:=fun j hj=>by rw [← hh0,Z01,if_neg qO,Z01,if_neg qO]
 have gk:Z0d h0 (256*c) [.int .i64 t,.int .i64 i]:=by rw [← hh0]; exact (Z0d.newB_same _ _ _).newB_ne qO
 have a0:=a.same s0 (qG c);have st:stN (newB h0 ob [.int .i64 0,.int .i64 0,.int .i64 0,.int .i64 0]) 4 (.pointer (some ⟨ob,0,none⟩)) (av [-1,-1,-1,-1])=some (newB h0 ob (ints (nxP (nxV Gl Q t i) 0))):=stN_all _ _ 4 _ _ rfl rfl;obtain ⟨S,hS⟩:=jN (newB h0 ob (ints (nxP (nxV Gl Q t i) 0)));have sS:Z0l c h S:=fun j hj=>by rw [← hS,Z01,if_neg qO]; exact s0 j hj
 have aS:=a.same sS (qG c);have lS:ld1 S (.pointer (some ⟨lb,0,none⟩))=some s:=by
  obtain ⟨w,q,_⟩:=aS.st;rw [Z02 q]; rfl
 have kS:ld1 S (.pointer (some ⟨256*c,0,none⟩))=some (.int .i64 t):=by
  have:Z0d S (256*c) [.int .i64 t,.int .i64 i]:=by rw [← hS]; exact gk.newB_ne qO
  rw [Z02 this]; rfl
 have ix:=aS.sl.ixs .i64 t qO qO;rw [qE] at ix;have l1:ldN S 20 (.pointer (some ⟨Z0p s,Z4a s+t*20,none⟩))=some (av (Z0K Gl t)):=by
  rw [aS.sl.rdN 20 _ qO qO,Z0K,Nat.mul_comm t 20]
 have hl:=Ans.eq (Zj4 lb mb (256*c) (256*c+1) ob t i (c+1+1+1) s n Gl Q c h0 [] a0 qO ht hi gk qO qO qO qO qO 4 0 qO);rw [hS] at hl;simp only [qC,qF] at hl;obtain ⟨K,hK⟩:=jN (newB h0 ob (ints (nxL Gl Q t i)));rw [hK] at hl;have tK:ldN K 4 (.pointer (some ⟨ob,0,none⟩))=some (av (nxL Gl Q t i)):=by
  rw [← hK,ldN_newB_same _ _ _ _ _ (by simp [nxL,nxP])]; rfl
 have f1:K.f (256*c+1)=some (.cells false none [.int .i64 0,.int .i64 0,.int .i64 0,.int .i64 0]):=by
  rw [← hK,Z01,if_neg qO,← hh0,Z01,if_pos rfl]
 have eK:newB K (256*c+1) [.int .i64 0,.int .i64 0,.int .i64 0,.int .i64 0]=K:=by
  apply FH.ext; intro j;rw [Z01]
  split
  · rename_i e; rw [e,f1]
  · rfl
 have tW:stN K 4 (.pointer (some ⟨256*c+1,0,none⟩)) (av (nxL Gl Q t i))=some (newB K (256*c+1) (ints (nxL Gl Q t i))):=by
  have:=stN_all K (256*c+1) 4 [.int .i64 0,.int .i64 0,.int .i64 0,.int .i64 0] (nxL Gl Q t i) (by simp [nxL,nxP]) rfl;rwa [eK] at this
 have tL:ldN (newB K (256*c+1) (ints (nxL Gl Q t i))) 4 (.pointer (some ⟨256*c+1,0,none⟩))=some (av (nxL Gl Q t i)):=by
  rw [ldN_newB_same _ _ _ _ _ (by simp [nxL,nxP])]; rfl
 have sE:Z0l c h (newB K (256*c+1) (ints (nxL Gl Q t i))):=fun j hj=>by
  rw [Z01,if_neg qO,← hK,Z01,if_neg qO];exact s0 j hj
 repeat' (first | ((with_reducible first | refine Ans.bz ?_ | refine Ans.r1 ?_ | refine Ans.pkT ?_ | refine Ans.pkF ?_); try dsimp only [v_zero,v_succ]) | (with_reducible first | refine Ans.btL ?_ | refine Ans.bfL ?_ | refine Ans.gyT ?_ | refine Ans.gyF ?_ | refine Ans.gyG ?_ | refine Ans.bb ?_ | refine Ans.bc ?_ | refine Ans.ba ?_) | ((with_reducible first | refine Ans.lsT ?_ ?_ | refine Ans.leT ?_ ?_ | refine Ans.grT ?_ ?_ | refine Ans.geT ?_ ?_ | refine Ans.eqT ?_ ?_ | refine Ans.neT ?_ ?_); (focus omega)) | ((with_reducible first | refine Ans.lsF ?_ ?_ | refine Ans.leF ?_ ?_ | refine Ans.grF ?_ ?_ | refine Ans.geF ?_ ?_ | refine Ans.eqF ?_ ?_ | refine Ans.neF ?_ ?_); (focus omega)) | (with_reducible first | refine Ans.lsS (fun _=>?_) (fun _=>?_) | refine Ans.leS (fun _=>?_) (fun _=>?_) | refine Ans.grS (fun _=>?_) (fun _=>?_) | refine Ans.geS (fun _=>?_) (fun _=>?_) | refine Ans.eqS (fun _=>?_) (fun _=>?_) | refine Ans.neS (fun _=>?_) (fun _=>?_)) | ((with_reducible first | refine Ans.addN ?_ ?_ | refine Ans.add ?_ ?_ | refine Ans.sub ?_ ?_ | refine Ans.mul ?_ ?_); (focus omega)) | ((with_reducible first | refine Ans.ct ?_ ?_); (focus (simp (disch:=(first | omega | with_reducible assumption | (simp <;> omega) | fail)) [b4,hob,hh0,st,hS,lS,kS,ix,l1,hl,tK,tW,tL,-ldN_newB_same]; done))) | ((with_reducible first | refine Ans.cf ?_ ?_); (focus (simp (disch:=(first | omega | with_reducible assumption | (simp <;> omega) | fail)) [b4,hob,hh0,st,hS,lS,kS,ix,l1,hl,tK,tW,tL,-ldN_newB_same]; done))) | (refine Ans.step (by simp (disch:=(first | omega | with_reducible assumption | (simp <;> omega) | fail)) [b4,hob,hh0,st,hS,lS,kS,ix,l1,hl,tK,tW,tL,-ldN_newB_same,-List.getD_eq_getElem?_getD] <;> rfl) ?_; try dsimp only [v_zero,v_succ]) | fail)
 exact Ans.pure rfl sE

def sgI (p:List Int) (j:Nat):Nat->Nat->Int->Int
 | 0,_,s=>s
 | r+1,i,s=>sgI p j r (i+1) (if p.getD j 0<p.getD i 0 then -s else s)
def sgO (p:List Int):Nat->Nat->Int->Int
 | 0,_,s=>s
 | r+1,j,s=>sgO p r (j+1) (sgI p j j 0 s)
def sgP (p:List Int):Int:=sgO p 4 0 1
theorem Zcy {p:List Int} {j:Nat}:∀ {r i:Nat} {s:Int},s=1 ∨ s = -1->sgI p j r i s=1 ∨ sgI p j r i s = -1
 | 0,_,_,h=>h
 | r+1,i,s,h=>by
  rw [sgI];refine Zcy ?_
  split <;> omega
theorem ZiG {p:List Int}:∀ {r j:Nat} {s:Int},s=1 ∨ s = -1->sgO p r j s=1 ∨ sgO p r j s = -1
 | 0,_,_,h=>h
 | r+1,j,s,h=>by
  rw [sgO];exact ZiG (Zcy h)
theorem Z7M (p:List Int):sgP p=1 ∨ sgP p = -1:=ZiG (.inl rfl)
theorem Zp0 (p:List Int) (hp:p.length=4) (h:FH) (b c j:Nat) (hb:b<256*c) (hj:j<4) (hg:Z0d h b (ints p)) (df:List Nat) :
 ∀ (r i:Nat) (s:Int),i+r=j->(s=1 ∨ s = -1)->Ans (G (Zb9 none) [ptrTo b,.int .i64 s,.int .i64 j,.int .i64 j,.int .i64 j,.int .i64 i] h c df) fun q=>q=⟨.exit 2,[ptrTo b,.int .i64 (sgI p j r i s),.int .i64 j,.int .i64 j,.int .i64 j,.int .i64 j],h,c,df⟩:=by
 intro r;have l2:ld1 h (.pointer (some ⟨b,j,none⟩))=some (.int .i64 (p.getD j 0)):=by rw [Z02 hg,ints_getD _ _ qO]
 have j4:(j:Int)<4:=qO
 induction r with
 | zero =>
  intro i s hi hs;obtain rfl:i=j:=qO;refine Ans.lpG rfl rfl (Z4Z ..) ?_;unfold Z4j;have fx:=True.intro;refine Ans.go ?_;clear fx
  (have fx:=hb; refine Ans.ex0 ?_; clear fx)
  rfl
 | succ r ih =>
  intro i s hi hs;have l1:ld1 h (.pointer (some ⟨b,i,none⟩))=some (.int .i64 (p.getD i 0)):=by rw [Z02 hg,ints_getD _ _ qO]
  rw [sgI];obtain ⟨x,hx⟩:=jN (p.getD i 0);obtain ⟨y,hy⟩:=jN (p.getD j 0);rw [hx] at l1 ⊢;rw [hy] at l2 ⊢;refine Ans.lpG rfl rfl (Z4Z ..) ?_;unfold Z4j
  by_cases e:y<x
  · rw [if_pos e];have hk:=ih (i+1) (-s) qO qO;have fx:=ai l1 l2;refine Ans.go ?_;clear fx
    (have fx:=hb; refine Ans.nx0 ?_; clear fx)
    exact hk
  · rw [if_neg e];have hk:=ih (i+1) s qO hs;have fx:=ai l1 l2;refine Ans.go ?_;clear fx
    (have fx:=hb; refine Ans.nx0 ?_; clear fx)
    exact hk
theorem ZkL (p:List Int) (hp:p.length=4) (h:FH) (b c:Nat) (hb:b<256*c) (hg:Z0d h b (ints p)) (df:List Nat) :
 ∀ (r j:Nat) (s:Int),j+r=4->(s=1 ∨ s = -1)->Ans (G (Zba none) [ptrTo b,.int .i64 s,.int .i64 j] h c df) fun q=>q=⟨.exit 0,[ptrTo b,.int .i64 (sgO p r j s),.int .i64 4],h,c,df⟩:=by
 intro r
 induction r with
 | zero =>
  intro j s hj hs;obtain rfl:j=4:=qO;refine Ans.lpG rfl rfl (Z50 ..) ?_;unfold Z4k;have fx:=True.intro;refine Ans.go ?_;clear fx
  (have fx:=hb; refine Ans.ex0 ?_; clear fx)
  rfl
 | succ r ih =>
  intro j s hj hs;have hin:=Ans.eq (Zp0 p hp h b (c+1+1+1) j qO qO hg df j 0 s qO hs);simp only [qC,qF] at hin;have hs':=Zcy (p:=p) (j:=j) (r:=j) (i:=0) hs;have hk:=ih (j+1) (sgI p j j 0 s) qO hs';have j4:(j:Int)<4:=qO;rw [sgO];obtain ⟨z,hz⟩:=jN (sgI p j j 0 s);rw [hz] at hin hk ⊢;refine Ans.lpG rfl rfl (Z50 ..) ?_;unfold Z4k;have fx:=hin;refine Ans.go ?_;clear fx
  (have fx:=hb; refine Ans.nx0 ?_; clear fx)
  exact hk
theorem ZoZ (p:List Int) (hp:p.length=4) (h:FH) (c:Nat) (df:List Nat):G (.fn 92) [av p] h c df=some ⟨.ret,[.int .i64 (sgP p)],h,c,[]⟩:=by
 refine Z0t (fun r e=>f92_go e) (by simp) ?_;have u7:(av p).cells.toList=ints p:=Z6b p;unfold Zjx;rw [u7,Z18];simp only [cond_true,qW];have hl:=Ans.eq (ZkL p hp (newB h (256*c) (ints p)) (256*c) (c+1+1+1) qO (Z0d.newB_same _ _ _) [] 4 0 1 qO (.inl rfl));simp only [qC,qF] at hl;have sK:Z0l c h (newB h (256*c) (ints p)):=fun j hj=>by rw [Z01,if_neg qO]
 obtain ⟨K,hK⟩:=jN (newB h (256*c) (ints p));rw [hK] at hl sK ⊢;have fx:=hl;refine Ans.go ?_;clear fx;exact Ans.pure rfl sK
theorem ZkM (p:List Int) (hp:p ∈ p24) (h:FH) (c:Nat) (df:List Nat):G (.fn 91) [av p] h c df=some ⟨.ret,[.int .i64 (sgP p)],h,c,[]⟩:=by
 refine Z0t (fun r e=>f91_go e) (by simp) ?_;have lp:=ZhA hp;have u7:(av p).cells.toList=ints p:=Z6b p;unfold Zjz;rw [u7,Z18];simp only [cond_true,qW];have sK:Z0l c h (newB h (256*c) (ints p)):=fun j hj=>by rw [Z01,if_neg qO]
 have l1:ldN (newB h (256*c) (ints p)) 4 (.pointer (some ⟨256*c,0,none⟩))=some (av p):=by
  rw [ldN_newB_same _ _ _ _ _ (by simp [lp]),qM,Z1e,qH qO]; rfl
 obtain ⟨K,hK⟩:=jN (newB h (256*c) (ints p));rw [hK] at l1 sK ⊢;have hv:=fun c=>Z1P p lp K c
 rw [Ziy hp] at hv;have hs:=fun c=>Z05 (ZoZ p lp K c [])
 have fx:=ai l1 (ai hv hs);refine Ans.go ?_;clear fx;exact Ans.pure rfl sK
theorem Zii (p:List Int) (hp:p ∈ p24) (h:FH) (c:Nat):callF G 91 [av p] h c=some (.int .i64 (sgP p),h,c):=Z05 (ZkM p hp h c [])

def zc:List Int->Nat
 | []=>0
 | x::l=>(if x=0 then 1 else 0)+zc l
theorem Zkv:∀ l:List Int,zc l<=l.length
 | []=>qG _
 | x::l=>by have:=Zkv l; rw [zc,jK]; split <;> omega
theorem Zof:∀ {l:List Int} {k:Nat} {w:Int},k<l.length->l.getD k 0=0->w ≠ 0->zc (l.set k w)+1=zc l
 | [],k,w,h,_,_=>by simp at h
 | x::l,0,w,_,h2,h3=>by
  have hx:x=0:=h2;rw [List.set_cons_zero,zc,zc,if_neg h3,if_pos hx]; omega
 | x::l,k+1,w,h1,h2,h3=>by
  have:=Zof (l:=l) (k:=k) (w:=w) (by simpa using h1) h2 h3;rw [List.set_cons_succ,zc,zc]; omega
def oSt (Gl:List Int) (Q:Nat->Bool) (t i a f:Nat) (S q:List Int):Option (List Int × List Int) :=
 if nxV Gl Q t i f<0 then some (S,q)
 else if S.getD (nxV Gl Q t i f).toNat 0=0 then some (S.set (nxV Gl Q t i f).toNat (-S.getD a 0*sgP (Z0v (Z04 Gl t f))),q++[nxV Gl Q t i f])
 else if S.getD (nxV Gl Q t i f).toNat 0 ≠ -S.getD a 0*sgP (Z0v (Z04 Gl t f)) then none else some (S,q)
def oFs (Gl:List Int) (Q:Nat->Bool) (t i a:Nat):Nat->Nat->List Int->List Int->Option (List Int × List Int)
 | 0,_,S,q=>some (S,q)
 | r+1,f,S,q=>(oSt Gl Q t i a f S q).bind fun z=>oFs Gl Q t i a r (f+1) z.1 z.2
structure OV (K:Nat) (S q:List Int):Prop where
 xl:S.length=K
 v:∀ j,S.getD j 0=0 ∨ S.getD j 0=1 ∨ S.getD j 0 = -1
 qs:∀ x,x ∈ q->0<=x/\x<K/\S.getD x.toNat 0 ≠ 0
theorem Zl9 {a b:Int} (ha:a=1 ∨ a = -1) (hb:b=1 ∨ b = -1):-a*b=1 ∨ -a*b = -1:=by
 rcases ha with rfl | rfl <;> rcases hb with rfl | rfl <;> simp
theorem OV.sign {K:Nat} {S q:List Int} (o:OV K S q) {a:Nat} (h:S.getD a 0 ≠ 0) (p:List Int):-S.getD a 0*sgP p=1 ∨ -S.getD a 0*sgP p = -1:=Zl9 ((o.v a).resolve_left h) (Z7M p)
theorem OV.push {K:Nat} {S q:List Int} (o:OV K S q) {k:Nat} {w:Int} (hk:k<K) (h0:S.getD k 0=0) (hw:w=1 ∨ w = -1):OV K (S.set k w) (q++[(k:Int)])/\zc (S.set k w)+(q++[(k:Int)]).length=zc S+q.length /\ ∀ a,S.getD a 0 ≠ 0->(S.set k w).getD a 0=S.getD a 0:=by
 have hl:=o.xl;have keep:∀ a,S.getD a 0 ≠ 0->(S.set k w).getD a 0=S.getD a 0:=fun a ha=>by
  rw [Z0I,if_neg (fun z=>ha (by rw [← z.1]; exact h0))]
 refine ⟨⟨by rw [jL,hl],fun j=>?_,fun x hx=>?_⟩, ?_,keep⟩
 · rw [Z0I]
   split
   · exact .inr hw
   · exact o.v j
 · rcases List.mem_append.1 hx with h | h
   · obtain ⟨a,b,d⟩:=o.qs x h;exact ⟨a,b,by rw [keep _ d]; exact d⟩
   · rw [jG.1 h,qE,Z0I,if_pos ⟨rfl,qO⟩];exact ⟨qO,qO,qO⟩
 · have:=Zof (l:=S) (k:=k) (w:=w) qO h0 qO;rw [jI];simp only [jK,List.length_nil];omega
theorem Zol {Gl:List Int} {Q:Nat->Bool} {n t i f:Nat} (hok:Z0w Gl n=true) (hG:Gl.length=n*20) (ht:t<n) (hi:i<4) (hf:f<4) (hq:Q (4*t+i)=true):nxV Gl Q t i f = -1 ∨ (0<=nxV Gl Q t i f/\nxV Gl Q t i f<rk Q (4*n)):=by
 unfold nxV
 by_cases h:f=i ∨ Z0D (Z04 Gl t f)<0
 · rw [if_pos h]; exact .inl rfl
 · rw [if_neg h];right;have g:=FGl.of hok hG ht hf hi (fun z=>h (.inl z.symm)) (fun z=>h (.inr z));have hu:=g.u;have hj:=g.j;have hfv:fV Gl t f i=4*fU Gl t f+fJ Gl t f i:=rfl
   split
   · have:=ZkX Q (x:=fV Gl t f i) (m:=4*n) qO (by assumption);omega
   · have:=ZkX Q (x:=4*t+i) (m:=4*n) qO hq;omega
structure OI (c0 c sb cm:Nat) (h0 h:FH) (qv:Value) (S q:List Int):Prop where
 fs:h.f sb=some (.cells false none (ints S))
 ag:Ze1 c0 h c qv q.length (ints q)
 sm:Z0l cm h0 h
 s1:256*cm<=sb
 s2:sb<256*c0
 s3:cm<=c0
theorem OI.mono {c0 c c' sb cm:Nat} {h0 h:FH} {qv:Value} {S q:List Int} (a:OI c0 c sb cm h0 h qv S q) (hc:c<=c'):OI c0 c' sb cm h0 h qv S q:=⟨a.fs,a.ag.mono hc,a.sm,a.s1,a.s2,a.s3⟩
theorem Zpa (lb mb sb xb t i a k c0 cm:Nat) (s y1 y2:Value) (n:Nat) (Gl:List Int) (Q:Nat->Bool) (h0:FH) (df:List Nat) (N:Nat) (l:LR h0 cm lb mb s n Gl Q) (ht:t<n) (hi:i<4) (hq:Q (4*t+i)=true) (hN:N<=100000) :
 ∀ (r f c:Nat) (H:FH) (qv:Value) (S q:List Int),f+r=4->c0<=c->xb<256*c->OI c0 c sb cm h0 H qv S q->OV (rk Q (4*n)) S q->zc S+q.length=N->k<q.length->q.getD k 0=a->S.getD a 0 ≠ 0->Z0d H xb [.int .i64 t,.int .i64 i]->Z0p qv ≠ xb->sb ≠ xb →
 Ans (G (Zbj none) [ptrTo lb,.bool false,.slice (some ⟨sb,0,none⟩) (rk Q (4*n)) (rk Q (4*n)),qv,.int .i64 k,ptrTo xb,y1,y2,av (nxL Gl Q t i),.int .i64 f] H c df) fun x=>c<=x.c/\x.df=df/\Z0l cm h0 x.h ∧
  match oFs Gl Q t i a r f S q with
  | none=>x.e = .ret /\ ∃ qv' f',x.vs=[ptrTo lb,.bool false,.slice (some ⟨sb,0,none⟩) (rk Q (4*n)) (rk Q (4*n)),qv',.int .i64 k,ptrTo xb,y1,y2,av (nxL Gl Q t i),.int .i64 f']
  | some z=>x.e = .exit 4 /\ ∃ qv',x.vs=[ptrTo lb,.bool false,.slice (some ⟨sb,0,none⟩) (rk Q (4*n)) (rk Q (4*n)),qv',.int .i64 k,ptrTo xb,y1,y2,av (nxL Gl Q t i),.int .i64 4]/\OI c0 x.c sb cm h0 x.h qv' z.1 z.2/\OV (rk Q (4*n)) z.1 z.2/\zc z.1+z.2.length=N/\q.length<=z.2.length:=by
 intro r;have hG:Gl.length=n*20:=l.sl.1
 induction r with
 | zero =>
  intro f c H qv S q hf hc hx o v hz hk ha hs gx nb ns;obtain rfl:f=4:=qO;refine Ans.lpN rfl rfl (Z1A ..) ?_;unfold Z1W;have fx:=True.intro;refine Ans.go ?_;clear fx;exact Ans.exitN ⟨by show c<=c+1; omega,rfl,o.sm,rfl,qv,rfl,o.mono (by show c<=c+1; omega),v,hz,qG _⟩
 | succ r ih =>
  intro f c H qv S q hf hc hx o v hz hk ha hs gx nb ns;have hf4:f<4:=qO;have hnl:(nxL Gl Q t i).length=4:=rfl;have hget:(nxL Gl Q t i).getD f 0=nxV Gl Q t i f:=by
   have:f=0 ∨ f=1 ∨ f=2 ∨ f=3:=qO;rcases this with rfl | rfl | rfl | rfl <;> rfl
  have x1:ixV 4 false 1 (av (nxL Gl Q t i)) (.int .i64 f)=some (.int .i64 (nxV Gl Q t i f)):=by
   have:f=0 ∨ f=1 ∨ f=2 ∨ f=3:=qO;rcases this with rfl | rfl | rfl | rfl <;> rfl
  have hnx:=Zol l.ok hG ht hi hf4 hq;have f4:(f:Int)<4:=qO;have lH:=l.same o.sm (qG _);have lS:=lH.sl;have zl:=Zkv S;have qb:q.length<=N:=qO;have sl:=o.ag.sl;have lqa:=sl.rd k qO;rw [ha] at lqa;have ixq:=sl.ixs1 .i64 k qO qO;rw [qE] at ixq;have haK:a<rk Q (4*n):=by
   have:=v.qs (a:Int) (by
    rw [← ha,qB,qI hk];exact List.getElem_mem hk)
   omega
  have rdS:∀ j,j<rk Q (4*n)->ld1 H (.pointer (some ⟨sb,j,none⟩))=some (.int .i64 (S.getD j 0)):=fun j hj=>by
   rw [Z02 ⟨false,none,o.fs⟩,ints_getD _ _ (by rw [v.xl]; exact hj)]
  have ra:=rdS a haK;rw [oFs,oSt]
  by_cases hneg:nxV Gl Q t i f<0
  · rw [if_pos hneg];have hk':=ih (f+1) (c+1+1+1+1) H qv S q qO qO qO (o.mono qO) v hz hk ha hs gx nb ns;obtain ⟨y,hy⟩:=jN (nxV Gl Q t i f);rw [hy] at x1 hneg;refine Ans.lpN rfl rfl (Z1A ..) ?_;unfold Z1W;have fx:=ai x1 hneg;refine Ans.go ?_;clear fx;refine Ans.nextN (hk'.mono fun x hx'=>⟨by have:=hx'.1; omega,hx'.2⟩)
  · rw [if_neg hneg];have hb:=hnx.resolve_left qO;have hfi:¬ (f=i ∨ Z0D (Z04 Gl t f)<0):=fun z=>hneg (by unfold nxV; rw [if_pos z]; decide)
    have hg:¬ Z0D (Z04 Gl t f)<0:=fun z=>hfi (.inr z)
    obtain ⟨hp24,-,-⟩:=(⟨Zeq (Z1g (Z0i hG ht hf4)) (Z1S (Z33 l.ok ht hf4) hg).2.1,trivial,trivial⟩:Z0v (Z04 Gl t f) ∈ p24/\True/\True);have hw:=v.sign hs (Z0v (Z04 Gl t f));have hsa:=(v.v a).resolve_left hs;have hsg:=Z7M (Z0v (Z04 Gl t f));have g0:ld1 H (.pointer (some ⟨lb,0,none⟩))=some s:=by
     obtain ⟨w,q,_⟩:=lH.st;rw [Z02 q]; rfl
    have g1:ld1 H (.pointer (some ⟨xb,0,none⟩))=some (.int .i64 t):=by rw [Z02 gx]; rfl
    have ix:=lS.ixs .i64 t qO qO;rw [qE] at ix;have lp:ldN H 4 (.pointer (some ⟨Z0p s,Z4a s+t*20+f*5+1,none⟩))=some (av (Z0v (Z04 Gl t f))):=by
     rw [Nat.add_assoc (Z4a s),Nat.add_assoc (Z4a s),lS.rdN 4 _ qO qO];unfold Z0v Z04;rw [List.drop_take,List.drop_drop,List.take_take,show min 4 (5-1)=4 by omega,show 20*t+5*f+1=t*20+f*5+1 by omega]
    have cs:=Zii _ hp24 H;obtain ⟨d,hd⟩:∃ d:Nat,nxV Gl Q t i f=d:=⟨(nxV Gl Q t i f).toNat,qO⟩;rw [hd] at x1 hneg hb ⊢;rw [qE];have hdK:d<rk Q (4*n):=qO;have rd':=rdS d hdK;have fgo:∀ (w:Int),stN H 1 (.pointer (some ⟨sb,d,none⟩)) (.int .i64 w)=some (HeapC.set H sb (.cells false none (ints (S.set d w)))):=fun w=>by
     rw [Z0L (show HeapC.get H sb=_ from o.fs) (by simp [v.xl]; exact hdK) rfl rfl,Z1r]
    have prange:rk Q (4*n)<=240:=by have:=Z9w Q (4*n); have:=l.le; omega
    by_cases h0':S.getD d 0=0
    · rw [if_pos h0'];obtain ⟨v',z',keep⟩:=v.push hdK h0' hw;obtain ⟨A,hA⟩:=jN (S.getD a 0);obtain ⟨B,hB⟩:=jN (sgP (Z0v (Z04 Gl t f)));have ka:=keep a hs;rw [hA,hB] at v' z' hw ka ⊢;rw [hA] at ra hsa hs;rw [hB] at cs hsg;rw [h0'] at rd';obtain ⟨H1,hH1⟩:=jN (HeapC.set H sb (.cells false none (ints (S.set d (-A*B)))));have w1:=fgo (-A*B);rw [hH1] at w1;have gb:=o.ag.blk;have nsb:Z0p qv ≠ sb:=by have:=o.s2; omega
      have ag1:Ze1 c0 H1 c qv q.length (ints q):=o.ag.keep (by rw [← hH1,Z0c,if_neg nsb]);obtain ⟨h2,e1,e2,e3⟩:=(ag1.mono (c':=c+1+1+1+1+1+1) qO).app (c':=c+1+1+1+1+1+1+1) (.int .i64 d) rfl 8 (256*(c+1+1+1+1+1+1)+2) (256*(c+1+1+1+1+1+1)+3) qO qO qO qO qO qO;have hbl:Z9D [.int .i64 0] [(0,1,.int .i64 d)]=some [.int .i64 d]:=rfl;have o':OI c0 (c+1+1+1+1+1+1+1) sb cm h0 h2 (.slice (some ⟨256*(c+1+1+1+1+1+1)+3,0,none⟩) (q.length+1) (q.length+1)) (S.set d (-A*B)) (q++[(d:Int)]):=by
       have p1:=o.s1;have p2:=o.s2;have p3:=o.s3;refine ⟨?_, ?_,fun j hj=>?_,o.s1,o.s2,o.s3⟩
       · rw [e3 sb qO (Ne.symm nsb),← hH1,Z0c,if_pos rfl]
       · have:(q++[(d:Int)]).length=q.length+1:=by simp
         rw [this,show ints (q++[(d:Int)])=ints q++[Value.int .i64 d] by simp [ints]];exact e2
       · rw [e3 j qO (by have:=gb.1; omega),← hH1,Z0c,if_neg qO];exact o.sm j hj
      have gx2:Z0d h2 xb [.int .i64 t,.int .i64 i]:=by
       obtain ⟨ro,op,z⟩:=gx;refine ⟨ro,op, ?_⟩;show h2.f xb=_;rw [e3 xb qO (Ne.symm nb),← hH1,Z0c,if_neg (Ne.symm ns)];exact z
      have hq':(q++[(d:Int)]).getD k 0=a:=by
       rw [qB,jE hk,← qB];exact ha
      have hk':=ih (f+1) (c+1+1+1+1+1+1+1+1) h2 _ (S.set d (-A*B)) (q++[(d:Int)]) qO qO qO (o'.mono qO) v' qO (by simp; omega) hq' (by rw [ka]; exact hs) gx2 (by rw [blkOf_sl]; omega) ns;have hAB:-A*B=1 ∨ -A*B = -1:=hw;have hm:Z00 P .mul 3 (.int .i64 (-A)) (.int .i64 B)=some (.int .i64 (-A*B)):=by
       rcases hsa with rfl | rfl <;> rcases hsg with rfl | rfl <;> (rw [Z0A]; kernel_rfl)
      obtain ⟨W,hW⟩:=jN (-A*B);rw [hW] at hm w1 hk' hAB;obtain ⟨R,hR⟩:=jN (rk Q (4*n));rw [hR] at hdK haK prange;refine Ans.lpN rfl rfl (Z1A ..) ?_;unfold Z1W;rw [hR] at hk' ⊢;have fx:=ai x1 (ai ixq (ai lqa (ai ra (ai g0 (ai g1 (ai ix (ai lp (ai cs (ai hm (ai rd' (ai hW (ai w1 (ai hbl (ai e1 sameB_self))))))))))))));refine Ans.go ?_;clear fx;refine Ans.nextN (hk'.mono fun x hx'=>⟨by have:=hx'.1; omega,hx'.2.1,hx'.2.2.1, ?_⟩);have hm':=hx'.2.2.2;have hql:(q++[(d:Int)]).length=q.length+1:=by simp
      rw [hql] at hm';rw [hW];show match oFs Gl Q t i a r (f+1) (S.set d W) (q++[(d:Int)]) with
       | none=>_
       | some z=>_
      revert hm'
      cases oFs Gl Q t i a r (f+1) (S.set d W) (q++[(d:Int)]) with
      | none=>exact id
      | some z =>
       rintro ⟨e1,qv',e2,e3,e4,e5,e6⟩
       exact ⟨e1,qv',e2,e3,e4,e5,qO⟩
    · rw [if_neg h0'];have hk':=ih (f+1) (c+1+1+1+1+1+1+1) H qv S q qO qO qO (o.mono qO) v hz hk ha hs gx nb ns;obtain ⟨A,hA⟩:=jN (S.getD a 0);obtain ⟨B,hB⟩:=jN (sgP (Z0v (Z04 Gl t f)));obtain ⟨D,hD⟩:=jN (S.getD d 0);rw [hD] at rd' h0' ⊢;rw [hA,hB] at hw ⊢;rw [hA] at ra hsa;rw [hB] at cs hsg;have hm:Z00 P .mul 3 (.int .i64 (-A)) (.int .i64 B)=some (.int .i64 (-A*B)):=by
       rcases hsa with rfl | rfl <;> rcases hsg with rfl | rfl <;> (rw [Z0A]; kernel_rfl)
      obtain ⟨W,hW⟩:=jN (-A*B);rw [hW] at hm hw;rw [hW];obtain ⟨R,hR⟩:=jN (rk Q (4*n));rw [hR] at hdK haK prange hk' ⊢
      by_cases hDW:D=W
      · subst hDW;rw [if_neg (by simp)];refine Ans.lpN rfl rfl (Z1A ..) ?_;unfold Z1W;have fx:=ai x1 (ai ixq (ai lqa (ai ra (ai g0 (ai g1 (ai ix (ai lp (ai cs (ai hm (ai rd' (ai hW (ai h0' sameB_self))))))))))));refine Ans.go ?_;clear fx;refine Ans.nextN (hk'.mono fun x hx'=>⟨by have:=hx'.1; omega,hx'.2⟩)
      · rw [if_pos hDW];refine Ans.lpN rfl rfl (Z1A ..) ?_;unfold Z1W;have fx:=ai x1 (ai ixq (ai lqa (ai ra (ai g0 (ai g1 (ai ix (ai lp (ai cs (ai hm (ai rd' (ai hW (ai h0' (ai hDW sameB_self)))))))))))));refine Ans.go ?_;clear fx;exact Ans.retN ⟨by dsimp only; omega,rfl,o.sm,rfl,qv,f,rfl⟩

theorem Z7P (Q:Nat->Bool):∀ {m a:Nat},a<rk Q m -> ∃ x,x<m/\Q x=true/\rk Q x=a
 | 0,a,h=>by rw [rk] at h; omega
 | m+1,a,h=>by
  rw [rk] at h
  by_cases e:a<rk Q m
  · obtain ⟨x,h1,h2,h3⟩:=Z7P Q e;exact ⟨x,qO,h2,h3⟩
  · by_cases hq:Q m=true
    · rw [if_pos hq] at h;exact ⟨m,qO,hq,qO⟩
    · rw [if_neg hq] at h; omega
def oT (C:List Int) (a:Nat):Nat:=(C.getD (a*2) 0).toNat
def oC (C:List Int) (a:Nat):Nat:=(C.getD (a*2+1) 0).toNat
theorem Zl5 {Q:Nat->Bool} {x m:Nat} (hq:Q x=true) (hx:x<m):oT (crn Q m) (rk Q x)=x / 4/\oC (crn Q m) (rk Q x)=x % 4:=by
 have h:=Zh5 Q hq hx;have e0:(((crn Q m).drop (rk Q x*2)).take 2).getD 0 0=((x / 4:Nat):Int):=by rw [h]; rfl
 have e1:(((crn Q m).drop (rk Q x*2)).take 2).getD 1 0=((x % 4:Nat):Int):=by rw [h]; rfl
 rw [Z2D _ _ _ qO,Z26] at e0 e1;rw [qW] at e0;unfold oT oC;rw [e0,e1,qE,qE];exact ⟨rfl,rfl⟩
def oQ (Gl:List Int) (Q:Nat->Bool) (C:List Int):Nat->Nat->List Int->List Int->Option (List Int × List Int)
 | 0,_,S,q=>some (S,q)
 | r+1,k,S,q=>if k<q.length then (oFs Gl Q (oT C (q.getD k 0).toNat) (oC C (q.getD k 0).toNat) (q.getD k 0).toNat 4 0 S q).bind fun z=>oQ Gl Q C r (k+1) z.1 z.2 else some (S,q)
theorem or_q (lb mb sb c0 cm:Nat) (s y1 y2:Value) (n:Nat) (Gl:List Int) (Q:Nat->Bool) (h0:FH) (df:List Nat) (N:Nat) (l:LR h0 cm lb mb s n Gl Q) (hN:N<=100000) :
 ∀ (r k c:Nat) (H:FH) (qv:Value) (S q:List Int),N+1<=k+r->c0<=c->OI c0 c sb cm h0 H qv S q->OV (rk Q (4*n)) S q->zc S+q.length=N->k<=q.length →
 Ans (G (Zbk none) [ptrTo lb,.bool false,.slice (some ⟨sb,0,none⟩) (rk Q (4*n)) (rk Q (4*n)),qv,.int .i64 k,y1,y2] H c df) fun x=>c<=x.c/\x.df=df/\Z0l cm h0 x.h ∧
  match oQ Gl Q (crn Q (4*n)) r k S q with
  | none=>x.e = .ret /\ ∃ qv' k',x.vs=[ptrTo lb,.bool false,.slice (some ⟨sb,0,none⟩) (rk Q (4*n)) (rk Q (4*n)),qv',.int .i64 k',y1,y2]
  | some z=>x.e = .exit 2/\(∃ qv' k',x.vs=[ptrTo lb,.bool false,.slice (some ⟨sb,0,none⟩) (rk Q (4*n)) (rk Q (4*n)),qv',.int .i64 k',y1,y2]/\OI c0 x.c sb cm h0 x.h qv' z.1 z.2)/\OV (rk Q (4*n)) z.1 z.2:=by
 intro r
 induction r with
 | zero =>
  intro k c H qv S q hk hc o v hz hk';omega
 | succ r ih =>
  intro k c H qv S q hk hc o v hz hkq;have sl:=o.ag.sl;have lq:=sl.len;have zl:=Zkv S
  by_cases hlt:k<q.length
  · rw [oQ,if_pos hlt];have kl:(k:Int)<q.length:=qO;have lH:=l.same o.sm (qG _);obtain ⟨w,gw,sw⟩:=lH.st;have ixq:=sl.ixs1 .i64 k qO qO;rw [qE] at ixq;have lqa:=sl.rd k qO;obtain ⟨q1,q2,q3⟩:=v.qs (q.getD k 0) (by
     rw [qB,qI hlt];exact List.getElem_mem hlt)
    obtain ⟨a,ha⟩:∃ a:Nat,q.getD k 0=a:=⟨(q.getD k 0).toNat,qO⟩;rw [ha] at q1 q2 q3 lqa;rw [ha,qE];rw [qE] at q3;have haK:a<rk Q (4*n):=qO;obtain ⟨x,hx,hQ,hrk⟩:=Z7P Q haK;obtain ⟨eT,eC⟩:=Zl5 (Q:=Q) hQ hx;have cat:=Zh5 Q hQ hx;rw [hrk] at eT eC cat;rw [eT,eC];obtain ⟨t,ht⟩:=jN (x / 4);obtain ⟨i,hi⟩:=jN (x % 4);have hxt:4*t+i=x:=qO;rw [ht,hi] at cat ⊢;have htn:t<n:=qO;have hi4:i<4:=qO;have lw:ld1 H (.pointer (some ⟨lb,1,none⟩))=some w:=by rw [Z02 gw]; rfl
    have prange:rk Q (4*n)<=240:=by have:=Z9w Q (4*n); have:=l.le; omega
    have ix:=sw.ixs .i64 a qO qO;rw [qE] at ix;have l1:ldN H 2 (.pointer (some ⟨Z0p w,Z4a w+a*2,none⟩))=some (av [(t:Int),(i:Int)]):=by
     rw [sw.rdN 2 _ qO qO,cat]
    obtain ⟨xb,hxb⟩:=jN (256*(c+1)+10);have st:stN (newB H xb [.int .i64 0,.int .i64 0]) 2 (.pointer (some ⟨xb,0,none⟩)) (av [(t:Int),(i:Int)])=some (newB H xb [.int .i64 t,.int .i64 i]):=stN_all _ _ 2 _ _ rfl rfl;obtain ⟨H1,hH1⟩:=jN (newB H xb [.int .i64 (t:Int),.int .i64 (i:Int)]);rw [hH1] at st;have p1:=o.s1;have p2:=o.s2;have p3:=o.s3;have gb:=o.ag.blk;have o1:OI c0 (c+1+1+1) sb cm h0 H1 qv S q:=by
     refine ⟨?_,(o.ag.keep ?_).mono qO,fun j hj=>?_,p1,p2,p3⟩
     · rw [← hH1,Z01,if_neg qO]; exact o.fs
     · rw [← hH1,Z01,if_neg qO]
     · rw [← hH1,Z01,if_neg qO]; exact o.sm j hj
    have gx:Z0d H1 xb [.int .i64 t,.int .i64 i]:=by rw [← hH1]; exact Z0d.newB_same _ _ _
    have l2:ldN H1 2 (.pointer (some ⟨xb,0,none⟩))=some (av [(t:Int),(i:Int)]):=by
     rw [← hH1,ldN_newB_same _ _ _ _ _ (by simp)]; rfl
    have cn:=Z05 (Zpf lb mb t i s n Gl Q H1 (c+1+1+1) [] ((l.same o1.sm (qG _)).same (Z0l.refl _ _) qO) htn hi4);obtain ⟨⟨e',vs',h',c',df'⟩,ex,z1,z2,z3,z4⟩:=Zpa lb mb sb xb t i a k c0 cm s y1 y2 n Gl Q h0 df N l htn hi4 (by rw [hxt]; exact hQ) hN 4 0 (c+1+1+1) H1 qv S q qO qO qO o1 v hz hlt ha q3 gx qO qO;dsimp only at z1 z2 z3 z4;subst z2
    revert z4
    simp only [qC,qF] at ex;obtain ⟨R,hR⟩:=jN (rk Q (4*n));rw [hR] at ex
    cases hof:oFs Gl Q t i a 4 0 S q with
    | none =>
     rintro ⟨rfl,qv',f',rfl⟩
     rw [hR] at ex;rw [hR];refine Ans.lpN rfl rfl (Z2R ..) ?_;unfold Z3b;have fx:=ai lq (ai kl (ai lw (ai ixq (ai lqa (ai ix (ai l1 (ai hxb (ai st (ai l2 (ai cn ex))))))))));refine Ans.go ?_;clear fx;exact Ans.retN ⟨by dsimp only; omega,rfl,z3,rfl,qv',k,rfl⟩
    | some z =>
     rintro ⟨rfl,qv',rfl,o',v',y5,y6⟩
     have hk':=ih (k+1) (c'+1) h' qv' z.1 z.2 qO qO (o'.mono qO) v' y5 qO;rw [hR] at ex hk';rw [hR];refine Ans.lpN rfl rfl (Z2R ..) ?_;unfold Z3b;have fx:=ai lq (ai kl (ai lw (ai ixq (ai lqa (ai ix (ai l1 (ai hxb (ai st (ai l2 (ai cn ex))))))))));refine Ans.go ?_;clear fx;refine Ans.nextN (hk'.mono fun x hx'=>⟨by have:=hx'.1; omega,hx'.2⟩)
  · rw [oQ,if_neg hlt];have kl:¬ (k:Int)<q.length:=qO;refine Ans.lpN rfl rfl (Z2R ..) ?_;unfold Z3b;have fx:=ai lq kl;refine Ans.go ?_;clear fx;exact Ans.exitN ⟨by dsimp only; omega,rfl,o.sm,rfl,⟨qv,k,rfl,o.mono (by dsimp only; omega)⟩,v⟩

def oR (Gl:List Int) (Q:Nat->Bool) (C:List Int):Nat->Nat->List Int->Option (List Int)
 | 0,_,S=>some S
 | r+1,f,S=>if S.getD f 0 ≠ 0 then oR Gl Q C r (f+1) S else (oQ Gl Q C 1000 0 (S.set f 1) [(f:Int)]).bind fun z=>oR Gl Q C r (f+1) z.1
def orB (n:Nat) (Gl:List Int) (Q:Nat->Bool):Bool:=(oR Gl Q (crn Q (4*n)) (rk Q (4*n)) 0 (List.replicate (rk Q (4*n)) 0)).isSome
theorem or_all (lb mb sb cm:Nat) (s:Value) (n:Nat) (Gl:List Int) (Q:Nat->Bool) (h0:FH) (df:List Nat) (l:LR h0 cm lb mb s n Gl Q) (s1:256*cm<=sb) :
 ∀ (r f c:Nat) (H:FH) (S:List Int),f+r=rk Q (4*n)->sb<256*c->cm<=c->H.f sb=some (.cells false none (ints S))->Z0l cm h0 H->OV (rk Q (4*n)) S [] →
 Ans (G (Zbl none) [ptrTo lb,.bool false,.slice (some ⟨sb,0,none⟩) (rk Q (4*n)) (rk Q (4*n)),.int .i64 (rk Q (4*n)),.int .i64 f] H c df) fun x=>c<=x.c/\x.df=df/\Z0l cm h0 x.h ∧
  match oR Gl Q (crn Q (4*n)) r f S with
  | none=>x.e = .ret /\ ∃ f',x.vs=[ptrTo lb,.bool false,.slice (some ⟨sb,0,none⟩) (rk Q (4*n)) (rk Q (4*n)),.int .i64 (rk Q (4*n)),.int .i64 f']
  | some z=>x.e = .exit 0 /\ ∃ f',x.vs=[ptrTo lb,.bool false,.slice (some ⟨sb,0,none⟩) (rk Q (4*n)) (rk Q (4*n)),.int .i64 (rk Q (4*n)),.int .i64 f']:=by
 intro r;have prange:rk Q (4*n)<=240:=by have:=Z9w Q (4*n); have:=l.le; omega
 induction r with
 | zero =>
  intro f c H S hf s2 s3 fs sm v;obtain rfl:rk Q (4*n)=f:=qO;obtain ⟨R,hR⟩:=jN (rk Q (4*n));rw [hR];refine Ans.lpN rfl rfl (Z27 ..) ?_;unfold Z2q;have fx:=True.intro;refine Ans.go ?_;clear fx;exact Ans.exitN ⟨by dsimp only; omega,rfl,sm,rfl,R,rfl⟩
 | succ r ih =>
  intro f c H S hf s2 s3 fs sm v;have lf:(f:Int)<rk Q (4*n):=qO;have hl:=v.xl;have ra:ld1 H (.pointer (some ⟨sb,f,none⟩))=some (.int .i64 (S.getD f 0)):=by
   rw [Z02 ⟨false,none,fs⟩,ints_getD _ _ (by rw [hl]; omega)]
  rw [oR]
  by_cases h0':S.getD f 0=0
  · rw [if_neg (by rw [h0']; simp)];rw [h0'] at ra;obtain ⟨v',z',-⟩:=v.push (k:=f) (w:=1) qO h0' (.inl rfl);have w1:stN H 1 (.pointer (some ⟨sb,f,none⟩)) (.int .i64 1)=some (HeapC.set H sb (.cells false none (ints (S.set f 1)))):=by
     rw [Z0L (show HeapC.get H sb=_ from fs) (by simp; omega) rfl rfl,Z1r]
    obtain ⟨H1,hH1⟩:=jN (HeapC.set H sb (.cells false none (ints (S.set f 1))));rw [hH1] at w1;obtain ⟨qb,hqb⟩:=jN (256*(c+1+1+1+1)+1);have hbl:Z9D [.int .i64 0] [(0,1,.int .i64 f)]=some [.int .i64 f]:=rfl;obtain ⟨H2,hH2⟩:=jN (newB H1 qb [.int .i64 f]);have o:OI c (c+1+1+1+1+1+1) sb cm h0 H2 (.slice (some ⟨qb,0,none⟩) 1 1) (S.set f 1) [(f:Int)]:=by
     refine ⟨?_,⟨rfl,by simp,rfl,qb,none,rfl,qO,qO, ?_,.inl rfl⟩,fun j hj=>?_,s1,s2,s3⟩
     · rw [← hH2,Z01,if_neg qO,← hH1,Z0c,if_pos rfl]
     · rw [← hH2,Z01,if_pos rfl]; rfl
     · rw [← hH2,Z01,if_neg qO,← hH1,Z0c,if_neg qO];exact sm j hj
    have zl:=Zkv (S.set f 1);rw [jL,hl] at zl;obtain ⟨⟨e',vs',h',c',df'⟩,ex,z1,z2,z3,z4⟩:=or_q lb mb sb c cm s (.int .i64 (rk Q (4*n))) (.int .i64 f) n Gl Q h0 df (zc (S.set f 1)+1) l qO 1000 0 (c+1+1+1+1+1+1) H2 _ (S.set f 1) [(f:Int)] qO qO o v' rfl (by simp);dsimp only at z1 z2 z3 z4;subst z2
    revert z4
    simp only [qC,qF,jK,List.length_nil,Nat.zero_add] at ex;obtain ⟨R,hR⟩:=jN (rk Q (4*n));rw [hR] at ex lf hf prange
    cases hof:oQ Gl Q (crn Q (4*n)) 1000 0 (S.set f 1) [(f:Int)] with
    | none =>
     rintro ⟨rfl,qv',k',rfl⟩
     rw [hR] at ex;rw [hR];refine Ans.lpN rfl rfl (Z27 ..) ?_;unfold Z2q;have fx:=ai ra (ai w1 (ai hbl (ai hqb (ai hH2 ex))));refine Ans.go ?_;clear fx;exact Ans.retN ⟨by dsimp only; omega,rfl,z3,rfl,f,rfl⟩
    | some z =>
     rintro ⟨rfl,⟨qv',k',rfl,o'⟩,v2⟩
     have hk':=ih (f+1) (c'+1) h' z.1 qO qO qO o'.fs z3 ⟨v2.xl,v2.v,fun x hx=>by simp at hx⟩;rw [hR] at ex hk';rw [hR];refine Ans.lpN rfl rfl (Z27 ..) ?_;unfold Z2q;have fx:=ai ra (ai w1 (ai hbl (ai hqb (ai hH2 ex))));refine Ans.go ?_;clear fx;refine Ans.nextN (hk'.mono fun x hx'=>⟨by have:=hx'.1; omega,hx'.2⟩)
  · rw [if_pos h0'];have hk':=ih (f+1) (c+1+1+1+1) H S qO qO qO fs sm v;obtain ⟨R,hR⟩:=jN (rk Q (4*n));rw [hR] at hk' lf prange ⊢;refine Ans.lpN rfl rfl (Z27 ..) ?_;unfold Z2q;have fx:=ai ra h0';refine Ans.go ?_;clear fx;refine Ans.nextN (hk'.mono fun x hx'=>⟨by have:=hx'.1; omega,hx'.2⟩)
theorem ZcG (lb mb:Nat) (s:Value) (n:Nat) (Gl:List Int) (Q:Nat->Bool) (h:FH) (c:Nat) (df:List Nat) (l:LR h c lb mb s n Gl Q) :
 G (.fn 86) [ptrTo lb] h c df=some ⟨.ret,[.bool (orB n Gl Q)],h,c,[]⟩:=by
 refine Z0t (fun r e=>f86_go e) (by simp) ?_;have prange:rk Q (4*n)<=240:=by have:=Z9w Q (4*n); have:=l.le; omega
 obtain ⟨w,gw,sw⟩:=l.st;have lq:=sw.len;have lw:ld1 h (.pointer (some ⟨lb,1,none⟩))=some w:=by rw [Z02 gw]; rfl
 obtain ⟨sb,hsb⟩:=jN (256*(c+1)+5);obtain ⟨H,hH⟩:=jN (newB h sb (ints (List.replicate (rk Q (4*n)) 0)));have fs:H.f sb=some (.cells false none (ints (List.replicate (rk Q (4*n)) 0))):=by
  rw [← hH,Z01,if_pos rfl]
 have sm:Z0l c h H:=fun j hj=>by rw [← hH,Z01,if_neg qO]
 have v:OV (rk Q (4*n)) (List.replicate (rk Q (4*n)) 0) []:=⟨by simp,fun j=>.inl (by
  rw [qB,jM]; split <;> rfl),fun x hx=>by simp at hx⟩
 obtain ⟨⟨e',vs',h',c',df'⟩,ex,z1,z2,z3,z4⟩:=or_all lb mb sb c s n Gl Q h [] l qO (rk Q (4*n)) 0 (c+1+1+1) H _ qO qO qO fs sm v;dsimp only at z1 z2 z3 z4;subst z2
 revert z4
 unfold orB;simp only [qC,qF] at ex;obtain ⟨R,hR⟩:=jN (rk Q (4*n));have mk:mkS 1 8 [.int .i64 0] (.int .i64 (R:Int)) (.int .i64 (R:Int))=some (ints (List.replicate R 0),R,R):=Z5L 1 8 _ _ R qO qO;rw [hR] at ex prange lq hH;unfold ZjB
 cases hof:oR Gl Q (crn Q (4*n)) (rk Q (4*n)) 0 (List.replicate (rk Q (4*n)) 0) with
 | none =>
  rintro ⟨rfl,f',rfl⟩
  rw [hR] at ex;have fx:=ai lw (ai lq (ai mk (ai hsb (ai hH ex))));refine Ans.go ?_;clear fx;exact Ans.pure rfl z3
 | some z =>
  rintro ⟨rfl,f',rfl⟩
  rw [hR] at ex;have fx:=ai lw (ai lq (ai mk (ai hsb (ai hH ex))));refine Ans.go ?_;clear fx;exact Ans.pure rfl z3

def mE (L:List Int):List (Value × Value):=L.map fun x=>(.int .i64 x,.bool true)
theorem Zow (x a:Int):aEq P Z1a 3 (.int .i64 x) (.int .i64 a)=some (x == a):=by kernel_rfl
theorem Zjb (x:Int):∀ (L:List Int) (i:Nat),∃ r,Zai P 3 (.int .i64 x) (mE L) i=some r/\(x ∈ L -> ∃ j,r=some (i+j,.bool true)/\L[j]? = some x)/\(x ∉ L->r=none)
 | [],i=>⟨none,rfl,(fun h=>by cases h),fun _=>rfl⟩
 | a::L,i=>by
  obtain ⟨r,h1,h2,h3⟩:=Zjb x L (i+1)
  by_cases e:x=a
  · refine ⟨some (i,.bool true), ?_,fun _=>⟨0,rfl,by rw [e]; rfl⟩,fun h=>absurd (by rw [e]; simp) h⟩;show (aEq P Z1a 3 (.int .i64 x) (.int .i64 a)).bind _=_;rw [Zow];simp [e]
  · refine ⟨r, ?_,fun h=>?_,fun h=>h3 (fun q=>h (by simp [q]))⟩
    · show (aEq P Z1a 3 (.int .i64 x) (.int .i64 a)).bind _=_;rw [Zow];have:(x == a)=false:=by simpa using e
      rw [this];simp only [qD,cond_false];exact h1
    · rcases List.mem_cons.1 h with h | h
      · exact absurd h e
      · obtain ⟨j,q1,q2⟩:=h2 h;exact ⟨j+1,by rw [q1]; congr 2; omega,q2⟩
theorem Zpj:Zpi P 146=some (3,4):=by kernel_rfl
theorem kO3 (x:Int):Z9x P Z1a 3 (.int .i64 x)=true:=by kernel_rfl
theorem sB_int (x:Int):Instr.sameBits 10000 (.int .i64 x) (.int .i64 x)=true:=by simp [Instr.sameBits]
def ZdI (L:List Int) (x:Int):List Int:=if x ∈ L then L else L++[x]
theorem mE_ins {h:FH} {i:Nat} {L:List Int} (hg:HeapC.get h i=some (.map (mE L))) (x:Int):Z0P P h 146 (.map (some i)) (.int .i64 x) (.bool true)=some (HeapC.set h i (.map (mE (ZdI L x)))):=by
 obtain ⟨r,h1,h2,h3⟩:=Zjb x L 0;have hp:plainL (.int .i64 x)=true:=rfl
 by_cases hx:x ∈ L
 · obtain ⟨j,rfl,hj⟩:=h2 hx;rw [Nat.zero_add] at h1;have e1:(mE L)[j]? = some (.int .i64 x,.bool true):=by rw [mE,List.getElem?_map,hj]; rfl
   have e2:(mE L).set j (.int .i64 x,.bool true)=mE L:=by
    apply List.ext_getElem?;intro k;rw [List.getElem?_set]
    split
    · rename_i e; subst e;rw [e1]
      split
      · rfl
      · rename_i q;rw [jF qO] at e1
        cases e1
    · rfl
   rw [ZdI,if_pos hx];simp only [Z0P,Zpj,qD,kO3,hp,qV,cond_true,hg,h1,e1,sB_int,e2]
 · rw [h3 hx] at h1;rw [ZdI,if_neg hx];simp only [Z0P,Zpj,qD,kO3,hp,qV,cond_true,hg,h1];simp [mE]
theorem mE_len {h:FH} {i:Nat} {L:List Int} (hg:HeapC.get h i=some (.map (mE L))):ZdZ P h 146 (.map (some i))=some (.int .i64 L.length):=by
 have hu:P.underlying 146=some (.map 3 4):=Z6R Zpj;simp only [ZdZ,hu,hg];simp [mE,goInt]
theorem mE_ok (c:Nat) (L:List Int):∀ e ∈ mE L,OkV c e.1/\OkV c e.2:=fun e he=>by
 obtain ⟨x,_,rfl⟩:=List.mem_map.1 he;exact ⟨OkV.int _ _ _,OkV.bool _ _⟩
def dSt (Gl D:List Int) (t i j:Nat) (z:List Int × Nat × Nat):List Int × Nat × Nat :=
 if j=i then z else (ZdI z.1 (D.getD (16*t+4*i+j) 0),if Z0D (Z04 Gl t j)<0 then (z.2.1+1,z.2.2) else (z.2.1,z.2.2+1))
def dFs (Gl D:List Int) (t i:Nat):Nat->Nat->List Int × Nat × Nat->List Int × Nat × Nat
 | 0,_,z=>z
 | r+1,j,z=>dFs Gl D t i r (j+1) (dSt Gl D t i j z)
def Zcm (K:Nat) (o:Bool) (A:Nat):List Value:=[.int .i64 K,.int .i64 A,.int .i64 0,.int .i64 0,.bool (decide (A=0)),.bool o]
noncomputable def dH (h0:FH) (ob mb K:Nat) (o:Bool) (z:List Int × Nat × Nat):FH:=HeapC.set (newB h0 ob (Zcm K o z.2.1)) mb (.map (mE z.1))
theorem Zqo (c K:Nat) (o:Bool) (A:Nat):Z0Q c (Zcm K o A):=by
 simp [Zcm]
theorem Zqp {c ob mb K:Nat} {o:Bool} {h0 h1:FH} {z z':List Int × Nat × Nat} (h:Z0G c h0 h1) (lo:ob<256*c) (lm:mb<256*c):Z0G c (dH h0 ob mb K o z) (dH h1 ob mb K o z'):=by
 intro i;have hi1:=h i;unfold dH;rw [Z0c,Z0c,Z01,Z01];refine ⟨fun hi=>?_,fun hi=>?_⟩
 · rw [if_neg qO,if_neg qO,if_neg qO,if_neg qO]; exact hi1.1 hi
 · by_cases e1:i=mb
   · rw [if_pos e1,if_pos e1]; exact .inr (mE_ok _ _)
   · rw [if_neg e1,if_neg e1]
     by_cases e2:i=ob
     · rw [if_pos e2,if_pos e2]; exact .inr (Zqo _ _ _ _)
     · rw [if_neg e2,if_neg e2]; exact hi1.2 hi
theorem Zqm (lb mb pb rb ob xb t i c cm K:Nat) (o:Bool) (s w dv y0:Value) (n:Nat) (Gl D:List Int) (Q:Nat->Bool) (h0:FH) (df:List Nat) (l:LR h0 cm lb pb s n Gl Q) (hD:SlI h0 cm dv 1 (16*n) D) (ow:OkV c w) (oy:OkV c y0) (hcm:cm<=c) (ht:t<n) (hi:i<4) (gx:Z0d h0 xb [.int .i64 t,.int .i64 i])
 (n1:ob ≠ mb) (n2:ob ≠ xb) (n3:mb ≠ xb) (om:256*cm<=ob) (mm:256*cm<=mb) (lr:rb<256*c) (lo:ob<256*c) (lm:mb<256*c) (lx:xb<256*c) :
 ∀ (r j:Nat) (z:List Int × Nat × Nat),j+r=4->z.2.1+z.2.2+r<=100000->K<=100000->Ans (G (ZbH none) [ptrTo lb,dv,ptrTo rb,ptrTo ob,.map (some mb),.int .i64 z.2.2,ptrTo xb,w,.int .i64 K,y0,.int .i64 j] (dH h0 ob mb K o z) c df) fun q =>
  q=⟨.exit 2,[ptrTo lb,dv,ptrTo rb,ptrTo ob,.map (some mb),.int .i64 (dFs Gl D t i r j z).2.2,ptrTo xb,w,.int .i64 K,y0,.int .i64 4],dH h0 ob mb K o (dFs Gl D t i r j z),c,df⟩:=by
 intro r;have hlb:=l.lb;have ll:lb<256*c:=qO;have od:OkV c dv:=(hD.mono hcm).okV;have om':OkV c (.map (some mb)):=OkV.map lm;have hG:Gl.length=n*20:=l.sl.1;have hle:=l.le
 induction r with
 | zero =>
  intro j z hj hz hK;obtain rfl:j=4:=qO;obtain ⟨S,hS⟩:=jN (dH h0 ob mb K o z);rw [dFs,hS];refine Ans.lpG rfl rfl (Z29 ..) ?_;unfold Z2s;have fx:=True.intro;refine Ans.go ?_;clear fx
  (have fx:=ai ll (ai lr (ai lo (ai od (ai om' (ai lx (ai ow oy)))))); refine Ans.ex0 ?_; clear fx)
  rfl
 | succ r ih =>
  intro j z hj hz hK;have hj4:j<4:=qO;have j4:(j:Int)<4:=qO;have hk:=ih (j+1) (dSt Gl D t i j z) qO (by
   unfold dSt
   split
   · omega
   · split <;> (dsimp only; omega)) hK
  rw [dFs];have sm:Z0l cm h0 (dH h0 ob mb K o z):=fun k hk=>by unfold dH; rw [Z0c,if_neg qO,Z01,if_neg qO]
  have gx0:Z0d (dH h0 ob mb K o z) xb [.int .i64 t,.int .i64 i]:=by
   obtain ⟨ro,op,q⟩:=gx;exact ⟨ro,op,by show (dH h0 ob mb K o z).f xb=_; unfold dH; rw [Z0c,if_neg (Ne.symm n3),Z01,if_neg (Ne.symm n2)]; exact q⟩
  have g0:ld1 (dH h0 ob mb K o z) (.pointer (some ⟨xb,0,none⟩))=some (.int .i64 t):=by rw [Z02 gx0]; rfl
  have g1:ld1 (dH h0 ob mb K o z) (.pointer (some ⟨xb,1,none⟩))=some (.int .i64 i):=by rw [Z02 gx0]; rfl
  have gm:HeapC.get (dH h0 ob mb K o z) mb=some (.map (mE z.1)):=by show (dH h0 ob mb K o z).f mb=_; unfold dH; rw [Z0c,if_pos rfl]
  by_cases h0':j=i
  · have e:dSt Gl D t i j z=z:=if_pos h0';rw [e] at hk ⊢;obtain ⟨S,hS⟩:=jN (dH h0 ob mb K o z);rw [hS] at hk g0 g1 ⊢;subst h0';refine Ans.lpG rfl rfl (Z29 ..) ?_;unfold Z2s;have fx:=g1;refine Ans.go ?_;clear fx
    (have fx:=ai ll (ai lr (ai lo (ai od (ai om' (ai lx (ai ow oy)))))); refine Ans.nx0 ?_; clear fx)
    exact hk
  · have h1':¬ (j:Int)=i:=qO;have e:dSt Gl D t i j z=(ZdI z.1 (D.getD (16*t+4*i+j) 0),if Z0D (Z04 Gl t j)<0 then (z.2.1+1,z.2.2) else (z.2.1,z.2.2+1)):=if_neg h0';have dS:=hD.same sm;have x1:=dS.ixs1 .i64 (16*(t:Int)+4*i+j) qO qO;rw [show (16*(t:Int)+4*i+j).toNat=16*t+4*i+j by omega] at x1;have l1:=dS.rd (16*t+4*i+j) qO;have u1:=mE_ins gm (D.getD (16*t+4*i+j) 0);obtain ⟨M,hM⟩:=jN (ZdI z.1 (D.getD (16*t+4*i+j) 0));rw [hM] at u1 e;have hset:HeapC.set (dH h0 ob mb K o z) mb (.map (mE M))=dH h0 ob mb K o (M,z.2):=by
     apply FH.ext; intro k;unfold dH;rw [Z0c,Z0c,Z0c]
     split <;> rfl
    rw [hset] at u1;have sm1:Z0l cm h0 (dH h0 ob mb K o (M,z.2)):=fun k hk=>by unfold dH; rw [Z0c,if_neg qO,Z01,if_neg qO]
    have l1':=l.same sm1 (qG _);have gx1:Z0d (dH h0 ob mb K o (M,z.2)) xb [.int .i64 t,.int .i64 i]:=by
     obtain ⟨ro,op,q⟩:=gx;exact ⟨ro,op,by show (dH h0 ob mb K o _).f xb=_; unfold dH; rw [Z0c,if_neg (Ne.symm n3),Z01,if_neg (Ne.symm n2)]; exact q⟩
    have k0:ld1 (dH h0 ob mb K o (M,z.2)) (.pointer (some ⟨xb,0,none⟩))=some (.int .i64 t):=by rw [Z02 gx1]; rfl
    have k1:ld1 (dH h0 ob mb K o (M,z.2)) (.pointer (some ⟨lb,0,none⟩))=some s:=by
     obtain ⟨w',q,_⟩:=l1'.st;rw [Z02 q]; rfl
    have ix:=l1'.sl.ixs .i64 t qO qO;rw [qE] at ix;have k2:ld1 (dH h0 ob mb K o (M,z.2)) (.pointer (some ⟨Z0p s,Z4a s+t*20+j*5,none⟩))=some (.int .i64 (Z0D (Z04 Gl t j))):=by
     rw [l1'.sl.rd2 (t*20) (j*5) qO];unfold Z0D Z04;rw [Z2D _ _ _ qO,Z26,show 20*t+5*j+0=t*20+j*5 by omega]
    have gob:HeapC.get (dH h0 ob mb K o (M,z.2)) ob=some (.cells false none (Zcm K o z.2.1)):=by
     show (dH h0 ob mb K o (M,z.2)).f ob=_;unfold dH;rw [Z0c,if_neg n1,Z01,if_pos rfl]
    have k3:ld1 (dH h0 ob mb K o (M,z.2)) (.pointer (some ⟨ob,1,none⟩))=some (.int .i64 z.2.1):=by
     rw [Z02 (cs:=Zcm K o z.2.1) ⟨false,none,gob⟩]; rfl
    obtain ⟨X,hX⟩:=jN (D.getD (16*t+4*i+j) 0);rw [hX] at u1 l1;have zb:z.2.1+z.2.2<=100000:=qO
    by_cases hf:Z0D (Z04 Gl t j)<0
    · rw [if_pos hf] at e;rw [e] at hk ⊢;have w1:stN (dH h0 ob mb K o (M,z.2)) 1 (.pointer (some ⟨ob,1,none⟩)) (.int .i64 (z.2.1+1:Nat))=some (HeapC.set (dH h0 ob mb K o (M,z.2)) ob (.cells false none ((Zcm K o z.2.1).set 1 (.int .i64 (z.2.1+1:Nat))))):=Z0L gob (by simp [Zcm]) rfl rfl;obtain ⟨H1,hH1⟩:=jN (HeapC.set (dH h0 ob mb K o (M,z.2)) ob (.cells false none ((Zcm K o z.2.1).set 1 (.int .i64 (z.2.1+1:Nat)))));have g2:HeapC.get H1 ob=some (.cells false none ((Zcm K o z.2.1).set 1 (.int .i64 (z.2.1+1:Nat)))):=by
       show H1.f ob=_;rw [← hH1,Z0c,if_pos rfl]
      have w2:stN H1 1 (.pointer (some ⟨ob,4,none⟩)) (.bool false)=some (dH h0 ob mb K o (M,z.2.1+1,z.2.2)):=by
       rw [Z0L g2 (by simp [Zcm]) rfl rfl];congr 1;apply FH.ext; intro k;rw [Z0c,← hH1,Z0c];unfold dH;rw [Z0c,Z0c,Z01,Z01]
       by_cases e1:k=ob
       · subst e1;rw [if_pos rfl,if_neg n1,if_pos rfl];simp [Zcm]
       · rw [if_neg e1,if_neg e1,if_neg e1,if_neg e1]
      rw [hH1] at w1;have up:Z0G c (dH h0 ob mb K o z) (dH h0 ob mb K o (M,z.2.1+1,z.2.2)):=Zqp (Z0G.refl _ _) lo lm;obtain ⟨S,hS⟩:=jN (dH h0 ob mb K o z);obtain ⟨S1,hS1⟩:=jN (dH h0 ob mb K o (M,z.2));obtain ⟨S2,hS2⟩:=jN (dH h0 ob mb K o (M,z.2.1+1,z.2.2));dsimp only at hk;rw [hS2] at hk w2 up;rw [hS1] at u1 k0 k1 k2 k3 w1;rw [hS] at g0 g1 l1 u1 up ⊢;obtain ⟨A,hA⟩:=jN (z.2.1);obtain ⟨J,hJ⟩:=jN (z.2.2);rw [hA] at k3 w1 zb;rw [hJ] at zb hk ⊢;obtain ⟨F,hF⟩:=jN (Z0D (Z04 Gl t j));rw [hF] at k2 hf;push_cast at w1;refine Ans.lpG rfl rfl (Z29 ..) ?_;unfold Z2s;have fx:=ai g0 (ai g1 (ai h1' (ai x1 (ai l1 (ai u1 (ai k0 (ai k1 (ai ix (ai k2 (ai hf (ai k3 (ai w1 w2))))))))))));refine Ans.go ?_;clear fx
      (have fx:=ai ll (ai lr (ai lo (ai od (ai om' (ai lx (ai ow oy)))))); refine Ans.nxB (B:=S2) ?_ ?_; exact (up); clear fx)
      exact hk
    · rw [if_neg hf] at e;rw [e] at hk ⊢;have up:Z0G c (dH h0 ob mb K o z) (dH h0 ob mb K o (M,z.2.1,z.2.2+1)):=Zqp (Z0G.refl _ _) lo lm;obtain ⟨S,hS⟩:=jN (dH h0 ob mb K o z);have e3:dH h0 ob mb K o (M,z.2.1,z.2.2+1)=dH h0 ob mb K o (M,z.2):=rfl;dsimp only at hk;rw [e3] at hk up;obtain ⟨S1,hS1⟩:=jN (dH h0 ob mb K o (M,z.2));rw [hS1] at u1 k0 k1 k2 k3 hk up;rw [hS] at g0 g1 l1 u1 up ⊢;obtain ⟨J,hJ⟩:=jN (z.2.2);rw [hJ] at zb hk ⊢;obtain ⟨F,hF⟩:=jN (Z0D (Z04 Gl t j));rw [hF] at k2 hf;refine Ans.lpG rfl rfl (Z29 ..) ?_;unfold Z2s;have fx:=ai g0 (ai g1 (ai h1' (ai x1 (ai l1 (ai u1 (ai k0 (ai k1 (ai ix (ai k2 hf)))))))));refine Ans.go ?_;clear fx
      (have fx:=ai ll (ai lr (ai lo (ai od (ai om' (ai lx (ai ow oy)))))); refine Ans.nxB (B:=S1) ?_ ?_; exact (up); clear fx)
      exact hk
end Go.Proofs.Ytdodippbpdechaa
