/- Parts of a proof: L2 L6 K32 K33 L7 AbTrie AbHeap. Conditions: none. -/
import Derived.Test.YtdodippbpdechaaM19
import Derived.Test.YtdodippbpdechaaM15
import Derived.Test.YtdodippbpdechaaM17
import Derived.Test.YtdodippbpdechaaM18
import Derived.Test.YtdodippbpdechaaM0
set_option linter.all false
set_option maxRecDepth 100000
namespace Go.Proofs.Ytdodippbpdechaa
open Go Go.Ab Go.Proofs
structure JX (P:Prs) (m:Nat) (L:List Int):Prop where
 e:L=jn P (Z0G m)
 d:Z3H L m
theorem JX.nil (m:Nat):JX [] m (Z0G m):=⟨rfl,Z4g m⟩
theorem JX.snoc {P:Prs} {m:Nat} {L:List Int} {i j:Nat} (h:JX P m L) (hi:i<m) (hj:j<m):JX (P++[(i,j)]) m (Z1o L i j):=by
 refine ⟨?_,Z3R h.d hi hj⟩
 rw [Z8s,← h.e]; rfl
structure XB (Gl:List Int) (n t f xb pb:Nat) (h0:FH):Prop where
 hx:Z0d h0 xb (ints (Z03 Gl t f))
 ne:xb ≠ pb
 ok:Z0A Gl n=true
 gl:Gl.length=n*20
 ht:t<n
 hf:f<4
section
variable {Gl:List Int} {n t f xb pb:Nat} {h0:FH} (x:XB Gl n t f xb pb h0)
 include x
theorem XB.l0 (cs:List Value):ld1 (newB h0 pb cs) (.pointer (some ⟨xb,0,none⟩))=some (.int .i64 (Z0Q (Z03 Gl t f))):=by
 have hl:=Z0h x.gl x.ht x.hf
 rw [Z05 (x.hx.newB_ne x.ne),ints_getD _ _ qO]; rfl
theorem XB.gb (hg:¬ Z0Q (Z03 Gl t f)<0):GB Gl n t f:=Zct x.ok x.gl x.ht x.hf hg
theorem XB.u (hg:¬ Z0Q (Z03 Gl t f)<0):Z0Q (Z03 Gl t f)=(fU Gl t f:Nat):=by unfold fU; omega
theorem XB.l1 (hg:¬ Z0Q (Z03 Gl t f)<0) (cs:List Value) {i:Nat} (hi:i<4):ld1 (newB h0 pb cs) (.pointer (some ⟨xb,1+i,none⟩))=some (.int .i64 (fJ Gl t f i:Nat)):=by
 have hl:=Z0h x.gl x.ht x.hf
 have k:=(Z2h (Z3Q x.ok x.ht x.hf) hg).2.1
 have hp:=Zao (Z1j hl) k
 have hr:=Z3u hp hi
 have e:(Z0j (Z03 Gl t f)).getD i 0=(Z03 Gl t f).getD (1+i) 0:=by
  unfold Z0j
  rw [Z4W _ _ _ hi,Z3S]
 rw [Z05 (x.hx.newB_ne x.ne),ints_getD _ _ qO,← e]
 unfold fJ
 rw [show (((Z0j (Z03 Gl t f)).getD i 0).toNat:Int)=(Z0j (Z03 Gl t f)).getD i 0 by omega]
end
set_option maxHeartbeats 1000000 in
theorem vx_i (pb n xb t f c:Nat) (Gl:List Int) (x1 x2 x3 x4 x5:Value) (h0:FH) (df:List Nat) (PV:Prs) (hn:n<=1000) (x:XB Gl n t f xb pb h0) (lp:pb<256*c) (lx:xb<256*c)
 (o1:OkV c x1) (o2:OkV c x2) (o3:OkV c x3) (o4:OkV c x4) (o5:OkV c x5) :
 ∀ (r i:Nat) (L:List Int),i+r=4->(Z0Q (Z03 Gl t f)<0->i=0)->JX (PV++if Z0Q (Z03 Gl t f)<0 then [] else upL (vI Gl t f) i) (4*n) L →
 Ans (G (Z9C none) [.slice (some ⟨pb,0,none⟩) (4*n) (4*n),.int .i64 t,.int .i64 f,ptrTo xb,.int .i64 i,x1,x2,x3,x4,x5] (newB h0 pb (ints L)) c df) fun q=>∃ L' v,q=⟨.exit 4,[.slice (some ⟨pb,0,none⟩) (4*n) (4*n),.int .i64 t,.int .i64 f,ptrTo xb,v,x1,x2,x3,x4,x5],newB h0 pb (ints L'),c,df⟩/\JX (PV++vF Gl t f) (4*n) L':=by
 intro r
 have ht:=x.ht
 have hf:=x.hf
 induction r with
 | zero =>
  intro i L hi h0' j
  obtain rfl:i=4:=by omega
  have hg:¬ Z0Q (Z03 Gl t f)<0:=fun z=>by have:=h0' z; omega
  refine Ans.lpG rfl rfl (Z2t ..) ?_
  unfold Z3Z
  obtain ⟨H,hH⟩:∃ H,newB h0 pb (ints L)=H:=⟨_,rfl⟩
  rw [hH]
  have fx:=True.intro
  refine Ans.go ?_
  clear fx
  (have fx:=ai lp (ai lx (ai o1 (ai o2 (ai o3 (ai o4 o5))))); refine Ans.ex0 ?_; clear fx)
  exact ⟨L,.int .i64 4,by rw [hH]; rfl,j⟩
 | succ r ih =>
  intro i L hi h0' j
  have hi4:i<4:=by omega
  have i4:(i:Int)<4:=by omega
  have l0:=x.l0 (ints L)
  by_cases hg:Z0Q (Z03 Gl t f)<0
  · obtain rfl:i=0:=h0' hg
    obtain ⟨F,hF⟩:∃ F,Z0Q (Z03 Gl t f)=F:=⟨_,rfl⟩
    obtain ⟨H,hH⟩:∃ H,newB h0 pb (ints L)=H:=⟨_,rfl⟩
    have j':JX (PV++vF Gl t f) (4*n) L:=by
     rw [if_pos hg] at j
     unfold vF
     rw [if_pos hg]; exact j
    rw [hF] at l0 hg
    rw [hH] at l0 ⊢
    refine Ans.lpG rfl rfl (Z2t ..) ?_
    unfold Z3Z
    have fx:=l0
    refine Ans.go ?_
    clear fx
    (have fx:=ai lp (ai lx (ai o1 (ai o2 (ai o3 (ai o4 o5))))); refine Ans.ex0 ?_; clear fx)
    exact ⟨L,_,by rw [hH],j'⟩
  · have b:=x.gb hg
    have hu:=b.u
    have hj:=b.j i hi4
    rw [x.u hg] at l0
    have l1:=x.l1 hg (ints L) hi4
    rw [if_neg hg] at j
    simp only [if_neg hg] at ih
    by_cases q:i=f
    · have qv:vI Gl t f i=[]:=if_pos q
      have hk:=ih (i+1) L qO (fun z=>absurd z hg) (by rw [upL,qv,List.append_nil]; exact j)
      obtain ⟨u,hu'⟩:∃ u,fU Gl t f=u:=⟨_,rfl⟩
      rw [hu'] at l0
      obtain ⟨S,hS⟩:∃ S,newB h0 pb (ints L)=S:=⟨_,rfl⟩
      rw [hS] at hk l0 ⊢
      have q1:(i:Int)=f:=by omega
      refine Ans.lpG rfl rfl (Z2t ..) ?_
      unfold Z3Z
      have fx:=ai l0 q1
      refine Ans.go ?_
      clear fx
      (have fx:=ai lp (ai lx (ai o1 (ai o2 (ai o3 (ai o4 o5))))); refine Ans.nx0 ?_; clear fx)
      exact hk
    · have qv:vI Gl t f i=[(4*t+i,4*fU Gl t f+fJ Gl t f i)]:=if_neg q
      have g:=Zcr pb (4*n) L j.d (newB h0 pb (ints L)) (c+1+1+1) [] (by rw [Z01,if_pos rfl]) qO qO (4*t+i) (4*fU Gl t f+fJ Gl t f i) qO qO
      rw [ZlP] at g
      have j':=j.snoc (i:=4*t+i) (j:=4*fU Gl t f+fJ Gl t f i) qO qO
      have hk:=ih (i+1) (Z1o L (4*t+i) (4*fU Gl t f+fJ Gl t f i)) qO (fun z=>absurd z hg) (by rw [upL,qv,← List.append_assoc]; exact j')
      have cv:=Z0b g
      have e3:((4*t+i:Nat):Int)=4*(t:Int)+i:=by omega
      have e4:((4*fU Gl t f+fJ Gl t f i:Nat):Int)=4*(fU Gl t f:Int)+(fJ Gl t f i:Nat):=by omega
      rw [e3,e4] at cv
      have q1:¬ (i:Int)=f:=by omega
      have up:Z2n c (newB h0 pb (ints L)) (newB h0 pb (ints (Z1o L (4*t+i) (4*fU Gl t f+fJ Gl t f i)))):=Z2n.both (Z1l.ints _ _) (Z2n.refl _ _) lp
      clear g j' e3 e4
      obtain ⟨S,hS⟩:∃ S,newB h0 pb (ints L)=S:=⟨_,rfl⟩
      obtain ⟨S2,hS2⟩:∃ S,newB h0 pb (ints (Z1o L (4*t+i) (4*fU Gl t f+fJ Gl t f i)))=S:=⟨_,rfl⟩
      rw [hS] at l0 l1 cv up ⊢
      rw [hS2] at cv up hk
      obtain ⟨u,hu'⟩:∃ u,fU Gl t f=u:=⟨_,rfl⟩
      obtain ⟨p,hp'⟩:∃ u,fJ Gl t f i=u:=⟨_,rfl⟩
      rw [hu'] at l0 cv hu
      rw [hp'] at l1 cv hj
      refine Ans.lpG rfl rfl (Z2t ..) ?_
      unfold Z3Z
      have fx:=ai l0 (ai l1 (ai cv q1))
      refine Ans.go ?_
      clear fx
      (have fx:=ai lp (ai lx (ai o1 (ai o2 (ai o3 (ai o4 o5))))); refine Ans.nxB (B:=S2) ?_ ?_; exact (up); clear fx)
      exact hk
set_option maxHeartbeats 1000000 in
theorem vx_f (pb n t c:Nat) (Gl:List Int) (x1 x2 x3:Value) (h0:FH) (df:List Nat) (PV:Prs) (hn:n<=1000) (hok:Z0A Gl n=true) (hG:Gl.length=n*20) (ht:t<n) (lp:pb<256*c)
 (o1:OkV c x1) (o2:OkV c x2) (o3:OkV c x3) :
 ∀ (r f:Nat) (L:List Int),f+r=4->JX (PV++upL (vF Gl t) f) (4*n) L →
 Ans (G (Z9D none) [.slice (some ⟨pb,0,none⟩) (4*n) (4*n),.int .i64 t,x1,x2,x3,av (Z2p Gl t),.int .i64 f] (newB h0 pb (ints L)) c df) fun q=>∃ L',q=⟨.exit 2,[.slice (some ⟨pb,0,none⟩) (4*n) (4*n),.int .i64 t,x1,x2,x3,av (Z2p Gl t),.int .i64 4],newB h0 pb (ints L'),c,df⟩/\JX (PV++vT Gl t) (4*n) L':=by
 intro r
 have hrl:=Z1z hG ht
 have orow:OkV c (av (Z2p Gl t)):=OkV.av _ _
 induction r with
 | zero =>
  intro f L hf j
  obtain rfl:f=4:=by omega
  refine Ans.lpG rfl rfl (Z67 ..) ?_
  unfold Z70
  obtain ⟨H,hH⟩:∃ H,newB h0 pb (ints L)=H:=⟨_,rfl⟩
  rw [hH]
  have fx:=True.intro
  refine Ans.go ?_
  clear fx
  (have fx:=ai lp (ai o1 (ai o2 (ai o3 orow))); refine Ans.ex0 ?_; clear fx)
  exact ⟨L,by rw [hH]; rfl,j⟩
 | succ r ih =>
  intro f L hf j
  have hf4:f<4:=by omega
  have f4:(f:Int)<4:=by omega
  have x1':=Z6D (Z2p Gl t) 4 5 .i64 (f:Int) qO qO hrl
  rw [Int.toNat_natCast,Z5V hf4] at x1'
  have hfl:=Z0h hG ht hf4
  obtain ⟨xb,hxb⟩:∃ b,256*(c+1)+2=b:=⟨_,rfl⟩
  have hne:xb ≠ pb:=by omega
  obtain ⟨h1,hh1⟩:∃ h1,newB h0 xb (ints (Z03 Gl t f))=h1:=⟨_,rfl⟩
  have cm:newB (newB h0 pb (ints L)) xb (ints (Z03 Gl t f))=newB h1 pb (ints L):=by rw [← hh1,ZbC _ _ _ _ _ (Ne.symm hne)]
  have x:XB Gl n t f xb pb h1:=⟨by rw [← hh1]; exact Z0d.newB_same _ _ _,hne,hok,hG,ht,hf4⟩
  have w1:stN (newB (newB h0 pb (ints L)) xb [.int .i64 0,.int .i64 0,.int .i64 0,.int .i64 0,.int .i64 0]) 5 (.pointer (some ⟨xb,0,none⟩)) (av (Z03 Gl t f))=some (newB h1 pb (ints L)):=by
   rw [← cm]; exact stN_all _ _ 5 _ _ hfl rfl
  obtain ⟨q9,hq9,L',v,rfl,j'⟩:=vx_i pb n xb t f (c+1+1+1) Gl x1 x2 x3 (av (Z2p Gl t)) (.int .i64 f) h1 df (PV++upL (vF Gl t) f) hn x qO qO (o1.mono qO) (o2.mono qO) (o3.mono qO) (OkV.av _ _) (OkV.int _ _ _) 4 0 L qO (fun _=>rfl) (by rw [upL,ite_self,List.append_nil]; exact j)
  have hk:=ih (f+1) L' qO (by rw [upL,← List.append_assoc]; exact j')
  simp only [Int.ofNat_eq_natCast,Int.cast_ofNat_Int] at hq9
  have up:Z2n c (newB h0 pb (ints L)) (newB h0 pb (ints L')):=Z2n.both (Z1l.ints _ _) (Z2n.refl _ _) lp
  have sB:Z0q c (newB h0 pb (ints L')) (newB h1 pb (ints L')):=fun j hj=>by rw [Z01,Z01,← hh1,Z01,if_neg (show ¬ j=xb by omega)]
  obtain ⟨S,hS⟩:∃ S,newB h0 pb (ints L)=S:=⟨_,rfl⟩
  obtain ⟨S1,hS1⟩:∃ S,newB h1 pb (ints L)=S:=⟨_,rfl⟩
  obtain ⟨S2,hS2⟩:∃ S,newB h0 pb (ints L')=S:=⟨_,rfl⟩
  obtain ⟨S3,hS3⟩:∃ S,newB h1 pb (ints L')=S:=⟨_,rfl⟩
  rw [hS] at w1 up ⊢
  rw [hS1] at w1 hq9
  rw [hS2] at up sB hk
  rw [hS3] at sB hq9
  obtain ⟨F,hF⟩:∃ F,Z03 Gl t f=F:=⟨_,rfl⟩
  rw [hF] at w1 x1'
  refine Ans.lpG rfl rfl (Z67 ..) ?_
  unfold Z70
  have fx:=ai x1' (ai hxb (ai w1 hq9))
  refine Ans.go ?_
  clear fx
  (have fx:=ai lp (ai o1 (ai o2 (ai o3 (ai orow sB)))); refine Ans.nxB (B:=S2) ?_ ?_; exact (up); clear fx)
  exact hk
def z20:List Value:=[.int .i64 0,.int .i64 0,.int .i64 0,.int .i64 0,.int .i64 0,.int .i64 0,.int .i64 0,.int .i64 0,.int .i64 0,.int .i64 0,.int .i64 0,.int .i64 0,.int .i64 0,.int .i64 0,.int .i64 0,.int .i64 0,.int .i64 0,.int .i64 0,.int .i64 0,.int .i64 0]
theorem z20_eq:[Value.int .i64 0,Value.int .i64 0,Value.int .i64 0,Value.int .i64 0,Value.int .i64 0,Value.int .i64 0,Value.int .i64 0,Value.int .i64 0,Value.int .i64 0,Value.int .i64 0,Value.int .i64 0,Value.int .i64 0,Value.int .i64 0,Value.int .i64 0,Value.int .i64 0,Value.int .i64 0,Value.int .i64 0,Value.int .i64 0,Value.int .i64 0,Value.int .i64 0]=z20:=rfl
theorem Zl3 {h0:FH} {cm pb:Nat} {s:Value} {n t:Nat} {Gl:List Int} (hs:SlI h0 cm s 20 n Gl) (hpb:256*cm<=pb) (ht:t<n) (cs:List Value) :
 ixS 20 s (.int .i64 t)=some (.pointer (some ⟨Z0w s,Z4T s+t*20,none⟩))/\ldN (newB h0 pb cs) 20 (.pointer (some ⟨Z0w s,Z4T s+t*20,none⟩))=some (av (Z2p Gl t)):=by
 have hs':SlI (newB h0 pb cs) cm s 20 n Gl:=hs.same fun j hj=>by rw [Z01,if_neg qO]
 have ix:=hs'.ixs .i64 t qO qO
 rw [Int.toNat_natCast] at ix
 refine ⟨ix, ?_⟩
 rw [hs'.rdN 20 _ qO qO]
 unfold Z2p
 rw [show t*20=20*t by omega]
theorem row_st (H:FH) (b:Nat) {Gl:List Int} {n t:Nat} (hG:Gl.length=n*20) (ht:t<n):stN (newB H b z20) 20 (.pointer (some ⟨b,0,none⟩)) (av (Z2p Gl t))=some (newB H b (ints (Z2p Gl t)))/\ldN (newB H b (ints (Z2p Gl t))) 20 (.pointer (some ⟨b,0,none⟩))=some (av (Z2p Gl t)):=by
 have hl:=Z1z hG ht
 refine ⟨stN_all _ _ 20 _ _ hl rfl, ?_⟩
 rw [ldN_holds (cs:=ints (Z2p Gl t)) (Z0d.newB_same _ _ _) (by rw [ints_length]; omega),av,List.drop_zero,List.take_of_length_le (by rw [ints_length]; omega)]
set_option maxHeartbeats 1000000 in
theorem vx_t (pb n c cm:Nat) (Gl:List Int) (s:Value) (h0:FH) (df:List Nat) (hn:n<=1000) (hok:Z0A Gl n=true) (hs:SlI h0 cm s 20 n Gl) (hcm:cm<=c) (mp:256*cm<=pb) (lp:pb<256*c) :
 ∀ (r t:Nat) (L:List Int),t+r=n->JX (upL (vT Gl) t) (4*n) L →
 Ans (G (Z9E none) [.slice (some ⟨pb,0,none⟩) (4*n) (4*n),s,.int .i64 n,.int .i64 t] (newB h0 pb (ints L)) c df) fun q=>q=⟨.exit 0,[.slice (some ⟨pb,0,none⟩) (4*n) (4*n),s,.int .i64 n,.int .i64 n],newB h0 pb (ints (vCs Gl n)),c,df⟩:=by
 intro r
 have os:OkV c s:=(hs.mono hcm).okV
 have hG:=hs.1
 induction r with
 | zero =>
  intro t L ht j
  obtain rfl:t=n:=by omega
  have e:L=vCs Gl t:=j.e
  refine Ans.lpG rfl rfl (Z68 ..) ?_
  unfold Z71
  obtain ⟨H,hH⟩:∃ H,newB h0 pb (ints L)=H:=⟨_,rfl⟩
  rw [← e,hH]
  have fx:=True.intro
  refine Ans.go ?_
  clear fx
  (have fx:=ai lp os; refine Ans.ex0 ?_; clear fx)
  rfl
 | succ r ih =>
  intro t L ht j
  have htn:t<n:=by omega
  have tl:(t:Int)<n:=by omega
  have tn:(n:Int)<=1000:=by omega
  obtain ⟨ix,l1⟩:=Zl3 hs mp htn (ints L)
  obtain ⟨kb,hkb⟩:∃ b,256*(c+1)+3=b:=⟨_,rfl⟩
  have hne:kb ≠ pb:=by omega
  obtain ⟨w1,w2⟩:=row_st (newB h0 pb (ints L)) kb hG htn
  obtain ⟨h1,hh1⟩:∃ h1,newB h0 kb (ints (Z2p Gl t))=h1:=⟨_,rfl⟩
  have cm':newB (newB h0 pb (ints L)) kb (ints (Z2p Gl t))=newB h1 pb (ints L):=by rw [← hh1,ZbC _ _ _ _ _ (Ne.symm hne)]
  rw [cm'] at w1 w2
  obtain ⟨q9,hq9,L',rfl,j'⟩:=vx_f pb n t (c+1+1+1) Gl s (.int .i64 n) (.int .i64 t) h1 df (upL (vT Gl) t) hn hok hG htn qO (os.mono qO) (OkV.int _ _ _) (OkV.int _ _ _) 4 0 L qO (by rw [upL,List.append_nil]; exact j)
  have hk:=ih (t+1) L' qO (by rw [upL]; exact j')
  simp only [Int.ofNat_eq_natCast,Int.cast_ofNat_Int] at hq9
  have up:Z2n c (newB h0 pb (ints L)) (newB h0 pb (ints L')):=Z2n.both (Z1l.ints _ _) (Z2n.refl _ _) lp
  have sB:Z0q c (newB h0 pb (ints L')) (newB h1 pb (ints L')):=fun j hj=>by rw [Z01,Z01,← hh1,Z01,if_neg (show ¬ j=kb by omega)]
  obtain ⟨S,hS⟩:∃ S,newB h0 pb (ints L)=S:=⟨_,rfl⟩
  obtain ⟨S1,hS1⟩:∃ S,newB h1 pb (ints L)=S:=⟨_,rfl⟩
  obtain ⟨S2,hS2⟩:∃ S,newB h0 pb (ints L')=S:=⟨_,rfl⟩
  obtain ⟨S3,hS3⟩:∃ S,newB h1 pb (ints L')=S:=⟨_,rfl⟩
  rw [hS] at w1 l1 up ⊢
  rw [hS1] at w1 w2 hq9
  rw [hS2] at up sB hk
  rw [hS3] at sB hq9
  obtain ⟨R,hR⟩:∃ R,av (Z2p Gl t)=R:=⟨_,rfl⟩
  rw [hR] at l1 w1 w2 hq9
  refine Ans.lpG rfl rfl (Z68 ..) ?_
  unfold Z71
  rw [z20_eq]
  obtain ⟨Z,hZ⟩:∃ Z,z20=Z:=⟨_,rfl⟩
  rw [hZ] at w1 ⊢
  have fx:=ai ix (ai l1 (ai hkb (ai w1 (ai w2 hq9))))
  refine Ans.go ?_
  clear fx
  (have fx:=ai lp (ai os sB); refine Ans.nxB (B:=S2) ?_ ?_; exact (up); clear fx)
  exact hk
theorem Zbi (s:Value) (n:Nat) (Gl:List Int) (h:FH) (c:Nat) (df:List Nat) (hs:SlI h c s 20 n Gl) (hok:Z0A Gl n=true) (hn:n<=1000) :
 Ans (G (.fn 59) [.agg #[s]] h c df) fun r=>∃ b,r=⟨.ret,[.tuple #[.slice (some ⟨b,0,none⟩) (4*n) (4*n),.int .i64 (Z3J (vCs Gl n) (4*n))]],r.h,r.c,[]⟩/\c<=r.c/\Z0q c h r.h/\256*c<=b/\b<256*r.c/\r.h.f b=some (.cells false none (ints (Zal (vCs Gl n) (4*n)))):=by
 refine Ans.call' (fun r e=>f59_go e) ?_
 have Z4X:((Value.agg #[s]).cells.toList.all Z06)=true:=by simp [Value.cells,hs.flat]
 have Z52:(Value.agg #[s]).cells.toList=[s]:=rfl
 unfold ZmF
 rw [Z4X,Z52]
 simp only [cond_true,Nat.add_zero]
 obtain ⟨g0,hg0⟩:∃ b,256*c=b:=⟨_,rfl⟩
 rw [hg0]
 obtain ⟨M,hM⟩:∃ M,newB h g0 [s]=M:=⟨_,rfl⟩
 rw [hM]
 have Mg:M.f g0=some (.cells false none [s]):=by rw [← hM,Z01,if_pos rfl]
 have sM:Z0q c h M:=fun j hj=>by rw [← hM,Z01,if_neg qO]
 have l0:ld1 M (.pointer (some ⟨g0,0,none⟩))=some s:=by rw [Z05 (cs:=[s]) ⟨false,none,Mg⟩]; rfl
 have len:=hs.len
 have cs:=Z0b (ZeH (4*n) M (c+1+1) [] qO)
 obtain ⟨pb,hpb⟩:∃ b,256*(c+1+1+1)+1=b:=⟨_,rfl⟩
 rw [hpb] at cs
 have l1:ld1 (newB M pb (ints (Z0G (4*n)))) (.pointer (some ⟨g0,0,none⟩))=some s:=by rw [ld1_newB_ne _ _ _ _ _ qO]; exact l0
 have hsM:SlI M (c+1) s 20 n Gl:=(hs.same sM).mono qO
 have lo:=Ans.eq (vx_t pb n (c+1+1+1+1+1+1+1) (c+1) Gl s M [] hn hok hsM qO qO qO n 0 (Z0G (4*n)) qO (JX.nil _))
 have hd:=Zd3 hok hs.1
 have nu:=Z0b (Zck pb (4*n) (vCs Gl n) hd (newB M pb (ints (vCs Gl n))) (c+1+1+1+1+1+1+1+1) [] (by rw [Z01,if_pos rfl]) qO qO)
 simp only [Int.ofNat_eq_natCast,Int.cast_ofNat_Int] at lo
 obtain ⟨ob,hob⟩:∃ b,256*(c+1+1+1+1+1+1+1+1+1)+2=b:=⟨_,rfl⟩
 rw [hob] at nu
 have e4:((4*n:Nat):Int)=4*(n:Int):=by omega
 rw [e4] at cs
 have xv0:∀ a b:Value,Z1m (.tuple #[a,b]) 0=some a:=fun _ _=>rfl
 have xv1:∀ a b:Value,Z1m (.tuple #[a,b]) 1=some b:=fun _ _=>rfl
 obtain ⟨K1,hK1⟩:∃ K,newB M pb (ints (Z0G (4*n)))=K:=⟨_,rfl⟩
 obtain ⟨K2,hK2⟩:∃ K,newB M pb (ints (vCs Gl n))=K:=⟨_,rfl⟩
 rw [hK1] at cs l1 lo
 rw [hK2] at lo nu
 obtain ⟨K3,hK3⟩:∃ K,newB K2 ob (ints (Zal (vCs Gl n) (4*n)))=K:=⟨_,rfl⟩
 rw [hK3] at nu
 obtain ⟨F,hF⟩:∃ F,Z3J (vCs Gl n) (4*n)=F:=⟨_,rfl⟩
 rw [hF] at nu ⊢
 have fx:=ai l0 (ai len (ai cs (ai l1 (ai lo (ai nu (ai xv0 xv1))))))
 refine Ans.go ?_
 clear fx
 refine .done ⟨ob,rfl,by dsimp only; omega,fun j hj=>?_,by omega,by dsimp only; omega, ?_⟩
 · show K3.f j=_
   rw [← hK3,Z01,if_neg qO,← hK2,Z01,if_neg qO]
   exact sM j hj
 · show K3.f ob=_
   rw [← hK3,Z01,if_pos rfl]

theorem ZlI (x d:Nat) (hd:0<d):Z00 P .rem 3 (.int .i64 (x:Int)) (.int .i64 (d:Int))=some (.int .i64 (x % d:Nat)):=by
 rw [aBinOp_rem _ _ _ qO]
 rfl
theorem Zls {h:FH} {b o n:Nat} {op:Option Nat} {L X:List Int} (hf:h.f b=some (.cells false op (ints L))) (hX:X.length=n) (ho:o+n<=L.length):stN h n (.pointer (some ⟨b,o,none⟩)) (av X)=some (HeapC.set h b (.cells false op (ints (L.take o++X++L.drop (o+n))))):=by
 have h1:Nat.ble (o+(ints X).length) (ints L).length=true:=Nat.ble_eq_true_of_le (by simp; omega)
 have hg:HeapC.get h b=some (.cells false op (ints L)):=hf
 have hb:Nat.beq (av X).cells.size n=true:=by rw [ZcV,hX]; exact Nat.beq_refl n
 have hs:Z10 (ints L) o (ints X)=ints (L.take o++X++L.drop (o+n)):=by
  simp only [Z10,ints_length,hX,← Z0W,Z0V,Z12]
 simp only [stN,Z2k,Option.bind_some,hb,cond_true,Z1s,Z1Y,hg,h1,Z0p,Bool.and_self,hs]
def nbL (Q:Nat->Bool) (N m:Nat):List Int:=(List.range N).map fun j=>if j<m/\Q j=true then ((rk Q j:Nat):Int) else 0
theorem Z4V (Q:Nat->Bool) (N m:Nat):(nbL Q N m).length=N:=by simp [nbL]
theorem Z9j (Q:Nat->Bool) {N m j:Nat} (h:j<N):(nbL Q N m).getD j 0=if j<m/\Q j=true then ((rk Q j:Nat):Int) else 0:=by simp [nbL,List.getD_eq_getElem?_getD,h]
theorem Zig (Q:Nat->Bool) (N:Nat):nbL Q N 0=List.replicate N 0:=Z1u (m:=N) (Z4V _ _ _) (by simp) fun j hj=>by
 rw [Z9j Q hj,if_neg qO]
 simp [List.getD_eq_getElem?_getD,hj]
theorem Zih (Q:Nat->Bool) (N m:Nat) (h:¬ Q m=true):nbL Q N (m+1)=nbL Q N m:=Z1u (m:=N) (Z4V _ _ _) (Z4V _ _ _) fun j hj=>by
 rw [Z9j Q hj,Z9j Q hj]
 by_cases e:j<m/\Q j=true
 · rw [if_pos e,if_pos ⟨by omega,e.2⟩]
 · rw [if_neg e,if_neg]
   rintro ⟨z1,z2⟩
   by_cases q:j=m
   · rw [q] at z2; exact h z2
   · exact e ⟨by omega,z2⟩
theorem ZlT (Q:Nat->Bool) {N m:Nat} (hm:m<N) (h:Q m=true):(nbL Q N m).set m (rk Q m:Nat)=nbL Q N (m+1):=Z1u (m:=N) (by rw [List.length_set,Z4V]) (Z4V _ _ _) fun j hj=>by
 rw [Z17,Z9j Q hj,Z9j Q hj,Z4V]
 by_cases q:m=j
 · subst q
   rw [if_pos ⟨rfl,hm⟩,if_pos ⟨by omega,h⟩]
 · rw [if_neg (fun z=>q z.1)]
   by_cases e:j<m/\Q j=true
   · rw [if_pos e,if_pos ⟨by omega,e.2⟩]
   · rw [if_neg e,if_neg (fun z=>e ⟨by omega,z.2⟩)]
def o6 (Q:Nat->Bool):Nat->List Int
 | 0=>[]
 | x+1=>o6 Q x++if Q x=true then [((x / 4:Nat):Int),((x % 4:Nat):Int),0,0,0,0] else []
theorem Zdh (Q:Nat->Bool):∀ m,(o6 Q m).length=rk Q m*6
 | 0=>rfl
 | m+1=>by
  rw [o6,List.length_append,Zdh Q m,rk]
  by_cases h:Q m=true
  · rw [if_pos h,if_pos h]; simp; omega
  · rw [if_neg h,if_neg h]; simp
theorem o6_at (Q:Nat->Bool) {x:Nat} (hq:Q x=true):∀ {m:Nat},x<m->((o6 Q m).drop (rk Q x*6)).take 6=[((x / 4:Nat):Int),((x % 4:Nat):Int),0,0,0,0]
 | 0,h=>by omega
 | m+1,h=>by
  have hl:=Zdh Q m
  rw [o6]
  by_cases e:x=m
  · subst e
    rw [List.drop_append,List.drop_of_length_le qO,List.nil_append,hl,Nat.sub_self,List.drop_zero,if_pos hq]
    rfl
  · have hr:=ZlD Q (m:=m) qO hq
    rw [List.drop_append_of_le_length qO,List.take_append_of_le_length (by rw [List.length_drop]; omega)]
    exact o6_at Q hq qO
set_option maxHeartbeats 1000000 in
theorem lr_num (v:Int) (g0 nb vb c0 m:Nat) (V:List Int) (h0:FH) (df:List Nat) (hv:h0.f vb=some (.cells false none (ints V))) (hV:V.length=m) (hm:m<=1000) (lv:vb<256*c0) (ln:nb<256*c0) (nv:nb ≠ vb) :
 ∀ (r x c:Nat) (ov:Value) (H:FH),x+r=m->c0<=c->H.f nb=some (.cells false none (ints (nbL (inC V v) m x)))->(∀ j,j<256*c0->j ≠ nb->H.f j=h0.f j)->GrC c0 H c ov 6 (rk (inC V v) x) (ints (o6 (inC V v) x)) →
 Ans (G (Z9O none) [.int .i64 v,ptrTo g0,.slice (some ⟨nb,0,none⟩) m m,ov,.slice (some ⟨vb,0,none⟩) m m,.int .i64 m,.int .i64 x] H c df) fun q=>∃ ov',q.e = .exit 0/\q.vs=[.int .i64 v,ptrTo g0,.slice (some ⟨nb,0,none⟩) m m,ov',.slice (some ⟨vb,0,none⟩) m m,.int .i64 m,.int .i64 m]/\q.df=df/\c<=q.c ∧
  q.h.f nb=some (.cells false none (ints (nbL (inC V v) m m)))/\(∀ j,j<256*c0->j ≠ nb->q.h.f j=h0.f j)/\GrC c0 q.h q.c ov' 6 (rk (inC V v) m) (ints (o6 (inC V v) m)):=by
 intro r
 induction r with
 | zero =>
  intro x c ov H hx hc hn hs g
  obtain rfl:x=m:=by omega
  refine Ans.lpN rfl rfl (Z4B ..) ?_
  unfold Z5g
  have fx:=True.intro
  refine Ans.go ?_
  clear fx
  exact Ans.exitN ⟨ov,rfl,rfl,rfl,by dsimp only; omega,hn,hs,g.mono (by dsimp only; omega)⟩
 | succ r ih =>
  intro x c ov H hx hc hn hs g
  have hxm:x<m:=by omega
  have xl:(x:Int)<m:=by omega
  have m9:(m:Int)<=1000:=by omega
  have ix:=Z4m vb m .i64 x hxm
  have Hv:H.f vb=some (.cells false none (ints V)):=by rw [hs vb lv (Ne.symm nv)]; exact hv
  have rd:=Zde Hv (i:=x) qO
  by_cases q:V.getD x 0=v
  · have hq:inC V v x=true:=decide_eq_true q
    have gl:=g.len
    have gb:=g.blk
    have ix2:=Z4m nb m .i64 x hxm
    have wr:=Z7W hn (i:=x) (by rw [Z4V]; omega) (rk (inC V v) x:Nat)
    rw [ZlT _ hxm hq] at wr
    obtain ⟨H1,hH1⟩:∃ H1,newB H nb (ints (nbL (inC V v) m (x+1)))=H1:=⟨_,rfl⟩
    rw [hH1] at wr
    have H1f:∀ j,j ≠ nb->H1.f j=H.f j:=fun j hj=>by rw [← hH1,Z01,if_neg hj]
    have g1:GrC c0 H1 c ov 6 (rk (inC V v) x) (ints (o6 (inC V v) x)):=g.keep fun hv=>H1f _ (by have:=(gb hv).1; omega)
    have qu:=ZlK x 4 qO qO
    have re:=ZlI x 4 qO
    simp only [Int.ofNat_eq_natCast,Int.cast_ofNat_Int] at qu re
    have bt:Z1d [.int .i64 0,.int .i64 0,.int .i64 0,.int .i64 0,.int .i64 0,.int .i64 0] [(0,1,.int .i64 (x / 4:Nat)),(1,1,.int .i64 (x % 4:Nat))]=some (av [((x / 4:Nat):Int),((x % 4:Nat):Int),0,0,0,0]):=rfl
    have bl:=Z53 [.int .i64 0,.int .i64 0,.int .i64 0,.int .i64 0,.int .i64 0,.int .i64 0] [((x / 4:Nat):Int),((x % 4:Nat):Int),0,0,0,0] 6 rfl rfl
    have hr:=Zbx (inC V v) x
    obtain ⟨b,hb⟩:∃ b,256*(c+1+1+1+1)+6=b:=⟨_,rfl⟩
    obtain ⟨id,hid⟩:∃ b,256*(c+1+1+1+1)+7=b:=⟨_,rfl⟩
    obtain ⟨H2,a1,a2,a3⟩:=(g1.mono (show c<=c+1+1+1 by omega)).app (c':=c+1+1+1+1+1) (ints [((x / 4:Nat):Int),((x % 4:Nat):Int),0,0,0,0]) rfl (Z0p _) qO 48 b id qO qO qO qO qO qO
    have er:rk (inC V v) x+1=rk (inC V v) (x+1):=by rw [rk,if_pos hq]
    have eo:o6 (inC V v) x++[((x / 4:Nat):Int),((x % 4:Nat):Int),0,0,0,0]=o6 (inC V v) (x+1):=by rw [o6,if_pos hq]
    rw [Z0W,eo] at a2
    have a2':GrC c0 H2 (c+1+1+1+1+1) (.slice (some ⟨id,0,none⟩) (rk (inC V v) x+1) (rk (inC V v) x+1)) 6 (rk (inC V v) (x+1)) (ints (o6 (inC V v) (x+1))):=er ▸ a2
    have low:∀ j,j<256*c0->H2.f j=H1.f j:=fun j hj=>a3 j qO fun hv=>by have:=(gb hv).1; omega
    have hk:=ih (x+1) (c+1+1+1+1+1+1) _ H2 qO qO (by rw [low nb ln,← hH1,Z01,if_pos rfl]) (fun j j1 j2=>by rw [low j j1,H1f j j2]; exact hs j j1 j2) (a2'.mono qO)
    rw [q] at rd
    obtain ⟨R,hR⟩:∃ R,rk (inC V v) x=R:=⟨_,rfl⟩
    rw [hR] at gl wr a1 hk hr
    obtain ⟨A,hA⟩:∃ A,x / 4=A:=⟨_,rfl⟩
    obtain ⟨B,hB⟩:∃ A,x % 4=A:=⟨_,rfl⟩
    rw [hA] at qu bt bl a1
    rw [hB] at re bt bl a1
    obtain ⟨X,hX⟩:∃ X,av [(A:Int),(B:Int),0,0,0,0]=X:=⟨_,rfl⟩
    rw [hX] at bt bl
    obtain ⟨Y,hY⟩:∃ Y,ints [(A:Int),(B:Int),0,0,0,0]=Y:=⟨_,rfl⟩
    rw [hY] at bl a1
    refine Ans.lpN rfl rfl (Z4B ..) ?_
    unfold Z5g
    have fx:=ai ix (ai rd (ai gl (ai ix2 (ai wr (ai qu (ai re (ai bt (ai bl (ai hb (ai hid a1))))))))))
    refine Ans.go ?_
    clear fx
    refine Ans.nextN (hk.mono ?_)
    rintro q ⟨ov',z1,z2,z3,z4,z5⟩
    exact ⟨ov',z1,z2,z3,by omega,z5⟩
  · have hq:¬ inC V v x=true:=fun z=>q (of_decide_eq_true z)
    have er:rk (inC V v) x=rk (inC V v) (x+1):=by rw [rk,if_neg hq]; rfl
    have eo:o6 (inC V v) x=o6 (inC V v) (x+1):=by rw [o6,if_neg hq,List.append_nil]
    have hk:=ih (x+1) (c+1+1+1+1) ov H qO qO (by rw [Zih _ _ _ hq]; exact hn) hs (by rw [← er,← eo]; exact g.mono qO)
    obtain ⟨W,hW⟩:∃ W,V.getD x 0=W:=⟨_,rfl⟩
    rw [hW] at rd q
    refine Ans.lpN rfl rfl (Z4B ..) ?_
    unfold Z5g
    have fx:=ai ix (ai rd q)
    refine Ans.go ?_
    clear fx
    refine Ans.nextN (hk.mono ?_)
    rintro q ⟨ov',z1,z2,z3,z4,z5⟩
    exact ⟨ov',z1,z2,z3,by omega,z5⟩
theorem Zcq (t i a0 a1 a2 a3 y:Int) (f:Nat) (hf:f<4):([t,i]++[a0,a1,a2,a3]).set (2+f) y=[t,i]++[a0,a1,a2,a3].set f y:=by
 have:f=0 ∨ f=1 ∨ f=2 ∨ f=3:=by omega
 rcases this with rfl | rfl | rfl | rfl <;> rfl
def nyP (g:Nat->Int) (f:Nat):List Int:=[if 0<f then g 0 else 0,if 1<f then g 1 else 0,if 2<f then g 2 else 0,if 3<f then g 3 else 0]
theorem Zcj (g:Nat->Int) {f:Nat} (hf:f<4):(nyP g f).set f (g f)=nyP g (f+1):=by
 have:f=0 ∨ f=1 ∨ f=2 ∨ f=3:=by omega
 rcases this with rfl | rfl | rfl | rfl <;> simp [nyP]
theorem Zib (g:Nat->Int):nyP g 4=nxP g 4:=rfl
theorem set2 (l:List Int) (k:Nat) (a b:Int):(l.set k a).set k b=l.set k b:=by
 apply List.ext_getElem?
 intro i
 rw [List.getElem?_set,List.getElem?_set,List.getElem?_set]
 by_cases h:k=i
 · subst h
   simp
 · simp [h]
set_option maxHeartbeats 1000000 in
theorem ZlW (nb xb g0 c t i k n:Nat) (Gl:List Int) (Q:Nat->Bool) (x1 x2 x3 x4:Value) (h0:FH) (df:List Nat) (hok:Z0A Gl n=true) (hG:Gl.length=n*20) (ht:t<n) (hi:i<4) (hn:n<=100)
 (hnb:Z0d h0 nb (ints (nbL Q (4*n) (4*n)))) (ne:nb ≠ xb) (ln:nb<256*c) (lx:xb<256*c) (lg:g0<256*c) (o1:OkV c x1) (o2:OkV c x2) (o3:OkV c x3) (o4:OkV c x4) :
 ∀ (r f:Nat),f+r=4->Ans (G (Z9M none) [ptrTo g0,.slice (some ⟨nb,0,none⟩) (4*n) (4*n),x1,.int .i64 k,ptrTo xb,x2,x3,x4,av (Z2p Gl t),.int .i64 f] (newB h0 xb (ints ([(t:Int),(i:Int)]++nyP (nxV Gl Q t i) f))) c df) fun q =>
  q=⟨.exit 4,[ptrTo g0,.slice (some ⟨nb,0,none⟩) (4*n) (4*n),x1,.int .i64 k,ptrTo xb,x2,x3,x4,av (Z2p Gl t),.int .i64 4],newB h0 xb (ints ([(t:Int),(i:Int)]++nxL Gl Q t i)),c,df⟩:=by
 intro r
 have hrl:=Z1z hG ht
 have orow:OkV c (av (Z2p Gl t)):=OkV.av _ _
 induction r with
 | zero =>
  intro f hf
  obtain rfl:f=4:=by omega
  rw [Zib,← nxL]
  obtain ⟨S,hS⟩:∃ S,newB h0 xb (ints ([(t:Int),(i:Int)]++nxL Gl Q t i))=S:=⟨_,rfl⟩
  rw [hS]
  refine Ans.lpG rfl rfl (Z2x ..) ?_
  unfold Z47
  have fx:=True.intro
  refine Ans.go ?_
  clear fx
  (have fx:=ai lg (ai ln (ai lx (ai o1 (ai o2 (ai o3 (ai o4 orow)))))); refine Ans.ex0 ?_; clear fx)
  rfl
 | succ r ih =>
  intro f hf
  have hf4:f<4:=by omega
  have f4:(f:Int)<4:=by omega
  have hk:=ih (f+1) qO
  have x1':=Z6D (Z2p Gl t) 4 5 .i64 (f:Int) qO qO hrl
  rw [Int.toNat_natCast,Z5V hf4] at x1'
  have hfl:=Z0h hG ht hf4
  obtain ⟨fb,hfb⟩:∃ b,256*(c+1)+2=b:=⟨_,rfl⟩
  obtain ⟨X,hX⟩:∃ X,[(t:Int),(i:Int)]++nyP (nxV Gl Q t i) f=X:=⟨_,rfl⟩
  have X6:X.length=6:=by rw [← hX]; rfl
  have X1:X.getD 1 0=i:=by rw [← hX]; rfl
  have Xs:∀ y,X.set (2+f) y=[(t:Int),(i:Int)]++(nyP (nxV Gl Q t i) f).set f y:=fun y=>by rw [← hX]; exact Zcq _ _ _ _ _ _ y f hf4
  obtain ⟨S,hS⟩:∃ S,newB h0 xb (ints X)=S:=⟨_,rfl⟩
  rw [hX,hS]
  have w1:stN (newB S fb [.int .i64 0,.int .i64 0,.int .i64 0,.int .i64 0,.int .i64 0]) 5 (.pointer (some ⟨fb,0,none⟩)) (av (Z03 Gl t f))=some (newB S fb (ints (Z03 Gl t f))):=stN_all _ _ 5 _ _ hfl rfl
  obtain ⟨S1,hS1⟩:∃ S1,newB S fb (ints (Z03 Gl t f))=S1:=⟨_,rfl⟩
  rw [hS1] at w1
  have S1f:∀ j,j ≠ fb->S1.f j=S.f j:=fun j hj=>by rw [← hS1,Z01,if_neg hj]
  have S1x:S1.f xb=some (.cells false none (ints X)):=by rw [S1f xb qO,← hS,Z01,if_pos rfl]
  have w2:=Z7W S1x (i:=2+f) qO (-1)
  obtain ⟨S2,hS2⟩:∃ S2,newB S1 xb (ints (X.set (2+f) (-1)))=S2:=⟨_,rfl⟩
  rw [hS2] at w2
  have S2f:∀ j,j ≠ xb->S2.f j=S1.f j:=fun j hj=>by rw [← hS2,Z01,if_neg hj]
  have S2x:S2.f xb=some (.cells false none (ints (X.set (2+f) (-1)))):=by rw [← hS2,Z01,if_pos rfl]
  have r1:=Zde S2x (i:=1) (by rw [List.length_set]; omega)
  rw [Z17,if_neg qO,X1] at r1
  have S2fb:Z0d S2 fb (ints (Z03 Gl t f)):=⟨false,none,by show S2.f fb=_; rw [S2f _ qO,← hS1,Z01,if_pos rfl]⟩
  have r2:ld1 S2 (.pointer (some ⟨fb,0,none⟩))=some (.int .i64 (Z0Q (Z03 Gl t f))):=by rw [Z05 S2fb,ints_getD _ _ qO]; rfl
  have up:∀ X',Z2n c S (newB h0 xb (ints X')):=fun X'=>by rw [← hS]; exact Z2n.both (Z1l.ints _ _) (Z2n.refl _ _) lx
  have sB1:∀ X',S2=newB S1 xb (ints X')->Z0q c (newB h0 xb (ints X')) S2:=fun X' e j hj=>by
   rw [e,Z01,Z01,S1f j qO,← hS,Z01]
   by_cases q:j=xb
   · rw [if_pos q,if_pos q]
   · rw [if_neg q,if_neg q,if_neg q]
  by_cases hfi:f=i
  · have e:nxV Gl Q t i f = -1:=if_pos (.inl hfi)
    have eX:X.set (2+f) (-1)=[(t:Int),(i:Int)]++nyP (nxV Gl Q t i) (f+1):=by rw [Xs,← e,Zcj _ hf4]
    have up1:=up (X.set (2+f) (-1))
    have sB:=sB1 (X.set (2+f) (-1)) hS2.symm
    rw [← eX] at hk
    obtain ⟨S',hS'⟩:∃ S',newB h0 xb (ints (X.set (2+f) (-1)))=S':=⟨_,rfl⟩
    rw [hS'] at hk up1 sB
    obtain ⟨F,hF⟩:∃ F,Z03 Gl t f=F:=⟨_,rfl⟩
    rw [hF] at x1' w1
    refine Ans.lpG rfl rfl (Z2x ..) ?_
    unfold Z47
    have fx:=ai x1' (ai hfb (ai w1 (ai w2 r1)))
    refine Ans.go ?_
    clear fx
    (have fx:=ai lg (ai ln (ai lx (ai o1 (ai o2 (ai o3 (ai o4 (ai orow sB))))))); refine Ans.nxB (B:=S') ?_ ?_; exact (up1); clear fx)
    exact hk
  · have q1:¬ (f:Int)=i:=by omega
    by_cases hg:Z0Q (Z03 Gl t f)<0
    · have e:nxV Gl Q t i f = -1:=if_pos (.inr hg)
      have eX:X.set (2+f) (-1)=[(t:Int),(i:Int)]++nyP (nxV Gl Q t i) (f+1):=by rw [Xs,← e,Zcj _ hf4]
      have up1:=up (X.set (2+f) (-1))
      have sB:=sB1 (X.set (2+f) (-1)) hS2.symm
      rw [← eX] at hk
      obtain ⟨S',hS'⟩:∃ S',newB h0 xb (ints (X.set (2+f) (-1)))=S':=⟨_,rfl⟩
      rw [hS'] at hk up1 sB
      obtain ⟨T,hT⟩:∃ F,Z0Q (Z03 Gl t f)=F:=⟨_,rfl⟩
      rw [hT] at r2 hg
      obtain ⟨F,hF⟩:∃ F,Z03 Gl t f=F:=⟨_,rfl⟩
      rw [hF] at x1' w1
      refine Ans.lpG rfl rfl (Z2x ..) ?_
      unfold Z47
      have fx:=ai x1' (ai hfb (ai w1 (ai w2 (ai r1 (ai q1 r2)))))
      refine Ans.go ?_
      clear fx
      (have fx:=ai lg (ai ln (ai lx (ai o1 (ai o2 (ai o3 (ai o4 (ai orow sB))))))); refine Ans.nxB (B:=S') ?_ ?_; exact (up1); clear fx)
      exact hk
    · have b:=Zct hok hG ht hf4 hg
      have hu:=b.u
      have hj:=b.j i hi
      have xB:XB Gl n t f fb xb S1:=⟨by rw [← hS1]; exact Z0d.newB_same _ _ _,by omega,hok,hG,ht,hf4⟩
      have r3:=xB.l1 hg (ints (X.set (2+f) (-1))) hi
      rw [hS2] at r3
      have eu:=xB.u hg
      rw [eu] at r2
      have hN:S2.f nb=h0.f nb:=by rw [S2f _ ne,S1f _ qO,← hS,Z01,if_neg ne]
      have hnb':Z0d S2 nb (ints (nbL Q (4*n) (4*n))):=by
       obtain ⟨ro,op,q⟩:=hnb
       exact ⟨ro,op,hN.trans q⟩
      have ix:=Z4m nb (4*n) .i64 (4*fU Gl t f+fJ Gl t f i) qO
      have r4:ld1 S2 (.pointer (some ⟨nb,4*fU Gl t f+fJ Gl t f i,none⟩))=some (.int .i64 (nxV Gl Q t i f)):=by
       rw [Z05 hnb',ints_getD _ _ (by rw [Z4V]; omega),Z9j Q qO]
       have e2:nxV Gl Q t i f=if Q (fV Gl t f i)=true then (rk Q (fV Gl t f i):Int) else 0:=if_neg (fun z=>z.elim hfi hg)
       rw [e2]
       show some (Value.int .i64 (if 4*fU Gl t f+fJ Gl t f i<4*n/\Q (fV Gl t f i)=true then ((rk Q (fV Gl t f i):Nat):Int) else 0))=_
       by_cases q:Q (fV Gl t f i)=true
       · rw [if_pos q,if_pos ⟨by omega,q⟩]
       · rw [if_neg q,if_neg (fun z=>q z.2)]
      have e4:((4*fU Gl t f+fJ Gl t f i:Nat):Int)=4*(fU Gl t f:Int)+(fJ Gl t f i:Nat):=by omega
      rw [e4] at ix
      have w3:=Z7W S2x (i:=2+f) (by rw [List.length_set]; omega) (nxV Gl Q t i f)
      rw [set2,Xs,Zcj _ hf4] at w3
      obtain ⟨S3,hS3⟩:∃ S3,newB S2 xb (ints ([(t:Int),(i:Int)]++nyP (nxV Gl Q t i) (f+1)))=S3:=⟨_,rfl⟩
      rw [hS3] at w3
      have up1:=up ([(t:Int),(i:Int)]++nyP (nxV Gl Q t i) (f+1))
      have sB:Z0q c (newB h0 xb (ints ([(t:Int),(i:Int)]++nyP (nxV Gl Q t i) (f+1)))) S3:=fun j hj=>by
       rw [← hS3,Z01,Z01]
       by_cases q:j=xb
       · rw [if_pos q,if_pos q]
       · rw [if_neg q,if_neg q,S2f j q,S1f j qO,← hS,Z01,if_neg q]
      obtain ⟨S',hS'⟩:∃ S',newB h0 xb (ints ([(t:Int),(i:Int)]++nyP (nxV Gl Q t i) (f+1)))=S':=⟨_,rfl⟩
      rw [hS'] at hk up1 sB
      obtain ⟨W,hW⟩:∃ W,nxV Gl Q t i f=W:=⟨_,rfl⟩
      rw [hW] at r4 w3
      obtain ⟨u,hu'⟩:∃ u,fU Gl t f=u:=⟨_,rfl⟩
      obtain ⟨p,hp'⟩:∃ u,fJ Gl t f i=u:=⟨_,rfl⟩
      rw [hu'] at r2 r4 ix hu
      rw [hp'] at r3 r4 ix hj
      obtain ⟨F,hF⟩:∃ F,Z03 Gl t f=F:=⟨_,rfl⟩
      rw [hF] at x1' w1
      refine Ans.lpG rfl rfl (Z2x ..) ?_
      unfold Z47
      have fx:=ai x1' (ai hfb (ai w1 (ai w2 (ai r1 (ai q1 (ai r2 (ai r3 (ai ix (ai r4 w3)))))))))
      refine Ans.go ?_
      clear fx
      (have fx:=ai lg (ai ln (ai lx (ai o1 (ai o2 (ai o3 (ai o4 (ai orow sB))))))); refine Ans.nxB (B:=S') ?_ ?_; exact (up1); clear fx)
      exact hk

abbrev nd (y:Nat):Prop:=y % 4 ≠ y / 4 % 4
abbrev frY (Gl:List Int) (y:Nat):Prop:=Z0Q (Z03 Gl (y / 16) (y % 4))<0
def sE (E D:List Int) (z:List Int × List Bool):Nat->List Int × List Bool
 | 0=>z
 | e+1=>sSt E D (e / 6) (e % 6) (sE E D z e)
abbrev rvE (D:List Int) (e:Nat):Prop:=D.getD (16*(e / 6)+4*eAn (e % 6)+eBn (e % 6)) 0=D.getD (16*(e / 6)+4*eBn (e % 6)+eAn (e % 6)) 0

theorem vN_at {Gl:List Int} {n x:Nat} (hx:x<4*n):(vN Gl n).getD x 0=(cl (vCs Gl n) x:Nat):=ZlN _ hx
theorem Zm7 {Gl:List Int} {n x k:Nat} (hx:x<4*n):inC (vN Gl n) k x=true ↔ cl (vCs Gl n) x=k:=by
 unfold inC
 rw [vN_at hx,decide_eq_true_eq]
 omega
section
variable {Gl:List Int} {n:Nat} (hok:Z0A Gl n=true) (hG:Gl.length=n*20)
 include hok hG
end

def lkS (Gl:List Int) (Q:Nat->Bool) (n k:Nat):List Int:=lnL Gl Q (crn Q (4*n)) k++(o6 Q (4*n)).drop (k*6)
theorem Z8o (Gl:List Int) (Q:Nat->Bool) (C:List Int):∀ k,(lnL Gl Q C k).length=k*6
 | 0=>rfl
 | k+1=>by rw [lnL,List.length_append,Z8o Gl Q C k,ZlY]; omega
theorem ZlZ (Gl:List Int) (Q:Nat->Bool) (n:Nat) {k:Nat} (h:k<=rk Q (4*n)):(lkS Gl Q n k).length=rk Q (4*n)*6:=by
 have:=Zdh Q (4*n)
 rw [lkS,List.length_append,Z8o,List.length_drop,this]
 omega
theorem Zin (Gl:List Int) (Q:Nat->Bool) (n:Nat) {k:Nat} (h:k<rk Q (4*n)):(lkS Gl Q n k).take (k*6)++lnT Gl Q (crn Q (4*n)) k++(lkS Gl Q n k).drop (k*6+6)=lkS Gl Q n (k+1):=by
 have hl:=Z8o Gl Q (crn Q (4*n)) k
 rw [lkS,List.take_append_of_le_length qO,List.take_of_length_le qO,List.drop_append,List.drop_of_length_le qO,List.nil_append,hl,List.drop_drop,lkS,lnL,show k*6+(k*6+6-k*6)=(k+1)*6 by omega]
theorem Zm0 (Gl:List Int) (Q:Nat->Bool) (n:Nat):lkS Gl Q n (rk Q (4*n))=lnL Gl Q (crn Q (4*n)) (rk Q (4*n)):=by
 have:=Zdh Q (4*n)
 rw [lkS,List.drop_of_length_le qO,List.append_nil]
theorem Zm3 (b K:Nat) (k:IntKind) {i:Nat} (h:i<K):ixS 6 (.slice (some ⟨b,0,none⟩) K K) (.int k (i:Int))=some (.pointer (some ⟨b,i*6,none⟩)):=by
 rw [ixS_sl 6 b 0 K K k (i:Int) qO qO,Nat.zero_add,Int.toNat_natCast]
set_option maxHeartbeats 1000000 in
theorem lr_all (nb ob g0 c cm n:Nat) (Gl:List Int) (Q:Nat->Bool) (s:Value) (h0:FH) (df:List Nat) (hok:Z0A Gl n=true) (hs:SlI h0 cm s 20 n Gl) (hn:n<=60) (hg:Z0d h0 g0 [s])
 (hnb:Z0d h0 nb (ints (nbL Q (4*n) (4*n)))) (ne1:nb ≠ ob) (ne2:g0 ≠ ob) (mo:256*cm<=ob) (hcm:cm<=c) (ln:nb<256*c) (lo:ob<256*c) (lg:g0<256*c) :
 ∀ (r k:Nat),k+r=rk Q (4*n)->Ans (G (Z9N none) [ptrTo g0,.slice (some ⟨nb,0,none⟩) (4*n) (4*n),.slice (some ⟨ob,0,none⟩) (rk Q (4*n)) (rk Q (4*n)),.slice (some ⟨ob,0,none⟩) (rk Q (4*n)) (rk Q (4*n)),.int .i64 (rk Q (4*n)),.int .i64 k] (HeapC.set h0 ob (.cells false (some 6) (ints (lkS Gl Q n k)))) c df) fun q =>
  q=⟨.exit 2,[ptrTo g0,.slice (some ⟨nb,0,none⟩) (4*n) (4*n),.slice (some ⟨ob,0,none⟩) (rk Q (4*n)) (rk Q (4*n)),.slice (some ⟨ob,0,none⟩) (rk Q (4*n)) (rk Q (4*n)),.int .i64 (rk Q (4*n)),.int .i64 (rk Q (4*n))],HeapC.set h0 ob (.cells false (some 6) (ints (lnL Gl Q (crn Q (4*n)) (rk Q (4*n))))),c,df⟩:=by
 intro r
 have hG:=hs.1
 have prange:rk Q (4*n)<=240:=by have:=Zbx Q (4*n); omega
 have oo:OkV c (.slice (some ⟨ob,0,none⟩) (rk Q (4*n)) (rk Q (4*n))):=OkV.sl lo
 have on:OkV c (.slice (some ⟨nb,0,none⟩) (4*n) (4*n)):=OkV.sl ln
 induction r with
 | zero =>
  intro k hk
  obtain rfl:k=rk Q (4*n):=by omega
  rw [Zm0]
  obtain ⟨S,hS⟩:∃ S,HeapC.set h0 ob (.cells false (some 6) (ints (lnL Gl Q (crn Q (4*n)) (rk Q (4*n)))))=S:=⟨_,rfl⟩
  rw [hS]
  obtain ⟨R,hR⟩:∃ R,rk Q (4*n)=R:=⟨_,rfl⟩
  rw [hR] at oo ⊢
  refine Ans.lpG rfl rfl (Z6e ..) ?_
  unfold Z7f
  have fx:=True.intro
  refine Ans.go ?_
  clear fx
  (have fx:=ai lg (ai on oo); refine Ans.ex0 ?_; clear fx)
  rfl
 | succ r ih =>
  intro k hk
  have hkK:k<rk Q (4*n):=by omega
  have kl:(k:Int)<rk Q (4*n):=by omega
  have hk':=ih (k+1) qO
  obtain ⟨x,hx,hQ,hrk⟩:=Zc6 Q hkK
  obtain ⟨eT,eC⟩:=oT_at (Q:=Q) hQ hx
  have oat:=o6_at Q hQ hx
  rw [hrk] at eT eC oat
  obtain ⟨t,ht⟩:∃ t,x / 4=t:=⟨_,rfl⟩
  obtain ⟨i,hi⟩:∃ i,x % 4=i:=⟨_,rfl⟩
  rw [ht] at eT oat
  rw [hi] at eC oat
  have htn:t<n:=by omega
  have hi4:i<4:=by omega
  have hX:lnT Gl Q (crn Q (4*n)) k=[(t:Int),(i:Int)]++nxL Gl Q t i:=by rw [lnT,eT,eC]
  have hl:=ZlZ Gl Q n (k:=k) qO
  have hat:((lkS Gl Q n k).drop (k*6)).take 6=[(t:Int),(i:Int),0,0,0,0]:=by
   have hll:=Z8o Gl Q (crn Q (4*n)) k
   rw [lkS,List.drop_append,List.drop_of_length_le qO,List.nil_append,hll,Nat.sub_self,List.drop_zero]
   exact oat
  obtain ⟨S,hS⟩:∃ S,HeapC.set h0 ob (.cells false (some 6) (ints (lkS Gl Q n k)))=S:=⟨_,rfl⟩
  have Sf:∀ j,j ≠ ob->S.f j=h0.f j:=fun j hj=>by rw [← hS,Z0o,if_neg hj]
  have So:S.f ob=some (.cells false (some 6) (ints (lkS Gl Q n k))):=by rw [← hS,Z0o,if_pos rfl]
  rw [hS]
  have ix:=Zm3 ob (rk Q (4*n)) .i64 hkK
  have l1:ldN S 6 (.pointer (some ⟨ob,k*6,none⟩))=some (av [(t:Int),(i:Int),0,0,0,0]):=by
   rw [ldN_holds (cs:=ints (lkS Gl Q n k)) ⟨false,some 6,So⟩ (by rw [ints_length]; omega),av,Z12,Z0V,hat]
  obtain ⟨xb,hxb⟩:∃ b,256*(c+1)+3=b:=⟨_,rfl⟩
  have w1:stN (newB S xb [.int .i64 0,.int .i64 0,.int .i64 0,.int .i64 0,.int .i64 0,.int .i64 0]) 6 (.pointer (some ⟨xb,0,none⟩)) (av [(t:Int),(i:Int),0,0,0,0])=some (newB S xb (ints ([(t:Int),(i:Int)]++nyP (nxV Gl Q t i) 0))):=stN_all _ _ 6 _ _ rfl rfl
  have hgS:Z0d S g0 [s]:=by
   obtain ⟨ro,op,q⟩:=hg
   exact ⟨ro,op,(Sf g0 ne2).trans q⟩
  have hnS:Z0d S nb (ints (nbL Q (4*n) (4*n))):=by
   obtain ⟨ro,op,q⟩:=hnb
   exact ⟨ro,op,(Sf nb ne1).trans q⟩
  have hsS:SlI S cm s 20 n Gl:=hs.same fun j hj=>Sf j qO
  have lp:=Ans.eq (ZlW nb xb g0 (c+1+1+1) t i k n Gl Q (.slice (some ⟨ob,0,none⟩) (rk Q (4*n)) (rk Q (4*n))) (.slice (some ⟨ob,0,none⟩) (rk Q (4*n)) (rk Q (4*n))) (.int .i64 (rk Q (4*n))) (.int .i64 k) S df hok hG htn hi4 qO hnS qO qO qO qO (oo.mono qO) (oo.mono qO) (OkV.int _ _ _) (OkV.int _ _ _) 4 0 qO)
  simp only [Int.ofNat_eq_natCast,Int.cast_ofNat_Int] at lp
  obtain ⟨ix2,l4⟩:=Zl3 (pb:=xb) hsS qO htn (ints ([(t:Int),(i:Int)]++nyP (nxV Gl Q t i) 0))
  obtain ⟨S1,hS1⟩:∃ S1,newB S xb (ints ([(t:Int),(i:Int)]++nyP (nxV Gl Q t i) 0))=S1:=⟨_,rfl⟩
  have S1f:∀ j,j ≠ xb->S1.f j=S.f j:=fun j hj=>by rw [← hS1,Z01,if_neg hj]
  have l2:ld1 S1 (.pointer (some ⟨g0,0,none⟩))=some s:=by
   rw [← hS1,ld1_newB_ne _ _ _ _ _ qO,Z05 hgS]; rfl
  have l3:ld1 S1 (.pointer (some ⟨xb,0,none⟩))=some (.int .i64 t):=by
   rw [← hS1,Z05 (Z0d.newB_same _ _ _)]; rfl
  rw [hS1] at w1 l4 lp
  obtain ⟨S2,hS2⟩:∃ S2,newB S xb (ints ([(t:Int),(i:Int)]++nxL Gl Q t i))=S2:=⟨_,rfl⟩
  have S2f:∀ j,j ≠ xb->S2.f j=S.f j:=fun j hj=>by rw [← hS2,Z01,if_neg hj]
  have l5:ldN S2 6 (.pointer (some ⟨xb,0,none⟩))=some (av ([(t:Int),(i:Int)]++nxL Gl Q t i)):=Z0v (by rw [← hS2,Z01,if_pos rfl]) rfl
  have w2:=Zls (h:=S2) (b:=ob) (o:=k*6) (n:=6) (op:=some 6) (L:=lkS Gl Q n k) (X:=[(t:Int),(i:Int)]++nxL Gl Q t i) (by rw [S2f _ qO]; exact So) rfl qO
  rw [← hX,Zin Gl Q n hkK] at w2
  rw [← hX] at l5 lp
  rw [hX] at l5 lp
  rw [hS2] at lp
  obtain ⟨S3,hS3⟩:∃ S3,HeapC.set S2 ob (.cells false (some 6) (ints (lkS Gl Q n (k+1))))=S3:=⟨_,rfl⟩
  rw [hS3] at w2
  have up:Z2n c S (HeapC.set h0 ob (.cells false (some 6) (ints (lkS Gl Q n (k+1))))):=by
   rw [← hS]
   have e:HeapC.set h0 ob (.cells false (some 6) (ints (lkS Gl Q n (k+1))))=HeapC.set (HeapC.set h0 ob (.cells false (some 6) (ints (lkS Gl Q n k)))) ob (.cells false (some 6) (ints (lkS Gl Q n (k+1)))):=by rw [set_set]
   rw [e]
   exact Z2n.set lo (Z1l.ints _ _) (Z2n.refl _ _)
  have sB:Z0q c (HeapC.set h0 ob (.cells false (some 6) (ints (lkS Gl Q n (k+1))))) S3:=fun j hj=>by
   rw [← hS3,Z0o,Z0o]
   by_cases q:j=ob
   · rw [if_pos q,if_pos q]
   · rw [if_neg q,if_neg q,S2f j qO,Sf j q]
  rw [hX] at w2
  obtain ⟨S',hS'⟩:∃ S',HeapC.set h0 ob (.cells false (some 6) (ints (lkS Gl Q n (k+1))))=S':=⟨_,rfl⟩
  rw [hS'] at hk' up sB
  obtain ⟨Y,hY⟩:∃ Y,av ([(t:Int),(i:Int)]++nxL Gl Q t i)=Y:=⟨_,rfl⟩
  rw [hY] at l5 w2
  obtain ⟨W,hW⟩:∃ Y,av [(t:Int),(i:Int),0,0,0,0]=Y:=⟨_,rfl⟩
  rw [hW] at l1 w1
  obtain ⟨R,hR⟩:∃ R,av (Z2p Gl t)=R:=⟨_,rfl⟩
  rw [hR] at l4 lp
  obtain ⟨K,hK⟩:∃ R,rk Q (4*n)=R:=⟨_,rfl⟩
  rw [hK] at ix lp hk' kl oo prange ⊢
  refine Ans.lpG rfl rfl (Z6e ..) ?_
  unfold Z7f
  have fx:=ai kl (ai ix (ai l1 (ai hxb (ai w1 (ai l2 (ai l3 (ai ix2 (ai l4 (ai lp (ai l5 w2))))))))))
  refine Ans.go ?_
  clear fx
  (have fx:=ai lg (ai on (ai oo sB)); refine Ans.nxB (B:=S') ?_ ?_; exact (up); clear fx)
  exact hk'
set_option maxHeartbeats 2000000 in
theorem Zl0 (s:Value) (n:Nat) (Gl:List Int) (v:Int) (h:FH) (c:Nat) (df:List Nat) (hs:SlI h c s 20 n Gl) (hn:n<=60) :
 Ans (G (.fn 34) [.agg #[s],.int .i64 v] h c df) fun r=>∃ ov e,r=⟨.ret,[.tuple #[ov,.int .i64 e]],r.h,r.c,[]⟩/\c<=r.c/\Z0q c h r.h/\LkA c r.h r.c ov e v n Gl:=by
 refine Ans.call' (fun r e=>f34_go e) ?_
 have Z4X:((Value.agg #[s]).cells.toList.all Z06)=true:=by simp [Value.cells,hs.flat]
 have Z52:(Value.agg #[s]).cells.toList=[s]:=rfl
 unfold ZmR
 rw [Z4X,Z52]
 simp only [cond_true,Nat.add_zero]
 obtain ⟨g0,hg0⟩:∃ b,256*c=b:=⟨_,rfl⟩
 rw [hg0]
 obtain ⟨M,hM⟩:∃ M,newB h g0 [s]=M:=⟨_,rfl⟩
 rw [hM]
 have Mf:∀ j,M.f j=if j=g0 then some (.cells false none [s]) else h.f j:=fun j=>by rw [← hM,Z01]
 have Mg:M.f g0=some (.cells false none [s]):=by rw [Mf,if_pos rfl]
 have sM:Z0q c h M:=fun j hj=>by rw [Mf,if_neg qO]
 have slM:SlI M c s 20 n Gl:=hs.same sM
 have l0:ldN M 1 (.pointer (some ⟨g0,0,none⟩))=some (.agg #[s]):=Z0O (cs:=[]) ⟨false,none,Mg⟩
 have ck:=Z0b (ZbP s n Gl M (c+1+1) [] (slM.mono qO))
 by_cases hok:Z0A Gl n=true
 · rw [if_pos ⟨by omega,hok⟩] at ck
   obtain ⟨r0,hr0,vb,e0,k0,s0,b1,b2,fv⟩:=Zbi s n Gl M (c+1+1+1+1) [] (slM.mono qO) hok qO
   obtain ⟨K0,hK0⟩:∃ K,r0.h=K:=⟨_,rfl⟩
   obtain ⟨c0,hc0⟩:∃ c,r0.c=c:=⟨_,rfl⟩
   rw [hK0,hc0] at e0
   rw [hc0] at k0 b2
   rw [hK0] at s0 fv
   rw [e0] at hr0
   have c59:=Z0b hr0
   have xv0:∀ a b:Value,Z1m (.tuple #[a,b]) 0=some a:=fun _ _=>rfl
   have xv1:∀ a b:Value,Z1m (.tuple #[a,b]) 1=some b:=fun _ _=>rfl
   have sm0:Z0q c h K0:=fun j hj=>by rw [s0 j qO]; exact sM j hj
   have hmV:nV Gl n<=4*n:=Zay _ _
   have fv':K0.f vb=some (.cells false none (ints (vN Gl n))):=fv
   rw [show Z3J (vCs Gl n) (4*n)=nV Gl n from rfl] at c59
   by_cases h1:v<0
   · obtain ⟨N,hN⟩:∃ m,nV Gl n=m:=⟨_,rfl⟩
     rw [hN] at c59
     have fx:=ai l0 (ai ck (ai c59 (ai xv0 xv1)))
     refine Ans.go ?_
     clear fx
     exact .done ⟨_,_,rfl,by dsimp only; omega,sm0,.inr (.inl ⟨hok,by omega,rfl,rfl⟩)⟩
   · by_cases h2:(nV Gl n:Int)<=v
     · have h2':=h2
       obtain ⟨N,hN⟩:∃ m,nV Gl n=m:=⟨_,rfl⟩
       rw [hN] at c59 h2'
       have fx:=ai l0 (ai ck (ai c59 (ai xv0 xv1)))
       refine Ans.go ?_
       clear fx
       exact .done ⟨_,_,rfl,by dsimp only; omega,sm0,.inr (.inl ⟨hok,by omega,rfl,rfl⟩)⟩
     · have h2':v<nV Gl n:=by omega
       obtain ⟨w,rfl⟩:∃ w:Nat,v=w:=⟨v.toNat,by omega⟩
       obtain ⟨x,hx1,hx2,hx3⟩:=Zn6 (Zd3 hok hs.1) (v:=w) (by have:(w:Int)<nV Gl n:=h2'; unfold nV at this; omega)
       have hpos:0<rk (inC (vN Gl n) w) (4*n):=by
        have:=ZlD (inC (vN Gl n) w) hx1 ((Zm7 hx1).2 hx3)
        omega
       obtain ⟨Q,hQ⟩:∃ Q,inC (vN Gl n) w=Q:=⟨_,rfl⟩
       have mk:=Z8k 1 8 .i64 .i64 (4*n) qO qO
       obtain ⟨nb,hnb⟩:∃ b,256*(c0+1)+2=b:=⟨_,rfl⟩
       obtain ⟨K1,hK1⟩:∃ K,newB K0 nb (ints (List.replicate (4*n) 0))=K:=⟨_,rfl⟩
       have K1f:∀ j,j ≠ nb->K1.f j=K0.f j:=fun j hj=>by rw [← hK1,Z01,if_neg hj]
       have hvl:(vN Gl n).length=4*n:=by rw [vN,Z3w]
       obtain ⟨⟨e3,vs3,K3,c3,df3⟩,ex3,ov,y1,y2,y3,y4,y5,y6,y7⟩:=lr_num w g0 nb vb (c0+1+1+1+1) (4*n) (vN Gl n) K1 [] (by rw [K1f _ qO]; exact fv') hvl qO qO qO qO (4*n) 0 (c0+1+1+1+1) (.slice none 0 0) K1 qO (Nat.le_refl _) (by rw [Zig,← hK1,Z01,if_pos rfl]) (fun j _ _=>rfl) (.inl ⟨rfl,rfl,rfl⟩)
       dsimp only at y1 y2 y3 y4 y5 y6 y7
       subst y1 y2 y3
       simp only [Int.ofNat_eq_natCast,Int.cast_ofNat_Int] at ex3
       rw [hQ] at y5 y7 hpos
       rcases y7 with ⟨_,z,_⟩ | ⟨z1,z2,z3,z4,ob,rfl,z5,z6,z7⟩
       · omega
       have K3low:∀ j,j<256*(c0+1)->K3.f j=K0.f j:=fun j hj=>by rw [y6 j qO qO,K1f j qO]
       have K3c:Z0q c h K3:=fun j hj=>by rw [K3low j qO]; exact sm0 j hj
       have K3g:Z0d K3 g0 [s]:=⟨false,none,by show K3.f g0=_; rw [K3low _ qO,s0 _ qO]; exact Mg⟩
       have eS:K3=HeapC.set K3 ob (.cells false (some 6) (ints (lkS Gl Q n 0))):=by
        apply FH.ext; intro j
        rw [Z0o]
        split
        · rename_i e
          rw [e,z7]
          simp [lkS,lnL]
        · rfl
       have lo:=Ans.eq (lr_all nb ob g0 (c3+1) c n Gl Q s K3 [] hok (hs.same K3c) hn K3g ⟨false,none,y5⟩ qO qO qO qO qO qO qO (rk Q (4*n)) 0 qO)
       rw [← eS] at lo
       simp only [Int.ofNat_eq_natCast,Int.cast_ofNat_Int] at lo
       obtain ⟨K4,hK4⟩:∃ K,HeapC.set K3 ob (.cells false (some 6) (ints (lnL Gl Q (crn Q (4*n)) (rk Q (4*n)))))=K:=⟨_,rfl⟩
       rw [hK4] at lo
       have fin:Z0q c h K4:=fun j hj=>by rw [← hK4,Z0o,if_neg qO]; exact K3c j hj
       have K4o:K4.f ob=some (.cells false (some 6) (ints (lnL Gl Q (crn Q (4*n)) (rk Q (4*n))))):=by rw [← hK4,Z0o,if_pos rfl]
       have prange:rk Q (4*n)<=4*n:=Zbx _ _
       have tk:∀ h:FH,Z07 h []=some h:=fun _=>rfl
       have res:LkA c K4 (c3+1+1) (.slice (some ⟨ob,0,none⟩) (rk Q (4*n)) (rk Q (4*n))) 0 w n Gl:=by
        refine .inr (.inr ⟨hok,⟨by omega,h2'⟩,rfl, ?_⟩)
        rw [hQ]
        exact .inr ⟨hpos,by rw [ints_length,Z8o],by omega,Z0p _,ob,rfl,by omega,by omega,K4o⟩
       have h2n:=h2'
       obtain ⟨N,hN⟩:∃ m,nV Gl n=m:=⟨_,rfl⟩
       rw [hN] at c59 h2n
       obtain ⟨R,hR⟩:∃ m,rk Q (4*n)=m:=⟨_,rfl⟩
       rw [hR] at ex3
       rw [hR] at lo res
       have e4:((4*n:Nat):Int)=4*(n:Int):=by omega
       rw [e4] at mk ex3
       have fx:=ai l0 (ai ck (ai c59 (ai xv0 (ai xv1 (ai mk (ai hnb (ai hK1 (ai ex3 (ai lo tk)))))))))
       refine Ans.go ?_
       clear fx
       exact .done ⟨_,0,rfl,by dsimp only; omega,fin,res⟩
 · rw [if_neg (fun z=>hok z.2)] at ck
   have fx:=ai l0 ck
   refine Ans.go ?_
   clear fx
   exact .done ⟨_,_,rfl,by dsimp only; omega,sM,.inl ⟨by simpa using hok,rfl,rfl⟩⟩
end Go.Proofs.Ytdodippbpdechaa

namespace Go.Ab
open Go
inductive Tri where
 | leaf
 | node (b:Option ABlk) (l r:Tri)
def Tri.get:Tri->Nat->Option ABlk
 | .leaf,_=>none
 | .node b l r,i=>cond (Nat.beq i 0) b (cond (Nat.beq (i % 2) 1) (l.get (i / 2)) (r.get (i / 2-1)))
def Tri.upd:Nat->Tri->Nat->Option ABlk->Tri
 | 0,t,_,o=>match t with
  | .leaf=>.node o .leaf .leaf
  | .node _ l r=>.node o l r
 | n+1,t,i,o=>match t with
  | .leaf=>cond (Nat.beq i 0) (.node o .leaf .leaf) (cond (Nat.beq (i % 2) 1) (.node none (Tri.upd n .leaf (i / 2) o) .leaf) (.node none .leaf (Tri.upd n .leaf (i / 2-1) o)))
  | .node b l r=>cond (Nat.beq i 0) (.node o l r) (cond (Nat.beq (i % 2) 1) (.node b (Tri.upd n l (i / 2) o) r) (.node b l (Tri.upd n r (i / 2-1) o)))
theorem Tri.get_upd:∀ (n:Nat) (t:Tri) (i:Nat) (o:Option ABlk) (j:Nat),i<=n->(Tri.upd n t i o).get j=if j=i then o else t.get j:=by
 have key:∀ (b:Option ABlk) (l r:Tri) (i:Nat),(Tri.node b l r).get i=if i=0 then b else if i % 2=1 then l.get (i / 2) else r.get (i / 2-1):=by
  intro b l r i
  simp only [Tri.get]
  by_cases h0:i=0
  · subst h0; rfl
  · have:Nat.beq i 0=false:=by rw [Bool.eq_false_iff]; intro h; exact h0 (Nat.eq_of_beq_eq_true h)
    rw [this]
    simp only [h0,if_false,cond_false]
    by_cases h1:i % 2=1
    · simp [h1]
    · have:Nat.beq (i % 2) 1=false:=by rw [Bool.eq_false_iff]; intro h; exact h1 (Nat.eq_of_beq_eq_true h)
      simp [h1,this]
 have leafg:∀ j,Tri.leaf.get j=none:=fun _=>rfl
 intro n
 induction n with
 | zero =>
  intro t i o j hi
  have:i=0:=by omega
  subst this
  cases t with
  | leaf =>
   simp only [Tri.upd,key,leafg]
   split <;> simp
  | node b l r =>
   simp only [Tri.upd,key]
   by_cases h:j=0 <;> simp [h]
 | succ n ih =>
  intro t i o j hi
  by_cases h0:i=0
  · subst h0
    cases t with
    | leaf =>
     simp only [Tri.upd,Nat.beq_refl,cond_true,key,leafg]
     split <;> simp
    | node b l r =>
     simp only [Tri.upd,Nat.beq_refl,cond_true,key]
     by_cases h:j=0 <;> simp [h]
  · have hb0:Nat.beq i 0=false:=by rw [Bool.eq_false_iff]; intro h; exact h0 (Nat.eq_of_beq_eq_true h)
    by_cases h1:i % 2=1
    · have hb1:Nat.beq (i % 2) 1=true:=by rw [h1]; rfl
      cases t with
      | leaf =>
       simp only [Tri.upd,hb0,hb1,cond_true,cond_false,key,leafg]
       by_cases hj:j=0
       · subst hj; simp [Ne.symm h0]
       · simp only [hj,if_false]
         by_cases hj1:j % 2=1
         · simp only [hj1,if_true]
           rw [ih _ _ _ _ qO,leafg]
           by_cases e:j=i
           · simp [e]
           · rw [if_neg e,if_neg qO]
         · rw [if_neg hj1,if_neg qO]
      | node b l r =>
       simp only [Tri.upd,hb0,hb1,cond_true,cond_false,key]
       by_cases hj:j=0
       · subst hj; simp [Ne.symm h0]
       · simp only [hj,if_false]
         by_cases hj1:j % 2=1
         · simp only [hj1,if_true]
           rw [ih _ _ _ _ qO]
           by_cases e:j=i
           · simp [e]
           · rw [if_neg e,if_neg qO]
         · rw [if_neg hj1,if_neg (show ¬ j=i by omega),if_neg hj1]
    · have hb1:Nat.beq (i % 2) 1=false:=by rw [Bool.eq_false_iff]; intro h; exact h1 (Nat.eq_of_beq_eq_true h)
      cases t with
      | leaf =>
       simp only [Tri.upd,hb0,hb1,cond_true,cond_false,key,leafg]
       by_cases hj:j=0
       · subst hj; simp [Ne.symm h0]
       · simp only [hj,if_false]
         by_cases hj1:j % 2=1
         · rw [if_pos hj1,if_neg qO]
         · rw [if_neg hj1,ih _ _ _ _ qO,leafg]
           by_cases e:j=i
           · simp [e]
           · rw [if_neg e,if_neg qO]
      | node b l r =>
       simp only [Tri.upd,hb0,hb1,cond_true,cond_false,key]
       by_cases hj:j=0
       · subst hj; simp [Ne.symm h0]
       · simp only [hj,if_false]
         by_cases hj1:j % 2=1
         · rw [if_pos hj1,if_neg (show ¬ j=i by omega),if_pos hj1]
         · rw [if_neg hj1,ih _ _ _ _ qO]
           by_cases e:j=i
           · simp [e]
           · rw [if_neg e,if_neg qO,if_neg hj1]
def Zev:Option Addr->Option Addr->Bool
 | none,none=>true
 | some ⟨a,b,none⟩,some ⟨c,d,none⟩=>Nat.beq a c && Nat.beq b d
 | _,_=>false
def Zlr:Value->Value->Bool
 | .bool a,.bool b=>a == b
 | .int k n,.int k' n'=>decide (k=k') && n == n'
 | .pointer a,.pointer b=>Zev a b
 | .slice a l c,.slice b l' c'=>Zev a b && Nat.beq l l' && Nat.beq c c'
 | .map (some a),.map (some b)=>Nat.beq a b
 | .map none,.map none=>true
 | .nilFunc,.nilFunc=>true
 | .nilIface,.nilIface=>true
 | _,_=>false
def Zd2:List Value->List Value->Bool
 | [],[]=>true
 | x::xs,y::ys=>Zlr x y && Zd2 xs ys
 | _,_=>false
def Zaj:Option Nat->Option Nat->Bool
 | none,none=>true
 | some a,some b=>Nat.beq a b
 | _,_=>false
def ZkP:Option ABlk->Option ABlk->Bool
 | none,none=>true
 | some (.cells ro o c),some (.cells ro' o' c')=>ro == ro' && Zaj o o' && Zd2 c c'
 | some .dead,some .dead=>true
 | some .dfr,some .dfr=>true
 | _,_=>false
theorem ZbV {a b:Option Addr} (h:Zev a b=true):a=b:=by
 unfold Zev at h
 split at h
 · rfl
 · simp only [Bool.and_eq_true] at h
   rw [Nat.eq_of_beq_eq_true h.1,Nat.eq_of_beq_eq_true h.2]
 · cases h
theorem ZhR {a b:Value} (h:Zlr a b=true):a=b:=by
 unfold Zlr at h
 split at h
 · simp at h; rw [h]
 · simp at h; rw [h.1,h.2]
 · rw [ZbV h]
 · simp only [Bool.and_eq_true] at h
   rw [ZbV h.1.1,Nat.eq_of_beq_eq_true h.1.2,Nat.eq_of_beq_eq_true h.2]
 · rw [Nat.eq_of_beq_eq_true h]
 · rfl
 · rfl
 · rfl
 · cases h
theorem Zbj:∀ {a b:List Value},Zd2 a b=true->a=b
 | [],[],_=>rfl
 | x::xs,y::ys,h=>by
  simp only [Zd2,Bool.and_eq_true] at h
  rw [ZhR h.1,Zbj h.2]
 | [],y::ys,h=>by cases h
 | x::xs,[],h=>by cases h
theorem Zcg {a b:Option Nat} (h:Zaj a b=true):a=b:=by
 unfold Zaj at h
 split at h
 · rfl
 · rw [Nat.eq_of_beq_eq_true h]
 · cases h
theorem Zeu (a b:Option ABlk) (h:ZkP a b=true):a=b:=by
 unfold ZkP at h
 split at h
 · rfl
 · simp only [Bool.and_eq_true] at h
   have h1:=h.1.1
   rw [Zcg h.1.2,Zbj h.2]
   simp at h1
   rw [h1]
 · rfl
 · rfl
 · cases h
instance:HeapC Tri where
 get h i:=h.get i
 set h i b:=Tri.upd i h i (some b)
 del h i:=Tri.upd i h i none
 eqB:=ZkP
 eqB_eq:=Zeu
 get_set h i b j:=Tri.get_upd i h i (some b) j (Nat.le_refl _)
 get_del h i j:=Tri.get_upd i h i none j (Nat.le_refl _)
end Go.Ab

namespace Go.Ab
open Go
noncomputable def ZhT (t:Tri):Nat->Option ABlk :=
 Tri.rec (motive:=fun _=>Nat->Option ABlk) (fun _=>none)
  (fun b _ _ l r i=>cond (Nat.beq i 0) b (cond (Nat.beq (Nat.mod i 2) 1) (l (Nat.div i 2)) (r (Nat.sub (Nat.div i 2) 1)))) t
theorem Zaa:∀ (t:Tri) (i:Nat),ZhT t i=t.get i
 | .leaf,i=>rfl
 | .node b l r,i=>by
  show cond (Nat.beq i 0) b (cond (Nat.beq (Nat.mod i 2) 1) (ZhT l (Nat.div i 2)) (ZhT r (Nat.sub (Nat.div i 2) 1)))=_
  rw [Zaa l,Zaa r]
  rfl
noncomputable def Zl2 (o:Option ABlk) (n:Nat):Tri->Nat->Tri :=
 Nat.rec (motive:=fun _=>Tri->Nat->Tri)
  (fun t _=>Tri.rec (motive:=fun _=>Tri) (.node o .leaf .leaf) (fun _ l r _ _=>.node o l r) t)
  (fun _ ih t i=>Tri.rec (motive:=fun _=>Tri)
   (cond (Nat.beq i 0) (.node o .leaf .leaf) (cond (Nat.beq (Nat.mod i 2) 1) (.node none (ih .leaf (Nat.div i 2)) .leaf) (.node none .leaf (ih .leaf (Nat.sub (Nat.div i 2) 1)))))
   (fun b l r _ _=>cond (Nat.beq i 0) (.node o l r) (cond (Nat.beq (Nat.mod i 2) 1) (.node b (ih l (Nat.div i 2)) r) (.node b l (ih r (Nat.sub (Nat.div i 2) 1))))) t) n
theorem Z7Y (o:Option ABlk):∀ (n:Nat) (t:Tri) (i:Nat),Zl2 o n t i=Tri.upd n t i o
 | 0,.leaf,i=>rfl
 | 0,.node b l r,i=>rfl
 | n+1,.leaf,i=>by
  show (cond (Nat.beq i 0) (Tri.node o .leaf .leaf) (cond (Nat.beq (Nat.mod i 2) 1) (Tri.node none (Zl2 o n .leaf (Nat.div i 2)) .leaf) (Tri.node none .leaf (Zl2 o n .leaf (Nat.sub (Nat.div i 2) 1)))))=_
  rw [Z7Y o n,Z7Y o n]; rfl
 | n+1,.node b l r,i=>by
  show (cond (Nat.beq i 0) (Tri.node o l r) (cond (Nat.beq (Nat.mod i 2) 1) (Tri.node b (Zl2 o n l (Nat.div i 2)) r) (Tri.node b l (Zl2 o n r (Nat.sub (Nat.div i 2) 1)))))=_
  rw [Z7Y o n,Z7Y o n]; rfl
theorem Zgh (t:Tri) (i:Nat) (o:Option ABlk) (j:Nat):ZhT (Zl2 o i t i) j=if j=i then o else ZhT t j:=by
 rw [Zaa,Zaa,Z7Y]
 exact Tri.get_upd i t i o j (Nat.le_refl _)
abbrev RC:=List (Nat × Option ABlk)
noncomputable def Z8V (i:Nat) (rc:RC):Option (Option ABlk) :=
 List.rec (motive:=fun _=>Option (Option ABlk)) none (fun x _ ih=>cond (Nat.beq i x.1) (some x.2) ih) rc
noncomputable def Zgv (i:Nat) (o:Option ABlk) (rc:RC):RC :=
 List.rec (motive:=fun _=>RC) [] (fun x xs ih=>cond (Nat.beq i x.1) ((x.1,o)::xs) (x::ih)) rc
noncomputable def Zh4 (rc:RC) (t:Tri):Tri :=
 List.rec (motive:=fun _=>Tri) t (fun x _ ih=>Zl2 x.2 x.1 ih x.1) rc
theorem Z1G (i:Nat) (x:Nat × Option ABlk) (xs:RC):Z8V i (x::xs)=if i=x.1 then some x.2 else Z8V i xs:=by
 show cond (Nat.beq i x.1) (some x.2) (Z8V i xs)=_
 cases h:Nat.beq i x.1 with
 | true=>rw [if_pos (Nat.eq_of_beq_eq_true h)]; rfl
 | false=>rw [if_neg (fun e=>by rw [e,Nat.beq_refl] at h; cases h)]; rfl
theorem ZeL (i:Nat) (o:Option ABlk) (x:Nat × Option ABlk) (xs:RC):Zgv i o (x::xs)=if i=x.1 then (x.1,o)::xs else x::Zgv i o xs:=by
 show cond (Nat.beq i x.1) ((x.1,o)::xs) (x::Zgv i o xs)=_
 cases h:Nat.beq i x.1 with
 | true=>rw [if_pos (Nat.eq_of_beq_eq_true h)]; rfl
 | false=>rw [if_neg (fun e=>by rw [e,Nat.beq_refl] at h; cases h)]; rfl
theorem Z8z (i:Nat) (o:Option ABlk) (j:Nat):∀ (rc:RC),Z8V i rc ≠ none->Z8V j (Zgv i o rc)=if j=i then some o else Z8V j rc
 | [],h=>absurd rfl h
 | x::xs,h=>by
  rw [Z1G] at h
  rw [ZeL]
  by_cases e:i=x.1
  · rw [if_pos e,Z1G,Z1G]
    by_cases e2:j=x.1
    · rw [if_pos e2,if_pos (e2.trans e.symm)]
    · rw [if_neg e2,if_neg (fun h=>e2 (h.trans e)),if_neg e2]
  · rw [if_neg e] at h ⊢
    rw [Z1G,Z1G,Z8z i o j xs h]
    by_cases e2:j=x.1
    · rw [if_pos e2,if_pos e2,if_neg (fun h=>e (h.symm.trans e2))]
    · rw [if_neg e2,if_neg e2]
theorem Z9n (j:Nat) (t:Tri):∀ (rc:RC),ZhT (Zh4 rc t) j=(match Z8V j rc with | some o=>o | none=>ZhT t j)
 | []=>rfl
 | x::xs=>by
  show ZhT (Zl2 x.2 x.1 (Zh4 xs t) x.1) j=_
  rw [Zgh,Z1G]
  by_cases e:j=x.1
  · rw [if_pos e,if_pos e]
  · rw [if_neg e,if_neg e,Z9n j t xs]
structure TH where
 rc:RC
 n:Nat
 old:Tri
noncomputable def TH.put (h:TH) (i:Nat) (o:Option ABlk):TH :=
 match Z8V i h.rc with
 | some _=>{ rc:=Zgv i o h.rc,n:=h.n,old:=h.old }
 | none=>cond (Nat.blt h.n 24) { rc:=(i,o)::h.rc,n:=Nat.add h.n 1,old:=h.old } { rc:=[(i,o)],n:=1,old:=Zh4 h.rc h.old }
noncomputable def TH.look (h:TH) (i:Nat):Option ABlk :=
 match Z8V i h.rc with
 | some o=>o
 | none=>ZhT h.old i
theorem TH.look_put (h:TH) (i:Nat) (o:Option ABlk) (j:Nat):(h.put i o).look j=if j=i then o else h.look j:=by
 unfold TH.put TH.look
 cases e:Z8V i h.rc with
 | some x =>
  dsimp only
  rw [Z8z i o j h.rc (by rw [e]; simp)]
  by_cases e2:j=i
  · rw [if_pos e2,if_pos e2]
  · rw [if_neg e2,if_neg e2]
 | none =>
  dsimp only
  cases Nat.blt h.n 24 with
  | true =>
   dsimp only [cond_true]
   rw [Z1G]
   by_cases e2:j=i
   · rw [if_pos e2,if_pos e2]
   · rw [if_neg e2,if_neg e2]
  | false =>
   dsimp only [cond_false]
   rw [Z1G]
   by_cases e2:j=i
   · rw [if_pos e2,if_pos e2]
   · rw [if_neg e2,if_neg e2]
     exact Z9n j h.old h.rc
noncomputable instance:HeapC TH where
 get h i:=h.look i
 set h i b:=h.put i (some b)
 del h i:=h.put i none
 eqB:=ZkP
 eqB_eq:=Zeu
 get_set h i b j:=TH.look_put h i (some b) j
 get_del h i j:=TH.look_put h i none j
noncomputable def TH.empty:TH:={ rc:=[],n:=0,old:=.leaf }
theorem TH.inv_empty (h:TH) (e:h=TH.empty) (i:Nat):HeapC.get h i=none:=by subst e; rfl
end Go.Ab
