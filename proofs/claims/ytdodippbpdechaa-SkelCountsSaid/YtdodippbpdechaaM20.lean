/- Parts of a proof: N1 K36 K37 AbRow2 AbRow3 AbApp2 AbRow4 AbRow5 RowK. Conditions: none. -/
import Derived.Test.YtdodippbpdechaaM19
import Derived.Test.YtdodippbpdechaaM12
import Derived.Test.YtdodippbpdechaaM18
import Derived.Test.YtdodippbpdechaaM8
import Derived.Test.YtdodippbpdechaaRows
import Derived.ProofKit
set_option linter.all false
set_option maxRecDepth 100000
namespace Go.Proofs.Ytdodippbpdechaa
open Go Go.Ab Go.Proofs
theorem Z7i (h:FH) (c:Nat):callF G 10 [] h c=some (.bool true,h,c):=Z08 (ZhL (f:=10) (args:=[]) (h:=h) (c:=c) (r:=⟨.ret,[.bool true],h,c,[]⟩) rfl)
theorem Z3U {a:Value} (ha:Z09 a=true):((Value.agg #[a]).cells.toList.all Z09)=true:=by simp [Value.cells,ha]
theorem Z4l (a:Value):(Value.agg #[a]).cells.toList=[a]:=rfl

theorem Zfm {f:Nat->Int} {A B:Int}:∀ m:Nat,(∀ k,k<m->A<=f k/\f k<=B)->A*m<=Z0o f m/\Z0o f m<=B*m
 | 0,_=>by simp [Z0o]
 | m+1,h=>by
  have h1:=Zfm m fun k hk=>h k qO
  have h2:=h m qO
  rw [Z0o,Int.natCast_add,Int.mul_add,Int.mul_add]
  omega
theorem Zfn {Gl:List Int} {n:Nat} (hn:n<=30) {m:Nat} (hm:m<=240):-480*(m:Int)<=Z0o (lkE n Gl (vN Gl n) (dN Gl n)) m/\Z0o (lkE n Gl (vN Gl n) (dN Gl n)) m<=720*m :=
 Zfm m fun k _=>by have:=Zkl (Gl:=Gl) (n:=n) k; omega
set_option maxHeartbeats 1000000 in
theorem ZhF (gp sb c0 c cnt n:Nat) (lv:Value) (Gl:List Int) (H:FH) (df:List Nat) (e5 e7:Int) (g:GrC c0 H c lv 6 cnt (lkL n Gl (vN Gl n) (dN Gl n) cnt)) (hcnt:cnt<=240) (hn:n<=30) (lg:gp<256*c) (ls:sb<256*c) :
 ∀ (r k:Nat),k+r=cnt->Ans (G (ZdN none) [ptrTo gp,ptrTo sb,.int .i64 e5,.int .i64 e7,.int .i64 (Z0o (lkE n Gl (vN Gl n) (dN Gl n)) k),.int .i64 (2*k-Z0o (lkE n Gl (vN Gl n) (dN Gl n)) k),.int .i64 0,.int .i64 0,lv,.int .i64 cnt,.int .i64 k] H c df) fun q =>
  q=⟨.exit 0,[ptrTo gp,ptrTo sb,.int .i64 e5,.int .i64 e7,.int .i64 (Z0o (lkE n Gl (vN Gl n) (dN Gl n)) cnt),.int .i64 (2*cnt-Z0o (lkE n Gl (vN Gl n) (dN Gl n)) cnt),.int .i64 0,.int .i64 0,lv,.int .i64 cnt,.int .i64 cnt],H,c,df⟩:=by
 intro r
 have ol:OkV c lv:=by
  rcases g with ⟨rfl,_,_⟩ | ⟨_,_,_,_,i,rfl,_,h,_⟩
  · exact OkV.sl0 _ _ _
  · exact OkV.sl h
 induction r with
 | zero =>
  intro k hk
  obtain rfl:k=cnt:=by omega
  refine Ans.lpG rfl rfl (Z7R ..) ?_
  unfold Za6
  have fx:=True.intro
  refine Ans.go ?_
  clear fx
  (have fx:=ai lg (ai ls ol); refine Ans.ex0 ?_; clear fx)
  rfl
 | succ r ih =>
  intro k hk
  have kl:(k:Int)<cnt:=by omega
  have tn:(cnt:Int)<=240:=by omega
  have hk':=ih (k+1) qO
  obtain ⟨i,rfl,h3,h4,h5⟩:∃ i,lv = .slice (some ⟨i,0,none⟩) cnt cnt/\256*c0<=i/\i<256*c/\H.f i=some (.cells false (some 6) (lkL n Gl (vN Gl n) (dN Gl n) cnt)):=by
   rcases g with ⟨_,e,_⟩ | ⟨_,_,_,_,q⟩
   · omega
   · exact q
  have ix:ixS 6 (.slice (some ⟨i,0,none⟩) cnt cnt) (.int .i64 (k:Int))=some (.pointer (some ⟨i,k*6,none⟩)):=by
   rw [ixS_sl 6 i 0 cnt cnt .i64 (k:Int) qO qO,Nat.zero_add,Int.toNat_natCast]
  have ll:=Z9H n Gl (vN Gl n) (dN Gl n) cnt
  have r0:ldN H 6 (.pointer (some ⟨i,k*6,none⟩))=some (.agg (lkD n Gl (vN Gl n) (dN Gl n) k).toArray):=by
   rw [ldN_holds (cs:=lkL n Gl (vN Gl n) (dN Gl n) cnt) ⟨false,some 6,h5⟩ qO,Zg1 n Gl (vN Gl n) (dN Gl n) qO]
  obtain ⟨kb,hkb⟩:∃ b,256*(c+1)+2=b:=⟨_,rfl⟩
  have st:stN (newB H kb [.int .i64 0,.int .i64 0,.int .i64 0,.int .i64 0,.bool false,.bool false]) 6 (.pointer (some ⟨kb,0,none⟩)) (.agg (lkD n Gl (vN Gl n) (dN Gl n) k).toArray)=some (newB H kb (lkD n Gl (vN Gl n) (dN Gl n) k)):=by
   rw [Z0j _ 6 _ 0 _ _ (by simp [Value.cells,Z3H]) (by simp) (by simp only [Value.cells]; exact Z9I _ _ _ _ _)]
   simp only [Value.cells,Z0L,List.take_zero,List.nil_append,Nat.zero_add,Z3H]
   simp [Z3H]
  have gk:Z0i (newB H kb (lkD n Gl (vN Gl n) (dN Gl n) k)) kb (lkD n Gl (vN Gl n) (dN Gl n) k):=Z0i.newB_same _ _ _
  have r3:ld1 (newB H kb (lkD n Gl (vN Gl n) (dN Gl n) k)) (.pointer (some ⟨kb,3,none⟩))=some (.int .i64 (lkE n Gl (vN Gl n) (dN Gl n) k)):=by rw [Z02 gk]; rfl
  have b1:=Zfn (Gl:=Gl) hn (m:=k) qO
  have b2:=Zkl (Gl:=Gl) (n:=n) k
  rw [Z0o] at hk'
  obtain ⟨S,hS⟩:∃ S,Z0o (lkE n Gl (vN Gl n) (dN Gl n)) k=S:=⟨_,rfl⟩
  obtain ⟨E,hE⟩:∃ S,lkE n Gl (vN Gl n) (dN Gl n) k=S:=⟨_,rfl⟩
  rw [hE] at r3 b2 hk'
  rw [hS] at b1 hk' ⊢
  have ee:2*((k+1:Nat):Int)-(S+E)=2*(k:Int)-S+(2-E):=by omega
  rw [ee] at hk'
  obtain ⟨h1,hh1⟩:∃ h1,newB H kb (lkD n Gl (vN Gl n) (dN Gl n) k)=h1:=⟨_,rfl⟩
  have sB:Z0p c H h1:=fun j hj=>by rw [← hh1,Z01,if_neg qO]
  rw [hh1] at st r3
  obtain ⟨W,hW⟩:∃ S,Value.agg (lkD n Gl (vN Gl n) (dN Gl n) k).toArray=S:=⟨_,rfl⟩
  rw [hW] at r0 st
  refine Ans.lpG rfl rfl (Z7R ..) ?_
  unfold Za6
  have fx:=ai ix (ai r0 (ai hkb (ai st r3)))
  refine Ans.go ?_
  clear fx
  (have fx:=ai lg (ai ls (ai ol sB)); refine Ans.nx0 ?_; clear fx)
  exact hk'
theorem ZhH (Gl:List Int) (n m:Nat):rvC Gl n (m+1)=rvC Gl n m+if (skZ Gl n).2.getD m false=true then 1 else 0:=rfl
theorem Zju (Gl:List Int) (m:Nat):frC Gl (m+1)=frC Gl m+if Z0A (Z05 Gl (m / 4) (m % 4))<0 then 1 else 0:=rfl
set_option maxHeartbeats 1000000 in
theorem sc_rev (gp sb rb c m n:Nat) (Gl:List Int) (H:FH) (df:List Nat) (y5 y7 y9 y10:Int) (fr:H.f rb=some (.cells false none (bools (skZ Gl n).2))) (hR:(skZ Gl n).2.length=m) (hm:m<=360) (lg:gp<256*c) (ls:sb<256*c) (lr:rb<256*c) :
 ∀ (r k:Nat),k+r=m->Ans (G (ZdM none) [ptrTo gp,ptrTo sb,.int .i64 y5,.int .i64 y7,.int .i64 y9,.int .i64 y10,.int .i64 (rvC Gl n k),.int .i64 0,.slice (some ⟨rb,0,none⟩) m m,.int .i64 m,.int .i64 k] H c df) fun q =>
  q=⟨.exit 2,[ptrTo gp,ptrTo sb,.int .i64 y5,.int .i64 y7,.int .i64 y9,.int .i64 y10,.int .i64 (rvC Gl n m),.int .i64 0,.slice (some ⟨rb,0,none⟩) m m,.int .i64 m,.int .i64 m],H,c,df⟩:=by
 intro r
 induction r with
 | zero =>
  intro k hk
  obtain rfl:k=m:=by omega
  refine Ans.lpG rfl rfl (Z7Q ..) ?_
  unfold Za5
  have fx:=True.intro
  refine Ans.go ?_
  clear fx
  (have fx:=ai lg (ai ls lr); refine Ans.ex0 ?_; clear fx)
  rfl
 | succ r ih =>
  intro k hk
  have kl:(k:Int)<m:=by omega
  have tn:(m:Int)<=360:=by omega
  have hk':=ih (k+1) qO
  have ix:ixS 1 (.slice (some ⟨rb,0,none⟩) m m) (.int .i64 (k:Int))=some (.pointer (some ⟨rb,k,none⟩)):=by
   have:=Z5I rb m .i64 (k:Int) qO qO
   rwa [Int.toNat_natCast] at this
  have r0:ld1 H (.pointer (some ⟨rb,k,none⟩))=some (.bool ((skZ Gl n).2.getD k false)):=by
   rw [Z02 (cs:=bools (skZ Gl n).2) ⟨false,none,fr⟩,Z86 _ _ qO]
  have b1:=Zkf Gl n k
  rw [ZhH] at hk'
  obtain ⟨S,hS⟩:∃ S,rvC Gl n k=S:=⟨_,rfl⟩
  obtain ⟨y,hy⟩:∃ S,(skZ Gl n).2.getD k false=S:=⟨_,rfl⟩
  rw [hy] at r0 hk'
  rw [hS] at b1 hk' ⊢
  refine Ans.lpG rfl rfl (Z7Q ..) ?_
  unfold Za5
  cases y with
  | true =>
   rw [if_pos rfl] at hk'
   have fx:=ai ix r0
   refine Ans.go ?_
   clear fx
   (have fx:=ai lg (ai ls lr); refine Ans.nx0 ?_; clear fx)
   exact hk'
  | false =>
   rw [if_neg (by simp),Int.add_zero] at hk'
   have fx:=ai ix r0
   refine Ans.go ?_
   clear fx
   (have fx:=ai lg (ai ls lr); refine Ans.nx0 ?_; clear fx)
   exact hk'
set_option maxHeartbeats 1000000 in
theorem ZkS (gp sb cb c n t:Nat) (tv s:Value) (Gl:List Int) (H:FH) (df:List Nat) (y5 y7 y9 y10 y11:Int) (hC:Z3y (tCs Gl n) (4*n)) (hg:Z0i H gp [s]) (hs:SlI H cb s 20 n Gl) (ht:t<n) (hn:n<=30) (ot:OkV c tv) (lg:gp<256*c) (ls:sb<256*c) :
 ∀ (r f:Nat),f+r=4->Ans (G (ZdK none) [ptrTo gp,ptrTo sb,.int .i64 y5,.int .i64 y7,.int .i64 y9,.int .i64 y10,.int .i64 y11,.int .i64 (Z1d (tCs Gl n) (4*t+f):Nat),.int .i64 (frC Gl (4*t+f)),.int .i64 t,tv,.int .i64 n,.int .i64 t,av (((tN Gl n).drop (4*t)).take 4),.int .i64 f] H c df) fun q =>
  q=⟨.exit 6,[ptrTo gp,ptrTo sb,.int .i64 y5,.int .i64 y7,.int .i64 y9,.int .i64 y10,.int .i64 y11,.int .i64 (Z1d (tCs Gl n) (4*t+4):Nat),.int .i64 (frC Gl (4*t+4)),.int .i64 t,tv,.int .i64 n,.int .i64 t,av (((tN Gl n).drop (4*t)).take 4),.int .i64 4],H,c,df⟩:=by
 intro r
 have hl:(tN Gl n).length=4*n:=Z0E _ _
 have hl4:(((tN Gl n).drop (4*t)).take 4).length=4:=by rw [List.length_take,List.length_drop]; omega
 have or:OkV c (av (((tN Gl n).drop (4*t)).take 4)):=OkV.av _ _
 induction r with
 | zero =>
  intro f hf
  obtain rfl:f=4:=by omega
  refine Ans.lpG rfl rfl (Z7O ..) ?_
  unfold Za3
  have fx:=True.intro
  refine Ans.go ?_
  clear fx
  (have fx:=ai lg (ai ls (ai ot or)); refine Ans.ex0 ?_; clear fx)
  rfl
 | succ r ih =>
  intro f hf
  have hf4:f<4:=by omega
  have f4:(f:Int)<4:=by omega
  have hk':=ih (f+1) qO
  have x1:=ZaH (((tN Gl n).drop (4*t)).take 4) 4 .i64 (f:Int) qO qO hl4
  rw [Int.toNat_natCast,Z3t _ _ _ hf4,Z3u,tN_at qO] at x1
  have mx:=Zcw .i64 (Z1d (tCs Gl n) (4*t+f):Nat) ((cl (tCs Gl n) (4*t+f):Nat)+1)
  rw [ZkJ (tCs Gl n) hC (x:=4*t+f) qO] at mx
  have hcl:=ZeZ hC (x:=4*t+f) qO
  have hfl:Z1d (tCs Gl n) (4*n)<=4*n:=Z2l _ _
  have l0:ld1 H (.pointer (some ⟨gp,0,none⟩))=some s:=by rw [Z02 hg]; rfl
  have ix:=hs.ixs .i64 t qO qO
  rw [Int.toNat_natCast] at ix
  have k2:ld1 H (.pointer (some ⟨Z0x s,Z4q s+t*20+f*5,none⟩))=some (.int .i64 (Z0A (Z05 Gl t f))):=by
   rw [hs.rd2 (t*20) (f*5) qO]
   unfold Z0A Z05
   rw [Z3t _ _ _ qO,Z3u,show 20*t+5*f+0=t*20+f*5 by omega]
  have b1:=Zko Gl (4*t+f)
  rw [show 4*t+(f+1)=4*t+f+1 by omega,Zju,show (4*t+f) / 4=t by omega,show (4*t+f) % 4=f by omega] at hk'
  obtain ⟨X,hX⟩:∃ S,((tN Gl n).drop (4*t)).take 4=S:=⟨_,rfl⟩
  obtain ⟨S,hS⟩:∃ S,frC Gl (4*t+f)=S:=⟨_,rfl⟩
  obtain ⟨A,hA⟩:∃ S,Z1d (tCs Gl n) (4*t+f)=S:=⟨_,rfl⟩
  obtain ⟨B,hB⟩:∃ S,Z1d (tCs Gl n) (4*t+f+1)=S:=⟨_,rfl⟩
  obtain ⟨E,hE⟩:∃ S,cl (tCs Gl n) (4*t+f)=S:=⟨_,rfl⟩
  obtain ⟨F,hF⟩:∃ F,Z0A (Z05 Gl t f)=F:=⟨_,rfl⟩
  rw [hX] at x1 hk' or ⊢
  rw [hS] at b1 hk' ⊢
  rw [hA] at mx ⊢
  rw [hB] at mx hk'
  rw [hE] at x1 mx hcl
  rw [hF] at k2 hk'
  refine Ans.lpG rfl rfl (Z7O ..) ?_
  unfold Za3
  by_cases hz:F<0
  · rw [if_pos hz] at hk'
    have fx:=ai x1 (ai mx (ai l0 (ai ix k2)))
    refine Ans.go ?_
    clear fx
    (have fx:=ai lg (ai ls (ai ot or)); refine Ans.nx0 ?_; clear fx)
    exact hk'
  · rw [if_neg hz,Int.add_zero] at hk'
    have fx:=ai x1 (ai mx (ai l0 (ai ix k2)))
    refine Ans.go ?_
    clear fx
    (have fx:=ai lg (ai ls (ai ot or)); refine Ans.nx0 ?_; clear fx)
    exact hk'
set_option maxHeartbeats 1000000 in
theorem ZkR (gp sb cb c0 c n:Nat) (tv s:Value) (Gl:List Int) (H:FH) (df:List Nat) (y5 y7 y9 y10 y11:Int) (hC:Z3y (tCs Gl n) (4*n)) (hg:Z0i H gp [s]) (hs:SlI H cb s 20 n Gl) (hcb:cb<=c) (hn:n<=30) (g:GrC c0 H c tv 4 n (ints (tN Gl n))) (lg:gp<256*c) (ls:sb<256*c) :
 ∀ (r t:Nat),t+r=n->Ans (G (ZdL none) [ptrTo gp,ptrTo sb,.int .i64 y5,.int .i64 y7,.int .i64 y9,.int .i64 y10,.int .i64 y11,.int .i64 (Z1d (tCs Gl n) (4*t):Nat),.int .i64 (frC Gl (4*t)),tv,.int .i64 n,.int .i64 t] H c df) fun q =>
  q=⟨.exit 4,[ptrTo gp,ptrTo sb,.int .i64 y5,.int .i64 y7,.int .i64 y9,.int .i64 y10,.int .i64 y11,.int .i64 (Z1d (tCs Gl n) (4*n):Nat),.int .i64 (frC Gl (4*n)),tv,.int .i64 n,.int .i64 n],H,c,df⟩:=by
 intro r
 have hl:(tN Gl n).length=4*n:=Z0E _ _
 have sl:=g.sl
 have ot:OkV c tv:=sl.okV
 induction r with
 | zero =>
  intro t ht
  obtain rfl:t=n:=by omega
  refine Ans.lpG rfl rfl (Z7P ..) ?_
  unfold Za4
  have fx:=True.intro
  refine Ans.go ?_
  clear fx
  (have fx:=ai lg (ai ls ot); refine Ans.ex0 ?_; clear fx)
  rfl
 | succ r ih =>
  intro t ht
  have htn:t<n:=by omega
  have tl:(t:Int)<n:=by omega
  have tn:(n:Int)<=30:=by omega
  have hk':=ih (t+1) qO
  have ix:=sl.ixs .i64 t qO qO
  rw [Int.toNat_natCast] at ix
  have l1:ldN H 4 (.pointer (some ⟨Z0x tv,Z4q tv+t*4,none⟩))=some (av (((tN Gl n).drop (4*t)).take 4)):=by
   rw [sl.rdN 4 _ qO qO,show t*4=4*t by omega]
  have hl4:(((tN Gl n).drop (4*t)).take 4).length=4:=by rw [List.length_take,List.length_drop]; omega
  obtain ⟨kb,hkb⟩:∃ b,256*(c+1)+3=b:=⟨_,rfl⟩
  have st:stN (newB H kb [.int .i64 0,.int .i64 0,.int .i64 0,.int .i64 0]) 4 (.pointer (some ⟨kb,0,none⟩)) (av (((tN Gl n).drop (4*t)).take 4))=some (newB H kb (ints (((tN Gl n).drop (4*t)).take 4))):=stN_all _ _ 4 _ _ hl4 rfl
  have l2:ldN (newB H kb (ints (((tN Gl n).drop (4*t)).take 4))) 4 (.pointer (some ⟨kb,0,none⟩))=some (av (((tN Gl n).drop (4*t)).take 4)):=Z58 (by rw [Z01,if_pos rfl]) (by rw [ints_length,hl4])
  obtain ⟨H1,hH1⟩:∃ h1,newB H kb (ints (((tN Gl n).drop (4*t)).take 4))=h1:=⟨_,rfl⟩
  rw [hH1] at st l2
  have sB:Z0p c H H1:=fun j hj=>by rw [← hH1,Z01,if_neg qO]
  have hg1:Z0i H1 gp [s]:=hg.same lg sB
  have hf:=Ans.eq (ZkS gp sb cb (c+1+1+1) n t tv s Gl H1 df y5 y7 y9 y10 y11 hC hg1 (hs.same (sB.mono hcb)) htn hn (ot.mono qO) qO qO 4 0 qO)
  simp only [Int.ofNat_eq_natCast,Int.cast_ofNat_Int,Nat.add_zero] at hf
  rw [show 4*(t+1)=4*t+4 by omega] at hk'
  obtain ⟨X,hX⟩:∃ S,((tN Gl n).drop (4*t)).take 4=S:=⟨_,rfl⟩
  rw [hX] at l1 st l2 hf
  obtain ⟨A,hA⟩:∃ S,Z1d (tCs Gl n) (4*t)=S:=⟨_,rfl⟩
  obtain ⟨B,hB⟩:∃ S,Z1d (tCs Gl n) (4*t+4)=S:=⟨_,rfl⟩
  obtain ⟨S,hS⟩:∃ S,frC Gl (4*t)=S:=⟨_,rfl⟩
  obtain ⟨S',hS'⟩:∃ S,frC Gl (4*t+4)=S:=⟨_,rfl⟩
  rw [hA,hB,hS,hS'] at hf
  rw [hB,hS'] at hk'
  rw [hA,hS]
  refine Ans.lpG rfl rfl (Z7P ..) ?_
  unfold Za4
  have fx:=ai ix (ai l1 (ai hkb (ai st (ai l2 hf))))
  refine Ans.go ?_
  clear fx
  (have fx:=ai lg (ai ls (ai ot sB)); refine Ans.nx0 ?_; clear fx)
  exact hk'

theorem st6 {K:FH} {p0:Nat} {R:List Value} (R6:R.length=6) (Rf:R.all Z09=true):stN (newB K p0 Z5H) 6 (.pointer (some ⟨p0,0,none⟩)) (.agg R.toArray)=some (newB K p0 R):=by
 have:=Z9u (h:=newB K p0 Z5H) (b:=p0) (n:=6) (z:=Z5H) (L:=R) (by rw [Z01,if_pos rfl]) rfl R6 Rf
 rwa [Z7y] at this
set_option maxHeartbeats 2000000 in
theorem Z7h (s:Value) (n:Nat) (Gl:List Int) (h:FH) (c:Nat) (hs:SlI h c s 20 n Gl) :
 Ans (G (.fn 3) [.agg #[s]] h c []) fun x=>x.e = .ret/\x.vs=[.bool true]:=by
 suffices hs:Ans (f3_S G (.agg #[s]) h c) fun x=>x.e = .ret/\x.vs=[.bool true] by
  obtain ⟨x,q1,q2⟩:=hs
  exact ⟨_,f3_go q1,by show (gcR h c [] x).e=_/\(gcR h c [] x).vs=_; rw [Zlk,Zgg]; exact q2⟩
 unfold f3_S
 rw [Z3U hs.flat,Z4l]
 simp only [cond_true,Nat.add_zero]
 obtain ⟨g0,hg0⟩:∃ b,256*c=b:=⟨_,rfl⟩
 rw [hg0]
 obtain ⟨M,hM⟩:∃ M,newB h g0 [s]=M:=⟨_,rfl⟩
 rw [hM]
 have Mf:∀ j,M.f j=if j=g0 then some (.cells false none [s]) else h.f j:=fun j=>by rw [← hM,Z01]
 have sM:Z0p c h M:=fun j hj=>by rw [Mf,if_neg qO]
 have Mg:M.f g0=some (.cells false none [s]):=by rw [Mf,if_pos rfl]
 have l0:=Z02 (o:=0) (h:=M) (cs:=[s]) ⟨false,none,Mg⟩
 have l0:ld1 M (.pointer (some ⟨g0,0,none⟩))=some s:=l0
 have n0:ldN M 1 (.pointer (some ⟨g0,0,none⟩))=some (.agg #[s]):=Z1k (cs:=[]) ⟨false,none,Mg⟩
 have len:=hs.len
 by_cases hn:n<=30
 case neg =>
  have k0:=Z7i M (c+1+1+1)
  have fx:=ai l0 (ai len k0)
  refine Ans.go ?_
  clear fx
  exact .done ⟨rfl,rfl⟩
 have hsM:SlI M (c+1+1+1) s 20 n Gl:=(hs.same sM).mono qO
 have xv0:∀ a b:Value,Z3K (.tuple #[a,b]) 0=some a:=fun _ _=>rfl
 have xv1:∀ a b:Value,Z3K (.tuple #[a,b]) 1=some b:=fun _ _=>rfl
 obtain ⟨p0,hp0⟩:∃ b,256*(c+1+1)+5=b:=⟨_,rfl⟩
 rw [hp0,show [Value.slice none 0 0,Value.slice none 0 0,Value.slice none 0 0,Value.slice none 0 0,Value.slice none 0 0,Value.slice none 0 0]=Z5H from rfl]
 by_cases hok:Z15 Gl n=true
 · obtain ⟨r0,hr0,vv,ev,tv,gb,rb,lv,e0,k0,s0,sk⟩:=of_ok s n Gl M (c+1+1+1) [] hsM hok qO
   obtain ⟨K,hK⟩:∃ K,r0.h=K:=⟨_,rfl⟩
   obtain ⟨k,hk⟩:∃ c,r0.c=c:=⟨_,rfl⟩
   rw [hK,hk] at e0 sk
   rw [hk] at k0
   rw [hK] at s0
   rw [e0] at hr0
   have c11:=Z08 hr0
   obtain ⟨R,hR⟩:∃ R,[vv,ev,tv,.slice (some ⟨gb,0,none⟩) (nE Gl n) (nE Gl n),.slice (some ⟨rb,0,none⟩) (nE Gl n) (nE Gl n),lv]=R:=⟨_,rfl⟩
   have hR':Value.agg #[vv,ev,tv,.slice (some ⟨gb,0,none⟩) (nE Gl n) (nE Gl n),.slice (some ⟨rb,0,none⟩) (nE Gl n) (nE Gl n),lv] = .agg R.toArray:=by rw [← hR]
   have R6:R.length=6:=by rw [← hR]; rfl
   have Rf:R.all Z09=true:=by
    rw [← hR]
    simp only [List.all_cons,List.all_nil,sk.gv.flat.1,sk.ge.flat.1,sk.gt.flat.1,sk.gl.flat.1,Bool.and_true,Bool.true_and]
    rfl
   rw [hR'] at c11
   have w1:stN (newB K p0 Z5H) 6 (.pointer (some ⟨p0,0,none⟩)) (.agg R.toArray)=some (newB K p0 R):=st6 R6 Rf
   obtain ⟨H,hH⟩:∃ H,newB K p0 R=H:=⟨_,rfl⟩
   rw [hH] at w1
   have Hf:∀ j,j ≠ p0->H.f j=K.f j:=fun j hj=>by rw [← hH,Z01,if_neg hj]
   have Hp:H.f p0=some (.cells false none R):=by rw [← hH,Z01,if_pos rfl]
   have Hlow:∀ j,j<256*(c+1+1)->H.f j=M.f j:=fun j hj=>by rw [Hf j qO,s0 j qO]
   have Hg:H.f g0=some (.cells false none [s]):=by rw [Hlow _ qO,Mg]
   have sH:Z0p c h H:=fun j hj=>by rw [Hlow j qO]; exact sM j hj
   have hsH:SlI H c s 20 n Gl:=hs.same sH
   have h0:ldN H 1 (.pointer (some ⟨g0,0,none⟩))=some (.agg #[s]):=Z1k (cs:=[]) ⟨false,none,Hg⟩
   have h1:ld1 H (.pointer (some ⟨g0,0,none⟩))=some s:=by rw [Z02 (cs:=[s]) ⟨false,none,Hg⟩]; rfl
   have e12:=Z08 (ZdW s n Gl H (k+1) [] (hsH.mono qO) qO)
   have e13:=Z08 (Zg6 s n Gl H (k+1+1) [] (hsH.mono qO) qO)
   rw [if_pos hok,if_pos hok] at e12 e13
   have hRi:∀ i,ld1 H (.pointer (some ⟨p0,i,none⟩))=R[i]?:=fun i=>Z02 (cs:=R) ⟨false,none,Hp⟩
   have f1:ld1 H (.pointer (some ⟨p0,1,none⟩))=some ev:=by rw [hRi,← hR]; rfl
   have f2:ld1 H (.pointer (some ⟨p0,2,none⟩))=some tv:=by rw [hRi,← hR]; rfl
   have f3:ld1 H (.pointer (some ⟨p0,3,none⟩))=some (.slice (some ⟨gb,0,none⟩) (nE Gl n) (nE Gl n)):=by rw [hRi,← hR]; rfl
   have f4:ld1 H (.pointer (some ⟨p0,4,none⟩))=some (.slice (some ⟨rb,0,none⟩) (nE Gl n) (nE Gl n)):=by rw [hRi,← hR]; rfl
   have f5:ld1 H (.pointer (some ⟨p0,5,none⟩))=some lv:=by rw [hRi,← hR]; rfl
   have le:=sk.ge.len
   have lt:=sk.gt.len
   have ll:=sk.gl.len
   have kp:∀ {v:Value} {sz k':Nat} {L:List Value},GrC (c+1+1+1) K k v sz k' L->GrC (c+1+1+1) H k v sz k' L:=fun {v sz k' L} g=>g.keep fun hv=>Hf _ (by have:=g.blk hv; omega)
   have gl:=(kp sk.gl).mono (show k<=k+1+1+1+1+1 by omega)
   have gt:=(kp sk.gt).mono (show k<=k+1+1+1+1+1+1+1+1 by omega)
   have fr:H.f rb=some (.cells false none (bools (skZ Gl n).2)):=by rw [Hf _ (by have:=sk.b2; omega)]; exact sk.fr
   have hrl:(skZ Gl n).2.length=nE Gl n:=by
    rw [skZ_e,(Zfs _ _ _ _).2,List.length_replicate]
   have hV:nV Gl n<=4*n:=Z2l _ _
   have hE:nE Gl n<=6*n:=Z2l _ _
   have hT:Z1d (tCs Gl n) (4*n)<=4*n:=Z2l _ _
   have b2:=sk.b2
   have lo1:=Ans.eq (ZhF g0 p0 (c+1+1+1) (k+1+1+1+1+1) (nV Gl n) n lv Gl H [] (Zho Gl n) (ZaF Gl n) gl qO hn qO qO (nV Gl n) 0 qO)
   have lo2:=Ans.eq (sc_rev g0 p0 rb (k+1+1+1+1+1+1) (nE Gl n) n Gl H [] (Zho Gl n) (ZaF Gl n) (Z0o (lkE n Gl (vN Gl n) (dN Gl n)) (nV Gl n)) (2*nV Gl n-Z0o (lkE n Gl (vN Gl n) (dN Gl n)) (nV Gl n)) fr hrl qO qO qO qO (nE Gl n) 0 qO)
   have lo3:=Ans.eq (ZkR g0 p0 c (c+1+1+1) (k+1+1+1+1+1+1+1+1) n tv s Gl H [] (Zho Gl n) (ZaF Gl n) (Z0o (lkE n Gl (vN Gl n) (dN Gl n)) (nV Gl n)) (2*nV Gl n-Z0o (lkE n Gl (vN Gl n) (dN Gl n)) (nV Gl n)) (rvC Gl n (nE Gl n)) (Zcm hok hs.1) ⟨false,none,Hg⟩ hsH qO hn gt qO qO n 0 qO)
   have z1:rvC Gl n 0=0:=rfl
   have z2:frC Gl (4*0)=0:=rfl
   have z3:Z1d (tCs Gl n) (4*0)=0:=rfl
   have z4:Z0o (lkE n Gl (vN Gl n) (dN Gl n)) 0=0:=rfl
   rw [z1] at lo2
   rw [z2,z3] at lo3
   rw [z4] at lo1
   simp only [Int.ofNat_eq_natCast,Int.cast_ofNat_Int,Int.mul_zero,Int.sub_zero] at lo1 lo2 lo3
   have one:=Z9g hok hs.1
   have two:=Z9f hok hs.1
   have three:=Zae hok hs.1
   have s9:=Z7i H (k+1+1+1+1+1+1+1+1+1+1)
   have bS:=Zfn (Gl:=Gl) hn (m:=nV Gl n) qO
   have bF:=Zko Gl (4*n)
   have bR:=Zkf Gl n (nE Gl n)
   have bE:Zho Gl n=(nV Gl n:Int)-nE Gl n+Z1d (tCs Gl n) (4*n)-n:=rfl
   have tk:∀ h:FH,Z0c h []=some h:=fun _=>rfl
   obtain ⟨S,hS⟩:∃ S,Z0o (lkE n Gl (vN Gl n) (dN Gl n)) (nV Gl n)=S:=⟨_,rfl⟩
   obtain ⟨F,hF⟩:∃ S,frC Gl (4*n)=S:=⟨_,rfl⟩
   obtain ⟨V,hV'⟩:∃ S,rvC Gl n (nE Gl n)=S:=⟨_,rfl⟩
   obtain ⟨T,hT'⟩:∃ S,Z1d (tCs Gl n) (4*n)=S:=⟨_,rfl⟩
   obtain ⟨E,hE'⟩:∃ S,Zho Gl n=S:=⟨_,rfl⟩
   obtain ⟨kd,hkd⟩:∃ S,ZaF Gl n=S:=⟨_,rfl⟩
   rw [hS,hE',hkd] at lo1 lo2 lo3
   rw [hV'] at lo2 lo3
   rw [hF,hT'] at lo3
   rw [hE'] at e12
   rw [hkd] at e13
   rw [hS,hV',hT'] at one
   rw [hS,hF,hV',hE'] at two
   rw [hE',hkd] at three
   rw [hE',hT'] at bE
   rw [hS] at bS
   rw [hF] at bF
   rw [hV'] at bR
   rw [hT'] at hT
   have ne1:¬ S=2*(nE Gl n:Int)-V-3*T+4*n->False:=fun z=>z one
   obtain ⟨N,hN⟩:∃ S,nE Gl n=S:=⟨_,rfl⟩
   obtain ⟨Q,hQ⟩:∃ S,nV Gl n=S:=⟨_,rfl⟩
   rw [hN] at f3 f4 lo2 one bE hE bR
   rw [hQ] at ll lo1 lo2 lo3 two bE bS hV
   by_cases hk1:kd=1
   · have hE0:=three hk1
     by_cases hF0:0<F
     · have fx:=ai l0 (ai n0 (ai len (ai c11 (ai xv0 (ai xv1 (ai w1 (ai h0 (ai h1 (ai e12 (ai e13 (ai f1 (ai f2 (ai f3 (ai f4 (ai f5 (ai le (ai lt (ai ll (ai lo1 (ai lo2 (ai lo3 (ai s9 tk))))))))))))))))))))))
       refine Ans.go ?_
       clear fx
       exact .done ⟨rfl,rfl⟩
     · by_cases hV0:0<V
       · have fx:=ai l0 (ai n0 (ai len (ai c11 (ai xv0 (ai xv1 (ai w1 (ai h0 (ai h1 (ai e12 (ai e13 (ai f1 (ai f2 (ai f3 (ai f4 (ai f5 (ai le (ai lt (ai ll (ai lo1 (ai lo2 (ai lo3 (ai s9 tk))))))))))))))))))))))
         refine Ans.go ?_
         clear fx
         exact .done ⟨rfl,rfl⟩
       · have:=two qO qO
         have fx:=ai l0 (ai n0 (ai len (ai c11 (ai xv0 (ai xv1 (ai w1 (ai h0 (ai h1 (ai e12 (ai e13 (ai f1 (ai f2 (ai f3 (ai f4 (ai f5 (ai le (ai lt (ai ll (ai lo1 (ai lo2 (ai lo3 (ai s9 tk))))))))))))))))))))))
         refine Ans.go ?_
         clear fx
         exact .done ⟨rfl,rfl⟩
   · by_cases hF0:0<F
     · have fx:=ai l0 (ai n0 (ai len (ai c11 (ai xv0 (ai xv1 (ai w1 (ai h0 (ai h1 (ai e12 (ai e13 (ai f1 (ai f2 (ai f3 (ai f4 (ai f5 (ai le (ai lt (ai ll (ai lo1 (ai lo2 (ai lo3 (ai s9 tk))))))))))))))))))))))
       refine Ans.go ?_
       clear fx
       exact .done ⟨rfl,rfl⟩
     · by_cases hV0:0<V
       · have fx:=ai l0 (ai n0 (ai len (ai c11 (ai xv0 (ai xv1 (ai w1 (ai h0 (ai h1 (ai e12 (ai e13 (ai f1 (ai f2 (ai f3 (ai f4 (ai f5 (ai le (ai lt (ai ll (ai lo1 (ai lo2 (ai lo3 (ai s9 tk))))))))))))))))))))))
         refine Ans.go ?_
         clear fx
         exact .done ⟨rfl,rfl⟩
       · have:=two qO qO
         have fx:=ai l0 (ai n0 (ai len (ai c11 (ai xv0 (ai xv1 (ai w1 (ai h0 (ai h1 (ai e12 (ai e13 (ai f1 (ai f2 (ai f3 (ai f4 (ai f5 (ai le (ai lt (ai ll (ai lo1 (ai lo2 (ai lo3 (ai s9 tk))))))))))))))))))))))
         refine Ans.go ?_
         clear fx
         exact .done ⟨rfl,rfl⟩
 · obtain ⟨r0,hr0,e0,k0,s0⟩:=of_bad s n Gl M (c+1+1+1) [] hsM (fun q=>hok q.2)
   obtain ⟨K,hK⟩:∃ K,r0.h=K:=⟨_,rfl⟩
   obtain ⟨k,hk⟩:∃ c,r0.c=c:=⟨_,rfl⟩
   rw [hK,hk] at e0
   rw [hk] at k0
   rw [hK] at s0
   rw [e0] at hr0
   have c11:=Z08 hr0
   have w1:stN (newB K p0 Z5H) 6 (.pointer (some ⟨p0,0,none⟩)) (.agg Z5H.toArray)=some (newB K p0 Z5H):=st6 rfl rfl
   obtain ⟨N6,hN6⟩:∃ N,Z5H=N:=⟨_,rfl⟩
   rw [hN6] at c11 w1 ⊢
   obtain ⟨H,hH⟩:∃ H,newB K p0 N6=H:=⟨_,rfl⟩
   rw [hH] at w1
   have Hlow:∀ j,j<256*(c+1+1)->H.f j=M.f j:=fun j hj=>by rw [← hH,Z01,if_neg qO,s0 j qO]
   have Hg:H.f g0=some (.cells false none [s]):=by rw [Hlow _ qO,Mg]
   have hsH:SlI H c s 20 n Gl:=hs.same fun j hj=>by rw [Hlow j qO]; exact sM j hj
   have h0:ldN H 1 (.pointer (some ⟨g0,0,none⟩))=some (.agg #[s]):=Z1k (cs:=[]) ⟨false,none,Hg⟩
   have e12:=Z08 (ZdW s n Gl H (k+1) [] (hsH.mono qO) qO)
   have e13:=Z08 (Zg6 s n Gl H (k+1+1) [] (hsH.mono qO) qO)
   rw [if_neg hok,if_neg hok] at e12 e13
   have s9:=Z7i H (k+1+1+1+1)
   have e14:=Z08 (Zha s n Gl H (k+1+1+1+1) [] (hsH.mono qO))
   rw [if_neg (fun q=>hok q.2)] at e14
   have fx:=ai l0 (ai n0 (ai len (ai c11 (ai xv0 (ai xv1 (ai hH (ai w1 (ai h0 (ai e12 (ai e13 (ai s9 e14)))))))))))
   refine Ans.go ?_
   clear fx
   exact .done ⟨rfl,rfl⟩
end Go.Proofs.Ytdodippbpdechaa

namespace Go.Ab
open Go Go.ChangeShapes Go.RowKit
variable {P:Program}
theorem ZhS {W:World} {base:Nat} {t:TypeId} {fs:Array Field} {v:Value} {ts:List TypeId} (ht:P.underlying t=some (.struct fs)) (hts:P.cellTypes P.depth t=some ts) (hval:Value.okWide P W .any base t v) :
 ∃ cs,v = .agg cs/\cs.size=P.cellsOf t /\ ∀ i x,cs[i]? = some x -> ∃ u,ts[i % ts.length]? = some u/\Cell.okWide P W .any base u x:=by
 unfold Value.okWide at hval
 rw [ht] at hval
 obtain ⟨cs,rfl,h1,ts',h2,_,h3⟩:=hval
 rw [hts] at h2
 cases h2
 exact ⟨cs,rfl,h1,h3⟩
theorem Zl4 {H:Type} {enc:TypeId × Value->H} {W:World} {base:Nat} {tG tS e:TypeId} {sz:Nat} {v:Value} {f0:Field} {d:DataW H} {ps:List MemPlace} (ht:P.underlying tG=some (.struct #[f0])) (hts:P.cellTypes P.depth tG=some [tS]) (hc:P.cellsOf tG=1)
 (hS:P.underlying tS=some (.slice e)) (h0:f0.type=tS) (o0:f0.offset=0) (hcS:P.cellsOf tS=1) (hf:Z4X P e sz) (hz:0<sz) (hval:Value.okWide P W .any base tG v) (hd:DataW.Trod enc P W 0 (fun _=>true) true tG v d ps) :
 ∃ s n Gl,v = .agg #[s]/\Z5M W s sz n Gl:=by
 obtain ⟨cs,rfl,h1,h2⟩:=ZhS ht hts hval
 rw [hc] at h1
 have hcs:∃ s,cs = #[s]:=by
  obtain ⟨l⟩:=cs
  match l,h1 with
  | [s],_=>exact ⟨s,rfl⟩
 match hcs with
 | ⟨s,hs⟩ =>
  subst hs
  obtain ⟨u,hu,hok⟩:=h2 0 s rfl
  simp at hu
  subst hu
  obtain ⟨fuel,hd⟩:=hd
  obtain ⟨y0,n,_,_,h3⟩:=trod_struct1 ht hd
  rw [h0,o0,hcS] at h3
  obtain ⟨n,Gl,ho⟩:=ZfI hS hf hz hok (fuel:=n) (x:=y0) (by simpa [Value.cells] using h3)
  exact ⟨s,n,Gl,rfl,ho⟩
theorem VR.agg1 {μ:Mu} {a b:Value} (h:VR μ a b):VR μ (.agg #[a]) (.agg #[b]):=VR.agg_iff.2 (VRs.cons h (VRs.nil _))
def ZkA (W:World) (e:Ending) (W':World):Prop:=e = .returned (.bool true)/\Below W.heap.size W W'
end Go.Ab

namespace Go.Ab
open Go Go.ChangeShapes Go.RowKit
end Go.Ab

namespace Go.Ab
open Go Go.ChangeShapes Go.RowKit
def SlC (h:FH) (s:Value) (sz n:Nat) (L:List Int):Prop:=Z0F h sz s=some (ints L,n)
theorem Z5M.slc {W:World} {v:Value} {sz n:Nat} {Gl:List Int} (h:Z5M W v sz n Gl) {A:FH} {i:Nat} (ha:∀ m,Zk4 v=some m->A.f i=some (.cells true none (ints Gl))):SlC A (Zhp i v) sz n Gl:=by
 obtain ⟨h1,h2,⟨rfl,rfl⟩ | ⟨b,o,cap,C,E,fr,rfl,g1,_,_⟩⟩:=h
 · have:Gl=[]:=List.eq_nil_of_length_eq_zero qO
   subst this
   rfl
 · have hg:HeapC.get A i=some (.cells true none (ints Gl)):=ha _ rfl
   have hb:Nat.ble (0+n*sz) (ints Gl).length=true:=Nat.ble_eq_true_of_le (by simp [h1])
   simp only [SlC,Zhp,Z0F,Z0T,Z0m,hg,Option.bind_some,hb,cond_true,List.drop_zero]
   rw [List.take_of_length_le (by simp [h1])]
theorem SlI.slc {h:FH} {c:Nat} {s:Value} {sz n:Nat} {L:List Int} (hs:SlI h c s sz n L) (hn:0<n) (hz:0<sz):SlC h s sz n L:=by
 obtain ⟨g1,g2,a,cap,rfl,h4⟩:=hs
 rcases h4 with ⟨e,hv⟩ | ⟨b,o,cs,rfl,e2,⟨ro,op,e3⟩,e4⟩
 · omega
 · have hl:(ints L).length=n*sz:=by simp [g1]
   have h0:0<n*sz:=Nat.mul_pos hn hz
   have hle:o+n*sz<=cs.length:=by
    rw [← e4,List.length_take,List.length_drop] at hl
    omega
   have hb:Nat.ble (o+n*sz) cs.length=true:=Nat.ble_eq_true_of_le hle
   have hg:HeapC.get h b=some (.cells ro op cs):=e3
   simp only [SlC,Z0F,Z0T,Z0m,hg,Option.bind_some,hb,cond_true,e4]
end Go.Ab

namespace Go.Ab
open Go Go.ChangeShapes Go.RowKit
theorem Zfx {W:World} (l:List (Value × Nat × Nat × List Int)) (hl:l.length<=256) (h:∀ (k:Nat) (p:Value × Nat × Nat × List Int),l[k]? = some p->Z5M W p.1 p.2.1 p.2.2.1 p.2.2.2) :
 ∃ (A:FH) (μ:Mu),R μ A W/\Z1N μ 1/\(∀ i m,μ i=some m->wrB (HeapC.get A i)=false) /\ ∀ (k:Nat) (p:Value × Nat × Nat × List Int),l[k]? = some p->SlI A 1 (Zhp k p.1) p.2.1 p.2.2.1 p.2.2.2/\VR μ (Zhp k p.1) p.1/\SlX A (Zhp k p.1) p.2.1 p.2.2.1/\SlC A (Zhp k p.1) p.2.1 p.2.2.1 p.2.2.2:=by
 let blk:Nat->Option ABlk:=fun i=>(l[i]?).bind fun p=>(Zk4 p.1).map fun _=>.cells true none (ints p.2.2.2)
 let mu:Mu:=fun i=>(l[i]?).bind fun p=>Zk4 p.1
 have key:∀ i m,mu i=some m -> ∃ p,l[i]? = some p/\Zk4 p.1=some m/\blk i=some (.cells true none (ints p.2.2.2)):=by
  intro i m e
  cases hp:l[i]? with
  | none=>simp only [mu,hp] at e; cases e
  | some p =>
   simp only [mu,hp,Option.bind_some] at e
   exact ⟨p,rfl,e,by simp only [blk,hp,Option.bind_some,e,Option.map_some]⟩
 refine ⟨⟨blk⟩,mu,⟨fun i m e=>?_,fun i j mi mj ei ej hne di dj hro=>?_,fun i m e=>?_⟩,fun i hi=>?_,fun i m e=>?_,fun k p hp=>?_⟩
 · obtain ⟨p,h1,h2,h3⟩:=key i m e
   have:=((h i p h1).blk (μ:=mu) h2).1
   show Z6g mu m W.heap (blk i)
   rw [h3]; exact this
 · obtain ⟨p,h1,h2,h3⟩:=key i mi ei
   obtain ⟨q,g1,g2,g3⟩:=key j mj ej
   exact absurd (show roB (blk i)=true/\roB (blk j)=true by rw [h3,g3]; exact ⟨rfl,rfl⟩) hro
 · obtain ⟨p,h1,h2,h3⟩:=key i m e
   exact ((h i p h1).blk (μ:=mu) h2).2
 · have:l[i]? = none:=List.getElem?_eq_none qO
   simp only [mu,this]; rfl
 · obtain ⟨p,h1,h2,h3⟩:=key i m e
   show wrB (blk i)=false
   rw [h3]; rfl
 · have hk:k<l.length:=(List.getElem?_eq_some_iff.1 hp).1
   have hb:∀ m,Zk4 p.1=some m->blk k=some (.cells true none (ints p.2.2.2)):=fun m hm=>by
    simp only [blk,hp,Option.bind_some,hm,Option.map_some]
   refine ⟨(h k p hp).sl qO (fun m hm=>hb m hm),(h k p hp).vr (fun m hm=>?_),(h k p hp).slx (fun m hm=>hb m hm),(h k p hp).slc (fun m hm=>hb m hm)⟩
   simp only [mu,hp,Option.bind_some,hm]
end Go.Ab

namespace Go.Ab
open Go Go.ChangeShapes Go.RowKit
variable {P:Program}
theorem VRs.ints (μ:Mu):∀ L:List Int,VRs μ (ints L) (ints L)
 | []=>.nil _
 | x::L=>.cons (.int _ _) (VRs.ints μ L)
theorem VR.av (μ:Mu) (L:List Int):VR μ (av L) (av L):=VR.agg_iff.2 (by simpa using VRs.ints μ L)
end Go.Ab

namespace Go.Proofs.Ytdodippbpdechaa
open Go.ChangeShapes Go.WideShapes Go.ChangeAt Go.RowKit
open Go Go.Ab Go.Proofs
theorem Try.own:ownKnob Try.prog.godebug=none:=by kernel_rfl
theorem Try.laidOut:laidOutB Try.prog=true:=by kernel_rfl
theorem Zgl:Z4X P 3 1:=Z4X.int Try.underlying3 (by kernel_rfl)
theorem Zjv:Z4X P 42 4:=Z4X.array (n:=4) (z:=1) Try.underlying42 Zgl (by kernel_rfl)
theorem Zjw:Z4X P 44 5:=Z4X.struct2 (z0:=1) (z1:=4) Try.underlying44 Zgl Zjv rfl rfl (by kernel_rfl)
theorem Zlm:Z4X P 45 20:=Z4X.array (n:=4) (z:=5) Try.underlying45 Zjw (by kernel_rfl)
theorem Zbl {H:Type} {enc:TypeId × Value->H} {W:World} {base:Nat} {v:Value} {d:DataW H} {ps:List MemPlace} (hval:Value.okWide P W .any base 24 v) (hd:DataW.Trod enc P W 0 (fun _=>true) true 24 v d ps) :
 ∃ s n Gl,v = .agg #[s]/\Z5M W s 20 n Gl :=
 Zl4 Try.underlying24 (by kernel_rfl) (by kernel_rfl) Try.underlying22 rfl rfl (by kernel_rfl) Zlm qO hval hd
theorem Zg5 {f:FuncId} {W:World} {A:FH} {μ:Mu} {xs ys:List Value} (hR:R μ A W) (hf:Z1N μ 1) (hro:∀ i m,μ i=some m->wrB (HeapC.get A i)=false) (hv:VRs μ xs ys) (h:Ans (G (.fn f) xs A 1 []) fun x=>x.e = .ret/\x.vs=[.bool true]) :
 Calls P f ys.toArray W (ZkA W):=by
 obtain ⟨x,hx,he,hvs⟩:=h
 refine (Zeg bk_ok ext_ok mixed hx hv hR hf).mono ?_
 rintro en w' ⟨u,v',μ',h1,h2,h3,hE⟩
 rw [hvs] at h1
 cases h1
 exact ⟨by rw [h2,h3.bool_left],hE.os,hE.tape,hE.output,hE.size,fun k hk=>hE.fr k hk (fun i m e hw=>by rw [hro i m e] at hw; cases hw)⟩
end Go.Proofs.Ytdodippbpdechaa
