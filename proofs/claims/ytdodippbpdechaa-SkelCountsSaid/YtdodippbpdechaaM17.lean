/- Parts of a proof: K22 K23 K24 AbCount AbSk K32 K33. Conditions: none. -/
import Derived.Test.YtdodippbpdechaaM16
import Derived.Test.YtdodippbpdechaaM12
set_option linter.all false
set_option maxRecDepth 100000
namespace Go.Proofs.Ytdodippbpdechaa
open Go Go.Ab Go.Proofs
theorem Z9H (n:Nat) (Gl V D:List Int):∀ k,(lkL n Gl V D k).length=k*6
 | 0=>rfl
 | k+1=>by rw [lkL,List.length_append,Z9H n Gl V D k,Z3H]; omega
theorem Zg1 (n:Nat) (Gl V D:List Int) {k:Nat}:∀ {m:Nat},k<m->((lkL n Gl V D m).drop (k*6)).take 6=lkD n Gl V D k
 | 0,h=>by omega
 | m+1,h=>by
  have hl:=Z9H n Gl V D m
  rw [lkL]
  by_cases e:k=m
  · subst e
    rw [List.drop_append,List.drop_of_length_le qO,List.nil_append,hl,Nat.sub_self,List.drop_zero,List.take_of_length_le (by rw [Z3H]; omega)]
  · rw [List.drop_append_of_le_length qO,List.take_append_of_le_length (by rw [List.length_drop]; omega)]
    exact Zg1 n Gl V D qO
set_option maxHeartbeats 4000000 in
theorem fo_lks (rb0 xb c0 c cnt n:Nat) (lv:Value) (Gl V D:List Int) (h0:FH) (df:List Nat) (g:GrC c0 h0 c lv 6 cnt (lkL n Gl V D cnt)) (hcnt:cnt<=240) (hx:lv ≠ .slice none 0 0->Z0x lv ≠ xb) (b1 b2:Bool) (l0:rb0<256*c) (lx:xb<256*c) :
 ∀ (r k:Nat) (x:Bool × Bool),k+r=cnt->Ans (G (Z6y none) [ptrTo rb0,ptrTo xb,lv,.int .i64 cnt,.int .i64 k] (xH h0 xb b1 b2 x.1 x.2) c df) fun q=>q=⟨.exit 6,[ptrTo rb0,ptrTo xb,lv,.int .i64 cnt,.int .i64 cnt],xH h0 xb b1 b2 (lkF n Gl V D r k x).1 (lkF n Gl V D r k x).2,c,df⟩:=by
 intro r
 have ol:OkV c lv:=by
  rcases g with ⟨rfl,_,_⟩ | ⟨_,_,_,_,i,rfl,_,h,_⟩
  · exact OkV.sl0 _ _ _
  · exact OkV.sl h
 induction r with
 | zero =>
  intro k x hk
  obtain rfl:k=cnt:=by omega
  refine Ans.lpG rfl rfl (Z4I ..) ?_
  unfold Z47
  have fx:=True.intro
  refine Ans.go ?_
  clear fx
  (have fx:=ai l0 (ai lx ol); refine Ans.ex0 ?_; clear fx)
  rfl
 | succ r ih =>
  intro k x hk
  obtain ⟨x1,x2⟩:=x
  have kl:(k:Int)<cnt:=by omega
  have tn:(cnt:Int)<=240:=by omega
  have hk':∀ y1 y2,y1=(x1 && spB (lkE n Gl V D k) (lkC n Gl V D k))->y2=(x2 && dkB (lkE n Gl V D k) (lkC n Gl V D k))->Ans (G (Z6y none) [ptrTo rb0,ptrTo xb,lv,.int .i64 cnt,.int .i64 (k+1:Nat)] (xH h0 xb b1 b2 y1 y2) c df) fun q=>q=⟨.exit 6,[ptrTo rb0,ptrTo xb,lv,.int .i64 cnt,.int .i64 cnt],xH h0 xb b1 b2 (lkF n Gl V D (r+1) k (x1,x2)).1 (lkF n Gl V D (r+1) k (x1,x2)).2,c,df⟩:=fun y1 y2 e1 e2=>by
   subst e1 e2
   exact ih (k+1) (_,_) qO
  obtain ⟨i,rfl,h3,h4,h5⟩:∃ i,lv = .slice (some ⟨i,0,none⟩) cnt cnt/\256*c0<=i/\i<256*c/\h0.f i=some (.cells false (some 6) (lkL n Gl V D cnt)):=by
   rcases g with ⟨_,e,_⟩ | ⟨_,_,_,_,q⟩
   · omega
   · exact q
  have hix:i ≠ xb:=by have:=hx (by intro e; cases e); rwa [blkOf_sl] at this
  have ix:ixS 6 (.slice (some ⟨i,0,none⟩) cnt cnt) (.int .i64 (k:Int))=some (.pointer (some ⟨i,k*6,none⟩)):=by
   rw [ixS_sl 6 i 0 cnt cnt .i64 (k:Int) qO qO,Nat.zero_add,Int.toNat_natCast]
  have ll:=Z9H n Gl V D cnt
  have r0:ldN (xH h0 xb b1 b2 x1 x2) 6 (.pointer (some ⟨i,k*6,none⟩))=some (.agg (lkD n Gl V D k).toArray):=by
   rw [ldN_holds (cs:=lkL n Gl V D cnt) ⟨false,some 6,by show (xH _ _ _ _ _ _).f i=_; rw [Z8b,if_neg hix]; exact h5⟩ qO,Zg1 n Gl V D qO]
  obtain ⟨kb,hkb⟩:∃ b,256*(c+1)+2=b:=⟨_,rfl⟩
  have hne:kb ≠ xb:=by omega
  have st:stN (newB (xH h0 xb b1 b2 x1 x2) kb [.int .i64 0,.int .i64 0,.int .i64 0,.int .i64 0,.bool false,.bool false]) 6 (.pointer (some ⟨kb,0,none⟩)) (.agg (lkD n Gl V D k).toArray)=some (xH (newB h0 kb (lkD n Gl V D k)) xb b1 b2 x1 x2):=by
   rw [Z0j _ 6 _ 0 _ _ (by simp [Value.cells,Z3H]) (by simp) (by simp only [Value.cells]; exact Z9I _ _ _ _ _),← Zb1 hne]
   simp only [Value.cells,Z0L,List.take_zero,List.nil_append,Nat.zero_add,Z3H]
   simp [Z3H]
  have gk:∀ y1 y2,Z0i (xH (newB h0 kb (lkD n Gl V D k)) xb b1 b2 y1 y2) kb (lkD n Gl V D k):=fun y1 y2=>⟨false,none,by show (xH _ _ _ _ _ _).f kb=_; rw [Z8b,if_neg hne,Z01,if_pos rfl]⟩
  have r3:∀ y1 y2,ld1 (xH (newB h0 kb (lkD n Gl V D k)) xb b1 b2 y1 y2) (.pointer (some ⟨kb,3,none⟩))=some (.int .i64 (lkE n Gl V D k)):=fun y1 y2=>by rw [Z02 (gk y1 y2)]; rfl
  have r4:∀ y1 y2,ld1 (xH (newB h0 kb (lkD n Gl V D k)) xb b1 b2 y1 y2) (.pointer (some ⟨kb,4,none⟩))=some (.bool (lkC n Gl V D k)):=fun y1 y2=>by rw [Z02 (gk y1 y2)]; rfl
  have p2:∀ y1 y2,ld1 (xH (newB h0 kb (lkD n Gl V D k)) xb b1 b2 y1 y2) (.pointer (some ⟨xb,2,none⟩))=some (.bool y1):=fun y1 y2=>by rw [Zht]; rfl
  have p3:∀ y1 y2,ld1 (xH (newB h0 kb (lkD n Gl V D k)) xb b1 b2 y1 y2) (.pointer (some ⟨xb,3,none⟩))=some (.bool y2):=fun y1 y2=>by rw [Zht]; rfl
  have w2:∀ y1 y2 z,stN (xH (newB h0 kb (lkD n Gl V D k)) xb b1 b2 y1 y2) 1 (.pointer (some ⟨xb,2,none⟩)) (.bool z)=some (xH (newB h0 kb (lkD n Gl V D k)) xb b1 b2 z y2):=fun y1 y2 z=>(Zhs z).2.2.1
  have w3:∀ y1 y2 z,stN (xH (newB h0 kb (lkD n Gl V D k)) xb b1 b2 y1 y2) 1 (.pointer (some ⟨xb,3,none⟩)) (.bool z)=some (xH (newB h0 kb (lkD n Gl V D k)) xb b1 b2 y1 z):=fun y1 y2 z=>(Zhs z).2.2.2
  have up:∀ y1 y2,Z2n c (xH h0 xb b1 b2 x1 x2) (xH h0 xb b1 b2 y1 y2):=fun y1 y2=>Zhr lx
  have sB:∀ y1 y2,Z0p c (xH h0 xb b1 b2 y1 y2) (xH (newB h0 kb (lkD n Gl V D k)) xb b1 b2 y1 y2):=fun y1 y2 j hj=>by
   rw [Z8b,Z8b,Z01,if_neg (show ¬ j=kb by omega)]
  obtain ⟨h1,hh1⟩:∃ h1,newB h0 kb (lkD n Gl V D k)=h1:=⟨_,rfl⟩
  rw [hh1] at st r3 r4 p2 p3 w2 w3 sB
  obtain ⟨A,hA⟩:∃ A,Value.agg (lkD n Gl V D k).toArray=A:=⟨_,rfl⟩
  rw [hA] at r0 st
  obtain ⟨E,hE⟩:∃ E,lkE n Gl V D k=E:=⟨_,rfl⟩
  rw [hE] at r3 hk'
  refine Ans.lpG rfl rfl (Z4I ..) ?_
  unfold Z47
  obtain ⟨C,hC⟩:∃ C,lkC n Gl V D k=C:=⟨_,rfl⟩
  rw [hC] at r4 hk'
  cases C with
  | true =>
   by_cases hv:E=2
   · subst hv
     cases x1 with
     | true =>
      cases x2 with
      | true =>
       have sb':=sB true true
       have up':=up true true
       have fx:=ai ix (ai r0 (ai hkb (ai st (ai r3 (ai r4 (ai p2 (ai p3 (ai w2 w3))))))))
       refine Ans.go ?_
       clear fx
       (have fx:=ai l0 (ai lx (ai ol sb')); refine Ans.nxB (B:=xH h0 xb b1 b2 true true) ?_ ?_; exact (up'); clear fx)
       exact hk' true true (by simp [spB,dkB]) (by simp [spB,dkB])
      | false =>
       have sb':=sB true false
       have up':=up true false
       have fx:=ai ix (ai r0 (ai hkb (ai st (ai r3 (ai r4 (ai p2 (ai p3 (ai w2 w3))))))))
       refine Ans.go ?_
       clear fx
       (have fx:=ai l0 (ai lx (ai ol sb')); refine Ans.nxB (B:=xH h0 xb b1 b2 true false) ?_ ?_; exact (up'); clear fx)
       exact hk' true false (by simp [spB,dkB]) (by simp [spB,dkB])
     | false =>
      cases x2 with
      | true =>
       have sb':=sB false true
       have up':=up false true
       have fx:=ai ix (ai r0 (ai hkb (ai st (ai r3 (ai r4 (ai p2 (ai p3 (ai w2 w3))))))))
       refine Ans.go ?_
       clear fx
       (have fx:=ai l0 (ai lx (ai ol sb')); refine Ans.nxB (B:=xH h0 xb b1 b2 false true) ?_ ?_; exact (up'); clear fx)
       exact hk' false true (by simp [spB,dkB]) (by simp [spB,dkB])
      | false =>
       have sb':=sB false false
       have up':=up false false
       have fx:=ai ix (ai r0 (ai hkb (ai st (ai r3 (ai r4 (ai p2 (ai p3 (ai w2 w3))))))))
       refine Ans.go ?_
       clear fx
       (have fx:=ai l0 (ai lx (ai ol sb')); refine Ans.nxB (B:=xH h0 xb b1 b2 false false) ?_ ?_; exact (up'); clear fx)
       exact hk' false false (by simp [spB,dkB]) (by simp [spB,dkB])
   · cases x1 with
     | true =>
      cases x2 with
      | true =>
       have sb':=sB false false
       have up':=up false false
       have fx:=ai ix (ai r0 (ai hkb (ai st (ai r3 (ai r4 (ai p2 (ai p3 (ai w2 (ai w3 hv)))))))))
       refine Ans.go ?_
       clear fx
       (have fx:=ai l0 (ai lx (ai ol sb')); refine Ans.nxB (B:=xH h0 xb b1 b2 false false) ?_ ?_; exact (up'); clear fx)
       exact hk' false false (by simp [spB,dkB,hv]) (by simp [spB,dkB,hv])
      | false =>
       have sb':=sB false false
       have up':=up false false
       have fx:=ai ix (ai r0 (ai hkb (ai st (ai r3 (ai r4 (ai p2 (ai p3 (ai w2 (ai w3 hv)))))))))
       refine Ans.go ?_
       clear fx
       (have fx:=ai l0 (ai lx (ai ol sb')); refine Ans.nxB (B:=xH h0 xb b1 b2 false false) ?_ ?_; exact (up'); clear fx)
       exact hk' false false (by simp [spB,dkB,hv]) (by simp [spB,dkB,hv])
     | false =>
      cases x2 with
      | true =>
       have sb':=sB false false
       have up':=up false false
       have fx:=ai ix (ai r0 (ai hkb (ai st (ai r3 (ai r4 (ai p2 (ai p3 (ai w2 (ai w3 hv)))))))))
       refine Ans.go ?_
       clear fx
       (have fx:=ai l0 (ai lx (ai ol sb')); refine Ans.nxB (B:=xH h0 xb b1 b2 false false) ?_ ?_; exact (up'); clear fx)
       exact hk' false false (by simp [spB,dkB,hv]) (by simp [spB,dkB,hv])
      | false =>
       have sb':=sB false false
       have up':=up false false
       have fx:=ai ix (ai r0 (ai hkb (ai st (ai r3 (ai r4 (ai p2 (ai p3 (ai w2 (ai w3 hv)))))))))
       refine Ans.go ?_
       clear fx
       (have fx:=ai l0 (ai lx (ai ol sb')); refine Ans.nxB (B:=xH h0 xb b1 b2 false false) ?_ ?_; exact (up'); clear fx)
       exact hk' false false (by simp [spB,dkB,hv]) (by simp [spB,dkB,hv])
  | false =>
   by_cases hv:E=1
   · subst hv
     cases x1 with
     | true =>
      cases x2 with
      | true =>
       have sb':=sB false true
       have up':=up false true
       have fx:=ai ix (ai r0 (ai hkb (ai st (ai r3 (ai r4 (ai p2 (ai p3 (ai w2 w3))))))))
       refine Ans.go ?_
       clear fx
       (have fx:=ai l0 (ai lx (ai ol sb')); refine Ans.nxB (B:=xH h0 xb b1 b2 false true) ?_ ?_; exact (up'); clear fx)
       exact hk' false true (by simp [spB,dkB]) (by simp [spB,dkB])
      | false =>
       have sb':=sB false false
       have up':=up false false
       have fx:=ai ix (ai r0 (ai hkb (ai st (ai r3 (ai r4 (ai p2 (ai p3 (ai w2 w3))))))))
       refine Ans.go ?_
       clear fx
       (have fx:=ai l0 (ai lx (ai ol sb')); refine Ans.nxB (B:=xH h0 xb b1 b2 false false) ?_ ?_; exact (up'); clear fx)
       exact hk' false false (by simp [spB,dkB]) (by simp [spB,dkB])
     | false =>
      cases x2 with
      | true =>
       have sb':=sB false true
       have up':=up false true
       have fx:=ai ix (ai r0 (ai hkb (ai st (ai r3 (ai r4 (ai p2 (ai p3 (ai w2 w3))))))))
       refine Ans.go ?_
       clear fx
       (have fx:=ai l0 (ai lx (ai ol sb')); refine Ans.nxB (B:=xH h0 xb b1 b2 false true) ?_ ?_; exact (up'); clear fx)
       exact hk' false true (by simp [spB,dkB]) (by simp [spB,dkB])
      | false =>
       have sb':=sB false false
       have up':=up false false
       have fx:=ai ix (ai r0 (ai hkb (ai st (ai r3 (ai r4 (ai p2 (ai p3 (ai w2 w3))))))))
       refine Ans.go ?_
       clear fx
       (have fx:=ai l0 (ai lx (ai ol sb')); refine Ans.nxB (B:=xH h0 xb b1 b2 false false) ?_ ?_; exact (up'); clear fx)
       exact hk' false false (by simp [spB,dkB]) (by simp [spB,dkB])
   · cases x1 with
     | true =>
      cases x2 with
      | true =>
       have sb':=sB false false
       have up':=up false false
       have fx:=ai ix (ai r0 (ai hkb (ai st (ai r3 (ai r4 (ai p2 (ai p3 (ai w2 (ai w3 hv)))))))))
       refine Ans.go ?_
       clear fx
       (have fx:=ai l0 (ai lx (ai ol sb')); refine Ans.nxB (B:=xH h0 xb b1 b2 false false) ?_ ?_; exact (up'); clear fx)
       exact hk' false false (by simp [spB,dkB,hv]) (by simp [spB,dkB,hv])
      | false =>
       have sb':=sB false false
       have up':=up false false
       have fx:=ai ix (ai r0 (ai hkb (ai st (ai r3 (ai r4 (ai p2 (ai p3 (ai w2 (ai w3 hv)))))))))
       refine Ans.go ?_
       clear fx
       (have fx:=ai l0 (ai lx (ai ol sb')); refine Ans.nxB (B:=xH h0 xb b1 b2 false false) ?_ ?_; exact (up'); clear fx)
       exact hk' false false (by simp [spB,dkB,hv]) (by simp [spB,dkB,hv])
     | false =>
      cases x2 with
      | true =>
       have sb':=sB false false
       have up':=up false false
       have fx:=ai ix (ai r0 (ai hkb (ai st (ai r3 (ai r4 (ai p2 (ai p3 (ai w2 (ai w3 hv)))))))))
       refine Ans.go ?_
       clear fx
       (have fx:=ai l0 (ai lx (ai ol sb')); refine Ans.nxB (B:=xH h0 xb b1 b2 false false) ?_ ?_; exact (up'); clear fx)
       exact hk' false false (by simp [spB,dkB,hv]) (by simp [spB,dkB,hv])
      | false =>
       have sb':=sB false false
       have up':=up false false
       have fx:=ai ix (ai r0 (ai hkb (ai st (ai r3 (ai r4 (ai p2 (ai p3 (ai w2 (ai w3 hv)))))))))
       refine Ans.go ?_
       clear fx
       (have fx:=ai l0 (ai lx (ai ol sb')); refine Ans.nxB (B:=xH h0 xb b1 b2 false false) ?_ ?_; exact (up'); clear fx)
       exact hk' false false (by simp [spB,dkB,hv]) (by simp [spB,dkB,hv])
def xFr (Gl:List Int) (n:Nat):Bool:=frT Gl n 0 false
def xRv (Gl:List Int) (n:Nat):Bool:=rvF (skZ Gl n).2 (nE Gl n) 0 false
def xLk (Gl:List Int) (n:Nat):Bool × Bool:=lkF n Gl (vN Gl n) (dN Gl n) (nV Gl n) 0 (true,true)
theorem Z1i.bools4 (c:Nat) (a b d e:Bool):OkV c (.agg (bools [a,b,d,e]).toArray):=OkV.agg (Z1i.bools _ _)
set_option maxHeartbeats 2000000 in
theorem Zjx (s:Value) (n:Nat) (Gl:List Int) (h:FH) (c:Nat) (df:List Nat) (hs:SlI h c s 20 n Gl) (hok:Z15 Gl n=true) (hn:n<=60) :
 G (.fn 42) [.agg #[s]] h c df=some ⟨.ret,[.agg (bools [xFr Gl n,xRv Gl n,(xLk Gl n).1,(xLk Gl n).2]).toArray],h,c,[]⟩:=by
 refine Z14 (fun r e=>f42_go e) (Z1i.bools4 _ _ _ _ _) ?_
 have Z3U:((Value.agg #[s]).cells.toList.all Z09)=true:=by simp [Value.cells,hs.flat]
 have Z4l:(Value.agg #[s]).cells.toList=[s]:=rfl
 unfold ZgL
 rw [Z3U,Z4l]
 simp only [cond_true,Nat.add_zero]
 obtain ⟨g0,hg0⟩:∃ b,256*c=b:=⟨_,rfl⟩
 obtain ⟨p0,hp0⟩:∃ b,256*c+1=b:=⟨_,rfl⟩
 obtain ⟨kb,hkb⟩:∃ b,256*(c+1)+2=b:=⟨_,rfl⟩
 have z4e:[Value.bool false,Value.bool false,Value.bool false,Value.bool false]=bools [false,false,false,false]:=rfl
 obtain ⟨M,hM⟩:∃ M,newB (newB h g0 [s]) p0 (bools [false,false,false,false])=M:=⟨_,rfl⟩
 rw [hp0,hg0,show [Value.slice none 0 0,Value.slice none 0 0,Value.slice none 0 0,Value.slice none 0 0,Value.slice none 0 0,Value.slice none 0 0]=Z5H from rfl,z4e,hM]
 have Mf:∀ j,M.f j=if j=p0 then some (.cells false none (bools [false,false,false,false])) else if j=g0 then some (.cells false none [s]) else h.f j:=fun j=>by rw [← hM,Z01,Z01]
 have sM:Z0p c h M:=fun j hj=>by rw [Mf,if_neg qO,if_neg qO]
 have l0:ldN M 1 (.pointer (some ⟨g0,0,none⟩))=some (.agg #[s]):=Z1k (cs:=[]) ⟨false,none,by show M.f g0=_; rw [Mf,if_neg qO,if_pos rfl]⟩
 obtain ⟨r0,hr0,vv,ev,tv,gb,rb,lv,e0,k0,s0,sk⟩:=Z7g s n Gl M (c+1+1) [] ((hs.same sM).mono qO) hok hn
 obtain ⟨K,hK⟩:∃ K,r0.h=K:=⟨_,rfl⟩
 obtain ⟨k,hk⟩:∃ c,r0.c=c:=⟨_,rfl⟩
 rw [hK,hk] at e0 sk
 rw [hk] at k0
 rw [hK] at s0
 rw [e0] at hr0
 have c39:=Z08 hr0
 obtain ⟨m,hm⟩:∃ m,nE Gl n=m:=⟨_,rfl⟩
 have hmE:nE Gl n<=6*n:=Z2l _ _
 have hmV:nV Gl n<=4*n:=Z2l _ _
 rw [hm] at c39 hmE
 obtain ⟨R,hR⟩:∃ R,[vv,ev,tv,.slice (some ⟨gb,0,none⟩) m m,.slice (some ⟨rb,0,none⟩) m m,lv]=R:=⟨_,rfl⟩
 have hR':Value.agg #[vv,ev,tv,.slice (some ⟨gb,0,none⟩) m m,.slice (some ⟨rb,0,none⟩) m m,lv] = .agg R.toArray:=by rw [← hR]
 have R6:R.length=6:=by rw [← hR]; rfl
 have Rf:R.all Z09=true:=by
  rw [← hR]
  simp only [List.all_cons,List.all_nil,sk.gv.flat.1,sk.ge.flat.1,sk.gt.flat.1,sk.gl.flat.1,Bool.and_true,Bool.true_and]
  rfl
 rw [hR'] at c39
 have st2:stN (newB K kb Z5H) 6 (.pointer (some ⟨kb,0,none⟩)) (.agg R.toArray)=some (newB K kb R):=by
  rw [Z0j K 6 kb 0 Z5H (.agg R.toArray) (by simp [Value.cells,R6]) (by simp [ZhV]) (by simpa [Value.cells] using Rf)]
  simp [Z0L,Value.cells,R6,Z5H]
 obtain ⟨K2,hK2⟩:∃ K2,newB K kb R=K2:=⟨_,rfl⟩
 have K2f:∀ j,K2.f j=if j=kb then some (.cells false none R) else K.f j:=fun j=>by rw [← hK2,Z01]
 rw [hK2] at st2
 obtain ⟨xb,hxb⟩:∃ b,256*k+1=b:=⟨_,rfl⟩
 have bv:Z1M (bools [false,false,false,false]) [(2,1,.bool true),(3,1,.bool true)]=some (.agg (bools [false,false,true,true]).toArray):=rfl
 have st4:stN (newB K2 xb (bools [false,false,false,false])) 4 (.pointer (some ⟨xb,0,none⟩)) (.agg (bools [false,false,true,true]).toArray)=some (xH K2 xb false false true true):=by
  rw [Z0j K2 4 xb 0 _ _ rfl (by simp [bools]) rfl]; rfl
 have ls8:∀ a b d e,ld1 (xH K2 xb a b d e) (.pointer (some ⟨g0,0,none⟩))=some s:=fun a b d e=>by
  rw [Z02 (cs:=[s]) ⟨false,none,by show (xH K2 xb a b d e).f g0=_; rw [Z8b,if_neg qO,K2f,if_neg qO,s0 _ qO,Mf,if_neg qO,if_pos rfl]⟩]; rfl
 have gkb:∀ a b d e,Z0i (xH K2 xb a b d e) kb R:=fun a b d e=>⟨false,none,by show (xH K2 xb a b d e).f kb=_; rw [Z8b,if_neg qO,K2f,if_pos rfl]⟩
 have l4:∀ a b d e,ld1 (xH K2 xb a b d e) (.pointer (some ⟨kb,4,none⟩))=some (.slice (some ⟨rb,0,none⟩) m m):=fun a b d e=>by rw [Z02 (gkb a b d e),← hR]; rfl
 have l5:∀ a b d e,ld1 (xH K2 xb a b d e) (.pointer (some ⟨kb,5,none⟩))=some lv:=fun a b d e=>by rw [Z02 (gkb a b d e),← hR]; rfl
 have len:=hs.len
 have lle:Z3P lv=some (.int .i64 (nV Gl n)):=sk.gl.len
 have sK2:Z0p c h K2:=fun j hj=>by rw [K2f,if_neg qO,s0 j qO]; exact sM j hj
 have b1:=sk.b1
 have b2:=sk.b2
 have hrR:(skZ Gl n).2.length=m:=by
  have h0:SB m (List.replicate m 0,List.replicate m false) (6*0):=⟨by simp,by simp,fun x=>by
   have:(List.replicate m (0:Int)).getD x 0=0:=by rw [List.getD_eq_getElem?_getD,List.getElem?_replicate]; split <;> rfl
   rw [this]; omega⟩
  have:=(SB.ts (eN Gl n) (dN Gl n) n 0 h0).l2
  rw [skZ,hm]; exact this
 have a1:=Ans.eq (fo_tet p0 kb xb (k+1+1) c s n Gl K2 [] (hs.same sK2) qO qO hn false true true qO qO qO n 0 false qO)
 have a2:=Ans.eq (fo_rev p0 kb xb rb m (k+1+1+1) (skZ Gl n).2 K2 [] (by rw [K2f,if_neg qO]; exact sk.fr) hrR qO qO (xFr Gl n) true true qO qO qO qO m 0 false qO)
 have hlv:lv ≠ .slice none 0 0->Z0x lv ≠ xb:=fun hv=>by have:=sk.gl.blk hv; omega
 have a3:=Ans.eq (fo_lks p0 xb (c+1+1) (k+1+1+1+1) (nV Gl n) n lv Gl (vN Gl n) (dN Gl n) K2 [] ((sk.gl.keep fun hv=>by rw [K2f,if_neg (by have:=sk.gl.blk hv; omega)]).mono qO) qO hlv (xFr Gl n) (xRv Gl n) qO qO (nV Gl n) 0 (true,true) qO)
 rw [show frT Gl n 0 false=xFr Gl n from rfl] at a1
 rw [show rvF (skZ Gl n).2 m 0 false=xRv Gl n by rw [xRv,hm]] at a2
 rw [show lkF n Gl (vN Gl n) (dN Gl n) (nV Gl n) 0 (true,true)=xLk Gl n from rfl] at a3
 simp only [Int.ofNat_eq_natCast,Int.cast_ofNat_Int] at a1 a2 a3
 obtain ⟨X1,hX1⟩:∃ X,xFr Gl n=X:=⟨_,rfl⟩
 obtain ⟨X2,hX2⟩:∃ X,xRv Gl n=X:=⟨_,rfl⟩
 obtain ⟨X3,hX3⟩:∃ X,(xLk Gl n).1=X:=⟨_,rfl⟩
 obtain ⟨X4,hX4⟩:∃ X,(xLk Gl n).2=X:=⟨_,rfl⟩
 rw [hX1] at a1 a2 a3 ⊢
 rw [hX2] at a2 a3 ⊢
 rw [hX3,hX4] at a3 ⊢
 obtain ⟨N,hN⟩:∃ N,nV Gl n=N:=⟨_,rfl⟩
 rw [hN] at lle a3
 have ne:xb ≠ p0:=by omega
 have lx:ldN (xH K2 xb X1 X2 X3 X4) 4 (.pointer (some ⟨xb,0,none⟩))=some (.agg (bools [X1,X2,X3,X4]).toArray):=Z58 (by rw [Z8b,if_pos rfl]) rfl
 have fp:(xH K2 xb X1 X2 X3 X4).f p0=some (.cells false none (bools [false,false,false,false])):=by rw [Z8b,if_neg (Ne.symm ne),K2f,if_neg qO,s0 _ qO,Mf,if_pos rfl]
 have wx:stN (xH K2 xb X1 X2 X3 X4) 4 (.pointer (some ⟨p0,0,none⟩)) (.agg (bools [X1,X2,X3,X4]).toArray)=some (newB (xH K2 xb X1 X2 X3 X4) p0 (bools [X1,X2,X3,X4])):=Z9u fp rfl rfl rfl
 have ly:ldN (newB (xH K2 xb X1 X2 X3 X4) p0 (bools [X1,X2,X3,X4])) 4 (.pointer (some ⟨p0,0,none⟩))=some (.agg (bools [X1,X2,X3,X4]).toArray):=Z58 (by rw [Z01,if_pos rfl]) rfl
 have sE:Z0p c h (newB (xH K2 xb X1 X2 X3 X4) p0 (bools [X1,X2,X3,X4])):=fun j hj=>by rw [Z01,if_neg qO,Z8b,if_neg qO]; exact sK2 j hj
 obtain ⟨HE,hHE⟩:∃ H,newB (xH K2 xb X1 X2 X3 X4) p0 (bools [X1,X2,X3,X4])=H:=⟨_,rfl⟩
 rw [hHE] at wx ly sE
 obtain ⟨V4,hV4⟩:∃ V,Value.agg (bools [X1,X2,X3,X4]).toArray=V:=⟨_,rfl⟩
 rw [hV4] at lx wx ly ⊢
 obtain ⟨V0,hV0⟩:∃ V,Value.agg (bools [false,false,true,true]).toArray=V:=⟨_,rfl⟩
 rw [hV0] at bv st4
 obtain ⟨Z0,hZ0⟩:∃ V,bools [false,false,false,false]=V:=⟨_,rfl⟩
 rw [hZ0] at bv st4 ⊢
 obtain ⟨N6,hN6⟩:∃ N,Z5H=N:=⟨_,rfl⟩
 rw [hN6] at st2 ⊢
 have fx:=ai l0 (ai c39 (ai hkb (ai st2 (ai hxb (ai bv (ai st4 (ai ls8 (ai len (ai a1 (ai l4 (ai a2 (ai l5 (ai lle (ai a3 (ai lx (ai wx ly))))))))))))))))
 refine Ans.go ?_
 clear fx
 exact Ans.pure rfl sE

def Z4U:List Value:=[.int .i64 4,.func (.func 69) #[] #[],.int .i64 1,.func (.func 70) #[] #[],.int .i64 2,.func (.func 71) #[] #[],.int .i64 3,.func (.func 72) #[] #[]]
theorem ZlR (c:Nat):OkV c (.agg Z4U.toArray):=OkV.agg (by
 unfold Z4U
 simp only [Z1i.cons_iff,OkV.int,Z1i.nil,and_true,true_and]
 exact ⟨OkV.fn _ _,OkV.fn _ _,OkV.fn _ _,OkV.fn _ _⟩)
theorem ZjV (h:FH) (c:Nat) (df:List Nat):G (.fn 43) [] h c df=some ⟨.ret,[.agg Z4U.toArray],h,c,[]⟩:=by
 refine Z14 (fun r e=>f43_go e) (ZlR _) ?_
 unfold ZgK
 obtain ⟨b,hb⟩:∃ b,256*c=b:=⟨_,rfl⟩
 have b1:∀ (k:Int) (g:Nat),Z1M [.int .i64 0,.nilFunc] [(0,1,.int .i64 k),(1,1,.func (.func g) #[] #[])]=some (.agg #[.int .i64 k,.func (.func g) #[] #[]]):=fun k g=>rfl
 obtain ⟨z8,hz8⟩:∃ z,[Value.int .i64 0,Value.nilFunc,Value.int .i64 0,Value.nilFunc,Value.int .i64 0,Value.nilFunc,Value.int .i64 0,Value.nilFunc]=z:=⟨_,rfl⟩
 have b5:Z1M z8 [(0,2,.agg #[.int .i64 4,.func (.func 69) #[] #[]]),(2,2,.agg #[.int .i64 1,.func (.func 70) #[] #[]]),(4,2,.agg #[.int .i64 2,.func (.func 71) #[] #[]]),(6,2,.agg #[.int .i64 3,.func (.func 72) #[] #[]])]=some (.agg Z4U.toArray):=by rw [← hz8]; rfl
 have st:stN (newB h b z8) 8 (.pointer (some ⟨b,0,none⟩)) (.agg Z4U.toArray)=some (newB h b Z4U):=by
  rw [Z0j _ 8 _ 0 _ _ rfl (by rw [← hz8]; simp) rfl,← hz8]; rfl
 have ld:ldN (newB h b Z4U) 8 (.pointer (some ⟨b,0,none⟩))=some (.agg Z4U.toArray):=Z58 (by rw [Z01,if_pos rfl]) rfl
 have sE:Z0p c h (newB h b Z4U):=fun j hj=>by rw [Z01,if_neg qO]
 obtain ⟨H,hH⟩:∃ H,newB h b Z4U=H:=⟨_,rfl⟩
 rw [hH] at st ld sE
 obtain ⟨V,hV⟩:∃ V,Value.agg Z4U.toArray=V:=⟨_,rfl⟩
 rw [hV] at b5 st ld ⊢
 simp only [Nat.add_zero,hz8]
 have fx:=ai hb (ai b1 (ai b5 (ai st ld)))
 refine Ans.go ?_
 clear fx
 exact Ans.pure rfl sE
theorem ZlQ (a b d e:Bool) (h:FH) (c:Nat) :
 callF G 69 [.agg (bools [a,b,d,e]).toArray] h c=some (.bool b,h,c)/\callF G 70 [.agg (bools [a,b,d,e]).toArray] h c=some (.bool (!a && d),h,c) ∧
 callF G 71 [.agg (bools [a,b,d,e]).toArray] h c=some (.bool (!a),h,c)/\callF G 72 [.agg (bools [a,b,d,e]).toArray] h c=some (.bool e,h,c):=by
 have Z3U:((Value.agg (bools [a,b,d,e]).toArray).cells.toList.all Z09)=true:=rfl
 have Z4l:(Value.agg (bools [a,b,d,e]).toArray).cells.toList=bools [a,b,d,e]:=rfl
 obtain ⟨g0,hg0⟩:∃ b,256*c=b:=⟨_,rfl⟩
 obtain ⟨H,hH⟩:∃ H,newB h g0 (bools [a,b,d,e])=H:=⟨_,rfl⟩
 have Hh:Z0i H g0 (bools [a,b,d,e]):=by rw [← hH]; exact Z0i.newB_same _ _ _
 have l0:ld1 H (.pointer (some ⟨g0,0,none⟩))=some (.bool a):=by rw [Z02 Hh]; rfl
 have l1:ld1 H (.pointer (some ⟨g0,1,none⟩))=some (.bool b):=by rw [Z02 Hh]; rfl
 have l2:ld1 H (.pointer (some ⟨g0,2,none⟩))=some (.bool d):=by rw [Z02 Hh]; rfl
 have l3:ld1 H (.pointer (some ⟨g0,3,none⟩))=some (.bool e):=by rw [Z02 Hh]; rfl
 have sE:Z0p c h H:=fun j hj=>by rw [← hH,Z01,if_neg qO]
 refine ⟨Z08 (e:=.ret) (df:=[]) ?_,Z08 (e:=.ret) (df:=[]) ?_,Z08 (e:=.ret) (df:=[]) ?_,Z08 (e:=.ret) (df:=[]) ?_⟩
 · refine Z14 (fun r e=>f69_go e) (OkV.bool _ _) ?_
   unfold Zgz
   rw [Z3U,Z4l]
   simp only [cond_true,Nat.add_zero,hg0,hH]
   have fx:=l1
   refine Ans.go ?_
   clear fx
   exact Ans.pure rfl sE
 · refine Z14 (fun r e=>f70_go e) (OkV.bool _ _) ?_
   unfold Zgy
   rw [Z3U,Z4l]
   simp only [cond_true,Nat.add_zero,hg0,hH]
   cases a with
   | true =>
    have fx:=ai l0 l2
    refine Ans.go ?_
    clear fx
    exact Ans.pure rfl sE
   | false =>
    have fx:=ai l0 l2
    refine Ans.go ?_
    clear fx
    exact Ans.pure (by simp) sE
 · refine Z14 (fun r e=>f71_go e) (OkV.bool _ _) ?_
   unfold Zgx
   rw [Z3U,Z4l]
   simp only [cond_true,Nat.add_zero,hg0,hH]
   have fx:=l0
   refine Ans.go ?_
   clear fx
   exact Ans.pure rfl sE
 · refine Z14 (fun r e=>f72_go e) (OkV.bool _ _) ?_
   unfold Zgw
   rw [Z3U,Z4l]
   simp only [cond_true,Nat.add_zero,hg0,hH]
   have fx:=l3
   refine Ans.go ?_
   clear fx
   exact Ans.pure rfl sE
def ZaE (a b d e:Bool):Int:=if b=true then 4 else if (!a && d)=true then 1 else if a=false then 2 else if e=true then 3 else 4
def KP (c0:Nat) (h0:FH) (c:Nat) (v:Int) (q:Rt FH):Prop:=c<=q.c/\q.df=[]/\Z0p c0 h0 q.h/\((q.e = .exit 0/\v=4) ∨ (q.e = .ret /\ ∃ x y z,q.vs=[.int .i64 v,.int .i64 0,x,y,z]))
theorem KP.mono {c0 c c':Nat} {h0:FH} {v:Int} {q:Rt FH} (h:KP c0 h0 c' v q) (hc:c<=c'):KP c0 h0 c v q:=⟨by have:=h.1; omega,h.2⟩
theorem Z5Z (xb c0 c i g:Nat) (kind:Int) (val:Bool) (v:Int) (a b d e:Bool) (h0 H:FH) (hi:i<4) (hc:c0<=c) (hx:xb<256*c) (hH:H.f xb=some (.cells false none (bools [a,b,d,e]))) (sm:Z0p c0 h0 H)
 (hv:ixV 4 true 2 (.agg Z4U.toArray) (.int .i64 i)=some (.agg #[.int .i64 kind,.func (.func g) #[] #[]]))
 (hf:∀ h c,callF G g [.agg (bools [a,b,d,e]).toArray] h c=some (.bool val,h,c)) (hval:val=true->v=kind)
 (rest:∀ (H':FH),H'.f xb=some (.cells false none (bools [a,b,d,e]))->Z0p c0 h0 H'->val=false->Ans (G (Z4g none) [.int .i64 0,.int .i64 0,ptrTo xb,.agg Z4U.toArray,.int .i64 (i+1:Nat)] H' (c+1+1+1+1) []) (KP c0 h0 c v)) :
 Ans (G (Z4g none) [.int .i64 0,.int .i64 0,ptrTo xb,.agg Z4U.toArray,.int .i64 i] H c []) (KP c0 h0 c v):=by
 have hi4:(i:Int)<4:=by omega
 obtain ⟨kb,hkb⟩:∃ b,256*(c+1)+1=b:=⟨_,rfl⟩
 obtain ⟨V,hV⟩:∃ V,Value.agg Z4U.toArray=V:=⟨_,rfl⟩
 obtain ⟨X,hX⟩:∃ V,Value.agg (bools [a,b,d,e]).toArray=V:=⟨_,rfl⟩
 have st:stN (newB H kb [.int .i64 0,.nilFunc]) 2 (.pointer (some ⟨kb,0,none⟩)) (.agg #[.int .i64 kind,.func (.func g) #[] #[]])=some (newB H kb [.int .i64 kind,.func (.func g) #[] #[]]):=by
  rw [Z0j _ 2 _ 0 _ _ rfl (by simp) rfl]; rfl
 obtain ⟨H1,hH1⟩:∃ H1,newB H kb [.int .i64 kind,.func (.func g) #[] #[]]=H1:=⟨_,rfl⟩
 have gk:Z0i H1 kb [.int .i64 kind,.func (.func g) #[] #[]]:=by rw [← hH1]; exact Z0i.newB_same _ _ _
 have l1:ld1 H1 (.pointer (some ⟨kb,1,none⟩))=some (.func (.func g) #[] #[]):=by rw [Z02 gk]; rfl
 have l0:ld1 H1 (.pointer (some ⟨kb,0,none⟩))=some (.int .i64 kind):=by rw [Z02 gk]; rfl
 have fx:H1.f xb=some (.cells false none (bools [a,b,d,e])):=by rw [← hH1,Z01,if_neg qO]; exact hH
 have lx:ldN H1 4 (.pointer (some ⟨xb,0,none⟩))=some X:=by rw [← hX]; exact Z58 fx rfl
 have s1:Z0p c0 h0 H1:=fun j hj=>by rw [← hH1,Z01,if_neg qO]; exact sm j hj
 have cf:Z3A G H1 (c+1+1+1) (.func (.func g) #[] #[]) [X]=some (.bool val,H1,c+1+1+1):=by
  rw [← hX]
  show callF G g _ _ _=_
  exact hf _ _
 rw [hH1] at st
 rw [hV] at hv rest ⊢
 obtain ⟨Y,hY⟩:∃ Y,Value.agg #[.int .i64 kind,.func (.func g) #[] #[]]=Y:=⟨_,rfl⟩
 rw [hY] at hv st
 refine Ans.lpN rfl rfl (Z4T ..) ?_
 unfold Z4h
 cases val with
 | true =>
  have fx:=ai hv (ai hkb (ai st (ai l1 (ai lx (ai cf l0)))))
  refine Ans.go ?_
  clear fx
  have hvk:=hval rfl
  subst hvk
  exact Ans.retN ⟨by dsimp only; omega,rfl,s1,.inr ⟨rfl,ptrTo xb,V,.int .i64 i,rfl⟩⟩
 | false =>
  have hr:=rest H1 fx s1 rfl
  have fx:=ai hv (ai hkb (ai st (ai l1 (ai lx (ai cf l0)))))
  refine Ans.go ?_
  clear fx
  exact Ans.nextN hr
theorem ZiH (xb c0 c:Nat) (v:Int) (h0 H:FH) (hc:c0<=c) (sm:Z0p c0 h0 H) (hv:v=4) :
 Ans (G (Z4g none) [.int .i64 0,.int .i64 0,ptrTo xb,.agg Z4U.toArray,.int .i64 4] H c []) (KP c0 h0 c v):=by
 obtain ⟨V,hV⟩:∃ V,Value.agg Z4U.toArray=V:=⟨_,rfl⟩
 rw [hV]
 refine Ans.lpN rfl rfl (Z4T ..) ?_
 unfold Z4h
 have fx:=True.intro
 refine Ans.go ?_
 clear fx
 exact Ans.exitN ⟨by dsimp only; omega,rfl,sm,.inl ⟨rfl,hv⟩⟩
theorem Zg7 (xb c0 c:Nat) (a b d e:Bool) (h0 H:FH) (hc:c0<=c) (hx:xb<256*c) (hH:H.f xb=some (.cells false none (bools [a,b,d,e]))) (sm:Z0p c0 h0 H) :
 Ans (G (Z4g none) [.int .i64 0,.int .i64 0,ptrTo xb,.agg Z4U.toArray,.int .i64 0] H c []) (KP c0 h0 c (ZaE a b d e)):=by
 have cs:=fun h c=>ZlQ a b d e h c
 have m:∀ {X:Option (Rt FH)} {v:Int} {k k':Nat},k<=k'->Ans X (KP c0 h0 k' v)->Ans X (KP c0 h0 k v):=fun hk h=>h.mono fun q hq=>hq.mono hk
 refine Z5Z xb c0 c 0 69 4 b _ a b d e h0 H qO hc hx hH sm rfl (fun h c=>(cs h c).1) (fun hb=>by simp [ZaE,hb]) fun H1 f1 s1 v1=>m (k':=c+1+1+1+1) qO ?_
 refine Z5Z xb c0 _ 1 70 1 (!a && d) _ a b d e h0 H1 qO qO qO f1 s1 rfl (fun h c=>(cs h c).2.1) (fun hb=>by revert v1 hb; cases a <;> cases b <;> cases d <;> cases e <;> simp [ZaE]) fun H2 f2 s2 v2=>m (k':=c+1+1+1+1+1+1+1+1) qO ?_
 refine Z5Z xb c0 _ 2 71 2 (!a) _ a b d e h0 H2 qO qO qO f2 s2 rfl (fun h c=>(cs h c).2.2.1) (fun hb=>by revert v1 v2 hb; cases a <;> cases b <;> cases d <;> cases e <;> simp [ZaE]) fun H3 f3 s3 v3=>m (k':=c+1+1+1+1+1+1+1+1+1+1+1+1) qO ?_
 refine Z5Z xb c0 _ 3 72 3 e _ a b d e h0 H3 qO qO qO f3 s3 rfl (fun h c=>(cs h c).2.2.2) (fun hb=>by revert v1 v2 v3 hb; cases a <;> cases b <;> cases d <;> cases e <;> simp [ZaE]) fun H4 f4 s4 v4=>m (k':=c+1+1+1+1+1+1+1+1+1+1+1+1+1+1+1+1) qO ?_
 have ha:a=true:=by simpa using v3
 exact ZiH xb c0 _ _ h0 H4 qO s4 (by subst ha; simp [ZaE,v1,v4])
def ZaF (Gl:List Int) (n:Nat):Int:=ZaE (xFr Gl n) (xRv Gl n) (xLk Gl n).1 (xLk Gl n).2
theorem Zg6 (s:Value) (n:Nat) (Gl:List Int) (h:FH) (c:Nat) (df:List Nat) (hs:SlI h c s 20 n Gl) (hn:n<=60) :
 G (.fn 13) [.agg #[s]] h c df=some ⟨.ret,[.tuple #[.int .i64 (if Z15 Gl n=true then ZaF Gl n else 0),.int .i64 (if Z15 Gl n=true then 0 else 7)]],h,c,[]⟩:=by
 refine Z14 (fun r e=>f13_go e) (OkV.tup2 _ _ _ _ _) ?_
 have Z3U:((Value.agg #[s]).cells.toList.all Z09)=true:=by simp [Value.cells,hs.flat]
 have Z4l:(Value.agg #[s]).cells.toList=[s]:=rfl
 unfold ZgS
 rw [Z3U,Z4l]
 simp only [cond_true,Nat.add_zero]
 obtain ⟨g0,hg0⟩:∃ b,256*c=b:=⟨_,rfl⟩
 obtain ⟨M,hM⟩:∃ M,newB h g0 [s]=M:=⟨_,rfl⟩
 rw [hg0,hM]
 have Mf:∀ j,M.f j=if j=g0 then some (.cells false none [s]) else h.f j:=fun j=>by rw [← hM,Z01]
 have sM:Z0p c h M:=fun j hj=>by rw [Mf,if_neg qO]
 have l0:ldN M 1 (.pointer (some ⟨g0,0,none⟩))=some (.agg #[s]):=Z1k (cs:=[]) ⟨false,none,by show M.f g0=_; rw [Mf,if_pos rfl]⟩
 have ck:=Z08 (Z73 s n Gl M (c+1+1) [] ((hs.same sM).mono qO))
 by_cases hok:Z15 Gl n=true
 · rw [if_pos ⟨by omega,hok⟩] at ck
   rw [if_pos hok,if_pos hok]
   have c42:=Z08 (Zjx s n Gl M (c+1+1+1) [] ((hs.same sM).mono qO) hok hn)
   have c43:=fun h c=>Z08 (ZjV h c [])
   obtain ⟨xb,hxb⟩:∃ b,256*(c+1+1)+2=b:=⟨_,rfl⟩
   rw [ZaF]
   obtain ⟨X1,hX1⟩:∃ X,xFr Gl n=X:=⟨_,rfl⟩
   obtain ⟨X2,hX2⟩:∃ X,xRv Gl n=X:=⟨_,rfl⟩
   obtain ⟨X3,hX3⟩:∃ X,(xLk Gl n).1=X:=⟨_,rfl⟩
   obtain ⟨X4,hX4⟩:∃ X,(xLk Gl n).2=X:=⟨_,rfl⟩
   rw [hX1,hX2,hX3,hX4] at c42 ⊢
   have st:stN (newB M xb [.bool false,.bool false,.bool false,.bool false]) 4 (.pointer (some ⟨xb,0,none⟩)) (.agg (bools [X1,X2,X3,X4]).toArray)=some (newB M xb (bools [X1,X2,X3,X4])):=by
    rw [Z0j M 4 xb 0 _ _ rfl (by simp) rfl]; rfl
   obtain ⟨H,hH⟩:∃ H,newB M xb (bools [X1,X2,X3,X4])=H:=⟨_,rfl⟩
   have sH:Z0p c h H:=fun j hj=>by rw [← hH,Z01,if_neg qO]; exact sM j hj
   obtain ⟨⟨e',vs',h',c',df'⟩,ex,k1,k2,k3,k4⟩:=Zg7 xb c (c+1+1+1+1) X1 X2 X3 X4 h H qO qO (by rw [← hH,Z01,if_pos rfl]) sH
   dsimp only at k1 k2 k3 k4
   subst k2
   rw [hH] at st
   obtain ⟨V,hV⟩:∃ V,Value.agg Z4U.toArray=V:=⟨_,rfl⟩
   simp only [hV] at c43 ex
   obtain ⟨X,hX⟩:∃ V,Value.agg (bools [X1,X2,X3,X4]).toArray=V:=⟨_,rfl⟩
   rw [hX] at c42 st
   rcases k4 with ⟨rfl,hv⟩ | ⟨rfl,x,y,z,rfl⟩
   · rw [hv]
     have fx:=ai l0 (ai ck (ai c42 (ai hxb (ai st (ai c43 ex)))))
     refine Ans.go ?_
     clear fx
     exact Ans.pure rfl k3
   · have fx:=ai l0 (ai ck (ai c42 (ai hxb (ai st (ai c43 ex)))))
     refine Ans.go ?_
     clear fx
     exact Ans.pure rfl k3
 · rw [if_neg (fun z=>hok z.2)] at ck
   rw [if_neg hok,if_neg hok]
   have fx:=ai l0 ck
   refine Ans.go ?_
   clear fx
   exact Ans.pure rfl sM

end Go.Proofs.Ytdodippbpdechaa

namespace Go.Ab
def Z0o (f:Nat->Int):Nat->Int
 | 0=>0
 | n+1=>Z0o f n+f n
theorem Z0e {f g:Nat->Int}:∀ {n:Nat},(∀ a,a<n->f a=g a)->Z0o f n=Z0o g n
 | 0,_=>rfl
 | n+1,h=>by rw [Z0o,Z0o,Z0e (n:=n) (fun a ha=>h a qO),h n qO]
theorem Z0C (f g:Nat->Int):∀ (n:Nat),Z0o (fun a=>f a+g a) n=Z0o f n+Z0o g n
 | 0=>by simp [Z0o]
 | n+1=>by rw [Z0o,Z0o,Z0o,Z0C f g n]; omega
theorem Z20 (k:Int):∀ (n:Nat),Z0o (fun _=>k) n=n*k
 | 0=>by simp [Z0o]
 | n+1=>by rw [Z0o,Z20 k n,Int.natCast_add,Int.add_mul]; simp
theorem Z7c (n:Nat):Z0o (fun _=>0) n=0:=by rw [Z20]; simp
theorem Z3R (h:Nat->Nat->Int) (N:Nat):∀ (M:Nat),Z0o (fun a=>Z0o (fun b=>h a b) N) M=Z0o (fun b=>Z0o (fun a=>h a b) M) N
 | 0=>by simp only [Z0o]; exact (Z7c N).symm
 | M+1=>by
  rw [Z0o,Z3R h N M]
  have:(fun b=>Z0o (fun a=>h a b) (M+1))=fun b=>Z0o (fun a=>h a b) M+h M b:=by funext b; rfl
  rw [this,Z0C]
theorem Z1Z (g:Nat->Int) (b0:Nat):∀ {N:Nat},Z0o (fun b=>if b=b0 then g b else 0) N=if b0<N then g b0 else 0
 | 0=>by simp [Z0o]
 | N+1=>by
  rw [Z0o,Z1Z g b0 (N:=N)]
  by_cases h1:b0<N
  · rw [if_pos h1,if_neg qO,if_pos qO]; omega
  · by_cases h2:N=b0
    · subst h2; rw [if_neg h1,if_pos rfl,if_pos qO]; omega
    · rw [if_neg h1,if_neg h2,if_neg qO]; rfl
end Go.Ab

namespace Go.Ab
open Go
theorem Z5R (f:Nat->Int):∀ n,Z0o f (4*n)=Z0o (fun x=>f (4*x)+f (4*x+1)+f (4*x+2)+f (4*x+3)) n
 | 0=>rfl
 | n+1=>by
  rw [show 4*(n+1)=4*n+1+1+1+1 by omega,Z0o,Z0o,Z0o,Z0o,Z0o,Z5R f n]
  omega
theorem Zcn (f:Nat->Int):∀ n,Z0o (fun a=>- f a) n = - Z0o f n
 | 0=>rfl
 | n+1=>by rw [Z0o,Z0o,Zcn f n]; omega
theorem Z7d {f:Nat->Int}:∀ {n:Nat},(∀ a,a<n->0<=f a)->0<=Z0o f n
 | 0,_=>by simp [Z0o]
 | n+1,h=>by
  rw [Z0o]
  have h1:=Z7d (n:=n) fun a ha=>h a qO
  have h2:=h n qO
  omega
theorem Z5d {p:Nat->Prop} [DecidablePred p] {N b:Nat} (hb:b<N) (h:p b) (hu:∀ a,a<N->p a->a=b):Z0o (fun a=>if p a then 1 else 0) N=1:=by
 have:Z0o (fun a=>if p a then (1:Int) else 0) N=Z0o (fun a=>if a=b then (1:Int) else 0) N:=Z0e fun a ha=>by
  by_cases e:a=b
  · subst e; rw [if_pos h,if_pos rfl]
  · rw [if_neg (fun q=>e (hu a ha q)),if_neg e]
 rw [this,Z1Z (fun _=>1) b,if_pos hb]
theorem Z1O {p:Nat->Prop} [DecidablePred p] {N:Nat} (h:∀ a,a<N -> ¬ p a):Z0o (fun a=>if p a then (1:Int) else 0) N=0:=by
 rw [Z0e (g:=fun _=>0) fun a ha=>if_neg (h a ha),Z7c]
theorem ZaI {s:Nat->Nat} {S:Nat->Prop} [DecidablePred S] {N:Nat} (h1:∀ a,a<N->S a->s a<N/\S (s a)/\s (s a)=a) :
 Z0o (fun a=>if S a/\a<s a then 1 else 0) N=Z0o (fun a=>if S a/\s a<a then 1 else 0) N:=by
 have A:Z0o (fun a=>if S a/\a<s a then (1:Int) else 0) N=Z0o (fun a=>Z0o (fun b=>if b=s a then (if S a/\a<b then 1 else 0) else 0) N) N:=Z0e fun a ha=>by
  rw [Z1Z (fun b=>if S a/\a<b then 1 else 0) (s a)]
  by_cases hS:S a
  · rw [if_pos (h1 a ha hS).1]
  · rw [if_neg (fun q:S a/\a<s a=>hS q.1),ite_self]
 have B:Z0o (fun b=>Z0o (fun a=>if b=s a then (if S a/\a<b then (1:Int) else 0) else 0) N) N=Z0o (fun b=>if S b/\s b<b then 1 else 0) N:=Z0e fun b hb=>by
  by_cases hS:S b
  · have:Z0o (fun a=>if b=s a then (if S a/\a<b then (1:Int) else 0) else 0) N=Z0o (fun a=>if a=s b then (if a<b then (1:Int) else 0) else 0) N:=Z0e fun a ha=>by
     obtain ⟨q1,q2,q3⟩:=h1 b hb hS
     by_cases e:a=s b
     · subst e
       rw [if_pos q3.symm,if_pos rfl]
       by_cases l:s b<b
       · rw [if_pos ⟨q2,l⟩,if_pos l]
       · rw [if_neg (fun z=>l z.2),if_neg l]
     · rw [if_neg e]
       by_cases e2:b=s a
       · rw [if_pos e2,if_neg]
         rintro ⟨z,-⟩
         have:=(h1 a ha z).2.2
         rw [← e2] at this
         exact e this.symm
       · rw [if_neg e2]
    rw [this,Z1Z (fun a=>if a<b then 1 else 0) (s b),if_pos (h1 b hb hS).1]
    by_cases l:s b<b
    · rw [if_pos l,if_pos ⟨hS,l⟩]
    · rw [if_neg l,if_neg (fun z=>l z.2)]
  · rw [if_neg (fun z=>hS z.1),Z0e (g:=fun _=>0),Z7c]
    intro a ha
    by_cases e:b=s a
    · rw [if_pos e,if_neg]
      rintro ⟨z,-⟩
      exact hS (by rw [e]; exact (h1 a ha z).2.1)
    · rw [if_neg e]
 rw [A,Z3R,B]
theorem Zes {s:Nat->Nat} {S:Nat->Prop} [DecidablePred S] {N:Nat} (h1:∀ a,a<N->S a->s a<N/\S (s a)/\s (s a)=a) (h2:∀ a,a<N->S a->s a ≠ a) :
 Z0o (fun a=>if S a then 1 else 0) N=2*Z0o (fun a=>if S a/\s a<a then 1 else 0) N:=by
 have e:Z0o (fun a=>if S a then (1:Int) else 0) N=Z0o (fun a=>(if S a/\a<s a then (1:Int) else 0)+if S a/\s a<a then (1:Int) else 0) N:=Z0e fun a ha=>by
  by_cases hS:S a
  · have:=h2 a ha hS
    rw [if_pos hS]
    by_cases l:s a<a
    · rw [if_neg qO,if_pos ⟨hS,l⟩]; rfl
    · rw [if_pos ⟨hS,by omega⟩,if_neg qO]; rfl
  · rw [if_neg hS,if_neg (fun z=>hS z.1),if_neg (fun z=>hS z.1)]; rfl
 rw [e,Z0C,ZaI h1]
 omega
theorem ZfN {L:List Int} {N:Nat} (h1:L.Nodup) (h2:∀ x,x ∈ L->0<=x/\x<N):(L.length:Int)=Z0o (fun v=>if (v:Int) ∈ L then 1 else 0) N:=by
 induction L with
 | nil=>rw [Z1O (fun a _=>by simp)]; rfl
 | cons x L ih =>
  obtain ⟨n1,n2⟩:=List.nodup_cons.1 h1
  have hx:=h2 x (by simp)
  have:=ih n2 fun y hy=>h2 y (by simp [hy])
  have e:Z0o (fun v=>if (v:Int) ∈ x::L then (1:Int) else 0) N=Z0o (fun v=>(if v=x.toNat then (1:Int) else 0)+if (v:Int) ∈ L then 1 else 0) N:=Z0e fun a ha=>by
   by_cases q:a=x.toNat
   · have qx:(a:Int)=x:=by omega
     rw [if_pos q,qx,if_pos (by simp),if_neg n1]; rfl
   · have qx:¬ (a:Int)=x:=by omega
     rw [if_neg q]
     by_cases z:(a:Int) ∈ L
     · rw [if_pos (by simp [z]),if_pos z]; rfl
     · rw [if_neg (by simp [z,qx]),if_neg z]; rfl
  rw [e,Z0C,Z1Z (fun _=>1) x.toNat,if_pos qO,← this]
  simp only [List.length_cons,Int.natCast_add]
  omega
def cl (C:List Int) (x:Nat):Nat:=Z1d C (Z06 C x)
section
variable {C:List Int} {m:Nat} (hd:Z3y C m)
 include hd
theorem Z6m {x:Nat} (hx:x<m):Z06 C x<m:=by have:=Z1w hd hx; omega
theorem ZeZ {x:Nat} (hx:x<m):cl C x<Z1d C m:=Zbt (Z6m hd hx) (Z1j hd hx)
theorem Z83 {x y:Nat} (hx:x<m) (hy:y<m):cl C x=cl C y ↔ Z06 C x=Z06 C y :=
 ⟨fun e=>Zjt (Z6m hd hx) (Z6m hd hy) (Z1j hd hx) (Z1j hd hy) e,fun e=>by unfold cl; rw [e]⟩
theorem ZlU {r:Nat} (hr:r<m) (e:Z06 C r=r):cl C r=Z1d C r:=by unfold cl; rw [e]
theorem Zh8 {v:Nat} (hv:v<Z1d C m):∃ r,r<m/\Z06 C r=r/\cl C r=v:=by
 have hl:v<(Z1z C m).length:=hv
 have hm:=List.getElem_mem hl
 obtain ⟨k,h1,h2,h3⟩:=Zbn hm
 refine ⟨k,h2,h3, ?_⟩
 rw [ZlU hd h2 h3]
 exact Z7I (m:=m) (by rw [List.getElem?_eq_getElem hl,h1])
end
theorem Z82 (C:List Int):∀ m,Z0o (fun x=>if Z06 C x=x then 1 else 0) m=(Z1d C m:Nat)
 | 0=>rfl
 | m+1=>by
  rw [Z0o,Z82 C m,Z7G]
  by_cases e:Z06 C m=m
  · rw [if_pos e,if_pos e]; rfl
  · rw [if_neg e,if_neg e]; rfl
theorem Z9D (C:List Int) {m k:Nat} (h:k<m):(Zcv C m).getD k 0=(cl C k:Nat):=Z7w C h
structure GB (Gl:List Int) (n t f:Nat):Prop where
 u:fU Gl t f<n
 j:∀ i,i<4->fJ Gl t f i<4
 inj:∀ i k,i<4->k<4->fJ Gl t f i=fJ Gl t f k->i=k
 ne:¬ (fU Gl t f=t/\fJ Gl t f f=f)
 g:¬ Z0A (Z05 Gl (fU Gl t f) (fJ Gl t f f))<0
 bu:fU Gl (fU Gl t f) (fJ Gl t f f)=t
 bj:∀ i,i<4->fJ Gl (fU Gl t f) (fJ Gl t f f) (fJ Gl t f i)=i
theorem Z3J {Gl:List Int} {n t f:Nat} (hok:Z15 Gl n=true) (hG:Gl.length=n*20) (ht:t<n) (hf:f<4) (hg:¬ Z0A (Z05 Gl t f)<0):GB Gl n t f:=by
 obtain ⟨k1,k2,k3,k4⟩:=Z3D (Z5i hok ht hf) hg
 have hp:=ZfW (Z1D (Z0q hG ht hf)) k2
 have hJ:∀ i,i<4->(Z0s (Z05 Gl t f)).getD i 0=(fJ Gl t f i:Nat)/\fJ Gl t f i<4:=fun i hi=>by
  have:=Z9x hp hi
  unfold fJ; omega
 have hfl:=hJ f hf
 have hU:Z0A (Z05 Gl t f)=(fU Gl t f:Nat):=by unfold fU; omega
 have hb:Z05 Gl (fU Gl t f) (fJ Gl t f f)=(t:Int)::inv (Z0s (Z05 Gl t f)):=k4
 have h4:=Zg4 (inv24 hp)
 have hp':Z0s ((t:Int)::inv (Z0s (Z05 Gl t f)))=inv (Z0s (Z05 Gl t f)):=by
  show (inv _).take 4=_
  exact List.take_of_length_le qO
 refine ⟨by omega,fun i hi=>(hJ i hi).2,fun i k hi hk e=>?_,fun ⟨e1,e2⟩=>k3 ⟨by omega,by omega⟩, ?_, ?_,fun i hi=>?_⟩
 · by_cases z:i=k
   · exact z
   · have:=ne24 hp hi hk z
     have:=hJ i hi
     have:=hJ k hk
     omega
 · rw [hb]
   show ¬ (t:Int)<0
   omega
 · rw [fU,hb]
   show ((t:Int)).toNat=t
   omega
 · rw [fJ,hb,hp']
   have e:(ZlT (inv (Z0s (Z05 Gl t f))) (Z0s (Z05 Gl t f))).getD i 0=[0,1,2,3].getD i (0:Int):=by rw [Zjo hp]
   rw [ZlS (Zg4 hp) hi,(hJ i hi).1,Int.toNat_natCast] at e
   rw [e]
   match i,hi with
   | 0,_=>rfl
   | 1,_=>rfl
   | 2,_=>rfl
   | 3,_=>rfl
section
variable {Gl:List Int} {n:Nat} {p:Nat × Nat}
theorem Z0w {α:Type} {c:Prop} [Decidable c] {x:α} {l:List α}:x ∈ (if c then [] else l) ↔ ¬ c/\x ∈ l:=by
 by_cases h:c
 · rw [if_pos h]; simp [h]
 · rw [if_neg h]; simp [h]
theorem Z3E {α:Type} {c:Prop} [Decidable c] {x y:α}:x ∈ (if c then [y] else []) ↔ c/\x=y:=by
 by_cases h:c
 · rw [if_pos h]; simp [h]
 · rw [if_neg h]; simp [h]
theorem ZfT:p ∈ tP Gl n ↔ ∃ t f,t<n/\f<4 /\ ¬ Z0A (Z05 Gl t f)<0/\p=(4*t+f,4*fU Gl t f+fJ Gl t f f):=by
 unfold tP tT tF
 constructor
 · intro h
   obtain ⟨t,ht,h⟩:=Z0z.1 h
   obtain ⟨f,hf,h⟩:=Z0z.1 h
   obtain ⟨h1,h2⟩:=Z0w.1 h
   exact ⟨t,f,ht,hf,h1,List.mem_singleton.1 h2⟩
 · rintro ⟨t,f,ht,hf,h1,rfl⟩
   exact Z0z.2 ⟨t,ht,Z0z.2 ⟨f,hf,Z0w.2 ⟨h1,by simp⟩⟩⟩
theorem Zkk:p ∈ vP Gl n ↔ ∃ t f i,t<n/\f<4/\i<4 /\ ¬ Z0A (Z05 Gl t f)<0/\i ≠ f/\p=(4*t+i,4*fU Gl t f+fJ Gl t f i):=by
 unfold vP vT vF vI
 constructor
 · intro h
   obtain ⟨t,ht,h⟩:=Z0z.1 h
   obtain ⟨f,hf,h⟩:=Z0z.1 h
   obtain ⟨h1,h⟩:=Z0w.1 h
   obtain ⟨i,hi,h⟩:=Z0z.1 h
   obtain ⟨h2,h3⟩:=Z0w.1 h
   exact ⟨t,f,i,ht,hf,hi,h1,h2,List.mem_singleton.1 h3⟩
 · rintro ⟨t,f,i,ht,hf,hi,h1,h2,rfl⟩
   exact Z0z.2 ⟨t,ht,Z0z.2 ⟨f,hf,Z0w.2 ⟨h1,Z0z.2 ⟨i,hi,Z0w.2 ⟨h2,by simp⟩⟩⟩⟩⟩
theorem ZfV:p ∈ dP Gl n ↔ ∃ t f i j,t<n/\f<4/\i<4/\j<4 /\ ¬ Z0A (Z05 Gl t f)<0/\i ≠ f/\j ≠ f/\j ≠ i/\p=(16*t+4*i+j,16*fU Gl t f+4*fJ Gl t f i+fJ Gl t f j):=by
 unfold dP dT dF dI dJ
 constructor
 · intro h
   obtain ⟨t,ht,h⟩:=Z0z.1 h
   obtain ⟨f,hf,h⟩:=Z0z.1 h
   obtain ⟨h1,h⟩:=Z0w.1 h
   obtain ⟨i,hi,h⟩:=Z0z.1 h
   obtain ⟨h2,h⟩:=Z0w.1 h
   obtain ⟨j,hj,h⟩:=Z0z.1 h
   obtain ⟨h3,h4⟩:=Z3E.1 h
   exact ⟨t,f,i,j,ht,hf,hi,hj,h1,h2,h3.1,h3.2,h4⟩
 · rintro ⟨t,f,i,j,ht,hf,hi,hj,h1,h2,h3,h4,rfl⟩
   exact Z0z.2 ⟨t,ht,Z0z.2 ⟨f,hf,Z0w.2 ⟨h1,Z0z.2 ⟨i,hi,Z0w.2 ⟨h2,Z0z.2 ⟨j,hj,Z3E.2 ⟨⟨h3,h4⟩,rfl⟩⟩⟩⟩⟩⟩⟩
theorem ZfU:p ∈ eP Gl n ↔ ∃ t f i j,t<n/\f<4/\i<4/\j<4 /\ ¬ Z0A (Z05 Gl t f)<0/\i ≠ f/\j ≠ f/\j ≠ i/\p=(eNo t i j,eNo (fU Gl t f) (fJ Gl t f i) (fJ Gl t f j)):=by
 unfold eP eT eF eI eJ
 constructor
 · intro h
   obtain ⟨t,ht,h⟩:=Z0z.1 h
   obtain ⟨f,hf,h⟩:=Z0z.1 h
   obtain ⟨h1,h⟩:=Z0w.1 h
   obtain ⟨i,hi,h⟩:=Z0z.1 h
   obtain ⟨h2,h⟩:=Z0w.1 h
   obtain ⟨j,hj,h⟩:=Z0z.1 h
   obtain ⟨h3,h4⟩:=Z3E.1 h
   exact ⟨t,f,i,j,ht,hf,hi,hj,h1,h2,h3.1,h3.2,h4⟩
 · rintro ⟨t,f,i,j,ht,hf,hi,hj,h1,h2,h3,h4,rfl⟩
   exact Z0z.2 ⟨t,ht,Z0z.2 ⟨f,hf,Z0w.2 ⟨h1,Z0z.2 ⟨i,hi,Z0w.2 ⟨h2,Z0z.2 ⟨j,hj,Z3E.2 ⟨⟨h3,h4⟩,rfl⟩⟩⟩⟩⟩⟩⟩
end
theorem Zh0 {t i j:Nat} (hi:i<4) (hj:j<4) (hne:j ≠ i):∃ k,k<6/\eNo t i j=6*t+k:=by
 have:=Z7W (i:=(i:Int)) (j:=(j:Int)) qO qO qO qO qO
 exact ⟨(edN i j).toNat,by omega,rfl⟩
section
variable {Gl:List Int} {n:Nat} (hok:Z15 Gl n=true) (hG:Gl.length=n*20)
 include hok hG
theorem ZkK:∀ p,p ∈ tP Gl n->p.1<4*n/\p.2<4*n:=fun p hp=>by
 obtain ⟨t,f,ht,hf,hg,rfl⟩:=ZfT.1 hp
 have b:=Z3J hok hG ht hf hg
 have:=b.u
 have:=b.j f hf
 exact ⟨by dsimp only; omega,by dsimp only; omega⟩
theorem vP_lt:∀ p,p ∈ vP Gl n->p.1<4*n/\p.2<4*n:=fun p hp=>by
 obtain ⟨t,f,i,ht,hf,hi,hg,hif,rfl⟩:=Zkk.1 hp
 have b:=Z3J hok hG ht hf hg
 have:=b.u
 have:=b.j i hi
 exact ⟨by dsimp only; omega,by dsimp only; omega⟩
theorem ZlM:∀ p,p ∈ dP Gl n->p.1<16*n/\p.2<16*n:=fun p hp=>by
 obtain ⟨t,f,i,j,ht,hf,hi,hj,hg,_,_,_,rfl⟩:=ZfV.1 hp
 have b:=Z3J hok hG ht hf hg
 have:=b.u
 have:=b.j i hi
 have:=b.j j hj
 exact ⟨by dsimp only; omega,by dsimp only; omega⟩
theorem ZlG:∀ p,p ∈ eP Gl n->p.1<6*n/\p.2<6*n:=fun p hp=>by
 obtain ⟨t,f,i,j,ht,hf,hi,hj,hg,_,_,hji,rfl⟩:=ZfU.1 hp
 have b:=Z3J hok hG ht hf hg
 have:=b.u
 obtain ⟨k,hk,e⟩:=Zh0 (t:=t) hi hj hji
 obtain ⟨k',hk',e'⟩:=Zh0 (t:=fU Gl t f) (b.j i hi) (b.j j hj) (fun q=>hji (b.inj j i hj hi q))
 exact ⟨by dsimp only; omega,by dsimp only; omega⟩
theorem Z9o:Z3y (vCs Gl n) (4*n):=(Z4s _ _ (Z0K _) (vP_lt hok hG)).1
theorem Zad:Z3y (dCs Gl n) (16*n):=(Z4s _ _ (Z0K _) (ZlM hok hG)).1
theorem ZdX:Z3y (eCs Gl n) (6*n):=(Z4s _ _ (Z0K _) (ZlG hok hG)).1
theorem Zcm:Z3y (tCs Gl n) (4*n):=(Z4s _ _ (Z0K _) (ZkK hok hG)).1
theorem Zch {t f i:Nat} (ht:t<n) (hf:f<4) (hi:i<4) (hg:¬ Z0A (Z05 Gl t f)<0) (hif:i ≠ f):Z06 (vCs Gl n) (4*t+i)=Z06 (vCs Gl n) (4*fU Gl t f+fJ Gl t f i) :=
 (Z4s _ _ (Z0K _) (vP_lt hok hG)).2.2 _ (Zkk.2 ⟨t,f,i,ht,hf,hi,hg,hif,rfl⟩)
theorem ZdZ {t f i j:Nat} (ht:t<n) (hf:f<4) (hi:i<4) (hj:j<4) (hg:¬ Z0A (Z05 Gl t f)<0) (hif:i ≠ f) (hjf:j ≠ f) (hji:j ≠ i) :
 Z06 (dCs Gl n) (16*t+4*i+j)=Z06 (dCs Gl n) (16*fU Gl t f+4*fJ Gl t f i+fJ Gl t f j) :=
 (Z4s _ _ (Z0K _) (ZlM hok hG)).2.2 _ (ZfV.2 ⟨t,f,i,j,ht,hf,hi,hj,hg,hif,hjf,hji,rfl⟩)
theorem ZjP {t f i j:Nat} (ht:t<n) (hf:f<4) (hi:i<4) (hj:j<4) (hg:¬ Z0A (Z05 Gl t f)<0) (hif:i ≠ f) (hjf:j ≠ f) (hji:j ≠ i) :
 Z06 (eCs Gl n) (eNo t i j)=Z06 (eCs Gl n) (eNo (fU Gl t f) (fJ Gl t f i) (fJ Gl t f j)) :=
 (Z4s _ _ (Z0K _) (ZlG hok hG)).2.2 _ (ZfU.2 ⟨t,f,i,j,ht,hf,hi,hj,hg,hif,hjf,hji,rfl⟩)
theorem Zhy {t f:Nat} (ht:t<n) (hf:f<4) (hg:¬ Z0A (Z05 Gl t f)<0):Z06 (tCs Gl n) (4*t+f)=Z06 (tCs Gl n) (4*fU Gl t f+fJ Gl t f f) :=
 (Z4s _ _ (Z0K _) (ZkK hok hG)).2.2 _ (ZfT.2 ⟨t,f,ht,hf,hg,rfl⟩)
theorem Z81 (S:Nat->Prop) (h:∀ t f i j,t<n->f<4->i<4->j<4 -> ¬ Z0A (Z05 Gl t f)<0->i ≠ f->j ≠ f->j ≠ i->(S (16*t+4*i+j) ↔ S (16*fU Gl t f+4*fJ Gl t f i+fJ Gl t f j))) {a b:Nat} (ha:a<16*n) (hb:b<16*n) (e:Z06 (dCs Gl n) a=Z06 (dCs Gl n) b):S a ↔ S b :=
 Z3I S (fun p hp=>by
  have:=ZlM hok hG p hp
  obtain ⟨t,f,i,j,ht,hf,hi,hj,hg,h1,h2,h3,rfl⟩:=ZfV.1 hp
  exact ⟨this.1,this.2,h t f i j ht hf hi hj hg h1 h2 h3⟩) ha hb e
theorem Zh1 (S:Nat->Prop) (h:∀ t f i j,t<n->f<4->i<4->j<4 -> ¬ Z0A (Z05 Gl t f)<0->i ≠ f->j ≠ f->j ≠ i->(S (eNo t i j) ↔ S (eNo (fU Gl t f) (fJ Gl t f i) (fJ Gl t f j)))) {a b:Nat} (ha:a<6*n) (hb:b<6*n) (e:Z06 (eCs Gl n) a=Z06 (eCs Gl n) b):S a ↔ S b :=
 Z3I S (fun p hp=>by
  have:=ZlG hok hG p hp
  obtain ⟨t,f,i,j,ht,hf,hi,hj,hg,h1,h2,h3,rfl⟩:=ZfU.1 hp
  exact ⟨this.1,this.2,h t f i j ht hf hi hj hg h1 h2 h3⟩) ha hb e
theorem Zfl (S:Nat->Prop) (h:∀ t f,t<n->f<4 -> ¬ Z0A (Z05 Gl t f)<0->(S (4*t+f) ↔ S (4*fU Gl t f+fJ Gl t f f))) {a b:Nat} (ha:a<4*n) (hb:b<4*n) (e:Z06 (tCs Gl n) a=Z06 (tCs Gl n) b):S a ↔ S b :=
 Z3I S (fun p hp=>by
  have:=ZkK hok hG p hp
  obtain ⟨t,f,ht,hf,hg,rfl⟩:=ZfT.1 hp
  exact ⟨this.1,this.2,h t f ht hf hg⟩) ha hb e
end
end Go.Ab

namespace Go.Proofs.Ytdodippbpdechaa
open Go Go.Ab Go.Proofs
abbrev nd (y:Nat):Prop:=y % 4 ≠ y / 4 % 4
abbrev frY (Gl:List Int) (y:Nat):Prop:=Z0A (Z05 Gl (y / 16) (y % 4))<0
def dSy (Gl D:List Int) (y:Nat) (z:List Int × Nat × Nat):List Int × Nat × Nat :=
 if nd y then (Zdg z.1 (D.getD y 0),if frY Gl y then (z.2.1+1,z.2.2) else (z.2.1,z.2.2+1)) else z
def dY (Gl D:List Int) (Q:Nat->Bool):Nat->List Int × Nat × Nat
 | 0=>([],0,0)
 | y+1=>if Q (y / 4)=true then dSy Gl D y (dY Gl D Q y) else dY Gl D Q y
theorem ZjU (Gl D:List Int) {x j:Nat} (hj:j<4) (z:List Int × Nat × Nat):dSt Gl D (x / 4) (x % 4) j z=dSy Gl D (4*x+j) z:=by
 have e1:(4*x+j) % 4=j:=by omega
 have e2:(4*x+j) / 4=x:=by omega
 have e3:(4*x+j) / 16=x / 4:=by omega
 have e4:16*(x / 4)+4*(x % 4)+j=4*x+j:=by omega
 unfold dSt dSy
 rw [e4]
 by_cases h:j=x % 4
 · have hn:¬ nd (4*x+j):=by
    show ¬ (4*x+j) % 4 ≠ (4*x+j) / 4 % 4
    rw [e1,e2]; exact fun q=>q h
   rw [if_pos h,if_neg hn]
 · have hn:nd (4*x+j):=by
    show (4*x+j) % 4 ≠ (4*x+j) / 4 % 4
    rw [e1,e2]; exact h
   rw [if_neg h,if_pos hn]
   by_cases hf:Z0A (Z05 Gl (x / 4) j)<0
   · have hf':frY Gl (4*x+j):=by
      show Z0A (Z05 Gl ((4*x+j) / 16) ((4*x+j) % 4))<0
      rw [e1,e3]; exact hf
     rw [if_pos hf,if_pos hf']
   · have hf':¬ frY Gl (4*x+j):=by
      show ¬ Z0A (Z05 Gl ((4*x+j) / 16) ((4*x+j) % 4))<0
      rw [e1,e3]; exact hf
     rw [if_neg hf,if_neg hf']
theorem dFs_y (Gl D:List Int) (Q:Nat->Bool) {x:Nat} (hq:Q x=true):dFs Gl D (x / 4) (x % 4) 4 0 (dY Gl D Q (4*x))=dY Gl D Q (4*(x+1)):=by
 have h0:Q ((4*x) / 4)=true:=by rw [show 4*x / 4=x by omega]; exact hq
 have h1:Q ((4*x+1) / 4)=true:=by rw [show (4*x+1) / 4=x by omega]; exact hq
 have h2:Q ((4*x+2) / 4)=true:=by rw [show (4*x+2) / 4=x by omega]; exact hq
 have h3:Q ((4*x+3) / 4)=true:=by rw [show (4*x+3) / 4=x by omega]; exact hq
 rw [show 4*(x+1)=4*x+3+1 by omega]
 simp only [dFs]
 rw [ZjU Gl D (j:=0) qO,ZjU Gl D (j:=1) qO,ZjU Gl D (j:=2) qO,ZjU Gl D (j:=3) qO,dY,if_pos h3,dY,if_pos h2,dY,if_pos h1,dY,if_pos h0]
 rfl
theorem ZlL (Gl D:List Int) (Q:Nat->Bool) {x:Nat} (hq:¬ Q x=true):dY Gl D Q (4*(x+1))=dY Gl D Q (4*x):=by
 have h:∀ j,j<4 -> ¬ Q ((4*x+j) / 4)=true:=fun j hj=>by rw [show (4*x+j) / 4=x by omega]; exact hq
 rw [show 4*(x+1)=4*x+3+1 by omega,dY,if_neg (h 3 qO),dY,if_neg (h 2 qO),dY,if_neg (h 1 qO),dY]
 exact if_neg (h 0 qO)
theorem ZaP (Gl D C:List Int):∀ (r a:Nat) (z:List Int × Nat × Nat),Ze0 Gl D C (r+1) a z=dFs Gl D (oT C (a+r)) (oC C (a+r)) 4 0 (Ze0 Gl D C r a z)
 | 0,a,z=>rfl
 | r+1,a,z=>by
  rw [Ze0,ZaP Gl D C r (a+1),Ze0,show a+1+r=a+(r+1) by omega]
theorem dZ_y (n:Nat) (Gl D:List Int) (Q:Nat->Bool):dZ n Gl D Q=dY Gl D Q (16*n):=by
 have key:∀ m,m<=4*n->Ze0 Gl D (crn Q (4*n)) (rk Q m) 0 ([],0,0)=dY Gl D Q (4*m):=by
  intro m
  induction m with
  | zero=>intro _; rfl
  | succ m ih =>
   intro hm
   have ih:=ih qO
   by_cases hq:Q m=true
   · obtain ⟨e1,e2⟩:=Zl5 (Q:=Q) (x:=m) (m:=4*n) hq qO
     rw [rk,if_pos hq,ZaP,Nat.zero_add,e1,e2,ih,dFs_y Gl D Q hq]
   · rw [rk,if_neg hq,Nat.add_zero,ih,ZlL Gl D Q hq]
 unfold dZ
 rw [key (4*n) (Nat.le_refl _),show 4*(4*n)=16*n by omega]
theorem Zh4 (Gl D:List Int) (Q:Nat->Bool):∀ m,((dY Gl D Q m).2.1:Int)=Z0o (fun y=>if Q (y / 4)=true/\nd y/\frY Gl y then 1 else 0) m
 | 0=>rfl
 | m+1=>by
  rw [dY,Z0o,← Zh4 Gl D Q m]
  by_cases hq:Q (m / 4)=true
  · rw [if_pos hq,dSy]
    by_cases hn:nd m
    · rw [if_pos hn]
      by_cases hf:frY Gl m
      · rw [if_pos hf,if_pos ⟨hq,hn,hf⟩]; rfl
      · rw [if_neg hf,if_neg (fun z=>hf z.2.2)]; simp
    · rw [if_neg hn,if_neg (fun z=>hn z.2.1)]; simp
  · rw [if_neg hq,if_neg (fun z=>hq z.1)]; simp
theorem Zc4 (Gl D:List Int) (Q:Nat->Bool):∀ m,((dY Gl D Q m).2.2:Int)=Z0o (fun y=>if Q (y / 4)=true/\nd y /\ ¬ frY Gl y then 1 else 0) m
 | 0=>rfl
 | m+1=>by
  rw [dY,Z0o,← Zc4 Gl D Q m]
  by_cases hq:Q (m / 4)=true
  · rw [if_pos hq,dSy]
    by_cases hn:nd m
    · rw [if_pos hn]
      by_cases hf:frY Gl m
      · rw [if_pos hf,if_neg (fun z=>z.2.2 hf)]; simp
      · rw [if_neg hf,if_pos ⟨hq,hn,hf⟩]; rfl
    · rw [if_neg hn,if_neg (fun z=>hn z.2.1)]; simp
  · rw [if_neg hq,if_neg (fun z=>hq z.1)]; simp
theorem Zi0 {L:List Int} {x v:Int}:v ∈ Zdg L x ↔ v ∈ L ∨ v=x:=by
 unfold Zdg
 by_cases h:x ∈ L
 · rw [if_pos h]
   exact ⟨.inl,fun q=>q.elim id fun e=>e ▸ h⟩
 · rw [if_neg h]; simp
theorem Zel {L:List Int} (x:Int) (h:L.Nodup):(Zdg L x).Nodup:=by
 unfold Zdg
 by_cases q:x ∈ L
 · rw [if_pos q]; exact h
 · rw [if_neg q,List.nodup_append]
   refine ⟨h,by simp,fun a ha b hb=>?_⟩
   rw [List.mem_singleton] at hb
   rw [hb]
   exact fun e=>q (e ▸ ha)
theorem Zh3 (Gl D:List Int) (Q:Nat->Bool) (v:Int):∀ m,v ∈ (dY Gl D Q m).1 ↔ ∃ y,y<m/\Q (y / 4)=true/\nd y/\D.getD y 0=v
 | 0=>by simp [dY]
 | m+1=>by
  have ih:=Zh3 Gl D Q v m
  have up:(∃ y,y<m/\Q (y / 4)=true/\nd y/\D.getD y 0=v) -> ∃ y,y<m+1/\Q (y / 4)=true/\nd y/\D.getD y 0=v:=fun ⟨y,h,q⟩=>⟨y,by omega,q⟩
  have dn:¬ (Q (m / 4)=true/\nd m/\D.getD m 0=v)->(∃ y,y<m+1/\Q (y / 4)=true/\nd y/\D.getD y 0=v) -> ∃ y,y<m/\Q (y / 4)=true/\nd y/\D.getD y 0=v:=fun hn ⟨y,h,q⟩=>by
   by_cases e:y=m
   · exact absurd (e ▸ q) hn
   · exact ⟨y,by omega,q⟩
  rw [dY]
  by_cases hq:Q (m / 4)=true
  · rw [if_pos hq,dSy]
    by_cases hn:nd m
    · rw [if_pos hn]
      show v ∈ Zdg _ _ ↔ _
      rw [Zi0,ih]
      constructor
      · rintro (h | h)
        · exact up h
        · exact ⟨m,by omega,hq,hn,h.symm⟩
      · intro h
        by_cases e:D.getD m 0=v
        · exact .inr e.symm
        · exact .inl (dn (fun z=>e z.2.2) h)
    · rw [if_neg hn,ih]
      exact ⟨up,dn fun z=>hn z.2.1⟩
  · rw [if_neg hq,ih]
    exact ⟨up,dn fun z=>hq z.1⟩
theorem ZdY (Gl D:List Int) (Q:Nat->Bool):∀ m,(dY Gl D Q m).1.Nodup
 | 0=>by simp [dY]
 | m+1=>by
  have ih:=ZdY Gl D Q m
  rw [dY]
  by_cases hq:Q (m / 4)=true
  · rw [if_pos hq,dSy]
    by_cases hn:nd m
    · rw [if_pos hn]; exact Zel _ ih
    · rw [if_neg hn]; exact ih
  · rw [if_neg hq]; exact ih
theorem Zkg (Q:Nat->Bool):∀ m,(rk Q m:Int)=Z0o (fun x=>if Q x=true then 1 else 0) m
 | 0=>rfl
 | m+1=>by
  rw [rk,Z0o,← Zkg Q m]
  by_cases hq:Q m=true
  · rw [if_pos hq,if_pos hq]; rfl
  · rw [if_neg hq,if_neg hq]; rfl
def sE (E D:List Int) (z:List Int × List Bool):Nat->List Int × List Bool
 | 0=>z
 | e+1=>sSt E D (e / 6) (e % 6) (sE E D z e)
theorem sKs_e (E D:List Int) (z0:List Int × List Bool) (t:Nat):∀ (r k:Nat),k+r<=6->sKs E D t r k (sE E D z0 (6*t+k))=sE E D z0 (6*t+k+r)
 | 0,k,_=>rfl
 | r+1,k,h=>by
  have e:sSt E D t k (sE E D z0 (6*t+k))=sE E D z0 (6*t+(k+1)):=by
   rw [show 6*t+(k+1)=6*t+k+1 by omega,sE,show (6*t+k) / 6=t by omega,show (6*t+k) % 6=k by omega]
  rw [sKs,e,sKs_e E D z0 t r (k+1) qO,show 6*t+(k+1)+r=6*t+k+(r+1) by omega]
theorem sTs_e (E D:List Int) (z0:List Int × List Bool):∀ (r t:Nat),sTs E D r t (sE E D z0 (6*t))=sE E D z0 (6*(t+r))
 | 0,t=>rfl
 | r+1,t=>by
  have:=sKs_e E D z0 t 6 0 qO
  rw [Nat.add_zero] at this
  rw [sTs,this,show 6*t+6=6*(t+1) by omega,sTs_e E D z0 r (t+1),show t+1+r=t+(r+1) by omega]
theorem skZ_e (Gl:List Int) (n:Nat):skZ Gl n=sE (eN Gl n) (dN Gl n) (List.replicate (nE Gl n) 0,List.replicate (nE Gl n) false) (6*n):=by
 have:=sTs_e (eN Gl n) (dN Gl n) (List.replicate (nE Gl n) 0,List.replicate (nE Gl n) false) n 0
 rw [Nat.zero_add,Nat.mul_zero] at this
 exact this
abbrev rvE (D:List Int) (e:Nat):Prop:=D.getD (16*(e / 6)+4*eAn (e % 6)+eBn (e % 6)) 0=D.getD (16*(e / 6)+4*eBn (e % 6)+eAn (e % 6)) 0
theorem Zgd (l:List Bool) (i j:Nat) (x:Bool):(l.set i x).getD j false=if i=j/\i<l.length then x else l.getD j false:=by
 simp only [List.getD_eq_getElem?_getD,List.getElem?_set]
 by_cases h:i=j
 · subst h
   by_cases h2:i<l.length
   · simp [h2]
   · simp [h2]
 · simp [h]
theorem Zfs (E D:List Int) (z:List Int × List Bool):∀ m,(sE E D z m).1.length=z.1.length/\(sE E D z m).2.length=z.2.length
 | 0=>⟨rfl,rfl⟩
 | m+1=>by
  obtain ⟨h1,h2⟩:=Zfs E D z m
  rw [sE,sSt]
  refine ⟨by rw [List.length_set]; exact h1, ?_⟩
  dsimp only
  split
  · rw [List.length_set]; exact h2
  · exact h2
theorem Zke (E D:List Int) (N:Nat) {v:Nat} (hv:v<N):∀ m,(∀ e,e<m->0<=E.getD e 0/\E.getD e 0<N)->((sE E D (List.replicate N 0,List.replicate N false) m).2.getD v false=true ↔ ∃ e,e<m/\E.getD e 0=v/\rvE D e)
 | 0,_=>by simp [sE,List.getD_eq_getElem?_getD,hv]
 | m+1,h=>by
  have ih:=Zke E D N hv m fun e he=>h e qO
  have hl:=(Zfs E D (List.replicate N 0,List.replicate N false) m).2
  rw [List.length_replicate] at hl
  have hm:=h m qO
  have up:(∃ e,e<m/\E.getD e 0=v/\rvE D e) -> ∃ e,e<m+1/\E.getD e 0=v/\rvE D e:=fun ⟨y,h,q⟩=>⟨y,by omega,q⟩
  have dn:¬ (E.getD m 0=v/\rvE D m)->(∃ e,e<m+1/\E.getD e 0=v/\rvE D e) -> ∃ e,e<m/\E.getD e 0=v/\rvE D e:=fun hn ⟨y,h,q⟩=>by
   by_cases e:y=m
   · exact absurd (e ▸ q) hn
   · exact ⟨y,by omega,q⟩
  rw [sE,sSt,show 6*(m / 6)+m % 6=m by omega]
  dsimp only
  by_cases hr:rvE D m
  · rw [if_pos hr,Zgd]
    by_cases e:E.getD m 0=v
    · rw [if_pos ⟨by omega,by omega⟩]
      exact ⟨fun _=>⟨m,by omega,e,hr⟩,fun _=>rfl⟩
    · rw [if_neg (fun z=>e qO),ih]
      exact ⟨up,dn fun z=>e z.1⟩
  · rw [if_neg hr,ih]
    exact ⟨up,dn fun z=>hr z.2⟩

theorem vN_at {Gl:List Int} {n x:Nat} (hx:x<4*n):(vN Gl n).getD x 0=(cl (vCs Gl n) x:Nat):=Z9D _ hx
theorem Zh5 {Gl:List Int} {n x:Nat} (hx:x<16*n):(dN Gl n).getD x 0=(cl (dCs Gl n) x:Nat):=Z9D _ hx
theorem eN_at {Gl:List Int} {n x:Nat} (hx:x<6*n):(eN Gl n).getD x 0=(cl (eCs Gl n) x:Nat):=Z9D _ hx
theorem tN_at {Gl:List Int} {n x:Nat} (hx:x<4*n):(tN Gl n).getD x 0=(cl (tCs Gl n) x:Nat):=Z9D _ hx
theorem Z6r {Gl:List Int} {n x k:Nat} (hx:x<4*n):inC (vN Gl n) k x=true ↔ cl (vCs Gl n) x=k:=by
 unfold inC
 rw [vN_at hx,decide_eq_true_eq]
 omega
theorem Zdj (P:Nat->Nat->Prop) [∀ a b,Decidable (P a b)] (n:Nat):Z0o (fun y=>if nd y/\P (y / 16) (y % 4) then (1:Int) else 0) (16*n)=3*Z0o (fun x=>if P (x / 4) (x % 4) then 1 else 0) (4*n):=by
 have mul3:∀ (f:Nat->Int) m,3*Z0o f m=Z0o (fun a=>f a+f a+f a) m:=fun f m=>by
  rw [Z0C,Z0C]; omega
 rw [show 16*n=4*(4*n) by omega,Z5R,Z5R,Z5R,mul3]
 refine Z0e fun t _=>?_
 have h:∀ i j,i<4->j<4->(if nd (4*(4*t+i)+j)/\P ((4*(4*t+i)+j) / 16) ((4*(4*t+i)+j) % 4) then (1:Int) else 0)=if j ≠ i/\P t j then 1 else 0:=fun i j hi hj=>by
  have e1:(4*(4*t+i)+j) / 16=t:=by omega
  have e2:(4*(4*t+i)+j) % 4=j:=by omega
  have e3:(4*(4*t+i)+j) / 4 % 4=i:=by omega
  have e4:nd (4*(4*t+i)+j) ↔ j ≠ i:=by
   show (4*(4*t+i)+j) % 4 ≠ (4*(4*t+i)+j) / 4 % 4 ↔ _
   rw [e2,e3]
  by_cases q:j ≠ i/\P t j
  · rw [if_pos q,if_pos ⟨e4.2 q.1,by rw [e1,e2]; exact q.2⟩]
  · rw [if_neg q,if_neg]
    rintro ⟨z1,z2⟩
    rw [e1,e2] at z2
    exact q ⟨e4.1 z1,z2⟩
 have g:∀ j,j<4->(if P ((4*t+j) / 4) ((4*t+j) % 4) then (1:Int) else 0)=if P t j then 1 else 0:=fun j hj=>by
  have e1:(4*t+j) / 4=t:=by omega
  have e2:(4*t+j) % 4=j:=by omega
  by_cases q:P t j
  · rw [if_pos q,if_pos (by rw [e1,e2]; exact q)]
  · rw [if_neg q,if_neg (by rw [e1,e2]; exact q)]
 have h0:=fun j hj=>h 0 j qO hj
 have g0:=g 0 qO
 simp only [Nat.add_zero] at h0 g0
 have h00:=h0 0 qO
 have h10:=h 1 0 qO qO
 have h20:=h 2 0 qO qO
 have h30:=h 3 0 qO qO
 simp only [Nat.add_zero] at h00 h10 h20 h30
 rw [h00,h10,h20,h30,h0 1 qO,h0 2 qO,h0 3 qO,h 1 1 qO qO,h 1 2 qO qO,h 1 3 qO qO,h 2 1 qO qO,h 2 2 qO qO,h 2 3 qO qO,
  h 3 1 qO qO,h 3 2 qO qO,h 3 3 qO qO,g0,g 1 qO,g 2 qO,g 3 qO]
 by_cases p0:P t 0 <;> by_cases p1:P t 1 <;> by_cases p2:P t 2 <;> by_cases p3:P t 3 <;> simp [p0,p1,p2,p3]
def sgF (Gl:List Int) (y:Nat):Nat:=16*fU Gl (y / 16) (y % 4)+4*fJ Gl (y / 16) (y % 4) (y / 4 % 4)+fJ Gl (y / 16) (y % 4) (y % 4)
def sgT (Gl:List Int) (x:Nat):Nat:=if Z0A (Z05 Gl (x / 4) (x % 4))<0 then x else 4*fU Gl (x / 4) (x % 4)+fJ Gl (x / 4) (x % 4) (x % 4)
section
variable {Gl:List Int} {n:Nat} (hok:Z15 Gl n=true) (hG:Gl.length=n*20)
 include hok hG
theorem Zkd {y:Nat} (hy:y<16*n) (hn:nd y) (hf:¬ frY Gl y):sgF Gl y<16*n/\nd (sgF Gl y) /\ ¬ frY Gl (sgF Gl y)/\sgF Gl (sgF Gl y)=y/\sgF Gl y ≠ y/\Z06 (vCs Gl n) (sgF Gl y / 4)=Z06 (vCs Gl n) (y / 4):=by
 obtain ⟨t,ht⟩:∃ t,y / 16=t:=⟨_,rfl⟩
 obtain ⟨i,hi⟩:∃ i,y / 4 % 4=i:=⟨_,rfl⟩
 obtain ⟨j,hj⟩:∃ j,y % 4=j:=⟨_,rfl⟩
 have hf':¬ Z0A (Z05 Gl t j)<0:=by rw [← ht,← hj]; exact hf
 have hn':j ≠ i:=by rw [← hi,← hj]; exact hn
 have b:=Z3J hok hG (t:=t) (f:=j) qO qO hf'
 have hu:=b.u
 have h1:=b.j i qO
 have h2:=b.j j qO
 have h3:fJ Gl t j j ≠ fJ Gl t j i:=fun e=>hn' (b.inj j i qO qO e)
 have es:sgF Gl y=16*fU Gl t j+4*fJ Gl t j i+fJ Gl t j j:=by unfold sgF; rw [ht,hi,hj]
 have z1:sgF Gl y / 16=fU Gl t j:=by omega
 have z2:sgF Gl y / 4 % 4=fJ Gl t j i:=by omega
 have z3:sgF Gl y % 4=fJ Gl t j j:=by omega
 have z4:sgF Gl y / 4=4*fU Gl t j+fJ Gl t j i:=by omega
 refine ⟨by omega, ?_, ?_, ?_, ?_, ?_⟩
 · show sgF Gl y % 4 ≠ sgF Gl y / 4 % 4
   rw [z2,z3]; exact h3
 · show ¬ Z0A (Z05 Gl (sgF Gl y / 16) (sgF Gl y % 4))<0
   rw [z1,z3]; exact b.g
 · rw [show sgF Gl (sgF Gl y)=16*fU Gl (sgF Gl y / 16) (sgF Gl y % 4)+4*fJ Gl (sgF Gl y / 16) (sgF Gl y % 4) (sgF Gl y / 4 % 4)+fJ Gl (sgF Gl y / 16) (sgF Gl y % 4) (sgF Gl y % 4) from rfl,z1,z2,z3,b.bu,b.bj i qO,b.bj j qO]
   omega
 · intro e
   exact b.ne ⟨by omega,by omega⟩
 · rw [z4,show y / 4=4*t+i by omega]
   exact (Zch hok hG qO qO qO hf' (Ne.symm hn')).symm
theorem Z8t {x:Nat} (hx:x<4*n):sgT Gl x<4*n/\sgT Gl (sgT Gl x)=x/\(sgT Gl x=x ↔ Z0A (Z05 Gl (x / 4) (x % 4))<0)/\Z06 (tCs Gl n) (sgT Gl x)=Z06 (tCs Gl n) x:=by
 by_cases hf:Z0A (Z05 Gl (x / 4) (x % 4))<0
 · have e:sgT Gl x=x:=if_pos hf
   rw [e,e]
   exact ⟨hx,rfl,⟨fun _=>hf,fun _=>rfl⟩,rfl⟩
 · obtain ⟨t,ht⟩:∃ t,x / 4=t:=⟨_,rfl⟩
   obtain ⟨f,hf'⟩:∃ f,x % 4=f:=⟨_,rfl⟩
   rw [ht,hf'] at hf
   have e:sgT Gl x=4*fU Gl t f+fJ Gl t f f:=by
    unfold sgT
    rw [ht,hf',if_neg hf]
   have b:=Z3J hok hG (t:=t) (f:=f) qO qO hf
   have hu:=b.u
   have h2:=b.j f qO
   have z1:sgT Gl x / 4=fU Gl t f:=by omega
   have z2:sgT Gl x % 4=fJ Gl t f f:=by omega
   refine ⟨by omega, ?_,⟨fun q=>?_,fun q=>?_⟩, ?_⟩
   · have:sgT Gl (sgT Gl x)=if Z0A (Z05 Gl (sgT Gl x / 4) (sgT Gl x % 4))<0 then sgT Gl x else 4*fU Gl (sgT Gl x / 4) (sgT Gl x % 4)+fJ Gl (sgT Gl x / 4) (sgT Gl x % 4) (sgT Gl x % 4):=rfl
     rw [this,z1,z2,if_neg b.g,b.bu,b.bj f qO]
     omega
   · exact absurd ⟨by omega,by omega⟩ b.ne
   · rw [ht,hf'] at q; exact absurd q hf
   · rw [e,show x=4*t+f by omega]
     exact (Zhy hok hG qO qO hf).symm
theorem Zfk {x:Nat} (hx:x<4*n):Z06 (tCs Gl n) x=x ↔ x<=sgT Gl x:=by
 obtain ⟨h1,h2,h3,h4⟩:=Z8t hok hG hx
 have hd:=Zcm hok hG
 have l1:=Z1w hd h1
 have l2:=Z1w hd hx
 constructor
 · intro e; omega
 · intro e
   have hr:=Z6m hd hx
   have:=(Zfl hok hG (fun w=>w=x ∨ w=sgT Gl x) (fun t f ht hf hg=>?_) (a:=Z06 (tCs Gl n) x) (b:=x) hr hx (Z1j hd hx)).2 (.inl rfl)
   · omega
   · have e1:sgT Gl (4*t+f)=4*fU Gl t f+fJ Gl t f f:=by
      unfold sgT
      rw [show (4*t+f) / 4=t by omega,show (4*t+f) % 4=f by omega,if_neg hg]
     have e2:=(Z8t hok hG (x:=4*t+f) qO).2.1
     rw [e1] at e2
     constructor
     · rintro (rfl | q)
       · exact .inr e1.symm
       · refine .inl ?_
         rw [← e1,q]; exact h2
     · rintro (q | q)
       · refine .inr ?_
         rw [← q,e2]
       · refine .inl ?_
         rw [← e2,q]; exact h2
theorem Zaq:2*((Z1d (tCs Gl n) (4*n):Nat):Int)=4*n+Z0o (fun x=>if Z0A (Z05 Gl (x / 4) (x % 4))<0 then 1 else 0) (4*n):=by
 rw [← Z82]
 have A:Z0o (fun x=>if Z06 (tCs Gl n) x=x then (1:Int) else 0) (4*n)=Z0o (fun x=>(if True/\x<sgT Gl x then (1:Int) else 0)+if Z0A (Z05 Gl (x / 4) (x % 4))<0 then 1 else 0) (4*n):=Z0e fun x hx=>by
  have r:=Zfk hok hG hx
  have s:=(Z8t hok hG hx).2.2.1
  by_cases q:Z0A (Z05 Gl (x / 4) (x % 4))<0
  · have:=s.2 q
    rw [if_pos q,if_pos (r.2 qO),if_neg qO]; rfl
  · have:sgT Gl x ≠ x:=fun z=>q (s.1 z)
    rw [if_neg q]
    by_cases l:x<sgT Gl x
    · rw [if_pos (r.2 qO),if_pos ⟨trivial,l⟩]; rfl
    · rw [if_neg (fun z=>by have:=r.1 z; omega),if_neg (fun z=>l z.2)]; rfl
 have B:=ZaI (s:=sgT Gl) (S:=fun _=>True) (N:=4*n) fun x hx _=>⟨(Z8t hok hG hx).1,trivial,(Z8t hok hG hx).2.1⟩
 have T:Z0o (fun x=>((if True/\x<sgT Gl x then (1:Int) else 0)+if True/\sgT Gl x<x then (1:Int) else 0)+if Z0A (Z05 Gl (x / 4) (x % 4))<0 then 1 else 0) (4*n)=4*n:=by
  rw [Z0e (g:=fun _=>1) fun x hx=>?_,Z20]
  · omega
  · have s:=(Z8t hok hG hx).2.2.1
    by_cases q:Z0A (Z05 Gl (x / 4) (x % 4))<0
    · have:=s.2 q
      rw [if_pos q,if_neg qO,if_neg qO]; rfl
    · have:sgT Gl x ≠ x:=fun z=>q (s.1 z)
      rw [if_neg q]
      by_cases l:x<sgT Gl x
      · rw [if_pos ⟨trivial,l⟩,if_neg qO]; rfl
      · rw [if_neg (fun z=>l z.2),if_pos ⟨trivial,by omega⟩]; rfl
 rw [Z0C] at A
 rw [Z0C,Z0C] at T
 omega
theorem Z7b (P:Nat->Prop) [DecidablePred P] (m:Nat) (w:Nat->Nat) (hw:∀ y,y<m->w y<4*n):Z0o (fun k=>Z0o (fun y=>if inC (vN Gl n) k (w y)=true/\P y then (1:Int) else 0) m) (nV Gl n)=Z0o (fun y=>if P y then 1 else 0) m:=by
 have hd:=Z9o hok hG
 rw [Z3R]
 refine Z0e fun y hy=>?_
 have hx:=hw y hy
 by_cases p:P y
 · rw [if_pos p]
   refine Z5d (p:=fun k:Nat=>inC (vN Gl n) k (w y)=true/\P y) (b:=cl (vCs Gl n) (w y)) (ZeZ hd hx) ⟨(Z6r hx).2 rfl,p⟩ fun k _ q=>((Z6r hx).1 q.1).symm
 · rw [if_neg p]
   exact Z1O (p:=fun k:Nat=>inC (vN Gl n) k (w y)=true/\P y) fun k _ q=>p q.2
theorem Zg3:Z0o (fun k=>(rk (inC (vN Gl n) k) (4*n):Int)) (nV Gl n)=4*n:=by
 have:=Z7b hok hG (fun _=>True) (4*n) (fun y=>y) (fun y h=>h)
 rw [Z0e (g:=fun _=>1) (fun y _=>if_pos trivial),Z20] at this
 rw [Z0e (g:=fun k=>Z0o (fun y=>if inC (vN Gl n) k y=true/\True then (1:Int) else 0) (4*n)),this]
 · omega
 · intro k _
   rw [Zkg]
   exact Z0e fun y _=>by simp
theorem Zep:Z0o (fun k=>((dZ n Gl (dN Gl n) (inC (vN Gl n) k)).2.1:Int)) (nV Gl n)=3*Z0o (fun x=>if Z0A (Z05 Gl (x / 4) (x % 4))<0 then 1 else 0) (4*n):=by
 rw [← Zdj (fun t f=>Z0A (Z05 Gl t f)<0) n,← Z7b hok hG (fun y=>nd y/\frY Gl y) (16*n) (fun y=>y / 4) (fun y h=>by omega)]
 refine Z0e fun k _=>?_
 rw [dZ_y,Zh4]
theorem Zeo:Z0o (fun k=>((dZ n Gl (dN Gl n) (inC (vN Gl n) k)).2.2:Int)) (nV Gl n)=3*(4*n-Z0o (fun x=>if Z0A (Z05 Gl (x / 4) (x % 4))<0 then 1 else 0) (4*n)):=by
 have e:Z0o (fun x=>if ¬ Z0A (Z05 Gl (x / 4) (x % 4))<0 then (1:Int) else 0) (4*n)=4*n-Z0o (fun x=>if Z0A (Z05 Gl (x / 4) (x % 4))<0 then 1 else 0) (4*n):=by
  have:Z0o (fun x=>(if ¬ Z0A (Z05 Gl (x / 4) (x % 4))<0 then (1:Int) else 0)+if Z0A (Z05 Gl (x / 4) (x % 4))<0 then 1 else 0) (4*n)=4*n:=by
   rw [Z0e (g:=fun _=>1) fun x _=>?_,Z20]
   · omega
   · by_cases q:Z0A (Z05 Gl (x / 4) (x % 4))<0
     · rw [if_neg (fun z=>z q),if_pos q]; rfl
     · rw [if_pos q,if_neg q]; rfl
  rw [Z0C] at this
  omega
 rw [← e,← Zdj (fun t f=>¬ Z0A (Z05 Gl t f)<0) n,← Z7b hok hG (fun y=>nd y /\ ¬ frY Gl y) (16*n) (fun y=>y / 4) (fun y h=>by omega)]
 refine Z0e fun k _=>?_
 rw [dZ_y,Zc4]
theorem Zgb (k:Nat):∃ m:Nat,(dZ n Gl (dN Gl n) (inC (vN Gl n) k)).2.2=2*m:=by
 have hd:=Z9o hok hG
 have h:=Zes (s:=sgF Gl) (S:=fun y=>inC (vN Gl n) k (y / 4)=true/\nd y /\ ¬ frY Gl y) (N:=16*n) (fun y hy q=>by
  obtain ⟨s1,s2,s3,s4,s5,s6⟩:=Zkd hok hG hy q.2.1 q.2.2
  refine ⟨s1,⟨?_,s2,s3⟩,s4⟩
  have:=(Z6r qO).1 q.1
  exact (Z6r qO).2 (((Z83 hd qO qO).2 s6).trans this)) (fun y hy q=>(Zkd hok hG hy q.2.1 q.2.2).2.2.2.2.1)
 have h0:=Z7d (f:=fun y=>if (inC (vN Gl n) k (y / 4)=true/\nd y /\ ¬ frY Gl y)/\sgF Gl y<y then (1:Int) else 0) (n:=16*n) fun y _=>by split <;> omega
 rw [dZ_y]
 have e:=Zc4 Gl (dN Gl n) (inC (vN Gl n) k) (16*n)
 obtain ⟨m,hm⟩:=Int.eq_ofNat_of_zero_le h0
 refine ⟨m, ?_⟩
 rw [h] at e
 rw [hm] at e
 omega
end
end Go.Proofs.Ytdodippbpdechaa
