/- Parts of a proof: B3 V2 V3 U12 V4 F3 F4 P1 B4 B5. Conditions: none. -/
import Derived.Test.YtcnndelmnobigaaM21
import Derived.Test.YtcnndelmnobigaaM18
import Derived.Test.YtcnndelmnobigaaM17
import Derived.Test.YtcnndelmnobigaaM20
set_option linter.all false
set_option maxRecDepth 100000
namespace Go.Proofs.Ytcnndelmnobigaa
open Go Go.Ab Go.Proofs
theorem Ziy (h0:FH) (b m c:Nat) (df:List Nat) (hb:b<256*c) (hm:m<=1000000) :
 ∀ (k i:Nat) (X:List Int),i+k=m->X.length=m->(∀ j,j<i->X.getD j 0=j) →
 Ans (G (Zc1 none) [.int .i64 m,.slice (some ⟨b,0,none⟩) m m,.int .i64 i] (newB h0 b (ints X)) c df) fun r=>r=⟨.exit 0,[.int .i64 m,.slice (some ⟨b,0,none⟩) m m,.int .i64 m],newB h0 b (ints (Z0v m)),c,df⟩:=by
 intro k
 induction k with
 | zero =>
  intro i X hi hX hf
  obtain rfl:i=m:=by omega
  have e:X=Z0v i:=Z1g (m:=i) hX (by simp [Z0v]) fun j hj=>by rw [hf j hj,Z2n hj]
  rw [e]
  refine Ans.lpG rfl rfl (Z7M ..) ?_
  unfold Z8A
  have fx:=True.intro
  refine Ans.go ?_
  clear fx
  (have fx:=hb; refine Ans.ex0 ?_; clear fx)
  rfl
 | succ k ih =>
  intro i X hi hX hf
  have hs:stN (newB h0 b (ints X)) 1 (.pointer (some ⟨b,i,none⟩)) (.int .i64 i)=some (newB h0 b (ints (X.set i i))):=by
   rw [st1_int _ _ _ _ _ _ (by simp; omega),Z0K]
  refine Ans.lpG rfl rfl (Z7M ..) ?_
  unfold Z8A
  have fx:=hs
  refine Ans.go ?_
  clear fx
  (have fx:=hb; refine Ans.nxB (B:=newB h0 b (ints (X.set i i))) ?_ ?_; exact (Z1A.both (Z1c.ints _ _) (Z1A.refl _ _) hb); clear fx)
  refine ih (i+1) (X.set i i) qO (by simp [hX]) (fun j hj=>?_)
  rw [Z0m]
  by_cases e:i=j
  · rw [if_pos ⟨e,by omega⟩,e]
  · rw [if_neg (fun q=>e q.1)]; exact hf j qO
theorem Zm3 (m:Nat) (h:FH) (c:Nat) (df:List Nat) (hm:m<=1000000) :
 G (.fn 78) [.int .i64 m] h c df=some ⟨.ret,[.slice (some ⟨256*(c+1)+1,0,none⟩) m m],newB h (256*(c+1)+1) (ints (Z0v m)),c+1+1+1+1,[]⟩:=by
 refine Ans.eq (Ans.call' (fun r e=>f78_go e) ?_)
 unfold Zr3
 have mk:=Z5m 1 8 .i64 .i64 m qO qO
 obtain ⟨B,hB⟩:∃ B,256*(c+1)+1=B:=⟨_,rfl⟩
 rw [hB]
 have hl:=Ans.eq (Ziy h B m (c+1+1+1) [] qO hm m 0 (List.replicate m 0) qO (by simp) (fun j hj=>by omega))
 simp only [Int.ofNat_eq_natCast,Int.cast_ofNat_Int] at hl
 have fx:=ai mk hl
 refine Ans.go ?_
 clear fx
 exact .done rfl
theorem Zfl (h0:FH) (b m c:Nat) (x y:Int) (df:List Nat) (hb:b<256*c) (hm:m<=1000000) :
 ∀ (r i:Nat) (X:List Int),i+r=m->X.length=m →
 Ans (G (Zc0 none) [.slice (some ⟨b,0,none⟩) m m,.int .i64 x,.int .i64 y,.int .i64 i] (newB h0 b (ints X)) c df) fun q=>q=⟨.exit 0,[.slice (some ⟨b,0,none⟩) m m,.int .i64 x,.int .i64 y,.int .i64 m],newB h0 b (ints (mgK x y r i X)),c,df⟩:=by
 intro r
 induction r with
 | zero =>
  intro i X hi hX
  obtain rfl:i=m:=by omega
  refine Ans.lpG rfl rfl (Z5v ..) ?_
  unfold Z6E
  have fx:=True.intro
  refine Ans.go ?_
  clear fx
  (have fx:=hb; refine Ans.ex0 ?_; clear fx)
  rfl
 | succ r ih =>
  intro i X hi hX
  have hs:stN (newB h0 b (ints X)) 1 (.pointer (some ⟨b,i,none⟩)) (.int .i64 x)=some (newB h0 b (ints (X.set i x))):=by
   rw [st1_int _ _ _ _ _ _ (by simp; omega),Z0K]
  have l1:ld1 (newB h0 b (ints X)) (.pointer (some ⟨b,i,none⟩))=some (.int .i64 (X.getD i 0)):=by rw [ld1_newB_same,ints_getD _ _ qO]
  rw [mgK]
  obtain ⟨Y,hY⟩:∃ Y,X.getD i 0=Y:=⟨_,rfl⟩
  rw [hY] at l1 ⊢
  by_cases e:Y=y
  · rw [if_pos e]
    refine Ans.lpG rfl rfl (Z5v ..) ?_
    unfold Z6E
    have fx:=ai l1 hs
    refine Ans.go ?_
    clear fx
    (have fx:=hb; refine Ans.nxB (B:=newB h0 b (ints (X.set i x))) ?_ ?_; exact (Z1A.both (Z1c.ints _ _) (Z1A.refl _ _) hb); clear fx)
    exact ih (i+1) _ qO (by simp [hX])
  · rw [if_neg e]
    refine Ans.lpG rfl rfl (Z5v ..) ?_
    unfold Z6E
    have fx:=l1
    refine Ans.go ?_
    clear fx
    (have fx:=hb; refine Ans.nx0 ?_; clear fx)
    exact ih (i+1) X qO hX
theorem Zkz (b m:Nat) (C:List Int) (i j:Nat) (h:FH) (c:Nat) (df:List Nat) (hb:b<256*c) (hm:m<=1000000) (hd:Z2I C m) (hi:i<m) (hj:j<m) (hg:h.f b=some (.cells false none (ints (Z62 C m)))) :
 G (.fn 79) [.slice (some ⟨b,0,none⟩) m m,.int .i64 i,.int .i64 j] h c df=some ⟨.ret,[.slice (some ⟨b,0,none⟩) m m],newB h b (ints (Z62 (Z1P C i j) m)),c,[]⟩:=by
 have hS:Zok G (.slice (some ⟨b,0,none⟩) m m) (.int .i64 i) (.int .i64 j) h c=some ⟨.ret,[.slice (some ⟨b,0,none⟩) m m],newB h b (ints (Z62 (Z1P C i j) m)),c+1+1+1+1+1,[]⟩:=by
  refine Ans.eq ?_
  have r1:=Z0B hd hi
  have r2:=Z0B hd hj
  have ll:=Z2p C m
  have ld:∀ k,k<m->ld1 h (.pointer (some ⟨b,k,none⟩))=some (.int .i64 (Z02 C k:Nat)):=fun k hk=>by
   rw [Z01 ⟨false,none,hg⟩,ints_getD _ _ qO,Z6h _ hk]
  have l1:=ld i hi
  have l2:=ld j hj
  have m1:=Zdj .i64 (Z02 C i) (Z02 C j)
  have m2:=Z5n .i64 (Z02 C i) (Z02 C j)
  rw [show (if ((Z02 C i:Nat):Int)<(Z02 C j:Nat) then ((Z02 C j:Nat):Int) else (Z02 C i:Nat))=((max (Z02 C i) (Z02 C j):Nat):Int) by split <;> omega] at m1
  rw [show (if ((Z02 C j:Nat):Int)<(Z02 C i:Nat) then ((Z02 C j:Nat):Int) else (Z02 C i:Nat))=((min (Z02 C i) (Z02 C j):Nat):Int) by split <;> omega] at m2
  have hloop:=Ans.eq (Zfl h b m (c+1+1+1+1) ((min (Z02 C i) (Z02 C j):Nat):Int) ((max (Z02 C i) (Z02 C j):Nat):Int) [] qO hm m 0 (Z62 C m) qO ll)
  rw [ZqE hd hi hj,Zen hg] at hloop
  simp only [Int.ofNat_eq_natCast,Int.cast_ofNat_Int] at hloop
  clear ld
  obtain ⟨M,hM⟩:∃ M,max (Z02 C i) (Z02 C j)=M:=⟨_,rfl⟩
  obtain ⟨N,hN⟩:∃ N,min (Z02 C i) (Z02 C j)=N:=⟨_,rfl⟩
  rw [hM] at m1 hloop
  rw [hN] at m2 hloop
  unfold Zok
  have fx:=ai l1 (ai l2 (ai m1 (ai m2 hloop)))
  refine Ans.go ?_
  clear fx
  exact .done rfl
 rw [f79_go hS,Zew (B:=newB h b (ints (Z62 (Z1P C i j) m))) ?_ ?_ ?_]
 · exact Z1c.cons (OkV.sl hb) (Z1c.nil c)
 · exact fun _ _=>rfl
 · exact Z1A.old hb (Z1c.ints _ _) (Z1A.refl _ _)
theorem ZqB (h0:FH) (lb ob m c:Nat) (C:List Int) (v4:Value) (i:Nat) (df:List Nat) (hm:m<=1000000) (hd:Z2I C m) (hi:i<m) (hlb:lb<256*c) (hob:ob<256*c) (hne:lb ≠ ob) (o4:OkV c v4) (hg:h0.f lb=some (.cells false none (ints (Z62 C m)))) :
 ∀ (r k:Nat),k+r=Z02 C i →
 Ans (G (ZbY none) [.slice (some ⟨lb,0,none⟩) m m,.slice (some ⟨ob,0,none⟩) m m,v4,.int .i64 i,.int .i64 k] (newB h0 ob (ints ((Z7E C m i).set i (-1)))) c df) fun q=>q =
  if Z02 C i<i then ⟨.exit 2,[.slice (some ⟨lb,0,none⟩) m m,.slice (some ⟨ob,0,none⟩) m m,v4,.int .i64 i,.int .i64 (Z02 C i+1:Nat)],newB h0 ob (ints (((Z7E C m i).set i (-1)).set i (Z11 C (Z02 C i):Nat))),c,df⟩
  else ⟨.exit 2,[.slice (some ⟨lb,0,none⟩) m m,.slice (some ⟨ob,0,none⟩) m m,v4,.int .i64 i,.int .i64 i],newB h0 ob (ints ((Z7E C m i).set i (-1))),c,df⟩:=by
 intro r
 have hle:=Z0B hd hi
 have hrr:=Z0Y hd hi
 have pl:=Z1w C m i
 have ll:=Z2p C m
 have la:∀ X k,k<m->ld1 (newB h0 ob X) (.pointer (some ⟨lb,k,none⟩))=some (.int .i64 (Z02 C k:Nat)):=fun X k hk=>by
  rw [ld1_newB_ne _ _ _ _ _ hne,Z01 ⟨false,none,hg⟩,ints_getD _ _ qO,Z6h _ hk]
 have lo:ld1 (newB h0 ob (ints ((Z7E C m i).set i (-1)))) (.pointer (some ⟨ob,i,none⟩))=some (.int .i64 (-1)):=by
  rw [ld1_newB_same,ints_getD _ _ (by simp; omega),Z0m,if_pos ⟨rfl,by omega⟩]
 have lai:=la (ints ((Z7E C m i).set i (-1))) i hi
 induction r with
 | zero =>
  intro k hk
  rw [Nat.add_zero] at hk
  subst hk
  by_cases e:Z02 C i<i
  · rw [if_pos e]
    have l1:=la (ints ((Z7E C m i).set i (-1))) (Z02 C i) qO
    rw [hrr] at l1
    have l2:ld1 (newB h0 ob (ints ((Z7E C m i).set i (-1)))) (.pointer (some ⟨ob,Z02 C i,none⟩))=some (.int .i64 (Z11 C (Z02 C i):Nat)):=by
     rw [ld1_newB_same,ints_getD _ _ (by simp; omega),Z0m,if_neg qO,Z4E C i qO,if_pos e,hrr]
    have hs:∀ y:Int,stN (newB h0 ob (ints ((Z7E C m i).set i (-1)))) 1 (.pointer (some ⟨ob,i,none⟩)) (.int .i64 y)=some (newB h0 ob (ints (((Z7E C m i).set i (-1)).set i y))):=fun y=>by
     rw [st1_int _ _ _ _ _ _ (by simp; omega),Z0K]
    have lz:∀ y:Int,ld1 (newB h0 ob (ints (((Z7E C m i).set i (-1)).set i y))) (.pointer (some ⟨ob,i,none⟩))=some (.int .i64 y):=fun y=>by
     rw [ld1_newB_same,ints_getD _ _ (by simp; omega),Z0m,if_pos ⟨rfl,by simp; omega⟩]
    obtain ⟨R,hR⟩:∃ R,Z02 C i=R:=⟨_,rfl⟩
    rw [hR] at e l1 l2 lai ⊢
    obtain ⟨F,hF⟩:∃ F,Z11 C R=F:=⟨_,rfl⟩
    rw [hF] at l2 ⊢
    refine Ans.lpG rfl rfl (Z29 ..) ?_
    unfold Z3g
    have fx:=ai lo (ai l1 (ai lai (ai l2 hs)))
    refine Ans.go ?_
    clear fx
    (have fx:=ai hlb (ai hob o4); refine Ans.nxB (B:=newB h0 ob (ints (((Z7E C m i).set i (-1)).set i (F:Nat)))) ?_ ?_; exact (Z1A.both (Z1c.ints _ _) (Z1A.refl _ _) hob); clear fx)
    have lz':=lz (F:Nat)
    by_cases e3:((R+1:Nat):Int)<i
    · refine Ans.lpG rfl rfl (Z29 ..) ?_
      unfold Z3g
      have fx:=lz'
      refine Ans.go ?_
      clear fx
      (have fx:=ai hlb (ai hob o4); refine Ans.ex0 ?_; clear fx)
      rfl
    · refine Ans.lpG rfl rfl (Z29 ..) ?_
      unfold Z3g
      have fx:=True.intro
      refine Ans.go ?_
      clear fx
      (have fx:=ai hlb (ai hob o4); refine Ans.ex0 ?_; clear fx)
      rfl
  · rw [if_neg e]
    have e1:Z02 C i=i:=by omega
    rw [e1]
    refine Ans.lpG rfl rfl (Z29 ..) ?_
    unfold Z3g
    have fx:=True.intro
    refine Ans.go ?_
    clear fx
    (have fx:=ai hlb (ai hob o4); refine Ans.ex0 ?_; clear fx)
    rfl
 | succ r ih =>
  intro k hk
  have hkr:=Z0B hd (i:=k) qO
  have l1:=la (ints ((Z7E C m i).set i (-1))) k qO
  have hne':Z02 C k ≠ Z02 C i:=by omega
  have hk1:=ih (k+1) qO
  obtain ⟨R,hR⟩:∃ R,Z02 C i=R:=⟨_,rfl⟩
  rw [hR] at lai hk hle hne' hk1 ⊢
  obtain ⟨R',hR'⟩:∃ R',Z02 C k=R':=⟨_,rfl⟩
  rw [hR'] at l1 hne' hkr
  have hne2:¬ (R':Int)=R:=by omega
  refine Ans.lpG rfl rfl (Z29 ..) ?_
  unfold Z3g
  have fx:=ai lo (ai l1 lai)
  refine Ans.go ?_
  clear fx
  (have fx:=ai hlb (ai hob o4); refine Ans.nx0 ?_; clear fx)
  exact hk1
theorem Zkr (h0:FH) (lb ob m c:Nat) (C:List Int) (df:List Nat) (hm:m<=1000000) (hd:Z2I C m) (hlb:lb<256*c) (hob:ob<256*c) (hne:lb ≠ ob) (hg:h0.f lb=some (.cells false none (ints (Z62 C m)))) :
 ∀ (r i:Nat),i+r=m →
 Ans (G (ZbZ none) [.slice (some ⟨lb,0,none⟩) m m,.slice (some ⟨ob,0,none⟩) m m,.int .i64 (Z11 C i:Nat),.int .i64 i] (newB h0 ob (ints (Z7E C m i))) c df) fun q=>q=⟨.exit 0,[.slice (some ⟨lb,0,none⟩) m m,.slice (some ⟨ob,0,none⟩) m m,.int .i64 (Z11 C m:Nat),.int .i64 m],newB h0 ob (ints (Ze5 C m)),c,df⟩:=by
 intro r
 induction r with
 | zero =>
  intro i hi
  obtain rfl:i=m:=by omega
  rw [Zmp]
  refine Ans.lpG rfl rfl (Z5u ..) ?_
  unfold Z6D
  have fx:=True.intro
  refine Ans.go ?_
  clear fx
  (have fx:=ai hlb hob; refine Ans.ex0 ?_; clear fx)
  rfl
 | succ r ih =>
  intro i hi
  have him:i<m:=by omega
  have hle:=Z0B hd him
  have pl:=Z1w C m i
  have hs:stN (newB h0 ob (ints (Z7E C m i))) 1 (.pointer (some ⟨ob,i,none⟩)) (.int .i64 (-1))=some (newB h0 ob (ints ((Z7E C m i).set i (-1)))):=by
   rw [st1_int _ _ _ _ _ _ (by simp; omega),Z0K]
  obtain ⟨q,hq,hpost⟩:=ZqB h0 lb ob m (c+1+1+1) C (.int .i64 (Z11 C i:Nat)) i df hm hd him qO qO hne (by simp) hg (Z02 C i) 0 qO
  simp only [Int.ofNat_eq_natCast,Int.cast_ofNat_Int] at hq
  have hset:=Zmo C him (-1)
  have hcs:=Z7J C i
  have hcl:=ZaQ C i
  have ih':=ih (i+1) qO
  by_cases e:Z02 C i<i
  · rw [if_pos e] at hpost
    subst hpost
    rw [hset] at hq
    rw [if_neg qO,Nat.add_zero] at hcs
    rw [hcs] at ih'
    have l1:ld1 (newB h0 ob (ints (Z7E C m (i+1)))) (.pointer (some ⟨ob,i,none⟩))=some (.int .i64 (Z11 C (Z02 C i):Nat)):=by
     rw [ld1_newB_same,ints_getD _ _ (by rw [Z1w]; exact him),Z4E C _ him,if_pos qO]
    obtain ⟨F,hF⟩:∃ F,Z11 C (Z02 C i)=F:=⟨_,rfl⟩
    rw [hF] at l1
    refine Ans.lpG rfl rfl (Z5u ..) ?_
    unfold Z6D
    have fx:=ai hs (ai hq l1)
    refine Ans.go ?_
    clear fx
    (have fx:=ai hlb hob; refine Ans.nxB (B:=newB h0 ob (ints (Z7E C m (i+1)))) ?_ ?_; exact (Z1A.both (Z1c.ints _ _) (Z1A.refl _ _) hob); clear fx)
    exact ih'
  · have e1:Z02 C i=i:=by omega
    rw [if_neg e] at hpost
    subst hpost
    rw [if_pos e1] at hcs
    rw [e1] at hset
    rw [hcs] at ih'
    have l1:ld1 (newB h0 ob (ints ((Z7E C m i).set i (-1)))) (.pointer (some ⟨ob,i,none⟩))=some (.int .i64 (-1)):=by
     rw [ld1_newB_same,ints_getD _ _ (by simp; omega),Z0m,if_pos ⟨rfl,by omega⟩]
    have hs2:stN (newB h0 ob (ints ((Z7E C m i).set i (-1)))) 1 (.pointer (some ⟨ob,i,none⟩)) (.int .i64 (Z11 C i:Nat))=some (newB h0 ob (ints (Z7E C m (i+1)))):=by
     rw [st1_int _ _ _ _ _ _ (by simp; omega),Z0K,hset]
    obtain ⟨F,hF⟩:∃ F,Z11 C i=F:=⟨_,rfl⟩
    rw [hF] at hq hs2 hcl ih' ⊢
    refine Ans.lpG rfl rfl (Z5u ..) ?_
    unfold Z6D
    have fx:=ai hs (ai hq (ai l1 hs2))
    refine Ans.go ?_
    clear fx
    (have fx:=ai hlb hob; refine Ans.nxB (B:=newB h0 ob (ints (Z7E C m (i+1)))) ?_ ?_; exact (Z1A.both (Z1c.ints _ _) (Z1A.refl _ _) hob); clear fx)
    exact ih'
theorem Zfj (lb m:Nat) (C:List Int) (h:FH) (c:Nat) (df:List Nat) (hm:m<=1000000) (hd:Z2I C m) (hlb:lb<256*c) (hg:h.f lb=some (.cells false none (ints (Z62 C m)))) :
 G (.fn 80) [.slice (some ⟨lb,0,none⟩) m m] h c df=some ⟨.ret,[.slice (some ⟨256*(c+1)+2,0,none⟩) m m],newB h (256*(c+1)+2) (ints (Ze5 C m)),c+1+1+1+1+1,[]⟩:=by
 refine Ans.eq (Ans.call' (fun r e=>f80_go e) ?_)
 unfold Zr2
 have mk:=Z5m 1 8 .i64 .i64 m qO qO
 obtain ⟨B,hB⟩:∃ B,256*(c+1)+2=B:=⟨_,rfl⟩
 rw [hB]
 have hl:=Ans.eq (Zkr h lb B m (c+1+1+1+1) C [] hm hd qO qO qO hg m 0 qO)
 rw [Zks,show Z11 C 0=0 from rfl] at hl
 simp only [Int.ofNat_eq_natCast,Int.cast_ofNat_Int] at hl
 have fx:=ai mk hl
 refine Ans.go ?_
 clear fx
 exact .done rfl
theorem ZjB (s:Value) (m:Nat) (C:List Int) (h:FH) (c:Nat) (df:List Nat) (hm:m<=1000000) (hd:Z2I C m) (hs:SlI h c s 1 m (Ze5 C m)):∀ (r i:Nat),i+r=m →
 Ans (G (Zc5 none) [s,.int .i64 (Z11 C i:Nat),.int .i64 i] h c df) fun q=>q=⟨.exit 0,[s,.int .i64 (Z11 C m:Nat),.int .i64 m],h,c,df⟩:=by
 intro r
 have o1:=hs.okV
 have ll:=hs.len
 induction r with
 | zero =>
  intro i hi
  obtain rfl:i=m:=by omega
  refine Ans.lpG rfl rfl (Z7R ..) ?_
  unfold Z8J
  have fx:=ll
  refine Ans.go ?_
  clear fx
  (have fx:=o1; refine Ans.ex0 ?_; clear fx)
  rfl
 | succ r ih =>
  intro i hi
  have him:i<m:=by omega
  have l1:=hs.rdi (i:Int) qO qO
  rw [Z1y,Z2L C him,Int.toNat_natCast] at l1
  have st:=Zkt hd him
  have b1:=ZaQ C (Z02 C i)
  have b2:=ZaQ C i
  have b3:=Z0B hd him
  have mx:=Zdj .i64 (Z11 C i:Nat) ((Z11 C (Z02 C i):Nat)+1)
  rw [show (if ((Z11 C i:Nat):Int)<(Z11 C (Z02 C i):Nat)+1 then ((Z11 C (Z02 C i):Nat):Int)+1 else (Z11 C i:Nat))=((Z11 C (i+1):Nat):Int) by rw [← st]; split <;> omega] at mx
  have ih':=ih (i+1) qO
  obtain ⟨F,hF⟩:∃ F,Z11 C (Z02 C i)=F:=⟨_,rfl⟩
  rw [hF] at l1 mx b1
  obtain ⟨E,hE⟩:∃ E,Z11 C i=E:=⟨_,rfl⟩
  rw [hE] at mx b2 ⊢
  obtain ⟨E',hE'⟩:∃ E',Z11 C (i+1)=E':=⟨_,rfl⟩
  rw [hE'] at mx ih'
  have mx2:Z28 max2 [.int .i64 (E:Int),.int .i64 ((F+1:Nat):Int)]=some (.int .i64 (E':Int)):=mx
  refine Ans.lpG rfl rfl (Z7R ..) ?_
  unfold Z8J
  have fx:=ai ll (ai hs.ixs1 (ai l1 (ai mx mx2)))
  refine Ans.go ?_
  clear fx
  (have fx:=o1; refine Ans.nx0 ?_; clear fx)
  exact ih'
theorem ZdT (s:Value) (m:Nat) (C:List Int) (h:FH) (c:Nat) (df:List Nat) (hm:m<=1000000) (hd:Z2I C m) (hs:SlI h c s 1 m (Ze5 C m)):G (.fn 63) [s] h c df=some ⟨.ret,[.int .i64 (Z11 C m:Nat)],h,c,[]⟩:=by
 refine Z0C (fun r e=>f63_go e) (by simp) ?_
 have hl:=Ans.eq (ZjB s m C h (c+1+1+1) [] hm hd (hs.mono qO) m 0 qO)
 rw [show Z11 C 0=0 from rfl] at hl
 simp only [Int.ofNat_eq_natCast,Int.cast_ofNat_Int] at hl
 unfold Zrc
 have fx:=hl
 refine Ans.go ?_
 clear fx
 (have fx:=True.intro; exact Ans.pu)


def vxC (Gl:List Int) (n:Nat):List Int:=vCl n (Z43 Gl n)
def vxF (Gl:List Int) (n:Nat):List Int:=Z0F (vxC Gl n) (4*n)
theorem Z66 {Gl:List Int} {n:Nat} {x:Int} (hx:x ∈ vxF Gl n):∃ k:Nat,x=k/\k<4*n/\Z02 (vxC Gl n) k=k:=ZaF hx

theorem ZiA (ss:List Value) (ns:Nat->Nat) (sb:Nat) (h:FH) (c:Nat) (hsb:sb<256*c) (hh:Z09 h sb ss) (hl:ss.length<=1000) (hL:∀ j,j<ss.length->Z0X (ss.getD j undef)=some (.int .i64 (ns j))) (df:List Nat):∀ (k i:Nat),i+k=ss.length →
 Ans (G (ZcH none) [.slice (some ⟨sb,0,none⟩) ss.length ss.length,.bool false,.int .i64 i] h c df) fun r=>r.h=h/\r.c=c/\r.df=df ∧
  ((r.e = .exit 0 /\ ∀ j,i<=j->j<ss.length->ns j<=50) ∨ (r.e = .ret/\r.v 1 = .bool false /\ ∃ j,j<ss.length /\ ¬ ns j<=50)):=by
 intro k
 obtain ⟨m,hm⟩:∃ m,ss.length=m:=⟨_,rfl⟩
 rw [hm] at hl hL ⊢
 induction k with
 | zero =>
  intro i hi
  obtain rfl:i=m:=by omega
  refine Ans.lpG rfl rfl (Z87 ..) ?_
  unfold Z9C
  have fx:=True.intro
  refine Ans.go ?_
  clear fx
  (have fx:=hsb; refine Ans.ex0 ?_; clear fx)
  exact ⟨rfl,rfl,rfl,.inl ⟨rfl,fun j h1 h2=>by omega⟩⟩
 | succ k ih =>
  intro i hi
  have l1:ld1 h (.pointer (some ⟨sb,i,none⟩))=some (ss.getD i undef):=by
   rw [Z01 hh,List.getD_eq_getElem?_getD,List.getElem?_eq_getElem qO]; rfl
  have l2:=hL i qO
  obtain ⟨x,hx⟩:∃ x,ss.getD i undef=x:=⟨_,rfl⟩
  rw [hx] at l1 l2
  refine Ans.lpG rfl rfl (Z87 ..) ?_
  unfold Z9C
  by_cases h5:ns i<=50
  · have fx:=ai l1 l2
    refine Ans.go ?_
    clear fx
    (have fx:=hsb; refine Ans.nx0 ?_; clear fx)
    refine (ih (i+1) qO).mono ?_
    rintro r ⟨q1,q2,q3,q4⟩
    refine ⟨q1,q2,q3,q4.imp (fun ⟨a,b⟩=>⟨a,fun j h1 h2=>?_⟩) id⟩
    by_cases e:j=i
    · rw [e]; exact h5
    · exact b j qO h2
  · have fx:=ai l1 l2
    refine Ans.go ?_
    clear fx
    (have fx:=hsb; refine Ans.rt0 ?_; clear fx)
    exact ⟨rfl,rfl,rfl,.inr ⟨rfl,rfl,i,by omega,h5⟩⟩
theorem Zm7 (ss:List Value) (ns:Nat->Nat) (sb:Nat) (h:FH) (c:Nat) (df:List Nat) (hsb:sb<256*c) (hh:Z09 h sb ss) (hl:ss.length<=1000) (hL:∀ j,j<ss.length->Z0X (ss.getD j undef)=some (.int .i64 (ns j))) :
 G (.fn 18) [.slice (some ⟨sb,0,none⟩) ss.length ss.length] h c df=some ⟨.ret,[.bool ((List.range ss.length).all fun j=>decide (ns j<=50))],h,c,[]⟩:=by
 refine Z0C (fun r e=>f18_go e) (by simp) ?_
 unfold Zrx
 obtain ⟨⟨re,rv,rh,rc,rd⟩,hr,r1,r2,r3,r4⟩:=ZiA ss ns sb h (c+1+1) qO hh hl hL [] ss.length 0 qO
 simp only at r1 r2 r3 r4
 subst r1 r2 r3
 simp only [Int.ofNat_eq_natCast,Int.cast_ofNat_Int] at hr
 rcases r4 with ⟨rfl,r5⟩ | ⟨rfl,r5,j,j1,j2⟩
 · have e:((List.range ss.length).all fun j=>decide (ns j<=50))=true:=List.all_eq_true.2 fun j hj=>decide_eq_true (r5 j qO (by simpa using hj))
   rw [e]
   have fx:=hr
   refine Ans.go ?_
   clear fx
   exact Ans.pure rfl (by simp)
 · have e:((List.range ss.length).all fun j=>decide (ns j<=50))=false:=by
    rw [List.all_eq_false]
    exact ⟨j,by simpa using j1,by simpa using j2⟩
   rw [e]
   have fx:=hr
   refine Ans.go ?_
   clear fx
   exact Ans.pure r5 (by simp)

def mA (M:List Int):Nat:=(4*M.getD 0 0+M.getD 2 0).toNat
def mB (M:List Int):Nat:=(4*M.getD 3 0+M.getD 5 0).toNat
theorem Zey {m:Nat}:∀ (D:List (List Int)) (L:List Int),Z2I L m->(∀ M,M ∈ D->mA M<m/\mB M<m) →
 Z2I (D.foldl Z8k L) m/\(∀ a b,a<m->b<m->Z02 L a=Z02 L b->Z02 (D.foldl Z8k L) a=Z02 (D.foldl Z8k L) b)/\(∀ M,M ∈ D->Z02 (D.foldl Z8k L) (mA M)=Z02 (D.foldl Z8k L) (mB M))
 | [],L,hd,_=>⟨hd,fun a b _ _ e=>e,fun M h=>by cases h⟩
 | M::D,L,hd,hg=>by
  obtain ⟨g1,g2⟩:=hg M (by simp)
  obtain ⟨i1,i2,i3⟩:=Zey D (Z8k L M) (Z1k hd g1 g2) (fun N hN=>hg N (by simp [hN]))
  rw [List.foldl_cons]
  refine ⟨i1,fun a b ha hb e=>i2 a b ha hb (Zes hd g1 g2 ha hb e),fun N hN=>?_⟩
  rcases List.mem_cons.1 hN with rfl | hN
  · exact i2 _ _ g1 g2 (Zer hd g1 g2)
  · exact i3 N hN
theorem Z5f {Gl:List Int} {n:Nat} (hok:Z0t Gl n=true) (hG:Gl.length=n*20):Z2I (vxC Gl n) (4*n) /\ ∀ M,M ∈ Z43 Gl n->Z02 (vxC Gl n) (mA M)=Z02 (vxC Gl n) (mB M):=by
 have:=Zey (m:=4*n) (Z43 Gl n) (Z0v (4*n)) (Z0O _) (fun M hM=>by
  obtain ⟨t,f,i,ht,hf,hi,hne,hsk,rfl⟩:=Z7G hM
  obtain ⟨k1,k2,k3⟩:=ZaI hok hG ht hf hi hne hsk
  have hpi:=Z1N k3 hi
  constructor
  · show (4*(t:Int)+i).toNat<_
    omega
  · show (4*Z0L (Z03 Gl t f)+(Z0e (Z03 Gl t f)).getD i 0).toNat<_
    omega)
 exact ⟨this.1,this.2.2⟩

theorem et34:ZeK P 34=some 3:=by kernel_rfl
theorem st3:Z1H P 3=some 1:=by kernel_rfl
theorem SlX.keepB {h h':FH} {c:Nat} {s:Value} {sz n:Nat} {L:List Int} (hs:SlI h c s sz n L) (hn:0<n) (hh:h'.f (Z0l s)=h.f (Z0l s)) (hx:SlX h s sz n):SlX h' s sz n:=by
 obtain ⟨g1,g2,a,cap,rfl,h4⟩:=hs
 rcases h4 with ⟨e,hv⟩ | ⟨b,o,cs,rfl,e2,e3,e4⟩
 · omega
 · obtain ⟨x1,x2⟩:=hx
   refine ⟨x1, ?_⟩
   have hb:HeapC.get h' b=HeapC.get h b:=hh
   simpa only [Za6,Ze4,hb] using x2
theorem Zm6 {h:FH} {rb n:Nat} {op:Option Nat} {cs:List Value} (e:h.f rb=some (.cells false none cs)) (k:IntKind) (lo:Int) (h1:0<=lo) (h2:lo<=n) :
 slS h 1 (.slice (some ⟨rb,0,none⟩) n n) (some (.int k lo)) none none=some (.slice (some ⟨rb,0+lo.toNat*1,none⟩) (n-lo.toNat) (n-lo.toNat)):=by
 have hg:HeapC.get h rb=some (.cells false none cs):=e
 have q0:Nat.ble n n=true:=Nat.ble_eq_true_of_le (Nat.le_refl _)
 simp only [slS,Ze4,hg,cond_true,Zpn,Zpo,q0,Option.bind_some,bnd,decide_eq_true h1,decide_eq_true h2,Bool.and_self,Option.isSome_none,Bool.false_and,cond_false,ZpH]
theorem copy3 {h:FH} {c id i o dl dc:Nat} {src:Value} {X L:List Int} (hs:SlI h c src 1 3 L) (hg:h.f i=some (.cells false none (ints X))) (hd:3<=dl) (ho:o+3<=X.length) :
 Z0M P h id .copy [34,34] [.slice (some ⟨i,o,none⟩) dl dc,src]=some (.int .i64 3,HeapC.set h i (.cells false none (ints (X.take o++L++X.drop (o+3))))):=by
 have sc:=hs.slc qO qO
 have hL:L.length=3:=hs.1
 obtain ⟨g1,g2,a,cap,rfl,h4⟩:=hs
 have hg':HeapC.get h i=some (.cells false none (ints X)):=hg
 have hm:Nat.min 3 dl=3:=Nat.min_eq_left hd
 have hb:Nat.ble (o+(ints L).length) (ints X).length=true:=Nat.ble_eq_true_of_le (by simp [hL]; omega)
 unfold SlC at sc
 simp only [Z0M,ZlK,et34,st3,Option.bind_some,hm,sc,Z2k,hg',hb,Z1I,Bool.and_self,cond_true,Zf2,hL]
 rfl
theorem ZrM (h0:FH) (q:Value) (n:Nat) (Qd:List Int) (rb c gb:Nat) (t6 t33:Value) (df:List Nat) (hn:n<=60) (hq:SlI h0 c q 1 (3*n) Qd) (hx:SlX h0 q 1 (3*n)) (hqb:0<n->Z0l q ≠ rb) (hrb:rb<256*c) (hgb:gb<256*c) (o6:OkV c t6) (hd:t33 = .int .i64 n) :
 ∀ (k t:Nat) (X:List Int),t+k=n->X.length=7*n →
 Ans (G (Zcf none) [q,ptrTo gb,.slice none 0 0,.bool false,t6,.slice (some ⟨rb,0,none⟩) (7*n) (7*n),t33,.int .i64 t] (HeapC.set h0 rb (.cells false none (ints X))) c df)
  fun r=>r=⟨.exit 0,[q,ptrTo gb,.slice none 0 0,.bool false,t6,.slice (some ⟨rb,0,none⟩) (7*n) (7*n),t33,.int .i64 n],HeapC.set h0 rb (.cells false none (ints (pqK Qd k t X))),c,df⟩:=by
 intro k
 have oq:=hq.okV
 subst hd
 induction k with
 | zero =>
  intro t X ht hX
  obtain rfl:t=n:=by omega
  refine Ans.lpG rfl rfl (Z5E ..) ?_
  unfold Z4T
  have fx:=True.intro
  refine Ans.go ?_
  clear fx
  (have fx:=ai oq (ai o6 (ai hrb hgb)); refine Ans.ex0 ?_; clear fx)
  rfl
 | succ k ih =>
  intro t X ht hX
  obtain ⟨H,hH⟩:∃ H,HeapC.set h0 rb (.cells false none (ints X))=H:=⟨_,rfl⟩
  have fH:H.f rb=some (.cells false none (ints X)):=by rw [← hH,Z0g,if_pos rfl]
  have nH:∀ b,b ≠ rb->H.f b=h0.f b:=fun b hb=>by rw [← hH,Z0g,if_neg hb]
  have hq':SlI H c q 1 (3*n) Qd:=hq.keep fun _=>nH _ (hqb qO)
  have hx':=SlX.keepB hq qO (nH _ (hqb qO)) hx
  have s1:=Zm6 (n:=7*n) (op:=none) fH .i64 (7*(t:Int)+4) qO qO
  have s2:=SlX.sub hq' hx' .i64 .i64 (3*(t:Int)) (3*(t:Int)+3) qO qO qO qO
  rw [show (7*(t:Int)+4).toNat=7*t+4 by omega,Nat.mul_one,Nat.zero_add] at s1
  rw [show (3*(t:Int)).toNat=3*t by omega,show (3*(t:Int)+3).toNat=3*t+3 by omega] at s2
  have s3:=hq'.sub (3*t) (3*t+3) qO qO qO
  simp only [Nat.mul_one] at s3
  rw [show (3*t+3-3*t)=3 by omega] at s3
  have hcp:=fun id=>copy3 (id:=id) (dl:=7*n-(7*t+4)) (dc:=7*n-(7*t+4)) s3 fH qO (show 7*t+4+3<=X.length by omega)
  rw [show X.take (7*t+4)++(Qd.drop (3*t)).take 3++X.drop (7*t+4+3)=pq Qd t X from rfl] at hcp
  have hpl:=Z7B (n:=n) (t:=t) (hq.1.trans (Nat.mul_one _)) hX qO
  rw [hH,pqK]
  refine Ans.lpG rfl rfl (Z5E ..) ?_
  unfold Z4T
  have fx:=ai s1 (ai s2 hcp)
  refine Ans.go ?_
  clear fx
  (have fx:=ai oq (ai o6 (ai hrb hgb)); refine Ans.nxB (B:=HeapC.set H rb (.cells false none (ints (pq Qd t X)))) ?_ ?_; exact (Z1A.set hrb (Z1c.ints _ _) (Z1A.refl _ _)); clear fx)
  rw [← hH,set_set]
  exact ih (t+1) _ qO hpl
def FaP (rb kb c0 cc:Nat) (h:FH) (df:List Nat) (n:Nat) (o:Option (List Int)) (r:Rt FH):Prop :=
 cc<=r.c/\r.df=df/\(∀ b,b<256*c0->b ≠ rb->b ≠ kb->r.h.f b=h.f b)/\match o with
  | some X=>r.e = .exit 2/\r.v 3 = .slice (some ⟨rb,0,none⟩) (7*n) (7*n)/\r.h.f rb=some (.cells false none (ints X))/\X.length=7*n
  | none=>r.e = .ret/\r.v 1 = .slice none 0 0/\r.v 2 = .bool false
theorem FaP.mono {rb kb c1 cc cc':Nat} {h h':FH} {df:List Nat} {n:Nat} {o:Option (List Int)} {r:Rt FH} (p:FaP rb kb c1 cc' h' df n o r) (hc:cc<=cc') (hh:∀ b,b<256*c1->b ≠ rb->b ≠ kb->h'.f b=h.f b):FaP rb kb c1 cc h df n o r :=
 ⟨Nat.le_trans hc p.1,p.2.1,fun b h1 h2 h3=>(p.2.2.1 b h1 h2 h3).trans (hh b h1 h2 h3),p.2.2.2⟩
theorem ZgE {B:Int} {k:Nat} (hB:0<=B) (h:(B+200000000)*2 ^ (k+1)<=6000000000000000):(2*(B+100000000)+200000000)*2 ^ k<=6000000000000000/\B<=6000000000000000:=by
 have e:(2*(B+100000000)+200000000)*2 ^ k=(B+200000000)*2 ^ (k+1):=by
  rw [Int.pow_succ,Int.mul_comm (2 ^ k) 2,← Int.mul_assoc]
  congr 1; omega
 have h1:(0:Int)<2 ^ (k+1):=Int.pow_pos qO
 have h2:(B+200000000)*1<=(B+200000000)*2 ^ (k+1):=Int.mul_le_mul_of_nonneg_left qO qO
 exact ⟨by omega,by omega⟩
set_option maxHeartbeats 2000000 in
theorem ZqX (s:Value) (n:Nat) (Gl:List Int) (gb rb kb c0:Nat) (F:Value) (m:Nat) (Fl:List Int) (df:List Nat) (hn:n<=6) (hok:Z0t Gl n=true) (hgb:gb<256*c0) (hrb:rb<256*c0) (hkb:kb<256*c0) (hne:rb ≠ kb) (hg1:gb ≠ rb) (hg2:gb ≠ kb) (hsb:0<n->Z0l s ≠ rb/\Z0l s ≠ kb)
 (hF:∀ x,x ∈ Fl -> ∃ k:Nat,x=k/\k<4*n) (hFb:0<m->Z0l F ≠ rb/\Z0l F ≠ kb) (hm:m<=240) :
 ∀ (k i cc:Nat) (h:FH) (X:List Int) (K:List Bool) (B:Int),i+k=m->c0<=cc->Z09 h gb [s]->SlI h c0 s 20 n Gl->SlI h c0 F 1 m Fl->h.f rb=some (.cells false none (ints X))->h.f kb=some (.cells false none (bools K))->X.length=7*n->K.length=4*n->(∀ j:Nat,-B<=X.getD j 0/\X.getD j 0<=B) →
  (∀ t k:Nat,k<3->0<=X.getD (7*t+4+k) 0/\X.getD (7*t+4+k) 0<=1000000)->0<=B->(B+200000000)*2 ^ k<=6000000000000000 →
 Ans (G (Zce none) [ptrTo gb,.slice none 0 0,.bool false,.slice (some ⟨rb,0,none⟩) (7*n) (7*n),.slice (some ⟨kb,0,none⟩) (4*n) (4*n),F,.int .i64 m,.int .i64 i] h cc df) (FaP rb kb c0 cc h df n (ZeD Gl true n (Fl.drop i) X K)):=by
 intro k
 induction k with
 | zero =>
  intro i cc h X K B hi hc hg hs sf e1 e2 hX hK xb qd hB hp
  obtain rfl:i=m:=by omega
  have e:Fl.drop i=[]:=List.drop_of_length_le (by have:=sf.1; omega)
  rw [e]
  refine Ans.lpN rfl rfl (Z30 ..) ?_
  unfold Z3v
  have fx:=True.intro
  refine Ans.go ?_
  clear fx
  exact Ans.exitN ⟨(by show cc<=cc+1; omega),rfl,fun _ _ _ _=>rfl,rfl,rfl,e1,hX⟩
 | succ k ih =>
  intro i cc h X K B hi hc hg hs sf e1 e2 hX hK xb qd hB hp
  obtain ⟨hp1,hp2⟩:=ZgE hB hp
  have hFl:=sf.1
  have l1:=sf.rdi i qO qO
  simp only [Int.toNat_natCast] at l1
  rw [Z1y] at l1
  have hLi:Fl.getD i 0=Fl[i]'qO:=by simp [List.getD_eq_getElem?_getD,List.getElem?_eq_getElem (by omega:i<Fl.length)]
  obtain ⟨x,hx,hx6⟩:=hF (Fl[i]'qO) (List.getElem_mem _)
  rw [hLi,hx] at l1
  have hdr:Fl.drop i=(x:Int)::Fl.drop (i+1):=by rw [List.drop_eq_getElem_cons qO,hx]
  rw [hdr,ZeD,Z79,Int.toNat_natCast]
  obtain ⟨H1,hH1⟩:∃ H1,HeapC.set h kb (.cells false none (bools (K.set x true)))=H1:=⟨_,rfl⟩
  have w1:stN h 1 (.pointer (some ⟨kb,x,none⟩)) (.bool true)=some H1:=by
   rw [Z12 (show HeapC.get h kb=_ from e2) (by simp [bools]; omega) rfl rfl,Z6s,hH1]
  obtain ⟨lb,hlb⟩:∃ lb,256*(cc+1+1+1)+1=lb:=⟨_,rfl⟩
  obtain ⟨H2,hH2⟩:∃ H2,newB H1 lb [.int .i64 x]=H2:=⟨_,rfl⟩
  have f1:∀ b,b ≠ kb->b ≠ lb->H2.f b=h.f b:=fun b h1 h2=>by rw [← hH2,Z08,if_neg h2,← hH1,Z0g,if_neg h1]
  have fk:H2.f kb=some (.cells false none (bools (K.set x true))):=by rw [← hH2,Z08,if_neg qO,← hH1,Z0g,if_pos rfl]
  have fl:H2.f lb=some (.cells false none [.int .i64 x]):=by rw [← hH2,Z08,if_pos rfl]
  have hbl:Z2T [.int .i64 0] [(0,1,.int .i64 (x:Int))]=some [.int .i64 x]:=rfl
  have ag:Z2Q cc H2 (cc+1+1+1+1+1+1) (.slice (some ⟨lb,0,none⟩) 1 1) 1 (ints (zs [x])):=⟨rfl,by omega,rfl,lb,none,rfl,by omega,by omega,fl,.inl rfl⟩
  have ok0:=FOk.start (first:=x) hX hK hx6 hB xb qd
  have fF:0<m->H2.f (Z0l F)=h.f (Z0l F):=fun hp=>f1 _ (hFb hp).2 (by have:=sf.blk hp; omega)
  obtain ⟨⟨re,rv,rh,rc,rd⟩,hr,p1,p2,p3,p4⟩:=ZqT s n Gl gb rb kb cc (.slice none 0 0) (.bool false) F (.int .i64 m) (.int .i64 i) df qO hok qO qO qO hne hg1 hg2 hsb (4*n) 0 (cc+1+1+1+1+1+1) H2 (.slice (some ⟨lb,0,none⟩) 1 1) ⟨X,K.set x true,[x],0⟩ B qO qO qO (hg.eqf (f1 gb hg2 qO)) ((hs.keep fun hp=>f1 _ (hsb hp).2 (by have:=hs.blk hp; omega)).mono hc) (by rw [f1 rb hne qO,e1]) fk ag ok0 hB qO
  simp only [Int.ofNat_eq_natCast,Int.cast_ofNat_Int] at hr
  simp only at p1 p2 p3
  subst p2
  cases hQ:fQ Gl true (4*n) 0 ⟨X,K.set x true,[x],0⟩ with
  | none =>
   rw [hQ] at p4
   obtain ⟨p4,p5,p6⟩:=p4
   simp only at p4
   subst p4
   refine Ans.lpN rfl rfl (Z30 ..) ?_
   unfold Z3v
   have fx:=ai sf.ixs1 (ai l1 (ai w1 (ai hlb (ai hbl (ai hH2 hr)))))
   refine Ans.go ?_
   clear fx
   exact Ans.retN ⟨(by show cc<=rc; omega),rfl,fun b h1 h2 h3=>by
    show rh.f b=h.f b
    rw [p3 b qO h2 h3,f1 b h3 qO],rfl,p5,p6⟩
  | some S1 =>
   rw [hQ] at p4
   obtain ⟨p4,v,j,p5,p6,p7,p8⟩:=p4
   simp only at p4 p5 p6 p7 p8
   subst p4 p5
   have o1:=(ZkT hok hs.1 ok0 hB hQ).mono (B':=B+100000000) qO
   have bv:=p8.blk
   have lv:=p8.sl.len
   have hself:HeapC.set rh rb (.cells false none (ints S1.X))=rh:=by
    apply FH.ext; intro b
    rw [Z0g]
    split
    · rename_i e; rw [e,p6]
    · rfl
   have hfs:=Ans.eq (ZqS rh n rb (rc+1) (ptrTo gb) (.slice none 0 0) (.bool false) (.slice (some ⟨kb,0,none⟩) (4*n) (4*n)) F (.int .i64 m) (.int .i64 i) v S1.Q S1.m (B+100000000) rd qO qO (p8.sl.mono qO) qO (OkV.ptrTo qO) (by simp) (by simp) (OkV.sl qO) ((sf.mono qO).okV) (by simp) (by simp) o1.nd (fun w hw=>(o1.qk w hw).1) o1.ql ⟨o1.mb.1,by have:=o1.mb.2; omega⟩ qO S1.Q.length 0 S1.X qO o1.xl (fun w _=>o1.xb _))
   rw [hself,List.drop_zero] at hfs
   simp only [Int.ofNat_eq_natCast,Int.cast_ofNat_Int] at hfs
   have fin:∀ b,b<256*c0->b ≠ rb->b ≠ kb->(HeapC.set rh rb (.cells false none (ints (Za7 S1.m S1.Q S1.X)))).f b=h.f b:=fun b h1 h2 h3=>by
    rw [Z0g,if_neg h2,p3 b qO h2 h3,f1 b h3 qO]
   refine Ans.lpN rfl rfl (Z30 ..) ?_
   unfold Z3v
   have fx:=ai sf.ixs1 (ai l1 (ai w1 (ai hlb (ai hbl (ai hH2 (ai hr (ai lv hfs)))))))
   refine Ans.go ?_
   clear fx
   refine Ans.nextN ?_
   refine (ih (i+1) (rc+1+1) _ (Za7 S1.m S1.Q S1.X) S1.K (2*(B+100000000)) qO qO (hg.eqf (fin gb hgb hg1 hg2)) (hs.keep fun hp=>fin _ (hs.blk hp) (hsb hp).1 (hsb hp).2) (sf.keep fun hp=>fin _ (sf.blk hp) (hFb hp).1 (hFb hp).2) (by rw [Z0g,if_pos rfl]) (by rw [Z0g,if_neg (Ne.symm hne),p7]) (by rw [Z2m]; exact o1.xl) o1.kl (fun j=>Z4A o1 j) (fun t k hk=>by rw [Z67 o1 t k hk]; exact o1.qd t k hk) qO hp1).mono fun r p=>p.mono qO fin

def fill0 (Qd:List Int) (n:Nat):List Int:=pqK Qd n 0 (List.replicate (7*n) 0)
def Z7j (Gl:List Int) (n:Nat) (Qd:List Int):Option (List Int):=ZeD Gl true n (vxF Gl n) (fill0 Qd n) (List.replicate (4*n) false)
theorem Z6z (n j:Nat):(List.replicate n (0:Int)).getD j 0=0:=by
 simp only [List.getD_eq_getElem?_getD,List.getElem?_replicate]
 split <;> rfl
theorem Z1W {Qd:List Int} {n:Nat} (hq:Qd.length=3*n):(fill0 Qd n).length=7*n:=ZbG hq qO (by simp)
theorem Z4F {Qd:List Int} {n:Nat} (hq:Qd.length=3*n) (u k:Nat) (hk:k<3):(fill0 Qd n).getD (7*u+4+k) 0=if u<n then Qd.getD (3*u+k) 0 else 0:=by
 unfold fill0
 rw [ZgD hq qO (by simp) u k hk,Z6z]
 by_cases h:u<n
 · rw [if_pos h,if_pos qO]
 · rw [if_neg h,if_neg qO]
theorem Z7L {Qd:List Int} {n:Nat} (hq:Qd.length=3*n) (u i:Nat) (hi:i<4):(fill0 Qd n).getD (7*u+i) 0=0:=by
 unfold fill0
 rw [Zkk hq qO (by simp) u i hi,Z6z]
theorem Z4g {Qd:List Int} {n:Nat} (hq:Qd.length=3*n) (hb:∀ j,0<=gi Qd j/\gi Qd j<=1000000) (j:Nat):0<=(fill0 Qd n).getD j 0/\(fill0 Qd n).getD j 0<=1000000:=by
 by_cases h:j % 7<4
 · have:=Z7L hq (j / 7) (j % 7) h
   rw [show 7*(j / 7)+j % 7=j by omega] at this
   omega
 · have:=Z4F hq (j / 7) (j % 7-4) qO
   rw [show 7*(j / 7)+4+(j % 7-4)=j by omega] at this
   rw [this]
   split
   · have:=hb ((3*(j / 7)+(j % 7-4):Nat):Int)
     rwa [Z1y] at this
   · omega
theorem pow24 {m:Nat} (h:m<=24):(1000000+200000000:Int)*2 ^ m<=6000000000000000:=by
 have h1:2 ^ m<=2 ^ 24:=Nat.pow_le_pow_right qO h
 have h2:((2 ^ m:Nat):Int)<=16777216:=by omega
 rw [Int.natCast_pow] at h2
 have e:((2:Nat):Int) ^ m=2 ^ m:=rfl
 rw [e] at h2
 omega
set_option maxHeartbeats 2000000 in
theorem ZkN (s q:Value) (n:Nat) (Gl Qd:List Int) (h:FH) (c:Nat) (df:List Nat) (hs:SlI h c s 20 n Gl) (hok:Z0t Gl n=true) (hn:n<=6) (hq:SlI h c q 1 (3*n) Qd) (hx:SlX h q 1 (3*n)) (hb:∀ j,0<=gi Qd j/\gi Qd j<=1000000) :
 Ans (G (.fn 57) [.agg #[s],q] h c df) fun r=>r.e = .ret/\r.df=[]/\c<=r.c/\Z0u c h r.h/\match Z7j Gl n Qd with
  | none=>r.vs=[.tuple #[.slice none 0 0,.bool false]]
  | some X=>∃ rb,r.vs=[.tuple #[.slice (some ⟨rb,0,none⟩) (7*n) (7*n),.bool (Z0x X)]]/\X.length=7*n/\rb<256*r.c/\r.h.f rb=some (.cells false none (ints X)):=by
 refine Ans.call' (fun r e=>f57_go e) ?_
 unfold Zl9
 rw [Z4s hs.flat,Z4m,Nat.add_zero]
 simp only [cond_true]
 have hQl:Qd.length=3*n:=hq.1.trans (Nat.mul_one _)
 obtain ⟨rb,hrb⟩:∃ rb,256*(c+1+1)+2=rb:=⟨_,rfl⟩
 obtain ⟨H0,hH0⟩:∃ H0,newB h (256*c) [s]=H0:=⟨_,rfl⟩
 have s0:Z0u c h H0:=by rw [← hH0]; simp (disch:=omega)
 have g0:Z09 H0 (256*c) [s]:=by rw [← hH0]; exact Z09.newB_same _ _ _
 have l0:ld1 H0 (.pointer (some ⟨256*c,0,none⟩))=some s:=by rw [Z01 g0]; rfl
 have ll:=hs.len
 have mk:=Z5m 1 8 .i64 .i64 (7*n) qO qO
 rw [show ((7*n:Nat):Int)=7*(n:Int) by omega] at mk
 have hqb:0<n->Z0l q ≠ rb:=fun hp=>by have:=hq.blk qO; omega
 have hcp:=Ans.eq (ZrM H0 q n Qd rb (c+1+1+1+1) (256*c) (.int .i64 n) (.int .i64 n) [] qO ((hq.same s0).mono qO) (SlX.keep hq s0 hx) hqb qO qO (by simp) rfl n 0 (List.replicate (7*n) 0) qO (by simp))
 rw [← ZaE,← ZaE,show pqK Qd n 0 (List.replicate (7*n) 0)=fill0 Qd n from rfl] at hcp
 simp only [Int.ofNat_eq_natCast,Int.cast_ofNat_Int] at hcp
 have hXl:=Z1W hQl
 have hXb:=Z4g hQl hb
 obtain ⟨H2,hH2⟩:∃ H2,newB H0 rb (ints (fill0 Qd n))=H2:=⟨_,rfl⟩
 rw [hH2] at hcp
 have f2:∀ b,b ≠ rb->H2.f b=H0.f b:=fun b hb=>by rw [← hH2,Z08,if_neg hb]
 have r2:H2.f rb=some (.cells false none (ints (fill0 Qd n))):=by rw [← hH2,Z08,if_pos rfl]
 have s2:Z0u c h H2:=fun b hb=>by rw [f2 b qO,s0 b hb]
 have g2:Z09 H2 (256*c) [s]:=g0.eqf (f2 _ qO)
 have l2:ldN H2 1 (.pointer (some ⟨256*c,0,none⟩))=some (.agg #[s]):=Z0p g2
 obtain ⟨⟨re,rv,H3,k1,rd⟩,hr,r1,r2',r3,r4,vs,vu,es,eu,rfl,b1,b2,b3,b4,u1,u2⟩:=ZcO s n Gl H2 (c+1+1+1+1+1) [] ((hs.same s2).mono qO) hok qO
 simp only at r1 r2' r3 r4 b1 b2 b3 b4 u1 u2
 subst r1 r2'
 have cc:=Z05 hr
 obtain ⟨kb,hkb⟩:∃ kb,256*k1+2=kb:=⟨_,rfl⟩
 have mb:=ZgI 1 1 .i64 .i64 (4*n) qO qO
 rw [show ((4*n:Nat):Int)=4*(n:Int) by omega] at mb
 obtain ⟨H4,hH4⟩:∃ H4,newB H3 kb (bools (List.replicate (4*n) false))=H4:=⟨_,rfl⟩
 have f4:∀ b,b ≠ kb->H4.f b=H3.f b:=fun b hb=>by rw [← hH4,Z08,if_neg hb]
 have k4:H4.f kb=some (.cells false none (bools (List.replicate (4*n) false))):=by rw [← hH4,Z08,if_pos rfl]
 have u4:Uf H4 vs vu (4*n) (vCl n (Z43 Gl n)):=u1.keep (f4 _ qO) (f4 _ qO)
 obtain ⟨⟨re,rv,H5,k5,rd⟩,hr5,F,g1,g3,g4,g5⟩:=Zez vs vu (4*n) _ H4 (k1+1+1) [] u4 qO qO
 obtain ⟨rfl,rfl,-,-,rfl⟩:=Rt.mk.inj g1
 simp only at g3 g4 g5
 have cf:callF G 45 [.pointer (some ⟨vs,0,none⟩)] H4 (k1+1+1)=some (F,H5,k5):=Z05 hr5
 rw [show Z0F (vCl n (Z43 Gl n)) (4*n)=vxF Gl n from rfl] at g5
 have lf:=g5.sl.len
 have hFl:(vxF Gl n).length<=4*n:=Z4f _ _
 have s35:∀ b,b<256*k1->H5.f b=H3.f b:=fun b hb=>by rw [g4 b qO,f4 b qO]
 have s5:∀ b,b<256*(c+5)->H5.f b=H2.f b:=fun b hb=>by rw [s35 b qO,r4 b qO]
 have hnb:0<(vxF Gl n).length->Z0l F ≠ rb/\Z0l F ≠ kb:=fun hp=>by
  obtain ⟨z1,z2,⟨rfl,z3⟩ | ⟨i,rfl,z3,z4,z5⟩⟩:=g5
  · omega
  · rw [blkOf_sl]; exact ⟨by omega,by omega⟩
 obtain ⟨⟨re,rv,H6,k6,rd⟩,hr6,p1,p2,p3,p4⟩:=ZqX s n Gl (256*c) rb kb k5 F (vxF Gl n).length (vxF Gl n) [] hn hok qO qO qO qO qO qO (fun hp=>by have:=hs.blk hp; exact ⟨by omega,by omega⟩)
  (fun x hx=>by obtain ⟨k,h1,h2,_⟩:=Z66 hx; exact ⟨k,h1,h2⟩) hnb qO (vxF Gl n).length 0 k5 H5 (fill0 Qd n) (List.replicate (4*n) false) 1000000 qO qO (g2.eqf (s5 _ qO)) ((hs.keep fun hp=>by rw [s5 _ (by have:=hs.blk hp; omega),s2 _ (hs.blk hp)]).mono qO) g5.sl (by rw [s5 _ qO,r2]) (by rw [g4 _ qO,k4]) hXl (by simp) (fun j=>by have:=hXb j; omega) (fun t k _=>hXb _) qO (pow24 qO)
 rw [List.drop_zero,show ZeD Gl true n (vxF Gl n) (fill0 Qd n) (List.replicate (4*n) false)=Z7j Gl n Qd from rfl] at p4
 simp only [Int.ofNat_eq_natCast,Int.cast_ofNat_Int] at hr6
 simp only at p1 p2 p3
 subst p2
 have s6:Z0u c h H6:=fun b hb=>by rw [p3 b qO qO qO,s5 b qO,s2 b hb]
 cases hF:Z7j Gl n Qd with
 | none =>
  rw [hF] at p4
  obtain ⟨p4,p5,p6⟩:=p4
  simp only at p4
  subst p4
  have fx:=ai l0 (ai ll (ai mk (ai hrb (ai hH0 (ai hcp (ai l2 (ai cc (ai hkb (ai mb (ai hH4 (ai cf (ai lf hr6))))))))))))
  refine Ans.go ?_
  clear fx
  rw [p5,p6]
  exact .done ⟨rfl,rfl,(by show c<=k6; omega),s6,rfl⟩
 | some X =>
  rw [hF] at p4
  obtain ⟨p4,p5,p6,p7⟩:=p4
  simp only at p4 p6 p7
  subst p4
  have cw:=Z05 (Z7s (.slice (some ⟨rb,0,none⟩) (7*n) (7*n)) (7*n) X H6 (k6+1) [] (Z60 p6 p7 qO qO) qO)
  have fx:=ai l0 (ai ll (ai mk (ai hrb (ai hH0 (ai hcp (ai l2 (ai cc (ai hkb (ai mb (ai hH4 (ai cf (ai lf (ai hr6 (ai p5 cw))))))))))))))
  refine Ans.go ?_
  clear fx
  exact .done ⟨rfl,rfl,(by show c<=k6+1; omega),s6,rb,(by show [Value.tuple #[Rt.v _ 3,_]]=_; rw [p5]),p7,(by show rb<256*(k6+1); omega),p6⟩
def q3 (Qd:List Int) (t:Nat):List Int:=(Qd.drop (3*t)).take 3
theorem Zqw (q:Value) (n:Nat) (Qd:List Int) (gb c:Nat) (h:FH) (df:List Nat) (hn:n<=60) (hq:SlI h c q 1 (3*n) Qd) (hx:SlX h q 1 (3*n)) (hgb:gb<256*c) :
 ∀ (k t:Nat),t+k=n->Ans (G (ZcD none) [q,ptrTo gb,.slice none 0 0,.int .i64 0,.int .i64 n,.int .i64 t] h c df) fun r=>r.h=h/\r.c=c/\r.df=df ∧
  ((r.e = .exit 0/\r.vs=[q,ptrTo gb,.slice none 0 0,.int .i64 0,.int .i64 n,.int .i64 n] /\ ∀ u,t<=u->u<n->Z7n (q3 Qd u)=true) ∨
   (r.e = .ret/\(∃ j,r.vs=[q,ptrTo gb,.slice none 0 0,.int .i64 1,.int .i64 n,j]) /\ ∃ u,u<n/\Z7n (q3 Qd u)=false)):=by
 intro k
 have oq:=hq.okV
 induction k with
 | zero =>
  intro t ht
  obtain rfl:t=n:=by omega
  refine Ans.lpG rfl rfl (Z34 ..) ?_
  unfold Z3O
  have fx:=True.intro
  refine Ans.go ?_
  clear fx
  (have fx:=ai oq hgb; refine Ans.ex0 ?_; clear fx)
  exact ⟨rfl,rfl,rfl,.inl ⟨rfl,rfl,fun u h1 h2=>by omega⟩⟩
 | succ k ih =>
  intro t ht
  have s2:=SlX.sub hq hx .i64 .i64 (3*(t:Int)) (3*(t:Int)+3) qO qO qO qO
  rw [show (3*(t:Int)).toNat=3*t by omega,show (3*(t:Int)+3).toNat=3*t+3 by omega] at s2
  have s3:=hq.sub (3*t) (3*t+3) qO qO qO
  simp only [Nat.mul_one] at s3
  rw [show (3*t+3-3*t)=3 by omega,show (Qd.drop (3*t)).take 3=q3 Qd t from rfl] at s3
  have ca:=fun c' (hc:c<=c')=>Z05 (Zgl (subS 1 (3*t) (3*t+3) q) 3 (q3 Qd t) h c' [] (s3.mono hc) qO)
  cases hQ:Z7n (q3 Qd t) with
  | true =>
   rw [hQ] at ca
   refine Ans.lpG rfl rfl (Z34 ..) ?_
   unfold Z3O
   have fx:=ai s2 ca
   refine Ans.go ?_
   clear fx
   (have fx:=ai oq hgb; refine Ans.nx0 ?_; clear fx)
   refine (ih (t+1) qO).mono ?_
   rintro r ⟨r1,r2,r3,r4⟩
   refine ⟨r1,r2,r3,r4.imp ?_ id⟩
   rintro ⟨a,b,d⟩
   refine ⟨a,b,fun u h1 h2=>?_⟩
   by_cases e:u=t
   · rw [e]; exact hQ
   · exact d u qO h2
  | false =>
   rw [hQ] at ca
   refine Ans.lpG rfl rfl (Z34 ..) ?_
   unfold Z3O
   have fx:=ai s2 ca
   refine Ans.go ?_
   clear fx
   (have fx:=ai oq hgb; refine Ans.rt0 ?_; clear fx)
   exact ⟨rfl,rfl,rfl,.inr ⟨rfl,⟨_,rfl⟩,t,by omega,hQ⟩⟩
def qOk (Qd:List Int) (n:Nat):Bool:=decide (Qd.length=3*n) && Z0x Qd && (List.range n).all fun t=>Z7n (q3 Qd t)
def ZeB (Gl:List Int) (n:Nat) (Qd:List Int):Int :=
 if Z7p Gl n=0 then (if qOk Qd n=true then (match Z7j Gl n Qd with | some X=>if Z0x X=true then 0 else 3 | none=>3) else 1) else Z7p Gl n
set_option maxHeartbeats 2000000 in
theorem ZqV (s q:Value) (n nq:Nat) (Gl Qd:List Int) (h:FH) (c:Nat) (df:List Nat) (hs:SlI h c s 20 n Gl) (hn:n<=6) (hq:SlI h c q 1 nq Qd) (hx:SlX h q 1 nq) (hnq:nq<=1000000) :
 Ans (G (.fn 25) [.agg #[s],q] h c df) fun r=>r.e = .ret/\r.df=[]/\c<=r.c/\Z0u c h r.h ∧
  ((ZeB Gl n Qd ≠ 0/\r.vs=[.tuple #[.slice none 0 0,.int .i64 (ZeB Gl n Qd)]]) ∨
   (ZeB Gl n Qd=0 /\ ∃ rb X,Z7j Gl n Qd=some X/\r.vs=[.tuple #[.slice (some ⟨rb,0,none⟩) (7*n) (7*n),.int .i64 0]]/\X.length=7*n/\rb<256*r.c/\r.h.f rb=some (.cells false none (ints X)))):=by
 refine Ans.call' (fun r e=>f25_go e) ?_
 unfold Zlm
 rw [Z4s hs.flat,Z4m,Nat.add_zero]
 simp only [cond_true]
 have hQl:Qd.length=nq:=hq.1.trans (Nat.mul_one _)
 obtain ⟨H,hH⟩:∃ H,newB h (256*c) [s]=H:=⟨_,rfl⟩
 have sH:Z0u c h H:=by rw [← hH]; simp (disch:=omega)
 have hg:Z09 H (256*c) [s]:=by rw [← hH]; exact Z09.newB_same _ _ _
 have l0:ldN H 1 (.pointer (some ⟨256*c,0,none⟩))=some (.agg #[s]):=Z0p hg
 have l1:ld1 H (.pointer (some ⟨256*c,0,none⟩))=some s:=by rw [Z01 hg]; rfl
 have ll:=hs.len
 have lq:=hq.len
 have cr:=fun c' (hc:c<=c')=>Z05 (ZbE s n Gl H c' [] ((hs.same sH).mono hc))
 have cw:=fun c' (hc:c<=c')=>Z05 (Z7s q nq Qd H c' [] ((hq.same sH).mono hc) qO)
 unfold ZeB
 by_cases h0:Z7p Gl n=0
 case neg =>
  rw [if_neg h0]
  obtain ⟨E,hE⟩:∃ E,Z7p Gl n=E:=⟨_,rfl⟩
  rw [hE] at cr h0 ⊢
  have fx:=ai hH (ai l0 cr)
  refine Ans.go ?_
  clear fx
  exact .done ⟨rfl,rfl,(by show c<=c+1+1+1+1; omega),sH,.inl ⟨h0,rfl⟩⟩
 obtain ⟨hn6,hok⟩:=Z1f h0
 rw [if_pos h0]
 rw [h0] at cr
 clear h0
 by_cases e1:nq=3*n
 case neg =>
  have hz:qOk Qd n=false:=by
   unfold qOk
   rw [decide_eq_false qO]; rfl
  rw [hz,if_neg (by simp)]
  have e1':¬ (nq:Int)=3*(n:Int):=by omega
  have fx:=ai hH (ai l0 (ai cr (ai lq (ai l1 ll))))
  refine Ans.go ?_
  clear fx
  exact .done ⟨rfl,rfl,(by show c<=c+1+1+1+1+1; omega),sH,.inl ⟨by decide,rfl⟩⟩
 subst e1
 cases hw:Z0x Qd with
 | false =>
  have hz:qOk Qd n=false:=by
   unfold qOk
   rw [hw]; simp
  rw [hz,if_neg (by simp)]
  rw [hw] at cw
  have e1':((3*n:Nat):Int)=3*(n:Int):=by omega
  have fx:=ai hH (ai l0 (ai cr (ai lq (ai l1 (ai ll cw)))))
  refine Ans.go ?_
  clear fx
  exact .done ⟨rfl,rfl,(by show c<=c+1+1+1+1+1; omega),sH,.inl ⟨by decide,rfl⟩⟩
 | true =>
  rw [hw] at cw
  have hb:=Z46 hw
  have hx':=SlX.keep hq sH hx
  have e1':((3*n:Nat):Int)=3*(n:Int):=by omega
  obtain ⟨⟨re,rv,rh,rc,rd⟩,hr,r1,r2,r3,r4⟩:=Zqw q n Qd (256*c) (c+1+1+1+1+1) H [] qO ((hq.same sH).mono qO) hx' qO n 0 qO
  simp only at r1 r2 r3 r4
  subst r1 r2 r3
  simp only [Int.ofNat_eq_natCast,Int.cast_ofNat_Int] at hr
  rcases r4 with ⟨rfl,rfl,r5⟩ | ⟨rfl,⟨j,rfl⟩,u,hu,hu2⟩
  case inr =>
   have hz:qOk Qd n=false:=by
    unfold qOk
    rw [Bool.and_eq_false_iff]
    right
    rw [List.all_eq_false]
    exact ⟨u,by simpa using hu,by rw [hu2]; simp⟩
   rw [hz,if_neg (by simp)]
   have fx:=ai hH (ai l0 (ai cr (ai lq (ai l1 (ai ll (ai cw hr))))))
   refine Ans.go ?_
   clear fx
   exact .done ⟨rfl,rfl,(by show c<=c+1+1+1+1+1; omega),sH,.inl ⟨by decide,rfl⟩⟩
  have hz:qOk Qd n=true:=by
   unfold qOk
   rw [hw,decide_eq_true qO]
   simp only [Bool.true_and,List.all_eq_true]
   exact fun t ht=>r5 t qO (by simpa using ht)
  rw [hz,if_pos rfl]
  obtain ⟨⟨re,rv,rh,k2,rd⟩,hr2,t1,t2,t3,t4,t5⟩:=ZkN s q n Gl Qd rh (c+1+1+1+1+1+1) [] ((hs.same sH).mono qO) hok hn ((hq.same sH).mono qO) hx' hb
  simp only at t1 t2 t3 t4 t5
  subst t1 t2
  cases hF:Z7j Gl n Qd with
  | none =>
   rw [hF] at t5
   subst t5
   have cf:=Z05 hr2
   have fx:=ai hH (ai l0 (ai cr (ai lq (ai l1 (ai ll (ai cw (ai hr cf)))))))
   refine Ans.go ?_
   clear fx
   exact .done ⟨rfl,rfl,(by show c<=k2+1+1; omega),sH.trans (t4.mono qO),.inl ⟨by decide,rfl⟩⟩
  | some X =>
   rw [hF] at t5
   obtain ⟨rb,rfl,t6,t7,t8⟩:=t5
   have cf:=Z05 hr2
   cases hX:Z0x X with
   | false =>
    rw [hX] at cf
    try simp only
    try rw [hX]
    have fx:=ai hH (ai l0 (ai cr (ai lq (ai l1 (ai ll (ai cw (ai hr cf)))))))
    refine Ans.go ?_
    clear fx
    exact .done ⟨rfl,rfl,(by show c<=k2+1+1; omega),sH.trans (t4.mono qO),.inl ⟨by decide,rfl⟩⟩
   | true =>
    rw [hX] at cf
    try simp only
    try rw [hX]
    have fx:=ai hH (ai l0 (ai cr (ai lq (ai l1 (ai ll (ai cw (ai hr cf)))))))
    refine Ans.go ?_
    clear fx
    exact .done ⟨rfl,rfl,(by show c<=k2+1+1; omega),sH.trans (t4.mono qO),.inr ⟨rfl,rb,X,rfl,rfl,t6,(by show rb<256*(k2+1+1); omega),t8⟩⟩

theorem Z6l {Gl:List Int} {n t f i:Nat} (hok:Z0t Gl n=true) (hG:Gl.length=n*20) (ht:t<n) (hf:f<4) (hi:i<4) (hne:i ≠ f) (hg:¬ Z0L (Z03 Gl t f)<0) :
 fU Gl (fU Gl t f) (fJ Gl t f f)=t /\ ¬ Z0L (Z03 Gl (fU Gl t f) (fJ Gl t f f))<0/\fJ Gl (fU Gl t f) (fJ Gl t f f) (fJ Gl t f i)=i/\fJ Gl (fU Gl t f) (fJ Gl t f f) (fJ Gl t f f)=f/\(Z1O Gl t f=true->Z1O Gl (fU Gl t f) (fJ Gl t f f)=false):=by
 have g:=FGl.of hok hG ht hf hi hne hg
 obtain ⟨k1,k2,k3,k4⟩:=Z6e (Z8o hok ht hf) hg
 have kp:=Zms (Z1S (Z0o hG ht hf)) k2
 have vi:=ZpT kp hi
 have vf:=ZpT kp hf
 have li:=len24 (inv24 kp)
 have e1:Z0L ((t:Int)::inv (Z0e (Z03 Gl t f)))=t:=rfl
 have e2:Z0e ((t:Int)::inv (Z0e (Z03 Gl t f)))=inv (Z0e (Z03 Gl t f)):=by
  show List.take 4 (List.drop 1 ((t:Int)::inv (Z0e (Z03 Gl t f))))=_
  rw [List.drop_succ_cons,List.drop_zero,List.take_of_length_le qO]
 have k5:Z03 Gl (fU Gl t f) (fJ Gl t f f)=(t:Int)::inv (Z0e (Z03 Gl t f)):=k4
 have q1:Z0L (Z03 Gl (fU Gl t f) (fJ Gl t f f))=t:=by rw [k5,e1]
 have q2:(Z0e (Z03 Gl (fU Gl t f) (fJ Gl t f f))).getD (fJ Gl t f i) 0=i:=by rw [k5,e2]; exact vi
 have q3:(Z0e (Z03 Gl (fU Gl t f) (fJ Gl t f f))).getD (fJ Gl t f f) 0=f:=by rw [k5,e2]; exact vf
 refine ⟨by rw [fU,q1,Int.toNat_natCast],by rw [q1]; omega,by rw [fJ,q2,Int.toNat_natCast],by rw [fJ,q3,Int.toNat_natCast],fun hs=>?_⟩
 have guz:=g.uz
 have ghz:=g.hz
 unfold Z1O at hs ⊢
 rw [q1,q3]
 rw [guz,ghz] at hs k3
 simp only [Bool.or_eq_true,Bool.and_eq_true,decide_eq_true_eq,Bool.or_eq_false_iff,Bool.and_eq_false_iff,decide_eq_false_iff_not] at hs ⊢
 omega
theorem ZhB {Gl:List Int} {n:Nat} (hok:Z0t Gl n=true) (hG:Gl.length=n*20) {R:Nat->Nat->Nat->Prop}
 (h1:∀ t f i,t<n->f<4->i<4->i ≠ f->Z1O Gl t f=false->R t f i) (h2:∀ t f i,t<n->f<4->i<4->i ≠ f -> ¬ Z0L (Z03 Gl t f)<0->R (fU Gl t f) (fJ Gl t f f) (fJ Gl t f i)->R t f i)
 {t f i:Nat} (ht:t<n) (hf:f<4) (hi:i<4) (hne:i ≠ f) (hg:¬ Z0L (Z03 Gl t f)<0):R t f i:=by
 cases hs:Z1O Gl t f with
 | false=>exact h1 t f i ht hf hi hne hs
 | true =>
  have g:=FGl.of hok hG ht hf hi hne hg
  obtain ⟨a,b,d,e,k⟩:=Z6l hok hG ht hf hi hne hg
  exact h2 t f i ht hf hi hne hg (h1 _ _ _ g.u g.h g.j g.ne (k hs))
theorem Z1x {Gl:List Int} {t f:Nat} (h:Z1O Gl t f=false):¬ Z0L (Z03 Gl t f)<0:=by
 unfold Z1O at h
 simp only [Bool.or_eq_false_iff,decide_eq_false_iff_not] at h
 exact h.1.1
theorem mAB {Gl:List Int} {n t f i:Nat} (g:FGl Gl n t f i):mA (Z2U Gl t f i)=4*t+i/\mB (Z2U Gl t f i)=fV Gl t f i:=by
 constructor
 · show (4*(t:Int)+i).toNat=_
   omega
 · show (4*Z0L (Z03 Gl t f)+(Z0e (Z03 Gl t f)).getD i 0).toNat=4*fU Gl t f+fJ Gl t f i
   rw [g.uz,g.jz]; omega
theorem Z6k {Gl:List Int} {n t f i:Nat} (hok:Z0t Gl n=true) (hG:Gl.length=n*20) (ht:t<n) (hf:f<4) (hi:i<4) (hne:i ≠ f) (hg:¬ Z0L (Z03 Gl t f)<0):Z02 (vxC Gl n) (4*t+i)=Z02 (vxC Gl n) (fV Gl t f i):=by
 obtain ⟨hd,hs⟩:=Z5f hok hG
 refine ZhB (R:=fun t f i=>Z02 (vxC Gl n) (4*t+i)=Z02 (vxC Gl n) (fV Gl t f i)) hok hG (fun t f i ht hf hi hne hm=>?_) (fun t f i ht hf hi hne hg h=>?_) ht hf hi hne hg
 · have:=hs _ (ZdX ht hf hi hne hm)
   have e:=mAB (FGl.of hok hG ht hf hi hne (Z1x hm))
   rw [e.1,e.2] at this
   exact this
 · obtain ⟨a,b,d,e,k⟩:=Z6l hok hG ht hf hi hne hg
   unfold fV at h ⊢
   rw [a,d] at h
   exact h.symm
theorem Zo0 {Gl V:List Int} {n t f i:Nat} (hok:Z0t Gl n=true) (hG:Gl.length=n*20) (hV:((Z43 Gl n).all fun m=>eqM V m)=true) (ht:t<n) (hf:f<4) (hi:i<4) (hne:i ≠ f) (hg:¬ Z0L (Z03 Gl t f)<0) :
 Z7o V t f i=Z7o V (fU Gl t f) (fJ Gl t f f) (fJ Gl t f i):=by
 refine ZhB (R:=fun t f i=>Z7o V t f i=Z7o V (fU Gl t f) (fJ Gl t f f) (fJ Gl t f i)) hok hG (fun t f i ht hf hi hne hm=>?_) (fun t f i ht hf hi hne hg h=>?_) ht hf hi hne hg
 · have:=List.all_eq_true.1 hV _ (ZdX ht hf hi hne hm)
   have g:=FGl.of hok hG ht hf hi hne (Z1x hm)
   unfold eqM at this
   rw [decide_eq_true_eq] at this
   have e:Z7o V (t:Int) f i=Z7o V (Z0L (Z03 Gl t f)) ((Z0e (Z03 Gl t f)).getD f 0) ((Z0e (Z03 Gl t f)).getD i 0):=this
   rw [g.uz,g.hz,g.jz] at e
   exact e
 · obtain ⟨a,b,d,e,k⟩:=Z6l hok hG ht hf hi hne hg
   rw [a,d,e] at h
   exact h.symm
theorem Zpu {Gl V:List Int} {n:Nat} (hok:Z0t Gl n=true) (hG:Gl.length=n*20) (h:∀ t f i,t<n->f<4->i<4->i ≠ f -> ¬ Z0L (Z03 Gl t f)<0->Z7o V t f i=Z7o V (fU Gl t f) (fJ Gl t f f) (fJ Gl t f i)) :
 ((Z43 Gl n).all fun m=>eqM V m)=true:=by
 refine List.all_eq_true.2 fun m hm=>?_
 obtain ⟨t,f,i,ht,hf,hi,hne,hsk,rfl⟩:=Z7G hm
 have g:=FGl.of hok hG ht hf hi hne (Z1x hsk)
 unfold eqM
 rw [decide_eq_true_eq]
 show Z7o V (t:Int) f i=Z7o V (Z0L (Z03 Gl t f)) ((Z0e (Z03 Gl t f)).getD f 0) ((Z0e (Z03 Gl t f)).getD i 0)
 rw [g.uz,g.hz,g.jz]
 exact h t f i ht hf hi hne (Z1x hsk)
theorem Zat {m k:Nat} (h:k<m):Z02 (Z0v m) k=k:=Z1j (Z2n h)
theorem ZbP {m:Nat} (S:Nat->Prop):∀ (D:List (List Int)) (L:List Int),Z2I L m->(∀ M,M ∈ D->mA M<m/\mB M<m/\(S (mA M) ↔ S (mB M)))->(∀ a b,a<m->b<m->Z02 L a=Z02 L b->(S a ↔ S b)) →
 ∀ a b,a<m->b<m->Z02 (D.foldl Z8k L) a=Z02 (D.foldl Z8k L) b->(S a ↔ S b)
 | [],L,_,_,h=>h
 | M::D,L,hd,hg,h=>by
  obtain ⟨g1,g2,g3⟩:=hg M (by simp)
  refine ZbP S D (Z8k L M) (Z1k hd g1 g2) (fun N hN=>hg N (by simp [hN])) fun a b ha hb e=>?_
  have r1:=Z1B hd g1 g2 ha
  have r2:=Z1B hd g1 g2 hb
  have e':Z02 (Z1P L (mA M) (mB M)) a=Z02 (Z1P L (mA M) (mB M)) b:=e
  rw [r1,r2] at e'
  have ai:=h a (mA M) ha g1
  have aj:=h a (mB M) ha g2
  have bi:=h b (mA M) hb g1
  have bj:=h b (mB M) hb g2
  have ab:=h a b ha hb
  by_cases c1:Z02 L a=max (Z02 L (mA M)) (Z02 L (mB M)) <;> by_cases c2:Z02 L b=max (Z02 L (mA M)) (Z02 L (mB M))
  · exact ab (c1.trans c2.symm)
  · rw [if_pos c1,if_neg c2] at e'
    rcases Nat.le_total (Z02 L (mA M)) (Z02 L (mB M)) with q | q
    · exact (aj qO).trans (g3.symm.trans (bi qO).symm)
    · exact (ai qO).trans (g3.trans (bj qO).symm)
  · rw [if_neg c1,if_pos c2] at e'
    rcases Nat.le_total (Z02 L (mA M)) (Z02 L (mB M)) with q | q
    · exact (ai qO).trans (g3.trans (bj qO).symm)
    · exact (aj qO).trans (g3.symm.trans (bi qO).symm)
  · rw [if_neg c1,if_neg c2] at e'
    exact ab e'
theorem Zb5 {Gl:List Int} {n:Nat} (hok:Z0t Gl n=true) (hG:Gl.length=n*20) {S:Nat->Prop} (hS:∀ t f i,t<n->f<4->i<4->i ≠ f -> ¬ Z0L (Z03 Gl t f)<0->(S (4*t+i) ↔ S (fV Gl t f i)))
 {a b:Nat} (ha:a<4*n) (hb:b<4*n) (e:Z02 (vxC Gl n) a=Z02 (vxC Gl n) b):S a ↔ S b:=by
 refine ZbP (m:=4*n) S (Z43 Gl n) (Z0v (4*n)) (Z0O _) (fun M hM=>?_) (fun a b ha hb e=>?_) a b ha hb e
 · obtain ⟨t,f,i,ht,hf,hi,hne,hsk,rfl⟩:=Z7G hM
   have g:=FGl.of hok hG ht hf hi hne (Z1x hsk)
   obtain ⟨q1,q2⟩:=mAB g
   have gu:=g.u
   have gj:=g.j
   rw [q1,q2]
   exact ⟨by omega,by unfold fV; omega,hS t f i ht hf hi hne (Z1x hsk)⟩
 · rw [Zat ha,Zat hb] at e
   rw [e]

def gI (Gl:List Int) (t f:Nat):Nat->Nat->List Int->List Int
 | 0,_,C=>C
 | k+1,i,C=>gI Gl t f k (i+1) (if i=f then C else Z1P C (4*t+i) (fV Gl t f i))
def gF (Gl:List Int) (t:Nat):Nat->Nat->List Int->List Int
 | 0,_,C=>C
 | k+1,f,C=>gF Gl t k (f+1) (if Z0L (Z03 Gl t f)<0 then C else gI Gl t f 4 0 C)
def gT (Gl:List Int):Nat->Nat->List Int->List Int
 | 0,_,C=>C
 | k+1,t,C=>gT Gl k (t+1) (gF Gl t 4 0 C)
def vxG (Gl:List Int) (n:Nat):List Int:=gT Gl n 0 (Z0v (4*n))
theorem Zod {Gl:List Int} {n t f i:Nat} (g:FGl Gl n t f i):fV Gl t f i<4*n:=by have:=g.u; have:=g.j; unfold fV; omega
theorem Zfq {Gl:List Int} {n t f:Nat} (hok:Z0t Gl n=true) (hG:Gl.length=n*20) (ht:t<n) (hf:f<4) (hg:¬ Z0L (Z03 Gl t f)<0):∀ {k i:Nat} {C:List Int},i+k=4->Z2I C (4*n)->Z2I (gI Gl t f k i C) (4*n)
 | 0,_,_,_,h=>h
 | k+1,i,C,hi,h=>by
  rw [gI]
  refine Zfq hok hG ht hf hg qO ?_
  split
  · exact h
  · rename_i hne
    exact Z1k h qO (Zod (FGl.of hok hG ht hf qO hne hg))
theorem Zfr {Gl:List Int} {n t:Nat} (hok:Z0t Gl n=true) (hG:Gl.length=n*20) (ht:t<n):∀ {k f:Nat} {C:List Int},f+k=4->Z2I C (4*n)->Z2I (gF Gl t k f C) (4*n)
 | 0,_,_,_,h=>h
 | k+1,f,C,hf,h=>by
  rw [gF]
  refine Zfr hok hG ht qO ?_
  split
  · exact h
  · rename_i hg
    exact Zfq hok hG ht qO hg qO h
theorem Zdq {Gl:List Int} {n:Nat} (hok:Z0t Gl n=true) (hG:Gl.length=n*20):∀ {k t:Nat} {C:List Int},t+k=n->Z2I C (4*n)->Z2I (gT Gl k t C) (4*n)
 | 0,_,_,_,h=>h
 | k+1,t,C,ht,h=>by
  rw [gT]
  exact Zdq hok hG qO (Zfr hok hG qO qO h)
theorem ZlQ (h:FH) (n:Nat) (Gl:List Int) (t1 l:Value) (t f xb c:Nat) (df:List Nat) (hx:Z09 h xb (ints (Z03 Gl t f))) (hl:(Z03 Gl t f).length=5) (hxb:xb<256*c) (h0:Z0L (Z03 Gl t f)<0) (o1:OkV c t1) (ol:OkV c l) :
 Ans (G (Z8K none) [t1,l,.int .i64 t,.int .i64 f,ptrTo xb,.int .i64 0] h c df) fun q=>q=⟨.exit 4,[t1,l,.int .i64 t,.int .i64 f,ptrTo xb,.int .i64 0],h,c,df⟩:=by
 have b0:ld1 h (.pointer (some ⟨xb,0,none⟩))=some (.int .i64 (Z0L (Z03 Gl t f))):=by rw [Z01 hx,ints_getD _ _ qO]; rfl
 obtain ⟨U,hU⟩:∃ U,Z0L (Z03 Gl t f)=U:=⟨_,rfl⟩
 rw [hU] at b0 h0
 refine Ans.lpG rfl rfl (Z2X ..) ?_
 unfold Z4Q
 have fx:=b0
 refine Ans.go ?_
 clear fx
 (have fx:=ai o1 (ai ol hxb); refine Ans.ex0 ?_; clear fx)
 rfl
theorem ZlP (h0:FH) (n:Nat) (Gl:List Int) (t1:Value) (t f xb lb c:Nat) (df:List Nat) (hn:n<=60) (hok:Z0t Gl n=true) (hG:Gl.length=n*20) (ht:t<n) (hf:f<4) (hg:¬ Z0L (Z03 Gl t f)<0) (hx:Z09 h0 xb (ints (Z03 Gl t f))) (hxb:xb<256*c) (hlb:lb<256*c) (hne:xb ≠ lb) (o1:OkV c t1) :
 ∀ (k i:Nat) (C:List Int),i+k=4->Z2I C (4*n) →
 Ans (G (Z8K none) [t1,.slice (some ⟨lb,0,none⟩) (4*n) (4*n),.int .i64 t,.int .i64 f,ptrTo xb,.int .i64 i] (newB h0 lb (ints (Z62 C (4*n)))) c df) fun q=>q=⟨.exit 4,[t1,.slice (some ⟨lb,0,none⟩) (4*n) (4*n),.int .i64 t,.int .i64 f,ptrTo xb,.int .i64 4],newB h0 lb (ints (Z62 (gI Gl t f k i C) (4*n))),c,df⟩:=by
 intro k
 have hl:=Z0o hG ht hf
 have b0:∀ X,ld1 (newB h0 lb X) (.pointer (some ⟨xb,0,none⟩))=some (.int .i64 (Z0L (Z03 Gl t f))):=fun X=>by rw [ld1_newB_ne _ _ _ _ _ hne,Z01 hx,ints_getD _ _ qO]; rfl
 have bp:∀ X (x:Nat),x<4->ld1 (newB h0 lb X) (.pointer (some ⟨xb,1+x,none⟩))=some (.int .i64 ((Z0e (Z03 Gl t f)).getD x 0)):=fun X x hx'=>by
  rw [ld1_newB_ne _ _ _ _ _ hne,Z01 hx,ints_getD _ _ qO]
  unfold Z0e
  rw [Z26 _ _ _ qO,Z27]
 induction k with
 | zero =>
  intro i C hi hd
  obtain rfl:i=4:=by omega
  refine Ans.lpG rfl rfl (Z2X ..) ?_
  unfold Z4Q
  have fx:=True.intro
  refine Ans.go ?_
  clear fx
  (have fx:=ai o1 (ai hxb hlb); refine Ans.ex0 ?_; clear fx)
  rfl
 | succ k ih =>
  intro i C hi hd
  have hi4:(i:Int)<4:=by omega
  have uz:Z0L (Z03 Gl t f)=(fU Gl t f:Nat):=by unfold fU; omega
  have b0':=b0 (ints (Z62 C (4*n)))
  rw [uz] at b0'
  rw [gI]
  by_cases e:i=f
  · rw [if_pos e]
    have e':(i:Int)=f:=by omega
    obtain ⟨U,hU⟩:∃ U,fU Gl t f=U:=⟨_,rfl⟩
    rw [hU] at b0'
    refine Ans.lpG rfl rfl (Z2X ..) ?_
    unfold Z4Q
    have fx:=b0'
    refine Ans.go ?_
    clear fx
    (have fx:=ai o1 (ai hxb hlb); refine Ans.nx0 ?_; clear fx)
    exact ih (i+1) C qO hd
  · rw [if_neg e]
    have e':¬ (i:Int)=f:=by omega
    have g:=FGl.of hok hG ht hf qO e hg
    have b1:=bp (ints (Z62 C (4*n))) i qO
    rw [g.jz] at b1
    have hv:=Zod g
    have gu:=g.u
    have gj:=g.j
    have cm:=fun c' (hc:c<=c')=>Z05 (Zkz lb (4*n) C (4*t+i) (fV Gl t f i) (newB h0 lb (ints (Z62 C (4*n)))) c' [] qO qO hd qO hv (by rw [Z08,if_pos rfl]))
    have hk1:=ih (i+1) (Z1P C (4*t+i) (fV Gl t f i)) qO (Z1k hd qO hv)
    have hfv:fV Gl t f i=4*fU Gl t f+fJ Gl t f i:=rfl
    obtain ⟨C',hC'⟩:∃ C',Z1P C (4*t+i) (fV Gl t f i)=C':=⟨_,rfl⟩
    rw [hC'] at cm hk1 ⊢
    rw [newB_newB] at cm
    rw [hfv] at cm
    obtain ⟨U,hU⟩:∃ U,fU Gl t f=U:=⟨_,rfl⟩
    obtain ⟨J,hJ⟩:∃ J,fJ Gl t f i=J:=⟨_,rfl⟩
    rw [hU] at b0' cm gu
    rw [hJ] at b1 cm gj
    rw [show ((4*t+i:Nat):Int)=4*(t:Int)+i by omega,show ((4*U+J:Nat):Int)=4*(U:Int)+J by omega] at cm
    refine Ans.lpG rfl rfl (Z2X ..) ?_
    unfold Z4Q
    have fx:=ai b0' (ai b1 cm)
    refine Ans.go ?_
    clear fx
    (have fx:=ai o1 (ai hxb hlb); refine Ans.nxB (B:=newB h0 lb (ints (Z62 C' (4*n)))) ?_ ?_; exact (Z1A.both (Z1c.ints _ _) (Z1A.refl _ _) hlb); clear fx)
    exact hk1
theorem Zis (s:Value) (h0:FH) (n:Nat) (Gl:List Int) (gb t lb c:Nat) (df:List Nat) (hn:n<=60) (hok:Z0t Gl n=true) (hs:SlI h0 c s 20 n Gl) (hgb:gb<256*c) (hg:Z09 h0 gb [s]) (hlb:lb<256*c) (ht:t<n) (h1:gb ≠ lb) (h2:Z0l s ≠ lb) :
 ∀ (k f:Nat) (C:List Int),f+k=4->Z2I C (4*n) →
 Ans (G (Zc6 none) [ptrTo gb,.slice (some ⟨lb,0,none⟩) (4*n) (4*n),.int .i64 t,.int .i64 f] (newB h0 lb (ints (Z62 C (4*n)))) c df) fun q=>q=⟨.exit 2,[ptrTo gb,.slice (some ⟨lb,0,none⟩) (4*n) (4*n),.int .i64 t,.int .i64 4],newB h0 lb (ints (Z62 (gF Gl t k f C) (4*n))),c,df⟩:=by
 intro k
 have hG:=hs.1
 induction k with
 | zero =>
  intro f C hf hd
  obtain rfl:f=4:=by omega
  refine Ans.lpG rfl rfl (Z5z ..) ?_
  unfold Z6F
  have fx:=True.intro
  refine Ans.go ?_
  clear fx
  (have fx:=ai hgb hlb; refine Ans.ex0 ?_; clear fx)
  rfl
 | succ k ih =>
  intro f C hf hd
  have hf4:(f:Int)<4:=by omega
  have hl:=Z0o hG ht (by omega:f<4)
  obtain ⟨A,hA⟩:∃ A,newB h0 lb (ints (Z62 C (4*n)))=A:=⟨_,rfl⟩
  have fA:∀ b,b ≠ lb->A.f b=h0.f b:=fun b hb=>by rw [← hA,Z08,if_neg hb]
  have hsA:SlI A c s 20 n Gl:=hs.keep fun _=>fA _ h2
  have lg:ld1 A (.pointer (some ⟨gb,0,none⟩))=some s:=by rw [Z01 (hg.eqf (fA gb h1))]; rfl
  have lf:=hsA.face (t:Int) (f:Int) qO qO qO qO
  rw [Int.toNat_natCast,Int.toNat_natCast] at lf
  obtain ⟨xb,hxb⟩:∃ xb,256*(c+1)+7=xb:=⟨_,rfl⟩
  have hst:stN (newB A xb [.int .i64 0,.int .i64 0,.int .i64 0,.int .i64 0,.int .i64 0]) 5 (.pointer (some ⟨xb,0,none⟩)) (av (Z03 Gl t f))=some (newB A xb (ints (Z03 Gl t f))):=stN_all _ _ 5 _ _ hl rfl
  have ec:newB A xb (ints (Z03 Gl t f))=newB (newB h0 xb (ints (Z03 Gl t f))) lb (ints (Z62 C (4*n))):=by
   rw [← hA]; exact Zd4 _ _ _ _ _ qO
  rw [ec] at hst
  have hsx:=hsA.ixs
  rw [gF,hA]
  by_cases h0':Z0L (Z03 Gl t f)<0
  · rw [if_pos h0']
    have hin:=Ans.eq (ZlQ (newB (newB h0 xb (ints (Z03 Gl t f))) lb (ints (Z62 C (4*n)))) n Gl (ptrTo gb) (.slice (some ⟨lb,0,none⟩) (4*n) (4*n)) t f xb (c+1+1+1) df ((Z09.newB_same _ _ _).newB_ne qO) hl qO h0' (OkV.ptrTo qO) (OkV.sl qO))
    refine Ans.lpG rfl rfl (Z5z ..) ?_
    unfold Z6F
    have fx:=ai lg (ai hsx (ai lf (ai hxb (ai hst hin))))
    refine Ans.go ?_
    clear fx
    have sB:Z0u c A (newB (newB h0 xb (ints (Z03 Gl t f))) lb (ints (Z62 C (4*n)))):=by
     rw [← ec]; intro b hb; rw [Z08,if_neg qO]
    (have fx:=ai hgb (ai hlb sB); refine Ans.nxB (B:=A) ?_ ?_; exact (Z1A.refl _ _); clear fx)
    rw [← hA]
    exact ih (f+1) C qO hd
  · rw [if_neg h0']
    have hin:=Ans.eq (ZlP (newB h0 xb (ints (Z03 Gl t f))) n Gl (ptrTo gb) t f xb lb (c+1+1+1) df hn hok hG ht qO h0' (Z09.newB_same _ _ _) qO qO qO (OkV.ptrTo qO) 4 0 C qO hd)
    simp only [Int.ofNat_eq_natCast,Int.cast_ofNat_Int] at hin
    have hd':=Zfq hok hG ht (by omega:f<4) h0' (k:=4) (i:=0) qO hd
    obtain ⟨C',hC'⟩:∃ C',gI Gl t f 4 0 C=C':=⟨_,rfl⟩
    rw [hC'] at hin hd' ⊢
    refine Ans.lpG rfl rfl (Z5z ..) ?_
    unfold Z6F
    have fx:=ai lg (ai hsx (ai lf (ai hxb (ai hst hin))))
    refine Ans.go ?_
    clear fx
    have sB:Z0u c (newB h0 lb (ints (Z62 C' (4*n)))) (newB (newB h0 xb (ints (Z03 Gl t f))) lb (ints (Z62 C' (4*n)))):=by
     intro b hb
     rw [Z08,Z08,Z08]
     by_cases e:b=lb
     · rw [if_pos e,if_pos e]
     · rw [if_neg e,if_neg e,if_neg qO]
    (have fx:=ai hgb (ai hlb sB); refine Ans.nxB (B:=newB h0 lb (ints (Z62 C' (4*n)))) ?_ ?_; exact (by rw [← hA]; exact Z1A.both (Z1c.ints _ _) (Z1A.refl _ _) hlb); clear fx)
    exact ih (f+1) C' qO hd'
theorem ZjR (s:Value) (h0:FH) (n:Nat) (Gl:List Int) (gb lb c:Nat) (df:List Nat) (hn:n<=60) (hok:Z0t Gl n=true) (hs:SlI h0 c s 20 n Gl) (hgb:gb<256*c) (hg:Z09 h0 gb [s]) (hlb:lb<256*c) (h1:gb ≠ lb) (h2:0<n->Z0l s ≠ lb) :
 ∀ (k t:Nat) (C:List Int),t+k=n->Z2I C (4*n) →
 Ans (G (Zc7 none) [ptrTo gb,.slice (some ⟨lb,0,none⟩) (4*n) (4*n),.int .i64 t] (newB h0 lb (ints (Z62 C (4*n)))) c df) fun q=>q=⟨.exit 0,[ptrTo gb,.slice (some ⟨lb,0,none⟩) (4*n) (4*n),.int .i64 n],newB h0 lb (ints (Z62 (gT Gl k t C) (4*n))),c,df⟩:=by
 intro k
 have ll:=hs.len
 induction k with
 | zero =>
  intro t C ht hd
  obtain rfl:t=n:=by omega
  have lg:ld1 (newB h0 lb (ints (Z62 C (4*t)))) (.pointer (some ⟨gb,0,none⟩))=some s:=by rw [ld1_newB_ne _ _ _ _ _ h1,Z01 hg]; rfl
  refine Ans.lpG rfl rfl (Z7S ..) ?_
  unfold Z8O
  have fx:=ai lg ll
  refine Ans.go ?_
  clear fx
  (have fx:=ai hgb hlb; refine Ans.ex0 ?_; clear fx)
  rfl
 | succ k ih =>
  intro t C ht hd
  have lg:ld1 (newB h0 lb (ints (Z62 C (4*n)))) (.pointer (some ⟨gb,0,none⟩))=some s:=by rw [ld1_newB_ne _ _ _ _ _ h1,Z01 hg]; rfl
  have hin:=Ans.eq (Zis s h0 n Gl gb t lb (c+1+1) df hn hok (hs.mono qO) qO hg qO qO h1 (h2 qO) 4 0 C qO hd)
  simp only [Int.ofNat_eq_natCast,Int.cast_ofNat_Int] at hin
  have hd':=Zfr hok hs.1 (by omega:t<n) (k:=4) (f:=0) qO hd
  rw [gT]
  obtain ⟨C',hC'⟩:∃ C',gF Gl t 4 0 C=C':=⟨_,rfl⟩
  rw [hC'] at hin hd' ⊢
  refine Ans.lpG rfl rfl (Z7S ..) ?_
  unfold Z8O
  have fx:=ai lg (ai ll hin)
  refine Ans.go ?_
  clear fx
  (have fx:=ai hgb hlb; refine Ans.nxB (B:=newB h0 lb (ints (Z62 C' (4*n)))) ?_ ?_; exact (Z1A.both (Z1c.ints _ _) (Z1A.refl _ _) hlb); clear fx)
  exact ih (t+1) C' qO hd'
set_option maxHeartbeats 1000000 in
theorem Zag (s:Value) (n:Nat) (Gl:List Int) (h:FH) (c:Nat) (df:List Nat) (hs:SlI h c s 20 n Gl) (hok:Z0t Gl n=true) (hn:n<=60) :
 Ans (G (.fn 62) [.agg #[s]] h c df) fun r=>∃ b,r=⟨.ret,[.slice (some ⟨b,0,none⟩) (4*n) (4*n)],r.h,r.c,[]⟩/\c<=r.c/\Z0u c h r.h/\256*c<=b/\b<256*r.c/\r.h.f b=some (.cells false none (ints (Ze5 (vxG Gl n) (4*n)))):=by
 refine Ans.call' (fun r e=>f62_go e) ?_
 unfold Zrd
 rw [Z4s hs.flat,Z4m,Nat.add_zero]
 simp only [cond_true]
 obtain ⟨H,hH⟩:∃ H,newB h (256*c) [s]=H:=⟨_,rfl⟩
 have sH:Z0u c h H:=by rw [← hH]; simp (disch:=omega)
 have hg:Z09 H (256*c) [s]:=by rw [← hH]; exact Z09.newB_same _ _ _
 have l1:ld1 H (.pointer (some ⟨256*c,0,none⟩))=some s:=by rw [Z01 hg]; rfl
 have ll:=hs.len
 have cs:=Z05 (Zm3 (4*n) H (c+1+1) [] qO)
 rw [show ((4*n:Nat):Int)=4*(n:Int) by omega] at cs
 obtain ⟨lb,hlb⟩:∃ lb,256*(c+1+1+1)+1=lb:=⟨_,rfl⟩
 rw [hlb] at cs
 have hlo:=Ans.eq (ZjR s H n Gl (256*c) lb (c+1+1+1+1+1+1+1) [] hn hok ((hs.same sH).mono qO) qO hg qO qO (fun hp=>by have:=hs.blk hp; omega) n 0 (Z0v (4*n)) qO (Z0O _))
 rw [ZiM,show gT Gl n 0 (Z0v (4*n))=vxG Gl n from rfl] at hlo
 simp only [Int.ofNat_eq_natCast,Int.cast_ofNat_Int] at hlo
 have hd:Z2I (vxG Gl n) (4*n):=Zdq hok hs.1 qO (Z0O _)
 obtain ⟨N,hN⟩:∃ N,newB H lb (ints (Z62 (vxG Gl n) (4*n)))=N:=⟨_,rfl⟩
 rw [hN] at hlo
 have fN:N.f lb=some (.cells false none (ints (Z62 (vxG Gl n) (4*n)))):=by rw [← hN,Z08,if_pos rfl]
 have cn:=Z05 (Zfj lb (4*n) (vxG Gl n) N (c+1+1+1+1+1+1+1+1) [] qO hd qO fN)
 have fx:=ai hH (ai l1 (ai ll (ai cs (ai hlo cn))))
 refine Ans.go ?_
 clear fx
 refine .done ⟨256*(c+1+1+1+1+1+1+1+1+1)+2,rfl,by simp only; omega,fun b hb=>?_,by omega,by simp only; omega,by rw [Z08,if_pos rfl]⟩
 show (newB N _ _).f b=_
 rw [Z08,if_neg qO,← hN,Z08,if_neg qO,sH b hb]

def fE (Gl:List Int) (t f e:Nat):Nat:=6*fU Gl t f+(edN ((Z0e (Z03 Gl t f)).getD (edA e).toNat 0) ((Z0e (Z03 Gl t f)).getD (edB e).toNat 0)).toNat
def hI (Gl:List Int) (t f:Nat):Nat->Nat->List Int->List Int
 | 0,_,C=>C
 | k+1,e,C=>hI Gl t f k (e+1) (if edA e=f ∨ edB e=f then C else Z1P C (6*t+e) (fE Gl t f e))
def hF (Gl:List Int) (t:Nat):Nat->Nat->List Int->List Int
 | 0,_,C=>C
 | k+1,f,C=>hF Gl t k (f+1) (if Z0L (Z03 Gl t f)<0 then C else hI Gl t f 6 0 C)
def hT (Gl:List Int):Nat->Nat->List Int->List Int
 | 0,_,C=>C
 | k+1,t,C=>hT Gl k (t+1) (hF Gl t 4 0 C)
end Go.Proofs.Ytcnndelmnobigaa
