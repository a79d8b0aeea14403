/- Parts of a proof: P2 H4 H5 H3 H8 H9 H10. Conditions: none. -/
import Derived.Test.YtcnndelmnobigaaM22
import Derived.Test.YtcnndelmnobigaaM23
set_option linter.all false
set_option maxRecDepth 100000
namespace Go.Proofs.Ytcnndelmnobigaa
open Go Go.Ab Go.Proofs
theorem gi_ps (V:List Int) (w:Nat):gi V ((w / 4*7+w % 4:Nat):Int)=V.getD (ps w) 0:=by rw [Z1y]; rfl
theorem Zdi (C V:List Int) (first:Nat):∀ (r x:Nat) (a:Int),mnK C V first r x a<=a/\(∀ w,x<=w->w<x+r->Z02 C w=first->mnK C V first r x a<=V.getD (ps w) 0) ∧
 (mnK C V first r x a=a ∨ ∃ w,x<=w/\w<x+r/\Z02 C w=first/\mnK C V first r x a=V.getD (ps w) 0)
 | 0,x,a=>⟨Int.le_refl _,fun w h1 h2=>by omega,.inl rfl⟩
 | r+1,x,a=>by
  rw [mnK,gi_ps]
  obtain ⟨b,hb⟩:∃ b,(if Z02 C x=first then (if V.getD (ps x) 0<a then V.getD (ps x) 0 else a) else a)=b:=⟨_,rfl⟩
  rw [hb]
  obtain ⟨h1,h2,h3⟩:=Zdi C V first r (x+1) b
  have k1:b<=a:=by rw [← hb]; split <;> (try split) <;> omega
  have k2:Z02 C x=first->b<=V.getD (ps x) 0:=fun e=>by rw [← hb,if_pos e]; split <;> omega
  have k3:b=a ∨ (Z02 C x=first/\b=V.getD (ps x) 0):=by
   rw [← hb]
   split
   · split
     · exact .inr ⟨by assumption,rfl⟩
     · exact .inl rfl
   · exact .inl rfl
  refine ⟨by omega,fun w w1 w2 w3=>?_, ?_⟩
  · by_cases e:w=x
    · subst e; have:=k2 w3; omega
    · exact h2 w qO qO w3
  · rcases h3 with h3 | ⟨w,w1,w2,w3,w4⟩
    · rcases k3 with k3 | ⟨k3,k4⟩
      · exact .inl (h3.trans k3)
      · exact .inr ⟨x,by omega,by omega,k3,h3.trans k4⟩
    · exact .inr ⟨w,by omega,by omega,w3,w4⟩
theorem mC_le {C V:List Int} {n x w:Nat} (hw:w<4*n) (e:Z02 C w=x):mC C V n x<=V.getD (ps w) 0:=by
 unfold mC
 rw [Int.toNat_natCast]
 exact (Zdi C V x (4*n) 0 _).2.1 w qO qO e
theorem ZqI {C V:List Int} {n x:Nat} (hx:x<4*n) (e:Z02 C x=x):∃ w,w<4*n/\Z02 C w=x/\mC C V n x=V.getD (ps w) 0:=by
 unfold mC
 rw [Int.toNat_natCast]
 rcases (Zdi C V x (4*n) 0 (gi V ((x:Int) / 4*7+(x:Int) % 4))).2.2 with h | ⟨w,w1,w2,w3,w4⟩
 · refine ⟨x,hx,e,h.trans ?_⟩
   rw [show ((x:Int) / 4*7+(x:Int) % 4)=((x / 4*7+x % 4:Nat):Int) by omega,gi_ps]
 · exact ⟨w,by omega,w3,w4⟩
theorem mC_eq {C V:List Int} {n x:Nat} {m:Int} (hx:x<4*n) (e:Z02 C x=x) (h1:∀ w,w<4*n->Z02 C w=x->m<=V.getD (ps w) 0) (h2:∃ w,w<4*n/\Z02 C w=x/\m=V.getD (ps w) 0):m=mC C V n x:=by
 obtain ⟨w,a1,a2,a3⟩:=h2
 obtain ⟨v,b1,b2,b3⟩:=ZqI (V:=V) hx e
 have:=mC_le (V:=V) a1 a2
 have:=h1 v b1 b2
 omega
theorem Zd2 (C:List Int) (first:Nat) (m:Int) {n:Nat}:∀ (r x:Nat) (X:List Int),x+r=4*n->X.length=7*n -> ∀ j,
 (∀ w,x<=w->w<4*n->Z02 C w=first->ps w=j->(ZeZ C first m r x X).getD j 0=X.getD j 0-m)/\((∀ w,x<=w->w<4*n->Z02 C w=first->ps w ≠ j)->(ZeZ C first m r x X).getD j 0=X.getD j 0)
 | 0,x,X,hx,_,j=>⟨fun w h1 h2=>by omega,fun _=>rfl⟩
 | r+1,x,X,hx,hX,j=>by
  rw [ZeZ]
  by_cases e:Z02 C x=first
  · rw [if_pos e]
    obtain ⟨i1,i2⟩:=Zd2 C first m (n:=n) r (x+1) (X.set (x / 4*7+x % 4) (X.getD (x / 4*7+x % 4) 0-m)) qO (by simp [hX]) j
    have hps:x / 4*7+x % 4=ps x:=rfl
    have hl:ps x<7*n:=ZiF (w:=x) (n:=n) qO
    rw [hps] at i1 i2 ⊢
    refine ⟨fun w w1 w2 w3 w4=>?_,fun h=>?_⟩
    · by_cases ex:w=x
      · subst ex
        rw [i2 (fun v v1 v2 v3 v4=>by have:=Z4D (v4.trans w4.symm); omega),Z0m,if_pos ⟨w4,by omega⟩,w4]
      · rw [i1 w qO w2 w3 w4,Z0m,if_neg (fun q=>ex (Z4D (w4.trans q.1.symm)))]
    · rw [i2 (fun v v1 v2 v3=>h v qO v2 v3),Z0m,if_neg (fun q=>h x qO qO e q.1)]
  · rw [if_neg e]
    obtain ⟨i1,i2⟩:=Zd2 C first m (n:=n) r (x+1) X qO hX j
    refine ⟨fun w w1 w2 w3 w4=>?_,fun h=>?_⟩
    · exact i1 w (by
       rcases Nat.lt_or_ge x w with q | q
       · omega
       · exact absurd (by rw [show x=w by omega]; exact w3) e) w2 w3 w4
    · exact i2 (fun v v1 v2 v3=>h v qO v2 v3)
theorem ZbF (C V:List Int) (n:Nat):∀ (F X:List Int),(prK C V n F X).length=X.length
 | [],_=>rfl
 | x::F,X=>by rw [prK,ZbF,Z48]
theorem Zfa (C V:List Int) {n:Nat}:∀ (F X:List Int),F.Nodup->(∀ x ∈ F,∃ k:Nat,x=k)->X.length=7*n →
 (∀ w,w<4*n->(prK C V n F X).getD (ps w) 0=if ((Z02 C w:Nat):Int) ∈ F then X.getD (ps w) 0-mC C V n (Z02 C w:Nat) else X.getD (ps w) 0)/\(∀ t k,k<3->(prK C V n F X).getD (7*t+4+k) 0=X.getD (7*t+4+k) 0)
 | [],X,_,_,_=>⟨fun w hw=>by rw [if_neg (by simp)]; rfl,fun t k hk=>rfl⟩
 | x::F,X,nd,hF,hX=>by
  rw [List.nodup_cons] at nd
  obtain ⟨k,rfl⟩:=hF x (by simp)
  obtain ⟨i1,i2⟩:=Zfa C V F (ZeZ C (k:Int).toNat (mC C V n (k:Int)) (4*n) 0 X) nd.2 (fun y hy=>hF y (by simp [hy])) (by rw [Z48]; exact hX)
  have sk:=Zd2 C k (mC C V n (k:Int)) (4*n) 0 X qO hX
  rw [Int.toNat_natCast] at i1 i2
  rw [prK,Int.toNat_natCast]
  refine ⟨fun w hw=>?_,fun t j hj=>?_⟩
  · rw [i1 w hw]
    by_cases e:Z02 C w=k
    · subst e
      rw [if_neg nd.1,if_pos (by simp)]
      exact (sk (ps w)).1 w qO hw rfl rfl
    · have hn:(ZeZ C k (mC C V n (k:Int)) (4*n) 0 X).getD (ps w) 0=X.getD (ps w) 0:=(sk (ps w)).2 (fun v _ _ v3 v4=>by
       have:=Z4D v4; subst this; exact e v3)
      have e2:((Z02 C w:Nat):Int) ≠ k:=by omega
      rw [hn]
      by_cases e3:((Z02 C w:Nat):Int) ∈ F
      · rw [if_pos e3,if_pos (by simp [e3])]
      · rw [if_neg e3,if_neg (by simp [e2,e3])]
  · rw [i2 t j hj]
    exact (sk _).2 (fun v _ _ _=>Zdd hj)
theorem Z2V (L:List Int) (m:Nat):(Z0F L m).Nodup:=by
 unfold Z0F
 exact List.Pairwise.map _ (fun a b (h:a ≠ b)=>by omega) (List.Pairwise.filter _ List.nodup_range)
theorem Zf1 {Gl:List Int} {n k:Nat}:(k:Int) ∈ vxF Gl n ↔ k<4*n/\Z02 (vxC Gl n) k=k:=by
 constructor
 · intro h
   obtain ⟨j,h1,h2,h3⟩:=Z66 h
   obtain rfl:k=j:=by omega
   exact ⟨h2,h3⟩
 · rintro ⟨h1,h2⟩
   unfold vxF Z0F
   rw [List.mem_map]
   exact ⟨k,List.mem_filter.2 ⟨by simpa using h1,by simpa using h2⟩,rfl⟩
theorem Z6b {Gl V:List Int} {n:Nat} (hV:V.length=7*n):(Z61 Gl n V).length=7*n:=by
 unfold Z61; rw [ZbF,hV]
theorem Zf6 {Gl V:List Int} {n:Nat} (hok:Z0t Gl n=true) (hG:Gl.length=n*20) (hV:V.length=7*n) {w:Nat} (hw:w<4*n):(Z61 Gl n V).getD (ps w) 0=V.getD (ps w) 0-mC (vxC Gl n) V n (Z02 (vxC Gl n) w:Nat):=by
 obtain ⟨hd,_⟩:=Z5f hok hG
 have:=(Zfa (vxC Gl n) V (vxF Gl n) V (Z2V _ _) (fun x hx=>by obtain ⟨k,h,_⟩:=Z66 hx; exact ⟨k,h⟩) hV).1 w hw
 rw [if_pos (Zf1.2 ⟨by have:=Z0B hd hw; omega,Z0Y hd hw⟩)] at this
 exact this
theorem Zk7 {Gl V:List Int} {n:Nat} (hV:V.length=7*n) (t k:Nat) (hk:k<3):(Z61 Gl n V).getD (7*t+4+k) 0=V.getD (7*t+4+k) 0 :=
 (Zfa (vxC Gl n) V (vxF Gl n) V (Z2V _ _) (fun x hx=>by obtain ⟨k,h,_⟩:=Z66 hx; exact ⟨k,h⟩) hV).2 t k hk
theorem Zei {n j:Nat} (hj:j<7*n):(∃ w,w<4*n/\j=ps w) ∨ ∃ t k,t<n/\k<3/\j=7*t+4+k:=by
 by_cases h:j % 7<4
 · exact .inl ⟨4*(j / 7)+j % 7,by omega,by rw [Zkj h]; omega⟩
 · exact .inr ⟨j / 7,j % 7-4,by omega,by omega,by omega⟩
theorem ZgM {n:Nat} {X Y:List Int} (hX:X.length=7*n) (hY:Y.length=7*n) (h1:∀ w,w<4*n->X.getD (ps w) 0=Y.getD (ps w) 0) (h2:∀ t k,t<n->k<3->X.getD (7*t+4+k) 0=Y.getD (7*t+4+k) 0):X=Y:=by
 refine List.ext_getElem qO fun j a b=>?_
 have:X.getD j 0=Y.getD j 0:=by
  rcases Zei (n:=n) (j:=j) qO with ⟨w,hw,rfl⟩ | ⟨t,k,ht,hk,rfl⟩
  · exact h1 w hw
  · exact h2 t k ht hk
 simpa [List.getD_eq_getElem?_getD,List.getElem?_eq_getElem a,List.getElem?_eq_getElem b] using this

theorem Zpq (v:Value) (lb l4 ob M c:Nat) (h0:FH) (df:List Nat) (o1:OkV c v) (hM:M<=1000000) (hlb:lb<256*c) (hob:ob<256*c) :
 ∀ (r i:Nat) (X:List Int),i+r=M->X.length=M->(∀ j,j<i->X.getD j 0=1000000) →
 Ans (G (Zcn none) [v,.slice (some ⟨lb,0,none⟩) l4 l4,.slice (some ⟨ob,0,none⟩) M M,.int .i64 i] (newB h0 ob (ints X)) c df) fun q=>q=⟨.exit 0,[v,.slice (some ⟨lb,0,none⟩) l4 l4,.slice (some ⟨ob,0,none⟩) M M,.int .i64 M],newB h0 ob (ints (List.replicate M 1000000)),c,df⟩:=by
 intro r
 induction r with
 | zero =>
  intro i X hi hX hf
  obtain rfl:i=M:=by omega
  have e:X=List.replicate i 1000000:=Z1g hX (by simp) fun k hk=>by
   rw [hf k hk,List.getD_eq_getElem?_getD,List.getElem?_replicate,if_pos hk]; rfl
  rw [e]
  refine Ans.lpG rfl rfl (Z7Y ..) ?_
  unfold Z97
  have fx:=True.intro
  refine Ans.go ?_
  clear fx
  (have fx:=ai o1 (ai hlb hob); refine Ans.ex0 ?_; clear fx)
  rfl
 | succ r ih =>
  intro i X hi hX hf
  have hw:∀ x:Int,stN (newB h0 ob (ints X)) 1 (.pointer (some ⟨ob,i,none⟩)) (.int .i64 x)=some (newB h0 ob (ints (X.set i x))):=fun x=>by
   rw [st1_int _ _ _ _ _ _ (by simp; omega),Z0K]
  have hk:=ih (i+1) (X.set i 1000000) qO (by simp [hX]) (fun j hj=>by
   rw [Z0m]
   by_cases e:i=j
   · rw [if_pos ⟨e,by omega⟩]
   · rw [if_neg (fun q=>e q.1)]; exact hf j qO)
  refine Ans.lpG rfl rfl (Z7Y ..) ?_
  unfold Z97
  have fx:=hw
  refine Ans.go ?_
  clear fx
  (have fx:=ai o1 (ai hlb hob); refine Ans.nxB (B:=newB h0 ob (ints (X.set i 1000000))) ?_ ?_; exact (Z1A.both (Z1c.ints _ _) (Z1A.refl _ _) hob); clear fx)
  exact hk
def MnI (C V:List Int) (n x:Nat) (X:List Int):Prop:=∀ s,s<4*n->Z02 C s=s →
 (∀ w,w<x->Z02 C w=s->X.getD (Z11 C s) 0<=V.getD (ps w) 0)/\(X.getD (Z11 C s) 0=1000000 ∨ ∃ w,w<x/\Z02 C w=s/\X.getD (Z11 C s) 0=V.getD (ps w) 0)
theorem MnI.step {C V:List Int} {n x:Nat} {X:List Int} (hd:Z2I C (4*n)) (hx:x<4*n) (hX:X.length=Z11 C (4*n)) (a:MnI C V n x X) :
 MnI C V n (x+1) (X.set (Z11 C (Z02 C x)) (min (X.getD (Z11 C (Z02 C x)) 0) (V.getD (ps x) 0))):=by
 intro s hs es
 have hle:=Z0B hd hx
 have hrr:=Z0Y hd hx
 have hlt:=Zdr (C:=C) (m:=4*n) qO hrr
 obtain ⟨a1,a2⟩:=a s hs es
 rw [Z0m]
 by_cases e:Z02 C x=s
 · rw [e] at hlt ⊢
   rw [if_pos ⟨rfl,by omega⟩]
   refine ⟨fun w w1 w2=>?_, ?_⟩
   · by_cases ew:w=x
     · subst ew; omega
     · have:=a1 w qO w2; omega
   · by_cases hm:X.getD (Z11 C s) 0<=V.getD (ps x) 0
     · rw [Int.min_eq_left hm]
       rcases a2 with a2 | ⟨w,w1,w2,w3⟩
       · exact .inl a2
       · exact .inr ⟨w,by omega,w2,w3⟩
     · rw [Int.min_eq_right qO]
       exact .inr ⟨x,by omega,e,rfl⟩
 · rw [if_neg (fun q=>e (ZhD (m:=4*n) qO hs hrr es q.1))]
   refine ⟨fun w w1 w2=>?_, ?_⟩
   · by_cases ew:w=x
     · subst ew; exact absurd w2 e
     · exact a1 w qO w2
   · rcases a2 with a2 | ⟨w,w1,w2,w3⟩
     · exact .inl a2
     · exact .inr ⟨w,by omega,w2,w3⟩
theorem ZqD (v:Value) (n nv:Nat) (V C:List Int) (lb ob M c c0:Nat) (h0:FH) (df:List Nat) (hn:n<=60) (hnv:nv=7*n) (hv:SlI h0 c0 v 1 nv V) (hc0:c0<=c) (hlo:256*c0<=ob) (hd:Z2I C (4*n)) (hlb:lb<256*c) (hob:ob<256*c) (hne:lb ≠ ob) (hg:h0.f lb=some (.cells false none (ints (Ze5 C (4*n))))) (hM:M=Z11 C (4*n)) (hMb:M<=1000000) :
 ∀ (r x:Nat) (X:List Int),x+r=4*n->X.length=M->MnI C V n x X →
 Ans (G (Zcm none) [v,.slice (some ⟨lb,0,none⟩) (4*n) (4*n),.slice (some ⟨ob,0,none⟩) M M,.int .i64 x] (newB h0 ob (ints X)) c df) fun q=>∃ Y,Y.length=M/\MnI C V n (4*n) Y/\q=⟨.exit 2,[v,.slice (some ⟨lb,0,none⟩) (4*n) (4*n),.slice (some ⟨ob,0,none⟩) M M,.int .i64 (4*n:Nat)],newB h0 ob (ints Y),c,df⟩:=by
 intro r
 have o1:=(hv.mono hc0).okV
 induction r with
 | zero =>
  intro x X hx hX ha
  obtain rfl:x=4*n:=by omega
  refine Ans.lpG rfl rfl (Z7X ..) ?_
  unfold Z96
  have fx:=True.intro
  refine Ans.go ?_
  clear fx
  (have fx:=ai o1 (ai hlb hob); refine Ans.ex0 ?_; clear fx)
  exact ⟨X,hX,ha,rfl⟩
 | succ r ih =>
  intro x X hx hX ha
  have hxn:x<4*n:=by omega
  have hle:=Z0B hd hxn
  have hrr:=Z0Y hd hxn
  have hlt:=Zdr (C:=C) (m:=4*n) qO hrr
  rw [← hM] at hlt
  have hk:=ih (x+1) _ qO (by rw [List.length_set]; exact hX) (ha.step hd hxn qO)
  have l1:ld1 (newB h0 ob (ints X)) (.pointer (some ⟨lb,x,none⟩))=some (.int .i64 (Z11 C (Z02 C x):Nat)):=by
   rw [ld1_newB_ne _ _ _ _ _ hne,Z01 ⟨false,none,hg⟩,ints_getD _ _ (by rw [Z13]; exact hxn),Z2L _ hxn]
  have q1:=Z5l x 4 qO qO
  have q2:=Z5k x 4 qO
  simp only [Int.ofNat_eq_natCast,Int.cast_ofNat_Int] at q1 q2
  have hv':SlI (newB h0 ob (ints X)) c0 v 1 nv V:=hv.same fun b hb=>by rw [Z08,if_neg qO]
  have d1:x / 4<n:=by omega
  have d2:x % 4<4:=by omega
  have hps:ps x=7*(x / 4)+x % 4:=by unfold ps; omega
  rw [hps] at hk
  obtain ⟨T,hT⟩:∃ T,x / 4=T:=⟨_,rfl⟩
  obtain ⟨E,hE⟩:∃ E,x % 4=E:=⟨_,rfl⟩
  rw [hT] at q1 d1 hk
  rw [hE] at q2 d2 hk
  have z1:(7*(T:Int)+E).toNat=7*T+E:=by omega
  have l3:=hv'.rdi (7*(T:Int)+E) qO qO
  rw [gi,z1] at l3
  obtain ⟨K,hK⟩:∃ K,Z11 C (Z02 C x)=K:=⟨_,rfl⟩
  rw [hK] at l1 hlt hk
  have l2:ld1 (newB h0 ob (ints X)) (.pointer (some ⟨ob,K,none⟩))=some (.int .i64 (X.getD K 0)):=by
   rw [ld1_newB_same,ints_getD _ _ qO]
  have hw:∀ y:Int,stN (newB h0 ob (ints X)) 1 (.pointer (some ⟨ob,K,none⟩)) (.int .i64 y)=some (newB h0 ob (ints (X.set K y))):=fun y=>by
   rw [st1_int _ _ _ _ _ _ (by simp; omega),Z0K]
  obtain ⟨A,hA⟩:∃ A,X.getD K 0=A:=⟨_,rfl⟩
  obtain ⟨B,hB⟩:∃ B,V.getD (7*T+E) 0=B:=⟨_,rfl⟩
  rw [hA] at l2 hk
  rw [hB] at l3 hk
  have mn:Z28 min2 [.int .i64 A,.int .i64 B]=some (.int .i64 (min A B)):=by
   rw [Z5n,show (if B<A then B else A)=min A B by split <;> omega]
  obtain ⟨m,hm⟩:∃ m,min A B=m:=⟨_,rfl⟩
  rw [hm] at mn hk
  have hx4:(x:Int)<(4*n:Nat):=by omega
  refine Ans.lpG rfl rfl (Z7X ..) ?_
  unfold Z96
  have fx:=ai l1 (ai q1 (ai q2 (ai hv.ixs1 (ai z1 (ai l2 (ai l3 (ai mn hw)))))))
  refine Ans.go ?_
  clear fx
  (have fx:=ai o1 (ai hlb hob); refine Ans.nxB (B:=newB h0 ob (ints (X.set K m))) ?_ ?_; exact (Z1A.both (Z1c.ints _ _) (Z1A.refl _ _) hob); clear fx)
  exact hk
def RsI (C V X:List Int) (n x:Nat) (Y:List Int):Prop :=
 (∀ w,w<4*n->Y.getD (ps w) 0=if w<x then V.getD (ps w) 0-X.getD (Z11 C (Z02 C w)) 0 else V.getD (ps w) 0)/\(∀ t k,k<3->Y.getD (7*t+4+k) 0=V.getD (7*t+4+k) 0)
theorem RsI.step {C V X Y:List Int} {n x:Nat} (hx:x<4*n) (hY:Y.length=7*n) (a:RsI C V X n x Y):RsI C V X n (x+1) (Y.set (ps x) (Y.getD (ps x) 0-X.getD (Z11 C (Z02 C x)) 0)):=by
 have hl:ps x<7*n:=ZiF (w:=x) (n:=n) qO
 refine ⟨fun w hw=>?_,fun t k hk=>?_⟩
 · rw [Z0m]
   by_cases e:w=x
   · subst e
     rw [if_pos ⟨rfl,by omega⟩,if_pos qO,a.1 w hw,if_neg qO]
   · rw [if_neg (fun q=>e (Z4D q.1.symm)),a.1 w hw]
     by_cases e2:w<x
     · rw [if_pos e2,if_pos qO]
     · rw [if_neg e2,if_neg qO]
 · rw [Z0m,if_neg (fun q=>by have:=q.1; unfold ps at this; omega)]
   exact a.2 t k hk
theorem Zqs (n:Nat) (V C X:List Int) (lb ob wb M c:Nat) (h0:FH) (df:List Nat) (hn:n<=60) (hd:Z2I C (4*n)) (hlb:lb<256*c) (hob:ob<256*c) (hwb:wb<256*c) (n1:lb ≠ wb) (n2:ob ≠ wb) (hg:h0.f lb=some (.cells false none (ints (Ze5 C (4*n))))) (hgx:h0.f ob=some (.cells false none (ints X))) (hX:X.length=M) (hM:M=Z11 C (4*n)) (hMb:M<=1000000) (bV:∀ j:Nat,0<=V.getD j 0/\V.getD j 0<=1000000) (bX:∀ k,k<M->0<=X.getD k 0/\X.getD k 0<=1000000) :
 ∀ (r x:Nat) (Y:List Int),x+r=4*n->Y.length=7*n->RsI C V X n x Y →
 Ans (G (Z92 none) [.slice (some ⟨lb,0,none⟩) (4*n) (4*n),.slice (some ⟨ob,0,none⟩) M M,.slice (some ⟨wb,0,none⟩) (7*n) (7*n),.int .i64 x] (HeapC.set h0 wb (.cells false (some 1) (ints Y))) c df) fun q=>∃ Z,Z.length=7*n/\RsI C V X n (4*n) Z/\q=⟨.exit 4,[.slice (some ⟨lb,0,none⟩) (4*n) (4*n),.slice (some ⟨ob,0,none⟩) M M,.slice (some ⟨wb,0,none⟩) (7*n) (7*n),.int .i64 (4*n:Nat)],HeapC.set h0 wb (.cells false (some 1) (ints Z)),c,df⟩:=by
 intro r
 induction r with
 | zero =>
  intro x Y hx hY ha
  obtain rfl:x=4*n:=by omega
  refine Ans.lpG rfl rfl (Z5L ..) ?_
  unfold Z6L
  have fx:=True.intro
  refine Ans.go ?_
  clear fx
  (have fx:=ai hlb (ai hob hwb); refine Ans.ex0 ?_; clear fx)
  exact ⟨Y,hY,ha,rfl⟩
 | succ r ih =>
  intro x Y hx hY ha
  have hxn:x<4*n:=by omega
  have hle:=Z0B hd hxn
  have hrr:=Z0Y hd hxn
  have hlt:=Zdr (C:=C) (m:=4*n) qO hrr
  rw [← hM] at hlt
  have hk:=ih (x+1) _ qO (by rw [List.length_set]; exact hY) (ha.step hxn hY)
  have vy:=ha.1 x hxn
  rw [if_neg qO] at vy
  have by':=bV (ps x)
  rw [← vy] at by'
  obtain ⟨H,hH⟩:∃ H,HeapC.set h0 wb (.cells false (some 1) (ints Y))=H:=⟨_,rfl⟩
  have fH:H.f wb=some (.cells false (some 1) (ints Y)):=by rw [← hH,Z0g,if_pos rfl]
  have gH:H.f lb=some (.cells false none (ints (Ze5 C (4*n)))):=by rw [← hH,Z0g,if_neg n1]; exact hg
  have xH:H.f ob=some (.cells false none (ints X)):=by rw [← hH,Z0g,if_neg n2]; exact hgx
  have l1:ld1 H (.pointer (some ⟨lb,x,none⟩))=some (.int .i64 (Z11 C (Z02 C x):Nat)):=by
   rw [Z01 ⟨false,none,gH⟩,ints_getD _ _ (by rw [Z13]; exact hxn),Z2L _ hxn]
  have q1:=Z5l x 4 qO qO
  have q2:=Z5k x 4 qO
  simp only [Int.ofNat_eq_natCast,Int.cast_ofNat_Int] at q1 q2
  have d1:x / 4<n:=by omega
  have d2:x % 4<4:=by omega
  have hps:ps x=7*(x / 4)+x % 4:=by unfold ps; omega
  rw [hps] at hk by'
  obtain ⟨T,hT⟩:∃ T,x / 4=T:=⟨_,rfl⟩
  obtain ⟨E,hE⟩:∃ E,x % 4=E:=⟨_,rfl⟩
  rw [hT] at q1 d1 hk by'
  rw [hE] at q2 d2 hk by'
  have z1:(7*(T:Int)+E).toNat=7*T+E:=by omega
  have l3:ld1 H (.pointer (some ⟨wb,7*T+E,none⟩))=some (.int .i64 (Y.getD (7*T+E) 0)):=by
   rw [Z01 ⟨false,some 1,fH⟩,ints_getD _ _ qO]
  obtain ⟨K,hK⟩:∃ K,Z11 C (Z02 C x)=K:=⟨_,rfl⟩
  rw [hK] at l1 hlt hk
  have l2:ld1 H (.pointer (some ⟨ob,K,none⟩))=some (.int .i64 (X.getD K 0)):=by
   rw [Z01 ⟨false,none,xH⟩,ints_getD _ _ qO]
  have hw:∀ y:Int,stN H 1 (.pointer (some ⟨wb,7*T+E,none⟩)) (.int .i64 y)=some (HeapC.set H wb (.cells false (some 1) (ints (Y.set (7*T+E) y)))):=fun y=>by
   rw [Z12 (show HeapC.get H wb=_ from fH) (by simp; omega) rfl rfl,Z0K]
  have bx:=bX K hlt
  obtain ⟨A,hA⟩:∃ A,X.getD K 0=A:=⟨_,rfl⟩
  obtain ⟨B,hB⟩:∃ B,Y.getD (7*T+E) 0=B:=⟨_,rfl⟩
  rw [hA] at l2 hk bx
  rw [hB] at l3 hk by'
  have hx4:(x:Int)<(4*n:Nat):=by omega
  clear vy
  rw [hH]
  refine Ans.lpG rfl rfl (Z5L ..) ?_
  unfold Z6L
  have fx:=ai l1 (ai q1 (ai q2 (ai z1 (ai l2 (ai l3 hw)))))
  refine Ans.go ?_
  clear fx
  (have fx:=ai hlb (ai hob hwb); refine Ans.nxB (B:=HeapC.set H wb (.cells false (some 1) (ints (Y.set (7*T+E) (B-A))))) ?_ ?_; exact (Z1A.set hwb (Z1c.ints _ _) (Z1A.refl _ _)); clear fx)
  rw [← hH,set_set]
  exact hk

theorem ZgF (Gl V:List Int) (n:Nat):(Z7C Gl n V).length=Z11 (vxC Gl n) (4*n):=by unfold Z7C; rw [List.length_map]; rfl
theorem Zdg {Gl V:List Int} {n s:Nat} (hs:s<4*n) (e:Z02 (vxC Gl n) s=s):(Z7C Gl n V).getD (Z11 (vxC Gl n) s) 0=mC (vxC Gl n) V n s:=by
 unfold Z7C vxF
 rw [List.getD_eq_getElem?_getD,List.getElem?_map,Z2q hs e]
 rfl
theorem Zdf {Gl:List Int} {n k:Nat} (hk:k<Z11 (vxC Gl n) (4*n)):∃ s,s<4*n/\Z02 (vxC Gl n) s=s/\Z11 (vxC Gl n) s=k:=by
 have hk':k<(Z0F (vxC Gl n) (4*n)).length:=hk
 obtain ⟨s,h1,h2,h3⟩:=Z66 (List.getElem_mem hk':_ ∈ vxF Gl n)
 exact ⟨s,h2,h3,ZaS (m:=4*n) (by rw [List.getElem?_eq_getElem hk',h1])⟩
theorem ZqC {Gl V Y:List Int} {n:Nat} (bV:∀ j:Nat,0<=V.getD j 0/\V.getD j 0<=1000000) (hY:Y.length=Z11 (vxC Gl n) (4*n)) (a:MnI (vxC Gl n) V n (4*n) Y):Y=Z7C Gl n V:=by
 refine Z1g hY (ZgF _ _ _) fun k hk=>?_
 obtain ⟨s,h1,h2,rfl⟩:=Zdf hk
 rw [Zdg h1 h2]
 obtain ⟨a1,a2⟩:=a s h1 h2
 refine mC_eq h1 h2 a1 ?_
 rcases a2 with a2 | ⟨w,w1,w2,w3⟩
 · have:=a1 s h1 h2
   have:=bV (ps s)
   exact ⟨s,h1,h2,by omega⟩
 · exact ⟨w,w1,w2,w3⟩
theorem Zqy {Gl V:List Int} {n:Nat} (bV:∀ j:Nat,0<=V.getD j 0/\V.getD j 0<=1000000) {k:Nat} (hk:k<Z11 (vxC Gl n) (4*n)):0<=(Z7C Gl n V).getD k 0/\(Z7C Gl n V).getD k 0<=1000000:=by
 obtain ⟨s,h1,h2,rfl⟩:=Zdf hk
 rw [Zdg h1 h2]
 obtain ⟨w,_,_,h⟩:=ZqI (V:=V) h1 h2
 rw [h]
 exact bV _
theorem Zqr {Gl V Z:List Int} {n:Nat} (hok:Z0t Gl n=true) (hG:Gl.length=n*20) (hV:V.length=7*n) (hZ:Z.length=7*n) (a:RsI (vxC Gl n) V (Z7C Gl n V) n (4*n) Z):Z=Z61 Gl n V:=by
 obtain ⟨hd,_⟩:=Z5f hok hG
 refine Z1g hZ (Z6b hV) fun j hj=>?_
 rcases Zei (n:=n) (j:=j) hj with ⟨w,hw,rfl⟩ | ⟨t,k,ht,hk,rfl⟩
 · have hle:=Z0B hd hw
   rw [a.1 w hw,if_pos hw,Zf6 hok hG hV hw,Zdg qO (Z0Y hd hw)]
 · rw [a.2 t k hk,Zk7 hV t k hk]
set_option maxHeartbeats 1000000 in
theorem Zmj (s v:Value) (n nv:Nat) (Gl V:List Int) (h:FH) (c:Nat) (df:List Nat) (hs:SlI h c s 20 n Gl) (hv:SlI h c v 1 nv V) (hC:SlC h v 1 nv V) (hnv:nv<=1000000) :
 Ans (G (.fn 38) [.agg #[s],v] h c df) fun r=>r.e = .ret/\r.df=[]/\c<=r.c/\Z0u c h r.h ∧
  ((Z5b Gl n (Z1h Gl n V) ≠ 0/\r.vs=[.tuple #[.slice none 0 0,.slice none 0 0,.int .i64 (Z5b Gl n (Z1h Gl n V))]]) ∨
   (Z5b Gl n (Z1h Gl n V)=0 /\ ∃ lk rs,r.vs=[.tuple #[lk,rs,.int .i64 0]]/\SlI r.h r.c lk 1 (vxF Gl n).length (Z7C Gl n V)/\SlI r.h r.c rs 1 nv (Z61 Gl n V))):=by
 refine Ans.call' (fun r e=>f38_go e) ?_
 unfold Zro
 rw [Z4s hs.flat,Z4m,Nat.add_zero]
 simp only [cond_true]
 obtain ⟨H,hH⟩:∃ H,newB h (256*c) [s]=H:=⟨_,rfl⟩
 have sH:Z0u c h H:=by rw [← hH]; simp (disch:=omega)
 have hg:Z09 H (256*c) [s]:=by rw [← hH]; exact Z09.newB_same _ _ _
 have l0:=Z0p hg
 have cc:=fun c' (hc:c<=c')=>Z05 (Z6U s v n nv Gl V H c' [] ((hs.same sH).mono hc) ((hv.same sH).mono hc) hnv)
 by_cases h0:Z5b Gl n (Z1h Gl n V)=0
 case neg =>
  obtain ⟨E,hE⟩:∃ E,Z5b Gl n (Z1h Gl n V)=E:=⟨_,rfl⟩
  rw [hE] at cc h0 ⊢
  have fx:=ai hH (ai l0 cc)
  refine Ans.go ?_
  clear fx
  exact .done ⟨rfl,rfl,(by show c<=c+1+1+1+1; omega),sH,.inl ⟨h0,rfl⟩⟩
 obtain ⟨hr0,ha⟩:=Z6r h0
 obtain ⟨hn,hok⟩:=Z1f hr0
 obtain ⟨a1,a2⟩:=Za0 ha
 have hV:=Z46 a2
 have bV:∀ j:Nat,0<=V.getD j 0/\V.getD j 0<=1000000:=fun j=>by have:=hV j; rwa [Z1y] at this
 have hnv':nv=7*n:=by have:=hv.1; omega
 rw [h0] at cc
 obtain ⟨⟨re,rv,H1,k1,rd⟩,w1,lb,e1,r1,r2,r3,r4,r5⟩:=Zag s n Gl H (c+1+1+1+1) [] ((hs.same sH).mono qO) hok hn
 obtain ⟨rfl,rfl,-,-,rfl⟩:=Rt.mk.inj e1
 simp only at r1 r2 r4 r5
 obtain ⟨hd,-⟩:=Z5f hok hs.1
 have hdG:Z2I (vxG Gl n) (4*n):=Zdq hok hs.1 qO (Z0O _)
 rw [ZbI hdG (fun k hk=>Zgt hok hs.1 hk)] at r5
 have cE:callF G 62 [.agg #[s]] H (c+1+1+1+1)=some (.slice (some ⟨lb,0,none⟩) (4*n) (4*n),H1,k1):=Z05 w1
 have cn:=fun c' (hc:k1<=c')=>Z05 (ZdT (.slice (some ⟨lb,0,none⟩) (4*n) (4*n)) (4*n) (vxC Gl n) H1 c' [] qO hd (Z60 r5 (Z13 _ _) qO qO))
 have fl:=ZaQ (vxC Gl n) (4*n)
 have hpl:=ZgF Gl V n
 have hle:(vxF Gl n).length=Z11 (vxC Gl n) (4*n):=rfl
 have s1:Z0u c h H1:=sH.trans (r2.mono qO)
 obtain ⟨ob,hob⟩:∃ ob,256*k1+2=ob:=⟨_,rfl⟩
 have mk:=Z5m 1 8 .i64 .i64 (Z11 (vxC Gl n) (4*n)) qO qO
 have q1:=Ans.eq (Zpq v lb (4*n) ob (Z11 (vxC Gl n) (4*n)) (k1+1+1) H1 [] ((hv.same s1).mono qO).okV qO qO qO (Z11 (vxC Gl n) (4*n)) 0 (List.replicate (Z11 (vxC Gl n) (4*n)) 0) qO (by simp) (fun j hj=>by omega))
 obtain ⟨r,q2,Y,y1,y2,rfl⟩:=ZqD v n nv V (vxC Gl n) lb ob (Z11 (vxC Gl n) (4*n)) (k1+1+1+1) c H1 [] hn hnv' (hv.same s1) qO qO hd qO qO qO r5 rfl qO (4*n) 0 (List.replicate (Z11 (vxC Gl n) (4*n)) 1000000) qO (by simp) (fun s hs' es=>⟨fun w hw=>by omega,.inl (by
  have:=Zdr (C:=vxC Gl n) (m:=4*n) hs' es
  rw [List.getD_eq_getElem?_getD,List.getElem?_replicate,if_pos this]; rfl)⟩)
 obtain rfl:=ZqC bV y1 y2
 have bX:=fun k (hk:k<Z11 (vxC Gl n) (4*n))=>Zqy (V:=V) bV hk
 obtain ⟨P,hP⟩:∃ P,Z7C Gl n V=P:=⟨_,rfl⟩
 have hR:=fun Z (hZ:Z.length=7*n) (a:RsI (vxC Gl n) V (Z7C Gl n V) n (4*n) Z)=>Zqr hok hs.1 a1 hZ a
 rw [hP] at q2 hpl bX hR ⊢
 obtain ⟨M,hM⟩:∃ M,Z11 (vxC Gl n) (4*n)=M:=⟨_,rfl⟩
 rw [hM] at q1 q2 mk cn fl hpl bX hle
 rw [hle]
 obtain ⟨H2,hH2⟩:∃ H2,newB H1 ob (ints P)=H2:=⟨_,rfl⟩
 have f2:H2.f ob=some (.cells false none (ints P)):=by rw [← hH2,Z08,if_pos rfl]
 have s12:∀ b,b ≠ ob->H2.f b=H1.f b:=fun b hb=>by rw [← hH2,Z08,if_neg hb]
 rw [hH2] at q2
 have s2:Z0u c h H2:=fun b hb=>by rw [s12 b qO,s1 b hb]
 have hb0:Z2T [] []=some []:=rfl
 obtain ⟨H3,hH3⟩:∃ H3,newB H2 (256*(k1+1+1+1)) []=H3:=⟨_,rfl⟩
 have s23:∀ b,b ≠ 256*(k1+1+1+1)->H3.f b=H2.f b:=fun b hb=>by rw [← hH3,Z08,if_neg hb]
 have s3:Z0u c h H3:=fun b hb=>by rw [s23 b qO,s2 b hb]
 have fB:H3.f (256*(k1+1+1+1))=some (.cells false none []):=by rw [← hH3,Z08,if_pos rfl]
 obtain ⟨w,H4,p1,p2,p3,p4,p5,p6⟩:=Zil (c:=k1+1+1+1) (c':=k1+1+1+1+1) (SlC.keep hv s3 hC) hv.1 qO 8 (256*(k1+1+1+1)) (256*(k1+1+1+1)+2) fB qO qO qO qO
 have s4:Z0u c h H4:=fun b hb=>by rw [p5 b qO,s3 b hb]
 have g4:H4.f lb=some (.cells false none (ints (Ze5 (vxC Gl n) (4*n)))):=by rw [p5 _ qO,s23 _ qO,s12 _ qO,r5]
 have x4:H4.f ob=some (.cells false none (ints P)):=by rw [p5 _ qO,s23 _ qO,f2]
 simp only [Int.ofNat_eq_natCast,Int.cast_ofNat_Int] at q1 q2
 rcases Nat.eq_zero_or_pos n with h00 | hpos
 · subst h00
   have hz:Z61 Gl 0 V=V:=(Z1g (m:=0) (Z6b qO) qO fun k hk=>by omega)
   rw [hz]
   have q3:Ans (G (Z92 none) [.slice (some ⟨lb,0,none⟩) (4*0) (4*0),.slice (some ⟨ob,0,none⟩) M M,w,.int .i64 0] H4 (k1+1+1+1+1+1) []) fun q=>q=⟨.exit 4,[.slice (some ⟨lb,0,none⟩) (4*0) (4*0),.slice (some ⟨ob,0,none⟩) M M,w,.int .i64 0],H4,k1+1+1+1+1+1,[]⟩:=by
    have o1:=(p2.mono (by omega:k1+1+1+1+1<=k1+1+1+1+1+1)).okV
    have o2:lb<256*(k1+1+1+1+1+1):=by omega
    have o3:ob<256*(k1+1+1+1+1+1):=by omega
    refine Ans.lpG rfl rfl (Z5L ..) ?_
    unfold Z6L
    have fx:=True.intro
    refine Ans.go ?_
    clear fx
    (have fx:=ai o1 (ai o2 o3); refine Ans.ex0 ?_; clear fx)
    rfl
   have q3:=Ans.eq q3
   have fx:=ai hH (ai l0 (ai cc (ai cE (ai cn (ai mk (ai hob (ai q1 (ai q2 (ai hb0 (ai hH3 (ai p1 q3)))))))))))
   refine Ans.go ?_
   clear fx
   exact .done ⟨rfl,rfl,(by show c<=_; simp only; omega),s4,.inr ⟨h0,_,_,rfl,Z60 x4 hpl qO (by simp only; omega),p2.mono (by simp only; omega)⟩⟩
 · obtain ⟨rfl,p7⟩:=p6 qO
   obtain ⟨wb,hwb⟩:∃ wb,256*(k1+1+1+1)+2=wb:=⟨_,rfl⟩
   rw [hwb] at p1 p7
   subst hnv'
   obtain ⟨r,q3,Z,z1,z2,rfl⟩:=Zqs n V (vxC Gl n) P lb ob wb M (k1+1+1+1+1+1) H4 [] hn hd qO qO qO qO qO g4 x4 hpl hM.symm qO bV bX (4*n) 0 V qO a1 ⟨fun w hw=>by rw [if_neg qO],fun t k hk=>rfl⟩
   have hself:HeapC.set H4 wb (.cells false (some 1) (ints V))=H4:=by
    apply FH.ext; intro j
    rw [Z0g]
    split
    · rename_i e; rw [e,p7]
    · rfl
   rw [hself] at q3
   obtain rfl:=hR Z z1 z2
   simp only [Int.ofNat_eq_natCast,Int.cast_ofNat_Int] at q3
   obtain ⟨R,hRR⟩:∃ R,Z61 Gl n V=R:=⟨_,rfl⟩
   rw [hRR] at q3 z1 ⊢
   obtain ⟨H5,hH5⟩:∃ H5,HeapC.set H4 wb (.cells false (some 1) (ints R))=H5:=⟨_,rfl⟩
   rw [hH5] at q3
   have s5:Z0u c h H5:=fun b hb=>by rw [← hH5,Z0g,if_neg qO,s4 b hb]
   have x5:H5.f ob=some (.cells false none (ints P)):=by rw [← hH5,Z0g,if_neg qO,x4]
   have f5:H5.f wb=some (.cells false (some 1) (ints R)):=by rw [← hH5,Z0g,if_pos rfl]
   have fx:=ai hH (ai l0 (ai cc (ai cE (ai cn (ai mk (ai hob (ai q1 (ai q2 (ai hb0 (ai hH3 (ai hwb (ai p1 q3))))))))))))
   refine Ans.go ?_
   clear fx
   have sl5:SlI H5 (k1+1+1+1+1+1+1) (.slice (some ⟨wb,0,none⟩) (7*n) (7*n)) 1 (7*n) R:=by
    refine ⟨by omega,by omega,some ⟨wb,0,none⟩,7*n,rfl,.inr ⟨wb,0,ints R,rfl,by omega,⟨false,some 1,f5⟩, ?_⟩⟩
    rw [List.drop_zero,List.take_of_length_le (by simp [z1])]
   exact .done ⟨rfl,rfl,(by show c<=_; simp only; omega),s5,.inr ⟨h0,_,_,rfl,Z60 x5 hpl qO (by simp only; omega),sl5⟩⟩

def Zqc (c0:Nat) (h:FH) (c:Nat) (v:Value) (n:Nat) (cs:List Value):Prop:=(n=0/\v = .slice none 0 0/\cs=[]) ∨ Z2Q c0 h c v n cs
theorem Zqc.appN {c0:Nat} {h:FH} {c c':Nat} {v s:Value} {n k:Nat} {cs:List Value} {X:List Int} (ha:Zqc c0 h c v n cs) (hs:SlC h s 1 k X) (hk:0<k) (hX:X.length=k) (by' id:Nat) (hid:256*c<=id) (hc0:c0<=c)
 (hid':id<256*c') (hlim:(n+k)*(by'+1)<=17592186044416) :
 ∃ h',Z7q h id 1 by' v s=some (.slice (some ⟨id,0,none⟩) (n+k) (n+k),h')/\Z2Q c0 h' c' (.slice (some ⟨id,0,none⟩) (n+k) (n+k)) (n+k) (cs++ints X)/\Z0u c0 h h':=by
 rcases ha with ⟨rfl,rfl,rfl⟩ | ha
 · have hlim':Nat.ble ((0+k)*(by'+1)) 17592186044416=true:=Nat.ble_eq_true_of_le hlim
   have hn1:k<=17592186044416:=by
    have:(0+k)*1<=(0+k)*(by'+1):=Nat.mul_le_mul_left _ qO
    omega
   have hcap:Nat.ble (0+k) 0=false:=by rw [Bool.eq_false_iff]; intro hh; have:=Nat.le_of_ble_eq_true hh; omega
   unfold SlC at hs
   refine ⟨HeapC.set h id (.cells false (some 1) (ints X)), ?_,⟨by simp [hX],by omega,by simp only [List.nil_append,Z1I],id,some 1,rfl,by omega,hid', ?_,.inr rfl⟩, ?_⟩
   · simp only [Z7q,hs,Option.bind_some,appTo,hcap,cond_false,Z2g,hlim',Z1I,Bool.and_self,cond_true,Nat.beq_refl]
   · rw [Z0g,if_pos rfl,List.nil_append]
   · intro j hj
     rw [Z0g,if_neg qO]
 · obtain ⟨h',p1,p2,p3⟩:=ha.appN hs hk hX by' id hid hc0 hid' hlim
   have:=ha.blk
   exact ⟨h',p1,p2,fun j hj=>p3 j qO qO⟩
theorem Zqc.sl {c0:Nat} {h:FH} {c n:Nat} {v:Value} {L:List Int} (ha:Zqc c0 h c v n (ints L)):SlI h c v 1 n L:=by
 rcases ha with ⟨rfl,rfl,e⟩ | ha
 · have:L=[]:=by cases L with
    | nil=>rfl
    | cons x L=>simp [ints] at e
   subst this
   exact SlI.nil _ _ _
 · exact ha.sl
theorem Zmi (s v:Value) (n nv:Nat) (Gl V:List Int) (gb c0:Nat) (hnv:nv=7*n) (hn:n<=60) (hgb:gb<256*c0) (df:List Nat) :
 ∀ (k t c:Nat) (h:FH) (out:Value) (X:List Int),t+k=n->c0<=c->SlI h c0 s 20 n Gl->Z09 h gb [s]->SlI h c0 v 1 nv V->SlX h v 1 nv->Zqc c0 h c out (3*t) (ints X) →
 Ans (G (Zcv none) [v,ptrTo gb,out,.int .i64 t] h c df) fun r=>r.e = .exit 0/\c<=r.c/\r.df=df/\Z0u c0 h r.h/\Zqc c0 r.h r.c (r.v 2) (3*n) (ints (X++quL V k t)):=by
 intro k
 induction k with
 | zero =>
  intro t c h out X ht hc hs hg hv hx ha
  obtain rfl:t=n:=by omega
  have ll:=hs.len
  have lg:ld1 h (.pointer (some ⟨gb,0,none⟩))=some s:=by rw [Z01 hg]; rfl
  refine Ans.lpN rfl rfl (Z83 ..) ?_
  unfold Z9o
  have fx:=ai lg ll
  refine Ans.go ?_
  clear fx
  refine Ans.exitN ⟨rfl,(by show c<=c+1; omega),rfl,fun _ _=>rfl, ?_⟩
  rw [quL,List.append_nil]
  exact ha.imp id fun ha=>ha.mono (by show c<=c+1; omega)
 | succ k ih =>
  intro t c h out X ht hc hs hg hv hx ha
  have ll:=hs.len
  have lg:ld1 h (.pointer (some ⟨gb,0,none⟩))=some s:=by rw [Z01 hg]; rfl
  have x1:=SlX.sub hv hx .i64 .i64 (7*(t:Int)+4) (7*(t:Int)+7) qO qO qO qO
  rw [show (7*(t:Int)+4).toNat=7*t+4 by omega,show (7*(t:Int)+7).toNat=7*t+7 by omega] at x1
  have x2:=SlI.sub hv (7*t+4) (7*t+7) qO qO qO
  rw [show 7*t+7-(7*t+4)=3 by omega,Nat.mul_one,Nat.mul_one,show (V.drop (7*t+4)).take 3=Z0y V t from rfl] at x2
  have hq:(Z0y V t).length=3:=x2.1
  obtain ⟨h',p1,p2,s0⟩:=Zqc.appN (c:=c+1) (c':=c+1+1) (ha.imp id fun ha=>ha.mono qO) (x2.slc qO qO) qO hq 8 (256*(c+1)+9) qO qO qO qO
  have htn:(t:Int)<n:=by omega
  refine Ans.lpN rfl rfl (Z83 ..) ?_
  unfold Z9o
  have fx:=ai lg (ai ll (ai x1 p1))
  refine Ans.go ?_
  clear fx
  refine Ans.nextN ?_
  have e:ints X++ints (Z0y V t)=ints (X++Z0y V t):=by simp [ints]
  rw [e] at p2
  refine (ih (t+1) _ h' _ (X++Z0y V t) qO qO (hs.same s0) (hg.eqf (s0 _ hgb)) (hv.same s0) (SlX.keep hv s0 hx) (by rw [show 3*(t+1)=3*t+3 by omega]; exact .inr (p2.mono qO))).mono ?_
  rintro r ⟨q1,q2,q3,q4,q5⟩
  refine ⟨q1,by omega,q3,s0.trans q4, ?_⟩
  rw [quL,← List.append_assoc]
  exact q5
theorem Zke (s v:Value) (n nv:Nat) (Gl V:List Int) (h:FH) (c:Nat) (df:List Nat) (hs:SlI h c s 20 n Gl) (hv:SlI h c v 1 nv V) (hx:SlX h v 1 nv) (hnv:nv<=1000000) :
 Ans (G (.fn 36) [.agg #[s],v] h c df) fun r=>r.e = .ret/\r.df=[]/\c<=r.c/\Z0u c h r.h ∧
  ((Z5b Gl n (Z1h Gl n V) ≠ 0/\r.vs=[.tuple #[.slice none 0 0,.int .i64 (Z5b Gl n (Z1h Gl n V))]]) ∨
   (Z5b Gl n (Z1h Gl n V)=0 /\ ∃ w,r.vs=[.tuple #[w,.int .i64 0]]/\SlI r.h r.c w 1 (3*n) (quL V n 0))):=by
 refine Ans.call' (fun r e=>f36_go e) ?_
 unfold Zrq
 rw [Z4s hs.flat,Z4m,Nat.add_zero]
 simp only [cond_true]
 obtain ⟨H,hH⟩:∃ H,newB h (256*c) [s]=H:=⟨_,rfl⟩
 have sH:Z0u c h H:=by rw [← hH]; simp (disch:=omega)
 have hg:Z09 H (256*c) [s]:=by rw [← hH]; exact Z09.newB_same _ _ _
 have l0:=Z0p hg
 have cc:=fun c' (hc:c<=c')=>Z05 (Z6U s v n nv Gl V H c' [] ((hs.same sH).mono hc) ((hv.same sH).mono hc) hnv)
 by_cases h0:Z5b Gl n (Z1h Gl n V)=0
 case neg =>
  obtain ⟨E,hE⟩:∃ E,Z5b Gl n (Z1h Gl n V)=E:=⟨_,rfl⟩
  rw [hE] at cc h0 ⊢
  have fx:=ai hH (ai l0 cc)
  refine Ans.go ?_
  clear fx
  exact .done ⟨rfl,rfl,(by show c<=c+1+1+1+1; omega),sH,.inl ⟨h0,rfl⟩⟩
 obtain ⟨hr0,ha⟩:=Z6r h0
 obtain ⟨hn,hok⟩:=Z1f hr0
 obtain ⟨a1,a2⟩:=Za0 ha
 have hnv':nv=7*n:=by have:=hv.1; omega
 rw [h0] at cc
 obtain ⟨⟨re,rv,H1,k1,rd⟩,hr,r1,r2,r3,r4,r5⟩:=Zmi s v n nv Gl V (256*c) (c+1) hnv' hn qO [] n 0 (c+1+1+1+1+1) H (.slice none 0 0) [] qO qO ((hs.same sH).mono qO) hg ((hv.same sH).mono qO) (SlX.keep hv sH hx) (.inl ⟨rfl,rfl,rfl⟩)
 simp only at r1 r2 r3 r4 r5
 subst r1 r3
 simp only [Int.ofNat_eq_natCast,Int.cast_ofNat_Int] at hr
 rw [List.nil_append] at r5
 have fx:=ai hH (ai l0 (ai cc hr))
 refine Ans.go ?_
 clear fx
 exact .done ⟨rfl,rfl,(by show c<=k1+1; omega),sH.trans (r4.mono qO),.inr ⟨h0,_,rfl,r5.sl.mono (by simp only; omega)⟩⟩

theorem Zdv {Gl:List Int} {chk:Bool} {n:Nat} (hok:Z0t Gl n=true) (hG:Gl.length=n*20):∀ {r k:Nat} {s s':FSt} {B:Int},FOk n s B->0<=B->fQ Gl chk r k s=some s'->KI Gl n s s'
 | 0,k,s,s',B,h,hB,e=>by
  obtain rfl:=Option.some.inj e
  exact KI.refl _ _ _
 | r+1,k,s,s',B,h,hB,e=>by
  rw [fQ] at e
  split at e
  · rename_i hk
    obtain ⟨s1,e1,e2⟩:=Option.bind_eq_some_iff.1 e
    have hm:s.Q.getD k 0 ∈ s.Q:=by simp [List.getD_eq_getElem?_getD,List.getElem?_eq_getElem hk]
    have:=(h.qk _ hm).1
    have a:=(Z4h hok hG qO qO qO h hB (by rw [show 4*(s.Q.getD k 0 / 4)+s.Q.getD k 0 % 4=s.Q.getD k 0 by omega]; exact hm) e1).1
    exact a.trans (Zdv hok hG (Z4G hok hG qO qO qO h hB e1) qO e2)
  · obtain rfl:=Option.some.inj e
    exact KI.refl _ _ _
set_option maxHeartbeats 1000000 in
theorem Zo1 (h0:FH) (n:Nat) (rb c:Nat) (t2 t12 t13 t16 v:Value) (Q:List Nat) (m B:Int) (df:List Nat) (hn:n<=60) (hrb:rb<256*c) (hv:SlI h0 c v 1 Q.length (zs Q)) (hvb:Z0l v ≠ rb) (o2:OkV c t2) (o4:OkV c t12) (o5:OkV c t13) (o11:OkV c t16)
 (nd:Q.Nodup) (hq:∀ w ∈ Q,w<4*n) (hl:Q.length<=4*n) (hm:-B<=m/\m<=B) (hB:B<=1000000000000000000) :
 ∀ (r k:Nat) (X:List Int),k+r=Q.length->X.length=7*n->(∀ w,w ∈ Q.drop k -> -B<=X.getD (ps w) 0/\X.getD (ps w) 0<=B) →
 Ans (G (Zco none) [t2,.slice (some ⟨rb,0,none⟩) (7*n) (7*n),t12,t13,t16,v,.int .i64 m,.int .i64 k] (HeapC.set h0 rb (.cells false none (ints X))) c df)
  fun q=>q=⟨.exit 16,[t2,.slice (some ⟨rb,0,none⟩) (7*n) (7*n),t12,t13,t16,v,.int .i64 m,.int .i64 Q.length],HeapC.set h0 rb (.cells false none (ints (Za7 m (Q.drop k) X))),c,df⟩:=by
 intro r
 have lv:=hv.len
 induction r with
 | zero =>
  intro k X hk hX hb
  obtain rfl:k=Q.length:=by omega
  have ov:=hv.okV
  rw [List.drop_length,Za7]
  refine Ans.lpG rfl rfl (Z7Z ..) ?_
  unfold Z9j
  have fx:=lv
  refine Ans.go ?_
  clear fx
  (have fx:=ai o2 (ai o4 (ai o5 (ai o11 (ai hrb ov)))); refine Ans.ex0 ?_; clear fx)
  rfl
 | succ r ih =>
  intro k X hk hX hb
  have ov:=hv.okV
  have hkq:k<Q.length:=by omega
  obtain ⟨H,hH⟩:∃ H,HeapC.set h0 rb (.cells false none (ints X))=H:=⟨_,rfl⟩
  have fH:H.f rb=some (.cells false none (ints X)):=by rw [← hH,Z0g,if_pos rfl]
  have hv':SlI H c v 1 Q.length (zs Q):=hv.keep fun _=>by rw [← hH,Z0g,if_neg hvb]
  have l1:=hv'.rdi (k:Int) qO qO
  rw [Z1y,ZcW,Int.toNat_natCast] at l1
  have hd:Q.drop k=Q.getD k 0::Q.drop (k+1):=by rw [List.drop_eq_getElem_cons hkq]; simp [List.getD_eq_getElem?_getD,List.getElem?_eq_getElem hkq]
  have nd':(Q.drop k).Nodup:=(List.drop_sublist k Q).nodup nd
  rw [hd] at nd' hb ⊢
  rw [List.nodup_cons] at nd'
  have hw:=hq (Q.getD k 0) (by simp [List.getD_eq_getElem?_getD,List.getElem?_eq_getElem hkq])
  obtain ⟨w,hw'⟩:∃ w,Q.getD k 0=w:=⟨_,rfl⟩
  rw [hw'] at l1 hw nd' hb ⊢
  rw [Za7]
  have q1:=Z5l w 4 qO qO
  have q2:=Z5k w 4 qO
  simp only [Int.ofNat_eq_natCast,Int.cast_ofNat_Int] at q1 q2
  have d1:w / 4<n:=by omega
  have d2:w % 4<4:=by omega
  have bw:=hb w (by simp)
  have hnx:∀ x,x ∈ Q.drop (k+1) -> -B<=(X.set (ps w) (X.getD (ps w) 0-m)).getD (ps x) 0/\(X.set (ps w) (X.getD (ps w) 0-m)).getD (ps x) 0<=B:=fun x hx=>by
   rw [Z0m,if_neg (fun q=>nd'.1 (by rw [Z4D q.1]; exact hx))]
   exact hb x (by simp [hx])
  have hps:ps w=7*(w / 4)+w % 4:=by unfold ps; omega
  obtain ⟨T,hT⟩:∃ T,w / 4=T:=⟨_,rfl⟩
  obtain ⟨E,hE⟩:∃ E,w % 4=E:=⟨_,rfl⟩
  rw [hT] at q1 d1 hps
  rw [hE] at q2 d2 hps
  rw [hps] at bw hnx ⊢
  have e7:(7*(T:Int)+E).toNat=7*T+E:=by omega
  have l2:ld1 H (.pointer (some ⟨rb,7*T+E,none⟩))=some (.int .i64 (X.getD (7*T+E) 0)):=by
   rw [Z01 ⟨false,none,fH⟩,ints_getD _ _ qO]
  have hw2:∀ y:Int,stN H 1 (.pointer (some ⟨rb,7*T+E,none⟩)) (.int .i64 y)=some (HeapC.set H rb (.cells false none (ints (X.set (7*T+E) y)))):=fun y=>by
   rw [Z12 (show HeapC.get H rb=_ from fH) (by simp; omega) rfl rfl,Z0K]
  obtain ⟨Y,hY⟩:∃ Y,X.getD (7*T+E) 0=Y:=⟨_,rfl⟩
  rw [hY] at l2 bw hnx ⊢
  have hkl:(k:Int)<Q.length:=by omega
  have hk1:=ih (k+1) _ qO (by simp [hX]) hnx
  clear ih hnx hb
  rw [hH]
  refine Ans.lpG rfl rfl (Z7Z ..) ?_
  unfold Z9j
  have fx:=ai lv (ai hv'.ixs1 (ai l1 (ai q1 (ai q2 (ai e7 (ai l2 hw2))))))
  refine Ans.go ?_
  clear fx
  (have fx:=ai o2 (ai o4 (ai o5 (ai o11 (ai hrb ov)))); refine Ans.nxB (B:=HeapC.set H rb (.cells false none (ints (X.set (7*T+E) (Y-m))))) ?_ ?_; exact (Z1A.set hrb (Z1c.ints _ _) (Z1A.refl _ _)); clear fx)
  rw [← hH,set_set]
  exact hk1
theorem ZkM (n:Nat) (C:List Int) (rb kb lb c1:Nat) (t2:Value) (s cls:Nat) (K:List Bool) (df:List Nat) (hn:n<=60) (hd:Z2I C (4*n)) (hkb:kb<256*c1) (hlb:lb<256*c1) (hs:s<4*n) (hr:Z02 C s=s) (hf:Z11 C s=cls) (hK:K.length=4*n) :
 ∀ (r x cc:Nat) (h:FH),x+r=s->c1<=cc->h.f lb=some (.cells false none (ints (Ze5 C (4*n))))->h.f kb=some (.cells false none (bools K)) →
 Ans (G (Zcq none) [t2,.slice (some ⟨rb,0,none⟩) (7*n) (7*n),.slice (some ⟨kb,0,none⟩) (4*n) (4*n),.slice (some ⟨lb,0,none⟩) (4*n) (4*n),.int .i64 cls,.slice none 0 0,.int .i64 x] h cc df)
  fun q=>q.e = .exit 10/\cc<=q.c/\q.df=df/\(∀ b,b<256*c1->b ≠ kb->q.h.f b=h.f b)/\q.h.f kb=some (.cells false none (bools (K.set s true))) /\ ∃ v j,q.vs=[t2,.slice (some ⟨rb,0,none⟩) (7*n) (7*n),.slice (some ⟨kb,0,none⟩) (4*n) (4*n),.slice (some ⟨lb,0,none⟩) (4*n) (4*n),.int .i64 cls,v,.int .i64 j]/\Z2Q c1 q.h q.c v 1 (ints (zs [s])):=by
 intro r
 induction r with
 | zero =>
  intro x cc h hx hc el ek
  obtain rfl:x=s:=by omega
  have l1:ld1 h (.pointer (some ⟨lb,x,none⟩))=some (.int .i64 cls):=by
   rw [Z01 ⟨false,none,el⟩,ints_getD _ _ (by rw [Z13]; exact hs),Z2L _ hs,hr,hf]
  have hbl:Z2T [.int .i64 0] [(0,1,.int .i64 (x:Int))]=some [.int .i64 x]:=rfl
  obtain ⟨bb,hbb⟩:∃ bb,256*(cc+1+1)+2=bb:=⟨_,rfl⟩
  obtain ⟨H,hH⟩:∃ H,newB h bb [.int .i64 x]=H:=⟨_,rfl⟩
  have fB:H.f bb=some (.cells false none (ints [(x:Int)])):=by rw [← hH,Z08,if_pos rfl]; rfl
  obtain ⟨h',p1,p2,s0⟩:=Zqc.appN (c0:=c1) (c:=cc+1+1) (c':=cc+1+1+1) (h:=H) (v:=.slice none 0 0) (n:=0) (cs:=[]) (.inl ⟨rfl,rfl,rfl⟩) ((Z60 (c:=cc+1+1+1) (m:=1) fB rfl qO qO).slc qO qO) qO rfl 8 (256*(cc+1+1)+3) qO qO qO qO
  rw [Nat.zero_add] at p1 p2
  rw [List.nil_append] at p2
  have ek':h'.f kb=some (.cells false none (bools K)):=by rw [s0 kb hkb,← hH,Z08,if_neg qO,ek]
  obtain ⟨H2,hH2⟩:∃ H2,HeapC.set h' kb (.cells false none (bools (K.set x true)))=H2:=⟨_,rfl⟩
  have w1:stN h' 1 (.pointer (some ⟨kb,x,none⟩)) (.bool true)=some H2:=by
   rw [Z12 (show HeapC.get h' kb=_ from ek') (by simp [bools]; omega) rfl rfl,Z6s,hH2]
  have bo:=p2.blk
  have p2':Z2Q c1 H2 (cc+1+1+1) (.slice (some ⟨256*(cc+1+1)+3,0,none⟩) 1 1) 1 (ints [(x:Int)]):=p2.keep (by rw [← hH2,Z0g,if_neg qO])
  have all:∀ b,b<256*c1->b ≠ kb->H2.f b=h.f b:=fun b h1 h2=>by rw [← hH2,Z0g,if_neg h2,s0 b h1,← hH,Z08,if_neg qO]
  have kH2:H2.f kb=some (.cells false none (bools (K.set x true))):=by rw [← hH2,Z0g,if_pos rfl]
  refine Ans.lpN rfl rfl (Z31 ..) ?_
  unfold Z50
  have fx:=ai l1 (ai hbl (ai hbb (ai hH (ai p1 w1))))
  refine Ans.go ?_
  clear fx
  refine Ans.nextN ?_
  by_cases e:x+1<4*n
  · have e':(x:Int)+1<(4*n:Nat):=by omega
    refine Ans.lpN rfl rfl (Z31 ..) ?_
    unfold Z50
    have fx:=True.intro
    refine Ans.go ?_
    clear fx
    exact Ans.exitN ⟨rfl,(by show cc<=_; simp only; omega),rfl,all,kH2,_,x+1,rfl,p2'.mono (by simp only; omega)⟩
  · have e':¬ (x:Int)+1<(4*n:Nat):=by omega
    refine Ans.lpN rfl rfl (Z31 ..) ?_
    unfold Z50
    have fx:=True.intro
    refine Ans.go ?_
    clear fx
    exact Ans.exitN ⟨rfl,(by show cc<=_; simp only; omega),rfl,all,kH2,_,x+1,rfl,p2'.mono (by simp only; omega)⟩
 | succ r ih =>
  intro x cc h hx hc el ek
  have hx4:x<4*n:=by omega
  have hne:Z11 C (Z02 C x) ≠ cls:=fun e=>by
   have h1:=Z0B hd hx4
   have:=ZhD (C:=C) (m:=4*n) qO hs (Z0Y hd hx4) hr (e.trans hf.symm)
   omega
  have l1:ld1 h (.pointer (some ⟨lb,x,none⟩))=some (.int .i64 (Z11 C (Z02 C x):Nat)):=by
   rw [Z01 ⟨false,none,el⟩,ints_getD _ _ (by rw [Z13]; exact hx4),Z2L _ hx4]
  obtain ⟨N,hN⟩:∃ N,Z11 C (Z02 C x)=N:=⟨_,rfl⟩
  rw [hN] at l1 hne
  have hne':¬ (N:Int)=cls:=by omega
  have fin:=fun cc' (hc':cc<=cc')=>(ih (x+1) cc' h qO qO el ek).mono fun q (p:_/\_)=>(⟨p.1,Nat.le_trans hc' p.2.1,p.2.2⟩:_/\cc<=q.c/\_)
  clear ih
  refine Ans.lpN rfl rfl (Z31 ..) ?_
  unfold Z50
  have fx:=l1
  refine Ans.go ?_
  clear fx
  refine Ans.nextN ?_
  exact fin _ qO

def HU (Gl:List Int) (n i:Nat) (X:List Int) (K:List Bool):Prop:=∀ w,w<4*n->i<=Z11 (vxC Gl n) (Z02 (vxC Gl n) w)->K.getD w false=false/\X.getD (ps w) 0=0
set_option maxHeartbeats 2000000 in
theorem Zob (s:Value) (n:Nat) (Gl:List Int) (gb rb kb lb c1:Nat) (df:List Nat) (hn:n<=6) (hok:Z0t Gl n=true) (hgb:gb<256*c1) (hrb:rb<256*c1) (hkb:kb<256*c1) (hlb:lb<256*c1) (hne:rb ≠ kb) (hg1:gb ≠ rb) (hg2:gb ≠ kb) (hl1:lb ≠ rb) (hl2:lb ≠ kb) (hsb:0<n->Z0l s ≠ rb/\Z0l s ≠ kb) :
 ∀ (k i cc:Nat) (h:FH) (X:List Int) (K:List Bool) (B:Int),i+k=(vxF Gl n).length->c1<=cc->Z09 h gb [s]->SlI h c1 s 20 n Gl->h.f lb=some (.cells false none (ints (Ze5 (vxC Gl n) (4*n))))->h.f rb=some (.cells false none (ints X))->h.f kb=some (.cells false none (bools K))->X.length=7*n->K.length=4*n->(∀ j:Nat,-B<=X.getD j 0/\X.getD j 0<=B) →
  (∀ t k:Nat,k<3->0<=X.getD (7*t+4+k) 0/\X.getD (7*t+4+k) 0<=1000000)->HU Gl n i X K->0<=B->(B+200000000)*2 ^ k<=6000000000000000 →
 Ans (G (Zcr none) [ptrTo gb,.slice (some ⟨rb,0,none⟩) (7*n) (7*n),.slice (some ⟨kb,0,none⟩) (4*n) (4*n),.slice (some ⟨lb,0,none⟩) (4*n) (4*n),.int .i64 i] h cc df)
  fun r=>r.e = .exit 8/\cc<=r.c/\r.df=df/\(∀ b,b<256*c1->b ≠ rb->b ≠ kb->r.h.f b=h.f b) /\ ∃ X' j,ZeD Gl false n ((vxF Gl n).drop i) X K=some X'/\r.vs=[ptrTo gb,.slice (some ⟨rb,0,none⟩) (7*n) (7*n),.slice (some ⟨kb,0,none⟩) (4*n) (4*n),.slice (some ⟨lb,0,none⟩) (4*n) (4*n),j]/\r.h.f rb=some (.cells false none (ints X'))/\X'.length=7*n:=by
 intro k
 have hM:(vxF Gl n).length=Z11 (vxC Gl n) (4*n):=rfl
 have fl:=ZaQ (vxC Gl n) (4*n)
 induction k with
 | zero =>
  intro i cc h X K B hi hc hg hs el e1 e2 hX hK xb qd hu hB hp
  obtain ⟨hd,_⟩:=Z5f hok hs.1
  have cn:=fun c' (hc':cc<=c')=>Z05 (ZdT (.slice (some ⟨lb,0,none⟩) (4*n) (4*n)) (4*n) (vxC Gl n) h c' [] qO hd (Z60 el (Z13 _ _) qO qO))
  rw [show Z11 (vxC Gl n) (4*n)=i by omega] at cn
  have e:(vxF Gl n).drop i=[]:=List.drop_of_length_le qO
  rw [e]
  refine Ans.lpN rfl rfl (Z81 ..) ?_
  unfold Z9l
  have fx:=cn
  refine Ans.go ?_
  clear fx
  exact Ans.exitN ⟨rfl,(by show cc<=cc+1; omega),rfl,fun _ _ _ _=>rfl,X,_,rfl,rfl,e1,hX⟩
 | succ k ih =>
  intro i cc h X K B hi hc hg hs el e1 e2 hX hK xb qd hu hB hp
  obtain ⟨hd,_⟩:=Z5f hok hs.1
  have cn:=fun c' (hc':cc<=c')=>Z05 (ZdT (.slice (some ⟨lb,0,none⟩) (4*n) (4*n)) (4*n) (vxC Gl n) h c' [] qO hd (Z60 el (Z13 _ _) qO qO))
  obtain ⟨hp1,hp2⟩:=ZgE hB hp
  obtain ⟨x,hx6,hxr,hxi⟩:=Zdf (Gl:=Gl) (n:=n) (k:=i) qO
  have hget:(vxF Gl n)[i]? = some (x:Int):=by
   have:=Z2q (m:=4*n) hx6 hxr
   rw [hxi] at this
   exact this
  have hil:i<(vxF Gl n).length:=by omega
  have hdr:(vxF Gl n).drop i=(x:Int)::(vxF Gl n).drop (i+1):=by
   rw [List.drop_eq_getElem_cons hil]
   rw [List.getElem?_eq_getElem hil] at hget
   rw [Option.some.inj hget]
  rw [hdr,ZeD,Z79,Int.toNat_natCast]
  obtain ⟨⟨re,rv,h1,k1,rd⟩,hr1,p1,p2,p3,p4,p5,v,j,p6,p7⟩:=ZkM n (vxC Gl n) rb kb lb c1 (ptrTo gb) x i K df qO hd hkb hlb hx6 hxr hxi hK x 0 (cc+1+1+1) h qO qO el e2
  simp only at p1 p2 p3 p4 p5 p6 p7
  subst p1 p3 p6
  have ok0:=FOk.start (first:=x) hX hK hx6 hB xb qd
  have hux:=hu x hx6 (by rw [hxr]; omega)
  have mi0:MI ⟨X,K.set x true,[x],0⟩:=⟨fun w hw=>by rw [List.mem_singleton.1 hw]; show (0:Int)<=X.getD (ps x) 0; omega,x,by simp,by show (0:Int)=X.getD (ps x) 0; omega⟩
  obtain ⟨⟨re,rv,h2,k2,rd⟩,hr2,q1,q2,q3,S1,hQ,q4,v2,⟨j2,q5⟩,q6,q7,q8⟩:=Zo4 s n Gl gb rb kb c1 (.slice (some ⟨lb,0,none⟩) (4*n) (4*n)) (.int .i64 i) rd qO hok hrb hkb hne hgb hg1 hg2 hsb (4*n) 0 (k1+1+1) h1 v ⟨X,K.set x true,[x],0⟩ B 0 qO qO qO (hg.eqf (p4 gb hgb hg2)) (hs.keep fun hp=>p4 _ (hs.blk hp) (hsb hp).2) (by rw [p4 rb hrb hne,e1]) p5 (p7.mono qO) ok0 hB qO ⟨Int.le_refl _,fun j hj=>by omega,.inl rfl⟩ mi0
  simp only at q1 q2 q3 q4 q5 q6 q7 q8
  subst q2 q4 q5
  have ki:=Zdv hok hs.1 ok0 hB hQ
  have o1:=(ZkT hok hs.1 ok0 hB hQ).mono (B':=B+100000000) qO
  rw [hQ]
  have bv:=q8.blk
  have hself:HeapC.set h2 rb (.cells false none (ints S1.X))=h2:=by
   apply FH.ext; intro b
   rw [Z0g]
   split
   · rename_i e; rw [e,q6]
   · rfl
  have hfs:=Ans.eq (Zo1 h2 n rb (k2+1) (ptrTo gb) (.slice (some ⟨kb,0,none⟩) (4*n) (4*n)) (.slice (some ⟨lb,0,none⟩) (4*n) (4*n)) (.int .i64 i) v2 S1.Q S1.m (B+100000000) rd qO qO (q8.sl.mono qO) qO (OkV.ptrTo qO) (OkV.sl qO) (OkV.sl qO) (by simp) o1.nd (fun w hw=>(o1.qk w hw).1) o1.ql ⟨o1.mb.1,by have:=o1.mb.2; omega⟩ qO S1.Q.length 0 S1.X qO o1.xl (fun w _=>o1.xb _))
  rw [hself,List.drop_zero] at hfs
  simp only [Int.ofNat_eq_natCast,Int.cast_ofNat_Int] at hr1 hr2 hfs
  have hnq:∀ w,w<4*n->i+1<=Z11 (vxC Gl n) (Z02 (vxC Gl n) w)->w ∉ S1.Q/\w ≠ x:=fun w h1 h2=>by
   refine ⟨fun q=>?_,fun q=>?_⟩
   · have:=ki.r x (fun w hw=>by rw [List.mem_singleton.1 hw,hxr]) w q
     rw [this] at h2; omega
   · rw [q,hxr] at h2; omega
  have hu1:HU Gl n (i+1) (Za7 S1.m S1.Q S1.X) S1.K:=fun w h1 h2=>by
   obtain ⟨n1,n2⟩:=hnq w h1 h2
   obtain ⟨z1,z2⟩:=ki.o w n1
   obtain ⟨u1,u2⟩:=hu w h1 qO
   refine ⟨?_, ?_⟩
   · rw [z2]
     show (K.set x true).getD w false=false
     rw [Z2M,if_neg (fun q=>n2 q.1.symm)]
     exact u1
   · rw [(Z4z S1.m o1.nd (fun w hw=>(o1.qk w hw).1) o1.xl (ps w)).2 (fun v hv q=>n1 (by rw [← Z4D q]; exact hv)),z1]
     exact u2
  obtain ⟨H3,hH3⟩:∃ H3,HeapC.set h2 rb (.cells false none (ints (Za7 S1.m S1.Q S1.X)))=H3:=⟨_,rfl⟩
  rw [hH3] at hfs
  have f3:∀ b,b ≠ rb->H3.f b=h2.f b:=fun b hb=>by rw [← hH3,Z0g,if_neg hb]
  have f3r:H3.f rb=some (.cells false none (ints (Za7 S1.m S1.Q S1.X))):=by rw [← hH3,Z0g,if_pos rfl]
  have all:∀ b,b<256*c1->b ≠ rb->b ≠ kb->H3.f b=h.f b:=fun b h1 h2 h3=>by rw [f3 b h2,q3 b h1 h2 h3,p4 b h1 h3]
  have bx:=Z4A o1
  have fin:=(ih (i+1) (k2+1+1) H3 (Za7 S1.m S1.Q S1.X) S1.K (2*(B+100000000)) qO qO (hg.eqf (all gb hgb hg1 hg2)) (hs.keep fun hp=>all _ (hs.blk hp) (hsb hp).1 (hsb hp).2) (by rw [all lb hlb hl1 hl2,el]) f3r (by rw [f3 kb (Ne.symm hne),q7]) (by rw [Z2m]; exact o1.xl) o1.kl bx (fun t k hk=>by rw [Z67 o1 t k hk,ki.u t k hk]; exact qd t k hk) hu1 qO hp1).mono fun r (p:_/\_)=>(⟨p.1,by have:=p.2.1; omega,p.2.2.1,fun b h1 h2 h3=>(p.2.2.2.1 b h1 h2 h3).trans (all b h1 h2 h3),p.2.2.2.2⟩:_/\cc<=r.c/\_/\(∀ b,b<256*c1->b ≠ rb->b ≠ kb->r.h.f b=h.f b)/\_)
  have hiM:(i:Int)<Z11 (vxC Gl n) (4*n):=by omega
  obtain ⟨M,hMM⟩:∃ M,Z11 (vxC Gl n) (4*n)=M:=⟨_,rfl⟩
  rw [hMM] at cn hiM
  clear ih hu hu1 hnq bx
  refine Ans.lpN rfl rfl (Z81 ..) ?_
  unfold Z9l
  have fx:=ai cn (ai hr1 (ai hr2 hfs))
  refine Ans.go ?_
  clear fx
  refine Ans.nextN ?_
  exact fin

theorem Zkg {Q:List Int} {n t:Nat} (hQ:Q.length=3*n) (ht:t<n):(q3 Q t).length=3:=by
 rw [q3,List.length_take,List.length_drop]; omega
theorem ZpJ {Q:List Int} {t k:Nat} (hk:k<3):(q3 Q t).getD k 0=Q.getD (3*t+k) 0:=by
 simp only [q3,List.getD_eq_getElem?_getD,List.getElem?_take_of_lt hk,List.getElem?_drop]
theorem fqc_in (v:Value) (n:Nat) (Q:List Int) (gb t c:Nat) (h:FH) (df:List Nat) (hn:n<=60) (ht:t<n) (hv:SlI h c v 1 (3*n) Q) (hgb:gb<256*c):∀ (r k m:Nat),k+r=3->m<=k →
 Ans (G (Zct none) [v,ptrTo gb,.slice none 0 0,.int .i64 0,.int .i64 n,.int .i64 t,.int .i64 m,.int .i64 k] h c df) fun q=>q.h=h/\q.c=c/\q.df=df ∧
  ((q.e = .exit 2/\q.vs=[v,ptrTo gb,.slice none 0 0,.int .i64 0,.int .i64 n,.int .i64 t,.int .i64 (m+nzC ((q3 Q t).drop k):Nat),.int .i64 3] /\ ∀ j,k<=j->j<3->0<=Q.getD (3*t+j) 0/\Q.getD (3*t+j) 0<=1000000) ∨
   (q.e = .ret/\(∃ m' k':Int,q.vs=[v,ptrTo gb,.slice none 0 0,.int .i64 1,.int .i64 n,.int .i64 t,.int .i64 m',.int .i64 k']) /\ ∃ j,j<3*n /\ ¬ (0<=Q.getD j 0/\Q.getD j 0<=1000000))):=by
 intro r
 have o1:=hv.okV
 have hQ:Q.length=3*n:=hv.1.trans (Nat.mul_one _)
 have ql:=Zkg hQ ht
 induction r with
 | zero =>
  intro k m hk hm
  obtain rfl:k=3:=by omega
  rw [List.drop_of_length_le qO,nzC,Nat.add_zero]
  refine Ans.lpG rfl rfl (Z2d ..) ?_
  unfold Z3M
  have fx:=True.intro
  refine Ans.go ?_
  clear fx
  (have fx:=ai o1 hgb; refine Ans.ex0 ?_; clear fx)
  exact ⟨rfl,rfl,rfl,.inl ⟨rfl,rfl,fun j h1 h2=>by omega⟩⟩
 | succ r ih =>
  intro k m hk hm
  have hk3:k<3:=by omega
  have l1:=hv.rdi (3*(t:Int)+k) qO qO
  rw [gi,show (3*(t:Int)+k).toNat=3*t+k by omega] at l1
  have hd:=Za9 ql hk3
  rw [ZpJ hk3] at hd
  have hk3':(k:Int)<3:=by omega
  have z1:(3*(t:Int)+k).toNat=3*t+k:=by omega
  have nx:=fun m' (hm':m'<=k+1) (hr:0<=Q.getD (3*t+k) 0/\Q.getD (3*t+k) 0<=1000000)=>(ih (k+1) m' qO hm').mono fun q (p:_/\_/\_/\_)=>(⟨p.1,p.2.1,p.2.2.1,p.2.2.2.imp (fun ⟨a,b,d⟩=>⟨a,b,fun j (j1:k<=j) j2=>by
   by_cases e:j=k
   · rw [e]; exact hr
   · exact d j qO j2⟩) id⟩:q.h=h/\q.c=c/\q.df=df/\((q.e = .exit 2/\q.vs=[v,ptrTo gb,.slice none 0 0,.int .i64 0,.int .i64 n,.int .i64 t,.int .i64 (m'+nzC ((q3 Q t).drop (k+1)):Nat),.int .i64 3] /\ ∀ j,k<=j->j<3->0<=Q.getD (3*t+j) 0/\Q.getD (3*t+j) 0<=1000000) ∨ (q.e = .ret/\(∃ m' k':Int,q.vs=[v,ptrTo gb,.slice none 0 0,.int .i64 1,.int .i64 n,.int .i64 t,.int .i64 m',.int .i64 k']) /\ ∃ j,j<3*n /\ ¬ (0<=Q.getD j 0/\Q.getD j 0<=1000000))))
  have bad:¬ (0<=Q.getD (3*t+k) 0/\Q.getD (3*t+k) 0<=1000000) -> ∃ j,j<3*n /\ ¬ (0<=Q.getD j 0/\Q.getD j 0<=1000000):=fun h=>⟨3*t+k,by omega,h⟩
  rw [hd]
  clear ih
  obtain ⟨A,hA⟩:∃ A,Q.getD (3*t+k) 0=A:=⟨_,rfl⟩
  rw [hA] at l1 bad ⊢
  rw [hA] at nx
  by_cases b1:A<0
  · have hb:=bad qO
    clear nx bad
    refine Ans.lpG rfl rfl (Z2d ..) ?_
    unfold Z3M
    have fx:=ai hv.ixs1 (ai z1 l1)
    refine Ans.go ?_
    clear fx
    (have fx:=ai o1 hgb; refine Ans.rt0 ?_; clear fx)
    exact ⟨rfl,rfl,rfl,.inr ⟨rfl,⟨_,_,rfl⟩,hb⟩⟩
  by_cases b2:1000000<A
  · have hb:=bad qO
    clear nx bad
    refine Ans.lpG rfl rfl (Z2d ..) ?_
    unfold Z3M
    have fx:=ai hv.ixs1 (ai z1 l1)
    refine Ans.go ?_
    clear fx
    (have fx:=ai o1 hgb; refine Ans.rt0 ?_; clear fx)
    exact ⟨rfl,rfl,rfl,.inr ⟨rfl,⟨_,_,rfl⟩,hb⟩⟩
  by_cases e:A=0
  · have n1:=nx m qO qO
    clear nx bad
    rw [if_pos e,Nat.zero_add]
    refine Ans.lpG rfl rfl (Z2d ..) ?_
    unfold Z3M
    have fx:=ai hv.ixs1 (ai z1 l1)
    refine Ans.go ?_
    clear fx
    (have fx:=ai o1 hgb; refine Ans.nx0 ?_; clear fx)
    exact n1
  · have n1:=nx (m+1) qO qO
    clear nx bad
    rw [if_neg e,← Nat.add_assoc]
    refine Ans.lpG rfl rfl (Z2d ..) ?_
    unfold Z3M
    have fx:=ai hv.ixs1 (ai z1 l1)
    refine Ans.go ?_
    clear fx
    (have fx:=ai o1 hgb; refine Ans.nx0 ?_; clear fx)
    exact n1
theorem Zo3 (v:Value) (n:Nat) (Q:List Int) (gb c:Nat) (h:FH) (df:List Nat) (hn:n<=60) (hv:SlI h c v 1 (3*n) Q) (hgb:gb<256*c):∀ (r t:Nat),t+r=n →
 Ans (G (Zcu none) [v,ptrTo gb,.slice none 0 0,.int .i64 0,.int .i64 n,.int .i64 t] h c df) fun q=>q.h=h/\q.c=c/\q.df=df ∧
  ((q.e = .exit 0/\q.vs=[v,ptrTo gb,.slice none 0 0,.int .i64 0,.int .i64 n,.int .i64 n] /\ ∀ u,t<=u->u<n->Z7n (q3 Q u)=true /\ ∀ j,j<3->0<=Q.getD (3*u+j) 0/\Q.getD (3*u+j) 0<=1000000) ∨
   (q.e = .ret/\q.v 2 = .slice none 0 0/\q.v 3 = .int .i64 1/\((∃ u,u<n/\Z7n (q3 Q u)=false) ∨ ∃ j,j<3*n /\ ¬ (0<=Q.getD j 0/\Q.getD j 0<=1000000)))):=by
 intro r
 have o1:=hv.okV
 have hQ:Q.length=3*n:=hv.1.trans (Nat.mul_one _)
 induction r with
 | zero =>
  intro t ht
  obtain rfl:t=n:=by omega
  refine Ans.lpG rfl rfl (Z32 ..) ?_
  unfold Z51
  have fx:=True.intro
  refine Ans.go ?_
  clear fx
  (have fx:=ai o1 hgb; refine Ans.ex0 ?_; clear fx)
  exact ⟨rfl,rfl,rfl,.inl ⟨rfl,rfl,fun u h1 h2=>by omega⟩⟩
 | succ r ih =>
  intro t ht
  have htn:t<n:=by omega
  obtain ⟨⟨re,rv,rh,rc,rd⟩,hin,p1,p2,p3,p4⟩:=fqc_in v n Q gb t (c+1+1+1) h df hn htn (hv.mono qO) qO 3 0 0 qO qO
  simp only at p1 p2 p3 p4
  subst p1 p2 p3
  simp only [Int.ofNat_eq_natCast,Int.cast_ofNat_Int] at hin
  rcases p4 with ⟨rfl,rfl,p5⟩ | ⟨rfl,⟨m',k',rfl⟩,p7⟩
  · rw [List.drop_zero,Nat.zero_add] at hin
    have hq:Z7n (q3 Q t)=decide (nzC (q3 Q t)<=1):=rfl
    have hle:=ZgH (q3 Q t)
    rw [Zkg hQ htn] at hle
    obtain ⟨N,hN⟩:∃ N,nzC (q3 Q t)=N:=⟨_,rfl⟩
    rw [hN] at hin hq hle
    by_cases e:N<=1
    · have e':¬ (1:Int)<N:=by omega
      refine Ans.lpG rfl rfl (Z32 ..) ?_
      unfold Z51
      have fx:=hin
      refine Ans.go ?_
      clear fx
      (have fx:=ai o1 hgb; refine Ans.nx0 ?_; clear fx)
      refine (ih (t+1) qO).mono ?_
      rintro q ⟨q1,q2,q3',q4⟩
      refine ⟨q1,q2,q3',q4.imp (fun ⟨a,b,d⟩=>⟨a,b,fun u j1 j2=>?_⟩) id⟩
      by_cases e2:u=t
      · rw [e2,hq,decide_eq_true e]; exact ⟨rfl,fun j hj=>p5 j qO hj⟩
      · exact d u qO j2
    · have e':(1:Int)<N:=by omega
      refine Ans.lpG rfl rfl (Z32 ..) ?_
      unfold Z51
      have fx:=hin
      refine Ans.go ?_
      clear fx
      (have fx:=ai o1 hgb; refine Ans.rt0 ?_; clear fx)
      exact ⟨rfl,rfl,rfl,.inr ⟨rfl,rfl,rfl,.inl ⟨t,htn,by rw [hq,decide_eq_false e]⟩⟩⟩
  · refine Ans.lpG rfl rfl (Z32 ..) ?_
    unfold Z51
    have fx:=hin
    refine Ans.go ?_
    clear fx
    (have fx:=ai o1 hgb; refine Ans.rt0 ?_; clear fx)
    exact ⟨rfl,rfl,rfl,.inr ⟨rfl,rfl,rfl,.inr p7⟩⟩
def QI (Q:List Int) (t k:Nat) (X:List Int):Prop:=(∀ u j,j<3->X.getD (7*u+4+j) 0=if u<t ∨ (u=t/\j<k) then Q.getD (3*u+j) 0 else 0) /\ ∀ w,X.getD (ps w) 0=0
theorem QI.step {Q X:List Int} {n t k:Nat} (ht:t<n) (hk:k<3) (hX:X.length=7*n) (a:QI Q t k X):QI Q t (k+1) (X.set (7*t+4+k) (Q.getD (3*t+k) 0)):=by
 refine ⟨fun u j hj=>?_,fun w=>?_⟩
 · rw [Z0m]
   by_cases e:u=t/\j=k
   · obtain ⟨rfl,rfl⟩:=e
     rw [if_pos ⟨rfl,by omega⟩,if_pos (.inr ⟨rfl,by omega⟩)]
   · rw [if_neg (fun q=>e ⟨by omega,by omega⟩),a.1 u j hj]
     by_cases e2:u<t ∨ (u=t/\j<k)
     · rw [if_pos e2,if_pos (e2.imp id fun q=>⟨q.1,by omega⟩)]
     · rw [if_neg e2,if_neg (fun q=>e2 (q.imp id fun q=>⟨q.1,by have:j ≠ k:=fun z=>e ⟨q.1,z⟩; omega⟩))]
 · rw [Z0m,if_neg (fun q=>by have:=q.1; unfold ps at this; omega)]
   exact a.2 w
theorem QI.row {Q X:List Int} {t:Nat} (a:QI Q t 3 X):QI Q (t+1) 0 X:=⟨fun u j hj=>by
 rw [a.1 u j hj]
 by_cases e:u<t ∨ (u=t/\j<3)
 · rw [if_pos e,if_pos (.inl qO)]
 · rw [if_neg e,if_neg qO],a.2⟩
theorem QI.fill0 {Q X:List Int} {n:Nat} (hQ:Q.length=3*n) (hX:X.length=7*n) (a:QI Q n 0 X):X=fill0 Q n:=by
 refine ZgM hX (Z1W hQ) (fun w hw=>?_) (fun t k ht hk=>?_)
 · have:=Z7L hQ (w / 4) (w % 4) qO
   rw [show 7*(w / 4)+w % 4=ps w by unfold ps; omega] at this
   rw [a.2 w,this]
 · rw [a.1 t k hk,if_pos (.inl ht),Z4F hQ t k hk,if_pos ht]
theorem fqp_in (h0:FH) (v:Value) (n:Nat) (Q:List Int) (gb rb t c:Nat) (t12 t13:Value) (df:List Nat) (hn:n<=60) (ht:t<n) (hv:SlI h0 c v 1 (3*n) Q) (hvb:Z0l v ≠ rb) (hgb:gb<256*c) (hrb:rb<256*c) (o2:OkV c t12) (o3:OkV c t13):∀ (r k:Nat) (X:List Int),k+r=3->X.length=7*n->QI Q t k X →
 Ans (G (Zcs none) [v,ptrTo gb,.int .i64 n,.slice (some ⟨rb,0,none⟩) (7*n) (7*n),t12,t13,.int .i64 t,.int .i64 k] (HeapC.set h0 rb (.cells false none (ints X))) c df) fun q=>∃ Y,Y.length=7*n/\QI Q t 3 Y/\q=⟨.exit 6,[v,ptrTo gb,.int .i64 n,.slice (some ⟨rb,0,none⟩) (7*n) (7*n),t12,t13,.int .i64 t,.int .i64 3],HeapC.set h0 rb (.cells false none (ints Y)),c,df⟩:=by
 intro r
 have o1:=hv.okV
 induction r with
 | zero =>
  intro k X hk hX ha
  obtain rfl:k=3:=by omega
  refine Ans.lpG rfl rfl (Z82 ..) ?_
  unfold Z9m
  have fx:=True.intro
  refine Ans.go ?_
  clear fx
  (have fx:=ai o1 (ai o2 (ai o3 (ai hgb hrb))); refine Ans.ex0 ?_; clear fx)
  exact ⟨X,hX,ha,rfl⟩
 | succ r ih =>
  intro k X hk hX ha
  have hk3:(k:Int)<3:=by omega
  have hk1:=ih (k+1) _ qO (by rw [List.length_set]; exact hX) (ha.step ht qO hX)
  obtain ⟨H,hH⟩:∃ H,HeapC.set h0 rb (.cells false none (ints X))=H:=⟨_,rfl⟩
  have fH:H.f rb=some (.cells false none (ints X)):=by rw [← hH,Z0g,if_pos rfl]
  have hv':SlI H c v 1 (3*n) Q:=hv.keep fun _=>by rw [← hH,Z0g,if_neg hvb]
  have l1:=hv'.rdi (3*(t:Int)+k) qO qO
  rw [gi,show (3*(t:Int)+k).toNat=3*t+k by omega] at l1
  have z1:(3*(t:Int)+k).toNat=3*t+k:=by omega
  have z2:(7*(t:Int)+4+k).toNat=7*t+4+k:=by omega
  obtain ⟨A,hA⟩:∃ A,Q.getD (3*t+k) 0=A:=⟨_,rfl⟩
  rw [hA] at l1 hk1
  have hw:stN H 1 (.pointer (some ⟨rb,7*t+4+k,none⟩)) (.int .i64 A)=some (HeapC.set H rb (.cells false none (ints (X.set (7*t+4+k) A)))):=by
   rw [Z12 (show HeapC.get H rb=_ from fH) (by simp; omega) rfl rfl,Z0K]
  rw [hH]
  clear ih ha
  refine Ans.lpG rfl rfl (Z82 ..) ?_
  unfold Z9m
  have fx:=ai hv'.ixs1 (ai z1 (ai z2 (ai l1 hw)))
  refine Ans.go ?_
  clear fx
  (have fx:=ai o1 (ai o2 (ai o3 (ai hgb hrb))); refine Ans.nxB (B:=HeapC.set H rb (.cells false none (ints (X.set (7*t+4+k) A)))) ?_ ?_; exact (Z1A.set hrb (Z1c.ints _ _) (Z1A.refl _ _)); clear fx)
  rw [← hH,set_set]
  exact hk1
theorem Zo2 (h0:FH) (v:Value) (n:Nat) (Q:List Int) (gb rb c:Nat) (t12 t13:Value) (df:List Nat) (hn:n<=60) (hv:SlI h0 c v 1 (3*n) Q) (hvb:Z0l v ≠ rb) (hgb:gb<256*c) (hrb:rb<256*c) (o2:OkV c t12) (o3:OkV c t13):∀ (r t:Nat) (X:List Int),t+r=n->X.length=7*n->QI Q t 0 X →
 Ans (G (Z99 none) [v,ptrTo gb,.int .i64 n,.slice (some ⟨rb,0,none⟩) (7*n) (7*n),t12,t13,.int .i64 t] (HeapC.set h0 rb (.cells false none (ints X))) c df) fun q=>∃ Y,Y.length=7*n/\QI Q n 0 Y/\q=⟨.exit 4,[v,ptrTo gb,.int .i64 n,.slice (some ⟨rb,0,none⟩) (7*n) (7*n),t12,t13,.int .i64 n],HeapC.set h0 rb (.cells false none (ints Y)),c,df⟩:=by
 intro r
 have o1:=hv.okV
 induction r with
 | zero =>
  intro t X ht hX ha
  obtain rfl:t=n:=by omega
  refine Ans.lpG rfl rfl (Z5M ..) ?_
  unfold Z6M
  have fx:=True.intro
  refine Ans.go ?_
  clear fx
  (have fx:=ai o1 (ai o2 (ai o3 (ai hgb hrb))); refine Ans.ex0 ?_; clear fx)
  exact ⟨X,hX,ha,rfl⟩
 | succ r ih =>
  intro t X ht hX ha
  have htn:(t:Int)<n:=by omega
  obtain ⟨q,hin,Y,y1,y2,rfl⟩:=fqp_in h0 v n Q gb rb t (c+1+1) t12 t13 df hn qO (hv.mono qO) hvb qO qO (o2.mono qO) (o3.mono qO) 3 0 X qO hX ha
  simp only [Int.ofNat_eq_natCast,Int.cast_ofNat_Int] at hin
  have nx:=ih (t+1) Y qO y1 y2.row
  obtain ⟨H,hH⟩:∃ H,HeapC.set h0 rb (.cells false none (ints X))=H:=⟨_,rfl⟩
  have fH:H.f rb=some (.cells false none (ints X)):=by rw [← hH,Z0g,if_pos rfl]
  have e:HeapC.set h0 rb (.cells false none (ints Y))=HeapC.set H rb (.cells false none (ints Y)):=by rw [← hH,set_set]
  rw [e] at nx hin
  rw [hH] at hin ⊢
  refine Ans.lpG rfl rfl (Z5M ..) ?_
  unfold Z6M
  have fx:=hin
  refine Ans.go ?_
  clear fx
  (have fx:=ai o1 (ai o2 (ai o3 (ai hgb hrb))); refine Ans.nxB (B:=HeapC.set H rb (.cells false none (ints Y))) ?_ ?_; exact (Z1A.set hrb (Z1c.ints _ _) (Z1A.refl _ _)); clear fx)
  exact nx
end Go.Proofs.Ytcnndelmnobigaa
