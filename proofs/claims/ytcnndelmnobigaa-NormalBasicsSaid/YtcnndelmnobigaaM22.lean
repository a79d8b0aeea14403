/- Parts of a proof: B9 AbUf2 AbFill AbLab B3 V1 V2 V3 U12 V4 F1 F2 F3 F4. Conditions: none. -/
import Derived.Test.YtcnndelmnobigaaM21
import Derived.Test.YtcnndelmnobigaaM16
import Derived.Test.YtcnndelmnobigaaM18
import Derived.Test.YtcnndelmnobigaaM20
import Derived.Test.YtcnndelmnobigaaM17
set_option linter.all false
set_option maxRecDepth 100000
namespace Go.Proofs.Ytcnndelmnobigaa
open Go Go.Ab Go.Proofs
theorem Zp4 (v:Value) (nv:Nat) (V:List Int) (gb c:Nat) (h:FH) (df:List Nat) (hnv:nv <= 1000000) (hv:SlI h c v 1 nv V) (hgb:gb < 256 * c):∀ (r i:Nat),i + r = nv →
 Ans (G (ZbF none) [v,ptrTo gb,.bool false,.int .i64 i] h c df) fun q=>q.h = h /\ q.c = c /\ q.df = df ∧
  ((q.e = .exit 0 /\ q.vs = [v,ptrTo gb,.bool false,.int .i64 nv] /\ ∀ j,i <= j -> j < nv -> 0 <= V.getD j 0 /\ V.getD j 0 <= 1000000) ∨ (q.e = .ret /\ q.v 2 = .bool false /\ ∃ j,j < nv /\ ¬ (0 <= V.getD j 0 /\ V.getD j 0 <= 1000000))):=by
 intro r
 have o1:=hv.okV
 have ll:=hv.len
 induction r with
 | zero =>
  intro i hi
  obtain rfl:i = nv:=by omega
  refine Ans.lpG rfl rfl (Z2R ..) ?_
  unfold Z4D
  have fx:=ll
  refine Ans.go ?_
  clear fx
  (have fx:=ai o1 hgb; refine Ans.ex0 ?_; clear fx)
  exact ⟨rfl,rfl,rfl,.inl ⟨rfl,rfl,fun j h1 h2=>by omega⟩⟩
 | succ r ih =>
  intro i hi
  have hin:i < nv:=by omega
  have l1:=hv.rdi (i:Int) (by omega) (by omega)
  rw [Z3Z,Int.toNat_natCast] at l1
  obtain ⟨A,hA⟩:∃ A,V.getD i 0 = A:=⟨_,rfl⟩
  rw [hA] at l1
  have bad:¬ (0 <= A /\ A <= 1000000) -> ∃ j,j < nv /\ ¬ (0 <= V.getD j 0 /\ V.getD j 0 <= 1000000):=fun h=>⟨i,hin,by rw [hA]; exact h⟩
  by_cases h1:A < 0
  · refine Ans.lpG rfl rfl (Z2R ..) ?_
    unfold Z4D
    have fx:=ai ll (ai hv.ixs1 l1)
    refine Ans.go ?_
    clear fx
    (have fx:=ai o1 hgb; refine Ans.rt0 ?_; clear fx)
    exact ⟨rfl,rfl,rfl,.inr ⟨rfl,rfl,bad (by omega)⟩⟩
  · by_cases h2:1000000 < A
    · refine Ans.lpG rfl rfl (Z2R ..) ?_
      unfold Z4D
      have fx:=ai ll (ai hv.ixs1 l1)
      refine Ans.go ?_
      clear fx
      (have fx:=ai o1 hgb; refine Ans.rt0 ?_; clear fx)
      exact ⟨rfl,rfl,rfl,.inr ⟨rfl,rfl,bad (by omega)⟩⟩
    · refine Ans.lpG rfl rfl (Z2R ..) ?_
      unfold Z4D
      have fx:=ai ll (ai hv.ixs1 l1)
      refine Ans.go ?_
      clear fx
      (have fx:=ai o1 hgb; refine Ans.nx0 ?_; clear fx)
      refine (ih (i + 1) (by omega)).mono ?_
      rintro q ⟨q1,q2,q3,q4⟩
      refine ⟨q1,q2,q3,q4.imp (fun ⟨a,b,d⟩=>⟨a,b,fun j j1 j2=>?_⟩) id⟩
      by_cases e:j = i
      · rw [e,hA]; omega
      · exact d j (by omega) j2
theorem Zb5 {V:List Int} {n t:Nat} (hV:V.length = 7 * n) (ht:t < n):(Z2g V t).length = 3:=by
 rw [Z2g,List.length_take,List.length_drop]; omega
theorem Zi2 {V:List Int} {n t k:Nat} (hV:V.length = 7 * n) (ht:t < n) (hk:k < 3):(Z2g V t).getD k 0 = V.getD (7 * t + 4 + k) 0:=by
 simp only [Z2g,List.getD_eq_getElem?_getD,List.getElem?_take_of_lt hk,List.getElem?_drop]
theorem adQ_in (v:Value) (nv n:Nat) (V:List Int) (gb t c:Nat) (h:FH) (df:List Nat) (hn:n <= 60) (hnv:nv = 7 * n) (ht:t < n) (hv:SlI h c v 1 nv V) (hgb:gb < 256 * c):∀ (r k m:Nat),k + r = 3 -> m <= k →
 Ans (G (ZbD none) [v,ptrTo gb,.bool false,.int .i64 t,.int .i64 m,.int .i64 k] h c df) fun q=>q = ⟨.exit 4,[v,ptrTo gb,.bool false,.int .i64 t,.int .i64 (m + nzC ((Z2g V t).drop k):Nat),.int .i64 3],h,c,df⟩:=by
 intro r
 have o1:=hv.okV
 have hV:V.length = 7 * n:=by have:=hv.1; omega
 have ql:=Zb5 hV ht
 induction r with
 | zero =>
  intro k m hk hm
  obtain rfl:k = 3:=by omega
  rw [List.drop_of_length_le (by omega),nzC,Nat.add_zero]
  refine Ans.lpG rfl rfl (Z5j ..) ?_
  unfold Z6k
  have fx:=True.intro
  refine Ans.go ?_
  clear fx
  (have fx:=ai o1 hgb; refine Ans.ex0 ?_; clear fx)
  rfl
 | succ r ih =>
  intro k m hk hm
  have hk3:k < 3:=by omega
  have l1:=hv.rdi (7 * (t:Int) + 4 + k) (by omega) (by omega)
  rw [gi,show (7 * (t:Int) + 4 + k).toNat = 7 * t + 4 + k by omega] at l1
  have hd:=Zg1 ql hk3
  rw [Zi2 hV ht hk3] at hd
  rw [hd]
  have hk3':(k:Int) < 3:=by omega
  have z1:(7 * (t:Int) + 4 + k).toNat = 7 * t + 4 + k:=by omega
  obtain ⟨A,hA⟩:∃ A,V.getD (7 * t + 4 + k) 0 = A:=⟨_,rfl⟩
  rw [hA] at l1 ⊢
  by_cases e:A = 0
  · rw [if_pos e,Nat.zero_add]
    refine Ans.lpG rfl rfl (Z5j ..) ?_
    unfold Z6k
    have fx:=ai hv.ixs1 (ai z1 l1)
    refine Ans.go ?_
    clear fx
    (have fx:=ai o1 hgb; refine Ans.nx0 ?_; clear fx)
    exact ih (k + 1) m (by omega) (by omega)
  · rw [if_neg e,← Nat.add_assoc]
    refine Ans.lpG rfl rfl (Z5j ..) ?_
    unfold Z6k
    have fx:=ai hv.ixs1 (ai z1 l1)
    refine Ans.go ?_
    clear fx
    (have fx:=ai o1 hgb; refine Ans.nx0 ?_; clear fx)
    exact ih (k + 1) (m + 1) (by omega) (by omega)
theorem Zp5 (s v:Value) (nv n:Nat) (Gl V:List Int) (gb c:Nat) (h:FH) (df:List Nat) (hn:n <= 60) (hnv:nv = 7 * n) (hv:SlI h c v 1 nv V) (hs:SlI h c s 20 n Gl) (hg:Z0a h gb [s]) (hgb:gb < 256 * c):∀ (r t:Nat),t + r = n →
 Ans (G (ZbE none) [v,ptrTo gb,.bool false,.int .i64 t] h c df) fun q=>q.h = h /\ q.c = c /\ q.df = df ∧
  ((q.e = .exit 2 /\ q.vs = [v,ptrTo gb,.bool false,.int .i64 n] /\ ∀ u,t <= u -> u < n -> Zjb (Z2g V u) = true) ∨ (q.e = .ret /\ q.v 2 = .bool false /\ ∃ u,u < n /\ Zjb (Z2g V u) = false)):=by
 intro r
 have o1:=hv.okV
 have ll:=hs.len
 have lg:ld1 h (.pointer (some ⟨gb,0,none⟩)) = some s:=by rw [Z01 hg]; rfl
 have hV:V.length = 7 * n:=by have:=hv.1; omega
 induction r with
 | zero =>
  intro t ht
  obtain rfl:t = n:=by omega
  refine Ans.lpG rfl rfl (Z5k ..) ?_
  unfold Z6l
  have fx:=ai lg ll
  refine Ans.go ?_
  clear fx
  (have fx:=ai o1 hgb; refine Ans.ex0 ?_; clear fx)
  exact ⟨rfl,rfl,rfl,.inl ⟨rfl,rfl,fun u h1 h2=>by omega⟩⟩
 | succ r ih =>
  intro t ht
  have htn:t < n:=by omega
  have hin:=Ans.eq (adQ_in v nv n V gb t (c + 1 + 1 + 1) h df hn hnv htn (hv.mono (by omega)) (by omega) 3 0 0 (by omega) (by omega))
  rw [List.drop_zero,Nat.zero_add] at hin
  simp only [Int.ofNat_eq_natCast,Int.cast_ofNat_Int] at hin
  have hq:Zjb (Z2g V t) = decide (nzC (Z2g V t) <= 1):=rfl
  have hle:=Zph (Z2g V t)
  rw [Zb5 hV htn] at hle
  obtain ⟨N,hN⟩:∃ N,nzC (Z2g V t) = N:=⟨_,rfl⟩
  rw [hN] at hin hq hle
  by_cases e:N <= 1
  · have e':¬ (1:Int) < N:=by omega
    refine Ans.lpG rfl rfl (Z5k ..) ?_
    unfold Z6l
    have fx:=ai lg (ai ll hin)
    refine Ans.go ?_
    clear fx
    (have fx:=ai o1 hgb; refine Ans.nx0 ?_; clear fx)
    refine (ih (t + 1) (by omega)).mono ?_
    rintro q ⟨q1,q2,q3,q4⟩
    refine ⟨q1,q2,q3,q4.imp (fun ⟨a,b,d⟩=>⟨a,b,fun u j1 j2=>?_⟩) id⟩
    by_cases e2:u = t
    · rw [e2,hq,decide_eq_true e]
    · exact d u (by omega) j2
  · have e':(1:Int) < N:=by omega
    refine Ans.lpG rfl rfl (Z5k ..) ?_
    unfold Z6l
    have fx:=ai lg (ai ll hin)
    refine Ans.go ?_
    clear fx
    (have fx:=ai o1 hgb; refine Ans.rt0 ?_; clear fx)
    exact ⟨rfl,rfl,rfl,.inr ⟨rfl,rfl,t,htn,by rw [hq,decide_eq_false e]⟩⟩
theorem EqN.at {c0:Nat} {h:FH} {c n:Nat} {v:Value} {D:List (List Int)} (e:EqN c0 h c n v D) {i:Nat} (hi:i < D.length) :
 ∃ x p b o,p = .pointer (some ⟨b,o,none⟩) /\ b < 256 * c /\ ixS 1 v (.int .i64 i) = some p /\ ld1 h p = some x /\ Z11 x = some (.int .i64 (7 * n:Nat)) /\ SlI h c x 1 (7 * n) (Z1C n (D.getD i [])):=by
 obtain ⟨vals,a1,a2⟩:=e
 rcases a1 with ⟨_,h0,_⟩ | ⟨h1,h2,h3,b,op,rfl,h5,h6,h7,h8⟩
 · omega
 obtain ⟨x,x1,⟨b',rfl,y2,y3,y4,y5,y6⟩,x3⟩:=a2 i _ (List.getElem?_eq_getElem hi)
 have hg:D.getD i [] = D[i]:=by simp [List.getD,List.getElem?_eq_getElem hi]
 rw [hg]
 refine ⟨.slice (some ⟨b',0,none⟩) (7 * n) (7 * n),.pointer (some ⟨b,0 + (i:Int).toNat * 1,none⟩),_,_,rfl,h6,ixS_sl _ _ _ _ _ _ _ (by omega) (by omega), ?_,rfl,⟨by rw [y5]; omega,by omega,_,_,rfl,.inr ⟨b',0,ints (Z1C n D[i]),rfl,y3,⟨false,none,y4⟩, ?_⟩⟩⟩
 · rw [Z01 (cs:=vals) ⟨false,op,h7⟩]
   simpa using x1
 · rw [List.drop_zero,List.take_of_length_le (by simp [y5])]
theorem EqN.len {c0:Nat} {h:FH} {c n:Nat} {v:Value} {D:List (List Int)} (e:EqN c0 h c n v D):Z11 v = some (.int .i64 D.length):=by
 obtain ⟨vals,a1,_⟩:=e; exact a1.len
theorem EqN.okV {c0:Nat} {h:FH} {c n:Nat} {v:Value} {D:List (List Int)} (e:EqN c0 h c n v D):OkV c v:=by
 obtain ⟨vals,a1,_⟩:=e; exact a1.okV
theorem Zp6 (v tv:Value) (nv n:Nat) (V:List Int) (D:List (List Int)) (c0 c:Nat) (h:FH) (df:List Nat) (hn:n <= 60) (hnv:nv = 7 * n) (hv:SlI h c v 1 nv V) (hW:Z0P V = true) (he:EqN c0 h c n tv D) (hl:D.length <= 1000):∀ (r i:Nat),i + r = D.length →
 Ans (G (ZbC none) [v,.bool false,tv,.int .i64 i] h c df) fun q=>q.h = h /\ q.c = c /\ q.df = df ∧
  ((q.e = .exit 6 /\ ∀ j,i <= j -> j < D.length -> Zc7 (Z1C n (D.getD j [])) V = 0) ∨ (q.e = .ret /\ q.v 1 = .bool false /\ ∃ j,j < D.length /\ Zc7 (Z1C n (D.getD j [])) V ≠ 0)):=by
 intro r
 have o1:=hv.okV
 have o2:=he.okV
 have ll:=he.len
 induction r with
 | zero =>
  intro i hi
  obtain rfl:i = D.length:=by omega
  refine Ans.lpG rfl rfl (Z5i ..) ?_
  unfold Z6j
  have fx:=ll
  refine Ans.go ?_
  clear fx
  (have fx:=ai o1 o2; refine Ans.ex0 ?_; clear fx)
  exact ⟨rfl,rfl,rfl,.inl ⟨rfl,fun j h1 h2=>by omega⟩⟩
 | succ r ih =>
  intro i hi
  obtain ⟨x,p,b,o,rfl,hb,x1,x2,x3,x4⟩:=he.at (i:=i) (by omega)
  have hbd:=Zfr n (D.getD i [])
  have cd:=fun c' (hc:c <= c')=>Z04 (dot_sp x v (7 * n) (Z1C n (D.getD i [])) V h c' [] (by omega) (x4.mono hc) (by rw [← hnv]; exact hv.mono hc) hbd (fun k=>Z4h hW k))
  have hi':(i:Int) < D.length:=by omega
  obtain ⟨d,hd⟩:∃ d,Zc7 (Z1C n (D.getD i [])) V = d:=⟨_,rfl⟩
  rw [hd] at cd
  by_cases h0:d = 0
  · refine Ans.lpG rfl rfl (Z5i ..) ?_
    unfold Z6j
    have fx:=ai ll (ai x1 (ai x2 cd))
    refine Ans.go ?_
    clear fx
    (have fx:=ai o1 o2; refine Ans.nx0 ?_; clear fx)
    refine (ih (i + 1) (by omega)).mono ?_
    rintro q ⟨q1,q2,q3,q4⟩
    refine ⟨q1,q2,q3,q4.imp (fun ⟨a,d'⟩=>⟨a,fun j j1 j2=>?_⟩) id⟩
    by_cases e:j = i
    · rw [e,hd,h0]
    · exact d' j (by omega) j2
  · refine Ans.lpG rfl rfl (Z5i ..) ?_
    unfold Z6j
    have fx:=ai ll (ai x1 (ai x2 cd))
    refine Ans.go ?_
    clear fx
    (have fx:=ai o1 o2; refine Ans.rt0 ?_; clear fx)
    exact ⟨rfl,rfl,rfl,.inr ⟨rfl,rfl,i,by omega,by rw [hd]; exact h0⟩⟩
set_option maxHeartbeats 2000000 in
theorem adm_sp (s v:Value) (n nv:Nat) (Gl V:List Int) (h:FH) (c:Nat) (df:List Nat) (hs:SlI h c s 20 n Gl) (hv:SlI h c v 1 nv V) (hnv:nv <= 1000000) (hr0:Z4a Gl n = 0) :
 G (.fn 61) [.agg #[s],v] h c df = some ⟨.ret,[.bool (Z2Y Gl n V)],h,c,[]⟩:=by
 obtain ⟨hn,hok⟩:=Z1F hr0
 have hG:=hs.1
 refine Z0m (fun r e=>f61_go e) (by simp) ?_
 unfold ZqI
 rw [Z4c hs.flat,Z43,Nat.add_zero]
 simp only [cond_true]
 have hvl:V.length = nv:=hv.1.trans (Nat.mul_one _)
 obtain ⟨H,hH⟩:∃ H,newB h (256 * c) [s] = H:=⟨_,rfl⟩
 have sH:Z0u c h H:=by rw [← hH]; simp (disch:=omega)
 have hg:Z0a H (256 * c) [s]:=by rw [← hH]; exact Z0a.newB_same _ _ _
 have l1:ld1 H (.pointer (some ⟨256 * c,0,none⟩)) = some s:=by rw [Z01 hg]; rfl
 have ll:=hs.len
 have lv:=hv.len
 have fls:¬ (V.length = 7 * n /\ Z0P V = true /\ (∀ t,t < n -> Zjb (Z2g V t) = true) /\ ((Z1s Gl n).all fun m=>eqM V m) = true) -> Z2Y Gl n V = false:=fun h=>by
  cases e:Z2Y Gl n V with
  | false=>rfl
  | true=>exact absurd (Z2X.1 e) h
 by_cases e1:nv = 7 * n
 case neg =>
  rw [fls (fun q=>e1 (by omega))]
  have e1':¬ (nv:Int) = 7 * (n:Int):=by omega
  have fx:=ai hH (ai l1 (ai ll lv))
  refine Ans.go ?_
  clear fx
  (have fx:=sH; exact Ans.pu)
 have e1':(nv:Int) = 7 * (n:Int):=by omega
 obtain ⟨⟨re,rv,rh,rc,rd⟩,w1,r1,r2,r3,r4⟩:=Zp4 v nv V (256 * c) (c + 1 + 1 + 1) H [] hnv ((hv.same sH).mono (by omega)) (by omega) nv 0 (by omega)
 simp only [Int.ofNat_eq_natCast,Int.cast_ofNat_Int] at w1
 simp only at r1 r2 r3 r4
 subst r1 r2 r3
 rcases r4 with ⟨rfl,rfl,r5⟩ | ⟨rfl,r5,j,j1,j2⟩
 case inr =>
  rw [fls (fun q=>j2 (by have:=Z4h q.2.1 j; rwa [Z3Z] at this))]
  have fx:=ai hH (ai l1 (ai ll (ai lv w1)))
  refine Ans.go ?_
  clear fx
  rw [r5]
  (have fx:=sH; exact Ans.pu)
 have hW:Z0P V = true:=Zeb.2 fun j hj=>by rw [Z3Z]; exact r5 j (by omega) (by omega)
 obtain ⟨⟨re,rv,rh',rc,rd⟩,w2,q1,q2,q3,q4⟩:=Zp5 s v nv n Gl V (256 * c) (c + 1 + 1 + 1 + 1) rh [] hn e1 ((hv.same sH).mono (by omega)) ((hs.same sH).mono (by omega)) hg (by omega) n 0 (by omega)
 simp only [Int.ofNat_eq_natCast,Int.cast_ofNat_Int] at w2
 simp only at q1 q2 q3 q4
 subst q1 q2 q3
 rcases q4 with ⟨rfl,rfl,q5⟩ | ⟨rfl,q5,u,u1,u2⟩
 case inr =>
  rw [fls (fun q=>by have:=q.2.2.1 u u1; rw [u2] at this; cases this)]
  have fx:=ai hH (ai l1 (ai ll (ai lv (ai w1 w2))))
  refine Ans.go ?_
  clear fx
  rw [q5]
  (have fx:=sH; exact Ans.pu)
 have lN:=Z0C hg
 obtain ⟨⟨re,rv,H2,k2,rd⟩,w3,t1,t2,t3,t4,t5⟩:=ZjB s n Gl rh' (c + 1 + 1 + 1 + 1 + 1) [] ((hs.same sH).mono (by omega))
 simp only at t1 t2 t3 t4 t5
 subst t1 t2
 rcases t5 with ⟨e,_⟩ | ⟨_,tv,rfl,t6⟩
 · exact absurd hr0 e
 have c3:=Z04 w3
 have s2:Z0u c h H2:=sH.trans (t4.mono (by omega))
 have hml:=Z75 Gl n
 obtain ⟨⟨re,rv,rh,rc,rd⟩,w4,z1,z2,z3,z4⟩:=Zp6 v tv nv n V (Z1s Gl n) (c + 1 + 1 + 1 + 1 + 1) (k2 + 1) H2 [] hn e1 ((hv.same s2).mono (by omega)) hW (t6.mono (by omega)) (by omega) (Z1s Gl n).length 0 (by omega)
 simp only [Int.ofNat_eq_natCast,Int.cast_ofNat_Int] at w4
 simp only at z1 z2 z3 z4
 subst z1 z2 z3
 have hVl:V.length = 7 * n:=by omega
 rcases z4 with ⟨rfl,z5⟩ | ⟨rfl,z5,j,j1,j2⟩
 · have hA:Z2Y Gl n V = true:=Z2X.2 ⟨hVl,hW,fun t ht=>q5 t (by omega) ht,List.all_eq_true.2 fun m hm=>by
    obtain ⟨j,hj,rfl⟩:=List.getElem_of_mem hm
    have:=z5 j (by omega) hj
    have hg':(Z1s Gl n).getD j [] = (Z1s Gl n)[j]:=by simp [List.getD,List.getElem?_eq_getElem hj]
    rw [hg'] at this
    exact (Zpz hok hG hVl hm).1 this⟩
   rw [hA]
   have fx:=ai hH (ai l1 (ai ll (ai lv (ai w1 (ai w2 (ai lN (ai c3 w4)))))))
   refine Ans.go ?_
   clear fx
   (have fx:=s2; exact Ans.pu)
 · have hA:Z2Y Gl n V = false:=fls (fun q=>j2 (by
    have hg':(Z1s Gl n).getD j [] = (Z1s Gl n)[j]:=by simp [List.getD,List.getElem?_eq_getElem j1]
    rw [hg']
    exact (Zpz hok hG hVl (List.getElem_mem _)).2 (List.all_eq_true.1 q.2.2.2 _ (List.getElem_mem _))))
   rw [hA]
   have fx:=ai hH (ai l1 (ai ll (ai lv (ai w1 (ai w2 (ai lN (ai c3 w4)))))))
   refine Ans.go ?_
   clear fx
   rw [z5]
   (have fx:=s2; exact Ans.pu)
theorem Zca (s v:Value) (n nv:Nat) (Gl V:List Int) (h:FH) (c:Nat) (df:List Nat) (hs:SlI h c s 20 n Gl) (hv:SlI h c v 1 nv V) (hnv:nv <= 1000000) :
 G (.fn 28) [.agg #[s],v] h c df = some ⟨.ret,[.int .i64 (Z7O Gl n (Z2Y Gl n V))],h,c,[]⟩:=by
 refine Z0m (fun r e=>f28_go e) (by simp) ?_
 unfold ZqW
 rw [Z4c hs.flat,Z43,Nat.add_zero]
 simp only [cond_true]
 obtain ⟨H,hH⟩:∃ H,newB h (256 * c) [s] = H:=⟨_,rfl⟩
 have sH:Z0u c h H:=by rw [← hH]; simp (disch:=omega)
 have hg:Z0a H (256 * c) [s]:=by rw [← hH]; exact Z0a.newB_same _ _ _
 have l0:=Z0C hg
 have cr:=fun c' (hc:c <= c')=>Z04 (Zcy s n Gl H c' [] ((hs.same sH).mono hc))
 unfold Z7O
 by_cases h0:Z4a Gl n = 0
 · rw [if_pos h0]
   have ca:=fun c' (hc:c <= c')=>Z04 (adm_sp s v n nv Gl V H c' [] ((hs.same sH).mono hc) ((hv.same sH).mono hc) hnv h0)
   rw [h0] at cr
   cases hA:Z2Y Gl n V with
   | true =>
    rw [hA] at ca
    rw [if_pos rfl]
    have fx:=ai hH (ai l0 (ai cr ca))
    refine Ans.go ?_
    clear fx
    (have fx:=sH; exact Ans.pu)
   | false =>
    rw [hA] at ca
    rw [if_neg (by simp)]
    have fx:=ai hH (ai l0 (ai cr ca))
    refine Ans.go ?_
    clear fx
    (have fx:=sH; exact Ans.pu)
 · rw [if_neg h0]
   obtain ⟨E,hE⟩:∃ E,Z4a Gl n = E:=⟨_,rfl⟩
   rw [hE] at cr h0 ⊢
   have fx:=ai hH (ai l0 cr)
   refine Ans.go ?_
   clear fx
   (have fx:=sH; exact Ans.pu)
end Go.Proofs.Ytcnndelmnobigaa

namespace Go.Ab
open Go
theorem Zdy {L:List Int} {m:Nat} (hd:Z1M L m):∀ {k i:Nat},i < m -> i < k -> L.getD (Z7c L k i) 0 = Z7c L k i
 | 0,i,_,h=>by omega
 | k + 1,i,hi,h=>by
  rw [Z7c]
  split
  · assumption
  · have:=hd.2 i hi
    exact Zdy hd (by omega) (by omega)
theorem Z9W {L:List Int} {m i:Nat} (hd:Z1M L m) (hi:i < m):L.getD (Z06 L i) 0 = Z06 L i:=Zdy hd hi (by omega)
theorem Z1S {L:List Int} {m i:Nat} (hd:Z1M L m) (hi:i < m):Z06 L (Z06 L i) = Z06 L i:=Z1u (Z9W hd hi)
theorem Z2l {L:List Int} {m i j:Nat} (hd:Z1M L m) (hi:i < m) (hj:j < m):∀ {k:Nat},k < m →
 Z06 (Z1P L i j) k = if Z06 L k = max (Z06 L i) (Z06 L j) then min (Z06 L i) (Z06 L j) else Z06 L k:=by
 have h1:=Z0G hd hi
 have h2:=Z0G hd hj
 have f1:=Z9W hd hi
 have f2:=Z9W hd hj
 have hd':=Z13 hd hi hj
 have hl:=hd.1
 obtain ⟨M,hM⟩:∃ M,max (Z06 L i) (Z06 L j) = M:=⟨_,rfl⟩
 obtain ⟨N,hN⟩:∃ N,min (Z06 L i) (Z06 L j) = N:=⟨_,rfl⟩
 have fM:L.getD M 0 = M:=by
  rcases Nat.le_total (Z06 L i) (Z06 L j) with h | h
  · rw [show M = Z06 L j by omega]; exact f2
  · rw [show M = Z06 L i by omega]; exact f1
 have fN:L.getD N 0 = N:=by
  rcases Nat.le_total (Z06 L i) (Z06 L j) with h | h
  · rw [show N = Z06 L i by omega]; exact f1
  · rw [show N = Z06 L j by omega]; exact f2
 have hg:∀ k,(Z1P L i j).getD k 0 = if M = k /\ M < L.length then (N:Int) else L.getD k 0:=fun k=>by
  unfold Z1P
  rw [Z1j,hM,hN]
 rw [hM,hN]
 have key:∀ (b k:Nat),k < b -> k < m -> Z06 (Z1P L i j) k = if Z06 L k = M then N else Z06 L k:=by
  intro b
  induction b with
  | zero=>intro k h; omega
  | succ b ih =>
   intro k hb hk
   by_cases e:k = M
   · subst e
     rw [Z1u fM,if_pos rfl]
     have e2:=hg k
     rw [if_pos ⟨rfl,by omega⟩] at e2
     by_cases e3:N = k
     · rw [Z1u (by rw [e2,e3])]; exact e3.symm
     · rw [Z68 hd' (by omega) (by omega),e2,Int.toNat_natCast,ih N (by omega) (by omega),Z1u fN,if_neg e3]
   · have e2:=hg k
     rw [if_neg (fun q=>e q.1.symm)] at e2
     by_cases e3:L.getD k 0 = k
     · rw [Z1u (e2.trans e3),Z1u e3,if_neg e]
     · have d:=hd.2 k hk
       rw [Z68 hd' hk (by rw [e2]; exact e3),e2,ih _ (by omega) (by omega),← Z68 hd hk e3]
 intro k hk
 exact key (k + 1) k (by omega) hk
theorem ZdG {L:List Int} {m i j:Nat} (hd:Z1M L m) (hi:i < m) (hj:j < m):Z06 (Z1P L i j) i = Z06 (Z1P L i j) j:=by
 rw [Z2l hd hi hj hi,Z2l hd hi hj hj]
 split <;> split <;> omega
theorem ZdH {L:List Int} {m i j a b:Nat} (hd:Z1M L m) (hi:i < m) (hj:j < m) (ha:a < m) (hb:b < m) (e:Z06 L a = Z06 L b):Z06 (Z1P L i j) a = Z06 (Z1P L i j) b:=by
 rw [Z2l hd hi hj ha,Z2l hd hi hj hb,e]
end Go.Ab

namespace Go.Ab
open Go
def zs (Q:List Nat):List Int:=Q.map fun k:Nat=>(k:Int)
def Zly:List Bool -> Nat
 | []=>0
 | b :: l=>(if b = true then 1 else 0) + Zly l
theorem Zl9:∀ l:List Bool,Zly l <= l.length
 | []=>Nat.le_refl _
 | b :: l=>by
  have:=Zl9 l
  rw [Zly,List.length_cons]; split <;> omega
theorem ZhF:∀ {l:List Bool} {j:Nat},j < l.length -> l.getD j false = false -> Zly (l.set j true) = Zly l + 1
 | [],j,h,_=>by simp at h
 | b :: l,0,_,e=>by
  obtain rfl:b = false:=e
  show (if (true:Bool) = true then 1 else 0) + Zly l = _
  rw [Zly,if_pos rfl,if_neg (by simp)]; omega
 | b :: l,j + 1,h,e=>by
  show (if b = true then 1 else 0) + Zly (l.set j true) = (if b = true then 1 else 0) + Zly l + 1
  rw [ZhF (l:=l) (by simpa using h) e]; omega
theorem Zkc (l:List Bool) (i j:Nat) (x:Bool):(l.set i x).getD j false = if i = j /\ i < l.length then x else l.getD j false:=by
 simp only [List.getD_eq_getElem?_getD,List.getElem?_set]
 by_cases h:i = j
 · subst h
   by_cases h2:i < l.length
   · simp [h2]
   · simp [h2]
 · simp [h]
def ps (w:Nat):Nat:=w / 4 * 7 + w % 4
structure FSt where
 X:List Int
 K:List Bool
 Q:List Nat
 m:Int
def fU (Gl:List Int) (t f:Nat):Nat:=(Z0B (Z02 Gl t f)).toNat
def fJ (Gl:List Int) (t f i:Nat):Nat:=((Z0c (Z02 Gl t f)).getD i 0).toNat
def fV (Gl:List Int) (t f i:Nat):Nat:=4 * fU Gl t f + fJ Gl t f i
def fW (Gl X:List Int) (t f i:Nat):Int:=Z7P X t f i - gi X (7 * (fU Gl t f:Int) + 4 + ty (fJ Gl t f i) (fJ Gl t f f))
structure FOk (n:Nat) (s:FSt) (B:Int):Prop where
 xl:s.X.length = 7 * n
 kl:s.K.length = 4 * n
 nd:s.Q.Nodup
 qk:∀ w ∈ s.Q,w < 4 * n /\ s.K.getD w false = true
 qc:s.Q.length <= Zly s.K
 xb:∀ j:Nat,-B <= s.X.getD j 0 /\ s.X.getD j 0 <= B
 mb:-B <= s.m /\ s.m <= 0
 qd:∀ t k:Nat,k < 3 -> 0 <= s.X.getD (7 * t + 4 + k) 0 /\ s.X.getD (7 * t + 4 + k) 0 <= 1000000
theorem FOk.ql {n:Nat} {s:FSt} {B:Int} (h:FOk n s B):s.Q.length <= 4 * n:=by
 have:=Zl9 s.K
 have:=h.qc
 have:=h.kl
 omega
theorem FOk.mono {n:Nat} {s:FSt} {B B':Int} (h:FOk n s B) (hb:B <= B'):FOk n s B' :=
 ⟨h.xl,h.kl,h.nd,h.qk,h.qc,fun j=>by have:=h.xb j; omega,by have:=h.mb; omega,h.qd⟩
structure FGl (Gl:List Int) (n t f i:Nat):Prop where
 u:fU Gl t f < n
 uz:Z0B (Z02 Gl t f) = (fU Gl t f:Nat)
 j:fJ Gl t f i < 4
 jz:(Z0c (Z02 Gl t f)).getD i 0 = (fJ Gl t f i:Nat)
 h:fJ Gl t f f < 4
 hz:(Z0c (Z02 Gl t f)).getD f 0 = (fJ Gl t f f:Nat)
 ne:fJ Gl t f i ≠ fJ Gl t f f
theorem FGl.of {Gl:List Int} {n t f i:Nat} (hok:Z0t Gl n = true) (hG:Gl.length = n * 20) (ht:t < n) (hf:f < 4) (hi:i < 4) (hne:i ≠ f) (hg:¬ Z0B (Z02 Gl t f) < 0):FGl Gl n t f i:=by
 obtain ⟨h1,h2,h3,h4⟩:=Z2I (Z4o hok ht hf) hg
 have hp:=ZjZ (Z1o (Z0i hG ht hf)) h2
 have r1:=Z0U hp hi
 have r2:=Z0U hp hf
 have r3:=Zm4 hp hi hf hne
 exact ⟨by unfold fU; omega,by unfold fU; omega,by unfold fJ; omega,by unfold fJ; omega,by unfold fJ; omega,by unfold fJ; omega,by unfold fJ; omega⟩
theorem ZnK {Gl:List Int} {n t f i:Nat} {s:FSt} {B:Int} (h:FOk n s B) (ht:t < n) (hf:f < 4) (hi:i < 4) (hne:i ≠ f) (g:FGl Gl n t f i):-(B + 1000000) <= fW Gl s.X t f i /\ fW Gl s.X t f i <= B + 1000000:=by
 unfold fW Z7P
 have r1:=Z2C (i:=(i:Int)) (f:=(f:Int)) (by omega) (by omega) (by omega) (by omega) (by omega)
 have r2:=Z2C (i:=(fJ Gl t f i:Int)) (f:=(fJ Gl t f f:Int)) (by omega) (by have:=g.j; omega) (by omega) (by have:=g.h; omega) (by have:=g.ne; omega)
 have q1:=h.qd t (ty i f).toNat (by omega)
 have q2:=h.qd (fU Gl t f) (ty (fJ Gl t f i) (fJ Gl t f f)).toNat (by omega)
 have q3:=h.xb (7 * t + i)
 unfold gi
 rw [show (7 * (t:Int) + i).toNat = 7 * t + i by omega,show (7 * (t:Int) + 4 + ty i f).toNat = 7 * t + 4 + (ty i f).toNat by omega,
  show (7 * (fU Gl t f:Int) + 4 + ty (fJ Gl t f i) (fJ Gl t f f)).toNat = 7 * fU Gl t f + 4 + (ty (fJ Gl t f i) (fJ Gl t f f)).toNat by omega]
 omega
theorem FOk.push {Gl:List Int} {n t f i:Nat} {s:FSt} {B:Int} (h:FOk n s B) (hB:0 <= B) (ht:t < n) (hf:f < 4) (hi:i < 4) (hne:i ≠ f) (g:FGl Gl n t f i) (hk:s.K.getD (fV Gl t f i) false = false) :
 FOk n ⟨s.X.set (7 * fU Gl t f + fJ Gl t f i) (fW Gl s.X t f i),s.K.set (fV Gl t f i) true,s.Q ++ [fV Gl t f i],min s.m (fW Gl s.X t f i)⟩ (B + 1000000):=by
 have hv:fV Gl t f i < 4 * n:=by have:=g.u; have:=g.j; unfold fV; omega
 have hw:=ZnK h ht hf hi hne g
 have hj:=g.j
 refine ⟨by simp [h.xl],by simp [h.kl], ?_,fun w hw=>?_, ?_,fun j=>?_, ?_,fun u k hk=>?_⟩
 · rw [List.nodup_append]
   refine ⟨h.nd,by simp,fun a ha b hb=>?_⟩
   rw [List.mem_singleton] at hb
   subst hb
   rintro rfl
   have:=(h.qk _ ha).2
   rw [hk] at this; cases this
 · rw [Zkc]
   rcases List.mem_append.1 hw with h1 | h1
   · refine ⟨(h.qk w h1).1, ?_⟩
     split
     · rfl
     · exact (h.qk w h1).2
   · rw [List.mem_singleton] at h1
     subst h1
     exact ⟨hv,by rw [if_pos ⟨rfl,by rw [h.kl]; exact hv⟩]⟩
 · have:=h.qc
   rw [ZhF (by rw [h.kl]; exact hv) hk]; simp; omega
 · rw [Z1j]
   have:=h.xb j
   split <;> omega
 · have:=h.mb
   simp only
   omega
 · rw [Z1j,if_neg (by omega)]
   exact h.qd u k hk
end Go.Ab

namespace Go.Ab
open Go
def Z25 (C:List Int) (m:Nat):List Int:=(List.range m).map fun k=>((Z06 C k:Nat):Int)
theorem Z2m (C:List Int) (m:Nat):(Z25 C m).length = m:=by simp [Z25]
theorem Z5T (C:List Int) {m k:Nat} (h:k < m):(Z25 C m).getD k 0 = (Z06 C k:Nat):=by simp [Z25,List.getD_eq_getElem?_getD,h]
theorem Z1G {A B:List Int} {m:Nat} (hA:A.length = m) (hB:B.length = m) (h:∀ k,k < m -> A.getD k 0 = B.getD k 0):A = B:=by
 refine List.ext_getElem (by omega) fun j a b=>?_
 have:=h j (by omega)
 simpa [List.getD_eq_getElem?_getD,List.getElem?_eq_getElem a,List.getElem?_eq_getElem b] using this
theorem Zbb (m:Nat):Z25 (Z0n m) m = Z0n m:=by
 refine Z1G (m:=m) (Z2m _ _) (by simp [Z0n]) fun k hk=>?_
 rw [Z5T _ hk,Z3T hk,Z1u (Z3T hk)]
def mgK (x y:Int):Nat -> Nat -> List Int -> List Int
 | 0,_,L=>L
 | r + 1,i,L=>mgK x y r (i + 1) (if L.getD i 0 = y then L.set i x else L)
theorem Zba (x y:Int):∀ (r i:Nat) (L:List Int),(mgK x y r i L).length = L.length
 | 0,_,_=>rfl
 | r + 1,i,L=>by rw [mgK,Zba]; split <;> simp
theorem Zg3 (x y:Int) {m:Nat}:∀ (r i:Nat) (L:List Int),i + r = m -> L.length = m -> ∀ j,j < m -> (mgK x y r i L).getD j 0 = if i <= j /\ L.getD j 0 = y then x else L.getD j 0
 | 0,i,L,h,hL,j,hj=>by rw [if_neg (by omega)]; rfl
 | r + 1,i,L,h,hL,j,hj=>by
  have key:∀ j,(if L.getD i 0 = y then L.set i x else L).getD j 0 = if j = i /\ L.getD i 0 = y then x else L.getD j 0:=fun j=>by
   by_cases e:L.getD i 0 = y
   · rw [if_pos e,Z1j]
     by_cases e2:i = j
     · rw [if_pos ⟨e2,by omega⟩,if_pos ⟨e2.symm,e⟩]
     · rw [if_neg (fun q=>e2 q.1),if_neg (fun q=>e2 q.1.symm)]
   · rw [if_neg e,if_neg (fun q=>e q.2)]
  rw [mgK,Zg3 x y r (i + 1) _ (by omega) (by split <;> simp [hL]) j hj,key]
  by_cases e:j = i
  · subst e
    rw [if_neg (by omega)]
    by_cases e2:L.getD j 0 = y
    · rw [if_pos ⟨rfl,e2⟩,if_pos ⟨Nat.le_refl _,e2⟩]
    · rw [if_neg (fun q=>e2 q.2),if_neg (fun q=>e2 q.2)]
  · rw [if_neg (fun q:j = i /\ _=>e q.1)]
    by_cases e2:L.getD j 0 = y
    · by_cases e3:i <= j
      · rw [if_pos ⟨by omega,e2⟩,if_pos ⟨e3,e2⟩]
      · rw [if_neg (by omega),if_neg (by omega)]
    · rw [if_neg (fun q=>e2 q.2),if_neg (fun q=>e2 q.2)]
theorem Zq8 {C:List Int} {m a b:Nat} (hd:Z1M C m) (ha:a < m) (hb:b < m) :
 mgK ((min (Z06 C a) (Z06 C b):Nat):Int) ((max (Z06 C a) (Z06 C b):Nat):Int) m 0 (Z25 C m) = Z25 (Z1P C a b) m:=by
 refine Z1G (m:=m) (by rw [Zba,Z2m]) (Z2m _ _) fun k hk=>?_
 rw [Zg3 _ _ m 0 _ (by omega) (Z2m _ _) k hk,Z5T _ hk,Z5T _ hk,Z2l hd ha hb hk]
 by_cases e:Z06 C k = max (Z06 C a) (Z06 C b)
 · rw [if_pos e,if_pos ⟨by omega,by omega⟩]
 · rw [if_neg e,if_neg (by omega)]
def Z0V (C:List Int) (i:Nat):Nat:=(Z0s C i).length
theorem Z5X (C:List Int) (i:Nat):Z0V C (i + 1) = Z0V C i + if Z06 C i = i then 1 else 0:=by
 unfold Z0V
 rw [Z1U,List.length_append]
 split <;> rfl
theorem ZdM (C:List Int) {i:Nat}:∀ {j:Nat},i <= j -> Z0V C i <= Z0V C j
 | 0,h=>by
  obtain rfl:i = 0:=by omega
  exact Nat.le_refl _
 | j + 1,h=>by
  by_cases e:i = j + 1
  · rw [e]; exact Nat.le_refl _
  · rw [Z5X]
    have:=ZdM C (i:=i) (j:=j) (by omega)
    omega
theorem Z83 (C:List Int) (i:Nat):Z0V C i <= i:=Z1Q C i
def Zea (C:List Int) (m:Nat):List Int:=(List.range m).map fun k=>((Z0V C (Z06 C k):Nat):Int)
theorem Z1q (C:List Int) (m:Nat):(Zea C m).length = m:=by simp [Zea]
theorem Z4q (C:List Int) {m k:Nat} (h:k < m):(Zea C m).getD k 0 = (Z0V C (Z06 C k):Nat):=by simp [Zea,List.getD_eq_getElem?_getD,h]
def Z7g (C:List Int) (m i:Nat):List Int:=(List.range m).map fun k=>if k < i then ((Z0V C (Z06 C k):Nat):Int) else 0
theorem Z1p (C:List Int) (m i:Nat):(Z7g C m i).length = m:=by simp [Z7g]
theorem Z4p (C:List Int) {m k:Nat} (i:Nat) (h:k < m):(Z7g C m i).getD k 0 = if k < i then ((Z0V C (Z06 C k):Nat):Int) else 0:=by simp [Z7g,List.getD_eq_getElem?_getD,h]
theorem ZjO (C:List Int) (m:Nat):Z7g C m 0 = List.replicate m 0:=by
 refine Z1G (m:=m) (Z1p _ _ _) (by simp) fun k hk=>?_
 rw [Z4p C 0 hk,if_neg (by omega)]
 simp [List.getD_eq_getElem?_getD,List.getElem?_replicate,hk]
theorem Zm3 (C:List Int) (m:Nat):Z7g C m m = Zea C m:=by
 refine Z1G (m:=m) (Z1p _ _ _) (Z1q _ _) fun k hk=>?_
 rw [Z4p C m hk,if_pos hk,Z4q C hk]
theorem Zm2 (C:List Int) {m i:Nat} (hi:i < m):∀ (x:Int),((Z7g C m i).set i x).set i ((Z0V C (Z06 C i):Nat):Int) = Z7g C m (i + 1):=fun x=>by
 refine Z1G (m:=m) (by simp [Z1p]) (Z1p _ _ _) fun k hk=>?_
 rw [Z1j,Z1j,Z4p C _ hk,Z4p C _ hk,List.length_set,Z1p]
 by_cases e:i = k
 · subst e
   rw [if_pos ⟨rfl,hi⟩,if_pos (by omega)]
 · rw [if_neg (fun q=>e q.1),if_neg (fun q=>e q.1)]
   by_cases h:k < i
   · rw [if_pos h,if_pos (by omega)]
   · rw [if_neg h,if_neg (by omega)]
theorem ZjP {C:List Int} {m i:Nat} (hd:Z1M C m) (hi:i < m):max (Z0V C i) (Z0V C (Z06 C i) + 1) = Z0V C (i + 1):=by
 have hle:=Z0G hd hi
 have hrr:=Z1S hd hi
 rw [Z5X]
 by_cases e:Z06 C i = i
 · rw [if_pos e,e]; omega
 · rw [if_neg e]
   have h1:=Z5X C (Z06 C i)
   rw [if_pos hrr] at h1
   have h2:=ZdM C (i:=Z06 C i + 1) (j:=i) (by omega)
   omega
end Go.Ab

namespace Go.Proofs.Ytcnndelmnobigaa
open Go Go.Ab Go.Proofs
theorem ZhW (h0:FH) (b m c:Nat) (df:List Nat) (hb:b < 256 * c) (hm:m <= 1000000) :
 ∀ (k i:Nat) (X:List Int),i + k = m -> X.length = m -> (∀ j,j < i -> X.getD j 0 = j) →
 Ans (G (Zbr none) [.int .i64 m,.slice (some ⟨b,0,none⟩) m m,.int .i64 i] (newB h0 b (ints X)) c df) fun r=>r = ⟨.exit 0,[.int .i64 m,.slice (some ⟨b,0,none⟩) m m,.int .i64 m],newB h0 b (ints (Z0n m)),c,df⟩:=by
 intro k
 induction k with
 | zero =>
  intro i X hi hX hf
  obtain rfl:i = m:=by omega
  have e:X = Z0n i:=Z1G (m:=i) hX (by simp [Z0n]) fun j hj=>by rw [hf j hj,Z3T hj]
  rw [e]
  refine Ans.lpG rfl rfl (Z7l ..) ?_
  unfold Z8f
  have fx:=True.intro
  refine Ans.go ?_
  clear fx
  (have fx:=hb; refine Ans.ex0 ?_; clear fx)
  rfl
 | succ k ih =>
  intro i X hi hX hf
  have hs:stN (newB h0 b (ints X)) 1 (.pointer (some ⟨b,i,none⟩)) (.int .i64 i) = some (newB h0 b (ints (X.set i i))):=by
   rw [st1_int _ _ _ _ _ _ (by simp; omega),Z0K]
  refine Ans.lpG rfl rfl (Z7l ..) ?_
  unfold Z8f
  have fx:=hs
  refine Ans.go ?_
  clear fx
  (have fx:=hb; refine Ans.nxB (B:=newB h0 b (ints (X.set i i))) ?_ ?_; exact Z2e.both (Z1t.ints _ _) (Z2e.refl _ _) hb; clear fx)
  refine ih (i + 1) (X.set i i) (by omega) (by simp [hX]) (fun j hj=>?_)
  rw [Z1j]
  by_cases e:i = j
  · rw [if_pos ⟨e,by omega⟩,e]
  · rw [if_neg (fun q=>e q.1)]; exact hf j (by omega)
theorem ZfT (m:Nat) (h:FH) (c:Nat) (df:List Nat) (hm:m <= 1000000) :
 G (.fn 78) [.int .i64 m] h c df = some ⟨.ret,[.slice (some ⟨256 * (c + 1) + 1,0,none⟩) m m],newB h (256 * (c + 1) + 1) (ints (Z0n m)),c + 1 + 1 + 1 + 1,[]⟩:=by
 refine Ans.eq (Ans.call' (fun r e=>f78_go e) ?_)
 unfold Zqv
 have mk:=Z5R 1 8 .i64 .i64 m (by omega) (by omega)
 obtain ⟨B,hB⟩:∃ B,256 * (c + 1) + 1 = B:=⟨_,rfl⟩
 rw [hB]
 have hl:=Ans.eq (ZhW h B m (c + 1 + 1 + 1) [] (by omega) hm m 0 (List.replicate m 0) (by omega) (by simp) (fun j hj=>by omega))
 simp only [Int.ofNat_eq_natCast,Int.cast_ofNat_Int] at hl
 have fx:=ai mk hl
 refine Ans.go ?_
 clear fx
 exact .done rfl
theorem Zex (h0:FH) (b m c:Nat) (x y:Int) (df:List Nat) (hb:b < 256 * c) (hm:m <= 1000000) :
 ∀ (r i:Nat) (X:List Int),i + r = m -> X.length = m →
 Ans (G (Zbq none) [.slice (some ⟨b,0,none⟩) m m,.int .i64 x,.int .i64 y,.int .i64 i] (newB h0 b (ints X)) c df) fun q=>q = ⟨.exit 0,[.slice (some ⟨b,0,none⟩) m m,.int .i64 x,.int .i64 y,.int .i64 m],newB h0 b (ints (mgK x y r i X)),c,df⟩:=by
 intro r
 induction r with
 | zero =>
  intro i X hi hX
  obtain rfl:i = m:=by omega
  refine Ans.lpG rfl rfl (Z5a ..) ?_
  unfold Z6f
  have fx:=True.intro
  refine Ans.go ?_
  clear fx
  (have fx:=hb; refine Ans.ex0 ?_; clear fx)
  rfl
 | succ r ih =>
  intro i X hi hX
  have hs:stN (newB h0 b (ints X)) 1 (.pointer (some ⟨b,i,none⟩)) (.int .i64 x) = some (newB h0 b (ints (X.set i x))):=by
   rw [st1_int _ _ _ _ _ _ (by simp; omega),Z0K]
  have l1:ld1 (newB h0 b (ints X)) (.pointer (some ⟨b,i,none⟩)) = some (.int .i64 (X.getD i 0)):=by rw [ld1_newB_same,ints_getD _ _ (by omega)]
  rw [mgK]
  obtain ⟨Y,hY⟩:∃ Y,X.getD i 0 = Y:=⟨_,rfl⟩
  rw [hY] at l1 ⊢
  by_cases e:Y = y
  · rw [if_pos e]
    refine Ans.lpG rfl rfl (Z5a ..) ?_
    unfold Z6f
    have fx:=ai l1 hs
    refine Ans.go ?_
    clear fx
    (have fx:=hb; refine Ans.nxB (B:=newB h0 b (ints (X.set i x))) ?_ ?_; exact Z2e.both (Z1t.ints _ _) (Z2e.refl _ _) hb; clear fx)
    exact ih (i + 1) _ (by omega) (by simp [hX])
  · rw [if_neg e]
    refine Ans.lpG rfl rfl (Z5a ..) ?_
    unfold Z6f
    have fx:=l1
    refine Ans.go ?_
    clear fx
    (have fx:=hb; refine Ans.nx0 ?_; clear fx)
    exact ih (i + 1) X (by omega) hX
theorem ZdD (b m:Nat) (C:List Int) (i j:Nat) (h:FH) (c:Nat) (df:List Nat) (hb:b < 256 * c) (hm:m <= 1000000) (hd:Z1M C m) (hi:i < m) (hj:j < m) (hg:h.f b = some (.cells false none (ints (Z25 C m)))) :
 G (.fn 79) [.slice (some ⟨b,0,none⟩) m m,.int .i64 i,.int .i64 j] h c df = some ⟨.ret,[.slice (some ⟨b,0,none⟩) m m],newB h b (ints (Z25 (Z1P C i j) m)),c,[]⟩:=by
 have hS:ZnV G (.slice (some ⟨b,0,none⟩) m m) (.int .i64 i) (.int .i64 j) h c = some ⟨.ret,[.slice (some ⟨b,0,none⟩) m m],newB h b (ints (Z25 (Z1P C i j) m)),c + 1 + 1 + 1 + 1 + 1,[]⟩:=by
  refine Ans.eq ?_
  have r1:=Z0G hd hi
  have r2:=Z0G hd hj
  have ll:=Z2m C m
  have ld:∀ k,k < m -> ld1 h (.pointer (some ⟨b,k,none⟩)) = some (.int .i64 (Z06 C k:Nat)):=fun k hk=>by
   rw [Z01 ⟨false,none,hg⟩,ints_getD _ _ (by omega),Z5T _ hk]
  have l1:=ld i hi
  have l2:=ld j hj
  have m1:=ZcD .i64 (Z06 C i) (Z06 C j)
  have m2:=Zg2 .i64 (Z06 C i) (Z06 C j)
  rw [show (if ((Z06 C i:Nat):Int) < (Z06 C j:Nat) then ((Z06 C j:Nat):Int) else (Z06 C i:Nat)) = ((max (Z06 C i) (Z06 C j):Nat):Int) by split <;> omega] at m1
  rw [show (if ((Z06 C j:Nat):Int) < (Z06 C i:Nat) then ((Z06 C j:Nat):Int) else (Z06 C i:Nat)) = ((min (Z06 C i) (Z06 C j):Nat):Int) by split <;> omega] at m2
  have hloop:=Ans.eq (Zex h b m (c + 1 + 1 + 1 + 1) ((min (Z06 C i) (Z06 C j):Nat):Int) ((max (Z06 C i) (Z06 C j):Nat):Int) [] (by omega) hm m 0 (Z25 C m) (by omega) ll)
  rw [Zq8 hd hi hj,ZdC hg] at hloop
  simp only [Int.ofNat_eq_natCast,Int.cast_ofNat_Int] at hloop
  clear ld
  obtain ⟨M,hM⟩:∃ M,max (Z06 C i) (Z06 C j) = M:=⟨_,rfl⟩
  obtain ⟨N,hN⟩:∃ N,min (Z06 C i) (Z06 C j) = N:=⟨_,rfl⟩
  rw [hM] at m1 hloop
  rw [hN] at m2 hloop
  unfold ZnV
  have fx:=ai l1 (ai l2 (ai m1 (ai m2 hloop)))
  refine Ans.go ?_
  clear fx
  exact .done rfl
 rw [f79_go hS,ZdL (B:=newB h b (ints (Z25 (Z1P C i j) m))) ?_ ?_ ?_]
 · exact Z1t.cons (OkV.sl hb) (Z1t.nil c)
 · exact fun _ _=>rfl
 · exact Z2e.old hb (Z1t.ints _ _) (Z2e.refl _ _)
theorem Zq6 (h0:FH) (lb ob m c:Nat) (C:List Int) (v4:Value) (i:Nat) (df:List Nat) (hm:m <= 1000000) (hd:Z1M C m) (hi:i < m) (hlb:lb < 256 * c) (hob:ob < 256 * c) (hne:lb ≠ ob) (o4:OkV c v4) (hg:h0.f lb = some (.cells false none (ints (Z25 C m)))) :
 ∀ (r k:Nat),k + r = Z06 C i →
 Ans (G (Zbo none) [.slice (some ⟨lb,0,none⟩) m m,.slice (some ⟨ob,0,none⟩) m m,v4,.int .i64 i,.int .i64 k] (newB h0 ob (ints ((Z7g C m i).set i (-1)))) c df) fun q=>q =
  if Z06 C i < i then ⟨.exit 2,[.slice (some ⟨lb,0,none⟩) m m,.slice (some ⟨ob,0,none⟩) m m,v4,.int .i64 i,.int .i64 (Z06 C i + 1:Nat)],newB h0 ob (ints (((Z7g C m i).set i (-1)).set i (Z0V C (Z06 C i):Nat))),c,df⟩
  else ⟨.exit 2,[.slice (some ⟨lb,0,none⟩) m m,.slice (some ⟨ob,0,none⟩) m m,v4,.int .i64 i,.int .i64 i],newB h0 ob (ints ((Z7g C m i).set i (-1))),c,df⟩:=by
 intro r
 have hle:=Z0G hd hi
 have hrr:=Z1S hd hi
 have pl:=Z1p C m i
 have ll:=Z2m C m
 have la:∀ X k,k < m -> ld1 (newB h0 ob X) (.pointer (some ⟨lb,k,none⟩)) = some (.int .i64 (Z06 C k:Nat)):=fun X k hk=>by
  rw [ld1_newB_ne _ _ _ _ _ hne,Z01 ⟨false,none,hg⟩,ints_getD _ _ (by omega),Z5T _ hk]
 have lo:ld1 (newB h0 ob (ints ((Z7g C m i).set i (-1)))) (.pointer (some ⟨ob,i,none⟩)) = some (.int .i64 (-1)):=by
  rw [ld1_newB_same,ints_getD _ _ (by simp; omega),Z1j,if_pos ⟨rfl,by omega⟩]
 have lai:=la (ints ((Z7g C m i).set i (-1))) i hi
 induction r with
 | zero =>
  intro k hk
  rw [Nat.add_zero] at hk
  subst hk
  by_cases e:Z06 C i < i
  · rw [if_pos e]
    have l1:=la (ints ((Z7g C m i).set i (-1))) (Z06 C i) (by omega)
    rw [hrr] at l1
    have l2:ld1 (newB h0 ob (ints ((Z7g C m i).set i (-1)))) (.pointer (some ⟨ob,Z06 C i,none⟩)) = some (.int .i64 (Z0V C (Z06 C i):Nat)):=by
     rw [ld1_newB_same,ints_getD _ _ (by simp; omega),Z1j,if_neg (by omega),Z4p C i (by omega),if_pos e,hrr]
    have hs:∀ y:Int,stN (newB h0 ob (ints ((Z7g C m i).set i (-1)))) 1 (.pointer (some ⟨ob,i,none⟩)) (.int .i64 y) = some (newB h0 ob (ints (((Z7g C m i).set i (-1)).set i y))):=fun y=>by
     rw [st1_int _ _ _ _ _ _ (by simp; omega),Z0K]
    have lz:∀ y:Int,ld1 (newB h0 ob (ints (((Z7g C m i).set i (-1)).set i y))) (.pointer (some ⟨ob,i,none⟩)) = some (.int .i64 y):=fun y=>by
     rw [ld1_newB_same,ints_getD _ _ (by simp; omega),Z1j,if_pos ⟨rfl,by simp; omega⟩]
    obtain ⟨R,hR⟩:∃ R,Z06 C i = R:=⟨_,rfl⟩
    rw [hR] at e l1 l2 lai ⊢
    obtain ⟨F,hF⟩:∃ F,Z0V C R = F:=⟨_,rfl⟩
    rw [hF] at l2 ⊢
    refine Ans.lpG rfl rfl (Z29 ..) ?_
    unfold Z37
    have fx:=ai lo (ai l1 (ai lai (ai l2 hs)))
    refine Ans.go ?_
    clear fx
    (have fx:=ai hlb (ai hob o4); refine Ans.nxB (B:=newB h0 ob (ints (((Z7g C m i).set i (-1)).set i (F:Nat)))) ?_ ?_; exact Z2e.both (Z1t.ints _ _) (Z2e.refl _ _) hob; clear fx)
    have lz':=lz (F:Nat)
    by_cases e3:((R + 1:Nat):Int) < i
    · refine Ans.lpG rfl rfl (Z29 ..) ?_
      unfold Z37
      have fx:=lz'
      refine Ans.go ?_
      clear fx
      (have fx:=ai hlb (ai hob o4); refine Ans.ex0 ?_; clear fx)
      rfl
    · refine Ans.lpG rfl rfl (Z29 ..) ?_
      unfold Z37
      have fx:=True.intro
      refine Ans.go ?_
      clear fx
      (have fx:=ai hlb (ai hob o4); refine Ans.ex0 ?_; clear fx)
      rfl
  · rw [if_neg e]
    have e1:Z06 C i = i:=by omega
    rw [e1]
    refine Ans.lpG rfl rfl (Z29 ..) ?_
    unfold Z37
    have fx:=True.intro
    refine Ans.go ?_
    clear fx
    (have fx:=ai hlb (ai hob o4); refine Ans.ex0 ?_; clear fx)
    rfl
 | succ r ih =>
  intro k hk
  have hkr:=Z0G hd (i:=k) (by omega)
  have l1:=la (ints ((Z7g C m i).set i (-1))) k (by omega)
  have hne':Z06 C k ≠ Z06 C i:=by omega
  have hk1:=ih (k + 1) (by omega)
  obtain ⟨R,hR⟩:∃ R,Z06 C i = R:=⟨_,rfl⟩
  rw [hR] at lai hk hle hne' hk1 ⊢
  obtain ⟨R',hR'⟩:∃ R',Z06 C k = R':=⟨_,rfl⟩
  rw [hR'] at l1 hne' hkr
  have hne2:¬ (R':Int) = R:=by omega
  refine Ans.lpG rfl rfl (Z29 ..) ?_
  unfold Z37
  have fx:=ai lo (ai l1 lai)
  refine Ans.go ?_
  clear fx
  (have fx:=ai hlb (ai hob o4); refine Ans.nx0 ?_; clear fx)
  exact hk1
theorem ZjN (h0:FH) (lb ob m c:Nat) (C:List Int) (df:List Nat) (hm:m <= 1000000) (hd:Z1M C m) (hlb:lb < 256 * c) (hob:ob < 256 * c) (hne:lb ≠ ob) (hg:h0.f lb = some (.cells false none (ints (Z25 C m)))) :
 ∀ (r i:Nat),i + r = m →
 Ans (G (Zbp none) [.slice (some ⟨lb,0,none⟩) m m,.slice (some ⟨ob,0,none⟩) m m,.int .i64 (Z0V C i:Nat),.int .i64 i] (newB h0 ob (ints (Z7g C m i))) c df) fun q=>q = ⟨.exit 0,[.slice (some ⟨lb,0,none⟩) m m,.slice (some ⟨ob,0,none⟩) m m,.int .i64 (Z0V C m:Nat),.int .i64 m],newB h0 ob (ints (Zea C m)),c,df⟩:=by
 intro r
 induction r with
 | zero =>
  intro i hi
  obtain rfl:i = m:=by omega
  rw [Zm3]
  refine Ans.lpG rfl rfl (Z59 ..) ?_
  unfold Z6e
  have fx:=True.intro
  refine Ans.go ?_
  clear fx
  (have fx:=ai hlb hob; refine Ans.ex0 ?_; clear fx)
  rfl
 | succ r ih =>
  intro i hi
  have him:i < m:=by omega
  have hle:=Z0G hd him
  have pl:=Z1p C m i
  have hs:stN (newB h0 ob (ints (Z7g C m i))) 1 (.pointer (some ⟨ob,i,none⟩)) (.int .i64 (-1)) = some (newB h0 ob (ints ((Z7g C m i).set i (-1)))):=by
   rw [st1_int _ _ _ _ _ _ (by simp; omega),Z0K]
  obtain ⟨q,hq,hpost⟩:=Zq6 h0 lb ob m (c + 1 + 1 + 1) C (.int .i64 (Z0V C i:Nat)) i df hm hd him (by omega) (by omega) hne (by simp) hg (Z06 C i) 0 (by omega)
  simp only [Int.ofNat_eq_natCast,Int.cast_ofNat_Int] at hq
  have hset:=Zm2 C him (-1)
  have hcs:=Z5X C i
  have hcl:=Z83 C i
  have ih':=ih (i + 1) (by omega)
  by_cases e:Z06 C i < i
  · rw [if_pos e] at hpost
    subst hpost
    rw [hset] at hq
    rw [if_neg (by omega),Nat.add_zero] at hcs
    rw [hcs] at ih'
    have l1:ld1 (newB h0 ob (ints (Z7g C m (i + 1)))) (.pointer (some ⟨ob,i,none⟩)) = some (.int .i64 (Z0V C (Z06 C i):Nat)):=by
     rw [ld1_newB_same,ints_getD _ _ (by rw [Z1p]; exact him),Z4p C _ him,if_pos (by omega)]
    obtain ⟨F,hF⟩:∃ F,Z0V C (Z06 C i) = F:=⟨_,rfl⟩
    rw [hF] at l1
    refine Ans.lpG rfl rfl (Z59 ..) ?_
    unfold Z6e
    have fx:=ai hs (ai hq l1)
    refine Ans.go ?_
    clear fx
    (have fx:=ai hlb hob; refine Ans.nxB (B:=newB h0 ob (ints (Z7g C m (i + 1)))) ?_ ?_; exact Z2e.both (Z1t.ints _ _) (Z2e.refl _ _) hob; clear fx)
    exact ih'
  · have e1:Z06 C i = i:=by omega
    rw [if_neg e] at hpost
    subst hpost
    rw [if_pos e1] at hcs
    rw [e1] at hset
    rw [hcs] at ih'
    have l1:ld1 (newB h0 ob (ints ((Z7g C m i).set i (-1)))) (.pointer (some ⟨ob,i,none⟩)) = some (.int .i64 (-1)):=by
     rw [ld1_newB_same,ints_getD _ _ (by simp; omega),Z1j,if_pos ⟨rfl,by omega⟩]
    have hs2:stN (newB h0 ob (ints ((Z7g C m i).set i (-1)))) 1 (.pointer (some ⟨ob,i,none⟩)) (.int .i64 (Z0V C i:Nat)) = some (newB h0 ob (ints (Z7g C m (i + 1)))):=by
     rw [st1_int _ _ _ _ _ _ (by simp; omega),Z0K,hset]
    obtain ⟨F,hF⟩:∃ F,Z0V C i = F:=⟨_,rfl⟩
    rw [hF] at hq hs2 hcl ih' ⊢
    refine Ans.lpG rfl rfl (Z59 ..) ?_
    unfold Z6e
    have fx:=ai hs (ai hq (ai l1 hs2))
    refine Ans.go ?_
    clear fx
    (have fx:=ai hlb hob; refine Ans.nxB (B:=newB h0 ob (ints (Z7g C m (i + 1)))) ?_ ?_; exact Z2e.both (Z1t.ints _ _) (Z2e.refl _ _) hob; clear fx)
    exact ih'
theorem Za4 (lb m:Nat) (C:List Int) (h:FH) (c:Nat) (df:List Nat) (hm:m <= 1000000) (hd:Z1M C m) (hlb:lb < 256 * c) (hg:h.f lb = some (.cells false none (ints (Z25 C m)))) :
 G (.fn 80) [.slice (some ⟨lb,0,none⟩) m m] h c df = some ⟨.ret,[.slice (some ⟨256 * (c + 1) + 2,0,none⟩) m m],newB h (256 * (c + 1) + 2) (ints (Zea C m)),c + 1 + 1 + 1 + 1 + 1,[]⟩:=by
 refine Ans.eq (Ans.call' (fun r e=>f80_go e) ?_)
 unfold Zqu
 have mk:=Z5R 1 8 .i64 .i64 m (by omega) (by omega)
 obtain ⟨B,hB⟩:∃ B,256 * (c + 1) + 2 = B:=⟨_,rfl⟩
 rw [hB]
 have hl:=Ans.eq (ZjN h lb B m (c + 1 + 1 + 1 + 1) C [] hm hd (by omega) (by omega) (by omega) hg m 0 (by omega))
 rw [ZjO,show Z0V C 0 = 0 from rfl] at hl
 simp only [Int.ofNat_eq_natCast,Int.cast_ofNat_Int] at hl
 have fx:=ai mk hl
 refine Ans.go ?_
 clear fx
 exact .done rfl
theorem ZiV (s:Value) (m:Nat) (C:List Int) (h:FH) (c:Nat) (df:List Nat) (hm:m <= 1000000) (hd:Z1M C m) (hs:SlI h c s 1 m (Zea C m)):∀ (r i:Nat),i + r = m →
 Ans (G (Zbz none) [s,.int .i64 (Z0V C i:Nat),.int .i64 i] h c df) fun q=>q = ⟨.exit 0,[s,.int .i64 (Z0V C m:Nat),.int .i64 m],h,c,df⟩:=by
 intro r
 have o1:=hs.okV
 have ll:=hs.len
 induction r with
 | zero =>
  intro i hi
  obtain rfl:i = m:=by omega
  refine Ans.lpG rfl rfl (Z7r ..) ?_
  unfold Z8t
  have fx:=ll
  refine Ans.go ?_
  clear fx
  (have fx:=o1; refine Ans.ex0 ?_; clear fx)
  rfl
 | succ r ih =>
  intro i hi
  have him:i < m:=by omega
  have l1:=hs.rdi (i:Int) (by omega) (by omega)
  rw [Z3Z,Z4q C him,Int.toNat_natCast] at l1
  have st:=ZjP hd him
  have b1:=Z83 C (Z06 C i)
  have b2:=Z83 C i
  have b3:=Z0G hd him
  have mx:=ZcD .i64 (Z0V C i:Nat) ((Z0V C (Z06 C i):Nat) + 1)
  rw [show (if ((Z0V C i:Nat):Int) < (Z0V C (Z06 C i):Nat) + 1 then ((Z0V C (Z06 C i):Nat):Int) + 1 else (Z0V C i:Nat)) = ((Z0V C (i + 1):Nat):Int) by rw [← st]; split <;> omega] at mx
  have ih':=ih (i + 1) (by omega)
  obtain ⟨F,hF⟩:∃ F,Z0V C (Z06 C i) = F:=⟨_,rfl⟩
  rw [hF] at l1 mx b1
  obtain ⟨E,hE⟩:∃ E,Z0V C i = E:=⟨_,rfl⟩
  rw [hE] at mx b2 ⊢
  obtain ⟨E',hE'⟩:∃ E',Z0V C (i + 1) = E':=⟨_,rfl⟩
  rw [hE'] at mx ih'
  have mx2:Z2P max2 [.int .i64 (E:Int),.int .i64 ((F + 1:Nat):Int)] = some (.int .i64 (E':Int)):=mx
  refine Ans.lpG rfl rfl (Z7r ..) ?_
  unfold Z8t
  have fx:=ai ll (ai hs.ixs1 (ai l1 (ai mx mx2)))
  refine Ans.go ?_
  clear fx
  (have fx:=o1; refine Ans.nx0 ?_; clear fx)
  exact ih'
theorem Zda (s:Value) (m:Nat) (C:List Int) (h:FH) (c:Nat) (df:List Nat) (hm:m <= 1000000) (hd:Z1M C m) (hs:SlI h c s 1 m (Zea C m)):G (.fn 63) [s] h c df = some ⟨.ret,[.int .i64 (Z0V C m:Nat)],h,c,[]⟩:=by
 refine Z0m (fun r e=>f63_go e) (by simp) ?_
 have hl:=Ans.eq (ZiV s m C h (c + 1 + 1 + 1) [] hm hd (hs.mono (by omega)) m 0 (by omega))
 rw [show Z0V C 0 = 0 from rfl] at hl
 simp only [Int.ofNat_eq_natCast,Int.cast_ofNat_Int] at hl
 unfold ZqG
 have fx:=hl
 refine Ans.go ?_
 clear fx
 (have fx:=True.intro; exact Ans.pu)
end Go.Proofs.Ytcnndelmnobigaa

namespace Go.Proofs.Ytcnndelmnobigaa
open Go Go.Ab Go.Proofs
def lkK (L:List Int) (first:Nat):Nat -> Nat -> List Int -> List Int
 | 0,_,X=>X
 | r + 1,x,X=>lkK L first r (x + 1) (if Z06 L x = first then X.set (x / 4 * 7 + x % 4) 1 else X)
theorem Z82 (L:List Int) (first:Nat):∀ (r x:Nat) (X:List Int),(lkK L first r x X).length = X.length
 | 0,_,_=>rfl
 | r + 1,x,X=>by
  rw [lkK,Z82]
  split
  · simp
  · rfl
def Z6C (L:List Int) (n:Nat) (first:Int):List Int:=lkK L first.toNat (4 * n) 0 (List.replicate (7 * n) 0)
theorem Zen (x d:Nat) (hd:0 < d) (hx:x < 1000000000):Z00 P .quo 3 (.int .i64 (x:Int)) (.int .i64 (d:Int)) = some (.int .i64 (x / d:Nat)):=by
 have h1:((x:Int).tdiv (d:Int)) = ((x / d:Nat):Int):=by rw [Int.tdiv_eq_ediv_of_nonneg (by omega)]; rfl
 have h2:x / d <= x:=Nat.div_le_self _ _
 obtain ⟨y,hy⟩:∃ y,x / d = y:=⟨_,rfl⟩
 rw [hy] at h1 h2 ⊢
 rw [aBinOp_quo _ _ _ (by omega) (by rw [h1]; omega) (by rw [h1]; omega),h1]
theorem Zej (x d:Nat) (hd:0 < d):Z00 P .rem 3 (.int .i64 (x:Int)) (.int .i64 (d:Int)) = some (.int .i64 (x % d:Nat)):=by
 rw [aBinOp_rem _ _ _ (by omega),Int.tmod_eq_emod_of_nonneg (by omega)]; rfl
theorem Zk7 (h0:FH) (gb p b lb n c:Nat) (L:List Int) (out F v27 v28:Value) (first:Nat) (hn:n <= 60) (u:Uf h0 p b (4 * n) L) (hp:p < 256 * c) (hb:b < 256 * c) (hgb:gb < 256 * c) (hlb:lb < 256 * c) (h1:lb ≠ p) (h2:lb ≠ b) (o1:OkV c out) (o2:OkV c F) (o3:OkV c v27) (o4:OkV c v28) (df:List Nat) :
 ∀ (r x:Nat) (X:List Int),x + r = 4 * n -> X.length = 7 * n →
 Ans (G (Zc1 none) [ptrTo gb,ptrTo p,out,.int .i64 first,.slice (some ⟨lb,0,none⟩) (7 * n) (7 * n),F,v27,v28,.int .i64 (4 * n:Nat),.int .i64 x] (newB h0 lb (ints X)) c df) fun q=>q = ⟨.exit 2,[ptrTo gb,ptrTo p,out,.int .i64 first,.slice (some ⟨lb,0,none⟩) (7 * n) (7 * n),F,v27,v28,.int .i64 (4 * n:Nat),.int .i64 (4 * n:Nat)],newB h0 lb (ints (lkK L first r x X)),c,df⟩:=by
 intro r
 induction r with
 | zero =>
  intro x X hx hX
  obtain rfl:x = 4 * n:=by omega
  refine Ans.lpG rfl rfl (Z5z ..) ?_
  unfold Z4Q
  have fx:=True.intro
  refine Ans.go ?_
  clear fx
  (have fx:=ai hgb (ai hp (ai hlb (ai o1 (ai o2 (ai o3 o4))))); refine Ans.ex0 ?_; clear fx)
  rfl
 | succ r ih =>
  intro x X hx hX
  have u':Uf (newB h0 lb (ints X)) p b (4 * n) L:=u.keep (by rw [Z07,if_neg (Ne.symm h1)]) (by rw [Z07,if_neg (Ne.symm h2)])
  have c1:∀ c',c <= c' -> callF G 46 [.pointer (some ⟨p,0,none⟩),.int .i64 x] (newB h0 lb (ints X)) c' = _:=fun c' (hc:c <= c')=>Z04 (Zcx (newB h0 lb (ints X)) p b (4 * n) c' L u' (by omega) x (by omega) [])
  have q1:=Zen x 4 (by omega) (by omega)
  have q2:=Zej x 4 (by omega)
  simp only [Int.ofNat_eq_natCast,Int.cast_ofNat_Int] at q1 q2
  have hw:stN (newB h0 lb (ints X)) 1 (.pointer (some ⟨lb,x / 4 * 7 + x % 4,none⟩)) (.int .i64 1) = some (newB h0 lb (ints (X.set (x / 4 * 7 + x % 4) 1))):=by
   rw [st1_int _ _ _ _ _ _ (by simp; omega),Z0K]
  have d1:x / 4 <= n - 1:=by omega
  have d2:x % 4 < 4:=by omega
  obtain ⟨T,hT⟩:∃ T,x / 4 = T:=⟨_,rfl⟩
  obtain ⟨E,hE⟩:∃ E,x % 4 = E:=⟨_,rfl⟩
  rw [lkK]
  rw [hT] at q1 hw d1 ⊢
  rw [hE] at q2 hw d2 ⊢
  have hx4:(x:Int) < (4 * n:Nat):=by omega
  have hr:=Z0G u.dn (i:=x) (by omega)
  obtain ⟨R,hR⟩:∃ R,Z06 L x = R:=⟨_,rfl⟩
  rw [hR] at c1 hr ⊢
  have e7:((T:Int) * 7 + E).toNat = T * 7 + E:=by omega
  refine Ans.lpG rfl rfl (Z5z ..) ?_
  unfold Z4Q
  by_cases e:R = first
  · rw [if_pos e]
    have e':(R:Int) = first:=by omega
    have fx:=ai c1 (ai q1 (ai q2 (ai e7 hw)))
    refine Ans.go ?_
    clear fx
    (have fx:=ai hgb (ai hp (ai hlb (ai o1 (ai o2 (ai o3 o4))))); refine Ans.nxB (B:=newB h0 lb (ints (X.set (T * 7 + E) 1))) ?_ ?_; exact Z2e.both (Z1t.ints _ _) (Z2e.refl _ _) hlb; clear fx)
    exact ih (x + 1) _ (by omega) (by simp [hX])
  · rw [if_neg e]
    have e':¬ (R:Int) = first:=by omega
    have fx:=c1
    refine Ans.go ?_
    clear fx
    (have fx:=ai hgb (ai hp (ai hlb (ai o1 (ai o2 (ai o3 o4))))); refine Ans.nx0 ?_; clear fx)
    exact ih (x + 1) X (by omega) hX
end Go.Proofs.Ytcnndelmnobigaa

namespace Go.Proofs.Ytcnndelmnobigaa
open Go Go.Ab Go.Proofs
def LkV (c0:Nat) (h:FH) (c:Nat) (v:Value) (n:Nat) (L:List Int) (i:Nat) (Fl:List Int):Prop :=
 ∃ vals,Z6Q c0 h c v i vals /\ ∀ (k:Nat) (x:Int),k < i -> Fl[k]? = some x -> ∃ w,vals[k]? = some w /\ RowV c0 h c w (7 * n) (Z6C L n x) /\ Z0p w ≠ Z0p v
theorem Zi9 (s:Value) (n:Nat) (Gl:List Int) (gb p b c0:Nat) (L:List Int) (F:Value) (m:Nat) (Fl:List Int) (hn:n <= 60) (hgb:gb < 256 * c0) (hp:p < 256 * c0) (hb:b < 256 * c0) (hF:∀ x,x ∈ Fl -> ∃ k:Nat,x = k /\ k < 4 * n) (hm:m <= 1000) (df:List Nat) :
 ∀ (k i cc:Nat) (h:FH) (out:Value),i + k = m -> c0 <= cc -> Z0a h gb [s] -> SlI h c0 s 20 n Gl -> Uf h p b (4 * n) L -> SlI h cc F 1 m Fl -> (0 < m -> Z0p F ≠ Z0p out) -> LkV c0 h cc out n L i Fl →
 Ans (G (Zc2 none) [ptrTo gb,ptrTo p,out,F,.int .i64 m,.int .i64 i] h cc df) fun r=>r.e = .exit 0 /\ cc <= r.c /\ r.df = df /\ Z0u c0 h r.h /\ LkV c0 r.h r.c (r.v 2) n L m Fl:=by
 intro k
 induction k with
 | zero =>
  intro i cc h out hi hc hg hs u sf hne hv
  obtain rfl:i = m:=by omega
  refine Ans.lpN rfl rfl (Z5A ..) ?_
  unfold Z4R
  have fx:=True.intro
  refine Ans.go ?_
  clear fx
  refine Ans.exitN ⟨rfl,(by show cc <= cc + 1; omega),rfl,fun _ _=>rfl, ?_⟩
  obtain ⟨vals,a1,a2⟩:=hv
  refine ⟨vals,a1.mono (by show cc <= cc + 1; omega),fun k x h1 h2=>?_⟩
  obtain ⟨w,w1,⟨q,z1,z2,z3,z4⟩,w3⟩:=a2 k x h1 h2
  exact ⟨w,w1,⟨q,z1,z2,(by show q < 256 * (cc + 1); omega),z4⟩,w3⟩
 | succ k ih =>
  intro i cc h out hi hc hg hs u sf hne hv
  obtain ⟨vals,a1,a2⟩:=hv
  have hFl:=sf.1
  have l1:=sf.rdi i (by omega) (by omega)
  simp only [Int.toNat_natCast] at l1
  rw [Z3Z] at l1
  have hLi:Fl.getD i 0 = Fl[i]'(by omega):=by simp [List.getD_eq_getElem?_getD,List.getElem?_eq_getElem (by omega:i < Fl.length)]
  obtain ⟨x,hx,hx6⟩:=hF (Fl[i]'(by omega)) (List.getElem_mem _)
  rw [hLi,hx] at l1
  have lg:ld1 h (.pointer (some ⟨gb,0,none⟩)) = some s:=by rw [Z01 hg]; rfl
  have ls:=hs.len
  have mk:=Z5R 1 8 .i64 .i64 (7 * n) (by omega) (by omega)
  rw [show ((7 * n:Nat):Int) = 7 * (n:Int) by omega] at mk
  obtain ⟨lb,hlb⟩:∃ lb,lb = 256 * (cc + 1 + 1) + 4:=⟨_,rfl⟩
  have s1:∀ X,Z0u (cc + 1) h (newB h lb X):=fun X q hq=>by rw [Z07,if_neg (by omega)]
  have lu:∀ X,ld1 (newB h lb X) (.pointer (some ⟨p,0,none⟩)) = some (.slice (some ⟨b,0,none⟩) (4 * n) (4 * n)):=fun X=>(u.same (s1 X) (by omega) (by omega)).ld
  have bo:=a1.blk
  have bF:0 < m -> Z0p F < 256 * cc:=fun hp=>sf.blk hp
  have hin:=Ans.eq (Zk7 h gb p b lb n (cc + 1 + 1 + 1 + 1) L out F (.int .i64 m) (.int .i64 i) x hn u (by omega) (by omega) (by omega) (by omega) (by omega) (by omega) (by obtain ⟨_,_,_,j,op,rfl,_,h6,_⟩:=a1; exact OkV.sl (by omega)) ((sf.mono (by omega)).okV) (by simp) (by simp) df (4 * n) 0 (List.replicate (7 * n) 0) (by omega) (by simp))
  rw [show lkK L x (4 * n) 0 (List.replicate (7 * n) 0) = Z6C L n x by rw [Z6C,Int.toNat_natCast]] at hin
  rw [show ((4 * n:Nat):Int) = 4 * (n:Int) by omega] at hin
  simp only [Int.ofNat_eq_natCast,Int.cast_ofNat_Int] at hin
  obtain ⟨X,hX⟩:∃ X,Z6C L n x = X:=⟨_,rfl⟩
  have hXl:X.length = 7 * n:=by rw [← hX,Z6C,Z82]; simp
  obtain ⟨H,hH⟩:∃ H,newB h lb (ints X) = H:=⟨_,rfl⟩
  rw [hX,hH] at hin
  have sH:Z0u (cc + 1) h H:=by rw [← hH]; exact s1 _
  have fl:H.f lb = some (.cells false none (ints X)):=by rw [← hH,Z07,if_pos rfl]
  have hbl:Z48 [(.slice none 0 0)] [(0,1,(.slice (some ⟨lb,0,none⟩) (7 * n) (7 * n)))] = some [.slice (some ⟨lb,0,none⟩) (7 * n) (7 * n)]:=rfl
  obtain ⟨h',p1,p2,p3⟩:=((a1.keep (h':=H) (sH _ (by omega))).mono (c':=cc + 1 + 1 + 1 + 1) (by omega)).app (c':=cc + 1 + 1 + 1 + 1 + 1) (.slice (some ⟨lb,0,none⟩) (7 * n) (7 * n)) rfl 24 (256 * (cc + 1 + 1 + 1 + 1) + 2) (256 * (cc + 1 + 1 + 1 + 1) + 3) (by omega) (by omega) (by omega) (by omega) (by omega) (by omega)
  have s0:Z0u c0 h h':=fun q hq=>by rw [p3 q (by omega) (by omega),sH q (by omega)]
  refine Ans.lpN rfl rfl (Z5A ..) ?_
  unfold Z4R
  rw [← hlb]
  have fx:=ai sf.ixs1 (ai l1 (ai lg (ai ls (ai mk (ai lu (ai hin (ai hbl p1)))))))
  refine Ans.go ?_
  clear fx
  refine Ans.nextN ?_
  have him:(i:Int) < m:=by omega
  refine (ih (i + 1) _ h' _ (by omega) (by omega) (hg.same hgb s0) (hs.same s0) (u.same s0 hp hb) ((sf.keep (fun hp=>?_)).mono (by omega)) (fun hp=>?_) ⟨_,p2.mono (by omega),fun j y hj hy=>?_⟩).mono ?_
  · rw [p3 _ (by have:=bF hp; omega) (hne hp),sH _ (by have:=bF hp; omega)]
  · rw [blkOf_sl]; have:=bF hp; omega
  · have hvl:vals.length = i:=a1.1
    rcases Nat.lt_or_ge j i with hji | hji
    · obtain ⟨w,w1,⟨q,z1,z2,z3,z4,z5⟩,w3⟩:=a2 j y hji hy
      rw [z1,blkOf_sl] at w3
      refine ⟨w,by rw [List.getElem?_append_left (by omega)]; exact w1,⟨q,z1,z2,by omega, ?_,z5⟩,by rw [z1,blkOf_sl,blkOf_sl]; omega⟩
      rw [p3 q (by omega) w3,sH q (by omega),z4]
    · obtain rfl:j = i:=by omega
      have hy':y = x:=by
       rw [List.getElem?_eq_getElem (by omega)] at hy
       rw [← hx]; exact (Option.some.inj hy).symm
      subst hy'
      rw [hX]
      refine ⟨_,by rw [List.getElem?_append_right (by omega),hvl,Nat.sub_self]; rfl,⟨lb,rfl,by omega,by omega, ?_,hXl,by omega⟩,by rw [blkOf_sl,blkOf_sl]; omega⟩
      rw [p3 lb (by omega) (by omega),fl]
  · rintro r ⟨q1,q2,q3,q4,q5⟩
    exact ⟨q1,by omega,q3,s0.trans q4,q5⟩
end Go.Proofs.Ytcnndelmnobigaa

namespace Go.Proofs.Ytcnndelmnobigaa
open Go Go.Ab Go.Proofs
def vxC (Gl:List Int) (n:Nat):List Int:=vCl n (Z1s Gl n)
def vxF (Gl:List Int) (n:Nat):List Int:=Z0s (vxC Gl n) (4 * n)
set_option maxHeartbeats 1000000 in
theorem Zm8 (s:Value) (n:Nat) (Gl:List Int) (h:FH) (c:Nat) (df:List Nat) (hs:SlI h c s 20 n Gl) :
 Ans (G (.fn 14) [.agg #[s]] h c df) fun r=>r.e = .ret /\ r.df = [] /\ c <= r.c /\ Z0u c h r.h ∧
  ((Z4a Gl n ≠ 0 /\ r.vs = [.tuple #[.slice none 0 0,.int .i64 (Z4a Gl n)]]) ∨ (Z4a Gl n = 0 /\ ∃ v,r.vs = [.tuple #[v,.int .i64 0]] /\ LkV c r.h r.c v n (vxC Gl n) (vxF Gl n).length (vxF Gl n))):=by
 refine Ans.call' (fun r e=>f14_go e) ?_
 unfold ZkT
 rw [Z4c hs.flat,Z43,Nat.add_zero]
 simp only [cond_true]
 obtain ⟨H,hH⟩:∃ H,H = newB h (256 * c) [s]:=⟨_,rfl⟩
 have sH:Z0u c h H:=by rw [hH]; simp (disch:=omega)
 have hg:Z0a H (256 * c) [s]:=by rw [hH]; exact Z0a.newB_same _ _ _
 rw [← hH]
 clear hH
 have l1:=Z0C hg
 have ch:=Z04 (Z7V s n Gl H (c + 1 + 1) [] ((hs.same sH).mono (by omega)))
 obtain ⟨E,hE⟩:∃ E,Z4a Gl n = E:=⟨_,rfl⟩
 by_cases h0:E = 0
 case neg =>
  rw [hE] at ch ⊢
  have fx:=ai l1 ch
  refine Ans.go ?_
  clear fx
  exact .done ⟨rfl,rfl,(by show c <= c + 1 + 1 + 1 + 1; omega),sH,.inl ⟨h0,rfl⟩⟩
 obtain ⟨hn,hok⟩:=Z1F (hE.trans h0)
 rw [hE] at ch ⊢
 subst h0
 obtain ⟨⟨re,rv,H1,c1,rd⟩,hr,r1,r2,r3,r4,vs,vu,es,eu,rfl,b1,b2,b3,b4,u1,u2⟩:=Zc9 s n Gl H (c + 1 + 1 + 1 + 1) [] ((hs.same sH).mono (by omega)) hok hn
 simp only at r1 r2 r3 r4 b1 b2 b3 b4 u1 u2
 subst r1 r2
 have cc:=Z04 hr
 have hb0:Z48 [] [] = some []:=rfl
 obtain ⟨H2,hH2⟩:∃ H2,newB H1 (256 * c1) [] = H2:=⟨_,rfl⟩
 have s12:Z0u c1 H1 H2:=by rw [← hH2]; intro b hb; rw [Z07,if_neg (by omega)]
 have f2:H2.f (256 * c1) = some (.cells false none []):=by rw [← hH2,Z07,if_pos rfl]
 have u12:=u1.same s12 b1 b2
 obtain ⟨⟨re,rv,H3,c3,rd⟩,hr',F,q1,q2,q3,q4⟩:=ZdO vs vu (4 * n) _ H2 (c1 + 1 + 1) [] u12 (by omega) (by omega)
 obtain ⟨rfl,rfl,-,-,rfl⟩:=Rt.mk.inj q1
 simp only at q2 q3 q4
 have cf:callF G 45 [.pointer (some ⟨vs,0,none⟩)] H2 (c1 + 1 + 1) = some (F,H3,c3):=Z04 hr'
 have hFl:=Z1Q (vCl n (Z1s Gl n)) (4 * n)
 have hmem:∀ x,x ∈ Z0s (vCl n (Z1s Gl n)) (4 * n) -> ∃ k:Nat,x = k /\ k < 4 * n:=fun x hx=>by
  obtain ⟨k,h1,h2,_⟩:=Z6Z hx; exact ⟨k,h1,h2⟩
 have lf:=q4.sl.len
 unfold vxF vxC
 have u13:Uf H3 vs vu (4 * n) (vCl n (Z1s Gl n)):=u12.same q3 (by omega) (by omega)
 obtain ⟨C,hC⟩:∃ C,vCl n (Z1s Gl n) = C:=⟨_,rfl⟩
 rw [hC] at q4 lf hFl hmem u13 ⊢
 obtain ⟨L,hL⟩:∃ L,Z0s C (4 * n) = L:=⟨_,rfl⟩
 rw [hL] at q4 lf hFl hmem ⊢
 have sv:Z0u c h H3:=sH.trans (((r4.mono (by omega:c <= c + 1 + 1 + 1 + 1)).trans (s12.mono (by omega))).trans (q3.mono (by omega)))
 have sv1:Z0u (c + 1) H H3:=((r4.mono (by omega:c + 1 <= c + 1 + 1 + 1 + 1)).trans (s12.mono (by omega))).trans (q3.mono (by omega))
 have hne:0 < L.length -> Z0p F ≠ Z0p (.slice (some ⟨256 * c1,0,none⟩) 0 0):=fun hp=>by
  obtain ⟨z1,z2,⟨rfl,z3⟩ | ⟨i,rfl,z3,z4,z5⟩⟩:=q4
  · omega
  · rw [blkOf_sl,blkOf_sl]; omega
 have f3:H3.f (256 * c1) = some (.cells false none []):=by rw [q3 _ (by omega),f2]
 obtain ⟨⟨re,rv,H4,c4,rd⟩,hr2,g1,g2,g3,g4,g5⟩:=Zi9 s n Gl (256 * c) vs vu c1 C F L.length L hn (by omega) (by omega) (by omega) hmem (by omega) [] L.length 0 c3 H3 (.slice (some ⟨256 * c1,0,none⟩) 0 0) (by omega) (by omega) (hg.eqf (sv1 _ (by omega))) ((hs.same sv).mono (by omega)) u13 q4.sl hne ⟨[],⟨rfl,by omega,rfl,256 * c1,none,rfl,by omega,by omega,f3,.inl rfl⟩,fun k x hk=>by omega⟩
 simp only [Int.ofNat_eq_natCast,Int.cast_ofNat_Int] at hr2
 simp only at g1 g2 g3 g4 g5
 subst g1 g3
 have fx:=ai l1 (ai ch (ai cc (ai hb0 (ai hH2 (ai cf (ai lf hr2))))))
 refine Ans.go ?_
 clear fx
 have g6:LkV c H4 (c4 + 1) (Rt.v ⟨Ex.exit 0,rv,H4,c4,[]⟩ 2) n C L.length L:=by
  obtain ⟨vals,⟨z1,z2,z3,i,op,z4,z5,z6,z7,z8⟩,z9⟩:=g5
  refine ⟨vals,⟨z1,z2,z3,i,op,z4,by omega,by omega,z7,z8⟩,fun k x h1 h2=>?_⟩
  obtain ⟨w,w1,⟨q,y1,y2,y3,y4,y5⟩,w3⟩:=z9 k x h1 h2
  exact ⟨w,w1,⟨q,y1,by omega,by omega,y4,y5⟩,w3⟩
 exact .done ⟨rfl,rfl,(by show c <= c4 + 1; omega),sv.trans (g4.mono (by omega)),.inr ⟨rfl,_,rfl,g6⟩⟩
end Go.Proofs.Ytcnndelmnobigaa

namespace Go.Proofs.Ytcnndelmnobigaa
open Go Go.Ab Go.Proofs
theorem ZhY (ss:List Value) (ns:Nat -> Nat) (sb:Nat) (h:FH) (c:Nat) (hsb:sb < 256 * c) (hh:Z0a h sb ss) (hl:ss.length <= 1000) (hL:∀ j,j < ss.length -> Z11 (ss.getD j undef) = some (.int .i64 (ns j))) (df:List Nat):∀ (k i:Nat),i + k = ss.length →
 Ans (G (ZbY none) [.slice (some ⟨sb,0,none⟩) ss.length ss.length,.bool false,.int .i64 i] h c df) fun r=>r.h = h /\ r.c = c /\ r.df = df ∧
  ((r.e = .exit 0 /\ ∀ j,i <= j -> j < ss.length -> ns j <= 50) ∨ (r.e = .ret /\ r.v 1 = .bool false /\ ∃ j,j < ss.length /\ ¬ ns j <= 50)):=by
 intro k
 obtain ⟨m,hm⟩:∃ m,ss.length = m:=⟨_,rfl⟩
 rw [hm] at hl hL ⊢
 induction k with
 | zero =>
  intro i hi
  obtain rfl:i = m:=by omega
  refine Ans.lpG rfl rfl (Z7F ..) ?_
  unfold Z9c
  have fx:=True.intro
  refine Ans.go ?_
  clear fx
  (have fx:=hsb; refine Ans.ex0 ?_; clear fx)
  exact ⟨rfl,rfl,rfl,.inl ⟨rfl,fun j h1 h2=>by omega⟩⟩
 | succ k ih =>
  intro i hi
  have l1:ld1 h (.pointer (some ⟨sb,i,none⟩)) = some (ss.getD i undef):=by
   rw [Z01 hh,List.getD_eq_getElem?_getD,List.getElem?_eq_getElem (by omega)]; rfl
  have l2:=hL i (by omega)
  obtain ⟨x,hx⟩:∃ x,ss.getD i undef = x:=⟨_,rfl⟩
  rw [hx] at l1 l2
  refine Ans.lpG rfl rfl (Z7F ..) ?_
  unfold Z9c
  by_cases h5:ns i <= 50
  · have fx:=ai l1 l2
    refine Ans.go ?_
    clear fx
    (have fx:=hsb; refine Ans.nx0 ?_; clear fx)
    refine (ih (i + 1) (by omega)).mono ?_
    rintro r ⟨q1,q2,q3,q4⟩
    refine ⟨q1,q2,q3,q4.imp (fun ⟨a,b⟩=>⟨a,fun j h1 h2=>?_⟩) id⟩
    by_cases e:j = i
    · rw [e]; exact h5
    · exact b j (by omega) h2
  · have fx:=ai l1 l2
    refine Ans.go ?_
    clear fx
    (have fx:=hsb; refine Ans.rt0 ?_; clear fx)
    exact ⟨rfl,rfl,rfl,.inr ⟨rfl,rfl,i,by omega,h5⟩⟩
theorem ZlO (ss:List Value) (ns:Nat -> Nat) (sb:Nat) (h:FH) (c:Nat) (df:List Nat) (hsb:sb < 256 * c) (hh:Z0a h sb ss) (hl:ss.length <= 1000) (hL:∀ j,j < ss.length -> Z11 (ss.getD j undef) = some (.int .i64 (ns j))) :
 G (.fn 18) [.slice (some ⟨sb,0,none⟩) ss.length ss.length] h c df = some ⟨.ret,[.bool ((List.range ss.length).all fun j=>decide (ns j <= 50))],h,c,[]⟩:=by
 refine Z0m (fun r e=>f18_go e) (by simp) ?_
 unfold Zr1
 obtain ⟨⟨re,rv,rh,rc,rd⟩,hr,r1,r2,r3,r4⟩:=ZhY ss ns sb h (c + 1 + 1) (by omega) hh hl hL [] ss.length 0 (by omega)
 simp only at r1 r2 r3 r4
 subst r1 r2 r3
 simp only [Int.ofNat_eq_natCast,Int.cast_ofNat_Int] at hr
 rcases r4 with ⟨rfl,r5⟩ | ⟨rfl,r5,j,j1,j2⟩
 · have e:((List.range ss.length).all fun j=>decide (ns j <= 50)) = true:=List.all_eq_true.2 fun j hj=>decide_eq_true (r5 j (by omega) (by simpa using hj))
   rw [e]
   have fx:=hr
   refine Ans.go ?_
   clear fx
   exact Ans.pure rfl (by simp)
 · have e:((List.range ss.length).all fun j=>decide (ns j <= 50)) = false:=by
    rw [List.all_eq_false]
    exact ⟨j,by simpa using j1,by simpa using j2⟩
   rw [e]
   have fx:=hr
   refine Ans.go ?_
   clear fx
   exact Ans.pure r5 (by simp)
end Go.Proofs.Ytcnndelmnobigaa

namespace Go.Proofs.Ytcnndelmnobigaa
open Go Go.Ab Go.Proofs
def mA (M:List Int):Nat:=(4 * M.getD 0 0 + M.getD 2 0).toNat
def mB (M:List Int):Nat:=(4 * M.getD 3 0 + M.getD 5 0).toNat
theorem ZdN {m:Nat}:∀ (D:List (List Int)) (L:List Int),Z1M L m -> (∀ M,M ∈ D -> mA M < m /\ mB M < m) →
 Z1M (D.foldl ZaD L) m /\ (∀ a b,a < m -> b < m -> Z06 L a = Z06 L b -> Z06 (D.foldl ZaD L) a = Z06 (D.foldl ZaD L) b) /\ (∀ M,M ∈ D -> Z06 (D.foldl ZaD L) (mA M) = Z06 (D.foldl ZaD L) (mB M))
 | [],L,hd,_=>⟨hd,fun a b _ _ e=>e,fun M h=>by cases h⟩
 | M :: D,L,hd,hg=>by
  obtain ⟨g1,g2⟩:=hg M (by simp)
  obtain ⟨i1,i2,i3⟩:=ZdN D (ZaD L M) (Z13 hd g1 g2) (fun N hN=>hg N (by simp [hN]))
  rw [List.foldl_cons]
  refine ⟨i1,fun a b ha hb e=>i2 a b ha hb (ZdH hd g1 g2 ha hb e),fun N hN=>?_⟩
  rcases List.mem_cons.1 hN with rfl | hN
  · exact i2 _ _ g1 g2 (ZdG hd g1 g2)
  · exact i3 N hN
theorem Zjj {Gl:List Int} {n:Nat} (hok:Z0t Gl n = true) (hG:Gl.length = n * 20):Z1M (vxC Gl n) (4 * n) /\ ∀ M,M ∈ Z1s Gl n -> Z06 (vxC Gl n) (mA M) = Z06 (vxC Gl n) (mB M):=by
 have:=ZdN (m:=4 * n) (Z1s Gl n) (Z0n (4 * n)) (Z0z _) (fun M hM=>by
  obtain ⟨t,f,i,ht,hf,hi,hne,hsk,rfl⟩:=Z9E hM
  obtain ⟨k1,k2,k3⟩:=Z81 hok hG ht hf hi hne hsk
  have hpi:=Z0U k3 hi
  constructor
  · show (4 * (t:Int) + i).toNat < _
    omega
  · show (4 * Z0B (Z02 Gl t f) + (Z0c (Z02 Gl t f)).getD i 0).toNat < _
    omega)
 exact ⟨this.1,this.2.2⟩
end Go.Proofs.Ytcnndelmnobigaa

namespace Go.Proofs.Ytcnndelmnobigaa
open Go Go.Ab Go.Proofs
def FcP (rb kb c1 cc:Nat) (h:FH) (df:List Nat) (vs:Value -> Int -> List Value) (o:Option FSt) (r:Rt FH):Prop :=
 cc <= r.c /\ r.df = df /\ (∀ b,b < 256 * c1 -> b ≠ rb -> b ≠ kb -> r.h.f b = h.f b) /\ match o with
  | some S=>r.e = .exit 6 /\ ∃ v,r.vs = vs v S.m /\ r.h.f rb = some (.cells false none (ints S.X)) /\ r.h.f kb = some (.cells false none (bools S.K)) /\ Z6Q c1 r.h r.c v S.Q.length (ints (zs S.Q))
  | none=>r.e = .ret /\ r.v 1 = .slice none 0 0 /\ r.v 2 = .bool false
theorem FcP.mono {rb kb c1 cc cc':Nat} {h h':FH} {df:List Nat} {vs:Value -> Int -> List Value} {o:Option FSt} {r:Rt FH} (p:FcP rb kb c1 cc' h' df vs o r) (hc:cc <= cc') (hh:∀ b,b < 256 * c1 -> b ≠ rb -> b ≠ kb -> h'.f b = h.f b):FcP rb kb c1 cc h df vs o r :=
 ⟨Nat.le_trans hc p.1,p.2.1,fun b h1 h2 h3=>(p.2.2.1 b h1 h2 h3).trans (hh b h1 h2 h3),p.2.2.2⟩
theorem Zb6 {h:FH} {rb c:Nat} {X:List Int} {m:Nat} (e:h.f rb = some (.cells false none (ints X))) (hl:X.length = m) (hm:m <= 1000000) (hc:rb < 256 * c):SlI h c (.slice (some ⟨rb,0,none⟩) m m) 1 m X:=by
 refine ⟨by omega,by omega,some ⟨rb,0,none⟩,m,rfl,.inr ⟨rb,0,ints X,rfl,hc,⟨false,none,e⟩, ?_⟩⟩
 rw [List.drop_zero,List.take_of_length_le (by simp [hl])]
end Go.Proofs.Ytcnndelmnobigaa

namespace Go.Proofs.Ytcnndelmnobigaa
open Go Go.Ab Go.Proofs
def FqP (rb kb c1 cc:Nat) (h:FH) (df:List Nat) (vs:Value -> Int -> Nat -> List Value) (o:Option FSt) (r:Rt FH):Prop :=
 cc <= r.c /\ r.df = df /\ (∀ b,b < 256 * c1 -> b ≠ rb -> b ≠ kb -> r.h.f b = h.f b) /\ match o with
  | some S=>r.e = .exit 4 /\ ∃ v j,r.vs = vs v S.m j /\ r.h.f rb = some (.cells false none (ints S.X)) /\ r.h.f kb = some (.cells false none (bools S.K)) /\ Z6Q c1 r.h r.c v S.Q.length (ints (zs S.Q))
  | none=>r.e = .ret /\ r.v 1 = .slice none 0 0 /\ r.v 2 = .bool false
theorem FqP.mono {rb kb c1 cc cc':Nat} {h h':FH} {df:List Nat} {vs:Value -> Int -> Nat -> List Value} {o:Option FSt} {r:Rt FH} (p:FqP rb kb c1 cc' h' df vs o r) (hc:cc <= cc') (hh:∀ b,b < 256 * c1 -> b ≠ rb -> b ≠ kb -> h'.f b = h.f b):FqP rb kb c1 cc h df vs o r :=
 ⟨Nat.le_trans hc p.1,p.2.1,fun b h1 h2 h3=>(p.2.2.1 b h1 h2 h3).trans (hh b h1 h2 h3),p.2.2.2⟩
end Go.Proofs.Ytcnndelmnobigaa

namespace Go.Proofs.Ytcnndelmnobigaa
open Go Go.Ab Go.Proofs
theorem st3:Z1B P 3 = some 1:=by kernel_rfl
def FaP (rb kb c0 cc:Nat) (h:FH) (df:List Nat) (n:Nat) (o:Option (List Int)) (r:Rt FH):Prop :=
 cc <= r.c /\ r.df = df /\ (∀ b,b < 256 * c0 -> b ≠ rb -> b ≠ kb -> r.h.f b = h.f b) /\ match o with
  | some X=>r.e = .exit 2 /\ r.v 3 = .slice (some ⟨rb,0,none⟩) (7 * n) (7 * n) /\ r.h.f rb = some (.cells false none (ints X)) /\ X.length = 7 * n
  | none=>r.e = .ret /\ r.v 1 = .slice none 0 0 /\ r.v 2 = .bool false
theorem FaP.mono {rb kb c1 cc cc':Nat} {h h':FH} {df:List Nat} {n:Nat} {o:Option (List Int)} {r:Rt FH} (p:FaP rb kb c1 cc' h' df n o r) (hc:cc <= cc') (hh:∀ b,b < 256 * c1 -> b ≠ rb -> b ≠ kb -> h'.f b = h.f b):FaP rb kb c1 cc h df n o r :=
 ⟨Nat.le_trans hc p.1,p.2.1,fun b h1 h2 h3=>(p.2.2.1 b h1 h2 h3).trans (hh b h1 h2 h3),p.2.2.2⟩
end Go.Proofs.Ytcnndelmnobigaa

namespace Go.Proofs.Ytcnndelmnobigaa
open Go Go.Ab Go.Proofs
def q3 (Qd:List Int) (t:Nat):List Int:=(Qd.drop (3 * t)).take 3
end Go.Proofs.Ytcnndelmnobigaa
