/- Parts of a proof: B11 AbCount V5 V6 V7 X1 B12 B13 RowK. Conditions: none. -/
import Derived.Test.YtcnndelmnobigaaM23
import Derived.Test.YtcnndelmnobigaaM22
import Derived.Test.YtcnndelmnobigaaM18
import Derived.Test.YtcnndelmnobigaaM21
import Derived.Test.YtcnndelmnobigaaM20
import Derived.Test.YtcnndelmnobigaaRows
import Derived.ProofKit
set_option linter.all false
set_option maxRecDepth 100000
namespace Go.Proofs.Ytcnndelmnobigaa
open Go Go.Ab Go.Proofs
theorem ZdW {L:List Int} {i:Nat} (h:i < L.length):L.drop i = L.getD i 0 :: L.drop (i + 1):=by
 rw [List.drop_eq_getElem_cons h]
 simp [List.getD_eq_getElem?_getD,List.getElem?_eq_getElem h]
theorem ZlK (s t2 w:Value) (m:Nat) (L:List Int) (h:FH) (c:Nat) (df:List Nat) (hm:m <= 1000) (hw:SlI h c w 1 m L) (hL:∀ j:Nat,0 <= L.getD j 0 /\ L.getD j 0 <= 5000000) (o1:OkV c s) (o2:OkV c t2):∀ (r i:Nat) (a:Int),i + r = m -> 0 <= a -> a <= (i:Int) * 5000000 →
 Ans (G (ZbQ none) [s,t2,w,.int .i64 a,.int .i64 i] h c df) fun q=>q = ⟨.exit 0,[s,t2,w,.int .i64 (a + Z5E (L.drop i)),.int .i64 m],h,c,df⟩:=by
 intro r
 have ow:=hw.okV
 have ll:=hw.len
 have hl:L.length = m:=hw.1.trans (Nat.mul_one _)
 induction r with
 | zero =>
  intro i a hi h1 h2
  obtain rfl:i = m:=by omega
  rw [List.drop_of_length_le (by omega),Z5E,Int.add_zero]
  refine Ans.lpG rfl rfl (Z7A ..) ?_
  unfold Z8V
  have fx:=ll
  refine Ans.go ?_
  clear fx
  (have fx:=ai o1 (ai o2 ow); refine Ans.ex0 ?_; clear fx)
  rfl
 | succ r ih =>
  intro i a hi h1 h2
  have l1:=hw.rdi (i:Int) (by omega) (by omega)
  rw [Z3Z,Int.toNat_natCast] at l1
  have b:=hL i
  rw [ZdW (by omega),Z5E]
  obtain ⟨A,hA⟩:∃ A,L.getD i 0 = A:=⟨_,rfl⟩
  rw [hA] at l1 b ⊢
  rw [show a + (A + Z5E (L.drop (i + 1))) = a + A + Z5E (L.drop (i + 1)) by omega]
  refine Ans.lpG rfl rfl (Z7A ..) ?_
  unfold Z8V
  have fx:=ai ll (ai hw.ixs1 l1)
  refine Ans.go ?_
  clear fx
  (have fx:=ai o1 (ai o2 ow); refine Ans.nx0 ?_; clear fx)
  exact ih (i + 1) (a + A) (by omega) (by omega) (by omega)
theorem Zjp (w:Value) (m:Nat) (L:List Int) (h:FH) (c:Nat) (df:List Nat) (hm:m <= 1000) (hw:SlI h c w 1 m L) (hL:∀ j:Nat,0 <= L.getD j 0 /\ L.getD j 0 <= 5000000):∀ (r i:Nat) (a:Int),i + r = m -> -1000000000000 <= a -> a <= 1000000000000 + (i:Int) * 5000000 →
 Ans (G (ZbO none) [w,.int .i64 a,.int .i64 i] h c df) fun q=>q = ⟨.exit 6,[w,.int .i64 (a + Z5E (L.drop i)),.int .i64 m],h,c,df⟩:=by
 intro r
 have ow:=hw.okV
 have ll:=hw.len
 have hl:L.length = m:=hw.1.trans (Nat.mul_one _)
 induction r with
 | zero =>
  intro i a hi h1 h2
  obtain rfl:i = m:=by omega
  rw [List.drop_of_length_le (by omega),Z5E,Int.add_zero]
  refine Ans.lpG rfl rfl (Z7x ..) ?_
  unfold Z8S
  have fx:=ll
  refine Ans.go ?_
  clear fx
  (have fx:=ow; refine Ans.ex0 ?_; clear fx)
  rfl
 | succ r ih =>
  intro i a hi h1 h2
  have l1:=hw.rdi (i:Int) (by omega) (by omega)
  rw [Z3Z,Int.toNat_natCast] at l1
  have b:=hL i
  rw [ZdW (by omega),Z5E]
  obtain ⟨A,hA⟩:∃ A,L.getD i 0 = A:=⟨_,rfl⟩
  rw [hA] at l1 b ⊢
  rw [show a + (A + Z5E (L.drop (i + 1))) = a + A + Z5E (L.drop (i + 1)) by omega]
  refine Ans.lpG rfl rfl (Z7x ..) ?_
  unfold Z8S
  have fx:=ai ll (ai hw.ixs1 l1)
  refine Ans.go ?_
  clear fx
  (have fx:=ow; refine Ans.nx0 ?_; clear fx)
  exact ih (i + 1) (a + A) (by omega) (by omega) (by omega)
set_option maxHeartbeats 2000000 in
theorem ZkX (s v:Value) (n nv:Nat) (Gl V:List Int) (gb t:Nat) (h:FH) (c:Nat) (df:List Nat) (hn:n <= 60) (hnv:nv = 7 * n) (hok:Z0t Gl n = true) (hs:SlI h c s 20 n Gl) (hg:Z0a h gb [s]) (hgb:gb < 256 * c) (hv:SlI h c v 1 nv V) (hV:∀ j,0 <= gi V j /\ gi V j <= 1000000) (ht:t < n) :
 ∀ (r f:Nat) (a:Int),f + r = 4 -> -1000000000000 + (r:Int) * 8000000 <= a -> a <= 1000000000000 →
 Ans (G (Z6o none) [v,ptrTo gb,.int .i64 a,.int .i64 t,.int .i64 f] h c df) fun q=>q = ⟨.exit 4,[v,ptrTo gb,.int .i64 (a - sF Gl V t r f),.int .i64 t,.int .i64 4],h,c,df⟩:=by
 intro r
 have o1:=hv.okV
 have hG:=hs.1
 induction r with
 | zero =>
  intro f a hf h1 h2
  obtain rfl:f = 4:=by omega
  rw [sF,Int.sub_zero]
  refine Ans.lpG rfl rfl (Z7y ..) ?_
  unfold Z8T
  have fx:=True.intro
  refine Ans.go ?_
  clear fx
  (have fx:=ai o1 hgb; refine Ans.ex0 ?_; clear fx)
  rfl
 | succ r ih =>
  intro f a hf h1 h2
  have hf4:f < 4:=by omega
  have hf4':(f:Int) < 4:=by omega
  have hfl:=Z0i hG ht hf4
  have lg:ld1 h (.pointer (some ⟨gb,0,none⟩)) = some s:=by rw [Z01 hg]; rfl
  have lf:=hs.face (t:Int) (f:Int) (by omega) (by omega) (by omega) (by omega)
  rw [Int.toNat_natCast,Int.toNat_natCast] at lf
  have hsx:=hs.ixs
  obtain ⟨xb,hxb⟩:∃ xb,256 * (c + 1) + 7 = xb:=⟨_,rfl⟩
  obtain ⟨H,hH⟩:∃ H,newB h xb (ints (Z02 Gl t f)) = H:=⟨_,rfl⟩
  have hst:stN (newB h xb [.int .i64 0,.int .i64 0,.int .i64 0,.int .i64 0,.int .i64 0]) 5 (.pointer (some ⟨xb,0,none⟩)) (av (Z02 Gl t f)) = some H:=by rw [← hH]; exact stN_all _ _ 5 _ _ hfl rfl
  have sH:Z0u c h H:=by rw [← hH]; intro b hb; rw [Z07,if_neg (by omega)]
  have hxh:Z0a H xb (ints (Z02 Gl t f)):=by rw [← hH]; exact Z0a.newB_same _ _ _
  have b0:ld1 H (.pointer (some ⟨xb,0,none⟩)) = some (.int .i64 (Z0B (Z02 Gl t f))):=by rw [Z01 hxh,ints_getD _ _ (by omega)]; rfl
  have b1:ld1 H (.pointer (some ⟨xb,1 + f,none⟩)) = some (.int .i64 ((Z0c (Z02 Gl t f)).getD f 0)):=by
   rw [Z01 hxh,ints_getD _ _ (by omega)]
   unfold Z0c
   rw [Z1H _ _ _ (by omega),Z1I]
  have ca:=fun c' (hc:c <= c')=>Z04 (Zp3 v n nv V t f H c' [] ((hv.same sH).mono hc) hnv hn ht hf4 hV)
  have bs:=Z9z hV (t:=t) (f:=f) (r:=4) (i:=0)
  have hself:¬ Z0B (Z02 Gl t f) < 0 -> ¬ (Z0B (Z02 Gl t f) = t /\ (Z0c (Z02 Gl t f)).getD f 0 = f):=fun q=>(Z2I (Z4o hok ht hf4) q).2.2.1
  have hek:Z6E Gl t f = decide (0 <= Z0B (Z02 Gl t f) /\ (Z0B (Z02 Gl t f) < t ∨ (Z0B (Z02 Gl t f) = t /\ (Z0c (Z02 Gl t f)).getD f 0 < f))):=rfl
  rw [sF]
  obtain ⟨U,hU⟩:∃ U,Z0B (Z02 Gl t f) = U:=⟨_,rfl⟩
  obtain ⟨Q,hQ⟩:∃ Q,(Z0c (Z02 Gl t f)).getD f 0 = Q:=⟨_,rfl⟩
  rw [hU] at b0 hself hek
  rw [hQ] at b1 hself hek
  obtain ⟨W,hW⟩:∃ W,sI V t f 4 0 = W:=⟨_,rfl⟩
  rw [hW] at ca bs ⊢
  have stepY:Z6E Gl t f = false -> Ans (G (Z6o none) [v,ptrTo gb,.int .i64 (a - W),.int .i64 t,.int .i64 (f + 1:Nat)] h c df) fun q=>q = ⟨.exit 4,[v,ptrTo gb,.int .i64 (a - ((if Z6E Gl t f = true then 0 else W) + sF Gl V t r (f + 1))),.int .i64 t,.int .i64 4],h,c,df⟩:=fun e=>by
   rw [if_neg (by rw [e]; simp),show a - (W + sF Gl V t r (f + 1)) = a - W - sF Gl V t r (f + 1) by omega]
   exact ih (f + 1) (a - W) (by omega) (by omega) (by omega)
  have stepN:Z6E Gl t f = true -> Ans (G (Z6o none) [v,ptrTo gb,.int .i64 a,.int .i64 t,.int .i64 (f + 1:Nat)] h c df) fun q=>q = ⟨.exit 4,[v,ptrTo gb,.int .i64 (a - ((if Z6E Gl t f = true then 0 else W) + sF Gl V t r (f + 1))),.int .i64 t,.int .i64 4],h,c,df⟩:=fun e=>by
   rw [if_pos e,Int.zero_add]
   exact ih (f + 1) a (by omega) (by omega) h2
  clear ih
  refine Ans.lpG rfl rfl (Z7y ..) ?_
  unfold Z8T
  by_cases k1:U < 0
  · have:=stepY (by rw [hek]; exact decide_eq_false (by omega))
    have fx:=ai lg (ai hsx (ai lf (ai hxb (ai hst (ai b0 ca)))))
    refine Ans.go ?_
    clear fx
    (have fx:=ai o1 (ai hgb sH); refine Ans.nx0 ?_; clear fx)
    exact this
  · have hne:=hself k1
    by_cases k2:(t:Int) < U
    · have:=stepY (by rw [hek]; exact decide_eq_false (by omega))
      have fx:=ai lg (ai hsx (ai lf (ai hxb (ai hst (ai b0 ca)))))
      refine Ans.go ?_
      clear fx
      (have fx:=ai o1 (ai hgb sH); refine Ans.nx0 ?_; clear fx)
      exact this
    · by_cases k3:U = t
      · by_cases k4:(f:Int) < Q
        · have:=stepY (by rw [hek]; exact decide_eq_false (by omega))
          have fx:=ai lg (ai hsx (ai lf (ai hxb (ai hst (ai b0 (ai b1 ca))))))
          refine Ans.go ?_
          clear fx
          (have fx:=ai o1 (ai hgb sH); refine Ans.nx0 ?_; clear fx)
          exact this
        · have:=stepN (by rw [hek]; exact decide_eq_true (by omega))
          have fx:=ai lg (ai hsx (ai lf (ai hxb (ai hst (ai b0 b1)))))
          refine Ans.go ?_
          clear fx
          (have fx:=ai o1 (ai hgb sH); refine Ans.nx0 ?_; clear fx)
          exact this
      · have:=stepN (by rw [hek]; exact decide_eq_true (by omega))
        have fx:=ai lg (ai hsx (ai lf (ai hxb (ai hst (ai b0 b1)))))
        refine Ans.go ?_
        clear fx
        (have fx:=ai o1 (ai hgb sH); refine Ans.nx0 ?_; clear fx)
        exact this
theorem ZkW (s v:Value) (n nv:Nat) (Gl V:List Int) (gb:Nat) (h:FH) (c:Nat) (df:List Nat) (hn:n <= 60) (hnv:nv = 7 * n) (hok:Z0t Gl n = true) (hs:SlI h c s 20 n Gl) (hg:Z0a h gb [s]) (hgb:gb < 256 * c) (hv:SlI h c v 1 nv V) (hV:∀ j,0 <= gi V j /\ gi V j <= 1000000) :
 ∀ (r t:Nat) (a:Int),t + r = n -> -100000000000 + (r:Int) * 32000000 <= a -> a <= 100000000000 →
 Ans (G (ZbP none) [v,ptrTo gb,.int .i64 a,.int .i64 t] h c df) fun q=>q = ⟨.exit 2,[v,ptrTo gb,.int .i64 (a - sT Gl V r t),.int .i64 n],h,c,df⟩:=by
 intro r
 have o1:=hv.okV
 have ll:=hs.len
 have lg:ld1 h (.pointer (some ⟨gb,0,none⟩)) = some s:=by rw [Z01 hg]; rfl
 induction r with
 | zero =>
  intro t a ht h1 h2
  obtain rfl:t = n:=by omega
  rw [sT,Int.sub_zero]
  refine Ans.lpG rfl rfl (Z7z ..) ?_
  unfold Z8U
  have fx:=ai lg ll
  refine Ans.go ?_
  clear fx
  (have fx:=ai o1 hgb; refine Ans.ex0 ?_; clear fx)
  rfl
 | succ r ih =>
  intro t a ht h1 h2
  have hin:=Ans.eq (ZkX s v n nv Gl V gb t h (c + 1 + 1) df hn hnv hok (hs.mono (by omega)) hg (by omega) (hv.mono (by omega)) hV (by omega) 4 0 a (by omega) (by omega) (by omega))
  simp only [Int.ofNat_eq_natCast,Int.cast_ofNat_Int] at hin
  have bs:=Z9A (Gl:=Gl) hV (t:=t) (r:=4) (f:=0)
  rw [sT]
  obtain ⟨W,hW⟩:∃ W,sF Gl V t 4 0 = W:=⟨_,rfl⟩
  rw [hW] at hin bs ⊢
  rw [show a - (W + sT Gl V r (t + 1)) = a - W - sT Gl V r (t + 1) by omega]
  refine Ans.lpG rfl rfl (Z7z ..) ?_
  unfold Z8U
  have fx:=ai lg (ai ll hin)
  refine Ans.go ?_
  clear fx
  (have fx:=ai o1 hgb; refine Ans.nx0 ?_; clear fx)
  exact ih (t + 1) (a - W) (by omega) (by omega) (by omega)
theorem ZpT {L:List Int} (h:∀ x,x ∈ L -> 0 <= x /\ x <= 5000000):0 <= Z5E L /\ Z5E L <= L.length * 5000000:=Z4l (by omega) h
set_option maxHeartbeats 1000000 in
theorem ZkV (s v:Value) (n nv:Nat) (Gl V:List Int) (h:FH) (c:Nat) (df:List Nat) (hs:SlI h c s 20 n Gl) (hv:SlI h c v 1 nv V) (hnv:nv <= 1000000) :
 G (.fn 32) [.agg #[s],v] h c df = some ⟨.ret,[.tuple #[.int .i64 (eulV Gl n V),.int .i64 (Z7O Gl n (Z2Y Gl n V))]],h,c,[]⟩:=by
 refine Z0m (fun r e=>f32_go e) (OkV.tup2 _ _ _ _ _) ?_
 unfold ZqS
 rw [Z4c hs.flat,Z43,Nat.add_zero]
 simp only [cond_true]
 obtain ⟨H,hH⟩:∃ H,newB h (256 * c) [s] = H:=⟨_,rfl⟩
 have sH:Z0u c h H:=by rw [← hH]; simp (disch:=omega)
 have hg:Z0a H (256 * c) [s]:=by rw [← hH]; exact Z0a.newB_same _ _ _
 have l0:=Z0C hg
 obtain ⟨⟨re,rv,H1,k1,rd⟩,w1,r1,r2,r3,r4,r5⟩:=Z9J s v n nv Gl V H (c + 1 + 1) [] ((hs.same sH).mono (by omega)) ((hv.same sH).mono (by omega)) hnv
 simp only at r1 r2 r3 r4 r5
 subst r1 r2
 have s1:Z0u c h H1:=sH.trans (r4.mono (by omega))
 unfold eulV
 rcases r5 with ⟨h0,rfl⟩ | ⟨h0,w,rfl,sw⟩
 · have c1:=Z04 w1
   rw [if_neg h0]
   obtain ⟨E,hE⟩:∃ E,Z7O Gl n (Z2Y Gl n V) = E:=⟨_,rfl⟩
   rw [hE] at c1 h0 ⊢
   have fx:=ai hH (ai l0 c1)
   refine Ans.go ?_
   clear fx
   (have fx:=s1; exact Ans.pu)
 · have c1:=Z04 w1
   rw [if_pos h0,h0]
   obtain ⟨hr0,ha⟩:=Zau h0
   obtain ⟨hn,hok⟩:=Z1F hr0
   obtain ⟨a1,a2,a3,a4⟩:=Z2X.1 ha
   have hV:=Zck a2
   have hnv':nv = 7 * n:=by have:=hv.1; omega
   have hel:(edF Gl n).length <= 6 * n:=Z1Q _ _
   have hg1:Z0a H1 (256 * c) [s]:=hg.eqf (r4 _ (by omega))
   have hwl:∀ x,x ∈ (edF Gl n).map (wgt V) -> 0 <= x /\ x <= 5000000:=fun x hx=>by
    obtain ⟨y,_,rfl⟩:=List.mem_map.1 hx
    exact Z77 hV
   have hws:=ZpT hwl
   rw [List.length_map] at hws
   have hsum:=Ans.eq (ZlK v (ptrTo (256 * c)) w (edF Gl n).length ((edF Gl n).map (wgt V)) H1 (k1 + 1 + 1 + 1) [] (by omega) (sw.mono (by omega)) (fun j=>by
    rw [List.getD_eq_getElem?_getD]
    cases e:((edF Gl n).map (wgt V))[j]? with
    | none=>exact ⟨Int.le_refl _,by decide⟩
    | some x=>exact hwl x (List.mem_of_getElem? e)) (((hv.same s1).mono (by omega:c <= k1 + 1 + 1 + 1)).okV) (OkV.ptrTo (by omega)) (edF Gl n).length 0 0 (by omega) (by omega) (by omega))
   rw [List.drop_zero,Int.zero_add] at hsum
   simp only [Int.ofNat_eq_natCast,Int.cast_ofNat_Int] at hsum
   unfold eulL
   obtain ⟨X,hX⟩:∃ X,Z5E ((edF Gl n).map (wgt V)) = X:=⟨_,rfl⟩
   rw [hX] at hsum hws ⊢
   have hT:=ZfV (Gl:=Gl) hV (r:=n) (t:=0)
   have htet:=Ans.eq (ZkW s v n nv Gl V (256 * c) H1 (k1 + 1 + 1 + 1 + 1) [] hn hnv' hok ((hs.same s1).mono (by omega)) hg1 (by omega) ((hv.same s1).mono (by omega)) hV n 0 X (by omega) (by omega) (by omega))
   simp only [Int.ofNat_eq_natCast,Int.cast_ofNat_Int] at htet
   obtain ⟨Y,hY⟩:∃ Y,sT Gl V n 0 = Y:=⟨_,rfl⟩
   rw [hY] at htet hT ⊢
   have hsv:=Ans.eq (Zjp v nv V H1 (k1 + 1 + 1 + 1 + 1 + 1) [] (by omega) ((hv.same s1).mono (by omega)) (fun j=>by have:=hV j; rw [Z3Z] at this; omega) nv 0 (X - Y) (by omega) (by omega) (by omega))
   rw [List.drop_zero] at hsv
   simp only [Int.ofNat_eq_natCast,Int.cast_ofNat_Int] at hsv
   rw [show X + Z5E V - Y = X - Y + Z5E V by omega]
   have fx:=ai hH (ai l0 (ai c1 (ai hsum (ai htet hsv))))
   refine Ans.go ?_
   clear fx
   (have fx:=s1; exact Ans.pu)
end Go.Proofs.Ytcnndelmnobigaa

namespace Go.Ab
end Go.Ab

namespace Go.Proofs.Ytcnndelmnobigaa
open Go Go.Ab Go.Proofs
end Go.Proofs.Ytcnndelmnobigaa

namespace Go.Proofs.Ytcnndelmnobigaa
open Go Go.Ab Go.Proofs
end Go.Proofs.Ytcnndelmnobigaa

namespace Go.Proofs.Ytcnndelmnobigaa
open Go Go.Ab Go.Proofs
def LkR (h:FH) (c0:Nat) (w:Value) (n:Nat) (C:List Int) (m:Nat) (Fl:List Int):Prop :=
 Z11 w = some (.int .i64 m) /\ ∀ i,i < m -> ∃ l p x,Fl[i]? = some x /\ ixS 1 w (.int .i64 i) = some p /\ (∃ b o,p = .pointer (some ⟨b,o,none⟩) /\ b < 256 * c0) /\ ld1 h p = some l /\ SlI h c0 l 1 (7 * n) (Z6C C n x) /\ SlX h l 1 (7 * n)
theorem Zg7 {h h':FH} {c b o:Nat} (hs:Z0u c h h') (hb:b < 256 * c):ld1 h' (.pointer (some ⟨b,o,none⟩)) = ld1 h (.pointer (some ⟨b,o,none⟩)):=by
 have:HeapC.get h' b = HeapC.get h b:=hs b hb
 simp only [ld1,Z2J,Option.bind_some,Z5P,Z0v,this]
theorem LkR.same {h h':FH} {c0:Nat} {w:Value} {n:Nat} {C:List Int} {m:Nat} {Fl:List Int} (hr:LkR h c0 w n C m Fl) (hs:Z0u c0 h h'):LkR h' c0 w n C m Fl:=by
 obtain ⟨h1,h2⟩:=hr
 refine ⟨h1,fun i hi=>?_⟩
 obtain ⟨l,p,x,e1,e2,⟨b,o,rfl,e3⟩,e4,e5,e6⟩:=h2 i hi
 exact ⟨l,_,x,e1,e2,⟨b,o,rfl,e3⟩,(Zg7 hs e3).trans e4,e5.same hs,SlX.keep e5 hs e6⟩
end Go.Proofs.Ytcnndelmnobigaa

namespace Go.Proofs.Ytcnndelmnobigaa
open Go Go.Ab Go.Proofs
theorem Zct (a b:Value) (m:Nat) (A B:List Int) (h:FH) (c:Nat) (ha:SlI h c a 1 m A) (hb:SlI h c b 1 m B) (df:List Nat):∀ (k i:Nat),i + k = m →
 Ans (G (ZbX none) [a,b,.bool false,.int .i64 i] h c df) fun r=>r.h = h /\ r.c = c /\ r.df = df /\ ((r.e = .exit 0 /\ ∀ j:Nat,i <= j -> j < m -> gi A j = gi B j) ∨ (r.e = .ret /\ r.v 2 = .bool false /\ ∃ j:Nat,j < m /\ gi A j ≠ gi B j)):=by
 intro k
 have o1:=ha.okV
 have o2:=hb.okV
 have la:=ha.len
 have hm:=ha.2.1
 induction k with
 | zero =>
  intro i hi
  obtain rfl:i = m:=by omega
  refine Ans.lpG rfl rfl (Z5w ..) ?_
  unfold Z4M
  have fx:=la
  refine Ans.go ?_
  clear fx
  (have fx:=ai o1 o2; refine Ans.ex0 ?_; clear fx)
  exact ⟨rfl,rfl,rfl,.inl ⟨rfl,fun j h1 h2=>by omega⟩⟩
 | succ k ih =>
  intro i hi
  have l1:=ha.rdi i (by omega) (by omega)
  have l2:=hb.rdi i (by omega) (by omega)
  simp only [Int.toNat_natCast] at l1 l2
  obtain ⟨x,hx⟩:∃ x,gi A i = x:=⟨_,rfl⟩
  obtain ⟨y,hy⟩:∃ y,gi B i = y:=⟨_,rfl⟩
  rw [hx] at l1
  rw [hy] at l2
  have him:(i:Int) < m:=by omega
  refine Ans.lpG rfl rfl (Z5w ..) ?_
  unfold Z4M
  by_cases e:x = y
  · have fx:=ai la (ai ha.ixs1 (ai hb.ixs1 (ai l1 l2)))
    refine Ans.go ?_
    clear fx
    (have fx:=ai o1 o2; refine Ans.nx0 ?_; clear fx)
    refine (ih (i + 1) (by omega)).mono ?_
    rintro r ⟨q1,q2,q3,q4⟩
    refine ⟨q1,q2,q3,q4.imp (fun ⟨a,b⟩=>⟨a,fun j h1 h2=>?_⟩) id⟩
    by_cases ej:j = i
    · rw [ej,hx,hy,e]
    · exact b j (by omega) h2
  · have fx:=ai la (ai ha.ixs1 (ai hb.ixs1 (ai l1 l2)))
    refine Ans.go ?_
    clear fx
    (have fx:=ai o1 o2; refine Ans.rt0 ?_; clear fx)
    exact ⟨rfl,rfl,rfl,.inr ⟨rfl,rfl,i,by omega,by rw [hx,hy]; exact e⟩⟩
theorem gi_ext {A B:List Int} (hl:A.length = B.length) (h:∀ j:Nat,j < A.length -> gi A j = gi B j):A = B:=by
 refine List.ext_getElem hl fun j h1 h2=>?_
 have:=h j h1
 rw [Z3Z,Z3Z,List.getD_eq_getElem?_getD,List.getD_eq_getElem?_getD,List.getElem?_eq_getElem h1,List.getElem?_eq_getElem h2] at this
 exact this
theorem Z9Q (a b:Value) (m n:Nat) (A B:List Int) (h:FH) (c:Nat) (df:List Nat) (ha:SlI h c a 1 m A) (hb:SlI h c b 1 n B) :
 G (.fn 21) [a,b] h c df = some ⟨.ret,[.bool (decide (A = B))],h,c,[]⟩:=by
 refine Z0m (fun r e=>f21_go e) (by simp) ?_
 unfold ZkP
 have la:=ha.len
 have lb:=hb.len
 have hA:=ha.1
 have hB:=hb.1
 by_cases e:m = n
 · subst e
   obtain ⟨⟨re,rv,rh,rc,rd⟩,hr,r1,r2,r3,r4⟩:=Zct a b m A B h (c + 1 + 1 + 1) (ha.mono (by omega)) (hb.mono (by omega)) [] m 0 (by omega)
   simp only at r1 r2 r3 r4
   subst r1 r2 r3
   simp only [Int.ofNat_eq_natCast,Int.cast_ofNat_Int] at hr
   rcases r4 with ⟨rfl,r5⟩ | ⟨rfl,r5,j,j1,j2⟩
   · have:A = B:=gi_ext (by omega) (fun j hj=>r5 j (by omega) (by omega))
     rw [decide_eq_true this]
     have fx:=ai la (ai lb hr)
     refine Ans.go ?_
     clear fx
     exact Ans.pure rfl (by simp)
   · have:¬ A = B:=fun e=>j2 (by rw [e])
     rw [decide_eq_false this]
     have fx:=ai la (ai lb hr)
     refine Ans.go ?_
     clear fx
     exact Ans.pure r5 (by simp)
 · have:¬ A = B:=fun h=>e (by rw [h] at hA; omega)
   rw [decide_eq_false this]
   have e':¬ ((m:Int) = n):=by omega
   have fx:=ai la lb
   refine Ans.go ?_
   clear fx
   exact Ans.pure rfl (by simp)
end Go.Proofs.Ytcnndelmnobigaa

namespace Go.Proofs.Ytcnndelmnobigaa
open Go Go.Ab Go.Proofs
def LkN (c0:Nat) (h:FH) (c:Nat) (v:Value) (n:Nat) (C:List Int) (i:Nat) (Fl:List Int):Prop :=
 ∃ vals,Zcj c0 h c v i vals /\ ∀ (k:Nat) (x:Int),k < i -> Fl[k]? = some x -> ∃ w,vals[k]? = some w /\ RowV c0 h c w (7 * n) (Z6C C n x) /\ Z0p w ≠ Z0p v
theorem Zm7 (h0:FH) (gb lb rb n c:Nat) (C:List Int) (out:Value) (first:Nat) (hn:n <= 60) (hd:Z1M C (4 * n)) (hg:h0.f lb = some (.cells false none (ints (Zea C (4 * n))))) (hlb:lb < 256 * c) (hgb:gb < 256 * c) (hrb:rb < 256 * c) (hne:lb ≠ rb) (o1:OkV c out) (hf:first < 4 * n) (hff:Z06 C first = first) (df:List Nat) :
 ∀ (r x:Nat) (X:List Int),x + r = 4 * n -> X.length = 7 * n →
 Ans (G (ZbS none) [ptrTo gb,.slice (some ⟨lb,0,none⟩) (4 * n) (4 * n),out,.int .i64 (Z0V C first:Nat),.slice (some ⟨rb,0,none⟩) (7 * n) (7 * n),.int .i64 x] (newB h0 rb (ints X)) c df) fun q=>q = ⟨.exit 2,[ptrTo gb,.slice (some ⟨lb,0,none⟩) (4 * n) (4 * n),out,.int .i64 (Z0V C first:Nat),.slice (some ⟨rb,0,none⟩) (7 * n) (7 * n),.int .i64 (4 * n:Nat)],newB h0 rb (ints (lkK C first r x X)),c,df⟩:=by
 intro r
 induction r with
 | zero =>
  intro x X hx hX
  obtain rfl:x = 4 * n:=by omega
  refine Ans.lpG rfl rfl (Z5t ..) ?_
  unfold Z6p
  have fx:=True.intro
  refine Ans.go ?_
  clear fx
  (have fx:=ai hgb (ai hlb (ai hrb o1)); refine Ans.ex0 ?_; clear fx)
  rfl
 | succ r ih =>
  intro x X hx hX
  have hx4:x < 4 * n:=by omega
  have hle:=Z0G hd hx4
  have hrr:=Z1S hd hx4
  have l1:ld1 (newB h0 rb (ints X)) (.pointer (some ⟨lb,x,none⟩)) = some (.int .i64 (Z0V C (Z06 C x):Nat)):=by
   rw [ld1_newB_ne _ _ _ _ _ hne,Z01 ⟨false,none,hg⟩,ints_getD _ _ (by rw [Z1q]; exact hx4),Z4q _ hx4]
  have q1:=Zen x 4 (by omega) (by omega)
  have q2:=Zej x 4 (by omega)
  simp only [Int.ofNat_eq_natCast,Int.cast_ofNat_Int] at q1 q2
  have hw:stN (newB h0 rb (ints X)) 1 (.pointer (some ⟨rb,x / 4 * 7 + x % 4,none⟩)) (.int .i64 1) = some (newB h0 rb (ints (X.set (x / 4 * 7 + x % 4) 1))):=by
   rw [st1_int _ _ _ _ _ _ (by simp; omega),Z0K]
  have d1:x / 4 <= n - 1:=by omega
  have d2:x % 4 < 4:=by omega
  have hkey:(Z0V C (Z06 C x) = Z0V C first) ↔ Z06 C x = first:=⟨fun e=>ZnF (m:=4 * n) (by omega) hf hrr hff e,fun e=>by rw [e]⟩
  rw [lkK]
  have hx4':(x:Int) < (4 * n:Nat):=by omega
  obtain ⟨T,hT⟩:∃ T,x / 4 = T:=⟨_,rfl⟩
  obtain ⟨E,hE⟩:∃ E,x % 4 = E:=⟨_,rfl⟩
  rw [hT] at q1 hw d1 ⊢
  rw [hE] at q2 hw d2 ⊢
  obtain ⟨A,hA⟩:∃ A,Z0V C (Z06 C x) = A:=⟨_,rfl⟩
  obtain ⟨B,hB⟩:∃ B,Z0V C first = B:=⟨_,rfl⟩
  rw [hA] at l1 hkey
  rw [hB] at hkey ih ⊢
  have e7:(7 * (T:Int) + E).toNat = T * 7 + E:=by omega
  by_cases e:A = B
  · rw [if_pos (hkey.1 e)]
    have e':(A:Int) = B:=by omega
    refine Ans.lpG rfl rfl (Z5t ..) ?_
    unfold Z6p
    have fx:=ai l1 (ai q1 (ai q2 (ai e7 hw)))
    refine Ans.go ?_
    clear fx
    (have fx:=ai hgb (ai hlb (ai hrb o1)); refine Ans.nxB (B:=newB h0 rb (ints (X.set (T * 7 + E) 1))) ?_ ?_; exact (Z2e.both (Z1t.ints _ _) (Z2e.refl _ _) hrb); clear fx)
    exact ih (x + 1) _ (by omega) (by simp [hX])
  · rw [if_neg (fun q=>e (hkey.2 q))]
    have e':¬ (A:Int) = B:=by omega
    refine Ans.lpG rfl rfl (Z5t ..) ?_
    unfold Z6p
    have fx:=l1
    refine Ans.go ?_
    clear fx
    (have fx:=ai hgb (ai hlb (ai hrb o1)); refine Ans.nx0 ?_; clear fx)
    exact ih (x + 1) X (by omega) hX
set_option maxHeartbeats 2000000 in
theorem Zk4 (s:Value) (n:Nat) (Gl:List Int) (gb lb c0:Nat) (C:List Int) (hn:n <= 60) (hd:Z1M C (4 * n)) (hgb:gb < 256 * c0) (hlb:lb < 256 * c0) (df:List Nat) :
 ∀ (k i cc:Nat) (h:FH) (out:Value),i + k = Z0V C (4 * n) -> c0 <= cc -> Z0a h gb [s] -> SlI h c0 s 20 n Gl -> h.f lb = some (.cells false none (ints (Zea C (4 * n)))) -> LkN c0 h cc out n C i (Z0s C (4 * n)) →
 Ans (G (ZbT none) [ptrTo gb,.slice (some ⟨lb,0,none⟩) (4 * n) (4 * n),out,.int .i64 i] h cc df) fun r=>r.e = .exit 0 /\ cc <= r.c /\ r.df = df /\ Z0u c0 h r.h /\ LkN c0 r.h r.c (r.v 2) n C (Z0V C (4 * n)) (Z0s C (4 * n)):=by
 intro k
 induction k with
 | zero =>
  intro i cc h out hi hc hg hs hl hv
  obtain rfl:i = Z0V C (4 * n):=by omega
  have cn:=fun c' (hc:cc <= c')=>Z04 (Zda (.slice (some ⟨lb,0,none⟩) (4 * n) (4 * n)) (4 * n) C h c' [] (by omega) hd (Zb6 hl (Z1q _ _) (by omega) (by omega)))
  obtain ⟨M,hM⟩:∃ M,Z0V C (4 * n) = M:=⟨_,rfl⟩
  rw [hM] at cn hv ⊢
  refine Ans.lpN rfl rfl (Z7C ..) ?_
  unfold Z90
  have fx:=cn
  refine Ans.go ?_
  clear fx
  refine Ans.exitN ⟨rfl,(by show cc <= cc + 1; omega),rfl,fun _ _=>rfl, ?_⟩
  obtain ⟨vals,a1,a2⟩:=hv
  refine ⟨vals,a1.mono (by show cc <= cc + 1; omega),fun k x h1 h2=>?_⟩
  obtain ⟨w,w1,⟨q,z1,z2,z3,z4⟩,w3⟩:=a2 k x h1 h2
  exact ⟨w,w1,⟨q,z1,z2,(by show q < 256 * (cc + 1); omega),z4⟩,w3⟩
 | succ k ih =>
  intro i cc h out hi hc hg hs hl hv
  obtain ⟨vals,a1,a2⟩:=hv
  have cn:=fun c' (hc:cc <= c')=>Z04 (Zda (.slice (some ⟨lb,0,none⟩) (4 * n) (4 * n)) (4 * n) C h c' [] (by omega) hd (Zb6 hl (Z1q _ _) (by omega) (by omega)))
  have him:i < Z0V C (4 * n):=by omega
  have hil:i < (Z0s C (4 * n)).length:=him
  obtain ⟨x,hx,hx4,hxr⟩:=Z6Z (List.getElem_mem hil)
  have hget:(Z0s C (4 * n))[i]? = some (x:Int):=by rw [List.getElem?_eq_getElem hil,hx]
  have hfi:Z0V C x = i:=Zah hget
  have fle:=Z83 C (4 * n)
  have lg:ld1 h (.pointer (some ⟨gb,0,none⟩)) = some s:=by rw [Z01 hg]; rfl
  have ls:=hs.len
  have mk:=Z5R 1 8 .i64 .i64 (7 * n) (by omega) (by omega)
  rw [show ((7 * n:Nat):Int) = 7 * (n:Int) by omega] at mk
  obtain ⟨rb,hrb⟩:∃ rb,256 * (cc + 1) + 4 = rb:=⟨_,rfl⟩
  have hin:=Ans.eq (Zm7 h gb lb rb n (cc + 1 + 1 + 1) C out x hn hd hl (by omega) (by omega) (by omega) (by omega) (a1.okV |>.mono (by omega)) hx4 hxr df (4 * n) 0 (List.replicate (7 * n) 0) (by omega) (by simp))
  rw [show lkK C x (4 * n) 0 (List.replicate (7 * n) 0) = Z6C C n x by rw [Z6C,Int.toNat_natCast],hfi] at hin
  simp only [Int.ofNat_eq_natCast,Int.cast_ofNat_Int] at hin
  obtain ⟨X,hX⟩:∃ X,Z6C C n x = X:=⟨_,rfl⟩
  have hXl:X.length = 7 * n:=by rw [← hX,Z6C,Z82]; simp
  obtain ⟨H,hH⟩:∃ H,newB h rb (ints X) = H:=⟨_,rfl⟩
  rw [hX,hH] at hin
  have fH:∀ b,b ≠ rb -> H.f b = h.f b:=fun b hb=>by rw [← hH,Z07,if_neg hb]
  have fl:H.f rb = some (.cells false none (ints X)):=by rw [← hH,Z07,if_pos rfl]
  have hbl:Z48 [(.slice none 0 0)] [(0,1,(.slice (some ⟨rb,0,none⟩) (7 * n) (7 * n)))] = some [.slice (some ⟨rb,0,none⟩) (7 * n) (7 * n)]:=rfl
  have aH:Zcj c0 H (cc + 1 + 1 + 1) out i vals:=(a1.keep fun hv=>fH _ (by have:=(a1.blk hv).2; omega)).mono (by omega)
  obtain ⟨h',p1,p2,p3⟩:=aH.app (c':=cc + 1 + 1 + 1 + 1 + 1) (.slice (some ⟨rb,0,none⟩) (7 * n) (7 * n)) rfl 24 (256 * (cc + 1 + 1 + 1) + 2) (256 * (cc + 1 + 1 + 1) + 3) (by omega) (by omega) (by omega) (by omega) (by omega) (by omega)
  have s0:Z0u c0 h h':=fun q hq=>by rw [p3 q (by omega) (fun hv=>by have:=(a1.blk hv).1; omega),fH q (by omega)]
  have hvl:=a1.length
  obtain ⟨M,hM⟩:∃ M,Z0V C (4 * n) = M:=⟨_,rfl⟩
  rw [hM] at cn him hi
  have him':(i:Int) < M:=by omega
  have ih':=ih (i + 1) (cc + 1 + 1 + 1 + 1 + 1) h' (.slice (some ⟨256 * (cc + 1 + 1 + 1) + 3,0,none⟩) (i + 1) (i + 1)) (by rw [hM]; omega) (by omega) (hg.same hgb s0) (hs.same s0) (by rw [s0 lb hlb,hl]) ⟨_,.inr p2,fun j y hj hy=>?_⟩
  · refine Ans.lpN rfl rfl (Z7C ..) ?_
    unfold Z90
    have fx:=ai cn (ai lg (ai ls (ai mk (ai hrb (ai hH (ai hin (ai hbl p1)))))))
    refine Ans.go ?_
    clear fx
    refine Ans.nextN ?_
    refine ih'.mono ?_
    rintro r ⟨q1,q2,q3,q4,q5⟩
    exact ⟨q1,by omega,q3,s0.trans q4,q5⟩
  · rcases Nat.lt_or_ge j i with hji | hji
    · obtain ⟨w,w1,⟨q,rfl,z2,z3,z4,z5⟩,w3⟩:=a2 j y hji hy
      rw [blkOf_sl] at w3
      refine ⟨_,by rw [List.getElem?_append_left (by omega)]; exact w1,⟨q,rfl,z2,by omega, ?_,z5⟩,by rw [blkOf_sl,blkOf_sl]; omega⟩
      rw [p3 q (by omega) (fun _=>w3),fH q (by omega),z4]
    · obtain rfl:j = i:=by omega
      have hy':y = x:=by rw [hget] at hy; exact (Option.some.inj hy).symm
      subst hy'
      rw [hX]
      refine ⟨_,by rw [List.getElem?_append_right (by omega),hvl,Nat.sub_self]; rfl,⟨rb,rfl,by omega,by omega, ?_,hXl,by omega⟩,by rw [blkOf_sl,blkOf_sl]; omega⟩
      rw [p3 rb (by omega) (fun hv=>by have:=(a1.blk hv).2; omega),fl]
theorem Zk6 (s:Value) (n:Nat) (Gl:List Int) (h:FH) (c:Nat) (df:List Nat) (hs:SlI h c s 20 n Gl) :
 Ans (G (.fn 30) [.agg #[s]] h c df) fun r=>r.e = .ret /\ r.df = [] /\ c <= r.c /\ Z0u c h r.h ∧
  ((Z4a Gl n ≠ 0 /\ r.vs = [.tuple #[.slice none 0 0,.int .i64 (Z4a Gl n)]]) ∨ (Z4a Gl n = 0 /\ ∃ v,r.vs = [.tuple #[v,.int .i64 0]] /\ LkN c r.h r.c v n (vxC Gl n) (vxF Gl n).length (vxF Gl n))):=by
 refine Ans.call' (fun r e=>f30_go e) ?_
 unfold ZqU
 rw [Z4c hs.flat,Z43,Nat.add_zero]
 simp only [cond_true]
 obtain ⟨H,hH⟩:∃ H,newB h (256 * c) [s] = H:=⟨_,rfl⟩
 have sH:Z0u c h H:=by rw [← hH]; simp (disch:=omega)
 have hg:Z0a H (256 * c) [s]:=by rw [← hH]; exact Z0a.newB_same _ _ _
 have l0:=Z0C hg
 have cr:=fun c' (hc:c <= c')=>Z04 (Zcy s n Gl H c' [] ((hs.same sH).mono hc))
 by_cases h0:Z4a Gl n = 0
 case neg =>
  obtain ⟨E,hE⟩:∃ E,Z4a Gl n = E:=⟨_,rfl⟩
  rw [hE] at cr h0 ⊢
  have fx:=ai hH (ai l0 cr)
  refine Ans.go ?_
  clear fx
  exact .done ⟨rfl,rfl,(by show c <= c + 1 + 1 + 1 + 1; omega),sH,.inl ⟨h0,rfl⟩⟩
 obtain ⟨hn,hok⟩:=Z1F h0
 rw [h0] at cr
 obtain ⟨⟨re,rv,H1,k1,rd⟩,w1,lb,e1,r1,r2,r3,r4,r5⟩:=Zef s n Gl H (c + 1 + 1 + 1 + 1) [] ((hs.same sH).mono (by omega)) hok hn
 obtain ⟨rfl,rfl,-,-,rfl⟩:=Rt.mk.inj e1
 simp only at r1 r2 r4 r5
 obtain ⟨hd,-⟩:=Zjj hok hs.1
 have hdG:Z1M (vxG Gl n) (4 * n):=ZeF hok hs.1 (by omega) (Z0z _)
 rw [Zb8 hdG (fun k hk=>Zlz hok hs.1 hk)] at r5
 have cE:callF G 62 [.agg #[s]] H (c + 1 + 1 + 1 + 1) = some (.slice (some ⟨lb,0,none⟩) (4 * n) (4 * n),H1,k1):=Z04 w1
 have s1:Z0u c h H1:=sH.trans (r2.mono (by omega))
 have hg1:Z0a H1 (256 * c) [s]:=hg.eqf (r2 _ (by omega))
 obtain ⟨⟨re,rv,H2,k2,rd⟩,w2,q1,q2,q3,q4,q5⟩:=Zk4 s n Gl (256 * c) lb k1 (vxC Gl n) hn hd (by omega) r4 [] (Z0V (vxC Gl n) (4 * n)) 0 (k1 + 1 + 1) H1 (.slice none 0 0) (by omega) (by omega) hg1 ((hs.same s1).mono (by omega)) r5 ⟨[],.inl ⟨rfl,rfl,rfl⟩,fun k x h1=>by omega⟩
 simp only [Int.ofNat_eq_natCast,Int.cast_ofNat_Int] at w2
 simp only at q1 q2 q3 q4
 subst q1 q3
 have fx:=ai hH (ai l0 (ai cr (ai cE w2)))
 refine Ans.go ?_
 clear fx
 refine .done ⟨rfl,rfl,(by show c <= k2 + 1; omega),s1.trans (q4.mono (by omega)),.inr ⟨h0,_,rfl, ?_⟩⟩
 obtain ⟨vals,a1,a2⟩:=q5
 refine ⟨vals, ?_,fun k x h1 h2=>?_⟩
 · rcases a1 with a1 | ⟨z1,z2,z3,i,op,z4,z5,z6,z7,z8⟩
   · exact .inl a1
   · exact .inr ⟨z1,z2,z3,i,op,z4,by omega,by show i < 256 * (k2 + 1); simp only at z6; omega,z7,z8⟩
 · obtain ⟨w,w1,⟨b,y1,y2,y3,y4⟩,x3⟩:=a2 k x h1 h2
   exact ⟨w,w1,⟨b,y1,by omega,by show b < 256 * (k2 + 1); simp only at y3; omega,y4⟩,x3⟩
def RwA (h:FH) (c:Nat) (v:Value) (m w:Nat) (L:Nat -> List Int):Prop :=
 OkV c v /\ Z11 v = some (.int .i64 m) /\ ∀ i,i < m -> ∃ x b o,ixS 1 v (.int .i64 i) = some (.pointer (some ⟨b,o,none⟩)) /\ b < 256 * c /\ ld1 h (.pointer (some ⟨b,o,none⟩)) = some x /\ SlI h c x 1 w (L i)
theorem RwA.same {h h':FH} {c:Nat} {v:Value} {m w:Nat} {L:Nat -> List Int} (a:RwA h c v m w L) (hs:Z0u c h h'):RwA h' c v m w L:=by
 obtain ⟨a0,a1,a2⟩:=a
 refine ⟨a0,a1,fun i hi=>?_⟩
 obtain ⟨x,b,o,e1,e2,e3,e4⟩:=a2 i hi
 exact ⟨x,b,o,e1,e2,(Zg7 hs e2).trans e3,e4.same hs⟩
theorem RwA.mono {h:FH} {c c':Nat} {v:Value} {m w:Nat} {L:Nat -> List Int} (a:RwA h c v m w L) (hc:c <= c'):RwA h c' v m w L:=by
 obtain ⟨a0,a1,a2⟩:=a
 refine ⟨a0.mono hc,a1,fun i hi=>?_⟩
 obtain ⟨x,b,o,e1,e2,e3,e4⟩:=a2 i hi
 exact ⟨x,b,o,e1,by omega,e3,e4.mono hc⟩
theorem RwA.nil (h:FH) (c w:Nat) (L:Nat -> List Int):RwA h c (.slice none 0 0) 0 w L:=⟨OkV.sl0 _ _ _,rfl,fun i hi=>by omega⟩
theorem RwA.eqN {c0:Nat} {h:FH} {c n:Nat} {v:Value} {D:List (List Int)} (e:EqN c0 h c n v D):RwA h c v D.length (7 * n) (fun i=>Z1C n (D.getD i [])):=by
 refine ⟨e.okV,e.len,fun i hi=>?_⟩
 obtain ⟨x,p,b,o,rfl,h1,h2,h3,_,h5⟩:=e.at hi
 exact ⟨x,b,o,h2,h1,h3,h5⟩
theorem RwA.eqV {c0:Nat} {h:FH} {c n:Nat} {Gl:List Int} {v:Value} (e:EqV c0 h c n Gl v):RwA h c v (Z1s Gl n).length (7 * n) (fun i=>Z1C n ((Z1s Gl n).getD i [])):=by
 obtain ⟨vals,a1,a2⟩:=e
 have e':EqN c0 h c n v (Z1s Gl n) ∨ True:=.inr trivial
 refine ⟨?_,EqV.len ⟨vals,a1,a2⟩,fun i hi=>?_⟩
 · obtain ⟨_,_,_,j,op,rfl,_,h6,_⟩:=a1; exact OkV.sl h6
 · obtain ⟨h1,h2,h3,b,op,rfl,h5,h6,h7,h8⟩:=a1
   obtain ⟨x,x1,b',rfl,y2,y3,y4,y5,y6⟩:=a2 i _ (List.getElem?_eq_getElem hi)
   have hg:(Z1s Gl n).getD i [] = (Z1s Gl n)[i]:=by simp [List.getD,List.getElem?_eq_getElem hi]
   refine ⟨.slice (some ⟨b',0,none⟩) (7 * n) (7 * n),b,0 + (i:Int).toNat * 1,ixS_sl _ _ _ _ _ _ _ (by omega) (by omega),h6, ?_, ?_⟩
   · rw [Z01 (cs:=vals) ⟨false,op,h7⟩]
     simpa using x1
   · show SlI h c _ 1 (7 * n) (Z1C n ((Z1s Gl n).getD i []))
     rw [hg]
     exact Zb6 y4 y5 y6 y3
theorem RwA.lkN {c0:Nat} {h:FH} {c n:Nat} {v:Value} {C:List Int} {m:Nat} {Fl:List Int} (e:LkN c0 h c v n C m Fl) (hm:m = Fl.length):RwA h c v m (7 * n) (fun i=>Z6C C n (Fl.getD i 0)):=by
 obtain ⟨vals,a1,a2⟩:=e
 refine ⟨a1.okV,a1.len,fun i hi=>?_⟩
 rcases a1 with ⟨_,h0,_⟩ | ⟨h1,h2,h3,b,op,rfl,h5,h6,h7,h8⟩
 · omega
 have hil:i < Fl.length:=by omega
 obtain ⟨x,x1,⟨b',rfl,y2,y3,y4,y5,y6⟩,x3⟩:=a2 i _ hi (List.getElem?_eq_getElem hil)
 have hg:Fl.getD i 0 = Fl[i]:=by simp [List.getD,List.getElem?_eq_getElem hil]
 refine ⟨.slice (some ⟨b',0,none⟩) (7 * n) (7 * n),b,0 + (i:Int).toNat * 1,ixS_sl _ _ _ _ _ _ _ (by omega) (by omega),h6, ?_, ?_⟩
 · rw [Z01 (cs:=vals) ⟨false,op,h7⟩]
   simpa using x1
 · show SlI h c _ 1 (7 * n) (Z6C C n (Fl.getD i 0))
   rw [hg]
   exact Zb6 y4 y5 y6 y3
theorem RwA.lkV {c0:Nat} {h:FH} {c n:Nat} {v:Value} {C:List Int} {m:Nat} {Fl:List Int} (e:LkV c0 h c v n C m Fl) (hm:m = Fl.length):RwA h c v m (7 * n) (fun i=>Z6C C n (Fl.getD i 0)):=by
 obtain ⟨vals,a1,a2⟩:=e
 exact RwA.lkN ⟨vals,.inr a1,a2⟩ hm
theorem Zju (a b:Value) (m w:Nat) (L:Nat -> List Int) (h:FH) (c:Nat) (df:List Nat) (hm:m <= 100000) (ha:RwA h c a m w L) (hb:RwA h c b m w L):∀ (r i:Nat),i + r = m →
 Ans (G (ZbU none) [a,b,.bool false,.int .i64 i] h c df) fun q=>q = ⟨.exit 0,[a,b,.bool false,.int .i64 m],h,c,df⟩:=by
 intro r
 obtain ⟨oa,la,fa⟩:=ha
 obtain ⟨ob,lb,fb⟩:=hb
 induction r with
 | zero =>
  intro i hi
  obtain rfl:i = m:=by omega
  refine Ans.lpG rfl rfl (Z7D ..) ?_
  unfold Z92
  have fx:=la
  refine Ans.go ?_
  clear fx
  (have fx:=ai oa ob; refine Ans.ex0 ?_; clear fx)
  rfl
 | succ r ih =>
  intro i hi
  obtain ⟨x,p,o,e1,e2,e3,e4⟩:=fa i (by omega)
  obtain ⟨y,p',o',g1,g2,g3,g4⟩:=fb i (by omega)
  have cs:=fun c' (hc:c <= c')=>Z04 (Z9Q x y w w (L i) (L i) h c' [] (e4.mono hc) (g4.mono hc))
  rw [decide_eq_true rfl] at cs
  have him:(i:Int) < m:=by omega
  refine Ans.lpG rfl rfl (Z7D ..) ?_
  unfold Z92
  have fx:=ai la (ai e1 (ai e3 (ai g1 (ai g3 cs))))
  refine Ans.go ?_
  clear fx
  (have fx:=ai oa ob; refine Ans.nx0 ?_; clear fx)
  exact ih (i + 1) (by omega)
theorem Zjt (a b:Value) (m w:Nat) (L:Nat -> List Int) (h:FH) (c:Nat) (df:List Nat) (hm:m <= 100000) (ha:RwA h c a m w L) (hb:RwA h c b m w L) :
 G (.fn 29) [a,b] h c df = some ⟨.ret,[.bool true],h,c + 1 + 1 + 1 + 1,[]⟩:=by
 refine Ans.eq (Ans.call' (fun r e=>f29_go e) ?_)
 unfold ZqV
 have l1:=ha.2.1
 have l2:=hb.2.1
 have hl:=Ans.eq (Zju a b m w L h (c + 1 + 1 + 1) [] hm (ha.mono (by omega)) (hb.mono (by omega)) m 0 (by omega))
 simp only [Int.ofNat_eq_natCast,Int.cast_ofNat_Int] at hl
 have fx:=ai l1 (ai l2 hl)
 refine Ans.go ?_
 clear fx
 exact .done rfl
end Go.Proofs.Ytcnndelmnobigaa

namespace Go.Proofs.Ytcnndelmnobigaa
open Go Go.Ab Go.Proofs
def RwC (g:FuncId) (args:List Value) (E:Int) (m w:Nat) (L:Nat -> List Int) (h:FH) (c:Nat):Prop :=
 ∃ v H' c',callF G g args h c = some (.tuple #[v,.int .i64 E],H',c') /\ c <= c' /\ Z0u c h H' /\ RwA H' c' v m w L
theorem Zl0 (s:Value) (n:Nat) (Gl:List Int) (h:FH) (c:Nat) (hs:SlI h c s 20 n Gl):RwC 26 [.agg #[s]] (Z4a Gl n) (if Z4a Gl n = 0 then (Z1s Gl n).length else 0) (7 * n) (fun i=>Z1C n ((Z1s Gl n).getD i [])) h c:=by
 obtain ⟨⟨re,rv,H,k,rd⟩,w,r1,r2,r3,r4,r5⟩:=ZjB s n Gl h c [] hs
 simp only at r1 r2 r3 r4 r5
 subst r1 r2
 rcases r5 with ⟨e,rfl⟩ | ⟨e,v,rfl,hv⟩
 · rw [if_neg e]; exact ⟨_,H,k,Z04 w,r3,r4,RwA.nil _ _ _ _⟩
 · rw [if_pos e]; rw [e]; exact ⟨_,H,k,Z04 w,r3,r4,RwA.eqN hv⟩
theorem ZkZ (s:Value) (n:Nat) (Gl:List Int) (h:FH) (c:Nat) (hs:SlI h c s 20 n Gl):RwC 27 [.agg #[s]] (Z4a Gl n) (if Z4a Gl n = 0 then (Z1s Gl n).length else 0) (7 * n) (fun i=>Z1C n ((Z1s Gl n).getD i [])) h c:=by
 obtain ⟨⟨re,rv,H,k,rd⟩,w,r1,r2,r3,r4,r5⟩:=ZdU s n Gl h c [] hs
 simp only at r1 r2 r3 r4 r5
 subst r1 r2
 rcases r5 with ⟨e,rfl⟩ | ⟨e,v,rfl,hv⟩
 · rw [if_neg e]; exact ⟨_,H,k,Z04 w,r3,r4,RwA.nil _ _ _ _⟩
 · rw [if_pos e]; rw [e]; exact ⟨_,H,k,Z04 w,r3,r4,RwA.eqV hv⟩
theorem Zk5 (s:Value) (n:Nat) (Gl:List Int) (h:FH) (c:Nat) (hs:SlI h c s 20 n Gl):RwC 30 [.agg #[s]] (Z4a Gl n) (if Z4a Gl n = 0 then (vxF Gl n).length else 0) (7 * n) (fun i=>Z6C (vxC Gl n) n ((vxF Gl n).getD i 0)) h c:=by
 obtain ⟨⟨re,rv,H,k,rd⟩,w,r1,r2,r3,r4,r5⟩:=Zk6 s n Gl h c [] hs
 simp only at r1 r2 r3 r4 r5
 subst r1 r2
 rcases r5 with ⟨e,rfl⟩ | ⟨e,v,rfl,hv⟩
 · rw [if_neg e]; exact ⟨_,H,k,Z04 w,r3,r4,RwA.nil _ _ _ _⟩
 · rw [if_pos e]; rw [e]; exact ⟨_,H,k,Z04 w,r3,r4,RwA.lkN hv rfl⟩
theorem Zk3 (s:Value) (n:Nat) (Gl:List Int) (h:FH) (c:Nat) (hs:SlI h c s 20 n Gl):RwC 14 [.agg #[s]] (Z4a Gl n) (if Z4a Gl n = 0 then (vxF Gl n).length else 0) (7 * n) (fun i=>Z6C (vxC Gl n) n ((vxF Gl n).getD i 0)) h c:=by
 obtain ⟨⟨re,rv,H,k,rd⟩,w,r1,r2,r3,r4,r5⟩:=Zm8 s n Gl h c [] hs
 simp only at r1 r2 r3 r4 r5
 subst r1 r2
 rcases r5 with ⟨e,rfl⟩ | ⟨e,v,rfl,hv⟩
 · rw [if_neg e]; exact ⟨_,H,k,Z04 w,r3,r4,RwA.nil _ _ _ _⟩
 · rw [if_pos e]; rw [e]; exact ⟨_,H,k,Z04 w,r3,r4,RwA.lkV hv rfl⟩
def WtC (g:FuncId) (args:List Value) (E:Int) (L:List Int) (h:FH) (c:Nat):Prop :=
 ∃ v H' c',callF G g args h c = some (.tuple #[v,.int .i64 E],H',c') /\ c <= c' /\ Z0u c h H' /\ SlI H' c' v 1 L.length L
theorem Zjd (s v:Value) (n nv:Nat) (Gl V:List Int) (h:FH) (c:Nat) (hs:SlI h c s 20 n Gl) (hv:SlI h c v 1 nv V) (hnv:nv <= 1000000):WtC 31 [.agg #[s],v] (Z7O Gl n (Z2Y Gl n V)) (if Z7O Gl n (Z2Y Gl n V) = 0 then (edF Gl n).map (wgt V) else []) h c:=by
 obtain ⟨⟨re,rv,H,k,rd⟩,w,r1,r2,r3,r4,r5⟩:=Z9J s v n nv Gl V h c [] hs hv hnv
 simp only at r1 r2 r3 r4 r5
 subst r1 r2
 rcases r5 with ⟨e,rfl⟩ | ⟨e,v,rfl,hv⟩
 · rw [if_neg e]; exact ⟨_,H,k,Z04 w,r3,r4,SlI.nil _ _ _⟩
 · rw [if_pos e]; rw [e]; exact ⟨_,H,k,Z04 w,r3,r4,by rw [List.length_map]; exact hv⟩
theorem Zjc (s v:Value) (n nv:Nat) (Gl V:List Int) (h:FH) (c:Nat) (hs:SlI h c s 20 n Gl) (hv:SlI h c v 1 nv V) (hx:SlX h v 1 nv) (hnv:nv <= 1000000):WtC 16 [.agg #[s],v] (Z7O Gl n (Z2Y Gl n V)) (if Z7O Gl n (Z2Y Gl n V) = 0 then (edF Gl n).map (wgt V) else []) h c:=by
 obtain ⟨⟨re,rv,H,k,rd⟩,w,r1,r2,r3,r4,r5⟩:=Zec s v n nv Gl V h c [] hs hv hx hnv
 simp only at r1 r2 r3 r4 r5
 subst r1 r2
 rcases r5 with ⟨e,rfl⟩ | ⟨e,v,rfl,hv⟩
 · rw [if_neg e]; exact ⟨_,H,k,Z04 w,r3,r4,SlI.nil _ _ _⟩
 · rw [if_pos e]; rw [e]; exact ⟨_,H,k,Z04 w,r3,r4,by rw [List.length_map]; exact hv.sl⟩
theorem short1 (v:Value) (nv:Nat) (sb:Nat) (h:FH) (c:Nat) (hsb:sb < 256 * c) (hh:Z0a h sb [v]) (h1:Z11 v = some (.int .i64 nv)) :
 callF G 18 [.slice (some ⟨sb,0,none⟩) 1 1] h c = some (.bool (decide (nv <= 50)),h,c):=by
 have:=ZlO [v] (fun j=>nv) sb h c [] hsb hh (by simp) (fun j hj=>by
  match j,hj with
  | 0,_=>exact h1)
 have e:((List.range [v].length).all fun j=>decide (nv <= 50)) = decide (nv <= 50):=by
  show ((List.range 1).all fun j=>decide (nv <= 50)) = _
  simp [List.range_succ]
 rw [e] at this
 exact Z04 this
set_option maxHeartbeats 4000000 in
theorem Z7Y (s v:Value) (n nv:Nat) (Gl V:List Int) (h:FH) (c:Nat) (hs:SlI h c s 20 n Gl) (hv:SlI h c v 1 nv V) (hx:SlX h v 1 nv) :
 Ans (G (.fn 6) [.agg #[s],v] h c []) fun x=>x.e = .ret /\ x.vs = [.bool true]:=by
 suffices hs:Ans (f6_S G (.agg #[s]) v h c) fun x=>x.e = .ret /\ x.vs = [.bool true] by
  obtain ⟨x,q1,q2⟩:=hs
  exact ⟨_,f6_go q1,by show (gcR h c [] x).e = _ /\ (gcR h c [] x).vs = _; rw [Zql,Zke]; exact q2⟩
 unfold f6_S
 rw [Z4c hs.flat,Z43,Nat.add_zero]
 simp only [cond_true]
 obtain ⟨H,hH⟩:∃ H,H = newB h (256 * c) [s]:=⟨_,rfl⟩
 have sH:Z0u c h H:=by rw [hH]; simp (disch:=omega)
 have hg:Z0a H (256 * c) [s]:=by rw [hH]; exact Z0a.newB_same _ _ _
 rw [← hH]
 clear hH
 have k0:=Zjs H
 have l1:=Z0C hg
 have lv:=hv.len
 have cs:=fun c' (hc:c <= c')=>Z04 (ZlN s n Gl H c' [] ((hs.same sH).mono hc))
 by_cases hn:n <= 6
 case neg =>
  rw [decide_eq_false hn] at cs
  have fx:=ai k0 (ai l1 cs)
  refine Ans.go ?_
  clear fx
  exact .done ⟨rfl,rfl⟩
 rw [decide_eq_true hn] at cs
 have hbl:=Zlm hv
 obtain ⟨sb,hsb⟩:∃ sb,256 * (c + 1 + 1) + 5 = sb:=⟨_,rfl⟩
 obtain ⟨K,hK⟩:∃ K,newB H sb [v] = K:=⟨_,rfl⟩
 have sK:Z0u c h K:=by rw [← hK]; exact sH.trans (by intro b hb; rw [Z07,if_neg (by omega)])
 have hgK:Z0a K (256 * c) [s]:=by rw [← hK]; exact hg.newB_ne (by omega)
 have hq':Z0a K sb [v]:=by rw [← hK]; exact Z0a.newB_same _ _ _
 have ch:=fun c' (hc:c + 1 + 1 + 1 <= c')=>short1 v nv sb K c' (by omega) hq' lv
 by_cases h50:nv <= 50
 case neg =>
  rw [decide_eq_false h50] at ch
  have fx:=ai k0 (ai l1 (ai cs (ai hbl (ai hsb (ai hK ch)))))
  refine Ans.go ?_
  clear fx
  exact .done ⟨rfl,rfl⟩
 rw [decide_eq_true h50] at ch
 have lK:=Z0C hgK
 have hgl:∀ {B:FH},Z0u (c + 1) K B -> ldN B 1 (.pointer (some ⟨256 * c,0,none⟩)) = some (.agg #[s]):=fun hh=>Z0C (hgK.same (by omega) hh)
 have hml:(if Z4a Gl n = 0 then (Z1s Gl n).length else 0) <= 100000:=by have:=Z75 Gl n; split <;> omega
 have hvl:(if Z4a Gl n = 0 then (vxF Gl n).length else 0) <= 100000:=by have:(vxF Gl n).length <= 4 * n:=Z1Q _ _; split <;> omega
 obtain ⟨v1,H1,k1,e1,g1,m1,a1⟩:=Zl0 s n Gl K (c + 1 + 1 + 1 + 1) ((hs.same sK).mono (by omega))
 have t1:Z0u (c + 1) K H1:=m1.mono (by omega)
 have s1:Z0u c h H1:=sK.trans (t1.mono (by omega))
 obtain ⟨v2,H2,k2,e2,g2,m2,a2⟩:=ZkZ s n Gl H1 (k1 + 1) ((hs.same s1).mono (by omega))
 have t2:Z0u (c + 1) K H2:=t1.trans (m2.mono (by omega))
 have s2:Z0u c h H2:=sK.trans (t2.mono (by omega))
 have a1':RwA H2 k1 v1 _ _ _:=a1.same (m2.mono (by omega))
 have c3:=fun c' (hc:c <= c')=>Z04 (Zlg s v n nv Gl V H2 c' [] ((hs.same s2).mono hc) ((hv.same s2).mono hc) (SlX.keep hv s2 hx) (by omega))
 have c4:=fun c' (hc:c <= c')=>Z04 (Zca s v n nv Gl V H2 c' [] ((hs.same s2).mono hc) ((hv.same s2).mono hc) (by omega))
 have c5:=fun c' (hc:k2 <= c')=>Z04 (Zjt v2 v1 _ (7 * n) _ H2 c' [] hml (a2.mono hc) (a1'.mono (by omega)))
 have z1:=hgl t1
 have z2:=hgl t2
 obtain ⟨v3,H3,k3,e3,g3,m3,a3⟩:=Zk5 s n Gl H2 (k2 + 1 + 1 + 1 + 1 + 1 + 1) ((hs.same s2).mono (by omega))
 have t3:Z0u (c + 1) K H3:=t2.trans (m3.mono (by omega))
 have s3:Z0u c h H3:=sK.trans (t3.mono (by omega))
 obtain ⟨v4,H4,k4,e4,g4,m4,a4⟩:=Zk3 s n Gl H3 (k3 + 1) ((hs.same s3).mono (by omega))
 have t4:Z0u (c + 1) K H4:=t3.trans (m4.mono (by omega))
 have s4:Z0u c h H4:=sK.trans (t4.mono (by omega))
 have a3':RwA H4 k3 v3 _ _ _:=a3.same (m4.mono (by omega))
 have c7:=fun c' (hc:k4 <= c')=>Z04 (Zjt v4 v3 _ (7 * n) _ H4 c' [] hvl (a4.mono hc) (a3'.mono (by omega)))
 have z3:=hgl t3
 have z4:=hgl t4
 obtain ⟨v5,H5,k5,e5,g5,m5,a5⟩:=Zjd s v n nv Gl V H4 (k4 + 1 + 1 + 1 + 1 + 1 + 1) ((hs.same s4).mono (by omega)) ((hv.same s4).mono (by omega)) (by omega)
 have t5:Z0u (c + 1) K H5:=t4.trans (m5.mono (by omega))
 have s5:Z0u c h H5:=sK.trans (t5.mono (by omega))
 have c8:=fun c' (hc:c <= c')=>Z04 (ZkV s v n nv Gl V H5 c' [] ((hs.same s5).mono hc) ((hv.same s5).mono hc) (by omega))
 obtain ⟨v6,H6,k6,e6,g6,m6,a6⟩:=Zjc s v n nv Gl V H5 (k5 + 1 + 1) ((hs.same s5).mono (by omega)) ((hv.same s5).mono (by omega)) (SlX.keep hv s5 hx) (by omega)
 have t6:Z0u (c + 1) K H6:=t5.trans (m6.mono (by omega))
 have s6:Z0u c h H6:=sK.trans (t6.mono (by omega))
 have c9:=fun c' (hc:c <= c')=>Z04 (ZoH s v n nv Gl V H6 c' [] ((hs.same s6).mono hc) ((hv.same s6).mono hc) (SlX.keep hv s6 hx) (by omega))
 have z5:=hgl t5
 have z6:=hgl t6
 have a5':=a5.same (m6.mono (by omega))
 have ci:=fun c' (hc:k6 <= c')=>Z04 (Z9Q v6 v5 _ _ _ _ H6 c' [] (a6.mono hc) (a5'.mono (by omega)))
 rw [decide_eq_true rfl] at ci
 clear hgl a1 a2 a3 a4 a5 a6 a1' a3' a5'
 obtain ⟨E,hE⟩:∃ E,Z7O Gl n (Z2Y Gl n V) = E:=⟨_,rfl⟩
 rw [hE] at c3 c4 e5 c8 e6 c9
 obtain ⟨R,hR⟩:∃ R,Z4a Gl n = R:=⟨_,rfl⟩
 rw [hR] at e1 e2 e3 e4
 obtain ⟨U,hU⟩:∃ U,eulV Gl n V = U:=⟨_,rfl⟩
 rw [hU] at c8 c9
 have fx:=ai k0 (ai l1 (ai cs (ai hbl (ai hsb (ai hK (ai ch (ai lK (ai e1 (ai z1 (ai e2 (ai z2 (ai c3 (ai c4 (ai c5 (ai Z2j (ai e3 (ai z3 (ai e4 (ai z4 (ai c7 (ai e5 (ai z5 (ai c8 (ai e6 (ai z6 (ai c9 ci))))))))))))))))))))))))))
 refine Ans.go ?_
 clear fx
 exact .done ⟨rfl,rfl⟩
end Go.Proofs.Ytcnndelmnobigaa

namespace Go.Proofs.Ytcnndelmnobigaa
open Go.ChangeShapes Go.WideShapes Go.ChangeAt Go.RowKit
open Go Go.Ab Go.Proofs
theorem Try.own:ownKnob Try.prog.godebug = none:=by kernel_rfl
theorem Try.laidOut:laidOutB Try.prog = true:=by kernel_rfl
theorem ZeJ:Z4X P 3 1:=Z4X.int Try.underlying3 (by kernel_rfl)
theorem ZnG:Z4X P 39 4:=Z4X.array (n:=4) (z:=1) Try.underlying39 ZeJ (by kernel_rfl)
theorem ZnH:Z4X P 41 5:=Z4X.struct2 (z0:=1) (z1:=4) Try.underlying41 ZeJ ZnG rfl rfl (by kernel_rfl)
theorem Zqm:Z4X P 42 20:=Z4X.array (n:=4) (z:=5) Try.underlying42 ZnH (by kernel_rfl)
theorem Zev {H:Type} {enc:TypeId × Value -> H} {W:World} {base:Nat} {v:Value} {d:DataW H} {ps:List MemPlace} (hval:Value.okWide P W .any base 24 v) (hd:DataW.Trod enc P W 0 (fun _=>true) true 24 v d ps) :
 ∃ s n Gl,v = .agg #[s] /\ Z5J W s 20 n Gl :=
 Zq5 Try.underlying24 (by kernel_rfl) (by kernel_rfl) Try.underlying22 rfl rfl (by kernel_rfl) Zqm (by omega) hval hd
theorem open_v {H:Type} {enc:TypeId × Value -> H} {W:World} {base:Nat} {v:Value} {d:DataW H} {ps:List MemPlace} (hval:Value.okWide P W .any base 34 v) (hd:DataW.Trod enc P W 0 (fun _=>true) true 34 v d ps) :
 ∃ n Gl,Z5J W v 1 n Gl:=Zq4 (e:=3) (sz:=1) Try.underlying34 ZeJ (by omega) hval hd
theorem Zk8 {f:FuncId} {W:World} {A:FH} {μ:Mu} {xs ys:List Value} (hR:R μ A W) (hf:Z23 μ 1) (hro:∀ i m,μ i = some m -> wrB (HeapC.get A i) = false) (hv:VRs μ xs ys) (h:Ans (G (.fn f) xs A 1 []) fun x=>x.e = .ret /\ x.vs = [.bool true]) :
 Calls P f ys.toArray W (ZpL W):=by
 obtain ⟨x,hx,he,hvs⟩:=h
 refine (ZhZ bk_ok ext_ok mixed hx hv hR hf).mono ?_
 rintro en w' ⟨u,v',μ',h1,h2,h3,hE⟩
 rw [hvs] at h1
 cases h1
 exact ⟨by rw [h2,h3.bool_left],hE.os,hE.tape,hE.output,hE.size,fun k hk=>hE.fr k hk (fun i m e hw=>by rw [hro i m e] at hw; cases hw)⟩
end Go.Proofs.Ytcnndelmnobigaa
