/- Parts of a proof: P1 B4 B5 AbJn B6 B10 U13. Conditions: none. -/
import Derived.Test.YtcnndelmnobigaaM22
import Derived.Test.YtcnndelmnobigaaM18
set_option linter.all false
set_option maxRecDepth 100000
namespace Go.Proofs.Ytcnndelmnobigaa
open Go Go.Ab Go.Proofs
theorem Z5Y {Gl:List Int} {n t f i:Nat} (hok:Z0t Gl n = true) (hG:Gl.length = n * 20) (ht:t < n) (hf:f < 4) (hi:i < 4) (hne:i ≠ f) (hg:¬ Z0B (Z02 Gl t f) < 0) :
 fU Gl (fU Gl t f) (fJ Gl t f f) = t /\ ¬ Z0B (Z02 Gl (fU Gl t f) (fJ Gl t f f)) < 0 /\ fJ Gl (fU Gl t f) (fJ Gl t f f) (fJ Gl t f i) = i /\ fJ Gl (fU Gl t f) (fJ Gl t f f) (fJ Gl t f f) = f /\ (Z1v Gl t f = true -> Z1v Gl (fU Gl t f) (fJ Gl t f f) = false):=by
 have g:=FGl.of hok hG ht hf hi hne hg
 obtain ⟨k1,k2,k3,k4⟩:=Z2I (Z4o hok ht hf) hg
 have kp:=ZjZ (Z1o (Z0i hG ht hf)) k2
 have vi:=Zps kp hi
 have vf:=Zps kp hf
 have li:=len24 (inv24 kp)
 have e1:Z0B ((t:Int) :: inv (Z0c (Z02 Gl t f))) = t:=rfl
 have e2:Z0c ((t:Int) :: inv (Z0c (Z02 Gl t f))) = inv (Z0c (Z02 Gl t f)):=by
  show List.take 4 (List.drop 1 ((t:Int) :: inv (Z0c (Z02 Gl t f)))) = _
  rw [List.drop_succ_cons,List.drop_zero,List.take_of_length_le (by omega)]
 have k5:Z02 Gl (fU Gl t f) (fJ Gl t f f) = (t:Int) :: inv (Z0c (Z02 Gl t f)):=k4
 have q1:Z0B (Z02 Gl (fU Gl t f) (fJ Gl t f f)) = t:=by rw [k5,e1]
 have q2:(Z0c (Z02 Gl (fU Gl t f) (fJ Gl t f f))).getD (fJ Gl t f i) 0 = i:=by rw [k5,e2]; exact vi
 have q3:(Z0c (Z02 Gl (fU Gl t f) (fJ Gl t f f))).getD (fJ Gl t f f) 0 = f:=by rw [k5,e2]; exact vf
 refine ⟨by rw [fU,q1,Int.toNat_natCast],by rw [q1]; omega,by rw [fJ,q2,Int.toNat_natCast],by rw [fJ,q3,Int.toNat_natCast],fun hs=>?_⟩
 have guz:=g.uz
 have ghz:=g.hz
 unfold Z1v at hs ⊢
 rw [q1,q3]
 rw [guz,ghz] at hs k3
 simp only [Bool.or_eq_true,Bool.and_eq_true,decide_eq_true_eq,Bool.or_eq_false_iff,Bool.and_eq_false_iff,decide_eq_false_iff_not] at hs ⊢
 omega
theorem ZgV {Gl:List Int} {n:Nat} (hok:Z0t Gl n = true) (hG:Gl.length = n * 20) {R:Nat -> Nat -> Nat -> Prop}
 (h1:∀ t f i,t < n -> f < 4 -> i < 4 -> i ≠ f -> Z1v Gl t f = false -> R t f i) (h2:∀ t f i,t < n -> f < 4 -> i < 4 -> i ≠ f -> ¬ Z0B (Z02 Gl t f) < 0 -> R (fU Gl t f) (fJ Gl t f f) (fJ Gl t f i) -> R t f i)
 {t f i:Nat} (ht:t < n) (hf:f < 4) (hi:i < 4) (hne:i ≠ f) (hg:¬ Z0B (Z02 Gl t f) < 0):R t f i:=by
 cases hs:Z1v Gl t f with
 | false=>exact h1 t f i ht hf hi hne hs
 | true =>
  have g:=FGl.of hok hG ht hf hi hne hg
  obtain ⟨a,b,d,e,k⟩:=Z5Y hok hG ht hf hi hne hg
  exact h2 t f i ht hf hi hne hg (h1 _ _ _ g.u g.h g.j g.ne (k hs))
theorem Z16 {Gl:List Int} {t f:Nat} (h:Z1v Gl t f = false):¬ Z0B (Z02 Gl t f) < 0:=by
 unfold Z1v at h
 simp only [Bool.or_eq_false_iff,decide_eq_false_iff_not] at h
 exact h.1.1
theorem mAB {Gl:List Int} {n t f i:Nat} (g:FGl Gl n t f i):mA (Z24 Gl t f i) = 4 * t + i /\ mB (Z24 Gl t f i) = fV Gl t f i:=by
 constructor
 · show (4 * (t:Int) + i).toNat = _
   omega
 · show (4 * Z0B (Z02 Gl t f) + (Z0c (Z02 Gl t f)).getD i 0).toNat = 4 * fU Gl t f + fJ Gl t f i
   rw [g.uz,g.jz]; omega
theorem Zkb {Gl:List Int} {n t f i:Nat} (hok:Z0t Gl n = true) (hG:Gl.length = n * 20) (ht:t < n) (hf:f < 4) (hi:i < 4) (hne:i ≠ f) (hg:¬ Z0B (Z02 Gl t f) < 0):Z06 (vxC Gl n) (4 * t + i) = Z06 (vxC Gl n) (fV Gl t f i):=by
 obtain ⟨hd,hs⟩:=Zjj hok hG
 refine ZgV (R:=fun t f i=>Z06 (vxC Gl n) (4 * t + i) = Z06 (vxC Gl n) (fV Gl t f i)) hok hG (fun t f i ht hf hi hne hm=>?_) (fun t f i ht hf hi hne hg h=>?_) ht hf hi hne hg
 · have:=hs _ (Z9G ht hf hi hne hm)
   have e:=mAB (FGl.of hok hG ht hf hi hne (Z16 hm))
   rw [e.1,e.2] at this
   exact this
 · obtain ⟨a,b,d,e,k⟩:=Z5Y hok hG ht hf hi hne hg
   unfold fV at h ⊢
   rw [a,d] at h
   exact h.symm
theorem ZgW {Gl V:List Int} {n t f i:Nat} (hok:Z0t Gl n = true) (hG:Gl.length = n * 20) (hV:((Z1s Gl n).all fun m=>eqM V m) = true) (ht:t < n) (hf:f < 4) (hi:i < 4) (hne:i ≠ f) (hg:¬ Z0B (Z02 Gl t f) < 0) :
 Z7P V t f i = Z7P V (fU Gl t f) (fJ Gl t f f) (fJ Gl t f i):=by
 refine ZgV (R:=fun t f i=>Z7P V t f i = Z7P V (fU Gl t f) (fJ Gl t f f) (fJ Gl t f i)) hok hG (fun t f i ht hf hi hne hm=>?_) (fun t f i ht hf hi hne hg h=>?_) ht hf hi hne hg
 · have:=List.all_eq_true.1 hV _ (Z9G ht hf hi hne hm)
   have g:=FGl.of hok hG ht hf hi hne (Z16 hm)
   unfold eqM at this
   rw [decide_eq_true_eq] at this
   have e:Z7P V (t:Int) f i = Z7P V (Z0B (Z02 Gl t f)) ((Z0c (Z02 Gl t f)).getD f 0) ((Z0c (Z02 Gl t f)).getD i 0):=this
   rw [g.uz,g.hz,g.jz] at e
   exact e
 · obtain ⟨a,b,d,e,k⟩:=Z5Y hok hG ht hf hi hne hg
   rw [a,d,e] at h
   exact h.symm
end Go.Proofs.Ytcnndelmnobigaa

namespace Go.Proofs.Ytcnndelmnobigaa
open Go Go.Ab Go.Proofs
def gI (Gl:List Int) (t f:Nat):Nat -> Nat -> List Int -> List Int
 | 0,_,C=>C
 | k + 1,i,C=>gI Gl t f k (i + 1) (if i = f then C else Z1P C (4 * t + i) (fV Gl t f i))
def gF (Gl:List Int) (t:Nat):Nat -> Nat -> List Int -> List Int
 | 0,_,C=>C
 | k + 1,f,C=>gF Gl t k (f + 1) (if Z0B (Z02 Gl t f) < 0 then C else gI Gl t f 4 0 C)
def gT (Gl:List Int):Nat -> Nat -> List Int -> List Int
 | 0,_,C=>C
 | k + 1,t,C=>gT Gl k (t + 1) (gF Gl t 4 0 C)
def vxG (Gl:List Int) (n:Nat):List Int:=gT Gl n 0 (Z0n (4 * n))
theorem ZnL {Gl:List Int} {n t f i:Nat} (g:FGl Gl n t f i):fV Gl t f i < 4 * n:=by have:=g.u; have:=g.j; unfold fV; omega
theorem ZeG {Gl:List Int} {n t f:Nat} (hok:Z0t Gl n = true) (hG:Gl.length = n * 20) (ht:t < n) (hf:f < 4) (hg:¬ Z0B (Z02 Gl t f) < 0):∀ {k i:Nat} {C:List Int},i + k = 4 -> Z1M C (4 * n) -> Z1M (gI Gl t f k i C) (4 * n)
 | 0,_,_,_,h=>h
 | k + 1,i,C,hi,h=>by
  rw [gI]
  refine ZeG hok hG ht hf hg (by omega) ?_
  split
  · exact h
  · rename_i hne
    exact Z13 h (by omega) (ZnL (FGl.of hok hG ht hf (by omega) hne hg))
theorem ZeH {Gl:List Int} {n t:Nat} (hok:Z0t Gl n = true) (hG:Gl.length = n * 20) (ht:t < n):∀ {k f:Nat} {C:List Int},f + k = 4 -> Z1M C (4 * n) -> Z1M (gF Gl t k f C) (4 * n)
 | 0,_,_,_,h=>h
 | k + 1,f,C,hf,h=>by
  rw [gF]
  refine ZeH hok hG ht (by omega) ?_
  split
  · exact h
  · rename_i hg
    exact ZeG hok hG ht (by omega) hg (by omega) h
theorem ZeF {Gl:List Int} {n:Nat} (hok:Z0t Gl n = true) (hG:Gl.length = n * 20):∀ {k t:Nat} {C:List Int},t + k = n -> Z1M C (4 * n) -> Z1M (gT Gl k t C) (4 * n)
 | 0,_,_,_,h=>h
 | k + 1,t,C,ht,h=>by
  rw [gT]
  exact ZeF hok hG (by omega) (ZeH hok hG (by omega) (by omega) h)
theorem ZlB (h:FH) (n:Nat) (Gl:List Int) (t1 l:Value) (t f xb c:Nat) (df:List Nat) (hx:Z0a h xb (ints (Z02 Gl t f))) (hl:(Z02 Gl t f).length = 5) (hxb:xb < 256 * c) (h0:Z0B (Z02 Gl t f) < 0) (o1:OkV c t1) (ol:OkV c l) :
 Ans (G (Z8u none) [t1,l,.int .i64 t,.int .i64 f,ptrTo xb,.int .i64 0] h c df) fun q=>q = ⟨.exit 4,[t1,l,.int .i64 t,.int .i64 f,ptrTo xb,.int .i64 0],h,c,df⟩:=by
 have b0:ld1 h (.pointer (some ⟨xb,0,none⟩)) = some (.int .i64 (Z0B (Z02 Gl t f))):=by rw [Z01 hx,ints_getD _ _ (by omega)]; rfl
 obtain ⟨U,hU⟩:∃ U,Z0B (Z02 Gl t f) = U:=⟨_,rfl⟩
 rw [hU] at b0 h0
 refine Ans.lpG rfl rfl (Z2Q ..) ?_
 unfold Z4C
 have fx:=b0
 refine Ans.go ?_
 clear fx
 (have fx:=ai o1 (ai ol hxb); refine Ans.ex0 ?_; clear fx)
 rfl
theorem ZlA (h0:FH) (n:Nat) (Gl:List Int) (t1:Value) (t f xb lb c:Nat) (df:List Nat) (hn:n <= 60) (hok:Z0t Gl n = true) (hG:Gl.length = n * 20) (ht:t < n) (hf:f < 4) (hg:¬ Z0B (Z02 Gl t f) < 0) (hx:Z0a h0 xb (ints (Z02 Gl t f))) (hxb:xb < 256 * c) (hlb:lb < 256 * c) (hne:xb ≠ lb) (o1:OkV c t1) :
 ∀ (k i:Nat) (C:List Int),i + k = 4 -> Z1M C (4 * n) →
 Ans (G (Z8u none) [t1,.slice (some ⟨lb,0,none⟩) (4 * n) (4 * n),.int .i64 t,.int .i64 f,ptrTo xb,.int .i64 i] (newB h0 lb (ints (Z25 C (4 * n)))) c df) fun q=>q = ⟨.exit 4,[t1,.slice (some ⟨lb,0,none⟩) (4 * n) (4 * n),.int .i64 t,.int .i64 f,ptrTo xb,.int .i64 4],newB h0 lb (ints (Z25 (gI Gl t f k i C) (4 * n))),c,df⟩:=by
 intro k
 have hl:=Z0i hG ht hf
 have b0:∀ X,ld1 (newB h0 lb X) (.pointer (some ⟨xb,0,none⟩)) = some (.int .i64 (Z0B (Z02 Gl t f))):=fun X=>by rw [ld1_newB_ne _ _ _ _ _ hne,Z01 hx,ints_getD _ _ (by omega)]; rfl
 have bp:∀ X (x:Nat),x < 4 -> ld1 (newB h0 lb X) (.pointer (some ⟨xb,1 + x,none⟩)) = some (.int .i64 ((Z0c (Z02 Gl t f)).getD x 0)):=fun X x hx'=>by
  rw [ld1_newB_ne _ _ _ _ _ hne,Z01 hx,ints_getD _ _ (by omega)]
  unfold Z0c
  rw [Z1H _ _ _ (by omega),Z1I]
 induction k with
 | zero =>
  intro i C hi hd
  obtain rfl:i = 4:=by omega
  refine Ans.lpG rfl rfl (Z2Q ..) ?_
  unfold Z4C
  have fx:=True.intro
  refine Ans.go ?_
  clear fx
  (have fx:=ai o1 (ai hxb hlb); refine Ans.ex0 ?_; clear fx)
  rfl
 | succ k ih =>
  intro i C hi hd
  have hi4:(i:Int) < 4:=by omega
  have uz:Z0B (Z02 Gl t f) = (fU Gl t f:Nat):=by unfold fU; omega
  have b0':=b0 (ints (Z25 C (4 * n)))
  rw [uz] at b0'
  rw [gI]
  by_cases e:i = f
  · rw [if_pos e]
    have e':(i:Int) = f:=by omega
    obtain ⟨U,hU⟩:∃ U,fU Gl t f = U:=⟨_,rfl⟩
    rw [hU] at b0'
    refine Ans.lpG rfl rfl (Z2Q ..) ?_
    unfold Z4C
    have fx:=b0'
    refine Ans.go ?_
    clear fx
    (have fx:=ai o1 (ai hxb hlb); refine Ans.nx0 ?_; clear fx)
    exact ih (i + 1) C (by omega) hd
  · rw [if_neg e]
    have e':¬ (i:Int) = f:=by omega
    have g:=FGl.of hok hG ht hf (by omega) e hg
    have b1:=bp (ints (Z25 C (4 * n))) i (by omega)
    rw [g.jz] at b1
    have hv:=ZnL g
    have gu:=g.u
    have gj:=g.j
    have cm:=fun c' (hc:c <= c')=>Z04 (ZdD lb (4 * n) C (4 * t + i) (fV Gl t f i) (newB h0 lb (ints (Z25 C (4 * n)))) c' [] (by omega) (by omega) hd (by omega) hv (by rw [Z07,if_pos rfl]))
    have hk1:=ih (i + 1) (Z1P C (4 * t + i) (fV Gl t f i)) (by omega) (Z13 hd (by omega) hv)
    have hfv:fV Gl t f i = 4 * fU Gl t f + fJ Gl t f i:=rfl
    obtain ⟨C',hC'⟩:∃ C',Z1P C (4 * t + i) (fV Gl t f i) = C':=⟨_,rfl⟩
    rw [hC'] at cm hk1 ⊢
    rw [newB_newB] at cm
    rw [hfv] at cm
    obtain ⟨U,hU⟩:∃ U,fU Gl t f = U:=⟨_,rfl⟩
    obtain ⟨J,hJ⟩:∃ J,fJ Gl t f i = J:=⟨_,rfl⟩
    rw [hU] at b0' cm gu
    rw [hJ] at b1 cm gj
    rw [show ((4 * t + i:Nat):Int) = 4 * (t:Int) + i by omega,show ((4 * U + J:Nat):Int) = 4 * (U:Int) + J by omega] at cm
    refine Ans.lpG rfl rfl (Z2Q ..) ?_
    unfold Z4C
    have fx:=ai b0' (ai b1 cm)
    refine Ans.go ?_
    clear fx
    (have fx:=ai o1 (ai hxb hlb); refine Ans.nxB (B:=newB h0 lb (ints (Z25 C' (4 * n)))) ?_ ?_; exact (Z2e.both (Z1t.ints _ _) (Z2e.refl _ _) hlb); clear fx)
    exact hk1
theorem ZhP (s:Value) (h0:FH) (n:Nat) (Gl:List Int) (gb t lb c:Nat) (df:List Nat) (hn:n <= 60) (hok:Z0t Gl n = true) (hs:SlI h0 c s 20 n Gl) (hgb:gb < 256 * c) (hg:Z0a h0 gb [s]) (hlb:lb < 256 * c) (ht:t < n) (h1:gb ≠ lb) (h2:Z0p s ≠ lb) :
 ∀ (k f:Nat) (C:List Int),f + k = 4 -> Z1M C (4 * n) →
 Ans (G (ZbA none) [ptrTo gb,.slice (some ⟨lb,0,none⟩) (4 * n) (4 * n),.int .i64 t,.int .i64 f] (newB h0 lb (ints (Z25 C (4 * n)))) c df) fun q=>q = ⟨.exit 2,[ptrTo gb,.slice (some ⟨lb,0,none⟩) (4 * n) (4 * n),.int .i64 t,.int .i64 4],newB h0 lb (ints (Z25 (gF Gl t k f C) (4 * n))),c,df⟩:=by
 intro k
 have hG:=hs.1
 induction k with
 | zero =>
  intro f C hf hd
  obtain rfl:f = 4:=by omega
  refine Ans.lpG rfl rfl (Z5h ..) ?_
  unfold Z6i
  have fx:=True.intro
  refine Ans.go ?_
  clear fx
  (have fx:=ai hgb hlb; refine Ans.ex0 ?_; clear fx)
  rfl
 | succ k ih =>
  intro f C hf hd
  have hf4:(f:Int) < 4:=by omega
  have hl:=Z0i hG ht (by omega:f < 4)
  obtain ⟨A,hA⟩:∃ A,newB h0 lb (ints (Z25 C (4 * n))) = A:=⟨_,rfl⟩
  have fA:∀ b,b ≠ lb -> A.f b = h0.f b:=fun b hb=>by rw [← hA,Z07,if_neg hb]
  have hsA:SlI A c s 20 n Gl:=hs.keep fun _=>fA _ h2
  have lg:ld1 A (.pointer (some ⟨gb,0,none⟩)) = some s:=by rw [Z01 (hg.eqf (fA gb h1))]; rfl
  have lf:=hsA.face (t:Int) (f:Int) (by omega) (by omega) (by omega) (by omega)
  rw [Int.toNat_natCast,Int.toNat_natCast] at lf
  obtain ⟨xb,hxb⟩:∃ xb,256 * (c + 1) + 7 = xb:=⟨_,rfl⟩
  have hst:stN (newB A xb [.int .i64 0,.int .i64 0,.int .i64 0,.int .i64 0,.int .i64 0]) 5 (.pointer (some ⟨xb,0,none⟩)) (av (Z02 Gl t f)) = some (newB A xb (ints (Z02 Gl t f))):=stN_all _ _ 5 _ _ hl rfl
  have ec:newB A xb (ints (Z02 Gl t f)) = newB (newB h0 xb (ints (Z02 Gl t f))) lb (ints (Z25 C (4 * n))):=by
   rw [← hA]; exact Z9y _ _ _ _ _ (by omega)
  rw [ec] at hst
  have hsx:=hsA.ixs
  rw [gF,hA]
  by_cases h0':Z0B (Z02 Gl t f) < 0
  · rw [if_pos h0']
    have hin:=Ans.eq (ZlB (newB (newB h0 xb (ints (Z02 Gl t f))) lb (ints (Z25 C (4 * n)))) n Gl (ptrTo gb) (.slice (some ⟨lb,0,none⟩) (4 * n) (4 * n)) t f xb (c + 1 + 1 + 1) df ((Z0a.newB_same _ _ _).newB_ne (by omega)) hl (by omega) h0' (OkV.ptrTo (by omega)) (OkV.sl (by omega)))
    refine Ans.lpG rfl rfl (Z5h ..) ?_
    unfold Z6i
    have fx:=ai lg (ai hsx (ai lf (ai hxb (ai hst hin))))
    refine Ans.go ?_
    clear fx
    have sB:Z0u c A (newB (newB h0 xb (ints (Z02 Gl t f))) lb (ints (Z25 C (4 * n)))):=by
     rw [← ec]; intro b hb; rw [Z07,if_neg (by omega)]
    (have fx:=ai hgb (ai hlb sB); refine Ans.nxB (B:=A) ?_ ?_; exact (Z2e.refl _ _); clear fx)
    rw [← hA]
    exact ih (f + 1) C (by omega) hd
  · rw [if_neg h0']
    have hin:=Ans.eq (ZlA (newB h0 xb (ints (Z02 Gl t f))) n Gl (ptrTo gb) t f xb lb (c + 1 + 1 + 1) df hn hok hG ht (by omega) h0' (Z0a.newB_same _ _ _) (by omega) (by omega) (by omega) (OkV.ptrTo (by omega)) 4 0 C (by omega) hd)
    simp only [Int.ofNat_eq_natCast,Int.cast_ofNat_Int] at hin
    have hd':=ZeG hok hG ht (by omega:f < 4) h0' (k:=4) (i:=0) (by omega) hd
    obtain ⟨C',hC'⟩:∃ C',gI Gl t f 4 0 C = C':=⟨_,rfl⟩
    rw [hC'] at hin hd' ⊢
    refine Ans.lpG rfl rfl (Z5h ..) ?_
    unfold Z6i
    have fx:=ai lg (ai hsx (ai lf (ai hxb (ai hst hin))))
    refine Ans.go ?_
    clear fx
    have sB:Z0u c (newB h0 lb (ints (Z25 C' (4 * n)))) (newB (newB h0 xb (ints (Z02 Gl t f))) lb (ints (Z25 C' (4 * n)))):=by
     intro b hb
     rw [Z07,Z07,Z07]
     by_cases e:b = lb
     · rw [if_pos e,if_pos e]
     · rw [if_neg e,if_neg e,if_neg (by omega)]
    (have fx:=ai hgb (ai hlb sB); refine Ans.nxB (B:=newB h0 lb (ints (Z25 C' (4 * n)))) ?_ ?_; exact (by rw [← hA]; exact Z2e.both (Z1t.ints _ _) (Z2e.refl _ _) hlb); clear fx)
    exact ih (f + 1) C' (by omega) hd'
theorem Zjk (s:Value) (h0:FH) (n:Nat) (Gl:List Int) (gb lb c:Nat) (df:List Nat) (hn:n <= 60) (hok:Z0t Gl n = true) (hs:SlI h0 c s 20 n Gl) (hgb:gb < 256 * c) (hg:Z0a h0 gb [s]) (hlb:lb < 256 * c) (h1:gb ≠ lb) (h2:0 < n -> Z0p s ≠ lb) :
 ∀ (k t:Nat) (C:List Int),t + k = n -> Z1M C (4 * n) →
 Ans (G (ZbB none) [ptrTo gb,.slice (some ⟨lb,0,none⟩) (4 * n) (4 * n),.int .i64 t] (newB h0 lb (ints (Z25 C (4 * n)))) c df) fun q=>q = ⟨.exit 0,[ptrTo gb,.slice (some ⟨lb,0,none⟩) (4 * n) (4 * n),.int .i64 n],newB h0 lb (ints (Z25 (gT Gl k t C) (4 * n))),c,df⟩:=by
 intro k
 have ll:=hs.len
 induction k with
 | zero =>
  intro t C ht hd
  obtain rfl:t = n:=by omega
  have lg:ld1 (newB h0 lb (ints (Z25 C (4 * t)))) (.pointer (some ⟨gb,0,none⟩)) = some s:=by rw [ld1_newB_ne _ _ _ _ _ h1,Z01 hg]; rfl
  refine Ans.lpG rfl rfl (Z7s ..) ?_
  unfold Z8y
  have fx:=ai lg ll
  refine Ans.go ?_
  clear fx
  (have fx:=ai hgb hlb; refine Ans.ex0 ?_; clear fx)
  rfl
 | succ k ih =>
  intro t C ht hd
  have lg:ld1 (newB h0 lb (ints (Z25 C (4 * n)))) (.pointer (some ⟨gb,0,none⟩)) = some s:=by rw [ld1_newB_ne _ _ _ _ _ h1,Z01 hg]; rfl
  have hin:=Ans.eq (ZhP s h0 n Gl gb t lb (c + 1 + 1) df hn hok (hs.mono (by omega)) (by omega) hg (by omega) (by omega) h1 (h2 (by omega)) 4 0 C (by omega) hd)
  simp only [Int.ofNat_eq_natCast,Int.cast_ofNat_Int] at hin
  have hd':=ZeH hok hs.1 (by omega:t < n) (k:=4) (f:=0) (by omega) hd
  rw [gT]
  obtain ⟨C',hC'⟩:∃ C',gF Gl t 4 0 C = C':=⟨_,rfl⟩
  rw [hC'] at hin hd' ⊢
  refine Ans.lpG rfl rfl (Z7s ..) ?_
  unfold Z8y
  have fx:=ai lg (ai ll hin)
  refine Ans.go ?_
  clear fx
  (have fx:=ai hgb hlb; refine Ans.nxB (B:=newB h0 lb (ints (Z25 C' (4 * n)))) ?_ ?_; exact (Z2e.both (Z1t.ints _ _) (Z2e.refl _ _) hlb); clear fx)
  exact ih (t + 1) C' (by omega) hd'
set_option maxHeartbeats 1000000 in
theorem Zef (s:Value) (n:Nat) (Gl:List Int) (h:FH) (c:Nat) (df:List Nat) (hs:SlI h c s 20 n Gl) (hok:Z0t Gl n = true) (hn:n <= 60) :
 Ans (G (.fn 62) [.agg #[s]] h c df) fun r=>∃ b,r = ⟨.ret,[.slice (some ⟨b,0,none⟩) (4 * n) (4 * n)],r.h,r.c,[]⟩ /\ c <= r.c /\ Z0u c h r.h /\ 256 * c <= b /\ b < 256 * r.c /\ r.h.f b = some (.cells false none (ints (Zea (vxG Gl n) (4 * n)))):=by
 refine Ans.call' (fun r e=>f62_go e) ?_
 unfold ZqH
 rw [Z4c hs.flat,Z43,Nat.add_zero]
 simp only [cond_true]
 obtain ⟨H,hH⟩:∃ H,newB h (256 * c) [s] = H:=⟨_,rfl⟩
 have sH:Z0u c h H:=by rw [← hH]; simp (disch:=omega)
 have hg:Z0a H (256 * c) [s]:=by rw [← hH]; exact Z0a.newB_same _ _ _
 have l1:ld1 H (.pointer (some ⟨256 * c,0,none⟩)) = some s:=by rw [Z01 hg]; rfl
 have ll:=hs.len
 have cs:=Z04 (ZfT (4 * n) H (c + 1 + 1) [] (by omega))
 rw [show ((4 * n:Nat):Int) = 4 * (n:Int) by omega] at cs
 obtain ⟨lb,hlb⟩:∃ lb,256 * (c + 1 + 1 + 1) + 1 = lb:=⟨_,rfl⟩
 rw [hlb] at cs
 have hlo:=Ans.eq (Zjk s H n Gl (256 * c) lb (c + 1 + 1 + 1 + 1 + 1 + 1 + 1) [] hn hok ((hs.same sH).mono (by omega)) (by omega) hg (by omega) (by omega) (fun hp=>by have:=hs.blk hp; omega) n 0 (Z0n (4 * n)) (by omega) (Z0z _))
 rw [Zbb,show gT Gl n 0 (Z0n (4 * n)) = vxG Gl n from rfl] at hlo
 simp only [Int.ofNat_eq_natCast,Int.cast_ofNat_Int] at hlo
 have hd:Z1M (vxG Gl n) (4 * n):=ZeF hok hs.1 (by omega) (Z0z _)
 obtain ⟨N,hN⟩:∃ N,newB H lb (ints (Z25 (vxG Gl n) (4 * n))) = N:=⟨_,rfl⟩
 rw [hN] at hlo
 have fN:N.f lb = some (.cells false none (ints (Z25 (vxG Gl n) (4 * n)))):=by rw [← hN,Z07,if_pos rfl]
 have cn:=Z04 (Za4 lb (4 * n) (vxG Gl n) N (c + 1 + 1 + 1 + 1 + 1 + 1 + 1 + 1) [] (by omega) hd (by omega) fN)
 have fx:=ai hH (ai l1 (ai ll (ai cs (ai hlo cn))))
 refine Ans.go ?_
 clear fx
 refine .done ⟨256 * (c + 1 + 1 + 1 + 1 + 1 + 1 + 1 + 1 + 1) + 2,rfl,by simp only; omega,fun b hb=>?_,by omega,by simp only; omega,by rw [Z07,if_pos rfl]⟩
 show (newB N _ _).f b = _
 rw [Z07,if_neg (by omega),← hN,Z07,if_neg (by omega),sH b hb]
end Go.Proofs.Ytcnndelmnobigaa

namespace Go.Proofs.Ytcnndelmnobigaa
open Go Go.Ab Go.Proofs
def fE (Gl:List Int) (t f e:Nat):Nat:=6 * fU Gl t f + (edN ((Z0c (Z02 Gl t f)).getD (edA e).toNat 0) ((Z0c (Z02 Gl t f)).getD (edB e).toNat 0)).toNat
def hI (Gl:List Int) (t f:Nat):Nat -> Nat -> List Int -> List Int
 | 0,_,C=>C
 | k + 1,e,C=>hI Gl t f k (e + 1) (if edA e = f ∨ edB e = f then C else Z1P C (6 * t + e) (fE Gl t f e))
def hF (Gl:List Int) (t:Nat):Nat -> Nat -> List Int -> List Int
 | 0,_,C=>C
 | k + 1,f,C=>hF Gl t k (f + 1) (if Z0B (Z02 Gl t f) < 0 then C else hI Gl t f 6 0 C)
def hT (Gl:List Int):Nat -> Nat -> List Int -> List Int
 | 0,_,C=>C
 | k + 1,t,C=>hT Gl k (t + 1) (hF Gl t 4 0 C)
def edG (Gl:List Int) (n:Nat):List Int:=hT Gl n 0 (Z0n (6 * n))
theorem ZcJ {Gl:List Int} {n t f:Nat} (hok:Z0t Gl n = true) (hG:Gl.length = n * 20) (ht:t < n) (hf:f < 4) (hg:¬ Z0B (Z02 Gl t f) < 0):Z0c (Z02 Gl t f) ∈ p24 /\ fU Gl t f < n /\ Z0B (Z02 Gl t f) = (fU Gl t f:Nat):=by
 obtain ⟨k1,k2,k3,k4⟩:=Z2I (Z4o hok ht hf) hg
 exact ⟨ZjZ (Z1o (Z0i hG ht hf)) k2,by unfold fU; omega,by unfold fU; omega⟩
theorem ZgZ {Gl:List Int} {n t f e:Nat} (hok:Z0t Gl n = true) (hG:Gl.length = n * 20) (ht:t < n) (hf:f < 4) (hg:¬ Z0B (Z02 Gl t f) < 0) (he:e < 6) :
 0 <= edN ((Z0c (Z02 Gl t f)).getD (edA e).toNat 0) ((Z0c (Z02 Gl t f)).getD (edB e).toNat 0) /\ edN ((Z0c (Z02 Gl t f)).getD (edA e).toNat 0) ((Z0c (Z02 Gl t f)).getD (edB e).toNat 0) < 6:=by
 obtain ⟨hp,-,-⟩:=ZcJ hok hG ht hf hg
 obtain ⟨g1,g2,g3,g4,g5⟩:=Zar (e:=(e:Int)) (by omega) (by omega)
 have r1:=Z0U hp (i:=(edA e).toNat) (by omega)
 have r2:=Z0U hp (i:=(edB e).toNat) (by omega)
 have r3:=Zm4 hp (i:=(edA e).toNat) (j:=(edB e).toNat) (by omega) (by omega) (by omega)
 exact Z19 r1.1 r1.2 r2.1 r2.2 r3
theorem Zqn {Gl:List Int} {n t f e:Nat} (hok:Z0t Gl n = true) (hG:Gl.length = n * 20) (ht:t < n) (hf:f < 4) (hg:¬ Z0B (Z02 Gl t f) < 0) (he:e < 6):fE Gl t f e < 6 * n:=by
 have:=ZgZ hok hG ht hf hg he
 have:=(ZcJ hok hG ht hf hg).2.1
 unfold fE
 omega
theorem ZeC {Gl:List Int} {n t f:Nat} (hok:Z0t Gl n = true) (hG:Gl.length = n * 20) (ht:t < n) (hf:f < 4) (hg:¬ Z0B (Z02 Gl t f) < 0):∀ {k e:Nat} {C:List Int},e + k = 6 -> Z1M C (6 * n) -> Z1M (hI Gl t f k e C) (6 * n)
 | 0,_,_,_,h=>h
 | k + 1,e,C,he,h=>by
  rw [hI]
  refine ZeC hok hG ht hf hg (by omega) ?_
  split
  · exact h
  · exact Z13 h (by omega) (Zqn hok hG ht hf hg (by omega))
theorem ZeD {Gl:List Int} {n t:Nat} (hok:Z0t Gl n = true) (hG:Gl.length = n * 20) (ht:t < n):∀ {k f:Nat} {C:List Int},f + k = 4 -> Z1M C (6 * n) -> Z1M (hF Gl t k f C) (6 * n)
 | 0,_,_,_,h=>h
 | k + 1,f,C,hf,h=>by
  rw [hF]
  refine ZeD hok hG ht (by omega) ?_
  split
  · exact h
  · rename_i hg
    exact ZeC hok hG ht (by omega) hg (by omega) h
theorem ZeB {Gl:List Int} {n:Nat} (hok:Z0t Gl n = true) (hG:Gl.length = n * 20):∀ {k t:Nat} {C:List Int},t + k = n -> Z1M C (6 * n) -> Z1M (hT Gl k t C) (6 * n)
 | 0,_,_,_,h=>h
 | k + 1,t,C,ht,h=>by
  rw [hT]
  exact ZeB hok hG (by omega) (ZeD hok hG (by omega) (by omega) h)
theorem ZoO (h:FH) (n:Nat) (Gl:List Int) (t1 l:Value) (t f xb c:Nat) (df:List Nat) (hx:Z0a h xb (ints (Z02 Gl t f))) (hl:(Z02 Gl t f).length = 5) (hxb:xb < 256 * c) (h0:Z0B (Z02 Gl t f) < 0) (o1:OkV c t1) (ol:OkV c l) :
 Ans (G (Z8n none) [t1,l,.int .i64 t,.int .i64 f,ptrTo xb,.int .i64 0] h c df) fun q=>q = ⟨.exit 4,[t1,l,.int .i64 t,.int .i64 f,ptrTo xb,.int .i64 0],h,c,df⟩:=by
 have b0:ld1 h (.pointer (some ⟨xb,0,none⟩)) = some (.int .i64 (Z0B (Z02 Gl t f))):=by rw [Z01 hx,ints_getD _ _ (by omega)]; rfl
 obtain ⟨U,hU⟩:∃ U,Z0B (Z02 Gl t f) = U:=⟨_,rfl⟩
 rw [hU] at b0 h0
 refine Ans.lpG rfl rfl (Z2b ..) ?_
 unfold Z3g
 have fx:=b0
 refine Ans.go ?_
 clear fx
 (have fx:=ai o1 (ai ol hxb); refine Ans.ex0 ?_; clear fx)
 rfl
theorem ZoN (h0:FH) (n:Nat) (Gl:List Int) (t1:Value) (t f xb lb c:Nat) (df:List Nat) (hn:n <= 60) (hok:Z0t Gl n = true) (hG:Gl.length = n * 20) (ht:t < n) (hf:f < 4) (hg:¬ Z0B (Z02 Gl t f) < 0) (hx:Z0a h0 xb (ints (Z02 Gl t f))) (hxb:xb < 256 * c) (hlb:lb < 256 * c) (hne:xb ≠ lb) (o1:OkV c t1) :
 ∀ (k e:Nat) (C:List Int),e + k = 6 -> Z1M C (6 * n) →
 Ans (G (Z8n none) [t1,.slice (some ⟨lb,0,none⟩) (6 * n) (6 * n),.int .i64 t,.int .i64 f,ptrTo xb,.int .i64 e] (newB h0 lb (ints (Z25 C (6 * n)))) c df) fun q=>q = ⟨.exit 4,[t1,.slice (some ⟨lb,0,none⟩) (6 * n) (6 * n),.int .i64 t,.int .i64 f,ptrTo xb,.int .i64 6],newB h0 lb (ints (Z25 (hI Gl t f k e C) (6 * n))),c,df⟩:=by
 intro k
 have hl:=Z0i hG ht hf
 have b0:∀ X,ld1 (newB h0 lb X) (.pointer (some ⟨xb,0,none⟩)) = some (.int .i64 (Z0B (Z02 Gl t f))):=fun X=>by rw [ld1_newB_ne _ _ _ _ _ hne,Z01 hx,ints_getD _ _ (by omega)]; rfl
 have bp:∀ X (x:Nat),x < 4 -> ld1 (newB h0 lb X) (.pointer (some ⟨xb,1 + x,none⟩)) = some (.int .i64 ((Z0c (Z02 Gl t f)).getD x 0)):=fun X x hx'=>by
  rw [ld1_newB_ne _ _ _ _ _ hne,Z01 hx,ints_getD _ _ (by omega)]
  unfold Z0c
  rw [Z1H _ _ _ (by omega),Z1I]
 induction k with
 | zero =>
  intro e C he hd
  obtain rfl:e = 6:=by omega
  refine Ans.lpG rfl rfl (Z2b ..) ?_
  unfold Z3g
  have fx:=True.intro
  refine Ans.go ?_
  clear fx
  (have fx:=ai o1 (ai hxb hlb); refine Ans.ex0 ?_; clear fx)
  rfl
 | succ k ih =>
  intro e C he hd
  have he6:(e:Int) < 6:=by omega
  have he6':e < 6:=by omega
  obtain ⟨hp,gu,uz⟩:=ZcJ hok hG ht hf hg
  have b0':=b0 (ints (Z25 C (6 * n)))
  rw [uz] at b0'
  have ce:=fun h c'=>Z9f e h c' he6'
  obtain ⟨g1,g2,g3,g4,g5⟩:=Zar (e:=(e:Int)) (by omega) (by omega)
  have fr:=ZgZ hok hG ht hf hg he6'
  have hlt:=Zqn hok hG ht hf hg he6'
  have cm:=fun c' (hc:c <= c')=>Z04 (ZdD lb (6 * n) C (6 * t + e) (fE Gl t f e) (newB h0 lb (ints (Z25 C (6 * n)))) c' [] (by omega) (by omega) hd (by omega) hlt (by rw [Z07,if_pos rfl]))
  have hk1:=ih (e + 1) (Z1P C (6 * t + e) (fE Gl t f e)) (by omega) (Z13 hd (by omega) hlt)
  have hk0:=ih (e + 1) C (by omega) hd
  rw [hI]
  have hfe:fE Gl t f e = 6 * fU Gl t f + (edN ((Z0c (Z02 Gl t f)).getD (edA e).toNat 0) ((Z0c (Z02 Gl t f)).getD (edB e).toNat 0)).toNat:=rfl
  rw [newB_newB] at cm
  obtain ⟨A,hA⟩:∃ A:Nat,edA e = A:=⟨(edA e).toNat,by omega⟩
  obtain ⟨B,hB⟩:∃ B:Nat,edB e = B:=⟨(edB e).toNat,by omega⟩
  rw [hA] at ce g1 g2 g5 fr hfe ⊢
  rw [hB] at ce g3 g4 g5 fr hfe ⊢
  rw [Int.toNat_natCast,Int.toNat_natCast] at fr hfe
  have b1:=bp (ints (Z25 C (6 * n))) A (by omega)
  have b2:=bp (ints (Z25 C (6 * n))) B (by omega)
  obtain ⟨PA,hPA⟩:∃ PA,(Z0c (Z02 Gl t f)).getD A 0 = PA:=⟨_,rfl⟩
  obtain ⟨PB,hPB⟩:∃ PB,(Z0c (Z02 Gl t f)).getD B 0 = PB:=⟨_,rfl⟩
  rw [hPA] at b1 fr hfe
  rw [hPB] at b2 fr hfe
  have cE:=fun h c'=>ZiY PA PB h c'
  obtain ⟨N,hN⟩:∃ N:Nat,edN PA PB = N:=⟨(edN PA PB).toNat,by omega⟩
  rw [hN] at cE fr hfe
  rw [Int.toNat_natCast] at hfe
  obtain ⟨C',hC'⟩:∃ C',Z1P C (6 * t + e) (fE Gl t f e) = C':=⟨_,rfl⟩
  rw [hC'] at cm hk1 ⊢
  rw [hfe] at cm
  obtain ⟨U,hU⟩:∃ U,fU Gl t f = U:=⟨_,rfl⟩
  rw [hU] at b0' cm gu
  rw [show ((6 * t + e:Nat):Int) = 6 * (t:Int) + e by omega,show ((6 * U + N:Nat):Int) = 6 * (U:Int) + N by omega] at cm
  by_cases e1:A = f
  · rw [if_pos (.inl (by omega))]
    have e1':(A:Int) = f:=by omega
    refine Ans.lpG rfl rfl (Z2b ..) ?_
    unfold Z3g
    have fx:=ai b0' ce
    refine Ans.go ?_
    clear fx
    (have fx:=ai o1 (ai hxb hlb); refine Ans.nx0 ?_; clear fx)
    exact hk0
  · have e1':¬ (A:Int) = f:=by omega
    by_cases e2:B = f
    · rw [if_pos (.inr (by omega))]
      have e2':(B:Int) = f:=by omega
      refine Ans.lpG rfl rfl (Z2b ..) ?_
      unfold Z3g
      have fx:=ai b0' ce
      refine Ans.go ?_
      clear fx
      (have fx:=ai o1 (ai hxb hlb); refine Ans.nx0 ?_; clear fx)
      exact hk0
    · rw [if_neg (by omega)]
      have e2':¬ (B:Int) = f:=by omega
      refine Ans.lpG rfl rfl (Z2b ..) ?_
      unfold Z3g
      have fx:=ai b0' (ai ce (ai b1 (ai b2 (ai cE (ai cm Z2j)))))
      refine Ans.go ?_
      clear fx
      (have fx:=ai o1 (ai hxb hlb); refine Ans.nxB (B:=newB h0 lb (ints (Z25 C' (6 * n)))) ?_ ?_; exact (Z2e.both (Z1t.ints _ _) (Z2e.refl _ _) hlb); clear fx)
      exact hk1
theorem ZiS (s:Value) (h0:FH) (n:Nat) (Gl:List Int) (gb t lb c:Nat) (df:List Nat) (hn:n <= 60) (hok:Z0t Gl n = true) (hs:SlI h0 c s 20 n Gl) (hgb:gb < 256 * c) (hg:Z0a h0 gb [s]) (hlb:lb < 256 * c) (ht:t < n) (h1:gb ≠ lb) (h2:Z0p s ≠ lb) :
 ∀ (k f:Nat) (C:List Int),f + k = 4 -> Z1M C (6 * n) →
 Ans (G (Zbx none) [ptrTo gb,.slice (some ⟨lb,0,none⟩) (6 * n) (6 * n),.int .i64 t,.int .i64 f] (newB h0 lb (ints (Z25 C (6 * n)))) c df) fun q=>q = ⟨.exit 2,[ptrTo gb,.slice (some ⟨lb,0,none⟩) (6 * n) (6 * n),.int .i64 t,.int .i64 4],newB h0 lb (ints (Z25 (hF Gl t k f C) (6 * n))),c,df⟩:=by
 intro k
 have hG:=hs.1
 induction k with
 | zero =>
  intro f C hf hd
  obtain rfl:f = 4:=by omega
  refine Ans.lpG rfl rfl (Z5g ..) ?_
  unfold Z6h
  have fx:=True.intro
  refine Ans.go ?_
  clear fx
  (have fx:=ai hgb hlb; refine Ans.ex0 ?_; clear fx)
  rfl
 | succ k ih =>
  intro f C hf hd
  have hf4:(f:Int) < 4:=by omega
  have hl:=Z0i hG ht (by omega:f < 4)
  obtain ⟨A,hA⟩:∃ A,newB h0 lb (ints (Z25 C (6 * n))) = A:=⟨_,rfl⟩
  have fA:∀ b,b ≠ lb -> A.f b = h0.f b:=fun b hb=>by rw [← hA,Z07,if_neg hb]
  have hsA:SlI A c s 20 n Gl:=hs.keep fun _=>fA _ h2
  have lg:ld1 A (.pointer (some ⟨gb,0,none⟩)) = some s:=by rw [Z01 (hg.eqf (fA gb h1))]; rfl
  have lf:=hsA.face (t:Int) (f:Int) (by omega) (by omega) (by omega) (by omega)
  rw [Int.toNat_natCast,Int.toNat_natCast] at lf
  obtain ⟨xb,hxb⟩:∃ xb,256 * (c + 1) + 7 = xb:=⟨_,rfl⟩
  have hst:stN (newB A xb [.int .i64 0,.int .i64 0,.int .i64 0,.int .i64 0,.int .i64 0]) 5 (.pointer (some ⟨xb,0,none⟩)) (av (Z02 Gl t f)) = some (newB A xb (ints (Z02 Gl t f))):=stN_all _ _ 5 _ _ hl rfl
  have ec:newB A xb (ints (Z02 Gl t f)) = newB (newB h0 xb (ints (Z02 Gl t f))) lb (ints (Z25 C (6 * n))):=by
   rw [← hA]; exact Z9y _ _ _ _ _ (by omega)
  rw [ec] at hst
  have hsx:=hsA.ixs
  rw [hF,hA]
  by_cases h0':Z0B (Z02 Gl t f) < 0
  · rw [if_pos h0']
    have hin:=Ans.eq (ZoO (newB (newB h0 xb (ints (Z02 Gl t f))) lb (ints (Z25 C (6 * n)))) n Gl (ptrTo gb) (.slice (some ⟨lb,0,none⟩) (6 * n) (6 * n)) t f xb (c + 1 + 1 + 1) df ((Z0a.newB_same _ _ _).newB_ne (by omega)) hl (by omega) h0' (OkV.ptrTo (by omega)) (OkV.sl (by omega)))
    refine Ans.lpG rfl rfl (Z5g ..) ?_
    unfold Z6h
    have fx:=ai lg (ai hsx (ai lf (ai hxb (ai hst hin))))
    refine Ans.go ?_
    clear fx
    have sB:Z0u c A (newB (newB h0 xb (ints (Z02 Gl t f))) lb (ints (Z25 C (6 * n)))):=by
     rw [← ec]; intro b hb; rw [Z07,if_neg (by omega)]
    (have fx:=ai hgb (ai hlb sB); refine Ans.nxB (B:=A) ?_ ?_; exact (Z2e.refl _ _); clear fx)
    rw [← hA]
    exact ih (f + 1) C (by omega) hd
  · rw [if_neg h0']
    have hin:=Ans.eq (ZoN (newB h0 xb (ints (Z02 Gl t f))) n Gl (ptrTo gb) t f xb lb (c + 1 + 1 + 1) df hn hok hG ht (by omega) h0' (Z0a.newB_same _ _ _) (by omega) (by omega) (by omega) (OkV.ptrTo (by omega)) 6 0 C (by omega) hd)
    simp only [Int.ofNat_eq_natCast,Int.cast_ofNat_Int] at hin
    have hd':=ZeC hok hG ht (by omega:f < 4) h0' (k:=6) (e:=0) (by omega) hd
    obtain ⟨C',hC'⟩:∃ C',hI Gl t f 6 0 C = C':=⟨_,rfl⟩
    rw [hC'] at hin hd' ⊢
    refine Ans.lpG rfl rfl (Z5g ..) ?_
    unfold Z6h
    have fx:=ai lg (ai hsx (ai lf (ai hxb (ai hst hin))))
    refine Ans.go ?_
    clear fx
    have sB:Z0u c (newB h0 lb (ints (Z25 C' (6 * n)))) (newB (newB h0 xb (ints (Z02 Gl t f))) lb (ints (Z25 C' (6 * n)))):=by
     intro b hb
     rw [Z07,Z07,Z07]
     by_cases e:b = lb
     · rw [if_pos e,if_pos e]
     · rw [if_neg e,if_neg e,if_neg (by omega)]
    (have fx:=ai hgb (ai hlb sB); refine Ans.nxB (B:=newB h0 lb (ints (Z25 C' (6 * n)))) ?_ ?_; exact (by rw [← hA]; exact Z2e.both (Z1t.ints _ _) (Z2e.refl _ _) hlb); clear fx)
    exact ih (f + 1) C' (by omega) hd'
theorem ZkY (s:Value) (h0:FH) (n:Nat) (Gl:List Int) (gb lb c:Nat) (df:List Nat) (hn:n <= 60) (hok:Z0t Gl n = true) (hs:SlI h0 c s 20 n Gl) (hgb:gb < 256 * c) (hg:Z0a h0 gb [s]) (hlb:lb < 256 * c) (h1:gb ≠ lb) (h2:0 < n -> Z0p s ≠ lb) :
 ∀ (k t:Nat) (C:List Int),t + k = n -> Z1M C (6 * n) →
 Ans (G (Zby none) [ptrTo gb,.slice (some ⟨lb,0,none⟩) (6 * n) (6 * n),.int .i64 t] (newB h0 lb (ints (Z25 C (6 * n)))) c df) fun q=>q = ⟨.exit 0,[ptrTo gb,.slice (some ⟨lb,0,none⟩) (6 * n) (6 * n),.int .i64 n],newB h0 lb (ints (Z25 (hT Gl k t C) (6 * n))),c,df⟩:=by
 intro k
 have ll:=hs.len
 induction k with
 | zero =>
  intro t C ht hd
  obtain rfl:t = n:=by omega
  have lg:ld1 (newB h0 lb (ints (Z25 C (6 * t)))) (.pointer (some ⟨gb,0,none⟩)) = some s:=by rw [ld1_newB_ne _ _ _ _ _ h1,Z01 hg]; rfl
  refine Ans.lpG rfl rfl (Z7q ..) ?_
  unfold Z8r
  have fx:=ai lg ll
  refine Ans.go ?_
  clear fx
  (have fx:=ai hgb hlb; refine Ans.ex0 ?_; clear fx)
  rfl
 | succ k ih =>
  intro t C ht hd
  have lg:ld1 (newB h0 lb (ints (Z25 C (6 * n)))) (.pointer (some ⟨gb,0,none⟩)) = some s:=by rw [ld1_newB_ne _ _ _ _ _ h1,Z01 hg]; rfl
  have hin:=Ans.eq (ZiS s h0 n Gl gb t lb (c + 1 + 1) df hn hok (hs.mono (by omega)) (by omega) hg (by omega) (by omega) h1 (h2 (by omega)) 4 0 C (by omega) hd)
  simp only [Int.ofNat_eq_natCast,Int.cast_ofNat_Int] at hin
  have hd':=ZeD hok hs.1 (by omega:t < n) (k:=4) (f:=0) (by omega) hd
  rw [hT]
  obtain ⟨C',hC'⟩:∃ C',hF Gl t 4 0 C = C':=⟨_,rfl⟩
  rw [hC'] at hin hd' ⊢
  refine Ans.lpG rfl rfl (Z7q ..) ?_
  unfold Z8r
  have fx:=ai lg (ai ll hin)
  refine Ans.go ?_
  clear fx
  (have fx:=ai hgb hlb; refine Ans.nxB (B:=newB h0 lb (ints (Z25 C' (6 * n)))) ?_ ?_; exact (Z2e.both (Z1t.ints _ _) (Z2e.refl _ _) hlb); clear fx)
  exact ih (t + 1) C' (by omega) hd'
set_option maxHeartbeats 1000000 in
theorem Zfu (s:Value) (n:Nat) (Gl:List Int) (h:FH) (c:Nat) (df:List Nat) (hs:SlI h c s 20 n Gl) (hok:Z0t Gl n = true) (hn:n <= 60) :
 Ans (G (.fn 64) [.agg #[s]] h c df) fun r=>∃ b,r = ⟨.ret,[.slice (some ⟨b,0,none⟩) (6 * n) (6 * n)],r.h,r.c,[]⟩ /\ c <= r.c /\ Z0u c h r.h /\ 256 * c <= b /\ b < 256 * r.c /\ r.h.f b = some (.cells false none (ints (Zea (edG Gl n) (6 * n)))):=by
 refine Ans.call' (fun r e=>f64_go e) ?_
 unfold ZqF
 rw [Z4c hs.flat,Z43,Nat.add_zero]
 simp only [cond_true]
 obtain ⟨H,hH⟩:∃ H,newB h (256 * c) [s] = H:=⟨_,rfl⟩
 have sH:Z0u c h H:=by rw [← hH]; simp (disch:=omega)
 have hg:Z0a H (256 * c) [s]:=by rw [← hH]; exact Z0a.newB_same _ _ _
 have l1:ld1 H (.pointer (some ⟨256 * c,0,none⟩)) = some s:=by rw [Z01 hg]; rfl
 have ll:=hs.len
 have cs:=Z04 (ZfT (6 * n) H (c + 1 + 1) [] (by omega))
 rw [show ((6 * n:Nat):Int) = 6 * (n:Int) by omega] at cs
 obtain ⟨lb,hlb⟩:∃ lb,256 * (c + 1 + 1 + 1) + 1 = lb:=⟨_,rfl⟩
 rw [hlb] at cs
 have hlo:=Ans.eq (ZkY s H n Gl (256 * c) lb (c + 1 + 1 + 1 + 1 + 1 + 1 + 1) [] hn hok ((hs.same sH).mono (by omega)) (by omega) hg (by omega) (by omega) (fun hp=>by have:=hs.blk hp; omega) n 0 (Z0n (6 * n)) (by omega) (Z0z _))
 rw [Zbb,show hT Gl n 0 (Z0n (6 * n)) = edG Gl n from rfl] at hlo
 simp only [Int.ofNat_eq_natCast,Int.cast_ofNat_Int] at hlo
 have hd:Z1M (edG Gl n) (6 * n):=ZeB hok hs.1 (by omega) (Z0z _)
 obtain ⟨N,hN⟩:∃ N,newB H lb (ints (Z25 (edG Gl n) (6 * n))) = N:=⟨_,rfl⟩
 rw [hN] at hlo
 have fN:N.f lb = some (.cells false none (ints (Z25 (edG Gl n) (6 * n)))):=by rw [← hN,Z07,if_pos rfl]
 have cn:=Z04 (Za4 lb (6 * n) (edG Gl n) N (c + 1 + 1 + 1 + 1 + 1 + 1 + 1 + 1) [] (by omega) hd (by omega) fN)
 have fx:=ai hH (ai l1 (ai ll (ai cs (ai hlo cn))))
 refine Ans.go ?_
 clear fx
 refine .done ⟨256 * (c + 1 + 1 + 1 + 1 + 1 + 1 + 1 + 1 + 1) + 2,rfl,by simp only; omega,fun b hb=>?_,by omega,by simp only; omega,by rw [Z07,if_pos rfl]⟩
 show (newB N _ _).f b = _
 rw [Z07,if_neg (by omega),← hN,Z07,if_neg (by omega),sH b hb]
end Go.Proofs.Ytcnndelmnobigaa

namespace Go.Ab
open Go
def jn:List (Nat × Nat) -> List Int -> List Int
 | [],L=>L
 | p :: D,L=>jn D (Z1P L p.1 p.2)
theorem Z27:∀ (D E:List (Nat × Nat)) (L:List Int),jn (D ++ E) L = jn E (jn D L)
 | [],E,L=>rfl
 | p :: D,E,L=>by rw [List.cons_append,jn,jn,Z27 D E]
theorem Z70 {m:Nat}:∀ (D:List (Nat × Nat)) (L:List Int),Z1M L m -> (∀ p,p ∈ D -> p.1 < m /\ p.2 < m) →
 Z1M (jn D L) m /\ (∀ a b,a < m -> b < m -> Z06 L a = Z06 L b -> Z06 (jn D L) a = Z06 (jn D L) b) /\ (∀ p,p ∈ D -> Z06 (jn D L) p.1 = Z06 (jn D L) p.2)
 | [],L,hd,_=>⟨hd,fun a b _ _ e=>e,fun p h=>by cases h⟩
 | p :: D,L,hd,hg=>by
  obtain ⟨g1,g2⟩:=hg p (by simp)
  obtain ⟨i1,i2,i3⟩:=Z70 D (Z1P L p.1 p.2) (Z13 hd g1 g2) (fun q hq=>hg q (by simp [hq]))
  refine ⟨i1,fun a b ha hb e=>i2 a b ha hb (ZdH hd g1 g2 ha hb e),fun q hq=>?_⟩
  rcases List.mem_cons.1 hq with rfl | hq
  · exact i2 _ _ g1 g2 (ZdG hd g1 g2)
  · exact i3 q hq
theorem ZgS {m:Nat} (S:Nat -> Prop):∀ (D:List (Nat × Nat)) (L:List Int),Z1M L m -> (∀ p,p ∈ D -> p.1 < m /\ p.2 < m /\ (S p.1 ↔ S p.2)) -> (∀ a b,a < m -> b < m -> Z06 L a = Z06 L b -> (S a ↔ S b)) →
 ∀ a b,a < m -> b < m -> Z06 (jn D L) a = Z06 (jn D L) b -> (S a ↔ S b)
 | [],L,_,_,h=>h
 | p :: D,L,hd,hg,h=>by
  obtain ⟨g1,g2,g3⟩:=hg p (by simp)
  refine ZgS S D (Z1P L p.1 p.2) (Z13 hd g1 g2) (fun q hq=>hg q (by simp [hq])) fun a b ha hb e=>?_
  rw [Z2l hd g1 g2 ha,Z2l hd g1 g2 hb] at e
  have ai:=h a p.1 ha g1
  have aj:=h a p.2 ha g2
  have bi:=h b p.1 hb g1
  have bj:=h b p.2 hb g2
  have ab:=h a b ha hb
  by_cases c1:Z06 L a = max (Z06 L p.1) (Z06 L p.2) <;> by_cases c2:Z06 L b = max (Z06 L p.1) (Z06 L p.2)
  · exact ab (c1.trans c2.symm)
  · rw [if_pos c1,if_neg c2] at e
    rcases Nat.le_total (Z06 L p.1) (Z06 L p.2) with q | q
    · exact (aj (by omega)).trans (g3.symm.trans (bi (by omega)).symm)
    · exact (ai (by omega)).trans (g3.trans (bj (by omega)).symm)
  · rw [if_neg c1,if_pos c2] at e
    rcases Nat.le_total (Z06 L p.1) (Z06 L p.2) with q | q
    · exact (ai (by omega)).trans (g3.trans (bj (by omega)).symm)
    · exact (aj (by omega)).trans (g3.symm.trans (bi (by omega)).symm)
  · rw [if_neg c1,if_neg c2] at e
    exact ab e
theorem Z9o {m k:Nat} (h:k < m):Z06 (Z0n m) k = k:=Z1u (Z3T h)
theorem Z4b {m:Nat} (S:Nat -> Prop) {D:List (Nat × Nat)} (hg:∀ p,p ∈ D -> p.1 < m /\ p.2 < m /\ (S p.1 ↔ S p.2)) {a b:Nat} (ha:a < m) (hb:b < m) (e:Z06 (jn D (Z0n m)) a = Z06 (jn D (Z0n m)) b):S a ↔ S b :=
 ZgS S D (Z0n m) (Z0z _) hg (fun a b ha hb e=>by rw [Z9o ha,Z9o hb] at e; rw [e]) a b ha hb e
theorem jn_eq {m:Nat} {D E:List (Nat × Nat)} (hD:∀ p,p ∈ D -> p.1 < m /\ p.2 < m) (hE:∀ p,p ∈ E -> p.1 < m /\ p.2 < m)
 (h1:∀ p,p ∈ D -> Z06 (jn E (Z0n m)) p.1 = Z06 (jn E (Z0n m)) p.2) (h2:∀ p,p ∈ E -> Z06 (jn D (Z0n m)) p.1 = Z06 (jn D (Z0n m)) p.2) {k:Nat} (hk:k < m) :
 Z06 (jn D (Z0n m)) k = Z06 (jn E (Z0n m)) k:=by
 obtain ⟨d1,_,d3⟩:=Z70 D (Z0n m) (Z0z _) hD
 obtain ⟨e1,_,e3⟩:=Z70 E (Z0n m) (Z0z _) hE
 have kD:=Z0G d1 hk
 have kE:=Z0G e1 hk
 have rD:=Z1S d1 hk
 have rE:=Z1S e1 hk
 have a1:=Z4b (fun w=>Z06 (jn E (Z0n m)) w = Z06 (jn E (Z0n m)) k) (D:=D) (fun p hp=>⟨(hD p hp).1,(hD p hp).2,by show _ = _ ↔ _ = _; rw [h1 p hp]⟩) (a:=Z06 (jn D (Z0n m)) k) (b:=k) (by omega) hk rD
 have a2:=Z4b (fun w=>Z06 (jn D (Z0n m)) w = Z06 (jn D (Z0n m)) k) (D:=E) (fun p hp=>⟨(hE p hp).1,(hE p hp).2,by show _ = _ ↔ _ = _; rw [h2 p hp]⟩) (a:=Z06 (jn E (Z0n m)) k) (b:=k) (by omega) hk rE
 have b1:=a1.2 rfl
 have b2:=a2.2 rfl
 have c1:=Z0G e1 (i:=Z06 (jn D (Z0n m)) k) (by omega)
 have c2:=Z0G d1 (i:=Z06 (jn E (Z0n m)) k) (by omega)
 omega
theorem Z7j {C C':List Int}:∀ {i:Nat},(∀ k,k < i -> Z06 C k = Z06 C' k) -> Z0s C i = Z0s C' i
 | 0,_=>rfl
 | i + 1,h=>by rw [Z1U,Z1U,Z7j (fun k hk=>h k (by omega)),h i (by omega)]
theorem Zif {C C':List Int} {i:Nat} (h:∀ k,k < i -> Z06 C k = Z06 C' k):Z0V C i = Z0V C' i:=by unfold Z0V; rw [Z7j h]
theorem Zb8 {C C':List Int} {m:Nat} (hd:Z1M C m) (h:∀ k,k < m -> Z06 C k = Z06 C' k):Zea C m = Zea C' m:=by
 refine Z1G (m:=m) (Z1q _ _) (Z1q _ _) fun k hk=>?_
 have:=Z0G hd hk
 rw [Z4q _ hk,Z4q _ hk,← h k hk,Zif (C':=C') fun j hj=>h j (by omega)]
theorem Z40 {C:List Int}:∀ {m r:Nat},r < m -> Z06 C r = r -> (Z0s C m)[Z0V C r]? = some (r:Int)
 | 0,r,h,_=>by omega
 | m + 1,r,h,e=>by
  rw [Z1U]
  by_cases q:r = m
  · subst q
    rw [if_pos e,Z0V,List.getElem?_append_right (Nat.le_refl _)]
    simp
  · have ih:=Z40 (m:=m) (r:=r) (by omega) e
    have hl:=(List.getElem?_eq_some_iff.1 ih).1
    rw [List.getElem?_append_left hl,ih]
theorem Zah {C:List Int}:∀ {m i x:Nat},(Z0s C m)[i]? = some (x:Int) -> Z0V C x = i
 | 0,i,x,h=>by simp [Z0s] at h
 | m + 1,i,x,h=>by
  rw [Z1U] at h
  rcases Nat.lt_or_ge i (Z0s C m).length with q | q
  · rw [List.getElem?_append_left q] at h
    exact Zah h
  · rw [List.getElem?_append_right q] at h
    by_cases e:Z06 C m = m
    · rw [if_pos e] at h
      rcases hz:i - (Z0s C m).length with _ | z
      · rw [hz] at h
        have:(m:Int) = x:=by simpa using h
        obtain rfl:m = x:=by omega
        show (Z0s C m).length = i
        omega
      · rw [hz] at h; simp at h
    · rw [if_neg e] at h; simp at h
theorem ZeI {C:List Int} {m r:Nat} (h:r < m) (e:Z06 C r = r):Z0V C r < Z0V C m:=by
 have:=(List.getElem?_eq_some_iff.1 (Z40 h e)).1
 exact this
theorem ZnF {C:List Int} {m r s:Nat} (hr:r < m) (hs:s < m) (er:Z06 C r = r) (es:Z06 C s = s) (e:Z0V C r = Z0V C s):r = s:=by
 have h1:=Z40 hr er
 have h2:=Z40 hs es
 rw [e,h2] at h1
 have:=Option.some.inj h1
 omega
end Go.Ab

namespace Go.Proofs.Ytcnndelmnobigaa
open Go Go.Ab Go.Proofs
theorem Zpd (n:Nat):∀ (D:List (List Int)) (L:List Int),D.foldl ZaD L = jn (D.map fun M=>(mA M,mB M)) L
 | [],L=>rfl
 | M :: D,L=>by rw [List.foldl_cons,List.map_cons,jn,Zpd n D]; rfl
def pI (Gl:List Int) (t f:Nat):Nat -> Nat -> List (Nat × Nat)
 | 0,_=>[]
 | k + 1,i=>(if i = f then [] else [(4 * t + i,fV Gl t f i)]) ++ pI Gl t f k (i + 1)
def pF (Gl:List Int) (t:Nat):Nat -> Nat -> List (Nat × Nat)
 | 0,_=>[]
 | k + 1,f=>(if Z0B (Z02 Gl t f) < 0 then [] else pI Gl t f 4 0) ++ pF Gl t k (f + 1)
def pT (Gl:List Int):Nat -> Nat -> List (Nat × Nat)
 | 0,_=>[]
 | k + 1,t=>pF Gl t 4 0 ++ pT Gl k (t + 1)
theorem gI_jn (Gl:List Int) (t f:Nat):∀ (k i:Nat) (C:List Int),gI Gl t f k i C = jn (pI Gl t f k i) C
 | 0,_,_=>rfl
 | k + 1,i,C=>by rw [gI,pI,Z27,gI_jn Gl t f k]; split <;> rfl
theorem gF_jn (Gl:List Int) (t:Nat):∀ (k f:Nat) (C:List Int),gF Gl t k f C = jn (pF Gl t k f) C
 | 0,_,_=>rfl
 | k + 1,f,C=>by
  rw [gF,pF,Z27,gF_jn Gl t k]
  split
  · rfl
  · rw [gI_jn]
theorem gT_jn (Gl:List Int):∀ (k t:Nat) (C:List Int),gT Gl k t C = jn (pT Gl k t) C
 | 0,_,_=>rfl
 | k + 1,t,C=>by rw [gT,pT,Z27,gT_jn Gl k,gF_jn]
theorem ZjX {Gl:List Int} {t f:Nat} {p:Nat × Nat}:∀ {k i:Nat},p ∈ pI Gl t f k i ↔ ∃ j,i <= j /\ j < i + k /\ j ≠ f /\ p = (4 * t + j,fV Gl t f j)
 | 0,i=>by simp [pI]; intro x h1 h2; omega
 | k + 1,i=>by
  rw [pI,List.mem_append,ZjX (k:=k)]
  constructor
  · rintro (h | ⟨j,h1,h2,h3,h4⟩)
    · split at h
      · cases h
      · rename_i hne
        exact ⟨i,Nat.le_refl _,by omega,hne,List.mem_singleton.1 h⟩
    · exact ⟨j,by omega,by omega,h3,h4⟩
  · rintro ⟨j,h1,h2,h3,h4⟩
    by_cases e:j = i
    · subst e
      left
      rw [if_neg h3,h4]; simp
    · exact .inr ⟨j,by omega,by omega,h3,h4⟩
theorem ZjY {Gl:List Int} {t:Nat} {p:Nat × Nat}:∀ {k f:Nat},p ∈ pF Gl t k f ↔ ∃ g j,f <= g /\ g < f + k /\ j < 4 /\ j ≠ g /\ ¬ Z0B (Z02 Gl t g) < 0 /\ p = (4 * t + j,fV Gl t g j)
 | 0,f=>by simp [pF]; intro x h1 h2; omega
 | k + 1,f=>by
  rw [pF,List.mem_append,ZjY (k:=k)]
  constructor
  · rintro (h | ⟨g,j,h1,h2,h3⟩)
    · split at h
      · cases h
      · rename_i hg
        obtain ⟨j,a,b,d,e⟩:=ZjX.1 h
        exact ⟨f,j,Nat.le_refl _,by omega,by omega,d,hg,e⟩
    · exact ⟨g,j,by omega,by omega,h3⟩
  · rintro ⟨g,j,h1,h2,h3,h4,h5,h6⟩
    by_cases e:g = f
    · subst e
      left
      rw [if_neg h5]
      exact ZjX.2 ⟨j,by omega,by omega,h4,h6⟩
    · exact .inr ⟨g,j,by omega,by omega,h3,h4,h5,h6⟩
theorem Zg5 {Gl:List Int} {p:Nat × Nat}:∀ {k t:Nat},p ∈ pT Gl k t ↔ ∃ u g j,t <= u /\ u < t + k /\ g < 4 /\ j < 4 /\ j ≠ g /\ ¬ Z0B (Z02 Gl u g) < 0 /\ p = (4 * u + j,fV Gl u g j)
 | 0,t=>by simp [pT]; intro x h1 h2; omega
 | k + 1,t=>by
  rw [pT,List.mem_append,Zg5 (k:=k)]
  constructor
  · rintro (h | ⟨u,g,j,h1,h2,h3⟩)
    · obtain ⟨g,j,a,b,d⟩:=ZjY.1 h
      exact ⟨t,g,j,Nat.le_refl _,by omega,by omega,d⟩
    · exact ⟨u,g,j,by omega,by omega,h3⟩
  · rintro ⟨u,g,j,h1,h2,h3,h4⟩
    by_cases e:u = t
    · subst e
      exact .inl (ZjY.2 ⟨g,j,by omega,by omega,h4⟩)
    · exact .inr ⟨u,g,j,by omega,by omega,h3,h4⟩
theorem Zlz {Gl:List Int} {n:Nat} (hok:Z0t Gl n = true) (hG:Gl.length = n * 20) {k:Nat} (hk:k < 4 * n):Z06 (vxG Gl n) k = Z06 (vxC Gl n) k:=by
 have e1:vxG Gl n = jn (pT Gl n 0) (Z0n (4 * n)):=gT_jn Gl n 0 _
 have e2:vxC Gl n = jn ((Z1s Gl n).map fun M=>(mA M,mB M)) (Z0n (4 * n)):=Zpd n _ _
 have hD:∀ p,p ∈ pT Gl n 0 -> p.1 < 4 * n /\ p.2 < 4 * n:=fun p hp=>by
  obtain ⟨u,g,j,h1,h2,h3,h4,h5,h6,rfl⟩:=Zg5.1 hp
  exact ⟨by simp only; omega,ZnL (FGl.of hok hG (by omega) h3 h4 h5 h6)⟩
 have hE:∀ p,p ∈ ((Z1s Gl n).map fun M=>(mA M,mB M)) -> ∃ t f i,t < n /\ f < 4 /\ i < 4 /\ i ≠ f /\ ¬ Z0B (Z02 Gl t f) < 0 /\ p = (4 * t + i,fV Gl t f i):=fun p hp=>by
  obtain ⟨M,hM,rfl⟩:=List.mem_map.1 hp
  obtain ⟨t,f,i,ht,hf,hi,hne,hsk,rfl⟩:=Z9E hM
  obtain ⟨q1,q2⟩:=mAB (FGl.of hok hG ht hf hi hne (Z16 hsk))
  exact ⟨t,f,i,ht,hf,hi,hne,Z16 hsk,by rw [q1,q2]⟩
 rw [e1,e2]
 refine jn_eq hD (fun p hp=>?_) (fun p hp=>?_) (fun p hp=>?_) hk
 · obtain ⟨t,f,i,ht,hf,hi,hne,hg,rfl⟩:=hE p hp
   exact ⟨by simp only; omega,ZnL (FGl.of hok hG ht hf hi hne hg)⟩
 · obtain ⟨u,g,j,h1,h2,h3,h4,h5,h6,rfl⟩:=Zg5.1 hp
   rw [← e2]
   exact Zkb hok hG (by omega) h3 h4 h5 h6
 · obtain ⟨t,f,i,ht,hf,hi,hne,hg,rfl⟩:=hE p hp
   exact (Z70 _ _ (Z0z _) hD).2.2 _ (Zg5.2 ⟨t,f,i,by omega,by omega,hf,hi,hne,hg,rfl⟩)
theorem edN_ed {e:Nat} (h:e < 6):edN (edA e) (edB e) = e:=by
 have:∀ a:Fin 6,edN (edA (a:Nat)) (edB (a:Nat)) = (a:Nat):=by decide
 exact this ⟨e,h⟩
theorem ZoQ {i j:Nat} (hi:i < 4) (hj:j < 4):edN (i:Int) j = edN j i:=by
 have:∀ a b:Fin 4,edN ((a:Nat):Int) (b:Nat) = edN (b:Nat) (a:Nat):=by decide
 exact this ⟨i,hi⟩ ⟨j,hj⟩
theorem ZpA {i j:Nat} (hi:i < 4) (hj:j < 4) (hne:i ≠ j):edA (edN i j) = (min i j:Nat) /\ edB (edN i j) = (max i j:Nat):=by
 have:∀ a b:Fin 4,a ≠ b -> edA (edN ((a:Nat):Int) (b:Nat)) = (min (a:Nat) b:Nat) /\ edB (edN ((a:Nat):Int) (b:Nat)) = (max (a:Nat) b:Nat):=by decide
 exact this ⟨i,hi⟩ ⟨j,hj⟩ (fun e=>hne (congrArg Fin.val e))
def eC (Gl:List Int) (n:Nat):List Int:=eCl Gl n (Z1s Gl n)
def qK (p:List Int) (t f i:Nat) (u:Int):Nat -> Nat -> List (Nat × Nat)
 | 0,_=>[]
 | r + 1,k=>(if k = f ∨ k = i then [] else [((6 * (t:Int) + edN i k).toNat,(6 * u + edN (p.getD i 0) (p.getD k 0)).toNat)]) ++ qK p t f i u r (k + 1)
def qM (Gl:List Int) (M:List Int):List (Nat × Nat):=qK (Z0c (Z02 Gl (M.getD 0 0).toNat (M.getD 1 0).toNat)) (M.getD 0 0).toNat (M.getD 1 0).toNat (M.getD 2 0).toNat (M.getD 3 0) 4 0
def qD (Gl:List Int):List (List Int) -> List (Nat × Nat)
 | []=>[]
 | M :: D=>qM Gl M ++ qD Gl D
theorem ZpB (p:List Int) (t f i:Nat) (u:Int):∀ (r k:Nat) (L:List Int),eIn p t f i u r k L = jn (qK p t f i u r k) L
 | 0,_,_=>rfl
 | r + 1,k,L=>by rw [eIn,qK,Z27,ZpB p t f i u r]; split <;> rfl
theorem ZhE (Gl:List Int):∀ (D:List (List Int)) (L:List Int),D.foldl (Zl5 Gl) L = jn (qD Gl D) L
 | [],L=>rfl
 | M :: D,L=>by rw [List.foldl_cons,qD,Z27,ZhE Gl D,Zl5,ZpB]; rfl
theorem Zpl {p:List Int} {t f i:Nat} {u:Int} {x:Nat × Nat}:∀ {r k:Nat},x ∈ qK p t f i u r k ↔ ∃ j,k <= j /\ j < k + r /\ j ≠ f /\ j ≠ i /\ x = ((6 * (t:Int) + edN i j).toNat,(6 * u + edN (p.getD i 0) (p.getD j 0)).toNat)
 | 0,k=>by simp [qK]; intro y h1 h2; omega
 | r + 1,k=>by
  rw [qK,List.mem_append,Zpl (r:=r)]
  constructor
  · rintro (h | ⟨j,h1,h2,h3⟩)
    · split at h
      · cases h
      · rename_i hne
        exact ⟨k,Nat.le_refl _,by omega,fun q=>hne (.inl q),fun q=>hne (.inr q),List.mem_singleton.1 h⟩
    · exact ⟨j,by omega,by omega,h3⟩
  · rintro ⟨j,h1,h2,h3,h4,h5⟩
    by_cases e:j = k
    · subst e
      left
      rw [if_neg (fun q=>q.elim h3 h4),h5]; simp
    · exact .inr ⟨j,by omega,by omega,h3,h4,h5⟩
theorem ZjW {Gl:List Int} {x:Nat × Nat}:∀ {D:List (List Int)},x ∈ qD Gl D ↔ ∃ M,M ∈ D /\ x ∈ qM Gl M
 | []=>by simp [qD]
 | M :: D=>by rw [qD,List.mem_append,ZjW (D:=D)]; simp
theorem Zpk {Gl:List Int} {n t f i:Nat} {x:Nat × Nat} (g:FGl Gl n t f i):x ∈ qM Gl (Z24 Gl t f i) ↔ ∃ j,j < 4 /\ j ≠ f /\ j ≠ i /\ x = ((6 * (t:Int) + edN i j).toNat,(6 * (fU Gl t f:Int) + edN (fJ Gl t f i:Nat) ((Z0c (Z02 Gl t f)).getD j 0)).toNat):=by
 show x ∈ qK (Z0c (Z02 Gl t f)) t f i (Z0B (Z02 Gl t f)) 4 0 ↔ _
 rw [Zpl,g.uz,g.jz]
 constructor
 · rintro ⟨j,h1,h2,h3,h4,h5⟩; exact ⟨j,by omega,h3,h4,h5⟩
 · rintro ⟨j,h2,h3,h4,h5⟩; exact ⟨j,by omega,by omega,h3,h4,h5⟩
def rI (Gl:List Int) (t f:Nat):Nat -> Nat -> List (Nat × Nat)
 | 0,_=>[]
 | k + 1,e=>(if edA e = f ∨ edB e = f then [] else [(6 * t + e,fE Gl t f e)]) ++ rI Gl t f k (e + 1)
def rF (Gl:List Int) (t:Nat):Nat -> Nat -> List (Nat × Nat)
 | 0,_=>[]
 | k + 1,f=>(if Z0B (Z02 Gl t f) < 0 then [] else rI Gl t f 6 0) ++ rF Gl t k (f + 1)
def rT (Gl:List Int):Nat -> Nat -> List (Nat × Nat)
 | 0,_=>[]
 | k + 1,t=>rF Gl t 4 0 ++ rT Gl k (t + 1)
theorem hI_jn (Gl:List Int) (t f:Nat):∀ (k e:Nat) (C:List Int),hI Gl t f k e C = jn (rI Gl t f k e) C
 | 0,_,_=>rfl
 | k + 1,e,C=>by rw [hI,rI,Z27,hI_jn Gl t f k]; split <;> rfl
theorem hF_jn (Gl:List Int) (t:Nat):∀ (k f:Nat) (C:List Int),hF Gl t k f C = jn (rF Gl t k f) C
 | 0,_,_=>rfl
 | k + 1,f,C=>by
  rw [hF,rF,Z27,hF_jn Gl t k]
  split
  · rfl
  · rw [hI_jn]
theorem hT_jn (Gl:List Int):∀ (k t:Nat) (C:List Int),hT Gl k t C = jn (rT Gl k t) C
 | 0,_,_=>rfl
 | k + 1,t,C=>by rw [hT,rT,Z27,hT_jn Gl k,hF_jn]
theorem ZjU {Gl:List Int} {t f:Nat} {p:Nat × Nat}:∀ {k i:Nat},p ∈ rI Gl t f k i ↔ ∃ e:Nat,i <= e /\ e < i + k /\ edA e ≠ f /\ edB e ≠ f /\ p = (6 * t + e,fE Gl t f e)
 | 0,i=>by simp [rI]; intro x h1 h2; omega
 | k + 1,i=>by
  rw [rI,List.mem_append,ZjU (k:=k)]
  constructor
  · rintro (h | ⟨j,h1,h2,h3⟩)
    · split at h
      · cases h
      · rename_i hne
        exact ⟨i,Nat.le_refl _,by omega,fun q=>hne (.inl q),fun q=>hne (.inr q),List.mem_singleton.1 h⟩
    · exact ⟨j,by omega,by omega,h3⟩
  · rintro ⟨j,h1,h2,h3,h4,h5⟩
    by_cases e:j = i
    · subst e
      left
      rw [if_neg (fun q=>q.elim h3 h4),h5]; simp
    · exact .inr ⟨j,by omega,by omega,h3,h4,h5⟩
theorem ZjV {Gl:List Int} {t:Nat} {p:Nat × Nat}:∀ {k f:Nat},p ∈ rF Gl t k f ↔ ∃ g e:Nat,f <= g /\ g < f + k /\ e < 6 /\ edA e ≠ g /\ edB e ≠ g /\ ¬ Z0B (Z02 Gl t g) < 0 /\ p = (6 * t + e,fE Gl t g e)
 | 0,f=>by simp [rF]; intro x h1 h2; omega
 | k + 1,f=>by
  rw [rF,List.mem_append,ZjV (k:=k)]
  constructor
  · rintro (h | ⟨g,j,h1,h2,h3⟩)
    · split at h
      · cases h
      · rename_i hg
        obtain ⟨j,a,b,d,d2,e⟩:=ZjU.1 h
        exact ⟨f,j,Nat.le_refl _,by omega,by omega,d,d2,hg,e⟩
    · exact ⟨g,j,by omega,by omega,h3⟩
  · rintro ⟨g,j,h1,h2,h3,h4,h4',h5,h6⟩
    by_cases e:g = f
    · subst e
      left
      rw [if_neg h5]
      exact ZjU.2 ⟨j,by omega,by omega,h4,h4',h6⟩
    · exact .inr ⟨g,j,by omega,by omega,h3,h4,h4',h5,h6⟩
theorem Zg4 {Gl:List Int} {p:Nat × Nat}:∀ {k t:Nat},p ∈ rT Gl k t ↔ ∃ u g e:Nat,t <= u /\ u < t + k /\ g < 4 /\ e < 6 /\ edA e ≠ g /\ edB e ≠ g /\ ¬ Z0B (Z02 Gl u g) < 0 /\ p = (6 * u + e,fE Gl u g e)
 | 0,t=>by simp [rT]; intro x h1 h2; omega
 | k + 1,t=>by
  rw [rT,List.mem_append,Zg4 (k:=k)]
  constructor
  · rintro (h | ⟨u,g,j,h1,h2,h3⟩)
    · obtain ⟨g,j,a,b,d⟩:=ZjV.1 h
      exact ⟨t,g,j,Nat.le_refl _,by omega,by omega,d⟩
    · exact ⟨u,g,j,by omega,by omega,h3⟩
  · rintro ⟨u,g,j,h1,h2,h3,h4⟩
    by_cases e:u = t
    · subst e
      exact .inl (ZjV.2 ⟨g,j,by omega,by omega,h4⟩)
    · exact .inr ⟨u,g,j,by omega,by omega,h3,h4⟩
theorem Zpf {Gl:List Int} {n t f i j:Nat} (hok:Z0t Gl n = true) (hG:Gl.length = n * 20) (ht:t < n) (hf:f < 4) (hi:i < 4) (hne:i ≠ f) (hsk:Z1v Gl t f = false) (hj:j < 4) (hjf:j ≠ f) (hji:j ≠ i) :
 ((6 * (t:Int) + edN i j).toNat,(6 * (fU Gl t f:Int) + edN (fJ Gl t f i:Nat) (fJ Gl t f j:Nat)).toNat) ∈ qD Gl (Z1s Gl n):=by
 have g:=FGl.of hok hG ht hf hi hne (Z16 hsk)
 have g2:=FGl.of hok hG ht hf hj hjf (Z16 hsk)
 exact ZjW.2 ⟨_,Z9G ht hf hi hne hsk,(Zpk g).2 ⟨j,hj,hjf,hji,by rw [g2.jz]⟩⟩
theorem ZcC {Gl:List Int} {n:Nat} (hok:Z0t Gl n = true) (hG:Gl.length = n * 20) {x:Nat × Nat} (hx:x ∈ qD Gl (Z1s Gl n)):∃ t f i j,t < n /\ f < 4 /\ i < 4 /\ j < 4 /\ i ≠ f /\ j ≠ f /\ i ≠ j /\ ¬ Z0B (Z02 Gl t f) < 0 ∧
 x = ((6 * (t:Int) + edN i j).toNat,(6 * (fU Gl t f:Int) + edN (fJ Gl t f i:Nat) (fJ Gl t f j:Nat)).toNat):=by
 obtain ⟨M,hM,hx⟩:=ZjW.1 hx
 obtain ⟨t,f,i,ht,hf,hi,hne,hsk,rfl⟩:=Z9E hM
 have g:=FGl.of hok hG ht hf hi hne (Z16 hsk)
 obtain ⟨j,h1,h2,h3,rfl⟩:=(Zpk g).1 hx
 have g2:=FGl.of hok hG ht hf h1 h2 (Z16 hsk)
 exact ⟨t,f,i,j,ht,hf,hi,h1,hne,h2,fun q=>h3 q.symm,Z16 hsk,by rw [g2.jz]⟩
theorem Zkk {Gl:List Int} {n t f i j:Nat} (hok:Z0t Gl n = true) (hG:Gl.length = n * 20) (ht:t < n) (hf:f < 4) (hi:i < 4) (hj:j < 4) (hij:i ≠ j) (hg:¬ Z0B (Z02 Gl t f) < 0):fJ Gl t f i ≠ fJ Gl t f j:=by
 obtain ⟨hp,-,-⟩:=ZcJ hok hG ht hf hg
 have r1:=Z0U hp hi
 have r2:=Z0U hp hj
 have r3:=Zm4 hp hi hj hij
 unfold fJ
 omega
theorem Zqo {Gl:List Int} {n t f i j:Nat} (hok:Z0t Gl n = true) (hG:Gl.length = n * 20) (ht:t < n) (hf:f < 4) (hi:i < 4) (hj:j < 4) (hif:i ≠ f) (hjf:j ≠ f) (hij:i ≠ j) (hg:¬ Z0B (Z02 Gl t f) < 0) :
 fE Gl t f (edN i j).toNat = (6 * (fU Gl t f:Int) + edN (fJ Gl t f i:Nat) (fJ Gl t f j:Nat)).toNat:=by
 have r:=Z19 (i:=(i:Int)) (j:=(j:Int)) (by omega) (by omega) (by omega) (by omega) (by omega)
 obtain ⟨e1,e2⟩:=ZpA hi hj hij
 have gi:=FGl.of hok hG ht hf hi hif hg
 have gj:=FGl.of hok hG ht hf hj hjf hg
 have r2:=Z19 (i:=(fJ Gl t f i:Int)) (j:=(fJ Gl t f j:Int)) (by omega) (by have:=gi.j; omega) (by omega) (by have:=gj.j; omega) (by have:=Zkk hok hG ht hf hi hj hij hg; omega)
 unfold fE
 rw [show (((edN (i:Int) j).toNat:Nat):Int) = edN i j by omega,e1,e2,Int.toNat_natCast,Int.toNat_natCast]
 rcases Nat.lt_or_ge i j with h | h
 · rw [show min i j = i by omega,show max i j = j by omega,gi.jz,gj.jz]
   omega
 · rw [show min i j = j by omega,show max i j = i by omega,gi.jz,gj.jz,ZoQ gj.j gi.j]
   omega
theorem ZoR {Gl:List Int} {n:Nat} (hok:Z0t Gl n = true) (hG:Gl.length = n * 20) {k:Nat} (hk:k < 6 * n):Z06 (edG Gl n) k = Z06 (eC Gl n) k:=by
 have e1:edG Gl n = jn (rT Gl n 0) (Z0n (6 * n)):=hT_jn Gl n 0 _
 have e2:eC Gl n = jn (qD Gl (Z1s Gl n)) (Z0n (6 * n)):=ZhE Gl _ _
 have hD:∀ p,p ∈ rT Gl n 0 -> p.1 < 6 * n /\ p.2 < 6 * n:=fun p hp=>by
  obtain ⟨u,g,e,h1,h2,h3,h4,h5,h6,h7,rfl⟩:=Zg4.1 hp
  exact ⟨by simp only; omega,Zqn hok hG (by omega) h3 h7 h4⟩
 have key:∀ {t f i j:Nat},t < n -> f < 4 -> i < 4 -> j < 4 -> i ≠ f -> j ≠ f -> i ≠ j -> ¬ Z0B (Z02 Gl t f) < 0 -> ((6 * (t:Int) + edN i j).toNat,(6 * (fU Gl t f:Int) + edN (fJ Gl t f i:Nat) (fJ Gl t f j:Nat)).toNat) = (6 * t + (edN i j).toNat,fE Gl t f (edN i j).toNat) /\ (edN i j).toNat < 6 /\ edA (edN i j).toNat ≠ f /\ edB (edN i j).toNat ≠ f:=by
  intro t f i j ht hf hi hj h1 h2 h3 hg
  have r:=Z19 (i:=(i:Int)) (j:=(j:Int)) (by omega) (by omega) (by omega) (by omega) (by omega)
  obtain ⟨a1,a2⟩:=ZpA hi hj h3
  rw [Zqo hok hG ht hf hi hj h1 h2 h3 hg]
  refine ⟨by congr 1; omega,by omega, ?_, ?_⟩
  · rw [show (((edN (i:Int) j).toNat:Nat):Int) = edN i j by omega,a1]; omega
  · rw [show (((edN (i:Int) j).toNat:Nat):Int) = edN i j by omega,a2]; omega
 have hE:∀ p,p ∈ qD Gl (Z1s Gl n) -> p ∈ rT Gl n 0:=fun p hp=>by
  obtain ⟨t,f,i,j,ht,hf,hi,hj,h1,h2,h3,hg,rfl⟩:=ZcC hok hG hp
  obtain ⟨k1,k2,k3,k4⟩:=key ht hf hi hj h1 h2 h3 hg
  rw [k1]
  exact Zg4.2 ⟨t,f,(edN i j).toNat,by omega,by omega,hf,k2,k3,k4,hg,rfl⟩
 have hE':∀ p,p ∈ qD Gl (Z1s Gl n) -> p.1 < 6 * n /\ p.2 < 6 * n:=fun p hp=>hD p (hE p hp)
 rw [e1,e2]
 refine jn_eq hD hE' (fun p hp=>?_) (fun p hp=>(Z70 _ _ (Z0z _) hD).2.2 _ (hE p hp)) hk
 obtain ⟨u,g,e,h1,h2,h3,h4,h5,h6,h7,rfl⟩:=Zg4.1 hp
 have ht:u < n:=by omega
 obtain ⟨g1,g2,g3,g4,g5⟩:=Zar (e:=(e:Int)) (by omega) (by omega)
 obtain ⟨A,hA⟩:∃ A:Nat,edA e = A:=⟨(edA e).toNat,by omega⟩
 obtain ⟨B,hB⟩:∃ B:Nat,edB e = B:=⟨(edB e).toNat,by omega⟩
 have en:=edN_ed h4
 rw [hA,hB] at en
 rw [hA] at h5 g1 g2 g5
 rw [hB] at h6 g3 g4 g5
 have hA4:A < 4:=by omega
 have hB4:B < 4:=by omega
 have hAB:A ≠ B:=by omega
 have hAg:A ≠ g:=by omega
 have hBg:B ≠ g:=by omega
 obtain ⟨k1,-⟩:=key ht h3 hA4 hB4 hAg hBg hAB h7
 have same:=(Z70 _ _ (Z0z _) hE').2.2
 rw [show (edN (A:Int) B).toNat = e by omega] at k1
 cases hs:Z1v Gl u g with
 | false =>
  have:=same _ (Zpf hok hG ht h3 hA4 hAg hs hB4 hBg (Ne.symm hAB))
  rw [k1] at this
  exact this
 | true =>
  have gA:=FGl.of hok hG ht h3 hA4 hAg h7
  have gB:=FGl.of hok hG ht h3 hB4 hBg h7
  obtain ⟨z1,z2,z3,z4,z5⟩:=Z5Y hok hG ht h3 hA4 hAg h7
  obtain ⟨y1,y2,y3,y4,y5⟩:=Z5Y hok hG ht h3 hB4 hBg h7
  have nAB:=Zkk hok hG ht h3 hA4 hB4 hAB h7
  have:=same _ (Zpf hok hG gA.u gA.h gA.j gA.ne (z5 hs) gB.j gB.ne (Ne.symm nAB))
  rw [z1,z3,y3] at this
  have e1':=congrArg Prod.fst k1
  have e2':=congrArg Prod.snd k1
  simp only at e1' e2' this ⊢
  rw [e1',e2'] at this
  exact this.symm
theorem ZfK (V:List Int) (t:Int) {i j f:Nat} (hi:i < 4) (hj:j < 4) (hf:f < 4) (h1:i ≠ f) (h2:j ≠ f) (h3:i ≠ j):Z1N V t (edN i j) = Z7P V t f i + Z7P V t f j:=by
 have hz:(i = 0 ∨ i = 1 ∨ i = 2 ∨ i = 3) /\ (j = 0 ∨ j = 1 ∨ j = 2 ∨ j = 3) /\ (f = 0 ∨ f = 1 ∨ f = 2 ∨ f = 3):=by omega
 obtain ⟨a,b,d⟩:=hz
 rcases a with rfl | rfl | rfl | rfl <;> rcases b with rfl | rfl | rfl | rfl <;> first | (exfalso; omega) | skip
 all_goals (rcases d with rfl | rfl | rfl | rfl <;> first | (exfalso; omega) | skip)
 all_goals (simp [Z1N,wK,Z7P,edN,edI,Zqe,edA,edB,edL,ty,tyT]; try omega)
end Go.Proofs.Ytcnndelmnobigaa

namespace Go.Proofs.Ytcnndelmnobigaa
open Go Go.Ab Go.Proofs
theorem Zl6 {Gl:List Int} {n:Nat} (hok:Z0t Gl n = true) (hG:Gl.length = n * 20):Z1M (eC Gl n) (6 * n) /\ ∀ p,p ∈ qD Gl (Z1s Gl n) -> p.1 < 6 * n /\ p.2 < 6 * n:=by
 have hp:∀ p,p ∈ qD Gl (Z1s Gl n) -> p.1 < 6 * n /\ p.2 < 6 * n:=fun p hp=>by
  obtain ⟨t,f,i,j,ht,hf,hi,hj,h1,h2,h3,hg,rfl⟩:=ZcC hok hG hp
  have r:=Z19 (i:=(i:Int)) (j:=(j:Int)) (by omega) (by omega) (by omega) (by omega) (by omega)
  have gi:=FGl.of hok hG ht hf hi h1 hg
  have gj:=FGl.of hok hG ht hf hj h2 hg
  have gu:=gi.u
  have r2:=Z19 (i:=(fJ Gl t f i:Int)) (j:=(fJ Gl t f j:Int)) (by omega) (by have:=gi.j; omega) (by omega) (by have:=gj.j; omega) (by have:=Zkk hok hG ht hf hi hj h3 hg; omega)
  exact ⟨by simp only; omega,by simp only; omega⟩
 have e2:eC Gl n = jn (qD Gl (Z1s Gl n)) (Z0n (6 * n)):=ZhE Gl _ _
 exact ⟨by rw [e2]; exact (Z70 _ _ (Z0z _) hp).1,hp⟩
theorem Zjh {Gl V:List Int} {n k:Nat} (hok:Z0t Gl n = true) (hG:Gl.length = n * 20) (hE:((Z1s Gl n).all fun m=>eqM V m) = true) (hk:k < 6 * n):wgt V k = wgt V (Z06 (eC Gl n) k:Nat):=by
 obtain ⟨hd,hp⟩:=Zl6 hok hG
 have e2:eC Gl n = jn (qD Gl (Z1s Gl n)) (Z0n (6 * n)):=ZhE Gl _ _
 have hle:=Z0G hd hk
 have hrr:=Z1S hd hk
 rw [e2] at hle hrr ⊢
 refine ((Z4b (fun w=>wgt V w = wgt V (Z06 (jn (qD Gl (Z1s Gl n)) (Z0n (6 * n))) k:Nat)) (D:=qD Gl (Z1s Gl n)) (fun p hpp=>⟨(hp p hpp).1,(hp p hpp).2, ?_⟩) (a:=Z06 (jn (qD Gl (Z1s Gl n)) (Z0n (6 * n))) k) (b:=k) (by omega) hk hrr).1 rfl)
 obtain ⟨t,f,i,j,ht,hf,hi,hj,h1,h2,h3,hg,rfl⟩:=ZcC hok hG hpp
 have r:=Z19 (i:=(i:Int)) (j:=(j:Int)) (by omega) (by omega) (by omega) (by omega) (by omega)
 have gi:=FGl.of hok hG ht hf hi h1 hg
 have gj:=FGl.of hok hG ht hf hj h2 hg
 have r2:=Z19 (i:=(fJ Gl t f i:Int)) (j:=(fJ Gl t f j:Int)) (by omega) (by have:=gi.j; omega) (by omega) (by have:=gj.j; omega) (by have:=Zkk hok hG ht hf hi hj h3 hg; omega)
 have w1:wgt V ((6 * (t:Int) + edN i j).toNat:Nat) = Z1N V t (edN i j):=by
  rw [Zcl]
  congr 1 <;> omega
 have w2:wgt V ((6 * (fU Gl t f:Int) + edN (fJ Gl t f i:Nat) (fJ Gl t f j:Nat)).toNat:Nat) = Z1N V (fU Gl t f) (edN (fJ Gl t f i:Nat) (fJ Gl t f j:Nat)):=by
  rw [Zcl]
  congr 1 <;> omega
 have a1:=ZgW hok hG hE ht hf hi h1 hg
 have a2:=ZgW hok hG hE ht hf hj h2 hg
 have e:wgt V ((6 * (t:Int) + edN i j).toNat:Nat) = wgt V ((6 * (fU Gl t f:Int) + edN (fJ Gl t f i:Nat) (fJ Gl t f j:Nat)).toNat:Nat):=by
  rw [w1,w2,ZfK V t hi hj hf h1 h2 h3,ZfK V (fU Gl t f) gi.j gj.j gi.h gi.ne gj.ne (Zkk hok hG ht hf hi hj h3 hg),a1,a2]
 show wgt V ((6 * (t:Int) + edN i j).toNat:Nat) = _ ↔ wgt V ((6 * (fU Gl t f:Int) + edN (fJ Gl t f i:Nat) (fJ Gl t f j:Nat)).toNat:Nat) = _
 rw [e]
def wP (C V:List Int) (m i:Nat):List Int:=(List.range (Z0V C m)).map fun k=>if k < Z0V C i then wgt V ((Z0s C m).getD k 0) else 0
theorem Z4i (C V:List Int) (m i:Nat):(wP C V m i).length = Z0V C m:=by simp [wP]
theorem Zcm (C V:List Int) (m i:Nat) {k:Nat} (h:k < Z0V C m):(wP C V m i).getD k 0 = if k < Z0V C i then wgt V ((Z0s C m).getD k 0) else 0:=by simp [wP,List.getD_eq_getElem?_getD,h]
theorem ZpP (C V:List Int) (m:Nat):wP C V m 0 = List.replicate (Z0V C m) 0:=by
 refine Z1G (m:=Z0V C m) (Z4i _ _ _ _) (by simp) fun k hk=>?_
 rw [Zcm C V m 0 hk,show Z0V C 0 = 0 from rfl,if_neg (by omega)]
 simp [List.getD_eq_getElem?_getD,List.getElem?_replicate,hk]
theorem wP_all (C V:List Int) (m:Nat):wP C V m m = (Z0s C m).map (wgt V):=by
 refine Z1G (m:=Z0V C m) (Z4i _ _ _ _) (by simp [Z0V]) fun k hk=>?_
 rw [Zcm C V m m hk,if_pos hk]
 have hk':k < (Z0s C m).length:=hk
 simp [List.getD_eq_getElem?_getD,hk']
theorem ZpQ {C V:List Int} {m i:Nat} (hd:Z1M C m) (hi:i < m) (hw:wgt V i = wgt V (Z06 C i:Nat)):(wP C V m i).set (Z0V C (Z06 C i)) (wgt V i) = wP C V m (i + 1):=by
 have hle:=Z0G hd hi
 have hrr:=Z1S hd hi
 have hg:=Z40 (C:=C) (m:=m) (by omega) hrr
 have hlt:=ZeI (C:=C) (m:=m) (by omega) hrr
 have hlt2:=ZeI (C:=C) (m:=i + 1) (by omega) hrr
 have hs:=Z5X C i
 refine Z1G (m:=Z0V C m) (by simp [Z4i]) (Z4i _ _ _ _) fun k hk=>?_
 rw [Z1j,Zcm C V m (i + 1) hk,Z4i]
 by_cases e:Z0V C (Z06 C i) = k
 · rw [if_pos ⟨e,by omega⟩,if_pos (by omega),← e,List.getD_eq_getElem?_getD,hg]
   exact hw
 · rw [if_neg (fun q=>e q.1),Zcm C V m i hk]
   by_cases e2:Z06 C i = i
   · rw [e2] at e
     rw [if_pos e2] at hs
     by_cases e3:k < Z0V C i
     · rw [if_pos e3,if_pos (by omega)]
     · rw [if_neg e3,if_neg (by omega)]
   · rw [if_neg e2] at hs
     rw [hs,Nat.add_zero]
theorem wloop (v:Value) (n nv:Nat) (V C:List Int) (lb ob c:Nat) (h0:FH) (df:List Nat) (hn:n <= 60) (hnv:nv = 7 * n) (hV:∀ j,0 <= gi V j /\ gi V j <= 1000000) (hv:SlI h0 c v 1 nv V) (hvb:0 < n -> Z0p v ≠ ob) (hd:Z1M C (6 * n)) (hlb:lb < 256 * c) (hob:ob < 256 * c) (hne:lb ≠ ob) (hg:h0.f lb = some (.cells false none (ints (Zea C (6 * n)))))
 (hw:∀ i:Nat,i < 6 * n -> wgt V i = wgt V (Z06 C i:Nat)) :
 ∀ (r i:Nat),i + r = 6 * n →
 Ans (G (ZbR none) [v,.slice (some ⟨lb,0,none⟩) (6 * n) (6 * n),.slice (some ⟨ob,0,none⟩) (Z0V C (6 * n)) (Z0V C (6 * n)),.int .i64 i] (newB h0 ob (ints (wP C V (6 * n) i))) c df) fun q=>q = ⟨.exit 0,[v,.slice (some ⟨lb,0,none⟩) (6 * n) (6 * n),.slice (some ⟨ob,0,none⟩) (Z0V C (6 * n)) (Z0V C (6 * n)),.int .i64 (6 * n:Nat)],newB h0 ob (ints (wP C V (6 * n) (6 * n))),c,df⟩:=by
 intro r
 have o1:=hv.okV
 have fl:=Z83 C (6 * n)
 induction r with
 | zero =>
  intro i hi
  obtain rfl:i = 6 * n:=by omega
  refine Ans.lpG rfl rfl (Z7B ..) ?_
  unfold Z8X
  have fx:=True.intro
  refine Ans.go ?_
  clear fx
  (have fx:=ai o1 (ai hlb hob); refine Ans.ex0 ?_; clear fx)
  rfl
 | succ r ih =>
  intro i hi
  have hi6:i < 6 * n:=by omega
  have hle:=Z0G hd hi6
  have hrr:=Z1S hd hi6
  have hlt:=ZeI (C:=C) (m:=6 * n) (by omega) hrr
  have hstep:=ZpQ (V:=V) hd hi6 (hw i hi6)
  have l1:ld1 (newB h0 ob (ints (wP C V (6 * n) i))) (.pointer (some ⟨lb,i,none⟩)) = some (.int .i64 (Z0V C (Z06 C i):Nat)):=by
   rw [ld1_newB_ne _ _ _ _ _ hne,Z01 ⟨false,none,hg⟩,ints_getD _ _ (by rw [Z1q]; exact hi6),Z4q _ hi6]
  have q1:=Zen i 6 (by omega) (by omega)
  have q2:=Zej i 6 (by omega)
  simp only [Int.ofNat_eq_natCast,Int.cast_ofNat_Int] at q1 q2
  have hv':SlI (newB h0 ob (ints (wP C V (6 * n) i))) c v 1 nv V:=hv.keep fun hp=>by rw [Z07,if_neg (hvb (by omega))]
  have cw:=fun c' (hc:c <= c')=>Z04 (ZhO v nv V (i / 6) (i % 6) (newB h0 ob (ints (wP C V (6 * n) i))) c' [] (hv'.mono hc) (by omega) (by omega) (by omega) hV)
  rw [← Zcl] at cw
  have hst:stN (newB h0 ob (ints (wP C V (6 * n) i))) 1 (.pointer (some ⟨ob,Z0V C (Z06 C i),none⟩)) (.int .i64 (wgt V i)) = some (newB h0 ob (ints (wP C V (6 * n) (i + 1)))):=by
   rw [st1_int _ _ _ _ _ _ (by rw [ints_length,Z4i]; exact hlt),Z0K,hstep]
  have hk1:=ih (i + 1) (by omega)
  obtain ⟨T,hT⟩:∃ T,i / 6 = T:=⟨_,rfl⟩
  obtain ⟨E,hE⟩:∃ E,i % 6 = E:=⟨_,rfl⟩
  rw [hT] at q1 cw
  rw [hE] at q2 cw
  obtain ⟨W,hW⟩:∃ W,wgt V (i:Int) = W:=⟨_,rfl⟩
  rw [hW] at cw hst
  obtain ⟨K,hK⟩:∃ K,Z0V C (Z06 C i) = K:=⟨_,rfl⟩
  rw [hK] at l1 hst hlt
  have hi6':(i:Int) < (6 * n:Nat):=by omega
  refine Ans.lpG rfl rfl (Z7B ..) ?_
  unfold Z8X
  have fx:=ai l1 (ai q1 (ai q2 (ai cw (ai hst Z2j))))
  refine Ans.go ?_
  clear fx
  (have fx:=ai o1 (ai hlb hob); refine Ans.nxB (B:=newB h0 ob (ints (wP C V (6 * n) (i + 1)))) ?_ ?_; exact (Z2e.both (Z1t.ints _ _) (Z2e.refl _ _) hob); clear fx)
  exact hk1
set_option maxHeartbeats 1000000 in
theorem Z9J (s v:Value) (n nv:Nat) (Gl V:List Int) (h:FH) (c:Nat) (df:List Nat) (hs:SlI h c s 20 n Gl) (hv:SlI h c v 1 nv V) (hnv:nv <= 1000000) :
 Ans (G (.fn 31) [.agg #[s],v] h c df) fun r=>r.e = .ret /\ r.df = [] /\ c <= r.c /\ Z0u c h r.h ∧
  ((Z7O Gl n (Z2Y Gl n V) ≠ 0 /\ r.vs = [.tuple #[.slice none 0 0,.int .i64 (Z7O Gl n (Z2Y Gl n V))]]) ∨
   (Z7O Gl n (Z2Y Gl n V) = 0 /\ ∃ w,r.vs = [.tuple #[w,.int .i64 0]] /\ SlI r.h r.c w 1 (edF Gl n).length ((edF Gl n).map (wgt V)))):=by
 refine Ans.call' (fun r e=>f31_go e) ?_
 unfold ZqT
 rw [Z4c hs.flat,Z43,Nat.add_zero]
 simp only [cond_true]
 obtain ⟨H,hH⟩:∃ H,newB h (256 * c) [s] = H:=⟨_,rfl⟩
 have sH:Z0u c h H:=by rw [← hH]; simp (disch:=omega)
 have hg:Z0a H (256 * c) [s]:=by rw [← hH]; exact Z0a.newB_same _ _ _
 have l0:=Z0C hg
 have cc:=fun c' (hc:c <= c')=>Z04 (Zca s v n nv Gl V H c' [] ((hs.same sH).mono hc) ((hv.same sH).mono hc) hnv)
 by_cases h0:Z7O Gl n (Z2Y Gl n V) = 0
 case neg =>
  obtain ⟨E,hE⟩:∃ E,Z7O Gl n (Z2Y Gl n V) = E:=⟨_,rfl⟩
  rw [hE] at cc h0 ⊢
  have fx:=ai hH (ai l0 cc)
  refine Ans.go ?_
  clear fx
  exact .done ⟨rfl,rfl,(by show c <= c + 1 + 1 + 1 + 1; omega),sH,.inl ⟨h0,rfl⟩⟩
 obtain ⟨hr0,ha⟩:=Zau h0
 obtain ⟨hn,hok⟩:=Z1F hr0
 obtain ⟨a1,a2,a3,a4⟩:=Z2X.1 ha
 have hV:=Zck a2
 have hnv':nv = 7 * n:=by have:=hv.1; omega
 rw [h0] at cc
 obtain ⟨⟨re,rv,H1,k1,rd⟩,w1,lb,e1,r1,r2,r3,r4,r5⟩:=Zfu s n Gl H (c + 1 + 1 + 1 + 1) [] ((hs.same sH).mono (by omega)) hok hn
 obtain ⟨rfl,rfl,-,-,rfl⟩:=Rt.mk.inj e1
 simp only at r1 r2 r4 r5
 obtain ⟨hd,-⟩:=Zl6 hok hs.1
 have hdG:Z1M (edG Gl n) (6 * n):=ZeB hok hs.1 (by omega) (Z0z _)
 rw [Zb8 hdG (fun k hk=>ZoR hok hs.1 hk)] at r5
 have cE:callF G 64 [.agg #[s]] H (c + 1 + 1 + 1 + 1) = some (.slice (some ⟨lb,0,none⟩) (6 * n) (6 * n),H1,k1):=Z04 w1
 have cn:=fun c' (hc:k1 <= c')=>Z04 (Zda (.slice (some ⟨lb,0,none⟩) (6 * n) (6 * n)) (6 * n) (eC Gl n) H1 c' [] (by omega) hd (Zb6 r5 (Z1q _ _) (by omega) (by omega)))
 have fl:=Z83 (eC Gl n) (6 * n)
 have mk:=Z5R 1 8 .i64 .i64 (Z0V (eC Gl n) (6 * n)) (by omega) (by omega)
 have s1:Z0u c h H1:=sH.trans (r2.mono (by omega))
 obtain ⟨ob,hob⟩:∃ ob,256 * k1 + 2 = ob:=⟨_,rfl⟩
 have hlo:=Ans.eq (wloop v n nv V (eC Gl n) lb ob (k1 + 1 + 1) H1 [] hn hnv' hV ((hv.same s1).mono (by omega)) (fun hp=>by have:=hv.blk (by omega); omega) hd (by omega) (by omega) (by omega) r5 (fun i hi=>Zjh hok hs.1 a4 hi) (6 * n) 0 (by omega))
 rw [ZpP,wP_all] at hlo
 simp only [Int.ofNat_eq_natCast,Int.cast_ofNat_Int] at hlo
 have hFe:Z0s (eC Gl n) (6 * n) = edF Gl n:=rfl
 have hle:Z0V (eC Gl n) (6 * n) = (edF Gl n).length:=rfl
 rw [hFe] at hlo
 rw [hle] at cn mk hlo fl
 obtain ⟨M,hM⟩:∃ M,(edF Gl n).length = M:=⟨_,rfl⟩
 have hml:((edF Gl n).map (wgt V)).length = M:=by rw [List.length_map,hM]
 rw [hM] at cn mk hlo fl ⊢
 obtain ⟨N,hN⟩:∃ N,newB H1 ob (ints ((edF Gl n).map (wgt V))) = N:=⟨_,rfl⟩
 rw [hN] at hlo
 have fN:N.f ob = some (.cells false none (ints ((edF Gl n).map (wgt V)))):=by rw [← hN,Z07,if_pos rfl]
 have fx:=ai hH (ai l0 (ai cc (ai cE (ai cn (ai mk (ai hob hlo))))))
 refine Ans.go ?_
 clear fx
 refine .done ⟨rfl,rfl,(by show c <= _; simp only; omega),fun b hb=>?_,.inr ⟨h0,_,rfl,Zb6 fN hml (by omega) (by simp only; omega)⟩⟩
 show N.f b = _
 rw [← hN,Z07,if_neg (by omega),r2 b (by omega),sH b hb]
end Go.Proofs.Ytcnndelmnobigaa

namespace Go.Proofs.Ytcnndelmnobigaa
open Go Go.Ab Go.Proofs
theorem Z6Q.len {c0:Nat} {h:FH} {c:Nat} {v:Value} {n:Nat} {cs:List Value} (ha:Z6Q c0 h c v n cs):Z11 v = some (.int .i64 n):=by
 obtain ⟨_,_,_,i,op,rfl,_⟩:=ha; rfl
theorem ZfV {Gl V:List Int} (hV:∀ j,0 <= gi V j /\ gi V j <= 1000000):∀ {r t:Nat},0 <= sT Gl V r t /\ sT Gl V r t <= r * 32000000
 | 0,_=>by simp [sT]
 | r + 1,t=>by
  rw [sT]
  have h1:=Z9A (Gl:=Gl) hV (t:=t) (r:=4) (f:=0)
  have h2:=ZfV (Gl:=Gl) hV (r:=r) (t:=t + 1)
  omega
end Go.Proofs.Ytcnndelmnobigaa
