/- Parts of a proof: U10 D1 D2 D3 AbTrie AbHeap. Conditions: none. -/
import Derived.Test.YtcnndelmnobigaaM18
import Derived.Test.YtcnndelmnobigaaM15
import Derived.Test.YtcnndelmnobigaaM7
import Derived.Test.YtcnndelmnobigaaM0
set_option linter.all false
set_option maxRecDepth 100000
namespace Go.Proofs.Ytcnndelmnobigaa
open Go Go.Ab Go.Proofs
def sI (V:List Int) (t f:Nat):Nat -> Nat -> Int
 | 0,_=>0
 | r + 1,i=>(if i = f then 0 else Z7P V t f i) + sI V t f r (i + 1)
def Z6E (Gl:List Int) (t f:Nat):Bool:=decide (0 <= Z0B (Z02 Gl t f) /\ (Z0B (Z02 Gl t f) < t ∨ (Z0B (Z02 Gl t f) = t /\ (Z0c (Z02 Gl t f)).getD f 0 < f)))
def sF (Gl V:List Int) (t:Nat):Nat -> Nat -> Int
 | 0,_=>0
 | r + 1,f=>(if Z6E Gl t f = true then 0 else sI V t f 4 0) + sF Gl V t r (f + 1)
def sT (Gl V:List Int):Nat -> Nat -> Int
 | 0,_=>0
 | r + 1,t=>sF Gl V t 4 0 + sT Gl V r (t + 1)
theorem Zcd {V:List Int} (hV:∀ j,0 <= gi V j /\ gi V j <= 1000000) (t f i:Int):0 <= Z7P V t f i /\ Z7P V t f i <= 2000000:=by
 unfold Z7P
 have h1:=hV (7 * t + i)
 have h2:=hV (7 * t + 4 + ty i f)
 omega
theorem Z9z {V:List Int} (hV:∀ j,0 <= gi V j /\ gi V j <= 1000000) {t f:Nat}:∀ {r i:Nat},0 <= sI V t f r i /\ sI V t f r i <= r * 2000000
 | 0,_=>by simp [sI]
 | r + 1,i=>by
  rw [sI]
  have h1:=Zcd hV t f i
  have h2:=Z9z hV (t:=t) (f:=f) (r:=r) (i:=i + 1)
  split <;> omega
theorem Z9A {Gl V:List Int} (hV:∀ j,0 <= gi V j /\ gi V j <= 1000000) {t:Nat}:∀ {r f:Nat},0 <= sF Gl V t r f /\ sF Gl V t r f <= r * 8000000
 | 0,_=>by simp [sF]
 | r + 1,f=>by
  rw [sF]
  have h1:=Z9z hV (t:=t) (f:=f) (r:=4) (i:=0)
  have h2:=Z9A (Gl:=Gl) hV (t:=t) (r:=r) (f:=f + 1)
  split <;> omega
theorem Zlo (s:Value) (n nv:Nat) (V:List Int) (t f:Nat) (v4 v5 v6 v7 v8:Value) (h:FH) (c:Nat) (df:List Nat) (hs:SlI h c s 1 nv V) (hnv:nv = 7 * n) (hn:n <= 60) (ht:t < n) (hf:f < 4) (hV:∀ j,0 <= gi V j /\ gi V j <= 1000000)
 (o4:OkV c v4) (o5:OkV c v5) (o6:OkV c v6) (o7:OkV c v7) (o8:OkV c v8) :
 ∀ (r i:Nat) (a:Int),i + r = 4 -> -2000000000000 + (r:Int) * 2000000 <= a -> a <= 2000000000000 →
 Ans (G (ZbZ none) [s,.int .i64 a,.int .i64 t,.int .i64 f,v4,v5,v6,v7,v8,.int .i64 i] h c df) fun q=>q = ⟨.exit 4,[s,.int .i64 (a - sI V t f r i),.int .i64 t,.int .i64 f,v4,v5,v6,v7,v8,.int .i64 4],h,c,df⟩:=by
 intro r
 have o1:=hs.okV
 induction r with
 | zero =>
  intro i a hi h1 h2
  obtain rfl:i = 4:=by omega
  refine Ans.lpG rfl rfl (Z2T ..) ?_
  unfold Z3J
  have fx:=True.intro
  refine Ans.go ?_
  clear fx
  (have fx:=ai o1 (ai o4 (ai o5 (ai o6 (ai o7 o8)))); refine Ans.ex0 ?_; clear fx)
  rw [sI,Int.sub_zero]
  rfl
 | succ r ih =>
  intro i a hi h1 h2
  have hi4:(i:Int) < 4:=by omega
  rw [sI]
  by_cases e:i = f
  · subst e
    rw [if_pos rfl,Int.zero_add]
    refine Ans.lpG rfl rfl (Z2T ..) ?_
    unfold Z3J
    have fx:=True.intro
    refine Ans.go ?_
    clear fx
    (have fx:=ai o1 (ai o4 (ai o5 (ai o6 (ai o7 o8)))); refine Ans.nx0 ?_; clear fx)
    exact ih (i + 1) a (by omega) (by omega) h2
  · rw [if_neg e]
    have e':¬ ((i:Int) = f):=by omega
    have b:=Zcd hV t f i
    have ca:=fun c' (hc:c <= c')=>Z04 (ZfE s nv V t f i h c' [] (hs.mono hc) (by omega) (by omega) (by omega) (by omega) (by omega) (by omega) (by omega) (by omega) (fun j hj=>by have:=hV j; omega))
    obtain ⟨X,hX⟩:∃ X,Z7P V t f i = X:=⟨_,rfl⟩
    rw [hX] at b ca ⊢
    refine Ans.lpG rfl rfl (Z2T ..) ?_
    unfold Z3J
    have fx:=ca
    refine Ans.go ?_
    clear fx
    (have fx:=ai o1 (ai o4 (ai o5 (ai o6 (ai o7 o8)))); refine Ans.nx0 ?_; clear fx)
    rw [show a - (X + sI V t f r (i + 1)) = a - X - sI V t f r (i + 1) by omega]
    exact ih (i + 1) (a - X) (by omega) (by omega) (by omega)
theorem Zkj (s:Value) (n nv:Nat) (Gl V:List Int) (t:Nat) (v3 v4:Value) (h:FH) (c:Nat) (df:List Nat) (hs:SlI h c s 1 nv V) (hnv:nv = 7 * n) (hn:n <= 60) (hG:Gl.length = n * 20) (ht:t < n) (hV:∀ j,0 <= gi V j /\ gi V j <= 1000000) (hok:Z0t Gl n = true)
 (o3:OkV c v3) (o4:OkV c v4) :
 ∀ (r f:Nat) (a:Int),f + r = 4 -> -1000000000000 + (r:Int) * 8000000 <= a -> a <= 1000000000000 →
 Ans (G (Z6u none) [s,.int .i64 a,.int .i64 t,v3,v4,.int .i64 t,av (Z2Z Gl t),.int .i64 f] h c df) fun q=>q = ⟨.exit 2,[s,.int .i64 (a - sF Gl V t r f),.int .i64 t,v3,v4,.int .i64 t,av (Z2Z Gl t),.int .i64 4],h,c,df⟩:=by
 intro r
 have o1:=hs.okV
 induction r with
 | zero =>
  intro f a hf h1 h2
  obtain rfl:f = 4:=by omega
  refine Ans.lpG rfl rfl (Z5x ..) ?_
  unfold Z4N
  have fx:=True.intro
  refine Ans.go ?_
  clear fx
  (have fx:=ai o1 (ai o3 o4); refine Ans.ex0 ?_; clear fx)
  rw [sF,Int.sub_zero]
  rfl
 | succ r ih =>
  intro f a hf h1 h2
  have hf4:(f:Int) < 4:=by omega
  have hrl:(Z2Z Gl t).length = 20:=by unfold Z2Z; simp [hG]; omega
  have x1:=Z5U (Z2Z Gl t) 4 5 .i64 (f:Int) (by omega) (by omega) hrl
  have hfr:((Z2Z Gl t).drop ((f:Int).toNat * 5)).take 5 = Z02 Gl t f:=by
   unfold Z2Z Z02
   rw [List.drop_take,List.take_take,List.drop_drop,Int.toNat_natCast]
   congr 1
   · omega
   · congr 1; omega
  rw [hfr] at x1
  have hfl:=Z0i hG ht (by omega:f < 4)
  have hst:∀ b,stN (newB h b [.int .i64 0,.int .i64 0,.int .i64 0,.int .i64 0,.int .i64 0]) 5 (.pointer (some ⟨b,0,none⟩)) (av (Z02 Gl t f)) = some (newB h b (ints (Z02 Gl t f))):=fun b=>stN_all _ _ 5 _ _ hfl rfl
  have b0:∀ b,ld1 (newB h b (ints (Z02 Gl t f))) (.pointer (some ⟨b,0,none⟩)) = some (.int .i64 (Z0B (Z02 Gl t f))):=fun b=>by rw [ld1_newB_same,ints_getD _ _ (by omega)]; rfl
  have b1:∀ b,ld1 (newB h b (ints (Z02 Gl t f))) (.pointer (some ⟨b,1 + f,none⟩)) = some (.int .i64 ((Z0c (Z02 Gl t f)).getD f 0)):=fun b=>by
   rw [ld1_newB_same,ints_getD _ _ (by omega)]
   unfold Z0c
   rw [Z1H _ _ _ (by omega),Z1I]
  have hbnd:=Z9z hV (t:=t) (f:=f) (r:=4) (i:=0)
  have hin:=fun c' H (hc:c <= c') (hH:Z0u c h H)=>Ans.eq (Zlo s n nv V t f v3 v4 (.int .i64 t) (av (Z2Z Gl t)) (.int .i64 f) H c' df ((hs.same hH).mono hc) hnv hn ht (by omega) hV (o3.mono hc) (o4.mono hc) (by simp) (by simp) (by simp) 4 0 a (by omega) (by omega) (by omega))
  simp only [Int.ofNat_eq_natCast,Int.cast_ofNat_Int] at hin
  rw [sF]
  have hsk:Z6E Gl t f = decide (0 <= Z0B (Z02 Gl t f) /\ (Z0B (Z02 Gl t f) < t ∨ (Z0B (Z02 Gl t f) = t /\ (Z0c (Z02 Gl t f)).getD f 0 < f))):=rfl
  obtain ⟨F,hF⟩:∃ F,Z02 Gl t f = F:=⟨_,rfl⟩
  rw [hF] at x1 hst b0 b1 hsk
  obtain ⟨U,hU⟩:∃ U,Z0B F = U:=⟨_,rfl⟩
  obtain ⟨Q,hQ⟩:∃ Q,(Z0c F).getD f 0 = Q:=⟨_,rfl⟩
  rw [hU] at b0 hsk
  rw [hQ] at b1 hsk
  have sm:∀ b,256 * c <= b -> Z0u c h (newB h b (ints F)):=fun b hb q hq=>by rw [Z07,if_neg (by omega)]
  obtain ⟨W,hW⟩:∃ W,sI V t f 4 0 = W:=⟨_,rfl⟩
  rw [hW] at hin hbnd ⊢
  have stepN:Z6E Gl t f = true -> Ans (G (Z6u none) [s,.int .i64 a,.int .i64 t,v3,v4,.int .i64 t,av (Z2Z Gl t),.int .i64 (f + 1:Nat)] h c df) (fun q=>q = ⟨.exit 2,[s,.int .i64 (a - ((if Z6E Gl t f = true then 0 else W) + sF Gl V t r (f + 1))),.int .i64 t,v3,v4,.int .i64 t,av (Z2Z Gl t),.int .i64 4],h,c,df⟩):=fun e=>by
   rw [if_pos e,Int.zero_add]
   exact ih (f + 1) a (by omega) (by omega) h2
  have stepY:Z6E Gl t f = false -> Ans (G (Z6u none) [s,.int .i64 (a - W),.int .i64 t,v3,v4,.int .i64 t,av (Z2Z Gl t),.int .i64 (f + 1:Nat)] h c df) (fun q=>q = ⟨.exit 2,[s,.int .i64 (a - ((if Z6E Gl t f = true then 0 else W) + sF Gl V t r (f + 1))),.int .i64 t,v3,v4,.int .i64 t,av (Z2Z Gl t),.int .i64 4],h,c,df⟩):=fun e=>by
   rw [if_neg (by rw [e]; simp),show a - (W + sF Gl V t r (f + 1)) = a - W - sF Gl V t r (f + 1) by omega]
   exact ih (f + 1) (a - W) (by omega) (by omega) (by omega)
  have hi2:=hin (c + 1 + 1 + 1 + 1) (newB h (256 * (c + 1) + 2) (ints F)) (by omega) (sm _ (by omega))
  refine Ans.lpG rfl rfl (Z5x ..) ?_
  unfold Z4N
  by_cases h0:0 <= U
  · by_cases h3:U < t
    · have e:Z6E Gl t f = true:=by rw [hsk]; exact decide_eq_true ⟨h0,.inl h3⟩
      repeat' (first | ((with_reducible first | refine Ans.bz ?_ | refine Ans.r1 ?_ | refine Ans.pkT ?_ | refine Ans.pkF ?_); try dsimp only [v_zero,v_succ]) | (with_reducible first | refine Ans.btL ?_ | refine Ans.bfL ?_ | refine Ans.gyT ?_ | refine Ans.gyF ?_ | refine Ans.gyG ?_ | refine Ans.bb ?_ | refine Ans.bc ?_ | refine Ans.ba ?_) | ((with_reducible first | refine Ans.lsT ?_ ?_ | refine Ans.leT ?_ ?_ | refine Ans.grT ?_ ?_ | refine Ans.geT ?_ ?_ | refine Ans.eqT ?_ ?_ | refine Ans.neT ?_ ?_); (focus omega)) | ((with_reducible first | refine Ans.lsF ?_ ?_ | refine Ans.leF ?_ ?_ | refine Ans.grF ?_ ?_ | refine Ans.geF ?_ ?_ | refine Ans.eqF ?_ ?_ | refine Ans.neF ?_ ?_); (focus omega)) | (with_reducible first | refine Ans.lsS (fun _=>?_) (fun _=>?_) | refine Ans.leS (fun _=>?_) (fun _=>?_) | refine Ans.grS (fun _=>?_) (fun _=>?_) | refine Ans.geS (fun _=>?_) (fun _=>?_) | refine Ans.eqS (fun _=>?_) (fun _=>?_) | refine Ans.neS (fun _=>?_) (fun _=>?_)) | ((with_reducible first | refine Ans.addN ?_ ?_ | refine Ans.add ?_ ?_ | refine Ans.sub ?_ ?_ | refine Ans.mul ?_ ?_); (focus omega)) | ((with_reducible first | refine Ans.ct ?_ ?_); (focus (simp (disch:=(first | omega | with_reducible assumption | (simp <;> omega) | fail)) [x1,hst,b0,b1,hi2,-ld1_newB_same]; done))) | ((with_reducible first | refine Ans.cf ?_ ?_); (focus (simp (disch:=(first | omega | with_reducible assumption | (simp <;> omega) | fail)) [x1,hst,b0,b1,hi2,-ld1_newB_same]; done))) | (refine Ans.step (by simp (disch:=(first | omega | with_reducible assumption | (simp <;> omega) | fail)) [x1,hst,b0,b1,hi2,-ld1_newB_same,-List.getD_eq_getElem?_getD] <;> rfl) ?_; try dsimp only [v_zero,v_succ]) | fail)
      (have fx:=ai o1 (ai o3 o4); refine Ans.nx0 ?_; clear fx)
      exact stepN e
    · by_cases h4:U = t
      · by_cases h5:Q < f
        · have e:Z6E Gl t f = true:=by rw [hsk]; exact decide_eq_true ⟨h0,.inr ⟨h4,h5⟩⟩
          repeat' (first | ((with_reducible first | refine Ans.bz ?_ | refine Ans.r1 ?_ | refine Ans.pkT ?_ | refine Ans.pkF ?_); try dsimp only [v_zero,v_succ]) | (with_reducible first | refine Ans.btL ?_ | refine Ans.bfL ?_ | refine Ans.gyT ?_ | refine Ans.gyF ?_ | refine Ans.gyG ?_ | refine Ans.bb ?_ | refine Ans.bc ?_ | refine Ans.ba ?_) | ((with_reducible first | refine Ans.lsT ?_ ?_ | refine Ans.leT ?_ ?_ | refine Ans.grT ?_ ?_ | refine Ans.geT ?_ ?_ | refine Ans.eqT ?_ ?_ | refine Ans.neT ?_ ?_); (focus omega)) | ((with_reducible first | refine Ans.lsF ?_ ?_ | refine Ans.leF ?_ ?_ | refine Ans.grF ?_ ?_ | refine Ans.geF ?_ ?_ | refine Ans.eqF ?_ ?_ | refine Ans.neF ?_ ?_); (focus omega)) | (with_reducible first | refine Ans.lsS (fun _=>?_) (fun _=>?_) | refine Ans.leS (fun _=>?_) (fun _=>?_) | refine Ans.grS (fun _=>?_) (fun _=>?_) | refine Ans.geS (fun _=>?_) (fun _=>?_) | refine Ans.eqS (fun _=>?_) (fun _=>?_) | refine Ans.neS (fun _=>?_) (fun _=>?_)) | ((with_reducible first | refine Ans.addN ?_ ?_ | refine Ans.add ?_ ?_ | refine Ans.sub ?_ ?_ | refine Ans.mul ?_ ?_); (focus omega)) | ((with_reducible first | refine Ans.ct ?_ ?_); (focus (simp (disch:=(first | omega | with_reducible assumption | (simp <;> omega) | fail)) [x1,hst,b0,b1,hi2,-ld1_newB_same]; done))) | ((with_reducible first | refine Ans.cf ?_ ?_); (focus (simp (disch:=(first | omega | with_reducible assumption | (simp <;> omega) | fail)) [x1,hst,b0,b1,hi2,-ld1_newB_same]; done))) | (refine Ans.step (by simp (disch:=(first | omega | with_reducible assumption | (simp <;> omega) | fail)) [x1,hst,b0,b1,hi2,-ld1_newB_same,-List.getD_eq_getElem?_getD] <;> rfl) ?_; try dsimp only [v_zero,v_succ]) | fail)
          (have fx:=ai o1 (ai o3 o4); refine Ans.nx0 ?_; clear fx)
          exact stepN e
        · have e:Z6E Gl t f = false:=by rw [hsk]; exact decide_eq_false (by omega)
          repeat' (first | ((with_reducible first | refine Ans.bz ?_ | refine Ans.r1 ?_ | refine Ans.pkT ?_ | refine Ans.pkF ?_); try dsimp only [v_zero,v_succ]) | (with_reducible first | refine Ans.btL ?_ | refine Ans.bfL ?_ | refine Ans.gyT ?_ | refine Ans.gyF ?_ | refine Ans.gyG ?_ | refine Ans.bb ?_ | refine Ans.bc ?_ | refine Ans.ba ?_) | ((with_reducible first | refine Ans.lsT ?_ ?_ | refine Ans.leT ?_ ?_ | refine Ans.grT ?_ ?_ | refine Ans.geT ?_ ?_ | refine Ans.eqT ?_ ?_ | refine Ans.neT ?_ ?_); (focus omega)) | ((with_reducible first | refine Ans.lsF ?_ ?_ | refine Ans.leF ?_ ?_ | refine Ans.grF ?_ ?_ | refine Ans.geF ?_ ?_ | refine Ans.eqF ?_ ?_ | refine Ans.neF ?_ ?_); (focus omega)) | (with_reducible first | refine Ans.lsS (fun _=>?_) (fun _=>?_) | refine Ans.leS (fun _=>?_) (fun _=>?_) | refine Ans.grS (fun _=>?_) (fun _=>?_) | refine Ans.geS (fun _=>?_) (fun _=>?_) | refine Ans.eqS (fun _=>?_) (fun _=>?_) | refine Ans.neS (fun _=>?_) (fun _=>?_)) | ((with_reducible first | refine Ans.addN ?_ ?_ | refine Ans.add ?_ ?_ | refine Ans.sub ?_ ?_ | refine Ans.mul ?_ ?_); (focus omega)) | ((with_reducible first | refine Ans.ct ?_ ?_); (focus (simp (disch:=(first | omega | with_reducible assumption | (simp <;> omega) | fail)) [x1,hst,b0,b1,hi2,-ld1_newB_same]; done))) | ((with_reducible first | refine Ans.cf ?_ ?_); (focus (simp (disch:=(first | omega | with_reducible assumption | (simp <;> omega) | fail)) [x1,hst,b0,b1,hi2,-ld1_newB_same]; done))) | (refine Ans.step (by simp (disch:=(first | omega | with_reducible assumption | (simp <;> omega) | fail)) [x1,hst,b0,b1,hi2,-ld1_newB_same,-List.getD_eq_getElem?_getD] <;> rfl) ?_; try dsimp only [v_zero,v_succ]) | fail)
          (have fx:=ai o1 (ai o3 o4); refine Ans.nx0 ?_; clear fx)
          exact stepY e
      · have e:Z6E Gl t f = false:=by rw [hsk]; exact decide_eq_false (by omega)
        repeat' (first | ((with_reducible first | refine Ans.bz ?_ | refine Ans.r1 ?_ | refine Ans.pkT ?_ | refine Ans.pkF ?_); try dsimp only [v_zero,v_succ]) | (with_reducible first | refine Ans.btL ?_ | refine Ans.bfL ?_ | refine Ans.gyT ?_ | refine Ans.gyF ?_ | refine Ans.gyG ?_ | refine Ans.bb ?_ | refine Ans.bc ?_ | refine Ans.ba ?_) | ((with_reducible first | refine Ans.lsT ?_ ?_ | refine Ans.leT ?_ ?_ | refine Ans.grT ?_ ?_ | refine Ans.geT ?_ ?_ | refine Ans.eqT ?_ ?_ | refine Ans.neT ?_ ?_); (focus omega)) | ((with_reducible first | refine Ans.lsF ?_ ?_ | refine Ans.leF ?_ ?_ | refine Ans.grF ?_ ?_ | refine Ans.geF ?_ ?_ | refine Ans.eqF ?_ ?_ | refine Ans.neF ?_ ?_); (focus omega)) | (with_reducible first | refine Ans.lsS (fun _=>?_) (fun _=>?_) | refine Ans.leS (fun _=>?_) (fun _=>?_) | refine Ans.grS (fun _=>?_) (fun _=>?_) | refine Ans.geS (fun _=>?_) (fun _=>?_) | refine Ans.eqS (fun _=>?_) (fun _=>?_) | refine Ans.neS (fun _=>?_) (fun _=>?_)) | ((with_reducible first | refine Ans.addN ?_ ?_ | refine Ans.add ?_ ?_ | refine Ans.sub ?_ ?_ | refine Ans.mul ?_ ?_); (focus omega)) | ((with_reducible first | refine Ans.ct ?_ ?_); (focus (simp (disch:=(first | omega | with_reducible assumption | (simp <;> omega) | fail)) [x1,hst,b0,b1,hi2,-ld1_newB_same]; done))) | ((with_reducible first | refine Ans.cf ?_ ?_); (focus (simp (disch:=(first | omega | with_reducible assumption | (simp <;> omega) | fail)) [x1,hst,b0,b1,hi2,-ld1_newB_same]; done))) | (refine Ans.step (by simp (disch:=(first | omega | with_reducible assumption | (simp <;> omega) | fail)) [x1,hst,b0,b1,hi2,-ld1_newB_same,-List.getD_eq_getElem?_getD] <;> rfl) ?_; try dsimp only [v_zero,v_succ]) | fail)
        (have fx:=ai o1 (ai o3 o4); refine Ans.nx0 ?_; clear fx)
        exact stepY e
  · have e:Z6E Gl t f = false:=by rw [hsk]; exact decide_eq_false (by omega)
    repeat' (first | ((with_reducible first | refine Ans.bz ?_ | refine Ans.r1 ?_ | refine Ans.pkT ?_ | refine Ans.pkF ?_); try dsimp only [v_zero,v_succ]) | (with_reducible first | refine Ans.btL ?_ | refine Ans.bfL ?_ | refine Ans.gyT ?_ | refine Ans.gyF ?_ | refine Ans.gyG ?_ | refine Ans.bb ?_ | refine Ans.bc ?_ | refine Ans.ba ?_) | ((with_reducible first | refine Ans.lsT ?_ ?_ | refine Ans.leT ?_ ?_ | refine Ans.grT ?_ ?_ | refine Ans.geT ?_ ?_ | refine Ans.eqT ?_ ?_ | refine Ans.neT ?_ ?_); (focus omega)) | ((with_reducible first | refine Ans.lsF ?_ ?_ | refine Ans.leF ?_ ?_ | refine Ans.grF ?_ ?_ | refine Ans.geF ?_ ?_ | refine Ans.eqF ?_ ?_ | refine Ans.neF ?_ ?_); (focus omega)) | (with_reducible first | refine Ans.lsS (fun _=>?_) (fun _=>?_) | refine Ans.leS (fun _=>?_) (fun _=>?_) | refine Ans.grS (fun _=>?_) (fun _=>?_) | refine Ans.geS (fun _=>?_) (fun _=>?_) | refine Ans.eqS (fun _=>?_) (fun _=>?_) | refine Ans.neS (fun _=>?_) (fun _=>?_)) | ((with_reducible first | refine Ans.addN ?_ ?_ | refine Ans.add ?_ ?_ | refine Ans.sub ?_ ?_ | refine Ans.mul ?_ ?_); (focus omega)) | ((with_reducible first | refine Ans.ct ?_ ?_); (focus (simp (disch:=(first | omega | with_reducible assumption | (simp <;> omega) | fail)) [x1,hst,b0,b1,hi2,-ld1_newB_same]; done))) | ((with_reducible first | refine Ans.cf ?_ ?_); (focus (simp (disch:=(first | omega | with_reducible assumption | (simp <;> omega) | fail)) [x1,hst,b0,b1,hi2,-ld1_newB_same]; done))) | (refine Ans.step (by simp (disch:=(first | omega | with_reducible assumption | (simp <;> omega) | fail)) [x1,hst,b0,b1,hi2,-ld1_newB_same,-List.getD_eq_getElem?_getD] <;> rfl) ?_; try dsimp only [v_zero,v_succ]) | fail)
    (have fx:=ai o1 (ai o3 o4); refine Ans.nx0 ?_; clear fx)
    exact stepY e
theorem ZlI (s gs:Value) (n nv:Nat) (Gl V:List Int) (h:FH) (c:Nat) (df:List Nat) (hg:SlI h c gs 20 n Gl) (hs:SlI h c s 1 nv V) (hnv:nv = 7 * n) (hn:n <= 60) (hV:∀ j,0 <= gi V j /\ gi V j <= 1000000) (hok:Z0t Gl n = true) :
 ∀ (r t:Nat) (a:Int),t + r = n -> -500000000000 + (r:Int) * 32000000 <= a -> a <= 500000000000 →
 Ans (G (Zc0 none) [s,.int .i64 a,gs,.int .i64 n,.int .i64 t] h c df) fun q=>q = ⟨.exit 0,[s,.int .i64 (a - sT Gl V r t),gs,.int .i64 n,.int .i64 n],h,c,df⟩:=by
 intro r
 have o1:=hs.okV
 have o2:=hg.okV
 have hG:=hg.1
 induction r with
 | zero =>
  intro t a ht h1 h2
  obtain rfl:t = n:=by omega
  refine Ans.lpG rfl rfl (Z5y ..) ?_
  unfold Z4O
  have fx:=True.intro
  refine Ans.go ?_
  clear fx
  (have fx:=ai o1 o2; refine Ans.ex0 ?_; clear fx)
  rw [sT,Int.sub_zero]
 | succ r ih =>
  intro t a ht h1 h2
  have l1:=hg.row t (by omega) (by omega)
  simp only [Int.toNat_natCast] at l1
  have hrl:(Z2Z Gl t).length = 20:=by unfold Z2Z; simp [hG]; omega
  have hst:∀ b,stN (newB h b (List.replicate 20 (.int .i64 0))) 20 (.pointer (some ⟨b,0,none⟩)) (av (Z2Z Gl t)) = some (newB h b (ints (Z2Z Gl t))):=fun b=>stN_all _ _ 20 _ _ hrl rfl
  have hst:∀ b,stN (newB h b [.int .i64 0,.int .i64 0,.int .i64 0,.int .i64 0,.int .i64 0,.int .i64 0,.int .i64 0,.int .i64 0,.int .i64 0,.int .i64 0,.int .i64 0,.int .i64 0,.int .i64 0,.int .i64 0,.int .i64 0,.int .i64 0,.int .i64 0,.int .i64 0,.int .i64 0,.int .i64 0]) 20 (.pointer (some ⟨b,0,none⟩)) (av (Z2Z Gl t)) = some (newB h b (ints (Z2Z Gl t))):=hst
  have lr:∀ b,ldN (newB h b (ints (Z2Z Gl t))) 20 (.pointer (some ⟨b,0,none⟩)) = some (av (Z2Z Gl t)):=fun b=>by
   rw [ldN_newB_same _ _ _ _ _ (by simp [hrl]),List.drop_zero,List.take_of_length_le (by simp [hrl])]; rfl
  have hbnd:=Z9A (Gl:=Gl) hV (t:=t) (r:=4) (f:=0)
  obtain ⟨H,hH⟩:∃ H,newB h (256 * (c + 1) + 3) (ints (Z2Z Gl t)) = H:=⟨_,rfl⟩
  have sH:Z0u c h H:=by rw [← hH]; intro b hb; rw [Z07,if_neg (by omega)]
  have hin:=Ans.eq (Zkj s n nv Gl V t gs (.int .i64 n) H (c + 1 + 1 + 1) df ((hs.same sH).mono (by omega)) hnv hn hG (by omega) hV hok (o2.mono (by omega)) (by simp) 4 0 a (by omega) (by omega) (by omega))
  simp only [Int.ofNat_eq_natCast,Int.cast_ofNat_Int] at hin
  have hst:=hst (256 * (c + 1) + 3)
  have lr:=lr (256 * (c + 1) + 3)
  rw [hH] at hst lr
  rw [sT]
  obtain ⟨W,hW⟩:∃ W,sF Gl V t 4 0 = W:=⟨_,rfl⟩
  rw [hW] at hin hbnd ⊢
  have htn:(t:Int) < n:=by omega
  refine Ans.lpG rfl rfl (Z5y ..) ?_
  unfold Z4O
  have fx:=ai hg.ixs (ai l1 (ai hst (ai lr hin)))
  refine Ans.go ?_
  clear fx
  (have fx:=ai o1 (ai o2 sH); refine Ans.nx0 ?_; clear fx)
  rw [show a - (W + sT Gl V r (t + 1)) = a - W - sT Gl V r (t + 1) by omega]
  exact ih (t + 1) (a - W) (by omega) (by omega) (by omega)
end Go.Proofs.Ytcnndelmnobigaa

namespace Go.Proofs.Ytcnndelmnobigaa
open Go Go.Ab Go.Proofs
theorem ZjH (p:List Int) (hp:p.length = 4) (h:FH) (b1 b3 c:Nat) (hb1:b1 < 256 * c) (hb3:b3 < 256 * c) (hne:b1 ≠ b3) (hh:Z0a h b1 (ints p)) (df:List Nat):∀ (k i:Nat) (m:List Bool),i + k = 4 -> m.length = 4 →
 Ans (G (Z4L none) [ptrTo b1,.bool false,ptrTo b3,.int .i64 i] (newB h b3 (bools m)) c df) fun r=>r.c = c /\ r.df = df /\ (∃ cs,r.h = newB h b3 cs) ∧
  (if ZlV (p.drop i) m = true then r.e = .exit 0 else r.e = .ret /\ r.v 1 = .bool false):=by
 intro k
 induction k with
 | zero =>
  intro i m hi hm
  obtain rfl:i = 4:=by omega
  rw [List.drop_of_length_le (by omega)]
  refine .intro (Z6n (q:=⟨.exit 0,[ptrTo b1,.bool false,ptrTo b3,.int .i64 (4:Nat)],newB h b3 (bools m),c + 1,df⟩) (by unfold Z1e; simp) (by simp)) ?_
  rw [Z1w (by simp [hb1,hb3])]
  refine ⟨rfl,rfl,⟨_,rfl⟩, ?_⟩
  simp [ZlV]
 | succ k ih =>
  intro i m hi hm
  have hlt:i < p.length:=by omega
  have e0:(i:Int) < 4:=by omega
  have hld:∀ j,j < 4 -> ld1 (newB h b3 (bools m)) (.pointer (some ⟨b1,j,none⟩)) = some (.int .i64 (p.getD j 0)):=fun j hj=>by
   rw [ld1_newB_ne _ _ _ _ _ hne]
   exact ld1_holds hh (by rw [ints_getD _ _ (by omega)])
  have hldi:=hld i (by omega)
  obtain ⟨x,hx⟩:∃ x,x = p.getD i 0:=⟨_,rfl⟩
  have hdr:p.drop i = x :: p.drop (i + 1):=by
   rw [List.drop_eq_getElem_cons hlt,hx]
   simp [List.getD,List.getElem?_eq_getElem hlt]
  rw [hdr,ZlV]
  rw [← hx] at hldi
  by_cases h1:x < 0
  · rw [if_pos (Or.inl h1)]
    refine Ans.intro (Z6n (q:=⟨.ret,[ptrTo b1,.bool false,ptrTo b3,.int .i64 i],newB h b3 (bools m),_,df⟩) (Ans.eq (by
     unfold Z1e
     repeat (first | (with_reducible refine Ans.bt ?_ ?_; exact rfl) | (with_reducible refine Ans.bf ?_ ?_; exact rfl) | (with_reducible refine Ans.ct ?_ ?_; focus (simp; done)) | (with_reducible refine Ans.cf ?_ ?_; focus (simp; done)) | refine Ans.step (by simp (disch:=(first | omega | (simp <;> omega) | fail)) [e0,hldi,h1,-List.getD_eq_getElem?_getD] <;> rfl) ?_)
     exact .done rfl)) (by simp)) ?_
    rw [Z1w (by simp [hb1,hb3])]
    exact ⟨rfl,rfl,⟨_,rfl⟩,by simp⟩
  by_cases h2:3 < x
  · rw [if_pos (Or.inr h2)]
    refine Ans.intro (Z6n (q:=⟨.ret,[ptrTo b1,.bool false,ptrTo b3,.int .i64 i],newB h b3 (bools m),_,df⟩) (Ans.eq (by
     unfold Z1e
     repeat (first | (with_reducible refine Ans.bt ?_ ?_; exact rfl) | (with_reducible refine Ans.bf ?_ ?_; exact rfl) | (with_reducible refine Ans.ct ?_ ?_; focus (simp; done)) | (with_reducible refine Ans.cf ?_ ?_; focus (simp; done)) | refine Ans.step (by simp (disch:=(first | omega | (simp <;> omega) | fail)) [e0,hldi,h1,h2,-List.getD_eq_getElem?_getD] <;> rfl) ?_)
     exact .done rfl)) (by simp)) ?_
    rw [Z1w (by simp [hb1,hb3])]
    exact ⟨rfl,rfl,⟨_,rfl⟩,by simp⟩
  rw [if_neg (by omega)]
  have hldm:ld1 (newB h b3 (bools m)) (.pointer (some ⟨b3,x.toNat,none⟩)) = some (.bool (m.getD x.toNat false)):=by
   rw [ld1_newB_same,Zlj _ _ (by omega)]
  by_cases h3:m.getD x.toNat false = true
  · rw [if_pos h3]
    rw [h3] at hldm
    refine Ans.intro (Z6n (q:=⟨.ret,[ptrTo b1,.bool false,ptrTo b3,.int .i64 i],newB h b3 (bools m),_,df⟩) (Ans.eq (by
     unfold Z1e
     repeat (first | (with_reducible refine Ans.bt ?_ ?_; exact rfl) | (with_reducible refine Ans.bf ?_ ?_; exact rfl) | (with_reducible refine Ans.ct ?_ ?_; focus (simp; done)) | (with_reducible refine Ans.cf ?_ ?_; focus (simp; done)) | refine Ans.step (by simp (disch:=(first | omega | (simp <;> omega) | fail)) [e0,hldi,h1,h2,hldm,-List.getD_eq_getElem?_getD] <;> rfl) ?_)
     exact .done rfl)) (by simp)) ?_
    rw [Z1w (by simp [hb1,hb3])]
    exact ⟨rfl,rfl,⟨_,rfl⟩,by simp⟩
  rw [if_neg h3]
  have h3':m.getD x.toNat false = false:=by simpa using h3
  rw [h3'] at hldm
  obtain ⟨r,hr,hq⟩:=ih (i + 1) (m.set x.toNat true) (by omega) (by simpa using hm)
  have hst:stN (newB h b3 (bools m)) 1 (.pointer (some ⟨b3,x.toNat,none⟩)) (.bool true) = some (newB h b3 (bools (m.set x.toNat true))):=by
   rw [st1_bool _ _ _ _ _ (by rw [Ze2]; omega),Zli]
  refine .intro (ZiE (q:=⟨.normal,[ptrTo b1,.bool false,ptrTo b3,.int .i64 (i + 1:Nat)],newB h b3 (bools (m.set x.toNat true)),_,df⟩) (Ans.eq (by
   unfold Z1e
   repeat (first | (with_reducible refine Ans.bt ?_ ?_; exact rfl) | (with_reducible refine Ans.bf ?_ ?_; exact rfl) | (with_reducible refine Ans.ct ?_ ?_; focus (simp; done)) | (with_reducible refine Ans.cf ?_ ?_; focus (simp; done)) | refine Ans.step (by simp (disch:=(first | omega | (simp <;> omega) | fail)) [e0,hldi,h1,h2,hldm,hst,-List.getD_eq_getElem?_getD] <;> rfl) ?_)
   exact .done rfl)) rfl ?_) hq
  rw [ZeE hb3 (by simp [hb1,hb3]) (Z1t.bools _ _)]
  exact hr
theorem Zjl (p:List Int) (hp:p.length = 4) (h:FH) (c:Nat) (df:List Nat) :
 G (.fn 41) [av p] h c df = some ⟨.ret,[.bool (Z1i p)],h,c,[]⟩:=by
 refine Z6X (fun r e=>f41_go e) (by simp) ?_
 obtain ⟨⟨re,rv,rh,rc,rd⟩,hr,h1,h2,⟨cs,h3⟩,h4⟩:=ZjH p hp (newB h (256 * c) (ints p)) (256 * c) (256 * (c + 1)) (c + 1 + 1 + 1) (by omega) (by omega) (by omega) (Z0a.newB_same _ _ _) [] 4 0 [false,false,false,false] rfl rfl
 simp only at h1 h2 h3
 subst h1 h2 h3
 rw [← Zq3 p hp]
 unfold ZkO
 simp only [List.drop_zero] at h4
 simp only [Int.ofNat_eq_natCast,Int.cast_ofNat_Int] at hr
 have hb:bools [false,false,false,false] = [.bool false,.bool false,.bool false,.bool false]:=rfl
 rw [hb] at hr
 cases hv:ZlV p [false,false,false,false] with
 | true =>
  rw [hv,if_pos rfl] at h4
  subst h4
  simp (disch:=omega) [hr,hp]
 | false =>
  rw [hv,if_neg (by simp)] at h4
  obtain ⟨rfl,h5⟩:=h4
  simp (disch:=omega) [hr,hp,h5]
theorem Z1r (p:List Int) (hp:p.length = 4) (h:FH) (c:Nat):callF G 41 [av p] h c = some (.bool (Z1i p),h,c):=Z04 (Zjl p hp h c [])
theorem ZcH (p:List Int) (hp:p.length = 4) (hr:InR p) (h:FH) (b1 b2 b3 c:Nat) (hb1:b1 < 256 * c) (hb2:b2 < 256 * c) (hb3:b3 < 256 * c) (hne:b1 ≠ b3) (hh:Z0a h b1 (ints p)) (df:List Nat):∀ (k i:Nat) (out:List Int),i + k = 4 -> out.length = 4 →
 G (Z4K none) [ptrTo b1,ptrTo b2,ptrTo b3,.int .i64 i] (newB h b3 (ints out)) c df =
  some ⟨.exit 0,[ptrTo b1,ptrTo b2,ptrTo b3,.int .i64 4],newB h b3 (ints (Zic (p.drop i) i out)),c,df⟩:=by
 intro k
 induction k with
 | zero =>
  intro i out hi ho
  obtain rfl:i = 4:=by omega
  rw [List.drop_of_length_le (by omega)]
  refine (ZiC (q:=⟨.exit 0,[ptrTo b1,ptrTo b2,ptrTo b3,.int .i64 4],newB h b3 (ints out),c + 1,df⟩) (by unfold Z2r; simp) (by simp)).trans ?_
  rw [Z1w (by simp [hb1,hb2,hb3])]
  rfl
 | succ k ih =>
  intro i out hi ho
  have hlt:i < p.length:=by omega
  have e0:(i:Int) < 4:=by omega
  have hld:ld1 (newB h b3 (ints out)) (.pointer (some ⟨b1,i,none⟩)) = some (.int .i64 (p.getD i 0)):=by
   rw [ld1_newB_ne _ _ _ _ _ hne]
   exact ld1_holds hh (by rw [ints_getD _ _ (by omega)])
  obtain ⟨x,hx⟩:∃ x,x = p.getD i 0:=⟨_,rfl⟩
  have hdr:p.drop i = x :: p.drop (i + 1):=by
   rw [List.drop_eq_getElem_cons hlt,hx]
   simp [List.getD,List.getElem?_eq_getElem hlt]
  have hxr:0 <= x /\ x < 4:=by
   rw [hx]
   have:=hr p[i] (List.getElem_mem hlt)
   simpa [List.getD,List.getElem?_eq_getElem hlt] using this
  rw [hdr,Zic]
  rw [← hx] at hld
  refine ZiD (q:=⟨.normal,[ptrTo b1,ptrTo b2,ptrTo b3,.int .i64 (i + 1:Nat)],newB h b3 (ints (out.set x.toNat i)),_,df⟩) (Ans.eq (by
   unfold Z2r
   repeat (first | (with_reducible refine Ans.bt ?_ ?_; exact rfl) | (with_reducible refine Ans.bf ?_ ?_; exact rfl) | (with_reducible refine Ans.ct ?_ ?_; focus (simp; done)) | (with_reducible refine Ans.cf ?_ ?_; focus (simp; done)) | refine Ans.step (by simp (disch:=(first | omega | (simp <;> omega) | fail)) [e0,hld,hxr,ho,-List.getD_eq_getElem?_getD] <;> rfl) ?_)
   exact .done rfl)) rfl ?_
  rw [ZeE hb3 (by simp [hb1,hb2,hb3]) (by simp)]
  exact ih (i + 1) _ (by omega) (by simpa using ho)
def invR (p:List Int):List Int:=if Z1i p = true then inv p else [0,0,0,0]
theorem Zey (p:List Int) (hp:p.length = 4) (h:FH) (c:Nat) (df:List Nat) :
 G (.fn 42) [av p] h c df = some ⟨.ret,[av (invR p)],h,c,[]⟩:=by
 refine Z6X (fun r e=>f42_go e) (by simp) ?_
 have e1:p.take 4 = p:=List.take_of_length_le (by omega)
 have hv:=fun h c=>Z1r p hp h c
 unfold ZkN invR
 by_cases hb:Z1i p = true
 · rw [if_pos hb]
   rw [hb] at hv
   have hl:=ZcH p hp (Z2G hb) (newB (newB h (256 * c) (ints p)) (256 * c + 1) (ints [0,0,0,0])) (256 * c) (256 * c + 1) (256 * (c + 1)) (c + 1 + 1 + 1 + 1) (by omega) (by omega) (by omega) (by omega)
    (Z0a.newB_ne (by omega) (Z0a.newB_same _ _ _)) [] 4 0 [0,0,0,0] rfl rfl
   have hl2:(Zic p 0 [0,0,0,0]).length = 4:=Z3Y p 0 [0,0,0,0]
   have e2:(Zic p 0 [0,0,0,0]).take 4 = Zic p 0 [0,0,0,0]:=List.take_of_length_le (by omega)
   simp only [ZdJ,ZgU,Int.ofNat_eq_natCast,Int.cast_ofNat_Int,List.drop_zero] at hl
   simp (disch:=(first | omega | (simp <;> omega) | fail)) [hl,e1,e2,hp,hl2,inv,hv]
 · rw [if_neg hb]
   have hb':Z1i p = false:=by simpa using hb
   rw [hb'] at hv
   have hz:[Value.int .i64 0,Value.int .i64 0,Value.int .i64 0,Value.int .i64 0] = ints [0,0,0,0]:=rfl
   rw [hz]
   repeat (first | (with_reducible refine Ans.bt ?_ ?_; exact rfl) | (with_reducible refine Ans.bf ?_ ?_; exact rfl) | (with_reducible refine Ans.ct ?_ ?_; focus (simp; done)) | (with_reducible refine Ans.cf ?_ ?_; focus (simp; done)) | refine Ans.step (by simp (disch:=(first | omega | (simp <;> omega) | fail)) [e1,hp,hv,-List.getD_eq_getElem?_getD] <;> rfl) ?_)
   refine .done ⟨rfl,rfl, ?_,rfl⟩
   simp (disch:=omega)
end Go.Proofs.Ytcnndelmnobigaa

namespace Go.Proofs.Ytcnndelmnobigaa
open Go Go.Ab Go.Proofs
theorem ZoJ (a0 a1 a2 a3 b0 b1 b2 b3:Int):Z0O P .eql 39 (av [a0,a1,a2,a3]) (av [b0,b1,b2,b3]) =
 (cond (a0 == b0) (cond (a1 == b1) (cond (a2 == b2) (cond (a3 == b3) (some true) (some false)) (some false)) (some false)) (some false)).bind fun b=>some (.bool b):=by kernel_rfl
theorem Z4d (x y:List Int) (hx:x.length = 4) (hy:y.length = 4):Z00 P .eql 39 (av x) (av y) = some (.bool (decide (x = y))):=by
 match x,hx,y,hy with
 | [a0,a1,a2,a3],_,[b0,b1,b2,b3],_ =>
  rw [Z0H,ZoJ]
  by_cases h0:a0 = b0 <;> by_cases h1:a1 = b1 <;> by_cases h2:a2 = b2 <;> by_cases h3:a3 = b3 <;> simp [h0,h1,h2,h3,Bool.cond_eq_ite]
theorem ZaS (p:List Int) (hp:p.length = 4) (h:FH) (c:Nat):callF G 42 [av p] h c = some (av (invR p),h,c):=Z04 (Zey p hp h c [])
theorem Zcu {x:Option Nat} {h1 h2:FH} (e:∀ i,x = some i -> h1.f i = h2.f i):Z0Y x h1 h2 = true:=by
 cases x with
 | none=>rfl
 | some i =>
  show @decide (h1.f i = h2.f i) (Classical.propDecidable _) = true
  exact @decide_eq_true _ (Classical.propDecidable _) (e i rfl)
theorem Zbh {x:List Int} (hx:x.length = 5):x = Z0B x :: Z0c x:=by
 match x,hx with
 | [a,b,c,d,e],_=>rfl
set_option maxHeartbeats 2000000 in
theorem ZfA (s:Value) (n:Nat) (Gl:List Int) (gb c:Nat) (h:FH) (t f:Nat) (ht:t < n) (hf:f < 4) (hgb:gb < 256 * c)
 (h1:Z0a h gb [s]) (h2:SlI h c s 20 n Gl) (v2:Value) (df:List Nat) :
 Ans (Z20 G none (ptrTo gb) v2 (.int .i64 n) (.int .i64 t) (.int .i64 f) h c df) fun r=>r.df = df /\ Z0u c h r.h ∧
  r.e = (if Z0r Gl n t f = true then .normal else .ret) /\ r.vs = (if Z0r Gl n t f = true then [ptrTo gb,v2,.int .i64 n,.int .i64 t,.int .i64 (f + 1:Nat)] else [ptrTo gb,.int .i64 7,.int .i64 n,.int .i64 t,.int .i64 f]):=by
 have hx:=Z0i h2.1 ht hf
 have hp:=Z1o hx
 have hsp:=Zbh hx
 have ht5:(Z02 Gl t f).take 5 = Z02 Gl t f:=List.take_of_length_le (by omega)
 have ft:(f:Int) < 4:=by omega
 obtain ⟨b,o,cs,x1,x2,x3,x4⟩:=h2.ix .i64 (t:Int) (by omega) (by omega)
 have hface:∀ u j:Int,0 <= u -> u < n -> 0 <= j -> j < 4 -> ∃ b o,ixS 20 s (.int .i64 u) = some (.pointer (some ⟨b,o + u.toNat * 20,none⟩)) /\ (∀ H:FH,(∀ i,i < 256 * c -> H.f i = h.f i) -> ldN H 5 (.pointer (some ⟨b,o + u.toNat * 20 + j.toNat * 5,none⟩)) = some (av (Z02 Gl u.toNat j.toNat))) /\ b < 256 * c:=by
  intro u j u1 u2 j1 j2
  obtain ⟨b,o,cs,x1,x2,x3,x4⟩:=h2.ix .i64 u u1 u2
  refine ⟨b,o,x1,fun H hH=>?_,x2⟩
  have:=h2.1
  have x3':Z0a H b cs:=by
   obtain ⟨ro,op,e⟩:=x3
   exact ⟨ro,op,(hH b x2).trans e⟩
  rw [Nat.add_assoc,ZcF x3' x4 (j:=u.toNat * 20 + j.toNat * 5) (q:=5) (by omega) (by omega)]
  unfold Z02
  rw [Nat.mul_comm 20,Nat.mul_comm 5]
 obtain ⟨fb,fo,y1,y2,y3⟩:=hface t f (by omega) (by omega) (by omega) (by omega)
 have y2h:=y2 h (fun i hi=>rfl)
 simp only [Int.toNat_natCast] at y1 y2h
 have e2:ld1 h (.pointer (some ⟨gb,0,none⟩)) = some s:=by rw [Z01 h1]; rfl
 obtain ⟨H,hH⟩:∃ H,H = newB h (256 * (c + 1) + 7) (ints (Z02 Gl t f)):=⟨_,rfl⟩
 have hst:stN (newB h (256 * (c + 1) + 7) [.int .i64 0,.int .i64 0,.int .i64 0,.int .i64 0,.int .i64 0]) 5 (.pointer (some ⟨256 * (c + 1) + 7,0,none⟩)) (av (Z02 Gl t f)) = some H:=by
  rw [stN_all _ _ 5 _ _ hx rfl,hH]
 have hS:Z0u c h H:=by rw [hH]; exact (Same_newB (by omega)).2 (Z0u.refl _ _)
 have hB:Z0a H (256 * (c + 1) + 7) (ints (Z02 Gl t f)):=by rw [hH]; exact Z0a.newB_same _ _ _
 have b1:ld1 H (.pointer (some ⟨256 * (c + 1) + 7,0,none⟩)) = some (.int .i64 (Z0B (Z02 Gl t f))):=by
  rw [Z01 hB,Z46,List.getElem?_eq_getElem (by omega)]
  simp [Z0B,List.getD,List.getElem?_eq_getElem (by omega:0 < (Z02 Gl t f).length)]
 have b2:ldN H 4 (.pointer (some ⟨256 * (c + 1) + 7,1,none⟩)) = some (av (Z0c (Z02 Gl t f))):=by
  rw [ldN_holds hB (by simp [hx])]; rw [Z5W,Z5V]; rfl
 have b3:ld1 H (.pointer (some ⟨256 * (c + 1) + 7,1 + f,none⟩)) = some (.int .i64 ((Z0c (Z02 Gl t f)).getD f 0)):=by
  have hlt:1 + f < (Z02 Gl t f).length:=by omega
  rw [Z01 hB,Z46,List.getElem?_eq_getElem hlt]
  unfold Z0c
  rw [Z1H _ _ _ hf,Z1I]
  simp [List.getD,List.getElem?_eq_getElem hlt]
 have e2':ld1 H (.pointer (some ⟨gb,0,none⟩)) = some s:=by
  rw [Z01 (cs:=[s]) (by obtain ⟨ro,op,e⟩:=h1; exact ⟨ro,op,(hS gb hgb).trans e⟩)]; rfl
 have hzz:Z4f [.int .i64 0,.int .i64 0,.int .i64 0,.int .i64 0] [] = some (av [0,0,0,0]):=rfl
 have hz4:([0,0,0,0]:List Int).length = 4:=rfl
 have hq:∀ (x:Option Nat),Z0Y x H H = true:=fun x=>Zcu fun i _=>rfl
 clear hH
 obtain ⟨F,hF⟩:∃ F,Z02 Gl t f = F:=⟨_,rfl⟩
 rw [hF] at hx hp hsp ht5 y2h hst b1 b2 b3
 obtain ⟨X,hX⟩:∃ X,Z0B F = X:=⟨_,rfl⟩
 obtain ⟨Y,hY⟩:∃ Y,Z0c F = Y:=⟨_,rfl⟩
 rw [hX] at b1 hsp
 rw [hY] at b2 b3 hsp hp
 have okE:Z0r Gl n t f = (decide (X = -1 /\ Y = [0,0,0,0]) || (decide (0 <= X) && decide (X < n) && Z1i Y && !(decide (X = t) && decide (Y.getD f 0 = f)) && decide (Z02 Gl X.toNat (Y.getD f 0).toNat = (t:Int) :: inv Y))):=by
  unfold Z0r
  rw [hF,hX,hY]
  congr 1
  rw [hsp]
  simp [Z7Z]
 have hnl:(t:Int) :: inv Y = (t:Int) :: inv Y:=rfl
 unfold Z20
 repeat (first | (with_reducible refine Ans.bt ?_ ?_; exact rfl) | (with_reducible refine Ans.bf ?_ ?_; exact rfl) | (with_reducible refine Ans.ct ?_ ?_; focus (simp; done)) | (with_reducible refine Ans.cf ?_ ?_; focus (simp; done)) | refine Ans.step (by simp (disch:=(first | omega | (simp <;> omega) | fail)) [ft,-List.getD_eq_getElem?_getD] <;> rfl) ?_)
 refine Ans.bind ?_
 by_cases q1:X = -1
 · have q1':=eq_true q1
   have q0:=eq_true (show X < 0 by omega)
   by_cases q2:Y = [0,0,0,0]
   · have ok:Z0r Gl n t f = true:=by rw [okE]; simp [q1,q2]
     rw [ok]
     have q2':=eq_true q2
     repeat (first | (with_reducible refine Ans.bt ?_ ?_; exact rfl) | (with_reducible refine Ans.bf ?_ ?_; exact rfl) | (with_reducible refine Ans.ct ?_ ?_; focus (simp; done)) | (with_reducible refine Ans.cf ?_ ?_; focus (simp; done)) | refine Ans.step (by simp (disch:=(first | omega | (simp <;> omega) | fail)) [ft,e2,y1,y2h,hst,b1,b2,hzz,hz4,Z4d,hp,q1',q2',-List.getD_eq_getElem?_getD] <;> rfl) ?_)
     refine .done ?_
     repeat (first | (with_reducible refine Ans.bt ?_ ?_; exact rfl) | (with_reducible refine Ans.bf ?_ ?_; exact rfl) | (with_reducible refine Ans.ct ?_ ?_; focus (simp; done)) | (with_reducible refine Ans.cf ?_ ?_; focus (simp; done)) | refine Ans.step (by simp (disch:=(first | omega | (simp <;> omega) | fail)) [ft,-List.getD_eq_getElem?_getD] <;> rfl) ?_)
     exact .done ⟨rfl,hS,by simp,by simp⟩
   · have ok:Z0r Gl n t f = false:=by rw [okE]; simp [q1,q2]
     rw [ok]
     repeat (first | (with_reducible refine Ans.bt ?_ ?_; exact rfl) | (with_reducible refine Ans.bf ?_ ?_; exact rfl) | (with_reducible refine Ans.ct ?_ ?_; focus (simp; done)) | (with_reducible refine Ans.cf ?_ ?_; focus (simp; done)) | refine Ans.step (by simp (disch:=(first | omega | (simp <;> omega) | fail)) [ft,e2,y1,y2h,hst,b1,b2,hzz,hz4,Z4d,hp,q1',q2,q0,-List.getD_eq_getElem?_getD] <;> rfl) ?_)
     refine .done ?_
     repeat (first | (with_reducible refine Ans.bt ?_ ?_; exact rfl) | (with_reducible refine Ans.bf ?_ ?_; exact rfl) | (with_reducible refine Ans.ct ?_ ?_; focus (simp; done)) | (with_reducible refine Ans.cf ?_ ?_; focus (simp; done)) | refine Ans.step (by simp (disch:=(first | omega | (simp <;> omega) | fail)) [ft,-List.getD_eq_getElem?_getD] <;> rfl) ?_)
     exact .done ⟨rfl,hS,by simp,by simp⟩
 by_cases q3:X < 0
 · have ok:Z0r Gl n t f = false:=by
    have:¬ 0 <= X:=by omega
    rw [okE]; simp [q1,this]
   rw [ok]
   repeat (first | (with_reducible refine Ans.bt ?_ ?_; exact rfl) | (with_reducible refine Ans.bf ?_ ?_; exact rfl) | (with_reducible refine Ans.ct ?_ ?_; focus (simp; done)) | (with_reducible refine Ans.cf ?_ ?_; focus (simp; done)) | refine Ans.step (by simp (disch:=(first | omega | (simp <;> omega) | fail)) [ft,e2,y1,y2h,hst,b1,b2,hzz,hz4,Z4d,hp,q1,q3,-List.getD_eq_getElem?_getD] <;> rfl) ?_)
   refine .done ?_
   repeat (first | (with_reducible refine Ans.bt ?_ ?_; exact rfl) | (with_reducible refine Ans.bf ?_ ?_; exact rfl) | (with_reducible refine Ans.ct ?_ ?_; focus (simp; done)) | (with_reducible refine Ans.cf ?_ ?_; focus (simp; done)) | refine Ans.step (by simp (disch:=(first | omega | (simp <;> omega) | fail)) [ft,-List.getD_eq_getElem?_getD] <;> rfl) ?_)
   exact .done ⟨rfl,hS,by simp,by simp⟩
 by_cases q4:(n:Int) <= X
 · have ok:Z0r Gl n t f = false:=by
    have:¬ X < n:=by omega
    rw [okE]; simp [q1,this]
   rw [ok]
   repeat (first | (with_reducible refine Ans.bt ?_ ?_; exact rfl) | (with_reducible refine Ans.bf ?_ ?_; exact rfl) | (with_reducible refine Ans.ct ?_ ?_; focus (simp; done)) | (with_reducible refine Ans.cf ?_ ?_; focus (simp; done)) | refine Ans.step (by simp (disch:=(first | omega | (simp <;> omega) | fail)) [ft,e2,y1,y2h,hst,b1,b2,hzz,hz4,Z4d,hp,q1,q3,q4,-List.getD_eq_getElem?_getD] <;> rfl) ?_)
   refine .done ?_
   repeat (first | (with_reducible refine Ans.bt ?_ ?_; exact rfl) | (with_reducible refine Ans.bf ?_ ?_; exact rfl) | (with_reducible refine Ans.ct ?_ ?_; focus (simp; done)) | (with_reducible refine Ans.cf ?_ ?_; focus (simp; done)) | refine Ans.step (by simp (disch:=(first | omega | (simp <;> omega) | fail)) [ft,-List.getD_eq_getElem?_getD] <;> rfl) ?_)
   exact .done ⟨rfl,hS,by simp,by simp⟩
 cases q5:Z1i Y with
 | false =>
  have ok:Z0r Gl n t f = false:=by rw [okE]; simp [q1,q5]
  rw [ok]
  repeat (first | (with_reducible refine Ans.bt ?_ ?_; exact rfl) | (with_reducible refine Ans.bf ?_ ?_; exact rfl) | (with_reducible refine Ans.ct ?_ ?_; focus (simp; done)) | (with_reducible refine Ans.cf ?_ ?_; focus (simp; done)) | refine Ans.step (by simp (disch:=(first | omega | (simp <;> omega) | fail)) [ft,e2,y1,y2h,hst,b1,b2,hzz,hz4,Z4d,hp,q1,q3,q4,q5,Z1r,-List.getD_eq_getElem?_getD] <;> rfl) ?_)
  refine .done ?_
  repeat (first | (with_reducible refine Ans.bt ?_ ?_; exact rfl) | (with_reducible refine Ans.bf ?_ ?_; exact rfl) | (with_reducible refine Ans.ct ?_ ?_; focus (simp; done)) | (with_reducible refine Ans.cf ?_ ?_; focus (simp; done)) | refine Ans.step (by simp (disch:=(first | omega | (simp <;> omega) | fail)) [ft,-List.getD_eq_getElem?_getD] <;> rfl) ?_)
  exact .done ⟨rfl,hS,by simp,by simp⟩
 | true =>
  have hr:=Z2G q5
  have hpr:0 <= Y.getD f 0 /\ Y.getD f 0 < 4:=by
   have hlt:f < Y.length:=by omega
   have:=hr _ (List.getElem_mem hlt)
   simpa [List.getD,List.getElem?_eq_getElem hlt] using this
  have c1:∀ H c,callF G 42 [av Y] H c = some (av (inv Y),H,c):=fun H c=>by
   rw [ZaS Y hp,invR,if_pos q5]
  have hil:(inv Y).length = 4:=Z3Y Y 0 [0,0,0,0]
  by_cases q6:X = t
  · by_cases q7:Y.getD f 0 = f
    · have ok:Z0r Gl n t f = false:=by rw [okE]; simp [q1,q6,q7,-List.getD_eq_getElem?_getD]
      rw [ok]
      have q6':=eq_true q6
      have q7':=eq_true q7
      repeat (first | (with_reducible refine Ans.bt ?_ ?_; exact rfl) | (with_reducible refine Ans.bf ?_ ?_; exact rfl) | (with_reducible refine Ans.ct ?_ ?_; focus (simp; done)) | (with_reducible refine Ans.cf ?_ ?_; focus (simp; done)) | refine Ans.step (by simp (disch:=(first | omega | (simp <;> omega) | fail)) [ft,e2,y1,y2h,hst,b1,b2,b3,hzz,hz4,Z4d,hp,q1,q3,q4,q5,Z1r,q6',q7',-List.getD_eq_getElem?_getD] <;> rfl) ?_)
      refine .done ?_
      repeat (first | (with_reducible refine Ans.bt ?_ ?_; exact rfl) | (with_reducible refine Ans.bf ?_ ?_; exact rfl) | (with_reducible refine Ans.ct ?_ ?_; focus (simp; done)) | (with_reducible refine Ans.cf ?_ ?_; focus (simp; done)) | refine Ans.step (by simp (disch:=(first | omega | (simp <;> omega) | fail)) [ft,-List.getD_eq_getElem?_getD] <;> rfl) ?_)
      exact .done ⟨rfl,hS,by simp,by simp⟩
    · have q6':=eq_true q6
      obtain ⟨gb2,go,z1,z2,z3⟩:=hface X (Y.getD f 0) (by omega) (by omega) hpr.1 hpr.2
      have z2h:=z2 H (fun i hi=>hS i hi)
      have hfl:=Z0i (t:=X.toNat) (f:=(Y.getD f 0).toNat) h2.1 (by omega) (by omega)
      have hbl:=Zrp (t:Int) (inv Y) hil
      have hneq:=Z6b (Z02 Gl X.toNat (Y.getD f 0).toNat) ((t:Int) :: inv Y) hfl (by simp [hil])
      by_cases q8:Z02 Gl X.toNat (Y.getD f 0).toNat = (t:Int) :: inv Y
      · have ok:Z0r Gl n t f = true:=by
         have a1:0 <= X:=by omega
         have a2:X < n:=by omega
         rw [okE,decide_eq_true q8]; simp [a1,a2,q5,q7,-List.getD_eq_getElem?_getD]
        rw [ok]
        rw [decide_eq_true q8] at hneq
        repeat (first | (with_reducible refine Ans.bt ?_ ?_; exact rfl) | (with_reducible refine Ans.bf ?_ ?_; exact rfl) | (with_reducible refine Ans.ct ?_ ?_; focus (simp; done)) | (with_reducible refine Ans.cf ?_ ?_; focus (simp; done)) | refine Ans.step (by simp (disch:=(first | omega | (simp <;> omega) | fail)) [ft,e2,e2',y1,y2h,hst,b1,b2,b3,hzz,hz4,Z4d,hp,q1,q3,q4,q5,Z1r,q6',q7,c1,z1,z2h,hbl,hneq,hq,hpr,-List.getD_eq_getElem?_getD] <;> rfl) ?_)
        refine .done ?_
        repeat (first | (with_reducible refine Ans.bt ?_ ?_; exact rfl) | (with_reducible refine Ans.bf ?_ ?_; exact rfl) | (with_reducible refine Ans.ct ?_ ?_; focus (simp; done)) | (with_reducible refine Ans.cf ?_ ?_; focus (simp; done)) | refine Ans.step (by simp (disch:=(first | omega | (simp <;> omega) | fail)) [ft,-List.getD_eq_getElem?_getD] <;> rfl) ?_)
        exact .done ⟨rfl,hS,by simp,by simp⟩
      · have ok:Z0r Gl n t f = false:=by rw [okE,decide_eq_false q8]; simp [q1]
        rw [ok]
        rw [decide_eq_false q8] at hneq
        repeat (first | (with_reducible refine Ans.bt ?_ ?_; exact rfl) | (with_reducible refine Ans.bf ?_ ?_; exact rfl) | (with_reducible refine Ans.ct ?_ ?_; focus (simp; done)) | (with_reducible refine Ans.cf ?_ ?_; focus (simp; done)) | refine Ans.step (by simp (disch:=(first | omega | (simp <;> omega) | fail)) [ft,e2,e2',y1,y2h,hst,b1,b2,b3,hzz,hz4,Z4d,hp,q1,q3,q4,q5,Z1r,q6',q7,c1,z1,z2h,hbl,hneq,hq,hpr,-List.getD_eq_getElem?_getD] <;> rfl) ?_)
        refine .done ?_
        repeat (first | (with_reducible refine Ans.bt ?_ ?_; exact rfl) | (with_reducible refine Ans.bf ?_ ?_; exact rfl) | (with_reducible refine Ans.ct ?_ ?_; focus (simp; done)) | (with_reducible refine Ans.cf ?_ ?_; focus (simp; done)) | refine Ans.step (by simp (disch:=(first | omega | (simp <;> omega) | fail)) [ft,-List.getD_eq_getElem?_getD] <;> rfl) ?_)
        exact .done ⟨rfl,hS,by simp,by simp⟩
  · obtain ⟨gb2,go,z1,z2,z3⟩:=hface X (Y.getD f 0) (by omega) (by omega) hpr.1 hpr.2
    have z2h:=z2 H (fun i hi=>hS i hi)
    have hfl:=Z0i (t:=X.toNat) (f:=(Y.getD f 0).toNat) h2.1 (by omega) (by omega)
    have hbl:=Zrp (t:Int) (inv Y) hil
    have hneq:=Z6b (Z02 Gl X.toNat (Y.getD f 0).toNat) ((t:Int) :: inv Y) hfl (by simp [hil])
    by_cases q8:Z02 Gl X.toNat (Y.getD f 0).toNat = (t:Int) :: inv Y
    · have ok:Z0r Gl n t f = true:=by
       have a1:0 <= X:=by omega
       have a2:X < n:=by omega
       rw [okE,decide_eq_true q8]; simp [a1,a2,q5,q6]
      rw [ok]
      rw [decide_eq_true q8] at hneq
      repeat (first | (with_reducible refine Ans.bt ?_ ?_; exact rfl) | (with_reducible refine Ans.bf ?_ ?_; exact rfl) | (with_reducible refine Ans.ct ?_ ?_; focus (simp; done)) | (with_reducible refine Ans.cf ?_ ?_; focus (simp; done)) | refine Ans.step (by simp (disch:=(first | omega | (simp <;> omega) | fail)) [ft,e2,e2',y1,y2h,hst,b1,b2,b3,hzz,hz4,Z4d,hp,q1,q3,q4,q5,Z1r,q6,c1,z1,z2h,hbl,hneq,hq,hpr,-List.getD_eq_getElem?_getD] <;> rfl) ?_)
      refine .done ?_
      repeat (first | (with_reducible refine Ans.bt ?_ ?_; exact rfl) | (with_reducible refine Ans.bf ?_ ?_; exact rfl) | (with_reducible refine Ans.ct ?_ ?_; focus (simp; done)) | (with_reducible refine Ans.cf ?_ ?_; focus (simp; done)) | refine Ans.step (by simp (disch:=(first | omega | (simp <;> omega) | fail)) [ft,-List.getD_eq_getElem?_getD] <;> rfl) ?_)
      exact .done ⟨rfl,hS,by simp,by simp⟩
    · have ok:Z0r Gl n t f = false:=by rw [okE,decide_eq_false q8]; simp [q1]
      rw [ok]
      rw [decide_eq_false q8] at hneq
      repeat (first | (with_reducible refine Ans.bt ?_ ?_; exact rfl) | (with_reducible refine Ans.bf ?_ ?_; exact rfl) | (with_reducible refine Ans.ct ?_ ?_; focus (simp; done)) | (with_reducible refine Ans.cf ?_ ?_; focus (simp; done)) | refine Ans.step (by simp (disch:=(first | omega | (simp <;> omega) | fail)) [ft,e2,e2',y1,y2h,hst,b1,b2,b3,hzz,hz4,Z4d,hp,q1,q3,q4,q5,Z1r,q6,c1,z1,z2h,hbl,hneq,hq,hpr,-List.getD_eq_getElem?_getD] <;> rfl) ?_)
      refine .done ?_
      repeat (first | (with_reducible refine Ans.bt ?_ ?_; exact rfl) | (with_reducible refine Ans.bf ?_ ?_; exact rfl) | (with_reducible refine Ans.ct ?_ ?_; focus (simp; done)) | (with_reducible refine Ans.cf ?_ ?_; focus (simp; done)) | refine Ans.step (by simp (disch:=(first | omega | (simp <;> omega) | fail)) [ft,-List.getD_eq_getElem?_getD] <;> rfl) ?_)
      exact .done ⟨rfl,hS,by simp,by simp⟩
end Go.Proofs.Ytcnndelmnobigaa

namespace Go.Proofs.Ytcnndelmnobigaa
open Go Go.Ab Go.Proofs
theorem Zlf (s:Value) (n:Nat) (Gl:List Int) (gb c:Nat) (h:FH) (t:Nat) (ht:t < n) (hgb:gb < 256 * c)
 (h1:Z0a h gb [s]) (h2:SlI h c s 20 n Gl) (df:List Nat):∀ (k f:Nat),f + k = 4 →
 ((∀ j,f <= j -> j < 4 -> Z0r Gl n t j = true) /\ G (Z3M none) [ptrTo gb,.int .i64 0,.int .i64 n,.int .i64 t,.int .i64 f] h c df = some ⟨.exit 2,[ptrTo gb,.int .i64 0,.int .i64 n,.int .i64 t,.int .i64 4],h,c,df⟩) ∨
 ((∃ j,f <= j /\ j < 4 /\ Z0r Gl n t j = false) /\ ∃ f':Nat,G (Z3M none) [ptrTo gb,.int .i64 0,.int .i64 n,.int .i64 t,.int .i64 f] h c df = some ⟨.ret,[ptrTo gb,.int .i64 7,.int .i64 n,.int .i64 t,.int .i64 f'],h,c,df⟩):=by
 intro k
 induction k with
 | zero =>
  intro f hf
  obtain rfl:f = 4:=by omega
  refine .inl ⟨fun j h1 h2=>by omega, ?_⟩
  refine (Zc3 (q:=⟨.exit 2,[ptrTo gb,.int .i64 0,.int .i64 n,.int .i64 t,.int .i64 4],h,c + 1,df⟩) (by unfold Z20; simp) (by simp)).trans ?_
  rw [Z1w (by simp [hgb])]
 | succ k ih =>
  intro f hf
  obtain ⟨⟨re,rv,rh,rc,rd⟩,hr,r1,r2,r3,r4⟩:=ZfA s n Gl gb c h t f ht (by omega) hgb h1 h2 (.int .i64 0) df
  simp only at r1 r2 r3 r4
  subst r1
  cases ok:Z0r Gl n t f with
  | true =>
   rw [ok] at r3 r4
   simp only [if_true] at r3 r4
   subst r3 r4
   have hg:gcR h c rd ⟨.normal,[ptrTo gb,.int .i64 0,.int .i64 n,.int .i64 t,.int .i64 (f + 1:Nat)],rh,rc,rd⟩ = _:=Z6c (by simp [hgb]) r2
   rcases ih (f + 1) (by omega) with ⟨a,b⟩ | ⟨⟨j,j1,j2,j3⟩,f',b⟩
   · refine .inl ⟨fun j h1 h2=>?_,Zc5 hr rfl (by rw [hg]; exact b)⟩
     by_cases hj:j = f
     · rw [hj]; exact ok
     · exact a j (by omega) h2
   · exact .inr ⟨⟨j,by omega,j2,j3⟩,f',Zc5 hr rfl (by rw [hg]; exact b)⟩
  | false =>
   rw [ok] at r3 r4
   simp only [Bool.false_eq_true,if_false] at r3 r4
   subst r3 r4
   refine .inr ⟨⟨f,Nat.le_refl _,by omega,ok⟩,f,(Zc3 hr (by simp)).trans ?_⟩
   rw [Z6c (by simp [hgb]) r2]
theorem SlI.up {h:FH} {c c':Nat} {s:Value} {sz n:Nat} {Gl:List Int} (hs:SlI h c s sz n Gl) (hc:c <= c'):SlI h c' s sz n Gl:=hs.mono hc
theorem ZiW (s:Value) (n:Nat) (Gl:List Int) (gb c:Nat) (h:FH) (hgb:gb < 256 * c)
 (h1:Z0a h gb [s]) (h2:SlI h c s 20 n Gl) (hn:n <= 1000) (df:List Nat):∀ (k t:Nat),t + k = n →
 ((∀ u j,t <= u -> u < n -> j < 4 -> Z0r Gl n u j = true) /\ G (Z3N none) [ptrTo gb,.int .i64 0,.int .i64 n,.int .i64 t] h c df = some ⟨.exit 0,[ptrTo gb,.int .i64 0,.int .i64 n,.int .i64 n],h,c,df⟩) ∨
 ((∃ u j,t <= u /\ u < n /\ j < 4 /\ Z0r Gl n u j = false) /\ ∃ t':Nat,G (Z3N none) [ptrTo gb,.int .i64 0,.int .i64 n,.int .i64 t] h c df = some ⟨.ret,[ptrTo gb,.int .i64 7,.int .i64 n,.int .i64 t'],h,c,df⟩):=by
 intro k
 induction k with
 | zero =>
  intro t ht
  obtain rfl:t = n:=by omega
  refine .inl ⟨fun u j h1 h2=>by omega, ?_⟩
  refine (Zc4 (q:=⟨.exit 0,[ptrTo gb,.int .i64 0,.int .i64 t,.int .i64 t],h,c + 1,df⟩) (by unfold Z1f; simp) (by simp)).trans ?_
  rw [Z1w (by simp [hgb])]
 | succ k ih =>
  intro t ht
  have e0:(t:Int) < n:=by omega
  have hin:=Zlf s n Gl gb (c + 1 + 1) h t (by omega) (by omega) h1 (h2.mono (by omega)) df 4 0 rfl
  simp only [Int.ofNat_eq_natCast,Int.cast_ofNat_Int] at hin
  rcases hin with ⟨a,b⟩ | ⟨⟨j,j1,j2,j3⟩,f',b⟩
  · have step:Z1f G none (ptrTo gb) (.int .i64 0) (.int .i64 n) (.int .i64 t) h c df = some ⟨.normal,[ptrTo gb,.int .i64 0,.int .i64 n,.int .i64 (t + 1:Nat)],h,c + 1 + 1 + 1,df⟩:=by
     apply Ans.eq
     unfold Z1f
     repeat (first | (with_reducible refine Ans.bt ?_ ?_; exact rfl) | (with_reducible refine Ans.bf ?_ ?_; exact rfl) | (with_reducible refine Ans.ct ?_ ?_; focus (simp; done)) | (with_reducible refine Ans.cf ?_ ?_; focus (simp; done)) | refine Ans.step (by simp (disch:=(first | omega | (simp <;> omega) | fail)) [e0,b,-List.getD_eq_getElem?_getD] <;> rfl) ?_)
     exact .done rfl
    have hg:gcR h c df ⟨.normal,[ptrTo gb,.int .i64 0,.int .i64 n,.int .i64 (t + 1:Nat)],h,c + 1 + 1 + 1,df⟩ = _:=Z1w (by simp [hgb])
    rcases ih (t + 1) (by omega) with ⟨a2,b2⟩ | ⟨⟨u,j,u1,u2,u3,u4⟩,t',b2⟩
    · refine .inl ⟨fun u j h1 h2 h3=>?_,Zc6 step rfl (by rw [hg]; exact b2)⟩
      by_cases hu:u = t
      · rw [hu]; exact a j (Nat.zero_le _) h3
      · exact a2 u j (by omega) h2 h3
    · exact .inr ⟨⟨u,j,by omega,u2,u3,u4⟩,t',Zc6 step rfl (by rw [hg]; exact b2)⟩
  · refine .inr ⟨⟨t,j,Nat.le_refl _,by omega,j2,j3⟩,t, ?_⟩
    have step:Z1f G none (ptrTo gb) (.int .i64 0) (.int .i64 n) (.int .i64 t) h c df = some ⟨.ret,[ptrTo gb,.int .i64 7,.int .i64 n,.int .i64 t],h,c + 1 + 1,df⟩:=by
     apply Ans.eq
     unfold Z1f
     repeat (first | (with_reducible refine Ans.bt ?_ ?_; exact rfl) | (with_reducible refine Ans.bf ?_ ?_; exact rfl) | (with_reducible refine Ans.ct ?_ ?_; focus (simp; done)) | (with_reducible refine Ans.cf ?_ ?_; focus (simp; done)) | refine Ans.step (by simp (disch:=(first | omega | (simp <;> omega) | fail)) [e0,b,-List.getD_eq_getElem?_getD] <;> rfl) ?_)
     exact .done rfl
    refine (Zc4 step (by simp)).trans ?_
    rw [Z1w (by simp [hgb])]
theorem Zle (s:Value) (n:Nat) (Gl:List Int) (h:FH) (c:Nat) (df:List Nat) (hs:SlI h c s 20 n Gl) :
 G (.fn 13) [.agg #[s]] h c df = some ⟨.ret,[.int .i64 (if n <= 1000 /\ Z0t Gl n = true then 0 else 7)],h,c,[]⟩:=by
 refine Z6X (fun r e=>f13_go e) (by simp) ?_
 have hflat:((Value.agg #[s]).cells.toList.all Z0e) = true:=by
  obtain ⟨_,_,a,cap,rfl,_⟩:=hs
  rfl
 have hcell:(Value.agg #[s]).cells.toList = [s]:=rfl
 have hlen:=hs.len
 unfold ZkU
 rw [hflat,hcell]
 simp only [cond_true]
 by_cases hn:n <= 1000
 · have hn':¬ (1000:Int) < n:=by omega
   have hsl:SlI (newB h (256 * c) [s]) (c + 1 + 1 + 1 + 1) s 20 n Gl:=(hs.same ((Same_newB (by omega)).2 (Z0u.refl _ _))).mono (by omega)
   have ho:=ZiW s n Gl (256 * c) (c + 1 + 1 + 1 + 1) (newB h (256 * c) [s]) (by omega) (Z0a.newB_same _ _ _) hsl hn [] n 0 (by omega)
   simp only [Int.ofNat_eq_natCast,Int.cast_ofNat_Int] at ho
   rcases ho with ⟨a,b⟩ | ⟨⟨u,j,u1,u2,u3,u4⟩,t',b⟩
   · have ok:Z0t Gl n = true:=by
      rw [Z5Q]
      intro j hj
      exact a (j / 4) (j % 4) (Nat.zero_le _) (by omega) (by omega)
     rw [if_pos ⟨hn,ok⟩]
     repeat (first | (with_reducible refine Ans.bt ?_ ?_; exact rfl) | (with_reducible refine Ans.bf ?_ ?_; exact rfl) | (with_reducible refine Ans.ct ?_ ?_; focus (simp; done)) | (with_reducible refine Ans.cf ?_ ?_; focus (simp; done)) | refine Ans.step (by simp (disch:=(first | omega | (simp <;> omega) | fail)) [hlen,hn',b,-List.getD_eq_getElem?_getD] <;> rfl) ?_)
     refine .done ⟨rfl,rfl, ?_,rfl⟩
     simp (disch:=omega)
   · have ok:¬ (n <= 1000 /\ Z0t Gl n = true):=by
      rintro ⟨_,ok⟩
      rw [Z5Q] at ok
      have:=ok (4 * u + j) (by omega)
      have e1:(4 * u + j) / 4 = u:=by omega
      have e2:(4 * u + j) % 4 = j:=by omega
      rw [e1,e2,u4] at this
      cases this
     rw [if_neg ok]
     repeat (first | (with_reducible refine Ans.bt ?_ ?_; exact rfl) | (with_reducible refine Ans.bf ?_ ?_; exact rfl) | (with_reducible refine Ans.ct ?_ ?_; focus (simp; done)) | (with_reducible refine Ans.cf ?_ ?_; focus (simp; done)) | refine Ans.step (by simp (disch:=(first | omega | (simp <;> omega) | fail)) [hlen,hn',b,-List.getD_eq_getElem?_getD] <;> rfl) ?_)
     refine .done ⟨rfl,rfl, ?_,rfl⟩
     simp (disch:=omega)
 · have hn':(1000:Int) < n:=by omega
   rw [if_neg (fun h=>hn h.1)]
   repeat (first | (with_reducible refine Ans.bt ?_ ?_; exact rfl) | (with_reducible refine Ans.bf ?_ ?_; exact rfl) | (with_reducible refine Ans.ct ?_ ?_; focus (simp; done)) | (with_reducible refine Ans.cf ?_ ?_; focus (simp; done)) | refine Ans.step (by simp (disch:=(first | omega | (simp <;> omega) | fail)) [hlen,hn',-List.getD_eq_getElem?_getD] <;> rfl) ?_)
   refine .done ⟨rfl,rfl, ?_,rfl⟩
   simp (disch:=omega)
end Go.Proofs.Ytcnndelmnobigaa

namespace Go.Ab
open Go
inductive Tri where
 | leaf
 | node (b:Option ABlk) (l r:Tri)
def Tri.get:Tri -> Nat -> Option ABlk
 | .leaf,_=>none
 | .node b l r,i=>cond (Nat.beq i 0) b (cond (Nat.beq (i % 2) 1) (l.get (i / 2)) (r.get (i / 2 - 1)))
def Tri.upd:Nat -> Tri -> Nat -> Option ABlk -> Tri
 | 0,t,_,o=>match t with
  | .leaf=>.node o .leaf .leaf
  | .node _ l r=>.node o l r
 | n + 1,t,i,o=>match t with
  | .leaf=>cond (Nat.beq i 0) (.node o .leaf .leaf) (cond (Nat.beq (i % 2) 1) (.node none (Tri.upd n .leaf (i / 2) o) .leaf) (.node none .leaf (Tri.upd n .leaf (i / 2 - 1) o)))
  | .node b l r=>cond (Nat.beq i 0) (.node o l r) (cond (Nat.beq (i % 2) 1) (.node b (Tri.upd n l (i / 2) o) r) (.node b l (Tri.upd n r (i / 2 - 1) o)))
theorem Tri.get_upd:∀ (n:Nat) (t:Tri) (i:Nat) (o:Option ABlk) (j:Nat),i <= n -> (Tri.upd n t i o).get j = if j = i then o else t.get j:=by
 have key:∀ (b:Option ABlk) (l r:Tri) (i:Nat),(Tri.node b l r).get i = if i = 0 then b else if i % 2 = 1 then l.get (i / 2) else r.get (i / 2 - 1):=by
  intro b l r i
  simp only [Tri.get]
  by_cases h0:i = 0
  · subst h0; rfl
  · have:Nat.beq i 0 = false:=by rw [Bool.eq_false_iff]; intro h; exact h0 (Nat.eq_of_beq_eq_true h)
    rw [this]
    simp only [h0,if_false,cond_false]
    by_cases h1:i % 2 = 1
    · simp [h1]
    · have:Nat.beq (i % 2) 1 = false:=by rw [Bool.eq_false_iff]; intro h; exact h1 (Nat.eq_of_beq_eq_true h)
      simp [h1,this]
 have leafg:∀ j,Tri.leaf.get j = none:=fun _=>rfl
 intro n
 induction n with
 | zero =>
  intro t i o j hi
  have:i = 0:=by omega
  subst this
  cases t with
  | leaf =>
   simp only [Tri.upd,key,leafg]
   split <;> simp
  | node b l r =>
   simp only [Tri.upd,key]
   by_cases h:j = 0 <;> simp [h]
 | succ n ih =>
  intro t i o j hi
  by_cases h0:i = 0
  · subst h0
    cases t with
    | leaf =>
     simp only [Tri.upd,Nat.beq_refl,cond_true,key,leafg]
     split <;> simp
    | node b l r =>
     simp only [Tri.upd,Nat.beq_refl,cond_true,key]
     by_cases h:j = 0 <;> simp [h]
  · have hb0:Nat.beq i 0 = false:=by rw [Bool.eq_false_iff]; intro h; exact h0 (Nat.eq_of_beq_eq_true h)
    by_cases h1:i % 2 = 1
    · have hb1:Nat.beq (i % 2) 1 = true:=by rw [h1]; rfl
      cases t with
      | leaf =>
       simp only [Tri.upd,hb0,hb1,cond_true,cond_false,key,leafg]
       by_cases hj:j = 0
       · subst hj; simp [Ne.symm h0]
       · simp only [hj,if_false]
         by_cases hj1:j % 2 = 1
         · simp only [hj1,if_true]
           rw [ih _ _ _ _ (by omega),leafg]
           by_cases e:j = i
           · simp [e]
           · rw [if_neg e,if_neg (by omega)]
         · rw [if_neg hj1,if_neg (by omega)]
      | node b l r =>
       simp only [Tri.upd,hb0,hb1,cond_true,cond_false,key]
       by_cases hj:j = 0
       · subst hj; simp [Ne.symm h0]
       · simp only [hj,if_false]
         by_cases hj1:j % 2 = 1
         · simp only [hj1,if_true]
           rw [ih _ _ _ _ (by omega)]
           by_cases e:j = i
           · simp [e]
           · rw [if_neg e,if_neg (by omega)]
         · rw [if_neg hj1,if_neg (show ¬ j = i by omega),if_neg hj1]
    · have hb1:Nat.beq (i % 2) 1 = false:=by rw [Bool.eq_false_iff]; intro h; exact h1 (Nat.eq_of_beq_eq_true h)
      cases t with
      | leaf =>
       simp only [Tri.upd,hb0,hb1,cond_true,cond_false,key,leafg]
       by_cases hj:j = 0
       · subst hj; simp [Ne.symm h0]
       · simp only [hj,if_false]
         by_cases hj1:j % 2 = 1
         · rw [if_pos hj1,if_neg (by omega)]
         · rw [if_neg hj1,ih _ _ _ _ (by omega),leafg]
           by_cases e:j = i
           · simp [e]
           · rw [if_neg e,if_neg (by omega)]
      | node b l r =>
       simp only [Tri.upd,hb0,hb1,cond_true,cond_false,key]
       by_cases hj:j = 0
       · subst hj; simp [Ne.symm h0]
       · simp only [hj,if_false]
         by_cases hj1:j % 2 = 1
         · rw [if_pos hj1,if_neg (show ¬ j = i by omega),if_pos hj1]
         · rw [if_neg hj1,ih _ _ _ _ (by omega)]
           by_cases e:j = i
           · simp [e]
           · rw [if_neg e,if_neg (by omega),if_neg hj1]
def ZhJ:Option Addr -> Option Addr -> Bool
 | none,none=>true
 | some ⟨a,b,none⟩,some ⟨c,d,none⟩=>Nat.beq a c && Nat.beq b d
 | _,_=>false
def ZpR:Value -> Value -> Bool
 | .bool a,.bool b=>a == b
 | .int k n,.int k' n'=>decide (k = k') && n == n'
 | .pointer a,.pointer b=>ZhJ a b
 | .slice a l c,.slice b l' c'=>ZhJ a b && Nat.beq l l' && Nat.beq c c'
 | .map (some a),.map (some b)=>Nat.beq a b
 | .map none,.map none=>true
 | .nilFunc,.nilFunc=>true
 | .nilIface,.nilIface=>true
 | _,_=>false
def ZfN:List Value -> List Value -> Bool
 | [],[]=>true
 | x :: xs,y :: ys=>ZpR x y && ZfN xs ys
 | _,_=>false
def ZcB:Option Nat -> Option Nat -> Bool
 | none,none=>true
 | some a,some b=>Nat.beq a b
 | _,_=>false
def Zp0:Option ABlk -> Option ABlk -> Bool
 | none,none=>true
 | some (.cells ro o c),some (.cells ro' o' c')=>ro == ro' && ZcB o o' && ZfN c c'
 | some .dead,some .dead=>true
 | some .dfr,some .dfr=>true
 | _,_=>false
theorem Ze6 {a b:Option Addr} (h:ZhJ a b = true):a = b:=by
 unfold ZhJ at h
 split at h
 · rfl
 · simp only [Bool.and_eq_true] at h
   rw [Nat.eq_of_beq_eq_true h.1,Nat.eq_of_beq_eq_true h.2]
 · cases h
theorem ZlD {a b:Value} (h:ZpR a b = true):a = b:=by
 unfold ZpR at h
 split at h
 · simp at h; rw [h]
 · simp at h; rw [h.1,h.2]
 · rw [Ze6 h]
 · simp only [Bool.and_eq_true] at h
   rw [Ze6 h.1.1,Nat.eq_of_beq_eq_true h.1.2,Nat.eq_of_beq_eq_true h.2]
 · rw [Nat.eq_of_beq_eq_true h]
 · rfl
 · rfl
 · rfl
 · cases h
theorem Zdp:∀ {a b:List Value},ZfN a b = true -> a = b
 | [],[],_=>rfl
 | x :: xs,y :: ys,h=>by
  simp only [ZfN,Bool.and_eq_true] at h
  rw [ZlD h.1,Zdp h.2]
 | [],y :: ys,h=>by cases h
 | x :: xs,[],h=>by cases h
theorem Zet {a b:Option Nat} (h:ZcB a b = true):a = b:=by
 unfold ZcB at h
 split at h
 · rfl
 · rw [Nat.eq_of_beq_eq_true h]
 · cases h
theorem ZhH (a b:Option ABlk) (h:Zp0 a b = true):a = b:=by
 unfold Zp0 at h
 split at h
 · rfl
 · simp only [Bool.and_eq_true] at h
   have h1:=h.1.1
   rw [Zet h.1.2,Zdp h.2]
   simp at h1
   rw [h1]
 · rfl
 · rfl
 · cases h
instance:HeapC Tri where
 get h i:=h.get i
 set h i b:=Tri.upd i h i (some b)
 del h i:=Tri.upd i h i none
 eqB:=Zp0
 eqB_eq:=ZhH
 get_set h i b j:=Tri.get_upd i h i (some b) j (Nat.le_refl _)
 get_del h i j:=Tri.get_upd i h i none j (Nat.le_refl _)
end Go.Ab

namespace Go.Ab
open Go
noncomputable def ZlH (t:Tri):Nat -> Option ABlk :=
 Tri.rec (motive:=fun _=>Nat -> Option ABlk) (fun _=>none)
  (fun b _ _ l r i=>cond (Nat.beq i 0) b (cond (Nat.beq (Nat.mod i 2) 1) (l (Nat.div i 2)) (r (Nat.sub (Nat.div i 2) 1)))) t
theorem Zcr:∀ (t:Tri) (i:Nat),ZlH t i = t.get i
 | .leaf,i=>rfl
 | .node b l r,i=>by
  show cond (Nat.beq i 0) b (cond (Nat.beq (Nat.mod i 2) 1) (ZlH l (Nat.div i 2)) (ZlH r (Nat.sub (Nat.div i 2) 1))) = _
  rw [Zcr l,Zcr r]
  rfl
noncomputable def Zpe (o:Option ABlk) (n:Nat):Tri -> Nat -> Tri :=
 Nat.rec (motive:=fun _=>Tri -> Nat -> Tri)
  (fun t _=>Tri.rec (motive:=fun _=>Tri) (.node o .leaf .leaf) (fun _ l r _ _=>.node o l r) t)
  (fun _ ih t i=>Tri.rec (motive:=fun _=>Tri)
   (cond (Nat.beq i 0) (.node o .leaf .leaf) (cond (Nat.beq (Nat.mod i 2) 1) (.node none (ih .leaf (Nat.div i 2)) .leaf) (.node none .leaf (ih .leaf (Nat.sub (Nat.div i 2) 1)))))
   (fun b l r _ _=>cond (Nat.beq i 0) (.node o l r) (cond (Nat.beq (Nat.mod i 2) 1) (.node b (ih l (Nat.div i 2)) r) (.node b l (ih r (Nat.sub (Nat.div i 2) 1))))) t) n
theorem Z9L (o:Option ABlk):∀ (n:Nat) (t:Tri) (i:Nat),Zpe o n t i = Tri.upd n t i o
 | 0,.leaf,i=>rfl
 | 0,.node b l r,i=>rfl
 | n + 1,.leaf,i=>by
  show (cond (Nat.beq i 0) (Tri.node o .leaf .leaf) (cond (Nat.beq (Nat.mod i 2) 1) (Tri.node none (Zpe o n .leaf (Nat.div i 2)) .leaf) (Tri.node none .leaf (Zpe o n .leaf (Nat.sub (Nat.div i 2) 1))))) = _
  rw [Z9L o n,Z9L o n]; rfl
 | n + 1,.node b l r,i=>by
  show (cond (Nat.beq i 0) (Tri.node o l r) (cond (Nat.beq (Nat.mod i 2) 1) (Tri.node b (Zpe o n l (Nat.div i 2)) r) (Tri.node b l (Zpe o n r (Nat.sub (Nat.div i 2) 1))))) = _
  rw [Z9L o n,Z9L o n]; rfl
theorem Zjo (t:Tri) (i:Nat) (o:Option ABlk) (j:Nat):ZlH (Zpe o i t i) j = if j = i then o else ZlH t j:=by
 rw [Zcr,Zcr,Z9L]
 exact Tri.get_upd i t i o j (Nat.le_refl _)
abbrev RC:=List (Nat × Option ABlk)
noncomputable def ZaH (i:Nat) (rc:RC):Option (Option ABlk) :=
 List.rec (motive:=fun _=>Option (Option ABlk)) none (fun x _ ih=>cond (Nat.beq i x.1) (some x.2) ih) rc
noncomputable def ZjF (i:Nat) (o:Option ABlk) (rc:RC):RC :=
 List.rec (motive:=fun _=>RC) [] (fun x xs ih=>cond (Nat.beq i x.1) ((x.1,o) :: xs) (x :: ih)) rc
noncomputable def Zkg (rc:RC) (t:Tri):Tri :=
 List.rec (motive:=fun _=>Tri) t (fun x _ ih=>Zpe x.2 x.1 ih x.1) rc
theorem Z1V (i:Nat) (x:Nat × Option ABlk) (xs:RC):ZaH i (x :: xs) = if i = x.1 then some x.2 else ZaH i xs:=by
 show cond (Nat.beq i x.1) (some x.2) (ZaH i xs) = _
 cases h:Nat.beq i x.1 with
 | true=>rw [if_pos (Nat.eq_of_beq_eq_true h)]; rfl
 | false=>rw [if_neg (fun e=>by rw [e,Nat.beq_refl] at h; cases h)]; rfl
theorem Zi0 (i:Nat) (o:Option ABlk) (x:Nat × Option ABlk) (xs:RC):ZjF i o (x :: xs) = if i = x.1 then (x.1,o) :: xs else x :: ZjF i o xs:=by
 show cond (Nat.beq i x.1) ((x.1,o) :: xs) (x :: ZjF i o xs) = _
 cases h:Nat.beq i x.1 with
 | true=>rw [if_pos (Nat.eq_of_beq_eq_true h)]; rfl
 | false=>rw [if_neg (fun e=>by rw [e,Nat.beq_refl] at h; cases h)]; rfl
theorem Zaj (i:Nat) (o:Option ABlk) (j:Nat):∀ (rc:RC),ZaH i rc ≠ none -> ZaH j (ZjF i o rc) = if j = i then some o else ZaH j rc
 | [],h=>absurd rfl h
 | x :: xs,h=>by
  rw [Z1V] at h
  rw [Zi0]
  by_cases e:i = x.1
  · rw [if_pos e,Z1V,Z1V]
    by_cases e2:j = x.1
    · rw [if_pos e2,if_pos (e2.trans e.symm)]
    · rw [if_neg e2,if_neg (fun h=>e2 (h.trans e)),if_neg e2]
  · rw [if_neg e] at h ⊢
    rw [Z1V,Z1V,Zaj i o j xs h]
    by_cases e2:j = x.1
    · rw [if_pos e2,if_pos e2,if_neg (fun h=>e (h.symm.trans e2))]
    · rw [if_neg e2,if_neg e2]
theorem Zbf (j:Nat) (t:Tri):∀ (rc:RC),ZlH (Zkg rc t) j = (match ZaH j rc with | some o=>o | none=>ZlH t j)
 | []=>rfl
 | x :: xs=>by
  show ZlH (Zpe x.2 x.1 (Zkg xs t) x.1) j = _
  rw [Zjo,Z1V]
  by_cases e:j = x.1
  · rw [if_pos e,if_pos e]
  · rw [if_neg e,if_neg e,Zbf j t xs]
structure TH where
 rc:RC
 n:Nat
 old:Tri
noncomputable def TH.put (h:TH) (i:Nat) (o:Option ABlk):TH :=
 match ZaH i h.rc with
 | some _=>{ rc:=ZjF i o h.rc,n:=h.n,old:=h.old }
 | none=>cond (Nat.blt h.n 24) { rc:=(i,o) :: h.rc,n:=Nat.add h.n 1,old:=h.old } { rc:=[(i,o)],n:=1,old:=Zkg h.rc h.old }
noncomputable def TH.look (h:TH) (i:Nat):Option ABlk :=
 match ZaH i h.rc with
 | some o=>o
 | none=>ZlH h.old i
theorem TH.look_put (h:TH) (i:Nat) (o:Option ABlk) (j:Nat):(h.put i o).look j = if j = i then o else h.look j:=by
 unfold TH.put TH.look
 cases e:ZaH i h.rc with
 | some x =>
  dsimp only
  rw [Zaj i o j h.rc (by rw [e]; simp)]
  by_cases e2:j = i
  · rw [if_pos e2,if_pos e2]
  · rw [if_neg e2,if_neg e2]
 | none =>
  dsimp only
  cases Nat.blt h.n 24 with
  | true =>
   dsimp only [cond_true]
   rw [Z1V]
   by_cases e2:j = i
   · rw [if_pos e2,if_pos e2]
   · rw [if_neg e2,if_neg e2]
  | false =>
   dsimp only [cond_false]
   rw [Z1V]
   by_cases e2:j = i
   · rw [if_pos e2,if_pos e2]
   · rw [if_neg e2,if_neg e2]
     exact Zbf j h.old h.rc
noncomputable instance:HeapC TH where
 get h i:=h.look i
 set h i b:=h.put i (some b)
 del h i:=h.put i none
 eqB:=Zp0
 eqB_eq:=ZhH
 get_set h i b j:=TH.look_put h i (some b) j
 get_del h i j:=TH.look_put h i none j
noncomputable def TH.empty:TH:={ rc:=[],n:=0,old:=.leaf }
theorem TH.inv_empty (h:TH) (e:h = TH.empty) (i:Nat):HeapC.get h i = none:=by subst e; rfl
end Go.Ab
