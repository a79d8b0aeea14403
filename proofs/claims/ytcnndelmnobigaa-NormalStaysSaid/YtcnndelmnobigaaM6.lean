/- Parts of a proof: U10 D1 D2 D3 AbTrie AbHeap. Conditions: none. -/
import Derived.Test.YtcnndelmnobigaaM5
import Derived.Test.YtcnndelmnobigaaM4
import Derived.Test.YtcnndelmnobigaaM0
set_option linter.all false
namespace Go.Proofs.Ytcnndelmnobigaa
open Go Go.Ab Go.Proofs
set_option maxRecDepth 100000
set_option linter.unusedVariables false
set_option linter.unusedSimpArgs false
def sI (V : List Int) (t f : Nat) : Nat → Nat → Int
  | 0, _ => 0
  | r + 1, i => (if i = f then 0 else arcV V t f i) + sI V t f r (i + 1)
def eSkip (Gl : List Int) (t f : Nat) : Bool := decide (0 ≤ tetL (faceL Gl t f) ∧ (tetL (faceL Gl t f) < t ∨ (tetL (faceL Gl t f) = t ∧ (permL (faceL Gl t f)).getD f 0 < f)))
def sF (Gl V : List Int) (t : Nat) : Nat → Nat → Int
  | 0, _ => 0
  | r + 1, f => (if eSkip Gl t f = true then 0 else sI V t f 4 0) + sF Gl V t r (f + 1)
def sT (Gl V : List Int) : Nat → Nat → Int
  | 0, _ => 0
  | r + 1, t => sF Gl V t 4 0 + sT Gl V r (t + 1)
theorem arcV_bound {V : List Int} (hV : ∀ j, 0 ≤ gi V j ∧ gi V j ≤ 1000000) (t f i : Int) : 0 ≤ arcV V t f i ∧ arcV V t f i ≤ 2000000 := by
  unfold arcV
  have h1 := hV (7 * t + i)
  have h2 := hV (7 * t + 4 + ty i f)
  omega
theorem sI_bound {V : List Int} (hV : ∀ j, 0 ≤ gi V j ∧ gi V j ≤ 1000000) {t f : Nat} : ∀ {r i : Nat}, 0 ≤ sI V t f r i ∧ sI V t f r i ≤ r * 2000000
  | 0, _ => by simp [sI]
  | r + 1, i => by
    rw [sI]
    have h1 := arcV_bound hV t f i
    have h2 := sI_bound hV (t := t) (f := f) (r := r) (i := i + 1)
    split <;> omega
theorem sF_bound {Gl V : List Int} (hV : ∀ j, 0 ≤ gi V j ∧ gi V j ≤ 1000000) {t : Nat} : ∀ {r f : Nat}, 0 ≤ sF Gl V t r f ∧ sF Gl V t r f ≤ r * 8000000
  | 0, _ => by simp [sF]
  | r + 1, f => by
    rw [sF]
    have h1 := sI_bound hV (t := t) (f := f) (r := 4) (i := 0)
    have h2 := sF_bound (Gl := Gl) hV (t := t) (r := r) (f := f + 1)
    split <;> omega
theorem arcs_loop (s : Value) (n nv : Nat) (V : List Int) (t f : Nat) (v4 v5 v6 v7 v8 : Value) (h : FH) (c : Nat) (df : List Nat) (hs : SlI h c s 1 nv V) (hnv : nv = 7 * n) (hn : n ≤ 60) (ht : t < n) (hf : f < 4) (hV : ∀ j, 0 ≤ gi V j ∧ gi V j ≤ 1000000)
    (o4 : OkV c v4) (o5 : OkV c v5) (o6 : OkV c v6) (o7 : OkV c v7) (o8 : OkV c v8) :
    ∀ (r i : Nat) (a : Int), i + r = 4 → -2000000000000 + (r : Int) * 2000000 ≤ a → a ≤ 2000000000000 →
    Ans (G (f15_k15002 none) [s, .int .i64 a, .int .i64 t, .int .i64 f, v4, v5, v6, v7, v8, .int .i64 i] h c df) fun q => q = { e := .exit 4, vs := [s, .int .i64 (a - sI V t f r i), .int .i64 t, .int .i64 f, v4, v5, v6, v7, v8, .int .i64 4], h := h, c := c, df := df } := by
  intro r
  have o1 := hs.okV
  induction r with
  | zero =>
    intro i a hi h1 h2
    obtain rfl : i = 4 := by omega
    refine Ans.loop (fun q r => f15_N15002) (fun q => f15_Z15002) ?_
    unfold f15_L15002
    have fx := True.intro
    refine Ans.go ?_
    clear fx
    (have fx := And.intro o1 (And.intro o4 (And.intro o5 (And.intro o6 (And.intro o7 o8)))); refine Ans.ex0 ?_; clear fx)
    rw [sI, Int.sub_zero]
    rfl
  | succ r ih =>
    intro i a hi h1 h2
    have hi4 : (i : Int) < 4 := by omega
    rw [sI]
    by_cases e : i = f
    · subst e
      rw [if_pos rfl, Int.zero_add]
      refine Ans.loop (fun q r => f15_N15002) (fun q => f15_Z15002) ?_
      unfold f15_L15002
      have fx := True.intro
      refine Ans.go ?_
      clear fx
      (have fx := And.intro o1 (And.intro o4 (And.intro o5 (And.intro o6 (And.intro o7 o8)))); refine Ans.nx0 ?_; clear fx)
      exact ih (i + 1) a (by omega) (by omega) h2
    · rw [if_neg e]
      have e' : ¬ ((i : Int) = f) := by omega
      have b := arcV_bound hV t f i
      have ca := fun c' (hc : c ≤ c') => callF_of (arcs_sp s nv V t f i h c' [] (hs.mono hc) (by omega) (by omega) (by omega) (by omega) (by omega) (by omega) (by omega) (by omega) (fun j hj => by have := hV j; omega))
      obtain ⟨X, hX⟩ : ∃ X, arcV V t f i = X := ⟨_, rfl⟩
      rw [hX] at b ca ⊢
      refine Ans.loop (fun q r => f15_N15002) (fun q => f15_Z15002) ?_
      unfold f15_L15002
      have fx := ca
      refine Ans.go ?_
      clear fx
      (have fx := And.intro o1 (And.intro o4 (And.intro o5 (And.intro o6 (And.intro o7 o8)))); refine Ans.nx0 ?_; clear fx)
      rw [show a - (X + sI V t f r (i + 1)) = a - X - sI V t f r (i + 1) by omega]
      exact ih (i + 1) (a - X) (by omega) (by omega) (by omega)
theorem face_loop (s : Value) (n nv : Nat) (Gl V : List Int) (t : Nat) (v3 v4 : Value) (h : FH) (c : Nat) (df : List Nat) (hs : SlI h c s 1 nv V) (hnv : nv = 7 * n) (hn : n ≤ 60) (hG : Gl.length = n * 20) (ht : t < n) (hV : ∀ j, 0 ≤ gi V j ∧ gi V j ≤ 1000000) (hok : okAll Gl n = true)
    (o3 : OkV c v3) (o4 : OkV c v4) :
    ∀ (r f : Nat) (a : Int), f + r = 4 → -1000000000000 + (r : Int) * 8000000 ≤ a → a ≤ 1000000000000 →
    Ans (G (f15_k15001 none) [s, .int .i64 a, .int .i64 t, v3, v4, .int .i64 t, av (rowL Gl t), .int .i64 f] h c df) fun q => q = { e := .exit 2, vs := [s, .int .i64 (a - sF Gl V t r f), .int .i64 t, v3, v4, .int .i64 t, av (rowL Gl t), .int .i64 4], h := h, c := c, df := df } := by
  intro r
  have o1 := hs.okV
  induction r with
  | zero =>
    intro f a hf h1 h2
    obtain rfl : f = 4 := by omega
    refine Ans.loop (fun q r => f15_N15001) (fun q => f15_Z15001) ?_
    unfold f15_L15001
    have fx := True.intro
    refine Ans.go ?_
    clear fx
    (have fx := And.intro o1 (And.intro o3 o4); refine Ans.ex0 ?_; clear fx)
    rw [sF, Int.sub_zero]
    rfl
  | succ r ih =>
    intro f a hf h1 h2
    have hf4 : (f : Int) < 4 := by omega
    have hrl : (rowL Gl t).length = 20 := by unfold rowL; simp [hG]; omega
    have x1 := ixV_avs (rowL Gl t) 4 5 .i64 (f : Int) (by omega) (by omega) hrl
    have hfr : ((rowL Gl t).drop ((f : Int).toNat * 5)).take 5 = faceL Gl t f := by
      unfold rowL faceL
      rw [List.drop_take, List.take_take, List.drop_drop, Int.toNat_natCast]
      congr 1
      · omega
      · congr 1; omega
    rw [hfr] at x1
    have hfl := faceL_length hG ht (by omega : f < 4)
    have hst : ∀ b, stN (newB h b [.int .i64 0, .int .i64 0, .int .i64 0, .int .i64 0, .int .i64 0]) 5 (.pointer (some ⟨b, 0, none⟩)) (av (faceL Gl t f)) = some (newB h b (ints (faceL Gl t f))) := fun b => stN_all _ _ 5 _ _ hfl rfl
    have b0 : ∀ b, ld1 (newB h b (ints (faceL Gl t f))) (.pointer (some ⟨b, 0, none⟩)) = some (.int .i64 (tetL (faceL Gl t f))) := fun b => by rw [ld1_newB_same, ints_getD _ _ (by omega)]; rfl
    have b1 : ∀ b, ld1 (newB h b (ints (faceL Gl t f))) (.pointer (some ⟨b, 1 + f, none⟩)) = some (.int .i64 ((permL (faceL Gl t f)).getD f 0)) := fun b => by
      rw [ld1_newB_same, ints_getD _ _ (by omega)]
      unfold permL
      rw [getD_take _ _ _ (by omega), getD_drop]
    have hbnd := sI_bound hV (t := t) (f := f) (r := 4) (i := 0)
    have hin := fun c' H (hc : c ≤ c') (hH : Same c h H) => Ans.eq (arcs_loop s n nv V t f v3 v4 (.int .i64 t) (av (rowL Gl t)) (.int .i64 f) H c' df ((hs.same hH).mono hc) hnv hn ht (by omega) hV (o3.mono hc) (o4.mono hc) (by simp) (by simp) (by simp) 4 0 a (by omega) (by omega) (by omega))
    simp only [Int.ofNat_eq_natCast, Int.cast_ofNat_Int] at hin
    rw [sF]
    have hsk : eSkip Gl t f = decide (0 ≤ tetL (faceL Gl t f) ∧ (tetL (faceL Gl t f) < t ∨ (tetL (faceL Gl t f) = t ∧ (permL (faceL Gl t f)).getD f 0 < f))) := rfl
    obtain ⟨F, hF⟩ : ∃ F, faceL Gl t f = F := ⟨_, rfl⟩
    rw [hF] at x1 hst b0 b1 hsk
    obtain ⟨U, hU⟩ : ∃ U, tetL F = U := ⟨_, rfl⟩
    obtain ⟨Q, hQ⟩ : ∃ Q, (permL F).getD f 0 = Q := ⟨_, rfl⟩
    rw [hU] at b0 hsk
    rw [hQ] at b1 hsk
    have sm : ∀ b, 256 * c ≤ b → Same c h (newB h b (ints F)) := fun b hb q hq => by rw [newB_f, if_neg (by omega)]
    obtain ⟨W, hW⟩ : ∃ W, sI V t f 4 0 = W := ⟨_, rfl⟩
    rw [hW] at hin hbnd ⊢
    have stepN : eSkip Gl t f = true → Ans (G (f15_k15001 none) [s, .int .i64 a, .int .i64 t, v3, v4, .int .i64 t, av (rowL Gl t), .int .i64 (f + 1 : Nat)] h c df) (fun q => q = { e := .exit 2, vs := [s, .int .i64 (a - ((if eSkip Gl t f = true then 0 else W) + sF Gl V t r (f + 1))), .int .i64 t, v3, v4, .int .i64 t, av (rowL Gl t), .int .i64 4], h := h, c := c, df := df }) := fun e => by
      rw [if_pos e, Int.zero_add]
      exact ih (f + 1) a (by omega) (by omega) h2
    have stepY : eSkip Gl t f = false → Ans (G (f15_k15001 none) [s, .int .i64 (a - W), .int .i64 t, v3, v4, .int .i64 t, av (rowL Gl t), .int .i64 (f + 1 : Nat)] h c df) (fun q => q = { e := .exit 2, vs := [s, .int .i64 (a - ((if eSkip Gl t f = true then 0 else W) + sF Gl V t r (f + 1))), .int .i64 t, v3, v4, .int .i64 t, av (rowL Gl t), .int .i64 4], h := h, c := c, df := df }) := fun e => by
      rw [if_neg (by rw [e]; simp), show a - (W + sF Gl V t r (f + 1)) = a - W - sF Gl V t r (f + 1) by omega]
      exact ih (f + 1) (a - W) (by omega) (by omega) (by omega)
    have hi2 := hin (c + 1 + 1 + 1 + 1) (newB h (256 * (c + 1) + 2) (ints F)) (by omega) (sm _ (by omega))
    refine Ans.loop (fun q r => f15_N15001) (fun q => f15_Z15001) ?_
    unfold f15_L15001
    by_cases h0 : 0 ≤ U
    · by_cases h3 : U < t
      · have e : eSkip Gl t f = true := by rw [hsk]; exact decide_eq_true ⟨h0, .inl h3⟩
        repeat' (first | ((with_reducible first | refine Ans.bz ?_ | refine Ans.r1 ?_ | refine Ans.pkT ?_ | refine Ans.pkF ?_); try dsimp only [v_zero, v_succ]) | (with_reducible first | refine Ans.btL ?_ | refine Ans.bfL ?_ | refine Ans.gyT ?_ | refine Ans.gyF ?_ | refine Ans.gyG ?_ | refine Ans.bb ?_ | refine Ans.bc ?_ | refine Ans.ba ?_) | ((with_reducible first | refine Ans.lsT ?_ ?_ | refine Ans.geT ?_ ?_ | refine Ans.eqT ?_ ?_); (focus omega)) | ((with_reducible first | refine Ans.lsF ?_ ?_ | refine Ans.geF ?_ ?_ | refine Ans.eqF ?_ ?_); (focus omega)) | (with_reducible first | refine Ans.lsS (fun _ => ?_) (fun _ => ?_) | refine Ans.geS (fun _ => ?_) (fun _ => ?_) | refine Ans.eqS (fun _ => ?_) (fun _ => ?_)) | ((with_reducible first | refine Ans.addN ?_ ?_ | refine Ans.add ?_ ?_); (focus omega)) | ((with_reducible first | refine Ans.ct ?_ ?_); (focus (simp (disch := (first | omega | with_reducible assumption | (simp <;> omega) | fail)) [x1, hst, b0, b1, hi2, -ld1_newB_same]; done))) | ((with_reducible first | refine Ans.cf ?_ ?_); (focus (simp (disch := (first | omega | with_reducible assumption | (simp <;> omega) | fail)) [x1, hst, b0, b1, hi2, -ld1_newB_same]; done))) | (refine Ans.step (by simp (disch := (first | omega | with_reducible assumption | (simp <;> omega) | fail)) [x1, hst, b0, b1, hi2, -ld1_newB_same, -List.getD_eq_getElem?_getD] <;> rfl) ?_; try dsimp only [v_zero, v_succ]) | fail)
        (have fx := And.intro o1 (And.intro o3 o4); refine Ans.nx0 ?_; clear fx)
        exact stepN e
      · by_cases h4 : U = t
        · by_cases h5 : Q < f
          · have e : eSkip Gl t f = true := by rw [hsk]; exact decide_eq_true ⟨h0, .inr ⟨h4, h5⟩⟩
            repeat' (first | ((with_reducible first | refine Ans.bz ?_ | refine Ans.r1 ?_ | refine Ans.pkT ?_ | refine Ans.pkF ?_); try dsimp only [v_zero, v_succ]) | (with_reducible first | refine Ans.btL ?_ | refine Ans.bfL ?_ | refine Ans.gyT ?_ | refine Ans.gyF ?_ | refine Ans.gyG ?_ | refine Ans.bb ?_ | refine Ans.bc ?_ | refine Ans.ba ?_) | ((with_reducible first | refine Ans.lsT ?_ ?_ | refine Ans.geT ?_ ?_ | refine Ans.eqT ?_ ?_); (focus omega)) | ((with_reducible first | refine Ans.lsF ?_ ?_ | refine Ans.geF ?_ ?_ | refine Ans.eqF ?_ ?_); (focus omega)) | (with_reducible first | refine Ans.lsS (fun _ => ?_) (fun _ => ?_) | refine Ans.geS (fun _ => ?_) (fun _ => ?_) | refine Ans.eqS (fun _ => ?_) (fun _ => ?_)) | ((with_reducible first | refine Ans.addN ?_ ?_ | refine Ans.add ?_ ?_); (focus omega)) | ((with_reducible first | refine Ans.ct ?_ ?_); (focus (simp (disch := (first | omega | with_reducible assumption | (simp <;> omega) | fail)) [x1, hst, b0, b1, hi2, -ld1_newB_same]; done))) | ((with_reducible first | refine Ans.cf ?_ ?_); (focus (simp (disch := (first | omega | with_reducible assumption | (simp <;> omega) | fail)) [x1, hst, b0, b1, hi2, -ld1_newB_same]; done))) | (refine Ans.step (by simp (disch := (first | omega | with_reducible assumption | (simp <;> omega) | fail)) [x1, hst, b0, b1, hi2, -ld1_newB_same, -List.getD_eq_getElem?_getD] <;> rfl) ?_; try dsimp only [v_zero, v_succ]) | fail)
            (have fx := And.intro o1 (And.intro o3 o4); refine Ans.nx0 ?_; clear fx)
            exact stepN e
          · have e : eSkip Gl t f = false := by rw [hsk]; exact decide_eq_false (by omega)
            repeat' (first | ((with_reducible first | refine Ans.bz ?_ | refine Ans.r1 ?_ | refine Ans.pkT ?_ | refine Ans.pkF ?_); try dsimp only [v_zero, v_succ]) | (with_reducible first | refine Ans.btL ?_ | refine Ans.bfL ?_ | refine Ans.gyT ?_ | refine Ans.gyF ?_ | refine Ans.gyG ?_ | refine Ans.bb ?_ | refine Ans.bc ?_ | refine Ans.ba ?_) | ((with_reducible first | refine Ans.lsT ?_ ?_ | refine Ans.geT ?_ ?_ | refine Ans.eqT ?_ ?_); (focus omega)) | ((with_reducible first | refine Ans.lsF ?_ ?_ | refine Ans.geF ?_ ?_ | refine Ans.eqF ?_ ?_); (focus omega)) | (with_reducible first | refine Ans.lsS (fun _ => ?_) (fun _ => ?_) | refine Ans.geS (fun _ => ?_) (fun _ => ?_) | refine Ans.eqS (fun _ => ?_) (fun _ => ?_)) | ((with_reducible first | refine Ans.addN ?_ ?_ | refine Ans.add ?_ ?_); (focus omega)) | ((with_reducible first | refine Ans.ct ?_ ?_); (focus (simp (disch := (first | omega | with_reducible assumption | (simp <;> omega) | fail)) [x1, hst, b0, b1, hi2, -ld1_newB_same]; done))) | ((with_reducible first | refine Ans.cf ?_ ?_); (focus (simp (disch := (first | omega | with_reducible assumption | (simp <;> omega) | fail)) [x1, hst, b0, b1, hi2, -ld1_newB_same]; done))) | (refine Ans.step (by simp (disch := (first | omega | with_reducible assumption | (simp <;> omega) | fail)) [x1, hst, b0, b1, hi2, -ld1_newB_same, -List.getD_eq_getElem?_getD] <;> rfl) ?_; try dsimp only [v_zero, v_succ]) | fail)
            (have fx := And.intro o1 (And.intro o3 o4); refine Ans.nx0 ?_; clear fx)
            exact stepY e
        · have e : eSkip Gl t f = false := by rw [hsk]; exact decide_eq_false (by omega)
          repeat' (first | ((with_reducible first | refine Ans.bz ?_ | refine Ans.r1 ?_ | refine Ans.pkT ?_ | refine Ans.pkF ?_); try dsimp only [v_zero, v_succ]) | (with_reducible first | refine Ans.btL ?_ | refine Ans.bfL ?_ | refine Ans.gyT ?_ | refine Ans.gyF ?_ | refine Ans.gyG ?_ | refine Ans.bb ?_ | refine Ans.bc ?_ | refine Ans.ba ?_) | ((with_reducible first | refine Ans.lsT ?_ ?_ | refine Ans.geT ?_ ?_ | refine Ans.eqT ?_ ?_); (focus omega)) | ((with_reducible first | refine Ans.lsF ?_ ?_ | refine Ans.geF ?_ ?_ | refine Ans.eqF ?_ ?_); (focus omega)) | (with_reducible first | refine Ans.lsS (fun _ => ?_) (fun _ => ?_) | refine Ans.geS (fun _ => ?_) (fun _ => ?_) | refine Ans.eqS (fun _ => ?_) (fun _ => ?_)) | ((with_reducible first | refine Ans.addN ?_ ?_ | refine Ans.add ?_ ?_); (focus omega)) | ((with_reducible first | refine Ans.ct ?_ ?_); (focus (simp (disch := (first | omega | with_reducible assumption | (simp <;> omega) | fail)) [x1, hst, b0, b1, hi2, -ld1_newB_same]; done))) | ((with_reducible first | refine Ans.cf ?_ ?_); (focus (simp (disch := (first | omega | with_reducible assumption | (simp <;> omega) | fail)) [x1, hst, b0, b1, hi2, -ld1_newB_same]; done))) | (refine Ans.step (by simp (disch := (first | omega | with_reducible assumption | (simp <;> omega) | fail)) [x1, hst, b0, b1, hi2, -ld1_newB_same, -List.getD_eq_getElem?_getD] <;> rfl) ?_; try dsimp only [v_zero, v_succ]) | fail)
          (have fx := And.intro o1 (And.intro o3 o4); refine Ans.nx0 ?_; clear fx)
          exact stepY e
    · have e : eSkip Gl t f = false := by rw [hsk]; exact decide_eq_false (by omega)
      repeat' (first | ((with_reducible first | refine Ans.bz ?_ | refine Ans.r1 ?_ | refine Ans.pkT ?_ | refine Ans.pkF ?_); try dsimp only [v_zero, v_succ]) | (with_reducible first | refine Ans.btL ?_ | refine Ans.bfL ?_ | refine Ans.gyT ?_ | refine Ans.gyF ?_ | refine Ans.gyG ?_ | refine Ans.bb ?_ | refine Ans.bc ?_ | refine Ans.ba ?_) | ((with_reducible first | refine Ans.lsT ?_ ?_ | refine Ans.geT ?_ ?_ | refine Ans.eqT ?_ ?_); (focus omega)) | ((with_reducible first | refine Ans.lsF ?_ ?_ | refine Ans.geF ?_ ?_ | refine Ans.eqF ?_ ?_); (focus omega)) | (with_reducible first | refine Ans.lsS (fun _ => ?_) (fun _ => ?_) | refine Ans.geS (fun _ => ?_) (fun _ => ?_) | refine Ans.eqS (fun _ => ?_) (fun _ => ?_)) | ((with_reducible first | refine Ans.addN ?_ ?_ | refine Ans.add ?_ ?_); (focus omega)) | ((with_reducible first | refine Ans.ct ?_ ?_); (focus (simp (disch := (first | omega | with_reducible assumption | (simp <;> omega) | fail)) [x1, hst, b0, b1, hi2, -ld1_newB_same]; done))) | ((with_reducible first | refine Ans.cf ?_ ?_); (focus (simp (disch := (first | omega | with_reducible assumption | (simp <;> omega) | fail)) [x1, hst, b0, b1, hi2, -ld1_newB_same]; done))) | (refine Ans.step (by simp (disch := (first | omega | with_reducible assumption | (simp <;> omega) | fail)) [x1, hst, b0, b1, hi2, -ld1_newB_same, -List.getD_eq_getElem?_getD] <;> rfl) ?_; try dsimp only [v_zero, v_succ]) | fail)
      (have fx := And.intro o1 (And.intro o3 o4); refine Ans.nx0 ?_; clear fx)
      exact stepY e
theorem tet_loop (s gs : Value) (n nv : Nat) (Gl V : List Int) (h : FH) (c : Nat) (df : List Nat) (hg : SlI h c gs 20 n Gl) (hs : SlI h c s 1 nv V) (hnv : nv = 7 * n) (hn : n ≤ 60) (hV : ∀ j, 0 ≤ gi V j ∧ gi V j ≤ 1000000) (hok : okAll Gl n = true) :
    ∀ (r t : Nat) (a : Int), t + r = n → -500000000000 + (r : Int) * 32000000 ≤ a → a ≤ 500000000000 →
    Ans (G (f15_k15000 none) [s, .int .i64 a, gs, .int .i64 n, .int .i64 t] h c df) fun q => q = { e := .exit 0, vs := [s, .int .i64 (a - sT Gl V r t), gs, .int .i64 n, .int .i64 n], h := h, c := c, df := df } := by
  intro r
  have o1 := hs.okV
  have o2 := hg.okV
  have hG := hg.1
  induction r with
  | zero =>
    intro t a ht h1 h2
    obtain rfl : t = n := by omega
    refine Ans.loop (fun q r => f15_N15000) (fun q => f15_Z15000) ?_
    unfold f15_L15000
    have fx := True.intro
    refine Ans.go ?_
    clear fx
    (have fx := And.intro o1 o2; refine Ans.ex0 ?_; clear fx)
    rw [sT, Int.sub_zero]
  | succ r ih =>
    intro t a ht h1 h2
    have l1 := hg.row t (by omega) (by omega)
    simp only [Int.toNat_natCast] at l1
    have hrl : (rowL Gl t).length = 20 := by unfold rowL; simp [hG]; omega
    have hst : ∀ b, stN (newB h b (List.replicate 20 (.int .i64 0))) 20 (.pointer (some ⟨b, 0, none⟩)) (av (rowL Gl t)) = some (newB h b (ints (rowL Gl t))) := fun b => stN_all _ _ 20 _ _ hrl rfl
    have hst : ∀ b, stN (newB h b [.int .i64 0, .int .i64 0, .int .i64 0, .int .i64 0, .int .i64 0, .int .i64 0, .int .i64 0, .int .i64 0, .int .i64 0, .int .i64 0, .int .i64 0, .int .i64 0, .int .i64 0, .int .i64 0, .int .i64 0, .int .i64 0, .int .i64 0, .int .i64 0, .int .i64 0, .int .i64 0]) 20 (.pointer (some ⟨b, 0, none⟩)) (av (rowL Gl t)) = some (newB h b (ints (rowL Gl t))) := hst
    have lr : ∀ b, ldN (newB h b (ints (rowL Gl t))) 20 (.pointer (some ⟨b, 0, none⟩)) = some (av (rowL Gl t)) := fun b => by
      rw [ldN_newB_same _ _ _ _ _ (by simp [hrl]), List.drop_zero, List.take_of_length_le (by simp [hrl])]; rfl
    have hbnd := sF_bound (Gl := Gl) hV (t := t) (r := 4) (f := 0)
    obtain ⟨H, hH⟩ : ∃ H, newB h (256 * (c + 1) + 3) (ints (rowL Gl t)) = H := ⟨_, rfl⟩
    have sH : Same c h H := by rw [← hH]; intro b hb; rw [newB_f, if_neg (by omega)]
    have hin := Ans.eq (face_loop s n nv Gl V t gs (.int .i64 n) H (c + 1 + 1 + 1) df ((hs.same sH).mono (by omega)) hnv hn hG (by omega) hV hok (o2.mono (by omega)) (by simp) 4 0 a (by omega) (by omega) (by omega))
    simp only [Int.ofNat_eq_natCast, Int.cast_ofNat_Int] at hin
    have hst := hst (256 * (c + 1) + 3)
    have lr := lr (256 * (c + 1) + 3)
    rw [hH] at hst lr
    rw [sT]
    obtain ⟨W, hW⟩ : ∃ W, sF Gl V t 4 0 = W := ⟨_, rfl⟩
    rw [hW] at hin hbnd ⊢
    have htn : (t : Int) < n := by omega
    refine Ans.loop (fun q r => f15_N15000) (fun q => f15_Z15000) ?_
    unfold f15_L15000
    have fx := And.intro hg.ixs (And.intro l1 (And.intro hst (And.intro lr hin)))
    refine Ans.go ?_
    clear fx
    (have fx := And.intro o1 (And.intro o2 sH); refine Ans.nx0 ?_; clear fx)
    rw [show a - (W + sT Gl V r (t + 1)) = a - W - sT Gl V r (t + 1) by omega]
    exact ih (t + 1) (a - W) (by omega) (by omega) (by omega)
end Go.Proofs.Ytcnndelmnobigaa

namespace Go.Proofs.Ytcnndelmnobigaa
open Go Go.Ab Go.Proofs
set_option maxRecDepth 100000
set_option linter.unusedVariables false
set_option linter.unusedSimpArgs false
end Go.Proofs.Ytcnndelmnobigaa

namespace Go.Proofs.Ytcnndelmnobigaa
open Go Go.Ab Go.Proofs
set_option maxRecDepth 100000
set_option linter.unusedVariables false
set_option linter.unusedSimpArgs false
theorem sameB_of {x : Option Nat} {h1 h2 : FH} (e : ∀ i, x = some i → h1.f i = h2.f i) : sameB x h1 h2 = true := by
  cases x with
  | none => rfl
  | some i =>
    show @decide (h1.f i = h2.f i) (Classical.propDecidable _) = true
    exact @decide_eq_true _ (Classical.propDecidable _) (e i rfl)
theorem face_split {x : List Int} (hx : x.length = 5) : x = tetL x :: permL x := by
  match x, hx with
  | [a, b, c, d, e], _ => rfl
end Go.Proofs.Ytcnndelmnobigaa

namespace Go.Proofs.Ytcnndelmnobigaa
open Go Go.Ab Go.Proofs
set_option maxRecDepth 100000
set_option linter.unusedVariables false
set_option linter.unusedSimpArgs false
theorem SlI.up {h : FH} {c c' : Nat} {s : Value} {sz n : Nat} {Gl : List Int} (hs : SlI h c s sz n Gl) (hc : c ≤ c') : SlI h c' s sz n Gl := hs.mono hc
end Go.Proofs.Ytcnndelmnobigaa

namespace Go.Ab
open Go
set_option linter.unusedVariables false
inductive Tri where
  | leaf
  | node (b : Option ABlk) (l r : Tri)
def Tri.get : Tri → Nat → Option ABlk
  | .leaf, _ => none
  | .node b l r, i => cond (Nat.beq i 0) b (cond (Nat.beq (i % 2) 1) (l.get (i / 2)) (r.get (i / 2 - 1)))
def Tri.upd : Nat → Tri → Nat → Option ABlk → Tri
  | 0, t, _, o => match t with
    | .leaf => .node o .leaf .leaf
    | .node _ l r => .node o l r
  | n + 1, t, i, o => match t with
    | .leaf => cond (Nat.beq i 0) (.node o .leaf .leaf) (cond (Nat.beq (i % 2) 1) (.node none (Tri.upd n .leaf (i / 2) o) .leaf) (.node none .leaf (Tri.upd n .leaf (i / 2 - 1) o)))
    | .node b l r => cond (Nat.beq i 0) (.node o l r) (cond (Nat.beq (i % 2) 1) (.node b (Tri.upd n l (i / 2) o) r) (.node b l (Tri.upd n r (i / 2 - 1) o)))
theorem Tri.get_upd : ∀ (n : Nat) (t : Tri) (i : Nat) (o : Option ABlk) (j : Nat), i ≤ n → (Tri.upd n t i o).get j = if j = i then o else t.get j := by
  have key : ∀ (b : Option ABlk) (l r : Tri) (i : Nat), (Tri.node b l r).get i = if i = 0 then b else if i % 2 = 1 then l.get (i / 2) else r.get (i / 2 - 1) := by
    intro b l r i
    simp only [Tri.get]
    by_cases h0 : i = 0
    · subst h0; rfl
    · have : Nat.beq i 0 = false := by rw [Bool.eq_false_iff]; intro h; exact h0 (Nat.eq_of_beq_eq_true h)
      rw [this]
      simp only [h0, if_false, cond_false]
      by_cases h1 : i % 2 = 1
      · simp [h1]
      · have : Nat.beq (i % 2) 1 = false := by rw [Bool.eq_false_iff]; intro h; exact h1 (Nat.eq_of_beq_eq_true h)
        simp [h1, this]
  have leafg : ∀ j, Tri.leaf.get j = none := fun _ => rfl
  intro n
  induction n with
  | zero =>
    intro t i o j hi
    have : i = 0 := by omega
    subst this
    cases t with
    | leaf =>
      simp only [Tri.upd, key, leafg]
      split <;> simp
    | node b l r =>
      simp only [Tri.upd, key]
      by_cases h : j = 0 <;> simp [h]
  | succ n ih =>
    intro t i o j hi
    by_cases h0 : i = 0
    · subst h0
      cases t with
      | leaf =>
        simp only [Tri.upd, Nat.beq_refl, cond_true, key, leafg]
        split <;> simp
      | node b l r =>
        simp only [Tri.upd, Nat.beq_refl, cond_true, key]
        by_cases h : j = 0 <;> simp [h]
    · have hb0 : Nat.beq i 0 = false := by rw [Bool.eq_false_iff]; intro h; exact h0 (Nat.eq_of_beq_eq_true h)
      by_cases h1 : i % 2 = 1
      · have hb1 : Nat.beq (i % 2) 1 = true := by rw [h1]; rfl
        cases t with
        | leaf =>
          simp only [Tri.upd, hb0, hb1, cond_true, cond_false, key, leafg]
          by_cases hj : j = 0
          · subst hj; simp [Ne.symm h0]
          · simp only [hj, if_false]
            by_cases hj1 : j % 2 = 1
            · simp only [hj1, if_true]
              rw [ih _ _ _ _ (by omega), leafg]
              by_cases e : j = i
              · simp [e]
              · rw [if_neg e, if_neg (by omega)]
            · rw [if_neg hj1, if_neg (by omega)]
        | node b l r =>
          simp only [Tri.upd, hb0, hb1, cond_true, cond_false, key]
          by_cases hj : j = 0
          · subst hj; simp [Ne.symm h0]
          · simp only [hj, if_false]
            by_cases hj1 : j % 2 = 1
            · simp only [hj1, if_true]
              rw [ih _ _ _ _ (by omega)]
              by_cases e : j = i
              · simp [e]
              · rw [if_neg e, if_neg (by omega)]
            · rw [if_neg hj1, if_neg (show ¬ j = i by omega), if_neg hj1]
      · have hb1 : Nat.beq (i % 2) 1 = false := by rw [Bool.eq_false_iff]; intro h; exact h1 (Nat.eq_of_beq_eq_true h)
        cases t with
        | leaf =>
          simp only [Tri.upd, hb0, hb1, cond_true, cond_false, key, leafg]
          by_cases hj : j = 0
          · subst hj; simp [Ne.symm h0]
          · simp only [hj, if_false]
            by_cases hj1 : j % 2 = 1
            · rw [if_pos hj1, if_neg (by omega)]
            · rw [if_neg hj1, ih _ _ _ _ (by omega), leafg]
              by_cases e : j = i
              · simp [e]
              · rw [if_neg e, if_neg (by omega)]
        | node b l r =>
          simp only [Tri.upd, hb0, hb1, cond_true, cond_false, key]
          by_cases hj : j = 0
          · subst hj; simp [Ne.symm h0]
          · simp only [hj, if_false]
            by_cases hj1 : j % 2 = 1
            · rw [if_pos hj1, if_neg (show ¬ j = i by omega), if_pos hj1]
            · rw [if_neg hj1, ih _ _ _ _ (by omega)]
              by_cases e : j = i
              · simp [e]
              · rw [if_neg e, if_neg (by omega), if_neg hj1]
def addrEq : Option Addr → Option Addr → Bool
  | none, none => true
  | some ⟨a, b, none⟩, some ⟨c, d, none⟩ => Nat.beq a c && Nat.beq b d
  | _, _ => false
def valEq : Value → Value → Bool
  | .bool a, .bool b => a == b
  | .int k n, .int k' n' => decide (k = k') && n == n'
  | .pointer a, .pointer b => addrEq a b
  | .slice a l c, .slice b l' c' => addrEq a b && Nat.beq l l' && Nat.beq c c'
  | .map (some a), .map (some b) => Nat.beq a b
  | .map none, .map none => true
  | .nilFunc, .nilFunc => true
  | .nilIface, .nilIface => true
  | _, _ => false
def valsEq : List Value → List Value → Bool
  | [], [] => true
  | x :: xs, y :: ys => valEq x y && valsEq xs ys
  | _, _ => false
def optNatEq : Option Nat → Option Nat → Bool
  | none, none => true
  | some a, some b => Nat.beq a b
  | _, _ => false
def blkEq : Option ABlk → Option ABlk → Bool
  | none, none => true
  | some (.cells ro o c), some (.cells ro' o' c') => ro == ro' && optNatEq o o' && valsEq c c'
  | some .dead, some .dead => true
  | some .dfr, some .dfr => true
  | _, _ => false
theorem addrEq_eq {a b : Option Addr} (h : addrEq a b = true) : a = b := by
  unfold addrEq at h
  split at h
  · rfl
  · simp only [Bool.and_eq_true] at h
    rw [Nat.eq_of_beq_eq_true h.1, Nat.eq_of_beq_eq_true h.2]
  · cases h
theorem valEq_eq {a b : Value} (h : valEq a b = true) : a = b := by
  unfold valEq at h
  split at h
  · simp at h; rw [h]
  · simp at h; rw [h.1, h.2]
  · rw [addrEq_eq h]
  · simp only [Bool.and_eq_true] at h
    rw [addrEq_eq h.1.1, Nat.eq_of_beq_eq_true h.1.2, Nat.eq_of_beq_eq_true h.2]
  · rw [Nat.eq_of_beq_eq_true h]
  · rfl
  · rfl
  · rfl
  · cases h
theorem valsEq_eq : ∀ {a b : List Value}, valsEq a b = true → a = b
  | [], [], _ => rfl
  | x :: xs, y :: ys, h => by
    simp only [valsEq, Bool.and_eq_true] at h
    rw [valEq_eq h.1, valsEq_eq h.2]
  | [], y :: ys, h => by cases h
  | x :: xs, [], h => by cases h
theorem optNatEq_eq {a b : Option Nat} (h : optNatEq a b = true) : a = b := by
  unfold optNatEq at h
  split at h
  · rfl
  · rw [Nat.eq_of_beq_eq_true h]
  · cases h
theorem blkEq_eq (a b : Option ABlk) (h : blkEq a b = true) : a = b := by
  unfold blkEq at h
  split at h
  · rfl
  · simp only [Bool.and_eq_true] at h
    have h1 := h.1.1
    rw [optNatEq_eq h.1.2, valsEq_eq h.2]
    simp at h1
    rw [h1]
  · rfl
  · rfl
  · cases h
instance : HeapC Tri where
  get h i := h.get i
  set h i b := Tri.upd i h i (some b)
  del h i := Tri.upd i h i none
  eqB := blkEq
  eqB_eq := blkEq_eq
  get_set h i b j := Tri.get_upd i h i (some b) j (Nat.le_refl _)
  get_del h i j := Tri.get_upd i h i none j (Nat.le_refl _)
end Go.Ab

namespace Go.Ab
open Go
set_option linter.unusedVariables false
noncomputable def tget (t : Tri) : Nat → Option ABlk :=
  Tri.rec (motive := fun _ => Nat → Option ABlk) (fun _ => none)
    (fun b _ _ l r i => cond (Nat.beq i 0) b (cond (Nat.beq (Nat.mod i 2) 1) (l (Nat.div i 2)) (r (Nat.sub (Nat.div i 2) 1)))) t
theorem tget_eq : ∀ (t : Tri) (i : Nat), tget t i = t.get i
  | .leaf, i => rfl
  | .node b l r, i => by
    show cond (Nat.beq i 0) b (cond (Nat.beq (Nat.mod i 2) 1) (tget l (Nat.div i 2)) (tget r (Nat.sub (Nat.div i 2) 1))) = _
    rw [tget_eq l, tget_eq r]
    rfl
noncomputable def tupd (o : Option ABlk) (n : Nat) : Tri → Nat → Tri :=
  Nat.rec (motive := fun _ => Tri → Nat → Tri)
    (fun t _ => Tri.rec (motive := fun _ => Tri) (.node o .leaf .leaf) (fun _ l r _ _ => .node o l r) t)
    (fun _ ih t i => Tri.rec (motive := fun _ => Tri)
      (cond (Nat.beq i 0) (.node o .leaf .leaf) (cond (Nat.beq (Nat.mod i 2) 1) (.node none (ih .leaf (Nat.div i 2)) .leaf) (.node none .leaf (ih .leaf (Nat.sub (Nat.div i 2) 1)))))
      (fun b l r _ _ => cond (Nat.beq i 0) (.node o l r) (cond (Nat.beq (Nat.mod i 2) 1) (.node b (ih l (Nat.div i 2)) r) (.node b l (ih r (Nat.sub (Nat.div i 2) 1))))) t) n
theorem tupd_eq (o : Option ABlk) : ∀ (n : Nat) (t : Tri) (i : Nat), tupd o n t i = Tri.upd n t i o
  | 0, .leaf, i => rfl
  | 0, .node b l r, i => rfl
  | n + 1, .leaf, i => by
    show (cond (Nat.beq i 0) (Tri.node o .leaf .leaf) (cond (Nat.beq (Nat.mod i 2) 1) (Tri.node none (tupd o n .leaf (Nat.div i 2)) .leaf) (Tri.node none .leaf (tupd o n .leaf (Nat.sub (Nat.div i 2) 1))))) = _
    rw [tupd_eq o n, tupd_eq o n]; rfl
  | n + 1, .node b l r, i => by
    show (cond (Nat.beq i 0) (Tri.node o l r) (cond (Nat.beq (Nat.mod i 2) 1) (Tri.node b (tupd o n l (Nat.div i 2)) r) (Tri.node b l (tupd o n r (Nat.sub (Nat.div i 2) 1))))) = _
    rw [tupd_eq o n, tupd_eq o n]; rfl
theorem tget_tupd (t : Tri) (i : Nat) (o : Option ABlk) (j : Nat) : tget (tupd o i t i) j = if j = i then o else tget t j := by
  rw [tget_eq, tget_eq, tupd_eq]
  exact Tri.get_upd i t i o j (Nat.le_refl _)
abbrev RC := List (Nat × Option ABlk)
noncomputable def findA (i : Nat) (rc : RC) : Option (Option ABlk) :=
  List.rec (motive := fun _ => Option (Option ABlk)) none (fun x _ ih => cond (Nat.beq i x.1) (some x.2) ih) rc
noncomputable def replA (i : Nat) (o : Option ABlk) (rc : RC) : RC :=
  List.rec (motive := fun _ => RC) [] (fun x xs ih => cond (Nat.beq i x.1) ((x.1, o) :: xs) (x :: ih)) rc
noncomputable def flushA (rc : RC) (t : Tri) : Tri :=
  List.rec (motive := fun _ => Tri) t (fun x _ ih => tupd x.2 x.1 ih x.1) rc
theorem findA_cons (i : Nat) (x : Nat × Option ABlk) (xs : RC) : findA i (x :: xs) = if i = x.1 then some x.2 else findA i xs := by
  show cond (Nat.beq i x.1) (some x.2) (findA i xs) = _
  cases h : Nat.beq i x.1 with
  | true => rw [if_pos (Nat.eq_of_beq_eq_true h)]; rfl
  | false => rw [if_neg (fun e => by rw [e, Nat.beq_refl] at h; cases h)]; rfl
theorem replA_cons (i : Nat) (o : Option ABlk) (x : Nat × Option ABlk) (xs : RC) : replA i o (x :: xs) = if i = x.1 then (x.1, o) :: xs else x :: replA i o xs := by
  show cond (Nat.beq i x.1) ((x.1, o) :: xs) (x :: replA i o xs) = _
  cases h : Nat.beq i x.1 with
  | true => rw [if_pos (Nat.eq_of_beq_eq_true h)]; rfl
  | false => rw [if_neg (fun e => by rw [e, Nat.beq_refl] at h; cases h)]; rfl
theorem findA_replA (i : Nat) (o : Option ABlk) (j : Nat) : ∀ (rc : RC), findA i rc ≠ none → findA j (replA i o rc) = if j = i then some o else findA j rc
  | [], h => absurd rfl h
  | x :: xs, h => by
    rw [findA_cons] at h
    rw [replA_cons]
    by_cases e : i = x.1
    · rw [if_pos e, findA_cons, findA_cons]
      by_cases e2 : j = x.1
      · rw [if_pos e2, if_pos (e2.trans e.symm)]
      · rw [if_neg e2, if_neg (fun h => e2 (h.trans e)), if_neg e2]
    · rw [if_neg e] at h ⊢
      rw [findA_cons, findA_cons, findA_replA i o j xs h]
      by_cases e2 : j = x.1
      · rw [if_pos e2, if_pos e2, if_neg (fun h => e (h.symm.trans e2))]
      · rw [if_neg e2, if_neg e2]
theorem get_flushA (j : Nat) (t : Tri) : ∀ (rc : RC), tget (flushA rc t) j = (match findA j rc with | some o => o | none => tget t j)
  | [] => rfl
  | x :: xs => by
    show tget (tupd x.2 x.1 (flushA xs t) x.1) j = _
    rw [tget_tupd, findA_cons]
    by_cases e : j = x.1
    · rw [if_pos e, if_pos e]
    · rw [if_neg e, if_neg e, get_flushA j t xs]
structure TH where
  rc : RC
  n : Nat
  old : Tri
noncomputable def TH.put (h : TH) (i : Nat) (o : Option ABlk) : TH :=
  match findA i h.rc with
  | some _ => { rc := replA i o h.rc, n := h.n, old := h.old }
  | none => cond (Nat.blt h.n 24) { rc := (i, o) :: h.rc, n := Nat.add h.n 1, old := h.old } { rc := [(i, o)], n := 1, old := flushA h.rc h.old }
noncomputable def TH.look (h : TH) (i : Nat) : Option ABlk :=
  match findA i h.rc with
  | some o => o
  | none => tget h.old i
theorem TH.look_put (h : TH) (i : Nat) (o : Option ABlk) (j : Nat) : (h.put i o).look j = if j = i then o else h.look j := by
  unfold TH.put TH.look
  cases e : findA i h.rc with
  | some x =>
    dsimp only
    rw [findA_replA i o j h.rc (by rw [e]; simp)]
    by_cases e2 : j = i
    · rw [if_pos e2, if_pos e2]
    · rw [if_neg e2, if_neg e2]
  | none =>
    dsimp only
    cases Nat.blt h.n 24 with
    | true =>
      dsimp only [cond_true]
      rw [findA_cons]
      by_cases e2 : j = i
      · rw [if_pos e2, if_pos e2]
      · rw [if_neg e2, if_neg e2]
    | false =>
      dsimp only [cond_false]
      rw [findA_cons]
      by_cases e2 : j = i
      · rw [if_pos e2, if_pos e2]
      · rw [if_neg e2, if_neg e2]
        exact get_flushA j h.old h.rc
noncomputable instance : HeapC TH where
  get h i := h.look i
  set h i b := h.put i (some b)
  del h i := h.put i none
  eqB := blkEq
  eqB_eq := blkEq_eq
  get_set h i b j := TH.look_put h i (some b) j
  get_del h i j := TH.look_put h i none j
noncomputable def TH.empty : TH := { rc := [], n := 0, old := .leaf }
theorem TH.inv_empty (h : TH) (e : h = TH.empty) (i : Nat) : HeapC.get h i = none := by subst e; rfl
end Go.Ab
