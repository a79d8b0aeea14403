/- Parts of a proof: N3 N4 N5 N6 U4 U5 N7 N8 N9 U6 U7 U8 U9 V1 V2 V3 U10 D1 D2 D3 AbTrie AbHeap. Conditions: none. -/
import Derived.Test.YtcnndelmnobigaaM4
import Derived.Test.YtcnndelmnobigaaM0
set_option linter.all false
namespace Go.Proofs.Ytcnndelmnobigaa
open Go Go.Ab Go.Proofs
set_option maxRecDepth 100000
set_option linter.unusedVariables false
set_option linter.unusedSimpArgs false
variable {y s : Value} {n : Nat} {Gl : List Int} {gb : Nat} {I : List (List Int) → (Nat → Prop) → FH → Nat → Prop} {J : (Nat → Prop) → FH → Nat → Prop}
set_option maxHeartbeats 1000000 in
theorem match_f (hI : MatchI y s n Gl gb I J) (t : Nat) (ht : t < n) (hn : n ≤ 1000000) (hG : Gl.length = n * 20) (v9 v10 : Value) (df : List Nat) :
    ∀ (k f c : Nat) (D : List (List Int)) (O : Nat → Prop) (h : FH), f + k = 4 → (∃ R, D ++ (mF Gl t k f ++ R) = allM Gl n) → I D O h c →
    Ans (G (f77_k77001 none) [y, .int .i64 t, v9, v10, .int .i64 t, av (rowL Gl t), .int .i64 f] h c df) fun r => c ≤ r.c ∧ r.df = df ∧ ∃ O', (∀ b, O' b → O b ∨ 256 * c ≤ b) ∧ (∀ b, b < 256 * c → ¬ O b → r.h.f b = h.f b) ∧
      ((r.e = .exit 2 ∧ r.vs = [y, .int .i64 t, v9, v10, .int .i64 t, av (rowL Gl t), .int .i64 4] ∧ I (D ++ mF Gl t k f) O' r.h r.c) ∨
       (r.e = .ret ∧ (∃ j : Nat, r.vs = [y, .int .i64 t, v9, v10, .int .i64 t, av (rowL Gl t), .int .i64 j]) ∧ J O' r.h r.c)) := by
  intro k
  induction k with
  | zero =>
    intro f c D O h hf hp hI0
    obtain rfl : f = 4 := by omega
    refine Ans.loop' (fun q r => f77_N77001) (fun q => f77_Z77001) ?_
    unfold f77_L77001
    have fx := True.intro
    refine Ans.go ?_
    clear fx
    refine Ans.exitN ⟨(by show c ≤ c + 1; omega), rfl, O, fun b hb => .inl hb, fun b _ _ => rfl, .inl ⟨rfl, rfl, ?_⟩⟩
    rw [mF, List.append_nil]
    exact hI.stab _ _ _ _ _ _ hI0 (by show c ≤ c + 1; omega) (fun b _ => rfl)
  | succ k ih =>
    intro f c D O h hf hp hI0
    obtain ⟨R, hp⟩ := hp
    have hf4 : f < 4 := by omega
    have hfl := faceL_length hG ht hf4
    have hrl := rowL_length hG ht
    have x1 := ixV_avs (rowL Gl t) 4 5 .i64 f (by omega) (by omega) hrl
    rw [Int.toNat_natCast, row_face hf4] at x1
    obtain ⟨H, hH⟩ : ∃ H, H = newB h (256 * (c + 1) + 2) (ints (faceL Gl t f)) := ⟨_, rfl⟩
    have hst : stN (newB h (256 * (c + 1) + 2) [.int .i64 0, .int .i64 0, .int .i64 0, .int .i64 0, .int .i64 0]) 5 (.pointer (some ⟨256 * (c + 1) + 2, 0, none⟩)) (av (faceL Gl t f)) = some H := by rw [hH]; exact stN_all _ _ 5 _ _ hfl rfl
    have hh : Holds H (256 * (c + 1) + 2) (ints (faceL Gl t f)) := by rw [hH]; exact Holds.newB_same _ _ _
    have hs : ∀ b, b < 256 * c → H.f b = h.f b := fun b hb => by rw [hH, newB_f, if_neg (by omega)]
    clear hH
    have m0 : ld1 H (.pointer (some ⟨256 * (c + 1) + 2, 0, none⟩)) = some (.int .i64 (tetL (faceL Gl t f))) := by rw [ld1_holds' hh, ints_getD _ _ (by omega)]; rfl
    have m1 : ld1 H (.pointer (some ⟨256 * (c + 1) + 2, 1 + f, none⟩)) = some (.int .i64 ((permL (faceL Gl t f)).getD f 0)) := by
      rw [ld1_holds' hh, ints_getD _ _ (by omega)]
      unfold permL
      rw [getD_take _ _ _ hf4, getD_drop]
    have hsk : mSkip Gl t f = (decide (tetL (faceL Gl t f) < 0) || decide (tetL (faceL Gl t f) < t) || (decide (tetL (faceL Gl t f) = t) && decide ((permL (faceL Gl t f)).getD f 0 < f))) := rfl
    have skip : ∀ c', c ≤ c' → mSkip Gl t f = true → Ans (G (f77_k77001 none) [y, .int .i64 t, v9, v10, .int .i64 t, av (rowL Gl t), .int .i64 (f + 1 : Nat)] H c' df) fun r => c ≤ r.c ∧ r.df = df ∧ ∃ O', (∀ b, O' b → O b ∨ 256 * c ≤ b) ∧ (∀ b, b < 256 * c → ¬ O b → r.h.f b = h.f b) ∧
        ((r.e = .exit 2 ∧ r.vs = [y, .int .i64 t, v9, v10, .int .i64 t, av (rowL Gl t), .int .i64 4] ∧ I (D ++ mF Gl t (k + 1) f) O' r.h r.c) ∨
         (r.e = .ret ∧ (∃ j : Nat, r.vs = [y, .int .i64 t, v9, v10, .int .i64 t, av (rowL Gl t), .int .i64 j]) ∧ J O' r.h r.c)) := by
      intro c' hc' hk
      refine (ih (f + 1) c' D O H (by omega) ⟨R, by rw [mF, if_pos hk, List.nil_append] at hp; exact hp⟩ (hI.stab _ _ _ _ _ _ hI0 hc' hs)).mono ?_
      rintro r ⟨q1, q2, O', q3, q4, q5⟩
      refine ⟨by omega, q2, O', fun b hb => (q3 b hb).imp id (by omega), fun b h1 h2 => by rw [q4 b (by omega) h2, hs b h1], ?_⟩
      rw [mF, if_pos hk, List.nil_append]
      exact q5
    have inner : ∀ c' : Nat, c + 2 ≤ c' → mSkip Gl t f = false → Ans (G (f77_k77002 none) [y, .int .i64 t, .int .i64 f, ptrTo (256 * (c + 1) + 2), v9, v10, .int .i64 t, av (rowL Gl t), .int .i64 f, .int .i64 0] H c' df) fun r => c' ≤ r.c ∧ r.df = df ∧ ∃ O', (∀ b, O' b → O b ∨ 256 * c' ≤ b) ∧ (∀ b, b < 256 * c' → ¬ O b → r.h.f b = H.f b) ∧
        ((r.e = .exit 4 ∧ r.vs = [y, .int .i64 t, .int .i64 f, ptrTo (256 * (c + 1) + 2), v9, v10, .int .i64 t, av (rowL Gl t), .int .i64 f, .int .i64 4] ∧ I (D ++ mI Gl t f 4 0) O' r.h r.c) ∨
         (r.e = .ret ∧ (∃ j : Nat, r.vs = [y, .int .i64 t, .int .i64 f, ptrTo (256 * (c + 1) + 2), v9, v10, .int .i64 t, av (rowL Gl t), .int .i64 f, .int .i64 j]) ∧ J O' r.h r.c)) := fun c' hc' hk =>
      match_i hI t f ht hf4 hk hG (256 * (c + 1) + 2) (.int .i64 t) v9 v10 (av (rowL Gl t)) (.int .i64 f) df 4 0 c' D O H (by omega) ⟨mF Gl t k (f + 1) ++ R, by rw [mF, if_neg (by rw [hk]; simp)] at hp; simpa using hp⟩ (hI.stab _ _ _ _ _ _ hI0 (by omega) hs) (by omega) (fun ho => by have := hI.own _ _ _ _ hI0 _ ho; omega) hh
    obtain ⟨T, hT⟩ : ∃ T, tetL (faceL Gl t f) = T := ⟨_, rfl⟩
    obtain ⟨Y, hY⟩ : ∃ Y, (permL (faceL Gl t f)).getD f 0 = Y := ⟨_, rfl⟩
    rw [hT] at m0 hsk
    rw [hY] at m1 hsk
    refine Ans.loop' (fun q r => f77_N77001) (fun q => f77_Z77001) ?_
    unfold f77_L77001
    repeat' (first | ((with_reducible first | refine Ans.bz ?_ | refine Ans.r1 ?_ | refine Ans.pkT ?_ | refine Ans.pkF ?_); try dsimp only [v_zero, v_succ]) | (with_reducible first | refine Ans.btL ?_ | refine Ans.bfL ?_ | refine Ans.gyT ?_ | refine Ans.gyF ?_ | refine Ans.gyG ?_ | refine Ans.bb ?_ | refine Ans.bc ?_ | refine Ans.ba ?_) | ((with_reducible first | refine Ans.lsT ?_ ?_ | refine Ans.eqT ?_ ?_); (focus omega)) | ((with_reducible first | refine Ans.lsF ?_ ?_ | refine Ans.eqF ?_ ?_); (focus omega)) | (with_reducible first | refine Ans.lsS (fun _ => ?_) (fun _ => ?_) | refine Ans.eqS (fun _ => ?_) (fun _ => ?_)) | ((with_reducible first | refine Ans.addN ?_ ?_ | refine Ans.add ?_ ?_); (focus omega)) | ((with_reducible first | refine Ans.ct ?_ ?_); (focus (simp (disch := (first | omega | with_reducible assumption | (simp <;> omega) | fail)) [x1, hst, m0, m1]; done))) | ((with_reducible first | refine Ans.cf ?_ ?_); (focus (simp (disch := (first | omega | with_reducible assumption | (simp <;> omega) | fail)) [x1, hst, m0, m1]; done))) | (refine Ans.step (by simp (disch := (first | omega | with_reducible assumption | (simp <;> omega) | fail)) [x1, hst, m0, m1, -List.getD_eq_getElem?_getD] <;> rfl) ?_; try dsimp only [v_zero, v_succ]) | fail)
    all_goals first
      | exact Ans.nextN (skip _ (by omega) (by rw [hsk]; simp [*]))
      | skip
    all_goals
      have hk : mSkip Gl t f = false := by rw [hsk]; simp [*]
      refine Ans.head (inner _ (by omega) hk) ?_
      rintro ⟨re, rv, rh, rc, rd⟩ ⟨q1, q2, O', q3, q4, q5⟩
      simp only at q1 q2 q4 q5
      subst q2
      rcases q5 with ⟨rfl, rfl, q6⟩ | ⟨rfl, ⟨j, rfl⟩, q6⟩
      · have fx := True.intro
        refine Ans.go ?_
        clear fx
        refine Ans.nextN ?_
        refine (ih (f + 1) _ (D ++ mI Gl t f 4 0) O' rh (by omega) ⟨R, by rw [mF, if_neg (by rw [hk]; simp)] at hp; simpa using hp⟩ (hI.stab _ _ _ _ _ _ q6 (by omega) (fun b _ => rfl))).mono ?_
        rintro r ⟨w1, w2, O2, w3, w4, w5⟩
        refine ⟨by omega, w2, O2, fun b hb => ?_, fun b h1 h2 => ?_, ?_⟩
        · rcases w3 b hb with h1 | h1
          · exact (q3 b h1).imp id (by omega)
          · exact .inr (by omega)
        · rw [w4 b (by omega) (fun ho => (q3 b ho).elim h2 (by omega)), q4 b (by omega) h2, hs b h1]
        · rw [mF, if_neg (by rw [hk]; simp)]
          rw [List.append_assoc] at w5
          exact w5
      · have fx := True.intro
        refine Ans.go ?_
        clear fx
        exact Ans.retN ⟨(by show c ≤ rc; omega), rfl, O', fun b hb => (q3 b hb).imp id (by omega), fun b h1 h2 => by show rh.f b = h.f b; rw [q4 b (by omega) h2, hs b h1], .inr ⟨rfl, ⟨f, rfl⟩, q6⟩⟩
set_option maxHeartbeats 1000000 in
theorem match_t (hI : MatchI y s n Gl gb I J) (hn : n ≤ 1000000) (hG : Gl.length = n * 20) (df : List Nat) :
    ∀ (k t c : Nat) (D : List (List Int)) (O : Nat → Prop) (h : FH), t + k = n → D ++ mT Gl k t = allM Gl n → I D O h c →
    Ans (G (f77_k77000 none) [y, s, .int .i64 n, .int .i64 t] h c df) fun r => c ≤ r.c ∧ r.df = df ∧ ∃ O', (∀ b, O' b → O b ∨ 256 * c ≤ b) ∧ (∀ b, b < 256 * c → ¬ O b → r.h.f b = h.f b) ∧
      ((r.e = .exit 0 ∧ I (D ++ mT Gl k t) O' r.h r.c) ∨ (r.e = .ret ∧ J O' r.h r.c)) := by
  intro k
  induction k with
  | zero =>
    intro t c D O h ht hp hI0
    obtain rfl : t = n := by omega
    refine Ans.loop' (fun q r => f77_N77000) (fun q => f77_Z77000) ?_
    unfold f77_L77000
    have fx := True.intro
    refine Ans.go ?_
    clear fx
    refine Ans.exitN ⟨(by show c ≤ c + 1; omega), rfl, O, fun b hb => .inl hb, fun b _ _ => rfl, .inl ⟨rfl, ?_⟩⟩
    rw [mT, List.append_nil]
    exact hI.stab _ _ _ _ _ _ hI0 (by show c ≤ c + 1; omega) (fun b _ => rfl)
  | succ k ih =>
    intro t c D O h ht hp hI0
    have htn : t < n := by omega
    have hrl := rowL_length hG htn
    obtain ⟨hgb, hs0⟩ := hI.read _ _ _ _ hI0
    have l1 := hs0.row t (by omega) (by omega)
    simp only [Int.toNat_natCast] at l1
    obtain ⟨H, hH⟩ : ∃ H, H = newB h (256 * (c + 1) + 3) (ints (rowL Gl t)) := ⟨_, rfl⟩
    have hst : stN (newB h (256 * (c + 1) + 3) [(.int .i64 0), (.int .i64 0), (.int .i64 0), (.int .i64 0), (.int .i64 0), (.int .i64 0), (.int .i64 0), (.int .i64 0), (.int .i64 0), (.int .i64 0), (.int .i64 0), (.int .i64 0), (.int .i64 0), (.int .i64 0), (.int .i64 0), (.int .i64 0), (.int .i64 0), (.int .i64 0), (.int .i64 0), (.int .i64 0)]) 20 (.pointer (some ⟨256 * (c + 1) + 3, 0, none⟩)) (av (rowL Gl t)) = some H := by rw [hH]; exact stN_all _ _ 20 _ _ hrl rfl
    have hld : ldN H 20 (.pointer (some ⟨256 * (c + 1) + 3, 0, none⟩)) = some (av (rowL Gl t)) := by
      rw [hH, ldN_newB_same _ _ _ _ _ (by simp [hrl]), List.drop_zero, List.take_of_length_le (by simp [hrl])]; rfl
    have hs : ∀ b, b < 256 * c → H.f b = h.f b := fun b hb => by rw [hH, newB_f, if_neg (by omega)]
    clear hH
    have inner := match_f hI t htn hn hG s (.int .i64 n) df 4 0 (c + 1 + 1 + 1) D O H (by omega) ⟨mT Gl k (t + 1), by rw [mT] at hp; exact hp⟩ (hI.stab _ _ _ _ _ _ hI0 (by omega) hs)
    refine Ans.loop' (fun q r => f77_N77000) (fun q => f77_Z77000) ?_
    unfold f77_L77000
    have fx := And.intro hs0.ixs (And.intro l1 (And.intro hst hld))
    refine Ans.go ?_
    clear fx
    refine Ans.head inner ?_
    rintro ⟨re, rv, rh, rc, rd⟩ ⟨q1, q2, O', q3, q4, q5⟩
    simp only at q1 q2 q4 q5
    subst q2
    rcases q5 with ⟨rfl, rfl, q6⟩ | ⟨rfl, ⟨j, rfl⟩, q6⟩
    · have fx := True.intro
      refine Ans.go ?_
      clear fx
      refine Ans.nextN ?_
      refine (ih (t + 1) _ (D ++ mF Gl t 4 0) O' rh (by omega) (by rw [mT] at hp; simpa using hp) (hI.stab _ _ _ _ _ _ q6 (by omega) (fun b _ => rfl))).mono ?_
      rintro r ⟨w1, w2, O2, w3, w4, w5⟩
      refine ⟨by omega, w2, O2, fun b hb => ?_, fun b h1 h2 => ?_, ?_⟩
      · rcases w3 b hb with h1 | h1
        · exact (q3 b h1).imp id (by omega)
        · exact .inr (by omega)
      · rw [w4 b (by omega) (fun ho => (q3 b ho).elim h2 (by omega)), q4 b (by omega) h2, hs b h1]
      · rw [mT]
        rw [List.append_assoc] at w5
        exact w5
    · have fx := True.intro
      refine Ans.go ?_
      clear fx
      exact Ans.retN ⟨(by show c ≤ rc; omega), rfl, O', fun b hb => (q3 b hb).imp id (by omega), fun b h1 h2 => by show rh.f b = h.f b; rw [q4 b (by omega) h2, hs b h1], .inr ⟨rfl, q6⟩⟩
theorem matches_sp (hI : MatchI y s n Gl gb I J) (hn : n ≤ 1000000) {O : Nat → Prop} {h : FH} {c : Nat} (hI0 : I [] O h c) (df : List Nat) :
    Ans (G (.fn 77) [y, ptrTo gb] h c df) fun r => r.e = .ret ∧ r.vs = [.tuple #[]] ∧ r.df = [] ∧ c ≤ r.c ∧ ∃ O', (∀ b, O' b → O b ∨ 256 * c ≤ b) ∧ (∀ b, b < 256 * c → ¬ O b → r.h.f b = h.f b) ∧ (I (allM Gl n) O' r.h r.c ∨ J O' r.h r.c) := by
  refine Ans.call' (fun r e => f77_go e) ?_
  obtain ⟨hgb, hs0⟩ := hI.read _ _ _ _ hI0
  have hlen := hs0.len
  have e2 : ld1 h (.pointer (some ⟨gb, 0, none⟩)) = some s := by rw [ld1_holds' hgb]; rfl
  have inner := match_t hI hn hs0.1 [] n 0 (c + 1) [] O h (by omega) rfl (hI.stab _ _ _ _ _ _ hI0 (by omega) (fun b _ => rfl))
  simp only [Int.ofNat_eq_natCast, Int.cast_ofNat_Int] at inner
  unfold f77_S
  have fx := And.intro hlen e2
  refine Ans.go ?_
  clear fx
  refine Ans.head inner ?_
  rintro ⟨re, rv, rh, rc, rd⟩ ⟨q1, q2, O', q3, q4, q5⟩
  simp only at q1 q2 q4 q5
  subst q2
  rcases q5 with ⟨rfl, q6⟩ | ⟨rfl, q6⟩
  · have fx := True.intro
    refine Ans.go ?_
    clear fx
    exact .done ⟨rfl, rfl, rfl, (by show c ≤ rc; omega), O', fun b hb => (q3 b hb).imp id (by omega), fun b h1 h2 => q4 b (by omega) h2, .inl q6⟩
  · have fx := True.intro
    refine Ans.go ?_
    clear fx
    exact .done ⟨rfl, rfl, rfl, (by show c ≤ rc; omega), O', fun b hb => (q3 b hb).imp id (by omega), fun b h1 h2 => q4 b (by omega) h2, .inr q6⟩
end Go.Proofs.Ytcnndelmnobigaa

namespace Go.Proofs.Ytcnndelmnobigaa
open Go Go.Ab Go.Proofs
set_option maxRecDepth 100000
set_option linter.unusedVariables false
set_option linter.unusedSimpArgs false
structure RoundI (s : Value) (n : Nat) (Gl : List Int) (gb l cl : Nat) (st : ALoop) (pe : Option Code) (vs : List Value) (I : List (List Int) → (Nat → Prop) → FH → Nat → Prop) (J : (Nat → Prop) → FH → Nat → Prop) : Prop where
  stab : ∀ D O h c h' c', I D O h c → c ≤ c' → (∀ b, b < 256 * c → b ≠ l → h'.f b = h.f b) → I D O h' c'
  jstab : ∀ O h c h' c', J O h c → c ≤ c' → (∀ b, b < 256 * c → b ≠ l → h'.f b = h.f b) → J O h' c'
  own : ∀ D O h c, I D O h c → ∀ b, O b → b < 256 * c
  ownJ : ∀ O h c, J O h c → ∀ b, O b → b < 256 * c
  read : ∀ D O h c, I D O h c → Holds h gb [s] ∧ SlI h c s 20 n Gl
  step : ∀ D O h c t f i, t < n → f < 4 → i < 4 → i ≠ f → mSkip Gl t f = false → (∃ R, D ++ (mRow Gl t f i :: R) = allM Gl n) → cl ≤ c → I D O h c → h.f l = some (.loop st) →
    Ans (G (.rnd st.nt st.lin st.fr st.params l st.assign st.body) (av (mRow Gl t f i) :: vs) h c []) (fun r => c ≤ r.c ∧ ∃ O', (∀ b, O' b → O b ∨ 256 * c ≤ b) ∧ (∀ b, b < 256 * c → ¬ O b → b ≠ l → r.h.f b = h.f b) ∧
      ((r.vs = [.bool true] ∧ r.h.f l = some (.loop st) ∧ I (D ++ [mRow Gl t f i]) O' r.h r.c) ∨ (r.vs = [.bool false] ∧ r.h.f l = some (.loop { st with state := .done, pending := pe }) ∧ J O' r.h r.c)))
theorem range_matches {s : Value} {n : Nat} {Gl : List Int} {gb nt : Nat} {lin : List Nat} {p : Nat} {a b : ACode} {vs : List Value} {h : FH} {c : Nat} {df : List Nat} {pe : Option Code} {ex : Ex} {I : List (List Int) → (Nat → Prop) → FH → Nat → Prop} {J : (Nat → Prop) → FH → Nat → Prop}
    (hn : n ≤ 1000000) (hp : p < nt) (hex : exOf pe = some ex)
    (hI : RoundI s n Gl gb (256 * c) (c + 1) (entryL nt lin #[p] a b vs (256 * c + 1)) pe vs I J) {O : Nat → Prop} (hO : ∀ b, O b → b < 256 * c)
    (hI0 : I [] O (entryH h c nt lin #[p] a b vs) (c + 1)) :
    Ans (rangeV G nt none lin [] #[p] a b (.func (.func 77) [].toArray [ptrTo gb].toArray) vs h c df) fun q =>
      ∃ rh O', q.2 = (HeapC.del rh (256 * c), q.2.2.1, (256 * c + 1) :: df) ∧ c + 1 ≤ q.2.2.1 ∧ rh.f (256 * c + 1) = some .dfr ∧ (∀ b, O' b → O b ∨ 256 * c ≤ b) ∧ (∀ b, b < 256 * c → ¬ O b → rh.f b = h.f b) ∧
        ((q.1 = .normal ∧ I (allM Gl n) O' rh q.2.2.1) ∨ (q.1 = ex ∧ J O' rh q.2.2.1)) := by
  obtain ⟨st, hst⟩ : ∃ st, st = entryL nt lin #[p] a b vs (256 * c + 1) := ⟨_, rfl⟩
  obtain ⟨l, hl⟩ : ∃ l, l = 256 * c := ⟨_, rfl⟩
  rw [← hst, ← hl] at hI
  have hst1 : st.state = .ready := by rw [hst]; rfl
  have hst2 : st.vals = vs := by rw [hst]; rfl
  have hst4 : st.pending = none := by rw [hst]; rfl
  have hst3 : (Nat.beq [av ([] : List Int)].length st.params.length && nodupB st.params && st.params.all (Nat.blt · st.nt)) = true := by
    have : Nat.blt p nt = true := by rw [Nat.blt_eq]; exact hp
    rw [hst]; simp [entryL, nodupB, this]
  have hM : MatchI (.func (.yield l) #[] #[]) s n Gl gb
      (fun D O h c' => c + 1 ≤ c' ∧ h.f l = some (.loop st) ∧ ∃ O1 : Nat → Prop, (∀ b, O b ↔ O1 b ∨ b = l) ∧ ¬ O1 (l + 1) ∧ I D O1 h c')
      (fun O h c' => c + 1 ≤ c' ∧ h.f l = some (.loop { st with state := .done, pending := pe }) ∧ ∃ O1 : Nat → Prop, (∀ b, O b ↔ O1 b ∨ b = l) ∧ ¬ O1 (l + 1) ∧ J O1 h c') := by
    refine ⟨fun D O h c1 h' c2 ⟨g1, g2, O1, g3, g4, g5⟩ hc hs => ⟨by omega, (hs l (by omega)).trans g2, O1, g3, g4, hI.stab _ _ _ _ _ _ g5 hc (fun b hb _ => hs b hb)⟩,
      fun O h c1 h' c2 ⟨g1, g2, O1, g3, g4, g5⟩ hc hs => ⟨by omega, (hs l (by omega)).trans g2, O1, g3, g4, hI.jstab _ _ _ _ _ g5 hc (fun b hb _ => hs b hb)⟩, ?_, fun D O h c1 ⟨g1, g2, O1, g3, g4, g5⟩ => hI.read _ _ _ _ g5, ?_⟩
    · rintro D O h c1 ⟨g1, g2, O1, g3, g4, g5⟩ b hb
      rcases (g3 b).1 hb with h1 | h1
      · exact hI.own _ _ _ _ g5 b h1
      · omega
    · rintro D O h c1 t f i ht hf hi hif hsk hpre ⟨g1, g2, O1, g3, g4, g5⟩
      refine callV_yield (st := st) g2 hst1 hst3 ?_
      obtain ⟨r, hr, q1, O2, q2, q3, q4⟩ := hI.step D O1 h c1 t f i ht hf hi hif hsk hpre g1 g5 g2
      rw [hst2]
      have k1 : ∀ b, O2 b ∨ b = l → O b ∨ 256 * c1 ≤ b := fun b hb => by
        rcases hb with hb | hb
        · exact (q2 b hb).imp (fun h => (g3 b).2 (.inl h)) id
        · exact .inl ((g3 b).2 (.inr hb))
      have k2 : ∀ b, b < 256 * c1 → ¬ O b → r.h.f b = h.f b := fun b h1 h2 => q3 b h1 (fun ho => h2 ((g3 b).2 (.inl ho))) (fun e => h2 ((g3 b).2 (.inr e)))
      have k3 : ¬ O2 (l + 1) := fun ho => (q2 _ ho).elim g4 (by omega)
      rcases q4 with ⟨w1, w2, w3⟩ | ⟨w1, w2, w3⟩
      · exact .intro hr ⟨_, w1, q1, fun b => O2 b ∨ b = l, k1, k2, .inl ⟨rfl, by show c + 1 ≤ r.c; omega, w2, O2, fun b => Iff.rfl, k3, w3⟩⟩
      · rw [hst2] at w2
        exact .intro hr ⟨_, w1, q1, fun b => O2 b ∨ b = l, k1, k2, .inr ⟨rfl, by show c + 1 ≤ r.c; omega, w2, O2, fun b => Iff.rfl, k3, w3⟩⟩
  have hE0 : (entryH h c nt lin #[p] a b vs).f l = some (.loop st) := by rw [entryH_f, if_pos hl, hst]
  have hE1 : (entryH h c nt lin #[p] a b vs).f (l + 1) = some .dfr := by rw [entryH_f, if_neg (by omega), if_pos (by omega)]
  obtain ⟨⟨re, rv, rh, rc, rd⟩, hr, r1, r2, r3, r4, O', r5, r6, r7⟩ := matches_sp hM hn (O := fun b => O b ∨ b = l) (h := entryH h c nt lin #[p] a b vs) (c := c + 1) ⟨Nat.le_refl _, hE0, O, fun b => Iff.rfl, fun ho => by have := hO _ ho; omega, hI0⟩ []
  simp only at r1 r2 r3 r4 r6 r7
  subst r1 r2 r3
  have d1 : rh.f (l + 1) = some .dfr := by rw [r6 (l + 1) (by omega) (fun ho => ho.elim (fun h => by have := hO _ h; omega) (by omega)), hE1]
  have fr : ∀ b, b < 256 * c → ¬ O b → rh.f b = h.f b := fun b h1 h2 => by
    rw [r6 b (by omega) (fun ho => ho.elim h2 (by omega)), entryH_f, if_neg (by omega), if_neg (by omega)]
  rw [hl] at hr
  have own1 : ∀ O1 : Nat → Prop, (∀ b, O' b ↔ O1 b ∨ b = l) → ∀ b, O1 b → b ≠ l → O b ∨ 256 * (c + 1) ≤ b := fun O1 g3 b hb hne => by
    rcases r5 b ((g3 b).2 (.inl hb)) with h1 | h1
    · exact .inl (h1.resolve_right hne)
    · exact .inr h1
  rcases r7 with ⟨g1, g2, O1, g3, g4, g5⟩ | ⟨g1, g2, O1, g3, g4, g5⟩
  · refine (rangeV_of (Q := fun q => q = (.normal, HeapC.del rh (256 * c), rc, (256 * c + 1) :: df)) (.intro hr ⟨st, .normal, by rw [← hl]; exact g2, by rw [hst1]; simp, by rw [hst4]; rfl, rfl⟩)).mono ?_
    rintro _ rfl
    exact ⟨rh, O1, rfl, g1, by rw [← hl]; exact d1, fun b hb => by
      by_cases e : b = l
      · exact .inr (by omega)
      · exact (own1 O1 g3 b hb e).imp id (by omega), fr, .inl ⟨rfl, g5⟩⟩
  · refine (rangeV_of (Q := fun q => q = (ex, HeapC.del rh (256 * c), rc, (256 * c + 1) :: df)) (.intro hr ⟨_, ex, by rw [← hl]; exact g2, by simp, hex, rfl⟩)).mono ?_
    rintro _ rfl
    exact ⟨rh, O1, rfl, g1, by rw [← hl]; exact d1, fun b hb => by
      by_cases e : b = l
      · exact .inr (by omega)
      · exact (own1 O1 g3 b hb e).imp id (by omega), fr, .inr ⟨rfl, g5⟩⟩
end Go.Proofs.Ytcnndelmnobigaa

namespace Go.Proofs.Ytcnndelmnobigaa
open Go Go.Ab Go.Proofs
set_option maxRecDepth 100000
set_option linter.unusedVariables false
set_option linter.unusedSimpArgs false
structure ChI (s v : Value) (n nv : Nat) (Gl V : List Int) (gb vb rb cb : Nat) (D : List (List Int)) (O : Nat → Prop) (h : FH) (c : Nat) : Prop where
  lc : cb ≤ c
  own : O = fun b => b = rb
  g : Holds h gb [s]
  sl : SlI h cb s 20 n Gl
  vv : Holds h vb [v]
  vs : SlI h cb v 1 nv V
  res : h.f rb = some (.cells false none [.int .i64 0])
  ok : ∀ m ∈ D, eqM V m = true
structure ChJ (n : Nat) (Gl V : List Int) (rb cb : Nat) (O : Nat → Prop) (h : FH) (c : Nat) : Prop where
  lc : cb ≤ c
  own : O = fun b => b = rb
  res : h.f rb = some (.cells false none [.int .i64 130])
  bad : (allM Gl n).all (fun m => eqM V m) = false
set_option maxHeartbeats 1000000 in
theorem check_round (s v : Value) (n nv : Nat) (Gl V : List Int) (gb vb rb cb l : Nat) (st : ALoop) (hst : st.state = .ready) (hst2 : st.pending = none) (hok : okAll Gl n = true) (hn : n ≤ 60) (hnv : nv = 7 * n) (hW : withinB V = true)
    (hgb : gb < 256 * cb) (hvb : vb < 256 * cb) (hrb : rb < 256 * cb) (hl : l < 256 * cb) (h1 : l ≠ gb) (h2 : l ≠ vb) (h3 : l ≠ rb) (h4 : 256 * cb ≤ 256 * cb) (hvr : vb ≠ rb) (hgr : gb ≠ rb) (hls : 0 < n → blkOf s ≠ l ∧ blkOf s ≠ rb) (hlv : 0 < n → blkOf v ≠ l ∧ blkOf v ≠ rb)
    {D : List (List Int)} {O : Nat → Prop} {h : FH} {c t f i : Nat} (ht : t < n) (hf : f < 4) (hi : i < 4) (hif : i ≠ f) (hsk : mSkip Gl t f = false) (hI : ChI s v n nv Gl V gb vb rb cb D O h c) (hlp : h.f l = some (.loop st)) :
    Ans (f47_R47002 G l (av (mRow Gl t f i)) (ptrTo rb) (ptrTo vb) h c) (fun r => c ≤ r.c ∧ ∃ O', (∀ b, O' b → O b ∨ 256 * c ≤ b) ∧ (∀ b, b < 256 * c → ¬ O b → b ≠ l → r.h.f b = h.f b) ∧
      ((r.vs = [.bool true] ∧ r.h.f l = some (.loop st) ∧ ChI s v n nv Gl V gb vb rb cb (D ++ [mRow Gl t f i]) O' r.h r.c) ∨
       (r.vs = [.bool false] ∧ r.h.f l = some (.loop { st with state := .done, pending := some .ret }) ∧ ChJ n Gl V rb cb O' r.h r.c))) := by
  have hlc := hI.lc
  have hG := hI.sl.1
  obtain ⟨k1, k2, k3⟩ := mRow_ok hok hG ht hf hi hif hsk
  have hmem := allM_mem (Gl := Gl) (n := n) ht hf hi hif hsk
  have hpf := range24 k3 hf
  have hpi := range24 k3 hi
  have hpn := ne24 k3 hi hf hif
  have heq : eqM V (mRow Gl t f i) = decide (arcV V t f i = arcV V (tetL (faceL Gl t f)) ((permL (faceL Gl t f)).getD f 0) ((permL (faceL Gl t f)).getD i 0)) := rfl
  have m0 : (mRow Gl t f i).getD 0 0 = t := rfl
  have m1 : (mRow Gl t f i).getD 1 0 = f := rfl
  have m2 : (mRow Gl t f i).getD 2 0 = i := rfl
  have m3 : (mRow Gl t f i).getD 3 0 = tetL (faceL Gl t f) := rfl
  have m4 : (mRow Gl t f i).getD 4 0 = (permL (faceL Gl t f)).getD f 0 := rfl
  have m5 : (mRow Gl t f i).getD 5 0 = (permL (faceL Gl t f)).getD i 0 := rfl
  have ml : (mRow Gl t f i).length = 6 := rfl
  obtain ⟨M, hM⟩ : ∃ M, mRow Gl t f i = M := ⟨_, rfl⟩
  obtain ⟨U, hU⟩ : ∃ U, tetL (faceL Gl t f) = U := ⟨_, rfl⟩
  obtain ⟨Y, hY⟩ : ∃ Y, (permL (faceL Gl t f)).getD f 0 = Y := ⟨_, rfl⟩
  obtain ⟨Z, hZ⟩ : ∃ Z, (permL (faceL Gl t f)).getD i 0 = Z := ⟨_, rfl⟩
  rw [hM] at heq m0 m1 m2 m3 m4 m5 ml hmem ⊢
  rw [hU] at k1 k2 m3 heq
  rw [hY] at hpf m4 heq hpn
  rw [hZ] at hpi m5 heq hpn
  have hn0 : 0 < n := by omega
  obtain ⟨ls1, ls2⟩ := hls hn0
  obtain ⟨lv1, lv2⟩ := hlv hn0
  have bs := hI.sl.blk hn0
  have bv := hI.vs.blk (by omega)
  obtain ⟨H, hH⟩ : ∃ H, H = HeapC.set (newB h (256 * c) (ints M)) l (.loop { st with state := .busy }) := ⟨_, rfl⟩
  have hb : beginSt (newB h (256 * c) (ints M)) l = some H := by
    rw [hH]
    exact beginSt_of (by rw [get_newB_ne _ _ _ _ (by omega)]; exact hlp) hst
  have r0 : ∀ j, j < 256 * c → j ≠ l → H.f j = h.f j := by
    intro j hj hne
    rw [hH, set_f, if_neg hne, newB_f, if_neg (by omega)]
  have hA : Holds H (256 * c) (ints M) := by rw [hH]; exact ((Holds.newB_same h _ _).set_ne (by omega))
  have rd : ∀ j : Nat, j < 6 → ld1 H (.pointer (some ⟨256 * c, j, none⟩)) = some (.int .i64 (M.getD j 0)) := fun j hj => by rw [ld1_holds' hA, ints_getD _ _ (by omega)]
  have a0 := rd 0 (by omega)
  have a1 := rd 1 (by omega)
  have a2 := rd 2 (by omega)
  have a3 := rd 3 (by omega)
  have a4 := rd 4 (by omega)
  have a5 := rd 5 (by omega)
  rw [m0] at a0
  rw [m1] at a1
  rw [m2] at a2
  rw [m3] at a3
  rw [m4] at a4
  rw [m5] at a5
  have lv : ld1 H (.pointer (some ⟨vb, 0, none⟩)) = some v := by rw [ld1_holds' (hI.vv.eqf (r0 vb (by omega) (Ne.symm h2)))]; rfl
  have hsv : SlI H cb v 1 nv V := hI.vs.keep (fun _ => r0 _ (by omega) lv1)
  have hV : ∀ j : Nat, j < nv → -1000000000000 ≤ gi V j ∧ gi V j ≤ 1000000000000 := fun j _ => by have := withinB_at hW j; omega
  have q1 := fun c' (hc : cb ≤ c') => callF_of (arcs_sp v nv V (t : Int) f i H c' [] (hsv.mono hc) (by omega) (by omega) (by omega) (by omega) (by omega) (by omega) (by omega) (by omega) hV)
  have q2 := fun c' (hc : cb ≤ c') => callF_of (arcs_sp v nv V U Y Z H c' [] (hsv.mono hc) (by omega) (by omega) (by omega) (by omega) (by omega) (by omega) (by omega) hpn hV)
  obtain ⟨A, hA1⟩ : ∃ A, arcV V t f i = A := ⟨_, rfl⟩
  obtain ⟨B, hB1⟩ : ∃ B, arcV V U Y Z = B := ⟨_, rfl⟩
  rw [hA1] at q1 heq
  rw [hB1] at q2 heq
  have hst6 : stN (newB h (256 * c) [.int .i64 0, .int .i64 0, .int .i64 0, .int .i64 0, .int .i64 0, .int .i64 0]) 6 (.pointer (some ⟨256 * c, 0, none⟩)) (av M) = some (newB h (256 * c) (ints M)) := stN_all _ _ 6 _ _ ml rfl
  have hres : HeapC.get H rb = some (.cells false none [.int .i64 0]) := (r0 rb (by omega) (Ne.symm h3)).trans hI.res
  have w1 := st1_get (v := .int .i64 130) (o := 0) hres (by simp) rfl rfl
  have sT : setState H l .ready none = some (HeapC.set H l (.loop st)) := by
    rw [hH, setState_set, set_set]
    congr 3
    rw [← hst, ← hst2]
  have sF : setState (HeapC.set H rb (.cells false none [.int .i64 130])) l .done (some .ret) = some (HeapC.set (HeapC.set H l (.loop { st with state := .done, pending := some .ret })) rb (.cells false none [.int .i64 130])) := by
    rw [setState_set_ne _ _ _ _ _ _ h3, hH, setState_set, set_set]
    rfl
  clear hH
  unfold f47_R47002
  repeat' (first | ((with_reducible first | refine Ans.bz ?_ | refine Ans.r1 ?_ | refine Ans.pkT ?_ | refine Ans.pkF ?_); try dsimp only [v_zero, v_succ]) | (with_reducible first | refine Ans.btL ?_ | refine Ans.bfL ?_ | refine Ans.gyT ?_ | refine Ans.gyF ?_ | refine Ans.gyG ?_ | refine Ans.bb ?_ | refine Ans.bc ?_ | refine Ans.ba ?_) | ((with_reducible first | refine Ans.neT ?_ ?_); (focus omega)) | ((with_reducible first | refine Ans.neF ?_ ?_); (focus omega)) | (with_reducible first | refine Ans.neS (fun _ => ?_) (fun _ => ?_)) | ((with_reducible first | refine Ans.ct ?_ ?_); (focus (simp (disch := (first | omega | with_reducible assumption | (simp <;> omega) | fail)) [hst6, hb, lv, a0, a1, a2, a3, a4, a5, q1, q2, w1, sT, sF]; done))) | ((with_reducible first | refine Ans.cf ?_ ?_); (focus (simp (disch := (first | omega | with_reducible assumption | (simp <;> omega) | fail)) [hst6, hb, lv, a0, a1, a2, a3, a4, a5, q1, q2, w1, sT, sF]; done))) | (refine Ans.step (by simp (disch := (first | omega | with_reducible assumption | (simp <;> omega) | fail)) [hst6, hb, lv, a0, a1, a2, a3, a4, a5, q1, q2, w1, sT, sF, -List.getD_eq_getElem?_getD] <;> rfl) ?_; try dsimp only [v_zero, v_succ]) | fail)
  · rename_i hne
    refine .done ⟨(by show c ≤ c + 1 + 1 + 1; omega), O, fun b hb => .inl hb, fun b g1 g2 g3 => ?_, .inr ⟨rfl, ?_, ?_⟩⟩
    · rw [hI.own] at g2
      show (HeapC.set _ _ _ : FH).f b = _
      rw [set_f, if_neg g2, set_f, if_neg g3, r0 b g1 g3]
    · show (HeapC.set _ _ _ : FH).f l = _
      rw [set_f, if_neg h3, set_f, if_pos rfl]
    · refine ⟨by show cb ≤ c + 1 + 1 + 1; omega, hI.own, ?_, ?_⟩
      · show (HeapC.set _ _ _ : FH).f rb = _
        rw [set_f, if_pos rfl]
      · rw [← Bool.not_eq_true, List.all_eq_true]
        intro hall
        have := hall M hmem
        rw [heq] at this
        exact hne (by simpa using this)
  · rename_i heq'
    refine .done ⟨(by show c ≤ c + 1 + 1; omega), O, fun b hb => .inl hb, fun b g1 g2 g3 => ?_, .inl ⟨rfl, ?_, ?_⟩⟩
    · show (HeapC.set _ _ _ : FH).f b = _
      rw [set_f, if_neg g3, r0 b g1 g3]
    · show (HeapC.set _ _ _ : FH).f l = _
      rw [set_f, if_pos rfl]
    · have e : ∀ b, b < 256 * c → b ≠ l → (HeapC.set H l (.loop st)).f b = h.f b := fun b g1 g3 => by rw [set_f, if_neg g3, r0 b g1 g3]
      refine ⟨by show cb ≤ c + 1 + 1; omega, hI.own, hI.g.eqf (e gb (by omega) (Ne.symm h1)), hI.sl.keep (fun _ => e _ (by omega) ls1), hI.vv.eqf (e vb (by omega) (Ne.symm h2)), hI.vs.keep (fun _ => e _ (by omega) lv1), (e rb (by omega) (Ne.symm h3)).trans hI.res, fun m hm => ?_⟩
      rcases List.mem_append.1 hm with hm | hm
      · exact hI.ok m hm
      · rw [List.mem_singleton.1 hm, heq]
        simpa using heq'
end Go.Proofs.Ytcnndelmnobigaa

namespace Go.Proofs.Ytcnndelmnobigaa
open Go Go.Ab Go.Proofs
set_option maxRecDepth 100000
set_option linter.unusedVariables false
set_option linter.unusedSimpArgs false
theorem check_quads (s v v15 v17 : Value) (n nv : Nat) (Gl V : List Int) (gb vb rb c : Nat) (v16 : Value) (h : FH) (hn : n ≤ 60) (hnv : nv = 7 * n) (hgb : gb < 256 * c) (hvb : vb < 256 * c) (hrb : rb < 256 * c)
    (hv : Holds h vb [v]) (hs : SlI h c v 1 nv V) (hx : 0 < n → SlX h v 1 nv) (hres : h.f rb = some (.cells false none [.int .i64 0])) (o1 : OkV c v15) (o2 : OkV c v16) (o3 : OkV c v17) (df : List Nat) :
    ∀ (k t : Nat), t + k = n → Ans (G (f47_k47001 none) [ptrTo gb, ptrTo rb, ptrTo vb, v15, v16, v17, .int .i64 n, .int .i64 t] h c df) fun r => r.c = c ∧ r.df = df ∧
      ((r.e = .exit 2 ∧ r.vs = [ptrTo gb, ptrTo rb, ptrTo vb, v15, v16, v17, .int .i64 n, .int .i64 n] ∧ r.h = h ∧ ∀ u, t ≤ u → u < n → areQ (quadAt V u) = true) ∨
       (r.e = .ret ∧ r.vs = [ptrTo gb, ptrTo rb, ptrTo vb, v15, v16, v17, .int .i64 n, r.v 7] ∧ r.h = HeapC.set h rb (.cells false none [.int .i64 130]) ∧ ∃ u, u < n ∧ areQ (quadAt V u) = false)) := by
  intro k
  have lv : ld1 h (.pointer (some ⟨vb, 0, none⟩)) = some v := by rw [ld1_holds' hv]; rfl
  induction k with
  | zero =>
    intro t ht
    obtain rfl : t = n := by omega
    refine Ans.loop (fun q r => f47_N47001) (fun q => f47_Z47001) ?_
    unfold f47_L47001
    have fx := True.intro
    refine Ans.go ?_
    clear fx
    (have fx := And.intro hgb (And.intro hvb (And.intro hrb (And.intro o1 (And.intro o2 o3)))); refine Ans.ex0 ?_; clear fx)
    exact ⟨rfl, rfl, .inl ⟨rfl, rfl, rfl, fun u h1 h2 => by omega⟩⟩
  | succ k ih =>
    intro t ht
    have x1 := SlX.sub hs (hx (by omega)) .i64 .i64 (7 * (t : Int) + 4) (7 * (t : Int) + 7) (by omega) (by omega) (by omega) (by omega)
    rw [show (7 * (t : Int) + 4).toNat = 7 * t + 4 by omega, show (7 * (t : Int) + 7).toNat = 7 * t + 7 by omega] at x1
    have x2 := SlI.sub hs (7 * t + 4) (7 * t + 7) (by omega) (by omega) (by omega)
    rw [show 7 * t + 7 - (7 * t + 4) = 3 by omega, Nat.mul_one, Nat.mul_one] at x2
    have c1 := fun c' (hc : c ≤ c') => callF_of (areQ_sp _ 3 _ h c' [] (x2.mono hc) (by omega))
    rw [show (V.drop (7 * t + 4)).take 3 = quadAt V t from rfl] at c1
    have w1 := st1_get (v := .int .i64 130) (o := 0) (show HeapC.get h rb = _ from hres) (by simp) rfl rfl
    refine Ans.loop (fun q r => f47_N47001) (fun q => f47_Z47001) ?_
    unfold f47_L47001
    cases hq : areQ (quadAt V t) with
    | true =>
      rw [hq] at c1
      have fx := And.intro lv (And.intro x1 c1)
      refine Ans.go ?_
      clear fx
      (have fx := And.intro hgb (And.intro hvb (And.intro hrb (And.intro o1 (And.intro o2 o3)))); refine Ans.nx0 ?_; clear fx)
      refine (ih (t + 1) (by omega)).mono ?_
      rintro r ⟨q1, q2, q3⟩
      refine ⟨q1, q2, q3.imp (fun ⟨a, b, d, e⟩ => ⟨a, b, d, fun u u1 u2 => ?_⟩) id⟩
      by_cases hu : u = t
      · rw [hu]; exact hq
      · exact e u (by omega) u2
    | false =>
      rw [hq] at c1
      have fx := And.intro lv (And.intro x1 (And.intro c1 w1))
      refine Ans.go ?_
      clear fx
      (have fx := And.intro hgb (And.intro hvb (And.intro hrb (And.intro o1 (And.intro o2 o3)))); refine Ans.rtB (B := HeapC.set h rb (.cells false none [.int .i64 130])) ?_ ?_; exact Upto.set hrb (OkVs.ints _ [130]) (Upto.refl _ _); clear fx)
      exact ⟨rfl, rfl, .inr ⟨rfl, rfl, rfl, t, by omega, hq⟩⟩
theorem matches_call (s : Value) (h : FH) (c : Nat) (hf : isFlat s = true) : callF G 59 [.agg #[s]] h c = some (.func (.func 77) [].toArray [ptrTo (256 * c)].toArray, newB h (256 * c) [s], c + 1 + 1) := by
  refine callF_of (f59_go (r := { e := .ret, vs := [_], h := _, c := _, df := [] }) ?_)
  unfold f59_S
  rw [flat1 hf, cell1]
  simp
theorem check_roundI (s v : Value) (n nv : Nat) (Gl V : List Int) (gb vb rb l cb : Nat) (hok : okAll Gl n = true) (hn : n ≤ 60) (hnv : nv = 7 * n) (hW : withinB V = true)
    (hgb : gb < 256 * cb) (hvb : vb < 256 * cb) (hrb : rb < 256 * cb) (hl : l < 256 * cb) (h1 : l ≠ gb) (h2 : l ≠ vb) (h3 : l ≠ rb) (hvr : vb ≠ rb) (hgr : gb ≠ rb) (hls : 0 < n → blkOf s ≠ l ∧ blkOf s ≠ rb) (hlv : 0 < n → blkOf v ≠ l ∧ blkOf v ≠ rb) :
    RoundI s n Gl gb l cb (entryL 71 [4, 7] #[52] f47_a47002 f47_c47002 [ptrTo rb, ptrTo vb] (l + 1)) (some .ret) [ptrTo rb, ptrTo vb] (ChI s v n nv Gl V gb vb rb cb) (ChJ n Gl V rb cb) where
  stab := fun D O h c h' c' hi hc hs => by
    have := hi.lc
    exact ⟨by omega, hi.own, hi.g.eqf (hs _ (by omega) (Ne.symm h1)), hi.sl.keep (fun hp => hs _ (by have := hi.sl.blk hp; omega) (hls hp).1), hi.vv.eqf (hs _ (by omega) (Ne.symm h2)), hi.vs.keep (fun hp => hs _ (by have := hi.vs.blk hp; omega) (hlv (by omega)).1), (hs _ (by omega) (Ne.symm h3)).trans hi.res, hi.ok⟩
  jstab := fun O h c h' c' hj hc hs => by
    have := hj.lc
    exact ⟨by omega, hj.own, (hs _ (by omega) (Ne.symm h3)).trans hj.res, hj.bad⟩
  own := fun D O h c hi b hb => by
    have := hi.lc
    rw [hi.own] at hb
    subst hb; omega
  ownJ := fun O h c hj b hb => by
    have := hj.lc
    rw [hj.own] at hb
    subst hb; omega
  read := fun D O h c hi => ⟨hi.g, hi.sl.mono hi.lc⟩
  step := fun D O h c t f i ht hf hi hif hsk _ hc hI hlp => by
    obtain ⟨r, hr, hq⟩ := check_round s v n nv Gl V gb vb rb cb l _ rfl rfl hok hn hnv hW hgb hvb hrb hl h1 h2 h3 (Nat.le_refl _) hvr hgr hls hlv ht hf hi hif hsk hI hlp
    exact ⟨r, f47_G47002 hr, hq⟩
theorem admB_iff {Gl V : List Int} {n : Nat} : admB Gl n V = true ↔ V.length = 7 * n ∧ withinB V = true ∧ (∀ t, t < n → areQ (quadAt V t) = true) ∧ (allM Gl n).all (fun m => eqM V m) = true := by
  simp [admB, and_assoc]
set_option maxHeartbeats 2000000 in
theorem check_lists (s : Value) (n : Nat) (Gl : List Int) (ss : List Value) (Vs : Nat → List Int) (nvs : Nat → Nat) (gb rb sb cb : Nat) (h0 : FH) (hn : n ≤ 60) (hok : okAll Gl n = true) (hgb : gb < 256 * cb) (hrb : rb < 256 * cb) (hsb : sb < 256 * cb) (hgr : gb ≠ rb) (hsr : sb ≠ rb)
    (hg : Holds h0 gb [s]) (hsl : SlI h0 cb s 20 n Gl) (hsrb : 0 < n → blkOf s ≠ rb) (hh : Holds h0 sb ss) (hl : ss.length ≤ 1000) (hnv : ∀ j, nvs j ≤ 1000000)
    (hV : ∀ j, j < ss.length → SlI h0 cb (ss.getD j undef) 1 (nvs j) (Vs j) ∧ SlX h0 (ss.getD j undef) 1 (nvs j) ∧ (0 < nvs j → blkOf (ss.getD j undef) ≠ rb)) :
    ∀ (k j c : Nat) (H : FH) (df : List Nat), j + k = ss.length → cb ≤ c → (∀ b, b < 256 * cb → b ≠ rb → H.f b = h0.f b) → H.f rb = some (.cells false none [.int .i64 0]) → df.Nodup → (∀ d ∈ df, H.f d = some .dfr ∧ 256 * cb ≤ d ∧ d < 256 * c) →
    Ans (G (f47_k47000 none) [ptrTo gb, ptrTo rb, .slice (some ⟨sb, 0, none⟩) ss.length ss.length, .int .i64 ss.length, .int .i64 j] H c df) fun r => c ≤ r.c ∧ r.v 1 = ptrTo rb ∧ (∀ b, b < 256 * cb → b ≠ rb → r.h.f b = h0.f b) ∧ r.df.Nodup ∧ (∀ d ∈ r.df, r.h.f d = some .dfr ∧ 256 * cb ≤ d) ∧
      ((r.e = .exit 0 ∧ r.h.f rb = some (.cells false none [.int .i64 0]) ∧ ∀ i, j ≤ i → i < ss.length → admB Gl n (Vs i) = true) ∨
       (r.e = .ret ∧ r.h.f rb = some (.cells false none [.int .i64 130]) ∧ ∃ i, i < ss.length ∧ admB Gl n (Vs i) = false)) := by
  intro k
  induction k with
  | zero =>
    intro j c H df hj hc hH hres hnd hd
    obtain rfl : j = ss.length := by omega
    refine Ans.loop' (fun q r => f47_N47000) (fun q => f47_Z47000) ?_
    unfold f47_L47000
    have fx := True.intro
    refine Ans.go ?_
    clear fx
    exact Ans.exitN ⟨(by show c ≤ c + 1; omega), rfl, hH, hnd, fun d h => ⟨(hd d h).1, (hd d h).2.1⟩, .inl ⟨rfl, hres, fun i h1 h2 => by omega⟩⟩
  | succ k ih =>
    intro j c H df hj hc hH hres hnd hd
    have hjl : j < ss.length := by omega
    obtain ⟨hv0, hx0, hvr⟩ := hV j hjl
    have hnvj := hnv j
    obtain ⟨v, hvv⟩ : ∃ v, ss.getD j undef = v := ⟨_, rfl⟩
    obtain ⟨V, hVV⟩ : ∃ V, Vs j = V := ⟨_, rfl⟩
    obtain ⟨nv, hnn⟩ : ∃ nv, nvs j = nv := ⟨_, rfl⟩
    rw [hvv] at hv0 hx0 hvr
    rw [hVV, hnn] at hv0
    rw [hnn] at hx0 hvr hnvj
    have hvj : ss[j]? = some v := by rw [← hvv]; simp [List.getD, List.getElem?_eq_getElem hjl]
    have hvf := hv0.flat
    have hss : Holds H sb ss := hh.eqf (hH sb hsb hsr)
    have l1 : ld1 H (.pointer (some ⟨sb, j, none⟩)) = some v := by rw [ld1_holds' hss, hvj]
    obtain ⟨M, hM⟩ : ∃ M, M = newB H (256 * (c + 1) + 2) [v] := ⟨_, rfl⟩
    have hst : stN (newB H (256 * (c + 1) + 2) [.slice none 0 0]) 1 (.pointer (some ⟨256 * (c + 1) + 2, 0, none⟩)) v = some M := by
      rw [hM]
      obtain ⟨_, _, a, cap, rfl, _⟩ := hv0
      exact st1_sl _ _ _ _ _ _ _ (by simp)
    have fM : ∀ b, b < 256 * (c + 1) → M.f b = H.f b := fun b hb => by rw [hM, newB_f, if_neg (by omega)]
    have hMv : Holds M (256 * (c + 1) + 2) [v] := by rw [hM]; exact Holds.newB_same _ _ _
    clear hM
    have l2 : ld1 M (.pointer (some ⟨256 * (c + 1) + 2, 0, none⟩)) = some v := by rw [ld1_holds' hMv]; rfl
    have hMg : Holds M gb [s] := hg.eqf ((fM gb (by omega)).trans (hH gb hgb hgr))
    have l3 : ld1 M (.pointer (some ⟨gb, 0, none⟩)) = some s := by rw [ld1_holds' hMg]; rfl
    have l4 := hsl.len
    have l5 := hv0.len
    have hresM : M.f rb = some (.cells false none [.int .i64 0]) := (fM rb (by omega)).trans hres
    have hMv0 : SlI M cb v 1 nv V := hv0.keep (fun hp => by
      have h1 := hv0.blk hp
      rw [fM _ (by omega), hH _ h1 (hvr hp)])
    have wM := st1_get (v := .int .i64 130) (o := 0) (show HeapC.get M rb = _ from hresM) (by simp) rfl rfl
    have cw := fun c' (hc' : cb ≤ c') => callF_of (within_sp v nv V M c' [] (hMv0.mono hc') (by omega))
    have bad : ∀ c' : Nat, c ≤ c' → admB Gl n V = false → Ans (some { e := Ex.ret, vs := [ptrTo gb, ptrTo rb, .slice (some ⟨sb, 0, none⟩) ss.length ss.length, .int .i64 ss.length, .int .i64 j], h := HeapC.set M rb (.cells false none [.int .i64 130]), c := c', df := df }) (fun q => Lk G (f47_k47000 none) (fun r => c ≤ r.c ∧ r.v 1 = ptrTo rb ∧ (∀ b, b < 256 * cb → b ≠ rb → r.h.f b = h0.f b) ∧ r.df.Nodup ∧ (∀ d ∈ r.df, r.h.f d = some .dfr ∧ 256 * cb ≤ d) ∧
      ((r.e = .exit 0 ∧ r.h.f rb = some (.cells false none [.int .i64 0]) ∧ ∀ i, j ≤ i → i < ss.length → admB Gl n (Vs i) = true) ∨
       (r.e = .ret ∧ r.h.f rb = some (.cells false none [.int .i64 130]) ∧ ∃ i, i < ss.length ∧ admB Gl n (Vs i) = false))) q) := fun c' hc' hb => by
      refine Ans.retN ⟨hc', rfl, fun b h1 h2 => ?_, hnd, fun d hd' => ⟨?_, (hd d hd').2.1⟩, .inr ⟨rfl, ?_, j, hjl, by rw [hVV]; exact hb⟩⟩
      · show (HeapC.set _ _ _ : FH).f b = _
        rw [set_f, if_neg h2, fM b (by omega), hH b h1 h2]
      · have := hd d hd'
        show (HeapC.set _ _ _ : FH).f d = _
        rw [set_f, if_neg (by omega), fM d (by omega), this.1]
      · show (HeapC.set _ _ _ : FH).f rb = _
        rw [set_f, if_pos rfl]
    refine Ans.loop' (fun q r => f47_N47000) (fun q => f47_Z47000) ?_
    unfold f47_L47000
    by_cases hlen : nv = 7 * n
    case neg =>
      have hb : admB Gl n V = false := by
        rw [← Bool.not_eq_true, admB_iff]
        rintro ⟨h1, _⟩
        have := hv0.1
        omega
      have hne : ¬ ((nv : Int) = 7 * n) := by omega
      have fx := And.intro l1 (And.intro hst (And.intro l2 (And.intro l3 (And.intro l4 (And.intro l5 wM)))))
      refine Ans.go ?_
      clear fx
      exact bad _ (by omega) hb
    have heq : ((nv : Int) = 7 * n) := by omega
    cases hW : withinB V with
    | false =>
      have hb : admB Gl n V = false := by
        rw [← Bool.not_eq_true, admB_iff]
        rintro ⟨_, h1, _⟩
        rw [hW] at h1; cases h1
      rw [hW] at cw
      have fx := And.intro l1 (And.intro hst (And.intro l2 (And.intro l3 (And.intro l4 (And.intro l5 (And.intro wM cw))))))
      refine Ans.go ?_
      clear fx
      exact bad _ (by omega) hb
    | true =>
      rw [hW] at cw
      have fx := And.intro l1 (And.intro hst (And.intro l2 (And.intro l3 (And.intro l4 (And.intro l5 cw)))))
      refine Ans.go ?_
      clear fx
      have hq := check_quads s v (.slice (some ⟨sb, 0, none⟩) ss.length ss.length) (.int .i64 j) n nv Gl V gb (256 * (c + 1) + 2) rb (c + 1 + 1 + 1 + 1) (.int .i64 ss.length) M hn (by omega) (by omega) (by omega) (by omega) hMv (hMv0.mono (by omega))
        (fun hn0 => by
          have hb0 := hv0.blk (by omega)
          have e1 : M.f (blkOf v) = h0.f (blkOf v) := by rw [fM _ (by omega), hH _ hb0 (hvr (by omega))]
          obtain ⟨q1, q2⟩ := hx0
          refine ⟨q1, ?_⟩
          obtain ⟨_, _, a, cap, rfl, hc4⟩ := hv0
          rcases hc4 with ⟨e, _⟩ | ⟨b, o, cs, rfl, _, _, _⟩
          · omega
          · simp only [adrOf, szOk, blkOf_sl] at q2 e1 ⊢
            have : HeapC.get M b = HeapC.get h0 b := e1
            rw [this]; exact q2)
        hresM (OkV.sl (by omega)) (OkV.int _ _ _) (OkV.int _ _ _) df n 0 (by omega)
      simp only [Int.ofNat_eq_natCast, Int.cast_ofNat_Int] at hq
      obtain ⟨⟨re, rv, rh, rc, rd⟩, hr, r1, r2, r3⟩ := hq
      simp only at r1 r2 r3
      subst r1 r2
      rcases r3 with ⟨rfl, rfl, rfl, hqs⟩ | ⟨rfl, hrv, rfl, u, u1, u2⟩
      case inr =>
        have hb : admB Gl n V = false := by
          rw [← Bool.not_eq_true, admB_iff]
          rintro ⟨_, _, h1, _⟩
          rw [h1 u u1] at u2; cases u2
        rw [hrv] at hr
        have fx := hr
        refine Ans.go ?_
        clear fx
        exact bad _ (by omega) hb
      have l6 := ldN1_own hMg
      have cm := matches_call s rh (c + 1 + 1 + 1 + 1 + 1) hsl.flat
      have fx := And.intro hr (And.intro l6 cm)
      refine Ans.go ?_
      clear fx
      obtain ⟨N, hN⟩ : ∃ N, N = newB rh (256 * (c + 1 + 1 + 1 + 1 + 1)) [s] := ⟨_, rfl⟩
      rw [← hN]
      have fN : ∀ b, b < 256 * (c + 1 + 1 + 1 + 1 + 1) → N.f b = rh.f b := fun b hb => by rw [hN, newB_f, if_neg (by omega)]
      have gN : N.f (256 * (c + 1 + 1 + 1 + 1 + 1)) = some (.cells false none [s]) := by rw [hN, newB_f, if_pos rfl]
      clear hN
      have hI := check_roundI s v n nv Gl V (256 * (c + 1 + 1 + 1 + 1 + 1)) (256 * (c + 1) + 2) rb (256 * (c + 1 + 1 + 1 + 1 + 1 + 1 + 1)) (c + 1 + 1 + 1 + 1 + 1 + 1 + 1 + 1) hok hn (by omega) hW (by omega) (by omega) (by omega) (by omega) (by omega) (by omega) (by omega) (by omega) (by omega)
        (fun hp => ⟨by have := hsl.blk hp; omega, hsrb hp⟩) (fun hp => ⟨by have := hv0.blk (by omega); omega, hvr (by omega)⟩)
      have hE : ∀ b, b < 256 * (c + 1 + 1 + 1 + 1 + 1 + 1 + 1) → (entryH N (c + 1 + 1 + 1 + 1 + 1 + 1 + 1) 71 [4, 7] #[52] f47_a47002 f47_c47002 [ptrTo rb, ptrTo (256 * (c + 1) + 2)]).f b = N.f b := fun b hb => by
        rw [entryH_f, if_neg (by omega), if_neg (by omega)]
      have hI0 : ChI s v n nv Gl V (256 * (c + 1 + 1 + 1 + 1 + 1)) (256 * (c + 1) + 2) rb (c + 1 + 1 + 1 + 1 + 1 + 1 + 1 + 1) [] (fun b => b = rb) (entryH N (c + 1 + 1 + 1 + 1 + 1 + 1 + 1) 71 [4, 7] #[52] f47_a47002 f47_c47002 [ptrTo rb, ptrTo (256 * (c + 1) + 2)]) (c + 1 + 1 + 1 + 1 + 1 + 1 + 1 + 1) := by
        refine ⟨Nat.le_refl _, rfl, ⟨false, none, ?_⟩, (hsl.keep (fun hp => ?_)).mono (by omega), hMv.eqf ?_, (hv0.keep (fun hp => ?_)).mono (by omega), ?_, fun m hm => by cases hm⟩
        · show (entryH _ _ _ _ _ _ _ _ : FH).f _ = _
          rw [hE _ (by omega), gN]
        · have h1 := hsl.blk hp
          rw [hE _ (by omega), fN _ (by omega), fM _ (by omega), hH _ h1 (hsrb hp)]
        · rw [hE _ (by omega), fN _ (by omega)]
        · have h1 := hv0.blk hp
          rw [hE _ (by omega), fN _ (by omega), fM _ (by omega), hH _ h1 (hvr hp)]
        · rw [hE _ (by omega), fN _ (by omega), hresM]
      refine Ans.head (range_matches (by omega) (by omega) rfl hI (O := fun b => b = rb) (fun b hb => by subst hb; omega) hI0) ?_
      rintro ⟨qe, qh, qc, qd⟩ ⟨qr, O', e1, e2, e3, e4, e5, e6⟩
      simp only [Prod.mk.injEq] at e1
      obtain ⟨rfl, -, rfl⟩ := e1
      simp only at e2 e6
      have keep1 : ∀ b, b < 256 * cb → b ≠ rb → (HeapC.del qr (256 * (c + 1 + 1 + 1 + 1 + 1 + 1 + 1)) : FH).f b = h0.f b := fun b h1 h2 => by
        rw [del_f, if_neg (by omega), e5 b (by omega) h2, fN _ (by omega), fM _ (by omega), hH b h1 h2]
      have nd : ((256 * (c + 1 + 1 + 1 + 1 + 1 + 1 + 1) + 1) :: rd : List Nat).Nodup := List.nodup_cons.2 ⟨fun hm => by have := (hd _ hm).2.2; omega, hnd⟩
      have dd : ∀ d ∈ (256 * (c + 1 + 1 + 1 + 1 + 1 + 1 + 1) + 1) :: rd, (HeapC.del qr (256 * (c + 1 + 1 + 1 + 1 + 1 + 1 + 1)) : FH).f d = some .dfr ∧ 256 * cb ≤ d ∧ d < 256 * (c + 1 + 1 + 1 + 1 + 1 + 1 + 1 + 1) := fun d hm => by
        rcases List.mem_cons.1 hm with rfl | hm
        · exact ⟨by rw [del_f, if_neg (by omega)]; exact e3, by omega, by omega⟩
        · obtain ⟨d1, d2, d3⟩ := hd d hm
          exact ⟨by rw [del_f, if_neg (by omega), e5 d (by omega) (by show ¬ d = rb; omega), fN _ (by omega), fM _ (by omega), d1], d2, by omega⟩
      rcases e6 with ⟨rfl, hi⟩ | ⟨rfl, hj'⟩
      · have fx := True.intro
        refine Ans.go ?_
        clear fx
        refine Ans.nextN ?_
        have hgood : admB Gl n V = true := admB_iff.2 ⟨by have := hv0.1; omega, hW, fun t ht => hqs t (by omega) ht, List.all_eq_true.2 hi.ok⟩
        refine (ih (j + 1) (qc + 1) (HeapC.del qr (256 * (c + 1 + 1 + 1 + 1 + 1 + 1 + 1))) ((256 * (c + 1 + 1 + 1 + 1 + 1 + 1 + 1) + 1) :: rd) (by omega) (by omega) keep1 (by rw [del_f, if_neg (by omega)]; exact hi.res) nd (fun d hm => by
          obtain ⟨d1, d2, d3⟩ := dd d hm
          exact ⟨d1, d2, by omega⟩)).mono ?_
        rintro r ⟨w1, w2, w3, w4, w5, w6⟩
        refine ⟨by omega, w2, w3, w4, w5, w6.imp (fun ⟨a, b, d⟩ => ⟨a, b, fun i i1 i2 => ?_⟩) id⟩
        by_cases hij : i = j
        · rw [hij, hVV]; exact hgood
        · exact d i (by omega) i2
      · have fx := True.intro
        refine Ans.go ?_
        clear fx
        have hb : admB Gl n V = false := by
          rw [← Bool.not_eq_true, admB_iff]
          rintro ⟨_, _, _, h1⟩
          rw [hj'.bad] at h1; cases h1
        refine Ans.retN ⟨(by show c ≤ qc; omega), rfl, keep1, nd, fun d hm => ⟨(dd d hm).1, (dd d hm).2.1⟩, .inr ⟨rfl, ?_, j, hjl, by rw [hVV]; exact hb⟩⟩
        show (HeapC.del _ _ : FH).f rb = _
        rw [del_f, if_neg (by omega)]
        exact hj'.res
end Go.Proofs.Ytcnndelmnobigaa

namespace Go.Proofs.Ytcnndelmnobigaa
open Go Go.Ab Go.Proofs
set_option maxRecDepth 100000
set_option linter.unusedVariables false
set_option linter.unusedSimpArgs false
def eIn (p : List Int) (t f i : Nat) (u : Int) : Nat → Nat → List Int → List Int
  | 0, _, L => L
  | r + 1, k, L => eIn p t f i u r (k + 1) (if k = f ∨ k = i then L else joinL L (6 * (t : Int) + edN i k).toNat (6 * u + edN (p.getD i 0) (p.getD k 0)).toNat)
theorem eIn_down {p : List Int} (hp : p ∈ p24) {t f i n : Nat} {u : Int} (ht : t < n) (hi : i < 4) (hu : 0 ≤ u) (hun : u < n) : ∀ {r k : Nat} {L : List Int}, k + r = 4 → Down L (6 * n) → Down (eIn p t f i u r k L) (6 * n)
  | 0, _, _, _, h => h
  | r + 1, k, L, hk, h => by
    rw [eIn]
    refine eIn_down hp ht hi hu hun (by omega) ?_
    split
    · exact h
    · rename_i hne
      have hne' : i ≠ k := fun e => hne (.inr e.symm)
      have a1 := edN_range (i := (i : Int)) (j := (k : Int)) (by omega) (by omega) (by omega) (by omega) (by omega)
      have b1 := range24 hp hi
      have b2 := range24 hp (i := k) (by omega)
      have a2 := edN_range b1.1 b1.2 b2.1 b2.2 (ne24 hp hi (by omega) hne')
      exact joinL_down h (by omega) (by omega)
def vStep (L M : List Int) : List Int := joinL L (4 * M.getD 0 0 + M.getD 2 0).toNat (4 * M.getD 3 0 + M.getD 5 0).toNat
def eStep (Gl : List Int) (L M : List Int) : List Int := eIn (permL (faceL Gl (M.getD 0 0).toNat (M.getD 1 0).toNat)) (M.getD 0 0).toNat (M.getD 1 0).toNat (M.getD 2 0).toNat (M.getD 3 0) 4 0 L
def vCl (n : Nat) (D : List (List Int)) : List Int := D.foldl vStep (startL (4 * n))
def eCl (Gl : List Int) (n : Nat) (D : List (List Int)) : List Int := D.foldl (eStep Gl) (startL (6 * n))
theorem vCl_snoc (n : Nat) (D : List (List Int)) (M : List Int) : vCl n (D ++ [M]) = vStep (vCl n D) M := by simp [vCl]
theorem eCl_snoc (Gl : List Int) (n : Nat) (D : List (List Int)) (M : List Int) : eCl Gl n (D ++ [M]) = eStep Gl (eCl Gl n D) M := by simp [eCl]
theorem newB_self {h : FH} {b : Nat} {cs : List Value} (e : h.f b = some (.cells false none cs)) : newB h b cs = h := by
  apply FH.ext; intro j
  rw [newB_f]
  split
  · rename_i hj; rw [hj, e]
  · rfl
theorem sameB_self (x : Option Nat) (H : FH) : sameB x H H = true := sameB_of fun i _ => rfl
theorem edges_loop (h0 : FH) (eb sb ub mb pb n c l : Nat) (p M : List Int) (t f i : Nat) (u : Int) (df : List Nat) (hn : n ≤ 60) (hp : p ∈ p24) (ht : t < n) (hf : f < 4) (hi : i < 4) (hu : 0 ≤ u) (hun : u < n)
    (he : eb < 256 * c) (hs : sb < 256 * c) (hub : ub < 256 * c) (hm : mb < 256 * c) (hpb : pb < 256 * c) (n1 : eb ≠ ub) (n2 : sb ≠ ub) (n3 : mb ≠ ub) (n4 : pb ≠ ub)
    (ge : Holds h0 eb [ptrTo sb]) (gs : h0.f sb = some (.cells false none [.slice (some ⟨ub, 0, none⟩) (6 * n) (6 * n)])) (gm : Holds h0 mb (ints M)) (gp : Holds h0 pb (ints p)) (hM : M.length = 6) (m0 : M.getD 0 0 = t) (m1 : M.getD 1 0 = f) (m2 : M.getD 2 0 = i) (m3 : M.getD 3 0 = u) :
    ∀ (r k : Nat) (L : List Int), k + r = 4 → Down L (6 * n) →
    Ans (G (f44_k44001 (some l)) [ptrTo eb, ptrTo mb, ptrTo pb, .int .i64 k] (newB h0 ub (ints L)) c df) fun q => q = { e := .exit 2, vs := [ptrTo eb, ptrTo mb, ptrTo pb, .int .i64 4], h := newB h0 ub (ints (eIn p t f i u r k L)), c := c, df := df } := by
  intro r
  induction r with
  | zero =>
    intro k L hk hd
    obtain rfl : k = 4 := by omega
    refine Ans.loop (fun q r => f44_N44001) (fun q => f44_Z44001) ?_
    unfold f44_L44001
    have fx := True.intro
    refine Ans.go ?_
    clear fx
    (have fx := And.intro he (And.intro hm hpb); refine Ans.ex0 ?_; clear fx)
    rfl
  | succ r ih =>
    intro k L hk hd
    obtain ⟨H, hH⟩ : ∃ H, newB h0 ub (ints L) = H := ⟨_, rfl⟩
    have gm' : Holds H mb (ints M) := by rw [← hH]; exact gm.newB_ne n3
    have gp' : Holds H pb (ints p) := by rw [← hH]; exact gp.newB_ne n4
    have hl := len24 hp
    have q1 : ld1 H (.pointer (some ⟨mb, 1, none⟩)) = some (.int .i64 f) := by rw [ld1_holds' gm', ints_getD _ _ (by omega), m1]
    have q2 : ld1 H (.pointer (some ⟨mb, 2, none⟩)) = some (.int .i64 i) := by rw [ld1_holds' gm', ints_getD _ _ (by omega), m2]
    have hkf : (k : Int) < 4 := by omega
    rw [eIn]
    by_cases h1 : k = f
    · subst h1
      rw [if_pos (.inl rfl)]
      rw [hH]
      refine Ans.loop (fun q r => f44_N44001) (fun q => f44_Z44001) ?_
      unfold f44_L44001
      have fx := And.intro q1 q2
      refine Ans.go ?_
      clear fx
      (have fx := And.intro he (And.intro hm hpb); refine Ans.nx0 ?_; clear fx)
      rw [← hH]
      exact ih (k + 1) L (by omega) hd
    by_cases h2 : k = i
    · subst h2
      rw [if_pos (.inr rfl)]
      rw [hH]
      have h1' : ¬ ((k : Int) = f) := by omega
      refine Ans.loop (fun q r => f44_N44001) (fun q => f44_Z44001) ?_
      unfold f44_L44001
      have fx := And.intro q1 q2
      refine Ans.go ?_
      clear fx
      (have fx := And.intro he (And.intro hm hpb); refine Ans.nx0 ?_; clear fx)
      rw [← hH]
      exact ih (k + 1) L (by omega) hd
    · rw [if_neg (by rintro (h | h); exact h1 h; exact h2 h)]
      have h1' : ¬ ((k : Int) = f) := by omega
      have h2' : ¬ ((k : Int) = i) := by omega
      have q0 : ld1 H (.pointer (some ⟨mb, 0, none⟩)) = some (.int .i64 t) := by rw [ld1_holds' gm', ints_getD _ _ (by omega), m0]
      have q3 : ld1 H (.pointer (some ⟨mb, 3, none⟩)) = some (.int .i64 u) := by rw [ld1_holds' gm', ints_getD _ _ (by omega), m3]
      have qe : ld1 H (.pointer (some ⟨eb, 0, none⟩)) = some (ptrTo sb) := by rw [← hH, ld1_newB_ne _ _ _ _ _ n1, ld1_holds' ge]; rfl
      have b1 := range24 hp hi
      have b2 := range24 hp (i := k) (by omega)
      have b3 := ne24 hp hi (j := k) (by omega) (fun e => h2 e.symm)
      have p1 : ld1 H (.pointer (some ⟨pb, i, none⟩)) = some (.int .i64 (p.getD i 0)) := by rw [ld1_holds' gp', ints_getD _ _ (by omega)]
      have p2 : ld1 H (.pointer (some ⟨pb, k, none⟩)) = some (.int .i64 (p.getD k 0)) := by rw [ld1_holds' gp', ints_getD _ _ (by omega)]
      have a1 := edN_range (i := (i : Int)) (j := (k : Int)) (by omega) (by omega) (by omega) (by omega) (by omega)
      have a2 := edN_range b1.1 b1.2 b2.1 b2.2 b3
      obtain ⟨E1, hE1⟩ : ∃ E : Nat, edN i k = E := ⟨(edN i k).toNat, by omega⟩
      obtain ⟨X, hX⟩ : ∃ X, p.getD i 0 = X := ⟨_, rfl⟩
      obtain ⟨Y, hY⟩ : ∃ Y, p.getD k 0 = Y := ⟨_, rfl⟩
      rw [hX] at p1 b1
      rw [hY] at p2 b2
      rw [hX, hY] at a2 ⊢
      obtain ⟨E2, hE2⟩ : ∃ E : Nat, edN X Y = E := ⟨(edN X Y).toNat, by omega⟩
      obtain ⟨U, rfl⟩ : ∃ U : Nat, u = U := ⟨u.toNat, by omega⟩
      have c1 := fun c' => callF_edge (i : Int) k H c'
      have c2 := fun c' => callF_edge X Y H c'
      rw [hE1] at a1 c1 ⊢
      rw [hE2] at a2 c2 ⊢
      rw [show (6 * (t : Int) + E1).toNat = 6 * t + E1 by omega, show (6 * (U : Int) + E2).toNat = 6 * U + E2 by omega]
      have uf : Uf H sb ub (6 * n) L := by
        rw [← hH]
        exact ⟨by rw [newB_f, if_neg n2]; exact gs, by rw [newB_f, if_pos rfl], n2, hd, by omega⟩
      have hj : ∀ c', c ≤ c' → callF G 72 [.pointer (some ⟨sb, 0, none⟩), .int .i64 (6 * (t : Int) + E1), .int .i64 (6 * (U : Int) + E2)] H c' = some (.tuple #[], newB H ub (ints (joinL L (6 * t + E1) (6 * U + E2))), c') := fun c' hc => by
        have := callF_of (join_sp H sb ub (6 * n) c' L uf (by omega) (by omega) (6 * t + E1) (6 * U + E2) (by omega) (by omega) [])
        simpa [ptrTo] using this
      rw [hH]
      refine Ans.loop (fun q r => f44_N44001) (fun q => f44_Z44001) ?_
      unfold f44_L44001
      have fx := And.intro q0 (And.intro q1 (And.intro q2 (And.intro q3 (And.intro qe (And.intro p1 (And.intro p2 (And.intro c1 (And.intro c2 (And.intro hj sameB_self)))))))))
      refine Ans.go ?_
      clear fx
      (have fx := And.intro he (And.intro hm hpb); refine Ans.nxB (B := newB H ub (ints (joinL L (6 * t + E1) (6 * U + E2)))) ?_ ?_; exact Upto.old hub (OkVs.ints _ _) (Upto.refl _ _); clear fx)
      rw [← hH, newB_newB]
      exact ih (k + 1) _ (by omega) (joinL_down hd (by omega) (by omega))
end Go.Proofs.Ytcnndelmnobigaa

namespace Go.Proofs.Ytcnndelmnobigaa
open Go Go.Ab Go.Proofs
set_option maxRecDepth 100000
set_option linter.unusedVariables false
set_option linter.unusedSimpArgs false
structure ClI (s : Value) (n : Nat) (Gl : List Int) (gb g2 vc vs vu ec es eu c0 cb : Nat) (D : List (List Int)) (O : Nat → Prop) (h : FH) (c : Nat) : Prop where
  lc : cb ≤ c
  g : Holds h gb [s]
  gg : Holds h g2 [s]
  sl : SlI h c0 s 20 n Gl
  pv : Holds h vc [ptrTo vs]
  pe : Holds h ec [ptrTo es]
  uv : Uf h vs vu (4 * n) (vCl n D)
  ue : Uf h es eu (6 * n) (eCl Gl n D)
  own : O = fun b => b = vu ∨ b = eu
set_option maxHeartbeats 2000000 in
theorem cl_round (s : Value) (n : Nat) (Gl : List Int) (gb g2 vc vs vu ec es eu c0 cb l : Nat) (st : ALoop) (hst : st.state = .ready) (hst2 : st.pending = none) (hok : okAll Gl n = true) (hn : n ≤ 60)
    (hgb : gb < 256 * c0) (hg2 : g2 < 256 * cb) (hl : l < 256 * cb) (hc0 : c0 ≤ cb) (hvc : vc < 256 * cb) (hvs : vs < 256 * cb) (hvu : vu < 256 * cb) (hec : ec < 256 * cb) (hes : es < 256 * cb) (heu : eu < 256 * cb)
    (hgl : gb ≠ l) (hn1 : gb ≠ vu ∧ gb ≠ eu ∧ g2 ≠ vu ∧ g2 ≠ eu ∧ vc ≠ vu ∧ vc ≠ eu ∧ ec ≠ vu ∧ ec ≠ eu ∧ vs ≠ eu ∧ es ≠ vu ∧ vu ≠ eu) (hn2 : l ≠ g2 ∧ l ≠ vc ∧ l ≠ vs ∧ l ≠ vu ∧ l ≠ ec ∧ l ≠ es ∧ l ≠ eu) (hls : 0 < n → blkOf s ≠ l ∧ blkOf s ≠ vu ∧ blkOf s ≠ eu)
    {D : List (List Int)} {O : Nat → Prop} {h : FH} {c t f i : Nat} (ht : t < n) (hf : f < 4) (hi : i < 4) (hif : i ≠ f) (hsk : mSkip Gl t f = false) (hI : ClI s n Gl gb g2 vc vs vu ec es eu c0 cb D O h c) (hlp : h.f l = some (.loop st)) :
    Ans (f44_R44000 G l (av (mRow Gl t f i)) (ptrTo gb) (ptrTo vc) (ptrTo ec) h c) (fun r => c ≤ r.c ∧ ∃ O', (∀ b, O' b → O b ∨ 256 * c ≤ b) ∧ (∀ b, b < 256 * c → ¬ O b → b ≠ l → r.h.f b = h.f b) ∧
      (r.vs = [.bool true] ∧ r.h.f l = some (.loop st) ∧ ClI s n Gl gb g2 vc vs vu ec es eu c0 cb (D ++ [mRow Gl t f i]) O' r.h r.c)) := by
  have hlc := hI.lc
  have hG := hI.sl.1
  obtain ⟨k1, k2, k3⟩ := mRow_ok hok hG ht hf hi hif hsk
  have hpf := range24 k3 hf
  have hpi := range24 k3 hi
  have m0 : (mRow Gl t f i).getD 0 0 = t := rfl
  have m1 : (mRow Gl t f i).getD 1 0 = f := rfl
  have m2 : (mRow Gl t f i).getD 2 0 = i := rfl
  have m3 : (mRow Gl t f i).getD 3 0 = tetL (faceL Gl t f) := rfl
  have m4 : (mRow Gl t f i).getD 4 0 = (permL (faceL Gl t f)).getD f 0 := rfl
  have m5 : (mRow Gl t f i).getD 5 0 = (permL (faceL Gl t f)).getD i 0 := rfl
  have ml : (mRow Gl t f i).length = 6 := rfl
  have hfl := faceL_length hG ht hf
  have hpl := permL_length hfl
  have es1 := eCl_snoc Gl n D (mRow Gl t f i)
  have vs1 := vCl_snoc n D (mRow Gl t f i)
  obtain ⟨M, hM⟩ : ∃ M, mRow Gl t f i = M := ⟨_, rfl⟩
  obtain ⟨U, hU⟩ : ∃ U : Nat, tetL (faceL Gl t f) = U := ⟨(tetL (faceL Gl t f)).toNat, by omega⟩
  obtain ⟨Z, hZ⟩ : ∃ Z : Nat, (permL (faceL Gl t f)).getD i 0 = Z := ⟨((permL (faceL Gl t f)).getD i 0).toNat, by omega⟩
  rw [hM] at m0 m1 m2 m3 m4 m5 ml es1 vs1 ⊢
  rw [hU] at k1 k2 m3
  rw [hZ] at hpi m5
  unfold eStep at es1
  rw [m0, m1, m2, m3, Int.toNat_natCast, Int.toNat_natCast, Int.toNat_natCast] at es1
  unfold vStep at vs1
  rw [m0, m2, m3, m5, show (4 * (t : Int) + i).toNat = 4 * t + i by omega, show (4 * (U : Int) + Z).toNat = 4 * U + Z by omega] at vs1
  obtain ⟨F, hF⟩ : ∃ F, faceL Gl t f = F := ⟨_, rfl⟩
  rw [hF] at k3 hfl hpl es1 m4
  have hn0 : 0 < n := by omega
  obtain ⟨ls1, ls2, ls3⟩ := hls hn0
  have bs := hI.sl.blk hn0
  obtain ⟨d1, d2, d3, d4, d5, d6, d7, d8, d9, d10, d11⟩ := hn1
  obtain ⟨x1, x2, x3, x4, x5, x6, x7⟩ := hn2
  obtain ⟨H, hH⟩ : ∃ H, H = HeapC.set (newB h (256 * c) (ints M)) l (.loop { st with state := .busy }) := ⟨_, rfl⟩
  have hb : beginSt (newB h (256 * c) (ints M)) l = some H := by
    rw [hH]
    exact beginSt_of (by rw [get_newB_ne _ _ _ _ (by omega)]; exact hlp) hst
  have r0 : ∀ j, j < 256 * c → j ≠ l → H.f j = h.f j := by
    intro j hj hne
    rw [hH, set_f, if_neg hne, newB_f, if_neg (by omega)]
  have rl : H.f l = some (.loop { st with state := .busy }) := by rw [hH, set_f, if_pos rfl]
  have hA : Holds H (256 * c) (ints M) := by rw [hH]; exact ((Holds.newB_same h _ _).set_ne (by omega))
  clear hH
  have rd : ∀ j : Nat, j < 6 → ld1 H (.pointer (some ⟨256 * c, j, none⟩)) = some (.int .i64 (M.getD j 0)) := fun j hj => by rw [ld1_holds' hA, ints_getD _ _ (by omega)]
  have a0 := rd 0 (by omega)
  have a1 := rd 1 (by omega)
  have a2 := rd 2 (by omega)
  have a3 := rd 3 (by omega)
  have a5 := rd 5 (by omega)
  clear rd
  rw [m0] at a0
  rw [m1] at a1
  rw [m2] at a2
  rw [m3] at a3
  rw [m5] at a5
  have lv : ld1 H (.pointer (some ⟨vc, 0, none⟩)) = some (ptrTo vs) := by rw [ld1_holds' (hI.pv.eqf (r0 vc (by omega) (Ne.symm x2)))]; rfl
  have hst6 : stN (newB h (256 * c) [.int .i64 0, .int .i64 0, .int .i64 0, .int .i64 0, .int .i64 0, .int .i64 0]) 6 (.pointer (some ⟨256 * c, 0, none⟩)) (av M) = some (newB h (256 * c) (ints M)) := stN_all _ _ 6 _ _ ml rfl
  have uvH : Uf H vs vu (4 * n) (vCl n D) := hI.uv.keep (r0 vs (by omega) (Ne.symm x3)) (r0 vu (by omega) (Ne.symm x4))
  have cj : callF G 72 [.pointer (some ⟨vs, 0, none⟩), .int .i64 (4 * (t : Int) + i), .int .i64 (4 * (U : Int) + Z)] H (c + 1 + 1) = some (.tuple #[], newB H vu (ints (joinL (vCl n D) (4 * t + i) (4 * U + Z))), c + 1 + 1) := by
    have := callF_of (join_sp H vs vu (4 * n) (c + 1 + 1) (vCl n D) uvH (by omega) (by omega) (4 * t + i) (4 * U + Z) (by omega) (by omega) [])
    simpa [ptrTo] using this
  rw [← vs1] at cj
  obtain ⟨K, hK⟩ : ∃ K, newB H vu (ints (vCl n (D ++ [M]))) = K := ⟨_, rfl⟩
  rw [hK] at cj
  have fK : ∀ b, b ≠ vu → K.f b = H.f b := fun b hb => by rw [← hK, newB_f, if_neg hb]
  have fKv : K.f vu = some (.cells false none (ints (vCl n (D ++ [M])))) := by rw [← hK, newB_f, if_pos rfl]
  have lg : ld1 K (.pointer (some ⟨gb, 0, none⟩)) = some s := by rw [ld1_holds' (hI.g.eqf ((fK gb d1).trans (r0 gb (by omega) hgl)))]; rfl
  have b0 : ld1 K (.pointer (some ⟨256 * c, 0, none⟩)) = some (.int .i64 t) := by rw [← hK, ld1_newB_ne _ _ _ _ _ (by omega)]; exact a0
  have b1 : ld1 K (.pointer (some ⟨256 * c, 1, none⟩)) = some (.int .i64 f) := by rw [← hK, ld1_newB_ne _ _ _ _ _ (by omega)]; exact a1
  have slK : SlI K c0 s 20 n Gl := hI.sl.keep (fun _ => by rw [fK _ ls2, r0 _ (by omega) ls1])
  have lf : ldN K 4 (.pointer (some ⟨blkOf s, offOf s + t * 20 + f * 5 + 1, none⟩)) = some (av (permL F)) := by
    rw [show offOf s + t * 20 + f * 5 + 1 = offOf s + (20 * t + 5 * f + 1) by omega, slK.rdN 4 (20 * t + 5 * f + 1) (by omega) (by omega), ← hF]
    unfold permL faceL
    rw [List.drop_take, List.drop_drop, List.take_take]; rfl
  have hst4 : ∀ b, stN (newB K b [.int .i64 0, .int .i64 0, .int .i64 0, .int .i64 0]) 4 (.pointer (some ⟨b, 0, none⟩)) (av (permL F)) = some (newB K b (ints (permL F))) := fun b => stN_all _ _ 4 _ _ hpl rfl
  obtain ⟨pb, hpb⟩ : ∃ pb, pb = 256 * (c + 1 + 1) + 10 := ⟨_, rfl⟩
  obtain ⟨K2, hK2⟩ : ∃ K2, newB K pb (ints (permL F)) = K2 := ⟨_, rfl⟩
  have fK2 : ∀ b, b ≠ pb → K2.f b = K.f b := fun b hb => by rw [← hK2, newB_f, if_neg hb]
  have eu2 : K2.f eu = some (.cells false none (ints (eCl Gl n D))) := by rw [fK2 eu (by omega), fK eu (Ne.symm d11), r0 eu (by omega) (Ne.symm x7)]; exact hI.ue.up
  have k2 : ∀ b, b < 256 * c → b ≠ l → b ≠ vu → K2.f b = h.f b := fun b h1 h2 h3 => by rw [fK2 b (by omega), fK b h3, r0 b h1 h2]
  have hin := Ans.eq (edges_loop K2 ec es eu (256 * c) pb n (c + 1 + 1 + 1 + 1) l (permL F) M t f i (U : Int) [] hn k3 ht hf hi (by omega) (by omega) (by omega) (by omega) (by omega) (by omega) (by omega) d8 (hI.ue.ne) (by omega) (by omega)
    (hI.pe.eqf (k2 ec (by omega) (Ne.symm x5) d7)) ((k2 es (by omega) (Ne.symm x6) d10).trans hI.ue.st) (hA.eqf (by rw [fK2 _ (by omega), fK _ (by omega)])) ⟨false, none, by rw [← hK2]; show (newB _ _ _ : FH).f _ = _; rw [newB_f, if_pos rfl]⟩ ml m0 m1 m2 m3 4 0 _ (by omega) hI.ue.dn)
  rw [newB_self eu2, ← es1] at hin
  simp only [Int.ofNat_eq_natCast, Int.cast_ofNat_Int] at hin
  have dE : Down (eCl Gl n (D ++ [M])) (6 * n) := by rw [es1]; exact eIn_down k3 ht hi (by omega) (by omega) (by omega) hI.ue.dn
  have dV : Down (vCl n (D ++ [M])) (4 * n) := by rw [vs1]; exact joinL_down hI.uv.dn (by omega) (by omega)
  obtain ⟨N, hN⟩ : ∃ N, newB K2 eu (ints (eCl Gl n (D ++ [M]))) = N := ⟨_, rfl⟩
  rw [hN] at hin
  have fN : ∀ b, b ≠ eu → N.f b = K2.f b := fun b hb => by rw [← hN, newB_f, if_neg hb]
  have fNe : N.f eu = some (.cells false none (ints (eCl Gl n (D ++ [M])))) := by rw [← hN, newB_f, if_pos rfl]
  have hl' : N.f l = some (.loop { st with state := .busy }) := by rw [fN l x7, fK2 l (by omega), fK l x4, rl]
  have sT : setState N l .ready none = some (HeapC.set N l (.loop st)) := by
    rw [setState_of (st := { st with state := .busy }) hl']
    congr 3
    rw [← hst, ← hst2]
  unfold f44_R44000
  simp only [Nat.add_zero]
  repeat' (first | ((with_reducible first | refine Ans.bz ?_ | refine Ans.r1 ?_ | refine Ans.pkT ?_ | refine Ans.pkF ?_); try dsimp only [v_zero, v_succ]) | (with_reducible first | refine Ans.btL ?_ | refine Ans.bfL ?_ | refine Ans.gyT ?_ | refine Ans.gyF ?_ | refine Ans.gyG ?_ | refine Ans.bb ?_ | refine Ans.bc ?_ | refine Ans.ba ?_) | ((with_reducible first | refine Ans.addN ?_ ?_ | refine Ans.add ?_ ?_ | refine Ans.mul ?_ ?_); (focus omega)) | ((with_reducible first | refine Ans.ct ?_ ?_); (focus (simp (disch := (first | omega | with_reducible assumption | (simp <;> omega) | fail)) [hst6, hb, lv, a0, a1, a2, a3, a5, cj, lg, b0, b1, slK.ixs, lf, hst4, ← hpb, hK2, hin, sT, -ld1_newB_same]; done))) | ((with_reducible first | refine Ans.cf ?_ ?_); (focus (simp (disch := (first | omega | with_reducible assumption | (simp <;> omega) | fail)) [hst6, hb, lv, a0, a1, a2, a3, a5, cj, lg, b0, b1, slK.ixs, lf, hst4, ← hpb, hK2, hin, sT, -ld1_newB_same]; done))) | (refine Ans.step (by simp (disch := (first | omega | with_reducible assumption | (simp <;> omega) | fail)) [hst6, hb, lv, a0, a1, a2, a3, a5, cj, lg, b0, b1, slK.ixs, lf, hst4, ← hpb, hK2, hin, sT, -ld1_newB_same, -List.getD_eq_getElem?_getD] <;> rfl) ?_; try dsimp only [v_zero, v_succ]) | fail)
  have fin : ∀ b, b < 256 * c → ¬ O b → b ≠ l → (HeapC.set N l (.loop st) : FH).f b = h.f b := fun b g1 g2 g3 => by
    rw [hI.own] at g2
    simp only [not_or] at g2
    rw [set_f, if_neg g3, fN b g2.2, k2 b g1 g3 g2.1]
  have nO : ∀ b, b ≠ vu → b ≠ eu → ¬ O b := fun b h1 h2 => by rw [hI.own]; rintro (e | e); exact h1 e; exact h2 e
  refine .done ⟨(by show c ≤ c + 1 + 1 + 1 + 1; omega), O, fun b hb => .inl hb, fin, rfl, ?_, ?_⟩
  · show (HeapC.set _ _ _ : FH).f l = _
    rw [set_f, if_pos rfl]
  · have uvF : (HeapC.set N l (.loop st) : FH).f vu = some (.cells false none (ints (vCl n (D ++ [M])))) := by rw [set_f, if_neg (Ne.symm x4), fN vu d11, fK2 vu (by omega), fKv]
    have ueF : (HeapC.set N l (.loop st) : FH).f eu = some (.cells false none (ints (eCl Gl n (D ++ [M])))) := by rw [set_f, if_neg (Ne.symm x7), fNe]
    exact ⟨by show cb ≤ c + 1 + 1 + 1 + 1; omega, hI.g.eqf (fin gb (by omega) (nO _ d1 d2) hgl), hI.gg.eqf (fin g2 (by omega) (nO _ d3 d4) (Ne.symm x1)), hI.sl.keep (fun _ => fin _ (by omega) (nO _ ls2 ls3) ls1), hI.pv.eqf (fin vc (by omega) (nO _ d5 d6) (Ne.symm x2)), hI.pe.eqf (fin ec (by omega) (nO _ d7 d8) (Ne.symm x5)),
      ⟨(fin vs (by omega) (nO _ hI.uv.ne d9) (Ne.symm x3)).trans hI.uv.st, uvF, hI.uv.ne, dV, hI.uv.le⟩, ⟨(fin es (by omega) (nO _ d10 hI.ue.ne) (Ne.symm x6)).trans hI.ue.st, ueF, hI.ue.ne, dE, hI.ue.le⟩, hI.own⟩
end Go.Proofs.Ytcnndelmnobigaa

namespace Go.Proofs.Ytcnndelmnobigaa
open Go Go.Ab Go.Proofs
set_option maxRecDepth 100000
set_option linter.unusedVariables false
set_option linter.unusedSimpArgs false
def chkE (Gl : List Int) (n : Nat) (all : Bool) : Int := if refE Gl n = 0 then (if all = true then 0 else 130) else refE Gl n
theorem refE_zero {Gl : List Int} {n : Nat} (h : refE Gl n = 0) : n ≤ 60 ∧ okAll Gl n = true := by
  unfold refE at h
  split at h
  · rename_i h1
    split at h
    · cases h
    · exact ⟨by omega, h1.2⟩
  · cases h
theorem SlX.keep {h h' : FH} {c : Nat} {s : Value} {sz n : Nat} {L : List Int} (hs : SlI h c s sz n L) (hh : Same c h h') (hx : SlX h s sz n) : SlX h' s sz n := by
  obtain ⟨x1, x2⟩ := hx
  refine ⟨x1, ?_⟩
  obtain ⟨_, _, a, cap, rfl, hc4⟩ := hs
  rcases hc4 with ⟨e0, ov⟩ | ⟨b, o, cs, rfl, e2, _, _⟩
  · cases a with
    | none => rfl
    | some a =>
      have hb : a.block < 256 * c := by
        obtain ⟨v', hv'⟩ := ov
        cases hv' with
        | sl hh' _ _ => exact nuD_dom (by rw [hh']; simp)
        | slE hh' => exact nuD_dom (by rw [hh']; simp)
      simp only [adrOf, szOk] at x2 ⊢
      have : HeapC.get h' a.block = HeapC.get h a.block := hh _ hb
      rw [this]; exact x2
  · simp only [adrOf, szOk] at x2 ⊢
    have : HeapC.get h' b = HeapC.get h b := hh _ e2
    rw [this]; exact x2
set_option maxHeartbeats 1000000 in
theorem checks_sp (s : Value) (n : Nat) (Gl : List Int) (ss : List Value) (Vs : Nat → List Int) (nvs : Nat → Nat) (sb : Nat) (h : FH) (c : Nat) (df : List Nat) (hs : SlI h c s 20 n Gl) (hsb : sb < 256 * c) (hh : Holds h sb ss) (hl : ss.length ≤ 1000) (hnv : ∀ j, nvs j ≤ 1000000)
    (hV : ∀ j, j < ss.length → SlI h c (ss.getD j undef) 1 (nvs j) (Vs j) ∧ SlX h (ss.getD j undef) 1 (nvs j)) :
    G (.fn 47) [.agg #[s], .slice (some ⟨sb, 0, none⟩) ss.length ss.length] h c df = some { e := .ret, vs := [.int .i64 (chkE Gl n ((List.range ss.length).all fun i => admB Gl n (Vs i)))], h := h, c := c, df := [] } := by
  refine pure_of' (fun r e => f47_go e) (by simp) ?_
  unfold f47_S
  rw [flat1 hs.flat, cell1, Nat.add_zero]
  simp only [cond_true]
  obtain ⟨H, hH⟩ : ∃ H, H = newB (newB h (256 * c) [s]) (256 * c + 1) [.int .i64 0] := ⟨_, rfl⟩
  have sH : Same c h H := by rw [hH]; simp (disch := omega)
  have hg : Holds H (256 * c) [s] := by rw [hH]; exact (Holds.newB_same _ _ _).newB_ne (by omega)
  have hr : H.f (256 * c + 1) = some (.cells false none [.int .i64 0]) := by rw [hH, newB_f, if_pos rfl]
  rw [← hH]
  clear hH
  have l1 := ldN1_own hg
  have l2 := SlI.len hs
  have c1 := callF_of (refused_sp s n Gl H (c + 1 + 1) [] ((hs.same sH).mono (by omega)))
  obtain ⟨E, hE⟩ : ∃ E, refE Gl n = E := ⟨_, rfl⟩
  have hE0 : E = 0 → n ≤ 60 ∧ okAll Gl n = true := fun e => refE_zero (hE.trans e)
  unfold chkE
  rw [hE] at c1 ⊢
  by_cases h0 : E = 0
  case neg =>
    have w1 := st1_get (v := .int .i64 E) (o := 0) (show HeapC.get H (256 * c + 1) = _ from hr) (by simp) rfl rfl
    have w2 : ld1 (HeapC.set H (256 * c + 1) (.cells false none [.int .i64 E])) (.pointer (some ⟨256 * c + 1, 0, none⟩)) = some (.int .i64 E) := by
      rw [ld1_holds' (cs := [.int .i64 E]) ⟨_, _, get_set_same _ _ _⟩]; rfl
    rw [if_neg h0]
    have fx := And.intro l1 (And.intro c1 (And.intro w1 w2))
    refine Ans.go ?_
    clear fx
    exact Ans.pure rfl (sH.set (by omega))
  obtain ⟨hn, hok⟩ := hE0 h0
  rw [if_pos h0]
  obtain ⟨⟨re, rv, rh, rc, rd⟩, hq, q1, q2, q3, q4, q5, q6⟩ := check_lists s n Gl ss Vs nvs (256 * c) (256 * c + 1) sb (c + 1 + 1 + 1 + 1) H hn hok (by omega) (by omega) (by omega) (by omega) (by omega) hg ((hs.same sH).mono (by omega)) (fun hp => by have := hs.blk hp; omega)
    (hh.same hsb sH) hl hnv (fun j hj => ⟨((hV j hj).1.same sH).mono (by omega), SlX.keep (hV j hj).1 sH (hV j hj).2, fun hp => by have := (hV j hj).1.blk hp; omega⟩) ss.length 0 (c + 1 + 1 + 1 + 1) H [] (by omega) (by omega) (fun b _ _ => rfl) hr List.nodup_nil (fun d hd => by cases hd)
  simp only at q1 q3 q4 q5 q6
  simp only [Int.ofNat_eq_natCast, Int.cast_ofNat_Int] at hq
  have hln : lenS (.slice (some ⟨sb, 0, none⟩) ss.length ss.length) = some (.int .i64 ss.length) := rfl
  have sR : ∀ b, b < 256 * c → rh.f b = h.f b := fun b hb => by rw [q3 b (by omega) (by omega), sH b hb]
  rcases q6 with ⟨rfl, q7, q8⟩ | ⟨rfl, q7, i, q8, q9⟩
  · have hall : ((List.range ss.length).all fun i => admB Gl n (Vs i)) = true := List.all_eq_true.2 fun i hi => q8 i (by omega) (by simpa using hi)
    rw [hall, if_pos rfl]
    have w1 := st1_get (v := .int .i64 0) (o := 0) (show HeapC.get rh (256 * c + 1) = _ from q7) (by simp) rfl rfl
    obtain ⟨h9, t1, t2⟩ := takeAll_ok (df := rd) (h := HeapC.set rh (256 * c + 1) (.cells false none [.int .i64 0])) q4 (fun d hd => by have := q5 d hd; rw [set_f, if_neg (by omega)]; exact this.1)
    have w2 : ld1 h9 (.pointer (some ⟨256 * c + 1, 0, none⟩)) = some (.int .i64 0) := by
      rw [ld1_holds' (cs := [.int .i64 0]) ⟨false, none, (t2 _ (fun hm => by have := q5 _ hm; omega)).trans (by rw [set_f, if_pos rfl])⟩]; rfl
    have q2' : ({ e := .exit 0, vs := rv, h := rh, c := rc, df := rd } : Rt FH).v 1 = ptrTo (256 * c + 1) := q2
    have fx := And.intro l1 (And.intro c1 (And.intro hln (And.intro hq (And.intro q2' (And.intro w1 (And.intro t1 w2))))))
    refine Ans.go ?_
    clear fx
    refine Ans.pure rfl (fun b hb => ?_)
    show h9.f b = h.f b
    rw [t2 b (fun hm => by have := q5 _ hm; omega), set_f, if_neg (by omega), sR b hb]
  · have hall : ((List.range ss.length).all fun i => admB Gl n (Vs i)) = false := by
      rw [← Bool.not_eq_true, List.all_eq_true]
      intro hall
      have := hall i (by simpa using q8)
      rw [q9] at this; cases this
    rw [hall, if_neg (by simp)]
    obtain ⟨h9, t1, t2⟩ := takeAll_ok (df := rd) (h := rh) q4 (fun d hd => (q5 d hd).1)
    have w2 : ld1 h9 (.pointer (some ⟨256 * c + 1, 0, none⟩)) = some (.int .i64 130) := by
      rw [ld1_holds' (cs := [.int .i64 130]) ⟨false, none, (t2 _ (fun hm => by have := q5 _ hm; omega)).trans q7⟩]; rfl
    have q2' : ({ e := .ret, vs := rv, h := rh, c := rc, df := rd } : Rt FH).v 1 = ptrTo (256 * c + 1) := q2
    have fx := And.intro l1 (And.intro c1 (And.intro hln (And.intro hq (And.intro q2' (And.intro t1 w2)))))
    refine Ans.go ?_
    clear fx
    refine Ans.pure rfl (fun b hb => ?_)
    show h9.f b = h.f b
    rw [t2 b (fun hm => by have := q5 _ hm; omega), sR b hb]
theorem check1 (s v : Value) (n nv : Nat) (Gl V : List Int) (sb : Nat) (h : FH) (c : Nat) (hs : SlI h c s 20 n Gl) (hv : SlI h c v 1 nv V) (hx : SlX h v 1 nv) (hnv : nv ≤ 1000000) (hsb : sb < 256 * c) (hh : Holds h sb [v]) :
    callF G 47 [.agg #[s], .slice (some ⟨sb, 0, none⟩) 1 1] h c = some (.int .i64 (chkE Gl n (admB Gl n V)), h, c) := by
  have := checks_sp s n Gl [v] (fun _ => V) (fun _ => nv) sb h c [] hs hsb hh (by simp) (fun _ => hnv) (fun j hj => by
    match j, hj with
    | 0, _ => exact ⟨hv, hx⟩)
  have e : ((List.range [v].length).all fun i => admB Gl n V) = admB Gl n V := by simp
  rw [e] at this
  exact callF_of this
theorem checkN_sp (s v : Value) (n nv : Nat) (Gl V : List Int) (h : FH) (c : Nat) (df : List Nat) (hs : SlI h c s 20 n Gl) (hv : SlI h c v 1 nv V) (hx : SlX h v 1 nv) (hnv : nv ≤ 1000000) :
    G (.fn 17) [.agg #[s], v] h c df = some { e := .ret, vs := [.int .i64 (chkE Gl n (admB Gl n V))], h := h, c := c, df := [] } := by
  refine pure_of' (fun r e => f17_go e) (by simp) ?_
  unfold f17_S
  rw [flat1 hs.flat, cell1, Nat.add_zero]
  simp only [cond_true]
  have l1 : ldN (newB h (256 * c) [s]) 1 (.pointer (some ⟨256 * c, 0, none⟩)) = some (.agg #[s]) := ldN1_own (Holds.newB_same _ _ _)
  have hbl : bldL [(.slice none 0 0)] [(0, 1, v)] = some [v] := by
    obtain ⟨_, _, a, cap, rfl, _⟩ := hv
    rfl
  have sH : Same c h (newB (newB h (256 * c) [s]) (256 * (c + 1) + 2) [v]) := by simp (disch := omega)
  have c1 := check1 s v n nv Gl V (256 * (c + 1) + 2) (newB (newB h (256 * c) [s]) (256 * (c + 1) + 2) [v]) (c + 1 + 1) ((hs.same sH).mono (by omega)) ((hv.same sH).mono (by omega)) (SlX.keep hv sH hx) hnv (by omega) (Holds.newB_same _ _ _)
  have fx := And.intro l1 (And.intro hbl c1)
  refine Ans.go ?_
  clear fx
  exact Ans.pure rfl sH
end Go.Proofs.Ytcnndelmnobigaa

namespace Go.Proofs.Ytcnndelmnobigaa
open Go Go.Ab Go.Proofs
set_option maxRecDepth 100000
set_option linter.unusedVariables false
set_option linter.unusedSimpArgs false
def RowV (c0 : Nat) (h : FH) (c : Nat) (x : Value) (w : Nat) (L : List Int) : Prop := ∃ b, x = .slice (some ⟨b, 0, none⟩) w w ∧ 256 * c0 ≤ b ∧ b < 256 * c ∧ h.f b = some (.cells false none (ints L)) ∧ L.length = w ∧ w ≤ 1000000
structure EqI (s : Value) (n : Nat) (Gl : List Int) (gb g2 ob l c0 cb : Nat) (D : List (List Int)) (O : Nat → Prop) (h : FH) (c : Nat) : Prop where
  lc : cb ≤ c
  g : Holds h gb [s]
  gg : Holds h g2 [s]
  sl : SlI h c0 s 20 n Gl
  ng : ¬ O g2
  out : ∃ vo vals, O = (fun b => b = ob ∨ b = blkOf vo) ∧ h.f ob = some (.cells false none [vo]) ∧ AppG c0 h c vo D.length vals ∧ blkOf vo ≠ ob ∧ blkOf vo ≠ l ∧
    ∀ (k : Nat) (m : List Int), D[k]? = some m → ∃ x, vals[k]? = some x ∧ RowV c0 h c x (7 * n) (eqRow n m) ∧ blkOf x ≠ ob ∧ blkOf x ≠ blkOf vo ∧ blkOf x ≠ l
end Go.Proofs.Ytcnndelmnobigaa

namespace Go.Proofs.Ytcnndelmnobigaa
open Go Go.Ab Go.Proofs
set_option maxRecDepth 100000
set_option linter.unusedVariables false
set_option linter.unusedSimpArgs false
def EqV (c0 : Nat) (h : FH) (c n : Nat) (Gl : List Int) (v : Value) : Prop :=
  ∃ vals, AppG c0 h c v (allM Gl n).length vals ∧ ∀ (k : Nat) (m : List Int), (allM Gl n)[k]? = some m → ∃ x, vals[k]? = some x ∧ RowV c0 h c x (7 * n) (eqRow n m)
end Go.Proofs.Ytcnndelmnobigaa

namespace Go.Proofs.Ytcnndelmnobigaa
open Go Go.Ab Go.Proofs
set_option maxRecDepth 100000
set_option linter.unusedVariables false
set_option linter.unusedSimpArgs false
theorem cl_roundI (s : Value) (n : Nat) (Gl : List Int) (gb g2 vc vs vu ec es eu c0 cb l : Nat) (hok : okAll Gl n = true) (hn : n ≤ 60)
    (hgb : gb < 256 * c0) (hg2 : g2 < 256 * cb) (hl : l < 256 * cb) (hc0 : c0 ≤ cb) (hvc : vc < 256 * cb) (hvs : vs < 256 * cb) (hvu : vu < 256 * cb) (hec : ec < 256 * cb) (hes : es < 256 * cb) (heu : eu < 256 * cb)
    (hgl : gb ≠ l) (hn1 : gb ≠ vu ∧ gb ≠ eu ∧ g2 ≠ vu ∧ g2 ≠ eu ∧ vc ≠ vu ∧ vc ≠ eu ∧ ec ≠ vu ∧ ec ≠ eu ∧ vs ≠ eu ∧ es ≠ vu ∧ vu ≠ eu) (hn2 : l ≠ g2 ∧ l ≠ vc ∧ l ≠ vs ∧ l ≠ vu ∧ l ≠ ec ∧ l ≠ es ∧ l ≠ eu) (hls : 0 < n → blkOf s ≠ l ∧ blkOf s ≠ vu ∧ blkOf s ≠ eu) :
    RoundI s n Gl g2 l cb (entryL 92 [1, 5, 6] #[25] f44_a44000 f44_c44000 [ptrTo gb, ptrTo vc, ptrTo ec] (l + 1)) none [ptrTo gb, ptrTo vc, ptrTo ec] (ClI s n Gl gb g2 vc vs vu ec es eu c0 cb) (fun _ _ _ => False) where
  stab := fun D O h c h' c' hi hc hs => by
    have := hi.lc
    obtain ⟨x1, x2, x3, x4, x5, x6, x7⟩ := hn2
    exact ⟨by omega, hi.g.eqf (hs _ (by omega) hgl), hi.gg.eqf (hs _ (by omega) (Ne.symm x1)), hi.sl.keep (fun hp => hs _ (by have := hi.sl.blk hp; omega) (hls hp).1), hi.pv.eqf (hs _ (by omega) (Ne.symm x2)), hi.pe.eqf (hs _ (by omega) (Ne.symm x5)),
      hi.uv.keep (hs _ (by omega) (Ne.symm x3)) (hs _ (by omega) (Ne.symm x4)), hi.ue.keep (hs _ (by omega) (Ne.symm x6)) (hs _ (by omega) (Ne.symm x7)), hi.own⟩
  jstab := fun O h c h' c' hj hc hs => hj
  own := fun D O h c hi b hb => by
    have := hi.lc
    rw [hi.own] at hb
    rcases hb with rfl | rfl <;> omega
  ownJ := fun O h c hj b hb => hj.elim
  read := fun D O h c hi => ⟨hi.gg, hi.sl.mono (by have := hi.lc; omega)⟩
  step := fun D O h c t f i ht hf hi hif hsk hpre hc hI hlp => by
    obtain ⟨r, hr, q1, O', q2, q3, q4⟩ := cl_round s n Gl gb g2 vc vs vu ec es eu c0 cb l _ rfl rfl hok hn hgb hg2 hl hc0 hvc hvs hvu hec hes heu hgl hn1 hn2 hls ht hf hi hif hsk hI hlp
    exact ⟨r, f44_G44000 hr, q1, O', q2, q3, .inl q4⟩
set_option maxHeartbeats 1000000 in
theorem classes_sp (s : Value) (n : Nat) (Gl : List Int) (h : FH) (c : Nat) (df : List Nat) (hs : SlI h c s 20 n Gl) (hok : okAll Gl n = true) (hn : n ≤ 60) :
    Ans (G (.fn 44) [.agg #[s]] h c df) fun r => r.e = .ret ∧ r.df = [] ∧ c ≤ r.c ∧ Same c h r.h ∧ ∃ vs vu es eu, r.vs = [.tuple #[ptrTo vs, ptrTo es]] ∧ vs < 256 * r.c ∧ vu < 256 * r.c ∧ es < 256 * r.c ∧ eu < 256 * r.c ∧
      Uf r.h vs vu (4 * n) (vCl n (allM Gl n)) ∧ Uf r.h es eu (6 * n) (eCl Gl n (allM Gl n)) := by
  refine Ans.call' (fun r e => f44_go e) ?_
  unfold f44_S
  rw [flat1 hs.flat, cell1, Nat.add_zero]
  simp only [cond_true]
  obtain ⟨H, hH⟩ : ∃ H, H = newB h (256 * c) [s] := ⟨_, rfl⟩
  have sH : Same c h H := by rw [hH]; simp (disch := omega)
  have hg : Holds H (256 * c) [s] := by rw [hH]; exact Holds.newB_same _ _ _
  rw [← hH]
  clear hH
  have l1 : ld1 H (.pointer (some ⟨256 * c, 0, none⟩)) = some s := by rw [ld1_holds' hg]; rfl
  have ll := hs.len
  obtain ⟨⟨re, rv, H1, rc, rd⟩, hr, r1, r2, r3⟩ := newUnion_sp (4 * n) H (c + 1 + 1 + 1) [] (by omega)
  simp only at r1 r2 r3
  obtain ⟨rfl, rfl, -, rfl, rfl⟩ := Rt.mk.inj r1
  clear r1
  have cu1 := callF_of hr
  rw [show ((4 * n : Nat) : Int) = 4 * (n : Int) by omega] at cu1
  obtain ⟨B0, hB0⟩ : ∃ B0, 256 * (c + 1 + 1 + 1 + 1) + 1 = B0 := ⟨_, rfl⟩
  rw [hB0] at cu1 r3
  obtain ⟨vs, hvs⟩ : ∃ vs, 256 * (c + 1 + 1) + 4 = vs := ⟨_, rfl⟩
  obtain ⟨H2, hH2⟩ : ∃ H2, newB H1 vs [.slice (some ⟨B0, 0, none⟩) (4 * n) (4 * n)] = H2 := ⟨_, rfl⟩
  obtain ⟨⟨re, rv, H3, rc, rd⟩, hr', r1', r2', r3'⟩ := newUnion_sp (6 * n) H2 (c + 1 + 1 + 1 + 1 + 1 + 1 + 1) [] (by omega)
  simp only at r1' r2' r3'
  obtain ⟨rfl, rfl, -, rfl, rfl⟩ := Rt.mk.inj r1'
  clear r1'
  have cu2 := callF_of hr'
  rw [show ((6 * n : Nat) : Int) = 6 * (n : Int) by omega] at cu2
  obtain ⟨B1, hB1⟩ : ∃ B1, 256 * (c + 1 + 1 + 1 + 1 + 1 + 1 + 1 + 1) + 1 = B1 := ⟨_, rfl⟩
  rw [hB1] at cu2 r3'
  obtain ⟨es, hes⟩ : ∃ es, 256 * (c + 1 + 1) + 9 = es := ⟨_, rfl⟩
  obtain ⟨vc, hvc⟩ : ∃ vc, 256 * (c + 1 + 1) + 10 = vc := ⟨_, rfl⟩
  obtain ⟨ec, hec⟩ : ∃ ec, 256 * (c + 1 + 1) + 11 = ec := ⟨_, rfl⟩
  have b1 : bldV [.slice none 0 0] [(0, 1, .agg #[.slice (some ⟨B0, 0, none⟩) (4 * n) (4 * n)])] = some (.agg #[.slice (some ⟨B0, 0, none⟩) (4 * n) (4 * n)]) := rfl
  have b2 : bldV [.slice none 0 0] [(0, 1, .agg #[.slice (some ⟨B1, 0, none⟩) (6 * n) (6 * n)])] = some (.agg #[.slice (some ⟨B1, 0, none⟩) (6 * n) (6 * n)]) := rfl
  obtain ⟨N, hN⟩ : ∃ N, N = newB (newB (newB H3 es [.slice (some ⟨B1, 0, none⟩) (6 * n) (6 * n)]) vc [ptrTo vs]) ec [ptrTo es] := ⟨_, rfl⟩
  have st1 : stN (newB (newB (newB H3 es [.slice (some ⟨B1, 0, none⟩) (6 * n) (6 * n)]) vc [.pointer none]) ec [.pointer none]) 1 (.pointer (some ⟨vc, 0, none⟩)) (.pointer (some ⟨vs, 0, none⟩)) = some (newB (newB (newB H3 es [.slice (some ⟨B1, 0, none⟩) (6 * n) (6 * n)]) vc [ptrTo vs]) ec [.pointer none]) := by
    rw [st1_get (cs := [.pointer none]) (op := none) (by rw [get_newB_ne _ _ _ _ (by omega), get_newB_same]) (by simp) rfl rfl]
    congr 1
    apply FH.ext; intro j
    simp only [set_f, newB_f]
    have hve : vc ≠ ec := by omega
    have hev : ec ≠ vc := by omega
    by_cases e1 : j = vc <;> by_cases e2 : j = ec <;> (first | (exfalso; omega) | skip) <;> simp [e1, e2, ptrTo, hve, hev]
  have st2 : stN (newB (newB (newB H3 es [.slice (some ⟨B1, 0, none⟩) (6 * n) (6 * n)]) vc [ptrTo vs]) ec [.pointer none]) 1 (.pointer (some ⟨ec, 0, none⟩)) (.pointer (some ⟨es, 0, none⟩)) = some N := by
    rw [st1_get (cs := [.pointer none]) (op := none) (by rw [get_newB_same]) (by simp) rfl rfl, hN]
    congr 1
    apply FH.ext; intro j
    simp only [set_f, newB_f]
    have hve : vc ≠ ec := by omega
    have hev : ec ≠ vc := by omega
    by_cases e1 : j = vc <;> by_cases e2 : j = ec <;> (first | (exfalso; omega) | skip) <;> simp [e1, e2, ptrTo, hve, hev]
  have fN : ∀ b, b ≠ es → b ≠ vc → b ≠ ec → N.f b = H3.f b := fun b h1 h2 h3 => by rw [hN, newB_f, if_neg h3, newB_f, if_neg h2, newB_f, if_neg h1]
  have fNe : N.f es = some (.cells false none [.slice (some ⟨B1, 0, none⟩) (6 * n) (6 * n)]) := by rw [hN, newB_f, if_neg (by omega), newB_f, if_neg (by omega), newB_f, if_pos rfl]
  have fNvc : N.f vc = some (.cells false none [ptrTo vs]) := by rw [hN, newB_f, if_neg (by omega), newB_f, if_pos rfl]
  have fNec : N.f ec = some (.cells false none [ptrTo es]) := by rw [hN, newB_f, if_pos rfl]
  clear hN
  have fH2 : ∀ b, b ≠ vs → H2.f b = H1.f b := fun b hb => by rw [← hH2, newB_f, if_neg hb]
  have fH2v : H2.f vs = some (.cells false none [.slice (some ⟨B0, 0, none⟩) (4 * n) (4 * n)]) := by rw [← hH2, newB_f, if_pos rfl]
  have low : ∀ b, b < 256 * (c + 1) → N.f b = H.f b := fun b hb => by rw [fN b (by omega) (by omega) (by omega), r2' b (by omega), fH2 b (by omega), r2 b (by omega)]
  have fNvs : N.f vs = some (.cells false none [.slice (some ⟨B0, 0, none⟩) (4 * n) (4 * n)]) := by rw [fN vs (by omega) (by omega) (by omega), r2' vs (by omega), fH2v]
  have fNvu : N.f B0 = some (.cells false none (ints (startL (4 * n)))) := by rw [fN B0 (by omega) (by omega) (by omega), r2' B0 (by omega), fH2 B0 (by omega), r3]
  have fNeu : N.f B1 = some (.cells false none (ints (startL (6 * n)))) := by rw [fN B1 (by omega) (by omega) (by omega), r3']
  have lN := ldN1_own (hg.eqf (low _ (by omega)))
  have cm := matches_call s N (c + 1 + 1 + 1 + 1 + 1 + 1 + 1 + 1 + 1 + 1 + 1 + 1) hs.flat
  have fl1 : ((Value.agg #[.slice (some ⟨B0, 0, none⟩) (4 * n) (4 * n)]).cells.toList.all isFlat) = true := rfl
  have fl2 : ((Value.agg #[.slice (some ⟨B1, 0, none⟩) (6 * n) (6 * n)]).cells.toList.all isFlat) = true := rfl
  rw [hvs, hes, hvc, hec]
  have fx := And.intro cell1 (And.intro l1 (And.intro ll (And.intro cu1 (And.intro b1 (And.intro fl1 (And.intro hH2 (And.intro cu2 (And.intro b2 fl2))))))))
  refine Ans.go ?_
  clear fx
  rw [show (Value.agg #[.slice (some ⟨B1, 0, none⟩) (6 * n) (6 * n)]).cells.toList = [.slice (some ⟨B1, 0, none⟩) (6 * n) (6 * n)] from rfl]
  refine Ans.step st1 (Ans.step st2 ?_)
  have fx := And.intro lN cm
  refine Ans.go ?_
  clear fx
  obtain ⟨g2, hg2⟩ : ∃ g2, 256 * (c + 1 + 1 + 1 + 1 + 1 + 1 + 1 + 1 + 1 + 1 + 1 + 1) = g2 := ⟨_, rfl⟩
  obtain ⟨l, hl⟩ : ∃ l, 256 * (c + 1 + 1 + 1 + 1 + 1 + 1 + 1 + 1 + 1 + 1 + 1 + 1 + 1 + 1) = l := ⟨_, rfl⟩
  rw [hg2]
  obtain ⟨M, hM⟩ : ∃ M, M = newB N g2 [s] := ⟨_, rfl⟩
  rw [← hM]
  have fM : ∀ b, b ≠ g2 → M.f b = N.f b := fun b hb => by rw [hM, newB_f, if_neg hb]
  have gM : M.f g2 = some (.cells false none [s]) := by rw [hM, newB_f, if_pos rfl]
  clear hM
  have hI := cl_roundI s n Gl (256 * c) g2 vc vs B0 ec es B1 (c + 1) (c + 1 + 1 + 1 + 1 + 1 + 1 + 1 + 1 + 1 + 1 + 1 + 1 + 1 + 1 + 1) l hok hn (by omega) (by omega) (by omega) (by omega) (by omega) (by omega) (by omega) (by omega) (by omega) (by omega) (by omega) ⟨by omega, by omega, by omega, by omega, by omega, by omega, by omega, by omega, by omega, by omega, by omega⟩ ⟨by omega, by omega, by omega, by omega, by omega, by omega, by omega⟩
    (fun hp => ⟨by have := hs.blk hp; omega, by have := hs.blk hp; omega, by have := hs.blk hp; omega⟩)
  have hEf : ∀ b, b < l → (entryH M (c + 1 + 1 + 1 + 1 + 1 + 1 + 1 + 1 + 1 + 1 + 1 + 1 + 1 + 1) 92 [1, 5, 6] #[25] f44_a44000 f44_c44000 [ptrTo (256 * c), ptrTo vc, ptrTo ec]).f b = M.f b := fun b hb => by
    rw [entryH_f, if_neg (by omega), if_neg (by omega)]
  have hI0 : ClI s n Gl (256 * c) g2 vc vs B0 ec es B1 (c + 1) (c + 1 + 1 + 1 + 1 + 1 + 1 + 1 + 1 + 1 + 1 + 1 + 1 + 1 + 1 + 1) [] (fun b => b = B0 ∨ b = B1) (entryH M (c + 1 + 1 + 1 + 1 + 1 + 1 + 1 + 1 + 1 + 1 + 1 + 1 + 1 + 1) 92 [1, 5, 6] #[25] f44_a44000 f44_c44000 [ptrTo (256 * c), ptrTo vc, ptrTo ec]) (c + 1 + 1 + 1 + 1 + 1 + 1 + 1 + 1 + 1 + 1 + 1 + 1 + 1 + 1 + 1) := by
    refine ⟨Nat.le_refl _, hg.eqf (by rw [hEf _ (by omega), fM _ (by omega), low _ (by omega)]), ⟨false, none, ?_⟩, ?_, ⟨false, none, ?_⟩, ⟨false, none, ?_⟩, ⟨?_, ?_, by omega, startL_down _, by omega⟩, ⟨?_, ?_, by omega, startL_down _, by omega⟩, rfl⟩
    · show (entryH _ _ _ _ _ _ _ _ : FH).f _ = _
      rw [hEf _ (by omega), gM]
    · exact ((hs.same sH).mono (by omega : c ≤ c + 1)).keep (fun hp => by have := hs.blk hp; rw [hEf _ (by omega), fM _ (by omega), low _ (by omega)])
    · show (entryH _ _ _ _ _ _ _ _ : FH).f _ = _
      rw [hEf _ (by omega), fM _ (by omega), fNvc]
    · show (entryH _ _ _ _ _ _ _ _ : FH).f _ = _
      rw [hEf _ (by omega), fM _ (by omega), fNec]
    · rw [hEf _ (by omega), fM _ (by omega), fNvs]
    · rw [hEf _ (by omega), fM _ (by omega), fNvu]; rfl
    · rw [hEf _ (by omega), fM _ (by omega), fNe]
    · rw [hEf _ (by omega), fM _ (by omega), fNeu]; rfl
  rw [← hl] at hI
  refine Ans.head (range_matches (by omega) (by omega) rfl hI (O := fun b => b = B0 ∨ b = B1) (fun b hb => by omega) hI0) ?_
  rw [hl]
  rintro ⟨qe, qh, qc, qd⟩ ⟨qr, O', e1, e2, e3, e4, e5, e6⟩
  simp only [Prod.mk.injEq] at e1
  obtain ⟨rfl, -, rfl⟩ := e1
  simp only at e2 e6
  rcases e6 with ⟨rfl, hi⟩ | ⟨-, hj⟩
  case inr => exact hj.elim
  have fd : ∀ b, b ≠ l → (HeapC.del qr l).f b = qr.f b := fun b hb => by rw [del_f, if_neg hb]
  have lv : ld1 (HeapC.del qr l) (.pointer (some ⟨vc, 0, none⟩)) = some (.pointer (some ⟨vs, 0, none⟩)) := by rw [ld1_holds' (hi.pv.eqf (fd vc (by omega)))]; rfl
  have le : ld1 (HeapC.del qr l) (.pointer (some ⟨ec, 0, none⟩)) = some (.pointer (some ⟨es, 0, none⟩)) := by rw [ld1_holds' (hi.pe.eqf (fd ec (by omega)))]; rfl
  obtain ⟨h9, t1, t2⟩ := takeAll_ok (df := [l + 1]) (h := HeapC.del qr l) (by simp) (fun d hd => by
    rw [List.mem_singleton.1 hd, del_f, if_neg (by omega)]; exact e3)
  have k9 : ∀ b, b ≠ l → b ≠ l + 1 → h9.f b = qr.f b := fun b h1 h2 => by
    rw [t2 b (by simpa using h2), fd b h1]
  have fx := And.intro lv (And.intro le t1)
  refine Ans.go ?_
  clear fx
  refine .done ⟨rfl, rfl, (by show c ≤ qc + 1; omega), fun b hb => ?_, vs, B0, es, B1, rfl, ?_, ?_, ?_, ?_, ?_, ?_⟩
  · show h9.f b = h.f b
    rw [k9 b (by omega) (by omega), e5 b (by omega) (by omega), fM b (by omega), low b (by omega), sH b hb]
  · show vs < 256 * (qc + 1); omega
  · show B0 < 256 * (qc + 1); omega
  · show es < 256 * (qc + 1); omega
  · show B1 < 256 * (qc + 1); omega
  · exact hi.uv.keep (k9 _ (by omega) (by omega)) (k9 _ (by omega) (by omega))
  · exact hi.ue.keep (k9 _ (by omega) (by omega)) (k9 _ (by omega) (by omega))
end Go.Proofs.Ytcnndelmnobigaa

namespace Go.Proofs.Ytcnndelmnobigaa
open Go Go.Ab Go.Proofs
set_option maxRecDepth 100000
set_option linter.unusedVariables false
set_option linter.unusedSimpArgs false
end Go.Proofs.Ytcnndelmnobigaa

namespace Go.Proofs.Ytcnndelmnobigaa
open Go Go.Ab Go.Proofs
set_option maxRecDepth 100000
set_option linter.unusedVariables false
set_option linter.unusedSimpArgs false
end Go.Proofs.Ytcnndelmnobigaa

namespace Go.Proofs.Ytcnndelmnobigaa
open Go Go.Ab Go.Proofs
set_option maxRecDepth 100000
set_option linter.unusedVariables false
set_option linter.unusedSimpArgs false
theorem withinI {V : List Int} (h : withinB V = true) (j : Int) : 0 ≤ gi V j ∧ gi V j ≤ 1000000 := by
  have := withinB_at h j.toNat
  unfold gi at this ⊢
  rwa [Int.toNat_natCast] at this
def sumL : List Int → Int
  | [] => 0
  | x :: l => x + sumL l
theorem sumL_append : ∀ (A B : List Int), sumL (A ++ B) = sumL A + sumL B
  | [], B => by simp [sumL]
  | x :: A, B => by rw [List.cons_append, sumL, sumL, sumL_append A B]; omega
theorem bldL_v {h : FH} {c : Nat} {v : Value} {sz n : Nat} {V : List Int} (hv : SlI h c v sz n V) : bldL [(.slice none 0 0)] [(0, 1, v)] = some [v] := by
  obtain ⟨_, _, a, cap, rfl, _⟩ := hv
  rfl
end Go.Proofs.Ytcnndelmnobigaa

namespace Go.Proofs.Ytcnndelmnobigaa
open Go Go.Ab Go.Proofs
set_option maxRecDepth 100000
set_option linter.unusedVariables false
set_option linter.unusedSimpArgs false
def lkK (L : List Int) (first : Nat) : Nat → Nat → List Int → List Int
  | 0, _, X => X
  | r + 1, x, X => lkK L first r (x + 1) (if rootL L x = first then X.set (x / 4 * 7 + x % 4) 1 else X)
theorem lkK_length (L : List Int) (first : Nat) : ∀ (r x : Nat) (X : List Int), (lkK L first r x X).length = X.length
  | 0, _, _ => rfl
  | r + 1, x, X => by
    rw [lkK, lkK_length]
    split
    · simp
    · rfl
def lkRow (L : List Int) (n : Nat) (first : Int) : List Int := lkK L first.toNat (4 * n) 0 (List.replicate (7 * n) 0)
theorem quo_nat (x d : Nat) (hd : 0 < d) (hx : x < 1000000000) : aBinOp P .quo 3 (.int .i64 (x : Int)) (.int .i64 (d : Int)) = some (.int .i64 (x / d : Nat)) := by
  have h1 : ((x : Int).tdiv (d : Int)) = ((x / d : Nat) : Int) := by rw [Int.tdiv_eq_ediv_of_nonneg (by omega)]; rfl
  have h2 : x / d ≤ x := Nat.div_le_self _ _
  obtain ⟨y, hy⟩ : ∃ y, x / d = y := ⟨_, rfl⟩
  rw [hy] at h1 h2 ⊢
  rw [aBinOp_quo _ _ _ (by omega) (by rw [h1]; omega) (by rw [h1]; omega), h1]
theorem rem_nat (x d : Nat) (hd : 0 < d) : aBinOp P .rem 3 (.int .i64 (x : Int)) (.int .i64 (d : Int)) = some (.int .i64 (x % d : Nat)) := by
  rw [aBinOp_rem _ _ _ (by omega), Int.tmod_eq_emod_of_nonneg (by omega)]; rfl
theorem link_loop (h0 : FH) (gb p b lb n c : Nat) (L : List Int) (out F v27 v28 : Value) (first : Nat) (hn : n ≤ 60) (u : Uf h0 p b (4 * n) L) (hp : p < 256 * c) (hb : b < 256 * c) (hgb : gb < 256 * c) (hlb : lb < 256 * c) (h1 : lb ≠ p) (h2 : lb ≠ b) (o1 : OkV c out) (o2 : OkV c F) (o3 : OkV c v27) (o4 : OkV c v28) (df : List Nat) :
    ∀ (r x : Nat) (X : List Int), x + r = 4 * n → X.length = 7 * n →
    Ans (G (f14_k14001 none) [ptrTo gb, ptrTo p, out, .int .i64 first, .slice (some ⟨lb, 0, none⟩) (7 * n) (7 * n), F, v27, v28, .int .i64 (4 * n : Nat), .int .i64 x] (newB h0 lb (ints X)) c df) fun q => q = { e := .exit 2, vs := [ptrTo gb, ptrTo p, out, .int .i64 first, .slice (some ⟨lb, 0, none⟩) (7 * n) (7 * n), F, v27, v28, .int .i64 (4 * n : Nat), .int .i64 (4 * n : Nat)], h := newB h0 lb (ints (lkK L first r x X)), c := c, df := df } := by
  intro r
  induction r with
  | zero =>
    intro x X hx hX
    obtain rfl : x = 4 * n := by omega
    refine Ans.loop (fun q r => f14_N14001) (fun q => f14_Z14001) ?_
    unfold f14_L14001
    have fx := True.intro
    refine Ans.go ?_
    clear fx
    (have fx := And.intro hgb (And.intro hp (And.intro hlb (And.intro o1 (And.intro o2 (And.intro o3 o4))))); refine Ans.ex0 ?_; clear fx)
    rfl
  | succ r ih =>
    intro x X hx hX
    have u' : Uf (newB h0 lb (ints X)) p b (4 * n) L := u.keep (by rw [newB_f, if_neg (Ne.symm h1)]) (by rw [newB_f, if_neg (Ne.symm h2)])
    have c1 : ∀ c', c ≤ c' → callF G 46 [.pointer (some ⟨p, 0, none⟩), .int .i64 x] (newB h0 lb (ints X)) c' = _ := fun c' (hc : c ≤ c') => callF_of (root_sp (newB h0 lb (ints X)) p b (4 * n) c' L u' (by omega) x (by omega) [])
    have q1 := quo_nat x 4 (by omega) (by omega)
    have q2 := rem_nat x 4 (by omega)
    simp only [Int.ofNat_eq_natCast, Int.cast_ofNat_Int] at q1 q2
    have hw : stN (newB h0 lb (ints X)) 1 (.pointer (some ⟨lb, x / 4 * 7 + x % 4, none⟩)) (.int .i64 1) = some (newB h0 lb (ints (X.set (x / 4 * 7 + x % 4) 1))) := by
      rw [st1_int _ _ _ _ _ _ (by simp; omega), ints_set]
    have d1 : x / 4 ≤ n - 1 := by omega
    have d2 : x % 4 < 4 := by omega
    obtain ⟨T, hT⟩ : ∃ T, x / 4 = T := ⟨_, rfl⟩
    obtain ⟨E, hE⟩ : ∃ E, x % 4 = E := ⟨_, rfl⟩
    rw [lkK]
    rw [hT] at q1 hw d1 ⊢
    rw [hE] at q2 hw d2 ⊢
    have hx4 : (x : Int) < (4 * n : Nat) := by omega
    have hr := rootL_le u.dn (i := x) (by omega)
    obtain ⟨R, hR⟩ : ∃ R, rootL L x = R := ⟨_, rfl⟩
    rw [hR] at c1 hr ⊢
    have e7 : ((T : Int) * 7 + E).toNat = T * 7 + E := by omega
    refine Ans.loop (fun q r => f14_N14001) (fun q => f14_Z14001) ?_
    unfold f14_L14001
    by_cases e : R = first
    · rw [if_pos e]
      have e' : (R : Int) = first := by omega
      have fx := And.intro c1 (And.intro q1 (And.intro q2 (And.intro e7 hw)))
      refine Ans.go ?_
      clear fx
      (have fx := And.intro hgb (And.intro hp (And.intro hlb (And.intro o1 (And.intro o2 (And.intro o3 o4))))); refine Ans.nxB (B := newB h0 lb (ints (X.set (T * 7 + E) 1))) ?_ ?_; exact Upto.both (OkVs.ints _ _) (Upto.refl _ _) hlb; clear fx)
      exact ih (x + 1) _ (by omega) (by simp [hX])
    · rw [if_neg e]
      have e' : ¬ (R : Int) = first := by omega
      have fx := c1
      refine Ans.go ?_
      clear fx
      (have fx := And.intro hgb (And.intro hp (And.intro hlb (And.intro o1 (And.intro o2 (And.intro o3 o4))))); refine Ans.nx0 ?_; clear fx)
      exact ih (x + 1) X (by omega) hX
end Go.Proofs.Ytcnndelmnobigaa

namespace Go.Proofs.Ytcnndelmnobigaa
open Go Go.Ab Go.Proofs
set_option maxRecDepth 100000
set_option linter.unusedVariables false
set_option linter.unusedSimpArgs false
def LkV (c0 : Nat) (h : FH) (c : Nat) (v : Value) (n : Nat) (L : List Int) (i : Nat) (Fl : List Int) : Prop :=
  ∃ vals, AppG c0 h c v i vals ∧ ∀ (k : Nat) (x : Int), k < i → Fl[k]? = some x → ∃ w, vals[k]? = some w ∧ RowV c0 h c w (7 * n) (lkRow L n x) ∧ blkOf w ≠ blkOf v
theorem links_loop (s : Value) (n : Nat) (Gl : List Int) (gb p b c0 : Nat) (L : List Int) (F : Value) (m : Nat) (Fl : List Int) (hn : n ≤ 60) (hgb : gb < 256 * c0) (hp : p < 256 * c0) (hb : b < 256 * c0) (hF : ∀ x, x ∈ Fl → ∃ k : Nat, x = k ∧ k < 4 * n) (hm : m ≤ 1000) (df : List Nat) :
    ∀ (k i cc : Nat) (h : FH) (out : Value), i + k = m → c0 ≤ cc → Holds h gb [s] → SlI h c0 s 20 n Gl → Uf h p b (4 * n) L → SlI h cc F 1 m Fl → (0 < m → blkOf F ≠ blkOf out) → LkV c0 h cc out n L i Fl →
    Ans (G (f14_k14000 none) [ptrTo gb, ptrTo p, out, F, .int .i64 m, .int .i64 i] h cc df) fun r => r.e = .exit 0 ∧ cc ≤ r.c ∧ r.df = df ∧ Same c0 h r.h ∧ LkV c0 r.h r.c (r.v 2) n L m Fl := by
  intro k
  induction k with
  | zero =>
    intro i cc h out hi hc hg hs u sf hne hv
    obtain rfl : i = m := by omega
    refine Ans.loop' (fun q r => f14_N14000) (fun q => f14_Z14000) ?_
    unfold f14_L14000
    have fx := True.intro
    refine Ans.go ?_
    clear fx
    refine Ans.exitN ⟨rfl, (by show cc ≤ cc + 1; omega), rfl, fun _ _ => rfl, ?_⟩
    obtain ⟨vals, a1, a2⟩ := hv
    refine ⟨vals, a1.mono (by show cc ≤ cc + 1; omega), fun k x h1 h2 => ?_⟩
    obtain ⟨w, w1, ⟨q, z1, z2, z3, z4⟩, w3⟩ := a2 k x h1 h2
    exact ⟨w, w1, ⟨q, z1, z2, (by show q < 256 * (cc + 1); omega), z4⟩, w3⟩
  | succ k ih =>
    intro i cc h out hi hc hg hs u sf hne hv
    obtain ⟨vals, a1, a2⟩ := hv
    have hFl := sf.1
    have l1 := sf.rdi i (by omega) (by omega)
    simp only [Int.toNat_natCast] at l1
    rw [gi_nat] at l1
    have hLi : Fl.getD i 0 = Fl[i]'(by omega) := by simp [List.getD_eq_getElem?_getD, List.getElem?_eq_getElem (by omega : i < Fl.length)]
    obtain ⟨x, hx, hx6⟩ := hF (Fl[i]'(by omega)) (List.getElem_mem _)
    rw [hLi, hx] at l1
    have lg : ld1 h (.pointer (some ⟨gb, 0, none⟩)) = some s := by rw [ld1_holds' hg]; rfl
    have ls := hs.len
    have mk := mkS_int 1 8 .i64 .i64 (7 * n) (by omega) (by omega)
    rw [show ((7 * n : Nat) : Int) = 7 * (n : Int) by omega] at mk
    obtain ⟨lb, hlb⟩ : ∃ lb, lb = 256 * (cc + 1 + 1) + 4 := ⟨_, rfl⟩
    have s1 : ∀ X, Same (cc + 1) h (newB h lb X) := fun X q hq => by rw [newB_f, if_neg (by omega)]
    have lu : ∀ X, ld1 (newB h lb X) (.pointer (some ⟨p, 0, none⟩)) = some (.slice (some ⟨b, 0, none⟩) (4 * n) (4 * n)) := fun X => (u.same (s1 X) (by omega) (by omega)).ld
    have bo := a1.blk
    have bF : 0 < m → blkOf F < 256 * cc := fun hp => sf.blk hp
    have hin := Ans.eq (link_loop h gb p b lb n (cc + 1 + 1 + 1 + 1) L out F (.int .i64 m) (.int .i64 i) x hn u (by omega) (by omega) (by omega) (by omega) (by omega) (by omega) (by obtain ⟨_, _, _, j, op, rfl, _, h6, _⟩ := a1; exact OkV.sl (by omega)) ((sf.mono (by omega)).okV) (by simp) (by simp) df (4 * n) 0 (List.replicate (7 * n) 0) (by omega) (by simp))
    rw [show lkK L x (4 * n) 0 (List.replicate (7 * n) 0) = lkRow L n x by rw [lkRow, Int.toNat_natCast]] at hin
    rw [show ((4 * n : Nat) : Int) = 4 * (n : Int) by omega] at hin
    simp only [Int.ofNat_eq_natCast, Int.cast_ofNat_Int] at hin
    obtain ⟨X, hX⟩ : ∃ X, lkRow L n x = X := ⟨_, rfl⟩
    have hXl : X.length = 7 * n := by rw [← hX, lkRow, lkK_length]; simp
    obtain ⟨H, hH⟩ : ∃ H, newB h lb (ints X) = H := ⟨_, rfl⟩
    rw [hX, hH] at hin
    have sH : Same (cc + 1) h H := by rw [← hH]; exact s1 _
    have fl : H.f lb = some (.cells false none (ints X)) := by rw [← hH, newB_f, if_pos rfl]
    have hbl : bldL [(.slice none 0 0)] [(0, 1, (.slice (some ⟨lb, 0, none⟩) (7 * n) (7 * n)))] = some [.slice (some ⟨lb, 0, none⟩) (7 * n) (7 * n)] := rfl
    obtain ⟨h', p1, p2, p3⟩ := ((a1.keep (h' := H) (sH _ (by omega))).mono (c' := cc + 1 + 1 + 1 + 1) (by omega)).app (c' := cc + 1 + 1 + 1 + 1 + 1) (.slice (some ⟨lb, 0, none⟩) (7 * n) (7 * n)) rfl 24 (256 * (cc + 1 + 1 + 1 + 1) + 2) (256 * (cc + 1 + 1 + 1 + 1) + 3) (by omega) (by omega) (by omega) (by omega) (by omega) (by omega)
    have s0 : Same c0 h h' := fun q hq => by rw [p3 q (by omega) (by omega), sH q (by omega)]
    refine Ans.loop' (fun q r => f14_N14000) (fun q => f14_Z14000) ?_
    unfold f14_L14000
    rw [← hlb]
    have fx := And.intro sf.ixs1 (And.intro l1 (And.intro lg (And.intro ls (And.intro mk (And.intro lu (And.intro hin (And.intro hbl p1)))))))
    refine Ans.go ?_
    clear fx
    refine Ans.nextN ?_
    have him : (i : Int) < m := by omega
    refine (ih (i + 1) _ h' _ (by omega) (by omega) (hg.same hgb s0) (hs.same s0) (u.same s0 hp hb) ((sf.keep (fun hp => ?_)).mono (by omega)) (fun hp => ?_) ⟨_, p2.mono (by omega), fun j y hj hy => ?_⟩).mono ?_
    · rw [p3 _ (by have := bF hp; omega) (hne hp), sH _ (by have := bF hp; omega)]
    · rw [blkOf_sl]; have := bF hp; omega
    · have hvl : vals.length = i := a1.1
      rcases Nat.lt_or_ge j i with hji | hji
      · obtain ⟨w, w1, ⟨q, z1, z2, z3, z4, z5⟩, w3⟩ := a2 j y hji hy
        rw [z1, blkOf_sl] at w3
        refine ⟨w, by rw [List.getElem?_append_left (by omega)]; exact w1, ⟨q, z1, z2, by omega, ?_, z5⟩, by rw [z1, blkOf_sl, blkOf_sl]; omega⟩
        rw [p3 q (by omega) w3, sH q (by omega), z4]
      · obtain rfl : j = i := by omega
        have hy' : y = x := by
          rw [List.getElem?_eq_getElem (by omega)] at hy
          rw [← hx]; exact (Option.some.inj hy).symm
        subst hy'
        rw [hX]
        refine ⟨_, by rw [List.getElem?_append_right (by omega), hvl, Nat.sub_self]; rfl, ⟨lb, rfl, by omega, by omega, ?_, hXl, by omega⟩, by rw [blkOf_sl, blkOf_sl]; omega⟩
        rw [p3 lb (by omega) (by omega), fl]
    · rintro r ⟨q1, q2, q3, q4, q5⟩
      exact ⟨q1, by omega, q3, s0.trans q4, q5⟩
end Go.Proofs.Ytcnndelmnobigaa

namespace Go.Proofs.Ytcnndelmnobigaa
open Go Go.Ab Go.Proofs
set_option maxRecDepth 100000
set_option linter.unusedVariables false
set_option linter.unusedSimpArgs false
def vxC (Gl : List Int) (n : Nat) : List Int := vCl n (allM Gl n)
def vxF (Gl : List Int) (n : Nat) : List Int := firstsL (vxC Gl n) (4 * n)
theorem vxF_mem {Gl : List Int} {n : Nat} {x : Int} (hx : x ∈ vxF Gl n) : ∃ k : Nat, x = k ∧ k < 4 * n ∧ rootL (vxC Gl n) k = k := mem_firstsL hx
set_option maxHeartbeats 1000000 in
theorem links_sp (s : Value) (n : Nat) (Gl : List Int) (h : FH) (c : Nat) (df : List Nat) (hs : SlI h c s 20 n Gl) :
    Ans (G (.fn 14) [.agg #[s]] h c df) fun r => r.e = .ret ∧ r.df = [] ∧ c ≤ r.c ∧ Same c h r.h ∧
      ((refE Gl n ≠ 0 ∧ r.vs = [.tuple #[.slice none 0 0, .int .i64 (refE Gl n)]]) ∨ (refE Gl n = 0 ∧ ∃ v, r.vs = [.tuple #[v, .int .i64 0]] ∧ LkV c r.h r.c v n (vxC Gl n) (vxF Gl n).length (vxF Gl n))) := by
  refine Ans.call' (fun r e => f14_go e) ?_
  unfold f14_S
  rw [flat1 hs.flat, cell1, Nat.add_zero]
  simp only [cond_true]
  obtain ⟨H, hH⟩ : ∃ H, H = newB h (256 * c) [s] := ⟨_, rfl⟩
  have sH : Same c h H := by rw [hH]; simp (disch := omega)
  have hg : Holds H (256 * c) [s] := by rw [hH]; exact Holds.newB_same _ _ _
  rw [← hH]
  clear hH
  have l1 := ldN1_own hg
  have ch := callF_of (refused_sp s n Gl H (c + 1 + 1) [] ((hs.same sH).mono (by omega)))
  obtain ⟨E, hE⟩ : ∃ E, refE Gl n = E := ⟨_, rfl⟩
  by_cases h0 : E = 0
  case neg =>
    rw [hE] at ch ⊢
    have fx := And.intro l1 ch
    refine Ans.go ?_
    clear fx
    exact .done ⟨rfl, rfl, (by show c ≤ c + 1 + 1 + 1 + 1; omega), sH, .inl ⟨h0, rfl⟩⟩
  obtain ⟨hn, hok⟩ := refE_zero (hE.trans h0)
  rw [hE] at ch ⊢
  subst h0
  obtain ⟨⟨re, rv, H1, c1, rd⟩, hr, r1, r2, r3, r4, vs, vu, es, eu, rfl, b1, b2, b3, b4, u1, u2⟩ := classes_sp s n Gl H (c + 1 + 1 + 1 + 1) [] ((hs.same sH).mono (by omega)) hok hn
  simp only at r1 r2 r3 r4 b1 b2 b3 b4 u1 u2
  subst r1 r2
  have cc := callF_of hr
  have hb0 : bldL [] [] = some [] := rfl
  obtain ⟨H2, hH2⟩ : ∃ H2, newB H1 (256 * c1) [] = H2 := ⟨_, rfl⟩
  have s12 : Same c1 H1 H2 := by rw [← hH2]; intro b hb; rw [newB_f, if_neg (by omega)]
  have f2 : H2.f (256 * c1) = some (.cells false none []) := by rw [← hH2, newB_f, if_pos rfl]
  have u12 := u1.same s12 b1 b2
  obtain ⟨⟨re, rv, H3, c3, rd⟩, hr', F, q1, q2, q3, q4⟩ := firsts_sp vs vu (4 * n) _ H2 (c1 + 1 + 1) [] u12 (by omega) (by omega)
  obtain ⟨rfl, rfl, -, -, rfl⟩ := Rt.mk.inj q1
  simp only at q2 q3 q4
  have cf : callF G 45 [.pointer (some ⟨vs, 0, none⟩)] H2 (c1 + 1 + 1) = some (F, H3, c3) := callF_of hr'
  have hFl := firstsL_len (vCl n (allM Gl n)) (4 * n)
  have hmem : ∀ x, x ∈ firstsL (vCl n (allM Gl n)) (4 * n) → ∃ k : Nat, x = k ∧ k < 4 * n := fun x hx => by
    obtain ⟨k, h1, h2, _⟩ := mem_firstsL hx; exact ⟨k, h1, h2⟩
  have lf := q4.sl.len
  unfold vxF vxC
  have u13 : Uf H3 vs vu (4 * n) (vCl n (allM Gl n)) := u12.same q3 (by omega) (by omega)
  obtain ⟨C, hC⟩ : ∃ C, vCl n (allM Gl n) = C := ⟨_, rfl⟩
  rw [hC] at q4 lf hFl hmem u13 ⊢
  obtain ⟨L, hL⟩ : ∃ L, firstsL C (4 * n) = L := ⟨_, rfl⟩
  rw [hL] at q4 lf hFl hmem ⊢
  have sv : Same c h H3 := sH.trans (((r4.mono (by omega : c ≤ c + 1 + 1 + 1 + 1)).trans (s12.mono (by omega))).trans (q3.mono (by omega)))
  have sv1 : Same (c + 1) H H3 := ((r4.mono (by omega : c + 1 ≤ c + 1 + 1 + 1 + 1)).trans (s12.mono (by omega))).trans (q3.mono (by omega))
  have hne : 0 < L.length → blkOf F ≠ blkOf (.slice (some ⟨256 * c1, 0, none⟩) 0 0) := fun hp => by
    obtain ⟨z1, z2, ⟨rfl, z3⟩ | ⟨i, rfl, z3, z4, z5⟩⟩ := q4
    · omega
    · rw [blkOf_sl, blkOf_sl]; omega
  have f3 : H3.f (256 * c1) = some (.cells false none []) := by rw [q3 _ (by omega), f2]
  obtain ⟨⟨re, rv, H4, c4, rd⟩, hr2, g1, g2, g3, g4, g5⟩ := links_loop s n Gl (256 * c) vs vu c1 C F L.length L hn (by omega) (by omega) (by omega) hmem (by omega) [] L.length 0 c3 H3 (.slice (some ⟨256 * c1, 0, none⟩) 0 0) (by omega) (by omega) (hg.eqf (sv1 _ (by omega))) ((hs.same sv).mono (by omega)) u13 q4.sl hne ⟨[], ⟨rfl, by omega, rfl, 256 * c1, none, rfl, by omega, by omega, f3, .inl rfl⟩, fun k x hk => by omega⟩
  simp only [Int.ofNat_eq_natCast, Int.cast_ofNat_Int] at hr2
  simp only at g1 g2 g3 g4 g5
  subst g1 g3
  have fx := And.intro l1 (And.intro ch (And.intro cc (And.intro hb0 (And.intro hH2 (And.intro cf (And.intro lf hr2))))))
  refine Ans.go ?_
  clear fx
  have g6 : LkV c H4 (c4 + 1) (Rt.v { e := Ex.exit 0, vs := rv, h := H4, c := c4, df := [] } 2) n C L.length L := by
    obtain ⟨vals, ⟨z1, z2, z3, i, op, z4, z5, z6, z7, z8⟩, z9⟩ := g5
    refine ⟨vals, ⟨z1, z2, z3, i, op, z4, by omega, by omega, z7, z8⟩, fun k x h1 h2 => ?_⟩
    obtain ⟨w, w1, ⟨q, y1, y2, y3, y4, y5⟩, w3⟩ := z9 k x h1 h2
    exact ⟨w, w1, ⟨q, y1, by omega, by omega, y4, y5⟩, w3⟩
  exact .done ⟨rfl, rfl, (by show c ≤ c4 + 1; omega), sv.trans (g4.mono (by omega)), .inr ⟨rfl, _, rfl, g6⟩⟩
end Go.Proofs.Ytcnndelmnobigaa

namespace Go.Proofs.Ytcnndelmnobigaa
open Go Go.Ab Go.Proofs
set_option maxRecDepth 100000
set_option linter.unusedVariables false
set_option linter.unusedSimpArgs false
def sI (V : List Int) (t f : Nat) : Nat → Nat → Int
  | 0, _ => 0
  | r + 1, i => (if i = f then 0 else arcV V t f i) + sI V t f r (i + 1)
def eSkip (Gl : List Int) (t f : Nat) : Bool := decide (0 ≤ tetL (faceL Gl t f) ∧ (tetL (faceL Gl t f) < t ∨ (tetL (faceL Gl t f) = t ∧ (permL (faceL Gl t f)).getD f 0 < f)))
def sF (Gl V : List Int) (t : Nat) : Nat → Nat → Int
  | 0, _ => 0
  | r + 1, f => (if eSkip Gl t f = true then 0 else sI V t f 4 0) + sF Gl V t r (f + 1)
def sT (Gl V : List Int) : Nat → Nat → Int
  | 0, _ => 0
  | r + 1, t => sF Gl V t 4 0 + sT Gl V r (t + 1)
end Go.Proofs.Ytcnndelmnobigaa

namespace Go.Proofs.Ytcnndelmnobigaa
open Go Go.Ab Go.Proofs
set_option maxRecDepth 100000
set_option linter.unusedVariables false
set_option linter.unusedSimpArgs false
end Go.Proofs.Ytcnndelmnobigaa

namespace Go.Proofs.Ytcnndelmnobigaa
open Go Go.Ab Go.Proofs
set_option maxRecDepth 100000
set_option linter.unusedVariables false
set_option linter.unusedSimpArgs false
theorem sameB_of {x : Option Nat} {h1 h2 : FH} (e : ∀ i, x = some i → h1.f i = h2.f i) : sameB x h1 h2 = true := by
  cases x with
  | none => rfl
  | some i =>
    show @decide (h1.f i = h2.f i) (Classical.propDecidable _) = true
    exact @decide_eq_true _ (Classical.propDecidable _) (e i rfl)
theorem face_split {x : List Int} (hx : x.length = 5) : x = tetL x :: permL x := by
  match x, hx with
  | [a, b, c, d, e], _ => rfl
end Go.Proofs.Ytcnndelmnobigaa

namespace Go.Proofs.Ytcnndelmnobigaa
open Go Go.Ab Go.Proofs
set_option maxRecDepth 100000
set_option linter.unusedVariables false
set_option linter.unusedSimpArgs false
theorem SlI.up {h : FH} {c c' : Nat} {s : Value} {sz n : Nat} {Gl : List Int} (hs : SlI h c s sz n Gl) (hc : c ≤ c') : SlI h c' s sz n Gl := hs.mono hc
end Go.Proofs.Ytcnndelmnobigaa

namespace Go.Ab
open Go
set_option linter.unusedVariables false
inductive Tri where
  | leaf
  | node (b : Option ABlk) (l r : Tri)
def Tri.get : Tri → Nat → Option ABlk
  | .leaf, _ => none
  | .node b l r, i => cond (Nat.beq i 0) b (cond (Nat.beq (i % 2) 1) (l.get (i / 2)) (r.get (i / 2 - 1)))
def Tri.upd : Nat → Tri → Nat → Option ABlk → Tri
  | 0, t, _, o => match t with
    | .leaf => .node o .leaf .leaf
    | .node _ l r => .node o l r
  | n + 1, t, i, o => match t with
    | .leaf => cond (Nat.beq i 0) (.node o .leaf .leaf) (cond (Nat.beq (i % 2) 1) (.node none (Tri.upd n .leaf (i / 2) o) .leaf) (.node none .leaf (Tri.upd n .leaf (i / 2 - 1) o)))
    | .node b l r => cond (Nat.beq i 0) (.node o l r) (cond (Nat.beq (i % 2) 1) (.node b (Tri.upd n l (i / 2) o) r) (.node b l (Tri.upd n r (i / 2 - 1) o)))
theorem Tri.get_upd : ∀ (n : Nat) (t : Tri) (i : Nat) (o : Option ABlk) (j : Nat), i ≤ n → (Tri.upd n t i o).get j = if j = i then o else t.get j := by
  have key : ∀ (b : Option ABlk) (l r : Tri) (i : Nat), (Tri.node b l r).get i = if i = 0 then b else if i % 2 = 1 then l.get (i / 2) else r.get (i / 2 - 1) := by
    intro b l r i
    simp only [Tri.get]
    by_cases h0 : i = 0
    · subst h0; rfl
    · have : Nat.beq i 0 = false := by rw [Bool.eq_false_iff]; intro h; exact h0 (Nat.eq_of_beq_eq_true h)
      rw [this]
      simp only [h0, if_false, cond_false]
      by_cases h1 : i % 2 = 1
      · simp [h1]
      · have : Nat.beq (i % 2) 1 = false := by rw [Bool.eq_false_iff]; intro h; exact h1 (Nat.eq_of_beq_eq_true h)
        simp [h1, this]
  have leafg : ∀ j, Tri.leaf.get j = none := fun _ => rfl
  intro n
  induction n with
  | zero =>
    intro t i o j hi
    have : i = 0 := by omega
    subst this
    cases t with
    | leaf =>
      simp only [Tri.upd, key, leafg]
      split <;> simp
    | node b l r =>
      simp only [Tri.upd, key]
      by_cases h : j = 0 <;> simp [h]
  | succ n ih =>
    intro t i o j hi
    by_cases h0 : i = 0
    · subst h0
      cases t with
      | leaf =>
        simp only [Tri.upd, Nat.beq_refl, cond_true, key, leafg]
        split <;> simp
      | node b l r =>
        simp only [Tri.upd, Nat.beq_refl, cond_true, key]
        by_cases h : j = 0 <;> simp [h]
    · have hb0 : Nat.beq i 0 = false := by rw [Bool.eq_false_iff]; intro h; exact h0 (Nat.eq_of_beq_eq_true h)
      by_cases h1 : i % 2 = 1
      · have hb1 : Nat.beq (i % 2) 1 = true := by rw [h1]; rfl
        cases t with
        | leaf =>
          simp only [Tri.upd, hb0, hb1, cond_true, cond_false, key, leafg]
          by_cases hj : j = 0
          · subst hj; simp [Ne.symm h0]
          · simp only [hj, if_false]
            by_cases hj1 : j % 2 = 1
            · simp only [hj1, if_true]
              rw [ih _ _ _ _ (by omega), leafg]
              by_cases e : j = i
              · simp [e]
              · rw [if_neg e, if_neg (by omega)]
            · rw [if_neg hj1, if_neg (by omega)]
        | node b l r =>
          simp only [Tri.upd, hb0, hb1, cond_true, cond_false, key]
          by_cases hj : j = 0
          · subst hj; simp [Ne.symm h0]
          · simp only [hj, if_false]
            by_cases hj1 : j % 2 = 1
            · simp only [hj1, if_true]
              rw [ih _ _ _ _ (by omega)]
              by_cases e : j = i
              · simp [e]
              · rw [if_neg e, if_neg (by omega)]
            · rw [if_neg hj1, if_neg (show ¬ j = i by omega), if_neg hj1]
      · have hb1 : Nat.beq (i % 2) 1 = false := by rw [Bool.eq_false_iff]; intro h; exact h1 (Nat.eq_of_beq_eq_true h)
        cases t with
        | leaf =>
          simp only [Tri.upd, hb0, hb1, cond_true, cond_false, key, leafg]
          by_cases hj : j = 0
          · subst hj; simp [Ne.symm h0]
          · simp only [hj, if_false]
            by_cases hj1 : j % 2 = 1
            · rw [if_pos hj1, if_neg (by omega)]
            · rw [if_neg hj1, ih _ _ _ _ (by omega), leafg]
              by_cases e : j = i
              · simp [e]
              · rw [if_neg e, if_neg (by omega)]
        | node b l r =>
          simp only [Tri.upd, hb0, hb1, cond_true, cond_false, key]
          by_cases hj : j = 0
          · subst hj; simp [Ne.symm h0]
          · simp only [hj, if_false]
            by_cases hj1 : j % 2 = 1
            · rw [if_pos hj1, if_neg (show ¬ j = i by omega), if_pos hj1]
            · rw [if_neg hj1, ih _ _ _ _ (by omega)]
              by_cases e : j = i
              · simp [e]
              · rw [if_neg e, if_neg (by omega), if_neg hj1]
def addrEq : Option Addr → Option Addr → Bool
  | none, none => true
  | some ⟨a, b, none⟩, some ⟨c, d, none⟩ => Nat.beq a c && Nat.beq b d
  | _, _ => false
def valEq : Value → Value → Bool
  | .bool a, .bool b => a == b
  | .int k n, .int k' n' => decide (k = k') && n == n'
  | .pointer a, .pointer b => addrEq a b
  | .slice a l c, .slice b l' c' => addrEq a b && Nat.beq l l' && Nat.beq c c'
  | .map (some a), .map (some b) => Nat.beq a b
  | .map none, .map none => true
  | .nilFunc, .nilFunc => true
  | .nilIface, .nilIface => true
  | _, _ => false
def valsEq : List Value → List Value → Bool
  | [], [] => true
  | x :: xs, y :: ys => valEq x y && valsEq xs ys
  | _, _ => false
def optNatEq : Option Nat → Option Nat → Bool
  | none, none => true
  | some a, some b => Nat.beq a b
  | _, _ => false
def blkEq : Option ABlk → Option ABlk → Bool
  | none, none => true
  | some (.cells ro o c), some (.cells ro' o' c') => ro == ro' && optNatEq o o' && valsEq c c'
  | some .dead, some .dead => true
  | some .dfr, some .dfr => true
  | _, _ => false
theorem addrEq_eq {a b : Option Addr} (h : addrEq a b = true) : a = b := by
  unfold addrEq at h
  split at h
  · rfl
  · simp only [Bool.and_eq_true] at h
    rw [Nat.eq_of_beq_eq_true h.1, Nat.eq_of_beq_eq_true h.2]
  · cases h
theorem valEq_eq {a b : Value} (h : valEq a b = true) : a = b := by
  unfold valEq at h
  split at h
  · simp at h; rw [h]
  · simp at h; rw [h.1, h.2]
  · rw [addrEq_eq h]
  · simp only [Bool.and_eq_true] at h
    rw [addrEq_eq h.1.1, Nat.eq_of_beq_eq_true h.1.2, Nat.eq_of_beq_eq_true h.2]
  · rw [Nat.eq_of_beq_eq_true h]
  · rfl
  · rfl
  · rfl
  · cases h
theorem valsEq_eq : ∀ {a b : List Value}, valsEq a b = true → a = b
  | [], [], _ => rfl
  | x :: xs, y :: ys, h => by
    simp only [valsEq, Bool.and_eq_true] at h
    rw [valEq_eq h.1, valsEq_eq h.2]
  | [], y :: ys, h => by cases h
  | x :: xs, [], h => by cases h
theorem optNatEq_eq {a b : Option Nat} (h : optNatEq a b = true) : a = b := by
  unfold optNatEq at h
  split at h
  · rfl
  · rw [Nat.eq_of_beq_eq_true h]
  · cases h
theorem blkEq_eq (a b : Option ABlk) (h : blkEq a b = true) : a = b := by
  unfold blkEq at h
  split at h
  · rfl
  · simp only [Bool.and_eq_true] at h
    have h1 := h.1.1
    rw [optNatEq_eq h.1.2, valsEq_eq h.2]
    simp at h1
    rw [h1]
  · rfl
  · rfl
  · cases h
instance : HeapC Tri where
  get h i := h.get i
  set h i b := Tri.upd i h i (some b)
  del h i := Tri.upd i h i none
  eqB := blkEq
  eqB_eq := blkEq_eq
  get_set h i b j := Tri.get_upd i h i (some b) j (Nat.le_refl _)
  get_del h i j := Tri.get_upd i h i none j (Nat.le_refl _)
end Go.Ab

namespace Go.Ab
open Go
set_option linter.unusedVariables false
noncomputable def tget (t : Tri) : Nat → Option ABlk :=
  Tri.rec (motive := fun _ => Nat → Option ABlk) (fun _ => none)
    (fun b _ _ l r i => cond (Nat.beq i 0) b (cond (Nat.beq (Nat.mod i 2) 1) (l (Nat.div i 2)) (r (Nat.sub (Nat.div i 2) 1)))) t
theorem tget_eq : ∀ (t : Tri) (i : Nat), tget t i = t.get i
  | .leaf, i => rfl
  | .node b l r, i => by
    show cond (Nat.beq i 0) b (cond (Nat.beq (Nat.mod i 2) 1) (tget l (Nat.div i 2)) (tget r (Nat.sub (Nat.div i 2) 1))) = _
    rw [tget_eq l, tget_eq r]
    rfl
noncomputable def tupd (o : Option ABlk) (n : Nat) : Tri → Nat → Tri :=
  Nat.rec (motive := fun _ => Tri → Nat → Tri)
    (fun t _ => Tri.rec (motive := fun _ => Tri) (.node o .leaf .leaf) (fun _ l r _ _ => .node o l r) t)
    (fun _ ih t i => Tri.rec (motive := fun _ => Tri)
      (cond (Nat.beq i 0) (.node o .leaf .leaf) (cond (Nat.beq (Nat.mod i 2) 1) (.node none (ih .leaf (Nat.div i 2)) .leaf) (.node none .leaf (ih .leaf (Nat.sub (Nat.div i 2) 1)))))
      (fun b l r _ _ => cond (Nat.beq i 0) (.node o l r) (cond (Nat.beq (Nat.mod i 2) 1) (.node b (ih l (Nat.div i 2)) r) (.node b l (ih r (Nat.sub (Nat.div i 2) 1))))) t) n
theorem tupd_eq (o : Option ABlk) : ∀ (n : Nat) (t : Tri) (i : Nat), tupd o n t i = Tri.upd n t i o
  | 0, .leaf, i => rfl
  | 0, .node b l r, i => rfl
  | n + 1, .leaf, i => by
    show (cond (Nat.beq i 0) (Tri.node o .leaf .leaf) (cond (Nat.beq (Nat.mod i 2) 1) (Tri.node none (tupd o n .leaf (Nat.div i 2)) .leaf) (Tri.node none .leaf (tupd o n .leaf (Nat.sub (Nat.div i 2) 1))))) = _
    rw [tupd_eq o n, tupd_eq o n]; rfl
  | n + 1, .node b l r, i => by
    show (cond (Nat.beq i 0) (Tri.node o l r) (cond (Nat.beq (Nat.mod i 2) 1) (Tri.node b (tupd o n l (Nat.div i 2)) r) (Tri.node b l (tupd o n r (Nat.sub (Nat.div i 2) 1))))) = _
    rw [tupd_eq o n, tupd_eq o n]; rfl
theorem tget_tupd (t : Tri) (i : Nat) (o : Option ABlk) (j : Nat) : tget (tupd o i t i) j = if j = i then o else tget t j := by
  rw [tget_eq, tget_eq, tupd_eq]
  exact Tri.get_upd i t i o j (Nat.le_refl _)
abbrev RC := List (Nat × Option ABlk)
noncomputable def findA (i : Nat) (rc : RC) : Option (Option ABlk) :=
  List.rec (motive := fun _ => Option (Option ABlk)) none (fun x _ ih => cond (Nat.beq i x.1) (some x.2) ih) rc
noncomputable def replA (i : Nat) (o : Option ABlk) (rc : RC) : RC :=
  List.rec (motive := fun _ => RC) [] (fun x xs ih => cond (Nat.beq i x.1) ((x.1, o) :: xs) (x :: ih)) rc
noncomputable def flushA (rc : RC) (t : Tri) : Tri :=
  List.rec (motive := fun _ => Tri) t (fun x _ ih => tupd x.2 x.1 ih x.1) rc
theorem findA_cons (i : Nat) (x : Nat × Option ABlk) (xs : RC) : findA i (x :: xs) = if i = x.1 then some x.2 else findA i xs := by
  show cond (Nat.beq i x.1) (some x.2) (findA i xs) = _
  cases h : Nat.beq i x.1 with
  | true => rw [if_pos (Nat.eq_of_beq_eq_true h)]; rfl
  | false => rw [if_neg (fun e => by rw [e, Nat.beq_refl] at h; cases h)]; rfl
theorem replA_cons (i : Nat) (o : Option ABlk) (x : Nat × Option ABlk) (xs : RC) : replA i o (x :: xs) = if i = x.1 then (x.1, o) :: xs else x :: replA i o xs := by
  show cond (Nat.beq i x.1) ((x.1, o) :: xs) (x :: replA i o xs) = _
  cases h : Nat.beq i x.1 with
  | true => rw [if_pos (Nat.eq_of_beq_eq_true h)]; rfl
  | false => rw [if_neg (fun e => by rw [e, Nat.beq_refl] at h; cases h)]; rfl
theorem findA_replA (i : Nat) (o : Option ABlk) (j : Nat) : ∀ (rc : RC), findA i rc ≠ none → findA j (replA i o rc) = if j = i then some o else findA j rc
  | [], h => absurd rfl h
  | x :: xs, h => by
    rw [findA_cons] at h
    rw [replA_cons]
    by_cases e : i = x.1
    · rw [if_pos e, findA_cons, findA_cons]
      by_cases e2 : j = x.1
      · rw [if_pos e2, if_pos (e2.trans e.symm)]
      · rw [if_neg e2, if_neg (fun h => e2 (h.trans e)), if_neg e2]
    · rw [if_neg e] at h ⊢
      rw [findA_cons, findA_cons, findA_replA i o j xs h]
      by_cases e2 : j = x.1
      · rw [if_pos e2, if_pos e2, if_neg (fun h => e (h.symm.trans e2))]
      · rw [if_neg e2, if_neg e2]
theorem get_flushA (j : Nat) (t : Tri) : ∀ (rc : RC), tget (flushA rc t) j = (match findA j rc with | some o => o | none => tget t j)
  | [] => rfl
  | x :: xs => by
    show tget (tupd x.2 x.1 (flushA xs t) x.1) j = _
    rw [tget_tupd, findA_cons]
    by_cases e : j = x.1
    · rw [if_pos e, if_pos e]
    · rw [if_neg e, if_neg e, get_flushA j t xs]
structure TH where
  rc : RC
  n : Nat
  old : Tri
noncomputable def TH.put (h : TH) (i : Nat) (o : Option ABlk) : TH :=
  match findA i h.rc with
  | some _ => { rc := replA i o h.rc, n := h.n, old := h.old }
  | none => cond (Nat.blt h.n 24) { rc := (i, o) :: h.rc, n := Nat.add h.n 1, old := h.old } { rc := [(i, o)], n := 1, old := flushA h.rc h.old }
noncomputable def TH.look (h : TH) (i : Nat) : Option ABlk :=
  match findA i h.rc with
  | some o => o
  | none => tget h.old i
theorem TH.look_put (h : TH) (i : Nat) (o : Option ABlk) (j : Nat) : (h.put i o).look j = if j = i then o else h.look j := by
  unfold TH.put TH.look
  cases e : findA i h.rc with
  | some x =>
    dsimp only
    rw [findA_replA i o j h.rc (by rw [e]; simp)]
    by_cases e2 : j = i
    · rw [if_pos e2, if_pos e2]
    · rw [if_neg e2, if_neg e2]
  | none =>
    dsimp only
    cases Nat.blt h.n 24 with
    | true =>
      dsimp only [cond_true]
      rw [findA_cons]
      by_cases e2 : j = i
      · rw [if_pos e2, if_pos e2]
      · rw [if_neg e2, if_neg e2]
    | false =>
      dsimp only [cond_false]
      rw [findA_cons]
      by_cases e2 : j = i
      · rw [if_pos e2, if_pos e2]
      · rw [if_neg e2, if_neg e2]
        exact get_flushA j h.old h.rc
noncomputable instance : HeapC TH where
  get h i := h.look i
  set h i b := h.put i (some b)
  del h i := h.put i none
  eqB := blkEq
  eqB_eq := blkEq_eq
  get_set h i b j := TH.look_put h i (some b) j
  get_del h i j := TH.look_put h i none j
noncomputable def TH.empty : TH := { rc := [], n := 0, old := .leaf }
theorem TH.inv_empty (h : TH) (e : h = TH.empty) (i : Nat) : HeapC.get h i = none := by subst e; rfl
end Go.Ab
