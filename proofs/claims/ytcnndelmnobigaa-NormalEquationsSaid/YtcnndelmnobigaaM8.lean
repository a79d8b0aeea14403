/- Parts of a proof: N10 N11 AbRow2 AbRow3 RowK. Conditions: none. -/
import Derived.Test.YtcnndelmnobigaaM5
import Derived.Test.YtcnndelmnobigaaM6
import Derived.Test.YtcnndelmnobigaaM7
import Derived.Test.YtcnndelmnobigaaM4
import Derived.Test.YtcnndelmnobigaaRows
import Derived.ProofKit
set_option linter.all false
namespace Go.Proofs.Ytcnndelmnobigaa
open Go Go.Ab Go.Proofs
set_option maxRecDepth 100000
set_option linter.unusedVariables false
set_option linter.unusedSimpArgs false

theorem sane_call (h : FH) (c : Nat) : callF G 11 [] h c = some (.bool true, h, c) := callF_of (runG_ext (f := 11) (args := []) (h := h) (c := c) (r := { e := .ret, vs := [.bool true], h := h, c := c, df := [] }) rfl)
theorem callF_checkR (s : Value) (n : Nat) (Gl : List Int) (h : FH) (c : Nat) (hs : SlI h c s 20 n Gl) : callF G 13 [.agg #[s]] h c = some (.int .i64 (if n ≤ 1000 ∧ okAll Gl n = true then 0 else 7), h, c) := callF_of (checkR_sp s n Gl h c [] hs)

def rngK (V : List Int) (t : Nat) : Nat → Nat → Bool
  | 0, _ => true
  | k + 1, i => (decide (0 ≤ gi V (7 * t + i : Nat)) && decide (gi V (7 * t + i : Nat) ≤ 1000000)) && rngK V t k (i + 1)
def cntK (V : List Int) (t : Nat) : Nat → Nat → Nat
  | 0, _ => 0
  | k + 1, i => (if 3 < i ∧ gi V (7 * t + i : Nat) ≠ 0 then 1 else 0) + cntK V t k (i + 1)

theorem fit_in (v : Value) (n nv : Nat) (V : List Int) (gb t : Nat) (h : FH) (c : Nat) (hv : SlI h c v 1 nv V) (hnv : nv = 7 * n) (hn : n ≤ 6) (ht : t < n) (hgb : gb < 256 * c) (df : List Nat) :
    ∀ (k i : Nat) (fit : Bool) (m : Nat), i + k = 7 → m ≤ i →
    Ans (G (f7_k7001 none) [v, ptrTo gb, .bool false, .bool fit, .int .i64 t, .int .i64 m, .int .i64 i] h c df) fun r => r = { e := .exit 2, vs := [v, ptrTo gb, .bool false, .bool (fit && rngK V t k i), .int .i64 t, .int .i64 (m + cntK V t k i : Nat), .int .i64 7], h := h, c := c, df := df } := by
  intro k
  have o1 := hv.okV
  induction k with
  | zero =>
    intro i fit m hi hm
    obtain rfl : i = 7 := by omega
    refine Ans.loop (fun q r => f7_N7001) (fun q => f7_Z7001) ?_
    unfold f7_L7001
    repeat' (first
     | ((with_reducible first | refine Ans.bz ?_ | refine Ans.r1 ?_ | refine Ans.pkT ?_ | refine Ans.pkF ?_); try dsimp only [v_zero, v_succ])
     | (with_reducible first | refine Ans.btL ?_ | refine Ans.bfL ?_ | refine Ans.gyT ?_ | refine Ans.gyF ?_ | refine Ans.gyG ?_ | refine Ans.bb ?_ | refine Ans.bc ?_ | refine Ans.ba ?_)
     | ((with_reducible first | refine Ans.lsT ?_ ?_ | refine Ans.leT ?_ ?_ | refine Ans.grT ?_ ?_ | refine Ans.geT ?_ ?_ | refine Ans.eqT ?_ ?_ | refine Ans.neT ?_ ?_); (focus omega))
     | ((with_reducible first | refine Ans.lsF ?_ ?_ | refine Ans.leF ?_ ?_ | refine Ans.grF ?_ ?_ | refine Ans.geF ?_ ?_ | refine Ans.eqF ?_ ?_ | refine Ans.neF ?_ ?_); (focus omega))
     | (with_reducible first | refine Ans.lsS (fun _ => ?_) (fun _ => ?_) | refine Ans.leS (fun _ => ?_) (fun _ => ?_) | refine Ans.grS (fun _ => ?_) (fun _ => ?_) | refine Ans.geS (fun _ => ?_) (fun _ => ?_) | refine Ans.eqS (fun _ => ?_) (fun _ => ?_) | refine Ans.neS (fun _ => ?_) (fun _ => ?_))
     | ((with_reducible first | refine Ans.addN ?_ ?_ | refine Ans.add ?_ ?_ | refine Ans.sub ?_ ?_ | refine Ans.mul ?_ ?_); (focus omega))
     | ((with_reducible first | refine Ans.ct ?_ ?_); (focus (simp (disch := (first | omega | with_reducible assumption | (simp <;> omega) | fail)) []; done)))
     | ((with_reducible first | refine Ans.cf ?_ ?_); (focus (simp (disch := (first | omega | with_reducible assumption | (simp <;> omega) | fail)) []; done)))
     | (refine Ans.step (by simp (disch := (first | omega | with_reducible assumption | (simp <;> omega) | fail)) [-List.getD_eq_getElem?_getD] <;> rfl) ?_; try dsimp only [v_zero, v_succ])
     | fail)
    (refine Ans.exit0 ?_ ?_ ?_; (focus (simp (disch := (first | omega | with_reducible assumption | (simp <;> omega) | fail)) [o1, hgb]; done)); (focus (simp (disch := (first | omega | with_reducible assumption | (simp <;> omega) | fail)) [o1, hgb]; done)))
    simp [rngK, cntK]
  | succ k ih =>
    intro i fit m hi hm
    have l1 := hv.rdi (7 * (t : Int) + i) (by omega) (by omega)
    have e1 : gi V (7 * (t : Int) + i) = gi V (7 * t + i : Nat) := rfl
    rw [e1] at l1
    rw [rngK, cntK]
    obtain ⟨X, hX⟩ : ∃ X, gi V (7 * t + i : Nat) = X := ⟨_, rfl⟩
    rw [hX] at l1 ⊢
    refine Ans.loop (fun q r => f7_N7001) (fun q => f7_Z7001) ?_
    unfold f7_L7001
    cases fit <;> by_cases q1 : 0 ≤ X <;> by_cases q2 : X ≤ 1000000 <;> by_cases q3 : 3 < (i : Int) <;> by_cases q4 : X = 0
    all_goals first | (exfalso; omega) | skip
    all_goals
      repeat' (first
       | ((with_reducible first | refine Ans.bz ?_ | refine Ans.r1 ?_ | refine Ans.pkT ?_ | refine Ans.pkF ?_); try dsimp only [v_zero, v_succ])
       | (with_reducible first | refine Ans.btL ?_ | refine Ans.bfL ?_ | refine Ans.gyT ?_ | refine Ans.gyF ?_ | refine Ans.gyG ?_ | refine Ans.bb ?_ | refine Ans.bc ?_ | refine Ans.ba ?_)
       | ((with_reducible first | refine Ans.lsT ?_ ?_ | refine Ans.leT ?_ ?_ | refine Ans.grT ?_ ?_ | refine Ans.geT ?_ ?_ | refine Ans.eqT ?_ ?_ | refine Ans.neT ?_ ?_); (focus omega))
       | ((with_reducible first | refine Ans.lsF ?_ ?_ | refine Ans.leF ?_ ?_ | refine Ans.grF ?_ ?_ | refine Ans.geF ?_ ?_ | refine Ans.eqF ?_ ?_ | refine Ans.neF ?_ ?_); (focus omega))
       | (with_reducible first | refine Ans.lsS (fun _ => ?_) (fun _ => ?_) | refine Ans.leS (fun _ => ?_) (fun _ => ?_) | refine Ans.grS (fun _ => ?_) (fun _ => ?_) | refine Ans.geS (fun _ => ?_) (fun _ => ?_) | refine Ans.eqS (fun _ => ?_) (fun _ => ?_) | refine Ans.neS (fun _ => ?_) (fun _ => ?_))
       | ((with_reducible first | refine Ans.addN ?_ ?_ | refine Ans.add ?_ ?_ | refine Ans.sub ?_ ?_ | refine Ans.mul ?_ ?_); (focus omega))
       | ((with_reducible first | refine Ans.ct ?_ ?_); (focus (simp (disch := (first | omega | with_reducible assumption | (simp <;> omega) | fail)) [hv.ixs1, l1]; done)))
       | ((with_reducible first | refine Ans.cf ?_ ?_); (focus (simp (disch := (first | omega | with_reducible assumption | (simp <;> omega) | fail)) [hv.ixs1, l1]; done)))
       | (refine Ans.step (by simp (disch := (first | omega | with_reducible assumption | (simp <;> omega) | fail)) [hv.ixs1, l1, -List.getD_eq_getElem?_getD] <;> rfl) ?_; try dsimp only [v_zero, v_succ])
       | fail)
      (refine Ans.next0 ?_ ?_ ?_; (focus (simp (disch := (first | omega | with_reducible assumption | (simp <;> omega) | fail)) [o1, hgb]; done)); (focus (simp (disch := (first | omega | with_reducible assumption | (simp <;> omega) | fail)) [o1, hgb]; done)))
      have q3' : (3 < i) = (3 < (i : Int)) := by simp; omega
      first
        | (refine (ih (i + 1) _ (m + 1) (by omega) (by omega)).mono ?_
           rintro r rfl
           simp [q1, q2, q3, q4, q3', Nat.add_assoc])
        | (refine (ih (i + 1) _ m (by omega) (by omega)).mono ?_
           rintro r rfl
           simp [q1, q2, q3, q4, q3'])

def fitT (V : List Int) (t : Nat) : Bool := rngK V t 7 0 && decide (cntK V t 7 0 ≤ 1)
def fitsT (V : List Int) : Nat → Nat → Bool
  | 0, _ => true
  | k + 1, t => fitT V t && fitsT V k (t + 1)

theorem fit_out (s v : Value) (n nv : Nat) (Gl V : List Int) (gb : Nat) (h : FH) (c : Nat) (hs : SlI h c s 20 n Gl) (hg : Holds h gb [s]) (hv : SlI h c v 1 nv V) (hnv : nv = 7 * n) (hn : n ≤ 6) (hgb : gb < 256 * c) (df : List Nat) :
    ∀ (k t : Nat) (fit : Bool), t + k = n →
    Ans (G (f7_k7000 none) [v, ptrTo gb, .bool false, .bool fit, .int .i64 t] h c df) fun r => r = { e := .exit 0, vs := [v, ptrTo gb, .bool false, .bool (fit && fitsT V k t), .int .i64 n], h := h, c := c, df := df } := by
  intro k
  have o1 := hv.okV
  have l1 := hs.len
  have l2 : ld1 h (.pointer (some ⟨gb, 0, none⟩)) = some s := by rw [ld1_holds' hg]; rfl
  induction k with
  | zero =>
    intro t fit ht
    obtain rfl : t = n := by omega
    refine Ans.loop (fun q r => f7_N7000) (fun q => f7_Z7000) ?_
    unfold f7_L7000
    repeat' (first
     | ((with_reducible first | refine Ans.bz ?_ | refine Ans.r1 ?_ | refine Ans.pkT ?_ | refine Ans.pkF ?_); try dsimp only [v_zero, v_succ])
     | (with_reducible first | refine Ans.btL ?_ | refine Ans.bfL ?_ | refine Ans.gyT ?_ | refine Ans.gyF ?_ | refine Ans.gyG ?_ | refine Ans.bb ?_ | refine Ans.bc ?_ | refine Ans.ba ?_)
     | ((with_reducible first | refine Ans.lsT ?_ ?_ | refine Ans.leT ?_ ?_ | refine Ans.grT ?_ ?_ | refine Ans.geT ?_ ?_ | refine Ans.eqT ?_ ?_ | refine Ans.neT ?_ ?_); (focus omega))
     | ((with_reducible first | refine Ans.lsF ?_ ?_ | refine Ans.leF ?_ ?_ | refine Ans.grF ?_ ?_ | refine Ans.geF ?_ ?_ | refine Ans.eqF ?_ ?_ | refine Ans.neF ?_ ?_); (focus omega))
     | (with_reducible first | refine Ans.lsS (fun _ => ?_) (fun _ => ?_) | refine Ans.leS (fun _ => ?_) (fun _ => ?_) | refine Ans.grS (fun _ => ?_) (fun _ => ?_) | refine Ans.geS (fun _ => ?_) (fun _ => ?_) | refine Ans.eqS (fun _ => ?_) (fun _ => ?_) | refine Ans.neS (fun _ => ?_) (fun _ => ?_))
     | ((with_reducible first | refine Ans.addN ?_ ?_ | refine Ans.add ?_ ?_ | refine Ans.sub ?_ ?_ | refine Ans.mul ?_ ?_); (focus omega))
     | ((with_reducible first | refine Ans.ct ?_ ?_); (focus (simp (disch := (first | omega | with_reducible assumption | (simp <;> omega) | fail)) [l1, l2]; done)))
     | ((with_reducible first | refine Ans.cf ?_ ?_); (focus (simp (disch := (first | omega | with_reducible assumption | (simp <;> omega) | fail)) [l1, l2]; done)))
     | (refine Ans.step (by simp (disch := (first | omega | with_reducible assumption | (simp <;> omega) | fail)) [l1, l2, -List.getD_eq_getElem?_getD] <;> rfl) ?_; try dsimp only [v_zero, v_succ])
     | fail)
    (refine Ans.exit0 ?_ ?_ ?_; (focus (simp (disch := (first | omega | with_reducible assumption | (simp <;> omega) | fail)) [o1, hgb]; done)); (focus (simp (disch := (first | omega | with_reducible assumption | (simp <;> omega) | fail)) [o1, hgb]; done)))
    simp [fitsT]
  | succ k ih =>
    intro t fit ht
    have hin := Ans.eq (fit_in v n nv V gb t h (c + 1 + 1 + 1) (hv.mono (by omega)) hnv hn (by omega) (by omega) df 7 0 fit 0 rfl (by omega))
    rw [Nat.zero_add] at hin
    simp only [Int.ofNat_eq_natCast, Int.cast_ofNat_Int] at hin
    rw [fitsT]
    unfold fitT
    obtain ⟨A, hA⟩ : ∃ A, rngK V t 7 0 = A := ⟨_, rfl⟩
    obtain ⟨B, hB⟩ : ∃ B, cntK V t 7 0 = B := ⟨_, rfl⟩
    rw [hA, hB] at hin
    rw [hA, hB]
    refine Ans.loop (fun q r => f7_N7000) (fun q => f7_Z7000) ?_
    unfold f7_L7000
    have z : ∀ x : Bool, (fit && A) = x → Ans (f7_L7000 G none v (ptrTo gb) (.bool false) (.bool fit) (.int .i64 t) h c df) (fun q => Lk G (f7_k7000 none) (fun r => r = { e := .exit 0, vs := [v, ptrTo gb, .bool false, .bool (fit && (A && decide (B ≤ 1) && fitsT V k (t + 1))), .int .i64 n], h := h, c := c, df := df }) (gcR h c df q)) := by
      intro x hx
      rw [hx] at hin
      unfold f7_L7000
      cases x with
      | false =>
        repeat' (first
         | ((with_reducible first | refine Ans.bz ?_ | refine Ans.r1 ?_ | refine Ans.pkT ?_ | refine Ans.pkF ?_); try dsimp only [v_zero, v_succ])
         | (with_reducible first | refine Ans.btL ?_ | refine Ans.bfL ?_ | refine Ans.gyT ?_ | refine Ans.gyF ?_ | refine Ans.gyG ?_ | refine Ans.bb ?_ | refine Ans.bc ?_ | refine Ans.ba ?_)
         | ((with_reducible first | refine Ans.lsT ?_ ?_ | refine Ans.leT ?_ ?_ | refine Ans.grT ?_ ?_ | refine Ans.geT ?_ ?_ | refine Ans.eqT ?_ ?_ | refine Ans.neT ?_ ?_); (focus omega))
         | ((with_reducible first | refine Ans.lsF ?_ ?_ | refine Ans.leF ?_ ?_ | refine Ans.grF ?_ ?_ | refine Ans.geF ?_ ?_ | refine Ans.eqF ?_ ?_ | refine Ans.neF ?_ ?_); (focus omega))
         | (with_reducible first | refine Ans.lsS (fun _ => ?_) (fun _ => ?_) | refine Ans.leS (fun _ => ?_) (fun _ => ?_) | refine Ans.grS (fun _ => ?_) (fun _ => ?_) | refine Ans.geS (fun _ => ?_) (fun _ => ?_) | refine Ans.eqS (fun _ => ?_) (fun _ => ?_) | refine Ans.neS (fun _ => ?_) (fun _ => ?_))
         | ((with_reducible first | refine Ans.addN ?_ ?_ | refine Ans.add ?_ ?_ | refine Ans.sub ?_ ?_ | refine Ans.mul ?_ ?_); (focus omega))
         | ((with_reducible first | refine Ans.ct ?_ ?_); (focus (simp (disch := (first | omega | with_reducible assumption | (simp <;> omega) | fail)) [l1, l2, hin]; done)))
         | ((with_reducible first | refine Ans.cf ?_ ?_); (focus (simp (disch := (first | omega | with_reducible assumption | (simp <;> omega) | fail)) [l1, l2, hin]; done)))
         | (refine Ans.step (by simp (disch := (first | omega | with_reducible assumption | (simp <;> omega) | fail)) [l1, l2, hin, -List.getD_eq_getElem?_getD] <;> rfl) ?_; try dsimp only [v_zero, v_succ])
         | fail)
        (refine Ans.next0 ?_ ?_ ?_; (focus (simp (disch := (first | omega | with_reducible assumption | (simp <;> omega) | fail)) [o1, hgb]; done)); (focus (simp (disch := (first | omega | with_reducible assumption | (simp <;> omega) | fail)) [o1, hgb]; done)))
        refine (ih (t + 1) false (by omega)).mono ?_
        rintro r rfl
        have : (fit && (A && decide (B ≤ 1) && fitsT V k (t + 1))) = false := by rw [Bool.and_assoc A, ← Bool.and_assoc fit, hx]; rfl
        rw [this]; simp
      | true =>
        have e : (fit && (A && decide (B ≤ 1) && fitsT V k (t + 1))) = (decide (B ≤ 1) && fitsT V k (t + 1)) := by rw [Bool.and_assoc A, ← Bool.and_assoc fit, hx]; rfl
        rw [e]
        repeat' (first
         | ((with_reducible first | refine Ans.bz ?_ | refine Ans.r1 ?_ | refine Ans.pkT ?_ | refine Ans.pkF ?_); try dsimp only [v_zero, v_succ])
         | (with_reducible first | refine Ans.btL ?_ | refine Ans.bfL ?_ | refine Ans.gyT ?_ | refine Ans.gyF ?_ | refine Ans.gyG ?_ | refine Ans.bb ?_ | refine Ans.bc ?_ | refine Ans.ba ?_)
         | ((with_reducible first | refine Ans.lsT ?_ ?_ | refine Ans.leT ?_ ?_ | refine Ans.grT ?_ ?_ | refine Ans.geT ?_ ?_ | refine Ans.eqT ?_ ?_ | refine Ans.neT ?_ ?_); (focus omega))
         | ((with_reducible first | refine Ans.lsF ?_ ?_ | refine Ans.leF ?_ ?_ | refine Ans.grF ?_ ?_ | refine Ans.geF ?_ ?_ | refine Ans.eqF ?_ ?_ | refine Ans.neF ?_ ?_); (focus omega))
         | (with_reducible first | refine Ans.lsS (fun _ => ?_) (fun _ => ?_) | refine Ans.leS (fun _ => ?_) (fun _ => ?_) | refine Ans.grS (fun _ => ?_) (fun _ => ?_) | refine Ans.geS (fun _ => ?_) (fun _ => ?_) | refine Ans.eqS (fun _ => ?_) (fun _ => ?_) | refine Ans.neS (fun _ => ?_) (fun _ => ?_))
         | ((with_reducible first | refine Ans.addN ?_ ?_ | refine Ans.add ?_ ?_ | refine Ans.sub ?_ ?_ | refine Ans.mul ?_ ?_); (focus omega))
         | ((with_reducible first | refine Ans.ct ?_ ?_); (focus (simp (disch := (first | omega | with_reducible assumption | (simp <;> omega) | fail)) [l1, l2, hin]; done)))
         | ((with_reducible first | refine Ans.cf ?_ ?_); (focus (simp (disch := (first | omega | with_reducible assumption | (simp <;> omega) | fail)) [l1, l2, hin]; done)))
         | (refine Ans.step (by simp (disch := (first | omega | with_reducible assumption | (simp <;> omega) | fail)) [l1, l2, hin, -List.getD_eq_getElem?_getD] <;> rfl) ?_; try dsimp only [v_zero, v_succ])
         | fail)
        · rename_i hb
          (refine Ans.next0 ?_ ?_ ?_; (focus (simp (disch := (first | omega | with_reducible assumption | (simp <;> omega) | fail)) [o1, hgb]; done)); (focus (simp (disch := (first | omega | with_reducible assumption | (simp <;> omega) | fail)) [o1, hgb]; done)))
          refine (ih (t + 1) true (by omega)).mono ?_
          rintro r rfl
          have : B ≤ 1 := by omega
          simp [this]
        · rename_i hb
          (refine Ans.next0 ?_ ?_ ?_; (focus (simp (disch := (first | omega | with_reducible assumption | (simp <;> omega) | fail)) [o1, hgb]; done)); (focus (simp (disch := (first | omega | with_reducible assumption | (simp <;> omega) | fail)) [o1, hgb]; done)))
          refine (ih (t + 1) false (by omega)).mono ?_
          rintro r rfl
          have : ¬ B ≤ 1 := by omega
          simp [this]
    have := z _ rfl
    unfold f7_L7000 at this
    exact this
end Go.Proofs.Ytcnndelmnobigaa

namespace Go.Proofs.Ytcnndelmnobigaa
open Go Go.Ab Go.Proofs
set_option maxRecDepth 100000
set_option linter.unusedVariables false
set_option linter.unusedSimpArgs false

theorem aBinOp_eqlB (a b : Bool) : aBinOp P .eql 4 (.bool a) (.bool b) = some (.bool (a == b)) := by cases a <;> cases b <;> kernel_rfl

def dotsK (Gl : List Int) (n : Nat) (V : List Int) : Nat → Nat → Bool
  | 0, _ => true
  | k + 1, i => decide (dotL (eqRow n ((allM Gl n).getD i [])) V = 0) && dotsK Gl n V k (i + 1)

theorem EqV.len {c0 : Nat} {h : FH} {c n : Nat} {Gl : List Int} {v : Value} (e : EqV c0 h c n Gl v) : lenS v = some (.int .i64 (allM Gl n).length) := by
  obtain ⟨vals, ⟨_, _, _, i, op, rfl, _⟩, _⟩ := e
  rfl
theorem EqV.okV {c0 : Nat} {h : FH} {c n : Nat} {Gl : List Int} {v : Value} (e : EqV c0 h c n Gl v) : OkV c v := by
  obtain ⟨vals, ⟨_, _, _, i, op, rfl, _, h6, _⟩, _⟩ := e
  exact OkV.sl h6
theorem EqV.mono {c0 : Nat} {h : FH} {c c' n : Nat} {Gl : List Int} {v : Value} (hc : c ≤ c') (e : EqV c0 h c n Gl v) : EqV c0 h c' n Gl v := by
  obtain ⟨vals, h1, h2⟩ := e
  refine ⟨vals, h1.mono hc, fun k m hk => ?_⟩
  obtain ⟨x, x1, b, y1, y2, y3, y4⟩ := h2 k m hk
  exact ⟨x, x1, b, y1, y2, by omega, y4⟩
theorem EqV.at {c0 : Nat} {h : FH} {c n : Nat} {Gl : List Int} {v : Value} (e : EqV c0 h c n Gl v) {i : Nat} (hi : i < (allM Gl n).length) :
    ∃ x p, ixS 1 v (.int .i64 i) = some p ∧ ld1 h p = some x ∧ lenS x = some (.int .i64 (7 * n : Nat)) ∧ SlI h c x 1 (7 * n) (eqRow n ((allM Gl n).getD i [])) := by
  obtain ⟨vals, ⟨h1, h2, h3, b, op, rfl, h5, h6, h7, h8⟩, h9⟩ := e
  obtain ⟨x, x1, b', rfl, y2, y3, y4, y5, y6⟩ := h9 i _ (List.getElem?_eq_getElem hi)
  have hg : (allM Gl n).getD i [] = (allM Gl n)[i] := by simp [List.getD, List.getElem?_eq_getElem hi]
  rw [hg]
  refine ⟨.slice (some ⟨b', 0, none⟩) (7 * n) (7 * n), .pointer (some ⟨b, 0 + (i : Int).toNat * 1, none⟩), ixS_sl _ _ _ _ _ _ _ (by omega) (by omega), ?_, rfl, ⟨by rw [y5]; omega, by omega, _, _, rfl, .inr ⟨b', 0, ints (eqRow n (allM Gl n)[i]), rfl, y3, ⟨false, none, y4⟩, ?_⟩⟩⟩
  · rw [ld1_holds' (cs := vals) ⟨false, op, h7⟩]
    simpa using x1
  · rw [List.drop_zero, List.take_of_length_le (by simp [y5])]

theorem dots_false (v gbv : Value) (n nv : Nat) (Gl V : List Int) (tv : Value) (h : FH) (c c0 : Nat) (hv : SlI h c v 1 nv V) (ho : OkV c gbv) (he : EqV c0 h c n Gl tv) (i : Nat) (df : List Nat) :
    Ans (G (f7_k7002 none) [v, gbv, .bool false, .bool false, tv, .int .i64 i] h c df) fun r => r.e = .exit 4 ∧ r.v 0 = v ∧ r.v 1 = gbv ∧ r.v 3 = .bool false ∧ r.h = h ∧ r.c = c ∧ r.df = df := by
  have o1 := hv.okV
  have o2 := he.okV
  have l1 := he.len
  refine Ans.loop (fun q r => f7_N7002) (fun q => f7_Z7002) ?_
  unfold f7_L7002
  repeat' (first
   | ((with_reducible first | refine Ans.bz ?_ | refine Ans.r1 ?_ | refine Ans.pkT ?_ | refine Ans.pkF ?_); try dsimp only [v_zero, v_succ])
   | (with_reducible first | refine Ans.btL ?_ | refine Ans.bfL ?_ | refine Ans.gyT ?_ | refine Ans.gyF ?_ | refine Ans.gyG ?_ | refine Ans.bb ?_ | refine Ans.bc ?_ | refine Ans.ba ?_)
   | ((with_reducible first | refine Ans.lsT ?_ ?_ | refine Ans.leT ?_ ?_ | refine Ans.grT ?_ ?_ | refine Ans.geT ?_ ?_ | refine Ans.eqT ?_ ?_ | refine Ans.neT ?_ ?_); (focus omega))
   | ((with_reducible first | refine Ans.lsF ?_ ?_ | refine Ans.leF ?_ ?_ | refine Ans.grF ?_ ?_ | refine Ans.geF ?_ ?_ | refine Ans.eqF ?_ ?_ | refine Ans.neF ?_ ?_); (focus omega))
   | (with_reducible first | refine Ans.lsS (fun _ => ?_) (fun _ => ?_) | refine Ans.leS (fun _ => ?_) (fun _ => ?_) | refine Ans.grS (fun _ => ?_) (fun _ => ?_) | refine Ans.geS (fun _ => ?_) (fun _ => ?_) | refine Ans.eqS (fun _ => ?_) (fun _ => ?_) | refine Ans.neS (fun _ => ?_) (fun _ => ?_))
   | ((with_reducible first | refine Ans.addN ?_ ?_ | refine Ans.add ?_ ?_ | refine Ans.sub ?_ ?_ | refine Ans.mul ?_ ?_); (focus omega))
   | ((with_reducible first | refine Ans.ct ?_ ?_); (focus (simp (disch := (first | omega | with_reducible assumption | (simp <;> omega) | fail)) [l1]; done)))
   | ((with_reducible first | refine Ans.cf ?_ ?_); (focus (simp (disch := (first | omega | with_reducible assumption | (simp <;> omega) | fail)) [l1]; done)))
   | (refine Ans.step (by simp (disch := (first | omega | with_reducible assumption | (simp <;> omega) | fail)) [l1, -List.getD_eq_getElem?_getD] <;> rfl) ?_; try dsimp only [v_zero, v_succ])
   | fail)
  all_goals
    (refine Ans.exit0 ?_ ?_ ?_; (focus (simp (disch := (first | omega | with_reducible assumption | (simp <;> omega) | fail)) [o1, o2, ho]; done)); (focus (simp (disch := (first | omega | with_reducible assumption | (simp <;> omega) | fail)) [o1, o2, ho]; done)))
    exact ⟨rfl, rfl, rfl, rfl, rfl, rfl, rfl⟩

theorem dots_true (v gbv : Value) (n nv : Nat) (Gl V : List Int) (tv : Value) (h : FH) (c c0 : Nat) (hn : n ≤ 6) (hv : SlI h c v 1 nv V) (hnv : nv = 7 * n) (hW : withinB V = true) (ho : OkV c gbv) (he : EqV c0 h c n Gl tv) (hl : (allM Gl n).length ≤ 1000) (df : List Nat) :
    ∀ (k i : Nat), i + k = (allM Gl n).length →
    Ans (G (f7_k7002 none) [v, gbv, .bool false, .bool true, tv, .int .i64 i] h c df) fun r => r.e = .exit 4 ∧ r.v 0 = v ∧ r.v 1 = gbv ∧ r.v 3 = .bool (dotsK Gl n V k i) ∧ r.h = h ∧ r.c = c ∧ r.df = df := by
  intro k
  have o1 := hv.okV
  have o2 := he.okV
  have l1 := he.len
  have l2 := hv.len
  induction k with
  | zero =>
    intro i hi
    refine Ans.loop (fun q r => f7_N7002) (fun q => f7_Z7002) ?_
    unfold f7_L7002
    have hi' : ¬ ((i : Int) < (allM Gl n).length) := by omega
    repeat' (first
     | ((with_reducible first | refine Ans.bz ?_ | refine Ans.r1 ?_ | refine Ans.pkT ?_ | refine Ans.pkF ?_); try dsimp only [v_zero, v_succ])
     | (with_reducible first | refine Ans.btL ?_ | refine Ans.bfL ?_ | refine Ans.gyT ?_ | refine Ans.gyF ?_ | refine Ans.gyG ?_ | refine Ans.bb ?_ | refine Ans.bc ?_ | refine Ans.ba ?_)
     | ((with_reducible first | refine Ans.lsT ?_ ?_ | refine Ans.leT ?_ ?_ | refine Ans.grT ?_ ?_ | refine Ans.geT ?_ ?_ | refine Ans.eqT ?_ ?_ | refine Ans.neT ?_ ?_); (focus omega))
     | ((with_reducible first | refine Ans.lsF ?_ ?_ | refine Ans.leF ?_ ?_ | refine Ans.grF ?_ ?_ | refine Ans.geF ?_ ?_ | refine Ans.eqF ?_ ?_ | refine Ans.neF ?_ ?_); (focus omega))
     | (with_reducible first | refine Ans.lsS (fun _ => ?_) (fun _ => ?_) | refine Ans.leS (fun _ => ?_) (fun _ => ?_) | refine Ans.grS (fun _ => ?_) (fun _ => ?_) | refine Ans.geS (fun _ => ?_) (fun _ => ?_) | refine Ans.eqS (fun _ => ?_) (fun _ => ?_) | refine Ans.neS (fun _ => ?_) (fun _ => ?_))
     | ((with_reducible first | refine Ans.addN ?_ ?_ | refine Ans.add ?_ ?_ | refine Ans.sub ?_ ?_ | refine Ans.mul ?_ ?_); (focus omega))
     | ((with_reducible first | refine Ans.ct ?_ ?_); (focus (simp (disch := (first | omega | with_reducible assumption | (simp <;> omega) | fail)) [l1]; done)))
     | ((with_reducible first | refine Ans.cf ?_ ?_); (focus (simp (disch := (first | omega | with_reducible assumption | (simp <;> omega) | fail)) [l1]; done)))
     | (refine Ans.step (by simp (disch := (first | omega | with_reducible assumption | (simp <;> omega) | fail)) [l1, -List.getD_eq_getElem?_getD] <;> rfl) ?_; try dsimp only [v_zero, v_succ])
     | fail)
    (refine Ans.exit0 ?_ ?_ ?_; (focus (simp (disch := (first | omega | with_reducible assumption | (simp <;> omega) | fail)) [o1, o2, ho]; done)); (focus (simp (disch := (first | omega | with_reducible assumption | (simp <;> omega) | fail)) [o1, o2, ho]; done)))
    exact ⟨rfl, rfl, rfl, rfl, rfl, rfl, rfl⟩
  | succ k ih =>
    intro i hi
    obtain ⟨x, p, x1, x2, x3, x4⟩ := he.at (i := i) (by omega)
    have hb := eqRow_bound n ((allM Gl n).getD i [])
    rw [dotsK]
    obtain ⟨L, hL⟩ : ∃ L, eqRow n ((allM Gl n).getD i []) = L := ⟨_, rfl⟩
    rw [hL] at x4 hb ⊢
    have cd := fun c' (hc : c ≤ c') => callF_of (dot_sp x v (7 * n) L V h c' [] (by omega) (x4.mono hc) (by rw [← hnv]; exact hv.mono hc) hb (fun k => withinB_at hW k))
    have hne : ((7 * n : Nat) : Int) = nv := by omega
    obtain ⟨d, hd⟩ : ∃ d, dotL L V = d := ⟨_, rfl⟩
    rw [hd] at cd ⊢
    have hi' : (i : Int) < (allM Gl n).length := by omega
    refine Ans.loop (fun q r => f7_N7002) (fun q => f7_Z7002) ?_
    unfold f7_L7002
    by_cases h0 : d = 0
    · repeat' (first
       | ((with_reducible first | refine Ans.bz ?_ | refine Ans.r1 ?_ | refine Ans.pkT ?_ | refine Ans.pkF ?_); try dsimp only [v_zero, v_succ])
       | (with_reducible first | refine Ans.btL ?_ | refine Ans.bfL ?_ | refine Ans.gyT ?_ | refine Ans.gyF ?_ | refine Ans.gyG ?_ | refine Ans.bb ?_ | refine Ans.bc ?_ | refine Ans.ba ?_)
       | ((with_reducible first | refine Ans.lsT ?_ ?_ | refine Ans.leT ?_ ?_ | refine Ans.grT ?_ ?_ | refine Ans.geT ?_ ?_ | refine Ans.eqT ?_ ?_ | refine Ans.neT ?_ ?_); (focus omega))
       | ((with_reducible first | refine Ans.lsF ?_ ?_ | refine Ans.leF ?_ ?_ | refine Ans.grF ?_ ?_ | refine Ans.geF ?_ ?_ | refine Ans.eqF ?_ ?_ | refine Ans.neF ?_ ?_); (focus omega))
       | (with_reducible first | refine Ans.lsS (fun _ => ?_) (fun _ => ?_) | refine Ans.leS (fun _ => ?_) (fun _ => ?_) | refine Ans.grS (fun _ => ?_) (fun _ => ?_) | refine Ans.geS (fun _ => ?_) (fun _ => ?_) | refine Ans.eqS (fun _ => ?_) (fun _ => ?_) | refine Ans.neS (fun _ => ?_) (fun _ => ?_))
       | ((with_reducible first | refine Ans.addN ?_ ?_ | refine Ans.add ?_ ?_ | refine Ans.sub ?_ ?_ | refine Ans.mul ?_ ?_); (focus omega))
       | ((with_reducible first | refine Ans.ct ?_ ?_); (focus (simp (disch := (first | omega | with_reducible assumption | (simp <;> omega) | fail)) [l1, l2, x1, x2, x3, cd]; done)))
       | ((with_reducible first | refine Ans.cf ?_ ?_); (focus (simp (disch := (first | omega | with_reducible assumption | (simp <;> omega) | fail)) [l1, l2, x1, x2, x3, cd]; done)))
       | (refine Ans.step (by simp (disch := (first | omega | with_reducible assumption | (simp <;> omega) | fail)) [l1, l2, x1, x2, x3, cd, -List.getD_eq_getElem?_getD] <;> rfl) ?_; try dsimp only [v_zero, v_succ])
       | fail)
      (refine Ans.next0 ?_ ?_ ?_; (focus (simp (disch := (first | omega | with_reducible assumption | (simp <;> omega) | fail)) [o1, o2, ho]; done)); (focus (simp (disch := (first | omega | with_reducible assumption | (simp <;> omega) | fail)) [o1, o2, ho]; done)))
      refine (ih (i + 1) (by omega)).mono ?_
      rintro r ⟨q1, q2, q3, q4, q5⟩
      exact ⟨q1, q2, q3, by rw [q4]; simp [h0], q5⟩
    · repeat' (first
       | ((with_reducible first | refine Ans.bz ?_ | refine Ans.r1 ?_ | refine Ans.pkT ?_ | refine Ans.pkF ?_); try dsimp only [v_zero, v_succ])
       | (with_reducible first | refine Ans.btL ?_ | refine Ans.bfL ?_ | refine Ans.gyT ?_ | refine Ans.gyF ?_ | refine Ans.gyG ?_ | refine Ans.bb ?_ | refine Ans.bc ?_ | refine Ans.ba ?_)
       | ((with_reducible first | refine Ans.lsT ?_ ?_ | refine Ans.leT ?_ ?_ | refine Ans.grT ?_ ?_ | refine Ans.geT ?_ ?_ | refine Ans.eqT ?_ ?_ | refine Ans.neT ?_ ?_); (focus omega))
       | ((with_reducible first | refine Ans.lsF ?_ ?_ | refine Ans.leF ?_ ?_ | refine Ans.grF ?_ ?_ | refine Ans.geF ?_ ?_ | refine Ans.eqF ?_ ?_ | refine Ans.neF ?_ ?_); (focus omega))
       | (with_reducible first | refine Ans.lsS (fun _ => ?_) (fun _ => ?_) | refine Ans.leS (fun _ => ?_) (fun _ => ?_) | refine Ans.grS (fun _ => ?_) (fun _ => ?_) | refine Ans.geS (fun _ => ?_) (fun _ => ?_) | refine Ans.eqS (fun _ => ?_) (fun _ => ?_) | refine Ans.neS (fun _ => ?_) (fun _ => ?_))
       | ((with_reducible first | refine Ans.addN ?_ ?_ | refine Ans.add ?_ ?_ | refine Ans.sub ?_ ?_ | refine Ans.mul ?_ ?_); (focus omega))
       | ((with_reducible first | refine Ans.ct ?_ ?_); (focus (simp (disch := (first | omega | with_reducible assumption | (simp <;> omega) | fail)) [l1, l2, x1, x2, x3, cd]; done)))
       | ((with_reducible first | refine Ans.cf ?_ ?_); (focus (simp (disch := (first | omega | with_reducible assumption | (simp <;> omega) | fail)) [l1, l2, x1, x2, x3, cd]; done)))
       | (refine Ans.step (by simp (disch := (first | omega | with_reducible assumption | (simp <;> omega) | fail)) [l1, l2, x1, x2, x3, cd, -List.getD_eq_getElem?_getD] <;> rfl) ?_; try dsimp only [v_zero, v_succ])
       | fail)
      (refine Ans.next0 ?_ ?_ ?_; (focus (simp (disch := (first | omega | with_reducible assumption | (simp <;> omega) | fail)) [o1, o2, ho]; done)); (focus (simp (disch := (first | omega | with_reducible assumption | (simp <;> omega) | fail)) [o1, o2, ho]; done)))
      refine (dots_false v gbv n nv Gl V tv h c c0 hv ho he (i + 1) df).mono ?_
      rintro r ⟨q1, q2, q3, q4, q5⟩
      exact ⟨q1, q2, q3, by rw [q4]; simp [h0], q5⟩

theorem gi_get (V : List Int) {j : Nat} (hj : j < V.length) : gi V (j : Nat) = V[j] := by
  simp [gi, List.getD, List.getElem?_eq_getElem hj]

theorem rngK_iff {V : List Int} {t : Nat} : ∀ {k i : Nat}, rngK V t k i = true ↔ ∀ j, i ≤ j → j < i + k → 0 ≤ gi V (7 * t + j : Nat) ∧ gi V (7 * t + j : Nat) ≤ 1000000
  | 0, i => by simp [rngK]; intro j h1 h2; omega
  | k + 1, i => by
    rw [rngK, Bool.and_eq_true, rngK_iff]
    simp only [Bool.and_eq_true, decide_eq_true_eq]
    constructor
    · rintro ⟨h1, h2⟩ j h3 h4
      by_cases e : j = i
      · rw [e]; exact h1
      · exact h2 j (by omega) (by omega)
    · intro h
      exact ⟨h i (by omega) (by omega), fun j h1 h2 => h j (by omega) (by omega)⟩
theorem cntK_quad {V : List Int} {t : Nat} (ht : 7 * t + 7 ≤ V.length) : cntK V t 7 0 = nzC (quadAt V t) := by
  have e : quadAt V t = [gi V (7 * t + 4 : Nat), gi V (7 * t + 5 : Nat), gi V (7 * t + 6 : Nat)] := by
    unfold quadAt
    rw [gi_get V (by omega), gi_get V (by omega), gi_get V (by omega)]
    rw [List.drop_eq_getElem_cons (by omega), List.take_succ_cons, List.drop_eq_getElem_cons (by omega : 7 * t + 4 + 1 < V.length), List.take_succ_cons, List.drop_eq_getElem_cons (by omega : 7 * t + 4 + 1 + 1 < V.length), List.take_succ_cons, List.take_zero]
  rw [e]
  simp [cntK, nzC]
theorem fitsT_iff {V : List Int} : ∀ {k t : Nat}, fitsT V k t = true ↔ ∀ u, t ≤ u → u < t + k → fitT V u = true
  | 0, t => by simp [fitsT]; intro j h1 h2; omega
  | k + 1, t => by
    rw [fitsT, Bool.and_eq_true, fitsT_iff]
    constructor
    · rintro ⟨h1, h2⟩ j h3 h4
      by_cases e : j = t
      · rw [e]; exact h1
      · exact h2 j (by omega) (by omega)
    · intro h
      exact ⟨h t (by omega) (by omega), fun j h1 h2 => h j (by omega) (by omega)⟩
theorem withinB_iff {V : List Int} : withinB V = true ↔ ∀ j, j < V.length → 0 ≤ gi V (j : Nat) ∧ gi V (j : Nat) ≤ 1000000 := by
  constructor
  · intro h j _; exact withinB_at h j
  · intro h
    refine List.all_eq_true.2 fun x hx => ?_
    obtain ⟨j, hj, rfl⟩ := List.getElem_of_mem hx
    have := h j hj
    rw [gi_get V hj] at this
    simp [this.1, this.2]
theorem fits_eq {V : List Int} {n : Nat} (hV : V.length = 7 * n) : fitsT V n 0 = (withinB V && (List.range n).all fun t => areQ (quadAt V t)) := by
  rw [Bool.eq_iff_iff, fitsT_iff, Bool.and_eq_true, withinB_iff, List.all_eq_true]
  constructor
  · intro h
    refine ⟨fun j hj => ?_, fun t ht => ?_⟩
    · have := h (j / 7) (by omega) (by omega)
      unfold fitT at this
      rw [Bool.and_eq_true, rngK_iff] at this
      have h2 := this.1 (j % 7) (by omega) (by omega)
      rwa [show 7 * (j / 7) + j % 7 = j by omega] at h2
    · have ht' : t < n := by simpa using ht
      have := h t (by omega) (by omega)
      unfold fitT at this
      rw [Bool.and_eq_true, cntK_quad (by omega)] at this
      exact this.2
  · rintro ⟨h1, h2⟩ u _ hu
    unfold fitT
    rw [Bool.and_eq_true, rngK_iff, cntK_quad (by omega)]
    exact ⟨fun j _ hj => h1 _ (by omega), h2 u (by simpa using hu)⟩
theorem dotsK_iff {Gl V : List Int} {n : Nat} : ∀ {k i : Nat}, dotsK Gl n V k i = true ↔ ∀ j, i ≤ j → j < i + k → dotL (eqRow n ((allM Gl n).getD j [])) V = 0
  | 0, i => by simp [dotsK]; intro j h1 h2; omega
  | k + 1, i => by
    rw [dotsK, Bool.and_eq_true, dotsK_iff, decide_eq_true_eq]
    constructor
    · rintro ⟨h1, h2⟩ j h3 h4
      by_cases e : j = i
      · rw [e]; exact h1
      · exact h2 j (by omega) (by omega)
    · intro h
      exact ⟨h i (by omega) (by omega), fun j h1 h2 => h j (by omega) (by omega)⟩
theorem eq_dot {Gl V m : List Int} {n : Nat} (hok : okAll Gl n = true) (hG : Gl.length = n * 20) (hV : V.length = 7 * n) (hm : m ∈ allM Gl n) : dotL (eqRow n m) V = 0 ↔ eqM V m = true := by
  obtain ⟨t, f, i, ht, hf, hi, hne, hsk, rfl⟩ := mem_allM hm
  obtain ⟨k1, k2, k3⟩ := mRow_ok hok hG ht hf hi hne hsk
  have hpf := range24 k3 hf
  have hpi := range24 k3 hi
  have hpn := ne24 k3 hi hf hne
  have t1 := ty_range (i := (i : Int)) (f := (f : Int)) (by omega) (by omega) (by omega) (by omega) (by omega)
  have t2 := ty_range hpi.1 hpi.2 hpf.1 hpf.2 hpn
  rw [eqRow_dot hV]
  · unfold eqM
    rw [decide_eq_true_eq]
    omega
  · show (7 * (t : Int) + i).toNat < _
    omega
  · show (7 * (t : Int) + 4 + ty i f).toNat < _
    omega
  · show (7 * tetL (faceL Gl t f) + (permL (faceL Gl t f)).getD i 0).toNat < _
    omega
  · show (7 * tetL (faceL Gl t f) + 4 + ty ((permL (faceL Gl t f)).getD i 0) ((permL (faceL Gl t f)).getD f 0)).toNat < _
    omega
theorem dots_eq {Gl V : List Int} {n : Nat} (hok : okAll Gl n = true) (hG : Gl.length = n * 20) (hV : V.length = 7 * n) : dotsK Gl n V (allM Gl n).length 0 = (allM Gl n).all fun m => eqM V m := by
  rw [Bool.eq_iff_iff, dotsK_iff, List.all_eq_true]
  constructor
  · intro h m hm
    obtain ⟨j, hj, rfl⟩ := List.getElem_of_mem hm
    have := h j (by omega) (by omega)
    rw [show (allM Gl n).getD j [] = (allM Gl n)[j] by simp [List.getD, List.getElem?_eq_getElem hj]] at this
    exact (eq_dot hok hG hV hm).1 this
  · intro h j _ hj
    have hj' : j < (allM Gl n).length := by omega
    rw [show (allM Gl n).getD j [] = (allM Gl n)[j] by simp [List.getD, List.getElem?_eq_getElem hj']]
    exact (eq_dot hok hG hV (List.getElem_mem hj')).2 (h _ (List.getElem_mem hj'))
theorem adm_eq {Gl V : List Int} {n : Nat} (hok : okAll Gl n = true) (hG : Gl.length = n * 20) (hV : V.length = 7 * n) : admB Gl n V = (fitsT V n 0 && dotsK Gl n V (allM Gl n).length 0) := by
  rw [fits_eq hV, dots_eq hok hG hV, admB, decide_eq_true hV, Bool.true_and]

set_option maxHeartbeats 1000000 in
theorem normalEquations_true (s v : Value) (n nv : Nat) (Gl V : List Int) (h : FH) (c : Nat) (hs : SlI h c s 20 n Gl) (hv : SlI h c v 1 nv V) (hx : SlX h v 1 nv) :
    Ans (G (.fn 7) [.agg #[s], v] h c []) fun x => x.e = .ret ∧ x.vs = [.bool true] := by
  suffices hs : Ans (f7_S G (.agg #[s]) v h c) fun x => x.e = .ret ∧ x.vs = [.bool true] by
    obtain ⟨x, q1, q2⟩ := hs
    exact ⟨_, f7_go q1, by show (gcR h c [] x).e = _ ∧ (gcR h c [] x).vs = _; rw [gcR_e, gcR_vs]; exact q2⟩
  unfold f7_S
  rw [flat1 hs.flat, cell1, Nat.add_zero]
  simp only [cond_true]
  obtain ⟨H, hH⟩ : ∃ H, H = newB h (256 * c) [s] := ⟨_, rfl⟩
  have sH : Same c h H := by rw [hH]; simp (disch := omega)
  have hg : Holds H (256 * c) [s] := by rw [hH]; exact Holds.newB_same _ _ _
  rw [← hH]
  clear hH
  have k0 := sane_call H
  have l1 := ldN1_own hg
  have l2 : ld1 H (.pointer (some ⟨256 * c, 0, none⟩)) = some s := by rw [ld1_holds' hg]; rfl
  have ls := hs.len
  have lv := hv.len
  have cs := fun c' (hc : c ≤ c') => callF_of (small_sp s n Gl H c' [] ((hs.same sH).mono hc))
  by_cases hn : n ≤ 6
  case neg =>
    rw [decide_eq_false hn] at cs
    repeat' (first
     | ((with_reducible first | refine Ans.bz ?_ | refine Ans.r1 ?_ | refine Ans.pkT ?_ | refine Ans.pkF ?_); try dsimp only [v_zero, v_succ])
     | (with_reducible first | refine Ans.btL ?_ | refine Ans.bfL ?_ | refine Ans.gyT ?_ | refine Ans.gyF ?_ | refine Ans.gyG ?_ | refine Ans.bb ?_ | refine Ans.bc ?_ | refine Ans.ba ?_)
     | ((with_reducible first | refine Ans.lsT ?_ ?_ | refine Ans.leT ?_ ?_ | refine Ans.grT ?_ ?_ | refine Ans.geT ?_ ?_ | refine Ans.eqT ?_ ?_ | refine Ans.neT ?_ ?_); (focus omega))
     | ((with_reducible first | refine Ans.lsF ?_ ?_ | refine Ans.leF ?_ ?_ | refine Ans.grF ?_ ?_ | refine Ans.geF ?_ ?_ | refine Ans.eqF ?_ ?_ | refine Ans.neF ?_ ?_); (focus omega))
     | (with_reducible first | refine Ans.lsS (fun _ => ?_) (fun _ => ?_) | refine Ans.leS (fun _ => ?_) (fun _ => ?_) | refine Ans.grS (fun _ => ?_) (fun _ => ?_) | refine Ans.geS (fun _ => ?_) (fun _ => ?_) | refine Ans.eqS (fun _ => ?_) (fun _ => ?_) | refine Ans.neS (fun _ => ?_) (fun _ => ?_))
     | ((with_reducible first | refine Ans.addN ?_ ?_ | refine Ans.add ?_ ?_ | refine Ans.sub ?_ ?_ | refine Ans.mul ?_ ?_); (focus omega))
     | ((with_reducible first | refine Ans.ct ?_ ?_); (focus (simp (disch := (first | omega | with_reducible assumption | (simp <;> omega) | fail)) [k0, l1, cs]; done)))
     | ((with_reducible first | refine Ans.cf ?_ ?_); (focus (simp (disch := (first | omega | with_reducible assumption | (simp <;> omega) | fail)) [k0, l1, cs]; done)))
     | (refine Ans.step (by simp (disch := (first | omega | with_reducible assumption | (simp <;> omega) | fail)) [k0, l1, cs, -List.getD_eq_getElem?_getD] <;> rfl) ?_; try dsimp only [v_zero, v_succ])
     | fail)
    exact .done ⟨rfl, rfl⟩
  rw [decide_eq_true hn] at cs
  have ck := fun c' (hc : c ≤ c') => callF_checkR s n Gl H c' ((hs.same sH).mono hc)
  by_cases hok : okAll Gl n = true
  case neg =>
    rw [if_neg (fun h => hok h.2)] at ck
    repeat' (first
     | ((with_reducible first | refine Ans.bz ?_ | refine Ans.r1 ?_ | refine Ans.pkT ?_ | refine Ans.pkF ?_); try dsimp only [v_zero, v_succ])
     | (with_reducible first | refine Ans.btL ?_ | refine Ans.bfL ?_ | refine Ans.gyT ?_ | refine Ans.gyF ?_ | refine Ans.gyG ?_ | refine Ans.bb ?_ | refine Ans.bc ?_ | refine Ans.ba ?_)
     | ((with_reducible first | refine Ans.lsT ?_ ?_ | refine Ans.leT ?_ ?_ | refine Ans.grT ?_ ?_ | refine Ans.geT ?_ ?_ | refine Ans.eqT ?_ ?_ | refine Ans.neT ?_ ?_); (focus omega))
     | ((with_reducible first | refine Ans.lsF ?_ ?_ | refine Ans.leF ?_ ?_ | refine Ans.grF ?_ ?_ | refine Ans.geF ?_ ?_ | refine Ans.eqF ?_ ?_ | refine Ans.neF ?_ ?_); (focus omega))
     | (with_reducible first | refine Ans.lsS (fun _ => ?_) (fun _ => ?_) | refine Ans.leS (fun _ => ?_) (fun _ => ?_) | refine Ans.grS (fun _ => ?_) (fun _ => ?_) | refine Ans.geS (fun _ => ?_) (fun _ => ?_) | refine Ans.eqS (fun _ => ?_) (fun _ => ?_) | refine Ans.neS (fun _ => ?_) (fun _ => ?_))
     | ((with_reducible first | refine Ans.addN ?_ ?_ | refine Ans.add ?_ ?_ | refine Ans.sub ?_ ?_ | refine Ans.mul ?_ ?_); (focus omega))
     | ((with_reducible first | refine Ans.ct ?_ ?_); (focus (simp (disch := (first | omega | with_reducible assumption | (simp <;> omega) | fail)) [k0, l1, cs, ck]; done)))
     | ((with_reducible first | refine Ans.cf ?_ ?_); (focus (simp (disch := (first | omega | with_reducible assumption | (simp <;> omega) | fail)) [k0, l1, cs, ck]; done)))
     | (refine Ans.step (by simp (disch := (first | omega | with_reducible assumption | (simp <;> omega) | fail)) [k0, l1, cs, ck, -List.getD_eq_getElem?_getD] <;> rfl) ?_; try dsimp only [v_zero, v_succ])
     | fail)
    exact .done ⟨rfl, rfl⟩
  rw [if_pos ⟨by omega, hok⟩] at ck
  by_cases hl : nv = 7 * n
  case neg =>
    have hl' : ¬ ((nv : Int) = 7 * n) := by omega
    repeat' (first
     | ((with_reducible first | refine Ans.bz ?_ | refine Ans.r1 ?_ | refine Ans.pkT ?_ | refine Ans.pkF ?_); try dsimp only [v_zero, v_succ])
     | (with_reducible first | refine Ans.btL ?_ | refine Ans.bfL ?_ | refine Ans.gyT ?_ | refine Ans.gyF ?_ | refine Ans.gyG ?_ | refine Ans.bb ?_ | refine Ans.bc ?_ | refine Ans.ba ?_)
     | ((with_reducible first | refine Ans.lsT ?_ ?_ | refine Ans.leT ?_ ?_ | refine Ans.grT ?_ ?_ | refine Ans.geT ?_ ?_ | refine Ans.eqT ?_ ?_ | refine Ans.neT ?_ ?_); (focus omega))
     | ((with_reducible first | refine Ans.lsF ?_ ?_ | refine Ans.leF ?_ ?_ | refine Ans.grF ?_ ?_ | refine Ans.geF ?_ ?_ | refine Ans.eqF ?_ ?_ | refine Ans.neF ?_ ?_); (focus omega))
     | (with_reducible first | refine Ans.lsS (fun _ => ?_) (fun _ => ?_) | refine Ans.leS (fun _ => ?_) (fun _ => ?_) | refine Ans.grS (fun _ => ?_) (fun _ => ?_) | refine Ans.geS (fun _ => ?_) (fun _ => ?_) | refine Ans.eqS (fun _ => ?_) (fun _ => ?_) | refine Ans.neS (fun _ => ?_) (fun _ => ?_))
     | ((with_reducible first | refine Ans.addN ?_ ?_ | refine Ans.add ?_ ?_ | refine Ans.sub ?_ ?_ | refine Ans.mul ?_ ?_); (focus omega))
     | ((with_reducible first | refine Ans.ct ?_ ?_); (focus (simp (disch := (first | omega | with_reducible assumption | (simp <;> omega) | fail)) [k0, l1, l2, ls, lv, cs, ck]; done)))
     | ((with_reducible first | refine Ans.cf ?_ ?_); (focus (simp (disch := (first | omega | with_reducible assumption | (simp <;> omega) | fail)) [k0, l1, l2, ls, lv, cs, ck]; done)))
     | (refine Ans.step (by simp (disch := (first | omega | with_reducible assumption | (simp <;> omega) | fail)) [k0, l1, l2, ls, lv, cs, ck, -List.getD_eq_getElem?_getD] <;> rfl) ?_; try dsimp only [v_zero, v_succ])
     | fail)
    exact .done ⟨rfl, rfl⟩
  have hl' : ((nv : Int) = 7 * n) := by omega
  have hV : V.length = 7 * n := by have := hv.1; omega
  have hfit := Ans.eq (fit_out s v n nv Gl V (256 * c) H (c + 1 + 1 + 1 + 1 + 1) ((hs.same sH).mono (by omega)) hg ((hv.same sH).mono (by omega)) hl hn (by omega) [] n 0 true (by omega))
  rw [Bool.true_and] at hfit
  simp only [Int.ofNat_eq_natCast, Int.cast_ofNat_Int] at hfit
  have hadm := adm_eq hok hs.1 hV
  have href : refE Gl n = 0 := by unfold refE; rw [if_pos ⟨by omega, hok⟩, if_neg (by omega)]
  obtain ⟨r, hr, r1, r2, r3, r4, r5⟩ := equations_sp s n Gl H (c + 1 + 1 + 1 + 1 + 1 + 1) [] ((hs.same sH).mono (by omega))
  obtain ⟨re, rv, rh, rc, rd⟩ := r
  simp only at r1 r2 r3 r4 r5
  subst r1 r2
  rcases r5 with ⟨e, _⟩ | ⟨_, tv, rfl, hev⟩
  · exact absurd href e
  have ce := callF_of hr
  have sR : Same c h rh := sH.trans (r4.mono (by omega))
  have gR : Holds rh (256 * c) [s] := hg.same (c := c + 1 + 1 + 1 + 1 + 1 + 1) (by omega) r4
  have l3 := ldN1_own gR
  have cc := fun c' (hc : c ≤ c') => callF_of (checkN_sp s v n nv Gl V rh c' [] ((hs.same sR).mono hc) ((hv.same sR).mono hc) (SlX.keep hv sR hx) (by omega))
  unfold chkE at cc
  rw [if_pos href] at cc
  have hml := allM_length Gl n
  cases hf : fitsT V n 0 with
  | false =>
    rw [hf] at hfit
    rw [hf, Bool.false_and] at hadm
    rw [hadm, if_neg (by simp)] at cc
    obtain ⟨⟨qe, qv, qh, qc, qd⟩, hq, q1, q2, q3, q4, q5, q6, q7⟩ := dots_false v (ptrTo (256 * c)) n nv Gl V tv rh (rc + 1 + 1) _ ((hv.same sR).mono (by omega)) (OkV.ptrTo (by omega)) (hev.mono (by omega)) 0 []
    simp only at q1 q5 q6 q7
    subst q1 q5 q6 q7
    simp only [Int.ofNat_eq_natCast, Int.cast_ofNat_Int] at hq
    repeat' (first
     | ((with_reducible first | refine Ans.bz ?_ | refine Ans.r1 ?_ | refine Ans.pkT ?_ | refine Ans.pkF ?_); try dsimp only [v_zero, v_succ])
     | (with_reducible first | refine Ans.btL ?_ | refine Ans.bfL ?_ | refine Ans.gyT ?_ | refine Ans.gyF ?_ | refine Ans.gyG ?_ | refine Ans.bb ?_ | refine Ans.bc ?_ | refine Ans.ba ?_)
     | ((with_reducible first | refine Ans.lsT ?_ ?_ | refine Ans.leT ?_ ?_ | refine Ans.grT ?_ ?_ | refine Ans.geT ?_ ?_ | refine Ans.eqT ?_ ?_ | refine Ans.neT ?_ ?_); (focus omega))
     | ((with_reducible first | refine Ans.lsF ?_ ?_ | refine Ans.leF ?_ ?_ | refine Ans.grF ?_ ?_ | refine Ans.geF ?_ ?_ | refine Ans.eqF ?_ ?_ | refine Ans.neF ?_ ?_); (focus omega))
     | (with_reducible first | refine Ans.lsS (fun _ => ?_) (fun _ => ?_) | refine Ans.leS (fun _ => ?_) (fun _ => ?_) | refine Ans.grS (fun _ => ?_) (fun _ => ?_) | refine Ans.geS (fun _ => ?_) (fun _ => ?_) | refine Ans.eqS (fun _ => ?_) (fun _ => ?_) | refine Ans.neS (fun _ => ?_) (fun _ => ?_))
     | ((with_reducible first | refine Ans.addN ?_ ?_ | refine Ans.add ?_ ?_ | refine Ans.sub ?_ ?_ | refine Ans.mul ?_ ?_); (focus omega))
     | ((with_reducible first | refine Ans.ct ?_ ?_); (focus (simp (disch := (first | omega | with_reducible assumption | (simp <;> omega) | fail)) [k0, l1, l2, ls, lv, cs, ck, hfit, ce, hq, q2, q3, q4, l3, cc, aBinOp_eqlB]; done)))
     | ((with_reducible first | refine Ans.cf ?_ ?_); (focus (simp (disch := (first | omega | with_reducible assumption | (simp <;> omega) | fail)) [k0, l1, l2, ls, lv, cs, ck, hfit, ce, hq, q2, q3, q4, l3, cc, aBinOp_eqlB]; done)))
     | (refine Ans.step (by simp (disch := (first | omega | with_reducible assumption | (simp <;> omega) | fail)) [k0, l1, l2, ls, lv, cs, ck, hfit, ce, hq, q2, q3, q4, l3, cc, aBinOp_eqlB, -List.getD_eq_getElem?_getD] <;> rfl) ?_; try dsimp only [v_zero, v_succ])
     | fail)
    exact .done ⟨rfl, rfl⟩
  | true =>
    rw [hf] at hfit
    rw [hf, Bool.true_and] at hadm
    have hW : withinB V = true := by
      rw [fits_eq hV, Bool.and_eq_true] at hf
      exact hf.1
    obtain ⟨⟨qe, qv, qh, qc, qd⟩, hq, q1, q2, q3, q4, q5, q6, q7⟩ := dots_true v (ptrTo (256 * c)) n nv Gl V tv rh (rc + 1 + 1) _ hn ((hv.same sR).mono (by omega)) hl hW (OkV.ptrTo (by omega)) (hev.mono (by omega)) (by omega) [] (allM Gl n).length 0 (by omega)
    simp only at q1 q5 q6 q7
    subst q1 q5 q6 q7
    rw [← hadm] at q4
    simp only [Int.ofNat_eq_natCast, Int.cast_ofNat_Int] at hq
    cases ha : admB Gl n V with
    | true =>
      rw [ha] at q4 cc
      rw [if_pos rfl] at cc
      repeat' (first
       | ((with_reducible first | refine Ans.bz ?_ | refine Ans.r1 ?_ | refine Ans.pkT ?_ | refine Ans.pkF ?_); try dsimp only [v_zero, v_succ])
       | (with_reducible first | refine Ans.btL ?_ | refine Ans.bfL ?_ | refine Ans.gyT ?_ | refine Ans.gyF ?_ | refine Ans.gyG ?_ | refine Ans.bb ?_ | refine Ans.bc ?_ | refine Ans.ba ?_)
       | ((with_reducible first | refine Ans.lsT ?_ ?_ | refine Ans.leT ?_ ?_ | refine Ans.grT ?_ ?_ | refine Ans.geT ?_ ?_ | refine Ans.eqT ?_ ?_ | refine Ans.neT ?_ ?_); (focus omega))
       | ((with_reducible first | refine Ans.lsF ?_ ?_ | refine Ans.leF ?_ ?_ | refine Ans.grF ?_ ?_ | refine Ans.geF ?_ ?_ | refine Ans.eqF ?_ ?_ | refine Ans.neF ?_ ?_); (focus omega))
       | (with_reducible first | refine Ans.lsS (fun _ => ?_) (fun _ => ?_) | refine Ans.leS (fun _ => ?_) (fun _ => ?_) | refine Ans.grS (fun _ => ?_) (fun _ => ?_) | refine Ans.geS (fun _ => ?_) (fun _ => ?_) | refine Ans.eqS (fun _ => ?_) (fun _ => ?_) | refine Ans.neS (fun _ => ?_) (fun _ => ?_))
       | ((with_reducible first | refine Ans.addN ?_ ?_ | refine Ans.add ?_ ?_ | refine Ans.sub ?_ ?_ | refine Ans.mul ?_ ?_); (focus omega))
       | ((with_reducible first | refine Ans.ct ?_ ?_); (focus (simp (disch := (first | omega | with_reducible assumption | (simp <;> omega) | fail)) [k0, l1, l2, ls, lv, cs, ck, hfit, ce, hq, q2, q3, q4, l3, cc, aBinOp_eqlB]; done)))
       | ((with_reducible first | refine Ans.cf ?_ ?_); (focus (simp (disch := (first | omega | with_reducible assumption | (simp <;> omega) | fail)) [k0, l1, l2, ls, lv, cs, ck, hfit, ce, hq, q2, q3, q4, l3, cc, aBinOp_eqlB]; done)))
       | (refine Ans.step (by simp (disch := (first | omega | with_reducible assumption | (simp <;> omega) | fail)) [k0, l1, l2, ls, lv, cs, ck, hfit, ce, hq, q2, q3, q4, l3, cc, aBinOp_eqlB, -List.getD_eq_getElem?_getD] <;> rfl) ?_; try dsimp only [v_zero, v_succ])
       | fail)
      exact .done ⟨rfl, rfl⟩
    | false =>
      rw [ha] at q4 cc
      rw [if_neg (by simp)] at cc
      repeat' (first
       | ((with_reducible first | refine Ans.bz ?_ | refine Ans.r1 ?_ | refine Ans.pkT ?_ | refine Ans.pkF ?_); try dsimp only [v_zero, v_succ])
       | (with_reducible first | refine Ans.btL ?_ | refine Ans.bfL ?_ | refine Ans.gyT ?_ | refine Ans.gyF ?_ | refine Ans.gyG ?_ | refine Ans.bb ?_ | refine Ans.bc ?_ | refine Ans.ba ?_)
       | ((with_reducible first | refine Ans.lsT ?_ ?_ | refine Ans.leT ?_ ?_ | refine Ans.grT ?_ ?_ | refine Ans.geT ?_ ?_ | refine Ans.eqT ?_ ?_ | refine Ans.neT ?_ ?_); (focus omega))
       | ((with_reducible first | refine Ans.lsF ?_ ?_ | refine Ans.leF ?_ ?_ | refine Ans.grF ?_ ?_ | refine Ans.geF ?_ ?_ | refine Ans.eqF ?_ ?_ | refine Ans.neF ?_ ?_); (focus omega))
       | (with_reducible first | refine Ans.lsS (fun _ => ?_) (fun _ => ?_) | refine Ans.leS (fun _ => ?_) (fun _ => ?_) | refine Ans.grS (fun _ => ?_) (fun _ => ?_) | refine Ans.geS (fun _ => ?_) (fun _ => ?_) | refine Ans.eqS (fun _ => ?_) (fun _ => ?_) | refine Ans.neS (fun _ => ?_) (fun _ => ?_))
       | ((with_reducible first | refine Ans.addN ?_ ?_ | refine Ans.add ?_ ?_ | refine Ans.sub ?_ ?_ | refine Ans.mul ?_ ?_); (focus omega))
       | ((with_reducible first | refine Ans.ct ?_ ?_); (focus (simp (disch := (first | omega | with_reducible assumption | (simp <;> omega) | fail)) [k0, l1, l2, ls, lv, cs, ck, hfit, ce, hq, q2, q3, q4, l3, cc, aBinOp_eqlB]; done)))
       | ((with_reducible first | refine Ans.cf ?_ ?_); (focus (simp (disch := (first | omega | with_reducible assumption | (simp <;> omega) | fail)) [k0, l1, l2, ls, lv, cs, ck, hfit, ce, hq, q2, q3, q4, l3, cc, aBinOp_eqlB]; done)))
       | (refine Ans.step (by simp (disch := (first | omega | with_reducible assumption | (simp <;> omega) | fail)) [k0, l1, l2, ls, lv, cs, ck, hfit, ce, hq, q2, q3, q4, l3, cc, aBinOp_eqlB, -List.getD_eq_getElem?_getD] <;> rfl) ?_; try dsimp only [v_zero, v_succ])
       | fail)
      exact .done ⟨rfl, rfl⟩
end Go.Proofs.Ytcnndelmnobigaa

/-! Opening arguments: structs of slices; the heap of a call. -/
namespace Go.Ab
open Go Go.ChangeShapes Go.RowKit
set_option linter.unusedVariables false
set_option linter.unusedSimpArgs false

variable {P : Program}

theorem okStruct {W : World} {base : Nat} {t : TypeId} {fs : Array Field} {v : Value} {ts : List TypeId} (ht : P.underlying t = some (.struct fs)) (hts : P.cellTypes P.depth t = some ts) (hval : Value.okWide P W .any base t v) :
    ∃ cs, v = .agg cs ∧ cs.size = P.cellsOf t ∧ ∀ i x, cs[i]? = some x → ∃ u, ts[i % ts.length]? = some u ∧ Cell.okWide P W .any base u x := by
  unfold Value.okWide at hval
  rw [ht] at hval
  obtain ⟨cs, rfl, h1, ts', h2, _, h3⟩ := hval
  rw [hts] at h2
  cases h2
  exact ⟨cs, rfl, h1, h3⟩

/-- a struct of one slice -/
theorem open_s1 {H : Type} {enc : TypeId × Value → H} {W : World} {base : Nat} {tG tS e : TypeId} {sz : Nat} {v : Value} {f0 : Field} {d : DataW H} {ps : List MemPlace} (ht : P.underlying tG = some (.struct #[f0])) (hts : P.cellTypes P.depth tG = some [tS]) (hc : P.cellsOf tG = 1)
    (hS : P.underlying tS = some (.slice e)) (h0 : f0.type = tS) (o0 : f0.offset = 0) (hcS : P.cellsOf tS = 1) (hf : FlatT P e sz) (hz : 0 < sz) (hval : Value.okWide P W .any base tG v) (hd : DataW.Trod enc P W 0 (fun _ => true) true tG v d ps) :
    ∃ s n Gl, v = .agg #[s] ∧ OpenS W s sz n Gl := by
  obtain ⟨cs, rfl, h1, h2⟩ := okStruct ht hts hval
  rw [hc] at h1
  have hcs : ∃ s, cs = #[s] := by
    obtain ⟨l⟩ := cs
    match l, h1 with
    | [s], _ => exact ⟨s, rfl⟩
  match hcs with
  | ⟨s, hs⟩ =>
    subst hs
    obtain ⟨u, hu, hok⟩ := h2 0 s rfl
    simp at hu
    subst hu
    obtain ⟨fuel, hd⟩ := hd
    obtain ⟨y0, n, _, _, h3⟩ := trod_struct1 ht hd
    rw [h0, o0, hcS] at h3
    obtain ⟨n, Gl, ho⟩ := open_flat hS hf hz hok (fuel := n) (x := y0) (by simpa [Value.cells] using h3)
    exact ⟨s, n, Gl, rfl, ho⟩

/-- a struct of two slices -/
theorem open_s2 {H : Type} {enc : TypeId × Value → H} {W : World} {base : Nat} {tG tS tT e e' : TypeId} {sz sz' : Nat} {v : Value} {f0 f1 : Field} {d : DataW H} {ps : List MemPlace} (ht : P.underlying tG = some (.struct #[f0, f1])) (hts : P.cellTypes P.depth tG = some [tS, tT]) (hc : P.cellsOf tG = 2)
    (hS : P.underlying tS = some (.slice e)) (hT : P.underlying tT = some (.slice e')) (h0 : f0.type = tS) (o0 : f0.offset = 0) (k1 : f1.type = tT) (o1 : f1.offset = 1) (hcS : P.cellsOf tS = 1) (hcT : P.cellsOf tT = 1) (hf : FlatT P e sz) (hz : 0 < sz) (hf' : FlatT P e' sz') (hz' : 0 < sz')
    (hval : Value.okWide P W .any base tG v) (hd : DataW.Trod enc P W 0 (fun _ => true) true tG v d ps) :
    ∃ s s' n n' Gl Gl', v = .agg #[s, s'] ∧ OpenS W s sz n Gl ∧ OpenS W s' sz' n' Gl' := by
  obtain ⟨cs, rfl, h1, h2⟩ := okStruct ht hts hval
  rw [hc] at h1
  have hcs : ∃ s s', cs = #[s, s'] := by
    obtain ⟨l⟩ := cs
    match l, h1 with
    | [s, s'], _ => exact ⟨s, s', rfl⟩
  match hcs with
  | ⟨s, s', hs⟩ =>
    subst hs
    obtain ⟨u, hu, hok⟩ := h2 0 s rfl
    simp at hu
    subst hu
    obtain ⟨u, hu, hok'⟩ := h2 1 s' rfl
    simp at hu
    subst hu
    obtain ⟨fuel, hd⟩ := hd
    obtain ⟨y0, y1, n, _, _, h3, h4⟩ := trod_struct2 ht hd
    rw [h0, o0, hcS] at h3
    rw [k1, o1, hcT] at h4
    obtain ⟨n, Gl, ho⟩ := open_flat hS hf hz hok (fuel := n) (x := y0) (by simpa [Value.cells] using h3)
    obtain ⟨n', Gl', ho'⟩ := open_flat hT hf' hz' hok' (x := y1) (by simpa [Value.cells] using h4)
    exact ⟨s, s', n, n', Gl, Gl', rfl, ho, ho'⟩

/-- a slice -/
theorem open_sl {H : Type} {enc : TypeId × Value → H} {W : World} {base : Nat} {tS e : TypeId} {sz : Nat} {v : Value} {d : DataW H} {ps : List MemPlace} (hS : P.underlying tS = some (.slice e)) (hf : FlatT P e sz) (hz : 0 < sz)
    (hval : Value.okWide P W .any base tS v) (hd : DataW.Trod enc P W 0 (fun _ => true) true tS v d ps) : ∃ n Gl, OpenS W v sz n Gl := by
  unfold Value.okWide at hval
  rw [hS] at hval
  obtain ⟨fuel, hd⟩ := hd
  have hcs : v.cells.toList = [v] := by
    have hok : Cell.ok P W .any base tS v := by
      unfold Cell.okWide at hval
      rw [hS] at hval
      cases v <;> exact hval
    unfold Cell.ok at hok
    rw [hS] at hok
    cases v <;> first | rfl | exact hok.elim
  exact open_flat hS hf hz hval (fuel := fuel) (x := (d, ps)) (by rw [← hcs]; exact hd)

/-- the heap of a call over slices of the caller's -/
theorem rows_rel {W : World} (l : List (Value × Nat × Nat × List Int)) (hl : l.length ≤ 256) (h : ∀ (k : Nat) (p : Value × Nat × Nat × List Int), l[k]? = some p → OpenS W p.1 p.2.1 p.2.2.1 p.2.2.2) :
    ∃ (A : FH) (μ : Mu), R μ A W ∧ Fresh μ 1 ∧ (∀ i m, μ i = some m → wrB (HeapC.get A i) = false) ∧ ∀ (k : Nat) (p : Value × Nat × Nat × List Int), l[k]? = some p → SlI A 1 (absS k p.1) p.2.1 p.2.2.1 p.2.2.2 ∧ VR μ (absS k p.1) p.1 := by
  let blk : Nat → Option ABlk := fun i => (l[i]?).bind fun p => (absM p.1).map fun _ => .cells true none (ints p.2.2.2)
  let mu : Mu := fun i => (l[i]?).bind fun p => absM p.1
  have key : ∀ i m, mu i = some m → ∃ p, l[i]? = some p ∧ absM p.1 = some m ∧ blk i = some (.cells true none (ints p.2.2.2)) := by
    intro i m e
    cases hp : l[i]? with
    | none => simp only [mu, hp] at e; cases e
    | some p =>
      simp only [mu, hp, Option.bind_some] at e
      exact ⟨p, rfl, e, by simp only [blk, hp, Option.bind_some, e, Option.map_some]⟩
  refine ⟨⟨blk⟩, mu, ⟨fun i m e => ?_, fun i j mi mj ei ej hne di dj hro => ?_, fun i m e => ?_⟩, fun i hi => ?_, fun i m e => ?_, fun k p hp => ?_⟩
  · obtain ⟨p, h1, h2, h3⟩ := key i m e
    have := ((h i p h1).blk (μ := mu) h2).1
    show BlkR mu m W.heap (blk i)
    rw [h3]; exact this
  · obtain ⟨p, h1, h2, h3⟩ := key i mi ei
    obtain ⟨q, g1, g2, g3⟩ := key j mj ej
    exact absurd (show roB (blk i) = true ∧ roB (blk j) = true by rw [h3, g3]; exact ⟨rfl, rfl⟩) hro
  · obtain ⟨p, h1, h2, h3⟩ := key i m e
    exact ((h i p h1).blk (μ := mu) h2).2
  · have : l[i]? = none := List.getElem?_eq_none (by omega)
    simp only [mu, this]; rfl
  · obtain ⟨p, h1, h2, h3⟩ := key i m e
    show wrB (blk i) = false
    rw [h3]; rfl
  · have hk : k < l.length := (List.getElem?_eq_some_iff.1 hp).1
    refine ⟨(h k p hp).sl (by omega) (fun m hm => ?_), (h k p hp).vr (fun m hm => ?_)⟩
    · show blk k = _
      simp only [blk, hp, Option.bind_some, hm, Option.map_some]
    · simp only [mu, hp, Option.bind_some, hm]
theorem VR.agg1 {μ : Mu} {a b : Value} (h : VR μ a b) : VR μ (.agg #[a]) (.agg #[b]) := VR.agg_iff.2 (VRs.cons h (VRs.nil _))
theorem VR.agg2 {μ : Mu} {a b a' b' : Value} (h : VR μ a b) (h' : VR μ a' b') : VR μ (.agg #[a, a']) (.agg #[b, b']) := VR.agg_iff.2 (VRs.cons h (VRs.cons h' (VRs.nil _)))

/-- what a law's call does to the caller's world -/
def LawEnd (W : World) (e : Ending) (W' : World) : Prop := e = .returned (.bool true) ∧ Below W.heap.size W W'
end Go.Ab

/-! The heap of a call, with slices that may be parted. -/
namespace Go.Ab
open Go Go.ChangeShapes Go.RowKit
set_option linter.unusedVariables false
set_option linter.unusedSimpArgs false

/-- the heap of a call over slices of the caller's -/
theorem rows_relX {W : World} (l : List (Value × Nat × Nat × List Int)) (hl : l.length ≤ 256) (h : ∀ (k : Nat) (p : Value × Nat × Nat × List Int), l[k]? = some p → OpenS W p.1 p.2.1 p.2.2.1 p.2.2.2) :
    ∃ (A : FH) (μ : Mu), R μ A W ∧ Fresh μ 1 ∧ (∀ i m, μ i = some m → wrB (HeapC.get A i) = false) ∧ ∀ (k : Nat) (p : Value × Nat × Nat × List Int), l[k]? = some p → SlI A 1 (absS k p.1) p.2.1 p.2.2.1 p.2.2.2 ∧ VR μ (absS k p.1) p.1 ∧ SlX A (absS k p.1) p.2.1 p.2.2.1 := by
  let blk : Nat → Option ABlk := fun i => (l[i]?).bind fun p => (absM p.1).map fun _ => .cells true none (ints p.2.2.2)
  let mu : Mu := fun i => (l[i]?).bind fun p => absM p.1
  have key : ∀ i m, mu i = some m → ∃ p, l[i]? = some p ∧ absM p.1 = some m ∧ blk i = some (.cells true none (ints p.2.2.2)) := by
    intro i m e
    cases hp : l[i]? with
    | none => simp only [mu, hp] at e; cases e
    | some p =>
      simp only [mu, hp, Option.bind_some] at e
      exact ⟨p, rfl, e, by simp only [blk, hp, Option.bind_some, e, Option.map_some]⟩
  refine ⟨⟨blk⟩, mu, ⟨fun i m e => ?_, fun i j mi mj ei ej hne di dj hro => ?_, fun i m e => ?_⟩, fun i hi => ?_, fun i m e => ?_, fun k p hp => ?_⟩
  · obtain ⟨p, h1, h2, h3⟩ := key i m e
    have := ((h i p h1).blk (μ := mu) h2).1
    show BlkR mu m W.heap (blk i)
    rw [h3]; exact this
  · obtain ⟨p, h1, h2, h3⟩ := key i mi ei
    obtain ⟨q, g1, g2, g3⟩ := key j mj ej
    exact absurd (show roB (blk i) = true ∧ roB (blk j) = true by rw [h3, g3]; exact ⟨rfl, rfl⟩) hro
  · obtain ⟨p, h1, h2, h3⟩ := key i m e
    exact ((h i p h1).blk (μ := mu) h2).2
  · have : l[i]? = none := List.getElem?_eq_none (by omega)
    simp only [mu, this]; rfl
  · obtain ⟨p, h1, h2, h3⟩ := key i m e
    show wrB (blk i) = false
    rw [h3]; rfl
  · have hk : k < l.length := (List.getElem?_eq_some_iff.1 hp).1
    refine ⟨(h k p hp).sl (by omega) (fun m hm => ?_), (h k p hp).vr (fun m hm => ?_), (h k p hp).slx (fun m hm => ?_)⟩
    · show blk k = _
      simp only [blk, hp, Option.bind_some, hm, Option.map_some]
    · simp only [mu, hp, Option.bind_some, hm]
    · show blk k = _
      simp only [blk, hp, Option.bind_some, hm, Option.map_some]
end Go.Ab

namespace Go.Proofs.Ytcnndelmnobigaa
open Go.ChangeShapes Go.WideShapes Go.ChangeAt Go.RowKit
open Go Go.Ab Go.Proofs
set_option linter.unusedVariables false
set_option maxRecDepth 100000

theorem Try.own : ownKnob Try.prog.godebug = none := by kernel_rfl
theorem Try.laidOut : laidOutB Try.prog = true := by kernel_rfl

theorem flatInt : FlatT P 3 1 := FlatT.int Try.underlying3 (by kernel_rfl)
theorem flatPerm : FlatT P 39 4 := FlatT.array (n := 4) (z := 1) Try.underlying39 flatInt (by kernel_rfl)
theorem flatFace : FlatT P 41 5 := FlatT.struct2 (z0 := 1) (z1 := 4) Try.underlying41 flatInt flatPerm rfl rfl (by kernel_rfl)
theorem flatRow : FlatT P 42 20 := FlatT.array (n := 4) (z := 5) Try.underlying42 flatFace (by kernel_rfl)

theorem open_gluing {H : Type} {enc : TypeId × Value → H} {W : World} {base : Nat} {v : Value} {d : DataW H} {ps : List MemPlace} (hval : Value.okWide P W .any base 24 v) (hd : DataW.Trod enc P W 0 (fun _ => true) true 24 v d ps) :
    ∃ s n Gl, v = .agg #[s] ∧ OpenS W s 20 n Gl :=
  open_s1 Try.underlying24 (by kernel_rfl) (by kernel_rfl) Try.underlying22 rfl rfl (by kernel_rfl) flatRow (by omega) hval hd
theorem open_v {H : Type} {enc : TypeId × Value → H} {W : World} {base : Nat} {v : Value} {d : DataW H} {ps : List MemPlace} (hval : Value.okWide P W .any base 34 v) (hd : DataW.Trod enc P W 0 (fun _ => true) true 34 v d ps) :
    ∃ n Gl, OpenS W v 1 n Gl := open_sl (e := 3) (sz := 1) Try.underlying34 flatInt (by omega) hval hd

theorem law_calls {f : FuncId} {W : World} {A : FH} {μ : Mu} {xs ys : List Value} (hR : R μ A W) (hf : Fresh μ 1) (hro : ∀ i m, μ i = some m → wrB (HeapC.get A i) = false) (hv : VRs μ xs ys) (h : Ans (G (.fn f) xs A 1 []) fun x => x.e = .ret ∧ x.vs = [.bool true]) :
    Calls P f ys.toArray W (LawEnd W) := by
  obtain ⟨x, hx, he, hvs⟩ := h
  refine (runG_calls bk_ok ext_ok mixed hx hv hR hf).mono ?_
  rintro en w' ⟨u, v', μ', h1, h2, h3, hE⟩
  rw [hvs] at h1
  cases h1
  exact ⟨by rw [h2, h3.bool_left], hE.os, hE.tape, hE.output, hE.size, fun k hk => hE.fr k hk (fun i m e hw => by rw [hro i m e] at hw; cases hw)⟩
end Go.Proofs.Ytcnndelmnobigaa
