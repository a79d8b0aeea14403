/- A part of the claim's proof: YtdbiilapiloaiaaSp. Conditions: none. -/
import Derived.Test.YtdbiilapiloaiaaE
import Derived.Test.YtdbiilapiloaiaaAbSym
import Derived.Test.YtdbiilapiloaiaaLensPlain
/-! What lens.Standard computes. -/
set_option linter.all false
namespace Go.Proofs.Ytdbiilapiloaiaa
open Go Go.Ab Go.Proofs Go.Lens
set_option maxRecDepth 100000
set_option linter.unusedVariables false
set_option linter.unusedSimpArgs false

theorem OkV.tuple {c : Nat} {l : List Value} (h : OkVs c l) : OkV c (.tuple l.toArray) := by
  obtain ⟨ws, h1⟩ := h.vrs
  exact ⟨.tuple ws.toArray, VR.tuple_iff.2 (by simpa using h1)⟩
def tup2 (a b : Int) : Value := .tuple #[.int .i64 a, .int .i64 b]
def tup3 (a b d : Int) : Value := .tuple #[.int .i64 a, .int .i64 b, .int .i64 d]
theorem tup2_ok (k : Nat) (a b : Int) : OkV k (tup2 a b) := OkV.tuple (l := [_, _]) (by simp)
theorem tup3_ok (k : Nat) (a b d : Int) : OkV k (tup3 a b d) := OkV.tuple (l := [_, _, _]) (by simp)
@[simp] theorem extV20 (a b : Int) : extV (tup2 a b) 0 = some (.int .i64 a) := rfl
@[simp] theorem extV21 (a b : Int) : extV (tup2 a b) 1 = some (.int .i64 b) := rfl
@[simp] theorem extV30 (a b d : Int) : extV (tup3 a b d) 0 = some (.int .i64 a) := rfl
@[simp] theorem extV31 (a b d : Int) : extV (tup3 a b d) 1 = some (.int .i64 b) := rfl
@[simp] theorem extV32 (a b d : Int) : extV (tup3 a b d) 2 = some (.int .i64 d) := rfl
theorem tup3_eq (a b d : Int) : Value.tuple #[.int .i64 a, .int .i64 b, .int .i64 d] = tup3 a b d := rfl

/-- products of small numbers -/
theorem mul_small {a b : Int} {m n : Nat} (ha : a.natAbs ≤ m) (hb : b.natAbs ≤ n) : (a * b).natAbs ≤ m * n := by
  rw [Int.natAbs_mul]; exact Nat.mul_le_mul ha hb

theorem tdiv_small (a b : Int) : (a.tdiv b).natAbs ≤ a.natAbs := by rw [Int.natAbs_tdiv]; exact Nat.div_le_self _ _
theorem tmod_small (a b : Int) : (a.tmod b).natAbs ≤ a.natAbs := by rw [Int.natAbs_tmod]; exact Nat.mod_le _ _

/-- lens.bezout -/
theorem bezout_sp : ∀ (n : Nat) (a b : Int) (h : FH) (c : Nat) (df : List Nat), b.natAbs ≤ n → a.natAbs ≤ 10000000 → b.natAbs ≤ 10000000 →
    G (.fn 39) [.int .i64 a, .int .i64 b] h c df = some { e := .ret, vs := [tup3 (bzT a b).1 (bzT a b).2.1 (bzT a b).2.2], h := h, c := c, df := [] } := by
  intro n
  induction n with
  | zero =>
    intro a b h c df hn ha hb
    obtain rfl : b = 0 := by omega
    refine pure_of (fun r e => f39_go e) (tup3_ok _ _ _ _) ?_
    unfold f39_S
    rw [bzT_zero]
    by_cases hc : a < 0
    · rw [if_pos hc]
      repeat (first
        | with_reducible refine Ans.bt rfl ?_
        | with_reducible refine Ans.bf rfl ?_
        | with_reducible refine Ans.ct (by simp) ?_
        | with_reducible refine Ans.cf (by simp) ?_
        | refine Ans.step (by (simp (disch := (first | omega | (simp <;> omega) | fail)) [hc, -List.getD_eq_getElem?_getD]) <;> rfl) ?_)
      exact .done ⟨rfl, rfl, Same.refl _ _, rfl⟩
    · rw [if_neg hc]
      repeat (first
        | with_reducible refine Ans.bt rfl ?_
        | with_reducible refine Ans.bf rfl ?_
        | with_reducible refine Ans.ct (by simp) ?_
        | with_reducible refine Ans.cf (by simp) ?_
        | refine Ans.step (by (simp (disch := (first | omega | (simp <;> omega) | fail)) [hc, -List.getD_eq_getElem?_getD]) <;> rfl) ?_)
      exact .done ⟨rfl, rfl, Same.refl _ _, rfl⟩
  | succ n ih =>
    intro a b h c df hn ha hb
    refine pure_of (fun r e => f39_go e) (tup3_ok _ _ _ _) ?_
    unfold f39_S
    by_cases h0 : b = 0
    · subst h0
      rw [bzT_zero]
      by_cases hc : a < 0
      · rw [if_pos hc]
        repeat (first
          | with_reducible refine Ans.bt rfl ?_
          | with_reducible refine Ans.bf rfl ?_
          | with_reducible refine Ans.ct (by simp) ?_
          | with_reducible refine Ans.cf (by simp) ?_
          | refine Ans.step (by (simp (disch := (first | omega | (simp <;> omega) | fail)) [hc, -List.getD_eq_getElem?_getD]) <;> rfl) ?_)
        exact .done ⟨rfl, rfl, Same.refl _ _, rfl⟩
      · rw [if_neg hc]
        repeat (first
          | with_reducible refine Ans.bt rfl ?_
          | with_reducible refine Ans.bf rfl ?_
          | with_reducible refine Ans.ct (by simp) ?_
          | with_reducible refine Ans.cf (by simp) ?_
          | refine Ans.step (by (simp (disch := (first | omega | (simp <;> omega) | fail)) [hc, -List.getD_eq_getElem?_getD]) <;> rfl) ?_)
        exact .done ⟨rfl, rfl, Same.refl _ _, rfl⟩
    · rw [bzT_step a b h0]
      have hlt := tmod_lt a b h0
      have hok := bzT_all b (a.tmod b)
      have b1 := hok.bu
      have b2 := hok.bv
      have hm := tmod_small a b
      have hq := tdiv_small a b
      have hcall := callF_of (o := G) (ih b (a.tmod b) h (c + 1 + 1 + 1) [] (by omega) (by omega) (by omega))
      generalize bzT b (a.tmod b) = r at *
      obtain ⟨d, x, y⟩ := r
      simp only at b1 b2 hcall ⊢
      have hp := mul_small (a := a.tdiv b) (b := y) (m := 10000000) (n := 10000000) (by omega) (by omega)
      repeat (first
        | with_reducible refine Ans.bt rfl ?_
        | with_reducible refine Ans.bf rfl ?_
        | with_reducible refine Ans.ct (by simp) ?_
        | with_reducible refine Ans.cf (by simp) ?_
        | refine Ans.step (by (simp (disch := (first | omega | (simp <;> omega) | fail)) [h0, hcall, -List.getD_eq_getElem?_getD]) <;> rfl) ?_)
      exact .done ⟨rfl, rfl, Same.refl _ _, rfl⟩

/-- lens.positive -/
theorem positive_sp (a m : Int) (h : FH) (c : Nat) (df : List Nat) (hm : 0 < m) (hm2 : m ≤ 10000000) : G (.fn 67) [.int .i64 a, .int .i64 m] h c df = some { e := .ret, vs := [.int .i64 (pos a m)], h := h, c := c, df := [] } := by
  refine pure_of (fun r e => f67_go e) (by simp) ?_
  have h1 := Int.tmod_lt_of_pos a hm
  have h2 : -m < a.tmod m := by have := Int.natAbs_tmod a m; have := Nat.mod_lt a.natAbs (by omega : 0 < m.natAbs); omega
  have hm0 : m ≠ 0 := by omega
  unfold f67_S
  repeat (first
    | with_reducible refine Ans.bt rfl ?_
    | with_reducible refine Ans.bf rfl ?_
    | with_reducible refine Ans.ct (by simp) ?_
    | with_reducible refine Ans.cf (by simp) ?_
    | refine Ans.step (by (simp (disch := (first | omega | (simp <;> omega) | fail)) [hm0, -List.getD_eq_getElem?_getD]) <;> rfl) ?_)
  exact .done ⟨rfl, rfl, Same.refl _ _, rfl⟩

theorem foldV_min4 (a b d e : Int) : foldV min2 [.int .i64 a, .int .i64 b, .int .i64 d, .int .i64 e] = some (.int .i64 (min4 a b d e)) := by
  have h : ∀ x y : Int, min2 (.int .i64 x) (.int .i64 y) = some (.int .i64 (min x y)) := fun x y => by
    have := foldV_min x y
    simpa only [foldV, List.foldlM, Option.bind_eq_bind, Option.bind_some, Option.pure_def, Option.bind_fun_some] using this
  simp only [foldV, List.foldlM, h, Option.bind_eq_bind, Option.bind_some, Option.pure_def]
  rfl

/-- lens.standard -/
theorem standard_sp (p q : Int) (h : FH) (c : Nat) (df : List Nat) (hp0 : 0 ≤ p) (hp : p ≤ 1000000) : G (.fn 40) [.int .i64 p, .int .i64 q] h c df = some { e := .ret, vs := [.int .i64 (stdZ p q)], h := h, c := c, df := [] } := by
  refine pure_of (fun r e => f40_go e) (by simp) ?_
  unfold f40_S stdZ
  by_cases h2 : p < 2
  · rw [if_pos h2]
    repeat (first
      | with_reducible refine Ans.bt rfl ?_
      | with_reducible refine Ans.bf rfl ?_
      | with_reducible refine Ans.ct (by simp) ?_
      | with_reducible refine Ans.cf (by simp) ?_
      | refine Ans.step (by (simp (disch := (first | omega | (simp <;> omega) | fail)) [h2, -List.getD_eq_getElem?_getD]) <;> rfl) ?_)
    exact .done ⟨rfl, rfl, Same.refl _ _, rfl⟩
  · rw [if_neg h2]
    have k1 : ∀ c, callF G 67 [.int .i64 q, .int .i64 p] h c = some (.int .i64 (pos q p), h, c) := fun c => callF_of (positive_sp q p h c [] (by omega) (by omega))
    obtain ⟨s1, s2, _⟩ := pos_spec q p (by omega)
    generalize pos q p = r at *
    have k2 : ∀ c, callF G 39 [.int .i64 r, .int .i64 p] h c = some (_, h, c) := fun c => callF_of (bezout_sp p.natAbs r p h c [] (by omega) (by omega) (by omega))
    have k3 : ∀ c, callF G 67 [.int .i64 (bzT r p).2.1, .int .i64 p] h c = some (.int .i64 (pos (bzT r p).2.1 p), h, c) := fun c => callF_of (positive_sp _ p h c [] (by omega) (by omega))
    obtain ⟨t1, t2, _⟩ := pos_spec (bzT r p).2.1 p (by omega)
    repeat (first
      | with_reducible refine Ans.bt rfl ?_
      | with_reducible refine Ans.bf rfl ?_
      | with_reducible refine Ans.ct (by simp) ?_
      | with_reducible refine Ans.cf (by simp) ?_
      | refine Ans.step (by (simp (disch := (first | omega | (simp <;> omega) | fail)) [h2, k1, k2, k3, foldV_min4, -List.getD_eq_getElem?_getD]) <;> rfl) ?_)
    exact .done ⟨rfl, rfl, Same.refl _ _, rfl⟩

/-- lens.Standard -/
def stdE (p q : Int) : Value := if (bzT p q).1 = 1 then tup2 (stdZ p q) 0 else tup2 0 1
theorem Standard_sp (p q : Int) (h : FH) (c : Nat) (df : List Nat) (hp0 : 0 ≤ p) (hp : p ≤ 1000000) (hq0 : -1000000 ≤ q) (hq : q ≤ 1000000) :
    G (.fn 14) [.int .i64 p, .int .i64 q] h c df = some { e := .ret, vs := [stdE p q], h := h, c := c, df := [] } := by
  refine pure_of (fun r e => f14_go e) (by unfold stdE; split <;> exact tup2_ok _ _ _) ?_
  have n1 : ¬ p < 0 := by omega
  have n2 : ¬ 1000000 < p := by omega
  have n3 : ¬ q < -1000000 := by omega
  have n4 : ¬ 1000000 < q := by omega
  have k1 : ∀ c, callF G 39 [.int .i64 p, .int .i64 q] h c = some (_, h, c) := fun c => callF_of (bezout_sp q.natAbs p q h c [] (by omega) (by omega) (by omega))
  have k2 : ∀ c, callF G 40 [.int .i64 p, .int .i64 q] h c = some (_, h, c) := fun c => callF_of (standard_sp p q h c [] (by omega) (by omega))
  unfold f14_S stdE
  by_cases hg : (bzT p q).1 = 1
  · rw [if_pos hg]
    repeat (first
      | with_reducible refine Ans.bt rfl ?_
      | with_reducible refine Ans.bf rfl ?_
      | with_reducible refine Ans.ct (by simp) ?_
      | with_reducible refine Ans.cf (by simp) ?_
      | refine Ans.step (by (simp (disch := (first | omega | (simp <;> omega) | fail)) [n1, n2, n3, n4, k1, k2, hg, -List.getD_eq_getElem?_getD]) <;> rfl) ?_)
    exact .done ⟨rfl, rfl, Same.refl _ _, rfl⟩
  · rw [if_neg hg]
    repeat (first
      | with_reducible refine Ans.bt rfl ?_
      | with_reducible refine Ans.bf rfl ?_
      | with_reducible refine Ans.ct (by simp) ?_
      | with_reducible refine Ans.cf (by simp) ?_
      | refine Ans.step (by (simp (disch := (first | omega | (simp <;> omega) | fail)) [n1, n2, n3, n4, k1, k2, hg, -List.getD_eq_getElem?_getD]) <;> rfl) ?_)
    exact .done ⟨rfl, rfl, Same.refl _ _, rfl⟩
end Go.Proofs.Ytdbiilapiloaiaa
