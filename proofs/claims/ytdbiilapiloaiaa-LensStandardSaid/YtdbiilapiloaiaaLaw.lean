/- A part of the claim's proof: YtdbiilapiloaiaaLaw. Conditions: none. -/
import Derived.Test.YtdbiilapiloaiaaSp
/-! The walk through LensStandard. -/
set_option linter.all false
namespace Go.Proofs.Ytdbiilapiloaiaa
open Go Go.Ab Go.Proofs Go.Lens
set_option maxRecDepth 100000
set_option linter.unusedVariables false
set_option linter.unusedSimpArgs false

theorem aBinOp_eqlB (a b : Bool) : aBinOp P .eql 4 (.bool a) (.bool b) = some (.bool (a == b)) := by cases a <;> cases b <;> kernel_rfl

theorem sane_call (h : FH) (c : Nat) : callF G 8 [] h c = some (.bool true, h, c) := callF_of (runG_ext (f := 8) (args := []) (h := h) (c := c) (r := { e := .ret, vs := [.bool true], h := h, c := c, df := [] }) rfl)

theorem stdZ_small {p q : Int} (hp : 0 ≤ p) (hp2 : p ≤ 2000) (hg : (bzT p q).1 = 1) : 0 ≤ stdZ p q + 1 ∧ stdZ p q ≤ 2000 := by
  by_cases h : p < 2
  · unfold stdZ; rw [if_pos h]; omega
  · have hs := stdZ_is p q (by omega) hg
    have h1 := hs.lo
    have h2 := hs.hi
    omega

theorem dv_iff {p x : Int} (hp : p ≠ 0) : x.tmod p = 0 ↔ Dv p x := by
  constructor
  · intro h
    exact ⟨x.tdiv p, by have := Int.mul_tdiv_add_tmod x p; omega⟩
  · rintro ⟨k, rfl⟩
    exact Int.mul_tmod_right p k

theorem law_true (p q r : Int) (h : FH) (c : Nat) : Ans (G (.fn 4) [.int .i64 p, .int .i64 q, .int .i64 r] h c []) fun x => x.e = .ret ∧ x.vs = [.bool true] := by
  suffices hs : Ans (f4_S G (.int .i64 p) (.int .i64 q) (.int .i64 r) h c) fun x => x.e = .ret ∧ x.vs = [.bool true] by
    obtain ⟨x, h1, h2⟩ := hs
    exact ⟨x, f4_go h1, h2⟩
  unfold f4_S
  have k0 := sane_call
  by_cases g1 : p < 0
  · repeat (first
      | with_reducible refine Ans.bt rfl ?_
      | with_reducible refine Ans.bf rfl ?_
      | with_reducible refine Ans.ct (by simp) ?_
      | with_reducible refine Ans.cf (by simp) ?_
      | refine Ans.step (by (simp (disch := (first | omega | (simp <;> omega) | fail)) [k0, g1, -List.getD_eq_getElem?_getD]) <;> rfl) ?_)
    exact .done ⟨rfl, rfl⟩
  by_cases g2 : 2000 < p
  · repeat (first
      | with_reducible refine Ans.bt rfl ?_
      | with_reducible refine Ans.bf rfl ?_
      | with_reducible refine Ans.ct (by simp) ?_
      | with_reducible refine Ans.cf (by simp) ?_
      | refine Ans.step (by (simp (disch := (first | omega | (simp <;> omega) | fail)) [k0, g1, g2, -List.getD_eq_getElem?_getD]) <;> rfl) ?_)
    exact .done ⟨rfl, rfl⟩
  by_cases g3 : q < -100000
  · repeat (first
      | with_reducible refine Ans.bt rfl ?_
      | with_reducible refine Ans.bf rfl ?_
      | with_reducible refine Ans.ct (by simp) ?_
      | with_reducible refine Ans.cf (by simp) ?_
      | refine Ans.step (by (simp (disch := (first | omega | (simp <;> omega) | fail)) [k0, g1, g2, g3, -List.getD_eq_getElem?_getD]) <;> rfl) ?_)
    exact .done ⟨rfl, rfl⟩
  by_cases g4 : 100000 < q
  · repeat (first
      | with_reducible refine Ans.bt rfl ?_
      | with_reducible refine Ans.bf rfl ?_
      | with_reducible refine Ans.ct (by simp) ?_
      | with_reducible refine Ans.cf (by simp) ?_
      | refine Ans.step (by (simp (disch := (first | omega | (simp <;> omega) | fail)) [k0, g1, g2, g3, g4, -List.getD_eq_getElem?_getD]) <;> rfl) ?_)
    exact .done ⟨rfl, rfl⟩
  by_cases g5 : r < -100000
  · repeat (first
      | with_reducible refine Ans.bt rfl ?_
      | with_reducible refine Ans.bf rfl ?_
      | with_reducible refine Ans.ct (by simp) ?_
      | with_reducible refine Ans.cf (by simp) ?_
      | refine Ans.step (by (simp (disch := (first | omega | (simp <;> omega) | fail)) [k0, g1, g2, g3, g4, g5, -List.getD_eq_getElem?_getD]) <;> rfl) ?_)
    exact .done ⟨rfl, rfl⟩
  by_cases g6 : 100000 < r
  · repeat (first
      | with_reducible refine Ans.bt rfl ?_
      | with_reducible refine Ans.bf rfl ?_
      | with_reducible refine Ans.ct (by simp) ?_
      | with_reducible refine Ans.cf (by simp) ?_
      | refine Ans.step (by (simp (disch := (first | omega | (simp <;> omega) | fail)) [k0, g1, g2, g3, g4, g5, g6, -List.getD_eq_getElem?_getD]) <;> rfl) ?_)
    exact .done ⟨rfl, rfl⟩
  have k : ∀ (x : Int) (c : Nat), -1000000 ≤ x → x ≤ 1000000 → callF G 14 [.int .i64 p, .int .i64 x] h c = some (stdE p x, h, c) := fun x c h1 h2 => callF_of (Standard_sp p x h c [] (by omega) (by omega) h1 h2)
  have kq : ∀ c, callF G 14 [.int .i64 p, .int .i64 q] h c = some (stdE p q, h, c) := fun c => k q c (by omega) (by omega)
  by_cases hg : (bzT p q).1 = 1
  case neg =>
    have e1 : stdE p q = tup2 0 1 := if_neg hg
    rw [e1] at kq
    repeat (first
      | with_reducible refine Ans.bt rfl ?_
      | with_reducible refine Ans.bf rfl ?_
      | with_reducible refine Ans.ct (by simp) ?_
      | with_reducible refine Ans.cf (by simp) ?_
      | refine Ans.step (by (simp (disch := (first | omega | (simp <;> omega) | fail)) [k0, g1, g2, g3, g4, g5, g6, kq, -List.getD_eq_getElem?_getD]) <;> rfl) ?_)
    exact .done ⟨rfl, rfl⟩
  have e1 : stdE p q = tup2 (stdZ p q) 0 := if_pos hg
  rw [e1] at kq
  have hsm := stdZ_small (by omega) (by omega) hg
  obtain ⟨l1, l2, l3, l4, l5⟩ := std_law p q (by omega) hg
  have ka : ∀ c, callF G 14 [.int .i64 p, .int .i64 (stdZ p q)] h c = some (tup2 (stdZ p q) 0, h, c) := fun c => by
    rw [k (stdZ p q) c (by omega) (by omega)]
    unfold stdE
    rw [if_pos l1, l2]
  have kn : ∀ c, callF G 14 [.int .i64 p, .int .i64 (-q)] h c = some (tup2 (stdZ p q) 0, h, c) := fun c => by
    rw [k (-q) c (by omega) (by omega)]
    unfold stdE
    rw [if_pos l3, l4]
  have kr : ∀ c, callF G 14 [.int .i64 p, .int .i64 r] h c = some (stdE p r, h, c) := fun c => k r c (by omega) (by omega)
  by_cases hr : (bzT p r).1 = 1
  case neg =>
    have e1 : stdE p r = tup2 0 1 := if_neg hr
    rw [e1] at kr
    repeat (first
      | with_reducible refine Ans.bt rfl ?_
      | with_reducible refine Ans.bf rfl ?_
      | with_reducible refine Ans.ct (by simp) ?_
      | with_reducible refine Ans.cf (by simp) ?_
      | refine Ans.step (by (simp (disch := (first | omega | (simp <;> omega) | fail)) [k0, g1, g2, g3, g4, g5, g6, kq, ka, kn, kr, -List.getD_eq_getElem?_getD]) <;> rfl) ?_)
    exact .done ⟨rfl, rfl⟩
  have e2 : stdE p r = tup2 (stdZ p r) 0 := if_pos hr
  rw [e2] at kr
  have l6 := l5 r hr
  by_cases hp : p = 0
  · have e3 : stdZ p r = stdZ p q := l6.1 hp
    rw [e3] at kr
    have hp' := eq_true hp
    repeat (first
      | with_reducible refine Ans.bt rfl ?_
      | with_reducible refine Ans.bf rfl ?_
      | with_reducible refine Ans.ct (by simp) ?_
      | with_reducible refine Ans.cf (by simp) ?_
      | refine Ans.step (by (simp (disch := (first | omega | (simp <;> omega) | fail)) [k0, g1, g2, g3, g4, g5, g6, kq, ka, kn, kr, hp', -List.getD_eq_getElem?_getD]) <;> rfl) ?_)
    exact .done ⟨rfl, by simp⟩
  have l7 := l6.2 hp
  have m1 : (q * r).natAbs ≤ 100000 * 100000 := mul_small (by omega) (by omega)
  have b1 : -20000000000 ≤ q * r ∧ q * r ≤ 20000000000 := by clear l7 l6 l5; omega
  have s1 := aBinOp_sub (P := P) 3 q r (by clear l7 l6 l5; omega) (by clear l7 l6 l5; omega)
  have s2 := aBinOp_add (P := P) 3 q r (by clear l7 l6 l5; omega) (by clear l7 l6 l5; omega)
  have s3 := aBinOp_mul (P := P) 3 q r (by clear l7 l6 l5; omega) (by clear l7 l6 l5; omega)
  have s4 := aBinOp_sub (P := P) 3 (q * r) 1 (by clear l7 l6 l5; omega) (by clear l7 l6 l5; omega)
  have s5 := aBinOp_add (P := P) 3 (q * r) 1 (by clear l7 l6 l5; omega) (by clear l7 l6 l5; omega)
  have alike : stdZ p q = stdZ p r ↔ ((q - r).tmod p = 0 ∨ (q + r).tmod p = 0 ∨ (q * r - 1).tmod p = 0 ∨ (q * r + 1).tmod p = 0) := by
    rw [l7]
    unfold Al
    rw [dv_iff hp, dv_iff hp, dv_iff hp, dv_iff hp]
  by_cases a1 : (q - r).tmod p = 0
  · have hz : stdZ p q = stdZ p r := alike.2 (.inl a1)
    rw [← hz] at kr
    repeat (first
      | with_reducible refine Ans.bt rfl ?_
      | with_reducible refine Ans.bf rfl ?_
      | with_reducible refine Ans.ct (by simp) ?_
      | with_reducible refine Ans.cf (by simp) ?_
      | refine Ans.step (by (simp (disch := (first | omega | (simp <;> omega) | fail)) [k0, g1, g2, g3, g4, g5, g6, kq, ka, kn, kr, hp, a1, aBinOp_eqlB, s1, s2, s3, s4, s5, -List.getD_eq_getElem?_getD]) <;> rfl) ?_)
    exact .done ⟨rfl, by simp⟩
  by_cases a2 : (q + r).tmod p = 0
  · have hz : stdZ p q = stdZ p r := alike.2 (.inr (.inl a2))
    rw [← hz] at kr
    repeat (first
      | with_reducible refine Ans.bt rfl ?_
      | with_reducible refine Ans.bf rfl ?_
      | with_reducible refine Ans.ct (by simp) ?_
      | with_reducible refine Ans.cf (by simp) ?_
      | refine Ans.step (by (simp (disch := (first | omega | (simp <;> omega) | fail)) [k0, g1, g2, g3, g4, g5, g6, kq, ka, kn, kr, hp, a1, a2, aBinOp_eqlB, s1, s2, s3, s4, s5, -List.getD_eq_getElem?_getD]) <;> rfl) ?_)
    exact .done ⟨rfl, by simp⟩
  by_cases a3 : (q * r - 1).tmod p = 0
  · have hz : stdZ p q = stdZ p r := alike.2 (.inr (.inr (.inl a3)))
    rw [← hz] at kr
    repeat (first
      | with_reducible refine Ans.bt rfl ?_
      | with_reducible refine Ans.bf rfl ?_
      | with_reducible refine Ans.ct (by simp) ?_
      | with_reducible refine Ans.cf (by simp) ?_
      | refine Ans.step (by (simp (disch := (first | omega | (simp <;> omega) | fail)) [k0, g1, g2, g3, g4, g5, g6, kq, ka, kn, kr, hp, a1, a2, a3, aBinOp_eqlB, s1, s2, s3, s4, s5, -List.getD_eq_getElem?_getD]) <;> rfl) ?_)
    exact .done ⟨rfl, by simp⟩
  by_cases a4 : (q * r + 1).tmod p = 0
  · have hz : stdZ p q = stdZ p r := alike.2 (.inr (.inr (.inr a4)))
    rw [← hz] at kr
    repeat (first
      | with_reducible refine Ans.bt rfl ?_
      | with_reducible refine Ans.bf rfl ?_
      | with_reducible refine Ans.ct (by simp) ?_
      | with_reducible refine Ans.cf (by simp) ?_
      | refine Ans.step (by (simp (disch := (first | omega | (simp <;> omega) | fail)) [k0, g1, g2, g3, g4, g5, g6, kq, ka, kn, kr, hp, a1, a2, a3, a4, aBinOp_eqlB, s1, s2, s3, s4, s5, -List.getD_eq_getElem?_getD]) <;> rfl) ?_)
    exact .done ⟨rfl, by simp⟩
  have hz : ¬ stdZ p q = stdZ p r := fun h => by
    rcases alike.1 h with h | h | h | h
    · exact a1 h
    · exact a2 h
    · exact a3 h
    · exact a4 h
  repeat (first
    | with_reducible refine Ans.bt rfl ?_
    | with_reducible refine Ans.bf rfl ?_
    | with_reducible refine Ans.ct (by simp) ?_
    | with_reducible refine Ans.cf (by simp) ?_
    | refine Ans.step (by (simp (disch := (first | omega | (simp <;> omega) | fail)) [k0, g1, g2, g3, g4, g5, g6, kq, ka, kn, kr, hp, a1, a2, a3, a4, hz, aBinOp_eqlB, s1, s2, s3, s4, s5, -List.getD_eq_getElem?_getD]) <;> rfl) ?_)
  exact .done ⟨rfl, by simp [hz]⟩
end Go.Proofs.Ytdbiilapiloaiaa
