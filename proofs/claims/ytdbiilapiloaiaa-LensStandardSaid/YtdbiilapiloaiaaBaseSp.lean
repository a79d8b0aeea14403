/- A part of the claim's proof: YtdbiilapiloaiaaBaseSp. Conditions: none. -/
import Derived.Test.YtdbiilapiloaiaaBaseS0
import Derived.Test.YtdbiilapiloaiaaAbSym
set_option linter.all false
namespace Go.Proofs.Ytdbiilapiloaiaa.Base
open Go Go.Ab Go.Proofs
set_option maxRecDepth 100000
set_option linter.unusedVariables false
set_option linter.unusedSimpArgs false


def orB (a b : Int) : Int := IntKind.i64.wrap ((BitVec.ofInt 64 a ||| BitVec.ofInt 64 b).toNat)
def shB (x : Int) : Int := IntKind.i64.wrap (1 * 2 ^ (min x.toNat 64))
theorem aBinOp_or (t : TypeId) (a b : Int) : aBinOp P .or t (.int .i64 a) (.int .i64 b) = some (.int .i64 (orB a b)) := by rw [aBinOp_eq]; simp [aBinOp0, intBin, orB]; rfl
theorem aBinOp_shl1 (t : TypeId) (x : Int) (h : 0 ≤ x) : aBinOp P .shl t (.int .i64 1) (.int .i64 x) = some (.int .i64 (shB x)) := by
  rw [aBinOp_eq]
  have : ¬ x < 0 := by omega
  simp [aBinOp0, shiftBin, shB, this]; rfl

/-- what the loop of Valid comes to from some entries on -/
def validL : List Int → Int → Option Int
  | [], m => some m
  | x :: xs, m => if x < 0 ∨ 3 < x then none else validL xs (orB m (shB x))

def validB (p : List Int) : Bool := decide (validL p 0 = some 15)

theorem valid_loop (p : List Int) (hp : p.length = 4) (h : FH) (c : Nat) (df : List Nat) : ∀ (k i : Nat) (m : Int), i + k = 4 →
    Ans (G (f72_k72000 none) [.bool false, .int .i64 m, av p, .int .i64 i] h c df) fun r => r.h = h ∧ r.c = c ∧ r.df = df ∧
      (match validL (p.drop i) m with
        | some m' => r.e = .exit 0 ∧ r.v 1 = .int .i64 m'
        | none => r.e = .ret ∧ r.v 0 = .bool false) := by
  intro k
  induction k with
  | zero =>
    intro i m hi
    obtain rfl : i = 4 := by omega
    rw [List.drop_of_length_le (by omega)]
    have e1 : ¬ ((4 : Nat) : Int) < 4 := by omega
    refine .intro (f72_Z72000 (q := ⟨.exit 0, [.bool false, .int .i64 m, av p, .int .i64 (4 : Nat)], h, c + 1, df⟩) (by unfold f72_L72000; simp [e1]) (by simp)) ?_
    rw [gcR_same (by simp)]
    simp [validL]
  | succ k ih =>
    intro i m hi
    have hlt : i < p.length := by omega
    have e0 : (i : Int) < 4 := by omega
    rw [List.drop_eq_getElem_cons hlt]
    have hx : p.getD i 0 = p[i] := by simp [List.getD, List.getElem?_eq_getElem hlt]
    by_cases hc : p[i] < 0 ∨ 3 < p[i]
    · simp only [validL, hc, if_true]
      refine .intro (f72_Z72000 (q := ⟨.ret, [.bool false, .int .i64 m, av p, .int .i64 i], h, _, df⟩) (by
        unfold f72_L72000
        by_cases h1 : p[i] < 0
        · simp (disch := omega) [e0, ixV_av, hx, h1, -List.getD_eq_getElem?_getD]; rfl
        · have h2 : 3 < p[i] := by omega
          simp (disch := omega) [e0, ixV_av, hx, h1, h2, -List.getD_eq_getElem?_getD] <;> rfl) (by simp)) ?_
      rw [gcR_same (by simp)]
      simp
    · have h1 : ¬ p[i] < 0 := by omega
      have h2 : ¬ 3 < p[i] := by omega
      simp only [validL, hc, if_false]
      obtain ⟨r, hr, hq⟩ := ih (i + 1) (orB m (shB p[i])) (by omega)
      refine .intro (f72_N72000 (q := ⟨.normal, [.bool false, .int .i64 (orB m (shB p[i])), av p, .int .i64 (i + 1 : Nat)], h, c + 1 + 1 + 1 + 1 + 1, df⟩) (by
        unfold f72_L72000
        simp (disch := omega) [e0, ixV_av, hx, h1, h2, aBinOp_shl1 _ p[i] (by omega), aBinOp_or, -List.getD_eq_getElem?_getD]) rfl ?_) hq
      rw [gcR_same (by simp)]
      exact hr

/-- glue.Valid -/
theorem valid_sp (p : List Int) (hp : p.length = 4) (h : FH) (c : Nat) (df : List Nat) :
    G (.fn 72) [av p] h c df = some { e := .ret, vs := [.bool (validB p)], h := h, c := c, df := [] } := by
  refine pure_of (fun r e => f72_go e) (by simp) ?_
  obtain ⟨⟨re, rv, rh, rc, rd⟩, hr, h1, h2, h3, h4⟩ := valid_loop p hp (newB h (256 * c) (ints p)) (c + 1 + 1 + 1) [] 4 0 0 rfl
  simp only at h1 h2 h3
  subst h1 h2 h3
  unfold f72_S
  simp only [List.drop_zero] at h4
  have e1 : p.take 4 = p := List.take_of_length_le (by omega)
  simp only [Int.ofNat_eq_natCast, Int.cast_ofNat_Int] at hr
  unfold validB
  cases hv : validL p 0 with
  | none =>
    rw [hv] at h4
    obtain ⟨rfl, h5⟩ := h4
    simp [hr, e1, hp, h5]
  | some m =>
    rw [hv] at h4
    obtain ⟨rfl, h5⟩ := h4
    simp [hr, e1, hp, h5]

/-- what the loop of inverse lays -/
def invL : List Int → Nat → List Int → List Int
  | [], _, out => out
  | x :: xs, i, out => invL xs (i + 1) (out.set x.toNat i)
theorem invL_length : ∀ (p : List Int) (i : Nat) (out : List Int), (invL p i out).length = out.length
  | [], _, _ => rfl
  | x :: xs, i, out => by rw [invL, invL_length]; simp
def inv (p : List Int) : List Int := invL p 0 [0, 0, 0, 0]
def InR (p : List Int) : Prop := ∀ x ∈ p, 0 ≤ x ∧ x < 4

theorem inverse_loop (p : List Int) (hp : p.length = 4) (hr : InR p) (h : FH) (b1 b3 c : Nat) (hb1 : b1 < 256 * c) (hb : b3 < 256 * c) (df : List Nat) : ∀ (k i : Nat) (out : List Int), i + k = 4 → out.length = 4 →
    G (f73_k73000 none) [ptrTo b1, ptrTo b3, av p, .int .i64 i] (newB h b3 (ints out)) c df =
      some { e := .exit 0, vs := [ptrTo b1, ptrTo b3, av p, .int .i64 4], h := newB h b3 (ints (invL (p.drop i) i out)), c := c, df := df } := by
  intro k
  induction k with
  | zero =>
    intro i out hi ho
    obtain rfl : i = 4 := by omega
    rw [List.drop_of_length_le (by omega)]
    refine (f73_Z73000 (q := ⟨.exit 0, [ptrTo b1, ptrTo b3, av p, .int .i64 4], newB h b3 (ints out), c + 1, df⟩) (by unfold f73_L73000; simp) (by simp)).trans ?_
    rw [gcR_same (by simp [hb1, hb])]
    rfl
  | succ k ih =>
    intro i out hi ho
    have hlt : i < p.length := by omega
    have e0 : (i : Int) < 4 := by omega
    rw [List.drop_eq_getElem_cons hlt]
    have hx : p.getD i 0 = p[i] := by simp [List.getD, List.getElem?_eq_getElem hlt]
    have hxr := hr p[i] (List.getElem_mem hlt)
    refine f73_N73000 (q := ⟨.normal, [ptrTo b1, ptrTo b3, av p, .int .i64 (i + 1 : Nat)], newB h b3 (ints (out.set p[i].toNat i)), c + 1 + 1 + 1 + 1, df⟩) ?_ rfl ?_
    · unfold f73_L73000
      simp (disch := (first | omega | (simp <;> omega) | fail)) [e0, ixV_av, hx, hxr, ho, -List.getD_eq_getElem?_getD]
    · rw [gcR_upd hb (by simp [hb1, hb]) (by simp)]
      exact ih (i + 1) _ (by omega) (by simpa using ho)

/-- glue.inverse -/
theorem inverse_sp (p : List Int) (hp : p.length = 4) (hr : InR p) (h : FH) (c : Nat) (df : List Nat) :
    G (.fn 73) [av p] h c df = some { e := .ret, vs := [av (inv p)], h := h, c := c, df := [] } := by
  refine pure_of (fun r e => f73_go e) (by simp) ?_
  have e1 : p.take 4 = p := List.take_of_length_le (by omega)
  have hl := inverse_loop p hp hr (newB (newB h (256 * c) (ints p)) (256 * c + 1) (ints [0, 0, 0, 0])) (256 * c + 1) (256 * (c + 1)) (c + 1 + 1 + 1) (by omega) (by omega) [] 4 0 [0, 0, 0, 0] rfl rfl
  have hl2 : (invL p 0 [0, 0, 0, 0]).length = 4 := invL_length p 0 [0, 0, 0, 0]
  have e2 : (invL p 0 [0, 0, 0, 0]).take 4 = invL p 0 [0, 0, 0, 0] := List.take_of_length_le (by omega)
  unfold f73_S
  simp only [ints_cons, ints_nil, Int.ofNat_eq_natCast, Int.cast_ofNat_Int, List.drop_zero] at hl
  simp (disch := (first | omega | (simp <;> omega) | fail)) [hl, e1, e2, hp, hl2, inv]

/-! ### Composition -/
def comp (p q : List Int) : List Int := q.map fun x => p.getD x.toNat 0

/-- glue.compose -/
theorem compose_sp (p q : List Int) (hp : p.length = 4) (hq : q.length = 4) (hr : InR q) (h : FH) (c : Nat) (df : List Nat) :
    G (.fn 110) [av p, av q] h c df = some { e := .ret, vs := [av (comp p q)], h := h, c := c, df := [] } := by
  refine pure_of (fun r e => f110_go e) (by simp) ?_
  have g : ∀ i, i < 4 → 0 ≤ q.getD i 0 ∧ q.getD i 0 < 4 := fun i hi => by
    have : i < q.length := by omega
    have := hr q[i] (List.getElem_mem this)
    simpa [List.getD, List.getElem?_eq_getElem (by omega : i < q.length)] using this
  have g0 := g 0 (by omega)
  have g1 := g 1 (by omega)
  have g2 := g 2 (by omega)
  have g3 := g 3 (by omega)
  have e1 : comp p q = [p.getD (q.getD 0 0).toNat 0, p.getD (q.getD 1 0).toNat 0, p.getD (q.getD 2 0).toNat 0, p.getD (q.getD 3 0).toNat 0] := by
    match q, hq with
    | [a, b, d, e], _ => rfl
  rw [e1]
  unfold f110_S
  simp (disch := (first | omega | (simp <;> omega) | fail)) [hp, hq, ld1_ints, bld4, g0, g1, g2, g3, -List.getD_eq_getElem?_getD, -ld1_newB_same]
end Go.Proofs.Ytdbiilapiloaiaa.Base
