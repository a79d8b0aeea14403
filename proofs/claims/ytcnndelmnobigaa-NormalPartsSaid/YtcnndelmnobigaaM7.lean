/- Parts of a proof: N10 N11 U11 U12 AbUf2 V4 AbFill F1 F2 AbRow2 AbRow3 AbApp2 F3 F4 P1 W1 W2 W3 W4 W5 W6 W7 AbCount V5 P2 P3 P4 V6 U13 V7 X1 P5 P6 AbRow4 RowK. Conditions: none. -/
import Derived.Test.YtcnndelmnobigaaM5
import Derived.Test.YtcnndelmnobigaaM6
import Derived.Test.YtcnndelmnobigaaM4
import Derived.Test.YtcnndelmnobigaaRows
import Derived.ProofKit
set_option linter.all false
namespace Go.Proofs.Ytcnndelmnobigaa
open Go Go.Ab Go.Proofs
set_option maxRecDepth 100000
set_option linter.unusedVariables false
set_option linter.unusedSimpArgs false
theorem sane_call (h : FH) (c : Nat) : callF G 11 [] h c = some (.bool true, h, c) := callF_of (runG_ext (f := 11) (args := []) (h := h) (c := c) (r := { e := .ret, vs := [.bool true], h := h, c := c, df := [] }) rfl)
end Go.Proofs.Ytcnndelmnobigaa

namespace Go.Proofs.Ytcnndelmnobigaa
open Go Go.Ab Go.Proofs
set_option maxRecDepth 100000
set_option linter.unusedVariables false
set_option linter.unusedSimpArgs false
theorem EqV.len {c0 : Nat} {h : FH} {c n : Nat} {Gl : List Int} {v : Value} (e : EqV c0 h c n Gl v) : lenS v = some (.int .i64 (allM Gl n).length) := by
  obtain ⟨vals, ⟨_, _, _, i, op, rfl, _⟩, _⟩ := e
  rfl
theorem EqV.okV {c0 : Nat} {h : FH} {c n : Nat} {Gl : List Int} {v : Value} (e : EqV c0 h c n Gl v) : OkV c v := by
  obtain ⟨vals, ⟨_, _, _, i, op, rfl, _, h6, _⟩, _⟩ := e
  exact OkV.sl h6
theorem EqV.mono {c0 : Nat} {h : FH} {c c' n : Nat} {Gl : List Int} {v : Value} (hc : c ≤ c') (e : EqV c0 h c n Gl v) : EqV c0 h c' n Gl v := by
  obtain ⟨vals, h1, h2⟩ := e
  refine ⟨vals, h1.mono hc, fun k m hk => ?_⟩
  obtain ⟨x, x1, b, y1, y2, y3, y4⟩ := h2 k m hk
  exact ⟨x, x1, b, y1, y2, by omega, y4⟩
theorem EqV.at {c0 : Nat} {h : FH} {c n : Nat} {Gl : List Int} {v : Value} (e : EqV c0 h c n Gl v) {i : Nat} (hi : i < (allM Gl n).length) :
    ∃ x p, ixS 1 v (.int .i64 i) = some p ∧ ld1 h p = some x ∧ lenS x = some (.int .i64 (7 * n : Nat)) ∧ SlI h c x 1 (7 * n) (eqRow n ((allM Gl n).getD i [])) := by
  obtain ⟨vals, ⟨h1, h2, h3, b, op, rfl, h5, h6, h7, h8⟩, h9⟩ := e
  obtain ⟨x, x1, b', rfl, y2, y3, y4, y5, y6⟩ := h9 i _ (List.getElem?_eq_getElem hi)
  have hg : (allM Gl n).getD i [] = (allM Gl n)[i] := by simp [List.getD, List.getElem?_eq_getElem hi]
  rw [hg]
  refine ⟨.slice (some ⟨b', 0, none⟩) (7 * n) (7 * n), .pointer (some ⟨b, 0 + (i : Int).toNat * 1, none⟩), ixS_sl _ _ _ _ _ _ _ (by omega) (by omega), ?_, rfl, ⟨by rw [y5]; omega, by omega, _, _, rfl, .inr ⟨b', 0, ints (eqRow n (allM Gl n)[i]), rfl, y3, ⟨false, none, y4⟩, ?_⟩⟩⟩
  · rw [ld1_holds' (cs := vals) ⟨false, op, h7⟩]
    simpa using x1
  · rw [List.drop_zero, List.take_of_length_le (by simp [y5])]
theorem gi_get (V : List Int) {j : Nat} (hj : j < V.length) : gi V (j : Nat) = V[j] := by
  simp [gi, List.getD, List.getElem?_eq_getElem hj]
theorem withinB_iff {V : List Int} : withinB V = true ↔ ∀ j, j < V.length → 0 ≤ gi V (j : Nat) ∧ gi V (j : Nat) ≤ 1000000 := by
  constructor
  · intro h j _; exact withinB_at h j
  · intro h
    refine List.all_eq_true.2 fun x hx => ?_
    obtain ⟨j, hj, rfl⟩ := List.getElem_of_mem hx
    have := h j hj
    rw [gi_get V hj] at this
    simp [this.1, this.2]
end Go.Proofs.Ytcnndelmnobigaa

namespace Go.Proofs.Ytcnndelmnobigaa
open Go Go.Ab Go.Proofs
set_option maxRecDepth 100000
set_option linter.unusedVariables false
set_option linter.unusedSimpArgs false
theorem chkE_zero {Gl : List Int} {n : Nat} {b : Bool} (hE : chkE Gl n b = 0) : refE Gl n = 0 ∧ b = true := by
  unfold chkE at hE
  split at hE
  · rename_i h1
    split at hE
    · rename_i h2; exact ⟨h1, h2⟩
    · cases hE
  · rename_i h1; exact absurd hE h1
end Go.Proofs.Ytcnndelmnobigaa

namespace Go.Proofs.Ytcnndelmnobigaa
open Go Go.Ab Go.Proofs
set_option maxRecDepth 100000
set_option linter.unusedVariables false
set_option linter.unusedSimpArgs false
theorem short_loop (ss : List Value) (ns : Nat → Nat) (sb : Nat) (h : FH) (c : Nat) (hsb : sb < 256 * c) (hh : Holds h sb ss) (hl : ss.length ≤ 1000) (hL : ∀ j, j < ss.length → lenS (ss.getD j undef) = some (.int .i64 (ns j))) (df : List Nat) : ∀ (k i : Nat), i + k = ss.length →
    Ans (G (f18_k18000 none) [.slice (some ⟨sb, 0, none⟩) ss.length ss.length, .bool false, .int .i64 i] h c df) fun r => r.h = h ∧ r.c = c ∧ r.df = df ∧
      ((r.e = .exit 0 ∧ ∀ j, i ≤ j → j < ss.length → ns j ≤ 50) ∨ (r.e = .ret ∧ r.v 1 = .bool false ∧ ∃ j, j < ss.length ∧ ¬ ns j ≤ 50)) := by
  intro k
  obtain ⟨m, hm⟩ : ∃ m, ss.length = m := ⟨_, rfl⟩
  rw [hm] at hl hL ⊢
  induction k with
  | zero =>
    intro i hi
    obtain rfl : i = m := by omega
    refine Ans.loop (fun q r => f18_N18000) (fun q => f18_Z18000) ?_
    unfold f18_L18000
    have fx := True.intro
    refine Ans.go ?_
    clear fx
    (have fx := hsb; refine Ans.ex0 ?_; clear fx)
    exact ⟨rfl, rfl, rfl, .inl ⟨rfl, fun j h1 h2 => by omega⟩⟩
  | succ k ih =>
    intro i hi
    have l1 : ld1 h (.pointer (some ⟨sb, i, none⟩)) = some (ss.getD i undef) := by
      rw [ld1_holds' hh, List.getD_eq_getElem?_getD, List.getElem?_eq_getElem (by omega)]; rfl
    have l2 := hL i (by omega)
    obtain ⟨x, hx⟩ : ∃ x, ss.getD i undef = x := ⟨_, rfl⟩
    rw [hx] at l1 l2
    refine Ans.loop (fun q r => f18_N18000) (fun q => f18_Z18000) ?_
    unfold f18_L18000
    by_cases h5 : ns i ≤ 50
    · have fx := And.intro l1 l2
      refine Ans.go ?_
      clear fx
      (have fx := hsb; refine Ans.nx0 ?_; clear fx)
      refine (ih (i + 1) (by omega)).mono ?_
      rintro r ⟨q1, q2, q3, q4⟩
      refine ⟨q1, q2, q3, q4.imp (fun ⟨a, b⟩ => ⟨a, fun j h1 h2 => ?_⟩) id⟩
      by_cases e : j = i
      · rw [e]; exact h5
      · exact b j (by omega) h2
    · have fx := And.intro l1 l2
      refine Ans.go ?_
      clear fx
      (have fx := hsb; refine Ans.rt0 ?_; clear fx)
      exact ⟨rfl, rfl, rfl, .inr ⟨rfl, rfl, i, by omega, h5⟩⟩
theorem short_sp (ss : List Value) (ns : Nat → Nat) (sb : Nat) (h : FH) (c : Nat) (df : List Nat) (hsb : sb < 256 * c) (hh : Holds h sb ss) (hl : ss.length ≤ 1000) (hL : ∀ j, j < ss.length → lenS (ss.getD j undef) = some (.int .i64 (ns j))) :
    G (.fn 18) [.slice (some ⟨sb, 0, none⟩) ss.length ss.length] h c df = some { e := .ret, vs := [.bool ((List.range ss.length).all fun j => decide (ns j ≤ 50))], h := h, c := c, df := [] } := by
  refine pure_of' (fun r e => f18_go e) (by simp) ?_
  unfold f18_S
  obtain ⟨⟨re, rv, rh, rc, rd⟩, hr, r1, r2, r3, r4⟩ := short_loop ss ns sb h (c + 1 + 1) (by omega) hh hl hL [] ss.length 0 (by omega)
  simp only at r1 r2 r3 r4
  subst r1 r2 r3
  simp only [Int.ofNat_eq_natCast, Int.cast_ofNat_Int] at hr
  rcases r4 with ⟨rfl, r5⟩ | ⟨rfl, r5, j, j1, j2⟩
  · have e : ((List.range ss.length).all fun j => decide (ns j ≤ 50)) = true := List.all_eq_true.2 fun j hj => decide_eq_true (r5 j (by omega) (by simpa using hj))
    rw [e]
    have fx := hr
    refine Ans.go ?_
    clear fx
    exact Ans.pure rfl (by simp)
  · have e : ((List.range ss.length).all fun j => decide (ns j ≤ 50)) = false := by
      rw [List.all_eq_false]
      exact ⟨j, by simpa using j1, by simpa using j2⟩
    rw [e]
    have fx := hr
    refine Ans.go ?_
    clear fx
    exact Ans.pure r5 (by simp)
end Go.Proofs.Ytcnndelmnobigaa

namespace Go.Ab
open Go
set_option linter.unusedVariables false
set_option linter.unusedSimpArgs false
theorem rootF_fix {L : List Int} {m : Nat} (hd : Down L m) : ∀ {k i : Nat}, i < m → i < k → L.getD (rootF L k i) 0 = rootF L k i
  | 0, i, _, h => by omega
  | k + 1, i, hi, h => by
    rw [rootF]
    split
    · assumption
    · have := hd.2 i hi
      exact rootF_fix hd (by omega) (by omega)
theorem rootL_fix {L : List Int} {m i : Nat} (hd : Down L m) (hi : i < m) : L.getD (rootL L i) 0 = rootL L i := rootF_fix hd hi (by omega)
theorem rootL_root {L : List Int} {m i : Nat} (hd : Down L m) (hi : i < m) : rootL L (rootL L i) = rootL L i := rootL_self (rootL_fix hd hi)
theorem rootL_join {L : List Int} {m i j : Nat} (hd : Down L m) (hi : i < m) (hj : j < m) : ∀ {k : Nat}, k < m →
    rootL (joinL L i j) k = if rootL L k = max (rootL L i) (rootL L j) then min (rootL L i) (rootL L j) else rootL L k := by
  have h1 := rootL_le hd hi
  have h2 := rootL_le hd hj
  have f1 := rootL_fix hd hi
  have f2 := rootL_fix hd hj
  have hd' := joinL_down hd hi hj
  have hl := hd.1
  obtain ⟨M, hM⟩ : ∃ M, max (rootL L i) (rootL L j) = M := ⟨_, rfl⟩
  obtain ⟨N, hN⟩ : ∃ N, min (rootL L i) (rootL L j) = N := ⟨_, rfl⟩
  have fM : L.getD M 0 = M := by
    rcases Nat.le_total (rootL L i) (rootL L j) with h | h
    · rw [show M = rootL L j by omega]; exact f2
    · rw [show M = rootL L i by omega]; exact f1
  have fN : L.getD N 0 = N := by
    rcases Nat.le_total (rootL L i) (rootL L j) with h | h
    · rw [show N = rootL L i by omega]; exact f1
    · rw [show N = rootL L j by omega]; exact f2
  have hg : ∀ k, (joinL L i j).getD k 0 = if M = k ∧ M < L.length then (N : Int) else L.getD k 0 := fun k => by
    unfold joinL
    rw [getD_set, hM, hN]
  rw [hM, hN]
  have key : ∀ (b k : Nat), k < b → k < m → rootL (joinL L i j) k = if rootL L k = M then N else rootL L k := by
    intro b
    induction b with
    | zero => intro k h; omega
    | succ b ih =>
      intro k hb hk
      by_cases e : k = M
      · subst e
        rw [rootL_self fM, if_pos rfl]
        have e2 := hg k
        rw [if_pos ⟨rfl, by omega⟩] at e2
        by_cases e3 : N = k
        · rw [rootL_self (by rw [e2, e3])]; exact e3.symm
        · rw [rootL_next hd' (by omega) (by omega), e2, Int.toNat_natCast, ih N (by omega) (by omega), rootL_self fN, if_neg e3]
      · have e2 := hg k
        rw [if_neg (fun q => e q.1.symm)] at e2
        by_cases e3 : L.getD k 0 = k
        · rw [rootL_self (e2.trans e3), rootL_self e3, if_neg e]
        · have d := hd.2 k hk
          rw [rootL_next hd' hk (by rw [e2]; exact e3), e2, ih _ (by omega) (by omega), ← rootL_next hd hk e3]
  intro k hk
  exact key (k + 1) k (by omega) hk
theorem join_same {L : List Int} {m i j : Nat} (hd : Down L m) (hi : i < m) (hj : j < m) : rootL (joinL L i j) i = rootL (joinL L i j) j := by
  rw [rootL_join hd hi hj hi, rootL_join hd hi hj hj]
  split <;> split <;> omega
theorem join_keep {L : List Int} {m i j a b : Nat} (hd : Down L m) (hi : i < m) (hj : j < m) (ha : a < m) (hb : b < m) (e : rootL L a = rootL L b) : rootL (joinL L i j) a = rootL (joinL L i j) b := by
  rw [rootL_join hd hi hj ha, rootL_join hd hi hj hb, e]
end Go.Ab

namespace Go.Proofs.Ytcnndelmnobigaa
open Go Go.Ab Go.Proofs
set_option maxRecDepth 100000
set_option linter.unusedVariables false
set_option linter.unusedSimpArgs false
def mA (M : List Int) : Nat := (4 * M.getD 0 0 + M.getD 2 0).toNat
def mB (M : List Int) : Nat := (4 * M.getD 3 0 + M.getD 5 0).toNat
theorem fold_same {m : Nat} : ∀ (D : List (List Int)) (L : List Int), Down L m → (∀ M, M ∈ D → mA M < m ∧ mB M < m) →
    Down (D.foldl vStep L) m ∧ (∀ a b, a < m → b < m → rootL L a = rootL L b → rootL (D.foldl vStep L) a = rootL (D.foldl vStep L) b) ∧ (∀ M, M ∈ D → rootL (D.foldl vStep L) (mA M) = rootL (D.foldl vStep L) (mB M))
  | [], L, hd, _ => ⟨hd, fun a b _ _ e => e, fun M h => by cases h⟩
  | M :: D, L, hd, hg => by
    obtain ⟨g1, g2⟩ := hg M (by simp)
    obtain ⟨i1, i2, i3⟩ := fold_same D (vStep L M) (joinL_down hd g1 g2) (fun N hN => hg N (by simp [hN]))
    rw [List.foldl_cons]
    refine ⟨i1, fun a b ha hb e => i2 a b ha hb (join_keep hd g1 g2 ha hb e), fun N hN => ?_⟩
    rcases List.mem_cons.1 hN with rfl | hN
    · exact i2 _ _ g1 g2 (join_same hd g1 g2)
    · exact i3 N hN
theorem vx_fold {Gl : List Int} {n : Nat} (hok : okAll Gl n = true) (hG : Gl.length = n * 20) : Down (vxC Gl n) (4 * n) ∧ ∀ M, M ∈ allM Gl n → rootL (vxC Gl n) (mA M) = rootL (vxC Gl n) (mB M) := by
  have := fold_same (m := 4 * n) (allM Gl n) (startL (4 * n)) (startL_down _) (fun M hM => by
    obtain ⟨t, f, i, ht, hf, hi, hne, hsk, rfl⟩ := mem_allM hM
    obtain ⟨k1, k2, k3⟩ := mRow_ok hok hG ht hf hi hne hsk
    have hpi := range24 k3 hi
    constructor
    · show (4 * (t : Int) + i).toNat < _
      omega
    · show (4 * tetL (faceL Gl t f) + (permL (faceL Gl t f)).getD i 0).toNat < _
      omega)
  exact ⟨this.1, this.2.2⟩
theorem lk_get (L : List Int) (first n : Nat) : ∀ (r x : Nat) (X : List Int), x + r = 4 * n → X.length = 7 * n →
    (∀ t i, t < n → i < 4 → (lkK L first r x X).getD (7 * t + i) 0 = if x ≤ 4 * t + i ∧ rootL L (4 * t + i) = first then 1 else X.getD (7 * t + i) 0) ∧ (∀ t k, t < n → k < 3 → (lkK L first r x X).getD (7 * t + 4 + k) 0 = X.getD (7 * t + 4 + k) 0)
  | 0, x, X, hx, hX => by
    refine ⟨fun t i ht hi => ?_, fun t k ht hk => rfl⟩
    rw [if_neg (by omega)]; rfl
  | r + 1, x, X, hx, hX => by
    rw [lkK]
    by_cases e : rootL L x = first
    · rw [if_pos e]
      obtain ⟨i1, i2⟩ := lk_get L first n r (x + 1) (X.set (x / 4 * 7 + x % 4) 1) (by omega) (by simp [hX])
      refine ⟨fun t i ht hi => ?_, fun t k ht hk => ?_⟩
      · rw [i1 t i ht hi, getD_set]
        by_cases e2 : x = 4 * t + i
        · subst e2
          rw [if_neg (by omega), if_pos ⟨by omega, by omega⟩, if_pos ⟨by omega, e⟩]
        · by_cases e3 : x + 1 ≤ 4 * t + i ∧ rootL L (4 * t + i) = first
          · rw [if_pos e3, if_pos ⟨by omega, e3.2⟩]
          · rw [if_neg e3, if_neg (by omega), if_neg (fun q => e3 ⟨by omega, q.2⟩)]
      · rw [i2 t k ht hk, getD_set, if_neg (by omega)]
    · rw [if_neg e]
      obtain ⟨i1, i2⟩ := lk_get L first n r (x + 1) X (by omega) hX
      refine ⟨fun t i ht hi => ?_, i2⟩
      rw [i1 t i ht hi]
      by_cases e3 : x + 1 ≤ 4 * t + i ∧ rootL L (4 * t + i) = first
      · rw [if_pos e3, if_pos ⟨by omega, e3.2⟩]
      · rw [if_neg e3, if_neg (fun q => e3 ⟨by
          rcases Nat.lt_or_ge x (4 * t + i) with h | h
          · omega
          · exfalso
            have : x = 4 * t + i := by omega
            rw [this] at e
            exact e q.2, q.2⟩)]
theorem rep0 (m j : Nat) : (List.replicate m (0 : Int)).getD j 0 = 0 := by
  rw [List.getD_eq_getElem?_getD, List.getElem?_replicate]
  split <;> rfl
theorem lkRow_length (L : List Int) (n : Nat) (x : Int) : (lkRow L n x).length = 7 * n := by rw [lkRow, lkK_length]; simp
theorem lkRow_t (L : List Int) {n : Nat} (x : Nat) {t i : Int} (h1 : 0 ≤ t) (h2 : t < n) (h3 : 0 ≤ i) (h4 : i < 4) : gi (lkRow L n x) (7 * t + i) = if rootL L (4 * t + i).toNat = x then 1 else 0 := by
  have := (lk_get L x n (4 * n) 0 (List.replicate (7 * n) 0) (by omega) (by simp)).1 t.toNat i.toNat (by omega) (by omega)
  rw [lkRow, gi, Int.toNat_natCast, show (7 * t + i).toNat = 7 * t.toNat + i.toNat by omega, this, rep0, show (4 * t + i).toNat = 4 * t.toNat + i.toNat by omega]
  simp
theorem lkRow_q (L : List Int) {n : Nat} (x : Nat) {t k : Int} (h1 : 0 ≤ t) (h2 : t < n) (h3 : 0 ≤ k) (h4 : k < 3) : gi (lkRow L n x) (7 * t + 4 + k) = 0 := by
  have := (lk_get L x n (4 * n) 0 (List.replicate (7 * n) 0) (by omega) (by simp)).2 t.toNat k.toNat (by omega) (by omega)
  rw [lkRow, gi, Int.toNat_natCast, show (7 * t + 4 + k).toNat = 7 * t.toNat + 4 + k.toNat by omega, this, rep0]
end Go.Proofs.Ytcnndelmnobigaa

namespace Go.Ab
open Go
set_option linter.unusedVariables false
set_option linter.unusedSimpArgs false
def zs (Q : List Nat) : List Int := Q.map fun k : Nat => (k : Int)
theorem zs_getD (Q : List Nat) (i : Nat) : (zs Q).getD i 0 = (Q.getD i 0 : Nat) := by
  simp only [zs, List.getD_eq_getElem?_getD, List.getElem?_map]
  cases Q[i]? <;> rfl
def cntT : List Bool → Nat
  | [] => 0
  | b :: l => (if b = true then 1 else 0) + cntT l
theorem cntT_le : ∀ l : List Bool, cntT l ≤ l.length
  | [] => Nat.le_refl _
  | b :: l => by
    have := cntT_le l
    rw [cntT, List.length_cons]; split <;> omega
theorem cntT_set : ∀ {l : List Bool} {j : Nat}, j < l.length → l.getD j false = false → cntT (l.set j true) = cntT l + 1
  | [], j, h, _ => by simp at h
  | b :: l, 0, _, e => by
    obtain rfl : b = false := e
    show (if (true : Bool) = true then 1 else 0) + cntT l = _
    rw [cntT, if_pos rfl, if_neg (by simp)]; omega
  | b :: l, j + 1, h, e => by
    show (if b = true then 1 else 0) + cntT (l.set j true) = (if b = true then 1 else 0) + cntT l + 1
    rw [cntT_set (l := l) (by simpa using h) e]; omega
theorem cntT_pos : ∀ {l : List Bool} {j : Nat}, l.getD j false = true → 0 < cntT l
  | [], j, h => by simp at h
  | b :: l, 0, e => by
    obtain rfl : b = true := e
    rw [cntT, if_pos rfl]; omega
  | b :: l, j + 1, e => by
    have := cntT_pos (l := l) (j := j) e
    rw [cntT]; omega
theorem getDB_set (l : List Bool) (i j : Nat) (x : Bool) : (l.set i x).getD j false = if i = j ∧ i < l.length then x else l.getD j false := by
  simp only [List.getD_eq_getElem?_getD, List.getElem?_set]
  by_cases h : i = j
  · subst h
    by_cases h2 : i < l.length
    · simp [h2]
    · simp [h2]
  · simp [h]
def ps (w : Nat) : Nat := w / 4 * 7 + w % 4
theorem ps_inj {v w : Nat} (h : ps v = ps w) : v = w := by unfold ps at h; omega
theorem ps_lt {w n : Nat} (h : w < 4 * n) : ps w < 7 * n := by unfold ps; omega
theorem ps_mk {t i : Nat} (hi : i < 4) : ps (4 * t + i) = 7 * t + i := by unfold ps; omega
theorem ps_quad {w t k : Nat} (hk : k < 3) : ps w ≠ 7 * t + 4 + k := by unfold ps; omega
structure FSt where
  X : List Int
  K : List Bool
  Q : List Nat
  m : Int
def fU (Gl : List Int) (t f : Nat) : Nat := (tetL (faceL Gl t f)).toNat
def fJ (Gl : List Int) (t f i : Nat) : Nat := ((permL (faceL Gl t f)).getD i 0).toNat
def fV (Gl : List Int) (t f i : Nat) : Nat := 4 * fU Gl t f + fJ Gl t f i
def fW (Gl X : List Int) (t f i : Nat) : Int := arcV X t f i - gi X (7 * (fU Gl t f : Int) + 4 + ty (fJ Gl t f i) (fJ Gl t f f))
def fStep (Gl : List Int) (chk : Bool) (t i f : Nat) (s : FSt) : Option FSt :=
  if f = i ∨ tetL (faceL Gl t f) < 0 then some s
  else if s.K.getD (fV Gl t f i) false = false then
    some ⟨s.X.set (7 * fU Gl t f + fJ Gl t f i) (fW Gl s.X t f i), s.K.set (fV Gl t f i) true, s.Q ++ [fV Gl t f i], min s.m (fW Gl s.X t f i)⟩
  else if chk = true ∧ s.X.getD (7 * fU Gl t f + fJ Gl t f i) 0 ≠ fW Gl s.X t f i then none else some s
def fFaces (Gl : List Int) (chk : Bool) (t i : Nat) : Nat → Nat → FSt → Option FSt
  | 0, _, s => some s
  | k + 1, f, s => (fStep Gl chk t i f s).bind (fFaces Gl chk t i k (f + 1))
def fQ (Gl : List Int) (chk : Bool) : Nat → Nat → FSt → Option FSt
  | 0, _, s => some s
  | r + 1, k, s => if k < s.Q.length then (fFaces Gl chk (s.Q.getD k 0 / 4) (s.Q.getD k 0 % 4) 4 0 s).bind (fQ Gl chk r (k + 1)) else some s
def subQ (m : Int) : List Nat → List Int → List Int
  | [], X => X
  | w :: Q, X => subQ m Q (X.set (ps w) (X.getD (ps w) 0 - m))
def fClass (Gl : List Int) (chk : Bool) (n first : Nat) (X : List Int) (K : List Bool) : Option (List Int × List Bool) :=
  (fQ Gl chk (4 * n) 0 ⟨X, K.set first true, [first], 0⟩).map fun s => (subQ s.m s.Q s.X, s.K)
def fAll (Gl : List Int) (chk : Bool) (n : Nat) : List Int → List Int → List Bool → Option (List Int)
  | [], X, _ => some X
  | x :: F, X, K => (fClass Gl chk n x.toNat X K).bind fun r => fAll Gl chk n F r.1 r.2
def pq (Qd : List Int) (t : Nat) (X : List Int) : List Int := X.take (7 * t + 4) ++ (Qd.drop (3 * t)).take 3 ++ X.drop (7 * t + 7)
def pqK (Qd : List Int) : Nat → Nat → List Int → List Int
  | 0, _, X => X
  | k + 1, t, X => pqK Qd k (t + 1) (pq Qd t X)
theorem pq_length {Qd X : List Int} {n t : Nat} (hq : Qd.length = 3 * n) (hX : X.length = 7 * n) (ht : t < n) : (pq Qd t X).length = 7 * n := by
  simp [pq]; omega
theorem pqK_length {Qd : List Int} {n : Nat} (hq : Qd.length = 3 * n) : ∀ {k t : Nat} {X : List Int}, t + k ≤ n → X.length = 7 * n → (pqK Qd k t X).length = 7 * n
  | 0, _, _, _, h => h
  | k + 1, t, X, h1, h => by
    rw [pqK]
    exact pqK_length hq (by omega) (pq_length hq h (by omega))
theorem pq_quad {Qd X : List Int} {n t : Nat} (hq : Qd.length = 3 * n) (hX : X.length = 7 * n) (ht : t < n) (u k : Nat) (hk : k < 3) : (pq Qd t X).getD (7 * u + 4 + k) 0 = if u = t then Qd.getD (3 * t + k) 0 else X.getD (7 * u + 4 + k) 0 := by
  unfold pq
  simp only [List.getD_eq_getElem?_getD]
  by_cases h1 : u < t
  · rw [if_neg (by omega), List.getElem?_append_left (by simp; omega), List.getElem?_append_left (by simp; omega), List.getElem?_take_of_lt (by omega)]
  · by_cases h2 : u = t
    · subst h2
      rw [if_pos rfl, List.getElem?_append_left (by simp; omega), List.getElem?_append_right (by simp; omega), List.length_take, List.getElem?_take_of_lt (by omega), List.getElem?_drop]
      congr 2; omega
    · rw [if_neg h2, List.getElem?_append_right (by simp; omega), List.getElem?_drop]
      simp only [List.length_append, List.length_take, List.length_drop]
      congr 2; omega
theorem pq_tri {Qd X : List Int} {n t : Nat} (hq : Qd.length = 3 * n) (hX : X.length = 7 * n) (ht : t < n) (u i : Nat) (hi : i < 4) : (pq Qd t X).getD (7 * u + i) 0 = X.getD (7 * u + i) 0 := by
  unfold pq
  simp only [List.getD_eq_getElem?_getD]
  by_cases h1 : u ≤ t
  · rw [List.getElem?_append_left (by simp; omega), List.getElem?_append_left (by simp; omega), List.getElem?_take_of_lt (by omega)]
  · rw [List.getElem?_append_right (by simp; omega), List.getElem?_drop]
    simp only [List.length_append, List.length_take, List.length_drop]
    congr 2; omega
theorem pqK_quad {Qd : List Int} {n : Nat} (hq : Qd.length = 3 * n) : ∀ {k t : Nat} {X : List Int}, t + k ≤ n → X.length = 7 * n → ∀ (u j : Nat), j < 3 → (pqK Qd k t X).getD (7 * u + 4 + j) 0 = if t ≤ u ∧ u < t + k then Qd.getD (3 * u + j) 0 else X.getD (7 * u + 4 + j) 0
  | 0, t, X, _, h, u, j, hj => by rw [pqK, if_neg (by omega)]
  | k + 1, t, X, h1, h, u, j, hj => by
    rw [pqK, pqK_quad hq (by omega) (pq_length hq h (by omega)) u j hj, pq_quad hq h (by omega) u j hj]
    by_cases e : u = t
    · subst e; rw [if_neg (by omega), if_pos rfl, if_pos (by omega)]
    · rw [if_neg e]
      by_cases e2 : t + 1 ≤ u ∧ u < t + 1 + k
      · rw [if_pos e2, if_pos (by omega)]
      · rw [if_neg e2, if_neg (by omega)]
theorem pqK_tri {Qd : List Int} {n : Nat} (hq : Qd.length = 3 * n) : ∀ {k t : Nat} {X : List Int}, t + k ≤ n → X.length = 7 * n → ∀ (u i : Nat), i < 4 → (pqK Qd k t X).getD (7 * u + i) 0 = X.getD (7 * u + i) 0
  | 0, t, X, _, h, u, j, hj => rfl
  | k + 1, t, X, h1, h, u, j, hj => by
    rw [pqK, pqK_tri hq (by omega) (pq_length hq h (by omega)) u j hj, pq_tri hq h (by omega) u j hj]
structure FOk (n : Nat) (s : FSt) (B : Int) : Prop where
  xl : s.X.length = 7 * n
  kl : s.K.length = 4 * n
  nd : s.Q.Nodup
  qk : ∀ w ∈ s.Q, w < 4 * n ∧ s.K.getD w false = true
  qc : s.Q.length ≤ cntT s.K
  xb : ∀ j : Nat, -B ≤ s.X.getD j 0 ∧ s.X.getD j 0 ≤ B
  mb : -B ≤ s.m ∧ s.m ≤ 0
  qd : ∀ t k : Nat, k < 3 → 0 ≤ s.X.getD (7 * t + 4 + k) 0 ∧ s.X.getD (7 * t + 4 + k) 0 ≤ 1000000
theorem FOk.ql {n : Nat} {s : FSt} {B : Int} (h : FOk n s B) : s.Q.length ≤ 4 * n := by
  have := cntT_le s.K
  have := h.qc
  have := h.kl
  omega
theorem FOk.mono {n : Nat} {s : FSt} {B B' : Int} (h : FOk n s B) (hb : B ≤ B') : FOk n s B' :=
  ⟨h.xl, h.kl, h.nd, h.qk, h.qc, fun j => by have := h.xb j; omega, by have := h.mb; omega, h.qd⟩
structure FGl (Gl : List Int) (n t f i : Nat) : Prop where
  u : fU Gl t f < n
  uz : tetL (faceL Gl t f) = (fU Gl t f : Nat)
  j : fJ Gl t f i < 4
  jz : (permL (faceL Gl t f)).getD i 0 = (fJ Gl t f i : Nat)
  h : fJ Gl t f f < 4
  hz : (permL (faceL Gl t f)).getD f 0 = (fJ Gl t f f : Nat)
  ne : fJ Gl t f i ≠ fJ Gl t f f
theorem FGl.of {Gl : List Int} {n t f i : Nat} (hok : okAll Gl n = true) (hG : Gl.length = n * 20) (ht : t < n) (hf : f < 4) (hi : i < 4) (hne : i ≠ f) (hg : ¬ tetL (faceL Gl t f) < 0) : FGl Gl n t f i := by
  obtain ⟨h1, h2, h3, h4⟩ := okFace_glued (okAll_face hok ht hf) hg
  have hp := mem24 (permL_length (faceL_length hG ht hf)) h2
  have r1 := range24 hp hi
  have r2 := range24 hp hf
  have r3 := ne24 hp hi hf hne
  exact ⟨by unfold fU; omega, by unfold fU; omega, by unfold fJ; omega, by unfold fJ; omega, by unfold fJ; omega, by unfold fJ; omega, by unfold fJ; omega⟩
theorem fW_bound {Gl : List Int} {n t f i : Nat} {s : FSt} {B : Int} (h : FOk n s B) (ht : t < n) (hf : f < 4) (hi : i < 4) (hne : i ≠ f) (g : FGl Gl n t f i) : -(B + 1000000) ≤ fW Gl s.X t f i ∧ fW Gl s.X t f i ≤ B + 1000000 := by
  unfold fW arcV
  have r1 := ty_range (i := (i : Int)) (f := (f : Int)) (by omega) (by omega) (by omega) (by omega) (by omega)
  have r2 := ty_range (i := (fJ Gl t f i : Int)) (f := (fJ Gl t f f : Int)) (by omega) (by have := g.j; omega) (by omega) (by have := g.h; omega) (by have := g.ne; omega)
  have q1 := h.qd t (ty i f).toNat (by omega)
  have q2 := h.qd (fU Gl t f) (ty (fJ Gl t f i) (fJ Gl t f f)).toNat (by omega)
  have q3 := h.xb (7 * t + i)
  unfold gi
  rw [show (7 * (t : Int) + i).toNat = 7 * t + i by omega, show (7 * (t : Int) + 4 + ty i f).toNat = 7 * t + 4 + (ty i f).toNat by omega,
    show (7 * (fU Gl t f : Int) + 4 + ty (fJ Gl t f i) (fJ Gl t f f)).toNat = 7 * fU Gl t f + 4 + (ty (fJ Gl t f i) (fJ Gl t f f)).toNat by omega]
  omega
theorem FOk.push {Gl : List Int} {n t f i : Nat} {s : FSt} {B : Int} (h : FOk n s B) (hB : 0 ≤ B) (ht : t < n) (hf : f < 4) (hi : i < 4) (hne : i ≠ f) (g : FGl Gl n t f i) (hk : s.K.getD (fV Gl t f i) false = false) :
    FOk n ⟨s.X.set (7 * fU Gl t f + fJ Gl t f i) (fW Gl s.X t f i), s.K.set (fV Gl t f i) true, s.Q ++ [fV Gl t f i], min s.m (fW Gl s.X t f i)⟩ (B + 1000000) := by
  have hv : fV Gl t f i < 4 * n := by have := g.u; have := g.j; unfold fV; omega
  have hw := fW_bound h ht hf hi hne g
  have hj := g.j
  refine ⟨by simp [h.xl], by simp [h.kl], ?_, fun w hw => ?_, ?_, fun j => ?_, ?_, fun u k hk => ?_⟩
  · rw [List.nodup_append]
    refine ⟨h.nd, by simp, fun a ha b hb => ?_⟩
    rw [List.mem_singleton] at hb
    subst hb
    rintro rfl
    have := (h.qk _ ha).2
    rw [hk] at this; cases this
  · rw [getDB_set]
    rcases List.mem_append.1 hw with h1 | h1
    · refine ⟨(h.qk w h1).1, ?_⟩
      split
      · rfl
      · exact (h.qk w h1).2
    · rw [List.mem_singleton] at h1
      subst h1
      exact ⟨hv, by rw [if_pos ⟨rfl, by rw [h.kl]; exact hv⟩]⟩
  · have := h.qc
    rw [cntT_set (by rw [h.kl]; exact hv) hk]; simp; omega
  · rw [getD_set]
    have := h.xb j
    split <;> omega
  · have := h.mb
    simp only
    omega
  · rw [getD_set, if_neg (by omega)]
    exact h.qd u k hk
theorem fStep_ok {Gl : List Int} {chk : Bool} {n t f i : Nat} {s s' : FSt} {B : Int} (hok : okAll Gl n = true) (hG : Gl.length = n * 20) (h : FOk n s B) (hB : 0 ≤ B) (ht : t < n) (hf : f < 4) (hi : i < 4) (e : fStep Gl chk t i f s = some s') : FOk n s' (B + 1000000) := by
  unfold fStep at e
  split at e
  · obtain rfl := Option.some.inj e
    exact h.mono (by omega)
  · rename_i h1
    have g := FGl.of hok hG ht hf hi (fun q => h1 (.inl q.symm)) (fun q => h1 (.inr q))
    split at e
    · rename_i h2
      obtain rfl := Option.some.inj e
      exact h.push hB ht hf hi (fun q => h1 (.inl q.symm)) g h2
    · split at e
      · cases e
      · obtain rfl := Option.some.inj e
        exact h.mono (by omega)
theorem fFaces_ok {Gl : List Int} {chk : Bool} {n t i : Nat} (hok : okAll Gl n = true) (hG : Gl.length = n * 20) (ht : t < n) (hi : i < 4) : ∀ {k f : Nat} {s s' : FSt} {B : Int}, f + k ≤ 4 → FOk n s B → 0 ≤ B → fFaces Gl chk t i k f s = some s' → FOk n s' (B + k * 1000000)
  | 0, f, s, s', B, _, h, hB, e => by
    obtain rfl := Option.some.inj e
    exact h.mono (by omega)
  | k + 1, f, s, s', B, hf, h, hB, e => by
    rw [fFaces] at e
    obtain ⟨s1, e1, e2⟩ := Option.bind_eq_some_iff.1 e
    exact (fFaces_ok hok hG ht hi (by omega) (fStep_ok hok hG h hB ht (by omega) hi e1) (by omega) e2).mono (by omega)
theorem fQ_ok {Gl : List Int} {chk : Bool} {n : Nat} (hok : okAll Gl n = true) (hG : Gl.length = n * 20) : ∀ {r k : Nat} {s s' : FSt} {B : Int}, FOk n s B → 0 ≤ B → fQ Gl chk r k s = some s' → FOk n s' (B + r * 4000000)
  | 0, k, s, s', B, h, hB, e => by
    obtain rfl := Option.some.inj e
    exact h.mono (by omega)
  | r + 1, k, s, s', B, h, hB, e => by
    rw [fQ] at e
    split at e
    · rename_i hk
      obtain ⟨s1, e1, e2⟩ := Option.bind_eq_some_iff.1 e
      have hm : s.Q.getD k 0 ∈ s.Q := by simp [List.getD_eq_getElem?_getD, List.getElem?_eq_getElem hk]
      have := (h.qk _ hm).1
      exact (fQ_ok hok hG (fFaces_ok hok hG (by omega) (by omega) (by omega) h hB e1) (by omega) e2).mono (by omega)
    · obtain rfl := Option.some.inj e
      exact h.mono (by omega)
theorem FOk.start {n first : Nat} {X : List Int} {K : List Bool} {B : Int} (hX : X.length = 7 * n) (hK : K.length = 4 * n) (hf : first < 4 * n) (hB : 0 ≤ B) (xb : ∀ j : Nat, -B ≤ X.getD j 0 ∧ X.getD j 0 ≤ B)
    (qd : ∀ t k : Nat, k < 3 → 0 ≤ X.getD (7 * t + 4 + k) 0 ∧ X.getD (7 * t + 4 + k) 0 ≤ 1000000) : FOk n ⟨X, K.set first true, [first], 0⟩ B := by
  have hs : (K.set first true).getD first false = true := by rw [getDB_set, if_pos ⟨rfl, by omega⟩]
  refine ⟨hX, by simp [hK], by simp, fun w hw => ?_, cntT_pos hs, xb, ⟨by simp only; omega, Int.le_refl _⟩, qd⟩
  rw [List.mem_singleton] at hw
  subst hw
  exact ⟨hf, hs⟩
theorem subQ_length (m : Int) : ∀ (Q : List Nat) (X : List Int), (subQ m Q X).length = X.length
  | [], X => rfl
  | w :: Q, X => by rw [subQ, subQ_length]; simp
theorem subQ_getD (m : Int) {n : Nat} : ∀ {Q : List Nat} {X : List Int}, Q.Nodup → (∀ w ∈ Q, w < 4 * n) → X.length = 7 * n → ∀ j, (∀ w, w ∈ Q → ps w = j → (subQ m Q X).getD j 0 = X.getD j 0 - m) ∧ ((∀ w, w ∈ Q → ps w ≠ j) → (subQ m Q X).getD j 0 = X.getD j 0)
  | [], X, _, _, _, j => ⟨fun w h => (by simp at h), fun _ => rfl⟩
  | w :: Q, X, nd, hr, hX, j => by
    rw [List.nodup_cons] at nd
    have hw := hr w (by simp)
    have ih := subQ_getD m nd.2 (fun v hv => hr v (by simp [hv])) (X := X.set (ps w) (X.getD (ps w) 0 - m)) (by simp [hX]) j
    rw [subQ]
    refine ⟨fun v hv e => ?_, fun hn => ?_⟩
    · by_cases hvw : v = w
      · subst hvw
        rw [ih.2 (fun x hx h => by
          have := ps_inj (h.trans e.symm)
          subst this
          exact nd.1 hx), getD_set, if_pos ⟨e, by have := ps_lt hw; omega⟩, e]
      · have hv' : v ∈ Q := by simpa [hvw] using hv
        rw [ih.1 v hv' e, getD_set, if_neg (fun q => hvw (ps_inj (e.trans q.1.symm)))]
    · rw [ih.2 (fun x hx => hn x (by simp [hx])), getD_set, if_neg (fun q => hn w (by simp) q.1)]
theorem subQ_bound {n : Nat} {s : FSt} {B : Int} (h : FOk n s B) (j : Nat) : -(2 * B) ≤ (subQ s.m s.Q s.X).getD j 0 ∧ (subQ s.m s.Q s.X).getD j 0 ≤ 2 * B := by
  have k := subQ_getD s.m h.nd (fun w hw => (h.qk w hw).1) h.xl j
  have b := h.xb j
  have m := h.mb
  by_cases e : ∃ w, w ∈ s.Q ∧ ps w = j
  · obtain ⟨w, h1, h2⟩ := e
    rw [k.1 w h1 h2]; omega
  · rw [k.2 (fun w hw q => e ⟨w, hw, q⟩)]; omega
theorem subQ_quad {n : Nat} {s : FSt} {B : Int} (h : FOk n s B) (t k : Nat) (hk : k < 3) : (subQ s.m s.Q s.X).getD (7 * t + 4 + k) 0 = s.X.getD (7 * t + 4 + k) 0 :=
  (subQ_getD s.m h.nd (fun w hw => (h.qk w hw).1) h.xl _).2 (fun w _ => ps_quad hk)
end Go.Ab

namespace Go.Proofs.Ytcnndelmnobigaa
open Go Go.Ab Go.Proofs
set_option maxRecDepth 100000
set_option linter.unusedVariables false
set_option linter.unusedSimpArgs false
theorem arcsB_sp (s : Value) (n : Nat) (V : List Int) (t f i : Int) (h : FH) (c : Nat) (df : List Nat) (hs : SlI h c s 1 n V) (ht : 0 ≤ t) (htn : 7 * t + 7 ≤ n) (hn : n ≤ 1000000) (hf : 0 ≤ f) (hf4 : f < 4) (hi : 0 ≤ i) (hi4 : i < 4) (hne : i ≠ f)
    (hV : ∀ j : Nat, -1000000000000000000 ≤ V.getD j 0 ∧ V.getD j 0 ≤ 1000000000000000000) :
    G (.fn 50) [s, .int .i64 t, .int .i64 f, .int .i64 i] h c df = some { e := .ret, vs := [.int .i64 (arcV V t f i)], h := h, c := c, df := [] } := by
  refine pure_of' (fun r e => f50_go e) (by simp) ?_
  unfold f50_S arcV
  have hr := ty_range hi hi4 hf hf4 hne
  have k1 := hV (7 * t + i).toNat
  have k2 := hV (7 * t + 4 + ty i f).toNat
  rw [← gi] at k1 k2
  have l1 := hs.rdi (7 * t + i) (by omega) (by omega)
  have l2 := hs.rdi (7 * t + 4 + ty i f) (by omega) (by omega)
  have x1 := ixV_avs tyT 4 4 .i64 i hi (by omega) rfl
  have hl4 : ((tyT.drop (i.toNat * 4)).take 4).length = 4 := by simp [tyT]; omega
  have x2 := ixV_av ((tyT.drop (i.toNat * 4)).take 4) 4 .i64 f hf (by omega) hl4
  rw [show ((tyT.drop (i.toNat * 4)).take 4).getD f.toNat 0 = ty i f from rfl] at x2
  obtain ⟨R, hR⟩ : ∃ R, (tyT.drop (i.toNat * 4)).take 4 = R := ⟨_, rfl⟩
  rw [hR] at x1 x2
  obtain ⟨T, hT⟩ : ∃ T, ty i f = T := ⟨_, rfl⟩
  rw [hT] at x2 l2 k2 hr ⊢
  obtain ⟨A, hA⟩ : ∃ A, gi V (7 * t + i) = A := ⟨_, rfl⟩
  obtain ⟨B, hB⟩ : ∃ B, gi V (7 * t + 4 + T) = B := ⟨_, rfl⟩
  rw [hA] at l1 k1 ⊢
  rw [hB] at l2 k2 ⊢
  have fx := And.intro hs.ixs1 (And.intro l1 (And.intro l2 (And.intro callF_types (And.intro x1 x2))))
  refine Ans.go ?_
  clear fx
  (have fx := True.intro; exact Ans.pu)
def FcP (rb kb c1 cc : Nat) (h : FH) (df : List Nat) (vs : Value → Int → List Value) (o : Option FSt) (r : Rt FH) : Prop :=
  cc ≤ r.c ∧ r.df = df ∧ (∀ b, b < 256 * c1 → b ≠ rb → b ≠ kb → r.h.f b = h.f b) ∧ match o with
    | some S => r.e = .exit 6 ∧ ∃ v, r.vs = vs v S.m ∧ r.h.f rb = some (.cells false none (ints S.X)) ∧ r.h.f kb = some (.cells false none (bools S.K)) ∧ AppG c1 r.h r.c v S.Q.length (ints (zs S.Q))
    | none => r.e = .ret ∧ r.v 1 = .slice none 0 0 ∧ r.v 2 = .bool false
theorem FcP.mono {rb kb c1 cc cc' : Nat} {h h' : FH} {df : List Nat} {vs : Value → Int → List Value} {o : Option FSt} {r : Rt FH} (p : FcP rb kb c1 cc' h' df vs o r) (hc : cc ≤ cc') (hh : ∀ b, b < 256 * c1 → b ≠ rb → b ≠ kb → h'.f b = h.f b) : FcP rb kb c1 cc h df vs o r :=
  ⟨Nat.le_trans hc p.1, p.2.1, fun b h1 h2 h3 => (p.2.2.1 b h1 h2 h3).trans (hh b h1 h2 h3), p.2.2.2⟩
theorem own_sl {h : FH} {rb c : Nat} {X : List Int} {m : Nat} (e : h.f rb = some (.cells false none (ints X))) (hl : X.length = m) (hm : m ≤ 1000000) (hc : rb < 256 * c) : SlI h c (.slice (some ⟨rb, 0, none⟩) m m) 1 m X := by
  refine ⟨by omega, by omega, some ⟨rb, 0, none⟩, m, rfl, .inr ⟨rb, 0, ints X, rfl, hc, ⟨false, none, e⟩, ?_⟩⟩
  rw [List.drop_zero, List.take_of_length_le (by simp [hl])]
set_option maxHeartbeats 2000000 in
theorem fc_loop (n : Nat) (Gl : List Int) (rb kb c1 : Nat) (t2 t4 t5 t16 t62 t63 t64 : Value) (t i : Nat) (df : List Nat) (hn : n ≤ 60) (hok : okAll Gl n = true) (hG : Gl.length = n * 20) (hrb : rb < 256 * c1) (hkb : kb < 256 * c1) (hne : rb ≠ kb) (ht : t < n) (hi : i < 4) :
    ∀ (k f cc : Nat) (h : FH) (t14 : Value) (S : FSt) (B : Int), f + k = 4 → c1 ≤ cc → h.f rb = some (.cells false none (ints S.X)) → h.f kb = some (.cells false none (bools S.K)) → AppG c1 h cc t14 S.Q.length (ints (zs S.Q)) → FOk n S B → 0 ≤ B → B + k * 1000000 ≤ 100000000000000000 →
    Ans (G (f57_k57003 none) [t2, t4, t5, .slice (some ⟨rb, 0, none⟩) (7 * n) (7 * n), .slice (some ⟨kb, 0, none⟩) (4 * n) (4 * n), t14, .int .i64 S.m, t16, .int .i64 t, .int .i64 i, t62, t63, t64, av (rowL Gl t), .int .i64 f] h cc df)
      (FcP rb kb c1 cc h df (fun v m => [t2, t4, t5, .slice (some ⟨rb, 0, none⟩) (7 * n) (7 * n), .slice (some ⟨kb, 0, none⟩) (4 * n) (4 * n), v, .int .i64 m, t16, .int .i64 t, .int .i64 i, t62, t63, t64, av (rowL Gl t), .int .i64 4]) (fFaces Gl true t i k f S)) := by
  intro k
  induction k with
  | zero =>
    intro f cc h t14 S B hf hc e1 e2 ha hS hB hB2
    obtain rfl : f = 4 := by omega
    refine Ans.loop' (fun q r => f57_N57003) (fun q => f57_Z57003) ?_
    unfold f57_L57003
    have fx := True.intro
    refine Ans.go ?_
    clear fx
    refine Ans.exitN ⟨(by show cc ≤ cc + 1; omega), rfl, fun _ _ _ _ => rfl, rfl, t14, rfl, e1, e2, ha.mono (by show cc ≤ cc + 1; omega)⟩
  | succ k ih =>
    intro f cc h t14 S B hf hc e1 e2 ha hS hB hB2
    have hf4 : (f : Int) < 4 := by omega
    have hrl : (rowL Gl t).length = 20 := rowL_length hG ht
    have x1 := ixV_avs (rowL Gl t) 4 5 .i64 (f : Int) (by omega) (by omega) hrl
    have hfr : ((rowL Gl t).drop ((f : Int).toNat * 5)).take 5 = faceL Gl t f := row_face (by omega)
    rw [hfr] at x1
    have hfl := faceL_length hG ht (by omega : f < 4)
    have hst : ∀ b, stN (newB h b [.int .i64 0, .int .i64 0, .int .i64 0, .int .i64 0, .int .i64 0]) 5 (.pointer (some ⟨b, 0, none⟩)) (av (faceL Gl t f)) = some (newB h b (ints (faceL Gl t f))) := fun b => stN_all _ _ 5 _ _ hfl rfl
    obtain ⟨H, hH⟩ : ∃ H, newB h (256 * (cc + 1) + 2) (ints (faceL Gl t f)) = H := ⟨_, rfl⟩
    have fH : ∀ b, b ≠ 256 * (cc + 1) + 2 → H.f b = h.f b := fun b hb => by rw [← hH, newB_f, if_neg hb]
    have b0 : ld1 H (.pointer (some ⟨256 * (cc + 1) + 2, 0, none⟩)) = some (.int .i64 (tetL (faceL Gl t f))) := by rw [← hH, ld1_newB_same, ints_getD _ _ (by omega)]; rfl
    have bp : ∀ x : Nat, x < 4 → ld1 H (.pointer (some ⟨256 * (cc + 1) + 2, 1 + x, none⟩)) = some (.int .i64 ((permL (faceL Gl t f)).getD x 0)) := fun x hx => by
      rw [← hH, ld1_newB_same, ints_getD _ _ (by omega)]
      unfold permL
      rw [getD_take _ _ _ (by omega), getD_drop]
    have b1 := bp i hi
    have b2 := bp f (by omega)
    have kH : H.f rb = some (.cells false none (ints S.X)) := by rw [fH rb (by omega), e1]
    have kK : H.f kb = some (.cells false none (bools S.K)) := by rw [fH kb (by omega), e2]
    have bo := ha.blk
    have aH : AppG c1 H cc t14 S.Q.length (ints (zs S.Q)) := ha.keep (fH _ (by omega))
    rw [fFaces]
    by_cases hfi : f = i
    · have es : fStep Gl true t i f S = some S := by unfold fStep; rw [if_pos (.inl hfi)]
      rw [es]
      subst hfi
      refine Ans.loop' (fun q r => f57_N57003) (fun q => f57_Z57003) ?_
      unfold f57_L57003
      have fx := And.intro x1 (And.intro hst hH)
      refine Ans.go ?_
      clear fx
      refine Ans.nextN ?_
      refine (ih (f + 1) _ H t14 S B (by omega) (by omega) kH kK (aH.mono (by omega)) hS hB (by omega)).mono fun r p => p.mono (by omega) (fun b h1 h2 h3 => fH b (by omega))
    by_cases h0 : tetL (faceL Gl t f) < 0
    · have es : fStep Gl true t i f S = some S := by unfold fStep; rw [if_pos (.inr h0)]
      rw [es]
      have hfi' : ¬ (f : Int) = i := by omega
      obtain ⟨U, hU⟩ : ∃ U, tetL (faceL Gl t f) = U := ⟨_, rfl⟩
      rw [hU] at b0 h0
      refine Ans.loop' (fun q r => f57_N57003) (fun q => f57_Z57003) ?_
      unfold f57_L57003
      have fx := And.intro x1 (And.intro hst (And.intro hH b0))
      refine Ans.go ?_
      clear fx
      refine Ans.nextN ?_
      refine (ih (f + 1) _ H t14 S B (by omega) (by omega) kH kK (aH.mono (by omega)) hS hB (by omega)).mono fun r p => p.mono (by omega) (fun b h1 h2 h3 => fH b (by omega))
    have hfi' : ¬ (f : Int) = i := by omega
    have g := FGl.of hok hG ht (by omega : f < 4) hi (fun q => hfi q.symm) h0
    have hw := fW_bound hS ht (by omega : f < 4) hi (fun q => hfi q.symm) g
    have ca := fun c' (hc' : cc + 1 + 1 ≤ c') => callF_of (arcsB_sp (.slice (some ⟨rb, 0, none⟩) (7 * n) (7 * n)) (7 * n) S.X t f i H c' [] (own_sl kH hS.xl (by omega) (by omega)) (by omega) (by omega) (by omega) (by omega) (by omega) (by omega) (by omega) (by omega) (fun j => by have := hS.xb j; omega))
    have r1 := ty_range (i := (i : Int)) (f := (f : Int)) (by omega) (by omega) (by omega) (by omega) (by omega)
    have r2 := ty_range (i := (fJ Gl t f i : Int)) (f := (fJ Gl t f f : Int)) (by omega) (by have := g.j; omega) (by omega) (by have := g.h; omega) (by have := g.ne; omega)
    have q2 := hS.qd (fU Gl t f) (ty (fJ Gl t f i) (fJ Gl t f f)).toNat (by omega)
    have hwe : arcV S.X t f i - S.X.getD (7 * fU Gl t f + 4 + (ty (fJ Gl t f i) (fJ Gl t f f)).toNat) 0 = fW Gl S.X t f i := by
      unfold fW
      rw [gi, show (7 * (fU Gl t f : Int) + 4 + ty (fJ Gl t f i) (fJ Gl t f f)).toNat = 7 * fU Gl t f + 4 + (ty (fJ Gl t f i) (fJ Gl t f f)).toNat by omega]
    have es : fStep Gl true t i f S = if S.K.getD (fV Gl t f i) false = false then
        some ⟨S.X.set (7 * fU Gl t f + fJ Gl t f i) (fW Gl S.X t f i), S.K.set (fV Gl t f i) true, S.Q ++ [fV Gl t f i], min S.m (fW Gl S.X t f i)⟩
        else if true = true ∧ S.X.getD (7 * fU Gl t f + fJ Gl t f i) 0 ≠ fW Gl S.X t f i then none else some S := by
      unfold fStep; rw [if_neg (fun q => q.elim hfi h0)]
    have push := hS.push (Gl := Gl) hB ht (by omega : f < 4) hi (fun q => hfi q.symm) g
    rw [es]
    have hv : fV Gl t f i = 4 * fU Gl t f + fJ Gl t f i := rfl
    rw [hv] at push ⊢
    have gu := g.u
    have gj := g.j
    have gh := g.h
    have gne := g.ne
    have guz := g.uz
    have gjz := g.jz
    have ghz := g.hz
    clear g es hv
    rw [guz] at b0
    rw [gjz] at b1
    rw [ghz] at b2
    obtain ⟨U, hU⟩ : ∃ U, fU Gl t f = U := ⟨_, rfl⟩
    obtain ⟨J, hJ⟩ : ∃ J, fJ Gl t f i = J := ⟨_, rfl⟩
    obtain ⟨J', hJ'⟩ : ∃ J', fJ Gl t f f = J' := ⟨_, rfl⟩
    rw [hU] at b0 gu hwe push q2 ⊢
    rw [hJ] at b1 gj gne r2 hwe push q2 ⊢
    rw [hJ'] at b2 gh gne r2 hwe q2
    have x3 := ixV_avs tyT 4 4 .i64 (J : Int) (by omega) (by omega) rfl
    have hl4 : ((tyT.drop ((J : Int).toNat * 4)).take 4).length = 4 := by simp [tyT]; omega
    have x4 := ixV_av ((tyT.drop ((J : Int).toNat * 4)).take 4) 4 .i64 (J' : Int) (by omega) (by omega) hl4
    rw [show ((tyT.drop ((J : Int).toNat * 4)).take 4).getD (J' : Int).toNat 0 = ty J J' from rfl] at x4
    obtain ⟨R, hR⟩ : ∃ R, (tyT.drop ((J : Int).toNat * 4)).take 4 = R := ⟨_, rfl⟩
    rw [hR] at x3 x4
    obtain ⟨T, hT⟩ : ∃ T, ty J J' = (T : Nat) := ⟨(ty J J').toNat, by omega⟩
    rw [hT] at x4 hwe r2 q2
    rw [Int.toNat_natCast] at hwe q2
    have hwe' := hwe
    have k1 := hS.xb (7 * U + 4 + T)
    have l2 : ld1 H (.pointer (some ⟨rb, 7 * U + 4 + T, none⟩)) = some (.int .i64 (S.X.getD (7 * U + 4 + T) 0)) := by
      rw [ld1_holds' ⟨false, none, kH⟩, ints_getD _ _ (by have := hS.xl; omega)]
    have l3 : ld1 H (.pointer (some ⟨kb, 4 * U + J, none⟩)) = some (.bool (S.K.getD (4 * U + J) false)) := by
      rw [ld1_holds' ⟨false, none, kK⟩, bools_get _ _ (by have := hS.kl; omega)]
    have l4 : ld1 H (.pointer (some ⟨rb, 7 * U + J, none⟩)) = some (.int .i64 (S.X.getD (7 * U + J) 0)) := by
      rw [ld1_holds' ⟨false, none, kH⟩, ints_getD _ _ (by have := hS.xl; omega)]
    obtain ⟨W, hW⟩ : ∃ W, fW Gl S.X t f i = W := ⟨_, rfl⟩
    rw [hW] at hw hwe push ⊢
    obtain ⟨A, hA⟩ : ∃ A, arcV S.X t f i = A := ⟨_, rfl⟩
    rw [hA] at ca hwe
    obtain ⟨Y, hY⟩ : ∃ Y, S.X.getD (7 * U + 4 + T) 0 = Y := ⟨_, rfl⟩
    rw [hY] at l2 k1 hwe q2
    obtain ⟨Z, hZ⟩ : ∃ Z, S.X.getD (7 * U + J) 0 = Z := ⟨_, rfl⟩
    have k5 := hS.xb (7 * U + J)
    rw [hZ] at l4 k5 ⊢
    have tz1 : (7 * (U : Int) + 4 + T).toNat = 7 * U + 4 + T := by omega
    have tz2 : (4 * (U : Int) + J).toNat = 4 * U + J := by omega
    have tz3 : (7 * (U : Int) + J).toNat = 7 * U + J := by omega
    by_cases hk : S.K.getD (4 * U + J) false = false
    · rw [if_pos hk]
      rw [hk] at l3
      have pu := push hk
      obtain ⟨H1, hH1⟩ : ∃ H1, HeapC.set H kb (.cells false none (bools (S.K.set (4 * U + J) true))) = H1 := ⟨_, rfl⟩
      have w1 : stN H 1 (.pointer (some ⟨kb, 4 * U + J, none⟩)) (.bool true) = some H1 := by
        rw [st1_get (show HeapC.get H kb = _ from kK) (by simp [bools]; have := hS.kl; omega) rfl rfl, bools_set, hH1]
      have fH1 : ∀ b, b ≠ kb → H1.f b = H.f b := fun b hb => by rw [← hH1, set_f, if_neg hb]
      have kK1 : H1.f kb = some (.cells false none (bools (S.K.set (4 * U + J) true))) := by rw [← hH1, set_f, if_pos rfl]
      obtain ⟨H2, hH2⟩ : ∃ H2, HeapC.set H1 rb (.cells false none (ints (S.X.set (7 * U + J) W))) = H2 := ⟨_, rfl⟩
      have w2 : stN H1 1 (.pointer (some ⟨rb, 7 * U + J, none⟩)) (.int .i64 W) = some H2 := by
        rw [st1_get (show HeapC.get H1 rb = _ from (fH1 rb hne).trans kH) (by simp; have := hS.xl; omega) rfl rfl, ints_set, hH2]
      have fH2 : ∀ b, b ≠ rb → H2.f b = H1.f b := fun b hb => by rw [← hH2, set_f, if_neg hb]
      have kH2 : H2.f rb = some (.cells false none (ints (S.X.set (7 * U + J) W))) := by rw [← hH2, set_f, if_pos rfl]
      have mn := min2_int .i64 S.m W
      rw [show (if W < S.m then W else S.m) = min S.m W by split <;> omega] at mn
      have hbl : bldL [.int .i64 0] [(0, 1, .int .i64 (4 * (U : Int) + J))] = some [.int .i64 (4 * (U : Int) + J)] := rfl
      have hql := hS.ql
      have a2 : AppG c1 H2 (cc + 1) t14 S.Q.length (ints (zs S.Q)) := (aH.keep (by rw [fH2 _ (by omega), fH1 _ (by omega)])).mono (by omega)
      obtain ⟨H3, p1, p2, p3⟩ := (a2.mono (c' := cc + 1 + 1 + 1 + 1 + 1 + 1 + 1 + 1 + 1) (by omega)).app (c' := cc + 1 + 1 + 1 + 1 + 1 + 1 + 1 + 1 + 1 + 1) (.int .i64 (4 * (U : Int) + J)) rfl 8 (256 * (cc + 1 + 1 + 1 + 1 + 1 + 1 + 1 + 1 + 1) + 5) (256 * (cc + 1 + 1 + 1 + 1 + 1 + 1 + 1 + 1 + 1) + 6) (by omega) (by omega) (by omega) (by omega) (by omega) (by omega)
      have low : ∀ b, b < 256 * c1 → H3.f b = H2.f b := fun b hb => p3 b (by omega) (by omega)
      have hzs : ints (zs S.Q) ++ [.int .i64 (4 * (U : Int) + J)] = ints (zs (S.Q ++ [4 * U + J])) := by
        simp [zs, ints]
      rw [hzs] at p2
      clear mn
      have mn : foldV min2 [.int .i64 S.m, .int .i64 W] = some (.int .i64 (min S.m W)) := by
        rw [min2_int, show (if W < S.m then W else S.m) = min S.m W by split <;> omega]
      refine Ans.loop' (fun q r => f57_N57003) (fun q => f57_Z57003) ?_
      unfold f57_L57003
      have fx := And.intro x1 (And.intro hst (And.intro hH (And.intro b0 (And.intro b1 (And.intro b2 (And.intro ca (And.intro callF_types (And.intro x3 (And.intro x4 (And.intro tz1 (And.intro tz2 (And.intro tz3 (And.intro l2 (And.intro l3 (And.intro hwe (And.intro w1 (And.intro w2 (And.intro mn (And.intro hbl p1)))))))))))))))))))
      refine Ans.go ?_
      clear fx
      refine Ans.nextN ?_
      refine (ih (f + 1) _ H3 _ ⟨S.X.set (7 * U + J) W, S.K.set (4 * U + J) true, S.Q ++ [4 * U + J], min S.m W⟩ (B + 1000000) (by omega) (by omega) (by rw [low rb hrb, kH2]) (by rw [low kb hkb, fH2 kb (Ne.symm hne), kK1]) (by rw [List.length_append]; exact p2.mono (by omega)) pu (by omega) (by omega)).mono fun r p => p.mono (by omega) (fun b h1 h2 h3 => by rw [low b h1, fH2 b h2, fH1 b h3, fH b (by omega)])
    · rw [if_neg hk]
      have hk' : S.K.getD (4 * U + J) false = true := by simpa using hk
      rw [hk'] at l3
      by_cases hz : Z = W
      · rw [if_neg (fun q => q.2 hz)]
        refine Ans.loop' (fun q r => f57_N57003) (fun q => f57_Z57003) ?_
        unfold f57_L57003
        have fx := And.intro x1 (And.intro hst (And.intro hH (And.intro b0 (And.intro b1 (And.intro b2 (And.intro ca (And.intro callF_types (And.intro x3 (And.intro x4 (And.intro tz1 (And.intro tz2 (And.intro tz3 (And.intro l2 (And.intro l3 (And.intro l4 hwe)))))))))))))))
        refine Ans.go ?_
        clear fx
        refine Ans.nextN ?_
        refine (ih (f + 1) _ H t14 S B (by omega) (by omega) kH kK (aH.mono (by omega)) hS hB (by omega)).mono fun r p => p.mono (by omega) (fun b h1 h2 h3 => fH b (by omega))
      · rw [if_pos ⟨rfl, hz⟩]
        refine Ans.loop' (fun q r => f57_N57003) (fun q => f57_Z57003) ?_
        unfold f57_L57003
        have fx := And.intro x1 (And.intro hst (And.intro hH (And.intro b0 (And.intro b1 (And.intro b2 (And.intro ca (And.intro callF_types (And.intro x3 (And.intro x4 (And.intro tz1 (And.intro tz2 (And.intro tz3 (And.intro l2 (And.intro l3 (And.intro l4 hwe)))))))))))))))
        refine Ans.go ?_
        clear fx
        exact Ans.retN ⟨(by show cc ≤ cc + 1 + 1 + 1 + 1 + 1 + 1 + 1 + 1; omega), rfl, fun b h1 h2 h3 => fH b (by omega), rfl, rfl, rfl⟩
end Go.Proofs.Ytcnndelmnobigaa

namespace Go.Proofs.Ytcnndelmnobigaa
open Go Go.Ab Go.Proofs
set_option maxRecDepth 100000
set_option linter.unusedVariables false
set_option linter.unusedSimpArgs false
def FqP (rb kb c1 cc : Nat) (h : FH) (df : List Nat) (vs : Value → Int → Nat → List Value) (o : Option FSt) (r : Rt FH) : Prop :=
  cc ≤ r.c ∧ r.df = df ∧ (∀ b, b < 256 * c1 → b ≠ rb → b ≠ kb → r.h.f b = h.f b) ∧ match o with
    | some S => r.e = .exit 4 ∧ ∃ v j, r.vs = vs v S.m j ∧ r.h.f rb = some (.cells false none (ints S.X)) ∧ r.h.f kb = some (.cells false none (bools S.K)) ∧ AppG c1 r.h r.c v S.Q.length (ints (zs S.Q))
    | none => r.e = .ret ∧ r.v 1 = .slice none 0 0 ∧ r.v 2 = .bool false
theorem FqP.mono {rb kb c1 cc cc' : Nat} {h h' : FH} {df : List Nat} {vs : Value → Int → Nat → List Value} {o : Option FSt} {r : Rt FH} (p : FqP rb kb c1 cc' h' df vs o r) (hc : cc ≤ cc') (hh : ∀ b, b < 256 * c1 → b ≠ rb → b ≠ kb → h'.f b = h.f b) : FqP rb kb c1 cc h df vs o r :=
  ⟨Nat.le_trans hc p.1, p.2.1, fun b h1 h2 h3 => (p.2.2.1 b h1 h2 h3).trans (hh b h1 h2 h3), p.2.2.2⟩
set_option maxHeartbeats 2000000 in
theorem fq_loop (s : Value) (n : Nat) (Gl : List Int) (gb rb kb c1 : Nat) (t4 t5 t62 t63 t64 : Value) (df : List Nat) (hn : n ≤ 60) (hok : okAll Gl n = true) (hgb : gb < 256 * c1) (hrb : rb < 256 * c1) (hkb : kb < 256 * c1) (hne : rb ≠ kb) (hg1 : gb ≠ rb) (hg2 : gb ≠ kb) (hsb : 0 < n → blkOf s ≠ rb ∧ blkOf s ≠ kb) :
    ∀ (r k cc : Nat) (h : FH) (t14 : Value) (S : FSt) (B : Int), 4 * n ≤ r + k → k ≤ 4 * n → c1 ≤ cc → Holds h gb [s] → SlI h c1 s 20 n Gl → h.f rb = some (.cells false none (ints S.X)) → h.f kb = some (.cells false none (bools S.K)) → AppG c1 h cc t14 S.Q.length (ints (zs S.Q)) → FOk n S B → 0 ≤ B → B + r * 4000000 ≤ 50000000000000000 →
    Ans (G (f57_k57002 none) [ptrTo gb, t4, t5, .slice (some ⟨rb, 0, none⟩) (7 * n) (7 * n), .slice (some ⟨kb, 0, none⟩) (4 * n) (4 * n), t14, .int .i64 S.m, .int .i64 k, t62, t63, t64] h cc df)
      (FqP rb kb c1 cc h df (fun v m j => [ptrTo gb, t4, t5, .slice (some ⟨rb, 0, none⟩) (7 * n) (7 * n), .slice (some ⟨kb, 0, none⟩) (4 * n) (4 * n), v, .int .i64 m, .int .i64 j, t62, t63, t64]) (fQ Gl true r k S)) := by
  intro r
  have stop : ∀ (r k cc : Nat) (h : FH) (t14 : Value) (S : FSt) (B : Int), ¬ k < S.Q.length → k ≤ 4 * n → c1 ≤ cc → h.f rb = some (.cells false none (ints S.X)) → h.f kb = some (.cells false none (bools S.K)) → AppG c1 h cc t14 S.Q.length (ints (zs S.Q)) → FOk n S B →
      Ans (G (f57_k57002 none) [ptrTo gb, t4, t5, .slice (some ⟨rb, 0, none⟩) (7 * n) (7 * n), .slice (some ⟨kb, 0, none⟩) (4 * n) (4 * n), t14, .int .i64 S.m, .int .i64 k, t62, t63, t64] h cc df)
      (FqP rb kb c1 cc h df (fun v m j => [ptrTo gb, t4, t5, .slice (some ⟨rb, 0, none⟩) (7 * n) (7 * n), .slice (some ⟨kb, 0, none⟩) (4 * n) (4 * n), v, .int .i64 m, .int .i64 j, t62, t63, t64]) (some S)) := by
    intro r k cc h t14 S B hk hk4 hc e1 e2 ha hS
    have ll := ha.sl.len
    have hql := hS.ql
    refine Ans.loop' (fun q r => f57_N57002) (fun q => f57_Z57002) ?_
    unfold f57_L57002
    have fx := ll
    refine Ans.go ?_
    clear fx
    exact Ans.exitN ⟨(by show cc ≤ cc + 1; omega), rfl, fun _ _ _ _ => rfl, rfl, t14, k, rfl, e1, e2, ha.mono (by show cc ≤ cc + 1; omega)⟩
  induction r with
  | zero =>
    intro k cc h t14 S B hr hk hc hg hs e1 e2 ha hS hB hB2
    have hql := hS.ql
    exact stop 0 k cc h t14 S B (by omega) hk hc e1 e2 ha hS
  | succ r ih =>
    intro k cc h t14 S B hr hk hc hg hs e1 e2 ha hS hB hB2
    rw [fQ]
    by_cases hkq : k < S.Q.length
    case neg => rw [if_neg hkq]; exact stop (r + 1) k cc h t14 S B hkq hk hc e1 e2 ha hS
    rw [if_pos hkq]
    have hql := hS.ql
    have hm : S.Q.getD k 0 ∈ S.Q := by simp [List.getD_eq_getElem?_getD, List.getElem?_eq_getElem hkq]
    have hw := (hS.qk _ hm).1
    have sl := ha.sl
    have ll := sl.len
    have l1 := sl.rdi (k : Int) (by omega) (by omega)
    rw [gi_nat, zs_getD, Int.toNat_natCast] at l1
    have lg : ld1 h (.pointer (some ⟨gb, 0, none⟩)) = some s := by rw [ld1_holds' hg]; rfl
    obtain ⟨w, hw'⟩ : ∃ w, S.Q.getD k 0 = w := ⟨_, rfl⟩
    rw [hw'] at l1 hw ⊢
    have q1 := quo_nat w 4 (by omega) (by omega)
    have q2 := rem_nat w 4 (by omega)
    simp only [Int.ofNat_eq_natCast, Int.cast_ofNat_Int] at q1 q2
    have d1 : w / 4 < n := by omega
    have d2 : w % 4 < 4 := by omega
    obtain ⟨T, hT⟩ : ∃ T, w / 4 = T := ⟨_, rfl⟩
    obtain ⟨E, hE⟩ : ∃ E, w % 4 = E := ⟨_, rfl⟩
    rw [hT] at q1 d1 ⊢
    rw [hE] at q2 d2 ⊢
    have l5 := hs.row (T : Int) (by omega) (by omega)
    rw [Int.toNat_natCast] at l5
    obtain ⟨⟨re, rv, rh, rc, rd⟩, hfc, p1, p2, p3, p4⟩ := fc_loop n Gl rb kb c1 (ptrTo gb) t4 t5 (.int .i64 k) t62 t63 t64 T E df hn hok hs.1 hrb hkb hne d1 d2 4 0 (cc + 1 + 1 + 1) h t14 S B (by omega) (by omega) e1 e2 (ha.mono (by omega)) hS hB (by omega)
    simp only [Int.ofNat_eq_natCast, Int.cast_ofNat_Int] at hfc
    simp only at p1 p2 p3
    subst p2
    have hsx := hs.ixs
    cases hF : fFaces Gl true T E 4 0 S with
    | none =>
      rw [hF] at p4
      obtain ⟨p4, p5, p6⟩ := p4
      simp only at p4
      subst p4
      refine Ans.loop' (fun q r => f57_N57002) (fun q => f57_Z57002) ?_
      unfold f57_L57002
      have fx := And.intro ll (And.intro sl.ixs1 (And.intro l1 (And.intro q1 (And.intro q2 (And.intro lg (And.intro hsx (And.intro l5 hfc)))))))
      refine Ans.go ?_
      clear fx
      exact Ans.retN ⟨(by show cc ≤ rc; omega), rfl, p3, rfl, p5, p6⟩
    | some S1 =>
      rw [hF] at p4
      obtain ⟨p4, v, p5, p6, p7, p8⟩ := p4
      simp only at p4 p5 p6 p7 p8
      subst p4 p5
      have o1 := fFaces_ok hok hs.1 d1 d2 (by omega) hS hB hF
      refine Ans.loop' (fun q r => f57_N57002) (fun q => f57_Z57002) ?_
      unfold f57_L57002
      have fx := And.intro ll (And.intro sl.ixs1 (And.intro l1 (And.intro q1 (And.intro q2 (And.intro lg (And.intro hsx (And.intro l5 hfc)))))))
      refine Ans.go ?_
      clear fx
      refine Ans.nextN ?_
      refine (ih (k + 1) (rc + 1) rh v S1 (B + 4 * 1000000) (by omega) (by omega) (by omega) (hg.eqf (p3 gb hgb hg1 hg2)) (hs.keep fun hp => p3 _ (hs.blk hp) (hsb hp).1 (hsb hp).2) p6 p7 (p8.mono (by omega)) o1 (by omega) (by omega)).mono fun r p => p.mono (by omega) p3
set_option maxHeartbeats 1000000 in
theorem fs_loop (h0 : FH) (n : Nat) (rb c : Nat) (t2 t4 t5 t11 t62 t63 t64 v : Value) (Q : List Nat) (m B : Int) (df : List Nat) (hn : n ≤ 60) (hrb : rb < 256 * c) (hv : SlI h0 c v 1 Q.length (zs Q)) (hvb : blkOf v ≠ rb) (o2 : OkV c t2) (o4 : OkV c t4) (o5 : OkV c t5) (o11 : OkV c t11) (o62 : OkV c t62) (o63 : OkV c t63) (o64 : OkV c t64)
    (nd : Q.Nodup) (hq : ∀ w ∈ Q, w < 4 * n) (hl : Q.length ≤ 4 * n) (hm : -B ≤ m ∧ m ≤ B) (hB : B ≤ 1000000000000000000) :
    ∀ (r k : Nat) (X : List Int), k + r = Q.length → X.length = 7 * n → (∀ w, w ∈ Q.drop k → -B ≤ X.getD (ps w) 0 ∧ X.getD (ps w) 0 ≤ B) →
    Ans (G (f57_k57004 none) [t2, t4, t5, .slice (some ⟨rb, 0, none⟩) (7 * n) (7 * n), t11, .int .i64 m, t62, t63, t64, v, .int .i64 Q.length, .int .i64 k] (HeapC.set h0 rb (.cells false none (ints X))) c df)
      fun q => q = { e := .exit 9, vs := [t2, t4, t5, .slice (some ⟨rb, 0, none⟩) (7 * n) (7 * n), t11, .int .i64 m, t62, t63, t64, v, .int .i64 Q.length, .int .i64 Q.length], h := HeapC.set h0 rb (.cells false none (ints (subQ m (Q.drop k) X))), c := c, df := df } := by
  intro r
  induction r with
  | zero =>
    intro k X hk hX hb
    obtain rfl : k = Q.length := by omega
    have ov := hv.okV
    rw [List.drop_length, subQ]
    refine Ans.loop (fun q r => f57_N57004) (fun q => f57_Z57004) ?_
    unfold f57_L57004
    have fx := True.intro
    refine Ans.go ?_
    clear fx
    (have fx := And.intro o2 (And.intro o4 (And.intro o5 (And.intro o11 (And.intro o62 (And.intro o63 (And.intro o64 (And.intro hrb ov))))))); refine Ans.ex0 ?_; clear fx)
    rfl
  | succ r ih =>
    intro k X hk hX hb
    have ov := hv.okV
    have hkq : k < Q.length := by omega
    obtain ⟨H, hH⟩ : ∃ H, HeapC.set h0 rb (.cells false none (ints X)) = H := ⟨_, rfl⟩
    have fH : H.f rb = some (.cells false none (ints X)) := by rw [← hH, set_f, if_pos rfl]
    have hv' : SlI H c v 1 Q.length (zs Q) := hv.keep fun _ => by rw [← hH, set_f, if_neg hvb]
    have l1 := hv'.rdi (k : Int) (by omega) (by omega)
    rw [gi_nat, zs_getD, Int.toNat_natCast] at l1
    have hd : Q.drop k = Q.getD k 0 :: Q.drop (k + 1) := by rw [List.drop_eq_getElem_cons hkq]; simp [List.getD_eq_getElem?_getD, List.getElem?_eq_getElem hkq]
    have nd' : (Q.drop k).Nodup := (List.drop_sublist k Q).nodup nd
    rw [hd] at nd' hb ⊢
    rw [List.nodup_cons] at nd'
    have hw := hq (Q.getD k 0) (by simp [List.getD_eq_getElem?_getD, List.getElem?_eq_getElem hkq])
    obtain ⟨w, hw'⟩ : ∃ w, Q.getD k 0 = w := ⟨_, rfl⟩
    rw [hw'] at l1 hw nd' hb ⊢
    rw [subQ]
    have q1 := quo_nat w 4 (by omega) (by omega)
    have q2 := rem_nat w 4 (by omega)
    simp only [Int.ofNat_eq_natCast, Int.cast_ofNat_Int] at q1 q2
    have d1 : w / 4 < n := by omega
    have d2 : w % 4 < 4 := by omega
    have bw := hb w (by simp)
    have hnx : ∀ x, x ∈ Q.drop (k + 1) → -B ≤ (X.set (ps w) (X.getD (ps w) 0 - m)).getD (ps x) 0 ∧ (X.set (ps w) (X.getD (ps w) 0 - m)).getD (ps x) 0 ≤ B := fun x hx => by
      rw [getD_set, if_neg (fun q => nd'.1 (by rw [ps_inj q.1]; exact hx))]
      exact hb x (by simp [hx])
    have hps : ps w = w / 4 * 7 + w % 4 := rfl
    obtain ⟨T, hT⟩ : ∃ T, w / 4 = T := ⟨_, rfl⟩
    obtain ⟨E, hE⟩ : ∃ E, w % 4 = E := ⟨_, rfl⟩
    rw [hT] at q1 d1 hps
    rw [hE] at q2 d2 hps
    rw [hps] at bw hnx ⊢
    have e7 : ((T : Int) * 7 + E).toNat = T * 7 + E := by omega
    have l2 : ld1 H (.pointer (some ⟨rb, T * 7 + E, none⟩)) = some (.int .i64 (X.getD (T * 7 + E) 0)) := by
      rw [ld1_holds' ⟨false, none, fH⟩, ints_getD _ _ (by omega)]
    have hw2 : ∀ y : Int, stN H 1 (.pointer (some ⟨rb, T * 7 + E, none⟩)) (.int .i64 y) = some (HeapC.set H rb (.cells false none (ints (X.set (T * 7 + E) y)))) := fun y => by
      rw [st1_get (show HeapC.get H rb = _ from fH) (by simp; omega) rfl rfl, ints_set]
    obtain ⟨Y, hY⟩ : ∃ Y, X.getD (T * 7 + E) 0 = Y := ⟨_, rfl⟩
    rw [hY] at l2 bw hnx ⊢
    have hkl : (k : Int) < Q.length := by omega
    rw [hH]
    refine Ans.loop (fun q r => f57_N57004) (fun q => f57_Z57004) ?_
    unfold f57_L57004
    have fx := And.intro hv'.ixs1 (And.intro l1 (And.intro q1 (And.intro q2 (And.intro e7 (And.intro l2 hw2)))))
    refine Ans.go ?_
    clear fx
    (have fx := And.intro o2 (And.intro o4 (And.intro o5 (And.intro o11 (And.intro o62 (And.intro o63 (And.intro o64 (And.intro hrb ov))))))); refine Ans.nxB (B := HeapC.set H rb (.cells false none (ints (X.set (T * 7 + E) (Y - m))))) ?_ ?_; exact Upto.set hrb (OkVs.ints _ _) (Upto.refl _ _); clear fx)
    rw [← hH, set_set]
    exact ih (k + 1) _ (by omega) (by simp [hX]) hnx
end Go.Proofs.Ytcnndelmnobigaa

namespace Go.Ab
open Go Go.ChangeShapes Go.RowKit
set_option linter.unusedVariables false
set_option linter.unusedSimpArgs false
variable {P : Program}
theorem okStruct {W : World} {base : Nat} {t : TypeId} {fs : Array Field} {v : Value} {ts : List TypeId} (ht : P.underlying t = some (.struct fs)) (hts : P.cellTypes P.depth t = some ts) (hval : Value.okWide P W .any base t v) :
    ∃ cs, v = .agg cs ∧ cs.size = P.cellsOf t ∧ ∀ i x, cs[i]? = some x → ∃ u, ts[i % ts.length]? = some u ∧ Cell.okWide P W .any base u x := by
  unfold Value.okWide at hval
  rw [ht] at hval
  obtain ⟨cs, rfl, h1, ts', h2, _, h3⟩ := hval
  rw [hts] at h2
  cases h2
  exact ⟨cs, rfl, h1, h3⟩
theorem open_s1 {H : Type} {enc : TypeId × Value → H} {W : World} {base : Nat} {tG tS e : TypeId} {sz : Nat} {v : Value} {f0 : Field} {d : DataW H} {ps : List MemPlace} (ht : P.underlying tG = some (.struct #[f0])) (hts : P.cellTypes P.depth tG = some [tS]) (hc : P.cellsOf tG = 1)
    (hS : P.underlying tS = some (.slice e)) (h0 : f0.type = tS) (o0 : f0.offset = 0) (hcS : P.cellsOf tS = 1) (hf : FlatT P e sz) (hz : 0 < sz) (hval : Value.okWide P W .any base tG v) (hd : DataW.Trod enc P W 0 (fun _ => true) true tG v d ps) :
    ∃ s n Gl, v = .agg #[s] ∧ OpenS W s sz n Gl := by
  obtain ⟨cs, rfl, h1, h2⟩ := okStruct ht hts hval
  rw [hc] at h1
  have hcs : ∃ s, cs = #[s] := by
    obtain ⟨l⟩ := cs
    match l, h1 with
    | [s], _ => exact ⟨s, rfl⟩
  match hcs with
  | ⟨s, hs⟩ =>
    subst hs
    obtain ⟨u, hu, hok⟩ := h2 0 s rfl
    simp at hu
    subst hu
    obtain ⟨fuel, hd⟩ := hd
    obtain ⟨y0, n, _, _, h3⟩ := trod_struct1 ht hd
    rw [h0, o0, hcS] at h3
    obtain ⟨n, Gl, ho⟩ := open_flat hS hf hz hok (fuel := n) (x := y0) (by simpa [Value.cells] using h3)
    exact ⟨s, n, Gl, rfl, ho⟩
theorem open_sl {H : Type} {enc : TypeId × Value → H} {W : World} {base : Nat} {tS e : TypeId} {sz : Nat} {v : Value} {d : DataW H} {ps : List MemPlace} (hS : P.underlying tS = some (.slice e)) (hf : FlatT P e sz) (hz : 0 < sz)
    (hval : Value.okWide P W .any base tS v) (hd : DataW.Trod enc P W 0 (fun _ => true) true tS v d ps) : ∃ n Gl, OpenS W v sz n Gl := by
  unfold Value.okWide at hval
  rw [hS] at hval
  obtain ⟨fuel, hd⟩ := hd
  have hcs : v.cells.toList = [v] := by
    have hok : Cell.ok P W .any base tS v := by
      unfold Cell.okWide at hval
      rw [hS] at hval
      cases v <;> exact hval
    unfold Cell.ok at hok
    rw [hS] at hok
    cases v <;> first | rfl | exact hok.elim
  exact open_flat hS hf hz hval (fuel := fuel) (x := (d, ps)) (by rw [← hcs]; exact hd)
theorem VR.agg1 {μ : Mu} {a b : Value} (h : VR μ a b) : VR μ (.agg #[a]) (.agg #[b]) := VR.agg_iff.2 (VRs.cons h (VRs.nil _))
def LawEnd (W : World) (e : Ending) (W' : World) : Prop := e = .returned (.bool true) ∧ Below W.heap.size W W'
end Go.Ab

namespace Go.Ab
open Go Go.ChangeShapes Go.RowKit
set_option linter.unusedVariables false
set_option linter.unusedSimpArgs false
end Go.Ab

namespace Go.Ab
open Go Go.ChangeShapes Go.RowKit
set_option linter.unusedVariables false
set_option linter.unusedSimpArgs false
def SlC (h : FH) (s : Value) (sz n : Nat) (L : List Int) : Prop := srcCells h sz s = some (ints L, n)
theorem OpenS.slc {W : World} {v : Value} {sz n : Nat} {Gl : List Int} (h : OpenS W v sz n Gl) {A : FH} {i : Nat} (ha : ∀ m, absM v = some m → A.f i = some (.cells true none (ints Gl))) : SlC A (absS i v) sz n Gl := by
  obtain ⟨h1, h2, ⟨rfl, rfl⟩ | ⟨b, o, cap, C, E, fr, rfl, g1, _, _⟩⟩ := h
  · have : Gl = [] := List.eq_nil_of_length_eq_zero (by omega)
    subst this
    rfl
  · have hg : HeapC.get A i = some (.cells true none (ints Gl)) := ha _ rfl
    have hb : Nat.ble (0 + n * sz) (ints Gl).length = true := Nat.ble_eq_true_of_le (by simp [h1])
    simp only [SlC, absS, srcCells, rdCells, getCells, hg, Option.bind_some, hb, cond_true, List.drop_zero]
    rw [List.take_of_length_le (by simp [h1])]
theorem app_copy {h : FH} {c c' : Nat} {s : Value} {sz n : Nat} {L : List Int} (hs : SlC h s sz n L) (hl : L.length = n * sz) (hz : 0 < sz) (by' i id : Nat) (hi : h.f i = some (.cells false none [])) (hi' : i < 256 * c') (hid : 256 * c ≤ id) (hid' : id < 256 * c') (hlim : n * (by' + 1) ≤ 17592186044416) :
    ∃ v' h', appV h id sz by' (.slice (some ⟨i, 0, none⟩) 0 0) s = some (v', h') ∧ SlI h' c' v' sz n L ∧ SlX h' v' sz n ∧ SlC h' v' sz n L ∧ (∀ j, j ≠ id → h'.f j = h.f j) ∧ (0 < n → v' = .slice (some ⟨id, 0, none⟩) n n ∧ h'.f id = some (.cells false (some sz) (ints L))) := by
  have hn : n ≤ 17592186044416 := by
    have : n * 1 ≤ n * (by' + 1) := Nat.mul_le_mul_left _ (by omega)
    omega
  have hg : HeapC.get h i = some (.cells false none []) := hi
  rcases Nat.eq_zero_or_pos n with rfl | hp
  · have : L = [] := List.eq_nil_of_length_eq_zero (by omega)
    subst this
    refine ⟨.slice (some ⟨i, 0, none⟩) 0 0, h, ?_, ⟨by simp, by omega, some ⟨i, 0, none⟩, 0, rfl, .inl ⟨rfl, OkV.sl hi'⟩⟩, ⟨Nat.le_refl _, ?_⟩, ?_, fun _ _ => rfl, fun h => by omega⟩
    · unfold SlC at hs
      simp only [appV, hs, Option.bind_some, appTo]
      rfl
    · simp only [adrOf, szOk, hg]
    · simp [SlC, srcCells, rdCells, getCells, hg]
      rfl
  · have hcap : Nat.ble n 0 = false := by rw [Bool.eq_false_iff]; intro hh; have := Nat.le_of_ble_eq_true hh; omega
    have hlim' : Nat.ble (n * (by' + 1)) 17592186044416 = true := Nat.ble_eq_true_of_le hlim
    have hb0 : Nat.ble 0 ([] : List Value).length = true := rfl
    refine ⟨.slice (some ⟨id, 0, none⟩) n n, HeapC.set h id (.cells false (some sz) (ints L)), ?_, ⟨hl, by omega, some ⟨id, 0, none⟩, n, rfl, .inr ⟨id, 0, ints L, rfl, hid', ⟨false, some sz, ?_⟩, ?_⟩⟩, ⟨Nat.le_refl _, ?_⟩, ?_, fun j hj => by rw [set_f, if_neg hj], fun _ => ⟨rfl, by rw [set_f, if_pos rfl]⟩⟩
    · unfold SlC at hs
      simp only [appV, hs, Option.bind_some, appTo, hcap, cond_false, appGrow, hlim', ints_flat, Bool.and_self, cond_true, rdCells, getCells, hg, hb0, Nat.zero_add, List.drop_zero, Nat.zero_mul, Nat.add_zero, List.take_zero, List.nil_append]
    · exact get_set_same _ _ _
    · rw [List.drop_zero, List.take_of_length_le (by simp [hl])]
    · simp only [adrOf, szOk, get_set_same, Nat.beq_refl]
    · have hb : Nat.ble (0 + n * sz) (ints L).length = true := Nat.ble_eq_true_of_le (by simp [hl])
      simp only [SlC, srcCells, rdCells, getCells, get_set_same, Option.bind_some, hb, cond_true, List.drop_zero]
      rw [List.take_of_length_le (by simp [hl])]
theorem SlI.slc {h : FH} {c : Nat} {s : Value} {sz n : Nat} {L : List Int} (hs : SlI h c s sz n L) (hn : 0 < n) (hz : 0 < sz) : SlC h s sz n L := by
  obtain ⟨g1, g2, a, cap, rfl, h4⟩ := hs
  rcases h4 with ⟨e, hv⟩ | ⟨b, o, cs, rfl, e2, ⟨ro, op, e3⟩, e4⟩
  · omega
  · have hl : (ints L).length = n * sz := by simp [g1]
    have h0 : 0 < n * sz := Nat.mul_pos hn hz
    have hle : o + n * sz ≤ cs.length := by
      rw [← e4, List.length_take, List.length_drop] at hl
      omega
    have hb : Nat.ble (o + n * sz) cs.length = true := Nat.ble_eq_true_of_le hle
    have hg : HeapC.get h b = some (.cells ro op cs) := e3
    simp only [SlC, srcCells, rdCells, getCells, hg, Option.bind_some, hb, cond_true, e4]
theorem AppG.appN {c0 : Nat} {h : FH} {c c' : Nat} {v s : Value} {n k : Nat} {cs : List Value} {X : List Int} (ha : AppG c0 h c v n cs) (hs : SlC h s 1 k X) (hk : 0 < k) (hX : X.length = k) (by' id : Nat) (hid : 256 * c ≤ id) (hc0 : c0 ≤ c)
    (hid' : id < 256 * c') (hlim : (n + k) * (by' + 1) ≤ 17592186044416) :
    ∃ h', appV h id 1 by' v s = some (.slice (some ⟨id, 0, none⟩) (n + k) (n + k), h') ∧ AppG c0 h' c' (.slice (some ⟨id, 0, none⟩) (n + k) (n + k)) (n + k) (cs ++ ints X) ∧
      (∀ j, j < 256 * c → j ≠ blkOf v → h'.f j = h.f j) := by
  obtain ⟨h1, h2, h3, i, op, rfl, h5, h6, h7, h8⟩ := ha
  have hlim' : Nat.ble ((n + k) * (by' + 1)) 17592186044416 = true := Nat.ble_eq_true_of_le hlim
  have hn1 : n + k ≤ 17592186044416 := by
    have : (n + k) * 1 ≤ (n + k) * (by' + 1) := Nat.mul_le_mul_left _ (by omega)
    omega
  have hcap : Nat.ble (n + k) n = false := by rw [Bool.eq_false_iff]; intro hh; have := Nat.le_of_ble_eq_true hh; omega
  have hg : HeapC.get h i = some (.cells false op cs) := h7
  have hr : Nat.ble (0 + n * 1) cs.length = true := Nat.ble_eq_true_of_le (by simp [h1])
  have ht : (cs.drop 0).take (n * 1) = cs := by rw [List.drop_zero, List.take_of_length_le (by omega)]
  have hf : (cs ++ ints X).all isFlat = true := by simp only [List.all_append, h3, ints_flat, Bool.and_self]
  unfold SlC at hs
  rcases h8 with rfl | rfl
  · refine ⟨HeapC.set h id (.cells false (some 1) ((cs.drop 0).take (n * 1) ++ ints X)), ?_, ⟨by simp [h1, hX], by omega, hf, id, some 1, rfl, by omega, hid', ?_, .inr rfl⟩, ?_⟩
    · simp only [appV, hs, Option.bind_some, appTo, hcap, cond_false, appGrow, hlim', ints_flat, Bool.and_self, cond_true, rdCells, getCells, hg, hr]
    · rw [set_f, if_pos rfl, ht]
    · intro j hj hne'
      rw [set_f, if_neg (by omega)]
  · refine ⟨HeapC.set (HeapC.set h i .dead) id (.cells false (some 1) ((cs.drop 0).take (n * 1) ++ ints X)), ?_, ⟨by simp [h1, hX], by omega, hf, id, some 1, rfl, by omega, hid', ?_, .inr rfl⟩, ?_⟩
    · simp only [appV, hs, Option.bind_some, appTo, hcap, cond_false, appGrow, hlim', ints_flat, Bool.and_self, cond_true, rdCells, getCells, hg, hr, Nat.beq_refl, Bool.not_false, Bool.and_true]
    · rw [set_f, if_pos rfl, ht]
    · intro j hj hne'
      rw [blkOf_sl] at hne'
      rw [set_f, if_neg (by omega), set_f, if_neg hne']
end Go.Ab

namespace Go.Proofs.Ytcnndelmnobigaa
open Go Go.Ab Go.Proofs
set_option maxRecDepth 100000
set_option linter.unusedVariables false
set_option linter.unusedSimpArgs false
theorem et34 : elemT P 34 = some 3 := by kernel_rfl
theorem st3 : sizeT P 3 = some 1 := by kernel_rfl
theorem SlX.keepB {h h' : FH} {c : Nat} {s : Value} {sz n : Nat} {L : List Int} (hs : SlI h c s sz n L) (hn : 0 < n) (hh : h'.f (blkOf s) = h.f (blkOf s)) (hx : SlX h s sz n) : SlX h' s sz n := by
  obtain ⟨g1, g2, a, cap, rfl, h4⟩ := hs
  rcases h4 with ⟨e, hv⟩ | ⟨b, o, cs, rfl, e2, e3, e4⟩
  · omega
  · obtain ⟨x1, x2⟩ := hx
    refine ⟨x1, ?_⟩
    have hb : HeapC.get h' b = HeapC.get h b := hh
    simpa only [adrOf, szOk, hb] using x2
theorem slS_from {h : FH} {rb n : Nat} {op : Option Nat} {cs : List Value} (e : h.f rb = some (.cells false none cs)) (k : IntKind) (lo : Int) (h1 : 0 ≤ lo) (h2 : lo ≤ n) :
    slS h 1 (.slice (some ⟨rb, 0, none⟩) n n) (some (.int k lo)) none none = some (.slice (some ⟨rb, 0 + lo.toNat * 1, none⟩) (n - lo.toNat) (n - lo.toNat)) := by
  have hg : HeapC.get h rb = some (.cells false none cs) := e
  have q0 : Nat.ble n n = true := Nat.ble_eq_true_of_le (Nat.le_refl _)
  simp only [slS, szOk, hg, cond_true, bnds, bndO, q0, Option.bind_some, bnd, decide_eq_true h1, decide_eq_true h2, Bool.and_self, Option.isSome_none, Bool.false_and, cond_false, slOf]
theorem copy3 {h : FH} {c id i o dl dc : Nat} {src : Value} {X L : List Int} (hs : SlI h c src 1 3 L) (hg : h.f i = some (.cells false none (ints X))) (hd : 3 ≤ dl) (ho : o + 3 ≤ X.length) :
    aBuiltin P h id .copy [34, 34] [.slice (some ⟨i, o, none⟩) dl dc, src] = some (.int .i64 3, HeapC.set h i (.cells false none (ints (X.take o ++ L ++ X.drop (o + 3))))) := by
  have sc := hs.slc (by omega) (by omega)
  have hL : L.length = 3 := hs.1
  obtain ⟨g1, g2, a, cap, rfl, h4⟩ := hs
  have hg' : HeapC.get h i = some (.cells false none (ints X)) := hg
  have hm : Nat.min 3 dl = 3 := Nat.min_eq_left hd
  have hb : Nat.ble (o + (ints L).length) (ints X).length = true := Nat.ble_eq_true_of_le (by simp [hL]; omega)
  unfold SlC at sc
  simp only [aBuiltin, aCopy, et34, st3, Option.bind_some, hm, sc, wrCells, hg', hb, ints_flat, Bool.and_self, cond_true, splice_ints, hL]
  rfl
theorem cp_loop (h0 : FH) (q : Value) (n : Nat) (Qd : List Int) (rb c gb : Nat) (t6 t33 : Value) (df : List Nat) (hn : n ≤ 60) (hq : SlI h0 c q 1 (3 * n) Qd) (hx : SlX h0 q 1 (3 * n)) (hqb : 0 < n → blkOf q ≠ rb) (hrb : rb < 256 * c) (hgb : gb < 256 * c) (o6 : OkV c t6) (hd : t33 = .int .i64 n) :
    ∀ (k t : Nat) (X : List Int), t + k = n → X.length = 7 * n →
    Ans (G (f57_k57000 none) [q, ptrTo gb, .slice none 0 0, .bool false, t6, .slice (some ⟨rb, 0, none⟩) (7 * n) (7 * n), t33, .int .i64 t] (HeapC.set h0 rb (.cells false none (ints X))) c df)
      fun r => r = { e := .exit 0, vs := [q, ptrTo gb, .slice none 0 0, .bool false, t6, .slice (some ⟨rb, 0, none⟩) (7 * n) (7 * n), t33, .int .i64 n], h := HeapC.set h0 rb (.cells false none (ints (pqK Qd k t X))), c := c, df := df } := by
  intro k
  have oq := hq.okV
  subst hd
  induction k with
  | zero =>
    intro t X ht hX
    obtain rfl : t = n := by omega
    refine Ans.loop (fun q r => f57_N57000) (fun q => f57_Z57000) ?_
    unfold f57_L57000
    have fx := True.intro
    refine Ans.go ?_
    clear fx
    (have fx := And.intro oq (And.intro o6 (And.intro hrb hgb)); refine Ans.ex0 ?_; clear fx)
    rfl
  | succ k ih =>
    intro t X ht hX
    obtain ⟨H, hH⟩ : ∃ H, HeapC.set h0 rb (.cells false none (ints X)) = H := ⟨_, rfl⟩
    have fH : H.f rb = some (.cells false none (ints X)) := by rw [← hH, set_f, if_pos rfl]
    have nH : ∀ b, b ≠ rb → H.f b = h0.f b := fun b hb => by rw [← hH, set_f, if_neg hb]
    have hq' : SlI H c q 1 (3 * n) Qd := hq.keep fun _ => nH _ (hqb (by omega))
    have hx' := SlX.keepB hq (by omega) (nH _ (hqb (by omega))) hx
    have s1 := slS_from (n := 7 * n) (op := none) fH .i64 (7 * (t : Int) + 4) (by omega) (by omega)
    have s2 := SlX.sub hq' hx' .i64 .i64 (3 * (t : Int)) (3 * (t : Int) + 3) (by omega) (by omega) (by omega) (by omega)
    rw [show (7 * (t : Int) + 4).toNat = 7 * t + 4 by omega, Nat.mul_one, Nat.zero_add] at s1
    rw [show (3 * (t : Int)).toNat = 3 * t by omega, show (3 * (t : Int) + 3).toNat = 3 * t + 3 by omega] at s2
    have s3 := hq'.sub (3 * t) (3 * t + 3) (by omega) (by omega) (by omega)
    simp only [Nat.mul_one] at s3
    rw [show (3 * t + 3 - 3 * t) = 3 by omega] at s3
    have hcp := fun id => copy3 (id := id) (dl := 7 * n - (7 * t + 4)) (dc := 7 * n - (7 * t + 4)) s3 fH (by omega) (show 7 * t + 4 + 3 ≤ X.length by omega)
    rw [show X.take (7 * t + 4) ++ (Qd.drop (3 * t)).take 3 ++ X.drop (7 * t + 4 + 3) = pq Qd t X from rfl] at hcp
    have hpl := pq_length (n := n) (t := t) (hq.1.trans (Nat.mul_one _)) hX (by omega)
    rw [hH, pqK]
    refine Ans.loop (fun q r => f57_N57000) (fun q => f57_Z57000) ?_
    unfold f57_L57000
    have fx := And.intro s1 (And.intro s2 hcp)
    refine Ans.go ?_
    clear fx
    (have fx := And.intro oq (And.intro o6 (And.intro hrb hgb)); refine Ans.nxB (B := HeapC.set H rb (.cells false none (ints (pq Qd t X)))) ?_ ?_; exact Upto.set hrb (OkVs.ints _ _) (Upto.refl _ _); clear fx)
    rw [← hH, set_set]
    exact ih (t + 1) _ (by omega) hpl
def FaP (rb kb c0 cc : Nat) (h : FH) (df : List Nat) (n : Nat) (o : Option (List Int)) (r : Rt FH) : Prop :=
  cc ≤ r.c ∧ r.df = df ∧ (∀ b, b < 256 * c0 → b ≠ rb → b ≠ kb → r.h.f b = h.f b) ∧ match o with
    | some X => r.e = .exit 2 ∧ r.v 3 = .slice (some ⟨rb, 0, none⟩) (7 * n) (7 * n) ∧ r.h.f rb = some (.cells false none (ints X)) ∧ X.length = 7 * n
    | none => r.e = .ret ∧ r.v 1 = .slice none 0 0 ∧ r.v 2 = .bool false
theorem FaP.mono {rb kb c1 cc cc' : Nat} {h h' : FH} {df : List Nat} {n : Nat} {o : Option (List Int)} {r : Rt FH} (p : FaP rb kb c1 cc' h' df n o r) (hc : cc ≤ cc') (hh : ∀ b, b < 256 * c1 → b ≠ rb → b ≠ kb → h'.f b = h.f b) : FaP rb kb c1 cc h df n o r :=
  ⟨Nat.le_trans hc p.1, p.2.1, fun b h1 h2 h3 => (p.2.2.1 b h1 h2 h3).trans (hh b h1 h2 h3), p.2.2.2⟩
theorem pow_step {B : Int} {k : Nat} (hB : 0 ≤ B) (h : (B + 200000000) * 2 ^ (k + 1) ≤ 6000000000000000) : (2 * (B + 100000000) + 200000000) * 2 ^ k ≤ 6000000000000000 ∧ B ≤ 6000000000000000 := by
  have e : (2 * (B + 100000000) + 200000000) * 2 ^ k = (B + 200000000) * 2 ^ (k + 1) := by
    rw [Int.pow_succ, Int.mul_comm (2 ^ k) 2, ← Int.mul_assoc]
    congr 1; omega
  have h1 : (0 : Int) < 2 ^ (k + 1) := Int.pow_pos (by omega)
  have h2 : (B + 200000000) * 1 ≤ (B + 200000000) * 2 ^ (k + 1) := Int.mul_le_mul_of_nonneg_left (by omega) (by omega)
  exact ⟨by omega, by omega⟩
set_option maxHeartbeats 2000000 in
theorem fa_loop (s : Value) (n : Nat) (Gl : List Int) (gb rb kb c0 : Nat) (F : Value) (m : Nat) (Fl : List Int) (df : List Nat) (hn : n ≤ 6) (hok : okAll Gl n = true) (hgb : gb < 256 * c0) (hrb : rb < 256 * c0) (hkb : kb < 256 * c0) (hne : rb ≠ kb) (hg1 : gb ≠ rb) (hg2 : gb ≠ kb) (hsb : 0 < n → blkOf s ≠ rb ∧ blkOf s ≠ kb)
    (hF : ∀ x, x ∈ Fl → ∃ k : Nat, x = k ∧ k < 4 * n) (hFb : 0 < m → blkOf F ≠ rb ∧ blkOf F ≠ kb) (hm : m ≤ 240) :
    ∀ (k i cc : Nat) (h : FH) (X : List Int) (K : List Bool) (B : Int), i + k = m → c0 ≤ cc → Holds h gb [s] → SlI h c0 s 20 n Gl → SlI h c0 F 1 m Fl → h.f rb = some (.cells false none (ints X)) → h.f kb = some (.cells false none (bools K)) → X.length = 7 * n → K.length = 4 * n → (∀ j : Nat, -B ≤ X.getD j 0 ∧ X.getD j 0 ≤ B) →
      (∀ t k : Nat, k < 3 → 0 ≤ X.getD (7 * t + 4 + k) 0 ∧ X.getD (7 * t + 4 + k) 0 ≤ 1000000) → 0 ≤ B → (B + 200000000) * 2 ^ k ≤ 6000000000000000 →
    Ans (G (f57_k57001 none) [ptrTo gb, .slice none 0 0, .bool false, .slice (some ⟨rb, 0, none⟩) (7 * n) (7 * n), .slice (some ⟨kb, 0, none⟩) (4 * n) (4 * n), F, .int .i64 m, .int .i64 i] h cc df) (FaP rb kb c0 cc h df n (fAll Gl true n (Fl.drop i) X K)) := by
  intro k
  induction k with
  | zero =>
    intro i cc h X K B hi hc hg hs sf e1 e2 hX hK xb qd hB hp
    obtain rfl : i = m := by omega
    have e : Fl.drop i = [] := List.drop_of_length_le (by have := sf.1; omega)
    rw [e]
    refine Ans.loop' (fun q r => f57_N57001) (fun q => f57_Z57001) ?_
    unfold f57_L57001
    have fx := True.intro
    refine Ans.go ?_
    clear fx
    exact Ans.exitN ⟨(by show cc ≤ cc + 1; omega), rfl, fun _ _ _ _ => rfl, rfl, rfl, e1, hX⟩
  | succ k ih =>
    intro i cc h X K B hi hc hg hs sf e1 e2 hX hK xb qd hB hp
    obtain ⟨hp1, hp2⟩ := pow_step hB hp
    have hFl := sf.1
    have l1 := sf.rdi i (by omega) (by omega)
    simp only [Int.toNat_natCast] at l1
    rw [gi_nat] at l1
    have hLi : Fl.getD i 0 = Fl[i]'(by omega) := by simp [List.getD_eq_getElem?_getD, List.getElem?_eq_getElem (by omega : i < Fl.length)]
    obtain ⟨x, hx, hx6⟩ := hF (Fl[i]'(by omega)) (List.getElem_mem _)
    rw [hLi, hx] at l1
    have hdr : Fl.drop i = (x : Int) :: Fl.drop (i + 1) := by rw [List.drop_eq_getElem_cons (by omega), hx]
    rw [hdr, fAll, fClass, Int.toNat_natCast]
    obtain ⟨H1, hH1⟩ : ∃ H1, HeapC.set h kb (.cells false none (bools (K.set x true))) = H1 := ⟨_, rfl⟩
    have w1 : stN h 1 (.pointer (some ⟨kb, x, none⟩)) (.bool true) = some H1 := by
      rw [st1_get (show HeapC.get h kb = _ from e2) (by simp [bools]; omega) rfl rfl, bools_set, hH1]
    obtain ⟨lb, hlb⟩ : ∃ lb, 256 * (cc + 1 + 1 + 1) + 1 = lb := ⟨_, rfl⟩
    obtain ⟨H2, hH2⟩ : ∃ H2, newB H1 lb [.int .i64 x] = H2 := ⟨_, rfl⟩
    have f1 : ∀ b, b ≠ kb → b ≠ lb → H2.f b = h.f b := fun b h1 h2 => by rw [← hH2, newB_f, if_neg h2, ← hH1, set_f, if_neg h1]
    have fk : H2.f kb = some (.cells false none (bools (K.set x true))) := by rw [← hH2, newB_f, if_neg (by omega), ← hH1, set_f, if_pos rfl]
    have fl : H2.f lb = some (.cells false none [.int .i64 x]) := by rw [← hH2, newB_f, if_pos rfl]
    have hbl : bldL [.int .i64 0] [(0, 1, .int .i64 (x : Int))] = some [.int .i64 x] := rfl
    have ag : AppG cc H2 (cc + 1 + 1 + 1 + 1 + 1 + 1) (.slice (some ⟨lb, 0, none⟩) 1 1) 1 (ints (zs [x])) := ⟨rfl, by omega, rfl, lb, none, rfl, by omega, by omega, fl, .inl rfl⟩
    have ok0 := FOk.start (first := x) hX hK hx6 hB xb qd
    have fF : 0 < m → H2.f (blkOf F) = h.f (blkOf F) := fun hp => f1 _ (hFb hp).2 (by have := sf.blk hp; omega)
    obtain ⟨⟨re, rv, rh, rc, rd⟩, hr, p1, p2, p3, p4⟩ := fq_loop s n Gl gb rb kb cc (.slice none 0 0) (.bool false) F (.int .i64 m) (.int .i64 i) df (by omega) hok (by omega) (by omega) (by omega) hne hg1 hg2 hsb (4 * n) 0 (cc + 1 + 1 + 1 + 1 + 1 + 1) H2 (.slice (some ⟨lb, 0, none⟩) 1 1) ⟨X, K.set x true, [x], 0⟩ B (by omega) (by omega) (by omega) (hg.eqf (f1 gb hg2 (by omega))) ((hs.keep fun hp => f1 _ (hsb hp).2 (by have := hs.blk hp; omega)).mono hc) (by rw [f1 rb hne (by omega), e1]) fk ag ok0 hB (by omega)
    simp only [Int.ofNat_eq_natCast, Int.cast_ofNat_Int] at hr
    simp only at p1 p2 p3
    subst p2
    cases hQ : fQ Gl true (4 * n) 0 ⟨X, K.set x true, [x], 0⟩ with
    | none =>
      rw [hQ] at p4
      obtain ⟨p4, p5, p6⟩ := p4
      simp only at p4
      subst p4
      refine Ans.loop' (fun q r => f57_N57001) (fun q => f57_Z57001) ?_
      unfold f57_L57001
      have fx := And.intro sf.ixs1 (And.intro l1 (And.intro w1 (And.intro hlb (And.intro hbl (And.intro hH2 hr)))))
      refine Ans.go ?_
      clear fx
      exact Ans.retN ⟨(by show cc ≤ rc; omega), rfl, fun b h1 h2 h3 => by
        show rh.f b = h.f b
        rw [p3 b (by omega) h2 h3, f1 b h3 (by omega)], rfl, p5, p6⟩
    | some S1 =>
      rw [hQ] at p4
      obtain ⟨p4, v, j, p5, p6, p7, p8⟩ := p4
      simp only at p4 p5 p6 p7 p8
      subst p4 p5
      have o1 := (fQ_ok hok hs.1 ok0 hB hQ).mono (B' := B + 100000000) (by omega)
      have bv := p8.blk
      have lv := p8.sl.len
      have hself : HeapC.set rh rb (.cells false none (ints S1.X)) = rh := by
        apply FH.ext; intro b
        rw [set_f]
        split
        · rename_i e; rw [e, p6]
        · rfl
      have hfs := Ans.eq (fs_loop rh n rb (rc + 1) (ptrTo gb) (.slice none 0 0) (.bool false) (.slice (some ⟨kb, 0, none⟩) (4 * n) (4 * n)) F (.int .i64 m) (.int .i64 i) v S1.Q S1.m (B + 100000000) rd (by omega) (by omega) (p8.sl.mono (by omega)) (by omega) (OkV.ptrTo (by omega)) (by simp) (by simp) (OkV.sl (by omega)) ((sf.mono (by omega)).okV) (by simp) (by simp) o1.nd (fun w hw => (o1.qk w hw).1) o1.ql ⟨o1.mb.1, by have := o1.mb.2; omega⟩ (by omega) S1.Q.length 0 S1.X (by omega) o1.xl (fun w _ => o1.xb _))
      rw [hself, List.drop_zero] at hfs
      simp only [Int.ofNat_eq_natCast, Int.cast_ofNat_Int] at hfs
      have fin : ∀ b, b < 256 * c0 → b ≠ rb → b ≠ kb → (HeapC.set rh rb (.cells false none (ints (subQ S1.m S1.Q S1.X)))).f b = h.f b := fun b h1 h2 h3 => by
        rw [set_f, if_neg h2, p3 b (by omega) h2 h3, f1 b h3 (by omega)]
      refine Ans.loop' (fun q r => f57_N57001) (fun q => f57_Z57001) ?_
      unfold f57_L57001
      have fx := And.intro sf.ixs1 (And.intro l1 (And.intro w1 (And.intro hlb (And.intro hbl (And.intro hH2 (And.intro hr (And.intro lv hfs)))))))
      refine Ans.go ?_
      clear fx
      refine Ans.nextN ?_
      refine (ih (i + 1) (rc + 1 + 1) _ (subQ S1.m S1.Q S1.X) S1.K (2 * (B + 100000000)) (by omega) (by omega) (hg.eqf (fin gb hgb hg1 hg2)) (hs.keep fun hp => fin _ (hs.blk hp) (hsb hp).1 (hsb hp).2) (sf.keep fun hp => fin _ (sf.blk hp) (hFb hp).1 (hFb hp).2) (by rw [set_f, if_pos rfl]) (by rw [set_f, if_neg (Ne.symm hne), p7]) (by rw [subQ_length]; exact o1.xl) o1.kl (fun j => subQ_bound o1 j) (fun t k hk => by rw [subQ_quad o1 t k hk]; exact o1.qd t k hk) (by omega) hp1).mono fun r p => p.mono (by omega) fin
end Go.Proofs.Ytcnndelmnobigaa

namespace Go.Proofs.Ytcnndelmnobigaa
open Go Go.Ab Go.Proofs
set_option maxRecDepth 100000
set_option linter.unusedVariables false
set_option linter.unusedSimpArgs false
def fill0 (Qd : List Int) (n : Nat) : List Int := pqK Qd n 0 (List.replicate (7 * n) 0)
def fillX (Gl : List Int) (n : Nat) (Qd : List Int) : Option (List Int) := fAll Gl true n (vxF Gl n) (fill0 Qd n) (List.replicate (4 * n) false)
theorem rep_getD (n j : Nat) : (List.replicate n (0 : Int)).getD j 0 = 0 := by
  simp only [List.getD_eq_getElem?_getD, List.getElem?_replicate]
  split <;> rfl
theorem fill0_length {Qd : List Int} {n : Nat} (hq : Qd.length = 3 * n) : (fill0 Qd n).length = 7 * n := pqK_length hq (by omega) (by simp)
theorem fill0_quad {Qd : List Int} {n : Nat} (hq : Qd.length = 3 * n) (u k : Nat) (hk : k < 3) : (fill0 Qd n).getD (7 * u + 4 + k) 0 = if u < n then Qd.getD (3 * u + k) 0 else 0 := by
  unfold fill0
  rw [pqK_quad hq (by omega) (by simp) u k hk, rep_getD]
  by_cases h : u < n
  · rw [if_pos h, if_pos (by omega)]
  · rw [if_neg h, if_neg (by omega)]
theorem fill0_tri {Qd : List Int} {n : Nat} (hq : Qd.length = 3 * n) (u i : Nat) (hi : i < 4) : (fill0 Qd n).getD (7 * u + i) 0 = 0 := by
  unfold fill0
  rw [pqK_tri hq (by omega) (by simp) u i hi, rep_getD]
theorem fill0_bound {Qd : List Int} {n : Nat} (hq : Qd.length = 3 * n) (hb : ∀ j, 0 ≤ gi Qd j ∧ gi Qd j ≤ 1000000) (j : Nat) : 0 ≤ (fill0 Qd n).getD j 0 ∧ (fill0 Qd n).getD j 0 ≤ 1000000 := by
  by_cases h : j % 7 < 4
  · have := fill0_tri hq (j / 7) (j % 7) h
    rw [show 7 * (j / 7) + j % 7 = j by omega] at this
    omega
  · have := fill0_quad hq (j / 7) (j % 7 - 4) (by omega)
    rw [show 7 * (j / 7) + 4 + (j % 7 - 4) = j by omega] at this
    rw [this]
    split
    · have := hb ((3 * (j / 7) + (j % 7 - 4) : Nat) : Int)
      rwa [gi_nat] at this
    · omega
theorem pow24 {m : Nat} (h : m ≤ 24) : (1000000 + 200000000 : Int) * 2 ^ m ≤ 6000000000000000 := by
  have h1 : 2 ^ m ≤ 2 ^ 24 := Nat.pow_le_pow_right (by omega) h
  have h2 : ((2 ^ m : Nat) : Int) ≤ 16777216 := by omega
  rw [Int.natCast_pow] at h2
  have e : ((2 : Nat) : Int) ^ m = 2 ^ m := rfl
  rw [e] at h2
  omega
set_option maxHeartbeats 2000000 in
theorem filled_sp (s q : Value) (n : Nat) (Gl Qd : List Int) (h : FH) (c : Nat) (df : List Nat) (hs : SlI h c s 20 n Gl) (hok : okAll Gl n = true) (hn : n ≤ 6) (hq : SlI h c q 1 (3 * n) Qd) (hx : SlX h q 1 (3 * n)) (hb : ∀ j, 0 ≤ gi Qd j ∧ gi Qd j ≤ 1000000) :
    Ans (G (.fn 57) [.agg #[s], q] h c df) fun r => r.e = .ret ∧ r.df = [] ∧ c ≤ r.c ∧ Same c h r.h ∧ match fillX Gl n Qd with
      | none => r.vs = [.tuple #[.slice none 0 0, .bool false]]
      | some X => ∃ rb, r.vs = [.tuple #[.slice (some ⟨rb, 0, none⟩) (7 * n) (7 * n), .bool (withinB X)]] ∧ X.length = 7 * n ∧ rb < 256 * r.c ∧ r.h.f rb = some (.cells false none (ints X)) := by
  refine Ans.call' (fun r e => f57_go e) ?_
  unfold f57_S
  rw [flat1 hs.flat, cell1, Nat.add_zero]
  simp only [cond_true]
  have hQl : Qd.length = 3 * n := hq.1.trans (Nat.mul_one _)
  obtain ⟨rb, hrb⟩ : ∃ rb, 256 * (c + 1 + 1) + 2 = rb := ⟨_, rfl⟩
  obtain ⟨H0, hH0⟩ : ∃ H0, newB h (256 * c) [s] = H0 := ⟨_, rfl⟩
  have s0 : Same c h H0 := by rw [← hH0]; simp (disch := omega)
  have g0 : Holds H0 (256 * c) [s] := by rw [← hH0]; exact Holds.newB_same _ _ _
  have l0 : ld1 H0 (.pointer (some ⟨256 * c, 0, none⟩)) = some s := by rw [ld1_holds' g0]; rfl
  have ll := hs.len
  have mk := mkS_int 1 8 .i64 .i64 (7 * n) (by omega) (by omega)
  rw [show ((7 * n : Nat) : Int) = 7 * (n : Int) by omega] at mk
  have hqb : 0 < n → blkOf q ≠ rb := fun hp => by have := hq.blk (by omega); omega
  have hcp := Ans.eq (cp_loop H0 q n Qd rb (c + 1 + 1 + 1 + 1) (256 * c) (.int .i64 n) (.int .i64 n) [] (by omega) ((hq.same s0).mono (by omega)) (SlX.keep hq s0 hx) hqb (by omega) (by omega) (by simp) rfl n 0 (List.replicate (7 * n) 0) (by omega) (by simp))
  rw [← newB_eq_set, ← newB_eq_set, show pqK Qd n 0 (List.replicate (7 * n) 0) = fill0 Qd n from rfl] at hcp
  simp only [Int.ofNat_eq_natCast, Int.cast_ofNat_Int] at hcp
  have hXl := fill0_length hQl
  have hXb := fill0_bound hQl hb
  obtain ⟨H2, hH2⟩ : ∃ H2, newB H0 rb (ints (fill0 Qd n)) = H2 := ⟨_, rfl⟩
  rw [hH2] at hcp
  have f2 : ∀ b, b ≠ rb → H2.f b = H0.f b := fun b hb => by rw [← hH2, newB_f, if_neg hb]
  have r2 : H2.f rb = some (.cells false none (ints (fill0 Qd n))) := by rw [← hH2, newB_f, if_pos rfl]
  have s2 : Same c h H2 := fun b hb => by rw [f2 b (by omega), s0 b hb]
  have g2 : Holds H2 (256 * c) [s] := g0.eqf (f2 _ (by omega))
  have l2 : ldN H2 1 (.pointer (some ⟨256 * c, 0, none⟩)) = some (.agg #[s]) := ldN1_own g2
  obtain ⟨⟨re, rv, H3, k1, rd⟩, hr, r1, r2', r3, r4, vs, vu, es, eu, rfl, b1, b2, b3, b4, u1, u2⟩ := classes_sp s n Gl H2 (c + 1 + 1 + 1 + 1 + 1) [] ((hs.same s2).mono (by omega)) hok (by omega)
  simp only at r1 r2' r3 r4 b1 b2 b3 b4 u1 u2
  subst r1 r2'
  have cc := callF_of hr
  obtain ⟨kb, hkb⟩ : ∃ kb, 256 * k1 + 2 = kb := ⟨_, rfl⟩
  have mb := mkS_bool 1 1 .i64 .i64 (4 * n) (by omega) (by omega)
  rw [show ((4 * n : Nat) : Int) = 4 * (n : Int) by omega] at mb
  obtain ⟨H4, hH4⟩ : ∃ H4, newB H3 kb (bools (List.replicate (4 * n) false)) = H4 := ⟨_, rfl⟩
  have f4 : ∀ b, b ≠ kb → H4.f b = H3.f b := fun b hb => by rw [← hH4, newB_f, if_neg hb]
  have k4 : H4.f kb = some (.cells false none (bools (List.replicate (4 * n) false))) := by rw [← hH4, newB_f, if_pos rfl]
  have u4 : Uf H4 vs vu (4 * n) (vCl n (allM Gl n)) := u1.keep (f4 _ (by omega)) (f4 _ (by omega))
  obtain ⟨⟨re, rv, H5, k5, rd⟩, hr5, F, g1, g3, g4, g5⟩ := firsts_sp vs vu (4 * n) _ H4 (k1 + 1 + 1) [] u4 (by omega) (by omega)
  obtain ⟨rfl, rfl, -, -, rfl⟩ := Rt.mk.inj g1
  simp only at g3 g4 g5
  have cf : callF G 45 [.pointer (some ⟨vs, 0, none⟩)] H4 (k1 + 1 + 1) = some (F, H5, k5) := callF_of hr5
  rw [show firstsL (vCl n (allM Gl n)) (4 * n) = vxF Gl n from rfl] at g5
  have lf := g5.sl.len
  have hFl : (vxF Gl n).length ≤ 4 * n := firstsL_len _ _
  have s35 : ∀ b, b < 256 * k1 → H5.f b = H3.f b := fun b hb => by rw [g4 b (by omega), f4 b (by omega)]
  have s5 : ∀ b, b < 256 * (c + 5) → H5.f b = H2.f b := fun b hb => by rw [s35 b (by omega), r4 b (by omega)]
  have hnb : 0 < (vxF Gl n).length → blkOf F ≠ rb ∧ blkOf F ≠ kb := fun hp => by
    obtain ⟨z1, z2, ⟨rfl, z3⟩ | ⟨i, rfl, z3, z4, z5⟩⟩ := g5
    · omega
    · rw [blkOf_sl]; exact ⟨by omega, by omega⟩
  obtain ⟨⟨re, rv, H6, k6, rd⟩, hr6, p1, p2, p3, p4⟩ := fa_loop s n Gl (256 * c) rb kb k5 F (vxF Gl n).length (vxF Gl n) [] hn hok (by omega) (by omega) (by omega) (by omega) (by omega) (by omega) (fun hp => by have := hs.blk hp; exact ⟨by omega, by omega⟩)
    (fun x hx => by obtain ⟨k, h1, h2, _⟩ := vxF_mem hx; exact ⟨k, h1, h2⟩) hnb (by omega) (vxF Gl n).length 0 k5 H5 (fill0 Qd n) (List.replicate (4 * n) false) 1000000 (by omega) (by omega) (g2.eqf (s5 _ (by omega))) ((hs.keep fun hp => by rw [s5 _ (by have := hs.blk hp; omega), s2 _ (hs.blk hp)]).mono (by omega)) g5.sl (by rw [s5 _ (by omega), r2]) (by rw [g4 _ (by omega), k4]) hXl (by simp) (fun j => by have := hXb j; omega) (fun t k _ => hXb _) (by omega) (pow24 (by omega))
  rw [List.drop_zero, show fAll Gl true n (vxF Gl n) (fill0 Qd n) (List.replicate (4 * n) false) = fillX Gl n Qd from rfl] at p4
  simp only [Int.ofNat_eq_natCast, Int.cast_ofNat_Int] at hr6
  simp only at p1 p2 p3
  subst p2
  have s6 : Same c h H6 := fun b hb => by rw [p3 b (by omega) (by omega) (by omega), s5 b (by omega), s2 b hb]
  cases hF : fillX Gl n Qd with
  | none =>
    rw [hF] at p4
    obtain ⟨p4, p5, p6⟩ := p4
    simp only at p4
    subst p4
    have fx := And.intro l0 (And.intro ll (And.intro mk (And.intro hrb (And.intro hH0 (And.intro hcp (And.intro l2 (And.intro cc (And.intro hkb (And.intro mb (And.intro hH4 (And.intro cf (And.intro lf hr6))))))))))))
    refine Ans.go ?_
    clear fx
    rw [p5, p6]
    exact .done ⟨rfl, rfl, (by show c ≤ k6; omega), s6, rfl⟩
  | some X =>
    rw [hF] at p4
    obtain ⟨p4, p5, p6, p7⟩ := p4
    simp only at p4 p6 p7
    subst p4
    have cw := callF_of (within_sp (.slice (some ⟨rb, 0, none⟩) (7 * n) (7 * n)) (7 * n) X H6 (k6 + 1) [] (own_sl p6 p7 (by omega) (by omega)) (by omega))
    have fx := And.intro l0 (And.intro ll (And.intro mk (And.intro hrb (And.intro hH0 (And.intro hcp (And.intro l2 (And.intro cc (And.intro hkb (And.intro mb (And.intro hH4 (And.intro cf (And.intro lf (And.intro hr6 (And.intro p5 cw))))))))))))))
    refine Ans.go ?_
    clear fx
    exact .done ⟨rfl, rfl, (by show c ≤ k6 + 1; omega), s6, rb, (by show [Value.tuple #[Rt.v _ 3, _]] = _; rw [p5]), p7, (by show rb < 256 * (k6 + 1); omega), p6⟩
def q3 (Qd : List Int) (t : Nat) : List Int := (Qd.drop (3 * t)).take 3
theorem q3_loop (q : Value) (n : Nat) (Qd : List Int) (gb c : Nat) (h : FH) (df : List Nat) (hn : n ≤ 60) (hq : SlI h c q 1 (3 * n) Qd) (hx : SlX h q 1 (3 * n)) (hgb : gb < 256 * c) :
    ∀ (k t : Nat), t + k = n → Ans (G (f25_k25000 none) [q, ptrTo gb, .slice none 0 0, .int .i64 0, .int .i64 n, .int .i64 t] h c df) fun r => r.h = h ∧ r.c = c ∧ r.df = df ∧
      ((r.e = .exit 0 ∧ r.vs = [q, ptrTo gb, .slice none 0 0, .int .i64 0, .int .i64 n, .int .i64 n] ∧ ∀ u, t ≤ u → u < n → areQ (q3 Qd u) = true) ∨
       (r.e = .ret ∧ (∃ j, r.vs = [q, ptrTo gb, .slice none 0 0, .int .i64 1, .int .i64 n, j]) ∧ ∃ u, u < n ∧ areQ (q3 Qd u) = false)) := by
  intro k
  have oq := hq.okV
  induction k with
  | zero =>
    intro t ht
    obtain rfl : t = n := by omega
    refine Ans.loop (fun q r => f25_N25000) (fun q => f25_Z25000) ?_
    unfold f25_L25000
    have fx := True.intro
    refine Ans.go ?_
    clear fx
    (have fx := And.intro oq hgb; refine Ans.ex0 ?_; clear fx)
    exact ⟨rfl, rfl, rfl, .inl ⟨rfl, rfl, fun u h1 h2 => by omega⟩⟩
  | succ k ih =>
    intro t ht
    have s2 := SlX.sub hq hx .i64 .i64 (3 * (t : Int)) (3 * (t : Int) + 3) (by omega) (by omega) (by omega) (by omega)
    rw [show (3 * (t : Int)).toNat = 3 * t by omega, show (3 * (t : Int) + 3).toNat = 3 * t + 3 by omega] at s2
    have s3 := hq.sub (3 * t) (3 * t + 3) (by omega) (by omega) (by omega)
    simp only [Nat.mul_one] at s3
    rw [show (3 * t + 3 - 3 * t) = 3 by omega, show (Qd.drop (3 * t)).take 3 = q3 Qd t from rfl] at s3
    have ca := fun c' (hc : c ≤ c') => callF_of (areQ_sp (subS 1 (3 * t) (3 * t + 3) q) 3 (q3 Qd t) h c' [] (s3.mono hc) (by omega))
    cases hQ : areQ (q3 Qd t) with
    | true =>
      rw [hQ] at ca
      refine Ans.loop (fun q r => f25_N25000) (fun q => f25_Z25000) ?_
      unfold f25_L25000
      have fx := And.intro s2 ca
      refine Ans.go ?_
      clear fx
      (have fx := And.intro oq hgb; refine Ans.nx0 ?_; clear fx)
      refine (ih (t + 1) (by omega)).mono ?_
      rintro r ⟨r1, r2, r3, r4⟩
      refine ⟨r1, r2, r3, r4.imp ?_ id⟩
      rintro ⟨a, b, d⟩
      refine ⟨a, b, fun u h1 h2 => ?_⟩
      by_cases e : u = t
      · rw [e]; exact hQ
      · exact d u (by omega) h2
    | false =>
      rw [hQ] at ca
      refine Ans.loop (fun q r => f25_N25000) (fun q => f25_Z25000) ?_
      unfold f25_L25000
      have fx := And.intro s2 ca
      refine Ans.go ?_
      clear fx
      (have fx := And.intro oq hgb; refine Ans.rt0 ?_; clear fx)
      exact ⟨rfl, rfl, rfl, .inr ⟨rfl, ⟨_, rfl⟩, t, by omega, hQ⟩⟩
def qOk (Qd : List Int) (n : Nat) : Bool := decide (Qd.length = 3 * n) && withinB Qd && (List.range n).all fun t => areQ (q3 Qd t)
def fillE (Gl : List Int) (n : Nat) (Qd : List Int) : Int :=
  if refE Gl n = 0 then (if qOk Qd n = true then (match fillX Gl n Qd with | some X => if withinB X = true then 0 else 3 | none => 3) else 1) else refE Gl n
set_option maxHeartbeats 2000000 in
theorem fill_sp (s q : Value) (n nq : Nat) (Gl Qd : List Int) (h : FH) (c : Nat) (df : List Nat) (hs : SlI h c s 20 n Gl) (hn : n ≤ 6) (hq : SlI h c q 1 nq Qd) (hx : SlX h q 1 nq) (hnq : nq ≤ 1000000) :
    Ans (G (.fn 25) [.agg #[s], q] h c df) fun r => r.e = .ret ∧ r.df = [] ∧ c ≤ r.c ∧ Same c h r.h ∧
      ((fillE Gl n Qd ≠ 0 ∧ r.vs = [.tuple #[.slice none 0 0, .int .i64 (fillE Gl n Qd)]]) ∨
       (fillE Gl n Qd = 0 ∧ ∃ rb X, fillX Gl n Qd = some X ∧ r.vs = [.tuple #[.slice (some ⟨rb, 0, none⟩) (7 * n) (7 * n), .int .i64 0]] ∧ X.length = 7 * n ∧ rb < 256 * r.c ∧ r.h.f rb = some (.cells false none (ints X)))) := by
  refine Ans.call' (fun r e => f25_go e) ?_
  unfold f25_S
  rw [flat1 hs.flat, cell1, Nat.add_zero]
  simp only [cond_true]
  have hQl : Qd.length = nq := hq.1.trans (Nat.mul_one _)
  obtain ⟨H, hH⟩ : ∃ H, newB h (256 * c) [s] = H := ⟨_, rfl⟩
  have sH : Same c h H := by rw [← hH]; simp (disch := omega)
  have hg : Holds H (256 * c) [s] := by rw [← hH]; exact Holds.newB_same _ _ _
  have l0 : ldN H 1 (.pointer (some ⟨256 * c, 0, none⟩)) = some (.agg #[s]) := ldN1_own hg
  have l1 : ld1 H (.pointer (some ⟨256 * c, 0, none⟩)) = some s := by rw [ld1_holds' hg]; rfl
  have ll := hs.len
  have lq := hq.len
  have cr := fun c' (hc : c ≤ c') => callF_of (refused_sp s n Gl H c' [] ((hs.same sH).mono hc))
  have cw := fun c' (hc : c ≤ c') => callF_of (within_sp q nq Qd H c' [] ((hq.same sH).mono hc) (by omega))
  unfold fillE
  by_cases h0 : refE Gl n = 0
  case neg =>
    rw [if_neg h0]
    obtain ⟨E, hE⟩ : ∃ E, refE Gl n = E := ⟨_, rfl⟩
    rw [hE] at cr h0 ⊢
    have fx := And.intro hH (And.intro l0 cr)
    refine Ans.go ?_
    clear fx
    exact .done ⟨rfl, rfl, (by show c ≤ c + 1 + 1 + 1 + 1; omega), sH, .inl ⟨h0, rfl⟩⟩
  obtain ⟨hn6, hok⟩ := refE_zero h0
  rw [if_pos h0]
  rw [h0] at cr
  clear h0
  by_cases e1 : nq = 3 * n
  case neg =>
    have hz : qOk Qd n = false := by
      unfold qOk
      rw [decide_eq_false (by omega)]; rfl
    rw [hz, if_neg (by simp)]
    have e1' : ¬ (nq : Int) = 3 * (n : Int) := by omega
    have fx := And.intro hH (And.intro l0 (And.intro cr (And.intro lq (And.intro l1 ll))))
    refine Ans.go ?_
    clear fx
    exact .done ⟨rfl, rfl, (by show c ≤ c + 1 + 1 + 1 + 1 + 1; omega), sH, .inl ⟨by decide, rfl⟩⟩
  subst e1
  cases hw : withinB Qd with
  | false =>
    have hz : qOk Qd n = false := by
      unfold qOk
      rw [hw]; simp
    rw [hz, if_neg (by simp)]
    rw [hw] at cw
    have e1' : ((3 * n : Nat) : Int) = 3 * (n : Int) := by omega
    have fx := And.intro hH (And.intro l0 (And.intro cr (And.intro lq (And.intro l1 (And.intro ll cw)))))
    refine Ans.go ?_
    clear fx
    exact .done ⟨rfl, rfl, (by show c ≤ c + 1 + 1 + 1 + 1 + 1; omega), sH, .inl ⟨by decide, rfl⟩⟩
  | true =>
    rw [hw] at cw
    have hb := withinI hw
    have hx' := SlX.keep hq sH hx
    have e1' : ((3 * n : Nat) : Int) = 3 * (n : Int) := by omega
    obtain ⟨⟨re, rv, rh, rc, rd⟩, hr, r1, r2, r3, r4⟩ := q3_loop q n Qd (256 * c) (c + 1 + 1 + 1 + 1 + 1) H [] (by omega) ((hq.same sH).mono (by omega)) hx' (by omega) n 0 (by omega)
    simp only at r1 r2 r3 r4
    subst r1 r2 r3
    simp only [Int.ofNat_eq_natCast, Int.cast_ofNat_Int] at hr
    rcases r4 with ⟨rfl, rfl, r5⟩ | ⟨rfl, ⟨j, rfl⟩, u, hu, hu2⟩
    case inr =>
      have hz : qOk Qd n = false := by
        unfold qOk
        rw [Bool.and_eq_false_iff]
        right
        rw [List.all_eq_false]
        exact ⟨u, by simpa using hu, by rw [hu2]; simp⟩
      rw [hz, if_neg (by simp)]
      have fx := And.intro hH (And.intro l0 (And.intro cr (And.intro lq (And.intro l1 (And.intro ll (And.intro cw hr))))))
      refine Ans.go ?_
      clear fx
      exact .done ⟨rfl, rfl, (by show c ≤ c + 1 + 1 + 1 + 1 + 1; omega), sH, .inl ⟨by decide, rfl⟩⟩
    have hz : qOk Qd n = true := by
      unfold qOk
      rw [hw, decide_eq_true (by omega)]
      simp only [Bool.true_and, List.all_eq_true]
      exact fun t ht => r5 t (by omega) (by simpa using ht)
    rw [hz, if_pos rfl]
    obtain ⟨⟨re, rv, rh, k2, rd⟩, hr2, t1, t2, t3, t4, t5⟩ := filled_sp s q n Gl Qd rh (c + 1 + 1 + 1 + 1 + 1 + 1) [] ((hs.same sH).mono (by omega)) hok hn ((hq.same sH).mono (by omega)) hx' hb
    simp only at t1 t2 t3 t4 t5
    subst t1 t2
    cases hF : fillX Gl n Qd with
    | none =>
      rw [hF] at t5
      subst t5
      have cf := callF_of hr2
      have fx := And.intro hH (And.intro l0 (And.intro cr (And.intro lq (And.intro l1 (And.intro ll (And.intro cw (And.intro hr cf)))))))
      refine Ans.go ?_
      clear fx
      exact .done ⟨rfl, rfl, (by show c ≤ k2 + 1 + 1; omega), sH.trans (t4.mono (by omega)), .inl ⟨by decide, rfl⟩⟩
    | some X =>
      rw [hF] at t5
      obtain ⟨rb, rfl, t6, t7, t8⟩ := t5
      have cf := callF_of hr2
      cases hX : withinB X with
      | false =>
        rw [hX] at cf
        try simp only
        try rw [hX]
        have fx := And.intro hH (And.intro l0 (And.intro cr (And.intro lq (And.intro l1 (And.intro ll (And.intro cw (And.intro hr cf)))))))
        refine Ans.go ?_
        clear fx
        exact .done ⟨rfl, rfl, (by show c ≤ k2 + 1 + 1; omega), sH.trans (t4.mono (by omega)), .inl ⟨by decide, rfl⟩⟩
      | true =>
        rw [hX] at cf
        try simp only
        try rw [hX]
        have fx := And.intro hH (And.intro l0 (And.intro cr (And.intro lq (And.intro l1 (And.intro ll (And.intro cw (And.intro hr cf)))))))
        refine Ans.go ?_
        clear fx
        exact .done ⟨rfl, rfl, (by show c ≤ k2 + 1 + 1; omega), sH.trans (t4.mono (by omega)), .inr ⟨rfl, rb, X, rfl, rfl, t6, (by show rb < 256 * (k2 + 1 + 1); omega), t8⟩⟩
end Go.Proofs.Ytcnndelmnobigaa

namespace Go.Proofs.Ytcnndelmnobigaa
open Go Go.Ab Go.Proofs
set_option maxRecDepth 100000
set_option linter.unusedVariables false
set_option linter.unusedSimpArgs false
theorem flip_face {Gl : List Int} {n t f i : Nat} (hok : okAll Gl n = true) (hG : Gl.length = n * 20) (ht : t < n) (hf : f < 4) (hi : i < 4) (hne : i ≠ f) (hg : ¬ tetL (faceL Gl t f) < 0) :
    fU Gl (fU Gl t f) (fJ Gl t f f) = t ∧ ¬ tetL (faceL Gl (fU Gl t f) (fJ Gl t f f)) < 0 ∧ fJ Gl (fU Gl t f) (fJ Gl t f f) (fJ Gl t f i) = i ∧ fJ Gl (fU Gl t f) (fJ Gl t f f) (fJ Gl t f f) = f ∧ (mSkip Gl t f = true → mSkip Gl (fU Gl t f) (fJ Gl t f f) = false) := by
  have g := FGl.of hok hG ht hf hi hne hg
  obtain ⟨k1, k2, k3, k4⟩ := okFace_glued (okAll_face hok ht hf) hg
  have kp := mem24 (permL_length (faceL_length hG ht hf)) k2
  have vi := inv_at kp hi
  have vf := inv_at kp hf
  have li := len24 (inv24 kp)
  have e1 : tetL ((t : Int) :: inv (permL (faceL Gl t f))) = t := rfl
  have e2 : permL ((t : Int) :: inv (permL (faceL Gl t f))) = inv (permL (faceL Gl t f)) := by
    show List.take 4 (List.drop 1 ((t : Int) :: inv (permL (faceL Gl t f)))) = _
    rw [List.drop_succ_cons, List.drop_zero, List.take_of_length_le (by omega)]
  have k5 : faceL Gl (fU Gl t f) (fJ Gl t f f) = (t : Int) :: inv (permL (faceL Gl t f)) := k4
  have q1 : tetL (faceL Gl (fU Gl t f) (fJ Gl t f f)) = t := by rw [k5, e1]
  have q2 : (permL (faceL Gl (fU Gl t f) (fJ Gl t f f))).getD (fJ Gl t f i) 0 = i := by rw [k5, e2]; exact vi
  have q3 : (permL (faceL Gl (fU Gl t f) (fJ Gl t f f))).getD (fJ Gl t f f) 0 = f := by rw [k5, e2]; exact vf
  refine ⟨by rw [fU, q1, Int.toNat_natCast], by rw [q1]; omega, by rw [fJ, q2, Int.toNat_natCast], by rw [fJ, q3, Int.toNat_natCast], fun hs => ?_⟩
  have guz := g.uz
  have ghz := g.hz
  unfold mSkip at hs ⊢
  rw [q1, q3]
  rw [guz, ghz] at hs k3
  simp only [Bool.or_eq_true, Bool.and_eq_true, decide_eq_true_eq, Bool.or_eq_false_iff, Bool.and_eq_false_iff, decide_eq_false_iff_not] at hs ⊢
  omega
theorem glue_ind {Gl : List Int} {n : Nat} (hok : okAll Gl n = true) (hG : Gl.length = n * 20) {R : Nat → Nat → Nat → Prop}
    (h1 : ∀ t f i, t < n → f < 4 → i < 4 → i ≠ f → mSkip Gl t f = false → R t f i) (h2 : ∀ t f i, t < n → f < 4 → i < 4 → i ≠ f → ¬ tetL (faceL Gl t f) < 0 → R (fU Gl t f) (fJ Gl t f f) (fJ Gl t f i) → R t f i)
    {t f i : Nat} (ht : t < n) (hf : f < 4) (hi : i < 4) (hne : i ≠ f) (hg : ¬ tetL (faceL Gl t f) < 0) : R t f i := by
  cases hs : mSkip Gl t f with
  | false => exact h1 t f i ht hf hi hne hs
  | true =>
    have g := FGl.of hok hG ht hf hi hne hg
    obtain ⟨a, b, d, e, k⟩ := flip_face hok hG ht hf hi hne hg
    exact h2 t f i ht hf hi hne hg (h1 _ _ _ g.u g.h g.j g.ne (k hs))
theorem mSkip_glued {Gl : List Int} {t f : Nat} (h : mSkip Gl t f = false) : ¬ tetL (faceL Gl t f) < 0 := by
  unfold mSkip at h
  simp only [Bool.or_eq_false_iff, decide_eq_false_iff_not] at h
  exact h.1.1
theorem mAB {Gl : List Int} {n t f i : Nat} (g : FGl Gl n t f i) : mA (mRow Gl t f i) = 4 * t + i ∧ mB (mRow Gl t f i) = fV Gl t f i := by
  constructor
  · show (4 * (t : Int) + i).toNat = _
    omega
  · show (4 * tetL (faceL Gl t f) + (permL (faceL Gl t f)).getD i 0).toNat = 4 * fU Gl t f + fJ Gl t f i
    rw [g.uz, g.jz]; omega
theorem glue_root {Gl : List Int} {n t f i : Nat} (hok : okAll Gl n = true) (hG : Gl.length = n * 20) (ht : t < n) (hf : f < 4) (hi : i < 4) (hne : i ≠ f) (hg : ¬ tetL (faceL Gl t f) < 0) : rootL (vxC Gl n) (4 * t + i) = rootL (vxC Gl n) (fV Gl t f i) := by
  obtain ⟨hd, hs⟩ := vx_fold hok hG
  refine glue_ind (R := fun t f i => rootL (vxC Gl n) (4 * t + i) = rootL (vxC Gl n) (fV Gl t f i)) hok hG (fun t f i ht hf hi hne hm => ?_) (fun t f i ht hf hi hne hg h => ?_) ht hf hi hne hg
  · have := hs _ (allM_mem ht hf hi hne hm)
    have e := mAB (FGl.of hok hG ht hf hi hne (mSkip_glued hm))
    rw [e.1, e.2] at this
    exact this
  · obtain ⟨a, b, d, e, k⟩ := flip_face hok hG ht hf hi hne hg
    unfold fV at h ⊢
    rw [a, d] at h
    exact h.symm
theorem glue_arc {Gl V : List Int} {n t f i : Nat} (hok : okAll Gl n = true) (hG : Gl.length = n * 20) (hV : ((allM Gl n).all fun m => eqM V m) = true) (ht : t < n) (hf : f < 4) (hi : i < 4) (hne : i ≠ f) (hg : ¬ tetL (faceL Gl t f) < 0) :
    arcV V t f i = arcV V (fU Gl t f) (fJ Gl t f f) (fJ Gl t f i) := by
  refine glue_ind (R := fun t f i => arcV V t f i = arcV V (fU Gl t f) (fJ Gl t f f) (fJ Gl t f i)) hok hG (fun t f i ht hf hi hne hm => ?_) (fun t f i ht hf hi hne hg h => ?_) ht hf hi hne hg
  · have := List.all_eq_true.1 hV _ (allM_mem ht hf hi hne hm)
    have g := FGl.of hok hG ht hf hi hne (mSkip_glued hm)
    unfold eqM at this
    rw [decide_eq_true_eq] at this
    have e : arcV V (t : Int) f i = arcV V (tetL (faceL Gl t f)) ((permL (faceL Gl t f)).getD f 0) ((permL (faceL Gl t f)).getD i 0) := this
    rw [g.uz, g.hz, g.jz] at e
    exact e
  · obtain ⟨a, b, d, e, k⟩ := flip_face hok hG ht hf hi hne hg
    rw [a, d, e] at h
    exact h.symm
theorem arc_glue {Gl V : List Int} {n : Nat} (hok : okAll Gl n = true) (hG : Gl.length = n * 20) (h : ∀ t f i, t < n → f < 4 → i < 4 → i ≠ f → ¬ tetL (faceL Gl t f) < 0 → arcV V t f i = arcV V (fU Gl t f) (fJ Gl t f f) (fJ Gl t f i)) :
    ((allM Gl n).all fun m => eqM V m) = true := by
  refine List.all_eq_true.2 fun m hm => ?_
  obtain ⟨t, f, i, ht, hf, hi, hne, hsk, rfl⟩ := mem_allM hm
  have g := FGl.of hok hG ht hf hi hne (mSkip_glued hsk)
  unfold eqM
  rw [decide_eq_true_eq]
  show arcV V (t : Int) f i = arcV V (tetL (faceL Gl t f)) ((permL (faceL Gl t f)).getD f 0) ((permL (faceL Gl t f)).getD i 0)
  rw [g.uz, g.hz, g.jz]
  exact h t f i ht hf hi hne (mSkip_glued hsk)
theorem rootL_start {m k : Nat} (h : k < m) : rootL (startL m) k = k := rootL_self (startL_getD h)
theorem fold_const {m : Nat} (S : Nat → Prop) : ∀ (D : List (List Int)) (L : List Int), Down L m → (∀ M, M ∈ D → mA M < m ∧ mB M < m ∧ (S (mA M) ↔ S (mB M))) → (∀ a b, a < m → b < m → rootL L a = rootL L b → (S a ↔ S b)) →
    ∀ a b, a < m → b < m → rootL (D.foldl vStep L) a = rootL (D.foldl vStep L) b → (S a ↔ S b)
  | [], L, _, _, h => h
  | M :: D, L, hd, hg, h => by
    obtain ⟨g1, g2, g3⟩ := hg M (by simp)
    refine fold_const S D (vStep L M) (joinL_down hd g1 g2) (fun N hN => hg N (by simp [hN])) fun a b ha hb e => ?_
    have r1 := rootL_join hd g1 g2 ha
    have r2 := rootL_join hd g1 g2 hb
    have e' : rootL (joinL L (mA M) (mB M)) a = rootL (joinL L (mA M) (mB M)) b := e
    rw [r1, r2] at e'
    have ai := h a (mA M) ha g1
    have aj := h a (mB M) ha g2
    have bi := h b (mA M) hb g1
    have bj := h b (mB M) hb g2
    have ab := h a b ha hb
    by_cases c1 : rootL L a = max (rootL L (mA M)) (rootL L (mB M)) <;> by_cases c2 : rootL L b = max (rootL L (mA M)) (rootL L (mB M))
    · exact ab (c1.trans c2.symm)
    · rw [if_pos c1, if_neg c2] at e'
      rcases Nat.le_total (rootL L (mA M)) (rootL L (mB M)) with q | q
      · exact (aj (by omega)).trans (g3.symm.trans (bi (by omega)).symm)
      · exact (ai (by omega)).trans (g3.trans (bj (by omega)).symm)
    · rw [if_neg c1, if_pos c2] at e'
      rcases Nat.le_total (rootL L (mA M)) (rootL L (mB M)) with q | q
      · exact (ai (by omega)).trans (g3.trans (bj (by omega)).symm)
      · exact (aj (by omega)).trans (g3.symm.trans (bi (by omega)).symm)
    · rw [if_neg c1, if_neg c2] at e'
      exact ab e'
theorem class_const {Gl : List Int} {n : Nat} (hok : okAll Gl n = true) (hG : Gl.length = n * 20) {S : Nat → Prop} (hS : ∀ t f i, t < n → f < 4 → i < 4 → i ≠ f → ¬ tetL (faceL Gl t f) < 0 → (S (4 * t + i) ↔ S (fV Gl t f i)))
    {a b : Nat} (ha : a < 4 * n) (hb : b < 4 * n) (e : rootL (vxC Gl n) a = rootL (vxC Gl n) b) : S a ↔ S b := by
  refine fold_const (m := 4 * n) S (allM Gl n) (startL (4 * n)) (startL_down _) (fun M hM => ?_) (fun a b ha hb e => ?_) a b ha hb e
  · obtain ⟨t, f, i, ht, hf, hi, hne, hsk, rfl⟩ := mem_allM hM
    have g := FGl.of hok hG ht hf hi hne (mSkip_glued hsk)
    obtain ⟨q1, q2⟩ := mAB g
    have gu := g.u
    have gj := g.j
    rw [q1, q2]
    exact ⟨by omega, by unfold fV; omega, hS t f i ht hf hi hne (mSkip_glued hsk)⟩
  · rw [rootL_start ha, rootL_start hb] at e
    rw [e]
end Go.Proofs.Ytcnndelmnobigaa

namespace Go.Proofs.Ytcnndelmnobigaa
open Go Go.Ab Go.Proofs
set_option maxRecDepth 100000
set_option linter.unusedVariables false
set_option linter.unusedSimpArgs false
def quL (V : List Int) : Nat → Nat → List Int
  | 0, _ => []
  | k + 1, t => quadAt V t ++ quL V k (t + 1)
theorem quads_loop (v : Value) (n nv : Nat) (V : List Int) (c0 : Nat) (hnv : nv = 7 * n) (hn : n ≤ 60) (df : List Nat) :
    ∀ (k t c : Nat) (h : FH) (out : Value) (X : List Int), t + k = n → c0 ≤ c → SlI h c0 v 1 nv V → SlX h v 1 nv → AppG c0 h c out (3 * t) (ints X) →
    Ans (G (f54_k54000 none) [v, out, .int .i64 n, .int .i64 t] h c df) fun r => r.e = .exit 0 ∧ c ≤ r.c ∧ r.df = df ∧ Same c0 h r.h ∧ AppG c0 r.h r.c (r.v 1) (3 * n) (ints (X ++ quL V k t)) := by
  intro k
  induction k with
  | zero =>
    intro t c h out X ht hc hs hx ha
    obtain rfl : t = n := by omega
    refine Ans.loop' (fun q r => f54_N54000) (fun q => f54_Z54000) ?_
    unfold f54_L54000
    have fx := True.intro
    refine Ans.go ?_
    clear fx
    refine Ans.exitN ⟨rfl, (by show c ≤ c + 1; omega), rfl, fun _ _ => rfl, ?_⟩
    rw [quL, List.append_nil]
    exact ha.mono (by show c ≤ c + 1; omega)
  | succ k ih =>
    intro t c h out X ht hc hs hx ha
    have x1 := SlX.sub hs hx .i64 .i64 (7 * (t : Int) + 4) (7 * (t : Int) + 7) (by omega) (by omega) (by omega) (by omega)
    rw [show (7 * (t : Int) + 4).toNat = 7 * t + 4 by omega, show (7 * (t : Int) + 7).toNat = 7 * t + 7 by omega] at x1
    have x2 := SlI.sub hs (7 * t + 4) (7 * t + 7) (by omega) (by omega) (by omega)
    rw [show 7 * t + 7 - (7 * t + 4) = 3 by omega, Nat.mul_one, Nat.mul_one, show (V.drop (7 * t + 4)).take 3 = quadAt V t from rfl] at x2
    have hq : (quadAt V t).length = 3 := x2.1
    obtain ⟨h', p1, p2, p3⟩ := (ha.mono (c' := c + 1 + 1) (by omega)).appN (c' := c + 1 + 1 + 1) (x2.slc (by omega) (by omega)) (by omega) hq 8 (256 * (c + 1 + 1) + 9) (by omega) (by omega) (by omega) (by omega)
    have bo := ha.blk
    have s0 : Same c0 h h' := fun b hb => p3 b (by omega) (by omega)
    have htn : (t : Int) < n := by omega
    refine Ans.loop' (fun q r => f54_N54000) (fun q => f54_Z54000) ?_
    unfold f54_L54000
    have fx := And.intro x1 p1
    refine Ans.go ?_
    clear fx
    refine Ans.nextN ?_
    have e : ints X ++ ints (quadAt V t) = ints (X ++ quadAt V t) := by simp [ints]
    rw [e] at p2
    refine (ih (t + 1) _ h' _ (X ++ quadAt V t) (by omega) (by omega) (hs.same s0) (SlX.keep hs s0 hx) (by rw [show 3 * (t + 1) = 3 * t + 3 by omega]; exact p2.mono (by omega))).mono ?_
    rintro r ⟨q1, q2, q3, q4, q5⟩
    refine ⟨q1, by omega, q3, s0.trans q4, ?_⟩
    rw [quL, ← List.append_assoc]
    exact q5
theorem quads_sp (s v : Value) (n nv : Nat) (Gl V : List Int) (h : FH) (c : Nat) (df : List Nat) (hs : SlI h c s 20 n Gl) (hv : SlI h c v 1 nv V) (hx : SlX h v 1 nv) (hnv : nv = 7 * n) (hn : n ≤ 60) :
    Ans (G (.fn 54) [.agg #[s], v] h c df) fun r => ∃ w, r = { e := .ret, vs := [w], h := r.h, c := r.c, df := [] } ∧ c ≤ r.c ∧ Same c h r.h ∧ AppG c r.h r.c w (3 * n) (ints (quL V n 0)) := by
  refine Ans.call' (fun r e => f54_go e) ?_
  unfold f54_S
  rw [flat1 hs.flat, cell1, Nat.add_zero]
  simp only [cond_true]
  obtain ⟨H, hH⟩ : ∃ H, newB (newB h (256 * c) [s]) (256 * (c + 1)) [] = H := ⟨_, rfl⟩
  have sH : Same c h H := by rw [← hH]; simp (disch := omega)
  have hg : Holds H (256 * c) [s] := by rw [← hH]; exact (Holds.newB_same _ _ _).newB_ne (by omega)
  have fB : H.f (256 * (c + 1)) = some (.cells false none []) := by rw [← hH, newB_f, if_pos rfl]
  have hb0 : bldL [] [] = some [] := rfl
  have l1 : ld1 H (.pointer (some ⟨256 * c, 0, none⟩)) = some s := by rw [ld1_holds' hg]; rfl
  have ls := hs.len
  obtain ⟨⟨re, rv, H2, c2, rd⟩, hr, q1, q2, q3, q4, q5⟩ := quads_loop v n nv V c hnv hn [] n 0 (c + 1 + 1 + 1) H (.slice (some ⟨256 * (c + 1), 0, none⟩) 0 0) [] (by omega) (by omega) (hv.same sH) (SlX.keep hv sH hx) ⟨rfl, by omega, rfl, 256 * (c + 1), none, rfl, by omega, by omega, fB, .inl rfl⟩
  simp only [Int.ofNat_eq_natCast, Int.cast_ofNat_Int] at hr
  simp only at q1 q2 q3 q4 q5
  subst q1 q3
  have fx := And.intro hb0 (And.intro hH (And.intro l1 (And.intro ls hr)))
  refine Ans.go ?_
  clear fx
  have g6 : AppG c H2 (c2 + 1) (Rt.v { e := Ex.exit 0, vs := rv, h := H2, c := c2, df := [] } 1) (3 * n) (ints (quL V n 0)) := by
    rw [List.nil_append] at q5
    exact q5.mono (by omega)
  exact .done ⟨_, rfl, (by show c ≤ c2 + 1; omega), sH.trans q4, g6⟩
end Go.Proofs.Ytcnndelmnobigaa

namespace Go.Proofs.Ytcnndelmnobigaa
open Go Go.Ab Go.Proofs
set_option maxRecDepth 100000
set_option linter.unusedVariables false
set_option linter.unusedSimpArgs false
theorem quadsN_sp (s v : Value) (n nv : Nat) (Gl V : List Int) (h : FH) (c : Nat) (df : List Nat) (hs : SlI h c s 20 n Gl) (hv : SlI h c v 1 nv V) (hx : SlX h v 1 nv) (hnv : nv ≤ 1000000) :
    Ans (G (.fn 24) [.agg #[s], v] h c df) fun r => r.e = .ret ∧ r.df = [] ∧ c ≤ r.c ∧ Same c h r.h ∧
      ((chkE Gl n (admB Gl n V) ≠ 0 ∧ r.vs = [.tuple #[.slice none 0 0, .int .i64 (chkE Gl n (admB Gl n V))]]) ∨
       (chkE Gl n (admB Gl n V) = 0 ∧ ∃ w, r.vs = [.tuple #[w, .int .i64 0]] ∧ AppG c r.h r.c w (3 * n) (ints (quL V n 0)))) := by
  refine Ans.call' (fun r e => f24_go e) ?_
  unfold f24_S
  rw [flat1 hs.flat, cell1, Nat.add_zero]
  simp only [cond_true]
  have hbl := bldL_v hv
  obtain ⟨H, hH⟩ : ∃ H, H = newB (newB h (256 * c) [s]) (256 * (c + 1) + 2) [v] := ⟨_, rfl⟩
  have sH : Same c h H := by rw [hH]; simp (disch := omega)
  have hg : Holds H (256 * c) [s] := by rw [hH]; exact (Holds.newB_same _ _ _).newB_ne (by omega)
  have hq : Holds H (256 * (c + 1) + 2) [v] := by rw [hH]; exact Holds.newB_same _ _ _
  have l0 : ldN (newB h (256 * c) [s]) 1 (.pointer (some ⟨256 * c, 0, none⟩)) = some (.agg #[s]) := ldN1_own (Holds.newB_same _ _ _)
  have l1 := ldN1_own hg
  have c1 := check1 s v n nv Gl V (256 * (c + 1) + 2) H (c + 1 + 1) ((hs.same sH).mono (by omega)) ((hv.same sH).mono (by omega)) (SlX.keep hv sH hx) hnv (by omega) hq
  have hH' := hH.symm
  obtain ⟨E, hE⟩ : ∃ E, chkE Gl n (admB Gl n V) = E := ⟨_, rfl⟩
  by_cases h0 : E = 0
  case neg =>
    rw [hE] at c1 ⊢
    have fx := And.intro l0 (And.intro hbl (And.intro hH' c1))
    refine Ans.go ?_
    clear fx
    exact .done ⟨rfl, rfl, (by show c ≤ c + 1 + 1 + 1 + 1; omega), sH, .inl ⟨h0, rfl⟩⟩
  have hr0 : refE Gl n = 0 ∧ admB Gl n V = true := by
    rw [h0] at hE
    unfold chkE at hE
    split at hE
    · rename_i h1
      split at hE
      · rename_i h2; exact ⟨h1, h2⟩
      · cases hE
    · rename_i h1; exact absurd hE h1
  obtain ⟨hn, hok⟩ := refE_zero hr0.1
  have ha := hr0.2
  unfold admB at ha
  simp only [Bool.and_eq_true, decide_eq_true_eq] at ha
  obtain ⟨⟨⟨a1, a2⟩, _⟩, _⟩ := ha
  rw [hE] at c1 ⊢
  obtain ⟨⟨re, rv, H2, c2, rd⟩, hr, w, q1, q2, q3, q4⟩ := quads_sp s v n nv Gl V H (c + 1 + 1 + 1 + 1) [] ((hs.same sH).mono (by omega)) ((hv.same sH).mono (by omega)) (SlX.keep hv sH hx) (by have := hv.1; omega) hn
  obtain ⟨rfl, rfl, -, -, rfl⟩ := Rt.mk.inj q1
  simp only at q2 q3 q4
  have cw := callF_of hr
  subst h0
  have fx := And.intro l0 (And.intro hbl (And.intro hH' (And.intro c1 (And.intro l1 cw))))
  refine Ans.go ?_
  clear fx
  have g6 : AppG c H2 c2 w (3 * n) (ints (quL V n 0)) := by
    obtain ⟨z1, z2, z3, i, op, z4, z5, z6, z7, z8⟩ := q4
    exact ⟨z1, z2, z3, i, op, z4, by omega, by omega, z7, z8⟩
  exact .done ⟨rfl, rfl, (by show c ≤ c2; omega), sH.trans (q3.mono (by omega)), .inr ⟨rfl, w, rfl, g6⟩⟩
end Go.Proofs.Ytcnndelmnobigaa

namespace Go.Proofs.Ytcnndelmnobigaa
open Go Go.Ab Go.Proofs
set_option maxRecDepth 100000
set_option linter.unusedVariables false
set_option linter.unusedSimpArgs false
theorem eq_nil_none (l k : Nat) : aBinOp P .eql 34 (.slice none l k) (.slice none 0 0) = some (.bool true) := by rw [aBinOp_eq]; kernel_rfl
theorem eq_nil_some (a : Addr) (l k : Nat) : aBinOp P .eql 34 (.slice (some a) l k) (.slice none 0 0) = some (.bool false) := by rw [aBinOp_eq]; kernel_rfl
theorem SlC.keep {h h' : FH} {c : Nat} {s : Value} {sz n : Nat} {L : List Int} (hs : SlI h c s sz n L) (hh : Same c h h') (hC : SlC h s sz n L) : SlC h' s sz n L := by
  obtain ⟨_, _, a, cap, rfl, hc4⟩ := hs
  cases a with
  | none => exact hC
  | some a =>
    have hb : a.block < 256 * c := by
      rcases hc4 with ⟨e0, ov⟩ | ⟨b, o, cs, e, e2, _, _⟩
      · obtain ⟨v', hv'⟩ := ov
        cases hv' with
        | sl hh' _ _ => exact nuD_dom (by rw [hh']; simp)
        | slE hh' => exact nuD_dom (by rw [hh']; simp)
      · cases e; exact e2
    have : HeapC.get h' a.block = HeapC.get h a.block := hh _ hb
    obtain ⟨b, o, p⟩ := a
    simp only at this
    cases p with
    | none => simpa only [SlC, srcCells, rdCells, getCells, this] using hC
    | some p => exact hC
theorem clone_sp (v : Value) (n : Nat) (V : List Int) (h : FH) (c : Nat) (df : List Nat) (hs : SlI h c v 1 n V) (hC : SlC h v 1 n V) (hn : n ≤ 1000000) :
    Ans (G (.fn 53) [v] h c df) fun r => ∃ w, r = { e := .ret, vs := [w], h := r.h, c := c + 1 + 1 + 1, df := [] } ∧ Same c h r.h ∧ SlI r.h r.c w 1 n V ∧ SlX r.h w 1 n ∧ SlC r.h w 1 n V ∧ (0 < n → w = .slice (some ⟨256 * (c + 1 + 1) + 2, 0, none⟩) n n ∧ r.h.f (256 * (c + 1 + 1) + 2) = some (.cells false (some 1) (ints V))) := by
  refine Ans.call' (fun r e => f53_go e) ?_
  unfold f53_S
  obtain ⟨g1, g2, a, cap, rfl, h4⟩ := hs
  cases a with
  | none =>
    have hn0 : n = 0 := by
      rcases h4 with ⟨e, _⟩ | ⟨b, o, cs, e, _⟩
      · exact e
      · cases e
    have e1 := eq_nil_none n cap
    have fx := e1
    refine Ans.go ?_
    clear fx
    subst hn0
    obtain rfl : V = [] := List.eq_nil_of_length_eq_zero (by omega)
    exact .done ⟨_, rfl, fun _ _ => rfl, ⟨g1, by omega, none, 0, rfl, .inl ⟨rfl, OkV.sl0 _ _ _⟩⟩, ⟨Nat.le_refl _, rfl⟩, rfl, fun h => by omega⟩
  | some a =>
    have e1 := eq_nil_some a n cap
    have hb0 : bldL [] [] = some [] := rfl
    obtain ⟨H, hH⟩ : ∃ H, newB h (256 * (c + 1 + 1)) [] = H := ⟨_, rfl⟩
    have sH : Same (c + 1) h H := by rw [← hH]; intro b hb; rw [newB_f, if_neg (by omega)]
    have fB : H.f (256 * (c + 1 + 1)) = some (.cells false none []) := by rw [← hH, newB_f, if_pos rfl]
    have hC' := SlC.keep (c := c) ⟨g1, g2, some a, cap, rfl, h4⟩ (sH.mono (by omega)) hC
    obtain ⟨w, H2, q1, q2, q3, q4, q5, q6⟩ := app_copy (c := c + 1 + 1) (c' := c + 1 + 1 + 1) hC' g1 (by omega) 8 (256 * (c + 1 + 1)) (256 * (c + 1 + 1) + 2) fB (by omega) (by omega) (by omega) (by omega)
    have fx := And.intro e1 (And.intro hb0 (And.intro hH q1))
    refine Ans.go ?_
    clear fx
    exact .done ⟨_, rfl, fun b hb => by show H2.f b = _; rw [q5 b (by omega), sH b (by omega)], q2, q3, q4, q6⟩
end Go.Proofs.Ytcnndelmnobigaa

namespace Go.Proofs.Ytcnndelmnobigaa
open Go Go.Ab Go.Proofs
set_option maxRecDepth 100000
set_option linter.unusedVariables false
set_option linter.unusedSimpArgs false
def mnK (C V : List Int) (first : Nat) : Nat → Nat → Int → Int
  | 0, _, a => a
  | r + 1, x, a => mnK C V first r (x + 1) (if rootL C x = first then (if gi V (x / 4 * 7 + x % 4 : Nat) < a then gi V (x / 4 * 7 + x % 4 : Nat) else a) else a)
def subK (C : List Int) (first : Nat) (m : Int) : Nat → Nat → List Int → List Int
  | 0, _, X => X
  | r + 1, x, X => subK C first m r (x + 1) (if rootL C x = first then X.set (x / 4 * 7 + x % 4) (X.getD (x / 4 * 7 + x % 4) 0 - m) else X)
theorem subK_length (C : List Int) (first : Nat) (m : Int) : ∀ (r x : Nat) (X : List Int), (subK C first m r x X).length = X.length
  | 0, _, _ => rfl
  | r + 1, x, X => by
    rw [subK, subK_length]
    split
    · simp
    · rfl
theorem mnK_bound {C V : List Int} {first : Nat} (hV : ∀ j, 0 ≤ gi V j ∧ gi V j ≤ 1000000) : ∀ {r x : Nat} {a : Int}, 0 ≤ a → a ≤ 1000000 → 0 ≤ mnK C V first r x a ∧ mnK C V first r x a ≤ 1000000
  | 0, _, _, h1, h2 => ⟨h1, h2⟩
  | r + 1, x, a, h1, h2 => by
    rw [mnK]
    have := hV (x / 4 * 7 + x % 4 : Nat)
    refine mnK_bound hV ?_ ?_ <;> (split <;> (try split) <;> omega)
theorem min_loop (v : Value) (n nv : Nat) (V C : List Int) (p b c : Nat) (h : FH) (v4 v5 v33 v34 v35 : Value) (first : Nat) (hn : n ≤ 60) (hnv : nv = 7 * n) (hv : SlI h c v 1 nv V) (hV : ∀ j, 0 ≤ gi V j ∧ gi V j ≤ 1000000) (u : Uf h p b (4 * n) C) (hp : p < 256 * c) (o4 : OkV c v4) (o5 : OkV c v5) (o33 : OkV c v33) (o34 : OkV c v34) (o35 : OkV c v35) (df : List Nat) :
    ∀ (r x : Nat) (a : Int), x + r = 4 * n →
    Ans (G (f23_k23001 none) [v, v4, v5, ptrTo p, .int .i64 first, .int .i64 a, v33, v34, v35, .int .i64 (4 * n : Nat), .int .i64 x] h c df) fun q => q = { e := .exit 2, vs := [v, v4, v5, ptrTo p, .int .i64 first, .int .i64 (mnK C V first r x a), v33, v34, v35, .int .i64 (4 * n : Nat), .int .i64 (4 * n : Nat)], h := h, c := c, df := df } := by
  intro r
  have o1 := hv.okV
  induction r with
  | zero =>
    intro x a hx
    obtain rfl : x = 4 * n := by omega
    refine Ans.loop (fun q r => f23_N23001) (fun q => f23_Z23001) ?_
    unfold f23_L23001
    have fx := True.intro
    refine Ans.go ?_
    clear fx
    (have fx := And.intro o1 (And.intro o4 (And.intro o5 (And.intro o33 (And.intro o34 (And.intro o35 hp))))); refine Ans.ex0 ?_; clear fx)
    rfl
  | succ r ih =>
    intro x a hx
    have c1 : ∀ c', c ≤ c' → callF G 46 [.pointer (some ⟨p, 0, none⟩), .int .i64 x] h c' = _ := fun c' (hc : c ≤ c') => callF_of (root_sp h p b (4 * n) c' C u (by omega) x (by omega) [])
    have q1 := quo_nat x 4 (by omega) (by omega)
    have q2 := rem_nat x 4 (by omega)
    simp only [Int.ofNat_eq_natCast, Int.cast_ofNat_Int] at q1 q2
    have d1 : x / 4 ≤ n - 1 := by omega
    have d2 : x % 4 < 4 := by omega
    rw [mnK]
    obtain ⟨T, hT⟩ : ∃ T, x / 4 = T := ⟨_, rfl⟩
    obtain ⟨E, hE⟩ : ∃ E, x % 4 = E := ⟨_, rfl⟩
    rw [hT] at q1 d1 ⊢
    rw [hE] at q2 d2 ⊢
    have l1 := hv.rdi ((T : Int) * 7 + E) (by omega) (by omega)
    rw [show ((T * 7 + E : Nat) : Int) = (T : Int) * 7 + E by omega]
    have hx4 : (x : Int) < (4 * n : Nat) := by omega
    obtain ⟨R, hR⟩ : ∃ R, rootL C x = R := ⟨_, rfl⟩
    obtain ⟨Y, hY⟩ : ∃ Y, gi V ((T : Int) * 7 + E) = Y := ⟨_, rfl⟩
    rw [hR] at c1 ⊢
    rw [hY] at l1 ⊢
    have mm := min2_int .i64 a Y
    refine Ans.loop (fun q r => f23_N23001) (fun q => f23_Z23001) ?_
    unfold f23_L23001
    by_cases e : R = first
    · rw [if_pos e]
      have e' : (R : Int) = first := by omega
      have fx := And.intro c1 (And.intro q1 (And.intro q2 (And.intro hv.ixs1 (And.intro l1 mm))))
      refine Ans.go ?_
      clear fx
      (have fx := And.intro o1 (And.intro o4 (And.intro o5 (And.intro o33 (And.intro o34 (And.intro o35 hp))))); refine Ans.nx0 ?_; clear fx)
      exact ih (x + 1) _ (by omega)
    · rw [if_neg e]
      have e' : ¬ (R : Int) = first := by omega
      have fx := c1
      refine Ans.go ?_
      clear fx
      (have fx := And.intro o1 (And.intro o4 (And.intro o5 (And.intro o33 (And.intro o34 (And.intro o35 hp))))); refine Ans.nx0 ?_; clear fx)
      exact ih (x + 1) a (by omega)
end Go.Proofs.Ytcnndelmnobigaa

namespace Go.Proofs.Ytcnndelmnobigaa
open Go Go.Ab Go.Proofs
set_option maxRecDepth 100000
set_option linter.unusedVariables false
set_option linter.unusedSimpArgs false
theorem sub_loop (h0 : FH) (v : Value) (n : Nat) (C : List Int) (p b rb c : Nat) (v4 v33 v34 v35 : Value) (first : Nat) (m : Int) (hn : n ≤ 60) (hm : 0 ≤ m ∧ m ≤ 1000000) (u : Uf h0 p b (4 * n) C) (hp : p < 256 * c) (hb : b < 256 * c) (hrb : rb < 256 * c) (h1 : rb ≠ p) (h2 : rb ≠ b) (o1 : OkV c v) (o4 : OkV c v4) (o33 : OkV c v33) (o34 : OkV c v34) (o35 : OkV c v35) (df : List Nat) :
    ∀ (r x : Nat) (X : List Int) (B : Int), x + r = 4 * n → X.length = 7 * n → (∀ j : Nat, -B ≤ X.getD j 0 ∧ X.getD j 0 ≤ 1000000) → 0 ≤ B → B + r * 1000000 ≤ 1000000000000000 →
    Ans (G (f23_k23002 none) [v, v4, .slice (some ⟨rb, 0, none⟩) (7 * n) (7 * n), ptrTo p, .int .i64 first, .int .i64 m, v33, v34, v35, .int .i64 (4 * n : Nat), .int .i64 x] (HeapC.set h0 rb (.cells false (some 1) (ints X))) c df) fun q => q = { e := .exit 4, vs := [v, v4, .slice (some ⟨rb, 0, none⟩) (7 * n) (7 * n), ptrTo p, .int .i64 first, .int .i64 m, v33, v34, v35, .int .i64 (4 * n : Nat), .int .i64 (4 * n : Nat)], h := HeapC.set h0 rb (.cells false (some 1) (ints (subK C first m r x X))), c := c, df := df } := by
  intro r
  induction r with
  | zero =>
    intro x X B hx hX hB b1 b2
    obtain rfl : x = 4 * n := by omega
    refine Ans.loop (fun q r => f23_N23002) (fun q => f23_Z23002) ?_
    unfold f23_L23002
    have fx := True.intro
    refine Ans.go ?_
    clear fx
    (have fx := And.intro o1 (And.intro o4 (And.intro hrb (And.intro o33 (And.intro o34 (And.intro o35 hp))))); refine Ans.ex0 ?_; clear fx)
    rfl
  | succ r ih =>
    intro x X B hx hX hB b1 b2
    obtain ⟨H, hH⟩ : ∃ H, HeapC.set h0 rb (.cells false (some 1) (ints X)) = H := ⟨_, rfl⟩
    have fH : H.f rb = some (.cells false (some 1) (ints X)) := by rw [← hH, set_f, if_pos rfl]
    have u' : Uf H p b (4 * n) C := u.keep (by rw [← hH, set_f, if_neg (Ne.symm h1)]) (by rw [← hH, set_f, if_neg (Ne.symm h2)])
    have c1 : ∀ c', c ≤ c' → callF G 46 [.pointer (some ⟨p, 0, none⟩), .int .i64 x] H c' = _ := fun c' (hc : c ≤ c') => callF_of (root_sp H p b (4 * n) c' C u' (by omega) x (by omega) [])
    have q1 := quo_nat x 4 (by omega) (by omega)
    have q2 := rem_nat x 4 (by omega)
    simp only [Int.ofNat_eq_natCast, Int.cast_ofNat_Int] at q1 q2
    have d1 : x / 4 ≤ n - 1 := by omega
    have d2 : x % 4 < 4 := by omega
    rw [subK]
    obtain ⟨T, hT⟩ : ∃ T, x / 4 = T := ⟨_, rfl⟩
    obtain ⟨E, hE⟩ : ∃ E, x % 4 = E := ⟨_, rfl⟩
    rw [hT] at q1 d1 ⊢
    rw [hE] at q2 d2 ⊢
    have hx4 : (x : Int) < (4 * n : Nat) := by omega
    have e7 : ((T : Int) * 7 + E).toNat = T * 7 + E := by omega
    have l1 : ld1 H (.pointer (some ⟨rb, T * 7 + E, none⟩)) = some (.int .i64 (X.getD (T * 7 + E) 0)) := by
      rw [ld1_holds' ⟨false, some 1, fH⟩, ints_getD _ _ (by omega)]
    have bx := hB (T * 7 + E)
    have hw : ∀ y : Int, stN H 1 (.pointer (some ⟨rb, T * 7 + E, none⟩)) (.int .i64 y) = some (HeapC.set H rb (.cells false (some 1) (ints (X.set (T * 7 + E) y)))) := fun y => by
      rw [st1_get (show HeapC.get H rb = _ from fH) (by simp; omega) rfl rfl, ints_set]
    have nb : ∀ j : Nat, -(B + 1000000) ≤ (X.set (T * 7 + E) (X.getD (T * 7 + E) 0 - m)).getD j 0 ∧ (X.set (T * 7 + E) (X.getD (T * 7 + E) 0 - m)).getD j 0 ≤ 1000000 := fun j => by
      rw [getD_set]
      have := hB j
      split <;> omega
    obtain ⟨R, hR⟩ : ∃ R, rootL C x = R := ⟨_, rfl⟩
    rw [hR] at c1 ⊢
    obtain ⟨Y, hY⟩ : ∃ Y, X.getD (T * 7 + E) 0 = Y := ⟨_, rfl⟩
    rw [hY] at l1 bx nb ⊢
    rw [hH]
    refine Ans.loop (fun q r => f23_N23002) (fun q => f23_Z23002) ?_
    unfold f23_L23002
    by_cases e : R = first
    · rw [if_pos e]
      have e' : (R : Int) = first := by omega
      have fx := And.intro c1 (And.intro q1 (And.intro q2 (And.intro e7 (And.intro l1 hw))))
      refine Ans.go ?_
      clear fx
      (have fx := And.intro o1 (And.intro o4 (And.intro hrb (And.intro o33 (And.intro o34 (And.intro o35 hp))))); refine Ans.nxB (B := HeapC.set H rb (.cells false (some 1) (ints (X.set (T * 7 + E) (Y - m))))) ?_ ?_; exact Upto.set hrb (OkVs.ints _ _) (Upto.refl _ _); clear fx)
      rw [← hH, set_set]
      exact ih (x + 1) _ (B + 1000000) (by omega) (by simp [hX]) nb (by omega) (by omega)
    · rw [if_neg e]
      have e' : ¬ (R : Int) = first := by omega
      have fx := c1
      refine Ans.go ?_
      clear fx
      (have fx := And.intro o1 (And.intro o4 (And.intro hrb (And.intro o33 (And.intro o34 (And.intro o35 hp))))); refine Ans.nx0 ?_; clear fx)
      rw [← hH]
      exact ih (x + 1) X B (by omega) hX hB b1 (by omega)
end Go.Proofs.Ytcnndelmnobigaa

namespace Go.Proofs.Ytcnndelmnobigaa
open Go Go.Ab Go.Proofs
set_option maxRecDepth 100000
set_option linter.unusedVariables false
set_option linter.unusedSimpArgs false
def mC (C V : List Int) (n : Nat) (x : Int) : Int := mnK C V x.toNat (4 * n) 0 (gi V (x / 4 * 7 + x % 4))
def prK (C V : List Int) (n : Nat) : List Int → List Int → List Int
  | [], X => X
  | x :: F, X => prK C V n F (subK C x.toNat (mC C V n x) (4 * n) 0 X)
theorem subK_bound {C : List Int} {first : Nat} {m : Int} (hm : 0 ≤ m ∧ m ≤ 1000000) : ∀ {r x : Nat} {X : List Int} {B : Int}, (∀ j : Nat, -B ≤ X.getD j 0 ∧ X.getD j 0 ≤ 1000000) → ∀ j : Nat, -(B + r * 1000000) ≤ (subK C first m r x X).getD j 0 ∧ (subK C first m r x X).getD j 0 ≤ 1000000
  | 0, _, X, B, h => fun j => by
    have := h j
    rw [subK]; omega
  | r + 1, x, X, B, h => fun j => by
    rw [subK]
    have := subK_bound (C := C) (first := first) hm (r := r) (x := x + 1) (X := if rootL C x = first then X.set (x / 4 * 7 + x % 4) (X.getD (x / 4 * 7 + x % 4) 0 - m) else X) (B := B + 1000000) (fun i => by
      have h1 := h i
      have h2 := h (x / 4 * 7 + x % 4)
      split
      · rw [getD_set]; split <;> omega
      · omega) j
    omega
set_option maxHeartbeats 1000000 in
theorem part_loop (v : Value) (n nv : Nat) (V C : List Int) (p b rb c0 : Nat) (F : Value) (m : Nat) (Fl : List Int) (hn : n ≤ 60) (hnv : nv = 7 * n) (hV : ∀ j, 0 ≤ gi V j ∧ gi V j ≤ 1000000) (hp : p < 256 * c0) (hb : b < 256 * c0) (hrb : 256 * c0 ≤ rb) (hF : ∀ x, x ∈ Fl → ∃ k : Nat, x = k ∧ k < 4 * n) (hm : m ≤ 240) (df : List Nat) :
    ∀ (k i cc : Nat) (h : FH) (out : Value) (X Ls : List Int) (B : Int), i + k = m → c0 ≤ cc → rb < 256 * cc → SlI h c0 v 1 nv V → Uf h p b (4 * n) C → SlI h cc F 1 m Fl → (0 < m → blkOf F ≠ blkOf out ∧ blkOf F ≠ rb) → h.f rb = some (.cells false (some 1) (ints X)) → AppG c0 h cc out i (ints Ls) → blkOf out ≠ rb → X.length = 7 * n → (∀ j : Nat, -B ≤ X.getD j 0 ∧ X.getD j 0 ≤ 1000000) → 0 ≤ B → B + k * 240000000 ≤ 1000000000000000 →
    Ans (G (f23_k23000 none) [v, out, .slice (some ⟨rb, 0, none⟩) (7 * n) (7 * n), ptrTo p, F, .int .i64 m, .int .i64 i] h cc df) fun r => r.e = .exit 0 ∧ cc ≤ r.c ∧ r.df = df ∧ Same c0 h r.h ∧ r.v 2 = .slice (some ⟨rb, 0, none⟩) (7 * n) (7 * n) ∧ r.h.f rb = some (.cells false (some 1) (ints (prK C V n (Fl.drop i) X))) ∧ AppG c0 r.h r.c (r.v 1) m (ints (Ls ++ (Fl.drop i).map (mC C V n))) := by
  intro k
  induction k with
  | zero =>
    intro i cc h out X Ls B hi hc hrc hv u sf hne hr ha hor hX hB hB0 hBk
    obtain rfl : i = m := by omega
    have e : Fl.drop i = [] := List.drop_of_length_le (by have := sf.1; omega)
    rw [e]
    refine Ans.loop' (fun q r => f23_N23000) (fun q => f23_Z23000) ?_
    unfold f23_L23000
    have fx := True.intro
    refine Ans.go ?_
    clear fx
    refine Ans.exitN ⟨rfl, (by show cc ≤ cc + 1; omega), rfl, fun _ _ => rfl, rfl, hr, ?_⟩
    rw [List.map_nil, List.append_nil]
    exact ha.mono (by show cc ≤ cc + 1; omega)
  | succ k ih =>
    intro i cc h out X Ls B hi hc hrc hv u sf hne hr ha hor hX hB hB0 hBk
    have hFl := sf.1
    have l1 := sf.rdi i (by omega) (by omega)
    simp only [Int.toNat_natCast] at l1
    rw [gi_nat] at l1
    have hLi : Fl.getD i 0 = Fl[i]'(by omega) := by simp [List.getD_eq_getElem?_getD, List.getElem?_eq_getElem (by omega : i < Fl.length)]
    obtain ⟨x, hx, hx6⟩ := hF (Fl[i]'(by omega)) (List.getElem_mem _)
    rw [hLi, hx] at l1
    have hdr : Fl.drop i = (x : Int) :: Fl.drop (i + 1) := by rw [List.drop_eq_getElem_cons (by omega), hx]
    rw [hdr, prK, List.map_cons]
    have q1 := quo_nat x 4 (by omega) (by omega)
    have q2 := rem_nat x 4 (by omega)
    simp only [Int.ofNat_eq_natCast, Int.cast_ofNat_Int] at q1 q2
    have l2 := hv.rdi ((x / 4 : Nat) * 7 + (x % 4 : Nat)) (by omega) (by omega)
    have hmc : mC C V n x = mnK C V x (4 * n) 0 (gi V ((x / 4 : Nat) * 7 + (x % 4 : Nat))) := by
      unfold mC
      rw [Int.toNat_natCast]
      congr 1
    have hmb := mnK_bound (C := C) (first := x) hV (r := 4 * n) (x := 0) (a := gi V ((x / 4 : Nat) * 7 + (x % 4 : Nat))) (hV _).1 (hV _).2
    rw [← hmc] at hmb
    have o1 := fun c' (hc' : c0 ≤ c') => (hv.mono hc').okV
    have oF := fun c' (hc' : cc ≤ c') => (sf.mono hc').okV
    have oO : ∀ c', cc ≤ c' → OkV c' out := fun c' hc' => by obtain ⟨_, _, _, j, op, rfl, _, h6, _⟩ := ha; exact OkV.sl (by omega)
    have hmin := Ans.eq (min_loop v n nv V C p b (cc + 1 + 1 + 1 + 1) h out (.slice (some ⟨rb, 0, none⟩) (7 * n) (7 * n)) F (.int .i64 m) (.int .i64 i) x hn hnv (hv.mono (by omega)) hV u (by omega) (oO _ (by omega)) (OkV.sl (by omega)) (oF _ (by omega)) (by simp) (by simp) df (4 * n) 0 (gi V ((x / 4 : Nat) * 7 + (x % 4 : Nat))) (by omega))
    rw [← hmc] at hmin
    have hsb := subK_bound (C := C) (first := x) hmb (r := 4 * n) (x := 0) hB
    rw [Int.toNat_natCast]
    have lu := u.ld
    obtain ⟨M, hM⟩ : ∃ M, mC C V n (x : Int) = M := ⟨_, rfl⟩
    rw [hM] at hmin hmb hsb ⊢
    have hself : HeapC.set h rb (.cells false (some 1) (ints X)) = h := by
      apply FH.ext; intro j
      rw [set_f]
      split
      · rename_i e; rw [e, hr]
      · rfl
    have hsub := Ans.eq (sub_loop h v n C p b rb (cc + 1 + 1 + 1 + 1 + 1) out F (.int .i64 m) (.int .i64 i) x M hn hmb u (by omega) (by omega) (by omega) (by omega) (by omega) (o1 _ (by omega)) (oO _ (by omega)) (oF _ (by omega)) (by simp) (by simp) df (4 * n) 0 X B (by omega) hX hB hB0 (by omega))
    rw [hself] at hsub
    rw [show ((4 * n : Nat) : Int) = 4 * (n : Int) by omega] at hmin hsub
    simp only [Int.ofNat_eq_natCast, Int.cast_ofNat_Int] at hmin hsub
    obtain ⟨X', hX'⟩ : ∃ X', subK C x M (4 * n) 0 X = X' := ⟨_, rfl⟩
    have hXl : X'.length = 7 * n := by rw [← hX', subK_length, hX]
    rw [hX'] at hsub hsb ⊢
    obtain ⟨H, hH⟩ : ∃ H, HeapC.set h rb (.cells false (some 1) (ints X')) = H := ⟨_, rfl⟩
    rw [hH] at hsub
    have fH : ∀ j, j ≠ rb → H.f j = h.f j := fun j hj => by rw [← hH, set_f, if_neg hj]
    have fHr : H.f rb = some (.cells false (some 1) (ints X')) := by rw [← hH, set_f, if_pos rfl]
    have hbl : bldL [.int .i64 0] [(0, 1, .int .i64 M)] = some [.int .i64 M] := rfl
    obtain ⟨h', p1, p2, p3⟩ := ((ha.keep (h' := H) (fH _ hor)).mono (c' := cc + 1 + 1 + 1 + 1 + 1) (by omega)).app (c' := cc + 1 + 1 + 1 + 1 + 1 + 1) (.int .i64 M) rfl 8 (256 * (cc + 1 + 1 + 1 + 1 + 1) + 2) (256 * (cc + 1 + 1 + 1 + 1 + 1) + 3) (by omega) (by omega) (by omega) (by omega) (by omega) (by omega)
    have bo := ha.blk
    have s0 : Same c0 h h' := fun j hj => by rw [p3 j (by omega) (by omega), fH j (by omega)]
    have d1 : x / 4 ≤ n - 1 := by omega
    have d2 : x % 4 < 4 := by omega
    obtain ⟨T, hT⟩ : ∃ T, x / 4 = T := ⟨_, rfl⟩
    obtain ⟨E, hE⟩ : ∃ E, x % 4 = E := ⟨_, rfl⟩
    rw [hT] at q1 l2 d1 hmin
    rw [hE] at q2 l2 d2 hmin
    obtain ⟨Y, hY⟩ : ∃ Y, gi V ((T : Int) * 7 + E) = Y := ⟨_, rfl⟩
    rw [hY] at l2 hmin
    have him : (i : Int) < m := by omega
    refine Ans.loop' (fun q r => f23_N23000) (fun q => f23_Z23000) ?_
    unfold f23_L23000
    have fx := And.intro sf.ixs1 (And.intro l1 (And.intro q1 (And.intro q2 (And.intro hv.ixs1 (And.intro l2 (And.intro lu (And.intro hmin (And.intro hsub (And.intro hbl p1)))))))))
    refine Ans.go ?_
    clear fx
    refine Ans.nextN ?_
    have eI : ints Ls ++ [Value.int .i64 M] = ints (Ls ++ [M]) := by simp [ints]
    rw [eI] at p2
    refine (ih (i + 1) _ h' _ X' (Ls ++ [M]) (B + (4 * n : Nat) * 1000000) (by omega) (by omega) (by omega) (hv.same s0) (u.same s0 hp hb) ((sf.keep (fun hp => ?_)).mono (by omega)) (fun hp => ?_) ?_ (p2.mono (by omega)) (by rw [blkOf_sl]; omega) hXl hsb (by omega) (by omega)).mono ?_
    · obtain ⟨n1, n2⟩ := hne hp
      rw [p3 _ (by have := sf.blk hp; omega) n1, fH _ n2]
    · obtain ⟨n1, n2⟩ := hne hp
      rw [blkOf_sl]
      exact ⟨by have := sf.blk hp; omega, n2⟩
    · rw [p3 rb (by omega) (Ne.symm hor), fHr]
    · rintro r ⟨z1, z2, z3, z4, z5, z6, z7⟩
      refine ⟨z1, by omega, z3, s0.trans z4, z5, z6, ?_⟩
      rw [List.append_assoc] at z7
      exact z7
end Go.Proofs.Ytcnndelmnobigaa

namespace Go.Proofs.Ytcnndelmnobigaa
open Go Go.Ab Go.Proofs
set_option maxRecDepth 100000
set_option linter.unusedVariables false
set_option linter.unusedSimpArgs false
theorem part_exit (v out w F : Value) (p c : Nat) (h : FH) (df : List Nat) : Ans (G (f23_k23000 none) [v, out, w, ptrTo p, F, .int .i64 0, .int .i64 0] h c df) fun r => r = { e := .exit 0, vs := [v, out, w, ptrTo p, F, .int .i64 0, .int .i64 0], h := h, c := c + 1, df := df } := by
  refine Ans.loop' (fun q r => f23_N23000) (fun q => f23_Z23000) ?_
  unfold f23_L23000
  have fx := True.intro
  refine Ans.go ?_
  clear fx
  exact Ans.exitN rfl
def restL (Gl : List Int) (n : Nat) (V : List Int) : List Int := prK (vxC Gl n) V n (vxF Gl n) V
def partL (Gl : List Int) (n : Nat) (V : List Int) : List Int := (vxF Gl n).map (mC (vxC Gl n) V n)
set_option maxHeartbeats 1000000 in
theorem partN_sp (s v : Value) (n nv : Nat) (Gl V : List Int) (h : FH) (c : Nat) (df : List Nat) (hs : SlI h c s 20 n Gl) (hv : SlI h c v 1 nv V) (hx : SlX h v 1 nv) (hC : SlC h v 1 nv V) (hnv : nv ≤ 1000000) :
    Ans (G (.fn 23) [.agg #[s], v] h c df) fun r => r.e = .ret ∧ r.df = [] ∧ c ≤ r.c ∧ Same c h r.h ∧
      ((chkE Gl n (admB Gl n V) ≠ 0 ∧ r.vs = [.tuple #[.slice none 0 0, .slice none 0 0, .int .i64 (chkE Gl n (admB Gl n V))]]) ∨
       (chkE Gl n (admB Gl n V) = 0 ∧ ∃ lk rs, r.vs = [.tuple #[lk, rs, .int .i64 0]] ∧ AppG c r.h r.c lk (vxF Gl n).length (ints (partL Gl n V)) ∧ SlI r.h r.c rs 1 nv (restL Gl n V) ∧ SlX r.h rs 1 nv ∧ SlC r.h rs 1 nv (restL Gl n V))) := by
  refine Ans.call' (fun r e => f23_go e) ?_
  unfold f23_S
  rw [flat1 hs.flat, cell1, Nat.add_zero]
  simp only [cond_true]
  have hbl := bldL_v hv
  obtain ⟨H, hH⟩ : ∃ H, H = newB (newB h (256 * c) [s]) (256 * (c + 1) + 2) [v] := ⟨_, rfl⟩
  have sH : Same c h H := by rw [hH]; simp (disch := omega)
  have hg : Holds H (256 * c) [s] := by rw [hH]; exact (Holds.newB_same _ _ _).newB_ne (by omega)
  have hq : Holds H (256 * (c + 1) + 2) [v] := by rw [hH]; exact Holds.newB_same _ _ _
  have l0 : ldN (newB h (256 * c) [s]) 1 (.pointer (some ⟨256 * c, 0, none⟩)) = some (.agg #[s]) := ldN1_own (Holds.newB_same _ _ _)
  have l1 := ldN1_own hg
  have c1 := check1 s v n nv Gl V (256 * (c + 1) + 2) H (c + 1 + 1) ((hs.same sH).mono (by omega)) ((hv.same sH).mono (by omega)) (SlX.keep hv sH hx) hnv (by omega) hq
  have hH' := hH.symm
  obtain ⟨E, hE⟩ : ∃ E, chkE Gl n (admB Gl n V) = E := ⟨_, rfl⟩
  by_cases h0 : E = 0
  case neg =>
    rw [hE] at c1 ⊢
    have fx := And.intro l0 (And.intro hbl (And.intro hH' c1))
    refine Ans.go ?_
    clear fx
    exact .done ⟨rfl, rfl, (by show c ≤ c + 1 + 1 + 1 + 1; omega), sH, .inl ⟨h0, rfl⟩⟩
  have hr0 : refE Gl n = 0 ∧ admB Gl n V = true := by
    rw [h0] at hE
    unfold chkE at hE
    split at hE
    · rename_i h1
      split at hE
      · rename_i h2; exact ⟨h1, h2⟩
      · cases hE
    · rename_i h1; exact absurd hE h1
  obtain ⟨hn, hok⟩ := refE_zero hr0.1
  have ha := hr0.2
  unfold admB at ha
  simp only [Bool.and_eq_true, decide_eq_true_eq] at ha
  obtain ⟨⟨⟨a1, a2⟩, _⟩, _⟩ := ha
  have hV := withinI a2
  have hnv' : nv = 7 * n := by have := hv.1; omega
  rw [hE] at c1 ⊢
  subst h0
  obtain ⟨⟨re, rv, H1, k1, rd⟩, hr, r1, r2, r3, r4, vs, vu, es, eu, rfl, b1, b2, b3, b4, u1, u2⟩ := classes_sp s n Gl H (c + 1 + 1 + 1 + 1) [] ((hs.same sH).mono (by omega)) hok hn
  simp only at r1 r2 r3 r4 b1 b2 b3 b4 u1 u2
  subst r1 r2
  have cc := callF_of hr
  have s1 : Same c h H1 := sH.trans (r4.mono (by omega))
  obtain ⟨⟨re, rv, H2, k2, rd⟩, hr2, w, e1, e2, e3, e4, e4c, e5⟩ := clone_sp v nv V H1 (k1 + 1) [] ((hv.same s1).mono (by omega)) (SlC.keep hv s1 hC) hnv
  obtain ⟨rfl, rfl, -, rfl, rfl⟩ := Rt.mk.inj e1
  simp only at e2 e3 e4 e4c e5
  have cl := callF_of hr2
  have hb0 : bldL [] [] = some [] := rfl
  obtain ⟨H3, hH3⟩ : ∃ H3, newB H2 (256 * (k1 + 1 + 1 + 1 + 1)) [] = H3 := ⟨_, rfl⟩
  have s23 : Same (k1 + 1 + 1 + 1 + 1) H2 H3 := by rw [← hH3]; intro b hb; rw [newB_f, if_neg (by omega)]
  have f3 : H3.f (256 * (k1 + 1 + 1 + 1 + 1)) = some (.cells false none []) := by rw [← hH3, newB_f, if_pos rfl]
  have u13 : Uf H3 vs vu (4 * n) (vCl n (allM Gl n)) := (u1.same (e2.mono (by omega : k1 ≤ k1 + 1)) b1 b2).same (s23.mono (by omega : k1 ≤ _)) b1 b2
  obtain ⟨⟨re, rv, H4, k4, rd⟩, hr4, F, g1, g2, g3, g4⟩ := firsts_sp vs vu (4 * n) _ H3 (k1 + 1 + 1 + 1 + 1 + 1 + 1) [] u13 (by omega) (by omega)
  obtain ⟨rfl, rfl, -, -, rfl⟩ := Rt.mk.inj g1
  simp only at g2 g3 g4
  have cf : callF G 45 [.pointer (some ⟨vs, 0, none⟩)] H3 (k1 + 1 + 1 + 1 + 1 + 1 + 1) = some (F, H4, k4) := callF_of hr4
  have lf := g4.sl.len
  have s24 : Same (k1 + 1 + 1 + 1 + 1) H2 H4 := s23.trans (g3.mono (by omega))
  have s4 : Same c h H4 := (s1.trans (e2.mono (by omega))).trans (s24.mono (by omega))
  have hFl := firstsL_len (vCl n (allM Gl n)) (4 * n)
  have hmem : ∀ x, x ∈ firstsL (vCl n (allM Gl n)) (4 * n) → ∃ k : Nat, x = k ∧ k < 4 * n := fun x hx => by
    obtain ⟨k, h1, h2, _⟩ := mem_firstsL hx; exact ⟨k, h1, h2⟩
  have u14 := u13.same g3 (by omega) (by omega)
  have f4 : H4.f (256 * (k1 + 1 + 1 + 1 + 1)) = some (.cells false none []) := by rw [g3 _ (by omega), f3]
  have w4 := e3.same s24
  have x4 := SlX.keep e3 s24 e4
  rcases Nat.eq_zero_or_pos n with h00 | hpos
  · subst h00
    have hv0 : vxF Gl 0 = [] := rfl
    have ev : firstsL (vCl 0 (allM Gl 0)) (4 * 0) = [] := rfl
    rw [ev] at lf
    have hx := Ans.eq (part_exit v (.slice (some ⟨256 * (k1 + 1 + 1 + 1 + 1), 0, none⟩) 0 0) w F vs k4 H4 [])
    have e0 : (([] : List Int).length : Int) = 0 := rfl
    simp only [List.length_nil, Int.ofNat_eq_natCast, Int.cast_ofNat_Int] at lf
    unfold restL partL
    rw [hv0]
    have fx := And.intro l0 (And.intro hbl (And.intro hH' (And.intro c1 (And.intro l1 (And.intro cc (And.intro cl (And.intro hb0 (And.intro hH3 (And.intro cf (And.intro lf hx))))))))))
    refine Ans.go ?_
    clear fx
    exact .done ⟨rfl, rfl, (by show c ≤ k4 + 1 + 1; omega), s4, .inr ⟨rfl, _, _, rfl, ⟨rfl, by simp, rfl, 256 * (k1 + 1 + 1 + 1 + 1), none, rfl, by omega, (by show _ < 256 * (k4 + 1 + 1); omega), f4, .inl rfl⟩, w4.mono (by show _ ≤ k4 + 1 + 1; omega), x4, SlC.keep e3 s24 e4c⟩⟩
  · obtain ⟨rfl, e6⟩ := e5 (by omega)
    obtain ⟨rb, hrb⟩ : ∃ rb, 256 * (k1 + 1 + 1 + 1) + 2 = rb := ⟨_, rfl⟩
    rw [hrb] at e6 w4 x4 cl
    have f5 : H4.f rb = some (.cells false (some 1) (ints V)) := by rw [s24 rb (by omega), e6]
    unfold restL partL vxF vxC
    obtain ⟨C, hCC⟩ : ∃ C, vCl n (allM Gl n) = C := ⟨_, rfl⟩
    rw [hCC] at g4 lf hFl hmem u14 ⊢
    obtain ⟨L, hL⟩ : ∃ L, firstsL C (4 * n) = L := ⟨_, rfl⟩
    rw [hL] at g4 lf hFl hmem ⊢
    have hne : 0 < L.length → blkOf F ≠ blkOf (.slice (some ⟨256 * (k1 + 1 + 1 + 1 + 1), 0, none⟩) 0 0) ∧ blkOf F ≠ rb := fun hp => by
      obtain ⟨z1, z2, ⟨rfl, z3⟩ | ⟨i, rfl, z3, z4, z5⟩⟩ := g4
      · omega
      · rw [blkOf_sl, blkOf_sl]; exact ⟨by omega, by omega⟩
    subst hnv'
    obtain ⟨⟨re, rv, H5, k5, rd⟩, hr5, p1, p2, p3, p4, p5, p6, p7⟩ := part_loop v n (7 * n) V C vs vu rb (k1 + 1) F L.length L hn rfl hV (by omega) (by omega) (by omega) hmem (by omega) [] L.length 0 k4 H4 (.slice (some ⟨256 * (k1 + 1 + 1 + 1 + 1), 0, none⟩) 0 0) V [] 0 (by omega) (by omega) (by omega) ((hv.same s4).mono (by omega)) u14 g4.sl hne f5 ⟨rfl, by omega, rfl, 256 * (k1 + 1 + 1 + 1 + 1), none, rfl, by omega, by omega, f4, .inl rfl⟩ (by rw [blkOf_sl]; omega) a1 (fun j => by have := hV j; rw [gi_nat] at this; omega) (by omega) (by omega)
    simp only [Int.ofNat_eq_natCast, Int.cast_ofNat_Int] at hr5
    simp only at p1 p2 p3 p4 p6 p7
    subst p1 p3
    rw [List.drop_zero] at p6 p7
    rw [List.nil_append] at p7
    have fx := And.intro l0 (And.intro hbl (And.intro hH' (And.intro c1 (And.intro l1 (And.intro cc (And.intro cl (And.intro hb0 (And.intro hH3 (And.intro cf (And.intro lf (And.intro hr5 p5)))))))))))
    refine Ans.go ?_
    clear fx
    have hpl : (prK C V n L V).length = 7 * n := by
      have : ∀ (F X : List Int), (prK C V n F X).length = X.length := by
        intro F
        induction F with
        | nil => intro X; rfl
        | cons x F ih => intro X; rw [prK, ih, subK_length]
      rw [this, a1]
    have g6 : AppG c H5 (k5 + 1) (Rt.v { e := Ex.exit 0, vs := rv, h := H5, c := k5, df := [] } 1) L.length (ints (L.map (mC C V n))) := by
      obtain ⟨z1, z2, z3, i, op, z4, z5, z6, z7, z8⟩ := p7
      exact ⟨z1, z2, z3, i, op, z4, by omega, by omega, z7, z8⟩
    have g7 : SlI H5 (k5 + 1) (.slice (some ⟨rb, 0, none⟩) (7 * n) (7 * n)) 1 (7 * n) (prK C V n L V) := by
      have hrk : rb < 256 * (k5 + 1) := by
        have : k4 ≤ k5 := p2
        omega
      refine ⟨by omega, by omega, some ⟨rb, 0, none⟩, 7 * n, rfl, .inr ⟨rb, 0, ints (prK C V n L V), rfl, hrk, ⟨false, some 1, p6⟩, ?_⟩⟩
      rw [List.drop_zero, List.take_of_length_le (by simp [hpl])]
    have g8 : SlX H5 (.slice (some ⟨rb, 0, none⟩) (7 * n) (7 * n)) 1 (7 * n) := by
      refine ⟨Nat.le_refl _, ?_⟩
      have : HeapC.get H5 rb = some (.cells false (some 1) (ints (prK C V n L V))) := p6
      simp only [adrOf, szOk, this, Nat.beq_refl]
    rw [← p5] at g7 g8
    exact .done ⟨rfl, rfl, (by show c ≤ k5 + 1; omega), s4.trans (p4.mono (by omega)), .inr ⟨rfl, _, _, rfl, g6, g7, g8, g7.slc (by omega) (by omega)⟩⟩
end Go.Proofs.Ytcnndelmnobigaa

namespace Go.Ab
set_option linter.unusedVariables false
def sumN (f : Nat → Int) : Nat → Int
  | 0 => 0
  | n + 1 => sumN f n + f n
theorem sumN_congr {f g : Nat → Int} : ∀ {n : Nat}, (∀ a, a < n → f a = g a) → sumN f n = sumN g n
  | 0, _ => rfl
  | n + 1, h => by rw [sumN, sumN, sumN_congr (n := n) (fun a ha => h a (by omega)), h n (by omega)]
theorem sumN_const (k : Int) : ∀ (n : Nat), sumN (fun _ => k) n = n * k
  | 0 => by simp [sumN]
  | n + 1 => by rw [sumN, sumN_const k n, Int.natCast_add, Int.add_mul]; simp
theorem sumN_zero (n : Nat) : sumN (fun _ => 0) n = 0 := by rw [sumN_const]; simp
theorem sumN_single (g : Nat → Int) (b0 : Nat) : ∀ {N : Nat}, sumN (fun b => if b = b0 then g b else 0) N = if b0 < N then g b0 else 0
  | 0 => by simp [sumN]
  | N + 1 => by
    rw [sumN, sumN_single g b0 (N := N)]
    by_cases h1 : b0 < N
    · rw [if_pos h1, if_neg (by omega), if_pos (by omega)]; omega
    · by_cases h2 : N = b0
      · subst h2; rw [if_neg h1, if_pos rfl, if_pos (by omega)]; omega
      · rw [if_neg h1, if_neg h2, if_neg (by omega)]; rfl
theorem sum_firsts (L : List Int) (g : Int → Int) (S : List Int → Int) (h0 : S [] = 0) (h1 : ∀ A x, S (A ++ [x]) = S A + x) : ∀ (m : Nat), S ((firstsL L m).map g) = sumN (fun x => if rootL L x = x then g x else 0) m
  | 0 => by simp [firstsL, h0, sumN]
  | m + 1 => by
    rw [firstsL_succ, sumN, ← sum_firsts L g S h0 h1 m]
    by_cases h : rootL L m = m
    · rw [if_pos h, if_pos h, List.map_append, List.map_cons, List.map_nil, h1]
    · rw [if_neg h, if_neg h, List.append_nil]; omega
end Go.Ab

namespace Go.Proofs.Ytcnndelmnobigaa
open Go Go.Ab Go.Proofs
set_option maxRecDepth 100000
set_option linter.unusedVariables false
set_option linter.unusedSimpArgs false
theorem sumL_snoc (A : List Int) (x : Int) : sumL (A ++ [x]) = sumL A + x := by rw [sumL_append]; simp [sumL]
end Go.Proofs.Ytcnndelmnobigaa

namespace Go.Proofs.Ytcnndelmnobigaa
open Go Go.Ab Go.Proofs
set_option maxRecDepth 100000
set_option linter.unusedVariables false
set_option linter.unusedSimpArgs false
theorem gi_ps (V : List Int) (w : Nat) : gi V ((w / 4 * 7 + w % 4 : Nat) : Int) = V.getD (ps w) 0 := by rw [gi_nat]; rfl
theorem mnK_spec (C V : List Int) (first : Nat) : ∀ (r x : Nat) (a : Int), mnK C V first r x a ≤ a ∧ (∀ w, x ≤ w → w < x + r → rootL C w = first → mnK C V first r x a ≤ V.getD (ps w) 0) ∧
    (mnK C V first r x a = a ∨ ∃ w, x ≤ w ∧ w < x + r ∧ rootL C w = first ∧ mnK C V first r x a = V.getD (ps w) 0)
  | 0, x, a => ⟨Int.le_refl _, fun w h1 h2 => by omega, .inl rfl⟩
  | r + 1, x, a => by
    rw [mnK, gi_ps]
    obtain ⟨b, hb⟩ : ∃ b, (if rootL C x = first then (if V.getD (ps x) 0 < a then V.getD (ps x) 0 else a) else a) = b := ⟨_, rfl⟩
    rw [hb]
    obtain ⟨h1, h2, h3⟩ := mnK_spec C V first r (x + 1) b
    have k1 : b ≤ a := by rw [← hb]; split <;> (try split) <;> omega
    have k2 : rootL C x = first → b ≤ V.getD (ps x) 0 := fun e => by rw [← hb, if_pos e]; split <;> omega
    have k3 : b = a ∨ (rootL C x = first ∧ b = V.getD (ps x) 0) := by
      rw [← hb]
      split
      · split
        · exact .inr ⟨by assumption, rfl⟩
        · exact .inl rfl
      · exact .inl rfl
    refine ⟨by omega, fun w w1 w2 w3 => ?_, ?_⟩
    · by_cases e : w = x
      · subst e; have := k2 w3; omega
      · exact h2 w (by omega) (by omega) w3
    · rcases h3 with h3 | ⟨w, w1, w2, w3, w4⟩
      · rcases k3 with k3 | ⟨k3, k4⟩
        · exact .inl (h3.trans k3)
        · exact .inr ⟨x, by omega, by omega, k3, h3.trans k4⟩
      · exact .inr ⟨w, by omega, by omega, w3, w4⟩
theorem mC_le {C V : List Int} {n x w : Nat} (hw : w < 4 * n) (e : rootL C w = x) : mC C V n x ≤ V.getD (ps w) 0 := by
  unfold mC
  rw [Int.toNat_natCast]
  exact (mnK_spec C V x (4 * n) 0 _).2.1 w (by omega) (by omega) e
theorem mC_at {C V : List Int} {n x : Nat} (hx : x < 4 * n) (e : rootL C x = x) : ∃ w, w < 4 * n ∧ rootL C w = x ∧ mC C V n x = V.getD (ps w) 0 := by
  unfold mC
  rw [Int.toNat_natCast]
  rcases (mnK_spec C V x (4 * n) 0 (gi V ((x : Int) / 4 * 7 + (x : Int) % 4))).2.2 with h | ⟨w, w1, w2, w3, w4⟩
  · refine ⟨x, hx, e, h.trans ?_⟩
    rw [show ((x : Int) / 4 * 7 + (x : Int) % 4) = ((x / 4 * 7 + x % 4 : Nat) : Int) by omega, gi_ps]
  · exact ⟨w, by omega, w3, w4⟩
theorem mC_eq {C V : List Int} {n x : Nat} {m : Int} (hx : x < 4 * n) (e : rootL C x = x) (h1 : ∀ w, w < 4 * n → rootL C w = x → m ≤ V.getD (ps w) 0) (h2 : ∃ w, w < 4 * n ∧ rootL C w = x ∧ m = V.getD (ps w) 0) : m = mC C V n x := by
  obtain ⟨w, a1, a2, a3⟩ := h2
  obtain ⟨v, b1, b2, b3⟩ := mC_at (V := V) hx e
  have := mC_le (V := V) a1 a2
  have := h1 v b1 b2
  omega
theorem subK_get (C : List Int) (first : Nat) (m : Int) {n : Nat} : ∀ (r x : Nat) (X : List Int), x + r = 4 * n → X.length = 7 * n → ∀ j,
    (∀ w, x ≤ w → w < 4 * n → rootL C w = first → ps w = j → (subK C first m r x X).getD j 0 = X.getD j 0 - m) ∧ ((∀ w, x ≤ w → w < 4 * n → rootL C w = first → ps w ≠ j) → (subK C first m r x X).getD j 0 = X.getD j 0)
  | 0, x, X, hx, _, j => ⟨fun w h1 h2 => by omega, fun _ => rfl⟩
  | r + 1, x, X, hx, hX, j => by
    rw [subK]
    by_cases e : rootL C x = first
    · rw [if_pos e]
      obtain ⟨i1, i2⟩ := subK_get C first m (n := n) r (x + 1) (X.set (x / 4 * 7 + x % 4) (X.getD (x / 4 * 7 + x % 4) 0 - m)) (by omega) (by simp [hX]) j
      have hps : x / 4 * 7 + x % 4 = ps x := rfl
      have hl : ps x < 7 * n := ps_lt (w := x) (n := n) (by omega)
      rw [hps] at i1 i2 ⊢
      refine ⟨fun w w1 w2 w3 w4 => ?_, fun h => ?_⟩
      · by_cases ex : w = x
        · subst ex
          rw [i2 (fun v v1 v2 v3 v4 => by have := ps_inj (v4.trans w4.symm); omega), getD_set, if_pos ⟨w4, by omega⟩, w4]
        · rw [i1 w (by omega) w2 w3 w4, getD_set, if_neg (fun q => ex (ps_inj (w4.trans q.1.symm)))]
      · rw [i2 (fun v v1 v2 v3 => h v (by omega) v2 v3), getD_set, if_neg (fun q => h x (by omega) (by omega) e q.1)]
    · rw [if_neg e]
      obtain ⟨i1, i2⟩ := subK_get C first m (n := n) r (x + 1) X (by omega) hX j
      refine ⟨fun w w1 w2 w3 w4 => ?_, fun h => ?_⟩
      · exact i1 w (by
          rcases Nat.lt_or_ge x w with q | q
          · omega
          · exact absurd (by rw [show x = w by omega]; exact w3) e) w2 w3 w4
      · exact i2 (fun v v1 v2 v3 => h v (by omega) v2 v3)
theorem prK_length (C V : List Int) (n : Nat) : ∀ (F X : List Int), (prK C V n F X).length = X.length
  | [], _ => rfl
  | x :: F, X => by rw [prK, prK_length, subK_length]
theorem prK_get (C V : List Int) {n : Nat} : ∀ (F X : List Int), F.Nodup → (∀ x ∈ F, ∃ k : Nat, x = k) → X.length = 7 * n →
    (∀ w, w < 4 * n → (prK C V n F X).getD (ps w) 0 = if ((rootL C w : Nat) : Int) ∈ F then X.getD (ps w) 0 - mC C V n (rootL C w : Nat) else X.getD (ps w) 0) ∧ (∀ t k, k < 3 → (prK C V n F X).getD (7 * t + 4 + k) 0 = X.getD (7 * t + 4 + k) 0)
  | [], X, _, _, _ => ⟨fun w hw => by rw [if_neg (by simp)]; rfl, fun t k hk => rfl⟩
  | x :: F, X, nd, hF, hX => by
    rw [List.nodup_cons] at nd
    obtain ⟨k, rfl⟩ := hF x (by simp)
    obtain ⟨i1, i2⟩ := prK_get C V F (subK C (k : Int).toNat (mC C V n (k : Int)) (4 * n) 0 X) nd.2 (fun y hy => hF y (by simp [hy])) (by rw [subK_length]; exact hX)
    have sk := subK_get C k (mC C V n (k : Int)) (4 * n) 0 X (by omega) hX
    rw [Int.toNat_natCast] at i1 i2
    rw [prK, Int.toNat_natCast]
    refine ⟨fun w hw => ?_, fun t j hj => ?_⟩
    · rw [i1 w hw]
      by_cases e : rootL C w = k
      · subst e
        rw [if_neg nd.1, if_pos (by simp)]
        exact (sk (ps w)).1 w (by omega) hw rfl rfl
      · have hn : (subK C k (mC C V n (k : Int)) (4 * n) 0 X).getD (ps w) 0 = X.getD (ps w) 0 := (sk (ps w)).2 (fun v _ _ v3 v4 => by
          have := ps_inj v4; subst this; exact e v3)
        have e2 : ((rootL C w : Nat) : Int) ≠ k := by omega
        rw [hn]
        by_cases e3 : ((rootL C w : Nat) : Int) ∈ F
        · rw [if_pos e3, if_pos (by simp [e3])]
        · rw [if_neg e3, if_neg (by simp [e2, e3])]
    · rw [i2 t j hj]
      exact (sk _).2 (fun v _ _ _ => ps_quad hj)
theorem firstsL_nodup (L : List Int) (m : Nat) : (firstsL L m).Nodup := by
  unfold firstsL
  exact List.Pairwise.map _ (fun a b (h : a ≠ b) => by omega) (List.Pairwise.filter _ List.nodup_range)
theorem vxF_iff {Gl : List Int} {n k : Nat} : (k : Int) ∈ vxF Gl n ↔ k < 4 * n ∧ rootL (vxC Gl n) k = k := by
  constructor
  · intro h
    obtain ⟨j, h1, h2, h3⟩ := vxF_mem h
    obtain rfl : k = j := by omega
    exact ⟨h2, h3⟩
  · rintro ⟨h1, h2⟩
    unfold vxF firstsL
    rw [List.mem_map]
    exact ⟨k, List.mem_filter.2 ⟨by simpa using h1, by simpa using h2⟩, rfl⟩
theorem restL_length {Gl V : List Int} {n : Nat} (hV : V.length = 7 * n) : (restL Gl n V).length = 7 * n := by
  unfold restL; rw [prK_length, hV]
theorem restL_t {Gl V : List Int} {n : Nat} (hok : okAll Gl n = true) (hG : Gl.length = n * 20) (hV : V.length = 7 * n) {w : Nat} (hw : w < 4 * n) : (restL Gl n V).getD (ps w) 0 = V.getD (ps w) 0 - mC (vxC Gl n) V n (rootL (vxC Gl n) w : Nat) := by
  obtain ⟨hd, _⟩ := vx_fold hok hG
  have := (prK_get (vxC Gl n) V (vxF Gl n) V (firstsL_nodup _ _) (fun x hx => by obtain ⟨k, h, _⟩ := vxF_mem hx; exact ⟨k, h⟩) hV).1 w hw
  rw [if_pos (vxF_iff.2 ⟨by have := rootL_le hd hw; omega, rootL_root hd hw⟩)] at this
  exact this
theorem restL_q {Gl V : List Int} {n : Nat} (hV : V.length = 7 * n) (t k : Nat) (hk : k < 3) : (restL Gl n V).getD (7 * t + 4 + k) 0 = V.getD (7 * t + 4 + k) 0 :=
  (prK_get (vxC Gl n) V (vxF Gl n) V (firstsL_nodup _ _) (fun x hx => by obtain ⟨k, h, _⟩ := vxF_mem hx; exact ⟨k, h⟩) hV).2 t k hk
theorem pos_cases {n j : Nat} (hj : j < 7 * n) : (∃ w, w < 4 * n ∧ j = ps w) ∨ ∃ t k, t < n ∧ k < 3 ∧ j = 7 * t + 4 + k := by
  by_cases h : j % 7 < 4
  · exact .inl ⟨4 * (j / 7) + j % 7, by omega, by rw [ps_mk h]; omega⟩
  · exact .inr ⟨j / 7, j % 7 - 4, by omega, by omega, by omega⟩
theorem list_pos {n : Nat} {X Y : List Int} (hX : X.length = 7 * n) (hY : Y.length = 7 * n) (h1 : ∀ w, w < 4 * n → X.getD (ps w) 0 = Y.getD (ps w) 0) (h2 : ∀ t k, t < n → k < 3 → X.getD (7 * t + 4 + k) 0 = Y.getD (7 * t + 4 + k) 0) : X = Y := by
  refine List.ext_getElem (by omega) fun j a b => ?_
  have : X.getD j 0 = Y.getD j 0 := by
    rcases pos_cases (n := n) (j := j) (by omega) with ⟨w, hw, rfl⟩ | ⟨t, k, ht, hk, rfl⟩
    · exact h1 w hw
    · exact h2 t k ht hk
  simpa [List.getD_eq_getElem?_getD, List.getElem?_eq_getElem a, List.getElem?_eq_getElem b] using this
theorem within_pos {n : Nat} {X : List Int} (hX : X.length = 7 * n) (h1 : ∀ w, w < 4 * n → 0 ≤ X.getD (ps w) 0 ∧ X.getD (ps w) 0 ≤ 1000000) (h2 : ∀ t k, t < n → k < 3 → 0 ≤ X.getD (7 * t + 4 + k) 0 ∧ X.getD (7 * t + 4 + k) 0 ≤ 1000000) : withinB X = true := by
  rw [withinB_iff]
  intro j hj
  rw [gi_nat]
  rcases pos_cases (n := n) (j := j) (by omega) with ⟨w, hw, rfl⟩ | ⟨t, k, ht, hk, rfl⟩
  · exact h1 w hw
  · exact h2 t k ht hk
theorem quadAt_pos {n t : Nat} {X Y : List Int} (hX : X.length = 7 * n) (hY : Y.length = 7 * n) (ht : t < n) (h : ∀ k, k < 3 → X.getD (7 * t + 4 + k) 0 = Y.getD (7 * t + 4 + k) 0) : quadAt X t = quadAt Y t := by
  unfold quadAt
  refine List.ext_getElem (by simp; omega) fun j a b => ?_
  have hj : j < 3 := by simp at a; omega
  have := h j hj
  simp only [List.getD_eq_getElem?_getD, List.getElem?_eq_getElem (by omega : 7 * t + 4 + j < X.length), List.getElem?_eq_getElem (by omega : 7 * t + 4 + j < Y.length), Option.getD_some] at this
  simpa using this
end Go.Proofs.Ytcnndelmnobigaa

namespace Go.Proofs.Ytcnndelmnobigaa
open Go Go.Ab Go.Proofs
set_option maxRecDepth 100000
set_option linter.unusedVariables false
set_option linter.unusedSimpArgs false
theorem sumL_take_le (f : Int → Int) : ∀ (L : List Int) (j : Nat), (∀ x, x ∈ L → 0 ≤ f x) → 0 ≤ sumL ((L.take j).map f) ∧ sumL ((L.take j).map f) ≤ sumL (L.map f)
  | [], j, _ => by simp [sumL]
  | x :: L, 0, h => by
    have := sumL_take_le f L L.length (fun y hy => h y (by simp [hy]))
    rw [List.take_length] at this
    have hx := h x (by simp)
    show 0 ≤ (0 : Int) ∧ (0 : Int) ≤ f x + sumL (L.map f)
    omega
  | x :: L, j + 1, h => by
    have := sumL_take_le f L j (fun y hy => h y (by simp [hy]))
    have hx := h x (by simp)
    show 0 ≤ f x + sumL ((L.take j).map f) ∧ f x + sumL ((L.take j).map f) ≤ f x + sumL (L.map f)
    omega
structure Adm (Gl : List Int) (n : Nat) (V : List Int) : Prop where
  ok : okAll Gl n = true
  g : Gl.length = n * 20
  l : V.length = 7 * n
  w : withinB V = true
  q : ∀ t, t < n → areQ (quadAt V t) = true
  e : ((allM Gl n).all fun m => eqM V m) = true
theorem Adm.of {Gl V : List Int} {n : Nat} (hok : okAll Gl n = true) (hG : Gl.length = n * 20) (ha : admB Gl n V = true) : Adm Gl n V := by
  obtain ⟨h1, h2, h3, h4⟩ := admB_iff.1 ha
  exact ⟨hok, hG, h1, h2, h3, h4⟩
theorem Adm.b {Gl V : List Int} {n : Nat} (a : Adm Gl n V) (j : Nat) : 0 ≤ V.getD j 0 ∧ V.getD j 0 ≤ 1000000 := by
  have := withinI a.w (j : Int)
  rwa [gi_nat] at this
theorem Adm.mc {Gl V : List Int} {n : Nat} (a : Adm Gl n V) {x : Nat} (hx : x < 4 * n) (e : rootL (vxC Gl n) x = x) : 0 ≤ mC (vxC Gl n) V n x ∧ mC (vxC Gl n) V n x ≤ 1000000 := by
  obtain ⟨w, h1, h2, h3⟩ := mC_at (V := V) hx e
  rw [h3]; exact a.b _
theorem Adm.root {Gl V : List Int} {n : Nat} (a : Adm Gl n V) {w : Nat} (hw : w < 4 * n) : rootL (vxC Gl n) w < 4 * n ∧ rootL (vxC Gl n) (rootL (vxC Gl n) w) = rootL (vxC Gl n) w := by
  obtain ⟨hd, _⟩ := vx_fold a.ok a.g
  have := rootL_le hd hw
  exact ⟨by omega, rootL_root hd hw⟩
theorem Adm.rt {Gl V : List Int} {n : Nat} (a : Adm Gl n V) {w : Nat} (hw : w < 4 * n) : 0 ≤ (restL Gl n V).getD (ps w) 0 ∧ (restL Gl n V).getD (ps w) 0 ≤ V.getD (ps w) 0 := by
  obtain ⟨r1, r2⟩ := a.root hw
  have := mC_le (V := V) hw (rfl : rootL (vxC Gl n) w = _)
  have := a.mc r1 r2
  rw [restL_t a.ok a.g a.l hw]
  omega
theorem lkRow_bit {Gl : List Int} {n : Nat} (hok : okAll Gl n = true) (hG : Gl.length = n * 20) (x j : Nat) : gi (lkRow (vxC Gl n) n x) (j : Int) = 0 ∨ gi (lkRow (vxC Gl n) n x) (j : Int) = 1 := by
  by_cases hj : j < 7 * n
  · rcases pos_cases hj with ⟨w, hw, rfl⟩ | ⟨t, k, ht, hk, rfl⟩
    · have := lkRow_t (vxC Gl n) (n := n) x (t := (w / 4 : Nat)) (i := (w % 4 : Nat)) (by omega) (by omega) (by omega) (by omega)
      rw [show (7 * ((w / 4 : Nat) : Int) + (w % 4 : Nat)) = (ps w : Nat) by unfold ps; omega] at this
      rw [this]
      split
      · exact .inr rfl
      · exact .inl rfl
    · have := lkRow_q (vxC Gl n) (n := n) x (t := (t : Nat)) (k := (k : Nat)) (by omega) (by omega) (by omega) (by omega)
      rw [show (7 * (t : Int) + 4 + (k : Int)) = ((7 * t + 4 + k : Nat) : Int) by omega] at this
      exact .inl this
  · left
    rw [gi_nat, List.getD_eq_getElem?_getD, List.getElem?_eq_none (by rw [lkRow_length]; omega)]
    rfl
theorem part_sum {Gl V : List Int} {n : Nat} (a : Adm Gl n V) {j : Nat} (hj : j < 7 * n) :
    gi (restL Gl n V) (j : Int) + sumL ((vxF Gl n).map fun x => mC (vxC Gl n) V n x * gi (lkRow (vxC Gl n) n x) (j : Int)) = gi V (j : Int) := by
  rw [vxF, sum_firsts _ _ sumL rfl sumL_snoc, gi_nat, gi_nat]
  rcases pos_cases hj with ⟨w, hw, rfl⟩ | ⟨t, k, ht, hk, rfl⟩
  · obtain ⟨r1, r2⟩ := a.root hw
    rw [restL_t a.ok a.g a.l hw]
    rw [sumN_congr (g := fun x => if x = rootL (vxC Gl n) w then (fun x : Nat => mC (vxC Gl n) V n x) x else 0) (fun x hx => ?_), sumN_single, if_pos r1]
    · omega
    · have := lkRow_t (vxC Gl n) (n := n) x (t := (w / 4 : Nat)) (i := (w % 4 : Nat)) (by omega) (by omega) (by omega) (by omega)
      rw [show (7 * ((w / 4 : Nat) : Int) + (w % 4 : Nat)) = (ps w : Nat) by unfold ps; omega, show (4 * ((w / 4 : Nat) : Int) + (w % 4 : Nat)).toNat = w by omega] at this
      rw [this]
      by_cases e : x = rootL (vxC Gl n) w
      · rw [if_pos e, if_pos (by rw [e, r2]), if_pos e.symm]; simp
      · have e' : ¬ rootL (vxC Gl n) w = x := fun q => e q.symm
        simp [e, e']
  · rw [restL_q a.l t k hk, sumN_congr (g := fun _ => 0) (fun x hx => ?_), sumN_zero]
    · omega
    · have := lkRow_q (vxC Gl n) (n := n) x (t := (t : Nat)) (k := (k : Nat)) (by omega) (by omega) (by omega) (by omega)
      rw [show (7 * (t : Int) + 4 + (k : Int)) = ((7 * t + 4 + k : Nat) : Int) by omega] at this
      rw [this]; simp
theorem part_terms {Gl V : List Int} {n : Nat} (a : Adm Gl n V) (j : Nat) : ∀ x, x ∈ vxF Gl n → 0 ≤ mC (vxC Gl n) V n x * gi (lkRow (vxC Gl n) n x) (j : Int) ∧ mC (vxC Gl n) V n x * gi (lkRow (vxC Gl n) n x) (j : Int) ≤ 1000000 := fun x hx => by
  obtain ⟨k, rfl, h1, h2⟩ := vxF_mem hx
  have := a.mc h1 h2
  rcases lkRow_bit a.ok a.g k j with e | e <;> rw [e] <;> omega
theorem arcV_ps {V : List Int} {t f i : Nat} (hf : f < 4) (hi : i < 4) (hne : i ≠ f) : arcV V t f i = V.getD (ps (4 * t + i)) 0 + V.getD (7 * t + 4 + (ty i f).toNat) 0 := by
  have r := ty_range (i := (i : Int)) (f := (f : Int)) (by omega) (by omega) (by omega) (by omega) (by omega)
  unfold arcV gi
  rw [ps_mk hi, show (7 * (t : Int) + i).toNat = 7 * t + i by omega, show (7 * (t : Int) + 4 + ty i f).toNat = 7 * t + 4 + (ty i f).toNat by omega]
theorem rest_adm {Gl V : List Int} {n : Nat} (a : Adm Gl n V) : Adm Gl n (restL Gl n V) := by
  have hl := restL_length (Gl := Gl) a.l
  refine ⟨a.ok, a.g, hl, within_pos hl (fun w hw => ?_) (fun t k ht hk => ?_), fun t ht => ?_, arc_glue a.ok a.g fun t f i ht hf hi hne hg => ?_⟩
  · have := a.rt hw
    have := a.b (ps w)
    omega
  · rw [restL_q a.l t k hk]; exact a.b _
  · rw [quadAt_pos hl a.l ht (fun k hk => restL_q a.l t k hk)]
    exact a.q t ht
  · have g := FGl.of a.ok a.g ht hf hi hne hg
    have e := glue_arc a.ok a.g a.e ht hf hi hne hg
    have r1 := ty_range (i := (i : Int)) (f := (f : Int)) (by omega) (by omega) (by omega) (by omega) (by omega)
    have r2 := ty_range (i := (fJ Gl t f i : Int)) (f := (fJ Gl t f f : Int)) (by omega) (by have := g.j; omega) (by omega) (by have := g.h; omega) (by have := g.ne; omega)
    have gr := glue_root a.ok a.g ht hf hi hne hg
    have gu := g.u
    have gj := g.j
    rw [arcV_ps hf hi hne, arcV_ps g.h g.j g.ne] at e ⊢
    rw [restL_q a.l t _ (by omega), restL_q a.l _ _ (by omega), restL_t a.ok a.g a.l (by omega), restL_t a.ok a.g a.l (by omega)]
    rw [show rootL (vxC Gl n) (4 * fU Gl t f + fJ Gl t f i) = rootL (vxC Gl n) (4 * t + i) from gr.symm]
    omega
theorem Adm.adm {Gl V : List Int} {n : Nat} (a : Adm Gl n V) : admB Gl n V = true := admB_iff.2 ⟨a.l, a.w, a.q, a.e⟩
theorem rest_min {Gl V : List Int} {n : Nat} (a : Adm Gl n V) {x : Nat} (hx : x < 4 * n) (e : rootL (vxC Gl n) x = x) : mC (vxC Gl n) (restL Gl n V) n x = 0 := by
  refine (mC_eq hx e (fun w hw h => (a.rt hw).1) ?_).symm
  obtain ⟨w, h1, h2, h3⟩ := mC_at (V := V) hx e
  exact ⟨w, h1, h2, by rw [restL_t a.ok a.g a.l h1, h2, h3]; omega⟩
theorem rest_part {Gl V : List Int} {n : Nat} (a : Adm Gl n V) : partL Gl n (restL Gl n V) = List.replicate (vxF Gl n).length 0 := by
  unfold partL
  rw [List.eq_replicate_iff]
  refine ⟨by simp, fun y hy => ?_⟩
  obtain ⟨x, hx, rfl⟩ := List.mem_map.1 hy
  obtain ⟨k, rfl, h1, h2⟩ := vxF_mem hx
  exact rest_min a h1 h2
theorem rest_zero {Gl V : List Int} {n : Nat} (a : Adm Gl n V) (h0 : ∀ t k, t < n → k < 3 → V.getD (7 * t + 4 + k) 0 = 0) {w : Nat} (hw : w < 4 * n) : (restL Gl n V).getD (ps w) 0 = 0 := by
  rw [restL_t a.ok a.g a.l hw]
  obtain ⟨r1, r2⟩ := a.root hw
  obtain ⟨v, h1, h2, h3⟩ := mC_at (V := V) r1 r2
  have := class_const (S := fun x => V.getD (ps x) 0 = V.getD (ps w) 0) a.ok a.g (fun t f i ht hf hi hne hg => by
    have g := FGl.of a.ok a.g ht hf hi hne hg
    have e := glue_arc a.ok a.g a.e ht hf hi hne hg
    have r1 := ty_range (i := (i : Int)) (f := (f : Int)) (by omega) (by omega) (by omega) (by omega) (by omega)
    have r2 := ty_range (i := (fJ Gl t f i : Int)) (f := (fJ Gl t f f : Int)) (by omega) (by have := g.j; omega) (by omega) (by have := g.h; omega) (by have := g.ne; omega)
    rw [arcV_ps hf hi hne, arcV_ps g.h g.j g.ne, h0 _ _ ht (by omega), h0 _ _ g.u (by omega)] at e
    have e' : V.getD (ps (4 * t + i)) 0 = V.getD (ps (fV Gl t f i)) 0 := by
      show _ = V.getD (ps (4 * fU Gl t f + fJ Gl t f i)) 0
      omega
    show V.getD (ps (4 * t + i)) 0 = _ ↔ V.getD (ps (fV Gl t f i)) 0 = _
    rw [e']) h1 hw h2
  have := this.2 rfl
  omega
end Go.Proofs.Ytcnndelmnobigaa

namespace Go.Proofs.Ytcnndelmnobigaa
open Go Go.Ab Go.Proofs
set_option maxRecDepth 100000
set_option linter.unusedVariables false
set_option linter.unusedSimpArgs false
structure BI (Gl V : List Int) (n x : Nat) (X0 : List Int) (K0 : List Bool) (s : FSt) : Prop where
  ok : ∃ B, 0 ≤ B ∧ FOk n s B
  rt : ∀ w, w ∈ s.Q → rootL (vxC Gl n) w = x
  kn : ∀ w, w < 4 * n → rootL (vxC Gl n) w = x → s.K.getD w false = true → w ∈ s.Q
  vl : ∀ w, w ∈ s.Q → s.X.getD (ps w) 0 = V.getD (ps w) 0 - V.getD (ps x) 0
  qd : ∀ t k, k < 3 → s.X.getD (7 * t + 4 + k) 0 = V.getD (7 * t + 4 + k) 0
  m1 : ∀ w, w ∈ s.Q → s.m ≤ V.getD (ps w) 0 - V.getD (ps x) 0
  m2 : ∃ w, w ∈ s.Q ∧ s.m = V.getD (ps w) 0 - V.getD (ps x) 0
  fr : ∀ w, w < 4 * n → rootL (vxC Gl n) w ≠ x → s.K.getD w false = K0.getD w false ∧ s.X.getD (ps w) 0 = X0.getD (ps w) 0
  fs : x ∈ s.Q
theorem fW_val {Gl V X : List Int} {n t f i : Nat} {d : Int} (a : Adm Gl n V) (ht : t < n) (hf : f < 4) (hi : i < 4) (hne : i ≠ f) (hg : ¬ tetL (faceL Gl t f) < 0)
    (h1 : X.getD (ps (4 * t + i)) 0 = V.getD (ps (4 * t + i)) 0 - d) (hq : ∀ t k, k < 3 → X.getD (7 * t + 4 + k) 0 = V.getD (7 * t + 4 + k) 0) :
    fW Gl X t f i = V.getD (ps (fV Gl t f i)) 0 - d := by
  have g := FGl.of a.ok a.g ht hf hi hne hg
  have e := glue_arc a.ok a.g a.e ht hf hi hne hg
  have r1 := ty_range (i := (i : Int)) (f := (f : Int)) (by omega) (by omega) (by omega) (by omega) (by omega)
  have r2 := ty_range (i := (fJ Gl t f i : Int)) (f := (fJ Gl t f f : Int)) (by omega) (by have := g.j; omega) (by omega) (by have := g.h; omega) (by have := g.ne; omega)
  rw [arcV_ps hf hi hne, arcV_ps g.h g.j g.ne] at e
  unfold fW
  rw [arcV_ps hf hi hne, h1, hq t _ (by omega), gi, show (7 * (fU Gl t f : Int) + 4 + ty (fJ Gl t f i) (fJ Gl t f f)).toNat = 7 * fU Gl t f + 4 + (ty (fJ Gl t f i) (fJ Gl t f f)).toNat by omega, hq _ _ (by omega)]
  show _ = V.getD (ps (4 * fU Gl t f + fJ Gl t f i)) 0 - d
  omega
theorem bstep {Gl V X0 : List Int} {K0 : List Bool} {n x t f i : Nat} {s : FSt} (a : Adm Gl n V) (b : BI Gl V n x X0 K0 s) (ht : t < n) (hf : f < 4) (hi : i < 4) (hm : 4 * t + i ∈ s.Q) :
    ∃ s', fStep Gl true t i f s = some s' ∧ BI Gl V n x X0 K0 s' ∧ (∃ R, s'.Q = s.Q ++ R) ∧ (f ≠ i → ¬ tetL (faceL Gl t f) < 0 → fV Gl t f i ∈ s'.Q) := by
  unfold fStep
  by_cases h1 : f = i ∨ tetL (faceL Gl t f) < 0
  · rw [if_pos h1]
    exact ⟨s, rfl, b, ⟨[], by simp⟩, fun q1 q2 => absurd h1 (by simp [q1, q2])⟩
  rw [if_neg h1]
  have hne : i ≠ f := fun q => h1 (.inl q.symm)
  have hg : ¬ tetL (faceL Gl t f) < 0 := fun q => h1 (.inr q)
  have g := FGl.of a.ok a.g ht hf hi hne hg
  have gr := glue_root a.ok a.g ht hf hi hne hg
  have hw := fW_val a ht hf hi hne hg (b.vl _ hm) b.qd
  have hr : rootL (vxC Gl n) (fV Gl t f i) = x := by rw [← gr]; exact b.rt _ hm
  have hv : fV Gl t f i < 4 * n := by have := g.u; have := g.j; unfold fV; omega
  have hps : 7 * fU Gl t f + fJ Gl t f i = ps (fV Gl t f i) := (ps_mk g.j).symm
  obtain ⟨B, hB, ok⟩ := b.ok
  by_cases hk : s.K.getD (fV Gl t f i) false = false
  · rw [if_pos hk]
    have pu := ok.push hB ht hf hi hne g hk
    refine ⟨_, rfl, ?_, ⟨_, rfl⟩, fun _ _ => by simp⟩
    rw [hps, hw] at pu ⊢
    have hlt := ps_lt hv
    have hxl := ok.xl
    have hkl := ok.kl
    have key : ∀ w, (s.X.set (ps (fV Gl t f i)) (V.getD (ps (fV Gl t f i)) 0 - V.getD (ps x) 0)).getD (ps w) 0 = if w = fV Gl t f i then V.getD (ps w) 0 - V.getD (ps x) 0 else s.X.getD (ps w) 0 := fun w => by
      rw [getD_set]
      by_cases e : w = fV Gl t f i
      · rw [if_pos ⟨by rw [e], by omega⟩, if_pos e, e]
      · rw [if_neg (fun q => e (ps_inj q.1).symm), if_neg e]
    have kk : ∀ w, (s.K.set (fV Gl t f i) true).getD w false = if w = fV Gl t f i then true else s.K.getD w false := fun w => by
      rw [getDB_set]
      by_cases e : w = fV Gl t f i
      · rw [if_pos ⟨e.symm, by omega⟩, if_pos e]
      · rw [if_neg (fun q => e q.1.symm), if_neg e]
    refine ⟨⟨_, by omega, pu⟩, fun w h => ?_, fun w h1 h2 h3 => ?_, fun w h => ?_, fun t k hk => ?_, fun w h => ?_, ?_, fun w h1 h2 => ?_, by simp [b.fs]⟩
    · rcases List.mem_append.1 h with h | h
      · exact b.rt w h
      · rw [List.mem_singleton.1 h]; exact hr
    · rw [kk] at h3
      by_cases e : w = fV Gl t f i
      · rw [e]; simp
      · rw [if_neg e] at h3
        exact List.mem_append_left _ (b.kn w h1 h2 h3)
    · rw [key]
      rcases List.mem_append.1 h with h | h
      · split
        · rfl
        · exact b.vl w h
      · rw [if_pos (List.mem_singleton.1 h)]
    · rw [getD_set, if_neg (fun q => ps_quad hk q.1)]
      exact b.qd t k hk
    · show min s.m _ ≤ _
      rcases List.mem_append.1 h with h | h
      · have := b.m1 w h; omega
      · rw [List.mem_singleton.1 h]; omega
    · show ∃ w, _ ∧ min s.m _ = _
      obtain ⟨v, v1, v2⟩ := b.m2
      rcases Int.le_total s.m (V.getD (ps (fV Gl t f i)) 0 - V.getD (ps x) 0) with q | q
      · exact ⟨v, List.mem_append_left _ v1, by omega⟩
      · exact ⟨fV Gl t f i, by simp, by omega⟩
    · have e : w ≠ fV Gl t f i := fun e => h2 (by rw [e, hr])
      rw [kk, key, if_neg e, if_neg e]
      exact b.fr w h1 h2
  · rw [if_neg hk]
    have hk' : s.K.getD (fV Gl t f i) false = true := by simpa using hk
    have hq := b.kn _ hv hr hk'
    rw [hps, hw, if_neg (fun q => q.2 (b.vl _ hq))]
    exact ⟨s, rfl, b, ⟨[], by simp⟩, fun _ _ => hq⟩
theorem bfaces {Gl V X0 : List Int} {K0 : List Bool} {n x t i : Nat} (a : Adm Gl n V) (ht : t < n) (hi : i < 4) : ∀ (k f : Nat) (s : FSt), f + k ≤ 4 → BI Gl V n x X0 K0 s → 4 * t + i ∈ s.Q →
    ∃ s', fFaces Gl true t i k f s = some s' ∧ BI Gl V n x X0 K0 s' ∧ (∃ R, s'.Q = s.Q ++ R) ∧ ∀ g, f ≤ g → g < f + k → g ≠ i → ¬ tetL (faceL Gl t g) < 0 → fV Gl t g i ∈ s'.Q
  | 0, f, s, _, b, hm => ⟨s, rfl, b, ⟨[], by simp⟩, fun g h1 h2 => by omega⟩
  | k + 1, f, s, hf, b, hm => by
    obtain ⟨s1, e1, b1, ⟨R1, q1⟩, n1⟩ := bstep a b ht (by omega : f < 4) hi hm
    obtain ⟨s2, e2, b2, ⟨R2, q2⟩, n2⟩ := bfaces a ht hi k (f + 1) s1 (by omega) b1 (by rw [q1]; simp [hm])
    refine ⟨s2, by rw [fFaces, e1]; exact e2, b2, ⟨R1 ++ R2, by rw [q2, q1, List.append_assoc]⟩, fun g h1 h2 h3 h4 => ?_⟩
    by_cases e : g = f
    · subst e
      rw [q2]
      exact List.mem_append_left _ (n1 h3 h4)
    · exact n2 g (by omega) (by omega) h3 h4
def NB (Gl : List Int) (Q : List Nat) (w : Nat) : Prop := ∀ g, g < 4 → g ≠ w % 4 → ¬ tetL (faceL Gl (w / 4) g) < 0 → fV Gl (w / 4) g (w % 4) ∈ Q
theorem bq {Gl V X0 : List Int} {K0 : List Bool} {n x : Nat} (a : Adm Gl n V) : ∀ (r k : Nat) (s : FSt), 4 * n ≤ r + k → BI Gl V n x X0 K0 s → (∀ j, j < k → j < s.Q.length → NB Gl s.Q (s.Q.getD j 0)) →
    ∃ s', fQ Gl true r k s = some s' ∧ BI Gl V n x X0 K0 s' ∧ ∀ w, w ∈ s'.Q → NB Gl s'.Q w := by
  have stop : ∀ (k : Nat) (s : FSt), s.Q.length ≤ k → (∀ j, j < k → j < s.Q.length → NB Gl s.Q (s.Q.getD j 0)) → ∀ w, w ∈ s.Q → NB Gl s.Q w := fun k s hk h w hw => by
    obtain ⟨j, hj, rfl⟩ := List.getElem_of_mem hw
    have := h j (by omega) hj
    simpa [List.getD_eq_getElem?_getD, List.getElem?_eq_getElem hj] using this
  intro r
  induction r with
  | zero =>
    intro k s hk b h
    obtain ⟨B, hB, ok⟩ := b.ok
    exact ⟨s, rfl, b, stop k s (by have := ok.ql; omega) h⟩
  | succ r ih =>
    intro k s hk b h
    rw [fQ]
    by_cases hkq : k < s.Q.length
    case neg => rw [if_neg hkq]; exact ⟨s, rfl, b, stop k s (by omega) h⟩
    rw [if_pos hkq]
    obtain ⟨B, hB, ok⟩ := b.ok
    have hm : s.Q.getD k 0 ∈ s.Q := by simp [List.getD_eq_getElem?_getD, List.getElem?_eq_getElem hkq]
    have hw := (ok.qk _ hm).1
    obtain ⟨s1, e1, b1, ⟨R, q1⟩, n1⟩ := bfaces a (t := s.Q.getD k 0 / 4) (i := s.Q.getD k 0 % 4) (by omega) (by omega) 4 0 s (by omega) b (by rw [show 4 * (s.Q.getD k 0 / 4) + s.Q.getD k 0 % 4 = s.Q.getD k 0 by omega]; exact hm)
    rw [e1]
    have hget : ∀ j, j < s.Q.length → s1.Q.getD j 0 = s.Q.getD j 0 := fun j hj => by
      rw [q1, List.getD_eq_getElem?_getD, List.getD_eq_getElem?_getD, List.getElem?_append_left hj]
    refine ih (k + 1) s1 (by omega) b1 fun j hj hjl => ?_
    by_cases e : j = k
    · subst e
      rw [hget j hkq]
      exact fun g g1 g2 g3 => n1 g (by omega) (by omega) g2 g3
    · rw [hget j (by omega)]
      exact fun g g1 g2 g3 => by rw [q1]; exact List.mem_append_left _ (h j (by omega) (by omega) g g1 g2 g3)
theorem bclass {Gl V X : List Int} {K : List Bool} {n x : Nat} {B : Int} (a : Adm Gl n V) (hx : x < 4 * n) (hr : rootL (vxC Gl n) x = x) (hX : X.length = 7 * n) (hK : K.length = 4 * n) (hB : 0 ≤ B) (xb : ∀ j : Nat, -B ≤ X.getD j 0 ∧ X.getD j 0 ≤ B)
    (hq : ∀ t k, k < 3 → X.getD (7 * t + 4 + k) 0 = V.getD (7 * t + 4 + k) 0) (hu : ∀ w, w < 4 * n → rootL (vxC Gl n) w = x → K.getD w false = false) (hx0 : X.getD (ps x) 0 = 0) :
    ∃ X' K' B', fClass Gl true n x X K = some (X', K') ∧ X'.length = 7 * n ∧ K'.length = 4 * n ∧ 0 ≤ B' ∧ (∀ j : Nat, -B' ≤ X'.getD j 0 ∧ X'.getD j 0 ≤ B') ∧ (∀ t k, k < 3 → X'.getD (7 * t + 4 + k) 0 = V.getD (7 * t + 4 + k) 0) ∧
      (∀ w, w < 4 * n → rootL (vxC Gl n) w = x → X'.getD (ps w) 0 = (restL Gl n V).getD (ps w) 0) ∧ (∀ w, w < 4 * n → rootL (vxC Gl n) w ≠ x → X'.getD (ps w) 0 = X.getD (ps w) 0 ∧ K'.getD w false = K.getD w false) := by
  have st := FOk.start (first := x) hX hK hx hB xb (fun t k hk => by rw [hq t k hk]; exact a.b _)
  have kk : ∀ w, (K.set x true).getD w false = if w = x then true else K.getD w false := fun w => by
    rw [getDB_set]
    by_cases e : w = x
    · rw [if_pos ⟨e.symm, by omega⟩, if_pos e]
    · rw [if_neg (fun q => e q.1.symm), if_neg e]
  have b0 : BI Gl V n x X K ⟨X, K.set x true, [x], 0⟩ := by
    refine ⟨⟨B, hB, st⟩, fun w h => ?_, fun w h1 h2 h3 => ?_, fun w h => ?_, hq, fun w h => ?_, ⟨x, by simp, by show (0 : Int) = _; omega⟩, fun w h1 h2 => ⟨?_, rfl⟩, by simp⟩
    · rw [List.mem_singleton.1 h, hr]
    · rw [kk] at h3
      by_cases e : w = x
      · rw [e]; simp
      · rw [if_neg e, hu w h1 h2] at h3; cases h3
    · rw [List.mem_singleton.1 h, hx0]; omega
    · rw [List.mem_singleton.1 h]; show (0 : Int) ≤ _; omega
    · rw [kk, if_neg (fun e => h2 (by rw [e, hr]))]
  obtain ⟨s, e, b, cl⟩ := bq a (4 * n) 0 _ (by omega) b0 (fun j hj => by omega)
  obtain ⟨B', hB', ok⟩ := b.ok
  have all : ∀ w, w < 4 * n → rootL (vxC Gl n) w = x → w ∈ s.Q := fun w hw e => by
    refine (class_const (S := fun w => w ∈ s.Q) a.ok a.g (fun t f i ht hf hi hne hg => ?_) hx hw (by rw [hr, e])).1 b.fs
    have g := FGl.of a.ok a.g ht hf hi hne hg
    obtain ⟨z1, z2, z3, z4, z5⟩ := flip_face a.ok a.g ht hf hi hne hg
    constructor
    · intro h
      have := cl _ h f hf
      rw [show (4 * t + i) / 4 = t by omega, show (4 * t + i) % 4 = i by omega] at this
      exact this (fun q => hne q.symm) hg
    · intro h
      have := cl _ h (fJ Gl t f f) g.h
      have gj := g.j
      unfold fV at this
      rw [show (4 * fU Gl t f + fJ Gl t f i) / 4 = fU Gl t f by omega, show (4 * fU Gl t f + fJ Gl t f i) % 4 = fJ Gl t f i by omega, z1, z3] at this
      exact this (fun q => g.ne q.symm) z2
  have sq := fun j => subQ_getD s.m ok.nd (fun w hw => (ok.qk w hw).1) ok.xl j
  have hm : s.m + V.getD (ps x) 0 = mC (vxC Gl n) V n x := mC_eq hx hr (fun w hw h => by have := b.m1 w (all w hw h); omega) (by
    obtain ⟨w, w1, w2⟩ := b.m2
    exact ⟨w, (ok.qk w w1).1, b.rt w w1, by omega⟩)
  refine ⟨subQ s.m s.Q s.X, s.K, 2 * B', by rw [fClass, e]; rfl, by rw [subQ_length]; exact ok.xl, ok.kl, by omega, subQ_bound ok, fun t k hk => by rw [subQ_quad ok t k hk]; exact b.qd t k hk, fun w hw h => ?_, fun w hw h => ⟨?_, (b.fr w hw h).1⟩⟩
  · rw [(sq (ps w)).1 w (all w hw h) rfl, b.vl w (all w hw h), restL_t a.ok a.g a.l hw, h]
    omega
  · rw [(sq (ps w)).2 (fun v hv q => h (by rw [← ps_inj q]; exact b.rt v hv))]
    exact (b.fr w hw h).2
theorem ball {Gl V : List Int} {n : Nat} (a : Adm Gl n V) : ∀ (F X : List Int) (K : List Bool) (B : Int), F.Nodup → (∀ y, y ∈ F → ∃ x : Nat, y = x ∧ x < 4 * n ∧ rootL (vxC Gl n) x = x) → X.length = 7 * n → K.length = 4 * n → 0 ≤ B → (∀ j : Nat, -B ≤ X.getD j 0 ∧ X.getD j 0 ≤ B) →
    (∀ t k, k < 3 → X.getD (7 * t + 4 + k) 0 = V.getD (7 * t + 4 + k) 0) → (∀ w, w < 4 * n → ((rootL (vxC Gl n) w : Nat) : Int) ∈ F → K.getD w false = false ∧ X.getD (ps w) 0 = 0) →
    ∃ X', fAll Gl true n F X K = some X' ∧ X'.length = 7 * n ∧ (∀ t k, k < 3 → X'.getD (7 * t + 4 + k) 0 = V.getD (7 * t + 4 + k) 0) ∧
      (∀ w, w < 4 * n → X'.getD (ps w) 0 = if ((rootL (vxC Gl n) w : Nat) : Int) ∈ F then (restL Gl n V).getD (ps w) 0 else X.getD (ps w) 0)
  | [], X, K, B, _, _, hX, _, _, _, hq, _ => ⟨X, rfl, hX, hq, fun w hw => by rw [if_neg (by simp)]⟩
  | y :: F, X, K, B, nd, hF, hX, hK, hB, xb, hq, hu => by
    rw [List.nodup_cons] at nd
    obtain ⟨x, rfl, hx, hr⟩ := hF y (by simp)
    obtain ⟨X1, K1, B1, e, l1, l2, hB1, xb1, q1, v1, v2⟩ := bclass a hx hr hX hK hB xb hq (fun w hw h => (hu w hw (by rw [h]; simp)).1) ((hu x hx (by rw [hr]; simp)).2)
    have hnx : ∀ w, ((rootL (vxC Gl n) w : Nat) : Int) ∈ F → rootL (vxC Gl n) w ≠ x := fun w h q => nd.1 (by rw [← q]; exact h)
    obtain ⟨X2, e2, l3, q2, v3⟩ := ball a F X1 K1 B1 nd.2 (fun y hy => hF y (by simp [hy])) l1 l2 hB1 xb1 q1 (fun w hw h => by
      obtain ⟨z1, z2⟩ := v2 w hw (hnx w h)
      obtain ⟨z3, z4⟩ := hu w hw (by simp [h])
      exact ⟨by rw [z2, z3], by rw [z1, z4]⟩)
    refine ⟨X2, by rw [fAll, Int.toNat_natCast, e]; exact e2, l3, q2, fun w hw => ?_⟩
    rw [v3 w hw]
    by_cases h1 : ((rootL (vxC Gl n) w : Nat) : Int) ∈ F
    · rw [if_pos h1, if_pos (by simp [h1])]
    · rw [if_neg h1]
      by_cases h2 : rootL (vxC Gl n) w = x
      · rw [if_pos (by rw [h2]; simp), v1 w hw h2]
      · rw [if_neg (by simp [h1]; omega), (v2 w hw h2).1]
theorem fill_rest {Gl V Qd : List Int} {n : Nat} (a : Adm Gl n V) (hQ : Qd.length = 3 * n) (h : ∀ t k, t < n → k < 3 → Qd.getD (3 * t + k) 0 = V.getD (7 * t + 4 + k) 0) : fillX Gl n Qd = some (restL Gl n V) := by
  have hb : ∀ j : Nat, 0 ≤ Qd.getD j 0 ∧ Qd.getD j 0 ≤ 1000000 := fun j => by
    by_cases hj : j < 3 * n
    · have := h (j / 3) (j % 3) (by omega) (by omega)
      rw [show 3 * (j / 3) + j % 3 = j by omega] at this
      rw [this]; exact a.b _
    · rw [List.getD_eq_getElem?_getD, List.getElem?_eq_none (by omega)]
      exact ⟨Int.le_refl _, by decide⟩
  have xb := fill0_bound (n := n) hQ (fun j => by
    have := hb j.toNat
    exact this)
  have hl := a.l
  obtain ⟨X, e, l, q, v⟩ := ball a (vxF Gl n) (fill0 Qd n) (List.replicate (4 * n) false) 1000000 (firstsL_nodup _ _) (fun y hy => vxF_mem hy) (fill0_length hQ) (by simp) (by omega) (fun j => by have := xb j; omega)
    (fun t k hk => by
      rw [fill0_quad hQ t k hk]
      split
      · rename_i ht; exact h t k ht hk
      · rw [List.getD_eq_getElem?_getD, List.getElem?_eq_none (by omega)]; rfl)
    (fun w hw _ => ⟨by
      rw [List.getD_eq_getElem?_getD, List.getElem?_replicate]
      split <;> rfl, by
      have := fill0_tri hQ (w / 4) (w % 4) (by omega)
      rw [show 7 * (w / 4) + w % 4 = ps w by unfold ps; omega] at this
      exact this⟩)
  unfold fillX
  rw [e]
  congr 1
  refine list_pos l (restL_length a.l) (fun w hw => ?_) (fun t k ht hk => by rw [q t k hk, restL_q a.l t k hk])
  obtain ⟨r1, r2⟩ := a.root hw
  rw [v w hw, if_pos (vxF_iff.2 ⟨r1, r2⟩)]
end Go.Proofs.Ytcnndelmnobigaa

namespace Go.Proofs.Ytcnndelmnobigaa
open Go Go.Ab Go.Proofs
set_option maxRecDepth 100000
set_option linter.unusedVariables false
set_option linter.unusedSimpArgs false
end Go.Proofs.Ytcnndelmnobigaa

namespace Go.Proofs.Ytcnndelmnobigaa
open Go Go.Ab Go.Proofs
set_option maxRecDepth 100000
set_option linter.unusedVariables false
set_option linter.unusedSimpArgs false
theorem AppG.len {c0 : Nat} {h : FH} {c : Nat} {v : Value} {n : Nat} {cs : List Value} (ha : AppG c0 h c v n cs) : lenS v = some (.int .i64 n) := by
  obtain ⟨_, _, _, i, op, rfl, _⟩ := ha; rfl
end Go.Proofs.Ytcnndelmnobigaa

namespace Go.Proofs.Ytcnndelmnobigaa
open Go Go.Ab Go.Proofs
set_option maxRecDepth 100000
set_option linter.unusedVariables false
set_option linter.unusedSimpArgs false
def LkR (h : FH) (c0 : Nat) (w : Value) (n : Nat) (C : List Int) (m : Nat) (Fl : List Int) : Prop :=
  lenS w = some (.int .i64 m) ∧ ∀ i, i < m → ∃ l p x, Fl[i]? = some x ∧ ixS 1 w (.int .i64 i) = some p ∧ (∃ b o, p = .pointer (some ⟨b, o, none⟩) ∧ b < 256 * c0) ∧ ld1 h p = some l ∧ SlI h c0 l 1 (7 * n) (lkRow C n x) ∧ SlX h l 1 (7 * n)
theorem LkV.rows {c1 : Nat} {h : FH} {c : Nat} {w : Value} {n : Nat} {C : List Int} {m : Nat} {Fl : List Int} (hv : LkV c1 h c w n C m Fl) (hm : m = Fl.length) : LkR h c w n C m Fl := by
  obtain ⟨vals, ⟨h1, h2, h3, b, op, rfl, h5, h6, h7, h8⟩, h9⟩ := hv
  refine ⟨rfl, fun i hi => ?_⟩
  have hx : Fl[i]? = some (Fl[i]'(by omega)) := List.getElem?_eq_getElem (by omega)
  obtain ⟨l, l1, ⟨b', rfl, y2, y3, y4, y5, y6⟩, l3⟩ := h9 i _ hi hx
  refine ⟨.slice (some ⟨b', 0, none⟩) (7 * n) (7 * n), .pointer (some ⟨b, 0 + (i : Int).toNat * 1, none⟩), _, hx, ixS_sl _ _ _ _ _ _ _ (by omega) (by omega), ⟨_, _, rfl, h6⟩, ?_, ⟨by rw [y5]; omega, by omega, _, _, rfl, .inr ⟨b', 0, ints _, rfl, y3, ⟨false, none, y4⟩, ?_⟩⟩, ⟨Nat.le_refl _, ?_⟩⟩
  · rw [ld1_holds' (cs := vals) ⟨false, op, h7⟩]
    simpa using l1
  · rw [List.drop_zero, List.take_of_length_le (by simp [y5])]
  · have : HeapC.get h b' = some (.cells false none (ints (lkRow C n (Fl[i]'(by omega))))) := y4
    simp only [adrOf, szOk, this]
theorem ld1_same {h h' : FH} {c b o : Nat} (hs : Same c h h') (hb : b < 256 * c) : ld1 h' (.pointer (some ⟨b, o, none⟩)) = ld1 h (.pointer (some ⟨b, o, none⟩)) := by
  have : HeapC.get h' b = HeapC.get h b := hs b hb
  simp only [ld1, asPtr, Option.bind_some, rdCell, getCells, this]
theorem LkR.same {h h' : FH} {c0 : Nat} {w : Value} {n : Nat} {C : List Int} {m : Nat} {Fl : List Int} (hr : LkR h c0 w n C m Fl) (hs : Same c0 h h') : LkR h' c0 w n C m Fl := by
  obtain ⟨h1, h2⟩ := hr
  refine ⟨h1, fun i hi => ?_⟩
  obtain ⟨l, p, x, e1, e2, ⟨b, o, rfl, e3⟩, e4, e5, e6⟩ := h2 i hi
  exact ⟨l, _, x, e1, e2, ⟨b, o, rfl, e3⟩, (ld1_same hs e3).trans e4, e5.same hs, SlX.keep e5 hs e6⟩
end Go.Proofs.Ytcnndelmnobigaa

namespace Go.Proofs.Ytcnndelmnobigaa
open Go Go.Ab Go.Proofs
set_option maxRecDepth 100000
set_option linter.unusedVariables false
set_option linter.unusedSimpArgs false
theorem sameInts_loop (a b : Value) (m : Nat) (A B : List Int) (h : FH) (c : Nat) (ha : SlI h c a 1 m A) (hb : SlI h c b 1 m B) (df : List Nat) : ∀ (k i : Nat), i + k = m →
    Ans (G (f21_k21000 none) [a, b, .bool false, .int .i64 i] h c df) fun r => r.h = h ∧ r.c = c ∧ r.df = df ∧ ((r.e = .exit 0 ∧ ∀ j : Nat, i ≤ j → j < m → gi A j = gi B j) ∨ (r.e = .ret ∧ r.v 2 = .bool false ∧ ∃ j : Nat, j < m ∧ gi A j ≠ gi B j)) := by
  intro k
  have o1 := ha.okV
  have o2 := hb.okV
  have la := ha.len
  have hm := ha.2.1
  induction k with
  | zero =>
    intro i hi
    obtain rfl : i = m := by omega
    refine Ans.loop (fun q r => f21_N21000) (fun q => f21_Z21000) ?_
    unfold f21_L21000
    have fx := la
    refine Ans.go ?_
    clear fx
    (have fx := And.intro o1 o2; refine Ans.ex0 ?_; clear fx)
    exact ⟨rfl, rfl, rfl, .inl ⟨rfl, fun j h1 h2 => by omega⟩⟩
  | succ k ih =>
    intro i hi
    have l1 := ha.rdi i (by omega) (by omega)
    have l2 := hb.rdi i (by omega) (by omega)
    simp only [Int.toNat_natCast] at l1 l2
    obtain ⟨x, hx⟩ : ∃ x, gi A i = x := ⟨_, rfl⟩
    obtain ⟨y, hy⟩ : ∃ y, gi B i = y := ⟨_, rfl⟩
    rw [hx] at l1
    rw [hy] at l2
    have him : (i : Int) < m := by omega
    refine Ans.loop (fun q r => f21_N21000) (fun q => f21_Z21000) ?_
    unfold f21_L21000
    by_cases e : x = y
    · have fx := And.intro la (And.intro ha.ixs1 (And.intro hb.ixs1 (And.intro l1 l2)))
      refine Ans.go ?_
      clear fx
      (have fx := And.intro o1 o2; refine Ans.nx0 ?_; clear fx)
      refine (ih (i + 1) (by omega)).mono ?_
      rintro r ⟨q1, q2, q3, q4⟩
      refine ⟨q1, q2, q3, q4.imp (fun ⟨a, b⟩ => ⟨a, fun j h1 h2 => ?_⟩) id⟩
      by_cases ej : j = i
      · rw [ej, hx, hy, e]
      · exact b j (by omega) h2
    · have fx := And.intro la (And.intro ha.ixs1 (And.intro hb.ixs1 (And.intro l1 l2)))
      refine Ans.go ?_
      clear fx
      (have fx := And.intro o1 o2; refine Ans.rt0 ?_; clear fx)
      exact ⟨rfl, rfl, rfl, .inr ⟨rfl, rfl, i, by omega, by rw [hx, hy]; exact e⟩⟩
theorem gi_ext {A B : List Int} (hl : A.length = B.length) (h : ∀ j : Nat, j < A.length → gi A j = gi B j) : A = B := by
  refine List.ext_getElem hl fun j h1 h2 => ?_
  have := h j h1
  rw [gi_nat, gi_nat, List.getD_eq_getElem?_getD, List.getD_eq_getElem?_getD, List.getElem?_eq_getElem h1, List.getElem?_eq_getElem h2] at this
  exact this
theorem sameInts_sp (a b : Value) (m n : Nat) (A B : List Int) (h : FH) (c : Nat) (df : List Nat) (ha : SlI h c a 1 m A) (hb : SlI h c b 1 n B) :
    G (.fn 21) [a, b] h c df = some { e := .ret, vs := [.bool (decide (A = B))], h := h, c := c, df := [] } := by
  refine pure_of' (fun r e => f21_go e) (by simp) ?_
  unfold f21_S
  have la := ha.len
  have lb := hb.len
  have hA := ha.1
  have hB := hb.1
  by_cases e : m = n
  · subst e
    obtain ⟨⟨re, rv, rh, rc, rd⟩, hr, r1, r2, r3, r4⟩ := sameInts_loop a b m A B h (c + 1 + 1 + 1) (ha.mono (by omega)) (hb.mono (by omega)) [] m 0 (by omega)
    simp only at r1 r2 r3 r4
    subst r1 r2 r3
    simp only [Int.ofNat_eq_natCast, Int.cast_ofNat_Int] at hr
    rcases r4 with ⟨rfl, r5⟩ | ⟨rfl, r5, j, j1, j2⟩
    · have : A = B := gi_ext (by omega) (fun j hj => r5 j (by omega) (by omega))
      rw [decide_eq_true this]
      have fx := And.intro la (And.intro lb hr)
      refine Ans.go ?_
      clear fx
      exact Ans.pure rfl (by simp)
    · have : ¬ A = B := fun e => j2 (by rw [e])
      rw [decide_eq_false this]
      have fx := And.intro la (And.intro lb hr)
      refine Ans.go ?_
      clear fx
      exact Ans.pure r5 (by simp)
  · have : ¬ A = B := fun h => e (by rw [h] at hA; omega)
    rw [decide_eq_false this]
    have e' : ¬ ((m : Int) = n) := by omega
    have fx := And.intro la lb
    refine Ans.go ?_
    clear fx
    exact Ans.pure rfl (by simp)
end Go.Proofs.Ytcnndelmnobigaa

namespace Go.Proofs.Ytcnndelmnobigaa
open Go Go.Ab Go.Proofs
set_option maxRecDepth 100000
set_option linter.unusedVariables false
set_option linter.unusedSimpArgs false
def trm (Gl V : List Int) (n j : Nat) (x : Int) : Int := mC (vxC Gl n) V n x * gi (lkRow (vxC Gl n) n x) (j : Int)
def acc (Gl V : List Int) (n j k : Nat) : Int := gi (restL Gl n V) (j : Int) + sumL (((vxF Gl n).take k).map (trm Gl V n j))
theorem acc_full {Gl V : List Int} {n : Nat} (a : Adm Gl n V) {j : Nat} (hj : j < 7 * n) : acc Gl V n j (vxF Gl n).length = gi V (j : Int) := by
  unfold acc
  rw [List.take_length]
  exact part_sum a hj
theorem acc_bound {Gl V : List Int} {n : Nat} (a : Adm Gl n V) {j : Nat} (hj : j < 7 * n) (k : Nat) : 0 ≤ acc Gl V n j k ∧ acc Gl V n j k ≤ 1000000 := by
  have h1 := sumL_take_le (trm Gl V n j) (vxF Gl n) k (fun x hx => (part_terms a j x hx).1)
  have h2 := part_sum a hj
  have h3 := (rest_adm a).b j
  have h4 := a.b j
  rw [gi_nat, gi_nat] at h2
  unfold acc
  rw [gi_nat]
  have e : sumL ((vxF Gl n).map (trm Gl V n j)) = sumL ((vxF Gl n).map fun x => mC (vxC Gl n) V n x * gi (lkRow (vxC Gl n) n x) (j : Int)) := rfl
  omega
theorem acc_succ {Gl V : List Int} {n j k : Nat} {x : Int} (hx : (vxF Gl n)[k]? = some x) : acc Gl V n j (k + 1) = acc Gl V n j k + trm Gl V n j x := by
  unfold acc
  rw [List.take_add_one, hx, List.map_append, sumL_append]
  simp [sumL]
  omega
theorem pin_loop (v nl rs lk ql t2 : Value) (n : Nat) (Gl V : List Int) (i c : Nat) (h : FH) (df : List Nat) (a : Adm Gl n V) (hn : n ≤ 6) (hi : i < 7 * n) (hnl : SlI h c nl 1 (vxF Gl n).length (partL Gl n V)) (hlk : LkR h c lk n (vxC Gl n) (vxF Gl n).length (vxF Gl n))
    (o1 : OkV c v) (o2 : OkV c t2) (o6 : OkV c rs) (o8 : OkV c lk) (o10 : OkV c ql) : ∀ (r k : Nat), k + r = (vxF Gl n).length →
    Ans (G (f5_k5001 none) [v, t2, .bool false, nl, rs, lk, ql, .int .i64 i, .int .i64 (acc Gl V n i k), .int .i64 k] h c df) fun q => q = { e := .exit 2, vs := [v, t2, .bool false, nl, rs, lk, ql, .int .i64 i, .int .i64 (acc Gl V n i (vxF Gl n).length), .int .i64 (vxF Gl n).length], h := h, c := c, df := df } := by
  intro r
  have o5 := hnl.okV
  obtain ⟨ll, hrow⟩ := hlk
  have hvl : (vxF Gl n).length ≤ 4 * n := firstsL_len _ _
  induction r with
  | zero =>
    intro k hk
    obtain rfl : k = (vxF Gl n).length := by omega
    refine Ans.loop (fun q r => f5_N5001) (fun q => f5_Z5001) ?_
    unfold f5_L5001
    have fx := ll
    refine Ans.go ?_
    clear fx
    (have fx := And.intro o1 (And.intro o2 (And.intro o5 (And.intro o6 (And.intro o8 o10)))); refine Ans.ex0 ?_; clear fx)
    rfl
  | succ r ih =>
    intro k hk
    obtain ⟨l, p, x, e1, e2, -, e4, e5, -⟩ := hrow k (by omega)
    have b1 := acc_bound a hi k
    have b2 := acc_bound a hi (k + 1)
    have l1 := hnl.rdi (k : Int) (by omega) (by omega)
    have hpk : gi (partL Gl n V) (k : Int) = mC (vxC Gl n) V n x := by
      unfold partL
      rw [gi_nat, List.getD_eq_getElem?_getD, List.getElem?_map, e1]; rfl
    rw [hpk, Int.toNat_natCast] at l1
    have l2 := e5.rdi (i : Int) (by omega) (by omega)
    rw [Int.toNat_natCast] at l2
    have bt := part_terms a i x (List.mem_of_getElem? e1)
    have hs := acc_succ (Gl := Gl) (V := V) (n := n) (j := i) e1
    unfold trm at hs
    obtain ⟨M, hM⟩ : ∃ M, mC (vxC Gl n) V n x = M := ⟨_, rfl⟩
    obtain ⟨R, hR⟩ : ∃ R, gi (lkRow (vxC Gl n) n x) (i : Int) = R := ⟨_, rfl⟩
    rw [hM, hR] at bt hs
    rw [hM] at l1
    rw [hR] at l2
    have hk1 := ih (k + 1) (by omega)
    obtain ⟨A, hA⟩ : ∃ A, acc Gl V n i k = A := ⟨_, rfl⟩
    obtain ⟨A', hA'⟩ : ∃ A', acc Gl V n i (k + 1) = A' := ⟨_, rfl⟩
    rw [hA] at b1 hs ⊢
    rw [hA'] at b2 hs hk1
    rw [hs] at hk1 b2
    obtain ⟨MR, hMR⟩ : ∃ MR, M * R = MR := ⟨_, rfl⟩
    rw [hMR] at bt hk1 b2
    have hmul : aBinOp P .mul 3 (.int .i64 M) (.int .i64 R) = some (.int .i64 MR) := by
      rw [← hMR]
      rw [← hMR] at bt
      exact aBinOp_mul _ _ _ (by omega) (by omega)
    have hkl : (k : Int) < (vxF Gl n).length := by omega
    refine Ans.loop (fun q r => f5_N5001) (fun q => f5_Z5001) ?_
    unfold f5_L5001
    have fx := And.intro ll (And.intro hnl.ixs1 (And.intro l1 (And.intro e2 (And.intro e4 (And.intro e5.ixs1 (And.intro l2 hmul))))))
    refine Ans.go ?_
    clear fx
    (have fx := And.intro o1 (And.intro o2 (And.intro o5 (And.intro o6 (And.intro o8 o10)))); refine Ans.nx0 ?_; clear fx)
    rw [hMR]
    exact hk1
theorem pout_loop (v nl rs lk ql t2 : Value) (n nv : Nat) (Gl V : List Int) (c : Nat) (h : FH) (df : List Nat) (a : Adm Gl n V) (hn : n ≤ 6) (hnv : nv = 7 * n) (hv : SlI h c v 1 nv V) (hrs : SlI h c rs 1 nv (restL Gl n V)) (hnl : SlI h c nl 1 (vxF Gl n).length (partL Gl n V)) (hlk : LkR h c lk n (vxC Gl n) (vxF Gl n).length (vxF Gl n))
    (o2 : OkV c t2) (o8 : OkV c lk) (o10 : OkV c ql) : ∀ (r i : Nat), i + r = nv →
    Ans (G (f5_k5000 none) [v, t2, .bool false, nl, rs, lk, ql, .int .i64 i] h c df) fun q => q = { e := .exit 0, vs := [v, t2, .bool false, nl, rs, lk, ql, .int .i64 nv], h := h, c := c, df := df } := by
  intro r
  have o1 := hv.okV
  have o5 := hnl.okV
  have o6 := hrs.okV
  have lv := hv.len
  subst hnv
  induction r with
  | zero =>
    intro i hi
    obtain rfl : i = 7 * n := by omega
    refine Ans.loop (fun q r => f5_N5000) (fun q => f5_Z5000) ?_
    unfold f5_L5000
    have fx := lv
    refine Ans.go ?_
    clear fx
    (have fx := And.intro o1 (And.intro o2 (And.intro o5 (And.intro o6 (And.intro o8 o10)))); refine Ans.ex0 ?_; clear fx)
    rfl
  | succ r ih =>
    intro i hi
    have hi7 : i < 7 * n := by omega
    have l1 := hrs.rdi (i : Int) (by omega) (by omega)
    rw [Int.toNat_natCast] at l1
    have hin := Ans.eq (pin_loop v nl rs lk ql t2 n Gl V i (c + 1 + 1 + 1) h df a hn hi7 (hnl.mono (by omega)) (by
      obtain ⟨x1, x2⟩ := hlk
      refine ⟨x1, fun k hk => ?_⟩
      obtain ⟨l, p, x, e1, e2, ⟨b, o, e3, e3'⟩, e4, e5, e6⟩ := x2 k hk
      exact ⟨l, p, x, e1, e2, ⟨b, o, e3, by omega⟩, e4, e5.mono (by omega), e6⟩) (o1.mono (by omega)) (o2.mono (by omega)) (o6.mono (by omega)) (o8.mono (by omega)) (o10.mono (by omega)) (vxF Gl n).length 0 (by omega))
    rw [acc_full a hi7] at hin
    rw [show acc Gl V n i 0 = gi (restL Gl n V) (i : Int) by unfold acc; simp [sumL]] at hin
    simp only [Int.ofNat_eq_natCast, Int.cast_ofNat_Int] at hin
    have l2 := hv.rdi (i : Int) (by omega) (by omega)
    rw [Int.toNat_natCast] at l2
    obtain ⟨A, hA⟩ : ∃ A, gi (restL Gl n V) (i : Int) = A := ⟨_, rfl⟩
    obtain ⟨B, hB⟩ : ∃ B, gi V (i : Int) = B := ⟨_, rfl⟩
    rw [hA] at l1 hin
    rw [hB] at l2 hin
    refine Ans.loop (fun q r => f5_N5000) (fun q => f5_Z5000) ?_
    unfold f5_L5000
    have fx := And.intro lv (And.intro hrs.ixs1 (And.intro l1 (And.intro hin (And.intro hv.ixs1 l2))))
    refine Ans.go ?_
    clear fx
    (have fx := And.intro o1 (And.intro o2 (And.intro o5 (And.intro o6 (And.intro o8 o10)))); refine Ans.nx0 ?_; clear fx)
    exact ih (i + 1) (by omega)
theorem pzero_loop (rs ql ml : Value) (m : Nat) (c : Nat) (h : FH) (df : List Nat) (hm : m ≤ 1000000) (hml : SlI h c ml 1 m (List.replicate m 0)) (o6 : OkV c rs) (o10 : OkV c ql) : ∀ (r k : Nat), k + r = m →
    Ans (G (f5_k5002 none) [.bool false, rs, ql, ml, .int .i64 k] h c df) fun q => q = { e := .exit 4, vs := [.bool false, rs, ql, ml, .int .i64 m], h := h, c := c, df := df } := by
  intro r
  have o1 := hml.okV
  have ll := hml.len
  induction r with
  | zero =>
    intro k hk
    obtain rfl : k = m := by omega
    refine Ans.loop (fun q r => f5_N5002) (fun q => f5_Z5002) ?_
    unfold f5_L5002
    have fx := ll
    refine Ans.go ?_
    clear fx
    (have fx := And.intro o1 (And.intro o6 o10); refine Ans.ex0 ?_; clear fx)
    rfl
  | succ r ih =>
    intro k hk
    have l1 := hml.rdi (k : Int) (by omega) (by omega)
    rw [gi_nat, rep_getD, Int.toNat_natCast] at l1
    refine Ans.loop (fun q r => f5_N5002) (fun q => f5_Z5002) ?_
    unfold f5_L5002
    have fx := And.intro ll (And.intro hml.ixs1 l1)
    refine Ans.go ?_
    clear fx
    (have fx := And.intro o1 (And.intro o6 o10); refine Ans.nx0 ?_; clear fx)
    exact ih (k + 1) (by omega)
def allZ (L : List Int) : Nat → Nat → Bool → Bool
  | 0, _, b => b
  | r + 1, i, b => allZ L r (i + 1) (b && decide (L.getD i 0 = 0))
theorem allZ_false (L : List Int) : ∀ (r i : Nat), allZ L r i false = false
  | 0, _ => rfl
  | r + 1, i => by rw [allZ, Bool.false_and]; exact allZ_false L r (i + 1)
theorem allZ_true (L : List Int) : ∀ (r i : Nat), allZ L r i true = true → ∀ j, i ≤ j → j < i + r → L.getD j 0 = 0
  | 0, _, _, j, h1, h2 => by omega
  | r + 1, i, h, j, h1, h2 => by
    rw [allZ, Bool.true_and] at h
    by_cases e : L.getD i 0 = 0
    · rw [decide_eq_true e] at h
      by_cases e2 : j = i
      · rw [e2]; exact e
      · exact allZ_true L r (i + 1) h j (by omega) (by omega)
    · rw [decide_eq_false e, allZ_false] at h; cases h
theorem pall_loop (rs ql : Value) (m : Nat) (Q : List Int) (c : Nat) (h : FH) (df : List Nat) (hm : m ≤ 1000000) (hq : SlI h c ql 1 m Q) (o6 : OkV c rs) : ∀ (r k : Nat) (b : Bool), k + r = m →
    Ans (G (f5_k5003 none) [.bool false, rs, ql, .bool b, .int .i64 k] h c df) fun q => q = { e := .exit 6, vs := [.bool false, rs, ql, .bool (allZ Q r k b), .int .i64 m], h := h, c := c, df := df } := by
  intro r
  have o1 := hq.okV
  have ll := hq.len
  induction r with
  | zero =>
    intro k b hk
    obtain rfl : k = m := by omega
    refine Ans.loop (fun q r => f5_N5003) (fun q => f5_Z5003) ?_
    unfold f5_L5003
    have fx := ll
    refine Ans.go ?_
    clear fx
    (have fx := And.intro o1 o6; refine Ans.ex0 ?_; clear fx)
    rfl
  | succ r ih =>
    intro k b hk
    have l1 := hq.rdi (k : Int) (by omega) (by omega)
    rw [gi_nat, Int.toNat_natCast] at l1
    rw [allZ]
    obtain ⟨A, hA⟩ : ∃ A, Q.getD k 0 = A := ⟨_, rfl⟩
    rw [hA] at l1 ⊢
    have hk1 := ih (k + 1) (b && decide (A = 0)) (by omega)
    cases b with
    | false =>
      rw [Bool.false_and] at hk1 ⊢
      refine Ans.loop (fun q r => f5_N5003) (fun q => f5_Z5003) ?_
      unfold f5_L5003
      have fx := ll
      refine Ans.go ?_
      clear fx
      (have fx := And.intro o1 o6; refine Ans.nx0 ?_; clear fx)
      exact hk1
    | true =>
      rw [Bool.true_and] at hk1 ⊢
      by_cases e : A = 0
      · rw [decide_eq_true e] at hk1 ⊢
        refine Ans.loop (fun q r => f5_N5003) (fun q => f5_Z5003) ?_
        unfold f5_L5003
        have fx := And.intro ll (And.intro hq.ixs1 l1)
        refine Ans.go ?_
        clear fx
        (have fx := And.intro o1 o6; refine Ans.nx0 ?_; clear fx)
        exact hk1
      · rw [decide_eq_false e] at hk1 ⊢
        refine Ans.loop (fun q r => f5_N5003) (fun q => f5_Z5003) ?_
        unfold f5_L5003
        have fx := And.intro ll (And.intro hq.ixs1 l1)
        refine Ans.go ?_
        clear fx
        (have fx := And.intro o1 o6; refine Ans.nx0 ?_; clear fx)
        exact hk1
theorem pnone_loop (rs : Value) (m : Nat) (R : List Int) (c : Nat) (h : FH) (df : List Nat) (hm : m ≤ 1000000) (hr : SlI h c rs 1 m R) (b : Bool) (hb : b = true → ∀ j, j < m → R.getD j 0 = 0) : ∀ (r k : Nat), k + r = m →
    Ans (G (f5_k5004 none) [.bool false, rs, .bool b, .int .i64 k] h c df) fun q => q.e = .exit 8 ∧ q.df = df := by
  intro r
  have o1 := hr.okV
  have ll := hr.len
  cases b with
  | false =>
    intro k hk
    by_cases hkm : (k : Int) < m
    · refine Ans.loop (fun q r => f5_N5004) (fun q => f5_Z5004) ?_
      unfold f5_L5004
      have fx := ll
      refine Ans.go ?_
      clear fx
      (have fx := o1; refine Ans.ex0 ?_; clear fx)
      exact ⟨rfl, rfl⟩
    · refine Ans.loop (fun q r => f5_N5004) (fun q => f5_Z5004) ?_
      unfold f5_L5004
      have fx := ll
      refine Ans.go ?_
      clear fx
      (have fx := o1; refine Ans.ex0 ?_; clear fx)
      exact ⟨rfl, rfl⟩
  | true =>
    induction r with
    | zero =>
      intro k hk
      obtain rfl : k = m := by omega
      refine Ans.loop (fun q r => f5_N5004) (fun q => f5_Z5004) ?_
      unfold f5_L5004
      have fx := ll
      refine Ans.go ?_
      clear fx
      (have fx := o1; refine Ans.ex0 ?_; clear fx)
      exact ⟨rfl, rfl⟩
    | succ r ih =>
      intro k hk
      have l1 := hr.rdi (k : Int) (by omega) (by omega)
      rw [gi_nat, Int.toNat_natCast, hb rfl k (by omega)] at l1
      have hkm : (k : Int) < m := by omega
      refine Ans.loop (fun q r => f5_N5004) (fun q => f5_Z5004) ?_
      unfold f5_L5004
      have fx := And.intro ll (And.intro hr.ixs1 l1)
      refine Ans.go ?_
      clear fx
      (have fx := o1; refine Ans.nx0 ?_; clear fx)
      exact ih (k + 1) (by omega)
end Go.Proofs.Ytcnndelmnobigaa

namespace Go.Proofs.Ytcnndelmnobigaa
open Go Go.Ab Go.Proofs
set_option maxRecDepth 100000
set_option linter.unusedVariables false
set_option linter.unusedSimpArgs false
theorem short1 (v : Value) (nv : Nat) (sb : Nat) (h : FH) (c : Nat) (hsb : sb < 256 * c) (hh : Holds h sb [v]) (h1 : lenS v = some (.int .i64 nv)) :
    callF G 18 [.slice (some ⟨sb, 0, none⟩) 1 1] h c = some (.bool (decide (nv ≤ 50)), h, c) := by
  have := short_sp [v] (fun j => nv) sb h c [] hsb hh (by simp) (fun j hj => by
    match j, hj with
    | 0, _ => exact h1)
  have e : ((List.range [v].length).all fun j => decide (nv ≤ 50)) = decide (nv ≤ 50) := by
    show ((List.range 1).all fun j => decide (nv ≤ 50)) = _
    simp [List.range_succ]
  rw [e] at this
  exact callF_of this
theorem quL_length {V : List Int} {n : Nat} (hV : V.length = 7 * n) : ∀ k t, t + k = n → (quL V k t).length = 3 * k
  | 0, _, _ => rfl
  | k + 1, t, h => by
    rw [quL, List.length_append, quL_length hV k (t + 1) (by omega), quadAt, List.length_take, List.length_drop]
    omega
theorem quL_get {V : List Int} {n : Nat} (hV : V.length = 7 * n) : ∀ k t, t + k = n → ∀ u j, u < k → j < 3 → (quL V k t).getD (3 * u + j) 0 = V.getD (7 * (t + u) + 4 + j) 0
  | 0, _, _, u, j, hu, _ => by omega
  | k + 1, t, h, u, j, hu, hj => by
    have hl : (quadAt V t).length = 3 := by rw [quadAt, List.length_take, List.length_drop]; omega
    rw [quL, List.getD_eq_getElem?_getD]
    by_cases e : u = 0
    · subst e
      rw [List.getElem?_append_left (by omega), quadAt, List.getElem?_take_of_lt (by omega), List.getElem?_drop, List.getD_eq_getElem?_getD]
      congr 2; omega
    · rw [List.getElem?_append_right (by omega), hl, show 3 * u + j - 3 = 3 * (u - 1) + j by omega, ← List.getD_eq_getElem?_getD, quL_get hV k (t + 1) (by omega) (u - 1) j (by omega) hj]
      congr 1; omega
theorem quL_ok {Gl V : List Int} {n : Nat} (a : Adm Gl n V) : qOk (quL V n 0) n = true := by
  have hl := quL_length a.l n 0 (by omega)
  unfold qOk
  simp only [Bool.and_eq_true, decide_eq_true_eq]
  refine ⟨⟨hl, ?_⟩, List.all_eq_true.2 fun t ht => ?_⟩
  · rw [withinB_iff]
    intro j hj
    rw [hl] at hj
    rw [gi_nat]
    have := quL_get a.l n 0 (by omega) (j / 3) (j % 3) (by omega) (by omega)
    rw [show 3 * (j / 3) + j % 3 = j by omega] at this
    rw [this]
    exact a.b _
  · have ht' : t < n := by simpa using ht
    have hV := a.l
    have e : q3 (quL V n 0) t = quadAt V t := by
      unfold q3 quadAt
      refine List.ext_getElem (by simp; omega) fun j h1 h2 => ?_
      have hj : j < 3 := by simp at h1; omega
      have := quL_get a.l n 0 (by omega) t j ht' hj
      rw [Nat.zero_add] at this
      simp only [List.getD_eq_getElem?_getD, List.getElem?_eq_getElem (by omega : 3 * t + j < (quL V n 0).length), List.getElem?_eq_getElem (by omega : 7 * t + 4 + j < V.length), Option.getD_some] at this
      simpa using this
    rw [e]
    exact a.q t ht'
theorem LkV.okV {c0 : Nat} {h : FH} {c : Nat} {v : Value} {n : Nat} {L : List Int} {i : Nat} {Fl : List Int} (hv : LkV c0 h c v n L i Fl) : OkV c v := by
  obtain ⟨vals, ⟨_, _, _, j, op, rfl, _, h6, _⟩, _⟩ := hv
  exact OkV.sl h6
set_option maxHeartbeats 4000000 in
theorem normalParts_true (s v : Value) (n nv : Nat) (Gl V : List Int) (h : FH) (c : Nat) (hs : SlI h c s 20 n Gl) (hv : SlI h c v 1 nv V) (hx : SlX h v 1 nv) (hC : SlC h v 1 nv V) :
    Ans (G (.fn 5) [.agg #[s], v] h c []) fun x => x.e = .ret ∧ x.vs = [.bool true] := by
  suffices hs : Ans (f5_S G (.agg #[s]) v h c) fun x => x.e = .ret ∧ x.vs = [.bool true] by
    obtain ⟨x, q1, q2⟩ := hs
    exact ⟨_, f5_go q1, by show (gcR h c [] x).e = _ ∧ (gcR h c [] x).vs = _; rw [gcR_e, gcR_vs]; exact q2⟩
  unfold f5_S
  rw [flat1 hs.flat, cell1, Nat.add_zero]
  simp only [cond_true]
  obtain ⟨H, hH⟩ : ∃ H, H = newB h (256 * c) [s] := ⟨_, rfl⟩
  have sH : Same c h H := by rw [hH]; simp (disch := omega)
  have hg : Holds H (256 * c) [s] := by rw [hH]; exact Holds.newB_same _ _ _
  rw [← hH]
  clear hH
  have k0 := sane_call H
  have l1 := ldN1_own hg
  have lv := hv.len
  have cs := fun c' (hc : c ≤ c') => callF_of (small_sp s n Gl H c' [] ((hs.same sH).mono hc))
  by_cases hn : n ≤ 6
  case neg =>
    rw [decide_eq_false hn] at cs
    have fx := And.intro k0 (And.intro l1 cs)
    refine Ans.go ?_
    clear fx
    exact .done ⟨rfl, rfl⟩
  rw [decide_eq_true hn] at cs
  have hbl := bldL_v hv
  obtain ⟨sb, hsb⟩ : ∃ sb, 256 * (c + 1 + 1) + 5 = sb := ⟨_, rfl⟩
  obtain ⟨K, hK⟩ : ∃ K, newB H sb [v] = K := ⟨_, rfl⟩
  have sK : Same c h K := by rw [← hK]; exact sH.trans (by intro b hb; rw [newB_f, if_neg (by omega)])
  have hgK : Holds K (256 * c) [s] := by rw [← hK]; exact hg.newB_ne (by omega)
  have hq' : Holds K sb [v] := by rw [← hK]; exact Holds.newB_same _ _ _
  have lK := ldN1_own hgK
  have ch := fun c' (hc : c + 1 + 1 + 1 ≤ c') => short1 v nv sb K c' (by omega) hq' lv
  by_cases h50 : nv ≤ 50
  case neg =>
    rw [decide_eq_false h50] at ch
    have fx := And.intro k0 (And.intro l1 (And.intro cs (And.intro hbl (And.intro hsb (And.intro hK ch)))))
    refine Ans.go ?_
    clear fx
    exact .done ⟨rfl, rfl⟩
  rw [decide_eq_true h50] at ch
  have ck := fun c' (hc : c ≤ c') => callF_of (checkN_sp s v n nv Gl V K c' [] ((hs.same sK).mono hc) ((hv.same sK).mono hc) (SlX.keep hv sK hx) (by omega))
  by_cases he : chkE Gl n (admB Gl n V) = 0
  case neg =>
    obtain ⟨E, hE⟩ : ∃ E, chkE Gl n (admB Gl n V) = E := ⟨_, rfl⟩
    rw [hE] at ck he
    have fx := And.intro k0 (And.intro l1 (And.intro cs (And.intro hbl (And.intro hsb (And.intro hK (And.intro ch (And.intro lK ck)))))))
    refine Ans.go ?_
    clear fx
    exact .done ⟨rfl, rfl⟩
  obtain ⟨hr0, ha⟩ := chkE_zero he
  obtain ⟨hn6, hok⟩ := refE_zero hr0
  have a := Adm.of hok hs.1 ha
  have hl := a.l
  have hnv : nv = 7 * n := by have := hv.1; omega
  have ra := rest_adm a
  have heR : chkE Gl n (admB Gl n (restL Gl n V)) = 0 := by rw [ra.adm]; unfold chkE; rw [if_pos hr0, if_pos rfl]
  rw [he] at ck
  obtain ⟨⟨re, rv, H1, k1, rd⟩, w1, p1, p2, p3, p4, p5⟩ := partN_sp s v n nv Gl V K (c + 1 + 1 + 1 + 1) [] ((hs.same sK).mono (by omega)) ((hv.same sK).mono (by omega)) (SlX.keep hv sK hx) (SlC.keep hv sK hC) (by omega)
  simp only at p1 p2 p3 p4 p5
  subst p1 p2
  rcases p5 with ⟨e, _⟩ | ⟨_, nl, rs, rfl, gl, gr, xr, cr⟩
  · exact absurd he e
  have c1 := callF_of w1
  have s1 : Same c h H1 := sK.trans (p4.mono (by omega))
  have hg1 : Holds H1 (256 * c) [s] := hgK.eqf (p4 _ (by omega))
  have l2 := ldN1_own hg1
  obtain ⟨⟨re, rv, H2, k2, rd⟩, w2, q1, q2, q3, q4, q5⟩ := links_sp s n Gl H1 (k1 + 1) [] ((hs.same s1).mono (by omega))
  simp only at q1 q2 q3 q4 q5
  subst q1 q2
  rcases q5 with ⟨e, _⟩ | ⟨_, lk, rfl, hlk⟩
  · exact absurd hr0 e
  have c2 := callF_of w2
  have s2 : Same c h H2 := s1.trans (q4.mono (by omega))
  have hg2 : Holds H2 (256 * c) [s] := hg1.eqf (q4 _ (by omega))
  have l3 := ldN1_own hg2
  obtain ⟨⟨re, rv, H3, k3, rd⟩, w3, r1, r2, r3, r4, r5⟩ := quadsN_sp s v n nv Gl V H2 (k2 + 1) [] ((hs.same s2).mono (by omega)) ((hv.same s2).mono (by omega)) (SlX.keep hv s2 hx) (by omega)
  simp only at r1 r2 r3 r4 r5
  subst r1 r2
  rcases r5 with ⟨e, _⟩ | ⟨_, ql, rfl, gq⟩
  · exact absurd he e
  have c3 := callF_of w3
  have s3 : Same c h H3 := s2.trans (r4.mono (by omega))
  have hg3 : Holds H3 (256 * c) [s] := hg2.eqf (r4 _ (by omega))
  have m13 : Same k1 H1 H3 := (q4.mono (by omega)).trans (r4.mono (by omega))
  have m23 : Same k2 H2 H3 := r4.mono (by omega)
  have snl : SlI H3 k3 nl 1 (vxF Gl n).length (partL Gl n V) := ((gl.sl).same m13).mono (by omega)
  have srs : SlI H3 k3 rs 1 nv (restL Gl n V) := (gr.same m13).mono (by omega)
  have xrs : SlX H3 rs 1 nv := SlX.keep gr m13 xr
  have crs : SlC H3 rs 1 nv (restL Gl n V) := SlC.keep gr m13 cr
  have slk : LkR H3 k3 lk n (vxC Gl n) (vxF Gl n).length (vxF Gl n) := by
    obtain ⟨x1, x2⟩ := (hlk.rows rfl).same m23
    refine ⟨x1, fun k hk => ?_⟩
    obtain ⟨l, p, x, e1, e2, ⟨b, o, e3, e3'⟩, e4, e5, e6⟩ := x2 k hk
    exact ⟨l, p, x, e1, e2, ⟨b, o, e3, by omega⟩, e4, e5.mono (by omega), e6⟩
  have olk : OkV k3 lk := (hlk.okV).mono (by omega)
  have sql : SlI H3 k3 ql 1 (3 * n) (quL V n 0) := gq.sl
  have sv3 : SlI H3 k3 v 1 nv V := (hv.same s3).mono (by omega)
  have lnl := snl.len
  have llk := slk.1
  have lrs := srs.len
  have hout := Ans.eq (pout_loop v nl rs lk ql (ptrTo (256 * c)) n nv Gl V (k3 + 1 + 1) H3 [] a hn hnv (sv3.mono (by omega)) (srs.mono (by omega)) (snl.mono (by omega)) (by
    obtain ⟨x1, x2⟩ := slk
    refine ⟨x1, fun k hk => ?_⟩
    obtain ⟨l, p, x, e1, e2, ⟨b, o, e3, e3'⟩, e4, e5, e6⟩ := x2 k hk
    exact ⟨l, p, x, e1, e2, ⟨b, o, e3, by omega⟩, e4, e5.mono (by omega), e6⟩) (OkV.ptrTo (by omega)) (olk.mono (by omega)) ((sql.mono (by omega : k3 ≤ k3 + 1 + 1)).okV) nv 0 (by omega))
  simp only [Int.ofNat_eq_natCast, Int.cast_ofNat_Int] at hout
  have l4 := ldN1_own hg3
  have hX := fill_rest a (quL_length a.l n 0 (by omega)) (fun t k ht hk => by rw [quL_get a.l n 0 (by omega) t k ht hk, Nat.zero_add])
  have hfe : fillE Gl n (quL V n 0) = 0 := by
    unfold fillE
    rw [if_pos hr0, if_pos (quL_ok a), hX]
    show (if withinB (restL Gl n V) = true then (0 : Int) else 3) = 0
    rw [if_pos ra.w]
  obtain ⟨⟨re, rv, H4, k4, rd⟩, w4, t1, t2, t3, t4, t5⟩ := fill_sp s ql n (3 * n) Gl (quL V n 0) H3 (k3 + 1 + 1 + 1) [] ((hs.same s3).mono (by omega)) hn (sql.mono (by omega)) (by
    obtain ⟨_, _, _, i, op, rfl, _, _, e7, e8⟩ := gq
    refine ⟨Nat.le_refl _, ?_⟩
    have : HeapC.get H3 i = some (.cells false op (ints (quL V n 0))) := e7
    simp only [adrOf, szOk, this]
    rcases e8 with rfl | rfl <;> rfl) (by omega)
  simp only at t1 t2 t3 t4 t5
  subst t1 t2
  rcases t5 with ⟨e, _⟩ | ⟨_, fb, X, hX', rfl, t6, t7, t8⟩
  · exact absurd hfe e
  rw [hX] at hX'
  obtain rfl := Option.some.inj hX'
  have c4 := callF_of w4
  have s4 : Same c h H4 := s3.trans (t4.mono (by omega))
  have hg4 : Holds H4 (256 * c) [s] := hg3.eqf (t4 _ (by omega))
  have l5 := ldN1_own hg4
  have m34 : Same k3 H3 H4 := t4.mono (by omega)
  have srs4 : SlI H4 k4 rs 1 nv (restL Gl n V) := (srs.same m34).mono (by omega)
  obtain ⟨⟨re, rv, H5, k5, rd⟩, w5, y1, y2, y3, y4, y5⟩ := partN_sp s rs n nv Gl (restL Gl n V) H4 (k4 + 1) [] ((hs.same s4).mono (by omega)) (srs4.mono (by omega)) (SlX.keep srs m34 xrs) (SlC.keep srs m34 crs) (by omega)
  simp only at y1 y2 y3 y4 y5
  subst y1 y2
  rcases y5 with ⟨e, _⟩ | ⟨_, ml, rs2, rfl, gm, _, _, _⟩
  · exact absurd heR e
  rw [rest_part a] at gm
  have c5 := callF_of w5
  have m45 : Same k4 H4 H5 := y4.mono (by omega)
  have srs5 : SlI H5 k5 rs 1 nv (restL Gl n V) := (srs4.same m45).mono (by omega)
  have sfb : SlI H5 k5 (.slice (some ⟨fb, 0, none⟩) (7 * n) (7 * n)) 1 nv (restL Gl n V) := by
    rw [hnv]
    exact own_sl (by rw [m45 fb t7, t8]) (restL_length a.l) (by omega) (by omega)
  have csi := fun c' (hc : k5 ≤ c') => callF_of (sameInts_sp _ rs nv nv (restL Gl n V) (restL Gl n V) H5 c' [] (sfb.mono hc) (srs5.mono hc))
  rw [decide_eq_true rfl] at csi
  have sql5 : SlI H5 k5 ql 1 (3 * n) (quL V n 0) := ((sql.same m34).same (m45.mono (by omega))).mono (by omega)
  have hvl : (vxF Gl n).length ≤ 4 * n := firstsL_len _ _
  have hz := Ans.eq (pzero_loop rs ql ml (vxF Gl n).length (k5 + 1 + 1) H5 [] (by omega) (gm.sl.mono (by omega)) ((srs5.mono (by omega : k5 ≤ k5 + 1 + 1)).okV) ((sql5.mono (by omega : k5 ≤ k5 + 1 + 1)).okV) (vxF Gl n).length 0 (by omega))
  simp only [Int.ofNat_eq_natCast, Int.cast_ofNat_Int] at hz
  have hal := Ans.eq (pall_loop rs ql (3 * n) (quL V n 0) (k5 + 1 + 1 + 1 + 1) H5 [] (by omega) (sql5.mono (by omega)) ((srs5.mono (by omega : k5 ≤ k5 + 1 + 1 + 1 + 1)).okV) (3 * n) 0 true (by omega))
  simp only [Int.ofNat_eq_natCast, Int.cast_ofNat_Int] at hal
  obtain ⟨⟨re, rv, rh, rc, rd⟩, hno, z1, z2⟩ := pnone_loop rs nv (restL Gl n V) (k5 + 1 + 1 + 1 + 1 + 1) H5 [] (by omega) (srs5.mono (by omega)) (allZ (quL V n 0) (3 * n) 0 true) (fun e j hj => by
    have h0 := allZ_true _ _ _ e
    rcases pos_cases (n := n) (j := j) (by omega) with ⟨w, hw, rfl⟩ | ⟨t, k, ht, hk, rfl⟩
    · exact rest_zero a (fun t k ht hk => by
        have := h0 (3 * t + k) (by omega) (by omega)
        rwa [quL_get a.l n 0 (by omega) t k ht hk, Nat.zero_add] at this) hw
    · have := h0 (3 * t + k) (by omega) (by omega)
      rw [quL_get a.l n 0 (by omega) t k ht hk, Nat.zero_add] at this
      rw [restL_q a.l t k hk]; exact this) nv 0 (by omega)
  simp only at z1 z2
  subst z1 z2
  simp only [Int.ofNat_eq_natCast, Int.cast_ofNat_Int] at hno
  have fx := And.intro k0 (And.intro l1 (And.intro cs (And.intro hbl (And.intro hsb (And.intro hK (And.intro ch (And.intro lK (And.intro ck (And.intro c1 (And.intro l2 (And.intro c2 (And.intro l3 (And.intro c3 (And.intro lnl (And.intro llk (And.intro lrs (And.intro lv (And.intro hout (And.intro l4 (And.intro c4 (And.intro l5 (And.intro c5 (And.intro csi (And.intro hz (And.intro hal hno)))))))))))))))))))))))))
  refine Ans.go ?_
  clear fx
  exact .done ⟨rfl, rfl⟩
end Go.Proofs.Ytcnndelmnobigaa

namespace Go.Ab
open Go Go.ChangeShapes Go.RowKit
set_option linter.unusedVariables false
set_option linter.unusedSimpArgs false
theorem rows_relC {W : World} (l : List (Value × Nat × Nat × List Int)) (hl : l.length ≤ 256) (h : ∀ (k : Nat) (p : Value × Nat × Nat × List Int), l[k]? = some p → OpenS W p.1 p.2.1 p.2.2.1 p.2.2.2) :
    ∃ (A : FH) (μ : Mu), R μ A W ∧ Fresh μ 1 ∧ (∀ i m, μ i = some m → wrB (HeapC.get A i) = false) ∧ ∀ (k : Nat) (p : Value × Nat × Nat × List Int), l[k]? = some p → SlI A 1 (absS k p.1) p.2.1 p.2.2.1 p.2.2.2 ∧ VR μ (absS k p.1) p.1 ∧ SlX A (absS k p.1) p.2.1 p.2.2.1 ∧ SlC A (absS k p.1) p.2.1 p.2.2.1 p.2.2.2 := by
  let blk : Nat → Option ABlk := fun i => (l[i]?).bind fun p => (absM p.1).map fun _ => .cells true none (ints p.2.2.2)
  let mu : Mu := fun i => (l[i]?).bind fun p => absM p.1
  have key : ∀ i m, mu i = some m → ∃ p, l[i]? = some p ∧ absM p.1 = some m ∧ blk i = some (.cells true none (ints p.2.2.2)) := by
    intro i m e
    cases hp : l[i]? with
    | none => simp only [mu, hp] at e; cases e
    | some p =>
      simp only [mu, hp, Option.bind_some] at e
      exact ⟨p, rfl, e, by simp only [blk, hp, Option.bind_some, e, Option.map_some]⟩
  refine ⟨⟨blk⟩, mu, ⟨fun i m e => ?_, fun i j mi mj ei ej hne di dj hro => ?_, fun i m e => ?_⟩, fun i hi => ?_, fun i m e => ?_, fun k p hp => ?_⟩
  · obtain ⟨p, h1, h2, h3⟩ := key i m e
    have := ((h i p h1).blk (μ := mu) h2).1
    show BlkR mu m W.heap (blk i)
    rw [h3]; exact this
  · obtain ⟨p, h1, h2, h3⟩ := key i mi ei
    obtain ⟨q, g1, g2, g3⟩ := key j mj ej
    exact absurd (show roB (blk i) = true ∧ roB (blk j) = true by rw [h3, g3]; exact ⟨rfl, rfl⟩) hro
  · obtain ⟨p, h1, h2, h3⟩ := key i m e
    exact ((h i p h1).blk (μ := mu) h2).2
  · have : l[i]? = none := List.getElem?_eq_none (by omega)
    simp only [mu, this]; rfl
  · obtain ⟨p, h1, h2, h3⟩ := key i m e
    show wrB (blk i) = false
    rw [h3]; rfl
  · have hk : k < l.length := (List.getElem?_eq_some_iff.1 hp).1
    have hb : ∀ m, absM p.1 = some m → blk k = some (.cells true none (ints p.2.2.2)) := fun m hm => by
      simp only [blk, hp, Option.bind_some, hm, Option.map_some]
    refine ⟨(h k p hp).sl (by omega) (fun m hm => hb m hm), (h k p hp).vr (fun m hm => ?_), (h k p hp).slx (fun m hm => hb m hm), (h k p hp).slc (fun m hm => hb m hm)⟩
    simp only [mu, hp, Option.bind_some, hm]
end Go.Ab

namespace Go.Proofs.Ytcnndelmnobigaa
open Go.ChangeShapes Go.WideShapes Go.ChangeAt Go.RowKit
open Go Go.Ab Go.Proofs
set_option linter.unusedVariables false
set_option maxRecDepth 100000
theorem Try.own : ownKnob Try.prog.godebug = none := by kernel_rfl
theorem Try.laidOut : laidOutB Try.prog = true := by kernel_rfl
theorem flatInt : FlatT P 3 1 := FlatT.int Try.underlying3 (by kernel_rfl)
theorem flatPerm : FlatT P 39 4 := FlatT.array (n := 4) (z := 1) Try.underlying39 flatInt (by kernel_rfl)
theorem flatFace : FlatT P 41 5 := FlatT.struct2 (z0 := 1) (z1 := 4) Try.underlying41 flatInt flatPerm rfl rfl (by kernel_rfl)
theorem flatRow : FlatT P 42 20 := FlatT.array (n := 4) (z := 5) Try.underlying42 flatFace (by kernel_rfl)
theorem open_gluing {H : Type} {enc : TypeId × Value → H} {W : World} {base : Nat} {v : Value} {d : DataW H} {ps : List MemPlace} (hval : Value.okWide P W .any base 24 v) (hd : DataW.Trod enc P W 0 (fun _ => true) true 24 v d ps) :
    ∃ s n Gl, v = .agg #[s] ∧ OpenS W s 20 n Gl :=
  open_s1 Try.underlying24 (by kernel_rfl) (by kernel_rfl) Try.underlying22 rfl rfl (by kernel_rfl) flatRow (by omega) hval hd
theorem open_v {H : Type} {enc : TypeId × Value → H} {W : World} {base : Nat} {v : Value} {d : DataW H} {ps : List MemPlace} (hval : Value.okWide P W .any base 34 v) (hd : DataW.Trod enc P W 0 (fun _ => true) true 34 v d ps) :
    ∃ n Gl, OpenS W v 1 n Gl := open_sl (e := 3) (sz := 1) Try.underlying34 flatInt (by omega) hval hd
theorem law_calls {f : FuncId} {W : World} {A : FH} {μ : Mu} {xs ys : List Value} (hR : R μ A W) (hf : Fresh μ 1) (hro : ∀ i m, μ i = some m → wrB (HeapC.get A i) = false) (hv : VRs μ xs ys) (h : Ans (G (.fn f) xs A 1 []) fun x => x.e = .ret ∧ x.vs = [.bool true]) :
    Calls P f ys.toArray W (LawEnd W) := by
  obtain ⟨x, hx, he, hvs⟩ := h
  refine (runG_calls bk_ok ext_ok mixed hx hv hR hf).mono ?_
  rintro en w' ⟨u, v', μ', h1, h2, h3, hE⟩
  rw [hvs] at h1
  cases h1
  exact ⟨by rw [h2, h3.bool_left], hE.os, hE.tape, hE.output, hE.size, fun k hk => hE.fr k hk (fun i m e hw => by rw [hro i m e] at hw; cases hw)⟩
end Go.Proofs.Ytcnndelmnobigaa
