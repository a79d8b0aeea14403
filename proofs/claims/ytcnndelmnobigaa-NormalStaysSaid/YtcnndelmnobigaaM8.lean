/- Parts of a proof: N10 N11 U11 U12 U13 V1 V2 V3 AbRow2 AbRow3 AbApp2 W1 W2 W3 W4 W5 W6 W7 AbUf2 AbFill F1 F2 F3 F4 X1 C5 X2 G1 AbRow4 RowK. Conditions: none. -/
import Derived.Test.YtcnndelmnobigaaM5
import Derived.Test.YtcnndelmnobigaaM6
import Derived.Test.YtcnndelmnobigaaM7
import Derived.Test.YtcnndelmnobigaaM4
import Derived.Test.YtcnndelmnobigaaRows
import Derived.ProofKit
set_option linter.all false
namespace Go.Proofs.Ytcnndelmnobigaa
open Go Go.Ab Go.Proofs
set_option maxRecDepth 100000
set_option linter.unusedVariables false
set_option linter.unusedSimpArgs false
theorem sane_call (h : FH) (c : Nat) : callF G 11 [] h c = some (.bool true, h, c) := callF_of (runG_ext (f := 11) (args := []) (h := h) (c := c) (r := { e := .ret, vs := [.bool true], h := h, c := c, df := [] }) rfl)
end Go.Proofs.Ytcnndelmnobigaa

namespace Go.Proofs.Ytcnndelmnobigaa
open Go Go.Ab Go.Proofs
set_option maxRecDepth 100000
set_option linter.unusedVariables false
set_option linter.unusedSimpArgs false
theorem EqV.len {c0 : Nat} {h : FH} {c n : Nat} {Gl : List Int} {v : Value} (e : EqV c0 h c n Gl v) : lenS v = some (.int .i64 (allM Gl n).length) := by
  obtain ⟨vals, ⟨_, _, _, i, op, rfl, _⟩, _⟩ := e
  rfl
theorem EqV.okV {c0 : Nat} {h : FH} {c n : Nat} {Gl : List Int} {v : Value} (e : EqV c0 h c n Gl v) : OkV c v := by
  obtain ⟨vals, ⟨_, _, _, i, op, rfl, _, h6, _⟩, _⟩ := e
  exact OkV.sl h6
theorem EqV.mono {c0 : Nat} {h : FH} {c c' n : Nat} {Gl : List Int} {v : Value} (hc : c ≤ c') (e : EqV c0 h c n Gl v) : EqV c0 h c' n Gl v := by
  obtain ⟨vals, h1, h2⟩ := e
  refine ⟨vals, h1.mono hc, fun k m hk => ?_⟩
  obtain ⟨x, x1, b, y1, y2, y3, y4⟩ := h2 k m hk
  exact ⟨x, x1, b, y1, y2, by omega, y4⟩
theorem EqV.at {c0 : Nat} {h : FH} {c n : Nat} {Gl : List Int} {v : Value} (e : EqV c0 h c n Gl v) {i : Nat} (hi : i < (allM Gl n).length) :
    ∃ x p, ixS 1 v (.int .i64 i) = some p ∧ ld1 h p = some x ∧ lenS x = some (.int .i64 (7 * n : Nat)) ∧ SlI h c x 1 (7 * n) (eqRow n ((allM Gl n).getD i [])) := by
  obtain ⟨vals, ⟨h1, h2, h3, b, op, rfl, h5, h6, h7, h8⟩, h9⟩ := e
  obtain ⟨x, x1, b', rfl, y2, y3, y4, y5, y6⟩ := h9 i _ (List.getElem?_eq_getElem hi)
  have hg : (allM Gl n).getD i [] = (allM Gl n)[i] := by simp [List.getD, List.getElem?_eq_getElem hi]
  rw [hg]
  refine ⟨.slice (some ⟨b', 0, none⟩) (7 * n) (7 * n), .pointer (some ⟨b, 0 + (i : Int).toNat * 1, none⟩), ixS_sl _ _ _ _ _ _ _ (by omega) (by omega), ?_, rfl, ⟨by rw [y5]; omega, by omega, _, _, rfl, .inr ⟨b', 0, ints (eqRow n (allM Gl n)[i]), rfl, y3, ⟨false, none, y4⟩, ?_⟩⟩⟩
  · rw [ld1_holds' (cs := vals) ⟨false, op, h7⟩]
    simpa using x1
  · rw [List.drop_zero, List.take_of_length_le (by simp [y5])]
theorem gi_get (V : List Int) {j : Nat} (hj : j < V.length) : gi V (j : Nat) = V[j] := by
  simp [gi, List.getD, List.getElem?_eq_getElem hj]
end Go.Proofs.Ytcnndelmnobigaa

namespace Go.Proofs.Ytcnndelmnobigaa
open Go Go.Ab Go.Proofs
set_option maxRecDepth 100000
set_option linter.unusedVariables false
set_option linter.unusedSimpArgs false
theorem OkV.tup2 (c : Nat) (k k' : IntKind) (a b : Int) : OkV c (.tuple #[.int k a, .int k' b]) := by
  refine ⟨.tuple #[.int k a, .int k' b], .tuple rfl (fun i x y hx hy => ?_)⟩
  match i, hx, hy with
  | 0, hx, hy => cases hx; cases hy; exact .int _ _
  | 1, hx, hy => cases hx; cases hy; exact .int _ _
  | i + 2, hx, hy => simp at hx
theorem chkE_zero {Gl : List Int} {n : Nat} {b : Bool} (hE : chkE Gl n b = 0) : refE Gl n = 0 ∧ b = true := by
  unfold chkE at hE
  split at hE
  · rename_i h1
    split at hE
    · rename_i h2; exact ⟨h1, h2⟩
    · cases hE
  · rename_i h1; exact absurd hE h1
theorem admB_w {Gl V : List Int} {n : Nat} (ha : admB Gl n V = true) : V.length = 7 * n ∧ withinB V = true := by
  unfold admB at ha
  simp only [Bool.and_eq_true, decide_eq_true_eq] at ha
  exact ⟨ha.1.1.1, ha.1.1.2⟩
def eulL (Gl : List Int) (n : Nat) (V : List Int) : Int := sumL ((edF Gl n).map (wgt V)) + sumL V - sT Gl V n 0
def eulV (Gl : List Int) (n : Nat) (V : List Int) : Int := if chkE Gl n (admB Gl n V) = 0 then eulL Gl n V else 0
set_option maxHeartbeats 1000000 in
theorem euler_sp (s v : Value) (n nv : Nat) (Gl V : List Int) (h : FH) (c : Nat) (df : List Nat) (hs : SlI h c s 20 n Gl) (hv : SlI h c v 1 nv V) (hx : SlX h v 1 nv) (hnv : nv ≤ 1000000) :
    G (.fn 15) [.agg #[s], v] h c df = some { e := .ret, vs := [.tuple #[.int .i64 (eulV Gl n V), .int .i64 (chkE Gl n (admB Gl n V))]], h := h, c := c, df := [] } := by
  refine pure_of' (fun r e => f15_go e) (OkV.tup2 _ _ _ _ _) ?_
  unfold f15_S
  rw [flat1 hs.flat, cell1, Nat.add_zero]
  simp only [cond_true]
  have hbl := bldL_v hv
  obtain ⟨H, hH⟩ : ∃ H, H = newB (newB h (256 * c) [s]) (256 * (c + 1) + 2) [v] := ⟨_, rfl⟩
  have sH : Same c h H := by rw [hH]; simp (disch := omega)
  have hg : Holds H (256 * c) [s] := by rw [hH]; exact (Holds.newB_same _ _ _).newB_ne (by omega)
  have hq : Holds H (256 * (c + 1) + 2) [v] := by rw [hH]; exact Holds.newB_same _ _ _
  have l0 : ldN (newB h (256 * c) [s]) 1 (.pointer (some ⟨256 * c, 0, none⟩)) = some (.agg #[s]) := ldN1_own (Holds.newB_same _ _ _)
  have l1 := ldN1_own hg
  have c1 := check1 s v n nv Gl V (256 * (c + 1) + 2) H (c + 1 + 1) ((hs.same sH).mono (by omega)) ((hv.same sH).mono (by omega)) (SlX.keep hv sH hx) hnv (by omega) hq
  have hH' := hH.symm
  unfold eulV
  obtain ⟨E, hE⟩ : ∃ E, chkE Gl n (admB Gl n V) = E := ⟨_, rfl⟩
  rw [hE] at c1 ⊢
  by_cases h0 : E = 0
  case neg =>
    rw [if_neg h0]
    have fx := And.intro l0 (And.intro hbl (And.intro hH' c1))
    refine Ans.go ?_
    clear fx
    exact Ans.pure rfl sH
  obtain ⟨hr0, ha⟩ := chkE_zero (hE.trans h0)
  obtain ⟨hn, hok⟩ := refE_zero hr0
  obtain ⟨a1, a2⟩ := admB_w ha
  have hV := withinI a2
  have hnv' : nv = 7 * n := by have := hv.1; omega
  subst h0
  rw [if_pos rfl]
  obtain ⟨⟨re, rv, H2, c2, rd⟩, hr, w, q1, q2, q3, q4⟩ := weights_sp s v n nv Gl V H (c + 1 + 1 + 1 + 1) [] ((hs.same sH).mono (by omega)) ((hv.same sH).mono (by omega)) hok hn hnv' hV
  obtain ⟨rfl, rfl, -, -, rfl⟩ := Rt.mk.inj q1
  simp only at q2 q3 q4
  have cw := callF_of hr
  have s2 : Same c h H2 := sH.trans (q3.mono (by omega))
  have hel : (edF Gl n).length ≤ 6 * n := firstsL_len _ _
  have b1 : ∀ x, x ∈ (edF Gl n).map (wgt V) → 0 ≤ x ∧ x ≤ 5000000 := fun x hx => by
    obtain ⟨y, _, rfl⟩ := List.mem_map.1 hx
    exact weightL_bound hV
  have b2 : ∀ x, x ∈ V → 0 ≤ x ∧ x ≤ 5000000 := fun x hx => by
    obtain ⟨j, hj, rfl⟩ := List.getElem_of_mem hx
    have := hV j
    rw [gi_get V hj] at this
    omega
  have t1 := fun c' (hc : c2 ≤ c') => callF_of (total_sp w _ _ H2 c' [] (q4.sl.mono hc) (by omega) b1)
  have t2 := fun c' (hc : c ≤ c') => callF_of (total_sp v _ _ H2 c' [] ((hv.same s2).mono hc) (by omega) b2)
  have k1 := sumL_bound (B := 5000000) (by omega) b1
  have k2 := sumL_bound (B := 5000000) (by omega) b2
  rw [List.length_map] at k1
  unfold eulL
  obtain ⟨S1, hS1⟩ : ∃ S, sumL ((edF Gl n).map (wgt V)) = S := ⟨_, rfl⟩
  obtain ⟨S2, hS2⟩ : ∃ S, sumL V = S := ⟨_, rfl⟩
  rw [hS1] at t1 k1 ⊢
  rw [hS2] at t2 k2 ⊢
  have hg2 : Holds H2 (256 * c) [s] := hg.eqf (q3 _ (by omega))
  have l2 : ld1 H2 (.pointer (some ⟨256 * c, 0, none⟩)) = some s := by rw [ld1_holds' hg2]; rfl
  have ls := hs.len
  have hl := Ans.eq (tet_loop v s n nv Gl V H2 (c2 + 1) [] ((hs.same s2).mono (by omega)) ((hv.same s2).mono (by omega)) hnv' hn hV hok n 0 (S1 + S2) (by omega) (by omega) (by omega))
  simp only [Int.ofNat_eq_natCast, Int.cast_ofNat_Int] at hl
  have fx := And.intro l0 (And.intro hbl (And.intro hH' (And.intro c1 (And.intro l1 (And.intro cw (And.intro t1 (And.intro t2 (And.intro l2 (And.intro ls hl)))))))))
  refine Ans.go ?_
  clear fx
  exact Ans.pure rfl s2
theorem checks2 (s u v : Value) (n nu nv : Nat) (Gl U V : List Int) (sb : Nat) (h : FH) (c : Nat) (hs : SlI h c s 20 n Gl) (hu : SlI h c u 1 nu U) (hv : SlI h c v 1 nv V) (hxu : SlX h u 1 nu) (hxv : SlX h v 1 nv) (hnu : nu ≤ 1000000) (hnv : nv ≤ 1000000) (hsb : sb < 256 * c) (hh : Holds h sb [u, v]) :
    callF G 47 [.agg #[s], .slice (some ⟨sb, 0, none⟩) 2 2] h c = some (.int .i64 (chkE Gl n (admB Gl n U && admB Gl n V)), h, c) := by
  have := checks_sp s n Gl [u, v] (fun j => if j = 0 then U else V) (fun j => if j = 0 then nu else nv) sb h c [] hs hsb hh (by simp) (fun j => by split <;> omega) (fun j hj => by
    match j, hj with
    | 0, _ => exact ⟨hu, hxu⟩
    | 1, _ => exact ⟨hv, hxv⟩)
  have e : ((List.range [u, v].length).all fun i => admB Gl n (if i = 0 then U else V)) = (admB Gl n U && admB Gl n V) := by
    show ((List.range 2).all fun i => admB Gl n (if i = 0 then U else V)) = _
    simp [List.range_succ]
  rw [e] at this
  exact callF_of this
theorem sum_quads (v8 : Value) (v7 o : Value) (n nv : Nat) (O : List Int) (c : Nat) (h : FH) (hn : n ≤ 60) (hnv : nv = 7 * n) (hs : SlI h c o 1 nv O) (hx : SlX h o 1 nv) (df : List Nat) (o8 : OkV c v8) (o7 : OkV c v7) :
    ∀ (k t : Nat), t + k = n → Ans (G (f34_k34000 none) [v8, v7, o, .int .i64 n, .int .i64 t] h c df) fun r => r.c = c ∧ r.df = df ∧ r.h = h ∧
      ((r.e = .exit 0 ∧ r.vs = [v8, v7, o, .int .i64 n, .int .i64 n] ∧ ∀ u, t ≤ u → u < n → areQ (quadAt O u) = true) ∨
       (r.e = .ret ∧ r.v 0 = .slice none 0 0 ∧ r.v 1 = .int .i64 1 ∧ ∃ u, u < n ∧ areQ (quadAt O u) = false)) := by
  intro k
  have o1 := hs.okV
  induction k with
  | zero =>
    intro t ht
    obtain rfl : t = n := by omega
    refine Ans.loop (fun q r => f34_N34000) (fun q => f34_Z34000) ?_
    unfold f34_L34000
    have fx := True.intro
    refine Ans.go ?_
    clear fx
    (have fx := And.intro o1 (And.intro o8 o7); refine Ans.ex0 ?_; clear fx)
    exact ⟨rfl, rfl, rfl, .inl ⟨rfl, rfl, fun u h1 h2 => by omega⟩⟩
  | succ k ih =>
    intro t ht
    have x1 := SlX.sub hs hx .i64 .i64 (7 * (t : Int) + 4) (7 * (t : Int) + 7) (by omega) (by omega) (by omega) (by omega)
    rw [show (7 * (t : Int) + 4).toNat = 7 * t + 4 by omega, show (7 * (t : Int) + 7).toNat = 7 * t + 7 by omega] at x1
    have x2 := SlI.sub hs (7 * t + 4) (7 * t + 7) (by omega) (by omega) (by omega)
    rw [show 7 * t + 7 - (7 * t + 4) = 3 by omega, Nat.mul_one, Nat.mul_one] at x2
    have c1 := fun c' (hc : c ≤ c') => callF_of (areQ_sp _ 3 _ h c' [] (x2.mono hc) (by omega))
    rw [show (O.drop (7 * t + 4)).take 3 = quadAt O t from rfl] at c1
    refine Ans.loop (fun q r => f34_N34000) (fun q => f34_Z34000) ?_
    unfold f34_L34000
    cases hq : areQ (quadAt O t) with
    | true =>
      rw [hq] at c1
      have fx := And.intro x1 c1
      refine Ans.go ?_
      clear fx
      (have fx := And.intro o1 (And.intro o8 o7); refine Ans.nx0 ?_; clear fx)
      refine (ih (t + 1) (by omega)).mono ?_
      rintro r ⟨q1, q2, q3, q4⟩
      refine ⟨q1, q2, q3, q4.imp (fun ⟨a, b, e⟩ => ⟨a, b, fun u u1 u2 => ?_⟩) id⟩
      by_cases hu : u = t
      · rw [hu]; exact hq
      · exact e u (by omega) u2
    | false =>
      rw [hq] at c1
      have fx := And.intro x1 c1
      refine Ans.go ?_
      clear fx
      (have fx := And.intro o1 (And.intro o8 o7); refine Ans.rt0 ?_; clear fx)
      exact ⟨rfl, rfl, rfl, .inr ⟨rfl, rfl, rfl, t, by omega, hq⟩⟩
def sumE (Gl : List Int) (n : Nat) (U V : List Int) : Int :=
  if chkE Gl n (admB Gl n U && admB Gl n V) = 0 then (if ((List.range n).all fun t => areQ (quadAt (addL U V) t)) = true then (if withinB (addL U V) = true then 0 else 2) else 1) else chkE Gl n (admB Gl n U && admB Gl n V)
theorem slx_newB (h : FH) (b m : Nat) (X : List Int) : SlX (newB h b (ints X)) (.slice (some ⟨b, 0, none⟩) m m) 1 m := by
  refine ⟨Nat.le_refl _, ?_⟩
  have : HeapC.get (newB h b (ints X)) b = some (.cells false none (ints X)) := get_newB_same _ _ _
  simp only [adrOf, szOk, this]
set_option maxHeartbeats 1000000 in
theorem sum_sp (s u v : Value) (n nu nv : Nat) (Gl U V : List Int) (h : FH) (c : Nat) (df : List Nat) (hs : SlI h c s 20 n Gl) (hu : SlI h c u 1 nu U) (hv : SlI h c v 1 nv V) (hxu : SlX h u 1 nu) (hxv : SlX h v 1 nv) (hnu : nu ≤ 1000000) (hnv : nv ≤ 1000000) :
    Ans (G (.fn 34) [.agg #[s], u, v] h c df) fun r => r.e = .ret ∧ r.df = [] ∧ c ≤ r.c ∧ Same c h r.h ∧
      ((sumE Gl n U V ≠ 0 ∧ r.vs = [.tuple #[.slice none 0 0, .int .i64 (sumE Gl n U V)]]) ∨
       (sumE Gl n U V = 0 ∧ ∃ w, r.vs = [.tuple #[w, .int .i64 0]] ∧ SlI r.h r.c w 1 nu (addL U V) ∧ SlX r.h w 1 nu)) := by
  refine Ans.call' (fun r e => f34_go e) ?_
  unfold f34_S
  rw [flat1 hs.flat, cell1, Nat.add_zero]
  simp only [cond_true]
  have hbl : bldL [(.slice none 0 0), (.slice none 0 0)] [(0, 1, u), (1, 1, v)] = some [u, v] := by
    obtain ⟨_, _, a, cap, rfl, _⟩ := hv
    obtain ⟨_, _, a, cap, rfl, _⟩ := hu
    rfl
  obtain ⟨H, hH⟩ : ∃ H, H = newB (newB h (256 * c) [s]) (256 * (c + 1) + 3) [u, v] := ⟨_, rfl⟩
  have sH : Same c h H := by rw [hH]; simp (disch := omega)
  have hg : Holds H (256 * c) [s] := by rw [hH]; exact (Holds.newB_same _ _ _).newB_ne (by omega)
  have hq : Holds H (256 * (c + 1) + 3) [u, v] := by rw [hH]; exact Holds.newB_same _ _ _
  have l0 : ldN (newB h (256 * c) [s]) 1 (.pointer (some ⟨256 * c, 0, none⟩)) = some (.agg #[s]) := ldN1_own (Holds.newB_same _ _ _)
  have c1 := checks2 s u v n nu nv Gl U V (256 * (c + 1) + 3) H (c + 1 + 1) ((hs.same sH).mono (by omega)) ((hu.same sH).mono (by omega)) ((hv.same sH).mono (by omega)) (SlX.keep hu sH hxu) (SlX.keep hv sH hxv) hnu hnv (by omega) hq
  have hH' := hH.symm
  unfold sumE
  obtain ⟨E, hE⟩ : ∃ E, chkE Gl n (admB Gl n U && admB Gl n V) = E := ⟨_, rfl⟩
  rw [hE] at c1 ⊢
  by_cases h0 : E = 0
  case neg =>
    rw [if_neg h0]
    have fx := And.intro l0 (And.intro hbl (And.intro hH' c1))
    refine Ans.go ?_
    clear fx
    exact .done ⟨rfl, rfl, (by show c ≤ c + 1 + 1 + 1 + 1; omega), sH, .inl ⟨h0, rfl⟩⟩
  obtain ⟨hr0, ha⟩ := chkE_zero (hE.trans h0)
  obtain ⟨hn, hok⟩ := refE_zero hr0
  rw [Bool.and_eq_true] at ha
  obtain ⟨a1, a2⟩ := admB_w ha.1
  obtain ⟨b1, b2⟩ := admB_w ha.2
  have hnv' : nv = 7 * n := by have := hv.1; omega
  have hnu' : nu = 7 * n := by have := hu.1; omega
  subst h0
  rw [if_pos rfl]
  have hadd := Ans.eq (added_sp u v nu U V H (c + 1 + 1 + 1 + 1) [] ((hu.same sH).mono (by omega)) (by rw [hnu', ← hnv']; exact (hv.same sH).mono (by omega)) (by omega) (withinI a2) (withinI b2))
  have ca := callF_of hadd
  obtain ⟨ob, hob⟩ : ∃ ob, 256 * (c + 1 + 1 + 1 + 1 + 1) + 2 = ob := ⟨_, rfl⟩
  rw [hob] at ca
  have hal := addL_length U V
  have sx := slx_newB H ob nu (addL U V)
  have sl : SlI (newB H ob (ints (addL U V))) (c + 1 + 1 + 1 + 1 + 1 + 1 + 1 + 1) (.slice (some ⟨ob, 0, none⟩) nu nu) 1 nu (addL U V) := by
    refine ⟨by omega, by omega, some ⟨ob, 0, none⟩, nu, rfl, .inr ⟨ob, 0, ints (addL U V), rfl, by omega, ⟨false, none, by show (newB _ _ _ : FH).f _ = _; rw [newB_f, if_pos rfl]⟩, ?_⟩⟩
    rw [List.drop_zero, List.take_of_length_le (by simp [hal]; omega)]
  obtain ⟨H2, hH2⟩ : ∃ H2, newB H ob (ints (addL U V)) = H2 := ⟨_, rfl⟩
  have s2 : Same c h H2 := by rw [← hH2]; exact sH.trans (by intro b hb; rw [newB_f, if_neg (by omega)])
  have hg2 : Holds H2 (256 * c) [s] := hg.eqf (by rw [← hH2, newB_f, if_neg (by omega)])
  have l2 : ld1 H2 (.pointer (some ⟨256 * c, 0, none⟩)) = some s := by rw [ld1_holds' hg2]; rfl
  rw [hH2] at ca sx sl
  have ls := hs.len
  have cw := fun c' (hc : c + 1 + 1 + 1 + 1 + 1 + 1 + 1 + 1 ≤ c') => callF_of (within_sp _ nu (addL U V) H2 c' [] (sl.mono hc) (by omega))
  have l1 := ldN1_own hg
  obtain ⟨O, hO⟩ : ∃ O, addL U V = O := ⟨_, rfl⟩
  rw [hO] at sl cw ⊢
  obtain ⟨⟨re, rv, rh, rc, rd⟩, hr, r1, r2, r3, r4⟩ := sum_quads (.slice none 0 0) (.int .i64 0) _ n nu O (c + 1 + 1 + 1 + 1 + 1 + 1 + 1 + 1 + 1) H2 hn hnu' (sl.mono (by omega)) sx [] (by simp) (by simp) n 0 (by omega)
  simp only at r1 r2 r3 r4
  subst r1 r2 r3
  simp only [Int.ofNat_eq_natCast, Int.cast_ofNat_Int] at hr
  rcases r4 with ⟨rfl, rfl, r5⟩ | ⟨rfl, r5, r6, w, w1, w2⟩
  · have e1 : ((List.range n).all fun t => areQ (quadAt O t)) = true := List.all_eq_true.2 fun t ht => r5 t (by omega) (by simpa using ht)
    rw [if_pos e1]
    cases hw : withinB O with
    | true =>
      rw [hw] at cw
      have fx := And.intro l0 (And.intro hbl (And.intro hH' (And.intro c1 (And.intro l1 (And.intro ca (And.intro l2 (And.intro ls (And.intro hr cw))))))))
      refine Ans.go ?_
      clear fx
      exact .done ⟨rfl, rfl, (by show c ≤ c + 1 + 1 + 1 + 1 + 1 + 1 + 1 + 1 + 1 + 1 + 1; omega), s2, .inr ⟨rfl, _, rfl, sl.mono (by show _ ≤ c + 1 + 1 + 1 + 1 + 1 + 1 + 1 + 1 + 1 + 1 + 1; omega), sx⟩⟩
    | false =>
      rw [hw] at cw
      have fx := And.intro l0 (And.intro hbl (And.intro hH' (And.intro c1 (And.intro l1 (And.intro ca (And.intro l2 (And.intro ls (And.intro hr cw))))))))
      refine Ans.go ?_
      clear fx
      exact .done ⟨rfl, rfl, (by show c ≤ c + 1 + 1 + 1 + 1 + 1 + 1 + 1 + 1 + 1 + 1 + 1; omega), s2, .inl ⟨by simp, rfl⟩⟩
  · have e1 : ¬ ((List.range n).all fun t => areQ (quadAt O t)) = true := fun e => by
      rw [List.all_eq_true] at e
      have := e w (by simpa using w1)
      rw [w2] at this; cases this
    rw [if_neg e1]
    have fx := And.intro l0 (And.intro hbl (And.intro hH' (And.intro c1 (And.intro l1 (And.intro ca (And.intro l2 (And.intro ls (And.intro hr (And.intro r5 r6)))))))))
    refine Ans.go ?_
    clear fx
    exact .done ⟨rfl, rfl, (by show c ≤ c + 1 + 1 + 1 + 1 + 1 + 1 + 1 + 1 + 1; omega), s2, .inl ⟨by simp, (by show [Value.tuple #[_, _]] = _; rw [r5, r6])⟩⟩
end Go.Proofs.Ytcnndelmnobigaa

namespace Go.Proofs.Ytcnndelmnobigaa
open Go Go.Ab Go.Proofs
set_option maxRecDepth 100000
set_option linter.unusedVariables false
set_option linter.unusedSimpArgs false
theorem short_loop (ss : List Value) (ns : Nat → Nat) (sb : Nat) (h : FH) (c : Nat) (hsb : sb < 256 * c) (hh : Holds h sb ss) (hl : ss.length ≤ 1000) (hL : ∀ j, j < ss.length → lenS (ss.getD j undef) = some (.int .i64 (ns j))) (df : List Nat) : ∀ (k i : Nat), i + k = ss.length →
    Ans (G (f18_k18000 none) [.slice (some ⟨sb, 0, none⟩) ss.length ss.length, .bool false, .int .i64 i] h c df) fun r => r.h = h ∧ r.c = c ∧ r.df = df ∧
      ((r.e = .exit 0 ∧ ∀ j, i ≤ j → j < ss.length → ns j ≤ 50) ∨ (r.e = .ret ∧ r.v 1 = .bool false ∧ ∃ j, j < ss.length ∧ ¬ ns j ≤ 50)) := by
  intro k
  obtain ⟨m, hm⟩ : ∃ m, ss.length = m := ⟨_, rfl⟩
  rw [hm] at hl hL ⊢
  induction k with
  | zero =>
    intro i hi
    obtain rfl : i = m := by omega
    refine Ans.loop (fun q r => f18_N18000) (fun q => f18_Z18000) ?_
    unfold f18_L18000
    have fx := True.intro
    refine Ans.go ?_
    clear fx
    (have fx := hsb; refine Ans.ex0 ?_; clear fx)
    exact ⟨rfl, rfl, rfl, .inl ⟨rfl, fun j h1 h2 => by omega⟩⟩
  | succ k ih =>
    intro i hi
    have l1 : ld1 h (.pointer (some ⟨sb, i, none⟩)) = some (ss.getD i undef) := by
      rw [ld1_holds' hh, List.getD_eq_getElem?_getD, List.getElem?_eq_getElem (by omega)]; rfl
    have l2 := hL i (by omega)
    obtain ⟨x, hx⟩ : ∃ x, ss.getD i undef = x := ⟨_, rfl⟩
    rw [hx] at l1 l2
    refine Ans.loop (fun q r => f18_N18000) (fun q => f18_Z18000) ?_
    unfold f18_L18000
    by_cases h5 : ns i ≤ 50
    · have fx := And.intro l1 l2
      refine Ans.go ?_
      clear fx
      (have fx := hsb; refine Ans.nx0 ?_; clear fx)
      refine (ih (i + 1) (by omega)).mono ?_
      rintro r ⟨q1, q2, q3, q4⟩
      refine ⟨q1, q2, q3, q4.imp (fun ⟨a, b⟩ => ⟨a, fun j h1 h2 => ?_⟩) id⟩
      by_cases e : j = i
      · rw [e]; exact h5
      · exact b j (by omega) h2
    · have fx := And.intro l1 l2
      refine Ans.go ?_
      clear fx
      (have fx := hsb; refine Ans.rt0 ?_; clear fx)
      exact ⟨rfl, rfl, rfl, .inr ⟨rfl, rfl, i, by omega, h5⟩⟩
theorem short_sp (ss : List Value) (ns : Nat → Nat) (sb : Nat) (h : FH) (c : Nat) (df : List Nat) (hsb : sb < 256 * c) (hh : Holds h sb ss) (hl : ss.length ≤ 1000) (hL : ∀ j, j < ss.length → lenS (ss.getD j undef) = some (.int .i64 (ns j))) :
    G (.fn 18) [.slice (some ⟨sb, 0, none⟩) ss.length ss.length] h c df = some { e := .ret, vs := [.bool ((List.range ss.length).all fun j => decide (ns j ≤ 50))], h := h, c := c, df := [] } := by
  refine pure_of' (fun r e => f18_go e) (by simp) ?_
  unfold f18_S
  obtain ⟨⟨re, rv, rh, rc, rd⟩, hr, r1, r2, r3, r4⟩ := short_loop ss ns sb h (c + 1 + 1) (by omega) hh hl hL [] ss.length 0 (by omega)
  simp only at r1 r2 r3 r4
  subst r1 r2 r3
  simp only [Int.ofNat_eq_natCast, Int.cast_ofNat_Int] at hr
  rcases r4 with ⟨rfl, r5⟩ | ⟨rfl, r5, j, j1, j2⟩
  · have e : ((List.range ss.length).all fun j => decide (ns j ≤ 50)) = true := List.all_eq_true.2 fun j hj => decide_eq_true (r5 j (by omega) (by simpa using hj))
    rw [e]
    have fx := hr
    refine Ans.go ?_
    clear fx
    exact Ans.pure rfl (by simp)
  · have e : ((List.range ss.length).all fun j => decide (ns j ≤ 50)) = false := by
      rw [List.all_eq_false]
      exact ⟨j, by simpa using j1, by simpa using j2⟩
    rw [e]
    have fx := hr
    refine Ans.go ?_
    clear fx
    exact Ans.pure r5 (by simp)
end Go.Proofs.Ytcnndelmnobigaa

namespace Go.Proofs.Ytcnndelmnobigaa
open Go Go.Ab Go.Proofs
set_option maxRecDepth 100000
set_option linter.unusedVariables false
set_option linter.unusedSimpArgs false
theorem AppG.len {c0 : Nat} {h : FH} {c : Nat} {v : Value} {n : Nat} {cs : List Value} (ha : AppG c0 h c v n cs) : lenS v = some (.int .i64 n) := by
  obtain ⟨_, _, _, i, op, rfl, _⟩ := ha; rfl
end Go.Proofs.Ytcnndelmnobigaa

namespace Go.Proofs.Ytcnndelmnobigaa
open Go Go.Ab Go.Proofs
set_option maxRecDepth 100000
set_option linter.unusedVariables false
set_option linter.unusedSimpArgs false
def lkK (L : List Int) (first : Nat) : Nat → Nat → List Int → List Int
  | 0, _, X => X
  | r + 1, x, X => lkK L first r (x + 1) (if rootL L x = first then X.set (x / 4 * 7 + x % 4) 1 else X)
theorem lkK_length (L : List Int) (first : Nat) : ∀ (r x : Nat) (X : List Int), (lkK L first r x X).length = X.length
  | 0, _, _ => rfl
  | r + 1, x, X => by
    rw [lkK, lkK_length]
    split
    · simp
    · rfl
def lkRow (L : List Int) (n : Nat) (first : Int) : List Int := lkK L first.toNat (4 * n) 0 (List.replicate (7 * n) 0)
theorem quo_nat (x d : Nat) (hd : 0 < d) (hx : x < 1000000000) : aBinOp P .quo 3 (.int .i64 (x : Int)) (.int .i64 (d : Int)) = some (.int .i64 (x / d : Nat)) := by
  have h1 : ((x : Int).tdiv (d : Int)) = ((x / d : Nat) : Int) := by rw [Int.tdiv_eq_ediv_of_nonneg (by omega)]; rfl
  have h2 : x / d ≤ x := Nat.div_le_self _ _
  obtain ⟨y, hy⟩ : ∃ y, x / d = y := ⟨_, rfl⟩
  rw [hy] at h1 h2 ⊢
  rw [aBinOp_quo _ _ _ (by omega) (by rw [h1]; omega) (by rw [h1]; omega), h1]
theorem rem_nat (x d : Nat) (hd : 0 < d) : aBinOp P .rem 3 (.int .i64 (x : Int)) (.int .i64 (d : Int)) = some (.int .i64 (x % d : Nat)) := by
  rw [aBinOp_rem _ _ _ (by omega), Int.tmod_eq_emod_of_nonneg (by omega)]; rfl
theorem link_loop (h0 : FH) (gb p b lb n c : Nat) (L : List Int) (out F v27 v28 : Value) (first : Nat) (hn : n ≤ 60) (u : Uf h0 p b (4 * n) L) (hp : p < 256 * c) (hb : b < 256 * c) (hgb : gb < 256 * c) (hlb : lb < 256 * c) (h1 : lb ≠ p) (h2 : lb ≠ b) (o1 : OkV c out) (o2 : OkV c F) (o3 : OkV c v27) (o4 : OkV c v28) (df : List Nat) :
    ∀ (r x : Nat) (X : List Int), x + r = 4 * n → X.length = 7 * n →
    Ans (G (f14_k14001 none) [ptrTo gb, ptrTo p, out, .int .i64 first, .slice (some ⟨lb, 0, none⟩) (7 * n) (7 * n), F, v27, v28, .int .i64 (4 * n : Nat), .int .i64 x] (newB h0 lb (ints X)) c df) fun q => q = { e := .exit 2, vs := [ptrTo gb, ptrTo p, out, .int .i64 first, .slice (some ⟨lb, 0, none⟩) (7 * n) (7 * n), F, v27, v28, .int .i64 (4 * n : Nat), .int .i64 (4 * n : Nat)], h := newB h0 lb (ints (lkK L first r x X)), c := c, df := df } := by
  intro r
  induction r with
  | zero =>
    intro x X hx hX
    obtain rfl : x = 4 * n := by omega
    refine Ans.loop (fun q r => f14_N14001) (fun q => f14_Z14001) ?_
    unfold f14_L14001
    have fx := True.intro
    refine Ans.go ?_
    clear fx
    (have fx := And.intro hgb (And.intro hp (And.intro hlb (And.intro o1 (And.intro o2 (And.intro o3 o4))))); refine Ans.ex0 ?_; clear fx)
    rfl
  | succ r ih =>
    intro x X hx hX
    have u' : Uf (newB h0 lb (ints X)) p b (4 * n) L := u.keep (by rw [newB_f, if_neg (Ne.symm h1)]) (by rw [newB_f, if_neg (Ne.symm h2)])
    have c1 : ∀ c', c ≤ c' → callF G 46 [.pointer (some ⟨p, 0, none⟩), .int .i64 x] (newB h0 lb (ints X)) c' = _ := fun c' (hc : c ≤ c') => callF_of (root_sp (newB h0 lb (ints X)) p b (4 * n) c' L u' (by omega) x (by omega) [])
    have q1 := quo_nat x 4 (by omega) (by omega)
    have q2 := rem_nat x 4 (by omega)
    simp only [Int.ofNat_eq_natCast, Int.cast_ofNat_Int] at q1 q2
    have hw : stN (newB h0 lb (ints X)) 1 (.pointer (some ⟨lb, x / 4 * 7 + x % 4, none⟩)) (.int .i64 1) = some (newB h0 lb (ints (X.set (x / 4 * 7 + x % 4) 1))) := by
      rw [st1_int _ _ _ _ _ _ (by simp; omega), ints_set]
    have d1 : x / 4 ≤ n - 1 := by omega
    have d2 : x % 4 < 4 := by omega
    obtain ⟨T, hT⟩ : ∃ T, x / 4 = T := ⟨_, rfl⟩
    obtain ⟨E, hE⟩ : ∃ E, x % 4 = E := ⟨_, rfl⟩
    rw [lkK]
    rw [hT] at q1 hw d1 ⊢
    rw [hE] at q2 hw d2 ⊢
    have hx4 : (x : Int) < (4 * n : Nat) := by omega
    have hr := rootL_le u.dn (i := x) (by omega)
    obtain ⟨R, hR⟩ : ∃ R, rootL L x = R := ⟨_, rfl⟩
    rw [hR] at c1 hr ⊢
    have e7 : ((T : Int) * 7 + E).toNat = T * 7 + E := by omega
    refine Ans.loop (fun q r => f14_N14001) (fun q => f14_Z14001) ?_
    unfold f14_L14001
    by_cases e : R = first
    · rw [if_pos e]
      have e' : (R : Int) = first := by omega
      have fx := And.intro c1 (And.intro q1 (And.intro q2 (And.intro e7 hw)))
      refine Ans.go ?_
      clear fx
      (have fx := And.intro hgb (And.intro hp (And.intro hlb (And.intro o1 (And.intro o2 (And.intro o3 o4))))); refine Ans.nxB (B := newB h0 lb (ints (X.set (T * 7 + E) 1))) ?_ ?_; exact Upto.both (OkVs.ints _ _) (Upto.refl _ _) hlb; clear fx)
      exact ih (x + 1) _ (by omega) (by simp [hX])
    · rw [if_neg e]
      have e' : ¬ (R : Int) = first := by omega
      have fx := c1
      refine Ans.go ?_
      clear fx
      (have fx := And.intro hgb (And.intro hp (And.intro hlb (And.intro o1 (And.intro o2 (And.intro o3 o4))))); refine Ans.nx0 ?_; clear fx)
      exact ih (x + 1) X (by omega) hX
end Go.Proofs.Ytcnndelmnobigaa

namespace Go.Proofs.Ytcnndelmnobigaa
open Go Go.Ab Go.Proofs
set_option maxRecDepth 100000
set_option linter.unusedVariables false
set_option linter.unusedSimpArgs false
def LkV (c0 : Nat) (h : FH) (c : Nat) (v : Value) (n : Nat) (L : List Int) (i : Nat) (Fl : List Int) : Prop :=
  ∃ vals, AppG c0 h c v i vals ∧ ∀ (k : Nat) (x : Int), k < i → Fl[k]? = some x → ∃ w, vals[k]? = some w ∧ RowV c0 h c w (7 * n) (lkRow L n x) ∧ blkOf w ≠ blkOf v
theorem links_loop (s : Value) (n : Nat) (Gl : List Int) (gb p b c0 : Nat) (L : List Int) (F : Value) (m : Nat) (Fl : List Int) (hn : n ≤ 60) (hgb : gb < 256 * c0) (hp : p < 256 * c0) (hb : b < 256 * c0) (hF : ∀ x, x ∈ Fl → ∃ k : Nat, x = k ∧ k < 4 * n) (hm : m ≤ 1000) (df : List Nat) :
    ∀ (k i cc : Nat) (h : FH) (out : Value), i + k = m → c0 ≤ cc → Holds h gb [s] → SlI h c0 s 20 n Gl → Uf h p b (4 * n) L → SlI h cc F 1 m Fl → (0 < m → blkOf F ≠ blkOf out) → LkV c0 h cc out n L i Fl →
    Ans (G (f14_k14000 none) [ptrTo gb, ptrTo p, out, F, .int .i64 m, .int .i64 i] h cc df) fun r => r.e = .exit 0 ∧ cc ≤ r.c ∧ r.df = df ∧ Same c0 h r.h ∧ LkV c0 r.h r.c (r.v 2) n L m Fl := by
  intro k
  induction k with
  | zero =>
    intro i cc h out hi hc hg hs u sf hne hv
    obtain rfl : i = m := by omega
    refine Ans.loop' (fun q r => f14_N14000) (fun q => f14_Z14000) ?_
    unfold f14_L14000
    have fx := True.intro
    refine Ans.go ?_
    clear fx
    refine Ans.exitN ⟨rfl, (by show cc ≤ cc + 1; omega), rfl, fun _ _ => rfl, ?_⟩
    obtain ⟨vals, a1, a2⟩ := hv
    refine ⟨vals, a1.mono (by show cc ≤ cc + 1; omega), fun k x h1 h2 => ?_⟩
    obtain ⟨w, w1, ⟨q, z1, z2, z3, z4⟩, w3⟩ := a2 k x h1 h2
    exact ⟨w, w1, ⟨q, z1, z2, (by show q < 256 * (cc + 1); omega), z4⟩, w3⟩
  | succ k ih =>
    intro i cc h out hi hc hg hs u sf hne hv
    obtain ⟨vals, a1, a2⟩ := hv
    have hFl := sf.1
    have l1 := sf.rdi i (by omega) (by omega)
    simp only [Int.toNat_natCast] at l1
    rw [gi_nat] at l1
    have hLi : Fl.getD i 0 = Fl[i]'(by omega) := by simp [List.getD_eq_getElem?_getD, List.getElem?_eq_getElem (by omega : i < Fl.length)]
    obtain ⟨x, hx, hx6⟩ := hF (Fl[i]'(by omega)) (List.getElem_mem _)
    rw [hLi, hx] at l1
    have lg : ld1 h (.pointer (some ⟨gb, 0, none⟩)) = some s := by rw [ld1_holds' hg]; rfl
    have ls := hs.len
    have mk := mkS_int 1 8 .i64 .i64 (7 * n) (by omega) (by omega)
    rw [show ((7 * n : Nat) : Int) = 7 * (n : Int) by omega] at mk
    obtain ⟨lb, hlb⟩ : ∃ lb, lb = 256 * (cc + 1 + 1) + 4 := ⟨_, rfl⟩
    have s1 : ∀ X, Same (cc + 1) h (newB h lb X) := fun X q hq => by rw [newB_f, if_neg (by omega)]
    have lu : ∀ X, ld1 (newB h lb X) (.pointer (some ⟨p, 0, none⟩)) = some (.slice (some ⟨b, 0, none⟩) (4 * n) (4 * n)) := fun X => (u.same (s1 X) (by omega) (by omega)).ld
    have bo := a1.blk
    have bF : 0 < m → blkOf F < 256 * cc := fun hp => sf.blk hp
    have hin := Ans.eq (link_loop h gb p b lb n (cc + 1 + 1 + 1 + 1) L out F (.int .i64 m) (.int .i64 i) x hn u (by omega) (by omega) (by omega) (by omega) (by omega) (by omega) (by obtain ⟨_, _, _, j, op, rfl, _, h6, _⟩ := a1; exact OkV.sl (by omega)) ((sf.mono (by omega)).okV) (by simp) (by simp) df (4 * n) 0 (List.replicate (7 * n) 0) (by omega) (by simp))
    rw [show lkK L x (4 * n) 0 (List.replicate (7 * n) 0) = lkRow L n x by rw [lkRow, Int.toNat_natCast]] at hin
    rw [show ((4 * n : Nat) : Int) = 4 * (n : Int) by omega] at hin
    simp only [Int.ofNat_eq_natCast, Int.cast_ofNat_Int] at hin
    obtain ⟨X, hX⟩ : ∃ X, lkRow L n x = X := ⟨_, rfl⟩
    have hXl : X.length = 7 * n := by rw [← hX, lkRow, lkK_length]; simp
    obtain ⟨H, hH⟩ : ∃ H, newB h lb (ints X) = H := ⟨_, rfl⟩
    rw [hX, hH] at hin
    have sH : Same (cc + 1) h H := by rw [← hH]; exact s1 _
    have fl : H.f lb = some (.cells false none (ints X)) := by rw [← hH, newB_f, if_pos rfl]
    have hbl : bldL [(.slice none 0 0)] [(0, 1, (.slice (some ⟨lb, 0, none⟩) (7 * n) (7 * n)))] = some [.slice (some ⟨lb, 0, none⟩) (7 * n) (7 * n)] := rfl
    obtain ⟨h', p1, p2, p3⟩ := ((a1.keep (h' := H) (sH _ (by omega))).mono (c' := cc + 1 + 1 + 1 + 1) (by omega)).app (c' := cc + 1 + 1 + 1 + 1 + 1) (.slice (some ⟨lb, 0, none⟩) (7 * n) (7 * n)) rfl 24 (256 * (cc + 1 + 1 + 1 + 1) + 2) (256 * (cc + 1 + 1 + 1 + 1) + 3) (by omega) (by omega) (by omega) (by omega) (by omega) (by omega)
    have s0 : Same c0 h h' := fun q hq => by rw [p3 q (by omega) (by omega), sH q (by omega)]
    refine Ans.loop' (fun q r => f14_N14000) (fun q => f14_Z14000) ?_
    unfold f14_L14000
    rw [← hlb]
    have fx := And.intro sf.ixs1 (And.intro l1 (And.intro lg (And.intro ls (And.intro mk (And.intro lu (And.intro hin (And.intro hbl p1)))))))
    refine Ans.go ?_
    clear fx
    refine Ans.nextN ?_
    have him : (i : Int) < m := by omega
    refine (ih (i + 1) _ h' _ (by omega) (by omega) (hg.same hgb s0) (hs.same s0) (u.same s0 hp hb) ((sf.keep (fun hp => ?_)).mono (by omega)) (fun hp => ?_) ⟨_, p2.mono (by omega), fun j y hj hy => ?_⟩).mono ?_
    · rw [p3 _ (by have := bF hp; omega) (hne hp), sH _ (by have := bF hp; omega)]
    · rw [blkOf_sl]; have := bF hp; omega
    · have hvl : vals.length = i := a1.1
      rcases Nat.lt_or_ge j i with hji | hji
      · obtain ⟨w, w1, ⟨q, z1, z2, z3, z4, z5⟩, w3⟩ := a2 j y hji hy
        rw [z1, blkOf_sl] at w3
        refine ⟨w, by rw [List.getElem?_append_left (by omega)]; exact w1, ⟨q, z1, z2, by omega, ?_, z5⟩, by rw [z1, blkOf_sl, blkOf_sl]; omega⟩
        rw [p3 q (by omega) w3, sH q (by omega), z4]
      · obtain rfl : j = i := by omega
        have hy' : y = x := by
          rw [List.getElem?_eq_getElem (by omega)] at hy
          rw [← hx]; exact (Option.some.inj hy).symm
        subst hy'
        rw [hX]
        refine ⟨_, by rw [List.getElem?_append_right (by omega), hvl, Nat.sub_self]; rfl, ⟨lb, rfl, by omega, by omega, ?_, hXl, by omega⟩, by rw [blkOf_sl, blkOf_sl]; omega⟩
        rw [p3 lb (by omega) (by omega), fl]
    · rintro r ⟨q1, q2, q3, q4, q5⟩
      exact ⟨q1, by omega, q3, s0.trans q4, q5⟩
end Go.Proofs.Ytcnndelmnobigaa

namespace Go.Proofs.Ytcnndelmnobigaa
open Go Go.Ab Go.Proofs
set_option maxRecDepth 100000
set_option linter.unusedVariables false
set_option linter.unusedSimpArgs false
def vxC (Gl : List Int) (n : Nat) : List Int := vCl n (allM Gl n)
def vxF (Gl : List Int) (n : Nat) : List Int := firstsL (vxC Gl n) (4 * n)
theorem vxF_mem {Gl : List Int} {n : Nat} {x : Int} (hx : x ∈ vxF Gl n) : ∃ k : Nat, x = k ∧ k < 4 * n ∧ rootL (vxC Gl n) k = k := mem_firstsL hx
set_option maxHeartbeats 1000000 in
theorem links_sp (s : Value) (n : Nat) (Gl : List Int) (h : FH) (c : Nat) (df : List Nat) (hs : SlI h c s 20 n Gl) :
    Ans (G (.fn 14) [.agg #[s]] h c df) fun r => r.e = .ret ∧ r.df = [] ∧ c ≤ r.c ∧ Same c h r.h ∧
      ((refE Gl n ≠ 0 ∧ r.vs = [.tuple #[.slice none 0 0, .int .i64 (refE Gl n)]]) ∨ (refE Gl n = 0 ∧ ∃ v, r.vs = [.tuple #[v, .int .i64 0]] ∧ LkV c r.h r.c v n (vxC Gl n) (vxF Gl n).length (vxF Gl n))) := by
  refine Ans.call' (fun r e => f14_go e) ?_
  unfold f14_S
  rw [flat1 hs.flat, cell1, Nat.add_zero]
  simp only [cond_true]
  obtain ⟨H, hH⟩ : ∃ H, H = newB h (256 * c) [s] := ⟨_, rfl⟩
  have sH : Same c h H := by rw [hH]; simp (disch := omega)
  have hg : Holds H (256 * c) [s] := by rw [hH]; exact Holds.newB_same _ _ _
  rw [← hH]
  clear hH
  have l1 := ldN1_own hg
  have ch := callF_of (refused_sp s n Gl H (c + 1 + 1) [] ((hs.same sH).mono (by omega)))
  obtain ⟨E, hE⟩ : ∃ E, refE Gl n = E := ⟨_, rfl⟩
  by_cases h0 : E = 0
  case neg =>
    rw [hE] at ch ⊢
    have fx := And.intro l1 ch
    refine Ans.go ?_
    clear fx
    exact .done ⟨rfl, rfl, (by show c ≤ c + 1 + 1 + 1 + 1; omega), sH, .inl ⟨h0, rfl⟩⟩
  obtain ⟨hn, hok⟩ := refE_zero (hE.trans h0)
  rw [hE] at ch ⊢
  subst h0
  obtain ⟨⟨re, rv, H1, c1, rd⟩, hr, r1, r2, r3, r4, vs, vu, es, eu, rfl, b1, b2, b3, b4, u1, u2⟩ := classes_sp s n Gl H (c + 1 + 1 + 1 + 1) [] ((hs.same sH).mono (by omega)) hok hn
  simp only at r1 r2 r3 r4 b1 b2 b3 b4 u1 u2
  subst r1 r2
  have cc := callF_of hr
  have hb0 : bldL [] [] = some [] := rfl
  obtain ⟨H2, hH2⟩ : ∃ H2, newB H1 (256 * c1) [] = H2 := ⟨_, rfl⟩
  have s12 : Same c1 H1 H2 := by rw [← hH2]; intro b hb; rw [newB_f, if_neg (by omega)]
  have f2 : H2.f (256 * c1) = some (.cells false none []) := by rw [← hH2, newB_f, if_pos rfl]
  have u12 := u1.same s12 b1 b2
  obtain ⟨⟨re, rv, H3, c3, rd⟩, hr', F, q1, q2, q3, q4⟩ := firsts_sp vs vu (4 * n) _ H2 (c1 + 1 + 1) [] u12 (by omega) (by omega)
  obtain ⟨rfl, rfl, -, -, rfl⟩ := Rt.mk.inj q1
  simp only at q2 q3 q4
  have cf : callF G 45 [.pointer (some ⟨vs, 0, none⟩)] H2 (c1 + 1 + 1) = some (F, H3, c3) := callF_of hr'
  have hFl := firstsL_len (vCl n (allM Gl n)) (4 * n)
  have hmem : ∀ x, x ∈ firstsL (vCl n (allM Gl n)) (4 * n) → ∃ k : Nat, x = k ∧ k < 4 * n := fun x hx => by
    obtain ⟨k, h1, h2, _⟩ := mem_firstsL hx; exact ⟨k, h1, h2⟩
  have lf := q4.sl.len
  unfold vxF vxC
  have u13 : Uf H3 vs vu (4 * n) (vCl n (allM Gl n)) := u12.same q3 (by omega) (by omega)
  obtain ⟨C, hC⟩ : ∃ C, vCl n (allM Gl n) = C := ⟨_, rfl⟩
  rw [hC] at q4 lf hFl hmem u13 ⊢
  obtain ⟨L, hL⟩ : ∃ L, firstsL C (4 * n) = L := ⟨_, rfl⟩
  rw [hL] at q4 lf hFl hmem ⊢
  have sv : Same c h H3 := sH.trans (((r4.mono (by omega : c ≤ c + 1 + 1 + 1 + 1)).trans (s12.mono (by omega))).trans (q3.mono (by omega)))
  have sv1 : Same (c + 1) H H3 := ((r4.mono (by omega : c + 1 ≤ c + 1 + 1 + 1 + 1)).trans (s12.mono (by omega))).trans (q3.mono (by omega))
  have hne : 0 < L.length → blkOf F ≠ blkOf (.slice (some ⟨256 * c1, 0, none⟩) 0 0) := fun hp => by
    obtain ⟨z1, z2, ⟨rfl, z3⟩ | ⟨i, rfl, z3, z4, z5⟩⟩ := q4
    · omega
    · rw [blkOf_sl, blkOf_sl]; omega
  have f3 : H3.f (256 * c1) = some (.cells false none []) := by rw [q3 _ (by omega), f2]
  obtain ⟨⟨re, rv, H4, c4, rd⟩, hr2, g1, g2, g3, g4, g5⟩ := links_loop s n Gl (256 * c) vs vu c1 C F L.length L hn (by omega) (by omega) (by omega) hmem (by omega) [] L.length 0 c3 H3 (.slice (some ⟨256 * c1, 0, none⟩) 0 0) (by omega) (by omega) (hg.eqf (sv1 _ (by omega))) ((hs.same sv).mono (by omega)) u13 q4.sl hne ⟨[], ⟨rfl, by omega, rfl, 256 * c1, none, rfl, by omega, by omega, f3, .inl rfl⟩, fun k x hk => by omega⟩
  simp only [Int.ofNat_eq_natCast, Int.cast_ofNat_Int] at hr2
  simp only at g1 g2 g3 g4 g5
  subst g1 g3
  have fx := And.intro l1 (And.intro ch (And.intro cc (And.intro hb0 (And.intro hH2 (And.intro cf (And.intro lf hr2))))))
  refine Ans.go ?_
  clear fx
  have g6 : LkV c H4 (c4 + 1) (Rt.v { e := Ex.exit 0, vs := rv, h := H4, c := c4, df := [] } 2) n C L.length L := by
    obtain ⟨vals, ⟨z1, z2, z3, i, op, z4, z5, z6, z7, z8⟩, z9⟩ := g5
    refine ⟨vals, ⟨z1, z2, z3, i, op, z4, by omega, by omega, z7, z8⟩, fun k x h1 h2 => ?_⟩
    obtain ⟨w, w1, ⟨q, y1, y2, y3, y4, y5⟩, w3⟩ := z9 k x h1 h2
    exact ⟨w, w1, ⟨q, y1, by omega, by omega, y4, y5⟩, w3⟩
  exact .done ⟨rfl, rfl, (by show c ≤ c4 + 1; omega), sv.trans (g4.mono (by omega)), .inr ⟨rfl, _, rfl, g6⟩⟩
end Go.Proofs.Ytcnndelmnobigaa

namespace Go.Ab
open Go Go.ChangeShapes Go.RowKit
set_option linter.unusedVariables false
set_option linter.unusedSimpArgs false
variable {P : Program}
theorem okStruct {W : World} {base : Nat} {t : TypeId} {fs : Array Field} {v : Value} {ts : List TypeId} (ht : P.underlying t = some (.struct fs)) (hts : P.cellTypes P.depth t = some ts) (hval : Value.okWide P W .any base t v) :
    ∃ cs, v = .agg cs ∧ cs.size = P.cellsOf t ∧ ∀ i x, cs[i]? = some x → ∃ u, ts[i % ts.length]? = some u ∧ Cell.okWide P W .any base u x := by
  unfold Value.okWide at hval
  rw [ht] at hval
  obtain ⟨cs, rfl, h1, ts', h2, _, h3⟩ := hval
  rw [hts] at h2
  cases h2
  exact ⟨cs, rfl, h1, h3⟩
theorem open_s1 {H : Type} {enc : TypeId × Value → H} {W : World} {base : Nat} {tG tS e : TypeId} {sz : Nat} {v : Value} {f0 : Field} {d : DataW H} {ps : List MemPlace} (ht : P.underlying tG = some (.struct #[f0])) (hts : P.cellTypes P.depth tG = some [tS]) (hc : P.cellsOf tG = 1)
    (hS : P.underlying tS = some (.slice e)) (h0 : f0.type = tS) (o0 : f0.offset = 0) (hcS : P.cellsOf tS = 1) (hf : FlatT P e sz) (hz : 0 < sz) (hval : Value.okWide P W .any base tG v) (hd : DataW.Trod enc P W 0 (fun _ => true) true tG v d ps) :
    ∃ s n Gl, v = .agg #[s] ∧ OpenS W s sz n Gl := by
  obtain ⟨cs, rfl, h1, h2⟩ := okStruct ht hts hval
  rw [hc] at h1
  have hcs : ∃ s, cs = #[s] := by
    obtain ⟨l⟩ := cs
    match l, h1 with
    | [s], _ => exact ⟨s, rfl⟩
  match hcs with
  | ⟨s, hs⟩ =>
    subst hs
    obtain ⟨u, hu, hok⟩ := h2 0 s rfl
    simp at hu
    subst hu
    obtain ⟨fuel, hd⟩ := hd
    obtain ⟨y0, n, _, _, h3⟩ := trod_struct1 ht hd
    rw [h0, o0, hcS] at h3
    obtain ⟨n, Gl, ho⟩ := open_flat hS hf hz hok (fuel := n) (x := y0) (by simpa [Value.cells] using h3)
    exact ⟨s, n, Gl, rfl, ho⟩
theorem open_sl {H : Type} {enc : TypeId × Value → H} {W : World} {base : Nat} {tS e : TypeId} {sz : Nat} {v : Value} {d : DataW H} {ps : List MemPlace} (hS : P.underlying tS = some (.slice e)) (hf : FlatT P e sz) (hz : 0 < sz)
    (hval : Value.okWide P W .any base tS v) (hd : DataW.Trod enc P W 0 (fun _ => true) true tS v d ps) : ∃ n Gl, OpenS W v sz n Gl := by
  unfold Value.okWide at hval
  rw [hS] at hval
  obtain ⟨fuel, hd⟩ := hd
  have hcs : v.cells.toList = [v] := by
    have hok : Cell.ok P W .any base tS v := by
      unfold Cell.okWide at hval
      rw [hS] at hval
      cases v <;> exact hval
    unfold Cell.ok at hok
    rw [hS] at hok
    cases v <;> first | rfl | exact hok.elim
  exact open_flat hS hf hz hval (fuel := fuel) (x := (d, ps)) (by rw [← hcs]; exact hd)
theorem VR.agg1 {μ : Mu} {a b : Value} (h : VR μ a b) : VR μ (.agg #[a]) (.agg #[b]) := VR.agg_iff.2 (VRs.cons h (VRs.nil _))
def LawEnd (W : World) (e : Ending) (W' : World) : Prop := e = .returned (.bool true) ∧ Below W.heap.size W W'
end Go.Ab

namespace Go.Ab
open Go Go.ChangeShapes Go.RowKit
set_option linter.unusedVariables false
set_option linter.unusedSimpArgs false
end Go.Ab

namespace Go.Ab
open Go Go.ChangeShapes Go.RowKit
set_option linter.unusedVariables false
set_option linter.unusedSimpArgs false
def SlC (h : FH) (s : Value) (sz n : Nat) (L : List Int) : Prop := srcCells h sz s = some (ints L, n)
theorem OpenS.slc {W : World} {v : Value} {sz n : Nat} {Gl : List Int} (h : OpenS W v sz n Gl) {A : FH} {i : Nat} (ha : ∀ m, absM v = some m → A.f i = some (.cells true none (ints Gl))) : SlC A (absS i v) sz n Gl := by
  obtain ⟨h1, h2, ⟨rfl, rfl⟩ | ⟨b, o, cap, C, E, fr, rfl, g1, _, _⟩⟩ := h
  · have : Gl = [] := List.eq_nil_of_length_eq_zero (by omega)
    subst this
    rfl
  · have hg : HeapC.get A i = some (.cells true none (ints Gl)) := ha _ rfl
    have hb : Nat.ble (0 + n * sz) (ints Gl).length = true := Nat.ble_eq_true_of_le (by simp [h1])
    simp only [SlC, absS, srcCells, rdCells, getCells, hg, Option.bind_some, hb, cond_true, List.drop_zero]
    rw [List.take_of_length_le (by simp [h1])]
theorem app_copy {h : FH} {c c' : Nat} {s : Value} {sz n : Nat} {L : List Int} (hs : SlC h s sz n L) (hl : L.length = n * sz) (hz : 0 < sz) (by' i id : Nat) (hi : h.f i = some (.cells false none [])) (hi' : i < 256 * c') (hid : 256 * c ≤ id) (hid' : id < 256 * c') (hlim : n * (by' + 1) ≤ 17592186044416) :
    ∃ v' h', appV h id sz by' (.slice (some ⟨i, 0, none⟩) 0 0) s = some (v', h') ∧ SlI h' c' v' sz n L ∧ SlX h' v' sz n ∧ SlC h' v' sz n L ∧ (∀ j, j ≠ id → h'.f j = h.f j) ∧ (0 < n → v' = .slice (some ⟨id, 0, none⟩) n n ∧ h'.f id = some (.cells false (some sz) (ints L))) := by
  have hn : n ≤ 17592186044416 := by
    have : n * 1 ≤ n * (by' + 1) := Nat.mul_le_mul_left _ (by omega)
    omega
  have hg : HeapC.get h i = some (.cells false none []) := hi
  rcases Nat.eq_zero_or_pos n with rfl | hp
  · have : L = [] := List.eq_nil_of_length_eq_zero (by omega)
    subst this
    refine ⟨.slice (some ⟨i, 0, none⟩) 0 0, h, ?_, ⟨by simp, by omega, some ⟨i, 0, none⟩, 0, rfl, .inl ⟨rfl, OkV.sl hi'⟩⟩, ⟨Nat.le_refl _, ?_⟩, ?_, fun _ _ => rfl, fun h => by omega⟩
    · unfold SlC at hs
      simp only [appV, hs, Option.bind_some, appTo]
      rfl
    · simp only [adrOf, szOk, hg]
    · simp [SlC, srcCells, rdCells, getCells, hg]
      rfl
  · have hcap : Nat.ble n 0 = false := by rw [Bool.eq_false_iff]; intro hh; have := Nat.le_of_ble_eq_true hh; omega
    have hlim' : Nat.ble (n * (by' + 1)) 17592186044416 = true := Nat.ble_eq_true_of_le hlim
    have hb0 : Nat.ble 0 ([] : List Value).length = true := rfl
    refine ⟨.slice (some ⟨id, 0, none⟩) n n, HeapC.set h id (.cells false (some sz) (ints L)), ?_, ⟨hl, by omega, some ⟨id, 0, none⟩, n, rfl, .inr ⟨id, 0, ints L, rfl, hid', ⟨false, some sz, ?_⟩, ?_⟩⟩, ⟨Nat.le_refl _, ?_⟩, ?_, fun j hj => by rw [set_f, if_neg hj], fun _ => ⟨rfl, by rw [set_f, if_pos rfl]⟩⟩
    · unfold SlC at hs
      simp only [appV, hs, Option.bind_some, appTo, hcap, cond_false, appGrow, hlim', ints_flat, Bool.and_self, cond_true, rdCells, getCells, hg, hb0, Nat.zero_add, List.drop_zero, Nat.zero_mul, Nat.add_zero, List.take_zero, List.nil_append]
    · exact get_set_same _ _ _
    · rw [List.drop_zero, List.take_of_length_le (by simp [hl])]
    · simp only [adrOf, szOk, get_set_same, Nat.beq_refl]
    · have hb : Nat.ble (0 + n * sz) (ints L).length = true := Nat.ble_eq_true_of_le (by simp [hl])
      simp only [SlC, srcCells, rdCells, getCells, get_set_same, Option.bind_some, hb, cond_true, List.drop_zero]
      rw [List.take_of_length_le (by simp [hl])]
theorem SlI.slc {h : FH} {c : Nat} {s : Value} {sz n : Nat} {L : List Int} (hs : SlI h c s sz n L) (hn : 0 < n) (hz : 0 < sz) : SlC h s sz n L := by
  obtain ⟨g1, g2, a, cap, rfl, h4⟩ := hs
  rcases h4 with ⟨e, hv⟩ | ⟨b, o, cs, rfl, e2, ⟨ro, op, e3⟩, e4⟩
  · omega
  · have hl : (ints L).length = n * sz := by simp [g1]
    have h0 : 0 < n * sz := Nat.mul_pos hn hz
    have hle : o + n * sz ≤ cs.length := by
      rw [← e4, List.length_take, List.length_drop] at hl
      omega
    have hb : Nat.ble (o + n * sz) cs.length = true := Nat.ble_eq_true_of_le hle
    have hg : HeapC.get h b = some (.cells ro op cs) := e3
    simp only [SlC, srcCells, rdCells, getCells, hg, Option.bind_some, hb, cond_true, e4]
theorem AppG.appN {c0 : Nat} {h : FH} {c c' : Nat} {v s : Value} {n k : Nat} {cs : List Value} {X : List Int} (ha : AppG c0 h c v n cs) (hs : SlC h s 1 k X) (hk : 0 < k) (hX : X.length = k) (by' id : Nat) (hid : 256 * c ≤ id) (hc0 : c0 ≤ c)
    (hid' : id < 256 * c') (hlim : (n + k) * (by' + 1) ≤ 17592186044416) :
    ∃ h', appV h id 1 by' v s = some (.slice (some ⟨id, 0, none⟩) (n + k) (n + k), h') ∧ AppG c0 h' c' (.slice (some ⟨id, 0, none⟩) (n + k) (n + k)) (n + k) (cs ++ ints X) ∧
      (∀ j, j < 256 * c → j ≠ blkOf v → h'.f j = h.f j) := by
  obtain ⟨h1, h2, h3, i, op, rfl, h5, h6, h7, h8⟩ := ha
  have hlim' : Nat.ble ((n + k) * (by' + 1)) 17592186044416 = true := Nat.ble_eq_true_of_le hlim
  have hn1 : n + k ≤ 17592186044416 := by
    have : (n + k) * 1 ≤ (n + k) * (by' + 1) := Nat.mul_le_mul_left _ (by omega)
    omega
  have hcap : Nat.ble (n + k) n = false := by rw [Bool.eq_false_iff]; intro hh; have := Nat.le_of_ble_eq_true hh; omega
  have hg : HeapC.get h i = some (.cells false op cs) := h7
  have hr : Nat.ble (0 + n * 1) cs.length = true := Nat.ble_eq_true_of_le (by simp [h1])
  have ht : (cs.drop 0).take (n * 1) = cs := by rw [List.drop_zero, List.take_of_length_le (by omega)]
  have hf : (cs ++ ints X).all isFlat = true := by simp only [List.all_append, h3, ints_flat, Bool.and_self]
  unfold SlC at hs
  rcases h8 with rfl | rfl
  · refine ⟨HeapC.set h id (.cells false (some 1) ((cs.drop 0).take (n * 1) ++ ints X)), ?_, ⟨by simp [h1, hX], by omega, hf, id, some 1, rfl, by omega, hid', ?_, .inr rfl⟩, ?_⟩
    · simp only [appV, hs, Option.bind_some, appTo, hcap, cond_false, appGrow, hlim', ints_flat, Bool.and_self, cond_true, rdCells, getCells, hg, hr]
    · rw [set_f, if_pos rfl, ht]
    · intro j hj hne'
      rw [set_f, if_neg (by omega)]
  · refine ⟨HeapC.set (HeapC.set h i .dead) id (.cells false (some 1) ((cs.drop 0).take (n * 1) ++ ints X)), ?_, ⟨by simp [h1, hX], by omega, hf, id, some 1, rfl, by omega, hid', ?_, .inr rfl⟩, ?_⟩
    · simp only [appV, hs, Option.bind_some, appTo, hcap, cond_false, appGrow, hlim', ints_flat, Bool.and_self, cond_true, rdCells, getCells, hg, hr, Nat.beq_refl, Bool.not_false, Bool.and_true]
    · rw [set_f, if_pos rfl, ht]
    · intro j hj hne'
      rw [blkOf_sl] at hne'
      rw [set_f, if_neg (by omega), set_f, if_neg hne']
end Go.Ab

namespace Go.Proofs.Ytcnndelmnobigaa
open Go Go.Ab Go.Proofs
set_option maxRecDepth 100000
set_option linter.unusedVariables false
set_option linter.unusedSimpArgs false
def quL (V : List Int) : Nat → Nat → List Int
  | 0, _ => []
  | k + 1, t => quadAt V t ++ quL V k (t + 1)
theorem quads_loop (v : Value) (n nv : Nat) (V : List Int) (c0 : Nat) (hnv : nv = 7 * n) (hn : n ≤ 60) (df : List Nat) :
    ∀ (k t c : Nat) (h : FH) (out : Value) (X : List Int), t + k = n → c0 ≤ c → SlI h c0 v 1 nv V → SlX h v 1 nv → AppG c0 h c out (3 * t) (ints X) →
    Ans (G (f54_k54000 none) [v, out, .int .i64 n, .int .i64 t] h c df) fun r => r.e = .exit 0 ∧ c ≤ r.c ∧ r.df = df ∧ Same c0 h r.h ∧ AppG c0 r.h r.c (r.v 1) (3 * n) (ints (X ++ quL V k t)) := by
  intro k
  induction k with
  | zero =>
    intro t c h out X ht hc hs hx ha
    obtain rfl : t = n := by omega
    refine Ans.loop' (fun q r => f54_N54000) (fun q => f54_Z54000) ?_
    unfold f54_L54000
    have fx := True.intro
    refine Ans.go ?_
    clear fx
    refine Ans.exitN ⟨rfl, (by show c ≤ c + 1; omega), rfl, fun _ _ => rfl, ?_⟩
    rw [quL, List.append_nil]
    exact ha.mono (by show c ≤ c + 1; omega)
  | succ k ih =>
    intro t c h out X ht hc hs hx ha
    have x1 := SlX.sub hs hx .i64 .i64 (7 * (t : Int) + 4) (7 * (t : Int) + 7) (by omega) (by omega) (by omega) (by omega)
    rw [show (7 * (t : Int) + 4).toNat = 7 * t + 4 by omega, show (7 * (t : Int) + 7).toNat = 7 * t + 7 by omega] at x1
    have x2 := SlI.sub hs (7 * t + 4) (7 * t + 7) (by omega) (by omega) (by omega)
    rw [show 7 * t + 7 - (7 * t + 4) = 3 by omega, Nat.mul_one, Nat.mul_one, show (V.drop (7 * t + 4)).take 3 = quadAt V t from rfl] at x2
    have hq : (quadAt V t).length = 3 := x2.1
    obtain ⟨h', p1, p2, p3⟩ := (ha.mono (c' := c + 1 + 1) (by omega)).appN (c' := c + 1 + 1 + 1) (x2.slc (by omega) (by omega)) (by omega) hq 8 (256 * (c + 1 + 1) + 9) (by omega) (by omega) (by omega) (by omega)
    have bo := ha.blk
    have s0 : Same c0 h h' := fun b hb => p3 b (by omega) (by omega)
    have htn : (t : Int) < n := by omega
    refine Ans.loop' (fun q r => f54_N54000) (fun q => f54_Z54000) ?_
    unfold f54_L54000
    have fx := And.intro x1 p1
    refine Ans.go ?_
    clear fx
    refine Ans.nextN ?_
    have e : ints X ++ ints (quadAt V t) = ints (X ++ quadAt V t) := by simp [ints]
    rw [e] at p2
    refine (ih (t + 1) _ h' _ (X ++ quadAt V t) (by omega) (by omega) (hs.same s0) (SlX.keep hs s0 hx) (by rw [show 3 * (t + 1) = 3 * t + 3 by omega]; exact p2.mono (by omega))).mono ?_
    rintro r ⟨q1, q2, q3, q4, q5⟩
    refine ⟨q1, by omega, q3, s0.trans q4, ?_⟩
    rw [quL, ← List.append_assoc]
    exact q5
theorem quads_sp (s v : Value) (n nv : Nat) (Gl V : List Int) (h : FH) (c : Nat) (df : List Nat) (hs : SlI h c s 20 n Gl) (hv : SlI h c v 1 nv V) (hx : SlX h v 1 nv) (hnv : nv = 7 * n) (hn : n ≤ 60) :
    Ans (G (.fn 54) [.agg #[s], v] h c df) fun r => ∃ w, r = { e := .ret, vs := [w], h := r.h, c := r.c, df := [] } ∧ c ≤ r.c ∧ Same c h r.h ∧ AppG c r.h r.c w (3 * n) (ints (quL V n 0)) := by
  refine Ans.call' (fun r e => f54_go e) ?_
  unfold f54_S
  rw [flat1 hs.flat, cell1, Nat.add_zero]
  simp only [cond_true]
  obtain ⟨H, hH⟩ : ∃ H, newB (newB h (256 * c) [s]) (256 * (c + 1)) [] = H := ⟨_, rfl⟩
  have sH : Same c h H := by rw [← hH]; simp (disch := omega)
  have hg : Holds H (256 * c) [s] := by rw [← hH]; exact (Holds.newB_same _ _ _).newB_ne (by omega)
  have fB : H.f (256 * (c + 1)) = some (.cells false none []) := by rw [← hH, newB_f, if_pos rfl]
  have hb0 : bldL [] [] = some [] := rfl
  have l1 : ld1 H (.pointer (some ⟨256 * c, 0, none⟩)) = some s := by rw [ld1_holds' hg]; rfl
  have ls := hs.len
  obtain ⟨⟨re, rv, H2, c2, rd⟩, hr, q1, q2, q3, q4, q5⟩ := quads_loop v n nv V c hnv hn [] n 0 (c + 1 + 1 + 1) H (.slice (some ⟨256 * (c + 1), 0, none⟩) 0 0) [] (by omega) (by omega) (hv.same sH) (SlX.keep hv sH hx) ⟨rfl, by omega, rfl, 256 * (c + 1), none, rfl, by omega, by omega, fB, .inl rfl⟩
  simp only [Int.ofNat_eq_natCast, Int.cast_ofNat_Int] at hr
  simp only at q1 q2 q3 q4 q5
  subst q1 q3
  have fx := And.intro hb0 (And.intro hH (And.intro l1 (And.intro ls hr)))
  refine Ans.go ?_
  clear fx
  have g6 : AppG c H2 (c2 + 1) (Rt.v { e := Ex.exit 0, vs := rv, h := H2, c := c2, df := [] } 1) (3 * n) (ints (quL V n 0)) := by
    rw [List.nil_append] at q5
    exact q5.mono (by omega)
  exact .done ⟨_, rfl, (by show c ≤ c2 + 1; omega), sH.trans q4, g6⟩
end Go.Proofs.Ytcnndelmnobigaa

namespace Go.Proofs.Ytcnndelmnobigaa
open Go Go.Ab Go.Proofs
set_option maxRecDepth 100000
set_option linter.unusedVariables false
set_option linter.unusedSimpArgs false
theorem quadsN_sp (s v : Value) (n nv : Nat) (Gl V : List Int) (h : FH) (c : Nat) (df : List Nat) (hs : SlI h c s 20 n Gl) (hv : SlI h c v 1 nv V) (hx : SlX h v 1 nv) (hnv : nv ≤ 1000000) :
    Ans (G (.fn 24) [.agg #[s], v] h c df) fun r => r.e = .ret ∧ r.df = [] ∧ c ≤ r.c ∧ Same c h r.h ∧
      ((chkE Gl n (admB Gl n V) ≠ 0 ∧ r.vs = [.tuple #[.slice none 0 0, .int .i64 (chkE Gl n (admB Gl n V))]]) ∨
       (chkE Gl n (admB Gl n V) = 0 ∧ ∃ w, r.vs = [.tuple #[w, .int .i64 0]] ∧ AppG c r.h r.c w (3 * n) (ints (quL V n 0)))) := by
  refine Ans.call' (fun r e => f24_go e) ?_
  unfold f24_S
  rw [flat1 hs.flat, cell1, Nat.add_zero]
  simp only [cond_true]
  have hbl := bldL_v hv
  obtain ⟨H, hH⟩ : ∃ H, H = newB (newB h (256 * c) [s]) (256 * (c + 1) + 2) [v] := ⟨_, rfl⟩
  have sH : Same c h H := by rw [hH]; simp (disch := omega)
  have hg : Holds H (256 * c) [s] := by rw [hH]; exact (Holds.newB_same _ _ _).newB_ne (by omega)
  have hq : Holds H (256 * (c + 1) + 2) [v] := by rw [hH]; exact Holds.newB_same _ _ _
  have l0 : ldN (newB h (256 * c) [s]) 1 (.pointer (some ⟨256 * c, 0, none⟩)) = some (.agg #[s]) := ldN1_own (Holds.newB_same _ _ _)
  have l1 := ldN1_own hg
  have c1 := check1 s v n nv Gl V (256 * (c + 1) + 2) H (c + 1 + 1) ((hs.same sH).mono (by omega)) ((hv.same sH).mono (by omega)) (SlX.keep hv sH hx) hnv (by omega) hq
  have hH' := hH.symm
  obtain ⟨E, hE⟩ : ∃ E, chkE Gl n (admB Gl n V) = E := ⟨_, rfl⟩
  by_cases h0 : E = 0
  case neg =>
    rw [hE] at c1 ⊢
    have fx := And.intro l0 (And.intro hbl (And.intro hH' c1))
    refine Ans.go ?_
    clear fx
    exact .done ⟨rfl, rfl, (by show c ≤ c + 1 + 1 + 1 + 1; omega), sH, .inl ⟨h0, rfl⟩⟩
  have hr0 : refE Gl n = 0 ∧ admB Gl n V = true := by
    rw [h0] at hE
    unfold chkE at hE
    split at hE
    · rename_i h1
      split at hE
      · rename_i h2; exact ⟨h1, h2⟩
      · cases hE
    · rename_i h1; exact absurd hE h1
  obtain ⟨hn, hok⟩ := refE_zero hr0.1
  have ha := hr0.2
  unfold admB at ha
  simp only [Bool.and_eq_true, decide_eq_true_eq] at ha
  obtain ⟨⟨⟨a1, a2⟩, _⟩, _⟩ := ha
  rw [hE] at c1 ⊢
  obtain ⟨⟨re, rv, H2, c2, rd⟩, hr, w, q1, q2, q3, q4⟩ := quads_sp s v n nv Gl V H (c + 1 + 1 + 1 + 1) [] ((hs.same sH).mono (by omega)) ((hv.same sH).mono (by omega)) (SlX.keep hv sH hx) (by have := hv.1; omega) hn
  obtain ⟨rfl, rfl, -, -, rfl⟩ := Rt.mk.inj q1
  simp only at q2 q3 q4
  have cw := callF_of hr
  subst h0
  have fx := And.intro l0 (And.intro hbl (And.intro hH' (And.intro c1 (And.intro l1 cw))))
  refine Ans.go ?_
  clear fx
  have g6 : AppG c H2 c2 w (3 * n) (ints (quL V n 0)) := by
    obtain ⟨z1, z2, z3, i, op, z4, z5, z6, z7, z8⟩ := q4
    exact ⟨z1, z2, z3, i, op, z4, by omega, by omega, z7, z8⟩
  exact .done ⟨rfl, rfl, (by show c ≤ c2; omega), sH.trans (q3.mono (by omega)), .inr ⟨rfl, w, rfl, g6⟩⟩
end Go.Proofs.Ytcnndelmnobigaa

namespace Go.Proofs.Ytcnndelmnobigaa
open Go Go.Ab Go.Proofs
set_option maxRecDepth 100000
set_option linter.unusedVariables false
set_option linter.unusedSimpArgs false
theorem eq_nil_none (l k : Nat) : aBinOp P .eql 34 (.slice none l k) (.slice none 0 0) = some (.bool true) := by rw [aBinOp_eq]; kernel_rfl
theorem eq_nil_some (a : Addr) (l k : Nat) : aBinOp P .eql 34 (.slice (some a) l k) (.slice none 0 0) = some (.bool false) := by rw [aBinOp_eq]; kernel_rfl
theorem SlC.keep {h h' : FH} {c : Nat} {s : Value} {sz n : Nat} {L : List Int} (hs : SlI h c s sz n L) (hh : Same c h h') (hC : SlC h s sz n L) : SlC h' s sz n L := by
  obtain ⟨_, _, a, cap, rfl, hc4⟩ := hs
  cases a with
  | none => exact hC
  | some a =>
    have hb : a.block < 256 * c := by
      rcases hc4 with ⟨e0, ov⟩ | ⟨b, o, cs, e, e2, _, _⟩
      · obtain ⟨v', hv'⟩ := ov
        cases hv' with
        | sl hh' _ _ => exact nuD_dom (by rw [hh']; simp)
        | slE hh' => exact nuD_dom (by rw [hh']; simp)
      · cases e; exact e2
    have : HeapC.get h' a.block = HeapC.get h a.block := hh _ hb
    obtain ⟨b, o, p⟩ := a
    simp only at this
    cases p with
    | none => simpa only [SlC, srcCells, rdCells, getCells, this] using hC
    | some p => exact hC
theorem clone_sp (v : Value) (n : Nat) (V : List Int) (h : FH) (c : Nat) (df : List Nat) (hs : SlI h c v 1 n V) (hC : SlC h v 1 n V) (hn : n ≤ 1000000) :
    Ans (G (.fn 53) [v] h c df) fun r => ∃ w, r = { e := .ret, vs := [w], h := r.h, c := c + 1 + 1 + 1, df := [] } ∧ Same c h r.h ∧ SlI r.h r.c w 1 n V ∧ SlX r.h w 1 n ∧ (0 < n → w = .slice (some ⟨256 * (c + 1 + 1) + 2, 0, none⟩) n n ∧ r.h.f (256 * (c + 1 + 1) + 2) = some (.cells false (some 1) (ints V))) := by
  refine Ans.call' (fun r e => f53_go e) ?_
  unfold f53_S
  obtain ⟨g1, g2, a, cap, rfl, h4⟩ := hs
  cases a with
  | none =>
    have hn0 : n = 0 := by
      rcases h4 with ⟨e, _⟩ | ⟨b, o, cs, e, _⟩
      · exact e
      · cases e
    have e1 := eq_nil_none n cap
    have fx := e1
    refine Ans.go ?_
    clear fx
    subst hn0
    exact .done ⟨_, rfl, fun _ _ => rfl, ⟨g1, by omega, none, 0, rfl, .inl ⟨rfl, OkV.sl0 _ _ _⟩⟩, ⟨Nat.le_refl _, rfl⟩, fun h => by omega⟩
  | some a =>
    have e1 := eq_nil_some a n cap
    have hb0 : bldL [] [] = some [] := rfl
    obtain ⟨H, hH⟩ : ∃ H, newB h (256 * (c + 1 + 1)) [] = H := ⟨_, rfl⟩
    have sH : Same (c + 1) h H := by rw [← hH]; intro b hb; rw [newB_f, if_neg (by omega)]
    have fB : H.f (256 * (c + 1 + 1)) = some (.cells false none []) := by rw [← hH, newB_f, if_pos rfl]
    have hC' := SlC.keep (c := c) ⟨g1, g2, some a, cap, rfl, h4⟩ (sH.mono (by omega)) hC
    obtain ⟨w, H2, q1, q2, q3, q4, q5, q6⟩ := app_copy (c := c + 1 + 1) (c' := c + 1 + 1 + 1) hC' g1 (by omega) 8 (256 * (c + 1 + 1)) (256 * (c + 1 + 1) + 2) fB (by omega) (by omega) (by omega) (by omega)
    have fx := And.intro e1 (And.intro hb0 (And.intro hH q1))
    refine Ans.go ?_
    clear fx
    exact .done ⟨_, rfl, fun b hb => by show H2.f b = _; rw [q5 b (by omega), sH b (by omega)], q2, q3, q6⟩
end Go.Proofs.Ytcnndelmnobigaa

namespace Go.Proofs.Ytcnndelmnobigaa
open Go Go.Ab Go.Proofs
set_option maxRecDepth 100000
set_option linter.unusedVariables false
set_option linter.unusedSimpArgs false
def mnK (C V : List Int) (first : Nat) : Nat → Nat → Int → Int
  | 0, _, a => a
  | r + 1, x, a => mnK C V first r (x + 1) (if rootL C x = first then (if gi V (x / 4 * 7 + x % 4 : Nat) < a then gi V (x / 4 * 7 + x % 4 : Nat) else a) else a)
def subK (C : List Int) (first : Nat) (m : Int) : Nat → Nat → List Int → List Int
  | 0, _, X => X
  | r + 1, x, X => subK C first m r (x + 1) (if rootL C x = first then X.set (x / 4 * 7 + x % 4) (X.getD (x / 4 * 7 + x % 4) 0 - m) else X)
theorem subK_length (C : List Int) (first : Nat) (m : Int) : ∀ (r x : Nat) (X : List Int), (subK C first m r x X).length = X.length
  | 0, _, _ => rfl
  | r + 1, x, X => by
    rw [subK, subK_length]
    split
    · simp
    · rfl
theorem mnK_bound {C V : List Int} {first : Nat} (hV : ∀ j, 0 ≤ gi V j ∧ gi V j ≤ 1000000) : ∀ {r x : Nat} {a : Int}, 0 ≤ a → a ≤ 1000000 → 0 ≤ mnK C V first r x a ∧ mnK C V first r x a ≤ 1000000
  | 0, _, _, h1, h2 => ⟨h1, h2⟩
  | r + 1, x, a, h1, h2 => by
    rw [mnK]
    have := hV (x / 4 * 7 + x % 4 : Nat)
    refine mnK_bound hV ?_ ?_ <;> (split <;> (try split) <;> omega)
theorem min_loop (v : Value) (n nv : Nat) (V C : List Int) (p b c : Nat) (h : FH) (v4 v5 v33 v34 v35 : Value) (first : Nat) (hn : n ≤ 60) (hnv : nv = 7 * n) (hv : SlI h c v 1 nv V) (hV : ∀ j, 0 ≤ gi V j ∧ gi V j ≤ 1000000) (u : Uf h p b (4 * n) C) (hp : p < 256 * c) (o4 : OkV c v4) (o5 : OkV c v5) (o33 : OkV c v33) (o34 : OkV c v34) (o35 : OkV c v35) (df : List Nat) :
    ∀ (r x : Nat) (a : Int), x + r = 4 * n →
    Ans (G (f23_k23001 none) [v, v4, v5, ptrTo p, .int .i64 first, .int .i64 a, v33, v34, v35, .int .i64 (4 * n : Nat), .int .i64 x] h c df) fun q => q = { e := .exit 2, vs := [v, v4, v5, ptrTo p, .int .i64 first, .int .i64 (mnK C V first r x a), v33, v34, v35, .int .i64 (4 * n : Nat), .int .i64 (4 * n : Nat)], h := h, c := c, df := df } := by
  intro r
  have o1 := hv.okV
  induction r with
  | zero =>
    intro x a hx
    obtain rfl : x = 4 * n := by omega
    refine Ans.loop (fun q r => f23_N23001) (fun q => f23_Z23001) ?_
    unfold f23_L23001
    have fx := True.intro
    refine Ans.go ?_
    clear fx
    (have fx := And.intro o1 (And.intro o4 (And.intro o5 (And.intro o33 (And.intro o34 (And.intro o35 hp))))); refine Ans.ex0 ?_; clear fx)
    rfl
  | succ r ih =>
    intro x a hx
    have c1 : ∀ c', c ≤ c' → callF G 46 [.pointer (some ⟨p, 0, none⟩), .int .i64 x] h c' = _ := fun c' (hc : c ≤ c') => callF_of (root_sp h p b (4 * n) c' C u (by omega) x (by omega) [])
    have q1 := quo_nat x 4 (by omega) (by omega)
    have q2 := rem_nat x 4 (by omega)
    simp only [Int.ofNat_eq_natCast, Int.cast_ofNat_Int] at q1 q2
    have d1 : x / 4 ≤ n - 1 := by omega
    have d2 : x % 4 < 4 := by omega
    rw [mnK]
    obtain ⟨T, hT⟩ : ∃ T, x / 4 = T := ⟨_, rfl⟩
    obtain ⟨E, hE⟩ : ∃ E, x % 4 = E := ⟨_, rfl⟩
    rw [hT] at q1 d1 ⊢
    rw [hE] at q2 d2 ⊢
    have l1 := hv.rdi ((T : Int) * 7 + E) (by omega) (by omega)
    rw [show ((T * 7 + E : Nat) : Int) = (T : Int) * 7 + E by omega]
    have hx4 : (x : Int) < (4 * n : Nat) := by omega
    obtain ⟨R, hR⟩ : ∃ R, rootL C x = R := ⟨_, rfl⟩
    obtain ⟨Y, hY⟩ : ∃ Y, gi V ((T : Int) * 7 + E) = Y := ⟨_, rfl⟩
    rw [hR] at c1 ⊢
    rw [hY] at l1 ⊢
    have mm := min2_int .i64 a Y
    refine Ans.loop (fun q r => f23_N23001) (fun q => f23_Z23001) ?_
    unfold f23_L23001
    by_cases e : R = first
    · rw [if_pos e]
      have e' : (R : Int) = first := by omega
      have fx := And.intro c1 (And.intro q1 (And.intro q2 (And.intro hv.ixs1 (And.intro l1 mm))))
      refine Ans.go ?_
      clear fx
      (have fx := And.intro o1 (And.intro o4 (And.intro o5 (And.intro o33 (And.intro o34 (And.intro o35 hp))))); refine Ans.nx0 ?_; clear fx)
      exact ih (x + 1) _ (by omega)
    · rw [if_neg e]
      have e' : ¬ (R : Int) = first := by omega
      have fx := c1
      refine Ans.go ?_
      clear fx
      (have fx := And.intro o1 (And.intro o4 (And.intro o5 (And.intro o33 (And.intro o34 (And.intro o35 hp))))); refine Ans.nx0 ?_; clear fx)
      exact ih (x + 1) a (by omega)
end Go.Proofs.Ytcnndelmnobigaa

namespace Go.Proofs.Ytcnndelmnobigaa
open Go Go.Ab Go.Proofs
set_option maxRecDepth 100000
set_option linter.unusedVariables false
set_option linter.unusedSimpArgs false
theorem sub_loop (h0 : FH) (v : Value) (n : Nat) (C : List Int) (p b rb c : Nat) (v4 v33 v34 v35 : Value) (first : Nat) (m : Int) (hn : n ≤ 60) (hm : 0 ≤ m ∧ m ≤ 1000000) (u : Uf h0 p b (4 * n) C) (hp : p < 256 * c) (hb : b < 256 * c) (hrb : rb < 256 * c) (h1 : rb ≠ p) (h2 : rb ≠ b) (o1 : OkV c v) (o4 : OkV c v4) (o33 : OkV c v33) (o34 : OkV c v34) (o35 : OkV c v35) (df : List Nat) :
    ∀ (r x : Nat) (X : List Int) (B : Int), x + r = 4 * n → X.length = 7 * n → (∀ j : Nat, -B ≤ X.getD j 0 ∧ X.getD j 0 ≤ 1000000) → 0 ≤ B → B + r * 1000000 ≤ 1000000000000000 →
    Ans (G (f23_k23002 none) [v, v4, .slice (some ⟨rb, 0, none⟩) (7 * n) (7 * n), ptrTo p, .int .i64 first, .int .i64 m, v33, v34, v35, .int .i64 (4 * n : Nat), .int .i64 x] (HeapC.set h0 rb (.cells false (some 1) (ints X))) c df) fun q => q = { e := .exit 4, vs := [v, v4, .slice (some ⟨rb, 0, none⟩) (7 * n) (7 * n), ptrTo p, .int .i64 first, .int .i64 m, v33, v34, v35, .int .i64 (4 * n : Nat), .int .i64 (4 * n : Nat)], h := HeapC.set h0 rb (.cells false (some 1) (ints (subK C first m r x X))), c := c, df := df } := by
  intro r
  induction r with
  | zero =>
    intro x X B hx hX hB b1 b2
    obtain rfl : x = 4 * n := by omega
    refine Ans.loop (fun q r => f23_N23002) (fun q => f23_Z23002) ?_
    unfold f23_L23002
    have fx := True.intro
    refine Ans.go ?_
    clear fx
    (have fx := And.intro o1 (And.intro o4 (And.intro hrb (And.intro o33 (And.intro o34 (And.intro o35 hp))))); refine Ans.ex0 ?_; clear fx)
    rfl
  | succ r ih =>
    intro x X B hx hX hB b1 b2
    obtain ⟨H, hH⟩ : ∃ H, HeapC.set h0 rb (.cells false (some 1) (ints X)) = H := ⟨_, rfl⟩
    have fH : H.f rb = some (.cells false (some 1) (ints X)) := by rw [← hH, set_f, if_pos rfl]
    have u' : Uf H p b (4 * n) C := u.keep (by rw [← hH, set_f, if_neg (Ne.symm h1)]) (by rw [← hH, set_f, if_neg (Ne.symm h2)])
    have c1 : ∀ c', c ≤ c' → callF G 46 [.pointer (some ⟨p, 0, none⟩), .int .i64 x] H c' = _ := fun c' (hc : c ≤ c') => callF_of (root_sp H p b (4 * n) c' C u' (by omega) x (by omega) [])
    have q1 := quo_nat x 4 (by omega) (by omega)
    have q2 := rem_nat x 4 (by omega)
    simp only [Int.ofNat_eq_natCast, Int.cast_ofNat_Int] at q1 q2
    have d1 : x / 4 ≤ n - 1 := by omega
    have d2 : x % 4 < 4 := by omega
    rw [subK]
    obtain ⟨T, hT⟩ : ∃ T, x / 4 = T := ⟨_, rfl⟩
    obtain ⟨E, hE⟩ : ∃ E, x % 4 = E := ⟨_, rfl⟩
    rw [hT] at q1 d1 ⊢
    rw [hE] at q2 d2 ⊢
    have hx4 : (x : Int) < (4 * n : Nat) := by omega
    have e7 : ((T : Int) * 7 + E).toNat = T * 7 + E := by omega
    have l1 : ld1 H (.pointer (some ⟨rb, T * 7 + E, none⟩)) = some (.int .i64 (X.getD (T * 7 + E) 0)) := by
      rw [ld1_holds' ⟨false, some 1, fH⟩, ints_getD _ _ (by omega)]
    have bx := hB (T * 7 + E)
    have hw : ∀ y : Int, stN H 1 (.pointer (some ⟨rb, T * 7 + E, none⟩)) (.int .i64 y) = some (HeapC.set H rb (.cells false (some 1) (ints (X.set (T * 7 + E) y)))) := fun y => by
      rw [st1_get (show HeapC.get H rb = _ from fH) (by simp; omega) rfl rfl, ints_set]
    have nb : ∀ j : Nat, -(B + 1000000) ≤ (X.set (T * 7 + E) (X.getD (T * 7 + E) 0 - m)).getD j 0 ∧ (X.set (T * 7 + E) (X.getD (T * 7 + E) 0 - m)).getD j 0 ≤ 1000000 := fun j => by
      rw [getD_set]
      have := hB j
      split <;> omega
    obtain ⟨R, hR⟩ : ∃ R, rootL C x = R := ⟨_, rfl⟩
    rw [hR] at c1 ⊢
    obtain ⟨Y, hY⟩ : ∃ Y, X.getD (T * 7 + E) 0 = Y := ⟨_, rfl⟩
    rw [hY] at l1 bx nb ⊢
    rw [hH]
    refine Ans.loop (fun q r => f23_N23002) (fun q => f23_Z23002) ?_
    unfold f23_L23002
    by_cases e : R = first
    · rw [if_pos e]
      have e' : (R : Int) = first := by omega
      have fx := And.intro c1 (And.intro q1 (And.intro q2 (And.intro e7 (And.intro l1 hw))))
      refine Ans.go ?_
      clear fx
      (have fx := And.intro o1 (And.intro o4 (And.intro hrb (And.intro o33 (And.intro o34 (And.intro o35 hp))))); refine Ans.nxB (B := HeapC.set H rb (.cells false (some 1) (ints (X.set (T * 7 + E) (Y - m))))) ?_ ?_; exact Upto.set hrb (OkVs.ints _ _) (Upto.refl _ _); clear fx)
      rw [← hH, set_set]
      exact ih (x + 1) _ (B + 1000000) (by omega) (by simp [hX]) nb (by omega) (by omega)
    · rw [if_neg e]
      have e' : ¬ (R : Int) = first := by omega
      have fx := c1
      refine Ans.go ?_
      clear fx
      (have fx := And.intro o1 (And.intro o4 (And.intro hrb (And.intro o33 (And.intro o34 (And.intro o35 hp))))); refine Ans.nx0 ?_; clear fx)
      rw [← hH]
      exact ih (x + 1) X B (by omega) hX hB b1 (by omega)
end Go.Proofs.Ytcnndelmnobigaa

namespace Go.Proofs.Ytcnndelmnobigaa
open Go Go.Ab Go.Proofs
set_option maxRecDepth 100000
set_option linter.unusedVariables false
set_option linter.unusedSimpArgs false
def mC (C V : List Int) (n : Nat) (x : Int) : Int := mnK C V x.toNat (4 * n) 0 (gi V (x / 4 * 7 + x % 4))
def prK (C V : List Int) (n : Nat) : List Int → List Int → List Int
  | [], X => X
  | x :: F, X => prK C V n F (subK C x.toNat (mC C V n x) (4 * n) 0 X)
theorem subK_bound {C : List Int} {first : Nat} {m : Int} (hm : 0 ≤ m ∧ m ≤ 1000000) : ∀ {r x : Nat} {X : List Int} {B : Int}, (∀ j : Nat, -B ≤ X.getD j 0 ∧ X.getD j 0 ≤ 1000000) → ∀ j : Nat, -(B + r * 1000000) ≤ (subK C first m r x X).getD j 0 ∧ (subK C first m r x X).getD j 0 ≤ 1000000
  | 0, _, X, B, h => fun j => by
    have := h j
    rw [subK]; omega
  | r + 1, x, X, B, h => fun j => by
    rw [subK]
    have := subK_bound (C := C) (first := first) hm (r := r) (x := x + 1) (X := if rootL C x = first then X.set (x / 4 * 7 + x % 4) (X.getD (x / 4 * 7 + x % 4) 0 - m) else X) (B := B + 1000000) (fun i => by
      have h1 := h i
      have h2 := h (x / 4 * 7 + x % 4)
      split
      · rw [getD_set]; split <;> omega
      · omega) j
    omega
set_option maxHeartbeats 1000000 in
theorem part_loop (v : Value) (n nv : Nat) (V C : List Int) (p b rb c0 : Nat) (F : Value) (m : Nat) (Fl : List Int) (hn : n ≤ 60) (hnv : nv = 7 * n) (hV : ∀ j, 0 ≤ gi V j ∧ gi V j ≤ 1000000) (hp : p < 256 * c0) (hb : b < 256 * c0) (hrb : 256 * c0 ≤ rb) (hF : ∀ x, x ∈ Fl → ∃ k : Nat, x = k ∧ k < 4 * n) (hm : m ≤ 240) (df : List Nat) :
    ∀ (k i cc : Nat) (h : FH) (out : Value) (X Ls : List Int) (B : Int), i + k = m → c0 ≤ cc → rb < 256 * cc → SlI h c0 v 1 nv V → Uf h p b (4 * n) C → SlI h cc F 1 m Fl → (0 < m → blkOf F ≠ blkOf out ∧ blkOf F ≠ rb) → h.f rb = some (.cells false (some 1) (ints X)) → AppG c0 h cc out i (ints Ls) → blkOf out ≠ rb → X.length = 7 * n → (∀ j : Nat, -B ≤ X.getD j 0 ∧ X.getD j 0 ≤ 1000000) → 0 ≤ B → B + k * 240000000 ≤ 1000000000000000 →
    Ans (G (f23_k23000 none) [v, out, .slice (some ⟨rb, 0, none⟩) (7 * n) (7 * n), ptrTo p, F, .int .i64 m, .int .i64 i] h cc df) fun r => r.e = .exit 0 ∧ cc ≤ r.c ∧ r.df = df ∧ Same c0 h r.h ∧ r.v 2 = .slice (some ⟨rb, 0, none⟩) (7 * n) (7 * n) ∧ r.h.f rb = some (.cells false (some 1) (ints (prK C V n (Fl.drop i) X))) ∧ AppG c0 r.h r.c (r.v 1) m (ints (Ls ++ (Fl.drop i).map (mC C V n))) := by
  intro k
  induction k with
  | zero =>
    intro i cc h out X Ls B hi hc hrc hv u sf hne hr ha hor hX hB hB0 hBk
    obtain rfl : i = m := by omega
    have e : Fl.drop i = [] := List.drop_of_length_le (by have := sf.1; omega)
    rw [e]
    refine Ans.loop' (fun q r => f23_N23000) (fun q => f23_Z23000) ?_
    unfold f23_L23000
    have fx := True.intro
    refine Ans.go ?_
    clear fx
    refine Ans.exitN ⟨rfl, (by show cc ≤ cc + 1; omega), rfl, fun _ _ => rfl, rfl, hr, ?_⟩
    rw [List.map_nil, List.append_nil]
    exact ha.mono (by show cc ≤ cc + 1; omega)
  | succ k ih =>
    intro i cc h out X Ls B hi hc hrc hv u sf hne hr ha hor hX hB hB0 hBk
    have hFl := sf.1
    have l1 := sf.rdi i (by omega) (by omega)
    simp only [Int.toNat_natCast] at l1
    rw [gi_nat] at l1
    have hLi : Fl.getD i 0 = Fl[i]'(by omega) := by simp [List.getD_eq_getElem?_getD, List.getElem?_eq_getElem (by omega : i < Fl.length)]
    obtain ⟨x, hx, hx6⟩ := hF (Fl[i]'(by omega)) (List.getElem_mem _)
    rw [hLi, hx] at l1
    have hdr : Fl.drop i = (x : Int) :: Fl.drop (i + 1) := by rw [List.drop_eq_getElem_cons (by omega), hx]
    rw [hdr, prK, List.map_cons]
    have q1 := quo_nat x 4 (by omega) (by omega)
    have q2 := rem_nat x 4 (by omega)
    simp only [Int.ofNat_eq_natCast, Int.cast_ofNat_Int] at q1 q2
    have l2 := hv.rdi ((x / 4 : Nat) * 7 + (x % 4 : Nat)) (by omega) (by omega)
    have hmc : mC C V n x = mnK C V x (4 * n) 0 (gi V ((x / 4 : Nat) * 7 + (x % 4 : Nat))) := by
      unfold mC
      rw [Int.toNat_natCast]
      congr 1
    have hmb := mnK_bound (C := C) (first := x) hV (r := 4 * n) (x := 0) (a := gi V ((x / 4 : Nat) * 7 + (x % 4 : Nat))) (hV _).1 (hV _).2
    rw [← hmc] at hmb
    have o1 := fun c' (hc' : c0 ≤ c') => (hv.mono hc').okV
    have oF := fun c' (hc' : cc ≤ c') => (sf.mono hc').okV
    have oO : ∀ c', cc ≤ c' → OkV c' out := fun c' hc' => by obtain ⟨_, _, _, j, op, rfl, _, h6, _⟩ := ha; exact OkV.sl (by omega)
    have hmin := Ans.eq (min_loop v n nv V C p b (cc + 1 + 1 + 1 + 1) h out (.slice (some ⟨rb, 0, none⟩) (7 * n) (7 * n)) F (.int .i64 m) (.int .i64 i) x hn hnv (hv.mono (by omega)) hV u (by omega) (oO _ (by omega)) (OkV.sl (by omega)) (oF _ (by omega)) (by simp) (by simp) df (4 * n) 0 (gi V ((x / 4 : Nat) * 7 + (x % 4 : Nat))) (by omega))
    rw [← hmc] at hmin
    have hsb := subK_bound (C := C) (first := x) hmb (r := 4 * n) (x := 0) hB
    rw [Int.toNat_natCast]
    have lu := u.ld
    obtain ⟨M, hM⟩ : ∃ M, mC C V n (x : Int) = M := ⟨_, rfl⟩
    rw [hM] at hmin hmb hsb ⊢
    have hself : HeapC.set h rb (.cells false (some 1) (ints X)) = h := by
      apply FH.ext; intro j
      rw [set_f]
      split
      · rename_i e; rw [e, hr]
      · rfl
    have hsub := Ans.eq (sub_loop h v n C p b rb (cc + 1 + 1 + 1 + 1 + 1) out F (.int .i64 m) (.int .i64 i) x M hn hmb u (by omega) (by omega) (by omega) (by omega) (by omega) (o1 _ (by omega)) (oO _ (by omega)) (oF _ (by omega)) (by simp) (by simp) df (4 * n) 0 X B (by omega) hX hB hB0 (by omega))
    rw [hself] at hsub
    rw [show ((4 * n : Nat) : Int) = 4 * (n : Int) by omega] at hmin hsub
    simp only [Int.ofNat_eq_natCast, Int.cast_ofNat_Int] at hmin hsub
    obtain ⟨X', hX'⟩ : ∃ X', subK C x M (4 * n) 0 X = X' := ⟨_, rfl⟩
    have hXl : X'.length = 7 * n := by rw [← hX', subK_length, hX]
    rw [hX'] at hsub hsb ⊢
    obtain ⟨H, hH⟩ : ∃ H, HeapC.set h rb (.cells false (some 1) (ints X')) = H := ⟨_, rfl⟩
    rw [hH] at hsub
    have fH : ∀ j, j ≠ rb → H.f j = h.f j := fun j hj => by rw [← hH, set_f, if_neg hj]
    have fHr : H.f rb = some (.cells false (some 1) (ints X')) := by rw [← hH, set_f, if_pos rfl]
    have hbl : bldL [.int .i64 0] [(0, 1, .int .i64 M)] = some [.int .i64 M] := rfl
    obtain ⟨h', p1, p2, p3⟩ := ((ha.keep (h' := H) (fH _ hor)).mono (c' := cc + 1 + 1 + 1 + 1 + 1) (by omega)).app (c' := cc + 1 + 1 + 1 + 1 + 1 + 1) (.int .i64 M) rfl 8 (256 * (cc + 1 + 1 + 1 + 1 + 1) + 2) (256 * (cc + 1 + 1 + 1 + 1 + 1) + 3) (by omega) (by omega) (by omega) (by omega) (by omega) (by omega)
    have bo := ha.blk
    have s0 : Same c0 h h' := fun j hj => by rw [p3 j (by omega) (by omega), fH j (by omega)]
    have d1 : x / 4 ≤ n - 1 := by omega
    have d2 : x % 4 < 4 := by omega
    obtain ⟨T, hT⟩ : ∃ T, x / 4 = T := ⟨_, rfl⟩
    obtain ⟨E, hE⟩ : ∃ E, x % 4 = E := ⟨_, rfl⟩
    rw [hT] at q1 l2 d1 hmin
    rw [hE] at q2 l2 d2 hmin
    obtain ⟨Y, hY⟩ : ∃ Y, gi V ((T : Int) * 7 + E) = Y := ⟨_, rfl⟩
    rw [hY] at l2 hmin
    have him : (i : Int) < m := by omega
    refine Ans.loop' (fun q r => f23_N23000) (fun q => f23_Z23000) ?_
    unfold f23_L23000
    have fx := And.intro sf.ixs1 (And.intro l1 (And.intro q1 (And.intro q2 (And.intro hv.ixs1 (And.intro l2 (And.intro lu (And.intro hmin (And.intro hsub (And.intro hbl p1)))))))))
    refine Ans.go ?_
    clear fx
    refine Ans.nextN ?_
    have eI : ints Ls ++ [Value.int .i64 M] = ints (Ls ++ [M]) := by simp [ints]
    rw [eI] at p2
    refine (ih (i + 1) _ h' _ X' (Ls ++ [M]) (B + (4 * n : Nat) * 1000000) (by omega) (by omega) (by omega) (hv.same s0) (u.same s0 hp hb) ((sf.keep (fun hp => ?_)).mono (by omega)) (fun hp => ?_) ?_ (p2.mono (by omega)) (by rw [blkOf_sl]; omega) hXl hsb (by omega) (by omega)).mono ?_
    · obtain ⟨n1, n2⟩ := hne hp
      rw [p3 _ (by have := sf.blk hp; omega) n1, fH _ n2]
    · obtain ⟨n1, n2⟩ := hne hp
      rw [blkOf_sl]
      exact ⟨by have := sf.blk hp; omega, n2⟩
    · rw [p3 rb (by omega) (Ne.symm hor), fHr]
    · rintro r ⟨z1, z2, z3, z4, z5, z6, z7⟩
      refine ⟨z1, by omega, z3, s0.trans z4, z5, z6, ?_⟩
      rw [List.append_assoc] at z7
      exact z7
end Go.Proofs.Ytcnndelmnobigaa

namespace Go.Proofs.Ytcnndelmnobigaa
open Go Go.Ab Go.Proofs
set_option maxRecDepth 100000
set_option linter.unusedVariables false
set_option linter.unusedSimpArgs false
theorem part_exit (v out w F : Value) (p c : Nat) (h : FH) (df : List Nat) : Ans (G (f23_k23000 none) [v, out, w, ptrTo p, F, .int .i64 0, .int .i64 0] h c df) fun r => r = { e := .exit 0, vs := [v, out, w, ptrTo p, F, .int .i64 0, .int .i64 0], h := h, c := c + 1, df := df } := by
  refine Ans.loop' (fun q r => f23_N23000) (fun q => f23_Z23000) ?_
  unfold f23_L23000
  have fx := True.intro
  refine Ans.go ?_
  clear fx
  exact Ans.exitN rfl
def restL (Gl : List Int) (n : Nat) (V : List Int) : List Int := prK (vxC Gl n) V n (vxF Gl n) V
def partL (Gl : List Int) (n : Nat) (V : List Int) : List Int := (vxF Gl n).map (mC (vxC Gl n) V n)
set_option maxHeartbeats 1000000 in
theorem partN_sp (s v : Value) (n nv : Nat) (Gl V : List Int) (h : FH) (c : Nat) (df : List Nat) (hs : SlI h c s 20 n Gl) (hv : SlI h c v 1 nv V) (hx : SlX h v 1 nv) (hC : SlC h v 1 nv V) (hnv : nv ≤ 1000000) :
    Ans (G (.fn 23) [.agg #[s], v] h c df) fun r => r.e = .ret ∧ r.df = [] ∧ c ≤ r.c ∧ Same c h r.h ∧
      ((chkE Gl n (admB Gl n V) ≠ 0 ∧ r.vs = [.tuple #[.slice none 0 0, .slice none 0 0, .int .i64 (chkE Gl n (admB Gl n V))]]) ∨
       (chkE Gl n (admB Gl n V) = 0 ∧ ∃ lk rs, r.vs = [.tuple #[lk, rs, .int .i64 0]] ∧ AppG c r.h r.c lk (vxF Gl n).length (ints (partL Gl n V)) ∧ SlI r.h r.c rs 1 nv (restL Gl n V) ∧ SlX r.h rs 1 nv)) := by
  refine Ans.call' (fun r e => f23_go e) ?_
  unfold f23_S
  rw [flat1 hs.flat, cell1, Nat.add_zero]
  simp only [cond_true]
  have hbl := bldL_v hv
  obtain ⟨H, hH⟩ : ∃ H, H = newB (newB h (256 * c) [s]) (256 * (c + 1) + 2) [v] := ⟨_, rfl⟩
  have sH : Same c h H := by rw [hH]; simp (disch := omega)
  have hg : Holds H (256 * c) [s] := by rw [hH]; exact (Holds.newB_same _ _ _).newB_ne (by omega)
  have hq : Holds H (256 * (c + 1) + 2) [v] := by rw [hH]; exact Holds.newB_same _ _ _
  have l0 : ldN (newB h (256 * c) [s]) 1 (.pointer (some ⟨256 * c, 0, none⟩)) = some (.agg #[s]) := ldN1_own (Holds.newB_same _ _ _)
  have l1 := ldN1_own hg
  have c1 := check1 s v n nv Gl V (256 * (c + 1) + 2) H (c + 1 + 1) ((hs.same sH).mono (by omega)) ((hv.same sH).mono (by omega)) (SlX.keep hv sH hx) hnv (by omega) hq
  have hH' := hH.symm
  obtain ⟨E, hE⟩ : ∃ E, chkE Gl n (admB Gl n V) = E := ⟨_, rfl⟩
  by_cases h0 : E = 0
  case neg =>
    rw [hE] at c1 ⊢
    have fx := And.intro l0 (And.intro hbl (And.intro hH' c1))
    refine Ans.go ?_
    clear fx
    exact .done ⟨rfl, rfl, (by show c ≤ c + 1 + 1 + 1 + 1; omega), sH, .inl ⟨h0, rfl⟩⟩
  have hr0 : refE Gl n = 0 ∧ admB Gl n V = true := by
    rw [h0] at hE
    unfold chkE at hE
    split at hE
    · rename_i h1
      split at hE
      · rename_i h2; exact ⟨h1, h2⟩
      · cases hE
    · rename_i h1; exact absurd hE h1
  obtain ⟨hn, hok⟩ := refE_zero hr0.1
  have ha := hr0.2
  unfold admB at ha
  simp only [Bool.and_eq_true, decide_eq_true_eq] at ha
  obtain ⟨⟨⟨a1, a2⟩, _⟩, _⟩ := ha
  have hV := withinI a2
  have hnv' : nv = 7 * n := by have := hv.1; omega
  rw [hE] at c1 ⊢
  subst h0
  obtain ⟨⟨re, rv, H1, k1, rd⟩, hr, r1, r2, r3, r4, vs, vu, es, eu, rfl, b1, b2, b3, b4, u1, u2⟩ := classes_sp s n Gl H (c + 1 + 1 + 1 + 1) [] ((hs.same sH).mono (by omega)) hok hn
  simp only at r1 r2 r3 r4 b1 b2 b3 b4 u1 u2
  subst r1 r2
  have cc := callF_of hr
  have s1 : Same c h H1 := sH.trans (r4.mono (by omega))
  obtain ⟨⟨re, rv, H2, k2, rd⟩, hr2, w, e1, e2, e3, e4, e5⟩ := clone_sp v nv V H1 (k1 + 1) [] ((hv.same s1).mono (by omega)) (SlC.keep hv s1 hC) hnv
  obtain ⟨rfl, rfl, -, rfl, rfl⟩ := Rt.mk.inj e1
  simp only at e2 e3 e4 e5
  have cl := callF_of hr2
  have hb0 : bldL [] [] = some [] := rfl
  obtain ⟨H3, hH3⟩ : ∃ H3, newB H2 (256 * (k1 + 1 + 1 + 1 + 1)) [] = H3 := ⟨_, rfl⟩
  have s23 : Same (k1 + 1 + 1 + 1 + 1) H2 H3 := by rw [← hH3]; intro b hb; rw [newB_f, if_neg (by omega)]
  have f3 : H3.f (256 * (k1 + 1 + 1 + 1 + 1)) = some (.cells false none []) := by rw [← hH3, newB_f, if_pos rfl]
  have u13 : Uf H3 vs vu (4 * n) (vCl n (allM Gl n)) := (u1.same (e2.mono (by omega : k1 ≤ k1 + 1)) b1 b2).same (s23.mono (by omega : k1 ≤ _)) b1 b2
  obtain ⟨⟨re, rv, H4, k4, rd⟩, hr4, F, g1, g2, g3, g4⟩ := firsts_sp vs vu (4 * n) _ H3 (k1 + 1 + 1 + 1 + 1 + 1 + 1) [] u13 (by omega) (by omega)
  obtain ⟨rfl, rfl, -, -, rfl⟩ := Rt.mk.inj g1
  simp only at g2 g3 g4
  have cf : callF G 45 [.pointer (some ⟨vs, 0, none⟩)] H3 (k1 + 1 + 1 + 1 + 1 + 1 + 1) = some (F, H4, k4) := callF_of hr4
  have lf := g4.sl.len
  have s24 : Same (k1 + 1 + 1 + 1 + 1) H2 H4 := s23.trans (g3.mono (by omega))
  have s4 : Same c h H4 := (s1.trans (e2.mono (by omega))).trans (s24.mono (by omega))
  have hFl := firstsL_len (vCl n (allM Gl n)) (4 * n)
  have hmem : ∀ x, x ∈ firstsL (vCl n (allM Gl n)) (4 * n) → ∃ k : Nat, x = k ∧ k < 4 * n := fun x hx => by
    obtain ⟨k, h1, h2, _⟩ := mem_firstsL hx; exact ⟨k, h1, h2⟩
  have u14 := u13.same g3 (by omega) (by omega)
  have f4 : H4.f (256 * (k1 + 1 + 1 + 1 + 1)) = some (.cells false none []) := by rw [g3 _ (by omega), f3]
  have w4 := e3.same s24
  have x4 := SlX.keep e3 s24 e4
  rcases Nat.eq_zero_or_pos n with h00 | hpos
  · subst h00
    have hv0 : vxF Gl 0 = [] := rfl
    have ev : firstsL (vCl 0 (allM Gl 0)) (4 * 0) = [] := rfl
    rw [ev] at lf
    have hx := Ans.eq (part_exit v (.slice (some ⟨256 * (k1 + 1 + 1 + 1 + 1), 0, none⟩) 0 0) w F vs k4 H4 [])
    have e0 : (([] : List Int).length : Int) = 0 := rfl
    simp only [List.length_nil, Int.ofNat_eq_natCast, Int.cast_ofNat_Int] at lf
    unfold restL partL
    rw [hv0]
    have fx := And.intro l0 (And.intro hbl (And.intro hH' (And.intro c1 (And.intro l1 (And.intro cc (And.intro cl (And.intro hb0 (And.intro hH3 (And.intro cf (And.intro lf hx))))))))))
    refine Ans.go ?_
    clear fx
    exact .done ⟨rfl, rfl, (by show c ≤ k4 + 1 + 1; omega), s4, .inr ⟨rfl, _, _, rfl, ⟨rfl, by simp, rfl, 256 * (k1 + 1 + 1 + 1 + 1), none, rfl, by omega, (by show _ < 256 * (k4 + 1 + 1); omega), f4, .inl rfl⟩, w4.mono (by show _ ≤ k4 + 1 + 1; omega), x4⟩⟩
  · obtain ⟨rfl, e6⟩ := e5 (by omega)
    obtain ⟨rb, hrb⟩ : ∃ rb, 256 * (k1 + 1 + 1 + 1) + 2 = rb := ⟨_, rfl⟩
    rw [hrb] at e6 w4 x4 cl
    have f5 : H4.f rb = some (.cells false (some 1) (ints V)) := by rw [s24 rb (by omega), e6]
    unfold restL partL vxF vxC
    obtain ⟨C, hCC⟩ : ∃ C, vCl n (allM Gl n) = C := ⟨_, rfl⟩
    rw [hCC] at g4 lf hFl hmem u14 ⊢
    obtain ⟨L, hL⟩ : ∃ L, firstsL C (4 * n) = L := ⟨_, rfl⟩
    rw [hL] at g4 lf hFl hmem ⊢
    have hne : 0 < L.length → blkOf F ≠ blkOf (.slice (some ⟨256 * (k1 + 1 + 1 + 1 + 1), 0, none⟩) 0 0) ∧ blkOf F ≠ rb := fun hp => by
      obtain ⟨z1, z2, ⟨rfl, z3⟩ | ⟨i, rfl, z3, z4, z5⟩⟩ := g4
      · omega
      · rw [blkOf_sl, blkOf_sl]; exact ⟨by omega, by omega⟩
    subst hnv'
    obtain ⟨⟨re, rv, H5, k5, rd⟩, hr5, p1, p2, p3, p4, p5, p6, p7⟩ := part_loop v n (7 * n) V C vs vu rb (k1 + 1) F L.length L hn rfl hV (by omega) (by omega) (by omega) hmem (by omega) [] L.length 0 k4 H4 (.slice (some ⟨256 * (k1 + 1 + 1 + 1 + 1), 0, none⟩) 0 0) V [] 0 (by omega) (by omega) (by omega) ((hv.same s4).mono (by omega)) u14 g4.sl hne f5 ⟨rfl, by omega, rfl, 256 * (k1 + 1 + 1 + 1 + 1), none, rfl, by omega, by omega, f4, .inl rfl⟩ (by rw [blkOf_sl]; omega) a1 (fun j => by have := hV j; rw [gi_nat] at this; omega) (by omega) (by omega)
    simp only [Int.ofNat_eq_natCast, Int.cast_ofNat_Int] at hr5
    simp only at p1 p2 p3 p4 p6 p7
    subst p1 p3
    rw [List.drop_zero] at p6 p7
    rw [List.nil_append] at p7
    have fx := And.intro l0 (And.intro hbl (And.intro hH' (And.intro c1 (And.intro l1 (And.intro cc (And.intro cl (And.intro hb0 (And.intro hH3 (And.intro cf (And.intro lf (And.intro hr5 p5)))))))))))
    refine Ans.go ?_
    clear fx
    have hpl : (prK C V n L V).length = 7 * n := by
      have : ∀ (F X : List Int), (prK C V n F X).length = X.length := by
        intro F
        induction F with
        | nil => intro X; rfl
        | cons x F ih => intro X; rw [prK, ih, subK_length]
      rw [this, a1]
    have g6 : AppG c H5 (k5 + 1) (Rt.v { e := Ex.exit 0, vs := rv, h := H5, c := k5, df := [] } 1) L.length (ints (L.map (mC C V n))) := by
      obtain ⟨z1, z2, z3, i, op, z4, z5, z6, z7, z8⟩ := p7
      exact ⟨z1, z2, z3, i, op, z4, by omega, by omega, z7, z8⟩
    have g7 : SlI H5 (k5 + 1) (.slice (some ⟨rb, 0, none⟩) (7 * n) (7 * n)) 1 (7 * n) (prK C V n L V) := by
      have hrk : rb < 256 * (k5 + 1) := by
        have : k4 ≤ k5 := p2
        omega
      refine ⟨by omega, by omega, some ⟨rb, 0, none⟩, 7 * n, rfl, .inr ⟨rb, 0, ints (prK C V n L V), rfl, hrk, ⟨false, some 1, p6⟩, ?_⟩⟩
      rw [List.drop_zero, List.take_of_length_le (by simp [hpl])]
    have g8 : SlX H5 (.slice (some ⟨rb, 0, none⟩) (7 * n) (7 * n)) 1 (7 * n) := by
      refine ⟨Nat.le_refl _, ?_⟩
      have : HeapC.get H5 rb = some (.cells false (some 1) (ints (prK C V n L V))) := p6
      simp only [adrOf, szOk, this, Nat.beq_refl]
    rw [← p5] at g7 g8
    exact .done ⟨rfl, rfl, (by show c ≤ k5 + 1; omega), s4.trans (p4.mono (by omega)), .inr ⟨rfl, _, _, rfl, g6, g7, g8⟩⟩
end Go.Proofs.Ytcnndelmnobigaa

namespace Go.Ab
open Go
set_option linter.unusedVariables false
set_option linter.unusedSimpArgs false
end Go.Ab

namespace Go.Ab
open Go
set_option linter.unusedVariables false
set_option linter.unusedSimpArgs false
def zs (Q : List Nat) : List Int := Q.map fun k : Nat => (k : Int)
theorem zs_getD (Q : List Nat) (i : Nat) : (zs Q).getD i 0 = (Q.getD i 0 : Nat) := by
  simp only [zs, List.getD_eq_getElem?_getD, List.getElem?_map]
  cases Q[i]? <;> rfl
def cntT : List Bool → Nat
  | [] => 0
  | b :: l => (if b = true then 1 else 0) + cntT l
theorem cntT_le : ∀ l : List Bool, cntT l ≤ l.length
  | [] => Nat.le_refl _
  | b :: l => by
    have := cntT_le l
    rw [cntT, List.length_cons]; split <;> omega
theorem cntT_set : ∀ {l : List Bool} {j : Nat}, j < l.length → l.getD j false = false → cntT (l.set j true) = cntT l + 1
  | [], j, h, _ => by simp at h
  | b :: l, 0, _, e => by
    obtain rfl : b = false := e
    show (if (true : Bool) = true then 1 else 0) + cntT l = _
    rw [cntT, if_pos rfl, if_neg (by simp)]; omega
  | b :: l, j + 1, h, e => by
    show (if b = true then 1 else 0) + cntT (l.set j true) = (if b = true then 1 else 0) + cntT l + 1
    rw [cntT_set (l := l) (by simpa using h) e]; omega
theorem cntT_pos : ∀ {l : List Bool} {j : Nat}, l.getD j false = true → 0 < cntT l
  | [], j, h => by simp at h
  | b :: l, 0, e => by
    obtain rfl : b = true := e
    rw [cntT, if_pos rfl]; omega
  | b :: l, j + 1, e => by
    have := cntT_pos (l := l) (j := j) e
    rw [cntT]; omega
theorem getDB_set (l : List Bool) (i j : Nat) (x : Bool) : (l.set i x).getD j false = if i = j ∧ i < l.length then x else l.getD j false := by
  simp only [List.getD_eq_getElem?_getD, List.getElem?_set]
  by_cases h : i = j
  · subst h
    by_cases h2 : i < l.length
    · simp [h2]
    · simp [h2]
  · simp [h]
def ps (w : Nat) : Nat := w / 4 * 7 + w % 4
theorem ps_inj {v w : Nat} (h : ps v = ps w) : v = w := by unfold ps at h; omega
theorem ps_lt {w n : Nat} (h : w < 4 * n) : ps w < 7 * n := by unfold ps; omega
theorem ps_quad {w t k : Nat} (hk : k < 3) : ps w ≠ 7 * t + 4 + k := by unfold ps; omega
structure FSt where
  X : List Int
  K : List Bool
  Q : List Nat
  m : Int
def fU (Gl : List Int) (t f : Nat) : Nat := (tetL (faceL Gl t f)).toNat
def fJ (Gl : List Int) (t f i : Nat) : Nat := ((permL (faceL Gl t f)).getD i 0).toNat
def fV (Gl : List Int) (t f i : Nat) : Nat := 4 * fU Gl t f + fJ Gl t f i
def fW (Gl X : List Int) (t f i : Nat) : Int := arcV X t f i - gi X (7 * (fU Gl t f : Int) + 4 + ty (fJ Gl t f i) (fJ Gl t f f))
def fStep (Gl : List Int) (chk : Bool) (t i f : Nat) (s : FSt) : Option FSt :=
  if f = i ∨ tetL (faceL Gl t f) < 0 then some s
  else if s.K.getD (fV Gl t f i) false = false then
    some ⟨s.X.set (7 * fU Gl t f + fJ Gl t f i) (fW Gl s.X t f i), s.K.set (fV Gl t f i) true, s.Q ++ [fV Gl t f i], min s.m (fW Gl s.X t f i)⟩
  else if chk = true ∧ s.X.getD (7 * fU Gl t f + fJ Gl t f i) 0 ≠ fW Gl s.X t f i then none else some s
def fFaces (Gl : List Int) (chk : Bool) (t i : Nat) : Nat → Nat → FSt → Option FSt
  | 0, _, s => some s
  | k + 1, f, s => (fStep Gl chk t i f s).bind (fFaces Gl chk t i k (f + 1))
def fQ (Gl : List Int) (chk : Bool) : Nat → Nat → FSt → Option FSt
  | 0, _, s => some s
  | r + 1, k, s => if k < s.Q.length then (fFaces Gl chk (s.Q.getD k 0 / 4) (s.Q.getD k 0 % 4) 4 0 s).bind (fQ Gl chk r (k + 1)) else some s
def subQ (m : Int) : List Nat → List Int → List Int
  | [], X => X
  | w :: Q, X => subQ m Q (X.set (ps w) (X.getD (ps w) 0 - m))
def fClass (Gl : List Int) (chk : Bool) (n first : Nat) (X : List Int) (K : List Bool) : Option (List Int × List Bool) :=
  (fQ Gl chk (4 * n) 0 ⟨X, K.set first true, [first], 0⟩).map fun s => (subQ s.m s.Q s.X, s.K)
def fAll (Gl : List Int) (chk : Bool) (n : Nat) : List Int → List Int → List Bool → Option (List Int)
  | [], X, _ => some X
  | x :: F, X, K => (fClass Gl chk n x.toNat X K).bind fun r => fAll Gl chk n F r.1 r.2
def pq (Qd : List Int) (t : Nat) (X : List Int) : List Int := X.take (7 * t + 4) ++ (Qd.drop (3 * t)).take 3 ++ X.drop (7 * t + 7)
def pqK (Qd : List Int) : Nat → Nat → List Int → List Int
  | 0, _, X => X
  | k + 1, t, X => pqK Qd k (t + 1) (pq Qd t X)
theorem pq_length {Qd X : List Int} {n t : Nat} (hq : Qd.length = 3 * n) (hX : X.length = 7 * n) (ht : t < n) : (pq Qd t X).length = 7 * n := by
  simp [pq]; omega
theorem pqK_length {Qd : List Int} {n : Nat} (hq : Qd.length = 3 * n) : ∀ {k t : Nat} {X : List Int}, t + k ≤ n → X.length = 7 * n → (pqK Qd k t X).length = 7 * n
  | 0, _, _, _, h => h
  | k + 1, t, X, h1, h => by
    rw [pqK]
    exact pqK_length hq (by omega) (pq_length hq h (by omega))
theorem pq_quad {Qd X : List Int} {n t : Nat} (hq : Qd.length = 3 * n) (hX : X.length = 7 * n) (ht : t < n) (u k : Nat) (hk : k < 3) : (pq Qd t X).getD (7 * u + 4 + k) 0 = if u = t then Qd.getD (3 * t + k) 0 else X.getD (7 * u + 4 + k) 0 := by
  unfold pq
  simp only [List.getD_eq_getElem?_getD]
  by_cases h1 : u < t
  · rw [if_neg (by omega), List.getElem?_append_left (by simp; omega), List.getElem?_append_left (by simp; omega), List.getElem?_take_of_lt (by omega)]
  · by_cases h2 : u = t
    · subst h2
      rw [if_pos rfl, List.getElem?_append_left (by simp; omega), List.getElem?_append_right (by simp; omega), List.length_take, List.getElem?_take_of_lt (by omega), List.getElem?_drop]
      congr 2; omega
    · rw [if_neg h2, List.getElem?_append_right (by simp; omega), List.getElem?_drop]
      simp only [List.length_append, List.length_take, List.length_drop]
      congr 2; omega
theorem pq_tri {Qd X : List Int} {n t : Nat} (hq : Qd.length = 3 * n) (hX : X.length = 7 * n) (ht : t < n) (u i : Nat) (hi : i < 4) : (pq Qd t X).getD (7 * u + i) 0 = X.getD (7 * u + i) 0 := by
  unfold pq
  simp only [List.getD_eq_getElem?_getD]
  by_cases h1 : u ≤ t
  · rw [List.getElem?_append_left (by simp; omega), List.getElem?_append_left (by simp; omega), List.getElem?_take_of_lt (by omega)]
  · rw [List.getElem?_append_right (by simp; omega), List.getElem?_drop]
    simp only [List.length_append, List.length_take, List.length_drop]
    congr 2; omega
theorem pqK_quad {Qd : List Int} {n : Nat} (hq : Qd.length = 3 * n) : ∀ {k t : Nat} {X : List Int}, t + k ≤ n → X.length = 7 * n → ∀ (u j : Nat), j < 3 → (pqK Qd k t X).getD (7 * u + 4 + j) 0 = if t ≤ u ∧ u < t + k then Qd.getD (3 * u + j) 0 else X.getD (7 * u + 4 + j) 0
  | 0, t, X, _, h, u, j, hj => by rw [pqK, if_neg (by omega)]
  | k + 1, t, X, h1, h, u, j, hj => by
    rw [pqK, pqK_quad hq (by omega) (pq_length hq h (by omega)) u j hj, pq_quad hq h (by omega) u j hj]
    by_cases e : u = t
    · subst e; rw [if_neg (by omega), if_pos rfl, if_pos (by omega)]
    · rw [if_neg e]
      by_cases e2 : t + 1 ≤ u ∧ u < t + 1 + k
      · rw [if_pos e2, if_pos (by omega)]
      · rw [if_neg e2, if_neg (by omega)]
theorem pqK_tri {Qd : List Int} {n : Nat} (hq : Qd.length = 3 * n) : ∀ {k t : Nat} {X : List Int}, t + k ≤ n → X.length = 7 * n → ∀ (u i : Nat), i < 4 → (pqK Qd k t X).getD (7 * u + i) 0 = X.getD (7 * u + i) 0
  | 0, t, X, _, h, u, j, hj => rfl
  | k + 1, t, X, h1, h, u, j, hj => by
    rw [pqK, pqK_tri hq (by omega) (pq_length hq h (by omega)) u j hj, pq_tri hq h (by omega) u j hj]
structure FOk (n : Nat) (s : FSt) (B : Int) : Prop where
  xl : s.X.length = 7 * n
  kl : s.K.length = 4 * n
  nd : s.Q.Nodup
  qk : ∀ w ∈ s.Q, w < 4 * n ∧ s.K.getD w false = true
  qc : s.Q.length ≤ cntT s.K
  xb : ∀ j : Nat, -B ≤ s.X.getD j 0 ∧ s.X.getD j 0 ≤ B
  mb : -B ≤ s.m ∧ s.m ≤ 0
  qd : ∀ t k : Nat, k < 3 → 0 ≤ s.X.getD (7 * t + 4 + k) 0 ∧ s.X.getD (7 * t + 4 + k) 0 ≤ 1000000
theorem FOk.ql {n : Nat} {s : FSt} {B : Int} (h : FOk n s B) : s.Q.length ≤ 4 * n := by
  have := cntT_le s.K
  have := h.qc
  have := h.kl
  omega
theorem FOk.mono {n : Nat} {s : FSt} {B B' : Int} (h : FOk n s B) (hb : B ≤ B') : FOk n s B' :=
  ⟨h.xl, h.kl, h.nd, h.qk, h.qc, fun j => by have := h.xb j; omega, by have := h.mb; omega, h.qd⟩
structure FGl (Gl : List Int) (n t f i : Nat) : Prop where
  u : fU Gl t f < n
  uz : tetL (faceL Gl t f) = (fU Gl t f : Nat)
  j : fJ Gl t f i < 4
  jz : (permL (faceL Gl t f)).getD i 0 = (fJ Gl t f i : Nat)
  h : fJ Gl t f f < 4
  hz : (permL (faceL Gl t f)).getD f 0 = (fJ Gl t f f : Nat)
  ne : fJ Gl t f i ≠ fJ Gl t f f
theorem FGl.of {Gl : List Int} {n t f i : Nat} (hok : okAll Gl n = true) (hG : Gl.length = n * 20) (ht : t < n) (hf : f < 4) (hi : i < 4) (hne : i ≠ f) (hg : ¬ tetL (faceL Gl t f) < 0) : FGl Gl n t f i := by
  obtain ⟨h1, h2, h3, h4⟩ := okFace_glued (okAll_face hok ht hf) hg
  have hp := mem24 (permL_length (faceL_length hG ht hf)) h2
  have r1 := range24 hp hi
  have r2 := range24 hp hf
  have r3 := ne24 hp hi hf hne
  exact ⟨by unfold fU; omega, by unfold fU; omega, by unfold fJ; omega, by unfold fJ; omega, by unfold fJ; omega, by unfold fJ; omega, by unfold fJ; omega⟩
theorem fW_bound {Gl : List Int} {n t f i : Nat} {s : FSt} {B : Int} (h : FOk n s B) (ht : t < n) (hf : f < 4) (hi : i < 4) (hne : i ≠ f) (g : FGl Gl n t f i) : -(B + 1000000) ≤ fW Gl s.X t f i ∧ fW Gl s.X t f i ≤ B + 1000000 := by
  unfold fW arcV
  have r1 := ty_range (i := (i : Int)) (f := (f : Int)) (by omega) (by omega) (by omega) (by omega) (by omega)
  have r2 := ty_range (i := (fJ Gl t f i : Int)) (f := (fJ Gl t f f : Int)) (by omega) (by have := g.j; omega) (by omega) (by have := g.h; omega) (by have := g.ne; omega)
  have q1 := h.qd t (ty i f).toNat (by omega)
  have q2 := h.qd (fU Gl t f) (ty (fJ Gl t f i) (fJ Gl t f f)).toNat (by omega)
  have q3 := h.xb (7 * t + i)
  unfold gi
  rw [show (7 * (t : Int) + i).toNat = 7 * t + i by omega, show (7 * (t : Int) + 4 + ty i f).toNat = 7 * t + 4 + (ty i f).toNat by omega,
    show (7 * (fU Gl t f : Int) + 4 + ty (fJ Gl t f i) (fJ Gl t f f)).toNat = 7 * fU Gl t f + 4 + (ty (fJ Gl t f i) (fJ Gl t f f)).toNat by omega]
  omega
theorem FOk.push {Gl : List Int} {n t f i : Nat} {s : FSt} {B : Int} (h : FOk n s B) (hB : 0 ≤ B) (ht : t < n) (hf : f < 4) (hi : i < 4) (hne : i ≠ f) (g : FGl Gl n t f i) (hk : s.K.getD (fV Gl t f i) false = false) :
    FOk n ⟨s.X.set (7 * fU Gl t f + fJ Gl t f i) (fW Gl s.X t f i), s.K.set (fV Gl t f i) true, s.Q ++ [fV Gl t f i], min s.m (fW Gl s.X t f i)⟩ (B + 1000000) := by
  have hv : fV Gl t f i < 4 * n := by have := g.u; have := g.j; unfold fV; omega
  have hw := fW_bound h ht hf hi hne g
  have hj := g.j
  refine ⟨by simp [h.xl], by simp [h.kl], ?_, fun w hw => ?_, ?_, fun j => ?_, ?_, fun u k hk => ?_⟩
  · rw [List.nodup_append]
    refine ⟨h.nd, by simp, fun a ha b hb => ?_⟩
    rw [List.mem_singleton] at hb
    subst hb
    rintro rfl
    have := (h.qk _ ha).2
    rw [hk] at this; cases this
  · rw [getDB_set]
    rcases List.mem_append.1 hw with h1 | h1
    · refine ⟨(h.qk w h1).1, ?_⟩
      split
      · rfl
      · exact (h.qk w h1).2
    · rw [List.mem_singleton] at h1
      subst h1
      exact ⟨hv, by rw [if_pos ⟨rfl, by rw [h.kl]; exact hv⟩]⟩
  · have := h.qc
    rw [cntT_set (by rw [h.kl]; exact hv) hk]; simp; omega
  · rw [getD_set]
    have := h.xb j
    split <;> omega
  · have := h.mb
    simp only
    omega
  · rw [getD_set, if_neg (by omega)]
    exact h.qd u k hk
theorem fStep_ok {Gl : List Int} {chk : Bool} {n t f i : Nat} {s s' : FSt} {B : Int} (hok : okAll Gl n = true) (hG : Gl.length = n * 20) (h : FOk n s B) (hB : 0 ≤ B) (ht : t < n) (hf : f < 4) (hi : i < 4) (e : fStep Gl chk t i f s = some s') : FOk n s' (B + 1000000) := by
  unfold fStep at e
  split at e
  · obtain rfl := Option.some.inj e
    exact h.mono (by omega)
  · rename_i h1
    have g := FGl.of hok hG ht hf hi (fun q => h1 (.inl q.symm)) (fun q => h1 (.inr q))
    split at e
    · rename_i h2
      obtain rfl := Option.some.inj e
      exact h.push hB ht hf hi (fun q => h1 (.inl q.symm)) g h2
    · split at e
      · cases e
      · obtain rfl := Option.some.inj e
        exact h.mono (by omega)
theorem fFaces_ok {Gl : List Int} {chk : Bool} {n t i : Nat} (hok : okAll Gl n = true) (hG : Gl.length = n * 20) (ht : t < n) (hi : i < 4) : ∀ {k f : Nat} {s s' : FSt} {B : Int}, f + k ≤ 4 → FOk n s B → 0 ≤ B → fFaces Gl chk t i k f s = some s' → FOk n s' (B + k * 1000000)
  | 0, f, s, s', B, _, h, hB, e => by
    obtain rfl := Option.some.inj e
    exact h.mono (by omega)
  | k + 1, f, s, s', B, hf, h, hB, e => by
    rw [fFaces] at e
    obtain ⟨s1, e1, e2⟩ := Option.bind_eq_some_iff.1 e
    exact (fFaces_ok hok hG ht hi (by omega) (fStep_ok hok hG h hB ht (by omega) hi e1) (by omega) e2).mono (by omega)
theorem fQ_ok {Gl : List Int} {chk : Bool} {n : Nat} (hok : okAll Gl n = true) (hG : Gl.length = n * 20) : ∀ {r k : Nat} {s s' : FSt} {B : Int}, FOk n s B → 0 ≤ B → fQ Gl chk r k s = some s' → FOk n s' (B + r * 4000000)
  | 0, k, s, s', B, h, hB, e => by
    obtain rfl := Option.some.inj e
    exact h.mono (by omega)
  | r + 1, k, s, s', B, h, hB, e => by
    rw [fQ] at e
    split at e
    · rename_i hk
      obtain ⟨s1, e1, e2⟩ := Option.bind_eq_some_iff.1 e
      have hm : s.Q.getD k 0 ∈ s.Q := by simp [List.getD_eq_getElem?_getD, List.getElem?_eq_getElem hk]
      have := (h.qk _ hm).1
      exact (fQ_ok hok hG (fFaces_ok hok hG (by omega) (by omega) (by omega) h hB e1) (by omega) e2).mono (by omega)
    · obtain rfl := Option.some.inj e
      exact h.mono (by omega)
theorem FOk.start {n first : Nat} {X : List Int} {K : List Bool} {B : Int} (hX : X.length = 7 * n) (hK : K.length = 4 * n) (hf : first < 4 * n) (hB : 0 ≤ B) (xb : ∀ j : Nat, -B ≤ X.getD j 0 ∧ X.getD j 0 ≤ B)
    (qd : ∀ t k : Nat, k < 3 → 0 ≤ X.getD (7 * t + 4 + k) 0 ∧ X.getD (7 * t + 4 + k) 0 ≤ 1000000) : FOk n ⟨X, K.set first true, [first], 0⟩ B := by
  have hs : (K.set first true).getD first false = true := by rw [getDB_set, if_pos ⟨rfl, by omega⟩]
  refine ⟨hX, by simp [hK], by simp, fun w hw => ?_, cntT_pos hs, xb, ⟨by simp only; omega, Int.le_refl _⟩, qd⟩
  rw [List.mem_singleton] at hw
  subst hw
  exact ⟨hf, hs⟩
theorem subQ_length (m : Int) : ∀ (Q : List Nat) (X : List Int), (subQ m Q X).length = X.length
  | [], X => rfl
  | w :: Q, X => by rw [subQ, subQ_length]; simp
theorem subQ_getD (m : Int) {n : Nat} : ∀ {Q : List Nat} {X : List Int}, Q.Nodup → (∀ w ∈ Q, w < 4 * n) → X.length = 7 * n → ∀ j, (∀ w, w ∈ Q → ps w = j → (subQ m Q X).getD j 0 = X.getD j 0 - m) ∧ ((∀ w, w ∈ Q → ps w ≠ j) → (subQ m Q X).getD j 0 = X.getD j 0)
  | [], X, _, _, _, j => ⟨fun w h => (by simp at h), fun _ => rfl⟩
  | w :: Q, X, nd, hr, hX, j => by
    rw [List.nodup_cons] at nd
    have hw := hr w (by simp)
    have ih := subQ_getD m nd.2 (fun v hv => hr v (by simp [hv])) (X := X.set (ps w) (X.getD (ps w) 0 - m)) (by simp [hX]) j
    rw [subQ]
    refine ⟨fun v hv e => ?_, fun hn => ?_⟩
    · by_cases hvw : v = w
      · subst hvw
        rw [ih.2 (fun x hx h => by
          have := ps_inj (h.trans e.symm)
          subst this
          exact nd.1 hx), getD_set, if_pos ⟨e, by have := ps_lt hw; omega⟩, e]
      · have hv' : v ∈ Q := by simpa [hvw] using hv
        rw [ih.1 v hv' e, getD_set, if_neg (fun q => hvw (ps_inj (e.trans q.1.symm)))]
    · rw [ih.2 (fun x hx => hn x (by simp [hx])), getD_set, if_neg (fun q => hn w (by simp) q.1)]
theorem subQ_bound {n : Nat} {s : FSt} {B : Int} (h : FOk n s B) (j : Nat) : -(2 * B) ≤ (subQ s.m s.Q s.X).getD j 0 ∧ (subQ s.m s.Q s.X).getD j 0 ≤ 2 * B := by
  have k := subQ_getD s.m h.nd (fun w hw => (h.qk w hw).1) h.xl j
  have b := h.xb j
  have m := h.mb
  by_cases e : ∃ w, w ∈ s.Q ∧ ps w = j
  · obtain ⟨w, h1, h2⟩ := e
    rw [k.1 w h1 h2]; omega
  · rw [k.2 (fun w hw q => e ⟨w, hw, q⟩)]; omega
theorem subQ_quad {n : Nat} {s : FSt} {B : Int} (h : FOk n s B) (t k : Nat) (hk : k < 3) : (subQ s.m s.Q s.X).getD (7 * t + 4 + k) 0 = s.X.getD (7 * t + 4 + k) 0 :=
  (subQ_getD s.m h.nd (fun w hw => (h.qk w hw).1) h.xl _).2 (fun w _ => ps_quad hk)
end Go.Ab

namespace Go.Proofs.Ytcnndelmnobigaa
open Go Go.Ab Go.Proofs
set_option maxRecDepth 100000
set_option linter.unusedVariables false
set_option linter.unusedSimpArgs false
theorem arcsB_sp (s : Value) (n : Nat) (V : List Int) (t f i : Int) (h : FH) (c : Nat) (df : List Nat) (hs : SlI h c s 1 n V) (ht : 0 ≤ t) (htn : 7 * t + 7 ≤ n) (hn : n ≤ 1000000) (hf : 0 ≤ f) (hf4 : f < 4) (hi : 0 ≤ i) (hi4 : i < 4) (hne : i ≠ f)
    (hV : ∀ j : Nat, -1000000000000000000 ≤ V.getD j 0 ∧ V.getD j 0 ≤ 1000000000000000000) :
    G (.fn 50) [s, .int .i64 t, .int .i64 f, .int .i64 i] h c df = some { e := .ret, vs := [.int .i64 (arcV V t f i)], h := h, c := c, df := [] } := by
  refine pure_of' (fun r e => f50_go e) (by simp) ?_
  unfold f50_S arcV
  have hr := ty_range hi hi4 hf hf4 hne
  have k1 := hV (7 * t + i).toNat
  have k2 := hV (7 * t + 4 + ty i f).toNat
  rw [← gi] at k1 k2
  have l1 := hs.rdi (7 * t + i) (by omega) (by omega)
  have l2 := hs.rdi (7 * t + 4 + ty i f) (by omega) (by omega)
  have x1 := ixV_avs tyT 4 4 .i64 i hi (by omega) rfl
  have hl4 : ((tyT.drop (i.toNat * 4)).take 4).length = 4 := by simp [tyT]; omega
  have x2 := ixV_av ((tyT.drop (i.toNat * 4)).take 4) 4 .i64 f hf (by omega) hl4
  rw [show ((tyT.drop (i.toNat * 4)).take 4).getD f.toNat 0 = ty i f from rfl] at x2
  obtain ⟨R, hR⟩ : ∃ R, (tyT.drop (i.toNat * 4)).take 4 = R := ⟨_, rfl⟩
  rw [hR] at x1 x2
  obtain ⟨T, hT⟩ : ∃ T, ty i f = T := ⟨_, rfl⟩
  rw [hT] at x2 l2 k2 hr ⊢
  obtain ⟨A, hA⟩ : ∃ A, gi V (7 * t + i) = A := ⟨_, rfl⟩
  obtain ⟨B, hB⟩ : ∃ B, gi V (7 * t + 4 + T) = B := ⟨_, rfl⟩
  rw [hA] at l1 k1 ⊢
  rw [hB] at l2 k2 ⊢
  have fx := And.intro hs.ixs1 (And.intro l1 (And.intro l2 (And.intro callF_types (And.intro x1 x2))))
  refine Ans.go ?_
  clear fx
  (have fx := True.intro; exact Ans.pu)
def FcP (rb kb c1 cc : Nat) (h : FH) (df : List Nat) (vs : Value → Int → List Value) (o : Option FSt) (r : Rt FH) : Prop :=
  cc ≤ r.c ∧ r.df = df ∧ (∀ b, b < 256 * c1 → b ≠ rb → b ≠ kb → r.h.f b = h.f b) ∧ match o with
    | some S => r.e = .exit 6 ∧ ∃ v, r.vs = vs v S.m ∧ r.h.f rb = some (.cells false none (ints S.X)) ∧ r.h.f kb = some (.cells false none (bools S.K)) ∧ AppG c1 r.h r.c v S.Q.length (ints (zs S.Q))
    | none => r.e = .ret ∧ r.v 1 = .slice none 0 0 ∧ r.v 2 = .bool false
theorem FcP.mono {rb kb c1 cc cc' : Nat} {h h' : FH} {df : List Nat} {vs : Value → Int → List Value} {o : Option FSt} {r : Rt FH} (p : FcP rb kb c1 cc' h' df vs o r) (hc : cc ≤ cc') (hh : ∀ b, b < 256 * c1 → b ≠ rb → b ≠ kb → h'.f b = h.f b) : FcP rb kb c1 cc h df vs o r :=
  ⟨Nat.le_trans hc p.1, p.2.1, fun b h1 h2 h3 => (p.2.2.1 b h1 h2 h3).trans (hh b h1 h2 h3), p.2.2.2⟩
theorem own_sl {h : FH} {rb c : Nat} {X : List Int} {m : Nat} (e : h.f rb = some (.cells false none (ints X))) (hl : X.length = m) (hm : m ≤ 1000000) (hc : rb < 256 * c) : SlI h c (.slice (some ⟨rb, 0, none⟩) m m) 1 m X := by
  refine ⟨by omega, by omega, some ⟨rb, 0, none⟩, m, rfl, .inr ⟨rb, 0, ints X, rfl, hc, ⟨false, none, e⟩, ?_⟩⟩
  rw [List.drop_zero, List.take_of_length_le (by simp [hl])]
set_option maxHeartbeats 2000000 in
theorem fc_loop (n : Nat) (Gl : List Int) (rb kb c1 : Nat) (t2 t4 t5 t16 t62 t63 t64 : Value) (t i : Nat) (df : List Nat) (hn : n ≤ 60) (hok : okAll Gl n = true) (hG : Gl.length = n * 20) (hrb : rb < 256 * c1) (hkb : kb < 256 * c1) (hne : rb ≠ kb) (ht : t < n) (hi : i < 4) :
    ∀ (k f cc : Nat) (h : FH) (t14 : Value) (S : FSt) (B : Int), f + k = 4 → c1 ≤ cc → h.f rb = some (.cells false none (ints S.X)) → h.f kb = some (.cells false none (bools S.K)) → AppG c1 h cc t14 S.Q.length (ints (zs S.Q)) → FOk n S B → 0 ≤ B → B + k * 1000000 ≤ 100000000000000000 →
    Ans (G (f57_k57003 none) [t2, t4, t5, .slice (some ⟨rb, 0, none⟩) (7 * n) (7 * n), .slice (some ⟨kb, 0, none⟩) (4 * n) (4 * n), t14, .int .i64 S.m, t16, .int .i64 t, .int .i64 i, t62, t63, t64, av (rowL Gl t), .int .i64 f] h cc df)
      (FcP rb kb c1 cc h df (fun v m => [t2, t4, t5, .slice (some ⟨rb, 0, none⟩) (7 * n) (7 * n), .slice (some ⟨kb, 0, none⟩) (4 * n) (4 * n), v, .int .i64 m, t16, .int .i64 t, .int .i64 i, t62, t63, t64, av (rowL Gl t), .int .i64 4]) (fFaces Gl true t i k f S)) := by
  intro k
  induction k with
  | zero =>
    intro f cc h t14 S B hf hc e1 e2 ha hS hB hB2
    obtain rfl : f = 4 := by omega
    refine Ans.loop' (fun q r => f57_N57003) (fun q => f57_Z57003) ?_
    unfold f57_L57003
    have fx := True.intro
    refine Ans.go ?_
    clear fx
    refine Ans.exitN ⟨(by show cc ≤ cc + 1; omega), rfl, fun _ _ _ _ => rfl, rfl, t14, rfl, e1, e2, ha.mono (by show cc ≤ cc + 1; omega)⟩
  | succ k ih =>
    intro f cc h t14 S B hf hc e1 e2 ha hS hB hB2
    have hf4 : (f : Int) < 4 := by omega
    have hrl : (rowL Gl t).length = 20 := rowL_length hG ht
    have x1 := ixV_avs (rowL Gl t) 4 5 .i64 (f : Int) (by omega) (by omega) hrl
    have hfr : ((rowL Gl t).drop ((f : Int).toNat * 5)).take 5 = faceL Gl t f := row_face (by omega)
    rw [hfr] at x1
    have hfl := faceL_length hG ht (by omega : f < 4)
    have hst : ∀ b, stN (newB h b [.int .i64 0, .int .i64 0, .int .i64 0, .int .i64 0, .int .i64 0]) 5 (.pointer (some ⟨b, 0, none⟩)) (av (faceL Gl t f)) = some (newB h b (ints (faceL Gl t f))) := fun b => stN_all _ _ 5 _ _ hfl rfl
    obtain ⟨H, hH⟩ : ∃ H, newB h (256 * (cc + 1) + 2) (ints (faceL Gl t f)) = H := ⟨_, rfl⟩
    have fH : ∀ b, b ≠ 256 * (cc + 1) + 2 → H.f b = h.f b := fun b hb => by rw [← hH, newB_f, if_neg hb]
    have b0 : ld1 H (.pointer (some ⟨256 * (cc + 1) + 2, 0, none⟩)) = some (.int .i64 (tetL (faceL Gl t f))) := by rw [← hH, ld1_newB_same, ints_getD _ _ (by omega)]; rfl
    have bp : ∀ x : Nat, x < 4 → ld1 H (.pointer (some ⟨256 * (cc + 1) + 2, 1 + x, none⟩)) = some (.int .i64 ((permL (faceL Gl t f)).getD x 0)) := fun x hx => by
      rw [← hH, ld1_newB_same, ints_getD _ _ (by omega)]
      unfold permL
      rw [getD_take _ _ _ (by omega), getD_drop]
    have b1 := bp i hi
    have b2 := bp f (by omega)
    have kH : H.f rb = some (.cells false none (ints S.X)) := by rw [fH rb (by omega), e1]
    have kK : H.f kb = some (.cells false none (bools S.K)) := by rw [fH kb (by omega), e2]
    have bo := ha.blk
    have aH : AppG c1 H cc t14 S.Q.length (ints (zs S.Q)) := ha.keep (fH _ (by omega))
    rw [fFaces]
    by_cases hfi : f = i
    · have es : fStep Gl true t i f S = some S := by unfold fStep; rw [if_pos (.inl hfi)]
      rw [es]
      subst hfi
      refine Ans.loop' (fun q r => f57_N57003) (fun q => f57_Z57003) ?_
      unfold f57_L57003
      have fx := And.intro x1 (And.intro hst hH)
      refine Ans.go ?_
      clear fx
      refine Ans.nextN ?_
      refine (ih (f + 1) _ H t14 S B (by omega) (by omega) kH kK (aH.mono (by omega)) hS hB (by omega)).mono fun r p => p.mono (by omega) (fun b h1 h2 h3 => fH b (by omega))
    by_cases h0 : tetL (faceL Gl t f) < 0
    · have es : fStep Gl true t i f S = some S := by unfold fStep; rw [if_pos (.inr h0)]
      rw [es]
      have hfi' : ¬ (f : Int) = i := by omega
      obtain ⟨U, hU⟩ : ∃ U, tetL (faceL Gl t f) = U := ⟨_, rfl⟩
      rw [hU] at b0 h0
      refine Ans.loop' (fun q r => f57_N57003) (fun q => f57_Z57003) ?_
      unfold f57_L57003
      have fx := And.intro x1 (And.intro hst (And.intro hH b0))
      refine Ans.go ?_
      clear fx
      refine Ans.nextN ?_
      refine (ih (f + 1) _ H t14 S B (by omega) (by omega) kH kK (aH.mono (by omega)) hS hB (by omega)).mono fun r p => p.mono (by omega) (fun b h1 h2 h3 => fH b (by omega))
    have hfi' : ¬ (f : Int) = i := by omega
    have g := FGl.of hok hG ht (by omega : f < 4) hi (fun q => hfi q.symm) h0
    have hw := fW_bound hS ht (by omega : f < 4) hi (fun q => hfi q.symm) g
    have ca := fun c' (hc' : cc + 1 + 1 ≤ c') => callF_of (arcsB_sp (.slice (some ⟨rb, 0, none⟩) (7 * n) (7 * n)) (7 * n) S.X t f i H c' [] (own_sl kH hS.xl (by omega) (by omega)) (by omega) (by omega) (by omega) (by omega) (by omega) (by omega) (by omega) (by omega) (fun j => by have := hS.xb j; omega))
    have r1 := ty_range (i := (i : Int)) (f := (f : Int)) (by omega) (by omega) (by omega) (by omega) (by omega)
    have r2 := ty_range (i := (fJ Gl t f i : Int)) (f := (fJ Gl t f f : Int)) (by omega) (by have := g.j; omega) (by omega) (by have := g.h; omega) (by have := g.ne; omega)
    have q2 := hS.qd (fU Gl t f) (ty (fJ Gl t f i) (fJ Gl t f f)).toNat (by omega)
    have hwe : arcV S.X t f i - S.X.getD (7 * fU Gl t f + 4 + (ty (fJ Gl t f i) (fJ Gl t f f)).toNat) 0 = fW Gl S.X t f i := by
      unfold fW
      rw [gi, show (7 * (fU Gl t f : Int) + 4 + ty (fJ Gl t f i) (fJ Gl t f f)).toNat = 7 * fU Gl t f + 4 + (ty (fJ Gl t f i) (fJ Gl t f f)).toNat by omega]
    have es : fStep Gl true t i f S = if S.K.getD (fV Gl t f i) false = false then
        some ⟨S.X.set (7 * fU Gl t f + fJ Gl t f i) (fW Gl S.X t f i), S.K.set (fV Gl t f i) true, S.Q ++ [fV Gl t f i], min S.m (fW Gl S.X t f i)⟩
        else if true = true ∧ S.X.getD (7 * fU Gl t f + fJ Gl t f i) 0 ≠ fW Gl S.X t f i then none else some S := by
      unfold fStep; rw [if_neg (fun q => q.elim hfi h0)]
    have push := hS.push (Gl := Gl) hB ht (by omega : f < 4) hi (fun q => hfi q.symm) g
    rw [es]
    have hv : fV Gl t f i = 4 * fU Gl t f + fJ Gl t f i := rfl
    rw [hv] at push ⊢
    have gu := g.u
    have gj := g.j
    have gh := g.h
    have gne := g.ne
    have guz := g.uz
    have gjz := g.jz
    have ghz := g.hz
    clear g es hv
    rw [guz] at b0
    rw [gjz] at b1
    rw [ghz] at b2
    obtain ⟨U, hU⟩ : ∃ U, fU Gl t f = U := ⟨_, rfl⟩
    obtain ⟨J, hJ⟩ : ∃ J, fJ Gl t f i = J := ⟨_, rfl⟩
    obtain ⟨J', hJ'⟩ : ∃ J', fJ Gl t f f = J' := ⟨_, rfl⟩
    rw [hU] at b0 gu hwe push q2 ⊢
    rw [hJ] at b1 gj gne r2 hwe push q2 ⊢
    rw [hJ'] at b2 gh gne r2 hwe q2
    have x3 := ixV_avs tyT 4 4 .i64 (J : Int) (by omega) (by omega) rfl
    have hl4 : ((tyT.drop ((J : Int).toNat * 4)).take 4).length = 4 := by simp [tyT]; omega
    have x4 := ixV_av ((tyT.drop ((J : Int).toNat * 4)).take 4) 4 .i64 (J' : Int) (by omega) (by omega) hl4
    rw [show ((tyT.drop ((J : Int).toNat * 4)).take 4).getD (J' : Int).toNat 0 = ty J J' from rfl] at x4
    obtain ⟨R, hR⟩ : ∃ R, (tyT.drop ((J : Int).toNat * 4)).take 4 = R := ⟨_, rfl⟩
    rw [hR] at x3 x4
    obtain ⟨T, hT⟩ : ∃ T, ty J J' = (T : Nat) := ⟨(ty J J').toNat, by omega⟩
    rw [hT] at x4 hwe r2 q2
    rw [Int.toNat_natCast] at hwe q2
    have hwe' := hwe
    have k1 := hS.xb (7 * U + 4 + T)
    have l2 : ld1 H (.pointer (some ⟨rb, 7 * U + 4 + T, none⟩)) = some (.int .i64 (S.X.getD (7 * U + 4 + T) 0)) := by
      rw [ld1_holds' ⟨false, none, kH⟩, ints_getD _ _ (by have := hS.xl; omega)]
    have l3 : ld1 H (.pointer (some ⟨kb, 4 * U + J, none⟩)) = some (.bool (S.K.getD (4 * U + J) false)) := by
      rw [ld1_holds' ⟨false, none, kK⟩, bools_get _ _ (by have := hS.kl; omega)]
    have l4 : ld1 H (.pointer (some ⟨rb, 7 * U + J, none⟩)) = some (.int .i64 (S.X.getD (7 * U + J) 0)) := by
      rw [ld1_holds' ⟨false, none, kH⟩, ints_getD _ _ (by have := hS.xl; omega)]
    obtain ⟨W, hW⟩ : ∃ W, fW Gl S.X t f i = W := ⟨_, rfl⟩
    rw [hW] at hw hwe push ⊢
    obtain ⟨A, hA⟩ : ∃ A, arcV S.X t f i = A := ⟨_, rfl⟩
    rw [hA] at ca hwe
    obtain ⟨Y, hY⟩ : ∃ Y, S.X.getD (7 * U + 4 + T) 0 = Y := ⟨_, rfl⟩
    rw [hY] at l2 k1 hwe q2
    obtain ⟨Z, hZ⟩ : ∃ Z, S.X.getD (7 * U + J) 0 = Z := ⟨_, rfl⟩
    have k5 := hS.xb (7 * U + J)
    rw [hZ] at l4 k5 ⊢
    have tz1 : (7 * (U : Int) + 4 + T).toNat = 7 * U + 4 + T := by omega
    have tz2 : (4 * (U : Int) + J).toNat = 4 * U + J := by omega
    have tz3 : (7 * (U : Int) + J).toNat = 7 * U + J := by omega
    by_cases hk : S.K.getD (4 * U + J) false = false
    · rw [if_pos hk]
      rw [hk] at l3
      have pu := push hk
      obtain ⟨H1, hH1⟩ : ∃ H1, HeapC.set H kb (.cells false none (bools (S.K.set (4 * U + J) true))) = H1 := ⟨_, rfl⟩
      have w1 : stN H 1 (.pointer (some ⟨kb, 4 * U + J, none⟩)) (.bool true) = some H1 := by
        rw [st1_get (show HeapC.get H kb = _ from kK) (by simp [bools]; have := hS.kl; omega) rfl rfl, bools_set, hH1]
      have fH1 : ∀ b, b ≠ kb → H1.f b = H.f b := fun b hb => by rw [← hH1, set_f, if_neg hb]
      have kK1 : H1.f kb = some (.cells false none (bools (S.K.set (4 * U + J) true))) := by rw [← hH1, set_f, if_pos rfl]
      obtain ⟨H2, hH2⟩ : ∃ H2, HeapC.set H1 rb (.cells false none (ints (S.X.set (7 * U + J) W))) = H2 := ⟨_, rfl⟩
      have w2 : stN H1 1 (.pointer (some ⟨rb, 7 * U + J, none⟩)) (.int .i64 W) = some H2 := by
        rw [st1_get (show HeapC.get H1 rb = _ from (fH1 rb hne).trans kH) (by simp; have := hS.xl; omega) rfl rfl, ints_set, hH2]
      have fH2 : ∀ b, b ≠ rb → H2.f b = H1.f b := fun b hb => by rw [← hH2, set_f, if_neg hb]
      have kH2 : H2.f rb = some (.cells false none (ints (S.X.set (7 * U + J) W))) := by rw [← hH2, set_f, if_pos rfl]
      have mn := min2_int .i64 S.m W
      rw [show (if W < S.m then W else S.m) = min S.m W by split <;> omega] at mn
      have hbl : bldL [.int .i64 0] [(0, 1, .int .i64 (4 * (U : Int) + J))] = some [.int .i64 (4 * (U : Int) + J)] := rfl
      have hql := hS.ql
      have a2 : AppG c1 H2 (cc + 1) t14 S.Q.length (ints (zs S.Q)) := (aH.keep (by rw [fH2 _ (by omega), fH1 _ (by omega)])).mono (by omega)
      obtain ⟨H3, p1, p2, p3⟩ := (a2.mono (c' := cc + 1 + 1 + 1 + 1 + 1 + 1 + 1 + 1 + 1) (by omega)).app (c' := cc + 1 + 1 + 1 + 1 + 1 + 1 + 1 + 1 + 1 + 1) (.int .i64 (4 * (U : Int) + J)) rfl 8 (256 * (cc + 1 + 1 + 1 + 1 + 1 + 1 + 1 + 1 + 1) + 5) (256 * (cc + 1 + 1 + 1 + 1 + 1 + 1 + 1 + 1 + 1) + 6) (by omega) (by omega) (by omega) (by omega) (by omega) (by omega)
      have low : ∀ b, b < 256 * c1 → H3.f b = H2.f b := fun b hb => p3 b (by omega) (by omega)
      have hzs : ints (zs S.Q) ++ [.int .i64 (4 * (U : Int) + J)] = ints (zs (S.Q ++ [4 * U + J])) := by
        simp [zs, ints]
      rw [hzs] at p2
      clear mn
      have mn : foldV min2 [.int .i64 S.m, .int .i64 W] = some (.int .i64 (min S.m W)) := by
        rw [min2_int, show (if W < S.m then W else S.m) = min S.m W by split <;> omega]
      refine Ans.loop' (fun q r => f57_N57003) (fun q => f57_Z57003) ?_
      unfold f57_L57003
      have fx := And.intro x1 (And.intro hst (And.intro hH (And.intro b0 (And.intro b1 (And.intro b2 (And.intro ca (And.intro callF_types (And.intro x3 (And.intro x4 (And.intro tz1 (And.intro tz2 (And.intro tz3 (And.intro l2 (And.intro l3 (And.intro hwe (And.intro w1 (And.intro w2 (And.intro mn (And.intro hbl p1)))))))))))))))))))
      refine Ans.go ?_
      clear fx
      refine Ans.nextN ?_
      refine (ih (f + 1) _ H3 _ ⟨S.X.set (7 * U + J) W, S.K.set (4 * U + J) true, S.Q ++ [4 * U + J], min S.m W⟩ (B + 1000000) (by omega) (by omega) (by rw [low rb hrb, kH2]) (by rw [low kb hkb, fH2 kb (Ne.symm hne), kK1]) (by rw [List.length_append]; exact p2.mono (by omega)) pu (by omega) (by omega)).mono fun r p => p.mono (by omega) (fun b h1 h2 h3 => by rw [low b h1, fH2 b h2, fH1 b h3, fH b (by omega)])
    · rw [if_neg hk]
      have hk' : S.K.getD (4 * U + J) false = true := by simpa using hk
      rw [hk'] at l3
      by_cases hz : Z = W
      · rw [if_neg (fun q => q.2 hz)]
        refine Ans.loop' (fun q r => f57_N57003) (fun q => f57_Z57003) ?_
        unfold f57_L57003
        have fx := And.intro x1 (And.intro hst (And.intro hH (And.intro b0 (And.intro b1 (And.intro b2 (And.intro ca (And.intro callF_types (And.intro x3 (And.intro x4 (And.intro tz1 (And.intro tz2 (And.intro tz3 (And.intro l2 (And.intro l3 (And.intro l4 hwe)))))))))))))))
        refine Ans.go ?_
        clear fx
        refine Ans.nextN ?_
        refine (ih (f + 1) _ H t14 S B (by omega) (by omega) kH kK (aH.mono (by omega)) hS hB (by omega)).mono fun r p => p.mono (by omega) (fun b h1 h2 h3 => fH b (by omega))
      · rw [if_pos ⟨rfl, hz⟩]
        refine Ans.loop' (fun q r => f57_N57003) (fun q => f57_Z57003) ?_
        unfold f57_L57003
        have fx := And.intro x1 (And.intro hst (And.intro hH (And.intro b0 (And.intro b1 (And.intro b2 (And.intro ca (And.intro callF_types (And.intro x3 (And.intro x4 (And.intro tz1 (And.intro tz2 (And.intro tz3 (And.intro l2 (And.intro l3 (And.intro l4 hwe)))))))))))))))
        refine Ans.go ?_
        clear fx
        exact Ans.retN ⟨(by show cc ≤ cc + 1 + 1 + 1 + 1 + 1 + 1 + 1 + 1; omega), rfl, fun b h1 h2 h3 => fH b (by omega), rfl, rfl, rfl⟩
end Go.Proofs.Ytcnndelmnobigaa

namespace Go.Proofs.Ytcnndelmnobigaa
open Go Go.Ab Go.Proofs
set_option maxRecDepth 100000
set_option linter.unusedVariables false
set_option linter.unusedSimpArgs false
def FqP (rb kb c1 cc : Nat) (h : FH) (df : List Nat) (vs : Value → Int → Nat → List Value) (o : Option FSt) (r : Rt FH) : Prop :=
  cc ≤ r.c ∧ r.df = df ∧ (∀ b, b < 256 * c1 → b ≠ rb → b ≠ kb → r.h.f b = h.f b) ∧ match o with
    | some S => r.e = .exit 4 ∧ ∃ v j, r.vs = vs v S.m j ∧ r.h.f rb = some (.cells false none (ints S.X)) ∧ r.h.f kb = some (.cells false none (bools S.K)) ∧ AppG c1 r.h r.c v S.Q.length (ints (zs S.Q))
    | none => r.e = .ret ∧ r.v 1 = .slice none 0 0 ∧ r.v 2 = .bool false
theorem FqP.mono {rb kb c1 cc cc' : Nat} {h h' : FH} {df : List Nat} {vs : Value → Int → Nat → List Value} {o : Option FSt} {r : Rt FH} (p : FqP rb kb c1 cc' h' df vs o r) (hc : cc ≤ cc') (hh : ∀ b, b < 256 * c1 → b ≠ rb → b ≠ kb → h'.f b = h.f b) : FqP rb kb c1 cc h df vs o r :=
  ⟨Nat.le_trans hc p.1, p.2.1, fun b h1 h2 h3 => (p.2.2.1 b h1 h2 h3).trans (hh b h1 h2 h3), p.2.2.2⟩
set_option maxHeartbeats 2000000 in
theorem fq_loop (s : Value) (n : Nat) (Gl : List Int) (gb rb kb c1 : Nat) (t4 t5 t62 t63 t64 : Value) (df : List Nat) (hn : n ≤ 60) (hok : okAll Gl n = true) (hgb : gb < 256 * c1) (hrb : rb < 256 * c1) (hkb : kb < 256 * c1) (hne : rb ≠ kb) (hg1 : gb ≠ rb) (hg2 : gb ≠ kb) (hsb : 0 < n → blkOf s ≠ rb ∧ blkOf s ≠ kb) :
    ∀ (r k cc : Nat) (h : FH) (t14 : Value) (S : FSt) (B : Int), 4 * n ≤ r + k → k ≤ 4 * n → c1 ≤ cc → Holds h gb [s] → SlI h c1 s 20 n Gl → h.f rb = some (.cells false none (ints S.X)) → h.f kb = some (.cells false none (bools S.K)) → AppG c1 h cc t14 S.Q.length (ints (zs S.Q)) → FOk n S B → 0 ≤ B → B + r * 4000000 ≤ 50000000000000000 →
    Ans (G (f57_k57002 none) [ptrTo gb, t4, t5, .slice (some ⟨rb, 0, none⟩) (7 * n) (7 * n), .slice (some ⟨kb, 0, none⟩) (4 * n) (4 * n), t14, .int .i64 S.m, .int .i64 k, t62, t63, t64] h cc df)
      (FqP rb kb c1 cc h df (fun v m j => [ptrTo gb, t4, t5, .slice (some ⟨rb, 0, none⟩) (7 * n) (7 * n), .slice (some ⟨kb, 0, none⟩) (4 * n) (4 * n), v, .int .i64 m, .int .i64 j, t62, t63, t64]) (fQ Gl true r k S)) := by
  intro r
  have stop : ∀ (r k cc : Nat) (h : FH) (t14 : Value) (S : FSt) (B : Int), ¬ k < S.Q.length → k ≤ 4 * n → c1 ≤ cc → h.f rb = some (.cells false none (ints S.X)) → h.f kb = some (.cells false none (bools S.K)) → AppG c1 h cc t14 S.Q.length (ints (zs S.Q)) → FOk n S B →
      Ans (G (f57_k57002 none) [ptrTo gb, t4, t5, .slice (some ⟨rb, 0, none⟩) (7 * n) (7 * n), .slice (some ⟨kb, 0, none⟩) (4 * n) (4 * n), t14, .int .i64 S.m, .int .i64 k, t62, t63, t64] h cc df)
      (FqP rb kb c1 cc h df (fun v m j => [ptrTo gb, t4, t5, .slice (some ⟨rb, 0, none⟩) (7 * n) (7 * n), .slice (some ⟨kb, 0, none⟩) (4 * n) (4 * n), v, .int .i64 m, .int .i64 j, t62, t63, t64]) (some S)) := by
    intro r k cc h t14 S B hk hk4 hc e1 e2 ha hS
    have ll := ha.sl.len
    have hql := hS.ql
    refine Ans.loop' (fun q r => f57_N57002) (fun q => f57_Z57002) ?_
    unfold f57_L57002
    have fx := ll
    refine Ans.go ?_
    clear fx
    exact Ans.exitN ⟨(by show cc ≤ cc + 1; omega), rfl, fun _ _ _ _ => rfl, rfl, t14, k, rfl, e1, e2, ha.mono (by show cc ≤ cc + 1; omega)⟩
  induction r with
  | zero =>
    intro k cc h t14 S B hr hk hc hg hs e1 e2 ha hS hB hB2
    have hql := hS.ql
    exact stop 0 k cc h t14 S B (by omega) hk hc e1 e2 ha hS
  | succ r ih =>
    intro k cc h t14 S B hr hk hc hg hs e1 e2 ha hS hB hB2
    rw [fQ]
    by_cases hkq : k < S.Q.length
    case neg => rw [if_neg hkq]; exact stop (r + 1) k cc h t14 S B hkq hk hc e1 e2 ha hS
    rw [if_pos hkq]
    have hql := hS.ql
    have hm : S.Q.getD k 0 ∈ S.Q := by simp [List.getD_eq_getElem?_getD, List.getElem?_eq_getElem hkq]
    have hw := (hS.qk _ hm).1
    have sl := ha.sl
    have ll := sl.len
    have l1 := sl.rdi (k : Int) (by omega) (by omega)
    rw [gi_nat, zs_getD, Int.toNat_natCast] at l1
    have lg : ld1 h (.pointer (some ⟨gb, 0, none⟩)) = some s := by rw [ld1_holds' hg]; rfl
    obtain ⟨w, hw'⟩ : ∃ w, S.Q.getD k 0 = w := ⟨_, rfl⟩
    rw [hw'] at l1 hw ⊢
    have q1 := quo_nat w 4 (by omega) (by omega)
    have q2 := rem_nat w 4 (by omega)
    simp only [Int.ofNat_eq_natCast, Int.cast_ofNat_Int] at q1 q2
    have d1 : w / 4 < n := by omega
    have d2 : w % 4 < 4 := by omega
    obtain ⟨T, hT⟩ : ∃ T, w / 4 = T := ⟨_, rfl⟩
    obtain ⟨E, hE⟩ : ∃ E, w % 4 = E := ⟨_, rfl⟩
    rw [hT] at q1 d1 ⊢
    rw [hE] at q2 d2 ⊢
    have l5 := hs.row (T : Int) (by omega) (by omega)
    rw [Int.toNat_natCast] at l5
    obtain ⟨⟨re, rv, rh, rc, rd⟩, hfc, p1, p2, p3, p4⟩ := fc_loop n Gl rb kb c1 (ptrTo gb) t4 t5 (.int .i64 k) t62 t63 t64 T E df hn hok hs.1 hrb hkb hne d1 d2 4 0 (cc + 1 + 1 + 1) h t14 S B (by omega) (by omega) e1 e2 (ha.mono (by omega)) hS hB (by omega)
    simp only [Int.ofNat_eq_natCast, Int.cast_ofNat_Int] at hfc
    simp only at p1 p2 p3
    subst p2
    have hsx := hs.ixs
    cases hF : fFaces Gl true T E 4 0 S with
    | none =>
      rw [hF] at p4
      obtain ⟨p4, p5, p6⟩ := p4
      simp only at p4
      subst p4
      refine Ans.loop' (fun q r => f57_N57002) (fun q => f57_Z57002) ?_
      unfold f57_L57002
      have fx := And.intro ll (And.intro sl.ixs1 (And.intro l1 (And.intro q1 (And.intro q2 (And.intro lg (And.intro hsx (And.intro l5 hfc)))))))
      refine Ans.go ?_
      clear fx
      exact Ans.retN ⟨(by show cc ≤ rc; omega), rfl, p3, rfl, p5, p6⟩
    | some S1 =>
      rw [hF] at p4
      obtain ⟨p4, v, p5, p6, p7, p8⟩ := p4
      simp only at p4 p5 p6 p7 p8
      subst p4 p5
      have o1 := fFaces_ok hok hs.1 d1 d2 (by omega) hS hB hF
      refine Ans.loop' (fun q r => f57_N57002) (fun q => f57_Z57002) ?_
      unfold f57_L57002
      have fx := And.intro ll (And.intro sl.ixs1 (And.intro l1 (And.intro q1 (And.intro q2 (And.intro lg (And.intro hsx (And.intro l5 hfc)))))))
      refine Ans.go ?_
      clear fx
      refine Ans.nextN ?_
      refine (ih (k + 1) (rc + 1) rh v S1 (B + 4 * 1000000) (by omega) (by omega) (by omega) (hg.eqf (p3 gb hgb hg1 hg2)) (hs.keep fun hp => p3 _ (hs.blk hp) (hsb hp).1 (hsb hp).2) p6 p7 (p8.mono (by omega)) o1 (by omega) (by omega)).mono fun r p => p.mono (by omega) p3
set_option maxHeartbeats 1000000 in
theorem fs_loop (h0 : FH) (n : Nat) (rb c : Nat) (t2 t4 t5 t11 t62 t63 t64 v : Value) (Q : List Nat) (m B : Int) (df : List Nat) (hn : n ≤ 60) (hrb : rb < 256 * c) (hv : SlI h0 c v 1 Q.length (zs Q)) (hvb : blkOf v ≠ rb) (o2 : OkV c t2) (o4 : OkV c t4) (o5 : OkV c t5) (o11 : OkV c t11) (o62 : OkV c t62) (o63 : OkV c t63) (o64 : OkV c t64)
    (nd : Q.Nodup) (hq : ∀ w ∈ Q, w < 4 * n) (hl : Q.length ≤ 4 * n) (hm : -B ≤ m ∧ m ≤ B) (hB : B ≤ 1000000000000000000) :
    ∀ (r k : Nat) (X : List Int), k + r = Q.length → X.length = 7 * n → (∀ w, w ∈ Q.drop k → -B ≤ X.getD (ps w) 0 ∧ X.getD (ps w) 0 ≤ B) →
    Ans (G (f57_k57004 none) [t2, t4, t5, .slice (some ⟨rb, 0, none⟩) (7 * n) (7 * n), t11, .int .i64 m, t62, t63, t64, v, .int .i64 Q.length, .int .i64 k] (HeapC.set h0 rb (.cells false none (ints X))) c df)
      fun q => q = { e := .exit 9, vs := [t2, t4, t5, .slice (some ⟨rb, 0, none⟩) (7 * n) (7 * n), t11, .int .i64 m, t62, t63, t64, v, .int .i64 Q.length, .int .i64 Q.length], h := HeapC.set h0 rb (.cells false none (ints (subQ m (Q.drop k) X))), c := c, df := df } := by
  intro r
  induction r with
  | zero =>
    intro k X hk hX hb
    obtain rfl : k = Q.length := by omega
    have ov := hv.okV
    rw [List.drop_length, subQ]
    refine Ans.loop (fun q r => f57_N57004) (fun q => f57_Z57004) ?_
    unfold f57_L57004
    have fx := True.intro
    refine Ans.go ?_
    clear fx
    (have fx := And.intro o2 (And.intro o4 (And.intro o5 (And.intro o11 (And.intro o62 (And.intro o63 (And.intro o64 (And.intro hrb ov))))))); refine Ans.ex0 ?_; clear fx)
    rfl
  | succ r ih =>
    intro k X hk hX hb
    have ov := hv.okV
    have hkq : k < Q.length := by omega
    obtain ⟨H, hH⟩ : ∃ H, HeapC.set h0 rb (.cells false none (ints X)) = H := ⟨_, rfl⟩
    have fH : H.f rb = some (.cells false none (ints X)) := by rw [← hH, set_f, if_pos rfl]
    have hv' : SlI H c v 1 Q.length (zs Q) := hv.keep fun _ => by rw [← hH, set_f, if_neg hvb]
    have l1 := hv'.rdi (k : Int) (by omega) (by omega)
    rw [gi_nat, zs_getD, Int.toNat_natCast] at l1
    have hd : Q.drop k = Q.getD k 0 :: Q.drop (k + 1) := by rw [List.drop_eq_getElem_cons hkq]; simp [List.getD_eq_getElem?_getD, List.getElem?_eq_getElem hkq]
    have nd' : (Q.drop k).Nodup := (List.drop_sublist k Q).nodup nd
    rw [hd] at nd' hb ⊢
    rw [List.nodup_cons] at nd'
    have hw := hq (Q.getD k 0) (by simp [List.getD_eq_getElem?_getD, List.getElem?_eq_getElem hkq])
    obtain ⟨w, hw'⟩ : ∃ w, Q.getD k 0 = w := ⟨_, rfl⟩
    rw [hw'] at l1 hw nd' hb ⊢
    rw [subQ]
    have q1 := quo_nat w 4 (by omega) (by omega)
    have q2 := rem_nat w 4 (by omega)
    simp only [Int.ofNat_eq_natCast, Int.cast_ofNat_Int] at q1 q2
    have d1 : w / 4 < n := by omega
    have d2 : w % 4 < 4 := by omega
    have bw := hb w (by simp)
    have hnx : ∀ x, x ∈ Q.drop (k + 1) → -B ≤ (X.set (ps w) (X.getD (ps w) 0 - m)).getD (ps x) 0 ∧ (X.set (ps w) (X.getD (ps w) 0 - m)).getD (ps x) 0 ≤ B := fun x hx => by
      rw [getD_set, if_neg (fun q => nd'.1 (by rw [ps_inj q.1]; exact hx))]
      exact hb x (by simp [hx])
    have hps : ps w = w / 4 * 7 + w % 4 := rfl
    obtain ⟨T, hT⟩ : ∃ T, w / 4 = T := ⟨_, rfl⟩
    obtain ⟨E, hE⟩ : ∃ E, w % 4 = E := ⟨_, rfl⟩
    rw [hT] at q1 d1 hps
    rw [hE] at q2 d2 hps
    rw [hps] at bw hnx ⊢
    have e7 : ((T : Int) * 7 + E).toNat = T * 7 + E := by omega
    have l2 : ld1 H (.pointer (some ⟨rb, T * 7 + E, none⟩)) = some (.int .i64 (X.getD (T * 7 + E) 0)) := by
      rw [ld1_holds' ⟨false, none, fH⟩, ints_getD _ _ (by omega)]
    have hw2 : ∀ y : Int, stN H 1 (.pointer (some ⟨rb, T * 7 + E, none⟩)) (.int .i64 y) = some (HeapC.set H rb (.cells false none (ints (X.set (T * 7 + E) y)))) := fun y => by
      rw [st1_get (show HeapC.get H rb = _ from fH) (by simp; omega) rfl rfl, ints_set]
    obtain ⟨Y, hY⟩ : ∃ Y, X.getD (T * 7 + E) 0 = Y := ⟨_, rfl⟩
    rw [hY] at l2 bw hnx ⊢
    have hkl : (k : Int) < Q.length := by omega
    rw [hH]
    refine Ans.loop (fun q r => f57_N57004) (fun q => f57_Z57004) ?_
    unfold f57_L57004
    have fx := And.intro hv'.ixs1 (And.intro l1 (And.intro q1 (And.intro q2 (And.intro e7 (And.intro l2 hw2)))))
    refine Ans.go ?_
    clear fx
    (have fx := And.intro o2 (And.intro o4 (And.intro o5 (And.intro o11 (And.intro o62 (And.intro o63 (And.intro o64 (And.intro hrb ov))))))); refine Ans.nxB (B := HeapC.set H rb (.cells false none (ints (X.set (T * 7 + E) (Y - m))))) ?_ ?_; exact Upto.set hrb (OkVs.ints _ _) (Upto.refl _ _); clear fx)
    rw [← hH, set_set]
    exact ih (k + 1) _ (by omega) (by simp [hX]) hnx
end Go.Proofs.Ytcnndelmnobigaa

namespace Go.Proofs.Ytcnndelmnobigaa
open Go Go.Ab Go.Proofs
set_option maxRecDepth 100000
set_option linter.unusedVariables false
set_option linter.unusedSimpArgs false
theorem et34 : elemT P 34 = some 3 := by kernel_rfl
theorem st3 : sizeT P 3 = some 1 := by kernel_rfl
theorem SlX.keepB {h h' : FH} {c : Nat} {s : Value} {sz n : Nat} {L : List Int} (hs : SlI h c s sz n L) (hn : 0 < n) (hh : h'.f (blkOf s) = h.f (blkOf s)) (hx : SlX h s sz n) : SlX h' s sz n := by
  obtain ⟨g1, g2, a, cap, rfl, h4⟩ := hs
  rcases h4 with ⟨e, hv⟩ | ⟨b, o, cs, rfl, e2, e3, e4⟩
  · omega
  · obtain ⟨x1, x2⟩ := hx
    refine ⟨x1, ?_⟩
    have hb : HeapC.get h' b = HeapC.get h b := hh
    simpa only [adrOf, szOk, hb] using x2
theorem slS_from {h : FH} {rb n : Nat} {op : Option Nat} {cs : List Value} (e : h.f rb = some (.cells false none cs)) (k : IntKind) (lo : Int) (h1 : 0 ≤ lo) (h2 : lo ≤ n) :
    slS h 1 (.slice (some ⟨rb, 0, none⟩) n n) (some (.int k lo)) none none = some (.slice (some ⟨rb, 0 + lo.toNat * 1, none⟩) (n - lo.toNat) (n - lo.toNat)) := by
  have hg : HeapC.get h rb = some (.cells false none cs) := e
  have q0 : Nat.ble n n = true := Nat.ble_eq_true_of_le (Nat.le_refl _)
  simp only [slS, szOk, hg, cond_true, bnds, bndO, q0, Option.bind_some, bnd, decide_eq_true h1, decide_eq_true h2, Bool.and_self, Option.isSome_none, Bool.false_and, cond_false, slOf]
theorem copy3 {h : FH} {c id i o dl dc : Nat} {src : Value} {X L : List Int} (hs : SlI h c src 1 3 L) (hg : h.f i = some (.cells false none (ints X))) (hd : 3 ≤ dl) (ho : o + 3 ≤ X.length) :
    aBuiltin P h id .copy [34, 34] [.slice (some ⟨i, o, none⟩) dl dc, src] = some (.int .i64 3, HeapC.set h i (.cells false none (ints (X.take o ++ L ++ X.drop (o + 3))))) := by
  have sc := hs.slc (by omega) (by omega)
  have hL : L.length = 3 := hs.1
  obtain ⟨g1, g2, a, cap, rfl, h4⟩ := hs
  have hg' : HeapC.get h i = some (.cells false none (ints X)) := hg
  have hm : Nat.min 3 dl = 3 := Nat.min_eq_left hd
  have hb : Nat.ble (o + (ints L).length) (ints X).length = true := Nat.ble_eq_true_of_le (by simp [hL]; omega)
  unfold SlC at sc
  simp only [aBuiltin, aCopy, et34, st3, Option.bind_some, hm, sc, wrCells, hg', hb, ints_flat, Bool.and_self, cond_true, splice_ints, hL]
  rfl
theorem cp_loop (h0 : FH) (q : Value) (n : Nat) (Qd : List Int) (rb c gb : Nat) (t6 t33 : Value) (df : List Nat) (hn : n ≤ 60) (hq : SlI h0 c q 1 (3 * n) Qd) (hx : SlX h0 q 1 (3 * n)) (hqb : 0 < n → blkOf q ≠ rb) (hrb : rb < 256 * c) (hgb : gb < 256 * c) (o6 : OkV c t6) (hd : t33 = .int .i64 n) :
    ∀ (k t : Nat) (X : List Int), t + k = n → X.length = 7 * n →
    Ans (G (f57_k57000 none) [q, ptrTo gb, .slice none 0 0, .bool false, t6, .slice (some ⟨rb, 0, none⟩) (7 * n) (7 * n), t33, .int .i64 t] (HeapC.set h0 rb (.cells false none (ints X))) c df)
      fun r => r = { e := .exit 0, vs := [q, ptrTo gb, .slice none 0 0, .bool false, t6, .slice (some ⟨rb, 0, none⟩) (7 * n) (7 * n), t33, .int .i64 n], h := HeapC.set h0 rb (.cells false none (ints (pqK Qd k t X))), c := c, df := df } := by
  intro k
  have oq := hq.okV
  subst hd
  induction k with
  | zero =>
    intro t X ht hX
    obtain rfl : t = n := by omega
    refine Ans.loop (fun q r => f57_N57000) (fun q => f57_Z57000) ?_
    unfold f57_L57000
    have fx := True.intro
    refine Ans.go ?_
    clear fx
    (have fx := And.intro oq (And.intro o6 (And.intro hrb hgb)); refine Ans.ex0 ?_; clear fx)
    rfl
  | succ k ih =>
    intro t X ht hX
    obtain ⟨H, hH⟩ : ∃ H, HeapC.set h0 rb (.cells false none (ints X)) = H := ⟨_, rfl⟩
    have fH : H.f rb = some (.cells false none (ints X)) := by rw [← hH, set_f, if_pos rfl]
    have nH : ∀ b, b ≠ rb → H.f b = h0.f b := fun b hb => by rw [← hH, set_f, if_neg hb]
    have hq' : SlI H c q 1 (3 * n) Qd := hq.keep fun _ => nH _ (hqb (by omega))
    have hx' := SlX.keepB hq (by omega) (nH _ (hqb (by omega))) hx
    have s1 := slS_from (n := 7 * n) (op := none) fH .i64 (7 * (t : Int) + 4) (by omega) (by omega)
    have s2 := SlX.sub hq' hx' .i64 .i64 (3 * (t : Int)) (3 * (t : Int) + 3) (by omega) (by omega) (by omega) (by omega)
    rw [show (7 * (t : Int) + 4).toNat = 7 * t + 4 by omega, Nat.mul_one, Nat.zero_add] at s1
    rw [show (3 * (t : Int)).toNat = 3 * t by omega, show (3 * (t : Int) + 3).toNat = 3 * t + 3 by omega] at s2
    have s3 := hq'.sub (3 * t) (3 * t + 3) (by omega) (by omega) (by omega)
    simp only [Nat.mul_one] at s3
    rw [show (3 * t + 3 - 3 * t) = 3 by omega] at s3
    have hcp := fun id => copy3 (id := id) (dl := 7 * n - (7 * t + 4)) (dc := 7 * n - (7 * t + 4)) s3 fH (by omega) (show 7 * t + 4 + 3 ≤ X.length by omega)
    rw [show X.take (7 * t + 4) ++ (Qd.drop (3 * t)).take 3 ++ X.drop (7 * t + 4 + 3) = pq Qd t X from rfl] at hcp
    have hpl := pq_length (n := n) (t := t) (hq.1.trans (Nat.mul_one _)) hX (by omega)
    rw [hH, pqK]
    refine Ans.loop (fun q r => f57_N57000) (fun q => f57_Z57000) ?_
    unfold f57_L57000
    have fx := And.intro s1 (And.intro s2 hcp)
    refine Ans.go ?_
    clear fx
    (have fx := And.intro oq (And.intro o6 (And.intro hrb hgb)); refine Ans.nxB (B := HeapC.set H rb (.cells false none (ints (pq Qd t X)))) ?_ ?_; exact Upto.set hrb (OkVs.ints _ _) (Upto.refl _ _); clear fx)
    rw [← hH, set_set]
    exact ih (t + 1) _ (by omega) hpl
def FaP (rb kb c0 cc : Nat) (h : FH) (df : List Nat) (n : Nat) (o : Option (List Int)) (r : Rt FH) : Prop :=
  cc ≤ r.c ∧ r.df = df ∧ (∀ b, b < 256 * c0 → b ≠ rb → b ≠ kb → r.h.f b = h.f b) ∧ match o with
    | some X => r.e = .exit 2 ∧ r.v 3 = .slice (some ⟨rb, 0, none⟩) (7 * n) (7 * n) ∧ r.h.f rb = some (.cells false none (ints X)) ∧ X.length = 7 * n
    | none => r.e = .ret ∧ r.v 1 = .slice none 0 0 ∧ r.v 2 = .bool false
theorem FaP.mono {rb kb c1 cc cc' : Nat} {h h' : FH} {df : List Nat} {n : Nat} {o : Option (List Int)} {r : Rt FH} (p : FaP rb kb c1 cc' h' df n o r) (hc : cc ≤ cc') (hh : ∀ b, b < 256 * c1 → b ≠ rb → b ≠ kb → h'.f b = h.f b) : FaP rb kb c1 cc h df n o r :=
  ⟨Nat.le_trans hc p.1, p.2.1, fun b h1 h2 h3 => (p.2.2.1 b h1 h2 h3).trans (hh b h1 h2 h3), p.2.2.2⟩
theorem pow_step {B : Int} {k : Nat} (hB : 0 ≤ B) (h : (B + 200000000) * 2 ^ (k + 1) ≤ 6000000000000000) : (2 * (B + 100000000) + 200000000) * 2 ^ k ≤ 6000000000000000 ∧ B ≤ 6000000000000000 := by
  have e : (2 * (B + 100000000) + 200000000) * 2 ^ k = (B + 200000000) * 2 ^ (k + 1) := by
    rw [Int.pow_succ, Int.mul_comm (2 ^ k) 2, ← Int.mul_assoc]
    congr 1; omega
  have h1 : (0 : Int) < 2 ^ (k + 1) := Int.pow_pos (by omega)
  have h2 : (B + 200000000) * 1 ≤ (B + 200000000) * 2 ^ (k + 1) := Int.mul_le_mul_of_nonneg_left (by omega) (by omega)
  exact ⟨by omega, by omega⟩
set_option maxHeartbeats 2000000 in
theorem fa_loop (s : Value) (n : Nat) (Gl : List Int) (gb rb kb c0 : Nat) (F : Value) (m : Nat) (Fl : List Int) (df : List Nat) (hn : n ≤ 6) (hok : okAll Gl n = true) (hgb : gb < 256 * c0) (hrb : rb < 256 * c0) (hkb : kb < 256 * c0) (hne : rb ≠ kb) (hg1 : gb ≠ rb) (hg2 : gb ≠ kb) (hsb : 0 < n → blkOf s ≠ rb ∧ blkOf s ≠ kb)
    (hF : ∀ x, x ∈ Fl → ∃ k : Nat, x = k ∧ k < 4 * n) (hFb : 0 < m → blkOf F ≠ rb ∧ blkOf F ≠ kb) (hm : m ≤ 240) :
    ∀ (k i cc : Nat) (h : FH) (X : List Int) (K : List Bool) (B : Int), i + k = m → c0 ≤ cc → Holds h gb [s] → SlI h c0 s 20 n Gl → SlI h c0 F 1 m Fl → h.f rb = some (.cells false none (ints X)) → h.f kb = some (.cells false none (bools K)) → X.length = 7 * n → K.length = 4 * n → (∀ j : Nat, -B ≤ X.getD j 0 ∧ X.getD j 0 ≤ B) →
      (∀ t k : Nat, k < 3 → 0 ≤ X.getD (7 * t + 4 + k) 0 ∧ X.getD (7 * t + 4 + k) 0 ≤ 1000000) → 0 ≤ B → (B + 200000000) * 2 ^ k ≤ 6000000000000000 →
    Ans (G (f57_k57001 none) [ptrTo gb, .slice none 0 0, .bool false, .slice (some ⟨rb, 0, none⟩) (7 * n) (7 * n), .slice (some ⟨kb, 0, none⟩) (4 * n) (4 * n), F, .int .i64 m, .int .i64 i] h cc df) (FaP rb kb c0 cc h df n (fAll Gl true n (Fl.drop i) X K)) := by
  intro k
  induction k with
  | zero =>
    intro i cc h X K B hi hc hg hs sf e1 e2 hX hK xb qd hB hp
    obtain rfl : i = m := by omega
    have e : Fl.drop i = [] := List.drop_of_length_le (by have := sf.1; omega)
    rw [e]
    refine Ans.loop' (fun q r => f57_N57001) (fun q => f57_Z57001) ?_
    unfold f57_L57001
    have fx := True.intro
    refine Ans.go ?_
    clear fx
    exact Ans.exitN ⟨(by show cc ≤ cc + 1; omega), rfl, fun _ _ _ _ => rfl, rfl, rfl, e1, hX⟩
  | succ k ih =>
    intro i cc h X K B hi hc hg hs sf e1 e2 hX hK xb qd hB hp
    obtain ⟨hp1, hp2⟩ := pow_step hB hp
    have hFl := sf.1
    have l1 := sf.rdi i (by omega) (by omega)
    simp only [Int.toNat_natCast] at l1
    rw [gi_nat] at l1
    have hLi : Fl.getD i 0 = Fl[i]'(by omega) := by simp [List.getD_eq_getElem?_getD, List.getElem?_eq_getElem (by omega : i < Fl.length)]
    obtain ⟨x, hx, hx6⟩ := hF (Fl[i]'(by omega)) (List.getElem_mem _)
    rw [hLi, hx] at l1
    have hdr : Fl.drop i = (x : Int) :: Fl.drop (i + 1) := by rw [List.drop_eq_getElem_cons (by omega), hx]
    rw [hdr, fAll, fClass, Int.toNat_natCast]
    obtain ⟨H1, hH1⟩ : ∃ H1, HeapC.set h kb (.cells false none (bools (K.set x true))) = H1 := ⟨_, rfl⟩
    have w1 : stN h 1 (.pointer (some ⟨kb, x, none⟩)) (.bool true) = some H1 := by
      rw [st1_get (show HeapC.get h kb = _ from e2) (by simp [bools]; omega) rfl rfl, bools_set, hH1]
    obtain ⟨lb, hlb⟩ : ∃ lb, 256 * (cc + 1 + 1 + 1) + 1 = lb := ⟨_, rfl⟩
    obtain ⟨H2, hH2⟩ : ∃ H2, newB H1 lb [.int .i64 x] = H2 := ⟨_, rfl⟩
    have f1 : ∀ b, b ≠ kb → b ≠ lb → H2.f b = h.f b := fun b h1 h2 => by rw [← hH2, newB_f, if_neg h2, ← hH1, set_f, if_neg h1]
    have fk : H2.f kb = some (.cells false none (bools (K.set x true))) := by rw [← hH2, newB_f, if_neg (by omega), ← hH1, set_f, if_pos rfl]
    have fl : H2.f lb = some (.cells false none [.int .i64 x]) := by rw [← hH2, newB_f, if_pos rfl]
    have hbl : bldL [.int .i64 0] [(0, 1, .int .i64 (x : Int))] = some [.int .i64 x] := rfl
    have ag : AppG cc H2 (cc + 1 + 1 + 1 + 1 + 1 + 1) (.slice (some ⟨lb, 0, none⟩) 1 1) 1 (ints (zs [x])) := ⟨rfl, by omega, rfl, lb, none, rfl, by omega, by omega, fl, .inl rfl⟩
    have ok0 := FOk.start (first := x) hX hK hx6 hB xb qd
    have fF : 0 < m → H2.f (blkOf F) = h.f (blkOf F) := fun hp => f1 _ (hFb hp).2 (by have := sf.blk hp; omega)
    obtain ⟨⟨re, rv, rh, rc, rd⟩, hr, p1, p2, p3, p4⟩ := fq_loop s n Gl gb rb kb cc (.slice none 0 0) (.bool false) F (.int .i64 m) (.int .i64 i) df (by omega) hok (by omega) (by omega) (by omega) hne hg1 hg2 hsb (4 * n) 0 (cc + 1 + 1 + 1 + 1 + 1 + 1) H2 (.slice (some ⟨lb, 0, none⟩) 1 1) ⟨X, K.set x true, [x], 0⟩ B (by omega) (by omega) (by omega) (hg.eqf (f1 gb hg2 (by omega))) ((hs.keep fun hp => f1 _ (hsb hp).2 (by have := hs.blk hp; omega)).mono hc) (by rw [f1 rb hne (by omega), e1]) fk ag ok0 hB (by omega)
    simp only [Int.ofNat_eq_natCast, Int.cast_ofNat_Int] at hr
    simp only at p1 p2 p3
    subst p2
    cases hQ : fQ Gl true (4 * n) 0 ⟨X, K.set x true, [x], 0⟩ with
    | none =>
      rw [hQ] at p4
      obtain ⟨p4, p5, p6⟩ := p4
      simp only at p4
      subst p4
      refine Ans.loop' (fun q r => f57_N57001) (fun q => f57_Z57001) ?_
      unfold f57_L57001
      have fx := And.intro sf.ixs1 (And.intro l1 (And.intro w1 (And.intro hlb (And.intro hbl (And.intro hH2 hr)))))
      refine Ans.go ?_
      clear fx
      exact Ans.retN ⟨(by show cc ≤ rc; omega), rfl, fun b h1 h2 h3 => by
        show rh.f b = h.f b
        rw [p3 b (by omega) h2 h3, f1 b h3 (by omega)], rfl, p5, p6⟩
    | some S1 =>
      rw [hQ] at p4
      obtain ⟨p4, v, j, p5, p6, p7, p8⟩ := p4
      simp only at p4 p5 p6 p7 p8
      subst p4 p5
      have o1 := (fQ_ok hok hs.1 ok0 hB hQ).mono (B' := B + 100000000) (by omega)
      have bv := p8.blk
      have lv := p8.sl.len
      have hself : HeapC.set rh rb (.cells false none (ints S1.X)) = rh := by
        apply FH.ext; intro b
        rw [set_f]
        split
        · rename_i e; rw [e, p6]
        · rfl
      have hfs := Ans.eq (fs_loop rh n rb (rc + 1) (ptrTo gb) (.slice none 0 0) (.bool false) (.slice (some ⟨kb, 0, none⟩) (4 * n) (4 * n)) F (.int .i64 m) (.int .i64 i) v S1.Q S1.m (B + 100000000) rd (by omega) (by omega) (p8.sl.mono (by omega)) (by omega) (OkV.ptrTo (by omega)) (by simp) (by simp) (OkV.sl (by omega)) ((sf.mono (by omega)).okV) (by simp) (by simp) o1.nd (fun w hw => (o1.qk w hw).1) o1.ql ⟨o1.mb.1, by have := o1.mb.2; omega⟩ (by omega) S1.Q.length 0 S1.X (by omega) o1.xl (fun w _ => o1.xb _))
      rw [hself, List.drop_zero] at hfs
      simp only [Int.ofNat_eq_natCast, Int.cast_ofNat_Int] at hfs
      have fin : ∀ b, b < 256 * c0 → b ≠ rb → b ≠ kb → (HeapC.set rh rb (.cells false none (ints (subQ S1.m S1.Q S1.X)))).f b = h.f b := fun b h1 h2 h3 => by
        rw [set_f, if_neg h2, p3 b (by omega) h2 h3, f1 b h3 (by omega)]
      refine Ans.loop' (fun q r => f57_N57001) (fun q => f57_Z57001) ?_
      unfold f57_L57001
      have fx := And.intro sf.ixs1 (And.intro l1 (And.intro w1 (And.intro hlb (And.intro hbl (And.intro hH2 (And.intro hr (And.intro lv hfs)))))))
      refine Ans.go ?_
      clear fx
      refine Ans.nextN ?_
      refine (ih (i + 1) (rc + 1 + 1) _ (subQ S1.m S1.Q S1.X) S1.K (2 * (B + 100000000)) (by omega) (by omega) (hg.eqf (fin gb hgb hg1 hg2)) (hs.keep fun hp => fin _ (hs.blk hp) (hsb hp).1 (hsb hp).2) (sf.keep fun hp => fin _ (sf.blk hp) (hFb hp).1 (hFb hp).2) (by rw [set_f, if_pos rfl]) (by rw [set_f, if_neg (Ne.symm hne), p7]) (by rw [subQ_length]; exact o1.xl) o1.kl (fun j => subQ_bound o1 j) (fun t k hk => by rw [subQ_quad o1 t k hk]; exact o1.qd t k hk) (by omega) hp1).mono fun r p => p.mono (by omega) fin
end Go.Proofs.Ytcnndelmnobigaa

namespace Go.Proofs.Ytcnndelmnobigaa
open Go Go.Ab Go.Proofs
set_option maxRecDepth 100000
set_option linter.unusedVariables false
set_option linter.unusedSimpArgs false
def fill0 (Qd : List Int) (n : Nat) : List Int := pqK Qd n 0 (List.replicate (7 * n) 0)
def fillX (Gl : List Int) (n : Nat) (Qd : List Int) : Option (List Int) := fAll Gl true n (vxF Gl n) (fill0 Qd n) (List.replicate (4 * n) false)
theorem rep_getD (n j : Nat) : (List.replicate n (0 : Int)).getD j 0 = 0 := by
  simp only [List.getD_eq_getElem?_getD, List.getElem?_replicate]
  split <;> rfl
theorem fill0_length {Qd : List Int} {n : Nat} (hq : Qd.length = 3 * n) : (fill0 Qd n).length = 7 * n := pqK_length hq (by omega) (by simp)
theorem fill0_quad {Qd : List Int} {n : Nat} (hq : Qd.length = 3 * n) (u k : Nat) (hk : k < 3) : (fill0 Qd n).getD (7 * u + 4 + k) 0 = if u < n then Qd.getD (3 * u + k) 0 else 0 := by
  unfold fill0
  rw [pqK_quad hq (by omega) (by simp) u k hk, rep_getD]
  by_cases h : u < n
  · rw [if_pos h, if_pos (by omega)]
  · rw [if_neg h, if_neg (by omega)]
theorem fill0_tri {Qd : List Int} {n : Nat} (hq : Qd.length = 3 * n) (u i : Nat) (hi : i < 4) : (fill0 Qd n).getD (7 * u + i) 0 = 0 := by
  unfold fill0
  rw [pqK_tri hq (by omega) (by simp) u i hi, rep_getD]
theorem fill0_bound {Qd : List Int} {n : Nat} (hq : Qd.length = 3 * n) (hb : ∀ j, 0 ≤ gi Qd j ∧ gi Qd j ≤ 1000000) (j : Nat) : 0 ≤ (fill0 Qd n).getD j 0 ∧ (fill0 Qd n).getD j 0 ≤ 1000000 := by
  by_cases h : j % 7 < 4
  · have := fill0_tri hq (j / 7) (j % 7) h
    rw [show 7 * (j / 7) + j % 7 = j by omega] at this
    omega
  · have := fill0_quad hq (j / 7) (j % 7 - 4) (by omega)
    rw [show 7 * (j / 7) + 4 + (j % 7 - 4) = j by omega] at this
    rw [this]
    split
    · have := hb ((3 * (j / 7) + (j % 7 - 4) : Nat) : Int)
      rwa [gi_nat] at this
    · omega
theorem pow24 {m : Nat} (h : m ≤ 24) : (1000000 + 200000000 : Int) * 2 ^ m ≤ 6000000000000000 := by
  have h1 : 2 ^ m ≤ 2 ^ 24 := Nat.pow_le_pow_right (by omega) h
  have h2 : ((2 ^ m : Nat) : Int) ≤ 16777216 := by omega
  rw [Int.natCast_pow] at h2
  have e : ((2 : Nat) : Int) ^ m = 2 ^ m := rfl
  rw [e] at h2
  omega
set_option maxHeartbeats 2000000 in
theorem filled_sp (s q : Value) (n : Nat) (Gl Qd : List Int) (h : FH) (c : Nat) (df : List Nat) (hs : SlI h c s 20 n Gl) (hok : okAll Gl n = true) (hn : n ≤ 6) (hq : SlI h c q 1 (3 * n) Qd) (hx : SlX h q 1 (3 * n)) (hb : ∀ j, 0 ≤ gi Qd j ∧ gi Qd j ≤ 1000000) :
    Ans (G (.fn 57) [.agg #[s], q] h c df) fun r => r.e = .ret ∧ r.df = [] ∧ c ≤ r.c ∧ Same c h r.h ∧ match fillX Gl n Qd with
      | none => r.vs = [.tuple #[.slice none 0 0, .bool false]]
      | some X => ∃ rb, r.vs = [.tuple #[.slice (some ⟨rb, 0, none⟩) (7 * n) (7 * n), .bool (withinB X)]] ∧ X.length = 7 * n ∧ rb < 256 * r.c ∧ r.h.f rb = some (.cells false none (ints X)) := by
  refine Ans.call' (fun r e => f57_go e) ?_
  unfold f57_S
  rw [flat1 hs.flat, cell1, Nat.add_zero]
  simp only [cond_true]
  have hQl : Qd.length = 3 * n := hq.1.trans (Nat.mul_one _)
  obtain ⟨rb, hrb⟩ : ∃ rb, 256 * (c + 1 + 1) + 2 = rb := ⟨_, rfl⟩
  obtain ⟨H0, hH0⟩ : ∃ H0, newB h (256 * c) [s] = H0 := ⟨_, rfl⟩
  have s0 : Same c h H0 := by rw [← hH0]; simp (disch := omega)
  have g0 : Holds H0 (256 * c) [s] := by rw [← hH0]; exact Holds.newB_same _ _ _
  have l0 : ld1 H0 (.pointer (some ⟨256 * c, 0, none⟩)) = some s := by rw [ld1_holds' g0]; rfl
  have ll := hs.len
  have mk := mkS_int 1 8 .i64 .i64 (7 * n) (by omega) (by omega)
  rw [show ((7 * n : Nat) : Int) = 7 * (n : Int) by omega] at mk
  have hqb : 0 < n → blkOf q ≠ rb := fun hp => by have := hq.blk (by omega); omega
  have hcp := Ans.eq (cp_loop H0 q n Qd rb (c + 1 + 1 + 1 + 1) (256 * c) (.int .i64 n) (.int .i64 n) [] (by omega) ((hq.same s0).mono (by omega)) (SlX.keep hq s0 hx) hqb (by omega) (by omega) (by simp) rfl n 0 (List.replicate (7 * n) 0) (by omega) (by simp))
  rw [← newB_eq_set, ← newB_eq_set, show pqK Qd n 0 (List.replicate (7 * n) 0) = fill0 Qd n from rfl] at hcp
  simp only [Int.ofNat_eq_natCast, Int.cast_ofNat_Int] at hcp
  have hXl := fill0_length hQl
  have hXb := fill0_bound hQl hb
  obtain ⟨H2, hH2⟩ : ∃ H2, newB H0 rb (ints (fill0 Qd n)) = H2 := ⟨_, rfl⟩
  rw [hH2] at hcp
  have f2 : ∀ b, b ≠ rb → H2.f b = H0.f b := fun b hb => by rw [← hH2, newB_f, if_neg hb]
  have r2 : H2.f rb = some (.cells false none (ints (fill0 Qd n))) := by rw [← hH2, newB_f, if_pos rfl]
  have s2 : Same c h H2 := fun b hb => by rw [f2 b (by omega), s0 b hb]
  have g2 : Holds H2 (256 * c) [s] := g0.eqf (f2 _ (by omega))
  have l2 : ldN H2 1 (.pointer (some ⟨256 * c, 0, none⟩)) = some (.agg #[s]) := ldN1_own g2
  obtain ⟨⟨re, rv, H3, k1, rd⟩, hr, r1, r2', r3, r4, vs, vu, es, eu, rfl, b1, b2, b3, b4, u1, u2⟩ := classes_sp s n Gl H2 (c + 1 + 1 + 1 + 1 + 1) [] ((hs.same s2).mono (by omega)) hok (by omega)
  simp only at r1 r2' r3 r4 b1 b2 b3 b4 u1 u2
  subst r1 r2'
  have cc := callF_of hr
  obtain ⟨kb, hkb⟩ : ∃ kb, 256 * k1 + 2 = kb := ⟨_, rfl⟩
  have mb := mkS_bool 1 1 .i64 .i64 (4 * n) (by omega) (by omega)
  rw [show ((4 * n : Nat) : Int) = 4 * (n : Int) by omega] at mb
  obtain ⟨H4, hH4⟩ : ∃ H4, newB H3 kb (bools (List.replicate (4 * n) false)) = H4 := ⟨_, rfl⟩
  have f4 : ∀ b, b ≠ kb → H4.f b = H3.f b := fun b hb => by rw [← hH4, newB_f, if_neg hb]
  have k4 : H4.f kb = some (.cells false none (bools (List.replicate (4 * n) false))) := by rw [← hH4, newB_f, if_pos rfl]
  have u4 : Uf H4 vs vu (4 * n) (vCl n (allM Gl n)) := u1.keep (f4 _ (by omega)) (f4 _ (by omega))
  obtain ⟨⟨re, rv, H5, k5, rd⟩, hr5, F, g1, g3, g4, g5⟩ := firsts_sp vs vu (4 * n) _ H4 (k1 + 1 + 1) [] u4 (by omega) (by omega)
  obtain ⟨rfl, rfl, -, -, rfl⟩ := Rt.mk.inj g1
  simp only at g3 g4 g5
  have cf : callF G 45 [.pointer (some ⟨vs, 0, none⟩)] H4 (k1 + 1 + 1) = some (F, H5, k5) := callF_of hr5
  rw [show firstsL (vCl n (allM Gl n)) (4 * n) = vxF Gl n from rfl] at g5
  have lf := g5.sl.len
  have hFl : (vxF Gl n).length ≤ 4 * n := firstsL_len _ _
  have s35 : ∀ b, b < 256 * k1 → H5.f b = H3.f b := fun b hb => by rw [g4 b (by omega), f4 b (by omega)]
  have s5 : ∀ b, b < 256 * (c + 5) → H5.f b = H2.f b := fun b hb => by rw [s35 b (by omega), r4 b (by omega)]
  have hnb : 0 < (vxF Gl n).length → blkOf F ≠ rb ∧ blkOf F ≠ kb := fun hp => by
    obtain ⟨z1, z2, ⟨rfl, z3⟩ | ⟨i, rfl, z3, z4, z5⟩⟩ := g5
    · omega
    · rw [blkOf_sl]; exact ⟨by omega, by omega⟩
  obtain ⟨⟨re, rv, H6, k6, rd⟩, hr6, p1, p2, p3, p4⟩ := fa_loop s n Gl (256 * c) rb kb k5 F (vxF Gl n).length (vxF Gl n) [] hn hok (by omega) (by omega) (by omega) (by omega) (by omega) (by omega) (fun hp => by have := hs.blk hp; exact ⟨by omega, by omega⟩)
    (fun x hx => by obtain ⟨k, h1, h2, _⟩ := vxF_mem hx; exact ⟨k, h1, h2⟩) hnb (by omega) (vxF Gl n).length 0 k5 H5 (fill0 Qd n) (List.replicate (4 * n) false) 1000000 (by omega) (by omega) (g2.eqf (s5 _ (by omega))) ((hs.keep fun hp => by rw [s5 _ (by have := hs.blk hp; omega), s2 _ (hs.blk hp)]).mono (by omega)) g5.sl (by rw [s5 _ (by omega), r2]) (by rw [g4 _ (by omega), k4]) hXl (by simp) (fun j => by have := hXb j; omega) (fun t k _ => hXb _) (by omega) (pow24 (by omega))
  rw [List.drop_zero, show fAll Gl true n (vxF Gl n) (fill0 Qd n) (List.replicate (4 * n) false) = fillX Gl n Qd from rfl] at p4
  simp only [Int.ofNat_eq_natCast, Int.cast_ofNat_Int] at hr6
  simp only at p1 p2 p3
  subst p2
  have s6 : Same c h H6 := fun b hb => by rw [p3 b (by omega) (by omega) (by omega), s5 b (by omega), s2 b hb]
  cases hF : fillX Gl n Qd with
  | none =>
    rw [hF] at p4
    obtain ⟨p4, p5, p6⟩ := p4
    simp only at p4
    subst p4
    have fx := And.intro l0 (And.intro ll (And.intro mk (And.intro hrb (And.intro hH0 (And.intro hcp (And.intro l2 (And.intro cc (And.intro hkb (And.intro mb (And.intro hH4 (And.intro cf (And.intro lf hr6))))))))))))
    refine Ans.go ?_
    clear fx
    rw [p5, p6]
    exact .done ⟨rfl, rfl, (by show c ≤ k6; omega), s6, rfl⟩
  | some X =>
    rw [hF] at p4
    obtain ⟨p4, p5, p6, p7⟩ := p4
    simp only at p4 p6 p7
    subst p4
    have cw := callF_of (within_sp (.slice (some ⟨rb, 0, none⟩) (7 * n) (7 * n)) (7 * n) X H6 (k6 + 1) [] (own_sl p6 p7 (by omega) (by omega)) (by omega))
    have fx := And.intro l0 (And.intro ll (And.intro mk (And.intro hrb (And.intro hH0 (And.intro hcp (And.intro l2 (And.intro cc (And.intro hkb (And.intro mb (And.intro hH4 (And.intro cf (And.intro lf (And.intro hr6 (And.intro p5 cw))))))))))))))
    refine Ans.go ?_
    clear fx
    exact .done ⟨rfl, rfl, (by show c ≤ k6 + 1; omega), s6, rb, (by show [Value.tuple #[Rt.v _ 3, _]] = _; rw [p5]), p7, (by show rb < 256 * (k6 + 1); omega), p6⟩
def q3 (Qd : List Int) (t : Nat) : List Int := (Qd.drop (3 * t)).take 3
theorem q3_loop (q : Value) (n : Nat) (Qd : List Int) (gb c : Nat) (h : FH) (df : List Nat) (hn : n ≤ 60) (hq : SlI h c q 1 (3 * n) Qd) (hx : SlX h q 1 (3 * n)) (hgb : gb < 256 * c) :
    ∀ (k t : Nat), t + k = n → Ans (G (f25_k25000 none) [q, ptrTo gb, .slice none 0 0, .int .i64 0, .int .i64 n, .int .i64 t] h c df) fun r => r.h = h ∧ r.c = c ∧ r.df = df ∧
      ((r.e = .exit 0 ∧ r.vs = [q, ptrTo gb, .slice none 0 0, .int .i64 0, .int .i64 n, .int .i64 n] ∧ ∀ u, t ≤ u → u < n → areQ (q3 Qd u) = true) ∨
       (r.e = .ret ∧ (∃ j, r.vs = [q, ptrTo gb, .slice none 0 0, .int .i64 1, .int .i64 n, j]) ∧ ∃ u, u < n ∧ areQ (q3 Qd u) = false)) := by
  intro k
  have oq := hq.okV
  induction k with
  | zero =>
    intro t ht
    obtain rfl : t = n := by omega
    refine Ans.loop (fun q r => f25_N25000) (fun q => f25_Z25000) ?_
    unfold f25_L25000
    have fx := True.intro
    refine Ans.go ?_
    clear fx
    (have fx := And.intro oq hgb; refine Ans.ex0 ?_; clear fx)
    exact ⟨rfl, rfl, rfl, .inl ⟨rfl, rfl, fun u h1 h2 => by omega⟩⟩
  | succ k ih =>
    intro t ht
    have s2 := SlX.sub hq hx .i64 .i64 (3 * (t : Int)) (3 * (t : Int) + 3) (by omega) (by omega) (by omega) (by omega)
    rw [show (3 * (t : Int)).toNat = 3 * t by omega, show (3 * (t : Int) + 3).toNat = 3 * t + 3 by omega] at s2
    have s3 := hq.sub (3 * t) (3 * t + 3) (by omega) (by omega) (by omega)
    simp only [Nat.mul_one] at s3
    rw [show (3 * t + 3 - 3 * t) = 3 by omega, show (Qd.drop (3 * t)).take 3 = q3 Qd t from rfl] at s3
    have ca := fun c' (hc : c ≤ c') => callF_of (areQ_sp (subS 1 (3 * t) (3 * t + 3) q) 3 (q3 Qd t) h c' [] (s3.mono hc) (by omega))
    cases hQ : areQ (q3 Qd t) with
    | true =>
      rw [hQ] at ca
      refine Ans.loop (fun q r => f25_N25000) (fun q => f25_Z25000) ?_
      unfold f25_L25000
      have fx := And.intro s2 ca
      refine Ans.go ?_
      clear fx
      (have fx := And.intro oq hgb; refine Ans.nx0 ?_; clear fx)
      refine (ih (t + 1) (by omega)).mono ?_
      rintro r ⟨r1, r2, r3, r4⟩
      refine ⟨r1, r2, r3, r4.imp ?_ id⟩
      rintro ⟨a, b, d⟩
      refine ⟨a, b, fun u h1 h2 => ?_⟩
      by_cases e : u = t
      · rw [e]; exact hQ
      · exact d u (by omega) h2
    | false =>
      rw [hQ] at ca
      refine Ans.loop (fun q r => f25_N25000) (fun q => f25_Z25000) ?_
      unfold f25_L25000
      have fx := And.intro s2 ca
      refine Ans.go ?_
      clear fx
      (have fx := And.intro oq hgb; refine Ans.rt0 ?_; clear fx)
      exact ⟨rfl, rfl, rfl, .inr ⟨rfl, ⟨_, rfl⟩, t, by omega, hQ⟩⟩
def qOk (Qd : List Int) (n : Nat) : Bool := decide (Qd.length = 3 * n) && withinB Qd && (List.range n).all fun t => areQ (q3 Qd t)
def fillE (Gl : List Int) (n : Nat) (Qd : List Int) : Int :=
  if refE Gl n = 0 then (if qOk Qd n = true then (match fillX Gl n Qd with | some X => if withinB X = true then 0 else 3 | none => 3) else 1) else refE Gl n
set_option maxHeartbeats 2000000 in
theorem fill_sp (s q : Value) (n nq : Nat) (Gl Qd : List Int) (h : FH) (c : Nat) (df : List Nat) (hs : SlI h c s 20 n Gl) (hn : n ≤ 6) (hq : SlI h c q 1 nq Qd) (hx : SlX h q 1 nq) (hnq : nq ≤ 1000000) :
    Ans (G (.fn 25) [.agg #[s], q] h c df) fun r => r.e = .ret ∧ r.df = [] ∧ c ≤ r.c ∧ Same c h r.h ∧
      ((fillE Gl n Qd ≠ 0 ∧ r.vs = [.tuple #[.slice none 0 0, .int .i64 (fillE Gl n Qd)]]) ∨
       (fillE Gl n Qd = 0 ∧ ∃ rb X, fillX Gl n Qd = some X ∧ r.vs = [.tuple #[.slice (some ⟨rb, 0, none⟩) (7 * n) (7 * n), .int .i64 0]] ∧ X.length = 7 * n ∧ rb < 256 * r.c ∧ r.h.f rb = some (.cells false none (ints X)))) := by
  refine Ans.call' (fun r e => f25_go e) ?_
  unfold f25_S
  rw [flat1 hs.flat, cell1, Nat.add_zero]
  simp only [cond_true]
  have hQl : Qd.length = nq := hq.1.trans (Nat.mul_one _)
  obtain ⟨H, hH⟩ : ∃ H, newB h (256 * c) [s] = H := ⟨_, rfl⟩
  have sH : Same c h H := by rw [← hH]; simp (disch := omega)
  have hg : Holds H (256 * c) [s] := by rw [← hH]; exact Holds.newB_same _ _ _
  have l0 : ldN H 1 (.pointer (some ⟨256 * c, 0, none⟩)) = some (.agg #[s]) := ldN1_own hg
  have l1 : ld1 H (.pointer (some ⟨256 * c, 0, none⟩)) = some s := by rw [ld1_holds' hg]; rfl
  have ll := hs.len
  have lq := hq.len
  have cr := fun c' (hc : c ≤ c') => callF_of (refused_sp s n Gl H c' [] ((hs.same sH).mono hc))
  have cw := fun c' (hc : c ≤ c') => callF_of (within_sp q nq Qd H c' [] ((hq.same sH).mono hc) (by omega))
  unfold fillE
  by_cases h0 : refE Gl n = 0
  case neg =>
    rw [if_neg h0]
    obtain ⟨E, hE⟩ : ∃ E, refE Gl n = E := ⟨_, rfl⟩
    rw [hE] at cr h0 ⊢
    have fx := And.intro hH (And.intro l0 cr)
    refine Ans.go ?_
    clear fx
    exact .done ⟨rfl, rfl, (by show c ≤ c + 1 + 1 + 1 + 1; omega), sH, .inl ⟨h0, rfl⟩⟩
  obtain ⟨hn6, hok⟩ := refE_zero h0
  rw [if_pos h0]
  rw [h0] at cr
  clear h0
  by_cases e1 : nq = 3 * n
  case neg =>
    have hz : qOk Qd n = false := by
      unfold qOk
      rw [decide_eq_false (by omega)]; rfl
    rw [hz, if_neg (by simp)]
    have e1' : ¬ (nq : Int) = 3 * (n : Int) := by omega
    have fx := And.intro hH (And.intro l0 (And.intro cr (And.intro lq (And.intro l1 ll))))
    refine Ans.go ?_
    clear fx
    exact .done ⟨rfl, rfl, (by show c ≤ c + 1 + 1 + 1 + 1 + 1; omega), sH, .inl ⟨by decide, rfl⟩⟩
  subst e1
  cases hw : withinB Qd with
  | false =>
    have hz : qOk Qd n = false := by
      unfold qOk
      rw [hw]; simp
    rw [hz, if_neg (by simp)]
    rw [hw] at cw
    have e1' : ((3 * n : Nat) : Int) = 3 * (n : Int) := by omega
    have fx := And.intro hH (And.intro l0 (And.intro cr (And.intro lq (And.intro l1 (And.intro ll cw)))))
    refine Ans.go ?_
    clear fx
    exact .done ⟨rfl, rfl, (by show c ≤ c + 1 + 1 + 1 + 1 + 1; omega), sH, .inl ⟨by decide, rfl⟩⟩
  | true =>
    rw [hw] at cw
    have hb := withinI hw
    have hx' := SlX.keep hq sH hx
    have e1' : ((3 * n : Nat) : Int) = 3 * (n : Int) := by omega
    obtain ⟨⟨re, rv, rh, rc, rd⟩, hr, r1, r2, r3, r4⟩ := q3_loop q n Qd (256 * c) (c + 1 + 1 + 1 + 1 + 1) H [] (by omega) ((hq.same sH).mono (by omega)) hx' (by omega) n 0 (by omega)
    simp only at r1 r2 r3 r4
    subst r1 r2 r3
    simp only [Int.ofNat_eq_natCast, Int.cast_ofNat_Int] at hr
    rcases r4 with ⟨rfl, rfl, r5⟩ | ⟨rfl, ⟨j, rfl⟩, u, hu, hu2⟩
    case inr =>
      have hz : qOk Qd n = false := by
        unfold qOk
        rw [Bool.and_eq_false_iff]
        right
        rw [List.all_eq_false]
        exact ⟨u, by simpa using hu, by rw [hu2]; simp⟩
      rw [hz, if_neg (by simp)]
      have fx := And.intro hH (And.intro l0 (And.intro cr (And.intro lq (And.intro l1 (And.intro ll (And.intro cw hr))))))
      refine Ans.go ?_
      clear fx
      exact .done ⟨rfl, rfl, (by show c ≤ c + 1 + 1 + 1 + 1 + 1; omega), sH, .inl ⟨by decide, rfl⟩⟩
    have hz : qOk Qd n = true := by
      unfold qOk
      rw [hw, decide_eq_true (by omega)]
      simp only [Bool.true_and, List.all_eq_true]
      exact fun t ht => r5 t (by omega) (by simpa using ht)
    rw [hz, if_pos rfl]
    obtain ⟨⟨re, rv, rh, k2, rd⟩, hr2, t1, t2, t3, t4, t5⟩ := filled_sp s q n Gl Qd rh (c + 1 + 1 + 1 + 1 + 1 + 1) [] ((hs.same sH).mono (by omega)) hok hn ((hq.same sH).mono (by omega)) hx' hb
    simp only at t1 t2 t3 t4 t5
    subst t1 t2
    cases hF : fillX Gl n Qd with
    | none =>
      rw [hF] at t5
      subst t5
      have cf := callF_of hr2
      have fx := And.intro hH (And.intro l0 (And.intro cr (And.intro lq (And.intro l1 (And.intro ll (And.intro cw (And.intro hr cf)))))))
      refine Ans.go ?_
      clear fx
      exact .done ⟨rfl, rfl, (by show c ≤ k2 + 1 + 1; omega), sH.trans (t4.mono (by omega)), .inl ⟨by decide, rfl⟩⟩
    | some X =>
      rw [hF] at t5
      obtain ⟨rb, rfl, t6, t7, t8⟩ := t5
      have cf := callF_of hr2
      cases hX : withinB X with
      | false =>
        rw [hX] at cf
        try simp only
        try rw [hX]
        have fx := And.intro hH (And.intro l0 (And.intro cr (And.intro lq (And.intro l1 (And.intro ll (And.intro cw (And.intro hr cf)))))))
        refine Ans.go ?_
        clear fx
        exact .done ⟨rfl, rfl, (by show c ≤ k2 + 1 + 1; omega), sH.trans (t4.mono (by omega)), .inl ⟨by decide, rfl⟩⟩
      | true =>
        rw [hX] at cf
        try simp only
        try rw [hX]
        have fx := And.intro hH (And.intro l0 (And.intro cr (And.intro lq (And.intro l1 (And.intro ll (And.intro cw (And.intro hr cf)))))))
        refine Ans.go ?_
        clear fx
        exact .done ⟨rfl, rfl, (by show c ≤ k2 + 1 + 1; omega), sH.trans (t4.mono (by omega)), .inr ⟨rfl, rb, X, rfl, rfl, t6, (by show rb < 256 * (k2 + 1 + 1); omega), t8⟩⟩
end Go.Proofs.Ytcnndelmnobigaa

namespace Go.Proofs.Ytcnndelmnobigaa
open Go Go.Ab Go.Proofs
set_option maxRecDepth 100000
set_option linter.unusedVariables false
set_option linter.unusedSimpArgs false
theorem sameInts_loop (a b : Value) (m : Nat) (A B : List Int) (h : FH) (c : Nat) (ha : SlI h c a 1 m A) (hb : SlI h c b 1 m B) (df : List Nat) : ∀ (k i : Nat), i + k = m →
    Ans (G (f21_k21000 none) [a, b, .bool false, .int .i64 i] h c df) fun r => r.h = h ∧ r.c = c ∧ r.df = df ∧ ((r.e = .exit 0 ∧ ∀ j : Nat, i ≤ j → j < m → gi A j = gi B j) ∨ (r.e = .ret ∧ r.v 2 = .bool false ∧ ∃ j : Nat, j < m ∧ gi A j ≠ gi B j)) := by
  intro k
  have o1 := ha.okV
  have o2 := hb.okV
  have la := ha.len
  have hm := ha.2.1
  induction k with
  | zero =>
    intro i hi
    obtain rfl : i = m := by omega
    refine Ans.loop (fun q r => f21_N21000) (fun q => f21_Z21000) ?_
    unfold f21_L21000
    have fx := la
    refine Ans.go ?_
    clear fx
    (have fx := And.intro o1 o2; refine Ans.ex0 ?_; clear fx)
    exact ⟨rfl, rfl, rfl, .inl ⟨rfl, fun j h1 h2 => by omega⟩⟩
  | succ k ih =>
    intro i hi
    have l1 := ha.rdi i (by omega) (by omega)
    have l2 := hb.rdi i (by omega) (by omega)
    simp only [Int.toNat_natCast] at l1 l2
    obtain ⟨x, hx⟩ : ∃ x, gi A i = x := ⟨_, rfl⟩
    obtain ⟨y, hy⟩ : ∃ y, gi B i = y := ⟨_, rfl⟩
    rw [hx] at l1
    rw [hy] at l2
    have him : (i : Int) < m := by omega
    refine Ans.loop (fun q r => f21_N21000) (fun q => f21_Z21000) ?_
    unfold f21_L21000
    by_cases e : x = y
    · have fx := And.intro la (And.intro ha.ixs1 (And.intro hb.ixs1 (And.intro l1 l2)))
      refine Ans.go ?_
      clear fx
      (have fx := And.intro o1 o2; refine Ans.nx0 ?_; clear fx)
      refine (ih (i + 1) (by omega)).mono ?_
      rintro r ⟨q1, q2, q3, q4⟩
      refine ⟨q1, q2, q3, q4.imp (fun ⟨a, b⟩ => ⟨a, fun j h1 h2 => ?_⟩) id⟩
      by_cases ej : j = i
      · rw [ej, hx, hy, e]
      · exact b j (by omega) h2
    · have fx := And.intro la (And.intro ha.ixs1 (And.intro hb.ixs1 (And.intro l1 l2)))
      refine Ans.go ?_
      clear fx
      (have fx := And.intro o1 o2; refine Ans.rt0 ?_; clear fx)
      exact ⟨rfl, rfl, rfl, .inr ⟨rfl, rfl, i, by omega, by rw [hx, hy]; exact e⟩⟩
theorem gi_ext {A B : List Int} (hl : A.length = B.length) (h : ∀ j : Nat, j < A.length → gi A j = gi B j) : A = B := by
  refine List.ext_getElem hl fun j h1 h2 => ?_
  have := h j h1
  rw [gi_nat, gi_nat, List.getD_eq_getElem?_getD, List.getD_eq_getElem?_getD, List.getElem?_eq_getElem h1, List.getElem?_eq_getElem h2] at this
  exact this
theorem sameInts_sp (a b : Value) (m n : Nat) (A B : List Int) (h : FH) (c : Nat) (df : List Nat) (ha : SlI h c a 1 m A) (hb : SlI h c b 1 n B) :
    G (.fn 21) [a, b] h c df = some { e := .ret, vs := [.bool (decide (A = B))], h := h, c := c, df := [] } := by
  refine pure_of' (fun r e => f21_go e) (by simp) ?_
  unfold f21_S
  have la := ha.len
  have lb := hb.len
  have hA := ha.1
  have hB := hb.1
  by_cases e : m = n
  · subst e
    obtain ⟨⟨re, rv, rh, rc, rd⟩, hr, r1, r2, r3, r4⟩ := sameInts_loop a b m A B h (c + 1 + 1 + 1) (ha.mono (by omega)) (hb.mono (by omega)) [] m 0 (by omega)
    simp only at r1 r2 r3 r4
    subst r1 r2 r3
    simp only [Int.ofNat_eq_natCast, Int.cast_ofNat_Int] at hr
    rcases r4 with ⟨rfl, r5⟩ | ⟨rfl, r5, j, j1, j2⟩
    · have : A = B := gi_ext (by omega) (fun j hj => r5 j (by omega) (by omega))
      rw [decide_eq_true this]
      have fx := And.intro la (And.intro lb hr)
      refine Ans.go ?_
      clear fx
      exact Ans.pure rfl (by simp)
    · have : ¬ A = B := fun e => j2 (by rw [e])
      rw [decide_eq_false this]
      have fx := And.intro la (And.intro lb hr)
      refine Ans.go ?_
      clear fx
      exact Ans.pure r5 (by simp)
  · have : ¬ A = B := fun h => e (by rw [h] at hA; omega)
    rw [decide_eq_false this]
    have e' : ¬ ((m : Int) = n) := by omega
    have fx := And.intro la lb
    refine Ans.go ?_
    clear fx
    exact Ans.pure rfl (by simp)
end Go.Proofs.Ytcnndelmnobigaa

namespace Go.Proofs.Ytcnndelmnobigaa
open Go Go.Ab Go.Proofs
set_option maxRecDepth 100000
set_option linter.unusedVariables false
set_option linter.unusedSimpArgs false
theorem eqF19 (a0 a1 a2 a3 a4 b0 b1 b2 b3 b4 : Int) : aEq P 19 41 (av [a0, a1, a2, a3, a4]) (av [b0, b1, b2, b3, b4]) =
    (cond (a0 == b0) ((cond (a1 == b1) (cond (a2 == b2) (cond (a3 == b3) (cond (a4 == b4) (some true) (some false)) (some false)) (some false)) (some false)).bind fun r => cond r (some true) (some false)) (some false)) := by kernel_rfl
theorem eqF (x y : List Int) (hx : x.length = 5) (hy : y.length = 5) : aEq P 19 41 (av x) (av y) = some (decide (x = y)) := by
  match x, hx, y, hy with
  | [a0, a1, a2, a3, a4], _, [b0, b1, b2, b3, b4], _ =>
    rw [eqF19]
    by_cases h0 : a0 = b0 <;> by_cases h1 : a1 = b1 <;> by_cases h2 : a2 = b2 <;> by_cases h3 : a3 = b3 <;> by_cases h4 : a4 = b4 <;> simp [h0, h1, h2, h3, h4, Bool.cond_eq_ite]
theorem part72 (xs : List Value) (o : Nat) : aPart P 41 xs o = partN xs true o 5 := by kernel_rfl
theorem part_ints (x : List Int) (o : Nat) (h : o + 5 ≤ x.length) : aPart P 41 (ints x) o = some (av ((x.drop o).take 5)) := by
  have : Nat.ble (o + 5) (ints x).length = true := Nat.ble_eq_true_of_le (by simpa using h)
  rw [part72]
  simp only [partN, cond_true, this, ints_drop, ints_take]
  rfl
theorem neR0 (x y : List Value) : aBinOp0 P .neq 42 (.agg x.toArray) (.agg y.toArray) = (aEqEs (aEq P 19 41) P 41 5 x y [0, 1, 2, 3]).bind fun b => some (.bool (!b)) := by kernel_rfl
theorem eqRows (x y : List Int) (hx : x.length = 20) (hy : y.length = 20) : aEqEs (aEq P 19 41) P 41 5 (ints x) (ints y) [0, 1, 2, 3] = some (decide (x = y)) := by
  have e : x = y ↔ (x.drop 0).take 5 = (y.drop 0).take 5 ∧ (x.drop 5).take 5 = (y.drop 5).take 5 ∧ (x.drop 10).take 5 = (y.drop 10).take 5 ∧ (x.drop 15).take 5 = (y.drop 15).take 5 := by
    constructor
    · rintro rfl; exact ⟨rfl, rfl, rfl, rfl⟩
    · rintro ⟨h1, h2, h3, h4⟩
      have s : ∀ l : List Int, l.length = 20 → l = (l.drop 0).take 5 ++ ((l.drop 5).take 5 ++ ((l.drop 10).take 5 ++ (l.drop 15).take 5)) := fun l hl => by
        match l, hl with
        | [_, _, _, _, _, _, _, _, _, _, _, _, _, _, _, _, _, _, _, _], _ => rfl
      rw [s x hx, s y hy, h1, h2, h3, h4]
  have l : ∀ (z : List Int) (o : Nat), z.length = 20 → o ≤ 15 → ((z.drop o).take 5).length = 5 := fun z o hz ho => by simp; omega
  simp only [aEqEs]
  rw [part_ints x (0 * 5) (by omega), part_ints y (0 * 5) (by omega), part_ints x (1 * 5) (by omega), part_ints y (1 * 5) (by omega), part_ints x (2 * 5) (by omega), part_ints y (2 * 5) (by omega), part_ints x (3 * 5) (by omega), part_ints y (3 * 5) (by omega)]
  simp only [Option.bind_some]
  rw [eqF _ _ (l x _ hx (by omega)) (l y _ hy (by omega)), eqF _ _ (l x _ hx (by omega)) (l y _ hy (by omega)), eqF _ _ (l x _ hx (by omega)) (l y _ hy (by omega)), eqF _ _ (l x _ hx (by omega)) (l y _ hy (by omega))]
  simp only [Option.bind_some]
  rw [show (0 * 5 : Nat) = 0 from rfl, show (1 * 5 : Nat) = 5 from rfl, show (2 * 5 : Nat) = 10 from rfl, show (3 * 5 : Nat) = 15 from rfl]
  by_cases q1 : (x.drop 0).take 5 = (y.drop 0).take 5 <;> by_cases q2 : (x.drop 5).take 5 = (y.drop 5).take 5 <;> by_cases q3 : (x.drop 10).take 5 = (y.drop 10).take 5 <;> by_cases q4 : (x.drop 15).take 5 = (y.drop 15).take 5 <;>
    simp only [e, q1, q2, q3, q4, decide_true, decide_false, cond_true, cond_false, and_true, and_false, and_self, true_and, false_and]
theorem neq_row (x y : List Int) (hx : x.length = 20) (hy : y.length = 20) : aBinOp P .neq 42 (av x) (av y) = some (.bool (!decide (x = y))) := by
  rw [aBinOp_eq]
  exact (neR0 (ints x) (ints y)).trans (by rw [eqRows x y hx hy]; rfl)
end Go.Proofs.Ytcnndelmnobigaa

namespace Go.Proofs.Ytcnndelmnobigaa
open Go Go.Ab Go.Proofs
set_option maxRecDepth 100000
set_option linter.unusedVariables false
set_option linter.unusedSimpArgs false
theorem sameR_loop (s s' : Value) (n : Nat) (Gl Hl : List Int) (g1 g2 c : Nat) (h : FH) (hn : n ≤ 1000000) (hg1 : g1 < 256 * c) (hg2 : g2 < 256 * c) (h1 : Holds h g1 [s]) (h2 : Holds h g2 [s']) (h3 : SlI h c s 20 n Gl) (h4 : SlI h c s' 20 n Hl) (df : List Nat) :
    ∀ (k i : Nat), i + k = n →
    Ans (G (f39_k39000 none) [ptrTo g1, ptrTo g2, .bool false, .int .i64 i] h c df) fun r => r.h = h ∧ r.c = c ∧ r.df = df ∧
      ((r.e = .exit 0 ∧ ∀ j, i ≤ j → j < n → rowL Gl j = rowL Hl j) ∨ (r.e = .ret ∧ r.v 2 = .bool false ∧ ∃ j, j < n ∧ rowL Gl j ≠ rowL Hl j)) := by
  intro k
  have e1 : ld1 h (.pointer (some ⟨g1, 0, none⟩)) = some s := by rw [ld1_holds' h1]; rfl
  have e2 : ld1 h (.pointer (some ⟨g2, 0, none⟩)) = some s' := by rw [ld1_holds' h2]; rfl
  have l1 := h3.len
  induction k with
  | zero =>
    intro i hi
    obtain rfl : i = n := by omega
    refine Ans.loop (fun q r => f39_N39000) (fun q => f39_Z39000) ?_
    unfold f39_L39000
    have fx := And.intro e1 l1
    refine Ans.go ?_
    clear fx
    (have fx := And.intro hg1 hg2; refine Ans.ex0 ?_; clear fx)
    exact ⟨rfl, rfl, rfl, .inl ⟨rfl, fun j h1 h2 => by omega⟩⟩
  | succ k ih =>
    intro i hi
    have r1 := h3.row i (by omega) (by omega)
    have r2 := h4.row i (by omega) (by omega)
    simp only [Int.toNat_natCast] at r1 r2
    have hq := neq_row (rowL Gl i) (rowL Hl i) (rowL_length h3.1 (by omega)) (rowL_length h4.1 (by omega))
    refine Ans.loop (fun q r => f39_N39000) (fun q => f39_Z39000) ?_
    unfold f39_L39000
    repeat' (first | ((with_reducible first | refine Ans.bz ?_ | refine Ans.r1 ?_ | refine Ans.pkT ?_ | refine Ans.pkF ?_); try dsimp only [v_zero, v_succ]) | (with_reducible first | refine Ans.btL ?_ | refine Ans.bfL ?_ | refine Ans.gyT ?_ | refine Ans.gyF ?_ | refine Ans.gyG ?_ | refine Ans.bb ?_ | refine Ans.bc ?_ | refine Ans.ba ?_) | ((with_reducible first | refine Ans.lsT ?_ ?_ | refine Ans.neT ?_ ?_); (focus omega)) | ((with_reducible first | refine Ans.lsF ?_ ?_ | refine Ans.neF ?_ ?_); (focus omega)) | (with_reducible first | refine Ans.lsS (fun _ => ?_) (fun _ => ?_) | refine Ans.neS (fun _ => ?_) (fun _ => ?_)) | ((with_reducible first | refine Ans.addN ?_ ?_ | refine Ans.add ?_ ?_); (focus omega)) | ((with_reducible first | refine Ans.ct ?_ ?_); (focus (simp (disch := (first | omega | with_reducible assumption | (simp <;> omega) | fail)) [e1, e2, l1, h3.ixs, h4.ixs, r1, r2]; done))) | ((with_reducible first | refine Ans.cf ?_ ?_); (focus (simp (disch := (first | omega | with_reducible assumption | (simp <;> omega) | fail)) [e1, e2, l1, h3.ixs, h4.ixs, r1, r2]; done))) | ((with_reducible refine Ans.oT (by simp (disch := (first | omega | with_reducible assumption | (simp <;> omega) | fail)) only [hq] <;> rfl) ?_ ?_); (focus (with_reducible assumption)); try dsimp only [v_zero, v_succ]) | ((with_reducible refine Ans.oF (by simp (disch := (first | omega | with_reducible assumption | (simp <;> omega) | fail)) only [hq] <;> rfl) ?_ ?_); (focus (with_reducible assumption)); try dsimp only [v_zero, v_succ]) | ((with_reducible refine Ans.oS (by simp (disch := (first | omega | with_reducible assumption | (simp <;> omega) | fail)) only [hq] <;> rfl) (fun _ => ?_) (fun _ => ?_)) <;> try dsimp only [v_zero, v_succ]) | (refine Ans.step (by simp (disch := (first | omega | with_reducible assumption | (simp <;> omega) | fail)) [e1, e2, l1, h3.ixs, h4.ixs, r1, r2, -List.getD_eq_getElem?_getD] <;> rfl) ?_; try dsimp only [v_zero, v_succ]) | fail)
    · rename_i hne
      (have fx := And.intro hg1 hg2; refine Ans.rt0 ?_; clear fx)
      exact ⟨rfl, rfl, rfl, .inr ⟨rfl, rfl, i, by omega, by simpa using hne⟩⟩
    · rename_i heq
      (have fx := And.intro hg1 hg2; refine Ans.nx0 ?_; clear fx)
      refine (ih (i + 1) (by omega)).mono ?_
      rintro r ⟨q1, q2, q3, q4⟩
      refine ⟨q1, q2, q3, q4.imp (fun ⟨a, b⟩ => ⟨a, fun j j1 j2 => ?_⟩) id⟩
      by_cases hj : j = i
      · rw [hj]; simpa using heq
      · exact b j (by omega) j2
theorem rows_ext {Gl Hl : List Int} {n : Nat} (h1 : Gl.length = n * 20) (h2 : Hl.length = n * 20) (h : ∀ j, j < n → rowL Gl j = rowL Hl j) : Gl = Hl := by
  apply List.ext_getElem?
  intro i
  by_cases hi : i < n * 20
  · have := congrArg (fun l => l[i % 20]?) (h (i / 20) (by omega))
    simp only [rowL, List.getElem?_take_of_lt (Nat.mod_lt i (by omega : 0 < 20)), List.getElem?_drop, Nat.div_add_mod] at this
    exact this
  · rw [List.getElem?_eq_none (by omega), List.getElem?_eq_none (by omega)]
theorem sameR_sp (s s' : Value) (n m : Nat) (Gl Hl : List Int) (h : FH) (c : Nat) (df : List Nat) (h3 : SlI h c s 20 n Gl) (h4 : SlI h c s' 20 m Hl) (hn : n ≤ 1000000) :
    G (.fn 39) [.agg #[s], .agg #[s']] h c df = some { e := .ret, vs := [.bool (sameB2 n m Gl Hl)], h := h, c := c, df := [] } := by
  refine pure_of' (fun r e => f39_go e) (by simp) ?_
  have hf1 : ((Value.agg #[s]).cells.toList.all isFlat) = true := by simp [Value.cells, h3.flat]
  have hf2 : ((Value.agg #[s']).cells.toList.all isFlat) = true := by simp [Value.cells, h4.flat]
  have hc1 : (Value.agg #[s]).cells.toList = [s] := rfl
  have hc2 : (Value.agg #[s']).cells.toList = [s'] := rfl
  unfold f39_S
  rw [hf1, hf2, hc1, hc2]
  simp only [cond_true]
  obtain ⟨H, hH⟩ : ∃ H, H = newB (newB h (256 * c) [s]) (256 * c + 1) [s'] := ⟨_, rfl⟩
  have sH : Same c h H := by rw [hH]; simp (disch := omega)
  have g1 : Holds H (256 * c) [s] := by rw [hH]; exact Holds.newB_ne (by omega) (Holds.newB_same _ _ _)
  have g2 : Holds H (256 * c + 1) [s'] := by rw [hH]; exact Holds.newB_same _ _ _
  rw [Nat.add_zero, ← hH]
  have e1 : ld1 H (.pointer (some ⟨256 * c, 0, none⟩)) = some s := by rw [ld1_holds' g1]; rfl
  have e2 : ld1 H (.pointer (some ⟨256 * c + 1, 0, none⟩)) = some s' := by rw [ld1_holds' g2]; rfl
  have l1 := h3.len
  have l2 := h4.len
  by_cases hnm : n = m
  case neg =>
    have fx := And.intro e1 (And.intro e2 (And.intro l1 l2))
    refine Ans.go ?_
    clear fx
    exact Ans.pure (by simp [sameB2, hnm]) sH
  subst hnm
  obtain ⟨⟨re, rv, rh, rc, rd⟩, hr, r1, r2, r3, r4⟩ := sameR_loop s s' n Gl Hl (256 * c) (256 * c + 1) (c + 1 + 1 + 1) H hn (by omega) (by omega) g1 g2 ((h3.same sH).mono (by omega)) ((h4.same sH).mono (by omega)) [] n 0 (by omega)
  simp only at r1 r2 r3 r4
  subst r1 r2 r3
  simp only [Int.ofNat_eq_natCast, Int.cast_ofNat_Int] at hr
  rcases r4 with ⟨rfl, r5⟩ | ⟨rfl, r5, j, r6, r7⟩
  · have fx := And.intro e1 (And.intro e2 (And.intro l1 (And.intro l2 hr)))
    refine Ans.go ?_
    clear fx
    exact Ans.pure (by simp [sameB2, rows_ext h3.1 h4.1 (fun j hj => r5 j (by omega) hj)]) sH
  · have fx := And.intro e1 (And.intro e2 (And.intro l1 (And.intro l2 hr)))
    refine Ans.go ?_
    clear fx
    refine Ans.pure ?_ sH
    rw [r5]
    have : ¬ Gl = Hl := fun e => r7 (by rw [e])
    simp [sameB2, this]
end Go.Proofs.Ytcnndelmnobigaa

namespace Go.Proofs.Ytcnndelmnobigaa
open Go Go.Ab Go.Proofs
set_option maxRecDepth 100000
set_option linter.unusedVariables false
set_option linter.unusedSimpArgs false
def Stay (c0 : Nat) (H0 : FH) (g : FuncId) (args : List Value) : Prop := ∀ H c, c0 ≤ c → Same c0 H0 H → ∃ v H' c', callF G g args H c = some (v, H', c') ∧ c ≤ c' ∧ Same c0 H0 H'
theorem Stay.pure {c0 : Nat} {H0 : FH} {g : FuncId} {args : List Value} (e : ∀ H c, c0 ≤ c → Same c0 H0 H → ∃ v, G (.fn g) args H c [] = some { e := .ret, vs := [v], h := H, c := c, df := [] }) : Stay c0 H0 g args := fun H c hc hs => by
  obtain ⟨v, e⟩ := e H c hc hs
  exact ⟨v, H, c, callF_of e, Nat.le_refl _, hs⟩
theorem Stay.ans {c0 : Nat} {H0 : FH} {g : FuncId} {args : List Value} (e : ∀ H c, c0 ≤ c → Same c0 H0 H → Ans (G (.fn g) args H c []) fun r => c ≤ r.c ∧ Same c H r.h ∧ ∃ v, r.vs = [v]) : Stay c0 H0 g args := fun H c hc hs => by
  obtain ⟨r, e, h1, h2, v, h3⟩ := e H c hc hs
  refine ⟨v, r.h, r.c, ?_, h1, hs.trans (h2.mono hc)⟩
  simp only [callF, e, Option.bind_some, h3]
theorem short3 (u v q : Value) (nu nv nq : Nat) (sb : Nat) (h : FH) (c : Nat) (hsb : sb < 256 * c) (hh : Holds h sb [u, v, q]) (h1 : lenS u = some (.int .i64 nu)) (h2 : lenS v = some (.int .i64 nv)) (h3 : lenS q = some (.int .i64 nq)) :
    callF G 18 [.slice (some ⟨sb, 0, none⟩) 3 3] h c = some (.bool (decide (nu ≤ 50) && decide (nv ≤ 50) && decide (nq ≤ 50)), h, c) := by
  have := short_sp [u, v, q] (fun j => if j = 0 then nu else if j = 1 then nv else nq) sb h c [] hsb hh (by simp) (fun j hj => by
    match j, hj with
    | 0, _ => exact h1
    | 1, _ => exact h2
    | 2, _ => exact h3)
  have e : ((List.range [u, v, q].length).all fun j => decide ((if j = 0 then nu else if j = 1 then nv else nq) ≤ 50)) = (decide (nu ≤ 50) && decide (nv ≤ 50) && decide (nq ≤ 50)) := by
    show ((List.range 3).all fun j => decide ((if j = 0 then nu else if j = 1 then nv else nq) ≤ 50)) = _
    simp [List.range_succ, Bool.and_assoc]
  rw [e] at this
  exact callF_of this
set_option maxHeartbeats 4000000 in
theorem normalStays_true (s u v q : Value) (n nu nv nq : Nat) (Gl U V Qd : List Int) (h : FH) (c : Nat) (hs : SlI h c s 20 n Gl) (hu : SlI h c u 1 nu U) (hv : SlI h c v 1 nv V) (hq : SlI h c q 1 nq Qd)
    (Cs : SlC h s 20 n Gl) (Cu : SlC h u 1 nu U) (Cv : SlC h v 1 nv V) (Cq : SlC h q 1 nq Qd) :
    Ans (G (.fn 10) [.agg #[s], u, v, q] h c []) fun x => x.e = .ret ∧ x.vs = [.bool true] := by
  suffices hs : Ans (f10_S G (.agg #[s]) u v q h c) fun x => x.e = .ret ∧ x.vs = [.bool true] by
    obtain ⟨x, q1, q2⟩ := hs
    exact ⟨_, f10_go q1, by show (gcR h c [] x).e = _ ∧ (gcR h c [] x).vs = _; rw [gcR_e, gcR_vs]; exact q2⟩
  unfold f10_S
  rw [flat1 hs.flat, cell1, Nat.add_zero]
  simp only [cond_true]
  obtain ⟨H, hH⟩ : ∃ H, H = newB h (256 * c) [s] := ⟨_, rfl⟩
  have sH : Same c h H := by rw [hH]; simp (disch := omega)
  have hg : Holds H (256 * c) [s] := by rw [hH]; exact Holds.newB_same _ _ _
  rw [← hH]
  clear hH
  have k0 := sane_call H
  have l1 := ldN1_own hg
  have lu := hu.len
  have lv := hv.len
  have lq := hq.len
  have cs := fun c' (hc : c ≤ c') => callF_of (small_sp s n Gl H c' [] ((hs.same sH).mono hc))
  by_cases hn : n ≤ 6
  case neg =>
    rw [decide_eq_false hn] at cs
    have fx := And.intro k0 (And.intro l1 cs)
    refine Ans.go ?_
    clear fx
    exact .done ⟨rfl, rfl⟩
  rw [decide_eq_true hn] at cs
  have hbl : bldL [(.slice none 0 0), (.slice none 0 0), (.slice none 0 0)] [(0, 1, u), (1, 1, v), (2, 1, q)] = some [u, v, q] := by
    obtain ⟨_, _, a, cap, rfl, _⟩ := hv
    obtain ⟨_, _, a, cap, rfl, _⟩ := hu
    obtain ⟨_, _, a, cap, rfl, _⟩ := hq
    rfl
  obtain ⟨sb, hsb⟩ : ∃ sb, 256 * (c + 1 + 1) + 7 = sb := ⟨_, rfl⟩
  obtain ⟨K, hK⟩ : ∃ K, newB H sb [u, v, q] = K := ⟨_, rfl⟩
  have sK : Same c h K := by rw [← hK]; exact sH.trans (by intro b hb; rw [newB_f, if_neg (by omega)])
  have hgK : Holds K (256 * c) [s] := by rw [← hK]; exact hg.newB_ne (by omega)
  have hq' : Holds K sb [u, v, q] := by rw [← hK]; exact Holds.newB_same _ _ _
  have ch := fun c' (hc : c + 1 + 1 + 1 ≤ c') => short3 u v q nu nv nq sb K c' (by omega) hq' lu lv lq
  by_cases h50 : nu ≤ 50 ∧ nv ≤ 50 ∧ nq ≤ 50
  case neg =>
    have : (decide (nu ≤ 50) && decide (nv ≤ 50) && decide (nq ≤ 50)) = false := by
      rw [Bool.eq_false_iff]
      intro h1
      simp only [Bool.and_eq_true, decide_eq_true_eq] at h1
      omega
    rw [this] at ch
    have fx := And.intro k0 (And.intro l1 (And.intro cs (And.intro hbl (And.intro hsb (And.intro hK ch)))))
    refine Ans.go ?_
    clear fx
    exact .done ⟨rfl, rfl⟩
  obtain ⟨hu50, hv50, hq50⟩ := h50
  rw [decide_eq_true hu50, decide_eq_true hv50, decide_eq_true hq50, Bool.and_self, Bool.and_self] at ch
  have hb0 : bldL [] [] = some [] := rfl
  obtain ⟨i1, hi1⟩ : ∃ i, 256 * (c + 1 + 1 + 1) = i := ⟨_, rfl⟩
  obtain ⟨A1, hA1⟩ : ∃ A, newB K i1 [] = A := ⟨_, rfl⟩
  have s1 : Same c h A1 := by rw [← hA1]; exact sK.trans (by intro b hb; rw [newB_f, if_neg (by omega)])
  have f1 : A1.f i1 = some (.cells false none []) := by rw [← hA1, newB_f, if_pos rfl]
  have lA : ld1 A1 (.pointer (some ⟨256 * c, 0, none⟩)) = some s := by rw [ld1_holds' (hgK.eqf (by rw [← hA1, newB_f, if_neg (by omega)]))]; rfl
  obtain ⟨x, A2, p1, x1, x2, x3, p2, px⟩ := app_copy (c := c) (c' := c + 1 + 1 + 1 + 1) (SlC.keep hs s1 Cs) hs.1 (by omega) 160 i1 (i1 + 3) f1 (by omega) (by omega) (by omega) (by omega)
  obtain ⟨xb, hxb⟩ : ∃ b, i1 + 5 = b := ⟨_, rfl⟩
  obtain ⟨A3, hA3⟩ : ∃ A, newB A2 xb [x] = A := ⟨_, rfl⟩
  have hbv : bldV [(.slice none 0 0)] [(0, 1, x)] = some (.agg #[x]) := by
    obtain ⟨_, _, a, cap, rfl, _⟩ := x1
    rfl
  have st : stN (newB A2 xb [(.slice none 0 0)]) 1 (.pointer (some ⟨xb, 0, none⟩)) (.agg #[x]) = some A3 := by
    rw [stN_own1 (w := .slice none 0 0) (by rw [newB_f, if_pos rfl]) x1.flat, newB_newB, hA3]
  have s3 : Same c h A3 := fun b hb => by rw [← hA3, newB_f, if_neg (by omega), p2 b (by omega), s1 b hb]
  have x3' : SlI A3 (c + 1 + 1 + 1 + 1) x 20 n Gl := x1.keep fun hp => by
    rw [← hA3, newB_f, if_neg]
    rw [(px hp).1, blkOf_sl]; omega
  have hX3 : Holds A3 xb [x] := by rw [← hA3]; exact Holds.newB_same _ _ _
  have hg3 : Holds A3 (256 * c) [s] := hgK.eqf (by rw [← hA3, newB_f, if_neg (by omega), p2 _ (by omega), ← hA1, newB_f, if_neg (by omega)])
  obtain ⟨i2, hi2⟩ : ∃ i, 256 * (c + 1 + 1 + 1 + 1) = i := ⟨_, rfl⟩
  obtain ⟨A4, hA4⟩ : ∃ A, newB A3 i2 [] = A := ⟨_, rfl⟩
  have t4 : ∀ b, b < i2 → A4.f b = A3.f b := fun b hb => by rw [← hA4, newB_f, if_neg (by omega)]
  have s4 : Same c h A4 := fun b hb => by rw [t4 b (by omega), s3 b hb]
  have f4 : A4.f i2 = some (.cells false none []) := by rw [← hA4, newB_f, if_pos rfl]
  obtain ⟨u', A5, p5, u1, u2, u3, t5, -⟩ := app_copy (c := c) (c' := c + 1 + 1 + 1 + 1 + 1) (SlC.keep hu s4 Cu) hu.1 (by omega) 8 i2 (i2 + 2) f4 (by omega) (by omega) (by omega) (by omega)
  have s5 : Same c h A5 := fun b hb => by rw [t5 b (by omega), s4 b hb]
  obtain ⟨i3, hi3⟩ : ∃ i, 256 * (c + 1 + 1 + 1 + 1 + 1) = i := ⟨_, rfl⟩
  obtain ⟨A6, hA6⟩ : ∃ A, newB A5 i3 [] = A := ⟨_, rfl⟩
  have t6 : ∀ b, b < i3 → A6.f b = A5.f b := fun b hb => by rw [← hA6, newB_f, if_neg (by omega)]
  have s6 : Same c h A6 := fun b hb => by rw [t6 b (by omega), s5 b hb]
  have f6 : A6.f i3 = some (.cells false none []) := by rw [← hA6, newB_f, if_pos rfl]
  obtain ⟨v', A7, p7, v1, v2, v3, t7, -⟩ := app_copy (c := c) (c' := c + 1 + 1 + 1 + 1 + 1 + 1) (SlC.keep hv s6 Cv) hv.1 (by omega) 8 i3 (i3 + 2) f6 (by omega) (by omega) (by omega) (by omega)
  have s7 : Same c h A7 := fun b hb => by rw [t7 b (by omega), s6 b hb]
  obtain ⟨i4, hi4⟩ : ∃ i, 256 * (c + 1 + 1 + 1 + 1 + 1 + 1) = i := ⟨_, rfl⟩
  obtain ⟨A8, hA8⟩ : ∃ A, newB A7 i4 [] = A := ⟨_, rfl⟩
  have t8 : ∀ b, b < i4 → A8.f b = A7.f b := fun b hb => by rw [← hA8, newB_f, if_neg (by omega)]
  have s8 : Same c h A8 := fun b hb => by rw [t8 b (by omega), s7 b hb]
  have f8 : A8.f i4 = some (.cells false none []) := by rw [← hA8, newB_f, if_pos rfl]
  obtain ⟨q', A9, p9, q1, q2, q3, t9, -⟩ := app_copy (c := c) (c' := c + 1 + 1 + 1 + 1 + 1 + 1 + 1) (SlC.keep hq s8 Cq) hq.1 (by omega) 8 i4 (i4 + 2) f8 (by omega) (by omega) (by omega) (by omega)
  have s9 : Same c h A9 := fun b hb => by rw [t9 b (by omega), s8 b hb]
  have w79 : ∀ b, b < i4 → A9.f b = A7.f b := fun b hb => by rw [t9 b (by omega), t8 b hb]
  have w59 : ∀ b, b < i3 → A9.f b = A5.f b := fun b hb => by rw [w79 b (by omega), t7 b (by omega), t6 b hb]
  have w39 : ∀ b, b < i2 → A9.f b = A3.f b := fun b hb => by rw [w59 b (by omega), t5 b (by omega), t4 b hb]
  obtain ⟨k, hk⟩ : ∃ k, c + 1 + 1 + 1 + 1 + 1 + 1 + 1 = k := ⟨_, rfl⟩
  have m59 : Same (c + 1 + 1 + 1 + 1 + 1) A5 A9 := fun b hb => w59 b (by omega)
  have m79 : Same (c + 1 + 1 + 1 + 1 + 1 + 1) A7 A9 := fun b hb => w79 b (by omega)
  have m39 : Same (c + 1 + 1 + 1 + 1) A3 A9 := fun b hb => w39 b (by omega)
  have ix : SlI A9 k x 20 n Gl := (x3'.same m39).mono (by omega)
  have iu : SlI A9 k u' 1 nu U := (u1.same m59).mono (by omega)
  have iv : SlI A9 k v' 1 nv V := (v1.same m79).mono (by omega)
  have iq : SlI A9 k q' 1 nq Qd := q1.mono (by omega)
  have xu : SlX A9 u' 1 nu := SlX.keep u1 m59 u2
  have xv : SlX A9 v' 1 nv := SlX.keep v1 m79 v2
  have xq : SlX A9 q' 1 nq := q2
  have cv : SlC A9 v' 1 nv V := SlC.keep v1 m79 v3
  have hX9 : Holds A9 xb [x] := hX3.eqf (w39 xb (by omega))
  have hg9 : Holds A9 (256 * c) [s] := hg3.eqf (w39 _ (by omega))
  have js : SlI A9 k s 20 n Gl := (hs.same s9).mono (by omega)
  have ju : SlI A9 k u 1 nu U := (hu.same s9).mono (by omega)
  have jv : SlI A9 k v 1 nv V := (hv.same s9).mono (by omega)
  have jq : SlI A9 k q 1 nq Qd := (hq.same s9).mono (by omega)
  have S1 : Stay k A9 17 [.agg #[x], v'] := .pure fun H c hc hh => ⟨_, checkN_sp x v' n nv Gl V H c [] ((ix.same hh).mono hc) ((iv.same hh).mono hc) (SlX.keep iv hh xv) (by omega)⟩
  have S2 : Stay k A9 27 [.agg #[x]] := .ans fun H c hc hh => (equations_sp x n Gl H c [] ((ix.same hh).mono hc)).mono fun r ⟨_, _, a, b, d⟩ => ⟨a, b, d.elim (fun e => ⟨_, e.2⟩) (fun ⟨_, _, e, _⟩ => ⟨_, e⟩)⟩
  have S3 : Stay k A9 16 [.agg #[x], v'] := .ans fun H c hc hh => (weightsN_sp x v' n nv Gl V H c [] ((ix.same hh).mono hc) ((iv.same hh).mono hc) (SlX.keep iv hh xv) (by omega)).mono fun r ⟨_, _, a, b, d⟩ => ⟨a, b, d.elim (fun e => ⟨_, e.2⟩) (fun ⟨_, _, e, _⟩ => ⟨_, e⟩)⟩
  have S4 : Stay k A9 15 [.agg #[x], v'] := .pure fun H c hc hh => ⟨_, euler_sp x v' n nv Gl V H c [] ((ix.same hh).mono hc) ((iv.same hh).mono hc) (SlX.keep iv hh xv) (by omega)⟩
  have S5 : Stay k A9 14 [.agg #[x]] := .ans fun H c hc hh => (links_sp x n Gl H c [] ((ix.same hh).mono hc)).mono fun r ⟨_, _, a, b, d⟩ => ⟨a, b, d.elim (fun e => ⟨_, e.2⟩) (fun ⟨_, _, e, _⟩ => ⟨_, e⟩)⟩
  have S6 : Stay k A9 34 [.agg #[x], u', v'] := .ans fun H c hc hh => (sum_sp x u' v' n nu nv Gl U V H c [] ((ix.same hh).mono hc) ((iu.same hh).mono hc) ((iv.same hh).mono hc) (SlX.keep iu hh xu) (SlX.keep iv hh xv) (by omega) (by omega)).mono fun r ⟨_, _, a, b, d⟩ => ⟨a, b, d.elim (fun e => ⟨_, e.2⟩) (fun ⟨_, _, e, _⟩ => ⟨_, e⟩)⟩
  have S7 : Stay k A9 24 [.agg #[x], v'] := .ans fun H c hc hh => (quadsN_sp x v' n nv Gl V H c [] ((ix.same hh).mono hc) ((iv.same hh).mono hc) (SlX.keep iv hh xv) (by omega)).mono fun r ⟨_, _, a, b, d⟩ => ⟨a, b, d.elim (fun e => ⟨_, e.2⟩) (fun ⟨_, _, e, _⟩ => ⟨_, e⟩)⟩
  have S8 : Stay k A9 25 [.agg #[x], q'] := .ans fun H c hc hh => (fill_sp x q' n nq Gl Qd H c [] ((ix.same hh).mono hc) hn ((iq.same hh).mono hc) (SlX.keep iq hh xq) (by omega)).mono fun r ⟨_, _, a, b, d⟩ => ⟨a, b, d.elim (fun e => ⟨_, e.2⟩) (fun ⟨_, _, _, _, e, _⟩ => ⟨_, e⟩)⟩
  have S9 : Stay k A9 23 [.agg #[x], v'] := .ans fun H c hc hh => (partN_sp x v' n nv Gl V H c [] ((ix.same hh).mono hc) ((iv.same hh).mono hc) (SlX.keep iv hh xv) (SlC.keep iv hh cv) (by omega)).mono fun r ⟨_, _, a, b, d⟩ => ⟨a, b, d.elim (fun e => ⟨_, e.2⟩) (fun ⟨_, _, _, e, _⟩ => ⟨_, e⟩)⟩
  have lx : ∀ H, Same k A9 H → ldN H 1 (.pointer (some ⟨xb, 0, none⟩)) = some (.agg #[x]) := fun H hh => ldN1_own (hX9.same (by omega) hh)
  have lg : ∀ H, Same k A9 H → ldN H 1 (.pointer (some ⟨256 * c, 0, none⟩)) = some (.agg #[s]) := fun H hh => ldN1_own (hg9.same (by omega) hh)
  have l0 := lx A9 (Same.refl _ _)
  obtain ⟨z1, B1, k1, e1, g1, m1⟩ := S1 A9 (c + 1 + 1 + 1 + 1 + 1 + 1 + 1 + 1) (by omega) (Same.refl _ _)
  have l1' := lx B1 m1
  obtain ⟨z2, B2, k2, e2, g2, m2⟩ := S2 B1 (k1 + 1) (by omega) m1
  have l2 := lx B2 m2
  obtain ⟨z3, B3, k3, e3, g3, m3⟩ := S3 B2 (k2 + 1) (by omega) m2
  have l3 := lx B3 m3
  obtain ⟨z4, B4, k4, e4, g4, m4⟩ := S4 B3 (k3 + 1) (by omega) m3
  have l4 := lx B4 m4
  obtain ⟨z5, B5, k5, e5, g5, m5⟩ := S5 B4 (k4 + 1) (by omega) m4
  have l5 := lx B5 m5
  obtain ⟨z6, B6, k6, e6, g6, m6⟩ := S6 B5 (k5 + 1) (by omega) m5
  have l6 := lx B6 m6
  obtain ⟨z7, B7, k7, e7, g7, m7⟩ := S7 B6 (k6 + 1) (by omega) m6
  have l7 := lx B7 m7
  obtain ⟨z8, B8, k8, e8, g8, m8⟩ := S8 B7 (k7 + 1) (by omega) m7
  have l8 := lx B8 m8
  obtain ⟨z9, B9, k9, e9, g9, m9⟩ := S9 B8 (k8 + 1) (by omega) m8
  have l9 := lx B9 m9
  have l10 := lg B9 m9
  have c39 := fun c' (hc : k ≤ c') => callF_of (sameR_sp x s n n Gl Gl B9 c' [] ((ix.same m9).mono hc) ((js.same m9).mono hc) (by omega))
  have cu := fun c' (hc : k ≤ c') => callF_of (sameInts_sp u' u nu nu U U B9 c' [] ((iu.same m9).mono hc) ((ju.same m9).mono hc))
  have cv := fun c' (hc : k ≤ c') => callF_of (sameInts_sp v' v nv nv V V B9 c' [] ((iv.same m9).mono hc) ((jv.same m9).mono hc))
  have cq := fun c' (hc : k ≤ c') => callF_of (sameInts_sp q' q nq nq Qd Qd B9 c' [] ((iq.same m9).mono hc) ((jq.same m9).mono hc))
  rw [show sameB2 n n Gl Gl = true by simp [sameB2]] at c39
  rw [decide_eq_true rfl] at cu cv cq
  clear S1 S2 S3 S4 S5 S6 S7 S8 S9 lx lg
  have fx := And.intro k0 (And.intro l1 (And.intro cs (And.intro hbl (And.intro hsb (And.intro hK (And.intro ch (And.intro hb0 (And.intro hi1 (And.intro hA1 (And.intro lA (And.intro p1 (And.intro hxb (And.intro hbv (And.intro st (And.intro hi2 (And.intro hA4 (And.intro p5 (And.intro hi3 (And.intro hA6 (And.intro p7 (And.intro hi4 (And.intro hA8 (And.intro p9 (And.intro l0 (And.intro e1 (And.intro l1' (And.intro e2 (And.intro l2 (And.intro e3 (And.intro l3 (And.intro e4 (And.intro l4 (And.intro e5 (And.intro l5 (And.intro e6 (And.intro l6 (And.intro e7 (And.intro l7 (And.intro e8 (And.intro l8 (And.intro e9 (And.intro l9 (And.intro l10 (And.intro c39 (And.intro cu (And.intro cv cq))))))))))))))))))))))))))))))))))))))))))))))
  refine Ans.go ?_
  clear fx
  exact .done ⟨rfl, rfl⟩
end Go.Proofs.Ytcnndelmnobigaa

namespace Go.Ab
open Go Go.ChangeShapes Go.RowKit
set_option linter.unusedVariables false
set_option linter.unusedSimpArgs false
theorem rows_relC {W : World} (l : List (Value × Nat × Nat × List Int)) (hl : l.length ≤ 256) (h : ∀ (k : Nat) (p : Value × Nat × Nat × List Int), l[k]? = some p → OpenS W p.1 p.2.1 p.2.2.1 p.2.2.2) :
    ∃ (A : FH) (μ : Mu), R μ A W ∧ Fresh μ 1 ∧ (∀ i m, μ i = some m → wrB (HeapC.get A i) = false) ∧ ∀ (k : Nat) (p : Value × Nat × Nat × List Int), l[k]? = some p → SlI A 1 (absS k p.1) p.2.1 p.2.2.1 p.2.2.2 ∧ VR μ (absS k p.1) p.1 ∧ SlX A (absS k p.1) p.2.1 p.2.2.1 ∧ SlC A (absS k p.1) p.2.1 p.2.2.1 p.2.2.2 := by
  let blk : Nat → Option ABlk := fun i => (l[i]?).bind fun p => (absM p.1).map fun _ => .cells true none (ints p.2.2.2)
  let mu : Mu := fun i => (l[i]?).bind fun p => absM p.1
  have key : ∀ i m, mu i = some m → ∃ p, l[i]? = some p ∧ absM p.1 = some m ∧ blk i = some (.cells true none (ints p.2.2.2)) := by
    intro i m e
    cases hp : l[i]? with
    | none => simp only [mu, hp] at e; cases e
    | some p =>
      simp only [mu, hp, Option.bind_some] at e
      exact ⟨p, rfl, e, by simp only [blk, hp, Option.bind_some, e, Option.map_some]⟩
  refine ⟨⟨blk⟩, mu, ⟨fun i m e => ?_, fun i j mi mj ei ej hne di dj hro => ?_, fun i m e => ?_⟩, fun i hi => ?_, fun i m e => ?_, fun k p hp => ?_⟩
  · obtain ⟨p, h1, h2, h3⟩ := key i m e
    have := ((h i p h1).blk (μ := mu) h2).1
    show BlkR mu m W.heap (blk i)
    rw [h3]; exact this
  · obtain ⟨p, h1, h2, h3⟩ := key i mi ei
    obtain ⟨q, g1, g2, g3⟩ := key j mj ej
    exact absurd (show roB (blk i) = true ∧ roB (blk j) = true by rw [h3, g3]; exact ⟨rfl, rfl⟩) hro
  · obtain ⟨p, h1, h2, h3⟩ := key i m e
    exact ((h i p h1).blk (μ := mu) h2).2
  · have : l[i]? = none := List.getElem?_eq_none (by omega)
    simp only [mu, this]; rfl
  · obtain ⟨p, h1, h2, h3⟩ := key i m e
    show wrB (blk i) = false
    rw [h3]; rfl
  · have hk : k < l.length := (List.getElem?_eq_some_iff.1 hp).1
    have hb : ∀ m, absM p.1 = some m → blk k = some (.cells true none (ints p.2.2.2)) := fun m hm => by
      simp only [blk, hp, Option.bind_some, hm, Option.map_some]
    refine ⟨(h k p hp).sl (by omega) (fun m hm => hb m hm), (h k p hp).vr (fun m hm => ?_), (h k p hp).slx (fun m hm => hb m hm), (h k p hp).slc (fun m hm => hb m hm)⟩
    simp only [mu, hp, Option.bind_some, hm]
end Go.Ab

namespace Go.Proofs.Ytcnndelmnobigaa
open Go.ChangeShapes Go.WideShapes Go.ChangeAt Go.RowKit
open Go Go.Ab Go.Proofs
set_option linter.unusedVariables false
set_option maxRecDepth 100000
theorem Try.own : ownKnob Try.prog.godebug = none := by kernel_rfl
theorem Try.laidOut : laidOutB Try.prog = true := by kernel_rfl
theorem flatInt : FlatT P 3 1 := FlatT.int Try.underlying3 (by kernel_rfl)
theorem flatPerm : FlatT P 39 4 := FlatT.array (n := 4) (z := 1) Try.underlying39 flatInt (by kernel_rfl)
theorem flatFace : FlatT P 41 5 := FlatT.struct2 (z0 := 1) (z1 := 4) Try.underlying41 flatInt flatPerm rfl rfl (by kernel_rfl)
theorem flatRow : FlatT P 42 20 := FlatT.array (n := 4) (z := 5) Try.underlying42 flatFace (by kernel_rfl)
theorem open_gluing {H : Type} {enc : TypeId × Value → H} {W : World} {base : Nat} {v : Value} {d : DataW H} {ps : List MemPlace} (hval : Value.okWide P W .any base 24 v) (hd : DataW.Trod enc P W 0 (fun _ => true) true 24 v d ps) :
    ∃ s n Gl, v = .agg #[s] ∧ OpenS W s 20 n Gl :=
  open_s1 Try.underlying24 (by kernel_rfl) (by kernel_rfl) Try.underlying22 rfl rfl (by kernel_rfl) flatRow (by omega) hval hd
theorem open_v {H : Type} {enc : TypeId × Value → H} {W : World} {base : Nat} {v : Value} {d : DataW H} {ps : List MemPlace} (hval : Value.okWide P W .any base 34 v) (hd : DataW.Trod enc P W 0 (fun _ => true) true 34 v d ps) :
    ∃ n Gl, OpenS W v 1 n Gl := open_sl (e := 3) (sz := 1) Try.underlying34 flatInt (by omega) hval hd
theorem law_calls {f : FuncId} {W : World} {A : FH} {μ : Mu} {xs ys : List Value} (hR : R μ A W) (hf : Fresh μ 1) (hro : ∀ i m, μ i = some m → wrB (HeapC.get A i) = false) (hv : VRs μ xs ys) (h : Ans (G (.fn f) xs A 1 []) fun x => x.e = .ret ∧ x.vs = [.bool true]) :
    Calls P f ys.toArray W (LawEnd W) := by
  obtain ⟨x, hx, he, hvs⟩ := h
  refine (runG_calls bk_ok ext_ok mixed hx hv hR hf).mono ?_
  rintro en w' ⟨u, v', μ', h1, h2, h3, hE⟩
  rw [hvs] at h1
  cases h1
  exact ⟨by rw [h2, h3.bool_left], hE.os, hE.tape, hE.output, hE.size, fun k hk => hE.fr k hk (fun i m e hw => by rw [hro i m e] at hw; cases hw)⟩
end Go.Proofs.Ytcnndelmnobigaa
