/- Parts of a proof: N10 N11 U11 U12 U13 AbRow2 AbRow3 RowK. Conditions: none. -/
import Derived.Test.YtcnndelmnobigaaM5
import Derived.Test.YtcnndelmnobigaaM6
import Derived.Test.YtcnndelmnobigaaM7
import Derived.Test.YtcnndelmnobigaaM4
import Derived.Test.YtcnndelmnobigaaRows
import Derived.ProofKit
set_option linter.all false
namespace Go.Proofs.Ytcnndelmnobigaa
open Go Go.Ab Go.Proofs
set_option maxRecDepth 100000
set_option linter.unusedVariables false
set_option linter.unusedSimpArgs false
theorem sane_call (h : FH) (c : Nat) : callF G 11 [] h c = some (.bool true, h, c) := callF_of (runG_ext (f := 11) (args := []) (h := h) (c := c) (r := { e := .ret, vs := [.bool true], h := h, c := c, df := [] }) rfl)
end Go.Proofs.Ytcnndelmnobigaa

namespace Go.Proofs.Ytcnndelmnobigaa
open Go Go.Ab Go.Proofs
set_option maxRecDepth 100000
set_option linter.unusedVariables false
set_option linter.unusedSimpArgs false
theorem EqV.len {c0 : Nat} {h : FH} {c n : Nat} {Gl : List Int} {v : Value} (e : EqV c0 h c n Gl v) : lenS v = some (.int .i64 (allM Gl n).length) := by
  obtain ⟨vals, ⟨_, _, _, i, op, rfl, _⟩, _⟩ := e
  rfl
theorem EqV.okV {c0 : Nat} {h : FH} {c n : Nat} {Gl : List Int} {v : Value} (e : EqV c0 h c n Gl v) : OkV c v := by
  obtain ⟨vals, ⟨_, _, _, i, op, rfl, _, h6, _⟩, _⟩ := e
  exact OkV.sl h6
theorem EqV.mono {c0 : Nat} {h : FH} {c c' n : Nat} {Gl : List Int} {v : Value} (hc : c ≤ c') (e : EqV c0 h c n Gl v) : EqV c0 h c' n Gl v := by
  obtain ⟨vals, h1, h2⟩ := e
  refine ⟨vals, h1.mono hc, fun k m hk => ?_⟩
  obtain ⟨x, x1, b, y1, y2, y3, y4⟩ := h2 k m hk
  exact ⟨x, x1, b, y1, y2, by omega, y4⟩
theorem EqV.at {c0 : Nat} {h : FH} {c n : Nat} {Gl : List Int} {v : Value} (e : EqV c0 h c n Gl v) {i : Nat} (hi : i < (allM Gl n).length) :
    ∃ x p, ixS 1 v (.int .i64 i) = some p ∧ ld1 h p = some x ∧ lenS x = some (.int .i64 (7 * n : Nat)) ∧ SlI h c x 1 (7 * n) (eqRow n ((allM Gl n).getD i [])) := by
  obtain ⟨vals, ⟨h1, h2, h3, b, op, rfl, h5, h6, h7, h8⟩, h9⟩ := e
  obtain ⟨x, x1, b', rfl, y2, y3, y4, y5, y6⟩ := h9 i _ (List.getElem?_eq_getElem hi)
  have hg : (allM Gl n).getD i [] = (allM Gl n)[i] := by simp [List.getD, List.getElem?_eq_getElem hi]
  rw [hg]
  refine ⟨.slice (some ⟨b', 0, none⟩) (7 * n) (7 * n), .pointer (some ⟨b, 0 + (i : Int).toNat * 1, none⟩), ixS_sl _ _ _ _ _ _ _ (by omega) (by omega), ?_, rfl, ⟨by rw [y5]; omega, by omega, _, _, rfl, .inr ⟨b', 0, ints (eqRow n (allM Gl n)[i]), rfl, y3, ⟨false, none, y4⟩, ?_⟩⟩⟩
  · rw [ld1_holds' (cs := vals) ⟨false, op, h7⟩]
    simpa using x1
  · rw [List.drop_zero, List.take_of_length_le (by simp [y5])]
theorem gi_get (V : List Int) {j : Nat} (hj : j < V.length) : gi V (j : Nat) = V[j] := by
  simp [gi, List.getD, List.getElem?_eq_getElem hj]
end Go.Proofs.Ytcnndelmnobigaa

namespace Go.Proofs.Ytcnndelmnobigaa
open Go Go.Ab Go.Proofs
set_option maxRecDepth 100000
set_option linter.unusedVariables false
set_option linter.unusedSimpArgs false
theorem OkV.tup2 (c : Nat) (k k' : IntKind) (a b : Int) : OkV c (.tuple #[.int k a, .int k' b]) := by
  refine ⟨.tuple #[.int k a, .int k' b], .tuple rfl (fun i x y hx hy => ?_)⟩
  match i, hx, hy with
  | 0, hx, hy => cases hx; cases hy; exact .int _ _
  | 1, hx, hy => cases hx; cases hy; exact .int _ _
  | i + 2, hx, hy => simp at hx
theorem chkE_zero {Gl : List Int} {n : Nat} {b : Bool} (hE : chkE Gl n b = 0) : refE Gl n = 0 ∧ b = true := by
  unfold chkE at hE
  split at hE
  · rename_i h1
    split at hE
    · rename_i h2; exact ⟨h1, h2⟩
    · cases hE
  · rename_i h1; exact absurd hE h1
theorem admB_w {Gl V : List Int} {n : Nat} (ha : admB Gl n V = true) : V.length = 7 * n ∧ withinB V = true := by
  unfold admB at ha
  simp only [Bool.and_eq_true, decide_eq_true_eq] at ha
  exact ⟨ha.1.1.1, ha.1.1.2⟩
def eulL (Gl : List Int) (n : Nat) (V : List Int) : Int := sumL ((edF Gl n).map (wgt V)) + sumL V - sT Gl V n 0
def eulV (Gl : List Int) (n : Nat) (V : List Int) : Int := if chkE Gl n (admB Gl n V) = 0 then eulL Gl n V else 0
set_option maxHeartbeats 1000000 in
theorem euler_sp (s v : Value) (n nv : Nat) (Gl V : List Int) (h : FH) (c : Nat) (df : List Nat) (hs : SlI h c s 20 n Gl) (hv : SlI h c v 1 nv V) (hx : SlX h v 1 nv) (hnv : nv ≤ 1000000) :
    G (.fn 15) [.agg #[s], v] h c df = some { e := .ret, vs := [.tuple #[.int .i64 (eulV Gl n V), .int .i64 (chkE Gl n (admB Gl n V))]], h := h, c := c, df := [] } := by
  refine pure_of' (fun r e => f15_go e) (OkV.tup2 _ _ _ _ _) ?_
  unfold f15_S
  rw [flat1 hs.flat, cell1, Nat.add_zero]
  simp only [cond_true]
  have hbl := bldL_v hv
  obtain ⟨H, hH⟩ : ∃ H, H = newB (newB h (256 * c) [s]) (256 * (c + 1) + 2) [v] := ⟨_, rfl⟩
  have sH : Same c h H := by rw [hH]; simp (disch := omega)
  have hg : Holds H (256 * c) [s] := by rw [hH]; exact (Holds.newB_same _ _ _).newB_ne (by omega)
  have hq : Holds H (256 * (c + 1) + 2) [v] := by rw [hH]; exact Holds.newB_same _ _ _
  have l0 : ldN (newB h (256 * c) [s]) 1 (.pointer (some ⟨256 * c, 0, none⟩)) = some (.agg #[s]) := ldN1_own (Holds.newB_same _ _ _)
  have l1 := ldN1_own hg
  have c1 := check1 s v n nv Gl V (256 * (c + 1) + 2) H (c + 1 + 1) ((hs.same sH).mono (by omega)) ((hv.same sH).mono (by omega)) (SlX.keep hv sH hx) hnv (by omega) hq
  have hH' := hH.symm
  unfold eulV
  obtain ⟨E, hE⟩ : ∃ E, chkE Gl n (admB Gl n V) = E := ⟨_, rfl⟩
  rw [hE] at c1 ⊢
  by_cases h0 : E = 0
  case neg =>
    rw [if_neg h0]
    repeat' (first
     | ((with_reducible first | refine Ans.bz ?_ | refine Ans.r1 ?_ | refine Ans.pkT ?_ | refine Ans.pkF ?_); try dsimp only [v_zero, v_succ])
     | (with_reducible first | refine Ans.btL ?_ | refine Ans.bfL ?_ | refine Ans.gyT ?_ | refine Ans.gyF ?_ | refine Ans.gyG ?_ | refine Ans.bb ?_ | refine Ans.bc ?_ | refine Ans.ba ?_)
     | ((with_reducible first | refine Ans.lsT ?_ ?_ | refine Ans.leT ?_ ?_ | refine Ans.grT ?_ ?_ | refine Ans.geT ?_ ?_ | refine Ans.eqT ?_ ?_ | refine Ans.neT ?_ ?_); (focus omega))
     | ((with_reducible first | refine Ans.lsF ?_ ?_ | refine Ans.leF ?_ ?_ | refine Ans.grF ?_ ?_ | refine Ans.geF ?_ ?_ | refine Ans.eqF ?_ ?_ | refine Ans.neF ?_ ?_); (focus omega))
     | (with_reducible first | refine Ans.lsS (fun _ => ?_) (fun _ => ?_) | refine Ans.leS (fun _ => ?_) (fun _ => ?_) | refine Ans.grS (fun _ => ?_) (fun _ => ?_) | refine Ans.geS (fun _ => ?_) (fun _ => ?_) | refine Ans.eqS (fun _ => ?_) (fun _ => ?_) | refine Ans.neS (fun _ => ?_) (fun _ => ?_))
     | ((with_reducible first | refine Ans.addN ?_ ?_ | refine Ans.add ?_ ?_ | refine Ans.sub ?_ ?_ | refine Ans.mul ?_ ?_); (focus omega))
     | ((with_reducible first | refine Ans.ct ?_ ?_); (focus (simp (disch := (first | omega | with_reducible assumption | (simp <;> omega) | fail)) [l0, hbl, hH', c1]; done)))
     | ((with_reducible first | refine Ans.cf ?_ ?_); (focus (simp (disch := (first | omega | with_reducible assumption | (simp <;> omega) | fail)) [l0, hbl, hH', c1]; done)))
     | (refine Ans.step (by simp (disch := (first | omega | with_reducible assumption | (simp <;> omega) | fail)) [l0, hbl, hH', c1, -List.getD_eq_getElem?_getD] <;> rfl) ?_; try dsimp only [v_zero, v_succ])
     | fail)
    exact Ans.pure rfl sH
  obtain ⟨hr0, ha⟩ := chkE_zero (hE.trans h0)
  obtain ⟨hn, hok⟩ := refE_zero hr0
  obtain ⟨a1, a2⟩ := admB_w ha
  have hV := withinI a2
  have hnv' : nv = 7 * n := by have := hv.1; omega
  subst h0
  rw [if_pos rfl]
  obtain ⟨⟨re, rv, H2, c2, rd⟩, hr, w, q1, q2, q3, q4⟩ := weights_sp s v n nv Gl V H (c + 1 + 1 + 1 + 1) [] ((hs.same sH).mono (by omega)) ((hv.same sH).mono (by omega)) hok hn hnv' hV
  obtain ⟨rfl, rfl, -, -, rfl⟩ := Rt.mk.inj q1
  simp only at q2 q3 q4
  have cw := callF_of hr
  have s2 : Same c h H2 := sH.trans (q3.mono (by omega))
  have hel : (edF Gl n).length ≤ 6 * n := firstsL_len _ _
  have b1 : ∀ x, x ∈ (edF Gl n).map (wgt V) → 0 ≤ x ∧ x ≤ 5000000 := fun x hx => by
    obtain ⟨y, _, rfl⟩ := List.mem_map.1 hx
    exact weightL_bound hV
  have b2 : ∀ x, x ∈ V → 0 ≤ x ∧ x ≤ 5000000 := fun x hx => by
    obtain ⟨j, hj, rfl⟩ := List.getElem_of_mem hx
    have := hV j
    rw [gi_get V hj] at this
    omega
  have t1 := fun c' (hc : c2 ≤ c') => callF_of (total_sp w _ _ H2 c' [] (q4.sl.mono hc) (by omega) b1)
  have t2 := fun c' (hc : c ≤ c') => callF_of (total_sp v _ _ H2 c' [] ((hv.same s2).mono hc) (by omega) b2)
  have k1 := sumL_bound (B := 5000000) (by omega) b1
  have k2 := sumL_bound (B := 5000000) (by omega) b2
  rw [List.length_map] at k1
  unfold eulL
  obtain ⟨S1, hS1⟩ : ∃ S, sumL ((edF Gl n).map (wgt V)) = S := ⟨_, rfl⟩
  obtain ⟨S2, hS2⟩ : ∃ S, sumL V = S := ⟨_, rfl⟩
  rw [hS1] at t1 k1 ⊢
  rw [hS2] at t2 k2 ⊢
  have hg2 : Holds H2 (256 * c) [s] := hg.eqf (q3 _ (by omega))
  have l2 : ld1 H2 (.pointer (some ⟨256 * c, 0, none⟩)) = some s := by rw [ld1_holds' hg2]; rfl
  have ls := hs.len
  have hl := Ans.eq (tet_loop v s n nv Gl V H2 (c2 + 1) [] ((hs.same s2).mono (by omega)) ((hv.same s2).mono (by omega)) hnv' hn hV hok n 0 (S1 + S2) (by omega) (by omega) (by omega))
  simp only [Int.ofNat_eq_natCast, Int.cast_ofNat_Int] at hl
  repeat' (first
   | ((with_reducible first | refine Ans.bz ?_ | refine Ans.r1 ?_ | refine Ans.pkT ?_ | refine Ans.pkF ?_); try dsimp only [v_zero, v_succ])
   | (with_reducible first | refine Ans.btL ?_ | refine Ans.bfL ?_ | refine Ans.gyT ?_ | refine Ans.gyF ?_ | refine Ans.gyG ?_ | refine Ans.bb ?_ | refine Ans.bc ?_ | refine Ans.ba ?_)
   | ((with_reducible first | refine Ans.lsT ?_ ?_ | refine Ans.leT ?_ ?_ | refine Ans.grT ?_ ?_ | refine Ans.geT ?_ ?_ | refine Ans.eqT ?_ ?_ | refine Ans.neT ?_ ?_); (focus omega))
   | ((with_reducible first | refine Ans.lsF ?_ ?_ | refine Ans.leF ?_ ?_ | refine Ans.grF ?_ ?_ | refine Ans.geF ?_ ?_ | refine Ans.eqF ?_ ?_ | refine Ans.neF ?_ ?_); (focus omega))
   | (with_reducible first | refine Ans.lsS (fun _ => ?_) (fun _ => ?_) | refine Ans.leS (fun _ => ?_) (fun _ => ?_) | refine Ans.grS (fun _ => ?_) (fun _ => ?_) | refine Ans.geS (fun _ => ?_) (fun _ => ?_) | refine Ans.eqS (fun _ => ?_) (fun _ => ?_) | refine Ans.neS (fun _ => ?_) (fun _ => ?_))
   | ((with_reducible first | refine Ans.addN ?_ ?_ | refine Ans.add ?_ ?_ | refine Ans.sub ?_ ?_ | refine Ans.mul ?_ ?_); (focus omega))
   | ((with_reducible first | refine Ans.ct ?_ ?_); (focus (simp (disch := (first | omega | with_reducible assumption | (simp <;> omega) | fail)) [l0, hbl, hH', c1, l1, cw, t1, t2, l2, ls, hl]; done)))
   | ((with_reducible first | refine Ans.cf ?_ ?_); (focus (simp (disch := (first | omega | with_reducible assumption | (simp <;> omega) | fail)) [l0, hbl, hH', c1, l1, cw, t1, t2, l2, ls, hl]; done)))
   | (refine Ans.step (by simp (disch := (first | omega | with_reducible assumption | (simp <;> omega) | fail)) [l0, hbl, hH', c1, l1, cw, t1, t2, l2, ls, hl, -List.getD_eq_getElem?_getD] <;> rfl) ?_; try dsimp only [v_zero, v_succ])
   | fail)
  exact Ans.pure rfl s2
theorem checks2 (s u v : Value) (n nu nv : Nat) (Gl U V : List Int) (sb : Nat) (h : FH) (c : Nat) (hs : SlI h c s 20 n Gl) (hu : SlI h c u 1 nu U) (hv : SlI h c v 1 nv V) (hxu : SlX h u 1 nu) (hxv : SlX h v 1 nv) (hnu : nu ≤ 1000000) (hnv : nv ≤ 1000000) (hsb : sb < 256 * c) (hh : Holds h sb [u, v]) :
    callF G 47 [.agg #[s], .slice (some ⟨sb, 0, none⟩) 2 2] h c = some (.int .i64 (chkE Gl n (admB Gl n U && admB Gl n V)), h, c) := by
  have := checks_sp s n Gl [u, v] (fun j => if j = 0 then U else V) (fun j => if j = 0 then nu else nv) sb h c [] hs hsb hh (by simp) (fun j => by split <;> omega) (fun j hj => by
    match j, hj with
    | 0, _ => exact ⟨hu, hxu⟩
    | 1, _ => exact ⟨hv, hxv⟩)
  have e : ((List.range [u, v].length).all fun i => admB Gl n (if i = 0 then U else V)) = (admB Gl n U && admB Gl n V) := by
    show ((List.range 2).all fun i => admB Gl n (if i = 0 then U else V)) = _
    simp [List.range_succ]
  rw [e] at this
  exact callF_of this
theorem sum_quads (v8 : Value) (v7 o : Value) (n nv : Nat) (O : List Int) (c : Nat) (h : FH) (hn : n ≤ 60) (hnv : nv = 7 * n) (hs : SlI h c o 1 nv O) (hx : SlX h o 1 nv) (df : List Nat) (o8 : OkV c v8) (o7 : OkV c v7) :
    ∀ (k t : Nat), t + k = n → Ans (G (f34_k34000 none) [v8, v7, o, .int .i64 n, .int .i64 t] h c df) fun r => r.c = c ∧ r.df = df ∧ r.h = h ∧
      ((r.e = .exit 0 ∧ r.vs = [v8, v7, o, .int .i64 n, .int .i64 n] ∧ ∀ u, t ≤ u → u < n → areQ (quadAt O u) = true) ∨
       (r.e = .ret ∧ r.v 0 = .slice none 0 0 ∧ r.v 1 = .int .i64 1 ∧ ∃ u, u < n ∧ areQ (quadAt O u) = false)) := by
  intro k
  have o1 := hs.okV
  induction k with
  | zero =>
    intro t ht
    obtain rfl : t = n := by omega
    refine Ans.loop (fun q r => f34_N34000) (fun q => f34_Z34000) ?_
    unfold f34_L34000
    repeat' (first
     | ((with_reducible first | refine Ans.bz ?_ | refine Ans.r1 ?_ | refine Ans.pkT ?_ | refine Ans.pkF ?_); try dsimp only [v_zero, v_succ])
     | (with_reducible first | refine Ans.btL ?_ | refine Ans.bfL ?_ | refine Ans.gyT ?_ | refine Ans.gyF ?_ | refine Ans.gyG ?_ | refine Ans.bb ?_ | refine Ans.bc ?_ | refine Ans.ba ?_)
     | ((with_reducible first | refine Ans.lsT ?_ ?_ | refine Ans.leT ?_ ?_ | refine Ans.grT ?_ ?_ | refine Ans.geT ?_ ?_ | refine Ans.eqT ?_ ?_ | refine Ans.neT ?_ ?_); (focus omega))
     | ((with_reducible first | refine Ans.lsF ?_ ?_ | refine Ans.leF ?_ ?_ | refine Ans.grF ?_ ?_ | refine Ans.geF ?_ ?_ | refine Ans.eqF ?_ ?_ | refine Ans.neF ?_ ?_); (focus omega))
     | (with_reducible first | refine Ans.lsS (fun _ => ?_) (fun _ => ?_) | refine Ans.leS (fun _ => ?_) (fun _ => ?_) | refine Ans.grS (fun _ => ?_) (fun _ => ?_) | refine Ans.geS (fun _ => ?_) (fun _ => ?_) | refine Ans.eqS (fun _ => ?_) (fun _ => ?_) | refine Ans.neS (fun _ => ?_) (fun _ => ?_))
     | ((with_reducible first | refine Ans.addN ?_ ?_ | refine Ans.add ?_ ?_ | refine Ans.sub ?_ ?_ | refine Ans.mul ?_ ?_); (focus omega))
     | ((with_reducible first | refine Ans.ct ?_ ?_); (focus (simp (disch := (first | omega | with_reducible assumption | (simp <;> omega) | fail)) []; done)))
     | ((with_reducible first | refine Ans.cf ?_ ?_); (focus (simp (disch := (first | omega | with_reducible assumption | (simp <;> omega) | fail)) []; done)))
     | (refine Ans.step (by simp (disch := (first | omega | with_reducible assumption | (simp <;> omega) | fail)) [-List.getD_eq_getElem?_getD] <;> rfl) ?_; try dsimp only [v_zero, v_succ])
     | fail)
    (refine Ans.exit0 ?_ ?_ ?_; (focus (simp (disch := (first | omega | with_reducible assumption | (simp <;> omega) | fail)) [o1, o8, o7]; done)); (focus (simp (disch := (first | omega | with_reducible assumption | (simp <;> omega) | fail)) [o1, o8, o7]; done)))
    exact ⟨rfl, rfl, rfl, .inl ⟨rfl, rfl, fun u h1 h2 => by omega⟩⟩
  | succ k ih =>
    intro t ht
    have x1 := SlX.sub hs hx .i64 .i64 (7 * (t : Int) + 4) (7 * (t : Int) + 7) (by omega) (by omega) (by omega) (by omega)
    rw [show (7 * (t : Int) + 4).toNat = 7 * t + 4 by omega, show (7 * (t : Int) + 7).toNat = 7 * t + 7 by omega] at x1
    have x2 := SlI.sub hs (7 * t + 4) (7 * t + 7) (by omega) (by omega) (by omega)
    rw [show 7 * t + 7 - (7 * t + 4) = 3 by omega, Nat.mul_one, Nat.mul_one] at x2
    have c1 := fun c' (hc : c ≤ c') => callF_of (areQ_sp _ 3 _ h c' [] (x2.mono hc) (by omega))
    rw [show (O.drop (7 * t + 4)).take 3 = quadAt O t from rfl] at c1
    refine Ans.loop (fun q r => f34_N34000) (fun q => f34_Z34000) ?_
    unfold f34_L34000
    cases hq : areQ (quadAt O t) with
    | true =>
      rw [hq] at c1
      repeat' (first
       | ((with_reducible first | refine Ans.bz ?_ | refine Ans.r1 ?_ | refine Ans.pkT ?_ | refine Ans.pkF ?_); try dsimp only [v_zero, v_succ])
       | (with_reducible first | refine Ans.btL ?_ | refine Ans.bfL ?_ | refine Ans.gyT ?_ | refine Ans.gyF ?_ | refine Ans.gyG ?_ | refine Ans.bb ?_ | refine Ans.bc ?_ | refine Ans.ba ?_)
       | ((with_reducible first | refine Ans.lsT ?_ ?_ | refine Ans.leT ?_ ?_ | refine Ans.grT ?_ ?_ | refine Ans.geT ?_ ?_ | refine Ans.eqT ?_ ?_ | refine Ans.neT ?_ ?_); (focus omega))
       | ((with_reducible first | refine Ans.lsF ?_ ?_ | refine Ans.leF ?_ ?_ | refine Ans.grF ?_ ?_ | refine Ans.geF ?_ ?_ | refine Ans.eqF ?_ ?_ | refine Ans.neF ?_ ?_); (focus omega))
       | (with_reducible first | refine Ans.lsS (fun _ => ?_) (fun _ => ?_) | refine Ans.leS (fun _ => ?_) (fun _ => ?_) | refine Ans.grS (fun _ => ?_) (fun _ => ?_) | refine Ans.geS (fun _ => ?_) (fun _ => ?_) | refine Ans.eqS (fun _ => ?_) (fun _ => ?_) | refine Ans.neS (fun _ => ?_) (fun _ => ?_))
       | ((with_reducible first | refine Ans.addN ?_ ?_ | refine Ans.add ?_ ?_ | refine Ans.sub ?_ ?_ | refine Ans.mul ?_ ?_); (focus omega))
       | ((with_reducible first | refine Ans.ct ?_ ?_); (focus (simp (disch := (first | omega | with_reducible assumption | (simp <;> omega) | fail)) [x1, c1]; done)))
       | ((with_reducible first | refine Ans.cf ?_ ?_); (focus (simp (disch := (first | omega | with_reducible assumption | (simp <;> omega) | fail)) [x1, c1]; done)))
       | (refine Ans.step (by simp (disch := (first | omega | with_reducible assumption | (simp <;> omega) | fail)) [x1, c1, -List.getD_eq_getElem?_getD] <;> rfl) ?_; try dsimp only [v_zero, v_succ])
       | fail)
      (refine Ans.next0 ?_ ?_ ?_; (focus (simp (disch := (first | omega | with_reducible assumption | (simp <;> omega) | fail)) [o1, o8, o7]; done)); (focus (simp (disch := (first | omega | with_reducible assumption | (simp <;> omega) | fail)) [o1, o8, o7]; done)))
      refine (ih (t + 1) (by omega)).mono ?_
      rintro r ⟨q1, q2, q3, q4⟩
      refine ⟨q1, q2, q3, q4.imp (fun ⟨a, b, e⟩ => ⟨a, b, fun u u1 u2 => ?_⟩) id⟩
      by_cases hu : u = t
      · rw [hu]; exact hq
      · exact e u (by omega) u2
    | false =>
      rw [hq] at c1
      repeat' (first
       | ((with_reducible first | refine Ans.bz ?_ | refine Ans.r1 ?_ | refine Ans.pkT ?_ | refine Ans.pkF ?_); try dsimp only [v_zero, v_succ])
       | (with_reducible first | refine Ans.btL ?_ | refine Ans.bfL ?_ | refine Ans.gyT ?_ | refine Ans.gyF ?_ | refine Ans.gyG ?_ | refine Ans.bb ?_ | refine Ans.bc ?_ | refine Ans.ba ?_)
       | ((with_reducible first | refine Ans.lsT ?_ ?_ | refine Ans.leT ?_ ?_ | refine Ans.grT ?_ ?_ | refine Ans.geT ?_ ?_ | refine Ans.eqT ?_ ?_ | refine Ans.neT ?_ ?_); (focus omega))
       | ((with_reducible first | refine Ans.lsF ?_ ?_ | refine Ans.leF ?_ ?_ | refine Ans.grF ?_ ?_ | refine Ans.geF ?_ ?_ | refine Ans.eqF ?_ ?_ | refine Ans.neF ?_ ?_); (focus omega))
       | (with_reducible first | refine Ans.lsS (fun _ => ?_) (fun _ => ?_) | refine Ans.leS (fun _ => ?_) (fun _ => ?_) | refine Ans.grS (fun _ => ?_) (fun _ => ?_) | refine Ans.geS (fun _ => ?_) (fun _ => ?_) | refine Ans.eqS (fun _ => ?_) (fun _ => ?_) | refine Ans.neS (fun _ => ?_) (fun _ => ?_))
       | ((with_reducible first | refine Ans.addN ?_ ?_ | refine Ans.add ?_ ?_ | refine Ans.sub ?_ ?_ | refine Ans.mul ?_ ?_); (focus omega))
       | ((with_reducible first | refine Ans.ct ?_ ?_); (focus (simp (disch := (first | omega | with_reducible assumption | (simp <;> omega) | fail)) [x1, c1]; done)))
       | ((with_reducible first | refine Ans.cf ?_ ?_); (focus (simp (disch := (first | omega | with_reducible assumption | (simp <;> omega) | fail)) [x1, c1]; done)))
       | (refine Ans.step (by simp (disch := (first | omega | with_reducible assumption | (simp <;> omega) | fail)) [x1, c1, -List.getD_eq_getElem?_getD] <;> rfl) ?_; try dsimp only [v_zero, v_succ])
       | fail)
      (refine Ans.ret0 ?_ ?_ ?_; (focus (simp (disch := (first | omega | with_reducible assumption | (simp <;> omega) | fail)) [o1, o8, o7]; done)); (focus (simp (disch := (first | omega | with_reducible assumption | (simp <;> omega) | fail)) [o1, o8, o7]; done)))
      exact ⟨rfl, rfl, rfl, .inr ⟨rfl, rfl, rfl, t, by omega, hq⟩⟩
def sumE (Gl : List Int) (n : Nat) (U V : List Int) : Int :=
  if chkE Gl n (admB Gl n U && admB Gl n V) = 0 then (if ((List.range n).all fun t => areQ (quadAt (addL U V) t)) = true then (if withinB (addL U V) = true then 0 else 2) else 1) else chkE Gl n (admB Gl n U && admB Gl n V)
theorem slx_newB (h : FH) (b m : Nat) (X : List Int) : SlX (newB h b (ints X)) (.slice (some ⟨b, 0, none⟩) m m) 1 m := by
  refine ⟨Nat.le_refl _, ?_⟩
  have : HeapC.get (newB h b (ints X)) b = some (.cells false none (ints X)) := get_newB_same _ _ _
  simp only [adrOf, szOk, this]
set_option maxHeartbeats 1000000 in
theorem sum_sp (s u v : Value) (n nu nv : Nat) (Gl U V : List Int) (h : FH) (c : Nat) (df : List Nat) (hs : SlI h c s 20 n Gl) (hu : SlI h c u 1 nu U) (hv : SlI h c v 1 nv V) (hxu : SlX h u 1 nu) (hxv : SlX h v 1 nv) (hnu : nu ≤ 1000000) (hnv : nv ≤ 1000000) :
    Ans (G (.fn 34) [.agg #[s], u, v] h c df) fun r => r.e = .ret ∧ r.df = [] ∧ c ≤ r.c ∧ Same c h r.h ∧
      ((sumE Gl n U V ≠ 0 ∧ r.vs = [.tuple #[.slice none 0 0, .int .i64 (sumE Gl n U V)]]) ∨
       (sumE Gl n U V = 0 ∧ ∃ w, r.vs = [.tuple #[w, .int .i64 0]] ∧ SlI r.h r.c w 1 nu (addL U V) ∧ SlX r.h w 1 nu)) := by
  refine Ans.call' (fun r e => f34_go e) ?_
  unfold f34_S
  rw [flat1 hs.flat, cell1, Nat.add_zero]
  simp only [cond_true]
  have hbl : bldL [(.slice none 0 0), (.slice none 0 0)] [(0, 1, u), (1, 1, v)] = some [u, v] := by
    obtain ⟨_, _, a, cap, rfl, _⟩ := hv
    obtain ⟨_, _, a, cap, rfl, _⟩ := hu
    rfl
  obtain ⟨H, hH⟩ : ∃ H, H = newB (newB h (256 * c) [s]) (256 * (c + 1) + 3) [u, v] := ⟨_, rfl⟩
  have sH : Same c h H := by rw [hH]; simp (disch := omega)
  have hg : Holds H (256 * c) [s] := by rw [hH]; exact (Holds.newB_same _ _ _).newB_ne (by omega)
  have hq : Holds H (256 * (c + 1) + 3) [u, v] := by rw [hH]; exact Holds.newB_same _ _ _
  have l0 : ldN (newB h (256 * c) [s]) 1 (.pointer (some ⟨256 * c, 0, none⟩)) = some (.agg #[s]) := ldN1_own (Holds.newB_same _ _ _)
  have c1 := checks2 s u v n nu nv Gl U V (256 * (c + 1) + 3) H (c + 1 + 1) ((hs.same sH).mono (by omega)) ((hu.same sH).mono (by omega)) ((hv.same sH).mono (by omega)) (SlX.keep hu sH hxu) (SlX.keep hv sH hxv) hnu hnv (by omega) hq
  have hH' := hH.symm
  unfold sumE
  obtain ⟨E, hE⟩ : ∃ E, chkE Gl n (admB Gl n U && admB Gl n V) = E := ⟨_, rfl⟩
  rw [hE] at c1 ⊢
  by_cases h0 : E = 0
  case neg =>
    rw [if_neg h0]
    repeat' (first
     | ((with_reducible first | refine Ans.bz ?_ | refine Ans.r1 ?_ | refine Ans.pkT ?_ | refine Ans.pkF ?_); try dsimp only [v_zero, v_succ])
     | (with_reducible first | refine Ans.btL ?_ | refine Ans.bfL ?_ | refine Ans.gyT ?_ | refine Ans.gyF ?_ | refine Ans.gyG ?_ | refine Ans.bb ?_ | refine Ans.bc ?_ | refine Ans.ba ?_)
     | ((with_reducible first | refine Ans.lsT ?_ ?_ | refine Ans.leT ?_ ?_ | refine Ans.grT ?_ ?_ | refine Ans.geT ?_ ?_ | refine Ans.eqT ?_ ?_ | refine Ans.neT ?_ ?_); (focus omega))
     | ((with_reducible first | refine Ans.lsF ?_ ?_ | refine Ans.leF ?_ ?_ | refine Ans.grF ?_ ?_ | refine Ans.geF ?_ ?_ | refine Ans.eqF ?_ ?_ | refine Ans.neF ?_ ?_); (focus omega))
     | (with_reducible first | refine Ans.lsS (fun _ => ?_) (fun _ => ?_) | refine Ans.leS (fun _ => ?_) (fun _ => ?_) | refine Ans.grS (fun _ => ?_) (fun _ => ?_) | refine Ans.geS (fun _ => ?_) (fun _ => ?_) | refine Ans.eqS (fun _ => ?_) (fun _ => ?_) | refine Ans.neS (fun _ => ?_) (fun _ => ?_))
     | ((with_reducible first | refine Ans.addN ?_ ?_ | refine Ans.add ?_ ?_ | refine Ans.sub ?_ ?_ | refine Ans.mul ?_ ?_); (focus omega))
     | ((with_reducible first | refine Ans.ct ?_ ?_); (focus (simp (disch := (first | omega | with_reducible assumption | (simp <;> omega) | fail)) [l0, hbl, hH', c1]; done)))
     | ((with_reducible first | refine Ans.cf ?_ ?_); (focus (simp (disch := (first | omega | with_reducible assumption | (simp <;> omega) | fail)) [l0, hbl, hH', c1]; done)))
     | (refine Ans.step (by simp (disch := (first | omega | with_reducible assumption | (simp <;> omega) | fail)) [l0, hbl, hH', c1, -List.getD_eq_getElem?_getD] <;> rfl) ?_; try dsimp only [v_zero, v_succ])
     | fail)
    exact .done ⟨rfl, rfl, (by show c ≤ c + 1 + 1 + 1 + 1; omega), sH, .inl ⟨h0, rfl⟩⟩
  obtain ⟨hr0, ha⟩ := chkE_zero (hE.trans h0)
  obtain ⟨hn, hok⟩ := refE_zero hr0
  rw [Bool.and_eq_true] at ha
  obtain ⟨a1, a2⟩ := admB_w ha.1
  obtain ⟨b1, b2⟩ := admB_w ha.2
  have hnv' : nv = 7 * n := by have := hv.1; omega
  have hnu' : nu = 7 * n := by have := hu.1; omega
  subst h0
  rw [if_pos rfl]
  have hadd := Ans.eq (added_sp u v nu U V H (c + 1 + 1 + 1 + 1) [] ((hu.same sH).mono (by omega)) (by rw [hnu', ← hnv']; exact (hv.same sH).mono (by omega)) (by omega) (withinI a2) (withinI b2))
  have ca := callF_of hadd
  obtain ⟨ob, hob⟩ : ∃ ob, 256 * (c + 1 + 1 + 1 + 1 + 1) + 2 = ob := ⟨_, rfl⟩
  rw [hob] at ca
  have hal := addL_length U V
  have sx := slx_newB H ob nu (addL U V)
  have sl : SlI (newB H ob (ints (addL U V))) (c + 1 + 1 + 1 + 1 + 1 + 1 + 1 + 1) (.slice (some ⟨ob, 0, none⟩) nu nu) 1 nu (addL U V) := by
    refine ⟨by omega, by omega, some ⟨ob, 0, none⟩, nu, rfl, .inr ⟨ob, 0, ints (addL U V), rfl, by omega, ⟨false, none, by show (newB _ _ _ : FH).f _ = _; rw [newB_f, if_pos rfl]⟩, ?_⟩⟩
    rw [List.drop_zero, List.take_of_length_le (by simp [hal]; omega)]
  obtain ⟨H2, hH2⟩ : ∃ H2, newB H ob (ints (addL U V)) = H2 := ⟨_, rfl⟩
  have s2 : Same c h H2 := by rw [← hH2]; exact sH.trans (by intro b hb; rw [newB_f, if_neg (by omega)])
  have hg2 : Holds H2 (256 * c) [s] := hg.eqf (by rw [← hH2, newB_f, if_neg (by omega)])
  have l2 : ld1 H2 (.pointer (some ⟨256 * c, 0, none⟩)) = some s := by rw [ld1_holds' hg2]; rfl
  rw [hH2] at ca sx sl
  have ls := hs.len
  have cw := fun c' (hc : c + 1 + 1 + 1 + 1 + 1 + 1 + 1 + 1 ≤ c') => callF_of (within_sp _ nu (addL U V) H2 c' [] (sl.mono hc) (by omega))
  have l1 := ldN1_own hg
  obtain ⟨O, hO⟩ : ∃ O, addL U V = O := ⟨_, rfl⟩
  rw [hO] at sl cw ⊢
  obtain ⟨⟨re, rv, rh, rc, rd⟩, hr, r1, r2, r3, r4⟩ := sum_quads (.slice none 0 0) (.int .i64 0) _ n nu O (c + 1 + 1 + 1 + 1 + 1 + 1 + 1 + 1 + 1) H2 hn hnu' (sl.mono (by omega)) sx [] (by simp) (by simp) n 0 (by omega)
  simp only at r1 r2 r3 r4
  subst r1 r2 r3
  simp only [Int.ofNat_eq_natCast, Int.cast_ofNat_Int] at hr
  rcases r4 with ⟨rfl, rfl, r5⟩ | ⟨rfl, r5, r6, w, w1, w2⟩
  · have e1 : ((List.range n).all fun t => areQ (quadAt O t)) = true := List.all_eq_true.2 fun t ht => r5 t (by omega) (by simpa using ht)
    rw [if_pos e1]
    cases hw : withinB O with
    | true =>
      rw [hw] at cw
      repeat' (first
       | ((with_reducible first | refine Ans.bz ?_ | refine Ans.r1 ?_ | refine Ans.pkT ?_ | refine Ans.pkF ?_); try dsimp only [v_zero, v_succ])
       | (with_reducible first | refine Ans.btL ?_ | refine Ans.bfL ?_ | refine Ans.gyT ?_ | refine Ans.gyF ?_ | refine Ans.gyG ?_ | refine Ans.bb ?_ | refine Ans.bc ?_ | refine Ans.ba ?_)
       | ((with_reducible first | refine Ans.lsT ?_ ?_ | refine Ans.leT ?_ ?_ | refine Ans.grT ?_ ?_ | refine Ans.geT ?_ ?_ | refine Ans.eqT ?_ ?_ | refine Ans.neT ?_ ?_); (focus omega))
       | ((with_reducible first | refine Ans.lsF ?_ ?_ | refine Ans.leF ?_ ?_ | refine Ans.grF ?_ ?_ | refine Ans.geF ?_ ?_ | refine Ans.eqF ?_ ?_ | refine Ans.neF ?_ ?_); (focus omega))
       | (with_reducible first | refine Ans.lsS (fun _ => ?_) (fun _ => ?_) | refine Ans.leS (fun _ => ?_) (fun _ => ?_) | refine Ans.grS (fun _ => ?_) (fun _ => ?_) | refine Ans.geS (fun _ => ?_) (fun _ => ?_) | refine Ans.eqS (fun _ => ?_) (fun _ => ?_) | refine Ans.neS (fun _ => ?_) (fun _ => ?_))
       | ((with_reducible first | refine Ans.addN ?_ ?_ | refine Ans.add ?_ ?_ | refine Ans.sub ?_ ?_ | refine Ans.mul ?_ ?_); (focus omega))
       | ((with_reducible first | refine Ans.ct ?_ ?_); (focus (simp (disch := (first | omega | with_reducible assumption | (simp <;> omega) | fail)) [l0, hbl, hH', c1, l1, ca, l2, ls, hr, cw]; done)))
       | ((with_reducible first | refine Ans.cf ?_ ?_); (focus (simp (disch := (first | omega | with_reducible assumption | (simp <;> omega) | fail)) [l0, hbl, hH', c1, l1, ca, l2, ls, hr, cw]; done)))
       | (refine Ans.step (by simp (disch := (first | omega | with_reducible assumption | (simp <;> omega) | fail)) [l0, hbl, hH', c1, l1, ca, l2, ls, hr, cw, -List.getD_eq_getElem?_getD] <;> rfl) ?_; try dsimp only [v_zero, v_succ])
       | fail)
      exact .done ⟨rfl, rfl, (by show c ≤ c + 1 + 1 + 1 + 1 + 1 + 1 + 1 + 1 + 1 + 1 + 1; omega), s2, .inr ⟨rfl, _, rfl, sl.mono (by show _ ≤ c + 1 + 1 + 1 + 1 + 1 + 1 + 1 + 1 + 1 + 1 + 1; omega), sx⟩⟩
    | false =>
      rw [hw] at cw
      repeat' (first
       | ((with_reducible first | refine Ans.bz ?_ | refine Ans.r1 ?_ | refine Ans.pkT ?_ | refine Ans.pkF ?_); try dsimp only [v_zero, v_succ])
       | (with_reducible first | refine Ans.btL ?_ | refine Ans.bfL ?_ | refine Ans.gyT ?_ | refine Ans.gyF ?_ | refine Ans.gyG ?_ | refine Ans.bb ?_ | refine Ans.bc ?_ | refine Ans.ba ?_)
       | ((with_reducible first | refine Ans.lsT ?_ ?_ | refine Ans.leT ?_ ?_ | refine Ans.grT ?_ ?_ | refine Ans.geT ?_ ?_ | refine Ans.eqT ?_ ?_ | refine Ans.neT ?_ ?_); (focus omega))
       | ((with_reducible first | refine Ans.lsF ?_ ?_ | refine Ans.leF ?_ ?_ | refine Ans.grF ?_ ?_ | refine Ans.geF ?_ ?_ | refine Ans.eqF ?_ ?_ | refine Ans.neF ?_ ?_); (focus omega))
       | (with_reducible first | refine Ans.lsS (fun _ => ?_) (fun _ => ?_) | refine Ans.leS (fun _ => ?_) (fun _ => ?_) | refine Ans.grS (fun _ => ?_) (fun _ => ?_) | refine Ans.geS (fun _ => ?_) (fun _ => ?_) | refine Ans.eqS (fun _ => ?_) (fun _ => ?_) | refine Ans.neS (fun _ => ?_) (fun _ => ?_))
       | ((with_reducible first | refine Ans.addN ?_ ?_ | refine Ans.add ?_ ?_ | refine Ans.sub ?_ ?_ | refine Ans.mul ?_ ?_); (focus omega))
       | ((with_reducible first | refine Ans.ct ?_ ?_); (focus (simp (disch := (first | omega | with_reducible assumption | (simp <;> omega) | fail)) [l0, hbl, hH', c1, l1, ca, l2, ls, hr, cw]; done)))
       | ((with_reducible first | refine Ans.cf ?_ ?_); (focus (simp (disch := (first | omega | with_reducible assumption | (simp <;> omega) | fail)) [l0, hbl, hH', c1, l1, ca, l2, ls, hr, cw]; done)))
       | (refine Ans.step (by simp (disch := (first | omega | with_reducible assumption | (simp <;> omega) | fail)) [l0, hbl, hH', c1, l1, ca, l2, ls, hr, cw, -List.getD_eq_getElem?_getD] <;> rfl) ?_; try dsimp only [v_zero, v_succ])
       | fail)
      exact .done ⟨rfl, rfl, (by show c ≤ c + 1 + 1 + 1 + 1 + 1 + 1 + 1 + 1 + 1 + 1 + 1; omega), s2, .inl ⟨by simp, rfl⟩⟩
  · have e1 : ¬ ((List.range n).all fun t => areQ (quadAt O t)) = true := fun e => by
      rw [List.all_eq_true] at e
      have := e w (by simpa using w1)
      rw [w2] at this; cases this
    rw [if_neg e1]
    repeat' (first
     | ((with_reducible first | refine Ans.bz ?_ | refine Ans.r1 ?_ | refine Ans.pkT ?_ | refine Ans.pkF ?_); try dsimp only [v_zero, v_succ])
     | (with_reducible first | refine Ans.btL ?_ | refine Ans.bfL ?_ | refine Ans.gyT ?_ | refine Ans.gyF ?_ | refine Ans.gyG ?_ | refine Ans.bb ?_ | refine Ans.bc ?_ | refine Ans.ba ?_)
     | ((with_reducible first | refine Ans.lsT ?_ ?_ | refine Ans.leT ?_ ?_ | refine Ans.grT ?_ ?_ | refine Ans.geT ?_ ?_ | refine Ans.eqT ?_ ?_ | refine Ans.neT ?_ ?_); (focus omega))
     | ((with_reducible first | refine Ans.lsF ?_ ?_ | refine Ans.leF ?_ ?_ | refine Ans.grF ?_ ?_ | refine Ans.geF ?_ ?_ | refine Ans.eqF ?_ ?_ | refine Ans.neF ?_ ?_); (focus omega))
     | (with_reducible first | refine Ans.lsS (fun _ => ?_) (fun _ => ?_) | refine Ans.leS (fun _ => ?_) (fun _ => ?_) | refine Ans.grS (fun _ => ?_) (fun _ => ?_) | refine Ans.geS (fun _ => ?_) (fun _ => ?_) | refine Ans.eqS (fun _ => ?_) (fun _ => ?_) | refine Ans.neS (fun _ => ?_) (fun _ => ?_))
     | ((with_reducible first | refine Ans.addN ?_ ?_ | refine Ans.add ?_ ?_ | refine Ans.sub ?_ ?_ | refine Ans.mul ?_ ?_); (focus omega))
     | ((with_reducible first | refine Ans.ct ?_ ?_); (focus (simp (disch := (first | omega | with_reducible assumption | (simp <;> omega) | fail)) [l0, hbl, hH', c1, l1, ca, l2, ls, hr, r5, r6]; done)))
     | ((with_reducible first | refine Ans.cf ?_ ?_); (focus (simp (disch := (first | omega | with_reducible assumption | (simp <;> omega) | fail)) [l0, hbl, hH', c1, l1, ca, l2, ls, hr, r5, r6]; done)))
     | (refine Ans.step (by simp (disch := (first | omega | with_reducible assumption | (simp <;> omega) | fail)) [l0, hbl, hH', c1, l1, ca, l2, ls, hr, r5, r6, -List.getD_eq_getElem?_getD] <;> rfl) ?_; try dsimp only [v_zero, v_succ])
     | fail)
    exact .done ⟨rfl, rfl, (by show c ≤ c + 1 + 1 + 1 + 1 + 1 + 1 + 1 + 1 + 1; omega), s2, .inl ⟨by simp, (by show [Value.tuple #[_, _]] = _; rw [r5, r6])⟩⟩
end Go.Proofs.Ytcnndelmnobigaa

namespace Go.Proofs.Ytcnndelmnobigaa
open Go Go.Ab Go.Proofs
set_option maxRecDepth 100000
set_option linter.unusedVariables false
set_option linter.unusedSimpArgs false
theorem gi_add {U V : List Int} (hl : U.length = V.length) (j : Int) : gi (addL U V) j = gi U j + gi V j := by
  rcases Nat.lt_or_ge j.toNat U.length with h | h
  · have := addL_gi (A := U) (B := V) (k := j.toNat) h
    unfold gi at this ⊢
    rw [Int.toNat_natCast] at this
    exact this
  · unfold gi
    have h1 : U.getD j.toNat 0 = 0 := by simp [List.getD_eq_getElem?_getD, List.getElem?_eq_none h]
    have h2 : V.getD j.toNat 0 = 0 := by simp [List.getD_eq_getElem?_getD, List.getElem?_eq_none (by omega : V.length ≤ j.toNat)]
    have h3 : (addL U V).getD j.toNat 0 = 0 := by simp [List.getD_eq_getElem?_getD, List.getElem?_eq_none (by rw [addL_length]; exact h : (addL U V).length ≤ j.toNat)]
    omega
theorem arcV_add {U V : List Int} (hl : U.length = V.length) (t f i : Int) : arcV (addL U V) t f i = arcV U t f i + arcV V t f i := by
  unfold arcV
  rw [gi_add hl, gi_add hl]; omega
theorem sI_add {U V : List Int} (hl : U.length = V.length) (t f : Nat) : ∀ (r i : Nat), sI (addL U V) t f r i = sI U t f r i + sI V t f r i
  | 0, _ => by simp [sI]
  | r + 1, i => by
    rw [sI, sI, sI, sI_add hl t f r (i + 1), arcV_add hl]
    split <;> omega
theorem sF_add {U V : List Int} (hl : U.length = V.length) (Gl : List Int) (t : Nat) : ∀ (r f : Nat), sF Gl (addL U V) t r f = sF Gl U t r f + sF Gl V t r f
  | 0, _ => by simp [sF]
  | r + 1, f => by
    rw [sF, sF, sF, sF_add hl Gl t r (f + 1), sI_add hl]
    split <;> omega
theorem sT_add {U V : List Int} (hl : U.length = V.length) (Gl : List Int) : ∀ (r t : Nat), sT Gl (addL U V) r t = sT Gl U r t + sT Gl V r t
  | 0, _ => by simp [sT]
  | r + 1, t => by
    rw [sT, sT, sT, sT_add hl Gl r (t + 1), sF_add hl]
    omega
theorem wK_add {U V : List Int} (hl : U.length = V.length) (t T : Int) : ∀ (r k : Nat) (a b : Int), wK (addL U V) t T r k (a + b) = wK U t T r k a + wK V t T r k b
  | 0, _, a, b => by simp [wK]
  | r + 1, k, a, b => by
    rw [wK, wK, wK, ← wK_add hl t T r (k + 1), gi_add hl]
    congr 1
    split <;> omega
theorem wgt_add {U V : List Int} (hl : U.length = V.length) (x : Int) : wgt (addL U V) x = wgt U x + wgt V x := by
  unfold wgt weightL
  rw [← wK_add hl, gi_add hl, gi_add hl]
  congr 1
  omega
theorem sum_map_add (f g k : Int → Int) : ∀ (L : List Int), (∀ x, k x = f x + g x) → sumL (L.map k) = sumL (L.map f) + sumL (L.map g)
  | [], _ => by simp [sumL]
  | x :: L, h => by
    rw [List.map_cons, List.map_cons, List.map_cons, sumL, sumL, sumL, sum_map_add f g k L h, h x]
    omega
theorem sumL_range (U : List Int) : sumL ((startL U.length).map (gi U)) = sumL U := by
  congr 1
  refine List.ext_getElem (by simp [startL]) fun j h1 h2 => ?_
  simp only [startL, List.getElem_map, List.getElem_range]
  exact gi_get U h2
theorem addL_map (U V : List Int) : addL U V = (startL U.length).map fun x => gi U x + gi V x := by
  simp [addL, startL]
theorem sumL_add {U V : List Int} (hl : U.length = V.length) : sumL (addL U V) = sumL U + sumL V := by
  rw [addL_map, sum_map_add (gi U) (gi V) _ _ (fun _ => rfl), sumL_range, hl, sumL_range]
theorem eulL_add {U V : List Int} (hl : U.length = V.length) (Gl : List Int) (n : Nat) : eulL Gl n (addL U V) = eulL Gl n U + eulL Gl n V := by
  unfold eulL
  rw [sT_add hl, sumL_add hl, sum_map_add (wgt U) (wgt V) (wgt (addL U V)) _ (wgt_add hl)]
  omega
theorem eqM_add {U V : List Int} (hl : U.length = V.length) {m : List Int} (h1 : eqM U m = true) (h2 : eqM V m = true) : eqM (addL U V) m = true := by
  unfold eqM at h1 h2 ⊢
  rw [decide_eq_true_eq] at h1 h2 ⊢
  rw [arcV_add hl, arcV_add hl, h1, h2]
theorem admB_add {Gl U V : List Int} {n : Nat} (h1 : admB Gl n U = true) (h2 : admB Gl n V = true) (hq : ((List.range n).all fun t => areQ (quadAt (addL U V) t)) = true) (hw : withinB (addL U V) = true) : admB Gl n (addL U V) = true := by
  unfold admB at h1 h2 ⊢
  simp only [Bool.and_eq_true, decide_eq_true_eq] at h1 h2 ⊢
  obtain ⟨⟨⟨a1, a2⟩, a3⟩, a4⟩ := h1
  obtain ⟨⟨⟨b1, b2⟩, b3⟩, b4⟩ := h2
  refine ⟨⟨⟨by rw [addL_length, a1], hw⟩, hq⟩, List.all_eq_true.2 fun m hm => ?_⟩
  exact eqM_add (a1.trans b1.symm) (List.all_eq_true.1 a4 m hm) (List.all_eq_true.1 b4 m hm)
theorem short_loop (ss : List Value) (ns : Nat → Nat) (sb : Nat) (h : FH) (c : Nat) (hsb : sb < 256 * c) (hh : Holds h sb ss) (hl : ss.length ≤ 1000) (hL : ∀ j, j < ss.length → lenS (ss.getD j undef) = some (.int .i64 (ns j))) (df : List Nat) : ∀ (k i : Nat), i + k = ss.length →
    Ans (G (f18_k18000 none) [.slice (some ⟨sb, 0, none⟩) ss.length ss.length, .bool false, .int .i64 i] h c df) fun r => r.h = h ∧ r.c = c ∧ r.df = df ∧
      ((r.e = .exit 0 ∧ ∀ j, i ≤ j → j < ss.length → ns j ≤ 50) ∨ (r.e = .ret ∧ r.v 1 = .bool false ∧ ∃ j, j < ss.length ∧ ¬ ns j ≤ 50)) := by
  intro k
  obtain ⟨m, hm⟩ : ∃ m, ss.length = m := ⟨_, rfl⟩
  rw [hm] at hl hL ⊢
  induction k with
  | zero =>
    intro i hi
    obtain rfl : i = m := by omega
    refine Ans.loop (fun q r => f18_N18000) (fun q => f18_Z18000) ?_
    unfold f18_L18000
    repeat' (first
     | ((with_reducible first | refine Ans.bz ?_ | refine Ans.r1 ?_ | refine Ans.pkT ?_ | refine Ans.pkF ?_); try dsimp only [v_zero, v_succ])
     | (with_reducible first | refine Ans.btL ?_ | refine Ans.bfL ?_ | refine Ans.gyT ?_ | refine Ans.gyF ?_ | refine Ans.gyG ?_ | refine Ans.bb ?_ | refine Ans.bc ?_ | refine Ans.ba ?_)
     | ((with_reducible first | refine Ans.lsT ?_ ?_ | refine Ans.leT ?_ ?_ | refine Ans.grT ?_ ?_ | refine Ans.geT ?_ ?_ | refine Ans.eqT ?_ ?_ | refine Ans.neT ?_ ?_); (focus omega))
     | ((with_reducible first | refine Ans.lsF ?_ ?_ | refine Ans.leF ?_ ?_ | refine Ans.grF ?_ ?_ | refine Ans.geF ?_ ?_ | refine Ans.eqF ?_ ?_ | refine Ans.neF ?_ ?_); (focus omega))
     | (with_reducible first | refine Ans.lsS (fun _ => ?_) (fun _ => ?_) | refine Ans.leS (fun _ => ?_) (fun _ => ?_) | refine Ans.grS (fun _ => ?_) (fun _ => ?_) | refine Ans.geS (fun _ => ?_) (fun _ => ?_) | refine Ans.eqS (fun _ => ?_) (fun _ => ?_) | refine Ans.neS (fun _ => ?_) (fun _ => ?_))
     | ((with_reducible first | refine Ans.addN ?_ ?_ | refine Ans.add ?_ ?_ | refine Ans.sub ?_ ?_ | refine Ans.mul ?_ ?_); (focus omega))
     | ((with_reducible first | refine Ans.ct ?_ ?_); (focus (simp (disch := (first | omega | with_reducible assumption | (simp <;> omega) | fail)) []; done)))
     | ((with_reducible first | refine Ans.cf ?_ ?_); (focus (simp (disch := (first | omega | with_reducible assumption | (simp <;> omega) | fail)) []; done)))
     | (refine Ans.step (by simp (disch := (first | omega | with_reducible assumption | (simp <;> omega) | fail)) [-List.getD_eq_getElem?_getD] <;> rfl) ?_; try dsimp only [v_zero, v_succ])
     | fail)
    (refine Ans.exit0 ?_ ?_ ?_; (focus (simp (disch := (first | omega | with_reducible assumption | (simp <;> omega) | fail)) [hsb]; done)); (focus (simp (disch := (first | omega | with_reducible assumption | (simp <;> omega) | fail)) [hsb]; done)))
    exact ⟨rfl, rfl, rfl, .inl ⟨rfl, fun j h1 h2 => by omega⟩⟩
  | succ k ih =>
    intro i hi
    have l1 : ld1 h (.pointer (some ⟨sb, i, none⟩)) = some (ss.getD i undef) := by
      rw [ld1_holds' hh, List.getD_eq_getElem?_getD, List.getElem?_eq_getElem (by omega)]; rfl
    have l2 := hL i (by omega)
    obtain ⟨x, hx⟩ : ∃ x, ss.getD i undef = x := ⟨_, rfl⟩
    rw [hx] at l1 l2
    refine Ans.loop (fun q r => f18_N18000) (fun q => f18_Z18000) ?_
    unfold f18_L18000
    by_cases h5 : ns i ≤ 50
    · repeat' (first
       | ((with_reducible first | refine Ans.bz ?_ | refine Ans.r1 ?_ | refine Ans.pkT ?_ | refine Ans.pkF ?_); try dsimp only [v_zero, v_succ])
       | (with_reducible first | refine Ans.btL ?_ | refine Ans.bfL ?_ | refine Ans.gyT ?_ | refine Ans.gyF ?_ | refine Ans.gyG ?_ | refine Ans.bb ?_ | refine Ans.bc ?_ | refine Ans.ba ?_)
       | ((with_reducible first | refine Ans.lsT ?_ ?_ | refine Ans.leT ?_ ?_ | refine Ans.grT ?_ ?_ | refine Ans.geT ?_ ?_ | refine Ans.eqT ?_ ?_ | refine Ans.neT ?_ ?_); (focus omega))
       | ((with_reducible first | refine Ans.lsF ?_ ?_ | refine Ans.leF ?_ ?_ | refine Ans.grF ?_ ?_ | refine Ans.geF ?_ ?_ | refine Ans.eqF ?_ ?_ | refine Ans.neF ?_ ?_); (focus omega))
       | (with_reducible first | refine Ans.lsS (fun _ => ?_) (fun _ => ?_) | refine Ans.leS (fun _ => ?_) (fun _ => ?_) | refine Ans.grS (fun _ => ?_) (fun _ => ?_) | refine Ans.geS (fun _ => ?_) (fun _ => ?_) | refine Ans.eqS (fun _ => ?_) (fun _ => ?_) | refine Ans.neS (fun _ => ?_) (fun _ => ?_))
       | ((with_reducible first | refine Ans.addN ?_ ?_ | refine Ans.add ?_ ?_ | refine Ans.sub ?_ ?_ | refine Ans.mul ?_ ?_); (focus omega))
       | ((with_reducible first | refine Ans.ct ?_ ?_); (focus (simp (disch := (first | omega | with_reducible assumption | (simp <;> omega) | fail)) [l1, l2]; done)))
       | ((with_reducible first | refine Ans.cf ?_ ?_); (focus (simp (disch := (first | omega | with_reducible assumption | (simp <;> omega) | fail)) [l1, l2]; done)))
       | (refine Ans.step (by simp (disch := (first | omega | with_reducible assumption | (simp <;> omega) | fail)) [l1, l2, -List.getD_eq_getElem?_getD] <;> rfl) ?_; try dsimp only [v_zero, v_succ])
       | fail)
      (refine Ans.next0 ?_ ?_ ?_; (focus (simp (disch := (first | omega | with_reducible assumption | (simp <;> omega) | fail)) [hsb]; done)); (focus (simp (disch := (first | omega | with_reducible assumption | (simp <;> omega) | fail)) [hsb]; done)))
      refine (ih (i + 1) (by omega)).mono ?_
      rintro r ⟨q1, q2, q3, q4⟩
      refine ⟨q1, q2, q3, q4.imp (fun ⟨a, b⟩ => ⟨a, fun j h1 h2 => ?_⟩) id⟩
      by_cases e : j = i
      · rw [e]; exact h5
      · exact b j (by omega) h2
    · repeat' (first
       | ((with_reducible first | refine Ans.bz ?_ | refine Ans.r1 ?_ | refine Ans.pkT ?_ | refine Ans.pkF ?_); try dsimp only [v_zero, v_succ])
       | (with_reducible first | refine Ans.btL ?_ | refine Ans.bfL ?_ | refine Ans.gyT ?_ | refine Ans.gyF ?_ | refine Ans.gyG ?_ | refine Ans.bb ?_ | refine Ans.bc ?_ | refine Ans.ba ?_)
       | ((with_reducible first | refine Ans.lsT ?_ ?_ | refine Ans.leT ?_ ?_ | refine Ans.grT ?_ ?_ | refine Ans.geT ?_ ?_ | refine Ans.eqT ?_ ?_ | refine Ans.neT ?_ ?_); (focus omega))
       | ((with_reducible first | refine Ans.lsF ?_ ?_ | refine Ans.leF ?_ ?_ | refine Ans.grF ?_ ?_ | refine Ans.geF ?_ ?_ | refine Ans.eqF ?_ ?_ | refine Ans.neF ?_ ?_); (focus omega))
       | (with_reducible first | refine Ans.lsS (fun _ => ?_) (fun _ => ?_) | refine Ans.leS (fun _ => ?_) (fun _ => ?_) | refine Ans.grS (fun _ => ?_) (fun _ => ?_) | refine Ans.geS (fun _ => ?_) (fun _ => ?_) | refine Ans.eqS (fun _ => ?_) (fun _ => ?_) | refine Ans.neS (fun _ => ?_) (fun _ => ?_))
       | ((with_reducible first | refine Ans.addN ?_ ?_ | refine Ans.add ?_ ?_ | refine Ans.sub ?_ ?_ | refine Ans.mul ?_ ?_); (focus omega))
       | ((with_reducible first | refine Ans.ct ?_ ?_); (focus (simp (disch := (first | omega | with_reducible assumption | (simp <;> omega) | fail)) [l1, l2]; done)))
       | ((with_reducible first | refine Ans.cf ?_ ?_); (focus (simp (disch := (first | omega | with_reducible assumption | (simp <;> omega) | fail)) [l1, l2]; done)))
       | (refine Ans.step (by simp (disch := (first | omega | with_reducible assumption | (simp <;> omega) | fail)) [l1, l2, -List.getD_eq_getElem?_getD] <;> rfl) ?_; try dsimp only [v_zero, v_succ])
       | fail)
      (refine Ans.ret0 ?_ ?_ ?_; (focus (simp (disch := (first | omega | with_reducible assumption | (simp <;> omega) | fail)) [hsb]; done)); (focus (simp (disch := (first | omega | with_reducible assumption | (simp <;> omega) | fail)) [hsb]; done)))
      exact ⟨rfl, rfl, rfl, .inr ⟨rfl, rfl, i, by omega, h5⟩⟩
theorem short_sp (ss : List Value) (ns : Nat → Nat) (sb : Nat) (h : FH) (c : Nat) (df : List Nat) (hsb : sb < 256 * c) (hh : Holds h sb ss) (hl : ss.length ≤ 1000) (hL : ∀ j, j < ss.length → lenS (ss.getD j undef) = some (.int .i64 (ns j))) :
    G (.fn 18) [.slice (some ⟨sb, 0, none⟩) ss.length ss.length] h c df = some { e := .ret, vs := [.bool ((List.range ss.length).all fun j => decide (ns j ≤ 50))], h := h, c := c, df := [] } := by
  refine pure_of' (fun r e => f18_go e) (by simp) ?_
  unfold f18_S
  obtain ⟨⟨re, rv, rh, rc, rd⟩, hr, r1, r2, r3, r4⟩ := short_loop ss ns sb h (c + 1 + 1) (by omega) hh hl hL [] ss.length 0 (by omega)
  simp only at r1 r2 r3 r4
  subst r1 r2 r3
  simp only [Int.ofNat_eq_natCast, Int.cast_ofNat_Int] at hr
  rcases r4 with ⟨rfl, r5⟩ | ⟨rfl, r5, j, j1, j2⟩
  · have e : ((List.range ss.length).all fun j => decide (ns j ≤ 50)) = true := List.all_eq_true.2 fun j hj => decide_eq_true (r5 j (by omega) (by simpa using hj))
    rw [e]
    repeat' (first
     | ((with_reducible first | refine Ans.bz ?_ | refine Ans.r1 ?_ | refine Ans.pkT ?_ | refine Ans.pkF ?_); try dsimp only [v_zero, v_succ])
     | (with_reducible first | refine Ans.btL ?_ | refine Ans.bfL ?_ | refine Ans.gyT ?_ | refine Ans.gyF ?_ | refine Ans.gyG ?_ | refine Ans.bb ?_ | refine Ans.bc ?_ | refine Ans.ba ?_)
     | ((with_reducible first | refine Ans.lsT ?_ ?_ | refine Ans.leT ?_ ?_ | refine Ans.grT ?_ ?_ | refine Ans.geT ?_ ?_ | refine Ans.eqT ?_ ?_ | refine Ans.neT ?_ ?_); (focus omega))
     | ((with_reducible first | refine Ans.lsF ?_ ?_ | refine Ans.leF ?_ ?_ | refine Ans.grF ?_ ?_ | refine Ans.geF ?_ ?_ | refine Ans.eqF ?_ ?_ | refine Ans.neF ?_ ?_); (focus omega))
     | (with_reducible first | refine Ans.lsS (fun _ => ?_) (fun _ => ?_) | refine Ans.leS (fun _ => ?_) (fun _ => ?_) | refine Ans.grS (fun _ => ?_) (fun _ => ?_) | refine Ans.geS (fun _ => ?_) (fun _ => ?_) | refine Ans.eqS (fun _ => ?_) (fun _ => ?_) | refine Ans.neS (fun _ => ?_) (fun _ => ?_))
     | ((with_reducible first | refine Ans.addN ?_ ?_ | refine Ans.add ?_ ?_ | refine Ans.sub ?_ ?_ | refine Ans.mul ?_ ?_); (focus omega))
     | ((with_reducible first | refine Ans.ct ?_ ?_); (focus (simp (disch := (first | omega | with_reducible assumption | (simp <;> omega) | fail)) [hr]; done)))
     | ((with_reducible first | refine Ans.cf ?_ ?_); (focus (simp (disch := (first | omega | with_reducible assumption | (simp <;> omega) | fail)) [hr]; done)))
     | (refine Ans.step (by simp (disch := (first | omega | with_reducible assumption | (simp <;> omega) | fail)) [hr, -List.getD_eq_getElem?_getD] <;> rfl) ?_; try dsimp only [v_zero, v_succ])
     | fail)
    exact Ans.pure rfl (by simp)
  · have e : ((List.range ss.length).all fun j => decide (ns j ≤ 50)) = false := by
      rw [List.all_eq_false]
      exact ⟨j, by simpa using j1, by simpa using j2⟩
    rw [e]
    repeat' (first
     | ((with_reducible first | refine Ans.bz ?_ | refine Ans.r1 ?_ | refine Ans.pkT ?_ | refine Ans.pkF ?_); try dsimp only [v_zero, v_succ])
     | (with_reducible first | refine Ans.btL ?_ | refine Ans.bfL ?_ | refine Ans.gyT ?_ | refine Ans.gyF ?_ | refine Ans.gyG ?_ | refine Ans.bb ?_ | refine Ans.bc ?_ | refine Ans.ba ?_)
     | ((with_reducible first | refine Ans.lsT ?_ ?_ | refine Ans.leT ?_ ?_ | refine Ans.grT ?_ ?_ | refine Ans.geT ?_ ?_ | refine Ans.eqT ?_ ?_ | refine Ans.neT ?_ ?_); (focus omega))
     | ((with_reducible first | refine Ans.lsF ?_ ?_ | refine Ans.leF ?_ ?_ | refine Ans.grF ?_ ?_ | refine Ans.geF ?_ ?_ | refine Ans.eqF ?_ ?_ | refine Ans.neF ?_ ?_); (focus omega))
     | (with_reducible first | refine Ans.lsS (fun _ => ?_) (fun _ => ?_) | refine Ans.leS (fun _ => ?_) (fun _ => ?_) | refine Ans.grS (fun _ => ?_) (fun _ => ?_) | refine Ans.geS (fun _ => ?_) (fun _ => ?_) | refine Ans.eqS (fun _ => ?_) (fun _ => ?_) | refine Ans.neS (fun _ => ?_) (fun _ => ?_))
     | ((with_reducible first | refine Ans.addN ?_ ?_ | refine Ans.add ?_ ?_ | refine Ans.sub ?_ ?_ | refine Ans.mul ?_ ?_); (focus omega))
     | ((with_reducible first | refine Ans.ct ?_ ?_); (focus (simp (disch := (first | omega | with_reducible assumption | (simp <;> omega) | fail)) [hr]; done)))
     | ((with_reducible first | refine Ans.cf ?_ ?_); (focus (simp (disch := (first | omega | with_reducible assumption | (simp <;> omega) | fail)) [hr]; done)))
     | (refine Ans.step (by simp (disch := (first | omega | with_reducible assumption | (simp <;> omega) | fail)) [hr, -List.getD_eq_getElem?_getD] <;> rfl) ?_; try dsimp only [v_zero, v_succ])
     | fail)
    exact Ans.pure r5 (by simp)
theorem short2 (u v : Value) (nu nv : Nat) (sb : Nat) (h : FH) (c : Nat) (hsb : sb < 256 * c) (hh : Holds h sb [u, v]) (h1 : lenS u = some (.int .i64 nu)) (h2 : lenS v = some (.int .i64 nv)) :
    callF G 18 [.slice (some ⟨sb, 0, none⟩) 2 2] h c = some (.bool (decide (nu ≤ 50) && decide (nv ≤ 50)), h, c) := by
  have := short_sp [u, v] (fun j => if j = 0 then nu else nv) sb h c [] hsb hh (by simp) (fun j hj => by
    match j, hj with
    | 0, _ => exact h1
    | 1, _ => exact h2)
  have e : ((List.range [u, v].length).all fun j => decide ((if j = 0 then nu else nv) ≤ 50)) = (decide (nu ≤ 50) && decide (nv ≤ 50)) := by
    show ((List.range 2).all fun j => decide ((if j = 0 then nu else nv) ≤ 50)) = _
    simp [List.range_succ]
  rw [e] at this
  exact callF_of this
theorem sums_loop (x y z : Value) (m : Nat) (X Y Z : List Int) (h : FH) (c : Nat) (hx : SlI h c x 1 m X) (hy : SlI h c y 1 m Y) (hz : SlI h c z 1 m Z) (bX : ∀ j : Nat, j < m → 0 ≤ gi X j ∧ gi X j ≤ 5000000) (bY : ∀ j : Nat, j < m → 0 ≤ gi Y j ∧ gi Y j ≤ 5000000) (hZ : ∀ j : Nat, j < m → gi Z j = gi X j + gi Y j) (hm : m ≤ 1000000) (df : List Nat) :
    ∀ (k i : Nat), i + k = m → Ans (G (f8_k8000 none) [.bool false, x, y, z, .int .i64 i] h c df) fun r => r = { e := .exit 0, vs := [.bool false, x, y, z, .int .i64 m], h := h, c := c, df := df } := by
  intro k
  have o1 := hx.okV
  have o2 := hy.okV
  have o3 := hz.okV
  have lz := hz.len
  induction k with
  | zero =>
    intro i hi
    obtain rfl : i = m := by omega
    refine Ans.loop (fun q r => f8_N8000) (fun q => f8_Z8000) ?_
    unfold f8_L8000
    repeat' (first
     | ((with_reducible first | refine Ans.bz ?_ | refine Ans.r1 ?_ | refine Ans.pkT ?_ | refine Ans.pkF ?_); try dsimp only [v_zero, v_succ])
     | (with_reducible first | refine Ans.btL ?_ | refine Ans.bfL ?_ | refine Ans.gyT ?_ | refine Ans.gyF ?_ | refine Ans.gyG ?_ | refine Ans.bb ?_ | refine Ans.bc ?_ | refine Ans.ba ?_)
     | ((with_reducible first | refine Ans.lsT ?_ ?_ | refine Ans.leT ?_ ?_ | refine Ans.grT ?_ ?_ | refine Ans.geT ?_ ?_ | refine Ans.eqT ?_ ?_ | refine Ans.neT ?_ ?_); (focus omega))
     | ((with_reducible first | refine Ans.lsF ?_ ?_ | refine Ans.leF ?_ ?_ | refine Ans.grF ?_ ?_ | refine Ans.geF ?_ ?_ | refine Ans.eqF ?_ ?_ | refine Ans.neF ?_ ?_); (focus omega))
     | (with_reducible first | refine Ans.lsS (fun _ => ?_) (fun _ => ?_) | refine Ans.leS (fun _ => ?_) (fun _ => ?_) | refine Ans.grS (fun _ => ?_) (fun _ => ?_) | refine Ans.geS (fun _ => ?_) (fun _ => ?_) | refine Ans.eqS (fun _ => ?_) (fun _ => ?_) | refine Ans.neS (fun _ => ?_) (fun _ => ?_))
     | ((with_reducible first | refine Ans.addN ?_ ?_ | refine Ans.add ?_ ?_ | refine Ans.sub ?_ ?_ | refine Ans.mul ?_ ?_); (focus omega))
     | ((with_reducible first | refine Ans.ct ?_ ?_); (focus (simp (disch := (first | omega | with_reducible assumption | (simp <;> omega) | fail)) [lz]; done)))
     | ((with_reducible first | refine Ans.cf ?_ ?_); (focus (simp (disch := (first | omega | with_reducible assumption | (simp <;> omega) | fail)) [lz]; done)))
     | (refine Ans.step (by simp (disch := (first | omega | with_reducible assumption | (simp <;> omega) | fail)) [lz, -List.getD_eq_getElem?_getD] <;> rfl) ?_; try dsimp only [v_zero, v_succ])
     | fail)
    (refine Ans.exit0 ?_ ?_ ?_; (focus (simp (disch := (first | omega | with_reducible assumption | (simp <;> omega) | fail)) [o1, o2, o3]; done)); (focus (simp (disch := (first | omega | with_reducible assumption | (simp <;> omega) | fail)) [o1, o2, o3]; done)))
    rfl
  | succ k ih =>
    intro i hi
    have l1 := hx.rdi i (by omega) (by omega)
    have l2 := hy.rdi i (by omega) (by omega)
    have l3 := hz.rdi i (by omega) (by omega)
    simp only [Int.toNat_natCast] at l1 l2 l3
    have e := hZ i (by omega)
    have b1 := bX i (by omega)
    have b2 := bY i (by omega)
    obtain ⟨A, hA⟩ : ∃ A, gi X i = A := ⟨_, rfl⟩
    obtain ⟨B, hB⟩ : ∃ B, gi Y i = B := ⟨_, rfl⟩
    obtain ⟨C, hC⟩ : ∃ C, gi Z i = C := ⟨_, rfl⟩
    rw [hA] at l1 e b1
    rw [hB] at l2 e b2
    rw [hC] at l3 e
    subst e
    refine Ans.loop (fun q r => f8_N8000) (fun q => f8_Z8000) ?_
    unfold f8_L8000
    repeat' (first
     | ((with_reducible first | refine Ans.bz ?_ | refine Ans.r1 ?_ | refine Ans.pkT ?_ | refine Ans.pkF ?_); try dsimp only [v_zero, v_succ])
     | (with_reducible first | refine Ans.btL ?_ | refine Ans.bfL ?_ | refine Ans.gyT ?_ | refine Ans.gyF ?_ | refine Ans.gyG ?_ | refine Ans.bb ?_ | refine Ans.bc ?_ | refine Ans.ba ?_)
     | ((with_reducible first | refine Ans.lsT ?_ ?_ | refine Ans.leT ?_ ?_ | refine Ans.grT ?_ ?_ | refine Ans.geT ?_ ?_ | refine Ans.eqT ?_ ?_ | refine Ans.neT ?_ ?_); (focus omega))
     | ((with_reducible first | refine Ans.lsF ?_ ?_ | refine Ans.leF ?_ ?_ | refine Ans.grF ?_ ?_ | refine Ans.geF ?_ ?_ | refine Ans.eqF ?_ ?_ | refine Ans.neF ?_ ?_); (focus omega))
     | (with_reducible first | refine Ans.lsS (fun _ => ?_) (fun _ => ?_) | refine Ans.leS (fun _ => ?_) (fun _ => ?_) | refine Ans.grS (fun _ => ?_) (fun _ => ?_) | refine Ans.geS (fun _ => ?_) (fun _ => ?_) | refine Ans.eqS (fun _ => ?_) (fun _ => ?_) | refine Ans.neS (fun _ => ?_) (fun _ => ?_))
     | ((with_reducible first | refine Ans.addN ?_ ?_ | refine Ans.add ?_ ?_ | refine Ans.sub ?_ ?_ | refine Ans.mul ?_ ?_); (focus omega))
     | ((with_reducible first | refine Ans.ct ?_ ?_); (focus (simp (disch := (first | omega | with_reducible assumption | (simp <;> omega) | fail)) [lz, hx.ixs1, hy.ixs1, hz.ixs1, l1, l2, l3]; done)))
     | ((with_reducible first | refine Ans.cf ?_ ?_); (focus (simp (disch := (first | omega | with_reducible assumption | (simp <;> omega) | fail)) [lz, hx.ixs1, hy.ixs1, hz.ixs1, l1, l2, l3]; done)))
     | (refine Ans.step (by simp (disch := (first | omega | with_reducible assumption | (simp <;> omega) | fail)) [lz, hx.ixs1, hy.ixs1, hz.ixs1, l1, l2, l3, -List.getD_eq_getElem?_getD] <;> rfl) ?_; try dsimp only [v_zero, v_succ])
     | fail)
    (refine Ans.next0 ?_ ?_ ?_; (focus (simp (disch := (first | omega | with_reducible assumption | (simp <;> omega) | fail)) [o1, o2, o3]; done)); (focus (simp (disch := (first | omega | with_reducible assumption | (simp <;> omega) | fail)) [o1, o2, o3]; done)))
    exact ih (i + 1) (by omega)
end Go.Proofs.Ytcnndelmnobigaa

namespace Go.Proofs.Ytcnndelmnobigaa
open Go Go.Ab Go.Proofs
set_option maxRecDepth 100000
set_option linter.unusedVariables false
set_option linter.unusedSimpArgs false
theorem AppG.len {c0 : Nat} {h : FH} {c : Nat} {v : Value} {n : Nat} {cs : List Value} (ha : AppG c0 h c v n cs) : lenS v = some (.int .i64 n) := by
  obtain ⟨_, _, _, i, op, rfl, _⟩ := ha; rfl
theorem sT_bound {Gl V : List Int} (hV : ∀ j, 0 ≤ gi V j ∧ gi V j ≤ 1000000) : ∀ {r t : Nat}, 0 ≤ sT Gl V r t ∧ sT Gl V r t ≤ r * 32000000
  | 0, _ => by simp [sT]
  | r + 1, t => by
    rw [sT]
    have h1 := sF_bound (Gl := Gl) hV (t := t) (r := 4) (f := 0)
    have h2 := sT_bound (Gl := Gl) hV (r := r) (t := t + 1)
    omega
theorem eulL_bound {Gl V : List Int} {n : Nat} (hV : ∀ j, 0 ≤ gi V j ∧ gi V j ≤ 1000000) (hn : n ≤ 60) (hl : V.length = 7 * n) : -10000000000 ≤ eulL Gl n V ∧ eulL Gl n V ≤ 10000000000 := by
  have hel : (edF Gl n).length ≤ 6 * n := firstsL_len _ _
  have k1 := sumL_bound (B := 5000000) (by omega) (L := (edF Gl n).map (wgt V)) (fun x hx => by
    obtain ⟨y, _, rfl⟩ := List.mem_map.1 hx
    exact weightL_bound hV)
  have k2 := sumL_bound (B := 5000000) (by omega) (L := V) (fun x hx => by
    obtain ⟨j, hj, rfl⟩ := List.getElem_of_mem hx
    have := hV j
    rw [gi_get V hj] at this
    omega)
  have k3 := sT_bound (Gl := Gl) hV (r := n) (t := 0)
  rw [List.length_map] at k1
  unfold eulL
  omega
set_option maxHeartbeats 2000000 in
theorem normalSums_true (s u v : Value) (n nu nv : Nat) (Gl U V : List Int) (h : FH) (c : Nat) (hs : SlI h c s 20 n Gl) (hu : SlI h c u 1 nu U) (hv : SlI h c v 1 nv V) (hxu : SlX h u 1 nu) (hxv : SlX h v 1 nv) :
    Ans (G (.fn 8) [.agg #[s], u, v] h c []) fun x => x.e = .ret ∧ x.vs = [.bool true] := by
  suffices hs : Ans (f8_S G (.agg #[s]) u v h c) fun x => x.e = .ret ∧ x.vs = [.bool true] by
    obtain ⟨x, q1, q2⟩ := hs
    exact ⟨_, f8_go q1, by show (gcR h c [] x).e = _ ∧ (gcR h c [] x).vs = _; rw [gcR_e, gcR_vs]; exact q2⟩
  unfold f8_S
  rw [flat1 hs.flat, cell1, Nat.add_zero]
  simp only [cond_true]
  obtain ⟨H, hH⟩ : ∃ H, H = newB h (256 * c) [s] := ⟨_, rfl⟩
  have sH : Same c h H := by rw [hH]; simp (disch := omega)
  have hg : Holds H (256 * c) [s] := by rw [hH]; exact Holds.newB_same _ _ _
  rw [← hH]
  clear hH
  have k0 := sane_call H
  have l1 := ldN1_own hg
  have lu := hu.len
  have lv := hv.len
  have cs := fun c' (hc : c ≤ c') => callF_of (small_sp s n Gl H c' [] ((hs.same sH).mono hc))
  by_cases hn : n ≤ 6
  case neg =>
    rw [decide_eq_false hn] at cs
    repeat' (first
     | ((with_reducible first | refine Ans.bz ?_ | refine Ans.r1 ?_ | refine Ans.pkT ?_ | refine Ans.pkF ?_); try dsimp only [v_zero, v_succ])
     | (with_reducible first | refine Ans.btL ?_ | refine Ans.bfL ?_ | refine Ans.gyT ?_ | refine Ans.gyF ?_ | refine Ans.gyG ?_ | refine Ans.bb ?_ | refine Ans.bc ?_ | refine Ans.ba ?_)
     | ((with_reducible first | refine Ans.lsT ?_ ?_ | refine Ans.leT ?_ ?_ | refine Ans.grT ?_ ?_ | refine Ans.geT ?_ ?_ | refine Ans.eqT ?_ ?_ | refine Ans.neT ?_ ?_); (focus omega))
     | ((with_reducible first | refine Ans.lsF ?_ ?_ | refine Ans.leF ?_ ?_ | refine Ans.grF ?_ ?_ | refine Ans.geF ?_ ?_ | refine Ans.eqF ?_ ?_ | refine Ans.neF ?_ ?_); (focus omega))
     | (with_reducible first | refine Ans.lsS (fun _ => ?_) (fun _ => ?_) | refine Ans.leS (fun _ => ?_) (fun _ => ?_) | refine Ans.grS (fun _ => ?_) (fun _ => ?_) | refine Ans.geS (fun _ => ?_) (fun _ => ?_) | refine Ans.eqS (fun _ => ?_) (fun _ => ?_) | refine Ans.neS (fun _ => ?_) (fun _ => ?_))
     | ((with_reducible first | refine Ans.addN ?_ ?_ | refine Ans.add ?_ ?_ | refine Ans.sub ?_ ?_ | refine Ans.mul ?_ ?_); (focus omega))
     | ((with_reducible first | refine Ans.ct ?_ ?_); (focus (simp (disch := (first | omega | with_reducible assumption | (simp <;> omega) | fail)) [k0, l1, cs]; done)))
     | ((with_reducible first | refine Ans.cf ?_ ?_); (focus (simp (disch := (first | omega | with_reducible assumption | (simp <;> omega) | fail)) [k0, l1, cs]; done)))
     | (refine Ans.step (by simp (disch := (first | omega | with_reducible assumption | (simp <;> omega) | fail)) [k0, l1, cs, -List.getD_eq_getElem?_getD] <;> rfl) ?_; try dsimp only [v_zero, v_succ])
     | fail)
    exact .done ⟨rfl, rfl⟩
  rw [decide_eq_true hn] at cs
  have hbl : bldL [(.slice none 0 0), (.slice none 0 0)] [(0, 1, u), (1, 1, v)] = some [u, v] := by
    obtain ⟨_, _, a, cap, rfl, _⟩ := hv
    obtain ⟨_, _, a, cap, rfl, _⟩ := hu
    rfl
  obtain ⟨sb, hsb⟩ : ∃ sb, 256 * (c + 1 + 1) + 6 = sb := ⟨_, rfl⟩
  obtain ⟨K, hK⟩ : ∃ K, newB H sb [u, v] = K := ⟨_, rfl⟩
  have sK : Same c h K := by rw [← hK]; exact sH.trans (by intro b hb; rw [newB_f, if_neg (by omega)])
  have hgK : Holds K (256 * c) [s] := by rw [← hK]; exact hg.newB_ne (by omega)
  have hq : Holds K sb [u, v] := by rw [← hK]; exact Holds.newB_same _ _ _
  have lK := ldN1_own hgK
  have ch := fun c' (hc : c + 1 + 1 + 1 ≤ c') => short2 u v nu nv sb K c' (by omega) hq lu lv
  by_cases h50 : nu ≤ 50 ∧ nv ≤ 50
  case neg =>
    have : (decide (nu ≤ 50) && decide (nv ≤ 50)) = false := by
      rw [Bool.and_eq_false_iff]
      by_cases h1 : nu ≤ 50
      · exact .inr (decide_eq_false (fun h2 => h50 ⟨h1, h2⟩))
      · exact .inl (decide_eq_false h1)
    rw [this] at ch
    repeat' (first
     | ((with_reducible first | refine Ans.bz ?_ | refine Ans.r1 ?_ | refine Ans.pkT ?_ | refine Ans.pkF ?_); try dsimp only [v_zero, v_succ])
     | (with_reducible first | refine Ans.btL ?_ | refine Ans.bfL ?_ | refine Ans.gyT ?_ | refine Ans.gyF ?_ | refine Ans.gyG ?_ | refine Ans.bb ?_ | refine Ans.bc ?_ | refine Ans.ba ?_)
     | ((with_reducible first | refine Ans.lsT ?_ ?_ | refine Ans.leT ?_ ?_ | refine Ans.grT ?_ ?_ | refine Ans.geT ?_ ?_ | refine Ans.eqT ?_ ?_ | refine Ans.neT ?_ ?_); (focus omega))
     | ((with_reducible first | refine Ans.lsF ?_ ?_ | refine Ans.leF ?_ ?_ | refine Ans.grF ?_ ?_ | refine Ans.geF ?_ ?_ | refine Ans.eqF ?_ ?_ | refine Ans.neF ?_ ?_); (focus omega))
     | (with_reducible first | refine Ans.lsS (fun _ => ?_) (fun _ => ?_) | refine Ans.leS (fun _ => ?_) (fun _ => ?_) | refine Ans.grS (fun _ => ?_) (fun _ => ?_) | refine Ans.geS (fun _ => ?_) (fun _ => ?_) | refine Ans.eqS (fun _ => ?_) (fun _ => ?_) | refine Ans.neS (fun _ => ?_) (fun _ => ?_))
     | ((with_reducible first | refine Ans.addN ?_ ?_ | refine Ans.add ?_ ?_ | refine Ans.sub ?_ ?_ | refine Ans.mul ?_ ?_); (focus omega))
     | ((with_reducible first | refine Ans.ct ?_ ?_); (focus (simp (disch := (first | omega | with_reducible assumption | (simp <;> omega) | fail)) [k0, l1, cs, hbl, hsb, hK, ch]; done)))
     | ((with_reducible first | refine Ans.cf ?_ ?_); (focus (simp (disch := (first | omega | with_reducible assumption | (simp <;> omega) | fail)) [k0, l1, cs, hbl, hsb, hK, ch]; done)))
     | (refine Ans.step (by simp (disch := (first | omega | with_reducible assumption | (simp <;> omega) | fail)) [k0, l1, cs, hbl, hsb, hK, ch, -List.getD_eq_getElem?_getD] <;> rfl) ?_; try dsimp only [v_zero, v_succ])
     | fail)
    exact .done ⟨rfl, rfl⟩
  rw [decide_eq_true h50.1, decide_eq_true h50.2, Bool.and_self] at ch
  obtain ⟨⟨re, rv, H7, c7, rd⟩, hr, r1, r2, r3, r4, r5⟩ := sum_sp s u v n nu nv Gl U V K (c + 1 + 1 + 1 + 1) [] ((hs.same sK).mono (by omega)) ((hu.same sK).mono (by omega)) ((hv.same sK).mono (by omega)) (SlX.keep hu sK hxu) (SlX.keep hv sK hxv) (by omega) (by omega)
  simp only at r1 r2 r3 r4 r5
  subst r1 r2
  rcases r5 with ⟨e0, rfl⟩ | ⟨e0, w, rfl, sw, xw⟩
  · have c7' := callF_of hr
    repeat' (first
     | ((with_reducible first | refine Ans.bz ?_ | refine Ans.r1 ?_ | refine Ans.pkT ?_ | refine Ans.pkF ?_); try dsimp only [v_zero, v_succ])
     | (with_reducible first | refine Ans.btL ?_ | refine Ans.bfL ?_ | refine Ans.gyT ?_ | refine Ans.gyF ?_ | refine Ans.gyG ?_ | refine Ans.bb ?_ | refine Ans.bc ?_ | refine Ans.ba ?_)
     | ((with_reducible first | refine Ans.lsT ?_ ?_ | refine Ans.leT ?_ ?_ | refine Ans.grT ?_ ?_ | refine Ans.geT ?_ ?_ | refine Ans.eqT ?_ ?_ | refine Ans.neT ?_ ?_); (focus omega))
     | ((with_reducible first | refine Ans.lsF ?_ ?_ | refine Ans.leF ?_ ?_ | refine Ans.grF ?_ ?_ | refine Ans.geF ?_ ?_ | refine Ans.eqF ?_ ?_ | refine Ans.neF ?_ ?_); (focus omega))
     | (with_reducible first | refine Ans.lsS (fun _ => ?_) (fun _ => ?_) | refine Ans.leS (fun _ => ?_) (fun _ => ?_) | refine Ans.grS (fun _ => ?_) (fun _ => ?_) | refine Ans.geS (fun _ => ?_) (fun _ => ?_) | refine Ans.eqS (fun _ => ?_) (fun _ => ?_) | refine Ans.neS (fun _ => ?_) (fun _ => ?_))
     | ((with_reducible first | refine Ans.addN ?_ ?_ | refine Ans.add ?_ ?_ | refine Ans.sub ?_ ?_ | refine Ans.mul ?_ ?_); (focus omega))
     | ((with_reducible first | refine Ans.ct ?_ ?_); (focus (simp (disch := (first | omega | with_reducible assumption | (simp <;> omega) | fail)) [k0, l1, cs, hbl, hsb, hK, ch, lK, c7']; done)))
     | ((with_reducible first | refine Ans.cf ?_ ?_); (focus (simp (disch := (first | omega | with_reducible assumption | (simp <;> omega) | fail)) [k0, l1, cs, hbl, hsb, hK, ch, lK, c7']; done)))
     | (refine Ans.step (by simp (disch := (first | omega | with_reducible assumption | (simp <;> omega) | fail)) [k0, l1, cs, hbl, hsb, hK, ch, lK, c7', -List.getD_eq_getElem?_getD] <;> rfl) ?_; try dsimp only [v_zero, v_succ])
     | fail)
    exact .done ⟨rfl, rfl⟩
  have c7' := callF_of hr
  have he : chkE Gl n (admB Gl n U && admB Gl n V) = 0 ∧ ((List.range n).all fun t => areQ (quadAt (addL U V) t)) = true ∧ withinB (addL U V) = true := by
    unfold sumE at e0
    split at e0
    · rename_i h1
      split at e0
      · rename_i h2
        split at e0
        · rename_i h3; exact ⟨h1, h2, h3⟩
        · cases e0
      · cases e0
    · rename_i h1; exact absurd e0 h1
  obtain ⟨e1, e2, e3⟩ := he
  obtain ⟨hr0, ha⟩ := chkE_zero e1
  rw [Bool.and_eq_true] at ha
  obtain ⟨aU, aV⟩ := ha
  have aW := admB_add aU aV e2 e3
  obtain ⟨u1, u2⟩ := admB_w aU
  obtain ⟨v1, v2⟩ := admB_w aV
  have hl : U.length = V.length := u1.trans v1.symm
  have hE : chkE Gl n true = 0 := by unfold chkE; rw [if_pos hr0, if_pos rfl]
  have s7 : Same c h H7 := sK.trans (r4.mono (by omega))
  have hg7 : Holds H7 (256 * c) [s] := hgK.eqf (r4 _ (by omega))
  have l7 := ldN1_own hg7
  have hs7 := (hs.same s7).mono (show c ≤ c7 by omega)
  have hu7 := (hu.same s7).mono (show c ≤ c7 by omega)
  have hv7 := (hv.same s7).mono (show c ≤ c7 by omega)
  have xu7 := SlX.keep hu s7 hxu
  have xv7 := SlX.keep hv s7 hxv
  have ce := fun c' (hc : c7 ≤ c') => callF_of (euler_sp s u n nu Gl U H7 c' [] (hs7.mono hc) (hu7.mono hc) xu7 (by omega))
  have cf := fun c' (hc : c7 ≤ c') => callF_of (euler_sp s v n nv Gl V H7 c' [] (hs7.mono hc) (hv7.mono hc) xv7 (by omega))
  have cg := fun c' (hc : c7 ≤ c') => callF_of (euler_sp s w n nu Gl (addL U V) H7 c' [] (hs7.mono hc) (sw.mono hc) xw (by omega))
  have ck := fun c' (hc : c7 ≤ c') => callF_of (checkN_sp s w n nu Gl (addL U V) H7 c' [] (hs7.mono hc) (sw.mono hc) xw (by omega))
  unfold eulV at ce cf cg
  rw [aU, hE, if_pos rfl] at ce
  rw [aV, hE, if_pos rfl] at cf
  rw [aW, hE, if_pos rfl, eulL_add hl] at cg
  rw [aW, hE] at ck
  have hV1 := withinI u2
  have hV2 := withinI v2
  have bU := eulL_bound (Gl := Gl) hV1 (show n ≤ 60 by omega) u1
  have bV := eulL_bound (Gl := Gl) hV2 (show n ≤ 60 by omega) v1
  obtain ⟨eU, heU⟩ : ∃ e, eulL Gl n U = e := ⟨_, rfl⟩
  obtain ⟨eV, heV⟩ : ∃ e, eulL Gl n V = e := ⟨_, rfl⟩
  rw [heU] at ce cg bU
  rw [heV] at cf cg bV
  obtain ⟨⟨re, rv, H8, c8, rd⟩, w8, p1, p2, p3, p4, p5⟩ := weightsN_sp s u n nu Gl U H7 (c7 + 1 + 1 + 1 + 1 + 1 + 1) [] (hs7.mono (by omega)) (hu7.mono (by omega)) xu7 (by omega)
  simp only at p1 p2 p3 p4 p5
  subst p1 p2
  rw [aU, hE] at p5
  rcases p5 with ⟨e, _⟩ | ⟨_, x, rfl, gx⟩
  · exact absurd rfl e
  have t8 : Same c7 H7 H8 := p4.mono (by omega)
  have s8 : Same c h H8 := s7.trans (t8.mono (by omega))
  have hg8 : Holds H8 (256 * c) [s] := hg7.eqf (t8 _ (by omega))
  have l8 := ldN1_own hg8
  obtain ⟨⟨re, rv, H9, c9, rd⟩, w9, p1, p2, p3', p4', p5⟩ := weightsN_sp s v n nv Gl V H8 (c8 + 1) [] ((hs.same s8).mono (by omega)) ((hv.same s8).mono (by omega)) (SlX.keep hv s8 hxv) (by omega)
  simp only at p1 p2 p3' p4' p5
  subst p1 p2
  rw [aV, hE] at p5
  rcases p5 with ⟨e, _⟩ | ⟨_, y, rfl, gy⟩
  · exact absurd rfl e
  have t9 : Same c8 H8 H9 := p4'.mono (by omega)
  have s9 : Same c h H9 := s8.trans (t9.mono (by omega))
  have hg9 : Holds H9 (256 * c) [s] := hg8.eqf (t9 _ (by omega))
  have l9 := ldN1_own hg9
  have u9 : Same c7 H7 H9 := t8.trans (t9.mono (by omega))
  obtain ⟨⟨re, rv, H10, c10, rd⟩, w10, p1, p2, p3'', p4'', p5⟩ := weightsN_sp s w n nu Gl (addL U V) H9 (c9 + 1) [] ((hs.same s9).mono (by omega)) ((sw.same u9).mono (by omega)) (SlX.keep sw u9 xw) (by omega)
  simp only at p1 p2 p3'' p4'' p5
  subst p1 p2
  rw [aW, hE] at p5
  rcases p5 with ⟨e, _⟩ | ⟨_, z, rfl, gz⟩
  · exact absurd rfl e
  have t10 : Same c9 H9 H10 := p4''.mono (by omega)
  have d8 := callF_of w8
  have d9 := callF_of w9
  have d10 := callF_of w10
  have lx := gx.sl.len
  have ly := gy.sl.len
  have lz := gz.sl.len
  have hel : (edF Gl n).length ≤ 6 * n := firstsL_len _ _
  have sx : SlI H10 c10 x 1 (edF Gl n).length ((edF Gl n).map (wgt U)) := ((gx.sl.same t9).same (t10.mono (by omega))).mono (by omega)
  have sy : SlI H10 c10 y 1 (edF Gl n).length ((edF Gl n).map (wgt V)) := (gy.sl.same t10).mono (by omega)
  have sz := gz.sl
  obtain ⟨F, hF⟩ : ∃ F, edF Gl n = F := ⟨_, rfl⟩
  rw [hF] at sx sy sz lx ly lz hel
  have bnd : ∀ (W : List Int), (∀ j, 0 ≤ gi W j ∧ gi W j ≤ 1000000) → ∀ j : Nat, j < F.length → 0 ≤ gi (F.map (wgt W)) j ∧ gi (F.map (wgt W)) j ≤ 5000000 := fun W hW j hj => by
    rw [gi_get _ (by simpa using hj), List.getElem_map]
    exact weightL_bound hW
  have hl8 := Ans.eq (sums_loop x y z F.length _ _ _ H10 (c10 + 1 + 1) (sx.mono (by omega)) (sy.mono (by omega)) (sz.mono (by omega)) (bnd U hV1) (bnd V hV2) (fun j hj => by
    rw [gi_get _ (by simpa using hj), gi_get _ (by simpa using hj), gi_get _ (by simpa using hj), List.getElem_map, List.getElem_map, List.getElem_map, wgt_add hl]) (by omega) [] F.length 0 (by omega))
  simp only [Int.ofNat_eq_natCast, Int.cast_ofNat_Int] at hl8
  repeat' (first
   | ((with_reducible first | refine Ans.bz ?_ | refine Ans.r1 ?_ | refine Ans.pkT ?_ | refine Ans.pkF ?_); try dsimp only [v_zero, v_succ])
   | (with_reducible first | refine Ans.btL ?_ | refine Ans.bfL ?_ | refine Ans.gyT ?_ | refine Ans.gyF ?_ | refine Ans.gyG ?_ | refine Ans.bb ?_ | refine Ans.bc ?_ | refine Ans.ba ?_)
   | ((with_reducible first | refine Ans.lsT ?_ ?_ | refine Ans.leT ?_ ?_ | refine Ans.grT ?_ ?_ | refine Ans.geT ?_ ?_ | refine Ans.eqT ?_ ?_ | refine Ans.neT ?_ ?_); (focus omega))
   | ((with_reducible first | refine Ans.lsF ?_ ?_ | refine Ans.leF ?_ ?_ | refine Ans.grF ?_ ?_ | refine Ans.geF ?_ ?_ | refine Ans.eqF ?_ ?_ | refine Ans.neF ?_ ?_); (focus omega))
   | (with_reducible first | refine Ans.lsS (fun _ => ?_) (fun _ => ?_) | refine Ans.leS (fun _ => ?_) (fun _ => ?_) | refine Ans.grS (fun _ => ?_) (fun _ => ?_) | refine Ans.geS (fun _ => ?_) (fun _ => ?_) | refine Ans.eqS (fun _ => ?_) (fun _ => ?_) | refine Ans.neS (fun _ => ?_) (fun _ => ?_))
   | ((with_reducible first | refine Ans.addN ?_ ?_ | refine Ans.add ?_ ?_ | refine Ans.sub ?_ ?_ | refine Ans.mul ?_ ?_); (focus omega))
   | ((with_reducible first | refine Ans.ct ?_ ?_); (focus (simp (disch := (first | omega | with_reducible assumption | (simp <;> omega) | fail)) [k0, l1, cs, hbl, hsb, hK, ch, lK, c7', l7, ce, cf, cg, ck, d8, l8, d9, l9, d10, lx, ly, lz, hl8]; done)))
   | ((with_reducible first | refine Ans.cf ?_ ?_); (focus (simp (disch := (first | omega | with_reducible assumption | (simp <;> omega) | fail)) [k0, l1, cs, hbl, hsb, hK, ch, lK, c7', l7, ce, cf, cg, ck, d8, l8, d9, l9, d10, lx, ly, lz, hl8]; done)))
   | (refine Ans.step (by simp (disch := (first | omega | with_reducible assumption | (simp <;> omega) | fail)) [k0, l1, cs, hbl, hsb, hK, ch, lK, c7', l7, ce, cf, cg, ck, d8, l8, d9, l9, d10, lx, ly, lz, hl8, -List.getD_eq_getElem?_getD] <;> rfl) ?_; try dsimp only [v_zero, v_succ])
   | fail)
  exact .done ⟨rfl, rfl⟩
end Go.Proofs.Ytcnndelmnobigaa

namespace Go.Ab
open Go Go.ChangeShapes Go.RowKit
set_option linter.unusedVariables false
set_option linter.unusedSimpArgs false
variable {P : Program}
theorem okStruct {W : World} {base : Nat} {t : TypeId} {fs : Array Field} {v : Value} {ts : List TypeId} (ht : P.underlying t = some (.struct fs)) (hts : P.cellTypes P.depth t = some ts) (hval : Value.okWide P W .any base t v) :
    ∃ cs, v = .agg cs ∧ cs.size = P.cellsOf t ∧ ∀ i x, cs[i]? = some x → ∃ u, ts[i % ts.length]? = some u ∧ Cell.okWide P W .any base u x := by
  unfold Value.okWide at hval
  rw [ht] at hval
  obtain ⟨cs, rfl, h1, ts', h2, _, h3⟩ := hval
  rw [hts] at h2
  cases h2
  exact ⟨cs, rfl, h1, h3⟩
theorem open_s1 {H : Type} {enc : TypeId × Value → H} {W : World} {base : Nat} {tG tS e : TypeId} {sz : Nat} {v : Value} {f0 : Field} {d : DataW H} {ps : List MemPlace} (ht : P.underlying tG = some (.struct #[f0])) (hts : P.cellTypes P.depth tG = some [tS]) (hc : P.cellsOf tG = 1)
    (hS : P.underlying tS = some (.slice e)) (h0 : f0.type = tS) (o0 : f0.offset = 0) (hcS : P.cellsOf tS = 1) (hf : FlatT P e sz) (hz : 0 < sz) (hval : Value.okWide P W .any base tG v) (hd : DataW.Trod enc P W 0 (fun _ => true) true tG v d ps) :
    ∃ s n Gl, v = .agg #[s] ∧ OpenS W s sz n Gl := by
  obtain ⟨cs, rfl, h1, h2⟩ := okStruct ht hts hval
  rw [hc] at h1
  have hcs : ∃ s, cs = #[s] := by
    obtain ⟨l⟩ := cs
    match l, h1 with
    | [s], _ => exact ⟨s, rfl⟩
  match hcs with
  | ⟨s, hs⟩ =>
    subst hs
    obtain ⟨u, hu, hok⟩ := h2 0 s rfl
    simp at hu
    subst hu
    obtain ⟨fuel, hd⟩ := hd
    obtain ⟨y0, n, _, _, h3⟩ := trod_struct1 ht hd
    rw [h0, o0, hcS] at h3
    obtain ⟨n, Gl, ho⟩ := open_flat hS hf hz hok (fuel := n) (x := y0) (by simpa [Value.cells] using h3)
    exact ⟨s, n, Gl, rfl, ho⟩
theorem open_sl {H : Type} {enc : TypeId × Value → H} {W : World} {base : Nat} {tS e : TypeId} {sz : Nat} {v : Value} {d : DataW H} {ps : List MemPlace} (hS : P.underlying tS = some (.slice e)) (hf : FlatT P e sz) (hz : 0 < sz)
    (hval : Value.okWide P W .any base tS v) (hd : DataW.Trod enc P W 0 (fun _ => true) true tS v d ps) : ∃ n Gl, OpenS W v sz n Gl := by
  unfold Value.okWide at hval
  rw [hS] at hval
  obtain ⟨fuel, hd⟩ := hd
  have hcs : v.cells.toList = [v] := by
    have hok : Cell.ok P W .any base tS v := by
      unfold Cell.okWide at hval
      rw [hS] at hval
      cases v <;> exact hval
    unfold Cell.ok at hok
    rw [hS] at hok
    cases v <;> first | rfl | exact hok.elim
  exact open_flat hS hf hz hval (fuel := fuel) (x := (d, ps)) (by rw [← hcs]; exact hd)
theorem VR.agg1 {μ : Mu} {a b : Value} (h : VR μ a b) : VR μ (.agg #[a]) (.agg #[b]) := VR.agg_iff.2 (VRs.cons h (VRs.nil _))
def LawEnd (W : World) (e : Ending) (W' : World) : Prop := e = .returned (.bool true) ∧ Below W.heap.size W W'
end Go.Ab

namespace Go.Ab
open Go Go.ChangeShapes Go.RowKit
set_option linter.unusedVariables false
set_option linter.unusedSimpArgs false
theorem rows_relX {W : World} (l : List (Value × Nat × Nat × List Int)) (hl : l.length ≤ 256) (h : ∀ (k : Nat) (p : Value × Nat × Nat × List Int), l[k]? = some p → OpenS W p.1 p.2.1 p.2.2.1 p.2.2.2) :
    ∃ (A : FH) (μ : Mu), R μ A W ∧ Fresh μ 1 ∧ (∀ i m, μ i = some m → wrB (HeapC.get A i) = false) ∧ ∀ (k : Nat) (p : Value × Nat × Nat × List Int), l[k]? = some p → SlI A 1 (absS k p.1) p.2.1 p.2.2.1 p.2.2.2 ∧ VR μ (absS k p.1) p.1 ∧ SlX A (absS k p.1) p.2.1 p.2.2.1 := by
  let blk : Nat → Option ABlk := fun i => (l[i]?).bind fun p => (absM p.1).map fun _ => .cells true none (ints p.2.2.2)
  let mu : Mu := fun i => (l[i]?).bind fun p => absM p.1
  have key : ∀ i m, mu i = some m → ∃ p, l[i]? = some p ∧ absM p.1 = some m ∧ blk i = some (.cells true none (ints p.2.2.2)) := by
    intro i m e
    cases hp : l[i]? with
    | none => simp only [mu, hp] at e; cases e
    | some p =>
      simp only [mu, hp, Option.bind_some] at e
      exact ⟨p, rfl, e, by simp only [blk, hp, Option.bind_some, e, Option.map_some]⟩
  refine ⟨⟨blk⟩, mu, ⟨fun i m e => ?_, fun i j mi mj ei ej hne di dj hro => ?_, fun i m e => ?_⟩, fun i hi => ?_, fun i m e => ?_, fun k p hp => ?_⟩
  · obtain ⟨p, h1, h2, h3⟩ := key i m e
    have := ((h i p h1).blk (μ := mu) h2).1
    show BlkR mu m W.heap (blk i)
    rw [h3]; exact this
  · obtain ⟨p, h1, h2, h3⟩ := key i mi ei
    obtain ⟨q, g1, g2, g3⟩ := key j mj ej
    exact absurd (show roB (blk i) = true ∧ roB (blk j) = true by rw [h3, g3]; exact ⟨rfl, rfl⟩) hro
  · obtain ⟨p, h1, h2, h3⟩ := key i m e
    exact ((h i p h1).blk (μ := mu) h2).2
  · have : l[i]? = none := List.getElem?_eq_none (by omega)
    simp only [mu, this]; rfl
  · obtain ⟨p, h1, h2, h3⟩ := key i m e
    show wrB (blk i) = false
    rw [h3]; rfl
  · have hk : k < l.length := (List.getElem?_eq_some_iff.1 hp).1
    refine ⟨(h k p hp).sl (by omega) (fun m hm => ?_), (h k p hp).vr (fun m hm => ?_), (h k p hp).slx (fun m hm => ?_)⟩
    · show blk k = _
      simp only [blk, hp, Option.bind_some, hm, Option.map_some]
    · simp only [mu, hp, Option.bind_some, hm]
    · show blk k = _
      simp only [blk, hp, Option.bind_some, hm, Option.map_some]
end Go.Ab

namespace Go.Proofs.Ytcnndelmnobigaa
open Go.ChangeShapes Go.WideShapes Go.ChangeAt Go.RowKit
open Go Go.Ab Go.Proofs
set_option linter.unusedVariables false
set_option maxRecDepth 100000
theorem Try.own : ownKnob Try.prog.godebug = none := by kernel_rfl
theorem Try.laidOut : laidOutB Try.prog = true := by kernel_rfl
theorem flatInt : FlatT P 3 1 := FlatT.int Try.underlying3 (by kernel_rfl)
theorem flatPerm : FlatT P 39 4 := FlatT.array (n := 4) (z := 1) Try.underlying39 flatInt (by kernel_rfl)
theorem flatFace : FlatT P 41 5 := FlatT.struct2 (z0 := 1) (z1 := 4) Try.underlying41 flatInt flatPerm rfl rfl (by kernel_rfl)
theorem flatRow : FlatT P 42 20 := FlatT.array (n := 4) (z := 5) Try.underlying42 flatFace (by kernel_rfl)
theorem open_gluing {H : Type} {enc : TypeId × Value → H} {W : World} {base : Nat} {v : Value} {d : DataW H} {ps : List MemPlace} (hval : Value.okWide P W .any base 24 v) (hd : DataW.Trod enc P W 0 (fun _ => true) true 24 v d ps) :
    ∃ s n Gl, v = .agg #[s] ∧ OpenS W s 20 n Gl :=
  open_s1 Try.underlying24 (by kernel_rfl) (by kernel_rfl) Try.underlying22 rfl rfl (by kernel_rfl) flatRow (by omega) hval hd
theorem open_v {H : Type} {enc : TypeId × Value → H} {W : World} {base : Nat} {v : Value} {d : DataW H} {ps : List MemPlace} (hval : Value.okWide P W .any base 34 v) (hd : DataW.Trod enc P W 0 (fun _ => true) true 34 v d ps) :
    ∃ n Gl, OpenS W v 1 n Gl := open_sl (e := 3) (sz := 1) Try.underlying34 flatInt (by omega) hval hd
theorem law_calls {f : FuncId} {W : World} {A : FH} {μ : Mu} {xs ys : List Value} (hR : R μ A W) (hf : Fresh μ 1) (hro : ∀ i m, μ i = some m → wrB (HeapC.get A i) = false) (hv : VRs μ xs ys) (h : Ans (G (.fn f) xs A 1 []) fun x => x.e = .ret ∧ x.vs = [.bool true]) :
    Calls P f ys.toArray W (LawEnd W) := by
  obtain ⟨x, hx, he, hvs⟩ := h
  refine (runG_calls bk_ok ext_ok mixed hx hv hR hf).mono ?_
  rintro en w' ⟨u, v', μ', h1, h2, h3, hE⟩
  rw [hvs] at h1
  cases h1
  exact ⟨by rw [h2, h3.bool_left], hE.os, hE.tape, hE.output, hE.size, fun k hk => hE.fr k hk (fun i m e hw => by rw [hro i m e] at hw; cases hw)⟩
end Go.Proofs.Ytcnndelmnobigaa
