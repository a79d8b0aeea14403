/- Parts of a proof: N10 N11 U11 U12 AbUf2 V4 AbCount V5 V6 U13 V7 V8 AbRow2 AbRow3 RowK. Conditions: none. -/
import Derived.Test.YtcnndelmnobigaaM5
import Derived.Test.YtcnndelmnobigaaM6
import Derived.Test.YtcnndelmnobigaaM7
import Derived.Test.YtcnndelmnobigaaM4
import Derived.Test.YtcnndelmnobigaaRows
import Derived.ProofKit
set_option linter.all false
namespace Go.Proofs.Ytcnndelmnobigaa
open Go Go.Ab Go.Proofs
set_option maxRecDepth 100000
set_option linter.unusedVariables false
set_option linter.unusedSimpArgs false
theorem sane_call (h : FH) (c : Nat) : callF G 11 [] h c = some (.bool true, h, c) := callF_of (runG_ext (f := 11) (args := []) (h := h) (c := c) (r := { e := .ret, vs := [.bool true], h := h, c := c, df := [] }) rfl)
theorem callF_checkR (s : Value) (n : Nat) (Gl : List Int) (h : FH) (c : Nat) (hs : SlI h c s 20 n Gl) : callF G 13 [.agg #[s]] h c = some (.int .i64 (if n ≤ 1000 ∧ okAll Gl n = true then 0 else 7), h, c) := callF_of (checkR_sp s n Gl h c [] hs)
def cntK (V : List Int) (t : Nat) : Nat → Nat → Nat
  | 0, _ => 0
  | k + 1, i => (if 3 < i ∧ gi V (7 * t + i : Nat) ≠ 0 then 1 else 0) + cntK V t k (i + 1)
end Go.Proofs.Ytcnndelmnobigaa

namespace Go.Proofs.Ytcnndelmnobigaa
open Go Go.Ab Go.Proofs
set_option maxRecDepth 100000
set_option linter.unusedVariables false
set_option linter.unusedSimpArgs false
theorem EqV.len {c0 : Nat} {h : FH} {c n : Nat} {Gl : List Int} {v : Value} (e : EqV c0 h c n Gl v) : lenS v = some (.int .i64 (allM Gl n).length) := by
  obtain ⟨vals, ⟨_, _, _, i, op, rfl, _⟩, _⟩ := e
  rfl
theorem EqV.okV {c0 : Nat} {h : FH} {c n : Nat} {Gl : List Int} {v : Value} (e : EqV c0 h c n Gl v) : OkV c v := by
  obtain ⟨vals, ⟨_, _, _, i, op, rfl, _, h6, _⟩, _⟩ := e
  exact OkV.sl h6
theorem EqV.mono {c0 : Nat} {h : FH} {c c' n : Nat} {Gl : List Int} {v : Value} (hc : c ≤ c') (e : EqV c0 h c n Gl v) : EqV c0 h c' n Gl v := by
  obtain ⟨vals, h1, h2⟩ := e
  refine ⟨vals, h1.mono hc, fun k m hk => ?_⟩
  obtain ⟨x, x1, b, y1, y2, y3, y4⟩ := h2 k m hk
  exact ⟨x, x1, b, y1, y2, by omega, y4⟩
theorem EqV.at {c0 : Nat} {h : FH} {c n : Nat} {Gl : List Int} {v : Value} (e : EqV c0 h c n Gl v) {i : Nat} (hi : i < (allM Gl n).length) :
    ∃ x p, ixS 1 v (.int .i64 i) = some p ∧ ld1 h p = some x ∧ lenS x = some (.int .i64 (7 * n : Nat)) ∧ SlI h c x 1 (7 * n) (eqRow n ((allM Gl n).getD i [])) := by
  obtain ⟨vals, ⟨h1, h2, h3, b, op, rfl, h5, h6, h7, h8⟩, h9⟩ := e
  obtain ⟨x, x1, b', rfl, y2, y3, y4, y5, y6⟩ := h9 i _ (List.getElem?_eq_getElem hi)
  have hg : (allM Gl n).getD i [] = (allM Gl n)[i] := by simp [List.getD, List.getElem?_eq_getElem hi]
  rw [hg]
  refine ⟨.slice (some ⟨b', 0, none⟩) (7 * n) (7 * n), .pointer (some ⟨b, 0 + (i : Int).toNat * 1, none⟩), ixS_sl _ _ _ _ _ _ _ (by omega) (by omega), ?_, rfl, ⟨by rw [y5]; omega, by omega, _, _, rfl, .inr ⟨b', 0, ints (eqRow n (allM Gl n)[i]), rfl, y3, ⟨false, none, y4⟩, ?_⟩⟩⟩
  · rw [ld1_holds' (cs := vals) ⟨false, op, h7⟩]
    simpa using x1
  · rw [List.drop_zero, List.take_of_length_le (by simp [y5])]
theorem gi_get (V : List Int) {j : Nat} (hj : j < V.length) : gi V (j : Nat) = V[j] := by
  simp [gi, List.getD, List.getElem?_eq_getElem hj]
theorem cntK_quad {V : List Int} {t : Nat} (ht : 7 * t + 7 ≤ V.length) : cntK V t 7 0 = nzC (quadAt V t) := by
  have e : quadAt V t = [gi V (7 * t + 4 : Nat), gi V (7 * t + 5 : Nat), gi V (7 * t + 6 : Nat)] := by
    unfold quadAt
    rw [gi_get V (by omega), gi_get V (by omega), gi_get V (by omega)]
    rw [List.drop_eq_getElem_cons (by omega), List.take_succ_cons, List.drop_eq_getElem_cons (by omega : 7 * t + 4 + 1 < V.length), List.take_succ_cons, List.drop_eq_getElem_cons (by omega : 7 * t + 4 + 1 + 1 < V.length), List.take_succ_cons, List.take_zero]
  rw [e]
  simp [cntK, nzC]
theorem withinB_iff {V : List Int} : withinB V = true ↔ ∀ j, j < V.length → 0 ≤ gi V (j : Nat) ∧ gi V (j : Nat) ≤ 1000000 := by
  constructor
  · intro h j _; exact withinB_at h j
  · intro h
    refine List.all_eq_true.2 fun x hx => ?_
    obtain ⟨j, hj, rfl⟩ := List.getElem_of_mem hx
    have := h j hj
    rw [gi_get V hj] at this
    simp [this.1, this.2]
end Go.Proofs.Ytcnndelmnobigaa

namespace Go.Proofs.Ytcnndelmnobigaa
open Go Go.Ab Go.Proofs
set_option maxRecDepth 100000
set_option linter.unusedVariables false
set_option linter.unusedSimpArgs false
theorem OkV.tup2 (c : Nat) (k k' : IntKind) (a b : Int) : OkV c (.tuple #[.int k a, .int k' b]) := by
  refine ⟨.tuple #[.int k a, .int k' b], .tuple rfl (fun i x y hx hy => ?_)⟩
  match i, hx, hy with
  | 0, hx, hy => cases hx; cases hy; exact .int _ _
  | 1, hx, hy => cases hx; cases hy; exact .int _ _
  | i + 2, hx, hy => simp at hx
theorem chkE_zero {Gl : List Int} {n : Nat} {b : Bool} (hE : chkE Gl n b = 0) : refE Gl n = 0 ∧ b = true := by
  unfold chkE at hE
  split at hE
  · rename_i h1
    split at hE
    · rename_i h2; exact ⟨h1, h2⟩
    · cases hE
  · rename_i h1; exact absurd hE h1
theorem admB_w {Gl V : List Int} {n : Nat} (ha : admB Gl n V = true) : V.length = 7 * n ∧ withinB V = true := by
  unfold admB at ha
  simp only [Bool.and_eq_true, decide_eq_true_eq] at ha
  exact ⟨ha.1.1.1, ha.1.1.2⟩
def eulL (Gl : List Int) (n : Nat) (V : List Int) : Int := sumL ((edF Gl n).map (wgt V)) + sumL V - sT Gl V n 0
def eulV (Gl : List Int) (n : Nat) (V : List Int) : Int := if chkE Gl n (admB Gl n V) = 0 then eulL Gl n V else 0
set_option maxHeartbeats 1000000 in
theorem euler_sp (s v : Value) (n nv : Nat) (Gl V : List Int) (h : FH) (c : Nat) (df : List Nat) (hs : SlI h c s 20 n Gl) (hv : SlI h c v 1 nv V) (hx : SlX h v 1 nv) (hnv : nv ≤ 1000000) :
    G (.fn 15) [.agg #[s], v] h c df = some { e := .ret, vs := [.tuple #[.int .i64 (eulV Gl n V), .int .i64 (chkE Gl n (admB Gl n V))]], h := h, c := c, df := [] } := by
  refine pure_of' (fun r e => f15_go e) (OkV.tup2 _ _ _ _ _) ?_
  unfold f15_S
  rw [flat1 hs.flat, cell1, Nat.add_zero]
  simp only [cond_true]
  have hbl := bldL_v hv
  obtain ⟨H, hH⟩ : ∃ H, H = newB (newB h (256 * c) [s]) (256 * (c + 1) + 2) [v] := ⟨_, rfl⟩
  have sH : Same c h H := by rw [hH]; simp (disch := omega)
  have hg : Holds H (256 * c) [s] := by rw [hH]; exact (Holds.newB_same _ _ _).newB_ne (by omega)
  have hq : Holds H (256 * (c + 1) + 2) [v] := by rw [hH]; exact Holds.newB_same _ _ _
  have l0 : ldN (newB h (256 * c) [s]) 1 (.pointer (some ⟨256 * c, 0, none⟩)) = some (.agg #[s]) := ldN1_own (Holds.newB_same _ _ _)
  have l1 := ldN1_own hg
  have c1 := check1 s v n nv Gl V (256 * (c + 1) + 2) H (c + 1 + 1) ((hs.same sH).mono (by omega)) ((hv.same sH).mono (by omega)) (SlX.keep hv sH hx) hnv (by omega) hq
  have hH' := hH.symm
  unfold eulV
  obtain ⟨E, hE⟩ : ∃ E, chkE Gl n (admB Gl n V) = E := ⟨_, rfl⟩
  rw [hE] at c1 ⊢
  by_cases h0 : E = 0
  case neg =>
    rw [if_neg h0]
    repeat' (first | ((with_reducible first | refine Ans.bz ?_ | refine Ans.r1 ?_ | refine Ans.pkT ?_ | refine Ans.pkF ?_); try dsimp only [v_zero, v_succ]) | (with_reducible first | refine Ans.btL ?_ | refine Ans.bfL ?_ | refine Ans.gyT ?_ | refine Ans.gyF ?_ | refine Ans.gyG ?_ | refine Ans.bb ?_ | refine Ans.bc ?_ | refine Ans.ba ?_) | ((with_reducible first | refine Ans.neT ?_ ?_); (focus omega)) | ((with_reducible first | refine Ans.neF ?_ ?_); (focus omega)) | (with_reducible first | refine Ans.neS (fun _ => ?_) (fun _ => ?_)) | ((with_reducible first | refine Ans.addN ?_ ?_ | refine Ans.add ?_ ?_); (focus omega)) | ((with_reducible first | refine Ans.ct ?_ ?_); (focus (simp (disch := (first | omega | with_reducible assumption | (simp <;> omega) | fail)) [l0, hbl, hH', c1]; done))) | ((with_reducible first | refine Ans.cf ?_ ?_); (focus (simp (disch := (first | omega | with_reducible assumption | (simp <;> omega) | fail)) [l0, hbl, hH', c1]; done))) | (refine Ans.step (by simp (disch := (first | omega | with_reducible assumption | (simp <;> omega) | fail)) [l0, hbl, hH', c1, -List.getD_eq_getElem?_getD] <;> rfl) ?_; try dsimp only [v_zero, v_succ]) | fail)
    exact Ans.pure rfl sH
  obtain ⟨hr0, ha⟩ := chkE_zero (hE.trans h0)
  obtain ⟨hn, hok⟩ := refE_zero hr0
  obtain ⟨a1, a2⟩ := admB_w ha
  have hV := withinI a2
  have hnv' : nv = 7 * n := by have := hv.1; omega
  subst h0
  rw [if_pos rfl]
  obtain ⟨⟨re, rv, H2, c2, rd⟩, hr, w, q1, q2, q3, q4⟩ := weights_sp s v n nv Gl V H (c + 1 + 1 + 1 + 1) [] ((hs.same sH).mono (by omega)) ((hv.same sH).mono (by omega)) hok hn hnv' hV
  obtain ⟨rfl, rfl, -, -, rfl⟩ := Rt.mk.inj q1
  simp only at q2 q3 q4
  have cw := callF_of hr
  have s2 : Same c h H2 := sH.trans (q3.mono (by omega))
  have hel : (edF Gl n).length ≤ 6 * n := firstsL_len _ _
  have b1 : ∀ x, x ∈ (edF Gl n).map (wgt V) → 0 ≤ x ∧ x ≤ 5000000 := fun x hx => by
    obtain ⟨y, _, rfl⟩ := List.mem_map.1 hx
    exact weightL_bound hV
  have b2 : ∀ x, x ∈ V → 0 ≤ x ∧ x ≤ 5000000 := fun x hx => by
    obtain ⟨j, hj, rfl⟩ := List.getElem_of_mem hx
    have := hV j
    rw [gi_get V hj] at this
    omega
  have t1 := fun c' (hc : c2 ≤ c') => callF_of (total_sp w _ _ H2 c' [] (q4.sl.mono hc) (by omega) b1)
  have t2 := fun c' (hc : c ≤ c') => callF_of (total_sp v _ _ H2 c' [] ((hv.same s2).mono hc) (by omega) b2)
  have k1 := sumL_bound (B := 5000000) (by omega) b1
  have k2 := sumL_bound (B := 5000000) (by omega) b2
  rw [List.length_map] at k1
  unfold eulL
  obtain ⟨S1, hS1⟩ : ∃ S, sumL ((edF Gl n).map (wgt V)) = S := ⟨_, rfl⟩
  obtain ⟨S2, hS2⟩ : ∃ S, sumL V = S := ⟨_, rfl⟩
  rw [hS1] at t1 k1 ⊢
  rw [hS2] at t2 k2 ⊢
  have hg2 : Holds H2 (256 * c) [s] := hg.eqf (q3 _ (by omega))
  have l2 : ld1 H2 (.pointer (some ⟨256 * c, 0, none⟩)) = some s := by rw [ld1_holds' hg2]; rfl
  have ls := hs.len
  have hl := Ans.eq (tet_loop v s n nv Gl V H2 (c2 + 1) [] ((hs.same s2).mono (by omega)) ((hv.same s2).mono (by omega)) hnv' hn hV hok n 0 (S1 + S2) (by omega) (by omega) (by omega))
  simp only [Int.ofNat_eq_natCast, Int.cast_ofNat_Int] at hl
  repeat' (first | ((with_reducible first | refine Ans.bz ?_ | refine Ans.r1 ?_ | refine Ans.pkT ?_ | refine Ans.pkF ?_); try dsimp only [v_zero, v_succ]) | (with_reducible first | refine Ans.btL ?_ | refine Ans.bfL ?_ | refine Ans.gyT ?_ | refine Ans.gyF ?_ | refine Ans.gyG ?_ | refine Ans.bb ?_ | refine Ans.bc ?_ | refine Ans.ba ?_) | ((with_reducible first | refine Ans.neT ?_ ?_); (focus omega)) | ((with_reducible first | refine Ans.neF ?_ ?_); (focus omega)) | (with_reducible first | refine Ans.neS (fun _ => ?_) (fun _ => ?_)) | ((with_reducible first | refine Ans.addN ?_ ?_ | refine Ans.add ?_ ?_); (focus omega)) | ((with_reducible first | refine Ans.ct ?_ ?_); (focus (simp (disch := (first | omega | with_reducible assumption | (simp <;> omega) | fail)) [l0, hbl, hH', c1, l1, cw, t1, t2, l2, ls, hl]; done))) | ((with_reducible first | refine Ans.cf ?_ ?_); (focus (simp (disch := (first | omega | with_reducible assumption | (simp <;> omega) | fail)) [l0, hbl, hH', c1, l1, cw, t1, t2, l2, ls, hl]; done))) | (refine Ans.step (by simp (disch := (first | omega | with_reducible assumption | (simp <;> omega) | fail)) [l0, hbl, hH', c1, l1, cw, t1, t2, l2, ls, hl, -List.getD_eq_getElem?_getD] <;> rfl) ?_; try dsimp only [v_zero, v_succ]) | fail)
  exact Ans.pure rfl s2
end Go.Proofs.Ytcnndelmnobigaa

namespace Go.Proofs.Ytcnndelmnobigaa
open Go Go.Ab Go.Proofs
set_option maxRecDepth 100000
set_option linter.unusedVariables false
set_option linter.unusedSimpArgs false
theorem gi_add {U V : List Int} (hl : U.length = V.length) (j : Int) : gi (addL U V) j = gi U j + gi V j := by
  rcases Nat.lt_or_ge j.toNat U.length with h | h
  · have := addL_gi (A := U) (B := V) (k := j.toNat) h
    unfold gi at this ⊢
    rw [Int.toNat_natCast] at this
    exact this
  · unfold gi
    have h1 : U.getD j.toNat 0 = 0 := by simp [List.getD_eq_getElem?_getD, List.getElem?_eq_none h]
    have h2 : V.getD j.toNat 0 = 0 := by simp [List.getD_eq_getElem?_getD, List.getElem?_eq_none (by omega : V.length ≤ j.toNat)]
    have h3 : (addL U V).getD j.toNat 0 = 0 := by simp [List.getD_eq_getElem?_getD, List.getElem?_eq_none (by rw [addL_length]; exact h : (addL U V).length ≤ j.toNat)]
    omega
theorem arcV_add {U V : List Int} (hl : U.length = V.length) (t f i : Int) : arcV (addL U V) t f i = arcV U t f i + arcV V t f i := by
  unfold arcV
  rw [gi_add hl, gi_add hl]; omega
theorem sI_add {U V : List Int} (hl : U.length = V.length) (t f : Nat) : ∀ (r i : Nat), sI (addL U V) t f r i = sI U t f r i + sI V t f r i
  | 0, _ => by simp [sI]
  | r + 1, i => by
    rw [sI, sI, sI, sI_add hl t f r (i + 1), arcV_add hl]
    split <;> omega
theorem sF_add {U V : List Int} (hl : U.length = V.length) (Gl : List Int) (t : Nat) : ∀ (r f : Nat), sF Gl (addL U V) t r f = sF Gl U t r f + sF Gl V t r f
  | 0, _ => by simp [sF]
  | r + 1, f => by
    rw [sF, sF, sF, sF_add hl Gl t r (f + 1), sI_add hl]
    split <;> omega
theorem sT_add {U V : List Int} (hl : U.length = V.length) (Gl : List Int) : ∀ (r t : Nat), sT Gl (addL U V) r t = sT Gl U r t + sT Gl V r t
  | 0, _ => by simp [sT]
  | r + 1, t => by
    rw [sT, sT, sT, sT_add hl Gl r (t + 1), sF_add hl]
    omega
theorem wK_add {U V : List Int} (hl : U.length = V.length) (t T : Int) : ∀ (r k : Nat) (a b : Int), wK (addL U V) t T r k (a + b) = wK U t T r k a + wK V t T r k b
  | 0, _, a, b => by simp [wK]
  | r + 1, k, a, b => by
    rw [wK, wK, wK, ← wK_add hl t T r (k + 1), gi_add hl]
    congr 1
    split <;> omega
theorem wgt_add {U V : List Int} (hl : U.length = V.length) (x : Int) : wgt (addL U V) x = wgt U x + wgt V x := by
  unfold wgt weightL
  rw [← wK_add hl, gi_add hl, gi_add hl]
  congr 1
  omega
theorem sum_map_add (f g k : Int → Int) : ∀ (L : List Int), (∀ x, k x = f x + g x) → sumL (L.map k) = sumL (L.map f) + sumL (L.map g)
  | [], _ => by simp [sumL]
  | x :: L, h => by
    rw [List.map_cons, List.map_cons, List.map_cons, sumL, sumL, sumL, sum_map_add f g k L h, h x]
    omega
theorem sumL_range (U : List Int) : sumL ((startL U.length).map (gi U)) = sumL U := by
  congr 1
  refine List.ext_getElem (by simp [startL]) fun j h1 h2 => ?_
  simp only [startL, List.getElem_map, List.getElem_range]
  exact gi_get U h2
theorem addL_map (U V : List Int) : addL U V = (startL U.length).map fun x => gi U x + gi V x := by
  simp [addL, startL]
theorem sumL_add {U V : List Int} (hl : U.length = V.length) : sumL (addL U V) = sumL U + sumL V := by
  rw [addL_map, sum_map_add (gi U) (gi V) _ _ (fun _ => rfl), sumL_range, hl, sumL_range]
theorem eulL_add {U V : List Int} (hl : U.length = V.length) (Gl : List Int) (n : Nat) : eulL Gl n (addL U V) = eulL Gl n U + eulL Gl n V := by
  unfold eulL
  rw [sT_add hl, sumL_add hl, sum_map_add (wgt U) (wgt V) (wgt (addL U V)) _ (wgt_add hl)]
  omega
end Go.Proofs.Ytcnndelmnobigaa

namespace Go.Ab
open Go
set_option linter.unusedVariables false
set_option linter.unusedSimpArgs false
theorem rootF_fix {L : List Int} {m : Nat} (hd : Down L m) : ∀ {k i : Nat}, i < m → i < k → L.getD (rootF L k i) 0 = rootF L k i
  | 0, i, _, h => by omega
  | k + 1, i, hi, h => by
    rw [rootF]
    split
    · assumption
    · have := hd.2 i hi
      exact rootF_fix hd (by omega) (by omega)
theorem rootL_fix {L : List Int} {m i : Nat} (hd : Down L m) (hi : i < m) : L.getD (rootL L i) 0 = rootL L i := rootF_fix hd hi (by omega)
theorem rootL_root {L : List Int} {m i : Nat} (hd : Down L m) (hi : i < m) : rootL L (rootL L i) = rootL L i := rootL_self (rootL_fix hd hi)
theorem rootL_join {L : List Int} {m i j : Nat} (hd : Down L m) (hi : i < m) (hj : j < m) : ∀ {k : Nat}, k < m →
    rootL (joinL L i j) k = if rootL L k = max (rootL L i) (rootL L j) then min (rootL L i) (rootL L j) else rootL L k := by
  have h1 := rootL_le hd hi
  have h2 := rootL_le hd hj
  have f1 := rootL_fix hd hi
  have f2 := rootL_fix hd hj
  have hd' := joinL_down hd hi hj
  have hl := hd.1
  obtain ⟨M, hM⟩ : ∃ M, max (rootL L i) (rootL L j) = M := ⟨_, rfl⟩
  obtain ⟨N, hN⟩ : ∃ N, min (rootL L i) (rootL L j) = N := ⟨_, rfl⟩
  have fM : L.getD M 0 = M := by
    rcases Nat.le_total (rootL L i) (rootL L j) with h | h
    · rw [show M = rootL L j by omega]; exact f2
    · rw [show M = rootL L i by omega]; exact f1
  have fN : L.getD N 0 = N := by
    rcases Nat.le_total (rootL L i) (rootL L j) with h | h
    · rw [show N = rootL L i by omega]; exact f1
    · rw [show N = rootL L j by omega]; exact f2
  have hg : ∀ k, (joinL L i j).getD k 0 = if M = k ∧ M < L.length then (N : Int) else L.getD k 0 := fun k => by
    unfold joinL
    rw [getD_set, hM, hN]
  rw [hM, hN]
  have key : ∀ (b k : Nat), k < b → k < m → rootL (joinL L i j) k = if rootL L k = M then N else rootL L k := by
    intro b
    induction b with
    | zero => intro k h; omega
    | succ b ih =>
      intro k hb hk
      by_cases e : k = M
      · subst e
        rw [rootL_self fM, if_pos rfl]
        have e2 := hg k
        rw [if_pos ⟨rfl, by omega⟩] at e2
        by_cases e3 : N = k
        · rw [rootL_self (by rw [e2, e3])]; exact e3.symm
        · rw [rootL_next hd' (by omega) (by omega), e2, Int.toNat_natCast, ih N (by omega) (by omega), rootL_self fN, if_neg e3]
      · have e2 := hg k
        rw [if_neg (fun q => e q.1.symm)] at e2
        by_cases e3 : L.getD k 0 = k
        · rw [rootL_self (e2.trans e3), rootL_self e3, if_neg e]
        · have d := hd.2 k hk
          rw [rootL_next hd' hk (by rw [e2]; exact e3), e2, ih _ (by omega) (by omega), ← rootL_next hd hk e3]
  intro k hk
  exact key (k + 1) k (by omega) hk
theorem join_same {L : List Int} {m i j : Nat} (hd : Down L m) (hi : i < m) (hj : j < m) : rootL (joinL L i j) i = rootL (joinL L i j) j := by
  rw [rootL_join hd hi hj hi, rootL_join hd hi hj hj]
  split <;> split <;> omega
theorem join_keep {L : List Int} {m i j a b : Nat} (hd : Down L m) (hi : i < m) (hj : j < m) (ha : a < m) (hb : b < m) (e : rootL L a = rootL L b) : rootL (joinL L i j) a = rootL (joinL L i j) b := by
  rw [rootL_join hd hi hj ha, rootL_join hd hi hj hb, e]
end Go.Ab

namespace Go.Proofs.Ytcnndelmnobigaa
open Go Go.Ab Go.Proofs
set_option maxRecDepth 100000
set_option linter.unusedVariables false
set_option linter.unusedSimpArgs false
def mA (M : List Int) : Nat := (4 * M.getD 0 0 + M.getD 2 0).toNat
def mB (M : List Int) : Nat := (4 * M.getD 3 0 + M.getD 5 0).toNat
theorem fold_same {m : Nat} : ∀ (D : List (List Int)) (L : List Int), Down L m → (∀ M, M ∈ D → mA M < m ∧ mB M < m) →
    Down (D.foldl vStep L) m ∧ (∀ a b, a < m → b < m → rootL L a = rootL L b → rootL (D.foldl vStep L) a = rootL (D.foldl vStep L) b) ∧ (∀ M, M ∈ D → rootL (D.foldl vStep L) (mA M) = rootL (D.foldl vStep L) (mB M))
  | [], L, hd, _ => ⟨hd, fun a b _ _ e => e, fun M h => by cases h⟩
  | M :: D, L, hd, hg => by
    obtain ⟨g1, g2⟩ := hg M (by simp)
    obtain ⟨i1, i2, i3⟩ := fold_same D (vStep L M) (joinL_down hd g1 g2) (fun N hN => hg N (by simp [hN]))
    rw [List.foldl_cons]
    refine ⟨i1, fun a b ha hb e => i2 a b ha hb (join_keep hd g1 g2 ha hb e), fun N hN => ?_⟩
    rcases List.mem_cons.1 hN with rfl | hN
    · exact i2 _ _ g1 g2 (join_same hd g1 g2)
    · exact i3 N hN
theorem vx_fold {Gl : List Int} {n : Nat} (hok : okAll Gl n = true) (hG : Gl.length = n * 20) : Down (vxC Gl n) (4 * n) ∧ ∀ M, M ∈ allM Gl n → rootL (vxC Gl n) (mA M) = rootL (vxC Gl n) (mB M) := by
  have := fold_same (m := 4 * n) (allM Gl n) (startL (4 * n)) (startL_down _) (fun M hM => by
    obtain ⟨t, f, i, ht, hf, hi, hne, hsk, rfl⟩ := mem_allM hM
    obtain ⟨k1, k2, k3⟩ := mRow_ok hok hG ht hf hi hne hsk
    have hpi := range24 k3 hi
    constructor
    · show (4 * (t : Int) + i).toNat < _
      omega
    · show (4 * tetL (faceL Gl t f) + (permL (faceL Gl t f)).getD i 0).toNat < _
      omega)
  exact ⟨this.1, this.2.2⟩
theorem lk_get (L : List Int) (first n : Nat) : ∀ (r x : Nat) (X : List Int), x + r = 4 * n → X.length = 7 * n →
    (∀ t i, t < n → i < 4 → (lkK L first r x X).getD (7 * t + i) 0 = if x ≤ 4 * t + i ∧ rootL L (4 * t + i) = first then 1 else X.getD (7 * t + i) 0) ∧ (∀ t k, t < n → k < 3 → (lkK L first r x X).getD (7 * t + 4 + k) 0 = X.getD (7 * t + 4 + k) 0)
  | 0, x, X, hx, hX => by
    refine ⟨fun t i ht hi => ?_, fun t k ht hk => rfl⟩
    rw [if_neg (by omega)]; rfl
  | r + 1, x, X, hx, hX => by
    rw [lkK]
    by_cases e : rootL L x = first
    · rw [if_pos e]
      obtain ⟨i1, i2⟩ := lk_get L first n r (x + 1) (X.set (x / 4 * 7 + x % 4) 1) (by omega) (by simp [hX])
      refine ⟨fun t i ht hi => ?_, fun t k ht hk => ?_⟩
      · rw [i1 t i ht hi, getD_set]
        by_cases e2 : x = 4 * t + i
        · subst e2
          rw [if_neg (by omega), if_pos ⟨by omega, by omega⟩, if_pos ⟨by omega, e⟩]
        · by_cases e3 : x + 1 ≤ 4 * t + i ∧ rootL L (4 * t + i) = first
          · rw [if_pos e3, if_pos ⟨by omega, e3.2⟩]
          · rw [if_neg e3, if_neg (by omega), if_neg (fun q => e3 ⟨by omega, q.2⟩)]
      · rw [i2 t k ht hk, getD_set, if_neg (by omega)]
    · rw [if_neg e]
      obtain ⟨i1, i2⟩ := lk_get L first n r (x + 1) X (by omega) hX
      refine ⟨fun t i ht hi => ?_, i2⟩
      rw [i1 t i ht hi]
      by_cases e3 : x + 1 ≤ 4 * t + i ∧ rootL L (4 * t + i) = first
      · rw [if_pos e3, if_pos ⟨by omega, e3.2⟩]
      · rw [if_neg e3, if_neg (fun q => e3 ⟨by
          rcases Nat.lt_or_ge x (4 * t + i) with h | h
          · omega
          · exfalso
            have : x = 4 * t + i := by omega
            rw [this] at e
            exact e q.2, q.2⟩)]
theorem rep0 (m j : Nat) : (List.replicate m (0 : Int)).getD j 0 = 0 := by
  rw [List.getD_eq_getElem?_getD, List.getElem?_replicate]
  split <;> rfl
theorem lkRow_length (L : List Int) (n : Nat) (x : Int) : (lkRow L n x).length = 7 * n := by rw [lkRow, lkK_length]; simp
theorem lkRow_t (L : List Int) {n : Nat} (x : Nat) {t i : Int} (h1 : 0 ≤ t) (h2 : t < n) (h3 : 0 ≤ i) (h4 : i < 4) : gi (lkRow L n x) (7 * t + i) = if rootL L (4 * t + i).toNat = x then 1 else 0 := by
  have := (lk_get L x n (4 * n) 0 (List.replicate (7 * n) 0) (by omega) (by simp)).1 t.toNat i.toNat (by omega) (by omega)
  rw [lkRow, gi, Int.toNat_natCast, show (7 * t + i).toNat = 7 * t.toNat + i.toNat by omega, this, rep0, show (4 * t + i).toNat = 4 * t.toNat + i.toNat by omega]
  simp
theorem lkRow_q (L : List Int) {n : Nat} (x : Nat) {t k : Int} (h1 : 0 ≤ t) (h2 : t < n) (h3 : 0 ≤ k) (h4 : k < 3) : gi (lkRow L n x) (7 * t + 4 + k) = 0 := by
  have := (lk_get L x n (4 * n) 0 (List.replicate (7 * n) 0) (by omega) (by simp)).2 t.toNat k.toNat (by omega) (by omega)
  rw [lkRow, gi, Int.toNat_natCast, show (7 * t + 4 + k).toNat = 7 * t.toNat + 4 + k.toNat by omega, this, rep0]
theorem lk_adm {Gl : List Int} {n : Nat} (hok : okAll Gl n = true) (hG : Gl.length = n * 20) (x : Nat) : admB Gl n (lkRow (vxC Gl n) n x) = true := by
  obtain ⟨hd, hs⟩ := vx_fold hok hG
  have hl := lkRow_length (vxC Gl n) n x
  unfold admB
  simp only [Bool.and_eq_true, decide_eq_true_eq]
  refine ⟨⟨⟨hl, ?_⟩, List.all_eq_true.2 fun t ht => ?_⟩, List.all_eq_true.2 fun m hm => ?_⟩
  · rw [withinB_iff]
    intro j hj
    rw [hl] at hj
    rcases Nat.lt_or_ge (j % 7) 4 with h | h
    · have := lkRow_t (vxC Gl n) (n := n) x (t := (j / 7 : Nat)) (i := (j % 7 : Nat)) (by omega) (by omega) (by omega) (by omega)
      rw [show (7 * ((j / 7 : Nat) : Int) + (j % 7 : Nat)) = j by omega] at this
      rw [this]; split <;> omega
    · have := lkRow_q (vxC Gl n) (n := n) x (t := (j / 7 : Nat)) (k := (j % 7 - 4 : Nat)) (by omega) (by omega) (by omega) (by omega)
      rw [show (7 * ((j / 7 : Nat) : Int) + 4 + (j % 7 - 4 : Nat)) = j by omega] at this
      rw [this]; omega
  · have ht' : t < n := by simpa using ht
    have e : cntK (lkRow (vxC Gl n) n x) t 7 0 = nzC (quadAt (lkRow (vxC Gl n) n x) t) := cntK_quad (by omega)
    unfold areQ
    rw [decide_eq_true_eq, ← e]
    have q0 := lkRow_q (vxC Gl n) (n := n) x (t := (t : Int)) (k := 0) (by omega) (by omega) (by omega) (by omega)
    have q1 := lkRow_q (vxC Gl n) (n := n) x (t := (t : Int)) (k := 1) (by omega) (by omega) (by omega) (by omega)
    have q2 := lkRow_q (vxC Gl n) (n := n) x (t := (t : Int)) (k := 2) (by omega) (by omega) (by omega) (by omega)
    rw [show (7 * (t : Int) + 4 + 0) = 7 * (t : Int) + 4 by omega] at q0
    rw [show (7 * (t : Int) + 4 + 1) = 7 * (t : Int) + 5 by omega] at q1
    rw [show (7 * (t : Int) + 4 + 2) = 7 * (t : Int) + 6 by omega] at q2
    simp [cntK, q0, q1, q2]
  · have e := hs m hm
    obtain ⟨t, f, i, ht, hf, hi, hne, hsk, rfl⟩ := mem_allM hm
    obtain ⟨k1, k2, k3⟩ := mRow_ok hok hG ht hf hi hne hsk
    have hpf := range24 k3 hf
    have hpi := range24 k3 hi
    have hpn := ne24 k3 hi hf hne
    have t1 := ty_range (i := (i : Int)) (f := (f : Int)) (by omega) (by omega) (by omega) (by omega) (by omega)
    have t2 := ty_range hpi.1 hpi.2 hpf.1 hpf.2 hpn
    unfold eqM
    rw [decide_eq_true_eq]
    show arcV _ (t : Int) f i = arcV _ (tetL (faceL Gl t f)) ((permL (faceL Gl t f)).getD f 0) ((permL (faceL Gl t f)).getD i 0)
    unfold arcV
    rw [lkRow_q _ x (by omega) (by omega) t1.1 t1.2, lkRow_q _ x (by omega) k2 t2.1 t2.2, lkRow_t _ x (by omega) (by omega) (by omega) (by omega), lkRow_t _ x (by omega) k2 hpi.1 hpi.2]
    have e1 : rootL (vxC Gl n) (4 * (t : Int) + i).toNat = rootL (vxC Gl n) (4 * tetL (faceL Gl t f) + (permL (faceL Gl t f)).getD i 0).toNat := e
    rw [e1]
end Go.Proofs.Ytcnndelmnobigaa

namespace Go.Ab
set_option linter.unusedVariables false
def sumN (f : Nat → Int) : Nat → Int
  | 0 => 0
  | n + 1 => sumN f n + f n
theorem sumN_congr {f g : Nat → Int} : ∀ {n : Nat}, (∀ a, a < n → f a = g a) → sumN f n = sumN g n
  | 0, _ => rfl
  | n + 1, h => by rw [sumN, sumN, sumN_congr (n := n) (fun a ha => h a (by omega)), h n (by omega)]
theorem sumN_add (f g : Nat → Int) : ∀ (n : Nat), sumN (fun a => f a + g a) n = sumN f n + sumN g n
  | 0 => by simp [sumN]
  | n + 1 => by rw [sumN, sumN, sumN, sumN_add f g n]; omega
theorem sumN_const (k : Int) : ∀ (n : Nat), sumN (fun _ => k) n = n * k
  | 0 => by simp [sumN]
  | n + 1 => by rw [sumN, sumN_const k n, Int.natCast_add, Int.add_mul]; simp
theorem sumN_zero (n : Nat) : sumN (fun _ => 0) n = 0 := by rw [sumN_const]; simp
theorem sumN_swap (h : Nat → Nat → Int) (N : Nat) : ∀ (M : Nat), sumN (fun a => sumN (fun b => h a b) N) M = sumN (fun b => sumN (fun a => h a b) M) N
  | 0 => by simp only [sumN]; exact (sumN_zero N).symm
  | M + 1 => by
    rw [sumN, sumN_swap h N M]
    have : (fun b => sumN (fun a => h a b) (M + 1)) = fun b => sumN (fun a => h a b) M + h M b := by funext b; rfl
    rw [this, sumN_add]
theorem sumN_single (g : Nat → Int) (b0 : Nat) : ∀ {N : Nat}, sumN (fun b => if b = b0 then g b else 0) N = if b0 < N then g b0 else 0
  | 0 => by simp [sumN]
  | N + 1 => by
    rw [sumN, sumN_single g b0 (N := N)]
    by_cases h1 : b0 < N
    · rw [if_pos h1, if_neg (by omega), if_pos (by omega)]; omega
    · by_cases h2 : N = b0
      · subst h2; rw [if_neg h1, if_pos rfl, if_pos (by omega)]; omega
      · rw [if_neg h1, if_neg h2, if_neg (by omega)]; rfl
theorem invol_half {s : Nat → Nat} {N : Nat} (h1 : ∀ a, a < N → s a < N) (h2 : ∀ a, a < N → s (s a) = a) (h3 : ∀ a, a < N → s a ≠ a) : 2 * sumN (fun a => if s a < a then 0 else 1) N = N := by
  have P : sumN (fun a => if s a < a then 0 else 1) N = sumN (fun a => if a < s a then 1 else 0) N := sumN_congr fun a ha => by
    have := h3 a ha
    by_cases h : s a < a
    · rw [if_pos h, if_neg (by omega)]
    · rw [if_neg h, if_pos (by omega)]
  have A : sumN (fun a => if a < s a then 1 else 0) N = sumN (fun a => sumN (fun b => if b = s a then (if a < b then 1 else 0) else 0) N) N := sumN_congr fun a ha => by
    rw [sumN_single (fun b => if a < b then 1 else 0) (s a), if_pos (h1 a ha)]
  have B : sumN (fun b => sumN (fun a => if b = s a then (if a < b then 1 else 0) else 0) N) N = sumN (fun b => if s b < b then 1 else 0) N := sumN_congr fun b hb => by
    have : sumN (fun a => if b = s a then (if a < b then 1 else 0) else 0) N = sumN (fun a => if a = s b then (if a < b then (1 : Int) else 0) else 0) N := sumN_congr fun a ha => by
      by_cases h : b = s a
      · have e : a = s b := by rw [h, h2 a ha]
        rw [if_pos h, if_pos e]
      · rw [if_neg h, if_neg (fun q => h (by rw [q, h2 b hb]))]
    rw [this, sumN_single (fun a => if a < b then 1 else 0) (s b), if_pos (h1 b hb)]
  have E : sumN (fun a => if a < s a then (1 : Int) else 0) N = sumN (fun b => if s b < b then 1 else 0) N := by rw [A, sumN_swap, B]
  have T : sumN (fun a => if s a < a then (0 : Int) else 1) N + sumN (fun a => if s a < a then (1 : Int) else 0) N = N := by
    rw [← sumN_add]
    rw [sumN_congr (g := fun _ => 1) (fun a ha => by split <;> rfl), sumN_const]
    omega
  rw [P] at T ⊢
  omega
theorem sum_firsts (L : List Int) (g : Int → Int) (S : List Int → Int) (h0 : S [] = 0) (h1 : ∀ A x, S (A ++ [x]) = S A + x) : ∀ (m : Nat), S ((firstsL L m).map g) = sumN (fun x => if rootL L x = x then g x else 0) m
  | 0 => by simp [firstsL, h0, sumN]
  | m + 1 => by
    rw [firstsL_succ, sumN, ← sum_firsts L g S h0 h1 m]
    by_cases h : rootL L m = m
    · rw [if_pos h, if_pos h, List.map_append, List.map_cons, List.map_nil, h1]
    · rw [if_neg h, if_neg h, List.append_nil]; omega
end Go.Ab

namespace Go.Proofs.Ytcnndelmnobigaa
open Go Go.Ab Go.Proofs
set_option maxRecDepth 100000
set_option linter.unusedVariables false
set_option linter.unusedSimpArgs false
def accR : List Int → List (List Int) → List Int
  | A, [] => A
  | A, r :: R => accR (addL A r) R
theorem accR_length : ∀ (R : List (List Int)) (A : List Int), (accR A R).length = A.length
  | [], A => rfl
  | r :: R, A => by rw [accR, accR_length R, addL_length]
theorem accR_gi (j : Int) : ∀ (R : List (List Int)) (A : List Int), (∀ r, r ∈ R → r.length = A.length) → gi (accR A R) j = gi A j + sumL (R.map fun r => gi r j)
  | [], A, _ => by simp [accR, sumL]
  | r :: R, A, h => by
    have hr := h r (by simp)
    rw [accR, accR_gi j R _ (fun q hq => by rw [addL_length]; exact h q (by simp [hq])), gi_add hr.symm, List.map_cons, sumL]
    omega
theorem accR_eul (Gl : List Int) (n : Nat) : ∀ (R : List (List Int)) (A : List Int), (∀ r, r ∈ R → r.length = A.length) → eulL Gl n (accR A R) = eulL Gl n A + sumL (R.map fun r => eulL Gl n r)
  | [], A, _ => by simp [accR, sumL]
  | r :: R, A, h => by
    have hr := h r (by simp)
    rw [accR, accR_eul Gl n R _ (fun q hq => by rw [addL_length]; exact h q (by simp [hq])), eulL_add hr.symm, List.map_cons, sumL]
    omega
theorem gi_rep (m : Nat) (j : Int) : gi (List.replicate m 0) j = 0 := rep0 m j.toNat
theorem addL_rep (m : Nat) : addL (List.replicate m 0) (List.replicate m 0) = List.replicate m 0 := by
  refine List.ext_getElem (by rw [addL_length]) fun j h1 h2 => ?_
  simp [addL, gi_rep]
theorem eul_rep (Gl : List Int) (n m : Nat) : eulL Gl n (List.replicate m 0) = 0 := by
  have := eulL_add (U := List.replicate m 0) (V := List.replicate m 0) rfl Gl n
  rw [addL_rep] at this
  omega
def allLk (Gl : List Int) (n : Nat) : List Int := accR (List.replicate (7 * n) 0) ((vxF Gl n).map (lkRow (vxC Gl n) n))
theorem allLk_rows (Gl : List Int) (n : Nat) : ∀ r, r ∈ (vxF Gl n).map (lkRow (vxC Gl n) n) → r.length = (List.replicate (7 * n) (0 : Int)).length := fun r hr => by
  obtain ⟨x, _, rfl⟩ := List.mem_map.1 hr
  rw [lkRow_length]; simp
theorem allLk_length (Gl : List Int) (n : Nat) : (allLk Gl n).length = 7 * n := by rw [allLk, accR_length]; simp
theorem allLk_eul (Gl : List Int) (n : Nat) : eulL Gl n (allLk Gl n) = sumL ((vxF Gl n).map fun x => eulL Gl n (lkRow (vxC Gl n) n x)) := by
  rw [allLk, accR_eul _ _ _ _ (allLk_rows Gl n), eul_rep, List.map_map]
  simp only [Function.comp_def]
  omega
theorem sumL_snoc (A : List Int) (x : Int) : sumL (A ++ [x]) = sumL A + x := by rw [sumL_append]; simp [sumL]
theorem allLk_t {Gl : List Int} {n : Nat} (hok : okAll Gl n = true) (hG : Gl.length = n * 20) {t i : Int} (h1 : 0 ≤ t) (h2 : t < n) (h3 : 0 ≤ i) (h4 : i < 4) : gi (allLk Gl n) (7 * t + i) = 1 := by
  obtain ⟨hd, _⟩ := vx_fold hok hG
  rw [allLk, accR_gi _ _ _ (allLk_rows Gl n), gi_rep, List.map_map, vxF, sum_firsts _ _ sumL rfl sumL_snoc]
  have hk : (4 * t + i).toNat < 4 * n := by omega
  obtain ⟨k, hkk⟩ : ∃ k, (4 * t + i).toNat = k := ⟨_, rfl⟩
  rw [hkk] at hk
  have hle := rootL_le hd hk
  have hrr := rootL_root hd hk
  rw [sumN_congr (g := fun x => if x = rootL (vxC Gl n) k then (fun _ => 1) x else 0) (fun x hx => ?_), sumN_single, if_pos (by omega)]
  · rfl
  · show (if rootL (vxC Gl n) x = x then gi (lkRow (vxC Gl n) n x) (7 * t + i) else 0) = _
    rw [lkRow_t _ x h1 h2 h3 h4, hkk]
    by_cases e : x = rootL (vxC Gl n) k
    · rw [if_pos e, if_pos (by rw [e, hrr]), if_pos e.symm]
    · rw [if_neg e]
      split
      · rw [if_neg (fun q => e q.symm)]
      · rfl
theorem allLk_q {Gl : List Int} {n : Nat} {t k : Int} (h1 : 0 ≤ t) (h2 : t < n) (h3 : 0 ≤ k) (h4 : k < 3) : gi (allLk Gl n) (7 * t + 4 + k) = 0 := by
  rw [allLk, accR_gi _ _ _ (allLk_rows Gl n), gi_rep, List.map_map, vxF, sum_firsts _ _ sumL rfl sumL_snoc]
  rw [sumN_congr (g := fun _ => 0) (fun x hx => ?_), sumN_zero]
  · rfl
  · show (if rootL (vxC Gl n) x = x then gi (lkRow (vxC Gl n) n x) (7 * t + 4 + k) else 0) = _
    rw [lkRow_q _ x h1 h2 h3 h4]; simp
theorem wgt_ones {W : List Int} {n : Nat} (hT : ∀ t i : Int, 0 ≤ t → t < n → 0 ≤ i → i < 4 → gi W (7 * t + i) = 1) (hQ : ∀ t k : Int, 0 ≤ t → t < n → 0 ≤ k → k < 3 → gi W (7 * t + 4 + k) = 0) {k : Nat} (hk : k < 6 * n) : wgt W k = 2 := by
  rw [wgt_nat]
  obtain ⟨g1, g2, g3, g4, g5⟩ := ed_ends (e := (k % 6 : Nat)) (by omega) (by omega)
  unfold weightL
  rw [hT _ _ (by omega) (by omega) g1 g2, hT _ _ (by omega) (by omega) g3 g4]
  have q0 := hQ (k / 6 : Nat) 0 (by omega) (by omega) (by omega) (by omega)
  have q1 := hQ (k / 6 : Nat) 1 (by omega) (by omega) (by omega) (by omega)
  have q2 := hQ (k / 6 : Nat) 2 (by omega) (by omega) (by omega) (by omega)
  rw [wK, wK, wK, wK]
  rw [show ((0 + 1 + 1 : Nat) : Int) = 2 from rfl, show ((0 + 1 : Nat) : Int) = 1 from rfl]
  simp only [Int.ofNat_eq_natCast, Int.cast_ofNat_Int, Nat.zero_add] at q0 q1 q2 ⊢
  rw [q0, q1, q2]
  split <;> split <;> split <;> rfl
theorem sumL_sumN (W : List Int) : sumL W = sumN (fun j => gi W j) W.length := by
  have : ∀ i, i ≤ W.length → sumL (W.take i) = sumN (fun j => gi W j) i := by
    intro i
    induction i with
    | zero => intro _; rw [List.take_zero]; rfl
    | succ i ih =>
      intro hi
      rw [List.take_succ_eq_append_getElem (by omega), sumL_snoc, sumN, ih (by omega), gi_get W (by omega)]
  have h := this W.length (Nat.le_refl _)
  rwa [List.take_length] at h
theorem sum_ones {W : List Int} {n : Nat} (hl : W.length = 7 * n) (hT : ∀ t i : Int, 0 ≤ t → t < n → 0 ≤ i → i < 4 → gi W (7 * t + i) = 1) (hQ : ∀ t k : Int, 0 ≤ t → t < n → 0 ≤ k → k < 3 → gi W (7 * t + 4 + k) = 0) : sumL W = 4 * n := by
  rw [sumL_sumN, hl]
  have : ∀ t : Nat, t ≤ n → sumN (fun j => gi W j) (7 * t) = 4 * t := by
    intro t
    induction t with
    | zero => intro _; rfl
    | succ t ih =>
      intro ht
      have a0 := hT t 0 (by omega) (by omega) (by omega) (by omega)
      have a1 := hT t 1 (by omega) (by omega) (by omega) (by omega)
      have a2 := hT t 2 (by omega) (by omega) (by omega) (by omega)
      have a3 := hT t 3 (by omega) (by omega) (by omega) (by omega)
      have a4 := hQ t 0 (by omega) (by omega) (by omega) (by omega)
      have a5 := hQ t 1 (by omega) (by omega) (by omega) (by omega)
      have a6 := hQ t 2 (by omega) (by omega) (by omega) (by omega)
      rw [show 7 * (t + 1) = 7 * t + 1 + 1 + 1 + 1 + 1 + 1 + 1 by omega, sumN, sumN, sumN, sumN, sumN, sumN, sumN, ih (by omega)]
      rw [show (((7 * t : Nat)) : Int) = 7 * (t : Int) + 0 by omega, show ((7 * t + 1 : Nat) : Int) = 7 * (t : Int) + 1 by omega, show ((7 * t + 1 + 1 : Nat) : Int) = 7 * (t : Int) + 2 by omega, show ((7 * t + 1 + 1 + 1 : Nat) : Int) = 7 * (t : Int) + 3 by omega,
        show ((7 * t + 1 + 1 + 1 + 1 : Nat) : Int) = 7 * (t : Int) + 4 + 0 by omega, show ((7 * t + 1 + 1 + 1 + 1 + 1 : Nat) : Int) = 7 * (t : Int) + 4 + 1 by omega, show ((7 * t + 1 + 1 + 1 + 1 + 1 + 1 : Nat) : Int) = 7 * (t : Int) + 4 + 2 by omega, a0, a1, a2, a3, a4, a5, a6]
      omega
  exact this n (Nat.le_refl _)
theorem sI_ones {W : List Int} {n : Nat} (hT : ∀ t i : Int, 0 ≤ t → t < n → 0 ≤ i → i < 4 → gi W (7 * t + i) = 1) (hQ : ∀ t k : Int, 0 ≤ t → t < n → 0 ≤ k → k < 3 → gi W (7 * t + 4 + k) = 0) {t f : Nat} (ht : t < n) (hf : f < 4) : sI W t f 4 0 = 3 := by
  have ha : ∀ i : Nat, i < 4 → i ≠ f → arcV W t f i = 1 := fun i hi hne => by
    have := ty_range (i := (i : Int)) (f := (f : Int)) (by omega) (by omega) (by omega) (by omega) (by omega)
    unfold arcV
    rw [hT _ _ (by omega) (by omega) (by omega) (by omega), hQ _ _ (by omega) (by omega) this.1 this.2]
    rfl
  have a0 := ha 0 (by omega)
  have a1 := ha 1 (by omega)
  have a2 := ha 2 (by omega)
  have a3 := ha 3 (by omega)
  rw [sI, sI, sI, sI, sI]
  have hc : f = 0 ∨ f = 1 ∨ f = 2 ∨ f = 3 := by omega
  rcases hc with rfl | rfl | rfl | rfl
  · rw [if_pos rfl, if_neg (by omega), if_neg (by omega), if_neg (by omega), a1 (by omega), a2 (by omega), a3 (by omega)]; rfl
  · rw [if_neg (by omega), if_pos rfl, if_neg (by omega), if_neg (by omega), a0 (by omega), a2 (by omega), a3 (by omega)]; rfl
  · rw [if_neg (by omega), if_neg (by omega), if_pos rfl, if_neg (by omega), a0 (by omega), a1 (by omega), a3 (by omega)]; rfl
  · rw [if_neg (by omega), if_neg (by omega), if_neg (by omega), if_pos rfl, a0 (by omega), a1 (by omega), a2 (by omega)]; rfl
def cntF (Gl : List Int) (a : Nat) : Int := if eSkip Gl (a / 4) (a % 4) = true then 0 else 1
theorem sT_ones {W : List Int} {n : Nat} (Gl : List Int) (hT : ∀ t i : Int, 0 ≤ t → t < n → 0 ≤ i → i < 4 → gi W (7 * t + i) = 1) (hQ : ∀ t k : Int, 0 ≤ t → t < n → 0 ≤ k → k < 3 → gi W (7 * t + 4 + k) = 0) : ∀ (r t : Nat), t + r = n → sT Gl W r t = 3 * (sumN (cntF Gl) (4 * n) - sumN (cntF Gl) (4 * t))
  | 0, t, h => by
    obtain rfl : t = n := by omega
    rw [sT]; omega
  | r + 1, t, h => by
    rw [sT, sT_ones Gl hT hQ r (t + 1) (by omega)]
    have e : ∀ f : Nat, f < 4 → (if eSkip Gl t f = true then (0 : Int) else sI W t f 4 0) = 3 * cntF Gl (4 * t + f) := fun f hf => by
      unfold cntF
      rw [show (4 * t + f) / 4 = t by omega, show (4 * t + f) % 4 = f by omega, sI_ones hT hQ (by omega) hf]
      split <;> rfl
    rw [show 4 * (t + 1) = 4 * t + 1 + 1 + 1 + 1 by omega, sumN, sumN, sumN, sumN]
    rw [sF, sF, sF, sF, sF, e 0 (by omega), e 1 (by omega), e 2 (by omega), e 3 (by omega)]
    show 3 * cntF Gl (4 * t) + (3 * cntF Gl (4 * t + 1) + (3 * cntF Gl (4 * t + 2) + (3 * cntF Gl (4 * t + 3) + 0))) + 3 * (sumN (cntF Gl) (4 * n) - (sumN (cntF Gl) (4 * t) + cntF Gl (4 * t) + cntF Gl (4 * t + 1) + cntF Gl (4 * t + 2) + cntF Gl (4 * t + 3))) = _
    omega
end Go.Proofs.Ytcnndelmnobigaa

namespace Go.Proofs.Ytcnndelmnobigaa
open Go Go.Ab Go.Proofs
set_option maxRecDepth 100000
set_option linter.unusedVariables false
set_option linter.unusedSimpArgs false
def mate (Gl : List Int) (a : Nat) : Nat := (4 * tetL (faceL Gl (a / 4) (a % 4)) + (permL (faceL Gl (a / 4) (a % 4))).getD (a % 4) 0).toNat
theorem mate_face {Gl : List Int} {n : Nat} (hok : okAll Gl n = true) (hG : Gl.length = n * 20) {t f : Nat} (ht : t < n) (h4 : f < 4) (h0 : 0 ≤ tetL (faceL Gl t f)) :
    mate Gl (4 * t + f) < 4 * n ∧ mate Gl (mate Gl (4 * t + f)) = 4 * t + f ∧ mate Gl (4 * t + f) ≠ 4 * t + f ∧ (eSkip Gl t f = true ↔ mate Gl (4 * t + f) < 4 * t + f) := by
  have ok := okFace_glued (okAll_face hok ht h4) (by omega)
  have hfl := faceL_length hG ht h4
  have hsk : eSkip Gl t f = decide (0 ≤ tetL (faceL Gl t f) ∧ (tetL (faceL Gl t f) < t ∨ (tetL (faceL Gl t f) = t ∧ (permL (faceL Gl t f)).getD f 0 < f))) := rfl
  have m1 : mate Gl (4 * t + f) = (4 * tetL (faceL Gl t f) + (permL (faceL Gl t f)).getD f 0).toNat := by
    unfold mate
    rw [show (4 * t + f) / 4 = t by omega, show (4 * t + f) % 4 = f by omega]
  obtain ⟨k1, k2, k3, k4⟩ := ok
  have kp := mem24 (permL_length hfl) k2
  have kr := range24 kp h4
  have kv := inv_at kp h4
  have li := len24 (inv24 kp)
  obtain ⟨F, hF⟩ : ∃ F, faceL Gl t f = F := ⟨_, rfl⟩
  rw [hF] at h0 hsk m1 k1 k3 k4 kp kr kv li
  obtain ⟨U, hU⟩ : ∃ U, tetL F = U := ⟨_, rfl⟩
  rw [hU] at h0 hsk m1 k1 k3 k4
  obtain ⟨Q, hQ⟩ : ∃ Q, (permL F).getD f 0 = Q := ⟨_, rfl⟩
  rw [hQ] at hsk m1 k3 k4 kr kv
  have m2 : mate Gl (4 * U + Q).toNat = 4 * t + f := by
    unfold mate
    rw [show (4 * U + Q).toNat / 4 = U.toNat by omega, show (4 * U + Q).toNat % 4 = Q.toNat by omega, k4]
    have e1 : tetL ((t : Int) :: inv (permL F)) = t := rfl
    have e2 : permL ((t : Int) :: inv (permL F)) = inv (permL F) := by
      show List.take 4 (List.drop 1 ((t : Int) :: inv (permL F))) = _
      rw [List.drop_succ_cons, List.drop_zero, List.take_of_length_le (by omega)]
    rw [e1, e2, kv]
    omega
  rw [m1, m2]
  refine ⟨by omega, rfl, fun e => k3 (by omega), ?_⟩
  rw [hsk, decide_eq_true_eq]
  omega
theorem mate_ok {Gl : List Int} {n : Nat} (hok : okAll Gl n = true) (hG : Gl.length = n * 20) (hf : ∀ t f, t < n → f < 4 → 0 ≤ tetL (faceL Gl t f)) {a : Nat} (ha : a < 4 * n) :
    mate Gl a < 4 * n ∧ mate Gl (mate Gl a) = a ∧ mate Gl a ≠ a ∧ (eSkip Gl (a / 4) (a % 4) = true ↔ mate Gl a < a) := by
  have := mate_face hok hG (t := a / 4) (f := a % 4) (by omega) (by omega) (hf _ _ (by omega) (by omega))
  rwa [show 4 * (a / 4) + a % 4 = a by omega] at this
theorem cnt_half {Gl : List Int} {n : Nat} (hok : okAll Gl n = true) (hG : Gl.length = n * 20) (hf : ∀ t f, t < n → f < 4 → 0 ≤ tetL (faceL Gl t f)) : sumN (cntF Gl) (4 * n) = 2 * n := by
  have h := invol_half (s := mate Gl) (N := 4 * n) (fun a ha => (mate_ok hok hG hf ha).1) (fun a ha => (mate_ok hok hG hf ha).2.1) (fun a ha => (mate_ok hok hG hf ha).2.2.1)
  have e : sumN (cntF Gl) (4 * n) = sumN (fun a => if mate Gl a < a then 0 else 1) (4 * n) := sumN_congr fun a ha => by
    have := (mate_ok hok hG hf ha).2.2.2
    unfold cntF
    by_cases h : mate Gl a < a
    · rw [if_pos h, if_pos (this.2 h)]
    · rw [if_neg h, if_neg (fun q => h (this.1 q))]
  rw [e]
  omega
theorem sumL_const (k : Int) : ∀ (L : List Int), (∀ x, x ∈ L → x = k) → sumL L = L.length * k
  | [], _ => by simp [sumL]
  | x :: L, h => by
    rw [sumL, sumL_const k L (fun y hy => h y (by simp [hy])), h x (by simp), List.length_cons, Int.natCast_add, Int.add_mul]
    omega
theorem links_eul {Gl : List Int} {n : Nat} (hok : okAll Gl n = true) (hG : Gl.length = n * 20) (hf : ∀ t f, t < n → f < 4 → 0 ≤ tetL (faceL Gl t f)) :
    sumL ((vxF Gl n).map fun x => eulL Gl n (lkRow (vxC Gl n) n x)) = 2 * (edF Gl n).length - 2 * n := by
  rw [← allLk_eul]
  have hT : ∀ t i : Int, 0 ≤ t → t < n → 0 ≤ i → i < 4 → gi (allLk Gl n) (7 * t + i) = 1 := fun t i a b c d => allLk_t hok hG a b c d
  have hQ : ∀ t k : Int, 0 ≤ t → t < n → 0 ≤ k → k < 3 → gi (allLk Gl n) (7 * t + 4 + k) = 0 := fun t k a b c d => allLk_q a b c d
  have hl := allLk_length Gl n
  unfold eulL
  rw [sum_ones hl hT hQ, sT_ones Gl hT hQ n 0 (by omega), cnt_half hok hG hf, sumL_const 2 _ (fun x hx => by
    obtain ⟨y, hy, rfl⟩ := List.mem_map.1 hx
    obtain ⟨k, rfl, hk, _⟩ := mem_firstsL hy
    exact wgt_ones hT hQ hk), List.length_map]
  show _ - 3 * (2 * (n : Int) - 0) = _
  omega
end Go.Proofs.Ytcnndelmnobigaa

namespace Go.Proofs.Ytcnndelmnobigaa
open Go Go.Ab Go.Proofs
set_option maxRecDepth 100000
set_option linter.unusedVariables false
set_option linter.unusedSimpArgs false
theorem AppG.len {c0 : Nat} {h : FH} {c : Nat} {v : Value} {n : Nat} {cs : List Value} (ha : AppG c0 h c v n cs) : lenS v = some (.int .i64 n) := by
  obtain ⟨_, _, _, i, op, rfl, _⟩ := ha; rfl
theorem sT_bound {Gl V : List Int} (hV : ∀ j, 0 ≤ gi V j ∧ gi V j ≤ 1000000) : ∀ {r t : Nat}, 0 ≤ sT Gl V r t ∧ sT Gl V r t ≤ r * 32000000
  | 0, _ => by simp [sT]
  | r + 1, t => by
    rw [sT]
    have h1 := sF_bound (Gl := Gl) hV (t := t) (r := 4) (f := 0)
    have h2 := sT_bound (Gl := Gl) hV (r := r) (t := t + 1)
    omega
theorem eulL_bound {Gl V : List Int} {n : Nat} (hV : ∀ j, 0 ≤ gi V j ∧ gi V j ≤ 1000000) (hn : n ≤ 60) (hl : V.length = 7 * n) : -10000000000 ≤ eulL Gl n V ∧ eulL Gl n V ≤ 10000000000 := by
  have hel : (edF Gl n).length ≤ 6 * n := firstsL_len _ _
  have k1 := sumL_bound (B := 5000000) (by omega) (L := (edF Gl n).map (wgt V)) (fun x hx => by
    obtain ⟨y, _, rfl⟩ := List.mem_map.1 hx
    exact weightL_bound hV)
  have k2 := sumL_bound (B := 5000000) (by omega) (L := V) (fun x hx => by
    obtain ⟨j, hj, rfl⟩ := List.getElem_of_mem hx
    have := hV j
    rw [gi_get V hj] at this
    omega)
  have k3 := sT_bound (Gl := Gl) hV (r := n) (t := 0)
  rw [List.length_map] at k1
  unfold eulL
  omega
end Go.Proofs.Ytcnndelmnobigaa

namespace Go.Proofs.Ytcnndelmnobigaa
open Go Go.Ab Go.Proofs
set_option maxRecDepth 100000
set_option linter.unusedVariables false
set_option linter.unusedSimpArgs false
def LkR (h : FH) (c0 : Nat) (w : Value) (n : Nat) (C : List Int) (m : Nat) (Fl : List Int) : Prop :=
  lenS w = some (.int .i64 m) ∧ ∀ i, i < m → ∃ l p x, Fl[i]? = some x ∧ ixS 1 w (.int .i64 i) = some p ∧ (∃ b o, p = .pointer (some ⟨b, o, none⟩) ∧ b < 256 * c0) ∧ ld1 h p = some l ∧ SlI h c0 l 1 (7 * n) (lkRow C n x) ∧ SlX h l 1 (7 * n)
theorem LkV.rows {c1 : Nat} {h : FH} {c : Nat} {w : Value} {n : Nat} {C : List Int} {m : Nat} {Fl : List Int} (hv : LkV c1 h c w n C m Fl) (hm : m = Fl.length) : LkR h c w n C m Fl := by
  obtain ⟨vals, ⟨h1, h2, h3, b, op, rfl, h5, h6, h7, h8⟩, h9⟩ := hv
  refine ⟨rfl, fun i hi => ?_⟩
  have hx : Fl[i]? = some (Fl[i]'(by omega)) := List.getElem?_eq_getElem (by omega)
  obtain ⟨l, l1, ⟨b', rfl, y2, y3, y4, y5, y6⟩, l3⟩ := h9 i _ hi hx
  refine ⟨.slice (some ⟨b', 0, none⟩) (7 * n) (7 * n), .pointer (some ⟨b, 0 + (i : Int).toNat * 1, none⟩), _, hx, ixS_sl _ _ _ _ _ _ _ (by omega) (by omega), ⟨_, _, rfl, h6⟩, ?_, ⟨by rw [y5]; omega, by omega, _, _, rfl, .inr ⟨b', 0, ints _, rfl, y3, ⟨false, none, y4⟩, ?_⟩⟩, ⟨Nat.le_refl _, ?_⟩⟩
  · rw [ld1_holds' (cs := vals) ⟨false, op, h7⟩]
    simpa using l1
  · rw [List.drop_zero, List.take_of_length_le (by simp [y5])]
  · have : HeapC.get h b' = some (.cells false none (ints (lkRow C n (Fl[i]'(by omega))))) := y4
    simp only [adrOf, szOk, this]
theorem ld1_same {h h' : FH} {c b o : Nat} (hs : Same c h h') (hb : b < 256 * c) : ld1 h' (.pointer (some ⟨b, o, none⟩)) = ld1 h (.pointer (some ⟨b, o, none⟩)) := by
  have : HeapC.get h' b = HeapC.get h b := hs b hb
  simp only [ld1, asPtr, Option.bind_some, rdCell, getCells, this]
theorem LkR.same {h h' : FH} {c0 : Nat} {w : Value} {n : Nat} {C : List Int} {m : Nat} {Fl : List Int} (hr : LkR h c0 w n C m Fl) (hs : Same c0 h h') : LkR h' c0 w n C m Fl := by
  obtain ⟨h1, h2⟩ := hr
  refine ⟨h1, fun i hi => ?_⟩
  obtain ⟨l, p, x, e1, e2, ⟨b, o, rfl, e3⟩, e4, e5, e6⟩ := h2 i hi
  exact ⟨l, _, x, e1, e2, ⟨b, o, rfl, e3⟩, (ld1_same hs e3).trans e4, e5.same hs, SlX.keep e5 hs e6⟩
def eulF (Gl : List Int) (n : Nat) (i : Nat) : Int := sumL (((vxF Gl n).take i).map fun x => eulL Gl n (lkRow (vxC Gl n) n x))
set_option maxHeartbeats 1000000 in
theorem lk_loop (s w : Value) (n : Nat) (Gl : List Int) (gb c0 : Nat) (hok : okAll Gl n = true) (hn : n ≤ 6) (hG : Gl.length = n * 20) (hgb : gb < 256 * c0) (df : List Nat) :
    ∀ (k i c : Nat) (h : FH), i + k = (vxF Gl n).length → c0 ≤ c → Holds h gb [s] → SlI h c0 s 20 n Gl → LkR h c0 w n (vxC Gl n) (vxF Gl n).length (vxF Gl n) → (i = 0 ∨ 0 < i) → -(i : Int) * 10000000000 ≤ eulF Gl n i → eulF Gl n i ≤ (i : Int) * 10000000000 →
    Ans (G (f3_k3000 none) [ptrTo gb, .bool false, w, .int .i64 (eulF Gl n i), .int .i64 (if i = 0 then 0 else ((edF Gl n).length : Nat)), .int .i64 i] h c df) fun r => r.e = .exit 0 ∧ c ≤ r.c ∧ r.df = df ∧ Same c0 h r.h ∧ r.v 0 = ptrTo gb ∧ r.v 1 = .bool false ∧ r.v 3 = .int .i64 (eulF Gl n (vxF Gl n).length) ∧ r.v 4 = .int .i64 (if (vxF Gl n).length = 0 then 0 else ((edF Gl n).length : Nat)) := by
  intro k
  have hvl : (vxF Gl n).length ≤ 4 * n := firstsL_len _ _
  have hr0 : refE Gl n = 0 := by unfold refE; rw [if_pos ⟨by omega, hok⟩, if_neg (by omega)]
  have hE : chkE Gl n true = 0 := by unfold chkE; rw [if_pos hr0, if_pos rfl]
  induction k with
  | zero =>
    intro i c h hi hc hg hs hr _ b1 b2
    have hi' : i = (vxF Gl n).length := by omega
    have lw := hr.1
    rw [← hi'] at lw ⊢
    refine Ans.loop' (fun q r => f3_N3000) (fun q => f3_Z3000) ?_
    unfold f3_L3000
    repeat' (first | ((with_reducible first | refine Ans.bz ?_ | refine Ans.r1 ?_ | refine Ans.pkT ?_ | refine Ans.pkF ?_); try dsimp only [v_zero, v_succ]) | (with_reducible first | refine Ans.btL ?_ | refine Ans.bfL ?_ | refine Ans.gyT ?_ | refine Ans.gyF ?_ | refine Ans.gyG ?_ | refine Ans.bb ?_ | refine Ans.bc ?_ | refine Ans.ba ?_) | ((with_reducible first | refine Ans.lsT ?_ ?_ | refine Ans.neT ?_ ?_); (focus omega)) | ((with_reducible first | refine Ans.lsF ?_ ?_ | refine Ans.neF ?_ ?_); (focus omega)) | (with_reducible first | refine Ans.lsS (fun _ => ?_) (fun _ => ?_) | refine Ans.neS (fun _ => ?_) (fun _ => ?_)) | ((with_reducible first | refine Ans.addN ?_ ?_ | refine Ans.add ?_ ?_); (focus omega)) | ((with_reducible first | refine Ans.ct ?_ ?_); (focus (simp (disch := (first | omega | with_reducible assumption | (simp <;> omega) | fail)) [lw]; done))) | ((with_reducible first | refine Ans.cf ?_ ?_); (focus (simp (disch := (first | omega | with_reducible assumption | (simp <;> omega) | fail)) [lw]; done))) | (refine Ans.step (by simp (disch := (first | omega | with_reducible assumption | (simp <;> omega) | fail)) [lw, -List.getD_eq_getElem?_getD] <;> rfl) ?_; try dsimp only [v_zero, v_succ]) | fail)
    exact Ans.exitN ⟨rfl, (by show c ≤ c + 1; omega), rfl, fun _ _ => rfl, rfl, rfl, rfl, rfl⟩
  | succ k ih =>
    intro i c h hi hc hg hs hr _ b1 b2
    have lw := hr.1
    obtain ⟨l, p, x, e1, e2, ⟨pb, po, rfl, e3⟩, e4, e5, e6⟩ := hr.2 i (by omega)
    have hxm : x ∈ vxF Gl n := List.mem_of_getElem? e1
    obtain ⟨xk, rfl, hxk, _⟩ := vxF_mem hxm
    have had := lk_adm hok hG xk
    obtain ⟨w1, w2⟩ := admB_w had
    have hV := withinI w2
    have hbnd := eulL_bound (Gl := Gl) hV (show n ≤ 60 by omega) w1
    have eF : eulF Gl n (i + 1) = eulF Gl n i + eulL Gl n (lkRow (vxC Gl n) n xk) := by
      unfold eulF
      have hil : i < (vxF Gl n).length := by omega
      have hget : (vxF Gl n)[i]'hil = (xk : Int) := by
        rw [List.getElem?_eq_getElem hil] at e1
        exact Option.some.inj e1
      rw [List.take_succ_eq_append_getElem hil, List.map_append, sumL_append, List.map_cons, List.map_nil, hget]
      simp [sumL]
    have lg := ldN1_own hg
    have ce := fun c' (hc' : c0 ≤ c') => callF_of (euler_sp s l n (7 * n) Gl _ h c' [] (hs.mono hc') (e5.mono hc') e6 (by omega))
    unfold eulV at ce
    rw [had, hE, if_pos rfl] at ce
    obtain ⟨⟨re, rv, h', c', rd⟩, hr', p1, p2, p3, p4, p5⟩ := weightsN_sp s l n (7 * n) Gl _ h (c + 1 + 1 + 1) [] (hs.mono (by omega)) (e5.mono (by omega)) e6 (by omega)
    simp only at p1 p2 p3 p4 p5
    subst p1 p2
    rw [had, hE] at p5
    rcases p5 with ⟨e, _⟩ | ⟨_, y, rfl, gy⟩
    · exact absurd rfl e
    have cw := callF_of hr'
    have s0 : Same c0 h h' := p4.mono (by omega)
    have hg' := hg.same hgb s0
    have lg' := ldN1_own hg'
    have e4' := (ld1_same (o := po) s0 e3).trans e4
    have cc := fun c'' (hc' : c0 ≤ c'') => callF_of (checkN_sp s l n (7 * n) Gl _ h' c'' [] ((hs.same s0).mono hc') ((e5.same s0).mono hc') (SlX.keep e5 s0 e6) (by omega))
    rw [had, hE] at cc
    have ly := gy.sl.len
    obtain ⟨X, hX⟩ : ∃ X, eulL Gl n (lkRow (vxC Gl n) n xk) = X := ⟨_, rfl⟩
    obtain ⟨Y, hY⟩ : ∃ Y, eulF Gl n i = Y := ⟨_, rfl⟩
    have ih' := ih (i + 1) (c' + 1 + 1 + 1 + 1) h' (by omega) (by omega) hg' (hs.same s0) (hr.same s0) (by omega)
    rw [eF] at ih'
    rw [hX] at ce hbnd ih'
    rw [hY] at b1 b2 ih' ⊢
    rw [if_neg (by omega)] at ih'
    have him : (i : Int) < (vxF Gl n).length := by omega
    obtain ⟨Z, hZ⟩ : ∃ Z : Int, (if i = 0 then (0 : Int) else ((edF Gl n).length : Nat)) = Z := ⟨_, rfl⟩
    rw [hZ]
    refine Ans.loop' (fun q r => f3_N3000) (fun q => f3_Z3000) ?_
    unfold f3_L3000
    repeat' (first | ((with_reducible first | refine Ans.bz ?_ | refine Ans.r1 ?_ | refine Ans.pkT ?_ | refine Ans.pkF ?_); try dsimp only [v_zero, v_succ]) | (with_reducible first | refine Ans.btL ?_ | refine Ans.bfL ?_ | refine Ans.gyT ?_ | refine Ans.gyF ?_ | refine Ans.gyG ?_ | refine Ans.bb ?_ | refine Ans.bc ?_ | refine Ans.ba ?_) | ((with_reducible first | refine Ans.lsT ?_ ?_ | refine Ans.neT ?_ ?_); (focus omega)) | ((with_reducible first | refine Ans.lsF ?_ ?_ | refine Ans.neF ?_ ?_); (focus omega)) | (with_reducible first | refine Ans.lsS (fun _ => ?_) (fun _ => ?_) | refine Ans.neS (fun _ => ?_) (fun _ => ?_)) | ((with_reducible first | refine Ans.addN ?_ ?_ | refine Ans.add ?_ ?_); (focus omega)) | ((with_reducible first | refine Ans.ct ?_ ?_); (focus (simp (disch := (first | omega | with_reducible assumption | (simp <;> omega) | fail)) [lw, lg, e2, e4, ce, cw, lg', e4', cc, ly]; done))) | ((with_reducible first | refine Ans.cf ?_ ?_); (focus (simp (disch := (first | omega | with_reducible assumption | (simp <;> omega) | fail)) [lw, lg, e2, e4, ce, cw, lg', e4', cc, ly]; done))) | (refine Ans.step (by simp (disch := (first | omega | with_reducible assumption | (simp <;> omega) | fail)) [lw, lg, e2, e4, ce, cw, lg', e4', cc, ly, -List.getD_eq_getElem?_getD] <;> rfl) ?_; try dsimp only [v_zero, v_succ]) | fail)
    refine Ans.nextN ?_
    refine (ih' (by omega) (by omega)).mono ?_
    rintro r ⟨q1, q2, q3, q4, q5⟩
    exact ⟨q1, by omega, q3, s0.trans q4, q5⟩
theorem free_in (s : Value) (n : Nat) (Gl : List Int) (gb c t : Nat) (b2 v5 v6 : Value) (h : FH) (hs : SlI h c s 20 n Gl) (hg : Holds h gb [s]) (hgb : gb < 256 * c) (ht : t < n) (hG : Gl.length = n * 20) (o2 : OkV c b2) (o5 : OkV c v5) (o6 : OkV c v6) (df : List Nat) :
    ∀ (k f : Nat), f + k = 4 → Ans (G (f3_k3002 none) [ptrTo gb, b2, v5, v6, .int .i64 t, .int .i64 f] h c df) fun r => r.c = c ∧ r.df = df ∧ r.h = h ∧
      ((r.e = .exit 4 ∧ r.vs = [ptrTo gb, b2, v5, v6, .int .i64 t, .int .i64 4] ∧ ∀ g, f ≤ g → g < 4 → 0 ≤ tetL (faceL Gl t g)) ∨ (r.e = .ret ∧ ∃ g : Nat, r.vs = [ptrTo gb, .bool true, v5, v6, .int .i64 t, .int .i64 g])) := by
  intro k
  have lg : ld1 h (.pointer (some ⟨gb, 0, none⟩)) = some s := by rw [ld1_holds' hg]; rfl
  induction k with
  | zero =>
    intro f hf
    obtain rfl : f = 4 := by omega
    refine Ans.loop (fun q r => f3_N3002) (fun q => f3_Z3002) ?_
    unfold f3_L3002
    repeat' (first | ((with_reducible first | refine Ans.bz ?_ | refine Ans.r1 ?_ | refine Ans.pkT ?_ | refine Ans.pkF ?_); try dsimp only [v_zero, v_succ]) | (with_reducible first | refine Ans.btL ?_ | refine Ans.bfL ?_ | refine Ans.gyT ?_ | refine Ans.gyF ?_ | refine Ans.gyG ?_ | refine Ans.bb ?_ | refine Ans.bc ?_ | refine Ans.ba ?_) | ((with_reducible first | refine Ans.lsT ?_ ?_); (focus omega)) | ((with_reducible first | refine Ans.lsF ?_ ?_); (focus omega)) | (with_reducible first | refine Ans.lsS (fun _ => ?_) (fun _ => ?_)) | ((with_reducible first | refine Ans.addN ?_ ?_ | refine Ans.add ?_ ?_); (focus omega)) | ((with_reducible first | refine Ans.ct ?_ ?_); (focus (simp (disch := (first | omega | with_reducible assumption | (simp <;> omega) | fail)) []; done))) | ((with_reducible first | refine Ans.cf ?_ ?_); (focus (simp (disch := (first | omega | with_reducible assumption | (simp <;> omega) | fail)) []; done))) | (refine Ans.step (by simp (disch := (first | omega | with_reducible assumption | (simp <;> omega) | fail)) [-List.getD_eq_getElem?_getD] <;> rfl) ?_; try dsimp only [v_zero, v_succ]) | fail)
    (refine Ans.exit0 ?_ ?_ ?_; (focus (simp (disch := (first | omega | with_reducible assumption | (simp <;> omega) | fail)) [hgb, o2, o5, o6]; done)); (focus (simp (disch := (first | omega | with_reducible assumption | (simp <;> omega) | fail)) [hgb, o2, o5, o6]; done)))
    exact ⟨rfl, rfl, rfl, .inl ⟨rfl, rfl, fun g h1 h2 => by omega⟩⟩
  | succ k ih =>
    intro f hf
    have hfl := faceL_length hG ht (by omega : f < 4)
    have l1 : ld1 h (.pointer (some ⟨blkOf s, offOf s + t * 20 + f * 5, none⟩)) = some (.int .i64 (tetL (faceL Gl t f))) := by
      have := hs.rd (20 * t + 5 * f) (by omega)
      rw [show offOf s + t * 20 + f * 5 = offOf s + (20 * t + 5 * f) by omega, this]
      congr 2
      unfold tetL faceL
      rw [getD_take _ _ _ (by omega), getD_drop]
      rfl
    obtain ⟨U, hU⟩ : ∃ U, tetL (faceL Gl t f) = U := ⟨_, rfl⟩
    rw [hU] at l1
    have hf4 : (f : Int) < 4 := by omega
    refine Ans.loop (fun q r => f3_N3002) (fun q => f3_Z3002) ?_
    unfold f3_L3002
    by_cases h0 : U < 0
    · repeat' (first | ((with_reducible first | refine Ans.bz ?_ | refine Ans.r1 ?_ | refine Ans.pkT ?_ | refine Ans.pkF ?_); try dsimp only [v_zero, v_succ]) | (with_reducible first | refine Ans.btL ?_ | refine Ans.bfL ?_ | refine Ans.gyT ?_ | refine Ans.gyF ?_ | refine Ans.gyG ?_ | refine Ans.bb ?_ | refine Ans.bc ?_ | refine Ans.ba ?_) | ((with_reducible first | refine Ans.lsT ?_ ?_); (focus omega)) | ((with_reducible first | refine Ans.lsF ?_ ?_); (focus omega)) | (with_reducible first | refine Ans.lsS (fun _ => ?_) (fun _ => ?_)) | ((with_reducible first | refine Ans.addN ?_ ?_ | refine Ans.add ?_ ?_); (focus omega)) | ((with_reducible first | refine Ans.ct ?_ ?_); (focus (simp (disch := (first | omega | with_reducible assumption | (simp <;> omega) | fail)) [lg, hs.ixs, l1]; done))) | ((with_reducible first | refine Ans.cf ?_ ?_); (focus (simp (disch := (first | omega | with_reducible assumption | (simp <;> omega) | fail)) [lg, hs.ixs, l1]; done))) | (refine Ans.step (by simp (disch := (first | omega | with_reducible assumption | (simp <;> omega) | fail)) [lg, hs.ixs, l1, -List.getD_eq_getElem?_getD] <;> rfl) ?_; try dsimp only [v_zero, v_succ]) | fail)
      (refine Ans.ret0 ?_ ?_ ?_; (focus (simp (disch := (first | omega | with_reducible assumption | (simp <;> omega) | fail)) [hgb, o2, o5, o6]; done)); (focus (simp (disch := (first | omega | with_reducible assumption | (simp <;> omega) | fail)) [hgb, o2, o5, o6]; done)))
      exact ⟨rfl, rfl, rfl, .inr ⟨rfl, f, rfl⟩⟩
    · repeat' (first | ((with_reducible first | refine Ans.bz ?_ | refine Ans.r1 ?_ | refine Ans.pkT ?_ | refine Ans.pkF ?_); try dsimp only [v_zero, v_succ]) | (with_reducible first | refine Ans.btL ?_ | refine Ans.bfL ?_ | refine Ans.gyT ?_ | refine Ans.gyF ?_ | refine Ans.gyG ?_ | refine Ans.bb ?_ | refine Ans.bc ?_ | refine Ans.ba ?_) | ((with_reducible first | refine Ans.lsT ?_ ?_); (focus omega)) | ((with_reducible first | refine Ans.lsF ?_ ?_); (focus omega)) | (with_reducible first | refine Ans.lsS (fun _ => ?_) (fun _ => ?_)) | ((with_reducible first | refine Ans.addN ?_ ?_ | refine Ans.add ?_ ?_); (focus omega)) | ((with_reducible first | refine Ans.ct ?_ ?_); (focus (simp (disch := (first | omega | with_reducible assumption | (simp <;> omega) | fail)) [lg, hs.ixs, l1]; done))) | ((with_reducible first | refine Ans.cf ?_ ?_); (focus (simp (disch := (first | omega | with_reducible assumption | (simp <;> omega) | fail)) [lg, hs.ixs, l1]; done))) | (refine Ans.step (by simp (disch := (first | omega | with_reducible assumption | (simp <;> omega) | fail)) [lg, hs.ixs, l1, -List.getD_eq_getElem?_getD] <;> rfl) ?_; try dsimp only [v_zero, v_succ]) | fail)
      (refine Ans.next0 ?_ ?_ ?_; (focus (simp (disch := (first | omega | with_reducible assumption | (simp <;> omega) | fail)) [hgb, o2, o5, o6]; done)); (focus (simp (disch := (first | omega | with_reducible assumption | (simp <;> omega) | fail)) [hgb, o2, o5, o6]; done)))
      refine (ih (f + 1) (by omega)).mono ?_
      rintro r ⟨q1, q2, q3, q4⟩
      refine ⟨q1, q2, q3, q4.imp (fun ⟨a, b, d⟩ => ⟨a, b, fun g g1 g2 => ?_⟩) id⟩
      by_cases e : g = f
      · rw [e, hU]; omega
      · exact d g (by omega) g2
theorem free_out (s : Value) (n : Nat) (Gl : List Int) (gb c : Nat) (b2 v5 v6 : Value) (h : FH) (hs : SlI h c s 20 n Gl) (hg : Holds h gb [s]) (hgb : gb < 256 * c) (o2 : OkV c b2) (o5 : OkV c v5) (o6 : OkV c v6) (df : List Nat) :
    ∀ (k t : Nat), t + k = n → Ans (G (f3_k3001 none) [ptrTo gb, b2, v5, v6, .int .i64 t] h c df) fun r => r.c = c ∧ r.df = df ∧ r.h = h ∧
      ((r.e = .exit 2 ∧ r.vs = [ptrTo gb, b2, v5, v6, .int .i64 n] ∧ ∀ u g, t ≤ u → u < n → g < 4 → 0 ≤ tetL (faceL Gl u g)) ∨ (r.e = .ret ∧ r.v 1 = .bool true)) := by
  intro k
  have lg : ld1 h (.pointer (some ⟨gb, 0, none⟩)) = some s := by rw [ld1_holds' hg]; rfl
  have ls := hs.len
  induction k with
  | zero =>
    intro t ht
    obtain rfl : t = n := by omega
    refine Ans.loop (fun q r => f3_N3001) (fun q => f3_Z3001) ?_
    unfold f3_L3001
    repeat' (first | ((with_reducible first | refine Ans.bz ?_ | refine Ans.r1 ?_ | refine Ans.pkT ?_ | refine Ans.pkF ?_); try dsimp only [v_zero, v_succ]) | (with_reducible first | refine Ans.btL ?_ | refine Ans.bfL ?_ | refine Ans.gyT ?_ | refine Ans.gyF ?_ | refine Ans.gyG ?_ | refine Ans.bb ?_ | refine Ans.bc ?_ | refine Ans.ba ?_) | ((with_reducible first | refine Ans.lsT ?_ ?_); (focus omega)) | ((with_reducible first | refine Ans.lsF ?_ ?_); (focus omega)) | (with_reducible first | refine Ans.lsS (fun _ => ?_) (fun _ => ?_)) | ((with_reducible first | refine Ans.addN ?_ ?_ | refine Ans.add ?_ ?_); (focus omega)) | ((with_reducible first | refine Ans.ct ?_ ?_); (focus (simp (disch := (first | omega | with_reducible assumption | (simp <;> omega) | fail)) [lg, ls]; done))) | ((with_reducible first | refine Ans.cf ?_ ?_); (focus (simp (disch := (first | omega | with_reducible assumption | (simp <;> omega) | fail)) [lg, ls]; done))) | (refine Ans.step (by simp (disch := (first | omega | with_reducible assumption | (simp <;> omega) | fail)) [lg, ls, -List.getD_eq_getElem?_getD] <;> rfl) ?_; try dsimp only [v_zero, v_succ]) | fail)
    (refine Ans.exit0 ?_ ?_ ?_; (focus (simp (disch := (first | omega | with_reducible assumption | (simp <;> omega) | fail)) [hgb, o2, o5, o6]; done)); (focus (simp (disch := (first | omega | with_reducible assumption | (simp <;> omega) | fail)) [hgb, o2, o5, o6]; done)))
    exact ⟨rfl, rfl, rfl, .inl ⟨rfl, rfl, fun u g h1 h2 => by omega⟩⟩
  | succ k ih =>
    intro t ht
    obtain ⟨⟨re, rv, rh, rc, rd⟩, hr, r1, r2, r3, r4⟩ := free_in s n Gl gb (c + 1 + 1) t b2 v5 v6 h (hs.mono (by omega)) hg (by omega) (by omega) hs.1 (o2.mono (by omega)) (o5.mono (by omega)) (o6.mono (by omega)) df 4 0 (by omega)
    simp only at r1 r2 r3 r4
    subst r1 r2 r3
    simp only [Int.ofNat_eq_natCast, Int.cast_ofNat_Int] at hr
    have htn : (t : Int) < n := by omega
    have hnn := hs.2.1
    refine Ans.loop (fun q r => f3_N3001) (fun q => f3_Z3001) ?_
    unfold f3_L3001
    rcases r4 with ⟨rfl, rfl, r5⟩ | ⟨rfl, g, rfl⟩
    · repeat' (first | ((with_reducible first | refine Ans.bz ?_ | refine Ans.r1 ?_ | refine Ans.pkT ?_ | refine Ans.pkF ?_); try dsimp only [v_zero, v_succ]) | (with_reducible first | refine Ans.btL ?_ | refine Ans.bfL ?_ | refine Ans.gyT ?_ | refine Ans.gyF ?_ | refine Ans.gyG ?_ | refine Ans.bb ?_ | refine Ans.bc ?_ | refine Ans.ba ?_) | ((with_reducible first | refine Ans.lsT ?_ ?_); (focus omega)) | ((with_reducible first | refine Ans.lsF ?_ ?_); (focus omega)) | (with_reducible first | refine Ans.lsS (fun _ => ?_) (fun _ => ?_)) | ((with_reducible first | refine Ans.addN ?_ ?_ | refine Ans.add ?_ ?_); (focus omega)) | ((with_reducible first | refine Ans.ct ?_ ?_); (focus (simp (disch := (first | omega | with_reducible assumption | (simp <;> omega) | fail)) [lg, ls, hr]; done))) | ((with_reducible first | refine Ans.cf ?_ ?_); (focus (simp (disch := (first | omega | with_reducible assumption | (simp <;> omega) | fail)) [lg, ls, hr]; done))) | (refine Ans.step (by simp (disch := (first | omega | with_reducible assumption | (simp <;> omega) | fail)) [lg, ls, hr, -List.getD_eq_getElem?_getD] <;> rfl) ?_; try dsimp only [v_zero, v_succ]) | fail)
      (refine Ans.next0 ?_ ?_ ?_; (focus (simp (disch := (first | omega | with_reducible assumption | (simp <;> omega) | fail)) [hgb, o2, o5, o6]; done)); (focus (simp (disch := (first | omega | with_reducible assumption | (simp <;> omega) | fail)) [hgb, o2, o5, o6]; done)))
      refine (ih (t + 1) (by omega)).mono ?_
      rintro r ⟨q1, q2, q3, q4⟩
      refine ⟨q1, q2, q3, q4.imp (fun ⟨a, b, d⟩ => ⟨a, b, fun u g u1 u2 g1 => ?_⟩) id⟩
      by_cases e : u = t
      · rw [e]; exact r5 g (by omega) g1
      · exact d u g (by omega) u2 g1
    · repeat' (first | ((with_reducible first | refine Ans.bz ?_ | refine Ans.r1 ?_ | refine Ans.pkT ?_ | refine Ans.pkF ?_); try dsimp only [v_zero, v_succ]) | (with_reducible first | refine Ans.btL ?_ | refine Ans.bfL ?_ | refine Ans.gyT ?_ | refine Ans.gyF ?_ | refine Ans.gyG ?_ | refine Ans.bb ?_ | refine Ans.bc ?_ | refine Ans.ba ?_) | ((with_reducible first | refine Ans.lsT ?_ ?_); (focus omega)) | ((with_reducible first | refine Ans.lsF ?_ ?_); (focus omega)) | (with_reducible first | refine Ans.lsS (fun _ => ?_) (fun _ => ?_)) | ((with_reducible first | refine Ans.addN ?_ ?_ | refine Ans.add ?_ ?_); (focus omega)) | ((with_reducible first | refine Ans.ct ?_ ?_); (focus (simp (disch := (first | omega | with_reducible assumption | (simp <;> omega) | fail)) [lg, ls, hr]; done))) | ((with_reducible first | refine Ans.cf ?_ ?_); (focus (simp (disch := (first | omega | with_reducible assumption | (simp <;> omega) | fail)) [lg, ls, hr]; done))) | (refine Ans.step (by simp (disch := (first | omega | with_reducible assumption | (simp <;> omega) | fail)) [lg, ls, hr, -List.getD_eq_getElem?_getD] <;> rfl) ?_; try dsimp only [v_zero, v_succ]) | fail)
      (refine Ans.ret0 ?_ ?_ ?_; (focus (simp (disch := (first | omega | with_reducible assumption | (simp <;> omega) | fail)) [hgb, o2, o5, o6]; done)); (focus (simp (disch := (first | omega | with_reducible assumption | (simp <;> omega) | fail)) [hgb, o2, o5, o6]; done)))
      exact ⟨rfl, rfl, rfl, .inr ⟨rfl, rfl⟩⟩
end Go.Proofs.Ytcnndelmnobigaa

namespace Go.Proofs.Ytcnndelmnobigaa
open Go Go.Ab Go.Proofs
set_option maxRecDepth 100000
set_option linter.unusedVariables false
set_option linter.unusedSimpArgs false
theorem vxF_none {Gl : List Int} {n : Nat} (hok : okAll Gl n = true) (hG : Gl.length = n * 20) (h : (vxF Gl n).length = 0) : n = 0 := by
  obtain ⟨hd, _⟩ := vx_fold hok hG
  rcases Nat.eq_zero_or_pos n with h0 | h0
  · exact h0
  · exfalso
    have hr := rootL_le hd (i := 0) (by omega)
    have : ((0 : Nat) : Int) ∈ vxF Gl n := by
      unfold vxF firstsL
      exact List.mem_map.2 ⟨0, List.mem_filter.2 ⟨by simp; omega, by simp; omega⟩, rfl⟩
    rw [List.eq_nil_of_length_eq_zero h] at this
    cases this
theorem eulF_bound {Gl : List Int} {n : Nat} (hok : okAll Gl n = true) (hG : Gl.length = n * 20) (hn : n ≤ 6) : ∀ (L : List Int), (∀ x, x ∈ L → x ∈ vxF Gl n) → -(L.length : Int) * 10000000000 ≤ sumL (L.map fun x => eulL Gl n (lkRow (vxC Gl n) n x)) ∧ sumL (L.map fun x => eulL Gl n (lkRow (vxC Gl n) n x)) ≤ (L.length : Int) * 10000000000
  | [], _ => by simp [sumL]
  | x :: L, h => by
    obtain ⟨i1, i2⟩ := eulF_bound hok hG hn L (fun y hy => h y (by simp [hy]))
    obtain ⟨xk, rfl, _, _⟩ := vxF_mem (h x (by simp))
    obtain ⟨w1, w2⟩ := admB_w (lk_adm hok hG xk)
    have := eulL_bound (Gl := Gl) (withinI w2) (show n ≤ 60 by omega) w1
    rw [List.map_cons, sumL, List.length_cons]
    omega
set_option maxHeartbeats 1000000 in
theorem normalLinks_true (s : Value) (n : Nat) (Gl : List Int) (h : FH) (c : Nat) (hs : SlI h c s 20 n Gl) :
    Ans (G (.fn 3) [.agg #[s]] h c []) fun x => x.e = .ret ∧ x.vs = [.bool true] := by
  suffices hs : Ans (f3_S G (.agg #[s]) h c) fun x => x.e = .ret ∧ x.vs = [.bool true] by
    obtain ⟨x, q1, q2⟩ := hs
    exact ⟨_, f3_go q1, by show (gcR h c [] x).e = _ ∧ (gcR h c [] x).vs = _; rw [gcR_e, gcR_vs]; exact q2⟩
  unfold f3_S
  rw [flat1 hs.flat, cell1, Nat.add_zero]
  simp only [cond_true]
  obtain ⟨H, hH⟩ : ∃ H, H = newB h (256 * c) [s] := ⟨_, rfl⟩
  have sH : Same c h H := by rw [hH]; simp (disch := omega)
  have hg : Holds H (256 * c) [s] := by rw [hH]; exact Holds.newB_same _ _ _
  rw [← hH]
  clear hH
  have k0 := sane_call H
  have l1 := ldN1_own hg
  have cs := fun c' (hc : c ≤ c') => callF_of (small_sp s n Gl H c' [] ((hs.same sH).mono hc))
  by_cases hn : n ≤ 6
  case neg =>
    rw [decide_eq_false hn] at cs
    repeat' (first | ((with_reducible first | refine Ans.bz ?_ | refine Ans.r1 ?_ | refine Ans.pkT ?_ | refine Ans.pkF ?_); try dsimp only [v_zero, v_succ]) | (with_reducible first | refine Ans.btL ?_ | refine Ans.bfL ?_ | refine Ans.gyT ?_ | refine Ans.gyF ?_ | refine Ans.gyG ?_ | refine Ans.bb ?_ | refine Ans.bc ?_ | refine Ans.ba ?_) | ((with_reducible first | refine Ans.eqT ?_ ?_ | refine Ans.neT ?_ ?_); (focus omega)) | ((with_reducible first | refine Ans.eqF ?_ ?_ | refine Ans.neF ?_ ?_); (focus omega)) | (with_reducible first | refine Ans.eqS (fun _ => ?_) (fun _ => ?_) | refine Ans.neS (fun _ => ?_) (fun _ => ?_)) | ((with_reducible first | refine Ans.sub ?_ ?_ | refine Ans.mul ?_ ?_); (focus omega)) | ((with_reducible first | refine Ans.ct ?_ ?_); (focus (simp (disch := (first | omega | with_reducible assumption | (simp <;> omega) | fail)) [k0, l1, cs]; done))) | ((with_reducible first | refine Ans.cf ?_ ?_); (focus (simp (disch := (first | omega | with_reducible assumption | (simp <;> omega) | fail)) [k0, l1, cs]; done))) | (refine Ans.step (by simp (disch := (first | omega | with_reducible assumption | (simp <;> omega) | fail)) [k0, l1, cs, -List.getD_eq_getElem?_getD] <;> rfl) ?_; try dsimp only [v_zero, v_succ]) | fail)
    exact .done ⟨rfl, rfl⟩
  rw [decide_eq_true hn] at cs
  have ck := fun c' (hc : c ≤ c') => callF_checkR s n Gl H c' ((hs.same sH).mono hc)
  by_cases hok : okAll Gl n = true
  case neg =>
    rw [if_neg (fun h => hok h.2)] at ck
    repeat' (first | ((with_reducible first | refine Ans.bz ?_ | refine Ans.r1 ?_ | refine Ans.pkT ?_ | refine Ans.pkF ?_); try dsimp only [v_zero, v_succ]) | (with_reducible first | refine Ans.btL ?_ | refine Ans.bfL ?_ | refine Ans.gyT ?_ | refine Ans.gyF ?_ | refine Ans.gyG ?_ | refine Ans.bb ?_ | refine Ans.bc ?_ | refine Ans.ba ?_) | ((with_reducible first | refine Ans.eqT ?_ ?_ | refine Ans.neT ?_ ?_); (focus omega)) | ((with_reducible first | refine Ans.eqF ?_ ?_ | refine Ans.neF ?_ ?_); (focus omega)) | (with_reducible first | refine Ans.eqS (fun _ => ?_) (fun _ => ?_) | refine Ans.neS (fun _ => ?_) (fun _ => ?_)) | ((with_reducible first | refine Ans.sub ?_ ?_ | refine Ans.mul ?_ ?_); (focus omega)) | ((with_reducible first | refine Ans.ct ?_ ?_); (focus (simp (disch := (first | omega | with_reducible assumption | (simp <;> omega) | fail)) [k0, l1, cs, ck]; done))) | ((with_reducible first | refine Ans.cf ?_ ?_); (focus (simp (disch := (first | omega | with_reducible assumption | (simp <;> omega) | fail)) [k0, l1, cs, ck]; done))) | (refine Ans.step (by simp (disch := (first | omega | with_reducible assumption | (simp <;> omega) | fail)) [k0, l1, cs, ck, -List.getD_eq_getElem?_getD] <;> rfl) ?_; try dsimp only [v_zero, v_succ]) | fail)
    exact .done ⟨rfl, rfl⟩
  rw [if_pos ⟨by omega, hok⟩] at ck
  have hG := hs.1
  have href : refE Gl n = 0 := by unfold refE; rw [if_pos ⟨by omega, hok⟩, if_neg (by omega)]
  obtain ⟨⟨re, rv, H5, c5, rd⟩, hr, r1, r2, r3, r4, r5⟩ := links_sp s n Gl H (c + 1 + 1 + 1 + 1) [] ((hs.same sH).mono (by omega))
  simp only at r1 r2 r3 r4 r5
  subst r1 r2
  rcases r5 with ⟨e, _⟩ | ⟨_, w, rfl, hv⟩
  · exact absurd href e
  have c14 := callF_of hr
  have s5 : Same c h H5 := sH.trans (r4.mono (by omega))
  have hg5 : Holds H5 (256 * c) [s] := hg.eqf (r4 _ (by omega))
  have hvl : (vxF Gl n).length ≤ 4 * n := firstsL_len _ _
  have e0 : eulF Gl n 0 = 0 := by unfold eulF; rw [List.take_zero]; rfl
  obtain ⟨⟨re, rv, H6, c6, rd⟩, hr6, q1, q2, q3, q4, q5, q6, q7, q8⟩ := lk_loop s w n Gl (256 * c) c5 hok hn hG (by omega) [] (vxF Gl n).length 0 (c5 + 1 + 1 + 1 + 1) H5 (by omega) (by omega) hg5 ((hs.same s5).mono (by omega)) (hv.rows rfl) (.inl rfl) (by rw [e0]; omega) (by rw [e0]; omega)
  rw [e0, if_pos rfl] at hr6
  simp only [Int.ofNat_eq_natCast, Int.cast_ofNat_Int] at hr6
  simp only at q1 q2 q3 q4
  subst q1 q3
  have s6 : Same c h H6 := s5.trans (q4.mono (by omega))
  have hg6 : Holds H6 (256 * c) [s] := hg5.eqf (q4 _ (by omega))
  have bb := eulF_bound hok hG hn ((vxF Gl n).take (vxF Gl n).length) (fun x hx => List.mem_of_mem_take hx)
  have eA : eulF Gl n (vxF Gl n).length = sumL ((vxF Gl n).map fun x => eulL Gl n (lkRow (vxC Gl n) n x)) := by
    unfold eulF; rw [List.take_length]
  rw [List.take_length] at bb
  have hel : (edF Gl n).length ≤ 6 * n := firstsL_len _ _
  have hEd : (if (vxF Gl n).length = 0 then (0 : Int) else ((edF Gl n).length : Nat)) = (edF Gl n).length := by
    split
    · rename_i h0
      have := vxF_none hok hG h0
      omega
    · rfl
  rw [hEd] at q8
  obtain ⟨⟨re, rv', rh, rc, rd⟩, hr8, t1, t2, t3, t4⟩ := free_out s n Gl (256 * c) (c6 + 1) (.bool false) (.int .i64 (eulF Gl n (vxF Gl n).length)) (.int .i64 (edF Gl n).length) H6 ((hs.same s6).mono (by omega)) hg6 (by omega) (by simp) (by simp) (by simp) [] n 0 (by omega)
  simp only [Int.ofNat_eq_natCast, Int.cast_ofNat_Int] at hr8
  simp only at t1 t2 t3 t4
  subst t1 t2 t3
  have l6 : ld1 rh (.pointer (some ⟨256 * c, 0, none⟩)) = some s := by rw [ld1_holds' hg6]; rfl
  have ls := hs.len
  rcases t4 with ⟨rfl, rfl, t5⟩ | ⟨rfl, t5⟩
  · have hfin := links_eul hok hG (fun t f h1 h2 => t5 t f (by omega) h1 h2)
    rw [← eA] at hfin bb
    obtain ⟨X, hX⟩ : ∃ X, eulF Gl n (vxF Gl n).length = X := ⟨_, rfl⟩
    rw [hX] at *
    obtain ⟨E, hE⟩ : ∃ E, (edF Gl n).length = E := ⟨_, rfl⟩
    rw [hE] at *
    repeat' (first | ((with_reducible first | refine Ans.bz ?_ | refine Ans.r1 ?_ | refine Ans.pkT ?_ | refine Ans.pkF ?_); try dsimp only [v_zero, v_succ]) | (with_reducible first | refine Ans.btL ?_ | refine Ans.bfL ?_ | refine Ans.gyT ?_ | refine Ans.gyF ?_ | refine Ans.gyG ?_ | refine Ans.bb ?_ | refine Ans.bc ?_ | refine Ans.ba ?_) | ((with_reducible first | refine Ans.eqT ?_ ?_ | refine Ans.neT ?_ ?_); (focus omega)) | ((with_reducible first | refine Ans.eqF ?_ ?_ | refine Ans.neF ?_ ?_); (focus omega)) | (with_reducible first | refine Ans.eqS (fun _ => ?_) (fun _ => ?_) | refine Ans.neS (fun _ => ?_) (fun _ => ?_)) | ((with_reducible first | refine Ans.sub ?_ ?_ | refine Ans.mul ?_ ?_); (focus omega)) | ((with_reducible first | refine Ans.ct ?_ ?_); (focus (simp (disch := (first | omega | with_reducible assumption | (simp <;> omega) | fail)) [k0, l1, cs, ck, c14, hr6, q5, q6, q7, q8, hr8, l6, ls]; done))) | ((with_reducible first | refine Ans.cf ?_ ?_); (focus (simp (disch := (first | omega | with_reducible assumption | (simp <;> omega) | fail)) [k0, l1, cs, ck, c14, hr6, q5, q6, q7, q8, hr8, l6, ls]; done))) | (refine Ans.step (by simp (disch := (first | omega | with_reducible assumption | (simp <;> omega) | fail)) [k0, l1, cs, ck, c14, hr6, q5, q6, q7, q8, hr8, l6, ls, -List.getD_eq_getElem?_getD] <;> rfl) ?_; try dsimp only [v_zero, v_succ]) | fail)
    exact .done ⟨rfl, rfl⟩
  · repeat' (first | ((with_reducible first | refine Ans.bz ?_ | refine Ans.r1 ?_ | refine Ans.pkT ?_ | refine Ans.pkF ?_); try dsimp only [v_zero, v_succ]) | (with_reducible first | refine Ans.btL ?_ | refine Ans.bfL ?_ | refine Ans.gyT ?_ | refine Ans.gyF ?_ | refine Ans.gyG ?_ | refine Ans.bb ?_ | refine Ans.bc ?_ | refine Ans.ba ?_) | ((with_reducible first | refine Ans.eqT ?_ ?_ | refine Ans.neT ?_ ?_); (focus omega)) | ((with_reducible first | refine Ans.eqF ?_ ?_ | refine Ans.neF ?_ ?_); (focus omega)) | (with_reducible first | refine Ans.eqS (fun _ => ?_) (fun _ => ?_) | refine Ans.neS (fun _ => ?_) (fun _ => ?_)) | ((with_reducible first | refine Ans.sub ?_ ?_ | refine Ans.mul ?_ ?_); (focus omega)) | ((with_reducible first | refine Ans.ct ?_ ?_); (focus (simp (disch := (first | omega | with_reducible assumption | (simp <;> omega) | fail)) [k0, l1, cs, ck, c14, hr6, q5, q6, q7, q8, hr8]; done))) | ((with_reducible first | refine Ans.cf ?_ ?_); (focus (simp (disch := (first | omega | with_reducible assumption | (simp <;> omega) | fail)) [k0, l1, cs, ck, c14, hr6, q5, q6, q7, q8, hr8]; done))) | (refine Ans.step (by simp (disch := (first | omega | with_reducible assumption | (simp <;> omega) | fail)) [k0, l1, cs, ck, c14, hr6, q5, q6, q7, q8, hr8, -List.getD_eq_getElem?_getD] <;> rfl) ?_; try dsimp only [v_zero, v_succ]) | fail)
    exact .done ⟨rfl, by show [Rt.v _ 1] = _; rw [t5]⟩
end Go.Proofs.Ytcnndelmnobigaa

namespace Go.Ab
open Go Go.ChangeShapes Go.RowKit
set_option linter.unusedVariables false
set_option linter.unusedSimpArgs false
variable {P : Program}
theorem okStruct {W : World} {base : Nat} {t : TypeId} {fs : Array Field} {v : Value} {ts : List TypeId} (ht : P.underlying t = some (.struct fs)) (hts : P.cellTypes P.depth t = some ts) (hval : Value.okWide P W .any base t v) :
    ∃ cs, v = .agg cs ∧ cs.size = P.cellsOf t ∧ ∀ i x, cs[i]? = some x → ∃ u, ts[i % ts.length]? = some u ∧ Cell.okWide P W .any base u x := by
  unfold Value.okWide at hval
  rw [ht] at hval
  obtain ⟨cs, rfl, h1, ts', h2, _, h3⟩ := hval
  rw [hts] at h2
  cases h2
  exact ⟨cs, rfl, h1, h3⟩
theorem open_s1 {H : Type} {enc : TypeId × Value → H} {W : World} {base : Nat} {tG tS e : TypeId} {sz : Nat} {v : Value} {f0 : Field} {d : DataW H} {ps : List MemPlace} (ht : P.underlying tG = some (.struct #[f0])) (hts : P.cellTypes P.depth tG = some [tS]) (hc : P.cellsOf tG = 1)
    (hS : P.underlying tS = some (.slice e)) (h0 : f0.type = tS) (o0 : f0.offset = 0) (hcS : P.cellsOf tS = 1) (hf : FlatT P e sz) (hz : 0 < sz) (hval : Value.okWide P W .any base tG v) (hd : DataW.Trod enc P W 0 (fun _ => true) true tG v d ps) :
    ∃ s n Gl, v = .agg #[s] ∧ OpenS W s sz n Gl := by
  obtain ⟨cs, rfl, h1, h2⟩ := okStruct ht hts hval
  rw [hc] at h1
  have hcs : ∃ s, cs = #[s] := by
    obtain ⟨l⟩ := cs
    match l, h1 with
    | [s], _ => exact ⟨s, rfl⟩
  match hcs with
  | ⟨s, hs⟩ =>
    subst hs
    obtain ⟨u, hu, hok⟩ := h2 0 s rfl
    simp at hu
    subst hu
    obtain ⟨fuel, hd⟩ := hd
    obtain ⟨y0, n, _, _, h3⟩ := trod_struct1 ht hd
    rw [h0, o0, hcS] at h3
    obtain ⟨n, Gl, ho⟩ := open_flat hS hf hz hok (fuel := n) (x := y0) (by simpa [Value.cells] using h3)
    exact ⟨s, n, Gl, rfl, ho⟩
theorem VR.agg1 {μ : Mu} {a b : Value} (h : VR μ a b) : VR μ (.agg #[a]) (.agg #[b]) := VR.agg_iff.2 (VRs.cons h (VRs.nil _))
def LawEnd (W : World) (e : Ending) (W' : World) : Prop := e = .returned (.bool true) ∧ Below W.heap.size W W'
end Go.Ab

namespace Go.Ab
open Go Go.ChangeShapes Go.RowKit
set_option linter.unusedVariables false
set_option linter.unusedSimpArgs false
theorem rows_relX {W : World} (l : List (Value × Nat × Nat × List Int)) (hl : l.length ≤ 256) (h : ∀ (k : Nat) (p : Value × Nat × Nat × List Int), l[k]? = some p → OpenS W p.1 p.2.1 p.2.2.1 p.2.2.2) :
    ∃ (A : FH) (μ : Mu), R μ A W ∧ Fresh μ 1 ∧ (∀ i m, μ i = some m → wrB (HeapC.get A i) = false) ∧ ∀ (k : Nat) (p : Value × Nat × Nat × List Int), l[k]? = some p → SlI A 1 (absS k p.1) p.2.1 p.2.2.1 p.2.2.2 ∧ VR μ (absS k p.1) p.1 ∧ SlX A (absS k p.1) p.2.1 p.2.2.1 := by
  let blk : Nat → Option ABlk := fun i => (l[i]?).bind fun p => (absM p.1).map fun _ => .cells true none (ints p.2.2.2)
  let mu : Mu := fun i => (l[i]?).bind fun p => absM p.1
  have key : ∀ i m, mu i = some m → ∃ p, l[i]? = some p ∧ absM p.1 = some m ∧ blk i = some (.cells true none (ints p.2.2.2)) := by
    intro i m e
    cases hp : l[i]? with
    | none => simp only [mu, hp] at e; cases e
    | some p =>
      simp only [mu, hp, Option.bind_some] at e
      exact ⟨p, rfl, e, by simp only [blk, hp, Option.bind_some, e, Option.map_some]⟩
  refine ⟨⟨blk⟩, mu, ⟨fun i m e => ?_, fun i j mi mj ei ej hne di dj hro => ?_, fun i m e => ?_⟩, fun i hi => ?_, fun i m e => ?_, fun k p hp => ?_⟩
  · obtain ⟨p, h1, h2, h3⟩ := key i m e
    have := ((h i p h1).blk (μ := mu) h2).1
    show BlkR mu m W.heap (blk i)
    rw [h3]; exact this
  · obtain ⟨p, h1, h2, h3⟩ := key i mi ei
    obtain ⟨q, g1, g2, g3⟩ := key j mj ej
    exact absurd (show roB (blk i) = true ∧ roB (blk j) = true by rw [h3, g3]; exact ⟨rfl, rfl⟩) hro
  · obtain ⟨p, h1, h2, h3⟩ := key i m e
    exact ((h i p h1).blk (μ := mu) h2).2
  · have : l[i]? = none := List.getElem?_eq_none (by omega)
    simp only [mu, this]; rfl
  · obtain ⟨p, h1, h2, h3⟩ := key i m e
    show wrB (blk i) = false
    rw [h3]; rfl
  · have hk : k < l.length := (List.getElem?_eq_some_iff.1 hp).1
    refine ⟨(h k p hp).sl (by omega) (fun m hm => ?_), (h k p hp).vr (fun m hm => ?_), (h k p hp).slx (fun m hm => ?_)⟩
    · show blk k = _
      simp only [blk, hp, Option.bind_some, hm, Option.map_some]
    · simp only [mu, hp, Option.bind_some, hm]
    · show blk k = _
      simp only [blk, hp, Option.bind_some, hm, Option.map_some]
end Go.Ab

namespace Go.Proofs.Ytcnndelmnobigaa
open Go.ChangeShapes Go.WideShapes Go.ChangeAt Go.RowKit
open Go Go.Ab Go.Proofs
set_option linter.unusedVariables false
set_option maxRecDepth 100000
theorem Try.own : ownKnob Try.prog.godebug = none := by kernel_rfl
theorem Try.laidOut : laidOutB Try.prog = true := by kernel_rfl
theorem flatInt : FlatT P 3 1 := FlatT.int Try.underlying3 (by kernel_rfl)
theorem flatPerm : FlatT P 39 4 := FlatT.array (n := 4) (z := 1) Try.underlying39 flatInt (by kernel_rfl)
theorem flatFace : FlatT P 41 5 := FlatT.struct2 (z0 := 1) (z1 := 4) Try.underlying41 flatInt flatPerm rfl rfl (by kernel_rfl)
theorem flatRow : FlatT P 42 20 := FlatT.array (n := 4) (z := 5) Try.underlying42 flatFace (by kernel_rfl)
theorem open_gluing {H : Type} {enc : TypeId × Value → H} {W : World} {base : Nat} {v : Value} {d : DataW H} {ps : List MemPlace} (hval : Value.okWide P W .any base 24 v) (hd : DataW.Trod enc P W 0 (fun _ => true) true 24 v d ps) :
    ∃ s n Gl, v = .agg #[s] ∧ OpenS W s 20 n Gl :=
  open_s1 Try.underlying24 (by kernel_rfl) (by kernel_rfl) Try.underlying22 rfl rfl (by kernel_rfl) flatRow (by omega) hval hd
theorem law_calls {f : FuncId} {W : World} {A : FH} {μ : Mu} {xs ys : List Value} (hR : R μ A W) (hf : Fresh μ 1) (hro : ∀ i m, μ i = some m → wrB (HeapC.get A i) = false) (hv : VRs μ xs ys) (h : Ans (G (.fn f) xs A 1 []) fun x => x.e = .ret ∧ x.vs = [.bool true]) :
    Calls P f ys.toArray W (LawEnd W) := by
  obtain ⟨x, hx, he, hvs⟩ := h
  refine (runG_calls bk_ok ext_ok mixed hx hv hR hf).mono ?_
  rintro en w' ⟨u, v', μ', h1, h2, h3, hE⟩
  rw [hvs] at h1
  cases h1
  exact ⟨by rw [h2, h3.bool_left], hE.os, hE.tape, hE.output, hE.size, fun k hk => hE.fr k hk (fun i m e hw => by rw [hro i m e] at hw; cases hw)⟩
end Go.Proofs.Ytcnndelmnobigaa
