/- A part of the claim's proof: AbEv. Conditions: none. -/
import Derived.Test.YtdbiilapiloaiaaAbGen
/-! The abstract machine without fuel. -/
set_option linter.all false
namespace Go.Ab
open Go
set_option linter.unusedVariables false
set_option linter.unusedSimpArgs false

variable {H : Type} [HeapC H] {P : Program}

/-- from some fuel on -/
def Ev {α : Type} (xs : Nat → Option α) (r : α) : Prop := ∃ n, ∀ m, n ≤ m → xs m = some r

theorem Ev.const {α : Type} {x : Option α} {r : α} (h : x = some r) : Ev (fun _ => x) r := ⟨0, fun _ _ => h⟩

theorem Ev.bind {α β : Type} {xs : Nat → Option α} {a : α} {fs : Nat → α → Option β} {b : β} (h : Ev xs a) (k : Ev (fun n => fs n a) b) : Ev (fun n => (xs n).bind (fs n)) b := by
  obtain ⟨n, hn⟩ := h
  obtain ⟨m, hm⟩ := k
  exact ⟨n + m, fun q hq => by simp only [hn q (by omega), Option.bind_some]; exact hm q (by omega)⟩

theorem Ev.bindc {α β : Type} {x : Option α} {a : α} {fs : Nat → α → Option β} {b : β} (h : x = some a) (k : Ev (fun n => fs n a) b) : Ev (fun n => x.bind (fs n)) b := Ev.bind (Ev.const h) k

theorem Ev.cond {α : Type} {t : Bool} {xs ys : Nat → Option α} {r : α} (h : t = true → Ev xs r) (k : t = false → Ev ys r) : Ev (fun n => cond t (xs n) (ys n)) r := by
  cases t with
  | true => exact h rfl
  | false => exact k rfl

theorem Ev.congr {α : Type} {xs ys : Nat → Option α} {r : α} (e : ∀ n, xs n = ys n) (h : Ev xs r) : Ev ys r := by
  obtain ⟨n, hn⟩ := h
  exact ⟨n, fun m hm => by rw [← e]; exact hn m hm⟩

/-- what ox answers, the family answers from some point on -/
def Fam (ox : Orc H) (os : Nat → Orc H) : Prop := ∀ k args h c df r, ox k args h c df = some r → Ev (fun n => os n k args h c df) r

section
variable {ox : Orc H} {os : Nat → Orc H}

theorem callV_ev (hF : Fam ox os) {h : H} {c : Nat} {fv : Value} {args : List Value} {r : Value × H × Nat} (e : callV ox h c fv args = some r) : Ev (fun n => callV (os n) h c fv args) r := by
  cases fv with
  | func f first cap =>
    cases f with
    | func g =>
      simp only [callV, Option.bind_eq_some_iff] at e ⊢
      obtain ⟨q, hq, e⟩ := e
      exact Ev.bind (hF _ _ _ _ _ _ hq) (Ev.const e)
    | yield l =>
      simp only [callV] at e ⊢
      refine Ev.cond (fun h0 => ?_) (fun h0 => by rw [h0] at e; cases e)
      rw [h0] at e
      simp only [cond_true] at e
      split at e
      · rename_i st hg
        refine Ev.cond (fun h1 => ?_) (fun h1 => by rw [h1] at e; cases e)
        rw [h1] at e
        simp only [cond_true, Option.bind_eq_some_iff] at e
        obtain ⟨q, hq, e⟩ := e
        exact Ev.bind (hF _ _ _ _ _ _ hq) (Ev.const e)
      · cases e
    | _ => simp [callV] at e
  | _ => simp [callV] at e

theorem doOp_ev (hF : Fam ox os) {id : Nat} {tm : Tm} {h : H} {c : Nat} {op : Op} {r : Value × H × Nat} (e : doOp P ox id tm h c op = some r) : Ev (fun n => doOp P (os n) id tm h c op) r := by
  cases op with
  | call k =>
    simp only [doOp, Option.bind_eq_some_iff] at e ⊢
    obtain ⟨args, ha, e⟩ := e
    refine Ev.bindc ha ?_
    cases hk : k.callee with
    | value f =>
      rw [hk] at e
      simp only [Option.bind_eq_some_iff] at e
      obtain ⟨fv, hf, e⟩ := e
      exact Ev.bindc hf (callV_ev hF e)
    | builtin b => rw [hk] at e; exact Ev.const e
    | invoke _ _ => rw [hk] at e; cases e
  | _ => exact Ev.const e

theorem stepOp_ev (hF : Fam ox os) {ops : Array Oper} {base i nt : Nat} {tm : Tm} {h : H} {c : Nat} {op : Oper} {r : Value × H × Nat} (e : stepOp P ox ops base i nt tm h c op = some r) :
    Ev (fun n => stepOp P (os n) ops base i nt tm h c op) r := by
  simp only [stepOp, Option.bind_eq_some_iff] at e ⊢
  obtain ⟨w, hw, e⟩ := e
  refine Ev.bindc hw ?_
  refine Ev.cond (fun h0 => ?_) (fun h0 => by rw [h0] at e; cases e)
  rw [h0] at e
  refine Ev.cond (fun h1 => ?_) (fun h1 => by rw [h1] at e; exact Ev.const e)
  rw [h1] at e
  exact doOp_ev hF e

theorem runOps_ev (hF : Fam ox os) {ops : Array Oper} {base nt : Nat} : ∀ {l : List Oper} {i : Nat} {tm : Tm} {h : H} {c : Nat} {r : Tm × H × Nat}, runOps P ox ops base nt l i tm h c = some r → Ev (fun n => runOps P (os n) ops base nt l i tm h c) r
  | [], i, tm, h, c, r, e => Ev.const e
  | op :: l, i, tm, h, c, r, e => by
    simp only [runOps, Option.bind_eq_some_iff] at e ⊢
    obtain ⟨q, hq, e⟩ := e
    exact Ev.bind (stepOp_ev hF hq) (runOps_ev hF e)

theorem runOpsT_ev (hF : Fam ox os) {ops : Array Oper} {base nt : Nat} : ∀ {l : List Oper} {i : Nat} {tm : Tm} {h : H} {c : Nat} {r : Tm × H × Nat × List (Option Nat × H)},
    runOpsT P ox ops base nt l i tm h c = some r → Ev (fun n => runOpsT P (os n) ops base nt l i tm h c) r
  | [], i, tm, h, c, r, e => Ev.const e
  | op :: l, i, tm, h, c, r, e => by
    simp only [runOpsT, Option.bind_eq_some_iff] at e ⊢
    obtain ⟨q, hq, q2, hq2, e⟩ := e
    exact Ev.bind (stepOp_ev hF hq) (Ev.bind (runOpsT_ev hF hq2) (Ev.const e))

theorem runReg_ev (hF : Fam ox os) {ops : Array Oper} {draw : Bool} {nt : Nat} {tm : Tm} {h : H} {c : Nat} {r : Tm × H × Nat} (e : runReg P ox ops draw nt tm h c = some r) : Ev (fun n => runReg P (os n) ops draw nt tm h c) r := by
  simp only [runReg] at e ⊢
  refine Ev.cond (fun h0 => ?_) (fun h0 => by rw [h0] at e; exact runOps_ev hF e)
  rw [h0] at e
  refine Ev.cond (fun h1 => ?_) (fun h1 => by rw [h1] at e; cases e)
  rw [h1] at e
  refine Ev.cond (fun h2 => by rw [h2] at e; exact runOps_ev hF e) (fun h2 => ?_)
  rw [h2] at e
  simp only [cond_true, cond_false, Option.bind_eq_some_iff] at e
  obtain ⟨q, hq, e⟩ := e
  exact Ev.bind (runOpsT_ev hF hq) (Ev.const e)

theorem exec_ev (hF : Fam ox os) : ∀ {code : ACode} {s : St H} {r : Ex × St H}, exec P ox code s = some r → Ev (fun n => exec P (os n) code s) r := by
  intro code
  induction code with
  | region id ops d =>
    intro s r e
    simp only [exec, Option.bind_eq_some_iff] at e ⊢
    obtain ⟨q, hq, e⟩ := e
    exact Ev.bind (runReg_ev hF hq) (Ev.const e)
  | seq a b iha ihb =>
    intro s r e
    simp only [exec, Option.bind_eq_some_iff] at e ⊢
    obtain ⟨⟨e2, s2⟩, h1, e⟩ := e
    refine Ev.bind (iha h1) ?_
    cases e2 with
    | normal => exact ihb e
    | exit id => exact Ev.const e
    | ret => exact Ev.const e
  | cond c a b iha ihb =>
    intro s r e
    simp only [exec, Option.bind_eq_some_iff] at e ⊢
    obtain ⟨v, hv, e⟩ := e
    refine Ev.bindc hv ?_
    cases v with
    | bool t =>
      cases t
      · exact ihb e
      · exact iha e
    | _ => cases e
  | block id b ih =>
    intro s r e
    simp only [exec, Option.bind_eq_some_iff] at e ⊢
    obtain ⟨q, hq, e⟩ := e
    exact Ev.bind (ih hq) (Ev.const e)
  | loop j lin fr outs b _ =>
    intro s r e
    simp only [exec, Option.bind_eq_some_iff] at e ⊢
    obtain ⟨vs, hv, q, hq, e⟩ := e
    exact Ev.bindc hv (Ev.bind (hF _ _ _ _ _ _ hq) (Ev.const e))
  | rangeFunc j lin fr outs f ps a b _ _ =>
    intro s r e
    simp only [exec, execRange, Option.bind_eq_some_iff] at e ⊢
    obtain ⟨fv, hf, e⟩ := e
    refine Ev.bindc hf ?_
    cases fv with
    | func fk first cap =>
      cases fk with
      | func g =>
        simp only [Option.bind_eq_some_iff] at e
        obtain ⟨vs, hv, hd, hhd, q, hq, e⟩ := e
        exact Ev.bindc hv (Ev.bindc hhd (Ev.bind (hF _ _ _ _ _ _ hq) (Ev.const e)))
      | _ => cases e
    | _ => cases e
  | join lays a ih => intro s r e; simp only [exec] at e ⊢; exact ih e
  | _ => intro s r e; exact Ev.const e

theorem answer_ev {bk : FuncId → Option AFun} (hF : Fam ox os) : Fam (answer P bk ox) (fun n => answer P bk (os n)) := by
  intro k args h c df r e
  cases k with
  | fn f =>
    simp only [answer, Option.bind_eq_some_iff] at e ⊢
    obtain ⟨a, ha, e⟩ := e
    refine Ev.bindc ha ?_
    refine Ev.cond (fun h0 => ?_) (fun h0 => by rw [h0] at e; cases e)
    rw [h0] at e
    simp only [cond_true, Option.bind_eq_some_iff] at e
    obtain ⟨q, hq, e⟩ := e
    exact Ev.bind (exec_ev hF hq) (Ev.const e)
  | lp j lin fr b nt rd =>
    simp only [answer, Option.bind_eq_some_iff] at e ⊢
    obtain ⟨q, hq, vs, hv, e⟩ := e
    refine Ev.bind (exec_ev hF hq) (Ev.bindc hv ?_)
    cases hq1 : q.1 with
    | normal => rw [hq1] at e; exact hF _ _ _ _ _ _ e
    | exit id => rw [hq1] at e; exact Ev.const e
    | ret => rw [hq1] at e; exact Ev.const e
  | rnd nt lin fr params l a b =>
    simp only [answer, Option.bind_eq_some_iff] at e ⊢
    obtain ⟨q, hq, e⟩ := e
    refine Ev.bind (exec_ev hF hq) ?_
    cases hq1 : q.1 with
    | normal =>
      rw [hq1] at e
      simp only [Option.bind_eq_some_iff] at e
      obtain ⟨h1, hb, q2, hq2, e⟩ := e
      exact Ev.bindc hb (Ev.bind (exec_ev hF hq2) (Ev.const (by simp only [Option.bind_eq_some_iff]; exact e)))
    | exit id => rw [hq1] at e; cases e
    | ret => rw [hq1] at e; cases e
end

theorem orc_succ_le {bk : FuncId → Option AFun} : ∀ n k args (h : H) c df r, orc P bk n k args h c df = some r → orc P bk (n + 1) k args h c df = some r
  | 0, k, args, h, c, df, r, e => by cases e
  | n + 1, k, args, h, c, df, r, e => by
    have hF : Fam (orc (H := H) P bk n) (fun _ => orc P bk (n + 1)) := fun k args h c df r e => Ev.const (orc_succ_le n k args h c df r e)
    obtain ⟨m, hm⟩ := answer_ev hF k args h c df r e
    exact hm m (Nat.le_refl _)

theorem orc_le {bk : FuncId → Option AFun} {n m : Nat} (hnm : n ≤ m) {k : Key} {args : List Value} {h : H} {c : Nat} {df : List Nat} {r : Rt H} (e : orc P bk n k args h c df = some r) : orc P bk m k args h c df = some r := by
  induction hnm with
  | refl => exact e
  | step _ ih => exact orc_succ_le _ _ _ _ _ _ _ ih

open Classical in
/-- what is answered with enough fuel -/
noncomputable def run (P : Program) (bk : FuncId → Option AFun) : Orc H := fun k args h c df =>
  if hx : ∃ n r, orc P bk n k args h c df = some r then orc P bk (Classical.choose hx) k args h c df else none

theorem run_of {bk : FuncId → Option AFun} {n : Nat} {k : Key} {args : List Value} {h : H} {c : Nat} {df : List Nat} {r : Rt H} (e : orc P bk n k args h c df = some r) : run P bk k args h c df = some r := by
  have hx : ∃ n r, orc P bk n k args h c df = some r := ⟨n, r, e⟩
  unfold run
  rw [dif_pos hx]
  obtain ⟨r', h'⟩ := Classical.choose_spec hx
  have h1 := orc_le (Nat.le_max_left (Classical.choose hx) n) h'
  have h2 := orc_le (Nat.le_max_right (Classical.choose hx) n) e
  rw [h1] at h2
  rw [h', h2]

theorem run_some {bk : FuncId → Option AFun} {k : Key} {args : List Value} {h : H} {c : Nat} {df : List Nat} {r : Rt H} (e : run P bk k args h c df = some r) : ∃ n, orc P bk n k args h c df = some r := by
  unfold run at e
  split at e
  · exact ⟨_, e⟩
  · cases e

theorem run_fam {bk : FuncId → Option AFun} : Fam (run (H := H) P bk) (orc P bk) := by
  intro k args h c df r e
  obtain ⟨n, hn⟩ := run_some e
  exact ⟨n, fun m hm => orc_le hm hn⟩

/-- one step of what is answered -/
theorem run_step {bk : FuncId → Option AFun} {k : Key} {args : List Value} {h : H} {c : Nat} {df : List Nat} {r : Rt H} (e : answer P bk (run P bk) k args h c df = some r) : run P bk k args h c df = some r := by
  obtain ⟨n, hn⟩ := answer_ev (run_fam (P := P) (bk := bk)) k args h c df r e
  exact run_of (n := n + 1) (hn n (Nat.le_refl _))

theorem orc_lp_length {bk : FuncId → Option AFun} : ∀ n j lin fr b nt rd vs (h : H) c df r, orc P bk n (.lp j lin fr b nt rd) vs h c df = some r → r.vs.length = lin.length
  | 0, _, _, _, _, _, _, _, _, _, _, _, e => by cases e
  | n + 1, j, lin, fr, b, nt, rd, vs, h, c, df, r, e => by
    simp only [orc, answer, Option.bind_eq_some_iff] at e
    obtain ⟨q, hq, ws, hw, e⟩ := e
    cases hq1 : q.1 with
    | normal => rw [hq1] at e; exact orc_lp_length n j lin fr b nt rd _ _ _ _ r e
    | exit id => rw [hq1] at e; cases e; exact vals_length hw
    | ret => rw [hq1] at e; cases e; exact vals_length hw

theorem run_lp_length {bk : FuncId → Option AFun} {j : Nat} {lin fr : List Nat} {b : ACode} {nt : Nat} {rd : Option Nat} {vs : List Value} {h : H} {c : Nat} {df : List Nat} {r : Rt H} (e : run P bk (.lp j lin fr b nt rd) vs h c df = some r) : r.vs.length = lin.length := by
  obtain ⟨n, hn⟩ := run_some e
  exact orc_lp_length _ _ _ _ _ _ _ _ _ _ _ _ hn

/-- **What is answered is what the call does.** -/
theorem run_calls {bk : FuncId → Option AFun} (hbk : BookOK P bk) (hmix : P.follows .mixedOrders = true) {f : FuncId} {args args' : List Value} {A : H} {c : Nat} {r : Rt H} (e : run P bk (.fn f) args A c [] = some r) {μ : Mu} {w : World}
    (hv : VRs μ args args') (hR : R μ A w) (hfr : Fresh μ c) : Calls P f args'.toArray w (CallR μ A c w r) := by
  obtain ⟨n, hn⟩ := run_some e
  exact orc_calls hbk hmix hn hv hR hfr

end Go.Ab
