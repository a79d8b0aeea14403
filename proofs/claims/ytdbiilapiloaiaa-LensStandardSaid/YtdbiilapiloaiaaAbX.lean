/- A part of the claim's proof: AbX. Conditions: none. -/
import Derived.Test.YtdbiilapiloaiaaAbGc
import Derived.Test.YtdbiilapiloaiaaAbEval
/-! Running with some calls answered by heart, over any heap. -/
set_option linter.all false
namespace Go.Ab
open Go
set_option linter.unusedVariables false
set_option linter.unusedSimpArgs false
set_option linter.unusedSectionVars false

variable {H : Type} [HeapC H] {P : Program}

/-- What a table of calls is good for, over any heap. -/
def FnOKX (P : Program) (oc : Fo H) : Prop :=
  ∀ (f : FuncId) (args : List Value) (A : H) (c : Nat) (r : Rt H), oc f args A c = some r →
    (∀ as w, (callFunc f as).run P w = .ok (.enter f as) w) ∧
    ∀ (μ : Mu) (w : World) (args' : List Value), VRs μ args args' → R μ A w → Fresh μ c → Calls P f args'.toArray w (CallR μ A c w r)

def answerX (P : Program) (bk : FuncId → Option AFun) (ext : Fo H) (o : Orc H) : Orc H
  | .fn f, args, h, c, df =>
    match ext f args h c with
    | some r => some r
    | none => answer P bk o (.fn f) args h c df
  | k, vs, h, c, df => answer P bk o k vs h c df

theorem OS.stepX {bk : FuncId → Option AFun} {ext : Fo H} (hbk : BookOK P bk) (hext : FnOKX P ext) {o : Orc H} {k : Nat} (hO : OS P o) (hL : LoopOK P o k) (hmix : P.follows .mixedOrders = true) : OS P (answerX P bk ext o) where
  fn := by
    intro f args A c df r e
    simp only [answerX] at e
    cases he : ext f args A c with
    | some q =>
      rw [he] at e
      cases e
      exact hext f args A c _ he
    | none =>
      rw [he] at e
      exact (OS.step hbk hO hL hmix).fn f args A c df r e
  rnd := by
    intro nt lin fr params l x y vs A c df r e μ w ts m ro n f hm ht hR hf
    exact (OS.step hbk hO hL hmix).rnd nt lin fr params l x y vs A c df r e μ w ts m ro n f hm ht hR hf

theorem LoopOK.stepX {bk : FuncId → Option AFun} {ext : Fo H} {o : Orc H} {k : Nat} (hO : OS P o) (hL : LoopOK P o k) (hmix : P.follows .mixedOrders = true) : LoopOK P (answerX P bk ext o) (k + 1) :=
  fun j lin fr b nt rd vs A c df r e => LoopOK.step (bk := bk) hO hL hmix j lin fr b nt rd vs A c df r e

def orcX (P : Program) (bk : FuncId → Option AFun) (ext : Fo H) : Nat → Orc H
  | 0 => fun _ _ _ _ _ => none
  | n + 1 => answerX P bk ext (orcX P bk ext n)

theorem orcX_ok {bk : FuncId → Option AFun} {ext : Fo H} (hbk : BookOK P bk) (hext : FnOKX P ext) (hmix : P.follows .mixedOrders = true) : ∀ n, OS P (orcX P bk ext n) ∧ LoopOK P (orcX P bk ext n) n
  | 0 => ⟨⟨(fun _ _ _ _ _ _ e => by cases e), (fun _ _ _ _ _ _ _ _ _ _ _ _ e => by cases e)⟩, fun _ _ _ _ _ _ _ _ _ _ _ e => by cases e⟩
  | n + 1 => ⟨OS.stepX hbk hext (orcX_ok hbk hext hmix n).1 (orcX_ok hbk hext hmix n).2 hmix, LoopOK.stepX (orcX_ok hbk hext hmix n).1 (orcX_ok hbk hext hmix n).2 hmix⟩

theorem answerX_ev {bk : FuncId → Option AFun} {ext : Fo H} {ox : Orc H} {os : Nat → Orc H} (hF : Fam ox os) : Fam (answerX P bk ext ox) (fun n => answerX P bk ext (os n)) := by
  intro k args h c df r e
  cases k with
  | fn f =>
    simp only [answerX] at e ⊢
    cases he : ext f args h c with
    | some q => rw [he] at e; exact Ev.const e
    | none => rw [he] at e; exact answer_ev hF _ _ _ _ _ _ e
  | rnd nt lin fr params l a b => exact answer_ev (P := P) (bk := bk) hF (.rnd nt lin fr params l a b) args h c df r e
  | lp j lin fr b nt rd => exact answer_ev (P := P) (bk := bk) hF (.lp j lin fr b nt rd) args h c df r e

theorem orcX_succ_le {bk : FuncId → Option AFun} {ext : Fo H} : ∀ n k args (h : H) c df r, orcX P bk ext n k args h c df = some r → orcX P bk ext (n + 1) k args h c df = some r
  | 0, k, args, h, c, df, r, e => by cases e
  | n + 1, k, args, h, c, df, r, e => by
    have hF : Fam (orcX P bk ext n) (fun _ => orcX P bk ext (n + 1)) := fun k args h c df r e => Ev.const (orcX_succ_le n k args h c df r e)
    obtain ⟨m, hm⟩ := answerX_ev hF k args h c df r e
    exact hm m (Nat.le_refl _)

theorem orcX_le {bk : FuncId → Option AFun} {ext : Fo H} {n m : Nat} (hnm : n ≤ m) {k : Key} {args : List Value} {h : H} {c : Nat} {df : List Nat} {r : Rt H} (e : orcX P bk ext n k args h c df = some r) : orcX P bk ext m k args h c df = some r := by
  induction hnm with
  | refl => exact e
  | step _ ih => exact orcX_succ_le _ _ _ _ _ _ _ ih

open Classical in
noncomputable def runX (P : Program) (bk : FuncId → Option AFun) (ext : Fo H) : Orc H := fun k args h c df =>
  if hx : ∃ n r, orcX P bk ext n k args h c df = some r then orcX P bk ext (Classical.choose hx) k args h c df else none

theorem runX_of {bk : FuncId → Option AFun} {ext : Fo H} {n : Nat} {k : Key} {args : List Value} {h : H} {c : Nat} {df : List Nat} {r : Rt H} (e : orcX P bk ext n k args h c df = some r) : runX P bk ext k args h c df = some r := by
  have hx : ∃ n r, orcX P bk ext n k args h c df = some r := ⟨n, r, e⟩
  unfold runX
  rw [dif_pos hx]
  obtain ⟨r', h'⟩ := Classical.choose_spec hx
  have h1 := orcX_le (Nat.le_max_left (Classical.choose hx) n) h'
  have h2 := orcX_le (Nat.le_max_right (Classical.choose hx) n) e
  rw [h1] at h2
  rw [h', h2]

theorem runX_some {bk : FuncId → Option AFun} {ext : Fo H} {k : Key} {args : List Value} {h : H} {c : Nat} {df : List Nat} {r : Rt H} (e : runX P bk ext k args h c df = some r) : ∃ n, orcX P bk ext n k args h c df = some r := by
  unfold runX at e
  split at e
  · exact ⟨_, e⟩
  · cases e

theorem runX_fam {bk : FuncId → Option AFun} {ext : Fo H} : Fam (runX P bk ext) (orcX P bk ext) := by
  intro k args h c df r e
  obtain ⟨n, hn⟩ := runX_some e
  exact ⟨n, fun m hm => orcX_le hm hn⟩

theorem runX_step {bk : FuncId → Option AFun} {ext : Fo H} {k : Key} {args : List Value} {h : H} {c : Nat} {df : List Nat} {r : Rt H} (e : answerX P bk ext (runX P bk ext) k args h c df = some r) : runX P bk ext k args h c df = some r := by
  obtain ⟨n, hn⟩ := answerX_ev (runX_fam (P := P) (bk := bk) (ext := ext)) k args h c df r e
  exact runX_of (n := n + 1) (hn n (Nat.le_refl _))

theorem orcX_lp_length {bk : FuncId → Option AFun} {ext : Fo H} : ∀ n j lin fr b nt rd vs (h : H) c df r, orcX P bk ext n (.lp j lin fr b nt rd) vs h c df = some r → r.vs.length = lin.length
  | 0, _, _, _, _, _, _, _, _, _, _, _, e => by cases e
  | n + 1, j, lin, fr, b, nt, rd, vs, h, c, df, r, e => by
    simp only [orcX, answerX, answer, Option.bind_eq_some_iff] at e
    obtain ⟨q, hq, ws, hw, e⟩ := e
    cases hq1 : q.1 with
    | normal => rw [hq1] at e; exact orcX_lp_length n j lin fr b nt rd _ _ _ _ r e
    | exit id => rw [hq1] at e; cases e; exact vals_length hw
    | ret => rw [hq1] at e; cases e; exact vals_length hw

theorem runX_olen {bk : FuncId → Option AFun} {ext : Fo H} : OLen (runX P bk ext) := fun _ _ _ _ _ _ _ _ _ _ _ e => by
  obtain ⟨n, hn⟩ := runX_some e
  exact orcX_lp_length _ _ _ _ _ _ _ _ _ _ _ _ hn

/-- **What is answered is what the call does.** -/
theorem runX_calls {bk : FuncId → Option AFun} {ext : Fo H} (hbk : BookOK P bk) (hext : FnOKX P ext) (hmix : P.follows .mixedOrders = true) {f : FuncId} {args args' : List Value} {A : H} {c : Nat} {r : Rt H} (e : runX P bk ext (.fn f) args A c [] = some r) {μ : Mu} {w : World}
    (hv : VRs μ args args') (hR : R μ A w) (hfr : Fresh μ c) : Calls P f args'.toArray w (CallR μ A c w r) := by
  obtain ⟨n, hn⟩ := runX_some e
  exact ((orcX_ok hbk hext hmix n).1.fn f args A c [] r hn).2 μ w args' hv hR hfr

theorem runX_fn {bk : FuncId → Option AFun} {ext : Fo H} {f : FuncId} {a : AFun} (ha : bk f = some a) (hfr : a.fr = []) {args : List Value} {h : H} {c : Nat} (hxt : ext f args h c = none) {df : List Nat} {r : Rt H} (hlen : Nat.ble args.length a.nt = true)
    (e : jx P (runX P bk ext) a.nt none a.code (tmOf (List.range args.length) args) h c [] (Kfn P a.res) = some r) : runX P bk ext (.fn f) args h c df = some r := by
  refine runX_step ?_
  obtain ⟨e1, tm1, tm1', h1, c1, df1, hx, hl, hk⟩ := jx_sound runX_olen e (Tm.le_refl _)
  simp only [answerX, hxt, answer, ha, Option.bind_some, hlen, cond_true, hx, hfr, dropBs]
  cases e1 with
  | exit id => cases hk
  | normal =>
    simp only [Kfn, resK_eq, Option.bind_eq_some_iff] at hk ⊢
    obtain ⟨h2, ht, vs, hv, hk⟩ := hk
    exact ⟨h2, ht, vs, resOf_le hl hv, hk⟩
  | ret =>
    simp only [Kfn, resK_eq, Option.bind_eq_some_iff] at hk ⊢
    obtain ⟨h2, ht, vs, hv, hk⟩ := hk
    exact ⟨h2, ht, vs, resOf_le hl hv, hk⟩

theorem runX_lp_next {bk : FuncId → Option AFun} {ext : Fo H} {j nt : Nat} {lin : List Nat} {b : ACode} {rd : Option Nat} {vs : List Value} {h : H} {c : Nat} {df : List Nat} {q r : Rt H}
    (e : jx P (runX P bk ext) nt rd b (tmOf lin vs) h c df (Klp lin) = some q) (hq : q.e = .normal) (k : runX P bk ext (.lp j lin [] b nt rd) q.vs q.h q.c q.df = some r) : runX P bk ext (.lp j lin [] b nt rd) vs h c df = some r := by
  refine runX_step ?_
  obtain ⟨e1, tm1, tm1', h1, c1, df1, hx, hl, hk⟩ := jx_sound runX_olen e (Tm.le_refl _)
  simp only [Klp, Option.bind_eq_some_iff] at hk
  obtain ⟨ws, hw, hk⟩ := hk
  cases hk
  simp only at hq
  subst hq
  simp only [answerX, answer, hx, Option.bind_some, vals_le hl hw, dropBs]
  exact k

theorem runX_lp_last {bk : FuncId → Option AFun} {ext : Fo H} {j nt : Nat} {lin : List Nat} {b : ACode} {rd : Option Nat} {vs : List Value} {h : H} {c : Nat} {df : List Nat} {q : Rt H}
    (e : jx P (runX P bk ext) nt rd b (tmOf lin vs) h c df (Klp lin) = some q) (hq : q.e ≠ .normal) : runX P bk ext (.lp j lin [] b nt rd) vs h c df = some q := by
  refine runX_step ?_
  obtain ⟨e1, tm1, tm1', h1, c1, df1, hx, hl, hk⟩ := jx_sound runX_olen e (Tm.le_refl _)
  simp only [Klp, Option.bind_eq_some_iff] at hk
  obtain ⟨ws, hw, hk⟩ := hk
  cases hk
  simp only at hq
  simp only [answerX, answer, hx, Option.bind_some, vals_le hl hw, dropBs]

theorem runX_rnd {bk : FuncId → Option AFun} {ext : Fo H} {nt l : Nat} {lin params : List Nat} {a b : ACode} {vs : List Value} {h : H} {c : Nat} {df : List Nat} {r : Rt H}
    (e : jx P (runX P bk ext) nt (some l) a (tmOf (params ++ lin) vs) h c [] (fun e tm h c df => match e with
      | .normal => (beginSt h l).bind fun h1 => jx P (runX P bk ext) nt (some l) b tm h1 c df (Krd l)
      | .exit _ => none
      | .ret => none) = some r) : runX P bk ext (.rnd nt lin [] params l a b) vs h c df = some r := by
  refine runX_step ?_
  obtain ⟨e1, tm1, tm1', h1, c1, df1, hx, hl, hk⟩ := jx_sound runX_olen e (Tm.le_refl _)
  cases e1 with
  | exit id => cases hk
  | ret => cases hk
  | normal =>
    simp only [Option.bind_eq_some_iff] at hk
    obtain ⟨h2, hb, hk⟩ := hk
    obtain ⟨e3, tm3, tm3', h3, c3, df3, hx3, hl3, hk3⟩ := jx_sound runX_olen hk hl
    simp only [answerX, answer, hx, Option.bind_some, hb, hx3, dropBs]
    exact hk3

theorem runX_ext {bk : FuncId → Option AFun} {ext : Fo H} {f : FuncId} {args : List Value} {h : H} {c : Nat} {df : List Nat} {r : Rt H} (e : ext f args h c = some r) : runX P bk ext (.fn f) args h c df = some r := by
  refine runX_step ?_
  simp only [answerX, e]

/-- a table of functions, some of them answered by heart -/
structure TabX (P : Program) (bk : FuncId → Option AFun) (K : LB) (ext : Fo H) (T : Tab H) : Prop where
  F : ∀ f F, T.F f = some F → ((∀ args h c, ext f args h c = none) ∧ FE P bk K f F) ∨ (∀ o args h c r, F o args h c = some r → ext f args h c = some r ∧ r.h = h)
  L : ∀ j B, T.L j = some B → LE P K j B
  R : ∀ nt ps D, T.R nt ps = some D → RE P K nt ps D

theorem evX_good {bk : FuncId → Option AFun} {K : LB} {ext : Fo H} {T : Tab H} (hT : TabX P bk K ext T) : ∀ n, GoodO K (evT T n) (runX P bk ext)
  | 0 => fun _ _ _ _ _ _ _ _ e => by cases e
  | n + 1 => by
    have ih := evX_good hT n
    intro key args h c df r hk hi e
    cases key with
    | fn f =>
      simp only [evT_succ, Option.bind_eq_some_iff] at e
      obtain ⟨F, hF, e⟩ := e
      rcases hT.F f F hF with ⟨hx, a, ha, hfr, hok, h1⟩ | h1
      · obtain ⟨hlen, h2⟩ := h1 _ _ _ _ _ e
        obtain ⟨e1, tm1, h3, c1, df1, h4, h5, h6⟩ := jx_good ih hok hi h2
        exact ⟨runX_fn ha hfr (hx _ _ _) hlen (by rw [h6]; exact h4), Kfn_inv h5 h4⟩
      · obtain ⟨h2, h3⟩ := h1 _ _ _ _ _ e
        exact ⟨runX_ext h2, by rw [h3]; exact hi⟩
    | lp j lin fr b nt rd =>
      obtain ⟨rfl, hkl⟩ := hk
      simp only [evT_succ, Option.bind_eq_some_iff] at e
      obtain ⟨B, hB, q, hq, e⟩ := e
      obtain ⟨hok, h1⟩ := hT.L j B hB lin b nt hkl
      have h2 := h1 _ _ _ _ _ _ _ hq
      obtain ⟨e1, tm1, h3, c1, df1, h4, h5, h6⟩ := jx_good ih hok hi h2
      have h7 : jx P (runX P bk ext) nt rd b (tmOf lin args) h c df (Klp lin) = some q := by rw [h6]; exact h4
      have hqe : q.e = e1 ∧ InvL K q.h := by
        simp only [Klp, Option.bind_eq_some_iff] at h4
        obtain ⟨ws, _, h4⟩ := h4
        cases h4
        exact ⟨rfl, h5⟩
      cases hx : q.e with
      | normal =>
        rw [hx] at e
        obtain ⟨h8, h9⟩ := ih (.lp j lin [] b nt rd) _ _ _ _ _ ⟨rfl, hkl⟩ hqe.2 e
        exact ⟨runX_lp_next h7 hx h8, h9⟩
      | exit i =>
        rw [hx] at e
        have : r = q := by obtain ⟨qe, qv, qh, qc, qd⟩ := q; simp only at hx; subst hx; cases e; rfl
        subst this
        exact ⟨runX_lp_last h7 (by rw [hx]; simp), hqe.2⟩
      | ret =>
        rw [hx] at e
        have : r = q := by obtain ⟨qe, qv, qh, qc, qd⟩ := q; simp only at hx; subst hx; cases e; rfl
        subst this
        exact ⟨runX_lp_last h7 (by rw [hx]; simp), hqe.2⟩
    | rnd nt lin fr params l a b =>
      obtain ⟨rfl, hkr⟩ := hk
      simp only [evT_succ, Option.bind_eq_some_iff] at e
      obtain ⟨D, hD, e⟩ := e
      obtain ⟨hoa, hob, h1⟩ := hT.R nt params D hD lin a b hkr
      have h2 := h1 _ _ _ _ _ _ e
      obtain ⟨e1, tm1, h3, c1, df1, h4, h5, h6⟩ := jx_good ih hoa hi h2
      cases e1 with
      | exit i => cases h4
      | ret => cases h4
      | normal =>
        simp only [rndK, Option.bind_eq_some_iff] at h4
        obtain ⟨h7, hb, h8⟩ := h4
        obtain ⟨e2, tm2, h9, c2, df2, h10, h11, h12⟩ := jx_good ih hob (beginSt_inv h5 hb) h8
        refine ⟨runX_rnd (by rw [h6]; simp only [hb, Option.bind_some]; rw [h12]; exact h10), ?_⟩
        simp only [Krd, Option.bind_eq_some_iff] at h10
        obtain ⟨h13, hs, h14⟩ := h10
        obtain ⟨_, h14⟩ := cond_some h14
        cases h14
        exact setState_inv h11 hs

/-- values without pointers -/
def Plain : Value → Value → Prop := fun v v' => v' = v ∧ ∀ μ, VR μ v v

/-- a call whose arguments hold no pointers, and whose answer holds none, found on any heap, answers anywhere -/
theorem plain_ok {H' : Type} [HeapC H'] {f : FuncId} {args args0 : List Value} {v : Value} {A0 : H'} {r0 : Rt H'} (hv : r0.vs = [v])
    (hargs : ∀ (μ : Mu) (args' : List Value), VRs μ args args' → VRs (fun _ => none) args args') (hres : ∀ (μ μ' : Mu) (v' : Value), VR μ v v' → VR μ' v v')
    (e : ∀ (μ : Mu) (w : World) (args' : List Value), VRs μ args args' → R μ A0 w → Fresh μ 0 → Calls P f args'.toArray w (CallR μ A0 0 w r0))
    (A : H) (c : Nat) (μ : Mu) (w : World) (args' : List Value) (ha : VRs μ args args') (hR : R μ A w) (hf : Fresh μ c) : Calls P f args'.toArray w (CallR μ A c w { e := .ret, vs := [v], h := A, c := c, df := [] }) := by
  have h0 : R (fun _ => none : Mu) A0 w := ⟨(fun i m e => by cases e), (fun i j mi mj ei => by cases ei), (fun i m e => by cases e)⟩
  refine (e _ w args' (hargs μ args' ha) h0 (fun i hi => rfl)).mono ?_
  rintro en w' ⟨u, v', μ', h1, h2, h3, hE⟩
  rw [hv] at h1
  cases h1
  have hfr : ∀ b, b < w.heap.size → w'.heap[b]? = w.heap[b]? := fun b hb => hE.fr b hb (fun i m e => (by cases e))
  refine ⟨_, v', μ, rfl, h2, hres μ' μ v' h3, ?_⟩
  refine { mu := fun i m e => e, new := fun i e0 e1 => absurd e0 e1, cle := Nat.le_refl _, rel := ?_, af := fun i e0 hi _ => rfl, os := hE.os, tape := hE.tape, output := hE.output, size := hE.size, fr := fun b hb _ => hfr b hb, wrm := fun i m e hw => hw, newb := fun i m e0 e1 => (by rw [e0] at e1; cases e1), dd := fun i m e hd => hd }
  refine ⟨fun i m em => ?_, hR.inj, fun i m em => Nat.lt_of_lt_of_le (hR.lt i m em) hE.size⟩
  have hb := hR.blk i m em
  have hl := hR.lt i m em
  unfold BlkR at hb ⊢
  rw [hfr m.b hl]
  exact hb

end Go.Ab
