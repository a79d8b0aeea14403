/- A part of the claim's proof: AbOrc. Conditions: none. -/
import Derived.Test.YtdbiilapiloaiaaAbExec
/-! Functions, loops and rounds, by the fuel. -/
set_option linter.all false
namespace Go.Ab
open Go
set_option linter.unusedVariables false
set_option linter.unusedSimpArgs false
set_option linter.unusedSectionVars false

variable {H : Type} [HeapC H] {P : Program} {μ : Mu} {A : H} {w : World}

theorem LoopOK.step {bk : FuncId → Option AFun} {o : Orc H} {k : Nat} (hO : OS P o) (hL : LoopOK P o k) (hmix : P.follows .mixedOrders = true) : LoopOK P (answer P bk o) (k + 1) := by
  intro j lin fr b nt rd vs A c df r e μ w a ro n Q ht hR hfr hrd hdf hQ
  simp only [answer, Option.bind_eq_some_iff] at e
  obtain ⟨⟨ex, s1⟩, h1, vs', hvs', e⟩ := e
  have k1 := exec_keeps h1
  refine exec_wp hO hL hmix h1 ht hR hfr hrd hdf fun a1 μ1 w1 ht1 hdf1 hE1 => ?_
  have hdrop := dropBs_ext (c := s1.c) ht1 fr s1.h hE1.rel
  have hE2 := hE1.trans0 hdrop
  have ht2 := ht1.sub (vals_tmOf hvs')
  cases ex with
  | normal =>
    exact hL _ _ _ _ _ _ _ _ _ _ _ e μ1 w1 a1 ro n Q ht2 hE2.rel (hE2.fresh hfr (fun _ h => h.elim)) (hrd.mono hE1.mu) hdf1 (fun a2 μ2 w2 h3 h4 h5 => hQ a2 μ2 w2 h3 h4 (hE2.trans0 h5))
  | exit id => cases e; exact hQ a1 μ1 w1 ht2 hdf1 hE2
  | ret => cases e; exact hQ a1 μ1 w1 ht2 hdf1 hE2

theorem run_callFunc {f : FuncId} {fn : Func} (hf : P.funcs[f]? = some fn) (hn : (fn.name == "runtime.NumGoroutine") = false) {c : Code} (hb : fn.body = some c) (as : Array Value) (w : World) : (callFunc f as).run P w = .ok (.enter f as) w := by
  have hp : (program : Sem Program).run P w = .ok P w := rfl
  simp only [callFunc, Sem.run_bind, hp, Result.andThen_ok, hf, hn, hb]
  rfl

theorem afun_some {an : FuncId → Ann} {f : FuncId} {a : AFun} (e : afun P an f = some a) :
    ∃ fn c, P.funcs[f]? = some fn ∧ fn.body = some c ∧ (fn.name == "runtime.NumGoroutine") = false ∧ strip a.code = c ∧ a.nt = fn.ntmps ∧ a.res = fn.results.toList ∧ a.fr = (an f).fr := by
  simp only [afun, Option.bind_eq_some_iff] at e
  obtain ⟨fn, hf, c, hc, e⟩ := e
  cases hn : fn.name == "runtime.NumGoroutine" with
  | true => rw [hn] at e; cases e
  | false =>
    rw [hn] at e
    simp only [cond_false, Option.some.injEq] at e
    subst e
    exact ⟨fn, c, hf, hc, hn, strip_annot _ _ _, rfl, rfl, rfl⟩

theorem tmOf_range : ∀ (args : List Value) (k t : Nat) (v : Value), tmOf (List.range' k args.length) args t = some v → k ≤ t ∧ args[t - k]? = some v
  | [], k, t, v, h => by simp [tmOf] at h
  | x :: xs, k, t, v, h => by
    simp only [List.length_cons, List.range'_succ, tmOf] at h
    cases hb : Nat.beq t k with
    | true =>
      rw [hb] at h
      have := Nat.eq_of_beq_eq_true hb
      subst this
      exact ⟨Nat.le_refl _, by simpa using h⟩
    | false =>
      rw [hb] at h
      obtain ⟨h1, h2⟩ := tmOf_range xs (k + 1) t v h
      refine ⟨by omega, ?_⟩
      have : t - k = (t - (k + 1)) + 1 := by omega
      rw [this]; simpa using h2

theorem args_TmR {args args' : List Value} (h : VRs μ args args') {nt : Nat} (hl : args.length ≤ nt) : TmR μ (tmOf (List.range args.length) args) nt (args'.toArray ++ Array.replicate (nt - args'.toArray.size) undef) := by
  have hlen := h.1
  refine ⟨by simp; omega, fun t v e => ?_⟩
  rw [List.range_eq_range'] at e
  obtain ⟨_, h2⟩ := tmOf_range args 0 t v e
  simp only [Nat.sub_zero] at h2
  obtain ⟨y, h3, h4⟩ := h.get h2
  have hlt : t < args'.length := (List.getElem?_eq_some_iff.1 h3).1
  refine ⟨y, ?_, h4⟩
  rw [Array.getElem?_append_left (by simpa using hlt)]
  simpa using h3

theorem run_takeDeferred {b : Nat} (h : w.heap[b]? = some (.deferred (some []))) : (Instr.takeDeferred b).run P w = .ok [] { w with heap := w.heap.setIfInBounds b (.deferred none) } := by
  simp [Instr.takeDeferred, getObj, setObj, Sem.run, h, Sem.run_bind]

theorem takeAll_sim {c : Nat} {fn : Func} {tmps : Array Value} {Rq : Ending → World → Prop} {n : Nat} : ∀ (df : List Nat) (ds : List Deferred) (A : H) (w : World) (A' : H), DfR μ df ds → R μ A w → takeAll A df = some A' →
    (∀ w', Ext μ A c w (fun _ => False) μ A' c w' → LeavesIn Fence.wide n P fn tmps Rq [] .returning w') → LeavesInM Fence.wide n P fn tmps Rq ds .returning w
  | _, _, A, w, A', .nil, hR, e, h => by
    simp only [takeAll, Option.some.injEq] at e
    subst e
    exact h w (Ext.refl hR)
  | _, _, A, w, A', .cons (i := i) (m := m) (ds := ds) (es := es) hm ht hs, hR, e, h => by
    simp only [takeAll] at e
    split at e
    · rename_i hg
      have hb := hR.blk i m hm
      rw [hg] at hb
      have hE : Ext μ A c w (fun _ => False) μ (HeapC.del A i) c { w with heap := w.heap.setIfInBounds m.b (.deferred none) } :=
        Ext.del hR hm (by rw [hg]; rfl) rfl rfl rfl (by simp) (fun b hbb => by simp only; rw [Array.getElem?_setIfInBounds_ne (Ne.symm hbb)])
      refine ⟨by simp, .inl ⟨m.b, _, ht, run_takeDeferred hb, ?_⟩⟩
      exact takeAll_sim ds es _ _ A' hs hE.rel e (fun w' hE' => h w' (hE.trans0 hE'))
    · cases e

theorem aLoad_var (hR : R μ A w) {t : TypeId} {p p' v : Value} (e : aLoad P A t p = some v) (hp : VR μ p p') : ∃ a v', (asAddr p' : Sem Addr).run P w = .ok a w ∧ (loadVar t a).run P w = .ok v' w ∧ VR μ v v' := by
  obtain ⟨v', h1, h2⟩ := aLoad_sim (P := P) hR e hp
  have : ∃ i o, p = .pointer (some ⟨i, o, none⟩) := by
    simp only [aLoad, Option.bind_eq_some_iff] at e
    obtain ⟨b, hb, e⟩ := e
    cases b with
    | true =>
      simp only [cond_true, Option.bind_eq_some_iff, ldN] at e
      obtain ⟨n, hn, ⟨i, o⟩, ha, _⟩ := e
      exact ⟨i, o, asPtr_some ha⟩
    | false =>
      simp only [cond_false, ld1, Option.bind_eq_some_iff] at e
      obtain ⟨⟨i, o⟩, ha, _⟩ := e
      exact ⟨i, o, asPtr_some ha⟩
  obtain ⟨i, o, rfl⟩ := this
  obtain ⟨m, hm, rfl⟩ := hp.ptr_inv
  refine ⟨⟨m.b, m.s + o, none⟩, v', ?_, ?_, h2⟩
  · simp [asAddr]
  · simpa [Instr.loadAt, Instr.sureAddr, Sem.run_bind] using h1

theorem run_mapM_res {f : ResultVar → Sem Value} : ∀ {l : List ResultVar} {vs : List Value}, l.length = vs.length → (∀ (k : Nat) (x : ResultVar) (y : Value), l[k]? = some x → vs[k]? = some y → (f x).run P w = .ok y w) →
    (l.mapM f).run P w = .ok vs w
  | [], [], _, _ => by simp
  | [], y :: ys, h, _ => by simp at h
  | x :: xs, [], h, _ => by simp at h
  | x :: xs, y :: ys, h, hh => by
    rw [List.mapM_cons]
    simp only [Sem.run_bind, hh 0 x y (by simp) (by simp), Result.andThen_ok]
    rw [run_mapM_res (l := xs) (vs := ys) (by simpa using h) (fun k a b ha hb => hh (k + 1) a b (by simpa using ha) (by simpa using hb))]
    simp

theorem resOf_sim {tm : Tm} {nt : Nat} {ts : Array Value} (ht : TmR μ tm nt ts) (hR : R μ A w) : ∀ {l : List ResultVar} {vs : List Value}, resOf P tm A l = some vs →
    ∃ vs', l.length = vs'.length ∧ VRs μ vs vs' ∧ ∀ (k : Nat) (x : ResultVar) (y : Value), l[k]? = some x → vs'[k]? = some y →
      ((match x with
        | .tmp t => pure (ts.getD t undef)
        | .cell a t => do loadVar t (← asAddr (ts.getD a undef))) : Sem Value).run P w = .ok y w
  | [], vs, e => by
    simp only [resOf, Option.some.injEq] at e
    subst e
    exact ⟨[], rfl, VRs.nil μ, by simp⟩
  | .tmp t :: l, vs, e => by
    simp only [resOf, Option.bind_eq_some_iff] at e
    obtain ⟨v, hv, us, hus, e⟩ := e
    cases e
    obtain ⟨vs', h1, h2, h3⟩ := resOf_sim ht hR hus
    obtain ⟨v', h4, h5⟩ := ht.val t v hv
    refine ⟨v' :: vs', by simp [h1], VRs.cons h5 h2, fun k x y hx hy => ?_⟩
    cases k with
    | zero =>
      simp at hx hy
      subst hx; subst hy
      simp [Array.getD_eq_getD_getElem?, h4]
    | succ k => exact h3 k x y (by simpa using hx) (by simpa using hy)
  | .cell a t :: l, vs, e => by
    simp only [resOf, Option.bind_eq_some_iff] at e
    obtain ⟨p, hp, v, hv, us, hus, e⟩ := e
    cases e
    obtain ⟨vs', h1, h2, h3⟩ := resOf_sim ht hR hus
    obtain ⟨p', h4, h5⟩ := ht.val a p hp
    obtain ⟨ad, v', h6, h7, h8⟩ := aLoad_var (P := P) hR hv h5
    refine ⟨v' :: vs', by simp [h1], VRs.cons h8 h2, fun k x y hx hy => ?_⟩
    cases k with
    | zero =>
      simp at hx hy
      subst hx; subst hy
      have hg : ts.getD a undef = p' := by simp [Array.getD_eq_getD_getElem?, h4]
      simp only [hg, Sem.run_bind, h6, Result.andThen_ok, h7]
    | succ k => exact h3 k x y (by simpa using hx) (by simpa using hy)

theorem results_sim {fn : Func} {tm : Tm} {nt : Nat} {ts : Array Value} (ht : TmR μ tm nt ts) (hR : R μ A w) {vs : List Value} (e : resOf P tm A fn.results.toList = some vs) :
    ∃ v', (results fn ts).run P w = .ok v' w ∧ VR μ (tup vs) v' := by
  obtain ⟨vs', h1, h2, h3⟩ := resOf_sim ht hR e
  have hm := run_mapM_res (P := P) (w := w) h1 h3
  have hrun : (results fn ts).run P w = .ok (if h : vs'.toArray.size = 1 then vs'.toArray[0] else .tuple vs'.toArray) w := by
    unfold results
    rw [Sem.run_bind, Array.mapM_eq_mapM_toList]
    simp only [map_eq_pure_bind, Sem.run_bind]
    erw [hm]
    simp
  refine ⟨_, hrun, ?_⟩
  have hlen := h2.1
  cases vs with
  | nil =>
    have := h2.nil_left; subst this
    simp only [List.toArray, tup]
    exact VR.tuple_iff.2 (VRs.nil μ)
  | cons x xs =>
    obtain ⟨y, ys, rfl, hxy, hxs⟩ := h2.left
    cases xs with
    | nil =>
      have := hxs.nil_left; subst this
      simpa [tup] using hxy
    | cons x2 xs =>
      obtain ⟨y2, ys', rfl, _, _⟩ := hxs.left
      have : ¬ ((y :: y2 :: ys').toArray.size = 1) := by simp
      rw [dif_neg this]
      simp only [tup]
      exact VR.tuple_iff.2 (by simpa using h2)

theorem OS.step {bk : FuncId → Option AFun} (hbk : BookOK P bk) {o : Orc H} {k : Nat} (hO : OS P o) (hL : LoopOK P o k) (hmix : P.follows .mixedOrders = true) : OS P (answer P bk o) where
  fn := by
    intro f args A c df r e
    simp only [answer, Option.bind_eq_some_iff] at e
    obtain ⟨af, haf, e⟩ := e
    obtain ⟨fn, cd, hf, hb, hn, hs, hnt, hres⟩ := hbk _ _ haf
    refine ⟨fun as w => run_callFunc hf hn hb as w, fun μ w args' hargs hR hfresh => ?_⟩
    obtain ⟨hlen, e1⟩ := cond_some e
    clear e
    simp only [Option.bind_eq_some_iff] at e1
    obtain ⟨⟨ex, s1⟩, h1, e2⟩ := e1
    refine callsIn_wide (n := 0).1 (callsIn_of_wp_marks hf hb trivial ?_)
    rw [← hs]
    have ht0 := args_TmR hargs (Nat.le_of_ble_eq_true hlen)
    rw [hnt] at ht0
    have := exec_wp (ro := none) (n := 0) (Q := bodyPostM Fence.wide 0 P fn (CallR μ A c w r)) hO hL hmix h1 (w := w) (a := { tmps := args'.toArray ++ Array.replicate (fn.ntmps - args'.toArray.size) undef, defers := [] })
      (by rw [hnt]; exact ht0) hR hfresh trivial .nil ?_
    · exact this
    intro a1 μ1 w1 ht1 hdf1 hE1
    have hmain : ∀ (h1' : H) (vs : List Value), takeAll s1.h s1.df = some h1' → resOf P s1.tm h1' af.res = some vs → r = { e := .ret, vs := [tup vs], h := dropBs s1.tm h1' af.fr, c := s1.c, df := [] } →
        LeavesInM Fence.wide 0 P fn a1.tmps (CallR μ A c w r) a1.defers .returning w1 := by
      intro h1' vs htk hrs hr
      refine takeAll_sim (c := s1.c) s1.df a1.defers s1.h w1 h1' hdf1 hE1.rel htk fun w2 hE2 => ?_
      rw [hres] at hrs
      obtain ⟨v', hv1, hv2⟩ := results_sim (P := P) ht1 hE2.rel hrs
      refine ⟨v', hv1, tup vs, v', μ1, by rw [hr], rfl, hv2, ?_⟩
      rw [hr]
      have hdrop := dropBs_ext (c := s1.c) ht1 af.fr h1' hE2.rel
      exact (hE1.trans0 hE2).trans0 hdrop
    cases ex with
    | exit id => cases e2
    | normal =>
      simp only [Option.bind_eq_some_iff] at e2
      obtain ⟨h1', htk, vs, hrs, hr⟩ := e2
      cases hr
      exact hmain h1' vs htk hrs rfl
    | ret =>
      simp only [Option.bind_eq_some_iff] at e2
      obtain ⟨h1', htk, vs, hrs, hr⟩ := e2
      cases hr
      exact hmain h1' vs htk hrs rfl
  rnd := by
    intro nt lin fr params l x y vs A c df r e μ w ts m ro n f hm ht hR hfr
    simp only [answer, Option.bind_eq_some_iff] at e
    obtain ⟨⟨ex, s1⟩, h1, e1⟩ := e
    cases ex with
    | exit id => cases e1
    | ret => cases e1
    | normal =>
      simp only [Option.bind_eq_some_iff] at e1
      obtain ⟨hb1, hbeg, ⟨ex2, s2⟩, h2, hs2, hset, e2⟩ := e1
      obtain ⟨hemp, e3⟩ := cond_some e2
      clear e2
      have k1 := exec_keeps h1
      have k2 := exec_keeps h2
      refine roundIn_of_wpIn trivial ?_
      have hrd : RdR μ (some l) (some m.b) := ⟨m, hm, rfl⟩
      refine exec_wp (ro := some m.b) hO hL hmix h1 (a := { tmps := ts, defers := [] }) ht hR hfr hrd .nil fun a1 μ1 w1 ht1 hdf1 hE1 => ?_
      -- the round begins
      unfold beginSt at hbeg
      split at hbeg
      · rename_i st hg
        obtain ⟨hready, hbeg'⟩ := cond_some hbeg
        cases hbeg'
        simp only [decide_eq_true_eq] at hready
        have hm1 := hE1.mu l m hm
        have hbk := hE1.rel.blk l m hm1
        rw [hg] at hbk
        obtain ⟨lp, hlp, hL1⟩ := hbk
        have hbr : (Instr.beginRound m.b).run P w1 = .ok () { w1 with heap := w1.heap.setIfInBounds m.b (.loop { lp with state := .busy }) } := by
          simp only [Instr.beginRound, Sem.run_bind, run_getLoop hlp, Result.andThen_ok, run_setLoop hlp]
          rw [hL1.state, hready]
          simp
        refine ⟨_, hbr, ?_⟩
        have hLb : LoopR μ1 { st with state := .busy } { lp with state := .busy } := ⟨rfl, hL1.pending, hL1.params, hL1.assign, hL1.body, hL1.size, hL1.vals, hL1.dfr⟩
        have hE2 := Ext.setLoop (c := s1.c) (own := fun _ => False) hE1.rel hm1 hg hLb
        have hE12 := hE1.trans0 hE2
        refine exec_wp (ro := some m.b) hO hL hmix h2 (by rw [k1.1]; exact ht1) hE2.rel (hE12.fresh hfr (fun _ h => h.elim)) (by rw [k1.2]; exact hrd.mono hE12.mu) hdf1 fun a2 μ2 w2 ht2 hdf2 hE3 => ?_
        have hE123 := hE12.trans0 hE3
        have hdrop := dropBs_ext (c := s2.c) ht2 fr s2.h hE3.rel
        have hE4 := hE123.trans0 hdrop
        unfold setState at hset
        split at hset
        · rename_i st2 hg2
          cases hset
          have hm2 := hE123.mu l m hm
          have hbk2 := hdrop.rel.blk l m hm2
          rw [hg2] at hbk2
          obtain ⟨lp2, hlp2, hL2⟩ := hbk2
          have hend : ∀ jump : Option Code, jump = jumpOf ex2 → ∃ v w', (Instr.endRound m.b jump).run P w2 = .ok v w' ∧ CallR μ A c w r (.returned v) w' := by
            intro jump hj
            subst hj
            cases e3
            refine ⟨.bool (jumpOf ex2).isNone, { w2 with heap := w2.heap.setIfInBounds m.b (.loop { lp2 with state := if (jumpOf ex2).isNone then .ready else .done, pending := jumpOf ex2 }) }, ?_, ?_⟩
            · simp only [Instr.endRound, Sem.run_bind, run_getLoop hlp2, Result.andThen_ok, run_setLoop hlp2, Sem.run_pure]
            · have hLe : LoopR μ2 { st2 with state := cond (jumpOf ex2).isNone .ready .done, pending := jumpOf ex2 } { lp2 with state := if (jumpOf ex2).isNone then .ready else .done, pending := jumpOf ex2 } :=
                ⟨by cases (jumpOf ex2).isNone <;> rfl, rfl, hL2.params, hL2.assign, hL2.body, hL2.size, hL2.vals, hL2.dfr⟩
              have hE5 := Ext.setLoop (c := s2.c) (own := fun _ => False) hdrop.rel hm2 hg2 hLe
              exact ⟨_, _, μ2, rfl, rfl, .bool _, hE4.trans0 hE5⟩
          cases ex2 with
          | normal => exact hend none rfl
          | ret => exact hend (some .ret) rfl
          | exit id => exact hend (some (.exit id)) rfl
        · cases hset
      · cases hbeg

theorem bookOK_afun (an : FuncId → Ann) : BookOK P (afun P an) := by
  intro f a e
  obtain ⟨fn, cd, hf, hb, hn, hs, hnt, hres, _⟩ := afun_some e
  exact ⟨fn, cd, hf, hb, hn, hs, hnt, hres⟩

theorem orc_ok {bk : FuncId → Option AFun} (hbk : BookOK P bk) (hmix : P.follows .mixedOrders = true) : ∀ n, OS (H := H) P (orc P bk n) ∧ LoopOK (H := H) P (orc P bk n) n
  | 0 => ⟨⟨(fun _ _ _ _ _ _ e => by cases e), (fun _ _ _ _ _ _ _ _ _ _ _ _ e => by cases e)⟩, fun _ _ _ _ _ _ _ _ _ _ _ e => by cases e⟩
  | n + 1 => ⟨OS.step hbk (orc_ok hbk hmix n).1 (orc_ok hbk hmix n).2 hmix, LoopOK.step (orc_ok hbk hmix n).1 (orc_ok hbk hmix n).2 hmix⟩

/-- **What the abstract machine answers is what the call does.** -/
theorem orc_calls {bk : FuncId → Option AFun} (hbk : BookOK P bk) (hmix : P.follows .mixedOrders = true) {n : Nat} {f : FuncId} {args args' : List Value} {A : H} {c : Nat} {r : Rt H} (e : orc P bk n (.fn f) args A c [] = some r)
    (hv : VRs μ args args') (hR : R μ A w) (hfr : Fresh μ c) : Calls P f args'.toArray w (CallR μ A c w r) :=
  ((orc_ok hbk hmix n).1.fn f args A c [] r e).2 μ w args' hv hR hfr

end Go.Ab
