/- A part of the claim's proof: AbExec. Conditions: none. -/
import Derived.Test.YtdbiilapiloaiaaAbRegion
import Derived.LoopNIn
/-! Code, functions, loops, rounds: the abstract machine and the model. -/
set_option linter.all false
namespace Go.Ab
open Go
set_option linter.unusedVariables false
set_option linter.unusedSimpArgs false
set_option linter.unusedSectionVars false

variable {H : Type} [HeapC H] {P : Program} {μ : Mu} {A : H} {w : World}

/-! ### Deletions and the records of loops -/
theorem Ext.del {c : Nat} {own : Nat → Prop} (hR : R μ A w) {i : Nat} {m : ME} (hm : μ i = some m) (hw : wrB (HeapC.get A i) = true)
    {w' : World} (os : w'.os = w.os) (tape : w'.tape = w.tape) (output : w'.output = w.output) (size : w'.heap.size = w.heap.size) (oth : ∀ b, b ≠ m.b → w'.heap[b]? = w.heap[b]?) :
    Ext μ A c w own μ (HeapC.del A i) c w' where
  mu := fun _ _ e => e
  new := fun i h1 h2 => absurd h1 h2
  cle := Nat.le_refl _
  rel := {
    blk := fun j mj hj => by
      rw [HeapC.get_del]
      by_cases e : j = i
      · simp only [e, if_true]; trivial
      · simp only [e, if_false]
        have h0 := hR.blk j mj hj
        cases hd : deadB (HeapC.get A j) with
        | true =>
          unfold deadB at hd
          split at hd
          · rename_i hg; rw [hg]; trivial
          · cases hd
        | false =>
          refine h0.congr (oth _ ?_)
          exact hR.inj j i mj m hj hm e hd (dead_of_wr hw) (by rw [ro_of_wr hw]; simp)
    inj := fun a b ma mb ha hb' hne => by
      rw [HeapC.get_del, HeapC.get_del]
      by_cases ea : a = i <;> by_cases eb : b = i
      · exact absurd (ea.trans eb.symm) hne
      · subst ea
        simp only [eb, if_true, if_false]
        intro _ h2 h3
        exact hR.inj a b ma mb ha hb' hne (dead_of_wr hw) h2 (by rw [ro_of_wr hw]; simp)
      · subst eb
        simp only [ea, if_true, if_false]
        intro h1 _ h3
        exact hR.inj a b ma mb ha hb' hne h1 (dead_of_wr hw) (by rw [ro_of_wr hw]; simp)
      · simp only [ea, eb, if_false]
        exact hR.inj a b ma mb ha hb' hne
    lt := fun j mj hj => by rw [size]; exact hR.lt j mj hj }
  af := fun j h1 _ _ => by
    rw [HeapC.get_del, if_neg]
    intro e; subst e; rw [hm] at h1; cases h1
  os := os
  tape := tape
  output := output
  size := by omega
  fr := fun b _ h => oth b (fun e => h i m hm hw e.symm)
  wrm := fun j mj hj h => by
    rw [HeapC.get_del] at h
    by_cases e : j = i
    · simp [e, wrB] at h
    · simpa [e] using h
  newb := fun j mj h1 h2 => by rw [h1] at h2; cases h2
  dd := fun j mj hj h => by
    rw [HeapC.get_del]
    by_cases e : j = i
    · subst e; rw [dead_of_wr hw] at h; cases h
    · simpa [e] using h

theorem dropB_ext {c nt t : Nat} {tm : Tm} {ts : Array Value} (ht : TmR μ tm nt ts) (hR : R μ A w) : Ext μ A c w (fun _ => False) μ (dropB tm A t) c w := by
  unfold dropB
  split
  · rename_i i hv
    split
    · rename_i cs hg
      obtain ⟨v', _, h2⟩ := ht.val t _ hv
      cases h2 with
      | @ptr _ _ m hm =>
        exact Ext.del hR hm (by rw [hg]; rfl) rfl rfl rfl rfl (fun _ _ => rfl)
    · exact Ext.refl hR
  · exact Ext.refl hR

theorem Ext.trans0 {μ μ1 μ2 : Mu} {A A1 A2 : H} {c c1 c2 : Nat} {w w1 w2 : World} (h : Ext μ A c w (fun _ => False) μ1 A1 c1 w1) (k : Ext μ1 A1 c1 w1 (fun _ => False) μ2 A2 c2 w2) : Ext μ A c w (fun _ => False) μ2 A2 c2 w2 :=
  (h.trans k (fun _ h => h.elim) (fun _ h => h.elim)).weaken (fun _ h => h.elim id id)

theorem dropBs_ext {c nt : Nat} {tm : Tm} {ts : Array Value} (ht : TmR μ tm nt ts) : ∀ (l : List Nat) (A : H), R μ A w → Ext μ A c w (fun _ => False) μ (dropBs tm A l) c w
  | [], A, hR => Ext.refl hR
  | t :: l, A, hR => (dropB_ext ht hR).trans0 (dropBs_ext ht l _ (dropB_ext (c := c) ht hR).rel)

theorem run_getLoop {b : Nat} {lp : Loop} (h : w.heap[b]? = some (.loop lp)) : (Instr.getLoop b).run P w = .ok lp w := by
  simp [Instr.getLoop, getObj, Sem.run, h]

theorem run_setLoop {b : Nat} {lp lp' : Loop} (h : w.heap[b]? = some (.loop lp)) : (setObj b (.loop lp')).run P w = .ok () { w with heap := w.heap.setIfInBounds b (.loop lp') } := by
  simp [setObj, Sem.run, h]

/-- a loop's record is written -/
theorem Ext.setLoop {c : Nat} {own : Nat → Prop} (hR : R μ A w) {i : Nat} {m : ME} (hm : μ i = some m) {st st' : ALoop} (hg : HeapC.get A i = some (.loop st)) {lp' : Loop} (hL : LoopR μ st' lp') :
    Ext μ A c w own μ (HeapC.set A i (.loop st')) c { w with heap := w.heap.setIfInBounds m.b (.loop lp') } :=
  Ext.setObj hR hm (by rw [hg]; rfl) rfl (fun h hh => ⟨lp', hh, hL⟩)

/-- deferred blocks and their marks -/
inductive DfR (μ : Mu) : List Nat → List Deferred → Prop
  | nil : DfR μ [] []
  | cons {i : Nat} {m : ME} {d : Deferred} {ds : List Nat} {es : List Deferred} (h : μ i = some m) (ht : d.target = .collected m.b) (hs : DfR μ ds es) : DfR μ (i :: ds) (d :: es)

theorem DfR.mono {μ' : Mu} (hm : μ.le μ') {ds : List Nat} {es : List Deferred} (h : DfR μ ds es) : DfR μ' ds es := by
  induction h with
  | nil => exact .nil
  | cons h ht _ ih => exact .cons (hm _ _ h) ht ih

/-- in a round, or not -/
def RdR (μ : Mu) (rd ro : Option Nat) : Prop :=
  match rd, ro with
  | none, none => True
  | some l, some b => ∃ m, μ l = some m ∧ m.b = b
  | _, _ => False

theorem RdR.mono {μ' : Mu} (hm : μ.le μ') {rd ro : Option Nat} (h : RdR μ rd ro) : RdR μ' rd ro := by
  cases rd <;> cases ro <;> first | exact h | exact (let ⟨m, a, b⟩ := h; ⟨m, hm _ _ a, b⟩)

def exitOf : Ex → Exit
  | .normal => .normal
  | .exit id => .exit id
  | .ret => .ret

/-- What the oracle's answers to a loop are good for. -/
def LoopOK (P : Program) (o : Orc H) (k : Nat) : Prop :=
  ∀ (j : Nat) (lin fr : List Nat) (b : ACode) (nt : Nat) (rd : Option Nat) (vs : List Value) (A : H) (c : Nat) (df : List Nat) (r : Rt H), o (.lp j lin fr b nt rd) vs A c df = some r →
    ∀ (μ : Mu) (w : World) (a : Act) (ro : Option Nat) (n : Nat) (Q : Exit → Act → World → Prop), TmR μ (tmOf lin vs) nt a.tmps → R μ A w → Fresh μ c → RdR μ rd ro → DfR μ df a.defers →
    (∀ a' μ' w', TmR μ' (tmOf lin r.vs) nt a'.tmps → DfR μ' r.df a'.defers → Ext μ A c w (fun _ => False) μ' r.h r.c w' → Q (exitOf r.e) a' w') → Code.roundsIn (wd ro) n P (strip b) Q k a w

theorem vals_tmOf {tm : Tm} : ∀ {lin : List Nat} {vs : List Value}, vals tm lin = some vs → ∀ t v, tmOf lin vs t = some v → tm t = some v
  | [], vs, h, t, v, e => by simp [tmOf] at e
  | x :: xs, vs, h, t, v, e => by
    simp only [Ab.vals, Option.bind_eq_some_iff] at h
    obtain ⟨y, hy, ys, hys, h⟩ := h
    cases h
    simp only [tmOf] at e
    cases hb : Nat.beq t x with
    | true => rw [hb] at e; rw [Nat.eq_of_beq_eq_true hb, hy]; exact e
    | false => rw [hb] at e; exact vals_tmOf hys t v e

theorem TmR.sub {tm tm' : Tm} {nt : Nat} {ts : Array Value} (h : TmR μ tm nt ts) (hs : ∀ t v, tm' t = some v → tm t = some v) : TmR μ tm' nt ts :=
  ⟨h.size, fun t v e => h.val t v (hs t v e)⟩

theorem exec_keeps {o : Orc H} : ∀ {code : ACode} {s s' : St H} {e : Ex}, exec P o code s = some (e, s') → s'.nt = s.nt ∧ s'.rd = s.rd := by
  intro code
  induction code with
  | skip => intro s s' e h; simp only [exec, Option.some.injEq, Prod.mk.injEq] at h; obtain ⟨_, rfl⟩ := h; exact ⟨rfl, rfl⟩
  | region id ops d => intro s s' e h; simp only [exec, Option.bind_eq_some_iff] at h; obtain ⟨r, _, h⟩ := h; cases h; exact ⟨rfl, rfl⟩
  | join lays x ih => intro s s' e h; exact ih (by simpa only [exec] using h)
  | seq x y ihx ihy =>
    intro s s' e h
    simp only [exec, Option.bind_eq_some_iff] at h
    obtain ⟨⟨e1, s1⟩, h1, h⟩ := h
    have k1 := ihx h1
    cases e1 with
    | normal => have k2 := ihy h; exact ⟨k2.1.trans k1.1, k2.2.trans k1.2⟩
    | exit id => cases h; exact k1
    | ret => cases h; exact k1
  | cond c x y ihx ihy =>
    intro s s' e h
    simp only [exec, Option.bind_eq_some_iff] at h
    obtain ⟨v, hv, h⟩ := h
    split at h
    · rename_i t; cases t
      · exact ihy h
      · exact ihx h
    · cases h
  | block id x ih =>
    intro s s' e h
    simp only [exec, Option.bind_eq_some_iff] at h
    obtain ⟨⟨e1, s1⟩, h1, h⟩ := h
    have k1 := ih h1
    cases e1 <;> cases h <;> exact k1
  | loop j lin fr outs b _ =>
    intro s s' e h
    simp only [exec, Option.bind_eq_some_iff] at h
    obtain ⟨vs, _, r, _, h⟩ := h
    cases h; exact ⟨rfl, rfl⟩
  | rangeFunc j lin fr outs f ps x y _ _ =>
    intro s s' e h
    simp only [exec, execRange, Option.bind_eq_some_iff] at h
    obtain ⟨fv, _, h⟩ := h
    split at h
    · simp only [Option.bind_eq_some_iff] at h
      obtain ⟨vs, _, hd, _, r, _, h⟩ := h
      split at h
      · rename_i st _
        cases hb : decide (st.state = LoopState.busy) with
        | true => rw [hb] at h; cases h
        | false =>
          rw [hb] at h
          simp only [cond_false, Option.bind_eq_some_iff] at h
          obtain ⟨x, _, h⟩ := h
          cases h; exact ⟨rfl, rfl⟩
      · cases h
    · cases h
  | exit id => intro s s' e h; simp only [exec, Option.some.injEq, Prod.mk.injEq] at h; obtain ⟨_, rfl⟩ := h; exact ⟨rfl, rfl⟩
  | ret => intro s s' e h; simp only [exec, Option.some.injEq, Prod.mk.injEq] at h; obtain ⟨_, rfl⟩ := h; exact ⟨rfl, rfl⟩
  | bad c => intro s s' e h; simp [exec] at h

/-- the entry of a range over a function -/
theorem enter_sim {c : Nat} {s : St H} {rd ro : Option Nat} (hR : R μ A w) (hfr : Fresh μ c) (hrd : RdR μ rd ro) {hd : H × Nat} (e : enterDfr A c rd = some hd) {tmps : Array Value} {fn : FuncId} {ps : Array Tmp} {x y : Code} :
    ∃ l mark w1 μ1, (Instr.enterLoop fn tmps ps x y ro).run P w = .ok (l, mark) w1 ∧ l + 1 = w1.heap.size ∧
      (∃ w0, Ext μ A c w (fun i => i = 256 * c + 1) μ1 hd.1 c w0 ∧ (∃ m, μ1 hd.2 = some m ∧ w1 = { w0 with heap := w0.heap.push (.loop { state := .ready, pending := none, fn, tmps, params := ps, assign := x, body := y, defers := m.b }) } ∧ l = w0.heap.size ∧
        ((rd = none → ∃ d, mark = [d] ∧ d.target = .collected m.b) ∧ (∀ l', rd = some l' → mark = [])))) ∧ μ1 (256 * c) = none := by
  cases rd with
  | none =>
    cases ro with
    | some b => exact hrd.elim
    | none =>
      simp only [enterDfr, Option.some.injEq] at e
      subst e
      have hid : μ (256 * c + 1) = none := hfr _ (by omega)
      have hE : Ext μ A c w (fun i => i = 256 * c + 1) (μ.upd (256 * c + 1) ⟨w.heap.size, 0, none⟩) (HeapC.set A (256 * c + 1) .dfr) c { w with heap := w.heap.push (.deferred (some [])) } :=
        Ext.alloc hR hid rfl rfl rfl rfl rfl rfl (by simp [BlkR])
      refine ⟨w.heap.size + 1, [{ target := .collected w.heap.size, args := #[] }], _, _, ?_, ?_, ⟨_, hE, ⟨w.heap.size, 0, none⟩, Mu.upd_self μ _ _, rfl, by simp, (fun _ => ⟨{ target := .collected w.heap.size, args := #[] }, rfl, rfl⟩), (fun _ h => by cases h)⟩, ?_⟩
      · simp [Instr.enterLoop, newObj, Sem.run, Sem.run_bind]
        rfl
      · simp
      · simp only [Mu.upd]; rw [if_neg (by omega)]; exact hfr _ (by omega)
  | some l =>
    cases ro with
    | none => exact hrd.elim
    | some b =>
      obtain ⟨m, hm, rfl⟩ := hrd
      simp only [enterDfr] at e
      split at e
      · rename_i st hg
        simp only [Option.some.injEq] at e
        subst e
        have hb := hR.blk l m hm
        rw [hg] at hb
        obtain ⟨lp, hlp, hL⟩ := hb
        obtain ⟨md, hmd, hmb⟩ := hL.dfr
        refine ⟨w.heap.size, [], _, μ, ?_, ?_, ⟨w, Ext.refl hR, md, hmd, rfl, rfl, (fun h => by cases h), (fun _ _ => rfl)⟩, hfr _ (by omega)⟩
        · simp only [Instr.enterLoop, Sem.run_bind, run_getLoop hlp, Result.andThen_ok, Sem.run_pure]
          simp [newObj, Sem.run, hmb]
        · simp
      · cases e

theorem exec_wp {o : Orc H} {k : Nat} (hO : OS P o) (hL : LoopOK P o k) (hmix : P.follows .mixedOrders = true) : ∀ {code : ACode} {s s' : St H} {e : Ex}, exec P o code s = some (e, s') →
    ∀ {μ : Mu} {w : World} {a : Act} {ro : Option Nat} {n : Nat} {Q : Exit → Act → World → Prop}, TmR μ s.tm s.nt a.tmps → R μ s.h w → Fresh μ s.c → RdR μ s.rd ro → DfR μ s.df a.defers →
    (∀ a' μ' w', TmR μ' s'.tm s.nt a'.tmps → DfR μ' s'.df a'.defers → Ext μ s.h s.c w (fun _ => False) μ' s'.h s'.c w' → Q (exitOf e) a' w') → (strip code).wpIn (wd ro) n P Q a w := by
  intro code
  induction code with
  | skip =>
    intro s s' e h μ w a ro n Q ht hR hfr hrd hdf hQ
    simp only [exec, Option.some.injEq, Prod.mk.injEq] at h
    obtain ⟨rfl, rfl⟩ := h
    exact wpIn_skip (hQ a μ w ht hdf (Ext.refl hR))
  | join lays x ih => intro s s' e h; simp only [strip]; exact ih (by simpa only [exec] using h)
  | region id ops d =>
    intro s s' e h μ w a ro n Q ht hR hfr hrd hdf hQ
    simp only [exec, Option.bind_eq_some_iff] at h
    obtain ⟨⟨tm', A', c'⟩, hr, h⟩ := h
    cases h
    exact region_wp hO hmix hr ht hR hfr (fun a' μ' w' h1 h2 h3 => hQ a' μ' w' h1 (by rw [h2]; exact hdf.mono h3.mu) h3)
  | seq x y ihx ihy =>
    intro s s' e h μ w a ro n Q ht hR hfr hrd hdf hQ
    simp only [exec, Option.bind_eq_some_iff] at h
    obtain ⟨⟨e1, s1⟩, h1, h⟩ := h
    have k1 := exec_keeps h1
    refine wpIn_seq (ihx h1 ht hR hfr hrd hdf fun a1 μ1 w1 ht1 hdf1 hE1 => ?_)
    cases e1 with
    | normal =>
      refine ihy h (by rw [k1.1]; exact ht1) hE1.rel (hE1.fresh hfr (fun _ h => h.elim)) (by rw [k1.2]; exact hrd.mono hE1.mu) hdf1 fun a2 μ2 w2 ht2 hdf2 hE2 => ?_
      exact hQ a2 μ2 w2 (by rw [k1.1] at ht2; exact ht2) hdf2 (hE1.trans0 hE2)
    | exit id => cases h; exact hQ a1 μ1 w1 ht1 hdf1 hE1
    | ret => cases h; exact hQ a1 μ1 w1 ht1 hdf1 hE1
  | cond c x y ihx ihy =>
    intro s s' e h μ w a ro n Q ht hR hfr hrd hdf hQ
    simp only [exec, Option.bind_eq_some_iff] at h
    obtain ⟨v, hv, h⟩ := h
    split at h
    · rename_i t
      have hc := (ht.eval (a := a) hv).bool_left
      refine wpIn_cond hc ?_
      cases t
      · exact ihy h ht hR hfr hrd hdf hQ
      · exact ihx h ht hR hfr hrd hdf hQ
    · cases h
  | block id x ih =>
    intro s s' e h μ w a ro n Q ht hR hfr hrd hdf hQ
    simp only [exec, Option.bind_eq_some_iff] at h
    obtain ⟨⟨e1, s1⟩, h1, h⟩ := h
    refine wpIn_block (ih h1 ht hR hfr hrd hdf fun a1 μ1 w1 ht1 hdf1 hE1 => ?_)
    cases e1 with
    | normal => cases h; exact hQ a1 μ1 w1 ht1 hdf1 hE1
    | exit id' =>
      simp only [Option.some.injEq, Prod.mk.injEq] at h
      obtain ⟨he, rfl⟩ := h
      show if id' = id then Q .normal a1 w1 else Q (.exit id') a1 w1
      by_cases hid : id' = id
      · subst hid
        simp only [Nat.beq_refl, cond_true] at he
        subst he
        simp only [if_true]
        exact hQ a1 μ1 w1 ht1 hdf1 hE1
      · have hb : Nat.beq id' id = false := by rw [Bool.eq_false_iff]; intro hh; exact hid (Nat.eq_of_beq_eq_true hh)
        rw [hb] at he
        simp only [cond_false] at he
        subst he
        simp only [hid, if_false]
        exact hQ a1 μ1 w1 ht1 hdf1 hE1
    | ret => cases h; exact hQ a1 μ1 w1 ht1 hdf1 hE1
  | loop j lin fr outs b _ =>
    intro s s' e h μ w a ro n Q ht hR hfr hrd hdf hQ
    simp only [exec, Option.bind_eq_some_iff] at h
    obtain ⟨vs, hvs, r, hr, h⟩ := h
    cases h
    exact wpIn_loop_rounds k (hL _ _ _ _ _ _ _ _ _ _ _ hr μ w a ro n Q (ht.sub (vals_tmOf hvs)) hR hfr hrd hdf (fun a' μ' w' h1 h2 h3 => hQ a' μ' w' h1 h2 h3))
  | rangeFunc j lin fr outs f ps x y _ _ =>
    intro s s' e h μ w a ro n Q ht hR hfr hrd hdf hQ
    simp only [exec, execRange, Option.bind_eq_some_iff] at h
    obtain ⟨fv, hfv, h⟩ := h
    split at h
    · rename_i g first cap
      simp only [Option.bind_eq_some_iff] at h
      obtain ⟨vs, hvs, hd, hhd, r, hr, h⟩ := h
      obtain ⟨hcf, hcall⟩ := hO.fn _ _ _ _ _ _ hr
      have hfv' := ht.eval (a := a) hfv
      refine wpIn_rangeFunc fun fn _ => ?_
      obtain ⟨l, mark, w1, μ1, he, hl, ⟨w0, hE0, m, hm, hw1, hl0, hmark⟩, hμ1⟩ := enter_sim (P := P) (s := s) hR hfr hrd hhd (tmps := a.tmps) (fn := fn) (ps := ps) (x := strip x) (y := strip y)
      -- the record
      let st : ALoop := { state := .ready, pending := none, nt := s.nt, vals := vs, lin := lin, fr := fr, params := ps.toList, assign := x, body := y, dfr := hd.2 }
      have hE1 : Ext μ1 hd.1 s.c w0 (fun i => i = 256 * s.c) (μ1.upd (256 * s.c) ⟨l, 0, none⟩) (HeapC.set hd.1 (256 * s.c) (.loop st)) s.c w1 := by
        subst hw1
        refine Ext.alloc hE0.rel hμ1 (by simp [hl0]) rfl rfl rfl rfl rfl ?_
        refine ⟨{ state := .ready, pending := none, fn := fn, tmps := a.tmps, params := ps, assign := strip x, body := strip y, defers := m.b }, by simp [hl0], ?_⟩
        have hle := hE0.mu
        refine ⟨rfl, rfl, rfl, rfl, rfl, ht.size, fun t v hv => ?_, ?_⟩
        · obtain ⟨v', h1, h2⟩ := ht.val t v (vals_tmOf hvs t v hv)
          exact ⟨v', h1, (h2.mono hle).mono (Mu.le_upd hμ1)⟩
        · exact ⟨m, Mu.le_upd hμ1 _ _ hm, rfl⟩
      have hE01 : Ext μ s.h s.c w (fun i => i = 256 * s.c + 1 ∨ i = 256 * s.c) (μ1.upd (256 * s.c) ⟨l, 0, none⟩) (HeapC.set hd.1 (256 * s.c) (.loop st)) (s.c + 1) w1 := by
        have hf0 : ∀ i, 256 * s.c ≤ i → μ i = none := hfr
        refine { mu := fun i m h => hE1.mu i m (hE0.mu i m h), new := ?_, cle := by omega, rel := hE1.rel, af := ?_, os := hE1.os.trans hE0.os, tape := hE1.tape.trans hE0.tape, output := hE1.output.trans hE0.output,
                 size := Nat.le_trans hE0.size hE1.size, fr := ?_, wrm := ?_, newb := ?_, dd := fun i m hi h0 => hE1.dd i m (hE0.mu i m hi) (hE0.dd i m hi h0) }
        · intro i h0 h1
          cases e1 : μ1 i with
          | none =>
            rcases hE1.new i e1 h1 with h | ⟨h, h'⟩
            · exact .inl (.inr h)
            · omega
          | some m1 =>
            rcases hE0.new i h0 (by rw [e1]; simp) with h | ⟨h, h'⟩
            · exact .inl (.inl h)
            · omega
        · intro i h0 h1 h2
          have hne1 : i ≠ 256 * s.c := fun hh => h2 (.inr hh)
          have hne2 : i ≠ 256 * s.c + 1 := fun hh => h2 (.inl hh)
          rw [HeapC.get_set, if_neg hne1]
          cases hrd' : s.rd with
          | none =>
            rw [hrd'] at hhd
            simp only [enterDfr, Option.some.injEq] at hhd
            rw [← hhd]
            simp only [HeapC.get_set, hne2, if_false]
          | some l' =>
            rw [hrd'] at hhd
            simp only [enterDfr] at hhd
            split at hhd
            · simp only [Option.some.injEq] at hhd; rw [← hhd]
            · cases hhd
        · intro b hb hn
          rw [hE1.fr b (Nat.lt_of_lt_of_le hb hE0.size) ?_, hE0.fr b hb hn]
          intro i m' hi hw' hbb
          cases e0 : μ i with
          | some m0 =>
            have := hE0.mu i m0 e0
            rw [hi] at this; cases this
            exact hn i m' e0 (hE0.wrm i m' e0 hw') hbb
          | none =>
            rcases hE0.newb i m' e0 hi with h | ⟨j', mj, a1, a2, a3⟩
            · omega
            · exact hn j' mj a1 a3 (a2.trans hbb)
        · intro i m' hi hw'
          exact hE0.wrm i m' hi (hE1.wrm i m' (hE0.mu i m' hi) hw')
        · intro i m' h0 h1
          cases e1 : μ1 i with
          | some m1 =>
            have := hE1.mu i m1 e1
            rw [h1] at this; cases this
            exact hE0.newb i m' h0 e1
          | none =>
            rcases hE1.newb i m' e1 h1 with h | ⟨j', mj, a1, a2, a3⟩
            · exact .inl (Nat.le_trans hE0.size h)
            · cases e0 : μ j' with
              | some m0 =>
                have := hE0.mu j' m0 e0
                rw [a1] at this; cases this
                exact .inr ⟨j', mj, e0, a2, hE0.wrm j' mj e0 a3⟩
              | none =>
                rcases hE0.newb j' mj e0 a1 with h | ⟨q, mq, b1, b2, b3⟩
                · exact .inl (by omega)
                · exact .inr ⟨q, mq, b1, b2.trans a2, b3⟩
      have hfr1 : Fresh (μ1.upd (256 * s.c) ⟨l, 0, none⟩) (s.c + 1) := by
        intro i hi
        cases e1 : (μ1.upd (256 * s.c) ⟨l, 0, none⟩) i with
        | none => rfl
        | some m1 =>
          rcases hE01.new i (hfr i (by omega)) (by rw [e1]; simp) with (h | h) | ⟨_, h⟩ <;> omega
      generalize hev : a.eval f = fv' at hfv'
      cases hfv' with
      | @fnc _ as as' bs bs' z1 z2 z3 z4 =>
        have hle := hE01.mu
        have hyv : VR (μ1.upd (256 * s.c) ⟨l, 0, none⟩) (.func (.yield (256 * s.c)) #[] #[]) (.func (.yield l) #[] #[]) := VR.yield (Mu.upd_self _ _ _)
        have hargs : VRs (μ1.upd (256 * s.c) ⟨l, 0, none⟩) (first.toList ++ [.func (.yield (256 * s.c)) #[] #[]] ++ cap.toList) (as'.toList ++ [.func (.yield l) #[] #[]] ++ bs'.toList) := by
          refine VRs.append (VRs.append ?_ (VRs.cons hyv (VRs.nil _))) ?_
          · exact ⟨by simpa using z1, fun k' u u' hu hu' => (z3 k' u u' (by simpa using hu) (by simpa using hu')).mono hle⟩
          · exact ⟨by simpa using z2, fun k' u u' hu hu' => (z4 k' u u' (by simpa using hu) (by simpa using hu')).mono hle⟩
        have hC := hcall _ w1 _ hargs hE1.rel hfr1
        have hres := run_resolve_value (P := P) (w := w1) (c := rangeCall f l) (f := f) rfl (ty := 0) hev
        refine ⟨l, mark, w1, _, w1, g, as' ++ (rangeCall f l).args.map a.eval ++ bs', w1, he, hres, fun _ _ => trivial, ?_, fun hh => by simp [wd, Fence.wide] at hh, ?_⟩
        · simp only [invoke]; exact hcf _ _
        · have harr : (as' ++ (rangeCall f l).args.map a.eval ++ bs') = (as'.toList ++ [Value.func (.yield l) #[] #[]] ++ bs'.toList).toArray := by
            have hmap : (rangeCall f l).args.map a.eval = #[Value.func (.yield l) #[] #[]] := by simp [rangeCall, Act.eval]
            rw [hmap]
            apply Array.ext'; simp
          rw [harr]
          refine (wd_calls hC).mono ?_
          rintro en w3 ⟨z, z', μ2, hz1, rfl, hz3, hE2⟩
          split at h
          · rename_i st2 hg2
            cases hbusy : decide (st2.state = LoopState.busy) with
            | true => rw [hbusy] at h; cases h
            | false =>
              rw [hbusy] at h
              simp only [cond_false, Option.bind_eq_some_iff] at h
              obtain ⟨ex, hex, h⟩ := h
              cases h
              have hm2 : μ2 (256 * s.c) = some ⟨l, 0, none⟩ := hE2.mu _ _ (Mu.upd_self _ _ _)
              have hb2 := hE2.rel.blk _ _ hm2
              rw [hg2] at hb2
              obtain ⟨lp, hlp, hL2⟩ := hb2
              have hnb : ¬ (lp.state == LoopState.busy) = true := by
                rw [hL2.state]
                intro hh
                have := of_decide_eq_false hbusy
                exact this (by simpa using hh)
              have hendl : (Instr.endLoop l).run P w3 = .ok lp.pending { w3 with heap := w3.heap.setIfInBounds l (.loop { lp with state := .exhausted }) } := by
                simp only [Instr.endLoop, Sem.run_bind, run_getLoop hlp, Result.andThen_ok]
                rw [if_neg hnb]
                simp only [Sem.run_pure, Sem.run_bind, Result.andThen_ok, run_setLoop hlp]
              have hE3 : Ext μ2 r.h r.c w3 (fun _ => False) μ2 (HeapC.del r.h (256 * s.c)) r.c { w3 with heap := w3.heap.setIfInBounds l (.loop { lp with state := .exhausted }) } := by
                refine Ext.del hE2.rel hm2 (by rw [hg2]; rfl) rfl rfl rfl (by simp) (fun b hb => ?_)
                simp only
                rw [Array.getElem?_setIfInBounds_ne (Ne.symm hb)]
              have hEall : Ext μ s.h s.c w (fun _ => False) μ2 (HeapC.del r.h (256 * s.c)) r.c { w3 with heap := w3.heap.setIfInBounds l (.loop { lp with state := .exhausted }) } := by
                have h23 := hE2.trans0 hE3
                have hcc := h23.cle
                refine { mu := fun i m h => h23.mu i m (hE01.mu i m h), new := ?_, cle := by omega, rel := h23.rel, af := ?_, os := h23.os.trans hE01.os, tape := h23.tape.trans hE01.tape, output := h23.output.trans hE01.output,
                         size := Nat.le_trans hE01.size h23.size, fr := ?_, wrm := fun i m' hi hw' => hE01.wrm i m' hi (h23.wrm i m' (hE01.mu i m' hi) hw'), newb := ?_, dd := fun i m' hi h0 => h23.dd i m' (hE01.mu i m' hi) (hE01.dd i m' hi h0) }
                · intro i h0 h1
                  cases e1 : (μ1.upd (256 * s.c) ⟨l, 0, none⟩) i with
                  | none =>
                    rcases h23.new i e1 h1 with h | ⟨h, h'⟩
                    · exact h.elim
                    · exact .inr ⟨by omega, h'⟩
                  | some m1 =>
                    rcases hE01.new i h0 (by rw [e1]; simp) with (h | h) | ⟨h, h'⟩
                    · exact .inr ⟨by omega, by omega⟩
                    · exact .inr ⟨by omega, by omega⟩
                    · exact .inr ⟨h, by omega⟩
                · intro i h0 h1 _
                  have hno : (μ1.upd (256 * s.c) ⟨l, 0, none⟩) i = none := by
                    cases e1 : (μ1.upd (256 * s.c) ⟨l, 0, none⟩) i with
                    | none => rfl
                    | some m1 => rcases hE01.new i h0 (by rw [e1]; simp) with (h | h) | ⟨h, h'⟩ <;> omega
                  rw [h23.af i hno (by omega) (fun h => h), hE01.af i h0 h1 (fun h => by rcases h with h | h <;> omega)]
                · intro b hb hn
                  rw [h23.fr b (Nat.lt_of_lt_of_le hb hE01.size) ?_, hE01.fr b hb hn]
                  intro i m' hi hw' hbb
                  cases e0 : μ i with
                  | some m0 =>
                    have := hE01.mu i m0 e0
                    rw [hi] at this; cases this
                    exact hn i m' e0 (hE01.wrm i m' e0 hw') hbb
                  | none =>
                    rcases hE01.newb i m' e0 hi with h | ⟨j', mj, a1, a2, a3⟩
                    · omega
                    · exact hn j' mj a1 a3 (a2.trans hbb)
                · intro i m' h0 h1
                  cases e1 : (μ1.upd (256 * s.c) ⟨l, 0, none⟩) i with
                  | some m1 =>
                    have := h23.mu i m1 e1
                    rw [h1] at this; cases this
                    exact hE01.newb i m' h0 e1
                  | none =>
                    rcases h23.newb i m' e1 h1 with h | ⟨j', mj, a1, a2, a3⟩
                    · exact .inl (Nat.le_trans hE01.size h)
                    · cases e0 : μ j' with
                      | some m0 =>
                        have := hE01.mu j' m0 e0
                        rw [a1] at this; cases this
                        exact .inr ⟨j', mj, e0, a2, hE01.wrm j' mj e0 a3⟩
                      | none =>
                        rcases hE01.newb j' mj e0 a1 with h | ⟨q, mq, b1, b2, b3⟩
                        · exact .inl (by omega)
                        · exact .inr ⟨q, mq, b1, b2.trans a2, b3⟩
              have hdf2 : DfR μ2 (match s.rd with | none => hd.2 :: s.df | some _ => s.df) (mark ++ a.defers) := by
                have hle2 : μ.le μ2 := fun i m' h' => hEall.mu i m' h'
                have hmm : μ2 hd.2 = some m := hE2.mu _ _ (Mu.le_upd hμ1 _ _ hm)
                cases hrd' : s.rd with
                | none =>
                  obtain ⟨d, rfl, hd'⟩ := hmark.1 hrd'
                  exact .cons hmm hd' (hdf.mono hle2)
                | some l' =>
                  have hmk := hmark.2 l' hrd'
                  subst hmk
                  exact hdf.mono hle2
              have hq := hQ { a with defers := mark ++ a.defers } μ2 _ (ht.mono hEall.mu) hdf2 hEall
              refine ⟨lp.pending, _, hendl, ?_⟩
              revert hq
              generalize ({ w3 with heap := w3.heap.setIfInBounds l (.loop { lp with state := .exhausted }) } : World) = w4
              intro hq
              rw [hL2.pending]
              unfold exOf at hex
              split at hex
              · rename_i hp; cases hex; rw [hp]; exact hq
              · rename_i hp; cases hex; rw [hp]; exact wpIn_ret hq
              · rename_i id' hp; cases hex; rw [hp]; exact wpIn_exit hq
              · cases hex
          · cases h
    · cases h
  | exit id =>
    intro s s' e h μ w a ro n Q ht hR hfr hrd hdf hQ
    simp only [exec, Option.some.injEq, Prod.mk.injEq] at h
    obtain ⟨rfl, rfl⟩ := h
    exact wpIn_exit (hQ a μ w ht hdf (Ext.refl hR))
  | ret =>
    intro s s' e h μ w a ro n Q ht hR hfr hrd hdf hQ
    simp only [exec, Option.some.injEq, Prod.mk.injEq] at h
    obtain ⟨rfl, rfl⟩ := h
    exact wpIn_ret (hQ a μ w ht hdf (Ext.refl hR))
  | bad c =>
    intro s s' e h
    simp [exec] at h

end Go.Ab
