/- A part of the claim's proof: AbReg. Conditions: none. -/
import Derived.Test.YtdbiilapiloaiaaAbSup
/-! Regions in the order of the text. -/
set_option linter.all false
namespace Go.Ab
open Go
set_option linter.unusedVariables false
set_option linter.unusedSimpArgs false
set_option linter.unusedSectionVars false

variable {H : Type} [HeapC H] {P : Program} {μ : Mu} {A : H} {w : World}

theorem stepOp_some {o : Orc H} {ops : Array Oper} {base i nt : Nat} {tm : Tm} {h : H} {c : Nat} {op : Oper} {r : Value × H × Nat} (e : stepOp P o ops base i nt tm h c op = some r) :
    ∃ b, wantedA ops tm op = some b ∧ i < 256 ∧ (∀ d, op.dst = some d → d < nt) ∧ ((b = true ∧ doOp P o (256 * base + i) tm h c op.op = some r) ∨ (b = false ∧ r = (undef, h, c))) := by
  simp only [stepOp, Option.bind_eq_some_iff] at e
  obtain ⟨b, hb, e⟩ := e
  obtain ⟨hg, e1⟩ := cond_some e
  clear e
  simp only [Bool.and_eq_true] at hg
  refine ⟨b, hb, by have := hg.1; simp [Nat.blt] at this; omega, fun d hd => ?_, ?_⟩
  · have := hg.2
    rw [hd] at this
    have h2 : Nat.ble (d + 1) nt = true := this
    exact Nat.le_of_ble_eq_true h2
  · cases b
    · exact .inr ⟨rfl, by cases e1; rfl⟩
    · exact .inl ⟨rfl, e1⟩

theorem VR.undef (μ : Mu) : VR μ Go.undef Go.undef := VR.tuple_iff.2 (VRs.nil μ)

theorem step_wp {o : Orc H} (hO : OS P o) {ops : Array Oper} {base i nt c c' : Nat} {tm : Tm} {oper : Oper} {v : Value} {A' : H} {a : Act} (hi : ops[i]? = some oper)
    (e : stepOp P o ops base i nt tm A c oper = some (v, A', c')) (ht : TmR μ tm nt a.tmps) (hR : R μ A w) (hid : μ (256 * base + i) = none) (hfr : Fresh μ c)
    {ro : Option Nat} {n : Nat} {K : Act → World → Prop} {Q : Exit → Act → World → Prop}
    (hK : ∀ v' μ' w', VR μ' v v' → Ext μ A c w (fun j => j = 256 * base + i ∧ 2 ≤ cls oper.op ∧ wantedA ops tm oper = some true) μ' A' c' w' → K (a.put oper.dst v') w') : wpOpIn (wd ro) n P ops Q i K a w := by
  obtain ⟨b, hb, hlt, hd, he⟩ := stepOp_some e
  have hw := wantedA_sim (a := a) hb (fun j want d v' _ _ hv => let ⟨v'', h1, h2⟩ := ht.val d v' hv; ⟨v'', h1, μ, h2⟩)
  simp only [wpOpIn, hi, hw]
  rcases he with ⟨rfl, he⟩ | ⟨rfl, he⟩
  · simp only [if_true]
    exact doOp_sim hO he ht hR hid hfr (fun v' μ' w' hv hE => hK v' μ' w' hv (hE.weaken (fun j h => ⟨h.1, h.2, hb⟩)))
  · cases he
    simp only [Bool.false_eq_true, if_false]
    exact ⟨fun _ _ => trivial, hK _ μ w (VR.undef μ) (Ext.refl hR)⟩

theorem wpOpIn_ex {ops : Array Oper} {i : Nat} {K : Act → World → Prop} {a : Act} (h : wpOpIn (wd none) 0 P ops (fun _ _ _ => False) i K a w) : ∃ a' w', K a' w' := by
  have hfalse : ¬ LetsOut (fun (_ : Exit) (_ : Act) (_ : World) => False) := fun ⟨_, _, h⟩ => h
  unfold wpOpIn at h
  split at h
  · exact ⟨_, _, h⟩
  · rename_i o ho
    split at h
    · have h2 := h.2
      generalize (o.semAt (wd none).round a.eval).run P w = r at h2
      cases r with
      | ok x w' =>
        cases x with
        | enter f args =>
          obtain ⟨e, w'', fr, hr, _⟩ := h2.2.2 [] (room_wide _)
          cases e with
          | returned v => exact ⟨_, _, hr⟩
          | panicked ch => exact hr.elim
          | outgrown => exact (hfalse hr).elim
        | row row args =>
          obtain ⟨v, w'', hr, _⟩ := h2.2 default [] (room_wide _)
          exact ⟨_, _, hr⟩
        | round l f tmps as bd =>
          obtain ⟨e, w'', hr, _⟩ := h2.2.2 default [] (room_wide _)
          cases e with
          | returned v => exact ⟨_, _, hr⟩
          | panicked ch => exact hr.elim
          | outgrown => exact (hfalse hr).elim
        | value v => exact ⟨_, _, h2⟩
        | skip => exact ⟨_, _, h2⟩
        | defer d => exact ⟨_, _, h2⟩
        | _ => exact h2.elim
      | halt x w' =>
        cases x <;> exact h2.elim
    · exact ⟨_, _, h.2⟩

/-- the names that a region's operations may give, from the i-th on -/
def ownF (base i : Nat) (j : Nat) : Prop := 256 * base + i ≤ j ∧ j < 256 * base + 256

theorem runOps_wp {o : Orc H} (hO : OS P o) {ops : Array Oper} {base nt : Nat} {ro : Option Nat} {n : Nat} {Q : Exit → Act → World → Prop} :
    ∀ (rest : List Oper) (i : Nat) (tm : Tm) (A : H) (c : Nat) (tm' : Tm) (A' : H) (c' : Nat) (μ : Mu) (w : World) (a : Act),
    runOps P o ops base nt rest i tm A c = some (tm', A', c') → (∀ k, rest[k]? = ops[i + k]?) → TmR μ tm nt a.tmps → R μ A w → Fresh μ c → (∀ j, ownF base i j → μ j = none) → base < c →
    (∀ a' μ' w', TmR μ' tm' nt a'.tmps → a'.defers = a.defers → Ext μ A c w (ownF base i) μ' A' c' w' → Q .normal a' w') →
    wpOpsIn (wd ro) n P ops Q (List.range' i rest.length) a w
  | [], i, tm, A, c, tm', A', c', μ, w, a, e, hr, ht, hR, hfr, hown, hbc, hQ => by
    simp only [runOps, Option.some.injEq, Prod.mk.injEq] at e
    obtain ⟨rfl, rfl, rfl⟩ := e
    exact hQ a μ w ht rfl (Ext.refl hR)
  | oper :: rest, i, tm, A, c, tm', A', c', μ, w, a, e, hr, ht, hR, hfr, hown, hbc, hQ => by
    simp only [runOps, Option.bind_eq_some_iff] at e
    obtain ⟨⟨v, A1, c1⟩, h1, h2⟩ := e
    have hi : ops[i]? = some oper := by have := hr 0; simpa using this.symm
    obtain ⟨_, _, hlt, hd, _⟩ := stepOp_some h1
    rw [List.length_cons, List.range'_succ, wpOpsIn_cons]
    have hid : μ (256 * base + i) = none := hown _ ⟨by omega, by omega⟩
    refine step_wp hO hi h1 ht hR hid hfr fun v' μ1 w1 hv hE0 => ?_
    have hE := hE0.weaken (own' := fun j => j = 256 * base + i) (fun j h => h.1)
    have hm := hE.mu
    have ht1 : TmR μ1 (putT tm oper.dst v) nt (a.put oper.dst v').tmps := (ht.mono hm).put hd hv
    have hfr1 : Fresh μ1 c1 := hE.fresh hfr (fun j hj => by omega)
    refine runOps_wp hO rest (i + 1) _ A1 c1 tm' A' c' μ1 w1 _ h2 (fun k => by have := hr (k + 1); simp at this; rw [this]; congr 1; omega) ht1 hE.rel hfr1 ?_ (by have := hE.cle; omega) ?_
    · intro j hj
      cases e : μ1 j with
      | none => rfl
      | some m =>
        have h0 := hown j ⟨by have := hj.1; omega, hj.2⟩
        rcases hE.new j h0 (by rw [e]; simp) with h | ⟨h, _⟩
        · have := hj.1; omega
        · have := hj.2; omega
    · intro a' μ' w' h3 h4 h5
      refine hQ a' μ' w' h3 (by rw [h4]; cases oper.dst <;> rfl) ?_
      refine (hE.trans h5 (fun j hj => by omega) (fun j hj => .inr hj)).weaken ?_
      rintro j (rfl | hj)
      · exact ⟨by omega, by omega⟩
      · exact ⟨by have := hj.1; omega, hj.2⟩

/-! ### The trace of a region -/
/-- The states ahead of each operation. -/
structure Tr (P : Program) (o : Orc H) (ops : Array Oper) (base nt : Nat) (f : Nat → Tm × H × Nat) (v : Nat → Value) : Prop where
  step : ∀ k oper, ops[k]? = some oper → stepOp P o ops base k nt (f k).1 (f k).2.1 (f k).2.2 oper = some (v k, (f (k + 1)).2.1, (f (k + 1)).2.2) ∧ (f (k + 1)).1 = putT (f k).1 oper.dst (v k)

theorem runOps_tr {o : Orc H} {ops : Array Oper} {base nt : Nat} : ∀ (rest : List Oper) (i : Nat) (tm : Tm) (A : H) (c : Nat) (tm' : Tm) (A' : H) (c' : Nat),
    runOps P o ops base nt rest i tm A c = some (tm', A', c') → ∃ (f : Nat → Tm × H × Nat) (v : Nat → Value), f i = (tm, A, c) ∧ f (i + rest.length) = (tm', A', c') ∧
      ∀ k oper, rest[k]? = some oper → stepOp P o ops base (i + k) nt (f (i + k)).1 (f (i + k)).2.1 (f (i + k)).2.2 oper = some (v (i + k), (f (i + k + 1)).2.1, (f (i + k + 1)).2.2) ∧ (f (i + k + 1)).1 = putT (f (i + k)).1 oper.dst (v (i + k))
  | [], i, tm, A, c, tm', A', c', e => by
    simp only [runOps, Option.some.injEq] at e
    exact ⟨fun _ => (tm, A, c), fun _ => undef, rfl, e, by simp⟩
  | oper :: rest, i, tm, A, c, tm', A', c', e => by
    simp only [runOps, Option.bind_eq_some_iff] at e
    obtain ⟨⟨v, A1, c1⟩, h1, h2⟩ := e
    obtain ⟨f, vs, h3, h4, h5⟩ := runOps_tr rest (i + 1) _ A1 c1 tm' A' c' h2
    refine ⟨fun k => if k ≤ i then (tm, A, c) else f k, fun k => if k ≤ i then v else vs k, by simp, ?_, ?_⟩
    · simp only [List.length_cons]
      rw [if_neg (by omega), ← h4]
      congr 1; omega
    · intro k op hk
      cases k with
      | zero =>
        simp only [List.getElem?_cons_zero, Option.some.injEq] at hk
        subst hk
        simp only [Nat.add_zero, Nat.le_refl, if_true]
        rw [if_neg (by omega), h3]
        exact ⟨h1, rfl⟩
      | succ k =>
        simp only [List.getElem?_cons_succ] at hk
        have := h5 k op hk
        have e1 : i + (k + 1) = i + 1 + k := by omega
        have e2 : ¬ (i + 1 + k ≤ i) := by omega
        have e3 : ¬ (i + 1 + k + 1 ≤ i) := by omega
        simp only [e1, e2, e3, if_false]
        exact this

theorem runOpsT_runOps {o : Orc H} {ops : Array Oper} {base nt : Nat} : ∀ (rest : List Oper) (i : Nat) (tm : Tm) (A : H) (c : Nat) (q : Tm × H × Nat × List (Option Nat × H)),
    runOpsT P o ops base nt rest i tm A c = some q → runOps P o ops base nt rest i tm A c = some (q.1, q.2.1, q.2.2.1)
  | [], i, tm, A, c, q, e => by simp only [runOpsT, Option.some.injEq] at e; subst e; rfl
  | oper :: rest, i, tm, A, c, q, e => by
    simp only [runOpsT, Option.bind_eq_some_iff] at e
    obtain ⟨r, h1, q', h2, e⟩ := e
    cases e
    simp only [runOps, Option.bind_eq_some_iff]
    exact ⟨r, h1, runOpsT_runOps rest (i + 1) _ _ _ q' h2⟩

/-- what the trace list says, in terms of any trace of the same run -/
theorem runOpsT_list {o : Orc H} {ops : Array Oper} {base nt : Nat} : ∀ (rest : List Oper) (i : Nat) (tm : Tm) (A : H) (c : Nat) (q : Tm × H × Nat × List (Option Nat × H)) (f : Nat → Tm × H × Nat) (v : Nat → Value),
    runOpsT P o ops base nt rest i tm A c = some q → f i = (tm, A, c) →
    (∀ k oper, rest[k]? = some oper → stepOp P o ops base (i + k) nt (f (i + k)).1 (f (i + k)).2.1 (f (i + k)).2.2 oper = some (v (i + k), (f (i + k + 1)).2.1, (f (i + k + 1)).2.2) ∧ (f (i + k + 1)).1 = putT (f (i + k)).1 oper.dst (v (i + k))) →
    (∀ k oper, rest[k]? = some oper → q.2.2.2[k]? = some (rid ops (f (i + k)).1 oper, (f (i + k)).2.1)) ∧ (∃ x, q.2.2.2[rest.length]? = some (x, (f (i + rest.length)).2.1))
  | [], i, tm, A, c, q, f, v, e, h0, hs => by
    simp only [runOpsT, Option.some.injEq] at e
    subst e
    exact ⟨by simp, none, by simp [h0]⟩
  | oper :: rest, i, tm, A, c, q, f, v, e, h0, hs => by
    simp only [runOpsT, Option.bind_eq_some_iff] at e
    obtain ⟨r, h1, q', h2, e⟩ := e
    cases e
    have hs0 := hs 0 oper (by simp)
    simp only [Nat.add_zero, h0] at hs0
    rw [h1] at hs0
    obtain ⟨hs1, hs2⟩ := hs0
    cases hs1
    have hf1 : f (i + 1) = (putT tm oper.dst (v i), (f (i + 1)).2.1, (f (i + 1)).2.2) := by rw [← hs2]
    obtain ⟨h3, h4⟩ := runOpsT_list rest (i + 1) _ _ _ q' f v h2 hf1 (fun k op hk => by
      have := hs (k + 1) op (by simpa using hk)
      have e1 : i + (k + 1) = i + 1 + k := by omega
      rw [e1] at this
      exact this)
    refine ⟨fun k op hk => ?_, ?_⟩
    · cases k with
      | zero => simp at hk; subst hk; simp [h0]
      | succ k =>
        have := h3 k op (by simpa using hk)
        have e1 : i + (k + 1) = i + 1 + k := by omega
        rw [e1]
        simpa using this
    · obtain ⟨x, hx⟩ := h4
      refine ⟨x, ?_⟩
      have e1 : i + (oper :: rest).length = i + 1 + rest.length := by simp; omega
      rw [e1]
      simpa using hx

/-! ### Masks -/
theorem maskOf_bit {acc : List Nat} {o : Oper} {i : Nat} : (maskOf acc o).testBit i = true ↔ ∃ e ∈ o.after.toList, Region.binds .any e = true ∧ (i = e.on ∨ (acc.getD e.on 0).testBit i = true) := by
  unfold maskOf
  suffices h : ∀ (l : List Edge) (s : Nat), (l.foldl (fun s e => cond (Region.binds .any e) (s ||| (2 ^ e.on) ||| acc.getD e.on 0) s) s).testBit i = true ↔
      s.testBit i = true ∨ ∃ e ∈ l, Region.binds .any e = true ∧ (i = e.on ∨ (acc.getD e.on 0).testBit i = true) by
    rw [h]; simp
  intro l
  induction l with
  | nil => intro s; simp
  | cons e l ih =>
    intro s
    rw [List.foldl_cons, ih]
    cases hb : Region.binds .any e with
    | false => simp [hb]
    | true =>
      simp only [cond_true, Nat.testBit_or, Bool.or_eq_true, Nat.testBit_two_pow, decide_eq_true_eq, List.mem_cons, exists_eq_or_imp, hb, true_and]
      constructor
      · rintro (((h | h) | h) | h)
        · exact .inl h
        · exact .inr (.inl (.inl h.symm))
        · exact .inr (.inl (.inr h))
        · exact .inr (.inr h)
      · rintro (h | (h | h) | h)
        · exact .inl (.inl (.inl h))
        · exact .inl (.inl (.inr h.symm))
        · exact .inl (.inr h)
        · exact .inr h

theorem masks_spec : ∀ (l : List Oper) (acc : List Nat), ∃ r, masks l acc = acc ++ r ∧ r.length = l.length ∧ ∀ k o, l[k]? = some o → (acc ++ r).getD (acc.length + k) 0 = maskOf ((acc ++ r).take (acc.length + k)) o
  | [], acc => ⟨[], by simp [masks], rfl, by simp⟩
  | o :: rest, acc => by
    obtain ⟨r, h1, h2, h3⟩ := masks_spec rest (acc ++ [maskOf acc o])
    refine ⟨maskOf acc o :: r, by simp [masks, h1], by simp [h2], fun k o' hk => ?_⟩
    cases k with
    | zero =>
      simp at hk; subst hk
      simp [List.getD_eq_getElem?_getD]
    | succ k =>
      have := h3 k o' (by simpa using hk)
      simp only [List.length_append, List.length_cons, List.length_nil, List.append_assoc, List.cons_append, List.nil_append] at this
      have e1 : acc.length + (k + 1) = acc.length + (0 + 1) + k := by omega
      rw [e1]
      exact this

def msk (ops : Array Oper) (j : Nat) : Nat := (masks ops.toList []).getD j 0

theorem msk_eq {ops : Array Oper} {j : Nat} {o : Oper} (h : ops[j]? = some o) : msk ops j = maskOf ((masks ops.toList []).take j) o := by
  obtain ⟨r, h1, h2, h3⟩ := masks_spec ops.toList []
  have := h3 j o (by simpa using h)
  simp only [List.nil_append, List.length_nil, Nat.zero_add] at this
  simp only [msk, h1, List.nil_append]
  exact this

theorem edgesOk_spec : ∀ (l : List Oper) (i : Nat), edgesOk l i = true → ∀ k o, l[k]? = some o → ∀ e ∈ o.after.toList, Region.binds .any e = true → e.on < i + k
  | [], i, h, k, o, hk, e, he, hb => by simp at hk
  | x :: l, i, h, k, o, hk, e, he, hb => by
    simp only [edgesOk, Bool.and_eq_true] at h
    cases k with
    | zero =>
      simp at hk; subst hk
      have := List.all_eq_true.1 h.1 e he
      simp [hb, Nat.blt] at this
      omega
    | succ k =>
      have := edgesOk_spec l (i + 1) h.2 k o (by simpa using hk) e he hb
      omega

theorem msk_bit {ops : Array Oper} (hE : edgesOk ops.toList 0 = true) {j i : Nat} {o : Oper} (h : ops[j]? = some o) :
    (msk ops j).testBit i = true ↔ ∃ e ∈ o.after.toList, Region.binds .any e = true ∧ (i = e.on ∨ (msk ops e.on).testBit i = true) := by
  rw [msk_eq h, maskOf_bit]
  constructor <;> rintro ⟨e, h1, h2, h3⟩ <;> refine ⟨e, h1, h2, h3.imp id fun h3 => ?_⟩
  all_goals
    have hlt := edgesOk_spec _ 0 hE j o (by simpa using h) e h1 h2
    simp only [List.getD_eq_getElem?_getD, msk] at h3 ⊢
    simp only [Nat.zero_add] at hlt
    simpa [List.getElem?_take, hlt] using h3

/-- Bits of a mask lie below, and in any set that is closed downwards. -/
theorem msk_lt {ops : Array Oper} (hE : edgesOk ops.toList 0 = true) : ∀ (j i : Nat), (msk ops j).testBit i = true → i < j := by
  intro j
  induction j using Nat.strongRecOn with
  | _ j ih =>
    intro i hb
    cases ho : ops[j]? with
    | none =>
      exfalso
      obtain ⟨r, h1, h2, _⟩ := masks_spec ops.toList []
      have : ops.size ≤ j := by simpa using ho
      simp [msk, h1, List.getD_eq_getElem?_getD, List.getElem?_eq_none (show r.length ≤ j by simp [h2]; exact this)] at hb
    | some o =>
      obtain ⟨e, h1, h2, h3⟩ := (msk_bit hE ho).1 hb
      have hlt := edgesOk_spec _ 0 hE j o (by simpa using ho) e h1 h2
      rcases h3 with rfl | h3
      · omega
      · have := ih e.on (by omega) i h3
        omega

theorem msk_closed {ops : Array Oper} (hE : edgesOk ops.toList 0 = true) {S : Nat → Prop} (hS : ∀ k o, S k → ops[k]? = some o → ∀ e ∈ o.after.toList, Region.binds .any e = true → S e.on) :
    ∀ (j i : Nat) (o : Oper), ops[j]? = some o → (∀ e ∈ o.after.toList, Region.binds .any e = true → S e.on) → (msk ops j).testBit i = true → S i := by
  intro j
  induction j using Nat.strongRecOn with
  | _ j ih =>
    intro i o ho hpred hb
    obtain ⟨e, h1, h2, h3⟩ := (msk_bit hE ho).1 hb
    have hlt := edgesOk_spec _ 0 hE j o (by simpa using ho) e h1 h2
    have hse := hpred e h1 h2
    rcases h3 with rfl | h3
    · exact hse
    · have : ∃ o', ops[e.on]? = some o' := by
        have : j < ops.size := (Array.getElem?_eq_some_iff.1 ho).1
        exact ⟨ops[e.on]'(by omega), Array.getElem?_eq_getElem (by omega)⟩
      obtain ⟨o', ho'⟩ := this
      exact ih e.on (by omega) i o' ho' (hS _ _ hse ho') h3

theorem below_spec {n : Nat} {p : Nat → Bool} (h : below n p = true) : ∀ i, i < n → p i = true := by
  induction n with
  | zero => intro i hi; omega
  | succ n ih =>
    have h' : (p n && below n p) = true := h
    simp only [Bool.and_eq_true] at h'
    intro i hi
    by_cases e : i = n
    · subst e; exact h'.1
    · exact ih h'.2 i (by omega)

theorem regOk_pair {ops : Array Oper} (h : regOk ops = true) {i j : Nat} {a b : Oper} (hij : i < j) (ha : ops[i]? = some a) (hb : ops[j]? = some b) :
    (msk ops j).testBit i = true ∨ (touch ops a b = false ∧ touch ops b a = false ∧ ¬ (cls a.op = 3 ∧ cls b.op = 3)) := by
  simp only [regOk, Bool.and_eq_true] at h
  have h2 := below_spec (below_spec h.2 j (Array.getElem?_eq_some_iff.1 hb).1) i hij
  simp only [pairOk, ha, hb, Bool.or_eq_true, Bool.and_eq_true, Bool.not_eq_true'] at h2
  rcases h2 with h2 | h2
  · exact .inl h2
  · refine .inr ⟨h2.1.1, h2.1.2, fun hh => ?_⟩
    have := h2.2
    rw [hh.1, hh.2] at this
    simp at this

theorem regOk_edges {ops : Array Oper} (h : regOk ops = true) : edgesOk ops.toList 0 = true := by
  simp only [regOk, Bool.and_eq_true] at h; exact h.1

end Go.Ab
