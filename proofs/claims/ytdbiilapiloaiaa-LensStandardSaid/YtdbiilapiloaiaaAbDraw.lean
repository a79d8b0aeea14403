/- A part of the claim's proof: AbDraw. Conditions: none. -/
import Derived.Test.YtdbiilapiloaiaaAbCan
/-! Regions that draw their order. -/
set_option linter.all false
namespace Go.Ab
open Go
set_option linter.unusedVariables false
set_option linter.unusedSimpArgs false
set_option linter.unusedSectionVars false

variable {H : Type} [HeapC H] {H' : Type} [HeapC H'] {P : Program} {μ : Mu} {A : H} {w : World}

theorem R.cong {A' : H'} (hR : R μ A w) (h : ∀ i, μ i ≠ none → HeapC.get A' i = HeapC.get A i) : R μ A' w where
  blk := fun i m hm => by rw [h i (by rw [hm]; simp)]; exact hR.blk i m hm
  inj := fun i j mi mj hi hj hne => by rw [h i (by rw [hi]; simp), h j (by rw [hj]; simp)]; exact hR.inj i j mi mj hi hj hne
  lt := hR.lt

theorem wantedA_congr {ops : Array Oper} {tm tm' : Tm} {oper : Oper} (h : ∀ t ∈ tmpsOf ops oper, tm t = tm' t) : wantedA ops tm oper = wantedA ops tm' oper := by
  unfold wantedA
  cases hg : oper.guard with
  | none => rfl
  | some p =>
    obtain ⟨g, want⟩ := p
    simp only
    cases hd : (ops[g]?).bind (·.dst) with
    | none => rfl
    | some d =>
      have : tm d = tm' d := h d (by simp only [tmpsOf, hg, hd]; simp)
      simp only [Option.bind_some, this]

theorem stepOp_congr {o : Orc H} {ops : Array Oper} {base i nt c : Nat} {tm tm' : Tm} {oper : Oper} (h : ∀ t ∈ tmpsOf ops oper, tm t = tm' t) : stepOp P o ops base i nt tm A c oper = stepOp P o ops base i nt tm' A c oper := by
  simp only [stepOp, wantedA_congr h]
  rw [doOp_congr (tm := tm) (tm' := tm')]
  intro x hx
  refine evalO_congr fun t ht => h t ?_
  subst ht
  simp only [tmpsOf, List.mem_append, List.mem_filterMap]
  exact .inl ⟨_, hx, rfl⟩

theorem plainV_rid {x : Value} (h : plainV x = true) : ridV x = none := by
  unfold plainV at h
  split at h <;> first | rfl | cases h

/-! ### Temporaries of a partial run -/
def tmS (ops : Array Oper) (v : Nat → Value) (tm0 : Tm) (s : Nat → Bool) : Nat → Tm
  | 0 => tm0
  | k + 1 => cond (s k) (putT (tmS ops v tm0 s k) ((ops[k]?).bind (·.dst)) (v k)) (tmS ops v tm0 s k)

def upS (s : Nat → Bool) (j : Nat) : Nat → Bool := fun k => s k || Nat.beq k j

theorem upS_self (s : Nat → Bool) (j : Nat) : upS s j j = true := by simp [upS]
theorem upS_ne {s : Nat → Bool} {j k : Nat} (h : k ≠ j) : upS s j k = s k := by
  have : Nat.beq k j = false := by rw [Bool.eq_false_iff]; intro hh; exact h (Nat.eq_of_beq_eq_true hh)
  simp [upS, this]
theorem upS_true {s : Nat → Bool} {j k : Nat} (h : upS s j k = true) : s k = true ∨ k = j := by
  simp only [upS, Bool.or_eq_true] at h
  exact h.imp id Nat.eq_of_beq_eq_true

theorem putT_ne {tm : Tm} {d : Option Tmp} {x : Value} {t : Nat} (h : d ≠ some t) : putT tm d x t = tm t := by
  cases d with
  | none => rfl
  | some d =>
    have : Nat.beq t d = false := by rw [Bool.eq_false_iff]; intro hh; exact h (by rw [Nat.eq_of_beq_eq_true hh])
    simp [putT, this]
theorem putT_eq {tm tm' : Tm} {d : Option Tmp} {x : Value} {t : Nat} (h : d = some t) : putT tm d x t = putT tm' d x t := by
  subst h; simp [putT]
theorem putT_at {tm tm' : Tm} {d : Option Tmp} {x : Value} {t : Nat} (h : tm t = tm' t) : putT tm d x t = putT tm' d x t := by
  cases d with
  | none => exact h
  | some d => simp only [putT]; cases Nat.beq t d <;> simp [h]

/-- the context of a drawn region -/
structure Cx (P : Program) (o : Orc H) (ops : Array Oper) (base nt : Nat) (f : Nat → Tm × H × Nat) (v : Nat → Value) (M : Nat → Mu) (W : Nat → World) (ts : Nat → Array Value) : Prop where
  reg : regOk ops = true
  tr : Tr P o ops base nt f v
  can : Can ops base nt f v ops.size M W ts
  lw : ∀ i j a b, ops[i]? = some a → ops[j]? = some b → cls a.op = 1 → cls b.op = 3 → (msk ops j).testBit i = false → (msk ops i).testBit j = false →
    ∀ x, rid ops (f i).1 a = some x → HeapC.get (f j).2.1 x = HeapC.get (f (j + 1)).2.1 x

section
variable {o : Orc H} {ops : Array Oper} {base nt : Nat} {f : Nat → Tm × H × Nat} {v : Nat → Value} {M : Nat → Mu} {W : Nat → World} {ts : Nat → Array Value}

theorem getop {ops : Array Oper} {k : Nat} (h : k < ops.size) : ∃ oper, ops[k]? = some oper := ⟨ops[k], Array.getElem?_eq_getElem h⟩
theorem getop_lt {ops : Array Oper} {k : Nat} {oper : Oper} (h : ops[k]? = some oper) : k < ops.size := (Array.getElem?_eq_some_iff.1 h).1

theorem Cx.k256 (cx : Cx P o ops base nt f v M W ts) {k : Nat} (h : k < ops.size) : k < 256 := by
  obtain ⟨oper, ho⟩ := getop h
  obtain ⟨_, _, hlt, _⟩ := stepOp_some (cx.tr.step k oper ho).1
  exact hlt

def closedS (ops : Array Oper) (s : Nat → Bool) : Prop := ∀ k o, s k = true → ops[k]? = some o → ∀ e ∈ o.after.toList, Region.binds .any e = true → s e.on = true

theorem touch_of {ops : Array Oper} {a b : Oper} {t : Nat} (hd : a.dst = some t) (h : t ∈ tmpsOf ops b ∨ b.dst = some t) : touch ops a b = true := by
  simp only [touch, hd, Bool.or_eq_true, List.contains_iff_mem]
  rcases h with h | h
  · exact .inl h
  · exact .inr (by rw [h]; simp)

/-- what an operation reads is what it reads in the order of the text -/
theorem Cx.reads (cx : Cx P o ops base nt f v M W ts) {s : Nat → Bool} (hs : closedS ops s) {j : Nat} {oper : Oper} (hj : ops[j]? = some oper) (hns : s j = false)
    (hp : ∀ e ∈ oper.after.toList, Region.binds .any e = true → s e.on = true) {t : Nat} (ht : t ∈ tmpsOf ops oper) :
    ∀ m, m ≤ ops.size → tmS ops v (f 0).1 s m t = (f (min m j)).1 t := by
  have hE := regOk_edges cx.reg
  intro m
  induction m with
  | zero => intro _; simp [tmS]
  | succ m ih =>
    intro hm
    have ih := ih (by omega)
    obtain ⟨om, hom⟩ := getop (show m < ops.size by omega)
    simp only [tmS, hom, Option.bind_some]
    rcases Nat.lt_trichotomy m j with hlt | heq | hgt
    · have e1 : min (m + 1) j = m + 1 := by omega
      have e2 : min m j = m := by omega
      rw [e2] at ih
      rw [e1, (cx.tr.step m om hom).2]
      by_cases hd : om.dst = some t
      · have hb : s m = true := by
          rcases regOk_pair cx.reg hlt hom hj with hb | ⟨h1, _, _⟩
          · exact msk_closed hE (S := fun k => s k = true) hs j m oper hj hp hb
          · rw [touch_of hd (.inl ht)] at h1; cases h1
        rw [hb]
        exact putT_eq hd
      · rw [putT_ne hd]
        cases s m
        · exact ih
        · simp only [cond_true]; rw [putT_ne hd]; exact ih
    · subst heq
      rw [hns]
      simpa [Nat.min_eq_right] using ih
    · have e1 : min (m + 1) j = j := by omega
      have e2 : min m j = j := by omega
      rw [e2] at ih
      rw [e1, ← ih]
      by_cases hd : om.dst = some t
      · have hb : s m = false := by
          rw [Bool.eq_false_iff]
          intro hsm
          rcases regOk_pair cx.reg hgt hj hom with hb | ⟨_, h1, _⟩
          · have := msk_closed hE (S := fun k => s k = true) hs m j om hom (hs m om hsm hom) hb
            rw [hns] at this; cases this
          · rw [touch_of hd (.inl ht)] at h1; cases h1
        rw [hb]; rfl
      · cases s m
        · rfl
        · simp only [cond_true]; exact putT_ne hd

theorem Cx.read (cx : Cx P o ops base nt f v M W ts) {s : Nat → Bool} (hs : closedS ops s) {j : Nat} {oper : Oper} (hj : ops[j]? = some oper) (hns : s j = false)
    (hp : ∀ e ∈ oper.after.toList, Region.binds .any e = true → s e.on = true) {t : Nat} (ht : t ∈ tmpsOf ops oper) : tmS ops v (f 0).1 s ops.size t = (f j).1 t := by
  rw [cx.reads hs hj hns hp ht ops.size (Nat.le_refl _)]
  have := getop_lt hj
  rw [Nat.min_eq_right (by omega)]

/-- one more operation is done -/
theorem Cx.tmUp (cx : Cx P o ops base nt f v M W ts) {s : Nat → Bool} (hs : closedS ops s) {j : Nat} {oper : Oper} (hj : ops[j]? = some oper) (hns : s j = false) (t : Nat) :
    ∀ m, m ≤ ops.size → tmS ops v (f 0).1 (upS s j) m t = if j < m then putT (tmS ops v (f 0).1 s m) oper.dst (v j) t else tmS ops v (f 0).1 s m t := by
  have hE := regOk_edges cx.reg
  intro m
  induction m with
  | zero => intro _; simp [tmS]
  | succ m ih =>
    intro hm
    have ih := ih (by omega)
    obtain ⟨om, hom⟩ := getop (show m < ops.size by omega)
    simp only [tmS, hom, Option.bind_some]
    rcases Nat.lt_trichotomy m j with hlt | heq | hgt
    · rw [if_neg (by omega)] at ih ⊢
      rw [upS_ne (by omega)]
      cases s m
      · exact ih
      · exact putT_at ih
    · subst heq
      rw [if_neg (by omega)] at ih
      rw [if_pos (by omega), upS_self, hns]
      rw [hj] at hom; cases hom
      exact putT_at ih
    · rw [if_pos (by omega)] at ih ⊢
      rw [upS_ne (by omega)]
      cases hsm : s m
      · exact ih
      · simp only [cond_true]
        by_cases hd : oper.dst = some t
        · have hne : om.dst ≠ some t := by
            intro hd'
            rcases regOk_pair cx.reg hgt hj hom with hb | ⟨h1, _, _⟩
            · have := msk_closed hE (S := fun k => s k = true) hs m j om hom (hs m om hsm hom) hb
              rw [hns] at this; cases this
            · rw [touch_of hd (.inr hd')] at h1; cases h1
          rw [putT_ne hne, ih]
          exact putT_eq hd
        · rw [putT_ne hd] at ih ⊢
          exact putT_at ih

theorem Cx.tmAll (cx : Cx P o ops base nt f v M W ts) {s : Nat → Bool} (hs : ∀ k, k < ops.size → s k = true) : ∀ m, m ≤ ops.size → ∀ t, tmS ops v (f 0).1 s m t = (f m).1 t := by
  intro m
  induction m with
  | zero => intro _ t; rfl
  | succ m ih =>
    intro hm t
    obtain ⟨om, hom⟩ := getop (show m < ops.size by omega)
    simp only [tmS, hom, Option.bind_some, hs m (by omega), cond_true, (cx.tr.step m om hom).2]
    exact putT_at (ih (by omega) t)

/-! ### Heaps of a partial run -/
def vbF (f : Nat → Tm × H × Nat) (base n p : Nat) : FH := ⟨fun i => if 256 * base + p ≤ i ∧ i < 256 * base + n then HeapC.get (f (i - 256 * base + 1)).2.1 i else HeapC.get (f p).2.1 i⟩

theorem vbF_own {n p k : Nat} (h : p ≤ k) (h' : k < n) : HeapC.get (vbF f base n p) (256 * base + k) = HeapC.get (f (k + 1)).2.1 (256 * base + k) := by
  show (if _ then _ else _) = _
  rw [if_pos ⟨by omega, by omega⟩, Nat.add_sub_cancel_left]
theorem vbF_not {n p i : Nat} (h : ¬ (256 * base + p ≤ i ∧ i < 256 * base + n)) : HeapC.get (vbF f base n p) i = HeapC.get (f p).2.1 i := by
  show (if _ then _ else _) = _
  rw [if_neg h]

theorem Cx.vbD (cx : Cx P o ops base nt f v M W ts) {p i : Nat} (hp : p ≤ ops.size) (h : Dn M p i) : HeapC.get (vbF f base ops.size p) i = HeapC.get (f p).2.1 i := by
  refine vbF_not fun hh => cx.can.notown hp h ⟨hh.1, ?_⟩
  have : ops.size ≤ 256 := by
    by_cases e : ops.size = 0
    · omega
    · have := cx.k256 (show ops.size - 1 < ops.size by omega); omega
  omega

/-- no writer -/
def nWr (ops : Array Oper) (k : Nat) : Prop := ∀ oper, ops[k]? = some oper → cls oper.op ≠ 3

theorem Cx.walk1 (cx : Cx P o ops base nt f v M W ts) {k : Nat} (hk : k < ops.size) (h : nWr ops k) :
    (f (k + 1)).2.2 = (f k).2.2 ∧ ∀ i, i ≠ 256 * base + k → HeapC.get (f (k + 1)).2.1 i = HeapC.get (f k).2.1 i := by
  obtain ⟨oper, ho⟩ := getop hk
  obtain ⟨hc, upd, hA, _, _, _⟩ := step_nonW (h oper ho) (cx.tr.step k oper ho).1
  refine ⟨hc, fun i hi => ?_⟩
  rw [hA]
  cases upd with
  | none => rfl
  | some b => simp only [HeapC.get_set, hi, if_false]

theorem Cx.walk (cx : Cx P o ops base nt f v M W ts) {p q : Nat} (hpq : p ≤ q) (hq : q ≤ ops.size) (h : ∀ k, p ≤ k → k < q → nWr ops k) :
    (f q).2.2 = (f p).2.2 ∧ ∀ i, (∀ k, p ≤ k → k < q → i ≠ 256 * base + k) → HeapC.get (f q).2.1 i = HeapC.get (f p).2.1 i := by
  induction q with
  | zero => have : p = 0 := by omega
            subst this; exact ⟨rfl, fun _ _ => rfl⟩
  | succ q ih =>
    by_cases e : p = q + 1
    · subst e; exact ⟨rfl, fun _ _ => rfl⟩
    · obtain ⟨h1, h2⟩ := ih (by omega) (by omega) (fun k a b => h k a (by omega))
      obtain ⟨h3, h4⟩ := cx.walk1 (show q < ops.size by omega) (h q (by omega) (by omega))
      refine ⟨h3.trans h1, fun i hi => ?_⟩
      rw [h4 i (hi q (by omega) (by omega)), h2 i (fun k a b => hi k a (by omega))]

theorem next_ex (ops : Array Oper) : ∀ d p, ops.size - p = d → p ≤ ops.size → ∃ p', p ≤ p' ∧ p' ≤ ops.size ∧ (p' = ops.size ∨ ∃ oper, ops[p']? = some oper ∧ cls oper.op = 3) ∧ ∀ k, p ≤ k → k < p' → nWr ops k := by
  intro d
  induction d with
  | zero => intro p hd hp; exact ⟨p, Nat.le_refl _, hp, .inl (by omega), fun k a b => by omega⟩
  | succ d ih =>
    intro p hd hp
    obtain ⟨oper, ho⟩ := getop (show p < ops.size by omega)
    by_cases hc : cls oper.op = 3
    · exact ⟨p, Nat.le_refl _, hp, .inr ⟨oper, ho, hc⟩, fun k a b => by omega⟩
    · obtain ⟨p', h1, h2, h3, h4⟩ := ih (p + 1) (by omega) (by omega)
      refine ⟨p', by omega, h2, h3, fun k a b => ?_⟩
      by_cases e : k = p
      · subst e; intro oper' ho'; rw [ho] at ho'; cases ho'; exact hc
      · exact h4 k (by omega) b

/-! ### The invariant -/
/-- of a block: new since w0, or one that could be written -/
def Gd (f : Nat → Tm × H × Nat) (μ0 : Mu) (w0 : World) (m : ME) : Prop := w0.heap.size ≤ m.b ∨ ∃ j mj, μ0 j = some mj ∧ mj.b = m.b ∧ wrB (HeapC.get (f 0).2.1 j) = true

structure Inv (ops : Array Oper) (base nt : Nat) (f : Nat → Tm × H × Nat) (v : Nat → Value) (M : Nat → Mu) (μ0 : Mu) (w0 : World) (df : List Deferred) (s : Nat → Bool) (p : Nat) (μ : Mu) (a : Act) (w : World) : Prop where
  hpn : p ≤ ops.size
  pre : ∀ k oper, k < p → ops[k]? = some oper → cls oper.op = 3 → s k = true
  nW : ∀ k, s k = true → p ≤ k → nWr ops k
  wp : p = ops.size ∨ ∃ oper, ops[p]? = some oper ∧ cls oper.op = 3
  cl : closedS ops s
  le0 : μ0.le μ
  dom : ∀ i, μ i ≠ none → Dn M p i ∨ ∃ k, s k = true ∧ p ≤ k ∧ k < ops.size ∧ i = 256 * base + k ∧ wrB (HeapC.get (f (k + 1)).2.1 i) = true ∧ Dn M (k + 1) i
  ny : ∀ k, k < p → s k = false → μ (256 * base + k) = none ∧ HeapC.get (f p).2.1 (256 * base + k) = HeapC.get (f (k + 1)).2.1 (256 * base + k)
  rel : R μ (vbF f base ops.size p) w
  tmr : TmR μ (tmS ops v (f 0).1 s ops.size) nt a.tmps
  df : a.defers = df
  os : w.os = w0.os
  tape : w.tape = w0.tape
  output : w.output = w0.output
  size : w0.heap.size ≤ w.heap.size
  fr : ∀ b, b < w0.heap.size → (∀ i m, μ0 i = some m → wrB (HeapC.get (f 0).2.1 i) = true → m.b ≠ b) → w.heap[b]? = w0.heap[b]?
  newb : ∀ i m, μ0 i = none → μ i = some m → Gd f μ0 w0 m

variable {μ0 : Mu} {w0 : World} {df : List Deferred}

theorem Inv.gd (cx : Cx P o ops base nt f v M W ts) (hM : M 0 = μ0) {s : Nat → Bool} {p : Nat} {a : Act} (I : Inv ops base nt f v M μ0 w0 df s p μ a w) {i : Nat} {m : ME} (hm : μ i = some m)
    (hw : wrB (HeapC.get (vbF f base ops.size p) i) = true) : Gd f μ0 w0 m := by
  cases e : μ0 i with
  | none => exact I.newb i m e hm
  | some m0 =>
    have := I.le0 i m0 e
    rw [hm] at this; cases this
    have hd0 : Dn M 0 i := by unfold Dn; rw [hM, e]; simp
    have hdp := cx.can.mono (Nat.le_refl _) (Nat.zero_le p) I.hpn hd0
    rw [cx.vbD I.hpn hdp] at hw
    exact .inr ⟨i, _, e, rfl, cx.can.wr (Nat.le_refl _) (Nat.zero_le p) I.hpn hd0 hw⟩

theorem Gd.ne {b : Nat} {m : ME} (h : Gd f μ0 w0 m) (hb : b < w0.heap.size) (hn : ∀ i m, μ0 i = some m → wrB (HeapC.get (f 0).2.1 i) = true → m.b ≠ b) : m.b ≠ b := by
  rcases h with h | ⟨j, mj, h1, h2, h3⟩
  · omega
  · rw [← h2]; exact hn j mj h1 h3

theorem closed_up {s : Nat → Bool} (hs : closedS ops s) {j : Nat} {oper : Oper} (hj : ops[j]? = some oper) (hp : ∀ e ∈ oper.after.toList, Region.binds .any e = true → s e.on = true) : closedS ops (upS s j) := by
  intro k o' hk ho e he hb
  have hor : s e.on = true → upS s j e.on = true := fun h => by simp [upS, h]
  rcases upS_true hk with h | rfl
  · exact hor (hs k o' h ho e he hb)
  · rw [hj] at ho; cases ho; exact hor (hp e he hb)

/-- a step that is no writer -/
theorem Inv.step_nw (cx : Cx P o ops base nt f v M W ts) (hM : M 0 = μ0) {s : Nat → Bool} {p : Nat} {a : Act} (I : Inv ops base nt f v M μ0 w0 df s p μ a w) {j : Nat} {oper : Oper} (hj : ops[j]? = some oper) (hns : s j = false)
    (hp : ∀ e ∈ oper.after.toList, Region.binds .any e = true → s e.on = true) (hc : cls oper.op ≠ 3) {ro : Option Nat} {n : Nat} {K : Act → World → Prop} {Q : Exit → Act → World → Prop}
    (hK : ∀ μ' a' w', Inv ops base nt f v M μ0 w0 df (upS s j) p μ' a' w' → K a' w') : wpOpIn (wd ro) n P ops Q j K a w := by
  have hE := regOk_edges cx.reg
  have hjn := getop_lt hj
  have hj256 := cx.k256 hjn
  obtain ⟨hst, hput⟩ := cx.tr.step j oper hj
  obtain ⟨hcc, upd, hA, hu1, hu2, hall⟩ := step_nonW hc hst
  have hread : ∀ t ∈ tmpsOf ops oper, (f j).1 t = tmS ops v (f 0).1 s ops.size t := fun t ht => (cx.read I.cl hj hns hp ht).symm
  have hb0 := cx.can.bc 0 (Nat.zero_le _)
  have hbp : base < (f p).2.2 := cx.can.bc p I.hpn
  -- the heap shows the reader the same
  have hheap : cls oper.op = 1 → ∀ y, rid ops (f j).1 oper = some y → HeapC.get (vbF f base ops.size p) y = HeapC.get (f j).2.1 y := by
    intro h1 y hy
    have hdy : Dn M j y := by
      -- the name stands in a value that the canonical run knows
      have hval : ∃ t x, (f j).1 t = some x ∧ ridV x = some y := by
        have : ∃ z x, evalO (f j).1 z = some x ∧ ridV x = some y := by
          unfold rid at hy
          split at hy
          · unfold ridOf at hy
            split at hy
            · simp only [Option.bind_eq_some_iff] at hy; obtain ⟨x, a1, a2⟩ := hy; exact ⟨_, x, a1, a2⟩
            · simp only [Option.bind_eq_some_iff] at hy; obtain ⟨x, a1, a2⟩ := hy; exact ⟨_, x, a1, a2⟩
            · simp only [Option.bind_eq_some_iff] at hy; obtain ⟨x, a1, a2⟩ := hy; exact ⟨_, x, a1, a2⟩
            · simp only [Option.bind_eq_some_iff] at hy; obtain ⟨z, _, x, a1, a2⟩ := hy; exact ⟨z, x, a1, a2⟩
            · cases hy
          · cases hy
        obtain ⟨z, x, a1, a2⟩ := this
        cases z with
        | tmp t => exact ⟨t, x, a1, a2⟩
        | const cst =>
          simp only [evalO] at a1
          cases hpl : plainV cst with
          | false => simp [hpl] at a1
          | true =>
            simp [hpl] at a1; subst a1
            rw [plainV_rid hpl] at a2; cases a2
        | global g => simp [evalO] at a1
        | func g => simp [evalO] at a1; subst a1; simp [ridV] at a2
      obtain ⟨t, x, hx, hrx⟩ := hval
      obtain ⟨x', _, hv⟩ := (cx.can.tm j (by omega)).val t x hx
      exact hv.rid hrx
    have hny : ∀ k, j ≤ k → k < ops.size → y ≠ 256 * base + k := fun k hk hkn e => cx.can.notown (by omega) hdy ⟨by omega, by have := cx.k256 hkn; omega⟩
    -- one operation of the text changes nothing at y, if it is unordered with the read
    have hone : ∀ k, k < ops.size → (∀ ok, ops[k]? = some ok → cls ok.op = 3 → (msk ops k).testBit j = false ∧ (msk ops j).testBit k = false) → y ≠ 256 * base + k → HeapC.get (f (k + 1)).2.1 y = HeapC.get (f k).2.1 y := by
      intro k hk hun hyk
      obtain ⟨ok, hok⟩ := getop hk
      by_cases h3 : cls ok.op = 3
      · obtain ⟨u1, u2⟩ := hun ok hok h3
        exact (cx.lw j k oper ok hj hok h1 h3 u1 u2 y hy).symm
      · exact (cx.walk1 hk (fun o' ho' => by rw [hok] at ho'; cases ho'; exact h3)).2 y hyk
    -- writers at or behind p are not done
    have hback : ∀ k, p ≤ k → k < j → ∀ ok, ops[k]? = some ok → cls ok.op = 3 → (msk ops k).testBit j = false ∧ (msk ops j).testBit k = false := by
      intro k hpk hkj ok hok h3
      refine ⟨?_, ?_⟩
      · rw [Bool.eq_false_iff]; intro hb; have := msk_lt hE k j hb; omega
      · rw [Bool.eq_false_iff]
        intro hb
        have hsk := msk_closed hE (S := fun k => s k = true) I.cl j k oper hj hp hb
        exact I.nW k hsk hpk ok hok h3
    have hfwd : ∀ k, j ≤ k → k < p → ∀ ok, ops[k]? = some ok → cls ok.op = 3 → (msk ops k).testBit j = false ∧ (msk ops j).testBit k = false := by
      intro k hjk hkp ok hok h3
      refine ⟨?_, ?_⟩
      · rw [Bool.eq_false_iff]; intro hb
        have hsk := I.pre k ok hkp hok h3
        have := msk_closed hE (S := fun k => s k = true) I.cl k j ok hok (I.cl k ok hsk hok) hb
        rw [hns] at this; cases this
      · rw [Bool.eq_false_iff]; intro hb; have := msk_lt hE j k hb; omega
    by_cases hown : 256 * base + p ≤ y ∧ y < 256 * base + ops.size
    · -- a block that this region laid
      obtain ⟨k, rfl⟩ : ∃ k, y = 256 * base + k := ⟨y - 256 * base, by omega⟩
      have hpk : p ≤ k := by omega
      have hkn : k < ops.size := by omega
      have hkj : k < j := by
        by_cases hh : k < j
        · exact hh
        · exact absurd rfl (hny k (by omega) hkn)
      rw [vbF_own hpk hkn]
      have : ∀ q, k + 1 ≤ q → q ≤ j → HeapC.get (f q).2.1 (256 * base + k) = HeapC.get (f (k + 1)).2.1 (256 * base + k) := by
        intro q
        induction q with
        | zero => intro h; omega
        | succ q ih =>
          intro h h'
          by_cases e : k = q
          · subst e; rfl
          · rw [hone q (by omega) (hback q (by omega) (by omega)) (by omega), ih (by omega) (by omega)]
      exact (this j (by omega) (Nat.le_refl _)).symm
    · rw [vbF_not hown]
      by_cases hpj : p ≤ j
      · have : ∀ q, p ≤ q → q ≤ j → HeapC.get (f q).2.1 y = HeapC.get (f p).2.1 y := by
          intro q
          induction q with
          | zero => intro h _; have : p = 0 := by omega
                    subst this; rfl
          | succ q ih =>
            intro h h'
            by_cases e : p = q + 1
            · subst e; rfl
            · rw [hone q (by omega) (hback q (by omega) (by omega)) (by omega), ih (by omega) (by omega)]
        exact (this j hpj (Nat.le_refl _)).symm
      · have : ∀ q, j ≤ q → q ≤ p → HeapC.get (f q).2.1 y = HeapC.get (f j).2.1 y := by
          have hpn := I.hpn
          intro q
          induction q with
          | zero => intro h _; have : j = 0 := by omega
                    subst this; rfl
          | succ q ih =>
            intro h h'
            by_cases e : j = q + 1
            · subst e; rfl
            · rw [hone q (by omega) (hfwd q (by omega) (by omega)) (hny q (by omega) (by omega)), ih (by omega) (by omega)]
        exact this p (by omega) (Nat.le_refl _)
  have hFH := hall (H' := FH) (fun _ _ _ _ _ => none) (tmS ops v (f 0).1 s ops.size) (vbF f base ops.size p) (f p).2.2 hread hheap
  have hON : OS (H := FH) P (fun _ _ _ _ _ => none) := ⟨(fun _ _ _ _ _ _ h => by cases h), (fun _ _ _ _ _ _ _ _ _ _ _ _ h => by cases h)⟩
  have hid : μ (256 * base + j) = none := by
    cases e : μ (256 * base + j) with
    | none => rfl
    | some m =>
      by_cases hjp : j < p
      · have := (I.ny j hjp hns).1; rw [e] at this; cases this
      · rcases I.dom _ (by rw [e]; simp) with hD | ⟨k, h1, _, _, h2, _⟩
        · exact absurd ⟨by omega, by omega⟩ (cx.can.notown I.hpn hD)
        · have : k = j := by omega
          subst this; rw [hns] at h1; cases h1
  have hfresh : Fresh μ (f p).2.2 := by
    intro i hi
    cases e : μ i with
    | none => rfl
    | some m =>
      rcases I.dom i (by rw [e]; simp) with hD | ⟨k, _, _, h1, h2, _⟩
      · have := cx.can.lt I.hpn hD; omega
      · have := cx.k256 h1; omega
  refine step_wp hON hj hFH I.tmr I.rel hid hfresh fun v' μ1 w1 hv hE1 => hK μ1 _ w1 ?_
  have hnewid : ∀ i, μ i = none → μ1 i ≠ none → i = 256 * base + j ∧ 2 ≤ cls oper.op ∧ wantedA ops (f j).1 oper = some true := by
    intro i h0 h1
    rcases hE1.new i h0 h1 with ⟨h, h2, h3⟩ | ⟨h, h'⟩
    · exact ⟨h, h2, by rw [wantedA_congr hread]; exact h3⟩
    · omega
  have hupd : ∀ i, μ i = none → μ1 i ≠ none → ∃ b, upd = some b ∧ wrB (some b) = true ∧ ridV (v j) = some (256 * base + j) := by
    intro i h0 h1
    obtain ⟨_, h2, h3⟩ := hnewid i h0 h1
    rcases hu1 with h | ⟨b, hb, hw, hr, _, _⟩
    · exact absurd ⟨h2, h3⟩ (hu2 h)
    · exact ⟨b, hb, hw, hr⟩
  have hgd : ∀ i m, μ0 i = none → μ1 i = some m → Gd f μ0 w0 m := by
    intro i m h0 h1
    cases e : μ i with
    | some m' =>
      have := hE1.mu i m' e
      rw [h1] at this; cases this
      exact I.newb i _ h0 e
    | none =>
      rcases hE1.newb i m e h1 with h | ⟨k, mk, hk, hkb, hkw⟩
      · exact .inl (Nat.le_trans I.size h)
      · have := I.gd cx hM hk hkw
        unfold Gd at this ⊢
        rw [← hkb]; exact this
  refine { hpn := I.hpn, pre := ?_, nW := ?_, wp := I.wp, cl := closed_up I.cl hj hp, le0 := fun i m h => hE1.mu i m (I.le0 i m h), dom := ?_, ny := ?_, rel := ?_, tmr := ?_, df := ?_,
           os := hE1.os.trans I.os, tape := hE1.tape.trans I.tape, output := hE1.output.trans I.output, size := Nat.le_trans I.size hE1.size, fr := ?_, newb := hgd }
  · intro k ok hk hok h3
    have := I.pre k ok hk hok h3
    simp [upS, this]
  · intro k hk hpk
    rcases upS_true hk with h | rfl
    · exact I.nW k h hpk
    · intro o' ho'; rw [hj] at ho'; cases ho'; exact hc
  · intro i hi
    cases e : μ i with
    | some m =>
      rcases I.dom i (by rw [e]; simp) with hD | ⟨k, h1, h2⟩
      · exact .inl hD
      · exact .inr ⟨k, by simp [upS, h1], h2⟩
    | none =>
      obtain ⟨b, hb, hw, hr⟩ := hupd i e hi
      obtain ⟨rfl, _, _⟩ := hnewid i e hi
      have hDj : Dn M (j + 1) (256 * base + j) := by
        obtain ⟨x', hx⟩ := cx.can.val j hjn
        exact hx.rid hr
      by_cases hjp : j < p
      · exact .inl (cx.can.mono (Nat.le_refl _) (show j + 1 ≤ p by omega) I.hpn hDj)
      · refine .inr ⟨j, upS_self s j, by omega, hjn, rfl, ?_, hDj⟩
        rw [hA, hb]
        simp only [HeapC.get_set, if_true]
        exact hw
  · intro k hk hsk
    have hkj : k ≠ j := by intro e; subst e; rw [upS_self] at hsk; cases hsk
    rw [upS_ne hkj] at hsk
    obtain ⟨h1, h2⟩ := I.ny k hk hsk
    refine ⟨?_, h2⟩
    cases e : μ1 (256 * base + k) with
    | none => rfl
    | some m =>
      have := (hnewid _ h1 (by rw [e]; simp)).1
      omega
  · refine hE1.rel.cong fun i hi => ?_
    cases hu : upd with
    | none => rfl
    | some b =>
      simp only
      rw [HeapC.get_set]
      by_cases e : i = 256 * base + j
      · subst e
        have hAb : HeapC.get (f (j + 1)).2.1 (256 * base + j) = some b := by rw [hA, hu]; simp only [HeapC.get_set, if_true]
        simp only [if_true]
        by_cases hjp : j < p
        · rw [vbF_not (by omega), (I.ny j hjp hns).2, hAb]
        · rw [vbF_own (by omega) hjn, hAb]
      · simp only [e, if_false]
  · obtain ⟨_, _, _, hd, _⟩ := stepOp_some hst
    have h0 := TmR.put (a := a) (I.tmr.mono hE1.mu) hd hv
    refine ⟨h0.size, fun t x hx => h0.val t x ?_⟩
    rw [cx.tmUp I.cl hj hns t ops.size (Nat.le_refl _), if_pos hjn] at hx
    exact hx
  · rw [← I.df]; cases oper.dst <;> rfl
  · intro b hb hn
    rw [hE1.fr b (Nat.lt_of_lt_of_le hb I.size) ?_, I.fr b hb hn]
    intro i m hm hw
    exact (I.gd cx hM hm hw).ne hb hn
end

end Go.Ab
