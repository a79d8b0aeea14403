/- A part of the claim's proof: AbCan. Conditions: none. -/
import Derived.Test.YtdbiilapiloaiaaAbReg
/-! The canonical run of a region: what the abstract trace is known to name. -/
set_option linter.all false
namespace Go.Ab
open Go
set_option linter.unusedVariables false
set_option linter.unusedSimpArgs false
set_option linter.unusedSectionVars false

variable {H : Type} [HeapC H] {P : Program} {μ : Mu} {A : H} {w : World}

/-- the canonical run, up to the n-th operation -/
structure Can (ops : Array Oper) (base nt : Nat) (f : Nat → Tm × H × Nat) (v : Nat → Value) (n : Nat) (M : Nat → Mu) (W : Nat → World) (ts : Nat → Array Value) : Prop where
  tm : ∀ k, k ≤ n → TmR (M k) (f k).1 nt (ts k)
  rel : ∀ k, k ≤ n → R (M k) (f k).2.1 (W k)
  fresh : ∀ k, k ≤ n → Fresh (M k) (f k).2.2
  own : ∀ k, k ≤ n → ∀ j, ownF base k j → M k j = none
  bc : ∀ k, k ≤ n → base < (f k).2.2
  ext : ∀ k, k < n → ∀ oper, ops[k]? = some oper → Ext (M k) (f k).2.1 (f k).2.2 (W k) (fun j => j = 256 * base + k ∧ 2 ≤ cls oper.op ∧ wantedA ops (f k).1 oper = some true) (M (k + 1)) (f (k + 1)).2.1 (f (k + 1)).2.2 (W (k + 1))
  val : ∀ k, k < n → ∃ v', VR (M (k + 1)) (v k) v'

theorem can_ex {o : Orc H} (hO : OS P o) {ops : Array Oper} {base nt : Nat} {f : Nat → Tm × H × Nat} {v : Nat → Value} (hT : Tr P o ops base nt f v)
    {μ0 : Mu} {w0 : World} {a0 : Act} (ht : TmR μ0 (f 0).1 nt a0.tmps) (hR : R μ0 (f 0).2.1 w0) (hfr : Fresh μ0 (f 0).2.2) (hown : ∀ j, ownF base 0 j → μ0 j = none) (hbc : base < (f 0).2.2) :
    ∀ n, n ≤ ops.size → ∃ M W ts, M 0 = μ0 ∧ W 0 = w0 ∧ Can ops base nt f v n M W ts := by
  intro n
  induction n with
  | zero =>
    intro _
    refine ⟨fun _ => μ0, fun _ => w0, fun _ => a0.tmps, rfl, rfl, ?_, ?_, ?_, ?_, ?_, ?_, ?_⟩
    · intro k hk; have : k = 0 := by omega
      subst this; exact ht
    · intro k hk; have : k = 0 := by omega
      subst this; exact hR
    · intro k hk; have : k = 0 := by omega
      subst this; exact hfr
    · intro k hk; have : k = 0 := by omega
      subst this; exact hown
    · intro k hk; have : k = 0 := by omega
      subst this; exact hbc
    · intro k hk; omega
    · intro k hk; omega
  | succ n ih =>
    intro hn
    obtain ⟨M, W, ts, hM0, hW0, hC⟩ := ih (by omega)
    have hi : ops[n]? = some ops[n] := Array.getElem?_eq_getElem (by omega)
    obtain ⟨h1, h2⟩ := hT.step n _ hi
    have hid : M n (256 * base + n) = none := by
      obtain ⟨_, _, hlt, _, _⟩ := stepOp_some h1
      exact hC.own n (Nat.le_refl _) _ ⟨by omega, by omega⟩
    have hstep := step_wp (n := 0) (ro := none) (Q := fun _ _ _ => False) (a := ⟨ts n, []⟩)
      (K := fun a' w' => ∃ v' μ', a' = (⟨ts n, []⟩ : Act).put ops[n].dst v' ∧ VR μ' (v n) v' ∧ Ext (M n) (f n).2.1 (f n).2.2 (W n) (fun j => j = 256 * base + n ∧ 2 ≤ cls ops[n].op ∧ wantedA ops (f n).1 ops[n] = some true) μ' (f (n + 1)).2.1 (f (n + 1)).2.2 w')
      hO hi h1 (hC.tm n (Nat.le_refl _)) (hC.rel n (Nat.le_refl _)) hid (hC.fresh n (Nat.le_refl _)) (fun v' μ' w' hv hE => ⟨v', μ', rfl, hv, hE⟩)
    obtain ⟨a', w', v', μ', rfl, hv, hE⟩ := wpOpIn_ex hstep
    obtain ⟨_, _, hlt, hd, _⟩ := stepOp_some h1
    have hE' := hE.weaken (own' := fun j => j = 256 * base + n) (fun j h => h.1)
    have hbn := hC.bc n (Nat.le_refl _)
    have hne : ∀ k, k ≤ n → k ≠ n + 1 := fun k hk => by omega
    have hnew : ∀ k, ¬ k ≤ n → k ≤ n + 1 → k = n + 1 := fun k h1 h2 => by omega
    refine ⟨fun k => if k ≤ n then M k else μ', fun k => if k ≤ n then W k else w', fun k => if k ≤ n then ts k else ((⟨ts n, []⟩ : Act).put ops[n].dst v').tmps, by simp [hM0], by simp [hW0], ?_, ?_, ?_, ?_, ?_, ?_, ?_⟩
    · intro k hk
      by_cases h : k ≤ n
      · simp only [h, if_true]; exact hC.tm k h
      · simp only [h, if_false]
        have := hnew k h hk; subst this
        rw [h2]
        exact TmR.put ((hC.tm n (Nat.le_refl _)).mono hE.mu) hd hv
    · intro k hk
      by_cases h : k ≤ n
      · simp only [h, if_true]; exact hC.rel k h
      · simp only [h, if_false]
        have := hnew k h hk; subst this
        exact hE.rel
    · intro k hk
      by_cases h : k ≤ n
      · simp only [h, if_true]; exact hC.fresh k h
      · simp only [h, if_false]
        have := hnew k h hk; subst this
        exact hE'.fresh (hC.fresh n (Nat.le_refl _)) (fun j hj => by omega)
    · intro k hk j hj
      by_cases h : k ≤ n
      · simp only [h, if_true]; exact hC.own k h j hj
      · simp only [h, if_false]
        have := hnew k h hk; subst this
        cases e : μ' j with
        | none => rfl
        | some m =>
          have h0 := hC.own n (Nat.le_refl _) j ⟨by have := hj.1; omega, hj.2⟩
          rcases hE'.new j h0 (by rw [e]; simp) with h | ⟨h, _⟩
          · have := hj.1; omega
          · have := hj.2; omega
    · intro k hk
      by_cases h : k ≤ n
      · exact hC.bc k h
      · have := hnew k h hk; subst this
        have := hE.cle; omega
    · intro k hk oper hop
      by_cases h : k + 1 ≤ n
      · have h' : k ≤ n := by omega
        simp only [h, h', if_true]; exact hC.ext k (by omega) oper hop
      · have : k = n := by omega
        subst this
        simp only [Nat.le_refl, if_true, h, if_false]
        rw [hi] at hop
        cases hop
        exact hE
    · intro k hk
      by_cases h : k + 1 ≤ n
      · simp only [h, if_true]; exact hC.val k (by omega)
      · have : k = n := by omega
        subst this
        simp only [h, if_false]
        exact ⟨v', hv⟩

/-! ### What follows for the names -/
section
variable {ops : Array Oper} {base nt n : Nat} {f : Nat → Tm × H × Nat} {v : Nat → Value} {M : Nat → Mu} {W : Nat → World} {ts : Nat → Array Value}

/-- what is named ahead of the k-th operation -/
def Dn (M : Nat → Mu) (k i : Nat) : Prop := M k i ≠ none

theorem Can.mono1 (hC : Can ops base nt f v n M W ts) (hn : n ≤ ops.size) {k i : Nat} (hk : k < n) (h : Dn M k i) : Dn M (k + 1) i := by
  have hi : ops[k]? = some ops[k] := Array.getElem?_eq_getElem (by omega)
  unfold Dn at h ⊢
  cases e : M k i with
  | none => exact absurd e h
  | some m => rw [(hC.ext k hk _ hi).mu i m e]; simp

theorem Can.mono (hC : Can ops base nt f v n M W ts) (hn : n ≤ ops.size) {k l i : Nat} (hkl : k ≤ l) (hl : l ≤ n) (h : Dn M k i) : Dn M l i := by
  induction l with
  | zero => have : k = 0 := by omega
            subst this; exact h
  | succ l ih =>
    by_cases e : k = l + 1
    · subst e; exact h
    · exact hC.mono1 hn (by omega) (ih (by omega) (by omega))

theorem Can.lt (hC : Can ops base nt f v n M W ts) {k i : Nat} (hk : k ≤ n) (h : Dn M k i) : i < 256 * (f k).2.2 := by
  by_cases hh : 256 * (f k).2.2 ≤ i
  · exact absurd (hC.fresh k hk i hh) h
  · omega

theorem Can.notown (hC : Can ops base nt f v n M W ts) {k i : Nat} (hk : k ≤ n) (h : Dn M k i) : ¬ ownF base k i := fun ho => h (hC.own k hk i ho)

theorem Can.supv (hC : Can ops base nt f v n M W ts) {k : Nat} (hk : k < n) : Sup (Dn M (k + 1)) (v k) :=
  let ⟨v', h⟩ := hC.val k hk; ⟨M (k + 1), v', h, fun i h => h⟩

theorem Can.suptm (hC : Can ops base nt f v n M W ts) {k t : Nat} {x : Value} (hk : k ≤ n) (h : (f k).1 t = some x) : Sup (Dn M k) x :=
  let ⟨v', _, h⟩ := (hC.tm k hk).val t x h; ⟨M k, v', h, fun i h => h⟩

theorem Can.suph (hC : Can ops base nt f v n M W ts) {k i : Nat} (hk : k ≤ n) (h : Dn M k i) : BlkSup (Dn M k) (HeapC.get (f k).2.1 i) := by
  unfold Dn at h
  cases e : M k i with
  | none => exact absurd e h
  | some m => exact ⟨M k, m, _, (hC.rel k hk).blk i m e, fun i h => h⟩

theorem Can.cmono (hC : Can ops base nt f v n M W ts) (hn : n ≤ ops.size) {k l : Nat} (hkl : k ≤ l) (hl : l ≤ n) : (f k).2.2 ≤ (f l).2.2 := by
  induction l with
  | zero => have : k = 0 := by omega
            subst this; exact Nat.le_refl _
  | succ l ih =>
    by_cases e : k = l + 1
    · subst e; exact Nat.le_refl _
    · have hi : ops[l]? = some ops[l] := Array.getElem?_eq_getElem (by omega)
      exact Nat.le_trans (ih (by omega) (by omega)) (hC.ext l (by omega) _ hi).cle

theorem Can.wr (hC : Can ops base nt f v n M W ts) (hn : n ≤ ops.size) {k l i : Nat} (hkl : k ≤ l) (hl : l ≤ n) (h : Dn M k i) (hw : wrB (HeapC.get (f l).2.1 i) = true) : wrB (HeapC.get (f k).2.1 i) = true := by
  induction l with
  | zero => have : k = 0 := by omega
            subst this; exact hw
  | succ l ih =>
    by_cases e : k = l + 1
    · subst e; exact hw
    · have hi : ops[l]? = some ops[l] := Array.getElem?_eq_getElem (by omega)
      have hd := hC.mono hn (show k ≤ l by omega) (by omega) h
      unfold Dn at hd
      cases e : M l i with
      | none => exact absurd e hd
      | some m => exact ih (by omega) (by omega) ((hC.ext l (by omega) _ hi).wrm i m e hw)

theorem Can.dd (hC : Can ops base nt f v n M W ts) (hn : n ≤ ops.size) {k l i : Nat} (hkl : k ≤ l) (hl : l ≤ n) (h : Dn M k i) (hw : deadB (HeapC.get (f k).2.1 i) = true) : deadB (HeapC.get (f l).2.1 i) = true := by
  induction l with
  | zero => have : k = 0 := by omega
            subst this; exact hw
  | succ l ih =>
    by_cases e : k = l + 1
    · subst e; exact hw
    · have hi : ops[l]? = some ops[l] := Array.getElem?_eq_getElem (by omega)
      have hd := hC.mono hn (show k ≤ l by omega) (by omega) h
      unfold Dn at hd
      cases e : M l i with
      | none => exact absurd e hd
      | some m => exact (hC.ext l (by omega) _ hi).dd i m e (ih (by omega) (by omega))

/-- a name that is not given stays as it was -/
theorem Can.af (hC : Can ops base nt f v n M W ts) (hn : n ≤ ops.size) {k i : Nat} (hk : k < n) (h : ¬ Dn M k i) (hi : i < 256 * (f k).2.2) (hne : i ≠ 256 * base + k) : HeapC.get (f (k + 1)).2.1 i = HeapC.get (f k).2.1 i := by
  have ho : ops[k]? = some ops[k] := Array.getElem?_eq_getElem (by omega)
  refine (hC.ext k hk _ ho).af i ?_ hi (fun hh => hne hh.1)
  cases e : M k i with
  | none => rfl
  | some m => exact absurd (by unfold Dn; rw [e]; simp) h

/-- whence a new name comes -/
theorem Can.newn (hC : Can ops base nt f v n M W ts) (hn : n ≤ ops.size) {k i : Nat} (hk : k < n) {oper : Oper} (ho : ops[k]? = some oper) (h : ¬ Dn M k i) (h' : Dn M (k + 1) i) :
    (i = 256 * base + k ∧ 2 ≤ cls oper.op ∧ wantedA ops (f k).1 oper = some true) ∨ (256 * (f k).2.2 ≤ i ∧ i < 256 * (f (k + 1)).2.2) := by
  refine (hC.ext k hk _ ho).new i ?_ h'
  cases e : M k i with
  | none => rfl
  | some m => exact absurd (by unfold Dn; rw [e]; simp) h
end

theorem VR.rid {v v' : Value} (h : VR μ v v') {i : Nat} (e : ridV v = some i) : μ i ≠ none := by
  cases h with
  | ptr h => simp [ridV] at e; subst e; rw [h]; simp
  | sl h _ _ => simp [ridV] at e; subst e; rw [h]; simp
  | slE h => simp [ridV] at e; subst e; rw [h]; simp
  | map h => simp [ridV] at e; subst e; rw [h]; simp
  | _ => simp [ridV] at e

theorem cls_le (op : Op) : cls op ≤ 3 := by
  unfold cls; split <;> decide

/-- An operation that is no writer: what it does to the heap, and that it does the same over any other heap that shows it the same. -/
theorem step_nonW {o : Orc H} {ops : Array Oper} {base j nt c c1 : Nat} {tm : Tm} {A A1 : H} {oper : Oper} {x : Value} (hc : cls oper.op ≠ 3) (e : stepOp P o ops base j nt tm A c oper = some (x, A1, c1)) :
    c1 = c ∧ ∃ upd : Option ABlk, A1 = (match upd with | none => A | some b => HeapC.set A (256 * base + j) b) ∧
      (upd = none ∨ (∃ b, upd = some b ∧ wrB (some b) = true ∧ ridV x = some (256 * base + j) ∧ 2 ≤ cls oper.op ∧ wantedA ops tm oper = some true)) ∧
      (upd = none → ¬ (2 ≤ cls oper.op ∧ wantedA ops tm oper = some true)) ∧
      ∀ {H' : Type} [HeapC H'] (o' : Orc H') (tm' : Tm) (h' : H') (c' : Nat), (∀ t ∈ tmpsOf ops oper, tm t = tm' t) → (cls oper.op = 1 → ∀ y, rid ops tm oper = some y → HeapC.get h' y = HeapC.get A y) →
        stepOp P o' ops base j nt tm' h' c' oper = some (x, (match upd with | none => h' | some b => HeapC.set h' (256 * base + j) b), c') := by
  obtain ⟨b, hb, hlt, hd, he⟩ := stepOp_some e
  have hwc : ∀ tm' : Tm, (∀ t ∈ tmpsOf ops oper, tm t = tm' t) → wantedA ops tm' oper = some b := by
    intro tm' htm
    rw [← hb]
    unfold wantedA
    cases hg : oper.guard with
    | none => rfl
    | some p =>
      obtain ⟨g, want⟩ := p
      simp only
      cases hd : (ops[g]?).bind (·.dst) with
      | none => rfl
      | some d =>
        have : tm d = tm' d := htm d (by simp only [tmpsOf, hg, hd]; simp)
        simp only [Option.bind_some, this]
  have hge : ∀ {H' : Type} [HeapC H'] (o' : Orc H') (tm' : Tm) (h' : H') (c' : Nat), (∀ t ∈ tmpsOf ops oper, tm t = tm' t) →
      stepOp P o' ops base j nt tm' h' c' oper = cond b (doOp P o' (256 * base + j) tm h' c' oper.op) (some (undef, h', c')) := by
    intro H' _ o' tm' h' c' htm
    simp only [stepOp, hwc tm' htm, Option.bind_some]
    have h1 : Nat.blt j 256 = true := by simp [Nat.blt]; omega
    have h2 : ∀ X Y : Option (Value × H' × Nat), cond (Nat.blt j 256 && (match oper.dst with | some d => Nat.blt d nt | none => true)) X Y = X := by
      intro X Y
      cases hdd : oper.dst with
      | none => rw [h1]; rfl
      | some d =>
        have : Nat.blt d nt = true := Nat.ble_eq_true_of_le (hd d hdd)
        rw [h1]; simp only [this]; rfl
    refine (h2 _ _).trans ?_
    rw [doOp_congr (tm := tm') (tm' := tm) (fun y hy => ?_)]
    refine evalO_congr fun t ht => (htm t ?_).symm
    subst ht
    simp only [tmpsOf, List.mem_append, List.mem_filterMap]
    exact .inl ⟨_, hy, rfl⟩
  rcases he with ⟨rfl, he⟩ | ⟨rfl, he⟩
  · have hcc : cls oper.op = 0 ∨ cls oper.op = 1 ∨ cls oper.op = 2 := by have := cls_le oper.op; omega
    rcases hcc with h0 | h1 | h2
    · obtain ⟨rfl, rfl, hf⟩ := doOp_P (H' := H) h0 he
      refine ⟨rfl, none, rfl, .inl rfl, fun _ h => by omega, fun o' tm' h' c' htm _ => ?_⟩
      rw [hge o' tm' h' c' htm]
      exact (doOp_P h0 he).2.2 o' h' c'
    · obtain ⟨rfl, rfl, hf⟩ := doOp_L (H' := H) h1 he
      refine ⟨rfl, none, rfl, .inl rfl, fun _ h => by omega, fun o' tm' h' c' htm hr => ?_⟩
      rw [hge o' tm' h' c' htm]
      refine (doOp_L h1 he).2.2 o' h' c' (fun y hy => hr h1 y ?_)
      simp only [rid, hb]; exact hy
    · obtain ⟨rfl, bb, hA, hw, hf⟩ := doOp_A (H' := H) h2 he
      have hrid : ridV x = some (256 * base + j) := by
        cases hop : oper.op <;> rw [hop] at h2 <;> try (simp [cls] at h2; done)
        case call k =>
          obtain ⟨callee, args, ats⟩ := k
          cases callee with
          | builtin b => cases b <;> simp [cls] at h2
          | _ => simp [cls] at h2
        all_goals
          rw [hop] at he
          simp only [doOp, Option.bind_eq_some_iff] at he
        case alloc t =>
          obtain ⟨z, hz, he⟩ := he
          obtain ⟨_, e1⟩ := cond_some he
          cases e1; rfl
        case box t y =>
          obtain ⟨z, hz, he⟩ := he
          obtain ⟨_, e1⟩ := cond_some he
          cases e1; rfl
        case buildSlice t len ps =>
          obtain ⟨vs, hvs, cs, hcs, he⟩ := he
          cases he; rfl
        case makeMap t r =>
          cases r with
          | none => cases he; rfl
          | some y =>
            simp only [Option.bind_eq_some_iff] at he
            obtain ⟨_, _, _, _, _, _, he⟩ := he
            cases he; rfl
        case makeSlice t l k =>
          obtain ⟨_, _, _, _, _, _, he⟩ := he
          cases he; rfl
      refine ⟨rfl, some bb, hA, .inr ⟨bb, rfl, hw, hrid, by omega, hb⟩, (fun h => by cases h), @fun H' _ o' tm' h' c' htm _ => ?_⟩
      rw [hge o' tm' h' c' htm]
      obtain ⟨_, bb', hA', _, hf'⟩ := doOp_A (H' := H') h2 he
      have hbb : bb' = bb := by
        have := HeapC.get_set A (256 * base + j) bb (256 * base + j)
        rw [← hA, hA', HeapC.get_set] at this
        simpa using this
      rw [← hbb]
      exact hf' o' h' c'
  · cases he
    refine ⟨rfl, none, rfl, .inl rfl, (fun _ (h : 2 ≤ cls oper.op ∧ wantedA ops tm oper = some true) => by rw [hb] at h; cases h.2), fun o' tm' h' c' htm _ => ?_⟩
    rw [hge o' tm' h' c' htm]
    rfl

end Go.Ab
