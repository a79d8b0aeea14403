/- A part of the claim's proof: AbRegion. Conditions: none. -/
import Derived.Test.YtdbiilapiloaiaaAbDrawW
/-! Any region. -/
set_option linter.all false
namespace Go.Ab
open Go
set_option linter.unusedVariables false
set_option linter.unusedSimpArgs false
set_option linter.unusedSectionVars false

variable {H : Type} [HeapC H] {P : Program} {μ : Mu} {A : H} {w : World}

section
variable {o : Orc H} {ops : Array Oper} {base nt : Nat} {f : Nat → Tm × H × Nat} {v : Nat → Value} {M : Nat → Mu} {W : Nat → World} {ts : Nat → Array Value}
variable {μ0 : Mu} {w0 : World} {df : List Deferred}

theorem Can.new0 (hC : Can ops base nt f v ops.size M W ts) {k i : Nat} (hk : k ≤ ops.size) (h0 : ¬ Dn M 0 i) (h : Dn M k i) : (256 * base ≤ i ∧ i < 256 * base + ops.size) ∨ (256 * (f 0).2.2 ≤ i ∧ i < 256 * (f k).2.2) := by
  induction k with
  | zero => exact absurd h h0
  | succ k ih =>
    by_cases hd : Dn M k i
    · rcases ih (by omega) hd with h1 | h1
      · exact .inl h1
      · have := hC.cmono (Nat.le_refl _) (show k ≤ k + 1 by omega) hk
        exact .inr ⟨h1.1, by omega⟩
    · obtain ⟨oper, ho⟩ := getop (show k < ops.size by omega)
      rcases hC.newn (Nat.le_refl _) (by omega) ho hd h with ⟨h1, _⟩ | ⟨h1, h2⟩
      · exact .inl (by omega)
      · have := hC.cmono (Nat.le_refl _) (Nat.zero_le k) (by omega)
        exact .inr ⟨by omega, h2⟩

theorem ready_mem {md : Region.Mode} {listed : Array Bool} {i : Nat} : i ∈ Region.ready md ops listed ↔ ∃ oper, ops[i]? = some oper ∧ listed.getD i true = false ∧ ∀ e ∈ oper.after.toList, Region.binds md e = true → listed.getD e.on false = true := by
  simp only [Region.ready, List.mem_filter, List.mem_range, Bool.and_eq_true, Bool.not_eq_true']
  constructor
  · rintro ⟨h1, h2, h3⟩
    obtain ⟨oper, ho⟩ := getop h1
    refine ⟨oper, ho, h2, fun e he hb => ?_⟩
    rw [ho] at h3
    simp only [Option.map_some, Option.getD_some, Array.all_eq_true'] at h3
    have := h3 e (by simpa using he)
    simpa [hb] using this
  · rintro ⟨oper, ho, h2, h3⟩
    refine ⟨getop_lt ho, h2, ?_⟩
    rw [ho]
    simp only [Option.map_some, Option.getD_some, Array.all_eq_true']
    intro e he
    cases hb : Region.binds md e with
    | false => simp
    | true => simp [h3 e (by simpa using he) hb]

def unl (s : Nat → Bool) : Nat → Nat
  | 0 => 0
  | n + 1 => unl s n + cond (s n) 0 1

theorem unl_up {s : Nat → Bool} {j : Nat} (hs : s j = false) : ∀ n, unl (upS s j) n + (if j < n then 1 else 0) = unl s n := by
  intro n
  induction n with
  | zero => simp [unl]
  | succ n ih =>
    simp only [unl]
    by_cases e : n = j
    · subst e
      rw [upS_self, hs]
      simp only [Nat.lt_irrefl, if_false, Nat.add_zero] at ih
      simp [ih]
    · rw [upS_ne e]
      by_cases h : j < n
      · rw [if_pos h] at ih; rw [if_pos (by omega)]; omega
      · rw [if_neg h] at ih; rw [if_neg (by omega)]; omega

theorem unl_zero {s : Nat → Bool} : ∀ n, unl s n = 0 → ∀ k, k < n → s k = true := by
  intro n
  induction n with
  | zero => intro _ k hk; omega
  | succ n ih =>
    intro h k hk
    simp only [unl] at h
    by_cases e : k = n
    · subst e
      cases hs : s k with
      | true => rfl
      | false => rw [hs] at h; simp at h
    · exact ih (by omega) k (by omega)

theorem any_of_inv (hO : OS P o) (cx : Cx P o ops base nt f v M W ts) (hM : M 0 = μ0) {ro : Option Nat} {n : Nat} {Q : Exit → Act → World → Prop}
    (hQ : ∀ s p μ a w, (∀ k, k < ops.size → s k = true) → Inv ops base nt f v M μ0 w0 df s p μ a w → Q .normal a w) :
    ∀ (fuel : Nat) (listed : Array Bool) (s : Nat → Bool) (p : Nat) (μ : Mu) (a : Act) (w : World), listed.size = ops.size → (∀ k, k < ops.size → listed[k]? = some (s k)) → unl s ops.size ≤ fuel →
      Inv ops base nt f v M μ0 w0 df s p μ a w → wpAnyIn (wd ro) n P .any ops Q fuel listed a w := by
  have hE := regOk_edges cx.reg
  have hget : ∀ {listed : Array Bool} {s : Nat → Bool}, listed.size = ops.size → (∀ k, k < ops.size → listed[k]? = some (s k)) → ∀ k d, k < ops.size → listed.getD k d = s k := by
    intro listed s h1 h2 k d hk
    rw [Array.getD_eq_getD_getElem?, h2 k hk]; rfl
  have hall : ∀ {listed : Array Bool} {s : Nat → Bool}, listed.size = ops.size → (∀ k, k < ops.size → listed[k]? = some (s k)) → Region.ready .any ops listed = [] → ∀ k, k < ops.size → s k = true := by
    intro listed s h1 h2 hr k
    induction k using Nat.strongRecOn with
    | _ k ih =>
      intro hk
      cases hs : s k with
      | true => rfl
      | false =>
        exfalso
        obtain ⟨oper, ho⟩ := getop hk
        have : k ∈ Region.ready .any ops listed := ready_mem.2 ⟨oper, ho, by rw [hget h1 h2 k _ hk, hs], fun e he hb => by
          have hlt := edgesOk_spec _ 0 hE k oper (by simpa using ho) e he hb
          rw [hget h1 h2 e.on _ (by omega)]
          exact ih e.on (by omega) (by omega)⟩
        rw [hr] at this; cases this
  intro fuel
  induction fuel with
  | zero =>
    intro listed s p μ a w h1 h2 h3 I
    have hs := unl_zero ops.size (by omega : unl s ops.size = 0)
    refine ⟨?_, hQ s p μ a w hs I⟩
    cases hr : Region.ready .any ops listed with
    | nil => rfl
    | cons i l =>
      exfalso
      obtain ⟨oper, ho, h4, _⟩ := ready_mem.1 (show i ∈ Region.ready .any ops listed by rw [hr]; simp)
      rw [hget h1 h2 i _ (getop_lt ho), hs i (getop_lt ho)] at h4; cases h4
  | succ fuel ih =>
    intro listed s p μ a w h1 h2 h3 I
    refine ⟨fun hr => hQ s p μ a w (hall h1 h2 hr) I, fun i hi => ?_⟩
    obtain ⟨oper, ho, h4, h5⟩ := ready_mem.1 hi
    have hin := getop_lt ho
    rw [hget h1 h2 i _ hin] at h4
    have hp : ∀ e ∈ oper.after.toList, Region.binds .any e = true → s e.on = true := by
      intro e he hb
      have hlt := edgesOk_spec _ 0 hE i oper (by simpa using ho) e he hb
      rw [← hget h1 h2 e.on false (by omega)]
      exact h5 e he hb
    have hnext : ∀ p' μ' a' w', Inv ops base nt f v M μ0 w0 df (upS s i) p' μ' a' w' → wpAnyIn (wd ro) n P .any ops Q fuel (listed.setIfInBounds i true) a' w' := by
      intro p' μ' a' w' I'
      refine ih _ (upS s i) p' μ' a' w' (by simp [h1]) (fun k hk => ?_) ?_ I'
      · by_cases e : k = i
        · subst e; rw [upS_self]; simp [h1, hk]
        · rw [upS_ne e, Array.getElem?_setIfInBounds_ne (Ne.symm e)]; exact h2 k hk
      · have := unl_up h4 ops.size
        rw [if_pos hin] at this
        omega
    by_cases hc : cls oper.op = 3
    · exact I.step_w hO cx hM ho h4 hp hc hnext
    · exact I.step_nw cx hM ho h4 hp hc (fun μ' a' w' I' => hnext p μ' a' w' I')

theorem inv_start (cx : Cx P o ops base nt f v M W ts) (hM : M 0 = μ0) {a : Act} (ht : TmR μ0 (f 0).1 nt a.tmps) (hR : R μ0 (f 0).2.1 w0) :
    ∃ p, Inv ops base nt f v M μ0 w0 a.defers (fun _ => false) p μ0 a w0 := by
  obtain ⟨p, h1, h2, h3, h4⟩ := next_ex ops _ 0 rfl (Nat.zero_le _)
  obtain ⟨hwc, hwk⟩ := cx.walk h1 h2 h4
  have hD0 : ∀ i, μ0 i ≠ none → Dn M 0 i := fun i h => by unfold Dn; rw [hM]; exact h
  have hDp : ∀ i, μ0 i ≠ none → Dn M p i := fun i h => cx.can.mono (Nat.le_refl _) (Nat.zero_le p) h2 (hD0 i h)
  have htm : ∀ m, tmS ops v (f 0).1 (fun _ => false) m = (f 0).1 := by
    intro m; induction m with
    | zero => rfl
    | succ m ih => simp only [tmS, cond_false, ih]
  refine ⟨p, { hpn := h2, pre := ?_, nW := (fun k h => by cases h), wp := h3, cl := (fun k o' h => by cases h), le0 := fun _ _ h => h, dom := fun i h => .inl (hDp i h), ny := ?_, rel := ?_, tmr := ?_, df := rfl, os := rfl, tape := rfl, output := rfl, size := Nat.le_refl _, fr := fun _ _ _ => rfl, newb := fun i m a b => by rw [a] at b; cases b }⟩
  · intro k oper hk ho hc; exact absurd hc (h4 k (Nat.zero_le _) hk oper ho)
  · intro k hk _
    have hkn : k < ops.size := by omega
    have hk256 := cx.k256 hkn
    refine ⟨?_, ?_⟩
    · cases e : μ0 (256 * base + k) with
      | none => rfl
      | some m => exact absurd (show ownF base 0 (256 * base + k) from ⟨by omega, by omega⟩) (cx.can.notown (Nat.zero_le _) (hD0 _ (by rw [e]; simp)))
    · exact (cx.walk (show k + 1 ≤ p by omega) h2 (fun q a b => h4 q (by omega) b)).2 _ (fun q a b => by omega)
  · refine hR.cong fun i hi => ?_
    rw [cx.vbD h2 (hDp i hi)]
    refine hwk i fun k _ hk e => ?_
    have hk256 := cx.k256 (show k < ops.size by omega)
    exact cx.can.notown (Nat.zero_le _) (hD0 i hi) ⟨by omega, by omega⟩
  · rw [htm]; exact ht

theorem inv_end (cx : Cx P o ops base nt f v M W ts) (hM : M 0 = μ0) {s : Nat → Bool} {p : Nat} {a : Act} (hs : ∀ k, k < ops.size → s k = true) (I : Inv ops base nt f v M μ0 w0 df s p μ a w) :
    TmR μ (f ops.size).1 nt a.tmps ∧ Ext μ0 (f 0).2.1 (f 0).2.2 w0 (ownF base 0) μ (f ops.size).2.1 (f ops.size).2.2 w := by
  have hp : p = ops.size := by
    rcases I.wp with h | ⟨oper, ho, hc⟩
    · exact h
    · exact absurd hc (I.nW p (hs p (getop_lt ho)) (Nat.le_refl _) oper ho)
  subst hp
  have hD0 : ∀ i, Dn M 0 i ↔ μ0 i ≠ none := fun i => by unfold Dn; rw [hM]
  have hsz : ops.size ≤ 256 := by
    by_cases e : ops.size = 0
    · omega
    · have := cx.k256 (show ops.size - 1 < ops.size by omega); omega
  have hdom : ∀ i, μ i ≠ none → Dn M ops.size i := fun i h => by
    rcases I.dom i h with h | ⟨k, _, h1, h2, _⟩
    · exact h
    · omega
  refine ⟨⟨I.tmr.size, fun t x hx => I.tmr.val t x (by rw [cx.tmAll hs ops.size (Nat.le_refl _)]; exact hx)⟩, ?_⟩
  refine { mu := I.le0, new := ?_, cle := cx.can.cmono (Nat.le_refl _) (Nat.zero_le _) (Nat.le_refl _), rel := ?_, af := ?_, os := I.os, tape := I.tape, output := I.output, size := I.size, fr := I.fr, wrm := ?_, newb := I.newb, dd := ?_ }
  · intro i h0 h1
    rcases cx.can.new0 (Nat.le_refl _) (fun h => (hD0 i).1 h h0) (hdom i h1) with h | h
    · exact .inl ⟨by omega, by omega⟩
    · exact .inr h
  · refine I.rel.cong fun i hi => ?_
    exact (vbF_not (by omega)).symm
  · intro i h0 hlt hno
    have hnd : ∀ k, k ≤ ops.size → ¬ Dn M k i := by
      intro k hk hd
      rcases cx.can.new0 hk (fun h => (hD0 i).1 h h0) hd with h | h
      · exact hno ⟨by omega, by omega⟩
      · omega
    have : ∀ k, k ≤ ops.size → HeapC.get (f k).2.1 i = HeapC.get (f 0).2.1 i := by
      intro k
      induction k with
      | zero => intro _; rfl
      | succ k ih =>
        intro hk
        have hc := cx.can.cmono (Nat.le_refl _) (Nat.zero_le k) (by omega)
        rw [cx.can.af (Nat.le_refl _) (by omega) (hnd k (by omega)) (by omega) (fun e => hno ⟨by omega, by have := cx.k256 (show k < ops.size by omega); omega⟩), ih (by omega)]
    exact this ops.size (Nat.le_refl _)
  · intro i m hm hw
    exact cx.can.wr (Nat.le_refl _) (Nat.zero_le _) (Nat.le_refl _) ((hD0 i).2 (by rw [hm]; simp)) hw
  · intro i m hm hd
    exact cx.can.dd (Nat.le_refl _) (Nat.zero_le _) (Nat.le_refl _) ((hD0 i).2 (by rw [hm]; simp)) hd
end

/-- no pair of a read and a writer that is not ordered -/
theorem lws_mem {ops : Array Oper} {i j : Nat} {a b : Oper} (ha : ops[i]? = some a) (hb : ops[j]? = some b) (h1 : cls a.op = 1) (h3 : cls b.op = 3) (u1 : (msk ops j).testBit i = false) (u2 : (msk ops i).testBit j = false) :
    (i, j) ∈ lws ops := by
  simp only [lws, List.mem_flatMap, List.mem_filterMap, List.mem_range]
  refine ⟨i, getop_lt ha, j, getop_lt hb, ?_⟩
  simp only [msk] at u1 u2
  simp only [ha, hb, h1, h3, u1, u2]
  rfl

theorem Ext.ofOwn {c c' : Nat} {μ' : Mu} {A' : H} {w' : World} (h : Ext μ A (c + 1) w (ownF c 0) μ' A' c' w') : Ext μ A c w (fun _ => False) μ' A' c' w' :=
  { h with
    new := fun i a b => .inr (by
      have := h.cle
      rcases h.new i a b with ⟨h1, h2⟩ | ⟨h1, h2⟩ <;> constructor <;> omega)
    cle := by have := h.cle; omega
    af := fun i a b _ => h.af i a (by omega) (fun hh => by have := hh.1; omega) }

/-- Any region: what the abstract machine computes is what the model computes, in whatever order. -/
theorem region_wp {o : Orc H} (hO : OS P o) (hmix : P.follows .mixedOrders = true) {id : Nat} {ops : Array Oper} {draw : Bool} {nt c c' : Nat} {tm tm' : Tm} {A' : H} {a : Act}
    (e : runReg P o ops draw nt tm A c = some (tm', A', c')) (ht : TmR μ tm nt a.tmps) (hR : R μ A w) (hfr : Fresh μ c) {ro : Option Nat} {n : Nat} {Q : Exit → Act → World → Prop}
    (hQ : ∀ a' μ' w', TmR μ' tm' nt a'.tmps → a'.defers = a.defers → Ext μ A c w (fun _ => False) μ' A' c' w' → Q .normal a' w') : (Code.region id ops draw).wpIn (wd ro) n P Q a w := by
  have hfr1 : Fresh μ (c + 1) := fun i hi => hfr i (by omega)
  have hown : ∀ j, ownF c 0 j → μ j = none := fun j hj => hfr j (by have := hj.1; omega)
  cases draw with
  | false =>
    refine wpIn_region ?_
    have e' : runOps P o ops c nt ops.toList 0 tm A (c + 1) = some (tm', A', c') := e
    have := runOps_wp hO (ops := ops) (ro := ro) (n := n) (Q := Q) ops.toList 0 tm A (c + 1) tm' A' c' μ w a e' (fun k => by simp) ht hR hfr1 hown (by omega)
      (fun a' μ' w' h1 h2 h3 => hQ a' μ' w' h1 h2 h3.ofOwn)
    rw [List.range_eq_range']
    simpa using this
  | true =>
    refine wpIn_region_any hmix ?_
    obtain ⟨hreg, e1⟩ := cond_some (show cond (regOk ops) _ none = some (tm', A', c') from e)
    clear e
    have hruns : runOps P o ops c nt ops.toList 0 tm A (c + 1) = some (tm', A', c') ∧
        ∀ (f : Nat → Tm × H × Nat) (v : Nat → Value), f 0 = (tm, A, c + 1) → Tr P o ops c nt f v → ∀ i j a b, ops[i]? = some a → ops[j]? = some b → cls a.op = 1 → cls b.op = 3 → (msk ops j).testBit i = false → (msk ops i).testBit j = false →
          ∀ x, rid ops (f i).1 a = some x → HeapC.get (f j).2.1 x = HeapC.get (f (j + 1)).2.1 x := by
      cases hl : (lws ops).isEmpty with
      | true =>
        rw [hl] at e1
        refine ⟨e1, fun f v _ _ i j a b ha hb h1 h3 u1 u2 => ?_⟩
        have := lws_mem ha hb h1 h3 u1 u2
        rw [List.isEmpty_iff.1 hl] at this; cases this
      | false =>
        rw [hl] at e1
        simp only [cond_false, Option.bind_eq_some_iff] at e1
        obtain ⟨q, hq, e2⟩ := e1
        obtain ⟨hlw, e3⟩ := cond_some e2
        cases e3
        refine ⟨runOpsT_runOps _ _ _ _ _ _ hq, fun f v h0 hT i j a b ha hb h1 h3 u1 u2 x hx => ?_⟩
        have hmem := lws_mem ha hb h1 h3 u1 u2
        have hk := List.all_eq_true.1 hlw _ hmem
        obtain ⟨l1, l2⟩ := runOpsT_list ops.toList 0 tm A (c + 1) q f v hq h0 (fun k oper hk => by
          have := hT.step k oper (by simpa using hk); simpa using this)
        have t1 := l1 i a (by simpa using ha)
        have t2 := l1 j b (by simpa using hb)
        have t3 : ∃ y, q.2.2.2[j + 1]? = some (y, (f (j + 1)).2.1) := by
          by_cases hjn : j + 1 < ops.size
          · obtain ⟨b', hb'⟩ := getop hjn
            have := l1 (j + 1) b' (by simpa using hb')
            exact ⟨_, by simpa using this⟩
          · have hjj := getop_lt hb
            have : j + 1 = ops.size := by omega
            rw [this]
            simpa using l2
        obtain ⟨y, t3⟩ := t3
        simp only [Nat.zero_add] at t1 t2
        simp only [lwOk, t1, t2, t3, hx] at hk
        exact HeapC.eqB_eq _ _ hk
    obtain ⟨hrun, hlw⟩ := hruns
    obtain ⟨f, v, hf0, hfn, hst⟩ := runOps_tr ops.toList 0 tm A (c + 1) tm' A' c' hrun
    simp only [Nat.zero_add] at hst hfn
    have hT : Tr P o ops c nt f v := ⟨fun k oper ho => hst k oper (by simpa using ho)⟩
    have hsize : ops.toList.length = ops.size := by simp
    rw [hsize] at hfn
    have hRw : R μ (f 0).2.1 { w with drawn := w.drawn + 1 } := by rw [hf0]; exact ⟨hR.blk, hR.inj, hR.lt⟩
    obtain ⟨M, W, ts, hM, hW, hC⟩ := can_ex hO hT (a0 := a) (by rw [hf0]; exact ht) hRw (by rw [hf0]; exact hfr1) hown (by rw [hf0]; show c < c + 1; omega) ops.size (Nat.le_refl _)
    have cx : Cx P o ops c nt f v M W ts := ⟨hreg, hT, hC, hlw f v hf0 hT⟩
    obtain ⟨p, I⟩ := inv_start cx hM (a := a) (by rw [hf0]; exact ht) hRw
    refine any_of_inv hO cx hM (df := a.defers) (w0 := { w with drawn := w.drawn + 1 }) (fun s p' μ' a' w' hs I' => ?_) ops.size _ (fun _ => false) p μ a _ (by simp) (fun k hk => by simp [hk]) ?_ I
    · obtain ⟨h1, h2⟩ := inv_end cx hM hs I'
      rw [hfn] at h1 h2
      rw [hf0] at h2
      refine hQ a' μ' w' h1 I'.df ?_
      have h3 := h2.ofOwn
      exact { mu := h3.mu, new := h3.new, cle := h3.cle, rel := h3.rel, af := h3.af, os := h3.os, tape := h3.tape, output := h3.output, size := h3.size, fr := h3.fr, wrm := h3.wrm, newb := h3.newb, dd := h3.dd }
    · have : ∀ n, unl (fun _ => false) n = n := by
        intro n; induction n with
        | zero => rfl
        | succ n ih => simp [unl, ih]
      rw [this]; exact Nat.le_refl _

end Go.Ab
