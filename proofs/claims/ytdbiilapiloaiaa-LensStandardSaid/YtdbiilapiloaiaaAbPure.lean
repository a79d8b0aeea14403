/- A part of the claim's proof: AbPure. Conditions: none. -/
import Derived.Test.YtdbiilapiloaiaaAbOps
/-! Operations that look at values alone. -/
set_option linter.all false
namespace Go.Ab
open Go
set_option linter.unusedVariables false
set_option linter.unusedSimpArgs false

variable {H : Type} [HeapC H] {P : Program} {μ : Mu} {A : H} {w : World}

theorem addOff_sim {p p' v : Value} {n : Nat} (e : addOff p n = some v) (hp : VR μ p p') : ∃ b o, p' = .pointer (some ⟨b, o, none⟩) ∧ VR μ v (.pointer (some ⟨b, o + n, none⟩)) := by
  simp only [addOff, Option.bind_eq_some_iff] at e
  obtain ⟨⟨i, o⟩, ha, e⟩ := e
  cases e
  have := asPtr_some ha; subst this
  obtain ⟨m, hm, rfl⟩ := hp.ptr_inv
  exact ⟨m.b, m.s + o, rfl, by rw [Nat.add_assoc]; exact .ptr hm⟩

theorem fieldT_some {s : TypeId} {f : Nat} {fd : Field} (h : fieldT P s f = some fd) : ∃ fs, P.underlying s = some (.struct fs) ∧ fs[f]? = some fd := by
  unfold fieldT at h
  split at h
  · exact ⟨_, ‹_›, h⟩
  · cases h

theorem aFieldAddr_sim {t : TypeId} {p p' v : Value} {f : Nat} (e : aFieldAddr P t p f = some v) (hp : VR μ p p') :
    ∃ v', (Instr.fieldAt t p' f).run P w = .ok v' w ∧ VR μ v v' := by
  simp only [aFieldAddr, Option.bind_eq_some_iff] at e
  obtain ⟨fd, hf, z, hz, e⟩ := e
  obtain ⟨hz0, e⟩ := cond_none_some e
  obtain ⟨b, o, rfl, hv⟩ := addOff_sim e hp
  obtain ⟨fs, hu, hfd⟩ := fieldT_some hf
  refine ⟨_, ?_, hv⟩
  have hz1 : ¬ z = 0 := by intro h; subst h; simp at hz0
  simp only [Instr.fieldAt, Sem.run_bind, run_underlying hu, Result.andThen_ok, hfd, Instr.sureAddr, Sem.run_pure, fieldPlace, run_sizeOf' hz, hz1, if_false, add_mk]

theorem aPart_sim {t : TypeId} {cs cs' : List Value} {off : Nat} {v : Value} (e : aPart P t cs off = some v) (h : VRs μ cs cs') :
    ∃ v', (part t cs'.toArray off).run P w = .ok v' w ∧ VR μ v v' := by
  simp only [aPart, Option.bind_eq_some_iff] at e
  obtain ⟨b, hb, n, hn, e⟩ := e
  cases b with
  | true =>
    simp only [partN, cond_true] at e
    obtain ⟨hle, e⟩ := cond_some e
    cases e
    refine ⟨.agg ((cs'.drop off).take n).toArray, ?_, VR.agg_iff.2 (by simpa using (h.drop off).take n)⟩
    simp only [part, Sem.run_bind, run_isAgg' hb, Result.andThen_ok, if_true, run_sizeOf' hn, Sem.run_pure]
    congr 2
    apply Array.ext'
    simp [List.extract_eq_take_drop]
  | false =>
    simp only [partN, cond_false] at e
    obtain ⟨y, hy, hv⟩ := h.get e
    refine ⟨y, ?_, hv⟩
    simp only [part, Sem.run_bind, run_isAgg' hb, Result.andThen_ok, if_false, Bool.false_eq_true, List.getElem?_toArray, hy, Sem.run_pure]

theorem VR.agg_left {cs : Array Value} {v' : Value} (h : VR μ (.agg cs) v') : ∃ cs', v' = .agg cs' ∧ VRs μ cs.toList cs'.toList := by
  cases h with
  | agg hs h => exact ⟨_, rfl, VR.agg_iff.1 (.agg hs h)⟩

theorem aggL_some {x : Value} {cs : List Value} (h : aggL x = some cs) : ∃ a : Array Value, x = .agg a ∧ cs = a.toList := by
  unfold aggL at h
  split at h
  · cases h; exact ⟨_, rfl, rfl⟩
  · cases h

theorem aField_sim {t : TypeId} {x x' v : Value} {f : Nat} (e : aField P t x f = some v) (hx : VR μ x x') :
    ∃ v', (Instr.field t x' f).run P w = .ok v' w ∧ VR μ v v' := by
  simp only [aField, Option.bind_eq_some_iff] at e
  obtain ⟨fd, hf, cs, hcs, e⟩ := e
  obtain ⟨a, rfl, rfl⟩ := aggL_some hcs
  obtain ⟨cs', rfl, hr⟩ := hx.agg_left
  obtain ⟨fs, hu, hfd⟩ := fieldT_some hf
  obtain ⟨v', h1, h2⟩ := aPart_sim (w := w) e hr
  refine ⟨v', ?_, h2⟩
  simp only [Instr.field, Sem.run_bind, run_underlying hu, Result.andThen_ok, hfd, asAgg, Sem.run_pure]
  simpa using h1

theorem VR.int_left {k : IntKind} {n : Int} {v' : Value} (h : VR μ (.int k n) v') : v' = .int k n := by cases h; rfl
theorem VR.bool_left {b : Bool} {v' : Value} (h : VR μ (.bool b) v') : v' = .bool b := by cases h; rfl
theorem VR.str_left {b : ByteArray} {v' : Value} (h : VR μ (.string b) v') : v' = .string b := by cases h; rfl

theorem aIdx_some {len : Nat} {i : Value} {k : Nat} (h : aIdx len i = some k) : ∃ kd n, i = .int kd n ∧ (0 ≤ n ∧ n < (len : Int)) ∧ k = n.toNat := by
  unfold aIdx at h
  split at h
  · split at h
    · obtain ⟨hc, h⟩ := cond_some h
      cases h
      have := blt_true hc
      exact ⟨_, _, rfl, ⟨by simp, by simpa using this⟩, by simp⟩
    · cases h
  · cases h

theorem aIndexAddr_sim {t : TypeId} {x x' i i' v : Value} (e : aIndexAddr P t x i = some v) (hx : VR μ x x') (hi : VR μ i i') :
    ∃ v', (Instr.indexAt t x' i').run P w = .ok v' w ∧ VR μ v v' := by
  unfold aIndexAddr at e
  split at e
  · rename_i len el hu
    simp only [Option.bind_eq_some_iff, ixA] at e
    obtain ⟨sz, hsz, k, hk, e⟩ := e
    obtain ⟨kd, n, rfl, hb, rfl⟩ := aIdx_some hk
    obtain rfl := hi.int_left
    obtain ⟨b, o, rfl, hv⟩ := addOff_sim e hx
    refine ⟨_, ?_, hv⟩
    simp only [Instr.indexAt, asIntOf, Sem.run_bind, Sem.run_pure, Result.andThen_ok, run_underlying hu, Instr.sureAddr, hb, and_self, if_true, run_sizeOf' hsz, add_mk]
  · rename_i el hu
    simp only [Option.bind_eq_some_iff] at e
    obtain ⟨sz, hsz, e⟩ := e
    unfold ixS at e
    split at e
    · rename_i b o len cap
      simp only [Option.bind_eq_some_iff] at e
      obtain ⟨k, hk, e⟩ := e
      cases e
      obtain ⟨kd, n, rfl, hb, rfl⟩ := aIdx_some hk
      obtain rfl := hi.int_left
      cases hx with
      | sl hm hc hz =>
        rename_i c' m
        refine ⟨.pointer (some ⟨m.b, m.s + (o + n.toNat * sz), none⟩), ?_, .ptr hm⟩
        simp only [Instr.indexAt, asIntOf, Sem.run_bind, Sem.run_pure, Result.andThen_ok, run_underlying hu, hb, and_self, if_true, run_sizeOf' hsz, add_mk]
        rw [Nat.add_assoc]
      | slE hm => simp at hb; omega
    · cases e
  · cases e

theorem strAt_some {s : ByteArray} {i v : Value} (h : strAt s i = some v) : ∃ kd n b, i = .int kd n ∧ 0 ≤ n ∧ s[n.toNat]? = some b ∧ v = .int .u8 b.toNat := by
  simp only [strAt, Option.bind_eq_some_iff] at h
  obtain ⟨k, hk, b, hb, h⟩ := h
  cases h
  obtain ⟨kd, n, rfl, hn, rfl⟩ := aIdx_some hk
  exact ⟨kd, n, b, rfl, hn.1, hb, rfl⟩

theorem aIndex_sim {t : TypeId} {x x' i i' v : Value} (e : aIndex P t x i = some v) (hx : VR μ x x') (hi : VR μ i i') :
    ∃ v', (Instr.index t x' i').run P w = .ok v' w ∧ VR μ v v' := by
  unfold aIndex at e
  split at e
  · rename_i len el hu
    simp only [Option.bind_eq_some_iff] at e
    obtain ⟨cs, hcs, k, hk, sz, hsz, e⟩ := e
    obtain ⟨a, rfl, rfl⟩ := aggL_some hcs
    obtain ⟨cs', rfl, hr⟩ := hx.agg_left
    obtain ⟨kd, n, rfl, hb, rfl⟩ := aIdx_some hk
    obtain rfl := hi.int_left
    obtain ⟨v', h1, h2⟩ := aPart_sim (w := w) e hr
    refine ⟨v', ?_, h2⟩
    simp only [Instr.index, asIntOf, Sem.run_bind, Sem.run_pure, Result.andThen_ok, run_underlying hu, hb, and_self, if_true, run_sizeOf' hsz]
    simpa using h1
  · rename_i hu
    split at e
    · rename_i s
      obtain ⟨kd, n, b, rfl, hn, hb, rfl⟩ := strAt_some e
      obtain rfl := hi.int_left
      obtain rfl := hx.str_left
      refine ⟨_, ?_, .int _ _⟩
      simp only [Instr.index, asIntOf, Sem.run_bind, Sem.run_pure, Result.andThen_ok, run_underlying hu, hn, if_true, hb]
    · cases e
  · cases e

theorem bnd_some {y : Nat} {v : Value} {n : Nat} (h : bnd y v = some n) : ∃ k i, v = .int k i ∧ (0 ≤ i ∧ i ≤ (y : Int)) ∧ n = i.toNat := by
  unfold bnd at h
  split at h
  · obtain ⟨hc, h⟩ := cond_some h
    cases h
    simp at hc
    exact ⟨_, _, rfl, hc, rfl⟩
  · cases h

theorem bndO_le {y d : Nat} {o : Option Value} {n : Nat} (h : bndO y d o = some n) : n ≤ y := by
  cases o with
  | none => simp only [bndO] at h; obtain ⟨hc, h⟩ := cond_some h; cases h; exact Nat.le_of_ble_eq_true hc
  | some v => obtain ⟨_, i, _, hbb, rfl⟩ := bnd_some h; omega

theorem bndO_none {y d n : Nat} (h : bndO y d none = some n) : n = d := by
  simp only [bndO] at h; obtain ⟨_, h⟩ := cond_some h; cases h; rfl

theorem bnds_le {len cap : Nat} {lo hi mx : Option Value} {r : Nat × Nat × Nat} (e : bnds len cap lo hi mx = some r) : r.1 ≤ r.2.1 ∧ r.2.1 ≤ r.2.2 ∧ r.2.2 ≤ cap := by
  simp only [bnds, Option.bind_eq_some_iff] at e
  obtain ⟨m, hm, hh, hhi, e⟩ := e
  obtain ⟨hmh, e⟩ := cond_none_some e
  simp only [Option.bind_eq_some_iff] at e
  obtain ⟨l, hl, e⟩ := e
  cases e
  exact ⟨bndO_le hl, bndO_le hhi, bndO_le hm⟩

/-- an optional value, one by one -/
def VRo (μ : Mu) : Option Value → Option Value → Prop
  | none, none => True
  | some v, some v' => VR μ v v'
  | _, _ => False

theorem run_sliceBound {y y' : Nat} {v v' : Value} {n : Nat} {code : BoundsCode} (h : bnd y v = some n) (hv : VR μ v v') (hy : y ≤ y') :
    (Instr.sliceBound v' y' code).run P w = .ok n w := by
  obtain ⟨k, i, rfl, hb, rfl⟩ := bnd_some h
  obtain rfl := hv.int_left
  have : 0 ≤ i ∧ i ≤ (y' : Int) := ⟨hb.1, by omega⟩
  simp only [Instr.sliceBound, asIntOf, Sem.run_bind, Sem.run_pure, Result.andThen_ok, this, and_self, if_true]

theorem run_sliceBounds {isS : Bool} {len cap cap' : Nat} {lo hi mx lo' hi' mx' : Option Value} {r : Nat × Nat × Nat} (e : bnds len cap lo hi mx = some r)
    (h1 : VRo μ lo lo') (h2 : VRo μ hi hi') (h3 : VRo μ mx mx') (hc : cap ≤ cap') :
    (Instr.sliceBounds isS len cap' lo' hi' mx').run P w = .ok (r.1, r.2.1, cond mx.isSome r.2.2 cap') w ∧ (mx.isSome = false → r.2.2 = cap) := by
  simp only [bnds, Option.bind_eq_some_iff] at e
  obtain ⟨m, hm, hh, hhi, e⟩ := e
  obtain ⟨hmh, e⟩ := cond_none_some e
  simp only [Option.bind_eq_some_iff] at e
  obtain ⟨l, hl, e⟩ := e
  cases e
  have hlo : ∀ (y : Nat) (c1 : BoundsCode), hh ≤ y → (match lo' with
      | some v => Instr.sliceBound v y c1
      | none => pure 0).run P w = .ok l w := by
    intro y c1 hy
    cases lo <;> cases lo' <;> simp only [VRo] at h1
    · rw [bndO_none hl]; rfl
    · exact run_sliceBound (P := P) (w := w) hl h1 hy
  cases mx <;> cases mx' <;> simp only [VRo] at h3
  · have e0 := bndO_none hm
    subst e0
    refine ⟨?_, by simp⟩
    cases hi <;> cases hi' <;> simp only [VRo] at h2
    · have e1 := bndO_none hhi
      subst e1
      have := hlo hh .sliceB (Nat.le_refl _)
      simp only [Instr.sliceBounds, Sem.run_bind, Sem.run_pure, Result.andThen_ok, Option.isSome, Bool.false_eq_true, if_false, cond_false]
      revert this; cases lo' <;> intro this <;> simp_all
    · have := hlo hh .sliceB (Nat.le_refl _)
      simp only [Instr.sliceBounds, Sem.run_bind, Sem.run_pure, Result.andThen_ok, Option.isSome, Bool.false_eq_true, if_false, cond_false, run_sliceBound (P := P) (w := w) hhi h2 hc]
      revert this; cases lo' <;> intro this <;> simp_all
  · refine ⟨?_, by simp⟩
    cases hi <;> cases hi' <;> simp only [VRo] at h2
    · simp at hmh
    · have := hlo hh .slice3C (Nat.le_refl _)
      simp only [Instr.sliceBounds, Sem.run_bind, Sem.run_pure, Result.andThen_ok, Option.isSome, if_true, cond_true, run_sliceBound (P := P) (w := w) hm h3 hc, run_sliceBound (P := P) (w := w) hhi h2 (Nat.le_refl _)]
      revert this; cases lo' <;> intro this <;> simp_all

theorem szOk_opn (hR : R μ A w) {i : Nat} {o sz : Nat} {m : ME} (hm : μ i = some m) (h : szOk A sz (some ⟨i, o, none⟩) = true) : ∀ e Z, m.opn = some (e, Z) → e = sz := by
  intro e Z he
  have hb := hR.blk i m hm
  simp only [szOk] at h
  split at h
  · rename_i hg; rw [hg] at hb; obtain ⟨C, E, fr, _, _, _, h4⟩ := hb; rw [he] at h4; cases h4
  · rename_i hg; rw [hg] at hb; obtain ⟨C, E, fr, _, _, _, h4⟩ := hb; rw [he] at h4; simp at h4; rw [h4.1]; exact Nat.eq_of_beq_eq_true h
  · cases h

theorem slS_sim (hR : R μ A w) {t el : TypeId} (hu : P.underlying t = some (.slice el)) {sz : Nat} (hsz : sizeT P el = some sz) {x x' v : Value} {lo hi mx lo' hi' mx' : Option Value}
    (e : slS A sz x lo hi mx = some v) (hx : VR μ x x') (h1 : VRo μ lo lo') (h2 : VRo μ hi hi') (h3 : VRo μ mx mx') :
    ∃ v', (Instr.sliceAt t x' lo' hi' mx').run P w = .ok v' w ∧ VR μ v v' := by
  unfold slS at e
  split at e
  · rename_i a len cap
    obtain ⟨hok, e1⟩ := cond_some e
    clear e
    simp only [Option.bind_eq_some_iff] at e1
    obtain ⟨⟨l, hh, m⟩, hb, e⟩ := e1
    obtain ⟨hle1, hle2, hle3⟩ := bnds_le hb
    simp only at hle1 hle2 hle3
    cases hx with
    | sl0 =>
      obtain ⟨hrun, hm1⟩ := run_sliceBounds (P := P) (w := w) (isS := true) hb h1 h2 h3 (Nat.le_refl _)
      simp only [slOf, Option.some.injEq] at e
      subst e
      have hcm : (cond mx.isSome m cap) = m := by cases hx : mx.isSome <;> simp; exact (hm1 hx).symm
      simp only [hcm] at hrun
      refine ⟨_, ?_, .sl0 _ _⟩
      simp only [Instr.sliceAt, Sem.run_bind, run_underlying hu, Result.andThen_ok, Instr.slice, hrun, run_sizeOf' hsz, Sem.run_pure]
      split <;> rfl
    | @sl i o _ _ c' me hm hc hz =>
      obtain ⟨hrun, hm1⟩ := run_sliceBounds (P := P) (w := w) (isS := true) hb h1 h2 h3 hc
      simp only [slOf, Option.some.injEq] at e
      subst e
      simp only at hm1
      generalize hM : (cond mx.isSome m c') = M at hrun
      have hmM : m ≤ M := by subst hM; cases hx : mx.isSome <;> simp; have := hm1 hx; omega
      have hrun2 : (Instr.sliceAt t (.slice (some ⟨me.b, me.s + o, none⟩) len c') lo' hi' mx').run P w = .ok (.slice (if M = l then some ⟨me.b, me.s + o, none⟩ else some ⟨me.b, me.s + o + l * sz, none⟩) (hh - l) (M - l)) w := by
        simp only [Instr.sliceAt, Sem.run_bind, run_underlying hu, Result.andThen_ok, Instr.slice, hrun, run_sizeOf' hsz, Sem.run_pure, Option.map_some, add_mk]
      refine ⟨_, hrun2, ?_⟩
      by_cases hl : M = l
      · rw [if_pos hl]
        have e1 : hh - l = 0 := by omega
        have e2 : m - l = 0 := by omega
        have e3 : M - l = 0 := by omega
        rw [e1, e2, e3]
        exact .slE hm
      · rw [if_neg hl, Nat.add_assoc]
        refine .sl hm (by omega) ?_
        by_cases hmm : m = M
        · left; omega
        · right
          have hx : mx.isSome = false := by cases hx : mx.isSome with
            | false => rfl
            | true => rw [hx] at hM; simp at hM; exact absurd hM hmm
          have hmc := hm1 hx
          rw [hx] at hM
          simp at hM
          subst hM
          rcases hz with hz | ⟨e', Z, he, hZ⟩
          · omega
          · have := szOk_opn hR hm hok e' Z he
            subst this
            refine ⟨e', Z, he, ?_⟩
            have : l * e' + (c' - l) * e' = c' * e' := by rw [← Nat.add_mul]; congr 1; omega
            omega
    | @slE i o x me hm =>
      obtain ⟨hrun, hm1⟩ := run_sliceBounds (P := P) (w := w) (isS := true) hb h1 h2 h3 (Nat.le_refl _)
      simp only [slOf, Option.some.injEq] at e
      subst e
      have e1 : hh = 0 := by omega
      have e2 : l = 0 := by omega
      have e3 : m = 0 := by omega
      subst e1; subst e2; subst e3
      have hcm : (cond mx.isSome 0 0) = 0 := by cases mx.isSome <;> rfl
      simp only [hcm] at hrun
      refine ⟨.slice (some ⟨me.b, x, none⟩) 0 0, ?_, .slE hm⟩
      simp only [Instr.sliceAt, Sem.run_bind, run_underlying hu, Result.andThen_ok, Instr.slice, hrun, run_sizeOf' hsz, Sem.run_pure, if_true]
  · cases e

theorem aSlice_sim (hR : R μ A w) {t : TypeId} {x x' v : Value} {lo hi mx lo' hi' mx' : Option Value}
    (e : aSlice P A t x lo hi mx = some v) (hx : VR μ x x') (h1 : VRo μ lo lo') (h2 : VRo μ hi hi') (h3 : VRo μ mx mx') :
    ∃ v', (Instr.sliceAt t x' lo' hi' mx').run P w = .ok v' w ∧ VR μ v v' := by
  unfold aSlice at e
  split at e
  · rename_i n el hu
    simp only [Option.bind_eq_some_iff, slA] at e
    obtain ⟨sz, hsz, ⟨i, o⟩, ha, ⟨l, hh, m⟩, hb, e⟩ := e
    have := asPtr_some ha; subst this
    obtain ⟨me, hm, rfl⟩ := hx.ptr_inv
    obtain ⟨hle1, hle2, hle3⟩ := bnds_le hb
    simp only at hle1 hle2 hle3
    obtain ⟨hrun, hm1⟩ := run_sliceBounds (P := P) (w := w) (isS := false) hb h1 h2 h3 (Nat.le_refl _)
    simp only [slOf, Option.some.injEq] at e
    subst e
    have hcm : (cond mx.isSome m n) = m := by cases hx : mx.isSome <;> simp; exact (hm1 hx).symm
    simp only [hcm] at hrun
    refine ⟨.slice (some (if m = l then ⟨me.b, me.s + o, none⟩ else ⟨me.b, me.s + o + l * sz, none⟩)) (hh - l) (m - l), ?_, ?_⟩
    · simp only [Instr.sliceAt, Sem.run_bind, run_underlying hu, Result.andThen_ok, Instr.sureAddr, Sem.run_pure, hrun, run_sizeOf' hsz, add_mk]
    · by_cases hl : m = l
      · rw [if_pos hl]
        have e1 : hh - l = 0 := by omega
        have e2 : m - l = 0 := by omega
        rw [e1, e2]
        exact .slE hm
      · rw [if_neg hl, Nat.add_assoc]
        exact .sl hm (Nat.le_refl _) (.inl rfl)
  · rename_i el hu
    simp only [Option.bind_eq_some_iff] at e
    obtain ⟨sz, hsz, e⟩ := e
    exact slS_sim hR hu hsz e hx h1 h2 h3
  · rename_i hu
    split at e
    · rename_i s
      simp only [slStr, Option.bind_eq_some_iff] at e
      obtain ⟨⟨l, hh, m⟩, hb, e⟩ := e
      cases e
      obtain rfl := hx.str_left
      cases mx' with
      | some v => exact h3.elim
      | none =>
        obtain ⟨hrun, hm1⟩ := run_sliceBounds (P := P) (w := w) (isS := false) hb h1 h2 h3 (Nat.le_refl _)
        refine ⟨_, ?_, .str _⟩
        simp only [Instr.sliceAt, Sem.run_bind, run_underlying hu, Result.andThen_ok, Instr.slice, Option.isSome, Bool.false_eq_true, if_false, hrun, Sem.run_pure, pure_bind]
    · cases e
  · cases e

theorem aArrPtr_sim {t : TypeId} {x x' v : Value} (e : aArrPtr P t x = some v) (hx : VR μ x x') : ∃ v', (Instr.arrayAt t x').run P w = .ok v' w ∧ VR μ v v' := by
  unfold aArrPtr at e
  split at e
  · rename_i n el b o len cap hu
    obtain ⟨hc, e⟩ := cond_some e
    cases e
    simp only [Bool.and_eq_true] at hc
    have h1 := Nat.le_of_ble_eq_true hc.1
    have h2 := Nat.le_of_ble_eq_true hc.2
    cases hx with
    | @sl _ _ _ _ c' me hm hc hz =>
      refine ⟨_, ?_, .ptr hm⟩
      have : ¬ len < n := by omega
      simp only [Instr.arrayAt, Sem.run_bind, run_underlying hu, Result.andThen_ok, this, if_false, Sem.run_pure]
    | slE hm => omega
  · cases e

theorem aNilCheck_sim {x x' v : Value} (e : aNilCheck x = some v) (hx : VR μ x x') : v = x ∧ ((∃ a, x' = .pointer (some a)) ∨ (∃ f a b, x' = .func (.func f) a b) ∨ (∃ f a b, x' = .func (.yield f) a b)) := by
  unfold aNilCheck at e
  split at e
  · cases e
    rename_i a
    refine ⟨rfl, .inl ?_⟩
    cases hx with
    | ptr hm => exact ⟨_, rfl⟩
  · cases e
    refine ⟨rfl, .inr (.inl ?_)⟩
    cases hx with
    | fnc => exact ⟨_, _, _, rfl⟩
  · cases e
    refine ⟨rfl, .inr (.inr ?_)⟩
    cases hx with
    | yield => exact ⟨_, _, _, rfl⟩
  · cases e

end Go.Ab
