/- A part of the claim's proof: AbDrawW. Conditions: none. -/
import Derived.Test.YtdbiilapiloaiaaAbDraw
/-! Regions that draw their order: the writers, and the whole. -/
set_option linter.all false
namespace Go.Ab
open Go
set_option linter.unusedVariables false
set_option linter.unusedSimpArgs false
set_option linter.unusedSectionVars false

variable {H : Type} [HeapC H] {P : Program} {μ : Mu} {A : H} {w : World}
variable {o : Orc H} {ops : Array Oper} {base nt : Nat} {f : Nat → Tm × H × Nat} {v : Nat → Value} {M : Nat → Mu} {W : Nat → World} {ts : Nat → Array Value}
variable {μ0 : Mu} {w0 : World} {df : List Deferred}

theorem Mu.on_none {D : Nat → Prop} {i : Nat} (h : μ i = none) : μ.on D i = none := by unfold Mu.on; split <;> simp [h]

/-- what is left of the relation when only the names of D are kept -/
theorem R.onD {D : Nat → Prop} (hR : R μ A w) (hs : ∀ i, D i → BlkSup D (HeapC.get A i)) : R (μ.on D) A w where
  blk := fun i m h => let ⟨hd, hm⟩ := Mu.on_some h; (hR.blk i m hm).onS (hs i hd)
  inj := fun i j mi mj hi hj => hR.inj i j mi mj (Mu.on_some hi).2 (Mu.on_some hj).2
  lt := fun i m h => hR.lt i m (Mu.on_some h).2

theorem dead_of_wr' {b : Option ABlk} (h : wrB b = true) : deadB b = false := by
  unfold wrB at h; unfold deadB
  split <;> simp_all
theorem ro_of_wr' {b : Option ABlk} (h : wrB b = true) : roB b = false := by
  unfold wrB at h; unfold roB
  split <;> simp_all

/-- a writer's step -/
theorem Inv.step_w (hO : OS P o) (cx : Cx P o ops base nt f v M W ts) (hM : M 0 = μ0) {s : Nat → Bool} {p : Nat} {a : Act} (I : Inv ops base nt f v M μ0 w0 df s p μ a w) {j : Nat} {oper : Oper} (hj : ops[j]? = some oper) (hns : s j = false)
    (hp : ∀ e ∈ oper.after.toList, Region.binds .any e = true → s e.on = true) (hc : cls oper.op = 3) {ro : Option Nat} {n : Nat} {K : Act → World → Prop} {Q : Exit → Act → World → Prop}
    (hK : ∀ p' μ' a' w', Inv ops base nt f v M μ0 w0 df (upS s j) p' μ' a' w' → K a' w') : wpOpIn (wd ro) n P ops Q j K a w := by
  have hE := regOk_edges cx.reg
  have hjn := getop_lt hj
  have hjp : j = p := by
    rcases Nat.lt_trichotomy j p with h | h | h
    · have := I.pre j oper h hj hc; rw [hns] at this; cases this
    · exact h
    · rcases I.wp with h' | ⟨op', ho', hc'⟩
      · omega
      · have hb : (msk ops j).testBit p = true := by
          rcases regOk_pair cx.reg h ho' hj with hb | ⟨_, _, h3⟩
          · exact hb
          · exact absurd ⟨hc', hc⟩ h3
        have hsp := msk_closed hE (S := fun k => s k = true) I.cl j p oper hj hp hb
        exact absurd hc' (I.nW p hsp (Nat.le_refl _) op' ho')
  subst hjp
  have hj256 := cx.k256 hjn
  obtain ⟨hst, hput⟩ := cx.tr.step j oper hj
  have hread : ∀ t ∈ tmpsOf ops oper, tmS ops v (f 0).1 s ops.size t = (f j).1 t := fun t ht => cx.read I.cl hj hns hp ht
  have hpn := I.hpn
  have hbp : base < (f j).2.2 := cx.can.bc j hpn
  -- only what is named ahead of j
  have hμr : R (μ.on (Dn M j)) (f j).2.1 w := by
    have h0 : R (μ.on (Dn M j)) (vbF f base ops.size j) w := I.rel.onD fun i hd => by rw [cx.vbD hpn hd]; exact cx.can.suph hpn hd
    refine h0.cong fun i hi => ?_
    cases e : (μ.on (Dn M j)) i with
    | none => exact absurd e hi
    | some m => exact (cx.vbD hpn (Mu.on_some e).1).symm
  have hid : (μ.on (Dn M j)) (256 * base + j) = none := Mu.on_not (fun hd => cx.can.notown hpn hd ⟨by omega, by omega⟩)
  have hfresh : Fresh (μ.on (Dn M j)) (f j).2.2 := fun i hi => Mu.on_not (fun hd => by have := cx.can.lt hpn hd; omega)
  let tm1 : Tm := fun t => if t ∈ tmpsOf ops oper then (f j).1 t else none
  have htm1 : TmR (μ.on (Dn M j)) tm1 nt a.tmps := by
    refine ⟨I.tmr.size, fun t x hx => ?_⟩
    have hx' : t ∈ tmpsOf ops oper ∧ (f j).1 t = some x := by
      simp only [tm1] at hx
      split at hx
      · rename_i h; exact ⟨h, hx⟩
      · cases hx
    obtain ⟨x', h1, h2⟩ := I.tmr.val t x (by rw [hread t hx'.1]; exact hx'.2)
    exact ⟨x', h1, h2.onS (cx.can.suptm hpn hx'.2)⟩
  have hst1 : stepOp P o ops base j nt tm1 (f j).2.1 (f j).2.2 oper = some (v j, (f (j + 1)).2.1, (f (j + 1)).2.2) := by
    rw [stepOp_congr (tm' := (f j).1)]
    · exact hst
    · intro t ht; simp only [tm1, ht, if_true]
  obtain ⟨p', hp1, hp2, hp3, hp4⟩ := next_ex ops _ (j + 1) rfl (by omega)
  obtain ⟨hwc, hwk⟩ := cx.walk hp1 hp2 hp4
  refine step_wp hO hj hst1 htm1 hμr hid hfresh fun v' μ1 w1 hv hE1 => ?_
  have hDmono : ∀ i, Dn M j i → Dn M (j + 1) i := fun i h => cx.can.mono1 (Nat.le_refl _) hjn h
  have hDp' : ∀ i, Dn M (j + 1) i → Dn M p' i := fun i h => cx.can.mono (Nat.le_refl _) hp1 hp2 h
  -- blocks laid ahead of their turn
  have hEid : ∀ i, μ i ≠ none → ¬ Dn M (j + 1) i → ∃ k, s k = true ∧ j < k ∧ k < ops.size ∧ i = 256 * base + k ∧ wrB (HeapC.get (f (k + 1)).2.1 i) = true ∧ Dn M (k + 1) i := by
    intro i h1 h2
    rcases I.dom i h1 with h | ⟨k, a1, a2, a3⟩
    · exact absurd (hDmono i h) h2
    · refine ⟨k, a1, ?_, a3⟩
      rcases Nat.lt_or_eq_of_le a2 with h | h
      · exact h
      · subst h; rw [hns] at a1; cases a1
  have hμ1E : ∀ k, k < ops.size → (μ.on (Dn M j)) (256 * base + k) = none → μ1 (256 * base + k) ≠ none → k = j := by
    intro k hk h0 h1
    have := cx.k256 hk
    rcases hE1.new _ h0 h1 with h | h
    · have := h.1; omega
    · omega
  have hDold : ∀ i m, μ i = some m → Dn M (j + 1) i → Dn M j i := by
    intro i m hm hd
    rcases I.dom i (by rw [hm]; simp) with h | ⟨k, a1, a2, a3, a4, _⟩
    · exact h
    · have hk256 := cx.k256 a3
      have hkj : k ≠ j := by intro e; subst e; rw [hns] at a1; cases a1
      exact absurd (show ownF base (j + 1) i from ⟨by omega, by omega⟩) (cx.can.notown (by omega) hd)
  let μ2 : Mu := fun i => if M (j + 1) i = none then μ i else μ1 i
  have hμ2D : ∀ i, Dn M (j + 1) i → μ2 i = μ1 i := fun i h => by simp only [μ2]; rw [if_neg h]
  have hμ2N : ∀ i, ¬ Dn M (j + 1) i → μ2 i = μ i := fun i h => by
    simp only [μ2]
    rw [if_pos]
    cases e : M (j + 1) i with
    | none => rfl
    | some m => exact absurd (by unfold Dn; rw [e]; simp) h
  have hle2 : μ.le μ2 := by
    intro i m hm
    by_cases hd : Dn M (j + 1) i
    · rw [hμ2D i hd]
      have h0 := hDold i m hm hd
      exact hE1.mu i m (by rw [Mu.on_of h0]; exact hm)
    · rw [hμ2N i hd]; exact hm
  have hle1 : (μ1.on (Dn M (j + 1))).le μ2 := by
    intro i m hm
    obtain ⟨hd, h1⟩ := Mu.on_some hm
    rw [hμ2D i hd]; exact h1
  have hv2 : VR μ2 (v j) v' := (hv.onS (cx.can.supv hjn)).mono hle1
  -- what the writer may have touched
  have hgd1 : ∀ i m, μ0 i = none → μ1 i = some m → Gd f μ0 w0 m := by
    intro i m h0 h1
    cases e : (μ.on (Dn M j)) i with
    | some m' =>
      have := hE1.mu i m' e
      rw [h1] at this; cases this
      exact I.newb i _ h0 (Mu.on_some e).2
    | none =>
      rcases hE1.newb i m e h1 with h | ⟨k, mk, hk, hkb, hkw⟩
      · exact .inl (Nat.le_trans I.size h)
      · obtain ⟨hd, hk'⟩ := Mu.on_some hk
        have := I.gd cx hM hk' (by rw [cx.vbD hpn hd]; exact hkw)
        unfold Gd at this ⊢
        rw [← hkb]; exact this
  have hvbE : ∀ k, s k = true → j < k → k < ops.size → HeapC.get (vbF f base ops.size j) (256 * base + k) = HeapC.get (f (k + 1)).2.1 (256 * base + k) := fun k _ h1 h2 => vbF_own (by omega) h2
  have hvb'E : ∀ k, s k = true → j < k → k < ops.size → HeapC.get (vbF f base ops.size p') (256 * base + k) = HeapC.get (f (k + 1)).2.1 (256 * base + k) := by
    intro k _ h1 h2
    by_cases hkp : p' ≤ k
    · exact vbF_own hkp h2
    · rw [vbF_not (by omega)]
      have hk1 : k + 1 ≤ p' := by omega
      exact (cx.walk hk1 hp2 (fun q a b => hp4 q (by omega) b)).2 _ (fun q a b => by omega)
  have hvb'D : ∀ i, Dn M (j + 1) i → HeapC.get (vbF f base ops.size p') i = HeapC.get (f (j + 1)).2.1 i := by
    intro i hd
    rw [cx.vbD hp2 (hDp' i hd)]
    refine hwk i fun k a b => ?_
    have := cx.k256 (show k < ops.size by omega)
    intro e
    exact cx.can.notown (show j + 1 ≤ ops.size by omega) hd ⟨by omega, by omega⟩
  -- an early block is apart from all that the writer could write, and from all that it knows
  have hEfr : ∀ i m, μ i = some m → ¬ Dn M (j + 1) i → w1.heap[m.b]? = w.heap[m.b]? := by
    intro i m hm hnd
    obtain ⟨k, a1, a2, a3, rfl, a5, _⟩ := hEid i (by rw [hm]; simp) hnd
    refine hE1.fr m.b (I.rel.lt _ m hm) fun i' m' hi' hw' => ?_
    obtain ⟨hd', hi''⟩ := Mu.on_some hi'
    have hwv : wrB (HeapC.get (vbF f base ops.size j) i') = true := by rw [cx.vbD hpn hd']; exact hw'
    refine I.rel.inj i' _ m' m hi'' hm (fun e => hnd (e ▸ hDmono _ hd')) (dead_of_wr' hwv) ?_ (by rw [ro_of_wr' hwv]; simp)
    rw [hvbE k a1 a2 a3]; exact dead_of_wr' a5
  have hcross : ∀ i e mi me, μ1 i = some mi → Dn M (j + 1) i → μ e = some me → ¬ Dn M (j + 1) e → deadB (HeapC.get (f (j + 1)).2.1 i) = false → mi.b ≠ me.b := by
    intro i e mi me hi hdi he hde hdead
    obtain ⟨k, a1, a2, a3, rfl, a5, _⟩ := hEid e (by rw [he]; simp) hde
    have hvE : wrB (HeapC.get (vbF f base ops.size j) (256 * base + k)) = true := by rw [hvbE k a1 a2 a3]; exact a5
    cases e0 : (μ.on (Dn M j)) i with
    | some m0 =>
      have := hE1.mu i m0 e0
      rw [hi] at this; cases this
      obtain ⟨hd0, hm0⟩ := Mu.on_some e0
      refine I.rel.inj i _ mi me hm0 he (fun e => hde (e ▸ hdi)) ?_ (dead_of_wr' hvE) (by rw [ro_of_wr' hvE]; simp)
      rw [cx.vbD hpn hd0]
      cases hdd : deadB (HeapC.get (f j).2.1 i) with
      | false => rfl
      | true => have := hE1.dd i mi e0 hdd; rw [this] at hdead; cases hdead
    | none =>
      have hlt := I.rel.lt _ me he
      rcases hE1.newb i mi e0 hi with h | ⟨q, mq, hq, hqb, hqw⟩
      · omega
      · obtain ⟨hdq, hmq⟩ := Mu.on_some hq
        rw [← hqb]
        have hwq : wrB (HeapC.get (vbF f base ops.size j) q) = true := by rw [cx.vbD hpn hdq]; exact hqw
        exact I.rel.inj q _ mq me hmq he (fun e => hde (e ▸ hDmono _ hdq)) (dead_of_wr' hwq) (dead_of_wr' hvE) (by rw [ro_of_wr' hwq]; simp)
  refine hK p' μ2 _ w1 ?_
  refine { hpn := hp2, pre := ?_, nW := ?_, wp := hp3, cl := closed_up I.cl hj hp, le0 := fun i m h => hle2 i m (I.le0 i m h), dom := ?_, ny := ?_, rel := ⟨?_, ?_, ?_⟩, tmr := ?_, df := ?_,
           os := hE1.os.trans I.os, tape := hE1.tape.trans I.tape, output := hE1.output.trans I.output, size := Nat.le_trans I.size hE1.size, fr := ?_, newb := ?_ }
  · intro k ok hk hok h3
    rcases Nat.lt_trichotomy k j with h | h | h
    · have := I.pre k ok h hok h3; simp [upS, this]
    · subst h; exact upS_self s k
    · exact absurd h3 (hp4 k (by omega) hk ok hok)
  · intro k hk hpk
    rcases upS_true hk with h | rfl
    · exact I.nW k h (by omega)
    · omega
  · intro i hi
    by_cases hd : Dn M (j + 1) i
    · exact .inl (hDp' i hd)
    · rw [hμ2N i hd] at hi
      obtain ⟨k, a1, a2, a3, a4, a5, a6⟩ := hEid i hi hd
      by_cases hkp : p' ≤ k
      · exact .inr ⟨k, by simp [upS, a1], hkp, a3, a4, a5, a6⟩
      · exact .inl (cx.can.mono (Nat.le_refl _) (show k + 1 ≤ p' by omega) hp2 a6)
  · intro k hk hsk
    have hkj : k ≠ j := by intro e; subst e; rw [upS_self] at hsk; cases hsk
    rw [upS_ne hkj] at hsk
    have hkn : k < ops.size := by omega
    have hk256 := cx.k256 hkn
    by_cases hlt : k < j
    · obtain ⟨h1, h2⟩ := I.ny k hlt hsk
      have hr0 : (μ.on (Dn M j)) (256 * base + k) = none := Mu.on_none h1
      refine ⟨?_, ?_⟩
      · by_cases hd : Dn M (j + 1) (256 * base + k)
        · rw [hμ2D _ hd]
          cases e : μ1 (256 * base + k) with
          | none => rfl
          | some m => exact absurd (hμ1E k hkn hr0 (by rw [e]; simp)) hkj
        · rw [hμ2N _ hd]; exact h1
      · rw [hwk _ (fun q a b => by omega), ← h2]
        exact hE1.af _ hr0 (by omega) (fun h => hkj (by have := h.1; omega))
    · have hnd : ¬ Dn M (j + 1) (256 * base + k) := fun hd => cx.can.notown (by omega) hd ⟨by omega, by omega⟩
      refine ⟨?_, ?_⟩
      · rw [hμ2N _ hnd]
        cases e : μ (256 * base + k) with
        | none => rfl
        | some m =>
          obtain ⟨k', a1, a2, a3, a4, _⟩ := hEid _ (by rw [e]; simp) hnd
          have : k' = k := by omega
          subst this; rw [hsk] at a1; cases a1
      · exact (cx.walk (show k + 1 ≤ p' by omega) hp2 (fun q a b => hp4 q (by omega) b)).2 _ (fun q a b => by omega)
  · intro i m hm
    by_cases hd : Dn M (j + 1) i
    · rw [hμ2D i hd] at hm
      rw [hvb'D i hd]
      exact ((hE1.rel.blk i m hm).onS (cx.can.suph (by omega) hd)).mono hle1
    · rw [hμ2N i hd] at hm
      obtain ⟨k, a1, a2, a3, rfl, a5, _⟩ := hEid i (by rw [hm]; simp) hd
      have h0 := I.rel.blk _ m hm
      rw [hvbE k a1 a2 a3] at h0
      rw [hvb'E k a1 a2 a3]
      exact (h0.congr (hEfr _ m hm hd)).mono hle2
  · intro x y mx my hx hy hne h1 h2 h3
    by_cases hdx : Dn M (j + 1) x <;> by_cases hdy : Dn M (j + 1) y
    · rw [hμ2D x hdx] at hx; rw [hμ2D y hdy] at hy
      rw [hvb'D x hdx] at h1 h3; rw [hvb'D y hdy] at h2 h3
      exact hE1.rel.inj x y mx my hx hy hne h1 h2 h3
    · rw [hμ2D x hdx] at hx; rw [hμ2N y hdy] at hy
      rw [hvb'D x hdx] at h1
      exact hcross x y mx my hx hdx hy hdy h1
    · rw [hμ2N x hdx] at hx; rw [hμ2D y hdy] at hy
      rw [hvb'D y hdy] at h2
      exact (hcross y x my mx hy hdy hx hdx h2).symm
    · rw [hμ2N x hdx] at hx; rw [hμ2N y hdy] at hy
      obtain ⟨k, a1, a2, a3, e1, a5, _⟩ := hEid x (by rw [hx]; simp) hdx
      obtain ⟨l, b1, b2, b3, e2, b5, _⟩ := hEid y (by rw [hy]; simp) hdy
      subst e1; subst e2
      have hvx : wrB (HeapC.get (vbF f base ops.size j) (256 * base + k)) = true := by rw [hvbE k a1 a2 a3]; exact a5
      have hvy : wrB (HeapC.get (vbF f base ops.size j) (256 * base + l)) = true := by rw [hvbE l b1 b2 b3]; exact b5
      exact I.rel.inj _ _ mx my hx hy hne (dead_of_wr' hvx) (dead_of_wr' hvy) (by rw [ro_of_wr' hvx]; simp)
  · intro i m hm
    by_cases hd : Dn M (j + 1) i
    · rw [hμ2D i hd] at hm; exact hE1.rel.lt i m hm
    · rw [hμ2N i hd] at hm; exact Nat.lt_of_lt_of_le (I.rel.lt i m hm) hE1.size
  · obtain ⟨_, _, _, hd, _⟩ := stepOp_some hst
    have h0 := TmR.put (a := a) (I.tmr.mono hle2) hd hv2
    refine ⟨h0.size, fun t x hx => h0.val t x ?_⟩
    rw [cx.tmUp I.cl hj hns t ops.size (Nat.le_refl _), if_pos hjn] at hx
    exact hx
  · rw [← I.df]; cases oper.dst <;> rfl
  · intro b hb hn
    rw [hE1.fr b (Nat.lt_of_lt_of_le hb I.size) ?_, I.fr b hb hn]
    intro i m hm hw
    obtain ⟨hd, hm'⟩ := Mu.on_some hm
    exact (I.gd cx hM hm' (by rw [cx.vbD hpn hd]; exact hw)).ne hb hn
  · intro i m h0 hm
    by_cases hd : Dn M (j + 1) i
    · rw [hμ2D i hd] at hm; exact hgd1 i m h0 hm
    · rw [hμ2N i hd] at hm; exact I.newb i m h0 hm

end Go.Ab
