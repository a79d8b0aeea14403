/- A part of the claim's proof: AbArith. Conditions: none. -/
import Derived.Test.YtdbiilapiloaiaaAbPure
import Derived.WideKeyRuns
/-! Arithmetic, comparisons, aggregates, maps. -/
set_option linter.all false
namespace Go.Ab
open Go
set_option linter.unusedVariables false
set_option linter.unusedSimpArgs false

variable {H : Type} [HeapC H] {P : Program} {μ : Mu} {A : H} {w : World}

theorem aEq_sim : ∀ (d : Nat) {t : TypeId} {x y x' y' : Value} {b : Bool}, aEq P d t x y = some b → VR μ x x' → VR μ y y' →
    ∀ (w : World) (k : Nat), d ≤ k → (Op.equalIn k t x' y').run P w = .ok b w
  | 0, t, x, y, x', y', b, e, hx, hy => by simp [aEq] at e
  | d + 1, t, x, y, x', y', b, e, hx, hy => by
    intro w k hk
    obtain ⟨k, rfl⟩ : ∃ n, k = n + 1 := ⟨k - 1, by omega⟩
    have hk : d ≤ k := by omega
    have ih := fun {t x y x' y' b} => aEq_sim (t := t) (x := x) (y := y) (x' := x') (y' := y') (b := b) d
    unfold aEq at e
    split at e
    · rename_i hu
      cases e; obtain rfl := hx.bool_left; obtain rfl := hy.bool_left
      simp [Op.equalIn, run_underlying hu]
    · rename_i hu
      obtain ⟨hc, e⟩ := cond_some e
      cases e; obtain rfl := hx.int_left; obtain rfl := hy.int_left
      simp at hc; subst hc
      simp [Op.equalIn, run_underlying hu]
    · rename_i hu
      cases e; obtain rfl := hx.str_left; obtain rfl := hy.str_left
      simp [Op.equalIn, run_underlying hu, beq_toListBytes]
    · rename_i fs xs ys hu
      obtain ⟨hst, e⟩ := cond_none_some e
      obtain ⟨xs', rfl, hxs⟩ := hx.agg_left
      obtain ⟨ys', rfl, hys⟩ := hy.agg_left
      have hfo : P.fieldsOf t = fs := by simp [Program.fieldsOf, hu]
      rw [run_equalIn_struct w k t xs' ys' (by rw [hfo]; exact hu) hst, hfo]
      generalize fs.toList = l at e
      induction l with
      | nil => simp [aEqFs] at e; subst e; simp [Op.eqFields]
      | cons f l ihl =>
        simp only [aEqFs] at e
        simp only [Op.eqFields]
        cases hf : f.name == "_" with
        | true =>
          rw [hf] at e
          simp only [cond_true] at e
          have hf' : f.name = "_" := by simpa using hf
          simp only [hf', ne_eq, not_true_eq_false, if_false]
          exact ihl e
        | false =>
          rw [hf] at e
          simp only [cond_false, Option.bind_eq_some_iff] at e
          obtain ⟨a, ha, c, hc, r, hr, e⟩ := e
          have hf' : f.name ≠ "_" := by simpa using hf
          obtain ⟨a', h1, h2⟩ := aPart_sim (w := w) ha hxs
          obtain ⟨c', h3, h4⟩ := aPart_sim (w := w) hc hys
          have h5 := ih hr h2 h4 w k hk
          simp only [Array.toArray_toList] at h1 h3
          simp only [hf', ne_eq, not_false_eq_true, if_true, Sem.run_bind, h1, h3, h5, Result.andThen_ok]
          cases r with
          | true => simp only [cond_true] at e; simpa using ihl e
          | false => simp at e; subst e; simp
    · rename_i len el xs ys hu
      simp only [Option.bind_eq_some_iff] at e
      obtain ⟨n, hn, e⟩ := e
      obtain ⟨xs', rfl, hxs⟩ := hx.agg_left
      obtain ⟨ys', rfl, hys⟩ := hy.agg_left
      have hn' := hn
      simp only [sizeT, Option.map_eq_some_iff] at hn'
      obtain ⟨inf, hinf, hsz⟩ := hn'
      have hcell : P.cellsOf el = n := by simp [Program.cellsOf, hinf, hsz]
      rw [run_equalIn_array w k xs' ys' hu hinf, hcell]
      generalize List.range len = l at e
      induction l with
      | nil => simp [aEqEs] at e; subst e; simp [Op.eqItems]
      | cons i l ihl =>
        simp only [aEqEs, Option.bind_eq_some_iff] at e
        obtain ⟨a, ha, c, hc, r, hr, e⟩ := e
        obtain ⟨a', h1, h2⟩ := aPart_sim (w := w) ha hxs
        obtain ⟨c', h3, h4⟩ := aPart_sim (w := w) hc hys
        have h5 := ih hr h2 h4 w k hk
        simp only [Array.toArray_toList] at h1 h3
        simp only [Op.eqItems, Sem.run_bind, h1, h3, h5, Result.andThen_ok]
        cases r with
        | true => simp only [cond_true] at e; simpa using ihl e
        | false => simp at e; subst e; simp
    · rename_i hu
      cases e
      cases hx
      cases hy <;> (rw [Op.equalIn, Sem.run_bind, run_underlying hu]; rfl)
    · obtain ⟨el, hu⟩ : ∃ el, P.underlying t = some (.slice el) := ⟨_, by assumption⟩
      cases e
      cases hy
      cases hx <;> first | (exfalso; simp_all; done) | (rw [Op.equalIn, Sem.run_bind, run_underlying hu]; rfl)
    · rename_i hu
      cases e
      cases hx
      cases hy <;> (rw [Op.equalIn, Sem.run_bind, run_underlying hu]; rfl)
    · obtain ⟨kk, el, hu⟩ : ∃ kk el, P.underlying t = some (.map kk el) := ⟨_, _, by assumption⟩
      cases e
      cases hy
      cases hx <;> first | (exfalso; simp_all; done) | (rw [Op.equalIn, Sem.run_bind, run_underlying hu]; rfl)
    · rename_i hu
      cases e
      cases hx; cases hy
      rw [Op.equalIn, Sem.run_bind, run_underlying hu]; rfl
    · rename_i hu
      cases e
      cases hx; cases hy <;> (rw [Op.equalIn, Sem.run_bind, run_underlying hu]; rfl)
    · rename_i hu
      cases e
      cases hy; cases hx <;> (rw [Op.equalIn, Sem.run_bind, run_underlying hu]; rfl)
    · rename_i hu
      cases e
      cases hx
      cases hy <;> (rw [Op.equalIn, Sem.run_bind, run_underlying hu]; rfl)
    · obtain ⟨el, hu⟩ : ∃ el, P.underlying t = some (.pointer el) := ⟨_, by assumption⟩
      cases e
      cases hy
      cases hx <;> first | (exfalso; simp_all; done) | (rw [Op.equalIn, Sem.run_bind, run_underlying hu]; rfl)
    · cases e

theorem intBin_sim {op : BinOp} {k : IntKind} {a b : Int} {v : Value} (e : intBin op k a b = some v) (h1 : op ≠ .shl) (h2 : op ≠ .shr) (t : TypeId) :
    (binOp op t (.int k a) (.int k b)).run P w = .ok v w ∧ VR μ v v := by
  unfold intBin at e
  split at e <;> first
    | (cases e; refine ⟨?_, VR.plain rfl⟩; simp [binOp, Op.intArith, Op.intBits, Op.intCmp]; done)
    | (obtain ⟨hc, e⟩ := cond_none_some e; cases e; refine ⟨?_, VR.plain rfl⟩; simp at hc; simp [binOp, Op.intDiv, hc]; done)
    | cases e

theorem shiftBin_sim {op : BinOp} {k k' : IntKind} {a b : Int} {v : Value} (e : shiftBin op k a b = some v) (t : TypeId) :
    (binOp op t (.int k a) (.int k' b)).run P w = .ok v w ∧ VR μ v v := by
  unfold shiftBin at e
  split at e
  · obtain ⟨hc, e⟩ := cond_none_some e
    cases e
    refine ⟨?_, VR.plain rfl⟩
    have : ¬ b < 0 := by simpa using hc
    simp [binOp, Op.shift, this]
  · obtain ⟨hc, e⟩ := cond_none_some e
    cases e
    refine ⟨?_, VR.plain rfl⟩
    have : ¬ b < 0 := by simpa using hc
    simp [binOp, Op.shift, this]
  · cases e

theorem strBin_sim {op : BinOp} {a b : ByteArray} {v : Value} (e : strBin op a b = some v) (t : TypeId) :
    (binOp op t (.string a) (.string b)).run P w = .ok v w ∧ VR μ v v := by
  unfold strBin at e
  split at e <;> first
    | (cases e; refine ⟨?_, VR.plain rfl⟩; simp [binOp, Op.stringOp]; done)
    | (obtain ⟨hc, e⟩ := cond_some e; cases e; refine ⟨?_, VR.plain rfl⟩; have := Nat.le_of_ble_eq_true hc
       have h9 : ¬ ((a.size + b.size : Nat) : Int) > IntKind.i64.max := by
         have : IntKind.i64.max = 9223372036854775807 := by decide
         omega
       simp only [binOp, Op.stringOp, h9, if_false, Sem.run_pure]; done)
    | cases e

theorem guardOk_sim {t : TypeId} {x x' y' : Value} {op : BinOp} {ox oy : Operand} (h : guardOk P t x = true) (hx : VR μ x x') : (eqGuard op t ox oy x' y').run P w = .ok () w := by
  cases hx <;> simp only [guardOk] at h
  case agg xs ys hs hh =>
    cases y' with
    | agg zs => exact run_eqGuard_agg w op t ox oy ys zs (by simpa using h)
    | _ => cases op <;> simp [eqGuard]
  all_goals first
    | (cases op <;> simp [eqGuard]; done)
    | (simp at h; done)

theorem binOp_eq_of {d : Nat} {t : TypeId} {x y x' y' : Value} {b : Bool} (e : aEq P (d + 1) t x y = some b) (hx : VR μ x x') (hy : VR μ y y')
    (hni : ∀ k a k' c, x = .int k a → y = .int k' c → False) (hns : ∀ a c, x = .string a → y = .string c → False) :
    (binOp .eql t x' y').run P w = ((Op.equal t x' y').run P w).andThen (fun b w' => .ok (.bool b) w') ∧
    (binOp .neq t x' y').run P w = ((Op.equal t x' y').run P w).andThen (fun b w' => .ok (.bool (!b)) w') := by
  unfold aEq at e
  split at e
  · obtain rfl := hx.bool_left; obtain rfl := hy.bool_left; constructor <;> simp [binOp]
  · exact (hni _ _ _ _ rfl rfl).elim
  · exact (hns _ _ rfl rfl).elim
  · obtain ⟨xs', rfl, _⟩ := hx.agg_left; obtain ⟨ys', rfl, _⟩ := hy.agg_left; constructor <;> simp [binOp]
  · obtain ⟨xs', rfl, _⟩ := hx.agg_left; obtain ⟨ys', rfl, _⟩ := hy.agg_left; constructor <;> simp [binOp]
  · clear e hni hns; cases hx <;> cases hy <;> constructor <;> simp [binOp]
  · clear e hni hns; cases hy; cases hx <;> constructor <;> simp [binOp]
  · clear e hni hns; cases hx; cases hy <;> constructor <;> simp [binOp]
  · clear e hni hns; cases hy; cases hx <;> constructor <;> simp [binOp]
  · clear e hni hns; cases hx; cases hy; constructor <;> simp [binOp]
  · clear e hni hns; cases hx; cases hy <;> constructor <;> simp [binOp]
  · clear e hni hns; cases hy; cases hx <;> constructor <;> simp [binOp]
  · clear e hni hns; cases hx; cases hy <;> constructor <;> simp [binOp]
  · clear e hni hns; cases hy; cases hx <;> constructor <;> simp [binOp]
  · cases e

theorem aBinOp_sim {op : BinOp} {t : TypeId} {x y x' y' v : Value} {ox oy : Operand} (e : aBinOp P op t x y = some v) (hx : VR μ x x') (hy : VR μ y y') :
    ∃ v', (do eqGuard op t ox oy x' y'; binOp op t x' y' : Sem Value).run P w = .ok v' w ∧ VR μ v v' := by
  rw [aBinOp_eq] at e
  unfold aBinOp0 at e
  split at e
  · rename_i k a k' b
    obtain rfl := hx.int_left; obtain rfl := hy.int_left
    have hg : (eqGuard op t ox oy (.int k a) (.int k' b)).run P w = .ok () w := by cases op <;> simp [eqGuard]
    simp only [Sem.run_bind, hg, Result.andThen_ok]
    split at e
    · obtain ⟨h1, h2⟩ := shiftBin_sim (P := P) (w := w) (μ := μ) (k' := k') e t; exact ⟨v, h1, h2⟩
    · obtain ⟨h1, h2⟩ := shiftBin_sim (P := P) (w := w) (μ := μ) (k' := k') e t; exact ⟨v, h1, h2⟩
    · rename_i hn1 hn2
      obtain ⟨hc, e1⟩ := cond_some e
      clear e
      have hc : k = k' := by simpa using hc
      subst hc
      obtain ⟨h1, h2⟩ := intBin_sim (P := P) (w := w) (μ := μ) e1 hn1 hn2 t
      exact ⟨v, h1, h2⟩
  · rename_i a b
    obtain rfl := hx.str_left; obtain rfl := hy.str_left
    have hg : (eqGuard op t ox oy (.string a) (.string b)).run P w = .ok () w := by cases op <;> simp [eqGuard]
    simp only [Sem.run_bind, hg, Result.andThen_ok]
    obtain ⟨h1, h2⟩ := strBin_sim (P := P) (w := w) (μ := μ) e t
    exact ⟨v, h1, h2⟩
  · rename_i hni hns
    split at e
    · obtain ⟨hg, e⟩ := cond_some e
      simp only [Option.bind_eq_some_iff] at e
      obtain ⟨b, hb, e⟩ := e
      cases e
      have h1 := guardOk_sim (w := w) (y' := y') (op := .eql) (ox := ox) (oy := oy) hg hx
      have h2 := aEq_sim eqDepth hb hx hy w 10000 (by decide)
      refine ⟨.bool b, ?_, .bool b⟩
      have h3 := (binOp_eq_of (w := w) (d := 19) hb hx hy hni hns).1
      simp only [Sem.run_bind, h1, Result.andThen_ok, h3, Op.equal, Op.maxDepth, h2]
    · obtain ⟨hg, e⟩ := cond_some e
      simp only [Option.bind_eq_some_iff] at e
      obtain ⟨b, hb, e⟩ := e
      cases e
      have h1 := guardOk_sim (w := w) (y' := y') (op := .neq) (ox := ox) (oy := oy) hg hx
      have h2 := aEq_sim eqDepth hb hx hy w 10000 (by decide)
      refine ⟨.bool (!b), ?_, .bool _⟩
      have h3 := (binOp_eq_of (w := w) (d := 19) hb hx hy hni hns).2
      simp only [Sem.run_bind, h1, Result.andThen_ok, h3, Op.equal, Op.maxDepth, h2]
    · cases e

theorem aUnOp_sim {op : UnOp} {x x' v : Value} (e : aUnOp op x = some v) (hx : VR μ x x') : ∃ v', (Op.unary op x').run P w = .ok v' w ∧ VR μ v v' := by
  unfold aUnOp at e
  split at e
  · obtain rfl := hx.int_left
    split at e
    · cases e; exact ⟨_, by simp [Op.unary, Op.intArith], VR.plain rfl⟩
    · rename_i k n
      unfold intBin at e
      simp at e
      subst e
      exact ⟨_, by simp [Op.unary, Op.intBits], VR.plain rfl⟩
    · cases e
  · obtain rfl := hx.bool_left
    split at e
    · cases e; exact ⟨_, by simp [Op.unary], VR.plain rfl⟩
    · cases e
  · cases e

theorem aConvert_sim {s d : TypeId} {x x' v : Value} (e : aConvert P s d x = some v) (hx : VR μ x x') (hs : ∃ ds, P.underlying s = some ds) : ∃ v', (convert s d x').run P w = .ok v' w ∧ VR μ v v' := by
  obtain ⟨ds, hds⟩ := hs
  unfold aConvert at e
  split at e
  · rename_i k k2 n hu
    cases e; obtain rfl := hx.int_left
    refine ⟨_, ?_, VR.plain rfl⟩
    simp only [convert, Sem.run_bind, run_underlying hds, run_underlying hu, Result.andThen_ok]
    cases ds <;> simp [Conv.intToInt]
  · rename_i s hu
    cases e; obtain rfl := hx.str_left
    refine ⟨_, ?_, VR.plain rfl⟩
    simp only [convert, Sem.run_bind, run_underlying hds, run_underlying hu, Result.andThen_ok]
    cases ds <;> simp
  · cases e

end Go.Ab
