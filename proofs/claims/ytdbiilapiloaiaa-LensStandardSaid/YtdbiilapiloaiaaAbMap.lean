/- A part of the claim's proof: AbMap. Conditions: none. -/
import Derived.Test.YtdbiilapiloaiaaAbMem
/-! Maps; lengths. -/
set_option linter.all false
namespace Go.Ab
open Go
set_option linter.unusedVariables false
set_option linter.unusedSimpArgs false

variable {H : Type} [HeapC H] {P : Program} {μ : Mu} {A : H} {w : World}

theorem run_forIn_unit {α : Type} (f : α → PUnit → Sem (ForInStep PUnit)) : ∀ (l : List α), (∀ a ∈ l, ∀ (u : PUnit) (w : World), (f a u).run P w = .ok (.yield ⟨⟩) w) → ∀ (w : World),
    (forIn l PUnit.unit f : Sem PUnit).run P w = .ok ⟨⟩ w
  | [], _, w => by simp
  | a :: l, h, w => by
    rw [List.forIn_cons]
    simp only [Sem.run_bind, h a (by simp), Result.andThen_ok]
    exact run_forIn_unit f l (fun b hb => h b (by simp [hb])) w

theorem keyOk_sim : ∀ (d : Nat) {t : TypeId} {v v' : Value}, keyOk P d t v = true → VR μ v v' → ∀ (em : Bool) (k : Nat) (w : World), d ≤ k → (Instr.checkKey em k t v').run P w = .ok () w
  | 0, t, v, v', e, hv => by simp [keyOk] at e
  | d + 1, t, v, v', e, hv => by
    intro em k w hk
    obtain ⟨k, rfl⟩ : ∃ n, k = n + 1 := ⟨k - 1, by omega⟩
    have hk : d ≤ k := by omega
    have ih := fun {t v v'} => keyOk_sim d (t := t) (v := v) (v' := v')
    unfold keyOk at e
    split at e
    · rename_i hu; obtain rfl := hv.int_left
      simp only [Instr.checkKey, Sem.run_bind, run_underlying hu, Result.andThen_ok, Sem.run_pure]
    · rename_i hu; obtain rfl := hv.str_left
      simp only [Instr.checkKey, Sem.run_bind, run_underlying hu, Result.andThen_ok, Sem.run_pure]
    · rename_i hu; obtain rfl := hv.bool_left
      simp only [Instr.checkKey, Sem.run_bind, run_underlying hu, Result.andThen_ok, Sem.run_pure]
    · rename_i len el cs hu
      obtain ⟨cs', rfl, hcs⟩ := hv.agg_left
      split at e
      · rename_i n hn
        simp only [Instr.checkKey, Sem.run_bind, run_underlying hu, Result.andThen_ok]
        simp only [Std.Legacy.Range.forIn_eq_forIn_range', Std.Legacy.Range.size, Nat.sub_zero, Nat.add_one_sub_one, Nat.div_one]
        refine Eq.trans (congrArg (fun r => Result.andThen r _) (run_forIn_unit (P := P) _ _ (fun i hi u w => ?_) w)) rfl
        have hi' : i < len := by simpa [List.mem_range'] using hi
        have := List.all_eq_true.1 e i (List.mem_range.2 hi')
        split at this
        · rename_i x hx
          obtain ⟨x', h1, h2⟩ := aPart_sim (w := w) hx hcs
          simp only [Array.toArray_toList] at h1
          simp only [Sem.run_bind, run_sizeOf' hn, Result.andThen_ok, h1, ih this h2 em k w hk, Sem.run_pure]
        · cases this
      · cases e
    · rename_i fs cs hu
      obtain ⟨cs', rfl, hcs⟩ := hv.agg_left
      simp only [Instr.checkKey, Sem.run_bind, run_underlying hu, Result.andThen_ok]
      rw [← Array.forIn_toList]
      refine Eq.trans (congrArg (fun r => Result.andThen r _) (run_forIn_unit (P := P) _ _ (fun f hf u w => ?_) w)) rfl
      have := List.all_eq_true.1 e f hf
      by_cases hn : f.name = "_"
      · simp [hn]
      · have hb : (f.name == "_") = false := by simpa using hn
        simp only [hb, Bool.false_or] at this
        split at this
        · rename_i x hx
          obtain ⟨x', h1, h2⟩ := aPart_sim (w := w) hx hcs
          simp only [Array.toArray_toList] at h1
          simp only [ne_eq, hn, not_false_eq_true, if_true, Sem.run_bind, Result.andThen_ok, h1, ih this h2 em k w hk, Sem.run_pure]
        · cases this
    · cases e

theorem EsR.left {x : Value × Value} {es : List (Value × Value)} {es' : List MapEntry} (h : EsR μ (x :: es) es') : ∃ y ys, es' = y :: ys ∧ VR μ x.1 y.key ∧ VR μ x.2 y.val ∧ EsR μ es ys := by
  cases es' with
  | nil => exact absurd h.1 (by simp)
  | cons y ys =>
    obtain ⟨h1, h2⟩ := h
    exact ⟨y, ys, rfl, (h2 0 x y (by simp) (by simp)).1, (h2 0 x y (by simp) (by simp)).2, by simpa using h1, fun k a b ha hb => h2 (k + 1) a b (by simpa using ha) (by simpa using hb)⟩

theorem EsR.nil_left {es' : List MapEntry} (h : EsR μ [] es') : es' = [] := by
  cases es' with
  | nil => rfl
  | cons y ys => exact absurd h.1 (by simp)

/-- what was found, and what the model finds -/
def FoundR (μ : Mu) : Option (Nat × Value) → Option (Nat × Value) → Prop
  | none, none => True
  | some (i, v), some (j, v') => i = j ∧ VR μ v v'
  | _, _ => False

theorem findAsking_sim {kt : TypeId} {k k' : Value} (hk : VR μ k k') : ∀ {es : List (Value × Value)} {es' : List MapEntry} {i : Nat} {r : Option (Nat × Value)}, findM P kt k es i = some r → EsR μ es es' → ∀ (w : World),
    ∃ r', (Instr.findAsking kt k' es' i).run P w = .ok r' w ∧ FoundR μ r r'
  | [], es', i, r, e, he, w => by
    rw [he.nil_left]
    simp [findM] at e
    subst e
    exact ⟨none, rfl, trivial⟩
  | (a, v) :: es, es', i, r, e, he, w => by
    obtain ⟨y, ys, rfl, h1, h2, h3⟩ := he.left
    simp only [findM, Option.bind_eq_some_iff] at e
    obtain ⟨b, hb, e⟩ := e
    have hq := aEq_sim eqDepth hb hk h1 w 10000 (by decide)
    simp only [Instr.findAsking, Sem.run_bind, Op.equal, Op.maxDepth, hq, Result.andThen_ok]
    cases b with
    | true =>
      simp only [cond_true, Option.some.injEq] at e
      subst e
      exact ⟨some (i, y.val), by simp, rfl, h2⟩
    | false =>
      simp only [cond_false] at e
      obtain ⟨r', h4, h5⟩ := findAsking_sim hk e h3 w
      exact ⟨r', by simpa using h4, h5⟩

/-- the quick look gives what the asking look gives, where both speak -/
theorem findNow_eq {td : TypeDesc} {kt : TypeId} (hu : P.underlying kt = some td) {k : Value} : ∀ {es : List MapEntry} {i : Nat} {r r' : Option (Nat × Value)} {w : World},
    Instr.findNow td k es i = some r → (Instr.findAsking kt k es i).run P w = .ok r' w → r = r'
  | [], i, r, r', w, h, h' => by
    simp [Instr.findNow] at h
    simp [Instr.findAsking] at h'
    rw [← h, ← h']
  | e :: es, i, r, r', w, h, h' => by
    unfold Instr.findNow at h
    have key : ∀ b, Instr.sameNow td k e.key = some b → (Op.equal kt k e.key).run P w = .ok b w := by
      intro b hb
      generalize e.key = kk at hb ⊢
      unfold Instr.sameNow at hb
      split at hb
      · split at hb
        · rename_i hkk
          subst hkk
          cases hb
          exact run_equalIn_int (P := P) w 9999 kt _ _ _ _ hu
        · cases hb
      · cases hb; rw [beq_toListBytes]; exact run_equalIn_string (P := P) w 9999 kt _ _ hu
      · cases hb; exact run_equalIn_bool' (P := P) w 9999 kt _ _ hu
      · cases hb
    split at h
    · rename_i hs
      cases h
      simp only [Instr.findAsking, Sem.run_bind, key _ hs, Result.andThen_ok, if_true, Sem.run_pure] at h'
      cases h'; rfl
    · rename_i hs
      simp only [Instr.findAsking, Sem.run_bind, key _ hs, Result.andThen_ok, Bool.false_eq_true, if_false] at h'
      exact findNow_eq hu h h'
    · cases h

theorem findKey_sim {kt : TypeId} {k k' : Value} (hk : VR μ k k') {es : List (Value × Value)} {es' : List MapEntry} {r : Option (Nat × Value)} (hko : ∃ td, P.underlying kt = some td) (e : findM P kt k es 0 = some r) (he : EsR μ es es') (w : World) :
    ∃ r', (Instr.findKey kt k' es').run P w = .ok r' w ∧ FoundR μ r r' := by
  obtain ⟨td, hu⟩ := hko
  obtain ⟨r', h1, h2⟩ := findAsking_sim hk e he w
  refine ⟨r', ?_, h2⟩
  simp only [Instr.findKey, Sem.run_bind, run_underlying hu, Result.andThen_ok]
  split
  · rename_i q hq
    rw [findNow_eq hu hq h1]
    rfl
  · exact h1

theorem keyOk_under {d : Nat} {t : TypeId} {v : Value} (h : keyOk P d t v = true) : ∃ td, P.underlying t = some td := by
  cases d with
  | zero => simp [keyOk] at h
  | succ d => unfold keyOk at h; split at h <;> first | exact ⟨_, by assumption⟩ | cases h

theorem mapT_some {t : TypeId} {ke : TypeId × TypeId} (h : mapT P t = some ke) : P.underlying t = some (.map ke.1 ke.2) := by
  unfold mapT at h
  split at h
  · cases h; assumption
  · cases h

theorem run_getObj_map {b : Nat} {es : Array MapEntry} {clk : Nat} (h : w.heap[b]? = some (.map es clk)) : (getObj b).run P w = .ok (.map es clk) w := by
  simp [getObj, Sem.run, h]

theorem aLookup_sim (hR : R μ A w) {t : TypeId} {m m' k k' v : Value} {ok : Bool} (e : aLookup P A t m k ok = some v) (hm : VR μ m m') (hk : VR μ k k') :
    ∃ v', (Instr.lookup t m' k' ok).run P w = .ok v' w ∧ VR μ v v' := by
  simp only [aLookup, Option.bind_eq_some_iff] at e
  obtain ⟨ke, hke, e⟩ := e
  obtain ⟨hkok, e⟩ := cond_some e
  simp only [Option.bind_eq_some_iff] at e
  obtain ⟨z, hz, e⟩ := e
  obtain ⟨hpz, e⟩ := cond_some e
  simp only [Option.bind_eq_some_iff] at e
  obtain ⟨es, hes, r, hr, e⟩ := e
  have hu := mapT_some hke
  have hentries : (m' = .map none ∧ es = []) ∨ ∃ (b : Nat) (es' : Array MapEntry) (clk : Nat), m' = .map (some b) ∧ w.heap[b]? = some (.map es' clk) ∧ EsR μ es es'.toList := by
    split at hes
    · cases hes
      cases hm
      exact .inl ⟨rfl, rfl⟩
    · rename_i i
      split at hes
      · cases hes
        rename_i hg
        cases hm with
        | map hm =>
          have hb := hR.blk _ _ hm
          rw [hg] at hb
          obtain ⟨es', clk, h1, h2⟩ := hb
          exact .inr ⟨_, es', clk, rfl, h1, h2⟩
      · cases hes
    · cases hes
  have hrun : ∃ es' : Array MapEntry, EsR μ es es'.toList ∧ ∀ x, ((Instr.checkKey es'.isEmpty 10000 ke.1 k').run P w = .ok () w) → (Instr.findKey ke.1 k' es'.toList).run P w = .ok x w →
      (Instr.lookup t m' k' ok).run P w = (do
        let (v, ok') ← match x with
          | some (_, v) => pure (v, true)
          | none => pure (← zeroValue ke.2, false)
        pure (if ok then .tuple #[v, .bool ok'] else v) : Sem Value).run P w := by
    rcases hentries with ⟨rfl, rfl⟩ | ⟨b, es', clk, rfl, h1, h2⟩
    · refine ⟨#[], ⟨rfl, by simp⟩, fun x hc hx => ?_⟩
      simp only [Instr.lookup, Sem.run_bind, run_underlying hu, Result.andThen_ok, Sem.run_pure, hc, hx]
      cases x <;> rfl
    · refine ⟨es', h2, fun x hc hx => ?_⟩
      simp only [Instr.lookup, Sem.run_bind, run_underlying hu, Result.andThen_ok, run_getObj_map h1, Sem.run_pure, hc, hx]
      cases x <;> rfl
  obtain ⟨es', he, hrun⟩ := hrun
  obtain ⟨r', h1, h2⟩ := findKey_sim (P := P) hk (keyOk_under hkok) hr he w
  have hck := keyOk_sim eqDepth hkok hk (es'.isEmpty) 10000 w (by decide)
  rw [hrun r' hck h1]
  cases r with
  | none =>
    cases r' with
    | some _ => exact h2.elim
    | none =>
      simp only at e
      have hvz : VR μ z z := VR.plainL hpz
      cases ok with
      | true =>
        simp at e; subst e
        exact ⟨.tuple #[z, .bool false], by simp [run_zeroValue' hz], VR.tuple_iff.2 (VRs.cons hvz (VRs.cons (.bool _) (VRs.nil μ)))⟩
      | false =>
        simp at e; subst e
        exact ⟨z, by simp [run_zeroValue' hz], hvz⟩
  | some p =>
    cases r' with
    | none => exact h2.elim
    | some p' =>
      obtain ⟨i, x⟩ := p
      obtain ⟨j, y⟩ := p'
      obtain ⟨rfl, hv⟩ := h2
      simp only at e
      cases ok with
      | true =>
        simp at e; subst e
        exact ⟨.tuple #[y, .bool true], by simp, VR.tuple_iff.2 (VRs.cons hv (VRs.cons (.bool _) (VRs.nil μ)))⟩
      | false =>
        simp at e; subst e
        exact ⟨y, by simp, hv⟩

theorem EsR.append {es fs : List (Value × Value)} {es' fs' : List MapEntry} (h : EsR μ es es') (k : EsR μ fs fs') : EsR μ (es ++ fs) (es' ++ fs') := by
  refine ⟨by simp [h.1, k.1], fun n x y hx hy => ?_⟩
  rw [List.getElem?_append] at hx hy
  rw [h.1] at hx
  split at hx
  · rename_i hn; rw [if_pos hn] at hy; exact h.2 n x y hx hy
  · rename_i hn; rw [if_neg hn] at hy; exact k.2 _ x y hx hy

theorem EsR.one {k v : Value} {e : MapEntry} (h1 : VR μ k e.key) (h2 : VR μ v e.val) : EsR μ [(k, v)] [e] := by
  refine ⟨rfl, fun n x y hx hy => ?_⟩
  cases n with
  | zero => simp at hx hy; subst hx; subst hy; exact ⟨h1, h2⟩
  | succ n => simp at hx

theorem VR.plain_eq {v v' : Value} (h : plainV v = true) (hv : VR μ v v') : v' = v := by
  cases hv <;> simp [plainV] at h <;> rfl
theorem VRs.plain_eq {xs ys : List Value} (h : xs.all plainV = true) (hv : VRs μ xs ys) : ys = xs := by
  induction xs generalizing ys with
  | nil => exact hv.nil_left
  | cons x xs ih =>
    obtain ⟨y, zs, rfl, h1, h2⟩ := hv.left
    simp only [List.all_cons, Bool.and_eq_true] at h
    rw [h1.plain_eq h.1, ih h.2 h2]
theorem VR.plainL_eq {v v' : Value} (h : Ab.plainL v = true) (hv : VR μ v v') : v' = v := by
  cases v with
  | agg cs =>
    obtain ⟨cs', rfl, hr⟩ := hv.agg_left
    have := VRs.plain_eq h hr
    congr 1
    exact Array.ext' this
  | _ => exact hv.plain_eq h

theorem EsR.set {es : List (Value × Value)} {es' : List MapEntry} (h : EsR μ es es') {j : Nat} {k v : Value} {e : MapEntry} (h1 : VR μ k e.key) (h2 : VR μ v e.val) : EsR μ (es.set j (k, v)) (es'.set j e) := by
  refine ⟨by simp [h.1], fun n x y hx hy => ?_⟩
  rw [List.getElem?_set] at hx hy
  by_cases hj : j = n
  · simp only [hj, if_true] at hx hy
    split at hx
    · split at hy
      · cases hx; cases hy; exact ⟨h1, h2⟩
      · cases hy
    · cases hx
  · simp only [hj, if_false] at hx hy
    exact h.2 n x y hx hy

theorem run_setObj_map {b : Nat} {es : Array MapEntry} {clk : Nat} (h : w.heap[b]? = some (.map es clk)) (o : Obj) : (setObj b o).run P w = .ok () { w with heap := w.heap.setIfInBounds b o } := by
  simp [setObj, Sem.run, h]

theorem Ext.setObj {c : Nat} {own : Nat → Prop} (hR : R μ A w) {i : Nat} {m : ME} (hm : μ i = some m) (hw : wrB (HeapC.get A i) = true) {blk : ABlk} (hn : wrB (some blk) = true) {o : Obj}
    (hb : ∀ h : Array Obj, h[m.b]? = some o → BlkR μ m h (some blk)) :
    Ext μ A c w own μ (HeapC.set A i blk) c { w with heap := w.heap.setIfInBounds m.b o } := by
  refine Ext.write hR hm hw hn rfl rfl rfl (by simp) (fun b hne => by simp only; rw [Array.getElem?_setIfInBounds_ne (Ne.symm hne)]) (hb _ ?_)
  have := hR.lt i m hm
  simp [this]

theorem aMapUpdate_sim {c : Nat} {own : Nat → Prop} (hR : R μ A w) {t : TypeId} {m m' k k' v v' : Value} {A' : H} (e : aMapUpdate P A t m k v = some A') (hm : VR μ m m') (hk : VR μ k k') (hv : VR μ v v') :
    ∃ w', (Instr.mapUpdate t m' k' v').run P w = .ok () w' ∧ Ext μ A c w own μ A' c w' := by
  simp only [aMapUpdate, Option.bind_eq_some_iff] at e
  obtain ⟨ke, hke, e1⟩ := e
  obtain ⟨hkok, e⟩ := cond_some e1
  clear e1
  simp only [Bool.and_eq_true] at hkok
  obtain ⟨hkok, hpk⟩ := hkok
  have hu := mapT_some hke
  split at e
  · rename_i i
    split at e
    · rename_i es hg
      simp only [Option.bind_eq_some_iff] at e
      obtain ⟨r, hr, e⟩ := e
      cases hm with
      | @map _ me hm =>
        have hb := hR.blk _ _ hm
        rw [hg] at hb
        obtain ⟨es', clk, h1, h2⟩ := hb
        obtain ⟨r', h3, h4⟩ := findKey_sim (P := P) hk (keyOk_under hkok) hr h2 w
        have hck := keyOk_sim eqDepth hkok hk false 10000 w (by decide)
        have hw : wrB (HeapC.get A i) = true := by rw [hg]; rfl
        cases r with
        | some p =>
          obtain ⟨j, x⟩ := p
          cases r' with
          | none => exact h4.elim
          | some p' =>
            obtain ⟨j', y⟩ := p'
            obtain ⟨rfl, _⟩ := h4
            simp only at e
            split at e
            · rename_i old ov hj
              obtain ⟨hs, e⟩ := cond_some e
              simp only [Bool.and_eq_true] at hs
              cases e
              have hjl : j < es'.size := by have := (List.getElem?_eq_some_iff.1 hj).1; have := h2.1; simp at this; omega
              have hje : es'[j]? = some es'[j] := Array.getElem?_eq_getElem hjl
              have hold := (h2.2 j (old, ov) es'[j] hj (by simpa using hje)).1
              have ho := hold.plainL_eq hs.1
              have hk2 := hk.plainL_eq hpk
              refine ⟨_, ?_, Ext.setObj hR hm hw rfl (o := .map (es'.setIfInBounds j { es'[j] with key := k', val := v' }) clk) (fun h hh => ⟨_, clk, hh, ?_⟩)⟩
              · have hks : (Instr.keyThatStays es'[j].key k').run P w = .ok k' w := by
                  rw [ho, hk2]
                  simp [Instr.keyThatStays, hs.2]
                simp only [Instr.mapUpdate, Sem.run_bind, run_underlying hu, Result.andThen_ok, run_getObj_map h1, hck, h3, hje, Option.map_some, Option.getD_some, hks]
                rw [run_setObj_map h1]
                congr 4
              · rw [Array.toList_setIfInBounds]
                exact h2.set hk hv
            · cases e
        | none =>
          cases r' with
          | some _ => exact h4.elim
          | none =>
            simp only at e
            cases e
            refine ⟨_, ?_, Ext.setObj hR hm hw rfl (o := .map (es'.push { key := k', val := v', born := clk }) (clk + 1)) (fun h hh => ⟨_, _, hh, ?_⟩)⟩
            · simp only [Instr.mapUpdate, Sem.run_bind, run_underlying hu, Result.andThen_ok, run_getObj_map h1, hck, h3]
              rw [run_setObj_map h1]
            · rw [Array.toList_push]
              exact h2.append (EsR.one hk hv)
    · cases e
  · cases e

theorem aLen_sim (hR : R μ A w) {t : TypeId} {x x' v : Value} {ts' : List TypeId} {xs' : List Value} {ty : TypeId} (e : aLen P A t x = some v) (hx : VR μ x x') :
    ∃ v', (Builtin.len_ (t :: ts').toArray ty (x' :: xs').toArray).run P w = .ok v' w ∧ VR μ v v' := by
  unfold aLen at e
  split at e
  · rename_i hu; cases e; obtain rfl := hx.str_left
    exact ⟨goInt _, by simp [Builtin.len_, run_underlying hu], VR.int .i64 _⟩
  · rename_i hu; cases e
    exact ⟨goInt _, by simp only [Builtin.len_, List.getElem?_toArray, List.getElem?_cons_zero, Sem.run_bind, run_underlying hu, Result.andThen_ok, Sem.run_pure], VR.int .i64 _⟩
  · rename_i hu; cases e
    cases hx with
    | sl0 => exact ⟨goInt _, by simp [Builtin.len_, run_underlying hu], VR.int .i64 _⟩
    | sl => exact ⟨goInt _, by simp [Builtin.len_, run_underlying hu], VR.int .i64 _⟩
    | slE => exact ⟨goInt _, by simp [Builtin.len_, run_underlying hu], VR.int .i64 _⟩
  · rename_i hu; cases e
    cases hx
    exact ⟨goInt _, by simp [Builtin.len_, run_underlying hu], VR.int .i64 _⟩
  · rename_i hu
    split at e
    · rename_i hg
      cases e
      cases hx with
      | map hm =>
        have hb := hR.blk _ _ hm
        rw [hg] at hb
        obtain ⟨es', clk, h1, h2⟩ := hb
        refine ⟨goInt es'.size, by simp only [Builtin.len_, List.getElem?_toArray, List.getElem?_cons_zero, Sem.run_bind, run_underlying hu, Result.andThen_ok, Sem.run_pure, run_getObj_map h1], ?_⟩
        rw [h2.1]
        simp only [Array.length_toList]
        exact VR.int .i64 _
    · cases e
  · cases e

theorem max2_sim {x y x' y' v : Value} (e : max2 x y = some v) (hx : VR μ x x') (hy : VR μ y y') : (Builtin.max2 x' y').run P w = .ok v w ∧ VR μ v v := by
  unfold max2 at e
  split at e
  · obtain ⟨_, e⟩ := cond_some e; cases e; obtain rfl := hx.int_left; obtain rfl := hy.int_left; exact ⟨rfl, .int _ _⟩
  · cases e
theorem min2_sim {x y x' y' v : Value} (e : min2 x y = some v) (hx : VR μ x x') (hy : VR μ y y') : (Builtin.min2 x' y').run P w = .ok v w ∧ VR μ v v := by
  unfold min2 at e
  split at e
  · obtain ⟨_, e⟩ := cond_some e; cases e; obtain rfl := hx.int_left; obtain rfl := hy.int_left; exact ⟨rfl, .int _ _⟩
  · cases e

theorem foldlM_sim {f : Value → Value → Option Value} {g : Value → Value → Sem Value}
    (h : ∀ {x y x' y' v : Value}, f x y = some v → VR μ x x' → VR μ y y' → ∃ v', (g x' y').run P w = .ok v' w ∧ VR μ v v') :
    ∀ {xs xs' : List Value} {a a' v : Value}, xs.foldlM f a = some v → VRs μ xs xs' → VR μ a a' → ∃ v', (xs'.foldlM g a').run P w = .ok v' w ∧ VR μ v v'
  | [], xs', a, a', v, e, hx, ha => by rw [hx.nil_left]; simp at e; subst e; exact ⟨a', rfl, ha⟩
  | x :: xs, xs', a, a', v, e, hx, ha => by
    obtain ⟨y, ys, rfl, h1, h2⟩ := hx.left
    rw [List.foldlM_cons] at e
    simp only [bind, Option.bind_eq_some_iff] at e
    obtain ⟨b, hb, e⟩ := e
    obtain ⟨b', h3, h4⟩ := h hb ha h1
    obtain ⟨v', h5, h6⟩ := foldlM_sim h e h2 h4
    exact ⟨v', by rw [List.foldlM_cons]; simp only [Sem.run_bind, h3, Result.andThen_ok, h5], h6⟩

end Go.Ab
