/- A part of the claim's proof: AbMem. Conditions: none. -/
import Derived.Test.YtdbiilapiloaiaaAbArith
/-! Aggregates, maps, new memory. -/
set_option linter.all false
namespace Go.Ab
open Go
set_option linter.unusedVariables false
set_option linter.unusedSimpArgs false

variable {H : Type} [HeapC H] {P : Program} {μ : Mu} {A : H} {w : World}

/-- parts, one by one -/
def PsR (μ : Mu) (ps ps' : List (Nat × Value)) : Prop := ps.map (·.1) = ps'.map (·.1) ∧ VRs μ (ps.map (·.2)) (ps'.map (·.2))

theorem PsR.left {i : Nat} {v : Value} {ps ps' : List (Nat × Value)} (h : PsR μ ((i, v) :: ps) ps') : ∃ v' qs, ps' = (i, v') :: qs ∧ VR μ v v' ∧ PsR μ ps qs := by
  cases ps' with
  | nil => simp [PsR] at h
  | cons p qs =>
    obtain ⟨j, v'⟩ := p
    obtain ⟨h1, h2⟩ := h
    simp at h1 h2
    obtain ⟨rfl, h1⟩ := h1
    exact ⟨v', qs, rfl, h2.head, h1, h2.tail⟩

theorem PsR.nil_left {ps' : List (Nat × Value)} (h : PsR μ [] ps') : ps' = [] := by
  cases ps' with
  | nil => rfl
  | cons p qs => simp [PsR] at h

theorem TmR.evalPs {tm : Tm} {nt : Nat} {a : Act} (h : TmR μ tm nt a.tmps) : ∀ {ps : List (Nat × Operand)} {vs : List (Nat × Value)}, Ab.evalPs tm ps = some vs → PsR μ vs (ps.map fun (i, x) => (i, a.eval x))
  | [], vs, e => by simp [Ab.evalPs] at e; subst e; exact ⟨rfl, VRs.nil μ⟩
  | (i, x) :: ps, vs, e => by
    simp only [Ab.evalPs, Option.bind_eq_some_iff] at e
    obtain ⟨v, hv, ws, hw, e⟩ := e
    cases e
    obtain ⟨h1, h2⟩ := h.evalPs hw
    exact ⟨by simpa using h1, VRs.cons (h.eval hv) h2⟩

theorem foldl_splice (off : Nat) : ∀ (xs : List Value) (k : Nat) (cs : Array Value), off + k + xs.length ≤ cs.size →
    ((xs.zipIdx k).foldl (fun (cs : Array Value) (p : Value × Nat) => cs.setIfInBounds (off + p.2) p.1) cs).toList = splice cs.toList (off + k) xs
  | [], k, cs, h => by simp [splice]
  | x :: xs, k, cs, h => by
    simp only [List.zipIdx_cons, List.foldl_cons]
    simp at h
    rw [foldl_splice off xs (k + 1) _ (by simp; omega)]
    simp only [splice, Array.toList_setIfInBounds]
    apply List.ext_getElem?
    intro j
    simp only [List.getElem?_append, List.length_append, List.length_take, List.length_set, List.getElem?_take, List.getElem?_drop, List.getElem?_set, Array.length_toList, List.length_cons]
    have hmin1 : min (off + (k + 1)) cs.size = off + k + 1 := by omega
    have hmin2 : min (off + k) cs.size = off + k := by omega
    simp only [hmin1, hmin2]
    by_cases h1 : j < off + k
    · have : j < off + k + 1 + xs.length := by omega
      have h2 : j < off + k + 1 := by omega
      have h3 : j < off + (k + 1) := by omega
      have h4 : j < off + k + (xs.length + 1) := by omega
      have h5 : ¬ off + k = j := by omega
      simp [h1, h2, h3, h4, h5, this]
    · by_cases h2 : j = off + k
      · subst h2
        have : off + k < off + k + 1 + xs.length := by omega
        have h3 : off + k < off + (k + 1) := by omega
        have h4 : off + k < off + k + (xs.length + 1) := by omega
        have h5 : off + k < cs.size := by omega
        simp [this, h3, h4, h5]
      · by_cases h3 : j < off + k + 1 + xs.length
        · have h4 : ¬ j < off + k + 1 := by omega
          have h5 : j < off + k + (xs.length + 1) := by omega
          have h6 : j - (off + k) = (j - (off + k + 1)) + 1 := by omega
          simp [h1, h3, h4, h5, h6]
        · have h4 : ¬ j < off + k + (xs.length + 1) := by omega
          have h6 : ¬ off + k = off + (k + 1) + xs.length + (j - (off + k + 1 + xs.length)) := by omega
          simp [h3, h4, h6]
          congr 1
          omega

theorem fill_sim {place : Nat → Option (Nat × Nat)} : ∀ {ps ps' : List (Nat × Value)} {cs cs' r : List Value}, fillL place cs ps = some r → PsR μ ps ps' → VRs μ cs cs' →
    ∃ r', Instr.fill place cs'.toArray ps' = some r' ∧ VRs μ r r'.toList
  | [], ps', cs, cs', r, e, hp, hc => by
    rw [hp.nil_left]
    simp [fillL] at e
    subst e
    exact ⟨_, rfl, by simpa using hc⟩
  | (i, v) :: ps, ps', cs, cs', r, e, hp, hc => by
    obtain ⟨v', qs, rfl, hv, hq⟩ := hp.left
    simp only [fillL, Option.bind_eq_some_iff] at e
    obtain ⟨⟨off, size⟩, hpl, e⟩ := e
    obtain ⟨hb, e⟩ := cond_some e
    simp only [Bool.and_eq_true] at hb
    have hb1 := Nat.eq_of_beq_eq_true hb.1
    have hb2 := Nat.le_of_ble_eq_true hb.2
    have hvs : v'.cells.size = size := by have := hv.cells.1; simp at this; omega
    have hcl : cs'.length = cs.length := hc.1.symm
    have hspl : VRs μ (splice cs off v.cells.toList) (splice cs' off v'.cells.toList) := by
      unfold splice
      rw [show off + v'.cells.toList.length = off + v.cells.toList.length from by have := hv.cells.1; omega]
      exact ((hc.take _).append hv.cells).append (hc.drop _)
    have hfold := foldl_splice off v'.cells.toList 0 cs'.toArray (by simp only [Array.length_toList, List.size_toArray, Nat.add_zero]; omega)
    obtain ⟨r', h1, h2⟩ := fill_sim e hq hspl
    refine ⟨r', ?_, h2⟩
    have hcond : (decide (v'.cells.size ≠ size) || decide (off + v'.cells.size > cs'.toArray.size)) = false := by
      simp [hvs]; omega
    simp only [Instr.fill, hpl]
    rw [if_neg (by simpa using hcond)]
    rw [← h1]
    congr 1
    apply Array.ext'
    rw [← Array.foldl_toList, Array.toList_zipIdx]
    simpa using hfold

theorem placeOf_run {t : TypeId} {pl : Nat → Option (Nat × Nat)} (h : placeOf P t = some pl) :
    (∃ fs, P.underlying t = some (.struct fs) ∧ (∀ f ∈ fs.toList, ∃ z, sizeT P f.type = some z) ∧ pl = fun i => (fs[i]?).bind fun f => (sizeT P f.type).bind fun z => some (f.offset, z)) ∨
    (∃ n e z, P.underlying t = some (.array n e) ∧ sizeT P e = some z ∧ pl = fun i => some (i * z, z)) := by
  unfold placeOf at h
  split at h
  · obtain ⟨hc, h⟩ := cond_some h
    cases h
    exact .inl ⟨_, ‹_›, fun f hf => Option.isSome_iff_exists.1 (List.all_eq_true.1 hc f hf), rfl⟩
  · simp only [Option.bind_eq_some_iff] at h
    obtain ⟨z, hz, h⟩ := h
    cases h
    exact .inr ⟨_, _, _, ‹_›, hz, rfl⟩
  · cases h

theorem run_mapM_places : ∀ (fs : List Field), (∀ f ∈ fs, ∃ z, sizeT P f.type = some z) → ∀ (w : World),
    (fs.mapM (m := Sem) fun f => do pure (f.offset, ← sizeOf f.type)).run P w = .ok (fs.map fun f => (f.offset, (sizeT P f.type).getD 0)) w
  | [], _, w => by simp
  | f :: fs, h, w => by
    obtain ⟨z, hz⟩ := h f (by simp)
    have ih := run_mapM_places fs (fun g hg => h g (by simp [hg])) w
    rw [List.mapM_cons]
    simp only [Sem.run_bind, run_sizeOf' hz, Result.andThen_ok, Sem.run_pure, ih]
    simp [hz]

theorem fillL_places {pl pl' : Nat → Option (Nat × Nat)} : ∀ {ps : List (Nat × Value)} {cs r : List Value}, (∀ i p, pl i = some p → pl' i = some p) → fillL pl cs ps = some r → fillL pl' cs ps = some r
  | [], cs, r, h, e => e
  | (i, v) :: ps, cs, r, h, e => by
    simp only [fillL, Option.bind_eq_some_iff] at e ⊢
    obtain ⟨p, hp, e⟩ := e
    obtain ⟨hb, e⟩ := cond_some e
    exact ⟨p, h i p hp, by rw [hb]; exact fillL_places h e⟩

theorem aBuild_sim {t : TypeId} {ps ps' : List (Nat × Value)} {v : Value} (e : aBuild P t ps = some v) (hp : PsR μ ps ps') : ∃ v', (Instr.build t ps'.toArray).run P w = .ok v' w ∧ VR μ v v' := by
  simp only [aBuild, Option.bind_eq_some_iff] at e
  obtain ⟨z, hz, e⟩ := e
  obtain ⟨hpz, e⟩ := cond_some e
  simp only [Option.bind_eq_some_iff] at e
  obtain ⟨pl, hpl, cs, hcs, e⟩ := e
  cases e
  have hzr : VRs μ z.cells.toList z.cells.toList := (VR.plainL (μ := μ) hpz).cells
  rcases placeOf_run hpl with ⟨fs, hu, hall, rfl⟩ | ⟨n, el, sz, hu, hsz, rfl⟩
  · have hm := run_mapM_places (P := P) fs.toList hall w
    have hcs' := fillL_places (pl' := fun i => (fs.map fun f => (f.offset, (sizeT P f.type).getD 0))[i]?) (fun i p h => by
      simp only [Option.bind_eq_some_iff] at h
      obtain ⟨f, hf, y, hy, h⟩ := h
      cases h
      simp [hf, hy]) hcs
    obtain ⟨r', h1, h2⟩ := fill_sim hcs' hp hzr
    refine ⟨.agg r', ?_, VR.agg_iff.2 (by simpa using h2)⟩
    have hma : (fs.mapM (m := Sem) fun f => do pure (f.offset, ← sizeOf f.type)).run P w = .ok (fs.map fun f => (f.offset, (sizeT P f.type).getD 0)) w := by
      rw [Array.mapM_eq_mapM_toList]
      simp only [Sem.run_map, hm, Result.andThen_ok]
      congr 1
      apply Array.ext'
      simp
    simp only [Instr.build, Sem.run_bind, run_zeroValue' hz, run_underlying hu, Result.andThen_ok, hma]
    simp only [Array.toArray_toList] at h1
    simp only [h1, Sem.run_pure]
  · obtain ⟨r', h1, h2⟩ := fill_sim hcs hp hzr
    refine ⟨.agg r', ?_, VR.agg_iff.2 (by simpa using h2)⟩
    simp only [Array.toArray_toList] at h1
    simp only [Instr.build, Sem.run_bind, run_zeroValue' hz, run_underlying hu, Result.andThen_ok, run_sizeOf' hsz, h1, Sem.run_pure]

/-! ### Zeros -/
theorem zeros_length (z : List Value) : ∀ n, (zeros z n).length = n * z.length
  | 0 => by simp [zeros]
  | n + 1 => by simp [zeros, zeros_length z n, Nat.add_mul, Nat.add_comm]

theorem zeros_get (z : List Value) : ∀ (n i : Nat), i < n * z.length → (zeros z n)[i]? = z[i % z.length]?
  | 0, i, h => by simp at h
  | n + 1, i, h => by
    simp only [zeros]
    have hz : 0 < z.length := by
      rcases Nat.eq_zero_or_pos z.length with h0 | h0
      · rw [h0] at h; simp at h
      · exact h0
    by_cases hi : i < z.length
    · rw [List.getElem?_append_left hi, Nat.mod_eq_of_lt hi]
    · rw [List.getElem?_append_right (by omega), zeros_get z n (i - z.length) (by rw [Nat.add_mul] at h; omega)]
      congr 1
      rw [Nat.mod_eq_sub_mod (by omega : i ≥ z.length)]

theorem zeros_array (z : Array Value) (n : Nat) : ((Array.range (n * z.size)).map fun i => z[i % z.size]!).toList = zeros z.toList n := by
  apply List.ext_getElem?
  intro i
  simp only [Array.toList_map, Array.toList_range, List.getElem?_map]
  by_cases h : i < n * z.size
  · rw [zeros_get z.toList n i (by simpa using h), List.getElem?_range h]
    have hz : 0 < z.size := by
      rcases Nat.eq_zero_or_pos z.size with h0 | h0
      · rw [h0] at h; simp at h
      · exact h0
    have hm : i % z.size < z.size := Nat.mod_lt _ hz
    simp [getElem!_pos, hm]
  · rw [List.getElem?_eq_none (by simp; omega), List.getElem?_eq_none (by rw [zeros_length]; simp; omega)]
    rfl

theorem zeros_plain {z : List Value} (h : VRs μ z z) : ∀ n, VRs μ (zeros z n) (zeros z n)
  | 0 => VRs.nil μ
  | n + 1 => h.append (zeros_plain h n)

theorem elemT_some {t e : TypeId} (h : elemT P t = some e) : P.underlying t = some (.slice e) := by
  unfold elemT at h
  split at h
  · cases h; assumption
  · cases h

/-! ### New memory -/
theorem newB_sim {c : Nat} (hR : R μ A w) {id : Nat} (hid : μ id = none) {cs cs' : List Value} (h : VRs μ cs cs') (E : TypeId) :
    Ext μ A c w (fun i => i = id) (μ.upd id ⟨w.heap.size, 0, none⟩) (newB A id cs) c { w with heap := w.heap.push (.cells cs'.toArray E) } := by
  refine Ext.alloc hR hid rfl rfl rfl rfl rfl rfl ?_
  refine ⟨cs'.toArray, E, (0, 0), by simp, fun k x hx => ?_, fun _ => rfl, rfl⟩
  obtain ⟨y, hy, hv⟩ := h.get hx
  exact ⟨y, by simpa using hy, hv.mono (Mu.le_upd hid)⟩

theorem ptrTo_VR {id : Nat} {b : Nat} (hid : μ id = none) : VR (μ.upd id ⟨b, 0, none⟩) (ptrTo id) (.pointer (some ⟨b, 0, none⟩)) := by
  have := VR.ptr (μ := μ.upd id ⟨b, 0, none⟩) (o := 0) (Mu.upd_self μ id ⟨b, 0, none⟩)
  simpa [ptrTo] using this

theorem slTo_VR {id : Nat} {b l c : Nat} : VR (μ.upd id ⟨b, 0, none⟩) (.slice (some ⟨id, 0, none⟩) l c) (.slice (some ⟨b, 0, none⟩) l c) := by
  have := VR.sl (μ := μ.upd id ⟨b, 0, none⟩) (o := 0) (l := l) (c := c) (c' := c) (Mu.upd_self μ id ⟨b, 0, none⟩) (Nat.le_refl _) (.inl rfl)
  simpa using this

theorem aBuildSlice_sim {t : TypeId} {len : Nat} {ps ps' : List (Nat × Value)} {cs : List Value} (e : aBuildSlice P t len ps = some cs) (hp : PsR μ ps ps') :
    ∃ cs' E, (Instr.buildSlice t len ps'.toArray).run P w = .ok (.slice (some ⟨w.heap.size, 0, none⟩) len len) { w with heap := w.heap.push (.cells cs'.toArray E) } ∧ VRs μ cs cs' := by
  simp only [aBuildSlice, Option.bind_eq_some_iff] at e
  obtain ⟨el, hel, sz, hsz, zv, hz, e⟩ := e
  obtain ⟨hc, e⟩ := cond_some e
  simp only [Bool.and_eq_true] at hc
  have hc1 := Nat.le_of_ble_eq_true hc.1.1
  have hc3 := Nat.eq_of_beq_eq_true hc.2
  have hu := elemT_some hel
  have hzr : VRs μ zv.cells.toList zv.cells.toList := (VR.plainL (μ := μ) hc.1.2).cells
  obtain ⟨r', h1, h2⟩ := fill_sim e hp (zeros_plain hzr len)
  refine ⟨r'.toList, el, ?_, h2⟩
  have h16 : ¬ len * sz > 2 ^ 24 := by omega
  have hzeros : ((Array.range (len * sz)).map fun x => (if len * sz = 0 then #[] else zv.cells)[x % (if len * sz = 0 then #[] else zv.cells).size]!) = (zeros zv.cells.toList len).toArray := by
    apply Array.ext'
    by_cases h0 : len * sz = 0
    · rw [h0]
      have : (zeros zv.cells.toList len).length = 0 := by rw [zeros_length]; simp [hc3, h0]
      rw [List.eq_nil_of_length_eq_zero this]
      simp
    · simp only [h0, if_false]
      rw [← hc3]
      simpa using zeros_array zv.cells len
  simp only [Instr.buildSlice, Sem.run_bind, run_underlying hu, Result.andThen_ok, run_sizeOf' hsz]
  rw [if_neg h16]
  by_cases h0 : len * sz = 0
  · simp only [h0, if_true] at hzeros
    simp only [Sem.run_bind, h0, if_true, Sem.run_pure, Result.andThen_ok, hzeros, h1, newRow, run_newObj]
  · simp only [h0, if_false] at hzeros
    simp only [Sem.run_bind, h0, if_false, run_zeroValue' hz, Sem.run_pure, Result.andThen_ok, hzeros, h1, newRow, run_newObj]

theorem aInt_some {v : Value} {i : Int} (h : aInt v = some i) : ∃ k, v = .int k i := by
  unfold aInt at h
  split at h
  · cases h; exact ⟨_, rfl⟩
  · cases h

theorem wrap_small {n : Int} (h0 : 0 ≤ n) (h : n ≤ 281474976710656) : IntKind.i64.wrap n = n := by
  unfold IntKind.wrap IntKind.bits IntKind.signed
  simp only [Bool.true_and]
  have : n % (2 ^ 64 : Int) = n := Int.emod_eq_of_lt h0 (by omega)
  rw [this]
  have h2 : ¬ (n ≥ (2 ^ (64 - 1) : Int)) := by omega
  simp [h2]
  omega

theorem aMakeSlice_sim {t : TypeId} {l k l' k' : Value} {r : List Value × Nat × Nat} (e : aMakeSlice P t l k = some r) (hl : VR μ l l') (hk : VR μ k k') :
    ∃ cs' E, (Instr.makeSlice t l' k').run P w = .ok (.slice (some ⟨w.heap.size, 0, none⟩) r.2.1 r.2.2) { w with heap := w.heap.push (.cells cs'.toArray E) } ∧ VRs μ r.1 cs' := by
  simp only [aMakeSlice, Option.bind_eq_some_iff] at e
  obtain ⟨el, hel, sz, hsz, by', hby, zv, hz, ln, hln, cn, hcn, e⟩ := e
  obtain ⟨hc, e⟩ := cond_some e
  cases e
  simp only [Bool.and_eq_true, decide_eq_true_eq] at hc
  obtain ⟨⟨⟨⟨⟨h1, h2⟩, h3⟩, h4⟩, h5⟩, h6⟩ := hc
  have h6 := Nat.eq_of_beq_eq_true h6
  have hu := elemT_some hel
  obtain ⟨k1, rfl⟩ := aInt_some hln
  obtain ⟨k2, rfl⟩ := aInt_some hcn
  obtain rfl := hl.int_left
  obtain rfl := hk.int_left
  have hzr : VRs μ zv.cells.toList zv.cells.toList := (VR.plainL (μ := μ) h5).cells
  refine ⟨zeros zv.cells.toList cn.toNat, el, ?_, zeros_plain hzr _⟩
  have hti : ∃ i, P.info? el = some i ∧ i.bytes = by' := by
    simp only [bytesT, Option.map_eq_some_iff] at hby; exact hby
  obtain ⟨inf, hinf, hbytes⟩ := hti
  have w1 := wrap_small (n := ln) h1 (by omega)
  have w2 := wrap_small (n := cn) (by omega) h4
  have t1 : (decide (cn < 0) || decide ((by' : Int) * cn > 2 ^ 48)) = false := by
    have a1 : ¬ cn < 0 := by omega
    have a2 : ¬ (by' : Int) * cn > 2 ^ 48 := by omega
    rw [decide_eq_false a1, decide_eq_false a2]; rfl
  have hcnd : ((decide (cn < 0) || decide ((by' : Int) * cn > 2 ^ 48)) || decide (ln < 0) || decide (ln > cn)) = false := by
    rw [t1]
    have a1 : ¬ ln < 0 := by omega
    have a2 : ¬ ln > cn := by omega
    simp [a1, a2]
  have hzeros : ((Array.range (cn.toNat * sz)).map fun x => (if cn.toNat * sz = 0 then #[] else zv.cells)[x % (if cn.toNat * sz = 0 then #[] else zv.cells).size]!) = (zeros zv.cells.toList cn.toNat).toArray := by
    apply Array.ext'
    by_cases h0 : cn.toNat * sz = 0
    · rw [h0]
      have : (zeros zv.cells.toList cn.toNat).length = 0 := by rw [zeros_length]; simp [h6, h0]
      rw [List.eq_nil_of_length_eq_zero this]
      simp
    · simp only [h0, if_false]
      rw [← h6]
      simpa using zeros_array zv.cells cn.toNat
  by_cases h0 : cn.toNat * sz = 0
  · simp only [h0, if_true] at hzeros
    simp only [Instr.makeSlice, Sem.run_bind, run_underlying hu, Result.andThen_ok, asInt, asIntOf, Sem.run_pure, run_typeInfo' hinf, hbytes, w1, w2]
    rw [if_neg (by simpa using hcnd)]
    simp only [Sem.run_bind, run_askRoom, Result.andThen_ok, run_sizeOf' hsz, h0, if_true, Sem.run_pure, hzeros, newRow, run_newObj]
  · simp only [h0, if_false] at hzeros
    simp only [Instr.makeSlice, Sem.run_bind, run_underlying hu, Result.andThen_ok, asInt, asIntOf, Sem.run_pure, run_typeInfo' hinf, hbytes, w1, w2]
    rw [if_neg (by simpa using hcnd)]
    simp only [Sem.run_bind, run_askRoom, Result.andThen_ok, run_sizeOf' hsz, h0, if_false, run_zeroValue' hz, Sem.run_pure, hzeros, newRow, run_newObj]

end Go.Ab
