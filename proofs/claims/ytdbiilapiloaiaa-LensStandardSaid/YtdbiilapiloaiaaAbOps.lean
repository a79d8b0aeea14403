/- A part of the claim's proof: AbOps. Conditions: none. -/
import Derived.Test.YtdbiilapiloaiaaAbRel
/-! One operation: the abstract answer and the model's. -/
set_option linter.all false
namespace Go.Ab
open Go
set_option linter.unusedVariables false
set_option linter.unusedSimpArgs false

variable {H : Type} [HeapC H] {P : Program} {μ : Mu} {A : H} {w : World}

theorem beq_false_of_ne {a b : Nat} (h : a ≠ b) : Nat.beq a b = false := by
  rw [Bool.eq_false_iff]; intro hh; exact h (Nat.eq_of_beq_eq_true hh)

theorem cond_some {α : Type} {b : Bool} {x : Option α} {v : α} (h : cond b x none = some v) : b = true ∧ x = some v := by
  cases b <;> simp_all

theorem cond_none_some {α : Type} {b : Bool} {x : Option α} {v : α} (h : cond b none x = some v) : b = false ∧ x = some v := by
  cases b <;> simp_all

theorem asPtr_some {v : Value} {a : Nat × Nat} (h : asPtr v = some a) : v = .pointer (some ⟨a.1, a.2, none⟩) := by
  unfold asPtr at h
  split at h
  · cases h; rfl
  · cases h

theorem VR.ptr_inv {i o : Nat} {v' : Value} (h : VR μ (.pointer (some ⟨i, o, none⟩)) v') : ∃ m, μ i = some m ∧ v' = .pointer (some ⟨m.b, m.s + o, none⟩) := by
  cases h with
  | ptr h => exact ⟨_, h, rfl⟩

theorem run_isAgg' {t : TypeId} {b : Bool} (h : isAggT P t = some b) (w : World) : (isAgg t).run P w = .ok b w := by
  unfold isAggT at h
  unfold isAgg
  split at h <;> cases h <;> simp [run_underlying ‹_›]

theorem run_sizeOf' {t : TypeId} {n : Nat} (h : sizeT P t = some n) (w : World) : (sizeOf t).run P w = .ok n w := by
  simp only [sizeT, Option.map_eq_some_iff] at h
  obtain ⟨i, hi, rfl⟩ := h
  simp [sizeOf, typeInfo, hi]

theorem run_typeInfo' {t : TypeId} {i : TypeInfo} (h : P.info? t = some i) (w : World) : (typeInfo t).run P w = .ok i w := by
  simp [typeInfo, h]

theorem run_zeroValue' {t : TypeId} {z : Value} (h : zeroT P t = some z) (w : World) : (zeroValue t).run P w = .ok z w := by
  simp only [zeroT, Option.bind_eq_some_iff] at h
  obtain ⟨i, hi, hz⟩ := h
  simp [zeroValue, typeInfo, hi, hz]

theorem add_mk (b o j : Nat) : (⟨b, o, none⟩ : Addr).add j = ⟨b, o + j, none⟩ := by unfold Addr.add; split <;> simp_all

theorem getCells_some {i : Nat} {c : List Value} (h : getCells A i = some c) : ∃ ro opn, HeapC.get A i = some (.cells ro opn c) := by
  unfold getCells at h
  split at h
  · cases h; exact ⟨_, _, ‹_›⟩
  · cases h

theorem BlkR.cell {m : ME} {ro : Bool} {opn : Option Nat} {c : List Value} (h : BlkR μ m w.heap (some (.cells ro opn c))) {k : Nat} {x : Value} (hx : c[k]? = some x) :
    ∃ y, w.cell? ⟨m.b, m.s + k, none⟩ = some y ∧ VR μ x y := by
  obtain ⟨C, E, fr, h1, h2, _, _⟩ := h
  obtain ⟨y, hy, hv⟩ := h2 k x hx
  exact ⟨y, by simp [World.cell?, h1, hy], hv⟩

theorem rdCells_sim (hR : R μ A w) {i o n : Nat} {m : ME} (hm : μ i = some m) {cs : List Value} (e : rdCells A i o n = some cs) :
    cs.length = n ∧ ∃ cs', VRs μ cs cs' ∧ ∀ j v, cs'[j]? = some v → w.cell? ⟨m.b, m.s + o + j, none⟩ = some v := by
  simp only [rdCells, Option.bind_eq_some_iff] at e
  obtain ⟨c, hc, e⟩ := e
  obtain ⟨hle, e⟩ := cond_some e
  cases e
  have hle := Nat.le_of_ble_eq_true hle
  obtain ⟨ro, opn, hg⟩ := getCells_some hc
  have hb := hR.blk i m hm
  rw [hg] at hb
  have hlen : ((c.drop o).take n).length = n := by simp; omega
  refine ⟨hlen, ?_⟩
  have key : ∀ j, j < n → ∃ y, w.cell? ⟨m.b, m.s + o + j, none⟩ = some y ∧ VR μ (((c.drop o).take n).getD j undef) y := by
    intro j hj
    have hx : c[o + j]? = some c[o + j] := List.getElem?_eq_getElem (by omega)
    obtain ⟨y, h1, h2⟩ := hb.cell hx
    refine ⟨y, by rw [Nat.add_assoc]; exact h1, ?_⟩
    have : ((c.drop o).take n).getD j undef = c[o + j] := by
      simp only [List.getD_eq_getElem?_getD, List.getElem?_take, hj, if_true, List.getElem?_drop, hx, Option.getD_some]
    rw [this]; exact h2
  refine ⟨(List.range n).map fun j => (w.cell? ⟨m.b, m.s + o + j, none⟩).getD undef, ⟨by simp [hlen], fun k x y hx hy => ?_⟩, fun j v hv => ?_⟩
  · have hk : k < n := by have := (List.getElem?_eq_some_iff.1 hx).1; omega
    obtain ⟨z, h1, h2⟩ := key k hk
    simp [hk, h1] at hy
    subst hy
    rw [List.getD_eq_getElem?_getD, hx] at h2
    exact h2
  · have hj : j < n := by have := (List.getElem?_eq_some_iff.1 hv).1; simpa using this
    obtain ⟨z, h1, h2⟩ := key j hj
    simp [hj, h1] at hv
    rw [h1, hv]

theorem rdCell_sim (hR : R μ A w) {i o : Nat} {m : ME} (hm : μ i = some m) {x : Value} (e : rdCell A i o = some x) :
    ∃ y, w.cell? ⟨m.b, m.s + o, none⟩ = some y ∧ VR μ x y := by
  simp only [rdCell, Option.bind_eq_some_iff] at e
  obtain ⟨c, hc, e⟩ := e
  obtain ⟨ro, opn, hg⟩ := getCells_some hc
  have hb := hR.blk i m hm
  rw [hg] at hb
  exact hb.cell e

theorem run_loadCells_of {a : Addr} {cs : List Value} {n : Nat} (hn : cs.length = n) (h : ∀ j v, cs[j]? = some v → w.cell? (a.add j) = some v) :
    (loadCells a n).run P w = .ok cs.toArray w := hn ▸ run_loadCells_list (P := P) w a cs h

theorem aLoad_sim (hR : R μ A w) {t : TypeId} {p p' v : Value} (e : aLoad P A t p = some v) (hp : VR μ p p') :
    ∃ v', (Instr.loadAt t p').run P w = .ok v' w ∧ VR μ v v' := by
  simp only [aLoad, Option.bind_eq_some_iff] at e
  obtain ⟨b, hb, e⟩ := e
  cases b with
  | true =>
    simp only [cond_true, Option.bind_eq_some_iff, ldN] at e
    obtain ⟨n, hn, ⟨i, o⟩, ha, cs, hcs, e⟩ := e
    cases e
    have := asPtr_some ha; subst this
    obtain ⟨m, hm, rfl⟩ := hp.ptr_inv
    obtain ⟨hl, cs', h1, h2⟩ := rdCells_sim hR hm hcs
    refine ⟨.agg cs'.toArray, ?_, VR.agg_iff.2 (by simpa using h1)⟩
    simp only [Instr.loadAt, Instr.sureAddr, loadVar, Sem.run_bind, Sem.run_pure, Result.andThen_ok, run_isAgg' hb, if_true, run_sizeOf' hn]
    rw [run_loadCells_of (P := P) (w := w) (cs := cs') (by rw [← h1.1]; exact hl) (fun j v hv => by rw [add_mk]; exact h2 j v hv)]
    rfl
  | false =>
    simp only [cond_false, ld1, Option.bind_eq_some_iff] at e
    obtain ⟨⟨i, o⟩, ha, hcs⟩ := e
    have := asPtr_some ha; subst this
    obtain ⟨m, hm, rfl⟩ := hp.ptr_inv
    obtain ⟨y, h1, h2⟩ := rdCell_sim hR hm hcs
    refine ⟨y, ?_, h2⟩
    simp only [Instr.loadAt, Instr.sureAddr, loadVar, Sem.run_bind, Sem.run_pure, Result.andThen_ok, run_isAgg' hb, if_false, Bool.false_eq_true, run_load, h1]

/-! ### Changes of the heaps -/
theorem BlkR.congr {m : ME} {h h' : Array Obj} {b : Option ABlk} (hb : BlkR μ m h b) (e : h'[m.b]? = h[m.b]?) : BlkR μ m h' b := by
  unfold BlkR at *
  split <;> simp_all

theorem LoopR.mono {μ' : Mu} (hm : μ.le μ') {a : ALoop} {r : Loop} (h : LoopR μ a r) : LoopR μ' a r :=
  { h with vals := fun t v e => let ⟨v', a, b⟩ := h.vals t v e; ⟨v', a, b.mono hm⟩, dfr := let ⟨m, a, b⟩ := h.dfr; ⟨m, hm _ _ a, b⟩ }

theorem BlkR.mono {μ' : Mu} (hm : μ.le μ') {m : ME} {h : Array Obj} {b : Option ABlk} (hb : BlkR μ m h b) : BlkR μ' m h b := by
  unfold BlkR at *
  split
  · obtain ⟨C, E, fr, h1, h2, h3, h4⟩ := hb
    exact ⟨C, E, fr, h1, fun k x hx => let ⟨y, a, b⟩ := h2 k x hx; ⟨y, a, b.mono hm⟩, h3, h4⟩
  · obtain ⟨es', clk, h1, h2, h3⟩ := hb
    exact ⟨es', clk, h1, h2, fun k x y hx hy => ⟨(h3 k x y hx hy).1.mono hm, (h3 k x y hx hy).2.mono hm⟩⟩
  · obtain ⟨r, h1, h2⟩ := hb
    exact ⟨r, h1, h2.mono hm⟩
  · exact hb
  · trivial
  · trivial

theorem dead_of_wr {b : Option ABlk} (h : wrB b = true) : deadB b = false := by
  unfold wrB at h; unfold deadB; split <;> simp_all
theorem ro_of_wr {b : Option ABlk} (h : wrB b = true) : roB b = false := by
  unfold wrB at h; unfold roB; split <;> simp_all

theorem Ext.write {c : Nat} {own : Nat → Prop} (hR : R μ A w) {i : Nat} {m : ME} (hm : μ i = some m) (hw : wrB (HeapC.get A i) = true) {blk : ABlk} (hn : wrB (some blk) = true)
    {w' : World} (os : w'.os = w.os) (tape : w'.tape = w.tape) (output : w'.output = w.output) (size : w'.heap.size = w.heap.size)
    (oth : ∀ b, b ≠ m.b → w'.heap[b]? = w.heap[b]?) (hb : BlkR μ m w'.heap (some blk)) :
    Ext μ A c w own μ (HeapC.set A i blk) c w' where
  mu := fun _ _ e => e
  new := fun i h1 h2 => absurd h1 h2
  cle := Nat.le_refl _
  rel := {
    blk := fun j mj hj => by
      rw [HeapC.get_set]
      by_cases e : j = i
      · subst e; rw [hm] at hj; cases hj; simpa using hb
      · simp only [e, if_false]
        have h0 := hR.blk j mj hj
        cases hd : deadB (HeapC.get A j) with
        | true =>
          unfold deadB at hd
          split at hd
          · rename_i hg; rw [hg]; trivial
          · cases hd
        | false =>
          refine h0.congr (oth _ ?_)
          exact hR.inj j i mj m hj hm e hd (dead_of_wr hw) (by rw [ro_of_wr hw]; simp)
    inj := fun a b ma mb ha hb' hne => by
      rw [HeapC.get_set, HeapC.get_set]
      by_cases ea : a = i <;> by_cases eb : b = i
      · exact absurd (ea.trans eb.symm) hne
      · subst ea
        simp only [eb, if_true, if_false]
        intro _ h2 h3
        exact hR.inj a b ma mb ha hb' hne (dead_of_wr hw) h2 (by rw [ro_of_wr hw]; simp)
      · subst eb
        simp only [ea, if_true, if_false]
        intro h1 _ h3
        exact hR.inj a b ma mb ha hb' hne h1 (dead_of_wr hw) (by rw [ro_of_wr hw]; simp)
      · simp only [ea, eb, if_false]
        exact hR.inj a b ma mb ha hb' hne
    lt := fun j mj hj => by rw [size]; exact hR.lt j mj hj }
  af := fun j h1 _ _ => by
    rw [HeapC.get_set, if_neg]
    intro e; subst e; rw [hm] at h1; cases h1
  os := os
  tape := tape
  output := output
  size := by omega
  fr := fun b _ h => oth b (fun e => h i m hm hw e.symm)
  wrm := fun j mj hj h => by
    rw [HeapC.get_set] at h
    by_cases e : j = i
    · subst e; exact hw
    · simpa [e] using h
  newb := fun j mj h1 h2 => by rw [h1] at h2; cases h2
  dd := fun j mj hj h => by
    rw [HeapC.get_set]
    by_cases e : j = i
    · subst e; rw [dead_of_wr hw] at h; cases h
    · simpa [e] using h

def Mu.upd (μ : Mu) (i : Nat) (m : ME) : Mu := fun j => if j = i then some m else μ j
theorem Mu.upd_self (μ : Mu) (i : Nat) (m : ME) : μ.upd i m i = some m := by simp [Mu.upd]
theorem Mu.le_upd {i : Nat} {m : ME} (h : μ i = none) : μ.le (μ.upd i m) := by
  intro j mj hj
  unfold Mu.upd
  by_cases e : j = i
  · subst e; rw [h] at hj; cases hj
  · simpa [e] using hj

theorem Ext.alloc {c : Nat} (hR : R μ A w) {id : Nat} (hid : μ id = none) {m : ME} (hmb : m.b = w.heap.size) {blk : ABlk} (hlive : roB (some blk) = false)
    {w' : World} {o : Obj} (os : w'.os = w.os) (tape : w'.tape = w.tape) (output : w'.output = w.output) (hh : w'.heap = w.heap.push o)
    (hb : BlkR (μ.upd id m) m w'.heap (some blk)) :
    Ext μ A c w (fun i => i = id) (μ.upd id m) (HeapC.set A id blk) c w' := by
  have hle : μ.le (μ.upd id m) := Mu.le_upd hid
  have hold : ∀ b, b < w.heap.size → w'.heap[b]? = w.heap[b]? := fun b h => by rw [hh, Array.getElem?_push, if_neg (by omega)]
  have hne : ∀ j mj, μ j = some mj → j ≠ id := fun j mj hj e => by subst e; rw [hid] at hj; cases hj
  have hcase : ∀ j mj, (μ.upd id m) j = some mj → (j = id ∧ mj = m) ∨ (j ≠ id ∧ μ j = some mj) := by
    intro j mj hj
    unfold Mu.upd at hj
    by_cases e : j = id
    · simp [e] at hj; exact .inl ⟨e, hj.symm⟩
    · simp [e] at hj; exact .inr ⟨e, hj⟩
  refine { mu := hle, new := fun i h1 h2 => ?_, cle := Nat.le_refl _, rel := ⟨?_, ?_, ?_⟩, af := fun j h1 _ h3 => by rw [HeapC.get_set, if_neg h3], os := os, tape := tape, output := output,
           size := by rw [hh]; simp, fr := fun b h _ => hold b h, wrm := fun j mj hj h => by rw [HeapC.get_set, if_neg (hne j mj hj)] at h; exact h, dd := fun j mj hj h => by rw [HeapC.get_set, if_neg (hne j mj hj)]; exact h, newb := fun j mj h1 h2 => ?_ }
  · cases e : (μ.upd id m) i with
    | none => exact absurd e h2
    | some mi =>
      rcases hcase i mi e with ⟨rfl, _⟩ | ⟨_, e'⟩
      · exact .inl rfl
      · rw [h1] at e'; cases e'
  · intro j mj hj
    rw [HeapC.get_set]
    rcases hcase j mj hj with ⟨rfl, rfl⟩ | ⟨e, hj'⟩
    · simpa using hb
    · simp only [e, if_false]
      exact ((hR.blk j mj hj').congr (hold _ (hR.lt j mj hj'))).mono hle
  · intro a b ma mb ha hb' hn
    rw [HeapC.get_set, HeapC.get_set]
    rcases hcase a ma ha with ⟨ea, rfl⟩ | ⟨ea, ha'⟩ <;> rcases hcase b mb hb' with ⟨eb, rfl⟩ | ⟨eb, hb''⟩
    · exact absurd (ea.trans eb.symm) hn
    · intro _ _ _ e; have := hR.lt b mb hb''; omega
    · intro _ _ _ e; have := hR.lt a ma ha'; omega
    · simp only [ea, eb, if_false]
      exact hR.inj a b ma mb ha' hb'' hn
  · intro j mj hj
    rcases hcase j mj hj with ⟨_, rfl⟩ | ⟨_, hj'⟩
    · rw [hh]; simp; omega
    · rw [hh]; simp; have := hR.lt j mj hj'; omega
  · rcases hcase j mj h2 with ⟨_, rfl⟩ | ⟨_, hj'⟩
    · exact .inl (by omega)
    · rw [h1] at hj'; cases hj'

/-! ### A store -/
theorem splice_get {c xs : List Value} {off k : Nat} {x : Value} (hle : off + xs.length ≤ c.length) (h : (splice c off xs)[k]? = some x) :
    (off ≤ k ∧ k < off + xs.length ∧ xs[k - off]? = some x) ∨ ((k < off ∨ off + xs.length ≤ k) ∧ c[k]? = some x) := by
  unfold splice at h
  rw [List.getElem?_append] at h
  split at h
  · rename_i h1
    rw [List.getElem?_append] at h
    split at h
    · rename_i h2
      simp at h2
      rw [List.getElem?_take] at h
      split at h
      · exact .inr ⟨.inl (by omega), h⟩
      · cases h
    · rename_i h2
      simp at h2 h1
      have e : min off c.length = off := by omega
      simp [e] at h
      exact .inl ⟨by omega, by omega, h⟩
  · rename_i h1
    simp at h1
    have e : min off c.length = off := by omega
    simp [e] at h
    refine .inr ⟨.inr (by omega), ?_⟩
    rw [← h]; congr 1; omega

theorem splice_length {c xs : List Value} {off : Nat} (hle : off + xs.length ≤ c.length) : (splice c off xs).length = c.length := by
  unfold splice; simp; omega

theorem wrCells_sim {c0 : Nat} {own : Nat → Prop} (hR : R μ A w) {i o : Nat} {m : ME} (hm : μ i = some m) {xs xs' : List Value} (hx : VRs μ xs xs') {A' : H} (e : wrCells A i o xs = some A') :
    ∃ w', (storeCells ⟨m.b, m.s + o, none⟩ xs').run P w = .ok () w' ∧ Ext μ A c0 w own μ A' c0 w' := by
  unfold wrCells at e
  split at e
  · rename_i opn c hg
    obtain ⟨hc, e⟩ := cond_some e
    cases e
    simp only [Bool.and_eq_true] at hc
    have hle := Nat.le_of_ble_eq_true hc.1
    have hflat := hx.flat hc.2
    have hb := hR.blk i m hm
    rw [hg] at hb
    obtain ⟨C, E, fr, h1, h2, h3, h4⟩ := hb
    have hfr := h3 rfl
    subst hfr
    have hlen : m.s + o + xs'.length ≤ C.size ∨ xs'.length = 0 := by
      by_cases h0 : xs'.length = 0
      · exact .inr h0
      · left
        have hk : o + xs'.length - 1 < c.length := by have := hx.1; omega
        obtain ⟨y, hy, _⟩ := h2 (o + xs'.length - 1) c[o + xs'.length - 1] (List.getElem?_eq_getElem hk)
        have := (Array.getElem?_eq_some_iff.1 hy).1
        omega
    rcases hlen with hlen | h0
    · refine ⟨_, run_storeCells_at (P := P) m.b (m.s + o) E xs' 0 C w h1 (by omega) hflat, ?_⟩
      refine Ext.write hR hm (by rw [hg]; rfl) rfl rfl rfl rfl (setRow_size _ _ _) (fun b hbn => setRow_other _ _ _ _ hbn) ?_
      refine ⟨_, E, (0, 0), setRow_heap w m.b C _ E (0, 0) h1, fun k x hk => ?_, fun _ => rfl, ?_⟩
      · rcases splice_get hle hk with ⟨a1, a2, a3⟩ | ⟨a1, a3⟩
        · obtain ⟨y, hy, hv⟩ := hx.get a3
          refine ⟨y, ?_, hv⟩
          have hlt := (List.getElem?_eq_some_iff.1 hy).1
          simp only [List.getElem?_toArray, Nat.add_zero]
          rw [List.getElem?_append, if_pos (by simp; omega), List.getElem?_append, if_neg (by simp; omega)]
          rw [← hy]; congr 1; simp; omega
        · obtain ⟨y, hy, hv⟩ := h2 k x a3
          refine ⟨y, ?_, hv⟩
          have hyl := (Array.getElem?_eq_some_iff.1 hy).1
          have hxl := hx.1
          simp only [List.getElem?_toArray, Nat.add_zero]
          rcases a1 with a1 | a1
          · rw [List.getElem?_append, if_pos (by simp; omega), List.getElem?_append, if_pos (by simp; omega), List.getElem?_take, if_pos (by omega)]
            simpa using hy
          · rw [List.getElem?_append, if_neg (by simp; omega), List.getElem?_drop]
            rw [← hy, ← Array.getElem?_toList]; congr 1; simp; omega
      · rw [h4]
        cases opn with
        | none => rfl
        | some e => simp; omega
    · have hx0 : xs' = [] := List.eq_nil_of_length_eq_zero h0
      have hxs : xs = [] := List.eq_nil_of_length_eq_zero (by rw [hx.1, h0])
      subst hx0; subst hxs
      refine ⟨w, rfl, ?_⟩
      have hsp : splice c o [] = c := by simp [splice]
      rw [hsp]
      exact Ext.write hR hm (by rw [hg]; rfl) rfl rfl rfl rfl rfl (fun _ _ => rfl) ⟨C, E, (0, 0), h1, h2, h3, h4⟩
  · cases e

theorem aStore_sim {c0 : Nat} {own : Nat → Prop} (hR : R μ A w) {t : TypeId} {p p' v v' : Value} {A' : H} (e : aStore P A t p v = some A') (hp : VR μ p p') (hv : VR μ v v') :
    ∃ w', (Instr.storeAt t p' v').run P w = .ok () w' ∧ Ext μ A c0 w own μ A' c0 w' := by
  simp only [aStore, stN, Option.bind_eq_some_iff] at e
  obtain ⟨n, hn, ⟨i, o⟩, ha, e⟩ := e
  obtain ⟨hs, e⟩ := cond_some e
  have hs := Nat.eq_of_beq_eq_true hs
  have := asPtr_some ha; subst this
  obtain ⟨m, hm, rfl⟩ := hp.ptr_inv
  obtain ⟨w', h1, h2⟩ := wrCells_sim (P := P) (c0 := c0) (own := own) hR hm hv.cells e
  refine ⟨w', ?_, h2⟩
  have hsz : v'.cells.size = n := by have := hv.cells.1; simp at this; omega
  simp only [Instr.storeAt, Instr.sureAddr, storeVar, Sem.run_bind, Sem.run_pure, Result.andThen_ok, run_sizeOf' hn, hsz, ne_eq, not_true_eq_false, if_false]
  exact h1

end Go.Ab
