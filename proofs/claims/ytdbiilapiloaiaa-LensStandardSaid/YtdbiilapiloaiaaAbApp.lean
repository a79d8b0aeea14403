/- A part of the claim's proof: AbApp. Conditions: none. -/
import Derived.Test.YtdbiilapiloaiaaAbMap
/-! append, copy, clear. -/
set_option linter.all false
namespace Go.Ab
open Go
set_option linter.unusedVariables false
set_option linter.unusedSimpArgs false

variable {H : Type} [HeapC H] {P : Program} {μ : Mu} {A : H} {w : World}

theorem growBy_le (need : Nat) (h256 : 256 ≤ need) : ∀ (r c : Nat), c ≤ 2 * need → Builtin.growBy need r c ≤ 2 * need
  | 0, c, h => h
  | r + 1, c, h => by
    unfold Builtin.growBy
    split
    · exact h
    · exact growBy_le need h256 r _ (by omega)

theorem nextcap_le {need c : Nat} (h : c < need) : Builtin.nextslicecap need c ≤ 2 * need := by
  unfold Builtin.nextslicecap
  split
  · omega
  · split
    · omega
    · exact growBy_le need (by omega) 4 c (by omega)

/-- what is appended, in the model -/
def SrcR (P : Program) (μ : Mu) (w : World) (xs : List Value) (ap : Sem (Array Value)) : Prop :=
  ∃ ys : List Value, VRs μ xs ys ∧ ∀ w' : World, w'.heap = w.heap → ap.run P w' = .ok ys.toArray w'

theorem cell?_heap {w w' : World} (h : w'.heap = w.heap) (a : Addr) : w'.cell? a = w.cell? a := by simp [World.cell?, h]

theorem firstCells_sim (hR : R μ A w) {sz : Nat} {x x' : Value} {cs : List Value} {n : Nat} (e : srcCells A sz x = some (cs, n)) (hx : VR μ x x') :
    (Builtin.lenOf x').run P w = .ok n w ∧ SrcR P μ w cs (Builtin.firstCells sz n x') := by
  unfold srcCells at e
  split at e
  · obtain ⟨hn, e⟩ := cond_some e
    cases e
    have hn := Nat.eq_of_beq_eq_true hn
    subst hn
    cases hx
    exact ⟨rfl, [], VRs.nil μ, fun w' _ => rfl⟩
  · rename_i i o n0 c
    simp only [Option.bind_eq_some_iff] at e
    obtain ⟨cs0, hcs, e⟩ := e
    cases e
    cases hx with
    | @sl _ _ _ _ c' m hm hc hz =>
      obtain ⟨hl, cs', h1, h2⟩ := rdCells_sim hR hm hcs
      refine ⟨rfl, cs', h1, fun w' hw' => ?_⟩
      simp only [Builtin.firstCells]
      exact run_loadCells_of (P := P) (w := w') (cs := cs') (by rw [← h1.1]; exact hl) (fun j v hv => by rw [add_mk, cell?_heap hw']; exact h2 j v hv)
    | @slE _ _ x m hm =>
      obtain ⟨hl, _⟩ := rdCells_sim hR hm hcs
      simp at hl
      subst hl
      exact ⟨rfl, [], VRs.nil μ, fun w' hw' => by simp [Builtin.firstCells, loadCells, loadCellsFrom]⟩
  · rename_i s
    obtain ⟨hs, e⟩ := cond_some e
    cases e
    obtain rfl := hx.str_left
    refine ⟨rfl, s.data.toList.map fun b => .int .u8 b.toNat, ?_, fun w' _ => ?_⟩
    rotate_left
    · simp only [Builtin.firstCells, Sem.run_pure]
      congr 1
      apply Array.ext'
      simp
    · exact VRs.plain (List.all_eq_true.2 (by intro x hx; simp only [List.mem_map] at hx; obtain ⟨b, _, rfl⟩ := hx; rfl))
  · cases e

theorem zeroCells_eq (z : Array Value) (n : Nat) : Builtin.zeroCells z n = (zeros z.toList n).toArray := by
  apply Array.ext'
  simpa [Builtin.zeroCells] using zeros_array z n

theorem R.heap_eq {w' : World} (hR : R μ A w) (h : w'.heap = w.heap) : R μ A w' := ⟨by rw [h]; exact hR.blk, hR.inj, by rw [h]; exact hR.lt⟩

/-- the model's growing append, once the new capacity is drawn -/
theorem run_grow {s' : Value} {sLen cap' n size by' : Nat} {el : TypeId} {zv : Value} (hz : zeroT P el = some zv) (hplain : plainL zv = true) {need : Nat} (hneed : need = sLen + n)
    {old new : List Value} {ap : Sem (Array Value)} (hold : ∀ w' : World, w'.heap = w.heap → (Builtin.firstCells size sLen s').run P w' = .ok old.toArray w')
    (hap : ∀ w' : World, w'.heap = w.heap → ap.run P w' = .ok new.toArray w') :
    ∃ (newCap : Nat) (w' : World), need ≤ newCap ∧ (do
      let newCap ← choose (.appendCap need cap' el)
      askRoom (newCap * by')
      let old ← Builtin.firstCells size sLen s'
      let new ← ap
      let rest := Builtin.zeroCells (← zeroValue el).cells (newCap - need)
      pure (.slice (some (← newRow el (old ++ new ++ rest))) need newCap) : Sem Value).run P w = .ok (.slice (some ⟨w.heap.size, 0, none⟩) need newCap) w' ∧
      w'.heap = w.heap.push (.cells (old ++ new ++ zeros zv.cells.toList (newCap - need)).toArray el) ∧ w'.os = w.os ∧ w'.tape = w.tape ∧ w'.output = w.output := by
  have hq : (Question.appendCap need cap' el).forced = false := rfl
  let w1 : World := { w with drawn := w.drawn + 1 }
  let nc := (Question.appendCap need cap' el).cut (w.tape w.drawn (.appendCap need cap' el))
  have hnc : need ≤ nc := by show need ≤ need + _; omega
  refine ⟨nc, { w1 with heap := w1.heap.push (.cells (old ++ new ++ zeros zv.cells.toList (nc - need)).toArray el) }, hnc, ?_, rfl, rfl, rfl, rfl⟩
  have h1 : (choose (.appendCap need cap' el)).run P w = .ok nc w1 := by rw [run_choose, hq]; rfl
  simp only [Sem.run_bind, h1, Result.andThen_ok, run_askRoom, hold w1 rfl, hap w1 rfl, run_zeroValue' hz, zeroCells_eq, newRow, run_newObj, Sem.run_pure]
  simp [w1]

/-- the model's append behind the look at its operands -/
def modelApp (el : TypeId) (size : Nat) (s : Value) (n : Nat) (ap : Sem (Array Value)) (by' : Nat) : Sem Value :=
  match s with
  | .slice base sLen sCap =>
    if sLen + n ≤ sCap then do
      let new ← ap
      if let some a := base then storeCells (a.add (sLen * size)) new.toList
      pure (.slice base (sLen + n) sCap)
    else do
      let newCap ← choose (.appendCap (sLen + n) sCap el)
      askRoom (newCap * by')
      let old ← Builtin.firstCells size sLen s
      let new ← ap
      let rest := Builtin.zeroCells (← zeroValue el).cells (newCap - (sLen + n))
      pure (.slice (some (← newRow el (old ++ new ++ rest))) (sLen + n) newCap)
  | _ => stuck ""

theorem blk_grown {m : ME} {cs cs' : List Value} {rest : List Value} {h : Array Obj} {E : TypeId} {e : Nat} {μ' : Mu} (hcs : VRs μ' cs cs') (hm : m.s = 0)
    (hh : h[m.b]? = some (.cells (cs' ++ rest).toArray E)) (ho : m.opn = some (e, (cs' ++ rest).length)) : BlkR μ' m h (some (.cells false (some e) cs)) := by
  refine ⟨(cs' ++ rest).toArray, E, (0, 0), hh, fun k x hx => ?_, fun _ => rfl, by rw [ho]; simp⟩
  obtain ⟨y, hy, hv⟩ := hcs.get hx
  have hlt := (List.getElem?_eq_some_iff.1 hy).1
  exact ⟨y, by rw [hm, Nat.zero_add, List.getElem?_toArray, List.getElem?_append_left hlt]; exact hy, hv⟩

/-- marking a block dead -/
theorem R.kill (hR : R μ A w) (i : Nat) : R μ (HeapC.set A i .dead) w where
  blk := fun j mj hj => by
    rw [HeapC.get_set]
    by_cases e : j = i
    · simp only [e, if_true]; trivial
    · simp only [e, if_false]; exact hR.blk j mj hj
  inj := fun a b ma mb ha hb hn => by
    rw [HeapC.get_set, HeapC.get_set]
    by_cases ea : a = i <;> by_cases eb : b = i
    · exact absurd (ea.trans eb.symm) hn
    · simp only [ea, if_true]; intro h; simp [deadB] at h
    · simp only [eb, if_true]; intro _ h; simp [deadB] at h
    · simp only [ea, eb, if_false]; exact hR.inj a b ma mb ha hb hn
  lt := hR.lt

theorem Ext.kill {c : Nat} {own : Nat → Prop} (hR : R μ A w) {i : Nat} (hi : (μ i).isSome = true) : Ext μ A c w own μ (HeapC.set A i .dead) c w :=
  { Ext.refl (own := own) (c := c) hR with
    rel := hR.kill i
    af := fun j h1 _ _ => by
      rw [HeapC.get_set, if_neg]
      intro e; subst e; rw [h1] at hi; cases hi
    wrm := fun j mj hj h => by
      rw [HeapC.get_set] at h
      by_cases e : j = i
      · simp [e, wrB] at h
      · simpa [e] using h
    dd := fun j mj hj h => by
      rw [HeapC.get_set]
      by_cases e : j = i
      · simp [e, deadB]
      · simpa [e] using h }

theorem realloc_sim {c : Nat} (hR : R μ A w) {id : Nat} (hid : μ id = none) {el : TypeId} {sz by' cap' len n : Nat} {zv s' : Value} (hz : zeroT P el = some zv) (hplain : plainL zv = true) (hzs : zv.cells.size = sz)
    {old old' new ys : List Value} (ho : VRs μ old old') (hn : VRs μ new ys) (hol : old.length = len * sz) (hnl : new.length = n * sz) {ap : Sem (Array Value)}
    (hold : ∀ w' : World, w'.heap = w.heap → (Builtin.firstCells sz len s').run P w' = .ok old'.toArray w') (hap : ∀ w' : World, w'.heap = w.heap → ap.run P w' = .ok ys.toArray w') :
    ∃ v' μ' w', (do
      let newCap ← choose (.appendCap (len + n) cap' el)
      askRoom (newCap * by')
      let old ← Builtin.firstCells sz len s'
      let new ← ap
      let rest := Builtin.zeroCells (← zeroValue el).cells (newCap - (len + n))
      pure (.slice (some (← newRow el (old ++ new ++ rest))) (len + n) newCap) : Sem Value).run P w = .ok v' w' ∧
      VR μ' (.slice (some ⟨id, 0, none⟩) (len + n) (len + n)) v' ∧ Ext μ A c w (fun i => i = id) μ' (HeapC.set A id (.cells false (some sz) (old ++ new))) c w' := by
  obtain ⟨nc, w', h1, h2, h3, h4, h5, h6⟩ := run_grow (P := P) (w := w) (cap' := cap') (by' := by') hz hplain (n := n) (need := len + n) rfl hold hap
  have hlen : ((old' ++ ys) ++ zeros zv.cells.toList (nc - (len + n))).length = nc * sz := by
    have e1 := ho.1
    have e2 := hn.1
    simp only [List.length_append, zeros_length, Array.length_toList, hzs]
    rw [← e1, ← e2, hol, hnl, ← Nat.add_mul, ← Nat.add_mul]
    congr 1; omega
  refine ⟨.slice (some ⟨w.heap.size, 0, none⟩) (len + n) nc, μ.upd id ⟨w.heap.size, 0, some (sz, nc * sz)⟩, w', h2, ?_, Ext.alloc hR hid rfl rfl h4 h5 h6 h3 ?_⟩
  · have := VR.sl (μ := μ.upd id ⟨w.heap.size, 0, some (sz, nc * sz)⟩) (o := 0) (l := len + n) (c := len + n) (c' := nc) (Mu.upd_self μ id _) h1 (.inr ⟨sz, nc * sz, rfl, by simp⟩)
    simpa using this
  · exact blk_grown (E := el) (rest := zeros zv.cells.toList (nc - (len + n))) ((ho.append hn).mono (Mu.le_upd hid)) rfl (by rw [h3]; simp) (by rw [hlen])

theorem Ext.inplace {c : Nat} (hR : R μ A w) {i id : Nat} (hid : μ id = none) {m me : ME} (hm : μ i = some m) (hw : wrB (HeapC.get A i) = true) (hb : me.b = m.b) {blk : ABlk} (hro : roB (some blk) = false)
    {w' : World} (os : w'.os = w.os) (tape : w'.tape = w.tape) (output : w'.output = w.output) (size : w'.heap.size = w.heap.size)
    (oth : ∀ b, b ≠ m.b → w'.heap[b]? = w.heap[b]?) (hblk : BlkR (μ.upd id me) me w'.heap (some blk)) :
    Ext μ A c w (fun j => j = id) (μ.upd id me) (HeapC.set (HeapC.set A i .dead) id blk) c w' := by
  have hle : μ.le (μ.upd id me) := Mu.le_upd hid
  have hii : i ≠ id := by intro e; subst e; rw [hid] at hm; cases hm
  have hne : ∀ j mj, μ j = some mj → j ≠ id := fun j mj hj e => by subst e; rw [hid] at hj; cases hj
  have hcase : ∀ j mj, (μ.upd id me) j = some mj → (j = id ∧ mj = me) ∨ (j ≠ id ∧ μ j = some mj) := by
    intro j mj hj
    unfold Mu.upd at hj
    by_cases e : j = id
    · simp [e] at hj; exact .inl ⟨e, hj.symm⟩
    · simp [e] at hj; exact .inr ⟨e, hj⟩
  have hget : ∀ j, HeapC.get (HeapC.set (HeapC.set A i .dead) id blk) j = if j = id then some blk else if j = i then some .dead else HeapC.get A j := by
    intro j; rw [HeapC.get_set, HeapC.get_set]
  have hdiff : ∀ j mj, μ j = some mj → j ≠ i → deadB (HeapC.get A j) = false → mj.b ≠ m.b := fun j mj hj hji hd =>
    hR.inj j i mj m hj hm hji hd (dead_of_wr hw) (by rw [ro_of_wr hw]; simp)
  refine { mu := hle, new := fun j h1 h2 => ?_, cle := Nat.le_refl _, rel := ⟨?_, ?_, ?_⟩, af := fun j h1 _ h3 => ?_, os := os, tape := tape, output := output,
           size := by omega, fr := fun b h hn => oth b (fun e => hn i m hm hw e.symm), wrm := fun j mj hj h => ?_, dd := fun j mj hj h => by rw [hget, if_neg (hne j mj hj)]; by_cases e : j = i <;> simp [e, deadB] <;> exact h, newb := fun j mj h1 h2 => ?_ }
  · cases e : (μ.upd id me) j with
    | none => exact absurd e h2
    | some mj =>
      rcases hcase j mj e with ⟨rfl, _⟩ | ⟨_, e'⟩
      · exact .inl rfl
      · rw [h1] at e'; cases e'
  · intro j mj hj
    rw [hget]
    rcases hcase j mj hj with ⟨rfl, rfl⟩ | ⟨e, hj'⟩
    · simpa using hblk
    · simp only [e, if_false]
      by_cases hji : j = i
      · simp only [hji, if_true]; trivial
      · simp only [hji, if_false]
        have h0 := hR.blk j mj hj'
        cases hd : deadB (HeapC.get A j) with
        | true =>
          unfold deadB at hd
          split at hd
          · rename_i hg; rw [hg]; trivial
          · cases hd
        | false => exact (h0.congr (oth _ (hdiff j mj hj' hji hd))).mono hle
  · intro a b ma mb ha hb' hn
    rw [hget, hget]
    rcases hcase a ma ha with ⟨ea, rfl⟩ | ⟨ea, ha'⟩ <;> rcases hcase b mb hb' with ⟨eb, rfl⟩ | ⟨eb, hb''⟩
    · exact absurd (ea.trans eb.symm) hn
    · simp only [eb, if_false]
      by_cases hbi : b = i
      · simp only [hbi, if_true]; intro _ h; simp [deadB] at h
      · simp only [hbi, if_false]
        intro _ h2 _ e
        exact hdiff b mb hb'' hbi h2 (by omega)
    · simp only [ea, if_false]
      by_cases hai : a = i
      · simp only [hai, if_true]; intro h; simp [deadB] at h
      · simp only [hai, if_false]
        intro h1 _ _ e
        exact hdiff a ma ha' hai h1 (by omega)
    · simp only [ea, eb, if_false]
      by_cases hai : a = i
      · simp only [hai, if_true]; intro h; simp [deadB] at h
      · by_cases hbi : b = i
        · simp only [hbi, if_true]; intro _ h; simp [deadB] at h
        · simp only [hai, hbi, if_false]
          exact hR.inj a b ma mb ha' hb'' hn
  · intro j mj hj
    rcases hcase j mj hj with ⟨_, rfl⟩ | ⟨_, hj'⟩
    · have := hR.lt i m hm; omega
    · have := hR.lt j mj hj'; omega
  · rw [hget, if_neg h3, if_neg]
    intro e; subst e; rw [hm] at h1; cases h1
  · rw [hget, if_neg (hne j mj hj)] at h
    by_cases hji : j = i
    · subst hji; exact hw
    · simpa [hji] using h
  · rcases hcase j mj h2 with ⟨_, rfl⟩ | ⟨_, hj'⟩
    · exact .inr ⟨i, m, hm, hb.symm, hw⟩
    · rw [h1] at hj'; cases hj'

theorem appTo_sim {c : Nat} (hR : R μ A w) {id : Nat} (hid : μ id = none) {el : TypeId} {sz by' : Nat} {zv : Value} (hz : zeroT P el = some zv) (hplain : plainL zv = true) (hzs : zv.cells.size = sz)
    {s s' v : Value} {new : List Value} {n : Nat} {A' : H} (e : appTo A id sz by' s new n = some (v, A')) (hs : VR μ s s') (hnl : new.length = n * sz)
    {ap : Sem (Array Value)} (hap : SrcR P μ w new ap) :
    ∃ v' μ' w', (modelApp el sz s' n ap by').run P w = .ok v' w' ∧ VR μ' v v' ∧ Ext μ A c w (fun i => i = id) μ' A' c w' := by
  unfold appTo at e
  split at e
  · rename_i base len cap
    obtain ⟨ys, hyr, hap'⟩ := hap
    have hys := hap' w rfl
    cases hfit : Nat.ble (len + n) cap with
    | true =>
      rw [hfit] at e
      have hfit := Nat.le_of_ble_eq_true hfit
      simp only [cond_true] at e
      cases hs with
      | sl0 =>
        simp only at e
        obtain ⟨h0, e⟩ := cond_some e
        cases e
        refine ⟨_, μ, w, ?_, .sl0 _ _, Ext.refl hR⟩
        simp only [modelApp, hfit, if_true, Sem.run_bind, hys, Result.andThen_ok, Sem.run_pure]
      | @sl i o _ _ c' m hm hc hz' =>
        simp only at e
        have hfit' : len + n ≤ c' := by omega
        cases h0 : Nat.beq new.length 0 with
        | true =>
          rw [h0] at e
          simp only [cond_true, Option.some.injEq, Prod.mk.injEq] at e
          obtain ⟨rfl, rfl⟩ := e
          have h0 := Nat.eq_of_beq_eq_true h0
          have hy0 : ys = [] := List.eq_nil_of_length_eq_zero (by rw [← hyr.1, h0])
          subst hy0
          refine ⟨.slice (some ⟨m.b, m.s + o, none⟩) (len + n) c', μ, w, ?_, .sl hm hc hz', Ext.refl hR⟩
          simp only [modelApp, hfit', if_true, Sem.run_bind, hys, Result.andThen_ok, storeCells, Sem.run_pure]
        | false =>
          rw [h0] at e
          simp only [cond_false, Option.bind_eq_some_iff] at e
          obtain ⟨h1, hw, e⟩ := e
          cases e
          obtain ⟨w', hrun, hext⟩ := wrCells_sim (P := P) (c0 := c) (own := fun i => i = id) hR hm hyr hw
          refine ⟨.slice (some ⟨m.b, m.s + o, none⟩) (len + n) c', μ, w', ?_, .sl hm hc hz', hext⟩
          simp only [modelApp, hfit', if_true, Sem.run_bind, hys, Result.andThen_ok, add_mk, Nat.add_assoc] at hrun ⊢
          simp only [hrun, Result.andThen_ok, Sem.run_pure]
      | @slE i o x m hm =>
        have hn0 : n = 0 := by omega
        subst hn0
        have hnl0 : new.length = 0 := by simpa using hnl
        simp only [hnl0, show Nat.beq 0 0 = true from rfl, cond_true] at e
        have hy0 : ys = [] := List.eq_nil_of_length_eq_zero (by rw [← hyr.1, hnl0])
        subst hy0
        have e : (Value.slice (some ⟨i, o, none⟩) (0 + 0) 0, A) = (v, A') := by simpa using e
        cases e
        refine ⟨.slice (some ⟨m.b, x, none⟩) 0 0, μ, w, ?_, .slE hm, Ext.refl hR⟩
        simp only [modelApp, Nat.le_refl, if_true, Sem.run_bind, hys, Result.andThen_ok, storeCells, Sem.run_pure, Nat.add_zero]
    | false =>
      rw [hfit] at e
      have hfit : ¬ len + n ≤ cap := by intro h; rw [Nat.ble_eq_true_of_le h] at hfit; cases hfit
      simp only [cond_false, appGrow] at e
      obtain ⟨hb, e⟩ := cond_some e
      simp only [Bool.and_eq_true] at hb
      have hflat := hb.2
      have hb := Nat.le_of_ble_eq_true hb.1
      cases hs with
      | sl0 =>
        simp only at e
        obtain ⟨h0, e⟩ := cond_some e
        have h0 := Nat.eq_of_beq_eq_true h0
        subst h0
        cases e
        obtain ⟨v', μ', w', h1, h2, h3⟩ := realloc_sim (c := c) (cap' := cap) (by' := by') (len := 0) (n := n) (s' := .slice none 0 cap) hR hid hz hplain hzs (VRs.nil μ) hyr (by simp) hnl (fun w' _ => rfl) hap'
        exact ⟨v', μ', w', by simp only [modelApp, hfit, if_false]; exact h1, h2, h3⟩
      | @sl i o _ _ c' m hm hc hz' =>
        simp only [Option.bind_eq_some_iff] at e
        obtain ⟨old, hold, e⟩ := e
        obtain ⟨hol, old', hor, hocell⟩ := rdCells_sim hR hm hold
        have hfc : ∀ w' : World, w'.heap = w.heap → (Builtin.firstCells sz len (.slice (some ⟨m.b, m.s + o, none⟩) len c')).run P w' = .ok old'.toArray w' := fun w' hw' => by
          simp only [Builtin.firstCells]
          exact run_loadCells_of (P := P) (w := w') (cs := old') (by rw [← hor.1]; exact hol) (fun j v hv => by rw [add_mk, cell?_heap hw']; exact hocell j v hv)
        have hblk := hR.blk i m hm
        split at e
        · rename_i ro opn cs0 hg
          rw [hg] at hblk
          obtain ⟨C, E, fr, hC1, hC2, hC3, hC4⟩ := hblk
          cases opn with
          | none =>
            simp only [Option.map_none] at hC4
            simp only [Option.some.injEq, Prod.mk.injEq] at e
            obtain ⟨rfl, rfl⟩ := e
            have hcc : cap = c' := by
              rcases hz' with h | ⟨e', Z, h, _⟩
              · exact h
              · rw [hC4] at h; cases h
            subst hcc
            obtain ⟨v', μ', w', h1, h2, h3⟩ := realloc_sim (c := c) (cap' := cap) (by' := by') (len := len) (n := n) (s' := .slice (some ⟨m.b, m.s + o, none⟩) len cap) hR hid hz hplain hzs hor hyr hol hnl hfc hap'
            exact ⟨v', μ', w', by simp only [modelApp, hfit, if_false]; exact h1, h2, h3⟩
          | some e0 =>
            simp only [Option.map_some] at hC4
            obtain ⟨hro, e1⟩ := cond_some e
            clear e
            simp only [Bool.and_eq_true, Bool.not_eq_true'] at hro
            obtain ⟨he0, hro⟩ := hro
            have he0 := Nat.eq_of_beq_eq_true he0
            subst he0
            subst hro
            simp only [Option.some.injEq, Prod.mk.injEq] at e1
            obtain ⟨rfl, rfl⟩ := e1
            have hfr := hC3 rfl
            subst hfr
            have hKill := Ext.kill (c := c) (own := fun _ => False) hR (i := i) (by rw [hm]; rfl)
            by_cases hin : len + n ≤ c'
            · -- in place
              have hZ : m.s + o + c' * e0 ≤ C.size := by
                rcases hz' with h | ⟨e', Z, h, hle⟩
                · omega
                · rw [hC4] at h; cases h; exact hle
              have hys_len : ys.length = n * e0 := by rw [← hyr.1, hnl]
              have hmul : (len + n) * e0 ≤ c' * e0 := Nat.mul_le_mul_right e0 hin
              rw [Nat.add_mul] at hmul
              have hst := run_storeCells_at (P := P) m.b (m.s + o + len * e0) E ys 0 C w hC1 (by omega) (hyr.flat hflat)
              refine ⟨.slice (some ⟨m.b, m.s + o, none⟩) (len + n) c', μ.upd id ⟨m.b, m.s + o, some (e0, C.size)⟩, _, ?_, ?_,
                Ext.inplace (me := ⟨m.b, m.s + o, some (e0, C.size)⟩) (w' := w.setRow m.b (C.toList.take (m.s + o + len * e0 + 0) ++ ys ++ C.toList.drop (m.s + o + len * e0 + 0 + ys.length)).toArray)
                  hR hid hm (by rw [hg]; rfl) rfl rfl rfl rfl rfl (setRow_size _ _ _) (fun b hbn => setRow_other _ _ _ _ hbn) ?_⟩
              · simp only [modelApp, hin, if_true, Sem.run_bind, hys, Result.andThen_ok, add_mk, hst, Sem.run_pure]
              · have := VR.sl (μ := μ.upd id ⟨m.b, m.s + o, some (e0, C.size)⟩) (o := 0) (l := len + n) (c := len + n) (c' := c') (Mu.upd_self μ id _) hin (.inr ⟨e0, C.size, rfl, by simpa using hZ⟩)
                simpa using this
              · refine ⟨_, E, (0, 0), setRow_heap w m.b C _ E (0, 0) hC1, fun k x hk => ?_, fun _ => rfl, ?_⟩
                · have hol' : old'.length = len * e0 := by rw [← hor.1, hol]
                  rw [List.getElem?_append] at hk
                  split at hk
                  · rename_i hlt
                    obtain ⟨y, hy, hv⟩ := hor.get hk
                    have hcell := hocell k y hy
                    refine ⟨y, ?_, hv.mono (Mu.le_upd hid)⟩
                    have hCk : C[m.s + o + k]? = some y := by simpa [World.cell?, hC1] using hcell
                    have hCl := (Array.getElem?_eq_some_iff.1 hCk).1
                    simp only [List.getElem?_toArray, Nat.add_zero]
                    rw [List.getElem?_append_left (by simp; omega), List.getElem?_append_left (by simp; omega), List.getElem?_take, if_pos (by omega)]
                    simpa using hCk
                  · rename_i hge
                    obtain ⟨y, hy, hv⟩ := hyr.get hk
                    have hyl := (List.getElem?_eq_some_iff.1 hy).1
                    refine ⟨y, ?_, hv.mono (Mu.le_upd hid)⟩
                    simp only [List.getElem?_toArray, Nat.add_zero]
                    rw [List.getElem?_append_left (by simp; omega), List.getElem?_append_right (by simp; omega)]
                    rw [← hy]; congr 1; simp; omega
                · simp; omega
            · obtain ⟨v', μ', w', h1, h2, h3⟩ := realloc_sim (c := c) (cap' := c') (by' := by') (len := len) (n := n) (s' := .slice (some ⟨m.b, m.s + o, none⟩) len c') hKill.rel hid hz hplain hzs hor hyr hol hnl hfc hap'
              refine ⟨v', μ', w', by simp only [modelApp, hin, if_false]; exact h1, h2, ?_⟩
              exact (hKill.trans h3 (fun _ h => h.elim) (fun _ h => .inr h)).weaken (fun i h => h.elim False.elim (fun e => e))
        · cases e
      | @slE i o x m hm =>
        simp only [Option.bind_eq_some_iff] at e
        obtain ⟨old, hold, e⟩ := e
        obtain ⟨hol, old', hor, hocell⟩ := rdCells_sim hR hm hold
        have hol0 : old = [] := List.eq_nil_of_length_eq_zero (by simpa using hol)
        subst hol0
        have hfc : ∀ w' : World, w'.heap = w.heap → (Builtin.firstCells sz 0 (.slice (some ⟨m.b, x, none⟩) 0 0)).run P w' = .ok ([] : List Value).toArray w' := fun w' hw' => by
          simp [Builtin.firstCells, loadCells, loadCellsFrom]
        split at e
        · rename_i ro opn cs0 hg
          cases opn with
          | none =>
            simp only [Option.some.injEq, Prod.mk.injEq] at e
            obtain ⟨rfl, rfl⟩ := e
            obtain ⟨v', μ', w', h1, h2, h3⟩ := realloc_sim (c := c) (cap' := 0) (by' := by') (len := 0) (n := n) (s' := .slice (some ⟨m.b, x, none⟩) 0 0) hR hid hz hplain hzs (VRs.nil μ) hyr (by simp) hnl hfc hap'
            exact ⟨v', μ', w', by simp only [modelApp, hfit, if_false]; exact h1, h2, h3⟩
          | some e0 =>
            obtain ⟨hro, e1⟩ := cond_some e
            clear e
            simp only [Option.some.injEq, Prod.mk.injEq] at e1
            obtain ⟨rfl, rfl⟩ := e1
            have hKill := Ext.kill (c := c) (own := fun _ => False) hR (i := i) (by rw [hm]; rfl)
            obtain ⟨v', μ', w', h1, h2, h3⟩ := realloc_sim (c := c) (cap' := 0) (by' := by') (len := 0) (n := n) (s' := .slice (some ⟨m.b, x, none⟩) 0 0) hKill.rel hid hz hplain hzs (VRs.nil μ) hyr (by simp) hnl hfc hap'
            refine ⟨v', μ', w', by simp only [modelApp, hfit, if_false]; exact h1, h2, ?_⟩
            exact (hKill.trans h3 (fun _ h => h.elim) (fun _ h => .inr h)).weaken (fun i h => h.elim False.elim (fun e => e))
        · cases e
  · cases e

theorem append_model {st xt el : TypeId} (hu : P.underlying st = some (.slice el)) {sz by' n : Nat} (hsz : sizeT P el = some sz) (hby : bytesT P el = some by') {s' x' : Value} {b l c : Nat} {base : Option Addr}
    (hs : s' = .slice base l c) {td : TypeDesc} (hxt : P.underlying xt = some td) (hni : ∀ k, td ≠ .int k) (hlen : (Builtin.lenOf x').run P w = .ok n w) (hneed : ¬ l + n ≤ c → (l + n) * (by' + 1) ≤ 17592186044416) {ty : TypeId} :
    (Builtin.append_ #[st, xt] ty #[s', x']).run P w = (modelApp el sz s' n (Builtin.firstCells sz n x') by').run P w := by
  subst hs
  have hi : ∃ i, P.info? el = some i ∧ i.bytes = by' := by simpa [bytesT, Option.map_eq_some_iff] using hby
  obtain ⟨inf, hinf, hbytes⟩ := hi
  have h0 : (#[st, xt] : Array TypeId)[0]? = some st := rfl
  have h1 : (#[st, xt] : Array TypeId)[1]? = some xt := rfl
  have h2 : (#[Value.slice base l c, x'] : Array Value)[0]? = some (.slice base l c) := rfl
  have h3 : (#[Value.slice base l c, x'] : Array Value)[1]? = some x' := rfl
  have hmax : IntKind.i64.max = 9223372036854775807 := by decide
  by_cases hfit : l + n ≤ c
  · cases td
    case int k => exact absurd rfl (hni k)
    all_goals
      simp only [Builtin.append_, h0, h1, h2, h3, Sem.run_bind, run_underlying hu, run_underlying hxt, Result.andThen_ok, run_sizeOf' hsz, Sem.run_pure, Bool.false_eq_true, if_false, hlen, modelApp, hfit, if_true, Bool.not_false]
      cases base <;> simp only [Sem.run_bind, Sem.run_pure]
  · have hneed := hneed hfit
    have hle : l + n ≤ 17592186044416 := Nat.le_trans (Nat.le_mul_of_pos_right _ (by omega)) hneed
    have hbig : ¬ (((l + n : Nat) : Int) > IntKind.i64.max ∧ ((false : Bool) = true ∨ by' = 0)) := by rw [hmax]; omega
    have hcap : ¬ (Builtin.nextslicecap (l + n) c * by' > 2 ^ 48) := by
      have h9 := nextcap_le (need := l + n) (c := c) (by omega)
      have h10 : Builtin.nextslicecap (l + n) c * by' ≤ 2 * (l + n) * by' := Nat.mul_le_mul_right _ h9
      have h11 : 2 * (l + n) * by' ≤ 2 * ((l + n) * (by' + 1)) := by rw [Nat.mul_assoc]; exact Nat.mul_le_mul_left 2 (Nat.mul_le_mul_left _ (by omega))
      omega
    cases td
    case int k => exact absurd rfl (hni k)
    all_goals
      simp only [Builtin.append_, h0, h1, h2, h3, Sem.run_bind, run_underlying hu, run_underlying hxt, Result.andThen_ok, run_sizeOf' hsz, Sem.run_pure, Bool.false_eq_true, if_false, hlen, modelApp, hfit, Bool.not_false, if_true,
        run_typeInfo' hinf, hbytes]
      rw [if_neg (by rw [hmax]; omega)]
      simp only [Sem.run_bind, run_typeInfo' hinf, hbytes, Result.andThen_ok]
      rw [if_neg hcap]
      simp only [Sem.run_bind, run_typeInfo' hinf, hbytes, Result.andThen_ok, Sem.run_pure]

/-- the cells that append takes from a make -/
def zeroSrc (el : TypeId) (n sz : Nat) : Sem (Array Value) :=
  if n * sz = 0 then pure #[]
  else do pure (Builtin.zeroCells (← zeroValue el).cells n)

theorem append_model0 {st xt el : TypeId} (hu : P.underlying st = some (.slice el)) {sz by' n : Nat} (hsz : sizeT P el = some sz) (hby : bytesT P el = some by') {s' : Value} {b l c : Nat} {base : Option Addr}
    (hs : s' = .slice base l c) {q k : IntKind} (hxt : P.underlying xt = some (.int q)) (hn1 : n ≤ 17592186044416) (hn2 : n * by' ≤ 17592186044416) (hneed : ¬ l + n ≤ c → (l + n) * (by' + 1) ≤ 17592186044416) {ty : TypeId} :
    (Builtin.append_ #[st, xt] ty #[s', .int k n]).run P w = (modelApp el sz s' n (zeroSrc el n sz) by').run P w := by
  subst hs
  have hi : ∃ i, P.info? el = some i ∧ i.bytes = by' := by simpa [bytesT, Option.map_eq_some_iff] using hby
  obtain ⟨inf, hinf, hbytes⟩ := hi
  have h0 : (#[st, xt] : Array TypeId)[0]? = some st := rfl
  have h1 : (#[st, xt] : Array TypeId)[1]? = some xt := rfl
  have h2 : (#[Value.slice base l c, .int k n] : Array Value)[0]? = some (.slice base l c) := rfl
  have h3 : (#[Value.slice base l c, .int k n] : Array Value)[1]? = some (.int k n) := rfl
  have hmax : IntKind.i64.max = 9223372036854775807 := by decide
  have hwrap : IntKind.i64.wrap (n : Int) = n := wrap_small (by omega) (by omega)
  have hneg : ¬ ((n : Int) < 0) := by omega
  clear hmax
  have hmul : ¬ ((n : Int) * (by' : Int) > 2 ^ 48) := by
    rw [← Int.natCast_mul]
    omega
  have hpre : (Builtin.append_ #[st, xt] ty #[.slice base l c, .int k n]).run P w = (Builtin.append_ #[st, xt] ty #[.slice base l c, .int k n]).run P w := rfl
  conv at hpre => rhs; unfold Builtin.append_
  simp only [h0, h1, h2, h3, Sem.run_bind, run_underlying hu, run_underlying hxt, Result.andThen_ok, run_sizeOf' hsz, Sem.run_pure, if_true, asInt, asIntOf, hwrap] at hpre
  rw [if_neg hneg] at hpre
  simp only [Sem.run_bind, run_typeInfo' hinf, hbytes, Result.andThen_ok] at hpre
  rw [if_neg hmul] at hpre
  simp only [Sem.run_bind, Sem.run_pure, Result.andThen_ok, Int.toNat_natCast] at hpre
  rw [hpre]
  clear hpre hwrap hneg hmul
  by_cases hfit : l + n ≤ c
  · simp only [Sem.run_bind, modelApp, hfit, if_true, Bool.not_true, Bool.false_eq_true, if_false, zeroSrc]
    cases base <;> simp only [Sem.run_bind, Sem.run_pure]
  · have hneed := hneed hfit
    have hle : l + n ≤ 17592186044416 := Nat.le_trans (Nat.le_mul_of_pos_right _ (by omega)) hneed
    have hcap : ¬ (Builtin.nextslicecap (l + n) c * by' > 2 ^ 48) := by
      have h9 := nextcap_le (need := l + n) (c := c) (by omega)
      have h10 : Builtin.nextslicecap (l + n) c * by' ≤ 2 * (l + n) * by' := Nat.mul_le_mul_right _ h9
      have h11 : 2 * (l + n) * by' ≤ 2 * ((l + n) * (by' + 1)) := by rw [Nat.mul_assoc]; exact Nat.mul_le_mul_left 2 (Nat.mul_le_mul_left _ (by omega))
      omega
    simp only [Sem.run_bind, modelApp, hfit, if_false, Bool.not_true, Bool.false_eq_true, zeroSrc, run_typeInfo' hinf, hbytes, Result.andThen_ok]
    rw [if_neg (by have hmax : IntKind.i64.max = 9223372036854775807 := by decide
                   rw [hmax]; omega)]
    simp only [Sem.run_bind, run_typeInfo' hinf, hbytes, Result.andThen_ok]
    rw [if_neg hcap]
    simp only [Sem.run_bind, run_typeInfo' hinf, hbytes, Result.andThen_ok, Sem.run_pure]

theorem VR.slice_left {base : Option Addr} {l c : Nat} {v' : Value} (h : VR μ (.slice base l c) v') : ∃ base' c', v' = .slice base' l c' ∧ c ≤ c' := by
  cases h with
  | sl0 => exact ⟨_, _, rfl, Nat.le_refl _⟩
  | sl hm hc hz => exact ⟨_, _, rfl, hc⟩
  | slE hm => exact ⟨_, _, rfl, Nat.le_refl _⟩

theorem isIntT_iff {t : TypeId} : isIntT P t = true ↔ ∃ k, P.underlying t = some (.int k) := by
  unfold isIntT
  split
  · exact ⟨fun _ => ⟨_, by assumption⟩, fun _ => rfl⟩
  · rename_i h
    constructor
    · intro h'; cases h'
    · intro h'; obtain ⟨k, hk⟩ := h'; exact absurd hk (h k)

theorem appTo_need {id sz by' : Nat} {base : Option Addr} {len cap n : Nat} {new : List Value} {r : Value × H} (e : appTo A id sz by' (.slice base len cap) new n = some r) :
    ¬ len + n ≤ cap → (len + n) * (by' + 1) ≤ 17592186044416 := by
  intro h
  simp only [appTo] at e
  have hb : Nat.ble (len + n) cap = false := by
    cases hh : Nat.ble (len + n) cap with
    | true => exact absurd (Nat.le_of_ble_eq_true hh) h
    | false => rfl
  rw [hb] at e
  simp only [cond_false, appGrow] at e
  obtain ⟨hc, _⟩ := cond_some e
  simp only [Bool.and_eq_true] at hc
  exact Nat.le_of_ble_eq_true hc.1

theorem srcCells_len (hR : R μ A w) {sz : Nat} {x x' : Value} {cs : List Value} {n : Nat} (e : srcCells A sz x = some (cs, n)) (hx : VR μ x x') : cs.length = n * sz := by
  unfold srcCells at e
  split at e
  · obtain ⟨hn, e1⟩ := cond_some e
    cases e1
    simp
  · simp only [Option.bind_eq_some_iff] at e
    obtain ⟨cs0, hcs, e⟩ := e
    cases e
    cases hx with
    | sl hm hc hz => exact (rdCells_sim hR hm hcs).1
    | slE hm => exact (rdCells_sim hR hm hcs).1
  · obtain ⟨hs, e1⟩ := cond_some e
    cases e1
    have := Nat.eq_of_beq_eq_true hs
    rw [this]; simp
  · cases e

theorem aAppend_sim {c : Nat} (hR : R μ A w) {id : Nat} (hid : μ id = none) {ts : List TypeId} {args args' : List Value} {v : Value} {A' : H} {ty : TypeId} (e : aAppend P A id ts args = some (v, A')) (ha : VRs μ args args')
    : ∃ v' μ' w', (Builtin.append_ ts.toArray ty args'.toArray).run P w = .ok v' w' ∧ VR μ' v v' ∧ Ext μ A c w (fun i => i = id) μ' A' c w' := by
  unfold aAppend at e
  split at e
  · rename_i st rest s x
    obtain ⟨s', as1, rfl, hs, ha1⟩ := ha.left
    obtain ⟨x', as2, rfl, hx, ha2⟩ := ha1.left
    rw [ha2.nil_left]
    simp only [Option.bind_eq_some_iff] at e
    obtain ⟨el, hel, sz, hsz, by', hby, z, hz, e⟩ := e
    obtain ⟨hzc, e2⟩ := cond_some e
    clear e
    have e := e2
    clear e2
    simp only [Bool.and_eq_true] at hzc
    obtain ⟨h4, h5⟩ := hzc
    have h5 := Nat.eq_of_beq_eq_true h5
    have hu := elemT_some hel
    split at e
    · rename_i xt
      simp only [Option.bind_eq_some_iff] at e
      obtain ⟨xd, hxd, e⟩ := e
      cases s with
      | slice base l cp =>
        obtain ⟨base', c', rfl, hcc⟩ := hs.slice_left
        cases hit : isIntT P xt with
        | true =>
          rw [hit] at e
          simp only [cond_true, Option.bind_eq_some_iff] at e
          obtain ⟨n, hn, e⟩ := e
          obtain ⟨hc, e⟩ := cond_some e
          simp only [Bool.and_eq_true, decide_eq_true_eq] at hc
          obtain ⟨⟨h1, h2⟩, h3⟩ := hc
          obtain ⟨q, hq⟩ := isIntT_iff.1 hit
          obtain ⟨k, rfl⟩ := aInt_some hn
          obtain rfl := hx.int_left
          obtain ⟨m, rfl⟩ := Int.eq_ofNat_of_zero_le h1
          rw [Int.toNat_natCast] at e
          have hzr : VRs μ (zeros z.cells.toList m) (zeros z.cells.toList m) := zeros_plain (VR.plainL (μ := μ) h4).cells m
          have hsrc : SrcR P μ w (zeros z.cells.toList m) (zeroSrc el m sz) := by
            refine ⟨zeros z.cells.toList m, hzr, fun w' _ => ?_⟩
            unfold zeroSrc
            by_cases hm0 : m * sz = 0
            · rw [if_pos hm0]
              have : (zeros z.cells.toList m).length = 0 := by rw [zeros_length, Array.length_toList, h5]; exact hm0
              rw [List.eq_nil_of_length_eq_zero this]; rfl
            · rw [if_neg hm0]
              simp only [Sem.run_bind, run_zeroValue' hz, Result.andThen_ok, Sem.run_pure, zeroCells_eq]
          obtain ⟨v', μ', w', r1, r2, r3⟩ := appTo_sim (P := P) (w := w) (c := c) hR hid hz h4 h5 e hs (by rw [zeros_length, Array.length_toList, h5]) hsrc
          refine ⟨v', μ', w', ?_, r2, r3⟩
          have hnd := appTo_need e
          rw [← r1]
          have hmb : m * by' ≤ 17592186044416 := by
            have h2' : ((m : Int) * (by' : Int)) ≤ 17592186044416 := h2
            rw [← Int.natCast_mul] at h2'
            omega
          exact append_model0 (P := P) (w := w) (b := 0) hu hsz hby rfl hq (by omega) hmb (fun h => hnd (by omega))
        | false =>
          rw [hit] at e
          simp only [cond_false, Option.bind_eq_some_iff] at e
          obtain ⟨⟨cs, n⟩, hsrc, e⟩ := e
          obtain ⟨hlen, hS⟩ := firstCells_sim (P := P) hR hsrc hx
          have hcl := srcCells_len hR hsrc hx
          obtain ⟨v', μ', w', r1, r2, r3⟩ := appTo_sim (P := P) (w := w) (c := c) hR hid hz h4 h5 e hs hcl hS
          refine ⟨v', μ', w', ?_, r2, r3⟩
          have hnd := appTo_need e
          rw [← r1]
          refine append_model (P := P) (w := w) (b := 0) hu hsz hby rfl hxd (fun k hk => ?_) hlen (fun h => hnd (by omega))
          have : isIntT P xt = true := isIntT_iff.2 ⟨k, by rw [hxd, hk]⟩
          rw [hit] at this; cases this
      | _ =>
        exfalso
        cases hit : isIntT P xt <;> rw [hit] at e <;> simp [appTo, Option.bind_eq_some_iff] at e
    · cases e
  · cases e

theorem aCopy_sim {c : Nat} {own : Nat → Prop} (hR : R μ A w) {ts : List TypeId} {args args' : List Value} {v : Value} {A' : H} {ty : TypeId} (e : aCopy P A ts args = some (v, A')) (ha : VRs μ args args') :
    ∃ v' w', (Builtin.copy_ ts.toArray ty args'.toArray).run P w = .ok v' w' ∧ VR μ v v' ∧ Ext μ A c w own μ A' c w' := by
  unfold aCopy at e
  split at e
  · rename_i dt rest base dl dc sb sl sc
    obtain ⟨d', as1, rfl, hd, ha1⟩ := ha.left
    obtain ⟨s', as2, rfl, hs, ha2⟩ := ha1.left
    rw [ha2.nil_left]
    simp only [Option.bind_eq_some_iff] at e
    obtain ⟨el, hel, sz, hsz, e⟩ := e
    have hu := elemT_some hel
    obtain ⟨sb', sc', rfl, hscc⟩ := hs.slice_left
    have h0 : ((dt :: rest).toArray : Array TypeId)[0]? = some dt := rfl
    split at e
    · obtain ⟨hdl, e⟩ := cond_some e
      cases e
      have hdl := Nat.eq_of_beq_eq_true hdl
      subst hdl
      cases hd
      refine ⟨goInt 0, w, ?_, VR.int .i64 _, Ext.refl hR⟩
      have hfc : (Builtin.firstCells sz 0 (.slice sb' sl sc')).run P w = .ok #[] w := by
        cases sb' with
        | none => rfl
        | some a => simp [Builtin.firstCells, loadCells, loadCellsFrom]
      simp [Builtin.copy_, run_underlying hu, Builtin.lenOf, run_sizeOf' hsz, hfc]
    · rename_i i o
      simp only [Option.bind_eq_some_iff] at e
      obtain ⟨⟨cs, n⟩, hsrc, A1, hw, e⟩ := e
      cases e
      have hs2 : VR μ (.slice sb (Nat.min sl dl) sc) (.slice sb' (Nat.min sl dl) sc') := by
        cases hs with
        | sl0 => exact .sl0 _ _
        | sl hm hc hz => exact .sl hm hc hz
        | slE hm => rw [show Nat.min 0 dl = 0 from Nat.zero_min dl]; exact .slE hm
      obtain ⟨hlen, ys, hyr, hrun⟩ := firstCells_sim (P := P) hR hsrc hs2
      have hn : n = Nat.min sl dl := by
        unfold srcCells at hsrc
        split at hsrc
        · obtain ⟨hn, h9⟩ := cond_some hsrc
          cases h9
          rename_i heq
          cases heq
          exact (Nat.eq_of_beq_eq_true hn).symm
        · rename_i heq
          cases heq
          simp only [Option.bind_eq_some_iff] at hsrc
          obtain ⟨_, _, h9⟩ := hsrc
          cases h9; rfl
        · rename_i heq; cases heq
        · cases hsrc
      have hrun' : (Builtin.firstCells sz (Nat.min sl dl) (.slice sb' sl sc')).run P w = .ok ys.toArray w := by
        have := hrun w rfl
        rw [hn] at this
        cases sb' <;> simpa [Builtin.firstCells] using this
      cases hd with
      | @sl _ _ _ _ c' m hm hc hz =>
        obtain ⟨w', hst, hext⟩ := wrCells_sim (P := P) (c0 := c) (own := own) hR hm hyr hw
        refine ⟨goInt (Nat.min sl dl), w', ?_, VR.int .i64 _, hext⟩
        simp [Builtin.copy_, run_underlying hu, Builtin.lenOf, run_sizeOf' hsz, hrun', hst]
      | @slE _ _ x m hm =>
        have h00 : Nat.min sl 0 = 0 := Nat.min_zero sl
        rw [h00] at hn hrun'
        have hcl := srcCells_len hR hsrc hs2
        rw [hn] at hcl
        have hc0 : cs = [] := List.eq_nil_of_length_eq_zero (by simpa using hcl)
        subst hc0
        have hy0 : ys = [] := hyr.nil_left
        subst hy0
        obtain ⟨w', hst, hext⟩ := wrCells_sim (P := P) (c0 := c) (own := own) hR hm hyr hw
        have hww : w = w' := by simpa [storeCells] using hst
        subst hww
        refine ⟨goInt (Nat.min sl 0), w, ?_, VR.int .i64 _, hext⟩
        simp [Builtin.copy_, run_underlying hu, Builtin.lenOf, run_sizeOf' hsz, hrun', storeCells]
    · cases e
  · cases e

theorem aClear_sim {c : Nat} {own : Nat → Prop} (hR : R μ A w) {ts : List TypeId} {args args' : List Value} {v : Value} {A' : H} {ty : TypeId} (e : aClear P A ts args = some (v, A')) (ha : VRs μ args args')
    (hts : ∀ t, ts.head? = some t → ∃ td, P.underlying t = some td) :
    ∃ v' w', (Builtin.clear_ ts.toArray ty args'.toArray).run P w = .ok v' w' ∧ VR μ v v' ∧ Ext μ A c w own μ A' c w' := by
  unfold aClear at e
  split at e
  · rename_i t rest x
    obtain ⟨x', as1, rfl, hx, ha1⟩ := ha.left
    rw [ha1.nil_left]
    obtain ⟨td, htd⟩ := hts t rfl
    have hv : VR μ (.tuple #[]) (.tuple #[]) := VR.tuple_iff.2 (VRs.nil μ)
    split at e
    · cases e
      cases hx
      refine ⟨.tuple #[], w, ?_, hv, Ext.refl hR⟩
      simp only [Builtin.clear_, List.getElem?_toArray, List.getElem?_cons_zero, Sem.run_bind, run_underlying htd, Result.andThen_ok]
      cases td <;> simp
    · rename_i i o n cp
      simp only [Option.bind_eq_some_iff] at e
      obtain ⟨el, hel, sz, hsz, z, hz, e⟩ := e
      obtain ⟨hzc, e⟩ := cond_some e
      simp only [Option.bind_eq_some_iff] at e
      obtain ⟨A1, hw, e⟩ := e
      cases e
      simp only [Bool.and_eq_true] at hzc
      have hzr : VRs μ (zeros z.cells.toList n) (zeros z.cells.toList n) := zeros_plain (VR.plainL (μ := μ) hzc.1).cells n
      have hu := elemT_some hel
      cases hx with
      | @sl _ _ _ _ c' m hm hc hz' =>
        obtain ⟨w', hst, hext⟩ := wrCells_sim (P := P) (c0 := c) (own := own) hR hm hzr hw
        refine ⟨.tuple #[], w', ?_, hv, hext⟩
        cases n with
        | zero =>
          have hww : w = w' := by simpa [storeCells, zeros] using hst
          subst hww
          simp [Builtin.clear_, run_underlying hu]
        | succ n =>
          simp only [Builtin.clear_, List.getElem?_toArray, List.getElem?_cons_zero, Sem.run_bind, run_underlying hu, Result.andThen_ok, run_zeroValue' hz, zeroCells_eq]
          simp [hst]
      | @slE _ _ x m hm =>
        obtain ⟨w', hst, hext⟩ := wrCells_sim (P := P) (c0 := c) (own := own) hR hm hzr hw
        have hww : w = w' := by simpa [storeCells, zeros] using hst
        subst hww
        refine ⟨.tuple #[], w, ?_, hv, hext⟩
        simp [Builtin.clear_, run_underlying hu]
    · cases e
  · cases e

end Go.Ab
