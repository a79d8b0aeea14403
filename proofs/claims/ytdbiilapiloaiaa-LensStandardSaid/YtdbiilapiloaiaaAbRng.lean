/- A part of the claim's proof: AbRng. Conditions: none. -/
import Derived.Test.YtdbiilapiloaiaaAbSym
/-! Ranges over functions, over the plain heap. -/
set_option linter.all false
namespace Go.Ab
open Go
set_option linter.unusedVariables false
set_option linter.unusedSimpArgs false

variable {P : Program}

theorem callV_yield {o : Orc FH} {h : FH} {c l : Nat} {st : ALoop} {args : List Value} {Q : Value × FH × Nat → Prop} (hg : HeapC.get h l = some (.loop st)) (hs : st.state = .ready)
    (hok : (Nat.beq args.length st.params.length && nodupB st.params && st.params.all (Nat.blt · st.nt)) = true)
    (hr : Ans (o (.rnd st.nt st.lin st.fr st.params l st.assign st.body) (args ++ st.vals) h c []) fun r => ∃ v, r.vs = [v] ∧ Q (v, r.h, r.c)) : Ans (callV o h c (.func (.yield l) #[] #[]) args) Q := by
  obtain ⟨r, e, v, hv, hq⟩ := hr
  have h1 : (decide (st.state = LoopState.ready) && Nat.beq args.length st.params.length && nodupB st.params && st.params.all (Nat.blt · st.nt)) = true := by
    simp only [Bool.and_eq_true] at hok ⊢
    exact ⟨⟨⟨by simp [hs], hok.1.1⟩, hok.1.2⟩, hok.2⟩
  refine ⟨(v, r.h, r.c), ?_, hq⟩
  simp only [callV, Array.size_empty, Nat.beq_refl, Bool.and_self, cond_true, hg, h1, e, Option.bind_some, hv]

/-- the record of a range over a function, at its entry -/
def entryL (nt : Nat) (lin : List Nat) (ps : Array Tmp) (a b : ACode) (vs : List Value) (d : Nat) : ALoop :=
  { state := .ready, pending := none, nt := nt, vals := vs, lin := lin, fr := [], params := ps.toList, assign := a, body := b, dfr := d }

/-- the heap at the entry of a range over a function -/
noncomputable def entryH (h : FH) (c nt : Nat) (lin : List Nat) (ps : Array Tmp) (a b : ACode) (vs : List Value) : FH :=
  HeapC.set (HeapC.set h (256 * c + 1) .dfr) (256 * c) (.loop (entryL nt lin ps a b vs (256 * c + 1)))

theorem entryH_f (h : FH) (c nt : Nat) (lin : List Nat) (ps : Array Tmp) (a b : ACode) (vs : List Value) (i : Nat) :
    (entryH h c nt lin ps a b vs).f i = if i = 256 * c then some (.loop (entryL nt lin ps a b vs (256 * c + 1))) else if i = 256 * c + 1 then some .dfr else h.f i := by
  simp only [entryH, set_f]
theorem entryH_same (h : FH) (c nt : Nat) (lin : List Nat) (ps : Array Tmp) (a b : ACode) (vs : List Value) : Same c h (entryH h c nt lin ps a b vs) := by
  intro i hi
  rw [entryH_f, if_neg (by omega), if_neg (by omega)]

/-- a range over a function, outside of rounds -/
theorem rangeV_of {o : Orc FH} {nt : Nat} {lin : List Nat} {ps : Array Tmp} {a b : ACode} {g : FuncId} {cap : Array Value} {vs : List Value} {h : FH} {c : Nat} {df : List Nat} {Q : Ex × FH × Nat × List Nat → Prop}
    (hr : Ans (o (.fn g) (.func (.yield (256 * c)) #[] #[] :: cap.toList) (entryH h c nt lin ps a b vs) (c + 1) []) fun r =>
      ∃ st e, HeapC.get r.h (256 * c) = some (.loop st) ∧ st.state ≠ .busy ∧ exOf st.pending = some e ∧ Q (e, HeapC.del r.h (256 * c), r.c, (256 * c + 1) :: df)) :
    Ans (rangeV o nt none lin [] ps a b (.func (.func g) [].toArray cap) vs h c df) Q := by
  obtain ⟨r, e1, st, e, hg, hs, he, hq⟩ := hr
  refine ⟨_, ?_, hq⟩
  simp only [entryH, entryL] at e1
  have hs' : decide (st.state = LoopState.busy) = false := decide_eq_false hs
  simp only [rangeV, enterDfr, Option.bind_some, List.nil_append, List.singleton_append, e1, hg, hs', cond_false, he]

theorem beginSt_of {h : FH} {l : Nat} {st : ALoop} (hg : HeapC.get h l = some (.loop st)) (hs : st.state = .ready) : beginSt h l = some (HeapC.set h l (.loop { st with state := .busy })) := by
  simp [beginSt, hg, hs]
theorem setState_of {h : FH} {l : Nat} {st : ALoop} (hg : HeapC.get h l = some (.loop st)) (s : LoopState) (pd : Option Code) : setState h l s pd = some (HeapC.set h l (.loop { st with state := s, pending := pd })) := by
  simp [setState, hg]

@[simp] theorem get_set_same (h : FH) (i : Nat) (b : ABlk) : HeapC.get (HeapC.set h i b) i = some b := by simp [HeapC.get_set]
@[simp] theorem get_set_ne (h : FH) (i j : Nat) (b : ABlk) (hne : j ≠ i) : HeapC.get (HeapC.set h i b) j = HeapC.get h j := by simp [HeapC.get_set, hne]
@[simp] theorem get_del_ne (h : FH) (i j : Nat) (hne : j ≠ i) : HeapC.get (HeapC.del h i) j = HeapC.get h j := by simp [HeapC.get_del, hne]
@[simp] theorem ld1_set_ne (h : FH) (i j o : Nat) (b : ABlk) (hne : j ≠ i) : ld1 (HeapC.set h i b) (.pointer (some ⟨j, o, none⟩)) = ld1 h (.pointer (some ⟨j, o, none⟩)) := by simp [ld1, asPtr, rdCell, getCells, hne]
@[simp] theorem ldN_set_ne (h : FH) (n i j o : Nat) (b : ABlk) (hne : j ≠ i) : ldN (HeapC.set h i b) n (.pointer (some ⟨j, o, none⟩)) = ldN h n (.pointer (some ⟨j, o, none⟩)) := by simp [ldN, asPtr, rdCells, getCells, hne]
@[simp] theorem ld1_del_ne (h : FH) (i j o : Nat) (hne : j ≠ i) : ld1 (HeapC.del h i) (.pointer (some ⟨j, o, none⟩)) = ld1 h (.pointer (some ⟨j, o, none⟩)) := by simp [ld1, asPtr, rdCell, getCells, hne]
@[simp] theorem ldN_del_ne (h : FH) (n i j o : Nat) (hne : j ≠ i) : ldN (HeapC.del h i) n (.pointer (some ⟨j, o, none⟩)) = ldN h n (.pointer (some ⟨j, o, none⟩)) := by simp [ldN, asPtr, rdCells, getCells, hne]

theorem Holds.set_ne {h : FH} {i j : Nat} {b : ABlk} {ds : List Value} (hne : j ≠ i) (hh : Holds h j ds) : Holds (HeapC.set h i b) j ds := by
  obtain ⟨ro, op, e⟩ := hh
  exact ⟨ro, op, by rw [get_set_ne h i j b hne]; exact e⟩
theorem Holds.same {h h' : FH} {c j : Nat} {ds : List Value} (hj : j < 256 * c) (hs : Same c h h') (hh : Holds h j ds) : Holds h' j ds := by
  obtain ⟨ro, op, e⟩ := hh
  exact ⟨ro, op, (hs j hj).trans e⟩
theorem ld1_holds' {h : FH} {b o : Nat} {cs : List Value} (hh : Holds h b cs) : ld1 h (.pointer (some ⟨b, o, none⟩)) = cs[o]? := by
  obtain ⟨ro, op, e⟩ := hh
  simp [ld1, asPtr, rdCell, getCells, e]

/-- writing into a block that may be written -/
theorem st1_get {h : FH} {b o : Nat} {op : Option Nat} {cs : List Value} {v : Value} (hg : HeapC.get h b = some (.cells false op cs)) (ho : o < cs.length) (hv : v.cells = #[v]) (hf : isFlat v = true) :
    stN h 1 (.pointer (some ⟨b, o, none⟩)) v = some (HeapC.set h b (.cells false op (cs.set o v))) := by
  have h1 : Nat.ble (o + 1) cs.length = true := Nat.ble_eq_true_of_le (by omega)
  simp [stN, asPtr, hv, wrCells, hg, h1, hf, splice_one cs o v ho]


@[simp] theorem sameB_self (x : Option Nat) (h : FH) : sameB x h h = true := by
  unfold sameB
  split
  · show @decide _ (Classical.propDecidable _) = true
    simp
  · rfl
theorem getD_drop (l : List Int) (i j : Nat) : (l.drop i).getD j 0 = l.getD (i + j) 0 := by simp [List.getD]
theorem getD_take (l : List Int) (i j : Nat) (h : j < i) : (l.take i).getD j 0 = l.getD j 0 := by simp [List.getD, List.getElem?_take, h]

@[simp] theorem set_set (h : FH) (i : Nat) (a b : ABlk) : HeapC.set (HeapC.set h i a) i b = HeapC.set h i b := by
  apply FH.ext; intro j; simp only [set_f]; split <;> rfl
@[simp] theorem setState_set (h : FH) (l : Nat) (st : ALoop) (s : LoopState) (pd : Option Code) : setState (HeapC.set h l (.loop st)) l s pd = some (HeapC.set h l (.loop { st with state := s, pending := pd })) := by
  rw [setState_of (get_set_same h l (.loop st)), set_set]
theorem set_comm (h : FH) (i j : Nat) (a b : ABlk) (hne : i ≠ j) : HeapC.set (HeapC.set h i a) j b = HeapC.set (HeapC.set h j b) i a := by
  apply FH.ext; intro k; simp only [set_f]
  by_cases h1 : k = j
  · have : ¬ k = i := by omega
    rw [if_pos h1, if_neg this, if_pos h1]
  · rw [if_neg h1, if_neg h1]
@[simp] theorem setState_newB (h : FH) (l i : Nat) (cs : List Value) (s : LoopState) (pd : Option Code) (hne : l ≠ i) : setState (newB h i cs) l s pd = (setState h l s pd).map fun h' => newB h' i cs := by
  unfold setState
  rw [get_newB_ne _ _ _ _ hne]
  split
  · simp only [Option.map_some, newB]
    rw [set_comm _ _ _ _ _ (Ne.symm hne)]
  · rfl
@[simp] theorem setState_set_ne (h : FH) (l i : Nat) (b : ABlk) (s : LoopState) (pd : Option Code) (hne : l ≠ i) : setState (HeapC.set h i b) l s pd = (setState h l s pd).map fun h' => HeapC.set h' i b := by
  unfold setState
  rw [get_set_ne _ _ _ _ hne]
  split
  · simp only [Option.map_some]
    rw [set_comm _ _ _ _ _ (Ne.symm hne)]
  · rfl

@[simp] theorem gv_undef (w : Bool) : gv undef w = some false := rfl

end Go.Ab
