/- A part of the claim's proof: AbSym. Conditions: none. -/
import Derived.Test.YtdbiilapiloaiaaAbGc
/-! Rules for reading shallow texts over the plain heap. -/
set_option linter.all false
namespace Go.Ab
open Go
set_option linter.unusedVariables false
set_option linter.unusedSimpArgs false

variable {P : Program}

@[simp] theorem boolK_bool {β : Type} (t : Bool) (a b : Option β) : boolK (.bool t) a b = cond t a b := rfl
@[simp] theorem gv_bool (b w : Bool) : gv (.bool b) w = some (b == w) := rfl
@[simp] theorem ret1_v {H : Type} (h : H) (c : Nat) (v : Value) : ret1 h c (some v) = some (v, h, c) := rfl
@[simp] theorem pickV_bool (t : Bool) (a b : Value) : pickV (.bool t) a b = some (cond t a b) := rfl
@[simp] theorem pickR_bool {H : Type} (h : H) (c : Nat) (t : Bool) (a b : Value) : pickR h c (.bool t) a b = some (cond t a b, h, c) := rfl
@[simp] theorem exIs_nn : exIs .normal .normal = true := rfl
@[simp] theorem exIs_rr : exIs .ret .ret = true := rfl
@[simp] theorem exIs_nr : exIs .normal .ret = false := rfl
@[simp] theorem exIs_rn : exIs .ret .normal = false := rfl
@[simp] theorem exIs_ne (i : Nat) : exIs .normal (.exit i) = false := rfl
@[simp] theorem exIs_re (i : Nat) : exIs .ret (.exit i) = false := rfl
@[simp] theorem exIs_en (i : Nat) : exIs (.exit i) .normal = false := rfl
@[simp] theorem exIs_er (i : Nat) : exIs (.exit i) .ret = false := rfl
@[simp] theorem exIs_ee (i j : Nat) : exIs (.exit i) (.exit j) = decide (i = j) := by
  show Nat.beq i j = _
  rw [Bool.eq_iff_iff]; simp
@[simp] theorem v_zero {H : Type} (e : Ex) (v : Value) (vs : List Value) (h : H) (c : Nat) (df : List Nat) : Rt.v { e := e, vs := v :: vs, h := h, c := c, df := df } 0 = v := rfl
@[simp] theorem v_succ {H : Type} (e : Ex) (v : Value) (vs : List Value) (h : H) (c : Nat) (df : List Nat) (i : Nat) :
    Rt.v { e := e, vs := v :: vs, h := h, c := c, df := df } (i + 1) = Rt.v { e := e, vs := vs, h := h, c := c, df := df } i := rfl

/-! ### Arithmetic -/
@[simp] theorem aBinOp_lss (t : TypeId) (k : IntKind) (a b : Int) : aBinOp P .lss t (.int k a) (.int k b) = some (.bool (decide (a < b))) := by rw [aBinOp_eq]; simp [aBinOp0, intBin]
@[simp] theorem aBinOp_leq (t : TypeId) (k : IntKind) (a b : Int) : aBinOp P .leq t (.int k a) (.int k b) = some (.bool (decide (a ≤ b))) := by rw [aBinOp_eq]; simp [aBinOp0, intBin]
@[simp] theorem aBinOp_gtr (t : TypeId) (k : IntKind) (a b : Int) : aBinOp P .gtr t (.int k a) (.int k b) = some (.bool (decide (b < a))) := by rw [aBinOp_eq]; simp [aBinOp0, intBin]
@[simp] theorem aBinOp_geq (t : TypeId) (k : IntKind) (a b : Int) : aBinOp P .geq t (.int k a) (.int k b) = some (.bool (decide (b ≤ a))) := by rw [aBinOp_eq]; simp [aBinOp0, intBin]
@[simp] theorem aBinOp_eql (t : TypeId) (k : IntKind) (a b : Int) : aBinOp P .eql t (.int k a) (.int k b) = some (.bool (decide (a = b))) := by rw [aBinOp_eq]; simp only [aBinOp0, intBin, decide_true, cond_true]; congr
@[simp] theorem aBinOp_neq (t : TypeId) (k : IntKind) (a b : Int) : aBinOp P .neq t (.int k a) (.int k b) = some (.bool (!decide (a = b))) := by rw [aBinOp_eq]; simp only [aBinOp0, intBin, decide_true, cond_true]; congr
theorem aBinOp_add_wrap (t : TypeId) (a b : Int) : aBinOp P .add t (.int .i64 a) (.int .i64 b) = some (.int .i64 (IntKind.i64.wrap (a + b))) := by rw [aBinOp_eq]; simp [aBinOp0, intBin]
@[simp] theorem aBinOp_add (t : TypeId) (a b : Int) (h1 : -9223372036854775808 ≤ a + b) (h2 : a + b < 9223372036854775808) : aBinOp P .add t (.int .i64 a) (.int .i64 b) = some (.int .i64 (a + b)) := by
  rw [aBinOp_add_wrap, wrap_i64 h1 h2]
@[simp] theorem aBinOp_sub (t : TypeId) (a b : Int) (h1 : -9223372036854775808 ≤ a - b) (h2 : a - b < 9223372036854775808) : aBinOp P .sub t (.int .i64 a) (.int .i64 b) = some (.int .i64 (a - b)) := by
  rw [aBinOp_eq]; simp only [aBinOp0, intBin, decide_true, cond_true, wrap_i64 h1 h2]
@[simp] theorem aBinOp_mul (t : TypeId) (a b : Int) (h1 : -9223372036854775808 ≤ a * b) (h2 : a * b < 9223372036854775808) : aBinOp P .mul t (.int .i64 a) (.int .i64 b) = some (.int .i64 (a * b)) := by
  rw [aBinOp_eq]; simp only [aBinOp0, intBin, decide_true, cond_true, wrap_i64 h1 h2]
@[simp] theorem aBinOp_quo (t : TypeId) (a b : Int) (h : b ≠ 0) (h1 : -9223372036854775808 ≤ a.tdiv b) (h2 : a.tdiv b < 9223372036854775808) : aBinOp P .quo t (.int .i64 a) (.int .i64 b) = some (.int .i64 (a.tdiv b)) := by
  rw [aBinOp_eq]; simp only [aBinOp0, intBin, decide_true, cond_true, wrap_i64 h1 h2, h, decide_false, cond_false]
@[simp] theorem aBinOp_rem (t : TypeId) (a b : Int) (h : b ≠ 0) : aBinOp P .rem t (.int .i64 a) (.int .i64 b) = some (.int .i64 (a.tmod b)) := by
  rw [aBinOp_eq]; simp only [aBinOp0, intBin, decide_true, cond_true, h, decide_false, cond_false]
@[simp] theorem aUnOp_not (b : Bool) : aUnOp .not (.bool b) = some (.bool (!b)) := rfl
@[simp] theorem aUnOp_neg (a : Int) (h1 : -9223372036854775808 ≤ -a) (h2 : -a < 9223372036854775808) : aUnOp .neg (.int .i64 a) = some (.int .i64 (-a)) := by
  simp only [aUnOp, Int.zero_sub, wrap_i64 h1 h2]
@[simp] theorem cnvI_i64 (k : IntKind) (a : Int) (h1 : -9223372036854775808 ≤ a) (h2 : a < 9223372036854775808) : cnvI .i64 (.int k a) = some (.int .i64 a) := by simp only [cnvI, wrap_i64 h1 h2]
@[simp] theorem foldV_max (a b : Int) : foldV max2 [.int .i64 a, .int .i64 b] = some (.int .i64 (max a b)) := by
  simp only [foldV, List.foldlM, max2, decide_true, cond_true]
  show some (Value.int .i64 _) = _
  congr 2
  split <;> omega
@[simp] theorem foldV_min (a b : Int) : foldV min2 [.int .i64 a, .int .i64 b] = some (.int .i64 (min a b)) := by
  simp only [foldV, List.foldlM, min2, decide_true, cond_true]
  show some (Value.int .i64 _) = _
  congr 2
  split <;> omega

/-! ### Addresses -/
@[simp] theorem lenS_sl (a : Option Addr) (n k : Nat) : lenS (.slice a n k) = some (.int .i64 n) := rfl
@[simp] theorem addOff_ptrTo (i n : Nat) : addOff (ptrTo i) n = some (.pointer (some ⟨i, n, none⟩)) := by simp [addOff, ptrTo, asPtr]
@[simp] theorem addOff_ptr (i o n : Nat) : addOff (.pointer (some ⟨i, o, none⟩)) n = some (.pointer (some ⟨i, o + n, none⟩)) := rfl
@[simp] theorem nilCheck_ptrTo (i : Nat) : aNilCheck (ptrTo i) = some (ptrTo i) := rfl
@[simp] theorem nilCheck_ptr (i o : Nat) : aNilCheck (.pointer (some ⟨i, o, none⟩)) = some (.pointer (some ⟨i, o, none⟩)) := rfl
theorem aIdx_int {len : Nat} {k : IntKind} {i : Int} (h1 : 0 ≤ i) (h2 : i < (len : Int)) : aIdx len (.int k i) = some i.toNat := by
  unfold aIdx
  cases i with
  | ofNat m =>
    dsimp only
    have : Nat.blt m len = true := by rw [Nat.blt_eq]; simpa using h2
    rw [this]; rfl
  | negSucc m => simp at h1
@[simp] theorem ixA_ptrTo (len sz b : Nat) (k : IntKind) (i : Int) (h1 : 0 ≤ i) (h2 : i < (len : Int)) : ixA len sz (ptrTo b) (.int k i) = some (.pointer (some ⟨b, i.toNat * sz, none⟩)) := by
  simp [ixA, aIdx_int h1 h2]
@[simp] theorem ixA_ptr (len sz b o : Nat) (k : IntKind) (i : Int) (h1 : 0 ≤ i) (h2 : i < (len : Int)) : ixA len sz (.pointer (some ⟨b, o, none⟩)) (.int k i) = some (.pointer (some ⟨b, o + i.toNat * sz, none⟩)) := by
  simp [ixA, aIdx_int h1 h2]
@[simp] theorem ixS_sl (sz b o n cap : Nat) (k : IntKind) (i : Int) (h1 : 0 ≤ i) (h2 : i < (n : Int)) : ixS sz (.slice (some ⟨b, o, none⟩) n cap) (.int k i) = some (.pointer (some ⟨b, o + i.toNat * sz, none⟩)) := by
  simp [ixS, aIdx_int h1 h2]

/-! ### Memory -/
theorem FH.get_def (h : FH) (i : Nat) : HeapC.get h i = h.f i := rfl
@[simp] theorem get_newB_same (h : FH) (i : Nat) (cs : List Value) : HeapC.get (newB h i cs) i = some (.cells false none cs) := by simp [newB, HeapC.get_set]
@[simp] theorem get_newB_ne (h : FH) (i j : Nat) (cs : List Value) (hne : j ≠ i) : HeapC.get (newB h i cs) j = HeapC.get h j := by simp [newB, HeapC.get_set, hne]

theorem FH.ext {a b : FH} (h : ∀ i, a.f i = b.f i) : a = b := by
  cases a; cases b
  congr
  exact funext h

theorem newB_f (h : FH) (i : Nat) (cs : List Value) (j : Nat) : (newB h i cs).f j = if j = i then some (.cells false none cs) else h.f j := HeapC.get_set (H := FH) h i _ j

@[simp] theorem newB_newB (h : FH) (i : Nat) (a b : List Value) : newB (newB h i a) i b = newB h i b := by
  apply FH.ext
  intro j
  simp only [newB_f]
  split <;> rfl

theorem newB_comm (h : FH) (i j : Nat) (a b : List Value) (hne : i ≠ j) : newB (newB h i a) j b = newB (newB h j b) i a := by
  apply FH.ext
  intro k
  simp only [newB_f]
  by_cases h1 : k = j
  · have h2 : ¬ k = i := by omega
    rw [if_pos h1, if_neg h2, if_pos h1]
  · rw [if_neg h1, if_neg h1]

theorem newB_same (h : FH) (i : Nat) (cs : List Value) (hg : HeapC.get h i = some (.cells false none cs)) : newB h i cs = h := by
  apply FH.ext
  intro k
  rw [newB_f]
  split
  · rename_i e; rw [e]; exact hg.symm
  · rfl

/-- the block b holds the cells cs -/
def Holds (h : FH) (b : Nat) (cs : List Value) : Prop := ∃ ro op, HeapC.get h b = some (.cells ro op cs)

theorem Holds.newB_same (h : FH) (i : Nat) (cs : List Value) : Holds (newB h i cs) i cs := ⟨_, _, get_newB_same h i cs⟩
theorem Holds.newB_ne {h : FH} {i j : Nat} {cs ds : List Value} (hne : j ≠ i) (hh : Holds h j ds) : Holds (newB h i cs) j ds := by
  obtain ⟨ro, op, e⟩ := hh
  exact ⟨ro, op, by rw [get_newB_ne h i j cs hne]; exact e⟩

theorem ld1_holds {h : FH} {b o : Nat} {cs : List Value} {v : Value} (hh : Holds h b cs) (hv : cs[o]? = some v) : ld1 h (.pointer (some ⟨b, o, none⟩)) = some v := by
  obtain ⟨ro, op, e⟩ := hh
  simp [ld1, asPtr, rdCell, getCells, e, hv]
theorem ldN_holds {h : FH} {n b o : Nat} {cs : List Value} (hh : Holds h b cs) (hv : o + n ≤ cs.length) : ldN h n (.pointer (some ⟨b, o, none⟩)) = some (.agg ((cs.drop o).take n).toArray) := by
  obtain ⟨ro, op, e⟩ := hh
  have : Nat.ble (o + n) cs.length = true := Nat.ble_eq_true_of_le hv
  simp [ldN, asPtr, rdCells, getCells, e, this]

@[simp] theorem ld1_newB_same (h : FH) (i o : Nat) (cs : List Value) : ld1 (newB h i cs) (.pointer (some ⟨i, o, none⟩)) = cs[o]? := by simp [ld1, asPtr, rdCell, getCells]
@[simp] theorem ld1_newB_ne (h : FH) (i j o : Nat) (cs : List Value) (hne : j ≠ i) : ld1 (newB h i cs) (.pointer (some ⟨j, o, none⟩)) = ld1 h (.pointer (some ⟨j, o, none⟩)) := by simp [ld1, asPtr, rdCell, getCells, hne]
@[simp] theorem ld1_ptrTo (h : FH) (i : Nat) : ld1 h (ptrTo i) = ld1 h (.pointer (some ⟨i, 0, none⟩)) := rfl
@[simp] theorem ldN_ptrTo (h : FH) (n i : Nat) : ldN h n (ptrTo i) = ldN h n (.pointer (some ⟨i, 0, none⟩)) := rfl
@[simp] theorem ldN_newB_same (h : FH) (n i o : Nat) (cs : List Value) (hl : o + n ≤ cs.length) : ldN (newB h i cs) n (.pointer (some ⟨i, o, none⟩)) = some (.agg ((cs.drop o).take n).toArray) :=
  ldN_holds (Holds.newB_same h i cs) hl
@[simp] theorem ldN_newB_ne (h : FH) (n i j o : Nat) (cs : List Value) (hne : j ≠ i) : ldN (newB h i cs) n (.pointer (some ⟨j, o, none⟩)) = ldN h n (.pointer (some ⟨j, o, none⟩)) := by simp [ldN, asPtr, rdCells, getCells, hne]

theorem stN_newB_same (h : FH) (n i o : Nat) (cs : List Value) (x : Value) (h1 : x.cells.size = n) (h2 : o + n ≤ cs.length) (h3 : x.cells.toList.all isFlat = true) :
    stN (newB h i cs) n (.pointer (some ⟨i, o, none⟩)) x = some (newB h i (splice cs o x.cells.toList)) := by
  have a : Nat.beq x.cells.size n = true := by rw [h1]; exact Nat.beq_refl n
  have b : Nat.ble (o + x.cells.toList.length) cs.length = true := Nat.ble_eq_true_of_le (by simpa [h1] using h2)
  simp only [stN, asPtr, Option.bind_some, a, cond_true, wrCells, get_newB_same, b, h3, Bool.and_self]
  have := newB_newB h i cs (splice cs o x.cells.toList)
  simp only [newB] at this ⊢
  rw [this]
@[simp] theorem stN_newB_ne (h : FH) (n i j o : Nat) (cs : List Value) (x : Value) (hne : j ≠ i) :
    stN (newB h i cs) n (.pointer (some ⟨j, o, none⟩)) x = (stN h n (.pointer (some ⟨j, o, none⟩)) x).map fun h' => newB h' i cs := by
  simp only [stN, asPtr, Option.bind_some]
  cases Nat.beq x.cells.size n with
  | false => rfl
  | true =>
    simp only [cond_true, wrCells, get_newB_ne h i j cs hne]
    split
    · rename_i op c _
      cases Nat.ble (o + x.cells.toList.length) c.length && x.cells.toList.all isFlat with
      | false => rfl
      | true =>
        simp only [cond_true, Option.map_some]
        congr 1
        apply FH.ext
        intro k
        have g : ∀ (h : FH) (i : Nat) (b : ABlk) (k : Nat), (HeapC.set h i b).f k = if k = i then some b else h.f k := fun h i b k => HeapC.get_set (H := FH) h i b k
        simp only [newB_f, g]
        by_cases hk : k = j
        · have h2 : ¬ k = i := by omega
          rw [if_pos hk, if_neg h2, if_pos hk]
        · rw [if_neg hk, if_neg hk]
    · rfl
@[simp] theorem stN_ptrTo (h : FH) (n i : Nat) (x : Value) : stN h n (ptrTo i) x = stN h n (.pointer (some ⟨i, 0, none⟩)) x := rfl

/-! ### What is forgotten -/
theorem mrg_f (c : Nat) (h A : FH) (i : Nat) : (mrg c h A).f i = if i < 256 * c then h.f i else A.f i := rfl
@[simp] theorem mrg_self (c : Nat) (A : FH) : mrg c A A = A := by
  apply FH.ext; intro i; rw [mrg_f]; split <;> rfl
@[simp] theorem mrg_new (c : Nat) (h A : FH) (i : Nat) (cs : List Value) (hi : 256 * c ≤ i) : mrg c (newB h i cs) A = mrg c h A := by
  apply FH.ext; intro j
  rw [mrg_f, mrg_f, newB_f]
  split
  · rw [if_neg (by omega)]
  · rfl
@[simp] theorem mrg_old (c : Nat) (h A : FH) (i : Nat) (cs : List Value) (hi : i < 256 * c) : mrg c (newB h i cs) A = newB (mrg c h A) i cs := by
  apply FH.ext; intro j
  simp only [mrg_f, newB_f]
  by_cases e : j = i
  · rw [if_pos e, if_pos e, if_pos (by omega)]
  · rw [if_neg e, if_neg e]

theorem GcH.refl (c : Nat) (A : FH) : GcH c A A := fun _ _ => .inl rfl
theorem GcH.new {c i : Nat} {h A : FH} {cs : List Value} (hi : 256 * c ≤ i) (hh : GcH c h A) : GcH c (newB h i cs) A := by
  intro j hj
  rw [newB_f, if_neg (by omega)]
  exact hh j hj
theorem GcH.old {c i : Nat} {h A : FH} {cs : List Value} (hc : OkVs c cs) (hh : GcH c h A) : GcH c (newB h i cs) A := by
  intro j hj
  rw [newB_f]
  split
  · exact .inr hc
  · exact hh j hj

/-- integers, as values -/
def ints (l : List Int) : List Value := l.map (.int .i64)
@[simp] theorem ints_length (l : List Int) : (ints l).length = l.length := by simp [ints]
theorem ints_get (l : List Int) (i : Nat) : (ints l)[i]? = l[i]?.map (.int .i64) := by simp [ints]
theorem ints_flat (l : List Int) : (ints l).all isFlat = true := by simp [ints, isFlat]
theorem OkVs.ints (c : Nat) (l : List Int) : OkVs c (ints l) := by
  intro v hv
  obtain ⟨n, _, rfl⟩ := List.mem_map.1 hv
  exact OkV.int c _ n
theorem ints_drop (l : List Int) (n : Nat) : (ints l).drop n = ints (l.drop n) := by simp [ints]
theorem ints_take (l : List Int) (n : Nat) : (ints l).take n = ints (l.take n) := by simp [ints]
theorem ints_append (l m : List Int) : ints l ++ ints m = ints (l ++ m) := by simp [ints]
theorem ints_set (l : List Int) (i : Nat) (x : Int) : (ints l).set i (.int .i64 x) = ints (l.set i x) := by simp [ints, List.map_set]
theorem splice_one (cs : List Value) (o : Nat) (v : Value) (h : o < cs.length) : splice cs o [v] = cs.set o v := by
  unfold splice
  rw [List.set_eq_take_append_cons_drop, if_pos h]
  simp

@[simp] theorem ints_getElem (l : List Int) (i : Nat) (h : i < (ints l).length) : (ints l)[i] = .int .i64 (l[i]'(by simpa using h)) := by simp [ints]

/-! ### Arrays of integers as values -/
def av (l : List Int) : Value := .agg (ints l).toArray
theorem av_flat (l : List Int) : (av l).cells.toList.all isFlat = true := by simp [av, Value.cells, ints, isFlat]
theorem av_cells (l : List Int) : (av l).cells.toList = ints l := by simp [av, Value.cells]
theorem av_size (l : List Int) : (av l).cells.size = l.length := by simp [av, Value.cells]
theorem OkV.av (c : Nat) (l : List Int) : OkV c (av l) := OkV.agg (OkVs.ints c l)
theorem ixV_av (l : List Int) (len : Nat) (k : IntKind) (i : Int) (h1 : 0 ≤ i) (h2 : i < (len : Int)) (h3 : l.length = len) : ixV len false 1 (av l) (.int k i) = some (.int .i64 (l.getD i.toNat 0)) := by
  have h4 : i.toNat < l.length := by omega
  have h5 : (ints l)[i.toNat * 1]? = some (.int .i64 (l.getD i.toNat 0)) := by rw [Nat.mul_one, ints_get, List.getElem?_eq_getElem h4]; simp [List.getD, List.getElem?_eq_getElem h4]
  simp only [ixV, av, aggL, Option.bind_some, aIdx_int h1 h2, partN, cond_false, List.toList_toArray]
  exact h5
theorem ixV_avs (l : List Int) (len sz : Nat) (k : IntKind) (i : Int) (h1 : 0 ≤ i) (h2 : i < (len : Int)) (h3 : l.length = len * sz) : ixV len true sz (av l) (.int k i) = some (av ((l.drop (i.toNat * sz)).take sz)) := by
  have h4 : i.toNat < len := by omega
  have h5 : i.toNat * sz + sz ≤ len * sz := by have := Nat.mul_le_mul_right sz (Nat.succ_le_of_lt h4); rw [Nat.succ_mul] at this; exact this
  have h6 : Nat.ble (i.toNat * sz + sz) (ints l).length = true := Nat.ble_eq_true_of_le (by simpa [h3] using h5)
  simp only [ixV, av, aggL, Option.bind_some, aIdx_int h1 h2, partN, cond_true, List.toList_toArray, h6, ints_drop, ints_take]

/-! ### What lies below the counter -/
def Same (c : Nat) (h h' : FH) : Prop := ∀ i, i < 256 * c → h'.f i = h.f i
theorem Same.refl (c : Nat) (h : FH) : Same c h h := fun _ _ => rfl
theorem Same.newB {c i : Nat} {h h' : FH} {cs : List Value} (hi : 256 * c ≤ i) (hh : Same c h h') : Same c h (newB h' i cs) := by
  intro j hj
  rw [newB_f, if_neg (by omega)]
  exact hh j hj
theorem set_f (h : FH) (i : Nat) (b : ABlk) (j : Nat) : (HeapC.set h i b).f j = if j = i then some b else h.f j := HeapC.get_set (H := FH) h i b j
theorem del_f (h : FH) (i : Nat) (j : Nat) : (HeapC.del h i).f j = if j = i then none else h.f j := HeapC.get_del (H := FH) h i j
theorem Same.set {c i : Nat} {h h' : FH} {b : ABlk} (hi : 256 * c ≤ i) (hh : Same c h h') : Same c h (HeapC.set h' i b) := by
  intro j hj
  rw [set_f, if_neg (by omega)]
  exact hh j hj
theorem Same.mono {c c' : Nat} {h h' : FH} (hc : c ≤ c') (hh : Same c' h h') : Same c h h' := fun i hi => hh i (by omega)
theorem Same.trans {c : Nat} {a b d : FH} (h : Same c a b) (k : Same c b d) : Same c a d := fun i hi => (k i hi).trans (h i hi)

/-- s reads n elements of sz integers each, all blocks below c -/
def SlI (h : FH) (c : Nat) (s : Value) (sz n : Nat) (G : List Int) : Prop :=
  G.length = n * sz ∧ n ≤ 9223372036854775807 ∧ ∃ a cap, s = .slice a n cap ∧ (n = 0 ∧ OkV c s ∨ ∃ b o cs, a = some ⟨b, o, none⟩ ∧ b < 256 * c ∧ Holds h b cs ∧ (cs.drop o).take (n * sz) = ints G)

theorem SlI.same {h h' : FH} {c : Nat} {s : Value} {sz n : Nat} {G : List Int} (hs : SlI h c s sz n G) (hh : Same c h h') : SlI h' c s sz n G := by
  obtain ⟨h1, h2, a, cap, h3, h4⟩ := hs
  refine ⟨h1, h2, a, cap, h3, h4.imp id ?_⟩
  rintro ⟨b, o, cs, e1, e2, ⟨ro, op, e3⟩, e4⟩
  exact ⟨b, o, cs, e1, e2, ⟨ro, op, (hh b e2).trans e3⟩, e4⟩
theorem SlI.mono {h : FH} {c c' : Nat} {s : Value} {sz n : Nat} {G : List Int} (hs : SlI h c s sz n G) (hc : c ≤ c') : SlI h c' s sz n G := by
  obtain ⟨h1, h2, a, cap, h3, h4⟩ := hs
  refine ⟨h1, h2, a, cap, h3, ?_⟩
  rcases h4 with ⟨e, v', hv⟩ | ⟨b, o, cs, e1, e2, e3, e4⟩
  · refine .inl ⟨e, ?_⟩
    subst h3
    cases a with
    | none => exact OkV.sl0 _ _ _
    | some a =>
      cases hv with
      | sl h _ _ => exact OkV.sl (by have := nuD_dom (c := c) (i := _) (by rw [h]; simp); omega)
      | slE h => exact OkV.sl (by have := nuD_dom (c := c) (i := _) (by rw [h]; simp); omega)
  · exact .inr ⟨b, o, cs, e1, by omega, e3, e4⟩
theorem SlI.okV {h : FH} {c : Nat} {s : Value} {sz n : Nat} {G : List Int} (hs : SlI h c s sz n G) : OkV c s := by
  obtain ⟨h1, h2, a, cap, rfl, h4⟩ := hs
  rcases h4 with ⟨e, hv⟩ | ⟨b, o, cs, rfl, e2, e3, e4⟩
  · exact hv
  · exact OkV.sl e2
theorem SlI.len {h : FH} {c : Nat} {s : Value} {sz n : Nat} {G : List Int} (hs : SlI h c s sz n G) : lenS s = some (.int .i64 n) := by
  obtain ⟨h1, h2, a, cap, rfl, h4⟩ := hs
  rfl
/-- an element's address, and what lies there -/
theorem SlI.ix {h : FH} {c : Nat} {s : Value} {sz n : Nat} {G : List Int} (hs : SlI h c s sz n G) (k : IntKind) (i : Int) (h1 : 0 ≤ i) (h2 : i < (n : Int)) :
    ∃ b o cs, ixS sz s (.int k i) = some (.pointer (some ⟨b, o + i.toNat * sz, none⟩)) ∧ b < 256 * c ∧ Holds h b cs ∧ (cs.drop o).take (n * sz) = ints G := by
  obtain ⟨g1, g2, a, cap, rfl, h4⟩ := hs
  rcases h4 with ⟨e, hv⟩ | ⟨b, o, cs, rfl, e2, e3, e4⟩
  · omega
  · exact ⟨b, o, cs, ixS_sl sz b o n cap k i h1 h2, e2, e3, e4⟩

theorem win_get {cs : List Value} {o m : Nat} {G : List Int} (e : (cs.drop o).take m = ints G) {j : Nat} (hj : j < G.length) : cs[o + j]? = some (.int .i64 (G.getD j 0)) := by
  have h1 : ((cs.drop o).take m)[j]? = some (.int .i64 (G.getD j 0)) := by
    rw [e, ints_get, List.getElem?_eq_getElem hj]; simp [List.getD, List.getElem?_eq_getElem hj]
  have hjm : j < m := by
    have := (List.getElem?_eq_some_iff.1 h1).1
    simp at this; omega
  rw [List.getElem?_take_of_lt hjm, List.getElem?_drop] at h1
  exact h1
theorem win_len {cs : List Value} {o m : Nat} {G : List Int} (e : (cs.drop o).take m = ints G) (h : 0 < G.length) : o + G.length ≤ cs.length := by
  have := congrArg List.length e
  simp at this; omega
theorem win_sub {cs : List Value} {o m : Nat} {G : List Int} (e : (cs.drop o).take m = ints G) {j q : Nat} (hj : j + q ≤ G.length) : (cs.drop (o + j)).take q = ints ((G.drop j).take q) := by
  rw [← ints_take, ← ints_drop, ← e, List.drop_take, List.drop_drop, List.take_take]
  have hm : G.length ≤ m := by have := congrArg List.length e; simp at this; omega
  congr 1
  omega
theorem ld1_win {h : FH} {b o m : Nat} {cs : List Value} {G : List Int} (hh : Holds h b cs) (e : (cs.drop o).take m = ints G) {j : Nat} (hj : j < G.length) : ld1 h (.pointer (some ⟨b, o + j, none⟩)) = some (.int .i64 (G.getD j 0)) :=
  ld1_holds hh (win_get e hj)
theorem ldN_win {h : FH} {b o m q : Nat} {cs : List Value} {G : List Int} (hh : Holds h b cs) (e : (cs.drop o).take m = ints G) {j : Nat} (hj : j + q ≤ G.length) (hq : 0 < q) : ldN h q (.pointer (some ⟨b, o + j, none⟩)) = some (av ((G.drop j).take q)) := by
  have := win_len e (by omega)
  rw [ldN_holds hh (by omega), win_sub e hj]
  rfl

theorem gcR_same {A : FH} {c : Nat} {df : List Nat} {e : Ex} {vs : List Value} {c' : Nat} (h1 : OkVs c vs) : gcR A c df { e := e, vs := vs, h := A, c := c', df := df } = { e := e, vs := vs, h := A, c := c, df := df } := by
  rw [gcR_of h1 (GcH.refl c A), mrg_self]

theorem callF_of {o : Orc FH} {g : FuncId} {args : List Value} {h h' : FH} {c c' : Nat} {v : Value} {e : Ex} {df : List Nat} (e1 : o (.fn g) args h c [] = some { e := e, vs := [v], h := h', c := c', df := df }) : callF o g args h c = some (v, h', c') := by
  simp only [callF, e1, Option.bind_some]

attribute [simp] OkV.bool OkV.int OkV.str OkV.ptr0 OkV.sl0 OkV.map0 OkV.nilFunc OkVs.nil OkVs.cons_iff OkV.av OkVs.ints OkV.ptr OkV.ptrTo OkV.sl OkV.map GcH.refl av_flat av_cells av_size

/-- x answers, and Q holds of the answer -/
def Ans {α : Type} (x : Option α) (Q : α → Prop) : Prop := ∃ r, x = some r ∧ Q r
theorem Ans.intro {α : Type} {x : Option α} {Q : α → Prop} {r : α} (h : x = some r) (hq : Q r) : Ans x Q := ⟨r, h, hq⟩
theorem Ans.mono {α : Type} {x : Option α} {Q Q' : α → Prop} (h : Ans x Q) (hq : ∀ r, Q r → Q' r) : Ans x Q' := let ⟨r, a, b⟩ := h; ⟨r, a, hq r b⟩

@[simp] theorem Ans_some {α : Type} {r : α} {Q : α → Prop} : Ans (some r) Q ↔ Q r := ⟨fun ⟨_, e, h⟩ => by cases e; exact h, fun h => ⟨r, rfl, h⟩⟩
theorem Ans.eq {α : Type} {x : Option α} {r : α} (h : Ans x (fun q => q = r)) : x = some r := by
  obtain ⟨q, e, rfl⟩ := h
  exact e

theorem gcR_pure {A h : FH} {c : Nat} {df : List Nat} {e : Ex} {vs : List Value} {c' : Nat} (h1 : OkVs c vs) (h2 : Same c A h) : gcR A c df { e := e, vs := vs, h := h, c := c', df := df } = { e := e, vs := vs, h := A, c := c, df := df } := by
  rw [gcR_of h1 (fun i hi => .inl (h2 i hi))]
  have : mrg c h A = A := by
    apply FH.ext
    intro i
    rw [mrg_f]
    split
    · rename_i hi; exact h2 i hi
    · rfl
  rw [this]

/-- a call that leaves what was there alone, and returns nothing that it has laid -/
theorem pure_of {X S : Option (Rt FH)} {h : FH} {c : Nat} {v : Value} (hgo : ∀ r, S = some r → X = some (gcR h c [] r)) (hv : OkV c v) (hS : Ans S (fun r => r.e = .ret ∧ r.vs = [v] ∧ Same c h r.h ∧ r.df = [])) :
    X = some { e := .ret, vs := [v], h := h, c := c, df := [] } := by
  obtain ⟨⟨re, rv, rh, rc, rd⟩, e, h1, h2, h3, h4⟩ := hS
  simp only at h1 h2 h3 h4
  subst h1 h2 h4
  rw [hgo _ e, gcR_pure (OkVs.cons hv (OkVs.nil c)) h3]

attribute [simp] Same.refl
@[simp] theorem Same_newB {c i : Nat} {h h' : FH} {cs : List Value} (hi : 256 * c ≤ i) : Same c h (newB h' i cs) ↔ Same c h h' := by
  refine ⟨fun hh j hj => ?_, fun hh => hh.newB hi⟩
  have := hh j hj
  rw [newB_f, if_neg (by omega)] at this
  exact this
@[simp] theorem Same_set {c i : Nat} {h h' : FH} {b : ABlk} (hi : 256 * c ≤ i) : Same c h (HeapC.set h' i b) ↔ Same c h h' := by
  refine ⟨fun hh j hj => ?_, fun hh => hh.set hi⟩
  have := hh j hj
  rw [set_f, if_neg (by omega)] at this
  exact this

attribute [simp] ints_flat ints_take ints_drop
@[simp] theorem agg_ints (l : List Int) : Value.agg (ints l).toArray = av l := rfl
@[simp] theorem takeAll_nil {H : Type} [HeapC H] (h : H) : takeAll h [] = some h := rfl

/-- B is A but for blocks below the counter that name nothing new -/
def Upto (c : Nat) (A B : FH) : Prop := ∀ i, (256 * c ≤ i → B.f i = A.f i) ∧ (i < 256 * c → B.f i = A.f i ∨ OkB c (B.f i))
@[simp] theorem Upto.refl (c : Nat) (A : FH) : Upto c A A := fun _ => ⟨fun _ => rfl, fun _ => .inl rfl⟩
theorem Upto.old {c b : Nat} {A B : FH} {cs : List Value} (hb : b < 256 * c) (hc : OkVs c cs) (h : Upto c A B) : Upto c A (newB B b cs) := by
  intro i
  rw [newB_f]
  refine ⟨fun hi => ?_, fun hi => ?_⟩
  · rw [if_neg (by omega)]; exact (h i).1 hi
  · split
    · exact .inr hc
    · exact (h i).2 hi
theorem Upto.both {c b : Nat} {A B : FH} {ds cs : List Value} (hc : OkVs c cs) (h : Upto c A B) (hb : b < 256 * c) : Upto c (newB A b ds) (newB B b cs) := by
  intro i
  rw [newB_f, newB_f]
  refine ⟨fun hi => ?_, fun hi => ?_⟩
  · rw [if_neg (by omega), if_neg (by omega)]; exact (h i).1 hi
  · by_cases e : i = b
    · rw [if_pos e]; exact .inr hc
    · rw [if_neg e, if_neg e]; exact (h i).2 hi
theorem gcR_to {A h B : FH} {c : Nat} {df : List Nat} {e : Ex} {vs : List Value} {c' : Nat} (h1 : OkVs c vs) (h2 : Same c B h) (h3 : Upto c A B) : gcR A c df { e := e, vs := vs, h := h, c := c', df := df } = { e := e, vs := vs, h := B, c := c, df := df } := by
  rw [gcR_of h1 (fun i hi => by rw [h2 i hi]; exact (h3 i).2 hi)]
  have : mrg c h A = B := by
    apply FH.ext
    intro i
    rw [mrg_f]
    split
    · rename_i hi; exact h2 i hi
    · exact ((h3 i).1 (by omega)).symm
  rw [this]
theorem gcR_upd {h : FH} {b c : Nat} {df : List Nat} {e : Ex} {vs cs cs' : List Value} {c' : Nat} (hb : b < 256 * c) (h1 : OkVs c vs) (h2 : OkVs c cs') :
    gcR (newB h b cs) c df { e := e, vs := vs, h := newB h b cs', c := c', df := df } = { e := e, vs := vs, h := newB h b cs', c := c, df := df } :=
  gcR_to h1 (Same.refl _ _) (Upto.both h2 (Upto.refl _ _) hb)

theorem ints_cons (a : Int) (l : List Int) : ints (a :: l) = .int .i64 a :: ints l := rfl
theorem ints_nil : ints [] = [] := rfl
@[simp] theorem st1_int (h : FH) (i o : Nat) (cs : List Value) (k : IntKind) (x : Int) (ho : o < cs.length) : stN (newB h i cs) 1 (.pointer (some ⟨i, o, none⟩)) (.int k x) = some (newB h i (cs.set o (.int k x))) := by
  rw [stN_newB_same h 1 i o cs (.int k x) rfl (by omega) rfl]
  show some (newB h i (splice cs o [.int k x])) = _
  rw [splice_one cs o _ ho]
@[simp] theorem st1_bool (h : FH) (i o : Nat) (cs : List Value) (x : Bool) (ho : o < cs.length) : stN (newB h i cs) 1 (.pointer (some ⟨i, o, none⟩)) (.bool x) = some (newB h i (cs.set o (.bool x))) := by
  rw [stN_newB_same h 1 i o cs (.bool x) rfl (by omega) rfl]
  show some (newB h i (splice cs o [.bool x])) = _
  rw [splice_one cs o _ ho]
@[simp] theorem ints_set' (l : List Int) (i : Nat) (x : Int) : (ints l).set i (.int .i64 x) = ints (l.set i x) := ints_set l i x
@[simp] theorem stN_all (h : FH) (i n : Nat) (cs : List Value) (l : List Int) (h1 : l.length = n) (h2 : cs.length = n) : stN (newB h i cs) n (.pointer (some ⟨i, 0, none⟩)) (av l) = some (newB h i (ints l)) := by
  rw [stN_newB_same h n i 0 cs (av l) (by simp [h1]) (by omega) (by simp)]
  simp only [av_cells, splice, List.take_zero, List.nil_append, Nat.zero_add, ints_length]
  rw [List.drop_of_length_le (by omega), List.append_nil]

@[simp] theorem isFlat_int (k : IntKind) (n : Int) : isFlat (.int k n) = true := rfl
@[simp] theorem isFlat_bool (n : Bool) : isFlat (.bool n) = true := rfl
@[simp] theorem isFlat_sl (a : Option Addr) (n k : Nat) : isFlat (.slice a n k) = true := rfl
@[simp] theorem isFlat_ptr (a : Option Addr) : isFlat (.pointer a) = true := rfl
theorem ld1_ints (h : FH) (i o : Nat) (l : List Int) (ho : o < l.length) : ld1 (newB h i (ints l)) (.pointer (some ⟨i, o, none⟩)) = some (.int .i64 (l.getD o 0)) := by
  rw [ld1_newB_same, ints_get, List.getElem?_eq_getElem ho]; simp [List.getD, List.getElem?_eq_getElem ho]
theorem bld4 (a b c d : Int) : bldV [(.int .i64 0), (.int .i64 0), (.int .i64 0), (.int .i64 0)] [(0, 1, .int .i64 a), (1, 1, .int .i64 b), (2, 1, .int .i64 c), (3, 1, .int .i64 d)] = some (av [a, b, c, d]) := (rfl)
theorem bld2 (a b : Int) : bldV [(.int .i64 0), (.int .i64 0)] [(0, 1, .int .i64 a), (1, 1, .int .i64 b)] = some (av [a, b]) := (rfl)
theorem bld5 (a : Int) (p : List Int) (hp : p.length = 4) : bldV [(.int .i64 0), (.int .i64 0), (.int .i64 0), (.int .i64 0), (.int .i64 0)] [(0, 1, .int .i64 a), (1, 4, av p)] = some (av (a :: p)) := by
  match p, hp with
  | [a, b, c, d], _ => rfl

/-! ### Step by step -/
theorem Ans.step {α β : Type} {x : Option α} {v : α} {f : α → Option β} {Q : β → Prop} (h : x = some v) (k : Ans (f v) Q) : Ans (x.bind f) Q := by rw [h]; exact k
theorem Ans.bt {β : Type} {v : Value} {x y : Option β} {Q : β → Prop} (h : v = .bool true) (k : Ans x Q) : Ans (boolK v x y) Q := by rw [h]; exact k
theorem Ans.bf {β : Type} {v : Value} {x y : Option β} {Q : β → Prop} (h : v = .bool false) (k : Ans y Q) : Ans (boolK v x y) Q := by rw [h]; exact k
theorem Ans.ct {β : Type} {b : Bool} {x y : Option β} {Q : β → Prop} (h : b = true) (k : Ans x Q) : Ans (cond b x y) Q := by rw [h]; exact k
theorem Ans.cf {β : Type} {b : Bool} {x y : Option β} {Q : β → Prop} (h : b = false) (k : Ans y Q) : Ans (cond b x y) Q := by rw [h]; exact k
theorem Ans.done {α : Type} {r : α} {Q : α → Prop} (h : Q r) : Ans (some r) Q := ⟨r, rfl, h⟩
theorem Ans.head {α β : Type} {x : Option α} {f : α → Option β} {Q : β → Prop} {R : α → Prop} (h : Ans x R) (k : ∀ a, R a → Ans (f a) Q) : Ans (x.bind f) Q := by
  obtain ⟨a, e, hr⟩ := h
  exact Ans.step e (k a hr)

@[simp] theorem ints_getD (l : List Int) (o : Nat) (h : o < l.length) : (ints l)[o]? = some (.int .i64 (l.getD o 0)) := by
  rw [ints_get, List.getElem?_eq_getElem h]; simp [List.getD, List.getElem?_eq_getElem h]

end Go.Ab
