/- Parts of a proof: AbSym AbX AbPerm AbGlue C1 AbRng C2 C3 C4 AbAuto AbGo AbPm AbRn AbRow AbSub N1 AbMat U1 AbGrow AbUf U2 U3 N2. Conditions: none. -/
import Derived.Test.YtcnndelmnobigaaM2
import Derived.KernelRfl
import Derived.Test.YtcnndelmnobigaaM3
import Derived.ProofKit
set_option linter.all false
namespace Go.Ab
open Go
set_option linter.unusedVariables false
set_option linter.unusedSimpArgs false
variable {P : Program}
@[simp] theorem boolK_bool {β : Type} (t : Bool) (a b : Option β) : boolK (.bool t) a b = cond t a b := rfl
@[simp] theorem gv_bool (b w : Bool) : gv (.bool b) w = some (b == w) := rfl
@[simp] theorem ret1_v {H : Type} (h : H) (c : Nat) (v : Value) : ret1 h c (some v) = some (v, h, c) := rfl
@[simp] theorem pickV_bool (t : Bool) (a b : Value) : pickV (.bool t) a b = some (cond t a b) := rfl
@[simp] theorem pickR_bool {H : Type} (h : H) (c : Nat) (t : Bool) (a b : Value) : pickR h c (.bool t) a b = some (cond t a b, h, c) := rfl
@[simp] theorem exIs_nn : exIs .normal .normal = true := rfl
@[simp] theorem exIs_rr : exIs .ret .ret = true := rfl
@[simp] theorem exIs_nr : exIs .normal .ret = false := rfl
@[simp] theorem exIs_rn : exIs .ret .normal = false := rfl
@[simp] theorem exIs_ne (i : Nat) : exIs .normal (.exit i) = false := rfl
@[simp] theorem exIs_re (i : Nat) : exIs .ret (.exit i) = false := rfl
@[simp] theorem exIs_en (i : Nat) : exIs (.exit i) .normal = false := rfl
@[simp] theorem exIs_er (i : Nat) : exIs (.exit i) .ret = false := rfl
@[simp] theorem exIs_ee (i j : Nat) : exIs (.exit i) (.exit j) = decide (i = j) := by
  show Nat.beq i j = _
  rw [Bool.eq_iff_iff]; simp
@[simp] theorem v_zero {H : Type} (e : Ex) (v : Value) (vs : List Value) (h : H) (c : Nat) (df : List Nat) : Rt.v { e := e, vs := v :: vs, h := h, c := c, df := df } 0 = v := rfl
@[simp] theorem v_succ {H : Type} (e : Ex) (v : Value) (vs : List Value) (h : H) (c : Nat) (df : List Nat) (i : Nat) :
    Rt.v { e := e, vs := v :: vs, h := h, c := c, df := df } (i + 1) = Rt.v { e := e, vs := vs, h := h, c := c, df := df } i := rfl
@[simp] theorem aBinOp_lss (t : TypeId) (k : IntKind) (a b : Int) : aBinOp P .lss t (.int k a) (.int k b) = some (.bool (decide (a < b))) := by rw [aBinOp_eq]; simp [aBinOp0, intBin]
@[simp] theorem aBinOp_leq (t : TypeId) (k : IntKind) (a b : Int) : aBinOp P .leq t (.int k a) (.int k b) = some (.bool (decide (a ≤ b))) := by rw [aBinOp_eq]; simp [aBinOp0, intBin]
@[simp] theorem aBinOp_gtr (t : TypeId) (k : IntKind) (a b : Int) : aBinOp P .gtr t (.int k a) (.int k b) = some (.bool (decide (b < a))) := by rw [aBinOp_eq]; simp [aBinOp0, intBin]
@[simp] theorem aBinOp_geq (t : TypeId) (k : IntKind) (a b : Int) : aBinOp P .geq t (.int k a) (.int k b) = some (.bool (decide (b ≤ a))) := by rw [aBinOp_eq]; simp [aBinOp0, intBin]
@[simp] theorem aBinOp_eql (t : TypeId) (k : IntKind) (a b : Int) : aBinOp P .eql t (.int k a) (.int k b) = some (.bool (decide (a = b))) := by rw [aBinOp_eq]; simp only [aBinOp0, intBin, decide_true, cond_true]; congr
@[simp] theorem aBinOp_neq (t : TypeId) (k : IntKind) (a b : Int) : aBinOp P .neq t (.int k a) (.int k b) = some (.bool (!decide (a = b))) := by rw [aBinOp_eq]; simp only [aBinOp0, intBin, decide_true, cond_true]; congr
theorem aBinOp_add_wrap (t : TypeId) (a b : Int) : aBinOp P .add t (.int .i64 a) (.int .i64 b) = some (.int .i64 (IntKind.i64.wrap (a + b))) := by rw [aBinOp_eq]; simp [aBinOp0, intBin]
@[simp] theorem aBinOp_add (t : TypeId) (a b : Int) (h1 : -9223372036854775808 ≤ a + b) (h2 : a + b < 9223372036854775808) : aBinOp P .add t (.int .i64 a) (.int .i64 b) = some (.int .i64 (a + b)) := by
  rw [aBinOp_add_wrap, wrap_i64 h1 h2]
@[simp] theorem aBinOp_sub (t : TypeId) (a b : Int) (h1 : -9223372036854775808 ≤ a - b) (h2 : a - b < 9223372036854775808) : aBinOp P .sub t (.int .i64 a) (.int .i64 b) = some (.int .i64 (a - b)) := by
  rw [aBinOp_eq]; simp only [aBinOp0, intBin, decide_true, cond_true, wrap_i64 h1 h2]
@[simp] theorem aBinOp_mul (t : TypeId) (a b : Int) (h1 : -9223372036854775808 ≤ a * b) (h2 : a * b < 9223372036854775808) : aBinOp P .mul t (.int .i64 a) (.int .i64 b) = some (.int .i64 (a * b)) := by
  rw [aBinOp_eq]; simp only [aBinOp0, intBin, decide_true, cond_true, wrap_i64 h1 h2]
@[simp] theorem aBinOp_quo (t : TypeId) (a b : Int) (h : b ≠ 0) (h1 : -9223372036854775808 ≤ a.tdiv b) (h2 : a.tdiv b < 9223372036854775808) : aBinOp P .quo t (.int .i64 a) (.int .i64 b) = some (.int .i64 (a.tdiv b)) := by
  rw [aBinOp_eq]; simp only [aBinOp0, intBin, decide_true, cond_true, wrap_i64 h1 h2, h, decide_false, cond_false]
@[simp] theorem aBinOp_rem (t : TypeId) (a b : Int) (h : b ≠ 0) : aBinOp P .rem t (.int .i64 a) (.int .i64 b) = some (.int .i64 (a.tmod b)) := by
  rw [aBinOp_eq]; simp only [aBinOp0, intBin, decide_true, cond_true, h, decide_false, cond_false]
@[simp] theorem aUnOp_not (b : Bool) : aUnOp .not (.bool b) = some (.bool (!b)) := rfl
@[simp] theorem aUnOp_neg (a : Int) (h1 : -9223372036854775808 ≤ -a) (h2 : -a < 9223372036854775808) : aUnOp .neg (.int .i64 a) = some (.int .i64 (-a)) := by
  simp only [aUnOp, Int.zero_sub, wrap_i64 h1 h2]
@[simp] theorem cnvI_i64 (k : IntKind) (a : Int) (h1 : -9223372036854775808 ≤ a) (h2 : a < 9223372036854775808) : cnvI .i64 (.int k a) = some (.int .i64 a) := by simp only [cnvI, wrap_i64 h1 h2]
@[simp] theorem foldV_max (a b : Int) : foldV max2 [.int .i64 a, .int .i64 b] = some (.int .i64 (max a b)) := by
  simp only [foldV, List.foldlM, max2, decide_true, cond_true]
  show some (Value.int .i64 _) = _
  congr 2
  split <;> omega
@[simp] theorem foldV_min (a b : Int) : foldV min2 [.int .i64 a, .int .i64 b] = some (.int .i64 (min a b)) := by
  simp only [foldV, List.foldlM, min2, decide_true, cond_true]
  show some (Value.int .i64 _) = _
  congr 2
  split <;> omega
@[simp] theorem lenS_sl (a : Option Addr) (n k : Nat) : lenS (.slice a n k) = some (.int .i64 n) := rfl
@[simp] theorem addOff_ptrTo (i n : Nat) : addOff (ptrTo i) n = some (.pointer (some ⟨i, n, none⟩)) := by simp [addOff, ptrTo, asPtr]
@[simp] theorem addOff_ptr (i o n : Nat) : addOff (.pointer (some ⟨i, o, none⟩)) n = some (.pointer (some ⟨i, o + n, none⟩)) := rfl
@[simp] theorem nilCheck_ptrTo (i : Nat) : aNilCheck (ptrTo i) = some (ptrTo i) := rfl
@[simp] theorem nilCheck_ptr (i o : Nat) : aNilCheck (.pointer (some ⟨i, o, none⟩)) = some (.pointer (some ⟨i, o, none⟩)) := rfl
theorem aIdx_int {len : Nat} {k : IntKind} {i : Int} (h1 : 0 ≤ i) (h2 : i < (len : Int)) : aIdx len (.int k i) = some i.toNat := by
  unfold aIdx
  cases i with
  | ofNat m =>
    dsimp only
    have : Nat.blt m len = true := by rw [Nat.blt_eq]; simpa using h2
    rw [this]; rfl
  | negSucc m => simp at h1
@[simp] theorem ixA_ptrTo (len sz b : Nat) (k : IntKind) (i : Int) (h1 : 0 ≤ i) (h2 : i < (len : Int)) : ixA len sz (ptrTo b) (.int k i) = some (.pointer (some ⟨b, i.toNat * sz, none⟩)) := by
  simp [ixA, aIdx_int h1 h2]
@[simp] theorem ixA_ptr (len sz b o : Nat) (k : IntKind) (i : Int) (h1 : 0 ≤ i) (h2 : i < (len : Int)) : ixA len sz (.pointer (some ⟨b, o, none⟩)) (.int k i) = some (.pointer (some ⟨b, o + i.toNat * sz, none⟩)) := by
  simp [ixA, aIdx_int h1 h2]
@[simp] theorem ixS_sl (sz b o n cap : Nat) (k : IntKind) (i : Int) (h1 : 0 ≤ i) (h2 : i < (n : Int)) : ixS sz (.slice (some ⟨b, o, none⟩) n cap) (.int k i) = some (.pointer (some ⟨b, o + i.toNat * sz, none⟩)) := by
  simp [ixS, aIdx_int h1 h2]
@[simp] theorem get_newB_same (h : FH) (i : Nat) (cs : List Value) : HeapC.get (newB h i cs) i = some (.cells false none cs) := by simp [newB, HeapC.get_set]
@[simp] theorem get_newB_ne (h : FH) (i j : Nat) (cs : List Value) (hne : j ≠ i) : HeapC.get (newB h i cs) j = HeapC.get h j := by simp [newB, HeapC.get_set, hne]
theorem FH.ext {a b : FH} (h : ∀ i, a.f i = b.f i) : a = b := by
  cases a; cases b
  congr
  exact funext h
theorem newB_f (h : FH) (i : Nat) (cs : List Value) (j : Nat) : (newB h i cs).f j = if j = i then some (.cells false none cs) else h.f j := HeapC.get_set (H := FH) h i _ j
@[simp] theorem newB_newB (h : FH) (i : Nat) (a b : List Value) : newB (newB h i a) i b = newB h i b := by
  apply FH.ext
  intro j
  simp only [newB_f]
  split <;> rfl
theorem newB_same (h : FH) (i : Nat) (cs : List Value) (hg : HeapC.get h i = some (.cells false none cs)) : newB h i cs = h := by
  apply FH.ext
  intro k
  rw [newB_f]
  split
  · rename_i e; rw [e]; exact hg.symm
  · rfl
def Holds (h : FH) (b : Nat) (cs : List Value) : Prop := ∃ ro op, HeapC.get h b = some (.cells ro op cs)
theorem Holds.newB_same (h : FH) (i : Nat) (cs : List Value) : Holds (newB h i cs) i cs := ⟨_, _, get_newB_same h i cs⟩
theorem Holds.newB_ne {h : FH} {i j : Nat} {cs ds : List Value} (hne : j ≠ i) (hh : Holds h j ds) : Holds (newB h i cs) j ds := by
  obtain ⟨ro, op, e⟩ := hh
  exact ⟨ro, op, by rw [get_newB_ne h i j cs hne]; exact e⟩
theorem ld1_holds {h : FH} {b o : Nat} {cs : List Value} {v : Value} (hh : Holds h b cs) (hv : cs[o]? = some v) : ld1 h (.pointer (some ⟨b, o, none⟩)) = some v := by
  obtain ⟨ro, op, e⟩ := hh
  simp [ld1, asPtr, rdCell, getCells, e, hv]
theorem ldN_holds {h : FH} {n b o : Nat} {cs : List Value} (hh : Holds h b cs) (hv : o + n ≤ cs.length) : ldN h n (.pointer (some ⟨b, o, none⟩)) = some (.agg ((cs.drop o).take n).toArray) := by
  obtain ⟨ro, op, e⟩ := hh
  have : Nat.ble (o + n) cs.length = true := Nat.ble_eq_true_of_le hv
  simp [ldN, asPtr, rdCells, getCells, e, this]
@[simp] theorem ld1_newB_same (h : FH) (i o : Nat) (cs : List Value) : ld1 (newB h i cs) (.pointer (some ⟨i, o, none⟩)) = cs[o]? := by simp [ld1, asPtr, rdCell, getCells]
@[simp] theorem ld1_newB_ne (h : FH) (i j o : Nat) (cs : List Value) (hne : j ≠ i) : ld1 (newB h i cs) (.pointer (some ⟨j, o, none⟩)) = ld1 h (.pointer (some ⟨j, o, none⟩)) := by simp [ld1, asPtr, rdCell, getCells, hne]
@[simp] theorem ld1_ptrTo (h : FH) (i : Nat) : ld1 h (ptrTo i) = ld1 h (.pointer (some ⟨i, 0, none⟩)) := rfl
@[simp] theorem ldN_ptrTo (h : FH) (n i : Nat) : ldN h n (ptrTo i) = ldN h n (.pointer (some ⟨i, 0, none⟩)) := rfl
@[simp] theorem ldN_newB_same (h : FH) (n i o : Nat) (cs : List Value) (hl : o + n ≤ cs.length) : ldN (newB h i cs) n (.pointer (some ⟨i, o, none⟩)) = some (.agg ((cs.drop o).take n).toArray) :=
  ldN_holds (Holds.newB_same h i cs) hl
@[simp] theorem ldN_newB_ne (h : FH) (n i j o : Nat) (cs : List Value) (hne : j ≠ i) : ldN (newB h i cs) n (.pointer (some ⟨j, o, none⟩)) = ldN h n (.pointer (some ⟨j, o, none⟩)) := by simp [ldN, asPtr, rdCells, getCells, hne]
theorem stN_newB_same (h : FH) (n i o : Nat) (cs : List Value) (x : Value) (h1 : x.cells.size = n) (h2 : o + n ≤ cs.length) (h3 : x.cells.toList.all isFlat = true) :
    stN (newB h i cs) n (.pointer (some ⟨i, o, none⟩)) x = some (newB h i (splice cs o x.cells.toList)) := by
  have a : Nat.beq x.cells.size n = true := by rw [h1]; exact Nat.beq_refl n
  have b : Nat.ble (o + x.cells.toList.length) cs.length = true := Nat.ble_eq_true_of_le (by simpa [h1] using h2)
  simp only [stN, asPtr, Option.bind_some, a, cond_true, wrCells, get_newB_same, b, h3, Bool.and_self]
  have := newB_newB h i cs (splice cs o x.cells.toList)
  simp only [newB] at this ⊢
  rw [this]
@[simp] theorem stN_newB_ne (h : FH) (n i j o : Nat) (cs : List Value) (x : Value) (hne : j ≠ i) :
    stN (newB h i cs) n (.pointer (some ⟨j, o, none⟩)) x = (stN h n (.pointer (some ⟨j, o, none⟩)) x).map fun h' => newB h' i cs := by
  simp only [stN, asPtr, Option.bind_some]
  cases Nat.beq x.cells.size n with
  | false => rfl
  | true =>
    simp only [cond_true, wrCells, get_newB_ne h i j cs hne]
    split
    · rename_i op c _
      cases Nat.ble (o + x.cells.toList.length) c.length && x.cells.toList.all isFlat with
      | false => rfl
      | true =>
        simp only [cond_true, Option.map_some]
        congr 1
        apply FH.ext
        intro k
        have g : ∀ (h : FH) (i : Nat) (b : ABlk) (k : Nat), (HeapC.set h i b).f k = if k = i then some b else h.f k := fun h i b k => HeapC.get_set (H := FH) h i b k
        simp only [newB_f, g]
        by_cases hk : k = j
        · have h2 : ¬ k = i := by omega
          rw [if_pos hk, if_neg h2, if_pos hk]
        · rw [if_neg hk, if_neg hk]
    · rfl
@[simp] theorem stN_ptrTo (h : FH) (n i : Nat) (x : Value) : stN h n (ptrTo i) x = stN h n (.pointer (some ⟨i, 0, none⟩)) x := rfl
theorem mrg_f (c : Nat) (h A : FH) (i : Nat) : (mrg c h A).f i = if i < 256 * c then h.f i else A.f i := rfl
@[simp] theorem mrg_self (c : Nat) (A : FH) : mrg c A A = A := by
  apply FH.ext; intro i; rw [mrg_f]; split <;> rfl
@[simp] theorem mrg_new (c : Nat) (h A : FH) (i : Nat) (cs : List Value) (hi : 256 * c ≤ i) : mrg c (newB h i cs) A = mrg c h A := by
  apply FH.ext; intro j
  rw [mrg_f, mrg_f, newB_f]
  split
  · rw [if_neg (by omega)]
  · rfl
@[simp] theorem mrg_old (c : Nat) (h A : FH) (i : Nat) (cs : List Value) (hi : i < 256 * c) : mrg c (newB h i cs) A = newB (mrg c h A) i cs := by
  apply FH.ext; intro j
  simp only [mrg_f, newB_f]
  by_cases e : j = i
  · rw [if_pos e, if_pos e, if_pos (by omega)]
  · rw [if_neg e, if_neg e]
theorem GcH.refl (c : Nat) (A : FH) : GcH c A A := fun _ _ => .inl rfl
theorem GcH.new {c i : Nat} {h A : FH} {cs : List Value} (hi : 256 * c ≤ i) (hh : GcH c h A) : GcH c (newB h i cs) A := by
  intro j hj
  rw [newB_f, if_neg (by omega)]
  exact hh j hj
theorem GcH.old {c i : Nat} {h A : FH} {cs : List Value} (hc : OkVs c cs) (hh : GcH c h A) : GcH c (newB h i cs) A := by
  intro j hj
  rw [newB_f]
  split
  · exact .inr hc
  · exact hh j hj
def ints (l : List Int) : List Value := l.map (.int .i64)
@[simp] theorem ints_length (l : List Int) : (ints l).length = l.length := by simp [ints]
theorem ints_get (l : List Int) (i : Nat) : (ints l)[i]? = l[i]?.map (.int .i64) := by simp [ints]
theorem ints_flat (l : List Int) : (ints l).all isFlat = true := by simp [ints, isFlat]
theorem OkVs.ints (c : Nat) (l : List Int) : OkVs c (ints l) := by
  intro v hv
  obtain ⟨n, _, rfl⟩ := List.mem_map.1 hv
  exact OkV.int c _ n
theorem ints_drop (l : List Int) (n : Nat) : (ints l).drop n = ints (l.drop n) := by simp [ints]
theorem ints_take (l : List Int) (n : Nat) : (ints l).take n = ints (l.take n) := by simp [ints]
theorem ints_append (l m : List Int) : ints l ++ ints m = ints (l ++ m) := by simp [ints]
theorem ints_set (l : List Int) (i : Nat) (x : Int) : (ints l).set i (.int .i64 x) = ints (l.set i x) := by simp [ints, List.map_set]
theorem splice_one (cs : List Value) (o : Nat) (v : Value) (h : o < cs.length) : splice cs o [v] = cs.set o v := by
  unfold splice
  rw [List.set_eq_take_append_cons_drop, if_pos h]
  simp
@[simp] theorem ints_getElem (l : List Int) (i : Nat) (h : i < (ints l).length) : (ints l)[i] = .int .i64 (l[i]'(by simpa using h)) := by simp [ints]
def av (l : List Int) : Value := .agg (ints l).toArray
theorem av_flat (l : List Int) : (av l).cells.toList.all isFlat = true := by simp [av, Value.cells, ints, isFlat]
theorem av_cells (l : List Int) : (av l).cells.toList = ints l := by simp [av, Value.cells]
theorem av_size (l : List Int) : (av l).cells.size = l.length := by simp [av, Value.cells]
theorem OkV.av (c : Nat) (l : List Int) : OkV c (av l) := OkV.agg (OkVs.ints c l)
theorem ixV_av (l : List Int) (len : Nat) (k : IntKind) (i : Int) (h1 : 0 ≤ i) (h2 : i < (len : Int)) (h3 : l.length = len) : ixV len false 1 (av l) (.int k i) = some (.int .i64 (l.getD i.toNat 0)) := by
  have h4 : i.toNat < l.length := by omega
  have h5 : (ints l)[i.toNat * 1]? = some (.int .i64 (l.getD i.toNat 0)) := by rw [Nat.mul_one, ints_get, List.getElem?_eq_getElem h4]; simp [List.getD, List.getElem?_eq_getElem h4]
  simp only [ixV, av, aggL, Option.bind_some, aIdx_int h1 h2, partN, cond_false, List.toList_toArray]
  exact h5
theorem ixV_avs (l : List Int) (len sz : Nat) (k : IntKind) (i : Int) (h1 : 0 ≤ i) (h2 : i < (len : Int)) (h3 : l.length = len * sz) : ixV len true sz (av l) (.int k i) = some (av ((l.drop (i.toNat * sz)).take sz)) := by
  have h4 : i.toNat < len := by omega
  have h5 : i.toNat * sz + sz ≤ len * sz := by have := Nat.mul_le_mul_right sz (Nat.succ_le_of_lt h4); rw [Nat.succ_mul] at this; exact this
  have h6 : Nat.ble (i.toNat * sz + sz) (ints l).length = true := Nat.ble_eq_true_of_le (by simpa [h3] using h5)
  simp only [ixV, av, aggL, Option.bind_some, aIdx_int h1 h2, partN, cond_true, List.toList_toArray, h6, ints_drop, ints_take]
def Same (c : Nat) (h h' : FH) : Prop := ∀ i, i < 256 * c → h'.f i = h.f i
theorem Same.refl (c : Nat) (h : FH) : Same c h h := fun _ _ => rfl
theorem Same.newB {c i : Nat} {h h' : FH} {cs : List Value} (hi : 256 * c ≤ i) (hh : Same c h h') : Same c h (newB h' i cs) := by
  intro j hj
  rw [newB_f, if_neg (by omega)]
  exact hh j hj
theorem set_f (h : FH) (i : Nat) (b : ABlk) (j : Nat) : (HeapC.set h i b).f j = if j = i then some b else h.f j := HeapC.get_set (H := FH) h i b j
theorem del_f (h : FH) (i : Nat) (j : Nat) : (HeapC.del h i).f j = if j = i then none else h.f j := HeapC.get_del (H := FH) h i j
theorem Same.set {c i : Nat} {h h' : FH} {b : ABlk} (hi : 256 * c ≤ i) (hh : Same c h h') : Same c h (HeapC.set h' i b) := by
  intro j hj
  rw [set_f, if_neg (by omega)]
  exact hh j hj
theorem Same.mono {c c' : Nat} {h h' : FH} (hc : c ≤ c') (hh : Same c' h h') : Same c h h' := fun i hi => hh i (by omega)
theorem Same.trans {c : Nat} {a b d : FH} (h : Same c a b) (k : Same c b d) : Same c a d := fun i hi => (k i hi).trans (h i hi)
def SlI (h : FH) (c : Nat) (s : Value) (sz n : Nat) (G : List Int) : Prop :=
  G.length = n * sz ∧ n ≤ 9223372036854775807 ∧ ∃ a cap, s = .slice a n cap ∧ (n = 0 ∧ OkV c s ∨ ∃ b o cs, a = some ⟨b, o, none⟩ ∧ b < 256 * c ∧ Holds h b cs ∧ (cs.drop o).take (n * sz) = ints G)
theorem SlI.same {h h' : FH} {c : Nat} {s : Value} {sz n : Nat} {G : List Int} (hs : SlI h c s sz n G) (hh : Same c h h') : SlI h' c s sz n G := by
  obtain ⟨h1, h2, a, cap, h3, h4⟩ := hs
  refine ⟨h1, h2, a, cap, h3, h4.imp id ?_⟩
  rintro ⟨b, o, cs, e1, e2, ⟨ro, op, e3⟩, e4⟩
  exact ⟨b, o, cs, e1, e2, ⟨ro, op, (hh b e2).trans e3⟩, e4⟩
theorem SlI.mono {h : FH} {c c' : Nat} {s : Value} {sz n : Nat} {G : List Int} (hs : SlI h c s sz n G) (hc : c ≤ c') : SlI h c' s sz n G := by
  obtain ⟨h1, h2, a, cap, h3, h4⟩ := hs
  refine ⟨h1, h2, a, cap, h3, ?_⟩
  rcases h4 with ⟨e, v', hv⟩ | ⟨b, o, cs, e1, e2, e3, e4⟩
  · refine .inl ⟨e, ?_⟩
    subst h3
    cases a with
    | none => exact OkV.sl0 _ _ _
    | some a =>
      cases hv with
      | sl h _ _ => exact OkV.sl (by have := nuD_dom (c := c) (i := _) (by rw [h]; simp); omega)
      | slE h => exact OkV.sl (by have := nuD_dom (c := c) (i := _) (by rw [h]; simp); omega)
  · exact .inr ⟨b, o, cs, e1, by omega, e3, e4⟩
theorem SlI.okV {h : FH} {c : Nat} {s : Value} {sz n : Nat} {G : List Int} (hs : SlI h c s sz n G) : OkV c s := by
  obtain ⟨h1, h2, a, cap, rfl, h4⟩ := hs
  rcases h4 with ⟨e, hv⟩ | ⟨b, o, cs, rfl, e2, e3, e4⟩
  · exact hv
  · exact OkV.sl e2
theorem SlI.len {h : FH} {c : Nat} {s : Value} {sz n : Nat} {G : List Int} (hs : SlI h c s sz n G) : lenS s = some (.int .i64 n) := by
  obtain ⟨h1, h2, a, cap, rfl, h4⟩ := hs
  rfl
theorem SlI.ix {h : FH} {c : Nat} {s : Value} {sz n : Nat} {G : List Int} (hs : SlI h c s sz n G) (k : IntKind) (i : Int) (h1 : 0 ≤ i) (h2 : i < (n : Int)) :
    ∃ b o cs, ixS sz s (.int k i) = some (.pointer (some ⟨b, o + i.toNat * sz, none⟩)) ∧ b < 256 * c ∧ Holds h b cs ∧ (cs.drop o).take (n * sz) = ints G := by
  obtain ⟨g1, g2, a, cap, rfl, h4⟩ := hs
  rcases h4 with ⟨e, hv⟩ | ⟨b, o, cs, rfl, e2, e3, e4⟩
  · omega
  · exact ⟨b, o, cs, ixS_sl sz b o n cap k i h1 h2, e2, e3, e4⟩
theorem win_get {cs : List Value} {o m : Nat} {G : List Int} (e : (cs.drop o).take m = ints G) {j : Nat} (hj : j < G.length) : cs[o + j]? = some (.int .i64 (G.getD j 0)) := by
  have h1 : ((cs.drop o).take m)[j]? = some (.int .i64 (G.getD j 0)) := by
    rw [e, ints_get, List.getElem?_eq_getElem hj]; simp [List.getD, List.getElem?_eq_getElem hj]
  have hjm : j < m := by
    have := (List.getElem?_eq_some_iff.1 h1).1
    simp at this; omega
  rw [List.getElem?_take_of_lt hjm, List.getElem?_drop] at h1
  exact h1
theorem win_len {cs : List Value} {o m : Nat} {G : List Int} (e : (cs.drop o).take m = ints G) (h : 0 < G.length) : o + G.length ≤ cs.length := by
  have := congrArg List.length e
  simp at this; omega
theorem win_sub {cs : List Value} {o m : Nat} {G : List Int} (e : (cs.drop o).take m = ints G) {j q : Nat} (hj : j + q ≤ G.length) : (cs.drop (o + j)).take q = ints ((G.drop j).take q) := by
  rw [← ints_take, ← ints_drop, ← e, List.drop_take, List.drop_drop, List.take_take]
  have hm : G.length ≤ m := by have := congrArg List.length e; simp at this; omega
  congr 1
  omega
theorem ld1_win {h : FH} {b o m : Nat} {cs : List Value} {G : List Int} (hh : Holds h b cs) (e : (cs.drop o).take m = ints G) {j : Nat} (hj : j < G.length) : ld1 h (.pointer (some ⟨b, o + j, none⟩)) = some (.int .i64 (G.getD j 0)) :=
  ld1_holds hh (win_get e hj)
theorem ldN_win {h : FH} {b o m q : Nat} {cs : List Value} {G : List Int} (hh : Holds h b cs) (e : (cs.drop o).take m = ints G) {j : Nat} (hj : j + q ≤ G.length) (hq : 0 < q) : ldN h q (.pointer (some ⟨b, o + j, none⟩)) = some (av ((G.drop j).take q)) := by
  have := win_len e (by omega)
  rw [ldN_holds hh (by omega), win_sub e hj]
  rfl
theorem gcR_same {A : FH} {c : Nat} {df : List Nat} {e : Ex} {vs : List Value} {c' : Nat} (h1 : OkVs c vs) : gcR A c df { e := e, vs := vs, h := A, c := c', df := df } = { e := e, vs := vs, h := A, c := c, df := df } := by
  rw [gcR_of h1 (GcH.refl c A), mrg_self]
theorem callF_of {o : Orc FH} {g : FuncId} {args : List Value} {h h' : FH} {c c' : Nat} {v : Value} {e : Ex} {df : List Nat} (e1 : o (.fn g) args h c [] = some { e := e, vs := [v], h := h', c := c', df := df }) : callF o g args h c = some (v, h', c') := by
  simp only [callF, e1, Option.bind_some]
attribute [simp] OkV.bool OkV.int OkV.str OkV.ptr0 OkV.sl0 OkV.map0 OkV.nilFunc OkVs.nil OkVs.cons_iff OkV.av OkVs.ints OkV.ptr OkV.ptrTo OkV.sl OkV.map GcH.refl av_flat av_cells av_size
def Ans {α : Type} (x : Option α) (Q : α → Prop) : Prop := ∃ r, x = some r ∧ Q r
theorem Ans.intro {α : Type} {x : Option α} {Q : α → Prop} {r : α} (h : x = some r) (hq : Q r) : Ans x Q := ⟨r, h, hq⟩
theorem Ans.mono {α : Type} {x : Option α} {Q Q' : α → Prop} (h : Ans x Q) (hq : ∀ r, Q r → Q' r) : Ans x Q' := let ⟨r, a, b⟩ := h; ⟨r, a, hq r b⟩
@[simp] theorem Ans_some {α : Type} {r : α} {Q : α → Prop} : Ans (some r) Q ↔ Q r := ⟨fun ⟨_, e, h⟩ => by cases e; exact h, fun h => ⟨r, rfl, h⟩⟩
theorem Ans.eq {α : Type} {x : Option α} {r : α} (h : Ans x (fun q => q = r)) : x = some r := by
  obtain ⟨q, e, rfl⟩ := h
  exact e
theorem gcR_pure {A h : FH} {c : Nat} {df : List Nat} {e : Ex} {vs : List Value} {c' : Nat} (h1 : OkVs c vs) (h2 : Same c A h) : gcR A c df { e := e, vs := vs, h := h, c := c', df := df } = { e := e, vs := vs, h := A, c := c, df := df } := by
  rw [gcR_of h1 (fun i hi => .inl (h2 i hi))]
  have : mrg c h A = A := by
    apply FH.ext
    intro i
    rw [mrg_f]
    split
    · rename_i hi; exact h2 i hi
    · rfl
  rw [this]
theorem pure_of {X S : Option (Rt FH)} {h : FH} {c : Nat} {v : Value} (hgo : ∀ r, S = some r → X = some (gcR h c [] r)) (hv : OkV c v) (hS : Ans S (fun r => r.e = .ret ∧ r.vs = [v] ∧ Same c h r.h ∧ r.df = [])) :
    X = some { e := .ret, vs := [v], h := h, c := c, df := [] } := by
  obtain ⟨⟨re, rv, rh, rc, rd⟩, e, h1, h2, h3, h4⟩ := hS
  simp only at h1 h2 h3 h4
  subst h1 h2 h4
  rw [hgo _ e, gcR_pure (OkVs.cons hv (OkVs.nil c)) h3]
attribute [simp] Same.refl
@[simp] theorem Same_newB {c i : Nat} {h h' : FH} {cs : List Value} (hi : 256 * c ≤ i) : Same c h (newB h' i cs) ↔ Same c h h' := by
  refine ⟨fun hh j hj => ?_, fun hh => hh.newB hi⟩
  have := hh j hj
  rw [newB_f, if_neg (by omega)] at this
  exact this
@[simp] theorem Same_set {c i : Nat} {h h' : FH} {b : ABlk} (hi : 256 * c ≤ i) : Same c h (HeapC.set h' i b) ↔ Same c h h' := by
  refine ⟨fun hh j hj => ?_, fun hh => hh.set hi⟩
  have := hh j hj
  rw [set_f, if_neg (by omega)] at this
  exact this
attribute [simp] ints_flat ints_take ints_drop
@[simp] theorem agg_ints (l : List Int) : Value.agg (ints l).toArray = av l := rfl
@[simp] theorem takeAll_nil {H : Type} [HeapC H] (h : H) : takeAll h [] = some h := rfl
def Upto (c : Nat) (A B : FH) : Prop := ∀ i, (256 * c ≤ i → B.f i = A.f i) ∧ (i < 256 * c → B.f i = A.f i ∨ OkB c (B.f i))
@[simp] theorem Upto.refl (c : Nat) (A : FH) : Upto c A A := fun _ => ⟨fun _ => rfl, fun _ => .inl rfl⟩
theorem Upto.old {c b : Nat} {A B : FH} {cs : List Value} (hb : b < 256 * c) (hc : OkVs c cs) (h : Upto c A B) : Upto c A (newB B b cs) := by
  intro i
  rw [newB_f]
  refine ⟨fun hi => ?_, fun hi => ?_⟩
  · rw [if_neg (by omega)]; exact (h i).1 hi
  · split
    · exact .inr hc
    · exact (h i).2 hi
theorem Upto.both {c b : Nat} {A B : FH} {ds cs : List Value} (hc : OkVs c cs) (h : Upto c A B) (hb : b < 256 * c) : Upto c (newB A b ds) (newB B b cs) := by
  intro i
  rw [newB_f, newB_f]
  refine ⟨fun hi => ?_, fun hi => ?_⟩
  · rw [if_neg (by omega), if_neg (by omega)]; exact (h i).1 hi
  · by_cases e : i = b
    · rw [if_pos e]; exact .inr hc
    · rw [if_neg e, if_neg e]; exact (h i).2 hi
theorem gcR_to {A h B : FH} {c : Nat} {df : List Nat} {e : Ex} {vs : List Value} {c' : Nat} (h1 : OkVs c vs) (h2 : Same c B h) (h3 : Upto c A B) : gcR A c df { e := e, vs := vs, h := h, c := c', df := df } = { e := e, vs := vs, h := B, c := c, df := df } := by
  rw [gcR_of h1 (fun i hi => by rw [h2 i hi]; exact (h3 i).2 hi)]
  have : mrg c h A = B := by
    apply FH.ext
    intro i
    rw [mrg_f]
    split
    · rename_i hi; exact h2 i hi
    · exact ((h3 i).1 (by omega)).symm
  rw [this]
theorem gcR_upd {h : FH} {b c : Nat} {df : List Nat} {e : Ex} {vs cs cs' : List Value} {c' : Nat} (hb : b < 256 * c) (h1 : OkVs c vs) (h2 : OkVs c cs') :
    gcR (newB h b cs) c df { e := e, vs := vs, h := newB h b cs', c := c', df := df } = { e := e, vs := vs, h := newB h b cs', c := c, df := df } :=
  gcR_to h1 (Same.refl _ _) (Upto.both h2 (Upto.refl _ _) hb)
theorem ints_cons (a : Int) (l : List Int) : ints (a :: l) = .int .i64 a :: ints l := rfl
theorem ints_nil : ints [] = [] := rfl
@[simp] theorem st1_int (h : FH) (i o : Nat) (cs : List Value) (k : IntKind) (x : Int) (ho : o < cs.length) : stN (newB h i cs) 1 (.pointer (some ⟨i, o, none⟩)) (.int k x) = some (newB h i (cs.set o (.int k x))) := by
  rw [stN_newB_same h 1 i o cs (.int k x) rfl (by omega) rfl]
  show some (newB h i (splice cs o [.int k x])) = _
  rw [splice_one cs o _ ho]
@[simp] theorem st1_bool (h : FH) (i o : Nat) (cs : List Value) (x : Bool) (ho : o < cs.length) : stN (newB h i cs) 1 (.pointer (some ⟨i, o, none⟩)) (.bool x) = some (newB h i (cs.set o (.bool x))) := by
  rw [stN_newB_same h 1 i o cs (.bool x) rfl (by omega) rfl]
  show some (newB h i (splice cs o [.bool x])) = _
  rw [splice_one cs o _ ho]
@[simp] theorem ints_set' (l : List Int) (i : Nat) (x : Int) : (ints l).set i (.int .i64 x) = ints (l.set i x) := ints_set l i x
@[simp] theorem stN_all (h : FH) (i n : Nat) (cs : List Value) (l : List Int) (h1 : l.length = n) (h2 : cs.length = n) : stN (newB h i cs) n (.pointer (some ⟨i, 0, none⟩)) (av l) = some (newB h i (ints l)) := by
  rw [stN_newB_same h n i 0 cs (av l) (by simp [h1]) (by omega) (by simp)]
  simp only [av_cells, splice, List.take_zero, List.nil_append, Nat.zero_add, ints_length]
  rw [List.drop_of_length_le (by omega), List.append_nil]
@[simp] theorem isFlat_int (k : IntKind) (n : Int) : isFlat (.int k n) = true := rfl
@[simp] theorem isFlat_bool (n : Bool) : isFlat (.bool n) = true := rfl
@[simp] theorem isFlat_sl (a : Option Addr) (n k : Nat) : isFlat (.slice a n k) = true := rfl
@[simp] theorem isFlat_ptr (a : Option Addr) : isFlat (.pointer a) = true := rfl
theorem bld4 (a b c d : Int) : bldV [(.int .i64 0), (.int .i64 0), (.int .i64 0), (.int .i64 0)] [(0, 1, .int .i64 a), (1, 1, .int .i64 b), (2, 1, .int .i64 c), (3, 1, .int .i64 d)] = some (av [a, b, c, d]) := (rfl)
theorem bld2 (a b : Int) : bldV [(.int .i64 0), (.int .i64 0)] [(0, 1, .int .i64 a), (1, 1, .int .i64 b)] = some (av [a, b]) := (rfl)
theorem bld5 (a : Int) (p : List Int) (hp : p.length = 4) : bldV [(.int .i64 0), (.int .i64 0), (.int .i64 0), (.int .i64 0), (.int .i64 0)] [(0, 1, .int .i64 a), (1, 4, av p)] = some (av (a :: p)) := by
  match p, hp with
  | [a, b, c, d], _ => rfl
theorem Ans.step {α β : Type} {x : Option α} {v : α} {f : α → Option β} {Q : β → Prop} (h : x = some v) (k : Ans (f v) Q) : Ans (x.bind f) Q := by rw [h]; exact k
theorem Ans.bt {β : Type} {v : Value} {x y : Option β} {Q : β → Prop} (h : v = .bool true) (k : Ans x Q) : Ans (boolK v x y) Q := by rw [h]; exact k
theorem Ans.bf {β : Type} {v : Value} {x y : Option β} {Q : β → Prop} (h : v = .bool false) (k : Ans y Q) : Ans (boolK v x y) Q := by rw [h]; exact k
theorem Ans.ct {β : Type} {b : Bool} {x y : Option β} {Q : β → Prop} (h : b = true) (k : Ans x Q) : Ans (cond b x y) Q := by rw [h]; exact k
theorem Ans.cf {β : Type} {b : Bool} {x y : Option β} {Q : β → Prop} (h : b = false) (k : Ans y Q) : Ans (cond b x y) Q := by rw [h]; exact k
theorem Ans.done {α : Type} {r : α} {Q : α → Prop} (h : Q r) : Ans (some r) Q := ⟨r, rfl, h⟩
theorem Ans.head {α β : Type} {x : Option α} {f : α → Option β} {Q : β → Prop} {R : α → Prop} (h : Ans x R) (k : ∀ a, R a → Ans (f a) Q) : Ans (x.bind f) Q := by
  obtain ⟨a, e, hr⟩ := h
  exact Ans.step e (k a hr)
@[simp] theorem ints_getD (l : List Int) (o : Nat) (h : o < l.length) : (ints l)[o]? = some (.int .i64 (l.getD o 0)) := by
  rw [ints_get, List.getElem?_eq_getElem h]; simp [List.getD, List.getElem?_eq_getElem h]
end Go.Ab


namespace Go.Ab
open Go
set_option linter.unusedVariables false
set_option linter.unusedSimpArgs false
def s4 {α β : Type} (a b c d : α) (x : Nat) (k : α → Option β) : Option β :=
  cond (Nat.beq x 0) (k a) (cond (Nat.beq x 1) (k b) (cond (Nat.beq x 2) (k c) (cond (Nat.beq x 3) (k d) none)))
theorem all256 {Q : Nat → Nat → Nat → Nat → Bool} (h : ((List.range 256).all fun n => Q (n / 64) (n / 16 % 4) (n / 4 % 4) (n % 4)) = true) {a b c d : Nat} (ha : a < 4) (hb : b < 4) (hc : c < 4) (hd : d < 4) : Q a b c d = true := by
  have := List.all_eq_true.1 h (64 * a + 16 * b + 4 * c + d) (by simp; omega)
  have e1 : (64 * a + 16 * b + 4 * c + d) / 64 = a := by omega
  have e2 : (64 * a + 16 * b + 4 * c + d) / 16 % 4 = b := by omega
  have e3 : (64 * a + 16 * b + 4 * c + d) / 4 % 4 = c := by omega
  have e4 : (64 * a + 16 * b + 4 * c + d) % 4 = d := by omega
  simpa only [e1, e2, e3, e4] using this
end Go.Ab

namespace Go.Ab
open Go
set_option maxRecDepth 100000
set_option linter.unusedVariables false
set_option linter.unusedSimpArgs false
def orB (a b : Int) : Int := IntKind.i64.wrap ((BitVec.ofInt 64 a ||| BitVec.ofInt 64 b).toNat)
def shB (x : Int) : Int := IntKind.i64.wrap (1 * 2 ^ (min x.toNat 64))
def validL : List Int → Int → Option Int
  | [], m => some m
  | x :: xs, m => if x < 0 ∨ 3 < x then none else validL xs (orB m (shB x))
def validB (p : List Int) : Bool := decide (validL p 0 = some 15)
def invL : List Int → Nat → List Int → List Int
  | [], _, out => out
  | x :: xs, i, out => invL xs (i + 1) (out.set x.toNat i)
theorem invL_length : ∀ (p : List Int) (i : Nat) (out : List Int), (invL p i out).length = out.length
  | [], _, _ => rfl
  | x :: xs, i, out => by rw [invL, invL_length]; simp
def inv (p : List Int) : List Int := invL p 0 [0, 0, 0, 0]
def InR (p : List Int) : Prop := ∀ x ∈ p, 0 ≤ x ∧ x < 4
def comp (p q : List Int) : List Int := q.map fun x => p.getD x.toNat 0
def faceL (Gl : List Int) (t f : Nat) : List Int := (Gl.drop (20 * t + 5 * f)).take 5
def rowL (Gl : List Int) (t : Nat) : List Int := (Gl.drop (20 * t)).take 20
theorem faceL_length {Gl : List Int} {n t f : Nat} (hG : Gl.length = n * 20) (ht : t < n) (hf : f < 4) : (faceL Gl t f).length = 5 := by
  simp [faceL]; omega
theorem rowL_length {Gl : List Int} {n t : Nat} (hG : Gl.length = n * 20) (ht : t < n) : (rowL Gl t).length = 20 := by
  simp [rowL]; omega
theorem row_face {Gl : List Int} {t f : Nat} (hf : f < 4) : ((rowL Gl t).drop (f * 5)).take 5 = faceL Gl t f := by
  unfold rowL faceL
  rw [List.drop_take, List.drop_drop, List.take_take]
  congr 1
  · omega
  · congr 1; omega
theorem Ans.bind {α β : Type} {x : Option α} {f : α → Option β} {Q : β → Prop} (h : Ans x (fun a => Ans (f a) Q)) : Ans (x.bind f) Q := by
  obtain ⟨a, e, b, e2, hq⟩ := h
  exact ⟨b, by rw [e]; exact e2, hq⟩
theorem validL_range : ∀ (p : List Int) (m m' : Int), validL p m = some m' → InR p
  | [], _, _, _ => fun x hx => by cases hx
  | x :: xs, m, m', e => by
    simp only [validL] at e
    by_cases h : x < 0 ∨ 3 < x
    · rw [if_pos h] at e; cases e
    · rw [if_neg h] at e
      intro y hy
      rcases List.mem_cons.1 hy with rfl | hy
      · omega
      · exact validL_range xs _ _ e y hy
theorem validB_range {p : List Int} (h : validB p = true) : InR p := by
  unfold validB at h
  exact validL_range p 0 15 (by simpa using h)
def tetL (x : List Int) : Int := x.getD 0 0
def permL (x : List Int) : List Int := (x.drop 1).take 4
theorem permL_length {x : List Int} (h : x.length = 5) : (permL x).length = 4 := by simp [permL, h]
def noneL : List Int := [-1, 0, 0, 0, 0]
def okFace (Gl : List Int) (n t f : Nat) : Bool :=
  decide (faceL Gl t f = noneL) ||
  (decide (0 ≤ tetL (faceL Gl t f)) && decide (tetL (faceL Gl t f) < n) && validB (permL (faceL Gl t f)) &&
   !(decide (tetL (faceL Gl t f) = t) && decide ((permL (faceL Gl t f)).getD f 0 = f)) &&
   decide (faceL Gl (tetL (faceL Gl t f)).toNat ((permL (faceL Gl t f)).getD f 0).toNat = (t : Int) :: inv (permL (faceL Gl t f))))
def okUpTo (Gl : List Int) (n : Nat) (k : Nat) : Prop := ∀ j, j < k → okFace Gl n (j / 4) (j % 4) = true
def okAll (Gl : List Int) (n : Nat) : Bool := (List.range (4 * n)).all fun j => okFace Gl n (j / 4) (j % 4)
theorem okAll_iff (Gl : List Int) (n : Nat) : okAll Gl n = true ↔ okUpTo Gl n (4 * n) := by simp [okAll, okUpTo]
def bools (l : List Bool) : List Value := l.map .bool
theorem OkVs.bools (c : Nat) (l : List Bool) : OkVs c (bools l) := by
  intro v hv
  simp only [Go.Ab.bools, List.mem_map] at hv
  obtain ⟨b, _, rfl⟩ := hv
  exact OkV.bool c b
theorem bools_set (l : List Bool) (i : Nat) (x : Bool) : (bools l).set i (.bool x) = bools (l.set i x) := by simp [bools, List.map_set]
theorem bools_get (l : List Bool) (o : Nat) (h : o < l.length) : (bools l)[o]? = some (.bool (l.getD o false)) := by
  simp [bools, List.getD, List.getElem?_eq_getElem h]
end Go.Ab

namespace Go.Proofs.Ytcnndelmnobigaa
open Go Go.Ab Go.Proofs
set_option maxRecDepth 100000
set_option linter.unusedVariables false
set_option linter.unusedSimpArgs false
theorem aBinOp_or (t : TypeId) (a b : Int) : aBinOp P .or t (.int .i64 a) (.int .i64 b) = some (.int .i64 (orB a b)) := by rw [aBinOp_eq]; simp [aBinOp0, intBin, orB]; rfl
theorem aBinOp_shl1 (t : TypeId) (x : Int) (h : 0 ≤ x) : aBinOp P .shl t (.int .i64 1) (.int .i64 x) = some (.int .i64 (shB x)) := by
  rw [aBinOp_eq]
  have : ¬ x < 0 := by omega
  simp [aBinOp0, shiftBin, shB, this]; rfl
theorem valid_loop (p : List Int) (hp : p.length = 4) (h : FH) (c : Nat) (df : List Nat) : ∀ (k i : Nat) (m : Int), i + k = 4 →
    Ans (G (f84_k84000 none) [.bool false, .int .i64 m, av p, .int .i64 i] h c df) fun r => r.h = h ∧ r.c = c ∧ r.df = df ∧
      (match validL (p.drop i) m with
        | some m' => r.e = .exit 0 ∧ r.v 1 = .int .i64 m'
        | none => r.e = .ret ∧ r.v 0 = .bool false) := by
  intro k
  induction k with
  | zero =>
    intro i m hi
    obtain rfl : i = 4 := by omega
    rw [List.drop_of_length_le (by omega)]
    have e1 : ¬ ((4 : Nat) : Int) < 4 := by omega
    refine .intro (f84_Z84000 (q := ⟨.exit 0, [.bool false, .int .i64 m, av p, .int .i64 (4 : Nat)], h, c + 1, df⟩) (by unfold f84_L84000; simp [e1]) (by simp)) ?_
    rw [gcR_same (by simp)]
    simp [validL]
  | succ k ih =>
    intro i m hi
    have hlt : i < p.length := by omega
    have e0 : (i : Int) < 4 := by omega
    rw [List.drop_eq_getElem_cons hlt]
    have hx : p.getD i 0 = p[i] := by simp [List.getD, List.getElem?_eq_getElem hlt]
    by_cases hc : p[i] < 0 ∨ 3 < p[i]
    · simp only [validL, hc, if_true]
      refine .intro (f84_Z84000 (q := ⟨.ret, [.bool false, .int .i64 m, av p, .int .i64 i], h, _, df⟩) (by
        unfold f84_L84000
        by_cases h1 : p[i] < 0
        · simp (disch := omega) [e0, ixV_av, hx, h1, -List.getD_eq_getElem?_getD]; rfl
        · have h2 : 3 < p[i] := by omega
          simp (disch := omega) [e0, ixV_av, hx, h1, h2, -List.getD_eq_getElem?_getD] <;> rfl) (by simp)) ?_
      rw [gcR_same (by simp)]
      simp
    · have h1 : ¬ p[i] < 0 := by omega
      have h2 : ¬ 3 < p[i] := by omega
      simp only [validL, hc, if_false]
      obtain ⟨r, hr, hq⟩ := ih (i + 1) (orB m (shB p[i])) (by omega)
      refine .intro (f84_N84000 (q := ⟨.normal, [.bool false, .int .i64 (orB m (shB p[i])), av p, .int .i64 (i + 1 : Nat)], h, c + 1 + 1 + 1 + 1 + 1, df⟩) (by
        unfold f84_L84000
        simp (disch := omega) [e0, ixV_av, hx, h1, h2, aBinOp_shl1 _ p[i] (by omega), aBinOp_or, -List.getD_eq_getElem?_getD]) rfl ?_) hq
      rw [gcR_same (by simp)]
      exact hr
theorem valid_sp (p : List Int) (hp : p.length = 4) (h : FH) (c : Nat) (df : List Nat) :
    G (.fn 84) [av p] h c df = some { e := .ret, vs := [.bool (validB p)], h := h, c := c, df := [] } := by
  refine pure_of (fun r e => f84_go e) (by simp) ?_
  obtain ⟨⟨re, rv, rh, rc, rd⟩, hr, h1, h2, h3, h4⟩ := valid_loop p hp (newB h (256 * c) (ints p)) (c + 1 + 1 + 1) [] 4 0 0 rfl
  simp only at h1 h2 h3
  subst h1 h2 h3
  unfold f84_S
  simp only [List.drop_zero] at h4
  have e1 : p.take 4 = p := List.take_of_length_le (by omega)
  simp only [Int.ofNat_eq_natCast, Int.cast_ofNat_Int] at hr
  unfold validB
  cases hv : validL p 0 with
  | none =>
    rw [hv] at h4
    obtain ⟨rfl, h5⟩ := h4
    simp [hr, e1, hp, h5]
  | some m =>
    rw [hv] at h4
    obtain ⟨rfl, h5⟩ := h4
    simp [hr, e1, hp, h5]
theorem inverse_loop (p : List Int) (hp : p.length = 4) (hr : InR p) (h : FH) (b1 b3 c : Nat) (hb1 : b1 < 256 * c) (hb : b3 < 256 * c) (df : List Nat) : ∀ (k i : Nat) (out : List Int), i + k = 4 → out.length = 4 →
    G (f85_k85000 none) [ptrTo b1, ptrTo b3, av p, .int .i64 i] (newB h b3 (ints out)) c df =
      some { e := .exit 0, vs := [ptrTo b1, ptrTo b3, av p, .int .i64 4], h := newB h b3 (ints (invL (p.drop i) i out)), c := c, df := df } := by
  intro k
  induction k with
  | zero =>
    intro i out hi ho
    obtain rfl : i = 4 := by omega
    rw [List.drop_of_length_le (by omega)]
    refine (f85_Z85000 (q := ⟨.exit 0, [ptrTo b1, ptrTo b3, av p, .int .i64 4], newB h b3 (ints out), c + 1, df⟩) (by unfold f85_L85000; simp) (by simp)).trans ?_
    rw [gcR_same (by simp [hb1, hb])]
    rfl
  | succ k ih =>
    intro i out hi ho
    have hlt : i < p.length := by omega
    have e0 : (i : Int) < 4 := by omega
    rw [List.drop_eq_getElem_cons hlt]
    have hx : p.getD i 0 = p[i] := by simp [List.getD, List.getElem?_eq_getElem hlt]
    have hxr := hr p[i] (List.getElem_mem hlt)
    refine f85_N85000 (q := ⟨.normal, [ptrTo b1, ptrTo b3, av p, .int .i64 (i + 1 : Nat)], newB h b3 (ints (out.set p[i].toNat i)), c + 1 + 1 + 1 + 1, df⟩) ?_ rfl ?_
    · unfold f85_L85000
      simp (disch := (first | omega | (simp <;> omega) | fail)) [e0, ixV_av, hx, hxr, ho, -List.getD_eq_getElem?_getD]
    · rw [gcR_upd hb (by simp [hb1, hb]) (by simp)]
      exact ih (i + 1) _ (by omega) (by simpa using ho)
theorem inverse_sp (p : List Int) (hp : p.length = 4) (hr : InR p) (h : FH) (c : Nat) (df : List Nat) :
    G (.fn 85) [av p] h c df = some { e := .ret, vs := [av (inv p)], h := h, c := c, df := [] } := by
  refine pure_of (fun r e => f85_go e) (by simp) ?_
  have e1 : p.take 4 = p := List.take_of_length_le (by omega)
  have hl := inverse_loop p hp hr (newB (newB h (256 * c) (ints p)) (256 * c + 1) (ints [0, 0, 0, 0])) (256 * c + 1) (256 * (c + 1)) (c + 1 + 1 + 1) (by omega) (by omega) [] 4 0 [0, 0, 0, 0] rfl rfl
  have hl2 : (invL p 0 [0, 0, 0, 0]).length = 4 := invL_length p 0 [0, 0, 0, 0]
  have e2 : (invL p 0 [0, 0, 0, 0]).take 4 = invL p 0 [0, 0, 0, 0] := List.take_of_length_le (by omega)
  unfold f85_S
  simp only [ints_cons, ints_nil, Int.ofNat_eq_natCast, Int.cast_ofNat_Int, List.drop_zero] at hl
  simp (disch := (first | omega | (simp <;> omega) | fail)) [hl, e1, e2, hp, hl2, inv]
end Go.Proofs.Ytcnndelmnobigaa

namespace Go.Ab
open Go
set_option linter.unusedVariables false
set_option linter.unusedSimpArgs false
variable {P : Program}
theorem callV_yield {o : Orc FH} {h : FH} {c l : Nat} {st : ALoop} {args : List Value} {Q : Value × FH × Nat → Prop} (hg : HeapC.get h l = some (.loop st)) (hs : st.state = .ready)
    (hok : (Nat.beq args.length st.params.length && nodupB st.params && st.params.all (Nat.blt · st.nt)) = true)
    (hr : Ans (o (.rnd st.nt st.lin st.fr st.params l st.assign st.body) (args ++ st.vals) h c []) fun r => ∃ v, r.vs = [v] ∧ Q (v, r.h, r.c)) : Ans (callV o h c (.func (.yield l) #[] #[]) args) Q := by
  obtain ⟨r, e, v, hv, hq⟩ := hr
  have h1 : (decide (st.state = LoopState.ready) && Nat.beq args.length st.params.length && nodupB st.params && st.params.all (Nat.blt · st.nt)) = true := by
    simp only [Bool.and_eq_true] at hok ⊢
    exact ⟨⟨⟨by simp [hs], hok.1.1⟩, hok.1.2⟩, hok.2⟩
  refine ⟨(v, r.h, r.c), ?_, hq⟩
  simp only [callV, Array.size_empty, Nat.beq_refl, Bool.and_self, cond_true, hg, h1, e, Option.bind_some, hv]
def entryL (nt : Nat) (lin : List Nat) (ps : Array Tmp) (a b : ACode) (vs : List Value) (d : Nat) : ALoop :=
  { state := .ready, pending := none, nt := nt, vals := vs, lin := lin, fr := [], params := ps.toList, assign := a, body := b, dfr := d }
noncomputable def entryH (h : FH) (c nt : Nat) (lin : List Nat) (ps : Array Tmp) (a b : ACode) (vs : List Value) : FH :=
  HeapC.set (HeapC.set h (256 * c + 1) .dfr) (256 * c) (.loop (entryL nt lin ps a b vs (256 * c + 1)))
theorem entryH_f (h : FH) (c nt : Nat) (lin : List Nat) (ps : Array Tmp) (a b : ACode) (vs : List Value) (i : Nat) :
    (entryH h c nt lin ps a b vs).f i = if i = 256 * c then some (.loop (entryL nt lin ps a b vs (256 * c + 1))) else if i = 256 * c + 1 then some .dfr else h.f i := by
  simp only [entryH, set_f]
theorem rangeV_of {o : Orc FH} {nt : Nat} {lin : List Nat} {ps : Array Tmp} {a b : ACode} {g : FuncId} {cap : Array Value} {vs : List Value} {h : FH} {c : Nat} {df : List Nat} {Q : Ex × FH × Nat × List Nat → Prop}
    (hr : Ans (o (.fn g) (.func (.yield (256 * c)) #[] #[] :: cap.toList) (entryH h c nt lin ps a b vs) (c + 1) []) fun r =>
      ∃ st e, HeapC.get r.h (256 * c) = some (.loop st) ∧ st.state ≠ .busy ∧ exOf st.pending = some e ∧ Q (e, HeapC.del r.h (256 * c), r.c, (256 * c + 1) :: df)) :
    Ans (rangeV o nt none lin [] ps a b (.func (.func g) [].toArray cap) vs h c df) Q := by
  obtain ⟨r, e1, st, e, hg, hs, he, hq⟩ := hr
  refine ⟨_, ?_, hq⟩
  simp only [entryH, entryL] at e1
  have hs' : decide (st.state = LoopState.busy) = false := decide_eq_false hs
  simp only [rangeV, enterDfr, Option.bind_some, List.nil_append, List.singleton_append, e1, hg, hs', cond_false, he]
theorem beginSt_of {h : FH} {l : Nat} {st : ALoop} (hg : HeapC.get h l = some (.loop st)) (hs : st.state = .ready) : beginSt h l = some (HeapC.set h l (.loop { st with state := .busy })) := by
  simp [beginSt, hg, hs]
theorem setState_of {h : FH} {l : Nat} {st : ALoop} (hg : HeapC.get h l = some (.loop st)) (s : LoopState) (pd : Option Code) : setState h l s pd = some (HeapC.set h l (.loop { st with state := s, pending := pd })) := by
  simp [setState, hg]
@[simp] theorem get_set_same (h : FH) (i : Nat) (b : ABlk) : HeapC.get (HeapC.set h i b) i = some b := by simp [HeapC.get_set]
@[simp] theorem get_set_ne (h : FH) (i j : Nat) (b : ABlk) (hne : j ≠ i) : HeapC.get (HeapC.set h i b) j = HeapC.get h j := by simp [HeapC.get_set, hne]
@[simp] theorem get_del_ne (h : FH) (i j : Nat) (hne : j ≠ i) : HeapC.get (HeapC.del h i) j = HeapC.get h j := by simp [HeapC.get_del, hne]
@[simp] theorem ld1_set_ne (h : FH) (i j o : Nat) (b : ABlk) (hne : j ≠ i) : ld1 (HeapC.set h i b) (.pointer (some ⟨j, o, none⟩)) = ld1 h (.pointer (some ⟨j, o, none⟩)) := by simp [ld1, asPtr, rdCell, getCells, hne]
@[simp] theorem ldN_set_ne (h : FH) (n i j o : Nat) (b : ABlk) (hne : j ≠ i) : ldN (HeapC.set h i b) n (.pointer (some ⟨j, o, none⟩)) = ldN h n (.pointer (some ⟨j, o, none⟩)) := by simp [ldN, asPtr, rdCells, getCells, hne]
@[simp] theorem ld1_del_ne (h : FH) (i j o : Nat) (hne : j ≠ i) : ld1 (HeapC.del h i) (.pointer (some ⟨j, o, none⟩)) = ld1 h (.pointer (some ⟨j, o, none⟩)) := by simp [ld1, asPtr, rdCell, getCells, hne]
@[simp] theorem ldN_del_ne (h : FH) (n i j o : Nat) (hne : j ≠ i) : ldN (HeapC.del h i) n (.pointer (some ⟨j, o, none⟩)) = ldN h n (.pointer (some ⟨j, o, none⟩)) := by simp [ldN, asPtr, rdCells, getCells, hne]
theorem Holds.set_ne {h : FH} {i j : Nat} {b : ABlk} {ds : List Value} (hne : j ≠ i) (hh : Holds h j ds) : Holds (HeapC.set h i b) j ds := by
  obtain ⟨ro, op, e⟩ := hh
  exact ⟨ro, op, by rw [get_set_ne h i j b hne]; exact e⟩
theorem Holds.same {h h' : FH} {c j : Nat} {ds : List Value} (hj : j < 256 * c) (hs : Same c h h') (hh : Holds h j ds) : Holds h' j ds := by
  obtain ⟨ro, op, e⟩ := hh
  exact ⟨ro, op, (hs j hj).trans e⟩
theorem ld1_holds' {h : FH} {b o : Nat} {cs : List Value} (hh : Holds h b cs) : ld1 h (.pointer (some ⟨b, o, none⟩)) = cs[o]? := by
  obtain ⟨ro, op, e⟩ := hh
  simp [ld1, asPtr, rdCell, getCells, e]
theorem st1_get {h : FH} {b o : Nat} {op : Option Nat} {cs : List Value} {v : Value} (hg : HeapC.get h b = some (.cells false op cs)) (ho : o < cs.length) (hv : v.cells = #[v]) (hf : isFlat v = true) :
    stN h 1 (.pointer (some ⟨b, o, none⟩)) v = some (HeapC.set h b (.cells false op (cs.set o v))) := by
  have h1 : Nat.ble (o + 1) cs.length = true := Nat.ble_eq_true_of_le (by omega)
  simp [stN, asPtr, hv, wrCells, hg, h1, hf, splice_one cs o v ho]
@[simp] theorem sameB_self (x : Option Nat) (h : FH) : sameB x h h = true := by
  unfold sameB
  split
  · show @decide _ (Classical.propDecidable _) = true
    simp
  · rfl
theorem getD_drop (l : List Int) (i j : Nat) : (l.drop i).getD j 0 = l.getD (i + j) 0 := by simp [List.getD]
theorem getD_take (l : List Int) (i j : Nat) (h : j < i) : (l.take i).getD j 0 = l.getD j 0 := by simp [List.getD, List.getElem?_take, h]
@[simp] theorem set_set (h : FH) (i : Nat) (a b : ABlk) : HeapC.set (HeapC.set h i a) i b = HeapC.set h i b := by
  apply FH.ext; intro j; simp only [set_f]; split <;> rfl
@[simp] theorem setState_set (h : FH) (l : Nat) (st : ALoop) (s : LoopState) (pd : Option Code) : setState (HeapC.set h l (.loop st)) l s pd = some (HeapC.set h l (.loop { st with state := s, pending := pd })) := by
  rw [setState_of (get_set_same h l (.loop st)), set_set]
theorem set_comm (h : FH) (i j : Nat) (a b : ABlk) (hne : i ≠ j) : HeapC.set (HeapC.set h i a) j b = HeapC.set (HeapC.set h j b) i a := by
  apply FH.ext; intro k; simp only [set_f]
  by_cases h1 : k = j
  · have : ¬ k = i := by omega
    rw [if_pos h1, if_neg this, if_pos h1]
  · rw [if_neg h1, if_neg h1]
@[simp] theorem setState_newB (h : FH) (l i : Nat) (cs : List Value) (s : LoopState) (pd : Option Code) (hne : l ≠ i) : setState (newB h i cs) l s pd = (setState h l s pd).map fun h' => newB h' i cs := by
  unfold setState
  rw [get_newB_ne _ _ _ _ hne]
  split
  · simp only [Option.map_some, newB]
    rw [set_comm _ _ _ _ _ (Ne.symm hne)]
  · rfl
@[simp] theorem setState_set_ne (h : FH) (l i : Nat) (b : ABlk) (s : LoopState) (pd : Option Code) (hne : l ≠ i) : setState (HeapC.set h i b) l s pd = (setState h l s pd).map fun h' => HeapC.set h' i b := by
  unfold setState
  rw [get_set_ne _ _ _ _ hne]
  split
  · simp only [Option.map_some]
    rw [set_comm _ _ _ _ _ (Ne.symm hne)]
  · rfl
@[simp] theorem gv_undef (w : Bool) : gv undef w = some false := rfl
end Go.Ab

namespace Go.Proofs.Ytcnndelmnobigaa
open Go Go.Ab Go.Proofs
set_option maxRecDepth 100000
set_option linter.unusedVariables false
set_option linter.unusedSimpArgs false
theorem eq_face5 (a0 a1 a2 a3 a4 b0 b1 b2 b3 b4 : Int) : aBinOp0 P .eql 41 (av [a0, a1, a2, a3, a4]) (av [b0, b1, b2, b3, b4]) =
    (cond (a0 == b0) ((cond (a1 == b1) (cond (a2 == b2) (cond (a3 == b3) (cond (a4 == b4) (some true) (some false)) (some false)) (some false)) (some false)).bind fun r => cond r (some true) (some false)) (some false)).bind fun b => some (.bool b) := by kernel_rfl
theorem eq_face (x y : List Int) (hx : x.length = 5) (hy : y.length = 5) : aBinOp P .eql 41 (av x) (av y) = some (.bool (decide (x = y))) := by
  match x, hx, y, hy with
  | [a0, a1, a2, a3, a4], _, [b0, b1, b2, b3, b4], _ =>
    rw [aBinOp_eq, eq_face5]
    by_cases h0 : a0 = b0 <;> by_cases h1 : a1 = b1 <;> by_cases h2 : a2 = b2 <;> by_cases h3 : a3 = b3 <;> by_cases h4 : a4 = b4 <;> simp [h0, h1, h2, h3, h4, Bool.cond_eq_ite]
theorem neq_face (x y : List Int) (hx : x.length = 5) (hy : y.length = 5) : aBinOp P .neq 41 (av x) (av y) = some (.bool (!decide (x = y))) := by
  have h := eq_face x y hx hy
  rw [aBinOp_eq] at h ⊢
  have e1 : aBinOp0 P .eql 41 (av x) (av y) = cond (guardOk P 41 (av x)) ((aEq P eqDepth 41 (av x) (av y)).bind fun b => some (.bool b)) none := rfl
  have e2 : aBinOp0 P .neq 41 (av x) (av y) = cond (guardOk P 41 (av x)) ((aEq P eqDepth 41 (av x) (av y)).bind fun b => some (.bool (!b))) none := rfl
  rw [e1] at h
  rw [e2]
  cases hg : guardOk P 41 (av x) with
  | false => rw [hg] at h; cases h
  | true =>
    rw [hg] at h
    simp only [cond_true] at h ⊢
    cases hq : aEq P eqDepth 41 (av x) (av y) with
    | none => rw [hq] at h; cases h
    | some b => rw [hq] at h; simp only [Option.bind_some, Option.some.injEq, Value.bool.injEq] at h ⊢; rw [h]
structure FacesI (y : Value) (s : Value) (n : Nat) (Gl : List Int) (gb : Nat) (I : Nat → FH → Nat → Prop) (J : FH → Nat → Prop) : Prop where
  stab : ∀ k h c h' c', I k h c → c ≤ c' → Same c h h' → I k h' c'
  jstab : ∀ h c h' c', J h c → c ≤ c' → Same c h h' → J h' c'
  read : ∀ k h c, I k h c → Holds h gb [s] ∧ SlI h c s 20 n Gl
  step : ∀ t f h c, t < n → f < 4 → I (4 * t + f) h c →
    Ans (callV G h c y [av [(t : Int), (f : Int)], av (faceL Gl t f)]) (fun q => c ≤ q.2.2 ∧ ((q.1 = .bool true ∧ I (4 * t + f + 1) q.2.1 q.2.2) ∨ (q.1 = .bool false ∧ J q.2.1 q.2.2)))
theorem faces_in {y s : Value} {n : Nat} {Gl : List Int} {gb : Nat} {I : Nat → FH → Nat → Prop} {J : FH → Nat → Prop} (hI : FacesI y s n Gl gb I J) (hG : Gl.length = n * 20) (t : Nat) (ht : t < n) (df : List Nat) :
    ∀ (k f : Nat) (h : FH) (c : Nat), f + k = 4 → I (4 * t + f) h c →
    Ans (G (f91_k91001 none) [y, ptrTo gb, .int .i64 t, .int .i64 n, .int .i64 t, av (rowL Gl t), .int .i64 f] h c df) fun r => c ≤ r.c ∧ r.df = df ∧
      ((r.e = .exit 2 ∧ r.vs = [y, ptrTo gb, .int .i64 t, .int .i64 n, .int .i64 t, av (rowL Gl t), .int .i64 4] ∧ I (4 * t + 4) r.h r.c) ∨ (r.e = .ret ∧ r.vs.length = 7 ∧ J r.h r.c)) := by
  intro k
  induction k with
  | zero =>
    intro f h c hf hi
    obtain rfl : f = 4 := by omega
    refine .intro (f91_Z91001 (q := ⟨.exit 2, _, h, c + 1, df⟩) (by unfold f91_L91001; simp; rfl) (by simp)) ?_
    exact ⟨by simp, rfl, .inl ⟨rfl, rfl, hI.stab _ _ _ _ _ hi (by simp) (Same.refl _ _)⟩⟩
  | succ k ih =>
    intro f h c hf hi
    have hf4 : f < 4 := by omega
    have e0 : (f : Int) < 4 := by omega
    have hl := faceL_length hG ht hf4
    have hrl := rowL_length hG ht
    have hb : ∀ cs, Same c h (newB h (256 * (c + 1) + 2) cs) := fun cs => (Same.refl _ _).newB (by omega)
    obtain ⟨q, hq, hcq, hcase⟩ := hI.step t f (newB h (256 * (c + 1) + 2) (ints (faceL Gl t f))) (c + 1 + 1 + 1) ht hf4 (hI.stab _ _ _ _ _ hi (by omega) (hb _))
    have e1 : (faceL Gl t f).take 5 = faceL Gl t f := List.take_of_length_le (by omega)
    have body : f91_L91001 G none y (ptrTo gb) (.int .i64 t) (.int .i64 n) (.int .i64 t) (av (rowL Gl t)) (.int .i64 f) h c df =
        (aUnOp .not q.1).bind fun t27 => boolK t27 (some { e := .ret, vs := [y, ptrTo gb, .int .i64 t, .int .i64 n, .int .i64 t, av (rowL Gl t), .int .i64 f], h := q.2.1, c := q.2.2, df := df })
          (some { e := .normal, vs := [y, ptrTo gb, .int .i64 t, .int .i64 n, .int .i64 t, av (rowL Gl t), .int .i64 (f + 1 : Nat)], h := q.2.1, c := q.2.2 + 1, df := df }) := by
      unfold f91_L91001
      simp (disch := (first | omega | (simp <;> omega) | fail)) [e0, ixV_avs, hrl, row_face hf4, hl, e1, bld2, hq]
    rcases hcase with ⟨hv, hi2⟩ | ⟨hv, hj⟩
    · rw [hv] at body
      simp only [aUnOp_not, Option.bind_some, boolK_bool, Bool.not_true, cond_false] at body
      refine (ih (f + 1) q.2.1 (q.2.2 + 1) (by omega) (hI.stab _ _ _ _ _ hi2 (by omega) (Same.refl _ _))).elim fun r ⟨hr, h1, h2⟩ => ?_
      exact .intro (f91_N91001 body rfl hr) ⟨by omega, h2⟩
    · rw [hv] at body
      simp only [aUnOp_not, Option.bind_some, boolK_bool, Bool.not_false, cond_true] at body
      exact .intro (f91_Z91001 body (by simp)) ⟨by simp; omega, rfl, .inr ⟨rfl, rfl, hj⟩⟩
theorem faces_out {y s : Value} {n : Nat} {Gl : List Int} {gb : Nat} {I : Nat → FH → Nat → Prop} {J : FH → Nat → Prop} (hI : FacesI y s n Gl gb I J) (hG : Gl.length = n * 20) (hn : n ≤ 9223372036854775807) (df : List Nat) :
    ∀ (k t : Nat) (h : FH) (c : Nat), t + k = n → I (4 * t) h c →
    Ans (G (f91_k91000 none) [y, ptrTo gb, .int .i64 n, .int .i64 t] h c df) fun r => c ≤ r.c ∧ r.df = df ∧
      ((r.e = .exit 0 ∧ I (4 * n) r.h r.c) ∨ (r.e = .ret ∧ J r.h r.c)) := by
  intro k
  induction k with
  | zero =>
    intro t h c ht hi
    obtain rfl : t = n := by omega
    refine .intro (f91_Z91000 (q := ⟨.exit 0, _, h, c + 1, df⟩) (by unfold f91_L91000; simp; rfl) (by simp)) ?_
    exact ⟨by simp, rfl, .inl ⟨rfl, hI.stab _ _ _ _ _ hi (by simp) (Same.refl _ _)⟩⟩
  | succ k ih =>
    intro t h c ht hi
    have htn : t < n := by omega
    have e0 : (t : Int) < n := by omega
    obtain ⟨hgb, hs⟩ := hI.read _ _ _ hi
    obtain ⟨b, o, cs, e1, hb, hh, hw⟩ := hs.ix .i64 t (by omega) e0
    have e2 : ld1 h (.pointer (some ⟨gb, 0, none⟩)) = some s := by rw [ld1_holds' hgb]; rfl
    have e3 : ldN h 20 (.pointer (some ⟨b, o + t * 20, none⟩)) = some (av (rowL Gl t)) := by
      have := ldN_win hh hw (j := t * 20) (q := 20) (by omega) (by omega)
      rw [this]; unfold rowL; rw [Nat.mul_comm]
    simp only [Int.toNat_natCast] at e1
    obtain ⟨r, hr, hcr, hdf, hcase⟩ := faces_in hI hG t htn df 4 0 h (c + 1 + 1 + 1) rfl (hI.stab _ _ _ _ _ hi (by omega) (Same.refl _ _))
    have body : f91_L91000 G none y (ptrTo gb) (.int .i64 n) (.int .i64 t) h c df =
        cond (exIs r.e (.exit 2)) ((aBinOp P .add 3 (r.v 4) (.int .i64 1)).bind fun t29 => some { e := .normal, vs := [(r.v 0), (r.v 1), (r.v 3), t29], h := r.h, c := (r.c + 1), df := r.df })
          (cond (exIs r.e .ret) (some { e := .ret, vs := [(r.v 0), (r.v 1), (r.v 3), (r.v 4)], h := r.h, c := r.c, df := r.df }) none) := by
      unfold f91_L91000
      simp only [Int.ofNat_eq_natCast, Int.cast_ofNat_Int] at hr
      simp (disch := (first | omega | (simp <;> omega) | fail)) [e0, e2, e1, e3, hr]
    obtain ⟨re, rv, rh, rc, rd⟩ := r
    simp only at hcase hcr hdf
    subst hdf
    rcases hcase with ⟨rfl, rfl, hi2⟩ | ⟨rfl, hl, hj⟩
    · simp (disch := omega) at body
      refine (ih (t + 1) rh (rc + 1) (by omega) (hI.stab _ _ _ _ _ hi2 (by omega) (Same.refl _ _))).elim fun r ⟨hr2, h1, h2⟩ => ?_
      exact .intro (f91_N91000 body rfl (by simpa using hr2)) ⟨by omega, h2⟩
    · simp at body
      exact .intro (f91_Z91000 body (by simp)) ⟨by simp; omega, rfl, .inr ⟨rfl, hj⟩⟩
theorem faces_sp {y s : Value} {n : Nat} {Gl : List Int} {gb : Nat} {I : Nat → FH → Nat → Prop} {J : FH → Nat → Prop} (hI : FacesI y s n Gl gb I J) {h : FH} {c : Nat} (hi : I 0 h c) (df : List Nat) :
    Ans (G (.fn 91) [y, ptrTo gb] h c df) fun r => r.e = .ret ∧ r.vs = [.tuple #[]] ∧ r.df = [] ∧ c ≤ r.c ∧ (I (4 * n) r.h r.c ∨ J r.h r.c) := by
  obtain ⟨hgb, hs⟩ := hI.read _ _ _ hi
  obtain ⟨r, hr, hcr, hdf, hcase⟩ := faces_out hI hs.1 hs.2.1 [] n 0 h (c + 1) (by omega) (hI.stab _ _ _ _ _ hi (by omega) (Same.refl _ _))
  have e2 : ld1 h (.pointer (some ⟨gb, 0, none⟩)) = some s := by rw [ld1_holds' hgb]; rfl
  obtain ⟨re, rv, rh, rc, rd⟩ := r
  simp only at hcase hcr hdf
  subst hdf
  simp only [Int.ofNat_eq_natCast, Int.cast_ofNat_Int] at hr
  rcases hcase with ⟨rfl, hi2⟩ | ⟨rfl, hj⟩
  · refine .intro (f91_go (r := { e := .ret, vs := [.tuple #[]], h := rh, c := rc, df := [] }) (by unfold f91_S; simp [e2, hs.len, hr])) ?_
    exact ⟨rfl, rfl, rfl, by simp; omega, .inl hi2⟩
  · refine .intro (f91_go (r := { e := .ret, vs := [.tuple #[]], h := rh, c := rc, df := [] }) (by unfold f91_S; simp [e2, hs.len, hr])) ?_
    exact ⟨rfl, rfl, rfl, by simp; omega, .inr hj⟩
end Go.Proofs.Ytcnndelmnobigaa

namespace Go.Proofs.Ytcnndelmnobigaa
open Go Go.Ab Go.Proofs
set_option maxRecDepth 100000
set_option linter.unusedVariables false
set_option linter.unusedSimpArgs false
theorem callF_valid (p : List Int) (hp : p.length = 4) (h : FH) (c : Nat) : callF G 84 [av p] h c = some (.bool (validB p), h, c) := callF_of (valid_sp p hp h c [])
theorem callF_inverse (p : List Int) (hp : p.length = 4) (hr : InR p) (h : FH) (c : Nat) : callF G 85 [av p] h c = some (av (inv p), h, c) := callF_of (inverse_sp p hp hr h c [])
theorem check_rnd (s : Value) (n : Nat) (Gl : List Int) (gb rb nb l c0 c : Nat) (st : ALoop) (h : FH) (hc : c0 ≤ c) (t f : Nat) (ht : t < n) (hf : f < 4)
    (hgb : gb < 256 * c0) (hrb : rb < 256 * c0) (hnb : nb < 256 * c0) (hl : l < 256 * c0) (hlr : l ≠ rb) (hlg : l ≠ gb) (hln : l ≠ nb)
    (h1 : Holds h gb [s]) (h2 : SlI h c0 s 20 n Gl) (h3 : Holds h nb (ints noneL)) (h4 : HeapC.get h rb = some (.cells false none [.int .i64 0])) (h5 : HeapC.get h l = some (.loop st)) (h6 : st.state = .ready) :
    Ans (f70_R70000 G l (av [(t : Int), (f : Int)]) (av (faceL Gl t f)) (ptrTo gb) (ptrTo rb) (ptrTo nb) h c) fun r => c ≤ r.c ∧ r.e = .ret ∧ r.df = [] ∧ r.vs = [.bool (okFace Gl n t f)] ∧
      r.h.f l = some (.loop { st with state := if okFace Gl n t f then .ready else .done, pending := if okFace Gl n t f then none else some .ret }) ∧
      (∀ i, i < 256 * c → i ≠ l → r.h.f i = if i = rb ∧ okFace Gl n t f = false then some (.cells false none [.int .i64 7]) else h.f i) := by
  have hx := faceL_length h2.1 ht hf
  have hp := permL_length hx
  have ht5 : (faceL Gl t f).take 5 = faceL Gl t f := List.take_of_length_le (by omega)
  have hnl : noneL.length = 5 := rfl
  obtain ⟨H, hH⟩ : ∃ H, H = HeapC.set (newB (newB h (256 * c) (ints [(t : Int), (f : Int)])) (256 * (c + 1)) (ints (faceL Gl t f))) l (.loop { st with state := .busy }) := ⟨_, rfl⟩
  have hb : beginSt (newB (newB h (256 * c) (ints [(t : Int), (f : Int)])) (256 * (c + 1)) (ints (faceL Gl t f))) l = some H := by
    rw [hH]
    exact beginSt_of (by rw [get_newB_ne _ _ _ _ (by omega), get_newB_ne _ _ _ _ (by omega)]; exact h5) h6
  have r0 : ∀ j, j < 256 * c → j ≠ l → H.f j = h.f j := by
    intro j hj hne
    rw [hH, set_f, if_neg hne, newB_f, if_neg (by omega), newB_f, if_neg (by omega)]
  have hol : ∀ b cs, b < 256 * c0 → Holds h b cs → Holds H b cs := by
    intro b cs hb ⟨ro, op, e⟩
    have hne : b ≠ l := by
      rintro rfl
      rw [h5] at e; cases e
    exact ⟨ro, op, (r0 b (by omega) hne).trans e⟩
  have hA : Holds H (256 * c) (ints [(t : Int), (f : Int)]) := by
    rw [hH]
    exact (((Holds.newB_same h _ _).newB_ne (by omega)).set_ne (by omega))
  have hB : Holds H (256 * (c + 1)) (ints (faceL Gl t f)) := by
    rw [hH]
    exact ((Holds.newB_same _ _ _).set_ne (by omega))
  have a0 : ld1 H (.pointer (some ⟨256 * c, 0, none⟩)) = some (.int .i64 t) := by rw [ld1_holds' hA]; rfl
  have a1 : ld1 H (.pointer (some ⟨256 * c, 1, none⟩)) = some (.int .i64 f) := by rw [ld1_holds' hA]; rfl
  have b0 : ldN H 5 (.pointer (some ⟨256 * (c + 1), 0, none⟩)) = some (av (faceL Gl t f)) := by
    rw [ldN_holds hB (by simp [hx])]; simp [ht5]
  have b1 : ld1 H (.pointer (some ⟨256 * (c + 1), 0, none⟩)) = some (.int .i64 (tetL (faceL Gl t f))) := by
    rw [ld1_holds' hB, ints_get, List.getElem?_eq_getElem (by omega)]
    simp [tetL, List.getD, List.getElem?_eq_getElem (by omega : 0 < (faceL Gl t f).length)]
  have b2 : ldN H 4 (.pointer (some ⟨256 * (c + 1), 1, none⟩)) = some (av (permL (faceL Gl t f))) := by
    rw [ldN_holds hB (by simp [hx])]; rw [ints_drop, ints_take]; rfl
  have b3 : ld1 H (.pointer (some ⟨256 * (c + 1), 1 + f, none⟩)) = some (.int .i64 ((permL (faceL Gl t f)).getD f 0)) := by
    have hlt : 1 + f < (faceL Gl t f).length := by omega
    rw [ld1_holds' hB, ints_get, List.getElem?_eq_getElem hlt]
    unfold permL
    rw [getD_take _ _ _ hf, getD_drop]
    simp [List.getD, List.getElem?_eq_getElem hlt]
  have e1 : ldN H 5 (.pointer (some ⟨nb, 0, none⟩)) = some (av noneL) := by
    rw [ldN_holds (hol nb _ hnb h3) (by simp [noneL])]; rfl
  have e2 : ld1 H (.pointer (some ⟨gb, 0, none⟩)) = some s := by rw [ld1_holds' (hol gb _ hgb h1)]; rfl
  have e3 := h2.len
  have endT : ∀ c', c ≤ c' → okFace Gl n t f = true → Ans ((setState H l .ready none).bind fun h37 => some ({ e := .ret, vs := [.bool true], h := h37, c := c', df := [] } : Rt FH)) fun r => c ≤ r.c ∧ r.e = .ret ∧ r.df = [] ∧ r.vs = [.bool (okFace Gl n t f)] ∧
      r.h.f l = some (.loop { st with state := if okFace Gl n t f then .ready else .done, pending := if okFace Gl n t f then none else some .ret }) ∧
      (∀ i, i < 256 * c → i ≠ l → r.h.f i = if i = rb ∧ okFace Gl n t f = false then some (.cells false none [.int .i64 7]) else h.f i) := by
    intro c' hc' ok
    rw [ok, hH, setState_set]
    simp only [Option.bind_some, Ans_some, if_true, Bool.true_eq_false, and_false, if_false]
    refine ⟨hc', trivial, trivial, trivial, by rw [set_f, if_pos rfl], fun i hi hne => ?_⟩
    rw [set_f, if_neg hne, newB_f, if_neg (by omega), newB_f, if_neg (by omega)]
  have endF : ∀ c', c ≤ c' → okFace Gl n t f = false → ∃ H', stN H 1 (.pointer (some ⟨rb, 0, none⟩)) (.int .i64 7) = some H' ∧ Ans ((setState H' l .done (some .ret)).bind fun h36 => some ({ e := .ret, vs := [.bool false], h := h36, c := c', df := [] } : Rt FH)) fun r => c ≤ r.c ∧ r.e = .ret ∧ r.df = [] ∧ r.vs = [.bool (okFace Gl n t f)] ∧
      r.h.f l = some (.loop { st with state := if okFace Gl n t f then .ready else .done, pending := if okFace Gl n t f then none else some .ret }) ∧
      (∀ i, i < 256 * c → i ≠ l → r.h.f i = if i = rb ∧ okFace Gl n t f = false then some (.cells false none [.int .i64 7]) else h.f i) := by
    intro c' hc' ok
    have hg : HeapC.get H rb = some (.cells false none [.int .i64 0]) := (r0 rb (by omega) (Ne.symm hlr)).trans h4
    refine ⟨_, st1_get (cs := [.int .i64 0]) hg (by simp) rfl rfl, ?_⟩
    rw [ok, setState_set_ne _ _ _ _ _ _ hlr, hH, setState_set]
    simp only [Option.map_some, Option.bind_some, Ans_some, Bool.false_eq_true, if_false, and_true]
    refine ⟨hc', trivial, trivial, trivial, by rw [set_f, if_neg hlr, set_f, if_pos rfl], fun i hi hne => ?_⟩
    rw [set_f]
    split
    · rfl
    · rw [set_f, if_neg hne, newB_f, if_neg (by omega), newB_f, if_neg (by omega)]
  clear hH
  have hface : ∀ u j : Int, 0 ≤ u → u < n → 0 ≤ j → j < 4 → ∃ b o, ixS 20 s (.int .i64 u) = some (.pointer (some ⟨b, o + u.toNat * 20, none⟩)) ∧ ldN H 5 (.pointer (some ⟨b, o + u.toNat * 20 + j.toNat * 5, none⟩)) = some (av (faceL Gl u.toNat j.toNat)) := by
    intro u j u1 u2 j1 j2
    obtain ⟨b, o, cs, x1, x2, x3, x4⟩ := h2.ix .i64 u u1 u2
    refine ⟨b, o, x1, ?_⟩
    have := h2.1
    rw [Nat.add_assoc, ldN_win (hol b cs x2 x3) x4 (j := u.toNat * 20 + j.toNat * 5) (q := 5) (by omega) (by omega)]
    unfold faceL
    rw [Nat.mul_comm 20, Nat.mul_comm 5]
  unfold f70_R70000
  rw [stN_ptrTo, Nat.add_zero, stN_all _ _ 2 _ [(t : Int), (f : Int)] rfl rfl]
  simp only [Option.bind_some]
  rw [stN_ptrTo, Nat.add_zero, stN_all _ _ 5 _ _ hx rfl]
  simp only [Option.bind_some, hb]
  by_cases q1 : faceL Gl t f = noneL
  · have ok : okFace Gl n t f = true := by simp [okFace, q1]
    refine Ans.step (v := ({ e := .normal, vs := [], h := H, c := c + 1 + 1 + 1, df := [] } : Rt FH)) ?_ (endT (c + 1 + 1 + 1) (by omega) ok)
    apply Ans.eq
    repeat (first | (with_reducible refine Ans.bt ?_ ?_; exact rfl) | (with_reducible refine Ans.bf ?_ ?_; exact rfl) | (with_reducible refine Ans.ct ?_ ?_; focus (simp; done)) | (with_reducible refine Ans.cf ?_ ?_; focus (simp; done)) | refine Ans.step (by (simp (disch := (first | omega | (simp <;> omega) | fail)) [b0, e1, eq_face, hx, hnl, q1, -List.getD_eq_getElem?_getD]) <;> rfl) ?_)
    exact Ans.done rfl
  · by_cases q2 : tetL (faceL Gl t f) < 0
    · have ok : okFace Gl n t f = false := by
        have : ¬ (0 ≤ tetL (faceL Gl t f)) := by omega
        simp [okFace, q1, this]
      obtain ⟨H', x1, x2⟩ := endF (c + 1 + 1 + 1 + 1 + 1) (by omega) ok
      refine Ans.step (v := ({ e := .ret, vs := [], h := H', c := c + 1 + 1 + 1 + 1 + 1, df := [] } : Rt FH)) ?_ x2
      apply Ans.eq
      repeat (first | (with_reducible refine Ans.bt ?_ ?_; exact rfl) | (with_reducible refine Ans.bf ?_ ?_; exact rfl) | (with_reducible refine Ans.ct ?_ ?_; focus (simp; done)) | (with_reducible refine Ans.cf ?_ ?_; focus (simp; done)) | refine Ans.step (by (simp (disch := (first | omega | (simp <;> omega) | fail)) [b0, b1, e1, eq_face, hx, hnl, q1, q2, x1, -List.getD_eq_getElem?_getD]) <;> rfl) ?_)
      exact Ans.done rfl
    · by_cases q3 : (n : Int) ≤ tetL (faceL Gl t f)
      · have ok : okFace Gl n t f = false := by
          have : ¬ (tetL (faceL Gl t f) < n) := by omega
          simp [okFace, q1, this]
        obtain ⟨H', x1, x2⟩ := endF (c + 1 + 1 + 1 + 1 + 1) (by omega) ok
        refine Ans.step (v := ({ e := .ret, vs := [], h := H', c := c + 1 + 1 + 1 + 1 + 1, df := [] } : Rt FH)) ?_ x2
        apply Ans.eq
        repeat (first | (with_reducible refine Ans.bt ?_ ?_; exact rfl) | (with_reducible refine Ans.bf ?_ ?_; exact rfl) | (with_reducible refine Ans.ct ?_ ?_; focus (simp; done)) | (with_reducible refine Ans.cf ?_ ?_; focus (simp; done)) | refine Ans.step (by (simp (disch := (first | omega | (simp <;> omega) | fail)) [b0, b1, e1, e2, e3, eq_face, hx, hnl, q1, q2, q3, x1, -List.getD_eq_getElem?_getD]) <;> rfl) ?_)
        exact Ans.done rfl
      · cases q4 : validB (permL (faceL Gl t f)) with
        | false =>
          have ok : okFace Gl n t f = false := by simp [okFace, q1, q4]
          obtain ⟨H', x1, x2⟩ := endF (c + 1 + 1 + 1 + 1 + 1) (by omega) ok
          refine Ans.step (v := ({ e := .ret, vs := [], h := H', c := c + 1 + 1 + 1 + 1 + 1, df := [] } : Rt FH)) ?_ x2
          apply Ans.eq
          repeat (first | (with_reducible refine Ans.bt ?_ ?_; exact rfl) | (with_reducible refine Ans.bf ?_ ?_; exact rfl) | (with_reducible refine Ans.ct ?_ ?_; focus (simp; done)) | (with_reducible refine Ans.cf ?_ ?_; focus (simp; done)) | refine Ans.step (by (simp (disch := (first | omega | (simp <;> omega) | fail)) [b0, b1, b2, e1, e2, e3, eq_face, hx, hnl, q1, q2, q3, q4, x1, callF_valid, hp, -List.getD_eq_getElem?_getD]) <;> rfl) ?_)
          exact Ans.done rfl
        | true =>
          have hr := validB_range q4
          have hpr : 0 ≤ (permL (faceL Gl t f)).getD f 0 ∧ (permL (faceL Gl t f)).getD f 0 < 4 := by
            have hlt : f < (permL (faceL Gl t f)).length := by omega
            have := hr _ (List.getElem_mem hlt)
            simpa [List.getD, List.getElem?_eq_getElem hlt] using this
          have ft : (f : Int) < 4 := by omega
          by_cases q5 : tetL (faceL Gl t f) = t ∧ (permL (faceL Gl t f)).getD f 0 = f
          · obtain ⟨q5, q6⟩ := q5
            have ok : okFace Gl n t f = false := by simp [okFace, q1, q5, q6, -List.getD_eq_getElem?_getD]
            obtain ⟨H', x1, x2⟩ := endF (c + 1 + 1 + 1 + 1 + 1) (by omega) ok
            have q2' : ¬ (t : Int) < 0 := by omega
            have q3' : ¬ (n : Int) ≤ t := by omega
            refine Ans.step (v := ({ e := .ret, vs := [], h := H', c := c + 1 + 1 + 1 + 1 + 1, df := [] } : Rt FH)) ?_ x2
            apply Ans.eq
            repeat (first | (with_reducible refine Ans.bt ?_ ?_; exact rfl) | (with_reducible refine Ans.bf ?_ ?_; exact rfl) | (with_reducible refine Ans.ct ?_ ?_; focus (simp; done)) | (with_reducible refine Ans.cf ?_ ?_; focus (simp; done)) | refine Ans.step (by (simp (disch := (first | omega | (simp <;> omega) | fail)) [b0, b1, b2, b3, a0, a1, e1, e2, e3, eq_face, hx, hnl, q1, q2', q3', q4, q5, q6, ft, x1, callF_valid, hp, -List.getD_eq_getElem?_getD]) <;> rfl) ?_)
            exact Ans.done rfl
          · obtain ⟨b, o, f1, f2⟩ := hface (tetL (faceL Gl t f)) ((permL (faceL Gl t f)).getD f 0) (by omega) (by omega) hpr.1 hpr.2
            have hfl : (faceL Gl (tetL (faceL Gl t f)).toNat ((permL (faceL Gl t f)).getD f 0).toNat).length = 5 := faceL_length h2.1 (by omega) (by omega)
            have hil : (inv (permL (faceL Gl t f))).length = 4 := invL_length _ _ _
            have hil5 : ((t : Int) :: inv (permL (faceL Gl t f))).length = 5 := by rw [List.length_cons, hil]
            have q5d : (decide (tetL (faceL Gl t f) = (t : Int)) && decide ((permL (faceL Gl t f)).getD f 0 = (f : Int))) = false := by simpa [-List.getD_eq_getElem?_getD] using q5
            have key : ∀ X : Bool, decide (faceL Gl (tetL (faceL Gl t f)).toNat ((permL (faceL Gl t f)).getD f 0).toNat = (t : Int) :: inv (permL (faceL Gl t f))) = X → okFace Gl n t f = X := by
              intro X hX
              unfold okFace
              rw [hX, q5d, q4]
              have z1 : 0 ≤ tetL (faceL Gl t f) := by omega
              have z2 : tetL (faceL Gl t f) < n := by omega
              simp [q1, z1, z2]
            have dd : ∃ X : Bool, decide (tetL (faceL Gl t f) = (t : Int)) = X ∧ (X = true → decide ((permL (faceL Gl t f)).getD f 0 = (f : Int)) = false) := by
              refine ⟨_, rfl, fun e => ?_⟩
              rw [e] at q5d
              simpa only [Bool.true_and] using q5d
            obtain ⟨X, d5, d6⟩ := dd
            cases q7 : decide (faceL Gl (tetL (faceL Gl t f)).toNat ((permL (faceL Gl t f)).getD f 0).toNat = (t : Int) :: inv (permL (faceL Gl t f))) with
            | true =>
              have ok := key _ q7
              refine Ans.step (v := ({ e := .normal, vs := [], h := H, c := c + 1 + 1 + 1 + 1 + 1, df := [] } : Rt FH)) ?_ (endT (c + 1 + 1 + 1 + 1 + 1) (by omega) ok)
              apply Ans.eq
              cases X with
              | true =>
                have d6' := d6 rfl
                repeat (first | (with_reducible refine Ans.bt ?_ ?_; exact rfl) | (with_reducible refine Ans.bf ?_ ?_; exact rfl) | (with_reducible refine Ans.ct ?_ ?_; focus (simp; done)) | (with_reducible refine Ans.cf ?_ ?_; focus (simp; done)) | refine Ans.step (by (simp (disch := (first | omega | (simp <;> omega) | fail)) [b0, b1, b2, b3, a0, a1, e1, e2, e3, eq_face, neq_face, hx, hnl, q1, q2, q3, q4, d5, d6', ft, callF_valid, callF_inverse, hp, hr, hpr, f1, f2, bld5, hil, hfl, q7, -List.getD_eq_getElem?_getD]) <;> rfl) ?_)
                exact Ans.done rfl
              | false =>
                repeat (first | (with_reducible refine Ans.bt ?_ ?_; exact rfl) | (with_reducible refine Ans.bf ?_ ?_; exact rfl) | (with_reducible refine Ans.ct ?_ ?_; focus (simp; done)) | (with_reducible refine Ans.cf ?_ ?_; focus (simp; done)) | refine Ans.step (by (simp (disch := (first | omega | (simp <;> omega) | fail)) [b0, b1, b2, b3, a0, a1, e1, e2, e3, eq_face, neq_face, hx, hnl, q1, q2, q3, q4, d5, ft, callF_valid, callF_inverse, hp, hr, hpr, f1, f2, bld5, hil, hfl, q7, -List.getD_eq_getElem?_getD]) <;> rfl) ?_)
                exact Ans.done rfl
            | false =>
              have ok := key _ q7
              obtain ⟨H', x1, x2⟩ := endF (c + 1 + 1 + 1 + 1 + 1 + 1) (by omega) ok
              refine Ans.step (v := ({ e := .ret, vs := [], h := H', c := c + 1 + 1 + 1 + 1 + 1 + 1, df := [] } : Rt FH)) ?_ x2
              apply Ans.eq
              cases X with
              | true =>
                have d6' := d6 rfl
                repeat (first | (with_reducible refine Ans.bt ?_ ?_; exact rfl) | (with_reducible refine Ans.bf ?_ ?_; exact rfl) | (with_reducible refine Ans.ct ?_ ?_; focus (simp; done)) | (with_reducible refine Ans.cf ?_ ?_; focus (simp; done)) | refine Ans.step (by (simp (disch := (first | omega | (simp <;> omega) | fail)) [b0, b1, b2, b3, a0, a1, e1, e2, e3, eq_face, neq_face, hx, hnl, q1, q2, q3, q4, d5, d6', ft, callF_valid, callF_inverse, hp, hr, hpr, f1, f2, bld5, hil, hfl, q7, x1, -List.getD_eq_getElem?_getD]) <;> rfl) ?_)
                exact Ans.done rfl
              | false =>
                repeat (first | (with_reducible refine Ans.bt ?_ ?_; exact rfl) | (with_reducible refine Ans.bf ?_ ?_; exact rfl) | (with_reducible refine Ans.ct ?_ ?_; focus (simp; done)) | (with_reducible refine Ans.cf ?_ ?_; focus (simp; done)) | refine Ans.step (by (simp (disch := (first | omega | (simp <;> omega) | fail)) [b0, b1, b2, b3, a0, a1, e1, e2, e3, eq_face, neq_face, hx, hnl, q1, q2, q3, q4, d5, ft, callF_valid, callF_inverse, hp, hr, hpr, f1, f2, bld5, hil, hfl, q7, x1, -List.getD_eq_getElem?_getD]) <;> rfl) ?_)
                exact Ans.done rfl
end Go.Proofs.Ytcnndelmnobigaa

namespace Go.Proofs.Ytcnndelmnobigaa
open Go Go.Ab Go.Proofs
set_option maxRecDepth 100000
set_option linter.unusedVariables false
set_option linter.unusedSimpArgs false
structure ChkI (s : Value) (n : Nat) (Gl : List Int) (gb gi rb nb l : Nat) (st : ALoop) (c0 ce : Nat) (h0 : FH) (k : Nat) (h : FH) (c : Nat) : Prop where
  lc : c0 ≤ c
  g : Holds h gb [s]
  i : Holds h gi [s]
  sl : SlI h c0 s 20 n Gl
  nn : Holds h nb (ints noneL)
  res : h.f rb = some (.cells false none [.int .i64 0])
  loop : h.f l = some (.loop st)
  dfr : h.f (l + 1) = some .dfr
  same : Same ce h0 h
  ok : okUpTo Gl n k
structure ChkJ (n : Nat) (Gl : List Int) (rb l : Nat) (st : ALoop) (c0 ce : Nat) (h0 : FH) (h : FH) (c : Nat) : Prop where
  lc : c0 ≤ c
  res : h.f rb = some (.cells false none [.int .i64 7])
  loop : h.f l = some (.loop { st with state := .done, pending := some .ret })
  dfr : h.f (l + 1) = some .dfr
  same : Same ce h0 h
  bad : ∃ j, j < 4 * n ∧ okFace Gl n (j / 4) (j % 4) = false
theorem check_sp (s : Value) (n : Nat) (Gl : List Int) (h0 : FH) (ce : Nat) (df : List Nat) (hs : SlI h0 ce s 20 n Gl) :
    G (.fn 70) [.agg #[s]] h0 ce df = some { e := .ret, vs := [.int .i64 (if n ≤ 1000 ∧ okAll Gl n = true then 0 else 7)], h := h0, c := ce, df := [] } := by
  refine pure_of (fun r e => f70_go e) (by simp) ?_
  have hflat : ((Value.agg #[s]).cells.toList.all isFlat) = true := by
    obtain ⟨_, _, a, cap, rfl, _⟩ := hs
    rfl
  have hcell : (Value.agg #[s]).cells.toList = [s] := rfl
  have hlen := hs.len
  unfold f70_S
  rw [hflat, hcell]
  simp only [cond_true]
  by_cases hn : n ≤ 1000
  · have hn' : ¬ (1000 : Int) < n := by omega
    have hbn : bldV [.int .i64 0, .int .i64 0, .int .i64 0, .int .i64 0, .int .i64 0] [(0, 1, .int .i64 (-1))] = some (av noneL) := rfl
    have hnl : noneL.length = 5 := rfl
    repeat (first | (with_reducible refine Ans.bt ?_ ?_; exact rfl) | (with_reducible refine Ans.bf ?_ ?_; exact rfl) | (with_reducible refine Ans.ct ?_ ?_; focus (simp; done)) | (with_reducible refine Ans.cf ?_ ?_; focus (simp; done)) | refine Ans.step (by (simp (disch := (first | omega | (simp <;> omega) | fail)) [hlen, hn', hbn, hnl, -List.getD_eq_getElem?_getD]) <;> rfl) ?_)
    obtain ⟨H, hH⟩ : ∃ H, H = newB (newB (newB h0 (256 * ce) [s]) (256 * ce + 1) [.int .i64 0]) (256 * (ce + 1 + 1) + 1) (ints noneL) := ⟨_, rfl⟩
    have hc130 : callF G 83 [.agg #[s]] H (ce + 1 + 1 + 1 + 1) = some (.func (.func 91) [].toArray [ptrTo (256 * (ce + 1 + 1 + 1 + 1))].toArray, newB H (256 * (ce + 1 + 1 + 1 + 1)) [s], ce + 1 + 1 + 1 + 1 + 1 + 1) := by
      refine callF_of (f83_go (r := { e := .ret, vs := [_], h := _, c := _, df := [] }) ?_)
      unfold f83_S
      rw [hflat, hcell]
      simp
    rw [← hH]
    refine Ans.step hc130 ?_
    dsimp only
    simp only [Nat.add_zero]
    obtain ⟨l, hl⟩ : ∃ l, l = 256 * (ce + 1 + 1 + 1 + 1 + 1 + 1) := ⟨_, rfl⟩
    obtain ⟨st, hst⟩ : ∃ st, st = entryL 71 [1, 2, 3] #[13, 14] f70_a70000 f70_c70000 [ptrTo (256 * ce), ptrTo (256 * ce + 1), ptrTo (256 * (ce + 1 + 1) + 1)] (l + 1) := ⟨_, rfl⟩
    have hI : FacesI (.func (.yield l) #[] #[]) s n Gl (256 * (ce + 1 + 1 + 1 + 1))
        (ChkI s n Gl (256 * ce) (256 * (ce + 1 + 1 + 1 + 1)) (256 * ce + 1) (256 * (ce + 1 + 1) + 1) l st (ce + 1 + 1 + 1 + 1 + 1 + 1 + 1) ce h0)
        (ChkJ n Gl (256 * ce + 1) l st (ce + 1 + 1 + 1 + 1 + 1 + 1 + 1) ce h0) := by
      refine ⟨fun k h c h' c' hi hc hs => ?_, fun h c h' c' hj hc hs => ?_, fun k h c hi => ⟨hi.i, hi.sl.mono hi.lc⟩, fun t f h c ht hf hi => ?_⟩
      · have := hi.lc
        exact ⟨by omega, hi.g.same (by omega) hs, hi.i.same (by omega) hs, hi.sl.same (hs.mono (by omega)), hi.nn.same (by omega) hs, (hs _ (by omega)).trans hi.res, (hs _ (by omega)).trans hi.loop, (hs _ (by omega)).trans hi.dfr, hi.same.trans (hs.mono (by omega)), hi.ok⟩
      · have := hj.lc
        exact ⟨by omega, (hs _ (by omega)).trans hj.res, (hs _ (by omega)).trans hj.loop, (hs _ (by omega)).trans hj.dfr, hj.same.trans (hs.mono (by omega)), hj.bad⟩
      · have hlc := hi.lc
        refine callV_yield (st := st) hi.loop (by rw [hst]; rfl) (by rw [hst]; rfl) ?_
        obtain ⟨r, hr, r1, r2, r3, r4, r5, r6⟩ := check_rnd s n Gl (256 * ce) (256 * ce + 1) (256 * (ce + 1 + 1) + 1) l (ce + 1 + 1 + 1 + 1 + 1 + 1 + 1) c st h hlc t f ht hf (by omega) (by omega) (by omega) (by omega) (by omega) (by omega) (by omega)
          hi.g hi.sl hi.nn hi.res hi.loop (by rw [hst]; rfl)
        have hk : G (.rnd st.nt st.lin st.fr st.params l st.assign st.body) ([av [(t : Int), (f : Int)], av (faceL Gl t f)] ++ st.vals) h c [] = some r := by rw [hst]; exact f70_G70000 hr
        refine .intro hk ⟨_, r4, r1, ?_⟩
        dsimp only
        have hk4 : (4 * t + f) / 4 = t ∧ (4 * t + f) % 4 = f := by omega
        have hold : ∀ b cs, b < 256 * c → b ≠ l → b ≠ 256 * ce + 1 → Holds h b cs → Holds r.h b cs := by
          intro b cs h1 h2 h3 ⟨ro, op, e⟩
          refine ⟨ro, op, ?_⟩
          have := r6 b h1 h2
          rw [if_neg (fun hh => h3 hh.1)] at this
          exact this.trans e
        cases hok : okFace Gl n t f with
        | true =>
          left
          rw [hok] at r5 r6
          refine ⟨rfl, ?_⟩
          have hfe : ∀ i, i < 256 * c → r.h.f i = h.f i := by
            intro i hi'
            by_cases e : i = l
            · rw [e, r5, hi.loop]; rw [hst]; rfl
            · rw [r6 i hi' e, if_neg (fun hh => by cases hh.2)]
          have hsm : Same c h r.h := hfe
          refine ⟨by omega, hi.g.same (by omega) hsm, hi.i.same (by omega) hsm, hi.sl.same (hsm.mono (by omega)), hi.nn.same (by omega) hsm, (hsm _ (by omega)).trans hi.res, (hsm _ (by omega)).trans hi.loop, (hsm _ (by omega)).trans hi.dfr, hi.same.trans (hsm.mono (by omega)), ?_⟩
          intro j hj
          by_cases e : j = 4 * t + f
          · rw [e, hk4.1, hk4.2]; exact hok
          · exact hi.ok j (by omega)
        | false =>
          right
          rw [hok] at r5 r6
          refine ⟨rfl, by omega, ?_, ?_, ?_, ?_, ⟨4 * t + f, by omega, by rw [hk4.1, hk4.2]; exact hok⟩⟩
          · rw [r6 _ (by omega) (by omega), if_pos ⟨rfl, rfl⟩]
          · rw [r5]; rfl
          · rw [r6 _ (by omega) (by omega), if_neg (by omega)]; exact hi.dfr
          · intro i hi'
            rw [r6 i (by omega) (by omega), if_neg (by omega)]
            exact hi.same i hi'
    have hH0 : ∀ i, i < 256 * ce → H.f i = h0.f i := by
      intro i hi'
      rw [hH, newB_f, if_neg (by omega), newB_f, if_neg (by omega), newB_f, if_neg (by omega)]
    obtain ⟨E, hE⟩ : ∃ E, E = entryH (newB H (256 * (ce + 1 + 1 + 1 + 1)) [s]) (ce + 1 + 1 + 1 + 1 + 1 + 1) 71 [1, 2, 3] #[13, 14] f70_a70000 f70_c70000 [ptrTo (256 * ce), ptrTo (256 * ce + 1), ptrTo (256 * (ce + 1 + 1) + 1)] := ⟨_, rfl⟩
    have hEf : ∀ i, i < l → E.f i = (newB H (256 * (ce + 1 + 1 + 1 + 1)) [s]).f i := by
      intro i hi'
      rw [hE, entryH_f, if_neg (by omega), if_neg (by omega)]
    have hI0 : ChkI s n Gl (256 * ce) (256 * (ce + 1 + 1 + 1 + 1)) (256 * ce + 1) (256 * (ce + 1 + 1) + 1) l st (ce + 1 + 1 + 1 + 1 + 1 + 1 + 1) ce h0 0 E (ce + 1 + 1 + 1 + 1 + 1 + 1 + 1) := by
      have hsame : Same ce h0 E := by
        intro i hi'
        rw [hEf i (by omega), newB_f, if_neg (by omega)]
        exact hH0 i hi'
      refine ⟨Nat.le_refl _, ⟨false, none, ?_⟩, ⟨false, none, ?_⟩, (hs.same hsame).mono (by omega), ⟨false, none, ?_⟩, ?_, ?_, ?_, hsame, fun j hj => by omega⟩
      · show E.f _ = _
        rw [hEf _ (by omega), newB_f, if_neg (by omega), hH, newB_f, if_neg (by omega), newB_f, if_neg (by omega), newB_f, if_pos rfl]
      · show E.f _ = _
        rw [hEf _ (by omega), newB_f, if_pos rfl]
      · show E.f _ = _
        rw [hEf _ (by omega), newB_f, if_neg (by omega), hH, newB_f, if_pos rfl]
      · rw [hEf _ (by omega), newB_f, if_neg (by omega), hH, newB_f, if_neg (by omega), newB_f, if_pos rfl]
      · rw [hE, entryH_f, if_pos hl, hst, hl]
      · rw [hE, entryH_f, if_neg (by omega), if_pos (by omega)]
    obtain ⟨⟨re, rv, rh, rc, rd⟩, hr, r1, r2, r3, r4, r5⟩ := faces_sp hI hI0 []
    simp only at r1 r2 r3 r4 r5
    subst r1 r2 r3
    rw [hl, hE] at hr
    rcases r5 with r5 | r5
    · have hall : okAll Gl n = true := (okAll_iff Gl n).2 r5.ok
      rw [if_pos ⟨hn, hall⟩]
      have hlc := r5.lc
      have hg : HeapC.get rh (256 * ce + 1) = some (.cells false none [.int .i64 0]) := r5.res
      refine Ans.head (R := fun q => q = (Ex.normal, HeapC.del rh l, rc, [l + 1])) (rangeV_of (.intro hr ⟨st, .normal, by rw [← hl]; exact r5.loop, by rw [hst]; simp [entryL], by rw [hst]; rfl, by rw [hl]⟩)) ?_
      rintro _ rfl
      have e1 : stN (HeapC.del rh l) 1 (.pointer (some ⟨256 * ce + 1, 0, none⟩)) (.int .i64 0) = some (HeapC.set (HeapC.del rh l) (256 * ce + 1) (.cells false none [.int .i64 0])) :=
        st1_get (cs := [.int .i64 0]) (by rw [get_del_ne _ _ _ (by omega)]; exact hg) (by simp) rfl rfl
      have e2 : takeAll (HeapC.set (HeapC.del rh l) (256 * ce + 1) (.cells false none [.int .i64 0])) [l + 1] = some (HeapC.del (HeapC.set (HeapC.del rh l) (256 * ce + 1) (.cells false none [.int .i64 0])) (l + 1)) := by
        have : HeapC.get (HeapC.set (HeapC.del rh l) (256 * ce + 1) (.cells false none [.int .i64 0])) (l + 1) = some .dfr := by
          rw [get_set_ne _ _ _ _ (by omega), get_del_ne _ _ _ (by omega)]; exact r5.dfr
        simp [takeAll, this]
      have e3 : ld1 (HeapC.del (HeapC.set (HeapC.del rh l) (256 * ce + 1) (.cells false none [.int .i64 0])) (l + 1)) (.pointer (some ⟨256 * ce + 1, 0, none⟩)) = some (.int .i64 0) := by
        rw [ld1_del_ne _ _ _ _ (by omega)]
        exact ld1_holds ⟨_, _, get_set_same _ _ _⟩ rfl
      repeat (first | (with_reducible refine Ans.bt ?_ ?_; exact rfl) | (with_reducible refine Ans.bf ?_ ?_; exact rfl) | (with_reducible refine Ans.ct ?_ ?_; focus (simp; done)) | (with_reducible refine Ans.cf ?_ ?_; focus (simp; done)) | refine Ans.step (by (simp (disch := (first | omega | (simp <;> omega) | fail)) [e1, e2, e3, -List.getD_eq_getElem?_getD]) <;> rfl) ?_)
      refine Ans.done ⟨rfl, rfl, ?_, rfl⟩
      intro i hi'
      show (HeapC.del (HeapC.set (HeapC.del rh l) (256 * ce + 1) (.cells false none [.int .i64 0])) (l + 1)).f i = _
      rw [del_f, if_neg (by omega), set_f, if_neg (by omega), del_f, if_neg (by omega)]
      exact r5.same i hi'
    · have hall : ¬ (n ≤ 1000 ∧ okAll Gl n = true) := by
        rintro ⟨_, h⟩
        obtain ⟨j, h1, h2⟩ := r5.bad
        have := (okAll_iff Gl n).1 h j h1
        rw [h2] at this; cases this
      rw [if_neg hall]
      have hlc := r5.lc
      have hg : HeapC.get rh (256 * ce + 1) = some (.cells false none [.int .i64 7]) := r5.res
      refine Ans.head (R := fun q => q = (Ex.ret, HeapC.del rh l, rc, [l + 1])) (rangeV_of (.intro hr ⟨_, .ret, by rw [← hl]; exact r5.loop, by simp, rfl, by rw [hl]⟩)) ?_
      rintro _ rfl
      have e2 : takeAll (HeapC.del rh l) [l + 1] = some (HeapC.del (HeapC.del rh l) (l + 1)) := by
        have : HeapC.get (HeapC.del rh l) (l + 1) = some .dfr := by
          rw [get_del_ne _ _ _ (by omega)]; exact r5.dfr
        simp [takeAll, this]
      have e3 : ld1 (HeapC.del (HeapC.del rh l) (l + 1)) (.pointer (some ⟨256 * ce + 1, 0, none⟩)) = some (.int .i64 7) := by
        rw [ld1_del_ne _ _ _ _ (by omega), ld1_del_ne _ _ _ _ (by omega)]
        exact ld1_holds ⟨_, _, hg⟩ rfl
      repeat (first | (with_reducible refine Ans.bt ?_ ?_; exact rfl) | (with_reducible refine Ans.bf ?_ ?_; exact rfl) | (with_reducible refine Ans.ct ?_ ?_; focus (simp; done)) | (with_reducible refine Ans.cf ?_ ?_; focus (simp; done)) | refine Ans.step (by (simp (disch := (first | omega | (simp <;> omega) | fail)) [e2, e3, -List.getD_eq_getElem?_getD]) <;> rfl) ?_)
      refine Ans.done ⟨rfl, rfl, ?_, rfl⟩
      intro i hi'
      show (HeapC.del (HeapC.del rh l) (l + 1)).f i = _
      rw [del_f, if_neg (by omega), del_f, if_neg (by omega)]
      exact r5.same i hi'
  · have hn' : (1000 : Int) < n := by omega
    have : ¬ (n ≤ 1000 ∧ okAll Gl n = true) := fun h => hn h.1
    rw [if_neg this]
    repeat (first | (with_reducible refine Ans.bt ?_ ?_; exact rfl) | (with_reducible refine Ans.bf ?_ ?_; exact rfl) | (with_reducible refine Ans.ct ?_ ?_; focus (simp; done)) | (with_reducible refine Ans.cf ?_ ?_; focus (simp; done)) | refine Ans.step (by (simp (disch := (first | omega | (simp <;> omega) | fail)) [hlen, hn', -List.getD_eq_getElem?_getD]) <;> rfl) ?_)
    refine Ans.done ?_
    simp (disch := omega)
end Go.Proofs.Ytcnndelmnobigaa

namespace Go.Ab
open Go
set_option linter.unusedVariables false
set_option linter.unusedSimpArgs false
variable {P : Program}
theorem Ans.dt {β : Type} {p : Prop} [Decidable p] {x y : Option β} {Q : β → Prop} (h : p) (k : Ans x Q) : Ans (boolK (.bool (decide p)) x y) Q := by rw [decide_eq_true h]; exact k
theorem Ans.df {β : Type} {p : Prop} [Decidable p] {x y : Option β} {Q : β → Prop} (h : ¬p) (k : Ans y Q) : Ans (boolK (.bool (decide p)) x y) Q := by rw [decide_eq_false h]; exact k
theorem Ans.nt {β : Type} {p : Prop} [Decidable p] {x y : Option β} {Q : β → Prop} (h : ¬p) (k : Ans x Q) : Ans (boolK (.bool (!decide p)) x y) Q := by rw [decide_eq_false h]; exact k
theorem Ans.nf {β : Type} {p : Prop} [Decidable p] {x y : Option β} {Q : β → Prop} (h : p) (k : Ans y Q) : Ans (boolK (.bool (!decide p)) x y) Q := by rw [decide_eq_true h]; exact k
theorem Ans.ds {β : Type} {p : Prop} [Decidable p] {x y : Option β} {Q : β → Prop} (h1 : p → Ans x Q) (h2 : ¬p → Ans y Q) : Ans (boolK (.bool (decide p)) x y) Q := by
  by_cases h : p
  · exact .dt h (h1 h)
  · exact .df h (h2 h)
theorem Ans.ns {β : Type} {p : Prop} [Decidable p] {x y : Option β} {Q : β → Prop} (h1 : ¬p → Ans x Q) (h2 : p → Ans y Q) : Ans (boolK (.bool (!decide p)) x y) Q := by
  by_cases h : p
  · exact .nf h (h2 h)
  · exact .nt h (h1 h)
theorem Ans.hs {β : Type} {b : Bool} {x y : Option β} {Q : β → Prop} (h1 : b = true → Ans x Q) (h2 : b = false → Ans y Q) : Ans (boolK (.bool b) x y) Q := by
  cases h : b with
  | true => exact h1 h
  | false => exact h2 h
theorem Ans.ms {β : Type} {b : Bool} {x y : Option β} {Q : β → Prop} (h1 : b = false → Ans x Q) (h2 : b = true → Ans y Q) : Ans (boolK (.bool (!b)) x y) Q := by
  cases h : b with
  | true => exact h2 h
  | false => exact h1 h
theorem Ans.bb {α β : Type} {v : Value} {x y : Option α} {f : α → Option β} {Q : β → Prop} (h : Ans (boolK v (x.bind f) (y.bind f)) Q) : Ans ((boolK v x y).bind f) Q := by
  cases v <;> first | exact h | skip
  rename_i b
  cases b <;> exact h
theorem Ans.bc {α β : Type} {v : Bool} {x y : Option α} {f : α → Option β} {Q : β → Prop} (h : Ans (cond v (x.bind f) (y.bind f)) Q) : Ans ((cond v x y).bind f) Q := by cases v <;> exact h
theorem Ans.ba {α β γ : Type} {x : Option α} {g : α → Option β} {f : β → Option γ} {Q : γ → Prop} (h : Ans (x.bind fun a => (g a).bind f) Q) : Ans ((x.bind g).bind f) Q := by
  cases x <;> exact h
theorem Ans.bz {α β : Type} {a : α} {f : α → Option β} {Q : β → Prop} (h : Ans (f a) Q) : Ans ((some a).bind f) Q := h
theorem Ans.lsT {β : Type} {k : IntKind} {ty : TypeId} {a b : Int} {f : Value → Option β} {Q : β → Prop} (h : a < b) (x : Ans (f (.bool true)) Q) : Ans ((aBinOp P .lss ty (.int k a) (.int k b)).bind f) Q := Ans.step (by rw [aBinOp_lss, decide_eq_true h]) x
theorem Ans.lsF {β : Type} {k : IntKind} {ty : TypeId} {a b : Int} {f : Value → Option β} {Q : β → Prop} (h : ¬(a < b)) (x : Ans (f (.bool false)) Q) : Ans ((aBinOp P .lss ty (.int k a) (.int k b)).bind f) Q := Ans.step (by rw [aBinOp_lss, decide_eq_false h]) x
theorem Ans.lsS {β : Type} {k : IntKind} {ty : TypeId} {a b : Int} {f : Value → Option β} {Q : β → Prop} (h1 : a < b → Ans (f (.bool true)) Q) (h2 : ¬(a < b) → Ans (f (.bool false)) Q) : Ans ((aBinOp P .lss ty (.int k a) (.int k b)).bind f) Q := if h : a < b then Ans.lsT h (h1 h) else Ans.lsF h (h2 h)
theorem Ans.leT {β : Type} {k : IntKind} {ty : TypeId} {a b : Int} {f : Value → Option β} {Q : β → Prop} (h : a ≤ b) (x : Ans (f (.bool true)) Q) : Ans ((aBinOp P .leq ty (.int k a) (.int k b)).bind f) Q := Ans.step (by rw [aBinOp_leq, decide_eq_true h]) x
theorem Ans.leF {β : Type} {k : IntKind} {ty : TypeId} {a b : Int} {f : Value → Option β} {Q : β → Prop} (h : ¬(a ≤ b)) (x : Ans (f (.bool false)) Q) : Ans ((aBinOp P .leq ty (.int k a) (.int k b)).bind f) Q := Ans.step (by rw [aBinOp_leq, decide_eq_false h]) x
theorem Ans.leS {β : Type} {k : IntKind} {ty : TypeId} {a b : Int} {f : Value → Option β} {Q : β → Prop} (h1 : a ≤ b → Ans (f (.bool true)) Q) (h2 : ¬(a ≤ b) → Ans (f (.bool false)) Q) : Ans ((aBinOp P .leq ty (.int k a) (.int k b)).bind f) Q := if h : a ≤ b then Ans.leT h (h1 h) else Ans.leF h (h2 h)
theorem Ans.grT {β : Type} {k : IntKind} {ty : TypeId} {a b : Int} {f : Value → Option β} {Q : β → Prop} (h : b < a) (x : Ans (f (.bool true)) Q) : Ans ((aBinOp P .gtr ty (.int k a) (.int k b)).bind f) Q := Ans.step (by rw [aBinOp_gtr, decide_eq_true h]) x
theorem Ans.grF {β : Type} {k : IntKind} {ty : TypeId} {a b : Int} {f : Value → Option β} {Q : β → Prop} (h : ¬(b < a)) (x : Ans (f (.bool false)) Q) : Ans ((aBinOp P .gtr ty (.int k a) (.int k b)).bind f) Q := Ans.step (by rw [aBinOp_gtr, decide_eq_false h]) x
theorem Ans.grS {β : Type} {k : IntKind} {ty : TypeId} {a b : Int} {f : Value → Option β} {Q : β → Prop} (h1 : b < a → Ans (f (.bool true)) Q) (h2 : ¬(b < a) → Ans (f (.bool false)) Q) : Ans ((aBinOp P .gtr ty (.int k a) (.int k b)).bind f) Q := if h : b < a then Ans.grT h (h1 h) else Ans.grF h (h2 h)
theorem Ans.geT {β : Type} {k : IntKind} {ty : TypeId} {a b : Int} {f : Value → Option β} {Q : β → Prop} (h : b ≤ a) (x : Ans (f (.bool true)) Q) : Ans ((aBinOp P .geq ty (.int k a) (.int k b)).bind f) Q := Ans.step (by rw [aBinOp_geq, decide_eq_true h]) x
theorem Ans.geF {β : Type} {k : IntKind} {ty : TypeId} {a b : Int} {f : Value → Option β} {Q : β → Prop} (h : ¬(b ≤ a)) (x : Ans (f (.bool false)) Q) : Ans ((aBinOp P .geq ty (.int k a) (.int k b)).bind f) Q := Ans.step (by rw [aBinOp_geq, decide_eq_false h]) x
theorem Ans.geS {β : Type} {k : IntKind} {ty : TypeId} {a b : Int} {f : Value → Option β} {Q : β → Prop} (h1 : b ≤ a → Ans (f (.bool true)) Q) (h2 : ¬(b ≤ a) → Ans (f (.bool false)) Q) : Ans ((aBinOp P .geq ty (.int k a) (.int k b)).bind f) Q := if h : b ≤ a then Ans.geT h (h1 h) else Ans.geF h (h2 h)
theorem Ans.eqT {β : Type} {k : IntKind} {ty : TypeId} {a b : Int} {f : Value → Option β} {Q : β → Prop} (h : a = b) (x : Ans (f (.bool true)) Q) : Ans ((aBinOp P .eql ty (.int k a) (.int k b)).bind f) Q := Ans.step (by rw [aBinOp_eql, decide_eq_true h]) x
theorem Ans.eqF {β : Type} {k : IntKind} {ty : TypeId} {a b : Int} {f : Value → Option β} {Q : β → Prop} (h : ¬(a = b)) (x : Ans (f (.bool false)) Q) : Ans ((aBinOp P .eql ty (.int k a) (.int k b)).bind f) Q := Ans.step (by rw [aBinOp_eql, decide_eq_false h]) x
theorem Ans.eqS {β : Type} {k : IntKind} {ty : TypeId} {a b : Int} {f : Value → Option β} {Q : β → Prop} (h1 : a = b → Ans (f (.bool true)) Q) (h2 : ¬(a = b) → Ans (f (.bool false)) Q) : Ans ((aBinOp P .eql ty (.int k a) (.int k b)).bind f) Q := if h : a = b then Ans.eqT h (h1 h) else Ans.eqF h (h2 h)
theorem Ans.neT {β : Type} {k : IntKind} {ty : TypeId} {a b : Int} {f : Value → Option β} {Q : β → Prop} (h : ¬(a = b)) (x : Ans (f (.bool true)) Q) : Ans ((aBinOp P .neq ty (.int k a) (.int k b)).bind f) Q := Ans.step (by rw [aBinOp_neq, decide_eq_false h]; rfl) x
theorem Ans.neF {β : Type} {k : IntKind} {ty : TypeId} {a b : Int} {f : Value → Option β} {Q : β → Prop} (h : a = b) (x : Ans (f (.bool false)) Q) : Ans ((aBinOp P .neq ty (.int k a) (.int k b)).bind f) Q := Ans.step (by rw [aBinOp_neq, decide_eq_true h]; rfl) x
theorem Ans.neS {β : Type} {k : IntKind} {ty : TypeId} {a b : Int} {f : Value → Option β} {Q : β → Prop} (h1 : ¬(a = b) → Ans (f (.bool true)) Q) (h2 : a = b → Ans (f (.bool false)) Q) : Ans ((aBinOp P .neq ty (.int k a) (.int k b)).bind f) Q := if h : a = b then Ans.neF h (h2 h) else Ans.neT h (h1 h)
theorem Ans.add {β : Type} {ty : TypeId} {a b : Int} {f : Value → Option β} {Q : β → Prop} (h : -9223372036854775808 ≤ a + b ∧ a + b < 9223372036854775808) (x : Ans (f (.int .i64 (a + b))) Q) : Ans ((aBinOp P .add ty (.int .i64 a) (.int .i64 b)).bind f) Q := Ans.step (aBinOp_add ty a b h.1 h.2) x
theorem Ans.sub {β : Type} {ty : TypeId} {a b : Int} {f : Value → Option β} {Q : β → Prop} (h : -9223372036854775808 ≤ a - b ∧ a - b < 9223372036854775808) (x : Ans (f (.int .i64 (a - b))) Q) : Ans ((aBinOp P .sub ty (.int .i64 a) (.int .i64 b)).bind f) Q := Ans.step (aBinOp_sub ty a b h.1 h.2) x
theorem Ans.mul {β : Type} {ty : TypeId} {a b : Int} {f : Value → Option β} {Q : β → Prop} (h : -9223372036854775808 ≤ a * b ∧ a * b < 9223372036854775808) (x : Ans (f (.int .i64 (a * b))) Q) : Ans ((aBinOp P .mul ty (.int .i64 a) (.int .i64 b)).bind f) Q := Ans.step (aBinOp_mul ty a b h.1 h.2) x
theorem Ans.addN {β : Type} {ty : TypeId} {a : Nat} {f : Value → Option β} {Q : β → Prop} (h : (a : Int) < 9223372036854775807) (x : Ans (f (.int .i64 ((a + 1 : Nat) : Int))) Q) : Ans ((aBinOp P .add ty (.int .i64 (a : Int)) (.int .i64 1)).bind f) Q := Ans.step (aBinOp_add ty a 1 (by omega) (by omega)) x
theorem Ans.bF {β : Type} {op : BinOp} {ty : TypeId} {a b : Value} {p : Prop} [Decidable p] {f : Value → Option β} {Q : β → Prop} (e : aBinOp P op ty a b = some (.bool (decide p))) (h : ¬p) (x : Ans (f (.bool false)) Q) : Ans ((aBinOp P op ty a b).bind f) Q := Ans.step (by rw [e, decide_eq_false h]) x
theorem Ans.oF {β : Type} {op : BinOp} {ty : TypeId} {a b : Value} {t : Bool} {f : Value → Option β} {Q : β → Prop} (e : aBinOp P op ty a b = some (.bool t)) (ht : t = false) (x : Ans (f (.bool false)) Q) : Ans ((aBinOp P op ty a b).bind f) Q := Ans.step (by rw [e, ht]) x
theorem Ans.gyT {α β : Type} {b : Bool} {X Y : Option α} {f : α → Option β} {Q : β → Prop} (h : Ans (X.bind f) Q) : Ans (((gv (.bool b) b).bind fun w => cond w X Y).bind f) Q := by
  cases b <;> exact h
theorem Ans.gyF {α β : Type} {X Y : Option α} {f : α → Option β} {Q : β → Prop} (h : Ans (Y.bind f) Q) : Ans (((gv (.bool true) false).bind fun w => cond w X Y).bind f) Q := h
theorem Ans.gyG {α β : Type} {X Y : Option α} {f : α → Option β} {Q : β → Prop} (h : Ans (Y.bind f) Q) : Ans (((gv (.bool false) true).bind fun w => cond w X Y).bind f) Q := h
theorem Ans.r1 {β : Type} {h : FH} {c : Nat} {x : Option Value} {f : Value × FH × Nat → Option β} {Q : β → Prop} (e : Ans (x.bind fun v => f (v, h, c)) Q) : Ans ((ret1 h c x).bind f) Q := by
  cases x <;> exact e
theorem Ans.pkT {β : Type} {a b : Value} {f : Value → Option β} {Q : β → Prop} (e : Ans (f a) Q) : Ans ((pickV (.bool true) a b).bind f) Q := e
theorem Ans.pkF {β : Type} {a b : Value} {f : Value → Option β} {Q : β → Prop} (e : Ans (f b) Q) : Ans ((pickV (.bool false) a b).bind f) Q := e
theorem Ans.btL {β : Type} {x y : Option β} {Q : β → Prop} (k : Ans x Q) : Ans (boolK (.bool true) x y) Q := k
theorem Ans.bfL {β : Type} {x y : Option β} {Q : β → Prop} (k : Ans y Q) : Ans (boolK (.bool false) x y) Q := k
def Lk (o : Orc FH) (k : Key) (Q : Rt FH → Prop) (q : Rt FH) : Prop := if q.e = .normal then Ans (o k q.vs q.h q.c q.df) Q else Q q
theorem Ans.loop {o : Orc FH} {k : Key} {L X : Option (Rt FH)} {h : FH} {c : Nat} {df : List Nat} {Q : Rt FH → Prop}
    (N : ∀ q r, L = some q → q.e = .normal → o k q.vs (gcR h c df q).h (gcR h c df q).c q.df = some r → X = some r)
    (Z : ∀ q, L = some q → q.e ≠ .normal → X = some (gcR h c df q))
    (e : Ans L (fun q => Lk o k Q (gcR h c df q))) : Ans X Q := by
  obtain ⟨q, hq, hl⟩ := e
  unfold Lk at hl
  rw [gcR_e, gcR_vs, gcR_df] at hl
  by_cases hn : q.e = .normal
  · rw [if_pos hn] at hl
    obtain ⟨r, hr, h2⟩ := hl
    exact ⟨r, N q r hq hn hr, h2⟩
  · rw [if_neg hn] at hl
    exact ⟨_, Z q hq hn, hl⟩
theorem Ans.loop' {o : Orc FH} {k : Key} {L X : Option (Rt FH)} {Q : Rt FH → Prop}
    (N : ∀ q r, L = some q → q.e = .normal → o k q.vs q.h q.c q.df = some r → X = some r)
    (Z : ∀ q, L = some q → q.e ≠ .normal → X = some q)
    (e : Ans L (fun q => Lk o k Q q)) : Ans X Q := by
  obtain ⟨q, hq, hl⟩ := e
  unfold Lk at hl
  by_cases hn : q.e = .normal
  · rw [if_pos hn] at hl
    obtain ⟨r, hr, h2⟩ := hl
    exact ⟨r, N q r hq hn hr, h2⟩
  · rw [if_neg hn] at hl
    exact ⟨_, Z q hq hn, hl⟩
theorem Lk.next {o : Orc FH} {k : Key} {Q : Rt FH → Prop} {vs : List Value} {h : FH} {c : Nat} {df : List Nat} (e : Ans (o k vs h c df) Q) : Lk o k Q { e := .normal, vs := vs, h := h, c := c, df := df } := by
  unfold Lk; rw [if_pos rfl]; exact e
theorem Lk.exit {o : Orc FH} {k : Key} {Q : Rt FH → Prop} {i : Nat} {vs : List Value} {h : FH} {c : Nat} {df : List Nat} (e : Q { e := .exit i, vs := vs, h := h, c := c, df := df }) : Lk o k Q { e := .exit i, vs := vs, h := h, c := c, df := df } := by
  unfold Lk; rw [if_neg (by simp)]; exact e
theorem Lk.ret {o : Orc FH} {k : Key} {Q : Rt FH → Prop} {vs : List Value} {h : FH} {c : Nat} {df : List Nat} (e : Q { e := .ret, vs := vs, h := h, c := c, df := df }) : Lk o k Q { e := .ret, vs := vs, h := h, c := c, df := df } := by
  unfold Lk; rw [if_neg (by simp)]; exact e
theorem Ans.next0 {o : Orc FH} {k : Key} {Q : Rt FH → Prop} {A h : FH} {c c' : Nat} {vs : List Value} {df : List Nat} (h1 : OkVs c vs) (h2 : Same c A h) (e : Ans (o k vs A c df) Q) :
    Ans (some { e := .normal, vs := vs, h := h, c := c', df := df }) (fun q => Lk o k Q (gcR A c df q)) := .done (by rw [gcR_pure h1 h2]; exact .next e)
theorem Ans.exit0 {o : Orc FH} {k : Key} {Q : Rt FH → Prop} {A h : FH} {c c' : Nat} {vs : List Value} {df : List Nat} {i : Nat} (h1 : OkVs c vs) (h2 : Same c A h) (e : Q { e := .exit i, vs := vs, h := A, c := c, df := df }) :
    Ans (some { e := .exit i, vs := vs, h := h, c := c', df := df }) (fun q => Lk o k Q (gcR A c df q)) := .done (by rw [gcR_pure h1 h2]; exact .exit e)
theorem Ans.ret0 {o : Orc FH} {k : Key} {Q : Rt FH → Prop} {A h : FH} {c c' : Nat} {vs : List Value} {df : List Nat} (h1 : OkVs c vs) (h2 : Same c A h) (e : Q { e := .ret, vs := vs, h := A, c := c, df := df }) :
    Ans (some { e := .ret, vs := vs, h := h, c := c', df := df }) (fun q => Lk o k Q (gcR A c df q)) := .done (by rw [gcR_pure h1 h2]; exact .ret e)
theorem Ans.nextB {o : Orc FH} {k : Key} {Q : Rt FH → Prop} {A B h : FH} {c c' : Nat} {vs : List Value} {df : List Nat} (e : Ans (o k vs B c df) Q) (h1 : OkVs c vs) (h2 : Same c B h) (h3 : Upto c A B) :
    Ans (some { e := .normal, vs := vs, h := h, c := c', df := df }) (fun q => Lk o k Q (gcR A c df q)) := .done (by rw [gcR_to h1 h2 h3]; exact .next e)
theorem Ans.retB {o : Orc FH} {k : Key} {Q : Rt FH → Prop} {A B h : FH} {c c' : Nat} {vs : List Value} {df : List Nat} (e : Q { e := .ret, vs := vs, h := B, c := c, df := df }) (h1 : OkVs c vs) (h2 : Same c B h) (h3 : Upto c A B) :
    Ans (some { e := .ret, vs := vs, h := h, c := c', df := df }) (fun q => Lk o k Q (gcR A c df q)) := .done (by rw [gcR_to h1 h2 h3]; exact .ret e)
theorem Ans.nextN {o : Orc FH} {k : Key} {Q : Rt FH → Prop} {h : FH} {c : Nat} {vs : List Value} {df : List Nat} (e : Ans (o k vs h c df) Q) :
    Ans (some { e := .normal, vs := vs, h := h, c := c, df := df }) (fun q => Lk o k Q q) := .done (.next e)
theorem Ans.exitN {o : Orc FH} {k : Key} {Q : Rt FH → Prop} {h : FH} {c : Nat} {vs : List Value} {df : List Nat} {i : Nat} (e : Q { e := .exit i, vs := vs, h := h, c := c, df := df }) :
    Ans (some { e := .exit i, vs := vs, h := h, c := c, df := df }) (fun q => Lk o k Q q) := .done (.exit e)
theorem Ans.retN {o : Orc FH} {k : Key} {Q : Rt FH → Prop} {h : FH} {c : Nat} {vs : List Value} {df : List Nat} (e : Q { e := .ret, vs := vs, h := h, c := c, df := df }) :
    Ans (some { e := .ret, vs := vs, h := h, c := c, df := df }) (fun q => Lk o k Q q) := .done (.ret e)
theorem OkV.mono {c c' : Nat} {v : Value} (hc : c ≤ c') (h : OkV c v) : OkV c' v := by
  obtain ⟨v', hv⟩ := h
  exact ⟨_, VR.mono (μ' := nuD c') (fun i m e => by
    have := nuD_dom (c := c) (i := i) (by rw [e]; simp)
    rw [nuD_of this] at e
    rw [nuD_of (by omega)]; exact e) hv⟩
theorem OkV.fn (c : Nat) (g : FuncId) : OkV c (.func (.func g) #[] #[]) := ⟨.func (.func g) #[] #[], .fnc g rfl rfl (fun k x y h => by simp at h) (fun k x y h => by simp at h)⟩
@[simp] theorem extV_20 (a b : Value) : extV (.tuple #[a, b]) 0 = some a := rfl
@[simp] theorem extV_21 (a b : Value) : extV (.tuple #[a, b]) 1 = some b := rfl
@[simp] theorem extV_30 (a b c : Value) : extV (.tuple #[a, b, c]) 0 = some a := rfl
@[simp] theorem extV_31 (a b c : Value) : extV (.tuple #[a, b, c]) 1 = some b := rfl
@[simp] theorem extV_32 (a b c : Value) : extV (.tuple #[a, b, c]) 2 = some c := rfl
def blkOf : Value → Nat
  | .slice (some a) _ _ => a.block
  | _ => 0
def offOf : Value → Nat
  | .slice (some a) _ _ => a.off
  | _ => 0
def capOf : Value → Nat
  | .slice _ _ k => k
  | _ => 0
@[simp] theorem blkOf_sl (b o n k : Nat) : blkOf (.slice (some ⟨b, o, none⟩) n k) = b := rfl
@[simp] theorem offOf_sl (b o n k : Nat) : offOf (.slice (some ⟨b, o, none⟩) n k) = o := rfl
def gi (L : List Int) (i : Int) : Int := L.getD i.toNat 0
theorem gi_nat (L : List Int) (i : Nat) : gi L i = L.getD i 0 := rfl
theorem SlI.blk {h : FH} {c : Nat} {s : Value} {sz n : Nat} {L : List Int} (hs : SlI h c s sz n L) : 0 < n → blkOf s < 256 * c := by
  obtain ⟨g1, g2, a, cap, rfl, h4⟩ := hs
  intro hn
  rcases h4 with ⟨e, hv⟩ | ⟨b, o, cs, rfl, e2, e3, e4⟩
  · omega
  · exact e2
theorem SlI.ixs {h : FH} {c : Nat} {s : Value} {sz n : Nat} {L : List Int} (hs : SlI h c s sz n L) (k : IntKind) (i : Int) (h1 : 0 ≤ i) (h2 : i < (n : Int)) :
    ixS sz s (.int k i) = some (.pointer (some ⟨blkOf s, offOf s + i.toNat * sz, none⟩)) := by
  obtain ⟨g1, g2, a, cap, rfl, h4⟩ := hs
  rcases h4 with ⟨e, hv⟩ | ⟨b, o, cs, rfl, e2, e3, e4⟩
  · omega
  · exact ixS_sl sz b o n cap k i h1 h2
theorem SlI.rd {h : FH} {c : Nat} {s : Value} {sz n : Nat} {L : List Int} (hs : SlI h c s sz n L) (j : Nat) (hj : j < n * sz) :
    ld1 h (.pointer (some ⟨blkOf s, offOf s + j, none⟩)) = some (.int .i64 (L.getD j 0)) := by
  obtain ⟨g1, g2, a, cap, rfl, h4⟩ := hs
  rcases h4 with ⟨e, hv⟩ | ⟨b, o, cs, rfl, e2, e3, e4⟩
  · rw [e, Nat.zero_mul] at hj; omega
  · exact ld1_win e3 e4 (by omega)
theorem SlI.ixs1 {h : FH} {c : Nat} {s : Value} {n : Nat} {L : List Int} (hs : SlI h c s 1 n L) (k : IntKind) (i : Int) (h1 : 0 ≤ i) (h2 : i < (n : Int)) :
    ixS 1 s (.int k i) = some (.pointer (some ⟨blkOf s, offOf s + i.toNat, none⟩)) := by rw [hs.ixs k i h1 h2, Nat.mul_one]
theorem SlI.rdi {h : FH} {c : Nat} {s : Value} {n : Nat} {L : List Int} (hs : SlI h c s 1 n L) (i : Int) (h1 : 0 ≤ i) (h2 : i < (n : Int)) :
    ld1 h (.pointer (some ⟨blkOf s, offOf s + i.toNat, none⟩)) = some (.int .i64 (gi L i)) := by
  rw [hs.rd _ (by omega)]; rfl
theorem SlI.rdN {h : FH} {c : Nat} {s : Value} {sz n : Nat} {L : List Int} (hs : SlI h c s sz n L) (q j : Nat) (hq : 0 < q) (hj : j + q ≤ n * sz) :
    ldN h q (.pointer (some ⟨blkOf s, offOf s + j, none⟩)) = some (av ((L.drop j).take q)) := by
  obtain ⟨g1, g2, a, cap, rfl, h4⟩ := hs
  rcases h4 with ⟨e, hv⟩ | ⟨b, o, cs, rfl, e2, e3, e4⟩
  · rw [e, Nat.zero_mul] at hj; omega
  · exact ldN_win e3 e4 (by omega) hq
theorem SlI.row {h : FH} {c : Nat} {s : Value} {n : Nat} {L : List Int} (hs : SlI h c s 20 n L) (t : Int) (h1 : 0 ≤ t) (h2 : t < (n : Int)) :
    ldN h 20 (.pointer (some ⟨blkOf s, offOf s + t.toNat * 20, none⟩)) = some (av (rowL L t.toNat)) := by
  rw [hs.rdN 20 _ (by omega) (by omega)]
  unfold rowL
  rw [Nat.mul_comm 20]
def permAt (Pm : List Int) (i : Nat) : List Int := (Pm.drop (4 * i)).take 4
theorem permAt_length {Pm : List Int} {n i : Nat} (h : Pm.length = n * 4) (hi : i < n) : (permAt Pm i).length = 4 := by simp [permAt]; omega
theorem SlI.keep {h h' : FH} {c : Nat} {s : Value} {sz n : Nat} {L : List Int} (hs : SlI h c s sz n L) (hh : 0 < n → h'.f (blkOf s) = h.f (blkOf s)) : SlI h' c s sz n L := by
  by_cases hn : 0 < n
  · obtain ⟨h1, h2, a, cap, rfl, h4⟩ := hs
    refine ⟨h1, h2, a, cap, rfl, ?_⟩
    rcases h4 with ⟨e, hv⟩ | ⟨b, o, cs, rfl, e2, ⟨ro, op, e3⟩, e4⟩
    · omega
    · exact .inr ⟨b, o, cs, rfl, e2, ⟨ro, op, (hh hn).trans e3⟩, e4⟩
  · have ho := hs.okV
    obtain ⟨h1, h2, a, cap, rfl, h4⟩ := hs
    exact ⟨h1, h2, a, cap, rfl, .inl ⟨by omega, ho⟩⟩
theorem SlI.nil (h : FH) (c sz : Nat) : SlI h c (.slice none 0 0) sz 0 [] := ⟨by simp, by omega, none, 0, rfl, .inl ⟨rfl, OkV.sl0 _ _ _⟩⟩
theorem SlI.flat {h : FH} {c : Nat} {s : Value} {sz n : Nat} {L : List Int} (hs : SlI h c s sz n L) : isFlat s = true := by
  obtain ⟨_, _, a, cap, rfl, _⟩ := hs
  rfl
theorem zeros_one (v : Value) : ∀ n : Nat, zeros [v] n = List.replicate n v
  | 0 => rfl
  | n + 1 => by rw [zeros, zeros_one v n]; rfl
theorem mkS_any (sz by' : Nat) (z : List Value) (k k' : IntKind) (n : Nat) (h : by' * n ≤ 281474976710656) (h2 : n ≤ 281474976710656) : mkS sz by' z (.int k (n : Int)) (.int k' (n : Int)) = some (zeros z n, n, n) := by
  have h3 : (by' : Int) * (n : Int) ≤ 281474976710656 := by rw [← Int.natCast_mul]; omega
  have h4 : (n : Int) ≤ 281474976710656 := by omega
  have h5 : (0 : Int) ≤ n := by omega
  simp only [mkS, aInt, Option.bind_some, decide_eq_true h3, decide_eq_true h4, decide_eq_true h5, decide_eq_true (Int.le_refl (n : Int)), Bool.and_self, cond_true, Int.toNat_natCast]
theorem mkS_int (sz by' : Nat) (k k' : IntKind) (n : Nat) (h : by' * n ≤ 281474976710656) (h2 : n ≤ 281474976710656) : mkS sz by' [.int .i64 0] (.int k (n : Int)) (.int k' (n : Int)) = some (ints (List.replicate n 0), n, n) := by
  rw [mkS_any sz by' _ k k' n h h2, zeros_one, ints, List.map_replicate]
theorem mkS_bool (sz by' : Nat) (k k' : IntKind) (n : Nat) (h : by' * n ≤ 281474976710656) (h2 : n ≤ 281474976710656) : mkS sz by' [.bool false] (.int k (n : Int)) (.int k' (n : Int)) = some (bools (List.replicate n false), n, n) := by
  rw [mkS_any sz by' _ k k' n h h2, zeros_one, bools, List.map_replicate]
def Own (h : FH) (b : Nat) (op : Option Nat) (cs : List Value) : Prop := HeapC.get h b = some (.cells false op cs)
theorem Own.same {h h' : FH} {c b : Nat} {op : Option Nat} {cs : List Value} (hb : b < 256 * c) (hs : Same c h h') (e : Own h b op cs) : Own h' b op cs := (hs b hb).trans e
theorem Own.new (h : FH) (b : Nat) (cs : List Value) : Own (newB h b cs) b none cs := get_newB_same h b cs
theorem Own.set (h : FH) (b : Nat) (op : Option Nat) (cs : List Value) : Own (HeapC.set h b (.cells false op cs)) b op cs := get_set_same h b _
theorem newB_eq_set (h : FH) (b : Nat) (cs : List Value) : newB h b cs = HeapC.set h b (.cells false none cs) := rfl
theorem Upto.set {c b : Nat} {A B : FH} {op : Option Nat} {ro : Bool} {cs : List Value} (hb : b < 256 * c) (hc : OkVs c cs) (h : Upto c A B) : Upto c A (HeapC.set B b (.cells ro op cs)) := by
  intro i
  rw [set_f]
  refine ⟨fun hi => ?_, fun hi => ?_⟩
  · rw [if_neg (by omega)]; exact (h i).1 hi
  · split
    · exact .inr hc
    · exact (h i).2 hi
theorem Ans.call {S X : Option (Rt FH)} {h : FH} {c : Nat} {Q : Rt FH → Prop} (hgo : ∀ r, S = some r → X = some (gcR h c [] r)) (hS : Ans S (fun r => Q (gcR h c [] r))) : Ans X Q := by
  obtain ⟨r, e, hq⟩ := hS
  exact ⟨_, hgo r e, hq⟩
theorem Ans.call' {S X : Option (Rt FH)} {Q : Rt FH → Prop} (hgo : ∀ r, S = some r → X = some r) (hS : Ans S Q) : Ans X Q := by
  obtain ⟨r, e, hq⟩ := hS
  exact ⟨_, hgo r e, hq⟩
def PureR (h : FH) (c : Nat) (v : Value) (r : Rt FH) : Prop := r.e = .ret ∧ r.vs = [v] ∧ Same c h r.h ∧ r.df = []
theorem pure_of' {X S : Option (Rt FH)} {h : FH} {c : Nat} {v : Value} (hgo : ∀ r, S = some r → X = some (gcR h c [] r)) (hv : OkV c v) (hS : Ans S (PureR h c v)) :
    X = some { e := .ret, vs := [v], h := h, c := c, df := [] } := pure_of hgo hv hS
theorem Ans.pure {h h' : FH} {c c' : Nat} {v w : Value} (hv : w = v) (hs : Same c h h') : Ans (some { e := .ret, vs := [w], h := h', c := c', df := [] }) (PureR h c v) := .done ⟨rfl, by rw [hv], hs, rfl⟩
theorem sameB_of {x : Option Nat} {h1 h2 : FH} (e : ∀ i, x = some i → h1.f i = h2.f i) : sameB x h1 h2 = true := by
  cases x with
  | none => rfl
  | some i =>
    show @decide (h1.f i = h2.f i) (Classical.propDecidable _) = true
    exact @decide_eq_true _ (Classical.propDecidable _) (e i rfl)
theorem face_split {x : List Int} (hx : x.length = 5) : x = tetL x :: permL x := by
  match x, hx with
  | [a, b, c, d, e], _ => rfl
end Go.Ab

namespace Go.Ab
open Go
set_option linter.unusedVariables false
set_option linter.unusedSimpArgs false
structure Hid (q : Prop) : Prop where
  h : q
theorem Ans.go {β : Type} {x : Option β} {Q : β → Prop} {q : Prop} (k : q) (h : Hid q → Ans x Q := by
    intro kk
    repeat' (first | ((with_reducible first | refine Ans.bz ?_ | refine Ans.r1 ?_ | refine Ans.pkT ?_ | refine Ans.pkF ?_); try dsimp only [v_zero, v_succ]) | (with_reducible first | refine Ans.btL ?_ | refine Ans.bfL ?_ | refine Ans.gyT ?_ | refine Ans.gyF ?_ | refine Ans.gyG ?_ | refine Ans.bb ?_ | refine Ans.bc ?_ | refine Ans.ba ?_) | ((with_reducible first | refine Ans.lsT ?_ ?_ | refine Ans.leT ?_ ?_ | refine Ans.grT ?_ ?_ | refine Ans.geT ?_ ?_ | refine Ans.eqT ?_ ?_ | refine Ans.neT ?_ ?_); (focus omega)) | ((with_reducible first | refine Ans.lsF ?_ ?_ | refine Ans.leF ?_ ?_ | refine Ans.grF ?_ ?_ | refine Ans.geF ?_ ?_ | refine Ans.eqF ?_ ?_ | refine Ans.neF ?_ ?_); (focus omega)) | (with_reducible first | refine Ans.lsS (fun _ => ?_) (fun _ => ?_) | refine Ans.leS (fun _ => ?_) (fun _ => ?_) | refine Ans.grS (fun _ => ?_) (fun _ => ?_) | refine Ans.geS (fun _ => ?_) (fun _ => ?_) | refine Ans.eqS (fun _ => ?_) (fun _ => ?_) | refine Ans.neS (fun _ => ?_) (fun _ => ?_)) | ((with_reducible first | refine Ans.addN ?_ ?_ | refine Ans.add ?_ ?_ | refine Ans.sub ?_ ?_ | refine Ans.mul ?_ ?_); (focus omega)) | ((with_reducible first | refine Ans.ct ?_ ?_); (focus (simp (disch := (first | omega | with_reducible assumption | (simp <;> omega) | fail)) [fx]; done))) | ((with_reducible first | refine Ans.cf ?_ ?_); (focus (simp (disch := (first | omega | with_reducible assumption | (simp <;> omega) | fail)) [fx]; done))) | (refine Ans.step (by simp (disch := (first | omega | with_reducible assumption | (simp <;> omega) | fail)) [fx, -List.getD_eq_getElem?_getD] <;> rfl) ?_; try dsimp only [v_zero, v_succ]) | fail)
    exact kk.h) : Ans x Q := h ⟨k⟩
theorem Ans.nx0 {o : Orc FH} {k : Key} {Q : Rt FH → Prop} {A h : FH} {c c' : Nat} {vs : List Value} {df : List Nat} (e : Ans (o k vs A c df) Q) (h1 : OkVs c vs := by (simp (disch := (first | omega | with_reducible assumption | (simp <;> omega) | fail)) [fx]; done)) (h2 : Same c A h := by (simp (disch := (first | omega | with_reducible assumption | (simp <;> omega) | fail)) [fx]; done)) :
    Ans (some { e := .normal, vs := vs, h := h, c := c', df := df }) (fun q => Lk o k Q (gcR A c df q)) := Ans.next0 h1 h2 e
theorem Ans.ex0 {o : Orc FH} {k : Key} {Q : Rt FH → Prop} {A h : FH} {c c' : Nat} {vs : List Value} {df : List Nat} {i : Nat} (e : Q { e := .exit i, vs := vs, h := A, c := c, df := df }) (h1 : OkVs c vs := by (simp (disch := (first | omega | with_reducible assumption | (simp <;> omega) | fail)) [fx]; done)) (h2 : Same c A h := by (simp (disch := (first | omega | with_reducible assumption | (simp <;> omega) | fail)) [fx]; done)) :
    Ans (some { e := .exit i, vs := vs, h := h, c := c', df := df }) (fun q => Lk o k Q (gcR A c df q)) := Ans.exit0 h1 h2 e
theorem Ans.rt0 {o : Orc FH} {k : Key} {Q : Rt FH → Prop} {A h : FH} {c c' : Nat} {vs : List Value} {df : List Nat} (e : Q { e := .ret, vs := vs, h := A, c := c, df := df }) (h1 : OkVs c vs := by (simp (disch := (first | omega | with_reducible assumption | (simp <;> omega) | fail)) [fx]; done)) (h2 : Same c A h := by (simp (disch := (first | omega | with_reducible assumption | (simp <;> omega) | fail)) [fx]; done)) :
    Ans (some { e := .ret, vs := vs, h := h, c := c', df := df }) (fun q => Lk o k Q (gcR A c df q)) := Ans.ret0 h1 h2 e
theorem Ans.nxB {o : Orc FH} {k : Key} {Q : Rt FH → Prop} {A B h : FH} {c c' : Nat} {vs : List Value} {df : List Nat} (h3 : Upto c A B) (e : Ans (o k vs B c df) Q) (h1 : OkVs c vs := by (simp (disch := (first | omega | with_reducible assumption | (simp <;> omega) | fail)) [fx]; done)) (h2 : Same c B h := by (simp (disch := (first | omega | with_reducible assumption | (simp <;> omega) | fail)) [fx]; done)) :
    Ans (some { e := .normal, vs := vs, h := h, c := c', df := df }) (fun q => Lk o k Q (gcR A c df q)) := Ans.nextB e h1 h2 h3
theorem Ans.rtB {o : Orc FH} {k : Key} {Q : Rt FH → Prop} {A B h : FH} {c c' : Nat} {vs : List Value} {df : List Nat} (h3 : Upto c A B) (e : Q { e := .ret, vs := vs, h := B, c := c, df := df }) (h1 : OkVs c vs := by (simp (disch := (first | omega | with_reducible assumption | (simp <;> omega) | fail)) [fx]; done)) (h2 : Same c B h := by (simp (disch := (first | omega | with_reducible assumption | (simp <;> omega) | fail)) [fx]; done)) :
    Ans (some { e := .ret, vs := vs, h := h, c := c', df := df }) (fun q => Lk o k Q (gcR A c df q)) := Ans.retB e h1 h2 h3
theorem Ans.pu {h h' : FH} {c c' : Nat} {v w : Value} (hv : w = v := by first | rfl | (simp (disch := (first | omega | with_reducible assumption | (simp <;> omega) | fail)) [fx]; done)) (hs : Same c h h' := by first | with_reducible assumption | (simp (disch := (first | omega | with_reducible assumption | (simp <;> omega) | fail)) [fx]; done)) :
    Ans (some { e := .ret, vs := [w], h := h', c := c', df := [] }) (PureR h c v) := Ans.pure hv hs
end Go.Ab

namespace Go.Ab
open Go
set_option maxRecDepth 100000
set_option linter.unusedVariables false
set_option linter.unusedSimpArgs false
def p24 : List (List Int) := [[0,1,2,3],[0,1,3,2],[0,2,1,3],[0,2,3,1],[0,3,1,2],[0,3,2,1],[1,0,2,3],[1,0,3,2],[1,2,0,3],[1,2,3,0],[1,3,0,2],[1,3,2,0],[2,0,1,3],[2,0,3,1],[2,1,0,3],[2,1,3,0],[2,3,0,1],[2,3,1,0],[3,0,1,2],[3,0,2,1],[3,1,0,2],[3,1,2,0],[3,2,0,1],[3,2,1,0]]
theorem mem24 {p : List Int} (hp : p.length = 4) (h : validB p = true) : p ∈ p24 := by
  have hr := validB_range h
  match p, hp with
  | [a, b, c, d], _ =>
    have ha := hr a (by simp)
    have hb := hr b (by simp)
    have hc := hr c (by simp)
    have hd := hr d (by simp)
    have := all256 (Q := fun a b c d => !validB [(a : Int), (b : Int), (c : Int), (d : Int)] || p24.contains [(a : Int), (b : Int), (c : Int), (d : Int)]) (by kernel_rfl)
      (a := a.toNat) (b := b.toNat) (c := c.toNat) (d := d.toNat) (by omega) (by omega) (by omega) (by omega)
    have ea : ((a.toNat : Nat) : Int) = a := by omega
    have eb : ((b.toNat : Nat) : Int) = b := by omega
    have ec : ((c.toNat : Nat) : Int) = c := by omega
    have ed : ((d.toNat : Nat) : Int) = d := by omega
    rw [ea, eb, ec, ed, h] at this
    simpa using this
theorem all24 {Q : List Int → Bool} (h : p24.all Q = true) {p : List Int} (hp : p ∈ p24) : Q p = true := List.all_eq_true.1 h p hp
theorem len24 {p : List Int} (hp : p ∈ p24) : p.length = 4 := by simpa using all24 (Q := fun p => p.length == 4) (by kernel_rfl) hp
theorem inv24 {p : List Int} (hp : p ∈ p24) : inv p ∈ p24 := by simpa using all24 (Q := fun p => p24.contains (inv p)) (by kernel_rfl) hp
theorem range24 {p : List Int} (hp : p ∈ p24) {i : Nat} (hi : i < 4) : 0 ≤ p.getD i 0 ∧ p.getD i 0 < 4 := by
  have := all24 (Q := fun p => (List.range 4).all fun i => decide (0 ≤ p.getD i 0) && decide (p.getD i 0 < 4)) (by kernel_rfl) hp
  rw [List.all_eq_true] at this
  simpa using this i (by simpa using hi)
theorem inv_at {p : List Int} (hp : p ∈ p24) {i : Nat} (hi : i < 4) : (inv p).getD (p.getD i 0).toNat 0 = i := by
  have := all24 (Q := fun p => (List.range 4).all fun i => decide ((inv p).getD (p.getD i 0).toNat 0 = (i : Int))) (by kernel_rfl) hp
  rw [List.all_eq_true] at this
  simpa using this i (by simpa using hi)
theorem okFace_glued {Gl : List Int} {n t f : Nat} (h : okFace Gl n t f = true) (ht : ¬ tetL (faceL Gl t f) < 0) :
    tetL (faceL Gl t f) < n ∧ validB (permL (faceL Gl t f)) = true ∧ ¬ (tetL (faceL Gl t f) = t ∧ (permL (faceL Gl t f)).getD f 0 = f) ∧
      faceL Gl (tetL (faceL Gl t f)).toNat ((permL (faceL Gl t f)).getD f 0).toNat = (t : Int) :: inv (permL (faceL Gl t f)) := by
  unfold okFace at h
  have h0 : faceL Gl t f ≠ noneL := fun e => ht (by rw [e]; decide)
  simp only [h0, decide_false, Bool.false_or, Bool.and_eq_true, decide_eq_true_eq, Bool.not_eq_true'] at h
  obtain ⟨⟨⟨⟨h1, h2⟩, h3⟩, h4⟩, h5⟩ := h
  refine ⟨h2, h3, fun ⟨a, b⟩ => ?_, h5⟩
  rw [decide_eq_true a, decide_eq_true b] at h4
  cases h4
theorem okAll_face {Gl : List Int} {n t f : Nat} (h : okAll Gl n = true) (ht : t < n) (hf : f < 4) : okFace Gl n t f = true := by
  have := (okAll_iff Gl n).1 h (4 * t + f) (by omega)
  have e1 : (4 * t + f) / 4 = t := by omega
  have e2 : (4 * t + f) % 4 = f := by omega
  rwa [e1, e2] at this
def AppS (c0 : Nat) (h : FH) (c : Nat) (v : Value) (sz n : Nat) (L : List Int) : Prop :=
  L.length = n * sz ∧ n ≤ 9223372036854775807 ∧ ((v = .slice none 0 0 ∧ n = 0) ∨
    ∃ i, v = .slice (some ⟨i, 0, none⟩) n n ∧ 256 * c0 ≤ i ∧ i < 256 * c ∧ h.f i = some (.cells false (some sz) (ints L)))
theorem AppS.nil (c0 : Nat) (h : FH) (c sz : Nat) : AppS c0 h c (.slice none 0 0) sz 0 [] := ⟨by simp, by omega, .inl ⟨rfl, rfl⟩⟩
theorem AppS.flat {c0 : Nat} {h : FH} {c : Nat} {v : Value} {sz n : Nat} {L : List Int} (ha : AppS c0 h c v sz n L) : isFlat v = true ∧ v.cells = #[v] := by
  obtain ⟨_, _, ⟨rfl, _⟩ | ⟨i, rfl, _⟩⟩ := ha <;> exact ⟨rfl, rfl⟩
theorem AppS.sl {c0 : Nat} {h : FH} {c : Nat} {v : Value} {sz n : Nat} {L : List Int} (ha : AppS c0 h c v sz n L) : SlI h c v sz n L := by
  obtain ⟨h1, h2, ⟨rfl, rfl⟩ | ⟨i, rfl, h3, h4, h5⟩⟩ := ha
  · exact ⟨h1, h2, none, 0, rfl, .inl ⟨rfl, OkV.sl0 _ _ _⟩⟩
  · refine ⟨h1, h2, some ⟨i, 0, none⟩, n, rfl, .inr ⟨i, 0, ints L, rfl, h4, ⟨false, some sz, h5⟩, ?_⟩⟩
    rw [List.drop_zero, List.take_of_length_le (by simp [h1])]
theorem AppS.mono {c0 : Nat} {h : FH} {c c' : Nat} {v : Value} {sz n : Nat} {L : List Int} (hc : c ≤ c') (ha : AppS c0 h c v sz n L) : AppS c0 h c' v sz n L := by
  obtain ⟨h1, h2, h3 | ⟨i, rfl, h3, h4, h5⟩⟩ := ha
  · exact ⟨h1, h2, .inl h3⟩
  · exact ⟨h1, h2, .inr ⟨i, rfl, h3, by omega, h5⟩⟩
theorem AppS.keep {c0 : Nat} {h h' : FH} {c : Nat} {v : Value} {sz n : Nat} {L : List Int} (hh : ∀ i, 256 * c0 ≤ i → i < 256 * c → h'.f i = h.f i) (ha : AppS c0 h c v sz n L) : AppS c0 h' c v sz n L := by
  obtain ⟨h1, h2, h3 | ⟨i, rfl, h3, h4, h5⟩⟩ := ha
  · exact ⟨h1, h2, .inl h3⟩
  · exact ⟨h1, h2, .inr ⟨i, rfl, h3, h4, by rw [hh i h3 h4, h5]⟩⟩
theorem AppS.app {c0 : Nat} {h : FH} {c c' : Nat} {v : Value} {sz n : Nat} {L : List Int} (ha : AppS c0 h c v sz n L) (X : List Int) (hX : X.length = sz) (hsz : 0 < sz) (by' b id : Nat) (hb : 256 * c ≤ b) (hid : 256 * c ≤ id) (hne : b ≠ id) (hc0 : c0 ≤ c)
    (hid' : id < 256 * c') (hlim : (n + 1) * (by' + 1) ≤ 17592186044416) :
    ∃ v' h', appV (newB h b (ints X)) id sz by' v (.slice (some ⟨b, 0, none⟩) 1 1) = some (v', h') ∧ AppS c0 h' c' v' sz (n + 1) (L ++ X) ∧ Same c0 h h' ∧ v' = .slice (some ⟨id, 0, none⟩) (n + 1) (n + 1) := by
  obtain ⟨h1, h2, h3⟩ := ha
  have hlim' : Nat.ble ((n + 1) * (by' + 1)) 17592186044416 = true := Nat.ble_eq_true_of_le hlim
  have hsrc : srcCells (newB h b (ints X)) sz (.slice (some ⟨b, 0, none⟩) 1 1) = some (ints X, 1) := by
    have : Nat.ble (0 + 1 * sz) (ints X).length = true := Nat.ble_eq_true_of_le (by simp [hX])
    simp only [srcCells, rdCells, getCells, get_newB_same, Option.bind_some, this, cond_true, List.drop_zero]
    rw [List.take_of_length_le (by simp [hX])]
  have hn1 : n + 1 ≤ 17592186044416 := by
    have : (n + 1) * 1 ≤ (n + 1) * (by' + 1) := Nat.mul_le_mul_left _ (by omega)
    omega
  have hcap : Nat.ble (n + 1) n = false := by rw [Bool.eq_false_iff]; intro hh; have := Nat.le_of_ble_eq_true hh; omega
  rcases h3 with ⟨rfl, rfl⟩ | ⟨i, rfl, h3, h4, h5⟩
  · have hL : L = [] := List.eq_nil_of_length_eq_zero (by simpa using h1)
    subst hL
    refine ⟨_, HeapC.set (newB h b (ints X)) id (.cells false (some sz) (ints X)), ?_, ⟨by simp [hX], by omega, .inr ⟨id, rfl, by omega, hid', ?_⟩⟩, ?_, rfl⟩
    · simp only [appV, hsrc, Option.bind_some, appTo, hcap, cond_false, appGrow, hlim', ints_flat, Bool.and_self, cond_true, Nat.beq_refl, Nat.zero_add]
    · rw [set_f, if_pos rfl]; rfl
    · intro j hj
      rw [set_f, if_neg (by omega), newB_f, if_neg (by omega)]
  · have hbi : i ≠ b := by omega
    have hg : HeapC.get (newB h b (ints X)) i = some (.cells false (some sz) (ints L)) := by rw [get_newB_ne _ _ _ _ hbi]; exact h5
    have hr : Nat.ble (0 + n * sz) (ints L).length = true := Nat.ble_eq_true_of_le (by simp [h1])
    refine ⟨_, HeapC.set (HeapC.set (newB h b (ints X)) i .dead) id (.cells false (some sz) (((ints L).drop 0).take (n * sz) ++ ints X)), ?_, ⟨?_, by omega, .inr ⟨id, rfl, by omega, hid', ?_⟩⟩, ?_, rfl⟩
    · simp only [appV, hsrc, Option.bind_some, appTo, hcap, cond_false, appGrow, hlim', ints_flat, Bool.and_self, cond_true, rdCells, getCells, hg, hr, Nat.beq_refl, Bool.not_false, Bool.and_true]
    · simp [h1, hX, Nat.succ_mul]
    · rw [set_f, if_pos rfl, List.drop_zero, List.take_of_length_le (by simp [h1]), ints_append]
    · intro j hj
      rw [set_f, if_neg (by omega), set_f, if_neg (by omega), newB_f, if_neg (by omega)]
def rowTo (F : Nat → List Int) : Nat → List Int
  | 0 => []
  | f + 1 => rowTo F f ++ F f
theorem splice_ints (l x : List Int) (o : Nat) : splice (ints l) o (ints x) = ints (l.take o ++ x ++ l.drop (o + x.length)) := by
  simp [splice, ints, List.map_take, List.map_drop]
end Go.Ab

namespace Go.Ab
open Go
set_option maxRecDepth 100000
set_option linter.unusedVariables false
set_option linter.unusedSimpArgs false
def ordF (Ord Pm : List Int) (n : Nat) : Nat → Nat → List Bool → Bool
  | 0, _, _ => true
  | k + 1, i, met => if Ord.getD i 0 < 0 ∨ (n : Int) ≤ Ord.getD i 0 then false else if met.getD (Ord.getD i 0).toNat false = true then false else
      if validB (permAt Pm i) = false then false else ordF Ord Pm n k (i + 1) (met.set (Ord.getD i 0).toNat true)
def ordB (Ord Pm : List Int) (a b n : Nat) : Bool := decide (a = n) && decide (b = n) && ordF Ord Pm n n 0 (List.replicate n false)
theorem ordF_range {Ord Pm : List Int} {n : Nat} : ∀ {k i : Nat} {met : List Bool}, ordF Ord Pm n k i met = true → ∀ j, i ≤ j → j < i + k → 0 ≤ Ord.getD j 0 ∧ Ord.getD j 0 < n ∧ validB (permAt Pm j) = true
  | 0, i, met, h, j, h1, h2 => by omega
  | k + 1, i, met, h, j, h1, h2 => by
    unfold ordF at h
    split at h
    · cases h
    split at h
    · cases h
    split at h
    · cases h
    rename_i q1 q2 q3
    by_cases hj : j = i
    · subst hj
      exact ⟨by omega, by omega, by simpa using q3⟩
    · exact ordF_range h j (by omega) (by omega)
def backL (Ord : List Int) : Nat → Nat → List Int → List Int
  | 0, _, l => l
  | k + 1, i, l => backL Ord k (i + 1) (l.set (Ord.getD i 0).toNat i)
def back (Ord : List Int) (n : Nat) : List Int := backL Ord n 0 (List.replicate n 0)
def rnF (Gl Ord Pm Bk : List Int) (i f : Nat) : List Int :=
  if tetL (faceL Gl (Ord.getD i 0).toNat ((permAt Pm i).getD f 0).toNat) < 0 then noneL else
    Bk.getD (tetL (faceL Gl (Ord.getD i 0).toNat ((permAt Pm i).getD f 0).toNat)).toNat 0 ::
      comp (inv (permAt Pm (Bk.getD (tetL (faceL Gl (Ord.getD i 0).toNat ((permAt Pm i).getD f 0).toNat)).toNat 0).toNat))
        (comp (permL (faceL Gl (Ord.getD i 0).toNat ((permAt Pm i).getD f 0).toNat)) (permAt Pm i))
def rnL (Gl Ord Pm Bk : List Int) : Nat → List Int
  | 0 => []
  | i + 1 => rnL Gl Ord Pm Bk i ++ rowTo (rnF Gl Ord Pm Bk i) 4
structure RnOk (Gl Ord Pm : List Int) (n : Nat) : Prop where
  gl : Gl.length = n * 20
  ol : Ord.length = n
  pl : Pm.length = n * 4
  ok : okAll Gl n = true
  rng : ∀ j, j < n → 0 ≤ Ord.getD j 0 ∧ Ord.getD j 0 < n ∧ validB (permAt Pm j) = true
theorem RnOk.p24 {Gl Ord Pm : List Int} {n : Nat} (h : RnOk Gl Ord Pm n) {j : Nat} (hj : j < n) : permAt Pm j ∈ Ab.p24 := mem24 (permAt_length h.pl hj) (h.rng j hj).2.2
def rnE (Gl Ord Pm : List Int) (n a b : Nat) : Int := if n ≤ 1000 ∧ okAll Gl n = true then (if ordB Ord Pm a b n = true then 0 else 1) else 7
def rnN (Gl Ord Pm : List Int) (n a b : Nat) : Nat := if n ≤ 1000 ∧ okAll Gl n = true ∧ ordB Ord Pm a b n = true then n else 0
def rnR (Gl Ord Pm : List Int) (n a b : Nat) : List Int := if n ≤ 1000 ∧ okAll Gl n = true ∧ ordB Ord Pm a b n = true then rnL Gl Ord Pm (back Ord n) n else []
theorem ordB_iff {Ord Pm : List Int} {a b n : Nat} : ordB Ord Pm a b n = true ↔ a = n ∧ b = n ∧ ordF Ord Pm n n 0 (List.replicate n false) = true := by
  simp [ordB, and_assoc]
theorem RnOk.of {Gl Ord Pm : List Int} {n a b : Nat} (hG : Gl.length = n * 20) (hO : Ord.length = a) (hP : Pm.length = b * 4) (h2 : okAll Gl n = true) (h3 : ordB Ord Pm a b n = true) : RnOk Gl Ord Pm n := by
  obtain ⟨rfl, rfl, h4⟩ := ordB_iff.1 h3
  exact ⟨hG, hO, hP, h2, fun j hj => ordF_range h4 j (by omega) (by omega)⟩
@[simp] theorem st1_agg (h : FH) (i o : Nat) (cs : List Value) (v : Value) (ho : o < cs.length) (hv : isFlat v = true) : stN (newB h i cs) 1 (.pointer (some ⟨i, o, none⟩)) (.agg #[v]) = some (newB h i (cs.set o v)) := by
  rw [stN_newB_same h 1 i o cs (.agg #[v]) rfl (by omega) (by simp [Value.cells, hv])]
  show some (newB h i (splice cs o [v])) = _
  rw [splice_one cs o _ ho]
@[simp] theorem st1_sl (h : FH) (i o : Nat) (cs : List Value) (a : Option Addr) (n k : Nat) (ho : o < cs.length) : stN (newB h i cs) 1 (.pointer (some ⟨i, o, none⟩)) (.slice a n k) = some (newB h i (cs.set o (.slice a n k))) := by
  rw [stN_newB_same h 1 i o cs (.slice a n k) rfl (by omega) rfl]
  show some (newB h i (splice cs o [.slice a n k])) = _
  rw [splice_one cs o _ ho]
theorem ldN1_own {h : FH} {b : Nat} {cs : List Value} {v : Value} (hg : Holds h b (v :: cs)) : ldN h 1 (.pointer (some ⟨b, 0, none⟩)) = some (.agg #[v]) := by
  rw [ldN_holds hg (by simp)]; simp
def RnPost (h : FH) (c : Nat) (Gl Ord Pm : List Int) (n a b : Nat) (r : Rt FH) : Prop :=
  r.e = .ret ∧ r.df = [] ∧ c ≤ r.c ∧ Same c h r.h ∧ ∃ v, r.vs = [.tuple #[.agg #[v], .int .i64 (rnE Gl Ord Pm n a b)]] ∧ SlI r.h r.c v 20 (rnN Gl Ord Pm n a b) (rnR Gl Ord Pm n a b) ∧ (0 < rnN Gl Ord Pm n a b → 256 * c ≤ blkOf v)
theorem RnPost.callF {o : Orc FH} {g : FuncId} {args : List Value} {h : FH} {c : Nat} {Gl Ord Pm : List Int} {n a b : Nat} (e : Ans (o (.fn g) args h c []) (RnPost h c Gl Ord Pm n a b)) :
    ∃ v h' c', callF o g args h c = some (.tuple #[.agg #[v], .int .i64 (rnE Gl Ord Pm n a b)], h', c') ∧ c ≤ c' ∧ Same c h h' ∧ SlI h' c' v 20 (rnN Gl Ord Pm n a b) (rnR Gl Ord Pm n a b) ∧ (0 < rnN Gl Ord Pm n a b → 256 * c ≤ blkOf v) := by
  obtain ⟨r, e1, r1, r2, r3, r4, v, r5, r6, r7⟩ := e
  refine ⟨v, r.h, r.c, ?_, r3, r4, r6, r7⟩
  simp only [Ab.callF, e1, Option.bind_some, r5]
end Go.Ab

namespace Go.Ab
open Go Go.ChangeShapes Go.RowKit
set_option linter.unusedVariables false
set_option linter.unusedSimpArgs false
section post
variable {H : Type} {enc : TypeId × Value → H} {P : Program}
theorem trodAll_lt : ∀ {ts : List TypeId} {w : World} {vs : List Value} {ds : List (DataW H)} {ps : List MemPlace}, DataW.TrodAll enc P w 0 (fun _ => true) true ts vs ds ps → ∀ x ∈ ps, x.block < w.heap.size
  | [], w, vs, ds, ps, h, x, hx => by
    obtain ⟨_, _, rfl⟩ := trodAll_nil h
    cases hx
  | t :: ts, w, vs, ds, ps, h, x, hx => by
    obtain ⟨v, vs', d, ds', p, q, rfl, rfl, rfl, h1, h2⟩ := trodAll_cons h
    rcases List.mem_append.1 hx with hx | hx
    · obtain ⟨n, h1⟩ := h1
      exact DataW.trod_lt n _ _ _ h1 x hx
    · exact trodAll_lt h2 x hx
theorem trodAll_stays (hl : laidOutB P = true) : ∀ {ts : List TypeId} {w w' : World} {sp : Nat → Bool} {vs : List Value} {ds : List (DataW H)} {ps : List MemPlace}, (∀ t ∈ ts, P.readableRec t = true ∧ t < P.types.size) →
    DataW.TrodAll enc P w 0 (fun _ => true) true ts vs ds ps → (∀ p ∈ ps, w.sameAt w' p) → (∀ p ∈ ps, sp p.block = true) → DataW.TrodAll enc P w' 0 sp true ts vs ds ps
  | [], w, w', sp, vs, ds, ps, _, h, _, _ => by
    obtain ⟨rfl, rfl, rfl⟩ := trodAll_nil h
    exact rfl
  | t :: ts, w, w', sp, vs, ds, ps, hr, h, h1, h2 => by
    obtain ⟨v, vs', d, ds', p, q, rfl, rfl, rfl, g1, g2⟩ := trodAll_cons h
    refine ⟨p, q, ?_, ?_, rfl⟩
    · exact WideElems.Trod_stays hl (hr t (by simp)).1 (hr t (by simp)).2 g1 (fun x hx => h1 x (List.mem_append.2 (.inl hx))) (fun x hx => h2 x (List.mem_append.2 (.inl hx)))
    · exact trodAll_stays hl (fun u hu => hr u (by simp [hu])) g2 (fun x hx => h1 x (List.mem_append.2 (.inr hx))) (fun x hx => h2 x (List.mem_append.2 (.inr hx)))
theorem row_post (hl : laidOutB P = true) {f : Func} {s : ChangeSpec} {apart fresh handsOn again : Bool} {W W' : World} {args : Array Value} {ds gs : List (DataW H)} {before : List MemPlace} {tb : TypeId}
    (hts : ∀ t ∈ f.params.toList, P.readableRec t = true ∧ t < P.types.size) (hvars : s.vars = []) (hres : (s.fn H (ds ++ gs)).results = [.lit (.bool true)]) (hargs : (s.fn H (ds ++ gs)).args = ds) (hvs : (s.fn H (ds ++ gs)).vars = [])
    (hrt : f.resultTypes = #[tb]) (htb : P.underlying tb = some .bool) (hW : DataW.Whole enc P f.params.toList s.vars apart W args.toList ds gs before) (hB : Below W.heap.size W W') :
    s.post enc P f apart fresh handsOn again W args (.bool true) W' := by
  have hW0 := hW
  obtain ⟨p, q, hA, hV, rfl, hfz, hnd⟩ := hW
  rw [hvars] at hV
  have hgq : gs = [] ∧ q = [] := by
    cases gs with
    | nil => exact ⟨rfl, hV⟩
    | cons g gs => exact hV.elim
  obtain ⟨rfl, rfl⟩ := hgq
  have hlt := trodAll_lt hA
  have hrl : Value.resultList f.resultTypes.size (.bool true) = [.bool true] := by rw [hrt]; rfl
  have hR : ∀ (b : Nat) (sp : Nat → Bool) (hd : Bool), DataW.TrodAll enc P W' b sp hd f.resultTypes.toList (Value.resultList f.resultTypes.size (.bool true)) (s.fn H (ds ++ [])).results [] := by
    intro b sp hd
    rw [hrl, hres, hrt]
    exact ⟨[], [], shut_bool htb true, rfl, rfl⟩
  have hS : ∀ sp : Nat → Bool, (∀ x ∈ p, sp x.block = true) → DataW.TrodAll enc P W' 0 sp true f.params.toList args.toList (s.fn H (ds ++ [])).args p := by
    intro sp hsp
    rw [hargs]
    exact trodAll_stays hl hts hA (fun x hx => hB.same (hlt x hx)) hsp
  have hV' : ∀ sp : Nat → Bool, DataW.TrodVars enc P W' sp s.vars (s.fn H (ds ++ [])).vars [] := by
    intro sp; rw [hvars, hvs]; exact rfl
  have hfz' : W'.noneFrozen (p ++ []) := by
    intro b off hp
    have h1 := hfz b off hp
    have h2 : W'.heap[b]? = W.heap[b]? := hB.block b (hlt (.cell b off) (by simpa using hp))
    unfold World.frozen? at h1 ⊢
    simp only at h1 ⊢
    rw [h2]; exact h1
  have hok : ∀ (j : Nat) (t : TypeId) (r : Value), f.resultTypes[j]? = some t → (Value.resultList f.resultTypes.size (.bool true))[j]? = some r → Value.okWide P W' .any 0 t r :=
    ok_one hrt rfl (by simp [Value.okWide, htb, Cell.okWide, Cell.ok])
  refine ⟨ds, [], p ++ [], [], p, [], hW0, hR _ _ _, hS _ (fun x hx => by simpa using hlt x hx), hV' _, ?_, fun _ => ?_⟩
  · refine ⟨hB.os, hB.output, fun i hi => ?_⟩
    rw [hB.block i hi]
    split
    · rename_i h1 h2
      rw [h1] at h2
      cases h2
      exact ⟨rfl, rfl, rfl, fun _ _ => rfl⟩
    · rename_i h1 h2
      rw [h1] at h2
      cases h2
      exact .inr ⟨rfl, rfl⟩
    · rfl
  · refine ⟨hok, _, _, ([] ++ p) ++ [], ⟨[] ++ p, [], trodAll_append (hS (fun _ => true) (fun _ _ => rfl)) (hR _ _ _), hV' _, rfl, ?_, ?_⟩, ?_⟩
    · intro b off hp
      exact hfz' b off (by simpa using hp)
    · intro ha
      have := hnd ha
      simpa using this
    · intro x hx _
      simpa using hx
end post
def OpenS (W : World) (v : Value) (sz n : Nat) (Gl : List Int) : Prop :=
  Gl.length = n * sz ∧ n ≤ 9223372036854775807 ∧ ((v = .slice none 0 0 ∧ n = 0) ∨
    ∃ b o cap C E fr, v = .slice (some ⟨b, o, none⟩) n cap ∧ n ≤ cap ∧ W.heap[b]? = some (.cells C E fr) ∧ ∀ j, j < Gl.length → C[o + j]? = some (.int .i64 (Gl.getD j 0)))
def absS (i : Nat) (v : Value) : Value :=
  match v with
  | .slice (some _) n cap => .slice (some ⟨i, 0, none⟩) n cap
  | v => v
def absM (v : Value) : Option ME :=
  match v with
  | .slice (some a) _ _ => some ⟨a.block, a.off, none⟩
  | _ => none
theorem OpenS.vr {W : World} {v : Value} {sz n : Nat} {Gl : List Int} (h : OpenS W v sz n Gl) {μ : Mu} {i : Nat} (hm : ∀ m, absM v = some m → μ i = some m) : VR μ (absS i v) v := by
  obtain ⟨h1, h2, ⟨rfl, _⟩ | ⟨b, o, cap, C, E, fr, rfl, _, _, _⟩⟩ := h
  · exact .sl0 0 0
  · have := hm ⟨b, o, none⟩ rfl
    exact VR.sl (i := i) (o := 0) this (Nat.le_refl _) (.inl rfl)
theorem OpenS.sl {W : World} {v : Value} {sz n : Nat} {Gl : List Int} (h : OpenS W v sz n Gl) {A : FH} {i c : Nat} (hi : i < 256 * c) (ha : ∀ m, absM v = some m → A.f i = some (.cells true none (ints Gl))) : SlI A c (absS i v) sz n Gl := by
  obtain ⟨h1, h2, ⟨rfl, rfl⟩ | ⟨b, o, cap, C, E, fr, rfl, _, _, _⟩⟩ := h
  · exact ⟨h1, h2, none, 0, rfl, .inl ⟨rfl, OkV.sl0 _ _ _⟩⟩
  · refine ⟨h1, h2, some ⟨i, 0, none⟩, cap, rfl, .inr ⟨i, 0, ints Gl, rfl, hi, ⟨true, none, ha _ rfl⟩, ?_⟩⟩
    rw [List.drop_zero, List.take_of_length_le (by simp [h1])]
theorem OpenS.blk {W : World} {v : Value} {sz n : Nat} {Gl : List Int} (h : OpenS W v sz n Gl) {μ : Mu} {m : ME} (hm : absM v = some m) : BlkR μ m W.heap (some (.cells true none (ints Gl))) ∧ m.b < W.heap.size := by
  obtain ⟨h1, h2, ⟨rfl, rfl⟩ | ⟨b, o, cap, C, E, fr, rfl, _, h3, h4⟩⟩ := h
  · cases hm
  · cases hm
    refine ⟨⟨C, E, fr, h3, fun k x hx => ?_, (fun h => by cases h), rfl⟩, (Array.getElem?_eq_some_iff.1 h3).1⟩
    have hk : k < Gl.length := by have := (List.getElem?_eq_some_iff.1 hx).1; simpa using this
    rw [ints_getD _ _ hk] at hx
    cases hx
    exact ⟨_, h4 k hk, .int _ _⟩
def FlatT (P : Program) (e : TypeId) (sz : Nat) : Prop :=
  P.cellsOf e = sz ∧ ∀ (H : Type) (enc : TypeId × Value → H) (w : World) (base : Nat) (spare : Nat → Bool) (held : Bool) (fuel : Nat) (cs : List Value) (x : DataW H × List MemPlace),
    DataW.trod enc P w base spare held fuel e cs = some x → cs.length = sz ∧ ∀ v ∈ cs, ∃ n, v = .int .i64 n
section flat
variable {P : Program}
theorem FlatT.int {e : TypeId} (he : P.underlying e = some (.int .i64)) (hc : P.cellsOf e = 1) : FlatT P e 1 := by
  refine ⟨hc, fun H enc w base spare held fuel cs x h => ?_⟩
  obtain ⟨n, rfl, _, _⟩ := DataW.trod_int he h
  exact ⟨rfl, fun v hv => ⟨n, by simpa using hv⟩⟩
theorem mapM_get {α β : Type} {f : α → Option β} : ∀ {l : List α} {r : List β}, l.mapM f = some r → ∀ a ∈ l, ∃ b, f a = some b
  | [], r, h, a, ha => by cases ha
  | x :: l, r, h, a, ha => by
    rw [List.mapM_cons] at h
    simp only [Option.bind_eq_bind, Option.bind_eq_some_iff] at h
    obtain ⟨y, hy, ys, hys, _⟩ := h
    rcases List.mem_cons.1 ha with rfl | ha
    · exact ⟨y, hy⟩
    · exact mapM_get hys a ha
theorem FlatT.array {t e : TypeId} {n z : Nat} (ht : P.underlying t = some (.array n e)) (hf : FlatT P e z) (hc : P.cellsOf t = n * z) : FlatT P t (n * z) := by
  refine ⟨hc, fun H enc w base spare held fuel cs x h => ?_⟩
  cases fuel with
  | zero => simp [DataW.trod] at h
  | succ fuel =>
    have h' : (if cs.length = P.cellsOf t then ((List.range n).mapM fun i => DataW.trod enc P w base spare held fuel e ((cs.drop (i * P.cellsOf e)).take (P.cellsOf e))).map fun xs => ((.agg (xs.map (·.1)), xs.flatMap (·.2)) : DataW H × List MemPlace) else none) = some x := by
      have h1 := h
      unfold DataW.trod at h1
      rw [ht] at h1
      split at h1 <;> first | exact h1 | (rename_i e1 _; cases e1) | (rename_i e1 _ _; cases e1) | (rename_i e1; cases e1) | skip
      all_goals first | exact h1 | (simp_all; done) | skip
    split at h'
    · rename_i hl
      rw [hc] at hl
      refine ⟨hl, fun v hv => ?_⟩
      cases hm : (List.range n).mapM fun i => DataW.trod enc P w base spare held fuel e ((cs.drop (i * P.cellsOf e)).take (P.cellsOf e)) with
      | none => rw [hm] at h'; cases h'
      | some ys =>
        obtain ⟨j, hj⟩ := List.getElem?_of_mem hv
        have hjl : j < n * z := by have := (List.getElem?_eq_some_iff.1 hj).1; omega
        have hz : 0 < z := by
          rcases Nat.eq_zero_or_pos z with e | e
          · rw [e] at hjl; simp at hjl
          · exact e
        have hi : j / z < n := by rw [Nat.div_lt_iff_lt_mul hz]; exact hjl
        obtain ⟨y, hy⟩ := mapM_get hm (j / z) (by simpa using hi)
        rw [hf.1] at hy
        refine (hf.2 _ _ _ _ _ _ _ _ _ hy).2 v ?_
        refine List.mem_of_getElem? (i := j % z) ?_
        rw [List.getElem?_take_of_lt (Nat.mod_lt _ hz), List.getElem?_drop, Nat.mul_comm, Nat.div_add_mod]
        exact hj
    · cases h'
theorem FlatT.struct2 {t : TypeId} {f0 f1 : Field} {z0 z1 : Nat} (ht : P.underlying t = some (.struct #[f0, f1])) (h0 : FlatT P f0.type z0) (h1 : FlatT P f1.type z1) (o0 : f0.offset = 0) (o1 : f1.offset = z0) (hc : P.cellsOf t = z0 + z1) : FlatT P t (z0 + z1) := by
  refine ⟨hc, fun H enc w base spare held fuel cs x h => ?_⟩
  obtain ⟨xs, n, rfl, _, hl, hxl, hf⟩ := DataW.trod_struct ht h
  rw [hc] at hl
  refine ⟨hl, fun v hv => ?_⟩
  have g0 := hf 0 f0 rfl
  have g1 := hf 1 f1 rfl
  have l2 : xs.length = 2 := hxl
  rw [List.getElem?_eq_getElem (by omega)] at g0 g1
  rw [h0.1, o0, List.drop_zero] at g0
  rw [h1.1, o1] at g1
  obtain ⟨j, hj⟩ := List.getElem?_of_mem hv
  have hjl : j < z0 + z1 := by have := (List.getElem?_eq_some_iff.1 hj).1; omega
  by_cases hlt : j < z0
  · refine (h0.2 _ _ _ _ _ _ _ _ _ g0).2 v (List.mem_of_getElem? (i := j) ?_)
    rw [List.getElem?_take_of_lt hlt]; exact hj
  · refine (h1.2 _ _ _ _ _ _ _ _ _ g1).2 v (List.mem_of_getElem? (i := j - z0) ?_)
    rw [List.getElem?_take_of_lt (by omega), List.getElem?_drop, show z0 + (j - z0) = j by omega]
    exact hj
theorem open_flat {H : Type} {enc : TypeId × Value → H} {W : World} {base : Nat} {t e : TypeId} {sz : Nat} {v : Value} {fuel : Nat} {x : DataW H × List MemPlace} (ht : P.underlying t = some (.slice e)) (hf : FlatT P e sz) (hz : 0 < sz)
    (hval : Cell.okWide P W .any base t v) (hd : DataW.trod enc P W 0 (fun _ => true) true fuel t [v] = some x) : ∃ n Gl, OpenS W v sz n Gl := by
  rcases DataW.trod_slice ht hd with ⟨h1, _⟩ | ⟨a, len, cap, elems, rest, n, _, h1, _, hb, hl, hm, hlen, hel, _, _⟩
  · cases h1
    exact ⟨0, [], by simp, by omega, .inl ⟨rfl, rfl⟩⟩
  · cases h1
    have hok : Cell.ok P W .any base t (.slice (some a) len cap) := by
      unfold Cell.okWide at hval
      rw [ht] at hval
      exact hval
    unfold Cell.ok at hok
    rw [ht] at hok
    obtain ⟨_, _, _, hsp, row, cells, hsh, _⟩ := hok
    obtain ⟨b, o, sp⟩ := a
    simp only at hsp
    subst hsp
    unfold World.shape? at hsh
    have hblk : ∃ C E fr, W.heap[b]? = some (.cells C E fr) := by
      split at hsh
      · rename_i c el fr hh; exact ⟨c, el, fr, hh⟩
      · cases hsh
    obtain ⟨C, E, fr, hC⟩ := hblk
    have hadd : ∀ o k, (⟨b, o, none⟩ : Addr).add k = ⟨b, o + k, none⟩ := fun o k => by unfold Addr.add; split <;> simp_all
    have hcell : ∀ j, j < len * sz → ∃ z, C[o + j]? = some (.int .i64 z) := by
      intro j hj
      have hi : j / sz < len := by rw [Nat.div_lt_iff_lt_mul hz]; exact hj
      have h2 := hel (j / sz) hi
      rw [List.getElem?_eq_getElem (by omega)] at h2
      simp only [Option.bind_eq_some_iff] at h2
      obtain ⟨cs, hcs, htr⟩ := h2
      rw [hf.1] at hcs
      obtain ⟨_, hcl, hcg⟩ := World.cells?_some hcs
      have h3 := hcg (j % sz) (Nat.mod_lt _ hz)
      have hfl := hf.2 _ _ _ _ _ _ _ _ _ htr
      have hjm : j % sz < cs.length := by rw [hcl]; exact Nat.mod_lt _ hz
      rw [List.getElem?_eq_getElem hjm] at h3
      obtain ⟨z, hz'⟩ := hfl.2 cs[j % sz] (List.getElem_mem hjm)
      rw [hz', hadd] at h3
      have : (⟨b, o + j / sz * sz, none⟩ : Addr).add (j % sz) = ⟨b, o + j, none⟩ := by
        rw [hadd]
        have := Nat.div_add_mod j sz
        rw [Nat.mul_comm] at this
        congr 1; omega
      rw [this] at h3
      refine ⟨z, ?_⟩
      simpa [World.cell?, hC] using h3
    refine ⟨len, (List.range (len * sz)).map fun j => (match C[o + j]? with | some (.int .i64 z) => z | _ => 0), by simp, ?_, .inr ⟨b, o, cap, C, E, fr, rfl, hl, hC, fun j hj => ?_⟩⟩
    · unfold maxLen at hm
      have : cap ≤ 9223372036854775807 := by simp at hm; omega
      omega
    · have hj' : j < len * sz := by simpa using hj
      obtain ⟨z, hz'⟩ := hcell j hj'
      rw [hz']
      congr 2
      simp [List.getD, hj', hz']
end flat
end Go.Ab

namespace Go.Ab
open Go
set_option linter.unusedVariables false
set_option linter.unusedSimpArgs false
def adrOf : Value → Option Addr
  | .slice a _ _ => a
  | _ => none
def SlX (h : FH) (s : Value) (sz n : Nat) : Prop := n ≤ capOf s ∧ szOk h sz (adrOf s) = true
def subS (sz lo hi : Nat) : Value → Value
  | .slice (some ⟨b, o, none⟩) _ cap => .slice (some ⟨b, o + lo * sz, none⟩) (hi - lo) (cap - lo)
  | v => v
theorem SlX.sub {h : FH} {c : Nat} {s : Value} {sz n : Nat} {L : List Int} (hs : SlI h c s sz n L) (hx : SlX h s sz n) (k k' : IntKind) (lo hi : Int) (h1 : 0 ≤ lo) (h2 : lo ≤ hi) (h3 : hi ≤ (n : Int)) (hn : 0 < n) :
    slS h sz s (some (.int k lo)) (some (.int k' hi)) none = some (subS sz lo.toNat hi.toNat s) := by
  obtain ⟨g1, g2, a, cap, rfl, h4⟩ := hs
  obtain ⟨x1, x2⟩ := hx
  rcases h4 with ⟨e, hv⟩ | ⟨b, o, cs, rfl, e2, e3, e4⟩
  · omega
  · simp only [capOf, adrOf] at x1 x2
    have q0 : Nat.ble cap cap = true := Nat.ble_eq_true_of_le (Nat.le_refl _)
    have q1 : (0 : Int) ≤ hi := by omega
    have q2 : hi ≤ (cap : Int) := by omega
    have q3 : lo ≤ (hi.toNat : Int) := by omega
    simp only [slS, x2, cond_true, bnds, bndO, q0, Option.bind_some, bnd, decide_eq_true q1, decide_eq_true q2, decide_eq_true h1, decide_eq_true q3, Bool.and_self, Option.isSome_none, Bool.false_and, cond_false, slOf, subS]
theorem SlI.sub {h : FH} {c : Nat} {s : Value} {sz n : Nat} {L : List Int} (hs : SlI h c s sz n L) (lo hi : Nat) (h2 : lo ≤ hi) (h3 : hi ≤ n) (hn : 0 < n) :
    SlI h c (subS sz lo hi s) sz (hi - lo) ((L.drop (lo * sz)).take ((hi - lo) * sz)) := by
  obtain ⟨g1, g2, a, cap, rfl, h4⟩ := hs
  rcases h4 with ⟨e, hv⟩ | ⟨b, o, cs, rfl, e2, e3, e4⟩
  · omega
  · have hm : lo * sz + (hi - lo) * sz ≤ L.length := by
      rw [g1, ← Nat.add_mul]; exact Nat.mul_le_mul_right _ (by omega)
    refine ⟨by rw [List.length_take, List.length_drop]; omega, by omega, _, _, rfl, .inr ⟨b, o + lo * sz, cs, rfl, e2, e3, ?_⟩⟩
    exact win_sub e4 hm
theorem SlX.same {h h' : FH} {c : Nat} {s : Value} {sz n : Nat} {L : List Int} (hs : SlI h c s sz n L) (hn : 0 < n) (hh : Same c h h') (hx : SlX h s sz n) : SlX h' s sz n := by
  obtain ⟨g1, g2, a, cap, rfl, h4⟩ := hs
  obtain ⟨x1, x2⟩ := hx
  rcases h4 with ⟨e, hv⟩ | ⟨b, o, cs, rfl, e2, e3, e4⟩
  · omega
  · refine ⟨x1, ?_⟩
    simp only [adrOf, szOk] at x2 ⊢
    have : HeapC.get h' b = HeapC.get h b := hh b e2
    rw [this]; exact x2
theorem OpenS.slx {W : World} {v : Value} {sz n : Nat} {Gl : List Int} (h : OpenS W v sz n Gl) {A : FH} {i : Nat} (ha : ∀ m, absM v = some m → A.f i = some (.cells true none (ints Gl))) : SlX A (absS i v) sz n := by
  obtain ⟨h1, h2, ⟨rfl, rfl⟩ | ⟨b, o, cap, C, E, fr, rfl, g1, _, _⟩⟩ := h
  · exact ⟨Nat.zero_le _, rfl⟩
  · refine ⟨g1, ?_⟩
    have : HeapC.get A i = some (.cells true none (ints Gl)) := ha _ rfl
    simp only [absS, adrOf, szOk, this]
def tyT : List Int := [-1, 0, 1, 2, 0, -1, 2, 1, 1, 2, -1, 0, 2, 1, 0, -1]
def ty (i f : Int) : Int := ((tyT.drop (i.toNat * 4)).take 4).getD f.toNat 0
theorem ty_range {i f : Int} (h1 : 0 ≤ i) (h2 : i < 4) (h3 : 0 ≤ f) (h4 : f < 4) (hne : i ≠ f) : 0 ≤ ty i f ∧ ty i f < 3 := by
  have : ((List.range 4).all fun i => (List.range 4).all fun f => decide (i = f) || (decide (0 ≤ ty (i : Nat) (f : Nat)) && decide (ty (i : Nat) (f : Nat) < 3))) = true := by decide
  rw [List.all_eq_true] at this
  have h5 := this i.toNat (by simp; omega)
  rw [List.all_eq_true] at h5
  have h6 := h5 f.toNat (by simp; omega)
  have e1 : ((i.toNat : Nat) : Int) = i := by omega
  have e2 : ((f.toNat : Nat) : Int) = f := by omega
  rw [e1, e2] at h6
  have h7 : ¬ i.toNat = f.toNat := by omega
  simpa [h7] using h6
def arcV (V : List Int) (t f i : Int) : Int := gi V (7 * t + i) + gi V (7 * t + 4 + ty i f)
def nzC : List Int → Nat
  | [] => 0
  | x :: l => (if x = 0 then 0 else 1) + nzC l
def areQ (L : List Int) : Bool := decide (nzC L ≤ 1)
def withinB (L : List Int) : Bool := L.all fun x => decide (0 ≤ x) && decide (x ≤ 1000000)
theorem takeAll_ok : ∀ {df : List Nat} {h : FH}, df.Nodup → (∀ d ∈ df, h.f d = some .dfr) → ∃ h', takeAll h df = some h' ∧ ∀ i, i ∉ df → h'.f i = h.f i
  | [], h, _, _ => ⟨h, rfl, fun _ _ => rfl⟩
  | d :: df, h, hn, hd => by
    have h1 := hd d (by simp)
    have hg : HeapC.get h d = some .dfr := h1
    obtain ⟨hn1, hn2⟩ := List.nodup_cons.1 hn
    obtain ⟨h', e, k⟩ := takeAll_ok (df := df) (h := HeapC.del h d) hn2 (fun x hx => by
      have hne : ¬ x = d := fun e => hn1 (by rw [← e]; exact hx)
      rw [del_f, if_neg hne]
      exact hd x (by simp [hx]))
    refine ⟨h', by simp only [takeAll, hg, e], fun i hi => ?_⟩
    simp only [List.mem_cons, not_or] at hi
    rw [k i hi.2, del_f, if_neg hi.1]
end Go.Ab

namespace Go.Proofs.Ytcnndelmnobigaa
open Go Go.Ab Go.Proofs
set_option maxRecDepth 100000
set_option linter.unusedVariables false
set_option linter.unusedSimpArgs false
theorem flat1 {a : Value} (ha : isFlat a = true) : ((Value.agg #[a]).cells.toList.all isFlat) = true := by simp [Value.cells, ha]
theorem cell1 (a : Value) : (Value.agg #[a]).cells.toList = [a] := rfl
theorem callF_check (s : Value) (n : Nat) (Gl : List Int) (h : FH) (c : Nat) (hs : SlI h c s 20 n Gl) : callF G 70 [.agg #[s]] h c = some (.int .i64 (if n ≤ 1000 ∧ okAll Gl n = true then 0 else 7), h, c) := callF_of (check_sp s n Gl h c [] hs)
theorem types_sp (h : FH) (c : Nat) (df : List Nat) : G (.fn 60) [] h c df = some { e := .ret, vs := [av tyT], h := h, c := c, df := [] } := by
  refine pure_of' (fun r e => f60_go e) (by simp) ?_
  unfold f60_S
  have z1 : bldV [(.int .i64 0), (.int .i64 0), (.int .i64 0), (.int .i64 0), (.int .i64 0), (.int .i64 0), (.int .i64 0), (.int .i64 0), (.int .i64 0), (.int .i64 0), (.int .i64 0), (.int .i64 0), (.int .i64 0), (.int .i64 0), (.int .i64 0), (.int .i64 0)] [(0, 4, av [-1, 0, 1, 2]), (4, 4, av [0, -1, 2, 1]), (8, 4, av [1, 2, -1, 0]), (12, 4, av [2, 1, 0, -1])] = some (av tyT) := rfl
  have z2 : ∀ (H : FH) (b : Nat) (cs : List Value), cs.length = 16 → stN (newB H b cs) 16 (.pointer (some ⟨b, 0, none⟩)) (av tyT) = some (newB H b (ints tyT)) := fun H b cs hc => stN_all H b 16 cs tyT rfl hc
  have z3 : ∀ (H : FH) (b : Nat), ldN (newB H b (ints tyT)) 16 (.pointer (some ⟨b, 0, none⟩)) = some (av tyT) := fun H b => by rw [ldN_newB_same _ _ _ _ _ (by simp [tyT])]; rfl
  have fx := And.intro bld4 (And.intro z1 (And.intro z2 z3))
  refine Ans.go ?_
  clear fx
  (have fx := True.intro; exact Ans.pu)
theorem callF_types (h : FH) (c : Nat) : callF G 60 [] h c = some (av tyT, h, c) := callF_of (types_sp h c [])
theorem arcs_sp (s : Value) (n : Nat) (V : List Int) (t f i : Int) (h : FH) (c : Nat) (df : List Nat) (hs : SlI h c s 1 n V) (ht : 0 ≤ t) (htn : 7 * t + 7 ≤ n) (hn : n ≤ 1000000) (hf : 0 ≤ f) (hf4 : f < 4) (hi : 0 ≤ i) (hi4 : i < 4) (hne : i ≠ f)
    (hV : ∀ j : Nat, j < n → -1000000000000 ≤ gi V j ∧ gi V j ≤ 1000000000000) :
    G (.fn 50) [s, .int .i64 t, .int .i64 f, .int .i64 i] h c df = some { e := .ret, vs := [.int .i64 (arcV V t f i)], h := h, c := c, df := [] } := by
  refine pure_of' (fun r e => f50_go e) (by simp) ?_
  unfold f50_S arcV
  have hr := ty_range hi hi4 hf hf4 hne
  have k1 := hV (7 * t + i).toNat (by omega)
  have k2 := hV (7 * t + 4 + ty i f).toNat (by omega)
  have e1 : (((7 * t + i).toNat : Nat) : Int) = 7 * t + i := by omega
  have e2 : (((7 * t + 4 + ty i f).toNat : Nat) : Int) = 7 * t + 4 + ty i f := by omega
  rw [e1] at k1
  rw [e2] at k2
  have l1 := hs.rdi (7 * t + i) (by omega) (by omega)
  have l2 := hs.rdi (7 * t + 4 + ty i f) (by omega) (by omega)
  have x1 := ixV_avs tyT 4 4 .i64 i hi (by omega) rfl
  have hl4 : ((tyT.drop (i.toNat * 4)).take 4).length = 4 := by simp [tyT]; omega
  have x2 := ixV_av ((tyT.drop (i.toNat * 4)).take 4) 4 .i64 f hf (by omega) hl4
  rw [show ((tyT.drop (i.toNat * 4)).take 4).getD f.toNat 0 = ty i f from rfl] at x2
  obtain ⟨R, hR⟩ : ∃ R, (tyT.drop (i.toNat * 4)).take 4 = R := ⟨_, rfl⟩
  rw [hR] at x1 x2
  obtain ⟨T, hT⟩ : ∃ T, ty i f = T := ⟨_, rfl⟩
  rw [hT] at x2 l2 k2 hr ⊢
  obtain ⟨A, hA⟩ : ∃ A, gi V (7 * t + i) = A := ⟨_, rfl⟩
  obtain ⟨B, hB⟩ : ∃ B, gi V (7 * t + 4 + T) = B := ⟨_, rfl⟩
  rw [hA] at l1 k1 ⊢
  rw [hB] at l2 k2 ⊢
  have fx := And.intro hs.ixs1 (And.intro l1 (And.intro l2 (And.intro callF_types (And.intro x1 x2))))
  refine Ans.go ?_
  clear fx
  (have fx := True.intro; exact Ans.pu)
theorem nzC_drop {L : List Int} {i n : Nat} (hL : L.length = n) (hi : i < n) : nzC (L.drop i) = (if L.getD i 0 = 0 then 0 else 1) + nzC (L.drop (i + 1)) := by
  rw [List.drop_eq_getElem_cons (by omega), nzC]
  have : L.getD i 0 = L[i]'(by omega) := by simp [List.getD, List.getElem?_eq_getElem (by omega : i < L.length)]
  rw [this]
theorem areQ_loop (s : Value) (n : Nat) (L : List Int) (h : FH) (c : Nat) (hs : SlI h c s 1 n L) (hn : n ≤ 1000000) (df : List Nat) : ∀ (k i m : Nat), i + k = n → m ≤ i →
    Ans (G (f56_k56000 none) [.int .i64 m, s, .int .i64 n, .int .i64 i] h c df) fun r => r = { e := .exit 0, vs := [.int .i64 (m + nzC (L.drop i) : Nat), s, .int .i64 n, .int .i64 n], h := h, c := c, df := df } := by
  intro k
  have o1 := hs.okV
  induction k with
  | zero =>
    intro i m hi hm
    obtain rfl : i = n := by omega
    refine Ans.loop (fun q r => f56_N56000) (fun q => f56_Z56000) ?_
    unfold f56_L56000
    have fx := True.intro
    refine Ans.go ?_
    clear fx
    (have fx := o1; refine Ans.ex0 ?_; clear fx)
    rw [List.drop_of_length_le (by have := hs.1; omega)]
    rfl
  | succ k ih =>
    intro i m hi hm
    have hl := hs.1
    have l1 := hs.rdi i (by omega) (by omega)
    simp only [Int.toNat_natCast] at l1
    rw [gi_nat] at l1
    have hd := nzC_drop (L := L) (i := i) (n := n) (by omega) (by omega)
    obtain ⟨X, hX⟩ : ∃ X, L.getD i 0 = X := ⟨_, rfl⟩
    rw [hX] at l1 hd
    refine Ans.loop (fun q r => f56_N56000) (fun q => f56_Z56000) ?_
    unfold f56_L56000
    repeat' (first | ((with_reducible first | refine Ans.bz ?_ | refine Ans.r1 ?_ | refine Ans.pkT ?_ | refine Ans.pkF ?_); try dsimp only [v_zero, v_succ]) | (with_reducible first | refine Ans.btL ?_ | refine Ans.bfL ?_ | refine Ans.gyT ?_ | refine Ans.gyF ?_ | refine Ans.gyG ?_ | refine Ans.bb ?_ | refine Ans.bc ?_ | refine Ans.ba ?_) | ((with_reducible first | refine Ans.lsT ?_ ?_ | refine Ans.neT ?_ ?_); (focus omega)) | ((with_reducible first | refine Ans.lsF ?_ ?_ | refine Ans.neF ?_ ?_); (focus omega)) | (with_reducible first | refine Ans.lsS (fun _ => ?_) (fun _ => ?_) | refine Ans.neS (fun _ => ?_) (fun _ => ?_)) | ((with_reducible first | refine Ans.addN ?_ ?_ | refine Ans.add ?_ ?_); (focus omega)) | ((with_reducible first | refine Ans.ct ?_ ?_); (focus (simp (disch := (first | omega | with_reducible assumption | (simp <;> omega) | fail)) [hs.ixs1, l1]; done))) | ((with_reducible first | refine Ans.cf ?_ ?_); (focus (simp (disch := (first | omega | with_reducible assumption | (simp <;> omega) | fail)) [hs.ixs1, l1]; done))) | (refine Ans.step (by simp (disch := (first | omega | with_reducible assumption | (simp <;> omega) | fail)) [hs.ixs1, l1, -List.getD_eq_getElem?_getD] <;> rfl) ?_; try dsimp only [v_zero, v_succ]) | fail)
    · rename_i hne
      rw [if_neg hne] at hd
      (have fx := o1; refine Ans.nx0 ?_; clear fx)
      refine (ih (i + 1) (m + 1) (by omega) (by omega)).mono ?_
      rintro r rfl
      rw [hd, Nat.add_assoc]
    · rename_i heq
      rw [if_pos heq] at hd
      (have fx := o1; refine Ans.nx0 ?_; clear fx)
      refine (ih (i + 1) m (by omega) (by omega)).mono ?_
      rintro r rfl
      rw [hd, Nat.zero_add]
theorem areQ_sp (s : Value) (n : Nat) (L : List Int) (h : FH) (c : Nat) (df : List Nat) (hs : SlI h c s 1 n L) (hn : n ≤ 1000000) :
    G (.fn 56) [s] h c df = some { e := .ret, vs := [.bool (areQ L)], h := h, c := c, df := [] } := by
  refine pure_of' (fun r e => f56_go e) (by simp) ?_
  unfold f56_S
  have hl := hs.len
  have hr := Ans.eq (areQ_loop s n L h (c + 1 + 1 + 1) (hs.mono (by omega)) hn [] n 0 0 (by omega) (by omega))
  rw [List.drop_zero, Nat.zero_add] at hr
  simp only [Int.ofNat_eq_natCast, Int.cast_ofNat_Int] at hr
  repeat' (first | ((with_reducible first | refine Ans.bz ?_ | refine Ans.r1 ?_ | refine Ans.pkT ?_ | refine Ans.pkF ?_); try dsimp only [v_zero, v_succ]) | (with_reducible first | refine Ans.btL ?_ | refine Ans.bfL ?_ | refine Ans.gyT ?_ | refine Ans.gyF ?_ | refine Ans.gyG ?_ | refine Ans.bb ?_ | refine Ans.bc ?_ | refine Ans.ba ?_) | ((with_reducible first | refine Ans.leT ?_ ?_); (focus omega)) | ((with_reducible first | refine Ans.leF ?_ ?_); (focus omega)) | (with_reducible first | refine Ans.leS (fun _ => ?_) (fun _ => ?_)) | ((with_reducible first | refine Ans.ct ?_ ?_); (focus (simp (disch := (first | omega | with_reducible assumption | (simp <;> omega) | fail)) [hl, hr]; done))) | ((with_reducible first | refine Ans.cf ?_ ?_); (focus (simp (disch := (first | omega | with_reducible assumption | (simp <;> omega) | fail)) [hl, hr]; done))) | (refine Ans.step (by simp (disch := (first | omega | with_reducible assumption | (simp <;> omega) | fail)) [hl, hr, -List.getD_eq_getElem?_getD] <;> rfl) ?_; try dsimp only [v_zero, v_succ]) | fail)
  · rename_i hx
    exact Ans.pure (by simp [areQ]; omega) (by simp)
  · rename_i hx
    exact Ans.pure (by simp [areQ]; omega) (by simp)
theorem outside_sp (x : Int) (h : FH) (c : Nat) (df : List Nat) : G (.fn 76) [.int .i64 x] h c df = some { e := .ret, vs := [.bool (!(decide (0 ≤ x) && decide (x ≤ 1000000)))], h := h, c := c, df := [] } := by
  refine pure_of' (fun r e => f76_go e) (by simp) ?_
  unfold f76_S
  repeat' (first | ((with_reducible first | refine Ans.bz ?_ | refine Ans.r1 ?_ | refine Ans.pkT ?_ | refine Ans.pkF ?_); try dsimp only [v_zero, v_succ]) | (with_reducible first | refine Ans.btL ?_ | refine Ans.bfL ?_ | refine Ans.gyT ?_ | refine Ans.gyF ?_ | refine Ans.gyG ?_ | refine Ans.bb ?_ | refine Ans.bc ?_ | refine Ans.ba ?_) | ((with_reducible first | refine Ans.lsT ?_ ?_ | refine Ans.grT ?_ ?_); (focus omega)) | ((with_reducible first | refine Ans.lsF ?_ ?_ | refine Ans.grF ?_ ?_); (focus omega)) | (with_reducible first | refine Ans.lsS (fun _ => ?_) (fun _ => ?_) | refine Ans.grS (fun _ => ?_) (fun _ => ?_)) | ((with_reducible first | refine Ans.ct ?_ ?_); (focus (simp (disch := (first | omega | with_reducible assumption | (simp <;> omega) | fail)) []; done))) | ((with_reducible first | refine Ans.cf ?_ ?_); (focus (simp (disch := (first | omega | with_reducible assumption | (simp <;> omega) | fail)) []; done))) | (refine Ans.step (by simp (disch := (first | omega | with_reducible assumption | (simp <;> omega) | fail)) [-List.getD_eq_getElem?_getD] <;> rfl) ?_; try dsimp only [v_zero, v_succ]) | fail)
  all_goals exact Ans.pure (by simp; omega) (by simp)
theorem callV76 (h : FH) (c : Nat) (v : Value) : callV G h c (.func (.func 76) #[] #[]) [v] = callF G 76 [v] h c := by rfl
theorem callV_outside (x : Int) (h : FH) (c : Nat) : callV G h c (.func (.func 76) #[] #[]) [.int .i64 x] = some (.bool (!(decide (0 ≤ x) && decide (x ≤ 1000000))), h, c) := by
  rw [callV76]; exact callF_of (outside_sp x h c [])
theorem index_loop (s : Value) (n : Nat) (L : List Int) (h : FH) (c : Nat) (hs : SlI h c s 1 n L) (hn : n ≤ 9000000000) (df : List Nat) : ∀ (k i : Nat) (z : Value), i + k = n → OkV c z →
    Ans (G (f90_k90000 none) [s, .func (.func 76) #[] #[], z, .int .i64 n, .int .i64 i] h c df) fun r => r.h = h ∧ r.c = c ∧ r.df = df ∧
      ((r.e = .exit 0 ∧ withinB (L.drop i) = true) ∨ (r.e = .ret ∧ (∃ j : Nat, r.v 2 = .int .i64 j) ∧ withinB (L.drop i) = false)) := by
  intro k
  have o1 := hs.okV
  have o2 := OkV.fn c 76
  induction k with
  | zero =>
    intro i z hi hz
    obtain rfl : i = n := by omega
    refine Ans.loop (fun q r => f90_N90000) (fun q => f90_Z90000) ?_
    unfold f90_L90000
    have fx := True.intro
    refine Ans.go ?_
    clear fx
    (have fx := And.intro o1 (And.intro o2 hz); refine Ans.ex0 ?_; clear fx)
    exact ⟨rfl, rfl, rfl, .inl ⟨rfl, by rw [List.drop_of_length_le (by have := hs.1; omega)]; rfl⟩⟩
  | succ k ih =>
    intro i z hi hz
    have hl := hs.1
    have l1 := hs.rdi i (by omega) (by omega)
    simp only [Int.toNat_natCast] at l1
    rw [gi_nat] at l1
    have hd : L.drop i = L.getD i 0 :: L.drop (i + 1) := by
      rw [List.drop_eq_getElem_cons (by omega)]
      congr 1
      simp [List.getD, List.getElem?_eq_getElem (by omega : i < L.length)]
    obtain ⟨X, hX⟩ : ∃ X, L.getD i 0 = X := ⟨_, rfl⟩
    rw [hX] at l1 hd
    have c1 := fun H c => callV_outside X H c
    refine Ans.loop (fun q r => f90_N90000) (fun q => f90_Z90000) ?_
    unfold f90_L90000
    cases hq : (decide (0 ≤ X) && decide (X ≤ 1000000)) with
    | false =>
      rw [hq] at c1
      have fx := And.intro hs.ixs1 (And.intro l1 c1)
      refine Ans.go ?_
      clear fx
      (have fx := And.intro o1 (And.intro o2 hz); refine Ans.rt0 ?_; clear fx)
      exact ⟨rfl, rfl, rfl, .inr ⟨rfl, ⟨i, rfl⟩, by rw [hd]; simp [withinB, hq]⟩⟩
    | true =>
      rw [hq] at c1
      have fx := And.intro hs.ixs1 (And.intro l1 c1)
      refine Ans.go ?_
      clear fx
      (have fx := And.intro o1 (And.intro o2 hz); refine Ans.nx0 ?_; clear fx)
      have e : withinB (L.drop i) = withinB (L.drop (i + 1)) := by rw [hd]; simp only [withinB, List.all_cons, hq, Bool.true_and]
      rw [e]
      exact ih (i + 1) z (by omega) hz
theorem within_sp (s : Value) (n : Nat) (L : List Int) (h : FH) (c : Nat) (df : List Nat) (hs : SlI h c s 1 n L) (hn : n ≤ 9000000000) :
    G (.fn 55) [s] h c df = some { e := .ret, vs := [.bool (withinB L)], h := h, c := c, df := [] } := by
  have hl := hs.len
  have k90 : ∀ c', c ≤ c' → ∃ z : Int, (0 ≤ z ↔ withinB L = false) ∧ callF G 90 [s, .func (.func 76) #[] #[]] h c' = some (.int .i64 z, h, c') := fun c' hc => by
    obtain ⟨⟨re, rv, rh, rc, rd⟩, hr, r1, r2, r3, r4⟩ := index_loop s n L h (c' + 1 + 1) (hs.mono (by omega)) hn [] n 0 (.int .i64 0) (by omega) (by simp)
    simp only at r1 r2 r3 r4
    subst r1 r2 r3
    simp only [Int.ofNat_eq_natCast, Int.cast_ofNat_Int] at hr
    rw [List.drop_zero] at r4
    rcases r4 with ⟨rfl, r5⟩ | ⟨rfl, ⟨j, r5⟩, r6⟩
    · refine ⟨-1, by simp [r5], callF_of (pure_of' (fun r e => f90_go e) (by simp) ?_)⟩
      unfold f90_S
      have fx := And.intro hl hr
      refine Ans.go ?_
      clear fx
      exact Ans.pure rfl (by simp)
    · refine ⟨j, by simp [r6], callF_of (pure_of' (fun r e => f90_go e) (by simp) ?_)⟩
      unfold f90_S
      have fx := And.intro hl hr
      refine Ans.go ?_
      clear fx
      exact Ans.pure r5 (by simp)
  have k75 : ∀ c', c ≤ c' → callF G 75 [s, .func (.func 76) #[] #[]] h c' = some (.bool (!withinB L), h, c') := fun c' hc => by
    refine callF_of (pure_of' (fun r e => f75_go e) (by simp) ?_)
    unfold f75_S
    obtain ⟨z, hz, c1⟩ := k90 (c' + 1 + 1) (by omega)
    cases hv : withinB L with
    | true =>
      rw [hv] at hz
      have : ¬ 0 ≤ z := fun h => by simpa using hz.1 h
      have fx := c1
      refine Ans.go ?_
      clear fx
      exact Ans.pure rfl (by simp)
    | false =>
      rw [hv] at hz
      have : 0 ≤ z := hz.2 rfl
      have fx := c1
      refine Ans.go ?_
      clear fx
      exact Ans.pure rfl (by simp)
  refine pure_of' (fun r e => f55_go e) (by simp) ?_
  unfold f55_S
  have c1 := k75 (c + 1 + 1) (by omega)
  have fx := c1
  refine Ans.go ?_
  clear fx
  exact Ans.pure (by simp) (by simp)
theorem small_sp (s : Value) (n : Nat) (Gl : List Int) (h : FH) (c : Nat) (df : List Nat) (hs : SlI h c s 20 n Gl) :
    G (.fn 12) [.agg #[s]] h c df = some { e := .ret, vs := [.bool (decide (n ≤ 6))], h := h, c := c, df := [] } := by
  refine pure_of' (fun r e => f12_go e) (by simp) ?_
  unfold f12_S
  rw [flat1 hs.flat, cell1, Nat.add_zero]
  simp only [cond_true]
  have hl := hs.len
  repeat' (first | ((with_reducible first | refine Ans.bz ?_ | refine Ans.r1 ?_ | refine Ans.pkT ?_ | refine Ans.pkF ?_); try dsimp only [v_zero, v_succ]) | (with_reducible first | refine Ans.btL ?_ | refine Ans.bfL ?_ | refine Ans.gyT ?_ | refine Ans.gyF ?_ | refine Ans.gyG ?_ | refine Ans.bb ?_ | refine Ans.bc ?_ | refine Ans.ba ?_) | ((with_reducible first | refine Ans.leT ?_ ?_); (focus omega)) | ((with_reducible first | refine Ans.leF ?_ ?_); (focus omega)) | (with_reducible first | refine Ans.leS (fun _ => ?_) (fun _ => ?_)) | ((with_reducible first | refine Ans.ct ?_ ?_); (focus (simp (disch := (first | omega | with_reducible assumption | (simp <;> omega) | fail)) [hl]; done))) | ((with_reducible first | refine Ans.cf ?_ ?_); (focus (simp (disch := (first | omega | with_reducible assumption | (simp <;> omega) | fail)) [hl]; done))) | (refine Ans.step (by simp (disch := (first | omega | with_reducible assumption | (simp <;> omega) | fail)) [hl, -List.getD_eq_getElem?_getD] <;> rfl) ?_; try dsimp only [v_zero, v_succ]) | fail)
  all_goals exact Ans.pure (by simp; omega) (by simp (disch := omega))
def refE (Gl : List Int) (n : Nat) : Int := if n ≤ 1000 ∧ okAll Gl n = true then (if 60 < n then 2 else 0) else 7
theorem refused_sp (s : Value) (n : Nat) (Gl : List Int) (h : FH) (c : Nat) (df : List Nat) (hs : SlI h c s 20 n Gl) :
    G (.fn 43) [.agg #[s]] h c df = some { e := .ret, vs := [.int .i64 (refE Gl n)], h := h, c := c, df := [] } := by
  refine pure_of' (fun r e => f43_go e) (by simp) ?_
  unfold f43_S
  rw [flat1 hs.flat, cell1, Nat.add_zero]
  simp only [cond_true]
  have hl := hs.len
  have sH : Same c h (newB h (256 * c) [s]) := by simp (disch := omega)
  have g1 : Holds (newB h (256 * c) [s]) (256 * c) [s] := Holds.newB_same _ _ _
  have l1 := ldN1_own g1
  have l2 : ld1 (newB h (256 * c) [s]) (.pointer (some ⟨256 * c, 0, none⟩)) = some s := by rw [ld1_holds' g1]; rfl
  have c1 := callF_check s n Gl (newB h (256 * c) [s]) (c + 1 + 1) ((hs.same sH).mono (by omega))
  unfold refE
  by_cases hok : n ≤ 1000 ∧ okAll Gl n = true
  case neg =>
    rw [if_neg hok] at c1 ⊢
    have fx := And.intro l1 (And.intro l2 (And.intro hl c1))
    refine Ans.go ?_
    clear fx
    exact Ans.pure rfl sH
  rw [if_pos hok] at c1 ⊢
  repeat' (first | ((with_reducible first | refine Ans.bz ?_ | refine Ans.r1 ?_ | refine Ans.pkT ?_ | refine Ans.pkF ?_); try dsimp only [v_zero, v_succ]) | (with_reducible first | refine Ans.btL ?_ | refine Ans.bfL ?_ | refine Ans.gyT ?_ | refine Ans.gyF ?_ | refine Ans.gyG ?_ | refine Ans.bb ?_ | refine Ans.bc ?_ | refine Ans.ba ?_) | ((with_reducible first | refine Ans.grT ?_ ?_ | refine Ans.neT ?_ ?_); (focus omega)) | ((with_reducible first | refine Ans.grF ?_ ?_ | refine Ans.neF ?_ ?_); (focus omega)) | (with_reducible first | refine Ans.grS (fun _ => ?_) (fun _ => ?_) | refine Ans.neS (fun _ => ?_) (fun _ => ?_)) | ((with_reducible first | refine Ans.ct ?_ ?_); (focus (simp (disch := (first | omega | with_reducible assumption | (simp <;> omega) | fail)) [l1, l2, hl, c1]; done))) | ((with_reducible first | refine Ans.cf ?_ ?_); (focus (simp (disch := (first | omega | with_reducible assumption | (simp <;> omega) | fail)) [l1, l2, hl, c1]; done))) | (refine Ans.step (by simp (disch := (first | omega | with_reducible assumption | (simp <;> omega) | fail)) [l1, l2, hl, c1, -List.getD_eq_getElem?_getD] <;> rfl) ?_; try dsimp only [v_zero, v_succ]) | fail)
  · exact Ans.pure (by rw [if_pos (by omega)]) sH
  · exact Ans.pure (by rw [if_neg (by omega)]) sH
end Go.Proofs.Ytcnndelmnobigaa

namespace Go.Ab
open Go
set_option linter.unusedVariables false
set_option linter.unusedSimpArgs false
def mRow (Gl : List Int) (t f i : Nat) : List Int := [(t : Int), (f : Int), (i : Int), tetL (faceL Gl t f), (permL (faceL Gl t f)).getD f 0, (permL (faceL Gl t f)).getD i 0]
def mSkip (Gl : List Int) (t f : Nat) : Bool := decide (tetL (faceL Gl t f) < 0) || decide (tetL (faceL Gl t f) < t) || (decide (tetL (faceL Gl t f) = t) && decide ((permL (faceL Gl t f)).getD f 0 < f))
def mI (Gl : List Int) (t f : Nat) : Nat → Nat → List (List Int)
  | 0, _ => []
  | k + 1, i => (if i = f then [] else [mRow Gl t f i]) ++ mI Gl t f k (i + 1)
def mF (Gl : List Int) (t : Nat) : Nat → Nat → List (List Int)
  | 0, _ => []
  | k + 1, f => (if mSkip Gl t f = true then [] else mI Gl t f 4 0) ++ mF Gl t k (f + 1)
def mT (Gl : List Int) : Nat → Nat → List (List Int)
  | 0, _ => []
  | k + 1, t => mF Gl t 4 0 ++ mT Gl k (t + 1)
def allM (Gl : List Int) (n : Nat) : List (List Int) := mT Gl n 0
theorem mem_mI {Gl : List Int} {t f : Nat} {m : List Int} : ∀ {k i : Nat}, m ∈ mI Gl t f k i → ∃ j, i ≤ j ∧ j < i + k ∧ j ≠ f ∧ m = mRow Gl t f j
  | 0, i, h => by cases h
  | k + 1, i, h => by
    rcases List.mem_append.1 h with h | h
    · split at h
      · cases h
      · rename_i hne
        exact ⟨i, by omega, by omega, hne, List.mem_singleton.1 h⟩
    · obtain ⟨j, h1, h2, h3, h4⟩ := mem_mI h
      exact ⟨j, by omega, by omega, h3, h4⟩
theorem mem_mF {Gl : List Int} {t : Nat} {m : List Int} : ∀ {k f : Nat}, m ∈ mF Gl t k f → ∃ g i, f ≤ g ∧ g < f + k ∧ i < 4 ∧ i ≠ g ∧ mSkip Gl t g = false ∧ m = mRow Gl t g i
  | 0, f, h => by cases h
  | k + 1, f, h => by
    rcases List.mem_append.1 h with h | h
    · split at h
      · cases h
      · rename_i hne
        obtain ⟨j, h1, h2, h3, h4⟩ := mem_mI h
        exact ⟨f, j, by omega, by omega, by omega, h3, by simpa using hne, h4⟩
    · obtain ⟨g, i, h1, h2, h3⟩ := mem_mF h
      exact ⟨g, i, by omega, by omega, h3⟩
theorem mem_mT {Gl : List Int} {m : List Int} : ∀ {k t : Nat}, m ∈ mT Gl k t → ∃ u g i, t ≤ u ∧ u < t + k ∧ g < 4 ∧ i < 4 ∧ i ≠ g ∧ mSkip Gl u g = false ∧ m = mRow Gl u g i
  | 0, t, h => by cases h
  | k + 1, t, h => by
    rcases List.mem_append.1 h with h | h
    · obtain ⟨g, i, h1, h2, h3⟩ := mem_mF h
      exact ⟨t, g, i, by omega, by omega, by omega, h3⟩
    · obtain ⟨u, g, i, h1, h2, h3⟩ := mem_mT h
      exact ⟨u, g, i, by omega, by omega, h3⟩
theorem mem_allM {Gl : List Int} {n : Nat} {m : List Int} (h : m ∈ allM Gl n) : ∃ u g i, u < n ∧ g < 4 ∧ i < 4 ∧ i ≠ g ∧ mSkip Gl u g = false ∧ m = mRow Gl u g i := by
  obtain ⟨u, g, i, h1, h2, h3⟩ := mem_mT h
  exact ⟨u, g, i, by omega, h3⟩
theorem bld6 (a b c d e f : Int) : bldV [(.int .i64 0), (.int .i64 0), (.int .i64 0), (.int .i64 0), (.int .i64 0), (.int .i64 0)] [(0, 1, .int .i64 a), (1, 1, .int .i64 b), (2, 1, .int .i64 c), (3, 1, .int .i64 d), (4, 1, .int .i64 e), (5, 1, .int .i64 f)] = some (av [a, b, c, d, e, f]) := (rfl)
theorem Holds.eqf {h h' : FH} {b : Nat} {cs : List Value} (e : h'.f b = h.f b) (hh : Holds h b cs) : Holds h' b cs := by
  obtain ⟨ro, op, e1⟩ := hh
  exact ⟨ro, op, e.trans e1⟩
theorem mI_mem {Gl : List Int} {t f j : Nat} (hne : j ≠ f) : ∀ {k i : Nat}, i ≤ j → j < i + k → mRow Gl t f j ∈ mI Gl t f k i
  | 0, i, h1, h2 => by omega
  | k + 1, i, h1, h2 => by
    rw [mI]
    by_cases e : i = j
    · subst e
      rw [if_neg hne]
      exact List.mem_append.2 (.inl (List.mem_singleton.2 rfl))
    · exact List.mem_append.2 (.inr (mI_mem hne (by omega) (by omega)))
theorem mF_mem {Gl : List Int} {t g i : Nat} (hi : i < 4) (hne : i ≠ g) (hs : mSkip Gl t g = false) : ∀ {k f : Nat}, f ≤ g → g < f + k → mRow Gl t g i ∈ mF Gl t k f
  | 0, f, h1, h2 => by omega
  | k + 1, f, h1, h2 => by
    rw [mF]
    by_cases e : f = g
    · subst e
      rw [if_neg (by rw [hs]; simp)]
      exact List.mem_append.2 (.inl (mI_mem hne (by omega) (by omega)))
    · exact List.mem_append.2 (.inr (mF_mem hi hne hs (by omega) (by omega)))
theorem mT_mem {Gl : List Int} {u g i : Nat} (hg : g < 4) (hi : i < 4) (hne : i ≠ g) (hs : mSkip Gl u g = false) : ∀ {k t : Nat}, t ≤ u → u < t + k → mRow Gl u g i ∈ mT Gl k t
  | 0, t, h1, h2 => by omega
  | k + 1, t, h1, h2 => by
    rw [mT]
    by_cases e : t = u
    · subst e
      exact List.mem_append.2 (.inl (mF_mem hi hne hs (by omega) (by omega)))
    · exact List.mem_append.2 (.inr (mT_mem hg hi hne hs (by omega) (by omega)))
theorem allM_mem {Gl : List Int} {n u g i : Nat} (hu : u < n) (hg : g < 4) (hi : i < 4) (hne : i ≠ g) (hs : mSkip Gl u g = false) : mRow Gl u g i ∈ allM Gl n := mT_mem hg hi hne hs (by omega) (by omega)
def eqM (V m : List Int) : Bool := decide (arcV V (m.getD 0 0) (m.getD 1 0) (m.getD 2 0) = arcV V (m.getD 3 0) (m.getD 4 0) (m.getD 5 0))
def quadAt (V : List Int) (t : Nat) : List Int := (V.drop (7 * t + 4)).take 3
def admB (Gl : List Int) (n : Nat) (V : List Int) : Bool := decide (V.length = 7 * n) && withinB V && ((List.range n).all fun t => areQ (quadAt V t)) && (allM Gl n).all fun m => eqM V m
theorem withinB_at {V : List Int} (h : withinB V = true) (j : Nat) : 0 ≤ gi V j ∧ gi V j ≤ 1000000 := by
  unfold gi
  rw [Int.toNat_natCast]
  by_cases hj : j < V.length
  · have := List.all_eq_true.1 h V[j] (List.getElem_mem hj)
    simpa [List.getD, List.getElem?_eq_getElem hj] using this
  · simp [List.getD, List.getElem?_eq_none (by omega : V.length ≤ j)]
theorem ne24 {p : List Int} (hp : p ∈ p24) {i j : Nat} (hi : i < 4) (hj : j < 4) (hne : i ≠ j) : p.getD i 0 ≠ p.getD j 0 := by
  have := all24 (Q := fun p => (List.range 4).all fun i => (List.range 4).all fun j => decide (i = j) || decide (p.getD i 0 ≠ p.getD j 0)) (by kernel_rfl) hp
  rw [List.all_eq_true] at this
  have h1 := this i (by simpa using hi)
  rw [List.all_eq_true] at h1
  have h2 := h1 j (by simpa using hj)
  simpa [hne, -List.getD_eq_getElem?_getD] using h2
theorem mRow_ok {Gl : List Int} {n t f i : Nat} (hok : okAll Gl n = true) (hG : Gl.length = n * 20) (ht : t < n) (hf : f < 4) (hi : i < 4) (hne : i ≠ f) (hsk : mSkip Gl t f = false) :
    (t : Int) ≤ tetL (faceL Gl t f) ∧ tetL (faceL Gl t f) < n ∧ permL (faceL Gl t f) ∈ p24 := by
  have ok := okAll_face hok ht hf
  simp only [mSkip, Bool.or_eq_false_iff, decide_eq_false_iff_not] at hsk
  obtain ⟨⟨h1, h2⟩, _⟩ := hsk
  obtain ⟨g1, g2, _, _⟩ := okFace_glued ok h1
  exact ⟨by omega, g1, mem24 (permL_length (faceL_length hG ht hf)) g2⟩
end Go.Ab

namespace Go.Proofs.Ytcnndelmnobigaa
open Go Go.Ab Go.Proofs
set_option maxRecDepth 100000
set_option linter.unusedVariables false
set_option linter.unusedSimpArgs false
def edL : List Int := [0, 1, 0, 2, 0, 3, 1, 2, 1, 3, 2, 3]
theorem bld2 (a b : Int) : bldV [(.int .i64 0), (.int .i64 0)] [(0, 1, .int .i64 a), (1, 1, .int .i64 b)] = some (av [a, b]) := (rfl)
theorem eq_pair2 (a0 a1 b0 b1 : Int) : aBinOp0 P .eql 115 (av [a0, a1]) (av [b0, b1]) = (cond (a0 == b0) (cond (a1 == b1) (some true) (some false)) (some false)).bind fun b => some (.bool b) := by kernel_rfl
theorem eq_pair (a0 a1 b0 b1 : Int) : aBinOp P .eql 115 (av [a0, a1]) (av [b0, b1]) = some (.bool (decide (a0 = b0 ∧ a1 = b1))) := by
  rw [aBinOp_eq, eq_pair2]
  by_cases h0 : a0 = b0 <;> by_cases h1 : a1 = b1 <;> simp [h0, h1, Bool.cond_eq_ite]
theorem edges_sp (h : FH) (c : Nat) (df : List Nat) : G (.fn 89) [] h c df = some { e := .ret, vs := [av edL], h := h, c := c, df := [] } := by
  refine pure_of' (fun r e => f89_go e) (by simp) ?_
  unfold f89_S
  have z1 : bldV [(.int .i64 0), (.int .i64 0), (.int .i64 0), (.int .i64 0), (.int .i64 0), (.int .i64 0), (.int .i64 0), (.int .i64 0), (.int .i64 0), (.int .i64 0), (.int .i64 0), (.int .i64 0)] [(0, 2, av [0, 1]), (2, 2, av [0, 2]), (4, 2, av [0, 3]), (6, 2, av [1, 2]), (8, 2, av [1, 3]), (10, 2, av [2, 3])] = some (av edL) := rfl
  have z2 : ∀ (H : FH) (b : Nat) (cs : List Value), cs.length = 12 → stN (newB H b cs) 12 (.pointer (some ⟨b, 0, none⟩)) (av edL) = some (newB H b (ints edL)) := fun H b cs hc => stN_all H b 12 cs edL rfl hc
  have z3 : ∀ (H : FH) (b : Nat), ldN (newB H b (ints edL)) 12 (.pointer (some ⟨b, 0, none⟩)) = some (av edL) := fun H b => by rw [ldN_newB_same _ _ _ _ _ (by simp [edL])]; rfl
  have fx := And.intro bld2 (And.intro z1 (And.intro z2 z3))
  refine Ans.go ?_
  clear fx
  (have fx := True.intro; exact Ans.pu)
theorem callF_edges (h : FH) (c : Nat) : callF G 89 [] h c = some (av edL, h, c) := callF_of (edges_sp h c [])
def isEd (a b i j : Int) : Bool := decide (a = i ∧ b = j) || decide (a = j ∧ b = i)
theorem isEd_sp (a b i j : Int) (p q : Nat) (h : FH) (c : Nat) (df : List Nat) (hp : p < 256 * c) (hq : q < 256 * c) (gp : Holds h p [.int .i64 i]) (gq : Holds h q [.int .i64 j]) :
    G (.fn 88) [av [a, b], ptrTo p, ptrTo q] h c df = some { e := .ret, vs := [.bool (isEd a b i j)], h := h, c := c, df := [] } := by
  refine pure_of' (fun r e => f88_go e) (by simp) ?_
  unfold f88_S isEd
  have f1 : ((av [a, b]).cells.toList.all isFlat) = true := rfl
  have f2 : (av [a, b]).cells.toList = ints [a, b] := rfl
  rw [f2, show (ints [a, b]).all isFlat = true from rfl]
  simp only [cond_true]
  have z1 : ∀ (H : FH) (b' : Nat), ldN (newB H b' (ints [a, b])) 2 (.pointer (some ⟨b', 0, none⟩)) = some (av [a, b]) := fun H b' => by rw [ldN_newB_same _ _ _ _ _ (by simp)]; rfl
  have lp : ld1 (newB h (256 * c) (ints [a, b])) (.pointer (some ⟨p, 0, none⟩)) = some (.int .i64 i) := by rw [ld1_newB_ne _ _ _ _ _ (by omega), ld1_holds' gp]; rfl
  have lq : ld1 (newB h (256 * c) (ints [a, b])) (.pointer (some ⟨q, 0, none⟩)) = some (.int .i64 j) := by rw [ld1_newB_ne _ _ _ _ _ (by omega), ld1_holds' gq]; rfl
  by_cases h1 : a = i ∧ b = j
  · have d1 : decide (a = i ∧ b = j) = true := decide_eq_true h1
    rw [d1]
    have e1 := eq_pair a b i j
    rw [d1] at e1
    have fx := And.intro z1 (And.intro lp (And.intro lq (And.intro bld2 e1)))
    refine Ans.go ?_
    clear fx
    exact Ans.pure rfl (by simp (disch := omega))
  · have d1 : decide (a = i ∧ b = j) = false := decide_eq_false h1
    rw [d1]
    have e1 := eq_pair a b i j
    have e2 := eq_pair a b j i
    rw [d1] at e1
    rw [Bool.false_or]
    obtain ⟨d, hd⟩ : ∃ d, decide (a = j ∧ b = i) = d := ⟨_, rfl⟩
    rw [hd] at e2 ⊢
    have fx := And.intro z1 (And.intro lp (And.intro lq (And.intro bld2 (And.intro e1 e2))))
    refine Ans.go ?_
    clear fx
    exact Ans.pure rfl (by simp (disch := omega))
theorem OkV.fn2 {c p q : Nat} {g : FuncId} (hp : p < 256 * c) (hq : q < 256 * c) : OkV c (.func (.func g) #[] #[ptrTo p, ptrTo q]) := by
  obtain ⟨y1, h1⟩ := OkV.ptrTo hp
  obtain ⟨y2, h2⟩ := OkV.ptrTo hq
  refine ⟨.func (.func g) #[] #[y1, y2], .fnc g rfl rfl (fun k x y h => by simp at h) (fun k x y hx hy => ?_)⟩
  match k, hx, hy with
  | 0, hx, hy => cases hx; cases hy; exact h1
  | 1, hx, hy => cases hx; cases hy; exact h2
  | k + 2, hx, hy => simp at hx
theorem callV88 (h : FH) (c p q : Nat) (v : Value) : callV G h c (.func (.func 88) #[] #[ptrTo p, ptrTo q]) [v] = callF G 88 [v, ptrTo p, ptrTo q] h c := by rfl
def edI (i j : Int) : Nat → Nat → Int
  | 0, _ => -1
  | k + 1, m => if isEd (edL.getD (2 * m) 0) (edL.getD (2 * m + 1) 0) i j then (m : Int) else edI i j k (m + 1)
theorem ed_loop (i j : Int) (p q b : Nat) (h : FH) (c : Nat) (df : List Nat) (hp : p < 256 * c) (hq : q < 256 * c) (hb : b < 256 * c) (gp : Holds h p [.int .i64 i]) (gq : Holds h q [.int .i64 j]) (gb : Holds h b (ints edL)) :
    ∀ (k m : Nat) (z : Value), m + k = 6 → OkV c z →
    Ans (G (f86_k86000 none) [.slice (some ⟨b, 0, none⟩) 6 6, .func (.func 88) #[] #[ptrTo p, ptrTo q], z, .int .i64 6, .int .i64 m] h c df) fun r => r.h = h ∧ r.c = c ∧ r.df = df ∧
      ((r.e = .exit 0 ∧ edI i j k m = -1) ∨ (r.e = .ret ∧ r.v 2 = .int .i64 (edI i j k m))) := by
  intro k
  have o1 : OkV c (.slice (some ⟨b, 0, none⟩) 6 6) := OkV.sl hb
  have o2 : OkV c (.func (.func 88) #[] #[ptrTo p, ptrTo q]) := OkV.fn2 hp hq
  induction k with
  | zero =>
    intro m z hm hz
    obtain rfl : m = 6 := by omega
    refine Ans.loop (fun q r => f86_N86000) (fun q => f86_Z86000) ?_
    unfold f86_L86000
    have fx := True.intro
    refine Ans.go ?_
    clear fx
    (have fx := And.intro o1 (And.intro o2 hz); refine Ans.ex0 ?_; clear fx)
    exact ⟨rfl, rfl, rfl, .inl ⟨rfl, rfl⟩⟩
  | succ k ih =>
    intro m z hm hz
    have l1 : ldN h 2 (.pointer (some ⟨b, m * 2, none⟩)) = some (av [edL.getD (2 * m) 0, edL.getD (2 * m + 1) 0]) := by
      rw [ldN_holds gb (by simp [edL]; omega)]
      have : m = 0 ∨ m = 1 ∨ m = 2 ∨ m = 3 ∨ m = 4 ∨ m = 5 := by omega
      rcases this with rfl | rfl | rfl | rfl | rfl | rfl <;> rfl
    rw [edI]
    obtain ⟨A, hA⟩ : ∃ A, edL.getD (2 * m) 0 = A := ⟨_, rfl⟩
    obtain ⟨B, hB⟩ : ∃ B, edL.getD (2 * m + 1) 0 = B := ⟨_, rfl⟩
    rw [hA, hB] at l1 ⊢
    have c1 := fun c' (hc : c ≤ c') => (callV88 h c' p q (av [A, B])).trans (callF_of (isEd_sp A B i j p q h c' [] (by omega) (by omega) gp gq))
    refine Ans.loop (fun q r => f86_N86000) (fun q => f86_Z86000) ?_
    unfold f86_L86000
    cases hq : isEd A B i j with
    | true =>
      rw [hq] at c1
      have fx := And.intro l1 c1
      refine Ans.go ?_
      clear fx
      (have fx := And.intro o1 (And.intro o2 hz); refine Ans.rt0 ?_; clear fx)
      exact ⟨rfl, rfl, rfl, .inr ⟨rfl, rfl⟩⟩
    | false =>
      rw [hq] at c1
      have fx := And.intro l1 c1
      refine Ans.go ?_
      clear fx
      (have fx := And.intro o1 (And.intro o2 hz); refine Ans.nx0 ?_; clear fx)
      exact ih (m + 1) z (by omega) hz
def edN (i j : Int) : Int := edI i j 6 0
theorem edN_range {i j : Int} (h1 : 0 ≤ i) (h2 : i < 4) (h3 : 0 ≤ j) (h4 : j < 4) (hne : i ≠ j) : 0 ≤ edN i j ∧ edN i j < 6 := by
  have : ((List.range 4).all fun i => (List.range 4).all fun j => decide (i = j) || (decide (0 ≤ edN (i : Nat) (j : Nat)) && decide (edN (i : Nat) (j : Nat) < 6))) = true := by decide
  rw [List.all_eq_true] at this
  have h5 := this i.toNat (by simp; omega)
  rw [List.all_eq_true] at h5
  have h6 := h5 j.toNat (by simp; omega)
  have e1 : ((i.toNat : Nat) : Int) = i := by omega
  have e2 : ((j.toNat : Nat) : Int) = j := by omega
  rw [e1, e2] at h6
  have h7 : ¬ i.toNat = j.toNat := by omega
  simpa [h7] using h6
theorem edgeList_sp (h : FH) (c : Nat) : callF G 87 [] h c = some (.slice (some ⟨256 * (c + 1) + 1, 0, none⟩) 6 6, newB h (256 * (c + 1) + 1) (ints edL), c + 1 + 1 + 1) := by
  have z2 : ∀ (H : FH) (b : Nat) (cs : List Value), cs.length = 12 → stN (newB H b cs) 12 (.pointer (some ⟨b, 0, none⟩)) (av edL) = some (newB H b (ints edL)) := fun H b cs hc => stN_all H b 12 cs edL rfl hc
  have z3 : slA 6 2 (.pointer (some ⟨256 * (c + 1) + 1, 0, none⟩)) none none none = some (.slice (some ⟨256 * (c + 1) + 1, 0, none⟩) 6 6) := rfl
  refine callF_of (df := []) (e := .ret) (f87_go (Ans.eq ?_))
  unfold f87_S
  have fx := And.intro callF_edges (And.intro z2 z3)
  refine Ans.go ?_
  clear fx
  exact .done rfl
theorem edge_sp (i j : Int) (h : FH) (c : Nat) (df : List Nat) : G (.fn 73) [.int .i64 i, .int .i64 j] h c df = some { e := .ret, vs := [.int .i64 (edN i j)], h := h, c := c, df := [] } := by
  refine pure_of' (fun r e => f73_go e) (by simp) ?_
  unfold f73_S
  rw [show (Value.int .i64 i).cells.toList = [.int .i64 i] from rfl, show (Value.int .i64 j).cells.toList = [.int .i64 j] from rfl]
  rw [show ([Value.int .i64 i]).all isFlat = true from rfl, show ([Value.int .i64 j]).all isFlat = true from rfl]
  simp only [cond_true, Nat.add_zero]
  obtain ⟨H, hH⟩ : ∃ H, H = newB (newB h (256 * c) [.int .i64 i]) (256 * c + 1) [.int .i64 j] := ⟨_, rfl⟩
  have sH : Same c h H := by rw [hH]; simp (disch := omega)
  have gp : Holds H (256 * c) [.int .i64 i] := by rw [hH]; exact (Holds.newB_same _ _ _).newB_ne (by omega)
  have gq : Holds H (256 * c + 1) [.int .i64 j] := by rw [hH]; exact Holds.newB_same _ _ _
  rw [← hH]
  clear hH
  have c1 := edgeList_sp H (c + 1 + 1)
  obtain ⟨K, hK⟩ : ∃ K, newB H (256 * (c + 1 + 1 + 1) + 1) (ints edL) = K := ⟨_, rfl⟩
  have sK : Same c h K := by rw [← hK]; exact sH.trans (by simp (disch := omega))
  have gpK : Holds K (256 * c) [.int .i64 i] := by rw [← hK]; exact gp.newB_ne (by omega)
  have gqK : Holds K (256 * c + 1) [.int .i64 j] := by rw [← hK]; exact gq.newB_ne (by omega)
  have gbK : Holds K (256 * (c + 1 + 1 + 1) + 1) (ints edL) := by rw [← hK]; exact Holds.newB_same _ _ _
  rw [hK] at c1
  clear hK
  obtain ⟨⟨re, rv, rh, rc, rd⟩, hr, r1, r2, r3, r4⟩ := ed_loop i j (256 * c) (256 * c + 1) (256 * (c + 1 + 1 + 1) + 1) K (c + 1 + 1 + 1 + 1 + 1 + 1 + 1) [] (by omega) (by omega) (by omega) gpK gqK gbK 6 0 (.int .i64 0) (by omega) (by simp)
  simp only at r1 r2 r3 r4
  subst r1 r2 r3
  simp only [Int.ofNat_eq_natCast, Int.cast_ofNat_Int] at hr
  have c2 : callF G 86 [.slice (some ⟨256 * (c + 1 + 1 + 1) + 1, 0, none⟩) 6 6, .func (.func 88) #[] #[ptrTo (256 * c), ptrTo (256 * c + 1)]] rh (c + 1 + 1 + 1 + 1 + 1) = some (.int .i64 (edN i j), rh, c + 1 + 1 + 1 + 1 + 1) := by
    refine callF_of (pure_of' (fun r e => f86_go e) (by simp) ?_)
    unfold f86_S
    rcases r4 with ⟨rfl, r5⟩ | ⟨rfl, r5⟩
    · have fx := hr
      refine Ans.go ?_
      clear fx
      exact Ans.pure (by rw [edN, r5]) (by simp)
    · have fx := hr
      refine Ans.go ?_
      clear fx
      exact Ans.pure r5 (by simp)
  have fx := And.intro c1 c2
  refine Ans.go ?_
  clear fx
  exact Ans.pure rfl sK
theorem callF_edge (i j : Int) (h : FH) (c : Nat) : callF G 73 [.int .i64 i, .int .i64 j] h c = some (.int .i64 (edN i j), h, c) := callF_of (edge_sp i j h c [])
end Go.Proofs.Ytcnndelmnobigaa

namespace Go.Ab
open Go
set_option linter.unusedVariables false
set_option linter.unusedSimpArgs false
def AppG (c0 : Nat) (h : FH) (c : Nat) (v : Value) (n : Nat) (cs : List Value) : Prop :=
  cs.length = n ∧ n ≤ 9223372036854775807 ∧ cs.all isFlat = true ∧
    ∃ i op, v = .slice (some ⟨i, 0, none⟩) n n ∧ 256 * c0 ≤ i ∧ i < 256 * c ∧ h.f i = some (.cells false op cs) ∧ (op = none ∨ op = some 1)
theorem AppG.flat {c0 : Nat} {h : FH} {c : Nat} {v : Value} {n : Nat} {cs : List Value} (ha : AppG c0 h c v n cs) : isFlat v = true ∧ v.cells = #[v] := by
  obtain ⟨_, _, _, i, op, rfl, _⟩ := ha; exact ⟨rfl, rfl⟩
theorem AppG.mono {c0 : Nat} {h : FH} {c c' : Nat} {v : Value} {n : Nat} {cs : List Value} (hc : c ≤ c') (ha : AppG c0 h c v n cs) : AppG c0 h c' v n cs := by
  obtain ⟨h1, h2, h3, i, op, h4, h5, h6, h7⟩ := ha
  exact ⟨h1, h2, h3, i, op, h4, h5, by omega, h7⟩
theorem AppG.blk {c0 : Nat} {h : FH} {c : Nat} {v : Value} {n : Nat} {cs : List Value} (ha : AppG c0 h c v n cs) : 256 * c0 ≤ blkOf v ∧ blkOf v < 256 * c := by
  obtain ⟨h1, h2, h3, i, op, rfl, h5, h6, h7⟩ := ha
  exact ⟨h5, h6⟩
theorem AppG.keep {c0 : Nat} {h h' : FH} {c : Nat} {v : Value} {n : Nat} {cs : List Value} (ha : AppG c0 h c v n cs) (hh : h'.f (blkOf v) = h.f (blkOf v)) : AppG c0 h' c v n cs := by
  obtain ⟨h1, h2, h3, i, op, rfl, h5, h6, h7, h8⟩ := ha
  exact ⟨h1, h2, h3, i, op, rfl, h5, h6, hh.trans h7, h8⟩
theorem AppG.app {c0 : Nat} {h : FH} {c c' : Nat} {v : Value} {n : Nat} {cs : List Value} (ha : AppG c0 h c v n cs) (x : Value) (hx : isFlat x = true) (by' b id : Nat) (hb : 256 * c ≤ b) (hid : 256 * c ≤ id) (hne : b ≠ id) (hc0 : c0 ≤ c)
    (hid' : id < 256 * c') (hlim : (n + 1) * (by' + 1) ≤ 17592186044416) :
    ∃ h', appV (newB h b [x]) id 1 by' v (.slice (some ⟨b, 0, none⟩) 1 1) = some (.slice (some ⟨id, 0, none⟩) (n + 1) (n + 1), h') ∧ AppG c0 h' c' (.slice (some ⟨id, 0, none⟩) (n + 1) (n + 1)) (n + 1) (cs ++ [x]) ∧
      (∀ j, j < 256 * c → j ≠ blkOf v → h'.f j = h.f j) := by
  obtain ⟨h1, h2, h3, i, op, rfl, h5, h6, h7, h8⟩ := ha
  have hlim' : Nat.ble ((n + 1) * (by' + 1)) 17592186044416 = true := Nat.ble_eq_true_of_le hlim
  have hsrc : srcCells (newB h b [x]) 1 (.slice (some ⟨b, 0, none⟩) 1 1) = some ([x], 1) := by
    have : Nat.ble (0 + 1 * 1) [x].length = true := rfl
    simp only [srcCells, rdCells, getCells, get_newB_same, Option.bind_some, this, cond_true, List.drop_zero]
    rfl
  have hn1 : n + 1 ≤ 17592186044416 := by
    have : (n + 1) * 1 ≤ (n + 1) * (by' + 1) := Nat.mul_le_mul_left _ (by omega)
    omega
  have hcap : Nat.ble (n + 1) n = false := by rw [Bool.eq_false_iff]; intro hh; have := Nat.le_of_ble_eq_true hh; omega
  have hfx : [x].all isFlat = true := by simp [hx]
  have hbi : i ≠ b := by omega
  have hg : HeapC.get (newB h b [x]) i = some (.cells false op cs) := by rw [get_newB_ne _ _ _ _ hbi]; exact h7
  have hr : Nat.ble (0 + n * 1) cs.length = true := Nat.ble_eq_true_of_le (by simp [h1])
  have ht : (cs.drop 0).take (n * 1) = cs := by rw [List.drop_zero, List.take_of_length_le (by omega)]
  rcases h8 with rfl | rfl
  · refine ⟨HeapC.set (newB h b [x]) id (.cells false (some 1) ((cs.drop 0).take (n * 1) ++ [x])), ?_, ⟨by simp [h1], by omega, by simp only [List.all_append, h3, hfx, Bool.and_self], id, some 1, rfl, by omega, hid', ?_, .inr rfl⟩, ?_⟩
    · simp only [appV, hsrc, Option.bind_some, appTo, hcap, cond_false, appGrow, hlim', hfx, Bool.and_self, cond_true, rdCells, getCells, hg, hr]
    · rw [set_f, if_pos rfl, ht]
    · intro j hj hne'
      rw [set_f, if_neg (by omega), newB_f, if_neg (by omega)]
  · refine ⟨HeapC.set (HeapC.set (newB h b [x]) i .dead) id (.cells false (some 1) ((cs.drop 0).take (n * 1) ++ [x])), ?_, ⟨by simp [h1], by omega, by simp only [List.all_append, h3, hfx, Bool.and_self], id, some 1, rfl, by omega, hid', ?_, .inr rfl⟩, ?_⟩
    · simp only [appV, hsrc, Option.bind_some, appTo, hcap, cond_false, appGrow, hlim', hfx, Bool.and_self, cond_true, rdCells, getCells, hg, hr, Nat.beq_refl, Bool.not_false, Bool.and_true]
    · rw [set_f, if_pos rfl, ht]
    · intro j hj hne'
      rw [blkOf_sl] at hne'
      rw [set_f, if_neg (by omega), set_f, if_neg hne', newB_f, if_neg (by omega)]
def addAt (L : List Int) (k : Nat) (d : Int) : List Int := L.set k (L.getD k 0 + d)
def eqRow (n : Nat) (m : List Int) : List Int :=
  addAt (addAt (addAt (addAt (List.replicate (7 * n) 0) (7 * m.getD 0 0 + m.getD 2 0).toNat 1) (7 * m.getD 0 0 + 4 + ty (m.getD 2 0) (m.getD 1 0)).toNat 1)
    (7 * m.getD 3 0 + m.getD 5 0).toNat (-1)) (7 * m.getD 3 0 + 4 + ty (m.getD 5 0) (m.getD 4 0)).toNat (-1)
end Go.Ab

namespace Go.Ab
open Go
set_option linter.unusedVariables false
set_option linter.unusedSimpArgs false
def Down (L : List Int) (m : Nat) : Prop := L.length = m ∧ ∀ k, k < m → 0 ≤ L.getD k 0 ∧ L.getD k 0 ≤ k
def rootF (L : List Int) : Nat → Nat → Nat
  | 0, i => i
  | k + 1, i => if L.getD i 0 = i then i else rootF L k (L.getD i 0).toNat
def rootL (L : List Int) (i : Nat) : Nat := rootF L (i + 1) i
theorem rootF_stop {L : List Int} {m : Nat} (hd : Down L m) : ∀ {k k' i : Nat}, i < m → i < k → i < k' → rootF L k i = rootF L k' i
  | 0, _, i, _, h, _ => by omega
  | k + 1, 0, i, _, _, h => by omega
  | k + 1, k' + 1, i, hi, h1, h2 => by
    rw [rootF, rootF]
    by_cases e : L.getD i 0 = i
    · rw [if_pos e, if_pos e]
    · rw [if_neg e, if_neg e]
      have := hd.2 i hi
      exact rootF_stop hd (by omega) (by omega) (by omega)
theorem rootL_self {L : List Int} {i : Nat} (e : L.getD i 0 = i) : rootL L i = i := by rw [rootL, rootF, if_pos e]
theorem rootL_next {L : List Int} {m i : Nat} (hd : Down L m) (hi : i < m) (e : ¬ L.getD i 0 = i) : rootL L i = rootL L (L.getD i 0).toNat := by
  have := hd.2 i hi
  rw [rootL, rootF, if_neg e, rootL]
  exact rootF_stop hd (by omega) (by omega) (by omega)
theorem rootF_le {L : List Int} {m : Nat} (hd : Down L m) : ∀ {k i : Nat}, i < m → rootF L k i ≤ i
  | 0, i, _ => by rw [rootF]; omega
  | k + 1, i, hi => by
    rw [rootF]
    split
    · omega
    · have := hd.2 i hi
      have := rootF_le hd (k := k) (i := (L.getD i 0).toNat) (by omega)
      omega
theorem rootL_le {L : List Int} {m i : Nat} (hd : Down L m) (hi : i < m) : rootL L i ≤ i := rootF_le hd hi
def joinL (L : List Int) (i j : Nat) : List Int := L.set (max (rootL L i) (rootL L j)) (min (rootL L i) (rootL L j) : Nat)
theorem getD_set (l : List Int) (i j : Nat) (x : Int) : (l.set i x).getD j 0 = if i = j ∧ i < l.length then x else l.getD j 0 := by
  simp only [List.getD_eq_getElem?_getD, List.getElem?_set]
  by_cases h : i = j
  · subst h
    by_cases h2 : i < l.length
    · simp [h2]
    · simp [h2]
  · simp [h]
theorem Down.set {L : List Int} {m i : Nat} {x : Nat} (hd : Down L m) (hi : i < m) (hx : x ≤ i) : Down (L.set i x) m := by
  refine ⟨by simp [hd.1], fun k hk => ?_⟩
  have hl := hd.1
  rw [getD_set]
  split
  · rename_i h; obtain ⟨rfl, _⟩ := h; omega
  · exact hd.2 k hk
theorem joinL_down {L : List Int} {m i j : Nat} (hd : Down L m) (hi : i < m) (hj : j < m) : Down (joinL L i j) m := by
  have h1 := rootL_le hd hi
  have h2 := rootL_le hd hj
  exact hd.set (by omega) (by omega)
def startL (m : Nat) : List Int := (List.range m).map fun k : Nat => (k : Int)
theorem startL_getD {m k : Nat} (h : k < m) : (startL m).getD k 0 = k := by
  simp [startL, List.getD_eq_getElem?_getD, h]
theorem startL_down (m : Nat) : Down (startL m) m := by
  refine ⟨by simp [startL], fun k hk => ?_⟩
  rw [startL_getD hk]
  omega
def firstsL (L : List Int) (m : Nat) : List Int := ((List.range m).filter fun k => decide (rootL L k = k)).map fun k : Nat => (k : Int)
theorem firstsL_succ (L : List Int) (i : Nat) : firstsL L (i + 1) = firstsL L i ++ (if rootL L i = i then [(i : Int)] else []) := by
  unfold firstsL
  rw [List.range_succ, List.filter_append, List.map_append]
  congr 1
  by_cases h : rootL L i = i <;> simp [h]
theorem firstsL_len (L : List Int) (m : Nat) : (firstsL L m).length ≤ m := by
  unfold firstsL
  rw [List.length_map]
  exact Nat.le_trans (List.length_filter_le _ _) (by simp)
theorem mem_firstsL {L : List Int} {m : Nat} {x : Int} (h : x ∈ firstsL L m) : ∃ k : Nat, x = k ∧ k < m ∧ rootL L k = k := by
  unfold firstsL at h
  rw [List.mem_map] at h
  obtain ⟨k, h1, rfl⟩ := h
  rw [List.mem_filter] at h1
  exact ⟨k, rfl, by simpa using h1.1, by simpa using h1.2⟩
theorem AppG.sl {c0 : Nat} {h : FH} {c : Nat} {v : Value} {n : Nat} {L : List Int} (ha : AppG c0 h c v n (ints L)) : SlI h c v 1 n L := by
  obtain ⟨h1, h2, h3, i, op, rfl, h5, h6, h7, h8⟩ := ha
  have hl : L.length = n := by simpa using h1
  refine ⟨by omega, h2, some ⟨i, 0, none⟩, n, rfl, .inr ⟨i, 0, ints L, rfl, h6, ⟨false, op, h7⟩, ?_⟩⟩
  rw [List.drop_zero, List.take_of_length_le (by simp [hl])]
end Go.Ab

namespace Go.Proofs.Ytcnndelmnobigaa
open Go Go.Ab Go.Proofs
set_option maxRecDepth 100000
set_option linter.unusedVariables false
set_option linter.unusedSimpArgs false
theorem max2_int (k : IntKind) (a b : Int) : foldV max2 [.int k a, .int k b] = some (.int k (if a < b then b else a)) := by
  simp [foldV, max2]
theorem min2_int (k : IntKind) (a b : Int) : foldV min2 [.int k a, .int k b] = some (.int k (if b < a then b else a)) := by
  simp [foldV, min2]
structure Uf (h : FH) (p b m : Nat) (L : List Int) : Prop where
  st : h.f p = some (.cells false none [.slice (some ⟨b, 0, none⟩) m m])
  up : h.f b = some (.cells false none (ints L))
  ne : p ≠ b
  dn : Down L m
  le : m ≤ 1000000
theorem Uf.keep {h h' : FH} {p b m : Nat} {L : List Int} (u : Uf h p b m L) (h1 : h'.f p = h.f p) (h2 : h'.f b = h.f b) : Uf h' p b m L := ⟨h1.trans u.st, h2.trans u.up, u.ne, u.dn, u.le⟩
theorem Uf.same {h h' : FH} {p b m c : Nat} {L : List Int} (u : Uf h p b m L) (hs : Same c h h') (hp : p < 256 * c) (hb : b < 256 * c) : Uf h' p b m L := u.keep (hs p hp) (hs b hb)
theorem Uf.ld {h : FH} {p b m : Nat} {L : List Int} (u : Uf h p b m L) : ld1 h (.pointer (some ⟨p, 0, none⟩)) = some (.slice (some ⟨b, 0, none⟩) m m) := by
  rw [ld1_holds' ⟨false, none, u.st⟩]; rfl
theorem Uf.rd {h : FH} {p b m : Nat} {L : List Int} (u : Uf h p b m L) {i : Nat} (hi : i < m) : ld1 h (.pointer (some ⟨b, i, none⟩)) = some (.int .i64 (L.getD i 0)) := by
  have := u.dn.1
  rw [ld1_holds' ⟨false, none, u.up⟩, ints_getD _ _ (by omega)]
theorem stN_own1 {h : FH} {b : Nat} {w v : Value} (hg : h.f b = some (.cells false none [w])) (hf : isFlat v = true) : stN h 1 (.pointer (some ⟨b, 0, none⟩)) (.agg #[v]) = some (newB h b [v]) := by
  have hg' : HeapC.get h b = some (.cells false none [w]) := hg
  simp [stN, asPtr, Value.cells, wrCells, hg', hf, splice]
  rfl
theorem fill_loop (h0 : FH) (p b m c : Nat) (v2 : Value) (df : List Nat) (hv : OkV c v2) (hp : p < 256 * c) (hb : b < 256 * c) (hne : p ≠ b) (hm : m ≤ 1000000) (h1 : h0.f p = some (.cells false none [.slice (some ⟨b, 0, none⟩) m m])) :
    ∀ (k i : Nat) (X : List Int), i + k = m → X.length = m → (∀ j, j < i → X.getD j 0 = j) →
    Ans (G (f71_k71000 none) [v2, ptrTo p, .int .i64 m, .int .i64 i] (newB h0 b (ints X)) c df) fun r => r = { e := .exit 0, vs := [v2, ptrTo p, .int .i64 m, .int .i64 m], h := newB h0 b (ints (startL m)), c := c, df := df } := by
  intro k
  induction k with
  | zero =>
    intro i X hi hX hf
    obtain rfl : i = m := by omega
    have e : X = startL i := by
      refine List.ext_getElem (by rw [hX]; simp [startL]) fun j h1 h2 => ?_
      have := hf j (by omega)
      rw [List.getD_eq_getElem?_getD, List.getElem?_eq_getElem h1] at this
      simp only [Option.getD_some] at this
      rw [this]; simp [startL]
    rw [e]
    refine Ans.loop (fun q r => f71_N71000) (fun q => f71_Z71000) ?_
    unfold f71_L71000
    have fx := True.intro
    refine Ans.go ?_
    clear fx
    (have fx := hv; refine Ans.ex0 ?_; clear fx)
    rfl
  | succ k ih =>
    intro i X hi hX hf
    have ll : ld1 (newB h0 b (ints X)) (.pointer (some ⟨p, 0, none⟩)) = some (.slice (some ⟨b, 0, none⟩) m m) := by
      rw [ld1_newB_ne _ _ _ _ _ hne, ld1_holds' ⟨false, none, h1⟩]; rfl
    have hs : stN (newB h0 b (ints X)) 1 (.pointer (some ⟨b, i, none⟩)) (.int .i64 i) = some (newB h0 b (ints (X.set i i))) := by
      rw [st1_int _ _ _ _ _ _ (by simp; omega), ints_set]
    refine Ans.loop (fun q r => f71_N71000) (fun q => f71_Z71000) ?_
    unfold f71_L71000
    have fx := And.intro ll hs
    refine Ans.go ?_
    clear fx
    (have fx := And.intro hv (And.intro hp hb); refine Ans.nxB (B := newB h0 b (ints (X.set i i))) ?_ ?_; exact Upto.both (OkVs.ints _ _) (Upto.refl _ _) hb; clear fx)
    refine ih (i + 1) (X.set i i) (by omega) (by simp [hX]) (fun j hj => ?_)
    rw [getD_set]
    by_cases e : i = j
    · rw [if_pos ⟨e, by omega⟩, e]
    · rw [if_neg (fun q => e q.1)]; exact hf j (by omega)
theorem newUnion_sp (m : Nat) (h : FH) (c : Nat) (df : List Nat) (hm : m ≤ 1000000) :
    Ans (G (.fn 71) [.int .i64 m] h c df) fun r => r = { e := .ret, vs := [.agg #[.slice (some ⟨256 * (c + 1) + 1, 0, none⟩) m m]], h := r.h, c := c + 1 + 1 + 1 + 1, df := [] } ∧ Same c h r.h ∧ r.h.f (256 * (c + 1) + 1) = some (.cells false none (ints (startL m))) := by
  refine Ans.call' (fun r e => f71_go e) ?_
  unfold f71_S
  have mk := mkS_int 1 8 .i64 .i64 m (by omega) (by omega)
  obtain ⟨B, hB⟩ : ∃ B, 256 * (c + 1) + 1 = B := ⟨_, rfl⟩
  obtain ⟨Q, hQ⟩ : ∃ Q, 256 * (c + 1) + 3 = Q := ⟨_, rfl⟩
  rw [hB, hQ]
  have hbl : bldV [(.slice none 0 0)] [(0, 1, (.slice (some ⟨B, 0, none⟩) m m))] = some (.agg #[.slice (some ⟨B, 0, none⟩) m m]) := rfl
  have st1 : stN (newB (newB (newB h (256 * c) [(.slice none 0 0)]) B (ints (List.replicate m 0))) Q [(.slice none 0 0)]) 1 (.pointer (some ⟨Q, 0, none⟩)) (.agg #[.slice (some ⟨B, 0, none⟩) m m]) = some (newB (newB (newB h (256 * c) [(.slice none 0 0)]) B (ints (List.replicate m 0))) Q [.slice (some ⟨B, 0, none⟩) m m]) := by
    rw [stN_own1 (w := .slice none 0 0) (by rw [newB_f, if_pos rfl]) rfl, newB_newB]
  obtain ⟨h0, hh0⟩ : ∃ h0, h0 = newB (newB h (256 * c) [(.slice none 0 0)]) Q [.slice (some ⟨B, 0, none⟩) m m] := ⟨_, rfl⟩
  have ec : newB (newB (newB h (256 * c) [(.slice none 0 0)]) B (ints (List.replicate m 0))) Q [.slice (some ⟨B, 0, none⟩) m m] = newB h0 B (ints (List.replicate m 0)) := by
    rw [hh0]
    apply FH.ext; intro j
    simp only [newB_f]
    by_cases e1 : j = Q <;> by_cases e2 : j = B <;> simp [e1, e2] <;> omega
  rw [ec] at st1
  have hq : h0.f Q = some (.cells false none [.slice (some ⟨B, 0, none⟩) m m]) := by rw [hh0, newB_f, if_pos rfl]
  have hc' : h0.f (256 * c) = some (.cells false none [.slice none 0 0]) := by rw [hh0, newB_f, if_neg (by omega), newB_f, if_pos rfl]
  have hl := fun v2 hv => Ans.eq (fill_loop h0 Q B m (c + 1 + 1 + 1) v2 [] hv (by omega) (by omega) (by omega) hm hq m 0 (List.replicate m 0) (by omega) (by simp) (fun j hj => by omega))
  have hl := hl (ptrTo (256 * c)) (OkV.ptrTo (by omega))
  simp only [Int.ofNat_eq_natCast, Int.cast_ofNat_Int] at hl
  have ll : ∀ X, ld1 (newB h0 B X) (.pointer (some ⟨Q, 0, none⟩)) = some (.slice (some ⟨B, 0, none⟩) m m) := fun X => by rw [ld1_newB_ne _ _ _ _ _ (by omega), ld1_holds' ⟨false, none, hq⟩]; rfl
  have lN : ∀ X, ldN (newB h0 B X) 1 (.pointer (some ⟨Q, 0, none⟩)) = some (.agg #[.slice (some ⟨B, 0, none⟩) m m]) := fun X => by rw [ldN_newB_ne _ _ _ _ _ _ (by omega), ldN1_own ⟨false, none, hq⟩]
  have hfin := stN_own1 (h := newB h0 B (ints (startL m))) (b := 256 * c) (w := .slice none 0 0) (v := .slice (some ⟨B, 0, none⟩) m m) (by rw [newB_f, if_neg (by omega), hc']) rfl
  obtain ⟨K, hK⟩ : ∃ K, newB (newB h0 B (ints (startL m))) (256 * c) [.slice (some ⟨B, 0, none⟩) m m] = K := ⟨_, rfl⟩
  rw [hK] at hfin
  have lK : ldN K 1 (.pointer (some ⟨256 * c, 0, none⟩)) = some (.agg #[.slice (some ⟨B, 0, none⟩) m m]) := ldN1_own ⟨false, none, by show K.f _ = _; rw [← hK, newB_f, if_pos rfl]⟩
  repeat' (first | ((with_reducible first | refine Ans.bz ?_ | refine Ans.r1 ?_ | refine Ans.pkT ?_ | refine Ans.pkF ?_); try dsimp only [v_zero, v_succ]) | (with_reducible first | refine Ans.btL ?_ | refine Ans.bfL ?_ | refine Ans.gyT ?_ | refine Ans.gyF ?_ | refine Ans.gyG ?_ | refine Ans.bb ?_ | refine Ans.bc ?_ | refine Ans.ba ?_) | ((with_reducible first | refine Ans.ct ?_ ?_); (focus (simp (disch := (first | omega | with_reducible assumption | (simp <;> omega) | fail)) [mk, hbl, st1, ll, lN, hl, hfin, lK, -ldN_newB_same]; done))) | ((with_reducible first | refine Ans.cf ?_ ?_); (focus (simp (disch := (first | omega | with_reducible assumption | (simp <;> omega) | fail)) [mk, hbl, st1, ll, lN, hl, hfin, lK, -ldN_newB_same]; done))) | (refine Ans.step (by simp (disch := (first | omega | with_reducible assumption | (simp <;> omega) | fail)) [mk, hbl, st1, ll, lN, hl, hfin, lK, -ldN_newB_same, -List.getD_eq_getElem?_getD] <;> rfl) ?_; try dsimp only [v_zero, v_succ]) | fail)
  refine .done ⟨rfl, ?_, ?_⟩
  · intro b hb
    show K.f b = _
    rw [← hK, newB_f, if_neg (by omega), newB_f, if_neg (by omega), hh0, newB_f, if_neg (by omega), newB_f, if_neg (by omega)]
  · show K.f B = _
    rw [← hK, newB_f, if_neg (by omega), newB_f, if_pos rfl]
theorem root_loop (h : FH) (p b m c : Nat) (L : List Int) (u : Uf h p b m L) (hp : p < 256 * c) (df : List Nat) : ∀ (k i : Nat), i < k → i < m →
    Ans (G (f46_k46000 none) [ptrTo p, .int .i64 i] h c df) fun r => r = { e := .exit 0, vs := [ptrTo p, .int .i64 (rootL L i)], h := h, c := c, df := df } := by
  intro k
  induction k with
  | zero => intro i h1; omega
  | succ k ih =>
    intro i h1 hi
    have l1 := u.ld
    have l2 := u.rd hi
    have d := u.dn.2 i hi
    refine Ans.loop (fun q r => f46_N46000) (fun q => f46_Z46000) ?_
    unfold f46_L46000
    by_cases e : L.getD i 0 = i
    · rw [rootL_self e]
      rw [e] at l2
      have fx := And.intro l1 l2
      refine Ans.go ?_
      clear fx
      (have fx := hp; refine Ans.ex0 ?_; clear fx)
      rfl
    · rw [rootL_next u.dn hi e]
      obtain ⟨x, hx⟩ : ∃ x : Nat, L.getD i 0 = x := ⟨(L.getD i 0).toNat, by omega⟩
      rw [hx] at l2 d e ⊢
      rw [Int.toNat_natCast]
      have fx := And.intro l1 l2
      refine Ans.go ?_
      clear fx
      (have fx := hp; refine Ans.nx0 ?_; clear fx)
      exact ih x (by omega) (by omega)
theorem root_sp (h : FH) (p b m c : Nat) (L : List Int) (u : Uf h p b m L) (hp : p < 256 * c) (i : Nat) (hi : i < m) (df : List Nat) : G (.fn 46) [ptrTo p, .int .i64 i] h c df = some { e := .ret, vs := [.int .i64 (rootL L i)], h := h, c := c, df := [] } := by
  refine pure_of' (fun r e => f46_go e) (by simp) ?_
  unfold f46_S
  have hr := Ans.eq (root_loop h p b m (c + 1) L u (by omega) [] (i + 1) i (by omega) hi)
  have fx := hr
  refine Ans.go ?_
  clear fx
  (have fx := True.intro; exact Ans.pu)
theorem join_sp (h : FH) (p b m c : Nat) (L : List Int) (u : Uf h p b m L) (hp : p < 256 * c) (hb : b < 256 * c) (i j : Nat) (hi : i < m) (hj : j < m) (df : List Nat) :
    G (.fn 72) [ptrTo p, .int .i64 i, .int .i64 j] h c df = some { e := .ret, vs := [.tuple #[]], h := newB h b (ints (joinL L i j)), c := c, df := [] } := by
  have c1 := fun c' (hc : c ≤ c') => callF_of (root_sp h p b m c' L u (by omega) i hi [])
  have c2 := fun c' (hc : c ≤ c') => callF_of (root_sp h p b m c' L u (by omega) j hj [])
  have r1 := rootL_le u.dn hi
  have r2 := rootL_le u.dn hj
  have l1 := u.ld
  have e1 : (if ((rootL L i : Nat) : Int) < (rootL L j : Nat) then ((rootL L j : Nat) : Int) else (rootL L i : Nat)) = ((max (rootL L i) (rootL L j) : Nat) : Int) := by split <;> omega
  have e2 : (if ((rootL L j : Nat) : Int) < (rootL L i : Nat) then ((rootL L j : Nat) : Int) else (rootL L i : Nat)) = ((min (rootL L i) (rootL L j) : Nat) : Int) := by split <;> omega
  have m1 := max2_int .i64 (rootL L i) (rootL L j)
  have m2 := min2_int .i64 (rootL L i) (rootL L j)
  rw [e1] at m1
  rw [e2] at m2
  clear e1 e2
  have hl := u.dn.1
  have hw : stN h 1 (.pointer (some ⟨b, max (rootL L i) (rootL L j), none⟩)) (.int .i64 (min (rootL L i) (rootL L j) : Nat)) = some (newB h b (ints (joinL L i j))) := by
    rw [st1_get (show HeapC.get h b = _ from u.up) (by simp; omega) rfl rfl, ints_set]; rfl
  obtain ⟨M, hM⟩ : ∃ M, max (rootL L i) (rootL L j) = M := ⟨_, rfl⟩
  obtain ⟨N, hN⟩ : ∃ N, min (rootL L i) (rootL L j) = N := ⟨_, rfl⟩
  rw [hM] at m1 hw
  rw [hN] at m2 hw
  have hS : f72_S G (ptrTo p) (.int .i64 i) (.int .i64 j) h c = some { e := .ret, vs := [.tuple #[]], h := newB h b (ints (joinL L i j)), c := c + 1 + 1, df := [] } := by
    refine Ans.eq ?_
    unfold f72_S
    have fx := And.intro c1 (And.intro c2 (And.intro l1 (And.intro m1 (And.intro m2 hw))))
    refine Ans.go ?_
    clear fx
    exact .done rfl
  rw [f72_go hS, gcR_to (B := newB h b (ints (joinL L i j))) ?_ ?_ ?_]
  · exact OkVs.cons ⟨.tuple #[], .tuple rfl (fun k x y h => by simp at h)⟩ (OkVs.nil c)
  · exact fun _ _ => rfl
  · exact Upto.old hb (OkVs.ints _ _) (Upto.refl _ _)
end Go.Proofs.Ytcnndelmnobigaa

namespace Go.Proofs.Ytcnndelmnobigaa
open Go Go.Ab Go.Proofs
set_option maxRecDepth 100000
set_option linter.unusedVariables false
set_option linter.unusedSimpArgs false
theorem firsts_loop (c0 p b m : Nat) (L : List Int) (hp : p < 256 * c0) (hb : b < 256 * c0) (df : List Nat) : ∀ (k i c : Nat) (h : FH) (v : Value), i + k = m → c0 ≤ c → Uf h p b m L → AppS c0 h c v 1 (firstsL L i).length (firstsL L i) →
    Ans (G (f45_k45000 none) [ptrTo p, v, .int .i64 m, .int .i64 i] h c df) fun r => r.e = .exit 0 ∧ r.v 0 = ptrTo p ∧ AppS c0 r.h r.c (r.v 1) 1 (firstsL L m).length (firstsL L m) ∧ c ≤ r.c ∧ r.df = df ∧ Same c0 h r.h := by
  intro k
  induction k with
  | zero =>
    intro i c h v hi hc u ha
    obtain rfl : i = m := by omega
    refine Ans.loop' (fun q r => f45_N45000) (fun q => f45_Z45000) ?_
    unfold f45_L45000
    have fx := True.intro
    refine Ans.go ?_
    clear fx
    refine Ans.exitN ⟨rfl, rfl, ?_, (by show c ≤ c + 1; omega), rfl, fun _ _ => rfl⟩
    exact ha.mono (by show c ≤ c + 1; omega)
  | succ k ih =>
    intro i c h v hi hc u ha
    have c1 := fun c' (hc : c ≤ c') => callF_of (root_sp h p b m c' L u (by omega) i (by omega) [])
    have hfl := firstsL_len L i
    have hle := u.le
    have hsu := firstsL_succ L i
    refine Ans.loop' (fun q r => f45_N45000) (fun q => f45_Z45000) ?_
    unfold f45_L45000
    by_cases e : rootL L i = i
    · rw [if_pos e] at hsu
      rw [e] at c1
      have hb1 : bldL [.int .i64 0] [(0, 1, .int .i64 i)] = some (ints [(i : Int)]) := rfl
      obtain ⟨v', h', e1, e2, e3, e4⟩ := (ha.mono (c' := c + 1 + 1 + 1) (by omega)).app (c' := c + 1 + 1 + 1 + 1) [(i : Int)] rfl (by omega) 8 (256 * (c + 1 + 1 + 1) + 2) (256 * (c + 1 + 1 + 1) + 3) (by omega) (by omega) (by omega) (by omega) (by omega) (by omega)
      have fx := And.intro c1 (And.intro hb1 e1)
      refine Ans.go ?_
      clear fx
      refine Ans.nextN ?_
      have u' : Uf h' p b m L := u.same e3 hp hb
      refine (ih (i + 1) _ h' v' (by omega) (by omega) u' ?_).mono ?_
      · rw [hsu, List.length_append]
        exact e2.mono (by omega)
      · rintro r ⟨q1, q2, q3, q4, q5, q6⟩
        exact ⟨q1, q2, q3, by omega, q5, e3.trans q6⟩
    · rw [if_neg e, List.append_nil] at hsu
      have e' : ¬ ((rootL L i : Nat) : Int) = i := by omega
      have fx := c1
      refine Ans.go ?_
      clear fx
      refine Ans.nextN ?_
      refine (ih (i + 1) _ h v (by omega) (by omega) u (by rw [hsu]; exact ha.mono (by omega))).mono ?_
      rintro r ⟨q1, q2, q3, q4, q5, q6⟩
      exact ⟨q1, q2, q3, by omega, q5, q6⟩
theorem firsts_sp (p b m : Nat) (L : List Int) (h : FH) (c : Nat) (df : List Nat) (u : Uf h p b m L) (hp : p < 256 * c) (hb : b < 256 * c) :
    Ans (G (.fn 45) [ptrTo p] h c df) fun r => ∃ v, r = { e := .ret, vs := [v], h := r.h, c := r.c, df := [] } ∧ c ≤ r.c ∧ Same c h r.h ∧ AppS c r.h r.c v 1 (firstsL L m).length (firstsL L m) := by
  refine Ans.call' (fun r e => f45_go e) ?_
  unfold f45_S
  have l1 := u.ld
  obtain ⟨⟨re, rv, rh, rc, rd⟩, hr, r1, r2, r3, r4, r5, r6⟩ := firsts_loop c p b m L hp hb [] m 0 (c + 1 + 1 + 1) h (.slice none 0 0) (by omega) (by omega) u (AppS.nil _ _ _ _)
  simp only [Int.ofNat_eq_natCast, Int.cast_ofNat_Int] at hr
  simp only at r1 r4 r5 r6
  subst r1 r5
  have fx := And.intro l1 hr
  refine Ans.go ?_
  clear fx
  refine .done ⟨_, rfl, (by show c ≤ rc + 1; omega), r6, AppS.mono (c := rc) (by show rc ≤ rc + 1; omega) r3⟩
end Go.Proofs.Ytcnndelmnobigaa

namespace Go.Proofs.Ytcnndelmnobigaa
open Go Go.Ab Go.Proofs
set_option maxRecDepth 100000
set_option linter.unusedVariables false
set_option linter.unusedSimpArgs false
structure MatchI (y s : Value) (n : Nat) (Gl : List Int) (gb : Nat) (I : List (List Int) → (Nat → Prop) → FH → Nat → Prop) (J : (Nat → Prop) → FH → Nat → Prop) : Prop where
  stab : ∀ D O h c h' c', I D O h c → c ≤ c' → (∀ b, b < 256 * c → h'.f b = h.f b) → I D O h' c'
  jstab : ∀ O h c h' c', J O h c → c ≤ c' → (∀ b, b < 256 * c → h'.f b = h.f b) → J O h' c'
  own : ∀ D O h c, I D O h c → ∀ b, O b → b < 256 * c
  read : ∀ D O h c, I D O h c → Holds h gb [s] ∧ SlI h c s 20 n Gl
  step : ∀ D O h c t f i, t < n → f < 4 → i < 4 → i ≠ f → mSkip Gl t f = false → (∃ R, D ++ (mRow Gl t f i :: R) = allM Gl n) → I D O h c →
    Ans (callV G h c y [av (mRow Gl t f i)]) (fun q => c ≤ q.2.2 ∧ ∃ O', (∀ b, O' b → O b ∨ 256 * c ≤ b) ∧ (∀ b, b < 256 * c → ¬ O b → q.2.1.f b = h.f b) ∧
      ((q.1 = .bool true ∧ I (D ++ [mRow Gl t f i]) O' q.2.1 q.2.2) ∨ (q.1 = .bool false ∧ J O' q.2.1 q.2.2)))
variable {y s : Value} {n : Nat} {Gl : List Int} {gb : Nat} {I : List (List Int) → (Nat → Prop) → FH → Nat → Prop} {J : (Nat → Prop) → FH → Nat → Prop}
set_option maxHeartbeats 1000000 in
theorem match_i (hI : MatchI y s n Gl gb I J) (t f : Nat) (ht : t < n) (hf : f < 4) (hsk : mSkip Gl t f = false) (hG : Gl.length = n * 20) (b6 : Nat) (v3 v9 v10 v16 v17 : Value) (df : List Nat) :
    ∀ (k i c : Nat) (D : List (List Int)) (O : Nat → Prop) (h : FH), i + k = 4 → (∃ R, D ++ (mI Gl t f k i ++ R) = allM Gl n) → I D O h c → b6 < 256 * c → ¬ O b6 → Holds h b6 (ints (faceL Gl t f)) →
    Ans (G (f77_k77002 none) [y, .int .i64 t, .int .i64 f, ptrTo b6, v9, v10, v3, v16, v17, .int .i64 i] h c df) fun r => c ≤ r.c ∧ r.df = df ∧ ∃ O', (∀ b, O' b → O b ∨ 256 * c ≤ b) ∧ (∀ b, b < 256 * c → ¬ O b → r.h.f b = h.f b) ∧
      ((r.e = .exit 4 ∧ r.vs = [y, .int .i64 t, .int .i64 f, ptrTo b6, v9, v10, v3, v16, v17, .int .i64 4] ∧ I (D ++ mI Gl t f k i) O' r.h r.c) ∨
       (r.e = .ret ∧ (∃ j : Nat, r.vs = [y, .int .i64 t, .int .i64 f, ptrTo b6, v9, v10, v3, v16, v17, .int .i64 j]) ∧ J O' r.h r.c)) := by
  intro k
  induction k with
  | zero =>
    intro i c D O h hi hp hI0 hb6 hO hh
    obtain rfl : i = 4 := by omega
    refine Ans.loop' (fun q r => f77_N77002) (fun q => f77_Z77002) ?_
    unfold f77_L77002
    have fx := True.intro
    refine Ans.go ?_
    clear fx
    refine Ans.exitN ⟨(by show c ≤ c + 1; omega), rfl, O, fun b hb => .inl hb, fun b _ _ => rfl, .inl ⟨rfl, rfl, ?_⟩⟩
    rw [mI, List.append_nil]
    exact hI.stab _ _ _ _ _ _ hI0 (by show c ≤ c + 1; omega) (fun b _ => rfl)
  | succ k ih =>
    intro i c D O h hi hp hI0 hb6 hO hh
    obtain ⟨R, hp⟩ := hp
    have hfl := faceL_length hG ht hf
    have hit : (i : Int) < 4 := by omega
    have m0 : ld1 h (.pointer (some ⟨b6, 0, none⟩)) = some (.int .i64 (tetL (faceL Gl t f))) := by rw [ld1_holds' hh, ints_getD _ _ (by omega)]; rfl
    have mp : ∀ j : Nat, j < 4 → ld1 h (.pointer (some ⟨b6, 1 + j, none⟩)) = some (.int .i64 ((permL (faceL Gl t f)).getD j 0)) := fun j hj => by
      rw [ld1_holds' hh, ints_getD _ _ (by omega)]
      unfold permL
      rw [getD_take _ _ _ hj, getD_drop]
    have m1 := mp f hf
    have m2 := mp i (by omega)
    by_cases hif : i = f
    · subst hif
      refine Ans.loop' (fun q r => f77_N77002) (fun q => f77_Z77002) ?_
      unfold f77_L77002
      have fx := True.intro
      refine Ans.go ?_
      clear fx
      refine Ans.nextN ?_
      refine (ih (i + 1) _ D O h (by omega) ⟨R, by rw [mI, if_pos rfl, List.nil_append] at hp; exact hp⟩ (hI.stab _ _ _ _ _ _ hI0 (by omega) (fun b _ => rfl)) (by omega) hO hh).mono ?_
      rintro r ⟨q1, q2, O', q3, q4, q5⟩
      refine ⟨by omega, q2, O', fun b hb => (q3 b hb).imp id (by omega), fun b h1 h2 => q4 b (by omega) h2, ?_⟩
      rw [mI, if_pos rfl, List.nil_append]
      exact q5
    · rw [mI, if_neg hif] at hp
      obtain ⟨⟨v, h', c'⟩, hq, hc, O', o1, o2, o3⟩ := hI.step D O h (c + 1 + 1 + 1) t f i ht hf (by omega) hif hsk ⟨mI Gl t f k (i + 1) ++ R, by simpa using hp⟩ (hI.stab _ _ _ _ _ _ hI0 (by omega) (fun b _ => rfl))
      simp only at hc o1 o2 o3
      have hm : mRow Gl t f i = [(t : Int), (f : Int), (i : Int), tetL (faceL Gl t f), (permL (faceL Gl t f)).getD f 0, (permL (faceL Gl t f)).getD i 0] := rfl
      have b6' := bld6 (t : Int) f i (tetL (faceL Gl t f)) ((permL (faceL Gl t f)).getD f 0) ((permL (faceL Gl t f)).getD i 0)
      rw [← hm] at b6'
      obtain ⟨M, hM⟩ : ∃ M, mRow Gl t f i = M := ⟨_, rfl⟩
      rw [hM] at hq b6' o3 hp
      have hne : ¬ ((i : Int) = f) := by omega
      rcases o3 with ⟨rfl, hI1⟩ | ⟨rfl, hJ⟩
      · refine Ans.loop' (fun q r => f77_N77002) (fun q => f77_Z77002) ?_
        unfold f77_L77002
        have fx := And.intro m0 (And.intro m1 (And.intro m2 (And.intro b6' hq)))
        refine Ans.go ?_
        clear fx
        refine Ans.nextN ?_
        refine (ih (i + 1) _ (D ++ [M]) O' h' (by omega) ⟨R, by simpa using hp⟩ (hI.stab _ _ _ _ _ _ hI1 (by omega) (fun b _ => rfl)) (by omega) (fun ho => (o1 b6 ho).elim hO (by omega)) (hh.eqf (o2 b6 (by omega) hO))).mono ?_
        rintro r ⟨q1, q2, O2, q3, q4, q5⟩
        refine ⟨by omega, q2, O2, fun b hb => ?_, fun b h1 h2 => ?_, ?_⟩
        · rcases q3 b hb with h1 | h1
          · exact (o1 b h1).imp id (by omega)
          · exact .inr (by omega)
        · rw [q4 b (by omega) (fun ho => (o1 b ho).elim h2 (by omega)), o2 b (by omega) h2]
        · rw [mI, if_neg hif, hM]
          rw [List.append_assoc] at q5
          exact q5
      · refine Ans.loop' (fun q r => f77_N77002) (fun q => f77_Z77002) ?_
        unfold f77_L77002
        have fx := And.intro m0 (And.intro m1 (And.intro m2 (And.intro b6' hq)))
        refine Ans.go ?_
        clear fx
        refine Ans.retN ⟨(by show c ≤ c'; omega), rfl, O', fun b hb => (o1 b hb).imp id (by omega), fun b h1 h2 => o2 b (by omega) h2, .inr ⟨rfl, ⟨i, rfl⟩, hJ⟩⟩
end Go.Proofs.Ytcnndelmnobigaa
