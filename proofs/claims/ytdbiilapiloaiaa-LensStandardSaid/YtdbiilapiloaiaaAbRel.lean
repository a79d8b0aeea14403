/- A part of the claim's proof: AbRel. Conditions: none. -/
import Derived.Test.YtdbiilapiloaiaaAbDef
/-! The relation between the abstract machine's values and heaps and the model's. -/
set_option linter.all false
namespace Go.Ab
open Go

structure ME where
  b : Nat
  s : Nat
  opn : Option (Nat × Nat)

abbrev Mu := Nat → Option ME

inductive VR (μ : Mu) : Value → Value → Prop
  | bool (b : Bool) : VR μ (.bool b) (.bool b)
  | int (k : IntKind) (n : Int) : VR μ (.int k n) (.int k n)
  | str (s : ByteArray) : VR μ (.string s) (.string s)
  | ptr0 : VR μ (.pointer none) (.pointer none)
  | ptr {i o : Nat} {m : ME} (h : μ i = some m) : VR μ (.pointer (some ⟨i, o, none⟩)) (.pointer (some ⟨m.b, m.s + o, none⟩))
  | sl0 (l c : Nat) : VR μ (.slice none l c) (.slice none l c)
  | sl {i o l c c' : Nat} {m : ME} (h : μ i = some m) (hc : c ≤ c') (hz : c = c' ∨ ∃ e Z, m.opn = some (e, Z) ∧ m.s + o + c' * e ≤ Z) :
      VR μ (.slice (some ⟨i, o, none⟩) l c) (.slice (some ⟨m.b, m.s + o, none⟩) l c')
  | slE {i o x : Nat} {m : ME} (h : μ i = some m) : VR μ (.slice (some ⟨i, o, none⟩) 0 0) (.slice (some ⟨m.b, x, none⟩) 0 0)
  | map0 : VR μ (.map none) (.map none)
  | map {i : Nat} {m : ME} (h : μ i = some m) : VR μ (.map (some i)) (.map (some m.b))
  | nilFunc : VR μ .nilFunc .nilFunc
  | nilIface : VR μ .nilIface .nilIface
  | iface (t : TypeId) {v v' : Value} (h : VR μ v v') : VR μ (.iface t v) (.iface t v')
  | agg {xs ys : Array Value} (hs : xs.size = ys.size) (h : ∀ (k : Nat) (x y : Value), xs[k]? = some x → ys[k]? = some y → VR μ x y) : VR μ (.agg xs) (.agg ys)
  | tuple {xs ys : Array Value} (hs : xs.size = ys.size) (h : ∀ (k : Nat) (x y : Value), xs[k]? = some x → ys[k]? = some y → VR μ x y) : VR μ (.tuple xs) (.tuple ys)
  | fnc (f : FuncId) {as as' bs bs' : Array Value} (ha : as.size = as'.size) (hb : bs.size = bs'.size)
      (h1 : ∀ (k : Nat) (x y : Value), as[k]? = some x → as'[k]? = some y → VR μ x y)
      (h2 : ∀ (k : Nat) (x y : Value), bs[k]? = some x → bs'[k]? = some y → VR μ x y) : VR μ (.func (.func f) as bs) (.func (.func f) as' bs')
  | yield {l : Nat} {m : ME} (h : μ l = some m) : VR μ (.func (.yield l) #[] #[]) (.func (.yield m.b) #[] #[])

/-- Lists of values, one by one. -/
def VRs (μ : Mu) (xs ys : List Value) : Prop := xs.length = ys.length ∧ ∀ (k : Nat) (x y : Value), xs[k]? = some x → ys[k]? = some y → VR μ x y

theorem VRs.nil (μ : Mu) : VRs μ [] [] := ⟨rfl, by simp⟩
theorem VRs.cons {μ : Mu} {x y : Value} {xs ys : List Value} (h : VR μ x y) (hs : VRs μ xs ys) : VRs μ (x :: xs) (y :: ys) := by
  refine ⟨by simp [hs.1], fun k a b ha hb => ?_⟩
  cases k with
  | zero => simp at ha hb; subst ha; subst hb; exact h
  | succ k => simp at ha hb; exact hs.2 k a b ha hb
theorem VRs.head {μ : Mu} {x y : Value} {xs ys : List Value} (h : VRs μ (x :: xs) (y :: ys)) : VR μ x y := h.2 0 x y (by simp) (by simp)
theorem VRs.tail {μ : Mu} {x y : Value} {xs ys : List Value} (h : VRs μ (x :: xs) (y :: ys)) : VRs μ xs ys :=
  ⟨by simpa using h.1, fun k a b ha hb => h.2 (k + 1) a b (by simpa using ha) (by simpa using hb)⟩
theorem VRs.left {μ : Mu} {x : Value} {xs ys : List Value} (h : VRs μ (x :: xs) ys) : ∃ y zs, ys = y :: zs ∧ VR μ x y ∧ VRs μ xs zs := by
  cases ys with
  | nil => exact absurd h.1 (by simp)
  | cons y zs => exact ⟨y, zs, rfl, h.head, h.tail⟩
theorem VRs.nil_left {μ : Mu} {ys : List Value} (h : VRs μ [] ys) : ys = [] := by
  cases ys with
  | nil => rfl
  | cons y zs => exact absurd h.1 (by simp)
theorem VRs.append {μ : Mu} {xs ys xs' ys' : List Value} (h : VRs μ xs ys) (h' : VRs μ xs' ys') : VRs μ (xs ++ xs') (ys ++ ys') := by
  induction xs generalizing ys with
  | nil => rw [h.nil_left]; simpa using h'
  | cons x xs ih => obtain ⟨y, zs, rfl, h1, h2⟩ := h.left; exact VRs.cons h1 (ih h2)
theorem VRs.get {μ : Mu} {xs ys : List Value} (h : VRs μ xs ys) {k : Nat} {x : Value} (hx : xs[k]? = some x) : ∃ y, ys[k]? = some y ∧ VR μ x y := by
  have hk : k < xs.length := (List.getElem?_eq_some_iff.1 hx).1
  have hk' : k < ys.length := h.1 ▸ hk
  exact ⟨ys[k], List.getElem?_eq_getElem hk', h.2 k x _ hx (List.getElem?_eq_getElem hk')⟩
theorem VRs.drop {μ : Mu} {xs ys : List Value} (h : VRs μ xs ys) (n : Nat) : VRs μ (xs.drop n) (ys.drop n) :=
  ⟨by simp [h.1], fun k a b ha hb => h.2 (n + k) a b (by simpa using ha) (by simpa using hb)⟩
theorem VRs.take {μ : Mu} {xs ys : List Value} (h : VRs μ xs ys) (n : Nat) : VRs μ (xs.take n) (ys.take n) := by
  refine ⟨by simp [h.1], fun k a b ha hb => ?_⟩
  rw [List.getElem?_take] at ha hb
  split at ha
  · rename_i hk; simp [hk] at hb; exact h.2 k a b ha hb
  · simp at ha

theorem VR.agg_iff {μ : Mu} {xs ys : Array Value} : VR μ (.agg xs) (.agg ys) ↔ VRs μ xs.toList ys.toList := by
  constructor
  · intro h; cases h with
    | agg hs h => exact ⟨by simpa using hs, fun k x y hx hy => h k x y (by simpa using hx) (by simpa using hy)⟩
  · intro h; exact .agg (by simpa using h.1) (fun k x y hx hy => h.2 k x y (by simpa using hx) (by simpa using hy))
theorem VR.tuple_iff {μ : Mu} {xs ys : Array Value} : VR μ (.tuple xs) (.tuple ys) ↔ VRs μ xs.toList ys.toList := by
  constructor
  · intro h; cases h with
    | tuple hs h => exact ⟨by simpa using hs, fun k x y hx hy => h k x y (by simpa using hx) (by simpa using hy)⟩
  · intro h; exact .tuple (by simpa using h.1) (fun k x y hx hy => h.2 k x y (by simpa using hx) (by simpa using hy))

/-- more is known -/
def Mu.le (μ μ' : Mu) : Prop := ∀ i m, μ i = some m → μ' i = some m

theorem VR.mono {μ μ' : Mu} (hm : μ.le μ') {v v' : Value} (h : VR μ v v') : VR μ' v v' := by
  induction h with
  | bool b => exact .bool b
  | int k n => exact .int k n
  | str s => exact .str s
  | ptr0 => exact .ptr0
  | ptr h => exact .ptr (hm _ _ h)
  | sl0 l c => exact .sl0 l c
  | sl h hc hz => exact .sl (hm _ _ h) hc hz
  | slE h => exact .slE (hm _ _ h)
  | map0 => exact .map0
  | map h => exact .map (hm _ _ h)
  | nilFunc => exact .nilFunc
  | nilIface => exact .nilIface
  | iface t _ ih => exact .iface t ih
  | agg hs _ ih => exact .agg hs ih
  | tuple hs _ ih => exact .tuple hs ih
  | fnc f ha hb _ _ ih1 ih2 => exact .fnc f ha hb ih1 ih2
  | yield h => exact .yield (hm _ _ h)
theorem VRs.mono {μ μ' : Mu} (hm : μ.le μ') {xs ys : List Value} (h : VRs μ xs ys) : VRs μ' xs ys := ⟨h.1, fun k x y hx hy => (h.2 k x y hx hy).mono hm⟩

theorem VR.plain {μ : Mu} {v : Value} (h : plainV v = true) : VR μ v v := by
  cases v with
  | bool b => exact .bool b
  | int k n => exact .int k n
  | string s => exact .str s
  | pointer a => cases a with
    | none => exact .ptr0
    | some a => simp [plainV] at h
  | slice a l c => cases a with
    | none => exact .sl0 l c
    | some a => simp [plainV] at h
  | map r => cases r with
    | none => exact .map0
    | some r => simp [plainV] at h
  | nilFunc => exact .nilFunc
  | nilIface => exact .nilIface
  | _ => simp [plainV] at h
theorem VRs.plain {μ : Mu} {xs : List Value} (h : xs.all plainV = true) : VRs μ xs xs := by
  refine ⟨rfl, fun k x y hx hy => ?_⟩
  rw [hx] at hy
  cases hy
  exact VR.plain (List.all_eq_true.1 h x (List.mem_of_getElem? hx))
theorem VR.plainL {μ : Mu} {v : Value} (h : plainL v = true) : VR μ v v := by
  cases v with
  | agg cs => exact VR.agg_iff.2 (VRs.plain h)
  | _ => exact VR.plain h
theorem VR.flat {μ : Mu} {v v' : Value} (h : VR μ v v') : isFlat v = true → v'.oneCell' = true := by
  cases h <;> simp [isFlat, Value.oneCell']
theorem VR.cells {μ : Mu} {v v' : Value} (h : VR μ v v') : VRs μ v.cells.toList v'.cells.toList := by
  cases h with
  | agg hs h => exact VR.agg_iff.1 (.agg hs h)
  | tuple hs h => exact VRs.cons (.tuple hs h) (VRs.nil μ)
  | bool b => exact VRs.cons (.bool b) (VRs.nil μ)
  | int k n => exact VRs.cons (.int k n) (VRs.nil μ)
  | str s => exact VRs.cons (.str s) (VRs.nil μ)
  | ptr0 => exact VRs.cons .ptr0 (VRs.nil μ)
  | ptr h => exact VRs.cons (.ptr h) (VRs.nil μ)
  | sl0 l c => exact VRs.cons (.sl0 l c) (VRs.nil μ)
  | sl h hc hz => exact VRs.cons (.sl h hc hz) (VRs.nil μ)
  | slE h => exact VRs.cons (.slE h) (VRs.nil μ)
  | map0 => exact VRs.cons .map0 (VRs.nil μ)
  | map h => exact VRs.cons (.map h) (VRs.nil μ)
  | nilFunc => exact VRs.cons .nilFunc (VRs.nil μ)
  | nilIface => exact VRs.cons .nilIface (VRs.nil μ)
  | iface t h => exact VRs.cons (.iface t h) (VRs.nil μ)
  | fnc f ha hb h1 h2 => exact VRs.cons (.fnc f ha hb h1 h2) (VRs.nil μ)
  | yield h => exact VRs.cons (.yield h) (VRs.nil μ)
theorem VRs.flat {μ : Mu} {xs ys : List Value} (h : VRs μ xs ys) (hf : xs.all isFlat = true) : ∀ v ∈ ys, v.oneCell' = true := by
  intro v hv
  obtain ⟨k, hk⟩ := List.getElem?_of_mem hv
  have hlt : k < ys.length := (List.getElem?_eq_some_iff.1 hk).1
  have hlx : k < xs.length := h.1 ▸ hlt
  have hx : xs[k]? = some xs[k] := List.getElem?_eq_getElem hlx
  exact (h.2 k _ v hx hk).flat (List.all_eq_true.1 hf _ (List.mem_of_getElem? hx))

/-! ### Temporaries -/
structure TmR (μ : Mu) (tm : Tm) (nt : Nat) (ts : Array Value) : Prop where
  size : ts.size = nt
  val : ∀ t v, tm t = some v → ∃ v', ts[t]? = some v' ∧ VR μ v v'

theorem TmR.mono {μ μ' : Mu} (hm : μ.le μ') {tm : Tm} {nt : Nat} {ts : Array Value} (h : TmR μ tm nt ts) : TmR μ' tm nt ts :=
  ⟨h.size, fun t v e => let ⟨v', a, b⟩ := h.val t v e; ⟨v', a, b.mono hm⟩⟩

theorem TmR.eval {μ : Mu} {tm : Tm} {nt : Nat} {a : Act} (h : TmR μ tm nt a.tmps) {x : Operand} {v : Value} (e : evalO tm x = some v) : VR μ v (a.eval x) := by
  cases x with
  | tmp t =>
    obtain ⟨v', h1, h2⟩ := h.val t v e
    simp only [Act.eval, Array.getD_eq_getD_getElem?, h1]
    exact h2
  | const c =>
    simp only [evalO] at e
    cases hp : plainV c with
    | true => simp [hp] at e; subst e; exact VR.plain hp
    | false => simp [hp] at e
  | global g => simp [evalO] at e
  | func f =>
    simp only [evalO, Option.some.injEq] at e
    subst e
    exact .fnc f rfl rfl (by simp) (by simp)

theorem TmR.evals {μ : Mu} {tm : Tm} {nt : Nat} {a : Act} (h : TmR μ tm nt a.tmps) : ∀ {xs : List Operand} {vs : List Value}, evalOs tm xs = some vs → VRs μ vs (xs.map a.eval)
  | [], vs, e => by simp [evalOs] at e; subst e; exact VRs.nil μ
  | x :: xs, vs, e => by
    simp only [evalOs, Option.bind_eq_some_iff] at e
    obtain ⟨v, hv, ws, hw, e⟩ := e
    cases e
    exact VRs.cons (h.eval hv) (h.evals hw)

theorem TmR.put {μ : Mu} {tm : Tm} {nt : Nat} {a : Act} (h : TmR μ tm nt a.tmps) {dst : Option Tmp} {v v' : Value} (hd : ∀ d, dst = some d → d < nt) (hv : VR μ v v') :
    TmR μ (putT tm dst v) nt (a.put dst v').tmps := by
  cases dst with
  | none => exact h
  | some d =>
    refine ⟨by simp [Act.put, h.size], fun t u e => ?_⟩
    simp only [putT] at e
    simp only [Act.put]
    by_cases hdt : t = d
    · subst hdt
      simp at e
      subst e
      exact ⟨v', by simp [h.size, hd t rfl], hv⟩
    · have hb : Nat.beq t d = false := by rw [Bool.eq_false_iff]; intro hh; exact hdt (Nat.eq_of_beq_eq_true hh)
      simp [hb] at e
      obtain ⟨u', h1, h2⟩ := h.val t u e
      exact ⟨u', by rw [Array.getElem?_setIfInBounds_ne (Ne.symm hdt)]; exact h1, h2⟩

/-! ### Heaps -/
variable {H : Type} [HeapC H]

def wrB : Option ABlk → Bool
  | some (.cells ro _ _) => !ro
  | some .dead | none => false
  | some _ => true

def roB : Option ABlk → Bool
  | some (.cells ro _ _) => ro
  | _ => false

def deadB : Option ABlk → Bool
  | some .dead => true
  | _ => false

/-- map entries, one by one -/
def EsR (μ : Mu) (es : List (Value × Value)) (es' : List MapEntry) : Prop :=
  es.length = es'.length ∧ ∀ (k : Nat) (x : Value × Value) (y : MapEntry), es[k]? = some x → es'[k]? = some y → VR μ x.1 y.key ∧ VR μ x.2 y.val

structure LoopR (μ : Mu) (a : ALoop) (r : Loop) : Prop where
  state : r.state = a.state
  pending : r.pending = a.pending
  params : r.params.toList = a.params
  assign : r.assign = strip a.assign
  body : r.body = strip a.body
  size : r.tmps.size = a.nt
  vals : ∀ t v, tmOf a.lin a.vals t = some v → ∃ v', r.tmps[t]? = some v' ∧ VR μ v v'
  dfr : ∃ m, μ a.dfr = some m ∧ m.b = r.defers

def BlkR (μ : Mu) (m : ME) (heap : Array Obj) : Option ABlk → Prop
  | some (.cells ro opn c) => ∃ C E fr, heap[m.b]? = some (.cells C E fr) ∧ (∀ k x, c[k]? = some x → ∃ y, C[m.s + k]? = some y ∧ VR μ x y) ∧
      (ro = false → fr = (0, 0)) ∧ m.opn = opn.map fun e => (e, C.size)
  | some (.map es) => ∃ es' clk, heap[m.b]? = some (.map es' clk) ∧ EsR μ es es'.toList
  | some (.loop a) => ∃ r, heap[m.b]? = some (.loop r) ∧ LoopR μ a r
  | some .dfr => heap[m.b]? = some (.deferred (some []))
  | some .dead | none => True

structure R (μ : Mu) (A : H) (w : World) : Prop where
  blk : ∀ i m, μ i = some m → BlkR μ m w.heap (HeapC.get A i)
  inj : ∀ i j mi mj, μ i = some mi → μ j = some mj → i ≠ j → deadB (HeapC.get A i) = false → deadB (HeapC.get A j) = false →
    ¬ (roB (HeapC.get A i) = true ∧ roB (HeapC.get A j) = true) → mi.b ≠ mj.b
  lt : ∀ i m, μ i = some m → m.b < w.heap.size

/-- What a piece of code does to the two heaps. -/
structure Ext (μ : Mu) (A : H) (c : Nat) (w : World) (own : Nat → Prop) (μ' : Mu) (A' : H) (c' : Nat) (w' : World) : Prop where
  mu : μ.le μ'
  new : ∀ i, μ i = none → μ' i ≠ none → own i ∨ (256 * c ≤ i ∧ i < 256 * c')
  cle : c ≤ c'
  rel : R μ' A' w'
  af : ∀ i, μ i = none → i < 256 * c → ¬ own i → HeapC.get A' i = HeapC.get A i
  os : w'.os = w.os
  tape : w'.tape = w.tape
  output : w'.output = w.output
  size : w.heap.size ≤ w'.heap.size
  fr : ∀ b, b < w.heap.size → (∀ i m, μ i = some m → wrB (HeapC.get A i) = true → m.b ≠ b) → w'.heap[b]? = w.heap[b]?
  wrm : ∀ i m, μ i = some m → wrB (HeapC.get A' i) = true → wrB (HeapC.get A i) = true
  newb : ∀ i m, μ i = none → μ' i = some m → w.heap.size ≤ m.b ∨ ∃ j mj, μ j = some mj ∧ mj.b = m.b ∧ wrB (HeapC.get A j) = true
  dd : ∀ i m, μ i = some m → deadB (HeapC.get A i) = true → deadB (HeapC.get A' i) = true

theorem Ext.refl {μ : Mu} {A : H} {c : Nat} {w : World} {own : Nat → Prop} (h : R μ A w) : Ext μ A c w own μ A c w where
  mu := fun _ _ e => e
  new := fun i h1 h2 => absurd h1 h2
  cle := Nat.le_refl _
  rel := h
  af := fun _ _ _ _ => rfl
  os := rfl
  tape := rfl
  output := rfl
  size := Nat.le_refl _
  fr := fun _ _ _ => rfl
  wrm := fun _ _ _ h => h
  newb := fun i m h1 h2 => by rw [h1] at h2; cases h2
  dd := fun _ _ _ h => h

theorem Ext.trans {μ μ1 μ2 : Mu} {A A1 A2 : H} {c c1 c2 : Nat} {w w1 w2 : World} {own own' : Nat → Prop}
    (h : Ext μ A c w own μ1 A1 c1 w1) (k : Ext μ1 A1 c1 w1 own' μ2 A2 c2 w2) (ho : ∀ i, own i → i < 256 * c) (ho' : ∀ i, own' i → μ1 i = none ∨ own' i) :
    Ext μ A c w (fun i => own i ∨ own' i) μ2 A2 c2 w2 where
  mu := fun i m e => k.mu i m (h.mu i m e)
  new := fun i h1 h2 => by
    cases e : μ1 i with
    | none =>
      rcases k.new i e h2 with a | ⟨a, b⟩
      · exact .inl (.inr a)
      · exact .inr ⟨by have := h.cle; omega, b⟩
    | some m =>
      rcases h.new i h1 (by rw [e]; simp) with a | ⟨a, b⟩
      · exact .inl (.inl a)
      · exact .inr ⟨a, by have := k.cle; omega⟩
  cle := Nat.le_trans h.cle k.cle
  rel := k.rel
  af := fun i h1 h2 h3 => by
    have e1 := h.af i h1 h2 (fun a => h3 (.inl a))
    cases e : μ1 i with
    | none => rw [k.af i e (by have := h.cle; omega) (fun a => h3 (.inr a)), e1]
    | some m =>
      rcases h.new i h1 (by rw [e]; simp) with a | ⟨a, _⟩
      · exact absurd (.inl a) h3
      · omega
  os := k.os.trans h.os
  tape := k.tape.trans h.tape
  output := k.output.trans h.output
  size := Nat.le_trans h.size k.size
  fr := fun b hb hn => by
    rw [k.fr b (by have := h.size; omega) ?_, h.fr b hb hn]
    intro i m hi hw e
    cases e0 : μ i with
    | some m0 =>
      have := h.mu i m0 e0
      rw [hi] at this
      cases this
      exact hn i m e0 (h.wrm i m e0 hw) e
    | none =>
      rcases h.newb i m e0 hi with a | ⟨j, mj, a, a2, a3⟩
      · omega
      · exact hn j mj a a3 (a2.trans e)
  wrm := fun i m hi hw => h.wrm i m hi (k.wrm i m (h.mu i m hi) hw)
  dd := fun i m hi h0 => k.dd i m (h.mu i m hi) (h.dd i m hi h0)
  newb := fun i m h1 h2 => by
    cases e : μ1 i with
    | some m1 =>
      have := k.mu i m1 e
      rw [h2] at this
      cases this
      exact h.newb i m h1 e
    | none =>
      rcases k.newb i m e h2 with a | ⟨j, mj, a, a2, a3⟩
      · exact .inl (Nat.le_trans h.size a)
      · cases e0 : μ j with
        | some m0 =>
          have := h.mu j m0 e0
          rw [a] at this
          cases this
          exact .inr ⟨j, mj, e0, a2, h.wrm j mj e0 a3⟩
        | none =>
          rcases h.newb j mj e0 a with b | ⟨j', mj', b1, b2, b3⟩
          · exact .inl (by omega)
          · exact .inr ⟨j', mj', b1, b2.trans a2, b3⟩

/-- no name from here on has been given away -/
def Fresh (μ : Mu) (c : Nat) : Prop := ∀ i, 256 * c ≤ i → μ i = none

theorem Ext.fresh {μ μ' : Mu} {A A' : H} {c c' : Nat} {w w' : World} {own : Nat → Prop} (h : Ext μ A c w own μ' A' c' w') (hf : Fresh μ c) (ho : ∀ i, own i → i < 256 * c) : Fresh μ' c' := by
  intro i hi
  cases e : μ' i with
  | none => rfl
  | some m =>
    have e0 := hf i (by have := h.cle; omega)
    rcases h.new i e0 (by rw [e]; simp) with a | ⟨_, a⟩
    · have := ho i a; have := h.cle; omega
    · omega

theorem Ext.weaken {μ μ' : Mu} {A A' : H} {c c' : Nat} {w w' : World} {own own' : Nat → Prop} (h : Ext μ A c w own μ' A' c' w') (ho : ∀ i, own i → own' i) : Ext μ A c w own' μ' A' c' w' :=
  { h with new := fun i a b => (h.new i a b).imp (ho i) id, af := fun i a b d => h.af i a b (fun e => d (ho i e)) }

end Go.Ab
