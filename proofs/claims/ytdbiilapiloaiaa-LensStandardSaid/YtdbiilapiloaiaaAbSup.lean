/- A part of the claim's proof: AbSup. Conditions: none. -/
import Derived.Test.YtdbiilapiloaiaaAbDo
/-! Support of values; operations and the operands they look at. -/
set_option linter.all false
namespace Go.Ab
open Go
set_option linter.unusedVariables false
set_option linter.unusedSimpArgs false
set_option linter.unusedSectionVars false

variable {H : Type} [HeapC H] {P : Program} {μ : Mu} {A : H} {w : World}

/-! ### Support -/
open Classical in
noncomputable def Mu.on (μ : Mu) (D : Nat → Prop) : Mu := fun i => if D i then μ i else none

theorem Mu.on_some {D : Nat → Prop} {i : Nat} {m : ME} (h : μ.on D i = some m) : D i ∧ μ i = some m := by
  unfold Mu.on at h
  split at h
  · rename_i hd; exact ⟨hd, h⟩
  · cases h
theorem Mu.on_of {D : Nat → Prop} {i : Nat} (h : D i) : μ.on D i = μ i := by simp [Mu.on, h]
theorem Mu.on_not {D : Nat → Prop} {i : Nat} (h : ¬ D i) : μ.on D i = none := by simp [Mu.on, h]
theorem Mu.on_le {D : Nat → Prop} : (μ.on D).le μ := fun i m h => (Mu.on_some h).2

theorem VR.on {ν : Mu} {D : Nat → Prop} (hD : ∀ i, ν i ≠ none → D i) {v v' : Value} (h : VR μ v v') : ∀ {v'' : Value}, VR ν v v'' → VR (μ.on D) v v' := by
  have hd : ∀ {i : Nat} {m : ME}, ν i = some m → D i := fun e => hD _ (by rw [e]; simp)
  induction h with
  | bool b => intro _ _; exact .bool b
  | int k n => intro _ _; exact .int k n
  | str s => intro _ _; exact .str s
  | ptr0 => intro _ _; exact .ptr0
  | ptr h => intro _ g; cases g with | ptr g => exact .ptr (by rw [Mu.on_of (hd g)]; exact h)
  | sl0 l c => intro _ _; exact .sl0 l c
  | sl h hc hz => intro _ g; cases g with
    | sl g _ _ => exact .sl (by rw [Mu.on_of (hd g)]; exact h) hc hz
    | slE g => exact .sl (by rw [Mu.on_of (hd g)]; exact h) hc hz
  | slE h => intro _ g; cases g with
    | sl g _ _ => exact .slE (by rw [Mu.on_of (hd g)]; exact h)
    | slE g => exact .slE (by rw [Mu.on_of (hd g)]; exact h)
  | map0 => intro _ _; exact .map0
  | map h => intro _ g; cases g with | map g => exact .map (by rw [Mu.on_of (hd g)]; exact h)
  | nilFunc => intro _ _; exact .nilFunc
  | nilIface => intro _ _; exact .nilIface
  | iface t _ ih => intro _ g; cases g with | iface _ g => exact .iface t (ih g)
  | agg hs _ ih => intro _ g; cases g with
    | @agg _ zs hs' g => exact .agg hs (fun k x y hx hy => by
        have hl : k < zs.size := by have := (Array.getElem?_eq_some_iff.1 hx).1; omega
        exact ih k x y hx hy (g k x zs[k] hx (Array.getElem?_eq_getElem hl)))
  | tuple hs _ ih => intro _ g; cases g with
    | @tuple _ zs hs' g => exact .tuple hs (fun k x y hx hy => by
        have hl : k < zs.size := by have := (Array.getElem?_eq_some_iff.1 hx).1; omega
        exact ih k x y hx hy (g k x zs[k] hx (Array.getElem?_eq_getElem hl)))
  | fnc f ha hb _ _ ih1 ih2 => intro _ g; cases g with
    | @fnc _ _ zs _ zs' g1 g2 g3 g4 =>
      refine VR.fnc f ha hb (fun k x y hx hy => ?_) (fun k x y hx hy => ?_)
      · have hl : k < zs.size := by have := (Array.getElem?_eq_some_iff.1 hx).1; omega
        exact ih1 k x y hx hy (g3 k x zs[k] hx (Array.getElem?_eq_getElem hl))
      · have hl : k < zs'.size := by have := (Array.getElem?_eq_some_iff.1 hx).1; omega
        exact ih2 k x y hx hy (g4 k x zs'[k] hx (Array.getElem?_eq_getElem hl))
  | yield h => intro _ g; cases g with | yield g => exact .yield (by rw [Mu.on_of (hd g)]; exact h)

/-- every block that the value names lies in D -/
def Sup (D : Nat → Prop) (v : Value) : Prop := ∃ ν v', VR ν v v' ∧ ∀ i, ν i ≠ none → D i

theorem Sup.mono {D D' : Nat → Prop} (h : ∀ i, D i → D' i) {v : Value} (hs : Sup D v) : Sup D' v :=
  let ⟨ν, v', a, b⟩ := hs; ⟨ν, v', a, fun i e => h i (b i e)⟩
theorem VR.onS {D : Nat → Prop} {v v' : Value} (h : VR μ v v') (hs : Sup D v) : VR (μ.on D) v v' :=
  let ⟨_, _, a, b⟩ := hs; h.on b a

def BlkSup (D : Nat → Prop) (b : Option ABlk) : Prop := ∃ ν m h, BlkR ν m h b ∧ ∀ i, ν i ≠ none → D i

theorem BlkR.onS {D : Nat → Prop} {m : ME} {h : Array Obj} {b : Option ABlk} (hb : BlkR μ m h b) (hs : BlkSup D b) : BlkR (μ.on D) m h b := by
  obtain ⟨ν, m', h', hb', hD⟩ := hs
  unfold BlkR at hb hb' ⊢
  split at hb
  · rename_i ro opn c
    obtain ⟨C, E, fr, h1, h2, h3, h4⟩ := hb
    obtain ⟨C', E', fr', g1, g2, g3, g4⟩ := hb'
    refine ⟨C, E, fr, h1, fun k x hx => ?_, h3, h4⟩
    obtain ⟨y, h5, h6⟩ := h2 k x hx
    obtain ⟨y', g5, g6⟩ := g2 k x hx
    exact ⟨y, h5, h6.on hD g6⟩
  · rename_i es
    obtain ⟨es', clk, h1, h2, h3⟩ := hb
    obtain ⟨fs, clk', g1, g2, g3⟩ := hb'
    refine ⟨es', clk, h1, h2, fun k x y hx hy => ?_⟩
    have hl : k < fs.toList.length := by have := (List.getElem?_eq_some_iff.1 hx).1; omega
    have a := h3 k x y hx hy
    have b := g3 k x fs.toList[k] hx (List.getElem?_eq_getElem hl)
    exact ⟨a.1.on hD b.1, a.2.on hD b.2⟩
  · rename_i a
    obtain ⟨r, h1, h2⟩ := hb
    obtain ⟨r', g1, g2⟩ := hb'
    refine ⟨r, h1, ⟨h2.state, h2.pending, h2.params, h2.assign, h2.body, h2.size, fun t v e => ?_, ?_⟩⟩
    · obtain ⟨v', h3, h4⟩ := h2.vals t v e
      obtain ⟨v'', g3, g4⟩ := g2.vals t v e
      exact ⟨v', h3, h4.on hD g4⟩
    · obtain ⟨m1, h3, h4⟩ := h2.dfr
      obtain ⟨m2, g3, g4⟩ := g2.dfr
      exact ⟨m1, by rw [Mu.on_of (hD _ (by rw [g3]; simp))]; exact h3, h4⟩
  · exact hb
  · trivial
  · trivial

/-! ### Operands -/
theorem evalO_congr {tm tm' : Tm} {x : Operand} (h : ∀ t, x = .tmp t → tm t = tm' t) : evalO tm x = evalO tm' x := by
  cases x with
  | tmp t => exact h t rfl
  | _ => rfl

theorem evalOs_congr {tm tm' : Tm} : ∀ {xs : List Operand}, (∀ x ∈ xs, evalO tm x = evalO tm' x) → evalOs tm xs = evalOs tm' xs
  | [], _ => rfl
  | x :: xs, h => by simp only [evalOs, h x (by simp), evalOs_congr (xs := xs) (fun y hy => h y (List.mem_cons_of_mem _ hy))]

theorem evalPs_congr {tm tm' : Tm} : ∀ {xs : List (Nat × Operand)}, (∀ x ∈ xs, evalO tm x.2 = evalO tm' x.2) → evalPs tm xs = evalPs tm' xs
  | [], _ => rfl
  | (i, x) :: xs, h => by simp only [evalPs, h (i, x) (by simp), evalPs_congr (xs := xs) (fun y hy => h y (List.mem_cons_of_mem _ hy))]

theorem optO_congr {tm tm' : Tm} {x : Option Operand} (h : ∀ y, x = some y → evalO tm y = evalO tm' y) : optO tm x = optO tm' x := by
  cases x with
  | none => rfl
  | some y => simp only [optO, h y rfl]

theorem doOp_congr {o : Orc H} {id : Nat} {tm tm' : Tm} {h : H} {c : Nat} {op : Op} (he : ∀ x ∈ op.operands.toList, evalO tm x = evalO tm' x) : doOp P o id tm h c op = doOp P o id tm' h c op := by
  cases op with
  | call k =>
    have h1 : evalOs tm k.args.toList = evalOs tm' k.args.toList := evalOs_congr fun x hx => he x (by
      simp only [Op.operands, Call.operands]; cases k.callee <;> simp <;> simp at hx <;> simp [hx])
    have h2 : ∀ f, k.callee = .value f → evalO tm f = evalO tm' f := fun f hf => he f (by simp [Op.operands, Call.operands, hf])
    simp only [doOp, h1]
    congr 1
    funext args
    cases hk : k.callee with
    | value f => simp only [h2 f hk]
    | _ => rfl
  | build t ps => simp only [doOp, evalPs_congr (tm := tm) (tm' := tm') (xs := ps.toList) (fun x hx => he x.2 (by simp only [Op.operands, List.toList_toArray, List.mem_map]; exact ⟨x, hx, rfl⟩))]
  | buildSlice t l ps => simp only [doOp, evalPs_congr (tm := tm) (tm' := tm') (xs := ps.toList) (fun x hx => he x.2 (by simp only [Op.operands, List.toList_toArray, List.mem_map]; exact ⟨x, hx, rfl⟩))]
  | makeFunc fn first cap =>
    simp only [doOp]
    rw [evalOs_congr (tm := tm) (tm' := tm') (xs := first.toList) (fun x hx => he x (by simp [Op.operands]; exact .inl (by simpa using hx))),
        evalOs_congr (tm := tm) (tm' := tm') (xs := cap.toList) (fun x hx => he x (by simp [Op.operands]; exact .inr (by simpa using hx)))]
  | makeMap t r =>
    cases r with
    | none => rfl
    | some x => simp only [doOp, he x (by simp [Op.operands])]
  | slice t x lo hi mx =>
    simp only [doOp]
    rw [he x (by simp [Op.operands]), optO_congr (tm := tm) (tm' := tm') (x := lo) (fun y hy => he y (by simp [Op.operands, hy])),
      optO_congr (tm := tm) (tm' := tm') (x := hi) (fun y hy => he y (by simp [Op.operands, hy])), optO_congr (tm := tm) (tm' := tm') (x := mx) (fun y hy => he y (by simp [Op.operands, hy]))]
  | move x => simp only [doOp, he x (by simp [Op.operands])]
  | assign x => simp only [doOp, he x (by simp [Op.operands])]
  | box _ x => simp only [doOp, he x (by simp [Op.operands])]
  | load _ x => simp only [doOp, he x (by simp [Op.operands])]
  | nilCheck x => simp only [doOp, he x (by simp [Op.operands])]
  | unOp _ _ x => simp only [doOp, he x (by simp [Op.operands])]
  | convert _ _ x => simp only [doOp, he x (by simp [Op.operands])]
  | sliceToArrayPointer _ x => simp only [doOp, he x (by simp [Op.operands])]
  | makeInterface _ x => simp only [doOp, he x (by simp [Op.operands])]
  | fieldAddr _ x _ => simp only [doOp, he x (by simp [Op.operands])]
  | field _ x _ => simp only [doOp, he x (by simp [Op.operands])]
  | extract x _ => simp only [doOp, he x (by simp [Op.operands])]
  | pick k x y => simp only [doOp, he k (by simp [Op.operands]), he x (by simp [Op.operands]), he y (by simp [Op.operands])]
  | store _ x y => simp only [doOp, he x (by simp [Op.operands]), he y (by simp [Op.operands])]
  | binOp _ _ x y _ => simp only [doOp, he x (by simp [Op.operands]), he y (by simp [Op.operands])]
  | makeSlice _ x y => simp only [doOp, he x (by simp [Op.operands]), he y (by simp [Op.operands])]
  | indexAddr _ x y => simp only [doOp, he x (by simp [Op.operands]), he y (by simp [Op.operands])]
  | index _ x y => simp only [doOp, he x (by simp [Op.operands]), he y (by simp [Op.operands])]
  | lookup _ x y _ => simp only [doOp, he x (by simp [Op.operands]), he y (by simp [Op.operands])]
  | mapUpdate _ m k v => simp only [doOp, he m (by simp [Op.operands]), he k (by simp [Op.operands]), he v (by simp [Op.operands])]
  | insert _ m k v => simp only [doOp, he m (by simp [Op.operands]), he k (by simp [Op.operands]), he v (by simp [Op.operands])]
  | _ => rfl

/-! ### Classes -/
variable {H' : Type} [HeapC H']

theorem ret1_iff {h : H} {c : Nat} {v : Option Value} {x : Value} {h1 : H} {c1 : Nat} : ret1 h c v = some (x, h1, c1) ↔ v = some x ∧ h1 = h ∧ c1 = c := by
  cases v with
  | none => simp [ret1]
  | some y => simp [ret1]; intro _; constructor <;> rintro ⟨a, b⟩ <;> exact ⟨a.symm, b.symm⟩

theorem doOp_P {o : Orc H} {id : Nat} {tm : Tm} {h h1 : H} {c c1 : Nat} {op : Op} {v : Value} (hc : cls op = 0) (e : doOp P o id tm h c op = some (v, h1, c1)) :
    h1 = h ∧ c1 = c ∧ ∀ (o' : Orc H') (h' : H') (c' : Nat), doOp P o' id tm h' c' op = some (v, h', c') := by
  cases op with
  | move x => simp only [doOp, ret1_iff] at e ⊢; exact ⟨e.2.1, e.2.2, fun _ _ _ => ⟨e.1, trivial, trivial⟩⟩
  | assign x => simp only [doOp, ret1_iff] at e ⊢; exact ⟨e.2.1, e.2.2, fun _ _ _ => ⟨e.1, trivial, trivial⟩⟩
  | pick k x y =>
    simp only [doOp, Option.bind_eq_some_iff] at e ⊢
    obtain ⟨kv, hk, xv, hx, yv, hy, e⟩ := e
    split at e
    · cases e; exact ⟨rfl, rfl, fun _ _ _ => ⟨_, hk, _, hx, _, hy, rfl⟩⟩
    · cases e
  | build t ps =>
    simp only [doOp, Option.bind_eq_some_iff, ret1_iff] at e ⊢
    obtain ⟨a, ha, e1, e2, e3⟩ := e
    exact ⟨e2, e3, fun _ _ _ => ⟨a, ha, e1, trivial, trivial⟩⟩
  | nilCheck x =>
    simp only [doOp, Option.bind_eq_some_iff, ret1_iff] at e ⊢
    obtain ⟨a, ha, e1, e2, e3⟩ := e
    exact ⟨e2, e3, fun _ _ _ => ⟨a, ha, e1, trivial, trivial⟩⟩
  | binOp bo t x y yt =>
    simp only [doOp, Option.bind_eq_some_iff, ret1_iff] at e ⊢
    obtain ⟨a, ha, b, hb, e1, e2, e3⟩ := e
    exact ⟨e2, e3, fun _ _ _ => ⟨a, ha, b, hb, e1, trivial, trivial⟩⟩
  | unOp u t x =>
    simp only [doOp, Option.bind_eq_some_iff, ret1_iff] at e ⊢
    obtain ⟨a, ha, e1, e2, e3⟩ := e
    exact ⟨e2, e3, fun _ _ _ => ⟨a, ha, e1, trivial, trivial⟩⟩
  | convert s d x =>
    simp only [doOp, Option.bind_eq_some_iff, ret1_iff] at e ⊢
    obtain ⟨b, hb, a, ha, e1, e2, e3⟩ := e
    exact ⟨e2, e3, fun _ _ _ => ⟨b, hb, a, ha, e1, trivial, trivial⟩⟩
  | sliceToArrayPointer t x =>
    simp only [doOp, Option.bind_eq_some_iff, ret1_iff] at e ⊢
    obtain ⟨a, ha, e1, e2, e3⟩ := e
    exact ⟨e2, e3, fun _ _ _ => ⟨a, ha, e1, trivial, trivial⟩⟩
  | makeInterface t x =>
    simp only [doOp, Option.bind_eq_some_iff] at e ⊢
    obtain ⟨a, ha, e⟩ := e
    split at e
    · cases e
    · cases e
    · cases e; exact ⟨rfl, rfl, fun _ _ _ => ⟨_, ha, rfl⟩⟩
  | makeFunc fn first cap =>
    cases fn with
    | func g =>
      simp only [doOp, Option.bind_eq_some_iff] at e ⊢
      obtain ⟨a, ha, b, hb, e⟩ := e
      cases e
      exact ⟨rfl, rfl, fun _ _ _ => ⟨a, ha, b, hb, rfl⟩⟩
    | _ => simp [doOp] at e
  | fieldAddr t x f =>
    simp only [doOp, Option.bind_eq_some_iff, ret1_iff] at e ⊢
    obtain ⟨a, ha, e1, e2, e3⟩ := e
    exact ⟨e2, e3, fun _ _ _ => ⟨a, ha, e1, trivial, trivial⟩⟩
  | field t x f =>
    simp only [doOp, Option.bind_eq_some_iff, ret1_iff] at e ⊢
    obtain ⟨a, ha, e1, e2, e3⟩ := e
    exact ⟨e2, e3, fun _ _ _ => ⟨a, ha, e1, trivial, trivial⟩⟩
  | indexAddr t x i =>
    simp only [doOp, Option.bind_eq_some_iff, ret1_iff] at e ⊢
    obtain ⟨a, ha, b, hb, e1, e2, e3⟩ := e
    exact ⟨e2, e3, fun _ _ _ => ⟨a, ha, b, hb, e1, trivial, trivial⟩⟩
  | index t x i =>
    simp only [doOp, Option.bind_eq_some_iff, ret1_iff] at e ⊢
    obtain ⟨a, ha, b, hb, e1, e2, e3⟩ := e
    exact ⟨e2, e3, fun _ _ _ => ⟨a, ha, b, hb, e1, trivial, trivial⟩⟩
  | extract t i =>
    simp only [doOp, Option.bind_eq_some_iff] at e ⊢
    obtain ⟨a, ha, e⟩ := e
    split at e
    · simp only [Option.bind_eq_some_iff] at e
      obtain ⟨x, hx, e⟩ := e
      cases e
      exact ⟨rfl, rfl, fun _ _ _ => ⟨_, ha, by simp [hx]⟩⟩
    · cases e
  | call k =>
    obtain ⟨callee, args, ats⟩ := k
    cases callee with
    | builtin b =>
      cases b with
      | max =>
        simp only [doOp, Option.bind_eq_some_iff, aBuiltin] at e ⊢
        obtain ⟨as, ha, r, ⟨u, hu, hr⟩, e⟩ := e
        cases hr; cases e
        exact ⟨rfl, rfl, fun _ _ _ => ⟨as, ha, _, ⟨u, hu, rfl⟩, rfl⟩⟩
      | min =>
        simp only [doOp, Option.bind_eq_some_iff, aBuiltin] at e ⊢
        obtain ⟨as, ha, r, ⟨u, hu, hr⟩, e⟩ := e
        cases hr; cases e
        exact ⟨rfl, rfl, fun _ _ _ => ⟨as, ha, _, ⟨u, hu, rfl⟩, rfl⟩⟩
      | _ => simp [cls] at hc
    | _ => simp [cls] at hc
  | _ => simp [cls] at hc

theorem getCells_congr {h : H} {h' : H'} {i : Nat} (e : HeapC.get h' i = HeapC.get h i) : getCells h' i = getCells h i := by simp only [getCells, e]

theorem doOp_L {o : Orc H} {id : Nat} {tm : Tm} {h h1 : H} {c c1 : Nat} {op : Op} {v : Value} (hc : cls op = 1) (e : doOp P o id tm h c op = some (v, h1, c1)) :
    h1 = h ∧ c1 = c ∧ ∀ (o' : Orc H') (h' : H') (c' : Nat), (∀ x, ridOf tm op = some x → HeapC.get h' x = HeapC.get h x) → doOp P o' id tm h' c' op = some (v, h', c') := by
  cases op with
  | load t x =>
    simp only [doOp, Option.bind_eq_some_iff, ret1_iff] at e ⊢
    obtain ⟨a, ha, e1, e2, e3⟩ := e
    refine ⟨e2, e3, fun _ h' _ hg => ⟨a, ha, ?_, trivial, trivial⟩⟩
    have hp : ∀ p : Nat × Nat, asPtr a = some p → getCells h' p.1 = getCells h p.1 := by
      intro p hp
      unfold asPtr at hp
      split at hp
      · cases hp; exact getCells_congr (hg _ (by simp [ridOf, ha, ridV]))
      · cases hp
    rw [← e1]
    simp only [aLoad, ldN, ld1]
    cases hp' : asPtr a with
    | none => rfl
    | some p => simp only [Option.bind_some, rdCells, rdCell, hp p hp']
  | lookup t m k ok =>
    simp only [doOp, Option.bind_eq_some_iff, ret1_iff] at e ⊢
    obtain ⟨mv, hm, kv, hk, e1, e2, e3⟩ := e
    refine ⟨e2, e3, fun _ h' _ hg => ⟨mv, hm, kv, hk, ?_, trivial, trivial⟩⟩
    rw [← e1]
    have hq : ∀ i, mv = .map (some i) → HeapC.get h' i = HeapC.get h i := fun i hi => hg i (by simp [ridOf, hm, ridV, hi])
    unfold aLookup
    congr 1
    funext ke
    congr 1
    congr 1
    funext z
    congr 1
    congr 1
    split
    · rfl
    · rename_i i
      rw [hq i rfl]
    · rfl
  | slice t x lo hi mx =>
    simp only [doOp, Option.bind_eq_some_iff, ret1_iff] at e ⊢
    obtain ⟨xv, hx, l, hl, hh, hhi, m, hm, e1, e2, e3⟩ := e
    refine ⟨e2, e3, fun _ h' _ hg => ⟨xv, hx, l, hl, hh, hhi, m, hm, ?_, trivial, trivial⟩⟩
    rw [← e1]
    have hq : ∀ a len cap sz, xv = .slice a len cap → szOk h' sz a = szOk h sz a := by
      intro a len cap sz ha
      cases a with
      | none => rfl
      | some a => simp only [szOk, hg a.block (by simp [ridOf, hx, ridV, ha])]
    unfold aSlice
    split
    · rfl
    · congr 1
      funext sz
      unfold slS
      split
      · rename_i a len cap
        rw [hq a len cap sz rfl]
      · rfl
    · rfl
    · rfl
  | call k =>
    obtain ⟨callee, args, ats⟩ := k
    cases callee with
    | builtin b =>
      cases b with
      | len =>
        simp only [doOp, Option.bind_eq_some_iff, aBuiltin] at e ⊢
        obtain ⟨as, ha, r, hr, e⟩ := e
        split at hr
        · rename_i t ts x xs hts
          simp only [Option.bind_eq_some_iff] at hr
          obtain ⟨u, hu, hr⟩ := hr
          cases hr; cases e
          refine ⟨rfl, rfl, fun _ h' _ hg => ⟨_, ha, (u, h'), ?_, rfl⟩⟩
          have hq : ∀ i, x = .map (some i) → HeapC.get h' i = HeapC.get h i := by
            intro i hi
            refine hg i ?_
            simp only [ridOf]
            cases hal : args.toList with
            | nil => rw [hal] at ha; simp [evalOs] at ha
            | cons y ys =>
              rw [hal] at ha
              simp only [evalOs, Option.bind_eq_some_iff] at ha
              obtain ⟨v0, h0, vs, _, h2⟩ := ha
              cases h2
              have : args[0]? = some y := by rw [← Array.getElem?_toList, hal]; rfl
              rw [this]
              simp only [Option.bind_some, h0, hi, ridV]
          rw [hts]
          simp only [Option.bind_eq_some_iff]
          refine ⟨u, ?_, rfl⟩
          rw [← hu]
          unfold aLen
          split
          · rfl
          · rfl
          · rfl
          · rfl
          · rename_i i _
            rw [hq _ rfl]
          · rfl
        · cases hr
      | _ => simp [cls] at hc
    | _ => simp [cls] at hc
  | _ => simp [cls] at hc

theorem doOp_A {o : Orc H} {id : Nat} {tm : Tm} {h h1 : H} {c c1 : Nat} {op : Op} {v : Value} (hc : cls op = 2) (e : doOp P o id tm h c op = some (v, h1, c1)) :
    c1 = c ∧ ∃ b, h1 = HeapC.set h id b ∧ wrB (some b) = true ∧ ∀ (o' : Orc H') (h' : H') (c' : Nat), doOp P o' id tm h' c' op = some (v, HeapC.set h' id b, c') := by
  cases op with
  | alloc t =>
    simp only [doOp, Option.bind_eq_some_iff] at e ⊢
    obtain ⟨z, hz, e⟩ := e
    obtain ⟨hp, e1⟩ := cond_some e
    cases e1
    exact ⟨rfl, _, rfl, rfl, fun _ _ _ => ⟨z, hz, by rw [hp]; rfl⟩⟩
  | box t x =>
    simp only [doOp, Option.bind_eq_some_iff] at e ⊢
    obtain ⟨z, hz, e⟩ := e
    obtain ⟨hp, e1⟩ := cond_some e
    cases e1
    exact ⟨rfl, _, rfl, rfl, fun _ _ _ => ⟨z, hz, by rw [hp]; rfl⟩⟩
  | buildSlice t len ps =>
    simp only [doOp, Option.bind_eq_some_iff] at e ⊢
    obtain ⟨vs, hvs, cs, hcs, e⟩ := e
    cases e
    exact ⟨rfl, _, rfl, rfl, fun _ _ _ => ⟨vs, hvs, cs, hcs, rfl⟩⟩
  | makeMap t r =>
    cases r with
    | none =>
      simp only [doOp] at e ⊢
      cases e
      exact ⟨rfl, _, rfl, rfl, fun _ _ _ => rfl⟩
    | some x =>
      simp only [doOp, Option.bind_eq_some_iff] at e ⊢
      obtain ⟨ke, hke, v, hv, n, hn, e⟩ := e
      cases e
      exact ⟨rfl, _, rfl, rfl, fun _ _ _ => ⟨ke, hke, v, hv, n, hn, rfl⟩⟩
  | makeSlice t l k =>
    simp only [doOp, Option.bind_eq_some_iff] at e ⊢
    obtain ⟨lv, hl, kv, hk, r, hr, e⟩ := e
    cases e
    exact ⟨rfl, _, rfl, rfl, fun _ _ _ => ⟨lv, hl, kv, hk, r, hr, rfl⟩⟩
  | call k =>
    obtain ⟨callee, args, ats⟩ := k
    cases callee with
    | builtin b => cases b <;> simp [cls] at hc
    | _ => simp [cls] at hc
  | _ => simp [cls] at hc

/-! ### Guards -/
theorem wantedA_sim {ops : Array Oper} {tm : Tm} {a : Act} {o : Oper} {b : Bool} (e : wantedA ops tm o = some b)
    (ht : ∀ j want d v, o.guard = some (j, want) → (ops[j]?).bind (·.dst) = some d → tm d = some v → ∃ v', a.tmps[d]? = some v' ∧ ∃ μ, VR μ v v') :
    Region.wanted o (yielded ops a.tmps) = b := by
  unfold wantedA at e
  unfold Region.wanted
  cases hg : o.guard with
  | none => rw [hg] at e; simpa using e
  | some p =>
    obtain ⟨j, want⟩ := p
    rw [hg] at e
    simp only [Option.bind_eq_some_iff] at e
    obtain ⟨d, ⟨oo, hoo, hd⟩, v, hv, e⟩ := e
    have hd' : (ops[j]?).bind (·.dst) = some d := by rw [hoo]; simpa using hd
    obtain ⟨v', h1, μ, h2⟩ := ht j want d v hg hd' hv
    simp only [yielded, hd', Option.bind_some, h1]
    cases h2 <;> simp at e ⊢ <;> first | exact e | (subst e; simp)

end Go.Ab
