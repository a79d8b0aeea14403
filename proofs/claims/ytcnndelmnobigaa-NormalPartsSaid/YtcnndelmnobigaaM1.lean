/- Parts of a proof: AbSup AbReg AbCan AbDraw AbDrawW AbRegion AbExec AbOrc AbMono AbShal AbGen AbEv AbCps AbJx AbPrim. Conditions: none. -/
import Derived.Test.YtcnndelmnobigaaM0
import Derived.LoopNIn
set_option linter.all false
namespace Go.Ab
open Go
set_option linter.unusedVariables false
set_option linter.unusedSimpArgs false
set_option linter.unusedSectionVars false
variable {H : Type} [HeapC H] {P : Program} {μ : Mu} {A : H} {w : World}
open Classical in
noncomputable def Mu.on (μ : Mu) (D : Nat → Prop) : Mu := fun i => if D i then μ i else none
theorem Mu.on_some {D : Nat → Prop} {i : Nat} {m : ME} (h : μ.on D i = some m) : D i ∧ μ i = some m := by
  unfold Mu.on at h
  split at h
  · rename_i hd; exact ⟨hd, h⟩
  · cases h
theorem Mu.on_of {D : Nat → Prop} {i : Nat} (h : D i) : μ.on D i = μ i := by simp [Mu.on, h]
theorem Mu.on_not {D : Nat → Prop} {i : Nat} (h : ¬ D i) : μ.on D i = none := by simp [Mu.on, h]
theorem VR.on {ν : Mu} {D : Nat → Prop} (hD : ∀ i, ν i ≠ none → D i) {v v' : Value} (h : VR μ v v') : ∀ {v'' : Value}, VR ν v v'' → VR (μ.on D) v v' := by
  have hd : ∀ {i : Nat} {m : ME}, ν i = some m → D i := fun e => hD _ (by rw [e]; simp)
  induction h with
  | bool b => intro _ _; exact .bool b
  | int k n => intro _ _; exact .int k n
  | str s => intro _ _; exact .str s
  | ptr0 => intro _ _; exact .ptr0
  | ptr h => intro _ g; cases g with | ptr g => exact .ptr (by rw [Mu.on_of (hd g)]; exact h)
  | sl0 l c => intro _ _; exact .sl0 l c
  | sl h hc hz => intro _ g; cases g with
    | sl g _ _ => exact .sl (by rw [Mu.on_of (hd g)]; exact h) hc hz
    | slE g => exact .sl (by rw [Mu.on_of (hd g)]; exact h) hc hz
  | slE h => intro _ g; cases g with
    | sl g _ _ => exact .slE (by rw [Mu.on_of (hd g)]; exact h)
    | slE g => exact .slE (by rw [Mu.on_of (hd g)]; exact h)
  | map0 => intro _ _; exact .map0
  | map h => intro _ g; cases g with | map g => exact .map (by rw [Mu.on_of (hd g)]; exact h)
  | nilFunc => intro _ _; exact .nilFunc
  | nilIface => intro _ _; exact .nilIface
  | iface t _ ih => intro _ g; cases g with | iface _ g => exact .iface t (ih g)
  | agg hs _ ih => intro _ g; cases g with
    | @agg _ zs hs' g => exact .agg hs (fun k x y hx hy => by
        have hl : k < zs.size := by have := (Array.getElem?_eq_some_iff.1 hx).1; omega
        exact ih k x y hx hy (g k x zs[k] hx (Array.getElem?_eq_getElem hl)))
  | tuple hs _ ih => intro _ g; cases g with
    | @tuple _ zs hs' g => exact .tuple hs (fun k x y hx hy => by
        have hl : k < zs.size := by have := (Array.getElem?_eq_some_iff.1 hx).1; omega
        exact ih k x y hx hy (g k x zs[k] hx (Array.getElem?_eq_getElem hl)))
  | fnc f ha hb _ _ ih1 ih2 => intro _ g; cases g with
    | @fnc _ _ zs _ zs' g1 g2 g3 g4 =>
      refine VR.fnc f ha hb (fun k x y hx hy => ?_) (fun k x y hx hy => ?_)
      · have hl : k < zs.size := by have := (Array.getElem?_eq_some_iff.1 hx).1; omega
        exact ih1 k x y hx hy (g3 k x zs[k] hx (Array.getElem?_eq_getElem hl))
      · have hl : k < zs'.size := by have := (Array.getElem?_eq_some_iff.1 hx).1; omega
        exact ih2 k x y hx hy (g4 k x zs'[k] hx (Array.getElem?_eq_getElem hl))
  | yield h => intro _ g; cases g with | yield g => exact .yield (by rw [Mu.on_of (hd g)]; exact h)
def Sup (D : Nat → Prop) (v : Value) : Prop := ∃ ν v', VR ν v v' ∧ ∀ i, ν i ≠ none → D i
theorem Sup.mono {D D' : Nat → Prop} (h : ∀ i, D i → D' i) {v : Value} (hs : Sup D v) : Sup D' v :=
  let ⟨ν, v', a, b⟩ := hs; ⟨ν, v', a, fun i e => h i (b i e)⟩
theorem VR.onS {D : Nat → Prop} {v v' : Value} (h : VR μ v v') (hs : Sup D v) : VR (μ.on D) v v' :=
  let ⟨_, _, a, b⟩ := hs; h.on b a
def BlkSup (D : Nat → Prop) (b : Option ABlk) : Prop := ∃ ν m h, BlkR ν m h b ∧ ∀ i, ν i ≠ none → D i
theorem BlkR.onS {D : Nat → Prop} {m : ME} {h : Array Obj} {b : Option ABlk} (hb : BlkR μ m h b) (hs : BlkSup D b) : BlkR (μ.on D) m h b := by
  obtain ⟨ν, m', h', hb', hD⟩ := hs
  unfold BlkR at hb hb' ⊢
  split at hb
  · rename_i ro opn c
    obtain ⟨C, E, fr, h1, h2, h3, h4⟩ := hb
    obtain ⟨C', E', fr', g1, g2, g3, g4⟩ := hb'
    refine ⟨C, E, fr, h1, fun k x hx => ?_, h3, h4⟩
    obtain ⟨y, h5, h6⟩ := h2 k x hx
    obtain ⟨y', g5, g6⟩ := g2 k x hx
    exact ⟨y, h5, h6.on hD g6⟩
  · rename_i es
    obtain ⟨es', clk, h1, h2, h3⟩ := hb
    obtain ⟨fs, clk', g1, g2, g3⟩ := hb'
    refine ⟨es', clk, h1, h2, fun k x y hx hy => ?_⟩
    have hl : k < fs.toList.length := by have := (List.getElem?_eq_some_iff.1 hx).1; omega
    have a := h3 k x y hx hy
    have b := g3 k x fs.toList[k] hx (List.getElem?_eq_getElem hl)
    exact ⟨a.1.on hD b.1, a.2.on hD b.2⟩
  · rename_i a
    obtain ⟨r, h1, h2⟩ := hb
    obtain ⟨r', g1, g2⟩ := hb'
    refine ⟨r, h1, ⟨h2.state, h2.pending, h2.params, h2.assign, h2.body, h2.size, fun t v e => ?_, ?_⟩⟩
    · obtain ⟨v', h3, h4⟩ := h2.vals t v e
      obtain ⟨v'', g3, g4⟩ := g2.vals t v e
      exact ⟨v', h3, h4.on hD g4⟩
    · obtain ⟨m1, h3, h4⟩ := h2.dfr
      obtain ⟨m2, g3, g4⟩ := g2.dfr
      exact ⟨m1, by rw [Mu.on_of (hD _ (by rw [g3]; simp))]; exact h3, h4⟩
  · exact hb
  · trivial
  · trivial
theorem evalO_congr {tm tm' : Tm} {x : Operand} (h : ∀ t, x = .tmp t → tm t = tm' t) : evalO tm x = evalO tm' x := by
  cases x with
  | tmp t => exact h t rfl
  | _ => rfl
theorem evalOs_congr {tm tm' : Tm} : ∀ {xs : List Operand}, (∀ x ∈ xs, evalO tm x = evalO tm' x) → evalOs tm xs = evalOs tm' xs
  | [], _ => rfl
  | x :: xs, h => by simp only [evalOs, h x (by simp), evalOs_congr (xs := xs) (fun y hy => h y (List.mem_cons_of_mem _ hy))]
theorem evalPs_congr {tm tm' : Tm} : ∀ {xs : List (Nat × Operand)}, (∀ x ∈ xs, evalO tm x.2 = evalO tm' x.2) → evalPs tm xs = evalPs tm' xs
  | [], _ => rfl
  | (i, x) :: xs, h => by simp only [evalPs, h (i, x) (by simp), evalPs_congr (xs := xs) (fun y hy => h y (List.mem_cons_of_mem _ hy))]
theorem optO_congr {tm tm' : Tm} {x : Option Operand} (h : ∀ y, x = some y → evalO tm y = evalO tm' y) : optO tm x = optO tm' x := by
  cases x with
  | none => rfl
  | some y => simp only [optO, h y rfl]
theorem doOp_congr {o : Orc H} {id : Nat} {tm tm' : Tm} {h : H} {c : Nat} {op : Op} (he : ∀ x ∈ op.operands.toList, evalO tm x = evalO tm' x) : doOp P o id tm h c op = doOp P o id tm' h c op := by
  cases op with
  | call k =>
    have h1 : evalOs tm k.args.toList = evalOs tm' k.args.toList := evalOs_congr fun x hx => he x (by
      simp only [Op.operands, Call.operands]; cases k.callee <;> simp <;> simp at hx <;> simp [hx])
    have h2 : ∀ f, k.callee = .value f → evalO tm f = evalO tm' f := fun f hf => he f (by simp [Op.operands, Call.operands, hf])
    simp only [doOp, h1]
    congr 1
    funext args
    cases hk : k.callee with
    | value f => simp only [h2 f hk]
    | _ => rfl
  | build t ps => simp only [doOp, evalPs_congr (tm := tm) (tm' := tm') (xs := ps.toList) (fun x hx => he x.2 (by simp only [Op.operands, List.toList_toArray, List.mem_map]; exact ⟨x, hx, rfl⟩))]
  | buildSlice t l ps => simp only [doOp, evalPs_congr (tm := tm) (tm' := tm') (xs := ps.toList) (fun x hx => he x.2 (by simp only [Op.operands, List.toList_toArray, List.mem_map]; exact ⟨x, hx, rfl⟩))]
  | makeFunc fn first cap =>
    simp only [doOp]
    rw [evalOs_congr (tm := tm) (tm' := tm') (xs := first.toList) (fun x hx => he x (by simp [Op.operands]; exact .inl (by simpa using hx))),
        evalOs_congr (tm := tm) (tm' := tm') (xs := cap.toList) (fun x hx => he x (by simp [Op.operands]; exact .inr (by simpa using hx)))]
  | makeMap t r =>
    cases r with
    | none => rfl
    | some x => simp only [doOp, he x (by simp [Op.operands])]
  | slice t x lo hi mx =>
    simp only [doOp]
    rw [he x (by simp [Op.operands]), optO_congr (tm := tm) (tm' := tm') (x := lo) (fun y hy => he y (by simp [Op.operands, hy])),
      optO_congr (tm := tm) (tm' := tm') (x := hi) (fun y hy => he y (by simp [Op.operands, hy])), optO_congr (tm := tm) (tm' := tm') (x := mx) (fun y hy => he y (by simp [Op.operands, hy]))]
  | move x => simp only [doOp, he x (by simp [Op.operands])]
  | assign x => simp only [doOp, he x (by simp [Op.operands])]
  | box _ x => simp only [doOp, he x (by simp [Op.operands])]
  | load _ x => simp only [doOp, he x (by simp [Op.operands])]
  | nilCheck x => simp only [doOp, he x (by simp [Op.operands])]
  | unOp _ _ x => simp only [doOp, he x (by simp [Op.operands])]
  | convert _ _ x => simp only [doOp, he x (by simp [Op.operands])]
  | sliceToArrayPointer _ x => simp only [doOp, he x (by simp [Op.operands])]
  | makeInterface _ x => simp only [doOp, he x (by simp [Op.operands])]
  | fieldAddr _ x _ => simp only [doOp, he x (by simp [Op.operands])]
  | field _ x _ => simp only [doOp, he x (by simp [Op.operands])]
  | extract x _ => simp only [doOp, he x (by simp [Op.operands])]
  | pick k x y => simp only [doOp, he k (by simp [Op.operands]), he x (by simp [Op.operands]), he y (by simp [Op.operands])]
  | store _ x y => simp only [doOp, he x (by simp [Op.operands]), he y (by simp [Op.operands])]
  | binOp _ _ x y _ => simp only [doOp, he x (by simp [Op.operands]), he y (by simp [Op.operands])]
  | makeSlice _ x y => simp only [doOp, he x (by simp [Op.operands]), he y (by simp [Op.operands])]
  | indexAddr _ x y => simp only [doOp, he x (by simp [Op.operands]), he y (by simp [Op.operands])]
  | index _ x y => simp only [doOp, he x (by simp [Op.operands]), he y (by simp [Op.operands])]
  | lookup _ x y _ => simp only [doOp, he x (by simp [Op.operands]), he y (by simp [Op.operands])]
  | mapUpdate _ m k v => simp only [doOp, he m (by simp [Op.operands]), he k (by simp [Op.operands]), he v (by simp [Op.operands])]
  | insert _ m k v => simp only [doOp, he m (by simp [Op.operands]), he k (by simp [Op.operands]), he v (by simp [Op.operands])]
  | _ => rfl
variable {H' : Type} [HeapC H']
theorem ret1_iff {h : H} {c : Nat} {v : Option Value} {x : Value} {h1 : H} {c1 : Nat} : ret1 h c v = some (x, h1, c1) ↔ v = some x ∧ h1 = h ∧ c1 = c := by
  cases v with
  | none => simp [ret1]
  | some y => simp [ret1]; intro _; constructor <;> rintro ⟨a, b⟩ <;> exact ⟨a.symm, b.symm⟩
theorem doOp_P {o : Orc H} {id : Nat} {tm : Tm} {h h1 : H} {c c1 : Nat} {op : Op} {v : Value} (hc : cls op = 0) (e : doOp P o id tm h c op = some (v, h1, c1)) :
    h1 = h ∧ c1 = c ∧ ∀ (o' : Orc H') (h' : H') (c' : Nat), doOp P o' id tm h' c' op = some (v, h', c') := by
  cases op with
  | move x => simp only [doOp, ret1_iff] at e ⊢; exact ⟨e.2.1, e.2.2, fun _ _ _ => ⟨e.1, trivial, trivial⟩⟩
  | assign x => simp only [doOp, ret1_iff] at e ⊢; exact ⟨e.2.1, e.2.2, fun _ _ _ => ⟨e.1, trivial, trivial⟩⟩
  | pick k x y =>
    simp only [doOp, Option.bind_eq_some_iff] at e ⊢
    obtain ⟨kv, hk, xv, hx, yv, hy, e⟩ := e
    split at e
    · cases e; exact ⟨rfl, rfl, fun _ _ _ => ⟨_, hk, _, hx, _, hy, rfl⟩⟩
    · cases e
  | build t ps =>
    simp only [doOp, Option.bind_eq_some_iff, ret1_iff] at e ⊢
    obtain ⟨a, ha, e1, e2, e3⟩ := e
    exact ⟨e2, e3, fun _ _ _ => ⟨a, ha, e1, trivial, trivial⟩⟩
  | nilCheck x =>
    simp only [doOp, Option.bind_eq_some_iff, ret1_iff] at e ⊢
    obtain ⟨a, ha, e1, e2, e3⟩ := e
    exact ⟨e2, e3, fun _ _ _ => ⟨a, ha, e1, trivial, trivial⟩⟩
  | binOp bo t x y yt =>
    simp only [doOp, Option.bind_eq_some_iff, ret1_iff] at e ⊢
    obtain ⟨a, ha, b, hb, e1, e2, e3⟩ := e
    exact ⟨e2, e3, fun _ _ _ => ⟨a, ha, b, hb, e1, trivial, trivial⟩⟩
  | unOp u t x =>
    simp only [doOp, Option.bind_eq_some_iff, ret1_iff] at e ⊢
    obtain ⟨a, ha, e1, e2, e3⟩ := e
    exact ⟨e2, e3, fun _ _ _ => ⟨a, ha, e1, trivial, trivial⟩⟩
  | convert s d x =>
    simp only [doOp, Option.bind_eq_some_iff, ret1_iff] at e ⊢
    obtain ⟨b, hb, a, ha, e1, e2, e3⟩ := e
    exact ⟨e2, e3, fun _ _ _ => ⟨b, hb, a, ha, e1, trivial, trivial⟩⟩
  | sliceToArrayPointer t x =>
    simp only [doOp, Option.bind_eq_some_iff, ret1_iff] at e ⊢
    obtain ⟨a, ha, e1, e2, e3⟩ := e
    exact ⟨e2, e3, fun _ _ _ => ⟨a, ha, e1, trivial, trivial⟩⟩
  | makeInterface t x =>
    simp only [doOp, Option.bind_eq_some_iff] at e ⊢
    obtain ⟨a, ha, e⟩ := e
    split at e
    · cases e
    · cases e
    · cases e; exact ⟨rfl, rfl, fun _ _ _ => ⟨_, ha, rfl⟩⟩
  | makeFunc fn first cap =>
    cases fn with
    | func g =>
      simp only [doOp, Option.bind_eq_some_iff] at e ⊢
      obtain ⟨a, ha, b, hb, e⟩ := e
      cases e
      exact ⟨rfl, rfl, fun _ _ _ => ⟨a, ha, b, hb, rfl⟩⟩
    | _ => simp [doOp] at e
  | fieldAddr t x f =>
    simp only [doOp, Option.bind_eq_some_iff, ret1_iff] at e ⊢
    obtain ⟨a, ha, e1, e2, e3⟩ := e
    exact ⟨e2, e3, fun _ _ _ => ⟨a, ha, e1, trivial, trivial⟩⟩
  | field t x f =>
    simp only [doOp, Option.bind_eq_some_iff, ret1_iff] at e ⊢
    obtain ⟨a, ha, e1, e2, e3⟩ := e
    exact ⟨e2, e3, fun _ _ _ => ⟨a, ha, e1, trivial, trivial⟩⟩
  | indexAddr t x i =>
    simp only [doOp, Option.bind_eq_some_iff, ret1_iff] at e ⊢
    obtain ⟨a, ha, b, hb, e1, e2, e3⟩ := e
    exact ⟨e2, e3, fun _ _ _ => ⟨a, ha, b, hb, e1, trivial, trivial⟩⟩
  | index t x i =>
    simp only [doOp, Option.bind_eq_some_iff, ret1_iff] at e ⊢
    obtain ⟨a, ha, b, hb, e1, e2, e3⟩ := e
    exact ⟨e2, e3, fun _ _ _ => ⟨a, ha, b, hb, e1, trivial, trivial⟩⟩
  | extract t i =>
    simp only [doOp, Option.bind_eq_some_iff] at e ⊢
    obtain ⟨a, ha, e⟩ := e
    split at e
    · simp only [Option.bind_eq_some_iff] at e
      obtain ⟨x, hx, e⟩ := e
      cases e
      exact ⟨rfl, rfl, fun _ _ _ => ⟨_, ha, by simp [hx]⟩⟩
    · cases e
  | call k =>
    obtain ⟨callee, args, ats⟩ := k
    cases callee with
    | builtin b =>
      cases b with
      | max =>
        simp only [doOp, Option.bind_eq_some_iff, aBuiltin] at e ⊢
        obtain ⟨avs, ha, r, ⟨u, hu, hr⟩, e⟩ := e
        cases hr; cases e
        exact ⟨rfl, rfl, fun _ _ _ => ⟨avs, ha, _, ⟨u, hu, rfl⟩, rfl⟩⟩
      | min =>
        simp only [doOp, Option.bind_eq_some_iff, aBuiltin] at e ⊢
        obtain ⟨avs, ha, r, ⟨u, hu, hr⟩, e⟩ := e
        cases hr; cases e
        exact ⟨rfl, rfl, fun _ _ _ => ⟨avs, ha, _, ⟨u, hu, rfl⟩, rfl⟩⟩
      | _ => simp [cls] at hc
    | _ => simp [cls] at hc
  | _ => simp [cls] at hc
theorem getCells_congr {h : H} {h' : H'} {i : Nat} (e : HeapC.get h' i = HeapC.get h i) : getCells h' i = getCells h i := by simp only [getCells, e]
theorem doOp_L {o : Orc H} {id : Nat} {tm : Tm} {h h1 : H} {c c1 : Nat} {op : Op} {v : Value} (hc : cls op = 1) (e : doOp P o id tm h c op = some (v, h1, c1)) :
    h1 = h ∧ c1 = c ∧ ∀ (o' : Orc H') (h' : H') (c' : Nat), (∀ x, ridOf tm op = some x → HeapC.get h' x = HeapC.get h x) → doOp P o' id tm h' c' op = some (v, h', c') := by
  cases op with
  | load t x =>
    simp only [doOp, Option.bind_eq_some_iff, ret1_iff] at e ⊢
    obtain ⟨a, ha, e1, e2, e3⟩ := e
    refine ⟨e2, e3, fun _ h' _ hg => ⟨a, ha, ?_, trivial, trivial⟩⟩
    have hp : ∀ p : Nat × Nat, asPtr a = some p → getCells h' p.1 = getCells h p.1 := by
      intro p hp
      unfold asPtr at hp
      split at hp
      · cases hp; exact getCells_congr (hg _ (by simp [ridOf, ha, ridV]))
      · cases hp
    rw [← e1]
    simp only [aLoad, ldN, ld1]
    cases hp' : asPtr a with
    | none => rfl
    | some p => simp only [Option.bind_some, rdCells, rdCell, hp p hp']
  | lookup t m k ok =>
    simp only [doOp, Option.bind_eq_some_iff, ret1_iff] at e ⊢
    obtain ⟨mv, hm, kv, hk, e1, e2, e3⟩ := e
    refine ⟨e2, e3, fun _ h' _ hg => ⟨mv, hm, kv, hk, ?_, trivial, trivial⟩⟩
    rw [← e1]
    have hq : ∀ i, mv = .map (some i) → HeapC.get h' i = HeapC.get h i := fun i hi => hg i (by simp [ridOf, hm, ridV, hi])
    unfold aLookup
    congr 1
    funext ke
    congr 1
    congr 1
    funext z
    congr 1
    congr 1
    split
    · rfl
    · rename_i i
      rw [hq i rfl]
    · rfl
  | slice t x lo hi mx =>
    simp only [doOp, Option.bind_eq_some_iff, ret1_iff] at e ⊢
    obtain ⟨xv, hx, l, hl, hh, hhi, m, hm, e1, e2, e3⟩ := e
    refine ⟨e2, e3, fun _ h' _ hg => ⟨xv, hx, l, hl, hh, hhi, m, hm, ?_, trivial, trivial⟩⟩
    rw [← e1]
    have hq : ∀ a len cap sz, xv = .slice a len cap → szOk h' sz a = szOk h sz a := by
      intro a len cap sz ha
      cases a with
      | none => rfl
      | some a => simp only [szOk, hg a.block (by simp [ridOf, hx, ridV, ha])]
    unfold aSlice
    split
    · rfl
    · congr 1
      funext sz
      unfold slS
      split
      · rename_i a len cap
        rw [hq a len cap sz rfl]
      · rfl
    · rfl
    · rfl
  | call k =>
    obtain ⟨callee, args, ats⟩ := k
    cases callee with
    | builtin b =>
      cases b with
      | len =>
        simp only [doOp, Option.bind_eq_some_iff, aBuiltin] at e ⊢
        obtain ⟨avs, ha, r, hr, e⟩ := e
        split at hr
        · rename_i t ts x xs hts
          simp only [Option.bind_eq_some_iff] at hr
          obtain ⟨u, hu, hr⟩ := hr
          cases hr; cases e
          refine ⟨rfl, rfl, fun _ h' _ hg => ⟨_, ha, (u, h'), ?_, rfl⟩⟩
          have hq : ∀ i, x = .map (some i) → HeapC.get h' i = HeapC.get h i := by
            intro i hi
            refine hg i ?_
            simp only [ridOf]
            cases hal : args.toList with
            | nil => rw [hal] at ha; simp [evalOs] at ha
            | cons y ys =>
              rw [hal] at ha
              simp only [evalOs, Option.bind_eq_some_iff] at ha
              obtain ⟨v0, h0, vs, _, h2⟩ := ha
              cases h2
              have : args[0]? = some y := by rw [← Array.getElem?_toList, hal]; rfl
              rw [this]
              simp only [Option.bind_some, h0, hi, ridV]
          rw [hts]
          simp only [Option.bind_eq_some_iff]
          refine ⟨u, ?_, rfl⟩
          rw [← hu]
          unfold aLen
          split
          · rfl
          · rfl
          · rfl
          · rfl
          · rename_i i _
            rw [hq _ rfl]
          · rfl
        · cases hr
      | _ => simp [cls] at hc
    | _ => simp [cls] at hc
  | _ => simp [cls] at hc
theorem doOp_A {o : Orc H} {id : Nat} {tm : Tm} {h h1 : H} {c c1 : Nat} {op : Op} {v : Value} (hc : cls op = 2) (e : doOp P o id tm h c op = some (v, h1, c1)) :
    c1 = c ∧ ∃ b, h1 = HeapC.set h id b ∧ wrB (some b) = true ∧ ∀ (o' : Orc H') (h' : H') (c' : Nat), doOp P o' id tm h' c' op = some (v, HeapC.set h' id b, c') := by
  cases op with
  | alloc t =>
    simp only [doOp, Option.bind_eq_some_iff] at e ⊢
    obtain ⟨z, hz, e⟩ := e
    obtain ⟨hp, e1⟩ := cond_some e
    cases e1
    exact ⟨rfl, _, rfl, rfl, fun _ _ _ => ⟨z, hz, by rw [hp]; rfl⟩⟩
  | box t x =>
    simp only [doOp, Option.bind_eq_some_iff] at e ⊢
    obtain ⟨z, hz, e⟩ := e
    obtain ⟨hp, e1⟩ := cond_some e
    cases e1
    exact ⟨rfl, _, rfl, rfl, fun _ _ _ => ⟨z, hz, by rw [hp]; rfl⟩⟩
  | buildSlice t len ps =>
    simp only [doOp, Option.bind_eq_some_iff] at e ⊢
    obtain ⟨vs, hvs, cs, hcs, e⟩ := e
    cases e
    exact ⟨rfl, _, rfl, rfl, fun _ _ _ => ⟨vs, hvs, cs, hcs, rfl⟩⟩
  | makeMap t r =>
    cases r with
    | none =>
      simp only [doOp] at e ⊢
      cases e
      exact ⟨rfl, _, rfl, rfl, fun _ _ _ => rfl⟩
    | some x =>
      simp only [doOp, Option.bind_eq_some_iff] at e ⊢
      obtain ⟨ke, hke, v, hv, n, hn, e⟩ := e
      cases e
      exact ⟨rfl, _, rfl, rfl, fun _ _ _ => ⟨ke, hke, v, hv, n, hn, rfl⟩⟩
  | makeSlice t l k =>
    simp only [doOp, Option.bind_eq_some_iff] at e ⊢
    obtain ⟨lv, hl, kv, hk, r, hr, e⟩ := e
    cases e
    exact ⟨rfl, _, rfl, rfl, fun _ _ _ => ⟨lv, hl, kv, hk, r, hr, rfl⟩⟩
  | call k =>
    obtain ⟨callee, args, ats⟩ := k
    cases callee with
    | builtin b => cases b <;> simp [cls] at hc
    | _ => simp [cls] at hc
  | _ => simp [cls] at hc
theorem wantedA_sim {ops : Array Oper} {tm : Tm} {a : Act} {o : Oper} {b : Bool} (e : wantedA ops tm o = some b)
    (ht : ∀ j want d v, o.guard = some (j, want) → (ops[j]?).bind (·.dst) = some d → tm d = some v → ∃ v', a.tmps[d]? = some v' ∧ ∃ μ, VR μ v v') :
    Region.wanted o (yielded ops a.tmps) = b := by
  unfold wantedA at e
  unfold Region.wanted
  cases hg : o.guard with
  | none => rw [hg] at e; simpa using e
  | some p =>
    obtain ⟨j, want⟩ := p
    rw [hg] at e
    simp only [Option.bind_eq_some_iff] at e
    obtain ⟨d, ⟨oo, hoo, hd⟩, v, hv, e⟩ := e
    have hd' : (ops[j]?).bind (·.dst) = some d := by rw [hoo]; simpa using hd
    obtain ⟨v', h1, μ, h2⟩ := ht j want d v hg hd' hv
    simp only [yielded, hd', Option.bind_some, h1]
    cases h2 <;> simp at e ⊢ <;> first | exact e | (subst e; simp)
end Go.Ab

namespace Go.Ab
open Go
set_option linter.unusedVariables false
set_option linter.unusedSimpArgs false
set_option linter.unusedSectionVars false
variable {H : Type} [HeapC H] {P : Program} {μ : Mu} {A : H} {w : World}
theorem stepOp_some {o : Orc H} {ops : Array Oper} {base i nt : Nat} {tm : Tm} {h : H} {c : Nat} {op : Oper} {r : Value × H × Nat} (e : stepOp P o ops base i nt tm h c op = some r) :
    ∃ b, wantedA ops tm op = some b ∧ i < 256 ∧ (∀ d, op.dst = some d → d < nt) ∧ ((b = true ∧ doOp P o (256 * base + i) tm h c op.op = some r) ∨ (b = false ∧ r = (undef, h, c))) := by
  simp only [stepOp, Option.bind_eq_some_iff] at e
  obtain ⟨b, hb, e⟩ := e
  obtain ⟨hg, e1⟩ := cond_some e
  clear e
  simp only [Bool.and_eq_true] at hg
  refine ⟨b, hb, by have := hg.1; simp [Nat.blt] at this; omega, fun d hd => ?_, ?_⟩
  · have := hg.2
    rw [hd] at this
    have h2 : Nat.ble (d + 1) nt = true := this
    exact Nat.le_of_ble_eq_true h2
  · cases b
    · exact .inr ⟨rfl, by cases e1; rfl⟩
    · exact .inl ⟨rfl, e1⟩
theorem VR.undef (μ : Mu) : VR μ Go.undef Go.undef := VR.tuple_iff.2 (VRs.nil μ)
theorem step_wp {o : Orc H} (hO : OS P o) {ops : Array Oper} {base i nt c c' : Nat} {tm : Tm} {oper : Oper} {v : Value} {A' : H} {a : Act} (hi : ops[i]? = some oper)
    (e : stepOp P o ops base i nt tm A c oper = some (v, A', c')) (ht : TmR μ tm nt a.tmps) (hR : R μ A w) (hid : μ (256 * base + i) = none) (hfr : Fresh μ c)
    {ro : Option Nat} {n : Nat} {K : Act → World → Prop} {Q : Exit → Act → World → Prop}
    (hK : ∀ v' μ' w', VR μ' v v' → Ext μ A c w (fun j => j = 256 * base + i ∧ 2 ≤ cls oper.op ∧ wantedA ops tm oper = some true) μ' A' c' w' → K (a.put oper.dst v') w') : wpOpIn (wd ro) n P ops Q i K a w := by
  obtain ⟨b, hb, hlt, hd, he⟩ := stepOp_some e
  have hw := wantedA_sim (a := a) hb (fun j want d v' _ _ hv => let ⟨v'', h1, h2⟩ := ht.val d v' hv; ⟨v'', h1, μ, h2⟩)
  simp only [wpOpIn, hi, hw]
  rcases he with ⟨rfl, he⟩ | ⟨rfl, he⟩
  · simp only [if_true]
    exact doOp_sim hO he ht hR hid hfr (fun v' μ' w' hv hE => hK v' μ' w' hv (hE.weaken (fun j h => ⟨h.1, h.2, hb⟩)))
  · cases he
    simp only [Bool.false_eq_true, if_false]
    exact ⟨fun _ _ => trivial, hK _ μ w (VR.undef μ) (Ext.refl hR)⟩
theorem wpOpIn_ex {ops : Array Oper} {i : Nat} {K : Act → World → Prop} {a : Act} (h : wpOpIn (wd none) 0 P ops (fun _ _ _ => False) i K a w) : ∃ a' w', K a' w' := by
  have hfalse : ¬ LetsOut (fun (_ : Exit) (_ : Act) (_ : World) => False) := fun ⟨_, _, h⟩ => h
  unfold wpOpIn at h
  split at h
  · exact ⟨_, _, h⟩
  · rename_i o ho
    split at h
    · have h2 := h.2
      generalize (o.semAt (wd none).round a.eval).run P w = r at h2
      cases r with
      | ok x w' =>
        cases x with
        | enter f args =>
          obtain ⟨e, w'', fr, hr, _⟩ := h2.2.2 [] (room_wide _)
          cases e with
          | returned v => exact ⟨_, _, hr⟩
          | panicked ch => exact hr.elim
          | outgrown => exact (hfalse hr).elim
        | row row args =>
          obtain ⟨v, w'', hr, _⟩ := h2.2 default [] (room_wide _)
          exact ⟨_, _, hr⟩
        | round l f tmps avs bd =>
          obtain ⟨e, w'', hr, _⟩ := h2.2.2 default [] (room_wide _)
          cases e with
          | returned v => exact ⟨_, _, hr⟩
          | panicked ch => exact hr.elim
          | outgrown => exact (hfalse hr).elim
        | value v => exact ⟨_, _, h2⟩
        | skip => exact ⟨_, _, h2⟩
        | defer d => exact ⟨_, _, h2⟩
        | _ => exact h2.elim
      | halt x w' =>
        cases x <;> exact h2.elim
    · exact ⟨_, _, h.2⟩
def ownF (base i : Nat) (j : Nat) : Prop := 256 * base + i ≤ j ∧ j < 256 * base + 256
theorem runOps_wp {o : Orc H} (hO : OS P o) {ops : Array Oper} {base nt : Nat} {ro : Option Nat} {n : Nat} {Q : Exit → Act → World → Prop} :
    ∀ (rest : List Oper) (i : Nat) (tm : Tm) (A : H) (c : Nat) (tm' : Tm) (A' : H) (c' : Nat) (μ : Mu) (w : World) (a : Act),
    runOps P o ops base nt rest i tm A c = some (tm', A', c') → (∀ k, rest[k]? = ops[i + k]?) → TmR μ tm nt a.tmps → R μ A w → Fresh μ c → (∀ j, ownF base i j → μ j = none) → base < c →
    (∀ a' μ' w', TmR μ' tm' nt a'.tmps → a'.defers = a.defers → Ext μ A c w (ownF base i) μ' A' c' w' → Q .normal a' w') →
    wpOpsIn (wd ro) n P ops Q (List.range' i rest.length) a w
  | [], i, tm, A, c, tm', A', c', μ, w, a, e, hr, ht, hR, hfr, hown, hbc, hQ => by
    simp only [runOps, Option.some.injEq, Prod.mk.injEq] at e
    obtain ⟨rfl, rfl, rfl⟩ := e
    exact hQ a μ w ht rfl (Ext.refl hR)
  | oper :: rest, i, tm, A, c, tm', A', c', μ, w, a, e, hr, ht, hR, hfr, hown, hbc, hQ => by
    simp only [runOps, Option.bind_eq_some_iff] at e
    obtain ⟨⟨v, A1, c1⟩, h1, h2⟩ := e
    have hi : ops[i]? = some oper := by have := hr 0; simpa using this.symm
    obtain ⟨_, _, hlt, hd, _⟩ := stepOp_some h1
    rw [List.length_cons, List.range'_succ, wpOpsIn_cons]
    have hid : μ (256 * base + i) = none := hown _ ⟨by omega, by omega⟩
    refine step_wp hO hi h1 ht hR hid hfr fun v' μ1 w1 hv hE0 => ?_
    have hE := hE0.weaken (own' := fun j => j = 256 * base + i) (fun j h => h.1)
    have hm := hE.mu
    have ht1 : TmR μ1 (putT tm oper.dst v) nt (a.put oper.dst v').tmps := (ht.mono hm).put hd hv
    have hfr1 : Fresh μ1 c1 := hE.fresh hfr (fun j hj => by omega)
    refine runOps_wp hO rest (i + 1) _ A1 c1 tm' A' c' μ1 w1 _ h2 (fun k => by have := hr (k + 1); simp at this; rw [this]; congr 1; omega) ht1 hE.rel hfr1 ?_ (by have := hE.cle; omega) ?_
    · intro j hj
      cases e : μ1 j with
      | none => rfl
      | some m =>
        have h0 := hown j ⟨by have := hj.1; omega, hj.2⟩
        rcases hE.new j h0 (by rw [e]; simp) with h | ⟨h, _⟩
        · have := hj.1; omega
        · have := hj.2; omega
    · intro a' μ' w' h3 h4 h5
      refine hQ a' μ' w' h3 (by rw [h4]; cases oper.dst <;> rfl) ?_
      refine (hE.trans h5 (fun j hj => by omega) (fun j hj => .inr hj)).weaken ?_
      rintro j (rfl | hj)
      · exact ⟨by omega, by omega⟩
      · exact ⟨by have := hj.1; omega, hj.2⟩
structure Tr (P : Program) (o : Orc H) (ops : Array Oper) (base nt : Nat) (f : Nat → Tm × H × Nat) (v : Nat → Value) : Prop where
  step : ∀ k oper, ops[k]? = some oper → stepOp P o ops base k nt (f k).1 (f k).2.1 (f k).2.2 oper = some (v k, (f (k + 1)).2.1, (f (k + 1)).2.2) ∧ (f (k + 1)).1 = putT (f k).1 oper.dst (v k)
theorem runOps_tr {o : Orc H} {ops : Array Oper} {base nt : Nat} : ∀ (rest : List Oper) (i : Nat) (tm : Tm) (A : H) (c : Nat) (tm' : Tm) (A' : H) (c' : Nat),
    runOps P o ops base nt rest i tm A c = some (tm', A', c') → ∃ (f : Nat → Tm × H × Nat) (v : Nat → Value), f i = (tm, A, c) ∧ f (i + rest.length) = (tm', A', c') ∧
      ∀ k oper, rest[k]? = some oper → stepOp P o ops base (i + k) nt (f (i + k)).1 (f (i + k)).2.1 (f (i + k)).2.2 oper = some (v (i + k), (f (i + k + 1)).2.1, (f (i + k + 1)).2.2) ∧ (f (i + k + 1)).1 = putT (f (i + k)).1 oper.dst (v (i + k))
  | [], i, tm, A, c, tm', A', c', e => by
    simp only [runOps, Option.some.injEq] at e
    exact ⟨fun _ => (tm, A, c), fun _ => undef, rfl, e, by simp⟩
  | oper :: rest, i, tm, A, c, tm', A', c', e => by
    simp only [runOps, Option.bind_eq_some_iff] at e
    obtain ⟨⟨v, A1, c1⟩, h1, h2⟩ := e
    obtain ⟨f, vs, h3, h4, h5⟩ := runOps_tr rest (i + 1) _ A1 c1 tm' A' c' h2
    refine ⟨fun k => if k ≤ i then (tm, A, c) else f k, fun k => if k ≤ i then v else vs k, by simp, ?_, ?_⟩
    · simp only [List.length_cons]
      rw [if_neg (by omega), ← h4]
      congr 1; omega
    · intro k op hk
      cases k with
      | zero =>
        simp only [List.getElem?_cons_zero, Option.some.injEq] at hk
        subst hk
        simp only [Nat.add_zero, Nat.le_refl, if_true]
        rw [if_neg (by omega), h3]
        exact ⟨h1, rfl⟩
      | succ k =>
        simp only [List.getElem?_cons_succ] at hk
        have := h5 k op hk
        have e1 : i + (k + 1) = i + 1 + k := by omega
        have e2 : ¬ (i + 1 + k ≤ i) := by omega
        have e3 : ¬ (i + 1 + k + 1 ≤ i) := by omega
        simp only [e1, e2, e3, if_false]
        exact this
theorem runOpsT_runOps {o : Orc H} {ops : Array Oper} {base nt : Nat} : ∀ (rest : List Oper) (i : Nat) (tm : Tm) (A : H) (c : Nat) (q : Tm × H × Nat × List (Option Nat × H)),
    runOpsT P o ops base nt rest i tm A c = some q → runOps P o ops base nt rest i tm A c = some (q.1, q.2.1, q.2.2.1)
  | [], i, tm, A, c, q, e => by simp only [runOpsT, Option.some.injEq] at e; subst e; rfl
  | oper :: rest, i, tm, A, c, q, e => by
    simp only [runOpsT, Option.bind_eq_some_iff] at e
    obtain ⟨r, h1, q', h2, e⟩ := e
    cases e
    simp only [runOps, Option.bind_eq_some_iff]
    exact ⟨r, h1, runOpsT_runOps rest (i + 1) _ _ _ q' h2⟩
theorem runOpsT_list {o : Orc H} {ops : Array Oper} {base nt : Nat} : ∀ (rest : List Oper) (i : Nat) (tm : Tm) (A : H) (c : Nat) (q : Tm × H × Nat × List (Option Nat × H)) (f : Nat → Tm × H × Nat) (v : Nat → Value),
    runOpsT P o ops base nt rest i tm A c = some q → f i = (tm, A, c) →
    (∀ k oper, rest[k]? = some oper → stepOp P o ops base (i + k) nt (f (i + k)).1 (f (i + k)).2.1 (f (i + k)).2.2 oper = some (v (i + k), (f (i + k + 1)).2.1, (f (i + k + 1)).2.2) ∧ (f (i + k + 1)).1 = putT (f (i + k)).1 oper.dst (v (i + k))) →
    (∀ k oper, rest[k]? = some oper → q.2.2.2[k]? = some (rid ops (f (i + k)).1 oper, (f (i + k)).2.1)) ∧ (∃ x, q.2.2.2[rest.length]? = some (x, (f (i + rest.length)).2.1))
  | [], i, tm, A, c, q, f, v, e, h0, hs => by
    simp only [runOpsT, Option.some.injEq] at e
    subst e
    exact ⟨by simp, none, by simp [h0]⟩
  | oper :: rest, i, tm, A, c, q, f, v, e, h0, hs => by
    simp only [runOpsT, Option.bind_eq_some_iff] at e
    obtain ⟨r, h1, q', h2, e⟩ := e
    cases e
    have hs0 := hs 0 oper (by simp)
    simp only [Nat.add_zero, h0] at hs0
    rw [h1] at hs0
    obtain ⟨hs1, hs2⟩ := hs0
    cases hs1
    have hf1 : f (i + 1) = (putT tm oper.dst (v i), (f (i + 1)).2.1, (f (i + 1)).2.2) := by rw [← hs2]
    obtain ⟨h3, h4⟩ := runOpsT_list rest (i + 1) _ _ _ q' f v h2 hf1 (fun k op hk => by
      have := hs (k + 1) op (by simpa using hk)
      have e1 : i + (k + 1) = i + 1 + k := by omega
      rw [e1] at this
      exact this)
    refine ⟨fun k op hk => ?_, ?_⟩
    · cases k with
      | zero => simp at hk; subst hk; simp [h0]
      | succ k =>
        have := h3 k op (by simpa using hk)
        have e1 : i + (k + 1) = i + 1 + k := by omega
        rw [e1]
        simpa using this
    · obtain ⟨x, hx⟩ := h4
      refine ⟨x, ?_⟩
      have e1 : i + (oper :: rest).length = i + 1 + rest.length := by simp; omega
      rw [e1]
      simpa using hx
theorem maskOf_bit {acc : List Nat} {o : Oper} {i : Nat} : (maskOf acc o).testBit i = true ↔ ∃ e ∈ o.after.toList, Region.binds .any e = true ∧ (i = e.on ∨ (acc.getD e.on 0).testBit i = true) := by
  unfold maskOf
  suffices h : ∀ (l : List Edge) (s : Nat), (l.foldl (fun s e => cond (Region.binds .any e) (s ||| (2 ^ e.on) ||| acc.getD e.on 0) s) s).testBit i = true ↔
      s.testBit i = true ∨ ∃ e ∈ l, Region.binds .any e = true ∧ (i = e.on ∨ (acc.getD e.on 0).testBit i = true) by
    rw [h]; simp
  intro l
  induction l with
  | nil => intro s; simp
  | cons e l ih =>
    intro s
    rw [List.foldl_cons, ih]
    cases hb : Region.binds .any e with
    | false => simp [hb]
    | true =>
      simp only [cond_true, Nat.testBit_or, Bool.or_eq_true, Nat.testBit_two_pow, decide_eq_true_eq, List.mem_cons, exists_eq_or_imp, hb, true_and]
      constructor
      · rintro (((h | h) | h) | h)
        · exact .inl h
        · exact .inr (.inl (.inl h.symm))
        · exact .inr (.inl (.inr h))
        · exact .inr (.inr h)
      · rintro (h | (h | h) | h)
        · exact .inl (.inl (.inl h))
        · exact .inl (.inl (.inr h.symm))
        · exact .inl (.inr h)
        · exact .inr h
theorem masks_spec : ∀ (l : List Oper) (acc : List Nat), ∃ r, masks l acc = acc ++ r ∧ r.length = l.length ∧ ∀ k o, l[k]? = some o → (acc ++ r).getD (acc.length + k) 0 = maskOf ((acc ++ r).take (acc.length + k)) o
  | [], acc => ⟨[], by simp [masks], rfl, by simp⟩
  | o :: rest, acc => by
    obtain ⟨r, h1, h2, h3⟩ := masks_spec rest (acc ++ [maskOf acc o])
    refine ⟨maskOf acc o :: r, by simp [masks, h1], by simp [h2], fun k o' hk => ?_⟩
    cases k with
    | zero =>
      simp at hk; subst hk
      simp [List.getD_eq_getElem?_getD]
    | succ k =>
      have := h3 k o' (by simpa using hk)
      simp only [List.length_append, List.length_cons, List.length_nil, List.append_assoc, List.cons_append, List.nil_append] at this
      have e1 : acc.length + (k + 1) = acc.length + (0 + 1) + k := by omega
      rw [e1]
      exact this
def msk (ops : Array Oper) (j : Nat) : Nat := (masks ops.toList []).getD j 0
theorem msk_eq {ops : Array Oper} {j : Nat} {o : Oper} (h : ops[j]? = some o) : msk ops j = maskOf ((masks ops.toList []).take j) o := by
  obtain ⟨r, h1, h2, h3⟩ := masks_spec ops.toList []
  have := h3 j o (by simpa using h)
  simp only [List.nil_append, List.length_nil, Nat.zero_add] at this
  simp only [msk, h1, List.nil_append]
  exact this
theorem edgesOk_spec : ∀ (l : List Oper) (i : Nat), edgesOk l i = true → ∀ k o, l[k]? = some o → ∀ e ∈ o.after.toList, Region.binds .any e = true → e.on < i + k
  | [], i, h, k, o, hk, e, he, hb => by simp at hk
  | x :: l, i, h, k, o, hk, e, he, hb => by
    simp only [edgesOk, Bool.and_eq_true] at h
    cases k with
    | zero =>
      simp at hk; subst hk
      have := List.all_eq_true.1 h.1 e he
      simp [hb, Nat.blt] at this
      omega
    | succ k =>
      have := edgesOk_spec l (i + 1) h.2 k o (by simpa using hk) e he hb
      omega
theorem msk_bit {ops : Array Oper} (hE : edgesOk ops.toList 0 = true) {j i : Nat} {o : Oper} (h : ops[j]? = some o) :
    (msk ops j).testBit i = true ↔ ∃ e ∈ o.after.toList, Region.binds .any e = true ∧ (i = e.on ∨ (msk ops e.on).testBit i = true) := by
  rw [msk_eq h, maskOf_bit]
  constructor <;> rintro ⟨e, h1, h2, h3⟩ <;> refine ⟨e, h1, h2, h3.imp id fun h3 => ?_⟩
  all_goals
    have hlt := edgesOk_spec _ 0 hE j o (by simpa using h) e h1 h2
    simp only [List.getD_eq_getElem?_getD, msk] at h3 ⊢
    simp only [Nat.zero_add] at hlt
    simpa [List.getElem?_take, hlt] using h3
theorem msk_lt {ops : Array Oper} (hE : edgesOk ops.toList 0 = true) : ∀ (j i : Nat), (msk ops j).testBit i = true → i < j := by
  intro j
  induction j using Nat.strongRecOn with
  | _ j ih =>
    intro i hb
    cases ho : ops[j]? with
    | none =>
      exfalso
      obtain ⟨r, h1, h2, _⟩ := masks_spec ops.toList []
      have : ops.size ≤ j := by simpa using ho
      simp [msk, h1, List.getD_eq_getElem?_getD, List.getElem?_eq_none (show r.length ≤ j by simp [h2]; exact this)] at hb
    | some o =>
      obtain ⟨e, h1, h2, h3⟩ := (msk_bit hE ho).1 hb
      have hlt := edgesOk_spec _ 0 hE j o (by simpa using ho) e h1 h2
      rcases h3 with rfl | h3
      · omega
      · have := ih e.on (by omega) i h3
        omega
theorem msk_closed {ops : Array Oper} (hE : edgesOk ops.toList 0 = true) {S : Nat → Prop} (hS : ∀ k o, S k → ops[k]? = some o → ∀ e ∈ o.after.toList, Region.binds .any e = true → S e.on) :
    ∀ (j i : Nat) (o : Oper), ops[j]? = some o → (∀ e ∈ o.after.toList, Region.binds .any e = true → S e.on) → (msk ops j).testBit i = true → S i := by
  intro j
  induction j using Nat.strongRecOn with
  | _ j ih =>
    intro i o ho hpred hb
    obtain ⟨e, h1, h2, h3⟩ := (msk_bit hE ho).1 hb
    have hlt := edgesOk_spec _ 0 hE j o (by simpa using ho) e h1 h2
    have hse := hpred e h1 h2
    rcases h3 with rfl | h3
    · exact hse
    · have : ∃ o', ops[e.on]? = some o' := by
        have : j < ops.size := (Array.getElem?_eq_some_iff.1 ho).1
        exact ⟨ops[e.on]'(by omega), Array.getElem?_eq_getElem (by omega)⟩
      obtain ⟨o', ho'⟩ := this
      exact ih e.on (by omega) i o' ho' (hS _ _ hse ho') h3
theorem below_spec {n : Nat} {p : Nat → Bool} (h : below n p = true) : ∀ i, i < n → p i = true := by
  induction n with
  | zero => intro i hi; omega
  | succ n ih =>
    have h' : (p n && below n p) = true := h
    simp only [Bool.and_eq_true] at h'
    intro i hi
    by_cases e : i = n
    · subst e; exact h'.1
    · exact ih h'.2 i (by omega)
theorem regOk_pair {ops : Array Oper} (h : regOk ops = true) {i j : Nat} {a b : Oper} (hij : i < j) (ha : ops[i]? = some a) (hb : ops[j]? = some b) :
    (msk ops j).testBit i = true ∨ (touch ops a b = false ∧ touch ops b a = false ∧ ¬ (cls a.op = 3 ∧ cls b.op = 3)) := by
  simp only [regOk, Bool.and_eq_true] at h
  have h2 := below_spec (below_spec h.2 j (Array.getElem?_eq_some_iff.1 hb).1) i hij
  simp only [pairOk, ha, hb, Bool.or_eq_true, Bool.and_eq_true, Bool.not_eq_true'] at h2
  rcases h2 with h2 | h2
  · exact .inl h2
  · refine .inr ⟨h2.1.1, h2.1.2, fun hh => ?_⟩
    have := h2.2
    rw [hh.1, hh.2] at this
    simp at this
theorem regOk_edges {ops : Array Oper} (h : regOk ops = true) : edgesOk ops.toList 0 = true := by
  simp only [regOk, Bool.and_eq_true] at h; exact h.1
end Go.Ab

namespace Go.Ab
open Go
set_option linter.unusedVariables false
set_option linter.unusedSimpArgs false
set_option linter.unusedSectionVars false
variable {H : Type} [HeapC H] {P : Program} {μ : Mu} {A : H} {w : World}
structure Can (ops : Array Oper) (base nt : Nat) (f : Nat → Tm × H × Nat) (v : Nat → Value) (n : Nat) (M : Nat → Mu) (W : Nat → World) (ts : Nat → Array Value) : Prop where
  tm : ∀ k, k ≤ n → TmR (M k) (f k).1 nt (ts k)
  rel : ∀ k, k ≤ n → R (M k) (f k).2.1 (W k)
  fresh : ∀ k, k ≤ n → Fresh (M k) (f k).2.2
  own : ∀ k, k ≤ n → ∀ j, ownF base k j → M k j = none
  bc : ∀ k, k ≤ n → base < (f k).2.2
  ext : ∀ k, k < n → ∀ oper, ops[k]? = some oper → Ext (M k) (f k).2.1 (f k).2.2 (W k) (fun j => j = 256 * base + k ∧ 2 ≤ cls oper.op ∧ wantedA ops (f k).1 oper = some true) (M (k + 1)) (f (k + 1)).2.1 (f (k + 1)).2.2 (W (k + 1))
  val : ∀ k, k < n → ∃ v', VR (M (k + 1)) (v k) v'
theorem can_ex {o : Orc H} (hO : OS P o) {ops : Array Oper} {base nt : Nat} {f : Nat → Tm × H × Nat} {v : Nat → Value} (hT : Tr P o ops base nt f v)
    {μ0 : Mu} {w0 : World} {a0 : Act} (ht : TmR μ0 (f 0).1 nt a0.tmps) (hR : R μ0 (f 0).2.1 w0) (hfr : Fresh μ0 (f 0).2.2) (hown : ∀ j, ownF base 0 j → μ0 j = none) (hbc : base < (f 0).2.2) :
    ∀ n, n ≤ ops.size → ∃ M W ts, M 0 = μ0 ∧ W 0 = w0 ∧ Can ops base nt f v n M W ts := by
  intro n
  induction n with
  | zero =>
    intro _
    refine ⟨fun _ => μ0, fun _ => w0, fun _ => a0.tmps, rfl, rfl, ?_, ?_, ?_, ?_, ?_, ?_, ?_⟩
    · intro k hk; have : k = 0 := by omega
      subst this; exact ht
    · intro k hk; have : k = 0 := by omega
      subst this; exact hR
    · intro k hk; have : k = 0 := by omega
      subst this; exact hfr
    · intro k hk; have : k = 0 := by omega
      subst this; exact hown
    · intro k hk; have : k = 0 := by omega
      subst this; exact hbc
    · intro k hk; omega
    · intro k hk; omega
  | succ n ih =>
    intro hn
    obtain ⟨M, W, ts, hM0, hW0, hC⟩ := ih (by omega)
    have hi : ops[n]? = some ops[n] := Array.getElem?_eq_getElem (by omega)
    obtain ⟨h1, h2⟩ := hT.step n _ hi
    have hid : M n (256 * base + n) = none := by
      obtain ⟨_, _, hlt, _, _⟩ := stepOp_some h1
      exact hC.own n (Nat.le_refl _) _ ⟨by omega, by omega⟩
    have hstep := step_wp (n := 0) (ro := none) (Q := fun _ _ _ => False) (a := ⟨ts n, []⟩)
      (K := fun a' w' => ∃ v' μ', a' = (⟨ts n, []⟩ : Act).put ops[n].dst v' ∧ VR μ' (v n) v' ∧ Ext (M n) (f n).2.1 (f n).2.2 (W n) (fun j => j = 256 * base + n ∧ 2 ≤ cls ops[n].op ∧ wantedA ops (f n).1 ops[n] = some true) μ' (f (n + 1)).2.1 (f (n + 1)).2.2 w')
      hO hi h1 (hC.tm n (Nat.le_refl _)) (hC.rel n (Nat.le_refl _)) hid (hC.fresh n (Nat.le_refl _)) (fun v' μ' w' hv hE => ⟨v', μ', rfl, hv, hE⟩)
    obtain ⟨a', w', v', μ', rfl, hv, hE⟩ := wpOpIn_ex hstep
    obtain ⟨_, _, hlt, hd, _⟩ := stepOp_some h1
    have hE' := hE.weaken (own' := fun j => j = 256 * base + n) (fun j h => h.1)
    have hbn := hC.bc n (Nat.le_refl _)
    have hne : ∀ k, k ≤ n → k ≠ n + 1 := fun k hk => by omega
    have hnew : ∀ k, ¬ k ≤ n → k ≤ n + 1 → k = n + 1 := fun k h1 h2 => by omega
    refine ⟨fun k => if k ≤ n then M k else μ', fun k => if k ≤ n then W k else w', fun k => if k ≤ n then ts k else ((⟨ts n, []⟩ : Act).put ops[n].dst v').tmps, by simp [hM0], by simp [hW0], ?_, ?_, ?_, ?_, ?_, ?_, ?_⟩
    · intro k hk
      by_cases h : k ≤ n
      · simp only [h, if_true]; exact hC.tm k h
      · simp only [h, if_false]
        have := hnew k h hk; subst this
        rw [h2]
        exact TmR.put ((hC.tm n (Nat.le_refl _)).mono hE.mu) hd hv
    · intro k hk
      by_cases h : k ≤ n
      · simp only [h, if_true]; exact hC.rel k h
      · simp only [h, if_false]
        have := hnew k h hk; subst this
        exact hE.rel
    · intro k hk
      by_cases h : k ≤ n
      · simp only [h, if_true]; exact hC.fresh k h
      · simp only [h, if_false]
        have := hnew k h hk; subst this
        exact hE'.fresh (hC.fresh n (Nat.le_refl _)) (fun j hj => by omega)
    · intro k hk j hj
      by_cases h : k ≤ n
      · simp only [h, if_true]; exact hC.own k h j hj
      · simp only [h, if_false]
        have := hnew k h hk; subst this
        cases e : μ' j with
        | none => rfl
        | some m =>
          have h0 := hC.own n (Nat.le_refl _) j ⟨by have := hj.1; omega, hj.2⟩
          rcases hE'.new j h0 (by rw [e]; simp) with h | ⟨h, _⟩
          · have := hj.1; omega
          · have := hj.2; omega
    · intro k hk
      by_cases h : k ≤ n
      · exact hC.bc k h
      · have := hnew k h hk; subst this
        have := hE.cle; omega
    · intro k hk oper hop
      by_cases h : k + 1 ≤ n
      · have h' : k ≤ n := by omega
        simp only [h, h', if_true]; exact hC.ext k (by omega) oper hop
      · have : k = n := by omega
        subst this
        simp only [Nat.le_refl, if_true, h, if_false]
        rw [hi] at hop
        cases hop
        exact hE
    · intro k hk
      by_cases h : k + 1 ≤ n
      · simp only [h, if_true]; exact hC.val k (by omega)
      · have : k = n := by omega
        subst this
        simp only [h, if_false]
        exact ⟨v', hv⟩
section
variable {ops : Array Oper} {base nt n : Nat} {f : Nat → Tm × H × Nat} {v : Nat → Value} {M : Nat → Mu} {W : Nat → World} {ts : Nat → Array Value}
def Dn (M : Nat → Mu) (k i : Nat) : Prop := M k i ≠ none
theorem Can.mono1 (hC : Can ops base nt f v n M W ts) (hn : n ≤ ops.size) {k i : Nat} (hk : k < n) (h : Dn M k i) : Dn M (k + 1) i := by
  have hi : ops[k]? = some ops[k] := Array.getElem?_eq_getElem (by omega)
  unfold Dn at h ⊢
  cases e : M k i with
  | none => exact absurd e h
  | some m => rw [(hC.ext k hk _ hi).mu i m e]; simp
theorem Can.mono (hC : Can ops base nt f v n M W ts) (hn : n ≤ ops.size) {k l i : Nat} (hkl : k ≤ l) (hl : l ≤ n) (h : Dn M k i) : Dn M l i := by
  induction l with
  | zero => have : k = 0 := by omega
            subst this; exact h
  | succ l ih =>
    by_cases e : k = l + 1
    · subst e; exact h
    · exact hC.mono1 hn (by omega) (ih (by omega) (by omega))
theorem Can.lt (hC : Can ops base nt f v n M W ts) {k i : Nat} (hk : k ≤ n) (h : Dn M k i) : i < 256 * (f k).2.2 := by
  by_cases hh : 256 * (f k).2.2 ≤ i
  · exact absurd (hC.fresh k hk i hh) h
  · omega
theorem Can.notown (hC : Can ops base nt f v n M W ts) {k i : Nat} (hk : k ≤ n) (h : Dn M k i) : ¬ ownF base k i := fun ho => h (hC.own k hk i ho)
theorem Can.supv (hC : Can ops base nt f v n M W ts) {k : Nat} (hk : k < n) : Sup (Dn M (k + 1)) (v k) :=
  let ⟨v', h⟩ := hC.val k hk; ⟨M (k + 1), v', h, fun i h => h⟩
theorem Can.suptm (hC : Can ops base nt f v n M W ts) {k t : Nat} {x : Value} (hk : k ≤ n) (h : (f k).1 t = some x) : Sup (Dn M k) x :=
  let ⟨v', _, h⟩ := (hC.tm k hk).val t x h; ⟨M k, v', h, fun i h => h⟩
theorem Can.suph (hC : Can ops base nt f v n M W ts) {k i : Nat} (hk : k ≤ n) (h : Dn M k i) : BlkSup (Dn M k) (HeapC.get (f k).2.1 i) := by
  unfold Dn at h
  cases e : M k i with
  | none => exact absurd e h
  | some m => exact ⟨M k, m, _, (hC.rel k hk).blk i m e, fun i h => h⟩
theorem Can.cmono (hC : Can ops base nt f v n M W ts) (hn : n ≤ ops.size) {k l : Nat} (hkl : k ≤ l) (hl : l ≤ n) : (f k).2.2 ≤ (f l).2.2 := by
  induction l with
  | zero => have : k = 0 := by omega
            subst this; exact Nat.le_refl _
  | succ l ih =>
    by_cases e : k = l + 1
    · subst e; exact Nat.le_refl _
    · have hi : ops[l]? = some ops[l] := Array.getElem?_eq_getElem (by omega)
      exact Nat.le_trans (ih (by omega) (by omega)) (hC.ext l (by omega) _ hi).cle
theorem Can.wr (hC : Can ops base nt f v n M W ts) (hn : n ≤ ops.size) {k l i : Nat} (hkl : k ≤ l) (hl : l ≤ n) (h : Dn M k i) (hw : wrB (HeapC.get (f l).2.1 i) = true) : wrB (HeapC.get (f k).2.1 i) = true := by
  induction l with
  | zero => have : k = 0 := by omega
            subst this; exact hw
  | succ l ih =>
    by_cases e : k = l + 1
    · subst e; exact hw
    · have hi : ops[l]? = some ops[l] := Array.getElem?_eq_getElem (by omega)
      have hd := hC.mono hn (show k ≤ l by omega) (by omega) h
      unfold Dn at hd
      cases e : M l i with
      | none => exact absurd e hd
      | some m => exact ih (by omega) (by omega) ((hC.ext l (by omega) _ hi).wrm i m e hw)
theorem Can.dd (hC : Can ops base nt f v n M W ts) (hn : n ≤ ops.size) {k l i : Nat} (hkl : k ≤ l) (hl : l ≤ n) (h : Dn M k i) (hw : deadB (HeapC.get (f k).2.1 i) = true) : deadB (HeapC.get (f l).2.1 i) = true := by
  induction l with
  | zero => have : k = 0 := by omega
            subst this; exact hw
  | succ l ih =>
    by_cases e : k = l + 1
    · subst e; exact hw
    · have hi : ops[l]? = some ops[l] := Array.getElem?_eq_getElem (by omega)
      have hd := hC.mono hn (show k ≤ l by omega) (by omega) h
      unfold Dn at hd
      cases e : M l i with
      | none => exact absurd e hd
      | some m => exact (hC.ext l (by omega) _ hi).dd i m e (ih (by omega) (by omega))
theorem Can.af (hC : Can ops base nt f v n M W ts) (hn : n ≤ ops.size) {k i : Nat} (hk : k < n) (h : ¬ Dn M k i) (hi : i < 256 * (f k).2.2) (hne : i ≠ 256 * base + k) : HeapC.get (f (k + 1)).2.1 i = HeapC.get (f k).2.1 i := by
  have ho : ops[k]? = some ops[k] := Array.getElem?_eq_getElem (by omega)
  refine (hC.ext k hk _ ho).af i ?_ hi (fun hh => hne hh.1)
  cases e : M k i with
  | none => rfl
  | some m => exact absurd (by unfold Dn; rw [e]; simp) h
theorem Can.newn (hC : Can ops base nt f v n M W ts) (hn : n ≤ ops.size) {k i : Nat} (hk : k < n) {oper : Oper} (ho : ops[k]? = some oper) (h : ¬ Dn M k i) (h' : Dn M (k + 1) i) :
    (i = 256 * base + k ∧ 2 ≤ cls oper.op ∧ wantedA ops (f k).1 oper = some true) ∨ (256 * (f k).2.2 ≤ i ∧ i < 256 * (f (k + 1)).2.2) := by
  refine (hC.ext k hk _ ho).new i ?_ h'
  cases e : M k i with
  | none => rfl
  | some m => exact absurd (by unfold Dn; rw [e]; simp) h
end
theorem VR.rid {v v' : Value} (h : VR μ v v') {i : Nat} (e : ridV v = some i) : μ i ≠ none := by
  cases h with
  | ptr h => simp [ridV] at e; subst e; rw [h]; simp
  | sl h _ _ => simp [ridV] at e; subst e; rw [h]; simp
  | slE h => simp [ridV] at e; subst e; rw [h]; simp
  | map h => simp [ridV] at e; subst e; rw [h]; simp
  | _ => simp [ridV] at e
theorem cls_le (op : Op) : cls op ≤ 3 := by
  unfold cls; split <;> decide
theorem step_nonW {o : Orc H} {ops : Array Oper} {base j nt c c1 : Nat} {tm : Tm} {A A1 : H} {oper : Oper} {x : Value} (hc : cls oper.op ≠ 3) (e : stepOp P o ops base j nt tm A c oper = some (x, A1, c1)) :
    c1 = c ∧ ∃ upd : Option ABlk, A1 = (match upd with | none => A | some b => HeapC.set A (256 * base + j) b) ∧
      (upd = none ∨ (∃ b, upd = some b ∧ wrB (some b) = true ∧ ridV x = some (256 * base + j) ∧ 2 ≤ cls oper.op ∧ wantedA ops tm oper = some true)) ∧
      (upd = none → ¬ (2 ≤ cls oper.op ∧ wantedA ops tm oper = some true)) ∧
      ∀ {H' : Type} [HeapC H'] (o' : Orc H') (tm' : Tm) (h' : H') (c' : Nat), (∀ t ∈ tmpsOf ops oper, tm t = tm' t) → (cls oper.op = 1 → ∀ y, rid ops tm oper = some y → HeapC.get h' y = HeapC.get A y) →
        stepOp P o' ops base j nt tm' h' c' oper = some (x, (match upd with | none => h' | some b => HeapC.set h' (256 * base + j) b), c') := by
  obtain ⟨b, hb, hlt, hd, he⟩ := stepOp_some e
  have hwc : ∀ tm' : Tm, (∀ t ∈ tmpsOf ops oper, tm t = tm' t) → wantedA ops tm' oper = some b := by
    intro tm' htm
    rw [← hb]
    unfold wantedA
    cases hg : oper.guard with
    | none => rfl
    | some p =>
      obtain ⟨g, want⟩ := p
      simp only
      cases hd : (ops[g]?).bind (·.dst) with
      | none => rfl
      | some d =>
        have : tm d = tm' d := htm d (by simp only [tmpsOf, hg, hd]; simp)
        simp only [Option.bind_some, this]
  have hge : ∀ {H' : Type} [HeapC H'] (o' : Orc H') (tm' : Tm) (h' : H') (c' : Nat), (∀ t ∈ tmpsOf ops oper, tm t = tm' t) →
      stepOp P o' ops base j nt tm' h' c' oper = cond b (doOp P o' (256 * base + j) tm h' c' oper.op) (some (undef, h', c')) := by
    intro H' _ o' tm' h' c' htm
    simp only [stepOp, hwc tm' htm, Option.bind_some]
    have h1 : Nat.blt j 256 = true := by simp [Nat.blt]; omega
    have h2 : ∀ X Y : Option (Value × H' × Nat), cond (Nat.blt j 256 && (match oper.dst with | some d => Nat.blt d nt | none => true)) X Y = X := by
      intro X Y
      cases hdd : oper.dst with
      | none => rw [h1]; rfl
      | some d =>
        have : Nat.blt d nt = true := Nat.ble_eq_true_of_le (hd d hdd)
        rw [h1]; simp only [this]; rfl
    refine (h2 _ _).trans ?_
    rw [doOp_congr (tm := tm') (tm' := tm) (fun y hy => ?_)]
    refine evalO_congr fun t ht => (htm t ?_).symm
    subst ht
    simp only [tmpsOf, List.mem_append, List.mem_filterMap]
    exact .inl ⟨_, hy, rfl⟩
  rcases he with ⟨rfl, he⟩ | ⟨rfl, he⟩
  · have hcc : cls oper.op = 0 ∨ cls oper.op = 1 ∨ cls oper.op = 2 := by have := cls_le oper.op; omega
    rcases hcc with h0 | h1 | h2
    · obtain ⟨rfl, rfl, hf⟩ := doOp_P (H' := H) h0 he
      refine ⟨rfl, none, rfl, .inl rfl, fun _ h => by omega, fun o' tm' h' c' htm _ => ?_⟩
      rw [hge o' tm' h' c' htm]
      exact (doOp_P h0 he).2.2 o' h' c'
    · obtain ⟨rfl, rfl, hf⟩ := doOp_L (H' := H) h1 he
      refine ⟨rfl, none, rfl, .inl rfl, fun _ h => by omega, fun o' tm' h' c' htm hr => ?_⟩
      rw [hge o' tm' h' c' htm]
      refine (doOp_L h1 he).2.2 o' h' c' (fun y hy => hr h1 y ?_)
      simp only [rid, hb]; exact hy
    · obtain ⟨rfl, bb, hA, hw, hf⟩ := doOp_A (H' := H) h2 he
      have hrid : ridV x = some (256 * base + j) := by
        cases hop : oper.op <;> rw [hop] at h2 <;> try (simp [cls] at h2; done)
        case call k =>
          obtain ⟨callee, args, ats⟩ := k
          cases callee with
          | builtin b => cases b <;> simp [cls] at h2
          | _ => simp [cls] at h2
        all_goals
          rw [hop] at he
          simp only [doOp, Option.bind_eq_some_iff] at he
        case alloc t =>
          obtain ⟨z, hz, he⟩ := he
          obtain ⟨_, e1⟩ := cond_some he
          cases e1; rfl
        case box t y =>
          obtain ⟨z, hz, he⟩ := he
          obtain ⟨_, e1⟩ := cond_some he
          cases e1; rfl
        case buildSlice t len ps =>
          obtain ⟨vs, hvs, cs, hcs, he⟩ := he
          cases he; rfl
        case makeMap t r =>
          cases r with
          | none => cases he; rfl
          | some y =>
            simp only [Option.bind_eq_some_iff] at he
            obtain ⟨_, _, _, _, _, _, he⟩ := he
            cases he; rfl
        case makeSlice t l k =>
          obtain ⟨_, _, _, _, _, _, he⟩ := he
          cases he; rfl
      refine ⟨rfl, some bb, hA, .inr ⟨bb, rfl, hw, hrid, by omega, hb⟩, (fun h => by cases h), @fun H' _ o' tm' h' c' htm _ => ?_⟩
      rw [hge o' tm' h' c' htm]
      obtain ⟨_, bb', hA', _, hf'⟩ := doOp_A (H' := H') h2 he
      have hbb : bb' = bb := by
        have := HeapC.get_set A (256 * base + j) bb (256 * base + j)
        rw [← hA, hA', HeapC.get_set] at this
        simpa using this
      rw [← hbb]
      exact hf' o' h' c'
  · cases he
    refine ⟨rfl, none, rfl, .inl rfl, (fun _ (h : 2 ≤ cls oper.op ∧ wantedA ops tm oper = some true) => by rw [hb] at h; cases h.2), fun o' tm' h' c' htm _ => ?_⟩
    rw [hge o' tm' h' c' htm]
    rfl
end Go.Ab

namespace Go.Ab
open Go
set_option linter.unusedVariables false
set_option linter.unusedSimpArgs false
set_option linter.unusedSectionVars false
variable {H : Type} [HeapC H] {H' : Type} [HeapC H'] {P : Program} {μ : Mu} {A : H} {w : World}
theorem R.cong {A' : H'} (hR : R μ A w) (h : ∀ i, μ i ≠ none → HeapC.get A' i = HeapC.get A i) : R μ A' w where
  blk := fun i m hm => by rw [h i (by rw [hm]; simp)]; exact hR.blk i m hm
  inj := fun i j mi mj hi hj hne => by rw [h i (by rw [hi]; simp), h j (by rw [hj]; simp)]; exact hR.inj i j mi mj hi hj hne
  lt := hR.lt
theorem wantedA_congr {ops : Array Oper} {tm tm' : Tm} {oper : Oper} (h : ∀ t ∈ tmpsOf ops oper, tm t = tm' t) : wantedA ops tm oper = wantedA ops tm' oper := by
  unfold wantedA
  cases hg : oper.guard with
  | none => rfl
  | some p =>
    obtain ⟨g, want⟩ := p
    simp only
    cases hd : (ops[g]?).bind (·.dst) with
    | none => rfl
    | some d =>
      have : tm d = tm' d := h d (by simp only [tmpsOf, hg, hd]; simp)
      simp only [Option.bind_some, this]
theorem stepOp_congr {o : Orc H} {ops : Array Oper} {base i nt c : Nat} {tm tm' : Tm} {oper : Oper} (h : ∀ t ∈ tmpsOf ops oper, tm t = tm' t) : stepOp P o ops base i nt tm A c oper = stepOp P o ops base i nt tm' A c oper := by
  simp only [stepOp, wantedA_congr h]
  rw [doOp_congr (tm := tm) (tm' := tm')]
  intro x hx
  refine evalO_congr fun t ht => h t ?_
  subst ht
  simp only [tmpsOf, List.mem_append, List.mem_filterMap]
  exact .inl ⟨_, hx, rfl⟩
theorem plainV_rid {x : Value} (h : plainV x = true) : ridV x = none := by
  unfold plainV at h
  split at h <;> first | rfl | cases h
def tmS (ops : Array Oper) (v : Nat → Value) (tm0 : Tm) (s : Nat → Bool) : Nat → Tm
  | 0 => tm0
  | k + 1 => cond (s k) (putT (tmS ops v tm0 s k) ((ops[k]?).bind (·.dst)) (v k)) (tmS ops v tm0 s k)
def upS (s : Nat → Bool) (j : Nat) : Nat → Bool := fun k => s k || Nat.beq k j
theorem upS_self (s : Nat → Bool) (j : Nat) : upS s j j = true := by simp [upS]
theorem upS_ne {s : Nat → Bool} {j k : Nat} (h : k ≠ j) : upS s j k = s k := by
  have : Nat.beq k j = false := by rw [Bool.eq_false_iff]; intro hh; exact h (Nat.eq_of_beq_eq_true hh)
  simp [upS, this]
theorem upS_true {s : Nat → Bool} {j k : Nat} (h : upS s j k = true) : s k = true ∨ k = j := by
  simp only [upS, Bool.or_eq_true] at h
  exact h.imp id Nat.eq_of_beq_eq_true
theorem putT_ne {tm : Tm} {d : Option Tmp} {x : Value} {t : Nat} (h : d ≠ some t) : putT tm d x t = tm t := by
  cases d with
  | none => rfl
  | some d =>
    have : Nat.beq t d = false := by rw [Bool.eq_false_iff]; intro hh; exact h (by rw [Nat.eq_of_beq_eq_true hh])
    simp [putT, this]
theorem putT_eq {tm tm' : Tm} {d : Option Tmp} {x : Value} {t : Nat} (h : d = some t) : putT tm d x t = putT tm' d x t := by
  subst h; simp [putT]
theorem putT_at {tm tm' : Tm} {d : Option Tmp} {x : Value} {t : Nat} (h : tm t = tm' t) : putT tm d x t = putT tm' d x t := by
  cases d with
  | none => exact h
  | some d => simp only [putT]; cases Nat.beq t d <;> simp [h]
structure Cx (P : Program) (o : Orc H) (ops : Array Oper) (base nt : Nat) (f : Nat → Tm × H × Nat) (v : Nat → Value) (M : Nat → Mu) (W : Nat → World) (ts : Nat → Array Value) : Prop where
  reg : regOk ops = true
  tr : Tr P o ops base nt f v
  can : Can ops base nt f v ops.size M W ts
  lw : ∀ i j a b, ops[i]? = some a → ops[j]? = some b → cls a.op = 1 → cls b.op = 3 → (msk ops j).testBit i = false → (msk ops i).testBit j = false →
    ∀ x, rid ops (f i).1 a = some x → HeapC.get (f j).2.1 x = HeapC.get (f (j + 1)).2.1 x
section
variable {o : Orc H} {ops : Array Oper} {base nt : Nat} {f : Nat → Tm × H × Nat} {v : Nat → Value} {M : Nat → Mu} {W : Nat → World} {ts : Nat → Array Value}
theorem getop {ops : Array Oper} {k : Nat} (h : k < ops.size) : ∃ oper, ops[k]? = some oper := ⟨ops[k], Array.getElem?_eq_getElem h⟩
theorem getop_lt {ops : Array Oper} {k : Nat} {oper : Oper} (h : ops[k]? = some oper) : k < ops.size := (Array.getElem?_eq_some_iff.1 h).1
theorem Cx.k256 (cx : Cx P o ops base nt f v M W ts) {k : Nat} (h : k < ops.size) : k < 256 := by
  obtain ⟨oper, ho⟩ := getop h
  obtain ⟨_, _, hlt, _⟩ := stepOp_some (cx.tr.step k oper ho).1
  exact hlt
def closedS (ops : Array Oper) (s : Nat → Bool) : Prop := ∀ k o, s k = true → ops[k]? = some o → ∀ e ∈ o.after.toList, Region.binds .any e = true → s e.on = true
theorem touch_of {ops : Array Oper} {a b : Oper} {t : Nat} (hd : a.dst = some t) (h : t ∈ tmpsOf ops b ∨ b.dst = some t) : touch ops a b = true := by
  simp only [touch, hd, Bool.or_eq_true, List.contains_iff_mem]
  rcases h with h | h
  · exact .inl h
  · exact .inr (by rw [h]; simp)
theorem Cx.reads (cx : Cx P o ops base nt f v M W ts) {s : Nat → Bool} (hs : closedS ops s) {j : Nat} {oper : Oper} (hj : ops[j]? = some oper) (hns : s j = false)
    (hp : ∀ e ∈ oper.after.toList, Region.binds .any e = true → s e.on = true) {t : Nat} (ht : t ∈ tmpsOf ops oper) :
    ∀ m, m ≤ ops.size → tmS ops v (f 0).1 s m t = (f (min m j)).1 t := by
  have hE := regOk_edges cx.reg
  intro m
  induction m with
  | zero => intro _; simp [tmS]
  | succ m ih =>
    intro hm
    have ih := ih (by omega)
    obtain ⟨om, hom⟩ := getop (show m < ops.size by omega)
    simp only [tmS, hom, Option.bind_some]
    rcases Nat.lt_trichotomy m j with hlt | heq | hgt
    · have e1 : min (m + 1) j = m + 1 := by omega
      have e2 : min m j = m := by omega
      rw [e2] at ih
      rw [e1, (cx.tr.step m om hom).2]
      by_cases hd : om.dst = some t
      · have hb : s m = true := by
          rcases regOk_pair cx.reg hlt hom hj with hb | ⟨h1, _, _⟩
          · exact msk_closed hE (S := fun k => s k = true) hs j m oper hj hp hb
          · rw [touch_of hd (.inl ht)] at h1; cases h1
        rw [hb]
        exact putT_eq hd
      · rw [putT_ne hd]
        cases s m
        · exact ih
        · simp only [cond_true]; rw [putT_ne hd]; exact ih
    · subst heq
      rw [hns]
      simpa [Nat.min_eq_right] using ih
    · have e1 : min (m + 1) j = j := by omega
      have e2 : min m j = j := by omega
      rw [e2] at ih
      rw [e1, ← ih]
      by_cases hd : om.dst = some t
      · have hb : s m = false := by
          rw [Bool.eq_false_iff]
          intro hsm
          rcases regOk_pair cx.reg hgt hj hom with hb | ⟨_, h1, _⟩
          · have := msk_closed hE (S := fun k => s k = true) hs m j om hom (hs m om hsm hom) hb
            rw [hns] at this; cases this
          · rw [touch_of hd (.inl ht)] at h1; cases h1
        rw [hb]; rfl
      · cases s m
        · rfl
        · simp only [cond_true]; exact putT_ne hd
theorem Cx.read (cx : Cx P o ops base nt f v M W ts) {s : Nat → Bool} (hs : closedS ops s) {j : Nat} {oper : Oper} (hj : ops[j]? = some oper) (hns : s j = false)
    (hp : ∀ e ∈ oper.after.toList, Region.binds .any e = true → s e.on = true) {t : Nat} (ht : t ∈ tmpsOf ops oper) : tmS ops v (f 0).1 s ops.size t = (f j).1 t := by
  rw [cx.reads hs hj hns hp ht ops.size (Nat.le_refl _)]
  have := getop_lt hj
  rw [Nat.min_eq_right (by omega)]
theorem Cx.tmUp (cx : Cx P o ops base nt f v M W ts) {s : Nat → Bool} (hs : closedS ops s) {j : Nat} {oper : Oper} (hj : ops[j]? = some oper) (hns : s j = false) (t : Nat) :
    ∀ m, m ≤ ops.size → tmS ops v (f 0).1 (upS s j) m t = if j < m then putT (tmS ops v (f 0).1 s m) oper.dst (v j) t else tmS ops v (f 0).1 s m t := by
  have hE := regOk_edges cx.reg
  intro m
  induction m with
  | zero => intro _; simp [tmS]
  | succ m ih =>
    intro hm
    have ih := ih (by omega)
    obtain ⟨om, hom⟩ := getop (show m < ops.size by omega)
    simp only [tmS, hom, Option.bind_some]
    rcases Nat.lt_trichotomy m j with hlt | heq | hgt
    · rw [if_neg (by omega)] at ih ⊢
      rw [upS_ne (by omega)]
      cases s m
      · exact ih
      · exact putT_at ih
    · subst heq
      rw [if_neg (by omega)] at ih
      rw [if_pos (by omega), upS_self, hns]
      rw [hj] at hom; cases hom
      exact putT_at ih
    · rw [if_pos (by omega)] at ih ⊢
      rw [upS_ne (by omega)]
      cases hsm : s m
      · exact ih
      · simp only [cond_true]
        by_cases hd : oper.dst = some t
        · have hne : om.dst ≠ some t := by
            intro hd'
            rcases regOk_pair cx.reg hgt hj hom with hb | ⟨h1, _, _⟩
            · have := msk_closed hE (S := fun k => s k = true) hs m j om hom (hs m om hsm hom) hb
              rw [hns] at this; cases this
            · rw [touch_of hd (.inr hd')] at h1; cases h1
          rw [putT_ne hne, ih]
          exact putT_eq hd
        · rw [putT_ne hd] at ih ⊢
          exact putT_at ih
theorem Cx.tmAll (cx : Cx P o ops base nt f v M W ts) {s : Nat → Bool} (hs : ∀ k, k < ops.size → s k = true) : ∀ m, m ≤ ops.size → ∀ t, tmS ops v (f 0).1 s m t = (f m).1 t := by
  intro m
  induction m with
  | zero => intro _ t; rfl
  | succ m ih =>
    intro hm t
    obtain ⟨om, hom⟩ := getop (show m < ops.size by omega)
    simp only [tmS, hom, Option.bind_some, hs m (by omega), cond_true, (cx.tr.step m om hom).2]
    exact putT_at (ih (by omega) t)
def vbF (f : Nat → Tm × H × Nat) (base n p : Nat) : FH := ⟨fun i => if 256 * base + p ≤ i ∧ i < 256 * base + n then HeapC.get (f (i - 256 * base + 1)).2.1 i else HeapC.get (f p).2.1 i⟩
theorem vbF_own {n p k : Nat} (h : p ≤ k) (h' : k < n) : HeapC.get (vbF f base n p) (256 * base + k) = HeapC.get (f (k + 1)).2.1 (256 * base + k) := by
  show (if _ then _ else _) = _
  rw [if_pos ⟨by omega, by omega⟩, Nat.add_sub_cancel_left]
theorem vbF_not {n p i : Nat} (h : ¬ (256 * base + p ≤ i ∧ i < 256 * base + n)) : HeapC.get (vbF f base n p) i = HeapC.get (f p).2.1 i := by
  show (if _ then _ else _) = _
  rw [if_neg h]
theorem Cx.vbD (cx : Cx P o ops base nt f v M W ts) {p i : Nat} (hp : p ≤ ops.size) (h : Dn M p i) : HeapC.get (vbF f base ops.size p) i = HeapC.get (f p).2.1 i := by
  refine vbF_not fun hh => cx.can.notown hp h ⟨hh.1, ?_⟩
  have : ops.size ≤ 256 := by
    by_cases e : ops.size = 0
    · omega
    · have := cx.k256 (show ops.size - 1 < ops.size by omega); omega
  omega
def nWr (ops : Array Oper) (k : Nat) : Prop := ∀ oper, ops[k]? = some oper → cls oper.op ≠ 3
theorem Cx.walk1 (cx : Cx P o ops base nt f v M W ts) {k : Nat} (hk : k < ops.size) (h : nWr ops k) :
    (f (k + 1)).2.2 = (f k).2.2 ∧ ∀ i, i ≠ 256 * base + k → HeapC.get (f (k + 1)).2.1 i = HeapC.get (f k).2.1 i := by
  obtain ⟨oper, ho⟩ := getop hk
  obtain ⟨hc, upd, hA, _, _, _⟩ := step_nonW (h oper ho) (cx.tr.step k oper ho).1
  refine ⟨hc, fun i hi => ?_⟩
  rw [hA]
  cases upd with
  | none => rfl
  | some b => simp only [HeapC.get_set, hi, if_false]
theorem Cx.walk (cx : Cx P o ops base nt f v M W ts) {p q : Nat} (hpq : p ≤ q) (hq : q ≤ ops.size) (h : ∀ k, p ≤ k → k < q → nWr ops k) :
    (f q).2.2 = (f p).2.2 ∧ ∀ i, (∀ k, p ≤ k → k < q → i ≠ 256 * base + k) → HeapC.get (f q).2.1 i = HeapC.get (f p).2.1 i := by
  induction q with
  | zero => have : p = 0 := by omega
            subst this; exact ⟨rfl, fun _ _ => rfl⟩
  | succ q ih =>
    by_cases e : p = q + 1
    · subst e; exact ⟨rfl, fun _ _ => rfl⟩
    · obtain ⟨h1, h2⟩ := ih (by omega) (by omega) (fun k a b => h k a (by omega))
      obtain ⟨h3, h4⟩ := cx.walk1 (show q < ops.size by omega) (h q (by omega) (by omega))
      refine ⟨h3.trans h1, fun i hi => ?_⟩
      rw [h4 i (hi q (by omega) (by omega)), h2 i (fun k a b => hi k a (by omega))]
theorem next_ex (ops : Array Oper) : ∀ d p, ops.size - p = d → p ≤ ops.size → ∃ p', p ≤ p' ∧ p' ≤ ops.size ∧ (p' = ops.size ∨ ∃ oper, ops[p']? = some oper ∧ cls oper.op = 3) ∧ ∀ k, p ≤ k → k < p' → nWr ops k := by
  intro d
  induction d with
  | zero => intro p hd hp; exact ⟨p, Nat.le_refl _, hp, .inl (by omega), fun k a b => by omega⟩
  | succ d ih =>
    intro p hd hp
    obtain ⟨oper, ho⟩ := getop (show p < ops.size by omega)
    by_cases hc : cls oper.op = 3
    · exact ⟨p, Nat.le_refl _, hp, .inr ⟨oper, ho, hc⟩, fun k a b => by omega⟩
    · obtain ⟨p', h1, h2, h3, h4⟩ := ih (p + 1) (by omega) (by omega)
      refine ⟨p', by omega, h2, h3, fun k a b => ?_⟩
      by_cases e : k = p
      · subst e; intro oper' ho'; rw [ho] at ho'; cases ho'; exact hc
      · exact h4 k (by omega) b
def Gd (f : Nat → Tm × H × Nat) (μ0 : Mu) (w0 : World) (m : ME) : Prop := w0.heap.size ≤ m.b ∨ ∃ j mj, μ0 j = some mj ∧ mj.b = m.b ∧ wrB (HeapC.get (f 0).2.1 j) = true
structure Inv (ops : Array Oper) (base nt : Nat) (f : Nat → Tm × H × Nat) (v : Nat → Value) (M : Nat → Mu) (μ0 : Mu) (w0 : World) (df : List Deferred) (s : Nat → Bool) (p : Nat) (μ : Mu) (a : Act) (w : World) : Prop where
  hpn : p ≤ ops.size
  pre : ∀ k oper, k < p → ops[k]? = some oper → cls oper.op = 3 → s k = true
  nW : ∀ k, s k = true → p ≤ k → nWr ops k
  wp : p = ops.size ∨ ∃ oper, ops[p]? = some oper ∧ cls oper.op = 3
  cl : closedS ops s
  le0 : μ0.le μ
  dom : ∀ i, μ i ≠ none → Dn M p i ∨ ∃ k, s k = true ∧ p ≤ k ∧ k < ops.size ∧ i = 256 * base + k ∧ wrB (HeapC.get (f (k + 1)).2.1 i) = true ∧ Dn M (k + 1) i
  ny : ∀ k, k < p → s k = false → μ (256 * base + k) = none ∧ HeapC.get (f p).2.1 (256 * base + k) = HeapC.get (f (k + 1)).2.1 (256 * base + k)
  rel : R μ (vbF f base ops.size p) w
  tmr : TmR μ (tmS ops v (f 0).1 s ops.size) nt a.tmps
  df : a.defers = df
  os : w.os = w0.os
  tape : w.tape = w0.tape
  output : w.output = w0.output
  size : w0.heap.size ≤ w.heap.size
  fr : ∀ b, b < w0.heap.size → (∀ i m, μ0 i = some m → wrB (HeapC.get (f 0).2.1 i) = true → m.b ≠ b) → w.heap[b]? = w0.heap[b]?
  newb : ∀ i m, μ0 i = none → μ i = some m → Gd f μ0 w0 m
variable {μ0 : Mu} {w0 : World} {df : List Deferred}
theorem Inv.gd (cx : Cx P o ops base nt f v M W ts) (hM : M 0 = μ0) {s : Nat → Bool} {p : Nat} {a : Act} (I : Inv ops base nt f v M μ0 w0 df s p μ a w) {i : Nat} {m : ME} (hm : μ i = some m)
    (hw : wrB (HeapC.get (vbF f base ops.size p) i) = true) : Gd f μ0 w0 m := by
  cases e : μ0 i with
  | none => exact I.newb i m e hm
  | some m0 =>
    have := I.le0 i m0 e
    rw [hm] at this; cases this
    have hd0 : Dn M 0 i := by unfold Dn; rw [hM, e]; simp
    have hdp := cx.can.mono (Nat.le_refl _) (Nat.zero_le p) I.hpn hd0
    rw [cx.vbD I.hpn hdp] at hw
    exact .inr ⟨i, _, e, rfl, cx.can.wr (Nat.le_refl _) (Nat.zero_le p) I.hpn hd0 hw⟩
theorem Gd.ne {b : Nat} {m : ME} (h : Gd f μ0 w0 m) (hb : b < w0.heap.size) (hn : ∀ i m, μ0 i = some m → wrB (HeapC.get (f 0).2.1 i) = true → m.b ≠ b) : m.b ≠ b := by
  rcases h with h | ⟨j, mj, h1, h2, h3⟩
  · omega
  · rw [← h2]; exact hn j mj h1 h3
theorem closed_up {s : Nat → Bool} (hs : closedS ops s) {j : Nat} {oper : Oper} (hj : ops[j]? = some oper) (hp : ∀ e ∈ oper.after.toList, Region.binds .any e = true → s e.on = true) : closedS ops (upS s j) := by
  intro k o' hk ho e he hb
  have hor : s e.on = true → upS s j e.on = true := fun h => by simp [upS, h]
  rcases upS_true hk with h | rfl
  · exact hor (hs k o' h ho e he hb)
  · rw [hj] at ho; cases ho; exact hor (hp e he hb)
theorem Inv.step_nw (cx : Cx P o ops base nt f v M W ts) (hM : M 0 = μ0) {s : Nat → Bool} {p : Nat} {a : Act} (I : Inv ops base nt f v M μ0 w0 df s p μ a w) {j : Nat} {oper : Oper} (hj : ops[j]? = some oper) (hns : s j = false)
    (hp : ∀ e ∈ oper.after.toList, Region.binds .any e = true → s e.on = true) (hc : cls oper.op ≠ 3) {ro : Option Nat} {n : Nat} {K : Act → World → Prop} {Q : Exit → Act → World → Prop}
    (hK : ∀ μ' a' w', Inv ops base nt f v M μ0 w0 df (upS s j) p μ' a' w' → K a' w') : wpOpIn (wd ro) n P ops Q j K a w := by
  have hE := regOk_edges cx.reg
  have hjn := getop_lt hj
  have hj256 := cx.k256 hjn
  obtain ⟨hst, hput⟩ := cx.tr.step j oper hj
  obtain ⟨hcc, upd, hA, hu1, hu2, hall⟩ := step_nonW hc hst
  have hread : ∀ t ∈ tmpsOf ops oper, (f j).1 t = tmS ops v (f 0).1 s ops.size t := fun t ht => (cx.read I.cl hj hns hp ht).symm
  have hb0 := cx.can.bc 0 (Nat.zero_le _)
  have hbp : base < (f p).2.2 := cx.can.bc p I.hpn
  have hheap : cls oper.op = 1 → ∀ y, rid ops (f j).1 oper = some y → HeapC.get (vbF f base ops.size p) y = HeapC.get (f j).2.1 y := by
    intro h1 y hy
    have hdy : Dn M j y := by
      have hval : ∃ t x, (f j).1 t = some x ∧ ridV x = some y := by
        have : ∃ z x, evalO (f j).1 z = some x ∧ ridV x = some y := by
          unfold rid at hy
          split at hy
          · unfold ridOf at hy
            split at hy
            · simp only [Option.bind_eq_some_iff] at hy; obtain ⟨x, a1, a2⟩ := hy; exact ⟨_, x, a1, a2⟩
            · simp only [Option.bind_eq_some_iff] at hy; obtain ⟨x, a1, a2⟩ := hy; exact ⟨_, x, a1, a2⟩
            · simp only [Option.bind_eq_some_iff] at hy; obtain ⟨x, a1, a2⟩ := hy; exact ⟨_, x, a1, a2⟩
            · simp only [Option.bind_eq_some_iff] at hy; obtain ⟨z, _, x, a1, a2⟩ := hy; exact ⟨z, x, a1, a2⟩
            · cases hy
          · cases hy
        obtain ⟨z, x, a1, a2⟩ := this
        cases z with
        | tmp t => exact ⟨t, x, a1, a2⟩
        | const cst =>
          simp only [evalO] at a1
          cases hpl : plainV cst with
          | false => simp [hpl] at a1
          | true =>
            simp [hpl] at a1; subst a1
            rw [plainV_rid hpl] at a2; cases a2
        | global g => simp [evalO] at a1
        | func g => simp [evalO] at a1; subst a1; simp [ridV] at a2
      obtain ⟨t, x, hx, hrx⟩ := hval
      obtain ⟨x', _, hv⟩ := (cx.can.tm j (by omega)).val t x hx
      exact hv.rid hrx
    have hny : ∀ k, j ≤ k → k < ops.size → y ≠ 256 * base + k := fun k hk hkn e => cx.can.notown (by omega) hdy ⟨by omega, by have := cx.k256 hkn; omega⟩
    have hone : ∀ k, k < ops.size → (∀ ok, ops[k]? = some ok → cls ok.op = 3 → (msk ops k).testBit j = false ∧ (msk ops j).testBit k = false) → y ≠ 256 * base + k → HeapC.get (f (k + 1)).2.1 y = HeapC.get (f k).2.1 y := by
      intro k hk hun hyk
      obtain ⟨ok, hok⟩ := getop hk
      by_cases h3 : cls ok.op = 3
      · obtain ⟨u1, u2⟩ := hun ok hok h3
        exact (cx.lw j k oper ok hj hok h1 h3 u1 u2 y hy).symm
      · exact (cx.walk1 hk (fun o' ho' => by rw [hok] at ho'; cases ho'; exact h3)).2 y hyk
    have hback : ∀ k, p ≤ k → k < j → ∀ ok, ops[k]? = some ok → cls ok.op = 3 → (msk ops k).testBit j = false ∧ (msk ops j).testBit k = false := by
      intro k hpk hkj ok hok h3
      refine ⟨?_, ?_⟩
      · rw [Bool.eq_false_iff]; intro hb; have := msk_lt hE k j hb; omega
      · rw [Bool.eq_false_iff]
        intro hb
        have hsk := msk_closed hE (S := fun k => s k = true) I.cl j k oper hj hp hb
        exact I.nW k hsk hpk ok hok h3
    have hfwd : ∀ k, j ≤ k → k < p → ∀ ok, ops[k]? = some ok → cls ok.op = 3 → (msk ops k).testBit j = false ∧ (msk ops j).testBit k = false := by
      intro k hjk hkp ok hok h3
      refine ⟨?_, ?_⟩
      · rw [Bool.eq_false_iff]; intro hb
        have hsk := I.pre k ok hkp hok h3
        have := msk_closed hE (S := fun k => s k = true) I.cl k j ok hok (I.cl k ok hsk hok) hb
        rw [hns] at this; cases this
      · rw [Bool.eq_false_iff]; intro hb; have := msk_lt hE j k hb; omega
    by_cases hown : 256 * base + p ≤ y ∧ y < 256 * base + ops.size
    · -- a block that this region laid
      obtain ⟨k, rfl⟩ : ∃ k, y = 256 * base + k := ⟨y - 256 * base, by omega⟩
      have hpk : p ≤ k := by omega
      have hkn : k < ops.size := by omega
      have hkj : k < j := by
        by_cases hh : k < j
        · exact hh
        · exact absurd rfl (hny k (by omega) hkn)
      rw [vbF_own hpk hkn]
      have : ∀ q, k + 1 ≤ q → q ≤ j → HeapC.get (f q).2.1 (256 * base + k) = HeapC.get (f (k + 1)).2.1 (256 * base + k) := by
        intro q
        induction q with
        | zero => intro h; omega
        | succ q ih =>
          intro h h'
          by_cases e : k = q
          · subst e; rfl
          · rw [hone q (by omega) (hback q (by omega) (by omega)) (by omega), ih (by omega) (by omega)]
      exact (this j (by omega) (Nat.le_refl _)).symm
    · rw [vbF_not hown]
      by_cases hpj : p ≤ j
      · have : ∀ q, p ≤ q → q ≤ j → HeapC.get (f q).2.1 y = HeapC.get (f p).2.1 y := by
          intro q
          induction q with
          | zero => intro h _; have : p = 0 := by omega
                    subst this; rfl
          | succ q ih =>
            intro h h'
            by_cases e : p = q + 1
            · subst e; rfl
            · rw [hone q (by omega) (hback q (by omega) (by omega)) (by omega), ih (by omega) (by omega)]
        exact (this j hpj (Nat.le_refl _)).symm
      · have : ∀ q, j ≤ q → q ≤ p → HeapC.get (f q).2.1 y = HeapC.get (f j).2.1 y := by
          have hpn := I.hpn
          intro q
          induction q with
          | zero => intro h _; have : j = 0 := by omega
                    subst this; rfl
          | succ q ih =>
            intro h h'
            by_cases e : j = q + 1
            · subst e; rfl
            · rw [hone q (by omega) (hfwd q (by omega) (by omega)) (hny q (by omega) (by omega)), ih (by omega) (by omega)]
        exact this p (by omega) (Nat.le_refl _)
  have hFH := hall (H' := FH) (fun _ _ _ _ _ => none) (tmS ops v (f 0).1 s ops.size) (vbF f base ops.size p) (f p).2.2 hread hheap
  have hON : OS (H := FH) P (fun _ _ _ _ _ => none) := ⟨(fun _ _ _ _ _ _ h => by cases h), (fun _ _ _ _ _ _ _ _ _ _ _ _ h => by cases h)⟩
  have hid : μ (256 * base + j) = none := by
    cases e : μ (256 * base + j) with
    | none => rfl
    | some m =>
      by_cases hjp : j < p
      · have := (I.ny j hjp hns).1; rw [e] at this; cases this
      · rcases I.dom _ (by rw [e]; simp) with hD | ⟨k, h1, _, _, h2, _⟩
        · exact absurd ⟨by omega, by omega⟩ (cx.can.notown I.hpn hD)
        · have : k = j := by omega
          subst this; rw [hns] at h1; cases h1
  have hfresh : Fresh μ (f p).2.2 := by
    intro i hi
    cases e : μ i with
    | none => rfl
    | some m =>
      rcases I.dom i (by rw [e]; simp) with hD | ⟨k, _, _, h1, h2, _⟩
      · have := cx.can.lt I.hpn hD; omega
      · have := cx.k256 h1; omega
  refine step_wp hON hj hFH I.tmr I.rel hid hfresh fun v' μ1 w1 hv hE1 => hK μ1 _ w1 ?_
  have hnewid : ∀ i, μ i = none → μ1 i ≠ none → i = 256 * base + j ∧ 2 ≤ cls oper.op ∧ wantedA ops (f j).1 oper = some true := by
    intro i h0 h1
    rcases hE1.new i h0 h1 with ⟨h, h2, h3⟩ | ⟨h, h'⟩
    · exact ⟨h, h2, by rw [wantedA_congr hread]; exact h3⟩
    · omega
  have hupd : ∀ i, μ i = none → μ1 i ≠ none → ∃ b, upd = some b ∧ wrB (some b) = true ∧ ridV (v j) = some (256 * base + j) := by
    intro i h0 h1
    obtain ⟨_, h2, h3⟩ := hnewid i h0 h1
    rcases hu1 with h | ⟨b, hb, hw, hr, _, _⟩
    · exact absurd ⟨h2, h3⟩ (hu2 h)
    · exact ⟨b, hb, hw, hr⟩
  have hgd : ∀ i m, μ0 i = none → μ1 i = some m → Gd f μ0 w0 m := by
    intro i m h0 h1
    cases e : μ i with
    | some m' =>
      have := hE1.mu i m' e
      rw [h1] at this; cases this
      exact I.newb i _ h0 e
    | none =>
      rcases hE1.newb i m e h1 with h | ⟨k, mk, hk, hkb, hkw⟩
      · exact .inl (Nat.le_trans I.size h)
      · have := I.gd cx hM hk hkw
        unfold Gd at this ⊢
        rw [← hkb]; exact this
  refine { hpn := I.hpn, pre := ?_, nW := ?_, wp := I.wp, cl := closed_up I.cl hj hp, le0 := fun i m h => hE1.mu i m (I.le0 i m h), dom := ?_, ny := ?_, rel := ?_, tmr := ?_, df := ?_,
           os := hE1.os.trans I.os, tape := hE1.tape.trans I.tape, output := hE1.output.trans I.output, size := Nat.le_trans I.size hE1.size, fr := ?_, newb := hgd }
  · intro k ok hk hok h3
    have := I.pre k ok hk hok h3
    simp [upS, this]
  · intro k hk hpk
    rcases upS_true hk with h | rfl
    · exact I.nW k h hpk
    · intro o' ho'; rw [hj] at ho'; cases ho'; exact hc
  · intro i hi
    cases e : μ i with
    | some m =>
      rcases I.dom i (by rw [e]; simp) with hD | ⟨k, h1, h2⟩
      · exact .inl hD
      · exact .inr ⟨k, by simp [upS, h1], h2⟩
    | none =>
      obtain ⟨b, hb, hw, hr⟩ := hupd i e hi
      obtain ⟨rfl, _, _⟩ := hnewid i e hi
      have hDj : Dn M (j + 1) (256 * base + j) := by
        obtain ⟨x', hx⟩ := cx.can.val j hjn
        exact hx.rid hr
      by_cases hjp : j < p
      · exact .inl (cx.can.mono (Nat.le_refl _) (show j + 1 ≤ p by omega) I.hpn hDj)
      · refine .inr ⟨j, upS_self s j, by omega, hjn, rfl, ?_, hDj⟩
        rw [hA, hb]
        simp only [HeapC.get_set, if_true]
        exact hw
  · intro k hk hsk
    have hkj : k ≠ j := by intro e; subst e; rw [upS_self] at hsk; cases hsk
    rw [upS_ne hkj] at hsk
    obtain ⟨h1, h2⟩ := I.ny k hk hsk
    refine ⟨?_, h2⟩
    cases e : μ1 (256 * base + k) with
    | none => rfl
    | some m =>
      have := (hnewid _ h1 (by rw [e]; simp)).1
      omega
  · refine hE1.rel.cong fun i hi => ?_
    cases hu : upd with
    | none => rfl
    | some b =>
      simp only
      rw [HeapC.get_set]
      by_cases e : i = 256 * base + j
      · subst e
        have hAb : HeapC.get (f (j + 1)).2.1 (256 * base + j) = some b := by rw [hA, hu]; simp only [HeapC.get_set, if_true]
        simp only [if_true]
        by_cases hjp : j < p
        · rw [vbF_not (by omega), (I.ny j hjp hns).2, hAb]
        · rw [vbF_own (by omega) hjn, hAb]
      · simp only [e, if_false]
  · obtain ⟨_, _, _, hd, _⟩ := stepOp_some hst
    have h0 := TmR.put (a := a) (I.tmr.mono hE1.mu) hd hv
    refine ⟨h0.size, fun t x hx => h0.val t x ?_⟩
    rw [cx.tmUp I.cl hj hns t ops.size (Nat.le_refl _), if_pos hjn] at hx
    exact hx
  · rw [← I.df]; cases oper.dst <;> rfl
  · intro b hb hn
    rw [hE1.fr b (Nat.lt_of_lt_of_le hb I.size) ?_, I.fr b hb hn]
    intro i m hm hw
    exact (I.gd cx hM hm hw).ne hb hn
end
end Go.Ab

namespace Go.Ab
open Go
set_option linter.unusedVariables false
set_option linter.unusedSimpArgs false
set_option linter.unusedSectionVars false
variable {H : Type} [HeapC H] {P : Program} {μ : Mu} {A : H} {w : World}
variable {o : Orc H} {ops : Array Oper} {base nt : Nat} {f : Nat → Tm × H × Nat} {v : Nat → Value} {M : Nat → Mu} {W : Nat → World} {ts : Nat → Array Value}
variable {μ0 : Mu} {w0 : World} {df : List Deferred}
theorem Mu.on_none {D : Nat → Prop} {i : Nat} (h : μ i = none) : μ.on D i = none := by unfold Mu.on; split <;> simp [h]
theorem R.onD {D : Nat → Prop} (hR : R μ A w) (hs : ∀ i, D i → BlkSup D (HeapC.get A i)) : R (μ.on D) A w where
  blk := fun i m h => let ⟨hd, hm⟩ := Mu.on_some h; (hR.blk i m hm).onS (hs i hd)
  inj := fun i j mi mj hi hj => hR.inj i j mi mj (Mu.on_some hi).2 (Mu.on_some hj).2
  lt := fun i m h => hR.lt i m (Mu.on_some h).2
theorem dead_of_wr' {b : Option ABlk} (h : wrB b = true) : deadB b = false := by
  unfold wrB at h; unfold deadB
  split <;> simp_all
theorem ro_of_wr' {b : Option ABlk} (h : wrB b = true) : roB b = false := by
  unfold wrB at h; unfold roB
  split <;> simp_all
theorem Inv.step_w (hO : OS P o) (cx : Cx P o ops base nt f v M W ts) (hM : M 0 = μ0) {s : Nat → Bool} {p : Nat} {a : Act} (I : Inv ops base nt f v M μ0 w0 df s p μ a w) {j : Nat} {oper : Oper} (hj : ops[j]? = some oper) (hns : s j = false)
    (hp : ∀ e ∈ oper.after.toList, Region.binds .any e = true → s e.on = true) (hc : cls oper.op = 3) {ro : Option Nat} {n : Nat} {K : Act → World → Prop} {Q : Exit → Act → World → Prop}
    (hK : ∀ p' μ' a' w', Inv ops base nt f v M μ0 w0 df (upS s j) p' μ' a' w' → K a' w') : wpOpIn (wd ro) n P ops Q j K a w := by
  have hE := regOk_edges cx.reg
  have hjn := getop_lt hj
  have hjp : j = p := by
    rcases Nat.lt_trichotomy j p with h | h | h
    · have := I.pre j oper h hj hc; rw [hns] at this; cases this
    · exact h
    · rcases I.wp with h' | ⟨op', ho', hc'⟩
      · omega
      · have hb : (msk ops j).testBit p = true := by
          rcases regOk_pair cx.reg h ho' hj with hb | ⟨_, _, h3⟩
          · exact hb
          · exact absurd ⟨hc', hc⟩ h3
        have hsp := msk_closed hE (S := fun k => s k = true) I.cl j p oper hj hp hb
        exact absurd hc' (I.nW p hsp (Nat.le_refl _) op' ho')
  subst hjp
  have hj256 := cx.k256 hjn
  obtain ⟨hst, hput⟩ := cx.tr.step j oper hj
  have hread : ∀ t ∈ tmpsOf ops oper, tmS ops v (f 0).1 s ops.size t = (f j).1 t := fun t ht => cx.read I.cl hj hns hp ht
  have hpn := I.hpn
  have hbp : base < (f j).2.2 := cx.can.bc j hpn
  have hμr : R (μ.on (Dn M j)) (f j).2.1 w := by
    have h0 : R (μ.on (Dn M j)) (vbF f base ops.size j) w := I.rel.onD fun i hd => by rw [cx.vbD hpn hd]; exact cx.can.suph hpn hd
    refine h0.cong fun i hi => ?_
    cases e : (μ.on (Dn M j)) i with
    | none => exact absurd e hi
    | some m => exact (cx.vbD hpn (Mu.on_some e).1).symm
  have hid : (μ.on (Dn M j)) (256 * base + j) = none := Mu.on_not (fun hd => cx.can.notown hpn hd ⟨by omega, by omega⟩)
  have hfresh : Fresh (μ.on (Dn M j)) (f j).2.2 := fun i hi => Mu.on_not (fun hd => by have := cx.can.lt hpn hd; omega)
  let tm1 : Tm := fun t => if t ∈ tmpsOf ops oper then (f j).1 t else none
  have htm1 : TmR (μ.on (Dn M j)) tm1 nt a.tmps := by
    refine ⟨I.tmr.size, fun t x hx => ?_⟩
    have hx' : t ∈ tmpsOf ops oper ∧ (f j).1 t = some x := by
      simp only [tm1] at hx
      split at hx
      · rename_i h; exact ⟨h, hx⟩
      · cases hx
    obtain ⟨x', h1, h2⟩ := I.tmr.val t x (by rw [hread t hx'.1]; exact hx'.2)
    exact ⟨x', h1, h2.onS (cx.can.suptm hpn hx'.2)⟩
  have hst1 : stepOp P o ops base j nt tm1 (f j).2.1 (f j).2.2 oper = some (v j, (f (j + 1)).2.1, (f (j + 1)).2.2) := by
    rw [stepOp_congr (tm' := (f j).1)]
    · exact hst
    · intro t ht; simp only [tm1, ht, if_true]
  obtain ⟨p', hp1, hp2, hp3, hp4⟩ := next_ex ops _ (j + 1) rfl (by omega)
  obtain ⟨hwc, hwk⟩ := cx.walk hp1 hp2 hp4
  refine step_wp hO hj hst1 htm1 hμr hid hfresh fun v' μ1 w1 hv hE1 => ?_
  have hDmono : ∀ i, Dn M j i → Dn M (j + 1) i := fun i h => cx.can.mono1 (Nat.le_refl _) hjn h
  have hDp' : ∀ i, Dn M (j + 1) i → Dn M p' i := fun i h => cx.can.mono (Nat.le_refl _) hp1 hp2 h
  have hEid : ∀ i, μ i ≠ none → ¬ Dn M (j + 1) i → ∃ k, s k = true ∧ j < k ∧ k < ops.size ∧ i = 256 * base + k ∧ wrB (HeapC.get (f (k + 1)).2.1 i) = true ∧ Dn M (k + 1) i := by
    intro i h1 h2
    rcases I.dom i h1 with h | ⟨k, a1, a2, a3⟩
    · exact absurd (hDmono i h) h2
    · refine ⟨k, a1, ?_, a3⟩
      rcases Nat.lt_or_eq_of_le a2 with h | h
      · exact h
      · subst h; rw [hns] at a1; cases a1
  have hμ1E : ∀ k, k < ops.size → (μ.on (Dn M j)) (256 * base + k) = none → μ1 (256 * base + k) ≠ none → k = j := by
    intro k hk h0 h1
    have := cx.k256 hk
    rcases hE1.new _ h0 h1 with h | h
    · have := h.1; omega
    · omega
  have hDold : ∀ i m, μ i = some m → Dn M (j + 1) i → Dn M j i := by
    intro i m hm hd
    rcases I.dom i (by rw [hm]; simp) with h | ⟨k, a1, a2, a3, a4, _⟩
    · exact h
    · have hk256 := cx.k256 a3
      have hkj : k ≠ j := by intro e; subst e; rw [hns] at a1; cases a1
      exact absurd (show ownF base (j + 1) i from ⟨by omega, by omega⟩) (cx.can.notown (by omega) hd)
  let μ2 : Mu := fun i => if M (j + 1) i = none then μ i else μ1 i
  have hμ2D : ∀ i, Dn M (j + 1) i → μ2 i = μ1 i := fun i h => by simp only [μ2]; rw [if_neg h]
  have hμ2N : ∀ i, ¬ Dn M (j + 1) i → μ2 i = μ i := fun i h => by
    simp only [μ2]
    rw [if_pos]
    cases e : M (j + 1) i with
    | none => rfl
    | some m => exact absurd (by unfold Dn; rw [e]; simp) h
  have hle2 : μ.le μ2 := by
    intro i m hm
    by_cases hd : Dn M (j + 1) i
    · rw [hμ2D i hd]
      have h0 := hDold i m hm hd
      exact hE1.mu i m (by rw [Mu.on_of h0]; exact hm)
    · rw [hμ2N i hd]; exact hm
  have hle1 : (μ1.on (Dn M (j + 1))).le μ2 := by
    intro i m hm
    obtain ⟨hd, h1⟩ := Mu.on_some hm
    rw [hμ2D i hd]; exact h1
  have hv2 : VR μ2 (v j) v' := (hv.onS (cx.can.supv hjn)).mono hle1
  have hgd1 : ∀ i m, μ0 i = none → μ1 i = some m → Gd f μ0 w0 m := by
    intro i m h0 h1
    cases e : (μ.on (Dn M j)) i with
    | some m' =>
      have := hE1.mu i m' e
      rw [h1] at this; cases this
      exact I.newb i _ h0 (Mu.on_some e).2
    | none =>
      rcases hE1.newb i m e h1 with h | ⟨k, mk, hk, hkb, hkw⟩
      · exact .inl (Nat.le_trans I.size h)
      · obtain ⟨hd, hk'⟩ := Mu.on_some hk
        have := I.gd cx hM hk' (by rw [cx.vbD hpn hd]; exact hkw)
        unfold Gd at this ⊢
        rw [← hkb]; exact this
  have hvbE : ∀ k, s k = true → j < k → k < ops.size → HeapC.get (vbF f base ops.size j) (256 * base + k) = HeapC.get (f (k + 1)).2.1 (256 * base + k) := fun k _ h1 h2 => vbF_own (by omega) h2
  have hvb'E : ∀ k, s k = true → j < k → k < ops.size → HeapC.get (vbF f base ops.size p') (256 * base + k) = HeapC.get (f (k + 1)).2.1 (256 * base + k) := by
    intro k _ h1 h2
    by_cases hkp : p' ≤ k
    · exact vbF_own hkp h2
    · rw [vbF_not (by omega)]
      have hk1 : k + 1 ≤ p' := by omega
      exact (cx.walk hk1 hp2 (fun q a b => hp4 q (by omega) b)).2 _ (fun q a b => by omega)
  have hvb'D : ∀ i, Dn M (j + 1) i → HeapC.get (vbF f base ops.size p') i = HeapC.get (f (j + 1)).2.1 i := by
    intro i hd
    rw [cx.vbD hp2 (hDp' i hd)]
    refine hwk i fun k a b => ?_
    have := cx.k256 (show k < ops.size by omega)
    intro e
    exact cx.can.notown (show j + 1 ≤ ops.size by omega) hd ⟨by omega, by omega⟩
  have hEfr : ∀ i m, μ i = some m → ¬ Dn M (j + 1) i → w1.heap[m.b]? = w.heap[m.b]? := by
    intro i m hm hnd
    obtain ⟨k, a1, a2, a3, rfl, a5, _⟩ := hEid i (by rw [hm]; simp) hnd
    refine hE1.fr m.b (I.rel.lt _ m hm) fun i' m' hi' hw' => ?_
    obtain ⟨hd', hi''⟩ := Mu.on_some hi'
    have hwv : wrB (HeapC.get (vbF f base ops.size j) i') = true := by rw [cx.vbD hpn hd']; exact hw'
    refine I.rel.inj i' _ m' m hi'' hm (fun e => hnd (e ▸ hDmono _ hd')) (dead_of_wr' hwv) ?_ (by rw [ro_of_wr' hwv]; simp)
    rw [hvbE k a1 a2 a3]; exact dead_of_wr' a5
  have hcross : ∀ i e mi me, μ1 i = some mi → Dn M (j + 1) i → μ e = some me → ¬ Dn M (j + 1) e → deadB (HeapC.get (f (j + 1)).2.1 i) = false → mi.b ≠ me.b := by
    intro i e mi me hi hdi he hde hdead
    obtain ⟨k, a1, a2, a3, rfl, a5, _⟩ := hEid e (by rw [he]; simp) hde
    have hvE : wrB (HeapC.get (vbF f base ops.size j) (256 * base + k)) = true := by rw [hvbE k a1 a2 a3]; exact a5
    cases e0 : (μ.on (Dn M j)) i with
    | some m0 =>
      have := hE1.mu i m0 e0
      rw [hi] at this; cases this
      obtain ⟨hd0, hm0⟩ := Mu.on_some e0
      refine I.rel.inj i _ mi me hm0 he (fun e => hde (e ▸ hdi)) ?_ (dead_of_wr' hvE) (by rw [ro_of_wr' hvE]; simp)
      rw [cx.vbD hpn hd0]
      cases hdd : deadB (HeapC.get (f j).2.1 i) with
      | false => rfl
      | true => have := hE1.dd i mi e0 hdd; rw [this] at hdead; cases hdead
    | none =>
      have hlt := I.rel.lt _ me he
      rcases hE1.newb i mi e0 hi with h | ⟨q, mq, hq, hqb, hqw⟩
      · omega
      · obtain ⟨hdq, hmq⟩ := Mu.on_some hq
        rw [← hqb]
        have hwq : wrB (HeapC.get (vbF f base ops.size j) q) = true := by rw [cx.vbD hpn hdq]; exact hqw
        exact I.rel.inj q _ mq me hmq he (fun e => hde (e ▸ hDmono _ hdq)) (dead_of_wr' hwq) (dead_of_wr' hvE) (by rw [ro_of_wr' hwq]; simp)
  refine hK p' μ2 _ w1 ?_
  refine { hpn := hp2, pre := ?_, nW := ?_, wp := hp3, cl := closed_up I.cl hj hp, le0 := fun i m h => hle2 i m (I.le0 i m h), dom := ?_, ny := ?_, rel := ⟨?_, ?_, ?_⟩, tmr := ?_, df := ?_,
           os := hE1.os.trans I.os, tape := hE1.tape.trans I.tape, output := hE1.output.trans I.output, size := Nat.le_trans I.size hE1.size, fr := ?_, newb := ?_ }
  · intro k ok hk hok h3
    rcases Nat.lt_trichotomy k j with h | h | h
    · have := I.pre k ok h hok h3; simp [upS, this]
    · subst h; exact upS_self s k
    · exact absurd h3 (hp4 k (by omega) hk ok hok)
  · intro k hk hpk
    rcases upS_true hk with h | rfl
    · exact I.nW k h (by omega)
    · omega
  · intro i hi
    by_cases hd : Dn M (j + 1) i
    · exact .inl (hDp' i hd)
    · rw [hμ2N i hd] at hi
      obtain ⟨k, a1, a2, a3, a4, a5, a6⟩ := hEid i hi hd
      by_cases hkp : p' ≤ k
      · exact .inr ⟨k, by simp [upS, a1], hkp, a3, a4, a5, a6⟩
      · exact .inl (cx.can.mono (Nat.le_refl _) (show k + 1 ≤ p' by omega) hp2 a6)
  · intro k hk hsk
    have hkj : k ≠ j := by intro e; subst e; rw [upS_self] at hsk; cases hsk
    rw [upS_ne hkj] at hsk
    have hkn : k < ops.size := by omega
    have hk256 := cx.k256 hkn
    by_cases hlt : k < j
    · obtain ⟨h1, h2⟩ := I.ny k hlt hsk
      have hr0 : (μ.on (Dn M j)) (256 * base + k) = none := Mu.on_none h1
      refine ⟨?_, ?_⟩
      · by_cases hd : Dn M (j + 1) (256 * base + k)
        · rw [hμ2D _ hd]
          cases e : μ1 (256 * base + k) with
          | none => rfl
          | some m => exact absurd (hμ1E k hkn hr0 (by rw [e]; simp)) hkj
        · rw [hμ2N _ hd]; exact h1
      · rw [hwk _ (fun q a b => by omega), ← h2]
        exact hE1.af _ hr0 (by omega) (fun h => hkj (by have := h.1; omega))
    · have hnd : ¬ Dn M (j + 1) (256 * base + k) := fun hd => cx.can.notown (by omega) hd ⟨by omega, by omega⟩
      refine ⟨?_, ?_⟩
      · rw [hμ2N _ hnd]
        cases e : μ (256 * base + k) with
        | none => rfl
        | some m =>
          obtain ⟨k', a1, a2, a3, a4, _⟩ := hEid _ (by rw [e]; simp) hnd
          have : k' = k := by omega
          subst this; rw [hsk] at a1; cases a1
      · exact (cx.walk (show k + 1 ≤ p' by omega) hp2 (fun q a b => hp4 q (by omega) b)).2 _ (fun q a b => by omega)
  · intro i m hm
    by_cases hd : Dn M (j + 1) i
    · rw [hμ2D i hd] at hm
      rw [hvb'D i hd]
      exact ((hE1.rel.blk i m hm).onS (cx.can.suph (by omega) hd)).mono hle1
    · rw [hμ2N i hd] at hm
      obtain ⟨k, a1, a2, a3, rfl, a5, _⟩ := hEid i (by rw [hm]; simp) hd
      have h0 := I.rel.blk _ m hm
      rw [hvbE k a1 a2 a3] at h0
      rw [hvb'E k a1 a2 a3]
      exact (h0.congr (hEfr _ m hm hd)).mono hle2
  · intro x y mx my hx hy hne h1 h2 h3
    by_cases hdx : Dn M (j + 1) x <;> by_cases hdy : Dn M (j + 1) y
    · rw [hμ2D x hdx] at hx; rw [hμ2D y hdy] at hy
      rw [hvb'D x hdx] at h1 h3; rw [hvb'D y hdy] at h2 h3
      exact hE1.rel.inj x y mx my hx hy hne h1 h2 h3
    · rw [hμ2D x hdx] at hx; rw [hμ2N y hdy] at hy
      rw [hvb'D x hdx] at h1
      exact hcross x y mx my hx hdx hy hdy h1
    · rw [hμ2N x hdx] at hx; rw [hμ2D y hdy] at hy
      rw [hvb'D y hdy] at h2
      exact (hcross y x my mx hy hdy hx hdx h2).symm
    · rw [hμ2N x hdx] at hx; rw [hμ2N y hdy] at hy
      obtain ⟨k, a1, a2, a3, e1, a5, _⟩ := hEid x (by rw [hx]; simp) hdx
      obtain ⟨l, b1, b2, b3, e2, b5, _⟩ := hEid y (by rw [hy]; simp) hdy
      subst e1; subst e2
      have hvx : wrB (HeapC.get (vbF f base ops.size j) (256 * base + k)) = true := by rw [hvbE k a1 a2 a3]; exact a5
      have hvy : wrB (HeapC.get (vbF f base ops.size j) (256 * base + l)) = true := by rw [hvbE l b1 b2 b3]; exact b5
      exact I.rel.inj _ _ mx my hx hy hne (dead_of_wr' hvx) (dead_of_wr' hvy) (by rw [ro_of_wr' hvx]; simp)
  · intro i m hm
    by_cases hd : Dn M (j + 1) i
    · rw [hμ2D i hd] at hm; exact hE1.rel.lt i m hm
    · rw [hμ2N i hd] at hm; exact Nat.lt_of_lt_of_le (I.rel.lt i m hm) hE1.size
  · obtain ⟨_, _, _, hd, _⟩ := stepOp_some hst
    have h0 := TmR.put (a := a) (I.tmr.mono hle2) hd hv2
    refine ⟨h0.size, fun t x hx => h0.val t x ?_⟩
    rw [cx.tmUp I.cl hj hns t ops.size (Nat.le_refl _), if_pos hjn] at hx
    exact hx
  · rw [← I.df]; cases oper.dst <;> rfl
  · intro b hb hn
    rw [hE1.fr b (Nat.lt_of_lt_of_le hb I.size) ?_, I.fr b hb hn]
    intro i m hm hw
    obtain ⟨hd, hm'⟩ := Mu.on_some hm
    exact (I.gd cx hM hm' (by rw [cx.vbD hpn hd]; exact hw)).ne hb hn
  · intro i m h0 hm
    by_cases hd : Dn M (j + 1) i
    · rw [hμ2D i hd] at hm; exact hgd1 i m h0 hm
    · rw [hμ2N i hd] at hm; exact I.newb i m h0 hm
end Go.Ab

namespace Go.Ab
open Go
set_option linter.unusedVariables false
set_option linter.unusedSimpArgs false
set_option linter.unusedSectionVars false
variable {H : Type} [HeapC H] {P : Program} {μ : Mu} {A : H} {w : World}
section
variable {o : Orc H} {ops : Array Oper} {base nt : Nat} {f : Nat → Tm × H × Nat} {v : Nat → Value} {M : Nat → Mu} {W : Nat → World} {ts : Nat → Array Value}
variable {μ0 : Mu} {w0 : World} {df : List Deferred}
theorem Can.new0 (hC : Can ops base nt f v ops.size M W ts) {k i : Nat} (hk : k ≤ ops.size) (h0 : ¬ Dn M 0 i) (h : Dn M k i) : (256 * base ≤ i ∧ i < 256 * base + ops.size) ∨ (256 * (f 0).2.2 ≤ i ∧ i < 256 * (f k).2.2) := by
  induction k with
  | zero => exact absurd h h0
  | succ k ih =>
    by_cases hd : Dn M k i
    · rcases ih (by omega) hd with h1 | h1
      · exact .inl h1
      · have := hC.cmono (Nat.le_refl _) (show k ≤ k + 1 by omega) hk
        exact .inr ⟨h1.1, by omega⟩
    · obtain ⟨oper, ho⟩ := getop (show k < ops.size by omega)
      rcases hC.newn (Nat.le_refl _) (by omega) ho hd h with ⟨h1, _⟩ | ⟨h1, h2⟩
      · exact .inl (by omega)
      · have := hC.cmono (Nat.le_refl _) (Nat.zero_le k) (by omega)
        exact .inr ⟨by omega, h2⟩
theorem ready_mem {md : Region.Mode} {listed : Array Bool} {i : Nat} : i ∈ Region.ready md ops listed ↔ ∃ oper, ops[i]? = some oper ∧ listed.getD i true = false ∧ ∀ e ∈ oper.after.toList, Region.binds md e = true → listed.getD e.on false = true := by
  simp only [Region.ready, List.mem_filter, List.mem_range, Bool.and_eq_true, Bool.not_eq_true']
  constructor
  · rintro ⟨h1, h2, h3⟩
    obtain ⟨oper, ho⟩ := getop h1
    refine ⟨oper, ho, h2, fun e he hb => ?_⟩
    rw [ho] at h3
    simp only [Option.map_some, Option.getD_some, Array.all_eq_true'] at h3
    have := h3 e (by simpa using he)
    simpa [hb] using this
  · rintro ⟨oper, ho, h2, h3⟩
    refine ⟨getop_lt ho, h2, ?_⟩
    rw [ho]
    simp only [Option.map_some, Option.getD_some, Array.all_eq_true']
    intro e he
    cases hb : Region.binds md e with
    | false => simp
    | true => simp [h3 e (by simpa using he) hb]
def unl (s : Nat → Bool) : Nat → Nat
  | 0 => 0
  | n + 1 => unl s n + cond (s n) 0 1
theorem unl_up {s : Nat → Bool} {j : Nat} (hs : s j = false) : ∀ n, unl (upS s j) n + (if j < n then 1 else 0) = unl s n := by
  intro n
  induction n with
  | zero => simp [unl]
  | succ n ih =>
    simp only [unl]
    by_cases e : n = j
    · subst e
      rw [upS_self, hs]
      simp only [Nat.lt_irrefl, if_false, Nat.add_zero] at ih
      simp [ih]
    · rw [upS_ne e]
      by_cases h : j < n
      · rw [if_pos h] at ih; rw [if_pos (by omega)]; omega
      · rw [if_neg h] at ih; rw [if_neg (by omega)]; omega
theorem unl_zero {s : Nat → Bool} : ∀ n, unl s n = 0 → ∀ k, k < n → s k = true := by
  intro n
  induction n with
  | zero => intro _ k hk; omega
  | succ n ih =>
    intro h k hk
    simp only [unl] at h
    by_cases e : k = n
    · subst e
      cases hs : s k with
      | true => rfl
      | false => rw [hs] at h; simp at h
    · exact ih (by omega) k (by omega)
theorem any_of_inv (hO : OS P o) (cx : Cx P o ops base nt f v M W ts) (hM : M 0 = μ0) {ro : Option Nat} {n : Nat} {Q : Exit → Act → World → Prop}
    (hQ : ∀ s p μ a w, (∀ k, k < ops.size → s k = true) → Inv ops base nt f v M μ0 w0 df s p μ a w → Q .normal a w) :
    ∀ (fuel : Nat) (listed : Array Bool) (s : Nat → Bool) (p : Nat) (μ : Mu) (a : Act) (w : World), listed.size = ops.size → (∀ k, k < ops.size → listed[k]? = some (s k)) → unl s ops.size ≤ fuel →
      Inv ops base nt f v M μ0 w0 df s p μ a w → wpAnyIn (wd ro) n P .any ops Q fuel listed a w := by
  have hE := regOk_edges cx.reg
  have hget : ∀ {listed : Array Bool} {s : Nat → Bool}, listed.size = ops.size → (∀ k, k < ops.size → listed[k]? = some (s k)) → ∀ k d, k < ops.size → listed.getD k d = s k := by
    intro listed s h1 h2 k d hk
    rw [Array.getD_eq_getD_getElem?, h2 k hk]; rfl
  have hall : ∀ {listed : Array Bool} {s : Nat → Bool}, listed.size = ops.size → (∀ k, k < ops.size → listed[k]? = some (s k)) → Region.ready .any ops listed = [] → ∀ k, k < ops.size → s k = true := by
    intro listed s h1 h2 hr k
    induction k using Nat.strongRecOn with
    | _ k ih =>
      intro hk
      cases hs : s k with
      | true => rfl
      | false =>
        exfalso
        obtain ⟨oper, ho⟩ := getop hk
        have : k ∈ Region.ready .any ops listed := ready_mem.2 ⟨oper, ho, by rw [hget h1 h2 k _ hk, hs], fun e he hb => by
          have hlt := edgesOk_spec _ 0 hE k oper (by simpa using ho) e he hb
          rw [hget h1 h2 e.on _ (by omega)]
          exact ih e.on (by omega) (by omega)⟩
        rw [hr] at this; cases this
  intro fuel
  induction fuel with
  | zero =>
    intro listed s p μ a w h1 h2 h3 I
    have hs := unl_zero ops.size (by omega : unl s ops.size = 0)
    refine ⟨?_, hQ s p μ a w hs I⟩
    cases hr : Region.ready .any ops listed with
    | nil => rfl
    | cons i l =>
      exfalso
      obtain ⟨oper, ho, h4, _⟩ := ready_mem.1 (show i ∈ Region.ready .any ops listed by rw [hr]; simp)
      rw [hget h1 h2 i _ (getop_lt ho), hs i (getop_lt ho)] at h4; cases h4
  | succ fuel ih =>
    intro listed s p μ a w h1 h2 h3 I
    refine ⟨fun hr => hQ s p μ a w (hall h1 h2 hr) I, fun i hi => ?_⟩
    obtain ⟨oper, ho, h4, h5⟩ := ready_mem.1 hi
    have hin := getop_lt ho
    rw [hget h1 h2 i _ hin] at h4
    have hp : ∀ e ∈ oper.after.toList, Region.binds .any e = true → s e.on = true := by
      intro e he hb
      have hlt := edgesOk_spec _ 0 hE i oper (by simpa using ho) e he hb
      rw [← hget h1 h2 e.on false (by omega)]
      exact h5 e he hb
    have hnext : ∀ p' μ' a' w', Inv ops base nt f v M μ0 w0 df (upS s i) p' μ' a' w' → wpAnyIn (wd ro) n P .any ops Q fuel (listed.setIfInBounds i true) a' w' := by
      intro p' μ' a' w' I'
      refine ih _ (upS s i) p' μ' a' w' (by simp [h1]) (fun k hk => ?_) ?_ I'
      · by_cases e : k = i
        · subst e; rw [upS_self]; simp [h1, hk]
        · rw [upS_ne e, Array.getElem?_setIfInBounds_ne (Ne.symm e)]; exact h2 k hk
      · have := unl_up h4 ops.size
        rw [if_pos hin] at this
        omega
    by_cases hc : cls oper.op = 3
    · exact I.step_w hO cx hM ho h4 hp hc hnext
    · exact I.step_nw cx hM ho h4 hp hc (fun μ' a' w' I' => hnext p μ' a' w' I')
theorem inv_start (cx : Cx P o ops base nt f v M W ts) (hM : M 0 = μ0) {a : Act} (ht : TmR μ0 (f 0).1 nt a.tmps) (hR : R μ0 (f 0).2.1 w0) :
    ∃ p, Inv ops base nt f v M μ0 w0 a.defers (fun _ => false) p μ0 a w0 := by
  obtain ⟨p, h1, h2, h3, h4⟩ := next_ex ops _ 0 rfl (Nat.zero_le _)
  obtain ⟨hwc, hwk⟩ := cx.walk h1 h2 h4
  have hD0 : ∀ i, μ0 i ≠ none → Dn M 0 i := fun i h => by unfold Dn; rw [hM]; exact h
  have hDp : ∀ i, μ0 i ≠ none → Dn M p i := fun i h => cx.can.mono (Nat.le_refl _) (Nat.zero_le p) h2 (hD0 i h)
  have htm : ∀ m, tmS ops v (f 0).1 (fun _ => false) m = (f 0).1 := by
    intro m; induction m with
    | zero => rfl
    | succ m ih => simp only [tmS, cond_false, ih]
  refine ⟨p, { hpn := h2, pre := ?_, nW := (fun k h => by cases h), wp := h3, cl := (fun k o' h => by cases h), le0 := fun _ _ h => h, dom := fun i h => .inl (hDp i h), ny := ?_, rel := ?_, tmr := ?_, df := rfl, os := rfl, tape := rfl, output := rfl, size := Nat.le_refl _, fr := fun _ _ _ => rfl, newb := fun i m a b => by rw [a] at b; cases b }⟩
  · intro k oper hk ho hc; exact absurd hc (h4 k (Nat.zero_le _) hk oper ho)
  · intro k hk _
    have hkn : k < ops.size := by omega
    have hk256 := cx.k256 hkn
    refine ⟨?_, ?_⟩
    · cases e : μ0 (256 * base + k) with
      | none => rfl
      | some m => exact absurd (show ownF base 0 (256 * base + k) from ⟨by omega, by omega⟩) (cx.can.notown (Nat.zero_le _) (hD0 _ (by rw [e]; simp)))
    · exact (cx.walk (show k + 1 ≤ p by omega) h2 (fun q a b => h4 q (by omega) b)).2 _ (fun q a b => by omega)
  · refine hR.cong fun i hi => ?_
    rw [cx.vbD h2 (hDp i hi)]
    refine hwk i fun k _ hk e => ?_
    have hk256 := cx.k256 (show k < ops.size by omega)
    exact cx.can.notown (Nat.zero_le _) (hD0 i hi) ⟨by omega, by omega⟩
  · rw [htm]; exact ht
theorem inv_end (cx : Cx P o ops base nt f v M W ts) (hM : M 0 = μ0) {s : Nat → Bool} {p : Nat} {a : Act} (hs : ∀ k, k < ops.size → s k = true) (I : Inv ops base nt f v M μ0 w0 df s p μ a w) :
    TmR μ (f ops.size).1 nt a.tmps ∧ Ext μ0 (f 0).2.1 (f 0).2.2 w0 (ownF base 0) μ (f ops.size).2.1 (f ops.size).2.2 w := by
  have hp : p = ops.size := by
    rcases I.wp with h | ⟨oper, ho, hc⟩
    · exact h
    · exact absurd hc (I.nW p (hs p (getop_lt ho)) (Nat.le_refl _) oper ho)
  subst hp
  have hD0 : ∀ i, Dn M 0 i ↔ μ0 i ≠ none := fun i => by unfold Dn; rw [hM]
  have hsz : ops.size ≤ 256 := by
    by_cases e : ops.size = 0
    · omega
    · have := cx.k256 (show ops.size - 1 < ops.size by omega); omega
  have hdom : ∀ i, μ i ≠ none → Dn M ops.size i := fun i h => by
    rcases I.dom i h with h | ⟨k, _, h1, h2, _⟩
    · exact h
    · omega
  refine ⟨⟨I.tmr.size, fun t x hx => I.tmr.val t x (by rw [cx.tmAll hs ops.size (Nat.le_refl _)]; exact hx)⟩, ?_⟩
  refine { mu := I.le0, new := ?_, cle := cx.can.cmono (Nat.le_refl _) (Nat.zero_le _) (Nat.le_refl _), rel := ?_, af := ?_, os := I.os, tape := I.tape, output := I.output, size := I.size, fr := I.fr, wrm := ?_, newb := I.newb, dd := ?_ }
  · intro i h0 h1
    rcases cx.can.new0 (Nat.le_refl _) (fun h => (hD0 i).1 h h0) (hdom i h1) with h | h
    · exact .inl ⟨by omega, by omega⟩
    · exact .inr h
  · refine I.rel.cong fun i hi => ?_
    exact (vbF_not (by omega)).symm
  · intro i h0 hlt hno
    have hnd : ∀ k, k ≤ ops.size → ¬ Dn M k i := by
      intro k hk hd
      rcases cx.can.new0 hk (fun h => (hD0 i).1 h h0) hd with h | h
      · exact hno ⟨by omega, by omega⟩
      · omega
    have : ∀ k, k ≤ ops.size → HeapC.get (f k).2.1 i = HeapC.get (f 0).2.1 i := by
      intro k
      induction k with
      | zero => intro _; rfl
      | succ k ih =>
        intro hk
        have hc := cx.can.cmono (Nat.le_refl _) (Nat.zero_le k) (by omega)
        rw [cx.can.af (Nat.le_refl _) (by omega) (hnd k (by omega)) (by omega) (fun e => hno ⟨by omega, by have := cx.k256 (show k < ops.size by omega); omega⟩), ih (by omega)]
    exact this ops.size (Nat.le_refl _)
  · intro i m hm hw
    exact cx.can.wr (Nat.le_refl _) (Nat.zero_le _) (Nat.le_refl _) ((hD0 i).2 (by rw [hm]; simp)) hw
  · intro i m hm hd
    exact cx.can.dd (Nat.le_refl _) (Nat.zero_le _) (Nat.le_refl _) ((hD0 i).2 (by rw [hm]; simp)) hd
end
theorem lws_mem {ops : Array Oper} {i j : Nat} {a b : Oper} (ha : ops[i]? = some a) (hb : ops[j]? = some b) (h1 : cls a.op = 1) (h3 : cls b.op = 3) (u1 : (msk ops j).testBit i = false) (u2 : (msk ops i).testBit j = false) :
    (i, j) ∈ lws ops := by
  simp only [lws, List.mem_flatMap, List.mem_filterMap, List.mem_range]
  refine ⟨i, getop_lt ha, j, getop_lt hb, ?_⟩
  simp only [msk] at u1 u2
  simp only [ha, hb, h1, h3, u1, u2]
  rfl
theorem Ext.ofOwn {c c' : Nat} {μ' : Mu} {A' : H} {w' : World} (h : Ext μ A (c + 1) w (ownF c 0) μ' A' c' w') : Ext μ A c w (fun _ => False) μ' A' c' w' :=
  { h with
    new := fun i a b => .inr (by
      have := h.cle
      rcases h.new i a b with ⟨h1, h2⟩ | ⟨h1, h2⟩ <;> constructor <;> omega)
    cle := by have := h.cle; omega
    af := fun i a b _ => h.af i a (by omega) (fun hh => by have := hh.1; omega) }
theorem region_wp {o : Orc H} (hO : OS P o) (hmix : P.follows .mixedOrders = true) {id : Nat} {ops : Array Oper} {draw : Bool} {nt c c' : Nat} {tm tm' : Tm} {A' : H} {a : Act}
    (e : runReg P o ops draw nt tm A c = some (tm', A', c')) (ht : TmR μ tm nt a.tmps) (hR : R μ A w) (hfr : Fresh μ c) {ro : Option Nat} {n : Nat} {Q : Exit → Act → World → Prop}
    (hQ : ∀ a' μ' w', TmR μ' tm' nt a'.tmps → a'.defers = a.defers → Ext μ A c w (fun _ => False) μ' A' c' w' → Q .normal a' w') : (Code.region id ops draw).wpIn (wd ro) n P Q a w := by
  have hfr1 : Fresh μ (c + 1) := fun i hi => hfr i (by omega)
  have hown : ∀ j, ownF c 0 j → μ j = none := fun j hj => hfr j (by have := hj.1; omega)
  cases draw with
  | false =>
    refine wpIn_region ?_
    have e' : runOps P o ops c nt ops.toList 0 tm A (c + 1) = some (tm', A', c') := e
    have := runOps_wp hO (ops := ops) (ro := ro) (n := n) (Q := Q) ops.toList 0 tm A (c + 1) tm' A' c' μ w a e' (fun k => by simp) ht hR hfr1 hown (by omega)
      (fun a' μ' w' h1 h2 h3 => hQ a' μ' w' h1 h2 h3.ofOwn)
    rw [List.range_eq_range']
    simpa using this
  | true =>
    refine wpIn_region_any hmix ?_
    obtain ⟨hreg, e1⟩ := cond_some (show cond (regOk ops) _ none = some (tm', A', c') from e)
    clear e
    have hruns : runOps P o ops c nt ops.toList 0 tm A (c + 1) = some (tm', A', c') ∧
        ∀ (f : Nat → Tm × H × Nat) (v : Nat → Value), f 0 = (tm, A, c + 1) → Tr P o ops c nt f v → ∀ i j a b, ops[i]? = some a → ops[j]? = some b → cls a.op = 1 → cls b.op = 3 → (msk ops j).testBit i = false → (msk ops i).testBit j = false →
          ∀ x, rid ops (f i).1 a = some x → HeapC.get (f j).2.1 x = HeapC.get (f (j + 1)).2.1 x := by
      cases hl : (lws ops).isEmpty with
      | true =>
        rw [hl] at e1
        refine ⟨e1, fun f v _ _ i j a b ha hb h1 h3 u1 u2 => ?_⟩
        have := lws_mem ha hb h1 h3 u1 u2
        rw [List.isEmpty_iff.1 hl] at this; cases this
      | false =>
        rw [hl] at e1
        simp only [cond_false, Option.bind_eq_some_iff] at e1
        obtain ⟨q, hq, e2⟩ := e1
        obtain ⟨hlw, e3⟩ := cond_some e2
        cases e3
        refine ⟨runOpsT_runOps _ _ _ _ _ _ hq, fun f v h0 hT i j a b ha hb h1 h3 u1 u2 x hx => ?_⟩
        have hmem := lws_mem ha hb h1 h3 u1 u2
        have hk := List.all_eq_true.1 hlw _ hmem
        obtain ⟨l1, l2⟩ := runOpsT_list ops.toList 0 tm A (c + 1) q f v hq h0 (fun k oper hk => by
          have := hT.step k oper (by simpa using hk); simpa using this)
        have t1 := l1 i a (by simpa using ha)
        have t2 := l1 j b (by simpa using hb)
        have t3 : ∃ y, q.2.2.2[j + 1]? = some (y, (f (j + 1)).2.1) := by
          by_cases hjn : j + 1 < ops.size
          · obtain ⟨b', hb'⟩ := getop hjn
            have := l1 (j + 1) b' (by simpa using hb')
            exact ⟨_, by simpa using this⟩
          · have hjj := getop_lt hb
            have : j + 1 = ops.size := by omega
            rw [this]
            simpa using l2
        obtain ⟨y, t3⟩ := t3
        simp only [Nat.zero_add] at t1 t2
        simp only [lwOk, t1, t2, t3, hx] at hk
        exact HeapC.eqB_eq _ _ hk
    obtain ⟨hrun, hlw⟩ := hruns
    obtain ⟨f, v, hf0, hfn, hst⟩ := runOps_tr ops.toList 0 tm A (c + 1) tm' A' c' hrun
    simp only [Nat.zero_add] at hst hfn
    have hT : Tr P o ops c nt f v := ⟨fun k oper ho => hst k oper (by simpa using ho)⟩
    have hsize : ops.toList.length = ops.size := by simp
    rw [hsize] at hfn
    have hRw : R μ (f 0).2.1 { w with drawn := w.drawn + 1 } := by rw [hf0]; exact ⟨hR.blk, hR.inj, hR.lt⟩
    obtain ⟨M, W, ts, hM, hW, hC⟩ := can_ex hO hT (a0 := a) (by rw [hf0]; exact ht) hRw (by rw [hf0]; exact hfr1) hown (by rw [hf0]; show c < c + 1; omega) ops.size (Nat.le_refl _)
    have cx : Cx P o ops c nt f v M W ts := ⟨hreg, hT, hC, hlw f v hf0 hT⟩
    obtain ⟨p, I⟩ := inv_start cx hM (a := a) (by rw [hf0]; exact ht) hRw
    refine any_of_inv hO cx hM (df := a.defers) (w0 := { w with drawn := w.drawn + 1 }) (fun s p' μ' a' w' hs I' => ?_) ops.size _ (fun _ => false) p μ a _ (by simp) (fun k hk => by simp [hk]) ?_ I
    · obtain ⟨h1, h2⟩ := inv_end cx hM hs I'
      rw [hfn] at h1 h2
      rw [hf0] at h2
      refine hQ a' μ' w' h1 I'.df ?_
      have h3 := h2.ofOwn
      exact { mu := h3.mu, new := h3.new, cle := h3.cle, rel := h3.rel, af := h3.af, os := h3.os, tape := h3.tape, output := h3.output, size := h3.size, fr := h3.fr, wrm := h3.wrm, newb := h3.newb, dd := h3.dd }
    · have : ∀ n, unl (fun _ => false) n = n := by
        intro n; induction n with
        | zero => rfl
        | succ n ih => simp [unl, ih]
      rw [this]; exact Nat.le_refl _
end Go.Ab

namespace Go.Ab
open Go
set_option linter.unusedVariables false
set_option linter.unusedSimpArgs false
set_option linter.unusedSectionVars false
variable {H : Type} [HeapC H] {P : Program} {μ : Mu} {A : H} {w : World}
theorem Ext.del {c : Nat} {own : Nat → Prop} (hR : R μ A w) {i : Nat} {m : ME} (hm : μ i = some m) (hw : wrB (HeapC.get A i) = true)
    {w' : World} (os : w'.os = w.os) (tape : w'.tape = w.tape) (output : w'.output = w.output) (size : w'.heap.size = w.heap.size) (oth : ∀ b, b ≠ m.b → w'.heap[b]? = w.heap[b]?) :
    Ext μ A c w own μ (HeapC.del A i) c w' where
  mu := fun _ _ e => e
  new := fun i h1 h2 => absurd h1 h2
  cle := Nat.le_refl _
  rel := {
    blk := fun j mj hj => by
      rw [HeapC.get_del]
      by_cases e : j = i
      · simp only [e, if_true]; trivial
      · simp only [e, if_false]
        have h0 := hR.blk j mj hj
        cases hd : deadB (HeapC.get A j) with
        | true =>
          unfold deadB at hd
          split at hd
          · rename_i hg; rw [hg]; trivial
          · cases hd
        | false =>
          refine h0.congr (oth _ ?_)
          exact hR.inj j i mj m hj hm e hd (dead_of_wr hw) (by rw [ro_of_wr hw]; simp)
    inj := fun a b ma mb ha hb' hne => by
      rw [HeapC.get_del, HeapC.get_del]
      by_cases ea : a = i <;> by_cases eb : b = i
      · exact absurd (ea.trans eb.symm) hne
      · subst ea
        simp only [eb, if_true, if_false]
        intro _ h2 h3
        exact hR.inj a b ma mb ha hb' hne (dead_of_wr hw) h2 (by rw [ro_of_wr hw]; simp)
      · subst eb
        simp only [ea, if_true, if_false]
        intro h1 _ h3
        exact hR.inj a b ma mb ha hb' hne h1 (dead_of_wr hw) (by rw [ro_of_wr hw]; simp)
      · simp only [ea, eb, if_false]
        exact hR.inj a b ma mb ha hb' hne
    lt := fun j mj hj => by rw [size]; exact hR.lt j mj hj }
  af := fun j h1 _ _ => by
    rw [HeapC.get_del, if_neg]
    intro e; subst e; rw [hm] at h1; cases h1
  os := os
  tape := tape
  output := output
  size := by omega
  fr := fun b _ h => oth b (fun e => h i m hm hw e.symm)
  wrm := fun j mj hj h => by
    rw [HeapC.get_del] at h
    by_cases e : j = i
    · simp [e, wrB] at h
    · simpa [e] using h
  newb := fun j mj h1 h2 => by rw [h1] at h2; cases h2
  dd := fun j mj hj h => by
    rw [HeapC.get_del]
    by_cases e : j = i
    · subst e; rw [dead_of_wr hw] at h; cases h
    · simpa [e] using h
theorem dropB_ext {c nt t : Nat} {tm : Tm} {ts : Array Value} (ht : TmR μ tm nt ts) (hR : R μ A w) : Ext μ A c w (fun _ => False) μ (dropB tm A t) c w := by
  unfold dropB
  split
  · rename_i i hv
    split
    · rename_i cs hg
      obtain ⟨v', _, h2⟩ := ht.val t _ hv
      cases h2 with
      | @ptr _ _ m hm =>
        exact Ext.del hR hm (by rw [hg]; rfl) rfl rfl rfl rfl (fun _ _ => rfl)
    · exact Ext.refl hR
  · exact Ext.refl hR
theorem Ext.trans0 {μ μ1 μ2 : Mu} {A A1 A2 : H} {c c1 c2 : Nat} {w w1 w2 : World} (h : Ext μ A c w (fun _ => False) μ1 A1 c1 w1) (k : Ext μ1 A1 c1 w1 (fun _ => False) μ2 A2 c2 w2) : Ext μ A c w (fun _ => False) μ2 A2 c2 w2 :=
  (h.trans k (fun _ h => h.elim) (fun _ h => h.elim)).weaken (fun _ h => h.elim id id)
theorem dropBs_ext {c nt : Nat} {tm : Tm} {ts : Array Value} (ht : TmR μ tm nt ts) : ∀ (l : List Nat) (A : H), R μ A w → Ext μ A c w (fun _ => False) μ (dropBs tm A l) c w
  | [], A, hR => Ext.refl hR
  | t :: l, A, hR => (dropB_ext ht hR).trans0 (dropBs_ext ht l _ (dropB_ext (c := c) ht hR).rel)
theorem run_getLoop {b : Nat} {lp : Loop} (h : w.heap[b]? = some (.loop lp)) : (Instr.getLoop b).run P w = .ok lp w := by
  simp [Instr.getLoop, getObj, Sem.run, h]
theorem run_setLoop {b : Nat} {lp lp' : Loop} (h : w.heap[b]? = some (.loop lp)) : (setObj b (.loop lp')).run P w = .ok () { w with heap := w.heap.setIfInBounds b (.loop lp') } := by
  simp [setObj, Sem.run, h]
theorem Ext.setLoop {c : Nat} {own : Nat → Prop} (hR : R μ A w) {i : Nat} {m : ME} (hm : μ i = some m) {st st' : ALoop} (hg : HeapC.get A i = some (.loop st)) {lp' : Loop} (hL : LoopR μ st' lp') :
    Ext μ A c w own μ (HeapC.set A i (.loop st')) c { w with heap := w.heap.setIfInBounds m.b (.loop lp') } :=
  Ext.setObj hR hm (by rw [hg]; rfl) rfl (fun h hh => ⟨lp', hh, hL⟩)
inductive DfR (μ : Mu) : List Nat → List Deferred → Prop
  | nil : DfR μ [] []
  | cons {i : Nat} {m : ME} {d : Deferred} {ds : List Nat} {es : List Deferred} (h : μ i = some m) (ht : d.target = .collected m.b) (hs : DfR μ ds es) : DfR μ (i :: ds) (d :: es)
theorem DfR.mono {μ' : Mu} (hm : μ.le μ') {ds : List Nat} {es : List Deferred} (h : DfR μ ds es) : DfR μ' ds es := by
  induction h with
  | nil => exact .nil
  | cons h ht _ ih => exact .cons (hm _ _ h) ht ih
def RdR (μ : Mu) (rd ro : Option Nat) : Prop :=
  match rd, ro with
  | none, none => True
  | some l, some b => ∃ m, μ l = some m ∧ m.b = b
  | _, _ => False
theorem RdR.mono {μ' : Mu} (hm : μ.le μ') {rd ro : Option Nat} (h : RdR μ rd ro) : RdR μ' rd ro := by
  cases rd <;> cases ro <;> first | exact h | exact (let ⟨m, a, b⟩ := h; ⟨m, hm _ _ a, b⟩)
def exitOf : Ex → Exit
  | .normal => .normal
  | .exit id => .exit id
  | .ret => .ret
def LoopOK (P : Program) (o : Orc H) (k : Nat) : Prop :=
  ∀ (j : Nat) (lin fr : List Nat) (b : ACode) (nt : Nat) (rd : Option Nat) (vs : List Value) (A : H) (c : Nat) (df : List Nat) (r : Rt H), o (.lp j lin fr b nt rd) vs A c df = some r →
    ∀ (μ : Mu) (w : World) (a : Act) (ro : Option Nat) (n : Nat) (Q : Exit → Act → World → Prop), TmR μ (tmOf lin vs) nt a.tmps → R μ A w → Fresh μ c → RdR μ rd ro → DfR μ df a.defers →
    (∀ a' μ' w', TmR μ' (tmOf lin r.vs) nt a'.tmps → DfR μ' r.df a'.defers → Ext μ A c w (fun _ => False) μ' r.h r.c w' → Q (exitOf r.e) a' w') → Code.roundsIn (wd ro) n P (strip b) Q k a w
theorem vals_tmOf {tm : Tm} : ∀ {lin : List Nat} {vs : List Value}, vals tm lin = some vs → ∀ t v, tmOf lin vs t = some v → tm t = some v
  | [], vs, h, t, v, e => by simp [tmOf] at e
  | x :: xs, vs, h, t, v, e => by
    simp only [Ab.vals, Option.bind_eq_some_iff] at h
    obtain ⟨y, hy, ys, hys, h⟩ := h
    cases h
    simp only [tmOf] at e
    cases hb : Nat.beq t x with
    | true => rw [hb] at e; rw [Nat.eq_of_beq_eq_true hb, hy]; exact e
    | false => rw [hb] at e; exact vals_tmOf hys t v e
theorem TmR.sub {tm tm' : Tm} {nt : Nat} {ts : Array Value} (h : TmR μ tm nt ts) (hs : ∀ t v, tm' t = some v → tm t = some v) : TmR μ tm' nt ts :=
  ⟨h.size, fun t v e => h.val t v (hs t v e)⟩
theorem exec_keeps {o : Orc H} : ∀ {code : ACode} {s s' : St H} {e : Ex}, exec P o code s = some (e, s') → s'.nt = s.nt ∧ s'.rd = s.rd := by
  intro code
  induction code with
  | skip => intro s s' e h; simp only [exec, Option.some.injEq, Prod.mk.injEq] at h; obtain ⟨_, rfl⟩ := h; exact ⟨rfl, rfl⟩
  | region id ops d => intro s s' e h; simp only [exec, Option.bind_eq_some_iff] at h; obtain ⟨r, _, h⟩ := h; cases h; exact ⟨rfl, rfl⟩
  | join lays x ih => intro s s' e h; exact ih (by simpa only [exec] using h)
  | seq x y ihx ihy =>
    intro s s' e h
    simp only [exec, Option.bind_eq_some_iff] at h
    obtain ⟨⟨e1, s1⟩, h1, h⟩ := h
    have k1 := ihx h1
    cases e1 with
    | normal => have k2 := ihy h; exact ⟨k2.1.trans k1.1, k2.2.trans k1.2⟩
    | exit id => cases h; exact k1
    | ret => cases h; exact k1
  | cond c x y ihx ihy =>
    intro s s' e h
    simp only [exec, Option.bind_eq_some_iff] at h
    obtain ⟨v, hv, h⟩ := h
    split at h
    · rename_i t; cases t
      · exact ihy h
      · exact ihx h
    · cases h
  | block id x ih =>
    intro s s' e h
    simp only [exec, Option.bind_eq_some_iff] at h
    obtain ⟨⟨e1, s1⟩, h1, h⟩ := h
    have k1 := ih h1
    cases e1 <;> cases h <;> exact k1
  | loop j lin fr outs b _ =>
    intro s s' e h
    simp only [exec, Option.bind_eq_some_iff] at h
    obtain ⟨vs, _, r, _, h⟩ := h
    cases h; exact ⟨rfl, rfl⟩
  | rangeFunc j lin fr outs f ps x y _ _ =>
    intro s s' e h
    simp only [exec, execRange, Option.bind_eq_some_iff] at h
    obtain ⟨fv, _, h⟩ := h
    split at h
    · simp only [Option.bind_eq_some_iff] at h
      obtain ⟨vs, _, hd, _, r, _, h⟩ := h
      split at h
      · rename_i st _
        cases hb : decide (st.state = LoopState.busy) with
        | true => rw [hb] at h; cases h
        | false =>
          rw [hb] at h
          simp only [cond_false, Option.bind_eq_some_iff] at h
          obtain ⟨x, _, h⟩ := h
          cases h; exact ⟨rfl, rfl⟩
      · cases h
    · cases h
  | exit id => intro s s' e h; simp only [exec, Option.some.injEq, Prod.mk.injEq] at h; obtain ⟨_, rfl⟩ := h; exact ⟨rfl, rfl⟩
  | ret => intro s s' e h; simp only [exec, Option.some.injEq, Prod.mk.injEq] at h; obtain ⟨_, rfl⟩ := h; exact ⟨rfl, rfl⟩
  | bad c => intro s s' e h; simp [exec] at h
theorem enter_sim {c : Nat} {s : St H} {rd ro : Option Nat} (hR : R μ A w) (hfr : Fresh μ c) (hrd : RdR μ rd ro) {hd : H × Nat} (e : enterDfr A c rd = some hd) {tmps : Array Value} {fn : FuncId} {ps : Array Tmp} {x y : Code} :
    ∃ l mark w1 μ1, (Instr.enterLoop fn tmps ps x y ro).run P w = .ok (l, mark) w1 ∧ l + 1 = w1.heap.size ∧
      (∃ w0, Ext μ A c w (fun i => i = 256 * c + 1) μ1 hd.1 c w0 ∧ (∃ m, μ1 hd.2 = some m ∧ w1 = { w0 with heap := w0.heap.push (.loop { state := .ready, pending := none, fn, tmps, params := ps, assign := x, body := y, defers := m.b }) } ∧ l = w0.heap.size ∧
        ((rd = none → ∃ d, mark = [d] ∧ d.target = .collected m.b) ∧ (∀ l', rd = some l' → mark = [])))) ∧ μ1 (256 * c) = none := by
  cases rd with
  | none =>
    cases ro with
    | some b => exact hrd.elim
    | none =>
      simp only [enterDfr, Option.some.injEq] at e
      subst e
      have hid : μ (256 * c + 1) = none := hfr _ (by omega)
      have hE : Ext μ A c w (fun i => i = 256 * c + 1) (μ.upd (256 * c + 1) ⟨w.heap.size, 0, none⟩) (HeapC.set A (256 * c + 1) .dfr) c { w with heap := w.heap.push (.deferred (some [])) } :=
        Ext.alloc hR hid rfl rfl rfl rfl rfl rfl (by simp [BlkR])
      refine ⟨w.heap.size + 1, [{ target := .collected w.heap.size, args := #[] }], _, _, ?_, ?_, ⟨_, hE, ⟨w.heap.size, 0, none⟩, Mu.upd_self μ _ _, rfl, by simp, (fun _ => ⟨{ target := .collected w.heap.size, args := #[] }, rfl, rfl⟩), (fun _ h => by cases h)⟩, ?_⟩
      · simp [Instr.enterLoop, newObj, Sem.run, Sem.run_bind]
        rfl
      · simp
      · simp only [Mu.upd]; rw [if_neg (by omega)]; exact hfr _ (by omega)
  | some l =>
    cases ro with
    | none => exact hrd.elim
    | some b =>
      obtain ⟨m, hm, rfl⟩ := hrd
      simp only [enterDfr] at e
      split at e
      · rename_i st hg
        simp only [Option.some.injEq] at e
        subst e
        have hb := hR.blk l m hm
        rw [hg] at hb
        obtain ⟨lp, hlp, hL⟩ := hb
        obtain ⟨md, hmd, hmb⟩ := hL.dfr
        refine ⟨w.heap.size, [], _, μ, ?_, ?_, ⟨w, Ext.refl hR, md, hmd, rfl, rfl, (fun h => by cases h), (fun _ _ => rfl)⟩, hfr _ (by omega)⟩
        · simp only [Instr.enterLoop, Sem.run_bind, run_getLoop hlp, Result.andThen_ok, Sem.run_pure]
          simp [newObj, Sem.run, hmb]
        · simp
      · cases e
theorem exec_wp {o : Orc H} {k : Nat} (hO : OS P o) (hL : LoopOK P o k) (hmix : P.follows .mixedOrders = true) : ∀ {code : ACode} {s s' : St H} {e : Ex}, exec P o code s = some (e, s') →
    ∀ {μ : Mu} {w : World} {a : Act} {ro : Option Nat} {n : Nat} {Q : Exit → Act → World → Prop}, TmR μ s.tm s.nt a.tmps → R μ s.h w → Fresh μ s.c → RdR μ s.rd ro → DfR μ s.df a.defers →
    (∀ a' μ' w', TmR μ' s'.tm s.nt a'.tmps → DfR μ' s'.df a'.defers → Ext μ s.h s.c w (fun _ => False) μ' s'.h s'.c w' → Q (exitOf e) a' w') → (strip code).wpIn (wd ro) n P Q a w := by
  intro code
  induction code with
  | skip =>
    intro s s' e h μ w a ro n Q ht hR hfr hrd hdf hQ
    simp only [exec, Option.some.injEq, Prod.mk.injEq] at h
    obtain ⟨rfl, rfl⟩ := h
    exact wpIn_skip (hQ a μ w ht hdf (Ext.refl hR))
  | join lays x ih => intro s s' e h; simp only [strip]; exact ih (by simpa only [exec] using h)
  | region id ops d =>
    intro s s' e h μ w a ro n Q ht hR hfr hrd hdf hQ
    simp only [exec, Option.bind_eq_some_iff] at h
    obtain ⟨⟨tm', A', c'⟩, hr, h⟩ := h
    cases h
    exact region_wp hO hmix hr ht hR hfr (fun a' μ' w' h1 h2 h3 => hQ a' μ' w' h1 (by rw [h2]; exact hdf.mono h3.mu) h3)
  | seq x y ihx ihy =>
    intro s s' e h μ w a ro n Q ht hR hfr hrd hdf hQ
    simp only [exec, Option.bind_eq_some_iff] at h
    obtain ⟨⟨e1, s1⟩, h1, h⟩ := h
    have k1 := exec_keeps h1
    refine wpIn_seq (ihx h1 ht hR hfr hrd hdf fun a1 μ1 w1 ht1 hdf1 hE1 => ?_)
    cases e1 with
    | normal =>
      refine ihy h (by rw [k1.1]; exact ht1) hE1.rel (hE1.fresh hfr (fun _ h => h.elim)) (by rw [k1.2]; exact hrd.mono hE1.mu) hdf1 fun a2 μ2 w2 ht2 hdf2 hE2 => ?_
      exact hQ a2 μ2 w2 (by rw [k1.1] at ht2; exact ht2) hdf2 (hE1.trans0 hE2)
    | exit id => cases h; exact hQ a1 μ1 w1 ht1 hdf1 hE1
    | ret => cases h; exact hQ a1 μ1 w1 ht1 hdf1 hE1
  | cond c x y ihx ihy =>
    intro s s' e h μ w a ro n Q ht hR hfr hrd hdf hQ
    simp only [exec, Option.bind_eq_some_iff] at h
    obtain ⟨v, hv, h⟩ := h
    split at h
    · rename_i t
      have hc := (ht.eval (a := a) hv).bool_left
      refine wpIn_cond hc ?_
      cases t
      · exact ihy h ht hR hfr hrd hdf hQ
      · exact ihx h ht hR hfr hrd hdf hQ
    · cases h
  | block id x ih =>
    intro s s' e h μ w a ro n Q ht hR hfr hrd hdf hQ
    simp only [exec, Option.bind_eq_some_iff] at h
    obtain ⟨⟨e1, s1⟩, h1, h⟩ := h
    refine wpIn_block (ih h1 ht hR hfr hrd hdf fun a1 μ1 w1 ht1 hdf1 hE1 => ?_)
    cases e1 with
    | normal => cases h; exact hQ a1 μ1 w1 ht1 hdf1 hE1
    | exit id' =>
      simp only [Option.some.injEq, Prod.mk.injEq] at h
      obtain ⟨he, rfl⟩ := h
      show if id' = id then Q .normal a1 w1 else Q (.exit id') a1 w1
      by_cases hid : id' = id
      · subst hid
        simp only [Nat.beq_refl, cond_true] at he
        subst he
        simp only [if_true]
        exact hQ a1 μ1 w1 ht1 hdf1 hE1
      · have hb : Nat.beq id' id = false := by rw [Bool.eq_false_iff]; intro hh; exact hid (Nat.eq_of_beq_eq_true hh)
        rw [hb] at he
        simp only [cond_false] at he
        subst he
        simp only [hid, if_false]
        exact hQ a1 μ1 w1 ht1 hdf1 hE1
    | ret => cases h; exact hQ a1 μ1 w1 ht1 hdf1 hE1
  | loop j lin fr outs b _ =>
    intro s s' e h μ w a ro n Q ht hR hfr hrd hdf hQ
    simp only [exec, Option.bind_eq_some_iff] at h
    obtain ⟨vs, hvs, r, hr, h⟩ := h
    cases h
    exact wpIn_loop_rounds k (hL _ _ _ _ _ _ _ _ _ _ _ hr μ w a ro n Q (ht.sub (vals_tmOf hvs)) hR hfr hrd hdf (fun a' μ' w' h1 h2 h3 => hQ a' μ' w' h1 h2 h3))
  | rangeFunc j lin fr outs f ps x y _ _ =>
    intro s s' e h μ w a ro n Q ht hR hfr hrd hdf hQ
    simp only [exec, execRange, Option.bind_eq_some_iff] at h
    obtain ⟨fv, hfv, h⟩ := h
    split at h
    · rename_i g first cap
      simp only [Option.bind_eq_some_iff] at h
      obtain ⟨vs, hvs, hd, hhd, r, hr, h⟩ := h
      obtain ⟨hcf, hcall⟩ := hO.fn _ _ _ _ _ _ hr
      have hfv' := ht.eval (a := a) hfv
      refine wpIn_rangeFunc fun fn _ => ?_
      obtain ⟨l, mark, w1, μ1, he, hl, ⟨w0, hE0, m, hm, hw1, hl0, hmark⟩, hμ1⟩ := enter_sim (P := P) (s := s) hR hfr hrd hhd (tmps := a.tmps) (fn := fn) (ps := ps) (x := strip x) (y := strip y)
      let st : ALoop := { state := .ready, pending := none, nt := s.nt, vals := vs, lin := lin, fr := fr, params := ps.toList, assign := x, body := y, dfr := hd.2 }
      have hE1 : Ext μ1 hd.1 s.c w0 (fun i => i = 256 * s.c) (μ1.upd (256 * s.c) ⟨l, 0, none⟩) (HeapC.set hd.1 (256 * s.c) (.loop st)) s.c w1 := by
        subst hw1
        refine Ext.alloc hE0.rel hμ1 (by simp [hl0]) rfl rfl rfl rfl rfl ?_
        refine ⟨{ state := .ready, pending := none, fn := fn, tmps := a.tmps, params := ps, assign := strip x, body := strip y, defers := m.b }, by simp [hl0], ?_⟩
        have hle := hE0.mu
        refine ⟨rfl, rfl, rfl, rfl, rfl, ht.size, fun t v hv => ?_, ?_⟩
        · obtain ⟨v', h1, h2⟩ := ht.val t v (vals_tmOf hvs t v hv)
          exact ⟨v', h1, (h2.mono hle).mono (Mu.le_upd hμ1)⟩
        · exact ⟨m, Mu.le_upd hμ1 _ _ hm, rfl⟩
      have hE01 : Ext μ s.h s.c w (fun i => i = 256 * s.c + 1 ∨ i = 256 * s.c) (μ1.upd (256 * s.c) ⟨l, 0, none⟩) (HeapC.set hd.1 (256 * s.c) (.loop st)) (s.c + 1) w1 := by
        have hf0 : ∀ i, 256 * s.c ≤ i → μ i = none := hfr
        refine { mu := fun i m h => hE1.mu i m (hE0.mu i m h), new := ?_, cle := by omega, rel := hE1.rel, af := ?_, os := hE1.os.trans hE0.os, tape := hE1.tape.trans hE0.tape, output := hE1.output.trans hE0.output,
                 size := Nat.le_trans hE0.size hE1.size, fr := ?_, wrm := ?_, newb := ?_, dd := fun i m hi h0 => hE1.dd i m (hE0.mu i m hi) (hE0.dd i m hi h0) }
        · intro i h0 h1
          cases e1 : μ1 i with
          | none =>
            rcases hE1.new i e1 h1 with h | ⟨h, h'⟩
            · exact .inl (.inr h)
            · omega
          | some m1 =>
            rcases hE0.new i h0 (by rw [e1]; simp) with h | ⟨h, h'⟩
            · exact .inl (.inl h)
            · omega
        · intro i h0 h1 h2
          have hne1 : i ≠ 256 * s.c := fun hh => h2 (.inr hh)
          have hne2 : i ≠ 256 * s.c + 1 := fun hh => h2 (.inl hh)
          rw [HeapC.get_set, if_neg hne1]
          cases hrd' : s.rd with
          | none =>
            rw [hrd'] at hhd
            simp only [enterDfr, Option.some.injEq] at hhd
            rw [← hhd]
            simp only [HeapC.get_set, hne2, if_false]
          | some l' =>
            rw [hrd'] at hhd
            simp only [enterDfr] at hhd
            split at hhd
            · simp only [Option.some.injEq] at hhd; rw [← hhd]
            · cases hhd
        · intro b hb hn
          rw [hE1.fr b (Nat.lt_of_lt_of_le hb hE0.size) ?_, hE0.fr b hb hn]
          intro i m' hi hw' hbb
          cases e0 : μ i with
          | some m0 =>
            have := hE0.mu i m0 e0
            rw [hi] at this; cases this
            exact hn i m' e0 (hE0.wrm i m' e0 hw') hbb
          | none =>
            rcases hE0.newb i m' e0 hi with h | ⟨j', mj, a1, a2, a3⟩
            · omega
            · exact hn j' mj a1 a3 (a2.trans hbb)
        · intro i m' hi hw'
          exact hE0.wrm i m' hi (hE1.wrm i m' (hE0.mu i m' hi) hw')
        · intro i m' h0 h1
          cases e1 : μ1 i with
          | some m1 =>
            have := hE1.mu i m1 e1
            rw [h1] at this; cases this
            exact hE0.newb i m' h0 e1
          | none =>
            rcases hE1.newb i m' e1 h1 with h | ⟨j', mj, a1, a2, a3⟩
            · exact .inl (Nat.le_trans hE0.size h)
            · cases e0 : μ j' with
              | some m0 =>
                have := hE0.mu j' m0 e0
                rw [a1] at this; cases this
                exact .inr ⟨j', mj, e0, a2, hE0.wrm j' mj e0 a3⟩
              | none =>
                rcases hE0.newb j' mj e0 a1 with h | ⟨q, mq, b1, b2, b3⟩
                · exact .inl (by omega)
                · exact .inr ⟨q, mq, b1, b2.trans a2, b3⟩
      have hfr1 : Fresh (μ1.upd (256 * s.c) ⟨l, 0, none⟩) (s.c + 1) := by
        intro i hi
        cases e1 : (μ1.upd (256 * s.c) ⟨l, 0, none⟩) i with
        | none => rfl
        | some m1 =>
          rcases hE01.new i (hfr i (by omega)) (by rw [e1]; simp) with (h | h) | ⟨_, h⟩ <;> omega
      generalize hev : a.eval f = fv' at hfv'
      cases hfv' with
      | @fnc _ avs avs' bs bs' z1 z2 z3 z4 =>
        have hle := hE01.mu
        have hyv : VR (μ1.upd (256 * s.c) ⟨l, 0, none⟩) (.func (.yield (256 * s.c)) #[] #[]) (.func (.yield l) #[] #[]) := VR.yield (Mu.upd_self _ _ _)
        have hargs : VRs (μ1.upd (256 * s.c) ⟨l, 0, none⟩) (first.toList ++ [.func (.yield (256 * s.c)) #[] #[]] ++ cap.toList) (avs'.toList ++ [.func (.yield l) #[] #[]] ++ bs'.toList) := by
          refine VRs.append (VRs.append ?_ (VRs.cons hyv (VRs.nil _))) ?_
          · exact ⟨by simpa using z1, fun k' u u' hu hu' => (z3 k' u u' (by simpa using hu) (by simpa using hu')).mono hle⟩
          · exact ⟨by simpa using z2, fun k' u u' hu hu' => (z4 k' u u' (by simpa using hu) (by simpa using hu')).mono hle⟩
        have hC := hcall _ w1 _ hargs hE1.rel hfr1
        have hres := run_resolve_value (P := P) (w := w1) (c := rangeCall f l) (f := f) rfl (ty := 0) hev
        refine ⟨l, mark, w1, _, w1, g, avs' ++ (rangeCall f l).args.map a.eval ++ bs', w1, he, hres, fun _ _ => trivial, ?_, fun hh => by simp [wd, Fence.wide] at hh, ?_⟩
        · simp only [invoke]; exact hcf _ _
        · have harr : (avs' ++ (rangeCall f l).args.map a.eval ++ bs') = (avs'.toList ++ [Value.func (.yield l) #[] #[]] ++ bs'.toList).toArray := by
            have hmap : (rangeCall f l).args.map a.eval = #[Value.func (.yield l) #[] #[]] := by simp [rangeCall, Act.eval]
            rw [hmap]
            apply Array.ext'; simp
          rw [harr]
          refine (wd_calls hC).mono ?_
          rintro en w3 ⟨z, z', μ2, hz1, rfl, hz3, hE2⟩
          split at h
          · rename_i st2 hg2
            cases hbusy : decide (st2.state = LoopState.busy) with
            | true => rw [hbusy] at h; cases h
            | false =>
              rw [hbusy] at h
              simp only [cond_false, Option.bind_eq_some_iff] at h
              obtain ⟨ex, hex, h⟩ := h
              cases h
              have hm2 : μ2 (256 * s.c) = some ⟨l, 0, none⟩ := hE2.mu _ _ (Mu.upd_self _ _ _)
              have hb2 := hE2.rel.blk _ _ hm2
              rw [hg2] at hb2
              obtain ⟨lp, hlp, hL2⟩ := hb2
              have hnb : ¬ (lp.state == LoopState.busy) = true := by
                rw [hL2.state]
                intro hh
                have := of_decide_eq_false hbusy
                exact this (by simpa using hh)
              have hendl : (Instr.endLoop l).run P w3 = .ok lp.pending { w3 with heap := w3.heap.setIfInBounds l (.loop { lp with state := .exhausted }) } := by
                simp only [Instr.endLoop, Sem.run_bind, run_getLoop hlp, Result.andThen_ok]
                rw [if_neg hnb]
                simp only [Sem.run_pure, Sem.run_bind, Result.andThen_ok, run_setLoop hlp]
              have hE3 : Ext μ2 r.h r.c w3 (fun _ => False) μ2 (HeapC.del r.h (256 * s.c)) r.c { w3 with heap := w3.heap.setIfInBounds l (.loop { lp with state := .exhausted }) } := by
                refine Ext.del hE2.rel hm2 (by rw [hg2]; rfl) rfl rfl rfl (by simp) (fun b hb => ?_)
                simp only
                rw [Array.getElem?_setIfInBounds_ne (Ne.symm hb)]
              have hEall : Ext μ s.h s.c w (fun _ => False) μ2 (HeapC.del r.h (256 * s.c)) r.c { w3 with heap := w3.heap.setIfInBounds l (.loop { lp with state := .exhausted }) } := by
                have h23 := hE2.trans0 hE3
                have hcc := h23.cle
                refine { mu := fun i m h => h23.mu i m (hE01.mu i m h), new := ?_, cle := by omega, rel := h23.rel, af := ?_, os := h23.os.trans hE01.os, tape := h23.tape.trans hE01.tape, output := h23.output.trans hE01.output,
                         size := Nat.le_trans hE01.size h23.size, fr := ?_, wrm := fun i m' hi hw' => hE01.wrm i m' hi (h23.wrm i m' (hE01.mu i m' hi) hw'), newb := ?_, dd := fun i m' hi h0 => h23.dd i m' (hE01.mu i m' hi) (hE01.dd i m' hi h0) }
                · intro i h0 h1
                  cases e1 : (μ1.upd (256 * s.c) ⟨l, 0, none⟩) i with
                  | none =>
                    rcases h23.new i e1 h1 with h | ⟨h, h'⟩
                    · exact h.elim
                    · exact .inr ⟨by omega, h'⟩
                  | some m1 =>
                    rcases hE01.new i h0 (by rw [e1]; simp) with (h | h) | ⟨h, h'⟩
                    · exact .inr ⟨by omega, by omega⟩
                    · exact .inr ⟨by omega, by omega⟩
                    · exact .inr ⟨h, by omega⟩
                · intro i h0 h1 _
                  have hno : (μ1.upd (256 * s.c) ⟨l, 0, none⟩) i = none := by
                    cases e1 : (μ1.upd (256 * s.c) ⟨l, 0, none⟩) i with
                    | none => rfl
                    | some m1 => rcases hE01.new i h0 (by rw [e1]; simp) with (h | h) | ⟨h, h'⟩ <;> omega
                  rw [h23.af i hno (by omega) (fun h => h), hE01.af i h0 h1 (fun h => by rcases h with h | h <;> omega)]
                · intro b hb hn
                  rw [h23.fr b (Nat.lt_of_lt_of_le hb hE01.size) ?_, hE01.fr b hb hn]
                  intro i m' hi hw' hbb
                  cases e0 : μ i with
                  | some m0 =>
                    have := hE01.mu i m0 e0
                    rw [hi] at this; cases this
                    exact hn i m' e0 (hE01.wrm i m' e0 hw') hbb
                  | none =>
                    rcases hE01.newb i m' e0 hi with h | ⟨j', mj, a1, a2, a3⟩
                    · omega
                    · exact hn j' mj a1 a3 (a2.trans hbb)
                · intro i m' h0 h1
                  cases e1 : (μ1.upd (256 * s.c) ⟨l, 0, none⟩) i with
                  | some m1 =>
                    have := h23.mu i m1 e1
                    rw [h1] at this; cases this
                    exact hE01.newb i m' h0 e1
                  | none =>
                    rcases h23.newb i m' e1 h1 with h | ⟨j', mj, a1, a2, a3⟩
                    · exact .inl (Nat.le_trans hE01.size h)
                    · cases e0 : μ j' with
                      | some m0 =>
                        have := hE01.mu j' m0 e0
                        rw [a1] at this; cases this
                        exact .inr ⟨j', mj, e0, a2, hE01.wrm j' mj e0 a3⟩
                      | none =>
                        rcases hE01.newb j' mj e0 a1 with h | ⟨q, mq, b1, b2, b3⟩
                        · exact .inl (by omega)
                        · exact .inr ⟨q, mq, b1, b2.trans a2, b3⟩
              have hdf2 : DfR μ2 (match s.rd with | none => hd.2 :: s.df | some _ => s.df) (mark ++ a.defers) := by
                have hle2 : μ.le μ2 := fun i m' h' => hEall.mu i m' h'
                have hmm : μ2 hd.2 = some m := hE2.mu _ _ (Mu.le_upd hμ1 _ _ hm)
                cases hrd' : s.rd with
                | none =>
                  obtain ⟨d, rfl, hd'⟩ := hmark.1 hrd'
                  exact .cons hmm hd' (hdf.mono hle2)
                | some l' =>
                  have hmk := hmark.2 l' hrd'
                  subst hmk
                  exact hdf.mono hle2
              have hq := hQ { a with defers := mark ++ a.defers } μ2 _ (ht.mono hEall.mu) hdf2 hEall
              refine ⟨lp.pending, _, hendl, ?_⟩
              revert hq
              generalize ({ w3 with heap := w3.heap.setIfInBounds l (.loop { lp with state := .exhausted }) } : World) = w4
              intro hq
              rw [hL2.pending]
              unfold exOf at hex
              split at hex
              · rename_i hp; cases hex; rw [hp]; exact hq
              · rename_i hp; cases hex; rw [hp]; exact wpIn_ret hq
              · rename_i id' hp; cases hex; rw [hp]; exact wpIn_exit hq
              · cases hex
          · cases h
    · cases h
  | exit id =>
    intro s s' e h μ w a ro n Q ht hR hfr hrd hdf hQ
    simp only [exec, Option.some.injEq, Prod.mk.injEq] at h
    obtain ⟨rfl, rfl⟩ := h
    exact wpIn_exit (hQ a μ w ht hdf (Ext.refl hR))
  | ret =>
    intro s s' e h μ w a ro n Q ht hR hfr hrd hdf hQ
    simp only [exec, Option.some.injEq, Prod.mk.injEq] at h
    obtain ⟨rfl, rfl⟩ := h
    exact wpIn_ret (hQ a μ w ht hdf (Ext.refl hR))
  | bad c =>
    intro s s' e h
    simp [exec] at h
end Go.Ab

namespace Go.Ab
open Go
set_option linter.unusedVariables false
set_option linter.unusedSimpArgs false
set_option linter.unusedSectionVars false
variable {H : Type} [HeapC H] {P : Program} {μ : Mu} {A : H} {w : World}
theorem LoopOK.step {bk : FuncId → Option AFun} {o : Orc H} {k : Nat} (hO : OS P o) (hL : LoopOK P o k) (hmix : P.follows .mixedOrders = true) : LoopOK P (answer P bk o) (k + 1) := by
  intro j lin fr b nt rd vs A c df r e μ w a ro n Q ht hR hfr hrd hdf hQ
  simp only [answer, Option.bind_eq_some_iff] at e
  obtain ⟨⟨ex, s1⟩, h1, vs', hvs', e⟩ := e
  have k1 := exec_keeps h1
  refine exec_wp hO hL hmix h1 ht hR hfr hrd hdf fun a1 μ1 w1 ht1 hdf1 hE1 => ?_
  have hdrop := dropBs_ext (c := s1.c) ht1 fr s1.h hE1.rel
  have hE2 := hE1.trans0 hdrop
  have ht2 := ht1.sub (vals_tmOf hvs')
  cases ex with
  | normal =>
    exact hL _ _ _ _ _ _ _ _ _ _ _ e μ1 w1 a1 ro n Q ht2 hE2.rel (hE2.fresh hfr (fun _ h => h.elim)) (hrd.mono hE1.mu) hdf1 (fun a2 μ2 w2 h3 h4 h5 => hQ a2 μ2 w2 h3 h4 (hE2.trans0 h5))
  | exit id => cases e; exact hQ a1 μ1 w1 ht2 hdf1 hE2
  | ret => cases e; exact hQ a1 μ1 w1 ht2 hdf1 hE2
theorem run_callFunc {f : FuncId} {fn : Func} (hf : P.funcs[f]? = some fn) (hn : (fn.name == "runtime.NumGoroutine") = false) {c : Code} (hb : fn.body = some c) (avs : Array Value) (w : World) : (callFunc f avs).run P w = .ok (.enter f avs) w := by
  have hp : (program : Sem Program).run P w = .ok P w := rfl
  simp only [callFunc, Sem.run_bind, hp, Result.andThen_ok, hf, hn, hb]
  rfl
theorem tmOf_range : ∀ (args : List Value) (k t : Nat) (v : Value), tmOf (List.range' k args.length) args t = some v → k ≤ t ∧ args[t - k]? = some v
  | [], k, t, v, h => by simp [tmOf] at h
  | x :: xs, k, t, v, h => by
    simp only [List.length_cons, List.range'_succ, tmOf] at h
    cases hb : Nat.beq t k with
    | true =>
      rw [hb] at h
      have := Nat.eq_of_beq_eq_true hb
      subst this
      exact ⟨Nat.le_refl _, by simpa using h⟩
    | false =>
      rw [hb] at h
      obtain ⟨h1, h2⟩ := tmOf_range xs (k + 1) t v h
      refine ⟨by omega, ?_⟩
      have : t - k = (t - (k + 1)) + 1 := by omega
      rw [this]; simpa using h2
theorem args_TmR {args args' : List Value} (h : VRs μ args args') {nt : Nat} (hl : args.length ≤ nt) : TmR μ (tmOf (List.range args.length) args) nt (args'.toArray ++ Array.replicate (nt - args'.toArray.size) undef) := by
  have hlen := h.1
  refine ⟨by simp; omega, fun t v e => ?_⟩
  rw [List.range_eq_range'] at e
  obtain ⟨_, h2⟩ := tmOf_range args 0 t v e
  simp only [Nat.sub_zero] at h2
  obtain ⟨y, h3, h4⟩ := h.get h2
  have hlt : t < args'.length := (List.getElem?_eq_some_iff.1 h3).1
  refine ⟨y, ?_, h4⟩
  rw [Array.getElem?_append_left (by simpa using hlt)]
  simpa using h3
theorem run_takeDeferred {b : Nat} (h : w.heap[b]? = some (.deferred (some []))) : (Instr.takeDeferred b).run P w = .ok [] { w with heap := w.heap.setIfInBounds b (.deferred none) } := by
  simp [Instr.takeDeferred, getObj, setObj, Sem.run, h, Sem.run_bind]
theorem takeAll_sim {c : Nat} {fn : Func} {tmps : Array Value} {Rq : Ending → World → Prop} {n : Nat} : ∀ (df : List Nat) (ds : List Deferred) (A : H) (w : World) (A' : H), DfR μ df ds → R μ A w → takeAll A df = some A' →
    (∀ w', Ext μ A c w (fun _ => False) μ A' c w' → LeavesIn Fence.wide n P fn tmps Rq [] .returning w') → LeavesInM Fence.wide n P fn tmps Rq ds .returning w
  | _, _, A, w, A', .nil, hR, e, h => by
    simp only [takeAll, Option.some.injEq] at e
    subst e
    exact h w (Ext.refl hR)
  | _, _, A, w, A', .cons (i := i) (m := m) (ds := ds) (es := es) hm ht hs, hR, e, h => by
    simp only [takeAll] at e
    split at e
    · rename_i hg
      have hb := hR.blk i m hm
      rw [hg] at hb
      have hE : Ext μ A c w (fun _ => False) μ (HeapC.del A i) c { w with heap := w.heap.setIfInBounds m.b (.deferred none) } :=
        Ext.del hR hm (by rw [hg]; rfl) rfl rfl rfl (by simp) (fun b hbb => by simp only; rw [Array.getElem?_setIfInBounds_ne (Ne.symm hbb)])
      refine ⟨by simp, .inl ⟨m.b, _, ht, run_takeDeferred hb, ?_⟩⟩
      exact takeAll_sim ds es _ _ A' hs hE.rel e (fun w' hE' => h w' (hE.trans0 hE'))
    · cases e
theorem aLoad_var (hR : R μ A w) {t : TypeId} {p p' v : Value} (e : aLoad P A t p = some v) (hp : VR μ p p') : ∃ a v', (asAddr p' : Sem Addr).run P w = .ok a w ∧ (loadVar t a).run P w = .ok v' w ∧ VR μ v v' := by
  obtain ⟨v', h1, h2⟩ := aLoad_sim (P := P) hR e hp
  have : ∃ i o, p = .pointer (some ⟨i, o, none⟩) := by
    simp only [aLoad, Option.bind_eq_some_iff] at e
    obtain ⟨b, hb, e⟩ := e
    cases b with
    | true =>
      simp only [cond_true, Option.bind_eq_some_iff, ldN] at e
      obtain ⟨n, hn, ⟨i, o⟩, ha, _⟩ := e
      exact ⟨i, o, asPtr_some ha⟩
    | false =>
      simp only [cond_false, ld1, Option.bind_eq_some_iff] at e
      obtain ⟨⟨i, o⟩, ha, _⟩ := e
      exact ⟨i, o, asPtr_some ha⟩
  obtain ⟨i, o, rfl⟩ := this
  obtain ⟨m, hm, rfl⟩ := hp.ptr_inv
  refine ⟨⟨m.b, m.s + o, none⟩, v', ?_, ?_, h2⟩
  · simp [asAddr]
  · simpa [Instr.loadAt, Instr.sureAddr, Sem.run_bind] using h1
theorem run_mapM_res {f : ResultVar → Sem Value} : ∀ {l : List ResultVar} {vs : List Value}, l.length = vs.length → (∀ (k : Nat) (x : ResultVar) (y : Value), l[k]? = some x → vs[k]? = some y → (f x).run P w = .ok y w) →
    (l.mapM f).run P w = .ok vs w
  | [], [], _, _ => by simp
  | [], y :: ys, h, _ => by simp at h
  | x :: xs, [], h, _ => by simp at h
  | x :: xs, y :: ys, h, hh => by
    rw [List.mapM_cons]
    simp only [Sem.run_bind, hh 0 x y (by simp) (by simp), Result.andThen_ok]
    rw [run_mapM_res (l := xs) (vs := ys) (by simpa using h) (fun k a b ha hb => hh (k + 1) a b (by simpa using ha) (by simpa using hb))]
    simp
theorem resOf_sim {tm : Tm} {nt : Nat} {ts : Array Value} (ht : TmR μ tm nt ts) (hR : R μ A w) : ∀ {l : List ResultVar} {vs : List Value}, resOf P tm A l = some vs →
    ∃ vs', l.length = vs'.length ∧ VRs μ vs vs' ∧ ∀ (k : Nat) (x : ResultVar) (y : Value), l[k]? = some x → vs'[k]? = some y →
      ((match x with
        | .tmp t => pure (ts.getD t undef)
        | .cell a t => do loadVar t (← asAddr (ts.getD a undef))) : Sem Value).run P w = .ok y w
  | [], vs, e => by
    simp only [resOf, Option.some.injEq] at e
    subst e
    exact ⟨[], rfl, VRs.nil μ, by simp⟩
  | .tmp t :: l, vs, e => by
    simp only [resOf, Option.bind_eq_some_iff] at e
    obtain ⟨v, hv, us, hus, e⟩ := e
    cases e
    obtain ⟨vs', h1, h2, h3⟩ := resOf_sim ht hR hus
    obtain ⟨v', h4, h5⟩ := ht.val t v hv
    refine ⟨v' :: vs', by simp [h1], VRs.cons h5 h2, fun k x y hx hy => ?_⟩
    cases k with
    | zero =>
      simp at hx hy
      subst hx; subst hy
      simp [Array.getD_eq_getD_getElem?, h4]
    | succ k => exact h3 k x y (by simpa using hx) (by simpa using hy)
  | .cell a t :: l, vs, e => by
    simp only [resOf, Option.bind_eq_some_iff] at e
    obtain ⟨p, hp, v, hv, us, hus, e⟩ := e
    cases e
    obtain ⟨vs', h1, h2, h3⟩ := resOf_sim ht hR hus
    obtain ⟨p', h4, h5⟩ := ht.val a p hp
    obtain ⟨ad, v', h6, h7, h8⟩ := aLoad_var (P := P) hR hv h5
    refine ⟨v' :: vs', by simp [h1], VRs.cons h8 h2, fun k x y hx hy => ?_⟩
    cases k with
    | zero =>
      simp at hx hy
      subst hx; subst hy
      have hg : ts.getD a undef = p' := by simp [Array.getD_eq_getD_getElem?, h4]
      simp only [hg, Sem.run_bind, h6, Result.andThen_ok, h7]
    | succ k => exact h3 k x y (by simpa using hx) (by simpa using hy)
theorem results_sim {fn : Func} {tm : Tm} {nt : Nat} {ts : Array Value} (ht : TmR μ tm nt ts) (hR : R μ A w) {vs : List Value} (e : resOf P tm A fn.results.toList = some vs) :
    ∃ v', (results fn ts).run P w = .ok v' w ∧ VR μ (tup vs) v' := by
  obtain ⟨vs', h1, h2, h3⟩ := resOf_sim ht hR e
  have hm := run_mapM_res (P := P) (w := w) h1 h3
  have hrun : (results fn ts).run P w = .ok (if h : vs'.toArray.size = 1 then vs'.toArray[0] else .tuple vs'.toArray) w := by
    unfold results
    rw [Sem.run_bind, Array.mapM_eq_mapM_toList]
    simp only [map_eq_pure_bind, Sem.run_bind]
    erw [hm]
    simp
  refine ⟨_, hrun, ?_⟩
  have hlen := h2.1
  cases vs with
  | nil =>
    have := h2.nil_left; subst this
    simp only [List.toArray, tup]
    exact VR.tuple_iff.2 (VRs.nil μ)
  | cons x xs =>
    obtain ⟨y, ys, rfl, hxy, hxs⟩ := h2.left
    cases xs with
    | nil =>
      have := hxs.nil_left; subst this
      simpa [tup] using hxy
    | cons x2 xs =>
      obtain ⟨y2, ys', rfl, _, _⟩ := hxs.left
      have : ¬ ((y :: y2 :: ys').toArray.size = 1) := by simp
      rw [dif_neg this]
      simp only [tup]
      exact VR.tuple_iff.2 (by simpa using h2)
theorem OS.step {bk : FuncId → Option AFun} (hbk : BookOK P bk) {o : Orc H} {k : Nat} (hO : OS P o) (hL : LoopOK P o k) (hmix : P.follows .mixedOrders = true) : OS P (answer P bk o) where
  fn := by
    intro f args A c df r e
    simp only [answer, Option.bind_eq_some_iff] at e
    obtain ⟨af, haf, e⟩ := e
    obtain ⟨fn, cd, hf, hb, hn, hs, hnt, hres⟩ := hbk _ _ haf
    refine ⟨fun avs w => run_callFunc hf hn hb avs w, fun μ w args' hargs hR hfresh => ?_⟩
    obtain ⟨hlen, e1⟩ := cond_some e
    clear e
    simp only [Option.bind_eq_some_iff] at e1
    obtain ⟨⟨ex, s1⟩, h1, e2⟩ := e1
    refine callsIn_wide (n := 0).1 (callsIn_of_wp_marks hf hb trivial ?_)
    rw [← hs]
    have ht0 := args_TmR hargs (Nat.le_of_ble_eq_true hlen)
    rw [hnt] at ht0
    have := exec_wp (ro := none) (n := 0) (Q := bodyPostM Fence.wide 0 P fn (CallR μ A c w r)) hO hL hmix h1 (w := w) (a := { tmps := args'.toArray ++ Array.replicate (fn.ntmps - args'.toArray.size) undef, defers := [] })
      (by rw [hnt]; exact ht0) hR hfresh trivial .nil ?_
    · exact this
    intro a1 μ1 w1 ht1 hdf1 hE1
    have hmain : ∀ (h1' : H) (vs : List Value), takeAll s1.h s1.df = some h1' → resOf P s1.tm h1' af.res = some vs → r = { e := .ret, vs := [tup vs], h := dropBs s1.tm h1' af.fr, c := s1.c, df := [] } →
        LeavesInM Fence.wide 0 P fn a1.tmps (CallR μ A c w r) a1.defers .returning w1 := by
      intro h1' vs htk hrs hr
      refine takeAll_sim (c := s1.c) s1.df a1.defers s1.h w1 h1' hdf1 hE1.rel htk fun w2 hE2 => ?_
      rw [hres] at hrs
      obtain ⟨v', hv1, hv2⟩ := results_sim (P := P) ht1 hE2.rel hrs
      refine ⟨v', hv1, tup vs, v', μ1, by rw [hr], rfl, hv2, ?_⟩
      rw [hr]
      have hdrop := dropBs_ext (c := s1.c) ht1 af.fr h1' hE2.rel
      exact (hE1.trans0 hE2).trans0 hdrop
    cases ex with
    | exit id => cases e2
    | normal =>
      simp only [Option.bind_eq_some_iff] at e2
      obtain ⟨h1', htk, vs, hrs, hr⟩ := e2
      cases hr
      exact hmain h1' vs htk hrs rfl
    | ret =>
      simp only [Option.bind_eq_some_iff] at e2
      obtain ⟨h1', htk, vs, hrs, hr⟩ := e2
      cases hr
      exact hmain h1' vs htk hrs rfl
  rnd := by
    intro nt lin fr params l x y vs A c df r e μ w ts m ro n f hm ht hR hfr
    simp only [answer, Option.bind_eq_some_iff] at e
    obtain ⟨⟨ex, s1⟩, h1, e1⟩ := e
    cases ex with
    | exit id => cases e1
    | ret => cases e1
    | normal =>
      simp only [Option.bind_eq_some_iff] at e1
      obtain ⟨hb1, hbeg, ⟨ex2, s2⟩, h2, hs2, hset, e2⟩ := e1
      obtain ⟨hemp, e3⟩ := cond_some e2
      clear e2
      have k1 := exec_keeps h1
      have k2 := exec_keeps h2
      refine roundIn_of_wpIn trivial ?_
      have hrd : RdR μ (some l) (some m.b) := ⟨m, hm, rfl⟩
      refine exec_wp (ro := some m.b) hO hL hmix h1 (a := { tmps := ts, defers := [] }) ht hR hfr hrd .nil fun a1 μ1 w1 ht1 hdf1 hE1 => ?_
      unfold beginSt at hbeg
      split at hbeg
      · rename_i st hg
        obtain ⟨hready, hbeg'⟩ := cond_some hbeg
        cases hbeg'
        simp only [decide_eq_true_eq] at hready
        have hm1 := hE1.mu l m hm
        have hbk := hE1.rel.blk l m hm1
        rw [hg] at hbk
        obtain ⟨lp, hlp, hL1⟩ := hbk
        have hbr : (Instr.beginRound m.b).run P w1 = .ok () { w1 with heap := w1.heap.setIfInBounds m.b (.loop { lp with state := .busy }) } := by
          simp only [Instr.beginRound, Sem.run_bind, run_getLoop hlp, Result.andThen_ok, run_setLoop hlp]
          rw [hL1.state, hready]
          simp
        refine ⟨_, hbr, ?_⟩
        have hLb : LoopR μ1 { st with state := .busy } { lp with state := .busy } := ⟨rfl, hL1.pending, hL1.params, hL1.assign, hL1.body, hL1.size, hL1.vals, hL1.dfr⟩
        have hE2 := Ext.setLoop (c := s1.c) (own := fun _ => False) hE1.rel hm1 hg hLb
        have hE12 := hE1.trans0 hE2
        refine exec_wp (ro := some m.b) hO hL hmix h2 (by rw [k1.1]; exact ht1) hE2.rel (hE12.fresh hfr (fun _ h => h.elim)) (by rw [k1.2]; exact hrd.mono hE12.mu) hdf1 fun a2 μ2 w2 ht2 hdf2 hE3 => ?_
        have hE123 := hE12.trans0 hE3
        have hdrop := dropBs_ext (c := s2.c) ht2 fr s2.h hE3.rel
        have hE4 := hE123.trans0 hdrop
        unfold setState at hset
        split at hset
        · rename_i st2 hg2
          cases hset
          have hm2 := hE123.mu l m hm
          have hbk2 := hdrop.rel.blk l m hm2
          rw [hg2] at hbk2
          obtain ⟨lp2, hlp2, hL2⟩ := hbk2
          have hend : ∀ jump : Option Code, jump = jumpOf ex2 → ∃ v w', (Instr.endRound m.b jump).run P w2 = .ok v w' ∧ CallR μ A c w r (.returned v) w' := by
            intro jump hj
            subst hj
            cases e3
            refine ⟨.bool (jumpOf ex2).isNone, { w2 with heap := w2.heap.setIfInBounds m.b (.loop { lp2 with state := if (jumpOf ex2).isNone then .ready else .done, pending := jumpOf ex2 }) }, ?_, ?_⟩
            · simp only [Instr.endRound, Sem.run_bind, run_getLoop hlp2, Result.andThen_ok, run_setLoop hlp2, Sem.run_pure]
            · have hLe : LoopR μ2 { st2 with state := cond (jumpOf ex2).isNone .ready .done, pending := jumpOf ex2 } { lp2 with state := if (jumpOf ex2).isNone then .ready else .done, pending := jumpOf ex2 } :=
                ⟨by cases (jumpOf ex2).isNone <;> rfl, rfl, hL2.params, hL2.assign, hL2.body, hL2.size, hL2.vals, hL2.dfr⟩
              have hE5 := Ext.setLoop (c := s2.c) (own := fun _ => False) hdrop.rel hm2 hg2 hLe
              exact ⟨_, _, μ2, rfl, rfl, .bool _, hE4.trans0 hE5⟩
          cases ex2 with
          | normal => exact hend none rfl
          | ret => exact hend (some .ret) rfl
          | exit id => exact hend (some (.exit id)) rfl
        · cases hset
      · cases hbeg
theorem orc_ok {bk : FuncId → Option AFun} (hbk : BookOK P bk) (hmix : P.follows .mixedOrders = true) : ∀ n, OS (H := H) P (orc P bk n) ∧ LoopOK (H := H) P (orc P bk n) n
  | 0 => ⟨⟨(fun _ _ _ _ _ _ e => by cases e), (fun _ _ _ _ _ _ _ _ _ _ _ _ e => by cases e)⟩, fun _ _ _ _ _ _ _ _ _ _ _ e => by cases e⟩
  | n + 1 => ⟨OS.step hbk (orc_ok hbk hmix n).1 (orc_ok hbk hmix n).2 hmix, LoopOK.step (orc_ok hbk hmix n).1 (orc_ok hbk hmix n).2 hmix⟩
theorem orc_calls {bk : FuncId → Option AFun} (hbk : BookOK P bk) (hmix : P.follows .mixedOrders = true) {n : Nat} {f : FuncId} {args args' : List Value} {A : H} {c : Nat} {r : Rt H} (e : orc P bk n (.fn f) args A c [] = some r)
    (hv : VRs μ args args') (hR : R μ A w) (hfr : Fresh μ c) : Calls P f args'.toArray w (CallR μ A c w r) :=
  ((orc_ok hbk hmix n).1.fn f args A c [] r e).2 μ w args' hv hR hfr
end Go.Ab

namespace Go.Ab
open Go
set_option linter.unusedVariables false
set_option linter.unusedSimpArgs false
variable {H : Type} [HeapC H] {P : Program}
def Tm.le (tm tm' : Tm) : Prop := ∀ t v, tm t = some v → tm' t = some v
theorem evalO_le {tm tm' : Tm} (h : tm.le tm') {x : Operand} {v : Value} (e : evalO tm x = some v) : evalO tm' x = some v := by
  cases x with
  | tmp t => exact h t v e
  | _ => exact e
theorem evalOs_le {tm tm' : Tm} (h : tm.le tm') : ∀ {xs : List Operand} {vs : List Value}, evalOs tm xs = some vs → evalOs tm' xs = some vs
  | [], vs, e => e
  | x :: xs, vs, e => by
    simp only [evalOs, Option.bind_eq_some_iff] at e ⊢
    obtain ⟨v, hv, ws, hw, e⟩ := e
    exact ⟨v, evalO_le h hv, ws, evalOs_le h hw, e⟩
theorem evalPs_le {tm tm' : Tm} (h : tm.le tm') : ∀ {xs : List (Nat × Operand)} {vs : List (Nat × Value)}, evalPs tm xs = some vs → evalPs tm' xs = some vs
  | [], vs, e => e
  | (i, x) :: xs, vs, e => by
    simp only [evalPs, Option.bind_eq_some_iff] at e ⊢
    obtain ⟨v, hv, ws, hw, e⟩ := e
    exact ⟨v, evalO_le h hv, ws, evalPs_le h hw, e⟩
theorem optO_le {tm tm' : Tm} (h : tm.le tm') {x : Option Operand} {v : Option Value} (e : optO tm x = some v) : optO tm' x = some v := by
  cases x with
  | none => exact e
  | some x =>
    simp only [optO, Option.bind_eq_some_iff] at e ⊢
    obtain ⟨v, hv, e⟩ := e
    exact ⟨v, evalO_le h hv, e⟩
theorem vals_le {tm tm' : Tm} (h : tm.le tm') : ∀ {l : List Nat} {vs : List Value}, vals tm l = some vs → vals tm' l = some vs
  | [], vs, e => e
  | t :: l, vs, e => by
    simp only [Ab.vals, Option.bind_eq_some_iff] at e ⊢
    obtain ⟨v, hv, ws, hw, e⟩ := e
    exact ⟨v, h t v hv, ws, vals_le h hw, e⟩
theorem putT_le {tm tm' : Tm} (h : tm.le tm') (d : Option Tmp) (x : Value) : (putT tm d x).le (putT tm' d x) := by
  intro t v e
  cases d with
  | none => exact h t v e
  | some d =>
    simp only [putT] at e ⊢
    cases hb : Nat.beq t d with
    | true => rw [hb] at e; exact e
    | false => rw [hb] at e; exact h t v e
theorem doOp_le {o : Orc H} {id : Nat} {tm tm' : Tm} {h : H} {c : Nat} {op : Op} {r : Value × H × Nat} (hl : tm.le tm') (e : doOp P o id tm h c op = some r) : doOp P o id tm' h c op = some r := by
  cases op with
  | move x =>
    simp only [doOp] at e ⊢
    cases hx : evalO tm x with
    | none => rw [hx] at e; cases e
    | some v => rw [evalO_le hl hx]; rw [hx] at e; exact e
  | assign x =>
    simp only [doOp] at e ⊢
    cases hx : evalO tm x with
    | none => rw [hx] at e; cases e
    | some v => rw [evalO_le hl hx]; rw [hx] at e; exact e
  | pick k a b =>
    simp only [doOp, Option.bind_eq_some_iff] at e ⊢
    obtain ⟨x, hx, y, hy, z, hz, e⟩ := e
    exact ⟨x, evalO_le hl hx, y, evalO_le hl hy, z, evalO_le hl hz, e⟩
  | alloc t => exact e
  | box t x =>
    simp only [doOp, Option.bind_eq_some_iff] at e ⊢
    obtain ⟨x, hx, e⟩ := e
    exact ⟨x, evalO_le hl hx, e⟩
  | build t ps =>
    simp only [doOp, Option.bind_eq_some_iff] at e ⊢
    obtain ⟨x, hx, e⟩ := e
    exact ⟨x, evalPs_le hl hx, e⟩
  | buildSlice t len ps =>
    simp only [doOp, Option.bind_eq_some_iff] at e ⊢
    obtain ⟨x, hx, e⟩ := e
    exact ⟨x, evalPs_le hl hx, e⟩
  | makeFunc fn a b =>
    cases fn with
    | func g =>
      simp only [doOp, Option.bind_eq_some_iff] at e ⊢
      obtain ⟨x, hx, y, hy, e⟩ := e
      exact ⟨x, evalOs_le hl hx, y, evalOs_le hl hy, e⟩
    | _ => exact e
  | makeMap t r =>
    cases r with
    | none => exact e
    | some x =>
      simp only [doOp, Option.bind_eq_some_iff] at e ⊢
      obtain ⟨ke, hke, x, hx, e⟩ := e
      exact ⟨ke, hke, x, evalO_le hl hx, e⟩
  | slice t x lo hi mx =>
    simp only [doOp, Option.bind_eq_some_iff] at e ⊢
    obtain ⟨x, hx, l, hlo, hh, hhi, m, hm, e⟩ := e
    exact ⟨x, evalO_le hl hx, l, optO_le hl hlo, hh, optO_le hl hhi, m, optO_le hl hm, e⟩
  | call k =>
    simp only [doOp, Option.bind_eq_some_iff] at e ⊢
    obtain ⟨avs, ha, e⟩ := e
    refine ⟨avs, evalOs_le hl ha, ?_⟩
    split at e
    · rename_i f hk
      simp only [Option.bind_eq_some_iff] at e ⊢
      obtain ⟨fv, hf, e⟩ := e
      exact ⟨fv, evalO_le hl hf, e⟩
    · exact e
    · exact e
  | store _ x y =>
    simp only [doOp, Option.bind_eq_some_iff] at e ⊢
    obtain ⟨x, hx, y, hy, e⟩ := e
    exact ⟨x, evalO_le hl hx, y, evalO_le hl hy, e⟩
  | binOp _ _ x y _ =>
    simp only [doOp, Option.bind_eq_some_iff] at e ⊢
    obtain ⟨x, hx, y, hy, e⟩ := e
    exact ⟨x, evalO_le hl hx, y, evalO_le hl hy, e⟩
  | makeSlice _ x y =>
    simp only [doOp, Option.bind_eq_some_iff] at e ⊢
    obtain ⟨x, hx, y, hy, e⟩ := e
    exact ⟨x, evalO_le hl hx, y, evalO_le hl hy, e⟩
  | indexAddr _ x y =>
    simp only [doOp, Option.bind_eq_some_iff] at e ⊢
    obtain ⟨x, hx, y, hy, e⟩ := e
    exact ⟨x, evalO_le hl hx, y, evalO_le hl hy, e⟩
  | index _ x y =>
    simp only [doOp, Option.bind_eq_some_iff] at e ⊢
    obtain ⟨x, hx, y, hy, e⟩ := e
    exact ⟨x, evalO_le hl hx, y, evalO_le hl hy, e⟩
  | lookup _ x y _ =>
    simp only [doOp, Option.bind_eq_some_iff] at e ⊢
    obtain ⟨x, hx, y, hy, e⟩ := e
    exact ⟨x, evalO_le hl hx, y, evalO_le hl hy, e⟩
  | mapUpdate _ x y z =>
    simp only [doOp, Option.bind_eq_some_iff] at e ⊢
    obtain ⟨x, hx, y, hy, z, hz, e⟩ := e
    exact ⟨x, evalO_le hl hx, y, evalO_le hl hy, z, evalO_le hl hz, e⟩
  | insert _ x y z =>
    simp only [doOp, Option.bind_eq_some_iff] at e ⊢
    obtain ⟨x, hx, y, hy, z, hz, e⟩ := e
    exact ⟨x, evalO_le hl hx, y, evalO_le hl hy, z, evalO_le hl hz, e⟩
  | convert _ _ x =>
    simp only [doOp, Option.bind_eq_some_iff] at e ⊢
    obtain ⟨d, hd, x, hx, e⟩ := e
    exact ⟨d, hd, x, evalO_le hl hx, e⟩
  | load _ x | nilCheck x | unOp _ _ x | sliceToArrayPointer _ x | makeInterface _ x | fieldAddr _ x _ | field _ x _ | extract x _ =>
    simp only [doOp, Option.bind_eq_some_iff] at e ⊢
    obtain ⟨x, hx, e⟩ := e
    exact ⟨x, evalO_le hl hx, e⟩
  | _ => exact e
theorem wantedA_le {ops : Array Oper} {tm tm' : Tm} {oper : Oper} {b : Bool} (hl : tm.le tm') (e : wantedA ops tm oper = some b) : wantedA ops tm' oper = some b := by
  unfold wantedA at e ⊢
  split at e
  · exact e
  · simp only [Option.bind_eq_some_iff] at e ⊢
    obtain ⟨d, hd, v, hv, e⟩ := e
    exact ⟨d, hd, v, hl d v hv, e⟩
theorem stepOp_le {o : Orc H} {ops : Array Oper} {base i nt c : Nat} {tm tm' : Tm} {h : H} {oper : Oper} {r : Value × H × Nat} (hl : tm.le tm') (e : stepOp P o ops base i nt tm h c oper = some r) : stepOp P o ops base i nt tm' h c oper = some r := by
  simp only [stepOp, Option.bind_eq_some_iff] at e ⊢
  obtain ⟨b, hb, e⟩ := e
  refine ⟨b, wantedA_le hl hb, ?_⟩
  obtain ⟨hg, e1⟩ := cond_some e
  rw [hg]
  cases b
  · exact e1
  · exact doOp_le hl e1
theorem runOps_le {o : Orc H} {ops : Array Oper} {base nt : Nat} : ∀ {l : List Oper} {i : Nat} {tm tm' : Tm} {h : H} {c : Nat} {r : Tm × H × Nat}, tm.le tm' → runOps P o ops base nt l i tm h c = some r →
    ∃ tm1, runOps P o ops base nt l i tm' h c = some (tm1, r.2.1, r.2.2) ∧ r.1.le tm1
  | [], i, tm, tm', h, c, r, hl, e => by
    simp only [runOps, Option.some.injEq] at e ⊢
    subst e
    exact ⟨tm', rfl, hl⟩
  | oper :: l, i, tm, tm', h, c, r, hl, e => by
    simp only [runOps, Option.bind_eq_some_iff] at e ⊢
    obtain ⟨q, hq, e⟩ := e
    obtain ⟨tm1, h1, h2⟩ := runOps_le (putT_le hl oper.dst q.1) e
    exact ⟨tm1, ⟨q, stepOp_le hl hq, h1⟩, h2⟩
end Go.Ab

namespace Go.Ab
open Go
set_option linter.unusedVariables false
set_option linter.unusedSimpArgs false
variable {H : Type} [HeapC H] {P : Program}
theorem rid_le {o : Orc H} {ops : Array Oper} {base i nt c : Nat} {tm tm' : Tm} {h : H} {oper : Oper} {r : Value × H × Nat} (hl : tm.le tm') (e : stepOp P o ops base i nt tm h c oper = some r) : rid ops tm' oper = rid ops tm oper := by
  obtain ⟨b, hb, _, _, he⟩ := stepOp_some e
  have hb' := wantedA_le hl hb
  simp only [rid, hb, hb']
  cases b with
  | false => rfl
  | true =>
    rcases he with ⟨_, he⟩ | ⟨h0, _⟩
    · simp only
      cases hop : oper.op <;> rw [hop] at he <;> try rfl
      case load t a =>
        simp only [doOp, Option.bind_eq_some_iff] at he
        obtain ⟨v, hv, _⟩ := he
        simp only [ridOf, hv, evalO_le hl hv]
      case lookup t m k ok =>
        simp only [doOp, Option.bind_eq_some_iff] at he
        obtain ⟨v, hv, _⟩ := he
        simp only [ridOf, hv, evalO_le hl hv]
      case slice t x lo hi mx =>
        simp only [doOp, Option.bind_eq_some_iff] at he
        obtain ⟨v, hv, _⟩ := he
        simp only [ridOf, hv, evalO_le hl hv]
      case call k =>
        obtain ⟨callee, args, ats⟩ := k
        cases callee with
        | builtin b =>
          cases b <;> try rfl
          simp only [doOp, Option.bind_eq_some_iff] at he
          obtain ⟨avs, ha, _⟩ := he
          simp only [ridOf]
          cases hal : args.toList with
          | nil =>
            have : args[0]? = none := by rw [← Array.getElem?_toList, hal]; rfl
            rw [this]; rfl
          | cons y ys =>
            rw [hal] at ha
            simp only [evalOs, Option.bind_eq_some_iff] at ha
            obtain ⟨v0, h0, _⟩ := ha
            have : args[0]? = some y := by rw [← Array.getElem?_toList, hal]; rfl
            rw [this]
            simp only [Option.bind_some, h0, evalO_le hl h0]
        | _ => rfl
    · cases h0
theorem runOpsT_le {o : Orc H} {ops : Array Oper} {base nt : Nat} : ∀ {l : List Oper} {i : Nat} {tm tm' : Tm} {h : H} {c : Nat} {q : Tm × H × Nat × List (Option Nat × H)}, tm.le tm' → runOpsT P o ops base nt l i tm h c = some q →
    ∃ tm1, runOpsT P o ops base nt l i tm' h c = some (tm1, q.2) ∧ q.1.le tm1
  | [], i, tm, tm', h, c, q, hl, e => by
    simp only [runOpsT, Option.some.injEq] at e ⊢
    subst e
    exact ⟨tm', rfl, hl⟩
  | oper :: l, i, tm, tm', h, c, q, hl, e => by
    simp only [runOpsT, Option.bind_eq_some_iff] at e ⊢
    obtain ⟨r, hr, q1, hq1, e⟩ := e
    cases e
    obtain ⟨tm1, h1, h2⟩ := runOpsT_le (putT_le hl oper.dst r.1) hq1
    refine ⟨tm1, ⟨r, stepOp_le hl hr, _, h1, ?_⟩, h2⟩
    rw [rid_le hl hr]
theorem runReg_le {o : Orc H} {ops : Array Oper} {draw : Bool} {nt : Nat} {tm tm' : Tm} {h : H} {c : Nat} {r : Tm × H × Nat} (hl : tm.le tm') (e : runReg P o ops draw nt tm h c = some r) :
    ∃ tm1, runReg P o ops draw nt tm' h c = some (tm1, r.2) ∧ r.1.le tm1 := by
  cases draw with
  | false => exact runOps_le hl e
  | true =>
    obtain ⟨hreg, e1⟩ := cond_some (show cond (regOk ops) _ none = some r from e)
    clear e
    show ∃ tm1, cond (regOk ops) _ none = _ ∧ _
    rw [hreg]
    simp only [cond_true]
    cases hw : (lws ops).isEmpty with
    | true => rw [hw] at e1; exact runOps_le hl e1
    | false =>
      rw [hw] at e1
      simp only [cond_false, Option.bind_eq_some_iff] at e1 ⊢
      obtain ⟨q, hq, e2⟩ := e1
      obtain ⟨hlw, e3⟩ := cond_some e2
      cases e3
      obtain ⟨tm1, h1, h2⟩ := runOpsT_le hl hq
      exact ⟨tm1, ⟨_, h1, by simp only [hlw]; rfl⟩, h2⟩
theorem vals_length {tm : Tm} : ∀ {l : List Nat} {vs : List Value}, vals tm l = some vs → vs.length = l.length
  | [], vs, h => by simp only [Ab.vals, Option.some.injEq] at h; subst h; rfl
  | t :: l, vs, h => by
    simp only [Ab.vals, Option.bind_eq_some_iff] at h
    obtain ⟨x, _, ws, hw, h⟩ := h
    cases h
    simp [vals_length hw]
end Go.Ab


namespace Go.Ab
open Go
set_option linter.unusedVariables false
set_option linter.unusedSimpArgs false
variable {H : Type} [HeapC H] {P : Program}
def Ev {α : Type} (xs : Nat → Option α) (r : α) : Prop := ∃ n, ∀ m, n ≤ m → xs m = some r
theorem Ev.const {α : Type} {x : Option α} {r : α} (h : x = some r) : Ev (fun _ => x) r := ⟨0, fun _ _ => h⟩
theorem Ev.bind {α β : Type} {xs : Nat → Option α} {a : α} {fs : Nat → α → Option β} {b : β} (h : Ev xs a) (k : Ev (fun n => fs n a) b) : Ev (fun n => (xs n).bind (fs n)) b := by
  obtain ⟨n, hn⟩ := h
  obtain ⟨m, hm⟩ := k
  exact ⟨n + m, fun q hq => by simp only [hn q (by omega), Option.bind_some]; exact hm q (by omega)⟩
theorem Ev.bindc {α β : Type} {x : Option α} {a : α} {fs : Nat → α → Option β} {b : β} (h : x = some a) (k : Ev (fun n => fs n a) b) : Ev (fun n => x.bind (fs n)) b := Ev.bind (Ev.const h) k
theorem Ev.cond {α : Type} {t : Bool} {xs ys : Nat → Option α} {r : α} (h : t = true → Ev xs r) (k : t = false → Ev ys r) : Ev (fun n => cond t (xs n) (ys n)) r := by
  cases t with
  | true => exact h rfl
  | false => exact k rfl
theorem Ev.congr {α : Type} {xs ys : Nat → Option α} {r : α} (e : ∀ n, xs n = ys n) (h : Ev xs r) : Ev ys r := by
  obtain ⟨n, hn⟩ := h
  exact ⟨n, fun m hm => by rw [← e]; exact hn m hm⟩
def Fam (ox : Orc H) (os : Nat → Orc H) : Prop := ∀ k args h c df r, ox k args h c df = some r → Ev (fun n => os n k args h c df) r
section
variable {ox : Orc H} {os : Nat → Orc H}
theorem callV_ev (hF : Fam ox os) {h : H} {c : Nat} {fv : Value} {args : List Value} {r : Value × H × Nat} (e : callV ox h c fv args = some r) : Ev (fun n => callV (os n) h c fv args) r := by
  cases fv with
  | func f first cap =>
    cases f with
    | func g =>
      simp only [callV, Option.bind_eq_some_iff] at e ⊢
      obtain ⟨q, hq, e⟩ := e
      exact Ev.bind (hF _ _ _ _ _ _ hq) (Ev.const e)
    | yield l =>
      simp only [callV] at e ⊢
      refine Ev.cond (fun h0 => ?_) (fun h0 => by rw [h0] at e; cases e)
      rw [h0] at e
      simp only [cond_true] at e
      split at e
      · rename_i st hg
        refine Ev.cond (fun h1 => ?_) (fun h1 => by rw [h1] at e; cases e)
        rw [h1] at e
        simp only [cond_true, Option.bind_eq_some_iff] at e
        obtain ⟨q, hq, e⟩ := e
        exact Ev.bind (hF _ _ _ _ _ _ hq) (Ev.const e)
      · cases e
    | _ => simp [callV] at e
  | _ => simp [callV] at e
theorem doOp_ev (hF : Fam ox os) {id : Nat} {tm : Tm} {h : H} {c : Nat} {op : Op} {r : Value × H × Nat} (e : doOp P ox id tm h c op = some r) : Ev (fun n => doOp P (os n) id tm h c op) r := by
  cases op with
  | call k =>
    simp only [doOp, Option.bind_eq_some_iff] at e ⊢
    obtain ⟨args, ha, e⟩ := e
    refine Ev.bindc ha ?_
    cases hk : k.callee with
    | value f =>
      rw [hk] at e
      simp only [Option.bind_eq_some_iff] at e
      obtain ⟨fv, hf, e⟩ := e
      exact Ev.bindc hf (callV_ev hF e)
    | builtin b => rw [hk] at e; exact Ev.const e
    | invoke _ _ => rw [hk] at e; cases e
  | _ => exact Ev.const e
theorem stepOp_ev (hF : Fam ox os) {ops : Array Oper} {base i nt : Nat} {tm : Tm} {h : H} {c : Nat} {op : Oper} {r : Value × H × Nat} (e : stepOp P ox ops base i nt tm h c op = some r) :
    Ev (fun n => stepOp P (os n) ops base i nt tm h c op) r := by
  simp only [stepOp, Option.bind_eq_some_iff] at e ⊢
  obtain ⟨w, hw, e⟩ := e
  refine Ev.bindc hw ?_
  refine Ev.cond (fun h0 => ?_) (fun h0 => by rw [h0] at e; cases e)
  rw [h0] at e
  refine Ev.cond (fun h1 => ?_) (fun h1 => by rw [h1] at e; exact Ev.const e)
  rw [h1] at e
  exact doOp_ev hF e
theorem runOps_ev (hF : Fam ox os) {ops : Array Oper} {base nt : Nat} : ∀ {l : List Oper} {i : Nat} {tm : Tm} {h : H} {c : Nat} {r : Tm × H × Nat}, runOps P ox ops base nt l i tm h c = some r → Ev (fun n => runOps P (os n) ops base nt l i tm h c) r
  | [], i, tm, h, c, r, e => Ev.const e
  | op :: l, i, tm, h, c, r, e => by
    simp only [runOps, Option.bind_eq_some_iff] at e ⊢
    obtain ⟨q, hq, e⟩ := e
    exact Ev.bind (stepOp_ev hF hq) (runOps_ev hF e)
theorem runOpsT_ev (hF : Fam ox os) {ops : Array Oper} {base nt : Nat} : ∀ {l : List Oper} {i : Nat} {tm : Tm} {h : H} {c : Nat} {r : Tm × H × Nat × List (Option Nat × H)},
    runOpsT P ox ops base nt l i tm h c = some r → Ev (fun n => runOpsT P (os n) ops base nt l i tm h c) r
  | [], i, tm, h, c, r, e => Ev.const e
  | op :: l, i, tm, h, c, r, e => by
    simp only [runOpsT, Option.bind_eq_some_iff] at e ⊢
    obtain ⟨q, hq, q2, hq2, e⟩ := e
    exact Ev.bind (stepOp_ev hF hq) (Ev.bind (runOpsT_ev hF hq2) (Ev.const e))
theorem runReg_ev (hF : Fam ox os) {ops : Array Oper} {draw : Bool} {nt : Nat} {tm : Tm} {h : H} {c : Nat} {r : Tm × H × Nat} (e : runReg P ox ops draw nt tm h c = some r) : Ev (fun n => runReg P (os n) ops draw nt tm h c) r := by
  simp only [runReg] at e ⊢
  refine Ev.cond (fun h0 => ?_) (fun h0 => by rw [h0] at e; exact runOps_ev hF e)
  rw [h0] at e
  refine Ev.cond (fun h1 => ?_) (fun h1 => by rw [h1] at e; cases e)
  rw [h1] at e
  refine Ev.cond (fun h2 => by rw [h2] at e; exact runOps_ev hF e) (fun h2 => ?_)
  rw [h2] at e
  simp only [cond_true, cond_false, Option.bind_eq_some_iff] at e
  obtain ⟨q, hq, e⟩ := e
  exact Ev.bind (runOpsT_ev hF hq) (Ev.const e)
theorem exec_ev (hF : Fam ox os) : ∀ {code : ACode} {s : St H} {r : Ex × St H}, exec P ox code s = some r → Ev (fun n => exec P (os n) code s) r := by
  intro code
  induction code with
  | region id ops d =>
    intro s r e
    simp only [exec, Option.bind_eq_some_iff] at e ⊢
    obtain ⟨q, hq, e⟩ := e
    exact Ev.bind (runReg_ev hF hq) (Ev.const e)
  | seq a b iha ihb =>
    intro s r e
    simp only [exec, Option.bind_eq_some_iff] at e ⊢
    obtain ⟨⟨e2, s2⟩, h1, e⟩ := e
    refine Ev.bind (iha h1) ?_
    cases e2 with
    | normal => exact ihb e
    | exit id => exact Ev.const e
    | ret => exact Ev.const e
  | cond c a b iha ihb =>
    intro s r e
    simp only [exec, Option.bind_eq_some_iff] at e ⊢
    obtain ⟨v, hv, e⟩ := e
    refine Ev.bindc hv ?_
    cases v with
    | bool t =>
      cases t
      · exact ihb e
      · exact iha e
    | _ => cases e
  | block id b ih =>
    intro s r e
    simp only [exec, Option.bind_eq_some_iff] at e ⊢
    obtain ⟨q, hq, e⟩ := e
    exact Ev.bind (ih hq) (Ev.const e)
  | loop j lin fr outs b _ =>
    intro s r e
    simp only [exec, Option.bind_eq_some_iff] at e ⊢
    obtain ⟨vs, hv, q, hq, e⟩ := e
    exact Ev.bindc hv (Ev.bind (hF _ _ _ _ _ _ hq) (Ev.const e))
  | rangeFunc j lin fr outs f ps a b _ _ =>
    intro s r e
    simp only [exec, execRange, Option.bind_eq_some_iff] at e ⊢
    obtain ⟨fv, hf, e⟩ := e
    refine Ev.bindc hf ?_
    cases fv with
    | func fk first cap =>
      cases fk with
      | func g =>
        simp only [Option.bind_eq_some_iff] at e
        obtain ⟨vs, hv, hd, hhd, q, hq, e⟩ := e
        exact Ev.bindc hv (Ev.bindc hhd (Ev.bind (hF _ _ _ _ _ _ hq) (Ev.const e)))
      | _ => cases e
    | _ => cases e
  | join lays a ih => intro s r e; simp only [exec] at e ⊢; exact ih e
  | _ => intro s r e; exact Ev.const e
theorem answer_ev {bk : FuncId → Option AFun} (hF : Fam ox os) : Fam (answer P bk ox) (fun n => answer P bk (os n)) := by
  intro k args h c df r e
  cases k with
  | fn f =>
    simp only [answer, Option.bind_eq_some_iff] at e ⊢
    obtain ⟨a, ha, e⟩ := e
    refine Ev.bindc ha ?_
    refine Ev.cond (fun h0 => ?_) (fun h0 => by rw [h0] at e; cases e)
    rw [h0] at e
    simp only [cond_true, Option.bind_eq_some_iff] at e
    obtain ⟨q, hq, e⟩ := e
    exact Ev.bind (exec_ev hF hq) (Ev.const e)
  | lp j lin fr b nt rd =>
    simp only [answer, Option.bind_eq_some_iff] at e ⊢
    obtain ⟨q, hq, vs, hv, e⟩ := e
    refine Ev.bind (exec_ev hF hq) (Ev.bindc hv ?_)
    cases hq1 : q.1 with
    | normal => rw [hq1] at e; exact hF _ _ _ _ _ _ e
    | exit id => rw [hq1] at e; exact Ev.const e
    | ret => rw [hq1] at e; exact Ev.const e
  | rnd nt lin fr params l a b =>
    simp only [answer, Option.bind_eq_some_iff] at e ⊢
    obtain ⟨q, hq, e⟩ := e
    refine Ev.bind (exec_ev hF hq) ?_
    cases hq1 : q.1 with
    | normal =>
      rw [hq1] at e
      simp only [Option.bind_eq_some_iff] at e
      obtain ⟨h1, hb, q2, hq2, e⟩ := e
      exact Ev.bindc hb (Ev.bind (exec_ev hF hq2) (Ev.const (by simp only [Option.bind_eq_some_iff]; exact e)))
    | exit id => rw [hq1] at e; cases e
    | ret => rw [hq1] at e; cases e
end
theorem orc_succ_le {bk : FuncId → Option AFun} : ∀ n k args (h : H) c df r, orc P bk n k args h c df = some r → orc P bk (n + 1) k args h c df = some r
  | 0, k, args, h, c, df, r, e => by cases e
  | n + 1, k, args, h, c, df, r, e => by
    have hF : Fam (orc (H := H) P bk n) (fun _ => orc P bk (n + 1)) := fun k args h c df r e => Ev.const (orc_succ_le n k args h c df r e)
    obtain ⟨m, hm⟩ := answer_ev hF k args h c df r e
    exact hm m (Nat.le_refl _)
theorem orc_le {bk : FuncId → Option AFun} {n m : Nat} (hnm : n ≤ m) {k : Key} {args : List Value} {h : H} {c : Nat} {df : List Nat} {r : Rt H} (e : orc P bk n k args h c df = some r) : orc P bk m k args h c df = some r := by
  induction hnm with
  | refl => exact e
  | step _ ih => exact orc_succ_le _ _ _ _ _ _ _ ih
open Classical in
noncomputable def run (P : Program) (bk : FuncId → Option AFun) : Orc H := fun k args h c df =>
  if hx : ∃ n r, orc P bk n k args h c df = some r then orc P bk (Classical.choose hx) k args h c df else none
theorem run_of {bk : FuncId → Option AFun} {n : Nat} {k : Key} {args : List Value} {h : H} {c : Nat} {df : List Nat} {r : Rt H} (e : orc P bk n k args h c df = some r) : run P bk k args h c df = some r := by
  have hx : ∃ n r, orc P bk n k args h c df = some r := ⟨n, r, e⟩
  unfold run
  rw [dif_pos hx]
  obtain ⟨r', h'⟩ := Classical.choose_spec hx
  have h1 := orc_le (Nat.le_max_left (Classical.choose hx) n) h'
  have h2 := orc_le (Nat.le_max_right (Classical.choose hx) n) e
  rw [h1] at h2
  rw [h', h2]
theorem run_some {bk : FuncId → Option AFun} {k : Key} {args : List Value} {h : H} {c : Nat} {df : List Nat} {r : Rt H} (e : run P bk k args h c df = some r) : ∃ n, orc P bk n k args h c df = some r := by
  unfold run at e
  split at e
  · exact ⟨_, e⟩
  · cases e
theorem run_fam {bk : FuncId → Option AFun} : Fam (run (H := H) P bk) (orc P bk) := by
  intro k args h c df r e
  obtain ⟨n, hn⟩ := run_some e
  exact ⟨n, fun m hm => orc_le hm hn⟩
theorem run_step {bk : FuncId → Option AFun} {k : Key} {args : List Value} {h : H} {c : Nat} {df : List Nat} {r : Rt H} (e : answer P bk (run P bk) k args h c df = some r) : run P bk k args h c df = some r := by
  obtain ⟨n, hn⟩ := answer_ev (run_fam (P := P) (bk := bk)) k args h c df r e
  exact run_of (n := n + 1) (hn n (Nat.le_refl _))
theorem orc_lp_length {bk : FuncId → Option AFun} : ∀ n j lin fr b nt rd vs (h : H) c df r, orc P bk n (.lp j lin fr b nt rd) vs h c df = some r → r.vs.length = lin.length
  | 0, _, _, _, _, _, _, _, _, _, _, _, e => by cases e
  | n + 1, j, lin, fr, b, nt, rd, vs, h, c, df, r, e => by
    simp only [orc, answer, Option.bind_eq_some_iff] at e
    obtain ⟨q, hq, ws, hw, e⟩ := e
    cases hq1 : q.1 with
    | normal => rw [hq1] at e; exact orc_lp_length n j lin fr b nt rd _ _ _ _ r e
    | exit id => rw [hq1] at e; cases e; exact vals_length hw
    | ret => rw [hq1] at e; cases e; exact vals_length hw
theorem run_lp_length {bk : FuncId → Option AFun} {j : Nat} {lin fr : List Nat} {b : ACode} {nt : Nat} {rd : Option Nat} {vs : List Value} {h : H} {c : Nat} {df : List Nat} {r : Rt H} (e : run P bk (.lp j lin fr b nt rd) vs h c df = some r) : r.vs.length = lin.length := by
  obtain ⟨n, hn⟩ := run_some e
  exact orc_lp_length _ _ _ _ _ _ _ _ _ _ _ _ hn
theorem run_calls {bk : FuncId → Option AFun} (hbk : BookOK P bk) (hmix : P.follows .mixedOrders = true) {f : FuncId} {args args' : List Value} {A : H} {c : Nat} {r : Rt H} (e : run P bk (.fn f) args A c [] = some r) {μ : Mu} {w : World}
    (hv : VRs μ args args') (hR : R μ A w) (hfr : Fresh μ c) : Calls P f args'.toArray w (CallR μ A c w r) := by
  obtain ⟨n, hn⟩ := run_some e
  exact orc_calls hbk hmix hn hv hR hfr
end Go.Ab

namespace Go.Ab
open Go
set_option linter.unusedVariables false
set_option linter.unusedSimpArgs false
variable {H : Type} [HeapC H] {P : Program}
abbrev Kt (H β : Type) := Value → H → Nat → Option β
def callK {β : Type} (o : Orc H) (h : H) (c : Nat) (fv : Value) (args : List Value) (k : Kt H β) : Option β :=
  (callV o h c fv args).bind fun r => k r.1 r.2.1 r.2.2
def pickV (kv a b : Value) : Option Value :=
  match kv with
  | .bool t => some (cond t a b)
  | _ => none
def extV (v : Value) (i : Nat) : Option Value :=
  match v with
  | .tuple vs => vs[i]?
  | _ => none
def biK {β : Type} (P : Program) (h : H) (id c : Nat) (b : Builtin) (ts : List TypeId) (args : List Value) (k : Kt H β) : Option β :=
  match b with
  | .len => match ts, args with
    | t :: _, x :: _ => (aLen P h t x).bind fun v => k v h c
    | _, _ => none
  | .max => (foldV max2 args).bind fun v => k v h c
  | .min => (foldV min2 args).bind fun v => k v h c
  | b => (aBuiltin P h id b ts args).bind fun r => k r.1 r.2 c
theorem biK_eq {β : Type} {h : H} {id c : Nat} {b : Builtin} {ts : List TypeId} {args : List Value} {k : Kt H β} : biK P h id c b ts args k = (aBuiltin P h id b ts args).bind fun r => k r.1 r.2 c := by
  cases b <;> try rfl
  · cases ts <;> cases args <;> simp [biK, aBuiltin, Option.bind_assoc]
  · simp [biK, aBuiltin, Option.bind_assoc]
  · simp [biK, aBuiltin, Option.bind_assoc]
def doOpK {β : Type} (P : Program) (o : Orc H) (id : Nat) (tm : Tm) (h : H) (c : Nat) (op : Op) (k : Kt H β) : Option β :=
  match op with
  | .move x | .assign x => (evalO tm x).bind fun v => k v h c
  | .pick x a b => (evalO tm x).bind fun kv => (evalO tm a).bind fun av => (evalO tm b).bind fun bv => (pickV kv av bv).bind fun v => k v h c
  | .box _ x => (evalO tm x).bind fun v => cond (v.cells.toList.all isFlat) (k (ptrTo id) (newB h id v.cells.toList) c) none
  | .build t ps => (evalPs tm ps.toList).bind fun vs => (aBuild P t vs).bind fun v => k v h c
  | .load t a => (evalO tm a).bind fun p => (aLoad P h t p).bind fun v => k v h c
  | .store t a x => (evalO tm a).bind fun p => (evalO tm x).bind fun v => (aStore P h t p v).bind fun h' => k (.tuple #[]) h' c
  | .nilCheck x => (evalO tm x).bind fun v => (aNilCheck v).bind fun v => k v h c
  | .binOp bo t x y _ => (evalO tm x).bind fun a => (evalO tm y).bind fun b => (aBinOp P bo t a b).bind fun v => k v h c
  | .unOp u _ x => (evalO tm x).bind fun a => (aUnOp u a).bind fun v => k v h c
  | .fieldAddr t x f => (evalO tm x).bind fun p => (aFieldAddr P t p f).bind fun v => k v h c
  | .field t x f => (evalO tm x).bind fun v => (aField P t v f).bind fun v => k v h c
  | .indexAddr t x i => (evalO tm x).bind fun v => (evalO tm i).bind fun j => (aIndexAddr P t v j).bind fun v => k v h c
  | .index t x i => (evalO tm x).bind fun v => (evalO tm i).bind fun j => (aIndex P t v j).bind fun v => k v h c
  | .slice t x lo hi mx => (evalO tm x).bind fun v => (optO tm lo).bind fun l => (optO tm hi).bind fun hh => (optO tm mx).bind fun m => (aSlice P h t v l hh m).bind fun v => k v h c
  | .lookup t m x ok => (evalO tm m).bind fun mv => (evalO tm x).bind fun kv => (aLookup P h t mv kv ok).bind fun v => k v h c
  | .extract t i => (evalO tm t).bind fun v => (extV v i).bind fun v => k v h c
  | .call cl => (evalOs tm cl.args.toList).bind fun args =>
      match cl.callee with
      | .value f => (evalO tm f).bind fun fv => callK o h c fv args k
      | .builtin b => biK P h id c b cl.argTypes.toList args k
      | .invoke _ _ => none
  | .convert s d x => (P.underlying s).bind fun _ => (evalO tm x).bind fun a => (aConvert P s d a).bind fun v => k v h c
  | .buildSlice t len ps => (evalPs tm ps.toList).bind fun vs => (aBuildSlice P t len vs).bind fun cs => k (.slice (some ⟨id, 0, none⟩) len len) (newB h id cs) c
  | .makeSlice t l m => (evalO tm l).bind fun lv => (evalO tm m).bind fun kv => (aMakeSlice P t lv kv).bind fun r => k (.slice (some ⟨id, 0, none⟩) r.2.1 r.2.2) (newB h id r.1) c
  | .mapUpdate t m x v | .insert t m x v => (evalO tm m).bind fun mv => (evalO tm x).bind fun kv => (evalO tm v).bind fun vv => (aMapUpdate P h t mv kv vv).bind fun h' => k (.tuple #[]) h' c
  | .sliceToArrayPointer t x => (evalO tm x).bind fun a => (aArrPtr P t a).bind fun v => k v h c
  | op => (doOp P o id tm h c op).bind fun r => k r.1 r.2.1 r.2.2
theorem doOpK_eq {β : Type} {o : Orc H} {id : Nat} {tm : Tm} {h : H} {c : Nat} {op : Op} {k : Kt H β} : doOpK P o id tm h c op k = (doOp P o id tm h c op).bind fun r => k r.1 r.2.1 r.2.2 := by
  cases op with
  | pick x a b =>
    simp only [doOpK, doOp, Option.bind_assoc]
    congr 1; funext kv; congr 1; funext av; congr 1; funext bv
    cases kv <;> rfl
  | box t x =>
    simp only [doOpK, doOp, Option.bind_assoc]
    congr 1; funext v
    cases v.cells.toList.all isFlat <;> rfl
  | extract t i =>
    simp only [doOpK, doOp, Option.bind_assoc]
    congr 1; funext v
    cases v <;> first | rfl | simp only [extV, Option.bind_assoc, Option.bind_some]
  | call cl =>
    simp only [doOpK, doOp, Option.bind_assoc]
    congr 1; funext args
    cases cl.callee with
    | value f => simp only [Option.bind_assoc, callK]
    | builtin b => simp only [Option.bind_assoc, Option.bind_some, biK_eq]
    | invoke _ _ => rfl
  | _ => simp only [doOpK, doOp, ret1, Option.bind_assoc, Option.bind_some]
def gv (v : Value) (want : Bool) : Option Bool :=
  match v with
  | .bool b => some (b == want)
  | _ => some false
def dstB (nt : Nat) (d : Option Tmp) : Bool := match d with | some d => Nat.blt d nt | none => true
def stepK {β : Type} (P : Program) (o : Orc H) (ops : Array Oper) (base i nt : Nat) (tm : Tm) (h : H) (c : Nat) (op : Oper) (k : Kt H β) : Option β :=
  match op.guard with
  | none => cond (Nat.blt i 256 && dstB nt op.dst) (doOpK P o (256 * base + i) tm h c op.op k) none
  | some _ => (stepOp P o ops base i nt tm h c op).bind fun r => k r.1 r.2.1 r.2.2
theorem stepK_eq {β : Type} {o : Orc H} {ops : Array Oper} {base i nt : Nat} {tm : Tm} {h : H} {c : Nat} {op : Oper} {k : Kt H β} :
    stepK P o ops base i nt tm h c op k = (stepOp P o ops base i nt tm h c op).bind fun r => k r.1 r.2.1 r.2.2 := by
  obtain ⟨dst, o', ty, pos, af, gd⟩ := op
  cases gd with
  | some p => rfl
  | none =>
    simp only [stepK, stepOp, wantedA, Option.bind_some, cond_true]
    have hd : (match dst with | some d => Nat.blt d nt | none => true) = dstB nt dst := by cases dst <;> rfl
    cases hb : (Nat.blt i 256 && dstB nt dst) with
    | false =>
      cases dst <;> simp only [dstB] at hb <;> simp only [hb] <;> rfl
    | true =>
      cases dst <;> simp only [dstB] at hb <;> simp only [hb, cond_true] <;> exact doOpK_eq
def opsK {β : Type} (P : Program) (o : Orc H) (ops : Array Oper) (base nt : Nat) (K : Tm → H → Nat → Option β) : List Oper → Nat → Tm → H → Nat → Option β
  | [], _, tm, h, c => K tm h c
  | op :: rest, i, tm, h, c => stepK P o ops base i nt tm h c op fun v h' c' => opsK P o ops base nt K rest (i + 1) (putT tm op.dst v) h' c'
theorem opsK_eq {β : Type} {o : Orc H} {ops : Array Oper} {base nt : Nat} {K : Tm → H → Nat → Option β} : ∀ {l : List Oper} {i : Nat} {tm : Tm} {h : H} {c : Nat},
    opsK P o ops base nt K l i tm h c = (runOps P o ops base nt l i tm h c).bind fun r => K r.1 r.2.1 r.2.2
  | [], i, tm, h, c => rfl
  | oper :: l, i, tm, h, c => by
    simp only [opsK, runOps, stepK_eq, Option.bind_assoc]
    congr 1
    funext r
    exact opsK_eq
def callF (o : Orc H) (g : FuncId) (args : List Value) (h : H) (c : Nat) : Option (Value × H × Nat) :=
  (o (.fn g) args h c []).bind fun r =>
    match r.vs with
    | [v] => some (v, r.h, r.c)
    | _ => none
end Go.Ab

namespace Go.Ab
open Go
set_option linter.unusedVariables false
set_option linter.unusedSimpArgs false
variable {H : Type} [HeapC H] {P : Program}
abbrev Kx (H β : Type) := Ex → Tm → H → Nat → List Nat → Option β
def nthV : List Value → Nat → Value
  | [], _ => undef
  | v :: vs, i => Nat.rec v (fun n _ => nthV vs n) i
def idxL : List Nat → Nat → Nat → Option Nat
  | [], _, _ => none
  | x :: xs, t, i => cond (Nat.beq t x) (some i) (idxL xs t (i + 1))
def tmL (lin : List Nat) (vs : List Value) : Tm := fun t => (idxL lin t 0).bind fun i => some (nthV vs i)
theorem nthV_succ (v : Value) (vs : List Value) (i : Nat) : nthV (v :: vs) (i + 1) = nthV vs i := rfl
theorem idxL_shift : ∀ (l : List Nat) (t i : Nat), idxL l t (i + 1) = (idxL l t i).map (· + 1)
  | [], t, i => rfl
  | x :: xs, t, i => by
    simp only [idxL]
    cases Nat.beq t x with
    | true => rfl
    | false => exact idxL_shift xs t (i + 1)
theorem tmL_eq : ∀ {lin : List Nat} {vs : List Value}, vs.length = lin.length → ∀ t, tmL lin vs t = tmOf lin vs t
  | [], [], _, t => rfl
  | x :: xs, v :: vs, h, t => by
    have ih := tmL_eq (lin := xs) (vs := vs) (by simpa using h) t
    simp only [tmL, idxL, tmOf] at ih ⊢
    cases hb : Nat.beq t x with
    | true => rfl
    | false =>
      simp only [cond_false]
      rw [← ih, idxL_shift]
      cases idxL xs t 0 with
      | none => rfl
      | some i => simp only [Option.map_some, Option.bind_some, nthV_succ]
  | [], v :: vs, h, t => by simp at h
  | x :: xs, [], h, t => by simp at h
def exIs : Ex → Ex → Bool
  | .normal, .normal => true
  | .ret, .ret => true
  | .exit a, .exit b => Nat.beq a b
  | _, _ => false
theorem exIs_eq {a b : Ex} (h : exIs a b = true) : a = b := by
  cases a <;> cases b <;> simp only [exIs] at h <;> first | rfl | cases h | rw [Nat.eq_of_beq_eq_true h]
def disp {β : Type} (e : Ex) (K : Ex → Option β) : List Ex → Option β
  | [] => none
  | x :: xs => cond (exIs e x) (K x) (disp e K xs)
def layF (e : Ex) : List (Ex × List Nat) → Option (List Nat)
  | [] => none
  | x :: xs => cond (exIs e x.1) (some x.2) (layF e xs)
def dispJ {β : Type} (r : Rt H) (K : Kx H β) : List (Ex × List Nat) → Option β
  | [] => none
  | x :: xs => cond (exIs r.e x.1) (K x.1 (tmL x.2 r.vs) r.h r.c r.df) (dispJ r K xs)
def opsKT {β : Type} (P : Program) (o : Orc H) (ops : Array Oper) (base nt : Nat) (K : Tm → H → Nat → List (Option Nat × H) → Option β) : List Oper → Nat → Tm → H → Nat → List (Option Nat × H) → Option β
  | [], _, tm, h, c, tr => K tm h c (tr ++ [(none, h)])
  | op :: rest, i, tm, h, c, tr => stepK P o ops base i nt tm h c op fun v h' c' => opsKT P o ops base nt K rest (i + 1) (putT tm op.dst v) h' c' (tr ++ [(rid ops tm op, h)])
theorem opsKT_eq {β : Type} {o : Orc H} {ops : Array Oper} {base nt : Nat} {K : Tm → H → Nat → List (Option Nat × H) → Option β} : ∀ {l : List Oper} {i : Nat} {tm : Tm} {h : H} {c : Nat} {tr : List (Option Nat × H)},
    opsKT P o ops base nt K l i tm h c tr = (runOpsT P o ops base nt l i tm h c).bind fun r => K r.1 r.2.1 r.2.2.1 (tr ++ r.2.2.2)
  | [], i, tm, h, c, tr => rfl
  | oper :: l, i, tm, h, c, tr => by
    simp only [opsKT, runOpsT, stepK_eq, Option.bind_assoc]
    congr 1
    funext r
    rw [opsKT_eq]
    congr 1
    funext q
    simp only [Option.bind_some, List.append_assoc, List.cons_append, List.nil_append]
def sameB (x : Option Nat) (h1 h2 : H) : Bool :=
  match x with
  | some x => HeapC.eqB H (HeapC.get h1 x) (HeapC.get h2 x)
  | none => true
def lwC (tr : List (Option Nat × H)) (p : Nat × Nat) : Bool :=
  match tr[p.1]? with
  | none => true
  | some e => match tr[p.2]? with
    | none => e.1.isNone
    | some a => match tr[p.2 + 1]? with
      | none => e.1.isNone
      | some b => sameB e.1 a.2 b.2
theorem lwC_eq : (lwC : List (Option Nat × H) → Nat × Nat → Bool) = lwOk := by
  funext tr p
  unfold lwC lwOk
  cases tr[p.1]? with
  | none => rfl
  | some e =>
    obtain ⟨x, h⟩ := e
    cases tr[p.2]? with
    | none => cases x <;> rfl
    | some a =>
      cases tr[p.2 + 1]? with
      | none => cases x <;> rfl
      | some b => cases x <;> rfl
def regK {β : Type} (P : Program) (o : Orc H) (ops : Array Oper) (draw : Bool) (nt : Nat) (tm : Tm) (h : H) (c : Nat) (K : Tm → H → Nat → Option β) : Option β :=
  cond draw
    (cond (regOk ops)
      (cond (lws ops).isEmpty (opsK P o ops c nt K ops.toList 0 tm h (c + 1))
        (opsKT P o ops c nt (fun tm h c tr => cond ((lws ops).all (lwC tr)) (K tm h c) none) ops.toList 0 tm h (c + 1) [])) none)
    (opsK P o ops c nt K ops.toList 0 tm h (c + 1))
theorem regK_eq {β : Type} {o : Orc H} {ops : Array Oper} {draw : Bool} {nt : Nat} {tm : Tm} {h : H} {c : Nat} {K : Tm → H → Nat → Option β} :
    regK P o ops draw nt tm h c K = (runReg P o ops draw nt tm h c).bind fun r => K r.1 r.2.1 r.2.2 := by
  unfold regK runReg
  cases draw with
  | false => exact opsK_eq
  | true =>
    cases regOk ops with
    | false => rfl
    | true =>
      cases (lws ops).isEmpty with
      | true => exact opsK_eq
      | false =>
        simp only [cond_true, cond_false, opsKT_eq, Option.bind_assoc, List.nil_append, lwC_eq]
        congr 1
        funext r
        cases (lws ops).all (lwOk r.2.2.2) <;> rfl
def rangeV (o : Orc H) (nt : Nat) (rd : Option Nat) (lin fr : List Nat) (ps : Array Tmp) (a b : ACode) (fv : Value) (vs : List Value) (h : H) (c : Nat) (df : List Nat) : Option (Ex × H × Nat × List Nat) :=
  match fv with
  | .func (.func g) first cap => (enterDfr h c rd).bind fun hd =>
      (o (.fn g) (first.toList ++ [.func (.yield (256 * c)) #[] #[]] ++ cap.toList)
        (HeapC.set hd.1 (256 * c) (.loop { state := .ready, pending := none, nt := nt, vals := vs, lin := lin, fr := fr, params := ps.toList, assign := a, body := b, dfr := hd.2 })) (c + 1) []).bind fun r =>
        match HeapC.get r.h (256 * c) with
        | some (.loop st) => cond (decide (st.state = .busy)) none ((exOf st.pending).bind fun e => some (e, HeapC.del r.h (256 * c), r.c, match rd with | none => hd.2 :: df | some _ => df))
        | _ => none
  | _ => none
theorem rangeV_exec {o : Orc H} {nt : Nat} {rd : Option Nat} {lin fr : List Nat} {ps : Array Tmp} {a b : ACode} {tm : Tm} {f : Operand} {fv : Value} {vs : List Value} {h : H} {c : Nat} {df : List Nat} {r : Ex × H × Nat × List Nat}
    (hf : evalO tm f = some fv) (hv : vals tm lin = some vs) (e : rangeV o nt rd lin fr ps a b fv vs h c df = some r) :
    execRange o { tm := tm, h := h, c := c, nt := nt, df := df, rd := rd } lin fr f ps a b = some (r.1, { tm := tm, h := r.2.1, c := r.2.2.1, nt := nt, df := r.2.2.2, rd := rd }) := by
  unfold rangeV at e
  split at e
  · rename_i g first cap
    simp only [Option.bind_eq_some_iff] at e
    obtain ⟨hd, hhd, q, hq, e⟩ := e
    simp only [execRange, hf, hv, hhd, hq, Option.bind_some]
    split at e
    · rename_i st hg
      simp only [hg]
      cases hb : decide (st.state = LoopState.busy) with
      | true => rw [hb] at e; cases e
      | false =>
        rw [hb] at e
        simp only [cond_false, Option.bind_eq_some_iff] at e
        obtain ⟨x, hx, e⟩ := e
        cases e
        simp only [cond_false, hx, Option.bind_some]
        rfl
    · cases e
  · cases e
def jx {β : Type} (P : Program) (o : Orc H) (nt : Nat) (rd : Option Nat) : ACode → Tm → H → Nat → List Nat → Kx H β → Option β
  | .skip, tm, h, c, df, K => K .normal tm h c df
  | .region _ ops draw, tm, h, c, df, K => regK P o ops draw nt tm h c fun tm h c => K .normal tm h c df
  | .seq a b, tm, h, c, df, K => jx P o nt rd a tm h c df fun e tm h c df =>
      match e with
      | .normal => jx P o nt rd b tm h c df K
      | .exit i => K (.exit i) tm h c df
      | .ret => K .ret tm h c df
  | .cond x a b, tm, h, c, df, K => (evalO tm x).bind fun v =>
      match v with
      | .bool t => cond t (jx P o nt rd a tm h c df K) (jx P o nt rd b tm h c df K)
      | _ => none
  | .block id a, tm, h, c, df, K => jx P o nt rd a tm h c df fun e tm h c df =>
      match e with
      | .normal => K .normal tm h c df
      | .exit i => cond (Nat.beq i id) (K .normal tm h c df) (K (.exit i) tm h c df)
      | .ret => K .ret tm h c df
  | .loop j lin fr outs b, tm, h, c, df, K => (vals tm lin).bind fun vs =>
      (o (.lp j lin fr b nt rd) vs h c df).bind fun r => disp r.e (fun e => K e (tmL lin r.vs) r.h r.c r.df) outs
  | .rangeFunc j lin fr outs f ps a b, tm, h, c, df, K => (evalO tm f).bind fun fv => (vals tm lin).bind fun vs =>
      (rangeV o nt rd lin fr ps a b fv vs h c df).bind fun r => disp r.1 (fun e => K e tm r.2.1 r.2.2.1 r.2.2.2) outs
  | .exit id, tm, h, c, df, K => K (.exit id) tm h c df
  | .ret, tm, h, c, df, K => K .ret tm h c df
  | .bad _, _, _, _, _, _ => none
  | .join lays a, tm, h, c, df, K =>
      (jx P o nt rd a tm h c df fun e tm h c df => (layF e lays).bind fun l => (vals tm l).bind fun vs => some ({ e := e, vs := vs, h := h, c := c, df := df } : Rt H)).bind fun r => dispJ r K lays
theorem disp_some {β : Type} {e : Ex} {K : Ex → Option β} {x : β} : ∀ {l : List Ex}, disp e K l = some x → K e = some x
  | [], h => by cases h
  | y :: l, h => by
    simp only [disp] at h
    cases hb : exIs e y with
    | true => rw [hb] at h; rw [exIs_eq hb]; exact h
    | false => rw [hb] at h; exact disp_some h
theorem dispJ_some {β : Type} {r : Rt H} {K : Kx H β} {x : β} : ∀ {l : List (Ex × List Nat)}, dispJ r K l = some x → ∃ lay, layF r.e l = some lay ∧ K r.e (tmL lay r.vs) r.h r.c r.df = some x
  | [], h => by cases h
  | y :: l, h => by
    simp only [dispJ] at h
    simp only [layF]
    cases hb : exIs r.e y.1 with
    | true => rw [hb] at h; refine ⟨y.2, rfl, ?_⟩; rw [exIs_eq hb]; exact h
    | false => rw [hb] at h; exact dispJ_some h
def OLen (o : Orc H) : Prop := ∀ j lin fr b nt rd vs h c df r, o (.lp j lin fr b nt rd) vs h c df = some r → r.vs.length = lin.length
theorem Tm.le_refl (tm : Tm) : tm.le tm := fun _ _ h => h
theorem Tm.le_trans {a b c : Tm} (h : a.le b) (k : b.le c) : a.le c := fun t v e => k t v (h t v e)
theorem jx_sound {β : Type} {o : Orc H} (ho : OLen o) {nt : Nat} {rd : Option Nat} : ∀ {code : ACode} {tm : Tm} {h : H} {c : Nat} {df : List Nat} {K : Kx H β} {x : β}, jx P o nt rd code tm h c df K = some x →
    ∀ {tm' : Tm}, tm.le tm' → ∃ e tm1 tm1' h1 c1 df1, exec P o code { tm := tm', h := h, c := c, nt := nt, df := df, rd := rd } = some (e, { tm := tm1', h := h1, c := c1, nt := nt, df := df1, rd := rd }) ∧ tm1.le tm1' ∧ K e tm1 h1 c1 df1 = some x := by
  intro code
  induction code generalizing β with
  | skip => intro tm h c df K x e tm' hl; exact ⟨_, _, _, _, _, _, rfl, hl, e⟩
  | region id ops d =>
    intro tm h c df K x e tm' hl
    simp only [jx, regK_eq, Option.bind_eq_some_iff] at e
    obtain ⟨q, hq, e⟩ := e
    obtain ⟨tm1, h1, h2⟩ := runReg_le hl hq
    refine ⟨_, _, _, _, _, _, ?_, h2, e⟩
    simp only [exec, h1, Option.bind_some]
  | seq a b iha ihb =>
    intro tm h c df K x e tm' hl
    simp only [jx] at e
    obtain ⟨e1, tm1, tm1', h1, c1, df1, hx, hl1, hk⟩ := iha e hl
    cases e1 with
    | normal =>
      obtain ⟨e2, tm2, tm2', h2, c2, df2, hx2, hl2, hk2⟩ := ihb hk hl1
      exact ⟨_, _, _, _, _, _, by simp only [exec, hx, Option.bind_some]; exact hx2, hl2, hk2⟩
    | exit i => exact ⟨_, _, _, _, _, _, by simp only [exec, hx, Option.bind_some], hl1, hk⟩
    | ret => exact ⟨_, _, _, _, _, _, by simp only [exec, hx, Option.bind_some], hl1, hk⟩
  | cond y a b iha ihb =>
    intro tm h c df K x e tm' hl
    simp only [jx, Option.bind_eq_some_iff] at e
    obtain ⟨v, hv, e⟩ := e
    have hv' := evalO_le hl hv
    split at e
    · rename_i t
      cases t
      · obtain ⟨e1, tm1, tm1', h1, c1, df1, hx, hl1, hk⟩ := ihb e hl
        exact ⟨_, _, _, _, _, _, by simp only [exec, hv', Option.bind_some, cond_false]; exact hx, hl1, hk⟩
      · obtain ⟨e1, tm1, tm1', h1, c1, df1, hx, hl1, hk⟩ := iha e hl
        exact ⟨_, _, _, _, _, _, by simp only [exec, hv', Option.bind_some, cond_true]; exact hx, hl1, hk⟩
    · cases e
  | block id a ih =>
    intro tm h c df K x e tm' hl
    simp only [jx] at e
    obtain ⟨e1, tm1, tm1', h1, c1, df1, hx, hl1, hk⟩ := ih e hl
    cases e1 with
    | normal => exact ⟨_, _, _, _, _, _, by simp only [exec, hx, Option.bind_some], hl1, hk⟩
    | exit i =>
      cases hb : Nat.beq i id with
      | true => simp only [hb] at hk; exact ⟨_, _, _, _, _, _, by simp only [exec, hx, Option.bind_some, hb, cond_true], hl1, hk⟩
      | false => simp only [hb] at hk; exact ⟨_, _, _, _, _, _, by simp only [exec, hx, Option.bind_some, hb, cond_false], hl1, hk⟩
    | ret => exact ⟨_, _, _, _, _, _, by simp only [exec, hx, Option.bind_some], hl1, hk⟩
  | loop j lin fr outs b _ =>
    intro tm h c df K x e tm' hl
    simp only [jx, Option.bind_eq_some_iff] at e
    obtain ⟨vs, hv, r, hr, e⟩ := e
    have hlen := ho _ _ _ _ _ _ _ _ _ _ _ hr
    refine ⟨r.e, tmL lin r.vs, tmOf lin r.vs, r.h, r.c, r.df, ?_, ?_, disp_some e⟩
    · simp only [exec, vals_le hl hv, hr, Option.bind_some]
    · intro t v ht; rw [tmL_eq hlen] at ht; exact ht
  | rangeFunc j lin fr outs f ps a b _ _ =>
    intro tm h c df K x e tm' hl
    simp only [jx, Option.bind_eq_some_iff] at e
    obtain ⟨fv, hf, vs, hv, r, hr, e⟩ := e
    refine ⟨r.1, tm, tm', r.2.1, r.2.2.1, r.2.2.2, ?_, hl, disp_some e⟩
    simp only [exec]
    exact rangeV_exec (evalO_le hl hf) (vals_le hl hv) hr
  | exit id => intro tm h c df K x e tm' hl; exact ⟨_, _, _, _, _, _, rfl, hl, e⟩
  | ret => intro tm h c df K x e tm' hl; exact ⟨_, _, _, _, _, _, rfl, hl, e⟩
  | bad _ => intro tm h c df K x e tm' hl; cases e
  | join lays a ih =>
    intro tm h c df K x e tm' hl
    simp only [jx, Option.bind_eq_some_iff] at e
    obtain ⟨r, hr, e⟩ := e
    obtain ⟨e1, tm1, tm1', h1, c1, df1, hx, hl1, hk⟩ := ih hr hl
    simp only [Option.bind_eq_some_iff] at hk
    obtain ⟨l, hlf, vs, hvs, hk⟩ := hk
    cases hk
    obtain ⟨lay, h3, h4⟩ := dispJ_some e
    simp only at h3 h4
    rw [hlf] at h3
    cases h3
    refine ⟨e1, tmL l vs, tm1', h1, c1, df1, by simp only [exec]; exact hx, ?_, h4⟩
    intro t v ht
    rw [tmL_eq (vals_length hvs)] at ht
    exact hl1 _ _ (vals_tmOf hvs _ _ ht)
theorem resOf_le {tm tm' : Tm} (hl : tm.le tm') {h : H} : ∀ {rs : List ResultVar} {vs : List Value}, resOf P tm h rs = some vs → resOf P tm' h rs = some vs
  | [], vs, e => e
  | .tmp t :: rs, vs, e => by
    simp only [resOf, Option.bind_eq_some_iff] at e ⊢
    obtain ⟨v, hv, ws, hw, e⟩ := e
    exact ⟨v, hl _ _ hv, ws, resOf_le hl hw, e⟩
  | .cell a t :: rs, vs, e => by
    simp only [resOf, Option.bind_eq_some_iff] at e ⊢
    obtain ⟨p, hp, v, hv, ws, hw, e⟩ := e
    exact ⟨p, hl _ _ hp, v, hv, ws, resOf_le hl hw, e⟩
def resK {β : Type} (P : Program) (tm : Tm) (h : H) : List ResultVar → (List Value → Option β) → Option β
  | [], k => k []
  | .tmp t :: rs, k => (tm t).bind fun v => resK P tm h rs fun vs => k (v :: vs)
  | .cell a t :: rs, k => (tm a).bind fun p => (aLoad P h t p).bind fun v => resK P tm h rs fun vs => k (v :: vs)
theorem resK_eq {β : Type} {tm : Tm} {h : H} : ∀ {rs : List ResultVar} {k : List Value → Option β}, resK P tm h rs k = (resOf P tm h rs).bind k
  | [], k => rfl
  | .tmp t :: rs, k => by simp only [resK, resOf, resK_eq, Option.bind_assoc, Option.bind_some]
  | .cell a t :: rs, k => by simp only [resK, resOf, resK_eq, Option.bind_assoc, Option.bind_some]
def Kfn (P : Program) (res : List ResultVar) : Kx H (Rt H) := fun e tm h c df =>
  match e with
  | .exit _ => none
  | .normal => (takeAll h df).bind fun h1 => resK P tm h1 res fun vs => some { e := .ret, vs := [tup vs], h := h1, c := c, df := [] }
  | .ret => (takeAll h df).bind fun h1 => resK P tm h1 res fun vs => some { e := .ret, vs := [tup vs], h := h1, c := c, df := [] }
def Klp (lin : List Nat) : Kx H (Rt H) := fun e tm h c df => (vals tm lin).bind fun vs => some { e := e, vs := vs, h := h, c := c, df := df }
def Krd (l : Nat) : Kx H (Rt H) := fun e tm h c df =>
  (setState h l (cond (jumpOf e).isNone .ready .done) (jumpOf e)).bind fun h2 => cond df.isEmpty (some { e := .ret, vs := [.bool (jumpOf e).isNone], h := h2, c := c, df := [] }) none
theorem run_olen {bk : FuncId → Option AFun} : OLen (run (H := H) P bk) := fun _ _ _ _ _ _ _ _ _ _ _ e => run_lp_length e
theorem run_fn {bk : FuncId → Option AFun} {f : FuncId} {a : AFun} (ha : bk f = some a) (hfr : a.fr = []) {args : List Value} {h : H} {c : Nat} {df : List Nat} {r : Rt H} (hlen : Nat.ble args.length a.nt = true)
    (e : jx P (run P bk) a.nt none a.code (tmOf (List.range args.length) args) h c [] (Kfn P a.res) = some r) : run P bk (.fn f) args h c df = some r := by
  refine run_step ?_
  obtain ⟨e1, tm1, tm1', h1, c1, df1, hx, hl, hk⟩ := jx_sound run_olen e (Tm.le_refl _)
  simp only [answer, ha, Option.bind_some, hlen, cond_true, hx, hfr, dropBs]
  cases e1 with
  | exit id => cases hk
  | normal =>
    simp only [Kfn, resK_eq, Option.bind_eq_some_iff] at hk ⊢
    obtain ⟨h2, ht, vs, hv, hk⟩ := hk
    exact ⟨h2, ht, vs, resOf_le hl hv, hk⟩
  | ret =>
    simp only [Kfn, resK_eq, Option.bind_eq_some_iff] at hk ⊢
    obtain ⟨h2, ht, vs, hv, hk⟩ := hk
    exact ⟨h2, ht, vs, resOf_le hl hv, hk⟩
theorem run_lp_next {bk : FuncId → Option AFun} {j nt : Nat} {lin : List Nat} {b : ACode} {rd : Option Nat} {vs : List Value} {h : H} {c : Nat} {df : List Nat} {q r : Rt H}
    (e : jx P (run P bk) nt rd b (tmOf lin vs) h c df (Klp lin) = some q) (hq : q.e = .normal) (k : run P bk (.lp j lin [] b nt rd) q.vs q.h q.c q.df = some r) : run P bk (.lp j lin [] b nt rd) vs h c df = some r := by
  refine run_step ?_
  obtain ⟨e1, tm1, tm1', h1, c1, df1, hx, hl, hk⟩ := jx_sound run_olen e (Tm.le_refl _)
  simp only [Klp, Option.bind_eq_some_iff] at hk
  obtain ⟨ws, hw, hk⟩ := hk
  cases hk
  simp only at hq
  subst hq
  simp only [answer, hx, Option.bind_some, vals_le hl hw, dropBs]
  exact k
theorem run_lp_last {bk : FuncId → Option AFun} {j nt : Nat} {lin : List Nat} {b : ACode} {rd : Option Nat} {vs : List Value} {h : H} {c : Nat} {df : List Nat} {q : Rt H}
    (e : jx P (run P bk) nt rd b (tmOf lin vs) h c df (Klp lin) = some q) (hq : q.e ≠ .normal) : run P bk (.lp j lin [] b nt rd) vs h c df = some q := by
  refine run_step ?_
  obtain ⟨e1, tm1, tm1', h1, c1, df1, hx, hl, hk⟩ := jx_sound run_olen e (Tm.le_refl _)
  simp only [Klp, Option.bind_eq_some_iff] at hk
  obtain ⟨ws, hw, hk⟩ := hk
  cases hk
  simp only at hq
  simp only [answer, hx, Option.bind_some, vals_le hl hw, dropBs]
theorem run_rnd {bk : FuncId → Option AFun} {nt l : Nat} {lin params : List Nat} {a b : ACode} {vs : List Value} {h : H} {c : Nat} {df : List Nat} {r : Rt H}
    (e : jx P (run P bk) nt (some l) a (tmOf (params ++ lin) vs) h c [] (fun e tm h c df => match e with
      | .normal => (beginSt h l).bind fun h1 => jx P (run P bk) nt (some l) b tm h1 c df (Krd l)
      | .exit _ => none
      | .ret => none) = some r) : run P bk (.rnd nt lin [] params l a b) vs h c df = some r := by
  refine run_step ?_
  obtain ⟨e1, tm1, tm1', h1, c1, df1, hx, hl, hk⟩ := jx_sound run_olen e (Tm.le_refl _)
  cases e1 with
  | exit id => cases hk
  | ret => cases hk
  | normal =>
    simp only [Option.bind_eq_some_iff] at hk
    obtain ⟨h2, hb, hk⟩ := hk
    obtain ⟨e3, tm3, tm3', h3, c3, df3, hx3, hl3, hk3⟩ := jx_sound run_olen hk hl
    simp only [answer, hx, Option.bind_some, hb, hx3, dropBs]
    exact hk3
end Go.Ab

namespace Go.Ab
open Go
variable {H : Type} [HeapC H]
def pth : Code → List Nat → Code
  | .seq a b, i :: p => cond (Nat.beq i 0) (pth a p) (pth b p)
  | .cond _ a b, i :: p => cond (Nat.beq i 0) (pth a p) (pth b p)
  | .block _ a, _ :: p => pth a p
  | .loop a, _ :: p => pth a p
  | .rangeFunc _ _ a b, i :: p => cond (Nat.beq i 0) (pth a p) (pth b p)
  | c, _ => c
def opsAt (c : Code) (p : List Nat) : Array Oper :=
  match pth c p with
  | .region _ ops _ => ops
  | _ => #[]
def bodyOf (f : Func) : Code := f.body.getD .skip
def boolK {β : Type} (v : Value) (a b : Option β) : Option β :=
  match v with
  | .bool t => cond t a b
  | _ => none
def Rt.v (r : Rt H) (i : Nat) : Value := nthV r.vs i
def pickR (h : H) (c : Nat) (kv a b : Value) : Option (Value × H × Nat) :=
  match kv with
  | .bool t => some (cond t a b, h, c)
  | _ => none
def rndK (P : Program) (o : Orc H) (nt l : Nat) (b : ACode) : Kx H (Rt H) := fun e tm h c df =>
  match e with
  | .normal => (beginSt h l).bind fun h1 => jx P o nt (some l) b tm h1 c df (Krd l)
  | .exit _ => none
  | .ret => none
def lenS (x : Value) : Option Value :=
  match x with
  | .slice _ n _ => some (goInt n)
  | _ => none
def ixV (len : Nat) (agg : Bool) (sz : Nat) (x i : Value) : Option Value := (aggL x).bind fun cs => (aIdx len i).bind fun k => partN cs agg (k * sz) sz
def ixStr (x i : Value) : Option Value :=
  match x with
  | .string s => strAt s i
  | _ => none
def bldL : List Value → List (Nat × Nat × Value) → Option (List Value)
  | cs, [] => some cs
  | cs, (off, n, v) :: r => cond (Nat.beq v.cells.size n && Nat.ble (off + n) cs.length) (bldL (splice cs off v.cells.toList) r) none
def bldV (z : List Value) (ps : List (Nat × Nat × Value)) : Option Value := (bldL z ps).bind fun cs => some (.agg cs.toArray)
def slStrV (x : Value) (lo hi : Option Value) : Option Value :=
  match x with
  | .string s => slStr s lo hi
  | _ => none
def appV (h : H) (id sz by' : Nat) (s x : Value) : Option (Value × H) := (srcCells h sz x).bind fun r => appTo h id sz by' s r.1 r.2
def mkS (sz by' : Nat) (z : List Value) (l c : Value) : Option (List Value × Nat × Nat) :=
  (aInt l).bind fun l => (aInt c).bind fun c =>
    cond (decide (0 ≤ l) && decide (l ≤ c) && decide ((by' : Int) * c ≤ 281474976710656) && decide (c ≤ 281474976710656) && true && true)
      (some (zeros z c.toNat, l.toNat, c.toNat)) none
def cnvI (k : IntKind) (x : Value) : Option Value :=
  match x with
  | .int _ n => some (.int k (k.wrap n))
  | _ => none
end Go.Ab
