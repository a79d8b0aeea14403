/- A part of the claim's proof: AbDo. Conditions: none. -/
import Derived.Test.YtdbiilapiloaiaaAbApp
/-! One operation of a region: the abstract step and the model's. -/
set_option linter.all false
namespace Go.Ab
open Go
set_option linter.unusedVariables false
set_option linter.unusedSimpArgs false

variable {H : Type} [HeapC H] {P : Program} {μ : Mu} {A : H} {w : World}

/-- the widest fence, in a round or not -/
def wd (ro : Option Nat) : Fence := { Fence.wide with round := ro }

theorem wd_calls {ro : Option Nat} {n : Nat} {f : FuncId} {args : Array Value} {Rq : Ending → World → Prop} (h : Calls P f args w Rq) : CallsIn (wd ro) n P f args w Rq :=
  callsIn_wide (n := n).2 h

/-- the value that a call leaves -/
def CallR (μ : Mu) (A : H) (c : Nat) (w : World) (r : Rt H) (e : Ending) (w' : World) : Prop :=
  ∃ v v' μ', r.vs = [v] ∧ e = .returned v' ∧ VR μ' v v' ∧ Ext μ A c w (fun _ => False) μ' r.h r.c w'

/-- What the oracle's answers are good for. -/
structure OS (P : Program) (o : Orc H) : Prop where
  fn : ∀ (f : FuncId) (args : List Value) (A : H) (c : Nat) (df : List Nat) (r : Rt H), o (.fn f) args A c df = some r →
    (∀ as w, (callFunc f as).run P w = .ok (.enter f as) w) ∧
    ∀ (μ : Mu) (w : World) (args' : List Value), VRs μ args args' → R μ A w → Fresh μ c → Calls P f args'.toArray w (CallR μ A c w r)
  rnd : ∀ (nt : Nat) (lin fr params : List Nat) (l : Nat) (a b : ACode) (vs : List Value) (A : H) (c : Nat) (df : List Nat) (r : Rt H), o (.rnd nt lin fr params l a b) vs A c df = some r →
    ∀ (μ : Mu) (w : World) (ts : Array Value) (m : ME) (ro : Option Nat) (n : Nat) (f : FuncId), μ l = some m → TmR μ (tmOf (params ++ lin) vs) nt ts → R μ A w → Fresh μ c →
      RoundIn (wd ro) n P m.b f ts (strip a) (strip b) w (CallR μ A c w r)

theorem wpIn_value {o : Oper} {a : Act} {ro : Option Nat} {n : Nat} {K : Act → World → Prop} {Q : Exit → Act → World → Prop} {v' : Value} {w' : World} (hd : ∀ c, o.op ≠ .defer c)
    (h : (execOp a.eval o).run P w = .ok (.value v') w') (hK : K (a.put o.dst v') w') : o.wpIn (wd ro) n P a w K Q := by
  refine ⟨fun _ _ => trivial, ?_⟩
  rw [Oper.semAt_eq _ _ _ hd, h]
  exact hK

theorem wpIn_skip' {o : Oper} {a : Act} {ro : Option Nat} {n : Nat} {K : Act → World → Prop} {Q : Exit → Act → World → Prop} {w' : World} (hd : ∀ c, o.op ≠ .defer c)
    (h : (execOp a.eval o).run P w = .ok .skip w') (hK : K (a.put o.dst undef) w') : o.wpIn (wd ro) n P a w K Q := by
  refine ⟨fun _ _ => trivial, ?_⟩
  rw [Oper.semAt_eq _ _ _ hd, h]
  exact hK

theorem run_v {s : Sem Value} {v' : Value} {w' : World} (h : s.run P w = .ok v' w') : (do pure (Next.value (← s)) : Sem Next).run P w = .ok (.value v') w' := by
  simp only [Sem.run_bind, h, Result.andThen_ok, Sem.run_pure]

theorem ret1_some {h : H} {c : Nat} {v : Option Value} {r : Value × H × Nat} (e : ret1 h c v = some r) : v = some r.1 ∧ r.2.1 = h ∧ r.2.2 = c := by
  simp only [ret1, Option.bind_eq_some_iff] at e
  obtain ⟨x, hx, e⟩ := e
  cases e
  exact ⟨hx, rfl, rfl⟩

theorem VRs.toArr {xs ys : List Value} (h : VRs μ xs ys) : ∀ (k : Nat) (x y : Value), xs.toArray[k]? = some x → ys.toArray[k]? = some y → VR μ x y := by
  intro k x y hx hy
  exact h.2 k x y (by simpa using hx) (by simpa using hy)

theorem TmR.opt {tm : Tm} {nt : Nat} {a : Act} (h : TmR μ tm nt a.tmps) {x : Option Operand} {v : Option Value} (e : optO tm x = some v) : VRo μ v (x.map a.eval) := by
  cases x with
  | none => simp [optO] at e; subst e; trivial
  | some x =>
    simp only [optO, Option.bind_eq_some_iff] at e
    obtain ⟨y, hy, e⟩ := e
    cases e
    exact h.eval hy

theorem mk_ext {c : Nat} (hR : R μ A w) {id : Nat} (hid : μ id = none) :
    Ext μ A c w (fun i => i = id) (μ.upd id ⟨w.heap.size, 0, none⟩) (HeapC.set A id (.map [])) c { w with heap := w.heap.push (.map #[] 0) } := by
  refine Ext.alloc hR hid rfl rfl rfl rfl rfl rfl ?_
  exact ⟨#[], 0, by simp, rfl, by simp⟩

/-- an operation that only looks -/
theorem look {o : Oper} {a : Act} {ro : Option Nat} {n c : Nat} {K : Act → World → Prop} {Q : Exit → Act → World → Prop} {v : Value} {s : Sem Value} (hR : R μ A w) (hd : ∀ c, o.op ≠ .defer c)
    (hs : execOp a.eval o = (do pure (.value (← s)))) (h : ∃ v', s.run P w = .ok v' w ∧ VR μ v v')
    {own : Nat → Prop} (hK : ∀ v' μ' w', VR μ' v v' → Ext μ A c w own μ' A c w' → K (a.put o.dst v') w') : o.wpIn (wd ro) n P a w K Q := by
  obtain ⟨v', h1, h2⟩ := h
  exact wpIn_value hd (by rw [hs]; exact run_v h1) (hK v' μ w h2 (Ext.refl hR))

theorem doOp_simple {o : Orc H} {d : Option Tmp} {op : Op} {ty : TypeId} {pos : String} {af : Array Edge} {gd : Option (Nat × Bool)} {id : Nat} {tm : Tm} {nt c c' : Nat} {v : Value} {A' : H} {a : Act}
    (hcall : ∀ k, op ≠ .call k) (e : doOp P o id tm A c op = some (v, A', c')) (ht : TmR μ tm nt a.tmps) (hR : R μ A w) (hid : μ id = none)
    {ro : Option Nat} {n : Nat} {K : Act → World → Prop} {Q : Exit → Act → World → Prop}
    (hK : ∀ v' μ' w', VR μ' v v' → Ext μ A c w (fun i => i = id ∧ 2 ≤ cls op) μ' A' c' w' → K (a.put d v') w') :
    (Oper.mk d op ty pos af gd).wpIn (wd ro) n P a w K Q := by
  have hu : VR μ undef undef := VR.tuple_iff.2 (VRs.nil μ)
  cases op with
  | move x =>
    obtain ⟨h1, h2, h3⟩ := ret1_some e
    subst h2; subst h3
    exact wpIn_value (by simp) (by rfl) (hK _ μ w (ht.eval h1) (Ext.refl hR))
  | assign x =>
    obtain ⟨h1, h2, h3⟩ := ret1_some e
    subst h2; subst h3
    exact wpIn_value (by simp) (by rfl) (hK _ μ w (ht.eval h1) (Ext.refl hR))
  | pick k x y =>
    simp only [doOp, Option.bind_eq_some_iff] at e
    obtain ⟨kv, hk, xv, hx, yv, hy, e⟩ := e
    split at e
    · rename_i t
      cases e
      have h1 := (ht.eval hk).bool_left
      refine wpIn_value (v' := if t then a.eval x else a.eval y) (by simp) ?_ (hK _ μ w ?_ (Ext.refl hR))
      · simp [execOp, h1, asBool]
      · cases t
        · exact ht.eval hy
        · exact ht.eval hx
    · cases e
  | alloc t =>
    simp only [doOp, Option.bind_eq_some_iff] at e
    obtain ⟨z, hz, e⟩ := e
    obtain ⟨hp, e⟩ := cond_some e
    cases e
    have hzr : VRs μ z.cells.toList z.cells.toList := (VR.plainL (μ := μ) hp).cells
    refine wpIn_value (v' := .pointer (some ⟨w.heap.size, 0, none⟩)) (w' := { w with heap := w.heap.push (.cells z.cells t) }) (by simp) ?_ (hK _ _ _ (ptrTo_VR hid) (Ext.weaken (own := fun i => i = id) ?_ (fun i h => ⟨h, by simp [cls]⟩)))
    · simp [execOp, Instr.alloc, run_zeroValue' hz, newVar, newRow]
    · simpa using newB_sim (c := c) hR hid hzr t
  | box t x =>
    simp only [doOp, Option.bind_eq_some_iff] at e
    obtain ⟨xv, hx, e⟩ := e
    obtain ⟨hp, e⟩ := cond_some e
    cases e
    have hr := (ht.eval hx).cells
    refine wpIn_value (v' := .pointer (some ⟨w.heap.size, 0, none⟩)) (w' := { w with heap := w.heap.push (.cells (a.eval x).cells t) }) (by simp) ?_ (hK _ _ _ (ptrTo_VR hid) (Ext.weaken (own := fun i => i = id) ?_ (fun i h => ⟨h, by simp [cls]⟩)))
    · simp [execOp, Instr.box, newVar, newRow]
    · simpa using newB_sim (c := c) hR hid hr t
  | build t ps =>
    simp only [doOp, Option.bind_eq_some_iff] at e
    obtain ⟨vs, hvs, e⟩ := e
    obtain ⟨h1, h2, h3⟩ := ret1_some e
    subst h2; subst h3
    have hp := ht.evalPs hvs
    refine look hR (by simp) rfl ?_ hK
    have hq : (ps.toList.map fun (p : Nat × Operand) => (p.1, a.eval p.2)).toArray = ps.map fun p => (p.1, a.eval p.2) := by apply Array.ext'; simp
    have := aBuild_sim (w := w) h1 hp
    rw [hq] at this
    exact this
  | buildSlice t len ps =>
    simp only [doOp, Option.bind_eq_some_iff] at e
    obtain ⟨vs, hvs, cs, hcs, e⟩ := e
    cases e
    have hp := ht.evalPs hvs
    obtain ⟨cs', E, h1, h2⟩ := aBuildSlice_sim (w := w) hcs hp
    have hq : (ps.toList.map fun (p : Nat × Operand) => (p.1, a.eval p.2)).toArray = ps.map fun p => (p.1, a.eval p.2) := by apply Array.ext'; simp
    rw [hq] at h1
    exact wpIn_value (by simp) (run_v h1) (hK _ _ _ slTo_VR ((newB_sim (c := c) hR hid h2 E).weaken (fun i h => ⟨h, by simp [cls]⟩)))
  | insert t m k x =>
    simp only [doOp, Option.bind_eq_some_iff] at e
    obtain ⟨mv, hm, kv, hk, xv, hx, A1, hA, e⟩ := e
    cases e
    obtain ⟨w', h1, h2⟩ := aMapUpdate_sim (c := c) (own := fun i => i = id ∧ _) hR hA (ht.eval hm) (ht.eval hk) (ht.eval hx)
    refine wpIn_skip' (by simp) ?_ (hK _ μ w' hu h2)
    simp only [execOp, Sem.run_bind, h1, Result.andThen_ok, Sem.run_pure]
  | load t x =>
    simp only [doOp, Option.bind_eq_some_iff] at e
    obtain ⟨p, hp, e⟩ := e
    obtain ⟨h1, h2, h3⟩ := ret1_some e
    subst h2; subst h3
    exact look hR (by simp) rfl (aLoad_sim hR h1 (ht.eval hp)) hK
  | store t x y =>
    simp only [doOp, Option.bind_eq_some_iff] at e
    obtain ⟨p, hp, xv, hx, A1, hA, e⟩ := e
    cases e
    obtain ⟨w', h1, h2⟩ := aStore_sim (P := P) (c0 := c) (own := fun i => i = id ∧ _) hR hA (ht.eval hp) (ht.eval hx)
    refine wpIn_skip' (by simp) ?_ (hK _ μ w' hu h2)
    simp only [execOp, Sem.run_bind, h1, Result.andThen_ok, Sem.run_pure]
  | nilCheck x =>
    simp only [doOp, Option.bind_eq_some_iff] at e
    obtain ⟨p, hp, e⟩ := e
    obtain ⟨h1, h2, h3⟩ := ret1_some e
    subst h2; subst h3
    have hv := ht.eval hp
    obtain ⟨h4, h5⟩ := aNilCheck_sim h1 hv
    subst h4
    refine wpIn_value (v' := a.eval x) (by simp) ?_ (hK _ μ w hv (Ext.refl hR))
    rcases h5 with ⟨q, h5⟩ | ⟨f, q, q2, h5⟩ | ⟨f, q, q2, h5⟩ <;> simp [execOp, h5]
  | binOp bo t x y yt =>
    simp only [doOp, Option.bind_eq_some_iff] at e
    obtain ⟨xv, hx, yv, hy, e⟩ := e
    obtain ⟨h1, h2, h3⟩ := ret1_some e
    subst h2; subst h3
    exact look hR (by simp) rfl (aBinOp_sim h1 (ht.eval hx) (ht.eval hy)) hK
  | unOp u t x =>
    simp only [doOp, Option.bind_eq_some_iff] at e
    obtain ⟨xv, hx, e⟩ := e
    obtain ⟨h1, h2, h3⟩ := ret1_some e
    subst h2; subst h3
    exact look hR (by simp) rfl (aUnOp_sim h1 (ht.eval hx)) hK
  | convert s dd x =>
    simp only [doOp, Option.bind_eq_some_iff] at e
    obtain ⟨ds, hds, xv, hx, e⟩ := e
    obtain ⟨h1, h2, h3⟩ := ret1_some e
    subst h2; subst h3
    exact look hR (by simp) rfl (aConvert_sim h1 (ht.eval hx) ⟨ds, hds⟩) hK
  | sliceToArrayPointer t x =>
    simp only [doOp, Option.bind_eq_some_iff] at e
    obtain ⟨xv, hx, e⟩ := e
    obtain ⟨h1, h2, h3⟩ := ret1_some e
    subst h2; subst h3
    exact look hR (by simp) rfl (aArrPtr_sim h1 (ht.eval hx)) hK
  | makeInterface t x =>
    simp only [doOp, Option.bind_eq_some_iff] at e
    obtain ⟨xv, hx, e⟩ := e
    split at e
    · cases e
    · cases e
    · rename_i td hni htd
      cases e
      refine look hR (by simp) rfl ⟨.iface t (a.eval x), ?_, .iface t (ht.eval hx)⟩ hK
      simp only [Instr.makeInterface, Sem.run_bind, run_underlying htd, Result.andThen_ok]
      cases td <;> first | rfl | (exact absurd rfl (hni _))
  | makeFunc fn first cap =>
    simp only [doOp] at e
    split at e
    · rename_i g
      simp only [Option.bind_eq_some_iff] at e
      obtain ⟨fv, hfv, kv, hkv, e⟩ := e
      cases e
      have h1 := ht.evals hfv
      have h2 := ht.evals hkv
      refine look hR (by simp) rfl ⟨.func (.func g) (first.map a.eval) (cap.map a.eval), rfl, ?_⟩ hK
      refine .fnc g ?_ ?_ ?_ ?_
      · have := h1.1; simpa using this
      · have := h2.1; simpa using this
      · intro k x y hx hy; exact h1.2 k x y (by simpa using hx) (by simpa [← Array.getElem?_toList] using hy)
      · intro k x y hx hy; exact h2.2 k x y (by simpa using hx) (by simpa [← Array.getElem?_toList] using hy)
    · cases e
  | makeMap t r =>
    simp only [doOp] at e
    cases r with
    | none =>
      simp only [Option.some.injEq, Prod.mk.injEq] at e
      obtain ⟨rfl, rfl, rfl⟩ := e
      refine wpIn_value (v' := .map (some w.heap.size)) (by simp) ?_ (hK _ _ _ (.map (Mu.upd_self μ id ⟨w.heap.size, 0, none⟩)) ((mk_ext (c := c) hR hid).weaken (fun i h => ⟨h, by simp [cls]⟩)))
      simp [execOp, Instr.makeMap]
    | some x =>
      simp only [Option.bind_eq_some_iff] at e
      obtain ⟨ke, hke, xv, hx, i, hi, e⟩ := e
      cases e
      obtain ⟨k, rfl⟩ := aInt_some hi
      have hx' := (ht.eval hx).int_left
      refine wpIn_value (v' := .map (some w.heap.size)) (by simp) ?_ (hK _ _ _ (.map (Mu.upd_self μ id ⟨w.heap.size, 0, none⟩)) ((mk_ext (c := c) hR hid).weaken (fun i h => ⟨h, by simp [cls]⟩)))
      simp [execOp, Instr.makeMap, run_underlying (mapT_some hke), hx', asInt, asIntOf]
  | makeSlice t l k =>
    simp only [doOp, Option.bind_eq_some_iff] at e
    obtain ⟨lv, hl, kv, hk, r, hr, e⟩ := e
    cases e
    obtain ⟨cs', E, h1, h2⟩ := aMakeSlice_sim (w := w) hr (ht.eval hl) (ht.eval hk)
    exact wpIn_value (by simp) (run_v h1) (hK _ _ _ slTo_VR ((newB_sim (c := c) hR hid h2 E).weaken (fun i h => ⟨h, by simp [cls]⟩)))
  | slice t x lo hi mx =>
    simp only [doOp, Option.bind_eq_some_iff] at e
    obtain ⟨xv, hx, l, hl, hh, hhi, m, hm, e⟩ := e
    obtain ⟨h1, h2, h3⟩ := ret1_some e
    subst h2; subst h3
    exact look hR (by simp) rfl (aSlice_sim hR h1 (ht.eval hx) (ht.opt hl) (ht.opt hhi) (ht.opt hm)) hK
  | fieldAddr t x f =>
    simp only [doOp, Option.bind_eq_some_iff] at e
    obtain ⟨xv, hx, e⟩ := e
    obtain ⟨h1, h2, h3⟩ := ret1_some e
    subst h2; subst h3
    exact look hR (by simp) rfl (aFieldAddr_sim h1 (ht.eval hx)) hK
  | field t x f =>
    simp only [doOp, Option.bind_eq_some_iff] at e
    obtain ⟨xv, hx, e⟩ := e
    obtain ⟨h1, h2, h3⟩ := ret1_some e
    subst h2; subst h3
    exact look hR (by simp) rfl (aField_sim h1 (ht.eval hx)) hK
  | indexAddr t x i =>
    simp only [doOp, Option.bind_eq_some_iff] at e
    obtain ⟨xv, hx, iv, hi, e⟩ := e
    obtain ⟨h1, h2, h3⟩ := ret1_some e
    subst h2; subst h3
    exact look hR (by simp) rfl (aIndexAddr_sim h1 (ht.eval hx) (ht.eval hi)) hK
  | index t x i =>
    simp only [doOp, Option.bind_eq_some_iff] at e
    obtain ⟨xv, hx, iv, hi, e⟩ := e
    obtain ⟨h1, h2, h3⟩ := ret1_some e
    subst h2; subst h3
    exact look hR (by simp) rfl (aIndex_sim h1 (ht.eval hx) (ht.eval hi)) hK
  | lookup t m k ok =>
    simp only [doOp, Option.bind_eq_some_iff] at e
    obtain ⟨mv, hm, kv, hk, e⟩ := e
    obtain ⟨h1, h2, h3⟩ := ret1_some e
    subst h2; subst h3
    exact look hR (by simp) rfl (aLookup_sim hR h1 (ht.eval hm) (ht.eval hk)) hK
  | mapUpdate t m k x =>
    simp only [doOp, Option.bind_eq_some_iff] at e
    obtain ⟨mv, hm, kv, hk, xv, hx, A1, hA, e⟩ := e
    cases e
    obtain ⟨w', h1, h2⟩ := aMapUpdate_sim (c := c) (own := fun i => i = id ∧ _) hR hA (ht.eval hm) (ht.eval hk) (ht.eval hx)
    refine wpIn_skip' (by simp) ?_ (hK _ μ w' hu h2)
    simp only [execOp, Sem.run_bind, h1, Result.andThen_ok, Sem.run_pure]
  | extract t i =>
    simp only [doOp, Option.bind_eq_some_iff] at e
    obtain ⟨tv, htv, e⟩ := e
    split at e
    · rename_i vs
      simp only [Option.bind_eq_some_iff] at e
      obtain ⟨x, hx, e⟩ := e
      cases e
      have hv := ht.eval htv
      generalize hev : a.eval t = tv' at hv
      cases hv with
      | @tuple _ ys hs hh =>
        have hl : i < ys.size := by have := (Array.getElem?_eq_some_iff.1 hx).1; omega
        refine look hR (by simp) rfl ⟨ys[i], ?_, hh i _ ys[i] hx (Array.getElem?_eq_getElem hl)⟩ hK
        simp [Instr.extract, hev, hl]
    · cases e
  | call k => exact absurd rfl (hcall k)
  | _ => simp [doOp] at e

/-! ### Calls -/
theorem run_resolve_value {c : Call} {f : Operand} (hc : c.callee = .value f) {a : Act} {ty : TypeId} {fn : Fn} {fs cap : Array Value} (hf : a.eval f = .func fn fs cap) :
    (resolve a.eval c ty).run P w = .ok { target := .fn fn cap, args := fs ++ c.args.map a.eval } w := by
  simp [resolve, hc, hf, Deferred.ofValue]

theorem run_execCall {o : Oper} {c : Call} (ho : o.op = .call c) {a : Act} {d : Deferred} (h : (resolve a.eval c o.type).run P w = .ok d w) :
    (execOp a.eval o).run P w = (invoke d.target d.args).run P w := by
  simp only [execOp, ho, Sem.run_bind, h, Result.andThen_ok]

theorem tmOf_append : ∀ {ps : List Nat} {xs : List Value} {l : List Nat} {vs : List Value} (t : Nat), ps.length = xs.length → tmOf (ps ++ l) (xs ++ vs) t = (tmOf ps xs t).or (tmOf l vs t)
  | [], [], l, vs, t, h => by simp [tmOf]
  | [], x :: xs, l, vs, t, h => by simp at h
  | p :: ps, [], l, vs, t, h => by simp at h
  | p :: ps, x :: xs, l, vs, t, h => by
    have ih := tmOf_append (ps := ps) (xs := xs) (l := l) (vs := vs) t (by simpa using h)
    simp only [List.cons_append, tmOf]
    cases Nat.beq t p <;> simp [ih]

theorem tmOf_mem : ∀ {ps : List Nat} {xs : List Value} {t : Nat} {v : Value}, tmOf ps xs t = some v → t ∈ ps
  | [], xs, t, v, h => by simp [tmOf] at h
  | p :: ps, [], t, v, h => by simp [tmOf] at h
  | p :: ps, x :: xs, t, v, h => by
    simp only [tmOf] at h
    cases hb : Nat.beq t p with
    | true => rw [Nat.eq_of_beq_eq_true hb]; simp
    | false => rw [hb] at h; exact List.mem_cons_of_mem _ (tmOf_mem h)

theorem nodupB_cons {x : Nat} {xs : List Nat} (h : nodupB (x :: xs) = true) : x ∉ xs ∧ nodupB xs = true := by
  simp only [nodupB, Bool.and_eq_true, Bool.not_eq_true'] at h
  refine ⟨fun hm => ?_, h.2⟩
  have : xs.any (Nat.beq x) = true := List.any_eq_true.2 ⟨x, hm, by simp⟩
  rw [h.1] at this; cases this

theorem fold_params : ∀ (ps : List Nat) (xs xs' : List Value) (base : Tm) (nt : Nat) (ts : Array Value), ps.length = xs.length → VRs μ xs xs' → nodupB ps = true → (∀ p ∈ ps, p < nt) → TmR μ base nt ts →
    TmR μ (fun t => (tmOf ps xs t).or (base t)) nt ((ps.zip xs').foldl (fun (tmps : Array Value) (p : Tmp × Value) => tmps.setIfInBounds p.1 p.2) ts)
  | [], [], xs', base, nt, ts, hl, hx, hn, hb, h => by
    rw [hx.nil_left]
    simpa [tmOf] using h
  | [], x :: xs, xs', base, nt, ts, hl, hx, hn, hb, h => by simp at hl
  | p :: ps, [], xs', base, nt, ts, hl, hx, hn, hb, h => by simp at hl
  | p :: ps, x :: xs, xs', base, nt, ts, hl, hx, hn, hb, h => by
    obtain ⟨x', ys, rfl, h1, h2⟩ := hx.left
    obtain ⟨hp, hn'⟩ := nodupB_cons hn
    have h3 : TmR μ (putT base (some p) x) nt (ts.setIfInBounds p x') := TmR.put (a := ⟨ts, []⟩) h (fun d hd => by cases hd; exact hb p (by simp)) h1
    have ih := fold_params ps xs ys (putT base (some p) x) nt (ts.setIfInBounds p x') (by simpa using hl) h2 hn' (fun q hq => hb q (by simp [hq])) h3
    simp only [List.zip_cons_cons, List.foldl_cons]
    refine ⟨ih.size, fun t v e => ih.val t v ?_⟩
    simp only [tmOf] at e
    cases hbq : Nat.beq t p with
    | true =>
      have htp := Nat.eq_of_beq_eq_true hbq
      subst htp
      rw [hbq] at e
      simp only [cond_true, Option.some_or] at e
      have : tmOf ps xs t = none := by
        cases hq : tmOf ps xs t with
        | none => rfl
        | some u => exact absurd (tmOf_mem hq) hp
      rw [this]
      simpa [putT] using e
    | false =>
      rw [hbq] at e
      simp only [cond_false] at e
      simpa [putT, hbq] using e

theorem call_wp {o : Orc H} (hO : OS P o) {oper : Oper} {k : Call} (hop : oper.op = .call k) {fo : Operand} (hk : k.callee = .value fo) {tm : Tm} {nt c c' : Nat} {fv v : Value} {args : List Value} {A' : H} {a : Act}
    (ht : TmR μ tm nt a.tmps) (hR : R μ A w) (hfr : Fresh μ c) (hargs : evalOs tm k.args.toList = some args) (hfv : evalO tm fo = some fv) (e : callV o A c fv args = some (v, A', c'))
    {ro : Option Nat} {n : Nat} {K : Act → World → Prop} {Q : Exit → Act → World → Prop}
    {own : Nat → Prop} (hK : ∀ v' μ' w', VR μ' v v' → Ext μ A c w own μ' A' c' w' → K (a.put oper.dst v') w') : oper.wpIn (wd ro) n P a w K Q := by
  have hav := ht.evals hargs
  have hfv' := ht.eval hfv
  have hnd : ∀ d, oper.op ≠ .defer d := by rw [hop]; simp
  have hend : ∀ (r : Rt H), (match r.vs with | [v] => some (v, r.h, r.c) | _ => none) = some (v, A', c') → ∀ en w', CallR μ A c w r en w' → ∃ v', en = .returned v' ∧ K (a.put oper.dst v') w' := by
    intro r hr en w' ⟨x, x', μ', h1, h2, h3, h4⟩
    rw [h1] at hr
    cases hr
    exact ⟨x', h2, hK x' μ' w' h3 (h4.weaken (fun _ h => h.elim))⟩
  have hmono : ∀ (r : Rt H), (match r.vs with | [v] => some (v, r.h, r.c) | _ => none) = some (v, A', c') → ∀ en w', CallR μ A c w r en w' → (fun
      | Ending.returned v, w'' => K (a.put oper.dst v) w''
      | .panicked chain, w'' => Q (.panic chain) a w''
      | .outgrown, _ => LetsOut Q : Ending → World → Prop) en w' := by
    intro r hr en w' hc
    obtain ⟨v', rfl, h⟩ := hend r hr en w' hc
    exact h
  unfold callV at e
  split at e
  · rename_i g first cap
    simp only [Option.bind_eq_some_iff] at e
    obtain ⟨r, hr, e⟩ := e
    obtain ⟨hcf, hcall⟩ := hO.fn _ _ _ _ _ _ hr
    generalize hev : a.eval fo = fv' at hfv'
    cases hfv' with
    | @fnc _ as as' bs bs' h1 h2 h3 h4 =>
      have hargsR : VRs μ (first.toList ++ args ++ cap.toList) (as'.toList ++ k.args.toList.map a.eval ++ bs'.toList) := by
        refine VRs.append (VRs.append ⟨by simpa using h1, fun n x y hx hy => h3 n x y (by simpa using hx) (by simpa using hy)⟩ hav) ⟨by simpa using h2, fun n x y hx hy => h4 n x y (by simpa using hx) (by simpa using hy)⟩
      have hC := hcall μ w _ hargsR hR hfr
      refine ⟨fun _ _ => trivial, ?_⟩
      rw [Oper.semAt_eq _ _ _ hnd, run_execCall hop (run_resolve_value (P := P) (w := w) hk hev)]
      have harr : (as'.toList ++ k.args.toList.map a.eval ++ bs'.toList).toArray = as' ++ k.args.map a.eval ++ bs' := by apply Array.ext'; simp
      rw [harr] at hC
      simp only [invoke, hcf, Oper.uponIn_enter]
      exact ⟨fun h => by simp [wd, Fence.wide] at h, (wd_calls hC).mono (hmono r e)⟩
  · rename_i l first cap
    obtain ⟨hz, e1⟩ := cond_some e
    clear e
    simp only [Bool.and_eq_true] at hz
    split at e1
    · rename_i st hg
      obtain ⟨hst, e2⟩ := cond_some e1
      clear e1
      simp only [Bool.and_eq_true, decide_eq_true_eq] at hst
      simp only [Option.bind_eq_some_iff] at e2
      obtain ⟨r, hr, e⟩ := e2
      generalize hev : a.eval fo = fv' at hfv'
      cases hfv' with
      | @yield _ m hm =>
        have hb := hR.blk l m hm
        rw [hg] at hb
        obtain ⟨lp, hlp, hL⟩ := hb
        have hal := Nat.eq_of_beq_eq_true hst.1.1.2
        have hpl : k.args.size = lp.params.size := by
          have h1 := hav.1
          have h4 : lp.params.size = st.params.length := by rw [← hL.params]; simp
          simp at h1
          omega
        have hzip : (lp.params.zip (k.args.map a.eval)).foldl (fun (tmps : Array Value) (p : Tmp × Value) => tmps.setIfInBounds p.1 p.2) lp.tmps = (st.params.zip (k.args.toList.map a.eval)).foldl (fun (tmps : Array Value) (p : Tmp × Value) => tmps.setIfInBounds p.1 p.2) lp.tmps := by
          rw [← Array.foldl_toList, Array.toList_zip, hL.params, Array.toList_map]
        have hts : TmR μ (tmOf (st.params ++ st.lin) (args ++ st.vals)) st.nt ((lp.params.zip (k.args.map a.eval)).foldl (fun (tmps : Array Value) (p : Tmp × Value) => tmps.setIfInBounds p.1 p.2) lp.tmps) := by
          rw [hzip]
          have h0 : TmR μ (tmOf st.lin st.vals) st.nt lp.tmps := ⟨hL.size, hL.vals⟩
          have h1 := fold_params st.params args (k.args.toList.map a.eval) _ st.nt lp.tmps (by omega) hav hst.1.2
            (fun p hp => by have := List.all_eq_true.1 hst.2 p hp; simp [Nat.blt] at this; omega) h0
          exact ⟨h1.size, fun t v e => h1.val t v (by rw [tmOf_append t (by omega)] at e; exact e)⟩
        have hC := hO.rnd _ _ _ _ _ _ _ _ _ _ _ _ hr μ w _ m ro (n - 1) lp.fn hm hts hR hfr
        refine ⟨fun _ _ => trivial, ?_⟩
        rw [Oper.semAt_eq _ _ _ hnd, run_execCall hop (run_resolve_value (P := P) (w := w) hk hev)]
        have hgl : (Instr.getLoop m.b).run P w = .ok lp w := by simp [Instr.getLoop, getObj, Sem.run, hlp]
        have hsz : ¬ ((#[] ++ k.args.map a.eval : Array Value).size ≠ lp.params.size) := by simp [hpl]
        have hrun : (invoke (.fn (.yield m.b) #[]) (#[] ++ k.args.map a.eval)).run P w = .ok (.round m.b lp.fn ((lp.params.zip (k.args.map a.eval)).foldl (fun (tmps : Array Value) (p : Tmp × Value) => tmps.setIfInBounds p.1 p.2) lp.tmps) lp.assign lp.body) w := by
          simp only [invoke, Instr.yield, Sem.run_bind, hgl, Result.andThen_ok]
          rw [if_neg hsz]
          simp
        rw [hrun, Oper.uponIn_round, hL.assign, hL.body]
        exact ⟨fun h => by simp [wd, Fence.wide] at h, hC.mono (hmono r e)⟩
    · cases e1
  · cases e

theorem run_execBuiltin {o : Oper} {c : Call} (ho : o.op = .call c) {b : Builtin} (hc : c.callee = .builtin b) {a : Act} :
    ∃ cs, (execOp a.eval o).run P w = (builtin b c.argTypes o.type cs (c.args.map a.eval)).run P w := by
  refine ⟨c.args.map fun | .const _ => true | _ => false, ?_⟩
  simp only [execOp, ho, Sem.run_bind, resolve, hc, Sem.run_pure, Result.andThen_ok, invoke]
  rfl

theorem builtin_wp {oper : Oper} {k : Call} (hop : oper.op = .call k) {b : Builtin} (hk : k.callee = .builtin b) {tm : Tm} {nt c : Nat} {v : Value} {args : List Value} {A' : H} {a : Act} {id : Nat}
    (ht : TmR μ tm nt a.tmps) (hR : R μ A w) (hid : μ id = none) (hargs : evalOs tm k.args.toList = some args) (e : aBuiltin P A id b k.argTypes.toList args = some (v, A'))
    {ro : Option Nat} {n : Nat} {K : Act → World → Prop} {Q : Exit → Act → World → Prop}
    {own : Nat → Prop} (how : b = .append → own id) (hK : ∀ v' μ' w', VR μ' v v' → Ext μ A c w own μ' A' c w' → K (a.put oper.dst v') w') : oper.wpIn (wd ro) n P a w K Q := by
  have hav := ht.evals hargs
  have hnd : ∀ d, oper.op ≠ .defer d := by rw [hop]; simp
  obtain ⟨cs, hrun⟩ := run_execBuiltin (P := P) (w := w) hop hk (a := a)
  have hmap : (k.args.toList.map a.eval).toArray = k.args.map a.eval := by apply Array.ext'; simp
  unfold aBuiltin at e
  split at e
  · -- len
    split at e
    · rename_i t ts x xs hts'
      simp only [Option.bind_eq_some_iff] at e
      obtain ⟨u, hu, e⟩ := e
      cases e
      generalize hxs : k.args.toList.map a.eval = ys at hav hmap
      obtain ⟨x', ys', rfl, hx, hys⟩ := hav.left
      obtain ⟨v', h1, h2⟩ := aLen_sim (P := P) (w := w) (ts' := ts) (xs' := ys') (ty := oper.type) hR hu hx
      refine wpIn_value hnd ?_ (hK v' μ w h2 (Ext.refl hR))
      have hat : k.argTypes = (t :: ts).toArray := by apply Array.ext'; simpa using hts'
      rw [hrun, ← hmap, hat]
      simp only [builtin, Sem.run_bind, h1, Result.andThen_ok, Sem.run_pure]
    · cases e
  · -- max
    simp only [Option.bind_eq_some_iff] at e
    obtain ⟨u, hu, e⟩ := e
    cases e
    cases args with
    | nil => simp [foldV] at hu
    | cons x xs =>
      generalize hxs : k.args.toList.map a.eval = ys at hav hmap
      obtain ⟨x', ys', rfl, hx, hys⟩ := hav.left
      simp only [foldV] at hu
      obtain ⟨v', h1, h2⟩ := foldlM_sim (P := P) (w := w) (g := Builtin.max2) (fun he h1 h2 => ⟨_, max2_sim he h1 h2⟩) hu hys hx
      refine wpIn_value hnd ?_ (hK v' μ w h2 (Ext.refl hR))
      rw [hrun, ← hmap]
      simp only [builtin, Builtin.max_, Sem.run_bind, h1, Result.andThen_ok, Sem.run_pure]
  · -- min
    simp only [Option.bind_eq_some_iff] at e
    obtain ⟨u, hu, e⟩ := e
    cases e
    cases args with
    | nil => simp [foldV] at hu
    | cons x xs =>
      generalize hxs : k.args.toList.map a.eval = ys at hav hmap
      obtain ⟨x', ys', rfl, hx, hys⟩ := hav.left
      simp only [foldV] at hu
      obtain ⟨v', h1, h2⟩ := foldlM_sim (P := P) (w := w) (g := Builtin.min2) (fun he h1 h2 => ⟨_, min2_sim he h1 h2⟩) hu hys hx
      refine wpIn_value hnd ?_ (hK v' μ w h2 (Ext.refl hR))
      rw [hrun, ← hmap]
      simp only [builtin, Builtin.min_, Sem.run_bind, h1, Result.andThen_ok, Sem.run_pure]
  · -- append
    obtain ⟨v', μ', w', h1, h2, h3⟩ := aAppend_sim (P := P) (w := w) (c := c) (ty := oper.type) hR hid e hav
    refine wpIn_value hnd ?_ (hK v' μ' w' h2 (h3.weaken (fun i h => h ▸ how rfl)))
    rw [hrun, ← hmap]
    simp only [Array.toArray_toList] at h1
    simp only [builtin, Sem.run_bind, h1, Result.andThen_ok, Sem.run_pure]
  · -- copy
    obtain ⟨v', w', h1, h2, h3⟩ := aCopy_sim (P := P) (w := w) (c := c) (own := own) (ty := oper.type) hR e hav
    refine wpIn_value hnd ?_ (hK v' μ w' h2 h3)
    rw [hrun, ← hmap]
    simp only [Array.toArray_toList] at h1
    simp only [builtin, Sem.run_bind, h1, Result.andThen_ok, Sem.run_pure]
  · -- clear
    split at e
    · rename_i t ts hts
      simp only [Option.bind_eq_some_iff] at e
      obtain ⟨td, htd, e⟩ := e
      obtain ⟨v', w', h1, h2, h3⟩ := aClear_sim (P := P) (w := w) (c := c) (own := own) (ty := oper.type) hR e hav (fun t' h => by rw [hts] at h; cases h; exact ⟨td, htd⟩)
      refine wpIn_value hnd ?_ (hK v' μ w' h2 h3)
      rw [hrun, ← hmap]
      simp only [Array.toArray_toList] at h1
      simp only [builtin, Sem.run_bind, h1, Result.andThen_ok, Sem.run_pure]
    · cases e
  · cases e

/-- One operation, whatever it is. -/
theorem doOp_sim {o : Orc H} (hO : OS P o) {d : Option Tmp} {op : Op} {ty : TypeId} {pos : String} {af : Array Edge} {gd : Option (Nat × Bool)} {id : Nat} {tm : Tm} {nt c c' : Nat} {v : Value} {A' : H} {a : Act}
    (e : doOp P o id tm A c op = some (v, A', c')) (ht : TmR μ tm nt a.tmps) (hR : R μ A w) (hid : μ id = none) (hfr : Fresh μ c)
    {ro : Option Nat} {n : Nat} {K : Act → World → Prop} {Q : Exit → Act → World → Prop}
    (hK : ∀ v' μ' w', VR μ' v v' → Ext μ A c w (fun i => i = id ∧ 2 ≤ cls op) μ' A' c' w' → K (a.put d v') w') :
    (Oper.mk d op ty pos af gd).wpIn (wd ro) n P a w K Q := by
  by_cases hcall : ∃ k, op = .call k
  · obtain ⟨k, rfl⟩ := hcall
    simp only [doOp, Option.bind_eq_some_iff] at e
    obtain ⟨args, hargs, e⟩ := e
    split at e
    · rename_i f hk
      simp only [Option.bind_eq_some_iff] at e
      obtain ⟨fv, hfv, e⟩ := e
      exact call_wp hO rfl hk ht hR hfr hargs hfv e hK
    · rename_i b hk
      simp only [Option.bind_eq_some_iff] at e
      obtain ⟨r, hr, e⟩ := e
      cases e
      exact builtin_wp rfl hk ht hR hid hargs hr (fun hb => ⟨rfl, by subst hb; obtain ⟨callee, args, ats⟩ := k; simp at hk; subst hk; simp [cls]⟩) hK
    · cases e
  · exact doOp_simple (fun k h => hcall ⟨k, h⟩) e ht hR hid hK

end Go.Ab
