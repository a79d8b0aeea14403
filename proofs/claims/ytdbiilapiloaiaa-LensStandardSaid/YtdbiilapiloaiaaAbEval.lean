/- A part of the claim's proof: AbEval. Conditions: none. -/
import Derived.Test.YtdbiilapiloaiaaAbPrim
/-! Evaluation by tables of shallow functions. -/
set_option linter.all false
namespace Go.Ab
open Go
set_option linter.unusedVariables false
set_option linter.unusedSimpArgs false
set_option linter.unusedSectionVars false

variable {H : Type} [HeapC H] {P : Program}

/-- what the program says of loops (their layout, body, frame size) and of ranges (by frame size and parameters) -/
structure LB where
  loop : Nat → Option (List Nat × ACode × Nat)
  rng : Nat → List Nat → Option (List Nat × ACode × ACode)

def CodeOK (K : LB) (nt : Nat) : ACode → Prop
  | .seq a b => CodeOK K nt a ∧ CodeOK K nt b
  | .cond _ a b => CodeOK K nt a ∧ CodeOK K nt b
  | .block _ a => CodeOK K nt a
  | .join _ a => CodeOK K nt a
  | .loop j lin fr _ b => fr = [] ∧ K.loop j = some (lin, b, nt)
  | .rangeFunc _ lin fr _ _ ps a b => fr = [] ∧ K.rng nt ps.toList = some (lin, a, b)
  | _ => True

def KeyOK (K : LB) : Key → Prop
  | .fn _ => True
  | .lp j lin fr b nt _ => fr = [] ∧ K.loop j = some (lin, b, nt)
  | .rnd nt lin fr params _ a b => fr = [] ∧ K.rng nt params = some (lin, a, b)

def InvL (K : LB) (h : H) : Prop := ∀ i st, HeapC.get h i = some (.loop st) → st.fr = [] ∧ K.rng st.nt st.params = some (st.lin, st.assign, st.body)

/-- no new loops -/
def NoL (h h' : H) : Prop := ∀ i st, HeapC.get h' i = some (.loop st) → HeapC.get h i = some (.loop st)

theorem NoL.refl (h : H) : NoL h h := fun _ _ e => e
theorem NoL.trans {a b c : H} (h : NoL a b) (k : NoL b c) : NoL a c := fun i st e => h i st (k i st e)
theorem NoL.set {h : H} {i : Nat} {b : ABlk} (hb : ∀ st, b ≠ .loop st) : NoL h (HeapC.set h i b) := by
  intro j st e
  rw [HeapC.get_set] at e
  split at e
  · cases e; exact absurd rfl (hb st)
  · exact e
theorem NoL.del {h : H} {i : Nat} : NoL h (HeapC.del h i) := by
  intro j st e
  rw [HeapC.get_del] at e
  split at e
  · cases e
  · exact e
theorem NoL.inv {K : LB} {h h' : H} (n : NoL h h') (hi : InvL K h) : InvL K h' := fun i st e => hi i st (n i st e)

theorem NoL.wr {h h' : H} {i off : Nat} {xs : List Value} (e : wrCells h i off xs = some h') : NoL h h' := by
  unfold wrCells at e
  split at e
  · obtain ⟨_, e⟩ := cond_some e; cases e; exact NoL.set (fun st => by simp)
  · cases e

theorem NoL.store {t : TypeId} {h h' : H} {p x : Value} (e : aStore P h t p x = some h') : NoL h h' := by
  simp only [aStore, stN, Option.bind_eq_some_iff] at e
  obtain ⟨n, _, a, _, e⟩ := e
  obtain ⟨_, e⟩ := cond_some e
  exact NoL.wr e

theorem NoL.mapUpdate {t : TypeId} {h h' : H} {m k v : Value} (e : aMapUpdate P h t m k v = some h') : NoL h h' := by
  simp only [aMapUpdate, Option.bind_eq_some_iff] at e
  obtain ⟨ke, _, e⟩ := e
  obtain ⟨_, e⟩ := cond_some e
  split at e
  · split at e
    · simp only [Option.bind_eq_some_iff] at e
      obtain ⟨r, _, e⟩ := e
      split at e
      · split at e
        · obtain ⟨_, e⟩ := cond_some e; cases e; exact NoL.set (fun st => by simp)
        · cases e
      · cases e; exact NoL.set (fun st => by simp)
    · cases e
  · cases e

theorem NoL.grow {h : H} {id sz by' : Nat} {base : Option Addr} {len need : Nat} {new : List Value} {r : Value × H} (e : appGrow h id sz by' base len need new = some r) : NoL h r.2 := by
  unfold appGrow at e
  obtain ⟨_, e⟩ := cond_some e
  split at e
  · obtain ⟨_, e⟩ := cond_some e; cases e; exact NoL.set (fun st => by simp)
  · simp only [Option.bind_eq_some_iff] at e
    obtain ⟨old, _, e⟩ := e
    split at e
    · split at e
      · cases e; exact NoL.set (fun st => by simp)
      · obtain ⟨_, e⟩ := cond_some e; cases e; exact (NoL.set (fun st => by simp)).trans (NoL.set (fun st => by simp))
    · cases e
  · cases e

theorem NoL.appTo {h : H} {id sz by' : Nat} {s : Value} {new : List Value} {n : Nat} {r : Value × H} (e : appTo h id sz by' s new n = some r) : NoL h r.2 := by
  unfold Ab.appTo at e
  split at e
  · rename_i base len cap
    cases hb : Nat.ble (len + n) cap with
    | true =>
      rw [hb] at e
      simp only [cond_true] at e
      split at e
      · cases hc : Nat.beq new.length 0 with
        | true => rw [hc] at e; cases e; exact NoL.refl _
        | false =>
          rw [hc] at e
          simp only [cond_false, Option.bind_eq_some_iff] at e
          obtain ⟨h', hw, e⟩ := e
          cases e
          exact NoL.wr hw
      · obtain ⟨_, e⟩ := cond_some e; cases e; exact NoL.refl _
      · cases e
    | false => rw [hb] at e; exact NoL.grow e
  · cases e

theorem NoL.builtin {h : H} {id : Nat} {b : Builtin} {ts : List TypeId} {args : List Value} {r : Value × H} (e : aBuiltin P h id b ts args = some r) : NoL h r.2 := by
  cases b with
  | len =>
    simp only [aBuiltin] at e
    split at e
    · simp only [Option.bind_eq_some_iff] at e; obtain ⟨v, _, e⟩ := e; cases e; exact NoL.refl _
    · cases e
  | max => simp only [aBuiltin, Option.bind_eq_some_iff] at e; obtain ⟨v, _, e⟩ := e; cases e; exact NoL.refl _
  | min => simp only [aBuiltin, Option.bind_eq_some_iff] at e; obtain ⟨v, _, e⟩ := e; cases e; exact NoL.refl _
  | append =>
    simp only [aBuiltin, aAppend] at e
    split at e
    · simp only [Option.bind_eq_some_iff] at e
      obtain ⟨el, _, sz, _, by', _, z, _, e⟩ := e
      obtain ⟨_, e⟩ := cond_some e
      split at e
      · simp only [Option.bind_eq_some_iff] at e
        obtain ⟨xd, _, e⟩ := e
        have bs : ∀ {t : Bool} {x y : Option (Value × H)}, cond t x y = some r → x = some r ∨ y = some r := by
          intro t x y e
          cases t
          · exact .inr e
          · exact .inl e
        rcases bs e with e | e
        · simp only [Option.bind_eq_some_iff] at e
          obtain ⟨n, _, e⟩ := e
          obtain ⟨_, e⟩ := cond_some e
          exact NoL.appTo e
        · simp only [Option.bind_eq_some_iff] at e
          obtain ⟨q, _, e⟩ := e
          exact NoL.appTo e
      · cases e
    · cases e
  | copy =>
    simp only [aBuiltin, aCopy] at e
    split at e
    · simp only [Option.bind_eq_some_iff] at e
      obtain ⟨el, _, sz, _, e⟩ := e
      split at e
      · obtain ⟨_, e⟩ := cond_some e; cases e; exact NoL.refl _
      · simp only [Option.bind_eq_some_iff] at e
        obtain ⟨q, _, h', hw, e⟩ := e
        cases e
        exact NoL.wr hw
      · cases e
    · cases e
  | clear =>
    simp only [aBuiltin] at e
    split at e
    · simp only [Option.bind_eq_some_iff] at e
      obtain ⟨_, _, e⟩ := e
      unfold aClear at e
      split at e
      · split at e
        · cases e; exact NoL.refl _
        · simp only [Option.bind_eq_some_iff] at e
          obtain ⟨el, _, sz, _, z, _, e⟩ := e
          obtain ⟨_, e⟩ := cond_some e
          simp only [Option.bind_eq_some_iff] at e
          obtain ⟨h', hw, e⟩ := e
          cases e
          exact NoL.wr hw
        · cases e
      · cases e
    · cases e
  | _ => simp [aBuiltin] at e

theorem ret1_heap {h : H} {c : Nat} {v : Option Value} {r : Value × H × Nat} (e : ret1 h c v = some r) : r.2.1 = h := by
  simp only [ret1, Option.bind_eq_some_iff] at e
  obtain ⟨x, _, e⟩ := e
  cases e
  rfl

/-- an operation that calls nothing lays no loop, whatever the oracle -/
theorem doOp_noL {o : Orc H} {id : Nat} {tm : Tm} {h : H} {c : Nat} {op : Op} {r : Value × H × Nat} (hop : ∀ k, op ≠ .call k) (e : doOp P o id tm h c op = some r) : NoL h r.2.1 := by
  have R1 : ∀ {v : Option Value}, ret1 h c v = some r → NoL h r.2.1 := fun e => by rw [ret1_heap e]; exact NoL.refl _
  cases op with
  | call k => exact absurd rfl (hop k)
  | move x => exact R1 e
  | assign x => exact R1 e
  | pick x a b =>
    simp only [doOp, Option.bind_eq_some_iff] at e
    obtain ⟨_, _, _, _, _, _, e⟩ := e
    split at e
    · cases e; exact NoL.refl _
    · cases e
  | alloc t =>
    simp only [doOp, Option.bind_eq_some_iff] at e
    obtain ⟨_, _, e⟩ := e
    obtain ⟨_, e⟩ := cond_some e
    cases e
    exact NoL.set (fun st => by simp)
  | box t x =>
    simp only [doOp, Option.bind_eq_some_iff] at e
    obtain ⟨_, _, e⟩ := e
    obtain ⟨_, e⟩ := cond_some e
    cases e
    exact NoL.set (fun st => by simp)
  | build t ps => simp only [doOp, Option.bind_eq_some_iff] at e; obtain ⟨_, _, e⟩ := e; exact R1 e
  | buildSlice t l ps =>
    simp only [doOp, Option.bind_eq_some_iff] at e
    obtain ⟨_, _, _, _, e⟩ := e
    cases e
    exact NoL.set (fun st => by simp)
  | load t a => simp only [doOp, Option.bind_eq_some_iff] at e; obtain ⟨_, _, e⟩ := e; exact R1 e
  | store t a x =>
    simp only [doOp, Option.bind_eq_some_iff] at e
    obtain ⟨_, _, _, _, h', hs, e⟩ := e
    cases e
    exact NoL.store hs
  | nilCheck x => simp only [doOp, Option.bind_eq_some_iff] at e; obtain ⟨_, _, e⟩ := e; exact R1 e
  | binOp b t x y u => simp only [doOp, Option.bind_eq_some_iff] at e; obtain ⟨_, _, _, _, e⟩ := e; exact R1 e
  | unOp u t x => simp only [doOp, Option.bind_eq_some_iff] at e; obtain ⟨_, _, e⟩ := e; exact R1 e
  | convert s d x => simp only [doOp, Option.bind_eq_some_iff] at e; obtain ⟨_, _, _, _, e⟩ := e; exact R1 e
  | sliceToArrayPointer t x => simp only [doOp, Option.bind_eq_some_iff] at e; obtain ⟨_, _, e⟩ := e; exact R1 e
  | makeInterface t x =>
    simp only [doOp, Option.bind_eq_some_iff] at e
    obtain ⟨_, _, e⟩ := e
    split at e
    · cases e
    · cases e
    · cases e; exact NoL.refl _
  | makeFunc f a b =>
    simp only [doOp] at e
    split at e
    · simp only [Option.bind_eq_some_iff] at e; obtain ⟨_, _, _, _, e⟩ := e; cases e; exact NoL.refl _
    · cases e
  | makeMap t x =>
    simp only [doOp] at e
    split at e
    · cases e; exact NoL.set (fun st => by simp)
    · simp only [Option.bind_eq_some_iff] at e; obtain ⟨_, _, _, _, _, _, e⟩ := e; cases e; exact NoL.set (fun st => by simp)
  | makeSlice t l k =>
    simp only [doOp, Option.bind_eq_some_iff] at e
    obtain ⟨_, _, _, _, _, _, e⟩ := e
    cases e
    exact NoL.set (fun st => by simp)
  | slice t x lo hi mx => simp only [doOp, Option.bind_eq_some_iff] at e; obtain ⟨_, _, _, _, _, _, _, _, e⟩ := e; exact R1 e
  | fieldAddr t x f => simp only [doOp, Option.bind_eq_some_iff] at e; obtain ⟨_, _, e⟩ := e; exact R1 e
  | field t x f => simp only [doOp, Option.bind_eq_some_iff] at e; obtain ⟨_, _, e⟩ := e; exact R1 e
  | indexAddr t x i => simp only [doOp, Option.bind_eq_some_iff] at e; obtain ⟨_, _, _, _, e⟩ := e; exact R1 e
  | index t x i => simp only [doOp, Option.bind_eq_some_iff] at e; obtain ⟨_, _, _, _, e⟩ := e; exact R1 e
  | lookup t m k ok => simp only [doOp, Option.bind_eq_some_iff] at e; obtain ⟨_, _, _, _, e⟩ := e; exact R1 e
  | mapUpdate t m k v =>
    simp only [doOp, Option.bind_eq_some_iff] at e
    obtain ⟨_, _, _, _, _, _, h', hs, e⟩ := e
    cases e
    exact NoL.mapUpdate hs
  | insert t m k v =>
    simp only [doOp, Option.bind_eq_some_iff] at e
    obtain ⟨_, _, _, _, _, _, h', hs, e⟩ := e
    cases e
    exact NoL.mapUpdate hs
  | extract t i =>
    simp only [doOp, Option.bind_eq_some_iff] at e
    obtain ⟨_, _, e⟩ := e
    split at e
    · simp only [Option.bind_eq_some_iff] at e; obtain ⟨_, _, e⟩ := e; cases e; exact NoL.refl _
    · cases e
  | _ => cases e

/-! ### What o answers on good keys and heaps, q answers too -/
def GoodO (K : LB) (o q : Orc H) : Prop := ∀ key args h c df r, KeyOK K key → InvL K h → o key args h c df = some r → q key args h c df = some r ∧ InvL K r.h

section
variable {K : LB} {o q : Orc H}

theorem callV_good (hG : GoodO K o q) {h : H} {c : Nat} {fv : Value} {args : List Value} {r : Value × H × Nat} (hi : InvL K h) (e : callV o h c fv args = some r) : callV q h c fv args = some r ∧ InvL K r.2.1 := by
  cases fv with
  | func f first cap =>
    cases f with
    | func g =>
      simp only [callV, Option.bind_eq_some_iff] at e ⊢
      obtain ⟨x, hx, e⟩ := e
      obtain ⟨h1, h2⟩ := hG (.fn g) _ _ _ _ _ trivial hi hx
      refine ⟨⟨x, h1, e⟩, ?_⟩
      split at e
      · cases e; exact h2
      · cases e
    | yield l =>
      simp only [callV] at e ⊢
      obtain ⟨h0, e⟩ := cond_some e
      rw [h0]
      split at e
      · rename_i st hg
        obtain ⟨h1, e⟩ := cond_some e
        simp only [Option.bind_eq_some_iff] at e
        obtain ⟨x, hx, e⟩ := e
        obtain ⟨h2, h3⟩ := hG (.rnd _ _ _ _ _ _ _) _ _ _ _ _ (hi _ _ hg) hi hx
        simp only [h1, cond_true, Option.bind_eq_some_iff]
        refine ⟨⟨x, h2, e⟩, ?_⟩
        split at e
        · cases e; exact h3
        · cases e
      · cases e
    | _ => simp [callV] at e
  | _ => simp [callV] at e

theorem doOp_good (hG : GoodO K o q) {id : Nat} {tm : Tm} {h : H} {c : Nat} {op : Op} {r : Value × H × Nat} (hi : InvL K h) (e : doOp P o id tm h c op = some r) : doOp P q id tm h c op = some r ∧ InvL K r.2.1 := by
  cases op with
  | call k =>
    simp only [doOp, Option.bind_eq_some_iff] at e ⊢
    obtain ⟨args, ha, e⟩ := e
    cases hk : k.callee with
    | value f =>
      rw [hk] at e
      simp only [Option.bind_eq_some_iff] at e
      obtain ⟨fv, hf, e⟩ := e
      obtain ⟨h1, h2⟩ := callV_good hG hi e
      exact ⟨⟨args, ha, by simp only [hf, Option.bind_some]; exact h1⟩, h2⟩
    | builtin b =>
      rw [hk] at e
      refine ⟨⟨args, ha, e⟩, ?_⟩
      simp only [Option.bind_eq_some_iff] at e
      obtain ⟨x, hx, e⟩ := e
      cases e
      exact (NoL.builtin hx).inv hi
    | invoke _ _ => rw [hk] at e; cases e
  | _ => exact ⟨e, (doOp_noL (by intro k hk; cases hk) e).inv hi⟩

theorem stepOp_good (hG : GoodO K o q) {ops : Array Oper} {base i nt : Nat} {tm : Tm} {h : H} {c : Nat} {op : Oper} {r : Value × H × Nat} (hi : InvL K h) (e : stepOp P o ops base i nt tm h c op = some r) :
    stepOp P q ops base i nt tm h c op = some r ∧ InvL K r.2.1 := by
  simp only [stepOp, Option.bind_eq_some_iff] at e ⊢
  obtain ⟨w, hw, e⟩ := e
  obtain ⟨h0, e⟩ := cond_some e
  cases w with
  | true =>
    obtain ⟨h1, h2⟩ := doOp_good hG hi e
    exact ⟨⟨true, hw, by rw [h0]; exact h1⟩, h2⟩
  | false =>
    refine ⟨⟨false, hw, by rw [h0]; exact e⟩, ?_⟩
    cases e
    exact hi

theorem runOps_good (hG : GoodO K o q) {ops : Array Oper} {base nt : Nat} : ∀ {l : List Oper} {i : Nat} {tm : Tm} {h : H} {c : Nat} {r : Tm × H × Nat}, InvL K h → runOps P o ops base nt l i tm h c = some r →
    runOps P q ops base nt l i tm h c = some r ∧ InvL K r.2.1
  | [], i, tm, h, c, r, hi, e => ⟨e, by cases e; exact hi⟩
  | op :: l, i, tm, h, c, r, hi, e => by
    simp only [runOps, Option.bind_eq_some_iff] at e ⊢
    obtain ⟨x, hx, e⟩ := e
    obtain ⟨h1, h2⟩ := stepOp_good hG hi hx
    obtain ⟨h3, h4⟩ := runOps_good hG h2 e
    exact ⟨⟨x, h1, h3⟩, h4⟩

theorem runOpsT_good (hG : GoodO K o q) {ops : Array Oper} {base nt : Nat} : ∀ {l : List Oper} {i : Nat} {tm : Tm} {h : H} {c : Nat} {r : Tm × H × Nat × List (Option Nat × H)}, InvL K h →
    runOpsT P o ops base nt l i tm h c = some r → runOpsT P q ops base nt l i tm h c = some r ∧ InvL K r.2.1
  | [], i, tm, h, c, r, hi, e => ⟨e, by cases e; exact hi⟩
  | op :: l, i, tm, h, c, r, hi, e => by
    simp only [runOpsT, Option.bind_eq_some_iff] at e ⊢
    obtain ⟨x, hx, y, hy, e⟩ := e
    obtain ⟨h1, h2⟩ := stepOp_good hG hi hx
    obtain ⟨h3, h4⟩ := runOpsT_good hG h2 hy
    refine ⟨⟨x, h1, y, h3, e⟩, ?_⟩
    cases e
    exact h4

theorem runReg_good (hG : GoodO K o q) {ops : Array Oper} {draw : Bool} {nt : Nat} {tm : Tm} {h : H} {c : Nat} {r : Tm × H × Nat} (hi : InvL K h) (e : runReg P o ops draw nt tm h c = some r) :
    runReg P q ops draw nt tm h c = some r ∧ InvL K r.2.1 := by
  simp only [runReg] at e ⊢
  cases draw with
  | false => exact runOps_good hG hi e
  | true =>
    obtain ⟨h0, e⟩ := cond_some e
    simp only [cond_true, h0]
    cases h1 : (lws ops).isEmpty with
    | true => rw [h1] at e; exact runOps_good hG hi e
    | false =>
      rw [h1] at e
      simp only [cond_false, Option.bind_eq_some_iff] at e ⊢
      obtain ⟨x, hx, e⟩ := e
      obtain ⟨h2, h3⟩ := runOpsT_good hG hi hx
      refine ⟨⟨x, h2, e⟩, ?_⟩
      obtain ⟨_, e⟩ := cond_some e
      cases e
      exact h3

theorem disp_of {β γ : Type} {e : Ex} {f : Ex → Option β} {g : Ex → Option γ} {x : β} : ∀ {l : List Ex}, disp e f l = some x → f e = some x ∧ disp e g l = g e
  | [], h => by cases h
  | y :: l, h => by
    simp only [disp] at h ⊢
    cases hb : exIs e y with
    | true => rw [hb] at h; rw [exIs_eq hb]; exact ⟨h, rfl⟩
    | false => rw [hb] at h; exact disp_of h

theorem dispJ_of {β γ : Type} {r : Rt H} {f : Kx H β} {g : Kx H γ} {x : β} : ∀ {l : List (Ex × List Nat)}, dispJ r f l = some x → ∃ lay, f r.e (tmL lay r.vs) r.h r.c r.df = some x ∧ dispJ r g l = g r.e (tmL lay r.vs) r.h r.c r.df
  | [], h => by cases h
  | y :: l, h => by
    simp only [dispJ] at h ⊢
    cases hb : exIs r.e y.1 with
    | true => rw [hb] at h; refine ⟨y.2, ?_, ?_⟩ <;> rw [exIs_eq hb] <;> first | exact h | rfl
    | false => rw [hb] at h; exact dispJ_of h

theorem rangeV_good (hG : GoodO K o q) {nt : Nat} {rd : Option Nat} {lin : List Nat} {ps : Array Tmp} {a b : ACode} {fv : Value} {vs : List Value} {h : H} {c : Nat} {df : List Nat} {r : Ex × H × Nat × List Nat} (hi : InvL K h)
    (hk : K.rng nt ps.toList = some (lin, a, b)) (e : rangeV o nt rd lin [] ps a b fv vs h c df = some r) : rangeV q nt rd lin [] ps a b fv vs h c df = some r ∧ InvL K r.2.1 := by
  unfold rangeV at e ⊢
  split at e
  · rename_i g first cap
    simp only [Option.bind_eq_some_iff] at e ⊢
    obtain ⟨hd, hhd, x, hx, e⟩ := e
    have hi1 : InvL K hd.1 := by
      unfold enterDfr at hhd
      split at hhd
      · cases hhd; exact (NoL.set (fun st => by simp)).inv hi
      · split at hhd
        · cases hhd; exact hi
        · cases hhd
    have hi2 : InvL K (HeapC.set hd.1 (256 * c) (.loop { state := .ready, pending := none, nt := nt, vals := vs, lin := lin, fr := [], params := ps.toList, assign := a, body := b, dfr := hd.2 })) := by
      intro i st hst
      rw [HeapC.get_set] at hst
      split at hst
      · cases hst; exact ⟨rfl, hk⟩
      · exact hi1 i st hst
    obtain ⟨h1, h2⟩ := hG (.fn g) _ _ _ _ _ trivial hi2 hx
    refine ⟨⟨hd, hhd, x, h1, e⟩, ?_⟩
    split at e
    · rename_i st hg
      cases hb : decide (st.state = LoopState.busy) with
      | true => rw [hb] at e; cases e
      | false =>
        rw [hb] at e
        simp only [cond_false, Option.bind_eq_some_iff] at e
        obtain ⟨y, _, e⟩ := e
        cases e
        exact NoL.del.inv h2
    · cases e
  · cases e

theorem jx_good (hG : GoodO K o q) {nt : Nat} {rd : Option Nat} : ∀ {code : ACode}, CodeOK K nt code → ∀ {β : Type} {tm : Tm} {h : H} {c : Nat} {df : List Nat} {Kf : Kx H β} {x : β}, InvL K h → jx P o nt rd code tm h c df Kf = some x →
    ∃ e tm1 h1 c1 df1, Kf e tm1 h1 c1 df1 = some x ∧ InvL K h1 ∧ ∀ {γ : Type} (Kg : Kx H γ), jx P q nt rd code tm h c df Kg = Kg e tm1 h1 c1 df1 := by
  intro code
  induction code with
  | skip => intro _ β tm h c df Kf x hi e; exact ⟨_, _, _, _, _, e, hi, fun _ => rfl⟩
  | region id ops d =>
    intro _ β tm h c df Kf x hi e
    simp only [jx, regK_eq, Option.bind_eq_some_iff] at e
    obtain ⟨y, hy, e⟩ := e
    obtain ⟨h1, h2⟩ := runReg_good hG hi hy
    exact ⟨_, _, _, _, _, e, h2, fun Kg => by simp only [jx, regK_eq, h1, Option.bind_some]⟩
  | seq a b iha ihb =>
    intro hok β tm h c df Kf x hi e
    simp only [jx] at e
    obtain ⟨e1, tm1, h1, c1, df1, hk, hi1, hg⟩ := iha hok.1 hi e
    cases e1 with
    | normal =>
      obtain ⟨e2, tm2, h2, c2, df2, hk2, hi2, hg2⟩ := ihb hok.2 hi1 hk
      exact ⟨_, _, _, _, _, hk2, hi2, fun Kg => by simp only [jx]; rw [hg]; exact hg2 Kg⟩
    | exit i => exact ⟨_, _, _, _, _, hk, hi1, fun Kg => by simp only [jx]; rw [hg]⟩
    | ret => exact ⟨_, _, _, _, _, hk, hi1, fun Kg => by simp only [jx]; rw [hg]⟩
  | cond y a b iha ihb =>
    intro hok β tm h c df Kf x hi e
    simp only [jx, Option.bind_eq_some_iff] at e
    obtain ⟨v, hv, e⟩ := e
    split at e
    · rename_i t
      cases t
      · obtain ⟨e1, tm1, h1, c1, df1, hk, hi1, hg⟩ := ihb hok.2 hi e
        exact ⟨_, _, _, _, _, hk, hi1, fun Kg => by simp only [jx, hv, Option.bind_some, cond_false]; exact hg Kg⟩
      · obtain ⟨e1, tm1, h1, c1, df1, hk, hi1, hg⟩ := iha hok.1 hi e
        exact ⟨_, _, _, _, _, hk, hi1, fun Kg => by simp only [jx, hv, Option.bind_some, cond_true]; exact hg Kg⟩
    · cases e
  | block id a ih =>
    intro hok β tm h c df Kf x hi e
    simp only [jx] at e
    obtain ⟨e1, tm1, h1, c1, df1, hk, hi1, hg⟩ := ih hok hi e
    cases e1 with
    | normal => exact ⟨_, _, _, _, _, hk, hi1, fun Kg => by simp only [jx]; rw [hg]⟩
    | exit i =>
      cases hb : Nat.beq i id with
      | true => simp only [hb] at hk; exact ⟨_, _, _, _, _, hk, hi1, fun Kg => by simp only [jx]; rw [hg]; simp only [hb, cond_true]⟩
      | false => simp only [hb] at hk; exact ⟨_, _, _, _, _, hk, hi1, fun Kg => by simp only [jx]; rw [hg]; simp only [hb, cond_false]⟩
    | ret => exact ⟨_, _, _, _, _, hk, hi1, fun Kg => by simp only [jx]; rw [hg]⟩
  | loop j lin fr outs b _ =>
    intro hok β tm h c df Kf x hi e
    simp only [jx, Option.bind_eq_some_iff] at e
    obtain ⟨vs, hv, r, hr, e⟩ := e
    obtain ⟨h1, h2⟩ := hG (.lp j lin fr b nt rd) _ _ _ _ _ hok hi hr
    refine ⟨r.e, tmL lin r.vs, r.h, r.c, r.df, ?_, h2, fun {γ} Kg => ?_⟩
    · exact (disp_of (γ := β) (g := fun _ => none) e).1
    · simp only [jx, hv, Option.bind_some, h1]
      exact (disp_of (g := fun e => Kg e (tmL lin r.vs) r.h r.c r.df) e).2
  | rangeFunc j lin fr outs f ps a b _ _ =>
    intro hok β tm h c df Kf x hi e
    obtain ⟨rfl, hk⟩ := hok
    simp only [jx, Option.bind_eq_some_iff] at e
    obtain ⟨fv, hf, vs, hv, r, hr, e⟩ := e
    obtain ⟨h1, h2⟩ := rangeV_good hG hi hk hr
    refine ⟨r.1, tm, r.2.1, r.2.2.1, r.2.2.2, ?_, h2, fun {γ} Kg => ?_⟩
    · exact (disp_of (γ := β) (g := fun _ => none) e).1
    · simp only [jx, hf, hv, Option.bind_some, h1]
      exact (disp_of (g := fun e => Kg e tm r.2.1 r.2.2.1 r.2.2.2) e).2
  | exit id => intro _ β tm h c df Kf x hi e; exact ⟨_, _, _, _, _, e, hi, fun _ => rfl⟩
  | ret => intro _ β tm h c df Kf x hi e; exact ⟨_, _, _, _, _, e, hi, fun _ => rfl⟩
  | bad _ => intro _ β tm h c df Kf x hi e; cases e
  | join lays a ih =>
    intro hok β tm h c df Kf x hi e
    simp only [jx, Option.bind_eq_some_iff] at e
    obtain ⟨r, hr, e⟩ := e
    obtain ⟨e1, tm1, h1, c1, df1, hk, hi1, hg⟩ := ih hok hi hr
    have hk' := hk
    simp only [Option.bind_eq_some_iff] at hk'
    obtain ⟨l, hl, vs, hvs, hk'⟩ := hk'
    cases hk'
    refine ⟨e1, tmL l vs, h1, c1, df1, ?_, hi1, fun {γ} Kg => ?_⟩
    · obtain ⟨lay, h3, h4⟩ := dispJ_some e
      simp only at h3 h4
      rw [hl] at h3
      cases h3
      exact h4
    · simp only [jx]
      rw [hg]
      simp only [hl, hvs, Option.bind_some]
      obtain ⟨lay, h3, h4⟩ := dispJ_some e
      simp only at h3 h4
      rw [hl] at h3
      cases h3
      clear hg hk hr h4
      -- the same road for Kg
      have : ∀ {ls : List (Ex × List Nat)} {l : List Nat}, layF e1 ls = some l → dispJ ({ e := e1, vs := vs, h := h1, c := c1, df := df1 } : Rt H) Kg ls = Kg e1 (tmL l vs) h1 c1 df1 := by
        intro ls
        induction ls with
        | nil => intro l h; cases h
        | cons y ls ih2 =>
          intro l h
          simp only [layF] at h
          simp only [dispJ]
          cases hb : exIs e1 y.1 with
          | true => rw [hb] at h; cases h; rw [exIs_eq hb]; rfl
          | false => rw [hb] at h; exact ih2 h
      exact this hl
end

/-! ### Tables -/
structure Tab (H : Type) where
  F : FuncId → Option (Orc H → List Value → H → Nat → Option (Rt H))
  L : Nat → Option (Orc H → Option Nat → List Value → H → Nat → List Nat → Option (Rt H))
  R : Nat → List Nat → Option (Orc H → Nat → List Value → H → Nat → Option (Rt H))

noncomputable def evT (T : Tab H) (n : Nat) : Orc H :=
  Nat.rec (motive := fun _ => Orc H) (fun _ _ _ _ _ => none)
    (fun _ o key args h c df => Key.rec (motive := fun _ => Option (Rt H))
      (fun f => (T.F f).bind fun F => F o args h c)
      (fun j lin fr b nt rd => (T.L j).bind fun B => (B o rd args h c df).bind fun q =>
        match q.e with
        | .normal => o (.lp j lin fr b nt rd) q.vs q.h q.c q.df
        | .exit i => some { q with e := .exit i }
        | .ret => some { q with e := .ret })
      (fun nt _ _ params l _ _ => (T.R nt params).bind fun D => D o l args h c) key) n
theorem evT_succ (T : Tab H) (n : Nat) (key : Key) (args : List Value) (h : H) (c : Nat) (df : List Nat) : evT T (n + 1) key args h c df =
    match key with
    | .fn f => (T.F f).bind fun F => F (evT T n) args h c
    | .lp j lin fr b nt rd => (T.L j).bind fun B => (B (evT T n) rd args h c df).bind fun q =>
        match q.e with
        | .normal => evT T n (.lp j lin fr b nt rd) q.vs q.h q.c q.df
        | .exit i => some { q with e := .exit i }
        | .ret => some { q with e := .ret }
    | .rnd nt _ _ params l _ _ => (T.R nt params).bind fun D => D (evT T n) l args h c := by
  cases key <;> rfl

structure TabOK (P : Program) (bk : FuncId → Option AFun) (K : LB) (T : Tab H) : Prop where
  F : ∀ f F, T.F f = some F → ∃ a, bk f = some a ∧ a.fr = [] ∧ CodeOK K a.nt a.code ∧ ∀ o args h c r, F o args h c = some r →
    Nat.ble args.length a.nt = true ∧ jx P o a.nt none a.code (tmOf (List.range args.length) args) h c [] (Kfn P a.res) = some r
  L : ∀ j B lin b nt, T.L j = some B → K.loop j = some (lin, b, nt) → CodeOK K nt b ∧ ∀ o rd vs h c df q, B o rd vs h c df = some q → jx P o nt rd b (tmOf lin vs) h c df (Klp lin) = some q
  R : ∀ nt ps D lin a b, T.R nt ps = some D → K.rng nt ps = some (lin, a, b) → CodeOK K nt a ∧ CodeOK K nt b ∧ ∀ o l vs h c r, D o l vs h c = some r →
    jx P o nt (some l) a (tmOf (ps ++ lin) vs) h c [] (rndK P o nt l b) = some r

theorem Kfn_inv {K : LB} {res : List ResultVar} {e : Ex} {tm : Tm} {h : H} {c : Nat} {df : List Nat} {r : Rt H} (hi : InvL K h) (hk : Kfn P res e tm h c df = some r) : InvL K r.h := by
  have tk : ∀ (ds : List Nat) (h h1 : H), takeAll h ds = some h1 → NoL h h1 := by
    intro ds
    induction ds with
    | nil => intro h h1 e; cases e; exact NoL.refl _
    | cons d ds ih =>
      intro h h1 e
      simp only [takeAll] at e
      split at e
      · exact NoL.del.trans (ih _ _ e)
      · cases e
  cases e with
  | exit i => cases hk
  | normal =>
    simp only [Kfn, resK_eq, Option.bind_eq_some_iff] at hk
    obtain ⟨h1, ht, vs, _, hk⟩ := hk
    cases hk
    exact (tk _ _ _ ht).inv hi
  | ret =>
    simp only [Kfn, resK_eq, Option.bind_eq_some_iff] at hk
    obtain ⟨h1, ht, vs, _, hk⟩ := hk
    cases hk
    exact (tk _ _ _ ht).inv hi

theorem setState_inv {K : LB} {h h' : H} {l : Nat} {s : LoopState} {pd : Option Code} (hi : InvL K h) (e : setState h l s pd = some h') : InvL K h' := by
  unfold setState at e
  split at e
  · rename_i st hg
    cases e
    intro i st' h'
    rw [HeapC.get_set] at h'
    split at h'
    · cases h'; exact hi l st hg
    · exact hi _ _ h'
  · cases e

theorem beginSt_inv {K : LB} {h h' : H} {l : Nat} (hi : InvL K h) (e : beginSt h l = some h') : InvL K h' := by
  unfold beginSt at e
  split at e
  · rename_i st hg
    obtain ⟨_, e⟩ := cond_some e
    cases e
    intro i st' h'
    rw [HeapC.get_set] at h'
    split at h'
    · cases h'; exact hi l st hg
    · exact hi _ _ h'
  · cases e

theorem evT_good {bk : FuncId → Option AFun} {K : LB} {T : Tab H} (hT : TabOK P bk K T) : ∀ n, GoodO K (evT T n) (run P bk)
  | 0 => fun _ _ _ _ _ _ _ _ e => by cases e
  | n + 1 => by
    have ih := evT_good hT n
    intro key args h c df r hk hi e
    cases key with
    | fn f =>
      simp only [evT_succ, Option.bind_eq_some_iff] at e
      obtain ⟨F, hF, e⟩ := e
      obtain ⟨a, ha, hfr, hok, h1⟩ := hT.F f F hF
      obtain ⟨hlen, h2⟩ := h1 _ _ _ _ _ e
      obtain ⟨e1, tm1, h3, c1, df1, h4, h5, h6⟩ := jx_good ih hok hi h2
      exact ⟨run_fn ha hfr hlen (by rw [h6]; exact h4), Kfn_inv h5 h4⟩
    | lp j lin fr b nt rd =>
      obtain ⟨rfl, hkl⟩ := hk
      simp only [evT_succ, Option.bind_eq_some_iff] at e
      obtain ⟨B, hB, q, hq, e⟩ := e
      obtain ⟨hok, h1⟩ := hT.L j B lin b nt hB hkl
      have h2 := h1 _ _ _ _ _ _ _ hq
      obtain ⟨e1, tm1, h3, c1, df1, h4, h5, h6⟩ := jx_good ih hok hi h2
      have h7 : jx P (run P bk) nt rd b (tmOf lin args) h c df (Klp lin) = some q := by rw [h6]; exact h4
      have hqe : q.e = e1 ∧ InvL K q.h := by
        simp only [Klp, Option.bind_eq_some_iff] at h4
        obtain ⟨ws, _, h4⟩ := h4
        cases h4
        exact ⟨rfl, h5⟩
      cases hx : q.e with
      | normal =>
        rw [hx] at e
        obtain ⟨h8, h9⟩ := ih (.lp j lin [] b nt rd) _ _ _ _ _ ⟨rfl, hkl⟩ hqe.2 e
        exact ⟨run_lp_next h7 hx h8, h9⟩
      | exit i =>
        rw [hx] at e
        have : r = q := by obtain ⟨qe, qv, qh, qc, qd⟩ := q; simp only at hx; subst hx; cases e; rfl
        subst this
        exact ⟨run_lp_last h7 (by rw [hx]; simp), hqe.2⟩
      | ret =>
        rw [hx] at e
        have : r = q := by obtain ⟨qe, qv, qh, qc, qd⟩ := q; simp only at hx; subst hx; cases e; rfl
        subst this
        exact ⟨run_lp_last h7 (by rw [hx]; simp), hqe.2⟩
    | rnd nt lin fr params l a b =>
      obtain ⟨rfl, hkr⟩ := hk
      simp only [evT_succ, Option.bind_eq_some_iff] at e
      obtain ⟨D, hD, e⟩ := e
      obtain ⟨hoa, hob, h1⟩ := hT.R nt params D lin a b hD hkr
      have h2 := h1 _ _ _ _ _ _ e
      obtain ⟨e1, tm1, h3, c1, df1, h4, h5, h6⟩ := jx_good ih hoa hi h2
      cases e1 with
      | exit i => cases h4
      | ret => cases h4
      | normal =>
        simp only [rndK, Option.bind_eq_some_iff] at h4
        obtain ⟨h7, hb, h8⟩ := h4
        obtain ⟨e2, tm2, h9, c2, df2, h10, h11, h12⟩ := jx_good ih hob (beginSt_inv h5 hb) h8
        refine ⟨run_rnd (by rw [h6]; simp only [hb, Option.bind_some]; rw [h12]; exact h10), ?_⟩
        simp only [Krd, Option.bind_eq_some_iff] at h10
        obtain ⟨h13, hs, h14⟩ := h10
        obtain ⟨_, h14⟩ := cond_some h14
        cases h14
        exact setState_inv h11 hs

/-! ### Tables as trees -/
inductive BT (α : Type) where
  | leaf
  | node (k : Nat) (v : α) (l r : BT α)

noncomputable def BT.look {α : Type} (t : BT α) (f : Nat) : Option α :=
  BT.rec (motive := fun _ => Option α) none (fun k v _ _ l r => cond (Nat.beq f k) (some v) (cond (Nat.blt f k) l r)) t
theorem BT.look_node {α : Type} (k : Nat) (v : α) (l r : BT α) (f : Nat) : (BT.node k v l r).look f = cond (Nat.beq f k) (some v) (cond (Nat.blt f k) (l.look f) (r.look f)) := rfl

def BT.All {α : Type} (Q : Nat → α → Prop) : BT α → Prop
  | .leaf => True
  | .node k v l r => Q k v ∧ l.All Q ∧ r.All Q

theorem BT.look_all {α : Type} {Q : Nat → α → Prop} : ∀ {t : BT α}, t.All Q → ∀ {f : Nat} {v : α}, t.look f = some v → Q f v
  | .leaf, _, f, v, e => by cases e
  | .node k w l r, h, f, v, e => by
    rw [BT.look_node] at e
    cases hb : Nat.beq f k with
    | true => rw [hb] at e; cases e; rw [Nat.eq_of_beq_eq_true hb]; exact h.1
    | false =>
      rw [hb] at e
      cases hc : Nat.blt f k with
      | true => rw [hc] at e; exact look_all h.2.1 e
      | false => rw [hc] at e; exact look_all h.2.2 e

def nlEq : List Nat → List Nat → Bool
  | [], [] => true
  | x :: xs, y :: ys => cond (Nat.beq x y) (nlEq xs ys) false
  | _, _ => false

theorem nlEq_eq : ∀ {a b : List Nat}, nlEq a b = true → a = b
  | [], [], _ => rfl
  | x :: xs, y :: ys, h => by
    simp only [nlEq] at h
    cases hb : Nat.beq x y with
    | true => rw [hb] at h; rw [Nat.eq_of_beq_eq_true hb, nlEq_eq h]
    | false => rw [hb] at h; cases h
  | [], y :: ys, h => by cases h
  | x :: xs, [], h => by cases h

def lookR {α : Type} (nt : Nat) (ps : List Nat) : List (Nat × List Nat × α) → Option α
  | [] => none
  | x :: xs => cond (cond (Nat.beq nt x.1) (nlEq ps x.2.1) false) (some x.2.2) (lookR nt ps xs)

def AllR {α : Type} (Q : Nat → List Nat → α → Prop) : List (Nat × List Nat × α) → Prop
  | [] => True
  | x :: xs => Q x.1 x.2.1 x.2.2 ∧ AllR Q xs

theorem lookR_all {α : Type} {Q : Nat → List Nat → α → Prop} {nt : Nat} {ps : List Nat} : ∀ {l : List (Nat × List Nat × α)}, AllR Q l → ∀ {v : α}, lookR nt ps l = some v → Q nt ps v
  | [], _, v, e => by cases e
  | x :: xs, h, v, e => by
    simp only [lookR] at e
    cases hb : cond (Nat.beq nt x.1) (nlEq ps x.2.1) false with
    | false => rw [hb] at e; exact lookR_all h.2 e
    | true =>
      rw [hb] at e
      cases e
      cases hc : Nat.beq nt x.1 with
      | false => rw [hc] at hb; cases hb
      | true => rw [hc] at hb; rw [Nat.eq_of_beq_eq_true hc, nlEq_eq hb]; exact h.1

/-- what an entry of the book is -/
def EntOK (P : Program) (f : FuncId) (a : AFun) : Prop :=
  ∃ fn c, P.funcs[f]? = some fn ∧ fn.body = some c ∧ (fn.name == "runtime.NumGoroutine") = false ∧ strip a.code = c ∧ a.nt = fn.ntmps ∧ a.res = fn.results.toList

def FE (P : Program) (bk : FuncId → Option AFun) (K : LB) (f : FuncId) (F : Orc H → List Value → H → Nat → Option (Rt H)) : Prop :=
  ∃ a, bk f = some a ∧ a.fr = [] ∧ CodeOK K a.nt a.code ∧ ∀ o args h c r, F o args h c = some r →
    Nat.ble args.length a.nt = true ∧ jx P o a.nt none a.code (tmOf (List.range args.length) args) h c [] (Kfn P a.res) = some r

def LE (P : Program) (K : LB) (j : Nat) (B : Orc H → Option Nat → List Value → H → Nat → List Nat → Option (Rt H)) : Prop :=
  ∀ lin b nt, K.loop j = some (lin, b, nt) → CodeOK K nt b ∧ ∀ o rd vs h c df q, B o rd vs h c df = some q → jx P o nt rd b (tmOf lin vs) h c df (Klp lin) = some q

def RE (P : Program) (K : LB) (nt : Nat) (ps : List Nat) (D : Orc H → Nat → List Value → H → Nat → Option (Rt H)) : Prop :=
  ∀ lin a b, K.rng nt ps = some (lin, a, b) → CodeOK K nt a ∧ CodeOK K nt b ∧ ∀ o l vs h c r, D o l vs h c = some r → jx P o nt (some l) a (tmOf (ps ++ lin) vs) h c [] (rndK P o nt l b) = some r

end Go.Ab
