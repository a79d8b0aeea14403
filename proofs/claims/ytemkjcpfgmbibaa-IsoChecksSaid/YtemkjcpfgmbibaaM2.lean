/- Parts of a proof: AbEval AbGc K S0 S1. Conditions: none. -/
import Derived.Test.YtemkjcpfgmbibaaM1
import Derived.Test.YtemkjcpfgmbibaaChecked
import Derived.KernelRfl
set_option linter.all false
/-! Evaluation by tables of shallow functions. -/
namespace Go.Ab
open Go
set_option linter.unusedVariables false
set_option linter.unusedSimpArgs false
set_option linter.unusedSectionVars false

variable {H : Type} [HeapC H] {P : Program}

/-- what the program says of loops (their layout, body, frame size) and of ranges (by frame size and parameters) -/
structure LB where
  loop : Nat → Option (List Nat × ACode × Nat)
  rng : Nat → List Nat → Option (List Nat × ACode × ACode)

def CodeOK (K : LB) (nt : Nat) : ACode → Prop
  | .seq a b => CodeOK K nt a ∧ CodeOK K nt b
  | .cond _ a b => CodeOK K nt a ∧ CodeOK K nt b
  | .block _ a => CodeOK K nt a
  | .join _ a => CodeOK K nt a
  | .loop j lin fr _ b => fr = [] ∧ K.loop j = some (lin, b, nt)
  | .rangeFunc _ lin fr _ _ ps a b => fr = [] ∧ K.rng nt ps.toList = some (lin, a, b)
  | _ => True

def KeyOK (K : LB) : Key → Prop
  | .fn _ => True
  | .lp j lin fr b nt _ => fr = [] ∧ K.loop j = some (lin, b, nt)
  | .rnd nt lin fr params _ a b => fr = [] ∧ K.rng nt params = some (lin, a, b)

def InvL (K : LB) (h : H) : Prop := ∀ i st, HeapC.get h i = some (.loop st) → st.fr = [] ∧ K.rng st.nt st.params = some (st.lin, st.assign, st.body)

/-- no new loops -/
def NoL (h h' : H) : Prop := ∀ i st, HeapC.get h' i = some (.loop st) → HeapC.get h i = some (.loop st)

theorem NoL.refl (h : H) : NoL h h := fun _ _ e => e
theorem NoL.trans {a b c : H} (h : NoL a b) (k : NoL b c) : NoL a c := fun i st e => h i st (k i st e)
theorem NoL.set {h : H} {i : Nat} {b : ABlk} (hb : ∀ st, b ≠ .loop st) : NoL h (HeapC.set h i b) := by
  intro j st e
  rw [HeapC.get_set] at e
  split at e
  · cases e; exact absurd rfl (hb st)
  · exact e
theorem NoL.del {h : H} {i : Nat} : NoL h (HeapC.del h i) := by
  intro j st e
  rw [HeapC.get_del] at e
  split at e
  · cases e
  · exact e
theorem NoL.inv {K : LB} {h h' : H} (n : NoL h h') (hi : InvL K h) : InvL K h' := fun i st e => hi i st (n i st e)

theorem NoL.wr {h h' : H} {i off : Nat} {xs : List Value} (e : wrCells h i off xs = some h') : NoL h h' := by
  unfold wrCells at e
  split at e
  · obtain ⟨_, e⟩ := cond_some e; cases e; exact NoL.set (fun st => by simp)
  · cases e

theorem NoL.store {t : TypeId} {h h' : H} {p x : Value} (e : aStore P h t p x = some h') : NoL h h' := by
  simp only [aStore, stN, Option.bind_eq_some_iff] at e
  obtain ⟨n, _, a, _, e⟩ := e
  obtain ⟨_, e⟩ := cond_some e
  exact NoL.wr e

theorem NoL.mapUpdate {t : TypeId} {h h' : H} {m k v : Value} (e : aMapUpdate P h t m k v = some h') : NoL h h' := by
  simp only [aMapUpdate, Option.bind_eq_some_iff] at e
  obtain ⟨ke, _, e⟩ := e
  obtain ⟨_, e⟩ := cond_some e
  split at e
  · split at e
    · simp only [Option.bind_eq_some_iff] at e
      obtain ⟨r, _, e⟩ := e
      split at e
      · split at e
        · obtain ⟨_, e⟩ := cond_some e; cases e; exact NoL.set (fun st => by simp)
        · cases e
      · cases e; exact NoL.set (fun st => by simp)
    · cases e
  · cases e

theorem NoL.grow {h : H} {id sz by' : Nat} {base : Option Addr} {len need : Nat} {new : List Value} {r : Value × H} (e : appGrow h id sz by' base len need new = some r) : NoL h r.2 := by
  unfold appGrow at e
  obtain ⟨_, e⟩ := cond_some e
  split at e
  · obtain ⟨_, e⟩ := cond_some e; cases e; exact NoL.set (fun st => by simp)
  · simp only [Option.bind_eq_some_iff] at e
    obtain ⟨old, _, e⟩ := e
    split at e
    · split at e
      · cases e; exact NoL.set (fun st => by simp)
      · obtain ⟨_, e⟩ := cond_some e; cases e; exact (NoL.set (fun st => by simp)).trans (NoL.set (fun st => by simp))
    · cases e
  · cases e

theorem NoL.appTo {h : H} {id sz by' : Nat} {s : Value} {new : List Value} {n : Nat} {r : Value × H} (e : appTo h id sz by' s new n = some r) : NoL h r.2 := by
  unfold Ab.appTo at e
  split at e
  · rename_i base len cap
    cases hb : Nat.ble (len + n) cap with
    | true =>
      rw [hb] at e
      simp only [cond_true] at e
      split at e
      · cases hc : Nat.beq new.length 0 with
        | true => rw [hc] at e; cases e; exact NoL.refl _
        | false =>
          rw [hc] at e
          simp only [cond_false, Option.bind_eq_some_iff] at e
          obtain ⟨h', hw, e⟩ := e
          cases e
          exact NoL.wr hw
      · obtain ⟨_, e⟩ := cond_some e; cases e; exact NoL.refl _
      · cases e
    | false => rw [hb] at e; exact NoL.grow e
  · cases e

theorem NoL.builtin {h : H} {id : Nat} {b : Builtin} {ts : List TypeId} {args : List Value} {r : Value × H} (e : aBuiltin P h id b ts args = some r) : NoL h r.2 := by
  cases b with
  | len =>
    simp only [aBuiltin] at e
    split at e
    · simp only [Option.bind_eq_some_iff] at e; obtain ⟨v, _, e⟩ := e; cases e; exact NoL.refl _
    · cases e
  | max => simp only [aBuiltin, Option.bind_eq_some_iff] at e; obtain ⟨v, _, e⟩ := e; cases e; exact NoL.refl _
  | min => simp only [aBuiltin, Option.bind_eq_some_iff] at e; obtain ⟨v, _, e⟩ := e; cases e; exact NoL.refl _
  | append =>
    simp only [aBuiltin, aAppend] at e
    split at e
    · simp only [Option.bind_eq_some_iff] at e
      obtain ⟨el, _, sz, _, by', _, z, _, e⟩ := e
      obtain ⟨_, e⟩ := cond_some e
      split at e
      · simp only [Option.bind_eq_some_iff] at e
        obtain ⟨xd, _, e⟩ := e
        have bs : ∀ {t : Bool} {x y : Option (Value × H)}, cond t x y = some r → x = some r ∨ y = some r := by
          intro t x y e
          cases t
          · exact .inr e
          · exact .inl e
        rcases bs e with e | e
        · simp only [Option.bind_eq_some_iff] at e
          obtain ⟨n, _, e⟩ := e
          obtain ⟨_, e⟩ := cond_some e
          exact NoL.appTo e
        · simp only [Option.bind_eq_some_iff] at e
          obtain ⟨q, _, e⟩ := e
          exact NoL.appTo e
      · cases e
    · cases e
  | copy =>
    simp only [aBuiltin, aCopy] at e
    split at e
    · simp only [Option.bind_eq_some_iff] at e
      obtain ⟨el, _, sz, _, e⟩ := e
      split at e
      · obtain ⟨_, e⟩ := cond_some e; cases e; exact NoL.refl _
      · simp only [Option.bind_eq_some_iff] at e
        obtain ⟨q, _, h', hw, e⟩ := e
        cases e
        exact NoL.wr hw
      · cases e
    · cases e
  | clear =>
    simp only [aBuiltin] at e
    split at e
    · simp only [Option.bind_eq_some_iff] at e
      obtain ⟨_, _, e⟩ := e
      unfold aClear at e
      split at e
      · split at e
        · cases e; exact NoL.refl _
        · simp only [Option.bind_eq_some_iff] at e
          obtain ⟨el, _, sz, _, z, _, e⟩ := e
          obtain ⟨_, e⟩ := cond_some e
          simp only [Option.bind_eq_some_iff] at e
          obtain ⟨h', hw, e⟩ := e
          cases e
          exact NoL.wr hw
        · cases e
      · cases e
    · cases e
  | _ => simp [aBuiltin] at e

theorem ret1_heap {h : H} {c : Nat} {v : Option Value} {r : Value × H × Nat} (e : ret1 h c v = some r) : r.2.1 = h := by
  simp only [ret1, Option.bind_eq_some_iff] at e
  obtain ⟨x, _, e⟩ := e
  cases e
  rfl

/-- an operation that calls nothing lays no loop, whatever the oracle -/
theorem doOp_noL {o : Orc H} {id : Nat} {tm : Tm} {h : H} {c : Nat} {op : Op} {r : Value × H × Nat} (hop : ∀ k, op ≠ .call k) (e : doOp P o id tm h c op = some r) : NoL h r.2.1 := by
  have R1 : ∀ {v : Option Value}, ret1 h c v = some r → NoL h r.2.1 := fun e => by rw [ret1_heap e]; exact NoL.refl _
  cases op with
  | call k => exact absurd rfl (hop k)
  | move x => exact R1 e
  | assign x => exact R1 e
  | pick x a b =>
    simp only [doOp, Option.bind_eq_some_iff] at e
    obtain ⟨_, _, _, _, _, _, e⟩ := e
    split at e
    · cases e; exact NoL.refl _
    · cases e
  | alloc t =>
    simp only [doOp, Option.bind_eq_some_iff] at e
    obtain ⟨_, _, e⟩ := e
    obtain ⟨_, e⟩ := cond_some e
    cases e
    exact NoL.set (fun st => by simp)
  | box t x =>
    simp only [doOp, Option.bind_eq_some_iff] at e
    obtain ⟨_, _, e⟩ := e
    obtain ⟨_, e⟩ := cond_some e
    cases e
    exact NoL.set (fun st => by simp)
  | build t ps => simp only [doOp, Option.bind_eq_some_iff] at e; obtain ⟨_, _, e⟩ := e; exact R1 e
  | buildSlice t l ps =>
    simp only [doOp, Option.bind_eq_some_iff] at e
    obtain ⟨_, _, _, _, e⟩ := e
    cases e
    exact NoL.set (fun st => by simp)
  | load t a => simp only [doOp, Option.bind_eq_some_iff] at e; obtain ⟨_, _, e⟩ := e; exact R1 e
  | store t a x =>
    simp only [doOp, Option.bind_eq_some_iff] at e
    obtain ⟨_, _, _, _, h', hs, e⟩ := e
    cases e
    exact NoL.store hs
  | nilCheck x => simp only [doOp, Option.bind_eq_some_iff] at e; obtain ⟨_, _, e⟩ := e; exact R1 e
  | binOp b t x y u => simp only [doOp, Option.bind_eq_some_iff] at e; obtain ⟨_, _, _, _, e⟩ := e; exact R1 e
  | unOp u t x => simp only [doOp, Option.bind_eq_some_iff] at e; obtain ⟨_, _, e⟩ := e; exact R1 e
  | convert s d x => simp only [doOp, Option.bind_eq_some_iff] at e; obtain ⟨_, _, _, _, e⟩ := e; exact R1 e
  | sliceToArrayPointer t x => simp only [doOp, Option.bind_eq_some_iff] at e; obtain ⟨_, _, e⟩ := e; exact R1 e
  | makeInterface t x =>
    simp only [doOp, Option.bind_eq_some_iff] at e
    obtain ⟨_, _, e⟩ := e
    split at e
    · cases e
    · cases e
    · cases e; exact NoL.refl _
  | makeFunc f a b =>
    simp only [doOp] at e
    split at e
    · simp only [Option.bind_eq_some_iff] at e; obtain ⟨_, _, _, _, e⟩ := e; cases e; exact NoL.refl _
    · cases e
  | makeMap t x =>
    simp only [doOp] at e
    split at e
    · cases e; exact NoL.set (fun st => by simp)
    · simp only [Option.bind_eq_some_iff] at e; obtain ⟨_, _, _, _, _, _, e⟩ := e; cases e; exact NoL.set (fun st => by simp)
  | makeSlice t l k =>
    simp only [doOp, Option.bind_eq_some_iff] at e
    obtain ⟨_, _, _, _, _, _, e⟩ := e
    cases e
    exact NoL.set (fun st => by simp)
  | slice t x lo hi mx => simp only [doOp, Option.bind_eq_some_iff] at e; obtain ⟨_, _, _, _, _, _, _, _, e⟩ := e; exact R1 e
  | fieldAddr t x f => simp only [doOp, Option.bind_eq_some_iff] at e; obtain ⟨_, _, e⟩ := e; exact R1 e
  | field t x f => simp only [doOp, Option.bind_eq_some_iff] at e; obtain ⟨_, _, e⟩ := e; exact R1 e
  | indexAddr t x i => simp only [doOp, Option.bind_eq_some_iff] at e; obtain ⟨_, _, _, _, e⟩ := e; exact R1 e
  | index t x i => simp only [doOp, Option.bind_eq_some_iff] at e; obtain ⟨_, _, _, _, e⟩ := e; exact R1 e
  | lookup t m k ok => simp only [doOp, Option.bind_eq_some_iff] at e; obtain ⟨_, _, _, _, e⟩ := e; exact R1 e
  | mapUpdate t m k v =>
    simp only [doOp, Option.bind_eq_some_iff] at e
    obtain ⟨_, _, _, _, _, _, h', hs, e⟩ := e
    cases e
    exact NoL.mapUpdate hs
  | insert t m k v =>
    simp only [doOp, Option.bind_eq_some_iff] at e
    obtain ⟨_, _, _, _, _, _, h', hs, e⟩ := e
    cases e
    exact NoL.mapUpdate hs
  | extract t i =>
    simp only [doOp, Option.bind_eq_some_iff] at e
    obtain ⟨_, _, e⟩ := e
    split at e
    · simp only [Option.bind_eq_some_iff] at e; obtain ⟨_, _, e⟩ := e; cases e; exact NoL.refl _
    · cases e
  | _ => cases e

/-! ### What o answers on good keys and heaps, q answers too -/
def GoodO (K : LB) (o q : Orc H) : Prop := ∀ key args h c df r, KeyOK K key → InvL K h → o key args h c df = some r → q key args h c df = some r ∧ InvL K r.h

section
variable {K : LB} {o q : Orc H}

theorem callV_good (hG : GoodO K o q) {h : H} {c : Nat} {fv : Value} {args : List Value} {r : Value × H × Nat} (hi : InvL K h) (e : callV o h c fv args = some r) : callV q h c fv args = some r ∧ InvL K r.2.1 := by
  cases fv with
  | func f first cap =>
    cases f with
    | func g =>
      simp only [callV, Option.bind_eq_some_iff] at e ⊢
      obtain ⟨x, hx, e⟩ := e
      obtain ⟨h1, h2⟩ := hG (.fn g) _ _ _ _ _ trivial hi hx
      refine ⟨⟨x, h1, e⟩, ?_⟩
      split at e
      · cases e; exact h2
      · cases e
    | yield l =>
      simp only [callV] at e ⊢
      obtain ⟨h0, e⟩ := cond_some e
      rw [h0]
      split at e
      · rename_i st hg
        obtain ⟨h1, e⟩ := cond_some e
        simp only [Option.bind_eq_some_iff] at e
        obtain ⟨x, hx, e⟩ := e
        obtain ⟨h2, h3⟩ := hG (.rnd _ _ _ _ _ _ _) _ _ _ _ _ (hi _ _ hg) hi hx
        simp only [h1, cond_true, Option.bind_eq_some_iff]
        refine ⟨⟨x, h2, e⟩, ?_⟩
        split at e
        · cases e; exact h3
        · cases e
      · cases e
    | _ => simp [callV] at e
  | _ => simp [callV] at e

theorem doOp_good (hG : GoodO K o q) {id : Nat} {tm : Tm} {h : H} {c : Nat} {op : Op} {r : Value × H × Nat} (hi : InvL K h) (e : doOp P o id tm h c op = some r) : doOp P q id tm h c op = some r ∧ InvL K r.2.1 := by
  cases op with
  | call k =>
    simp only [doOp, Option.bind_eq_some_iff] at e ⊢
    obtain ⟨args, ha, e⟩ := e
    cases hk : k.callee with
    | value f =>
      rw [hk] at e
      simp only [Option.bind_eq_some_iff] at e
      obtain ⟨fv, hf, e⟩ := e
      obtain ⟨h1, h2⟩ := callV_good hG hi e
      exact ⟨⟨args, ha, by simp only [hf, Option.bind_some]; exact h1⟩, h2⟩
    | builtin b =>
      rw [hk] at e
      refine ⟨⟨args, ha, e⟩, ?_⟩
      simp only [Option.bind_eq_some_iff] at e
      obtain ⟨x, hx, e⟩ := e
      cases e
      exact (NoL.builtin hx).inv hi
    | invoke _ _ => rw [hk] at e; cases e
  | _ => exact ⟨e, (doOp_noL (by intro k hk; cases hk) e).inv hi⟩

theorem stepOp_good (hG : GoodO K o q) {ops : Array Oper} {base i nt : Nat} {tm : Tm} {h : H} {c : Nat} {op : Oper} {r : Value × H × Nat} (hi : InvL K h) (e : stepOp P o ops base i nt tm h c op = some r) :
    stepOp P q ops base i nt tm h c op = some r ∧ InvL K r.2.1 := by
  simp only [stepOp, Option.bind_eq_some_iff] at e ⊢
  obtain ⟨w, hw, e⟩ := e
  obtain ⟨h0, e⟩ := cond_some e
  cases w with
  | true =>
    obtain ⟨h1, h2⟩ := doOp_good hG hi e
    exact ⟨⟨true, hw, by rw [h0]; exact h1⟩, h2⟩
  | false =>
    refine ⟨⟨false, hw, by rw [h0]; exact e⟩, ?_⟩
    cases e
    exact hi

theorem runOps_good (hG : GoodO K o q) {ops : Array Oper} {base nt : Nat} : ∀ {l : List Oper} {i : Nat} {tm : Tm} {h : H} {c : Nat} {r : Tm × H × Nat}, InvL K h → runOps P o ops base nt l i tm h c = some r →
    runOps P q ops base nt l i tm h c = some r ∧ InvL K r.2.1
  | [], i, tm, h, c, r, hi, e => ⟨e, by cases e; exact hi⟩
  | op :: l, i, tm, h, c, r, hi, e => by
    simp only [runOps, Option.bind_eq_some_iff] at e ⊢
    obtain ⟨x, hx, e⟩ := e
    obtain ⟨h1, h2⟩ := stepOp_good hG hi hx
    obtain ⟨h3, h4⟩ := runOps_good hG h2 e
    exact ⟨⟨x, h1, h3⟩, h4⟩

theorem runOpsT_good (hG : GoodO K o q) {ops : Array Oper} {base nt : Nat} : ∀ {l : List Oper} {i : Nat} {tm : Tm} {h : H} {c : Nat} {r : Tm × H × Nat × List (Option Nat × H)}, InvL K h →
    runOpsT P o ops base nt l i tm h c = some r → runOpsT P q ops base nt l i tm h c = some r ∧ InvL K r.2.1
  | [], i, tm, h, c, r, hi, e => ⟨e, by cases e; exact hi⟩
  | op :: l, i, tm, h, c, r, hi, e => by
    simp only [runOpsT, Option.bind_eq_some_iff] at e ⊢
    obtain ⟨x, hx, y, hy, e⟩ := e
    obtain ⟨h1, h2⟩ := stepOp_good hG hi hx
    obtain ⟨h3, h4⟩ := runOpsT_good hG h2 hy
    refine ⟨⟨x, h1, y, h3, e⟩, ?_⟩
    cases e
    exact h4

theorem runReg_good (hG : GoodO K o q) {ops : Array Oper} {draw : Bool} {nt : Nat} {tm : Tm} {h : H} {c : Nat} {r : Tm × H × Nat} (hi : InvL K h) (e : runReg P o ops draw nt tm h c = some r) :
    runReg P q ops draw nt tm h c = some r ∧ InvL K r.2.1 := by
  simp only [runReg] at e ⊢
  cases draw with
  | false => exact runOps_good hG hi e
  | true =>
    obtain ⟨h0, e⟩ := cond_some e
    simp only [cond_true, h0]
    cases h1 : (lws ops).isEmpty with
    | true => rw [h1] at e; exact runOps_good hG hi e
    | false =>
      rw [h1] at e
      simp only [cond_false, Option.bind_eq_some_iff] at e ⊢
      obtain ⟨x, hx, e⟩ := e
      obtain ⟨h2, h3⟩ := runOpsT_good hG hi hx
      refine ⟨⟨x, h2, e⟩, ?_⟩
      obtain ⟨_, e⟩ := cond_some e
      cases e
      exact h3

theorem disp_of {β γ : Type} {e : Ex} {f : Ex → Option β} {g : Ex → Option γ} {x : β} : ∀ {l : List Ex}, disp e f l = some x → f e = some x ∧ disp e g l = g e
  | [], h => by cases h
  | y :: l, h => by
    simp only [disp] at h ⊢
    cases hb : exIs e y with
    | true => rw [hb] at h; rw [exIs_eq hb]; exact ⟨h, rfl⟩
    | false => rw [hb] at h; exact disp_of h

theorem dispJ_of {β γ : Type} {r : Rt H} {f : Kx H β} {g : Kx H γ} {x : β} : ∀ {l : List (Ex × List Nat)}, dispJ r f l = some x → ∃ lay, f r.e (tmL lay r.vs) r.h r.c r.df = some x ∧ dispJ r g l = g r.e (tmL lay r.vs) r.h r.c r.df
  | [], h => by cases h
  | y :: l, h => by
    simp only [dispJ] at h ⊢
    cases hb : exIs r.e y.1 with
    | true => rw [hb] at h; refine ⟨y.2, ?_, ?_⟩ <;> rw [exIs_eq hb] <;> first | exact h | rfl
    | false => rw [hb] at h; exact dispJ_of h

theorem rangeV_good (hG : GoodO K o q) {nt : Nat} {rd : Option Nat} {lin : List Nat} {ps : Array Tmp} {a b : ACode} {fv : Value} {vs : List Value} {h : H} {c : Nat} {df : List Nat} {r : Ex × H × Nat × List Nat} (hi : InvL K h)
    (hk : K.rng nt ps.toList = some (lin, a, b)) (e : rangeV o nt rd lin [] ps a b fv vs h c df = some r) : rangeV q nt rd lin [] ps a b fv vs h c df = some r ∧ InvL K r.2.1 := by
  unfold rangeV at e ⊢
  split at e
  · rename_i g first cap
    simp only [Option.bind_eq_some_iff] at e ⊢
    obtain ⟨hd, hhd, x, hx, e⟩ := e
    have hi1 : InvL K hd.1 := by
      unfold enterDfr at hhd
      split at hhd
      · cases hhd; exact (NoL.set (fun st => by simp)).inv hi
      · split at hhd
        · cases hhd; exact hi
        · cases hhd
    have hi2 : InvL K (HeapC.set hd.1 (256 * c) (.loop { state := .ready, pending := none, nt := nt, vals := vs, lin := lin, fr := [], params := ps.toList, assign := a, body := b, dfr := hd.2 })) := by
      intro i st hst
      rw [HeapC.get_set] at hst
      split at hst
      · cases hst; exact ⟨rfl, hk⟩
      · exact hi1 i st hst
    obtain ⟨h1, h2⟩ := hG (.fn g) _ _ _ _ _ trivial hi2 hx
    refine ⟨⟨hd, hhd, x, h1, e⟩, ?_⟩
    split at e
    · rename_i st hg
      cases hb : decide (st.state = LoopState.busy) with
      | true => rw [hb] at e; cases e
      | false =>
        rw [hb] at e
        simp only [cond_false, Option.bind_eq_some_iff] at e
        obtain ⟨y, _, e⟩ := e
        cases e
        exact NoL.del.inv h2
    · cases e
  · cases e

theorem jx_good (hG : GoodO K o q) {nt : Nat} {rd : Option Nat} : ∀ {code : ACode}, CodeOK K nt code → ∀ {β : Type} {tm : Tm} {h : H} {c : Nat} {df : List Nat} {Kf : Kx H β} {x : β}, InvL K h → jx P o nt rd code tm h c df Kf = some x →
    ∃ e tm1 h1 c1 df1, Kf e tm1 h1 c1 df1 = some x ∧ InvL K h1 ∧ ∀ {γ : Type} (Kg : Kx H γ), jx P q nt rd code tm h c df Kg = Kg e tm1 h1 c1 df1 := by
  intro code
  induction code with
  | skip => intro _ β tm h c df Kf x hi e; exact ⟨_, _, _, _, _, e, hi, fun _ => rfl⟩
  | region id ops d =>
    intro _ β tm h c df Kf x hi e
    simp only [jx, regK_eq, Option.bind_eq_some_iff] at e
    obtain ⟨y, hy, e⟩ := e
    obtain ⟨h1, h2⟩ := runReg_good hG hi hy
    exact ⟨_, _, _, _, _, e, h2, fun Kg => by simp only [jx, regK_eq, h1, Option.bind_some]⟩
  | seq a b iha ihb =>
    intro hok β tm h c df Kf x hi e
    simp only [jx] at e
    obtain ⟨e1, tm1, h1, c1, df1, hk, hi1, hg⟩ := iha hok.1 hi e
    cases e1 with
    | normal =>
      obtain ⟨e2, tm2, h2, c2, df2, hk2, hi2, hg2⟩ := ihb hok.2 hi1 hk
      exact ⟨_, _, _, _, _, hk2, hi2, fun Kg => by simp only [jx]; rw [hg]; exact hg2 Kg⟩
    | exit i => exact ⟨_, _, _, _, _, hk, hi1, fun Kg => by simp only [jx]; rw [hg]⟩
    | ret => exact ⟨_, _, _, _, _, hk, hi1, fun Kg => by simp only [jx]; rw [hg]⟩
  | cond y a b iha ihb =>
    intro hok β tm h c df Kf x hi e
    simp only [jx, Option.bind_eq_some_iff] at e
    obtain ⟨v, hv, e⟩ := e
    split at e
    · rename_i t
      cases t
      · obtain ⟨e1, tm1, h1, c1, df1, hk, hi1, hg⟩ := ihb hok.2 hi e
        exact ⟨_, _, _, _, _, hk, hi1, fun Kg => by simp only [jx, hv, Option.bind_some, cond_false]; exact hg Kg⟩
      · obtain ⟨e1, tm1, h1, c1, df1, hk, hi1, hg⟩ := iha hok.1 hi e
        exact ⟨_, _, _, _, _, hk, hi1, fun Kg => by simp only [jx, hv, Option.bind_some, cond_true]; exact hg Kg⟩
    · cases e
  | block id a ih =>
    intro hok β tm h c df Kf x hi e
    simp only [jx] at e
    obtain ⟨e1, tm1, h1, c1, df1, hk, hi1, hg⟩ := ih hok hi e
    cases e1 with
    | normal => exact ⟨_, _, _, _, _, hk, hi1, fun Kg => by simp only [jx]; rw [hg]⟩
    | exit i =>
      cases hb : Nat.beq i id with
      | true => simp only [hb] at hk; exact ⟨_, _, _, _, _, hk, hi1, fun Kg => by simp only [jx]; rw [hg]; simp only [hb, cond_true]⟩
      | false => simp only [hb] at hk; exact ⟨_, _, _, _, _, hk, hi1, fun Kg => by simp only [jx]; rw [hg]; simp only [hb, cond_false]⟩
    | ret => exact ⟨_, _, _, _, _, hk, hi1, fun Kg => by simp only [jx]; rw [hg]⟩
  | loop j lin fr outs b _ =>
    intro hok β tm h c df Kf x hi e
    simp only [jx, Option.bind_eq_some_iff] at e
    obtain ⟨vs, hv, r, hr, e⟩ := e
    obtain ⟨h1, h2⟩ := hG (.lp j lin fr b nt rd) _ _ _ _ _ hok hi hr
    refine ⟨r.e, tmL lin r.vs, r.h, r.c, r.df, ?_, h2, fun {γ} Kg => ?_⟩
    · exact (disp_of (γ := β) (g := fun _ => none) e).1
    · simp only [jx, hv, Option.bind_some, h1]
      exact (disp_of (g := fun e => Kg e (tmL lin r.vs) r.h r.c r.df) e).2
  | rangeFunc j lin fr outs f ps a b _ _ =>
    intro hok β tm h c df Kf x hi e
    obtain ⟨rfl, hk⟩ := hok
    simp only [jx, Option.bind_eq_some_iff] at e
    obtain ⟨fv, hf, vs, hv, r, hr, e⟩ := e
    obtain ⟨h1, h2⟩ := rangeV_good hG hi hk hr
    refine ⟨r.1, tm, r.2.1, r.2.2.1, r.2.2.2, ?_, h2, fun {γ} Kg => ?_⟩
    · exact (disp_of (γ := β) (g := fun _ => none) e).1
    · simp only [jx, hf, hv, Option.bind_some, h1]
      exact (disp_of (g := fun e => Kg e tm r.2.1 r.2.2.1 r.2.2.2) e).2
  | exit id => intro _ β tm h c df Kf x hi e; exact ⟨_, _, _, _, _, e, hi, fun _ => rfl⟩
  | ret => intro _ β tm h c df Kf x hi e; exact ⟨_, _, _, _, _, e, hi, fun _ => rfl⟩
  | bad _ => intro _ β tm h c df Kf x hi e; cases e
  | join lays a ih =>
    intro hok β tm h c df Kf x hi e
    simp only [jx, Option.bind_eq_some_iff] at e
    obtain ⟨r, hr, e⟩ := e
    obtain ⟨e1, tm1, h1, c1, df1, hk, hi1, hg⟩ := ih hok hi hr
    have hk' := hk
    simp only [Option.bind_eq_some_iff] at hk'
    obtain ⟨l, hl, vs, hvs, hk'⟩ := hk'
    cases hk'
    refine ⟨e1, tmL l vs, h1, c1, df1, ?_, hi1, fun {γ} Kg => ?_⟩
    · obtain ⟨lay, h3, h4⟩ := dispJ_some e
      simp only at h3 h4
      rw [hl] at h3
      cases h3
      exact h4
    · simp only [jx]
      rw [hg]
      simp only [hl, hvs, Option.bind_some]
      obtain ⟨lay, h3, h4⟩ := dispJ_some e
      simp only at h3 h4
      rw [hl] at h3
      cases h3
      clear hg hk hr h4
      -- the same road for Kg
      have : ∀ {ls : List (Ex × List Nat)} {l : List Nat}, layF e1 ls = some l → dispJ ({ e := e1, vs := vs, h := h1, c := c1, df := df1 } : Rt H) Kg ls = Kg e1 (tmL l vs) h1 c1 df1 := by
        intro ls
        induction ls with
        | nil => intro l h; cases h
        | cons y ls ih2 =>
          intro l h
          simp only [layF] at h
          simp only [dispJ]
          cases hb : exIs e1 y.1 with
          | true => rw [hb] at h; cases h; rw [exIs_eq hb]; rfl
          | false => rw [hb] at h; exact ih2 h
      exact this hl
end

/-! ### Tables -/
structure Tab (H : Type) where
  F : FuncId → Option (Orc H → List Value → H → Nat → Option (Rt H))
  L : Nat → Option (Orc H → Option Nat → List Value → H → Nat → List Nat → Option (Rt H))
  R : Nat → List Nat → Option (Orc H → Nat → List Value → H → Nat → Option (Rt H))

noncomputable def evT (T : Tab H) (n : Nat) : Orc H :=
  Nat.rec (motive := fun _ => Orc H) (fun _ _ _ _ _ => none)
    (fun _ o key args h c df => Key.rec (motive := fun _ => Option (Rt H))
      (fun f => (T.F f).bind fun F => F o args h c)
      (fun j lin fr b nt rd => (T.L j).bind fun B => (B o rd args h c df).bind fun q =>
        match q.e with
        | .normal => o (.lp j lin fr b nt rd) q.vs q.h q.c q.df
        | .exit i => some { q with e := .exit i }
        | .ret => some { q with e := .ret })
      (fun nt _ _ params l _ _ => (T.R nt params).bind fun D => D o l args h c) key) n
theorem evT_succ (T : Tab H) (n : Nat) (key : Key) (args : List Value) (h : H) (c : Nat) (df : List Nat) : evT T (n + 1) key args h c df =
    match key with
    | .fn f => (T.F f).bind fun F => F (evT T n) args h c
    | .lp j lin fr b nt rd => (T.L j).bind fun B => (B (evT T n) rd args h c df).bind fun q =>
        match q.e with
        | .normal => evT T n (.lp j lin fr b nt rd) q.vs q.h q.c q.df
        | .exit i => some { q with e := .exit i }
        | .ret => some { q with e := .ret }
    | .rnd nt _ _ params l _ _ => (T.R nt params).bind fun D => D (evT T n) l args h c := by
  cases key <;> rfl

structure TabOK (P : Program) (bk : FuncId → Option AFun) (K : LB) (T : Tab H) : Prop where
  F : ∀ f F, T.F f = some F → ∃ a, bk f = some a ∧ a.fr = [] ∧ CodeOK K a.nt a.code ∧ ∀ o args h c r, F o args h c = some r →
    Nat.ble args.length a.nt = true ∧ jx P o a.nt none a.code (tmOf (List.range args.length) args) h c [] (Kfn P a.res) = some r
  L : ∀ j B lin b nt, T.L j = some B → K.loop j = some (lin, b, nt) → CodeOK K nt b ∧ ∀ o rd vs h c df q, B o rd vs h c df = some q → jx P o nt rd b (tmOf lin vs) h c df (Klp lin) = some q
  R : ∀ nt ps D lin a b, T.R nt ps = some D → K.rng nt ps = some (lin, a, b) → CodeOK K nt a ∧ CodeOK K nt b ∧ ∀ o l vs h c r, D o l vs h c = some r →
    jx P o nt (some l) a (tmOf (ps ++ lin) vs) h c [] (rndK P o nt l b) = some r

theorem Kfn_inv {K : LB} {res : List ResultVar} {e : Ex} {tm : Tm} {h : H} {c : Nat} {df : List Nat} {r : Rt H} (hi : InvL K h) (hk : Kfn P res e tm h c df = some r) : InvL K r.h := by
  have tk : ∀ (ds : List Nat) (h h1 : H), takeAll h ds = some h1 → NoL h h1 := by
    intro ds
    induction ds with
    | nil => intro h h1 e; cases e; exact NoL.refl _
    | cons d ds ih =>
      intro h h1 e
      simp only [takeAll] at e
      split at e
      · exact NoL.del.trans (ih _ _ e)
      · cases e
  cases e with
  | exit i => cases hk
  | normal =>
    simp only [Kfn, resK_eq, Option.bind_eq_some_iff] at hk
    obtain ⟨h1, ht, vs, _, hk⟩ := hk
    cases hk
    exact (tk _ _ _ ht).inv hi
  | ret =>
    simp only [Kfn, resK_eq, Option.bind_eq_some_iff] at hk
    obtain ⟨h1, ht, vs, _, hk⟩ := hk
    cases hk
    exact (tk _ _ _ ht).inv hi

theorem setState_inv {K : LB} {h h' : H} {l : Nat} {s : LoopState} {pd : Option Code} (hi : InvL K h) (e : setState h l s pd = some h') : InvL K h' := by
  unfold setState at e
  split at e
  · rename_i st hg
    cases e
    intro i st' h'
    rw [HeapC.get_set] at h'
    split at h'
    · cases h'; exact hi l st hg
    · exact hi _ _ h'
  · cases e

theorem beginSt_inv {K : LB} {h h' : H} {l : Nat} (hi : InvL K h) (e : beginSt h l = some h') : InvL K h' := by
  unfold beginSt at e
  split at e
  · rename_i st hg
    obtain ⟨_, e⟩ := cond_some e
    cases e
    intro i st' h'
    rw [HeapC.get_set] at h'
    split at h'
    · cases h'; exact hi l st hg
    · exact hi _ _ h'
  · cases e

theorem evT_good {bk : FuncId → Option AFun} {K : LB} {T : Tab H} (hT : TabOK P bk K T) : ∀ n, GoodO K (evT T n) (run P bk)
  | 0 => fun _ _ _ _ _ _ _ _ e => by cases e
  | n + 1 => by
    have ih := evT_good hT n
    intro key args h c df r hk hi e
    cases key with
    | fn f =>
      simp only [evT_succ, Option.bind_eq_some_iff] at e
      obtain ⟨F, hF, e⟩ := e
      obtain ⟨a, ha, hfr, hok, h1⟩ := hT.F f F hF
      obtain ⟨hlen, h2⟩ := h1 _ _ _ _ _ e
      obtain ⟨e1, tm1, h3, c1, df1, h4, h5, h6⟩ := jx_good ih hok hi h2
      exact ⟨run_fn ha hfr hlen (by rw [h6]; exact h4), Kfn_inv h5 h4⟩
    | lp j lin fr b nt rd =>
      obtain ⟨rfl, hkl⟩ := hk
      simp only [evT_succ, Option.bind_eq_some_iff] at e
      obtain ⟨B, hB, q, hq, e⟩ := e
      obtain ⟨hok, h1⟩ := hT.L j B lin b nt hB hkl
      have h2 := h1 _ _ _ _ _ _ _ hq
      obtain ⟨e1, tm1, h3, c1, df1, h4, h5, h6⟩ := jx_good ih hok hi h2
      have h7 : jx P (run P bk) nt rd b (tmOf lin args) h c df (Klp lin) = some q := by rw [h6]; exact h4
      have hqe : q.e = e1 ∧ InvL K q.h := by
        simp only [Klp, Option.bind_eq_some_iff] at h4
        obtain ⟨ws, _, h4⟩ := h4
        cases h4
        exact ⟨rfl, h5⟩
      cases hx : q.e with
      | normal =>
        rw [hx] at e
        obtain ⟨h8, h9⟩ := ih (.lp j lin [] b nt rd) _ _ _ _ _ ⟨rfl, hkl⟩ hqe.2 e
        exact ⟨run_lp_next h7 hx h8, h9⟩
      | exit i =>
        rw [hx] at e
        have : r = q := by obtain ⟨qe, qv, qh, qc, qd⟩ := q; simp only at hx; subst hx; cases e; rfl
        subst this
        exact ⟨run_lp_last h7 (by rw [hx]; simp), hqe.2⟩
      | ret =>
        rw [hx] at e
        have : r = q := by obtain ⟨qe, qv, qh, qc, qd⟩ := q; simp only at hx; subst hx; cases e; rfl
        subst this
        exact ⟨run_lp_last h7 (by rw [hx]; simp), hqe.2⟩
    | rnd nt lin fr params l a b =>
      obtain ⟨rfl, hkr⟩ := hk
      simp only [evT_succ, Option.bind_eq_some_iff] at e
      obtain ⟨D, hD, e⟩ := e
      obtain ⟨hoa, hob, h1⟩ := hT.R nt params D lin a b hD hkr
      have h2 := h1 _ _ _ _ _ _ e
      obtain ⟨e1, tm1, h3, c1, df1, h4, h5, h6⟩ := jx_good ih hoa hi h2
      cases e1 with
      | exit i => cases h4
      | ret => cases h4
      | normal =>
        simp only [rndK, Option.bind_eq_some_iff] at h4
        obtain ⟨h7, hb, h8⟩ := h4
        obtain ⟨e2, tm2, h9, c2, df2, h10, h11, h12⟩ := jx_good ih hob (beginSt_inv h5 hb) h8
        refine ⟨run_rnd (by rw [h6]; simp only [hb, Option.bind_some]; rw [h12]; exact h10), ?_⟩
        simp only [Krd, Option.bind_eq_some_iff] at h10
        obtain ⟨h13, hs, h14⟩ := h10
        obtain ⟨_, h14⟩ := cond_some h14
        cases h14
        exact setState_inv h11 hs

/-! ### Tables as trees -/
inductive BT (α : Type) where
  | leaf
  | node (k : Nat) (v : α) (l r : BT α)

noncomputable def BT.look {α : Type} (t : BT α) (f : Nat) : Option α :=
  BT.rec (motive := fun _ => Option α) none (fun k v _ _ l r => cond (Nat.beq f k) (some v) (cond (Nat.blt f k) l r)) t
theorem BT.look_node {α : Type} (k : Nat) (v : α) (l r : BT α) (f : Nat) : (BT.node k v l r).look f = cond (Nat.beq f k) (some v) (cond (Nat.blt f k) (l.look f) (r.look f)) := rfl

def BT.All {α : Type} (Q : Nat → α → Prop) : BT α → Prop
  | .leaf => True
  | .node k v l r => Q k v ∧ l.All Q ∧ r.All Q

theorem BT.look_all {α : Type} {Q : Nat → α → Prop} : ∀ {t : BT α}, t.All Q → ∀ {f : Nat} {v : α}, t.look f = some v → Q f v
  | .leaf, _, f, v, e => by cases e
  | .node k w l r, h, f, v, e => by
    rw [BT.look_node] at e
    cases hb : Nat.beq f k with
    | true => rw [hb] at e; cases e; rw [Nat.eq_of_beq_eq_true hb]; exact h.1
    | false =>
      rw [hb] at e
      cases hc : Nat.blt f k with
      | true => rw [hc] at e; exact look_all h.2.1 e
      | false => rw [hc] at e; exact look_all h.2.2 e

def nlEq : List Nat → List Nat → Bool
  | [], [] => true
  | x :: xs, y :: ys => cond (Nat.beq x y) (nlEq xs ys) false
  | _, _ => false

theorem nlEq_eq : ∀ {a b : List Nat}, nlEq a b = true → a = b
  | [], [], _ => rfl
  | x :: xs, y :: ys, h => by
    simp only [nlEq] at h
    cases hb : Nat.beq x y with
    | true => rw [hb] at h; rw [Nat.eq_of_beq_eq_true hb, nlEq_eq h]
    | false => rw [hb] at h; cases h
  | [], y :: ys, h => by cases h
  | x :: xs, [], h => by cases h

def lookR {α : Type} (nt : Nat) (ps : List Nat) : List (Nat × List Nat × α) → Option α
  | [] => none
  | x :: xs => cond (cond (Nat.beq nt x.1) (nlEq ps x.2.1) false) (some x.2.2) (lookR nt ps xs)

def AllR {α : Type} (Q : Nat → List Nat → α → Prop) : List (Nat × List Nat × α) → Prop
  | [] => True
  | x :: xs => Q x.1 x.2.1 x.2.2 ∧ AllR Q xs

theorem lookR_all {α : Type} {Q : Nat → List Nat → α → Prop} {nt : Nat} {ps : List Nat} : ∀ {l : List (Nat × List Nat × α)}, AllR Q l → ∀ {v : α}, lookR nt ps l = some v → Q nt ps v
  | [], _, v, e => by cases e
  | x :: xs, h, v, e => by
    simp only [lookR] at e
    cases hb : cond (Nat.beq nt x.1) (nlEq ps x.2.1) false with
    | false => rw [hb] at e; exact lookR_all h.2 e
    | true =>
      rw [hb] at e
      cases e
      cases hc : Nat.beq nt x.1 with
      | false => rw [hc] at hb; cases hb
      | true => rw [hc] at hb; rw [Nat.eq_of_beq_eq_true hc, nlEq_eq hb]; exact h.1

/-- what an entry of the book is -/
def EntOK (P : Program) (f : FuncId) (a : AFun) : Prop :=
  ∃ fn c, P.funcs[f]? = some fn ∧ fn.body = some c ∧ (fn.name == "runtime.NumGoroutine") = false ∧ strip a.code = c ∧ a.nt = fn.ntmps ∧ a.res = fn.results.toList

def FE (P : Program) (bk : FuncId → Option AFun) (K : LB) (f : FuncId) (F : Orc H → List Value → H → Nat → Option (Rt H)) : Prop :=
  ∃ a, bk f = some a ∧ a.fr = [] ∧ CodeOK K a.nt a.code ∧ ∀ o args h c r, F o args h c = some r →
    Nat.ble args.length a.nt = true ∧ jx P o a.nt none a.code (tmOf (List.range args.length) args) h c [] (Kfn P a.res) = some r

def LE (P : Program) (K : LB) (j : Nat) (B : Orc H → Option Nat → List Value → H → Nat → List Nat → Option (Rt H)) : Prop :=
  ∀ lin b nt, K.loop j = some (lin, b, nt) → CodeOK K nt b ∧ ∀ o rd vs h c df q, B o rd vs h c df = some q → jx P o nt rd b (tmOf lin vs) h c df (Klp lin) = some q

def RE (P : Program) (K : LB) (nt : Nat) (ps : List Nat) (D : Orc H → Nat → List Value → H → Nat → Option (Rt H)) : Prop :=
  ∀ lin a b, K.rng nt ps = some (lin, a, b) → CodeOK K nt a ∧ CodeOK K nt b ∧ ∀ o l vs h c r, D o l vs h c = some r → jx P o nt (some l) a (tmOf (ps ++ lin) vs) h c [] (rndK P o nt l b) = some r

end Go.Ab

/-! The machine without fuel, that forgets what a call or a round has laid and nobody names. -/
namespace Go.Ab
open Go
set_option linter.unusedVariables false
set_option linter.unusedSimpArgs false

variable {P : Program}

/-- all blocks below the counter, as they are -/
noncomputable def nuD (c : Nat) : Mu := fun i => if i < 256 * c then some ⟨i, 0, none⟩ else none

theorem nuD_of {c i : Nat} (h : i < 256 * c) : nuD c i = some ⟨i, 0, none⟩ := by simp [nuD, h]
theorem nuD_dom {c i : Nat} (h : nuD c i ≠ none) : i < 256 * c := by
  unfold nuD at h
  split at h
  · assumption
  · exact absurd rfl h

/-- the value names no block from the counter on -/
def OkV (c : Nat) (v : Value) : Prop := ∃ v', VR (nuD c) v v'

theorem OkV.bool (c : Nat) (b : Bool) : OkV c (.bool b) := ⟨_, .bool b⟩
theorem OkV.int (c : Nat) (k : IntKind) (n : Int) : OkV c (.int k n) := ⟨_, .int k n⟩
theorem OkV.str (c : Nat) (s : ByteArray) : OkV c (.string s) := ⟨_, .str s⟩
theorem OkV.ptr0 (c : Nat) : OkV c (.pointer none) := ⟨_, .ptr0⟩
theorem OkV.ptr {c i o : Nat} (h : i < 256 * c) : OkV c (.pointer (some ⟨i, o, none⟩)) := ⟨_, .ptr (nuD_of h)⟩
theorem OkV.ptrTo {c i : Nat} (h : i < 256 * c) : OkV c (ptrTo i) := ⟨_, .ptr (nuD_of h)⟩
theorem OkV.sl0 (c l k : Nat) : OkV c (.slice none l k) := ⟨_, .sl0 l k⟩
theorem OkV.sl {c i o l k : Nat} (h : i < 256 * c) : OkV c (.slice (some ⟨i, o, none⟩) l k) := ⟨_, .sl (nuD_of h) (Nat.le_refl _) (.inl rfl)⟩
theorem OkV.map0 (c : Nat) : OkV c (.map none) := ⟨_, .map0⟩
theorem OkV.map {c i : Nat} (h : i < 256 * c) : OkV c (.map (some i)) := ⟨_, .map (nuD_of h)⟩
theorem OkV.nilFunc (c : Nat) : OkV c .nilFunc := ⟨_, .nilFunc⟩
theorem OkV.yield {c l : Nat} (h : l < 256 * c) : OkV c (.func (.yield l) #[] #[]) := ⟨_, .yield (nuD_of h)⟩

def OkVs (c : Nat) (vs : List Value) : Prop := ∀ v ∈ vs, OkV c v

theorem OkVs.nil (c : Nat) : OkVs c [] := fun _ h => by cases h
theorem OkVs.cons {c : Nat} {v : Value} {vs : List Value} (h : OkV c v) (hs : OkVs c vs) : OkVs c (v :: vs) := by
  intro x hx
  rcases List.mem_cons.1 hx with rfl | hx
  · exact h
  · exact hs x hx
theorem OkVs.cons_iff {c : Nat} {v : Value} {vs : List Value} : OkVs c (v :: vs) ↔ OkV c v ∧ OkVs c vs :=
  ⟨fun h => ⟨h v (by simp), fun x hx => h x (by simp [hx])⟩, fun h => OkVs.cons h.1 h.2⟩
theorem OkVs.vrs {c : Nat} : ∀ {vs : List Value}, OkVs c vs → ∃ ws, VRs (nuD c) vs ws
  | [], _ => ⟨[], VRs.nil _⟩
  | v :: vs, h => by
    obtain ⟨v', h1⟩ := h v (by simp)
    obtain ⟨ws, h2⟩ := OkVs.vrs (vs := vs) (fun x hx => h x (by simp [hx]))
    exact ⟨v' :: ws, VRs.cons h1 h2⟩
theorem OkV.agg {c : Nat} {l : List Value} (h : OkVs c l) : OkV c (.agg l.toArray) := by
  obtain ⟨ws, h1⟩ := h.vrs
  exact ⟨.agg ws.toArray, VR.agg_iff.2 (by simpa using h1)⟩
theorem OkV.agg_iff {c : Nat} {l : List Value} : OkV c (.agg l.toArray) ↔ OkVs c l := by
  refine ⟨fun h => ?_, OkV.agg⟩
  obtain ⟨v', hv⟩ := h
  cases hv with
  | @agg _ ys hs g =>
    intro x hx
    obtain ⟨k, hk⟩ := List.getElem?_of_mem hx
    have hl : k < ys.size := by
      have := (List.getElem?_eq_some_iff.1 hk).1
      simp at hs; omega
    exact ⟨_, g k x ys[k] (by simpa using hk) (Array.getElem?_eq_getElem hl)⟩

def OkB (c : Nat) : Option ABlk → Prop
  | some (.cells _ _ cs) => OkVs c cs
  | some (.map es) => ∀ e ∈ es, OkV c e.1 ∧ OkV c e.2
  | some (.loop a) => OkVs c a.vals ∧ a.dfr < 256 * c
  | _ => True

/-- below the counter: old, or naming nothing new -/
def GcH (c : Nat) (h A : FH) : Prop := ∀ i, i < 256 * c → h.f i = A.f i ∨ OkB c (h.f i)

noncomputable def mrg (c : Nat) (h A : FH) : FH := ⟨fun i => if i < 256 * c then h.f i else A.f i⟩

def GcOk (A : FH) (c : Nat) (df : List Nat) (r : Rt FH) : Prop := OkVs c r.vs ∧ r.df = df ∧ GcH c r.h A

open Classical in
noncomputable def gcR (A : FH) (c : Nat) (df : List Nat) (r : Rt FH) : Rt FH :=
  if GcOk A c df r then { e := r.e, vs := r.vs, h := mrg c r.h A, c := c, df := df } else r

theorem gcR_of {A : FH} {c : Nat} {df : List Nat} {e : Ex} {vs : List Value} {h : FH} {c' : Nat} (h1 : OkVs c vs) (h2 : GcH c h A) : gcR A c df { e := e, vs := vs, h := h, c := c', df := df } = { e := e, vs := vs, h := mrg c h A, c := c, df := df } := by
  unfold gcR
  rw [if_pos ⟨h1, rfl, h2⟩]

theorem gcR_e {A : FH} {c : Nat} {df : List Nat} {r : Rt FH} : (gcR A c df r).e = r.e := by unfold gcR; split <;> rfl
theorem gcR_vs {A : FH} {c : Nat} {df : List Nat} {r : Rt FH} : (gcR A c df r).vs = r.vs := by unfold gcR; split <;> rfl
theorem gcR_df {A : FH} {c : Nat} {df : List Nat} {r : Rt FH} : (gcR A c df r).df = r.df := by
  unfold gcR
  split
  · rename_i h; exact h.2.1.symm
  · rfl

theorem OkV.on {c : Nat} {μ : Mu} {v v' : Value} (h : VR μ v v') (hv : OkV c v) : VR (μ.on (fun i => i < 256 * c)) v v' :=
  let ⟨_, k⟩ := hv; h.on (fun i => nuD_dom) k

theorem OkB.on {c : Nat} {μ : Mu} {m : ME} {hp : Array Obj} {b : Option ABlk} (h : BlkR μ m hp b) (hb : OkB c b) : BlkR (μ.on (fun i => i < 256 * c)) m hp b := by
  unfold BlkR at h ⊢
  unfold OkB at hb
  split at h
  · rename_i ro opn cs
    obtain ⟨C, E, fr, h1, h2, h3, h4⟩ := h
    refine ⟨C, E, fr, h1, fun k x hx => ?_, h3, h4⟩
    obtain ⟨y, h5, h6⟩ := h2 k x hx
    exact ⟨y, h5, (hb x (List.mem_of_getElem? hx)).on h6⟩
  · rename_i es
    obtain ⟨es', clk, h1, h2, h3⟩ := h
    refine ⟨es', clk, h1, h2, fun k x y hx hy => ?_⟩
    have a := h3 k x y hx hy
    have b := hb x (List.mem_of_getElem? hx)
    exact ⟨b.1.on a.1, b.2.on a.2⟩
  · rename_i a
    obtain ⟨r, h1, h2⟩ := h
    refine ⟨r, h1, ⟨h2.state, h2.pending, h2.params, h2.assign, h2.body, h2.size, fun t v e => ?_, ?_⟩⟩
    · obtain ⟨v', h3, h4⟩ := h2.vals t v e
      have hmem : ∀ (l : List Nat) (vs : List Value), tmOf l vs t = some v → v ∈ vs := by
        intro l
        induction l with
        | nil => intro vs h; simp [tmOf] at h
        | cons x l ih =>
          intro vs h
          cases vs with
          | nil => simp [tmOf] at h
          | cons u vs =>
            simp only [tmOf] at h
            cases hq : Nat.beq t x with
            | true => rw [hq] at h; cases h; simp
            | false => rw [hq] at h; simp [ih vs h]
      exact ⟨v', h3, (hb.1 v (hmem _ _ e)).on h4⟩
    · obtain ⟨m1, h3, h4⟩ := h2.dfr
      exact ⟨m1, by rw [Mu.on_of (D := fun i => i < 256 * c) hb.2]; exact h3, h4⟩
  · exact h
  · trivial
  · trivial

/-- **What is forgotten does not matter.** -/
theorem gcExt {μ μ' : Mu} {A h : FH} {c c' : Nat} {w w' : World} (hE : Ext μ A c w (fun _ => False) μ' h c' w') (hR : R μ A w) (hf : Fresh μ c) (hg : GcH c h A) :
    Ext μ A c w (fun _ => False) (μ'.on (fun i => i < 256 * c)) (mrg c h A) c w' := by
  have lt : ∀ {i : Nat} {m : ME}, μ i = some m → i < 256 * c := fun {i m} e => by
    by_cases hi : i < 256 * c
    · exact hi
    · rw [hf i (by omega)] at e; cases e
  have old : ∀ {i : Nat} {m : ME}, μ'.on (fun i => i < 256 * c) i = some m → i < 256 * c ∧ μ' i = some m ∧ μ i = some m := fun {i m} e => by
    obtain ⟨h1, h2⟩ := Mu.on_some e
    refine ⟨h1, h2, ?_⟩
    cases e0 : μ i with
    | none =>
      rcases hE.new i e0 (by rw [h2]; simp) with a | ⟨a, _⟩
      · exact a.elim
      · omega
    | some m0 => rw [← hE.mu i m0 e0, h2]
  have gm : ∀ {i : Nat}, i < 256 * c → HeapC.get (mrg c h A) i = HeapC.get h i := fun {i} hi => by show (mrg c h A).f i = h.f i; simp [mrg, hi]
  refine { mu := fun i m e => ?_, new := fun i e0 e1 => ?_, cle := Nat.le_refl _, rel := ?_, af := fun i e0 hi _ => ?_, os := hE.os, tape := hE.tape, output := hE.output, size := hE.size, fr := hE.fr, wrm := fun i m e hw => ?_, newb := fun i m e0 e1 => ?_, dd := fun i m e hd => ?_ }
  · rw [Mu.on_of (D := fun i => i < 256 * c) (lt e)]; exact hE.mu i m e
  · cases e2 : μ'.on (fun i => i < 256 * c) i with
    | none => exact absurd e2 e1
    | some m => rw [(old e2).2.2] at e0; cases e0
  · refine ⟨fun i m e => ?_, fun i j mi mj ei ej hne di dj hro => ?_, fun i m e => hE.rel.lt i m (old e).2.1⟩
    · obtain ⟨h1, h2, h3⟩ := old e
      rw [gm h1]
      have hb := hE.rel.blk i m h2
      rcases hg i h1 with a | a
      · have hb' := hR.blk i m h3
        have ha : HeapC.get h i = HeapC.get A i := a
        rw [ha] at hb ⊢
        exact hb.onS ⟨μ, m, w.heap, hb', fun j hj => by
          cases ej : μ j with
          | none => exact absurd ej hj
          | some mj => exact lt ej⟩
      · exact OkB.on hb a
    · obtain ⟨i1, i2, i3⟩ := old ei
      obtain ⟨j1, j2, j3⟩ := old ej
      rw [gm i1] at di hro
      rw [gm j1] at dj hro
      exact hE.rel.inj i j mi mj i2 j2 hne di dj hro
  · rw [gm hi]; exact hE.af i e0 hi (fun h => h)
  · rw [gm (lt e)] at hw; exact hE.wrm i m e hw
  · rw [(old e1).2.2] at e0; cases e0
  · rw [gm (lt e)]; exact hE.dd i m e hd

theorem gcCall {μ : Mu} {A : FH} {c : Nat} {w w' : World} {r : Rt FH} {e : Ending} (hR : R μ A w) (hf : Fresh μ c) (h : CallR μ A c w r e w') : CallR μ A c w (gcR A c [] r) e w' := by
  unfold gcR
  split
  · rename_i hg
    obtain ⟨v, v', μ', h1, h2, h3, h4⟩ := h
    refine ⟨v, v', _, h1, h2, ?_, gcExt h4 hR hf hg.2.2⟩
    exact (hg.1 v (by rw [h1]; simp)).on h3
  · exact h

/-- what is forgotten at this key -/
noncomputable def gcS (sel : Key → Bool) (k : Key) (A : FH) (c : Nat) (df : List Nat) (r : Rt FH) : Rt FH := cond (sel k) (gcR A c df r) r

theorem gcS_e {sel : Key → Bool} {k : Key} {A : FH} {c : Nat} {df : List Nat} {r : Rt FH} : (gcS sel k A c df r).e = r.e := by unfold gcS; cases sel k <;> first | rfl | exact gcR_e
theorem gcS_vs {sel : Key → Bool} {k : Key} {A : FH} {c : Nat} {df : List Nat} {r : Rt FH} : (gcS sel k A c df r).vs = r.vs := by unfold gcS; cases sel k <;> first | rfl | exact gcR_vs
theorem gcS_df {sel : Key → Bool} {k : Key} {A : FH} {c : Nat} {df : List Nat} {r : Rt FH} : (gcS sel k A c df r).df = r.df := by unfold gcS; cases sel k <;> first | rfl | exact gcR_df
theorem gcSCall {sel : Key → Bool} {k : Key} {μ : Mu} {A : FH} {c : Nat} {w w' : World} {r : Rt FH} {e : Ending} (hR : R μ A w) (hf : Fresh μ c) (h : CallR μ A c w r e w') : CallR μ A c w (gcS sel k A c [] r) e w' := by
  unfold gcS
  cases sel k with
  | true => exact gcCall hR hf h
  | false => exact h

/-! ### The oracle -/
abbrev Fo (H : Type) := FuncId → List Value → H → Nat → Option (Rt H)

/-- What a table of calls is good for. -/
def FnOK (P : Program) (oc : Fo FH) : Prop :=
  ∀ (f : FuncId) (args : List Value) (A : FH) (c : Nat) (r : Rt FH), oc f args A c = some r →
    (∀ avs w, (callFunc f avs).run P w = .ok (.enter f avs) w) ∧
    ∀ (μ : Mu) (w : World) (args' : List Value), VRs μ args args' → R μ A w → Fresh μ c → Calls P f args'.toArray w (CallR μ A c w r)

noncomputable def answerG (P : Program) (bk : FuncId → Option AFun) (sel : Key → Bool) (ext : Fo FH) (o : Orc FH) : Orc FH
  | .fn f, args, h, c, df =>
    match ext f args h c with
    | some r => some r
    | none => (answer P bk o (.fn f) args h c df).bind fun r => some (gcS sel (.fn f) h c [] r)
  | .lp j lin fr b nt rd, vs, h, c, df =>
      (exec P o b { tm := tmOf lin vs, h := h, c := c, nt := nt, df := df, rd := rd }).bind fun r =>
        (vals r.2.tm lin).bind fun vs' =>
          match r.1 with
          | .normal => o (.lp j lin fr b nt rd) vs' (gcS sel (.lp j lin fr b nt rd) h c df { e := .normal, vs := vs', h := dropBs r.2.tm r.2.h fr, c := r.2.c, df := r.2.df }).h (gcS sel (.lp j lin fr b nt rd) h c df { e := .normal, vs := vs', h := dropBs r.2.tm r.2.h fr, c := r.2.c, df := r.2.df }).c r.2.df
          | e => some (gcS sel (.lp j lin fr b nt rd) h c df { e := e, vs := vs', h := dropBs r.2.tm r.2.h fr, c := r.2.c, df := r.2.df })
  | .rnd nt lin fr params l a b, vs, h, c, df => (answer P bk o (.rnd nt lin fr params l a b) vs h c df).bind fun r => some (gcS sel (.rnd nt lin fr params l a b) h c [] r)

theorem tmOf_val {t : Nat} {v : Value} : ∀ {l : List Nat} {vs : List Value}, tmOf l vs t = some v → v ∈ vs
  | [], vs, h => by simp [tmOf] at h
  | x :: l, [], h => by simp [tmOf] at h
  | x :: l, u :: vs, h => by
    simp only [tmOf] at h
    cases hq : Nat.beq t x with
    | true => rw [hq] at h; cases h; simp
    | false => rw [hq] at h; simp [tmOf_val h]

theorem DfR.lt {μ : Mu} {c : Nat} (hf : Fresh μ c) {ds : List Nat} {es : List Deferred} (h : DfR μ ds es) : ∀ i ∈ ds, i < 256 * c := by
  induction h with
  | nil => intro i hi; cases hi
  | @cons i m d ds es hm ht hs ih =>
    intro j hj
    rcases List.mem_cons.1 hj with rfl | hj
    · by_cases hi : j < 256 * c
      · exact hi
      · rw [hf j (by omega)] at hm; cases hm
    · exact ih j hj

theorem DfR.on {μ : Mu} {D : Nat → Prop} {ds : List Nat} {es : List Deferred} (h : DfR μ ds es) (hD : ∀ i ∈ ds, D i) : DfR (μ.on D) ds es := by
  induction h with
  | nil => exact .nil
  | cons hm ht _ ih => exact .cons (by rw [Mu.on_of (hD _ (by simp))]; exact hm) ht (ih fun i hi => hD i (by simp [hi]))

theorem LoopOK.stepG {bk : FuncId → Option AFun} {sel : Key → Bool} {ext : Fo FH} {o : Orc FH} {k : Nat} (hO : OS P o) (hL : LoopOK P o k) (hmix : P.follows .mixedOrders = true) : LoopOK P (answerG P bk sel ext o) (k + 1) := by
  intro j lin fr b nt rd vs A c df r e μ w a ro n Q ht hR hfr hrd hdf hQ
  simp only [answerG, Option.bind_eq_some_iff] at e
  obtain ⟨⟨ex, s1⟩, h1, vs', hvs', e⟩ := e
  refine exec_wp hO hL hmix h1 ht hR hfr hrd hdf fun a1 μ1 w1 ht1 hdf1 hE1 => ?_
  have hdrop := dropBs_ext (c := s1.c) ht1 fr s1.h hE1.rel
  have hE2 := hE1.trans0 hdrop
  have ht2 := ht1.sub (vals_tmOf hvs')
  -- what is left when the heap is cleaned
  have key : ∀ (ex : Ex) (Q' : Exit → Act → World → Prop),
      (∀ μ2, TmR μ2 (tmOf lin vs') nt a1.tmps → DfR μ2 s1.df a1.defers → Ext μ A c w (fun _ => False) μ2 (gcS sel (.lp j lin fr b nt rd) A c df { e := ex, vs := vs', h := dropBs s1.tm s1.h fr, c := s1.c, df := s1.df }).h
        (gcS sel (.lp j lin fr b nt rd) A c df { e := ex, vs := vs', h := dropBs s1.tm s1.h fr, c := s1.c, df := s1.df }).c w1 → Q' (exitOf ex) a1 w1) → Q' (exitOf ex) a1 w1 := by
    intro ex Q' hq
    by_cases hg : sel (.lp j lin fr b nt rd) = true ∧ GcOk A c df { e := ex, vs := vs', h := dropBs s1.tm s1.h fr, c := s1.c, df := s1.df }
    · refine hq (μ1.on (fun i => i < 256 * c)) ?_ ?_ ?_
      · refine ⟨ht2.size, fun t v hv => ?_⟩
        obtain ⟨v', h3, h4⟩ := ht2.val t v hv
        exact ⟨v', h3, (hg.2.1 v (tmOf_val hv)).on h4⟩
      · refine hdf1.on ?_
        have : s1.df = df := hg.2.2.1
        rw [this]
        exact hdf.lt hfr
      · unfold gcS gcR
        rw [hg.1, cond_true, if_pos hg.2]
        exact gcExt hE2 hR hfr hg.2.2.2
    · refine hq μ1 ht2 hdf1 ?_
      unfold gcS gcR
      cases hs : sel (.lp j lin fr b nt rd) with
      | false => exact hE2
      | true =>
        rw [cond_true, if_neg (fun h => hg ⟨hs, h⟩)]
        exact hE2
  cases ex with
  | normal =>
    refine key .normal (Exit.then (Code.roundsIn (wd ro) n P (strip b) Q k) Q) fun μ2 ht3 hdf3 hE3 => ?_
    exact hL _ _ _ _ _ _ _ _ _ _ _ e μ2 w1 a1 ro n Q ht3 hE3.rel (hE3.fresh hfr (fun _ h => h.elim)) (hrd.mono hE3.mu) hdf3 (fun a2 μ3 w2 h3 h4 h5 => hQ a2 μ3 w2 h3 h4 (hE3.trans0 h5))
  | exit id =>
    cases e
    refine key (.exit id) Q fun μ2 ht3 hdf3 hE3 => ?_
    exact hQ a1 μ2 w1 (by rw [gcS_vs]; exact ht3) (by rw [gcS_df]; exact hdf3) hE3 |> fun h => by rw [gcS_e] at h; exact h
  | ret =>
    cases e
    refine key .ret Q fun μ2 ht3 hdf3 hE3 => ?_
    exact hQ a1 μ2 w1 (by rw [gcS_vs]; exact ht3) (by rw [gcS_df]; exact hdf3) hE3 |> fun h => by rw [gcS_e] at h; exact h

theorem OS.stepG {bk : FuncId → Option AFun} {sel : Key → Bool} {ext : Fo FH} (hbk : BookOK P bk) (hext : FnOK P ext) {o : Orc FH} {k : Nat} (hO : OS P o) (hL : LoopOK P o k) (hmix : P.follows .mixedOrders = true) : OS P (answerG P bk sel ext o) where
  fn := by
    intro f args A c df r e
    simp only [answerG] at e
    cases he : ext f args A c with
    | some q =>
      rw [he] at e
      cases e
      exact hext f args A c _ he
    | none =>
      rw [he] at e
      simp only [Option.bind_eq_some_iff] at e
      obtain ⟨q, hq, e⟩ := e
      cases e
      obtain ⟨h1, h2⟩ := (OS.step hbk hO hL hmix).fn f args A c df q hq
      exact ⟨h1, fun μ w args' ha hR hf => (h2 μ w args' ha hR hf).mono fun e w' h => gcSCall hR hf h⟩
  rnd := by
    intro nt lin fr params l x y vs A c df r e μ w ts m ro n f hm ht hR hf
    simp only [answerG, Option.bind_eq_some_iff] at e
    obtain ⟨q, hq, e⟩ := e
    cases e
    exact ((OS.step hbk hO hL hmix).rnd nt lin fr params l x y vs A c df q hq μ w ts m ro n f hm ht hR hf).mono fun e w' h => gcSCall hR hf h

noncomputable def orcG (P : Program) (bk : FuncId → Option AFun) (sel : Key → Bool) (ext : Fo FH) : Nat → Orc FH
  | 0 => fun _ _ _ _ _ => none
  | n + 1 => answerG P bk sel ext (orcG P bk sel ext n)

theorem orcG_ok {bk : FuncId → Option AFun} {sel : Key → Bool} {ext : Fo FH} (hbk : BookOK P bk) (hext : FnOK P ext) (hmix : P.follows .mixedOrders = true) : ∀ n, OS P (orcG P bk sel ext n) ∧ LoopOK P (orcG P bk sel ext n) n
  | 0 => ⟨⟨(fun _ _ _ _ _ _ e => by cases e), (fun _ _ _ _ _ _ _ _ _ _ _ _ e => by cases e)⟩, fun _ _ _ _ _ _ _ _ _ _ _ e => by cases e⟩
  | n + 1 => ⟨OS.stepG hbk hext (orcG_ok (sel := sel) (ext := ext) hbk hext hmix n).1 (orcG_ok (sel := sel) (ext := ext) hbk hext hmix n).2 hmix, LoopOK.stepG (orcG_ok (sel := sel) (ext := ext) hbk hext hmix n).1 (orcG_ok (sel := sel) (ext := ext) hbk hext hmix n).2 hmix⟩

theorem answerG_ev {bk : FuncId → Option AFun} {sel : Key → Bool} {ext : Fo FH} {ox : Orc FH} {os : Nat → Orc FH} (hF : Fam ox os) : Fam (answerG P bk sel ext ox) (fun n => answerG P bk sel ext (os n)) := by
  intro k args h c df r e
  cases k with
  | fn f =>
    simp only [answerG] at e ⊢
    cases he : ext f args h c with
    | some q => rw [he] at e; exact Ev.const e
    | none =>
      rw [he] at e
      simp only [Option.bind_eq_some_iff] at e
      obtain ⟨q, hq, e⟩ := e
      exact Ev.bind (answer_ev hF _ _ _ _ _ _ hq) (Ev.const e)
  | rnd nt lin fr params l a b =>
    simp only [answerG, Option.bind_eq_some_iff] at e ⊢
    obtain ⟨q, hq, e⟩ := e
    exact Ev.bind (answer_ev hF _ _ _ _ _ _ hq) (Ev.const e)
  | lp j lin fr b nt rd =>
    simp only [answerG, Option.bind_eq_some_iff] at e ⊢
    obtain ⟨q, hq, vs, hv, e⟩ := e
    refine Ev.bind (exec_ev hF hq) (Ev.bindc hv ?_)
    cases hq1 : q.1 with
    | normal => rw [hq1] at e; exact hF _ _ _ _ _ _ e
    | exit id => rw [hq1] at e; exact Ev.const e
    | ret => rw [hq1] at e; exact Ev.const e

theorem orcG_succ_le {bk : FuncId → Option AFun} {sel : Key → Bool} {ext : Fo FH} : ∀ n k args h c df r, orcG P bk sel ext n k args h c df = some r → orcG P bk sel ext (n + 1) k args h c df = some r
  | 0, k, args, h, c, df, r, e => by cases e
  | n + 1, k, args, h, c, df, r, e => by
    have hF : Fam (orcG P bk sel ext n) (fun _ => orcG P bk sel ext (n + 1)) := fun k args h c df r e => Ev.const (orcG_succ_le n k args h c df r e)
    obtain ⟨m, hm⟩ := answerG_ev hF k args h c df r e
    exact hm m (Nat.le_refl _)

theorem orcG_le {bk : FuncId → Option AFun} {sel : Key → Bool} {ext : Fo FH} {n m : Nat} (hnm : n ≤ m) {k : Key} {args : List Value} {h : FH} {c : Nat} {df : List Nat} {r : Rt FH} (e : orcG P bk sel ext n k args h c df = some r) : orcG P bk sel ext m k args h c df = some r := by
  induction hnm with
  | refl => exact e
  | step _ ih => exact orcG_succ_le _ _ _ _ _ _ _ ih

open Classical in
noncomputable def runG (P : Program) (bk : FuncId → Option AFun) (sel : Key → Bool) (ext : Fo FH) : Orc FH := fun k args h c df =>
  if hx : ∃ n r, orcG P bk sel ext n k args h c df = some r then orcG P bk sel ext (Classical.choose hx) k args h c df else none

theorem runG_of {bk : FuncId → Option AFun} {sel : Key → Bool} {ext : Fo FH} {n : Nat} {k : Key} {args : List Value} {h : FH} {c : Nat} {df : List Nat} {r : Rt FH} (e : orcG P bk sel ext n k args h c df = some r) : runG P bk sel ext k args h c df = some r := by
  have hx : ∃ n r, orcG P bk sel ext n k args h c df = some r := ⟨n, r, e⟩
  unfold runG
  rw [dif_pos hx]
  obtain ⟨r', h'⟩ := Classical.choose_spec hx
  have h1 := orcG_le (Nat.le_max_left (Classical.choose hx) n) h'
  have h2 := orcG_le (Nat.le_max_right (Classical.choose hx) n) e
  rw [h1] at h2
  rw [h', h2]

theorem runG_some {bk : FuncId → Option AFun} {sel : Key → Bool} {ext : Fo FH} {k : Key} {args : List Value} {h : FH} {c : Nat} {df : List Nat} {r : Rt FH} (e : runG P bk sel ext k args h c df = some r) : ∃ n, orcG P bk sel ext n k args h c df = some r := by
  unfold runG at e
  split at e
  · exact ⟨_, e⟩
  · cases e

theorem runG_fam {bk : FuncId → Option AFun} {sel : Key → Bool} {ext : Fo FH} : Fam (runG P bk sel ext) (orcG P bk sel ext) := by
  intro k args h c df r e
  obtain ⟨n, hn⟩ := runG_some e
  exact ⟨n, fun m hm => orcG_le hm hn⟩

theorem runG_step {bk : FuncId → Option AFun} {sel : Key → Bool} {ext : Fo FH} {k : Key} {args : List Value} {h : FH} {c : Nat} {df : List Nat} {r : Rt FH} (e : answerG P bk sel ext (runG P bk sel ext) k args h c df = some r) : runG P bk sel ext k args h c df = some r := by
  obtain ⟨n, hn⟩ := answerG_ev (runG_fam (P := P) (bk := bk) (sel := sel) (ext := ext)) k args h c df r e
  exact runG_of (n := n + 1) (hn n (Nat.le_refl _))

theorem orcG_lp_length {bk : FuncId → Option AFun} {sel : Key → Bool} {ext : Fo FH} : ∀ n j lin fr b nt rd vs (h : FH) c df r, orcG P bk sel ext n (.lp j lin fr b nt rd) vs h c df = some r → r.vs.length = lin.length
  | 0, _, _, _, _, _, _, _, _, _, _, _, e => by cases e
  | n + 1, j, lin, fr, b, nt, rd, vs, h, c, df, r, e => by
    simp only [orcG, answerG, Option.bind_eq_some_iff] at e
    obtain ⟨q, hq, ws, hw, e⟩ := e
    cases hq1 : q.1 with
    | normal => rw [hq1] at e; exact orcG_lp_length n j lin fr b nt rd _ _ _ _ r e
    | exit id => rw [hq1] at e; cases e; rw [gcS_vs]; exact vals_length hw
    | ret => rw [hq1] at e; cases e; rw [gcS_vs]; exact vals_length hw

theorem runG_olen {bk : FuncId → Option AFun} {sel : Key → Bool} {ext : Fo FH} : OLen (runG P bk sel ext) := fun _ _ _ _ _ _ _ _ _ _ _ e => by
  obtain ⟨n, hn⟩ := runG_some e
  exact orcG_lp_length _ _ _ _ _ _ _ _ _ _ _ _ hn

/-- **What is answered is what the call does.** -/
theorem runG_calls {bk : FuncId → Option AFun} {sel : Key → Bool} {ext : Fo FH} (hbk : BookOK P bk) (hext : FnOK P ext) (hmix : P.follows .mixedOrders = true) {f : FuncId} {args args' : List Value} {A : FH} {c : Nat} {r : Rt FH} (e : runG P bk sel ext (.fn f) args A c [] = some r) {μ : Mu} {w : World}
    (hv : VRs μ args args') (hR : R μ A w) (hfr : Fresh μ c) : Calls P f args'.toArray w (CallR μ A c w r) := by
  obtain ⟨n, hn⟩ := runG_some e
  exact ((orcG_ok (sel := sel) (ext := ext) hbk hext hmix n).1.fn f args A c [] r hn).2 μ w args' hv hR hfr

/-- a call, from its shallow form -/
theorem runG_fn {bk : FuncId → Option AFun} {sel : Key → Bool} {ext : Fo FH} {f : FuncId} {a : AFun} (ha : bk f = some a) (hfr : a.fr = []) (hxt : ∀ args h c, ext f args h c = none) {args : List Value} {h : FH} {c : Nat} {df : List Nat} {r : Rt FH} (hlen : Nat.ble args.length a.nt = true)
    (e : jx P (runG P bk sel ext) a.nt none a.code (tmOf (List.range args.length) args) h c [] (Kfn P a.res) = some r) : runG P bk sel ext (.fn f) args h c df = some (gcS sel (.fn f) h c [] r) := by
  refine runG_step ?_
  obtain ⟨e1, tm1, tm1', h1, c1, df1, hx, hl, hk⟩ := jx_sound runG_olen e (Tm.le_refl _)
  simp only [answerG, hxt, Option.bind_eq_some_iff]
  refine ⟨r, ?_, rfl⟩
  simp only [answer, ha, Option.bind_some, hlen, cond_true, hx, hfr, dropBs]
  cases e1 with
  | exit id => cases hk
  | normal =>
    simp only [Kfn, resK_eq, Option.bind_eq_some_iff] at hk ⊢
    obtain ⟨h2, ht, vs, hv, hk⟩ := hk
    exact ⟨h2, ht, vs, resOf_le hl hv, hk⟩
  | ret =>
    simp only [Kfn, resK_eq, Option.bind_eq_some_iff] at hk ⊢
    obtain ⟨h2, ht, vs, hv, hk⟩ := hk
    exact ⟨h2, ht, vs, resOf_le hl hv, hk⟩

/-- one round of a loop that goes on -/
theorem runG_lp_next {bk : FuncId → Option AFun} {sel : Key → Bool} {ext : Fo FH} {j nt : Nat} {lin : List Nat} {b : ACode} {rd : Option Nat} {vs : List Value} {h : FH} {c : Nat} {df : List Nat} {q r : Rt FH}
    (e : jx P (runG P bk sel ext) nt rd b (tmOf lin vs) h c df (Klp lin) = some q) (hq : q.e = .normal) (k : runG P bk sel ext (.lp j lin [] b nt rd) q.vs (gcS sel (.lp j lin [] b nt rd) h c df q).h (gcS sel (.lp j lin [] b nt rd) h c df q).c q.df = some r) : runG P bk sel ext (.lp j lin [] b nt rd) vs h c df = some r := by
  refine runG_step ?_
  obtain ⟨e1, tm1, tm1', h1, c1, df1, hx, hl, hk⟩ := jx_sound runG_olen e (Tm.le_refl _)
  simp only [Klp, Option.bind_eq_some_iff] at hk
  obtain ⟨ws, hw, hk⟩ := hk
  cases hk
  simp only at hq
  subst hq
  simp only [answerG, hx, Option.bind_some, vals_le hl hw, dropBs]
  exact k

/-- the last round of a loop -/
theorem runG_lp_last {bk : FuncId → Option AFun} {sel : Key → Bool} {ext : Fo FH} {j nt : Nat} {lin : List Nat} {b : ACode} {rd : Option Nat} {vs : List Value} {h : FH} {c : Nat} {df : List Nat} {q : Rt FH}
    (e : jx P (runG P bk sel ext) nt rd b (tmOf lin vs) h c df (Klp lin) = some q) (hq : q.e ≠ .normal) : runG P bk sel ext (.lp j lin [] b nt rd) vs h c df = some (gcS sel (.lp j lin [] b nt rd) h c df q) := by
  refine runG_step ?_
  obtain ⟨e1, tm1, tm1', h1, c1, df1, hx, hl, hk⟩ := jx_sound runG_olen e (Tm.le_refl _)
  simp only [Klp, Option.bind_eq_some_iff] at hk
  obtain ⟨ws, hw, hk⟩ := hk
  cases hk
  simp only at hq
  simp only [answerG, hx, Option.bind_some, vals_le hl hw, dropBs]

/-- one round of a range over a function -/
theorem runG_rnd {bk : FuncId → Option AFun} {sel : Key → Bool} {ext : Fo FH} {nt l : Nat} {lin params : List Nat} {a b : ACode} {vs : List Value} {h : FH} {c : Nat} {df : List Nat} {r : Rt FH}
    (e : jx P (runG P bk sel ext) nt (some l) a (tmOf (params ++ lin) vs) h c [] (rndK P (runG P bk sel ext) nt l b) = some r) : runG P bk sel ext (.rnd nt lin [] params l a b) vs h c df = some (gcS sel (.rnd nt lin [] params l a b) h c [] r) := by
  refine runG_step ?_
  obtain ⟨e1, tm1, tm1', h1, c1, df1, hx, hl, hk⟩ := jx_sound runG_olen e (Tm.le_refl _)
  simp only [answerG, Option.bind_eq_some_iff]
  refine ⟨r, ?_, rfl⟩
  cases e1 with
  | exit id => cases hk
  | ret => cases hk
  | normal =>
    simp only [rndK, Option.bind_eq_some_iff] at hk
    obtain ⟨h2, hb, hk⟩ := hk
    obtain ⟨e3, tm3, tm3', h3, c3, df3, hx3, hl3, hk3⟩ := jx_sound runG_olen hk hl
    simp only [answer, hx, Option.bind_some, hb, hx3, dropBs]
    exact hk3

/-- what is answered by heart -/
theorem runG_ext {bk : FuncId → Option AFun} {sel : Key → Bool} {ext : Fo FH} {f : FuncId} {args : List Value} {h : FH} {c : Nat} {df : List Nat} {r : Rt FH} (e : ext f args h c = some r) : runG P bk sel ext (.fn f) args h c df = some r := by
  refine runG_step ?_
  simp only [answerG, e]

/-- a closed call without arguments, found by evaluation, answers anywhere -/
theorem closed_ok {H : Type} [HeapC H] {bk : FuncId → Option AFun} (hbk : BookOK P bk) (hmix : P.follows .mixedOrders = true) {f : FuncId} {A0 : H} {r0 : Rt H} {b : Bool} (e : run P bk (.fn f) [] A0 0 [] = some r0) (hv : r0.vs = [.bool b])
    (A : FH) (c : Nat) (μ : Mu) (w : World) (args' : List Value) (ha : VRs μ [] args') (hR : R μ A w) (hf : Fresh μ c) : Calls P f args'.toArray w (CallR μ A c w { e := .ret, vs := [.bool b], h := A, c := c, df := [] }) := by
  have h0 : R (fun _ => none : Mu) A0 w := ⟨(fun i m e => by cases e), (fun i j mi mj ei => by cases ei), (fun i m e => by cases e)⟩
  have ha' : args' = [] := List.eq_nil_of_length_eq_zero ha.1.symm
  subst ha'
  refine (run_calls hbk hmix e (VRs.nil _) h0 (fun i hi => rfl)).mono ?_
  rintro en w' ⟨v, v', μ', h1, h2, h3, hE⟩
  rw [hv] at h1
  cases h1
  have h3' := h3.bool_left
  subst h3'
  have hfr : ∀ b, b < w.heap.size → w'.heap[b]? = w.heap[b]? := fun b hb => hE.fr b hb (fun i m e => (by cases e))
  refine ⟨_, _, μ, rfl, h2, .bool b, ?_⟩
  refine { mu := fun i m e => e, new := fun i e0 e1 => absurd e0 e1, cle := Nat.le_refl _, rel := ?_, af := fun i e0 hi _ => rfl, os := hE.os, tape := hE.tape, output := hE.output, size := hE.size, fr := fun b hb _ => hfr b hb, wrm := fun i m e hw => hw, newb := fun i m e0 e1 => (by rw [e0] at e1; cases e1), dd := fun i m e hd => hd }
  refine ⟨fun i m em => ?_, hR.inj, fun i m em => Nat.lt_of_lt_of_le (hR.lt i m em) hE.size⟩
  have hb := hR.blk i m em
  have hl := hR.lt i m em
  unfold BlkR at hb ⊢
  rw [hfr m.b hl]
  exact hb

end Go.Ab

namespace Go.Proofs.Ytemkjcpfgmbibaa
open Go Go.Ab Go.Proofs
set_option maxRecDepth 100000
set_option linter.unusedVariables false
variable {H : Type} [HeapC H]
noncomputable abbrev P := Try.prog
noncomputable def f4_b : Code := bodyOf Try.f4
noncomputable def f4_c : ACode := (.seq (.region 0 (opsAt f4_b [0]) false) (.seq (.seq (.region 1 (opsAt f4_b [1, 0, 0]) false) (.cond (.tmp 16) (.seq (.region 2 (opsAt f4_b [1, 0, 1, 0, 0]) false) .ret) .skip)) (.seq (.region 3 (opsAt f4_b [1, 1, 0]) true) .ret)))
noncomputable def f4_f : AFun := { code := f4_c, nt := 29, res := Try.f4.results.toList, fr := [] }
noncomputable def f10_b : Code := bodyOf Try.f10
noncomputable def f10_a10001 : ACode := (.region 16 (opsAt f10_b [1, 1, 1, 1, 1, 1, 1, 0, 1, 0, 0, 1, 1, 0, 0, 1, 1, 0, 0]) false)
noncomputable def f10_c10001 : ACode := (.block 3 (.seq (.region 17 (opsAt f10_b [1, 1, 1, 1, 1, 1, 1, 0, 1, 0, 0, 1, 1, 0, 0, 1, 1, 0, 1, 0, 0]) false) (.seq (.region 18 (opsAt f10_b [1, 1, 1, 1, 1, 1, 1, 0, 1, 0, 0, 1, 1, 0, 0, 1, 1, 0, 1, 0, 1, 0]) false) (.join [(.normal, [])] (.cond (.tmp 60) (.region 19 (opsAt f10_b [1, 1, 1, 1, 1, 1, 1, 0, 1, 0, 0, 1, 1, 0, 0, 1, 1, 0, 1, 0, 1, 1, 0]) false) .skip)))))
noncomputable def f10_c10000 : ACode := (.seq (.region 13 (opsAt f10_b [1, 1, 1, 1, 1, 1, 1, 0, 1, 0, 0, 0]) false) (.seq (.cond (.tmp 48) .skip (.exit 0)) (.seq (.block 1 (.seq (.region 14 (opsAt f10_b [1, 1, 1, 1, 1, 1, 1, 0, 1, 0, 0, 1, 1, 0, 0, 0]) false) (.seq (.region 15 (opsAt f10_b [1, 1, 1, 1, 1, 1, 1, 0, 1, 0, 0, 1, 1, 0, 0, 1, 0]) false) (.block 2 (.rangeFunc 10001 [2, 3, 9, 10] [] [.normal] (.tmp 50) #[51] f10_a10001 f10_c10001))))) (.region 20 (opsAt f10_b [1, 1, 1, 1, 1, 1, 1, 0, 1, 0, 0, 1, 1, 1]) false))))
noncomputable def f10_k10000 (rd : Option Nat) : Key := .lp 10000 [2, 3, 9, 46, 47] [] f10_c10000 67 rd
noncomputable def f10_c : ACode := (.seq (.region 0 (opsAt f10_b [0]) false) (.seq (.seq (.region 1 (opsAt f10_b [1, 0, 0]) false) (.seq (.region 2 (opsAt f10_b [1, 0, 1, 0]) false) (.cond (.tmp 19) (.seq (.region 3 (opsAt f10_b [1, 0, 1, 1, 0, 0]) false) .ret) .skip))) (.seq (.region 4 (opsAt f10_b [1, 1, 0]) false) (.seq (.seq (.region 5 (opsAt f10_b [1, 1, 1, 0, 0]) false) (.cond (.tmp 33) (.seq (.region 6 (opsAt f10_b [1, 1, 1, 0, 1, 0, 0]) false) .ret) .skip)) (.seq (.seq (.region 7 (opsAt f10_b [1, 1, 1, 1, 0, 0]) false) (.cond (.tmp 36) (.seq (.region 8 (opsAt f10_b [1, 1, 1, 1, 0, 1, 0, 0]) false) .ret) .skip)) (.seq (.seq (.region 9 (opsAt f10_b [1, 1, 1, 1, 1, 0, 0]) false) (.cond (.tmp 43) (.seq (.region 10 (opsAt f10_b [1, 1, 1, 1, 1, 0, 1, 0, 0]) false) .ret) .skip)) (.seq (.region 11 (opsAt f10_b [1, 1, 1, 1, 1, 1, 0]) false) (.seq (.seq (.region 12 (opsAt f10_b [1, 1, 1, 1, 1, 1, 1, 0, 0]) false) (.block 0 (.loop 10000 [2, 3, 9, 46, 47] [] [(.exit 0)] f10_c10000))) (.seq (.region 21 (opsAt f10_b [1, 1, 1, 1, 1, 1, 1, 1, 0]) false) .ret)))))))))
noncomputable def f10_f : AFun := { code := f10_c, nt := 67, res := Try.f10.results.toList, fr := [] }
noncomputable def f13_b : Code := bodyOf Try.f13
noncomputable def f13_c : ACode := (.seq (.region 0 (opsAt f13_b [0]) false) (.seq (.region 1 (opsAt f13_b [1, 0]) false) (.seq (.region 2 (opsAt f13_b [1, 1, 0]) false) (.seq (.region 3 (opsAt f13_b [1, 1, 1, 0]) false) (.seq (.region 4 (opsAt f13_b [1, 1, 1, 1, 0]) false) (.seq (.region 5 (opsAt f13_b [1, 1, 1, 1, 1, 0]) true) (.seq (.region 6 (opsAt f13_b [1, 1, 1, 1, 1, 1, 0]) false) (.seq (.region 7 (opsAt f13_b [1, 1, 1, 1, 1, 1, 1, 0]) false) .ret))))))))
noncomputable def f13_f : AFun := { code := f13_c, nt := 107, res := Try.f13.results.toList, fr := [] }
noncomputable def f14_b : Code := bodyOf Try.f14
noncomputable def f14_c : ACode := (.seq (.region 0 (opsAt f14_b [0]) false) (.seq (.seq (.region 1 (opsAt f14_b [1, 0, 0]) false) (.seq (.region 2 (opsAt f14_b [1, 0, 1, 0]) false) (.cond (.tmp 15) (.seq (.region 3 (opsAt f14_b [1, 0, 1, 1, 0, 0]) false) .ret) .skip))) (.seq (.region 4 (opsAt f14_b [1, 1, 0]) false) (.seq (.seq (.region 5 (opsAt f14_b [1, 1, 1, 0, 0]) false) (.cond (.tmp 33) (.seq (.region 6 (opsAt f14_b [1, 1, 1, 0, 1, 0, 0]) false) .ret) .skip)) (.seq (.region 7 (opsAt f14_b [1, 1, 1, 1, 0]) false) .ret)))))
noncomputable def f14_f : AFun := { code := f14_c, nt := 34, res := Try.f14.results.toList, fr := [] }
noncomputable def f15_b : Code := bodyOf Try.f15
noncomputable def f15_c : ACode := (.seq (.region 0 (opsAt f15_b [0]) false) (.seq (.seq (.region 1 (opsAt f15_b [1, 0, 0]) false) (.cond (.tmp 16) (.seq (.region 2 (opsAt f15_b [1, 0, 1, 0, 0]) false) .ret) .skip)) (.seq (.region 3 (opsAt f15_b [1, 1, 0]) false) (.seq (.seq (.region 4 (opsAt f15_b [1, 1, 1, 0, 0]) false) (.cond (.tmp 33) (.seq (.region 5 (opsAt f15_b [1, 1, 1, 0, 1, 0, 0]) false) .ret) .skip)) (.seq (.region 6 (opsAt f15_b [1, 1, 1, 1, 0]) false) .ret)))))
noncomputable def f15_f : AFun := { code := f15_c, nt := 34, res := Try.f15.results.toList, fr := [] }
noncomputable def f16_b : Code := bodyOf Try.f16
noncomputable def f16_c : ACode := (.seq (.region 0 (opsAt f16_b [0]) false) (.seq (.seq (.region 1 (opsAt f16_b [1, 0, 0]) false) (.cond (.tmp 22) (.seq (.region 2 (opsAt f16_b [1, 0, 1, 0, 0]) false) .ret) .skip)) (.seq (.region 3 (opsAt f16_b [1, 1, 0]) false) .ret)))
noncomputable def f16_f : AFun := { code := f16_c, nt := 27, res := Try.f16.results.toList, fr := [] }
noncomputable def f20_b : Code := bodyOf Try.f20
noncomputable def f20_c20000 : ACode := (.seq (.seq (.region 8 (opsAt f20_b [1, 1, 1, 1, 1, 0, 1, 0, 0, 0, 0]) false) (.cond (.tmp 34) .skip (.exit 0))) (.seq (.block 1 (.region 10 (opsAt f20_b [1, 1, 1, 1, 1, 0, 1, 0, 0, 1, 0, 0]) false)) (.region 9 (opsAt f20_b [1, 1, 1, 1, 1, 0, 1, 0, 0, 1, 1]) false)))
noncomputable def f20_k20000 (rd : Option Nat) : Key := .lp 20000 [1, 2, 3, 6, 8, 9, 10] [] f20_c20000 103 rd
noncomputable def f20_c20002 : ACode := (.seq (.seq (.region 17 (opsAt f20_b [1, 1, 1, 1, 1, 1, 1, 0, 1, 0, 0, 1, 0, 0, 1, 0, 1, 0, 0, 0, 0]) false) (.cond (.tmp 50) .skip (.exit 4))) (.seq (.join [(.normal, [1, 2, 3, 6, 8, 9, 11, 12, 13, 14])] (.block 5 (.seq (.region 19 (opsAt f20_b [1, 1, 1, 1, 1, 1, 1, 0, 1, 0, 0, 1, 0, 0, 1, 0, 1, 0, 0, 1, 0, 0, 0]) true) (.seq (.seq (.region 20 (opsAt f20_b [1, 1, 1, 1, 1, 1, 1, 0, 1, 0, 0, 1, 0, 0, 1, 0, 1, 0, 0, 1, 0, 0, 1, 0, 0]) false) (.cond (.tmp 70) (.seq (.region 21 (opsAt f20_b [1, 1, 1, 1, 1, 1, 1, 0, 1, 0, 0, 1, 0, 0, 1, 0, 1, 0, 0, 1, 0, 0, 1, 0, 1, 0, 0]) false) (.exit 5)) .skip)) (.seq (.region 22 (opsAt f20_b [1, 1, 1, 1, 1, 1, 1, 0, 1, 0, 0, 1, 0, 0, 1, 0, 1, 0, 0, 1, 0, 0, 1, 1, 0]) false) (.region 23 (opsAt f20_b [1, 1, 1, 1, 1, 1, 1, 0, 1, 0, 0, 1, 0, 0, 1, 0, 1, 0, 0, 1, 0, 0, 1, 1, 1]) true)))))) (.region 18 (opsAt f20_b [1, 1, 1, 1, 1, 1, 1, 0, 1, 0, 0, 1, 0, 0, 1, 0, 1, 0, 0, 1, 1]) false)))
noncomputable def f20_k20002 (rd : Option Nat) : Key := .lp 20002 [1, 2, 3, 6, 8, 9, 11, 12, 13, 14] [] f20_c20002 103 rd
noncomputable def f20_c20001 : ACode := (.seq (.seq (.region 13 (opsAt f20_b [1, 1, 1, 1, 1, 1, 1, 0, 1, 0, 0, 0, 0]) false) (.cond (.tmp 46) .skip (.exit 2))) (.seq (.block 3 (.seq (.region 15 (opsAt f20_b [1, 1, 1, 1, 1, 1, 1, 0, 1, 0, 0, 1, 0, 0, 0]) false) (.seq (.seq (.region 16 (opsAt f20_b [1, 1, 1, 1, 1, 1, 1, 0, 1, 0, 0, 1, 0, 0, 1, 0, 0]) false) (.block 4 (.loop 20002 [1, 2, 3, 6, 8, 9, 11, 12, 13, 14] [] [(.exit 4)] f20_c20002))) (.region 24 (opsAt f20_b [1, 1, 1, 1, 1, 1, 1, 0, 1, 0, 0, 1, 0, 0, 1, 1]) false)))) (.region 14 (opsAt f20_b [1, 1, 1, 1, 1, 1, 1, 0, 1, 0, 0, 1, 1]) false)))
noncomputable def f20_k20001 (rd : Option Nat) : Key := .lp 20001 [1, 2, 3, 6, 8, 9, 11, 12] [] f20_c20001 103 rd
noncomputable def f20_c : ACode := (.seq (.region 0 (opsAt f20_b [0]) false) (.seq (.seq (.region 1 (opsAt f20_b [1, 0, 0]) false) (.cond (.tmp 19) (.seq (.region 2 (opsAt f20_b [1, 0, 1, 0, 0]) false) .ret) .skip)) (.seq (.region 3 (opsAt f20_b [1, 1, 0]) false) (.seq (.seq (.region 4 (opsAt f20_b [1, 1, 1, 0, 0]) false) (.cond (.tmp 28) (.seq (.region 5 (opsAt f20_b [1, 1, 1, 0, 1, 0, 0]) false) .ret) .skip)) (.seq (.region 6 (opsAt f20_b [1, 1, 1, 1, 0]) false) (.seq (.seq (.region 7 (opsAt f20_b [1, 1, 1, 1, 1, 0, 0]) false) (.block 0 (.loop 20000 [1, 2, 3, 6, 8, 9, 10] [] [(.exit 0)] f20_c20000))) (.seq (.region 11 (opsAt f20_b [1, 1, 1, 1, 1, 1, 0]) false) (.seq (.seq (.region 12 (opsAt f20_b [1, 1, 1, 1, 1, 1, 1, 0, 0]) false) (.block 2 (.loop 20001 [1, 2, 3, 6, 8, 9, 11, 12] [] [(.exit 2)] f20_c20001))) (.seq (.region 25 (opsAt f20_b [1, 1, 1, 1, 1, 1, 1, 1, 0]) false) .ret)))))))))
noncomputable def f20_f : AFun := { code := f20_c, nt := 103, res := Try.f20.results.toList, fr := [] }
noncomputable def f22_b : Code := bodyOf Try.f22
noncomputable def f22_c22001 : ACode := (.seq (.region 10 (opsAt f22_b [1, 1, 1, 1, 0, 1, 0, 0, 1, 1, 0, 0, 1, 1, 0, 0, 0]) false) (.seq (.cond (.tmp 32) .skip (.exit 2)) (.seq (.block 3 (.seq (.region 11 (opsAt f22_b [1, 1, 1, 1, 0, 1, 0, 0, 1, 1, 0, 0, 1, 1, 0, 0, 1, 1, 0, 0, 0]) false) (.seq (.region 12 (opsAt f22_b [1, 1, 1, 1, 0, 1, 0, 0, 1, 1, 0, 0, 1, 1, 0, 0, 1, 1, 0, 0, 1, 0]) false) (.region 13 (opsAt f22_b [1, 1, 1, 1, 0, 1, 0, 0, 1, 1, 0, 0, 1, 1, 0, 0, 1, 1, 0, 0, 1, 1]) false)))) (.region 14 (opsAt f22_b [1, 1, 1, 1, 0, 1, 0, 0, 1, 1, 0, 0, 1, 1, 0, 0, 1, 1, 1]) false))))
noncomputable def f22_k22001 (rd : Option Nat) : Key := .lp 22001 [7, 24, 25, 26, 30, 31] [] f22_c22001 46 rd
noncomputable def f22_c22000 : ACode := (.seq (.region 7 (opsAt f22_b [1, 1, 1, 1, 0, 1, 0, 0, 0]) false) (.seq (.cond (.tmp 27) .skip (.exit 0)) (.seq (.block 1 (.seq (.region 8 (opsAt f22_b [1, 1, 1, 1, 0, 1, 0, 0, 1, 1, 0, 0, 0]) false) (.seq (.region 9 (opsAt f22_b [1, 1, 1, 1, 0, 1, 0, 0, 1, 1, 0, 0, 1, 0]) false) (.block 2 (.loop 22001 [7, 24, 25, 26, 30, 31] [] [(.exit 2)] f22_c22001))))) (.region 15 (opsAt f22_b [1, 1, 1, 1, 0, 1, 0, 0, 1, 1, 1]) false))))
noncomputable def f22_k22000 (rd : Option Nat) : Key := .lp 22000 [7, 24, 25, 26] [] f22_c22000 46 rd
noncomputable def f22_c : ACode := (.seq (.region 0 (opsAt f22_b [0]) false) (.seq (.seq (.region 1 (opsAt f22_b [1, 0, 0]) false) (.seq (.region 2 (opsAt f22_b [1, 0, 1, 0]) false) (.cond (.tmp 16) (.seq (.region 3 (opsAt f22_b [1, 0, 1, 1, 0, 0]) false) .ret) .skip))) (.seq (.region 4 (opsAt f22_b [1, 1, 0]) false) (.seq (.region 5 (opsAt f22_b [1, 1, 1, 0]) false) (.seq (.seq (.region 6 (opsAt f22_b [1, 1, 1, 1, 0, 0]) false) (.block 0 (.loop 22000 [7, 24, 25, 26] [] [(.exit 0)] f22_c22000))) (.seq (.region 16 (opsAt f22_b [1, 1, 1, 1, 1, 0]) false) .ret))))))
noncomputable def f22_f : AFun := { code := f22_c, nt := 46, res := Try.f22.results.toList, fr := [] }
noncomputable def f23_b : Code := bodyOf Try.f23
noncomputable def f23_c23001 : ACode := (.seq (.seq (.region 8 (opsAt f23_b [1, 1, 1, 0, 1, 0, 0, 1, 0, 0, 1, 0, 0, 0, 0]) false) (.cond (.tmp 18) .skip (.exit 2))) (.seq (.join [(.normal, [1, 2, 3, 4, 5]), (.ret, [1, 2, 3, 4, 5])] (.block 3 (.seq (.region 10 (opsAt f23_b [1, 1, 1, 0, 1, 0, 0, 1, 0, 0, 1, 0, 0, 1, 0, 0, 0]) false) (.seq (.seq (.region 11 (opsAt f23_b [1, 1, 1, 0, 1, 0, 0, 1, 0, 0, 1, 0, 0, 1, 0, 0, 1, 0, 0]) false) (.cond (.tmp 36) (.exit 3) .skip)) (.seq (.seq (.region 12 (opsAt f23_b [1, 1, 1, 0, 1, 0, 0, 1, 0, 0, 1, 0, 0, 1, 0, 0, 1, 1, 0, 0]) false) (.cond (.tmp 65) (.seq (.region 13 (opsAt f23_b [1, 1, 1, 0, 1, 0, 0, 1, 0, 0, 1, 0, 0, 1, 0, 0, 1, 1, 0, 1, 0, 0]) false) .ret) .skip)) (.seq (.region 14 (opsAt f23_b [1, 1, 1, 0, 1, 0, 0, 1, 0, 0, 1, 0, 0, 1, 0, 0, 1, 1, 1, 0]) true) (.cond (.tmp 82) (.seq (.region 15 (opsAt f23_b [1, 1, 1, 0, 1, 0, 0, 1, 0, 0, 1, 0, 0, 1, 0, 0, 1, 1, 1, 1, 0, 0]) false) .ret) .skip))))))) (.region 9 (opsAt f23_b [1, 1, 1, 0, 1, 0, 0, 1, 0, 0, 1, 0, 0, 1, 1]) false)))
noncomputable def f23_k23001 (rd : Option Nat) : Key := .lp 23001 [1, 2, 3, 4, 5] [] f23_c23001 83 rd
noncomputable def f23_c23000 : ACode := (.seq (.seq (.region 5 (opsAt f23_b [1, 1, 1, 0, 1, 0, 0, 0, 0]) false) (.cond (.tmp 14) .skip (.exit 0))) (.seq (.block 1 (.seq (.region 7 (opsAt f23_b [1, 1, 1, 0, 1, 0, 0, 1, 0, 0, 0]) false) (.block 2 (.loop 23001 [1, 2, 3, 4, 5] [] [(.exit 2), .ret] f23_c23001)))) (.region 6 (opsAt f23_b [1, 1, 1, 0, 1, 0, 0, 1, 1]) false)))
noncomputable def f23_k23000 (rd : Option Nat) : Key := .lp 23000 [1, 2, 3, 4] [] f23_c23000 83 rd
noncomputable def f23_c : ACode := (.seq (.region 0 (opsAt f23_b [0]) false) (.seq (.region 1 (opsAt f23_b [1, 0]) false) (.seq (.seq (.region 2 (opsAt f23_b [1, 1, 0, 0]) false) (.cond (.tmp 11) (.seq (.region 3 (opsAt f23_b [1, 1, 0, 1, 0, 0]) false) .ret) .skip)) (.seq (.seq (.region 4 (opsAt f23_b [1, 1, 1, 0, 0]) false) (.block 0 (.loop 23000 [1, 2, 3, 4] [] [(.exit 0), .ret] f23_c23000))) (.seq (.region 16 (opsAt f23_b [1, 1, 1, 1, 0]) false) .ret)))))
noncomputable def f23_f : AFun := { code := f23_c, nt := 83, res := Try.f23.results.toList, fr := [] }
noncomputable def f25_b : Code := bodyOf Try.f25
noncomputable def f25_c25000 : ACode := (.seq (.seq (.region 4 (opsAt f25_b [1, 1, 0, 1, 0, 0, 0, 0]) false) (.cond (.tmp 17) .skip (.exit 0))) (.seq (.block 1 (.seq (.region 6 (opsAt f25_b [1, 1, 0, 1, 0, 0, 1, 0, 0, 0]) true) (.cond (.tmp 30) (.seq (.region 7 (opsAt f25_b [1, 1, 0, 1, 0, 0, 1, 0, 0, 1, 0, 0]) false) .ret) .skip))) (.region 5 (opsAt f25_b [1, 1, 0, 1, 0, 0, 1, 1]) false)))
noncomputable def f25_k25000 (rd : Option Nat) : Key := .lp 25000 [2, 3, 4, 5] [] f25_c25000 31 rd
noncomputable def f25_c : ACode := (.seq (.region 0 (opsAt f25_b [0]) false) (.seq (.seq (.region 1 (opsAt f25_b [1, 0, 0]) false) (.cond (.tmp 12) (.seq (.region 2 (opsAt f25_b [1, 0, 1, 0, 0]) false) .ret) .skip)) (.seq (.seq (.region 3 (opsAt f25_b [1, 1, 0, 0]) false) (.block 0 (.loop 25000 [2, 3, 4, 5] [] [(.exit 0), .ret] f25_c25000))) (.seq (.region 8 (opsAt f25_b [1, 1, 1, 0]) false) .ret))))
noncomputable def f25_f : AFun := { code := f25_c, nt := 31, res := Try.f25.results.toList, fr := [] }
noncomputable def f26_b : Code := bodyOf Try.f26
noncomputable def f26_c26000 : ACode := (.seq (.seq (.region 4 (opsAt f26_b [1, 1, 0, 1, 0, 0, 0, 0]) false) (.cond (.tmp 14) .skip (.exit 0))) (.seq (.block 1 (.seq (.region 6 (opsAt f26_b [1, 1, 0, 1, 0, 0, 1, 0, 0, 0]) true) (.cond (.tmp 25) (.seq (.region 7 (opsAt f26_b [1, 1, 0, 1, 0, 0, 1, 0, 0, 1, 0, 0]) false) .ret) .skip))) (.region 5 (opsAt f26_b [1, 1, 0, 1, 0, 0, 1, 1]) false)))
noncomputable def f26_k26000 (rd : Option Nat) : Key := .lp 26000 [0, 1, 4, 5] [] f26_c26000 26 rd
noncomputable def f26_c : ACode := (.seq (.region 0 (opsAt f26_b [0]) false) (.seq (.seq (.region 1 (opsAt f26_b [1, 0, 0]) false) (.cond (.tmp 10) (.seq (.region 2 (opsAt f26_b [1, 0, 1, 0, 0]) false) .ret) .skip)) (.seq (.seq (.region 3 (opsAt f26_b [1, 1, 0, 0]) false) (.block 0 (.loop 26000 [0, 1, 4, 5] [] [(.exit 0), .ret] f26_c26000))) (.seq (.region 8 (opsAt f26_b [1, 1, 1, 0]) false) .ret))))
noncomputable def f26_f : AFun := { code := f26_c, nt := 26, res := Try.f26.results.toList, fr := [] }
noncomputable def f28_b : Code := bodyOf Try.f28
noncomputable def f28_c : ACode := (.seq (.region 0 (opsAt f28_b [0]) false) (.seq (.seq (.region 1 (opsAt f28_b [1, 0, 0]) false) (.seq (.region 2 (opsAt f28_b [1, 0, 1, 0]) false) (.cond (.tmp 17) (.seq (.region 3 (opsAt f28_b [1, 0, 1, 1, 0, 0]) false) .ret) .skip))) (.seq (.region 4 (opsAt f28_b [1, 1, 0]) false) (.seq (.region 5 (opsAt f28_b [1, 1, 1, 0]) false) (.seq (.seq (.region 6 (opsAt f28_b [1, 1, 1, 1, 0, 0]) false) (.cond (.tmp 33) (.seq (.region 7 (opsAt f28_b [1, 1, 1, 1, 0, 1, 0, 0]) false) .ret) .skip)) (.seq (.region 8 (opsAt f28_b [1, 1, 1, 1, 1, 0]) true) .ret))))))
noncomputable def f28_f : AFun := { code := f28_c, nt := 39, res := Try.f28.results.toList, fr := [] }
noncomputable def f31_b : Code := bodyOf Try.f31
noncomputable def f31_c31000 : ACode := (.seq (.region 2 (opsAt f31_b [1, 0, 1, 0, 0, 0]) false) (.seq (.cond (.tmp 9) .skip (.exit 0)) (.seq (.block 1 (.seq (.region 3 (opsAt f31_b [1, 0, 1, 0, 0, 1, 1, 0, 0, 0]) false) (.seq (.region 4 (opsAt f31_b [1, 0, 1, 0, 0, 1, 1, 0, 0, 1, 0]) false) (.seq (.region 5 (opsAt f31_b [1, 0, 1, 0, 0, 1, 1, 0, 0, 1, 1, 0]) false) (.cond (.tmp 15) (.seq (.region 6 (opsAt f31_b [1, 0, 1, 0, 0, 1, 1, 0, 0, 1, 1, 1, 0, 0]) false) .ret) .skip))))) (.region 7 (opsAt f31_b [1, 0, 1, 0, 0, 1, 1, 1]) false))))
noncomputable def f31_k31000 (rd : Option Nat) : Key := .lp 31000 [2, 6, 7, 8] [] f31_c31000 18 rd
noncomputable def f31_c : ACode := (.seq (.region 0 (opsAt f31_b [0]) false) (.seq (.seq (.region 1 (opsAt f31_b [1, 0, 0]) false) (.block 0 (.loop 31000 [2, 6, 7, 8] [] [(.exit 0), .ret] f31_c31000))) (.seq (.region 8 (opsAt f31_b [1, 1, 0]) false) .ret)))
noncomputable def f31_f : AFun := { code := f31_c, nt := 18, res := Try.f31.results.toList, fr := [] }
noncomputable def f32_b : Code := bodyOf Try.f32
noncomputable def f32_c : ACode := (.seq (.region 0 (opsAt f32_b [0]) false) (.seq (.seq (.region 1 (opsAt f32_b [1, 0, 0]) false) (.seq (.region 2 (opsAt f32_b [1, 0, 1, 0]) false) (.cond (.tmp 10) (.seq (.region 3 (opsAt f32_b [1, 0, 1, 1, 0, 0]) false) .ret) .skip))) (.seq (.region 4 (opsAt f32_b [1, 1, 0]) false) (.seq (.region 5 (opsAt f32_b [1, 1, 1, 0]) false) .ret))))
noncomputable def f32_f : AFun := { code := f32_c, nt := 18, res := Try.f32.results.toList, fr := [] }
noncomputable def f33_b : Code := bodyOf Try.f33
noncomputable def f33_c33000 : ACode := (.seq (.seq (.region 5 (opsAt f33_b [1, 1, 1, 0, 1, 0, 0, 0, 0]) false) (.cond (.tmp 15) .skip (.exit 0))) (.seq (.block 1 (.region 7 (opsAt f33_b [1, 1, 1, 0, 1, 0, 0, 1, 0, 0]) false)) (.region 6 (opsAt f33_b [1, 1, 1, 0, 1, 0, 0, 1, 1]) false)))
noncomputable def f33_k33000 (rd : Option Nat) : Key := .lp 33000 [0, 3, 4] [] f33_c33000 25 rd
noncomputable def f33_c : ACode := (.seq (.region 0 (opsAt f33_b [0]) false) (.seq (.seq (.region 1 (opsAt f33_b [1, 0, 0]) false) (.join [(.normal, [0])] (.cond (.tmp 7) (.region 2 (opsAt f33_b [1, 0, 1, 0]) false) .skip))) (.seq (.region 3 (opsAt f33_b [1, 1, 0]) false) (.seq (.seq (.region 4 (opsAt f33_b [1, 1, 1, 0, 0]) false) (.block 0 (.loop 33000 [0, 3, 4] [] [(.exit 0)] f33_c33000))) (.seq (.region 8 (opsAt f33_b [1, 1, 1, 1, 0]) false) .ret)))))
noncomputable def f33_f : AFun := { code := f33_c, nt := 25, res := Try.f33.results.toList, fr := [] }
noncomputable def f34_b : Code := bodyOf Try.f34
noncomputable def f34_c : ACode := (.seq (.region 0 (opsAt f34_b [0]) false) (.seq (.region 1 (opsAt f34_b [1, 0]) false) .ret))
noncomputable def f34_f : AFun := { code := f34_c, nt := 1, res := Try.f34.results.toList, fr := [] }
noncomputable def f35_b : Code := bodyOf Try.f35
noncomputable def f35_c35001 : ACode := (.seq (.region 11 (opsAt f35_b [1, 1, 1, 1, 1, 1, 0, 1, 0, 0, 1, 0, 0, 1, 1, 0, 0, 0]) false) (.seq (.cond (.tmp 55) .skip (.exit 2)) (.seq (.join [(.ret, [4, 5, 8, 9, 10, 11, 12, 13, 14, 15, 53, 54]), (.normal, [4, 5, 8, 9, 10, 11, 12, 13, 14, 15, 53, 54])] (.block 3 (.seq (.region 12 (opsAt f35_b [1, 1, 1, 1, 1, 1, 0, 1, 0, 0, 1, 0, 0, 1, 1, 0, 0, 1, 1, 0, 0, 0]) false) (.seq (.region 13 (opsAt f35_b [1, 1, 1, 1, 1, 1, 0, 1, 0, 0, 1, 0, 0, 1, 1, 0, 0, 1, 1, 0, 0, 1, 0]) true) (.seq (.seq (.region 14 (opsAt f35_b [1, 1, 1, 1, 1, 1, 0, 1, 0, 0, 1, 0, 0, 1, 1, 0, 0, 1, 1, 0, 0, 1, 1, 0, 0]) false) (.cond (.tmp 81) (.seq (.region 15 (opsAt f35_b [1, 1, 1, 1, 1, 1, 0, 1, 0, 0, 1, 0, 0, 1, 1, 0, 0, 1, 1, 0, 0, 1, 1, 0, 1, 0, 0]) false) .ret) .skip)) (.seq (.seq (.region 16 (opsAt f35_b [1, 1, 1, 1, 1, 1, 0, 1, 0, 0, 1, 0, 0, 1, 1, 0, 0, 1, 1, 0, 0, 1, 1, 1, 0, 0]) false) (.cond (.tmp 85) (.exit 3) .skip)) (.seq (.region 17 (opsAt f35_b [1, 1, 1, 1, 1, 1, 0, 1, 0, 0, 1, 0, 0, 1, 1, 0, 0, 1, 1, 0, 0, 1, 1, 1, 1, 0]) true) (.seq (.seq (.region 18 (opsAt f35_b [1, 1, 1, 1, 1, 1, 0, 1, 0, 0, 1, 0, 0, 1, 1, 0, 0, 1, 1, 0, 0, 1, 1, 1, 1, 1, 0, 0]) false) (.join [(.normal, [4, 5, 8, 9, 10, 11, 12, 13, 14, 15, 17, 18, 19, 53, 54])] (.cond (.tmp 102) (.seq (.region 19 (opsAt f35_b [1, 1, 1, 1, 1, 1, 0, 1, 0, 0, 1, 0, 0, 1, 1, 0, 0, 1, 1, 0, 0, 1, 1, 1, 1, 1, 0, 1, 0, 0]) false) (.seq (.region 20 (opsAt f35_b [1, 1, 1, 1, 1, 1, 0, 1, 0, 0, 1, 0, 0, 1, 1, 0, 0, 1, 1, 0, 0, 1, 1, 1, 1, 1, 0, 1, 0, 1, 0]) true) (.region 21 (opsAt f35_b [1, 1, 1, 1, 1, 1, 0, 1, 0, 0, 1, 0, 0, 1, 1, 0, 0, 1, 1, 0, 0, 1, 1, 1, 1, 1, 0, 1, 0, 1, 1]) false))) .skip))) (.seq (.region 22 (opsAt f35_b [1, 1, 1, 1, 1, 1, 0, 1, 0, 0, 1, 0, 0, 1, 1, 0, 0, 1, 1, 0, 0, 1, 1, 1, 1, 1, 1, 0]) true) (.cond (.tmp 142) (.seq (.region 23 (opsAt f35_b [1, 1, 1, 1, 1, 1, 0, 1, 0, 0, 1, 0, 0, 1, 1, 0, 0, 1, 1, 0, 0, 1, 1, 1, 1, 1, 1, 1, 0, 0]) false) .ret) .skip)))))))))) (.region 24 (opsAt f35_b [1, 1, 1, 1, 1, 1, 0, 1, 0, 0, 1, 0, 0, 1, 1, 0, 0, 1, 1, 1]) false))))
noncomputable def f35_k35001 (rd : Option Nat) : Key := .lp 35001 [4, 5, 8, 9, 10, 11, 12, 13, 14, 15, 53, 54] [] f35_c35001 157 rd
noncomputable def f35_c35000 : ACode := (.seq (.seq (.region 7 (opsAt f35_b [1, 1, 1, 1, 1, 1, 0, 1, 0, 0, 0, 0]) false) (.cond (.tmp 42) .skip (.exit 0))) (.seq (.block 1 (.seq (.region 9 (opsAt f35_b [1, 1, 1, 1, 1, 1, 0, 1, 0, 0, 1, 0, 0, 0]) false) (.seq (.region 10 (opsAt f35_b [1, 1, 1, 1, 1, 1, 0, 1, 0, 0, 1, 0, 0, 1, 0]) false) (.block 2 (.loop 35001 [4, 5, 8, 9, 10, 11, 12, 13, 14, 15, 53, 54] [] [(.exit 2), .ret] f35_c35001))))) (.region 8 (opsAt f35_b [1, 1, 1, 1, 1, 1, 0, 1, 0, 0, 1, 1]) false)))
noncomputable def f35_k35000 (rd : Option Nat) : Key := .lp 35000 [4, 5, 8, 9, 10, 11, 12, 13, 14] [] f35_c35000 157 rd
noncomputable def f35_c : ACode := (.seq (.region 0 (opsAt f35_b [0]) false) (.seq (.region 1 (opsAt f35_b [1, 0]) false) (.seq (.region 2 (opsAt f35_b [1, 1, 0]) true) (.seq (.region 3 (opsAt f35_b [1, 1, 1, 0]) false) (.seq (.region 4 (opsAt f35_b [1, 1, 1, 1, 0]) true) (.seq (.region 5 (opsAt f35_b [1, 1, 1, 1, 1, 0]) false) (.seq (.seq (.region 6 (opsAt f35_b [1, 1, 1, 1, 1, 1, 0, 0]) false) (.block 0 (.loop 35000 [4, 5, 8, 9, 10, 11, 12, 13, 14] [] [(.exit 0), .ret] f35_c35000))) (.seq (.region 25 (opsAt f35_b [1, 1, 1, 1, 1, 1, 1, 0]) true) .ret))))))))
noncomputable def f35_f : AFun := { code := f35_c, nt := 157, res := Try.f35.results.toList, fr := [] }
noncomputable def f39_b : Code := bodyOf Try.f39
noncomputable def f39_c : ACode := (.seq (.region 0 (opsAt f39_b [0]) false) (.seq (.region 1 (opsAt f39_b [1, 0]) false) .ret))
noncomputable def f39_f : AFun := { code := f39_c, nt := 12, res := Try.f39.results.toList, fr := [] }
noncomputable def f40_b : Code := bodyOf Try.f40
noncomputable def f40_c40000 : ACode := (.seq (.region 10 (opsAt f40_b [1, 1, 1, 1, 1, 1, 0, 1, 0, 0, 0]) false) (.seq (.cond (.tmp 52) .skip (.exit 0)) (.seq (.block 1 (.seq (.region 11 (opsAt f40_b [1, 1, 1, 1, 1, 1, 0, 1, 0, 0, 1, 1, 0, 0, 0]) false) (.seq (.seq (.region 12 (opsAt f40_b [1, 1, 1, 1, 1, 1, 0, 1, 0, 0, 1, 1, 0, 0, 1, 0, 0]) false) (.cond (.tmp 68) (.seq (.region 13 (opsAt f40_b [1, 1, 1, 1, 1, 1, 0, 1, 0, 0, 1, 1, 0, 0, 1, 0, 1, 0, 0]) false) .ret) .skip)) (.region 14 (opsAt f40_b [1, 1, 1, 1, 1, 1, 0, 1, 0, 0, 1, 1, 0, 0, 1, 1]) false)))) (.region 15 (opsAt f40_b [1, 1, 1, 1, 1, 1, 0, 1, 0, 0, 1, 1, 1]) false))))
noncomputable def f40_k40000 (rd : Option Nat) : Key := .lp 40000 [1, 2, 3, 6, 7, 9, 10, 11, 49, 50, 51] [] f40_c40000 139 rd
noncomputable def f40_c40002 : ACode := (.seq (.region 22 (opsAt f40_b [1, 1, 1, 1, 1, 1, 1, 1, 0, 1, 0, 0, 1, 1, 0, 0, 1, 1, 0, 1, 0, 0, 0]) false) (.seq (.cond (.tmp 86) .skip (.exit 4)) (.seq (.block 5 (.seq (.region 23 (opsAt f40_b [1, 1, 1, 1, 1, 1, 1, 1, 0, 1, 0, 0, 1, 1, 0, 0, 1, 1, 0, 1, 0, 0, 1, 1, 0, 0, 0]) false) (.seq (.region 24 (opsAt f40_b [1, 1, 1, 1, 1, 1, 1, 1, 0, 1, 0, 0, 1, 1, 0, 0, 1, 1, 0, 1, 0, 0, 1, 1, 0, 0, 1, 0]) true) (.seq (.region 25 (opsAt f40_b [1, 1, 1, 1, 1, 1, 1, 1, 0, 1, 0, 0, 1, 1, 0, 0, 1, 1, 0, 1, 0, 0, 1, 1, 0, 0, 1, 1, 0]) false) (.seq (.region 26 (opsAt f40_b [1, 1, 1, 1, 1, 1, 1, 1, 0, 1, 0, 0, 1, 1, 0, 0, 1, 1, 0, 1, 0, 0, 1, 1, 0, 0, 1, 1, 1, 0]) false) (.join [(.normal, [2, 3, 6, 10, 14, 15, 16, 17, 78, 79, 80, 85])] (.cond (.tmp 107) (.seq (.region 27 (opsAt f40_b [1, 1, 1, 1, 1, 1, 1, 1, 0, 1, 0, 0, 1, 1, 0, 0, 1, 1, 0, 1, 0, 0, 1, 1, 0, 0, 1, 1, 1, 1, 0, 0]) false) (.region 28 (opsAt f40_b [1, 1, 1, 1, 1, 1, 1, 1, 0, 1, 0, 0, 1, 1, 0, 0, 1, 1, 0, 1, 0, 0, 1, 1, 0, 0, 1, 1, 1, 1, 0, 1]) true)) .skip))))))) (.region 29 (opsAt f40_b [1, 1, 1, 1, 1, 1, 1, 1, 0, 1, 0, 0, 1, 1, 0, 0, 1, 1, 0, 1, 0, 0, 1, 1, 1]) false))))
noncomputable def f40_k40002 (rd : Option Nat) : Key := .lp 40002 [2, 3, 6, 10, 14, 15, 16, 17, 78, 79, 80, 85] [] f40_c40002 139 rd
noncomputable def f40_c40001 : ACode := (.seq (.region 18 (opsAt f40_b [1, 1, 1, 1, 1, 1, 1, 1, 0, 1, 0, 0, 0]) false) (.seq (.cond (.tmp 81) .skip (.exit 2)) (.seq (.block 3 (.seq (.region 19 (opsAt f40_b [1, 1, 1, 1, 1, 1, 1, 1, 0, 1, 0, 0, 1, 1, 0, 0, 0]) false) (.seq (.region 20 (opsAt f40_b [1, 1, 1, 1, 1, 1, 1, 1, 0, 1, 0, 0, 1, 1, 0, 0, 1, 0]) false) (.seq (.seq (.region 21 (opsAt f40_b [1, 1, 1, 1, 1, 1, 1, 1, 0, 1, 0, 0, 1, 1, 0, 0, 1, 1, 0, 0]) false) (.block 4 (.loop 40002 [2, 3, 6, 10, 14, 15, 16, 17, 78, 79, 80, 85] [] [(.exit 4)] f40_c40002))) (.region 30 (opsAt f40_b [1, 1, 1, 1, 1, 1, 1, 1, 0, 1, 0, 0, 1, 1, 0, 0, 1, 1, 1]) false))))) (.region 31 (opsAt f40_b [1, 1, 1, 1, 1, 1, 1, 1, 0, 1, 0, 0, 1, 1, 1]) false))))
noncomputable def f40_k40001 (rd : Option Nat) : Key := .lp 40001 [2, 3, 6, 10, 14, 78, 79, 80] [] f40_c40001 139 rd
noncomputable def f40_c : ACode := (.seq (.region 0 (opsAt f40_b [0]) false) (.seq (.seq (.region 1 (opsAt f40_b [1, 0, 0]) false) (.seq (.region 2 (opsAt f40_b [1, 0, 1, 0]) false) (.cond (.tmp 24) (.seq (.region 3 (opsAt f40_b [1, 0, 1, 1, 0, 0]) false) .ret) .skip))) (.seq (.region 4 (opsAt f40_b [1, 1, 0]) false) (.seq (.region 5 (opsAt f40_b [1, 1, 1, 0]) false) (.seq (.region 6 (opsAt f40_b [1, 1, 1, 1, 0]) false) (.seq (.seq (.region 7 (opsAt f40_b [1, 1, 1, 1, 1, 0, 0]) false) (.cond (.tmp 47) (.seq (.region 8 (opsAt f40_b [1, 1, 1, 1, 1, 0, 1, 0, 0]) false) .ret) .skip)) (.seq (.seq (.region 9 (opsAt f40_b [1, 1, 1, 1, 1, 1, 0, 0]) false) (.block 0 (.loop 40000 [1, 2, 3, 6, 7, 9, 10, 11, 49, 50, 51] [] [(.exit 0), .ret] f40_c40000))) (.seq (.region 16 (opsAt f40_b [1, 1, 1, 1, 1, 1, 1, 0]) false) (.seq (.seq (.region 17 (opsAt f40_b [1, 1, 1, 1, 1, 1, 1, 1, 0, 0]) false) (.block 2 (.loop 40001 [2, 3, 6, 10, 14, 78, 79, 80] [] [(.exit 2)] f40_c40001))) (.seq (.region 32 (opsAt f40_b [1, 1, 1, 1, 1, 1, 1, 1, 1, 0]) false) .ret))))))))))
noncomputable def f40_f : AFun := { code := f40_c, nt := 139, res := Try.f40.results.toList, fr := [] }
noncomputable def f41_b : Code := bodyOf Try.f41
noncomputable def f41_c : ACode := (.seq (.region 0 (opsAt f41_b [0]) false) (.seq (.region 1 (opsAt f41_b [1, 0]) false) .ret))
noncomputable def f41_f : AFun := { code := f41_c, nt := 10, res := Try.f41.results.toList, fr := [] }
noncomputable def f42_b : Code := bodyOf Try.f42
noncomputable def f42_c42000 : ACode := (.seq (.region 6 (opsAt f42_b [1, 1, 1, 1, 0, 1, 0, 0, 0]) false) (.seq (.cond (.tmp 26) .skip (.exit 0)) (.seq (.block 1 (.seq (.region 7 (opsAt f42_b [1, 1, 1, 1, 0, 1, 0, 0, 1, 1, 0, 0, 0]) false) (.seq (.seq (.region 8 (opsAt f42_b [1, 1, 1, 1, 0, 1, 0, 0, 1, 1, 0, 0, 1, 0, 0]) false) (.cond (.tmp 40) (.seq (.region 9 (opsAt f42_b [1, 1, 1, 1, 0, 1, 0, 0, 1, 1, 0, 0, 1, 0, 1, 0, 0]) false) .ret) .skip)) (.region 10 (opsAt f42_b [1, 1, 1, 1, 0, 1, 0, 0, 1, 1, 0, 0, 1, 1]) false)))) (.region 11 (opsAt f42_b [1, 1, 1, 1, 0, 1, 0, 0, 1, 1, 1]) false))))
noncomputable def f42_k42000 (rd : Option Nat) : Key := .lp 42000 [1, 2, 3, 4, 23, 24, 25] [] f42_c42000 55 rd
noncomputable def f42_c42001 : ACode := (.seq (.region 13 (opsAt f42_b [1, 1, 1, 1, 1, 0, 1, 0, 0, 0]) false) (.seq (.cond (.tmp 48) .skip (.exit 2)) (.seq (.block 3 (.seq (.region 14 (opsAt f42_b [1, 1, 1, 1, 1, 0, 1, 0, 0, 1, 1, 0, 0, 0]) false) (.seq (.region 15 (opsAt f42_b [1, 1, 1, 1, 1, 0, 1, 0, 0, 1, 1, 0, 0, 1, 0]) false) (.cond (.tmp 53) (.seq (.region 16 (opsAt f42_b [1, 1, 1, 1, 1, 0, 1, 0, 0, 1, 1, 0, 0, 1, 1, 0, 0]) false) .ret) .skip)))) (.region 17 (opsAt f42_b [1, 1, 1, 1, 1, 0, 1, 0, 0, 1, 1, 1]) false))))
noncomputable def f42_k42001 (rd : Option Nat) : Key := .lp 42001 [2, 45, 46, 47] [] f42_c42001 55 rd
noncomputable def f42_c : ACode := (.seq (.region 0 (opsAt f42_b [0]) false) (.seq (.region 1 (opsAt f42_b [1, 0]) false) (.seq (.seq (.region 2 (opsAt f42_b [1, 1, 0, 0]) false) (.cond (.tmp 20) (.seq (.region 3 (opsAt f42_b [1, 1, 0, 1, 0, 0]) false) .ret) .skip)) (.seq (.region 4 (opsAt f42_b [1, 1, 1, 0]) false) (.seq (.seq (.region 5 (opsAt f42_b [1, 1, 1, 1, 0, 0]) false) (.block 0 (.loop 42000 [1, 2, 3, 4, 23, 24, 25] [] [(.exit 0), .ret] f42_c42000))) (.seq (.seq (.region 12 (opsAt f42_b [1, 1, 1, 1, 1, 0, 0]) false) (.block 2 (.loop 42001 [2, 45, 46, 47] [] [(.exit 2), .ret] f42_c42001))) (.seq (.region 18 (opsAt f42_b [1, 1, 1, 1, 1, 1, 0]) false) .ret)))))))
noncomputable def f42_f : AFun := { code := f42_c, nt := 55, res := Try.f42.results.toList, fr := [] }
noncomputable def f43_b : Code := bodyOf Try.f43
noncomputable def f43_c43000 : ACode := (.seq (.region 3 (opsAt f43_b [1, 1, 0, 1, 0, 0, 0]) false) (.seq (.cond (.tmp 12) .skip (.exit 0)) (.seq (.block 1 (.seq (.region 4 (opsAt f43_b [1, 1, 0, 1, 0, 0, 1, 1, 0, 0, 0]) false) (.seq (.region 5 (opsAt f43_b [1, 1, 0, 1, 0, 0, 1, 1, 0, 0, 1, 0]) true) (.region 6 (opsAt f43_b [1, 1, 0, 1, 0, 0, 1, 1, 0, 0, 1, 1]) true)))) (.region 7 (opsAt f43_b [1, 1, 0, 1, 0, 0, 1, 1, 1]) false))))
noncomputable def f43_k43000 (rd : Option Nat) : Key := .lp 43000 [2, 3, 4, 5, 9, 10, 11] [] f43_c43000 44 rd
noncomputable def f43_c : ACode := (.seq (.region 0 (opsAt f43_b [0]) false) (.seq (.region 1 (opsAt f43_b [1, 0]) false) (.seq (.seq (.region 2 (opsAt f43_b [1, 1, 0, 0]) false) (.block 0 (.loop 43000 [2, 3, 4, 5, 9, 10, 11] [] [(.exit 0)] f43_c43000))) (.seq (.region 8 (opsAt f43_b [1, 1, 1, 0]) false) .ret))))
noncomputable def f43_f : AFun := { code := f43_c, nt := 44, res := Try.f43.results.toList, fr := [] }
noncomputable def f45_b : Code := bodyOf Try.f45
noncomputable def f45_c45000 : ACode := (.seq (.seq (.region 5 (opsAt f45_b [1, 1, 1, 0, 1, 0, 0, 0, 0]) false) (.cond (.tmp 17) .skip (.exit 0))) (.seq (.block 1 (.region 7 (opsAt f45_b [1, 1, 1, 0, 1, 0, 0, 1, 0, 0]) false)) (.region 6 (opsAt f45_b [1, 1, 1, 0, 1, 0, 0, 1, 1]) false)))
noncomputable def f45_k45000 (rd : Option Nat) : Key := .lp 45000 [2, 3, 4, 5, 6] [] f45_c45000 28 rd
noncomputable def f45_c : ACode := (.seq (.region 0 (opsAt f45_b [0]) false) (.seq (.region 1 (opsAt f45_b [1, 0]) false) (.seq (.seq (.region 2 (opsAt f45_b [1, 1, 0, 0]) false) (.cond (.tmp 14) (.seq (.region 3 (opsAt f45_b [1, 1, 0, 1, 0, 0]) false) .ret) .skip)) (.seq (.seq (.region 4 (opsAt f45_b [1, 1, 1, 0, 0]) false) (.block 0 (.loop 45000 [2, 3, 4, 5, 6] [] [(.exit 0)] f45_c45000))) (.seq (.region 8 (opsAt f45_b [1, 1, 1, 1, 0]) false) .ret)))))
noncomputable def f45_f : AFun := { code := f45_c, nt := 28, res := Try.f45.results.toList, fr := [] }
noncomputable def f46_b : Code := bodyOf Try.f46
noncomputable def f46_c46000 : ACode := (.seq (.region 3 (opsAt f46_b [1, 1, 0, 1, 0, 0, 0]) false) (.seq (.cond (.tmp 19) .skip (.exit 0)) (.seq (.block 1 (.seq (.region 4 (opsAt f46_b [1, 1, 0, 1, 0, 0, 1, 1, 0, 0, 0]) false) (.region 5 (opsAt f46_b [1, 1, 0, 1, 0, 0, 1, 1, 0, 0, 1]) true))) (.region 6 (opsAt f46_b [1, 1, 0, 1, 0, 0, 1, 1, 1]) false))))
noncomputable def f46_k46000 (rd : Option Nat) : Key := .lp 46000 [1, 2, 3, 16, 17, 18] [] f46_c46000 40 rd
noncomputable def f46_c : ACode := (.seq (.region 0 (opsAt f46_b [0]) false) (.seq (.region 1 (opsAt f46_b [1, 0]) true) (.seq (.seq (.region 2 (opsAt f46_b [1, 1, 0, 0]) false) (.block 0 (.loop 46000 [1, 2, 3, 16, 17, 18] [] [(.exit 0)] f46_c46000))) (.seq (.region 7 (opsAt f46_b [1, 1, 1, 0]) false) .ret))))
noncomputable def f46_f : AFun := { code := f46_c, nt := 40, res := Try.f46.results.toList, fr := [] }
noncomputable def f47_b : Code := bodyOf Try.f47
noncomputable def f47_c47000 : ACode := (.seq (.seq (.region 5 (opsAt f47_b [1, 1, 1, 0, 1, 0, 0, 0, 0]) false) (.cond (.tmp 10) .skip (.exit 0))) (.seq (.block 1 (.region 7 (opsAt f47_b [1, 1, 1, 0, 1, 0, 0, 1, 0, 0]) false)) (.region 6 (opsAt f47_b [1, 1, 1, 0, 1, 0, 0, 1, 1]) false)))
noncomputable def f47_k47000 (rd : Option Nat) : Key := .lp 47000 [1, 2, 3, 4] [] f47_c47000 19 rd
noncomputable def f47_c : ACode := (.seq (.region 0 (opsAt f47_b [0]) false) (.seq (.region 1 (opsAt f47_b [1, 0]) false) (.seq (.seq (.region 2 (opsAt f47_b [1, 1, 0, 0]) false) (.cond (.tmp 7) (.seq (.region 3 (opsAt f47_b [1, 1, 0, 1, 0, 0]) false) .ret) .skip)) (.seq (.seq (.region 4 (opsAt f47_b [1, 1, 1, 0, 0]) false) (.block 0 (.loop 47000 [1, 2, 3, 4] [] [(.exit 0)] f47_c47000))) (.seq (.region 8 (opsAt f47_b [1, 1, 1, 1, 0]) false) .ret)))))
noncomputable def f47_f : AFun := { code := f47_c, nt := 19, res := Try.f47.results.toList, fr := [] }
noncomputable def f48_b : Code := bodyOf Try.f48
noncomputable def f48_c48000 : ACode := (.seq (.seq (.region 5 (opsAt f48_b [1, 1, 1, 0, 1, 0, 0, 0, 0]) false) (.cond (.tmp 23) .skip (.exit 0))) (.seq (.block 1 (.seq (.seq (.region 7 (opsAt f48_b [1, 1, 1, 0, 1, 0, 0, 1, 0, 0, 0, 0]) false) (.cond (.tmp 55) (.seq (.region 8 (opsAt f48_b [1, 1, 1, 0, 1, 0, 0, 1, 0, 0, 0, 1, 0, 0]) false) .ret) .skip)) (.region 9 (opsAt f48_b [1, 1, 1, 0, 1, 0, 0, 1, 0, 0, 1]) false))) (.region 6 (opsAt f48_b [1, 1, 1, 0, 1, 0, 0, 1, 1]) false)))
noncomputable def f48_k48000 (rd : Option Nat) : Key := .lp 48000 [0, 1, 2, 6, 7, 8] [] f48_c48000 62 rd
noncomputable def f48_c : ACode := (.seq (.region 0 (opsAt f48_b [0]) false) (.seq (.seq (.region 1 (opsAt f48_b [1, 0, 0]) false) (.cond (.tmp 18) (.seq (.region 2 (opsAt f48_b [1, 0, 1, 0, 0]) false) .ret) .skip)) (.seq (.region 3 (opsAt f48_b [1, 1, 0]) false) (.seq (.seq (.region 4 (opsAt f48_b [1, 1, 1, 0, 0]) false) (.block 0 (.loop 48000 [0, 1, 2, 6, 7, 8] [] [(.exit 0), .ret] f48_c48000))) (.seq (.region 10 (opsAt f48_b [1, 1, 1, 1, 0]) false) .ret)))))
noncomputable def f48_f : AFun := { code := f48_c, nt := 62, res := Try.f48.results.toList, fr := [] }
noncomputable def f49_b : Code := bodyOf Try.f49
noncomputable def f49_c49002 : ACode := (.seq (.region 11 (opsAt f49_b [1, 1, 1, 0, 1, 0, 0, 1, 1, 0, 0, 1, 1, 0, 1, 0, 0, 1, 1, 0, 0, 1, 0, 1, 0, 0, 0]) false) (.seq (.cond (.tmp 32) .skip (.exit 4)) (.seq (.block 5 (.seq (.region 12 (opsAt f49_b [1, 1, 1, 0, 1, 0, 0, 1, 1, 0, 0, 1, 1, 0, 1, 0, 0, 1, 1, 0, 0, 1, 0, 1, 0, 0, 1, 1, 0, 0, 0]) false) (.seq (.region 13 (opsAt f49_b [1, 1, 1, 0, 1, 0, 0, 1, 1, 0, 0, 1, 1, 0, 1, 0, 0, 1, 1, 0, 0, 1, 0, 1, 0, 0, 1, 1, 0, 0, 1, 0]) false) (.join [(.normal, [2, 3, 4, 5, 7, 8, 10, 13, 14, 15, 25, 26, 27, 31])] (.cond (.tmp 38) (.region 14 (opsAt f49_b [1, 1, 1, 0, 1, 0, 0, 1, 1, 0, 0, 1, 1, 0, 1, 0, 0, 1, 1, 0, 0, 1, 0, 1, 0, 0, 1, 1, 0, 0, 1, 1, 0]) false) .skip))))) (.region 15 (opsAt f49_b [1, 1, 1, 0, 1, 0, 0, 1, 1, 0, 0, 1, 1, 0, 1, 0, 0, 1, 1, 0, 0, 1, 0, 1, 0, 0, 1, 1, 1]) false))))
noncomputable def f49_k49002 (rd : Option Nat) : Key := .lp 49002 [2, 3, 4, 5, 7, 8, 10, 13, 14, 15, 25, 26, 27, 31] [] f49_c49002 76 rd
noncomputable def f49_c49001 : ACode := (.seq (.region 8 (opsAt f49_b [1, 1, 1, 0, 1, 0, 0, 1, 1, 0, 0, 1, 1, 0, 1, 0, 0, 0]) false) (.seq (.cond (.tmp 28) .skip (.exit 2)) (.seq (.block 3 (.seq (.region 9 (opsAt f49_b [1, 1, 1, 0, 1, 0, 0, 1, 1, 0, 0, 1, 1, 0, 1, 0, 0, 1, 1, 0, 0, 0]) false) (.seq (.seq (.region 10 (opsAt f49_b [1, 1, 1, 0, 1, 0, 0, 1, 1, 0, 0, 1, 1, 0, 1, 0, 0, 1, 1, 0, 0, 1, 0, 0]) false) (.block 4 (.loop 49002 [2, 3, 4, 5, 7, 8, 10, 13, 14, 15, 25, 26, 27, 31] [] [(.exit 4)] f49_c49002))) (.region 16 (opsAt f49_b [1, 1, 1, 0, 1, 0, 0, 1, 1, 0, 0, 1, 1, 0, 1, 0, 0, 1, 1, 0, 0, 1, 1]) false)))) (.region 17 (opsAt f49_b [1, 1, 1, 0, 1, 0, 0, 1, 1, 0, 0, 1, 1, 0, 1, 0, 0, 1, 1, 1]) false))))
noncomputable def f49_k49001 (rd : Option Nat) : Key := .lp 49001 [2, 3, 4, 5, 7, 8, 13, 14, 15, 25, 26, 27] [] f49_c49001 76 rd
noncomputable def f49_c49000 : ACode := (.seq (.region 4 (opsAt f49_b [1, 1, 1, 0, 1, 0, 0, 0]) false) (.seq (.cond (.tmp 16) .skip (.exit 0)) (.seq (.block 1 (.seq (.region 5 (opsAt f49_b [1, 1, 1, 0, 1, 0, 0, 1, 1, 0, 0, 0]) false) (.seq (.region 6 (opsAt f49_b [1, 1, 1, 0, 1, 0, 0, 1, 1, 0, 0, 1, 0]) false) (.seq (.seq (.region 7 (opsAt f49_b [1, 1, 1, 0, 1, 0, 0, 1, 1, 0, 0, 1, 1, 0, 0]) false) (.block 2 (.loop 49001 [2, 3, 4, 5, 7, 8, 13, 14, 15, 25, 26, 27] [] [(.exit 2)] f49_c49001))) (.seq (.region 18 (opsAt f49_b [1, 1, 1, 0, 1, 0, 0, 1, 1, 0, 0, 1, 1, 1, 0]) true) (.region 19 (opsAt f49_b [1, 1, 1, 0, 1, 0, 0, 1, 1, 0, 0, 1, 1, 1, 1]) true)))))) (.region 20 (opsAt f49_b [1, 1, 1, 0, 1, 0, 0, 1, 1, 1]) false))))
noncomputable def f49_k49000 (rd : Option Nat) : Key := .lp 49000 [2, 3, 4, 5, 13, 14, 15] [] f49_c49000 76 rd
noncomputable def f49_c : ACode := (.seq (.region 0 (opsAt f49_b [0]) false) (.seq (.region 1 (opsAt f49_b [1, 0]) false) (.seq (.region 2 (opsAt f49_b [1, 1, 0]) false) (.seq (.seq (.region 3 (opsAt f49_b [1, 1, 1, 0, 0]) false) (.block 0 (.loop 49000 [2, 3, 4, 5, 13, 14, 15] [] [(.exit 0)] f49_c49000))) (.seq (.region 21 (opsAt f49_b [1, 1, 1, 1, 0]) true) .ret)))))
noncomputable def f49_f : AFun := { code := f49_c, nt := 76, res := Try.f49.results.toList, fr := [] }
noncomputable def f50_b : Code := bodyOf Try.f50
noncomputable def f50_c50000 : ACode := (.seq (.seq (.region 3 (opsAt f50_b [1, 1, 0, 1, 0, 0, 0, 0]) false) (.cond (.tmp 6) .skip (.exit 0))) (.seq (.block 1 (.seq (.seq (.region 5 (opsAt f50_b [1, 1, 0, 1, 0, 0, 1, 0, 0, 0, 0]) false) (.cond (.tmp 25) (.seq (.region 6 (opsAt f50_b [1, 1, 0, 1, 0, 0, 1, 0, 0, 0, 1, 0, 0]) false) .ret) .skip)) (.region 7 (opsAt f50_b [1, 1, 0, 1, 0, 0, 1, 0, 0, 1]) false))) (.region 4 (opsAt f50_b [1, 1, 0, 1, 0, 0, 1, 1]) false)))
noncomputable def f50_k50000 (rd : Option Nat) : Key := .lp 50000 [1, 2, 3, 4] [] f50_c50000 30 rd
noncomputable def f50_c : ACode := (.seq (.region 0 (opsAt f50_b [0]) false) (.seq (.region 1 (opsAt f50_b [1, 0]) false) (.seq (.seq (.region 2 (opsAt f50_b [1, 1, 0, 0]) false) (.block 0 (.loop 50000 [1, 2, 3, 4] [] [(.exit 0), .ret] f50_c50000))) (.seq (.region 8 (opsAt f50_b [1, 1, 1, 0]) false) .ret))))
noncomputable def f50_f : AFun := { code := f50_c, nt := 30, res := Try.f50.results.toList, fr := [] }
noncomputable def f57_b : Code := bodyOf Try.f57
noncomputable def f57_a57000 : ACode := (.seq (.region 5 (opsAt f57_b [1, 1, 1, 0, 1, 0, 0, 0]) false) (.region 6 (opsAt f57_b [1, 1, 1, 0, 1, 0, 0, 1]) false))
noncomputable def f57_c57000 : ACode := (.join [(.normal, []), (.ret, [])] (.block 1 (.seq (.seq (.region 7 (opsAt f57_b [1, 1, 1, 0, 1, 0, 1, 0, 0, 0]) false) (.cond (.tmp 17) (.exit 1) .skip)) (.seq (.seq (.region 8 (opsAt f57_b [1, 1, 1, 0, 1, 0, 1, 0, 1, 0, 0]) true) (.cond (.tmp 51) (.seq (.region 9 (opsAt f57_b [1, 1, 1, 0, 1, 0, 1, 0, 1, 0, 1, 0, 0]) false) .ret) .skip)) (.seq (.region 10 (opsAt f57_b [1, 1, 1, 0, 1, 0, 1, 0, 1, 1, 0]) true) (.cond (.tmp 70) (.seq (.region 11 (opsAt f57_b [1, 1, 1, 0, 1, 0, 1, 0, 1, 1, 1, 0, 0]) false) .ret) .skip))))))
noncomputable def f57_c : ACode := (.seq (.region 0 (opsAt f57_b [0]) false) (.seq (.seq (.region 1 (opsAt f57_b [1, 0, 0]) false) (.cond (.tmp 9) (.seq (.region 2 (opsAt f57_b [1, 0, 1, 0, 0]) false) .ret) .skip)) (.seq (.region 3 (opsAt f57_b [1, 1, 0]) false) (.seq (.seq (.region 4 (opsAt f57_b [1, 1, 1, 0, 0]) false) (.block 0 (.rangeFunc 57000 [1, 2, 3] [] [.normal, .ret] (.tmp 12) #[13, 14] f57_a57000 f57_c57000))) (.seq (.region 12 (opsAt f57_b [1, 1, 1, 1, 0]) false) .ret)))))
noncomputable def f57_f : AFun := { code := f57_c, nt := 71, res := Try.f57.results.toList, fr := [] }
noncomputable def f58_b : Code := bodyOf Try.f58
noncomputable def f58_c58000 : ACode := (.seq (.region 3 (opsAt f58_b [1, 1, 0, 1, 0, 0, 0]) false) (.seq (.cond (.tmp 19) .skip (.exit 0)) (.seq (.block 1 (.seq (.region 4 (opsAt f58_b [1, 1, 0, 1, 0, 0, 1, 1, 0, 0, 0]) false) (.region 5 (opsAt f58_b [1, 1, 0, 1, 0, 0, 1, 1, 0, 0, 1]) false))) (.region 6 (opsAt f58_b [1, 1, 0, 1, 0, 0, 1, 1, 1]) false))))
noncomputable def f58_k58000 (rd : Option Nat) : Key := .lp 58000 [1, 4, 17, 18] [] f58_c58000 85 rd
noncomputable def f58_c58003 : ACode := (.seq (.region 18 (opsAt f58_b [1, 1, 1, 1, 0, 1, 0, 0, 1, 1, 0, 0, 1, 1, 1, 1, 0, 1, 0, 0, 1, 0, 0, 1, 0, 0, 0]) false) (.seq (.cond (.tmp 56) .skip (.exit 6)) (.seq (.block 7 (.seq (.region 19 (opsAt f58_b [1, 1, 1, 1, 0, 1, 0, 0, 1, 1, 0, 0, 1, 1, 1, 1, 0, 1, 0, 0, 1, 0, 0, 1, 0, 0, 1, 1, 0, 0, 0]) false) (.seq (.region 20 (opsAt f58_b [1, 1, 1, 1, 0, 1, 0, 0, 1, 1, 0, 0, 1, 1, 1, 1, 0, 1, 0, 0, 1, 0, 0, 1, 0, 0, 1, 1, 0, 0, 1, 0]) false) (.join [(.normal, [1, 4, 6, 8, 9, 26, 27, 54, 55])] (.cond (.tmp 68) (.seq (.region 21 (opsAt f58_b [1, 1, 1, 1, 0, 1, 0, 0, 1, 1, 0, 0, 1, 1, 1, 1, 0, 1, 0, 0, 1, 0, 0, 1, 0, 0, 1, 1, 0, 0, 1, 1, 0, 0]) false) (.region 22 (opsAt f58_b [1, 1, 1, 1, 0, 1, 0, 0, 1, 1, 0, 0, 1, 1, 1, 1, 0, 1, 0, 0, 1, 0, 0, 1, 0, 0, 1, 1, 0, 0, 1, 1, 0, 1]) false)) .skip))))) (.region 23 (opsAt f58_b [1, 1, 1, 1, 0, 1, 0, 0, 1, 1, 0, 0, 1, 1, 1, 1, 0, 1, 0, 0, 1, 0, 0, 1, 0, 0, 1, 1, 1]) false))))
noncomputable def f58_k58003 (rd : Option Nat) : Key := .lp 58003 [1, 4, 6, 8, 9, 26, 27, 54, 55] [] f58_c58003 85 rd
noncomputable def f58_c58002 : ACode := (.seq (.seq (.region 15 (opsAt f58_b [1, 1, 1, 1, 0, 1, 0, 0, 1, 1, 0, 0, 1, 1, 1, 1, 0, 1, 0, 0, 0, 0]) false) (.cond (.tmp 44) .skip (.exit 4))) (.seq (.block 5 (.seq (.region 17 (opsAt f58_b [1, 1, 1, 1, 0, 1, 0, 0, 1, 1, 0, 0, 1, 1, 1, 1, 0, 1, 0, 0, 1, 0, 0, 0]) true) (.block 6 (.loop 58003 [1, 4, 6, 8, 9, 26, 27, 54, 55] [] [(.exit 6)] f58_c58003)))) (.region 16 (opsAt f58_b [1, 1, 1, 1, 0, 1, 0, 0, 1, 1, 0, 0, 1, 1, 1, 1, 0, 1, 0, 0, 1, 1]) false)))
noncomputable def f58_k58002 (rd : Option Nat) : Key := .lp 58002 [1, 4, 6, 8, 9, 26, 27] [] f58_c58002 85 rd
noncomputable def f58_c58001 : ACode := (.seq (.region 9 (opsAt f58_b [1, 1, 1, 1, 0, 1, 0, 0, 0]) false) (.seq (.cond (.tmp 28) .skip (.exit 2)) (.seq (.join [(.normal, [1, 4, 6, 26, 27])] (.block 3 (.seq (.region 10 (opsAt f58_b [1, 1, 1, 1, 0, 1, 0, 0, 1, 1, 0, 0, 0]) false) (.seq (.seq (.region 11 (opsAt f58_b [1, 1, 1, 1, 0, 1, 0, 0, 1, 1, 0, 0, 1, 0, 0]) false) (.cond (.tmp 34) (.exit 3) .skip)) (.seq (.region 12 (opsAt f58_b [1, 1, 1, 1, 0, 1, 0, 0, 1, 1, 0, 0, 1, 1, 0]) false) (.seq (.region 13 (opsAt f58_b [1, 1, 1, 1, 0, 1, 0, 0, 1, 1, 0, 0, 1, 1, 1, 0]) false) (.seq (.seq (.region 14 (opsAt f58_b [1, 1, 1, 1, 0, 1, 0, 0, 1, 1, 0, 0, 1, 1, 1, 1, 0, 0]) false) (.block 4 (.loop 58002 [1, 4, 6, 8, 9, 26, 27] [] [(.exit 4)] f58_c58002))) (.region 24 (opsAt f58_b [1, 1, 1, 1, 0, 1, 0, 0, 1, 1, 0, 0, 1, 1, 1, 1, 1]) false)))))))) (.region 25 (opsAt f58_b [1, 1, 1, 1, 0, 1, 0, 0, 1, 1, 1]) false))))
noncomputable def f58_k58001 (rd : Option Nat) : Key := .lp 58001 [1, 4, 6, 26, 27] [] f58_c58001 85 rd
noncomputable def f58_c : ACode := (.seq (.region 0 (opsAt f58_b [0]) false) (.seq (.region 1 (opsAt f58_b [1, 0]) false) (.seq (.seq (.region 2 (opsAt f58_b [1, 1, 0, 0]) false) (.block 0 (.loop 58000 [1, 4, 17, 18] [] [(.exit 0)] f58_c58000))) (.seq (.region 7 (opsAt f58_b [1, 1, 1, 0]) false) (.seq (.seq (.region 8 (opsAt f58_b [1, 1, 1, 1, 0, 0]) false) (.block 2 (.loop 58001 [1, 4, 6, 26, 27] [] [(.exit 2)] f58_c58001))) (.seq (.region 26 (opsAt f58_b [1, 1, 1, 1, 1, 0]) false) .ret))))))
noncomputable def f58_f : AFun := { code := f58_c, nt := 85, res := Try.f58.results.toList, fr := [] }
noncomputable def f59_b : Code := bodyOf Try.f59
noncomputable def f59_c59000 : ACode := (.seq (.region 1 (opsAt f59_b [1, 0, 0, 0]) false) (.seq (.cond (.tmp 5) .skip (.exit 0)) (.seq (.block 1 (.seq (.region 2 (opsAt f59_b [1, 0, 0, 1, 1, 0, 0, 0]) false) (.seq (.region 3 (opsAt f59_b [1, 0, 0, 1, 1, 0, 0, 1, 0]) false) (.seq (.region 4 (opsAt f59_b [1, 0, 0, 1, 1, 0, 0, 1, 1, 0]) false) (.cond (.tmp 25) .ret .skip))))) (.region 5 (opsAt f59_b [1, 0, 0, 1, 1, 1]) false))))
noncomputable def f59_k59000 (rd : Option Nat) : Key := .lp 59000 [0, 4] [] f59_c59000 27 rd
noncomputable def f59_c : ACode := (.seq (.region 0 (opsAt f59_b [0]) false) (.block 0 (.loop 59000 [0, 4] [] [(.exit 0), .ret] f59_c59000)))
noncomputable def f59_f : AFun := { code := f59_c, nt := 27, res := Try.f59.results.toList, fr := [] }
noncomputable def f60_b : Code := bodyOf Try.f60
noncomputable def f60_c60000 : ACode := (.seq (.region 3 (opsAt f60_b [1, 1, 0, 1, 0, 0, 0]) false) (.seq (.cond (.tmp 8) .skip (.exit 0)) (.seq (.block 1 (.seq (.region 4 (opsAt f60_b [1, 1, 0, 1, 0, 0, 1, 1, 0, 0, 0]) false) (.seq (.seq (.region 5 (opsAt f60_b [1, 1, 0, 1, 0, 0, 1, 1, 0, 0, 1, 0, 0]) false) (.cond (.tmp 15) (.seq (.region 6 (opsAt f60_b [1, 1, 0, 1, 0, 0, 1, 1, 0, 0, 1, 0, 1, 0, 0]) false) .ret) .skip)) (.region 7 (opsAt f60_b [1, 1, 0, 1, 0, 0, 1, 1, 0, 0, 1, 1]) false)))) (.region 8 (opsAt f60_b [1, 1, 0, 1, 0, 0, 1, 1, 1]) false))))
noncomputable def f60_k60000 (rd : Option Nat) : Key := .lp 60000 [2, 3, 6, 7] [] f60_c60000 23 rd
noncomputable def f60_c : ACode := (.seq (.region 0 (opsAt f60_b [0]) false) (.seq (.region 1 (opsAt f60_b [1, 0]) false) (.seq (.seq (.region 2 (opsAt f60_b [1, 1, 0, 0]) false) (.block 0 (.loop 60000 [2, 3, 6, 7] [] [(.exit 0), .ret] f60_c60000))) (.seq (.region 9 (opsAt f60_b [1, 1, 1, 0]) false) .ret))))
noncomputable def f60_f : AFun := { code := f60_c, nt := 23, res := Try.f60.results.toList, fr := [] }
noncomputable def f61_b : Code := bodyOf Try.f61
noncomputable def f61_c : ACode := (.seq (.region 0 (opsAt f61_b [0]) false) (.seq (.seq (.region 1 (opsAt f61_b [1, 0, 0]) false) (.cond (.tmp 12) (.seq (.region 2 (opsAt f61_b [1, 0, 1, 0, 0]) false) .ret) .skip)) (.seq (.region 3 (opsAt f61_b [1, 1, 0]) false) .ret)))
noncomputable def f61_f : AFun := { code := f61_c, nt := 17, res := Try.f61.results.toList, fr := [] }
noncomputable def f62_b : Code := bodyOf Try.f62
noncomputable def f62_c : ACode := (.seq (.region 0 (opsAt f62_b [0]) false) (.seq (.seq (.region 1 (opsAt f62_b [1, 0, 0]) false) (.cond (.tmp 5) (.seq (.region 2 (opsAt f62_b [1, 0, 1, 0, 0]) false) .ret) .skip)) (.seq (.region 3 (opsAt f62_b [1, 1, 0]) false) .ret)))
noncomputable def f62_f : AFun := { code := f62_c, nt := 9, res := Try.f62.results.toList, fr := [] }
noncomputable def f63_b : Code := bodyOf Try.f63
noncomputable def f63_c : ACode := (.seq (.region 0 (opsAt f63_b [0]) false) (.seq (.region 1 (opsAt f63_b [1, 0]) false) .ret))
noncomputable def f63_f : AFun := { code := f63_c, nt := 9, res := Try.f63.results.toList, fr := [] }
noncomputable def f64_b : Code := bodyOf Try.f64
noncomputable def f64_c : ACode := (.seq (.region 0 (opsAt f64_b [0]) false) (.seq (.region 1 (opsAt f64_b [1, 0]) false) .ret))
noncomputable def f64_f : AFun := { code := f64_c, nt := 6, res := Try.f64.results.toList, fr := [] }
noncomputable def f65_b : Code := bodyOf Try.f65
noncomputable def f65_c : ACode := (.seq (.region 0 (opsAt f65_b [0]) false) (.seq (.region 1 (opsAt f65_b [1, 0]) true) .ret))
noncomputable def f65_f : AFun := { code := f65_c, nt := 22, res := Try.f65.results.toList, fr := [] }
noncomputable def f66_b : Code := bodyOf Try.f66
noncomputable def f66_c66000 : ACode := (.seq (.region 3 (opsAt f66_b [1, 1, 0, 1, 0, 0, 0]) false) (.seq (.cond (.tmp 8) .skip (.exit 0)) (.seq (.block 1 (.seq (.region 4 (opsAt f66_b [1, 1, 0, 1, 0, 0, 1, 1, 0, 0, 0]) false) (.region 5 (opsAt f66_b [1, 1, 0, 1, 0, 0, 1, 1, 0, 0, 1]) false))) (.region 6 (opsAt f66_b [1, 1, 0, 1, 0, 0, 1, 1, 1]) false))))
noncomputable def f66_k66000 (rd : Option Nat) : Key := .lp 66000 [2, 3, 6, 7] [] f66_c66000 16 rd
noncomputable def f66_c : ACode := (.seq (.region 0 (opsAt f66_b [0]) false) (.seq (.region 1 (opsAt f66_b [1, 0]) false) (.seq (.seq (.region 2 (opsAt f66_b [1, 1, 0, 0]) false) (.block 0 (.loop 66000 [2, 3, 6, 7] [] [(.exit 0)] f66_c66000))) (.seq (.region 7 (opsAt f66_b [1, 1, 1, 0]) false) .ret))))
noncomputable def f66_f : AFun := { code := f66_c, nt := 16, res := Try.f66.results.toList, fr := [] }
noncomputable def f67_b : Code := bodyOf Try.f67
noncomputable def f67_c67000 : ACode := (.seq (.region 4 (opsAt f67_b [1, 1, 0, 1, 0, 0, 0]) false) (.seq (.cond (.tmp 14) .skip (.exit 0)) (.seq (.block 1 (.seq (.region 5 (opsAt f67_b [1, 1, 0, 1, 0, 0, 1, 1, 0, 0, 0]) false) (.seq (.region 6 (opsAt f67_b [1, 1, 0, 1, 0, 0, 1, 1, 0, 0, 1, 0]) true) (.cond (.tmp 24) (.seq (.region 7 (opsAt f67_b [1, 1, 0, 1, 0, 0, 1, 1, 0, 0, 1, 1, 0, 0]) false) .ret) .skip)))) (.region 8 (opsAt f67_b [1, 1, 0, 1, 0, 0, 1, 1, 1]) false))))
noncomputable def f67_k67000 (rd : Option Nat) : Key := .lp 67000 [0, 1, 4, 12, 13] [] f67_c67000 26 rd
noncomputable def f67_c : ACode := (.seq (.region 0 (opsAt f67_b [0]) false) (.seq (.seq (.region 1 (opsAt f67_b [1, 0, 0]) false) (.cond (.tmp 10) (.seq (.region 2 (opsAt f67_b [1, 0, 1, 0, 0]) false) .ret) .skip)) (.seq (.seq (.region 3 (opsAt f67_b [1, 1, 0, 0]) false) (.block 0 (.loop 67000 [0, 1, 4, 12, 13] [] [(.exit 0), .ret] f67_c67000))) (.seq (.region 9 (opsAt f67_b [1, 1, 1, 0]) false) .ret))))
noncomputable def f67_f : AFun := { code := f67_c, nt := 26, res := Try.f67.results.toList, fr := [] }
noncomputable def f68_b : Code := bodyOf Try.f68
noncomputable def f68_a68001 : ACode := (.region 9 (opsAt f68_b [1, 1, 1, 0, 1, 0, 0, 1, 1, 0, 0, 1, 1, 1, 0, 0]) false)
noncomputable def f68_c68001 : ACode := (.block 3 (.seq (.region 10 (opsAt f68_b [1, 1, 1, 0, 1, 0, 0, 1, 1, 0, 0, 1, 1, 1, 0, 1, 0, 0]) true) (.seq (.region 11 (opsAt f68_b [1, 1, 1, 0, 1, 0, 0, 1, 1, 0, 0, 1, 1, 1, 0, 1, 0, 1, 0]) false) (.join [(.normal, [])] (.cond (.tmp 40) (.region 12 (opsAt f68_b [1, 1, 1, 0, 1, 0, 0, 1, 1, 0, 0, 1, 1, 1, 0, 1, 0, 1, 1, 0]) false) .skip)))))
noncomputable def f68_c68000 : ACode := (.seq (.region 4 (opsAt f68_b [1, 1, 1, 0, 1, 0, 0, 0]) false) (.seq (.cond (.tmp 18) .skip (.exit 0)) (.seq (.block 1 (.seq (.region 5 (opsAt f68_b [1, 1, 1, 0, 1, 0, 0, 1, 1, 0, 0, 0]) false) (.seq (.seq (.region 6 (opsAt f68_b [1, 1, 1, 0, 1, 0, 0, 1, 1, 0, 0, 1, 0, 0]) false) (.join [(.normal, [1, 5, 6, 7, 15, 16, 17])] (.cond (.tmp 25) (.region 7 (opsAt f68_b [1, 1, 1, 0, 1, 0, 0, 1, 1, 0, 0, 1, 0, 1, 0]) false) .skip))) (.seq (.region 8 (opsAt f68_b [1, 1, 1, 0, 1, 0, 0, 1, 1, 0, 0, 1, 1, 0]) false) (.block 2 (.rangeFunc 68001 [1, 5, 6, 7] [] [.normal] (.tmp 29) #[30] f68_a68001 f68_c68001)))))) (.region 13 (opsAt f68_b [1, 1, 1, 0, 1, 0, 0, 1, 1, 1]) false))))
noncomputable def f68_k68000 (rd : Option Nat) : Key := .lp 68000 [1, 5, 15, 16, 17] [] f68_c68000 49 rd
noncomputable def f68_c : ACode := (.seq (.region 0 (opsAt f68_b [0]) false) (.seq (.region 1 (opsAt f68_b [1, 0]) false) (.seq (.region 2 (opsAt f68_b [1, 1, 0]) false) (.seq (.seq (.region 3 (opsAt f68_b [1, 1, 1, 0, 0]) false) (.block 0 (.loop 68000 [1, 5, 15, 16, 17] [] [(.exit 0)] f68_c68000))) (.seq (.region 14 (opsAt f68_b [1, 1, 1, 1, 0]) false) (.seq (.region 15 (opsAt f68_b [1, 1, 1, 1, 1, 0]) false) .ret))))))
noncomputable def f68_f : AFun := { code := f68_c, nt := 49, res := Try.f68.results.toList, fr := [] }
noncomputable def f71_b : Code := bodyOf Try.f71
noncomputable def f71_c : ACode := (.seq (.region 0 (opsAt f71_b [0]) false) (.seq (.region 1 (opsAt f71_b [1, 0]) false) .ret))
noncomputable def f71_f : AFun := { code := f71_c, nt := 4, res := Try.f71.results.toList, fr := [] }
noncomputable def f72_b : Code := bodyOf Try.f72
noncomputable def f72_c72000 : ACode := (.seq (.region 2 (opsAt f72_b [1, 0, 1, 0, 0, 0]) false) (.seq (.cond (.tmp 9) .skip (.exit 0)) (.seq (.block 1 (.seq (.region 3 (opsAt f72_b [1, 0, 1, 0, 0, 1, 1, 0, 0, 0]) false) (.seq (.region 4 (opsAt f72_b [1, 0, 1, 0, 0, 1, 1, 0, 0, 1, 0]) false) (.cond (.tmp 16) (.seq (.region 5 (opsAt f72_b [1, 0, 1, 0, 0, 1, 1, 0, 0, 1, 1, 0, 0]) false) .ret) .skip)))) (.region 6 (opsAt f72_b [1, 0, 1, 0, 0, 1, 1, 1]) false))))
noncomputable def f72_k72000 (rd : Option Nat) : Key := .lp 72000 [0, 1, 4, 7, 8] [] f72_c72000 19 rd
noncomputable def f72_c : ACode := (.seq (.region 0 (opsAt f72_b [0]) false) (.seq (.seq (.region 1 (opsAt f72_b [1, 0, 0]) false) (.block 0 (.loop 72000 [0, 1, 4, 7, 8] [] [(.exit 0), .ret] f72_c72000))) (.seq (.region 7 (opsAt f72_b [1, 1, 0]) false) .ret)))
noncomputable def f72_f : AFun := { code := f72_c, nt := 19, res := Try.f72.results.toList, fr := [] }
noncomputable def f73_b : Code := bodyOf Try.f73
noncomputable def f73_c73000 : ACode := (.seq (.seq (.region 5 (opsAt f73_b [1, 1, 1, 1, 0, 1, 0, 0, 0, 0]) false) (.cond (.tmp 31) .skip (.exit 0))) (.seq (.block 1 (.seq (.region 7 (opsAt f73_b [1, 1, 1, 1, 0, 1, 0, 0, 1, 0, 0, 0]) false) (.seq (.seq (.region 8 (opsAt f73_b [1, 1, 1, 1, 0, 1, 0, 0, 1, 0, 0, 1, 0, 0]) false) (.join [(.ret, [3, 8, 9, 10, 11]), (.normal, [3, 8, 9, 10, 11, 12])] (.cond (.tmp 38) (.seq (.region 9 (opsAt f73_b [1, 1, 1, 1, 0, 1, 0, 0, 1, 0, 0, 1, 0, 1, 0, 0]) true) (.block 2 (.seq (.region 10 (opsAt f73_b [1, 1, 1, 1, 0, 1, 0, 0, 1, 0, 0, 1, 0, 1, 0, 1, 0, 0]) false) (.cond (.tmp 48) (.seq (.region 11 (opsAt f73_b [1, 1, 1, 1, 0, 1, 0, 0, 1, 0, 0, 1, 0, 1, 0, 1, 0, 1, 0, 0]) false) .ret) (.seq (.region 12 (opsAt f73_b [1, 1, 1, 1, 0, 1, 0, 0, 1, 0, 0, 1, 0, 1, 0, 1, 0, 1, 1, 0]) false) (.join [(.normal, [3, 8, 9, 10, 11, 12])] (.cond (.tmp 51) (.region 13 (opsAt f73_b [1, 1, 1, 1, 0, 1, 0, 0, 1, 0, 0, 1, 0, 1, 0, 1, 0, 1, 1, 1, 0]) false) .skip))))))) .skip))) (.region 14 (opsAt f73_b [1, 1, 1, 1, 0, 1, 0, 0, 1, 0, 0, 1, 1]) true)))) (.region 6 (opsAt f73_b [1, 1, 1, 1, 0, 1, 0, 0, 1, 1]) false)))
noncomputable def f73_k73000 (rd : Option Nat) : Key := .lp 73000 [3, 8, 9, 10, 11] [] f73_c73000 67 rd
noncomputable def f73_c : ACode := (.seq (.region 0 (opsAt f73_b [0]) false) (.seq (.region 1 (opsAt f73_b [1, 0]) false) (.seq (.region 2 (opsAt f73_b [1, 1, 0]) false) (.seq (.region 3 (opsAt f73_b [1, 1, 1, 0]) false) (.seq (.seq (.region 4 (opsAt f73_b [1, 1, 1, 1, 0, 0]) false) (.block 0 (.loop 73000 [3, 8, 9, 10, 11] [] [(.exit 0), .ret] f73_c73000))) (.seq (.seq (.region 15 (opsAt f73_b [1, 1, 1, 1, 1, 0, 0]) false) (.cond (.tmp 65) (.seq (.region 16 (opsAt f73_b [1, 1, 1, 1, 1, 0, 1, 0, 0]) false) .ret) .skip)) (.seq (.region 17 (opsAt f73_b [1, 1, 1, 1, 1, 1, 0]) false) .ret)))))))
noncomputable def f73_f : AFun := { code := f73_c, nt := 67, res := Try.f73.results.toList, fr := [] }
noncomputable def f74_b : Code := bodyOf Try.f74
noncomputable def f74_c : ACode := (.region 0 (opsAt f74_b []) false)
noncomputable def f74_f : AFun := { code := f74_c, nt := 9, res := Try.f74.results.toList, fr := [] }
noncomputable def f75_b : Code := bodyOf Try.f75
noncomputable def f75_c : ACode := (.seq (.region 0 (opsAt f75_b [0]) false) (.seq (.seq (.region 1 (opsAt f75_b [1, 0, 0]) true) (.cond (.tmp 15) (.seq (.region 2 (opsAt f75_b [1, 0, 1, 0, 0]) true) .ret) .skip)) (.seq (.region 3 (opsAt f75_b [1, 1, 0]) true) .ret)))
noncomputable def f75_f : AFun := { code := f75_c, nt := 36, res := Try.f75.results.toList, fr := [] }
noncomputable def f76_b : Code := bodyOf Try.f76
noncomputable def f76_c76000 : ACode := (.seq (.region 2 (opsAt f76_b [1, 0, 1, 0, 0, 0]) false) (.seq (.cond (.tmp 14) .skip (.exit 0)) (.seq (.block 1 (.seq (.region 3 (opsAt f76_b [1, 0, 1, 0, 0, 1, 1, 0, 0, 0]) false) (.seq (.seq (.region 4 (opsAt f76_b [1, 0, 1, 0, 0, 1, 1, 0, 0, 1, 0, 0]) false) (.cond (.tmp 21) (.seq (.region 5 (opsAt f76_b [1, 0, 1, 0, 0, 1, 1, 0, 0, 1, 0, 1, 0, 0]) false) .ret) .skip)) (.seq (.region 6 (opsAt f76_b [1, 0, 1, 0, 0, 1, 1, 0, 0, 1, 1, 0]) false) (.seq (.region 7 (opsAt f76_b [1, 0, 1, 0, 0, 1, 1, 0, 0, 1, 1, 1, 0]) false) (.seq (.region 8 (opsAt f76_b [1, 0, 1, 0, 0, 1, 1, 0, 0, 1, 1, 1, 1, 0]) false) (.cond (.tmp 31) (.seq (.region 9 (opsAt f76_b [1, 0, 1, 0, 0, 1, 1, 0, 0, 1, 1, 1, 1, 1, 0, 0]) false) .ret) .skip))))))) (.region 10 (opsAt f76_b [1, 0, 1, 0, 0, 1, 1, 1]) false))))
noncomputable def f76_k76000 (rd : Option Nat) : Key := .lp 76000 [0, 1, 2, 6, 11, 12, 13] [] f76_c76000 39 rd
noncomputable def f76_c : ACode := (.seq (.region 0 (opsAt f76_b [0]) false) (.seq (.seq (.region 1 (opsAt f76_b [1, 0, 0]) false) (.block 0 (.loop 76000 [0, 1, 2, 6, 11, 12, 13] [] [(.exit 0), .ret] f76_c76000))) (.seq (.seq (.region 11 (opsAt f76_b [1, 1, 0, 0]) false) (.cond (.tmp 38) (.seq (.region 12 (opsAt f76_b [1, 1, 0, 1, 0, 0]) false) .ret) .skip)) (.seq (.region 13 (opsAt f76_b [1, 1, 1, 0]) false) .ret))))
noncomputable def f76_f : AFun := { code := f76_c, nt := 39, res := Try.f76.results.toList, fr := [] }
noncomputable def f77_b : Code := bodyOf Try.f77
noncomputable def f77_c77001 : ACode := (.seq (.region 9 (opsAt f77_b [1, 1, 0, 1, 0, 0, 1, 1, 0, 0, 1, 1, 1, 0, 0, 0]) false) (.seq (.cond (.tmp 32) .skip (.exit 2)) (.seq (.block 3 (.seq (.region 10 (opsAt f77_b [1, 1, 0, 1, 0, 0, 1, 1, 0, 0, 1, 1, 1, 0, 0, 1, 1, 0, 0, 0]) false) (.seq (.region 11 (opsAt f77_b [1, 1, 0, 1, 0, 0, 1, 1, 0, 0, 1, 1, 1, 0, 0, 1, 1, 0, 0, 1, 0]) true) (.cond (.tmp 46) (.seq (.region 12 (opsAt f77_b [1, 1, 0, 1, 0, 0, 1, 1, 0, 0, 1, 1, 1, 0, 0, 1, 1, 0, 0, 1, 1, 0, 0]) true) .ret) .skip)))) (.region 13 (opsAt f77_b [1, 1, 0, 1, 0, 0, 1, 1, 0, 0, 1, 1, 1, 0, 0, 1, 1, 1]) false))))
noncomputable def f77_k77001 (rd : Option Nat) : Key := .lp 77001 [2, 3, 4, 5, 10, 31] [] f77_c77001 62 rd
noncomputable def f77_c77000 : ACode := (.seq (.region 4 (opsAt f77_b [1, 1, 0, 1, 0, 0, 0]) false) (.seq (.cond (.tmp 11) .skip (.exit 0)) (.seq (.block 1 (.seq (.region 5 (opsAt f77_b [1, 1, 0, 1, 0, 0, 1, 1, 0, 0, 0]) false) (.seq (.seq (.region 6 (opsAt f77_b [1, 1, 0, 1, 0, 0, 1, 1, 0, 0, 1, 0, 0]) true) (.cond (.tmp 21) (.seq (.region 7 (opsAt f77_b [1, 1, 0, 1, 0, 0, 1, 1, 0, 0, 1, 0, 1, 0, 0]) true) .ret) .skip)) (.seq (.region 8 (opsAt f77_b [1, 1, 0, 1, 0, 0, 1, 1, 0, 0, 1, 1, 0]) false) (.block 2 (.loop 77001 [2, 3, 4, 5, 10, 31] [] [(.exit 2), .ret] f77_c77001)))))) (.region 14 (opsAt f77_b [1, 1, 0, 1, 0, 0, 1, 1, 1]) false))))
noncomputable def f77_k77000 (rd : Option Nat) : Key := .lp 77000 [2, 3, 4, 10] [] f77_c77000 62 rd
noncomputable def f77_c : ACode := (.seq (.region 0 (opsAt f77_b [0]) false) (.seq (.seq (.region 1 (opsAt f77_b [1, 0, 0]) false) (.cond (.tmp 9) (.seq (.region 2 (opsAt f77_b [1, 0, 1, 0, 0]) false) .ret) .skip)) (.seq (.seq (.region 3 (opsAt f77_b [1, 1, 0, 0]) false) (.block 0 (.loop 77000 [2, 3, 4, 10] [] [(.exit 0), .ret] f77_c77000))) (.seq (.region 15 (opsAt f77_b [1, 1, 1, 0]) false) .ret))))
noncomputable def f77_f : AFun := { code := f77_c, nt := 62, res := Try.f77.results.toList, fr := [] }
noncomputable def f78_b : Code := bodyOf Try.f78
noncomputable def f78_c78001 : ACode := (.seq (.region 4 (opsAt f78_b [1, 0, 0, 1, 1, 0, 0, 1, 1, 0, 0, 0]) false) (.seq (.cond (.tmp 18) .skip (.exit 2)) (.seq (.block 3 (.seq (.region 5 (opsAt f78_b [1, 0, 0, 1, 1, 0, 0, 1, 1, 0, 0, 1, 1, 0, 0, 0]) false) (.seq (.region 6 (opsAt f78_b [1, 0, 0, 1, 1, 0, 0, 1, 1, 0, 0, 1, 1, 0, 0, 1, 0]) false) (.cond (.tmp 27) .ret .skip)))) (.region 7 (opsAt f78_b [1, 0, 0, 1, 1, 0, 0, 1, 1, 0, 0, 1, 1, 1]) false))))
noncomputable def f78_k78001 (rd : Option Nat) : Key := .lp 78001 [0, 1, 3, 8, 9, 16, 17] [] f78_c78001 30 rd
noncomputable def f78_c78000 : ACode := (.seq (.region 1 (opsAt f78_b [1, 0, 0, 0]) false) (.seq (.cond (.tmp 10) .skip (.exit 0)) (.seq (.block 1 (.seq (.region 2 (opsAt f78_b [1, 0, 0, 1, 1, 0, 0, 0]) false) (.seq (.region 3 (opsAt f78_b [1, 0, 0, 1, 1, 0, 0, 1, 0]) false) (.block 2 (.loop 78001 [0, 1, 3, 8, 9, 16, 17] [] [(.exit 2), .ret] f78_c78001))))) (.region 8 (opsAt f78_b [1, 0, 0, 1, 1, 1]) false))))
noncomputable def f78_k78000 (rd : Option Nat) : Key := .lp 78000 [0, 1, 8, 9] [] f78_c78000 30 rd
noncomputable def f78_c : ACode := (.seq (.region 0 (opsAt f78_b [0]) false) (.block 0 (.loop 78000 [0, 1, 8, 9] [] [(.exit 0), .ret] f78_c78000)))
noncomputable def f78_f : AFun := { code := f78_c, nt := 30, res := Try.f78.results.toList, fr := [] }
noncomputable def f79_b : Code := bodyOf Try.f79
noncomputable def f79_c : ACode := (.seq (.region 0 (opsAt f79_b [0]) false) (.seq (.region 1 (opsAt f79_b [1, 0]) true) (.seq (.region 2 (opsAt f79_b [1, 1, 0]) false) (.region 3 (opsAt f79_b [1, 1, 1]) true))))
noncomputable def f79_f : AFun := { code := f79_c, nt := 41, res := Try.f79.results.toList, fr := [] }
noncomputable def f80_b : Code := bodyOf Try.f80
noncomputable def f80_c80000 : ACode := (.seq (.region 3 (opsAt f80_b [1, 1, 0, 1, 0, 0, 0]) false) (.seq (.cond (.tmp 13) .skip (.exit 0)) (.seq (.join [(.normal, [0, 1, 4, 5, 12])] (.block 1 (.seq (.region 4 (opsAt f80_b [1, 1, 0, 1, 0, 0, 1, 1, 0, 0, 0]) false) (.seq (.region 5 (opsAt f80_b [1, 1, 0, 1, 0, 0, 1, 1, 0, 0, 1, 0]) true) (.seq (.seq (.region 6 (opsAt f80_b [1, 1, 0, 1, 0, 0, 1, 1, 0, 0, 1, 1, 0, 0]) false) (.cond (.tmp 43) (.seq (.region 7 (opsAt f80_b [1, 1, 0, 1, 0, 0, 1, 1, 0, 0, 1, 1, 0, 1, 0, 0]) false) (.exit 1)) .skip)) (.seq (.region 8 (opsAt f80_b [1, 1, 0, 1, 0, 0, 1, 1, 0, 0, 1, 1, 1, 0]) true) (.seq (.seq (.region 9 (opsAt f80_b [1, 1, 0, 1, 0, 0, 1, 1, 0, 0, 1, 1, 1, 1, 0, 0]) true) (.seq (.region 10 (opsAt f80_b [1, 1, 0, 1, 0, 0, 1, 1, 0, 0, 1, 1, 1, 1, 0, 1, 0]) false) (.join [(.normal, [0, 1, 4, 5, 6, 7, 8, 12])] (.cond (.tmp 69) (.region 11 (opsAt f80_b [1, 1, 0, 1, 0, 0, 1, 1, 0, 0, 1, 1, 1, 1, 0, 1, 1, 0]) false) .skip)))) (.seq (.region 12 (opsAt f80_b [1, 1, 0, 1, 0, 0, 1, 1, 0, 0, 1, 1, 1, 1, 1, 0]) true) (.region 13 (opsAt f80_b [1, 1, 0, 1, 0, 0, 1, 1, 0, 0, 1, 1, 1, 1, 1, 1]) true))))))))) (.region 14 (opsAt f80_b [1, 1, 0, 1, 0, 0, 1, 1, 1]) false))))
noncomputable def f80_k80000 (rd : Option Nat) : Key := .lp 80000 [0, 1, 4, 5, 12] [] f80_c80000 99 rd
noncomputable def f80_c : ACode := (.seq (.region 0 (opsAt f80_b [0]) false) (.seq (.region 1 (opsAt f80_b [1, 0]) false) (.seq (.seq (.region 2 (opsAt f80_b [1, 1, 0, 0]) false) (.block 0 (.loop 80000 [0, 1, 4, 5, 12] [] [(.exit 0)] f80_c80000))) (.seq (.region 15 (opsAt f80_b [1, 1, 1, 0]) false) .ret))))
noncomputable def f80_f : AFun := { code := f80_c, nt := 99, res := Try.f80.results.toList, fr := [] }
noncomputable def f81_b : Code := bodyOf Try.f81
noncomputable def f81_c81000 : ACode := (.seq (.seq (.region 2 (opsAt f81_b [1, 1, 0, 0, 0, 0, 0]) false) (.cond (.tmp 13) .skip (.exit 0))) (.block 1 (.seq (.region 3 (opsAt f81_b [1, 1, 0, 0, 0, 1, 0, 0]) false) (.seq (.region 4 (opsAt f81_b [1, 1, 0, 0, 0, 1, 0, 1, 0]) false) (.region 5 (opsAt f81_b [1, 1, 0, 0, 0, 1, 0, 1, 1]) false)))))
noncomputable def f81_k81000 (rd : Option Nat) : Key := .lp 81000 [0, 1, 2, 6, 7, 8] [] f81_c81000 63 rd
noncomputable def f81_c81002 : ACode := (.seq (.seq (.region 9 (opsAt f81_b [1, 1, 1, 1, 0, 0, 1, 0, 1, 0, 0, 0, 0, 0]) false) (.cond (.tmp 35) .skip (.exit 4))) (.block 5 (.seq (.region 10 (opsAt f81_b [1, 1, 1, 1, 0, 0, 1, 0, 1, 0, 0, 0, 1, 0, 0]) false) (.seq (.region 11 (opsAt f81_b [1, 1, 1, 1, 0, 0, 1, 0, 1, 0, 0, 0, 1, 0, 1, 0]) false) (.region 12 (opsAt f81_b [1, 1, 1, 1, 0, 0, 1, 0, 1, 0, 0, 0, 1, 0, 1, 1]) false)))))
noncomputable def f81_k81002 (rd : Option Nat) : Key := .lp 81002 [0, 1, 2, 6, 7, 8] [] f81_c81002 63 rd
noncomputable def f81_c81001 : ACode := (.seq (.seq (.region 7 (opsAt f81_b [1, 1, 1, 1, 0, 0, 0, 0]) false) (.cond (.tmp 30) .skip (.exit 2))) (.block 3 (.seq (.region 8 (opsAt f81_b [1, 1, 1, 1, 0, 0, 1, 0, 0]) false) (.seq (.block 4 (.loop 81002 [0, 1, 2, 6, 7, 8] [] [(.exit 4)] f81_c81002)) (.seq (.seq (.region 13 (opsAt f81_b [1, 1, 1, 1, 0, 0, 1, 0, 1, 1, 0, 0]) false) (.seq (.region 14 (opsAt f81_b [1, 1, 1, 1, 0, 0, 1, 0, 1, 1, 0, 1, 0]) false) (.join [(.normal, [0, 1, 2, 6])] (.cond (.tmp 54) (.region 15 (opsAt f81_b [1, 1, 1, 1, 0, 0, 1, 0, 1, 1, 0, 1, 1, 0]) false) .skip)))) (.region 16 (opsAt f81_b [1, 1, 1, 1, 0, 0, 1, 0, 1, 1, 1]) false))))))
noncomputable def f81_k81001 (rd : Option Nat) : Key := .lp 81001 [0, 1, 2, 6] [] f81_c81001 63 rd
noncomputable def f81_c : ACode := (.seq (.region 0 (opsAt f81_b [0]) false) (.seq (.region 1 (opsAt f81_b [1, 0]) false) (.seq (.block 0 (.loop 81000 [0, 1, 2, 6, 7, 8] [] [(.exit 0)] f81_c81000)) (.seq (.region 6 (opsAt f81_b [1, 1, 1, 0]) false) (.block 2 (.loop 81001 [0, 1, 2, 6] [] [(.exit 2)] f81_c81001))))))
noncomputable def f81_f : AFun := { code := f81_c, nt := 63, res := Try.f81.results.toList, fr := [] }
noncomputable def f82_b : Code := bodyOf Try.f82
noncomputable def f82_c82001 : ACode := (.seq (.seq (.region 4 (opsAt f82_b [1, 0, 0, 1, 0, 0, 1, 0, 0, 0, 0]) true) (.cond (.tmp 34) .skip (.exit 2))) (.seq (.block 3 (.region 6 (opsAt f82_b [1, 0, 0, 1, 0, 0, 1, 0, 0, 1, 0, 0]) true)) (.region 5 (opsAt f82_b [1, 0, 0, 1, 0, 0, 1, 0, 0, 1, 1]) false)))
noncomputable def f82_k82001 (rd : Option Nat) : Key := .lp 82001 [0, 1, 2, 3, 8, 9] [] f82_c82001 53 rd
noncomputable def f82_c82000 : ACode := (.seq (.seq (.region 1 (opsAt f82_b [1, 0, 0, 0, 0]) false) (.cond (.tmp 14) .skip (.exit 0))) (.seq (.block 1 (.seq (.region 3 (opsAt f82_b [1, 0, 0, 1, 0, 0, 0]) false) (.block 2 (.loop 82001 [0, 1, 2, 3, 8, 9] [] [(.exit 2)] f82_c82001)))) (.region 2 (opsAt f82_b [1, 0, 0, 1, 1]) false)))
noncomputable def f82_k82000 (rd : Option Nat) : Key := .lp 82000 [0, 1, 2, 3, 8] [] f82_c82000 53 rd
noncomputable def f82_c : ACode := (.seq (.region 0 (opsAt f82_b [0]) false) (.block 0 (.loop 82000 [0, 1, 2, 3, 8] [] [(.exit 0)] f82_c82000)))
noncomputable def f82_f : AFun := { code := f82_c, nt := 53, res := Try.f82.results.toList, fr := [] }
noncomputable def f83_b : Code := bodyOf Try.f83
noncomputable def f83_c83000 : ACode := (.seq (.seq (.region 3 (opsAt f83_b [0, 1, 0, 1, 1, 0, 0, 0, 0, 0]) false) (.cond (.tmp 33) .skip (.exit 0))) (.block 1 (.seq (.region 4 (opsAt f83_b [0, 1, 0, 1, 1, 0, 0, 0, 1, 0, 0]) false) (.seq (.region 5 (opsAt f83_b [0, 1, 0, 1, 1, 0, 0, 0, 1, 0, 1, 0]) true) (.join [(.normal, [0, 1, 4, 10, 11])] (.cond (.tmp 50) (.region 6 (opsAt f83_b [0, 1, 0, 1, 1, 0, 0, 0, 1, 0, 1, 1, 0]) false) (.region 7 (opsAt f83_b [0, 1, 0, 1, 1, 0, 0, 0, 1, 0, 1, 1, 1]) false)))))))
noncomputable def f83_k83000 (rd : Option Nat) : Key := .lp 83000 [0, 1, 4, 10, 11] [] f83_c83000 220 rd
noncomputable def f83_c83001 : ACode := (.seq (.seq (.region 9 (opsAt f83_b [0, 1, 0, 1, 1, 1, 0, 1, 0, 0, 0, 0]) false) (.cond (.tmp 58) .skip (.exit 2))) (.seq (.block 3 (.region 11 (opsAt f83_b [0, 1, 0, 1, 1, 1, 0, 1, 0, 0, 1, 0, 0]) true)) (.region 10 (opsAt f83_b [0, 1, 0, 1, 1, 1, 0, 1, 0, 0, 1, 1]) false)))
noncomputable def f83_k83001 (rd : Option Nat) : Key := .lp 83001 [0, 10, 13] [] f83_c83001 220 rd
noncomputable def f83_c83002 : ACode := (.seq (.seq (.region 15 (opsAt f83_b [1, 0, 1, 0, 1, 1, 0, 0, 0, 0, 0]) false) (.cond (.tmp 85) .skip (.exit 4))) (.block 5 (.seq (.region 16 (opsAt f83_b [1, 0, 1, 0, 1, 1, 0, 0, 0, 1, 0, 0]) false) (.seq (.region 17 (opsAt f83_b [1, 0, 1, 0, 1, 1, 0, 0, 0, 1, 0, 1, 0]) true) (.join [(.normal, [0, 2, 4, 14, 15])] (.cond (.tmp 103) (.region 18 (opsAt f83_b [1, 0, 1, 0, 1, 1, 0, 0, 0, 1, 0, 1, 1, 0]) false) (.region 19 (opsAt f83_b [1, 0, 1, 0, 1, 1, 0, 0, 0, 1, 0, 1, 1, 1]) false)))))))
noncomputable def f83_k83002 (rd : Option Nat) : Key := .lp 83002 [0, 2, 4, 14, 15] [] f83_c83002 220 rd
noncomputable def f83_c83003 : ACode := (.seq (.seq (.region 21 (opsAt f83_b [1, 0, 1, 0, 1, 1, 1, 0, 1, 0, 0, 0, 0]) false) (.cond (.tmp 110) .skip (.exit 6))) (.seq (.block 7 (.region 23 (opsAt f83_b [1, 0, 1, 0, 1, 1, 1, 0, 1, 0, 0, 1, 0, 0]) true)) (.region 22 (opsAt f83_b [1, 0, 1, 0, 1, 1, 1, 0, 1, 0, 0, 1, 1]) false)))
noncomputable def f83_k83003 (rd : Option Nat) : Key := .lp 83003 [0, 14, 17] [] f83_c83003 220 rd
noncomputable def f83_c83004 : ACode := (.seq (.seq (.region 33 (opsAt f83_b [1, 1, 1, 1, 1, 1, 1, 0, 0, 0, 0, 0]) false) (.cond (.tmp 151) .skip (.exit 8))) (.block 9 (.seq (.region 34 (opsAt f83_b [1, 1, 1, 1, 1, 1, 1, 0, 0, 0, 1, 0, 0]) false) (.seq (.region 35 (opsAt f83_b [1, 1, 1, 1, 1, 1, 1, 0, 0, 0, 1, 0, 1, 0]) true) (.join [(.normal, [0, 1, 2, 3, 4, 18, 19, 20, 21, 22])] (.cond (.tmp 171) (.region 36 (opsAt f83_b [1, 1, 1, 1, 1, 1, 1, 0, 0, 0, 1, 0, 1, 1, 0]) false) (.region 37 (opsAt f83_b [1, 1, 1, 1, 1, 1, 1, 0, 0, 0, 1, 0, 1, 1, 1]) false)))))))
noncomputable def f83_k83004 (rd : Option Nat) : Key := .lp 83004 [0, 1, 2, 3, 4, 18, 19, 20, 21, 22] [] f83_c83004 220 rd
noncomputable def f83_c : ACode := (.seq (.seq (.region 0 (opsAt f83_b [0, 0]) false) (.cond (.tmp 28) (.seq (.region 1 (opsAt f83_b [0, 1, 0, 0]) false) (.seq (.region 2 (opsAt f83_b [0, 1, 0, 1, 0]) false) (.seq (.block 0 (.loop 83000 [0, 1, 4, 10, 11] [] [(.exit 0)] f83_c83000)) (.seq (.seq (.region 8 (opsAt f83_b [0, 1, 0, 1, 1, 1, 0, 0]) false) (.block 2 (.loop 83001 [0, 10, 13] [] [(.exit 2)] f83_c83001))) .ret)))) .skip)) (.seq (.seq (.region 12 (opsAt f83_b [1, 0, 0]) false) (.cond (.tmp 80) (.seq (.region 13 (opsAt f83_b [1, 0, 1, 0, 0]) false) (.seq (.region 14 (opsAt f83_b [1, 0, 1, 0, 1, 0]) false) (.seq (.block 4 (.loop 83002 [0, 2, 4, 14, 15] [] [(.exit 4)] f83_c83002)) (.seq (.seq (.region 20 (opsAt f83_b [1, 0, 1, 0, 1, 1, 1, 0, 0]) false) (.block 6 (.loop 83003 [0, 14, 17] [] [(.exit 6)] f83_c83003))) .ret)))) .skip)) (.seq (.region 24 (opsAt f83_b [1, 1, 0]) false) (.seq (.region 25 (opsAt f83_b [1, 1, 1, 0]) false) (.seq (.region 26 (opsAt f83_b [1, 1, 1, 1, 0]) false) (.seq (.seq (.region 27 (opsAt f83_b [1, 1, 1, 1, 1, 0, 0]) false) (.join [(.normal, [0, 1, 2, 3, 4, 18, 19, 20, 21])] (.cond (.tmp 140) (.seq (.region 28 (opsAt f83_b [1, 1, 1, 1, 1, 0, 1, 0, 0]) false) (.region 29 (opsAt f83_b [1, 1, 1, 1, 1, 0, 1, 0, 1]) false)) (.seq (.region 30 (opsAt f83_b [1, 1, 1, 1, 1, 0, 1, 1, 0]) false) (.region 31 (opsAt f83_b [1, 1, 1, 1, 1, 0, 1, 1, 1]) false))))) (.seq (.region 32 (opsAt f83_b [1, 1, 1, 1, 1, 1, 0]) false) (.seq (.block 8 (.loop 83004 [0, 1, 2, 3, 4, 18, 19, 20, 21, 22] [] [(.exit 8)] f83_c83004)) (.seq (.region 38 (opsAt f83_b [1, 1, 1, 1, 1, 1, 1, 1, 0]) false) (.seq (.seq (.region 39 (opsAt f83_b [1, 1, 1, 1, 1, 1, 1, 1, 1, 0, 0]) false) (.join [(.normal, [0, 1, 3, 4, 18, 20, 24])] (.cond (.tmp 185) (.region 40 (opsAt f83_b [1, 1, 1, 1, 1, 1, 1, 1, 1, 0, 1, 0]) false) .skip))) (.seq (.seq (.region 41 (opsAt f83_b [1, 1, 1, 1, 1, 1, 1, 1, 1, 1, 0, 0]) false) (.join [(.normal, [0, 3, 4, 18, 24])] (.cond (.tmp 199) (.region 42 (opsAt f83_b [1, 1, 1, 1, 1, 1, 1, 1, 1, 1, 0, 1, 0]) false) .skip))) (.seq (.region 43 (opsAt f83_b [1, 1, 1, 1, 1, 1, 1, 1, 1, 1, 1, 0]) false) (.join [(.normal, [])] (.cond (.tmp 213) (.region 44 (opsAt f83_b [1, 1, 1, 1, 1, 1, 1, 1, 1, 1, 1, 1, 0]) false) .skip))))))))))))))
noncomputable def f83_f : AFun := { code := f83_c, nt := 220, res := Try.f83.results.toList, fr := [] }
noncomputable def f84_b : Code := bodyOf Try.f84
noncomputable def f84_c84000 : ACode := (.seq (.seq (.region 2 (opsAt f84_b [1, 1, 0, 0, 0, 0, 0]) false) (.cond (.tmp 20) .skip (.exit 0))) (.block 1 (.seq (.region 3 (opsAt f84_b [1, 1, 0, 0, 0, 1, 0, 0]) false) (.join [(.normal, [0, 2, 4, 10, 11])] (.cond (.tmp 23) (.seq (.region 4 (opsAt f84_b [1, 1, 0, 0, 0, 1, 0, 1, 0, 0]) false) (.region 5 (opsAt f84_b [1, 1, 0, 0, 0, 1, 0, 1, 0, 1]) false)) (.seq (.region 6 (opsAt f84_b [1, 1, 0, 0, 0, 1, 0, 1, 1, 0]) false) (.region 7 (opsAt f84_b [1, 1, 0, 0, 0, 1, 0, 1, 1, 1]) false)))))))
noncomputable def f84_k84000 (rd : Option Nat) : Key := .lp 84000 [0, 2, 4, 10, 11] [] f84_c84000 58 rd
noncomputable def f84_c : ACode := (.seq (.region 0 (opsAt f84_b [0]) false) (.seq (.region 1 (opsAt f84_b [1, 0]) false) (.seq (.block 0 (.loop 84000 [0, 2, 4, 10, 11] [] [(.exit 0)] f84_c84000)) (.region 8 (opsAt f84_b [1, 1, 1]) false))))
noncomputable def f84_f : AFun := { code := f84_c, nt := 58, res := Try.f84.results.toList, fr := [] }
noncomputable def f85_b : Code := bodyOf Try.f85
noncomputable def f85_c85000 : ACode := (.seq (.seq (.region 1 (opsAt f85_b [1, 0, 0, 0, 0]) false) (.cond (.tmp 13) .skip (.exit 0))) (.seq (.block 1 (.region 3 (opsAt f85_b [1, 0, 0, 1, 0, 0]) true)) (.region 2 (opsAt f85_b [1, 0, 0, 1, 1]) false)))
noncomputable def f85_k85000 (rd : Option Nat) : Key := .lp 85000 [0, 1, 2, 3, 10] [] f85_c85000 38 rd
noncomputable def f85_c : ACode := (.seq (.region 0 (opsAt f85_b [0]) false) (.block 0 (.loop 85000 [0, 1, 2, 3, 10] [] [(.exit 0)] f85_c85000)))
noncomputable def f85_f : AFun := { code := f85_c, nt := 38, res := Try.f85.results.toList, fr := [] }
noncomputable def bkT : BT AFun := (.node 50 f50_f (.node 32 f32_f (.node 20 f20_f (.node 14 f14_f (.node 10 f10_f (.node 4 f4_f .leaf .leaf) (.node 13 f13_f .leaf .leaf)) (.node 16 f16_f (.node 15 f15_f .leaf .leaf) .leaf)) (.node 26 f26_f (.node 23 f23_f (.node 22 f22_f .leaf .leaf) (.node 25 f25_f .leaf .leaf)) (.node 31 f31_f (.node 28 f28_f .leaf .leaf) .leaf))) (.node 42 f42_f (.node 39 f39_f (.node 34 f34_f (.node 33 f33_f .leaf .leaf) (.node 35 f35_f .leaf .leaf)) (.node 41 f41_f (.node 40 f40_f .leaf .leaf) .leaf)) (.node 47 f47_f (.node 45 f45_f (.node 43 f43_f .leaf .leaf) (.node 46 f46_f .leaf .leaf)) (.node 49 f49_f (.node 48 f48_f .leaf .leaf) .leaf)))) (.node 72 f72_f (.node 63 f63_f (.node 60 f60_f (.node 58 f58_f (.node 57 f57_f .leaf .leaf) (.node 59 f59_f .leaf .leaf)) (.node 62 f62_f (.node 61 f61_f .leaf .leaf) .leaf)) (.node 67 f67_f (.node 65 f65_f (.node 64 f64_f .leaf .leaf) (.node 66 f66_f .leaf .leaf)) (.node 71 f71_f (.node 68 f68_f .leaf .leaf) .leaf))) (.node 79 f79_f (.node 76 f76_f (.node 74 f74_f (.node 73 f73_f .leaf .leaf) (.node 75 f75_f .leaf .leaf)) (.node 78 f78_f (.node 77 f77_f .leaf .leaf) .leaf)) (.node 83 f83_f (.node 81 f81_f (.node 80 f80_f .leaf .leaf) (.node 82 f82_f .leaf .leaf)) (.node 85 f85_f (.node 84 f84_f .leaf .leaf) .leaf)))))
noncomputable def bk (f : FuncId) : Option AFun := bkT.look f
theorem bk_4 : bk 4 = some f4_f := by kernel_rfl
theorem ok_4 : EntOK P 4 f4_f := ⟨Try.f4, f4_b, Try.func4, rfl, by kernel_rfl, by kernel_rfl, rfl, rfl⟩
theorem bk_10 : bk 10 = some f10_f := by kernel_rfl
theorem ok_10 : EntOK P 10 f10_f := ⟨Try.f10, f10_b, Try.func10, rfl, by kernel_rfl, by kernel_rfl, rfl, rfl⟩
theorem bk_13 : bk 13 = some f13_f := by kernel_rfl
theorem ok_13 : EntOK P 13 f13_f := ⟨Try.f13, f13_b, Try.func13, rfl, by kernel_rfl, by kernel_rfl, rfl, rfl⟩
theorem bk_14 : bk 14 = some f14_f := by kernel_rfl
theorem ok_14 : EntOK P 14 f14_f := ⟨Try.f14, f14_b, Try.func14, rfl, by kernel_rfl, by kernel_rfl, rfl, rfl⟩
theorem bk_15 : bk 15 = some f15_f := by kernel_rfl
theorem ok_15 : EntOK P 15 f15_f := ⟨Try.f15, f15_b, Try.func15, rfl, by kernel_rfl, by kernel_rfl, rfl, rfl⟩
theorem bk_16 : bk 16 = some f16_f := by kernel_rfl
theorem ok_16 : EntOK P 16 f16_f := ⟨Try.f16, f16_b, Try.func16, rfl, by kernel_rfl, by kernel_rfl, rfl, rfl⟩
theorem bk_20 : bk 20 = some f20_f := by kernel_rfl
theorem ok_20 : EntOK P 20 f20_f := ⟨Try.f20, f20_b, Try.func20, rfl, by kernel_rfl, by kernel_rfl, rfl, rfl⟩
theorem bk_22 : bk 22 = some f22_f := by kernel_rfl
theorem ok_22 : EntOK P 22 f22_f := ⟨Try.f22, f22_b, Try.func22, rfl, by kernel_rfl, by kernel_rfl, rfl, rfl⟩
theorem bk_23 : bk 23 = some f23_f := by kernel_rfl
theorem ok_23 : EntOK P 23 f23_f := ⟨Try.f23, f23_b, Try.func23, rfl, by kernel_rfl, by kernel_rfl, rfl, rfl⟩
theorem bk_25 : bk 25 = some f25_f := by kernel_rfl
theorem ok_25 : EntOK P 25 f25_f := ⟨Try.f25, f25_b, Try.func25, rfl, by kernel_rfl, by kernel_rfl, rfl, rfl⟩
theorem bk_26 : bk 26 = some f26_f := by kernel_rfl
theorem ok_26 : EntOK P 26 f26_f := ⟨Try.f26, f26_b, Try.func26, rfl, by kernel_rfl, by kernel_rfl, rfl, rfl⟩
theorem bk_28 : bk 28 = some f28_f := by kernel_rfl
theorem ok_28 : EntOK P 28 f28_f := ⟨Try.f28, f28_b, Try.func28, rfl, by kernel_rfl, by kernel_rfl, rfl, rfl⟩
theorem bk_31 : bk 31 = some f31_f := by kernel_rfl
theorem ok_31 : EntOK P 31 f31_f := ⟨Try.f31, f31_b, Try.func31, rfl, by kernel_rfl, by kernel_rfl, rfl, rfl⟩
theorem bk_32 : bk 32 = some f32_f := by kernel_rfl
theorem ok_32 : EntOK P 32 f32_f := ⟨Try.f32, f32_b, Try.func32, rfl, by kernel_rfl, by kernel_rfl, rfl, rfl⟩
theorem bk_33 : bk 33 = some f33_f := by kernel_rfl
theorem ok_33 : EntOK P 33 f33_f := ⟨Try.f33, f33_b, Try.func33, rfl, by kernel_rfl, by kernel_rfl, rfl, rfl⟩
theorem bk_34 : bk 34 = some f34_f := by kernel_rfl
theorem ok_34 : EntOK P 34 f34_f := ⟨Try.f34, f34_b, Try.func34, rfl, by kernel_rfl, by kernel_rfl, rfl, rfl⟩
theorem bk_35 : bk 35 = some f35_f := by kernel_rfl
theorem ok_35 : EntOK P 35 f35_f := ⟨Try.f35, f35_b, Try.func35, rfl, by kernel_rfl, by kernel_rfl, rfl, rfl⟩
theorem bk_39 : bk 39 = some f39_f := by kernel_rfl
theorem ok_39 : EntOK P 39 f39_f := ⟨Try.f39, f39_b, Try.func39, rfl, by kernel_rfl, by kernel_rfl, rfl, rfl⟩
theorem bk_40 : bk 40 = some f40_f := by kernel_rfl
theorem ok_40 : EntOK P 40 f40_f := ⟨Try.f40, f40_b, Try.func40, rfl, by kernel_rfl, by kernel_rfl, rfl, rfl⟩
theorem bk_41 : bk 41 = some f41_f := by kernel_rfl
theorem ok_41 : EntOK P 41 f41_f := ⟨Try.f41, f41_b, Try.func41, rfl, by kernel_rfl, by kernel_rfl, rfl, rfl⟩
theorem bk_42 : bk 42 = some f42_f := by kernel_rfl
theorem ok_42 : EntOK P 42 f42_f := ⟨Try.f42, f42_b, Try.func42, rfl, by kernel_rfl, by kernel_rfl, rfl, rfl⟩
theorem bk_43 : bk 43 = some f43_f := by kernel_rfl
theorem ok_43 : EntOK P 43 f43_f := ⟨Try.f43, f43_b, Try.func43, rfl, by kernel_rfl, by kernel_rfl, rfl, rfl⟩
theorem bk_45 : bk 45 = some f45_f := by kernel_rfl
theorem ok_45 : EntOK P 45 f45_f := ⟨Try.f45, f45_b, Try.func45, rfl, by kernel_rfl, by kernel_rfl, rfl, rfl⟩
theorem bk_46 : bk 46 = some f46_f := by kernel_rfl
theorem ok_46 : EntOK P 46 f46_f := ⟨Try.f46, f46_b, Try.func46, rfl, by kernel_rfl, by kernel_rfl, rfl, rfl⟩
theorem bk_47 : bk 47 = some f47_f := by kernel_rfl
theorem ok_47 : EntOK P 47 f47_f := ⟨Try.f47, f47_b, Try.func47, rfl, by kernel_rfl, by kernel_rfl, rfl, rfl⟩
theorem bk_48 : bk 48 = some f48_f := by kernel_rfl
theorem ok_48 : EntOK P 48 f48_f := ⟨Try.f48, f48_b, Try.func48, rfl, by kernel_rfl, by kernel_rfl, rfl, rfl⟩
theorem bk_49 : bk 49 = some f49_f := by kernel_rfl
theorem ok_49 : EntOK P 49 f49_f := ⟨Try.f49, f49_b, Try.func49, rfl, by kernel_rfl, by kernel_rfl, rfl, rfl⟩
theorem bk_50 : bk 50 = some f50_f := by kernel_rfl
theorem ok_50 : EntOK P 50 f50_f := ⟨Try.f50, f50_b, Try.func50, rfl, by kernel_rfl, by kernel_rfl, rfl, rfl⟩
theorem bk_57 : bk 57 = some f57_f := by kernel_rfl
theorem ok_57 : EntOK P 57 f57_f := ⟨Try.f57, f57_b, Try.func57, rfl, by kernel_rfl, by kernel_rfl, rfl, rfl⟩
theorem bk_58 : bk 58 = some f58_f := by kernel_rfl
theorem ok_58 : EntOK P 58 f58_f := ⟨Try.f58, f58_b, Try.func58, rfl, by kernel_rfl, by kernel_rfl, rfl, rfl⟩
theorem bk_59 : bk 59 = some f59_f := by kernel_rfl
theorem ok_59 : EntOK P 59 f59_f := ⟨Try.f59, f59_b, Try.func59, rfl, by kernel_rfl, by kernel_rfl, rfl, rfl⟩
theorem bk_60 : bk 60 = some f60_f := by kernel_rfl
theorem ok_60 : EntOK P 60 f60_f := ⟨Try.f60, f60_b, Try.func60, rfl, by kernel_rfl, by kernel_rfl, rfl, rfl⟩
theorem bk_61 : bk 61 = some f61_f := by kernel_rfl
theorem ok_61 : EntOK P 61 f61_f := ⟨Try.f61, f61_b, Try.func61, rfl, by kernel_rfl, by kernel_rfl, rfl, rfl⟩
theorem bk_62 : bk 62 = some f62_f := by kernel_rfl
theorem ok_62 : EntOK P 62 f62_f := ⟨Try.f62, f62_b, Try.func62, rfl, by kernel_rfl, by kernel_rfl, rfl, rfl⟩
theorem bk_63 : bk 63 = some f63_f := by kernel_rfl
theorem ok_63 : EntOK P 63 f63_f := ⟨Try.f63, f63_b, Try.func63, rfl, by kernel_rfl, by kernel_rfl, rfl, rfl⟩
theorem bk_64 : bk 64 = some f64_f := by kernel_rfl
theorem ok_64 : EntOK P 64 f64_f := ⟨Try.f64, f64_b, Try.func64, rfl, by kernel_rfl, by kernel_rfl, rfl, rfl⟩
theorem bk_65 : bk 65 = some f65_f := by kernel_rfl
theorem ok_65 : EntOK P 65 f65_f := ⟨Try.f65, f65_b, Try.func65, rfl, by kernel_rfl, by kernel_rfl, rfl, rfl⟩
theorem bk_66 : bk 66 = some f66_f := by kernel_rfl
theorem ok_66 : EntOK P 66 f66_f := ⟨Try.f66, f66_b, Try.func66, rfl, by kernel_rfl, by kernel_rfl, rfl, rfl⟩
theorem bk_67 : bk 67 = some f67_f := by kernel_rfl
theorem ok_67 : EntOK P 67 f67_f := ⟨Try.f67, f67_b, Try.func67, rfl, by kernel_rfl, by kernel_rfl, rfl, rfl⟩
theorem bk_68 : bk 68 = some f68_f := by kernel_rfl
theorem ok_68 : EntOK P 68 f68_f := ⟨Try.f68, f68_b, Try.func68, rfl, by kernel_rfl, by kernel_rfl, rfl, rfl⟩
theorem bk_71 : bk 71 = some f71_f := by kernel_rfl
theorem ok_71 : EntOK P 71 f71_f := ⟨Try.f71, f71_b, Try.func71, rfl, by kernel_rfl, by kernel_rfl, rfl, rfl⟩
theorem bk_72 : bk 72 = some f72_f := by kernel_rfl
theorem ok_72 : EntOK P 72 f72_f := ⟨Try.f72, f72_b, Try.func72, rfl, by kernel_rfl, by kernel_rfl, rfl, rfl⟩
theorem bk_73 : bk 73 = some f73_f := by kernel_rfl
theorem ok_73 : EntOK P 73 f73_f := ⟨Try.f73, f73_b, Try.func73, rfl, by kernel_rfl, by kernel_rfl, rfl, rfl⟩
theorem bk_74 : bk 74 = some f74_f := by kernel_rfl
theorem ok_74 : EntOK P 74 f74_f := ⟨Try.f74, f74_b, Try.func74, rfl, by kernel_rfl, by kernel_rfl, rfl, rfl⟩
theorem bk_75 : bk 75 = some f75_f := by kernel_rfl
theorem ok_75 : EntOK P 75 f75_f := ⟨Try.f75, f75_b, Try.func75, rfl, by kernel_rfl, by kernel_rfl, rfl, rfl⟩
theorem bk_76 : bk 76 = some f76_f := by kernel_rfl
theorem ok_76 : EntOK P 76 f76_f := ⟨Try.f76, f76_b, Try.func76, rfl, by kernel_rfl, by kernel_rfl, rfl, rfl⟩
theorem bk_77 : bk 77 = some f77_f := by kernel_rfl
theorem ok_77 : EntOK P 77 f77_f := ⟨Try.f77, f77_b, Try.func77, rfl, by kernel_rfl, by kernel_rfl, rfl, rfl⟩
theorem bk_78 : bk 78 = some f78_f := by kernel_rfl
theorem ok_78 : EntOK P 78 f78_f := ⟨Try.f78, f78_b, Try.func78, rfl, by kernel_rfl, by kernel_rfl, rfl, rfl⟩
theorem bk_79 : bk 79 = some f79_f := by kernel_rfl
theorem ok_79 : EntOK P 79 f79_f := ⟨Try.f79, f79_b, Try.func79, rfl, by kernel_rfl, by kernel_rfl, rfl, rfl⟩
theorem bk_80 : bk 80 = some f80_f := by kernel_rfl
theorem ok_80 : EntOK P 80 f80_f := ⟨Try.f80, f80_b, Try.func80, rfl, by kernel_rfl, by kernel_rfl, rfl, rfl⟩
theorem bk_81 : bk 81 = some f81_f := by kernel_rfl
theorem ok_81 : EntOK P 81 f81_f := ⟨Try.f81, f81_b, Try.func81, rfl, by kernel_rfl, by kernel_rfl, rfl, rfl⟩
theorem bk_82 : bk 82 = some f82_f := by kernel_rfl
theorem ok_82 : EntOK P 82 f82_f := ⟨Try.f82, f82_b, Try.func82, rfl, by kernel_rfl, by kernel_rfl, rfl, rfl⟩
theorem bk_83 : bk 83 = some f83_f := by kernel_rfl
theorem ok_83 : EntOK P 83 f83_f := ⟨Try.f83, f83_b, Try.func83, rfl, by kernel_rfl, by kernel_rfl, rfl, rfl⟩
theorem bk_84 : bk 84 = some f84_f := by kernel_rfl
theorem ok_84 : EntOK P 84 f84_f := ⟨Try.f84, f84_b, Try.func84, rfl, by kernel_rfl, by kernel_rfl, rfl, rfl⟩
theorem bk_85 : bk 85 = some f85_f := by kernel_rfl
theorem ok_85 : EntOK P 85 f85_f := ⟨Try.f85, f85_b, Try.func85, rfl, by kernel_rfl, by kernel_rfl, rfl, rfl⟩
theorem bk_ok : BookOK P bk := fun f a e => BT.look_all (Q := EntOK P) (t := bkT) (And.intro ok_50 (And.intro (And.intro ok_32 (And.intro (And.intro ok_20 (And.intro (And.intro ok_14 (And.intro (And.intro ok_10 (And.intro (And.intro ok_4 (And.intro trivial trivial)) (And.intro ok_13 (And.intro trivial trivial)))) (And.intro ok_16 (And.intro (And.intro ok_15 (And.intro trivial trivial)) trivial)))) (And.intro ok_26 (And.intro (And.intro ok_23 (And.intro (And.intro ok_22 (And.intro trivial trivial)) (And.intro ok_25 (And.intro trivial trivial)))) (And.intro ok_31 (And.intro (And.intro ok_28 (And.intro trivial trivial)) trivial)))))) (And.intro ok_42 (And.intro (And.intro ok_39 (And.intro (And.intro ok_34 (And.intro (And.intro ok_33 (And.intro trivial trivial)) (And.intro ok_35 (And.intro trivial trivial)))) (And.intro ok_41 (And.intro (And.intro ok_40 (And.intro trivial trivial)) trivial)))) (And.intro ok_47 (And.intro (And.intro ok_45 (And.intro (And.intro ok_43 (And.intro trivial trivial)) (And.intro ok_46 (And.intro trivial trivial)))) (And.intro ok_49 (And.intro (And.intro ok_48 (And.intro trivial trivial)) trivial)))))))) (And.intro ok_72 (And.intro (And.intro ok_63 (And.intro (And.intro ok_60 (And.intro (And.intro ok_58 (And.intro (And.intro ok_57 (And.intro trivial trivial)) (And.intro ok_59 (And.intro trivial trivial)))) (And.intro ok_62 (And.intro (And.intro ok_61 (And.intro trivial trivial)) trivial)))) (And.intro ok_67 (And.intro (And.intro ok_65 (And.intro (And.intro ok_64 (And.intro trivial trivial)) (And.intro ok_66 (And.intro trivial trivial)))) (And.intro ok_71 (And.intro (And.intro ok_68 (And.intro trivial trivial)) trivial)))))) (And.intro ok_79 (And.intro (And.intro ok_76 (And.intro (And.intro ok_74 (And.intro (And.intro ok_73 (And.intro trivial trivial)) (And.intro ok_75 (And.intro trivial trivial)))) (And.intro ok_78 (And.intro (And.intro ok_77 (And.intro trivial trivial)) trivial)))) (And.intro ok_83 (And.intro (And.intro ok_81 (And.intro (And.intro ok_80 (And.intro trivial trivial)) (And.intro ok_82 (And.intro trivial trivial)))) (And.intro ok_85 (And.intro (And.intro ok_84 (And.intro trivial trivial)) trivial)))))))))) e
theorem mixed : P.follows .mixedOrders = true := by kernel_rfl
def selF : List Nat := [71, 78, 20, 40]
def selL : List Nat := [60000, 66000, 47000, 26000, 23000, 23001, 25000, 48000, 45000, 50000, 40000, 40002, 67000, 72000, 31000, 20000, 20002]
def nmem (x : Nat) : List Nat → Bool
  | [] => false
  | y :: ys => cond (Nat.beq x y) true (nmem x ys)
def sel : Key → Bool
  | .fn f => !(nmem f selF)
  | .lp j _ _ _ _ _ => nmem j selL
  | .rnd .. => false
noncomputable def ext : Fo FH := fun f args h c => match args with
  | [] => cond (nmem f [13]) (some { e := .ret, vs := [.bool true], h := h, c := c, df := [] }) none
  | _ => none
noncomputable abbrev G : Orc FH := runG P bk sel ext
end Go.Proofs.Ytemkjcpfgmbibaa

namespace Go.Proofs.Ytemkjcpfgmbibaa
open Go Go.Ab Go.Proofs
set_option maxRecDepth 100000
set_option linter.unusedVariables false
variable {H : Type} [HeapC H]
noncomputable def f4_S (o : Orc H) (t0 t1 t2 : Value) (h : H) (c : Nat) : Option (Rt H) :=
 (bif (t0 : Value).cells.toList.all isFlat then
 (bif (t1 : Value).cells.toList.all isFlat then
 (bif (t2 : Value).cells.toList.all isFlat then
 (addOff (ptrTo (256 * c + 0)) 0).bind fun t7 =>
 (ld1 (newB (newB (newB h (256 * c + 0) (t0 : Value).cells.toList) (256 * c + 1) (t1 : Value).cells.toList) (256 * c + 2) (t2 : Value).cells.toList) t7).bind fun t8 =>
 (lenS t8).bind fun t9 =>
 (aBinOp P .gtr 3 t9 (.int .i64 100)).bind fun t10 =>
 ((gv t10 false).bind fun w => cond w (ret1 (newB (newB (newB h (256 * c + 0) (t0 : Value).cells.toList) (256 * c + 1) (t1 : Value).cells.toList) (256 * c + 2) (t2 : Value).cells.toList) ((c + 1) + 1) (addOff (ptrTo (256 * c + 1)) 0)) (some (undef, (newB (newB (newB h (256 * c + 0) (t0 : Value).cells.toList) (256 * c + 1) (t1 : Value).cells.toList) (256 * c + 2) (t2 : Value).cells.toList), ((c + 1) + 1)))).bind fun r0 =>
 ((gv t10 false).bind fun w => cond w (ret1 r0.2.1 r0.2.2 (ld1 r0.2.1 r0.1)) (some (undef, r0.2.1, r0.2.2))).bind fun r1 =>
 ((gv t10 false).bind fun w => cond w (((lenS r1.1).bind fun v => some (v, r1.2.1)).bind fun r => some (r.1, r.2, r1.2.2)) (some (undef, r1.2.1, r1.2.2))).bind fun r2 =>
 ((gv t10 false).bind fun w => cond w (ret1 r2.2.1 r2.2.2 (aBinOp P .gtr 3 r2.1 (.int .i64 100))) (some (undef, r2.2.1, r2.2.2))).bind fun r3 =>
 (pickV t10 (.bool true) r3.1).bind fun t16 =>
 boolK t16
 (some { e := .ret, vs := [(.bool true)], h := r3.2.1, c := (r3.2.2 + 1), df := [] })
 ((callF o 13 [] r3.2.1 (r3.2.2 + 1)).bind fun r4 =>
 ((gv r4.1 true).bind fun w => cond w (ret1 r4.2.1 r4.2.2 (ldN r4.2.1 1 (ptrTo (256 * c + 0)))) (some (undef, r4.2.1, r4.2.2))).bind fun r5 =>
 ((gv r4.1 true).bind fun w => cond w (ret1 r5.2.1 r5.2.2 (ldN r5.2.1 1 (ptrTo (256 * c + 1)))) (some (undef, r5.2.1, r5.2.2))).bind fun r6 =>
 ((gv r4.1 true).bind fun w => cond w (ret1 r6.2.1 r6.2.2 (ldN r6.2.1 2 (ptrTo (256 * c + 2)))) (some (undef, r6.2.1, r6.2.2))).bind fun r7 =>
 ((gv r4.1 true).bind fun w => cond w (callF o 14 [r5.1, r6.1, r7.1] r7.2.1 r7.2.2) (some (undef, r7.2.1, r7.2.2))).bind fun r8 =>
 ((gv r4.1 true).bind fun w => cond w (ret1 r8.2.1 r8.2.2 (ldN r8.2.1 1 (ptrTo (256 * c + 0)))) (some (undef, r8.2.1, r8.2.2))).bind fun r9 =>
 ((gv r4.1 true).bind fun w => cond w (ret1 r9.2.1 r9.2.2 (ldN r9.2.1 1 (ptrTo (256 * c + 1)))) (some (undef, r9.2.1, r9.2.2))).bind fun r10 =>
 ((gv r4.1 true).bind fun w => cond w (ret1 r10.2.1 r10.2.2 (ldN r10.2.1 2 (ptrTo (256 * c + 2)))) (some (undef, r10.2.1, r10.2.2))).bind fun r11 =>
 ((gv r4.1 true).bind fun w => cond w (callF o 15 [r9.1, r10.1, r11.1] r11.2.1 r11.2.2) (some (undef, r11.2.1, r11.2.2))).bind fun r12 =>
 ((gv r4.1 true).bind fun w => cond w (ret1 r12.2.1 r12.2.2 (aBinOp P .eql 26 r8.1 r12.1)) (some (undef, r12.2.1, r12.2.2))).bind fun r13 =>
 (pickV r4.1 r13.1 (.bool false)).bind fun t28 =>
 (bif (sameB (ridG (gv r4.1 true) (ridV (ptrTo (256 * c + 0)))) r7.2.1 r8.2.1 && (sameB (ridG (gv r4.1 true) (ridV (ptrTo (256 * c + 1)))) r7.2.1 r8.2.1 && (sameB (ridG (gv r4.1 true) (ridV (ptrTo (256 * c + 2)))) r7.2.1 r8.2.1 && true))) then
 some { e := .ret, vs := [t28], h := r13.2.1, c := r13.2.2, df := [] }
 else none))
 else none)
 else none)
 else none)
theorem f4_S_eq (o : Orc H) (t0 t1 t2 : Value) (h : H) (c : Nat) : jx P o 29 none f4_c (tmOf (List.range 3) [t0, t1, t2]) h c [] (Kfn P Try.f4.results.toList) = f4_S o t0 t1 t2 h c := by kernel_rfl
theorem f4_go {t0 t1 t2 : Value} {h : FH} {c : Nat} {df : List Nat} {r : Rt FH} (e : f4_S G t0 t1 t2 h c = some r) : G (.fn 4) [t0, t1, t2] h c df = some (gcR h c [] r) := runG_fn (a := f4_f) bk_4 rfl (fun args h c => by cases args <;> rfl) rfl ((f4_S_eq G t0 t1 t2 h c).trans e)
noncomputable def f10_R10001 (o : Orc H) (l : Nat) (t51 t2 t3 t9 t10 : Value) (h : H) (c : Nat) : Option (Rt H) :=
 (stN (newB h (256 * c + 0) [(.int .i64 0), (.int .i64 0), (.int .i64 0), (.int .i64 0)]) 4 (ptrTo (256 * c + 0)) t51).bind fun h1 =>
 (beginSt h1 l).bind fun h2 =>
 (ldN h2 1 t2).bind fun t53 =>
 (ldN h2 1 t3).bind fun t54 =>
 (ld1 h2 t10).bind fun t55 =>
 (ldN h2 4 (ptrTo (256 * c + 0))).bind fun t56 =>
 (callF o 35 [t53, t54, t55, t56] h2 ((c + 1) + 1)).bind fun r3 =>
 (extV r3.1 0).bind fun t58 =>
 (extV r3.1 1).bind fun t59 =>
 (stN (newB r3.2.1 (256 * (c + 1) + 8) [(.slice none 0 0), (.slice none 0 0)]) 2 (ptrTo (256 * (c + 1) + 8)) t58).bind fun h5 =>
 (boolK t59
  ((ld1 h5 t9).bind fun t61 =>
  (ldN h5 2 (ptrTo (256 * (c + 1) + 8))).bind fun t62 =>
  (bldL [(.slice none 0 0), (.slice none 0 0)] [(0, 2, t62)]).bind fun r6 =>
  (appV (newB h5 (256 * (r3.2.2 + 1) + 2) r6) (256 * (r3.2.2 + 1) + 3) 2 48 t61 (.slice (some ⟨(256 * (r3.2.2 + 1) + 2), 0, none⟩) 1 1)).bind fun r7 =>
  (stN r7.2 1 t9 r7.1).bind fun h9 =>
  some { e := .normal, vs := [], h := h9, c := ((r3.2.2 + 1) + 1), df := [] })
  (some { e := .normal, vs := [], h := h5, c := (r3.2.2 + 1), df := [] }) : Option (Rt H)).bind fun r10 =>
 cond (exIs r10.e .normal)
 ((setState r10.h l .ready none).bind fun h11 =>
 cond (List.isEmpty (r10.df : List Nat)) (some { e := .ret, vs := [.bool true], h := h11, c := r10.c, df := [] }) none)
 (none)
theorem f10_R10001_eq (o : Orc H) (l : Nat) (t51 t2 t3 t9 t10 : Value) (h : H) (c : Nat) : jx P o 67 (some l) f10_a10001 (tmOf ([51] ++ [2, 3, 9, 10]) [t51, t2, t3, t9, t10]) h c [] (rndK P o 67 l f10_c10001) = f10_R10001 o l t51 t2 t3 t9 t10 h c := by kernel_rfl
noncomputable def f10_L10000 (o : Orc H) (rd : Option Nat) (t2 t3 t9 t46 t47 : Value) (h : H) (c : Nat) (df : List Nat) : Option (Rt H) :=
 (aBinOp P .lss 3 t47 t46).bind fun t48 =>
 boolK t48
 ((stN (newB h (256 * (c + 1) + 1) [(.int .i64 0)]) 1 (ptrTo (256 * (c + 1) + 1)) t47).bind fun h1 =>
 (callF o 34 [] h1 (((c + 1) + 1) + 1)).bind fun r2 =>
 (rangeV o 67 rd [2, 3, 9, 10] [] #[51] f10_a10001 f10_c10001 r2.1 [t2, t3, t9, (ptrTo (256 * (c + 1) + 1))] r2.2.1 r2.2.2 df).bind fun q3 =>
 cond (exIs q3.1 .normal)
  ((aBinOp P .add 3 t47 (.int .i64 1)).bind fun t65 =>
  some { e := .normal, vs := [t2, t3, t9, t46, t65], h := q3.2.1, c := (q3.2.2.1 + 1), df := q3.2.2.2 })
  (none))
 (some { e := (.exit 0), vs := [t2, t3, t9, t46, t47], h := h, c := (c + 1), df := df })
theorem f10_L10000_eq (o : Orc H) (rd : Option Nat) (t2 t3 t9 t46 t47 : Value) (h : H) (c : Nat) (df : List Nat) : jx P o 67 rd f10_c10000 (tmOf [2, 3, 9, 46, 47] [t2, t3, t9, t46, t47]) h c df (Klp [2, 3, 9, 46, 47]) = f10_L10000 o rd t2 t3 t9 t46 t47 h c df := by kernel_rfl
noncomputable def f10_S (o : Orc H) (t0 t1 : Value) (h : H) (c : Nat) : Option (Rt H) :=
 (bif (t0 : Value).cells.toList.all isFlat then
 (bif (t1 : Value).cells.toList.all isFlat then
 (ldN (newB (newB h (256 * c + 0) (t0 : Value).cells.toList) (256 * c + 1) (t1 : Value).cells.toList) 1 (ptrTo (256 * c + 0))).bind fun t14 =>
 (ldN (newB (newB h (256 * c + 0) (t0 : Value).cells.toList) (256 * c + 1) (t1 : Value).cells.toList) 1 (ptrTo (256 * c + 1))).bind fun t15 =>
 (bldL [(.slice none 0 0), (.slice none 0 0)] [(0, 1, t14), (1, 1, t15)]).bind fun r0 =>
 (callF o 31 [(.slice (some ⟨(256 * (c + 1) + 2), 0, none⟩) 2 2)] (newB (newB (newB h (256 * c + 0) (t0 : Value).cells.toList) (256 * c + 1) (t1 : Value).cells.toList) (256 * (c + 1) + 2) r0) ((c + 1) + 1)).bind fun r1 =>
 (aBinOp P .neq 26 r1.1 (.int .i64 0)).bind fun t19 =>
 boolK t19
 (some { e := .ret, vs := [.tuple #[(.slice none 0 0), r1.1]], h := r1.2.1, c := ((r1.2.2 + 1) + 1), df := [] })
 ((ldN r1.2.1 1 (ptrTo (256 * c + 0))).bind fun t22 =>
 (callF o 32 [t22] r1.2.1 ((r1.2.2 + 1) + 1)).bind fun r2 =>
 (extV r2.1 0).bind fun t24 =>
 (extV r2.1 1).bind fun t25 =>
 (lenS t24).bind fun t27 =>
 (aBinOp P .eql 3 t27 (.int .i64 0)).bind fun t28 =>
 ((gv t28 false).bind fun w => cond w (ret1 r2.2.1 (r2.2.2 + 1) (some t24)) (some (undef, r2.2.1, (r2.2.2 + 1)))).bind fun r3 =>
 ((gv t28 false).bind fun w => cond w (callF o 33 [r3.1] r3.2.1 r3.2.2) (some (undef, r3.2.1, r3.2.2))).bind fun r4 =>
 ((gv t28 false).bind fun w => cond w (ret1 r4.2.1 r4.2.2 (aBinOp P .gtr 3 r4.1 (.int .i64 0))) (some (undef, r4.2.1, r4.2.2))).bind fun r5 =>
 (pickV t28 (.bool true) r5.1).bind fun t33 =>
 boolK t33
  (some { e := .ret, vs := [.tuple #[(.slice none 0 0), (.int .i64 1)]], h := r5.2.1, c := (r5.2.2 + 1), df := [] })
  ((lenS t24).bind fun t35 =>
  (aBinOp P .gtr 3 t35 (.int .i64 200)).bind fun t36 =>
  boolK t36
   (some { e := .ret, vs := [.tuple #[(.slice none 0 0), (.int .i64 2)]], h := r5.2.1, c := ((r5.2.2 + 1) + 1), df := [] })
   ((addOff (ptrTo (256 * c + 1)) 0).bind fun t37 =>
   (ld1 r5.2.1 t37).bind fun t38 =>
   (lenS t38).bind fun t39 =>
   (addOff (ptrTo (256 * c + 0)) 0).bind fun t40 =>
   (ld1 r5.2.1 t40).bind fun t41 =>
   (lenS t41).bind fun t42 =>
   (aBinOp P .neq 3 t39 t42).bind fun t43 =>
   boolK t43
    (some { e := .ret, vs := [.tuple #[(.slice none 0 0), (.int .i64 0)]], h := r5.2.1, c := (((r5.2.2 + 1) + 1) + 1), df := [] })
    ((addOff (ptrTo (256 * c + 0)) 0).bind fun t44 =>
    (ld1 (newB r5.2.1 (256 * ((r5.2.2 + 1) + 1) + 0) [(.slice none 0 0)]) t44).bind fun t45 =>
    (lenS t45).bind fun t46 =>
    (o (f10_k10000 none) [(ptrTo (256 * c + 0)), (ptrTo (256 * c + 1)), (ptrTo (256 * ((r5.2.2 + 1) + 1) + 0)), t46, (.int .i64 0)] (newB r5.2.1 (256 * ((r5.2.2 + 1) + 1) + 0) [(.slice none 0 0)]) ((((r5.2.2 + 1) + 1) + 1) + 1) []).bind fun r6 =>
    cond (exIs r6.e (.exit 0))
     ((ld1 r6.h (r6.v 2)).bind fun t66 =>
     (takeAll r6.h r6.df).bind fun h7 =>
     some { e := .ret, vs := [.tuple #[t66, (.int .i64 0)]], h := h7, c := (r6.c + 1), df := [] })
     (none)))))
 else none)
 else none)
theorem f10_S_eq (o : Orc H) (t0 t1 : Value) (h : H) (c : Nat) : jx P o 67 none f10_c (tmOf (List.range 2) [t0, t1]) h c [] (Kfn P Try.f10.results.toList) = f10_S o t0 t1 h c := by kernel_rfl
theorem f10_go {t0 t1 : Value} {h : FH} {c : Nat} {df : List Nat} {r : Rt FH} (e : f10_S G t0 t1 h c = some r) : G (.fn 10) [t0, t1] h c df = some (gcR h c [] r) := runG_fn (a := f10_f) bk_10 rfl (fun args h c => by cases args <;> rfl) rfl ((f10_S_eq G t0 t1 h c).trans e)
theorem f10_N10000 {rd : Option Nat} {t2 t3 t9 t46 t47 : Value} {h : FH} {c : Nat} {df : List Nat} {q r : Rt FH} (e : f10_L10000 G rd t2 t3 t9 t46 t47 h c df = some q) (hq : q.e = .normal) (k : G (f10_k10000 rd) q.vs q.h q.c q.df = some r) : G (f10_k10000 rd) [t2, t3, t9, t46, t47] h c df = some r := runG_lp_next ((f10_L10000_eq G rd t2 t3 t9 t46 t47 h c df).trans e) hq k
theorem f10_Z10000 {rd : Option Nat} {t2 t3 t9 t46 t47 : Value} {h : FH} {c : Nat} {df : List Nat} {q : Rt FH} (e : f10_L10000 G rd t2 t3 t9 t46 t47 h c df = some q) (hq : q.e ≠ .normal) : G (f10_k10000 rd) [t2, t3, t9, t46, t47] h c df = some q := runG_lp_last ((f10_L10000_eq G rd t2 t3 t9 t46 t47 h c df).trans e) hq
theorem f10_G10001 {t51 t2 t3 t9 t10 : Value} {l : Nat} {h : FH} {c : Nat} {df : List Nat} {r : Rt FH} (e : f10_R10001 G l t51 t2 t3 t9 t10 h c = some r) : G (.rnd 67 [2, 3, 9, 10] [] [51] l f10_a10001 f10_c10001) [t51, t2, t3, t9, t10] h c df = some r := runG_rnd ((f10_R10001_eq G l t51 t2 t3 t9 t10 h c).trans e)
noncomputable def f13_S (o : Orc H) (h : H) (c : Nat) : Option (Rt H) :=
 (bldV [(.int .i64 0), (.int .i64 0), (.int .i64 0), (.int .i64 0), (.int .i64 0)] [(0, 1, (.int .i64 (-1)))]).bind fun t13 =>
 (bldV [(.int .i64 0), (.int .i64 0), (.int .i64 0), (.int .i64 0), (.int .i64 0)] [(0, 1, (.int .i64 (-1)))]).bind fun t14 =>
 (bldV [(.int .i64 0), (.int .i64 0), (.int .i64 0), (.int .i64 0), (.int .i64 0)] [(0, 1, (.int .i64 (-1)))]).bind fun t15 =>
 (bldV [(.int .i64 0), (.int .i64 0), (.int .i64 0), (.int .i64 0), (.int .i64 0)] [(0, 1, (.int .i64 (-1)))]).bind fun t16 =>
 (bldV [(.int .i64 0), (.int .i64 0), (.int .i64 0), (.int .i64 0), (.int .i64 0), (.int .i64 0), (.int .i64 0), (.int .i64 0), (.int .i64 0), (.int .i64 0), (.int .i64 0), (.int .i64 0), (.int .i64 0), (.int .i64 0), (.int .i64 0), (.int .i64 0), (.int .i64 0), (.int .i64 0), (.int .i64 0), (.int .i64 0)] [(0, 5, t13), (5, 5, t14), (10, 5, t15), (15, 5, t16)]).bind fun t17 =>
 (bldL [(.int .i64 0), (.int .i64 0), (.int .i64 0), (.int .i64 0), (.int .i64 0), (.int .i64 0), (.int .i64 0), (.int .i64 0), (.int .i64 0), (.int .i64 0), (.int .i64 0), (.int .i64 0), (.int .i64 0), (.int .i64 0), (.int .i64 0), (.int .i64 0), (.int .i64 0), (.int .i64 0), (.int .i64 0), (.int .i64 0)] [(0, 20, t17)]).bind fun r0 =>
 (bldV [(.slice none 0 0)] [(0, 1, (.slice (some ⟨(256 * (c + 1) + 5), 0, none⟩) 1 1))]).bind fun t19 =>
 (stN (newB (newB h (256 * (c + 1) + 5) r0) (256 * (c + 1) + 7) [(.slice none 0 0)]) 1 (ptrTo (256 * (c + 1) + 7)) t19).bind fun h2 =>
 (callF o 39 [] h2 (((c + 1) + 1) + 1)).bind fun r3 =>
 (callF o 22 [r3.1] r3.2.1 r3.2.2).bind fun r4 =>
 (extV r4.1 0).bind fun t23 =>
 (extV r4.1 1).bind fun t24 =>
 (callF o 39 [] r4.2.1 (r4.2.2 + 1)).bind fun r5 =>
 (callF o 39 [] r5.2.1 r5.2.2).bind fun r6 =>
 (callF o 10 [r5.1, r6.1] r6.2.1 r6.2.2).bind fun r7 =>
 (extV r7.1 0).bind fun t29 =>
 (extV r7.1 1).bind fun t30 =>
 (ldN r7.2.1 1 (ptrTo (256 * (c + 1) + 7))).bind fun t32 =>
 (ldN r7.2.1 1 (ptrTo (256 * (c + 1) + 7))).bind fun t33 =>
 (callF o 10 [t32, t33] r7.2.1 (r7.2.2 + 1)).bind fun r8 =>
 (extV r8.1 0).bind fun t35 =>
 (extV r8.1 1).bind fun t36 =>
 (callF o 39 [] r8.2.1 (r8.2.2 + 1)).bind fun r9 =>
 (ldN r9.2.1 1 (ptrTo (256 * (c + 1) + 7))).bind fun t39 =>
 (callF o 28 [r9.1, t39] r9.2.1 r9.2.2).bind fun r10 =>
 (extV r10.1 0).bind fun t41 =>
 (extV r10.1 1).bind fun t42 =>
 (extV r10.1 2).bind fun t43 =>
 (stN (newB r10.2.1 (256 * r8.2.2 + 7) [(.slice none 0 0), (.slice none 0 0)]) 2 (ptrTo (256 * r8.2.2 + 7)) t41).bind fun h12 =>
 (bif (sameB (ridV (ptrTo (256 * (c + 1) + 7))) r8.2.1 r9.2.1 && true) then
 (bldL [(.int .i64 0)] [(0, 1, (.int .i64 0))]).bind fun r13 =>
 (bldV [(.int .i64 0), (.int .i64 0), (.int .i64 0), (.int .i64 0)] [(0, 1, (.int .i64 1)), (1, 1, (.int .i64 2)), (2, 1, (.int .i64 3)), (3, 1, (.int .i64 0))]).bind fun t46 =>
 (bldL [(.int .i64 0), (.int .i64 0), (.int .i64 0), (.int .i64 0)] [(0, 4, t46)]).bind fun r14 =>
 (bldV [(.slice none 0 0), (.slice none 0 0)] [(0, 1, (.slice (some ⟨(256 * r10.2.2 + 0), 0, none⟩) 1 1)), (1, 1, (.slice (some ⟨(256 * r10.2.2 + 2), 0, none⟩) 1 1))]).bind fun t48 =>
 (bldL [(.int .i64 0)] [(0, 1, (.int .i64 0))]).bind fun r15 =>
 (bldV [(.int .i64 0), (.int .i64 0), (.int .i64 0), (.int .i64 0)] [(0, 1, (.int .i64 1)), (1, 1, (.int .i64 0)), (2, 1, (.int .i64 2)), (3, 1, (.int .i64 3))]).bind fun t50 =>
 (bldL [(.int .i64 0), (.int .i64 0), (.int .i64 0), (.int .i64 0)] [(0, 4, t50)]).bind fun r16 =>
 (bldV [(.slice none 0 0), (.slice none 0 0)] [(0, 1, (.slice (some ⟨(256 * r10.2.2 + 4), 0, none⟩) 1 1)), (1, 1, (.slice (some ⟨(256 * r10.2.2 + 6), 0, none⟩) 1 1))]).bind fun t52 =>
 (callF o 16 [t48, t52] (newB (newB (newB (newB h12 (256 * r10.2.2 + 0) r13) (256 * r10.2.2 + 2) r14) (256 * r10.2.2 + 4) r15) (256 * r10.2.2 + 6) r16) (r10.2.2 + 1)).bind fun r17 =>
 (extV r17.1 0).bind fun t54 =>
 (extV r17.1 1).bind fun t55 =>
 (stN (newB r17.2.1 (256 * r10.2.2 + 12) [(.slice none 0 0), (.slice none 0 0)]) 2 (ptrTo (256 * r10.2.2 + 12)) t54).bind fun h19 =>
 (aBinOp P .eql 26 t24 (.int .i64 0)).bind fun t57 =>
 ((gv t57 true).bind fun w => cond w (ret1 h19 (r17.2.2 + 1) (some t30)) (some (undef, h19, (r17.2.2 + 1)))).bind fun r20 =>
 ((gv t57 true).bind fun w => cond w (ret1 r20.2.1 r20.2.2 (aBinOp P .eql 26 r20.1 (.int .i64 0))) (some (undef, r20.2.1, r20.2.2))).bind fun r21 =>
 (pickV t57 r21.1 (.bool false)).bind fun t61 =>
 ((gv t61 true).bind fun w => cond w (ret1 r21.2.1 r21.2.2 (some t36)) (some (undef, r21.2.1, r21.2.2))).bind fun r22 =>
 ((gv t61 true).bind fun w => cond w (ret1 r22.2.1 r22.2.2 (aBinOp P .eql 26 r22.1 (.int .i64 0))) (some (undef, r22.2.1, r22.2.2))).bind fun r23 =>
 (pickV t61 r23.1 (.bool false)).bind fun t65 =>
 ((gv t65 true).bind fun w => cond w (ret1 r23.2.1 r23.2.2 (some t43)) (some (undef, r23.2.1, r23.2.2))).bind fun r24 =>
 ((gv t65 true).bind fun w => cond w (ret1 r24.2.1 r24.2.2 (aBinOp P .eql 26 r24.1 (.int .i64 0))) (some (undef, r24.2.1, r24.2.2))).bind fun r25 =>
 (pickV t65 r25.1 (.bool false)).bind fun t69 =>
 ((gv t69 true).bind fun w => cond w (ret1 r25.2.1 r25.2.2 (some t55)) (some (undef, r25.2.1, r25.2.2))).bind fun r26 =>
 ((gv t69 true).bind fun w => cond w (ret1 r26.2.1 r26.2.2 (aBinOp P .eql 26 r26.1 (.int .i64 0))) (some (undef, r26.2.1, r26.2.2))).bind fun r27 =>
 (pickV t69 r27.1 (.bool false)).bind fun t73 =>
 ((gv t73 true).bind fun w => cond w (ret1 r27.2.1 r27.2.2 (some t23)) (some (undef, r27.2.1, r27.2.2))).bind fun r28 =>
 ((gv t73 true).bind fun w => cond w ((bldL [(.int .i64 0), (.int .i64 0), (.int .i64 0), (.int .i64 0), (.int .i64 0), (.int .i64 0), (.int .i64 0), (.int .i64 0), (.int .i64 0), (.int .i64 0), (.int .i64 0), (.int .i64 0), (.int .i64 0), (.int .i64 0), (.int .i64 0), (.int .i64 0), (.int .i64 0), (.int .i64 0), (.int .i64 0), (.int .i64 0)] [(0, 1, (.int .i64 0)), (1, 1, (.int .i64 1)), (2, 1, (.int .i64 0)), (3, 1, (.int .i64 2)), (4, 1, (.int .i64 3)), (5, 1, (.int .i64 0)), (6, 1, (.int .i64 1)), (7, 1, (.int .i64 0)), (8, 1, (.int .i64 2)), (9, 1, (.int .i64 3)), (10, 1, (.int .i64 0)), (11, 1, (.int .i64 0)), (12, 1, (.int .i64 1)), (13, 1, (.int .i64 3)), (14, 1, (.int .i64 2)), (15, 1, (.int .i64 0)), (16, 1, (.int .i64 0)), (17, 1, (.int .i64 1)), (18, 1, (.int .i64 3)), (19, 1, (.int .i64 2))]).bind fun cs => some (.slice (some ⟨(256 * r17.2.2 + 20), 0, none⟩) 20 20, newB r28.2.1 (256 * r17.2.2 + 20) cs, r28.2.2)) (some (undef, r28.2.1, r28.2.2))).bind fun r29 =>
 ((gv t73 true).bind fun w => cond w (callF o 26 [r28.1, r29.1] r29.2.1 r29.2.2) (some (undef, r29.2.1, r29.2.2))).bind fun r30 =>
 (pickV t73 r30.1 (.bool false)).bind fun t78 =>
 ((gv t78 true).bind fun w => cond w (ret1 r30.2.1 r30.2.2 (some t29)) (some (undef, r30.2.1, r30.2.2))).bind fun r31 =>
 ((gv t78 true).bind fun w => cond w (((lenS r31.1).bind fun v => some (v, r31.2.1)).bind fun r => some (r.1, r.2, r31.2.2)) (some (undef, r31.2.1, r31.2.2))).bind fun r32 =>
 ((gv t78 true).bind fun w => cond w (ret1 r32.2.1 r32.2.2 (aBinOp P .eql 3 r32.1 (.int .i64 8))) (some (undef, r32.2.1, r32.2.2))).bind fun r33 =>
 (pickV t78 r33.1 (.bool false)).bind fun t83 =>
 ((gv t83 true).bind fun w => cond w (ret1 r33.2.1 r33.2.2 (some t35)) (some (undef, r33.2.1, r33.2.2))).bind fun r34 =>
 ((gv t83 true).bind fun w => cond w (((lenS r34.1).bind fun v => some (v, r34.2.1)).bind fun r => some (r.1, r.2, r34.2.2)) (some (undef, r34.2.1, r34.2.2))).bind fun r35 =>
 ((gv t83 true).bind fun w => cond w (ret1 r35.2.1 r35.2.2 (aBinOp P .eql 3 r35.1 (.int .i64 24))) (some (undef, r35.2.1, r35.2.2))).bind fun r36 =>
 (pickV t83 r36.1 (.bool false)).bind fun t88 =>
 ((gv t88 true).bind fun w => cond w (ret1 r36.2.1 r36.2.2 (some t42)) (some (undef, r36.2.1, r36.2.2))).bind fun r37 =>
 ((gv t88 true).bind fun w => cond w (ret1 r37.2.1 r37.2.2 (aUnOp .not r37.1)) (some (undef, r37.2.1, r37.2.2))).bind fun r38 =>
 (pickV t88 r38.1 (.bool false)).bind fun t92 =>
 ((gv t92 true).bind fun w => cond w (ret1 r38.2.1 r38.2.2 (addOff (ptrTo (256 * r10.2.2 + 12)) 1)) (some (undef, r38.2.1, r38.2.2))).bind fun r39 =>
 ((gv t92 true).bind fun w => cond w (ret1 r39.2.1 r39.2.2 (ld1 r39.2.1 r39.1)) (some (undef, r39.2.1, r39.2.2))).bind fun r40 =>
 ((gv t92 true).bind fun w => cond w (((lenS r40.1).bind fun v => some (v, r40.2.1)).bind fun r => some (r.1, r.2, r40.2.2)) (some (undef, r40.2.1, r40.2.2))).bind fun r41 =>
 ((gv t92 true).bind fun w => cond w (ret1 r41.2.1 r41.2.2 (aBinOp P .eql 3 r41.1 (.int .i64 1))) (some (undef, r41.2.1, r41.2.2))).bind fun r42 =>
 (pickV t92 r42.1 (.bool false)).bind fun t98 =>
 ((gv t98 true).bind fun w => cond w (ret1 r42.2.1 r42.2.2 (addOff (ptrTo (256 * r10.2.2 + 12)) 1)) (some (undef, r42.2.1, r42.2.2))).bind fun r43 =>
 ((gv t98 true).bind fun w => cond w (ret1 r43.2.1 r43.2.2 (ld1 r43.2.1 r43.1)) (some (undef, r43.2.1, r43.2.2))).bind fun r44 =>
 ((gv t98 true).bind fun w => cond w (ret1 r44.2.1 r44.2.2 (ixS 4 r44.1 (.int .i64 0))) (some (undef, r44.2.1, r44.2.2))).bind fun r45 =>
 ((gv t98 true).bind fun w => cond w (ret1 r45.2.1 r45.2.2 (ldN r45.2.1 4 r45.1)) (some (undef, r45.2.1, r45.2.2))).bind fun r46 =>
 ((gv t98 true).bind fun w => cond w (ret1 r46.2.1 r46.2.2 (bldV [(.int .i64 0), (.int .i64 0), (.int .i64 0), (.int .i64 0)] [(0, 1, (.int .i64 2)), (1, 1, (.int .i64 1)), (2, 1, (.int .i64 3)), (3, 1, (.int .i64 0))])) (some (undef, r46.2.1, r46.2.2))).bind fun r47 =>
 ((gv t98 true).bind fun w => cond w (ret1 r47.2.1 r47.2.2 (aBinOp P .eql 67 r46.1 r47.1)) (some (undef, r47.2.1, r47.2.2))).bind fun r48 =>
 (pickV t98 r48.1 (.bool false)).bind fun t106 =>
 some { e := .ret, vs := [t106], h := r48.2.1, c := r48.2.2, df := [] }
 else none)
theorem f13_S_eq (o : Orc H) (h : H) (c : Nat) : jx P o 107 none f13_c (tmOf (List.range 0) []) h c [] (Kfn P Try.f13.results.toList) = f13_S o h c := by kernel_rfl
noncomputable def f14_S (o : Orc H) (t0 t1 t2 : Value) (h : H) (c : Nat) : Option (Rt H) :=
 (bif (t0 : Value).cells.toList.all isFlat then
 (bif (t1 : Value).cells.toList.all isFlat then
 (bif (t2 : Value).cells.toList.all isFlat then
 (ldN (newB (newB (newB h (256 * c + 0) (t0 : Value).cells.toList) (256 * c + 1) (t1 : Value).cells.toList) (256 * c + 2) (t2 : Value).cells.toList) 1 (ptrTo (256 * c + 0))).bind fun t10 =>
 (ldN (newB (newB (newB h (256 * c + 0) (t0 : Value).cells.toList) (256 * c + 1) (t1 : Value).cells.toList) (256 * c + 2) (t2 : Value).cells.toList) 1 (ptrTo (256 * c + 1))).bind fun t11 =>
 (bldL [(.slice none 0 0), (.slice none 0 0)] [(0, 1, t10), (1, 1, t11)]).bind fun r0 =>
 (callF o 31 [(.slice (some ⟨(256 * (c + 1) + 2), 0, none⟩) 2 2)] (newB (newB (newB (newB h (256 * c + 0) (t0 : Value).cells.toList) (256 * c + 1) (t1 : Value).cells.toList) (256 * c + 2) (t2 : Value).cells.toList) (256 * (c + 1) + 2) r0) ((c + 1) + 1)).bind fun r1 =>
 (aBinOp P .neq 26 r1.1 (.int .i64 0)).bind fun t15 =>
 boolK t15
 (some { e := .ret, vs := [r1.1], h := r1.2.1, c := ((r1.2.2 + 1) + 1), df := [] })
 ((ldN r1.2.1 1 (ptrTo (256 * c + 0))).bind fun t18 =>
 (addOff (ptrTo (256 * c + 2)) 0).bind fun t19 =>
 (ld1 r1.2.1 t19).bind fun t20 =>
 (addOff (ptrTo (256 * c + 2)) 1).bind fun t21 =>
 (ld1 r1.2.1 t21).bind fun t22 =>
 (callF o 40 [t18, t20, t22] r1.2.1 ((r1.2.2 + 1) + 1)).bind fun r2 =>
 (extV r2.1 0).bind fun t24 =>
 (extV r2.1 1).bind fun t25 =>
 (stN (newB r2.2.1 (256 * (r1.2.2 + 1) + 9) [(.slice none 0 0)]) 1 (ptrTo (256 * (r1.2.2 + 1) + 9)) t24).bind fun h4 =>
 (aBinOp P .neq 26 t25 (.int .i64 0)).bind fun t27 =>
 ((gv t27 false).bind fun w => cond w (ret1 h4 (r2.2.2 + 1) (ldN h4 1 (ptrTo (256 * (r1.2.2 + 1) + 9)))) (some (undef, h4, (r2.2.2 + 1)))).bind fun r5 =>
 ((gv t27 false).bind fun w => cond w (ret1 r5.2.1 r5.2.2 (ldN r5.2.1 1 (ptrTo (256 * c + 1)))) (some (undef, r5.2.1, r5.2.2))).bind fun r6 =>
 ((gv t27 false).bind fun w => cond w (callF o 41 [r5.1, r6.1] r6.2.1 r6.2.2) (some (undef, r6.2.1, r6.2.2))).bind fun r7 =>
 ((gv t27 false).bind fun w => cond w (ret1 r7.2.1 r7.2.2 (aUnOp .not r7.1)) (some (undef, r7.2.1, r7.2.2))).bind fun r8 =>
 (pickV t27 (.bool true) r8.1).bind fun t33 =>
 boolK t33
  (some { e := .ret, vs := [(.int .i64 30)], h := r8.2.1, c := (r8.2.2 + 1), df := [] })
  (some { e := .ret, vs := [(.int .i64 0)], h := r8.2.1, c := (r8.2.2 + 1), df := [] }))
 else none)
 else none)
 else none)
theorem f14_S_eq (o : Orc H) (t0 t1 t2 : Value) (h : H) (c : Nat) : jx P o 34 none f14_c (tmOf (List.range 3) [t0, t1, t2]) h c [] (Kfn P Try.f14.results.toList) = f14_S o t0 t1 t2 h c := by kernel_rfl
theorem f14_go {t0 t1 t2 : Value} {h : FH} {c : Nat} {df : List Nat} {r : Rt FH} (e : f14_S G t0 t1 t2 h c = some r) : G (.fn 14) [t0, t1, t2] h c df = some (gcR h c [] r) := runG_fn (a := f14_f) bk_14 rfl (fun args h c => by cases args <;> rfl) rfl ((f14_S_eq G t0 t1 t2 h c).trans e)
noncomputable def f15_S (o : Orc H) (t0 t1 t2 : Value) (h : H) (c : Nat) : Option (Rt H) :=
 (bif (t0 : Value).cells.toList.all isFlat then
 (bif (t1 : Value).cells.toList.all isFlat then
 (bif (t2 : Value).cells.toList.all isFlat then
 (ldN (newB (newB (newB h (256 * c + 0) (t0 : Value).cells.toList) (256 * c + 1) (t1 : Value).cells.toList) (256 * c + 2) (t2 : Value).cells.toList) 1 (ptrTo (256 * c + 0))).bind fun t9 =>
 (callF o 23 [t9] (newB (newB (newB h (256 * c + 0) (t0 : Value).cells.toList) (256 * c + 1) (t1 : Value).cells.toList) (256 * c + 2) (t2 : Value).cells.toList) ((c + 1) + 1)).bind fun r0 =>
 (aBinOp P .neq 26 r0.1 (.int .i64 0)).bind fun t11 =>
 ((gv t11 false).bind fun w => cond w (ret1 r0.2.1 r0.2.2 (ldN r0.2.1 1 (ptrTo (256 * c + 1)))) (some (undef, r0.2.1, r0.2.2))).bind fun r1 =>
 ((gv t11 false).bind fun w => cond w (callF o 23 [r1.1] r1.2.1 r1.2.2) (some (undef, r1.2.1, r1.2.2))).bind fun r2 =>
 ((gv t11 false).bind fun w => cond w (ret1 r2.2.1 r2.2.2 (aBinOp P .neq 26 r2.1 (.int .i64 0))) (some (undef, r2.2.1, r2.2.2))).bind fun r3 =>
 (pickV t11 (.bool true) r3.1).bind fun t16 =>
 boolK t16
 (some { e := .ret, vs := [(.int .i64 7)], h := r3.2.1, c := (r3.2.2 + 1), df := [] })
 ((ldN r3.2.1 1 (ptrTo (256 * c + 0))).bind fun t18 =>
 (addOff (ptrTo (256 * c + 2)) 0).bind fun t19 =>
 (ld1 r3.2.1 t19).bind fun t20 =>
 (addOff (ptrTo (256 * c + 2)) 1).bind fun t21 =>
 (ld1 r3.2.1 t21).bind fun t22 =>
 (callF o 20 [t18, t20, t22] r3.2.1 (r3.2.2 + 1)).bind fun r4 =>
 (extV r4.1 0).bind fun t24 =>
 (extV r4.1 1).bind fun t25 =>
 (stN (newB r4.2.1 (256 * r3.2.2 + 9) [(.slice none 0 0)]) 1 (ptrTo (256 * r3.2.2 + 9)) t24).bind fun h6 =>
 (aBinOp P .neq 26 t25 (.int .i64 0)).bind fun t27 =>
 ((gv t27 false).bind fun w => cond w (ret1 h6 (r4.2.2 + 1) (ldN h6 1 (ptrTo (256 * r3.2.2 + 9)))) (some (undef, h6, (r4.2.2 + 1)))).bind fun r7 =>
 ((gv t27 false).bind fun w => cond w (ret1 r7.2.1 r7.2.2 (ldN r7.2.1 1 (ptrTo (256 * c + 1)))) (some (undef, r7.2.1, r7.2.2))).bind fun r8 =>
 ((gv t27 false).bind fun w => cond w (callF o 25 [r7.1, r8.1] r8.2.1 r8.2.2) (some (undef, r8.2.1, r8.2.2))).bind fun r9 =>
 ((gv t27 false).bind fun w => cond w (ret1 r9.2.1 r9.2.2 (aUnOp .not r9.1)) (some (undef, r9.2.1, r9.2.2))).bind fun r10 =>
 (pickV t27 (.bool true) r10.1).bind fun t33 =>
 boolK t33
  (some { e := .ret, vs := [(.int .i64 30)], h := r10.2.1, c := (r10.2.2 + 1), df := [] })
  (some { e := .ret, vs := [(.int .i64 0)], h := r10.2.1, c := (r10.2.2 + 1), df := [] }))
 else none)
 else none)
 else none)
theorem f15_S_eq (o : Orc H) (t0 t1 t2 : Value) (h : H) (c : Nat) : jx P o 34 none f15_c (tmOf (List.range 3) [t0, t1, t2]) h c [] (Kfn P Try.f15.results.toList) = f15_S o t0 t1 t2 h c := by kernel_rfl
theorem f15_go {t0 t1 t2 : Value} {h : FH} {c : Nat} {df : List Nat} {r : Rt FH} (e : f15_S G t0 t1 t2 h c = some r) : G (.fn 15) [t0, t1, t2] h c df = some (gcR h c [] r) := runG_fn (a := f15_f) bk_15 rfl (fun args h c => by cases args <;> rfl) rfl ((f15_S_eq G t0 t1 t2 h c).trans e)
noncomputable def f16_S (o : Orc H) (t0 t1 : Value) (h : H) (c : Nat) : Option (Rt H) :=
 (bif (t0 : Value).cells.toList.all isFlat then
 (bif (t1 : Value).cells.toList.all isFlat then
 (ldN (newB (newB (newB h (256 * c + 0) (t0 : Value).cells.toList) (256 * c + 1) (t1 : Value).cells.toList) (256 * c + 2) [(.slice none 0 0), (.slice none 0 0)]) 2 (ptrTo (256 * c + 0))).bind fun t6 =>
 (callF o 42 [t6] (newB (newB (newB h (256 * c + 0) (t0 : Value).cells.toList) (256 * c + 1) (t1 : Value).cells.toList) (256 * c + 2) [(.slice none 0 0), (.slice none 0 0)]) ((c + 1) + 1)).bind fun r0 =>
 (aUnOp .not r0.1).bind fun t8 =>
 ((gv t8 false).bind fun w => cond w (ret1 r0.2.1 r0.2.2 (ldN r0.2.1 2 (ptrTo (256 * c + 1)))) (some (undef, r0.2.1, r0.2.2))).bind fun r1 =>
 ((gv t8 false).bind fun w => cond w (callF o 42 [r1.1] r1.2.1 r1.2.2) (some (undef, r1.2.1, r1.2.2))).bind fun r2 =>
 ((gv t8 false).bind fun w => cond w (ret1 r2.2.1 r2.2.2 (aUnOp .not r2.1)) (some (undef, r2.2.1, r2.2.2))).bind fun r3 =>
 (pickV t8 (.bool true) r3.1).bind fun t13 =>
 ((gv t13 false).bind fun w => cond w (ret1 r3.2.1 r3.2.2 (addOff (ptrTo (256 * c + 0)) 0)) (some (undef, r3.2.1, r3.2.2))).bind fun r4 =>
 ((gv t13 false).bind fun w => cond w (ret1 r4.2.1 r4.2.2 (ld1 r4.2.1 r4.1)) (some (undef, r4.2.1, r4.2.2))).bind fun r5 =>
 ((gv t13 false).bind fun w => cond w (((lenS r5.1).bind fun v => some (v, r5.2.1)).bind fun r => some (r.1, r.2, r5.2.2)) (some (undef, r5.2.1, r5.2.2))).bind fun r6 =>
 ((gv t13 false).bind fun w => cond w (ret1 r6.2.1 r6.2.2 (addOff (ptrTo (256 * c + 1)) 0)) (some (undef, r6.2.1, r6.2.2))).bind fun r7 =>
 ((gv t13 false).bind fun w => cond w (ret1 r7.2.1 r7.2.2 (ld1 r7.2.1 r7.1)) (some (undef, r7.2.1, r7.2.2))).bind fun r8 =>
 ((gv t13 false).bind fun w => cond w (((lenS r8.1).bind fun v => some (v, r8.2.1)).bind fun r => some (r.1, r.2, r8.2.2)) (some (undef, r8.2.1, r8.2.2))).bind fun r9 =>
 ((gv t13 false).bind fun w => cond w (ret1 r9.2.1 r9.2.2 (aBinOp P .neq 3 r6.1 r9.1)) (some (undef, r9.2.1, r9.2.2))).bind fun r10 =>
 (pickV t13 (.bool true) r10.1).bind fun t22 =>
 boolK t22
 ((bldV [(.slice none 0 0), (.slice none 0 0)] []).bind fun t23 =>
 (stN r10.2.1 2 (ptrTo (256 * c + 2)) t23).bind fun h12 =>
 (ldN h12 2 (ptrTo (256 * c + 2))).bind fun v13 =>
 some { e := .ret, vs := [.tuple #[v13, (.int .i64 1)]], h := h12, c := (r10.2.2 + 1), df := [] })
 ((ldN r10.2.1 2 (ptrTo (256 * c + 0))).bind fun t24 =>
 (ldN r10.2.1 2 (ptrTo (256 * c + 1))).bind fun t25 =>
 (callF o 43 [t24, t25] r10.2.1 (r10.2.2 + 1)).bind fun r14 =>
 (stN r14.2.1 2 (ptrTo (256 * c + 2)) r14.1).bind fun h16 =>
 (ldN h16 2 (ptrTo (256 * c + 2))).bind fun v17 =>
 some { e := .ret, vs := [.tuple #[v17, (.int .i64 0)]], h := h16, c := r14.2.2, df := [] })
 else none)
 else none)
theorem f16_S_eq (o : Orc H) (t0 t1 : Value) (h : H) (c : Nat) : jx P o 27 none f16_c (tmOf (List.range 2) [t0, t1]) h c [] (Kfn P Try.f16.results.toList) = f16_S o t0 t1 h c := by kernel_rfl
theorem f16_go {t0 t1 : Value} {h : FH} {c : Nat} {df : List Nat} {r : Rt FH} (e : f16_S G t0 t1 h c = some r) : G (.fn 16) [t0, t1] h c df = some (gcR h c [] r) := runG_fn (a := f16_f) bk_16 rfl (fun args h c => by cases args <;> rfl) rfl ((f16_S_eq G t0 t1 h c).trans e)
end Go.Proofs.Ytemkjcpfgmbibaa

namespace Go.Proofs.Ytemkjcpfgmbibaa
open Go Go.Ab Go.Proofs
set_option maxRecDepth 100000
set_option linter.unusedVariables false
variable {H : Type} [HeapC H]
noncomputable def f20_L20000 (o : Orc H) (rd : Option Nat) (t1 t2 t3 t6 t8 t9 t10 : Value) (h : H) (c : Nat) (df : List Nat) : Option (Rt H) :=
 (aBinOp P .lss 3 t10 t8).bind fun t34 =>
 boolK t34
 ((ixS 1 t1 t10).bind fun t40 =>
 (ld1 h t40).bind fun t41 =>
 (ixS 1 t9 t41).bind fun t43 =>
 (stN h 1 t43 t10).bind fun h1 =>
 (aBinOp P .add 3 t10 (.int .i64 1)).bind fun t36 =>
 some { e := .normal, vs := [t1, t2, t3, t6, t8, t9, t36], h := h1, c := (((c + 1) + 1) + 1), df := df })
 (some { e := (.exit 0), vs := [t1, t2, t3, t6, t8, t9, t10], h := h, c := (c + 1), df := df })
theorem f20_L20000_eq (o : Orc H) (rd : Option Nat) (t1 t2 t3 t6 t8 t9 t10 : Value) (h : H) (c : Nat) (df : List Nat) : jx P o 103 rd f20_c20000 (tmOf [1, 2, 3, 6, 8, 9, 10] [t1, t2, t3, t6, t8, t9, t10]) h c df (Klp [1, 2, 3, 6, 8, 9, 10]) = f20_L20000 o rd t1 t2 t3 t6 t8 t9 t10 h c df := by kernel_rfl
noncomputable def f20_L20002 (o : Orc H) (rd : Option Nat) (t1 t2 t3 t6 t8 t9 t11 t12 t13 t14 : Value) (h : H) (c : Nat) (df : List Nat) : Option (Rt H) :=
 (aBinOp P .lss 3 t14 (.int .i64 4)).bind fun t50 =>
 boolK t50
 (((addOff t3 0).bind fun t53 =>
  (ld1 h t53).bind fun t54 =>
  (ixS 1 t1 t12).bind fun t57 =>
  (ld1 h t57).bind fun t58 =>
  (ixS 4 t2 t12).bind fun t62 =>
  (ixA 4 1 t62 t14).bind fun t63 =>
  (ld1 h t63).bind fun t64 =>
  (ixS 20 t54 t58).bind fun t65 =>
  (ixA 4 5 t65 t64).bind fun t66 =>
  (ldN h 5 t66).bind fun t67 =>
  (stN (newB h (256 * (c + 1) + 15) [(.int .i64 0), (.int .i64 0), (.int .i64 0), (.int .i64 0), (.int .i64 0)]) 5 (ptrTo (256 * (c + 1) + 15)) t67).bind fun h1 =>
  (addOff (ptrTo (256 * (c + 1) + 15)) 0).bind fun t68 =>
  (ld1 h1 t68).bind fun t69 =>
  (aBinOp P .lss 3 t69 (.int .i64 0)).bind fun t70 =>
  boolK t70
   ((ixA 4 5 t13 t14).bind fun t72 =>
   (addOff t72 0).bind fun t73 =>
   (stN h1 1 t73 (.int .i64 (-1))).bind fun h3 =>
   some { e := .normal, vs := [t1, t2, t3, t6, t8, t9, t11, t12, t13, t14], h := h3, c := ((((c + 1) + 1) + 1) + 1), df := df })
   ((addOff (ptrTo (256 * (c + 1) + 15)) 0).bind fun t75 =>
   (ld1 h1 t75).bind fun t76 =>
   (ixS 1 t9 t76).bind fun t77 =>
   (ld1 h1 t77).bind fun t78 =>
   (ixS 4 t2 t78).bind fun t83 =>
   (ldN h1 4 t83).bind fun t84 =>
   (callF o 47 [t84] h1 (((((c + 1) + 1) + 1) + 1) + 1)).bind fun r4 =>
   (addOff (ptrTo (256 * (c + 1) + 15)) 1).bind fun t86 =>
   (ldN r4.2.1 4 t86).bind fun t87 =>
   (ixS 4 t2 t12).bind fun t90 =>
   (ldN r4.2.1 4 t90).bind fun t91 =>
   (callF o 45 [t87, t91] r4.2.1 r4.2.2).bind fun r5 =>
   (callF o 45 [r4.1, r5.1] r5.2.1 r5.2.2).bind fun r6 =>
   (bldV [(.int .i64 0), (.int .i64 0), (.int .i64 0), (.int .i64 0), (.int .i64 0)] [(0, 1, t78), (1, 4, r6.1)]).bind fun t94 =>
   (ixA 4 5 t13 t14).bind fun t95 =>
   (stN r6.2.1 5 t95 t94).bind fun h8 =>
   (bif (sameB (ridV t86) h1 r4.2.1 && (sameB (ridV t90) h1 r4.2.1 && true)) then
   some { e := .normal, vs := [t1, t2, t3, t6, t8, t9, t11, t12, t13, t14], h := h8, c := r6.2.2, df := df }
   else none)) : Option (Rt H)).bind fun r9 =>
 cond (exIs r9.e .normal)
  ((aBinOp P .add 3 (r9.v 9) (.int .i64 1)).bind fun t52 =>
  some { e := .normal, vs := [(r9.v 0), (r9.v 1), (r9.v 2), (r9.v 3), (r9.v 4), (r9.v 5), (r9.v 6), (r9.v 7), (r9.v 8), t52], h := r9.h, c := (r9.c + 1), df := r9.df })
  (none))
 (some { e := (.exit 4), vs := [t1, t2, t3, t6, t8, t9, t11, t12, t13, t14], h := h, c := (c + 1), df := df })
theorem f20_L20002_eq (o : Orc H) (rd : Option Nat) (t1 t2 t3 t6 t8 t9 t11 t12 t13 t14 : Value) (h : H) (c : Nat) (df : List Nat) : jx P o 103 rd f20_c20002 (tmOf [1, 2, 3, 6, 8, 9, 11, 12, 13, 14] [t1, t2, t3, t6, t8, t9, t11, t12, t13, t14]) h c df (Klp [1, 2, 3, 6, 8, 9, 11, 12, 13, 14]) = f20_L20002 o rd t1 t2 t3 t6 t8 t9 t11 t12 t13 t14 h c df := by kernel_rfl
noncomputable def f20_L20001 (o : Orc H) (rd : Option Nat) (t1 t2 t3 t6 t8 t9 t11 t12 : Value) (h : H) (c : Nat) (df : List Nat) : Option (Rt H) :=
 (aBinOp P .lss 3 t12 t8).bind fun t46 =>
 boolK t46
 ((o (f20_k20002 rd) [t1, t2, t3, t6, t8, t9, t11, t12, (ptrTo (256 * (c + 1) + 0)), (.int .i64 0)] (newB h (256 * (c + 1) + 0) [(.int .i64 0), (.int .i64 0), (.int .i64 0), (.int .i64 0), (.int .i64 0), (.int .i64 0), (.int .i64 0), (.int .i64 0), (.int .i64 0), (.int .i64 0), (.int .i64 0), (.int .i64 0), (.int .i64 0), (.int .i64 0), (.int .i64 0), (.int .i64 0), (.int .i64 0), (.int .i64 0), (.int .i64 0), (.int .i64 0)]) (((c + 1) + 1) + 1) df).bind fun r0 =>
 cond (exIs r0.e (.exit 4))
  ((addOff (r0.v 6) 0).bind fun t96 =>
  (ld1 r0.h t96).bind fun t97 =>
  (ldN r0.h 20 (r0.v 8)).bind fun t98 =>
  (bldL [(.int .i64 0), (.int .i64 0), (.int .i64 0), (.int .i64 0), (.int .i64 0), (.int .i64 0), (.int .i64 0), (.int .i64 0), (.int .i64 0), (.int .i64 0), (.int .i64 0), (.int .i64 0), (.int .i64 0), (.int .i64 0), (.int .i64 0), (.int .i64 0), (.int .i64 0), (.int .i64 0), (.int .i64 0), (.int .i64 0)] [(0, 20, t98)]).bind fun r1 =>
  (appV (newB r0.h (256 * r0.c + 3) r1) (256 * r0.c + 4) 20 160 t97 (.slice (some ⟨(256 * r0.c + 3), 0, none⟩) 1 1)).bind fun r2 =>
  (addOff (r0.v 6) 0).bind fun t101 =>
  (stN r2.2 1 t101 r2.1).bind fun h4 =>
  (aBinOp P .add 3 (r0.v 7) (.int .i64 1)).bind fun t48 =>
  some { e := .normal, vs := [(r0.v 0), (r0.v 1), (r0.v 2), (r0.v 3), (r0.v 4), (r0.v 5), (r0.v 6), t48], h := h4, c := ((r0.c + 1) + 1), df := r0.df })
  (none))
 (some { e := (.exit 2), vs := [t1, t2, t3, t6, t8, t9, t11, t12], h := h, c := (c + 1), df := df })
theorem f20_L20001_eq (o : Orc H) (rd : Option Nat) (t1 t2 t3 t6 t8 t9 t11 t12 : Value) (h : H) (c : Nat) (df : List Nat) : jx P o 103 rd f20_c20001 (tmOf [1, 2, 3, 6, 8, 9, 11, 12] [t1, t2, t3, t6, t8, t9, t11, t12]) h c df (Klp [1, 2, 3, 6, 8, 9, 11, 12]) = f20_L20001 o rd t1 t2 t3 t6 t8 t9 t11 t12 h c df := by kernel_rfl
noncomputable def f20_S (o : Orc H) (t0 t1 t2 : Value) (h : H) (c : Nat) : Option (Rt H) :=
 (bif (t0 : Value).cells.toList.all isFlat then
 (ldN (newB (newB h (256 * c + 0) (t0 : Value).cells.toList) (256 * c + 1) [(.slice none 0 0)]) 1 (ptrTo (256 * c + 0))).bind fun t17 =>
 (callF o 23 [t17] (newB (newB h (256 * c + 0) (t0 : Value).cells.toList) (256 * c + 1) [(.slice none 0 0)]) ((c + 1) + 1)).bind fun r0 =>
 (aBinOp P .neq 26 r0.1 (.int .i64 0)).bind fun t19 =>
 boolK t19
 ((bldV [(.slice none 0 0)] []).bind fun t20 =>
 (stN r0.2.1 1 (ptrTo (256 * c + 1)) t20).bind fun h2 =>
 (ldN h2 1 (ptrTo (256 * c + 1))).bind fun v3 =>
 some { e := .ret, vs := [.tuple #[v3, (.int .i64 7)]], h := h2, c := (r0.2.2 + 1), df := [] })
 ((addOff (ptrTo (256 * c + 0)) 0).bind fun t21 =>
 (ld1 r0.2.1 t21).bind fun t22 =>
 (lenS t22).bind fun t23 =>
 (callF o 48 [t1, t2, t23] r0.2.1 ((r0.2.2 + 1) + 1)).bind fun r4 =>
 (aUnOp .not r4.1).bind fun t28 =>
 boolK t28
  ((bldV [(.slice none 0 0)] []).bind fun t29 =>
  (stN r4.2.1 1 (ptrTo (256 * c + 1)) t29).bind fun h6 =>
  (ldN h6 1 (ptrTo (256 * c + 1))).bind fun v7 =>
  some { e := .ret, vs := [.tuple #[v7, (.int .i64 1)]], h := h6, c := (r4.2.2 + 1), df := [] })
  ((mkS 1 8 [(.int .i64 0)] t23 t23).bind fun r8 =>
  (o (f20_k20000 none) [t1, t2, (ptrTo (256 * c + 0)), (ptrTo (256 * c + 1)), t23, (.slice (some ⟨(256 * r4.2.2 + 1), 0, none⟩) r8.2.1 r8.2.2), (.int .i64 0)] (newB r4.2.1 (256 * r4.2.2 + 1) r8.1) ((r4.2.2 + 1) + 1) []).bind fun r9 =>
  cond (exIs r9.e (.exit 0))
   ((o (f20_k20001 none) [(r9.v 0), (r9.v 1), (r9.v 2), (r9.v 3), (r9.v 4), (r9.v 5), (ptrTo (256 * r9.c + 0)), (.int .i64 0)] (newB r9.h (256 * r9.c + 0) [(.slice none 0 0)]) ((r9.c + 1) + 1) r9.df).bind fun r10 =>
   cond (exIs r10.e (.exit 2))
    ((ldN r10.h 1 (r10.v 6)).bind fun t102 =>
    (stN r10.h 1 (r10.v 3) t102).bind fun h12 =>
    (takeAll h12 r10.df).bind fun h13 =>
    (ldN h13 1 (r10.v 3)).bind fun v14 =>
    some { e := .ret, vs := [.tuple #[v14, (.int .i64 0)]], h := h13, c := (r10.c + 1), df := [] })
    (none))
   (none)))
 else none)
theorem f20_S_eq (o : Orc H) (t0 t1 t2 : Value) (h : H) (c : Nat) : jx P o 103 none f20_c (tmOf (List.range 3) [t0, t1, t2]) h c [] (Kfn P Try.f20.results.toList) = f20_S o t0 t1 t2 h c := by kernel_rfl
theorem f20_go {t0 t1 t2 : Value} {h : FH} {c : Nat} {df : List Nat} {r : Rt FH} (e : f20_S G t0 t1 t2 h c = some r) : G (.fn 20) [t0, t1, t2] h c df = some r := runG_fn (a := f20_f) bk_20 rfl (fun args h c => by cases args <;> rfl) rfl ((f20_S_eq G t0 t1 t2 h c).trans e)
theorem f20_N20000 {rd : Option Nat} {t1 t2 t3 t6 t8 t9 t10 : Value} {h : FH} {c : Nat} {df : List Nat} {q r : Rt FH} (e : f20_L20000 G rd t1 t2 t3 t6 t8 t9 t10 h c df = some q) (hq : q.e = .normal) (k : G (f20_k20000 rd) q.vs (gcR h c df q).h (gcR h c df q).c q.df = some r) : G (f20_k20000 rd) [t1, t2, t3, t6, t8, t9, t10] h c df = some r := runG_lp_next ((f20_L20000_eq G rd t1 t2 t3 t6 t8 t9 t10 h c df).trans e) hq k
theorem f20_Z20000 {rd : Option Nat} {t1 t2 t3 t6 t8 t9 t10 : Value} {h : FH} {c : Nat} {df : List Nat} {q : Rt FH} (e : f20_L20000 G rd t1 t2 t3 t6 t8 t9 t10 h c df = some q) (hq : q.e ≠ .normal) : G (f20_k20000 rd) [t1, t2, t3, t6, t8, t9, t10] h c df = some (gcR h c df q) := runG_lp_last ((f20_L20000_eq G rd t1 t2 t3 t6 t8 t9 t10 h c df).trans e) hq
theorem f20_N20002 {rd : Option Nat} {t1 t2 t3 t6 t8 t9 t11 t12 t13 t14 : Value} {h : FH} {c : Nat} {df : List Nat} {q r : Rt FH} (e : f20_L20002 G rd t1 t2 t3 t6 t8 t9 t11 t12 t13 t14 h c df = some q) (hq : q.e = .normal) (k : G (f20_k20002 rd) q.vs (gcR h c df q).h (gcR h c df q).c q.df = some r) : G (f20_k20002 rd) [t1, t2, t3, t6, t8, t9, t11, t12, t13, t14] h c df = some r := runG_lp_next ((f20_L20002_eq G rd t1 t2 t3 t6 t8 t9 t11 t12 t13 t14 h c df).trans e) hq k
theorem f20_Z20002 {rd : Option Nat} {t1 t2 t3 t6 t8 t9 t11 t12 t13 t14 : Value} {h : FH} {c : Nat} {df : List Nat} {q : Rt FH} (e : f20_L20002 G rd t1 t2 t3 t6 t8 t9 t11 t12 t13 t14 h c df = some q) (hq : q.e ≠ .normal) : G (f20_k20002 rd) [t1, t2, t3, t6, t8, t9, t11, t12, t13, t14] h c df = some (gcR h c df q) := runG_lp_last ((f20_L20002_eq G rd t1 t2 t3 t6 t8 t9 t11 t12 t13 t14 h c df).trans e) hq
theorem f20_N20001 {rd : Option Nat} {t1 t2 t3 t6 t8 t9 t11 t12 : Value} {h : FH} {c : Nat} {df : List Nat} {q r : Rt FH} (e : f20_L20001 G rd t1 t2 t3 t6 t8 t9 t11 t12 h c df = some q) (hq : q.e = .normal) (k : G (f20_k20001 rd) q.vs q.h q.c q.df = some r) : G (f20_k20001 rd) [t1, t2, t3, t6, t8, t9, t11, t12] h c df = some r := runG_lp_next ((f20_L20001_eq G rd t1 t2 t3 t6 t8 t9 t11 t12 h c df).trans e) hq k
theorem f20_Z20001 {rd : Option Nat} {t1 t2 t3 t6 t8 t9 t11 t12 : Value} {h : FH} {c : Nat} {df : List Nat} {q : Rt FH} (e : f20_L20001 G rd t1 t2 t3 t6 t8 t9 t11 t12 h c df = some q) (hq : q.e ≠ .normal) : G (f20_k20001 rd) [t1, t2, t3, t6, t8, t9, t11, t12] h c df = some q := runG_lp_last ((f20_L20001_eq G rd t1 t2 t3 t6 t8 t9 t11 t12 h c df).trans e) hq
noncomputable def f22_L22001 (o : Orc H) (rd : Option Nat) (t7 t24 t25 t26 t30 t31 : Value) (h : H) (c : Nat) (df : List Nat) : Option (Rt H) :=
 (aBinOp P .lss 3 t31 (.int .i64 4)).bind fun t32 =>
 boolK t32
 ((ixV 4 true 5 t30 t31).bind fun t33 =>
 (stN (newB h (256 * (c + 1) + 1) [(.int .i64 0), (.int .i64 0), (.int .i64 0), (.int .i64 0), (.int .i64 0)]) 5 (ptrTo (256 * (c + 1) + 1)) t33).bind fun h1 =>
 (addOff (ptrTo (256 * (c + 1) + 1)) 0).bind fun t35 =>
 (ld1 h1 t35).bind fun t36 =>
 (bldL [(.int .i64 0)] [(0, 1, t36)]).bind fun r2 =>
 (appV (newB h1 (256 * ((c + 1) + 1) + 3) r2) (256 * ((c + 1) + 1) + 4) 1 8 t7 (.slice (some ⟨(256 * ((c + 1) + 1) + 3), 0, none⟩) 1 1)).bind fun r3 =>
 (addOff (ptrTo (256 * (c + 1) + 1)) 1).bind fun t40 =>
 (slA 4 1 t40 none none none).bind fun t41 =>
 (appV r3.2 (256 * (((c + 1) + 1) + 1) + 3) 1 8 r3.1 t41).bind fun r5 =>
 (aBinOp P .add 3 t31 (.int .i64 1)).bind fun t43 =>
 some { e := .normal, vs := [r5.1, t24, t25, t26, t30, t43], h := r5.2, c := (((((c + 1) + 1) + 1) + 1) + 1), df := df })
 (some { e := (.exit 2), vs := [t7, t24, t25, t26, t30, t31], h := h, c := (c + 1), df := df })
theorem f22_L22001_eq (o : Orc H) (rd : Option Nat) (t7 t24 t25 t26 t30 t31 : Value) (h : H) (c : Nat) (df : List Nat) : jx P o 46 rd f22_c22001 (tmOf [7, 24, 25, 26, 30, 31] [t7, t24, t25, t26, t30, t31]) h c df (Klp [7, 24, 25, 26, 30, 31]) = f22_L22001 o rd t7 t24 t25 t26 t30 t31 h c df := by kernel_rfl
noncomputable def f22_L22000 (o : Orc H) (rd : Option Nat) (t7 t24 t25 t26 : Value) (h : H) (c : Nat) (df : List Nat) : Option (Rt H) :=
 (aBinOp P .lss 3 t26 t25).bind fun t27 =>
 boolK t27
 ((ixS 20 t24 t26).bind fun t28 =>
 (ldN h 20 t28).bind fun t29 =>
 (stN (newB h (256 * (c + 1) + 2) [(.int .i64 0), (.int .i64 0), (.int .i64 0), (.int .i64 0), (.int .i64 0), (.int .i64 0), (.int .i64 0), (.int .i64 0), (.int .i64 0), (.int .i64 0), (.int .i64 0), (.int .i64 0), (.int .i64 0), (.int .i64 0), (.int .i64 0), (.int .i64 0), (.int .i64 0), (.int .i64 0), (.int .i64 0), (.int .i64 0)]) 20 (ptrTo (256 * (c + 1) + 2)) t29).bind fun h1 =>
 (ldN h1 20 (ptrTo (256 * (c + 1) + 2))).bind fun t30 =>
 (o (f22_k22001 rd) [t7, t24, t25, t26, t30, (.int .i64 0)] h1 (((c + 1) + 1) + 1) df).bind fun r2 =>
 cond (exIs r2.e (.exit 2))
  ((aBinOp P .add 3 (r2.v 3) (.int .i64 1)).bind fun t44 =>
  some { e := .normal, vs := [(r2.v 0), (r2.v 1), (r2.v 2), t44], h := r2.h, c := (r2.c + 1), df := r2.df })
  (none))
 (some { e := (.exit 0), vs := [t7, t24, t25, t26], h := h, c := (c + 1), df := df })
theorem f22_L22000_eq (o : Orc H) (rd : Option Nat) (t7 t24 t25 t26 : Value) (h : H) (c : Nat) (df : List Nat) : jx P o 46 rd f22_c22000 (tmOf [7, 24, 25, 26] [t7, t24, t25, t26]) h c df (Klp [7, 24, 25, 26]) = f22_L22000 o rd t7 t24 t25 t26 h c df := by kernel_rfl
noncomputable def f22_S (o : Orc H) (t0 : Value) (h : H) (c : Nat) : Option (Rt H) :=
 (bif (t0 : Value).cells.toList.all isFlat then
 (ldN (newB h (256 * c + 0) (t0 : Value).cells.toList) 1 (ptrTo (256 * c + 0))).bind fun t12 =>
 (bldL [(.slice none 0 0)] [(0, 1, t12)]).bind fun r0 =>
 (callF o 31 [(.slice (some ⟨(256 * (c + 1) + 1), 0, none⟩) 1 1)] (newB (newB h (256 * c + 0) (t0 : Value).cells.toList) (256 * (c + 1) + 1) r0) ((c + 1) + 1)).bind fun r1 =>
 (aBinOp P .neq 26 r1.1 (.int .i64 0)).bind fun t16 =>
 boolK t16
 (some { e := .ret, vs := [.tuple #[(.slice none 0 0), r1.1]], h := r1.2.1, c := ((r1.2.2 + 1) + 1), df := [] })
 ((ldN r1.2.1 1 (ptrTo (256 * c + 0))).bind fun t19 =>
 (callF o 49 [t19] r1.2.1 ((r1.2.2 + 1) + 1)).bind fun r2 =>
 (extV r2.1 0).bind fun t21 =>
 (extV r2.1 1).bind fun t22 =>
 (stN (newB (newB r2.2.1 (256 * (r1.2.2 + 1) + 5) [(.slice none 0 0)]) (256 * (r1.2.2 + 1) + 6) [(.slice none 0 0), (.slice none 0 0)]) 1 (ptrTo (256 * (r1.2.2 + 1) + 5)) t21).bind fun h4 =>
 (stN h4 2 (ptrTo (256 * (r1.2.2 + 1) + 6)) t22).bind fun h6 =>
 (addOff (ptrTo (256 * (r1.2.2 + 1) + 5)) 0).bind fun t23 =>
 (ld1 h6 t23).bind fun t24 =>
 (lenS t24).bind fun t25 =>
 (o (f22_k22000 none) [(.slice none 0 0), t24, t25, (.int .i64 0)] h6 ((r2.2.2 + 1) + 1) []).bind fun r7 =>
 cond (exIs r7.e (.exit 0))
  ((takeAll r7.h r7.df).bind fun h8 =>
  some { e := .ret, vs := [.tuple #[(r7.v 0), (.int .i64 0)]], h := h8, c := (r7.c + 1), df := [] })
  (none))
 else none)
theorem f22_S_eq (o : Orc H) (t0 : Value) (h : H) (c : Nat) : jx P o 46 none f22_c (tmOf (List.range 1) [t0]) h c [] (Kfn P Try.f22.results.toList) = f22_S o t0 h c := by kernel_rfl
theorem f22_go {t0 : Value} {h : FH} {c : Nat} {df : List Nat} {r : Rt FH} (e : f22_S G t0 h c = some r) : G (.fn 22) [t0] h c df = some (gcR h c [] r) := runG_fn (a := f22_f) bk_22 rfl (fun args h c => by cases args <;> rfl) rfl ((f22_S_eq G t0 h c).trans e)
theorem f22_N22001 {rd : Option Nat} {t7 t24 t25 t26 t30 t31 : Value} {h : FH} {c : Nat} {df : List Nat} {q r : Rt FH} (e : f22_L22001 G rd t7 t24 t25 t26 t30 t31 h c df = some q) (hq : q.e = .normal) (k : G (f22_k22001 rd) q.vs q.h q.c q.df = some r) : G (f22_k22001 rd) [t7, t24, t25, t26, t30, t31] h c df = some r := runG_lp_next ((f22_L22001_eq G rd t7 t24 t25 t26 t30 t31 h c df).trans e) hq k
theorem f22_Z22001 {rd : Option Nat} {t7 t24 t25 t26 t30 t31 : Value} {h : FH} {c : Nat} {df : List Nat} {q : Rt FH} (e : f22_L22001 G rd t7 t24 t25 t26 t30 t31 h c df = some q) (hq : q.e ≠ .normal) : G (f22_k22001 rd) [t7, t24, t25, t26, t30, t31] h c df = some q := runG_lp_last ((f22_L22001_eq G rd t7 t24 t25 t26 t30 t31 h c df).trans e) hq
theorem f22_N22000 {rd : Option Nat} {t7 t24 t25 t26 : Value} {h : FH} {c : Nat} {df : List Nat} {q r : Rt FH} (e : f22_L22000 G rd t7 t24 t25 t26 h c df = some q) (hq : q.e = .normal) (k : G (f22_k22000 rd) q.vs q.h q.c q.df = some r) : G (f22_k22000 rd) [t7, t24, t25, t26] h c df = some r := runG_lp_next ((f22_L22000_eq G rd t7 t24 t25 t26 h c df).trans e) hq k
theorem f22_Z22000 {rd : Option Nat} {t7 t24 t25 t26 : Value} {h : FH} {c : Nat} {df : List Nat} {q : Rt FH} (e : f22_L22000 G rd t7 t24 t25 t26 h c df = some q) (hq : q.e ≠ .normal) : G (f22_k22000 rd) [t7, t24, t25, t26] h c df = some q := runG_lp_last ((f22_L22000_eq G rd t7 t24 t25 t26 h c df).trans e) hq
noncomputable def f23_L23001 (o : Orc H) (rd : Option Nat) (t1 t2 t3 t4 t5 : Value) (h : H) (c : Nat) (df : List Nat) : Option (Rt H) :=
 (aBinOp P .lss 3 t5 (.int .i64 4)).bind fun t18 =>
 boolK t18
 (((addOff t1 0).bind fun t21 =>
  (ld1 h t21).bind fun t22 =>
  (ixS 20 t22 t4).bind fun t25 =>
  (ixA 4 5 t25 t5).bind fun t26 =>
  (ldN h 5 t26).bind fun t27 =>
  (stN (newB h (256 * (c + 1) + 7) [(.int .i64 0), (.int .i64 0), (.int .i64 0), (.int .i64 0), (.int .i64 0)]) 5 (ptrTo (256 * (c + 1) + 7)) t27).bind fun h1 =>
  (addOff (ptrTo (256 * (c + 1) + 7)) 0).bind fun t28 =>
  (ld1 h1 t28).bind fun t29 =>
  (aBinOp P .eql 3 t29 (.int .i64 (-1))).bind fun t30 =>
  ((gv t30 true).bind fun w => cond w (ret1 h1 (((c + 1) + 1) + 1) (addOff (ptrTo (256 * (c + 1) + 7)) 1)) (some (undef, h1, (((c + 1) + 1) + 1)))).bind fun r2 =>
  ((gv t30 true).bind fun w => cond w (ret1 r2.2.1 r2.2.2 (ldN r2.2.1 4 r2.1)) (some (undef, r2.2.1, r2.2.2))).bind fun r3 =>
  ((gv t30 true).bind fun w => cond w (ret1 r3.2.1 r3.2.2 (bldV [(.int .i64 0), (.int .i64 0), (.int .i64 0), (.int .i64 0)] [])) (some (undef, r3.2.1, r3.2.2))).bind fun r4 =>
  ((gv t30 true).bind fun w => cond w (ret1 r4.2.1 r4.2.2 (aBinOp P .eql 67 r3.1 r4.1)) (some (undef, r4.2.1, r4.2.2))).bind fun r5 =>
  (pickV t30 r5.1 (.bool false)).bind fun t36 =>
  boolK t36
   (some { e := .normal, vs := [t1, t2, t3, t4, t5], h := r5.2.1, c := r5.2.2, df := df })
   ((addOff (ptrTo (256 * (c + 1) + 7)) 0).bind fun t37 =>
   (ld1 r5.2.1 t37).bind fun t38 =>
   (aBinOp P .lss 3 t38 (.int .i64 0)).bind fun t39 =>
   ((gv t39 false).bind fun w => cond w (ret1 r5.2.1 (r5.2.2 + 1) (addOff (ptrTo (256 * (c + 1) + 7)) 0)) (some (undef, r5.2.1, (r5.2.2 + 1)))).bind fun r6 =>
   ((gv t39 false).bind fun w => cond w (ret1 r6.2.1 r6.2.2 (ld1 r6.2.1 r6.1)) (some (undef, r6.2.1, r6.2.2))).bind fun r7 =>
   ((gv t39 false).bind fun w => cond w (ret1 r7.2.1 r7.2.2 (some t3)) (some (undef, r7.2.1, r7.2.2))).bind fun r8 =>
   ((gv t39 false).bind fun w => cond w (ret1 r8.2.1 r8.2.2 (aBinOp P .geq 3 r7.1 r8.1)) (some (undef, r8.2.1, r8.2.2))).bind fun r9 =>
   (pickV t39 (.bool true) r9.1).bind fun t45 =>
   ((gv t45 false).bind fun w => cond w (ret1 r9.2.1 r9.2.2 (addOff (ptrTo (256 * (c + 1) + 7)) 1)) (some (undef, r9.2.1, r9.2.2))).bind fun r10 =>
   ((gv t45 false).bind fun w => cond w (ret1 r10.2.1 r10.2.2 (ldN r10.2.1 4 r10.1)) (some (undef, r10.2.1, r10.2.2))).bind fun r11 =>
   ((gv t45 false).bind fun w => cond w (callF o 50 [r11.1] r11.2.1 r11.2.2) (some (undef, r11.2.1, r11.2.2))).bind fun r12 =>
   ((gv t45 false).bind fun w => cond w (ret1 r12.2.1 r12.2.2 (aUnOp .not r12.1)) (some (undef, r12.2.1, r12.2.2))).bind fun r13 =>
   (pickV t45 (.bool true) r13.1).bind fun t51 =>
   ((gv t51 false).bind fun w => cond w (ret1 r13.2.1 r13.2.2 (addOff (ptrTo (256 * (c + 1) + 7)) 0)) (some (undef, r13.2.1, r13.2.2))).bind fun r14 =>
   ((gv t51 false).bind fun w => cond w (ret1 r14.2.1 r14.2.2 (ld1 r14.2.1 r14.1)) (some (undef, r14.2.1, r14.2.2))).bind fun r15 =>
   ((gv t51 false).bind fun w => cond w (ret1 r15.2.1 r15.2.2 (some t4)) (some (undef, r15.2.1, r15.2.2))).bind fun r16 =>
   ((gv t51 false).bind fun w => cond w (ret1 r16.2.1 r16.2.2 (aBinOp P .eql 3 r15.1 r16.1)) (some (undef, r16.2.1, r16.2.2))).bind fun r17 =>
   ((gv t51 false).bind fun w => cond w (ret1 r17.2.1 r17.2.2 (some r17.1)) (some (undef, r17.2.1, r17.2.2))).bind fun r18 =>
   ((gv r18.1 true).bind fun w => cond w (ret1 r18.2.1 r18.2.2 (some t5)) (some (undef, r18.2.1, r18.2.2))).bind fun r19 =>
   ((gv r18.1 true).bind fun w => cond w (ret1 r19.2.1 r19.2.2 (addOff (ptrTo (256 * (c + 1) + 7)) 1)) (some (undef, r19.2.1, r19.2.2))).bind fun r20 =>
   ((gv r18.1 true).bind fun w => cond w (ret1 r20.2.1 r20.2.2 (ixA 4 1 r20.1 r19.1)) (some (undef, r20.2.1, r20.2.2))).bind fun r21 =>
   ((gv r18.1 true).bind fun w => cond w (ret1 r21.2.1 r21.2.2 (ld1 r21.2.1 r21.1)) (some (undef, r21.2.1, r21.2.2))).bind fun r22 =>
   ((gv r18.1 true).bind fun w => cond w (ret1 r22.2.1 r22.2.2 (some t5)) (some (undef, r22.2.1, r22.2.2))).bind fun r23 =>
   ((gv r18.1 true).bind fun w => cond w (ret1 r23.2.1 r23.2.2 (aBinOp P .eql 3 r22.1 r23.1)) (some (undef, r23.2.1, r23.2.2))).bind fun r24 =>
   ((gv t51 false).bind fun w => cond w (pickR r24.2.1 r24.2.2 r18.1 r24.1 (.bool false)) (some (undef, r24.2.1, r24.2.2))).bind fun r25 =>
   (pickV t51 (.bool true) r25.1).bind fun t65 =>
   boolK t65
    (some { e := .ret, vs := [t1, (.int .i64 7), t3, t4, t5], h := r25.2.1, c := (r25.2.2 + 1), df := df })
    ((addOff t1 0).bind fun t66 =>
    (ld1 r25.2.1 t66).bind fun t67 =>
    (addOff (ptrTo (256 * (c + 1) + 7)) 0).bind fun t68 =>
    (ld1 r25.2.1 t68).bind fun t69 =>
    (addOff (ptrTo (256 * (c + 1) + 7)) 1).bind fun t71 =>
    (ixA 4 1 t71 t5).bind fun t72 =>
    (ld1 r25.2.1 t72).bind fun t73 =>
    (ixS 20 t67 t69).bind fun t74 =>
    (ixA 4 5 t74 t73).bind fun t75 =>
    (ldN r25.2.1 5 t75).bind fun t76 =>
    (addOff (ptrTo (256 * (c + 1) + 7)) 1).bind fun t78 =>
    (ldN r25.2.1 4 t78).bind fun t79 =>
    (callF o 47 [t79] r25.2.1 (r25.2.2 + 1)).bind fun r27 =>
    (bldV [(.int .i64 0), (.int .i64 0), (.int .i64 0), (.int .i64 0), (.int .i64 0)] [(0, 1, t4), (1, 4, r27.1)]).bind fun t81 =>
    (aBinOp P .neq 72 t76 t81).bind fun t82 =>
    (bif (sameB (ridV t66) r25.2.1 r27.2.1 && (sameB (ridV t68) r25.2.1 r27.2.1 && (sameB (ridV t72) r25.2.1 r27.2.1 && (sameB (ridV t75) r25.2.1 r27.2.1 && true)))) then
    boolK t82
     (some { e := .ret, vs := [t1, (.int .i64 7), t3, t4, t5], h := r27.2.1, c := (r27.2.2 + 1), df := df })
     (some { e := .normal, vs := [t1, t2, t3, t4, t5], h := r27.2.1, c := r27.2.2, df := df })
    else none))) : Option (Rt H)).bind fun r29 =>
 cond (exIs r29.e .normal)
  ((aBinOp P .add 3 (r29.v 4) (.int .i64 1)).bind fun t20 =>
  some { e := .normal, vs := [(r29.v 0), (r29.v 1), (r29.v 2), (r29.v 3), t20], h := r29.h, c := (r29.c + 1), df := r29.df })
  (cond (exIs r29.e .ret)
   (some { e := .ret, vs := [(r29.v 0), (r29.v 1), (r29.v 2), (r29.v 3), (r29.v 4)], h := r29.h, c := r29.c, df := r29.df })
   (none)))
 (some { e := (.exit 2), vs := [t1, t2, t3, t4, t5], h := h, c := (c + 1), df := df })
theorem f23_L23001_eq (o : Orc H) (rd : Option Nat) (t1 t2 t3 t4 t5 : Value) (h : H) (c : Nat) (df : List Nat) : jx P o 83 rd f23_c23001 (tmOf [1, 2, 3, 4, 5] [t1, t2, t3, t4, t5]) h c df (Klp [1, 2, 3, 4, 5]) = f23_L23001 o rd t1 t2 t3 t4 t5 h c df := by kernel_rfl
noncomputable def f23_L23000 (o : Orc H) (rd : Option Nat) (t1 t2 t3 t4 : Value) (h : H) (c : Nat) (df : List Nat) : Option (Rt H) :=
 (aBinOp P .lss 3 t4 t3).bind fun t14 =>
 boolK t14
 ((o (f23_k23001 rd) [t1, t2, t3, t4, (.int .i64 0)] h ((c + 1) + 1) df).bind fun r0 =>
 cond (exIs r0.e (.exit 2))
  ((aBinOp P .add 3 (r0.v 3) (.int .i64 1)).bind fun t16 =>
  some { e := .normal, vs := [(r0.v 0), (r0.v 1), (r0.v 2), t16], h := r0.h, c := (r0.c + 1), df := r0.df })
  (cond (exIs r0.e .ret)
   (some { e := .ret, vs := [(r0.v 0), (r0.v 1), (r0.v 2), (r0.v 3)], h := r0.h, c := r0.c, df := r0.df })
   (none)))
 (some { e := (.exit 0), vs := [t1, t2, t3, t4], h := h, c := (c + 1), df := df })
theorem f23_L23000_eq (o : Orc H) (rd : Option Nat) (t1 t2 t3 t4 : Value) (h : H) (c : Nat) (df : List Nat) : jx P o 83 rd f23_c23000 (tmOf [1, 2, 3, 4] [t1, t2, t3, t4]) h c df (Klp [1, 2, 3, 4]) = f23_L23000 o rd t1 t2 t3 t4 h c df := by kernel_rfl
noncomputable def f23_S (o : Orc H) (t0 : Value) (h : H) (c : Nat) : Option (Rt H) :=
 (bif (t0 : Value).cells.toList.all isFlat then
 (addOff (ptrTo (256 * c + 0)) 0).bind fun t7 =>
 (ld1 (newB h (256 * c + 0) (t0 : Value).cells.toList) t7).bind fun t8 =>
 (lenS t8).bind fun t9 =>
 (aBinOp P .gtr 3 t9 (.int .i64 1000)).bind fun t11 =>
 boolK t11
 (some { e := .ret, vs := [(.int .i64 7)], h := (newB h (256 * c + 0) (t0 : Value).cells.toList), c := ((((c + 1) + 1) + 1) + 1), df := [] })
 ((o (f23_k23000 none) [(ptrTo (256 * c + 0)), (.int .i64 0), t9, (.int .i64 0)] (newB h (256 * c + 0) (t0 : Value).cells.toList) ((((c + 1) + 1) + 1) + 1) []).bind fun r0 =>
 cond (exIs r0.e (.exit 0))
  ((takeAll r0.h r0.df).bind fun h2 =>
  some { e := .ret, vs := [(.int .i64 0)], h := h2, c := (r0.c + 1), df := [] })
  (cond (exIs r0.e .ret)
   ((takeAll r0.h r0.df).bind fun h1 =>
   some { e := .ret, vs := [(r0.v 1)], h := h1, c := r0.c, df := [] })
   (none)))
 else none)
theorem f23_S_eq (o : Orc H) (t0 : Value) (h : H) (c : Nat) : jx P o 83 none f23_c (tmOf (List.range 1) [t0]) h c [] (Kfn P Try.f23.results.toList) = f23_S o t0 h c := by kernel_rfl
theorem f23_go {t0 : Value} {h : FH} {c : Nat} {df : List Nat} {r : Rt FH} (e : f23_S G t0 h c = some r) : G (.fn 23) [t0] h c df = some (gcR h c [] r) := runG_fn (a := f23_f) bk_23 rfl (fun args h c => by cases args <;> rfl) rfl ((f23_S_eq G t0 h c).trans e)
theorem f23_N23001 {rd : Option Nat} {t1 t2 t3 t4 t5 : Value} {h : FH} {c : Nat} {df : List Nat} {q r : Rt FH} (e : f23_L23001 G rd t1 t2 t3 t4 t5 h c df = some q) (hq : q.e = .normal) (k : G (f23_k23001 rd) q.vs (gcR h c df q).h (gcR h c df q).c q.df = some r) : G (f23_k23001 rd) [t1, t2, t3, t4, t5] h c df = some r := runG_lp_next ((f23_L23001_eq G rd t1 t2 t3 t4 t5 h c df).trans e) hq k
theorem f23_Z23001 {rd : Option Nat} {t1 t2 t3 t4 t5 : Value} {h : FH} {c : Nat} {df : List Nat} {q : Rt FH} (e : f23_L23001 G rd t1 t2 t3 t4 t5 h c df = some q) (hq : q.e ≠ .normal) : G (f23_k23001 rd) [t1, t2, t3, t4, t5] h c df = some (gcR h c df q) := runG_lp_last ((f23_L23001_eq G rd t1 t2 t3 t4 t5 h c df).trans e) hq
theorem f23_N23000 {rd : Option Nat} {t1 t2 t3 t4 : Value} {h : FH} {c : Nat} {df : List Nat} {q r : Rt FH} (e : f23_L23000 G rd t1 t2 t3 t4 h c df = some q) (hq : q.e = .normal) (k : G (f23_k23000 rd) q.vs (gcR h c df q).h (gcR h c df q).c q.df = some r) : G (f23_k23000 rd) [t1, t2, t3, t4] h c df = some r := runG_lp_next ((f23_L23000_eq G rd t1 t2 t3 t4 h c df).trans e) hq k
theorem f23_Z23000 {rd : Option Nat} {t1 t2 t3 t4 : Value} {h : FH} {c : Nat} {df : List Nat} {q : Rt FH} (e : f23_L23000 G rd t1 t2 t3 t4 h c df = some q) (hq : q.e ≠ .normal) : G (f23_k23000 rd) [t1, t2, t3, t4] h c df = some (gcR h c df q) := runG_lp_last ((f23_L23000_eq G rd t1 t2 t3 t4 h c df).trans e) hq
noncomputable def f25_L25000 (o : Orc H) (rd : Option Nat) (t2 t3 t4 t5 : Value) (h : H) (c : Nat) (df : List Nat) : Option (Rt H) :=
 (addOff t2 0).bind fun t14 =>
 (ld1 h t14).bind fun t15 =>
 (lenS t15).bind fun t16 =>
 (aBinOp P .lss 3 t5 t16).bind fun t17 =>
 boolK t17
 ((addOff t2 0).bind fun t20 =>
 (ld1 h t20).bind fun t21 =>
 (ixS 20 t21 t5).bind fun t23 =>
 (ldN h 20 t23).bind fun t24 =>
 (addOff t3 0).bind fun t25 =>
 (ld1 h t25).bind fun t26 =>
 (ixS 20 t26 t5).bind fun t28 =>
 (ldN h 20 t28).bind fun t29 =>
 (aBinOp P .neq 73 t24 t29).bind fun t30 =>
 boolK t30
  (some { e := .ret, vs := [t2, t3, (.bool false), t5], h := h, c := (((c + 1) + 1) + 1), df := df })
  ((aBinOp P .add 3 t5 (.int .i64 1)).bind fun t19 =>
  some { e := .normal, vs := [t2, t3, t4, t19], h := h, c := (((c + 1) + 1) + 1), df := df }))
 (some { e := (.exit 0), vs := [t2, t3, t4, t5], h := h, c := (c + 1), df := df })
theorem f25_L25000_eq (o : Orc H) (rd : Option Nat) (t2 t3 t4 t5 : Value) (h : H) (c : Nat) (df : List Nat) : jx P o 31 rd f25_c25000 (tmOf [2, 3, 4, 5] [t2, t3, t4, t5]) h c df (Klp [2, 3, 4, 5]) = f25_L25000 o rd t2 t3 t4 t5 h c df := by kernel_rfl
noncomputable def f25_S (o : Orc H) (t0 t1 : Value) (h : H) (c : Nat) : Option (Rt H) :=
 (bif (t0 : Value).cells.toList.all isFlat then
 (bif (t1 : Value).cells.toList.all isFlat then
 (addOff (ptrTo (256 * c + 0)) 0).bind fun t6 =>
 (ld1 (newB (newB h (256 * c + 0) (t0 : Value).cells.toList) (256 * c + 1) (t1 : Value).cells.toList) t6).bind fun t7 =>
 (lenS t7).bind fun t8 =>
 (addOff (ptrTo (256 * c + 1)) 0).bind fun t9 =>
 (ld1 (newB (newB h (256 * c + 0) (t0 : Value).cells.toList) (256 * c + 1) (t1 : Value).cells.toList) t9).bind fun t10 =>
 (lenS t10).bind fun t11 =>
 (aBinOp P .neq 3 t8 t11).bind fun t12 =>
 boolK t12
 (some { e := .ret, vs := [(.bool false)], h := (newB (newB h (256 * c + 0) (t0 : Value).cells.toList) (256 * c + 1) (t1 : Value).cells.toList), c := (((c + 1) + 1) + 1), df := [] })
 ((o (f25_k25000 none) [(ptrTo (256 * c + 0)), (ptrTo (256 * c + 1)), (.bool false), (.int .i64 0)] (newB (newB h (256 * c + 0) (t0 : Value).cells.toList) (256 * c + 1) (t1 : Value).cells.toList) (((c + 1) + 1) + 1) []).bind fun r0 =>
 cond (exIs r0.e (.exit 0))
  ((takeAll r0.h r0.df).bind fun h2 =>
  some { e := .ret, vs := [(.bool true)], h := h2, c := (r0.c + 1), df := [] })
  (cond (exIs r0.e .ret)
   ((takeAll r0.h r0.df).bind fun h1 =>
   some { e := .ret, vs := [(r0.v 2)], h := h1, c := r0.c, df := [] })
   (none)))
 else none)
 else none)
theorem f25_S_eq (o : Orc H) (t0 t1 : Value) (h : H) (c : Nat) : jx P o 31 none f25_c (tmOf (List.range 2) [t0, t1]) h c [] (Kfn P Try.f25.results.toList) = f25_S o t0 t1 h c := by kernel_rfl
theorem f25_go {t0 t1 : Value} {h : FH} {c : Nat} {df : List Nat} {r : Rt FH} (e : f25_S G t0 t1 h c = some r) : G (.fn 25) [t0, t1] h c df = some (gcR h c [] r) := runG_fn (a := f25_f) bk_25 rfl (fun args h c => by cases args <;> rfl) rfl ((f25_S_eq G t0 t1 h c).trans e)
theorem f25_N25000 {rd : Option Nat} {t2 t3 t4 t5 : Value} {h : FH} {c : Nat} {df : List Nat} {q r : Rt FH} (e : f25_L25000 G rd t2 t3 t4 t5 h c df = some q) (hq : q.e = .normal) (k : G (f25_k25000 rd) q.vs (gcR h c df q).h (gcR h c df q).c q.df = some r) : G (f25_k25000 rd) [t2, t3, t4, t5] h c df = some r := runG_lp_next ((f25_L25000_eq G rd t2 t3 t4 t5 h c df).trans e) hq k
theorem f25_Z25000 {rd : Option Nat} {t2 t3 t4 t5 : Value} {h : FH} {c : Nat} {df : List Nat} {q : Rt FH} (e : f25_L25000 G rd t2 t3 t4 t5 h c df = some q) (hq : q.e ≠ .normal) : G (f25_k25000 rd) [t2, t3, t4, t5] h c df = some (gcR h c df q) := runG_lp_last ((f25_L25000_eq G rd t2 t3 t4 t5 h c df).trans e) hq
noncomputable def f26_L26000 (o : Orc H) (rd : Option Nat) (t0 t1 t4 t5 : Value) (h : H) (c : Nat) (df : List Nat) : Option (Rt H) :=
 (lenS t0).bind fun t13 =>
 (aBinOp P .lss 3 t5 t13).bind fun t14 =>
 boolK t14
 ((ixS 1 t0 t5).bind fun t19 =>
 (ld1 h t19).bind fun t20 =>
 (ixS 1 t1 t5).bind fun t23 =>
 (ld1 h t23).bind fun t24 =>
 (aBinOp P .neq 3 t20 t24).bind fun t25 =>
 boolK t25
  (some { e := .ret, vs := [t0, t1, (.bool false), t5], h := h, c := (((c + 1) + 1) + 1), df := df })
  ((aBinOp P .add 3 t5 (.int .i64 1)).bind fun t16 =>
  some { e := .normal, vs := [t0, t1, t4, t16], h := h, c := (((c + 1) + 1) + 1), df := df }))
 (some { e := (.exit 0), vs := [t0, t1, t4, t5], h := h, c := (c + 1), df := df })
theorem f26_L26000_eq (o : Orc H) (rd : Option Nat) (t0 t1 t4 t5 : Value) (h : H) (c : Nat) (df : List Nat) : jx P o 26 rd f26_c26000 (tmOf [0, 1, 4, 5] [t0, t1, t4, t5]) h c df (Klp [0, 1, 4, 5]) = f26_L26000 o rd t0 t1 t4 t5 h c df := by kernel_rfl
noncomputable def f26_S (o : Orc H) (t0 t1 : Value) (h : H) (c : Nat) : Option (Rt H) :=
 (lenS t0).bind fun t7 =>
 (lenS t1).bind fun t9 =>
 (aBinOp P .neq 3 t7 t9).bind fun t10 =>
 boolK t10
 (some { e := .ret, vs := [(.bool false)], h := h, c := (((c + 1) + 1) + 1), df := [] })
 ((o (f26_k26000 none) [t0, t1, (.bool false), (.int .i64 0)] h (((c + 1) + 1) + 1) []).bind fun r0 =>
 cond (exIs r0.e (.exit 0))
  ((takeAll r0.h r0.df).bind fun h2 =>
  some { e := .ret, vs := [(.bool true)], h := h2, c := (r0.c + 1), df := [] })
  (cond (exIs r0.e .ret)
   ((takeAll r0.h r0.df).bind fun h1 =>
   some { e := .ret, vs := [(r0.v 2)], h := h1, c := r0.c, df := [] })
   (none)))
theorem f26_S_eq (o : Orc H) (t0 t1 : Value) (h : H) (c : Nat) : jx P o 26 none f26_c (tmOf (List.range 2) [t0, t1]) h c [] (Kfn P Try.f26.results.toList) = f26_S o t0 t1 h c := by kernel_rfl
theorem f26_go {t0 t1 : Value} {h : FH} {c : Nat} {df : List Nat} {r : Rt FH} (e : f26_S G t0 t1 h c = some r) : G (.fn 26) [t0, t1] h c df = some (gcR h c [] r) := runG_fn (a := f26_f) bk_26 rfl (fun args h c => by cases args <;> rfl) rfl ((f26_S_eq G t0 t1 h c).trans e)
theorem f26_N26000 {rd : Option Nat} {t0 t1 t4 t5 : Value} {h : FH} {c : Nat} {df : List Nat} {q r : Rt FH} (e : f26_L26000 G rd t0 t1 t4 t5 h c df = some q) (hq : q.e = .normal) (k : G (f26_k26000 rd) q.vs (gcR h c df q).h (gcR h c df q).c q.df = some r) : G (f26_k26000 rd) [t0, t1, t4, t5] h c df = some r := runG_lp_next ((f26_L26000_eq G rd t0 t1 t4 t5 h c df).trans e) hq k
theorem f26_Z26000 {rd : Option Nat} {t0 t1 t4 t5 : Value} {h : FH} {c : Nat} {df : List Nat} {q : Rt FH} (e : f26_L26000 G rd t0 t1 t4 t5 h c df = some q) (hq : q.e ≠ .normal) : G (f26_k26000 rd) [t0, t1, t4, t5] h c df = some (gcR h c df q) := runG_lp_last ((f26_L26000_eq G rd t0 t1 t4 t5 h c df).trans e) hq
noncomputable def f28_S (o : Orc H) (t0 t1 : Value) (h : H) (c : Nat) : Option (Rt H) :=
 (bif (t0 : Value).cells.toList.all isFlat then
 (bif (t1 : Value).cells.toList.all isFlat then
 (ldN (newB (newB (newB h (256 * c + 0) (t0 : Value).cells.toList) (256 * c + 1) (t1 : Value).cells.toList) (256 * c + 2) [(.slice none 0 0), (.slice none 0 0)]) 1 (ptrTo (256 * c + 0))).bind fun t12 =>
 (ldN (newB (newB (newB h (256 * c + 0) (t0 : Value).cells.toList) (256 * c + 1) (t1 : Value).cells.toList) (256 * c + 2) [(.slice none 0 0), (.slice none 0 0)]) 1 (ptrTo (256 * c + 1))).bind fun t13 =>
 (bldL [(.slice none 0 0), (.slice none 0 0)] [(0, 1, t12), (1, 1, t13)]).bind fun r0 =>
 (callF o 31 [(.slice (some ⟨(256 * (c + 1) + 2), 0, none⟩) 2 2)] (newB (newB (newB (newB h (256 * c + 0) (t0 : Value).cells.toList) (256 * c + 1) (t1 : Value).cells.toList) (256 * c + 2) [(.slice none 0 0), (.slice none 0 0)]) (256 * (c + 1) + 2) r0) ((c + 1) + 1)).bind fun r1 =>
 (aBinOp P .neq 26 r1.1 (.int .i64 0)).bind fun t17 =>
 boolK t17
 ((bldV [(.slice none 0 0), (.slice none 0 0)] []).bind fun t18 =>
 (stN r1.2.1 2 (ptrTo (256 * c + 2)) t18).bind fun h3 =>
 (ldN h3 2 (ptrTo (256 * c + 2))).bind fun v4 =>
 some { e := .ret, vs := [.tuple #[v4, (.bool false), r1.1]], h := h3, c := ((r1.2.2 + 1) + 1), df := [] })
 ((ldN r1.2.1 1 (ptrTo (256 * c + 0))).bind fun t21 =>
 (callF o 49 [t21] r1.2.1 ((r1.2.2 + 1) + 1)).bind fun r5 =>
 (extV r5.1 0).bind fun t23 =>
 (extV r5.1 1).bind fun t24 =>
 (stN (newB (newB r5.2.1 (256 * (r1.2.2 + 1) + 5) [(.slice none 0 0)]) (256 * (r1.2.2 + 1) + 6) [(.slice none 0 0), (.slice none 0 0)]) 1 (ptrTo (256 * (r1.2.2 + 1) + 5)) t23).bind fun h7 =>
 (stN h7 2 (ptrTo (256 * (r1.2.2 + 1) + 6)) t24).bind fun h9 =>
 (ldN h9 1 (ptrTo (256 * c + 1))).bind fun t26 =>
 (callF o 49 [t26] h9 (r5.2.2 + 1)).bind fun r10 =>
 (extV r10.1 0).bind fun t28 =>
 (extV r10.1 1).bind fun t29 =>
 (stN (newB (newB r10.2.1 (256 * r5.2.2 + 5) [(.slice none 0 0)]) (256 * r5.2.2 + 6) [(.slice none 0 0), (.slice none 0 0)]) 1 (ptrTo (256 * r5.2.2 + 5)) t28).bind fun h12 =>
 (stN h12 2 (ptrTo (256 * r5.2.2 + 6)) t29).bind fun h14 =>
 (ldN h14 1 (ptrTo (256 * (r1.2.2 + 1) + 5))).bind fun t30 =>
 (ldN h14 1 (ptrTo (256 * r5.2.2 + 5))).bind fun t31 =>
 (callF o 41 [t30, t31] h14 (r10.2.2 + 1)).bind fun r15 =>
 (aUnOp .not r15.1).bind fun t33 =>
 boolK t33
  ((bldV [(.slice none 0 0), (.slice none 0 0)] []).bind fun t34 =>
  (stN r15.2.1 2 (ptrTo (256 * c + 2)) t34).bind fun h17 =>
  (ldN h17 2 (ptrTo (256 * c + 2))).bind fun v18 =>
  some { e := .ret, vs := [.tuple #[v18, (.bool false), (.int .i64 0)]], h := h17, c := (r15.2.2 + 1), df := [] })
  ((ldN r15.2.1 2 (ptrTo (256 * (r1.2.2 + 1) + 6))).bind fun t35 =>
  (ldN r15.2.1 2 (ptrTo (256 * r5.2.2 + 6))).bind fun t36 =>
  (callF o 46 [t36] r15.2.1 (r15.2.2 + 1)).bind fun r19 =>
  (callF o 43 [t35, r19.1] r19.2.1 r19.2.2).bind fun r20 =>
  (stN r20.2.1 2 (ptrTo (256 * c + 2)) r20.1).bind fun h22 =>
  (bif (sameB (ridV (ptrTo (256 * (r1.2.2 + 1) + 6))) r15.2.1 r19.2.1 && true) then
  (ldN h22 2 (ptrTo (256 * c + 2))).bind fun v23 =>
  some { e := .ret, vs := [.tuple #[v23, (.bool true), (.int .i64 0)]], h := h22, c := r20.2.2, df := [] }
  else none)))
 else none)
 else none)
theorem f28_S_eq (o : Orc H) (t0 t1 : Value) (h : H) (c : Nat) : jx P o 39 none f28_c (tmOf (List.range 2) [t0, t1]) h c [] (Kfn P Try.f28.results.toList) = f28_S o t0 t1 h c := by kernel_rfl
theorem f28_go {t0 t1 : Value} {h : FH} {c : Nat} {df : List Nat} {r : Rt FH} (e : f28_S G t0 t1 h c = some r) : G (.fn 28) [t0, t1] h c df = some (gcR h c [] r) := runG_fn (a := f28_f) bk_28 rfl (fun args h c => by cases args <;> rfl) rfl ((f28_S_eq G t0 t1 h c).trans e)
end Go.Proofs.Ytemkjcpfgmbibaa
