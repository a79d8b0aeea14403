/- Parts of a proof: AbEval AbGc K S0 S1. Conditions: none. -/
import Derived.Test.YtcnndelmnobigaaM1
import Derived.Test.YtcnndelmnobigaaChecked
import Derived.KernelRfl
set_option linter.all false
namespace Go.Ab
open Go
set_option linter.unusedVariables false
set_option linter.unusedSimpArgs false
set_option linter.unusedSectionVars false
variable {H : Type} [HeapC H] {P : Program}
structure LB where
  loop : Nat → Option (List Nat × ACode × Nat)
  rng : Nat → List Nat → Option (List Nat × ACode × ACode)
def CodeOK (K : LB) (nt : Nat) : ACode → Prop
  | .seq a b => CodeOK K nt a ∧ CodeOK K nt b
  | .cond _ a b => CodeOK K nt a ∧ CodeOK K nt b
  | .block _ a => CodeOK K nt a
  | .join _ a => CodeOK K nt a
  | .loop j lin fr _ b => fr = [] ∧ K.loop j = some (lin, b, nt)
  | .rangeFunc _ lin fr _ _ ps a b => fr = [] ∧ K.rng nt ps.toList = some (lin, a, b)
  | _ => True
def KeyOK (K : LB) : Key → Prop
  | .fn _ => True
  | .lp j lin fr b nt _ => fr = [] ∧ K.loop j = some (lin, b, nt)
  | .rnd nt lin fr params _ a b => fr = [] ∧ K.rng nt params = some (lin, a, b)
def InvL (K : LB) (h : H) : Prop := ∀ i st, HeapC.get h i = some (.loop st) → st.fr = [] ∧ K.rng st.nt st.params = some (st.lin, st.assign, st.body)
def NoL (h h' : H) : Prop := ∀ i st, HeapC.get h' i = some (.loop st) → HeapC.get h i = some (.loop st)
theorem NoL.refl (h : H) : NoL h h := fun _ _ e => e
theorem NoL.trans {a b c : H} (h : NoL a b) (k : NoL b c) : NoL a c := fun i st e => h i st (k i st e)
theorem NoL.set {h : H} {i : Nat} {b : ABlk} (hb : ∀ st, b ≠ .loop st) : NoL h (HeapC.set h i b) := by
  intro j st e
  rw [HeapC.get_set] at e
  split at e
  · cases e; exact absurd rfl (hb st)
  · exact e
theorem NoL.del {h : H} {i : Nat} : NoL h (HeapC.del h i) := by
  intro j st e
  rw [HeapC.get_del] at e
  split at e
  · cases e
  · exact e
theorem NoL.inv {K : LB} {h h' : H} (n : NoL h h') (hi : InvL K h) : InvL K h' := fun i st e => hi i st (n i st e)
theorem NoL.wr {h h' : H} {i off : Nat} {xs : List Value} (e : wrCells h i off xs = some h') : NoL h h' := by
  unfold wrCells at e
  split at e
  · obtain ⟨_, e⟩ := cond_some e; cases e; exact NoL.set (fun st => by simp)
  · cases e
theorem NoL.store {t : TypeId} {h h' : H} {p x : Value} (e : aStore P h t p x = some h') : NoL h h' := by
  simp only [aStore, stN, Option.bind_eq_some_iff] at e
  obtain ⟨n, _, a, _, e⟩ := e
  obtain ⟨_, e⟩ := cond_some e
  exact NoL.wr e
theorem NoL.mapUpdate {t : TypeId} {h h' : H} {m k v : Value} (e : aMapUpdate P h t m k v = some h') : NoL h h' := by
  simp only [aMapUpdate, Option.bind_eq_some_iff] at e
  obtain ⟨ke, _, e⟩ := e
  obtain ⟨_, e⟩ := cond_some e
  split at e
  · split at e
    · simp only [Option.bind_eq_some_iff] at e
      obtain ⟨r, _, e⟩ := e
      split at e
      · split at e
        · obtain ⟨_, e⟩ := cond_some e; cases e; exact NoL.set (fun st => by simp)
        · cases e
      · cases e; exact NoL.set (fun st => by simp)
    · cases e
  · cases e
theorem NoL.grow {h : H} {id sz by' : Nat} {base : Option Addr} {len need : Nat} {new : List Value} {r : Value × H} (e : appGrow h id sz by' base len need new = some r) : NoL h r.2 := by
  unfold appGrow at e
  obtain ⟨_, e⟩ := cond_some e
  split at e
  · obtain ⟨_, e⟩ := cond_some e; cases e; exact NoL.set (fun st => by simp)
  · simp only [Option.bind_eq_some_iff] at e
    obtain ⟨old, _, e⟩ := e
    split at e
    · split at e
      · cases e; exact NoL.set (fun st => by simp)
      · obtain ⟨_, e⟩ := cond_some e; cases e; exact (NoL.set (fun st => by simp)).trans (NoL.set (fun st => by simp))
    · cases e
  · cases e
theorem NoL.appTo {h : H} {id sz by' : Nat} {s : Value} {new : List Value} {n : Nat} {r : Value × H} (e : appTo h id sz by' s new n = some r) : NoL h r.2 := by
  unfold Ab.appTo at e
  split at e
  · rename_i base len cap
    cases hb : Nat.ble (len + n) cap with
    | true =>
      rw [hb] at e
      simp only [cond_true] at e
      split at e
      · cases hc : Nat.beq new.length 0 with
        | true => rw [hc] at e; cases e; exact NoL.refl _
        | false =>
          rw [hc] at e
          simp only [cond_false, Option.bind_eq_some_iff] at e
          obtain ⟨h', hw, e⟩ := e
          cases e
          exact NoL.wr hw
      · obtain ⟨_, e⟩ := cond_some e; cases e; exact NoL.refl _
      · cases e
    | false => rw [hb] at e; exact NoL.grow e
  · cases e
theorem NoL.builtin {h : H} {id : Nat} {b : Builtin} {ts : List TypeId} {args : List Value} {r : Value × H} (e : aBuiltin P h id b ts args = some r) : NoL h r.2 := by
  cases b with
  | len =>
    simp only [aBuiltin] at e
    split at e
    · simp only [Option.bind_eq_some_iff] at e; obtain ⟨v, _, e⟩ := e; cases e; exact NoL.refl _
    · cases e
  | max => simp only [aBuiltin, Option.bind_eq_some_iff] at e; obtain ⟨v, _, e⟩ := e; cases e; exact NoL.refl _
  | min => simp only [aBuiltin, Option.bind_eq_some_iff] at e; obtain ⟨v, _, e⟩ := e; cases e; exact NoL.refl _
  | append =>
    simp only [aBuiltin, aAppend] at e
    split at e
    · simp only [Option.bind_eq_some_iff] at e
      obtain ⟨el, _, sz, _, by', _, z, _, e⟩ := e
      obtain ⟨_, e⟩ := cond_some e
      split at e
      · simp only [Option.bind_eq_some_iff] at e
        obtain ⟨xd, _, e⟩ := e
        have bs : ∀ {t : Bool} {x y : Option (Value × H)}, cond t x y = some r → x = some r ∨ y = some r := by
          intro t x y e
          cases t
          · exact .inr e
          · exact .inl e
        rcases bs e with e | e
        · simp only [Option.bind_eq_some_iff] at e
          obtain ⟨n, _, e⟩ := e
          obtain ⟨_, e⟩ := cond_some e
          exact NoL.appTo e
        · simp only [Option.bind_eq_some_iff] at e
          obtain ⟨q, _, e⟩ := e
          exact NoL.appTo e
      · cases e
    · cases e
  | copy =>
    simp only [aBuiltin, aCopy] at e
    split at e
    · simp only [Option.bind_eq_some_iff] at e
      obtain ⟨el, _, sz, _, e⟩ := e
      split at e
      · obtain ⟨_, e⟩ := cond_some e; cases e; exact NoL.refl _
      · simp only [Option.bind_eq_some_iff] at e
        obtain ⟨q, _, h', hw, e⟩ := e
        cases e
        exact NoL.wr hw
      · cases e
    · cases e
  | clear =>
    simp only [aBuiltin] at e
    split at e
    · simp only [Option.bind_eq_some_iff] at e
      obtain ⟨_, _, e⟩ := e
      unfold aClear at e
      split at e
      · split at e
        · cases e; exact NoL.refl _
        · simp only [Option.bind_eq_some_iff] at e
          obtain ⟨el, _, sz, _, z, _, e⟩ := e
          obtain ⟨_, e⟩ := cond_some e
          simp only [Option.bind_eq_some_iff] at e
          obtain ⟨h', hw, e⟩ := e
          cases e
          exact NoL.wr hw
        · cases e
      · cases e
    · cases e
  | _ => simp [aBuiltin] at e
theorem ret1_heap {h : H} {c : Nat} {v : Option Value} {r : Value × H × Nat} (e : ret1 h c v = some r) : r.2.1 = h := by
  simp only [ret1, Option.bind_eq_some_iff] at e
  obtain ⟨x, _, e⟩ := e
  cases e
  rfl
theorem doOp_noL {o : Orc H} {id : Nat} {tm : Tm} {h : H} {c : Nat} {op : Op} {r : Value × H × Nat} (hop : ∀ k, op ≠ .call k) (e : doOp P o id tm h c op = some r) : NoL h r.2.1 := by
  have R1 : ∀ {v : Option Value}, ret1 h c v = some r → NoL h r.2.1 := fun e => by rw [ret1_heap e]; exact NoL.refl _
  cases op with
  | call k => exact absurd rfl (hop k)
  | move x => exact R1 e
  | assign x => exact R1 e
  | pick x a b =>
    simp only [doOp, Option.bind_eq_some_iff] at e
    obtain ⟨_, _, _, _, _, _, e⟩ := e
    split at e
    · cases e; exact NoL.refl _
    · cases e
  | alloc t =>
    simp only [doOp, Option.bind_eq_some_iff] at e
    obtain ⟨_, _, e⟩ := e
    obtain ⟨_, e⟩ := cond_some e
    cases e
    exact NoL.set (fun st => by simp)
  | box t x =>
    simp only [doOp, Option.bind_eq_some_iff] at e
    obtain ⟨_, _, e⟩ := e
    obtain ⟨_, e⟩ := cond_some e
    cases e
    exact NoL.set (fun st => by simp)
  | build t ps => simp only [doOp, Option.bind_eq_some_iff] at e; obtain ⟨_, _, e⟩ := e; exact R1 e
  | buildSlice t l ps =>
    simp only [doOp, Option.bind_eq_some_iff] at e
    obtain ⟨_, _, _, _, e⟩ := e
    cases e
    exact NoL.set (fun st => by simp)
  | load t a => simp only [doOp, Option.bind_eq_some_iff] at e; obtain ⟨_, _, e⟩ := e; exact R1 e
  | store t a x =>
    simp only [doOp, Option.bind_eq_some_iff] at e
    obtain ⟨_, _, _, _, h', hs, e⟩ := e
    cases e
    exact NoL.store hs
  | nilCheck x => simp only [doOp, Option.bind_eq_some_iff] at e; obtain ⟨_, _, e⟩ := e; exact R1 e
  | binOp b t x y u => simp only [doOp, Option.bind_eq_some_iff] at e; obtain ⟨_, _, _, _, e⟩ := e; exact R1 e
  | unOp u t x => simp only [doOp, Option.bind_eq_some_iff] at e; obtain ⟨_, _, e⟩ := e; exact R1 e
  | convert s d x => simp only [doOp, Option.bind_eq_some_iff] at e; obtain ⟨_, _, _, _, e⟩ := e; exact R1 e
  | sliceToArrayPointer t x => simp only [doOp, Option.bind_eq_some_iff] at e; obtain ⟨_, _, e⟩ := e; exact R1 e
  | makeInterface t x =>
    simp only [doOp, Option.bind_eq_some_iff] at e
    obtain ⟨_, _, e⟩ := e
    split at e
    · cases e
    · cases e
    · cases e; exact NoL.refl _
  | makeFunc f a b =>
    simp only [doOp] at e
    split at e
    · simp only [Option.bind_eq_some_iff] at e; obtain ⟨_, _, _, _, e⟩ := e; cases e; exact NoL.refl _
    · cases e
  | makeMap t x =>
    simp only [doOp] at e
    split at e
    · cases e; exact NoL.set (fun st => by simp)
    · simp only [Option.bind_eq_some_iff] at e; obtain ⟨_, _, _, _, _, _, e⟩ := e; cases e; exact NoL.set (fun st => by simp)
  | makeSlice t l k =>
    simp only [doOp, Option.bind_eq_some_iff] at e
    obtain ⟨_, _, _, _, _, _, e⟩ := e
    cases e
    exact NoL.set (fun st => by simp)
  | slice t x lo hi mx => simp only [doOp, Option.bind_eq_some_iff] at e; obtain ⟨_, _, _, _, _, _, _, _, e⟩ := e; exact R1 e
  | fieldAddr t x f => simp only [doOp, Option.bind_eq_some_iff] at e; obtain ⟨_, _, e⟩ := e; exact R1 e
  | field t x f => simp only [doOp, Option.bind_eq_some_iff] at e; obtain ⟨_, _, e⟩ := e; exact R1 e
  | indexAddr t x i => simp only [doOp, Option.bind_eq_some_iff] at e; obtain ⟨_, _, _, _, e⟩ := e; exact R1 e
  | index t x i => simp only [doOp, Option.bind_eq_some_iff] at e; obtain ⟨_, _, _, _, e⟩ := e; exact R1 e
  | lookup t m k ok => simp only [doOp, Option.bind_eq_some_iff] at e; obtain ⟨_, _, _, _, e⟩ := e; exact R1 e
  | mapUpdate t m k v =>
    simp only [doOp, Option.bind_eq_some_iff] at e
    obtain ⟨_, _, _, _, _, _, h', hs, e⟩ := e
    cases e
    exact NoL.mapUpdate hs
  | insert t m k v =>
    simp only [doOp, Option.bind_eq_some_iff] at e
    obtain ⟨_, _, _, _, _, _, h', hs, e⟩ := e
    cases e
    exact NoL.mapUpdate hs
  | extract t i =>
    simp only [doOp, Option.bind_eq_some_iff] at e
    obtain ⟨_, _, e⟩ := e
    split at e
    · simp only [Option.bind_eq_some_iff] at e; obtain ⟨_, _, e⟩ := e; cases e; exact NoL.refl _
    · cases e
  | _ => cases e
def GoodO (K : LB) (o q : Orc H) : Prop := ∀ key args h c df r, KeyOK K key → InvL K h → o key args h c df = some r → q key args h c df = some r ∧ InvL K r.h
section
variable {K : LB} {o q : Orc H}
theorem callV_good (hG : GoodO K o q) {h : H} {c : Nat} {fv : Value} {args : List Value} {r : Value × H × Nat} (hi : InvL K h) (e : callV o h c fv args = some r) : callV q h c fv args = some r ∧ InvL K r.2.1 := by
  cases fv with
  | func f first cap =>
    cases f with
    | func g =>
      simp only [callV, Option.bind_eq_some_iff] at e ⊢
      obtain ⟨x, hx, e⟩ := e
      obtain ⟨h1, h2⟩ := hG (.fn g) _ _ _ _ _ trivial hi hx
      refine ⟨⟨x, h1, e⟩, ?_⟩
      split at e
      · cases e; exact h2
      · cases e
    | yield l =>
      simp only [callV] at e ⊢
      obtain ⟨h0, e⟩ := cond_some e
      rw [h0]
      split at e
      · rename_i st hg
        obtain ⟨h1, e⟩ := cond_some e
        simp only [Option.bind_eq_some_iff] at e
        obtain ⟨x, hx, e⟩ := e
        obtain ⟨h2, h3⟩ := hG (.rnd _ _ _ _ _ _ _) _ _ _ _ _ (hi _ _ hg) hi hx
        simp only [h1, cond_true, Option.bind_eq_some_iff]
        refine ⟨⟨x, h2, e⟩, ?_⟩
        split at e
        · cases e; exact h3
        · cases e
      · cases e
    | _ => simp [callV] at e
  | _ => simp [callV] at e
theorem doOp_good (hG : GoodO K o q) {id : Nat} {tm : Tm} {h : H} {c : Nat} {op : Op} {r : Value × H × Nat} (hi : InvL K h) (e : doOp P o id tm h c op = some r) : doOp P q id tm h c op = some r ∧ InvL K r.2.1 := by
  cases op with
  | call k =>
    simp only [doOp, Option.bind_eq_some_iff] at e ⊢
    obtain ⟨args, ha, e⟩ := e
    cases hk : k.callee with
    | value f =>
      rw [hk] at e
      simp only [Option.bind_eq_some_iff] at e
      obtain ⟨fv, hf, e⟩ := e
      obtain ⟨h1, h2⟩ := callV_good hG hi e
      exact ⟨⟨args, ha, by simp only [hf, Option.bind_some]; exact h1⟩, h2⟩
    | builtin b =>
      rw [hk] at e
      refine ⟨⟨args, ha, e⟩, ?_⟩
      simp only [Option.bind_eq_some_iff] at e
      obtain ⟨x, hx, e⟩ := e
      cases e
      exact (NoL.builtin hx).inv hi
    | invoke _ _ => rw [hk] at e; cases e
  | _ => exact ⟨e, (doOp_noL (by intro k hk; cases hk) e).inv hi⟩
theorem stepOp_good (hG : GoodO K o q) {ops : Array Oper} {base i nt : Nat} {tm : Tm} {h : H} {c : Nat} {op : Oper} {r : Value × H × Nat} (hi : InvL K h) (e : stepOp P o ops base i nt tm h c op = some r) :
    stepOp P q ops base i nt tm h c op = some r ∧ InvL K r.2.1 := by
  simp only [stepOp, Option.bind_eq_some_iff] at e ⊢
  obtain ⟨w, hw, e⟩ := e
  obtain ⟨h0, e⟩ := cond_some e
  cases w with
  | true =>
    obtain ⟨h1, h2⟩ := doOp_good hG hi e
    exact ⟨⟨true, hw, by rw [h0]; exact h1⟩, h2⟩
  | false =>
    refine ⟨⟨false, hw, by rw [h0]; exact e⟩, ?_⟩
    cases e
    exact hi
theorem runOps_good (hG : GoodO K o q) {ops : Array Oper} {base nt : Nat} : ∀ {l : List Oper} {i : Nat} {tm : Tm} {h : H} {c : Nat} {r : Tm × H × Nat}, InvL K h → runOps P o ops base nt l i tm h c = some r →
    runOps P q ops base nt l i tm h c = some r ∧ InvL K r.2.1
  | [], i, tm, h, c, r, hi, e => ⟨e, by cases e; exact hi⟩
  | op :: l, i, tm, h, c, r, hi, e => by
    simp only [runOps, Option.bind_eq_some_iff] at e ⊢
    obtain ⟨x, hx, e⟩ := e
    obtain ⟨h1, h2⟩ := stepOp_good hG hi hx
    obtain ⟨h3, h4⟩ := runOps_good hG h2 e
    exact ⟨⟨x, h1, h3⟩, h4⟩
theorem runOpsT_good (hG : GoodO K o q) {ops : Array Oper} {base nt : Nat} : ∀ {l : List Oper} {i : Nat} {tm : Tm} {h : H} {c : Nat} {r : Tm × H × Nat × List (Option Nat × H)}, InvL K h →
    runOpsT P o ops base nt l i tm h c = some r → runOpsT P q ops base nt l i tm h c = some r ∧ InvL K r.2.1
  | [], i, tm, h, c, r, hi, e => ⟨e, by cases e; exact hi⟩
  | op :: l, i, tm, h, c, r, hi, e => by
    simp only [runOpsT, Option.bind_eq_some_iff] at e ⊢
    obtain ⟨x, hx, y, hy, e⟩ := e
    obtain ⟨h1, h2⟩ := stepOp_good hG hi hx
    obtain ⟨h3, h4⟩ := runOpsT_good hG h2 hy
    refine ⟨⟨x, h1, y, h3, e⟩, ?_⟩
    cases e
    exact h4
theorem runReg_good (hG : GoodO K o q) {ops : Array Oper} {draw : Bool} {nt : Nat} {tm : Tm} {h : H} {c : Nat} {r : Tm × H × Nat} (hi : InvL K h) (e : runReg P o ops draw nt tm h c = some r) :
    runReg P q ops draw nt tm h c = some r ∧ InvL K r.2.1 := by
  simp only [runReg] at e ⊢
  cases draw with
  | false => exact runOps_good hG hi e
  | true =>
    obtain ⟨h0, e⟩ := cond_some e
    simp only [cond_true, h0]
    cases h1 : (lws ops).isEmpty with
    | true => rw [h1] at e; exact runOps_good hG hi e
    | false =>
      rw [h1] at e
      simp only [cond_false, Option.bind_eq_some_iff] at e ⊢
      obtain ⟨x, hx, e⟩ := e
      obtain ⟨h2, h3⟩ := runOpsT_good hG hi hx
      refine ⟨⟨x, h2, e⟩, ?_⟩
      obtain ⟨_, e⟩ := cond_some e
      cases e
      exact h3
theorem disp_of {β γ : Type} {e : Ex} {f : Ex → Option β} {g : Ex → Option γ} {x : β} : ∀ {l : List Ex}, disp e f l = some x → f e = some x ∧ disp e g l = g e
  | [], h => by cases h
  | y :: l, h => by
    simp only [disp] at h ⊢
    cases hb : exIs e y with
    | true => rw [hb] at h; rw [exIs_eq hb]; exact ⟨h, rfl⟩
    | false => rw [hb] at h; exact disp_of h
theorem rangeV_good (hG : GoodO K o q) {nt : Nat} {rd : Option Nat} {lin : List Nat} {ps : Array Tmp} {a b : ACode} {fv : Value} {vs : List Value} {h : H} {c : Nat} {df : List Nat} {r : Ex × H × Nat × List Nat} (hi : InvL K h)
    (hk : K.rng nt ps.toList = some (lin, a, b)) (e : rangeV o nt rd lin [] ps a b fv vs h c df = some r) : rangeV q nt rd lin [] ps a b fv vs h c df = some r ∧ InvL K r.2.1 := by
  unfold rangeV at e ⊢
  split at e
  · rename_i g first cap
    simp only [Option.bind_eq_some_iff] at e ⊢
    obtain ⟨hd, hhd, x, hx, e⟩ := e
    have hi1 : InvL K hd.1 := by
      unfold enterDfr at hhd
      split at hhd
      · cases hhd; exact (NoL.set (fun st => by simp)).inv hi
      · split at hhd
        · cases hhd; exact hi
        · cases hhd
    have hi2 : InvL K (HeapC.set hd.1 (256 * c) (.loop { state := .ready, pending := none, nt := nt, vals := vs, lin := lin, fr := [], params := ps.toList, assign := a, body := b, dfr := hd.2 })) := by
      intro i st hst
      rw [HeapC.get_set] at hst
      split at hst
      · cases hst; exact ⟨rfl, hk⟩
      · exact hi1 i st hst
    obtain ⟨h1, h2⟩ := hG (.fn g) _ _ _ _ _ trivial hi2 hx
    refine ⟨⟨hd, hhd, x, h1, e⟩, ?_⟩
    split at e
    · rename_i st hg
      cases hb : decide (st.state = LoopState.busy) with
      | true => rw [hb] at e; cases e
      | false =>
        rw [hb] at e
        simp only [cond_false, Option.bind_eq_some_iff] at e
        obtain ⟨y, _, e⟩ := e
        cases e
        exact NoL.del.inv h2
    · cases e
  · cases e
theorem jx_good (hG : GoodO K o q) {nt : Nat} {rd : Option Nat} : ∀ {code : ACode}, CodeOK K nt code → ∀ {β : Type} {tm : Tm} {h : H} {c : Nat} {df : List Nat} {Kf : Kx H β} {x : β}, InvL K h → jx P o nt rd code tm h c df Kf = some x →
    ∃ e tm1 h1 c1 df1, Kf e tm1 h1 c1 df1 = some x ∧ InvL K h1 ∧ ∀ {γ : Type} (Kg : Kx H γ), jx P q nt rd code tm h c df Kg = Kg e tm1 h1 c1 df1 := by
  intro code
  induction code with
  | skip => intro _ β tm h c df Kf x hi e; exact ⟨_, _, _, _, _, e, hi, fun _ => rfl⟩
  | region id ops d =>
    intro _ β tm h c df Kf x hi e
    simp only [jx, regK_eq, Option.bind_eq_some_iff] at e
    obtain ⟨y, hy, e⟩ := e
    obtain ⟨h1, h2⟩ := runReg_good hG hi hy
    exact ⟨_, _, _, _, _, e, h2, fun Kg => by simp only [jx, regK_eq, h1, Option.bind_some]⟩
  | seq a b iha ihb =>
    intro hok β tm h c df Kf x hi e
    simp only [jx] at e
    obtain ⟨e1, tm1, h1, c1, df1, hk, hi1, hg⟩ := iha hok.1 hi e
    cases e1 with
    | normal =>
      obtain ⟨e2, tm2, h2, c2, df2, hk2, hi2, hg2⟩ := ihb hok.2 hi1 hk
      exact ⟨_, _, _, _, _, hk2, hi2, fun Kg => by simp only [jx]; rw [hg]; exact hg2 Kg⟩
    | exit i => exact ⟨_, _, _, _, _, hk, hi1, fun Kg => by simp only [jx]; rw [hg]⟩
    | ret => exact ⟨_, _, _, _, _, hk, hi1, fun Kg => by simp only [jx]; rw [hg]⟩
  | cond y a b iha ihb =>
    intro hok β tm h c df Kf x hi e
    simp only [jx, Option.bind_eq_some_iff] at e
    obtain ⟨v, hv, e⟩ := e
    split at e
    · rename_i t
      cases t
      · obtain ⟨e1, tm1, h1, c1, df1, hk, hi1, hg⟩ := ihb hok.2 hi e
        exact ⟨_, _, _, _, _, hk, hi1, fun Kg => by simp only [jx, hv, Option.bind_some, cond_false]; exact hg Kg⟩
      · obtain ⟨e1, tm1, h1, c1, df1, hk, hi1, hg⟩ := iha hok.1 hi e
        exact ⟨_, _, _, _, _, hk, hi1, fun Kg => by simp only [jx, hv, Option.bind_some, cond_true]; exact hg Kg⟩
    · cases e
  | block id a ih =>
    intro hok β tm h c df Kf x hi e
    simp only [jx] at e
    obtain ⟨e1, tm1, h1, c1, df1, hk, hi1, hg⟩ := ih hok hi e
    cases e1 with
    | normal => exact ⟨_, _, _, _, _, hk, hi1, fun Kg => by simp only [jx]; rw [hg]⟩
    | exit i =>
      cases hb : Nat.beq i id with
      | true => simp only [hb] at hk; exact ⟨_, _, _, _, _, hk, hi1, fun Kg => by simp only [jx]; rw [hg]; simp only [hb, cond_true]⟩
      | false => simp only [hb] at hk; exact ⟨_, _, _, _, _, hk, hi1, fun Kg => by simp only [jx]; rw [hg]; simp only [hb, cond_false]⟩
    | ret => exact ⟨_, _, _, _, _, hk, hi1, fun Kg => by simp only [jx]; rw [hg]⟩
  | loop j lin fr outs b _ =>
    intro hok β tm h c df Kf x hi e
    simp only [jx, Option.bind_eq_some_iff] at e
    obtain ⟨vs, hv, r, hr, e⟩ := e
    obtain ⟨h1, h2⟩ := hG (.lp j lin fr b nt rd) _ _ _ _ _ hok hi hr
    refine ⟨r.e, tmL lin r.vs, r.h, r.c, r.df, ?_, h2, fun {γ} Kg => ?_⟩
    · exact (disp_of (γ := β) (g := fun _ => none) e).1
    · simp only [jx, hv, Option.bind_some, h1]
      exact (disp_of (g := fun e => Kg e (tmL lin r.vs) r.h r.c r.df) e).2
  | rangeFunc j lin fr outs f ps a b _ _ =>
    intro hok β tm h c df Kf x hi e
    obtain ⟨rfl, hk⟩ := hok
    simp only [jx, Option.bind_eq_some_iff] at e
    obtain ⟨fv, hf, vs, hv, r, hr, e⟩ := e
    obtain ⟨h1, h2⟩ := rangeV_good hG hi hk hr
    refine ⟨r.1, tm, r.2.1, r.2.2.1, r.2.2.2, ?_, h2, fun {γ} Kg => ?_⟩
    · exact (disp_of (γ := β) (g := fun _ => none) e).1
    · simp only [jx, hf, hv, Option.bind_some, h1]
      exact (disp_of (g := fun e => Kg e tm r.2.1 r.2.2.1 r.2.2.2) e).2
  | exit id => intro _ β tm h c df Kf x hi e; exact ⟨_, _, _, _, _, e, hi, fun _ => rfl⟩
  | ret => intro _ β tm h c df Kf x hi e; exact ⟨_, _, _, _, _, e, hi, fun _ => rfl⟩
  | bad _ => intro _ β tm h c df Kf x hi e; cases e
  | join lays a ih =>
    intro hok β tm h c df Kf x hi e
    simp only [jx, Option.bind_eq_some_iff] at e
    obtain ⟨r, hr, e⟩ := e
    obtain ⟨e1, tm1, h1, c1, df1, hk, hi1, hg⟩ := ih hok hi hr
    have hk' := hk
    simp only [Option.bind_eq_some_iff] at hk'
    obtain ⟨l, hl, vs, hvs, hk'⟩ := hk'
    cases hk'
    refine ⟨e1, tmL l vs, h1, c1, df1, ?_, hi1, fun {γ} Kg => ?_⟩
    · obtain ⟨lay, h3, h4⟩ := dispJ_some e
      simp only at h3 h4
      rw [hl] at h3
      cases h3
      exact h4
    · simp only [jx]
      rw [hg]
      simp only [hl, hvs, Option.bind_some]
      obtain ⟨lay, h3, h4⟩ := dispJ_some e
      simp only at h3 h4
      rw [hl] at h3
      cases h3
      clear hg hk hr h4
      have : ∀ {ls : List (Ex × List Nat)} {l : List Nat}, layF e1 ls = some l → dispJ ({ e := e1, vs := vs, h := h1, c := c1, df := df1 } : Rt H) Kg ls = Kg e1 (tmL l vs) h1 c1 df1 := by
        intro ls
        induction ls with
        | nil => intro l h; cases h
        | cons y ls ih2 =>
          intro l h
          simp only [layF] at h
          simp only [dispJ]
          cases hb : exIs e1 y.1 with
          | true => rw [hb] at h; cases h; rw [exIs_eq hb]; rfl
          | false => rw [hb] at h; exact ih2 h
      exact this hl
end
structure Tab (H : Type) where
  F : FuncId → Option (Orc H → List Value → H → Nat → Option (Rt H))
  L : Nat → Option (Orc H → Option Nat → List Value → H → Nat → List Nat → Option (Rt H))
  R : Nat → List Nat → Option (Orc H → Nat → List Value → H → Nat → Option (Rt H))
noncomputable def evT (T : Tab H) (n : Nat) : Orc H :=
  Nat.rec (motive := fun _ => Orc H) (fun _ _ _ _ _ => none)
    (fun _ o key args h c df => Key.rec (motive := fun _ => Option (Rt H))
      (fun f => (T.F f).bind fun F => F o args h c)
      (fun j lin fr b nt rd => (T.L j).bind fun B => (B o rd args h c df).bind fun q =>
        match q.e with
        | .normal => o (.lp j lin fr b nt rd) q.vs q.h q.c q.df
        | .exit i => some { q with e := .exit i }
        | .ret => some { q with e := .ret })
      (fun nt _ _ params l _ _ => (T.R nt params).bind fun D => D o l args h c) key) n
theorem evT_succ (T : Tab H) (n : Nat) (key : Key) (args : List Value) (h : H) (c : Nat) (df : List Nat) : evT T (n + 1) key args h c df =
    match key with
    | .fn f => (T.F f).bind fun F => F (evT T n) args h c
    | .lp j lin fr b nt rd => (T.L j).bind fun B => (B (evT T n) rd args h c df).bind fun q =>
        match q.e with
        | .normal => evT T n (.lp j lin fr b nt rd) q.vs q.h q.c q.df
        | .exit i => some { q with e := .exit i }
        | .ret => some { q with e := .ret }
    | .rnd nt _ _ params l _ _ => (T.R nt params).bind fun D => D (evT T n) l args h c := by
  cases key <;> rfl
structure TabOK (P : Program) (bk : FuncId → Option AFun) (K : LB) (T : Tab H) : Prop where
  F : ∀ f F, T.F f = some F → ∃ a, bk f = some a ∧ a.fr = [] ∧ CodeOK K a.nt a.code ∧ ∀ o args h c r, F o args h c = some r →
    Nat.ble args.length a.nt = true ∧ jx P o a.nt none a.code (tmOf (List.range args.length) args) h c [] (Kfn P a.res) = some r
  L : ∀ j B lin b nt, T.L j = some B → K.loop j = some (lin, b, nt) → CodeOK K nt b ∧ ∀ o rd vs h c df q, B o rd vs h c df = some q → jx P o nt rd b (tmOf lin vs) h c df (Klp lin) = some q
  R : ∀ nt ps D lin a b, T.R nt ps = some D → K.rng nt ps = some (lin, a, b) → CodeOK K nt a ∧ CodeOK K nt b ∧ ∀ o l vs h c r, D o l vs h c = some r →
    jx P o nt (some l) a (tmOf (ps ++ lin) vs) h c [] (rndK P o nt l b) = some r
theorem Kfn_inv {K : LB} {res : List ResultVar} {e : Ex} {tm : Tm} {h : H} {c : Nat} {df : List Nat} {r : Rt H} (hi : InvL K h) (hk : Kfn P res e tm h c df = some r) : InvL K r.h := by
  have tk : ∀ (ds : List Nat) (h h1 : H), takeAll h ds = some h1 → NoL h h1 := by
    intro ds
    induction ds with
    | nil => intro h h1 e; cases e; exact NoL.refl _
    | cons d ds ih =>
      intro h h1 e
      simp only [takeAll] at e
      split at e
      · exact NoL.del.trans (ih _ _ e)
      · cases e
  cases e with
  | exit i => cases hk
  | normal =>
    simp only [Kfn, resK_eq, Option.bind_eq_some_iff] at hk
    obtain ⟨h1, ht, vs, _, hk⟩ := hk
    cases hk
    exact (tk _ _ _ ht).inv hi
  | ret =>
    simp only [Kfn, resK_eq, Option.bind_eq_some_iff] at hk
    obtain ⟨h1, ht, vs, _, hk⟩ := hk
    cases hk
    exact (tk _ _ _ ht).inv hi
theorem setState_inv {K : LB} {h h' : H} {l : Nat} {s : LoopState} {pd : Option Code} (hi : InvL K h) (e : setState h l s pd = some h') : InvL K h' := by
  unfold setState at e
  split at e
  · rename_i st hg
    cases e
    intro i st' h'
    rw [HeapC.get_set] at h'
    split at h'
    · cases h'; exact hi l st hg
    · exact hi _ _ h'
  · cases e
theorem beginSt_inv {K : LB} {h h' : H} {l : Nat} (hi : InvL K h) (e : beginSt h l = some h') : InvL K h' := by
  unfold beginSt at e
  split at e
  · rename_i st hg
    obtain ⟨_, e⟩ := cond_some e
    cases e
    intro i st' h'
    rw [HeapC.get_set] at h'
    split at h'
    · cases h'; exact hi l st hg
    · exact hi _ _ h'
  · cases e
theorem evT_good {bk : FuncId → Option AFun} {K : LB} {T : Tab H} (hT : TabOK P bk K T) : ∀ n, GoodO K (evT T n) (run P bk)
  | 0 => fun _ _ _ _ _ _ _ _ e => by cases e
  | n + 1 => by
    have ih := evT_good hT n
    intro key args h c df r hk hi e
    cases key with
    | fn f =>
      simp only [evT_succ, Option.bind_eq_some_iff] at e
      obtain ⟨F, hF, e⟩ := e
      obtain ⟨a, ha, hfr, hok, h1⟩ := hT.F f F hF
      obtain ⟨hlen, h2⟩ := h1 _ _ _ _ _ e
      obtain ⟨e1, tm1, h3, c1, df1, h4, h5, h6⟩ := jx_good ih hok hi h2
      exact ⟨run_fn ha hfr hlen (by rw [h6]; exact h4), Kfn_inv h5 h4⟩
    | lp j lin fr b nt rd =>
      obtain ⟨rfl, hkl⟩ := hk
      simp only [evT_succ, Option.bind_eq_some_iff] at e
      obtain ⟨B, hB, q, hq, e⟩ := e
      obtain ⟨hok, h1⟩ := hT.L j B lin b nt hB hkl
      have h2 := h1 _ _ _ _ _ _ _ hq
      obtain ⟨e1, tm1, h3, c1, df1, h4, h5, h6⟩ := jx_good ih hok hi h2
      have h7 : jx P (run P bk) nt rd b (tmOf lin args) h c df (Klp lin) = some q := by rw [h6]; exact h4
      have hqe : q.e = e1 ∧ InvL K q.h := by
        simp only [Klp, Option.bind_eq_some_iff] at h4
        obtain ⟨ws, _, h4⟩ := h4
        cases h4
        exact ⟨rfl, h5⟩
      cases hx : q.e with
      | normal =>
        rw [hx] at e
        obtain ⟨h8, h9⟩ := ih (.lp j lin [] b nt rd) _ _ _ _ _ ⟨rfl, hkl⟩ hqe.2 e
        exact ⟨run_lp_next h7 hx h8, h9⟩
      | exit i =>
        rw [hx] at e
        have : r = q := by obtain ⟨qe, qv, qh, qc, qd⟩ := q; simp only at hx; subst hx; cases e; rfl
        subst this
        exact ⟨run_lp_last h7 (by rw [hx]; simp), hqe.2⟩
      | ret =>
        rw [hx] at e
        have : r = q := by obtain ⟨qe, qv, qh, qc, qd⟩ := q; simp only at hx; subst hx; cases e; rfl
        subst this
        exact ⟨run_lp_last h7 (by rw [hx]; simp), hqe.2⟩
    | rnd nt lin fr params l a b =>
      obtain ⟨rfl, hkr⟩ := hk
      simp only [evT_succ, Option.bind_eq_some_iff] at e
      obtain ⟨D, hD, e⟩ := e
      obtain ⟨hoa, hob, h1⟩ := hT.R nt params D lin a b hD hkr
      have h2 := h1 _ _ _ _ _ _ e
      obtain ⟨e1, tm1, h3, c1, df1, h4, h5, h6⟩ := jx_good ih hoa hi h2
      cases e1 with
      | exit i => cases h4
      | ret => cases h4
      | normal =>
        simp only [rndK, Option.bind_eq_some_iff] at h4
        obtain ⟨h7, hb, h8⟩ := h4
        obtain ⟨e2, tm2, h9, c2, df2, h10, h11, h12⟩ := jx_good ih hob (beginSt_inv h5 hb) h8
        refine ⟨run_rnd (by rw [h6]; simp only [hb, Option.bind_some]; rw [h12]; exact h10), ?_⟩
        simp only [Krd, Option.bind_eq_some_iff] at h10
        obtain ⟨h13, hs, h14⟩ := h10
        obtain ⟨_, h14⟩ := cond_some h14
        cases h14
        exact setState_inv h11 hs
inductive BT (α : Type) where
  | leaf
  | node (k : Nat) (v : α) (l r : BT α)
noncomputable def BT.look {α : Type} (t : BT α) (f : Nat) : Option α :=
  BT.rec (motive := fun _ => Option α) none (fun k v _ _ l r => cond (Nat.beq f k) (some v) (cond (Nat.blt f k) l r)) t
theorem BT.look_node {α : Type} (k : Nat) (v : α) (l r : BT α) (f : Nat) : (BT.node k v l r).look f = cond (Nat.beq f k) (some v) (cond (Nat.blt f k) (l.look f) (r.look f)) := rfl
def BT.All {α : Type} (Q : Nat → α → Prop) : BT α → Prop
  | .leaf => True
  | .node k v l r => Q k v ∧ l.All Q ∧ r.All Q
theorem BT.look_all {α : Type} {Q : Nat → α → Prop} : ∀ {t : BT α}, t.All Q → ∀ {f : Nat} {v : α}, t.look f = some v → Q f v
  | .leaf, _, f, v, e => by cases e
  | .node k w l r, h, f, v, e => by
    rw [BT.look_node] at e
    cases hb : Nat.beq f k with
    | true => rw [hb] at e; cases e; rw [Nat.eq_of_beq_eq_true hb]; exact h.1
    | false =>
      rw [hb] at e
      cases hc : Nat.blt f k with
      | true => rw [hc] at e; exact look_all h.2.1 e
      | false => rw [hc] at e; exact look_all h.2.2 e
def nlEq : List Nat → List Nat → Bool
  | [], [] => true
  | x :: xs, y :: ys => cond (Nat.beq x y) (nlEq xs ys) false
  | _, _ => false
theorem nlEq_eq : ∀ {a b : List Nat}, nlEq a b = true → a = b
  | [], [], _ => rfl
  | x :: xs, y :: ys, h => by
    simp only [nlEq] at h
    cases hb : Nat.beq x y with
    | true => rw [hb] at h; rw [Nat.eq_of_beq_eq_true hb, nlEq_eq h]
    | false => rw [hb] at h; cases h
  | [], y :: ys, h => by cases h
  | x :: xs, [], h => by cases h
def lookR {α : Type} (nt : Nat) (ps : List Nat) : List (Nat × List Nat × α) → Option α
  | [] => none
  | x :: xs => cond (cond (Nat.beq nt x.1) (nlEq ps x.2.1) false) (some x.2.2) (lookR nt ps xs)
def AllR {α : Type} (Q : Nat → List Nat → α → Prop) : List (Nat × List Nat × α) → Prop
  | [] => True
  | x :: xs => Q x.1 x.2.1 x.2.2 ∧ AllR Q xs
theorem lookR_all {α : Type} {Q : Nat → List Nat → α → Prop} {nt : Nat} {ps : List Nat} : ∀ {l : List (Nat × List Nat × α)}, AllR Q l → ∀ {v : α}, lookR nt ps l = some v → Q nt ps v
  | [], _, v, e => by cases e
  | x :: xs, h, v, e => by
    simp only [lookR] at e
    cases hb : cond (Nat.beq nt x.1) (nlEq ps x.2.1) false with
    | false => rw [hb] at e; exact lookR_all h.2 e
    | true =>
      rw [hb] at e
      cases e
      cases hc : Nat.beq nt x.1 with
      | false => rw [hc] at hb; cases hb
      | true => rw [hc] at hb; rw [Nat.eq_of_beq_eq_true hc, nlEq_eq hb]; exact h.1
def EntOK (P : Program) (f : FuncId) (a : AFun) : Prop :=
  ∃ fn c, P.funcs[f]? = some fn ∧ fn.body = some c ∧ (fn.name == "runtime.NumGoroutine") = false ∧ strip a.code = c ∧ a.nt = fn.ntmps ∧ a.res = fn.results.toList
def FE (P : Program) (bk : FuncId → Option AFun) (K : LB) (f : FuncId) (F : Orc H → List Value → H → Nat → Option (Rt H)) : Prop :=
  ∃ a, bk f = some a ∧ a.fr = [] ∧ CodeOK K a.nt a.code ∧ ∀ o args h c r, F o args h c = some r →
    Nat.ble args.length a.nt = true ∧ jx P o a.nt none a.code (tmOf (List.range args.length) args) h c [] (Kfn P a.res) = some r
def LE (P : Program) (K : LB) (j : Nat) (B : Orc H → Option Nat → List Value → H → Nat → List Nat → Option (Rt H)) : Prop :=
  ∀ lin b nt, K.loop j = some (lin, b, nt) → CodeOK K nt b ∧ ∀ o rd vs h c df q, B o rd vs h c df = some q → jx P o nt rd b (tmOf lin vs) h c df (Klp lin) = some q
def RE (P : Program) (K : LB) (nt : Nat) (ps : List Nat) (D : Orc H → Nat → List Value → H → Nat → Option (Rt H)) : Prop :=
  ∀ lin a b, K.rng nt ps = some (lin, a, b) → CodeOK K nt a ∧ CodeOK K nt b ∧ ∀ o l vs h c r, D o l vs h c = some r → jx P o nt (some l) a (tmOf (ps ++ lin) vs) h c [] (rndK P o nt l b) = some r
end Go.Ab

namespace Go.Ab
open Go
set_option linter.unusedVariables false
set_option linter.unusedSimpArgs false
variable {P : Program}
noncomputable def nuD (c : Nat) : Mu := fun i => if i < 256 * c then some ⟨i, 0, none⟩ else none
theorem nuD_of {c i : Nat} (h : i < 256 * c) : nuD c i = some ⟨i, 0, none⟩ := by simp [nuD, h]
theorem nuD_dom {c i : Nat} (h : nuD c i ≠ none) : i < 256 * c := by
  unfold nuD at h
  split at h
  · assumption
  · exact absurd rfl h
def OkV (c : Nat) (v : Value) : Prop := ∃ v', VR (nuD c) v v'
theorem OkV.bool (c : Nat) (b : Bool) : OkV c (.bool b) := ⟨_, .bool b⟩
theorem OkV.int (c : Nat) (k : IntKind) (n : Int) : OkV c (.int k n) := ⟨_, .int k n⟩
theorem OkV.str (c : Nat) (s : ByteArray) : OkV c (.string s) := ⟨_, .str s⟩
theorem OkV.ptr0 (c : Nat) : OkV c (.pointer none) := ⟨_, .ptr0⟩
theorem OkV.ptr {c i o : Nat} (h : i < 256 * c) : OkV c (.pointer (some ⟨i, o, none⟩)) := ⟨_, .ptr (nuD_of h)⟩
theorem OkV.ptrTo {c i : Nat} (h : i < 256 * c) : OkV c (ptrTo i) := ⟨_, .ptr (nuD_of h)⟩
theorem OkV.sl0 (c l k : Nat) : OkV c (.slice none l k) := ⟨_, .sl0 l k⟩
theorem OkV.sl {c i o l k : Nat} (h : i < 256 * c) : OkV c (.slice (some ⟨i, o, none⟩) l k) := ⟨_, .sl (nuD_of h) (Nat.le_refl _) (.inl rfl)⟩
theorem OkV.map0 (c : Nat) : OkV c (.map none) := ⟨_, .map0⟩
theorem OkV.map {c i : Nat} (h : i < 256 * c) : OkV c (.map (some i)) := ⟨_, .map (nuD_of h)⟩
theorem OkV.nilFunc (c : Nat) : OkV c .nilFunc := ⟨_, .nilFunc⟩
theorem OkV.yield {c l : Nat} (h : l < 256 * c) : OkV c (.func (.yield l) #[] #[]) := ⟨_, .yield (nuD_of h)⟩
def OkVs (c : Nat) (vs : List Value) : Prop := ∀ v ∈ vs, OkV c v
theorem OkVs.nil (c : Nat) : OkVs c [] := fun _ h => by cases h
theorem OkVs.cons {c : Nat} {v : Value} {vs : List Value} (h : OkV c v) (hs : OkVs c vs) : OkVs c (v :: vs) := by
  intro x hx
  rcases List.mem_cons.1 hx with rfl | hx
  · exact h
  · exact hs x hx
theorem OkVs.cons_iff {c : Nat} {v : Value} {vs : List Value} : OkVs c (v :: vs) ↔ OkV c v ∧ OkVs c vs :=
  ⟨fun h => ⟨h v (by simp), fun x hx => h x (by simp [hx])⟩, fun h => OkVs.cons h.1 h.2⟩
theorem OkVs.vrs {c : Nat} : ∀ {vs : List Value}, OkVs c vs → ∃ ws, VRs (nuD c) vs ws
  | [], _ => ⟨[], VRs.nil _⟩
  | v :: vs, h => by
    obtain ⟨v', h1⟩ := h v (by simp)
    obtain ⟨ws, h2⟩ := OkVs.vrs (vs := vs) (fun x hx => h x (by simp [hx]))
    exact ⟨v' :: ws, VRs.cons h1 h2⟩
theorem OkV.agg {c : Nat} {l : List Value} (h : OkVs c l) : OkV c (.agg l.toArray) := by
  obtain ⟨ws, h1⟩ := h.vrs
  exact ⟨.agg ws.toArray, VR.agg_iff.2 (by simpa using h1)⟩
theorem OkV.agg_iff {c : Nat} {l : List Value} : OkV c (.agg l.toArray) ↔ OkVs c l := by
  refine ⟨fun h => ?_, OkV.agg⟩
  obtain ⟨v', hv⟩ := h
  cases hv with
  | @agg _ ys hs g =>
    intro x hx
    obtain ⟨k, hk⟩ := List.getElem?_of_mem hx
    have hl : k < ys.size := by
      have := (List.getElem?_eq_some_iff.1 hk).1
      simp at hs; omega
    exact ⟨_, g k x ys[k] (by simpa using hk) (Array.getElem?_eq_getElem hl)⟩
def OkB (c : Nat) : Option ABlk → Prop
  | some (.cells _ _ cs) => OkVs c cs
  | some (.map es) => ∀ e ∈ es, OkV c e.1 ∧ OkV c e.2
  | some (.loop a) => OkVs c a.vals ∧ a.dfr < 256 * c
  | _ => True
def GcH (c : Nat) (h A : FH) : Prop := ∀ i, i < 256 * c → h.f i = A.f i ∨ OkB c (h.f i)
noncomputable def mrg (c : Nat) (h A : FH) : FH := ⟨fun i => if i < 256 * c then h.f i else A.f i⟩
def GcOk (A : FH) (c : Nat) (df : List Nat) (r : Rt FH) : Prop := OkVs c r.vs ∧ r.df = df ∧ GcH c r.h A
open Classical in
noncomputable def gcR (A : FH) (c : Nat) (df : List Nat) (r : Rt FH) : Rt FH :=
  if GcOk A c df r then { e := r.e, vs := r.vs, h := mrg c r.h A, c := c, df := df } else r
theorem gcR_of {A : FH} {c : Nat} {df : List Nat} {e : Ex} {vs : List Value} {h : FH} {c' : Nat} (h1 : OkVs c vs) (h2 : GcH c h A) : gcR A c df { e := e, vs := vs, h := h, c := c', df := df } = { e := e, vs := vs, h := mrg c h A, c := c, df := df } := by
  unfold gcR
  rw [if_pos ⟨h1, rfl, h2⟩]
theorem gcR_e {A : FH} {c : Nat} {df : List Nat} {r : Rt FH} : (gcR A c df r).e = r.e := by unfold gcR; split <;> rfl
theorem gcR_vs {A : FH} {c : Nat} {df : List Nat} {r : Rt FH} : (gcR A c df r).vs = r.vs := by unfold gcR; split <;> rfl
theorem gcR_df {A : FH} {c : Nat} {df : List Nat} {r : Rt FH} : (gcR A c df r).df = r.df := by
  unfold gcR
  split
  · rename_i h; exact h.2.1.symm
  · rfl
theorem OkV.on {c : Nat} {μ : Mu} {v v' : Value} (h : VR μ v v') (hv : OkV c v) : VR (μ.on (fun i => i < 256 * c)) v v' :=
  let ⟨_, k⟩ := hv; h.on (fun i => nuD_dom) k
theorem OkB.on {c : Nat} {μ : Mu} {m : ME} {hp : Array Obj} {b : Option ABlk} (h : BlkR μ m hp b) (hb : OkB c b) : BlkR (μ.on (fun i => i < 256 * c)) m hp b := by
  unfold BlkR at h ⊢
  unfold OkB at hb
  split at h
  · rename_i ro opn cs
    obtain ⟨C, E, fr, h1, h2, h3, h4⟩ := h
    refine ⟨C, E, fr, h1, fun k x hx => ?_, h3, h4⟩
    obtain ⟨y, h5, h6⟩ := h2 k x hx
    exact ⟨y, h5, (hb x (List.mem_of_getElem? hx)).on h6⟩
  · rename_i es
    obtain ⟨es', clk, h1, h2, h3⟩ := h
    refine ⟨es', clk, h1, h2, fun k x y hx hy => ?_⟩
    have a := h3 k x y hx hy
    have b := hb x (List.mem_of_getElem? hx)
    exact ⟨b.1.on a.1, b.2.on a.2⟩
  · rename_i a
    obtain ⟨r, h1, h2⟩ := h
    refine ⟨r, h1, ⟨h2.state, h2.pending, h2.params, h2.assign, h2.body, h2.size, fun t v e => ?_, ?_⟩⟩
    · obtain ⟨v', h3, h4⟩ := h2.vals t v e
      have hmem : ∀ (l : List Nat) (vs : List Value), tmOf l vs t = some v → v ∈ vs := by
        intro l
        induction l with
        | nil => intro vs h; simp [tmOf] at h
        | cons x l ih =>
          intro vs h
          cases vs with
          | nil => simp [tmOf] at h
          | cons u vs =>
            simp only [tmOf] at h
            cases hq : Nat.beq t x with
            | true => rw [hq] at h; cases h; simp
            | false => rw [hq] at h; simp [ih vs h]
      exact ⟨v', h3, (hb.1 v (hmem _ _ e)).on h4⟩
    · obtain ⟨m1, h3, h4⟩ := h2.dfr
      exact ⟨m1, by rw [Mu.on_of (D := fun i => i < 256 * c) hb.2]; exact h3, h4⟩
  · exact h
  · trivial
  · trivial
theorem gcExt {μ μ' : Mu} {A h : FH} {c c' : Nat} {w w' : World} (hE : Ext μ A c w (fun _ => False) μ' h c' w') (hR : R μ A w) (hf : Fresh μ c) (hg : GcH c h A) :
    Ext μ A c w (fun _ => False) (μ'.on (fun i => i < 256 * c)) (mrg c h A) c w' := by
  have lt : ∀ {i : Nat} {m : ME}, μ i = some m → i < 256 * c := fun {i m} e => by
    by_cases hi : i < 256 * c
    · exact hi
    · rw [hf i (by omega)] at e; cases e
  have old : ∀ {i : Nat} {m : ME}, μ'.on (fun i => i < 256 * c) i = some m → i < 256 * c ∧ μ' i = some m ∧ μ i = some m := fun {i m} e => by
    obtain ⟨h1, h2⟩ := Mu.on_some e
    refine ⟨h1, h2, ?_⟩
    cases e0 : μ i with
    | none =>
      rcases hE.new i e0 (by rw [h2]; simp) with a | ⟨a, _⟩
      · exact a.elim
      · omega
    | some m0 => rw [← hE.mu i m0 e0, h2]
  have gm : ∀ {i : Nat}, i < 256 * c → HeapC.get (mrg c h A) i = HeapC.get h i := fun {i} hi => by show (mrg c h A).f i = h.f i; simp [mrg, hi]
  refine { mu := fun i m e => ?_, new := fun i e0 e1 => ?_, cle := Nat.le_refl _, rel := ?_, af := fun i e0 hi _ => ?_, os := hE.os, tape := hE.tape, output := hE.output, size := hE.size, fr := hE.fr, wrm := fun i m e hw => ?_, newb := fun i m e0 e1 => ?_, dd := fun i m e hd => ?_ }
  · rw [Mu.on_of (D := fun i => i < 256 * c) (lt e)]; exact hE.mu i m e
  · cases e2 : μ'.on (fun i => i < 256 * c) i with
    | none => exact absurd e2 e1
    | some m => rw [(old e2).2.2] at e0; cases e0
  · refine ⟨fun i m e => ?_, fun i j mi mj ei ej hne di dj hro => ?_, fun i m e => hE.rel.lt i m (old e).2.1⟩
    · obtain ⟨h1, h2, h3⟩ := old e
      rw [gm h1]
      have hb := hE.rel.blk i m h2
      rcases hg i h1 with a | a
      · have hb' := hR.blk i m h3
        have ha : HeapC.get h i = HeapC.get A i := a
        rw [ha] at hb ⊢
        exact hb.onS ⟨μ, m, w.heap, hb', fun j hj => by
          cases ej : μ j with
          | none => exact absurd ej hj
          | some mj => exact lt ej⟩
      · exact OkB.on hb a
    · obtain ⟨i1, i2, i3⟩ := old ei
      obtain ⟨j1, j2, j3⟩ := old ej
      rw [gm i1] at di hro
      rw [gm j1] at dj hro
      exact hE.rel.inj i j mi mj i2 j2 hne di dj hro
  · rw [gm hi]; exact hE.af i e0 hi (fun h => h)
  · rw [gm (lt e)] at hw; exact hE.wrm i m e hw
  · rw [(old e1).2.2] at e0; cases e0
  · rw [gm (lt e)]; exact hE.dd i m e hd
theorem gcCall {μ : Mu} {A : FH} {c : Nat} {w w' : World} {r : Rt FH} {e : Ending} (hR : R μ A w) (hf : Fresh μ c) (h : CallR μ A c w r e w') : CallR μ A c w (gcR A c [] r) e w' := by
  unfold gcR
  split
  · rename_i hg
    obtain ⟨v, v', μ', h1, h2, h3, h4⟩ := h
    refine ⟨v, v', _, h1, h2, ?_, gcExt h4 hR hf hg.2.2⟩
    exact (hg.1 v (by rw [h1]; simp)).on h3
  · exact h
noncomputable def gcS (sel : Key → Bool) (k : Key) (A : FH) (c : Nat) (df : List Nat) (r : Rt FH) : Rt FH := cond (sel k) (gcR A c df r) r
theorem gcS_e {sel : Key → Bool} {k : Key} {A : FH} {c : Nat} {df : List Nat} {r : Rt FH} : (gcS sel k A c df r).e = r.e := by unfold gcS; cases sel k <;> first | rfl | exact gcR_e
theorem gcS_vs {sel : Key → Bool} {k : Key} {A : FH} {c : Nat} {df : List Nat} {r : Rt FH} : (gcS sel k A c df r).vs = r.vs := by unfold gcS; cases sel k <;> first | rfl | exact gcR_vs
theorem gcS_df {sel : Key → Bool} {k : Key} {A : FH} {c : Nat} {df : List Nat} {r : Rt FH} : (gcS sel k A c df r).df = r.df := by unfold gcS; cases sel k <;> first | rfl | exact gcR_df
theorem gcSCall {sel : Key → Bool} {k : Key} {μ : Mu} {A : FH} {c : Nat} {w w' : World} {r : Rt FH} {e : Ending} (hR : R μ A w) (hf : Fresh μ c) (h : CallR μ A c w r e w') : CallR μ A c w (gcS sel k A c [] r) e w' := by
  unfold gcS
  cases sel k with
  | true => exact gcCall hR hf h
  | false => exact h
abbrev Fo (H : Type) := FuncId → List Value → H → Nat → Option (Rt H)
def FnOK (P : Program) (oc : Fo FH) : Prop :=
  ∀ (f : FuncId) (args : List Value) (A : FH) (c : Nat) (r : Rt FH), oc f args A c = some r →
    (∀ avs w, (callFunc f avs).run P w = .ok (.enter f avs) w) ∧
    ∀ (μ : Mu) (w : World) (args' : List Value), VRs μ args args' → R μ A w → Fresh μ c → Calls P f args'.toArray w (CallR μ A c w r)
noncomputable def answerG (P : Program) (bk : FuncId → Option AFun) (sel : Key → Bool) (ext : Fo FH) (o : Orc FH) : Orc FH
  | .fn f, args, h, c, df =>
    match ext f args h c with
    | some r => some r
    | none => (answer P bk o (.fn f) args h c df).bind fun r => some (gcS sel (.fn f) h c [] r)
  | .lp j lin fr b nt rd, vs, h, c, df =>
      (exec P o b { tm := tmOf lin vs, h := h, c := c, nt := nt, df := df, rd := rd }).bind fun r =>
        (vals r.2.tm lin).bind fun vs' =>
          match r.1 with
          | .normal => o (.lp j lin fr b nt rd) vs' (gcS sel (.lp j lin fr b nt rd) h c df { e := .normal, vs := vs', h := dropBs r.2.tm r.2.h fr, c := r.2.c, df := r.2.df }).h (gcS sel (.lp j lin fr b nt rd) h c df { e := .normal, vs := vs', h := dropBs r.2.tm r.2.h fr, c := r.2.c, df := r.2.df }).c r.2.df
          | e => some (gcS sel (.lp j lin fr b nt rd) h c df { e := e, vs := vs', h := dropBs r.2.tm r.2.h fr, c := r.2.c, df := r.2.df })
  | .rnd nt lin fr params l a b, vs, h, c, df => (answer P bk o (.rnd nt lin fr params l a b) vs h c df).bind fun r => some (gcS sel (.rnd nt lin fr params l a b) h c [] r)
theorem tmOf_val {t : Nat} {v : Value} : ∀ {l : List Nat} {vs : List Value}, tmOf l vs t = some v → v ∈ vs
  | [], vs, h => by simp [tmOf] at h
  | x :: l, [], h => by simp [tmOf] at h
  | x :: l, u :: vs, h => by
    simp only [tmOf] at h
    cases hq : Nat.beq t x with
    | true => rw [hq] at h; cases h; simp
    | false => rw [hq] at h; simp [tmOf_val h]
theorem DfR.lt {μ : Mu} {c : Nat} (hf : Fresh μ c) {ds : List Nat} {es : List Deferred} (h : DfR μ ds es) : ∀ i ∈ ds, i < 256 * c := by
  induction h with
  | nil => intro i hi; cases hi
  | @cons i m d ds es hm ht hs ih =>
    intro j hj
    rcases List.mem_cons.1 hj with rfl | hj
    · by_cases hi : j < 256 * c
      · exact hi
      · rw [hf j (by omega)] at hm; cases hm
    · exact ih j hj
theorem DfR.on {μ : Mu} {D : Nat → Prop} {ds : List Nat} {es : List Deferred} (h : DfR μ ds es) (hD : ∀ i ∈ ds, D i) : DfR (μ.on D) ds es := by
  induction h with
  | nil => exact .nil
  | cons hm ht _ ih => exact .cons (by rw [Mu.on_of (hD _ (by simp))]; exact hm) ht (ih fun i hi => hD i (by simp [hi]))
theorem LoopOK.stepG {bk : FuncId → Option AFun} {sel : Key → Bool} {ext : Fo FH} {o : Orc FH} {k : Nat} (hO : OS P o) (hL : LoopOK P o k) (hmix : P.follows .mixedOrders = true) : LoopOK P (answerG P bk sel ext o) (k + 1) := by
  intro j lin fr b nt rd vs A c df r e μ w a ro n Q ht hR hfr hrd hdf hQ
  simp only [answerG, Option.bind_eq_some_iff] at e
  obtain ⟨⟨ex, s1⟩, h1, vs', hvs', e⟩ := e
  refine exec_wp hO hL hmix h1 ht hR hfr hrd hdf fun a1 μ1 w1 ht1 hdf1 hE1 => ?_
  have hdrop := dropBs_ext (c := s1.c) ht1 fr s1.h hE1.rel
  have hE2 := hE1.trans0 hdrop
  have ht2 := ht1.sub (vals_tmOf hvs')
  have key : ∀ (ex : Ex) (Q' : Exit → Act → World → Prop),
      (∀ μ2, TmR μ2 (tmOf lin vs') nt a1.tmps → DfR μ2 s1.df a1.defers → Ext μ A c w (fun _ => False) μ2 (gcS sel (.lp j lin fr b nt rd) A c df { e := ex, vs := vs', h := dropBs s1.tm s1.h fr, c := s1.c, df := s1.df }).h
        (gcS sel (.lp j lin fr b nt rd) A c df { e := ex, vs := vs', h := dropBs s1.tm s1.h fr, c := s1.c, df := s1.df }).c w1 → Q' (exitOf ex) a1 w1) → Q' (exitOf ex) a1 w1 := by
    intro ex Q' hq
    by_cases hg : sel (.lp j lin fr b nt rd) = true ∧ GcOk A c df { e := ex, vs := vs', h := dropBs s1.tm s1.h fr, c := s1.c, df := s1.df }
    · refine hq (μ1.on (fun i => i < 256 * c)) ?_ ?_ ?_
      · refine ⟨ht2.size, fun t v hv => ?_⟩
        obtain ⟨v', h3, h4⟩ := ht2.val t v hv
        exact ⟨v', h3, (hg.2.1 v (tmOf_val hv)).on h4⟩
      · refine hdf1.on ?_
        have : s1.df = df := hg.2.2.1
        rw [this]
        exact hdf.lt hfr
      · unfold gcS gcR
        rw [hg.1, cond_true, if_pos hg.2]
        exact gcExt hE2 hR hfr hg.2.2.2
    · refine hq μ1 ht2 hdf1 ?_
      unfold gcS gcR
      cases hs : sel (.lp j lin fr b nt rd) with
      | false => exact hE2
      | true =>
        rw [cond_true, if_neg (fun h => hg ⟨hs, h⟩)]
        exact hE2
  cases ex with
  | normal =>
    refine key .normal (Exit.then (Code.roundsIn (wd ro) n P (strip b) Q k) Q) fun μ2 ht3 hdf3 hE3 => ?_
    exact hL _ _ _ _ _ _ _ _ _ _ _ e μ2 w1 a1 ro n Q ht3 hE3.rel (hE3.fresh hfr (fun _ h => h.elim)) (hrd.mono hE3.mu) hdf3 (fun a2 μ3 w2 h3 h4 h5 => hQ a2 μ3 w2 h3 h4 (hE3.trans0 h5))
  | exit id =>
    cases e
    refine key (.exit id) Q fun μ2 ht3 hdf3 hE3 => ?_
    exact hQ a1 μ2 w1 (by rw [gcS_vs]; exact ht3) (by rw [gcS_df]; exact hdf3) hE3 |> fun h => by rw [gcS_e] at h; exact h
  | ret =>
    cases e
    refine key .ret Q fun μ2 ht3 hdf3 hE3 => ?_
    exact hQ a1 μ2 w1 (by rw [gcS_vs]; exact ht3) (by rw [gcS_df]; exact hdf3) hE3 |> fun h => by rw [gcS_e] at h; exact h
theorem OS.stepG {bk : FuncId → Option AFun} {sel : Key → Bool} {ext : Fo FH} (hbk : BookOK P bk) (hext : FnOK P ext) {o : Orc FH} {k : Nat} (hO : OS P o) (hL : LoopOK P o k) (hmix : P.follows .mixedOrders = true) : OS P (answerG P bk sel ext o) where
  fn := by
    intro f args A c df r e
    simp only [answerG] at e
    cases he : ext f args A c with
    | some q =>
      rw [he] at e
      cases e
      exact hext f args A c _ he
    | none =>
      rw [he] at e
      simp only [Option.bind_eq_some_iff] at e
      obtain ⟨q, hq, e⟩ := e
      cases e
      obtain ⟨h1, h2⟩ := (OS.step hbk hO hL hmix).fn f args A c df q hq
      exact ⟨h1, fun μ w args' ha hR hf => (h2 μ w args' ha hR hf).mono fun e w' h => gcSCall hR hf h⟩
  rnd := by
    intro nt lin fr params l x y vs A c df r e μ w ts m ro n f hm ht hR hf
    simp only [answerG, Option.bind_eq_some_iff] at e
    obtain ⟨q, hq, e⟩ := e
    cases e
    exact ((OS.step hbk hO hL hmix).rnd nt lin fr params l x y vs A c df q hq μ w ts m ro n f hm ht hR hf).mono fun e w' h => gcSCall hR hf h
noncomputable def orcG (P : Program) (bk : FuncId → Option AFun) (sel : Key → Bool) (ext : Fo FH) : Nat → Orc FH
  | 0 => fun _ _ _ _ _ => none
  | n + 1 => answerG P bk sel ext (orcG P bk sel ext n)
theorem orcG_ok {bk : FuncId → Option AFun} {sel : Key → Bool} {ext : Fo FH} (hbk : BookOK P bk) (hext : FnOK P ext) (hmix : P.follows .mixedOrders = true) : ∀ n, OS P (orcG P bk sel ext n) ∧ LoopOK P (orcG P bk sel ext n) n
  | 0 => ⟨⟨(fun _ _ _ _ _ _ e => by cases e), (fun _ _ _ _ _ _ _ _ _ _ _ _ e => by cases e)⟩, fun _ _ _ _ _ _ _ _ _ _ _ e => by cases e⟩
  | n + 1 => ⟨OS.stepG hbk hext (orcG_ok (sel := sel) (ext := ext) hbk hext hmix n).1 (orcG_ok (sel := sel) (ext := ext) hbk hext hmix n).2 hmix, LoopOK.stepG (orcG_ok (sel := sel) (ext := ext) hbk hext hmix n).1 (orcG_ok (sel := sel) (ext := ext) hbk hext hmix n).2 hmix⟩
theorem answerG_ev {bk : FuncId → Option AFun} {sel : Key → Bool} {ext : Fo FH} {ox : Orc FH} {os : Nat → Orc FH} (hF : Fam ox os) : Fam (answerG P bk sel ext ox) (fun n => answerG P bk sel ext (os n)) := by
  intro k args h c df r e
  cases k with
  | fn f =>
    simp only [answerG] at e ⊢
    cases he : ext f args h c with
    | some q => rw [he] at e; exact Ev.const e
    | none =>
      rw [he] at e
      simp only [Option.bind_eq_some_iff] at e
      obtain ⟨q, hq, e⟩ := e
      exact Ev.bind (answer_ev hF _ _ _ _ _ _ hq) (Ev.const e)
  | rnd nt lin fr params l a b =>
    simp only [answerG, Option.bind_eq_some_iff] at e ⊢
    obtain ⟨q, hq, e⟩ := e
    exact Ev.bind (answer_ev hF _ _ _ _ _ _ hq) (Ev.const e)
  | lp j lin fr b nt rd =>
    simp only [answerG, Option.bind_eq_some_iff] at e ⊢
    obtain ⟨q, hq, vs, hv, e⟩ := e
    refine Ev.bind (exec_ev hF hq) (Ev.bindc hv ?_)
    cases hq1 : q.1 with
    | normal => rw [hq1] at e; exact hF _ _ _ _ _ _ e
    | exit id => rw [hq1] at e; exact Ev.const e
    | ret => rw [hq1] at e; exact Ev.const e
theorem orcG_succ_le {bk : FuncId → Option AFun} {sel : Key → Bool} {ext : Fo FH} : ∀ n k args h c df r, orcG P bk sel ext n k args h c df = some r → orcG P bk sel ext (n + 1) k args h c df = some r
  | 0, k, args, h, c, df, r, e => by cases e
  | n + 1, k, args, h, c, df, r, e => by
    have hF : Fam (orcG P bk sel ext n) (fun _ => orcG P bk sel ext (n + 1)) := fun k args h c df r e => Ev.const (orcG_succ_le n k args h c df r e)
    obtain ⟨m, hm⟩ := answerG_ev hF k args h c df r e
    exact hm m (Nat.le_refl _)
theorem orcG_le {bk : FuncId → Option AFun} {sel : Key → Bool} {ext : Fo FH} {n m : Nat} (hnm : n ≤ m) {k : Key} {args : List Value} {h : FH} {c : Nat} {df : List Nat} {r : Rt FH} (e : orcG P bk sel ext n k args h c df = some r) : orcG P bk sel ext m k args h c df = some r := by
  induction hnm with
  | refl => exact e
  | step _ ih => exact orcG_succ_le _ _ _ _ _ _ _ ih
open Classical in
noncomputable def runG (P : Program) (bk : FuncId → Option AFun) (sel : Key → Bool) (ext : Fo FH) : Orc FH := fun k args h c df =>
  if hx : ∃ n r, orcG P bk sel ext n k args h c df = some r then orcG P bk sel ext (Classical.choose hx) k args h c df else none
theorem runG_of {bk : FuncId → Option AFun} {sel : Key → Bool} {ext : Fo FH} {n : Nat} {k : Key} {args : List Value} {h : FH} {c : Nat} {df : List Nat} {r : Rt FH} (e : orcG P bk sel ext n k args h c df = some r) : runG P bk sel ext k args h c df = some r := by
  have hx : ∃ n r, orcG P bk sel ext n k args h c df = some r := ⟨n, r, e⟩
  unfold runG
  rw [dif_pos hx]
  obtain ⟨r', h'⟩ := Classical.choose_spec hx
  have h1 := orcG_le (Nat.le_max_left (Classical.choose hx) n) h'
  have h2 := orcG_le (Nat.le_max_right (Classical.choose hx) n) e
  rw [h1] at h2
  rw [h', h2]
theorem runG_some {bk : FuncId → Option AFun} {sel : Key → Bool} {ext : Fo FH} {k : Key} {args : List Value} {h : FH} {c : Nat} {df : List Nat} {r : Rt FH} (e : runG P bk sel ext k args h c df = some r) : ∃ n, orcG P bk sel ext n k args h c df = some r := by
  unfold runG at e
  split at e
  · exact ⟨_, e⟩
  · cases e
theorem runG_fam {bk : FuncId → Option AFun} {sel : Key → Bool} {ext : Fo FH} : Fam (runG P bk sel ext) (orcG P bk sel ext) := by
  intro k args h c df r e
  obtain ⟨n, hn⟩ := runG_some e
  exact ⟨n, fun m hm => orcG_le hm hn⟩
theorem runG_step {bk : FuncId → Option AFun} {sel : Key → Bool} {ext : Fo FH} {k : Key} {args : List Value} {h : FH} {c : Nat} {df : List Nat} {r : Rt FH} (e : answerG P bk sel ext (runG P bk sel ext) k args h c df = some r) : runG P bk sel ext k args h c df = some r := by
  obtain ⟨n, hn⟩ := answerG_ev (runG_fam (P := P) (bk := bk) (sel := sel) (ext := ext)) k args h c df r e
  exact runG_of (n := n + 1) (hn n (Nat.le_refl _))
theorem orcG_lp_length {bk : FuncId → Option AFun} {sel : Key → Bool} {ext : Fo FH} : ∀ n j lin fr b nt rd vs (h : FH) c df r, orcG P bk sel ext n (.lp j lin fr b nt rd) vs h c df = some r → r.vs.length = lin.length
  | 0, _, _, _, _, _, _, _, _, _, _, _, e => by cases e
  | n + 1, j, lin, fr, b, nt, rd, vs, h, c, df, r, e => by
    simp only [orcG, answerG, Option.bind_eq_some_iff] at e
    obtain ⟨q, hq, ws, hw, e⟩ := e
    cases hq1 : q.1 with
    | normal => rw [hq1] at e; exact orcG_lp_length n j lin fr b nt rd _ _ _ _ r e
    | exit id => rw [hq1] at e; cases e; rw [gcS_vs]; exact vals_length hw
    | ret => rw [hq1] at e; cases e; rw [gcS_vs]; exact vals_length hw
theorem runG_olen {bk : FuncId → Option AFun} {sel : Key → Bool} {ext : Fo FH} : OLen (runG P bk sel ext) := fun _ _ _ _ _ _ _ _ _ _ _ e => by
  obtain ⟨n, hn⟩ := runG_some e
  exact orcG_lp_length _ _ _ _ _ _ _ _ _ _ _ _ hn
theorem runG_calls {bk : FuncId → Option AFun} {sel : Key → Bool} {ext : Fo FH} (hbk : BookOK P bk) (hext : FnOK P ext) (hmix : P.follows .mixedOrders = true) {f : FuncId} {args args' : List Value} {A : FH} {c : Nat} {r : Rt FH} (e : runG P bk sel ext (.fn f) args A c [] = some r) {μ : Mu} {w : World}
    (hv : VRs μ args args') (hR : R μ A w) (hfr : Fresh μ c) : Calls P f args'.toArray w (CallR μ A c w r) := by
  obtain ⟨n, hn⟩ := runG_some e
  exact ((orcG_ok (sel := sel) (ext := ext) hbk hext hmix n).1.fn f args A c [] r hn).2 μ w args' hv hR hfr
theorem runG_fn {bk : FuncId → Option AFun} {sel : Key → Bool} {ext : Fo FH} {f : FuncId} {a : AFun} (ha : bk f = some a) (hfr : a.fr = []) (hxt : ∀ args h c, ext f args h c = none) {args : List Value} {h : FH} {c : Nat} {df : List Nat} {r : Rt FH} (hlen : Nat.ble args.length a.nt = true)
    (e : jx P (runG P bk sel ext) a.nt none a.code (tmOf (List.range args.length) args) h c [] (Kfn P a.res) = some r) : runG P bk sel ext (.fn f) args h c df = some (gcS sel (.fn f) h c [] r) := by
  refine runG_step ?_
  obtain ⟨e1, tm1, tm1', h1, c1, df1, hx, hl, hk⟩ := jx_sound runG_olen e (Tm.le_refl _)
  simp only [answerG, hxt, Option.bind_eq_some_iff]
  refine ⟨r, ?_, rfl⟩
  simp only [answer, ha, Option.bind_some, hlen, cond_true, hx, hfr, dropBs]
  cases e1 with
  | exit id => cases hk
  | normal =>
    simp only [Kfn, resK_eq, Option.bind_eq_some_iff] at hk ⊢
    obtain ⟨h2, ht, vs, hv, hk⟩ := hk
    exact ⟨h2, ht, vs, resOf_le hl hv, hk⟩
  | ret =>
    simp only [Kfn, resK_eq, Option.bind_eq_some_iff] at hk ⊢
    obtain ⟨h2, ht, vs, hv, hk⟩ := hk
    exact ⟨h2, ht, vs, resOf_le hl hv, hk⟩
theorem runG_lp_next {bk : FuncId → Option AFun} {sel : Key → Bool} {ext : Fo FH} {j nt : Nat} {lin : List Nat} {b : ACode} {rd : Option Nat} {vs : List Value} {h : FH} {c : Nat} {df : List Nat} {q r : Rt FH}
    (e : jx P (runG P bk sel ext) nt rd b (tmOf lin vs) h c df (Klp lin) = some q) (hq : q.e = .normal) (k : runG P bk sel ext (.lp j lin [] b nt rd) q.vs (gcS sel (.lp j lin [] b nt rd) h c df q).h (gcS sel (.lp j lin [] b nt rd) h c df q).c q.df = some r) : runG P bk sel ext (.lp j lin [] b nt rd) vs h c df = some r := by
  refine runG_step ?_
  obtain ⟨e1, tm1, tm1', h1, c1, df1, hx, hl, hk⟩ := jx_sound runG_olen e (Tm.le_refl _)
  simp only [Klp, Option.bind_eq_some_iff] at hk
  obtain ⟨ws, hw, hk⟩ := hk
  cases hk
  simp only at hq
  subst hq
  simp only [answerG, hx, Option.bind_some, vals_le hl hw, dropBs]
  exact k
theorem runG_lp_last {bk : FuncId → Option AFun} {sel : Key → Bool} {ext : Fo FH} {j nt : Nat} {lin : List Nat} {b : ACode} {rd : Option Nat} {vs : List Value} {h : FH} {c : Nat} {df : List Nat} {q : Rt FH}
    (e : jx P (runG P bk sel ext) nt rd b (tmOf lin vs) h c df (Klp lin) = some q) (hq : q.e ≠ .normal) : runG P bk sel ext (.lp j lin [] b nt rd) vs h c df = some (gcS sel (.lp j lin [] b nt rd) h c df q) := by
  refine runG_step ?_
  obtain ⟨e1, tm1, tm1', h1, c1, df1, hx, hl, hk⟩ := jx_sound runG_olen e (Tm.le_refl _)
  simp only [Klp, Option.bind_eq_some_iff] at hk
  obtain ⟨ws, hw, hk⟩ := hk
  cases hk
  simp only at hq
  simp only [answerG, hx, Option.bind_some, vals_le hl hw, dropBs]
theorem runG_rnd {bk : FuncId → Option AFun} {sel : Key → Bool} {ext : Fo FH} {nt l : Nat} {lin params : List Nat} {a b : ACode} {vs : List Value} {h : FH} {c : Nat} {df : List Nat} {r : Rt FH}
    (e : jx P (runG P bk sel ext) nt (some l) a (tmOf (params ++ lin) vs) h c [] (rndK P (runG P bk sel ext) nt l b) = some r) : runG P bk sel ext (.rnd nt lin [] params l a b) vs h c df = some (gcS sel (.rnd nt lin [] params l a b) h c [] r) := by
  refine runG_step ?_
  obtain ⟨e1, tm1, tm1', h1, c1, df1, hx, hl, hk⟩ := jx_sound runG_olen e (Tm.le_refl _)
  simp only [answerG, Option.bind_eq_some_iff]
  refine ⟨r, ?_, rfl⟩
  cases e1 with
  | exit id => cases hk
  | ret => cases hk
  | normal =>
    simp only [rndK, Option.bind_eq_some_iff] at hk
    obtain ⟨h2, hb, hk⟩ := hk
    obtain ⟨e3, tm3, tm3', h3, c3, df3, hx3, hl3, hk3⟩ := jx_sound runG_olen hk hl
    simp only [answer, hx, Option.bind_some, hb, hx3, dropBs]
    exact hk3
theorem runG_ext {bk : FuncId → Option AFun} {sel : Key → Bool} {ext : Fo FH} {f : FuncId} {args : List Value} {h : FH} {c : Nat} {df : List Nat} {r : Rt FH} (e : ext f args h c = some r) : runG P bk sel ext (.fn f) args h c df = some r := by
  refine runG_step ?_
  simp only [answerG, e]
theorem closed_ok {H : Type} [HeapC H] {bk : FuncId → Option AFun} (hbk : BookOK P bk) (hmix : P.follows .mixedOrders = true) {f : FuncId} {A0 : H} {r0 : Rt H} {b : Bool} (e : run P bk (.fn f) [] A0 0 [] = some r0) (hv : r0.vs = [.bool b])
    (A : FH) (c : Nat) (μ : Mu) (w : World) (args' : List Value) (ha : VRs μ [] args') (hR : R μ A w) (hf : Fresh μ c) : Calls P f args'.toArray w (CallR μ A c w { e := .ret, vs := [.bool b], h := A, c := c, df := [] }) := by
  have h0 : R (fun _ => none : Mu) A0 w := ⟨(fun i m e => by cases e), (fun i j mi mj ei => by cases ei), (fun i m e => by cases e)⟩
  have ha' : args' = [] := List.eq_nil_of_length_eq_zero ha.1.symm
  subst ha'
  refine (run_calls hbk hmix e (VRs.nil _) h0 (fun i hi => rfl)).mono ?_
  rintro en w' ⟨v, v', μ', h1, h2, h3, hE⟩
  rw [hv] at h1
  cases h1
  have h3' := h3.bool_left
  subst h3'
  have hfr : ∀ b, b < w.heap.size → w'.heap[b]? = w.heap[b]? := fun b hb => hE.fr b hb (fun i m e => (by cases e))
  refine ⟨_, _, μ, rfl, h2, .bool b, ?_⟩
  refine { mu := fun i m e => e, new := fun i e0 e1 => absurd e0 e1, cle := Nat.le_refl _, rel := ?_, af := fun i e0 hi _ => rfl, os := hE.os, tape := hE.tape, output := hE.output, size := hE.size, fr := fun b hb _ => hfr b hb, wrm := fun i m e hw => hw, newb := fun i m e0 e1 => (by rw [e0] at e1; cases e1), dd := fun i m e hd => hd }
  refine ⟨fun i m em => ?_, hR.inj, fun i m em => Nat.lt_of_lt_of_le (hR.lt i m em) hE.size⟩
  have hb := hR.blk i m em
  have hl := hR.lt i m em
  unfold BlkR at hb ⊢
  rw [hfr m.b hl]
  exact hb
end Go.Ab

namespace Go.Proofs.Ytcnndelmnobigaa
open Go Go.Ab Go.Proofs
set_option maxRecDepth 100000
set_option linter.unusedVariables false
variable {H : Type} [HeapC H]
noncomputable abbrev P := Try.prog
noncomputable def f5_b : Code := bodyOf Try.f5
noncomputable def f5_c5001 : ACode := (.seq (.seq (.region 15 (opsAt f5_b [1, 1, 1, 1, 1, 1, 1, 0, 1, 0, 0, 1, 0, 0, 1, 0, 1, 0, 0, 0, 0]) false) (.cond (.tmp 94) .skip (.exit 2))) (.seq (.block 3 (.region 17 (opsAt f5_b [1, 1, 1, 1, 1, 1, 1, 0, 1, 0, 0, 1, 0, 0, 1, 0, 1, 0, 0, 1, 0, 0]) true)) (.region 16 (opsAt f5_b [1, 1, 1, 1, 1, 1, 1, 0, 1, 0, 0, 1, 0, 0, 1, 0, 1, 0, 0, 1, 1]) false)))
noncomputable def f5_k5001 (rd : Option Nat) : Key := .lp 5001 [1, 2, 4, 5, 6, 8, 10, 12, 13, 14] [] f5_c5001 183 rd
noncomputable def f5_c5000 : ACode := (.seq (.seq (.region 11 (opsAt f5_b [1, 1, 1, 1, 1, 1, 1, 0, 1, 0, 0, 0, 0]) false) (.cond (.tmp 84) .skip (.exit 0))) (.seq (.block 1 (.seq (.region 13 (opsAt f5_b [1, 1, 1, 1, 1, 1, 1, 0, 1, 0, 0, 1, 0, 0, 0]) false) (.seq (.seq (.region 14 (opsAt f5_b [1, 1, 1, 1, 1, 1, 1, 0, 1, 0, 0, 1, 0, 0, 1, 0, 0]) false) (.block 2 (.loop 5001 [1, 2, 4, 5, 6, 8, 10, 12, 13, 14] [] [(.exit 2)] f5_c5001))) (.seq (.region 18 (opsAt f5_b [1, 1, 1, 1, 1, 1, 1, 0, 1, 0, 0, 1, 0, 0, 1, 1, 0]) false) (.cond (.tmp 116) (.seq (.region 19 (opsAt f5_b [1, 1, 1, 1, 1, 1, 1, 0, 1, 0, 0, 1, 0, 0, 1, 1, 1, 0, 0]) false) .ret) .skip))))) (.region 12 (opsAt f5_b [1, 1, 1, 1, 1, 1, 1, 0, 1, 0, 0, 1, 1]) false)))
noncomputable def f5_k5000 (rd : Option Nat) : Key := .lp 5000 [1, 2, 4, 5, 6, 8, 10, 12] [] f5_c5000 183 rd
noncomputable def f5_c5002 : ACode := (.seq (.seq (.region 25 (opsAt f5_b [1, 1, 1, 1, 1, 1, 1, 1, 1, 1, 1, 0, 1, 0, 0, 0, 0]) false) (.cond (.tmp 145) .skip (.exit 4))) (.seq (.block 5 (.seq (.region 27 (opsAt f5_b [1, 1, 1, 1, 1, 1, 1, 1, 1, 1, 1, 0, 1, 0, 0, 1, 0, 0, 0]) false) (.cond (.tmp 152) (.seq (.region 28 (opsAt f5_b [1, 1, 1, 1, 1, 1, 1, 1, 1, 1, 1, 0, 1, 0, 0, 1, 0, 0, 1, 0, 0]) false) .ret) .skip))) (.region 26 (opsAt f5_b [1, 1, 1, 1, 1, 1, 1, 1, 1, 1, 1, 0, 1, 0, 0, 1, 1]) false)))
noncomputable def f5_k5002 (rd : Option Nat) : Key := .lp 5002 [4, 6, 10, 16, 18] [] f5_c5002 183 rd
noncomputable def f5_c5003 : ACode := (.seq (.seq (.region 31 (opsAt f5_b [1, 1, 1, 1, 1, 1, 1, 1, 1, 1, 1, 1, 1, 0, 1, 0, 0, 0, 0]) false) (.cond (.tmp 156) .skip (.exit 6))) (.seq (.block 7 (.region 33 (opsAt f5_b [1, 1, 1, 1, 1, 1, 1, 1, 1, 1, 1, 1, 1, 0, 1, 0, 0, 1, 0, 0]) false)) (.region 32 (opsAt f5_b [1, 1, 1, 1, 1, 1, 1, 1, 1, 1, 1, 1, 1, 0, 1, 0, 0, 1, 1]) false)))
noncomputable def f5_k5003 (rd : Option Nat) : Key := .lp 5003 [4, 6, 10, 19, 20] [] f5_c5003 183 rd
noncomputable def f5_c5004 : ACode := (.seq (.seq (.region 35 (opsAt f5_b [1, 1, 1, 1, 1, 1, 1, 1, 1, 1, 1, 1, 1, 1, 0, 1, 0, 0, 0, 0]) false) (.cond (.tmp 173) .skip (.exit 8))) (.seq (.block 9 (.seq (.region 37 (opsAt f5_b [1, 1, 1, 1, 1, 1, 1, 1, 1, 1, 1, 1, 1, 1, 0, 1, 0, 0, 1, 0, 0, 0]) false) (.seq (.region 38 (opsAt f5_b [1, 1, 1, 1, 1, 1, 1, 1, 1, 1, 1, 1, 1, 1, 0, 1, 0, 0, 1, 0, 0, 1, 0]) false) (.cond (.tmp 182) (.seq (.region 39 (opsAt f5_b [1, 1, 1, 1, 1, 1, 1, 1, 1, 1, 1, 1, 1, 1, 0, 1, 0, 0, 1, 0, 0, 1, 1, 0, 0]) false) .ret) .skip)))) (.region 36 (opsAt f5_b [1, 1, 1, 1, 1, 1, 1, 1, 1, 1, 1, 1, 1, 1, 0, 1, 0, 0, 1, 1]) false)))
noncomputable def f5_k5004 (rd : Option Nat) : Key := .lp 5004 [4, 6, 19, 21] [] f5_c5004 183 rd
noncomputable def f5_c : ACode := (.seq (.region 0 (opsAt f5_b [0]) false) (.seq (.seq (.region 1 (opsAt f5_b [1, 0, 0]) false) (.cond (.tmp 23) (.seq (.region 2 (opsAt f5_b [1, 0, 1, 0, 0]) false) .ret) .skip)) (.seq (.seq (.region 3 (opsAt f5_b [1, 1, 0, 0]) false) (.cond (.tmp 38) (.seq (.region 4 (opsAt f5_b [1, 1, 0, 1, 0, 0]) false) .ret) .skip)) (.seq (.region 5 (opsAt f5_b [1, 1, 1, 0]) false) (.seq (.region 6 (opsAt f5_b [1, 1, 1, 1, 0]) false) (.seq (.region 7 (opsAt f5_b [1, 1, 1, 1, 1, 0]) false) (.seq (.seq (.region 8 (opsAt f5_b [1, 1, 1, 1, 1, 1, 0, 0]) false) (.cond (.tmp 80) (.seq (.region 9 (opsAt f5_b [1, 1, 1, 1, 1, 1, 0, 1, 0, 0]) false) .ret) .skip)) (.seq (.seq (.region 10 (opsAt f5_b [1, 1, 1, 1, 1, 1, 1, 0, 0]) false) (.block 0 (.loop 5000 [1, 2, 4, 5, 6, 8, 10, 12] [] [(.exit 0), .ret] f5_c5000))) (.seq (.region 20 (opsAt f5_b [1, 1, 1, 1, 1, 1, 1, 1, 0]) false) (.seq (.region 21 (opsAt f5_b [1, 1, 1, 1, 1, 1, 1, 1, 1, 0]) false) (.seq (.seq (.region 22 (opsAt f5_b [1, 1, 1, 1, 1, 1, 1, 1, 1, 1, 0, 0]) false) (.cond (.tmp 141) (.seq (.region 23 (opsAt f5_b [1, 1, 1, 1, 1, 1, 1, 1, 1, 1, 0, 1, 0, 0]) false) .ret) .skip)) (.seq (.seq (.region 24 (opsAt f5_b [1, 1, 1, 1, 1, 1, 1, 1, 1, 1, 1, 0, 0]) false) (.block 4 (.loop 5002 [4, 6, 10, 16, 18] [] [(.exit 4), .ret] f5_c5002))) (.seq (.region 29 (opsAt f5_b [1, 1, 1, 1, 1, 1, 1, 1, 1, 1, 1, 1, 0]) false) (.seq (.seq (.region 30 (opsAt f5_b [1, 1, 1, 1, 1, 1, 1, 1, 1, 1, 1, 1, 1, 0, 0]) false) (.block 6 (.loop 5003 [4, 6, 10, 19, 20] [] [(.exit 6)] f5_c5003))) (.seq (.seq (.region 34 (opsAt f5_b [1, 1, 1, 1, 1, 1, 1, 1, 1, 1, 1, 1, 1, 1, 0, 0]) false) (.block 8 (.loop 5004 [4, 6, 19, 21] [] [(.exit 8), .ret] f5_c5004))) (.seq (.region 40 (opsAt f5_b [1, 1, 1, 1, 1, 1, 1, 1, 1, 1, 1, 1, 1, 1, 1, 0]) false) .ret))))))))))))))))
noncomputable def f5_f : AFun := { code := f5_c, nt := 183, res := Try.f5.results.toList, fr := [] }
noncomputable def f11_b : Code := bodyOf Try.f11
noncomputable def f11_c : ACode := (.seq (.region 0 (opsAt f11_b [0]) false) (.seq (.region 1 (opsAt f11_b [1, 0]) false) (.seq (.region 2 (opsAt f11_b [1, 1, 0]) false) (.seq (.region 3 (opsAt f11_b [1, 1, 1, 0]) false) (.seq (.seq (.region 4 (opsAt f11_b [1, 1, 1, 1, 0, 0]) false) (.cond (.tmp 50) (.seq (.region 5 (opsAt f11_b [1, 1, 1, 1, 0, 1, 0, 0]) false) .ret) .skip)) (.seq (.region 6 (opsAt f11_b [1, 1, 1, 1, 1, 0]) true) (.seq (.region 7 (opsAt f11_b [1, 1, 1, 1, 1, 1, 0]) true) (.seq (.region 8 (opsAt f11_b [1, 1, 1, 1, 1, 1, 1, 0]) true) (.seq (.region 9 (opsAt f11_b [1, 1, 1, 1, 1, 1, 1, 1, 0]) false) (.seq (.region 10 (opsAt f11_b [1, 1, 1, 1, 1, 1, 1, 1, 1, 0]) false) (.seq (.seq (.region 11 (opsAt f11_b [1, 1, 1, 1, 1, 1, 1, 1, 1, 1, 0, 0]) false) (.cond (.tmp 128) (.seq (.region 12 (opsAt f11_b [1, 1, 1, 1, 1, 1, 1, 1, 1, 1, 0, 1, 0, 0]) false) .ret) .skip)) (.seq (.region 13 (opsAt f11_b [1, 1, 1, 1, 1, 1, 1, 1, 1, 1, 1, 0]) false) (.seq (.region 14 (opsAt f11_b [1, 1, 1, 1, 1, 1, 1, 1, 1, 1, 1, 1, 0]) false) (.seq (.region 15 (opsAt f11_b [1, 1, 1, 1, 1, 1, 1, 1, 1, 1, 1, 1, 1, 0]) false) .ret))))))))))))))
noncomputable def f11_f : AFun := { code := f11_c, nt := 175, res := Try.f11.results.toList, fr := [] }
noncomputable def f12_b : Code := bodyOf Try.f12
noncomputable def f12_c : ACode := (.seq (.region 0 (opsAt f12_b [0]) false) (.seq (.region 1 (opsAt f12_b [1, 0]) false) .ret))
noncomputable def f12_f : AFun := { code := f12_c, nt := 7, res := Try.f12.results.toList, fr := [] }
noncomputable def f13_b : Code := bodyOf Try.f13
noncomputable def f13_c13001 : ACode := (.seq (.seq (.region 8 (opsAt f13_b [1, 1, 1, 0, 1, 0, 0, 1, 0, 0, 1, 0, 0, 0, 0]) false) (.cond (.tmp 18) .skip (.exit 2))) (.seq (.join [(.normal, [1, 2, 3, 4, 5]), (.ret, [1, 2, 3, 4, 5])] (.block 3 (.seq (.region 10 (opsAt f13_b [1, 1, 1, 0, 1, 0, 0, 1, 0, 0, 1, 0, 0, 1, 0, 0, 0]) false) (.seq (.seq (.region 11 (opsAt f13_b [1, 1, 1, 0, 1, 0, 0, 1, 0, 0, 1, 0, 0, 1, 0, 0, 1, 0, 0]) false) (.cond (.tmp 36) (.exit 3) .skip)) (.seq (.seq (.region 12 (opsAt f13_b [1, 1, 1, 0, 1, 0, 0, 1, 0, 0, 1, 0, 0, 1, 0, 0, 1, 1, 0, 0]) false) (.cond (.tmp 65) (.seq (.region 13 (opsAt f13_b [1, 1, 1, 0, 1, 0, 0, 1, 0, 0, 1, 0, 0, 1, 0, 0, 1, 1, 0, 1, 0, 0]) false) .ret) .skip)) (.seq (.region 14 (opsAt f13_b [1, 1, 1, 0, 1, 0, 0, 1, 0, 0, 1, 0, 0, 1, 0, 0, 1, 1, 1, 0]) true) (.cond (.tmp 82) (.seq (.region 15 (opsAt f13_b [1, 1, 1, 0, 1, 0, 0, 1, 0, 0, 1, 0, 0, 1, 0, 0, 1, 1, 1, 1, 0, 0]) false) .ret) .skip))))))) (.region 9 (opsAt f13_b [1, 1, 1, 0, 1, 0, 0, 1, 0, 0, 1, 0, 0, 1, 1]) false)))
noncomputable def f13_k13001 (rd : Option Nat) : Key := .lp 13001 [1, 2, 3, 4, 5] [] f13_c13001 83 rd
noncomputable def f13_c13000 : ACode := (.seq (.seq (.region 5 (opsAt f13_b [1, 1, 1, 0, 1, 0, 0, 0, 0]) false) (.cond (.tmp 14) .skip (.exit 0))) (.seq (.block 1 (.seq (.region 7 (opsAt f13_b [1, 1, 1, 0, 1, 0, 0, 1, 0, 0, 0]) false) (.block 2 (.loop 13001 [1, 2, 3, 4, 5] [] [(.exit 2), .ret] f13_c13001)))) (.region 6 (opsAt f13_b [1, 1, 1, 0, 1, 0, 0, 1, 1]) false)))
noncomputable def f13_k13000 (rd : Option Nat) : Key := .lp 13000 [1, 2, 3, 4] [] f13_c13000 83 rd
noncomputable def f13_c : ACode := (.seq (.region 0 (opsAt f13_b [0]) false) (.seq (.region 1 (opsAt f13_b [1, 0]) false) (.seq (.seq (.region 2 (opsAt f13_b [1, 1, 0, 0]) false) (.cond (.tmp 11) (.seq (.region 3 (opsAt f13_b [1, 1, 0, 1, 0, 0]) false) .ret) .skip)) (.seq (.seq (.region 4 (opsAt f13_b [1, 1, 1, 0, 0]) false) (.block 0 (.loop 13000 [1, 2, 3, 4] [] [(.exit 0), .ret] f13_c13000))) (.seq (.region 16 (opsAt f13_b [1, 1, 1, 1, 0]) false) .ret)))))
noncomputable def f13_f : AFun := { code := f13_c, nt := 83, res := Try.f13.results.toList, fr := [] }
noncomputable def f14_b : Code := bodyOf Try.f14
noncomputable def f14_c14001 : ACode := (.seq (.region 11 (opsAt f14_b [1, 1, 1, 1, 0, 1, 0, 0, 1, 1, 0, 0, 1, 1, 0, 1, 0, 0, 0]) false) (.seq (.cond (.tmp 44) .skip (.exit 2)) (.seq (.block 3 (.seq (.region 12 (opsAt f14_b [1, 1, 1, 1, 0, 1, 0, 0, 1, 1, 0, 0, 1, 1, 0, 1, 0, 0, 1, 1, 0, 0, 0]) false) (.seq (.region 13 (opsAt f14_b [1, 1, 1, 1, 0, 1, 0, 0, 1, 1, 0, 0, 1, 1, 0, 1, 0, 0, 1, 1, 0, 0, 1, 0]) false) (.join [(.normal, [1, 5, 7, 9, 10, 26, 27, 28, 42, 43])] (.cond (.tmp 52) (.region 14 (opsAt f14_b [1, 1, 1, 1, 0, 1, 0, 0, 1, 1, 0, 0, 1, 1, 0, 1, 0, 0, 1, 1, 0, 0, 1, 1, 0]) false) .skip))))) (.region 15 (opsAt f14_b [1, 1, 1, 1, 0, 1, 0, 0, 1, 1, 0, 0, 1, 1, 0, 1, 0, 0, 1, 1, 1]) false))))
noncomputable def f14_k14001 (rd : Option Nat) : Key := .lp 14001 [1, 5, 7, 9, 10, 26, 27, 28, 42, 43] [] f14_c14001 68 rd
noncomputable def f14_c14000 : ACode := (.seq (.region 7 (opsAt f14_b [1, 1, 1, 1, 0, 1, 0, 0, 0]) false) (.seq (.cond (.tmp 29) .skip (.exit 0)) (.seq (.block 1 (.seq (.region 8 (opsAt f14_b [1, 1, 1, 1, 0, 1, 0, 0, 1, 1, 0, 0, 0]) false) (.seq (.region 9 (opsAt f14_b [1, 1, 1, 1, 0, 1, 0, 0, 1, 1, 0, 0, 1, 0]) false) (.seq (.seq (.region 10 (opsAt f14_b [1, 1, 1, 1, 0, 1, 0, 0, 1, 1, 0, 0, 1, 1, 0, 0]) false) (.block 2 (.loop 14001 [1, 5, 7, 9, 10, 26, 27, 28, 42, 43] [] [(.exit 2)] f14_c14001))) (.region 16 (opsAt f14_b [1, 1, 1, 1, 0, 1, 0, 0, 1, 1, 0, 0, 1, 1, 1]) false))))) (.region 17 (opsAt f14_b [1, 1, 1, 1, 0, 1, 0, 0, 1, 1, 1]) false))))
noncomputable def f14_k14000 (rd : Option Nat) : Key := .lp 14000 [1, 5, 7, 26, 27, 28] [] f14_c14000 68 rd
noncomputable def f14_c : ACode := (.seq (.region 0 (opsAt f14_b [0]) false) (.seq (.seq (.region 1 (opsAt f14_b [1, 0, 0]) false) (.seq (.region 2 (opsAt f14_b [1, 0, 1, 0]) false) (.cond (.tmp 15) (.seq (.region 3 (opsAt f14_b [1, 0, 1, 1, 0, 0]) false) .ret) .skip))) (.seq (.region 4 (opsAt f14_b [1, 1, 0]) false) (.seq (.region 5 (opsAt f14_b [1, 1, 1, 0]) false) (.seq (.seq (.region 6 (opsAt f14_b [1, 1, 1, 1, 0, 0]) false) (.block 0 (.loop 14000 [1, 5, 7, 26, 27, 28] [] [(.exit 0)] f14_c14000))) (.seq (.region 18 (opsAt f14_b [1, 1, 1, 1, 1, 0]) false) .ret))))))
noncomputable def f14_f : AFun := { code := f14_c, nt := 68, res := Try.f14.results.toList, fr := [] }
noncomputable def f15_b : Code := bodyOf Try.f15
noncomputable def f15_c15002 : ACode := (.seq (.region 13 (opsAt f15_b [1, 1, 1, 0, 1, 0, 0, 1, 1, 0, 0, 1, 1, 0, 0, 1, 1, 0, 0, 1, 1, 1, 0, 0, 0]) false) (.seq (.cond (.tmp 64) .skip (.exit 4)) (.seq (.block 5 (.seq (.region 14 (opsAt f15_b [1, 1, 1, 0, 1, 0, 0, 1, 1, 0, 0, 1, 1, 0, 0, 1, 1, 0, 0, 1, 1, 1, 0, 0, 1, 1, 0, 0, 0]) false) (.seq (.region 15 (opsAt f15_b [1, 1, 1, 0, 1, 0, 0, 1, 1, 0, 0, 1, 1, 0, 0, 1, 1, 0, 0, 1, 1, 1, 0, 0, 1, 1, 0, 0, 1, 0]) false) (.join [(.normal, [1, 7, 8, 10, 28, 29, 30, 35, 36, 63])] (.cond (.tmp 68) (.region 16 (opsAt f15_b [1, 1, 1, 0, 1, 0, 0, 1, 1, 0, 0, 1, 1, 0, 0, 1, 1, 0, 0, 1, 1, 1, 0, 0, 1, 1, 0, 0, 1, 1, 0]) false) .skip))))) (.region 17 (opsAt f15_b [1, 1, 1, 0, 1, 0, 0, 1, 1, 0, 0, 1, 1, 0, 0, 1, 1, 0, 0, 1, 1, 1, 0, 0, 1, 1, 1]) false))))
noncomputable def f15_k15002 (rd : Option Nat) : Key := .lp 15002 [1, 7, 8, 10, 28, 29, 30, 35, 36, 63] [] f15_c15002 80 rd
noncomputable def f15_c15001 : ACode := (.seq (.region 9 (opsAt f15_b [1, 1, 1, 0, 1, 0, 0, 1, 1, 0, 0, 1, 1, 0, 0, 0]) false) (.seq (.cond (.tmp 37) .skip (.exit 2)) (.seq (.join [(.normal, [1, 7, 8, 28, 29, 30, 35, 36])] (.block 3 (.seq (.region 10 (opsAt f15_b [1, 1, 1, 0, 1, 0, 0, 1, 1, 0, 0, 1, 1, 0, 0, 1, 1, 0, 0, 0]) false) (.seq (.seq (.region 11 (opsAt f15_b [1, 1, 1, 0, 1, 0, 0, 1, 1, 0, 0, 1, 1, 0, 0, 1, 1, 0, 0, 1, 0, 0]) false) (.cond (.tmp 62) (.exit 3) .skip)) (.seq (.region 12 (opsAt f15_b [1, 1, 1, 0, 1, 0, 0, 1, 1, 0, 0, 1, 1, 0, 0, 1, 1, 0, 0, 1, 1, 0]) false) (.block 4 (.loop 15002 [1, 7, 8, 10, 28, 29, 30, 35, 36, 63] [] [(.exit 4)] f15_c15002))))))) (.region 18 (opsAt f15_b [1, 1, 1, 0, 1, 0, 0, 1, 1, 0, 0, 1, 1, 0, 0, 1, 1, 1]) false))))
noncomputable def f15_k15001 (rd : Option Nat) : Key := .lp 15001 [1, 7, 8, 28, 29, 30, 35, 36] [] f15_c15001 80 rd
noncomputable def f15_c15000 : ACode := (.seq (.region 6 (opsAt f15_b [1, 1, 1, 0, 1, 0, 0, 0]) false) (.seq (.cond (.tmp 31) .skip (.exit 0)) (.seq (.block 1 (.seq (.region 7 (opsAt f15_b [1, 1, 1, 0, 1, 0, 0, 1, 1, 0, 0, 0]) false) (.seq (.region 8 (opsAt f15_b [1, 1, 1, 0, 1, 0, 0, 1, 1, 0, 0, 1, 0]) false) (.block 2 (.loop 15001 [1, 7, 8, 28, 29, 30, 35, 36] [] [(.exit 2)] f15_c15001))))) (.region 19 (opsAt f15_b [1, 1, 1, 0, 1, 0, 0, 1, 1, 1]) false))))
noncomputable def f15_k15000 (rd : Option Nat) : Key := .lp 15000 [1, 7, 28, 29, 30] [] f15_c15000 80 rd
noncomputable def f15_c : ACode := (.seq (.region 0 (opsAt f15_b [0]) false) (.seq (.seq (.region 1 (opsAt f15_b [1, 0, 0]) false) (.seq (.region 2 (opsAt f15_b [1, 0, 1, 0]) false) (.cond (.tmp 18) (.seq (.region 3 (opsAt f15_b [1, 0, 1, 1, 0, 0]) false) .ret) .skip))) (.seq (.region 4 (opsAt f15_b [1, 1, 0]) false) (.seq (.seq (.region 5 (opsAt f15_b [1, 1, 1, 0, 0]) false) (.block 0 (.loop 15000 [1, 7, 28, 29, 30] [] [(.exit 0)] f15_c15000))) (.seq (.region 20 (opsAt f15_b [1, 1, 1, 1, 0]) false) .ret)))))
noncomputable def f15_f : AFun := { code := f15_c, nt := 80, res := Try.f15.results.toList, fr := [] }
noncomputable def f16_b : Code := bodyOf Try.f16
noncomputable def f16_c : ACode := (.seq (.region 0 (opsAt f16_b [0]) false) (.seq (.seq (.region 1 (opsAt f16_b [1, 0, 0]) false) (.seq (.region 2 (opsAt f16_b [1, 0, 1, 0]) false) (.cond (.tmp 12) (.seq (.region 3 (opsAt f16_b [1, 0, 1, 1, 0, 0]) false) .ret) .skip))) (.seq (.region 4 (opsAt f16_b [1, 1, 0]) false) .ret)))
noncomputable def f16_f : AFun := { code := f16_c, nt := 17, res := Try.f16.results.toList, fr := [] }
noncomputable def f17_b : Code := bodyOf Try.f17
noncomputable def f17_c : ACode := (.seq (.region 0 (opsAt f17_b [0]) false) (.seq (.region 1 (opsAt f17_b [1, 0]) false) .ret))
noncomputable def f17_f : AFun := { code := f17_c, nt := 9, res := Try.f17.results.toList, fr := [] }
noncomputable def f18_b : Code := bodyOf Try.f18
noncomputable def f18_c18000 : ACode := (.seq (.seq (.region 2 (opsAt f18_b [1, 0, 1, 0, 0, 0, 0]) false) (.cond (.tmp 7) .skip (.exit 0))) (.seq (.block 1 (.seq (.region 4 (opsAt f18_b [1, 0, 1, 0, 0, 1, 0, 0, 0]) false) (.cond (.tmp 15) (.seq (.region 5 (opsAt f18_b [1, 0, 1, 0, 0, 1, 0, 0, 1, 0, 0]) false) .ret) .skip))) (.region 3 (opsAt f18_b [1, 0, 1, 0, 0, 1, 1]) false)))
noncomputable def f18_k18000 (rd : Option Nat) : Key := .lp 18000 [0, 2, 3] [] f18_c18000 16 rd
noncomputable def f18_c : ACode := (.seq (.region 0 (opsAt f18_b [0]) false) (.seq (.seq (.region 1 (opsAt f18_b [1, 0, 0]) false) (.block 0 (.loop 18000 [0, 2, 3] [] [(.exit 0), .ret] f18_c18000))) (.seq (.region 6 (opsAt f18_b [1, 1, 0]) false) .ret)))
noncomputable def f18_f : AFun := { code := f18_c, nt := 16, res := Try.f18.results.toList, fr := [] }
noncomputable def f21_b : Code := bodyOf Try.f21
noncomputable def f21_c21000 : ACode := (.seq (.seq (.region 4 (opsAt f21_b [1, 1, 0, 1, 0, 0, 0, 0]) false) (.cond (.tmp 14) .skip (.exit 0))) (.seq (.block 1 (.seq (.region 6 (opsAt f21_b [1, 1, 0, 1, 0, 0, 1, 0, 0, 0]) true) (.cond (.tmp 25) (.seq (.region 7 (opsAt f21_b [1, 1, 0, 1, 0, 0, 1, 0, 0, 1, 0, 0]) false) .ret) .skip))) (.region 5 (opsAt f21_b [1, 1, 0, 1, 0, 0, 1, 1]) false)))
noncomputable def f21_k21000 (rd : Option Nat) : Key := .lp 21000 [0, 1, 4, 5] [] f21_c21000 26 rd
noncomputable def f21_c : ACode := (.seq (.region 0 (opsAt f21_b [0]) false) (.seq (.seq (.region 1 (opsAt f21_b [1, 0, 0]) false) (.cond (.tmp 10) (.seq (.region 2 (opsAt f21_b [1, 0, 1, 0, 0]) false) .ret) .skip)) (.seq (.seq (.region 3 (opsAt f21_b [1, 1, 0, 0]) false) (.block 0 (.loop 21000 [0, 1, 4, 5] [] [(.exit 0), .ret] f21_c21000))) (.seq (.region 8 (opsAt f21_b [1, 1, 1, 0]) false) .ret))))
noncomputable def f21_f : AFun := { code := f21_c, nt := 26, res := Try.f21.results.toList, fr := [] }
noncomputable def f23_b : Code := bodyOf Try.f23
noncomputable def f23_c23001 : ACode := (.seq (.region 12 (opsAt f23_b [1, 1, 1, 1, 1, 0, 1, 0, 0, 1, 1, 0, 0, 1, 1, 0, 1, 0, 0, 0]) false) (.seq (.cond (.tmp 55) .skip (.exit 2)) (.seq (.block 3 (.seq (.region 13 (opsAt f23_b [1, 1, 1, 1, 1, 0, 1, 0, 0, 1, 1, 0, 0, 1, 1, 0, 1, 0, 0, 1, 1, 0, 0, 0]) false) (.seq (.region 14 (opsAt f23_b [1, 1, 1, 1, 1, 0, 1, 0, 0, 1, 1, 0, 0, 1, 1, 0, 1, 0, 0, 1, 1, 0, 0, 1, 0]) false) (.join [(.normal, [1, 4, 5, 8, 11, 12, 33, 34, 35, 53, 54])] (.cond (.tmp 63) (.region 15 (opsAt f23_b [1, 1, 1, 1, 1, 0, 1, 0, 0, 1, 1, 0, 0, 1, 1, 0, 1, 0, 0, 1, 1, 0, 0, 1, 1, 0]) false) .skip))))) (.region 16 (opsAt f23_b [1, 1, 1, 1, 1, 0, 1, 0, 0, 1, 1, 0, 0, 1, 1, 0, 1, 0, 0, 1, 1, 1]) false))))
noncomputable def f23_k23001 (rd : Option Nat) : Key := .lp 23001 [1, 4, 5, 8, 11, 12, 33, 34, 35, 53, 54] [] f23_c23001 112 rd
noncomputable def f23_c23002 : ACode := (.seq (.region 18 (opsAt f23_b [1, 1, 1, 1, 1, 0, 1, 0, 0, 1, 1, 0, 0, 1, 1, 1, 0, 1, 0, 0, 0]) false) (.seq (.cond (.tmp 83) .skip (.exit 4)) (.seq (.block 5 (.seq (.region 19 (opsAt f23_b [1, 1, 1, 1, 1, 0, 1, 0, 0, 1, 1, 0, 0, 1, 1, 1, 0, 1, 0, 0, 1, 1, 0, 0, 0]) false) (.seq (.region 20 (opsAt f23_b [1, 1, 1, 1, 1, 0, 1, 0, 0, 1, 1, 0, 0, 1, 1, 1, 0, 1, 0, 0, 1, 1, 0, 0, 1, 0]) false) (.join [(.normal, [1, 4, 5, 8, 11, 12, 33, 34, 35, 81, 82])] (.cond (.tmp 91) (.region 21 (opsAt f23_b [1, 1, 1, 1, 1, 0, 1, 0, 0, 1, 1, 0, 0, 1, 1, 1, 0, 1, 0, 0, 1, 1, 0, 0, 1, 1, 0]) false) .skip))))) (.region 22 (opsAt f23_b [1, 1, 1, 1, 1, 0, 1, 0, 0, 1, 1, 0, 0, 1, 1, 1, 0, 1, 0, 0, 1, 1, 1]) false))))
noncomputable def f23_k23002 (rd : Option Nat) : Key := .lp 23002 [1, 4, 5, 8, 11, 12, 33, 34, 35, 81, 82] [] f23_c23002 112 rd
noncomputable def f23_c23000 : ACode := (.seq (.region 8 (opsAt f23_b [1, 1, 1, 1, 1, 0, 1, 0, 0, 0]) false) (.seq (.cond (.tmp 36) .skip (.exit 0)) (.seq (.block 1 (.seq (.region 9 (opsAt f23_b [1, 1, 1, 1, 1, 0, 1, 0, 0, 1, 1, 0, 0, 0]) false) (.seq (.region 10 (opsAt f23_b [1, 1, 1, 1, 1, 0, 1, 0, 0, 1, 1, 0, 0, 1, 0]) false) (.seq (.seq (.region 11 (opsAt f23_b [1, 1, 1, 1, 1, 0, 1, 0, 0, 1, 1, 0, 0, 1, 1, 0, 0]) false) (.block 2 (.loop 23001 [1, 4, 5, 8, 11, 12, 33, 34, 35, 53, 54] [] [(.exit 2)] f23_c23001))) (.seq (.seq (.region 17 (opsAt f23_b [1, 1, 1, 1, 1, 0, 1, 0, 0, 1, 1, 0, 0, 1, 1, 1, 0, 0]) false) (.block 4 (.loop 23002 [1, 4, 5, 8, 11, 12, 33, 34, 35, 81, 82] [] [(.exit 4)] f23_c23002))) (.region 23 (opsAt f23_b [1, 1, 1, 1, 1, 0, 1, 0, 0, 1, 1, 0, 0, 1, 1, 1, 1]) false)))))) (.region 24 (opsAt f23_b [1, 1, 1, 1, 1, 0, 1, 0, 0, 1, 1, 1]) false))))
noncomputable def f23_k23000 (rd : Option Nat) : Key := .lp 23000 [1, 4, 5, 8, 33, 34, 35] [] f23_c23000 112 rd
noncomputable def f23_c : ACode := (.seq (.region 0 (opsAt f23_b [0]) false) (.seq (.seq (.region 1 (opsAt f23_b [1, 0, 0]) false) (.seq (.region 2 (opsAt f23_b [1, 0, 1, 0]) false) (.cond (.tmp 20) (.seq (.region 3 (opsAt f23_b [1, 0, 1, 1, 0, 0]) false) .ret) .skip))) (.seq (.region 4 (opsAt f23_b [1, 1, 0]) false) (.seq (.region 5 (opsAt f23_b [1, 1, 1, 0]) false) (.seq (.region 6 (opsAt f23_b [1, 1, 1, 1, 0]) false) (.seq (.seq (.region 7 (opsAt f23_b [1, 1, 1, 1, 1, 0, 0]) false) (.block 0 (.loop 23000 [1, 4, 5, 8, 33, 34, 35] [] [(.exit 0)] f23_c23000))) (.seq (.region 25 (opsAt f23_b [1, 1, 1, 1, 1, 1, 0]) false) .ret)))))))
noncomputable def f23_f : AFun := { code := f23_c, nt := 112, res := Try.f23.results.toList, fr := [] }
noncomputable def f24_b : Code := bodyOf Try.f24
noncomputable def f24_c : ACode := (.seq (.region 0 (opsAt f24_b [0]) false) (.seq (.seq (.region 1 (opsAt f24_b [1, 0, 0]) false) (.seq (.region 2 (opsAt f24_b [1, 0, 1, 0]) false) (.cond (.tmp 12) (.seq (.region 3 (opsAt f24_b [1, 0, 1, 1, 0, 0]) false) .ret) .skip))) (.seq (.region 4 (opsAt f24_b [1, 1, 0]) false) .ret)))
noncomputable def f24_f : AFun := { code := f24_c, nt := 17, res := Try.f24.results.toList, fr := [] }
noncomputable def f25_b : Code := bodyOf Try.f25
noncomputable def f25_c25000 : ACode := (.seq (.region 7 (opsAt f25_b [1, 1, 1, 0, 1, 0, 0, 0]) false) (.seq (.cond (.tmp 31) .skip (.exit 0)) (.seq (.block 1 (.seq (.region 8 (opsAt f25_b [1, 1, 1, 0, 1, 0, 0, 1, 1, 0, 0, 0]) false) (.seq (.region 9 (opsAt f25_b [1, 1, 1, 0, 1, 0, 0, 1, 1, 0, 0, 1, 0]) false) (.cond (.tmp 41) (.seq (.region 10 (opsAt f25_b [1, 1, 1, 0, 1, 0, 0, 1, 1, 0, 0, 1, 1, 0, 0]) false) .ret) .skip)))) (.region 11 (opsAt f25_b [1, 1, 1, 0, 1, 0, 0, 1, 1, 1]) false))))
noncomputable def f25_k25000 (rd : Option Nat) : Key := .lp 25000 [1, 2, 4, 5, 29, 30] [] f25_c25000 52 rd
noncomputable def f25_c : ACode := (.seq (.region 0 (opsAt f25_b [0]) false) (.seq (.seq (.region 1 (opsAt f25_b [1, 0, 0]) false) (.seq (.region 2 (opsAt f25_b [1, 0, 1, 0]) false) (.cond (.tmp 13) (.seq (.region 3 (opsAt f25_b [1, 0, 1, 1, 0, 0]) false) .ret) .skip))) (.seq (.seq (.region 4 (opsAt f25_b [1, 1, 0, 0]) false) (.cond (.tmp 26) (.seq (.region 5 (opsAt f25_b [1, 1, 0, 1, 0, 0]) false) .ret) .skip)) (.seq (.seq (.region 6 (opsAt f25_b [1, 1, 1, 0, 0]) false) (.block 0 (.loop 25000 [1, 2, 4, 5, 29, 30] [] [(.exit 0), .ret] f25_c25000))) (.seq (.region 12 (opsAt f25_b [1, 1, 1, 1, 0]) false) (.seq (.seq (.region 13 (opsAt f25_b [1, 1, 1, 1, 1, 0, 0]) false) (.cond (.tmp 50) (.seq (.region 14 (opsAt f25_b [1, 1, 1, 1, 1, 0, 1, 0, 0]) false) .ret) .skip)) (.seq (.region 15 (opsAt f25_b [1, 1, 1, 1, 1, 1, 0]) false) .ret)))))))
noncomputable def f25_f : AFun := { code := f25_c, nt := 52, res := Try.f25.results.toList, fr := [] }
noncomputable def f40_b : Code := bodyOf Try.f40
noncomputable def f40_c40002 : ACode := (.seq (.seq (.region 28 (opsAt f40_b [1, 1, 1, 1, 1, 1, 1, 1, 0, 1, 0, 0, 1, 0, 0, 1, 0, 1, 0, 0, 1, 0, 0, 1, 1, 1, 1, 1, 0, 1, 0, 0, 0, 0]) false) (.cond (.tmp 92) .skip (.exit 4))) (.seq (.block 5 (.seq (.region 30 (opsAt f40_b [1, 1, 1, 1, 1, 1, 1, 1, 0, 1, 0, 0, 1, 0, 0, 1, 0, 1, 0, 0, 1, 0, 0, 1, 1, 1, 1, 1, 0, 1, 0, 0, 1, 0, 0, 0]) false) (.seq (.seq (.region 31 (opsAt f40_b [1, 1, 1, 1, 1, 1, 1, 1, 0, 1, 0, 0, 1, 0, 0, 1, 0, 1, 0, 0, 1, 0, 0, 1, 1, 1, 1, 1, 0, 1, 0, 0, 1, 0, 0, 1, 0, 0]) false) (.cond (.tmp 107) (.seq (.region 32 (opsAt f40_b [1, 1, 1, 1, 1, 1, 1, 1, 0, 1, 0, 0, 1, 0, 0, 1, 0, 1, 0, 0, 1, 0, 0, 1, 1, 1, 1, 1, 0, 1, 0, 0, 1, 0, 0, 1, 0, 1, 0, 0]) false) .ret) .skip)) (.region 33 (opsAt f40_b [1, 1, 1, 1, 1, 1, 1, 1, 0, 1, 0, 0, 1, 0, 0, 1, 0, 1, 0, 0, 1, 0, 0, 1, 1, 1, 1, 1, 0, 1, 0, 0, 1, 0, 0, 1, 1]) false)))) (.region 29 (opsAt f40_b [1, 1, 1, 1, 1, 1, 1, 1, 0, 1, 0, 0, 1, 0, 0, 1, 0, 1, 0, 0, 1, 0, 0, 1, 1, 1, 1, 1, 0, 1, 0, 0, 1, 1]) false)))
noncomputable def f40_k40002 (rd : Option Nat) : Key := .lp 40002 [2, 3, 4, 5, 7, 8, 9, 10, 11, 14] [] f40_c40002 135 rd
noncomputable def f40_c40001 : ACode := (.seq (.seq (.region 16 (opsAt f40_b [1, 1, 1, 1, 1, 1, 1, 1, 0, 1, 0, 0, 1, 0, 0, 1, 0, 1, 0, 0, 0, 0]) false) (.cond (.tmp 42) .skip (.exit 2))) (.seq (.join [(.ret, [2, 3, 4, 5, 7, 8, 9, 10, 11]), (.normal, [2, 3, 4, 5, 7, 8, 9, 10, 11])] (.block 3 (.seq (.seq (.region 18 (opsAt f40_b [1, 1, 1, 1, 1, 1, 1, 1, 0, 1, 0, 0, 1, 0, 0, 1, 0, 1, 0, 0, 1, 0, 0, 0, 0]) false) (.cond (.tmp 48) (.seq (.region 19 (opsAt f40_b [1, 1, 1, 1, 1, 1, 1, 1, 0, 1, 0, 0, 1, 0, 0, 1, 0, 1, 0, 0, 1, 0, 0, 0, 1, 0, 0]) false) .ret) .skip)) (.seq (.seq (.region 20 (opsAt f40_b [1, 1, 1, 1, 1, 1, 1, 1, 0, 1, 0, 0, 1, 0, 0, 1, 0, 1, 0, 0, 1, 0, 0, 1, 0, 0]) false) (.cond (.tmp 54) (.seq (.region 21 (opsAt f40_b [1, 1, 1, 1, 1, 1, 1, 1, 0, 1, 0, 0, 1, 0, 0, 1, 0, 1, 0, 0, 1, 0, 0, 1, 0, 1, 0, 0]) false) (.seq (.region 22 (opsAt f40_b [1, 1, 1, 1, 1, 1, 1, 1, 0, 1, 0, 0, 1, 0, 0, 1, 0, 1, 0, 0, 1, 0, 0, 1, 0, 1, 0, 1, 0]) false) (.exit 3))) .skip)) (.seq (.region 23 (opsAt f40_b [1, 1, 1, 1, 1, 1, 1, 1, 0, 1, 0, 0, 1, 0, 0, 1, 0, 1, 0, 0, 1, 0, 0, 1, 1, 0]) false) (.seq (.seq (.region 24 (opsAt f40_b [1, 1, 1, 1, 1, 1, 1, 1, 0, 1, 0, 0, 1, 0, 0, 1, 0, 1, 0, 0, 1, 0, 0, 1, 1, 1, 0, 0]) false) (.cond (.tmp 85) (.seq (.region 25 (opsAt f40_b [1, 1, 1, 1, 1, 1, 1, 1, 0, 1, 0, 0, 1, 0, 0, 1, 0, 1, 0, 0, 1, 0, 0, 1, 1, 1, 0, 1, 0, 0]) false) .ret) .skip)) (.seq (.region 26 (opsAt f40_b [1, 1, 1, 1, 1, 1, 1, 1, 0, 1, 0, 0, 1, 0, 0, 1, 0, 1, 0, 0, 1, 0, 0, 1, 1, 1, 1, 0]) false) (.seq (.seq (.region 27 (opsAt f40_b [1, 1, 1, 1, 1, 1, 1, 1, 0, 1, 0, 0, 1, 0, 0, 1, 0, 1, 0, 0, 1, 0, 0, 1, 1, 1, 1, 1, 0, 0]) false) (.block 4 (.loop 40002 [2, 3, 4, 5, 7, 8, 9, 10, 11, 14] [] [(.exit 4), .ret] f40_c40002))) (.region 34 (opsAt f40_b [1, 1, 1, 1, 1, 1, 1, 1, 0, 1, 0, 0, 1, 0, 0, 1, 0, 1, 0, 0, 1, 0, 0, 1, 1, 1, 1, 1, 1]) false))))))))) (.region 17 (opsAt f40_b [1, 1, 1, 1, 1, 1, 1, 1, 0, 1, 0, 0, 1, 0, 0, 1, 0, 1, 0, 0, 1, 1]) false)))
noncomputable def f40_k40001 (rd : Option Nat) : Key := .lp 40001 [2, 3, 4, 5, 7, 8, 9, 10, 11] [] f40_c40001 135 rd
noncomputable def f40_c40000 : ACode := (.seq (.seq (.region 12 (opsAt f40_b [1, 1, 1, 1, 1, 1, 1, 1, 0, 1, 0, 0, 0, 0]) false) (.cond (.tmp 38) .skip (.exit 0))) (.seq (.block 1 (.seq (.region 14 (opsAt f40_b [1, 1, 1, 1, 1, 1, 1, 1, 0, 1, 0, 0, 1, 0, 0, 0]) false) (.seq (.seq (.region 15 (opsAt f40_b [1, 1, 1, 1, 1, 1, 1, 1, 0, 1, 0, 0, 1, 0, 0, 1, 0, 0]) false) (.block 2 (.loop 40001 [2, 3, 4, 5, 7, 8, 9, 10, 11] [] [(.exit 2), .ret] f40_c40001))) (.region 35 (opsAt f40_b [1, 1, 1, 1, 1, 1, 1, 1, 0, 1, 0, 0, 1, 0, 0, 1, 1]) false)))) (.region 13 (opsAt f40_b [1, 1, 1, 1, 1, 1, 1, 1, 0, 1, 0, 0, 1, 1]) false)))
noncomputable def f40_k40000 (rd : Option Nat) : Key := .lp 40000 [2, 3, 4, 5, 7, 8, 9] [] f40_c40000 135 rd
noncomputable def f40_c : ACode := (.seq (.region 0 (opsAt f40_b [0]) false) (.seq (.seq (.region 1 (opsAt f40_b [1, 0, 0]) false) (.cond (.tmp 18) (.seq (.region 2 (opsAt f40_b [1, 0, 1, 0, 0]) false) .ret) .skip)) (.seq (.region 3 (opsAt f40_b [1, 1, 0]) false) (.seq (.seq (.region 4 (opsAt f40_b [1, 1, 1, 0, 0]) false) (.cond (.tmp 24) (.seq (.region 5 (opsAt f40_b [1, 1, 1, 0, 1, 0, 0]) false) .ret) .skip)) (.seq (.region 6 (opsAt f40_b [1, 1, 1, 1, 0]) false) (.seq (.seq (.region 7 (opsAt f40_b [1, 1, 1, 1, 1, 0, 0]) false) (.cond (.tmp 34) (.seq (.region 8 (opsAt f40_b [1, 1, 1, 1, 1, 0, 1, 0, 0]) false) .ret) .skip)) (.seq (.region 9 (opsAt f40_b [1, 1, 1, 1, 1, 1, 0]) false) (.seq (.region 10 (opsAt f40_b [1, 1, 1, 1, 1, 1, 1, 0]) false) (.seq (.seq (.region 11 (opsAt f40_b [1, 1, 1, 1, 1, 1, 1, 1, 0, 0]) false) (.block 0 (.loop 40000 [2, 3, 4, 5, 7, 8, 9] [] [(.exit 0), .ret] f40_c40000))) (.seq (.seq (.region 36 (opsAt f40_b [1, 1, 1, 1, 1, 1, 1, 1, 1, 0, 0]) false) (.cond (.tmp 128) (.seq (.region 37 (opsAt f40_b [1, 1, 1, 1, 1, 1, 1, 1, 1, 0, 1, 0, 0]) false) .ret) .skip)) (.seq (.seq (.region 38 (opsAt f40_b [1, 1, 1, 1, 1, 1, 1, 1, 1, 1, 0, 0]) false) (.cond (.tmp 132) (.seq (.region 39 (opsAt f40_b [1, 1, 1, 1, 1, 1, 1, 1, 1, 1, 0, 1, 0, 0]) false) .ret) .skip)) (.seq (.region 40 (opsAt f40_b [1, 1, 1, 1, 1, 1, 1, 1, 1, 1, 1, 0]) false) .ret))))))))))))
noncomputable def f40_f : AFun := { code := f40_c, nt := 135, res := Try.f40.results.toList, fr := [] }
noncomputable def f41_b : Code := bodyOf Try.f41
noncomputable def f41_c41000 : ACode := (.seq (.seq (.region 3 (opsAt f41_b [1, 1, 0, 1, 0, 0, 0, 0]) false) (.cond (.tmp 6) .skip (.exit 0))) (.seq (.block 1 (.seq (.seq (.region 5 (opsAt f41_b [1, 1, 0, 1, 0, 0, 1, 0, 0, 0, 0]) false) (.cond (.tmp 25) (.seq (.region 6 (opsAt f41_b [1, 1, 0, 1, 0, 0, 1, 0, 0, 0, 1, 0, 0]) false) .ret) .skip)) (.region 7 (opsAt f41_b [1, 1, 0, 1, 0, 0, 1, 0, 0, 1]) false))) (.region 4 (opsAt f41_b [1, 1, 0, 1, 0, 0, 1, 1]) false)))
noncomputable def f41_k41000 (rd : Option Nat) : Key := .lp 41000 [1, 2, 3, 4] [] f41_c41000 30 rd
noncomputable def f41_c : ACode := (.seq (.region 0 (opsAt f41_b [0]) false) (.seq (.region 1 (opsAt f41_b [1, 0]) false) (.seq (.seq (.region 2 (opsAt f41_b [1, 1, 0, 0]) false) (.block 0 (.loop 41000 [1, 2, 3, 4] [] [(.exit 0), .ret] f41_c41000))) (.seq (.region 8 (opsAt f41_b [1, 1, 1, 0]) false) .ret))))
noncomputable def f41_f : AFun := { code := f41_c, nt := 30, res := Try.f41.results.toList, fr := [] }
noncomputable def f42_b : Code := bodyOf Try.f42
noncomputable def f42_c42000 : ACode := (.seq (.seq (.region 5 (opsAt f42_b [1, 1, 1, 0, 1, 0, 0, 0, 0]) false) (.cond (.tmp 10) .skip (.exit 0))) (.seq (.block 1 (.region 7 (opsAt f42_b [1, 1, 1, 0, 1, 0, 0, 1, 0, 0]) false)) (.region 6 (opsAt f42_b [1, 1, 1, 0, 1, 0, 0, 1, 1]) false)))
noncomputable def f42_k42000 (rd : Option Nat) : Key := .lp 42000 [1, 2, 3, 4] [] f42_c42000 19 rd
noncomputable def f42_c : ACode := (.seq (.region 0 (opsAt f42_b [0]) false) (.seq (.region 1 (opsAt f42_b [1, 0]) false) (.seq (.seq (.region 2 (opsAt f42_b [1, 1, 0, 0]) false) (.cond (.tmp 7) (.seq (.region 3 (opsAt f42_b [1, 1, 0, 1, 0, 0]) false) .ret) .skip)) (.seq (.seq (.region 4 (opsAt f42_b [1, 1, 1, 0, 0]) false) (.block 0 (.loop 42000 [1, 2, 3, 4] [] [(.exit 0)] f42_c42000))) (.seq (.region 8 (opsAt f42_b [1, 1, 1, 1, 0]) false) .ret)))))
noncomputable def f42_f : AFun := { code := f42_c, nt := 19, res := Try.f42.results.toList, fr := [] }
noncomputable def f43_b : Code := bodyOf Try.f43
noncomputable def f43_c : ACode := (.seq (.region 0 (opsAt f43_b [0]) false) (.seq (.block 0 (.seq (.region 1 (opsAt f43_b [1, 0, 0, 0]) false) (.cond (.tmp 3) (.seq (.region 2 (opsAt f43_b [1, 0, 0, 1, 0, 0]) false) .ret) (.seq (.region 3 (opsAt f43_b [1, 0, 0, 1, 1, 0]) false) (.cond (.tmp 7) (.seq (.region 4 (opsAt f43_b [1, 0, 0, 1, 1, 1, 0, 0]) false) .ret) .skip))))) (.seq (.region 5 (opsAt f43_b [1, 1, 0]) false) .ret)))
noncomputable def f43_f : AFun := { code := f43_c, nt := 12, res := Try.f43.results.toList, fr := [] }
noncomputable def f44_b : Code := bodyOf Try.f44
noncomputable def f44_c44001 : ACode := (.seq (.region 8 (opsAt f44_b [1, 1, 1, 0, 1, 0, 1, 0, 1, 1, 1, 0, 0, 0]) false) (.seq (.cond (.tmp 53) .skip (.exit 2)) (.seq (.block 3 (.seq (.region 9 (opsAt f44_b [1, 1, 1, 0, 1, 0, 1, 0, 1, 1, 1, 0, 0, 1, 1, 0, 0, 0]) false) (.seq (.region 10 (opsAt f44_b [1, 1, 1, 0, 1, 0, 1, 0, 1, 1, 1, 0, 0, 1, 1, 0, 0, 1, 0]) false) (.join [(.normal, [6, 7, 8, 52])] (.cond (.tmp 64) (.region 11 (opsAt f44_b [1, 1, 1, 0, 1, 0, 1, 0, 1, 1, 1, 0, 0, 1, 1, 0, 0, 1, 1, 0]) true) .skip))))) (.region 12 (opsAt f44_b [1, 1, 1, 0, 1, 0, 1, 0, 1, 1, 1, 0, 0, 1, 1, 1]) false))))
noncomputable def f44_k44001 (rd : Option Nat) : Key := .lp 44001 [6, 7, 8, 52] [] f44_c44001 92 rd
noncomputable def f44_a44000 : ACode := (.region 4 (opsAt f44_b [1, 1, 1, 0, 1, 0, 0]) false)
noncomputable def f44_c44000 : ACode := (.block 1 (.seq (.region 5 (opsAt f44_b [1, 1, 1, 0, 1, 0, 1, 0, 0]) true) (.seq (.region 6 (opsAt f44_b [1, 1, 1, 0, 1, 0, 1, 0, 1, 0]) true) (.seq (.region 7 (opsAt f44_b [1, 1, 1, 0, 1, 0, 1, 0, 1, 1, 0]) false) (.block 2 (.loop 44001 [6, 7, 8, 52] [] [(.exit 2)] f44_c44001))))))
noncomputable def f44_c : ACode := (.seq (.region 0 (opsAt f44_b [0]) false) (.seq (.region 1 (opsAt f44_b [1, 0]) false) (.seq (.region 2 (opsAt f44_b [1, 1, 0]) false) (.seq (.seq (.region 3 (opsAt f44_b [1, 1, 1, 0, 0]) false) (.block 0 (.rangeFunc 44000 [1, 5, 6] [] [.normal] (.tmp 24) #[25] f44_a44000 f44_c44000))) (.seq (.region 13 (opsAt f44_b [1, 1, 1, 1, 0]) true) .ret)))))
noncomputable def f44_f : AFun := { code := f44_c, nt := 92, res := Try.f44.results.toList, fr := [] }
noncomputable def f45_b : Code := bodyOf Try.f45
noncomputable def f45_c45000 : ACode := (.seq (.region 3 (opsAt f45_b [1, 1, 0, 1, 0, 0, 0]) false) (.seq (.cond (.tmp 11) .skip (.exit 0)) (.seq (.block 1 (.seq (.region 4 (opsAt f45_b [1, 1, 0, 1, 0, 0, 1, 1, 0, 0, 0]) false) (.seq (.region 5 (opsAt f45_b [1, 1, 0, 1, 0, 0, 1, 1, 0, 0, 1, 0]) false) (.join [(.normal, [0, 3, 9, 10])] (.cond (.tmp 17) (.region 6 (opsAt f45_b [1, 1, 0, 1, 0, 0, 1, 1, 0, 0, 1, 1, 0]) false) .skip))))) (.region 7 (opsAt f45_b [1, 1, 0, 1, 0, 0, 1, 1, 1]) false))))
noncomputable def f45_k45000 (rd : Option Nat) : Key := .lp 45000 [0, 3, 9, 10] [] f45_c45000 24 rd
noncomputable def f45_c : ACode := (.seq (.region 0 (opsAt f45_b [0]) false) (.seq (.region 1 (opsAt f45_b [1, 0]) false) (.seq (.seq (.region 2 (opsAt f45_b [1, 1, 0, 0]) false) (.block 0 (.loop 45000 [0, 3, 9, 10] [] [(.exit 0)] f45_c45000))) (.seq (.region 8 (opsAt f45_b [1, 1, 1, 0]) false) .ret))))
noncomputable def f45_f : AFun := { code := f45_c, nt := 24, res := Try.f45.results.toList, fr := [] }
noncomputable def f46_b : Code := bodyOf Try.f46
noncomputable def f46_c46000 : ACode := (.seq (.seq (.region 1 (opsAt f46_b [1, 0, 0, 0, 0, 0]) false) (.cond (.tmp 13) .skip (.exit 0))) (.block 1 (.region 2 (opsAt f46_b [1, 0, 0, 0, 1, 0]) false)))
noncomputable def f46_k46000 (rd : Option Nat) : Key := .lp 46000 [0, 1] [] f46_c46000 22 rd
noncomputable def f46_c : ACode := (.seq (.region 0 (opsAt f46_b [0]) false) (.seq (.block 0 (.loop 46000 [0, 1] [] [(.exit 0)] f46_c46000)) (.seq (.region 3 (opsAt f46_b [1, 1, 0]) false) .ret)))
noncomputable def f46_f : AFun := { code := f46_c, nt := 22, res := Try.f46.results.toList, fr := [] }
noncomputable def f47_b : Code := bodyOf Try.f47
noncomputable def f47_c47001 : ACode := (.seq (.region 10 (opsAt f47_b [1, 1, 0, 1, 0, 0, 1, 1, 0, 0, 1, 1, 0, 1, 0, 0, 0]) false) (.seq (.cond (.tmp 37) .skip (.exit 2)) (.seq (.block 3 (.seq (.region 11 (opsAt f47_b [1, 1, 0, 1, 0, 0, 1, 1, 0, 0, 1, 1, 0, 1, 0, 0, 1, 1, 0, 0, 0]) false) (.seq (.region 12 (opsAt f47_b [1, 1, 0, 1, 0, 0, 1, 1, 0, 0, 1, 1, 0, 1, 0, 0, 1, 1, 0, 0, 1, 0]) false) (.cond (.tmp 48) (.seq (.region 13 (opsAt f47_b [1, 1, 0, 1, 0, 0, 1, 1, 0, 0, 1, 1, 0, 1, 0, 0, 1, 1, 0, 0, 1, 1, 0, 0]) false) .ret) .skip)))) (.region 14 (opsAt f47_b [1, 1, 0, 1, 0, 0, 1, 1, 0, 0, 1, 1, 0, 1, 0, 0, 1, 1, 1]) false))))
noncomputable def f47_k47001 (rd : Option Nat) : Key := .lp 47001 [2, 4, 7, 15, 16, 17, 35, 36] [] f47_c47001 71 rd
noncomputable def f47_a47002 : ACode := (.region 16 (opsAt f47_b [1, 1, 0, 1, 0, 0, 1, 1, 0, 0, 1, 1, 1, 1, 0, 0]) false)
noncomputable def f47_c47002 : ACode := (.block 5 (.seq (.region 17 (opsAt f47_b [1, 1, 0, 1, 0, 0, 1, 1, 0, 0, 1, 1, 1, 1, 0, 1, 0, 0]) true) (.cond (.tmp 69) (.seq (.region 18 (opsAt f47_b [1, 1, 0, 1, 0, 0, 1, 1, 0, 0, 1, 1, 1, 1, 0, 1, 0, 1, 0, 0]) false) .ret) .skip)))
noncomputable def f47_c47000 : ACode := (.seq (.region 5 (opsAt f47_b [1, 1, 0, 1, 0, 0, 0]) false) (.seq (.cond (.tmp 18) .skip (.exit 0)) (.seq (.block 1 (.seq (.region 6 (opsAt f47_b [1, 1, 0, 1, 0, 0, 1, 1, 0, 0, 0]) false) (.seq (.seq (.region 7 (opsAt f47_b [1, 1, 0, 1, 0, 0, 1, 1, 0, 0, 1, 0, 0]) false) (.cond (.tmp 32) (.seq (.region 8 (opsAt f47_b [1, 1, 0, 1, 0, 0, 1, 1, 0, 0, 1, 0, 1, 0, 0]) false) .ret) .skip)) (.seq (.seq (.region 9 (opsAt f47_b [1, 1, 0, 1, 0, 0, 1, 1, 0, 0, 1, 1, 0, 0]) false) (.block 2 (.loop 47001 [2, 4, 7, 15, 16, 17, 35, 36] [] [(.exit 2), .ret] f47_c47001))) (.seq (.region 15 (opsAt f47_b [1, 1, 0, 1, 0, 0, 1, 1, 0, 0, 1, 1, 1, 0]) false) (.block 4 (.rangeFunc 47002 [4, 7] [] [.normal, .ret] (.tmp 51) #[52] f47_a47002 f47_c47002))))))) (.region 19 (opsAt f47_b [1, 1, 0, 1, 0, 0, 1, 1, 1]) false))))
noncomputable def f47_k47000 (rd : Option Nat) : Key := .lp 47000 [2, 4, 15, 16, 17] [] f47_c47000 71 rd
noncomputable def f47_c : ACode := (.seq (.region 0 (opsAt f47_b [0]) false) (.seq (.seq (.region 1 (opsAt f47_b [1, 0, 0]) false) (.seq (.region 2 (opsAt f47_b [1, 0, 1, 0]) false) (.cond (.tmp 13) (.seq (.region 3 (opsAt f47_b [1, 0, 1, 1, 0, 0]) false) .ret) .skip))) (.seq (.seq (.region 4 (opsAt f47_b [1, 1, 0, 0]) false) (.block 0 (.loop 47000 [2, 4, 15, 16, 17] [] [(.exit 0), .ret] f47_c47000))) (.seq (.region 20 (opsAt f47_b [1, 1, 1, 0]) false) .ret))))
noncomputable def f47_f : AFun := { code := f47_c, nt := 71, res := Try.f47.results.toList, fr := [] }
noncomputable def f48_b : Code := bodyOf Try.f48
noncomputable def f48_c48000 : ACode := (.seq (.region 3 (opsAt f48_b [1, 1, 0, 1, 0, 0, 0]) false) (.seq (.cond (.tmp 9) .skip (.exit 0)) (.seq (.block 1 (.seq (.region 4 (opsAt f48_b [1, 1, 0, 1, 0, 0, 1, 1, 0, 0, 0]) false) (.region 5 (opsAt f48_b [1, 1, 0, 1, 0, 0, 1, 1, 0, 0, 1]) false))) (.region 6 (opsAt f48_b [1, 1, 0, 1, 0, 0, 1, 1, 1]) false))))
noncomputable def f48_k48000 (rd : Option Nat) : Key := .lp 48000 [3, 6, 7, 8] [] f48_c48000 17 rd
noncomputable def f48_c : ACode := (.seq (.region 0 (opsAt f48_b [0]) false) (.seq (.region 1 (opsAt f48_b [1, 0]) false) (.seq (.seq (.region 2 (opsAt f48_b [1, 1, 0, 0]) false) (.block 0 (.loop 48000 [3, 6, 7, 8] [] [(.exit 0)] f48_c48000))) (.seq (.region 7 (opsAt f48_b [1, 1, 1, 0]) false) .ret))))
noncomputable def f48_f : AFun := { code := f48_c, nt := 17, res := Try.f48.results.toList, fr := [] }
noncomputable def f49_b : Code := bodyOf Try.f49
noncomputable def f49_c49000 : ACode := (.seq (.region 4 (opsAt f49_b [1, 1, 1, 0, 1, 0, 0, 0]) false) (.seq (.cond (.tmp 22) .skip (.exit 0)) (.seq (.block 1 (.seq (.region 5 (opsAt f49_b [1, 1, 1, 0, 1, 0, 0, 1, 1, 0, 0, 0]) false) (.region 6 (opsAt f49_b [1, 1, 1, 0, 1, 0, 0, 1, 1, 0, 0, 1]) false))) (.region 7 (opsAt f49_b [1, 1, 1, 0, 1, 0, 0, 1, 1, 1]) false))))
noncomputable def f49_k49000 (rd : Option Nat) : Key := .lp 49000 [1, 7, 19, 20, 21] [] f49_c49000 36 rd
noncomputable def f49_c : ACode := (.seq (.region 0 (opsAt f49_b [0]) false) (.seq (.region 1 (opsAt f49_b [1, 0]) false) (.seq (.region 2 (opsAt f49_b [1, 1, 0]) false) (.seq (.seq (.region 3 (opsAt f49_b [1, 1, 1, 0, 0]) false) (.block 0 (.loop 49000 [1, 7, 19, 20, 21] [] [(.exit 0)] f49_c49000))) (.seq (.region 8 (opsAt f49_b [1, 1, 1, 1, 0]) false) .ret)))))
noncomputable def f49_f : AFun := { code := f49_c, nt := 36, res := Try.f49.results.toList, fr := [] }
noncomputable def f50_b : Code := bodyOf Try.f50
noncomputable def f50_c : ACode := (.seq (.region 0 (opsAt f50_b [0]) false) (.seq (.region 1 (opsAt f50_b [1, 0]) true) .ret))
noncomputable def f50_f : AFun := { code := f50_c, nt := 29, res := Try.f50.results.toList, fr := [] }
noncomputable def f53_b : Code := bodyOf Try.f53
noncomputable def f53_c : ACode := (.seq (.region 0 (opsAt f53_b [0]) false) (.seq (.seq (.region 1 (opsAt f53_b [1, 0, 0]) false) (.cond (.tmp 4) (.seq (.region 2 (opsAt f53_b [1, 0, 1, 0, 0]) false) .ret) .skip)) (.seq (.region 3 (opsAt f53_b [1, 1, 0]) false) .ret)))
noncomputable def f53_f : AFun := { code := f53_c, nt := 8, res := Try.f53.results.toList, fr := [] }
noncomputable def f54_b : Code := bodyOf Try.f54
noncomputable def f54_c54000 : ACode := (.seq (.region 3 (opsAt f54_b [1, 1, 0, 1, 0, 0, 0]) false) (.seq (.cond (.tmp 12) .skip (.exit 0)) (.seq (.block 1 (.seq (.region 4 (opsAt f54_b [1, 1, 0, 1, 0, 0, 1, 1, 0, 0, 0]) false) (.region 5 (opsAt f54_b [1, 1, 0, 1, 0, 0, 1, 1, 0, 0, 1]) false))) (.region 6 (opsAt f54_b [1, 1, 0, 1, 0, 0, 1, 1, 1]) false))))
noncomputable def f54_k54000 (rd : Option Nat) : Key := .lp 54000 [1, 5, 10, 11] [] f54_c54000 26 rd
noncomputable def f54_c : ACode := (.seq (.region 0 (opsAt f54_b [0]) false) (.seq (.region 1 (opsAt f54_b [1, 0]) false) (.seq (.seq (.region 2 (opsAt f54_b [1, 1, 0, 0]) false) (.block 0 (.loop 54000 [1, 5, 10, 11] [] [(.exit 0)] f54_c54000))) (.seq (.region 7 (opsAt f54_b [1, 1, 1, 0]) false) .ret))))
noncomputable def f54_f : AFun := { code := f54_c, nt := 26, res := Try.f54.results.toList, fr := [] }
noncomputable def f55_b : Code := bodyOf Try.f55
noncomputable def f55_c : ACode := (.seq (.region 0 (opsAt f55_b [0]) false) (.seq (.region 1 (opsAt f55_b [1, 0]) false) .ret))
noncomputable def f55_f : AFun := { code := f55_c, nt := 6, res := Try.f55.results.toList, fr := [] }
noncomputable def f56_b : Code := bodyOf Try.f56
noncomputable def f56_c56000 : ACode := (.seq (.region 3 (opsAt f56_b [1, 1, 0, 1, 0, 0, 0]) false) (.seq (.cond (.tmp 9) .skip (.exit 0)) (.seq (.block 1 (.seq (.region 4 (opsAt f56_b [1, 1, 0, 1, 0, 0, 1, 1, 0, 0, 0]) false) (.seq (.region 5 (opsAt f56_b [1, 1, 0, 1, 0, 0, 1, 1, 0, 0, 1, 0]) false) (.join [(.normal, [3, 6, 7, 8])] (.cond (.tmp 13) (.region 6 (opsAt f56_b [1, 1, 0, 1, 0, 0, 1, 1, 0, 0, 1, 1, 0]) false) .skip))))) (.region 7 (opsAt f56_b [1, 1, 0, 1, 0, 0, 1, 1, 1]) false))))
noncomputable def f56_k56000 (rd : Option Nat) : Key := .lp 56000 [3, 6, 7, 8] [] f56_c56000 19 rd
noncomputable def f56_c : ACode := (.seq (.region 0 (opsAt f56_b [0]) false) (.seq (.region 1 (opsAt f56_b [1, 0]) false) (.seq (.seq (.region 2 (opsAt f56_b [1, 1, 0, 0]) false) (.block 0 (.loop 56000 [3, 6, 7, 8] [] [(.exit 0)] f56_c56000))) (.seq (.region 8 (opsAt f56_b [1, 1, 1, 0]) false) .ret))))
noncomputable def f56_f : AFun := { code := f56_c, nt := 19, res := Try.f56.results.toList, fr := [] }
noncomputable def f57_b : Code := bodyOf Try.f57
noncomputable def f57_c57000 : ACode := (.seq (.region 4 (opsAt f57_b [1, 1, 1, 0, 1, 0, 0, 0]) false) (.seq (.cond (.tmp 35) .skip (.exit 0)) (.seq (.block 1 (.seq (.region 5 (opsAt f57_b [1, 1, 1, 0, 1, 0, 0, 1, 1, 0, 0, 0]) false) (.region 6 (opsAt f57_b [1, 1, 1, 0, 1, 0, 0, 1, 1, 0, 0, 1]) true))) (.region 7 (opsAt f57_b [1, 1, 1, 0, 1, 0, 0, 1, 1, 1]) false))))
noncomputable def f57_k57000 (rd : Option Nat) : Key := .lp 57000 [1, 2, 4, 5, 6, 7, 33, 34] [] f57_c57000 200 rd
noncomputable def f57_c57003 : ACode := (.seq (.region 21 (opsAt f57_b [1, 1, 1, 1, 1, 1, 0, 1, 0, 0, 1, 1, 0, 0, 1, 1, 1, 1, 0, 1, 0, 0, 1, 0, 0, 1, 1, 0, 0, 0]) false) (.seq (.cond (.tmp 95) .skip (.exit 6)) (.seq (.join [(.normal, [2, 4, 5, 7, 11, 14, 15, 16, 17, 18, 62, 63, 64, 93, 94]), (.ret, [2, 4, 5, 7, 11, 14, 15, 16, 17, 18, 62, 63, 64, 93, 94])] (.block 7 (.seq (.region 22 (opsAt f57_b [1, 1, 1, 1, 1, 1, 0, 1, 0, 0, 1, 1, 0, 0, 1, 1, 1, 1, 0, 1, 0, 0, 1, 0, 0, 1, 1, 0, 0, 1, 1, 0, 0, 0]) false) (.seq (.seq (.region 23 (opsAt f57_b [1, 1, 1, 1, 1, 1, 0, 1, 0, 0, 1, 1, 0, 0, 1, 1, 1, 1, 0, 1, 0, 0, 1, 0, 0, 1, 1, 0, 0, 1, 1, 0, 0, 1, 0, 0]) false) (.cond (.tmp 105) (.exit 7) .skip)) (.seq (.region 24 (opsAt f57_b [1, 1, 1, 1, 1, 1, 0, 1, 0, 0, 1, 1, 0, 0, 1, 1, 1, 1, 0, 1, 0, 0, 1, 0, 0, 1, 1, 0, 0, 1, 1, 0, 0, 1, 1, 0]) true) (.seq (.region 25 (opsAt f57_b [1, 1, 1, 1, 1, 1, 0, 1, 0, 0, 1, 1, 0, 0, 1, 1, 1, 1, 0, 1, 0, 0, 1, 0, 0, 1, 1, 0, 0, 1, 1, 0, 0, 1, 1, 1, 0]) false) (.block 8 (.seq (.region 26 (opsAt f57_b [1, 1, 1, 1, 1, 1, 0, 1, 0, 0, 1, 1, 0, 0, 1, 1, 1, 1, 0, 1, 0, 0, 1, 0, 0, 1, 1, 0, 0, 1, 1, 0, 0, 1, 1, 1, 1, 0, 0]) false) (.join [(.normal, [2, 4, 5, 7, 11, 14, 15, 16, 17, 18, 62, 63, 64, 93, 94]), (.ret, [2, 4, 5, 7, 11, 14, 15, 16, 17, 18, 62, 63, 64, 93, 94])] (.cond (.tmp 134) (.seq (.region 27 (opsAt f57_b [1, 1, 1, 1, 1, 1, 0, 1, 0, 0, 1, 1, 0, 0, 1, 1, 1, 1, 0, 1, 0, 0, 1, 0, 0, 1, 1, 0, 0, 1, 1, 0, 0, 1, 1, 1, 1, 0, 1, 0, 0]) false) (.seq (.region 28 (opsAt f57_b [1, 1, 1, 1, 1, 1, 0, 1, 0, 0, 1, 1, 0, 0, 1, 1, 1, 1, 0, 1, 0, 0, 1, 0, 0, 1, 1, 0, 0, 1, 1, 0, 0, 1, 1, 1, 1, 0, 1, 0, 1, 0]) false) (.seq (.region 29 (opsAt f57_b [1, 1, 1, 1, 1, 1, 0, 1, 0, 0, 1, 1, 0, 0, 1, 1, 1, 1, 0, 1, 0, 0, 1, 0, 0, 1, 1, 0, 0, 1, 1, 0, 0, 1, 1, 1, 1, 0, 1, 0, 1, 1, 0]) false) (.region 30 (opsAt f57_b [1, 1, 1, 1, 1, 1, 0, 1, 0, 0, 1, 1, 0, 0, 1, 1, 1, 1, 0, 1, 0, 0, 1, 0, 0, 1, 1, 0, 0, 1, 1, 0, 0, 1, 1, 1, 1, 0, 1, 0, 1, 1, 1]) false)))) (.seq (.region 31 (opsAt f57_b [1, 1, 1, 1, 1, 1, 0, 1, 0, 0, 1, 1, 0, 0, 1, 1, 1, 1, 0, 1, 0, 0, 1, 0, 0, 1, 1, 0, 0, 1, 1, 0, 0, 1, 1, 1, 1, 0, 1, 1, 0]) false) (.cond (.tmp 166) (.seq (.region 32 (opsAt f57_b [1, 1, 1, 1, 1, 1, 0, 1, 0, 0, 1, 1, 0, 0, 1, 1, 1, 1, 0, 1, 0, 0, 1, 0, 0, 1, 1, 0, 0, 1, 1, 0, 0, 1, 1, 1, 1, 0, 1, 1, 1, 0, 0]) false) .ret) .skip)))))))))))) (.region 33 (opsAt f57_b [1, 1, 1, 1, 1, 1, 0, 1, 0, 0, 1, 1, 0, 0, 1, 1, 1, 1, 0, 1, 0, 0, 1, 0, 0, 1, 1, 0, 0, 1, 1, 1]) false))))
noncomputable def f57_k57003 (rd : Option Nat) : Key := .lp 57003 [2, 4, 5, 7, 11, 14, 15, 16, 17, 18, 62, 63, 64, 93, 94] [] f57_c57003 200 rd
noncomputable def f57_c57002 : ACode := (.seq (.seq (.region 17 (opsAt f57_b [1, 1, 1, 1, 1, 1, 0, 1, 0, 0, 1, 1, 0, 0, 1, 1, 1, 1, 0, 1, 0, 0, 0, 0]) false) (.cond (.tmp 76) .skip (.exit 4))) (.seq (.block 5 (.seq (.region 19 (opsAt f57_b [1, 1, 1, 1, 1, 1, 0, 1, 0, 0, 1, 1, 0, 0, 1, 1, 1, 1, 0, 1, 0, 0, 1, 0, 0, 0]) true) (.seq (.region 20 (opsAt f57_b [1, 1, 1, 1, 1, 1, 0, 1, 0, 0, 1, 1, 0, 0, 1, 1, 1, 1, 0, 1, 0, 0, 1, 0, 0, 1, 0]) false) (.block 6 (.loop 57003 [2, 4, 5, 7, 11, 14, 15, 16, 17, 18, 62, 63, 64, 93, 94] [] [(.exit 6), .ret] f57_c57003))))) (.region 18 (opsAt f57_b [1, 1, 1, 1, 1, 1, 0, 1, 0, 0, 1, 1, 0, 0, 1, 1, 1, 1, 0, 1, 0, 0, 1, 1]) false)))
noncomputable def f57_k57002 (rd : Option Nat) : Key := .lp 57002 [2, 4, 5, 7, 11, 14, 15, 16, 62, 63, 64] [] f57_c57002 200 rd
noncomputable def f57_c57004 : ACode := (.seq (.region 35 (opsAt f57_b [1, 1, 1, 1, 1, 1, 0, 1, 0, 0, 1, 1, 0, 0, 1, 1, 1, 1, 1, 1, 0, 0, 0]) false) (.seq (.cond (.tmp 180) .skip (.exit 9)) (.seq (.block 10 (.seq (.region 36 (opsAt f57_b [1, 1, 1, 1, 1, 1, 0, 1, 0, 0, 1, 1, 0, 0, 1, 1, 1, 1, 1, 1, 0, 0, 1, 1, 0, 0, 0]) false) (.region 37 (opsAt f57_b [1, 1, 1, 1, 1, 1, 0, 1, 0, 0, 1, 1, 0, 0, 1, 1, 1, 1, 1, 1, 0, 0, 1, 1, 0, 0, 1]) false))) (.region 38 (opsAt f57_b [1, 1, 1, 1, 1, 1, 0, 1, 0, 0, 1, 1, 0, 0, 1, 1, 1, 1, 1, 1, 0, 0, 1, 1, 1]) false))))
noncomputable def f57_k57004 (rd : Option Nat) : Key := .lp 57004 [2, 4, 5, 7, 11, 15, 62, 63, 64, 177, 178, 179] [] f57_c57004 200 rd
noncomputable def f57_c57001 : ACode := (.seq (.region 11 (opsAt f57_b [1, 1, 1, 1, 1, 1, 0, 1, 0, 0, 0]) false) (.seq (.cond (.tmp 65) .skip (.exit 2)) (.seq (.block 3 (.seq (.region 12 (opsAt f57_b [1, 1, 1, 1, 1, 1, 0, 1, 0, 0, 1, 1, 0, 0, 0]) false) (.seq (.region 13 (opsAt f57_b [1, 1, 1, 1, 1, 1, 0, 1, 0, 0, 1, 1, 0, 0, 1, 0]) false) (.seq (.region 14 (opsAt f57_b [1, 1, 1, 1, 1, 1, 0, 1, 0, 0, 1, 1, 0, 0, 1, 1, 0]) false) (.seq (.region 15 (opsAt f57_b [1, 1, 1, 1, 1, 1, 0, 1, 0, 0, 1, 1, 0, 0, 1, 1, 1, 0]) false) (.seq (.seq (.region 16 (opsAt f57_b [1, 1, 1, 1, 1, 1, 0, 1, 0, 0, 1, 1, 0, 0, 1, 1, 1, 1, 0, 0]) false) (.block 4 (.loop 57002 [2, 4, 5, 7, 11, 14, 15, 16, 62, 63, 64] [] [(.exit 4), .ret] f57_c57002))) (.seq (.region 34 (opsAt f57_b [1, 1, 1, 1, 1, 1, 0, 1, 0, 0, 1, 1, 0, 0, 1, 1, 1, 1, 1, 0]) false) (.block 9 (.loop 57004 [2, 4, 5, 7, 11, 15, 62, 63, 64, 177, 178, 179] [] [(.exit 9)] f57_c57004))))))))) (.region 39 (opsAt f57_b [1, 1, 1, 1, 1, 1, 0, 1, 0, 0, 1, 1, 1]) false))))
noncomputable def f57_k57001 (rd : Option Nat) : Key := .lp 57001 [2, 4, 5, 7, 11, 62, 63, 64] [] f57_c57001 200 rd
noncomputable def f57_c : ACode := (.seq (.region 0 (opsAt f57_b [0]) false) (.seq (.region 1 (opsAt f57_b [1, 0]) false) (.seq (.region 2 (opsAt f57_b [1, 1, 0]) false) (.seq (.seq (.region 3 (opsAt f57_b [1, 1, 1, 0, 0]) false) (.block 0 (.loop 57000 [1, 2, 4, 5, 6, 7, 33, 34] [] [(.exit 0)] f57_c57000))) (.seq (.region 8 (opsAt f57_b [1, 1, 1, 1, 0]) false) (.seq (.region 9 (opsAt f57_b [1, 1, 1, 1, 1, 0]) false) (.seq (.seq (.region 10 (opsAt f57_b [1, 1, 1, 1, 1, 1, 0, 0]) false) (.block 2 (.loop 57001 [2, 4, 5, 7, 11, 62, 63, 64] [] [(.exit 2), .ret] f57_c57001))) (.seq (.region 40 (opsAt f57_b [1, 1, 1, 1, 1, 1, 1, 0]) false) .ret))))))))
noncomputable def f57_f : AFun := { code := f57_c, nt := 200, res := Try.f57.results.toList, fr := [] }
noncomputable def f59_b : Code := bodyOf Try.f59
noncomputable def f59_c : ACode := (.seq (.region 0 (opsAt f59_b [0]) false) (.seq (.region 1 (opsAt f59_b [1, 0]) false) .ret))
noncomputable def f59_f : AFun := { code := f59_c, nt := 4, res := Try.f59.results.toList, fr := [] }
noncomputable def f60_b : Code := bodyOf Try.f60
noncomputable def f60_c : ACode := (.seq (.region 0 (opsAt f60_b [0]) false) (.seq (.region 1 (opsAt f60_b [1, 0]) false) .ret))
noncomputable def f60_f : AFun := { code := f60_c, nt := 6, res := Try.f60.results.toList, fr := [] }
noncomputable def f68_b : Code := bodyOf Try.f68
noncomputable def f68_c68000 : ACode := (.seq (.seq (.region 4 (opsAt f68_b [1, 1, 1, 0, 1, 0, 0, 0, 0]) false) (.cond (.tmp 10) .skip (.exit 0))) (.seq (.block 1 (.seq (.region 6 (opsAt f68_b [1, 1, 1, 0, 1, 0, 0, 1, 0, 0, 0]) false) (.seq (.seq (.region 7 (opsAt f68_b [1, 1, 1, 0, 1, 0, 0, 1, 0, 0, 1, 0, 0]) false) (.join [(.normal, [0, 3, 4, 5, 6])] (.cond (.tmp 28) (.region 8 (opsAt f68_b [1, 1, 1, 0, 1, 0, 0, 1, 0, 0, 1, 0, 1, 0]) false) .skip))) (.seq (.region 9 (opsAt f68_b [1, 1, 1, 0, 1, 0, 0, 1, 0, 0, 1, 1, 0]) false) (.join [(.normal, [0, 3, 4, 5])] (.cond (.tmp 34) (.seq (.region 10 (opsAt f68_b [1, 1, 1, 0, 1, 0, 0, 1, 0, 0, 1, 1, 1, 0, 0]) false) (.region 11 (opsAt f68_b [1, 1, 1, 0, 1, 0, 0, 1, 0, 0, 1, 1, 1, 0, 1]) false)) .skip)))))) (.region 5 (opsAt f68_b [1, 1, 1, 0, 1, 0, 0, 1, 1]) false)))
noncomputable def f68_k68000 (rd : Option Nat) : Key := .lp 68000 [0, 3, 4, 5] [] f68_c68000 43 rd
noncomputable def f68_c : ACode := (.seq (.region 0 (opsAt f68_b [0]) false) (.seq (.region 1 (opsAt f68_b [1, 0]) false) (.seq (.region 2 (opsAt f68_b [1, 1, 0]) false) (.seq (.seq (.region 3 (opsAt f68_b [1, 1, 1, 0, 0]) false) (.block 0 (.loop 68000 [0, 3, 4, 5] [] [(.exit 0)] f68_c68000))) (.seq (.region 12 (opsAt f68_b [1, 1, 1, 1, 0]) false) .ret)))))
noncomputable def f68_f : AFun := { code := f68_c, nt := 43, res := Try.f68.results.toList, fr := [] }
noncomputable def f69_b : Code := bodyOf Try.f69
noncomputable def f69_c69000 : ACode := (.seq (.seq (.region 5 (opsAt f69_b [1, 1, 1, 0, 1, 0, 0, 0, 0]) false) (.cond (.tmp 27) .skip (.exit 0))) (.seq (.block 1 (.seq (.seq (.region 7 (opsAt f69_b [1, 1, 1, 0, 1, 0, 0, 1, 0, 0, 0, 0]) false) (.cond (.tmp 39) (.seq (.region 8 (opsAt f69_b [1, 1, 1, 0, 1, 0, 0, 1, 0, 0, 0, 1, 0, 0]) false) .ret) .skip)) (.region 9 (opsAt f69_b [1, 1, 1, 0, 1, 0, 0, 1, 0, 0, 1]) false))) (.region 6 (opsAt f69_b [1, 1, 1, 0, 1, 0, 0, 1, 1]) false)))
noncomputable def f69_k69000 (rd : Option Nat) : Key := .lp 69000 [0, 2, 3, 4, 5] [] f69_c69000 51 rd
noncomputable def f69_c : ACode := (.seq (.region 0 (opsAt f69_b [0]) false) (.seq (.seq (.region 1 (opsAt f69_b [1, 0, 0]) false) (.cond (.tmp 23) (.seq (.region 2 (opsAt f69_b [1, 0, 1, 0, 0]) false) .ret) .skip)) (.seq (.region 3 (opsAt f69_b [1, 1, 0]) false) (.seq (.seq (.region 4 (opsAt f69_b [1, 1, 1, 0, 0]) false) (.block 0 (.loop 69000 [0, 2, 3, 4, 5] [] [(.exit 0), .ret] f69_c69000))) (.seq (.region 10 (opsAt f69_b [1, 1, 1, 1, 0]) false) .ret)))))
noncomputable def f69_f : AFun := { code := f69_c, nt := 51, res := Try.f69.results.toList, fr := [] }
noncomputable def f70_b : Code := bodyOf Try.f70
noncomputable def f70_a70000 : ACode := (.seq (.region 5 (opsAt f70_b [1, 1, 1, 0, 1, 0, 0, 0]) false) (.region 6 (opsAt f70_b [1, 1, 1, 0, 1, 0, 0, 1]) false))
noncomputable def f70_c70000 : ACode := (.join [(.normal, []), (.ret, [])] (.block 1 (.seq (.seq (.region 7 (opsAt f70_b [1, 1, 1, 0, 1, 0, 1, 0, 0, 0]) false) (.cond (.tmp 17) (.exit 1) .skip)) (.seq (.seq (.region 8 (opsAt f70_b [1, 1, 1, 0, 1, 0, 1, 0, 1, 0, 0]) true) (.cond (.tmp 51) (.seq (.region 9 (opsAt f70_b [1, 1, 1, 0, 1, 0, 1, 0, 1, 0, 1, 0, 0]) false) .ret) .skip)) (.seq (.region 10 (opsAt f70_b [1, 1, 1, 0, 1, 0, 1, 0, 1, 1, 0]) true) (.cond (.tmp 70) (.seq (.region 11 (opsAt f70_b [1, 1, 1, 0, 1, 0, 1, 0, 1, 1, 1, 0, 0]) false) .ret) .skip))))))
noncomputable def f70_c : ACode := (.seq (.region 0 (opsAt f70_b [0]) false) (.seq (.seq (.region 1 (opsAt f70_b [1, 0, 0]) false) (.cond (.tmp 9) (.seq (.region 2 (opsAt f70_b [1, 0, 1, 0, 0]) false) .ret) .skip)) (.seq (.region 3 (opsAt f70_b [1, 1, 0]) false) (.seq (.seq (.region 4 (opsAt f70_b [1, 1, 1, 0, 0]) false) (.block 0 (.rangeFunc 70000 [1, 2, 3] [] [.normal, .ret] (.tmp 12) #[13, 14] f70_a70000 f70_c70000))) (.seq (.region 12 (opsAt f70_b [1, 1, 1, 1, 0]) false) .ret)))))
noncomputable def f70_f : AFun := { code := f70_c, nt := 71, res := Try.f70.results.toList, fr := [] }
noncomputable def f71_b : Code := bodyOf Try.f71
noncomputable def f71_c71000 : ACode := (.seq (.region 3 (opsAt f71_b [1, 1, 0, 1, 0, 0, 0]) false) (.seq (.cond (.tmp 12) .skip (.exit 0)) (.seq (.block 1 (.seq (.region 4 (opsAt f71_b [1, 1, 0, 1, 0, 0, 1, 1, 0, 0, 0]) false) (.region 5 (opsAt f71_b [1, 1, 0, 1, 0, 0, 1, 1, 0, 0, 1]) false))) (.region 6 (opsAt f71_b [1, 1, 0, 1, 0, 0, 1, 1, 1]) false))))
noncomputable def f71_k71000 (rd : Option Nat) : Key := .lp 71000 [2, 3, 10, 11] [] f71_c71000 21 rd
noncomputable def f71_c : ACode := (.seq (.region 0 (opsAt f71_b [0]) false) (.seq (.region 1 (opsAt f71_b [1, 0]) false) (.seq (.seq (.region 2 (opsAt f71_b [1, 1, 0, 0]) false) (.block 0 (.loop 71000 [2, 3, 10, 11] [] [(.exit 0)] f71_c71000))) (.seq (.region 7 (opsAt f71_b [1, 1, 1, 0]) false) .ret))))
noncomputable def f71_f : AFun := { code := f71_c, nt := 21, res := Try.f71.results.toList, fr := [] }
noncomputable def f72_b : Code := bodyOf Try.f72
noncomputable def f72_c : ACode := (.seq (.region 0 (opsAt f72_b [0]) false) (.region 1 (opsAt f72_b [1]) false))
noncomputable def f72_f : AFun := { code := f72_c, nt := 23, res := Try.f72.results.toList, fr := [] }
noncomputable def f73_b : Code := bodyOf Try.f73
noncomputable def f73_c : ACode := (.seq (.region 0 (opsAt f73_b [0]) false) (.seq (.region 1 (opsAt f73_b [1, 0]) false) .ret))
noncomputable def f73_f : AFun := { code := f73_c, nt := 8, res := Try.f73.results.toList, fr := [] }
noncomputable def f74_b : Code := bodyOf Try.f74
noncomputable def f74_c74000 : ACode := (.seq (.region 4 (opsAt f74_b [1, 1, 1, 0, 1, 0, 0, 0]) false) (.seq (.cond (.tmp 35) .skip (.exit 0)) (.seq (.block 1 (.seq (.region 5 (opsAt f74_b [1, 1, 1, 0, 1, 0, 0, 1, 1, 0, 0, 0]) false) (.seq (.region 6 (opsAt f74_b [1, 1, 1, 0, 1, 0, 0, 1, 1, 0, 0, 1, 0]) false) (.join [(.normal, [0, 1, 7, 8, 9, 34])] (.cond (.tmp 43) (.region 7 (opsAt f74_b [1, 1, 1, 0, 1, 0, 0, 1, 1, 0, 0, 1, 1, 0]) false) .skip))))) (.region 8 (opsAt f74_b [1, 1, 1, 0, 1, 0, 0, 1, 1, 1]) false))))
noncomputable def f74_k74000 (rd : Option Nat) : Key := .lp 74000 [0, 1, 7, 8, 9, 34] [] f74_c74000 56 rd
noncomputable def f74_c : ACode := (.seq (.region 0 (opsAt f74_b [0]) false) (.seq (.region 1 (opsAt f74_b [1, 0]) true) (.seq (.region 2 (opsAt f74_b [1, 1, 0]) true) (.seq (.seq (.region 3 (opsAt f74_b [1, 1, 1, 0, 0]) false) (.block 0 (.loop 74000 [0, 1, 7, 8, 9, 34] [] [(.exit 0)] f74_c74000))) (.seq (.region 9 (opsAt f74_b [1, 1, 1, 1, 0]) false) .ret)))))
noncomputable def f74_f : AFun := { code := f74_c, nt := 56, res := Try.f74.results.toList, fr := [] }
noncomputable def f75_b : Code := bodyOf Try.f75
noncomputable def f75_c : ACode := (.seq (.region 0 (opsAt f75_b [0]) false) (.seq (.region 1 (opsAt f75_b [1, 0]) false) .ret))
noncomputable def f75_f : AFun := { code := f75_c, nt := 9, res := Try.f75.results.toList, fr := [] }
noncomputable def f76_b : Code := bodyOf Try.f76
noncomputable def f76_c : ACode := (.seq (.region 0 (opsAt f76_b [0]) false) (.seq (.region 1 (opsAt f76_b [1, 0]) false) .ret))
noncomputable def f76_f : AFun := { code := f76_c, nt := 9, res := Try.f76.results.toList, fr := [] }
noncomputable def f77_b : Code := bodyOf Try.f77
noncomputable def f77_c77002 : ACode := (.seq (.region 8 (opsAt f77_b [1, 0, 0, 1, 1, 0, 0, 1, 1, 0, 0, 1, 1, 0, 0, 1, 1, 1, 0, 0, 0]) false) (.seq (.cond (.tmp 45) .skip (.exit 4)) (.seq (.block 5 (.seq (.region 9 (opsAt f77_b [1, 0, 0, 1, 1, 0, 0, 1, 1, 0, 0, 1, 1, 0, 0, 1, 1, 1, 0, 0, 1, 1, 0, 0, 0]) false) (.seq (.region 10 (opsAt f77_b [1, 0, 0, 1, 1, 0, 0, 1, 1, 0, 0, 1, 1, 0, 0, 1, 1, 1, 0, 0, 1, 1, 0, 0, 1, 0]) true) (.cond (.tmp 68) .ret .skip)))) (.region 11 (opsAt f77_b [1, 0, 0, 1, 1, 0, 0, 1, 1, 0, 0, 1, 1, 0, 0, 1, 1, 1, 0, 0, 1, 1, 1]) false))))
noncomputable def f77_k77002 (rd : Option Nat) : Key := .lp 77002 [0, 3, 5, 6, 9, 10, 11, 16, 17, 44] [] f77_c77002 72 rd
noncomputable def f77_c77001 : ACode := (.seq (.region 4 (opsAt f77_b [1, 0, 0, 1, 1, 0, 0, 1, 1, 0, 0, 0]) false) (.seq (.cond (.tmp 18) .skip (.exit 2)) (.seq (.join [(.normal, [0, 3, 9, 10, 11, 16, 17]), (.ret, [0, 3, 9, 10, 11, 16, 17])] (.block 3 (.seq (.region 5 (opsAt f77_b [1, 0, 0, 1, 1, 0, 0, 1, 1, 0, 0, 1, 1, 0, 0, 0]) false) (.seq (.seq (.region 6 (opsAt f77_b [1, 0, 0, 1, 1, 0, 0, 1, 1, 0, 0, 1, 1, 0, 0, 1, 0, 0]) false) (.cond (.tmp 43) (.exit 3) .skip)) (.seq (.region 7 (opsAt f77_b [1, 0, 0, 1, 1, 0, 0, 1, 1, 0, 0, 1, 1, 0, 0, 1, 1, 0]) false) (.block 4 (.loop 77002 [0, 3, 5, 6, 9, 10, 11, 16, 17, 44] [] [(.exit 4), .ret] f77_c77002))))))) (.region 12 (opsAt f77_b [1, 0, 0, 1, 1, 0, 0, 1, 1, 0, 0, 1, 1, 1]) false))))
noncomputable def f77_k77001 (rd : Option Nat) : Key := .lp 77001 [0, 3, 9, 10, 11, 16, 17] [] f77_c77001 72 rd
noncomputable def f77_c77000 : ACode := (.seq (.region 1 (opsAt f77_b [1, 0, 0, 0]) false) (.seq (.cond (.tmp 12) .skip (.exit 0)) (.seq (.block 1 (.seq (.region 2 (opsAt f77_b [1, 0, 0, 1, 1, 0, 0, 0]) false) (.seq (.region 3 (opsAt f77_b [1, 0, 0, 1, 1, 0, 0, 1, 0]) false) (.block 2 (.loop 77001 [0, 3, 9, 10, 11, 16, 17] [] [(.exit 2), .ret] f77_c77001))))) (.region 13 (opsAt f77_b [1, 0, 0, 1, 1, 1]) false))))
noncomputable def f77_k77000 (rd : Option Nat) : Key := .lp 77000 [0, 9, 10, 11] [] f77_c77000 72 rd
noncomputable def f77_c : ACode := (.seq (.region 0 (opsAt f77_b [0]) false) (.block 0 (.loop 77000 [0, 9, 10, 11] [] [(.exit 0), .ret] f77_c77000)))
noncomputable def f77_f : AFun := { code := f77_c, nt := 72, res := Try.f77.results.toList, fr := [] }
noncomputable def f83_b : Code := bodyOf Try.f83
noncomputable def f83_c : ACode := (.seq (.region 0 (opsAt f83_b [0]) false) (.seq (.region 1 (opsAt f83_b [1, 0]) false) .ret))
noncomputable def f83_f : AFun := { code := f83_c, nt := 4, res := Try.f83.results.toList, fr := [] }
noncomputable def f84_b : Code := bodyOf Try.f84
noncomputable def f84_c84000 : ACode := (.seq (.region 3 (opsAt f84_b [1, 1, 0, 1, 0, 0, 0]) false) (.seq (.cond (.tmp 8) .skip (.exit 0)) (.seq (.block 1 (.seq (.region 4 (opsAt f84_b [1, 1, 0, 1, 0, 0, 1, 1, 0, 0, 0]) false) (.seq (.seq (.region 5 (opsAt f84_b [1, 1, 0, 1, 0, 0, 1, 1, 0, 0, 1, 0, 0]) false) (.cond (.tmp 15) (.seq (.region 6 (opsAt f84_b [1, 1, 0, 1, 0, 0, 1, 1, 0, 0, 1, 0, 1, 0, 0]) false) .ret) .skip)) (.region 7 (opsAt f84_b [1, 1, 0, 1, 0, 0, 1, 1, 0, 0, 1, 1]) false)))) (.region 8 (opsAt f84_b [1, 1, 0, 1, 0, 0, 1, 1, 1]) false))))
noncomputable def f84_k84000 (rd : Option Nat) : Key := .lp 84000 [2, 3, 6, 7] [] f84_c84000 23 rd
noncomputable def f84_c : ACode := (.seq (.region 0 (opsAt f84_b [0]) false) (.seq (.region 1 (opsAt f84_b [1, 0]) false) (.seq (.seq (.region 2 (opsAt f84_b [1, 1, 0, 0]) false) (.block 0 (.loop 84000 [2, 3, 6, 7] [] [(.exit 0), .ret] f84_c84000))) (.seq (.region 9 (opsAt f84_b [1, 1, 1, 0]) false) .ret))))
noncomputable def f84_f : AFun := { code := f84_c, nt := 23, res := Try.f84.results.toList, fr := [] }
noncomputable def f85_b : Code := bodyOf Try.f85
noncomputable def f85_c85000 : ACode := (.seq (.region 3 (opsAt f85_b [1, 1, 0, 1, 0, 0, 0]) false) (.seq (.cond (.tmp 8) .skip (.exit 0)) (.seq (.block 1 (.seq (.region 4 (opsAt f85_b [1, 1, 0, 1, 0, 0, 1, 1, 0, 0, 0]) false) (.region 5 (opsAt f85_b [1, 1, 0, 1, 0, 0, 1, 1, 0, 0, 1]) false))) (.region 6 (opsAt f85_b [1, 1, 0, 1, 0, 0, 1, 1, 1]) false))))
noncomputable def f85_k85000 (rd : Option Nat) : Key := .lp 85000 [2, 3, 6, 7] [] f85_c85000 16 rd
noncomputable def f85_c : ACode := (.seq (.region 0 (opsAt f85_b [0]) false) (.seq (.region 1 (opsAt f85_b [1, 0]) false) (.seq (.seq (.region 2 (opsAt f85_b [1, 1, 0, 0]) false) (.block 0 (.loop 85000 [2, 3, 6, 7] [] [(.exit 0)] f85_c85000))) (.seq (.region 7 (opsAt f85_b [1, 1, 1, 0]) false) .ret))))
noncomputable def f85_f : AFun := { code := f85_c, nt := 16, res := Try.f85.results.toList, fr := [] }
noncomputable def f86_b : Code := bodyOf Try.f86
noncomputable def f86_c86000 : ACode := (.seq (.region 2 (opsAt f86_b [1, 0, 1, 0, 0, 0]) false) (.seq (.cond (.tmp 9) .skip (.exit 0)) (.seq (.block 1 (.seq (.region 3 (opsAt f86_b [1, 0, 1, 0, 0, 1, 1, 0, 0, 0]) false) (.seq (.region 4 (opsAt f86_b [1, 0, 1, 0, 0, 1, 1, 0, 0, 1, 0]) false) (.cond (.tmp 16) (.seq (.region 5 (opsAt f86_b [1, 0, 1, 0, 0, 1, 1, 0, 0, 1, 1, 0, 0]) false) .ret) .skip)))) (.region 6 (opsAt f86_b [1, 0, 1, 0, 0, 1, 1, 1]) false))))
noncomputable def f86_k86000 (rd : Option Nat) : Key := .lp 86000 [0, 1, 4, 7, 8] [] f86_c86000 19 rd
noncomputable def f86_c : ACode := (.seq (.region 0 (opsAt f86_b [0]) false) (.seq (.seq (.region 1 (opsAt f86_b [1, 0, 0]) false) (.block 0 (.loop 86000 [0, 1, 4, 7, 8] [] [(.exit 0), .ret] f86_c86000))) (.seq (.region 7 (opsAt f86_b [1, 1, 0]) false) .ret)))
noncomputable def f86_f : AFun := { code := f86_c, nt := 19, res := Try.f86.results.toList, fr := [] }
noncomputable def f87_b : Code := bodyOf Try.f87
noncomputable def f87_c : ACode := (.seq (.region 0 (opsAt f87_b [0]) false) (.seq (.region 1 (opsAt f87_b [1, 0]) false) (.seq (.region 2 (opsAt f87_b [1, 1, 0]) false) .ret)))
noncomputable def f87_f : AFun := { code := f87_c, nt := 4, res := Try.f87.results.toList, fr := [] }
noncomputable def f88_b : Code := bodyOf Try.f88
noncomputable def f88_c : ACode := (.seq (.region 0 (opsAt f88_b [0]) false) (.seq (.region 1 (opsAt f88_b [1, 0]) false) .ret))
noncomputable def f88_f : AFun := { code := f88_c, nt := 17, res := Try.f88.results.toList, fr := [] }
noncomputable def f89_b : Code := bodyOf Try.f89
noncomputable def f89_c : ACode := (.seq (.region 0 (opsAt f89_b [0]) false) (.seq (.region 1 (opsAt f89_b [1, 0]) false) .ret))
noncomputable def f89_f : AFun := { code := f89_c, nt := 8, res := Try.f89.results.toList, fr := [] }
noncomputable def f90_b : Code := bodyOf Try.f90
noncomputable def f90_c90000 : ACode := (.seq (.region 2 (opsAt f90_b [1, 0, 1, 0, 0, 0]) false) (.seq (.cond (.tmp 9) .skip (.exit 0)) (.seq (.block 1 (.seq (.region 3 (opsAt f90_b [1, 0, 1, 0, 0, 1, 1, 0, 0, 0]) false) (.seq (.region 4 (opsAt f90_b [1, 0, 1, 0, 0, 1, 1, 0, 0, 1, 0]) false) (.cond (.tmp 16) (.seq (.region 5 (opsAt f90_b [1, 0, 1, 0, 0, 1, 1, 0, 0, 1, 1, 0, 0]) false) .ret) .skip)))) (.region 6 (opsAt f90_b [1, 0, 1, 0, 0, 1, 1, 1]) false))))
noncomputable def f90_k90000 (rd : Option Nat) : Key := .lp 90000 [0, 1, 4, 7, 8] [] f90_c90000 19 rd
noncomputable def f90_c : ACode := (.seq (.region 0 (opsAt f90_b [0]) false) (.seq (.seq (.region 1 (opsAt f90_b [1, 0, 0]) false) (.block 0 (.loop 90000 [0, 1, 4, 7, 8] [] [(.exit 0), .ret] f90_c90000))) (.seq (.region 7 (opsAt f90_b [1, 1, 0]) false) .ret)))
noncomputable def f90_f : AFun := { code := f90_c, nt := 19, res := Try.f90.results.toList, fr := [] }
noncomputable def f91_b : Code := bodyOf Try.f91
noncomputable def f91_c91001 : ACode := (.seq (.region 4 (opsAt f91_b [1, 0, 0, 1, 1, 0, 0, 1, 1, 0, 0, 0]) false) (.seq (.cond (.tmp 18) .skip (.exit 2)) (.seq (.block 3 (.seq (.region 5 (opsAt f91_b [1, 0, 0, 1, 1, 0, 0, 1, 1, 0, 0, 1, 1, 0, 0, 0]) false) (.seq (.region 6 (opsAt f91_b [1, 0, 0, 1, 1, 0, 0, 1, 1, 0, 0, 1, 1, 0, 0, 1, 0]) false) (.cond (.tmp 27) .ret .skip)))) (.region 7 (opsAt f91_b [1, 0, 0, 1, 1, 0, 0, 1, 1, 0, 0, 1, 1, 1]) false))))
noncomputable def f91_k91001 (rd : Option Nat) : Key := .lp 91001 [0, 1, 3, 8, 9, 16, 17] [] f91_c91001 30 rd
noncomputable def f91_c91000 : ACode := (.seq (.region 1 (opsAt f91_b [1, 0, 0, 0]) false) (.seq (.cond (.tmp 10) .skip (.exit 0)) (.seq (.block 1 (.seq (.region 2 (opsAt f91_b [1, 0, 0, 1, 1, 0, 0, 0]) false) (.seq (.region 3 (opsAt f91_b [1, 0, 0, 1, 1, 0, 0, 1, 0]) false) (.block 2 (.loop 91001 [0, 1, 3, 8, 9, 16, 17] [] [(.exit 2), .ret] f91_c91001))))) (.region 8 (opsAt f91_b [1, 0, 0, 1, 1, 1]) false))))
noncomputable def f91_k91000 (rd : Option Nat) : Key := .lp 91000 [0, 1, 8, 9] [] f91_c91000 30 rd
noncomputable def f91_c : ACode := (.seq (.region 0 (opsAt f91_b [0]) false) (.block 0 (.loop 91000 [0, 1, 8, 9] [] [(.exit 0), .ret] f91_c91000)))
noncomputable def f91_f : AFun := { code := f91_c, nt := 30, res := Try.f91.results.toList, fr := [] }
noncomputable def bkT : BT AFun := (.node 54 f54_f (.node 25 f25_f (.node 16 f16_f (.node 13 f13_f (.node 11 f11_f (.node 5 f5_f .leaf .leaf) (.node 12 f12_f .leaf .leaf)) (.node 15 f15_f (.node 14 f14_f .leaf .leaf) .leaf)) (.node 21 f21_f (.node 18 f18_f (.node 17 f17_f .leaf .leaf) .leaf) (.node 24 f24_f (.node 23 f23_f .leaf .leaf) .leaf))) (.node 46 f46_f (.node 43 f43_f (.node 41 f41_f (.node 40 f40_f .leaf .leaf) (.node 42 f42_f .leaf .leaf)) (.node 45 f45_f (.node 44 f44_f .leaf .leaf) .leaf)) (.node 49 f49_f (.node 48 f48_f (.node 47 f47_f .leaf .leaf) .leaf) (.node 53 f53_f (.node 50 f50_f .leaf .leaf) .leaf)))) (.node 75 f75_f (.node 69 f69_f (.node 59 f59_f (.node 56 f56_f (.node 55 f55_f .leaf .leaf) (.node 57 f57_f .leaf .leaf)) (.node 68 f68_f (.node 60 f60_f .leaf .leaf) .leaf)) (.node 72 f72_f (.node 71 f71_f (.node 70 f70_f .leaf .leaf) .leaf) (.node 74 f74_f (.node 73 f73_f .leaf .leaf) .leaf))) (.node 86 f86_f (.node 83 f83_f (.node 77 f77_f (.node 76 f76_f .leaf .leaf) .leaf) (.node 85 f85_f (.node 84 f84_f .leaf .leaf) .leaf)) (.node 89 f89_f (.node 88 f88_f (.node 87 f87_f .leaf .leaf) .leaf) (.node 91 f91_f (.node 90 f90_f .leaf .leaf) .leaf)))))
noncomputable def bk (f : FuncId) : Option AFun := bkT.look f
theorem bk_5 : bk 5 = some f5_f := by kernel_rfl
theorem ok_5 : EntOK P 5 f5_f := ⟨Try.f5, f5_b, Try.func5, rfl, by kernel_rfl, by kernel_rfl, rfl, rfl⟩
theorem bk_11 : bk 11 = some f11_f := by kernel_rfl
theorem ok_11 : EntOK P 11 f11_f := ⟨Try.f11, f11_b, Try.func11, rfl, by kernel_rfl, by kernel_rfl, rfl, rfl⟩
theorem bk_12 : bk 12 = some f12_f := by kernel_rfl
theorem ok_12 : EntOK P 12 f12_f := ⟨Try.f12, f12_b, Try.func12, rfl, by kernel_rfl, by kernel_rfl, rfl, rfl⟩
theorem bk_13 : bk 13 = some f13_f := by kernel_rfl
theorem ok_13 : EntOK P 13 f13_f := ⟨Try.f13, f13_b, Try.func13, rfl, by kernel_rfl, by kernel_rfl, rfl, rfl⟩
theorem bk_14 : bk 14 = some f14_f := by kernel_rfl
theorem ok_14 : EntOK P 14 f14_f := ⟨Try.f14, f14_b, Try.func14, rfl, by kernel_rfl, by kernel_rfl, rfl, rfl⟩
theorem bk_15 : bk 15 = some f15_f := by kernel_rfl
theorem ok_15 : EntOK P 15 f15_f := ⟨Try.f15, f15_b, Try.func15, rfl, by kernel_rfl, by kernel_rfl, rfl, rfl⟩
theorem bk_16 : bk 16 = some f16_f := by kernel_rfl
theorem ok_16 : EntOK P 16 f16_f := ⟨Try.f16, f16_b, Try.func16, rfl, by kernel_rfl, by kernel_rfl, rfl, rfl⟩
theorem bk_17 : bk 17 = some f17_f := by kernel_rfl
theorem ok_17 : EntOK P 17 f17_f := ⟨Try.f17, f17_b, Try.func17, rfl, by kernel_rfl, by kernel_rfl, rfl, rfl⟩
theorem bk_18 : bk 18 = some f18_f := by kernel_rfl
theorem ok_18 : EntOK P 18 f18_f := ⟨Try.f18, f18_b, Try.func18, rfl, by kernel_rfl, by kernel_rfl, rfl, rfl⟩
theorem bk_21 : bk 21 = some f21_f := by kernel_rfl
theorem ok_21 : EntOK P 21 f21_f := ⟨Try.f21, f21_b, Try.func21, rfl, by kernel_rfl, by kernel_rfl, rfl, rfl⟩
theorem bk_23 : bk 23 = some f23_f := by kernel_rfl
theorem ok_23 : EntOK P 23 f23_f := ⟨Try.f23, f23_b, Try.func23, rfl, by kernel_rfl, by kernel_rfl, rfl, rfl⟩
theorem bk_24 : bk 24 = some f24_f := by kernel_rfl
theorem ok_24 : EntOK P 24 f24_f := ⟨Try.f24, f24_b, Try.func24, rfl, by kernel_rfl, by kernel_rfl, rfl, rfl⟩
theorem bk_25 : bk 25 = some f25_f := by kernel_rfl
theorem ok_25 : EntOK P 25 f25_f := ⟨Try.f25, f25_b, Try.func25, rfl, by kernel_rfl, by kernel_rfl, rfl, rfl⟩
theorem bk_40 : bk 40 = some f40_f := by kernel_rfl
theorem ok_40 : EntOK P 40 f40_f := ⟨Try.f40, f40_b, Try.func40, rfl, by kernel_rfl, by kernel_rfl, rfl, rfl⟩
theorem bk_41 : bk 41 = some f41_f := by kernel_rfl
theorem ok_41 : EntOK P 41 f41_f := ⟨Try.f41, f41_b, Try.func41, rfl, by kernel_rfl, by kernel_rfl, rfl, rfl⟩
theorem bk_42 : bk 42 = some f42_f := by kernel_rfl
theorem ok_42 : EntOK P 42 f42_f := ⟨Try.f42, f42_b, Try.func42, rfl, by kernel_rfl, by kernel_rfl, rfl, rfl⟩
theorem bk_43 : bk 43 = some f43_f := by kernel_rfl
theorem ok_43 : EntOK P 43 f43_f := ⟨Try.f43, f43_b, Try.func43, rfl, by kernel_rfl, by kernel_rfl, rfl, rfl⟩
theorem bk_44 : bk 44 = some f44_f := by kernel_rfl
theorem ok_44 : EntOK P 44 f44_f := ⟨Try.f44, f44_b, Try.func44, rfl, by kernel_rfl, by kernel_rfl, rfl, rfl⟩
theorem bk_45 : bk 45 = some f45_f := by kernel_rfl
theorem ok_45 : EntOK P 45 f45_f := ⟨Try.f45, f45_b, Try.func45, rfl, by kernel_rfl, by kernel_rfl, rfl, rfl⟩
theorem bk_46 : bk 46 = some f46_f := by kernel_rfl
theorem ok_46 : EntOK P 46 f46_f := ⟨Try.f46, f46_b, Try.func46, rfl, by kernel_rfl, by kernel_rfl, rfl, rfl⟩
theorem bk_47 : bk 47 = some f47_f := by kernel_rfl
theorem ok_47 : EntOK P 47 f47_f := ⟨Try.f47, f47_b, Try.func47, rfl, by kernel_rfl, by kernel_rfl, rfl, rfl⟩
theorem bk_48 : bk 48 = some f48_f := by kernel_rfl
theorem ok_48 : EntOK P 48 f48_f := ⟨Try.f48, f48_b, Try.func48, rfl, by kernel_rfl, by kernel_rfl, rfl, rfl⟩
theorem bk_49 : bk 49 = some f49_f := by kernel_rfl
theorem ok_49 : EntOK P 49 f49_f := ⟨Try.f49, f49_b, Try.func49, rfl, by kernel_rfl, by kernel_rfl, rfl, rfl⟩
theorem bk_50 : bk 50 = some f50_f := by kernel_rfl
theorem ok_50 : EntOK P 50 f50_f := ⟨Try.f50, f50_b, Try.func50, rfl, by kernel_rfl, by kernel_rfl, rfl, rfl⟩
theorem bk_53 : bk 53 = some f53_f := by kernel_rfl
theorem ok_53 : EntOK P 53 f53_f := ⟨Try.f53, f53_b, Try.func53, rfl, by kernel_rfl, by kernel_rfl, rfl, rfl⟩
theorem bk_54 : bk 54 = some f54_f := by kernel_rfl
theorem ok_54 : EntOK P 54 f54_f := ⟨Try.f54, f54_b, Try.func54, rfl, by kernel_rfl, by kernel_rfl, rfl, rfl⟩
theorem bk_55 : bk 55 = some f55_f := by kernel_rfl
theorem ok_55 : EntOK P 55 f55_f := ⟨Try.f55, f55_b, Try.func55, rfl, by kernel_rfl, by kernel_rfl, rfl, rfl⟩
theorem bk_56 : bk 56 = some f56_f := by kernel_rfl
theorem ok_56 : EntOK P 56 f56_f := ⟨Try.f56, f56_b, Try.func56, rfl, by kernel_rfl, by kernel_rfl, rfl, rfl⟩
theorem bk_57 : bk 57 = some f57_f := by kernel_rfl
theorem ok_57 : EntOK P 57 f57_f := ⟨Try.f57, f57_b, Try.func57, rfl, by kernel_rfl, by kernel_rfl, rfl, rfl⟩
theorem bk_59 : bk 59 = some f59_f := by kernel_rfl
theorem ok_59 : EntOK P 59 f59_f := ⟨Try.f59, f59_b, Try.func59, rfl, by kernel_rfl, by kernel_rfl, rfl, rfl⟩
theorem bk_60 : bk 60 = some f60_f := by kernel_rfl
theorem ok_60 : EntOK P 60 f60_f := ⟨Try.f60, f60_b, Try.func60, rfl, by kernel_rfl, by kernel_rfl, rfl, rfl⟩
theorem bk_68 : bk 68 = some f68_f := by kernel_rfl
theorem ok_68 : EntOK P 68 f68_f := ⟨Try.f68, f68_b, Try.func68, rfl, by kernel_rfl, by kernel_rfl, rfl, rfl⟩
theorem bk_69 : bk 69 = some f69_f := by kernel_rfl
theorem ok_69 : EntOK P 69 f69_f := ⟨Try.f69, f69_b, Try.func69, rfl, by kernel_rfl, by kernel_rfl, rfl, rfl⟩
theorem bk_70 : bk 70 = some f70_f := by kernel_rfl
theorem ok_70 : EntOK P 70 f70_f := ⟨Try.f70, f70_b, Try.func70, rfl, by kernel_rfl, by kernel_rfl, rfl, rfl⟩
theorem bk_71 : bk 71 = some f71_f := by kernel_rfl
theorem ok_71 : EntOK P 71 f71_f := ⟨Try.f71, f71_b, Try.func71, rfl, by kernel_rfl, by kernel_rfl, rfl, rfl⟩
theorem bk_72 : bk 72 = some f72_f := by kernel_rfl
theorem ok_72 : EntOK P 72 f72_f := ⟨Try.f72, f72_b, Try.func72, rfl, by kernel_rfl, by kernel_rfl, rfl, rfl⟩
theorem bk_73 : bk 73 = some f73_f := by kernel_rfl
theorem ok_73 : EntOK P 73 f73_f := ⟨Try.f73, f73_b, Try.func73, rfl, by kernel_rfl, by kernel_rfl, rfl, rfl⟩
theorem bk_74 : bk 74 = some f74_f := by kernel_rfl
theorem ok_74 : EntOK P 74 f74_f := ⟨Try.f74, f74_b, Try.func74, rfl, by kernel_rfl, by kernel_rfl, rfl, rfl⟩
theorem bk_75 : bk 75 = some f75_f := by kernel_rfl
theorem ok_75 : EntOK P 75 f75_f := ⟨Try.f75, f75_b, Try.func75, rfl, by kernel_rfl, by kernel_rfl, rfl, rfl⟩
theorem bk_76 : bk 76 = some f76_f := by kernel_rfl
theorem ok_76 : EntOK P 76 f76_f := ⟨Try.f76, f76_b, Try.func76, rfl, by kernel_rfl, by kernel_rfl, rfl, rfl⟩
theorem bk_77 : bk 77 = some f77_f := by kernel_rfl
theorem ok_77 : EntOK P 77 f77_f := ⟨Try.f77, f77_b, Try.func77, rfl, by kernel_rfl, by kernel_rfl, rfl, rfl⟩
theorem bk_83 : bk 83 = some f83_f := by kernel_rfl
theorem ok_83 : EntOK P 83 f83_f := ⟨Try.f83, f83_b, Try.func83, rfl, by kernel_rfl, by kernel_rfl, rfl, rfl⟩
theorem bk_84 : bk 84 = some f84_f := by kernel_rfl
theorem ok_84 : EntOK P 84 f84_f := ⟨Try.f84, f84_b, Try.func84, rfl, by kernel_rfl, by kernel_rfl, rfl, rfl⟩
theorem bk_85 : bk 85 = some f85_f := by kernel_rfl
theorem ok_85 : EntOK P 85 f85_f := ⟨Try.f85, f85_b, Try.func85, rfl, by kernel_rfl, by kernel_rfl, rfl, rfl⟩
theorem bk_86 : bk 86 = some f86_f := by kernel_rfl
theorem ok_86 : EntOK P 86 f86_f := ⟨Try.f86, f86_b, Try.func86, rfl, by kernel_rfl, by kernel_rfl, rfl, rfl⟩
theorem bk_87 : bk 87 = some f87_f := by kernel_rfl
theorem ok_87 : EntOK P 87 f87_f := ⟨Try.f87, f87_b, Try.func87, rfl, by kernel_rfl, by kernel_rfl, rfl, rfl⟩
theorem bk_88 : bk 88 = some f88_f := by kernel_rfl
theorem ok_88 : EntOK P 88 f88_f := ⟨Try.f88, f88_b, Try.func88, rfl, by kernel_rfl, by kernel_rfl, rfl, rfl⟩
theorem bk_89 : bk 89 = some f89_f := by kernel_rfl
theorem ok_89 : EntOK P 89 f89_f := ⟨Try.f89, f89_b, Try.func89, rfl, by kernel_rfl, by kernel_rfl, rfl, rfl⟩
theorem bk_90 : bk 90 = some f90_f := by kernel_rfl
theorem ok_90 : EntOK P 90 f90_f := ⟨Try.f90, f90_b, Try.func90, rfl, by kernel_rfl, by kernel_rfl, rfl, rfl⟩
theorem bk_91 : bk 91 = some f91_f := by kernel_rfl
theorem ok_91 : EntOK P 91 f91_f := ⟨Try.f91, f91_b, Try.func91, rfl, by kernel_rfl, by kernel_rfl, rfl, rfl⟩
theorem bk_ok : BookOK P bk := fun f a e => BT.look_all (Q := EntOK P) (t := bkT) (And.intro ok_54 (And.intro (And.intro ok_25 (And.intro (And.intro ok_16 (And.intro (And.intro ok_13 (And.intro (And.intro ok_11 (And.intro (And.intro ok_5 (And.intro trivial trivial)) (And.intro ok_12 (And.intro trivial trivial)))) (And.intro ok_15 (And.intro (And.intro ok_14 (And.intro trivial trivial)) trivial)))) (And.intro ok_21 (And.intro (And.intro ok_18 (And.intro (And.intro ok_17 (And.intro trivial trivial)) trivial)) (And.intro ok_24 (And.intro (And.intro ok_23 (And.intro trivial trivial)) trivial)))))) (And.intro ok_46 (And.intro (And.intro ok_43 (And.intro (And.intro ok_41 (And.intro (And.intro ok_40 (And.intro trivial trivial)) (And.intro ok_42 (And.intro trivial trivial)))) (And.intro ok_45 (And.intro (And.intro ok_44 (And.intro trivial trivial)) trivial)))) (And.intro ok_49 (And.intro (And.intro ok_48 (And.intro (And.intro ok_47 (And.intro trivial trivial)) trivial)) (And.intro ok_53 (And.intro (And.intro ok_50 (And.intro trivial trivial)) trivial)))))))) (And.intro ok_75 (And.intro (And.intro ok_69 (And.intro (And.intro ok_59 (And.intro (And.intro ok_56 (And.intro (And.intro ok_55 (And.intro trivial trivial)) (And.intro ok_57 (And.intro trivial trivial)))) (And.intro ok_68 (And.intro (And.intro ok_60 (And.intro trivial trivial)) trivial)))) (And.intro ok_72 (And.intro (And.intro ok_71 (And.intro (And.intro ok_70 (And.intro trivial trivial)) trivial)) (And.intro ok_74 (And.intro (And.intro ok_73 (And.intro trivial trivial)) trivial)))))) (And.intro ok_86 (And.intro (And.intro ok_83 (And.intro (And.intro ok_77 (And.intro (And.intro ok_76 (And.intro trivial trivial)) trivial)) (And.intro ok_85 (And.intro (And.intro ok_84 (And.intro trivial trivial)) trivial)))) (And.intro ok_89 (And.intro (And.intro ok_88 (And.intro (And.intro ok_87 (And.intro trivial trivial)) trivial)) (And.intro ok_91 (And.intro (And.intro ok_90 (And.intro trivial trivial)) trivial)))))))))) e
theorem mixed : P.follows .mixedOrders = true := by kernel_rfl
def selF : List Nat := [83, 91, 59, 77, 71, 44, 14, 16, 23, 24, 25, 27, 26, 30, 31, 34, 35, 36, 37, 38, 19, 45, 49, 53, 54, 57, 62, 64, 67, 68, 40, 78, 80, 87, 22, 29]
def selL : List Nat := [13000, 13001, 14001, 15000, 15001, 15002, 18000, 21000, 23001, 23002, 25000, 37000, 37001, 37002, 37003, 37008, 38000, 38001, 38002, 39000, 40001, 40002, 41000, 42000, 44001, 46000, 47001, 48000, 5000, 5001, 5002, 5003, 5004, 51000, 52000, 56000, 57000, 57004, 61000, 61001, 61002, 61003, 62000, 62001, 62002, 63000, 64000, 64001, 64002, 65000, 66000, 67000, 69000, 71000, 74000, 78000, 79000, 80000, 80001, 81000, 81001, 82000, 84000, 85000, 90000, 86000]
def nmem (x : Nat) : List Nat → Bool
  | [] => false
  | y :: ys => cond (Nat.beq x y) true (nmem x ys)
def sel : Key → Bool
  | .fn f => !(nmem f selF)
  | .lp j _ _ _ _ _ => nmem j selL
  | .rnd .. => false
noncomputable def ext : Fo FH := fun f args h c => match args with
  | [] => cond (nmem f [11]) (some { e := .ret, vs := [.bool true], h := h, c := c, df := [] }) none
  | _ => none
noncomputable abbrev G : Orc FH := runG P bk sel ext
end Go.Proofs.Ytcnndelmnobigaa

namespace Go.Proofs.Ytcnndelmnobigaa
open Go Go.Ab Go.Proofs
set_option maxRecDepth 100000
set_option linter.unusedVariables false
variable {H : Type} [HeapC H]
noncomputable def f5_L5001 (o : Orc H) (rd : Option Nat) (t1 t2 t4 t5 t6 t8 t10 t12 t13 t14 : Value) (h : H) (c : Nat) (df : List Nat) : Option (Rt H) :=
 (lenS t8).bind fun t93 =>
 (aBinOp P .lss 3 t14 t93).bind fun t94 =>
 boolK t94
 ((ixS 1 t5 t14).bind fun t100 =>
 (ld1 h t100).bind fun t101 =>
 (ixS 1 t8 t14).bind fun t104 =>
 (ld1 h t104).bind fun t105 =>
 (ixS 1 t105 t12).bind fun t107 =>
 (ld1 h t107).bind fun t108 =>
 (aBinOp P .mul 3 t101 t108).bind fun t109 =>
 (aBinOp P .add 3 t13 t109).bind fun t110 =>
 (aBinOp P .add 3 t14 (.int .i64 1)).bind fun t96 =>
 some { e := .normal, vs := [t1, t2, t4, t5, t6, t8, t10, t12, t110, t96], h := h, c := (((c + 1) + 1) + 1), df := df })
 (some { e := (.exit 2), vs := [t1, t2, t4, t5, t6, t8, t10, t12, t13, t14], h := h, c := (c + 1), df := df })
theorem f5_L5001_eq (o : Orc H) (rd : Option Nat) (t1 t2 t4 t5 t6 t8 t10 t12 t13 t14 : Value) (h : H) (c : Nat) (df : List Nat) : jx P o 183 rd f5_c5001 (tmOf [1, 2, 4, 5, 6, 8, 10, 12, 13, 14] [t1, t2, t4, t5, t6, t8, t10, t12, t13, t14]) h c df (Klp [1, 2, 4, 5, 6, 8, 10, 12, 13, 14]) = f5_L5001 o rd t1 t2 t4 t5 t6 t8 t10 t12 t13 t14 h c df := by kernel_rfl
noncomputable def f5_L5000 (o : Orc H) (rd : Option Nat) (t1 t2 t4 t5 t6 t8 t10 t12 : Value) (h : H) (c : Nat) (df : List Nat) : Option (Rt H) :=
 (lenS t1).bind fun t83 =>
 (aBinOp P .lss 3 t12 t83).bind fun t84 =>
 boolK t84
 ((ixS 1 t6 t12).bind fun t89 =>
 (ld1 h t89).bind fun t90 =>
 (o (f5_k5001 rd) [t1, t2, t4, t5, t6, t8, t10, t12, t90, (.int .i64 0)] h (((c + 1) + 1) + 1) df).bind fun r0 =>
 cond (exIs r0.e (.exit 2))
  ((ixS 1 (r0.v 0) (r0.v 7)).bind fun t114 =>
  (ld1 r0.h t114).bind fun t115 =>
  (aBinOp P .neq 3 (r0.v 8) t115).bind fun t116 =>
  boolK t116
   (some { e := .ret, vs := [(r0.v 0), (r0.v 1), (.bool false), (r0.v 3), (r0.v 4), (r0.v 5), (r0.v 6), (r0.v 7)], h := r0.h, c := ((r0.c + 1) + 1), df := r0.df })
   ((aBinOp P .add 3 (r0.v 7) (.int .i64 1)).bind fun t86 =>
   some { e := .normal, vs := [(r0.v 0), (r0.v 1), (r0.v 2), (r0.v 3), (r0.v 4), (r0.v 5), (r0.v 6), t86], h := r0.h, c := ((r0.c + 1) + 1), df := r0.df }))
  (none))
 (some { e := (.exit 0), vs := [t1, t2, t4, t5, t6, t8, t10, t12], h := h, c := (c + 1), df := df })
theorem f5_L5000_eq (o : Orc H) (rd : Option Nat) (t1 t2 t4 t5 t6 t8 t10 t12 : Value) (h : H) (c : Nat) (df : List Nat) : jx P o 183 rd f5_c5000 (tmOf [1, 2, 4, 5, 6, 8, 10, 12] [t1, t2, t4, t5, t6, t8, t10, t12]) h c df (Klp [1, 2, 4, 5, 6, 8, 10, 12]) = f5_L5000 o rd t1 t2 t4 t5 t6 t8 t10 t12 h c df := by kernel_rfl
noncomputable def f5_L5002 (o : Orc H) (rd : Option Nat) (t4 t6 t10 t16 t18 : Value) (h : H) (c : Nat) (df : List Nat) : Option (Rt H) :=
 (lenS t16).bind fun t144 =>
 (aBinOp P .lss 3 t18 t144).bind fun t145 =>
 boolK t145
 ((ixS 1 t16 t18).bind fun t150 =>
 (ld1 h t150).bind fun t151 =>
 (aBinOp P .neq 3 t151 (.int .i64 0)).bind fun t152 =>
 boolK t152
  (some { e := .ret, vs := [(.bool false), t6, t10, t16, t18], h := h, c := (((c + 1) + 1) + 1), df := df })
  ((aBinOp P .add 3 t18 (.int .i64 1)).bind fun t147 =>
  some { e := .normal, vs := [t4, t6, t10, t16, t147], h := h, c := (((c + 1) + 1) + 1), df := df }))
 (some { e := (.exit 4), vs := [t4, t6, t10, t16, t18], h := h, c := (c + 1), df := df })
theorem f5_L5002_eq (o : Orc H) (rd : Option Nat) (t4 t6 t10 t16 t18 : Value) (h : H) (c : Nat) (df : List Nat) : jx P o 183 rd f5_c5002 (tmOf [4, 6, 10, 16, 18] [t4, t6, t10, t16, t18]) h c df (Klp [4, 6, 10, 16, 18]) = f5_L5002 o rd t4 t6 t10 t16 t18 h c df := by kernel_rfl
noncomputable def f5_L5003 (o : Orc H) (rd : Option Nat) (t4 t6 t10 t19 t20 : Value) (h : H) (c : Nat) (df : List Nat) : Option (Rt H) :=
 (lenS t10).bind fun t155 =>
 (aBinOp P .lss 3 t20 t155).bind fun t156 =>
 boolK t156
 (((gv t19 true).bind fun w => cond w (ret1 h ((c + 1) + 1) (some t10)) (some (undef, h, ((c + 1) + 1)))).bind fun r0 =>
 ((gv t19 true).bind fun w => cond w (ret1 r0.2.1 r0.2.2 (some t20)) (some (undef, r0.2.1, r0.2.2))).bind fun r1 =>
 ((gv t19 true).bind fun w => cond w (ret1 r1.2.1 r1.2.2 (ixS 1 r0.1 r1.1)) (some (undef, r1.2.1, r1.2.2))).bind fun r2 =>
 ((gv t19 true).bind fun w => cond w (ret1 r2.2.1 r2.2.2 (ld1 r2.2.1 r2.1)) (some (undef, r2.2.1, r2.2.2))).bind fun r3 =>
 ((gv t19 true).bind fun w => cond w (ret1 r3.2.1 r3.2.2 (aBinOp P .eql 3 r3.1 (.int .i64 0))) (some (undef, r3.2.1, r3.2.2))).bind fun r4 =>
 (pickV t19 r4.1 (.bool false)).bind fun t166 =>
 (aBinOp P .add 3 t20 (.int .i64 1)).bind fun t158 =>
 some { e := .normal, vs := [t4, t6, t10, t166, t158], h := r4.2.1, c := (r4.2.2 + 1), df := df })
 (some { e := (.exit 6), vs := [t4, t6, t10, t19, t20], h := h, c := (c + 1), df := df })
theorem f5_L5003_eq (o : Orc H) (rd : Option Nat) (t4 t6 t10 t19 t20 : Value) (h : H) (c : Nat) (df : List Nat) : jx P o 183 rd f5_c5003 (tmOf [4, 6, 10, 19, 20] [t4, t6, t10, t19, t20]) h c df (Klp [4, 6, 10, 19, 20]) = f5_L5003 o rd t4 t6 t10 t19 t20 h c df := by kernel_rfl
noncomputable def f5_L5004 (o : Orc H) (rd : Option Nat) (t4 t6 t19 t21 : Value) (h : H) (c : Nat) (df : List Nat) : Option (Rt H) :=
 (lenS t6).bind fun t169 =>
 (aBinOp P .lss 3 t21 t169).bind fun t170 =>
 ((gv t170 true).bind fun w => cond w (ret1 h (c + 1) (some t19)) (some (undef, h, (c + 1)))).bind fun r0 =>
 (pickV t170 r0.1 (.bool false)).bind fun t173 =>
 boolK t173
 ((ixS 1 t6 t21).bind fun t178 =>
 (ld1 r0.2.1 t178).bind fun t179 =>
 (aBinOp P .eql 3 t179 (.int .i64 0)).bind fun t180 =>
 (aUnOp .not t180).bind fun t182 =>
 boolK t182
  (some { e := .ret, vs := [(.bool false), t6, t180, t21], h := r0.2.1, c := (((r0.2.2 + 1) + 1) + 1), df := df })
  ((aBinOp P .add 3 t21 (.int .i64 1)).bind fun t175 =>
  some { e := .normal, vs := [t4, t6, t180, t175], h := r0.2.1, c := (((r0.2.2 + 1) + 1) + 1), df := df }))
 (some { e := (.exit 8), vs := [t4, t6, t19, t21], h := r0.2.1, c := r0.2.2, df := df })
theorem f5_L5004_eq (o : Orc H) (rd : Option Nat) (t4 t6 t19 t21 : Value) (h : H) (c : Nat) (df : List Nat) : jx P o 183 rd f5_c5004 (tmOf [4, 6, 19, 21] [t4, t6, t19, t21]) h c df (Klp [4, 6, 19, 21]) = f5_L5004 o rd t4 t6 t19 t21 h c df := by kernel_rfl
noncomputable def f5_S (o : Orc H) (t0 t1 : Value) (h : H) (c : Nat) : Option (Rt H) :=
 (bif (t0 : Value).cells.toList.all isFlat then
 (callF o 11 [] (newB h (256 * c + 0) (t0 : Value).cells.toList) ((c + 1) + 1)).bind fun r0 =>
 (aUnOp .not r0.1).bind fun t23 =>
 boolK t23
 (some { e := .ret, vs := [(.bool false)], h := r0.2.1, c := (r0.2.2 + 1), df := [] })
 ((ldN r0.2.1 1 (ptrTo (256 * c + 0))).bind fun t24 =>
 (callF o 12 [t24] r0.2.1 (r0.2.2 + 1)).bind fun r1 =>
 (aUnOp .not r1.1).bind fun t26 =>
 ((gv t26 false).bind fun w => cond w (ret1 r1.2.1 r1.2.2 (some t1)) (some (undef, r1.2.1, r1.2.2))).bind fun r2 =>
 ((gv t26 false).bind fun w => cond w ((bldL [(.slice none 0 0)] [(0, 1, r2.1)]).bind fun cs => some (.slice (some ⟨(256 * r0.2.2 + 5), 0, none⟩) 1 1, newB r2.2.1 (256 * r0.2.2 + 5) cs, r2.2.2)) (some (undef, r2.2.1, r2.2.2))).bind fun r3 =>
 ((gv t26 false).bind fun w => cond w (callF o 18 [r3.1] r3.2.1 r3.2.2) (some (undef, r3.2.1, r3.2.2))).bind fun r4 =>
 ((gv t26 false).bind fun w => cond w (ret1 r4.2.1 r4.2.2 (aUnOp .not r4.1)) (some (undef, r4.2.1, r4.2.2))).bind fun r5 =>
 (pickV t26 (.bool true) r5.1).bind fun t32 =>
 ((gv t32 false).bind fun w => cond w (ret1 r5.2.1 r5.2.2 (ldN r5.2.1 1 (ptrTo (256 * c + 0)))) (some (undef, r5.2.1, r5.2.2))).bind fun r6 =>
 ((gv t32 false).bind fun w => cond w (ret1 r6.2.1 r6.2.2 (some t1)) (some (undef, r6.2.1, r6.2.2))).bind fun r7 =>
 ((gv t32 false).bind fun w => cond w (callF o 17 [r6.1, r7.1] r7.2.1 r7.2.2) (some (undef, r7.2.1, r7.2.2))).bind fun r8 =>
 ((gv t32 false).bind fun w => cond w (ret1 r8.2.1 r8.2.2 (aBinOp P .neq 27 r8.1 (.int .i64 0))) (some (undef, r8.2.1, r8.2.2))).bind fun r9 =>
 (pickV t32 (.bool true) r9.1).bind fun t38 =>
 boolK t38
  (some { e := .ret, vs := [(.bool true)], h := r9.2.1, c := (r9.2.2 + 1), df := [] })
  ((ldN r9.2.1 1 (ptrTo (256 * c + 0))).bind fun t40 =>
  (callF o 23 [t40, t1] r9.2.1 (r9.2.2 + 1)).bind fun r10 =>
  (extV r10.1 0).bind fun t43 =>
  (extV r10.1 1).bind fun t44 =>
  (extV r10.1 2).bind fun t45 =>
  (ldN r10.2.1 1 (ptrTo (256 * c + 0))).bind fun t47 =>
  (callF o 14 [t47] r10.2.1 (r10.2.2 + 1)).bind fun r11 =>
  (extV r11.1 0).bind fun t49 =>
  (extV r11.1 1).bind fun t50 =>
  (ldN r11.2.1 1 (ptrTo (256 * c + 0))).bind fun t52 =>
  (callF o 24 [t52, t1] r11.2.1 (r11.2.2 + 1)).bind fun r12 =>
  (extV r12.1 0).bind fun t55 =>
  (extV r12.1 1).bind fun t56 =>
  (aBinOp P .neq 27 t45 (.int .i64 0)).bind fun t58 =>
  ((gv t58 false).bind fun w => cond w (ret1 r12.2.1 (r12.2.2 + 1) (some t50)) (some (undef, r12.2.1, (r12.2.2 + 1)))).bind fun r13 =>
  ((gv t58 false).bind fun w => cond w (ret1 r13.2.1 r13.2.2 (aBinOp P .neq 27 r13.1 (.int .i64 0))) (some (undef, r13.2.1, r13.2.2))).bind fun r14 =>
  (pickV t58 (.bool true) r14.1).bind fun t62 =>
  ((gv t62 false).bind fun w => cond w (ret1 r14.2.1 r14.2.2 (some t56)) (some (undef, r14.2.1, r14.2.2))).bind fun r15 =>
  ((gv t62 false).bind fun w => cond w (ret1 r15.2.1 r15.2.2 (aBinOp P .neq 27 r15.1 (.int .i64 0))) (some (undef, r15.2.1, r15.2.2))).bind fun r16 =>
  (pickV t62 (.bool true) r16.1).bind fun t66 =>
  ((gv t66 false).bind fun w => cond w (ret1 r16.2.1 r16.2.2 (some t43)) (some (undef, r16.2.1, r16.2.2))).bind fun r17 =>
  ((gv t66 false).bind fun w => cond w (((lenS r17.1).bind fun v => some (v, r17.2.1)).bind fun r => some (r.1, r.2, r17.2.2)) (some (undef, r17.2.1, r17.2.2))).bind fun r18 =>
  ((gv t66 false).bind fun w => cond w (ret1 r18.2.1 r18.2.2 (some t49)) (some (undef, r18.2.1, r18.2.2))).bind fun r19 =>
  ((gv t66 false).bind fun w => cond w (((lenS r19.1).bind fun v => some (v, r19.2.1)).bind fun r => some (r.1, r.2, r19.2.2)) (some (undef, r19.2.1, r19.2.2))).bind fun r20 =>
  ((gv t66 false).bind fun w => cond w (ret1 r20.2.1 r20.2.2 (aBinOp P .neq 3 r18.1 r20.1)) (some (undef, r20.2.1, r20.2.2))).bind fun r21 =>
  (pickV t66 (.bool true) r21.1).bind fun t73 =>
  ((gv t73 false).bind fun w => cond w (ret1 r21.2.1 r21.2.2 (some t44)) (some (undef, r21.2.1, r21.2.2))).bind fun r22 =>
  ((gv t73 false).bind fun w => cond w (((lenS r22.1).bind fun v => some (v, r22.2.1)).bind fun r => some (r.1, r.2, r22.2.2)) (some (undef, r22.2.1, r22.2.2))).bind fun r23 =>
  ((gv t73 false).bind fun w => cond w (ret1 r23.2.1 r23.2.2 (some t1)) (some (undef, r23.2.1, r23.2.2))).bind fun r24 =>
  ((gv t73 false).bind fun w => cond w (((lenS r24.1).bind fun v => some (v, r24.2.1)).bind fun r => some (r.1, r.2, r24.2.2)) (some (undef, r24.2.1, r24.2.2))).bind fun r25 =>
  ((gv t73 false).bind fun w => cond w (ret1 r25.2.1 r25.2.2 (aBinOp P .neq 3 r23.1 r25.1)) (some (undef, r25.2.1, r25.2.2))).bind fun r26 =>
  (pickV t73 (.bool true) r26.1).bind fun t80 =>
  boolK t80
   (some { e := .ret, vs := [(.bool false)], h := r26.2.1, c := (r26.2.2 + 1), df := [] })
   ((o (f5_k5000 none) [t1, (ptrTo (256 * c + 0)), (.bool false), t43, t44, t49, t55, (.int .i64 0)] r26.2.1 (r26.2.2 + 1) []).bind fun r27 =>
   cond (exIs r27.e (.exit 0))
    ((ldN r27.h 1 (r27.v 1)).bind fun t118 =>
    (callF o 25 [t118, (r27.v 6)] r27.h (r27.c + 1)).bind fun r29 =>
    (extV r29.1 0).bind fun t121 =>
    (extV r29.1 1).bind fun t122 =>
    (ldN r29.2.1 1 (r27.v 1)).bind fun t124 =>
    (callF o 23 [t124, (r27.v 4)] r29.2.1 (r29.2.2 + 1)).bind fun r30 =>
    (extV r30.1 0).bind fun t127 =>
    (extV r30.1 1).bind fun t128 =>
    (extV r30.1 2).bind fun t129 =>
    (aBinOp P .neq 27 t122 (.int .i64 0)).bind fun t131 =>
    ((gv t131 false).bind fun w => cond w (ret1 r30.2.1 (r30.2.2 + 1) (some t129)) (some (undef, r30.2.1, (r30.2.2 + 1)))).bind fun r31 =>
    ((gv t131 false).bind fun w => cond w (ret1 r31.2.1 r31.2.2 (aBinOp P .neq 27 r31.1 (.int .i64 0))) (some (undef, r31.2.1, r31.2.2))).bind fun r32 =>
    (pickV t131 (.bool true) r32.1).bind fun t135 =>
    ((gv t135 false).bind fun w => cond w (ret1 r32.2.1 r32.2.2 (some t121)) (some (undef, r32.2.1, r32.2.2))).bind fun r33 =>
    ((gv t135 false).bind fun w => cond w (ret1 r33.2.1 r33.2.2 (some (r27.v 4))) (some (undef, r33.2.1, r33.2.2))).bind fun r34 =>
    ((gv t135 false).bind fun w => cond w (callF o 21 [r33.1, r34.1] r34.2.1 r34.2.2) (some (undef, r34.2.1, r34.2.2))).bind fun r35 =>
    ((gv t135 false).bind fun w => cond w (ret1 r35.2.1 r35.2.2 (aUnOp .not r35.1)) (some (undef, r35.2.1, r35.2.2))).bind fun r36 =>
    (pickV t135 (.bool true) r36.1).bind fun t141 =>
    boolK t141
     ((takeAll r36.2.1 r27.df).bind fun h37 =>
     some { e := .ret, vs := [(.bool false)], h := h37, c := (r36.2.2 + 1), df := [] })
     ((o (f5_k5002 none) [(r27.v 2), (r27.v 4), (r27.v 6), t127, (.int .i64 0)] r36.2.1 (r36.2.2 + 1) r27.df).bind fun r38 =>
     cond (exIs r38.e (.exit 4))
      ((o (f5_k5003 none) [(r38.v 0), (r38.v 1), (r38.v 2), (.bool true), (.int .i64 0)] r38.h ((r38.c + 1) + 1) r38.df).bind fun r40 =>
      cond (exIs r40.e (.exit 6))
       ((o (f5_k5004 none) [(r40.v 0), (r40.v 1), (r40.v 3), (.int .i64 0)] r40.h (r40.c + 1) r40.df).bind fun r41 =>
       cond (exIs r41.e (.exit 8))
        ((takeAll r41.h r41.df).bind fun h43 =>
        some { e := .ret, vs := [(.bool true)], h := h43, c := (r41.c + 1), df := [] })
        (cond (exIs r41.e .ret)
         ((takeAll r41.h r41.df).bind fun h42 =>
         some { e := .ret, vs := [(r41.v 0)], h := h42, c := r41.c, df := [] })
         (none)))
       (none))
      (cond (exIs r38.e .ret)
       ((takeAll r38.h r38.df).bind fun h39 =>
       some { e := .ret, vs := [(r38.v 0)], h := h39, c := r38.c, df := [] })
       (none))))
    (cond (exIs r27.e .ret)
     ((takeAll r27.h r27.df).bind fun h28 =>
     some { e := .ret, vs := [(r27.v 2)], h := h28, c := r27.c, df := [] })
     (none)))))
 else none)
theorem f5_S_eq (o : Orc H) (t0 t1 : Value) (h : H) (c : Nat) : jx P o 183 none f5_c (tmOf (List.range 2) [t0, t1]) h c [] (Kfn P Try.f5.results.toList) = f5_S o t0 t1 h c := by kernel_rfl
theorem f5_go {t0 t1 : Value} {h : FH} {c : Nat} {df : List Nat} {r : Rt FH} (e : f5_S G t0 t1 h c = some r) : G (.fn 5) [t0, t1] h c df = some (gcR h c [] r) := runG_fn (a := f5_f) bk_5 rfl (fun args h c => by cases args <;> rfl) rfl ((f5_S_eq G t0 t1 h c).trans e)
theorem f5_N5001 {rd : Option Nat} {t1 t2 t4 t5 t6 t8 t10 t12 t13 t14 : Value} {h : FH} {c : Nat} {df : List Nat} {q r : Rt FH} (e : f5_L5001 G rd t1 t2 t4 t5 t6 t8 t10 t12 t13 t14 h c df = some q) (hq : q.e = .normal) (k : G (f5_k5001 rd) q.vs (gcR h c df q).h (gcR h c df q).c q.df = some r) : G (f5_k5001 rd) [t1, t2, t4, t5, t6, t8, t10, t12, t13, t14] h c df = some r := runG_lp_next ((f5_L5001_eq G rd t1 t2 t4 t5 t6 t8 t10 t12 t13 t14 h c df).trans e) hq k
theorem f5_Z5001 {rd : Option Nat} {t1 t2 t4 t5 t6 t8 t10 t12 t13 t14 : Value} {h : FH} {c : Nat} {df : List Nat} {q : Rt FH} (e : f5_L5001 G rd t1 t2 t4 t5 t6 t8 t10 t12 t13 t14 h c df = some q) (hq : q.e ≠ .normal) : G (f5_k5001 rd) [t1, t2, t4, t5, t6, t8, t10, t12, t13, t14] h c df = some (gcR h c df q) := runG_lp_last ((f5_L5001_eq G rd t1 t2 t4 t5 t6 t8 t10 t12 t13 t14 h c df).trans e) hq
theorem f5_N5000 {rd : Option Nat} {t1 t2 t4 t5 t6 t8 t10 t12 : Value} {h : FH} {c : Nat} {df : List Nat} {q r : Rt FH} (e : f5_L5000 G rd t1 t2 t4 t5 t6 t8 t10 t12 h c df = some q) (hq : q.e = .normal) (k : G (f5_k5000 rd) q.vs (gcR h c df q).h (gcR h c df q).c q.df = some r) : G (f5_k5000 rd) [t1, t2, t4, t5, t6, t8, t10, t12] h c df = some r := runG_lp_next ((f5_L5000_eq G rd t1 t2 t4 t5 t6 t8 t10 t12 h c df).trans e) hq k
theorem f5_Z5000 {rd : Option Nat} {t1 t2 t4 t5 t6 t8 t10 t12 : Value} {h : FH} {c : Nat} {df : List Nat} {q : Rt FH} (e : f5_L5000 G rd t1 t2 t4 t5 t6 t8 t10 t12 h c df = some q) (hq : q.e ≠ .normal) : G (f5_k5000 rd) [t1, t2, t4, t5, t6, t8, t10, t12] h c df = some (gcR h c df q) := runG_lp_last ((f5_L5000_eq G rd t1 t2 t4 t5 t6 t8 t10 t12 h c df).trans e) hq
theorem f5_N5002 {rd : Option Nat} {t4 t6 t10 t16 t18 : Value} {h : FH} {c : Nat} {df : List Nat} {q r : Rt FH} (e : f5_L5002 G rd t4 t6 t10 t16 t18 h c df = some q) (hq : q.e = .normal) (k : G (f5_k5002 rd) q.vs (gcR h c df q).h (gcR h c df q).c q.df = some r) : G (f5_k5002 rd) [t4, t6, t10, t16, t18] h c df = some r := runG_lp_next ((f5_L5002_eq G rd t4 t6 t10 t16 t18 h c df).trans e) hq k
theorem f5_Z5002 {rd : Option Nat} {t4 t6 t10 t16 t18 : Value} {h : FH} {c : Nat} {df : List Nat} {q : Rt FH} (e : f5_L5002 G rd t4 t6 t10 t16 t18 h c df = some q) (hq : q.e ≠ .normal) : G (f5_k5002 rd) [t4, t6, t10, t16, t18] h c df = some (gcR h c df q) := runG_lp_last ((f5_L5002_eq G rd t4 t6 t10 t16 t18 h c df).trans e) hq
theorem f5_N5003 {rd : Option Nat} {t4 t6 t10 t19 t20 : Value} {h : FH} {c : Nat} {df : List Nat} {q r : Rt FH} (e : f5_L5003 G rd t4 t6 t10 t19 t20 h c df = some q) (hq : q.e = .normal) (k : G (f5_k5003 rd) q.vs (gcR h c df q).h (gcR h c df q).c q.df = some r) : G (f5_k5003 rd) [t4, t6, t10, t19, t20] h c df = some r := runG_lp_next ((f5_L5003_eq G rd t4 t6 t10 t19 t20 h c df).trans e) hq k
theorem f5_Z5003 {rd : Option Nat} {t4 t6 t10 t19 t20 : Value} {h : FH} {c : Nat} {df : List Nat} {q : Rt FH} (e : f5_L5003 G rd t4 t6 t10 t19 t20 h c df = some q) (hq : q.e ≠ .normal) : G (f5_k5003 rd) [t4, t6, t10, t19, t20] h c df = some (gcR h c df q) := runG_lp_last ((f5_L5003_eq G rd t4 t6 t10 t19 t20 h c df).trans e) hq
theorem f5_N5004 {rd : Option Nat} {t4 t6 t19 t21 : Value} {h : FH} {c : Nat} {df : List Nat} {q r : Rt FH} (e : f5_L5004 G rd t4 t6 t19 t21 h c df = some q) (hq : q.e = .normal) (k : G (f5_k5004 rd) q.vs (gcR h c df q).h (gcR h c df q).c q.df = some r) : G (f5_k5004 rd) [t4, t6, t19, t21] h c df = some r := runG_lp_next ((f5_L5004_eq G rd t4 t6 t19 t21 h c df).trans e) hq k
theorem f5_Z5004 {rd : Option Nat} {t4 t6 t19 t21 : Value} {h : FH} {c : Nat} {df : List Nat} {q : Rt FH} (e : f5_L5004 G rd t4 t6 t19 t21 h c df = some q) (hq : q.e ≠ .normal) : G (f5_k5004 rd) [t4, t6, t19, t21] h c df = some (gcR h c df q) := runG_lp_last ((f5_L5004_eq G rd t4 t6 t19 t21 h c df).trans e) hq
noncomputable def f11_S (o : Orc H) (h : H) (c : Nat) : Option (Rt H) :=
 (callF o 40 [(.string (ByteArray.mk #[49, 32, 48, 32, 49, 48, 50, 51, 32, 48, 32, 49, 48, 50, 51, 32, 48, 32, 48, 49, 51, 50, 32, 48, 32, 48, 49, 51, 50]))] h ((c + 1) + 1)).bind fun r0 =>
 (extV r0.1 0).bind fun t20 =>
 (extV r0.1 1).bind fun t21 =>
 (stN (newB r0.2.1 (256 * (c + 1) + 4) [(.slice none 0 0)]) 1 (ptrTo (256 * (c + 1) + 4)) t20).bind fun h2 =>
 (bldL [(.int .i64 0), (.int .i64 0), (.int .i64 0), (.int .i64 0), (.int .i64 0), (.int .i64 0), (.int .i64 0)] [(0, 1, (.int .i64 0)), (1, 1, (.int .i64 0)), (2, 1, (.int .i64 0)), (3, 1, (.int .i64 0)), (4, 1, (.int .i64 1)), (5, 1, (.int .i64 0)), (6, 1, (.int .i64 0))]).bind fun r3 =>
 (ldN (newB h2 (256 * r0.2.2 + 0) r3) 1 (ptrTo (256 * (c + 1) + 4))).bind fun t24 =>
 (callF o 14 [t24] (newB h2 (256 * r0.2.2 + 0) r3) ((r0.2.2 + 1) + 1)).bind fun r4 =>
 (extV r4.1 0).bind fun t26 =>
 (extV r4.1 1).bind fun t27 =>
 (aBinOp P .neq 27 t27 (.int .i64 0)).bind fun t29 =>
 ((gv t29 false).bind fun w => cond w (ret1 r4.2.1 (r4.2.2 + 1) (some t26)) (some (undef, r4.2.1, (r4.2.2 + 1)))).bind fun r5 =>
 ((gv t29 false).bind fun w => cond w (((lenS r5.1).bind fun v => some (v, r5.2.1)).bind fun r => some (r.1, r.2, r5.2.2)) (some (undef, r5.2.1, r5.2.2))).bind fun r6 =>
 ((gv t29 false).bind fun w => cond w (ret1 r6.2.1 r6.2.2 (aBinOp P .neq 3 r6.1 (.int .i64 2))) (some (undef, r6.2.1, r6.2.2))).bind fun r7 =>
 (pickV t29 (.bool true) r7.1).bind fun t34 =>
 ((gv t34 false).bind fun w => cond w (ret1 r7.2.1 r7.2.2 (some t26)) (some (undef, r7.2.1, r7.2.2))).bind fun r8 =>
 ((gv t34 false).bind fun w => cond w (ret1 r8.2.1 r8.2.2 (ixS 1 r8.1 (.int .i64 0))) (some (undef, r8.2.1, r8.2.2))).bind fun r9 =>
 ((gv t34 false).bind fun w => cond w (ret1 r9.2.1 r9.2.2 (ld1 r9.2.1 r9.1)) (some (undef, r9.2.1, r9.2.2))).bind fun r10 =>
 ((gv t34 false).bind fun w => cond w ((bldL [(.int .i64 0), (.int .i64 0), (.int .i64 0), (.int .i64 0), (.int .i64 0), (.int .i64 0), (.int .i64 0)] [(0, 1, (.int .i64 1)), (1, 1, (.int .i64 1)), (2, 1, (.int .i64 0)), (3, 1, (.int .i64 0)), (4, 1, (.int .i64 0)), (5, 1, (.int .i64 0)), (6, 1, (.int .i64 0))]).bind fun cs => some (.slice (some ⟨(256 * r4.2.2 + 11), 0, none⟩) 7 7, newB r10.2.1 (256 * r4.2.2 + 11) cs, r10.2.2)) (some (undef, r10.2.1, r10.2.2))).bind fun r11 =>
 ((gv t34 false).bind fun w => cond w (callF o 21 [r10.1, r11.1] r11.2.1 r11.2.2) (some (undef, r11.2.1, r11.2.2))).bind fun r12 =>
 ((gv t34 false).bind fun w => cond w (ret1 r12.2.1 r12.2.2 (aUnOp .not r12.1)) (some (undef, r12.2.1, r12.2.2))).bind fun r13 =>
 (pickV t34 (.bool true) r13.1).bind fun t42 =>
 ((gv t42 false).bind fun w => cond w (ret1 r13.2.1 r13.2.2 (some t26)) (some (undef, r13.2.1, r13.2.2))).bind fun r14 =>
 ((gv t42 false).bind fun w => cond w (ret1 r14.2.1 r14.2.2 (ixS 1 r14.1 (.int .i64 1))) (some (undef, r14.2.1, r14.2.2))).bind fun r15 =>
 ((gv t42 false).bind fun w => cond w (ret1 r15.2.1 r15.2.2 (ld1 r15.2.1 r15.1)) (some (undef, r15.2.1, r15.2.2))).bind fun r16 =>
 ((gv t42 false).bind fun w => cond w ((bldL [(.int .i64 0), (.int .i64 0), (.int .i64 0), (.int .i64 0), (.int .i64 0), (.int .i64 0), (.int .i64 0)] [(0, 1, (.int .i64 0)), (1, 1, (.int .i64 0)), (2, 1, (.int .i64 1)), (3, 1, (.int .i64 1)), (4, 1, (.int .i64 0)), (5, 1, (.int .i64 0)), (6, 1, (.int .i64 0))]).bind fun cs => some (.slice (some ⟨(256 * r4.2.2 + 19), 0, none⟩) 7 7, newB r16.2.1 (256 * r4.2.2 + 19) cs, r16.2.2)) (some (undef, r16.2.1, r16.2.2))).bind fun r17 =>
 ((gv t42 false).bind fun w => cond w (callF o 21 [r16.1, r17.1] r17.2.1 r17.2.2) (some (undef, r17.2.1, r17.2.2))).bind fun r18 =>
 ((gv t42 false).bind fun w => cond w (ret1 r18.2.1 r18.2.2 (aUnOp .not r18.1)) (some (undef, r18.2.1, r18.2.2))).bind fun r19 =>
 (pickV t42 (.bool true) r19.1).bind fun t50 =>
 boolK t50
 (some { e := .ret, vs := [(.bool false)], h := r19.2.1, c := (r19.2.2 + 1), df := [] })
 ((ldN r19.2.1 1 (ptrTo (256 * (c + 1) + 4))).bind fun t52 =>
 (ixS 1 t26 (.int .i64 0)).bind fun t54 =>
 (ld1 r19.2.1 t54).bind fun t55 =>
 (callF o 15 [t52, t55] r19.2.1 (r19.2.2 + 1)).bind fun r20 =>
 (extV r20.1 0).bind fun t57 =>
 (extV r20.1 1).bind fun t58 =>
 (ldN r20.2.1 1 (ptrTo (256 * (c + 1) + 4))).bind fun t60 =>
 (ixS 1 t26 (.int .i64 1)).bind fun t62 =>
 (ld1 r20.2.1 t62).bind fun t63 =>
 (callF o 15 [t60, t63] r20.2.1 (r20.2.2 + 1)).bind fun r21 =>
 (extV r21.1 0).bind fun t65 =>
 (extV r21.1 1).bind fun t66 =>
 (ldN r21.2.1 1 (ptrTo (256 * (c + 1) + 4))).bind fun t68 =>
 (ixS 1 t26 (.int .i64 0)).bind fun t70 =>
 (ld1 r21.2.1 t70).bind fun t71 =>
 (callF o 16 [t68, t71] r21.2.1 (r21.2.2 + 1)).bind fun r22 =>
 (extV r22.1 0).bind fun t73 =>
 (extV r22.1 1).bind fun t74 =>
 (ldN r22.2.1 1 (ptrTo (256 * (c + 1) + 4))).bind fun t76 =>
 (callF o 16 [t76, (.slice (some ⟨(256 * r0.2.2 + 0), 0, none⟩) 7 7)] r22.2.1 (r22.2.2 + 1)).bind fun r23 =>
 (extV r23.1 0).bind fun t79 =>
 (extV r23.1 1).bind fun t80 =>
 (ldN r23.2.1 1 (ptrTo (256 * (c + 1) + 4))).bind fun t82 =>
 (callF o 15 [t82, (.slice (some ⟨(256 * r0.2.2 + 0), 0, none⟩) 7 7)] r23.2.1 (r23.2.2 + 1)).bind fun r24 =>
 (extV r24.1 0).bind fun t85 =>
 (extV r24.1 1).bind fun t86 =>
 (aBinOp P .neq 27 t58 (.int .i64 0)).bind fun t88 =>
 ((gv t88 false).bind fun w => cond w (ret1 r24.2.1 (r24.2.2 + 1) (some t66)) (some (undef, r24.2.1, (r24.2.2 + 1)))).bind fun r25 =>
 ((gv t88 false).bind fun w => cond w (ret1 r25.2.1 r25.2.2 (aBinOp P .neq 27 r25.1 (.int .i64 0))) (some (undef, r25.2.1, r25.2.2))).bind fun r26 =>
 (pickV t88 (.bool true) r26.1).bind fun t92 =>
 ((gv t92 false).bind fun w => cond w (ret1 r26.2.1 r26.2.2 (some t74)) (some (undef, r26.2.1, r26.2.2))).bind fun r27 =>
 ((gv t92 false).bind fun w => cond w (ret1 r27.2.1 r27.2.2 (aBinOp P .neq 27 r27.1 (.int .i64 0))) (some (undef, r27.2.1, r27.2.2))).bind fun r28 =>
 (pickV t92 (.bool true) r28.1).bind fun t96 =>
 ((gv t96 false).bind fun w => cond w (ret1 r28.2.1 r28.2.2 (some t80)) (some (undef, r28.2.1, r28.2.2))).bind fun r29 =>
 ((gv t96 false).bind fun w => cond w (ret1 r29.2.1 r29.2.2 (aBinOp P .neq 27 r29.1 (.int .i64 0))) (some (undef, r29.2.1, r29.2.2))).bind fun r30 =>
 (pickV t96 (.bool true) r30.1).bind fun t100 =>
 ((gv t100 false).bind fun w => cond w (ret1 r30.2.1 r30.2.2 (some t86)) (some (undef, r30.2.1, r30.2.2))).bind fun r31 =>
 ((gv t100 false).bind fun w => cond w (ret1 r31.2.1 r31.2.2 (aBinOp P .neq 27 r31.1 (.int .i64 0))) (some (undef, r31.2.1, r31.2.2))).bind fun r32 =>
 (pickV t100 (.bool true) r32.1).bind fun t104 =>
 ((gv t104 false).bind fun w => cond w (ret1 r32.2.1 r32.2.2 (some t57)) (some (undef, r32.2.1, r32.2.2))).bind fun r33 =>
 ((gv t104 false).bind fun w => cond w (ret1 r33.2.1 r33.2.2 (aBinOp P .neq 3 r33.1 (.int .i64 2))) (some (undef, r33.2.1, r33.2.2))).bind fun r34 =>
 (pickV t104 (.bool true) r34.1).bind fun t108 =>
 ((gv t108 false).bind fun w => cond w (ret1 r34.2.1 r34.2.2 (some t65)) (some (undef, r34.2.1, r34.2.2))).bind fun r35 =>
 ((gv t108 false).bind fun w => cond w (ret1 r35.2.1 r35.2.2 (aBinOp P .neq 3 r35.1 (.int .i64 2))) (some (undef, r35.2.1, r35.2.2))).bind fun r36 =>
 (pickV t108 (.bool true) r36.1).bind fun t112 =>
 ((gv t112 false).bind fun w => cond w (ret1 r36.2.1 r36.2.2 (some t85)) (some (undef, r36.2.1, r36.2.2))).bind fun r37 =>
 ((gv t112 false).bind fun w => cond w (ret1 r37.2.1 r37.2.2 (aBinOp P .neq 3 r37.1 (.int .i64 0))) (some (undef, r37.2.1, r37.2.2))).bind fun r38 =>
 (pickV t112 (.bool true) r38.1).bind fun t116 =>
 ((gv t116 false).bind fun w => cond w (ret1 r38.2.1 r38.2.2 (some t73)) (some (undef, r38.2.1, r38.2.2))).bind fun r39 =>
 ((gv t116 false).bind fun w => cond w ((bldL [(.int .i64 0), (.int .i64 0), (.int .i64 0)] [(0, 1, (.int .i64 2)), (1, 1, (.int .i64 1)), (2, 1, (.int .i64 0))]).bind fun cs => some (.slice (some ⟨(256 * r24.2.2 + 32), 0, none⟩) 3 3, newB r39.2.1 (256 * r24.2.2 + 32) cs, r39.2.2)) (some (undef, r39.2.1, r39.2.2))).bind fun r40 =>
 ((gv t116 false).bind fun w => cond w (callF o 21 [r39.1, r40.1] r40.2.1 r40.2.2) (some (undef, r40.2.1, r40.2.2))).bind fun r41 =>
 ((gv t116 false).bind fun w => cond w (ret1 r41.2.1 r41.2.2 (aUnOp .not r41.1)) (some (undef, r41.2.1, r41.2.2))).bind fun r42 =>
 (pickV t116 (.bool true) r42.1).bind fun t122 =>
 ((gv t122 false).bind fun w => cond w (ret1 r42.2.1 r42.2.2 (some t79)) (some (undef, r42.2.1, r42.2.2))).bind fun r43 =>
 ((gv t122 false).bind fun w => cond w ((bldL [(.int .i64 0), (.int .i64 0), (.int .i64 0)] [(0, 1, (.int .i64 0)), (1, 1, (.int .i64 1)), (2, 1, (.int .i64 0))]).bind fun cs => some (.slice (some ⟨(256 * r24.2.2 + 38), 0, none⟩) 3 3, newB r43.2.1 (256 * r24.2.2 + 38) cs, r43.2.2)) (some (undef, r43.2.1, r43.2.2))).bind fun r44 =>
 ((gv t122 false).bind fun w => cond w (callF o 21 [r43.1, r44.1] r44.2.1 r44.2.2) (some (undef, r44.2.1, r44.2.2))).bind fun r45 =>
 ((gv t122 false).bind fun w => cond w (ret1 r45.2.1 r45.2.2 (aUnOp .not r45.1)) (some (undef, r45.2.1, r45.2.2))).bind fun r46 =>
 (pickV t122 (.bool true) r46.1).bind fun t128 =>
 boolK t128
  (some { e := .ret, vs := [(.bool false)], h := r46.2.1, c := (r46.2.2 + 1), df := [] })
  ((ldN r46.2.1 1 (ptrTo (256 * (c + 1) + 4))).bind fun t130 =>
  (bldL [(.int .i64 0), (.int .i64 0), (.int .i64 0)] [(0, 1, (.int .i64 1)), (1, 1, (.int .i64 0)), (2, 1, (.int .i64 0))]).bind fun r47 =>
  (callF o 25 [t130, (.slice (some ⟨(256 * r46.2.2 + 1), 0, none⟩) 3 3)] (newB r46.2.1 (256 * r46.2.2 + 1) r47) (r46.2.2 + 1)).bind fun r48 =>
  (extV r48.1 0).bind fun t133 =>
  (extV r48.1 1).bind fun t134 =>
  (ldN r48.2.1 1 (ptrTo (256 * (c + 1) + 4))).bind fun t136 =>
  (bldL [(.int .i64 0), (.int .i64 0), (.int .i64 0), (.int .i64 0), (.int .i64 0), (.int .i64 0), (.int .i64 0)] [(0, 1, (.int .i64 3)), (1, 1, (.int .i64 3)), (2, 1, (.int .i64 1)), (3, 1, (.int .i64 1)), (4, 1, (.int .i64 2)), (5, 1, (.int .i64 0)), (6, 1, (.int .i64 0))]).bind fun r49 =>
  (callF o 23 [t136, (.slice (some ⟨(256 * r48.2.2 + 1), 0, none⟩) 7 7)] (newB r48.2.1 (256 * r48.2.2 + 1) r49) (r48.2.2 + 1)).bind fun r50 =>
  (extV r50.1 0).bind fun t139 =>
  (extV r50.1 1).bind fun t140 =>
  (extV r50.1 2).bind fun t141 =>
  (aBinOp P .eql 27 t134 (.int .i64 0)).bind fun t143 =>
  ((gv t143 true).bind fun w => cond w (ret1 r50.2.1 (r50.2.2 + 1) (some t141)) (some (undef, r50.2.1, (r50.2.2 + 1)))).bind fun r51 =>
  ((gv t143 true).bind fun w => cond w (ret1 r51.2.1 r51.2.2 (aBinOp P .eql 27 r51.1 (.int .i64 0))) (some (undef, r51.2.1, r51.2.2))).bind fun r52 =>
  (pickV t143 r52.1 (.bool false)).bind fun t147 =>
  ((gv t147 true).bind fun w => cond w (ret1 r52.2.1 r52.2.2 (some t133)) (some (undef, r52.2.1, r52.2.2))).bind fun r53 =>
  ((gv t147 true).bind fun w => cond w (ret1 r53.2.1 r53.2.2 (some (.slice (some ⟨(256 * r0.2.2 + 0), 0, none⟩) 7 7))) (some (undef, r53.2.1, r53.2.2))).bind fun r54 =>
  ((gv t147 true).bind fun w => cond w (callF o 21 [r53.1, r54.1] r54.2.1 r54.2.2) (some (undef, r54.2.1, r54.2.2))).bind fun r55 =>
  (pickV t147 r55.1 (.bool false)).bind fun t152 =>
  ((gv t152 true).bind fun w => cond w (ret1 r55.2.1 r55.2.2 (some t139)) (some (undef, r55.2.1, r55.2.2))).bind fun r56 =>
  ((gv t152 true).bind fun w => cond w ((bldL [(.int .i64 0), (.int .i64 0)] [(0, 1, (.int .i64 3)), (1, 1, (.int .i64 1))]).bind fun cs => some (.slice (some ⟨(256 * r50.2.2 + 13), 0, none⟩) 2 2, newB r56.2.1 (256 * r50.2.2 + 13) cs, r56.2.2)) (some (undef, r56.2.1, r56.2.2))).bind fun r57 =>
  ((gv t152 true).bind fun w => cond w (callF o 21 [r56.1, r57.1] r57.2.1 r57.2.2) (some (undef, r57.2.1, r57.2.2))).bind fun r58 =>
  (pickV t152 r58.1 (.bool false)).bind fun t157 =>
  ((gv t157 true).bind fun w => cond w (ret1 r58.2.1 r58.2.2 (some t140)) (some (undef, r58.2.1, r58.2.2))).bind fun r59 =>
  ((gv t157 true).bind fun w => cond w ((bldL [(.int .i64 0), (.int .i64 0), (.int .i64 0), (.int .i64 0), (.int .i64 0), (.int .i64 0), (.int .i64 0)] [(0, 1, (.int .i64 0)), (1, 1, (.int .i64 0)), (2, 1, (.int .i64 0)), (3, 1, (.int .i64 0)), (4, 1, (.int .i64 2)), (5, 1, (.int .i64 0)), (6, 1, (.int .i64 0))]).bind fun cs => some (.slice (some ⟨(256 * r50.2.2 + 18), 0, none⟩) 7 7, newB r59.2.1 (256 * r50.2.2 + 18) cs, r59.2.2)) (some (undef, r59.2.1, r59.2.2))).bind fun r60 =>
  ((gv t157 true).bind fun w => cond w (callF o 21 [r59.1, r60.1] r60.2.1 r60.2.2) (some (undef, r60.2.1, r60.2.2))).bind fun r61 =>
  (pickV t157 r61.1 (.bool false)).bind fun t162 =>
  ((gv t162 true).bind fun w => cond w (ret1 r61.2.1 r61.2.2 (ldN r61.2.1 1 (ptrTo (256 * (c + 1) + 4)))) (some (undef, r61.2.1, r61.2.2))).bind fun r62 =>
  ((gv t162 true).bind fun w => cond w (ret1 r62.2.1 r62.2.2 (some (.slice (some ⟨(256 * r0.2.2 + 0), 0, none⟩) 7 7))) (some (undef, r62.2.1, r62.2.2))).bind fun r63 =>
  ((gv t162 true).bind fun w => cond w (callF o 17 [r62.1, r63.1] r63.2.1 r63.2.2) (some (undef, r63.2.1, r63.2.2))).bind fun r64 =>
  ((gv t162 true).bind fun w => cond w (ret1 r64.2.1 r64.2.2 (aBinOp P .eql 27 r64.1 (.int .i64 0))) (some (undef, r64.2.1, r64.2.2))).bind fun r65 =>
  (pickV t162 r65.1 (.bool false)).bind fun t168 =>
  ((gv t168 true).bind fun w => cond w (ret1 r65.2.1 r65.2.2 (ldN r65.2.1 1 (ptrTo (256 * (c + 1) + 4)))) (some (undef, r65.2.1, r65.2.2))).bind fun r66 =>
  ((gv t168 true).bind fun w => cond w ((bldL [(.int .i64 0), (.int .i64 0), (.int .i64 0), (.int .i64 0), (.int .i64 0), (.int .i64 0), (.int .i64 0)] [(0, 1, (.int .i64 0)), (1, 1, (.int .i64 0)), (2, 1, (.int .i64 0)), (3, 1, (.int .i64 0)), (4, 1, (.int .i64 0)), (5, 1, (.int .i64 1)), (6, 1, (.int .i64 0))]).bind fun cs => some (.slice (some ⟨(256 * r50.2.2 + 29), 0, none⟩) 7 7, newB r66.2.1 (256 * r50.2.2 + 29) cs, r66.2.2)) (some (undef, r66.2.1, r66.2.2))).bind fun r67 =>
  ((gv t168 true).bind fun w => cond w (callF o 17 [r66.1, r67.1] r67.2.1 r67.2.2) (some (undef, r67.2.1, r67.2.2))).bind fun r68 =>
  ((gv t168 true).bind fun w => cond w (ret1 r68.2.1 r68.2.2 (aBinOp P .eql 27 r68.1 (.int .i64 130))) (some (undef, r68.2.1, r68.2.2))).bind fun r69 =>
  (pickV t168 r69.1 (.bool false)).bind fun t174 =>
  some { e := .ret, vs := [t174], h := r69.2.1, c := r69.2.2, df := [] }))
theorem f11_S_eq (o : Orc H) (h : H) (c : Nat) : jx P o 175 none f11_c (tmOf (List.range 0) []) h c [] (Kfn P Try.f11.results.toList) = f11_S o h c := by kernel_rfl
noncomputable def f12_S (o : Orc H) (t0 : Value) (h : H) (c : Nat) : Option (Rt H) :=
 (bif (t0 : Value).cells.toList.all isFlat then
 (addOff (ptrTo (256 * c + 0)) 0).bind fun t3 =>
 (ld1 (newB h (256 * c + 0) (t0 : Value).cells.toList) t3).bind fun t4 =>
 (lenS t4).bind fun t5 =>
 (aBinOp P .leq 3 t5 (.int .i64 6)).bind fun t6 =>
 some { e := .ret, vs := [t6], h := (newB h (256 * c + 0) (t0 : Value).cells.toList), c := ((c + 1) + 1), df := [] }
 else none)
theorem f12_S_eq (o : Orc H) (t0 : Value) (h : H) (c : Nat) : jx P o 7 none f12_c (tmOf (List.range 1) [t0]) h c [] (Kfn P Try.f12.results.toList) = f12_S o t0 h c := by kernel_rfl
theorem f12_go {t0 : Value} {h : FH} {c : Nat} {df : List Nat} {r : Rt FH} (e : f12_S G t0 h c = some r) : G (.fn 12) [t0] h c df = some (gcR h c [] r) := runG_fn (a := f12_f) bk_12 rfl (fun args h c => by cases args <;> rfl) rfl ((f12_S_eq G t0 h c).trans e)
end Go.Proofs.Ytcnndelmnobigaa

namespace Go.Proofs.Ytcnndelmnobigaa
open Go Go.Ab Go.Proofs
set_option maxRecDepth 100000
set_option linter.unusedVariables false
variable {H : Type} [HeapC H]
noncomputable def f13_L13001 (o : Orc H) (rd : Option Nat) (t1 t2 t3 t4 t5 : Value) (h : H) (c : Nat) (df : List Nat) : Option (Rt H) :=
 (aBinOp P .lss 3 t5 (.int .i64 4)).bind fun t18 =>
 boolK t18
 (((addOff t1 0).bind fun t21 =>
  (ld1 h t21).bind fun t22 =>
  (ixS 20 t22 t4).bind fun t25 =>
  (ixA 4 5 t25 t5).bind fun t26 =>
  (ldN h 5 t26).bind fun t27 =>
  (stN (newB h (256 * (c + 1) + 7) [(.int .i64 0), (.int .i64 0), (.int .i64 0), (.int .i64 0), (.int .i64 0)]) 5 (ptrTo (256 * (c + 1) + 7)) t27).bind fun h1 =>
  (addOff (ptrTo (256 * (c + 1) + 7)) 0).bind fun t28 =>
  (ld1 h1 t28).bind fun t29 =>
  (aBinOp P .eql 3 t29 (.int .i64 (-1))).bind fun t30 =>
  ((gv t30 true).bind fun w => cond w (ret1 h1 (((c + 1) + 1) + 1) (addOff (ptrTo (256 * (c + 1) + 7)) 1)) (some (undef, h1, (((c + 1) + 1) + 1)))).bind fun r2 =>
  ((gv t30 true).bind fun w => cond w (ret1 r2.2.1 r2.2.2 (ldN r2.2.1 4 r2.1)) (some (undef, r2.2.1, r2.2.2))).bind fun r3 =>
  ((gv t30 true).bind fun w => cond w (ret1 r3.2.1 r3.2.2 (bldV [(.int .i64 0), (.int .i64 0), (.int .i64 0), (.int .i64 0)] [])) (some (undef, r3.2.1, r3.2.2))).bind fun r4 =>
  ((gv t30 true).bind fun w => cond w (ret1 r4.2.1 r4.2.2 (aBinOp P .eql 39 r3.1 r4.1)) (some (undef, r4.2.1, r4.2.2))).bind fun r5 =>
  (pickV t30 r5.1 (.bool false)).bind fun t36 =>
  boolK t36
   (some { e := .normal, vs := [t1, t2, t3, t4, t5], h := r5.2.1, c := r5.2.2, df := df })
   ((addOff (ptrTo (256 * (c + 1) + 7)) 0).bind fun t37 =>
   (ld1 r5.2.1 t37).bind fun t38 =>
   (aBinOp P .lss 3 t38 (.int .i64 0)).bind fun t39 =>
   ((gv t39 false).bind fun w => cond w (ret1 r5.2.1 (r5.2.2 + 1) (addOff (ptrTo (256 * (c + 1) + 7)) 0)) (some (undef, r5.2.1, (r5.2.2 + 1)))).bind fun r6 =>
   ((gv t39 false).bind fun w => cond w (ret1 r6.2.1 r6.2.2 (ld1 r6.2.1 r6.1)) (some (undef, r6.2.1, r6.2.2))).bind fun r7 =>
   ((gv t39 false).bind fun w => cond w (ret1 r7.2.1 r7.2.2 (some t3)) (some (undef, r7.2.1, r7.2.2))).bind fun r8 =>
   ((gv t39 false).bind fun w => cond w (ret1 r8.2.1 r8.2.2 (aBinOp P .geq 3 r7.1 r8.1)) (some (undef, r8.2.1, r8.2.2))).bind fun r9 =>
   (pickV t39 (.bool true) r9.1).bind fun t45 =>
   ((gv t45 false).bind fun w => cond w (ret1 r9.2.1 r9.2.2 (addOff (ptrTo (256 * (c + 1) + 7)) 1)) (some (undef, r9.2.1, r9.2.2))).bind fun r10 =>
   ((gv t45 false).bind fun w => cond w (ret1 r10.2.1 r10.2.2 (ldN r10.2.1 4 r10.1)) (some (undef, r10.2.1, r10.2.2))).bind fun r11 =>
   ((gv t45 false).bind fun w => cond w (callF o 41 [r11.1] r11.2.1 r11.2.2) (some (undef, r11.2.1, r11.2.2))).bind fun r12 =>
   ((gv t45 false).bind fun w => cond w (ret1 r12.2.1 r12.2.2 (aUnOp .not r12.1)) (some (undef, r12.2.1, r12.2.2))).bind fun r13 =>
   (pickV t45 (.bool true) r13.1).bind fun t51 =>
   ((gv t51 false).bind fun w => cond w (ret1 r13.2.1 r13.2.2 (addOff (ptrTo (256 * (c + 1) + 7)) 0)) (some (undef, r13.2.1, r13.2.2))).bind fun r14 =>
   ((gv t51 false).bind fun w => cond w (ret1 r14.2.1 r14.2.2 (ld1 r14.2.1 r14.1)) (some (undef, r14.2.1, r14.2.2))).bind fun r15 =>
   ((gv t51 false).bind fun w => cond w (ret1 r15.2.1 r15.2.2 (some t4)) (some (undef, r15.2.1, r15.2.2))).bind fun r16 =>
   ((gv t51 false).bind fun w => cond w (ret1 r16.2.1 r16.2.2 (aBinOp P .eql 3 r15.1 r16.1)) (some (undef, r16.2.1, r16.2.2))).bind fun r17 =>
   ((gv t51 false).bind fun w => cond w (ret1 r17.2.1 r17.2.2 (some r17.1)) (some (undef, r17.2.1, r17.2.2))).bind fun r18 =>
   ((gv r18.1 true).bind fun w => cond w (ret1 r18.2.1 r18.2.2 (some t5)) (some (undef, r18.2.1, r18.2.2))).bind fun r19 =>
   ((gv r18.1 true).bind fun w => cond w (ret1 r19.2.1 r19.2.2 (addOff (ptrTo (256 * (c + 1) + 7)) 1)) (some (undef, r19.2.1, r19.2.2))).bind fun r20 =>
   ((gv r18.1 true).bind fun w => cond w (ret1 r20.2.1 r20.2.2 (ixA 4 1 r20.1 r19.1)) (some (undef, r20.2.1, r20.2.2))).bind fun r21 =>
   ((gv r18.1 true).bind fun w => cond w (ret1 r21.2.1 r21.2.2 (ld1 r21.2.1 r21.1)) (some (undef, r21.2.1, r21.2.2))).bind fun r22 =>
   ((gv r18.1 true).bind fun w => cond w (ret1 r22.2.1 r22.2.2 (some t5)) (some (undef, r22.2.1, r22.2.2))).bind fun r23 =>
   ((gv r18.1 true).bind fun w => cond w (ret1 r23.2.1 r23.2.2 (aBinOp P .eql 3 r22.1 r23.1)) (some (undef, r23.2.1, r23.2.2))).bind fun r24 =>
   ((gv t51 false).bind fun w => cond w (pickR r24.2.1 r24.2.2 r18.1 r24.1 (.bool false)) (some (undef, r24.2.1, r24.2.2))).bind fun r25 =>
   (pickV t51 (.bool true) r25.1).bind fun t65 =>
   boolK t65
    (some { e := .ret, vs := [t1, (.int .i64 7), t3, t4, t5], h := r25.2.1, c := (r25.2.2 + 1), df := df })
    ((addOff t1 0).bind fun t66 =>
    (ld1 r25.2.1 t66).bind fun t67 =>
    (addOff (ptrTo (256 * (c + 1) + 7)) 0).bind fun t68 =>
    (ld1 r25.2.1 t68).bind fun t69 =>
    (addOff (ptrTo (256 * (c + 1) + 7)) 1).bind fun t71 =>
    (ixA 4 1 t71 t5).bind fun t72 =>
    (ld1 r25.2.1 t72).bind fun t73 =>
    (ixS 20 t67 t69).bind fun t74 =>
    (ixA 4 5 t74 t73).bind fun t75 =>
    (ldN r25.2.1 5 t75).bind fun t76 =>
    (addOff (ptrTo (256 * (c + 1) + 7)) 1).bind fun t78 =>
    (ldN r25.2.1 4 t78).bind fun t79 =>
    (callF o 42 [t79] r25.2.1 (r25.2.2 + 1)).bind fun r27 =>
    (bldV [(.int .i64 0), (.int .i64 0), (.int .i64 0), (.int .i64 0), (.int .i64 0)] [(0, 1, t4), (1, 4, r27.1)]).bind fun t81 =>
    (aBinOp P .neq 41 t76 t81).bind fun t82 =>
    (bif (sameB (ridV t66) r25.2.1 r27.2.1 && (sameB (ridV t68) r25.2.1 r27.2.1 && (sameB (ridV t72) r25.2.1 r27.2.1 && (sameB (ridV t75) r25.2.1 r27.2.1 && true)))) then
    boolK t82
     (some { e := .ret, vs := [t1, (.int .i64 7), t3, t4, t5], h := r27.2.1, c := (r27.2.2 + 1), df := df })
     (some { e := .normal, vs := [t1, t2, t3, t4, t5], h := r27.2.1, c := r27.2.2, df := df })
    else none))) : Option (Rt H)).bind fun r29 =>
 cond (exIs r29.e .normal)
  ((aBinOp P .add 3 (r29.v 4) (.int .i64 1)).bind fun t20 =>
  some { e := .normal, vs := [(r29.v 0), (r29.v 1), (r29.v 2), (r29.v 3), t20], h := r29.h, c := (r29.c + 1), df := r29.df })
  (cond (exIs r29.e .ret)
   (some { e := .ret, vs := [(r29.v 0), (r29.v 1), (r29.v 2), (r29.v 3), (r29.v 4)], h := r29.h, c := r29.c, df := r29.df })
   (none)))
 (some { e := (.exit 2), vs := [t1, t2, t3, t4, t5], h := h, c := (c + 1), df := df })
theorem f13_L13001_eq (o : Orc H) (rd : Option Nat) (t1 t2 t3 t4 t5 : Value) (h : H) (c : Nat) (df : List Nat) : jx P o 83 rd f13_c13001 (tmOf [1, 2, 3, 4, 5] [t1, t2, t3, t4, t5]) h c df (Klp [1, 2, 3, 4, 5]) = f13_L13001 o rd t1 t2 t3 t4 t5 h c df := by kernel_rfl
noncomputable def f13_L13000 (o : Orc H) (rd : Option Nat) (t1 t2 t3 t4 : Value) (h : H) (c : Nat) (df : List Nat) : Option (Rt H) :=
 (aBinOp P .lss 3 t4 t3).bind fun t14 =>
 boolK t14
 ((o (f13_k13001 rd) [t1, t2, t3, t4, (.int .i64 0)] h ((c + 1) + 1) df).bind fun r0 =>
 cond (exIs r0.e (.exit 2))
  ((aBinOp P .add 3 (r0.v 3) (.int .i64 1)).bind fun t16 =>
  some { e := .normal, vs := [(r0.v 0), (r0.v 1), (r0.v 2), t16], h := r0.h, c := (r0.c + 1), df := r0.df })
  (cond (exIs r0.e .ret)
   (some { e := .ret, vs := [(r0.v 0), (r0.v 1), (r0.v 2), (r0.v 3)], h := r0.h, c := r0.c, df := r0.df })
   (none)))
 (some { e := (.exit 0), vs := [t1, t2, t3, t4], h := h, c := (c + 1), df := df })
theorem f13_L13000_eq (o : Orc H) (rd : Option Nat) (t1 t2 t3 t4 : Value) (h : H) (c : Nat) (df : List Nat) : jx P o 83 rd f13_c13000 (tmOf [1, 2, 3, 4] [t1, t2, t3, t4]) h c df (Klp [1, 2, 3, 4]) = f13_L13000 o rd t1 t2 t3 t4 h c df := by kernel_rfl
noncomputable def f13_S (o : Orc H) (t0 : Value) (h : H) (c : Nat) : Option (Rt H) :=
 (bif (t0 : Value).cells.toList.all isFlat then
 (addOff (ptrTo (256 * c + 0)) 0).bind fun t7 =>
 (ld1 (newB h (256 * c + 0) (t0 : Value).cells.toList) t7).bind fun t8 =>
 (lenS t8).bind fun t9 =>
 (aBinOp P .gtr 3 t9 (.int .i64 1000)).bind fun t11 =>
 boolK t11
 (some { e := .ret, vs := [(.int .i64 7)], h := (newB h (256 * c + 0) (t0 : Value).cells.toList), c := ((((c + 1) + 1) + 1) + 1), df := [] })
 ((o (f13_k13000 none) [(ptrTo (256 * c + 0)), (.int .i64 0), t9, (.int .i64 0)] (newB h (256 * c + 0) (t0 : Value).cells.toList) ((((c + 1) + 1) + 1) + 1) []).bind fun r0 =>
 cond (exIs r0.e (.exit 0))
  ((takeAll r0.h r0.df).bind fun h2 =>
  some { e := .ret, vs := [(.int .i64 0)], h := h2, c := (r0.c + 1), df := [] })
  (cond (exIs r0.e .ret)
   ((takeAll r0.h r0.df).bind fun h1 =>
   some { e := .ret, vs := [(r0.v 1)], h := h1, c := r0.c, df := [] })
   (none)))
 else none)
theorem f13_S_eq (o : Orc H) (t0 : Value) (h : H) (c : Nat) : jx P o 83 none f13_c (tmOf (List.range 1) [t0]) h c [] (Kfn P Try.f13.results.toList) = f13_S o t0 h c := by kernel_rfl
noncomputable def f14_L14001 (o : Orc H) (rd : Option Nat) (t1 t5 t7 t9 t10 t26 t27 t28 t42 t43 : Value) (h : H) (c : Nat) (df : List Nat) : Option (Rt H) :=
 (aBinOp P .lss 3 t43 t42).bind fun t44 =>
 boolK t44
 ((aNilCheck t5).bind fun t47 =>
 (addOff t47 0).bind fun t48 =>
 (callF o 46 [t48, t43] h (((c + 1) + 1) + 1)).bind fun r0 =>
 (aBinOp P .eql 3 r0.1 t9).bind fun t52 =>
 (boolK t52
   ((aBinOp P .quo 3 t43 (.int .i64 4)).bind fun t55 =>
   (aBinOp P .mul 3 t55 (.int .i64 7)).bind fun t56 =>
   (aBinOp P .rem 3 t43 (.int .i64 4)).bind fun t58 =>
   (aBinOp P .add 3 t56 t58).bind fun t59 =>
   (ixS 1 t10 t59).bind fun t60 =>
   (stN r0.2.1 1 t60 (.int .i64 1)).bind fun h2 =>
   some { e := .normal, vs := [t1, t5, t7, t9, t10, t26, t27, t28, t42, t43], h := h2, c := (r0.2.2 + 1), df := df })
   (some { e := .normal, vs := [t1, t5, t7, t9, t10, t26, t27, t28, t42, t43], h := r0.2.1, c := r0.2.2, df := df }) : Option (Rt H)).bind fun r3 =>
 cond (exIs r3.e .normal)
  ((aBinOp P .add 3 (r3.v 9) (.int .i64 1)).bind fun t61 =>
  some { e := .normal, vs := [(r3.v 0), (r3.v 1), (r3.v 2), (r3.v 3), (r3.v 4), (r3.v 5), (r3.v 6), (r3.v 7), (r3.v 8), t61], h := r3.h, c := (r3.c + 1), df := r3.df })
  (none))
 (some { e := (.exit 2), vs := [t1, t5, t7, t9, t10, t26, t27, t28, t42, t43], h := h, c := (c + 1), df := df })
theorem f14_L14001_eq (o : Orc H) (rd : Option Nat) (t1 t5 t7 t9 t10 t26 t27 t28 t42 t43 : Value) (h : H) (c : Nat) (df : List Nat) : jx P o 68 rd f14_c14001 (tmOf [1, 5, 7, 9, 10, 26, 27, 28, 42, 43] [t1, t5, t7, t9, t10, t26, t27, t28, t42, t43]) h c df (Klp [1, 5, 7, 9, 10, 26, 27, 28, 42, 43]) = f14_L14001 o rd t1 t5 t7 t9 t10 t26 t27 t28 t42 t43 h c df := by kernel_rfl
noncomputable def f14_L14000 (o : Orc H) (rd : Option Nat) (t1 t5 t7 t26 t27 t28 : Value) (h : H) (c : Nat) (df : List Nat) : Option (Rt H) :=
 (aBinOp P .lss 3 t28 t27).bind fun t29 =>
 boolK t29
 ((ixS 1 t26 t28).bind fun t30 =>
 (ld1 h t30).bind fun t31 =>
 (addOff t1 0).bind fun t32 =>
 (ld1 h t32).bind fun t33 =>
 (lenS t33).bind fun t34 =>
 (aBinOp P .mul 3 (.int .i64 7) t34).bind fun t35 =>
 (mkS 1 8 [(.int .i64 0)] t35 t35).bind fun r0 =>
 (aNilCheck t5).bind fun t38 =>
 (addOff t38 0).bind fun t39 =>
 (addOff t39 0).bind fun t40 =>
 (ld1 (newB h (256 * ((c + 1) + 1) + 4) r0.1) t40).bind fun t41 =>
 (lenS t41).bind fun t42 =>
 (o (f14_k14001 rd) [t1, t5, t7, t31, (.slice (some ⟨(256 * ((c + 1) + 1) + 4), 0, none⟩) r0.2.1 r0.2.2), t26, t27, t28, t42, (.int .i64 0)] (newB h (256 * ((c + 1) + 1) + 4) r0.1) ((((c + 1) + 1) + 1) + 1) df).bind fun r1 =>
 cond (exIs r1.e (.exit 2))
  ((bldL [(.slice none 0 0)] [(0, 1, (r1.v 4))]).bind fun r2 =>
  (appV (newB r1.h (256 * r1.c + 2) r2) (256 * r1.c + 3) 1 24 (r1.v 2) (.slice (some ⟨(256 * r1.c + 2), 0, none⟩) 1 1)).bind fun r3 =>
  (aBinOp P .add 3 (r1.v 7) (.int .i64 1)).bind fun t66 =>
  some { e := .normal, vs := [(r1.v 0), (r1.v 1), r3.1, (r1.v 5), (r1.v 6), t66], h := r3.2, c := ((r1.c + 1) + 1), df := r1.df })
  (none))
 (some { e := (.exit 0), vs := [t1, t5, t7, t26, t27, t28], h := h, c := (c + 1), df := df })
theorem f14_L14000_eq (o : Orc H) (rd : Option Nat) (t1 t5 t7 t26 t27 t28 : Value) (h : H) (c : Nat) (df : List Nat) : jx P o 68 rd f14_c14000 (tmOf [1, 5, 7, 26, 27, 28] [t1, t5, t7, t26, t27, t28]) h c df (Klp [1, 5, 7, 26, 27, 28]) = f14_L14000 o rd t1 t5 t7 t26 t27 t28 h c df := by kernel_rfl
noncomputable def f14_S (o : Orc H) (t0 : Value) (h : H) (c : Nat) : Option (Rt H) :=
 (bif (t0 : Value).cells.toList.all isFlat then
 (ldN (newB h (256 * c + 0) (t0 : Value).cells.toList) 1 (ptrTo (256 * c + 0))).bind fun t12 =>
 (callF o 43 [t12] (newB h (256 * c + 0) (t0 : Value).cells.toList) ((c + 1) + 1)).bind fun r0 =>
 (aBinOp P .neq 27 r0.1 (.int .i64 0)).bind fun t15 =>
 boolK t15
 (some { e := .ret, vs := [.tuple #[(.slice none 0 0), r0.1]], h := r0.2.1, c := ((r0.2.2 + 1) + 1), df := [] })
 ((ldN r0.2.1 1 (ptrTo (256 * c + 0))).bind fun t18 =>
 (callF o 44 [t18] r0.2.1 ((r0.2.2 + 1) + 1)).bind fun r1 =>
 (extV r1.1 0).bind fun t20 =>
 (extV r1.1 1).bind fun t21 =>
 (bldL [] []).bind fun r2 =>
 (aNilCheck t20).bind fun t24 =>
 (addOff t24 0).bind fun t25 =>
 (callF o 45 [t25] (newB r1.2.1 (256 * r1.2.2 + 0) r2) ((r1.2.2 + 1) + 1)).bind fun r3 =>
 (lenS r3.1).bind fun t27 =>
 (o (f14_k14000 none) [(ptrTo (256 * c + 0)), t20, (.slice (some ⟨(256 * r1.2.2 + 0), 0, none⟩) 0 0), r3.1, t27, (.int .i64 0)] r3.2.1 r3.2.2 []).bind fun r4 =>
 cond (exIs r4.e (.exit 0))
  ((takeAll r4.h r4.df).bind fun h5 =>
  some { e := .ret, vs := [.tuple #[(r4.v 2), (.int .i64 0)]], h := h5, c := (r4.c + 1), df := [] })
  (none))
 else none)
theorem f14_S_eq (o : Orc H) (t0 : Value) (h : H) (c : Nat) : jx P o 68 none f14_c (tmOf (List.range 1) [t0]) h c [] (Kfn P Try.f14.results.toList) = f14_S o t0 h c := by kernel_rfl
theorem f14_go {t0 : Value} {h : FH} {c : Nat} {df : List Nat} {r : Rt FH} (e : f14_S G t0 h c = some r) : G (.fn 14) [t0] h c df = some r := runG_fn (a := f14_f) bk_14 rfl (fun args h c => by cases args <;> rfl) rfl ((f14_S_eq G t0 h c).trans e)
theorem f14_N14001 {rd : Option Nat} {t1 t5 t7 t9 t10 t26 t27 t28 t42 t43 : Value} {h : FH} {c : Nat} {df : List Nat} {q r : Rt FH} (e : f14_L14001 G rd t1 t5 t7 t9 t10 t26 t27 t28 t42 t43 h c df = some q) (hq : q.e = .normal) (k : G (f14_k14001 rd) q.vs (gcR h c df q).h (gcR h c df q).c q.df = some r) : G (f14_k14001 rd) [t1, t5, t7, t9, t10, t26, t27, t28, t42, t43] h c df = some r := runG_lp_next ((f14_L14001_eq G rd t1 t5 t7 t9 t10 t26 t27 t28 t42 t43 h c df).trans e) hq k
theorem f14_Z14001 {rd : Option Nat} {t1 t5 t7 t9 t10 t26 t27 t28 t42 t43 : Value} {h : FH} {c : Nat} {df : List Nat} {q : Rt FH} (e : f14_L14001 G rd t1 t5 t7 t9 t10 t26 t27 t28 t42 t43 h c df = some q) (hq : q.e ≠ .normal) : G (f14_k14001 rd) [t1, t5, t7, t9, t10, t26, t27, t28, t42, t43] h c df = some (gcR h c df q) := runG_lp_last ((f14_L14001_eq G rd t1 t5 t7 t9 t10 t26 t27 t28 t42 t43 h c df).trans e) hq
theorem f14_N14000 {rd : Option Nat} {t1 t5 t7 t26 t27 t28 : Value} {h : FH} {c : Nat} {df : List Nat} {q r : Rt FH} (e : f14_L14000 G rd t1 t5 t7 t26 t27 t28 h c df = some q) (hq : q.e = .normal) (k : G (f14_k14000 rd) q.vs q.h q.c q.df = some r) : G (f14_k14000 rd) [t1, t5, t7, t26, t27, t28] h c df = some r := runG_lp_next ((f14_L14000_eq G rd t1 t5 t7 t26 t27 t28 h c df).trans e) hq k
theorem f14_Z14000 {rd : Option Nat} {t1 t5 t7 t26 t27 t28 : Value} {h : FH} {c : Nat} {df : List Nat} {q : Rt FH} (e : f14_L14000 G rd t1 t5 t7 t26 t27 t28 h c df = some q) (hq : q.e ≠ .normal) : G (f14_k14000 rd) [t1, t5, t7, t26, t27, t28] h c df = some q := runG_lp_last ((f14_L14000_eq G rd t1 t5 t7 t26 t27 t28 h c df).trans e) hq
noncomputable def f15_L15002 (o : Orc H) (rd : Option Nat) (t1 t7 t8 t10 t28 t29 t30 t35 t36 t63 : Value) (h : H) (c : Nat) (df : List Nat) : Option (Rt H) :=
 (aBinOp P .lss 3 t63 (.int .i64 4)).bind fun t64 =>
 boolK t64
 ((aBinOp P .neq 3 t63 t10).bind fun t68 =>
 (boolK t68
   ((callF o 50 [t1, t8, t10, t63] h ((((c + 1) + 1) + 1) + 1)).bind fun r0 =>
   (aBinOp P .sub 3 t7 r0.1).bind fun t75 =>
   some { e := .normal, vs := [t1, t75, t8, t10, t28, t29, t30, t35, t36, t63], h := r0.2.1, c := r0.2.2, df := df })
   (some { e := .normal, vs := [t1, t7, t8, t10, t28, t29, t30, t35, t36, t63], h := h, c := (((c + 1) + 1) + 1), df := df }) : Option (Rt H)).bind fun r2 =>
 cond (exIs r2.e .normal)
  ((aBinOp P .add 3 (r2.v 9) (.int .i64 1)).bind fun t76 =>
  some { e := .normal, vs := [(r2.v 0), (r2.v 1), (r2.v 2), (r2.v 3), (r2.v 4), (r2.v 5), (r2.v 6), (r2.v 7), (r2.v 8), t76], h := r2.h, c := (r2.c + 1), df := r2.df })
  (none))
 (some { e := (.exit 4), vs := [t1, t7, t8, t10, t28, t29, t30, t35, t36, t63], h := h, c := (c + 1), df := df })
theorem f15_L15002_eq (o : Orc H) (rd : Option Nat) (t1 t7 t8 t10 t28 t29 t30 t35 t36 t63 : Value) (h : H) (c : Nat) (df : List Nat) : jx P o 80 rd f15_c15002 (tmOf [1, 7, 8, 10, 28, 29, 30, 35, 36, 63] [t1, t7, t8, t10, t28, t29, t30, t35, t36, t63]) h c df (Klp [1, 7, 8, 10, 28, 29, 30, 35, 36, 63]) = f15_L15002 o rd t1 t7 t8 t10 t28 t29 t30 t35 t36 t63 h c df := by kernel_rfl
noncomputable def f15_L15001 (o : Orc H) (rd : Option Nat) (t1 t7 t8 t28 t29 t30 t35 t36 : Value) (h : H) (c : Nat) (df : List Nat) : Option (Rt H) :=
 (aBinOp P .lss 3 t36 (.int .i64 4)).bind fun t37 =>
 boolK t37
 (((ixV 4 true 5 t35 t36).bind fun t39 =>
  (stN (newB h (256 * (c + 1) + 2) [(.int .i64 0), (.int .i64 0), (.int .i64 0), (.int .i64 0), (.int .i64 0)]) 5 (ptrTo (256 * (c + 1) + 2)) t39).bind fun h1 =>
  (addOff (ptrTo (256 * (c + 1) + 2)) 0).bind fun t40 =>
  (ld1 h1 t40).bind fun t41 =>
  (aBinOp P .geq 3 t41 (.int .i64 0)).bind fun t42 =>
  ((gv t42 true).bind fun w => cond w (ret1 h1 (((c + 1) + 1) + 1) (addOff (ptrTo (256 * (c + 1) + 2)) 0)) (some (undef, h1, (((c + 1) + 1) + 1)))).bind fun r2 =>
  ((gv t42 true).bind fun w => cond w (ret1 r2.2.1 r2.2.2 (ld1 r2.2.1 r2.1)) (some (undef, r2.2.1, r2.2.2))).bind fun r3 =>
  ((gv t42 true).bind fun w => cond w (ret1 r3.2.1 r3.2.2 (some t8)) (some (undef, r3.2.1, r3.2.2))).bind fun r4 =>
  ((gv t42 true).bind fun w => cond w (ret1 r4.2.1 r4.2.2 (aBinOp P .lss 3 r3.1 r4.1)) (some (undef, r4.2.1, r4.2.2))).bind fun r5 =>
  ((gv t42 true).bind fun w => cond w (ret1 r5.2.1 r5.2.2 (some r5.1)) (some (undef, r5.2.1, r5.2.2))).bind fun r6 =>
  ((gv r6.1 false).bind fun w => cond w (ret1 r6.2.1 r6.2.2 (addOff (ptrTo (256 * (c + 1) + 2)) 0)) (some (undef, r6.2.1, r6.2.2))).bind fun r7 =>
  ((gv r6.1 false).bind fun w => cond w (ret1 r7.2.1 r7.2.2 (ld1 r7.2.1 r7.1)) (some (undef, r7.2.1, r7.2.2))).bind fun r8 =>
  ((gv r6.1 false).bind fun w => cond w (ret1 r8.2.1 r8.2.2 (some t8)) (some (undef, r8.2.1, r8.2.2))).bind fun r9 =>
  ((gv r6.1 false).bind fun w => cond w (ret1 r9.2.1 r9.2.2 (aBinOp P .eql 3 r8.1 r9.1)) (some (undef, r9.2.1, r9.2.2))).bind fun r10 =>
  ((gv r6.1 false).bind fun w => cond w (ret1 r10.2.1 r10.2.2 (some r10.1)) (some (undef, r10.2.1, r10.2.2))).bind fun r11 =>
  ((gv r11.1 true).bind fun w => cond w (ret1 r11.2.1 r11.2.2 (some t36)) (some (undef, r11.2.1, r11.2.2))).bind fun r12 =>
  ((gv r11.1 true).bind fun w => cond w (ret1 r12.2.1 r12.2.2 (addOff (ptrTo (256 * (c + 1) + 2)) 1)) (some (undef, r12.2.1, r12.2.2))).bind fun r13 =>
  ((gv r11.1 true).bind fun w => cond w (ret1 r13.2.1 r13.2.2 (ixA 4 1 r13.1 r12.1)) (some (undef, r13.2.1, r13.2.2))).bind fun r14 =>
  ((gv r11.1 true).bind fun w => cond w (ret1 r14.2.1 r14.2.2 (ld1 r14.2.1 r14.1)) (some (undef, r14.2.1, r14.2.2))).bind fun r15 =>
  ((gv r11.1 true).bind fun w => cond w (ret1 r15.2.1 r15.2.2 (some t36)) (some (undef, r15.2.1, r15.2.2))).bind fun r16 =>
  ((gv r11.1 true).bind fun w => cond w (ret1 r16.2.1 r16.2.2 (aBinOp P .lss 3 r15.1 r16.1)) (some (undef, r16.2.1, r16.2.2))).bind fun r17 =>
  ((gv r6.1 false).bind fun w => cond w (pickR r17.2.1 r17.2.2 r11.1 r17.1 (.bool false)) (some (undef, r17.2.1, r17.2.2))).bind fun r18 =>
  ((gv t42 true).bind fun w => cond w (pickR r18.2.1 r18.2.2 r6.1 (.bool true) r18.1) (some (undef, r18.2.1, r18.2.2))).bind fun r19 =>
  (pickV t42 r19.1 (.bool false)).bind fun t62 =>
  boolK t62
   (some { e := .normal, vs := [t1, t7, t8, t28, t29, t30, t35, t36], h := r19.2.1, c := r19.2.2, df := df })
   ((o (f15_k15002 rd) [t1, t7, t8, t36, t28, t29, t30, t35, t36, (.int .i64 0)] r19.2.1 (r19.2.2 + 1) df).bind fun r20 =>
   cond (exIs r20.e (.exit 4))
    (some { e := .normal, vs := [(r20.v 0), (r20.v 1), (r20.v 2), (r20.v 4), (r20.v 5), (r20.v 6), (r20.v 7), (r20.v 8)], h := r20.h, c := r20.c, df := r20.df })
    (none)) : Option (Rt H)).bind fun r21 =>
 cond (exIs r21.e .normal)
  ((aBinOp P .add 3 (r21.v 7) (.int .i64 1)).bind fun t77 =>
  some { e := .normal, vs := [(r21.v 0), (r21.v 1), (r21.v 2), (r21.v 3), (r21.v 4), (r21.v 5), (r21.v 6), t77], h := r21.h, c := (r21.c + 1), df := r21.df })
  (none))
 (some { e := (.exit 2), vs := [t1, t7, t8, t28, t29, t30, t35, t36], h := h, c := (c + 1), df := df })
theorem f15_L15001_eq (o : Orc H) (rd : Option Nat) (t1 t7 t8 t28 t29 t30 t35 t36 : Value) (h : H) (c : Nat) (df : List Nat) : jx P o 80 rd f15_c15001 (tmOf [1, 7, 8, 28, 29, 30, 35, 36] [t1, t7, t8, t28, t29, t30, t35, t36]) h c df (Klp [1, 7, 8, 28, 29, 30, 35, 36]) = f15_L15001 o rd t1 t7 t8 t28 t29 t30 t35 t36 h c df := by kernel_rfl
noncomputable def f15_L15000 (o : Orc H) (rd : Option Nat) (t1 t7 t28 t29 t30 : Value) (h : H) (c : Nat) (df : List Nat) : Option (Rt H) :=
 (aBinOp P .lss 3 t30 t29).bind fun t31 =>
 boolK t31
 ((ixS 20 t28 t30).bind fun t33 =>
 (ldN h 20 t33).bind fun t34 =>
 (stN (newB h (256 * (c + 1) + 3) [(.int .i64 0), (.int .i64 0), (.int .i64 0), (.int .i64 0), (.int .i64 0), (.int .i64 0), (.int .i64 0), (.int .i64 0), (.int .i64 0), (.int .i64 0), (.int .i64 0), (.int .i64 0), (.int .i64 0), (.int .i64 0), (.int .i64 0), (.int .i64 0), (.int .i64 0), (.int .i64 0), (.int .i64 0), (.int .i64 0)]) 20 (ptrTo (256 * (c + 1) + 3)) t34).bind fun h1 =>
 (ldN h1 20 (ptrTo (256 * (c + 1) + 3))).bind fun t35 =>
 (o (f15_k15001 rd) [t1, t7, t30, t28, t29, t30, t35, (.int .i64 0)] h1 (((c + 1) + 1) + 1) df).bind fun r2 =>
 cond (exIs r2.e (.exit 2))
  ((aBinOp P .add 3 (r2.v 5) (.int .i64 1)).bind fun t78 =>
  some { e := .normal, vs := [(r2.v 0), (r2.v 1), (r2.v 3), (r2.v 4), t78], h := r2.h, c := (r2.c + 1), df := r2.df })
  (none))
 (some { e := (.exit 0), vs := [t1, t7, t28, t29, t30], h := h, c := (c + 1), df := df })
theorem f15_L15000_eq (o : Orc H) (rd : Option Nat) (t1 t7 t28 t29 t30 : Value) (h : H) (c : Nat) (df : List Nat) : jx P o 80 rd f15_c15000 (tmOf [1, 7, 28, 29, 30] [t1, t7, t28, t29, t30]) h c df (Klp [1, 7, 28, 29, 30]) = f15_L15000 o rd t1 t7 t28 t29 t30 h c df := by kernel_rfl
noncomputable def f15_S (o : Orc H) (t0 t1 : Value) (h : H) (c : Nat) : Option (Rt H) :=
 (bif (t0 : Value).cells.toList.all isFlat then
 (ldN (newB h (256 * c + 0) (t0 : Value).cells.toList) 1 (ptrTo (256 * c + 0))).bind fun t13 =>
 (bldL [(.slice none 0 0)] [(0, 1, t1)]).bind fun r0 =>
 (callF o 47 [t13, (.slice (some ⟨(256 * (c + 1) + 2), 0, none⟩) 1 1)] (newB (newB h (256 * c + 0) (t0 : Value).cells.toList) (256 * (c + 1) + 2) r0) ((c + 1) + 1)).bind fun r1 =>
 (aBinOp P .neq 27 r1.1 (.int .i64 0)).bind fun t18 =>
 boolK t18
 (some { e := .ret, vs := [.tuple #[(.int .i64 0), r1.1]], h := r1.2.1, c := ((r1.2.2 + 1) + 1), df := [] })
 ((ldN r1.2.1 1 (ptrTo (256 * c + 0))).bind fun t20 =>
 (callF o 49 [t20, t1] r1.2.1 ((r1.2.2 + 1) + 1)).bind fun r2 =>
 (callF o 48 [r2.1] r2.2.1 r2.2.2).bind fun r3 =>
 (callF o 48 [t1] r3.2.1 r3.2.2).bind fun r4 =>
 (aBinOp P .add 3 r3.1 r4.1).bind fun t26 =>
 (addOff (ptrTo (256 * c + 0)) 0).bind fun t27 =>
 (ld1 r4.2.1 t27).bind fun t28 =>
 (lenS t28).bind fun t29 =>
 (o (f15_k15000 none) [t1, t26, t28, t29, (.int .i64 0)] r4.2.1 (r4.2.2 + 1) []).bind fun r5 =>
 cond (exIs r5.e (.exit 0))
  ((takeAll r5.h r5.df).bind fun h6 =>
  some { e := .ret, vs := [.tuple #[(r5.v 1), (.int .i64 0)]], h := h6, c := (r5.c + 1), df := [] })
  (none))
 else none)
theorem f15_S_eq (o : Orc H) (t0 t1 : Value) (h : H) (c : Nat) : jx P o 80 none f15_c (tmOf (List.range 2) [t0, t1]) h c [] (Kfn P Try.f15.results.toList) = f15_S o t0 t1 h c := by kernel_rfl
noncomputable def f16_S (o : Orc H) (t0 t1 : Value) (h : H) (c : Nat) : Option (Rt H) :=
 (bif (t0 : Value).cells.toList.all isFlat then
 (ldN (newB h (256 * c + 0) (t0 : Value).cells.toList) 1 (ptrTo (256 * c + 0))).bind fun t7 =>
 (bldL [(.slice none 0 0)] [(0, 1, t1)]).bind fun r0 =>
 (callF o 47 [t7, (.slice (some ⟨(256 * (c + 1) + 2), 0, none⟩) 1 1)] (newB (newB h (256 * c + 0) (t0 : Value).cells.toList) (256 * (c + 1) + 2) r0) ((c + 1) + 1)).bind fun r1 =>
 (aBinOp P .neq 27 r1.1 (.int .i64 0)).bind fun t12 =>
 boolK t12
 (some { e := .ret, vs := [.tuple #[(.slice none 0 0), r1.1]], h := r1.2.1, c := ((r1.2.2 + 1) + 1), df := [] })
 ((ldN r1.2.1 1 (ptrTo (256 * c + 0))).bind fun t14 =>
 (callF o 49 [t14, t1] r1.2.1 ((r1.2.2 + 1) + 1)).bind fun r2 =>
 some { e := .ret, vs := [.tuple #[r2.1, (.int .i64 0)]], h := r2.2.1, c := r2.2.2, df := [] })
 else none)
theorem f16_S_eq (o : Orc H) (t0 t1 : Value) (h : H) (c : Nat) : jx P o 17 none f16_c (tmOf (List.range 2) [t0, t1]) h c [] (Kfn P Try.f16.results.toList) = f16_S o t0 t1 h c := by kernel_rfl
noncomputable def f17_S (o : Orc H) (t0 t1 : Value) (h : H) (c : Nat) : Option (Rt H) :=
 (bif (t0 : Value).cells.toList.all isFlat then
 (ldN (newB h (256 * c + 0) (t0 : Value).cells.toList) 1 (ptrTo (256 * c + 0))).bind fun t5 =>
 (bldL [(.slice none 0 0)] [(0, 1, t1)]).bind fun r0 =>
 (callF o 47 [t5, (.slice (some ⟨(256 * (c + 1) + 2), 0, none⟩) 1 1)] (newB (newB h (256 * c + 0) (t0 : Value).cells.toList) (256 * (c + 1) + 2) r0) ((c + 1) + 1)).bind fun r1 =>
 some { e := .ret, vs := [r1.1], h := r1.2.1, c := r1.2.2, df := [] }
 else none)
theorem f17_S_eq (o : Orc H) (t0 t1 : Value) (h : H) (c : Nat) : jx P o 9 none f17_c (tmOf (List.range 2) [t0, t1]) h c [] (Kfn P Try.f17.results.toList) = f17_S o t0 t1 h c := by kernel_rfl
theorem f17_go {t0 t1 : Value} {h : FH} {c : Nat} {df : List Nat} {r : Rt FH} (e : f17_S G t0 t1 h c = some r) : G (.fn 17) [t0, t1] h c df = some (gcR h c [] r) := runG_fn (a := f17_f) bk_17 rfl (fun args h c => by cases args <;> rfl) rfl ((f17_S_eq G t0 t1 h c).trans e)
noncomputable def f18_L18000 (o : Orc H) (rd : Option Nat) (t0 t2 t3 : Value) (h : H) (c : Nat) (df : List Nat) : Option (Rt H) :=
 (lenS t0).bind fun t6 =>
 (aBinOp P .lss 3 t3 t6).bind fun t7 =>
 boolK t7
 ((ixS 1 t0 t3).bind fun t12 =>
 (ld1 h t12).bind fun t13 =>
 (lenS t13).bind fun t14 =>
 (aBinOp P .gtr 3 t14 (.int .i64 50)).bind fun t15 =>
 boolK t15
  (some { e := .ret, vs := [t0, (.bool false), t3], h := h, c := (((c + 1) + 1) + 1), df := df })
  ((aBinOp P .add 3 t3 (.int .i64 1)).bind fun t9 =>
  some { e := .normal, vs := [t0, t2, t9], h := h, c := (((c + 1) + 1) + 1), df := df }))
 (some { e := (.exit 0), vs := [t0, t2, t3], h := h, c := (c + 1), df := df })
theorem f18_L18000_eq (o : Orc H) (rd : Option Nat) (t0 t2 t3 : Value) (h : H) (c : Nat) (df : List Nat) : jx P o 16 rd f18_c18000 (tmOf [0, 2, 3] [t0, t2, t3]) h c df (Klp [0, 2, 3]) = f18_L18000 o rd t0 t2 t3 h c df := by kernel_rfl
noncomputable def f18_S (o : Orc H) (t0 : Value) (h : H) (c : Nat) : Option (Rt H) :=
 (o (f18_k18000 none) [t0, (.bool false), (.int .i64 0)] h ((c + 1) + 1) []).bind fun r0 =>
 cond (exIs r0.e (.exit 0))
 ((takeAll r0.h r0.df).bind fun h2 =>
 some { e := .ret, vs := [(.bool true)], h := h2, c := (r0.c + 1), df := [] })
 (cond (exIs r0.e .ret)
  ((takeAll r0.h r0.df).bind fun h1 =>
  some { e := .ret, vs := [(r0.v 1)], h := h1, c := r0.c, df := [] })
  (none))
theorem f18_S_eq (o : Orc H) (t0 : Value) (h : H) (c : Nat) : jx P o 16 none f18_c (tmOf (List.range 1) [t0]) h c [] (Kfn P Try.f18.results.toList) = f18_S o t0 h c := by kernel_rfl
theorem f18_go {t0 : Value} {h : FH} {c : Nat} {df : List Nat} {r : Rt FH} (e : f18_S G t0 h c = some r) : G (.fn 18) [t0] h c df = some (gcR h c [] r) := runG_fn (a := f18_f) bk_18 rfl (fun args h c => by cases args <;> rfl) rfl ((f18_S_eq G t0 h c).trans e)
theorem f18_N18000 {rd : Option Nat} {t0 t2 t3 : Value} {h : FH} {c : Nat} {df : List Nat} {q r : Rt FH} (e : f18_L18000 G rd t0 t2 t3 h c df = some q) (hq : q.e = .normal) (k : G (f18_k18000 rd) q.vs (gcR h c df q).h (gcR h c df q).c q.df = some r) : G (f18_k18000 rd) [t0, t2, t3] h c df = some r := runG_lp_next ((f18_L18000_eq G rd t0 t2 t3 h c df).trans e) hq k
theorem f18_Z18000 {rd : Option Nat} {t0 t2 t3 : Value} {h : FH} {c : Nat} {df : List Nat} {q : Rt FH} (e : f18_L18000 G rd t0 t2 t3 h c df = some q) (hq : q.e ≠ .normal) : G (f18_k18000 rd) [t0, t2, t3] h c df = some (gcR h c df q) := runG_lp_last ((f18_L18000_eq G rd t0 t2 t3 h c df).trans e) hq
noncomputable def f21_L21000 (o : Orc H) (rd : Option Nat) (t0 t1 t4 t5 : Value) (h : H) (c : Nat) (df : List Nat) : Option (Rt H) :=
 (lenS t0).bind fun t13 =>
 (aBinOp P .lss 3 t5 t13).bind fun t14 =>
 boolK t14
 ((ixS 1 t0 t5).bind fun t19 =>
 (ld1 h t19).bind fun t20 =>
 (ixS 1 t1 t5).bind fun t23 =>
 (ld1 h t23).bind fun t24 =>
 (aBinOp P .neq 3 t20 t24).bind fun t25 =>
 boolK t25
  (some { e := .ret, vs := [t0, t1, (.bool false), t5], h := h, c := (((c + 1) + 1) + 1), df := df })
  ((aBinOp P .add 3 t5 (.int .i64 1)).bind fun t16 =>
  some { e := .normal, vs := [t0, t1, t4, t16], h := h, c := (((c + 1) + 1) + 1), df := df }))
 (some { e := (.exit 0), vs := [t0, t1, t4, t5], h := h, c := (c + 1), df := df })
theorem f21_L21000_eq (o : Orc H) (rd : Option Nat) (t0 t1 t4 t5 : Value) (h : H) (c : Nat) (df : List Nat) : jx P o 26 rd f21_c21000 (tmOf [0, 1, 4, 5] [t0, t1, t4, t5]) h c df (Klp [0, 1, 4, 5]) = f21_L21000 o rd t0 t1 t4 t5 h c df := by kernel_rfl
noncomputable def f21_S (o : Orc H) (t0 t1 : Value) (h : H) (c : Nat) : Option (Rt H) :=
 (lenS t0).bind fun t7 =>
 (lenS t1).bind fun t9 =>
 (aBinOp P .neq 3 t7 t9).bind fun t10 =>
 boolK t10
 (some { e := .ret, vs := [(.bool false)], h := h, c := (((c + 1) + 1) + 1), df := [] })
 ((o (f21_k21000 none) [t0, t1, (.bool false), (.int .i64 0)] h (((c + 1) + 1) + 1) []).bind fun r0 =>
 cond (exIs r0.e (.exit 0))
  ((takeAll r0.h r0.df).bind fun h2 =>
  some { e := .ret, vs := [(.bool true)], h := h2, c := (r0.c + 1), df := [] })
  (cond (exIs r0.e .ret)
   ((takeAll r0.h r0.df).bind fun h1 =>
   some { e := .ret, vs := [(r0.v 2)], h := h1, c := r0.c, df := [] })
   (none)))
theorem f21_S_eq (o : Orc H) (t0 t1 : Value) (h : H) (c : Nat) : jx P o 26 none f21_c (tmOf (List.range 2) [t0, t1]) h c [] (Kfn P Try.f21.results.toList) = f21_S o t0 t1 h c := by kernel_rfl
theorem f21_go {t0 t1 : Value} {h : FH} {c : Nat} {df : List Nat} {r : Rt FH} (e : f21_S G t0 t1 h c = some r) : G (.fn 21) [t0, t1] h c df = some (gcR h c [] r) := runG_fn (a := f21_f) bk_21 rfl (fun args h c => by cases args <;> rfl) rfl ((f21_S_eq G t0 t1 h c).trans e)
theorem f21_N21000 {rd : Option Nat} {t0 t1 t4 t5 : Value} {h : FH} {c : Nat} {df : List Nat} {q r : Rt FH} (e : f21_L21000 G rd t0 t1 t4 t5 h c df = some q) (hq : q.e = .normal) (k : G (f21_k21000 rd) q.vs (gcR h c df q).h (gcR h c df q).c q.df = some r) : G (f21_k21000 rd) [t0, t1, t4, t5] h c df = some r := runG_lp_next ((f21_L21000_eq G rd t0 t1 t4 t5 h c df).trans e) hq k
theorem f21_Z21000 {rd : Option Nat} {t0 t1 t4 t5 : Value} {h : FH} {c : Nat} {df : List Nat} {q : Rt FH} (e : f21_L21000 G rd t0 t1 t4 t5 h c df = some q) (hq : q.e ≠ .normal) : G (f21_k21000 rd) [t0, t1, t4, t5] h c df = some (gcR h c df q) := runG_lp_last ((f21_L21000_eq G rd t0 t1 t4 t5 h c df).trans e) hq
end Go.Proofs.Ytcnndelmnobigaa
