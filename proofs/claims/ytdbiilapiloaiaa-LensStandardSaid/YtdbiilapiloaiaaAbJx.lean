/- A part of the claim's proof: AbJx. Conditions: none. -/
import Derived.Test.YtdbiilapiloaiaaAbEv
import Derived.Test.YtdbiilapiloaiaaAbCps
/-! Code with continuations, joined where ways meet: what it answers is what the machine without fuel answers. -/
set_option linter.all false
namespace Go.Ab
open Go
set_option linter.unusedVariables false
set_option linter.unusedSimpArgs false

variable {H : Type} [HeapC H] {P : Program}

abbrev Kx (H β : Type) := Ex → Tm → H → Nat → List Nat → Option β

def nthV : List Value → Nat → Value
  | [], _ => undef
  | v :: vs, i => Nat.rec v (fun n _ => nthV vs n) i

def idxL : List Nat → Nat → Nat → Option Nat
  | [], _, _ => none
  | x :: xs, t, i => cond (Nat.beq t x) (some i) (idxL xs t (i + 1))

/-- the temporaries of a layout, picked from a list -/
def tmL (lin : List Nat) (vs : List Value) : Tm := fun t => (idxL lin t 0).bind fun i => some (nthV vs i)

theorem nthV_zero (v : Value) (vs : List Value) : nthV (v :: vs) 0 = v := rfl
theorem nthV_succ (v : Value) (vs : List Value) (i : Nat) : nthV (v :: vs) (i + 1) = nthV vs i := rfl

theorem nthV_get : ∀ {vs : List Value} {i : Nat} {v : Value}, vs[i]? = some v → nthV vs i = v
  | [], i, v, h => by simp at h
  | x :: xs, 0, v, h => by simpa [nthV_zero] using h
  | x :: xs, i + 1, v, h => by rw [nthV_succ]; exact nthV_get (by simpa using h)

theorem idxL_shift : ∀ (l : List Nat) (t i : Nat), idxL l t (i + 1) = (idxL l t i).map (· + 1)
  | [], t, i => rfl
  | x :: xs, t, i => by
    simp only [idxL]
    cases Nat.beq t x with
    | true => rfl
    | false => exact idxL_shift xs t (i + 1)

theorem tmL_eq : ∀ {lin : List Nat} {vs : List Value}, vs.length = lin.length → ∀ t, tmL lin vs t = tmOf lin vs t
  | [], [], _, t => rfl
  | x :: xs, v :: vs, h, t => by
    have ih := tmL_eq (lin := xs) (vs := vs) (by simpa using h) t
    simp only [tmL, idxL, tmOf] at ih ⊢
    cases hb : Nat.beq t x with
    | true => rfl
    | false =>
      simp only [cond_false]
      rw [← ih, idxL_shift]
      cases idxL xs t 0 with
      | none => rfl
      | some i => simp only [Option.map_some, Option.bind_some, nthV_succ]
  | [], v :: vs, h, t => by simp at h
  | x :: xs, [], h, t => by simp at h

def exIs : Ex → Ex → Bool
  | .normal, .normal => true
  | .ret, .ret => true
  | .exit a, .exit b => Nat.beq a b
  | _, _ => false

theorem exIs_eq {a b : Ex} (h : exIs a b = true) : a = b := by
  cases a <;> cases b <;> simp only [exIs] at h <;> first | rfl | cases h | rw [Nat.eq_of_beq_eq_true h]

def disp {β : Type} (e : Ex) (K : Ex → Option β) : List Ex → Option β
  | [] => none
  | x :: xs => cond (exIs e x) (K x) (disp e K xs)

def layF (e : Ex) : List (Ex × List Nat) → Option (List Nat)
  | [] => none
  | x :: xs => cond (exIs e x.1) (some x.2) (layF e xs)

def dispJ {β : Type} (r : Rt H) (K : Kx H β) : List (Ex × List Nat) → Option β
  | [] => none
  | x :: xs => cond (exIs r.e x.1) (K x.1 (tmL x.2 r.vs) r.h r.c r.df) (dispJ r K xs)

/-! ### Regions whose reads may come ahead of or behind a writer -/
def opsKT {β : Type} (P : Program) (o : Orc H) (ops : Array Oper) (base nt : Nat) (K : Tm → H → Nat → List (Option Nat × H) → Option β) : List Oper → Nat → Tm → H → Nat → List (Option Nat × H) → Option β
  | [], _, tm, h, c, tr => K tm h c (tr ++ [(none, h)])
  | op :: rest, i, tm, h, c, tr => stepK P o ops base i nt tm h c op fun v h' c' => opsKT P o ops base nt K rest (i + 1) (putT tm op.dst v) h' c' (tr ++ [(rid ops tm op, h)])

theorem opsKT_eq {β : Type} {o : Orc H} {ops : Array Oper} {base nt : Nat} {K : Tm → H → Nat → List (Option Nat × H) → Option β} : ∀ {l : List Oper} {i : Nat} {tm : Tm} {h : H} {c : Nat} {tr : List (Option Nat × H)},
    opsKT P o ops base nt K l i tm h c tr = (runOpsT P o ops base nt l i tm h c).bind fun r => K r.1 r.2.1 r.2.2.1 (tr ++ r.2.2.2)
  | [], i, tm, h, c, tr => rfl
  | oper :: l, i, tm, h, c, tr => by
    simp only [opsKT, runOpsT, stepK_eq, Option.bind_assoc]
    congr 1
    funext r
    rw [opsKT_eq]
    congr 1
    funext q
    simp only [Option.bind_some, List.append_assoc, List.cons_append, List.nil_append]

/-- a block is the same in two heaps -/
def sameB (x : Option Nat) (h1 h2 : H) : Bool :=
  match x with
  | some x => HeapC.eqB H (HeapC.get h1 x) (HeapC.get h2 x)
  | none => true

/-- `lwOk`, in a form that the kernel compares -/
def lwC (tr : List (Option Nat × H)) (p : Nat × Nat) : Bool :=
  match tr[p.1]? with
  | none => true
  | some e => match tr[p.2]? with
    | none => e.1.isNone
    | some a => match tr[p.2 + 1]? with
      | none => e.1.isNone
      | some b => sameB e.1 a.2 b.2

theorem lwC_eq : (lwC : List (Option Nat × H) → Nat × Nat → Bool) = lwOk := by
  funext tr p
  unfold lwC lwOk
  cases tr[p.1]? with
  | none => rfl
  | some e =>
    obtain ⟨x, h⟩ := e
    cases tr[p.2]? with
    | none => cases x <;> rfl
    | some a =>
      cases tr[p.2 + 1]? with
      | none => cases x <;> rfl
      | some b => cases x <;> rfl

def regK {β : Type} (P : Program) (o : Orc H) (ops : Array Oper) (draw : Bool) (nt : Nat) (tm : Tm) (h : H) (c : Nat) (K : Tm → H → Nat → Option β) : Option β :=
  cond draw
    (cond (regOk ops)
      (cond (lws ops).isEmpty (opsK P o ops c nt K ops.toList 0 tm h (c + 1))
        (opsKT P o ops c nt (fun tm h c tr => cond ((lws ops).all (lwC tr)) (K tm h c) none) ops.toList 0 tm h (c + 1) [])) none)
    (opsK P o ops c nt K ops.toList 0 tm h (c + 1))

theorem regK_eq {β : Type} {o : Orc H} {ops : Array Oper} {draw : Bool} {nt : Nat} {tm : Tm} {h : H} {c : Nat} {K : Tm → H → Nat → Option β} :
    regK P o ops draw nt tm h c K = (runReg P o ops draw nt tm h c).bind fun r => K r.1 r.2.1 r.2.2 := by
  unfold regK runReg
  cases draw with
  | false => exact opsK_eq
  | true =>
    cases regOk ops with
    | false => rfl
    | true =>
      cases (lws ops).isEmpty with
      | true => exact opsK_eq
      | false =>
        simp only [cond_true, cond_false, opsKT_eq, Option.bind_assoc, List.nil_append, lwC_eq]
        congr 1
        funext r
        cases (lws ops).all (lwOk r.2.2.2) <;> rfl

/-! ### Code -/
/-- a range over a function value -/
def rangeV (o : Orc H) (nt : Nat) (rd : Option Nat) (lin fr : List Nat) (ps : Array Tmp) (a b : ACode) (fv : Value) (vs : List Value) (h : H) (c : Nat) (df : List Nat) : Option (Ex × H × Nat × List Nat) :=
  match fv with
  | .func (.func g) first cap => (enterDfr h c rd).bind fun hd =>
      (o (.fn g) (first.toList ++ [.func (.yield (256 * c)) #[] #[]] ++ cap.toList)
        (HeapC.set hd.1 (256 * c) (.loop { state := .ready, pending := none, nt := nt, vals := vs, lin := lin, fr := fr, params := ps.toList, assign := a, body := b, dfr := hd.2 })) (c + 1) []).bind fun r =>
        match HeapC.get r.h (256 * c) with
        | some (.loop st) => cond (decide (st.state = .busy)) none ((exOf st.pending).bind fun e => some (e, HeapC.del r.h (256 * c), r.c, match rd with | none => hd.2 :: df | some _ => df))
        | _ => none
  | _ => none

theorem rangeV_exec {o : Orc H} {nt : Nat} {rd : Option Nat} {lin fr : List Nat} {ps : Array Tmp} {a b : ACode} {tm : Tm} {f : Operand} {fv : Value} {vs : List Value} {h : H} {c : Nat} {df : List Nat} {r : Ex × H × Nat × List Nat}
    (hf : evalO tm f = some fv) (hv : vals tm lin = some vs) (e : rangeV o nt rd lin fr ps a b fv vs h c df = some r) :
    execRange o { tm := tm, h := h, c := c, nt := nt, df := df, rd := rd } lin fr f ps a b = some (r.1, { tm := tm, h := r.2.1, c := r.2.2.1, nt := nt, df := r.2.2.2, rd := rd }) := by
  unfold rangeV at e
  split at e
  · rename_i g first cap
    simp only [Option.bind_eq_some_iff] at e
    obtain ⟨hd, hhd, q, hq, e⟩ := e
    simp only [execRange, hf, hv, hhd, hq, Option.bind_some]
    split at e
    · rename_i st hg
      simp only [hg]
      cases hb : decide (st.state = LoopState.busy) with
      | true => rw [hb] at e; cases e
      | false =>
        rw [hb] at e
        simp only [cond_false, Option.bind_eq_some_iff] at e
        obtain ⟨x, hx, e⟩ := e
        cases e
        simp only [cond_false, hx, Option.bind_some]
        rfl
    · cases e
  · cases e

def jx {β : Type} (P : Program) (o : Orc H) (nt : Nat) (rd : Option Nat) : ACode → Tm → H → Nat → List Nat → Kx H β → Option β
  | .skip, tm, h, c, df, K => K .normal tm h c df
  | .region _ ops draw, tm, h, c, df, K => regK P o ops draw nt tm h c fun tm h c => K .normal tm h c df
  | .seq a b, tm, h, c, df, K => jx P o nt rd a tm h c df fun e tm h c df =>
      match e with
      | .normal => jx P o nt rd b tm h c df K
      | .exit i => K (.exit i) tm h c df
      | .ret => K .ret tm h c df
  | .cond x a b, tm, h, c, df, K => (evalO tm x).bind fun v =>
      match v with
      | .bool t => cond t (jx P o nt rd a tm h c df K) (jx P o nt rd b tm h c df K)
      | _ => none
  | .block id a, tm, h, c, df, K => jx P o nt rd a tm h c df fun e tm h c df =>
      match e with
      | .normal => K .normal tm h c df
      | .exit i => cond (Nat.beq i id) (K .normal tm h c df) (K (.exit i) tm h c df)
      | .ret => K .ret tm h c df
  | .loop j lin fr outs b, tm, h, c, df, K => (vals tm lin).bind fun vs =>
      (o (.lp j lin fr b nt rd) vs h c df).bind fun r => disp r.e (fun e => K e (tmL lin r.vs) r.h r.c r.df) outs
  | .rangeFunc j lin fr outs f ps a b, tm, h, c, df, K => (evalO tm f).bind fun fv => (vals tm lin).bind fun vs =>
      (rangeV o nt rd lin fr ps a b fv vs h c df).bind fun r => disp r.1 (fun e => K e tm r.2.1 r.2.2.1 r.2.2.2) outs
  | .exit id, tm, h, c, df, K => K (.exit id) tm h c df
  | .ret, tm, h, c, df, K => K .ret tm h c df
  | .bad _, _, _, _, _, _ => none
  | .join lays a, tm, h, c, df, K =>
      (jx P o nt rd a tm h c df fun e tm h c df => (layF e lays).bind fun l => (vals tm l).bind fun vs => some ({ e := e, vs := vs, h := h, c := c, df := df } : Rt H)).bind fun r => dispJ r K lays

theorem disp_some {β : Type} {e : Ex} {K : Ex → Option β} {x : β} : ∀ {l : List Ex}, disp e K l = some x → K e = some x
  | [], h => by cases h
  | y :: l, h => by
    simp only [disp] at h
    cases hb : exIs e y with
    | true => rw [hb] at h; rw [exIs_eq hb]; exact h
    | false => rw [hb] at h; exact disp_some h

theorem dispJ_some {β : Type} {r : Rt H} {K : Kx H β} {x : β} : ∀ {l : List (Ex × List Nat)}, dispJ r K l = some x → ∃ lay, layF r.e l = some lay ∧ K r.e (tmL lay r.vs) r.h r.c r.df = some x
  | [], h => by cases h
  | y :: l, h => by
    simp only [dispJ] at h
    simp only [layF]
    cases hb : exIs r.e y.1 with
    | true => rw [hb] at h; refine ⟨y.2, rfl, ?_⟩; rw [exIs_eq hb]; exact h
    | false => rw [hb] at h; exact dispJ_some h

def OLen (o : Orc H) : Prop := ∀ j lin fr b nt rd vs h c df r, o (.lp j lin fr b nt rd) vs h c df = some r → r.vs.length = lin.length

theorem Tm.le_refl (tm : Tm) : tm.le tm := fun _ _ h => h
theorem Tm.le_trans {a b c : Tm} (h : a.le b) (k : b.le c) : a.le c := fun t v e => k t v (h t v e)

theorem jx_sound {β : Type} {o : Orc H} (ho : OLen o) {nt : Nat} {rd : Option Nat} : ∀ {code : ACode} {tm : Tm} {h : H} {c : Nat} {df : List Nat} {K : Kx H β} {x : β}, jx P o nt rd code tm h c df K = some x →
    ∀ {tm' : Tm}, tm.le tm' → ∃ e tm1 tm1' h1 c1 df1, exec P o code { tm := tm', h := h, c := c, nt := nt, df := df, rd := rd } = some (e, { tm := tm1', h := h1, c := c1, nt := nt, df := df1, rd := rd }) ∧ tm1.le tm1' ∧ K e tm1 h1 c1 df1 = some x := by
  intro code
  induction code generalizing β with
  | skip => intro tm h c df K x e tm' hl; exact ⟨_, _, _, _, _, _, rfl, hl, e⟩
  | region id ops d =>
    intro tm h c df K x e tm' hl
    simp only [jx, regK_eq, Option.bind_eq_some_iff] at e
    obtain ⟨q, hq, e⟩ := e
    obtain ⟨tm1, h1, h2⟩ := runReg_le hl hq
    refine ⟨_, _, _, _, _, _, ?_, h2, e⟩
    simp only [exec, h1, Option.bind_some]
  | seq a b iha ihb =>
    intro tm h c df K x e tm' hl
    simp only [jx] at e
    obtain ⟨e1, tm1, tm1', h1, c1, df1, hx, hl1, hk⟩ := iha e hl
    cases e1 with
    | normal =>
      obtain ⟨e2, tm2, tm2', h2, c2, df2, hx2, hl2, hk2⟩ := ihb hk hl1
      exact ⟨_, _, _, _, _, _, by simp only [exec, hx, Option.bind_some]; exact hx2, hl2, hk2⟩
    | exit i => exact ⟨_, _, _, _, _, _, by simp only [exec, hx, Option.bind_some], hl1, hk⟩
    | ret => exact ⟨_, _, _, _, _, _, by simp only [exec, hx, Option.bind_some], hl1, hk⟩
  | cond y a b iha ihb =>
    intro tm h c df K x e tm' hl
    simp only [jx, Option.bind_eq_some_iff] at e
    obtain ⟨v, hv, e⟩ := e
    have hv' := evalO_le hl hv
    split at e
    · rename_i t
      cases t
      · obtain ⟨e1, tm1, tm1', h1, c1, df1, hx, hl1, hk⟩ := ihb e hl
        exact ⟨_, _, _, _, _, _, by simp only [exec, hv', Option.bind_some, cond_false]; exact hx, hl1, hk⟩
      · obtain ⟨e1, tm1, tm1', h1, c1, df1, hx, hl1, hk⟩ := iha e hl
        exact ⟨_, _, _, _, _, _, by simp only [exec, hv', Option.bind_some, cond_true]; exact hx, hl1, hk⟩
    · cases e
  | block id a ih =>
    intro tm h c df K x e tm' hl
    simp only [jx] at e
    obtain ⟨e1, tm1, tm1', h1, c1, df1, hx, hl1, hk⟩ := ih e hl
    cases e1 with
    | normal => exact ⟨_, _, _, _, _, _, by simp only [exec, hx, Option.bind_some], hl1, hk⟩
    | exit i =>
      cases hb : Nat.beq i id with
      | true => simp only [hb] at hk; exact ⟨_, _, _, _, _, _, by simp only [exec, hx, Option.bind_some, hb, cond_true], hl1, hk⟩
      | false => simp only [hb] at hk; exact ⟨_, _, _, _, _, _, by simp only [exec, hx, Option.bind_some, hb, cond_false], hl1, hk⟩
    | ret => exact ⟨_, _, _, _, _, _, by simp only [exec, hx, Option.bind_some], hl1, hk⟩
  | loop j lin fr outs b _ =>
    intro tm h c df K x e tm' hl
    simp only [jx, Option.bind_eq_some_iff] at e
    obtain ⟨vs, hv, r, hr, e⟩ := e
    have hlen := ho _ _ _ _ _ _ _ _ _ _ _ hr
    refine ⟨r.e, tmL lin r.vs, tmOf lin r.vs, r.h, r.c, r.df, ?_, ?_, disp_some e⟩
    · simp only [exec, vals_le hl hv, hr, Option.bind_some]
    · intro t v ht; rw [tmL_eq hlen] at ht; exact ht
  | rangeFunc j lin fr outs f ps a b _ _ =>
    intro tm h c df K x e tm' hl
    simp only [jx, Option.bind_eq_some_iff] at e
    obtain ⟨fv, hf, vs, hv, r, hr, e⟩ := e
    refine ⟨r.1, tm, tm', r.2.1, r.2.2.1, r.2.2.2, ?_, hl, disp_some e⟩
    simp only [exec]
    exact rangeV_exec (evalO_le hl hf) (vals_le hl hv) hr
  | exit id => intro tm h c df K x e tm' hl; exact ⟨_, _, _, _, _, _, rfl, hl, e⟩
  | ret => intro tm h c df K x e tm' hl; exact ⟨_, _, _, _, _, _, rfl, hl, e⟩
  | bad _ => intro tm h c df K x e tm' hl; cases e
  | join lays a ih =>
    intro tm h c df K x e tm' hl
    simp only [jx, Option.bind_eq_some_iff] at e
    obtain ⟨r, hr, e⟩ := e
    obtain ⟨e1, tm1, tm1', h1, c1, df1, hx, hl1, hk⟩ := ih hr hl
    simp only [Option.bind_eq_some_iff] at hk
    obtain ⟨l, hlf, vs, hvs, hk⟩ := hk
    cases hk
    obtain ⟨lay, h3, h4⟩ := dispJ_some e
    simp only at h3 h4
    rw [hlf] at h3
    cases h3
    refine ⟨e1, tmL l vs, tm1', h1, c1, df1, by simp only [exec]; exact hx, ?_, h4⟩
    intro t v ht
    rw [tmL_eq (vals_length hvs)] at ht
    exact hl1 _ _ (vals_tmOf hvs _ _ ht)

/-! ### Functions, loops, rounds -/
theorem resOf_le {tm tm' : Tm} (hl : tm.le tm') {h : H} : ∀ {rs : List ResultVar} {vs : List Value}, resOf P tm h rs = some vs → resOf P tm' h rs = some vs
  | [], vs, e => e
  | .tmp t :: rs, vs, e => by
    simp only [resOf, Option.bind_eq_some_iff] at e ⊢
    obtain ⟨v, hv, ws, hw, e⟩ := e
    exact ⟨v, hl _ _ hv, ws, resOf_le hl hw, e⟩
  | .cell a t :: rs, vs, e => by
    simp only [resOf, Option.bind_eq_some_iff] at e ⊢
    obtain ⟨p, hp, v, hv, ws, hw, e⟩ := e
    exact ⟨p, hl _ _ hp, v, hv, ws, resOf_le hl hw, e⟩

def resK {β : Type} (P : Program) (tm : Tm) (h : H) : List ResultVar → (List Value → Option β) → Option β
  | [], k => k []
  | .tmp t :: rs, k => (tm t).bind fun v => resK P tm h rs fun vs => k (v :: vs)
  | .cell a t :: rs, k => (tm a).bind fun p => (aLoad P h t p).bind fun v => resK P tm h rs fun vs => k (v :: vs)

theorem resK_eq {β : Type} {tm : Tm} {h : H} : ∀ {rs : List ResultVar} {k : List Value → Option β}, resK P tm h rs k = (resOf P tm h rs).bind k
  | [], k => rfl
  | .tmp t :: rs, k => by simp only [resK, resOf, resK_eq, Option.bind_assoc, Option.bind_some]
  | .cell a t :: rs, k => by simp only [resK, resOf, resK_eq, Option.bind_assoc, Option.bind_some]

def Kfn (P : Program) (res : List ResultVar) : Kx H (Rt H) := fun e tm h c df =>
  match e with
  | .exit _ => none
  | .normal => (takeAll h df).bind fun h1 => resK P tm h1 res fun vs => some { e := .ret, vs := [tup vs], h := h1, c := c, df := [] }
  | .ret => (takeAll h df).bind fun h1 => resK P tm h1 res fun vs => some { e := .ret, vs := [tup vs], h := h1, c := c, df := [] }

def Klp (lin : List Nat) : Kx H (Rt H) := fun e tm h c df => (vals tm lin).bind fun vs => some { e := e, vs := vs, h := h, c := c, df := df }

def Krd (l : Nat) : Kx H (Rt H) := fun e tm h c df =>
  (setState h l (cond (jumpOf e).isNone .ready .done) (jumpOf e)).bind fun h2 => cond df.isEmpty (some { e := .ret, vs := [.bool (jumpOf e).isNone], h := h2, c := c, df := [] }) none

theorem run_olen {bk : FuncId → Option AFun} : OLen (run (H := H) P bk) := fun _ _ _ _ _ _ _ _ _ _ _ e => run_lp_length e

/-- a call, from its shallow form -/
theorem run_fn {bk : FuncId → Option AFun} {f : FuncId} {a : AFun} (ha : bk f = some a) (hfr : a.fr = []) {args : List Value} {h : H} {c : Nat} {df : List Nat} {r : Rt H} (hlen : Nat.ble args.length a.nt = true)
    (e : jx P (run P bk) a.nt none a.code (tmOf (List.range args.length) args) h c [] (Kfn P a.res) = some r) : run P bk (.fn f) args h c df = some r := by
  refine run_step ?_
  obtain ⟨e1, tm1, tm1', h1, c1, df1, hx, hl, hk⟩ := jx_sound run_olen e (Tm.le_refl _)
  simp only [answer, ha, Option.bind_some, hlen, cond_true, hx, hfr, dropBs]
  cases e1 with
  | exit id => cases hk
  | normal =>
    simp only [Kfn, resK_eq, Option.bind_eq_some_iff] at hk ⊢
    obtain ⟨h2, ht, vs, hv, hk⟩ := hk
    exact ⟨h2, ht, vs, resOf_le hl hv, hk⟩
  | ret =>
    simp only [Kfn, resK_eq, Option.bind_eq_some_iff] at hk ⊢
    obtain ⟨h2, ht, vs, hv, hk⟩ := hk
    exact ⟨h2, ht, vs, resOf_le hl hv, hk⟩

/-- one round of a loop that goes on -/
theorem run_lp_next {bk : FuncId → Option AFun} {j nt : Nat} {lin : List Nat} {b : ACode} {rd : Option Nat} {vs : List Value} {h : H} {c : Nat} {df : List Nat} {q r : Rt H}
    (e : jx P (run P bk) nt rd b (tmOf lin vs) h c df (Klp lin) = some q) (hq : q.e = .normal) (k : run P bk (.lp j lin [] b nt rd) q.vs q.h q.c q.df = some r) : run P bk (.lp j lin [] b nt rd) vs h c df = some r := by
  refine run_step ?_
  obtain ⟨e1, tm1, tm1', h1, c1, df1, hx, hl, hk⟩ := jx_sound run_olen e (Tm.le_refl _)
  simp only [Klp, Option.bind_eq_some_iff] at hk
  obtain ⟨ws, hw, hk⟩ := hk
  cases hk
  simp only at hq
  subst hq
  simp only [answer, hx, Option.bind_some, vals_le hl hw, dropBs]
  exact k

/-- the last round of a loop -/
theorem run_lp_last {bk : FuncId → Option AFun} {j nt : Nat} {lin : List Nat} {b : ACode} {rd : Option Nat} {vs : List Value} {h : H} {c : Nat} {df : List Nat} {q : Rt H}
    (e : jx P (run P bk) nt rd b (tmOf lin vs) h c df (Klp lin) = some q) (hq : q.e ≠ .normal) : run P bk (.lp j lin [] b nt rd) vs h c df = some q := by
  refine run_step ?_
  obtain ⟨e1, tm1, tm1', h1, c1, df1, hx, hl, hk⟩ := jx_sound run_olen e (Tm.le_refl _)
  simp only [Klp, Option.bind_eq_some_iff] at hk
  obtain ⟨ws, hw, hk⟩ := hk
  cases hk
  simp only at hq
  simp only [answer, hx, Option.bind_some, vals_le hl hw, dropBs]

/-- one round of a range over a function -/
theorem run_rnd {bk : FuncId → Option AFun} {nt l : Nat} {lin params : List Nat} {a b : ACode} {vs : List Value} {h : H} {c : Nat} {df : List Nat} {r : Rt H}
    (e : jx P (run P bk) nt (some l) a (tmOf (params ++ lin) vs) h c [] (fun e tm h c df => match e with
      | .normal => (beginSt h l).bind fun h1 => jx P (run P bk) nt (some l) b tm h1 c df (Krd l)
      | .exit _ => none
      | .ret => none) = some r) : run P bk (.rnd nt lin [] params l a b) vs h c df = some r := by
  refine run_step ?_
  obtain ⟨e1, tm1, tm1', h1, c1, df1, hx, hl, hk⟩ := jx_sound run_olen e (Tm.le_refl _)
  cases e1 with
  | exit id => cases hk
  | ret => cases hk
  | normal =>
    simp only [Option.bind_eq_some_iff] at hk
    obtain ⟨h2, hb, hk⟩ := hk
    obtain ⟨e3, tm3, tm3', h3, c3, df3, hx3, hl3, hk3⟩ := jx_sound run_olen hk hl
    simp only [answer, hx, Option.bind_some, hb, hx3, dropBs]
    exact hk3

end Go.Ab
