/- A part of the claim's proof: AbGc. Conditions: none. -/
import Derived.Test.YtdbiilapiloaiaaAbPrim
/-! The machine without fuel, that forgets what a call or a round has laid and nobody names. -/
set_option linter.all false
namespace Go.Ab
open Go
set_option linter.unusedVariables false
set_option linter.unusedSimpArgs false

variable {P : Program}

/-- all blocks below the counter, as they are -/
noncomputable def nuD (c : Nat) : Mu := fun i => if i < 256 * c then some ⟨i, 0, none⟩ else none

theorem nuD_of {c i : Nat} (h : i < 256 * c) : nuD c i = some ⟨i, 0, none⟩ := by simp [nuD, h]
theorem nuD_dom {c i : Nat} (h : nuD c i ≠ none) : i < 256 * c := by
  unfold nuD at h
  split at h
  · assumption
  · exact absurd rfl h

/-- the value names no block from the counter on -/
def OkV (c : Nat) (v : Value) : Prop := ∃ v', VR (nuD c) v v'

theorem OkV.bool (c : Nat) (b : Bool) : OkV c (.bool b) := ⟨_, .bool b⟩
theorem OkV.int (c : Nat) (k : IntKind) (n : Int) : OkV c (.int k n) := ⟨_, .int k n⟩
theorem OkV.str (c : Nat) (s : ByteArray) : OkV c (.string s) := ⟨_, .str s⟩
theorem OkV.ptr0 (c : Nat) : OkV c (.pointer none) := ⟨_, .ptr0⟩
theorem OkV.ptr {c i o : Nat} (h : i < 256 * c) : OkV c (.pointer (some ⟨i, o, none⟩)) := ⟨_, .ptr (nuD_of h)⟩
theorem OkV.ptrTo {c i : Nat} (h : i < 256 * c) : OkV c (ptrTo i) := ⟨_, .ptr (nuD_of h)⟩
theorem OkV.sl0 (c l k : Nat) : OkV c (.slice none l k) := ⟨_, .sl0 l k⟩
theorem OkV.sl {c i o l k : Nat} (h : i < 256 * c) : OkV c (.slice (some ⟨i, o, none⟩) l k) := ⟨_, .sl (nuD_of h) (Nat.le_refl _) (.inl rfl)⟩
theorem OkV.map0 (c : Nat) : OkV c (.map none) := ⟨_, .map0⟩
theorem OkV.map {c i : Nat} (h : i < 256 * c) : OkV c (.map (some i)) := ⟨_, .map (nuD_of h)⟩
theorem OkV.nilFunc (c : Nat) : OkV c .nilFunc := ⟨_, .nilFunc⟩
theorem OkV.yield {c l : Nat} (h : l < 256 * c) : OkV c (.func (.yield l) #[] #[]) := ⟨_, .yield (nuD_of h)⟩

def OkVs (c : Nat) (vs : List Value) : Prop := ∀ v ∈ vs, OkV c v

theorem OkVs.nil (c : Nat) : OkVs c [] := fun _ h => by cases h
theorem OkVs.cons {c : Nat} {v : Value} {vs : List Value} (h : OkV c v) (hs : OkVs c vs) : OkVs c (v :: vs) := by
  intro x hx
  rcases List.mem_cons.1 hx with rfl | hx
  · exact h
  · exact hs x hx
theorem OkVs.cons_iff {c : Nat} {v : Value} {vs : List Value} : OkVs c (v :: vs) ↔ OkV c v ∧ OkVs c vs :=
  ⟨fun h => ⟨h v (by simp), fun x hx => h x (by simp [hx])⟩, fun h => OkVs.cons h.1 h.2⟩
theorem OkVs.vrs {c : Nat} : ∀ {vs : List Value}, OkVs c vs → ∃ ws, VRs (nuD c) vs ws
  | [], _ => ⟨[], VRs.nil _⟩
  | v :: vs, h => by
    obtain ⟨v', h1⟩ := h v (by simp)
    obtain ⟨ws, h2⟩ := OkVs.vrs (vs := vs) (fun x hx => h x (by simp [hx]))
    exact ⟨v' :: ws, VRs.cons h1 h2⟩
theorem OkV.agg {c : Nat} {l : List Value} (h : OkVs c l) : OkV c (.agg l.toArray) := by
  obtain ⟨ws, h1⟩ := h.vrs
  exact ⟨.agg ws.toArray, VR.agg_iff.2 (by simpa using h1)⟩
theorem OkV.agg_iff {c : Nat} {l : List Value} : OkV c (.agg l.toArray) ↔ OkVs c l := by
  refine ⟨fun h => ?_, OkV.agg⟩
  obtain ⟨v', hv⟩ := h
  cases hv with
  | @agg _ ys hs g =>
    intro x hx
    obtain ⟨k, hk⟩ := List.getElem?_of_mem hx
    have hl : k < ys.size := by
      have := (List.getElem?_eq_some_iff.1 hk).1
      simp at hs; omega
    exact ⟨_, g k x ys[k] (by simpa using hk) (Array.getElem?_eq_getElem hl)⟩

def OkB (c : Nat) : Option ABlk → Prop
  | some (.cells _ _ cs) => OkVs c cs
  | some (.map es) => ∀ e ∈ es, OkV c e.1 ∧ OkV c e.2
  | some (.loop a) => OkVs c a.vals ∧ a.dfr < 256 * c
  | _ => True

/-- below the counter: old, or naming nothing new -/
def GcH (c : Nat) (h A : FH) : Prop := ∀ i, i < 256 * c → h.f i = A.f i ∨ OkB c (h.f i)

noncomputable def mrg (c : Nat) (h A : FH) : FH := ⟨fun i => if i < 256 * c then h.f i else A.f i⟩

def GcOk (A : FH) (c : Nat) (df : List Nat) (r : Rt FH) : Prop := OkVs c r.vs ∧ r.df = df ∧ GcH c r.h A

open Classical in
noncomputable def gcR (A : FH) (c : Nat) (df : List Nat) (r : Rt FH) : Rt FH :=
  if GcOk A c df r then { e := r.e, vs := r.vs, h := mrg c r.h A, c := c, df := df } else r

theorem gcR_of {A : FH} {c : Nat} {df : List Nat} {e : Ex} {vs : List Value} {h : FH} {c' : Nat} (h1 : OkVs c vs) (h2 : GcH c h A) : gcR A c df { e := e, vs := vs, h := h, c := c', df := df } = { e := e, vs := vs, h := mrg c h A, c := c, df := df } := by
  unfold gcR
  rw [if_pos ⟨h1, rfl, h2⟩]

theorem gcR_e {A : FH} {c : Nat} {df : List Nat} {r : Rt FH} : (gcR A c df r).e = r.e := by unfold gcR; split <;> rfl
theorem gcR_vs {A : FH} {c : Nat} {df : List Nat} {r : Rt FH} : (gcR A c df r).vs = r.vs := by unfold gcR; split <;> rfl
theorem gcR_df {A : FH} {c : Nat} {df : List Nat} {r : Rt FH} : (gcR A c df r).df = r.df := by
  unfold gcR
  split
  · rename_i h; exact h.2.1.symm
  · rfl

theorem OkV.on {c : Nat} {μ : Mu} {v v' : Value} (h : VR μ v v') (hv : OkV c v) : VR (μ.on (fun i => i < 256 * c)) v v' :=
  let ⟨_, k⟩ := hv; h.on (fun i => nuD_dom) k

theorem OkB.on {c : Nat} {μ : Mu} {m : ME} {hp : Array Obj} {b : Option ABlk} (h : BlkR μ m hp b) (hb : OkB c b) : BlkR (μ.on (fun i => i < 256 * c)) m hp b := by
  unfold BlkR at h ⊢
  unfold OkB at hb
  split at h
  · rename_i ro opn cs
    obtain ⟨C, E, fr, h1, h2, h3, h4⟩ := h
    refine ⟨C, E, fr, h1, fun k x hx => ?_, h3, h4⟩
    obtain ⟨y, h5, h6⟩ := h2 k x hx
    exact ⟨y, h5, (hb x (List.mem_of_getElem? hx)).on h6⟩
  · rename_i es
    obtain ⟨es', clk, h1, h2, h3⟩ := h
    refine ⟨es', clk, h1, h2, fun k x y hx hy => ?_⟩
    have a := h3 k x y hx hy
    have b := hb x (List.mem_of_getElem? hx)
    exact ⟨b.1.on a.1, b.2.on a.2⟩
  · rename_i a
    obtain ⟨r, h1, h2⟩ := h
    refine ⟨r, h1, ⟨h2.state, h2.pending, h2.params, h2.assign, h2.body, h2.size, fun t v e => ?_, ?_⟩⟩
    · obtain ⟨v', h3, h4⟩ := h2.vals t v e
      have hmem : ∀ (l : List Nat) (vs : List Value), tmOf l vs t = some v → v ∈ vs := by
        intro l
        induction l with
        | nil => intro vs h; simp [tmOf] at h
        | cons x l ih =>
          intro vs h
          cases vs with
          | nil => simp [tmOf] at h
          | cons u vs =>
            simp only [tmOf] at h
            cases hq : Nat.beq t x with
            | true => rw [hq] at h; cases h; simp
            | false => rw [hq] at h; simp [ih vs h]
      exact ⟨v', h3, (hb.1 v (hmem _ _ e)).on h4⟩
    · obtain ⟨m1, h3, h4⟩ := h2.dfr
      exact ⟨m1, by rw [Mu.on_of (D := fun i => i < 256 * c) hb.2]; exact h3, h4⟩
  · exact h
  · trivial
  · trivial

/-- **What is forgotten does not matter.** -/
theorem gcExt {μ μ' : Mu} {A h : FH} {c c' : Nat} {w w' : World} (hE : Ext μ A c w (fun _ => False) μ' h c' w') (hR : R μ A w) (hf : Fresh μ c) (hg : GcH c h A) :
    Ext μ A c w (fun _ => False) (μ'.on (fun i => i < 256 * c)) (mrg c h A) c w' := by
  have lt : ∀ {i : Nat} {m : ME}, μ i = some m → i < 256 * c := fun {i m} e => by
    by_cases hi : i < 256 * c
    · exact hi
    · rw [hf i (by omega)] at e; cases e
  have old : ∀ {i : Nat} {m : ME}, μ'.on (fun i => i < 256 * c) i = some m → i < 256 * c ∧ μ' i = some m ∧ μ i = some m := fun {i m} e => by
    obtain ⟨h1, h2⟩ := Mu.on_some e
    refine ⟨h1, h2, ?_⟩
    cases e0 : μ i with
    | none =>
      rcases hE.new i e0 (by rw [h2]; simp) with a | ⟨a, _⟩
      · exact a.elim
      · omega
    | some m0 => rw [← hE.mu i m0 e0, h2]
  have gm : ∀ {i : Nat}, i < 256 * c → HeapC.get (mrg c h A) i = HeapC.get h i := fun {i} hi => by show (mrg c h A).f i = h.f i; simp [mrg, hi]
  refine { mu := fun i m e => ?_, new := fun i e0 e1 => ?_, cle := Nat.le_refl _, rel := ?_, af := fun i e0 hi _ => ?_, os := hE.os, tape := hE.tape, output := hE.output, size := hE.size, fr := hE.fr, wrm := fun i m e hw => ?_, newb := fun i m e0 e1 => ?_, dd := fun i m e hd => ?_ }
  · rw [Mu.on_of (D := fun i => i < 256 * c) (lt e)]; exact hE.mu i m e
  · cases e2 : μ'.on (fun i => i < 256 * c) i with
    | none => exact absurd e2 e1
    | some m => rw [(old e2).2.2] at e0; cases e0
  · refine ⟨fun i m e => ?_, fun i j mi mj ei ej hne di dj hro => ?_, fun i m e => hE.rel.lt i m (old e).2.1⟩
    · obtain ⟨h1, h2, h3⟩ := old e
      rw [gm h1]
      have hb := hE.rel.blk i m h2
      rcases hg i h1 with a | a
      · have hb' := hR.blk i m h3
        have ha : HeapC.get h i = HeapC.get A i := a
        rw [ha] at hb ⊢
        exact hb.onS ⟨μ, m, w.heap, hb', fun j hj => by
          cases ej : μ j with
          | none => exact absurd ej hj
          | some mj => exact lt ej⟩
      · exact OkB.on hb a
    · obtain ⟨i1, i2, i3⟩ := old ei
      obtain ⟨j1, j2, j3⟩ := old ej
      rw [gm i1] at di hro
      rw [gm j1] at dj hro
      exact hE.rel.inj i j mi mj i2 j2 hne di dj hro
  · rw [gm hi]; exact hE.af i e0 hi (fun h => h)
  · rw [gm (lt e)] at hw; exact hE.wrm i m e hw
  · rw [(old e1).2.2] at e0; cases e0
  · rw [gm (lt e)]; exact hE.dd i m e hd

theorem gcCall {μ : Mu} {A : FH} {c : Nat} {w w' : World} {r : Rt FH} {e : Ending} (hR : R μ A w) (hf : Fresh μ c) (h : CallR μ A c w r e w') : CallR μ A c w (gcR A c [] r) e w' := by
  unfold gcR
  split
  · rename_i hg
    obtain ⟨v, v', μ', h1, h2, h3, h4⟩ := h
    refine ⟨v, v', _, h1, h2, ?_, gcExt h4 hR hf hg.2.2⟩
    exact (hg.1 v (by rw [h1]; simp)).on h3
  · exact h

/-- what is forgotten at this key -/
noncomputable def gcS (sel : Key → Bool) (k : Key) (A : FH) (c : Nat) (df : List Nat) (r : Rt FH) : Rt FH := cond (sel k) (gcR A c df r) r

theorem gcS_e {sel : Key → Bool} {k : Key} {A : FH} {c : Nat} {df : List Nat} {r : Rt FH} : (gcS sel k A c df r).e = r.e := by unfold gcS; cases sel k <;> first | rfl | exact gcR_e
theorem gcS_vs {sel : Key → Bool} {k : Key} {A : FH} {c : Nat} {df : List Nat} {r : Rt FH} : (gcS sel k A c df r).vs = r.vs := by unfold gcS; cases sel k <;> first | rfl | exact gcR_vs
theorem gcS_df {sel : Key → Bool} {k : Key} {A : FH} {c : Nat} {df : List Nat} {r : Rt FH} : (gcS sel k A c df r).df = r.df := by unfold gcS; cases sel k <;> first | rfl | exact gcR_df
theorem gcSCall {sel : Key → Bool} {k : Key} {μ : Mu} {A : FH} {c : Nat} {w w' : World} {r : Rt FH} {e : Ending} (hR : R μ A w) (hf : Fresh μ c) (h : CallR μ A c w r e w') : CallR μ A c w (gcS sel k A c [] r) e w' := by
  unfold gcS
  cases sel k with
  | true => exact gcCall hR hf h
  | false => exact h

/-! ### The oracle -/
abbrev Fo (H : Type) := FuncId → List Value → H → Nat → Option (Rt H)

/-- What a table of calls is good for. -/
def FnOK (P : Program) (oc : Fo FH) : Prop :=
  ∀ (f : FuncId) (args : List Value) (A : FH) (c : Nat) (r : Rt FH), oc f args A c = some r →
    (∀ as w, (callFunc f as).run P w = .ok (.enter f as) w) ∧
    ∀ (μ : Mu) (w : World) (args' : List Value), VRs μ args args' → R μ A w → Fresh μ c → Calls P f args'.toArray w (CallR μ A c w r)

noncomputable def answerG (P : Program) (bk : FuncId → Option AFun) (sel : Key → Bool) (ext : Fo FH) (o : Orc FH) : Orc FH
  | .fn f, args, h, c, df =>
    match ext f args h c with
    | some r => some r
    | none => (answer P bk o (.fn f) args h c df).bind fun r => some (gcS sel (.fn f) h c [] r)
  | .lp j lin fr b nt rd, vs, h, c, df =>
      (exec P o b { tm := tmOf lin vs, h := h, c := c, nt := nt, df := df, rd := rd }).bind fun r =>
        (vals r.2.tm lin).bind fun vs' =>
          match r.1 with
          | .normal => o (.lp j lin fr b nt rd) vs' (gcS sel (.lp j lin fr b nt rd) h c df { e := .normal, vs := vs', h := dropBs r.2.tm r.2.h fr, c := r.2.c, df := r.2.df }).h (gcS sel (.lp j lin fr b nt rd) h c df { e := .normal, vs := vs', h := dropBs r.2.tm r.2.h fr, c := r.2.c, df := r.2.df }).c r.2.df
          | e => some (gcS sel (.lp j lin fr b nt rd) h c df { e := e, vs := vs', h := dropBs r.2.tm r.2.h fr, c := r.2.c, df := r.2.df })
  | .rnd nt lin fr params l a b, vs, h, c, df => (answer P bk o (.rnd nt lin fr params l a b) vs h c df).bind fun r => some (gcS sel (.rnd nt lin fr params l a b) h c [] r)

theorem tmOf_val {t : Nat} {v : Value} : ∀ {l : List Nat} {vs : List Value}, tmOf l vs t = some v → v ∈ vs
  | [], vs, h => by simp [tmOf] at h
  | x :: l, [], h => by simp [tmOf] at h
  | x :: l, u :: vs, h => by
    simp only [tmOf] at h
    cases hq : Nat.beq t x with
    | true => rw [hq] at h; cases h; simp
    | false => rw [hq] at h; simp [tmOf_val h]

theorem DfR.lt {μ : Mu} {c : Nat} (hf : Fresh μ c) {ds : List Nat} {es : List Deferred} (h : DfR μ ds es) : ∀ i ∈ ds, i < 256 * c := by
  induction h with
  | nil => intro i hi; cases hi
  | @cons i m d ds es hm ht hs ih =>
    intro j hj
    rcases List.mem_cons.1 hj with rfl | hj
    · by_cases hi : j < 256 * c
      · exact hi
      · rw [hf j (by omega)] at hm; cases hm
    · exact ih j hj

theorem DfR.on {μ : Mu} {D : Nat → Prop} {ds : List Nat} {es : List Deferred} (h : DfR μ ds es) (hD : ∀ i ∈ ds, D i) : DfR (μ.on D) ds es := by
  induction h with
  | nil => exact .nil
  | cons hm ht _ ih => exact .cons (by rw [Mu.on_of (hD _ (by simp))]; exact hm) ht (ih fun i hi => hD i (by simp [hi]))

theorem LoopOK.stepG {bk : FuncId → Option AFun} {sel : Key → Bool} {ext : Fo FH} {o : Orc FH} {k : Nat} (hO : OS P o) (hL : LoopOK P o k) (hmix : P.follows .mixedOrders = true) : LoopOK P (answerG P bk sel ext o) (k + 1) := by
  intro j lin fr b nt rd vs A c df r e μ w a ro n Q ht hR hfr hrd hdf hQ
  simp only [answerG, Option.bind_eq_some_iff] at e
  obtain ⟨⟨ex, s1⟩, h1, vs', hvs', e⟩ := e
  refine exec_wp hO hL hmix h1 ht hR hfr hrd hdf fun a1 μ1 w1 ht1 hdf1 hE1 => ?_
  have hdrop := dropBs_ext (c := s1.c) ht1 fr s1.h hE1.rel
  have hE2 := hE1.trans0 hdrop
  have ht2 := ht1.sub (vals_tmOf hvs')
  -- what is left when the heap is cleaned
  have key : ∀ (ex : Ex) (Q' : Exit → Act → World → Prop),
      (∀ μ2, TmR μ2 (tmOf lin vs') nt a1.tmps → DfR μ2 s1.df a1.defers → Ext μ A c w (fun _ => False) μ2 (gcS sel (.lp j lin fr b nt rd) A c df { e := ex, vs := vs', h := dropBs s1.tm s1.h fr, c := s1.c, df := s1.df }).h
        (gcS sel (.lp j lin fr b nt rd) A c df { e := ex, vs := vs', h := dropBs s1.tm s1.h fr, c := s1.c, df := s1.df }).c w1 → Q' (exitOf ex) a1 w1) → Q' (exitOf ex) a1 w1 := by
    intro ex Q' hq
    by_cases hg : sel (.lp j lin fr b nt rd) = true ∧ GcOk A c df { e := ex, vs := vs', h := dropBs s1.tm s1.h fr, c := s1.c, df := s1.df }
    · refine hq (μ1.on (fun i => i < 256 * c)) ?_ ?_ ?_
      · refine ⟨ht2.size, fun t v hv => ?_⟩
        obtain ⟨v', h3, h4⟩ := ht2.val t v hv
        exact ⟨v', h3, (hg.2.1 v (tmOf_val hv)).on h4⟩
      · refine hdf1.on ?_
        have : s1.df = df := hg.2.2.1
        rw [this]
        exact hdf.lt hfr
      · unfold gcS gcR
        rw [hg.1, cond_true, if_pos hg.2]
        exact gcExt hE2 hR hfr hg.2.2.2
    · refine hq μ1 ht2 hdf1 ?_
      unfold gcS gcR
      cases hs : sel (.lp j lin fr b nt rd) with
      | false => exact hE2
      | true =>
        rw [cond_true, if_neg (fun h => hg ⟨hs, h⟩)]
        exact hE2
  cases ex with
  | normal =>
    refine key .normal (Exit.then (Code.roundsIn (wd ro) n P (strip b) Q k) Q) fun μ2 ht3 hdf3 hE3 => ?_
    exact hL _ _ _ _ _ _ _ _ _ _ _ e μ2 w1 a1 ro n Q ht3 hE3.rel (hE3.fresh hfr (fun _ h => h.elim)) (hrd.mono hE3.mu) hdf3 (fun a2 μ3 w2 h3 h4 h5 => hQ a2 μ3 w2 h3 h4 (hE3.trans0 h5))
  | exit id =>
    cases e
    refine key (.exit id) Q fun μ2 ht3 hdf3 hE3 => ?_
    exact hQ a1 μ2 w1 (by rw [gcS_vs]; exact ht3) (by rw [gcS_df]; exact hdf3) hE3 |> fun h => by rw [gcS_e] at h; exact h
  | ret =>
    cases e
    refine key .ret Q fun μ2 ht3 hdf3 hE3 => ?_
    exact hQ a1 μ2 w1 (by rw [gcS_vs]; exact ht3) (by rw [gcS_df]; exact hdf3) hE3 |> fun h => by rw [gcS_e] at h; exact h

theorem OS.stepG {bk : FuncId → Option AFun} {sel : Key → Bool} {ext : Fo FH} (hbk : BookOK P bk) (hext : FnOK P ext) {o : Orc FH} {k : Nat} (hO : OS P o) (hL : LoopOK P o k) (hmix : P.follows .mixedOrders = true) : OS P (answerG P bk sel ext o) where
  fn := by
    intro f args A c df r e
    simp only [answerG] at e
    cases he : ext f args A c with
    | some q =>
      rw [he] at e
      cases e
      exact hext f args A c _ he
    | none =>
      rw [he] at e
      simp only [Option.bind_eq_some_iff] at e
      obtain ⟨q, hq, e⟩ := e
      cases e
      obtain ⟨h1, h2⟩ := (OS.step hbk hO hL hmix).fn f args A c df q hq
      exact ⟨h1, fun μ w args' ha hR hf => (h2 μ w args' ha hR hf).mono fun e w' h => gcSCall hR hf h⟩
  rnd := by
    intro nt lin fr params l x y vs A c df r e μ w ts m ro n f hm ht hR hf
    simp only [answerG, Option.bind_eq_some_iff] at e
    obtain ⟨q, hq, e⟩ := e
    cases e
    exact ((OS.step hbk hO hL hmix).rnd nt lin fr params l x y vs A c df q hq μ w ts m ro n f hm ht hR hf).mono fun e w' h => gcSCall hR hf h

noncomputable def orcG (P : Program) (bk : FuncId → Option AFun) (sel : Key → Bool) (ext : Fo FH) : Nat → Orc FH
  | 0 => fun _ _ _ _ _ => none
  | n + 1 => answerG P bk sel ext (orcG P bk sel ext n)

theorem orcG_ok {bk : FuncId → Option AFun} {sel : Key → Bool} {ext : Fo FH} (hbk : BookOK P bk) (hext : FnOK P ext) (hmix : P.follows .mixedOrders = true) : ∀ n, OS P (orcG P bk sel ext n) ∧ LoopOK P (orcG P bk sel ext n) n
  | 0 => ⟨⟨(fun _ _ _ _ _ _ e => by cases e), (fun _ _ _ _ _ _ _ _ _ _ _ _ e => by cases e)⟩, fun _ _ _ _ _ _ _ _ _ _ _ e => by cases e⟩
  | n + 1 => ⟨OS.stepG hbk hext (orcG_ok (sel := sel) (ext := ext) hbk hext hmix n).1 (orcG_ok (sel := sel) (ext := ext) hbk hext hmix n).2 hmix, LoopOK.stepG (orcG_ok (sel := sel) (ext := ext) hbk hext hmix n).1 (orcG_ok (sel := sel) (ext := ext) hbk hext hmix n).2 hmix⟩

theorem answerG_ev {bk : FuncId → Option AFun} {sel : Key → Bool} {ext : Fo FH} {ox : Orc FH} {os : Nat → Orc FH} (hF : Fam ox os) : Fam (answerG P bk sel ext ox) (fun n => answerG P bk sel ext (os n)) := by
  intro k args h c df r e
  cases k with
  | fn f =>
    simp only [answerG] at e ⊢
    cases he : ext f args h c with
    | some q => rw [he] at e; exact Ev.const e
    | none =>
      rw [he] at e
      simp only [Option.bind_eq_some_iff] at e
      obtain ⟨q, hq, e⟩ := e
      exact Ev.bind (answer_ev hF _ _ _ _ _ _ hq) (Ev.const e)
  | rnd nt lin fr params l a b =>
    simp only [answerG, Option.bind_eq_some_iff] at e ⊢
    obtain ⟨q, hq, e⟩ := e
    exact Ev.bind (answer_ev hF _ _ _ _ _ _ hq) (Ev.const e)
  | lp j lin fr b nt rd =>
    simp only [answerG, Option.bind_eq_some_iff] at e ⊢
    obtain ⟨q, hq, vs, hv, e⟩ := e
    refine Ev.bind (exec_ev hF hq) (Ev.bindc hv ?_)
    cases hq1 : q.1 with
    | normal => rw [hq1] at e; exact hF _ _ _ _ _ _ e
    | exit id => rw [hq1] at e; exact Ev.const e
    | ret => rw [hq1] at e; exact Ev.const e

theorem orcG_succ_le {bk : FuncId → Option AFun} {sel : Key → Bool} {ext : Fo FH} : ∀ n k args h c df r, orcG P bk sel ext n k args h c df = some r → orcG P bk sel ext (n + 1) k args h c df = some r
  | 0, k, args, h, c, df, r, e => by cases e
  | n + 1, k, args, h, c, df, r, e => by
    have hF : Fam (orcG P bk sel ext n) (fun _ => orcG P bk sel ext (n + 1)) := fun k args h c df r e => Ev.const (orcG_succ_le n k args h c df r e)
    obtain ⟨m, hm⟩ := answerG_ev hF k args h c df r e
    exact hm m (Nat.le_refl _)

theorem orcG_le {bk : FuncId → Option AFun} {sel : Key → Bool} {ext : Fo FH} {n m : Nat} (hnm : n ≤ m) {k : Key} {args : List Value} {h : FH} {c : Nat} {df : List Nat} {r : Rt FH} (e : orcG P bk sel ext n k args h c df = some r) : orcG P bk sel ext m k args h c df = some r := by
  induction hnm with
  | refl => exact e
  | step _ ih => exact orcG_succ_le _ _ _ _ _ _ _ ih

open Classical in
noncomputable def runG (P : Program) (bk : FuncId → Option AFun) (sel : Key → Bool) (ext : Fo FH) : Orc FH := fun k args h c df =>
  if hx : ∃ n r, orcG P bk sel ext n k args h c df = some r then orcG P bk sel ext (Classical.choose hx) k args h c df else none

theorem runG_of {bk : FuncId → Option AFun} {sel : Key → Bool} {ext : Fo FH} {n : Nat} {k : Key} {args : List Value} {h : FH} {c : Nat} {df : List Nat} {r : Rt FH} (e : orcG P bk sel ext n k args h c df = some r) : runG P bk sel ext k args h c df = some r := by
  have hx : ∃ n r, orcG P bk sel ext n k args h c df = some r := ⟨n, r, e⟩
  unfold runG
  rw [dif_pos hx]
  obtain ⟨r', h'⟩ := Classical.choose_spec hx
  have h1 := orcG_le (Nat.le_max_left (Classical.choose hx) n) h'
  have h2 := orcG_le (Nat.le_max_right (Classical.choose hx) n) e
  rw [h1] at h2
  rw [h', h2]

theorem runG_some {bk : FuncId → Option AFun} {sel : Key → Bool} {ext : Fo FH} {k : Key} {args : List Value} {h : FH} {c : Nat} {df : List Nat} {r : Rt FH} (e : runG P bk sel ext k args h c df = some r) : ∃ n, orcG P bk sel ext n k args h c df = some r := by
  unfold runG at e
  split at e
  · exact ⟨_, e⟩
  · cases e

theorem runG_fam {bk : FuncId → Option AFun} {sel : Key → Bool} {ext : Fo FH} : Fam (runG P bk sel ext) (orcG P bk sel ext) := by
  intro k args h c df r e
  obtain ⟨n, hn⟩ := runG_some e
  exact ⟨n, fun m hm => orcG_le hm hn⟩

theorem runG_step {bk : FuncId → Option AFun} {sel : Key → Bool} {ext : Fo FH} {k : Key} {args : List Value} {h : FH} {c : Nat} {df : List Nat} {r : Rt FH} (e : answerG P bk sel ext (runG P bk sel ext) k args h c df = some r) : runG P bk sel ext k args h c df = some r := by
  obtain ⟨n, hn⟩ := answerG_ev (runG_fam (P := P) (bk := bk) (sel := sel) (ext := ext)) k args h c df r e
  exact runG_of (n := n + 1) (hn n (Nat.le_refl _))

theorem orcG_lp_length {bk : FuncId → Option AFun} {sel : Key → Bool} {ext : Fo FH} : ∀ n j lin fr b nt rd vs (h : FH) c df r, orcG P bk sel ext n (.lp j lin fr b nt rd) vs h c df = some r → r.vs.length = lin.length
  | 0, _, _, _, _, _, _, _, _, _, _, _, e => by cases e
  | n + 1, j, lin, fr, b, nt, rd, vs, h, c, df, r, e => by
    simp only [orcG, answerG, Option.bind_eq_some_iff] at e
    obtain ⟨q, hq, ws, hw, e⟩ := e
    cases hq1 : q.1 with
    | normal => rw [hq1] at e; exact orcG_lp_length n j lin fr b nt rd _ _ _ _ r e
    | exit id => rw [hq1] at e; cases e; rw [gcS_vs]; exact vals_length hw
    | ret => rw [hq1] at e; cases e; rw [gcS_vs]; exact vals_length hw

theorem runG_olen {bk : FuncId → Option AFun} {sel : Key → Bool} {ext : Fo FH} : OLen (runG P bk sel ext) := fun _ _ _ _ _ _ _ _ _ _ _ e => by
  obtain ⟨n, hn⟩ := runG_some e
  exact orcG_lp_length _ _ _ _ _ _ _ _ _ _ _ _ hn

/-- **What is answered is what the call does.** -/
theorem runG_calls {bk : FuncId → Option AFun} {sel : Key → Bool} {ext : Fo FH} (hbk : BookOK P bk) (hext : FnOK P ext) (hmix : P.follows .mixedOrders = true) {f : FuncId} {args args' : List Value} {A : FH} {c : Nat} {r : Rt FH} (e : runG P bk sel ext (.fn f) args A c [] = some r) {μ : Mu} {w : World}
    (hv : VRs μ args args') (hR : R μ A w) (hfr : Fresh μ c) : Calls P f args'.toArray w (CallR μ A c w r) := by
  obtain ⟨n, hn⟩ := runG_some e
  exact ((orcG_ok (sel := sel) (ext := ext) hbk hext hmix n).1.fn f args A c [] r hn).2 μ w args' hv hR hfr

/-- a call, from its shallow form -/
theorem runG_fn {bk : FuncId → Option AFun} {sel : Key → Bool} {ext : Fo FH} {f : FuncId} {a : AFun} (ha : bk f = some a) (hfr : a.fr = []) (hxt : ∀ args h c, ext f args h c = none) {args : List Value} {h : FH} {c : Nat} {df : List Nat} {r : Rt FH} (hlen : Nat.ble args.length a.nt = true)
    (e : jx P (runG P bk sel ext) a.nt none a.code (tmOf (List.range args.length) args) h c [] (Kfn P a.res) = some r) : runG P bk sel ext (.fn f) args h c df = some (gcS sel (.fn f) h c [] r) := by
  refine runG_step ?_
  obtain ⟨e1, tm1, tm1', h1, c1, df1, hx, hl, hk⟩ := jx_sound runG_olen e (Tm.le_refl _)
  simp only [answerG, hxt, Option.bind_eq_some_iff]
  refine ⟨r, ?_, rfl⟩
  simp only [answer, ha, Option.bind_some, hlen, cond_true, hx, hfr, dropBs]
  cases e1 with
  | exit id => cases hk
  | normal =>
    simp only [Kfn, resK_eq, Option.bind_eq_some_iff] at hk ⊢
    obtain ⟨h2, ht, vs, hv, hk⟩ := hk
    exact ⟨h2, ht, vs, resOf_le hl hv, hk⟩
  | ret =>
    simp only [Kfn, resK_eq, Option.bind_eq_some_iff] at hk ⊢
    obtain ⟨h2, ht, vs, hv, hk⟩ := hk
    exact ⟨h2, ht, vs, resOf_le hl hv, hk⟩

/-- one round of a loop that goes on -/
theorem runG_lp_next {bk : FuncId → Option AFun} {sel : Key → Bool} {ext : Fo FH} {j nt : Nat} {lin : List Nat} {b : ACode} {rd : Option Nat} {vs : List Value} {h : FH} {c : Nat} {df : List Nat} {q r : Rt FH}
    (e : jx P (runG P bk sel ext) nt rd b (tmOf lin vs) h c df (Klp lin) = some q) (hq : q.e = .normal) (k : runG P bk sel ext (.lp j lin [] b nt rd) q.vs (gcS sel (.lp j lin [] b nt rd) h c df q).h (gcS sel (.lp j lin [] b nt rd) h c df q).c q.df = some r) : runG P bk sel ext (.lp j lin [] b nt rd) vs h c df = some r := by
  refine runG_step ?_
  obtain ⟨e1, tm1, tm1', h1, c1, df1, hx, hl, hk⟩ := jx_sound runG_olen e (Tm.le_refl _)
  simp only [Klp, Option.bind_eq_some_iff] at hk
  obtain ⟨ws, hw, hk⟩ := hk
  cases hk
  simp only at hq
  subst hq
  simp only [answerG, hx, Option.bind_some, vals_le hl hw, dropBs]
  exact k

/-- the last round of a loop -/
theorem runG_lp_last {bk : FuncId → Option AFun} {sel : Key → Bool} {ext : Fo FH} {j nt : Nat} {lin : List Nat} {b : ACode} {rd : Option Nat} {vs : List Value} {h : FH} {c : Nat} {df : List Nat} {q : Rt FH}
    (e : jx P (runG P bk sel ext) nt rd b (tmOf lin vs) h c df (Klp lin) = some q) (hq : q.e ≠ .normal) : runG P bk sel ext (.lp j lin [] b nt rd) vs h c df = some (gcS sel (.lp j lin [] b nt rd) h c df q) := by
  refine runG_step ?_
  obtain ⟨e1, tm1, tm1', h1, c1, df1, hx, hl, hk⟩ := jx_sound runG_olen e (Tm.le_refl _)
  simp only [Klp, Option.bind_eq_some_iff] at hk
  obtain ⟨ws, hw, hk⟩ := hk
  cases hk
  simp only at hq
  simp only [answerG, hx, Option.bind_some, vals_le hl hw, dropBs]

/-- one round of a range over a function -/
theorem runG_rnd {bk : FuncId → Option AFun} {sel : Key → Bool} {ext : Fo FH} {nt l : Nat} {lin params : List Nat} {a b : ACode} {vs : List Value} {h : FH} {c : Nat} {df : List Nat} {r : Rt FH}
    (e : jx P (runG P bk sel ext) nt (some l) a (tmOf (params ++ lin) vs) h c [] (rndK P (runG P bk sel ext) nt l b) = some r) : runG P bk sel ext (.rnd nt lin [] params l a b) vs h c df = some (gcS sel (.rnd nt lin [] params l a b) h c [] r) := by
  refine runG_step ?_
  obtain ⟨e1, tm1, tm1', h1, c1, df1, hx, hl, hk⟩ := jx_sound runG_olen e (Tm.le_refl _)
  simp only [answerG, Option.bind_eq_some_iff]
  refine ⟨r, ?_, rfl⟩
  cases e1 with
  | exit id => cases hk
  | ret => cases hk
  | normal =>
    simp only [rndK, Option.bind_eq_some_iff] at hk
    obtain ⟨h2, hb, hk⟩ := hk
    obtain ⟨e3, tm3, tm3', h3, c3, df3, hx3, hl3, hk3⟩ := jx_sound runG_olen hk hl
    simp only [answer, hx, Option.bind_some, hb, hx3, dropBs]
    exact hk3

/-- what is answered by heart -/
theorem runG_ext {bk : FuncId → Option AFun} {sel : Key → Bool} {ext : Fo FH} {f : FuncId} {args : List Value} {h : FH} {c : Nat} {df : List Nat} {r : Rt FH} (e : ext f args h c = some r) : runG P bk sel ext (.fn f) args h c df = some r := by
  refine runG_step ?_
  simp only [answerG, e]

/-- a closed call without arguments, found by evaluation, answers anywhere -/
theorem closed_ok {H : Type} [HeapC H] {bk : FuncId → Option AFun} (hbk : BookOK P bk) (hmix : P.follows .mixedOrders = true) {f : FuncId} {A0 : H} {r0 : Rt H} {b : Bool} (e : run P bk (.fn f) [] A0 0 [] = some r0) (hv : r0.vs = [.bool b])
    (A : FH) (c : Nat) (μ : Mu) (w : World) (args' : List Value) (ha : VRs μ [] args') (hR : R μ A w) (hf : Fresh μ c) : Calls P f args'.toArray w (CallR μ A c w { e := .ret, vs := [.bool b], h := A, c := c, df := [] }) := by
  have h0 : R (fun _ => none : Mu) A0 w := ⟨(fun i m e => by cases e), (fun i j mi mj ei => by cases ei), (fun i m e => by cases e)⟩
  have ha' : args' = [] := List.eq_nil_of_length_eq_zero ha.1.symm
  subst ha'
  refine (run_calls hbk hmix e (VRs.nil _) h0 (fun i hi => rfl)).mono ?_
  rintro en w' ⟨v, v', μ', h1, h2, h3, hE⟩
  rw [hv] at h1
  cases h1
  have h3' := h3.bool_left
  subst h3'
  have hfr : ∀ b, b < w.heap.size → w'.heap[b]? = w.heap[b]? := fun b hb => hE.fr b hb (fun i m e => (by cases e))
  refine ⟨_, _, μ, rfl, h2, .bool b, ?_⟩
  refine { mu := fun i m e => e, new := fun i e0 e1 => absurd e0 e1, cle := Nat.le_refl _, rel := ?_, af := fun i e0 hi _ => rfl, os := hE.os, tape := hE.tape, output := hE.output, size := hE.size, fr := fun b hb _ => hfr b hb, wrm := fun i m e hw => hw, newb := fun i m e0 e1 => (by rw [e0] at e1; cases e1), dd := fun i m e hd => hd }
  refine ⟨fun i m em => ?_, hR.inj, fun i m em => Nat.lt_of_lt_of_le (hR.lt i m em) hE.size⟩
  have hb := hR.blk i m em
  have hl := hR.lt i m em
  unfold BlkR at hb ⊢
  rw [hfr m.b hl]
  exact hb

end Go.Ab
