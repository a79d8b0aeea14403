/- A part of the claim's proof: AbGen. Conditions: none. -/
import Derived.Test.YtdbiilapiloaiaaAbShal
/-! Any code as a shallow piece. -/
set_option linter.all false
namespace Go.Ab
open Go
set_option linter.unusedVariables false
set_option linter.unusedSimpArgs false

variable {H : Type} [HeapC H] {P : Program}

theorem exec_le {o : Orc H} : ∀ {code : ACode} {s : St H} {e : Ex} {s1 : St H} {tm' : Tm}, exec P o code s = some (e, s1) → s.tm.le tm' →
    ∃ tm1, exec P o code { s with tm := tm' } = some (e, { s1 with tm := tm1 }) ∧ s1.tm.le tm1 := by
  intro code
  induction code with
  | skip => intro s e s1 tm' h hl; cases h; exact ⟨tm', rfl, hl⟩
  | join lays x ih => intro s e s1 tm' h hl; simp only [exec] at h ⊢; exact ih h hl
  | region id ops d =>
    intro s e s1 tm' h hl
    simp only [exec, Option.bind_eq_some_iff] at h ⊢
    obtain ⟨r, hr, h⟩ := h
    cases h
    obtain ⟨tm1, h1, h2⟩ := runReg_le hl hr
    exact ⟨tm1, ⟨_, h1, rfl⟩, h2⟩
  | seq a b iha ihb =>
    intro s e s1 tm' h hl
    simp only [exec, Option.bind_eq_some_iff] at h ⊢
    obtain ⟨⟨e2, s2⟩, h1, h⟩ := h
    obtain ⟨tm2, h2, hl2⟩ := iha h1 hl
    cases e2 with
    | normal =>
      obtain ⟨tm3, h3, hl3⟩ := ihb h hl2
      exact ⟨tm3, ⟨_, h2, h3⟩, hl3⟩
    | exit id => cases h; exact ⟨tm2, ⟨_, h2, rfl⟩, hl2⟩
    | ret => cases h; exact ⟨tm2, ⟨_, h2, rfl⟩, hl2⟩
  | cond c a b iha ihb =>
    intro s e s1 tm' h hl
    simp only [exec, Option.bind_eq_some_iff] at h ⊢
    obtain ⟨v, hv, h⟩ := h
    cases v with
    | bool t =>
      cases t
      · obtain ⟨tm1, h1, h2⟩ := ihb h hl; exact ⟨tm1, ⟨_, evalO_le hl hv, h1⟩, h2⟩
      · obtain ⟨tm1, h1, h2⟩ := iha h hl; exact ⟨tm1, ⟨_, evalO_le hl hv, h1⟩, h2⟩
    | _ => cases h
  | block id b ih =>
    intro s e s1 tm' h hl
    simp only [exec, Option.bind_eq_some_iff] at h ⊢
    obtain ⟨⟨e2, s2⟩, h1, h⟩ := h
    obtain ⟨tm2, h2, hl2⟩ := ih h1 hl
    cases e2 <;> cases h <;> exact ⟨tm2, ⟨_, h2, rfl⟩, hl2⟩
  | loop j lin fr outs b _ =>
    intro s e s1 tm' h hl
    simp only [exec, Option.bind_eq_some_iff] at h ⊢
    obtain ⟨vs, hv, r, hr, h⟩ := h
    cases h
    exact ⟨tmOf lin r.vs, ⟨vs, vals_le hl hv, r, hr, rfl⟩, fun _ _ h => h⟩
  | rangeFunc j lin fr outs f ps a b _ _ =>
    intro s e s1 tm' h hl
    simp only [exec, execRange, Option.bind_eq_some_iff] at h ⊢
    obtain ⟨fv, hf, h⟩ := h
    refine ⟨tm', ⟨fv, evalO_le hl hf, ?_⟩, ?_⟩
    · split at h
      · simp only [Option.bind_eq_some_iff] at h ⊢
        obtain ⟨vs, hv, hd, hhd, r, hr, h⟩ := h
        refine ⟨vs, vals_le hl hv, hd, hhd, r, hr, ?_⟩
        split at h
        · rename_i st hg
          cases hb : decide (st.state = LoopState.busy) with
          | true => rw [hb] at h; cases h
          | false =>
            rw [hb] at h
            simp only [cond_false, Option.bind_eq_some_iff] at h ⊢
            obtain ⟨x, hx, h⟩ := h
            cases h
            exact ⟨_, hx, rfl⟩
        · cases h
      · cases h
    · split at h
      · simp only [Option.bind_eq_some_iff] at h
        obtain ⟨vs, hv, hd, hhd, r, hr, h⟩ := h
        split at h
        · rename_i st hg
          cases hb : decide (st.state = LoopState.busy) with
          | true => rw [hb] at h; cases h
          | false =>
            rw [hb] at h
            simp only [cond_false, Option.bind_eq_some_iff] at h
            obtain ⟨x, hx, h⟩ := h
            cases h
            exact hl
        · cases h
      · cases h
  | exit id => intro s e s1 tm' h hl; cases h; exact ⟨tm', rfl, hl⟩
  | ret => intro s e s1 tm' h hl; cases h; exact ⟨tm', rfl, hl⟩
  | bad c => intro s e s1 tm' h hl; cases h

end Go.Ab
