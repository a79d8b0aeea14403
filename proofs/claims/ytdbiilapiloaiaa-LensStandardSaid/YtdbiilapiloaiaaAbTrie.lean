/- A part of the claim's proof: AbTrie. Conditions: none. -/
import Derived.Test.YtdbiilapiloaiaaAbDef
/-! A heap that computes. -/
set_option linter.all false
namespace Go.Ab
open Go
set_option linter.unusedVariables false

inductive Tri where
  | leaf
  | node (b : Option ABlk) (l r : Tri)

def Tri.get : Tri → Nat → Option ABlk
  | .leaf, _ => none
  | .node b l r, i => cond (Nat.beq i 0) b (cond (Nat.beq (i % 2) 1) (l.get (i / 2)) (r.get (i / 2 - 1)))

def Tri.upd : Nat → Tri → Nat → Option ABlk → Tri
  | 0, t, _, o => match t with
    | .leaf => .node o .leaf .leaf
    | .node _ l r => .node o l r
  | n + 1, t, i, o => match t with
    | .leaf => cond (Nat.beq i 0) (.node o .leaf .leaf) (cond (Nat.beq (i % 2) 1) (.node none (Tri.upd n .leaf (i / 2) o) .leaf) (.node none .leaf (Tri.upd n .leaf (i / 2 - 1) o)))
    | .node b l r => cond (Nat.beq i 0) (.node o l r) (cond (Nat.beq (i % 2) 1) (.node b (Tri.upd n l (i / 2) o) r) (.node b l (Tri.upd n r (i / 2 - 1) o)))

theorem Tri.get_upd : ∀ (n : Nat) (t : Tri) (i : Nat) (o : Option ABlk) (j : Nat), i ≤ n → (Tri.upd n t i o).get j = if j = i then o else t.get j := by
  have key : ∀ (b : Option ABlk) (l r : Tri) (i : Nat), (Tri.node b l r).get i = if i = 0 then b else if i % 2 = 1 then l.get (i / 2) else r.get (i / 2 - 1) := by
    intro b l r i
    simp only [Tri.get]
    by_cases h0 : i = 0
    · subst h0; rfl
    · have : Nat.beq i 0 = false := by rw [Bool.eq_false_iff]; intro h; exact h0 (Nat.eq_of_beq_eq_true h)
      rw [this]
      simp only [h0, if_false, cond_false]
      by_cases h1 : i % 2 = 1
      · simp [h1]
      · have : Nat.beq (i % 2) 1 = false := by rw [Bool.eq_false_iff]; intro h; exact h1 (Nat.eq_of_beq_eq_true h)
        simp [h1, this]
  have leafg : ∀ j, Tri.leaf.get j = none := fun _ => rfl
  intro n
  induction n with
  | zero =>
    intro t i o j hi
    have : i = 0 := by omega
    subst this
    cases t with
    | leaf =>
      simp only [Tri.upd, key, leafg]
      split <;> simp
    | node b l r =>
      simp only [Tri.upd, key]
      by_cases h : j = 0 <;> simp [h]
  | succ n ih =>
    intro t i o j hi
    by_cases h0 : i = 0
    · subst h0
      cases t with
      | leaf =>
        simp only [Tri.upd, Nat.beq_refl, cond_true, key, leafg]
        split <;> simp
      | node b l r =>
        simp only [Tri.upd, Nat.beq_refl, cond_true, key]
        by_cases h : j = 0 <;> simp [h]
    · have hb0 : Nat.beq i 0 = false := by rw [Bool.eq_false_iff]; intro h; exact h0 (Nat.eq_of_beq_eq_true h)
      by_cases h1 : i % 2 = 1
      · have hb1 : Nat.beq (i % 2) 1 = true := by rw [h1]; rfl
        cases t with
        | leaf =>
          simp only [Tri.upd, hb0, hb1, cond_true, cond_false, key, leafg]
          by_cases hj : j = 0
          · subst hj; simp [Ne.symm h0]
          · simp only [hj, if_false]
            by_cases hj1 : j % 2 = 1
            · simp only [hj1, if_true]
              rw [ih _ _ _ _ (by omega), leafg]
              by_cases e : j = i
              · simp [e]
              · rw [if_neg e, if_neg (by omega)]
            · rw [if_neg hj1, if_neg (by omega)]
        | node b l r =>
          simp only [Tri.upd, hb0, hb1, cond_true, cond_false, key]
          by_cases hj : j = 0
          · subst hj; simp [Ne.symm h0]
          · simp only [hj, if_false]
            by_cases hj1 : j % 2 = 1
            · simp only [hj1, if_true]
              rw [ih _ _ _ _ (by omega)]
              by_cases e : j = i
              · simp [e]
              · rw [if_neg e, if_neg (by omega)]
            · rw [if_neg hj1, if_neg (show ¬ j = i by omega), if_neg hj1]
      · have hb1 : Nat.beq (i % 2) 1 = false := by rw [Bool.eq_false_iff]; intro h; exact h1 (Nat.eq_of_beq_eq_true h)
        cases t with
        | leaf =>
          simp only [Tri.upd, hb0, hb1, cond_true, cond_false, key, leafg]
          by_cases hj : j = 0
          · subst hj; simp [Ne.symm h0]
          · simp only [hj, if_false]
            by_cases hj1 : j % 2 = 1
            · rw [if_pos hj1, if_neg (by omega)]
            · rw [if_neg hj1, ih _ _ _ _ (by omega), leafg]
              by_cases e : j = i
              · simp [e]
              · rw [if_neg e, if_neg (by omega)]
        | node b l r =>
          simp only [Tri.upd, hb0, hb1, cond_true, cond_false, key]
          by_cases hj : j = 0
          · subst hj; simp [Ne.symm h0]
          · simp only [hj, if_false]
            by_cases hj1 : j % 2 = 1
            · rw [if_pos hj1, if_neg (show ¬ j = i by omega), if_pos hj1]
            · rw [if_neg hj1, ih _ _ _ _ (by omega)]
              by_cases e : j = i
              · simp [e]
              · rw [if_neg e, if_neg (by omega), if_neg hj1]

/-- Equality of values, as far as it is cheap. -/
def addrEq : Option Addr → Option Addr → Bool
  | none, none => true
  | some ⟨a, b, none⟩, some ⟨c, d, none⟩ => Nat.beq a c && Nat.beq b d
  | _, _ => false
def valEq : Value → Value → Bool
  | .bool a, .bool b => a == b
  | .int k n, .int k' n' => decide (k = k') && n == n'
  | .pointer a, .pointer b => addrEq a b
  | .slice a l c, .slice b l' c' => addrEq a b && Nat.beq l l' && Nat.beq c c'
  | .map (some a), .map (some b) => Nat.beq a b
  | .map none, .map none => true
  | .nilFunc, .nilFunc => true
  | .nilIface, .nilIface => true
  | _, _ => false
def valsEq : List Value → List Value → Bool
  | [], [] => true
  | x :: xs, y :: ys => valEq x y && valsEq xs ys
  | _, _ => false
def optNatEq : Option Nat → Option Nat → Bool
  | none, none => true
  | some a, some b => Nat.beq a b
  | _, _ => false
def blkEq : Option ABlk → Option ABlk → Bool
  | none, none => true
  | some (.cells ro o c), some (.cells ro' o' c') => ro == ro' && optNatEq o o' && valsEq c c'
  | some .dead, some .dead => true
  | some .dfr, some .dfr => true
  | _, _ => false

theorem addrEq_eq {a b : Option Addr} (h : addrEq a b = true) : a = b := by
  unfold addrEq at h
  split at h
  · rfl
  · simp only [Bool.and_eq_true] at h
    rw [Nat.eq_of_beq_eq_true h.1, Nat.eq_of_beq_eq_true h.2]
  · cases h
theorem valEq_eq {a b : Value} (h : valEq a b = true) : a = b := by
  unfold valEq at h
  split at h
  · simp at h; rw [h]
  · simp at h; rw [h.1, h.2]
  · rw [addrEq_eq h]
  · simp only [Bool.and_eq_true] at h
    rw [addrEq_eq h.1.1, Nat.eq_of_beq_eq_true h.1.2, Nat.eq_of_beq_eq_true h.2]
  · rw [Nat.eq_of_beq_eq_true h]
  · rfl
  · rfl
  · rfl
  · cases h
theorem valsEq_eq : ∀ {a b : List Value}, valsEq a b = true → a = b
  | [], [], _ => rfl
  | x :: xs, y :: ys, h => by
    simp only [valsEq, Bool.and_eq_true] at h
    rw [valEq_eq h.1, valsEq_eq h.2]
  | [], y :: ys, h => by cases h
  | x :: xs, [], h => by cases h
theorem optNatEq_eq {a b : Option Nat} (h : optNatEq a b = true) : a = b := by
  unfold optNatEq at h
  split at h
  · rfl
  · rw [Nat.eq_of_beq_eq_true h]
  · cases h
theorem blkEq_eq (a b : Option ABlk) (h : blkEq a b = true) : a = b := by
  unfold blkEq at h
  split at h
  · rfl
  · simp only [Bool.and_eq_true] at h
    have h1 := h.1.1
    rw [optNatEq_eq h.1.2, valsEq_eq h.2]
    simp at h1
    rw [h1]
  · rfl
  · rfl
  · cases h

instance : HeapC Tri where
  get h i := h.get i
  set h i b := Tri.upd i h i (some b)
  del h i := Tri.upd i h i none
  eqB := blkEq
  eqB_eq := blkEq_eq
  get_set h i b j := Tri.get_upd i h i (some b) j (Nat.le_refl _)
  get_del h i j := Tri.get_upd i h i none j (Nat.le_refl _)

end Go.Ab
