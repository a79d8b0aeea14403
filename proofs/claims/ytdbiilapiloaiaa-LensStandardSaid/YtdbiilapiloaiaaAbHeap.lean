/- A part of the claim's proof: AbHeap. Conditions: none. -/
import Derived.Test.YtdbiilapiloaiaaAbTrie
/-! A heap for evaluation in the kernel: the blocks touched last in a short list, the others in a tree. -/
set_option linter.all false
namespace Go.Ab
open Go
set_option linter.unusedVariables false

noncomputable def tget (t : Tri) : Nat → Option ABlk :=
  Tri.rec (motive := fun _ => Nat → Option ABlk) (fun _ => none)
    (fun b _ _ l r i => cond (Nat.beq i 0) b (cond (Nat.beq (Nat.mod i 2) 1) (l (Nat.div i 2)) (r (Nat.sub (Nat.div i 2) 1)))) t

theorem tget_eq : ∀ (t : Tri) (i : Nat), tget t i = t.get i
  | .leaf, i => rfl
  | .node b l r, i => by
    show cond (Nat.beq i 0) b (cond (Nat.beq (Nat.mod i 2) 1) (tget l (Nat.div i 2)) (tget r (Nat.sub (Nat.div i 2) 1))) = _
    rw [tget_eq l, tget_eq r]
    rfl

noncomputable def tupd (o : Option ABlk) (n : Nat) : Tri → Nat → Tri :=
  Nat.rec (motive := fun _ => Tri → Nat → Tri)
    (fun t _ => Tri.rec (motive := fun _ => Tri) (.node o .leaf .leaf) (fun _ l r _ _ => .node o l r) t)
    (fun _ ih t i => Tri.rec (motive := fun _ => Tri)
      (cond (Nat.beq i 0) (.node o .leaf .leaf) (cond (Nat.beq (Nat.mod i 2) 1) (.node none (ih .leaf (Nat.div i 2)) .leaf) (.node none .leaf (ih .leaf (Nat.sub (Nat.div i 2) 1)))))
      (fun b l r _ _ => cond (Nat.beq i 0) (.node o l r) (cond (Nat.beq (Nat.mod i 2) 1) (.node b (ih l (Nat.div i 2)) r) (.node b l (ih r (Nat.sub (Nat.div i 2) 1))))) t) n

theorem tupd_eq (o : Option ABlk) : ∀ (n : Nat) (t : Tri) (i : Nat), tupd o n t i = Tri.upd n t i o
  | 0, .leaf, i => rfl
  | 0, .node b l r, i => rfl
  | n + 1, .leaf, i => by
    show (cond (Nat.beq i 0) (Tri.node o .leaf .leaf) (cond (Nat.beq (Nat.mod i 2) 1) (Tri.node none (tupd o n .leaf (Nat.div i 2)) .leaf) (Tri.node none .leaf (tupd o n .leaf (Nat.sub (Nat.div i 2) 1))))) = _
    rw [tupd_eq o n, tupd_eq o n]; rfl
  | n + 1, .node b l r, i => by
    show (cond (Nat.beq i 0) (Tri.node o l r) (cond (Nat.beq (Nat.mod i 2) 1) (Tri.node b (tupd o n l (Nat.div i 2)) r) (Tri.node b l (tupd o n r (Nat.sub (Nat.div i 2) 1))))) = _
    rw [tupd_eq o n, tupd_eq o n]; rfl

theorem tget_tupd (t : Tri) (i : Nat) (o : Option ABlk) (j : Nat) : tget (tupd o i t i) j = if j = i then o else tget t j := by
  rw [tget_eq, tget_eq, tupd_eq]
  exact Tri.get_upd i t i o j (Nat.le_refl _)

abbrev RC := List (Nat × Option ABlk)

noncomputable def findA (i : Nat) (rc : RC) : Option (Option ABlk) :=
  List.rec (motive := fun _ => Option (Option ABlk)) none (fun x _ ih => cond (Nat.beq i x.1) (some x.2) ih) rc
noncomputable def replA (i : Nat) (o : Option ABlk) (rc : RC) : RC :=
  List.rec (motive := fun _ => RC) [] (fun x xs ih => cond (Nat.beq i x.1) ((x.1, o) :: xs) (x :: ih)) rc
noncomputable def flushA (rc : RC) (t : Tri) : Tri :=
  List.rec (motive := fun _ => Tri) t (fun x _ ih => tupd x.2 x.1 ih x.1) rc

theorem findA_cons (i : Nat) (x : Nat × Option ABlk) (xs : RC) : findA i (x :: xs) = if i = x.1 then some x.2 else findA i xs := by
  show cond (Nat.beq i x.1) (some x.2) (findA i xs) = _
  cases h : Nat.beq i x.1 with
  | true => rw [if_pos (Nat.eq_of_beq_eq_true h)]; rfl
  | false => rw [if_neg (fun e => by rw [e, Nat.beq_refl] at h; cases h)]; rfl

theorem replA_cons (i : Nat) (o : Option ABlk) (x : Nat × Option ABlk) (xs : RC) : replA i o (x :: xs) = if i = x.1 then (x.1, o) :: xs else x :: replA i o xs := by
  show cond (Nat.beq i x.1) ((x.1, o) :: xs) (x :: replA i o xs) = _
  cases h : Nat.beq i x.1 with
  | true => rw [if_pos (Nat.eq_of_beq_eq_true h)]; rfl
  | false => rw [if_neg (fun e => by rw [e, Nat.beq_refl] at h; cases h)]; rfl

theorem findA_replA (i : Nat) (o : Option ABlk) (j : Nat) : ∀ (rc : RC), findA i rc ≠ none → findA j (replA i o rc) = if j = i then some o else findA j rc
  | [], h => absurd rfl h
  | x :: xs, h => by
    rw [findA_cons] at h
    rw [replA_cons]
    by_cases e : i = x.1
    · rw [if_pos e, findA_cons, findA_cons]
      by_cases e2 : j = x.1
      · rw [if_pos e2, if_pos (e2.trans e.symm)]
      · rw [if_neg e2, if_neg (fun h => e2 (h.trans e)), if_neg e2]
    · rw [if_neg e] at h ⊢
      rw [findA_cons, findA_cons, findA_replA i o j xs h]
      by_cases e2 : j = x.1
      · rw [if_pos e2, if_pos e2, if_neg (fun h => e (h.symm.trans e2))]
      · rw [if_neg e2, if_neg e2]

theorem get_flushA (j : Nat) (t : Tri) : ∀ (rc : RC), tget (flushA rc t) j = (match findA j rc with | some o => o | none => tget t j)
  | [] => rfl
  | x :: xs => by
    show tget (tupd x.2 x.1 (flushA xs t) x.1) j = _
    rw [tget_tupd, findA_cons]
    by_cases e : j = x.1
    · rw [if_pos e, if_pos e]
    · rw [if_neg e, if_neg e, get_flushA j t xs]

structure TH where
  rc : RC
  n : Nat
  old : Tri

noncomputable def TH.put (h : TH) (i : Nat) (o : Option ABlk) : TH :=
  match findA i h.rc with
  | some _ => { rc := replA i o h.rc, n := h.n, old := h.old }
  | none => cond (Nat.blt h.n 24) { rc := (i, o) :: h.rc, n := Nat.add h.n 1, old := h.old } { rc := [(i, o)], n := 1, old := flushA h.rc h.old }

noncomputable def TH.look (h : TH) (i : Nat) : Option ABlk :=
  match findA i h.rc with
  | some o => o
  | none => tget h.old i

theorem TH.look_put (h : TH) (i : Nat) (o : Option ABlk) (j : Nat) : (h.put i o).look j = if j = i then o else h.look j := by
  unfold TH.put TH.look
  cases e : findA i h.rc with
  | some x =>
    dsimp only
    rw [findA_replA i o j h.rc (by rw [e]; simp)]
    by_cases e2 : j = i
    · rw [if_pos e2, if_pos e2]
    · rw [if_neg e2, if_neg e2]
  | none =>
    dsimp only
    cases Nat.blt h.n 24 with
    | true =>
      dsimp only [cond_true]
      rw [findA_cons]
      by_cases e2 : j = i
      · rw [if_pos e2, if_pos e2]
      · rw [if_neg e2, if_neg e2]
    | false =>
      dsimp only [cond_false]
      rw [findA_cons]
      by_cases e2 : j = i
      · rw [if_pos e2, if_pos e2]
      · rw [if_neg e2, if_neg e2]
        exact get_flushA j h.old h.rc

noncomputable instance : HeapC TH where
  get h i := h.look i
  set h i b := h.put i (some b)
  del h i := h.put i none
  eqB := blkEq
  eqB_eq := blkEq_eq
  get_set h i b j := TH.look_put h i (some b) j
  get_del h i j := TH.look_put h i none j

noncomputable def TH.empty : TH := { rc := [], n := 0, old := .leaf }
theorem TH.inv_empty (h : TH) (e : h = TH.empty) (i : Nat) : HeapC.get h i = none := by subst e; rfl

end Go.Ab
