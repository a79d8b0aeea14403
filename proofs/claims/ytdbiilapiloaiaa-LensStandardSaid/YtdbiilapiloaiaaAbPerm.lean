/- A part of the claim's proof: AbPerm. Conditions: none. -/
import Derived.Test.YtdbiilapiloaiaaAbX
import Derived.Test.YtdbiilapiloaiaaAbSym
import Derived.KernelRfl
/-! Permutations of four, computed fast. -/
set_option linter.all false
namespace Go.Ab
open Go
set_option linter.unusedVariables false
set_option linter.unusedSimpArgs false

/-- one of four, by a number below 4 -/
def s4 {α β : Type} (a b c d : α) (x : Nat) (k : α → Option β) : Option β :=
  cond (Nat.beq x 0) (k a) (cond (Nat.beq x 1) (k b) (cond (Nat.beq x 2) (k c) (cond (Nat.beq x 3) (k d) none)))

theorem s4_some {α β : Type} {a b c d : α} {x : Nat} {k : α → Option β} {r : β} (e : s4 a b c d x k = some r) : x < 4 ∧ k ([a, b, c, d].getD x a) = some r := by
  unfold s4 at e
  match x, e with
  | 0, e => exact ⟨by omega, e⟩
  | 1, e => exact ⟨by omega, e⟩
  | 2, e => exact ⟨by omega, e⟩
  | 3, e => exact ⟨by omega, e⟩
  | n + 4, e => cases e

/-- the four entries of a value -/
noncomputable def perm4 {β : Type} (v : Value) (k : Nat → Nat → Nat → Nat → Option β) : Option β :=
  match v with
  | .agg ⟨[.int .i64 (.ofNat a), .int .i64 (.ofNat b), .int .i64 (.ofNat c), .int .i64 (.ofNat d)]⟩ => k a b c d
  | _ => none

theorem perm4_some {β : Type} {v : Value} {k : Nat → Nat → Nat → Nat → Option β} {r : β} (e : perm4 v k = some r) : ∃ a b c d : Nat, v = av [(a : Int), (b : Int), (c : Int), (d : Int)] ∧ k a b c d = some r := by
  unfold perm4 at e
  split at e
  · exact ⟨_, _, _, _, rfl, e⟩
  · cases e

noncomputable def fastValid (v : Value) : Option Value := perm4 v fun a b c d =>
  s4 1 2 4 8 a fun a => s4 1 2 4 8 b fun b => s4 1 2 4 8 c fun c => s4 1 2 4 8 d fun d => cond (Nat.beq (a + b + c + d) 15) (some (.bool true)) (some (.bool false))

def whereIs {β : Type} (a b c d j : Nat) (k : Int → Option β) : Option β :=
  cond (Nat.beq a j) (k 0) (cond (Nat.beq b j) (k 1) (cond (Nat.beq c j) (k 2) (cond (Nat.beq d j) (k 3) none)))

noncomputable def invN (a b c d : Nat) : Option (List Int) := whereIs a b c d 0 fun i => whereIs a b c d 1 fun j => whereIs a b c d 2 fun k => whereIs a b c d 3 fun l => some [i, j, k, l]
noncomputable def below4 {β : Type} (a : Nat) (k : Option β) : Option β := cond (Nat.blt a 4) k none
theorem below4_some {β : Type} {a : Nat} {k : Option β} {r : β} (e : below4 a k = some r) : a < 4 ∧ k = some r := by
  obtain ⟨h1, h2⟩ := cond_some e
  exact ⟨Nat.le_of_ble_eq_true h1, h2⟩
def listV : List Int → List Value
  | [] => []
  | x :: xs => .int .i64 x :: listV xs
theorem listV_eq (l : List Int) : listV l = ints l := by
  induction l with
  | nil => rfl
  | cons x l ih => rw [listV, ih]; rfl
noncomputable def fastInv (v : Value) : Option Value := perm4 v fun a b c d => below4 a <| below4 b <| below4 c <| below4 d <| (invN a b c d).bind fun l => some (.agg ⟨listV l⟩)

noncomputable def fastComp (v w : Value) : Option Value := perm4 v fun a b c d => perm4 w fun x y z u =>
  s4 a b c d x fun i => s4 a b c d y fun j => s4 a b c d z fun k => s4 a b c d u fun l =>
    some (.agg ⟨[.int .i64 (.ofNat i), .int .i64 (.ofNat j), .int .i64 (.ofNat k), .int .i64 (.ofNat l)]⟩)

/-- plain values answer in any relation -/
theorem av_vr {μ μ' : Mu} {l : List Int} {v' : Value} (h : VR μ (av l) v') : VR μ' (av l) v' := by
  obtain ⟨cs', rfl, h2⟩ := h.agg_left
  refine VR.agg_iff.2 ?_
  have : ∀ (l : List Int) (ys : List Value), VRs μ (ints l) ys → VRs μ' (ints l) ys := by
    intro l
    induction l with
    | nil => intro ys h; rw [h.nil_left]; exact VRs.nil _
    | cons x l ih =>
      intro ys h
      obtain ⟨y, zs, rfl, h1, h2⟩ := h.left
      obtain rfl := h1.int_left
      exact VRs.cons (.int _ _) (ih _ h2)
  exact this l _ h2

theorem av_vrs1 {μ μ' : Mu} {l : List Int} {ys : List Value} (h : VRs μ [av l] ys) : VRs μ' [av l] ys := by
  obtain ⟨y, zs, rfl, h1, h2⟩ := h.left
  rw [h2.nil_left]
  exact VRs.cons (av_vr h1) (VRs.nil _)
theorem av_vrs2 {μ μ' : Mu} {l m : List Int} {ys : List Value} (h : VRs μ [av l, av m] ys) : VRs μ' [av l, av m] ys := by
  obtain ⟨y, zs, rfl, h1, h2⟩ := h.left
  exact VRs.cons (av_vr h1) (av_vrs1 h2)
theorem bool_vr {μ μ' : Mu} {b : Bool} {v' : Value} (h : VR μ (.bool b) v') : VR μ' (.bool b) v' := by
  rw [h.bool_left]; exact .bool _

/-- all below 4, by going through them -/
theorem all256 {Q : Nat → Nat → Nat → Nat → Bool} (h : ((List.range 256).all fun n => Q (n / 64) (n / 16 % 4) (n / 4 % 4) (n % 4)) = true) {a b c d : Nat} (ha : a < 4) (hb : b < 4) (hc : c < 4) (hd : d < 4) : Q a b c d = true := by
  have := List.all_eq_true.1 h (64 * a + 16 * b + 4 * c + d) (by simp; omega)
  have e1 : (64 * a + 16 * b + 4 * c + d) / 64 = a := by omega
  have e2 : (64 * a + 16 * b + 4 * c + d) / 16 % 4 = b := by omega
  have e3 : (64 * a + 16 * b + 4 * c + d) / 4 % 4 = c := by omega
  have e4 : (64 * a + 16 * b + 4 * c + d) % 4 = d := by omega
  simpa only [e1, e2, e3, e4] using this

theorem fastValid_some {v r : Value} (e : fastValid v = some r) : ∃ a b c d : Nat, v = av [(a : Int), (b : Int), (c : Int), (d : Int)] ∧ a < 4 ∧ b < 4 ∧ c < 4 ∧ d < 4 ∧ r = .bool (Nat.beq (2 ^ a + 2 ^ b + 2 ^ c + 2 ^ d) 15) := by
  obtain ⟨a, b, c, d, hv, e0⟩ := perm4_some e
  clear e
  subst hv
  have e := e0
  clear e0
  obtain ⟨h1, e⟩ := s4_some (α := Nat) (β := Value) e
  obtain ⟨h2, e⟩ := s4_some (α := Nat) (β := Value) e
  obtain ⟨h3, e⟩ := s4_some (α := Nat) (β := Value) e
  obtain ⟨h4, e⟩ := s4_some (α := Nat) (β := Value) e
  have p : ∀ x : Nat, x < 4 → [1, 2, 4, 8].getD x 1 = 2 ^ x := by
    intro x hx
    match x, hx with
    | 0, _ => rfl
    | 1, _ => rfl
    | 2, _ => rfl
    | 3, _ => rfl
    | n + 4, h => omega
  rw [p a h1, p b h2, p c h3, p d h4] at e
  refine ⟨a, b, c, d, rfl, h1, h2, h3, h4, ?_⟩
  cases hh : Nat.beq (2 ^ a + 2 ^ b + 2 ^ c + 2 ^ d) 15 with
  | true => rw [hh] at e; cases e; rfl
  | false => rw [hh] at e; cases e; rfl

theorem fastInv_some {v r : Value} (e : fastInv v = some r) : ∃ (a b c d : Nat) (l : List Int), v = av [(a : Int), (b : Int), (c : Int), (d : Int)] ∧ a < 4 ∧ b < 4 ∧ c < 4 ∧ d < 4 ∧ invN a b c d = some l ∧ r = av l := by
  obtain ⟨a, b, c, d, hv, e0⟩ := perm4_some e
  clear e
  subst hv
  obtain ⟨h1, e⟩ := below4_some e0
  obtain ⟨h2, e⟩ := below4_some e
  obtain ⟨h3, e⟩ := below4_some e
  obtain ⟨h4, e⟩ := below4_some e
  simp only [Option.bind_eq_some_iff] at e
  obtain ⟨l, hl, e⟩ := e
  rw [listV_eq] at e
  cases e
  exact ⟨a, b, c, d, l, rfl, h1, h2, h3, h4, hl, rfl⟩

theorem fastComp_some {v w r : Value} (e : fastComp v w = some r) : ∃ a b c d x y z u : Nat, v = av [(a : Int), (b : Int), (c : Int), (d : Int)] ∧ w = av [(x : Int), (y : Int), (z : Int), (u : Int)] ∧ x < 4 ∧ y < 4 ∧ z < 4 ∧ u < 4 ∧
    r = av ([(x : Int), (y : Int), (z : Int), (u : Int)].map fun t => [(a : Int), (b : Int), (c : Int), (d : Int)].getD t.toNat 0) := by
  obtain ⟨a, b, c, d, hv, e0⟩ := perm4_some e
  obtain ⟨x, y, z, u, hw, e1⟩ := perm4_some e0
  clear e e0
  subst hv hw
  have e := e1
  clear e1
  obtain ⟨h1, e⟩ := s4_some (α := Nat) (β := Value) e
  obtain ⟨h2, e⟩ := s4_some (α := Nat) (β := Value) e
  obtain ⟨h3, e⟩ := s4_some (α := Nat) (β := Value) e
  obtain ⟨h4, e⟩ := s4_some (α := Nat) (β := Value) e
  cases e
  refine ⟨a, b, c, d, x, y, z, u, rfl, rfl, h1, h2, h3, h4, ?_⟩
  have p : ∀ t : Nat, t < 4 → [(a : Int), (b : Int), (c : Int), (d : Int)].getD (t : Int).toNat 0 = (([a, b, c, d].getD t a : Nat) : Int) := by
    intro t ht
    match t, ht with
    | 0, _ => rfl
    | 1, _ => rfl
    | 2, _ => rfl
    | 3, _ => rfl
    | n + 4, h => omega
  simp only [List.map_cons, List.map_nil]
  rw [p x h1, p y h2, p z h3, p u h4]
  rfl
end Go.Ab
