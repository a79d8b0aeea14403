/-! The plain law: standard forms of lens spaces. -/
set_option linter.all false
namespace Go.Lens
set_option linter.unusedVariables false

/-- Bezout's numbers, as the program finds them -/
def bz : Nat → Int → Int → Int × Int × Int
  | 0, _, _ => (0, 0, 0)
  | n + 1, a, b => if b = 0 then (if a < 0 then (-a, -1, 0) else (a, 1, 0)) else
      ((bz n b (a.tmod b)).1, (bz n b (a.tmod b)).2.2, (bz n b (a.tmod b)).2.1 - a.tdiv b * (bz n b (a.tmod b)).2.2)

def bzT (a b : Int) : Int × Int × Int := bz (b.natAbs + 1) a b

theorem tmod_lt (a b : Int) (hb : b ≠ 0) : (a.tmod b).natAbs < b.natAbs := by
  rw [Int.natAbs_tmod]
  exact Nat.mod_lt _ (by omega)

theorem bz_fuel : ∀ (n m : Nat) (a b : Int), b.natAbs < n → b.natAbs < m → bz n a b = bz m a b
  | 0, _, _, _, h, _ => by omega
  | _ + 1, 0, _, _, _, h => by omega
  | n + 1, m + 1, a, b, h1, h2 => by
    simp only [bz]
    by_cases hb : b = 0
    · rw [if_pos hb, if_pos hb]
    · have := tmod_lt a b hb
      rw [if_neg hb, if_neg hb, bz_fuel n m b (a.tmod b) (by omega) (by omega)]

theorem bzT_zero (a : Int) : bzT a 0 = if a < 0 then (-a, -1, 0) else (a, 1, 0) := rfl
theorem bzT_step (a b : Int) (hb : b ≠ 0) : bzT a b = ((bzT b (a.tmod b)).1, (bzT b (a.tmod b)).2.2, (bzT b (a.tmod b)).2.1 - a.tdiv b * (bzT b (a.tmod b)).2.2) := by
  have h := tmod_lt a b hb
  unfold bzT
  rw [bz_fuel ((a.tmod b).natAbs + 1) b.natAbs b (a.tmod b) (by omega) (by omega)]
  simp only [bz]
  rw [if_neg hb]

structure BzOK (a b : Int) (r : Int × Int × Int) : Prop where
  comb : r.2.1 * a + r.2.2 * b = r.1
  pos : 0 ≤ r.1
  da : ∃ k, a = r.1 * k
  db : ∃ k, b = r.1 * k
  bu : r.2.1.natAbs ≤ max 1 b.natAbs
  bv : r.2.2.natAbs ≤ max 1 a.natAbs

theorem bzT_ok : ∀ (n : Nat) (a b : Int), b.natAbs ≤ n → BzOK a b (bzT a b)
  | n, a, b, hn => by
    by_cases hb : b = 0
    · subst hb
      rw [bzT_zero]
      by_cases ha : a < 0
      · rw [if_pos ha]
        exact ⟨by simp, by simp; omega, ⟨-1, by simp⟩, ⟨0, by simp⟩, by simp, by simp⟩
      · rw [if_neg ha]
        exact ⟨by simp, by simp; omega, ⟨1, by simp⟩, ⟨0, by simp⟩, by simp, by simp⟩
    · have hlt := tmod_lt a b hb
      cases n with
      | zero => omega
      | succ n =>
        have ih := bzT_ok n b (a.tmod b) (by omega)
        rw [bzT_step a b hb]
        obtain ⟨c1, c2, ⟨k1, c3⟩, ⟨k2, c4⟩, c5, c6⟩ := ih
        generalize hr : bzT b (a.tmod b) = r at *
        obtain ⟨d, x, y⟩ := r
        simp only at c1 c2 c3 c4 c5 c6 ⊢
        have hdm : a = b * a.tdiv b + a.tmod b := (Int.mul_tdiv_add_tmod a b).symm
        generalize hq : a.tdiv b = q at *
        generalize hm : a.tmod b = m at *
        refine ⟨?_, c2, ⟨k1 * q + k2, ?_⟩, ⟨k1, c3⟩, ?_, ?_⟩
        · show y * a + (x - q * y) * b = d
          grind
        · show a = d * (k1 * q + k2)
          grind
        · show y.natAbs ≤ max 1 b.natAbs
          exact c6
        · show (x - q * y).natAbs ≤ max 1 a.natAbs
          have hab : a.natAbs = b.natAbs * q.natAbs + m.natAbs := by
            rw [← hq, ← hm, Int.natAbs_tdiv, Int.natAbs_tmod]
            exact (Nat.div_add_mod _ _).symm
          by_cases hm0 : m = 0
          · -- the last step
            have : bzT b 0 = (d, x, y) := by rw [← hr, hm0]
            rw [bzT_zero] at this
            by_cases hb0 : b < 0
            · rw [if_pos hb0] at this
              cases this
              simp
              omega
            · rw [if_neg hb0] at this
              cases this
              simp
              omega
          · have h1 : x.natAbs ≤ m.natAbs := by omega
            have h2 : y.natAbs ≤ b.natAbs := by omega
            have h3 : (q * y).natAbs ≤ q.natAbs * b.natAbs := by rw [Int.natAbs_mul]; exact Nat.mul_le_mul_left _ h2
            have h4 : (x - q * y).natAbs ≤ x.natAbs + (q * y).natAbs := by
              have := Int.natAbs_sub_le x (q * y)
              exact this
            rw [Nat.mul_comm] at h3
            omega

theorem bzT_all (a b : Int) : BzOK a b (bzT a b) := bzT_ok _ a b (Nat.le_refl _)

/-! ### Alike numbers -/
def Dv (p x : Int) : Prop := ∃ k, x = p * k
def Al (p x y : Int) : Prop := Dv p (x - y) ∨ Dv p (x + y) ∨ Dv p (x * y - 1) ∨ Dv p (x * y + 1)

theorem Al.sym {p x y : Int} (h : Al p x y) : Al p y x := by
  rcases h with ⟨k, h⟩ | ⟨k, h⟩ | ⟨k, h⟩ | ⟨k, h⟩
  · exact .inl ⟨-k, by grind⟩
  · exact .inr (.inl ⟨k, by grind⟩)
  · exact .inr (.inr (.inl ⟨k, by grind⟩))
  · exact .inr (.inr (.inr ⟨k, by grind⟩))

theorem Al.trans {p x y z : Int} (h : Al p x y) (g : Al p y z) : Al p x z := by
  rcases h with ⟨k, h⟩ | ⟨k, h⟩ | ⟨k, h⟩ | ⟨k, h⟩ <;> rcases g with ⟨m, g⟩ | ⟨m, g⟩ | ⟨m, g⟩ | ⟨m, g⟩
  · exact .inl ⟨k + m, by grind⟩
  · exact .inr (.inl ⟨k + m, by grind⟩)
  · exact .inr (.inr (.inl ⟨m + k * z, by grind⟩))
  · exact .inr (.inr (.inr ⟨m + k * z, by grind⟩))
  · exact .inr (.inl ⟨k - m, by grind⟩)
  · exact .inl ⟨k - m, by grind⟩
  · exact .inr (.inr (.inr ⟨k * z - m, by grind⟩))
  · exact .inr (.inr (.inl ⟨k * z - m, by grind⟩))
  · exact .inr (.inr (.inl ⟨k - m * x, by grind⟩))
  · exact .inr (.inr (.inr ⟨m * x - k, by grind⟩))
  · exact .inl ⟨k * z - m * x, by grind⟩
  · exact .inr (.inl ⟨m * x - k * z, by grind⟩)
  · exact .inr (.inr (.inr ⟨k - m * x, by grind⟩))
  · exact .inr (.inr (.inl ⟨m * x - k, by grind⟩))
  · exact .inr (.inl ⟨k * z - m * x, by grind⟩)
  · exact .inl ⟨m * x - k * z, by grind⟩

/-- the least number alike -/
structure IsStd (p q m : Int) : Prop where
  lo : 0 ≤ m
  hi : m < p
  al : Al p m q
  least : ∀ x, 0 ≤ x → x < p → Al p x q → m ≤ x

theorem IsStd.uniq {p q q' m m' : Int} (h : IsStd p q m) (h' : IsStd p q' m') (a : Al p q q') : m = m' := by
  have h1 := h.least m' h'.lo h'.hi (h'.al.trans a.sym)
  have h2 := h'.least m h.lo h.hi (h.al.trans a)
  omega

def pos (a m : Int) : Int := (a.tmod m + m).tmod m

theorem pos_spec (a m : Int) (hm : 0 < m) : 0 ≤ pos a m ∧ pos a m < m ∧ Dv m (pos a m - a) := by
  unfold pos
  have h1 := Int.tmod_lt_of_pos a hm
  have h2 : -m < a.tmod m := by have := Int.natAbs_tmod a m; have := Nat.mod_lt a.natAbs (by omega : 0 < m.natAbs); omega
  have h3 : 0 ≤ a.tmod m + m := by omega
  refine ⟨Int.tmod_nonneg _ h3, Int.tmod_lt_of_pos _ hm, ?_⟩
  have e1 := Int.mul_tdiv_add_tmod a m
  have e2 := Int.mul_tdiv_add_tmod (a.tmod m + m) m
  exact ⟨1 - (a.tmod m + m).tdiv m - a.tdiv m, by grind⟩

def min4 (a b c d : Int) : Int := min (min (min a b) c) d
def stdZ (p q : Int) : Int := if p < 2 then 1 - p else min4 (pos q p) (p - pos q p) (pos (bzT (pos q p) p).2.1 p) (p - pos (bzT (pos q p) p).2.1 p)

theorem one_of_dv {d : Int} (h0 : 0 ≤ d) (h : Dv d 1) : d = 1 := by
  obtain ⟨k, hk⟩ := h
  have h1 : d ∣ 1 := ⟨k, hk⟩
  have := Int.le_of_dvd (by omega) h1
  have : d ≠ 0 := by rintro rfl; simp at hk
  omega

theorem stdZ_is (p q : Int) (hp : 2 ≤ p) (hg : (bzT p q).1 = 1) : IsStd p q (stdZ p q) := by
  obtain ⟨g1, _, _, _, _, _⟩ := bzT_all p q
  rw [hg] at g1
  obtain ⟨r0, r1, k0, r2⟩ := pos_spec q p (by omega)
  unfold stdZ
  rw [if_neg (by omega)]
  generalize hr : pos q p = r at *
  obtain ⟨b1, b2, ⟨k1, b3⟩, ⟨k2, b4⟩, _, _⟩ := bzT_all r p
  generalize hb : bzT r p = b at *
  obtain ⟨d, u, v⟩ := b
  simp only at b1 b2 b3 b4 ⊢
  generalize hx : (bzT p q).2.1 = x at *
  generalize hy : (bzT p q).2.2 = y at *
  have hd : d = 1 := by
    refine one_of_dv b2 ⟨k2 * x + (k1 - k2 * k0) * y, ?_⟩
    have : q = r - p * k0 := by omega
    grind
  subst hd
  obtain ⟨i0, i1, k3, i2⟩ := pos_spec u p (by omega)
  generalize hi : pos u p = i at *
  -- r and i are inverse
  have hri : Dv p (r * i - 1) := ⟨k3 * r - v, by grind⟩
  have hrq : Dv p (r - q) := ⟨k0, r2⟩
  have rne : r ≠ 0 := by
    rintro rfl
    obtain ⟨k, hk⟩ := hri
    have : p = 1 := one_of_dv (by omega) ⟨-k, by grind⟩
    omega
  have ine : i ≠ 0 := by
    rintro rfl
    obtain ⟨k, hk⟩ := hri
    have : p = 1 := one_of_dv (by omega) ⟨-k, by grind⟩
    omega
  obtain ⟨k4, hri⟩ := hri
  have ar : Al p r q := .inl hrq
  have apr : Al p (p - r) q := .inr (.inl ⟨1 - k0, by grind⟩)
  have ai : Al p i q := .inr (.inr (.inl ⟨k4 - i * k0, by grind⟩))
  have api : Al p (p - i) q := .inr (.inr (.inr ⟨q - k4 + i * k0, by grind⟩))
  -- numbers below p that differ by a multiple of p
  have same : ∀ x y : Int, 0 ≤ x → x < p → 0 ≤ y → y < p → Dv p (x - y) → x = y := by
    intro x y x0 x1 y0 y1 ⟨k, hk⟩
    have : k = 0 := by
      rcases Int.lt_trichotomy k 0 with h | h | h
      · have : p * k ≤ p * (-1) := Int.mul_le_mul_of_nonneg_left (by omega) (by omega)
        omega
      · exact h
      · have : p * 1 ≤ p * k := Int.mul_le_mul_of_nonneg_left (by omega) (by omega)
        omega
    rw [this] at hk
    omega
  have all : ∀ x, 0 ≤ x → x < p → Al p x q → x = r ∨ x = p - r ∨ x = i ∨ x = p - i := by
    intro x x0 x1 ha
    have hq : q = r - p * k0 := by omega
    rcases ha with ⟨k, h⟩ | ⟨k, h⟩ | ⟨k, h⟩ | ⟨k, h⟩
    · exact .inl (same x r x0 x1 r0 r1 ⟨k - k0, by grind⟩)
    · exact .inr (.inl (same x (p - r) x0 x1 (by omega) (by omega) ⟨k - 1 + k0, by grind⟩))
    · exact .inr (.inr (.inl (same x i x0 x1 i0 i1 ⟨k * i - x * k4 + x * i * k0, by grind⟩)))
    · exact .inr (.inr (.inr (same x (p - i) x0 x1 (by omega) (by omega) ⟨k * i - x * k4 + x * i * k0 - 1, by grind⟩)))
  unfold min4
  have hmin : min (min (min r (p - r)) i) (p - i) = r ∨ min (min (min r (p - r)) i) (p - i) = p - r ∨ min (min (min r (p - r)) i) (p - i) = i ∨ min (min (min r (p - r)) i) (p - i) = p - i := by omega
  refine ⟨by omega, by omega, ?_, fun x x0 x1 ha => ?_⟩
  · rcases hmin with h | h | h | h <;> rw [h] <;> assumption
  · rcases all x x0 x1 ha with h | h | h | h <;> omega

/-- Standard: the number, or refused -/
def std? (p q : Int) : Option Int := if (bzT p q).1 = 1 then some (stdZ p q) else none

theorem gcd_of {p q q' : Int} (hg : (bzT p q).1 = 1) (h : ∀ d, Dv d p → Dv d q' → Dv d q ∨ Dv d 1) : (bzT p q').1 = 1 := by
  obtain ⟨g1, _, _, _, _, _⟩ := bzT_all p q
  obtain ⟨_, b2, b3, b4, _, _⟩ := bzT_all p q'
  refine one_of_dv b2 ?_
  rcases h _ b3 b4 with ⟨k, hk⟩ | h
  · obtain ⟨m, hm⟩ := b3
    rw [hg] at g1
    exact ⟨(bzT p q).2.1 * m + (bzT p q).2.2 * k, by grind⟩
  · exact h

theorem gcd_al {p q m : Int} (hg : (bzT p q).1 = 1) (ha : Al p m q) : (bzT p m).1 = 1 := by
  refine gcd_of hg fun d ⟨k, hk⟩ ⟨j, hj⟩ => ?_
  rcases ha with ⟨t, h⟩ | ⟨t, h⟩ | ⟨t, h⟩ | ⟨t, h⟩
  · exact .inl ⟨j - k * t, by grind⟩
  · exact .inl ⟨k * t - j, by grind⟩
  · exact .inr ⟨j * q - k * t, by grind⟩
  · exact .inr ⟨k * t - j * q, by grind⟩

/-- what the law says of standard forms -/
theorem std_law (p q : Int) (hp : 0 ≤ p) (hg : (bzT p q).1 = 1) :
    (bzT p (stdZ p q)).1 = 1 ∧ stdZ p (stdZ p q) = stdZ p q ∧ (bzT p (-q)).1 = 1 ∧ stdZ p (-q) = stdZ p q ∧
      ∀ r, (bzT p r).1 = 1 → (p = 0 → stdZ p r = stdZ p q) ∧ (p ≠ 0 → (stdZ p q = stdZ p r ↔ Al p q r)) := by
  have gneg : (bzT p (-q)).1 = 1 := gcd_of hg fun d _ ⟨j, hj⟩ => .inl ⟨-j, by grind⟩
  by_cases h2 : p < 2
  · have e : ∀ x, stdZ p x = 1 - p := fun x => by unfold stdZ; rw [if_pos h2]
    have h01 : p = 0 ∨ p = 1 := by omega
    refine ⟨?_, by rw [e, e], gneg, by rw [e, e], fun r hr => ⟨fun _ => by rw [e, e], fun h => ?_⟩⟩
    · rw [e]
      rcases h01 with rfl | rfl <;> rfl
    · have : p = 1 := by omega
      subst this
      exact ⟨fun _ => .inl ⟨q - r, by grind⟩, fun _ => by rw [e, e]⟩
  · have s1 := stdZ_is p q (by omega) hg
    have ga := gcd_al hg s1.al
    have s2 := stdZ_is p (stdZ p q) (by omega) ga
    have s3 := stdZ_is p (-q) (by omega) gneg
    refine ⟨ga, s2.uniq s1 s1.al, gneg, s3.uniq s1 (.inr (.inl ⟨0, by grind⟩)), fun r hr => ⟨fun h => by omega, fun _ => ?_⟩⟩
    have s4 := stdZ_is p r (by omega) hr
    constructor
    · intro h
      rw [← h] at s4
      exact s1.al.sym.trans s4.al
    · intro h
      exact s1.uniq s4 h

end Go.Lens
